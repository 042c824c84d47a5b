import Derived.Below
import Derived.ChangeOld
import Derived.ChangeSame
import Derived.Deep.Slices
import Derived.OpenShut
import Derived.ProofKit
import Derived.ShutString
import Derived.SizedLaws
import Derived.Test.YtekdacalkllipaaGreatRows
import Derived.WalkKit
import Derived.Test.YtekdacalkllipaaGreatZB6
section
/- RotaFails, walked: true, whatever the input. -/
namespace Go.Proofs.YtekdacalkllipaaGreat.PR
open Go.RowKit Go.Shelf Go.Proofs.YtekdacalkllipaaGreatW.PrintWords Go.Proofs.YtekdacalkllipaaGreatW.PrintLast Go.Proofs.YtekdacalkllipaaGreatW.PrintMore
set_option linter.unusedVariables false
set_option linter.unusedSimpArgs false
attribute [local go_sem] Oper.semAt_some
attribute [local simp] wide_fn

theorem reffails_c {A0 A1 A2 A3 : Option Addr} {c0 c1 c2 c3 : Nat} {w : World} {l0 : List Int} {l1 : List S119} {l2 l3 : List (List Int)} (c : Int) (h0 : SL (Kd.int .i64) A0 c0 w l0) (h1 : SL k119 A1 c1 w l1) (h2 : SL KR A2 c2 w l2) (h3 : SL KR A3 c3 w l3) {n : Int} (hb : Ev (fun k => glisterref10_Fails.f k l0 l1 l2 l3 c) n) :
    Calls Tryz.prog 26 #[.agg #[.slice A0 l0.length c0, .slice A1 l1.length c1, .slice A2 l2.length c2], .slice A3 l3.length c3, .int .i64 c] w fun e w' => e = .returned (.int .i64 n) ∧ Below w.heap.size w w' := by
  obtain ⟨k, hk⟩ := hb.one
  exact glisterref10_Fails.calls k A0 c0 l0 A1 c1 l1 A2 c2 l2 A3 c3 l3 c n w h0.2 h0.1 h1.2 h1.1 h2.2 h2.1 h3.2 h3.1 hk
theorem rota_ill {need : List Int} {people : List S128} {cases r : List (List Int)} (h : rotaErr need people cases r = 0) : ∀ l ∈ cases, (∀ y ∈ l, -1 ≤ y) ∧ ∀ on ∈ r, ∀ x ∈ on, 0 ≤ x ∧ x < l.length := by
  obtain ⟨_, _, h3⟩ := rotaErr_fine need people cases r h
  obtain ⟨hpe, _, _⟩ := rotaErr_ok h
  intro l hl
  refine ⟨?_, h3 l hl⟩
  unfold postErr at hpe
  split at hpe
  · cases hpe
  · split at hpe
    · cases hpe
    · rename_i hb
      simp only [not_or, Bool.not_eq_false] at hb
      have := List.all_eq_true.1 hb.2.2.2.2 l hl
      unfold illOk at this
      rw [Bool.and_eq_true] at this
      intro y hy
      have h9 := List.all_eq_true.1 this.2 y hy
      unfold inr at h9
      have := of_decide_eq_true h9
      omega
set_option maxRecDepth 100000 in
set_option maxHeartbeats 4000000 in
theorem rotaFails_walk {A0 A1 A2 A3 : Option Addr} {c0 c1 c2 c3 : Nat} {w : World} {l0 : List Int} {l1 : List S119} {l2 l3 : List (List Int)} (h0 : SL (Kd.int .i64) A0 c0 w l0) (h1 : SL k119 A1 c1 w l1) (h2 : SL KR A2 c2 w l2) (h3 : SL KR A3 c3 w l3) :
    Calls Tryz.prog 4 #[.agg #[.slice A0 l0.length c0, .slice A1 l1.length c1, .slice A2 l2.length c2], .slice A3 l3.length c3] w fun e w' => e = .returned (.bool true) ∧ Below w.heap.size w w' := by
  obtain ⟨P, hP⟩ : ∃ P, P = w.heap.size := ⟨_, rfl⟩
  obtain ⟨w0, hw0⟩ : ∃ w0, w0 = w.alloc (.cells #[.slice A0 l0.length c0, .slice A1 l1.length c1, .slice A2 l2.length c2] 26) := ⟨_, rfl⟩
  have hb : Below w.heap.size w w0 := by rw [hw0]; exact below_alloc (Below.refl _ _) _
  have HK0 : Aside0 (w0.heap[P]? = some (.cells #[.slice A0 l0.length c0, .slice A1 l1.length c1, .slice A2 l2.length c2] 26 (0, 0))) := ⟨by rw [hw0, hP]; exact blk_new w _⟩
  have HX0 := Aside0.mk (h0.below hb)
  have HY0 := Aside0.mk (h1.below hb)
  have HZ0 := Aside0.mk (h2.below hb)
  have HR0 := Aside0.mk (h3.below hb)
  have HB0 := Aside0.mk hb
  clear h0 h1 h2 h3 hb
  obtain ⟨b, hb1, hb2⟩ := thin_ev l0 l1 l2
  obtain ⟨sc, hs1, hs2⟩ := short_ev l3
  have HT := Aside0.mk (And.intro hb1 hb2)
  have HS := Aside0.mk (And.intro hs1 hs2)
  clear hb1 hb2 hs1 hs2
  refine (callsIn_wide (n := 30)).1 ?_
  refine callsIn_of_wp Tryz.func4 rfl trivial ?_ rfl
  simp only [Tryz.ntmps4, List.size_toArray, List.length_cons, List.length_nil, Nat.reduceAdd, Nat.reduceSub, Array.replicate_succ, Array.replicate_zero, List.push_toArray, List.append_toArray, List.nil_append, List.cons_append]
  have hu26 := Tryz.underlying26
  have qHK0 : w0.cell? ⟨P, 0, none⟩ = some (.slice A0 l0.length c0) := (blk_cell HK0.out 0).trans rfl
  have qHK1 : w0.cell? ⟨P, 1, none⟩ = some (.slice A1 l1.length c1) := (blk_cell HK0.out 1).trans rfl
  have qHK2 : w0.cell? ⟨P, 2, none⟩ = some (.slice A2 l2.length c2) := (blk_cell HK0.out 2).trans rfl
  have hc := Aside0.mk (thin_c HX0.out HY0.out HZ0.out HT.out.1)
  rw [hw0] at qHK0 qHK1 qHK2
  rw [hP] at qHK0 qHK1 qHK2
  gi_wp2_with fail
  rw [← hw0, ← hP]
  have HP := Aside0.mk hP
  clear hP hw0 qHK0 qHK1 qHK2
  refine (callsIn_wide.2 hc.out).mono ?_
  rintro e w1 ⟨rfl, hb⟩
  clear hc
  have HB1 := Aside0.mk (HB0.out.trans (hb.mono HB0.out.size))
  have HK1 := Aside0.mk (blk_below HK0.out hb)
  have HX1 := Aside0.mk (HX0.out.below hb)
  have HY1 := Aside0.mk (HY0.out.below hb)
  have HZ1 := Aside0.mk (HZ0.out.below hb)
  have HR1 := Aside0.mk (HR0.out.below hb)
  clear hb HB0 HK0 HX0 HY0 HZ0 HR0
  cases b with
  | false =>
    have hc := Aside0.mk (lawake_any w1)
    gi_wp2_with fail
    refine (callsIn_wide.2 hc.out).mono ?_
    rintro e w2 ⟨rfl, hb⟩
    clear hc
    have HB2 := Aside0.mk (HB1.out.trans (hb.mono HB1.out.size))
    have HK2 := Aside0.mk (blk_below HK1.out hb)
    have HX2 := Aside0.mk (HX1.out.below hb)
    have HY2 := Aside0.mk (HY1.out.below hb)
    have HZ2 := Aside0.mk (HZ1.out.below hb)
    have HR2 := Aside0.mk (HR1.out.below hb)
    clear hb HB1 HK1 HX1 HY1 HZ1 HR1
    gi_wp2
    go_ret
    exact ⟨rfl, HB2.out⟩
  | true =>
    obtain ⟨t0, t1, t2, t3, t4⟩ := HT.out.2 rfl
    have hc := Aside0.mk (short_c HR1.out HS.out.1)
    gi_wp2_with fail
    refine (callsIn_wide.2 hc.out).mono ?_
    rintro e w2 ⟨rfl, hb⟩
    clear hc
    have HB2 := Aside0.mk (HB1.out.trans (hb.mono HB1.out.size))
    have HK2 := Aside0.mk (blk_below HK1.out hb)
    have HX2 := Aside0.mk (HX1.out.below hb)
    have HY2 := Aside0.mk (HY1.out.below hb)
    have HZ2 := Aside0.mk (HZ1.out.below hb)
    have HR2 := Aside0.mk (HR1.out.below hb)
    clear hb HB1 HK1 HX1 HY1 HZ1 HR1
    cases sc with
    | false =>
      have hc := Aside0.mk (lawake_any w2)
      gi_wp2_with fail
      refine (callsIn_wide.2 hc.out).mono ?_
      rintro e w3 ⟨rfl, hb⟩
      clear hc
      have HB3 := Aside0.mk (HB2.out.trans (hb.mono HB2.out.size))
      have HK3 := Aside0.mk (blk_below HK2.out hb)
      have HX3 := Aside0.mk (HX2.out.below hb)
      have HY3 := Aside0.mk (HY2.out.below hb)
      have HZ3 := Aside0.mk (HZ2.out.below hb)
      have HR3 := Aside0.mk (HR2.out.below hb)
      clear hb HB2 HK2 HX2 HY2 HZ2 HR2
      gi_wp2
      go_ret
      exact ⟨rfl, HB3.out⟩
    | true =>
      obtain ⟨s0, s1⟩ := HS.out.2 rfl
      obtain ⟨ps, hps⟩ : ∃ ps, ps = l1.map toP := ⟨_, rfl⟩
      have hpo := (post_ev l0 l1 l2 (by omega) (by omega) (fun x hx => by have := t3 x hx; omega) (by omega) (fun x hx => by have := t4 x hx; omega))
      rw [← hps] at hpo
      have HPO := Aside0.mk hpo
      have HRO := Aside0.mk (rows_ev l3 (by omega) (fun x hx => by have := s1 x hx; omega))
      have hpl := planned_ev l0 l1 l2 l3 (by omega) (by omega) (by omega) (by omega) (fun x hx => by have := s1 x hx; omega)
      obtain ⟨e1, he1⟩ : ∃ e1, e1 = rotaErr l0 ps l2 l3 := ⟨_, rfl⟩
      obtain ⟨fl, hfl⟩ : ∃ fl, fl = (if e1 = 0 then failsL l0 l2 l3 else []) := ⟨_, rfl⟩
      obtain ⟨fn, hfn⟩ : ∃ fn, fn = fl.length := ⟨_, rfl⟩
      rw [← hps, ← he1] at hpl
      have HPS := Aside0.mk hps
      have HPL := Aside0.mk hpl
      have HE1 := Aside0.mk he1
      have HFL := Aside0.mk hfl
      have HFN := Aside0.mk hfn
      have HTH := Aside0.mk (And.intro t1 (And.intro s0 (And.intro s1 t2)))
      clear hpo hps hpl he1 hfl hfn t0 t1 t2 t3 t4 s0 s1 HT HS
      have qHK0 : w2.cell? ⟨P, 0, none⟩ = some (.slice A0 l0.length c0) := (blk_cell HK2.out 0).trans rfl
      have qHK1 : w2.cell? ⟨P, 1, none⟩ = some (.slice A1 l1.length c1) := (blk_cell HK2.out 1).trans rfl
      have qHK2 : w2.cell? ⟨P, 2, none⟩ = some (.slice A2 l2.length c2) := (blk_cell HK2.out 2).trans rfl
      have hc := Aside0.mk (post_c HX2.out HY2.out HZ2.out HPO.out)
      gi_wp2_with fail
      refine (callsIn_wide.2 hc.out).mono ?_
      rintro e w3 ⟨B0, d0, B1, d1, B2, d2, rfl, g0, g1, g2, hb⟩
      clear hc qHK0 qHK1 qHK2
      have HB3 := Aside0.mk (HB2.out.trans (hb.mono HB2.out.size))
      have HK3 := Aside0.mk (blk_below HK2.out hb)
      have HX3 := Aside0.mk (HX2.out.below hb)
      have HY3 := Aside0.mk (HY2.out.below hb)
      have HZ3 := Aside0.mk (HZ2.out.below hb)
      have HR3 := Aside0.mk (HR2.out.below hb)
      clear hb HB2 HK2 HX2 HY2 HZ2 HR2
      have HU3 := Aside0.mk g0
      clear g0
      have HV3 := Aside0.mk g1
      clear g1
      have HW3 := Aside0.mk g2
      clear g2
      have hc := Aside0.mk (rows_c HR3.out HRO.out)
      gi_wp2_with fail
      refine (callsIn_wide.2 hc.out).mono ?_
      rintro e w4 ⟨AQ, cQ, rfl, g3, hb⟩
      clear hc
      have HB4 := Aside0.mk (HB3.out.trans (hb.mono HB3.out.size))
      have HK4 := Aside0.mk (blk_below HK3.out hb)
      have HX4 := Aside0.mk (HX3.out.below hb)
      have HY4 := Aside0.mk (HY3.out.below hb)
      have HZ4 := Aside0.mk (HZ3.out.below hb)
      have HR4 := Aside0.mk (HR3.out.below hb)
      have HU4 := Aside0.mk (HU3.out.below hb)
      have HV4 := Aside0.mk (HV3.out.below hb)
      have HW4 := Aside0.mk (HW3.out.below hb)
      clear hb HB3 HK3 HX3 HY3 HZ3 HR3 HU3 HV3 HW3
      have HQ4 := Aside0.mk g3
      clear g3
      have hcf := fails_c HU4.out HV4.out HW4.out HQ4.out (by have := HTH.out.2.2.2; omega)
      rw [← HE1.out, ← HFL.out, ← HFN.out] at hcf
      have HCF := Aside0.mk hcf
      clear hcf
      have hc := Aside0.mk (HCF.out)
      gi_wp2_with fail
      refine (callsIn_wide.2 hc.out).mono ?_
      rintro e w5 ⟨AX, cX, rfl, gx, hb⟩
      clear hc
      have HB5 := Aside0.mk (HB4.out.trans (hb.mono HB4.out.size))
      have HK5 := Aside0.mk (blk_below HK4.out hb)
      have HX5 := Aside0.mk (HX4.out.below hb)
      have HY5 := Aside0.mk (HY4.out.below hb)
      have HZ5 := Aside0.mk (HZ4.out.below hb)
      have HR5 := Aside0.mk (HR4.out.below hb)
      have HU5 := Aside0.mk (HU4.out.below hb)
      have HV5 := Aside0.mk (HV4.out.below hb)
      have HW5 := Aside0.mk (HW4.out.below hb)
      have HQ5 := Aside0.mk (HQ4.out.below hb)
      clear hb HB4 HK4 HX4 HY4 HZ4 HR4 HU4 HV4 HW4 HQ4
      have HF5 := Aside0.mk gx
      clear gx
      clear HCF
      clear HU5 HV5 HW5 HQ5
      have qHK0 : w5.cell? ⟨P, 0, none⟩ = some (.slice A0 l0.length c0) := (blk_cell HK5.out 0).trans rfl
      have qHK1 : w5.cell? ⟨P, 1, none⟩ = some (.slice A1 l1.length c1) := (blk_cell HK5.out 1).trans rfl
      have qHK2 : w5.cell? ⟨P, 2, none⟩ = some (.slice A2 l2.length c2) := (blk_cell HK5.out 2).trans rfl
      have hc := Aside0.mk (planned_c HX5.out HY5.out HZ5.out HR5.out HPL.out)
      gi_wp2_with fail
      refine (callsIn_wide.2 hc.out).mono ?_
      rintro e w6 ⟨rfl, hb⟩
      clear hc qHK0 qHK1 qHK2
      have HB6 := Aside0.mk (HB5.out.trans (hb.mono HB5.out.size))
      have HK6 := Aside0.mk (blk_below HK5.out hb)
      have HX6 := Aside0.mk (HX5.out.below hb)
      have HY6 := Aside0.mk (HY5.out.below hb)
      have HZ6 := Aside0.mk (HZ5.out.below hb)
      have HR6 := Aside0.mk (HR5.out.below hb)
      have HF6 := Aside0.mk (HF5.out.below hb)
      clear hb HB5 HK5 HX5 HY5 HZ5 HR5 HF5
      by_cases hz : e1 = 0
      · have bz : (e1 != 0) = false := by rw [hz]; rfl
        subst hz
        have hf : fl = failsL l0 l2 l3 := by rw [HFL.out, if_pos rfl]
        have hlen : fn = l2.length + 1 := by rw [HFN.out, hf]; simp [failsL]
        have hbn : ((fn : Int) != (l2.length : Int) + 1) = false := by rw [bne_eq_false_iff_eq]; omega
        have hw1 : IntKind.i64.wrap ((l2.length : Int) + 1) = (l2.length : Int) + 1 := by rw [IntKind.wrap_i64]; have := HTH.out.2.2.2; omega
        obtain ⟨ad, hA, _⟩ := HF6.out.2.2.2 (by rw [← HFN.out]; omega)
        subst hA
        have hl2 : l2.length ≤ 7 := HTH.out.2.2.2
        have HBD := Aside0.mk hf
        have HLEN := Aside0.mk hlen
        clear hlen
        clear hf
        have qHK0 : w6.cell? ⟨P, 0, none⟩ = some (.slice A0 l0.length c0) := (blk_cell HK6.out 0).trans rfl
        have qHK1 : w6.cell? ⟨P, 1, none⟩ = some (.slice A1 l1.length c1) := (blk_cell HK6.out 1).trans rfl
        have qHK2 : w6.cell? ⟨P, 2, none⟩ = some (.slice A2 l2.length c2) := (blk_cell HK6.out 2).trans rfl
        gi_wp2
        clear qHK0 qHK1 qHK2
        gi_loopw [8] (fun s8 wr => ∃ c : Nat, c ≤ fn ∧ s8 = .int .i64 c ∧ Aside0 (Below w.heap.size w wr) ∧ Aside0 (wr.heap[P]? = some (.cells #[.slice A0 l0.length c0, .slice A1 l1.length c1, .slice A2 l2.length c2] 26 (0, 0))) ∧ Aside0 (SL (Kd.int .i64) A0 c0 wr l0) ∧ Aside0 (SL k119 A1 c1 wr l1) ∧ Aside0 (SL KR A2 c2 wr l2) ∧ Aside0 (SL KR A3 c3 wr l3) ∧ Aside0 (SL (Kd.int .i64) (some ad) cX wr fl))
          (fun s8 _ => fn - (intOf s8).toNat)
        case atStart => exact ⟨0, Nat.zero_le _, rfl, HB6, HK6, HX6, HY6, HZ6, HR6, HF6⟩
        case round =>
          obtain ⟨c, hc, rfl, HBr, HKr, HXr, HYr, HZr, HRr, HFr⟩ := hrel
          by_cases hlt : c < fn
          · have hltz : (c : Int) < (fn : Int) := by omega
            obtain ⟨v, hv⟩ : ∃ v, v = fl.getD c 0 := ⟨_, rfl⟩
            have hvf : v = failsS l0 (caseAt l2 c) 0 l3 := by
              rw [hv, HBD.out, failsL, List.getD_eq_getElem?_getD, List.getElem?_map, List.getElem?_range (by have := HLEN.out; omega)]; rfl
            have he1 := HE1.out.symm
            have hev := reffails_ev l0 l1 l2 l3 c (by have := HLEN.out; omega) (rotaErr_ok he1).2.1 (by have := HTH.out.2.1; omega) (fun x hx => by have := HTH.out.2.2.1 x hx; omega) (rota_ill he1)
            rw [← hvf] at hev
            have HEV := Aside0.mk hev
            have HV := Aside0.mk hv
            clear hvf he1 hev hv
            gi_wp2
            refine region_mk (by kernel_rfl) (fun t => { tmps := #[.agg #[.slice A0 l0.length c0, .slice A1 l1.length c1, .slice A2 l2.length c2], .slice A3 l3.length c3, .pointer (some ⟨P, 0, none⟩), undef, u4, .slice (some ad) fn cX, .int .i64 0, .int .i64 0, .int .i64 (c : Int), .agg #[.slice A0 l0.length c0, .slice A1 l1.length c1, .slice A2 l2.length c2], .bool true, .bool false, .bool false, .slice A3 l3.length c3, .bool true, .bool false, .bool false, undef, .tuple #[.slice (some ad) fn cX, .int .i64 0], .agg #[.slice A0 l0.length c0, .slice A1 l1.length c1, .slice A2 l2.length c2], .agg #[.slice B0 l0.length d0, .slice B1 ps.length d1, .slice B2 l2.length d2], .slice A3 l3.length c3, .slice AQ l3.length cQ, .tuple #[.slice (some ad) fn cX, .int .i64 0], .slice (some ad) fn cX, .int .i64 0, .agg #[.slice A0 l0.length c0, .slice A1 l1.length c1, .slice A2 l2.length c2], .slice A3 l3.length c3, .int .i64 0, .int .i64 0, .bool false, undef, undef, undef, undef, undef, undef, undef, undef, undef, undef, undef, .int .i64 0, .bool false, .bool false, .slice (some ad) fn cX, .int .i64 (fn : Int), .pointer (some ⟨P, 2, none⟩), .slice A2 l2.length c2, .int .i64 (l2.length : Int), .int .i64 ((l2.length : Int) + 1), .bool false, .bool false, .int .i64 (c : Int), .slice (some ad) fn cX, .int .i64 (fn : Int), .bool true, u57, u58, t 0, t 1, t 2, t 3, t 4, t 5, t 6, t 7, t 8, undef], defers := [] })
              (fun L t w' => Below wr.heap.size wr w')
              (fun ix vx => match ix with | 0 => vx = .slice (some ad) fn cX | 1 => vx = .int .i64 (c : Int) | 2 => vx = .pointer (some (ad.add c)) | 3 => vx = .int .i64 v | 4 => vx = .agg #[.slice A0 l0.length c0, .slice A1 l1.length c1, .slice A2 l2.length c2] | 5 => vx = .slice A3 l3.length c3 | 6 => vx = .int .i64 (c : Int) | 7 => vx = .int .i64 v | 8 => vx = .bool false | _ => True)
              (fun j => match j with | 0 => u59 | 1 => u60 | 2 => u61 | 3 => u62 | 4 => u63 | 5 => u64 | 6 => u65 | 7 => u66 | 8 => u67 | _ => undef) (by kernel_rfl) (pw_below_drewN (Below.refl _ _) 1) ?stepA ?doneA
            case stepA =>
              intro ix hix
              have hi' : ix < 9 := hix
              match ix, hi' with
              | 0, _ =>
                intro L t w' hL hJ hX hdep hcl
                refine wpOpIn_step rfl (fun K hK => ?_)
                dsimp only
                go_simp
                refine hK _ _ ⟨.slice (some ad) fn cX, ?_, rfl, hJ⟩
                simp [upd]
              | 1, _ =>
                intro L t w' hL hJ hX hdep hcl
                refine wpOpIn_step rfl (fun K hK => ?_)
                dsimp only
                go_simp
                refine hK _ _ ⟨.int .i64 (c : Int), ?_, rfl, hJ⟩
                simp [upd]
              | 2, _ =>
                intro L t w' hL hJ hX hdep hcl
                have x0 : t 0 = .slice (some ad) fn cX := hX 0 (hdep _ rfl ⟨0, .data⟩ (by simp) rfl)
                have x1 : t 1 = .int .i64 (c : Int) := hX 1 (hdep _ rfl ⟨1, .data⟩ (by simp) rfl)
                refine wpOpIn_step rfl (fun K hK => ?_)
                dsimp only
                simp only [x0, x1]
                go_simp
                refine hK _ _ ⟨.pointer (some (ad.add c)), ?_, rfl, hJ⟩
                simp [upd, x0, x1]
              | 3, _ =>
                intro L t w' hL hJ hX hdep hcl
                have x2 : t 2 = .pointer (some (ad.add c)) := hX 2 (hdep _ rfl ⟨2, .data⟩ (by simp) rfl)
                obtain ⟨ad', ea, hx⟩ := Kd.at_int (HFr.out.below hJ).2 (c : Int) (by omega) (by have := HFN.out; omega)
                cases ea
                simp only [Int.toNat_natCast, rd_get] at hx
                rw [← HV.out] at hx
                refine wpOpIn_step rfl (fun K hK => ?_)
                dsimp only
                simp only [x2]
                go_simp
                refine hK _ _ ⟨.int .i64 v, ?_, rfl, hJ⟩
                simp [upd, x2]
              | 4, _ =>
                intro L t w' hL hJ hX hdep hcl
                have hk := blk_below HKr.out hJ
                have qp0 : w'.cell? ⟨P, 0, none⟩ = some (.slice A0 l0.length c0) := (blk_cell hk 0).trans rfl
                have qp1 : w'.cell? ⟨P, 1, none⟩ = some (.slice A1 l1.length c1) := (blk_cell hk 1).trans rfl
                have qp2 : w'.cell? ⟨P, 2, none⟩ = some (.slice A2 l2.length c2) := (blk_cell hk 2).trans rfl
                clear hk
                refine wpOpIn_step rfl (fun K hK => ?_)
                dsimp only
                go_simp
                refine hK _ _ ⟨.agg #[.slice A0 l0.length c0, .slice A1 l1.length c1, .slice A2 l2.length c2], ?_, rfl, hJ⟩
                simp [upd]
              | 5, _ =>
                intro L t w' hL hJ hX hdep hcl
                refine wpOpIn_step rfl (fun K hK => ?_)
                dsimp only
                go_simp
                refine hK _ _ ⟨.slice A3 l3.length c3, ?_, rfl, hJ⟩
                simp [upd]
              | 6, _ =>
                intro L t w' hL hJ hX hdep hcl
                refine wpOpIn_step rfl (fun K hK => ?_)
                dsimp only
                go_simp
                refine hK _ _ ⟨.int .i64 (c : Int), ?_, rfl, hJ⟩
                simp [upd]
              | 7, _ =>
                intro L t w' hL hJ hX hdep hcl
                have x4 : t 4 = .agg #[.slice A0 l0.length c0, .slice A1 l1.length c1, .slice A2 l2.length c2] := hX 4 (hdep _ rfl ⟨4, .data⟩ (by simp) rfl)
                have x5 : t 5 = .slice A3 l3.length c3 := hX 5 (hdep _ rfl ⟨5, .data⟩ (by simp) rfl)
                have x6 : t 6 = .int .i64 (c : Int) := hX 6 (hdep _ rfl ⟨6, .data⟩ (by simp) rfl)
                have hc := Aside0.mk (reffails_c (c : Int) (HXr.out.below hJ) (HYr.out.below hJ) (HZr.out.below hJ) (HRr.out.below hJ) HEV.out)
                refine wpOpIn_step rfl (fun K hK => ?_)
                dsimp only
                simp only [x4, x5, x6]
                go_simp
                refine (callsIn_wide.2 hc.out).mono ?_
                rintro e w2 ⟨rfl, hb⟩
                refine hK _ _ ⟨.int .i64 v, ?_, rfl, hJ.trans (hb.mono hJ.size)⟩
                simp [upd, x4, x5, x6]
              | 8, _ =>
                intro L t w' hL hJ hX hdep hcl
                have x3 : t 3 = .int .i64 v := hX 3 (hdep _ rfl ⟨3, .data⟩ (by simp) rfl)
                have x7 : t 7 = .int .i64 v := hX 7 (hdep _ rfl ⟨7, .data⟩ (by simp) rfl)
                refine wpOpIn_step rfl (fun K hK => ?_)
                dsimp only
                simp only [x3, x7]
                go_simp
                refine hK _ _ ⟨.bool false, ?_, rfl, hJ⟩
                simp [upd, x3, x7]
              | j + 9, h => exact absurd h (by omega)
            case doneA =>
              intro L t w' hL hJ hX
              have x0 : t 0 = .slice (some ad) fn cX := hX 0 (by decide)
              have x1 : t 1 = .int .i64 (c : Int) := hX 1 (by decide)
              have x2 : t 2 = .pointer (some (ad.add c)) := hX 2 (by decide)
              have x3 : t 3 = .int .i64 v := hX 3 (by decide)
              have x4 : t 4 = .agg #[.slice A0 l0.length c0, .slice A1 l1.length c1, .slice A2 l2.length c2] := hX 4 (by decide)
              have x5 : t 5 = .slice A3 l3.length c3 := hX 5 (by decide)
              have x6 : t 6 = .int .i64 (c : Int) := hX 6 (by decide)
              have x7 : t 7 = .int .i64 v := hX 7 (by decide)
              have x8 : t 8 = .bool false := hX 8 (by decide)
              try dsimp only
              simp only [x0, x1, x2, x3, x4, x5, x6, x7, x8]
              have HJ1 := Aside0.mk hJ
              clear x0 x1 x2 x3 x4 x5 x6 x7 x8 hX hJ hL
              have hw2 : IntKind.i64.wrap ((c : Int) + 1) = (c : Int) + 1 := by rw [IntKind.wrap_i64]; have := HLEN.out; omega
              have hw3 : wrap64 ((c : Int) + 1) = (c : Int) + 1 := by unfold wrap64; have := HLEN.out; omega
              gi_wp2
              go_roundw
              case measure => simp [intOf]; omega
              case rel => exact ⟨c + 1, by omega, by go_num, ⟨HBr.out.trans (HJ1.out.mono HBr.out.size)⟩, ⟨blk_below HKr.out HJ1.out⟩, ⟨HXr.out.below HJ1.out⟩, ⟨HYr.out.below HJ1.out⟩, ⟨HZr.out.below HJ1.out⟩, ⟨HRr.out.below HJ1.out⟩, ⟨HFr.out.below HJ1.out⟩⟩
          · have hltz : ¬ (c : Int) < (fn : Int) := by omega
            obtain rfl : c = fn := by omega
            have hc := Aside0.mk (lawake_any wr)
            gi_wp2_with fail
            refine (callsIn_wide.2 hc.out).mono ?_
            rintro e w9 ⟨rfl, hb⟩
            gi_wp2
            go_ret
            exact ⟨rfl, HBr.out.trans (hb.mono HBr.out.size)⟩
      · have bz : (e1 != 0) = true := by rw [bne_iff_ne]; exact hz
        have hf : fl = [] := by rw [HFL.out, if_neg hz]
        obtain rfl : fn = 0 := by rw [HFN.out, hf]; rfl
        have hc := Aside0.mk (lawake_any w6)
        gi_wp2_with fail
        refine (callsIn_wide.2 hc.out).mono ?_
        rintro e w7 ⟨rfl, hb⟩
        clear hc
        have HB7 := Aside0.mk (HB6.out.trans (hb.mono HB6.out.size))
        have HK7 := Aside0.mk (blk_below HK6.out hb)
        have HX7 := Aside0.mk (HX6.out.below hb)
        have HY7 := Aside0.mk (HY6.out.below hb)
        have HZ7 := Aside0.mk (HZ6.out.below hb)
        have HR7 := Aside0.mk (HR6.out.below hb)
        have HF7 := Aside0.mk (HF6.out.below hb)
        clear hb HB6 HK6 HX6 HY6 HZ6 HR6 HF6
        gi_wp2
        go_ret
        exact ⟨rfl, HB7.out⟩
theorem rotaFails_calls {A0 A1 A2 A3 : Option Addr} {c0 c1 c2 c3 : Nat} {w : World} {l0 : List Int} {l1 : List S119} {l2 l3 : List (List Int)} (h0 : Kd.C (Kd.int .i64) w A0 l0.length l0) (e0 : l0.length ≤ c0) (h1 : Kd.C k119 w A1 l1.length l1) (e1 : l1.length ≤ c1) (h2 : Kd.C KR w A2 l2.length l2) (e2 : l2.length ≤ c2) (h3 : Kd.C KR w A3 l3.length l3) (e3 : l3.length ≤ c3) :
    Calls Tryz.prog 4 #[.agg #[.slice A0 l0.length c0, .slice A1 l1.length c1, .slice A2 l2.length c2], .slice A3 l3.length c3] w fun e w' => e = .returned (.bool true) ∧ Below w.heap.size w w' := rotaFails_walk ⟨e0, h0⟩ ⟨e1, h1⟩ ⟨e2, h2⟩ ⟨e3, h3⟩
end Go.Proofs.YtekdacalkllipaaGreat.PR
end
section
/- What a given input reads as, deep: the claim's reading opened in the words of the contracts. -/
namespace Go.Proofs.YtekdacalkllipaaGreat.PR
open Go.RowKit Go.Proofs.YtekdacalkllipaaGreatW.PrintWords Go.Proofs.YtekdacalkllipaaGreatW.PrintLast Go.ChangeShapes Go.WideShapes Go.Deep
set_option linter.unusedVariables false
set_option maxRecDepth 100000

/-- Whatever is read at a type reads in the contracts' words, too. -/
def Opens {α : Type} (P : Program) (d : Kd α) (t : TypeId) : Prop :=
  ∀ {H : Type} (enc : TypeId × Value → H) (w : World) (base : Nat) (spare : Nat → Bool) (held : Bool) (fuel : Nat) (cs : List Value) (x : DataW H × List MemPlace),
    DataW.trod enc P w base spare held fuel t cs = some x → ∃ p, d.K w p cs
theorem opens_bool {P : Program} {t : TypeId} (ht : P.underlying t = some .bool) : Opens P Kd.bool t := fun enc w base spare held fuel cs x h => by
  obtain ⟨b, rfl, _⟩ := DataW.trod_bool ht h
  exact ⟨b, rfl⟩
theorem opens_int {P : Program} {t : TypeId} {k : IntKind} (ht : P.underlying t = some (.int k)) : Opens P (Kd.int k) t := fun enc w base spare held fuel cs x h => by
  obtain ⟨n, rfl, _⟩ := DataW.trod_int ht h
  exact ⟨n, rfl⟩
theorem opens_slice {P : Program} {α : Type} [Inhabited α] {d : Kd α} {t e : TypeId} (ht : P.underlying t = some (.slice e)) (hd : Opens P d e) (hs : P.cellsOf e = d.sz) : Opens P (Kd.slice e d) t := fun enc w base spare held fuel cs x h => by
  rcases open_slice ht h with ⟨rfl, rfl⟩ | ⟨a, len, cap, m, n, D, Pl, rfl, hb, hl, hm, hmm, rfl, hx⟩
  · exact ⟨[], none, 0, rfl, Nat.le_refl _, rfl, by simp, fun h => absurd h (by simp)⟩
  · have hlm : len ≤ m := by rw [hmm]; split <;> omega
    obtain ⟨p, hp⟩ := choose_lt (α := α) (p := fun i p => ∃ cs', w.cells? base (a.add (i * P.cellsOf e)) (P.cellsOf e) = some cs' ∧ d.K w p cs') (n := len) (fun i hi => by
      obtain ⟨cs', h1, h2⟩ := hx i (by omega)
      obtain ⟨p, hp⟩ := hd enc w base spare held n cs' _ h2
      exact ⟨p, cs', h1, hp⟩)
    refine ⟨(List.range len).map p, some a, cap, by simp, by simpa using hl, by simp, by unfold maxLen at hm; simp; omega, fun h0 => ⟨a, rfl, fun j q hj => ?_⟩⟩
    have hj' : j < len := by
      rcases Nat.lt_or_ge j len with h | h
      · exact h
      · rw [List.getElem?_eq_none (by simpa using h)] at hj; cases hj
    rw [List.getElem?_map, List.getElem?_range hj'] at hj
    cases hj
    obtain ⟨cs', h1, h2⟩ := hp j hj'
    obtain ⟨_, hlen, hc⟩ := World.cells?_some h1
    refine ⟨cs', by rw [hlen, hs], h2, fun i u hi => ?_⟩
    have hil : i < P.cellsOf e := by
      rw [← hlen]
      rcases Nat.lt_or_ge i cs'.length with h | h
      · exact h
      · rw [List.getElem?_eq_none h] at hi; cases hi
    have := hc i hil
    rw [hi, Go.Deep.add_add, hs] at this
    exact this
instance : Inhabited S119 := ⟨z119⟩
theorem opens_person : Opens Tryz.prog k119 119 := fun enc w base spare held fuel cs x h => by
  obtain ⟨xs, n, _, _, hl, hxl, hf⟩ := DataW.trod_struct Tryz.underlying119 h
  have hc : Tryz.prog.cellsOf 119 = 3 := by kernel_rfl
  rw [hc] at hl
  match cs, hl with
  | [a, b, c], _ =>
    match xs, hxl with
    | [x0, x1, x2], _ =>
      have f0 : DataW.trod enc Tryz.prog w base spare held n 73 (List.take (Tryz.prog.cellsOf 73) (List.drop 0 [a, b, c])) = some x0 := hf 0 _ rfl
      have f1 : DataW.trod enc Tryz.prog w base spare held n 3 (List.take (Tryz.prog.cellsOf 3) (List.drop 1 [a, b, c])) = some x1 := hf 1 _ rfl
      have f2 : DataW.trod enc Tryz.prog w base spare held n 3 (List.take (Tryz.prog.cellsOf 3) (List.drop 2 [a, b, c])) = some x2 := hf 2 _ rfl
      rw [show Tryz.prog.cellsOf 73 = 1 by kernel_rfl] at f0
      rw [show Tryz.prog.cellsOf 3 = 1 by kernel_rfl] at f1 f2
      obtain ⟨p0, A0, c0, e0, h0, g0⟩ := opens_slice Tryz.underlying73 (opens_bool Tryz.underlying4) (by kernel_rfl) enc w base spare held n _ _ f0
      obtain ⟨p1, e1⟩ := opens_int Tryz.underlying3 enc w base spare held n _ _ f1
      obtain ⟨p2, e2⟩ := opens_int Tryz.underlying3 enc w base spare held n _ _ f2
      cases e0
      cases e1
      cases e2
      exact ⟨⟨p0, p1, p2⟩, k119_mk w ⟨p0, p1, p2⟩ h0 g0⟩
theorem opens_ints : Opens Tryz.prog (Kd.slice 3 (Kd.int .i64)) 22 := opens_slice Tryz.underlying22 (opens_int Tryz.underlying3) (by kernel_rfl)
theorem opens_rows : Opens Tryz.prog (Kd.slice 22 (Kd.slice 3 (Kd.int .i64))) 24 := opens_slice Tryz.underlying24 opens_ints (by kernel_rfl)
theorem opens_people : Opens Tryz.prog (Kd.slice 119 k119) 23 := opens_slice Tryz.underlying23 opens_person (by kernel_rfl)
/-- A given post (the reference's own). -/
theorem open_post {H : Type} {enc : TypeId × Value → H} {w : World} {base : Nat} {spare : Nat → Bool} {held : Bool} {fuel : Nat} {cs : List Value} {x : DataW H × List MemPlace} (h : DataW.trod enc Tryz.prog w base spare held fuel 26 cs = some x) :
    ∃ A0 c0 l0 A1 c1 l1 A2 c2 l2, cs = [.slice A0 l0.length c0, .slice A1 l1.length c1, .slice A2 l2.length c2] ∧ Kd.C (Kd.int .i64) w A0 l0.length l0 ∧ l0.length ≤ c0 ∧ Kd.C k119 w A1 l1.length l1 ∧ l1.length ≤ c1 ∧ Kd.C (Kd.slice 3 (Kd.int .i64)) w A2 l2.length l2 ∧ l2.length ≤ c2 := by
  obtain ⟨xs, n, _, _, hl, hxl, hf⟩ := DataW.trod_struct Tryz.underlying26 h
  have hc : Tryz.prog.cellsOf 26 = 3 := by kernel_rfl
  rw [hc] at hl
  match cs, hl with
  | [a, b, c], _ =>
    match xs, hxl with
    | [x0, x1, x2], _ =>
      have f0 : DataW.trod enc Tryz.prog w base spare held n 22 (List.take (Tryz.prog.cellsOf 22) (List.drop 0 [a, b, c])) = some x0 := hf 0 _ rfl
      have f1 : DataW.trod enc Tryz.prog w base spare held n 23 (List.take (Tryz.prog.cellsOf 23) (List.drop 1 [a, b, c])) = some x1 := hf 1 _ rfl
      have f2 : DataW.trod enc Tryz.prog w base spare held n 24 (List.take (Tryz.prog.cellsOf 24) (List.drop 2 [a, b, c])) = some x2 := hf 2 _ rfl
      rw [show Tryz.prog.cellsOf 22 = 1 by kernel_rfl] at f0
      rw [show Tryz.prog.cellsOf 23 = 1 by kernel_rfl] at f1
      rw [show Tryz.prog.cellsOf 24 = 1 by kernel_rfl] at f2
      obtain ⟨p0, A0, c0, e0, h0, g0⟩ := opens_ints enc w base spare held n _ _ f0
      obtain ⟨p1, A1, c1, e1, h1, g1⟩ := opens_people enc w base spare held n _ _ f1
      obtain ⟨p2, A2, c2, e2, h2, g2⟩ := opens_rows enc w base spare held n _ _ f2
      cases e0
      cases e1
      cases e2
      exact ⟨A0, c0, p0, A1, c1, p1, A2, c2, p2, rfl, g0, h0, g1, h1, g2, h2⟩
/-- A given list of lists. -/
theorem open_rows {H : Type} {enc : TypeId × Value → H} {w : World} {base : Nat} {spare : Nat → Bool} {held : Bool} {fuel : Nat} {cs : List Value} {x : DataW H × List MemPlace} (h : DataW.trod enc Tryz.prog w base spare held fuel 24 cs = some x) :
    ∃ A c l, cs = [.slice A l.length c] ∧ Kd.C (Kd.slice 3 (Kd.int .i64)) w A l.length l ∧ l.length ≤ c := by
  obtain ⟨p, A, c, e, h, g⟩ := opens_rows enc w base spare held fuel cs x h
  exact ⟨A, c, p, e, g, h⟩
end Go.Proofs.YtekdacalkllipaaGreat.PR
end
section
/- The row of RotaFails. -/
namespace Go.Proofs.YtekdacalkllipaaGreat.rotaFails
open Go.ChangeShapes Go.WideShapes Go.ChangeAt Go.RowKit Go.Proofs.YtekdacalkllipaaGreat.PR Go.Proofs.YtekdacalkllipaaGreatW.PrintWords
set_option linter.unusedVariables false
theorem own : ownKnob Tryz.prog.godebug = none := by kernel_rfl
theorem laidOut : laidOutB Tryz.prog = true := by kernel_rfl
set_option maxRecDepth 100000 in
theorem lifted (os : Os) (started : os.Started) (H : Type) (enc : TypeId × Value → H) :
    ReturnsInHanded {} Tryz.checked os 4 .any (Rows.rotaFailsSpec.pre6 enc Tryz.prog Tryz.f4 Rows.rotaFailsRow.domain false) (Rows.rotaFailsSpec.post enc Tryz.prog Tryz.f4 false true false false) := by
  refine returnsInHanded_of_change_sized (C := Tryz.checked) own started (by kernel_rfl) Tryz.func4
    (ChangeSpec.witness6 (enc := enc) (C := Tryz.checked) false ⟨#[], #[.agg #[.slice none 0 0, .slice none 0 0, .slice none 0 0], .slice none 0 0], []⟩ 8 (by kernel_rfl) (by kernel_rfl) (by kernel_rfl) (by kernel_rfl)) ?_
  intro W base args ds gs before hval0 hW hcnd hsz0 _
  have hval : ∀ (j : Nat) t v, Tryz.f4.params[j]? = some t → args[j]? = some v → Value.okWide Tryz.prog W .any base t v := hval0
  have hW' := hW
  obtain ⟨p, q, hA0, hV, rfl, hfz, hnd⟩ := hW
  have hA : DataW.TrodAll enc Tryz.prog W 0 (fun _ => true) true Tryz.f4.params.toList args.toList ds p := hA0
  rw [Tryz.params4] at hA hval
  obtain ⟨v0, vs0, d0, ds0, p0, q0, hargs, rfl, rfl, h0, r0⟩ := trodAll_cons hA
  obtain ⟨v1, vs1, d1, ds1, p1, q1, rfl, rfl, rfl, h1, r1⟩ := trodAll_cons r0
  obtain ⟨rfl, rfl, rfl⟩ := trodAll_nil r1
  obtain rfl : args = #[v0, v1] := by cases args; simp_all
  obtain ⟨rfl, rfl⟩ := trodVars_none hV
  have k0 := h0
  have lt0 : ∀ x ∈ p0, x.block < W.heap.size := by obtain ⟨m, hm⟩ := k0; exact DataW.trod_lt m _ _ _ hm
  obtain ⟨cs0, rfl, _⟩ := okWide_struct Tryz.underlying26 (hval 0 26 v0 rfl rfl)
  obtain ⟨fuel0, hf0⟩ := h0
  obtain ⟨A0_0, c0_0, l0_0, A0_1, c0_1, l0_1, A0_2, c0_2, l0_2, hcs0, g0_0, e0_0, g0_1, e0_1, g0_2, e0_2⟩ := open_post hf0
  obtain rfl : cs0 = #[.slice A0_0 l0_0.length c0_0, .slice A0_1 l0_1.length c0_1, .slice A0_2 l0_2.length c0_2] := Array.ext' hcs0
  have k1 := h1
  have lt1 : ∀ x ∈ p1, x.block < W.heap.size := by obtain ⟨m, hm⟩ := k1; exact DataW.trod_lt m _ _ _ hm
  obtain ⟨a1, len1, cap1, rfl⟩ := okWide_slice Tryz.underlying24 (hval 1 24 v1 rfl rfl)
  obtain ⟨fuel1, hf1⟩ := h1
  obtain ⟨A1, c1, l1, hcs1, g1, e1⟩ := open_rows hf1
  simp [Value.cells] at hcs1
  obtain ⟨rfl, rfl, rfl⟩ := hcs1
  clear hA0 hval0 hsz0
  refine (rotaFails_calls g0_0 e0_0 g0_1 e0_1 g0_2 e0_2 g1 e1).mono fun e W' ⟨he, bel⟩ => ?_
  subst he
  exact ⟨_, rfl, _, _, _, [], _, [], hW', trodAll_mk1 (shut_bool Tryz.underlying4 _), (trodAll_cons_mk (Below.trod laidOut (by kernel_rfl) (of_decide_eq_true (by kernel_rfl)) k0 bel lt0) (trodAll_cons_mk (Below.trod laidOut (by kernel_rfl) (of_decide_eq_true (by kernel_rfl)) k1 bel lt1) trodAll_mk0)), rfl, bel.frame _, fun h => by cases h⟩
theorem over : Rows.rotaFailsRow.holds Tryz.pinned (OpenSpec.ofChange Rows.rotaFailsSpec) :=
  OpenClaim.holds_of_wide 4 Tryz.f4 rfl rfl rfl rfl rfl rfl rfl ⟨rfl, rfl, rfl, rfl, rfl⟩ rfl rfl rfl rfl rfl (by kernel_rfl) Tryz.func4 (by kernel_rfl)
    (of_decide_eq_true (by kernel_rfl)) (by unfold Func.isWrapper; first | (rw [if_pos (by decide +kernel)]; kernel_rfl) | (rw [if_neg (by decide +kernel)]; exact ⟨rfl, rfl⟩))
    (fun os started H enc _ => lifted os started H enc)
theorem proved : Rows.RotaFailsSaid := over
end Go.Proofs.YtekdacalkllipaaGreat.rotaFails
namespace Go.Proofs.YtekdacalkllipaaGreat
/-- The row, under a short name, for the claim. -/
theorem rotaFails_holds : Rows.RotaFailsSaid := rotaFails.proved
end Go.Proofs.YtekdacalkllipaaGreat
end
