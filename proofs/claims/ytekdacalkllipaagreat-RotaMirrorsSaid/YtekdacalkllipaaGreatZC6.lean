import Derived.Below
import Derived.ChangeOld
import Derived.ChangeSame
import Derived.Deep.Slices
import Derived.OpenShut
import Derived.ProofKit
import Derived.ShutString
import Derived.SizedLaws
import Derived.Test.YtekdacalkllipaaGreatRows
import Derived.WalkKit
import Derived.Test.YtekdacalkllipaaGreatZC5
section
/- The laws' helpers as calls: mirrors. -/
namespace Go.Proofs.YtekdacalkllipaaGreat.PR
open Go.RowKit Go.Shelf Go.Proofs.YtekdacalkllipaaGreatW.PrintWords Go.Proofs.YtekdacalkllipaaGreatW.PrintLast Go.Proofs.YtekdacalkllipaaGreatW.PrintMore
set_option linter.unusedVariables false

section
variable {A0 A1 A2 : Option Addr} {c0 c1 c2 : Nat} {w : World} {fl : Int} {l0 : List S177} {l1 l2 : List Int}
theorem mirror_c (h0 : SL k177 A0 c0 w l0) {L : List S98} (hb : Ev (fun k => glisterlaw10_Mirror.f k fl l0) (fl, L)) :
    Calls Tryz.prog 45 #[.agg #[.int .i64 fl, .slice A0 l0.length c0]] w fun e w' => ∃ A c, e = .returned (.agg #[.int .i64 fl, .slice A L.length c]) ∧ SL k98 A c w' L ∧ Below w.heap.size w w' := by
  obtain ⟨k, hk⟩ := hb.one
  refine (glisterlaw10_Mirror.calls k fl A0 c0 l0 fl L w h0.2 h0.1 hk).mono ?_
  rintro e w' ⟨v, rfl, hR, hb⟩
  obtain ⟨A, c, rfl, d0, e0⟩ := Kd.R_reads hR
  exact ⟨A, c, rfl, ⟨d0, e0⟩, hb⟩
theorem list_c (h1 : SL (Kd.int .i64) A1 c1 w l1) (hl : l1.length < 1000) :
    Calls Tryz.prog 46 #[.slice A1 l1.length c1] w fun e w' => ∃ A c, e = .returned (.slice A l1.length c) ∧ SL (Kd.int .i64) A c w' l1 ∧ Below w.heap.size w w' := by
  refine (glisterlaw10_list.calls A1 c1 l1 l1 w h1.2 h1.1 (list_ev l1 hl)).mono ?_
  rintro e w' ⟨v, rfl, hR, hb⟩
  obtain ⟨A, c, rfl, d0, e0⟩ := Kd.R_reads hR
  exact ⟨A, c, rfl, ⟨d0, e0⟩, hb⟩
theorem mfault_c (h0 : SL k177 A0 c0 w l0) {n : Int} (hb : Ev (fun k => glisterref10_MirrorFault.f k fl l0) n) :
    Calls Tryz.prog 48 #[.agg #[.int .i64 fl, .slice A0 l0.length c0]] w fun e w' => e = .returned (.int .i64 n) ∧ Below w.heap.size w w' := by
  obtain ⟨k, hk⟩ := hb.one
  exact glisterref10_MirrorFault.calls k fl A0 c0 l0 n w h0.2 h0.1 hk
theorem refpolish_c (h0 : SL k177 A0 c0 w l0) {best : List Int} {b : Bool} (hb : Ev (fun k => glisterref10_Polish.f k fl l0) (best, b)) :
    Calls Tryz.prog 49 #[.agg #[.int .i64 fl, .slice A0 l0.length c0]] w fun e w' => ∃ A c, e = .returned (.tuple #[.slice A best.length c, .bool b]) ∧ SL (Kd.int .i64) A c w' best ∧ Below w.heap.size w w' := by
  obtain ⟨k, hk⟩ := hb.one
  refine (glisterref10_Polish.calls k fl A0 c0 l0 best b w h0.2 h0.1 hk).mono ?_
  rintro e w' ⟨v, rfl, hR, hb⟩
  obtain ⟨A, c, rfl, d0, e0⟩ := Kd.R_reads hR
  exact ⟨A, c, rfl, ⟨d0, e0⟩, hb⟩
theorem ends_c (high : Bool) (h0 : SL k177 A0 c0 w l0) {t : List Int} (hb : Ev (fun k => glisterref10_Ends.f k fl l0 high) t) :
    Calls Tryz.prog 52 #[.agg #[.int .i64 fl, .slice A0 l0.length c0], .bool high] w fun e w' => ∃ A c, e = .returned (.slice A t.length c) ∧ SL (Kd.int .i64) A c w' t ∧ Below w.heap.size w w' := by
  obtain ⟨k, hk⟩ := hb.one
  refine (glisterref10_Ends.calls k fl A0 c0 l0 high t w h0.2 h0.1 hk).mono ?_
  rintro e w' ⟨v, rfl, hR, hb⟩
  obtain ⟨A, c, rfl, d0, e0⟩ := Kd.R_reads hR
  exact ⟨A, c, rfl, ⟨d0, e0⟩, hb⟩
theorem dims_c (h0 : SL k177 A0 c0 w l0) (h1 : SL (Kd.int .i64) A1 c1 w l1) (h2 : SL (Kd.int .i64) A2 c2 w l2) {t : List Int} (hb : Ev (fun k => glisterref10_Dims.f k fl l0 l1 l2) t) :
    Calls Tryz.prog 51 #[.agg #[.int .i64 fl, .slice A0 l0.length c0], .slice A1 l1.length c1, .slice A2 l2.length c2] w fun e w' => ∃ g c, e = .returned (.slice (some ⟨g, 0, none⟩) t.length c) ∧ SL (Kd.int .i64) (some ⟨g, 0, none⟩) c w' t ∧ Below w.heap.size w w' ∨ t = [] := by
  obtain ⟨k, hk⟩ := hb.one
  refine (glisterref10_Dims.calls k fl A0 c0 l0 A1 c1 l1 A2 c2 l2 t w h0.2 h0.1 h1.2 h1.1 h2.2 h2.1 hk).mono ?_
  rintro e w' ⟨v, rfl, hR, hb⟩
  by_cases ht : 0 < t.length
  · obtain ⟨g, c, rfl, _⟩ := Kd.R_form hR ht
    have h9 := Kd.R_reads' hR
    exact ⟨g, c, .inl ⟨rfl, h9.2, hb⟩⟩
  · exact ⟨0, 0, .inr (List.length_eq_zero_iff.1 (by omega))⟩
theorem rising_c (n : Nat) (h1 : SL (Kd.int .i64) A1 c1 w l1) {b : Bool} (hb : Ev (fun k => glisterref10_Rising.f k l1 (n : Int)) b) :
    Calls Tryz.prog 50 #[.slice A1 l1.length c1, .int .i64 (n : Int)] w fun e w' => e = .returned (.bool b) ∧ Below w.heap.size w w' := by
  obtain ⟨k, hk⟩ := hb.one
  refine (glisterref10_Rising.calls k A1 c1 l1 (n : Int) b w h1.2 h1.1 hk).mono ?_
  rintro e w' ⟨rfl, h⟩
  exact ⟨rfl, drawn_below h⟩
theorem same_ev (l : List Int) (hl : l.length < 1000) : Ev (fun k => glisterref10_Same.f k l l) true := by
  have hb := before_ev l l hl hl
  have h0 : cmpL l l = 0 := by have := cmpL_swap l l; omega
  rw [h0, decide_eq_false (by omega)] at hb
  refine Ev.congr (f := fun k => (glisterref10_Before.f k l l).bind fun t => if t = true then some false else (glisterref10_Before.f k l l).bind fun u => some (!u)) (fun k => by unfold glisterref10_Same.f; rw [if_pos rfl]) (Ev.bind hb ?_)
  exact Ev.congr (fun k => by rw [if_neg (by simp)]) (Ev.bind hb (Ev.now fun _ => rfl))
theorem same_c (h1 : SL (Kd.int .i64) A1 c1 w l1) (h2 : SL (Kd.int .i64) A2 c2 w l1) (hl : l1.length < 1000) :
    Calls Tryz.prog 30 #[.slice A1 l1.length c1, .slice A2 l1.length c2] w fun e w' => e = .returned (.bool true) ∧ Below w.heap.size w w' := by
  obtain ⟨k, hk⟩ := (same_ev l1 hl).one
  refine (glisterref10_Same.calls k A1 c1 l1 A2 c2 l1 true w h1.2 h1.1 h2.2 h2.1 hk).mono ?_
  rintro e w' ⟨rfl, h⟩
  exact ⟨rfl, drawn_below h⟩
end
theorem bright_c {A0 A1 : Option Addr} {c0 c1 : Nat} {w : World} {fl : Int} {L : List S98} {l1 : List Int} (h0 : SL k98 A0 c0 w L) (h1 : SL (Kd.int .i64) A1 c1 w l1) :
    Calls Tryz.prog 44 #[.agg #[.int .i64 fl, .slice A0 L.length c0], .slice A1 l1.length c1] w fun e w' => ∃ A c, e = .returned (.tuple #[.slice A (brightS fl L l1).1.length c, .int .i64 (brightS fl L l1).2]) ∧ SL k98 A c w' (brightS fl L l1).1 ∧ (0 < (brightS fl L l1).1.length → ∃ g, A = some ⟨g, 0, none⟩) ∧ Below w.heap.size w w' := by
  refine (Bright_any fl A0 c0 L A1 c1 l1 w h0.2 h1.2 h1.1).mono ?_
  rintro e w' ⟨v, rfl, hR, hb⟩
  obtain ⟨A, c, rfl, d0, e0⟩ := Kd.R_reads hR
  refine ⟨A, c, rfl, ⟨d0, e0⟩, fun hp => ?_, hb⟩
  obtain ⟨g, c', h9, _⟩ := Kd.R_form hR hp
  injection h9 with h9
  exact ⟨g, h9⟩
theorem polish_c {A0 : Option Addr} {c0 : Nat} {w : World} {fl : Int} {L : List S98} (h0 : SL k98 A0 c0 w L) :
    Calls Tryz.prog 47 #[.agg #[.int .i64 fl, .slice A0 L.length c0]] w fun e w' => ∃ A c, e = .returned (.tuple #[.slice A (polishS fl L).1.length c, .int .i64 (polishS fl L).2]) ∧ SL (Kd.int .i64) A c w' (polishS fl L).1 ∧ Below w.heap.size w w' := by
  refine (Polish_any fl A0 c0 L w h0.2).mono ?_
  rintro e w' ⟨v, rfl, hR, hb⟩
  obtain ⟨A, c, rfl, d0, e0⟩ := Kd.R_reads hR
  exact ⟨A, c, rfl, ⟨d0, e0⟩, hb⟩
end Go.Proofs.YtekdacalkllipaaGreat.PR
end
section
/- RotaMirrors, walked: true, whatever the input. -/
namespace Go.Proofs.YtekdacalkllipaaGreat.PR
open Go.RowKit Go.Shelf Go.Proofs.YtekdacalkllipaaGreatW.PrintWords Go.Proofs.YtekdacalkllipaaGreatW.PrintLast Go.Proofs.YtekdacalkllipaaGreatW.PrintMore
set_option linter.unusedVariables false
set_option linter.unusedSimpArgs false
attribute [local go_sem] Oper.semAt_some
attribute [local simp] wide_fn

set_option maxRecDepth 100000 in
set_option maxHeartbeats 4000000 in
theorem rotaMirrors_walk {A0 A1 : Option Addr} {c0 c1 : Nat} {w : World} {fl : Int} {l0 : List S177} {l1 : List Int} (h0 : SL k177 A0 c0 w l0) (h1 : SL (Kd.int .i64) A1 c1 w l1) :
    Calls Tryz.prog 7 #[.agg #[.int .i64 fl, .slice A0 l0.length c0], .slice A1 l1.length c1] w fun e w' => e = .returned (.bool true) ∧ Below w.heap.size w w' := by
  obtain ⟨P, hP⟩ : ∃ P, P = w.heap.size := ⟨_, rfl⟩
  obtain ⟨w0, hw0⟩ : ∃ w0, w0 = w.alloc (.cells #[.int .i64 fl, .slice A0 l0.length c0] 84) := ⟨_, rfl⟩
  have hb : Below w.heap.size w w0 := by rw [hw0]; exact below_alloc (Below.refl _ _) _
  have HK0 : Aside0 (w0.heap[P]? = some (.cells #[.int .i64 fl, .slice A0 l0.length c0] 84 (0, 0))) := ⟨by rw [hw0, hP]; exact blk_new w _⟩
  have HX0 := Aside0.mk (h0.below hb)
  have HY0 := Aside0.mk (h1.below hb)
  have HB0 := Aside0.mk hb
  clear h0 h1 hb
  refine (callsIn_wide (n := 30)).1 ?_
  refine callsIn_of_wp Tryz.func7 rfl trivial ?_ rfl
  simp only [Tryz.ntmps7, List.size_toArray, List.length_cons, List.length_nil, Nat.reduceAdd, Nat.reduceSub, Array.replicate_succ, Array.replicate_zero, List.push_toArray, List.append_toArray, List.nil_append, List.cons_append]
  have hu84 := Tryz.underlying84
  have qHK0 : w0.cell? ⟨P, 0, none⟩ = some (.int .i64 fl) := (blk_cell HK0.out 0).trans rfl
  have qHK1 : w0.cell? ⟨P, 1, none⟩ = some (.slice A0 l0.length c0) := (blk_cell HK0.out 1).trans rfl
  rw [hw0] at qHK0 qHK1
  rw [hP] at qHK0 qHK1
  by_cases hbig : 11 < l0.length
  · have hgt : (11 : Int) < (l0.length : Int) := by omega
    have hc := Aside0.mk (lawake_any w0)
    gi_wp2_with fail
    rw [← hw0, ← hP]
    have HP := Aside0.mk hP
    clear hP hw0 qHK0 qHK1
    refine (callsIn_wide.2 hc.out).mono ?_
    rintro e w1 ⟨rfl, hb⟩
    clear hc
    have HB1 := Aside0.mk (HB0.out.trans (hb.mono HB0.out.size))
    have HK1 := Aside0.mk (blk_below HK0.out hb)
    have HX1 := Aside0.mk (HX0.out.below hb)
    have HY1 := Aside0.mk (HY0.out.below hb)
    clear hb HB0 HK0 HX0 HY0
    gi_wp2
    go_ret
    exact ⟨rfl, HB1.out⟩
  · have hgt : ¬ (11 : Int) < (l0.length : Int) := by omega
    by_cases hbig2 : 11 < l1.length
    · have hgt2 : (11 : Int) < (l1.length : Int) := by omega
      have hc := Aside0.mk (lawake_any w0)
      gi_wp2_with fail
      rw [← hw0, ← hP]
      have HP := Aside0.mk hP
      clear hP hw0 qHK0 qHK1
      refine (callsIn_wide.2 hc.out).mono ?_
      rintro e w1 ⟨rfl, hb⟩
      clear hc
      have HB1 := Aside0.mk (HB0.out.trans (hb.mono HB0.out.size))
      have HK1 := Aside0.mk (blk_below HK0.out hb)
      have HX1 := Aside0.mk (HX0.out.below hb)
      have HY1 := Aside0.mk (HY0.out.below hb)
      clear hb HB0 HK0 HX0 HY0
      gi_wp2
      go_ret
      exact ⟨rfl, HB1.out⟩
    · have hgt2 : ¬ (11 : Int) < (l1.length : Int) := by omega
      obtain ⟨LL, hLL⟩ : ∃ LL, LL = l0.map toR := ⟨_, rfl⟩
      have hn : l0.length = LL.length := by rw [hLL]; simp
      have hmi := mirror_ev fl l0 (by omega)
      have hmf := mfault_ev fl l0 (by omega)
      rw [← hLL] at hmi hmf
      obtain ⟨me, hme⟩ : ∃ me, me = mirErr fl LL := ⟨_, rfl⟩
      obtain ⟨bl, hbl⟩ : ∃ bl, bl = (brightS fl LL l1).1 := ⟨_, rfl⟩
      obtain ⟨be, hbe⟩ : ∃ be, be = (brightS fl LL l1).2 := ⟨_, rfl⟩
      obtain ⟨pl, hpl⟩ : ∃ pl, pl = (polishS fl LL).1 := ⟨_, rfl⟩
      obtain ⟨pe, hpe⟩ : ∃ pe, pe = (polishS fl LL).2 := ⟨_, rfl⟩
      obtain ⟨bn, hbn⟩ : ∃ bn, bn = bl.length := ⟨_, rfl⟩
      obtain ⟨pn, hpn⟩ : ∃ pn, pn = pl.length := ⟨_, rfl⟩
      rw [← hme] at hmf
      have HMI := Aside0.mk hmi
      have HMF := Aside0.mk hmf
      have HLL := Aside0.mk (And.intro hLL hn)
      have HME := Aside0.mk hme
      have HBL := Aside0.mk (And.intro hbl (And.intro hbe hbn))
      have HPL := Aside0.mk (And.intro hpl (And.intro hpe hpn))
      have HLEN := Aside0.mk (And.intro hbig hbig2)
      clear hLL hn hmi hmf hme hbl hbe hpl hpe hbn hpn hbig hbig2
      have hc := Aside0.mk (mirror_c HX0.out HMI.out)
      gi_wp2_with fail
      rw [← hw0, ← hP]
      have HP := Aside0.mk hP
      clear hP hw0 qHK0 qHK1
      refine (callsIn_wide.2 hc.out).mono ?_
      rintro e w1 ⟨B0, d0, rfl, g0, hb⟩
      clear hc
      have HB1 := Aside0.mk (HB0.out.trans (hb.mono HB0.out.size))
      have HK1 := Aside0.mk (blk_below HK0.out hb)
      have HX1 := Aside0.mk (HX0.out.below hb)
      have HY1 := Aside0.mk (HY0.out.below hb)
      clear hb HB0 HK0 HX0 HY0
      have HU1 := Aside0.mk g0
      clear g0
      have hc := Aside0.mk (list_c HY1.out (by have := HLEN.out.2; omega))
      gi_wp2_with fail
      refine (callsIn_wide.2 hc.out).mono ?_
      rintro e w2 ⟨A2, c2, rfl, g1, hb⟩
      clear hc
      have HB2 := Aside0.mk (HB1.out.trans (hb.mono HB1.out.size))
      have HK2 := Aside0.mk (blk_below HK1.out hb)
      have HX2 := Aside0.mk (HX1.out.below hb)
      have HY2 := Aside0.mk (HY1.out.below hb)
      have HU2 := Aside0.mk (HU1.out.below hb)
      clear hb HB1 HK1 HX1 HY1 HU1
      have HV2 := Aside0.mk g1
      clear g1
      have hcb := bright_c (fl := fl) HU2.out HV2.out
      rw [← HBL.out.1, ← HBL.out.2.1, ← HBL.out.2.2] at hcb
      have HCB := Aside0.mk hcb
      clear hcb
      have hc := Aside0.mk (HCB.out)
      gi_wp2_with fail
      refine (callsIn_wide.2 hc.out).mono ?_
      rintro e w3 ⟨AB, cB, rfl, gb, hAB, hb⟩
      clear hc
      have HB3 := Aside0.mk (HB2.out.trans (hb.mono HB2.out.size))
      have HK3 := Aside0.mk (blk_below HK2.out hb)
      have HX3 := Aside0.mk (HX2.out.below hb)
      have HY3 := Aside0.mk (HY2.out.below hb)
      have HU3 := Aside0.mk (HU2.out.below hb)
      have HV3 := Aside0.mk (HV2.out.below hb)
      clear hb HB2 HK2 HX2 HY2 HU2 HV2
      have HBB3 := Aside0.mk gb
      clear gb
      clear HCB
      have HAB := Aside0.mk hAB
      clear hAB
      clear HU3 HV3
      have qHK0 : w3.cell? ⟨P, 0, none⟩ = some (.int .i64 fl) := (blk_cell HK3.out 0).trans rfl
      have qHK1 : w3.cell? ⟨P, 1, none⟩ = some (.slice A0 l0.length c0) := (blk_cell HK3.out 1).trans rfl
      have hc := Aside0.mk (mirror_c HX3.out HMI.out)
      gi_wp2_with fail
      refine (callsIn_wide.2 hc.out).mono ?_
      rintro e w4 ⟨B1, d1, rfl, g0, hb⟩
      clear hc qHK0 qHK1
      have HB4 := Aside0.mk (HB3.out.trans (hb.mono HB3.out.size))
      have HK4 := Aside0.mk (blk_below HK3.out hb)
      have HX4 := Aside0.mk (HX3.out.below hb)
      have HY4 := Aside0.mk (HY3.out.below hb)
      have HBB4 := Aside0.mk (HBB3.out.below hb)
      clear hb HB3 HK3 HX3 HY3 HBB3
      have HU4 := Aside0.mk g0
      clear g0
      have hcb := polish_c (fl := fl) HU4.out
      rw [← HPL.out.1, ← HPL.out.2.1, ← HPL.out.2.2] at hcb
      have HCB := Aside0.mk hcb
      clear hcb
      have hc := Aside0.mk (HCB.out)
      gi_wp2_with fail
      refine (callsIn_wide.2 hc.out).mono ?_
      rintro e w5 ⟨AP, cP, rfl, gp, hb⟩
      clear hc
      have HB5 := Aside0.mk (HB4.out.trans (hb.mono HB4.out.size))
      have HK5 := Aside0.mk (blk_below HK4.out hb)
      have HX5 := Aside0.mk (HX4.out.below hb)
      have HY5 := Aside0.mk (HY4.out.below hb)
      have HBB5 := Aside0.mk (HBB4.out.below hb)
      have HU5 := Aside0.mk (HU4.out.below hb)
      clear hb HB4 HK4 HX4 HY4 HBB4 HU4
      have HPP5 := Aside0.mk gp
      clear gp
      clear HCB
      clear HU5
      gi_wp2
      refine region_mk (by kernel_rfl) (fun t => { tmps := #[.agg #[.int .i64 fl, .slice A0 l0.length c0], .slice A1 l1.length c1, .pointer (some ⟨P, 0, none⟩), undef, .bool false, .slice AB bn cB, .int .i64 be, .slice AP pn cP, .int .i64 pe, t 4, t 5, undef, undef, undef, undef, undef, .pointer (some ⟨P, 1, none⟩), .slice A0 l0.length c0, .int .i64 (l0.length : Int), .bool false, .bool false, .slice A1 l1.length c1, .int .i64 (l1.length : Int), .bool false, .bool false, undef, .tuple #[.slice AB bn cB, .int .i64 be], .agg #[.int .i64 fl, .slice A0 l0.length c0], .agg #[.int .i64 fl, .slice B0 LL.length d0], .slice A1 l1.length c1, .slice A2 l1.length c2, .tuple #[.slice AB bn cB, .int .i64 be], .slice AB bn cB, .int .i64 be, .tuple #[.slice AP pn cP, .int .i64 pe], .agg #[.int .i64 fl, .slice A0 l0.length c0], .agg #[.int .i64 fl, .slice B1 LL.length d1], .tuple #[.slice AP pn cP, .int .i64 pe], .slice AP pn cP, .int .i64 pe, t 0, t 1, t 2, t 3, undef, undef, undef, undef, undef, undef, undef, undef, undef, undef, undef, undef, undef, undef, undef, undef, undef, undef, undef, undef, undef, undef, undef, undef, undef, undef, undef, undef, undef, undef, undef, undef, undef, undef, undef, undef, undef, undef, undef, undef, undef, undef, undef, undef, undef, undef, undef, undef, undef, undef, undef, undef, undef, undef, undef, undef, undef, undef, undef, undef, undef, undef, undef, undef, undef, undef, undef, undef, undef, undef, undef, undef, undef, undef, undef, undef, undef, undef, undef, undef, undef, undef, undef, undef, undef, undef, undef, undef, undef, undef, undef, undef, undef, undef, undef, undef, undef, undef, undef, undef, undef, undef, undef, undef], defers := [] })
        (fun L t w' => Below w5.heap.size w5 w')
        (fun ix vx => match ix with | 0 => vx = .agg #[.int .i64 fl, .slice A0 l0.length c0] | 1 => vx = .int .i64 me | 2 => vx = .agg #[.int .i64 fl, .slice A0 l0.length c0] | 3 => vx = .int .i64 me | 4 => vx = .int .i64 me | 5 => vx = .int .i64 me | _ => True)
        (fun j => undef) (by kernel_rfl) (pw_below_drewN (Below.refl _ _) 1) ?stepR5 ?doneR5
      case stepR5 =>
        intro ix hix
        have hi' : ix < 6 := hix
        match ix, hi' with
        | 0, _ =>
          intro L t w' hL hJ hX hdep hcl
          have hk := blk_below HK5.out hJ
          have qp0 : w'.cell? ⟨P, 0, none⟩ = some (.int .i64 fl) := (blk_cell hk 0).trans rfl
          have qp1 : w'.cell? ⟨P, 1, none⟩ = some (.slice A0 l0.length c0) := (blk_cell hk 1).trans rfl
          clear hk
          refine wpOpIn_step rfl (fun K hK => ?_)
          dsimp only
          go_simp
          refine hK _ _ ⟨.agg #[.int .i64 fl, .slice A0 l0.length c0], ?_, rfl, hJ⟩
          simp [upd]
        | 1, _ =>
          intro L t w' hL hJ hX hdep hcl
          have x0 : t 0 = .agg #[.int .i64 fl, .slice A0 l0.length c0] := hX 0 (hdep _ rfl ⟨0, .data⟩ (by simp) rfl)
          have hc := Aside0.mk (mfault_c (HX5.out.below hJ) HMF.out)
          refine wpOpIn_step rfl (fun K hK => ?_)
          dsimp only
          simp only [x0]
          go_simp
          refine (callsIn_wide.2 hc.out).mono ?_
          rintro e w9 ⟨rfl, hb⟩
          refine hK _ _ ⟨.int .i64 me, ?_, rfl, hJ.trans (hb.mono hJ.size)⟩
          simp [upd, x0]
        | 2, _ =>
          intro L t w' hL hJ hX hdep hcl
          have hk := blk_below HK5.out hJ
          have qp0 : w'.cell? ⟨P, 0, none⟩ = some (.int .i64 fl) := (blk_cell hk 0).trans rfl
          have qp1 : w'.cell? ⟨P, 1, none⟩ = some (.slice A0 l0.length c0) := (blk_cell hk 1).trans rfl
          clear hk
          refine wpOpIn_step rfl (fun K hK => ?_)
          dsimp only
          go_simp
          refine hK _ _ ⟨.agg #[.int .i64 fl, .slice A0 l0.length c0], ?_, rfl, hJ⟩
          simp [upd]
        | 3, _ =>
          intro L t w' hL hJ hX hdep hcl
          have x2 : t 2 = .agg #[.int .i64 fl, .slice A0 l0.length c0] := hX 2 (hdep _ rfl ⟨2, .data⟩ (by simp) rfl)
          have hc := Aside0.mk (mfault_c (HX5.out.below hJ) HMF.out)
          refine wpOpIn_step rfl (fun K hK => ?_)
          dsimp only
          simp only [x2]
          go_simp
          refine (callsIn_wide.2 hc.out).mono ?_
          rintro e w9 ⟨rfl, hb⟩
          refine hK _ _ ⟨.int .i64 me, ?_, rfl, hJ.trans (hb.mono hJ.size)⟩
          simp [upd, x2]
        | 4, _ =>
          intro L t w' hL hJ hX hdep hcl
          have x1 : t 1 = .int .i64 me := hX 1 (hdep _ rfl ⟨1, .data⟩ (by simp) rfl)
          refine wpOpIn_step rfl (fun K hK => ?_)
          dsimp only
          simp only [x1]
          go_simp
          refine hK _ _ ⟨.int .i64 me, ?_, rfl, hJ⟩
          simp [upd, x1]
        | 5, _ =>
          intro L t w' hL hJ hX hdep hcl
          have x3 : t 3 = .int .i64 me := hX 3 (hdep _ rfl ⟨3, .data⟩ (by simp) rfl)
          refine wpOpIn_step rfl (fun K hK => ?_)
          dsimp only
          simp only [x3]
          go_simp
          refine hK _ _ ⟨.int .i64 me, ?_, rfl, hJ⟩
          simp [upd, x3]
        | j + 6, h => exact absurd h (by omega)
      case doneR5 =>
        intro L t w6 hL hJ hX
        have x0 : t 0 = .agg #[.int .i64 fl, .slice A0 l0.length c0] := hX 0 (by decide)
        have x1 : t 1 = .int .i64 me := hX 1 (by decide)
        have x2 : t 2 = .agg #[.int .i64 fl, .slice A0 l0.length c0] := hX 2 (by decide)
        have x3 : t 3 = .int .i64 me := hX 3 (by decide)
        have x4 : t 4 = .int .i64 me := hX 4 (by decide)
        have x5 : t 5 = .int .i64 me := hX 5 (by decide)
        try dsimp only
        simp only [x0, x1, x2, x3, x4, x5]
        have hb := hJ
        clear x0 x1 x2 x3 x4 x5 hX hJ hL
        have HB6 := Aside0.mk (HB5.out.trans (hb.mono HB5.out.size))
        have HK6 := Aside0.mk (blk_below HK5.out hb)
        have HX6 := Aside0.mk (HX5.out.below hb)
        have HY6 := Aside0.mk (HY5.out.below hb)
        have HBB6 := Aside0.mk (HBB5.out.below hb)
        have HPP6 := Aside0.mk (HPP5.out.below hb)
        clear hb HB5 HK5 HX5 HY5 HBB5 HPP5
        by_cases hz : me = 0
        · have bz : (me != 0) = false := by rw [hz]; rfl
          subst hz
          have hmr : mirErr fl (l0.map toR) = 0 := by rw [← HLL.out.1]; exact HME.out.symm
          obtain ⟨best, hb1, hb2, hb3, hb4⟩ := refpolish_ev fl l0 hmr
          have hps := polish_same fl l0 hmr best hb2 hb3 hb4
          obtain ⟨hm8, hm0, _, hlo⟩ := mirErr_ok hmr
          rw [← HLL.out.1] at hps hb1 hm8 hm0 hlo
          obtain ⟨stb, hstb⟩ : ∃ stb, stb = stayB fl LL best := ⟨_, rfl⟩
          rw [← hstb] at hps hb1
          obtain ⟨tn, htn⟩ : ∃ tn, tn = best.length := ⟨_, rfl⟩
          have htl : best.length < 1000 := by
            obtain ⟨c, _, e⟩ := hb3
            rw [e]
            have := subN_len l0.length c
            have := HLEN.out.1
            omega
          have hpol := Aside0.mk hps
          have HRP := Aside0.mk hb1
          have HLO := Aside0.mk (And.intro hm0 (And.intro hm8 hlo))
          have HTL := Aside0.mk (And.intro htn htl)
          clear hmr hb1 hb2 hb3 hb4 hps hm8 hm0 hlo hstb htn htl
          have qHK0 : w6.cell? ⟨P, 0, none⟩ = some (.int .i64 fl) := (blk_cell HK6.out 0).trans rfl
          have qHK1 : w6.cell? ⟨P, 1, none⟩ = some (.slice A0 l0.length c0) := (blk_cell HK6.out 1).trans rfl
          have hcb := refpolish_c HX6.out HRP.out
          rw [← HTL.out.1] at hcb
          have HCB := Aside0.mk hcb
          clear hcb
          have hc := Aside0.mk (HCB.out)
          gi_wp2_with fail
          refine (callsIn_wide.2 hc.out).mono ?_
          rintro e w7 ⟨AT, cT, rfl, gt, hb⟩
          clear hc qHK0 qHK1
          have HB7 := Aside0.mk (HB6.out.trans (hb.mono HB6.out.size))
          have HK7 := Aside0.mk (blk_below HK6.out hb)
          have HX7 := Aside0.mk (HX6.out.below hb)
          have HY7 := Aside0.mk (HY6.out.below hb)
          have HBB7 := Aside0.mk (HBB6.out.below hb)
          have HPP7 := Aside0.mk (HPP6.out.below hb)
          clear hb HB6 HK6 HX6 HY6 HBB6 HPP6
          have HT7 := Aside0.mk gt
          clear gt
          clear HCB
          cases stb with
          | false =>
            have e1 : pl = [] := by rw [HPL.out.1, hpol.out]; rfl
            obtain rfl : pe = 10 := by rw [HPL.out.2.1, hpol.out]; rfl
            obtain rfl : pn = 0 := by rw [HPL.out.2.2, e1]; rfl
            subst e1
            have hcs := same_c (A2 := none) (c2 := 0) HPP7.out ⟨Nat.zero_le _, Kd.C_nil _ _⟩ (by simp)
            rw [show ([] : List Int).length = 0 from rfl] at hcs
            have HCB := Aside0.mk hcs
            clear hcs
            have hc := Aside0.mk (HCB.out)
            gi_wp2_with fail
            refine (callsIn_wide.2 hc.out).mono ?_
            rintro e w8 ⟨rfl, hb⟩
            clear hc
            have HB8 := Aside0.mk (HB7.out.trans (hb.mono HB7.out.size))
            have HK8 := Aside0.mk (blk_below HK7.out hb)
            have HX8 := Aside0.mk (HX7.out.below hb)
            have HY8 := Aside0.mk (HY7.out.below hb)
            have HBB8 := Aside0.mk (HBB7.out.below hb)
            have HPP8 := Aside0.mk (HPP7.out.below hb)
            have HT8 := Aside0.mk (HT7.out.below hb)
            clear hb HB7 HK7 HX7 HY7 HBB7 HPP7 HT7
            clear HCB
            obtain ⟨ib, hib⟩ : ∃ ib, ib = incB l1 l0.length := ⟨_, rfl⟩
            have hri := rising_ev l1 l0.length (by have := HLEN.out.2; omega) (by have := HLEN.out.1; omega)
            rw [← hib] at hri
            have HIB := Aside0.mk (And.intro hib hri)
            clear hib hri
            have qHK0 : w8.cell? ⟨P, 0, none⟩ = some (.int .i64 fl) := (blk_cell HK8.out 0).trans rfl
            have qHK1 : w8.cell? ⟨P, 1, none⟩ = some (.slice A0 l0.length c0) := (blk_cell HK8.out 1).trans rfl
            have hc := Aside0.mk (rising_c l0.length HY8.out HIB.out.2)
            gi_wp2_with fail
            refine (callsIn_wide.2 hc.out).mono ?_
            rintro e w9 ⟨rfl, hb⟩
            clear hc qHK0 qHK1
            have HB9 := Aside0.mk (HB8.out.trans (hb.mono HB8.out.size))
            have HK9 := Aside0.mk (blk_below HK8.out hb)
            have HX9 := Aside0.mk (HX8.out.below hb)
            have HY9 := Aside0.mk (HY8.out.below hb)
            have HBB9 := Aside0.mk (HBB8.out.below hb)
            have HPP9 := Aside0.mk (HPP8.out.below hb)
            have HT9 := Aside0.mk (HT8.out.below hb)
            clear hb HB8 HK8 HX8 HY8 HBB8 HPP8 HT8
            have hbr : brightS fl LL l1 = if ib = false then ([], 2) else (rangesS LL l1, 0) := by unfold brightS; rw [← HME.out, if_neg (by simp), HIB.out.1, HLL.out.2]
            cases ib with
            | false =>
              have e1 : bl = [] := by rw [HBL.out.1, hbr]; rfl
              obtain rfl : be = 2 := by rw [HBL.out.2.1, hbr]; rfl
              obtain rfl : bn = 0 := by rw [HBL.out.2.2, e1]; rfl
              have hc := Aside0.mk (lawake_any w9)
              gi_wp2_with fail
              refine (callsIn_wide.2 hc.out).mono ?_
              rintro e w10 ⟨rfl, hb⟩
              clear hc
              have HB10 := Aside0.mk (HB9.out.trans (hb.mono HB9.out.size))
              have HK10 := Aside0.mk (blk_below HK9.out hb)
              have HX10 := Aside0.mk (HX9.out.below hb)
              have HY10 := Aside0.mk (HY9.out.below hb)
              have HBB10 := Aside0.mk (HBB9.out.below hb)
              have HPP10 := Aside0.mk (HPP9.out.below hb)
              have HT10 := Aside0.mk (HT9.out.below hb)
              clear hb HB9 HK9 HX9 HY9 HBB9 HPP9 HT9
              gi_wp2
              go_ret
              exact ⟨rfl, HB10.out⟩
            | true =>
              have e1 : bl = rangesS LL l1 := by rw [HBL.out.1, hbr]; rfl
              obtain rfl : be = 0 := by rw [HBL.out.2.1, hbr]; rfl
              obtain ⟨nn, hnn⟩ : ∃ nn, nn = l0.length := ⟨_, rfl⟩
              have hbnn : bn = nn := by rw [HBL.out.2.2, e1, hnn, HLL.out.2]; simp [rangesS]
              subst hbnn
              obtain ⟨tr1, ht1⟩ : ∃ tr1, tr1 = l0.map (fun x => if true = true then x.f1 else x.f0) := ⟨_, rfl⟩
              obtain ⟨tr2, ht2⟩ : ∃ tr2, tr2 = l0.map (fun x => if false = true then x.f1 else x.f0) := ⟨_, rfl⟩
              obtain ⟨dl, hdl⟩ : ∃ dl, dl = dimS (fun x => x.f1) LL l1 := ⟨_, rfl⟩
              obtain ⟨dh, hdh⟩ : ∃ dh, dh = dimS (fun x => x.f0) LL l1 := ⟨_, rfl⟩
              have hlo : ∀ x ∈ l0, 0 ≤ x.f0 ∧ x.f0 ≤ x.f1 ∧ x.f1 ≤ 100 := fun x hx => HLO.out.2.2 (toR x) (by rw [HLL.out.1]; exact List.mem_map_of_mem hx)
              have he1' := ends_ev fl l0 true (by have := HLEN.out.1; omega)
              have he2' := ends_ev fl l0 false (by have := HLEN.out.1; omega)
              rw [← ht1] at he1'
              rw [← ht2] at he2'
              have hd1 := dims_ev fl l0 l1 tr1 (by have := HLEN.out.1; omega) (by have := HLEN.out.2; omega) (by rw [ht1]; simp) (fun y hy => by rw [ht1] at hy; obtain ⟨z, hz, rfl⟩ := List.mem_map.1 hy; have := hlo z hz; simp; omega)
              have hd2 := dims_ev fl l0 l1 tr2 (by have := HLEN.out.1; omega) (by have := HLEN.out.2; omega) (by rw [ht2]; simp) (fun y hy => by rw [ht2] at hy; obtain ⟨z, hz, rfl⟩ := List.mem_map.1 hy; have := hlo z hz; simp; omega)
              have hk1 : dimsT tr1 l1 l0.length = dl := by rw [ht1, hdl, HLL.out.1]; exact dims_K l0 (fun x => x.f1) _ l1 (fun _ => rfl)
              have hk2 : dimsT tr2 l1 l0.length = dh := by rw [ht2, hdh, HLL.out.1]; exact dims_K l0 (fun x => x.f0) _ l1 (fun _ => rfl)
              rw [hk1] at hd1
              rw [hk2] at hd2
              have hl1 : tr1.length = bn := by rw [ht1, hnn]; simp
              have hl2 : tr2.length = bn := by rw [ht2, hnn]; simp
              have hl3 : dl.length = bn := by rw [hdl, hnn, HLL.out.2]; simp [dimS]
              have hl4 : dh.length = bn := by rw [hdh, hnn, HLL.out.2]; simp [dimS]
              have hn0 : 0 < bn := by rw [hnn, HLL.out.2]; exact HLO.out.1
              have HEV := Aside0.mk (And.intro he1' (And.intro he2' (And.intro hd1 hd2)))
              have HLS := Aside0.mk (And.intro hl1 (And.intro hl2 (And.intro hl3 hl4)))
              have HDL := Aside0.mk (And.intro hdl hdh)
              have HE := Aside0.mk e1
              have HNN := Aside0.mk hnn
              obtain ⟨gB, hgB⟩ := HAB.out hn0
              subst hgB
              clear ht1 ht2 hdl hdh hlo he1' he2' hd1 hd2 hk1 hk2 hl1 hl2 hl3 hl4 e1 hnn hbr
              gi_wp2
              refine region_mk (by kernel_rfl) (fun t => { tmps := #[.agg #[.int .i64 fl, .slice A0 l0.length c0], .slice A1 l1.length c1, .pointer (some ⟨P, 0, none⟩), undef, .bool false, .slice (some ⟨gB, 0, none⟩) bn cB, .int .i64 0, .slice AP 0 cP, .int .i64 10, .int .i64 0, .int .i64 10, .slice none 0 0, .bool false, t 10, t 11, undef, .pointer (some ⟨P, 1, none⟩), .slice A0 l0.length c0, .int .i64 (l0.length : Int), .bool false, .bool false, .slice A1 l1.length c1, .int .i64 (l1.length : Int), .bool false, .bool false, undef, .tuple #[.slice (some ⟨gB, 0, none⟩) bn cB, .int .i64 0], .agg #[.int .i64 fl, .slice A0 l0.length c0], .agg #[.int .i64 fl, .slice B0 LL.length d0], .slice A1 l1.length c1, .slice A2 l1.length c2, .tuple #[.slice (some ⟨gB, 0, none⟩) bn cB, .int .i64 0], .slice (some ⟨gB, 0, none⟩) bn cB, .int .i64 0, .tuple #[.slice AP 0 cP, .int .i64 10], .agg #[.int .i64 fl, .slice A0 l0.length c0], .agg #[.int .i64 fl, .slice B1 LL.length d1], .tuple #[.slice AP 0 cP, .int .i64 10], .slice AP 0 cP, .int .i64 10, .agg #[.int .i64 fl, .slice A0 l0.length c0], .int .i64 0, .agg #[.int .i64 fl, .slice A0 l0.length c0], .int .i64 0, .int .i64 0, .bool false, undef, undef, undef, undef, undef, undef, undef, undef, undef, undef, undef, undef, undef, undef, undef, undef, undef, undef, undef, .tuple #[.slice AT tn cT, .bool false], .agg #[.int .i64 fl, .slice A0 l0.length c0], .tuple #[.slice AT tn cT, .bool false], .slice AT tn cT, .bool false, .bool false, .bool true, .int .i64 10, .int .i64 10, .bool false, .bool false, .slice AP 0 cP, .slice none 0 0, .bool true, .bool false, .bool false, .slice A1 l1.length c1, .pointer (some ⟨P, 1, none⟩), .slice A0 l0.length c0, .int .i64 (l0.length : Int), .bool true, .bool false, .int .i64 0, .bool false, undef, undef, undef, undef, undef, undef, undef, undef, undef, undef, undef, t 0, t 1, t 2, t 3, t 4, t 5, t 6, t 7, t 8, t 9, undef, undef, undef, undef, undef, undef, undef, undef, undef, undef, undef, undef, undef, undef, undef, undef, undef, undef, undef, undef, undef, undef, undef, undef, undef, undef, undef, undef, undef, undef, undef, undef, undef, undef, undef, undef, undef, undef], defers := [] })
                (fun L t w' => Below w9.heap.size w9 w' ∧ (L 3 = true → ∃ A c, t 3 = .slice A bn c ∧ SL (Kd.int .i64) A c w' tr1) ∧ (L 4 = true → ∃ g c, t 4 = .slice (some ⟨g, 0, none⟩) bn c ∧ SL (Kd.int .i64) (some ⟨g, 0, none⟩) c w' dl) ∧ (L 8 = true → ∃ A c, t 8 = .slice A bn c ∧ SL (Kd.int .i64) A c w' tr2) ∧ (L 9 = true → ∃ g c, t 9 = .slice (some ⟨g, 0, none⟩) bn c ∧ SL (Kd.int .i64) (some ⟨g, 0, none⟩) c w' dh) ∧ (L 10 = true → L 4 = true ∧ t 10 = t 4) ∧ (L 11 = true → L 9 = true ∧ t 11 = t 9))
                (fun ix vx => match ix with | 0 => vx = .agg #[.int .i64 fl, .slice A0 l0.length c0] | 1 => vx = .slice A1 l1.length c1 | 2 => vx = .agg #[.int .i64 fl, .slice A0 l0.length c0] | 3 => True | 4 => True | 5 => vx = .agg #[.int .i64 fl, .slice A0 l0.length c0] | 6 => vx = .slice A1 l1.length c1 | 7 => vx = .agg #[.int .i64 fl, .slice A0 l0.length c0] | 8 => True | 9 => True | 10 => True | 11 => True | _ => True)
                (fun j => undef) (by kernel_rfl) ⟨pw_below_drewN (Below.refl _ _) 1, by simp, by simp, by simp, by simp, by simp, by simp⟩ ?stepRT ?doneRT
              case stepRT =>
                intro ix hix
                have hi' : ix < 12 := hix
                match ix, hi' with
                | 0, _ =>
                  intro L t w' hL hJ hX hdep hcl
                  have hk := blk_below HK9.out hJ.1
                  have qp0 : w'.cell? ⟨P, 0, none⟩ = some (.int .i64 fl) := (blk_cell hk 0).trans rfl
                  have qp1 : w'.cell? ⟨P, 1, none⟩ = some (.slice A0 l0.length c0) := (blk_cell hk 1).trans rfl
                  clear hk
                  refine wpOpIn_step rfl (fun K hK => ?_)
                  dsimp only
                  go_simp
                  refine hK _ _ ⟨.agg #[.int .i64 fl, .slice A0 l0.length c0], ?_, rfl, hJ⟩
                  simp [upd]
                | 1, _ =>
                  intro L t w' hL hJ hX hdep hcl
                  refine wpOpIn_step rfl (fun K hK => ?_)
                  dsimp only
                  go_simp
                  refine hK _ _ ⟨.slice A1 l1.length c1, ?_, rfl, hJ⟩
                  simp [upd]
                | 2, _ =>
                  intro L t w' hL hJ hX hdep hcl
                  have hk := blk_below HK9.out hJ.1
                  have qp0 : w'.cell? ⟨P, 0, none⟩ = some (.int .i64 fl) := (blk_cell hk 0).trans rfl
                  have qp1 : w'.cell? ⟨P, 1, none⟩ = some (.slice A0 l0.length c0) := (blk_cell hk 1).trans rfl
                  clear hk
                  refine wpOpIn_step rfl (fun K hK => ?_)
                  dsimp only
                  go_simp
                  refine hK _ _ ⟨.agg #[.int .i64 fl, .slice A0 l0.length c0], ?_, rfl, hJ⟩
                  simp [upd]
                | 3, _ =>
                  intro L t w' hL hJ hX hdep hcl
                  have x2 : t 2 = .agg #[.int .i64 fl, .slice A0 l0.length c0] := hX 2 (hdep _ rfl ⟨2, .data⟩ (by simp) rfl)
                  have hc0 := ends_c true (HX9.out.below hJ.1) HEV.out.1
                  rw [HLS.out.1] at hc0
                  have hc := Aside0.mk hc0
                  clear hc0
                  refine wpOpIn_step rfl (fun K hK => ?_)
                  dsimp only
                  simp only [x2]
                  go_simp
                  refine (callsIn_wide.2 hc.out).mono ?_
                  rintro e w9 ⟨a9, c9, rfl, s, hb⟩
                  refine hK _ _ ⟨.slice a9 bn c9, ?_, trivial, ⟨hJ.1.trans (hb.mono hJ.1.size), fun _ => ⟨_, _, rfl, s⟩, fun h => (by obtain ⟨a, c, e, s⟩ := hJ.2.2.1 h; exact ⟨a, c, e, s.below hb⟩), fun h => (by obtain ⟨a, c, e, s⟩ := hJ.2.2.2.1 h; exact ⟨a, c, e, s.below hb⟩), fun h => (by obtain ⟨a, c, e, s⟩ := hJ.2.2.2.2.1 h; exact ⟨a, c, e, s.below hb⟩), hJ.2.2.2.2.2.1, hJ.2.2.2.2.2.2⟩⟩
                  simp [upd, x2]
                | 4, _ =>
                  intro L t w' hL hJ hX hdep hcl
                  have x0 : t 0 = .agg #[.int .i64 fl, .slice A0 l0.length c0] := hX 0 (hdep _ rfl ⟨0, .data⟩ (by simp) rfl)
                  have x1 : t 1 = .slice A1 l1.length c1 := hX 1 (hdep _ rfl ⟨1, .data⟩ (by simp) rfl)
                  have hd := hdep _ rfl ⟨3, .data⟩ (by simp) rfl
                  obtain ⟨a8, c8, e8, s8⟩ := hJ.2.1 hd
                  have hc0 := dims_c (HX9.out.below hJ.1) (HY9.out.below hJ.1) s8 HEV.out.2.2.1
                  rw [HLS.out.1, HLS.out.2.2.1] at hc0
                  have hc := Aside0.mk hc0
                  clear hc0 s8
                  refine wpOpIn_step rfl (fun K hK => ?_)
                  dsimp only
                  simp only [x0, x1, e8]
                  go_simp
                  refine (callsIn_wide.2 hc.out).mono ?_
                  rintro e w9 ⟨g9, c9, h⟩
                  obtain ⟨rfl, s, hb⟩ : _ ∧ _ ∧ _ := by
                    rcases h with h | h
                    · exact h
                    · exact absurd (congrArg List.length h) (by rw [HLS.out.2.2.1]; exact fun e => by have : bn = 0 := e; omega)
                  refine hK _ _ ⟨.slice (some ⟨g9, 0, none⟩) bn c9, ?_, trivial, ⟨hJ.1.trans (hb.mono hJ.1.size), fun h => (by obtain ⟨a, c, e, s⟩ := hJ.2.1 h; exact ⟨a, c, e, s.below hb⟩), fun _ => ⟨_, _, rfl, s⟩, fun h => (by obtain ⟨a, c, e, s⟩ := hJ.2.2.2.1 h; exact ⟨a, c, e, s.below hb⟩), fun h => (by obtain ⟨a, c, e, s⟩ := hJ.2.2.2.2.1 h; exact ⟨a, c, e, s.below hb⟩), fun h => (by have := (hJ.2.2.2.2.2.1 h).1; rw [hL] at this; cases this), hJ.2.2.2.2.2.2⟩⟩
                  simp [upd, x0, x1, e8]
                | 5, _ =>
                  intro L t w' hL hJ hX hdep hcl
                  have hk := blk_below HK9.out hJ.1
                  have qp0 : w'.cell? ⟨P, 0, none⟩ = some (.int .i64 fl) := (blk_cell hk 0).trans rfl
                  have qp1 : w'.cell? ⟨P, 1, none⟩ = some (.slice A0 l0.length c0) := (blk_cell hk 1).trans rfl
                  clear hk
                  refine wpOpIn_step rfl (fun K hK => ?_)
                  dsimp only
                  go_simp
                  refine hK _ _ ⟨.agg #[.int .i64 fl, .slice A0 l0.length c0], ?_, rfl, hJ⟩
                  simp [upd]
                | 6, _ =>
                  intro L t w' hL hJ hX hdep hcl
                  refine wpOpIn_step rfl (fun K hK => ?_)
                  dsimp only
                  go_simp
                  refine hK _ _ ⟨.slice A1 l1.length c1, ?_, rfl, hJ⟩
                  simp [upd]
                | 7, _ =>
                  intro L t w' hL hJ hX hdep hcl
                  have hk := blk_below HK9.out hJ.1
                  have qp0 : w'.cell? ⟨P, 0, none⟩ = some (.int .i64 fl) := (blk_cell hk 0).trans rfl
                  have qp1 : w'.cell? ⟨P, 1, none⟩ = some (.slice A0 l0.length c0) := (blk_cell hk 1).trans rfl
                  clear hk
                  refine wpOpIn_step rfl (fun K hK => ?_)
                  dsimp only
                  go_simp
                  refine hK _ _ ⟨.agg #[.int .i64 fl, .slice A0 l0.length c0], ?_, rfl, hJ⟩
                  simp [upd]
                | 8, _ =>
                  intro L t w' hL hJ hX hdep hcl
                  have x7 : t 7 = .agg #[.int .i64 fl, .slice A0 l0.length c0] := hX 7 (hdep _ rfl ⟨7, .data⟩ (by simp) rfl)
                  have hc0 := ends_c false (HX9.out.below hJ.1) HEV.out.2.1
                  rw [HLS.out.2.1] at hc0
                  have hc := Aside0.mk hc0
                  clear hc0
                  refine wpOpIn_step rfl (fun K hK => ?_)
                  dsimp only
                  simp only [x7]
                  go_simp
                  refine (callsIn_wide.2 hc.out).mono ?_
                  rintro e w9 ⟨a9, c9, rfl, s, hb⟩
                  refine hK _ _ ⟨.slice a9 bn c9, ?_, trivial, ⟨hJ.1.trans (hb.mono hJ.1.size), fun h => (by obtain ⟨a, c, e, s⟩ := hJ.2.1 h; exact ⟨a, c, e, s.below hb⟩), fun h => (by obtain ⟨a, c, e, s⟩ := hJ.2.2.1 h; exact ⟨a, c, e, s.below hb⟩), fun _ => ⟨_, _, rfl, s⟩, fun h => (by obtain ⟨a, c, e, s⟩ := hJ.2.2.2.2.1 h; exact ⟨a, c, e, s.below hb⟩), hJ.2.2.2.2.2.1, hJ.2.2.2.2.2.2⟩⟩
                  simp [upd, x7]
                | 9, _ =>
                  intro L t w' hL hJ hX hdep hcl
                  have x5 : t 5 = .agg #[.int .i64 fl, .slice A0 l0.length c0] := hX 5 (hdep _ rfl ⟨5, .data⟩ (by simp) rfl)
                  have x6 : t 6 = .slice A1 l1.length c1 := hX 6 (hdep _ rfl ⟨6, .data⟩ (by simp) rfl)
                  have hd := hdep _ rfl ⟨8, .data⟩ (by simp) rfl
                  obtain ⟨a8, c8, e8, s8⟩ := hJ.2.2.2.1 hd
                  have hc0 := dims_c (HX9.out.below hJ.1) (HY9.out.below hJ.1) s8 HEV.out.2.2.2
                  rw [HLS.out.2.1, HLS.out.2.2.2] at hc0
                  have hc := Aside0.mk hc0
                  clear hc0 s8
                  refine wpOpIn_step rfl (fun K hK => ?_)
                  dsimp only
                  simp only [x5, x6, e8]
                  go_simp
                  refine (callsIn_wide.2 hc.out).mono ?_
                  rintro e w9 ⟨g9, c9, h⟩
                  obtain ⟨rfl, s, hb⟩ : _ ∧ _ ∧ _ := by
                    rcases h with h | h
                    · exact h
                    · exact absurd (congrArg List.length h) (by rw [HLS.out.2.2.2]; exact fun e => by have : bn = 0 := e; omega)
                  refine hK _ _ ⟨.slice (some ⟨g9, 0, none⟩) bn c9, ?_, trivial, ⟨hJ.1.trans (hb.mono hJ.1.size), fun h => (by obtain ⟨a, c, e, s⟩ := hJ.2.1 h; exact ⟨a, c, e, s.below hb⟩), fun h => (by obtain ⟨a, c, e, s⟩ := hJ.2.2.1 h; exact ⟨a, c, e, s.below hb⟩), fun h => (by obtain ⟨a, c, e, s⟩ := hJ.2.2.2.1 h; exact ⟨a, c, e, s.below hb⟩), fun _ => ⟨_, _, rfl, s⟩, hJ.2.2.2.2.2.1, fun h => (by have := (hJ.2.2.2.2.2.2 h).1; rw [hL] at this; cases this)⟩⟩
                  simp [upd, x5, x6, e8]
                | 10, _ =>
                  intro L t w' hL hJ hX hdep hcl
                  have hd := hdep _ rfl ⟨4, .data⟩ (by simp) rfl
                  obtain ⟨g8, c8, e8, s8⟩ := hJ.2.2.1 hd
                  refine wpOpIn_step rfl (fun K hK => ?_)
                  dsimp only
                  simp only [e8]
                  go_simp
                  refine hK _ _ ⟨.slice (some ⟨g8, 0, none⟩) bn c8, ?_, trivial, ⟨hJ.1, hJ.2.1, hJ.2.2.1, hJ.2.2.2.1, hJ.2.2.2.2.1, fun _ => ⟨hd, e8.symm⟩, hJ.2.2.2.2.2.2⟩⟩
                  simp [upd, e8]
                | 11, _ =>
                  intro L t w' hL hJ hX hdep hcl
                  have hd := hdep _ rfl ⟨9, .data⟩ (by simp) rfl
                  obtain ⟨g8, c8, e8, s8⟩ := hJ.2.2.2.2.1 hd
                  refine wpOpIn_step rfl (fun K hK => ?_)
                  dsimp only
                  simp only [e8]
                  go_simp
                  refine hK _ _ ⟨.slice (some ⟨g8, 0, none⟩) bn c8, ?_, trivial, ⟨hJ.1, hJ.2.1, hJ.2.2.1, hJ.2.2.2.1, hJ.2.2.2.2.1, hJ.2.2.2.2.2.1, fun _ => ⟨hd, e8.symm⟩⟩⟩
                  simp [upd, e8]
                | j + 12, h => exact absurd h (by omega)
              case doneRT =>
                intro L t w10 hL hJ hX
                have x0 : t 0 = .agg #[.int .i64 fl, .slice A0 l0.length c0] := hX 0 (by decide)
                have x1 : t 1 = .slice A1 l1.length c1 := hX 1 (by decide)
                have x2 : t 2 = .agg #[.int .i64 fl, .slice A0 l0.length c0] := hX 2 (by decide)
                have x5 : t 5 = .agg #[.int .i64 fl, .slice A0 l0.length c0] := hX 5 (by decide)
                have x6 : t 6 = .slice A1 l1.length c1 := hX 6 (by decide)
                have x7 : t 7 = .agg #[.int .i64 fl, .slice A0 l0.length c0] := hX 7 (by decide)
                obtain ⟨a3, c3, e3, _⟩ := hJ.2.1 (hL 3 (by decide))
                obtain ⟨g4, c4, e4, s4⟩ := hJ.2.2.1 (hL 4 (by decide))
                obtain ⟨a8, c8, e8, _⟩ := hJ.2.2.2.1 (hL 8 (by decide))
                obtain ⟨g9, c9, e9, s9⟩ := hJ.2.2.2.2.1 (hL 9 (by decide))
                have e10 := (hJ.2.2.2.2.2.1 (hL 10 (by decide))).2
                have e11 := (hJ.2.2.2.2.2.2 (hL 11 (by decide))).2
                rw [e4] at e10
                rw [e9] at e11
                try dsimp only
                simp only [x0, x1, x2, x5, x6, x7, e3, e4, e8, e9, e10, e11]
                have hb := hJ.1
                clear x0 x1 x2 x5 x6 x7 e3 e4 e8 e9 e10 e11 hX hJ hL
                have HB10 := Aside0.mk (HB9.out.trans (hb.mono HB9.out.size))
                have HK10 := Aside0.mk (blk_below HK9.out hb)
                have HX10 := Aside0.mk (HX9.out.below hb)
                have HY10 := Aside0.mk (HY9.out.below hb)
                have HBB10 := Aside0.mk (HBB9.out.below hb)
                have HPP10 := Aside0.mk (HPP9.out.below hb)
                have HT10 := Aside0.mk (HT9.out.below hb)
                clear hb HB9 HK9 HX9 HY9 HBB9 HPP9 HT9
                have HD110 := Aside0.mk s4
                clear s4
                have HD210 := Aside0.mk s9
                clear s9
                have hbb : ((bn : Int) != (bn : Int)) = false := by simp
                gi_wp2
                gi_loopw [15] (fun s15 wr => ∃ i : Nat, i ≤ bn ∧ s15 = .int .i64 i ∧ Aside0 (Below w.heap.size w wr) ∧ Aside0 (SL k98 (some ⟨gB, 0, none⟩) cB wr bl) ∧ Aside0 (SL (Kd.int .i64) (some ⟨g4, 0, none⟩) c4 wr dl) ∧ Aside0 (SL (Kd.int .i64) (some ⟨g9, 0, none⟩) c9 wr dh))
                  (fun s15 _ => bn - (intOf s15).toNat)
                case atStart => exact ⟨0, Nat.zero_le _, rfl, HB10, HBB10, HD110, HD210⟩
                case round =>
                  obtain ⟨i, hi, rfl, HBr, HBBr, HD1r, HD2r⟩ := hrel
                  by_cases hlt : i < bn
                  · have hltz : (i : Int) < (bn : Int) := by omega
                    obtain ⟨v0, hv0⟩ : ∃ v0, v0 = nowK (fun x => x.f1) LL l1 (i + 1) := ⟨_, rfl⟩
                    obtain ⟨v1, hv1⟩ : ∃ v1, v1 = nowK (fun x => x.f0) LL l1 (i + 1) := ⟨_, rfl⟩
                    have hbnL : bn = LL.length := by rw [HNN.out, HLL.out.2]
                    have hrg : rd_T98 bl (i : Int) = ⟨v0, v1⟩ := by
                      rw [HE.out, rd_T98, Int.toNat_natCast, rangesS, List.getD_eq_getElem?_getD, List.getElem?_map, List.getElem?_range (by omega), hv0, hv1]; rfl
                    have hdl0 : rd dl (i : Int) = v0 := by rw [HDL.out.1, rd_get, dimS, List.getD_eq_getElem?_getD, List.getElem?_map, List.getElem?_range (by omega), hv0]; rfl
                    have hdh0 : rd dh (i : Int) = v1 := by rw [HDL.out.2, rd_get, dimS, List.getD_eq_getElem?_getD, List.getElem?_map, List.getElem?_range (by omega), hv1]; rfl
                    obtain ⟨ad, ea, hx0, hx1⟩ := at_T98 HBBr.out.2 (i : Int) (by omega) (by rw [← HBL.out.2.2]; omega)
                    cases ea
                    rw [hrg] at hx0 hx1
                    obtain ⟨ad, ea, hy0⟩ := Kd.at_int HD1r.out.2 (i : Int) (by omega) (by rw [HLS.out.2.2.1]; omega)
                    cases ea
                    obtain ⟨ad, ea, hy1⟩ := Kd.at_int HD2r.out.2 (i : Int) (by omega) (by rw [HLS.out.2.2.2]; omega)
                    cases ea
                    rw [hdl0] at hy0
                    rw [hdh0] at hy1
                    simp [add_plain] at hx0 hx1 hy0 hy1
                    have HCL := Aside0.mk (And.intro hx0 (And.intro hx1 (And.intro hy0 hy1)))
                    clear hx0 hx1 hy0 hy1 hrg hdl0 hdh0 hv0 hv1 hbnL
                    gi_wp2
                    refine region_mk (by kernel_rfl) (fun t => { tmps := #[.agg #[.int .i64 fl, .slice A0 l0.length c0], .slice A1 l1.length c1, .pointer (some ⟨P, 0, none⟩), undef, u4, .slice (some ⟨gB, 0, none⟩) bn cB, .int .i64 0, .slice AP 0 cP, .int .i64 10, .int .i64 0, .int .i64 10, .slice none 0 0, .bool false, .slice (some ⟨g4, 0, none⟩) bn c4, .slice (some ⟨g9, 0, none⟩) bn c9, .int .i64 (i : Int), .pointer (some ⟨P, 1, none⟩), .slice A0 l0.length c0, .int .i64 (l0.length : Int), .bool false, .bool false, .slice A1 l1.length c1, .int .i64 (l1.length : Int), .bool false, .bool false, undef, .tuple #[.slice (some ⟨gB, 0, none⟩) bn cB, .int .i64 0], .agg #[.int .i64 fl, .slice A0 l0.length c0], .agg #[.int .i64 fl, .slice B0 LL.length d0], .slice A1 l1.length c1, .slice A2 l1.length c2, .tuple #[.slice (some ⟨gB, 0, none⟩) bn cB, .int .i64 0], .slice (some ⟨gB, 0, none⟩) bn cB, .int .i64 0, .tuple #[.slice AP 0 cP, .int .i64 10], .agg #[.int .i64 fl, .slice A0 l0.length c0], .agg #[.int .i64 fl, .slice B1 LL.length d1], .tuple #[.slice AP 0 cP, .int .i64 10], .slice AP 0 cP, .int .i64 10, .agg #[.int .i64 fl, .slice A0 l0.length c0], .int .i64 0, .agg #[.int .i64 fl, .slice A0 l0.length c0], .int .i64 0, .int .i64 0, .bool false, undef, undef, undef, undef, undef, undef, undef, undef, undef, undef, undef, undef, undef, undef, undef, undef, undef, undef, undef, .tuple #[.slice AT tn cT, .bool false], .agg #[.int .i64 fl, .slice A0 l0.length c0], .tuple #[.slice AT tn cT, .bool false], .slice AT tn cT, .bool false, .bool false, .bool true, .int .i64 10, .int .i64 10, .bool false, .bool false, .slice AP 0 cP, .slice none 0 0, .bool true, .bool false, .bool false, .slice A1 l1.length c1, .pointer (some ⟨P, 1, none⟩), .slice A0 l0.length c0, .int .i64 (l0.length : Int), .bool true, .bool false, .int .i64 0, .bool false, undef, undef, undef, undef, undef, undef, undef, undef, undef, undef, undef, .agg #[.int .i64 fl, .slice A0 l0.length c0], .slice A1 l1.length c1, .agg #[.int .i64 fl, .slice A0 l0.length c0], .slice a3 bn c3, .slice (some ⟨g4, 0, none⟩) bn c4, .agg #[.int .i64 fl, .slice A0 l0.length c0], .slice A1 l1.length c1, .agg #[.int .i64 fl, .slice A0 l0.length c0], .slice a8 bn c8, .slice (some ⟨g9, 0, none⟩) bn c9, .int .i64 0, .bool false, .bool false, .slice (some ⟨gB, 0, none⟩) bn cB, .int .i64 (bn : Int), .slice (some ⟨g4, 0, none⟩) bn c4, .int .i64 (bn : Int), .bool false, .bool false, .int .i64 (i : Int), .slice (some ⟨gB, 0, none⟩) bn cB, .int .i64 (bn : Int), .bool true, u123, u124, t 0, t 1, t 2, t 3, t 4, t 5, t 6, t 7, t 8, t 9, t 10, t 11, t 12, t 13, t 14, t 15, t 16, t 17, t 18, t 19, t 20, t 21, undef], defers := [] })
                      (fun L t w' => Below wr.heap.size wr w')
                      (fun ix vx => match ix with | 0 => vx = .slice (some ⟨gB, 0, none⟩) bn cB | 1 => vx = .int .i64 (i : Int) | 2 => vx = .pointer (some ⟨gB, i * 2, none⟩) | 3 => vx = .pointer (some ⟨gB, i * 2, none⟩) | 4 => vx = .int .i64 v0 | 5 => vx = .slice (some ⟨g4, 0, none⟩) bn c4 | 6 => vx = .int .i64 (i : Int) | 7 => vx = .pointer (some ⟨g4, i, none⟩) | 8 => vx = .int .i64 v0 | 9 => vx = .bool false | 10 => vx = .bool false | 11 => vx = .slice (some ⟨gB, 0, none⟩) bn cB | 12 => vx = .int .i64 (i : Int) | 13 => vx = .pointer (some ⟨gB, i * 2, none⟩) | 14 => vx = .pointer (some ⟨gB, i * 2 + 1, none⟩) | 15 => vx = .int .i64 v1 | 16 => vx = .slice (some ⟨g9, 0, none⟩) bn c9 | 17 => vx = .int .i64 (i : Int) | 18 => vx = .pointer (some ⟨g9, i, none⟩) | 19 => vx = .int .i64 v1 | 20 => vx = .bool false | 21 => vx = .bool false | _ => True)
                      (fun j => match j with | 0 => u125 | 1 => u126 | 2 => u127 | 3 => u128 | 4 => u129 | 5 => u130 | 6 => u131 | 7 => u132 | 8 => u133 | 9 => u134 | 10 => u135 | 11 => u136 | 12 => u137 | 13 => u138 | 14 => u139 | 15 => u140 | 16 => u141 | 17 => u142 | 18 => u143 | 19 => u144 | 20 => u145 | 21 => u146 | _ => undef) (by kernel_rfl) (pw_below_drewN (Below.refl _ _) 1) ?stepRL ?doneRL
                    case stepRL =>
                      intro ix hix
                      have hi' : ix < 22 := hix
                      match ix, hi' with
                      | 0, _ =>
                        intro L t w' hL hJ hX hdep hcl
                        refine wpOpIn_step rfl (fun K hK => ?_)
                        dsimp only
                        go_simp
                        refine hK _ _ ⟨.slice (some ⟨gB, 0, none⟩) bn cB, ?_, rfl, hJ⟩
                        simp [upd]
                      | 1, _ =>
                        intro L t w' hL hJ hX hdep hcl
                        refine wpOpIn_step rfl (fun K hK => ?_)
                        dsimp only
                        go_simp
                        refine hK _ _ ⟨.int .i64 (i : Int), ?_, rfl, hJ⟩
                        simp [upd]
                      | 2, _ =>
                        intro L t w' hL hJ hX hdep hcl
                        have x0 : t 0 = .slice (some ⟨gB, 0, none⟩) bn cB := hX 0 (hdep _ rfl ⟨0, .data⟩ (by simp) rfl)
                        have x1 : t 1 = .int .i64 (i : Int) := hX 1 (hdep _ rfl ⟨1, .data⟩ (by simp) rfl)
                        refine wpOpIn_step rfl (fun K hK => ?_)
                        dsimp only
                        simp only [x0, x1]
                        go_simp
                        refine hK _ _ ⟨.pointer (some ⟨gB, i * 2, none⟩), ?_, rfl, hJ⟩
                        simp [upd, x0, x1]
                      | 3, _ =>
                        intro L t w' hL hJ hX hdep hcl
                        have x2 : t 2 = .pointer (some ⟨gB, i * 2, none⟩) := hX 2 (hdep _ rfl ⟨2, .data⟩ (by simp) rfl)
                        refine wpOpIn_step rfl (fun K hK => ?_)
                        dsimp only
                        simp only [x2]
                        go_simp
                        refine hK _ _ ⟨.pointer (some ⟨gB, i * 2, none⟩), ?_, rfl, hJ⟩
                        simp [upd, x2]
                      | 4, _ =>
                        intro L t w' hL hJ hX hdep hcl
                        have x3 : t 3 = .pointer (some ⟨gB, i * 2, none⟩) := hX 3 (hdep _ rfl ⟨3, .data⟩ (by simp) rfl)
                        have qx := pw_cell_below hJ HCL.out.1
                        refine wpOpIn_step rfl (fun K hK => ?_)
                        dsimp only
                        simp only [x3]
                        go_simp
                        refine hK _ _ ⟨.int .i64 v0, ?_, rfl, hJ⟩
                        simp [upd, x3]
                      | 5, _ =>
                        intro L t w' hL hJ hX hdep hcl
                        refine wpOpIn_step rfl (fun K hK => ?_)
                        dsimp only
                        go_simp
                        refine hK _ _ ⟨.slice (some ⟨g4, 0, none⟩) bn c4, ?_, rfl, hJ⟩
                        simp [upd]
                      | 6, _ =>
                        intro L t w' hL hJ hX hdep hcl
                        refine wpOpIn_step rfl (fun K hK => ?_)
                        dsimp only
                        go_simp
                        refine hK _ _ ⟨.int .i64 (i : Int), ?_, rfl, hJ⟩
                        simp [upd]
                      | 7, _ =>
                        intro L t w' hL hJ hX hdep hcl
                        have x5 : t 5 = .slice (some ⟨g4, 0, none⟩) bn c4 := hX 5 (hdep _ rfl ⟨5, .data⟩ (by simp) rfl)
                        have x6 : t 6 = .int .i64 (i : Int) := hX 6 (hdep _ rfl ⟨6, .data⟩ (by simp) rfl)
                        refine wpOpIn_step rfl (fun K hK => ?_)
                        dsimp only
                        simp only [x5, x6]
                        go_simp
                        refine hK _ _ ⟨.pointer (some ⟨g4, i, none⟩), ?_, rfl, hJ⟩
                        simp [upd, x5, x6]
                      | 8, _ =>
                        intro L t w' hL hJ hX hdep hcl
                        have x7 : t 7 = .pointer (some ⟨g4, i, none⟩) := hX 7 (hdep _ rfl ⟨7, .data⟩ (by simp) rfl)
                        have qx := pw_cell_below hJ HCL.out.2.2.1
                        refine wpOpIn_step rfl (fun K hK => ?_)
                        dsimp only
                        simp only [x7]
                        go_simp
                        refine hK _ _ ⟨.int .i64 v0, ?_, rfl, hJ⟩
                        simp [upd, x7]
                      | 9, _ =>
                        intro L t w' hL hJ hX hdep hcl
                        have x4 : t 4 = .int .i64 v0 := hX 4 (hdep _ rfl ⟨4, .data⟩ (by simp) rfl)
                        have x8 : t 8 = .int .i64 v0 := hX 8 (hdep _ rfl ⟨8, .data⟩ (by simp) rfl)
                        refine wpOpIn_step rfl (fun K hK => ?_)
                        dsimp only
                        simp only [x4, x8]
                        go_simp
                        refine hK _ _ ⟨.bool false, ?_, rfl, hJ⟩
                        simp [upd, x4, x8]
                      | 10, _ =>
                        intro L t w' hL hJ hX hdep hcl
                        have x9 : t 9 = .bool false := hX 9 (hdep _ rfl ⟨9, .data⟩ (by simp) rfl)
                        refine wpOpIn_step rfl (fun K hK => ?_)
                        dsimp only
                        simp only [x9]
                        go_simp
                        refine hK _ _ ⟨.bool false, ?_, rfl, hJ⟩
                        simp [upd, x9]
                      | 11, _ =>
                        intro L t w' hL hJ hX hdep hcl
                        have x10 : t 10 = .bool false := hX 10 (hdep _ rfl ⟨10, .guard⟩ (by simp) rfl)
                        refine wpOpIn_step rfl (fun K hK => ?_)
                        dsimp only
                        simp only [x10]
                        go_simp
                        refine hK _ _ ⟨.slice (some ⟨gB, 0, none⟩) bn cB, ?_, rfl, hJ⟩
                        simp [upd, x10]
                      | 12, _ =>
                        intro L t w' hL hJ hX hdep hcl
                        have x10 : t 10 = .bool false := hX 10 (hdep _ rfl ⟨10, .guard⟩ (by simp) rfl)
                        refine wpOpIn_step rfl (fun K hK => ?_)
                        dsimp only
                        simp only [x10]
                        go_simp
                        refine hK _ _ ⟨.int .i64 (i : Int), ?_, rfl, hJ⟩
                        simp [upd, x10]
                      | 13, _ =>
                        intro L t w' hL hJ hX hdep hcl
                        have x11 : t 11 = .slice (some ⟨gB, 0, none⟩) bn cB := hX 11 (hdep _ rfl ⟨11, .data⟩ (by simp) rfl)
                        have x12 : t 12 = .int .i64 (i : Int) := hX 12 (hdep _ rfl ⟨12, .data⟩ (by simp) rfl)
                        have x10 : t 10 = .bool false := hX 10 (hdep _ rfl ⟨10, .guard⟩ (by simp) rfl)
                        refine wpOpIn_step rfl (fun K hK => ?_)
                        dsimp only
                        simp only [x11, x12, x10]
                        go_simp
                        refine hK _ _ ⟨.pointer (some ⟨gB, i * 2, none⟩), ?_, rfl, hJ⟩
                        simp [upd, x11, x12, x10]
                      | 14, _ =>
                        intro L t w' hL hJ hX hdep hcl
                        have x13 : t 13 = .pointer (some ⟨gB, i * 2, none⟩) := hX 13 (hdep _ rfl ⟨13, .data⟩ (by simp) rfl)
                        have x10 : t 10 = .bool false := hX 10 (hdep _ rfl ⟨10, .guard⟩ (by simp) rfl)
                        refine wpOpIn_step rfl (fun K hK => ?_)
                        dsimp only
                        simp only [x13, x10]
                        go_simp
                        refine hK _ _ ⟨.pointer (some ⟨gB, i * 2 + 1, none⟩), ?_, rfl, hJ⟩
                        simp [upd, x13, x10]
                      | 15, _ =>
                        intro L t w' hL hJ hX hdep hcl
                        have x14 : t 14 = .pointer (some ⟨gB, i * 2 + 1, none⟩) := hX 14 (hdep _ rfl ⟨14, .data⟩ (by simp) rfl)
                        have x10 : t 10 = .bool false := hX 10 (hdep _ rfl ⟨10, .guard⟩ (by simp) rfl)
                        have qx := pw_cell_below hJ HCL.out.2.1
                        refine wpOpIn_step rfl (fun K hK => ?_)
                        dsimp only
                        simp only [x14, x10]
                        go_simp
                        refine hK _ _ ⟨.int .i64 v1, ?_, rfl, hJ⟩
                        simp [upd, x14, x10]
                      | 16, _ =>
                        intro L t w' hL hJ hX hdep hcl
                        have x10 : t 10 = .bool false := hX 10 (hdep _ rfl ⟨10, .guard⟩ (by simp) rfl)
                        refine wpOpIn_step rfl (fun K hK => ?_)
                        dsimp only
                        simp only [x10]
                        go_simp
                        refine hK _ _ ⟨.slice (some ⟨g9, 0, none⟩) bn c9, ?_, rfl, hJ⟩
                        simp [upd, x10]
                      | 17, _ =>
                        intro L t w' hL hJ hX hdep hcl
                        have x10 : t 10 = .bool false := hX 10 (hdep _ rfl ⟨10, .guard⟩ (by simp) rfl)
                        refine wpOpIn_step rfl (fun K hK => ?_)
                        dsimp only
                        simp only [x10]
                        go_simp
                        refine hK _ _ ⟨.int .i64 (i : Int), ?_, rfl, hJ⟩
                        simp [upd, x10]
                      | 18, _ =>
                        intro L t w' hL hJ hX hdep hcl
                        have x16 : t 16 = .slice (some ⟨g9, 0, none⟩) bn c9 := hX 16 (hdep _ rfl ⟨16, .data⟩ (by simp) rfl)
                        have x17 : t 17 = .int .i64 (i : Int) := hX 17 (hdep _ rfl ⟨17, .data⟩ (by simp) rfl)
                        have x10 : t 10 = .bool false := hX 10 (hdep _ rfl ⟨10, .guard⟩ (by simp) rfl)
                        refine wpOpIn_step rfl (fun K hK => ?_)
                        dsimp only
                        simp only [x16, x17, x10]
                        go_simp
                        refine hK _ _ ⟨.pointer (some ⟨g9, i, none⟩), ?_, rfl, hJ⟩
                        simp [upd, x16, x17, x10]
                      | 19, _ =>
                        intro L t w' hL hJ hX hdep hcl
                        have x18 : t 18 = .pointer (some ⟨g9, i, none⟩) := hX 18 (hdep _ rfl ⟨18, .data⟩ (by simp) rfl)
                        have x10 : t 10 = .bool false := hX 10 (hdep _ rfl ⟨10, .guard⟩ (by simp) rfl)
                        have qx := pw_cell_below hJ HCL.out.2.2.2
                        refine wpOpIn_step rfl (fun K hK => ?_)
                        dsimp only
                        simp only [x18, x10]
                        go_simp
                        refine hK _ _ ⟨.int .i64 v1, ?_, rfl, hJ⟩
                        simp [upd, x18, x10]
                      | 20, _ =>
                        intro L t w' hL hJ hX hdep hcl
                        have x15 : t 15 = .int .i64 v1 := hX 15 (hdep _ rfl ⟨15, .data⟩ (by simp) rfl)
                        have x19 : t 19 = .int .i64 v1 := hX 19 (hdep _ rfl ⟨19, .data⟩ (by simp) rfl)
                        have x10 : t 10 = .bool false := hX 10 (hdep _ rfl ⟨10, .guard⟩ (by simp) rfl)
                        refine wpOpIn_step rfl (fun K hK => ?_)
                        dsimp only
                        simp only [x15, x19, x10]
                        go_simp
                        refine hK _ _ ⟨.bool false, ?_, rfl, hJ⟩
                        simp [upd, x15, x19, x10]
                      | 21, _ =>
                        intro L t w' hL hJ hX hdep hcl
                        have x10 : t 10 = .bool false := hX 10 (hdep _ rfl ⟨10, .data⟩ (by simp) rfl)
                        have x20 : t 20 = .bool false := hX 20 (hdep _ rfl ⟨20, .data⟩ (by simp) rfl)
                        refine wpOpIn_step rfl (fun K hK => ?_)
                        dsimp only
                        simp only [x10, x20]
                        go_simp
                        refine hK _ _ ⟨.bool false, ?_, rfl, hJ⟩
                        simp [upd, x10, x20]
                      | j + 22, h => exact absurd h (by omega)
                    case doneRL =>
                      intro L t w' hL hJ hX
                      have x0 : t 0 = .slice (some ⟨gB, 0, none⟩) bn cB := hX 0 (by decide)
                      have x1 : t 1 = .int .i64 (i : Int) := hX 1 (by decide)
                      have x2 : t 2 = .pointer (some ⟨gB, i * 2, none⟩) := hX 2 (by decide)
                      have x3 : t 3 = .pointer (some ⟨gB, i * 2, none⟩) := hX 3 (by decide)
                      have x4 : t 4 = .int .i64 v0 := hX 4 (by decide)
                      have x5 : t 5 = .slice (some ⟨g4, 0, none⟩) bn c4 := hX 5 (by decide)
                      have x6 : t 6 = .int .i64 (i : Int) := hX 6 (by decide)
                      have x7 : t 7 = .pointer (some ⟨g4, i, none⟩) := hX 7 (by decide)
                      have x8 : t 8 = .int .i64 v0 := hX 8 (by decide)
                      have x9 : t 9 = .bool false := hX 9 (by decide)
                      have x10 : t 10 = .bool false := hX 10 (by decide)
                      have x11 : t 11 = .slice (some ⟨gB, 0, none⟩) bn cB := hX 11 (by decide)
                      have x12 : t 12 = .int .i64 (i : Int) := hX 12 (by decide)
                      have x13 : t 13 = .pointer (some ⟨gB, i * 2, none⟩) := hX 13 (by decide)
                      have x14 : t 14 = .pointer (some ⟨gB, i * 2 + 1, none⟩) := hX 14 (by decide)
                      have x15 : t 15 = .int .i64 v1 := hX 15 (by decide)
                      have x16 : t 16 = .slice (some ⟨g9, 0, none⟩) bn c9 := hX 16 (by decide)
                      have x17 : t 17 = .int .i64 (i : Int) := hX 17 (by decide)
                      have x18 : t 18 = .pointer (some ⟨g9, i, none⟩) := hX 18 (by decide)
                      have x19 : t 19 = .int .i64 v1 := hX 19 (by decide)
                      have x20 : t 20 = .bool false := hX 20 (by decide)
                      have x21 : t 21 = .bool false := hX 21 (by decide)
                      try dsimp only
                      simp only [x0, x1, x2, x3, x4, x5, x6, x7, x8, x9, x10, x11, x12, x13, x14, x15, x16, x17, x18, x19, x20, x21]
                      have HJ1 := Aside0.mk hJ
                      clear x0 x1 x2 x3 x4 x5 x6 x7 x8 x9 x10 x11 x12 x13 x14 x15 x16 x17 x18 x19 x20 x21 hX hJ hL
                      have hw2 : IntKind.i64.wrap ((i : Int) + 1) = (i : Int) + 1 := by rw [IntKind.wrap_i64]; have := HLEN.out.1; have := HNN.out; omega
                      have hw3 : wrap64 ((i : Int) + 1) = (i : Int) + 1 := by unfold wrap64; have := HLEN.out.1; have := HNN.out; omega
                      gi_wp2
                      go_roundw
                      case measure => simp [intOf]; omega
                      case rel => exact ⟨i + 1, by omega, by go_num, ⟨HBr.out.trans (HJ1.out.mono HBr.out.size)⟩, ⟨HBBr.out.below HJ1.out⟩, ⟨HD1r.out.below HJ1.out⟩, ⟨HD2r.out.below HJ1.out⟩⟩
                  · have hltz : ¬ (i : Int) < (bn : Int) := by omega
                    obtain rfl : i = bn := by omega
                    have hc := Aside0.mk (lawake_any wr)
                    gi_wp2_with fail
                    refine (callsIn_wide.2 hc.out).mono ?_
                    rintro e w9 ⟨rfl, hb⟩
                    gi_wp2
                    go_ret
                    exact ⟨rfl, HBr.out.trans (hb.mono HBr.out.size)⟩
          | true =>
            have e1 : pl = best := by rw [HPL.out.1, hpol.out]; rfl
            obtain rfl : pe = 0 := by rw [HPL.out.2.1, hpol.out]; rfl
            have e2 : tn = pn := by rw [HTL.out.1, HPL.out.2.2, e1]
            subst e2
            subst e1
            have hcs := same_c HPP7.out HT7.out HTL.out.2
            rw [← HTL.out.1] at hcs
            have HCB := Aside0.mk hcs
            clear hcs
            have hc := Aside0.mk (HCB.out)
            gi_wp2_with fail
            refine (callsIn_wide.2 hc.out).mono ?_
            rintro e w8 ⟨rfl, hb⟩
            clear hc
            have HB8 := Aside0.mk (HB7.out.trans (hb.mono HB7.out.size))
            have HK8 := Aside0.mk (blk_below HK7.out hb)
            have HX8 := Aside0.mk (HX7.out.below hb)
            have HY8 := Aside0.mk (HY7.out.below hb)
            have HBB8 := Aside0.mk (HBB7.out.below hb)
            have HPP8 := Aside0.mk (HPP7.out.below hb)
            have HT8 := Aside0.mk (HT7.out.below hb)
            clear hb HB7 HK7 HX7 HY7 HBB7 HPP7 HT7
            clear HCB
            obtain ⟨ib, hib⟩ : ∃ ib, ib = incB l1 l0.length := ⟨_, rfl⟩
            have hri := rising_ev l1 l0.length (by have := HLEN.out.2; omega) (by have := HLEN.out.1; omega)
            rw [← hib] at hri
            have HIB := Aside0.mk (And.intro hib hri)
            clear hib hri
            have qHK0 : w8.cell? ⟨P, 0, none⟩ = some (.int .i64 fl) := (blk_cell HK8.out 0).trans rfl
            have qHK1 : w8.cell? ⟨P, 1, none⟩ = some (.slice A0 l0.length c0) := (blk_cell HK8.out 1).trans rfl
            have hc := Aside0.mk (rising_c l0.length HY8.out HIB.out.2)
            gi_wp2_with fail
            refine (callsIn_wide.2 hc.out).mono ?_
            rintro e w9 ⟨rfl, hb⟩
            clear hc qHK0 qHK1
            have HB9 := Aside0.mk (HB8.out.trans (hb.mono HB8.out.size))
            have HK9 := Aside0.mk (blk_below HK8.out hb)
            have HX9 := Aside0.mk (HX8.out.below hb)
            have HY9 := Aside0.mk (HY8.out.below hb)
            have HBB9 := Aside0.mk (HBB8.out.below hb)
            have HPP9 := Aside0.mk (HPP8.out.below hb)
            have HT9 := Aside0.mk (HT8.out.below hb)
            clear hb HB8 HK8 HX8 HY8 HBB8 HPP8 HT8
            have hbr : brightS fl LL l1 = if ib = false then ([], 2) else (rangesS LL l1, 0) := by unfold brightS; rw [← HME.out, if_neg (by simp), HIB.out.1, HLL.out.2]
            cases ib with
            | false =>
              have e1 : bl = [] := by rw [HBL.out.1, hbr]; rfl
              obtain rfl : be = 2 := by rw [HBL.out.2.1, hbr]; rfl
              obtain rfl : bn = 0 := by rw [HBL.out.2.2, e1]; rfl
              have hc := Aside0.mk (lawake_any w9)
              gi_wp2_with fail
              refine (callsIn_wide.2 hc.out).mono ?_
              rintro e w10 ⟨rfl, hb⟩
              clear hc
              have HB10 := Aside0.mk (HB9.out.trans (hb.mono HB9.out.size))
              have HK10 := Aside0.mk (blk_below HK9.out hb)
              have HX10 := Aside0.mk (HX9.out.below hb)
              have HY10 := Aside0.mk (HY9.out.below hb)
              have HBB10 := Aside0.mk (HBB9.out.below hb)
              have HPP10 := Aside0.mk (HPP9.out.below hb)
              have HT10 := Aside0.mk (HT9.out.below hb)
              clear hb HB9 HK9 HX9 HY9 HBB9 HPP9 HT9
              gi_wp2
              go_ret
              exact ⟨rfl, HB10.out⟩
            | true =>
              have e1 : bl = rangesS LL l1 := by rw [HBL.out.1, hbr]; rfl
              obtain rfl : be = 0 := by rw [HBL.out.2.1, hbr]; rfl
              obtain ⟨nn, hnn⟩ : ∃ nn, nn = l0.length := ⟨_, rfl⟩
              have hbnn : bn = nn := by rw [HBL.out.2.2, e1, hnn, HLL.out.2]; simp [rangesS]
              subst hbnn
              obtain ⟨tr1, ht1⟩ : ∃ tr1, tr1 = l0.map (fun x => if true = true then x.f1 else x.f0) := ⟨_, rfl⟩
              obtain ⟨tr2, ht2⟩ : ∃ tr2, tr2 = l0.map (fun x => if false = true then x.f1 else x.f0) := ⟨_, rfl⟩
              obtain ⟨dl, hdl⟩ : ∃ dl, dl = dimS (fun x => x.f1) LL l1 := ⟨_, rfl⟩
              obtain ⟨dh, hdh⟩ : ∃ dh, dh = dimS (fun x => x.f0) LL l1 := ⟨_, rfl⟩
              have hlo : ∀ x ∈ l0, 0 ≤ x.f0 ∧ x.f0 ≤ x.f1 ∧ x.f1 ≤ 100 := fun x hx => HLO.out.2.2 (toR x) (by rw [HLL.out.1]; exact List.mem_map_of_mem hx)
              have he1' := ends_ev fl l0 true (by have := HLEN.out.1; omega)
              have he2' := ends_ev fl l0 false (by have := HLEN.out.1; omega)
              rw [← ht1] at he1'
              rw [← ht2] at he2'
              have hd1 := dims_ev fl l0 l1 tr1 (by have := HLEN.out.1; omega) (by have := HLEN.out.2; omega) (by rw [ht1]; simp) (fun y hy => by rw [ht1] at hy; obtain ⟨z, hz, rfl⟩ := List.mem_map.1 hy; have := hlo z hz; simp; omega)
              have hd2 := dims_ev fl l0 l1 tr2 (by have := HLEN.out.1; omega) (by have := HLEN.out.2; omega) (by rw [ht2]; simp) (fun y hy => by rw [ht2] at hy; obtain ⟨z, hz, rfl⟩ := List.mem_map.1 hy; have := hlo z hz; simp; omega)
              have hk1 : dimsT tr1 l1 l0.length = dl := by rw [ht1, hdl, HLL.out.1]; exact dims_K l0 (fun x => x.f1) _ l1 (fun _ => rfl)
              have hk2 : dimsT tr2 l1 l0.length = dh := by rw [ht2, hdh, HLL.out.1]; exact dims_K l0 (fun x => x.f0) _ l1 (fun _ => rfl)
              rw [hk1] at hd1
              rw [hk2] at hd2
              have hl1 : tr1.length = bn := by rw [ht1, hnn]; simp
              have hl2 : tr2.length = bn := by rw [ht2, hnn]; simp
              have hl3 : dl.length = bn := by rw [hdl, hnn, HLL.out.2]; simp [dimS]
              have hl4 : dh.length = bn := by rw [hdh, hnn, HLL.out.2]; simp [dimS]
              have hn0 : 0 < bn := by rw [hnn, HLL.out.2]; exact HLO.out.1
              have HEV := Aside0.mk (And.intro he1' (And.intro he2' (And.intro hd1 hd2)))
              have HLS := Aside0.mk (And.intro hl1 (And.intro hl2 (And.intro hl3 hl4)))
              have HDL := Aside0.mk (And.intro hdl hdh)
              have HE := Aside0.mk e1
              have HNN := Aside0.mk hnn
              obtain ⟨gB, hgB⟩ := HAB.out hn0
              subst hgB
              clear ht1 ht2 hdl hdh hlo he1' he2' hd1 hd2 hk1 hk2 hl1 hl2 hl3 hl4 e1 hnn hbr
              gi_wp2
              refine region_mk (by kernel_rfl) (fun t => { tmps := #[.agg #[.int .i64 fl, .slice A0 l0.length c0], .slice A1 l1.length c1, .pointer (some ⟨P, 0, none⟩), undef, .bool false, .slice (some ⟨gB, 0, none⟩) bn cB, .int .i64 0, .slice AP tn cP, .int .i64 0, .int .i64 0, .int .i64 0, .slice AT tn cT, .bool true, t 10, t 11, undef, .pointer (some ⟨P, 1, none⟩), .slice A0 l0.length c0, .int .i64 (l0.length : Int), .bool false, .bool false, .slice A1 l1.length c1, .int .i64 (l1.length : Int), .bool false, .bool false, undef, .tuple #[.slice (some ⟨gB, 0, none⟩) bn cB, .int .i64 0], .agg #[.int .i64 fl, .slice A0 l0.length c0], .agg #[.int .i64 fl, .slice B0 LL.length d0], .slice A1 l1.length c1, .slice A2 l1.length c2, .tuple #[.slice (some ⟨gB, 0, none⟩) bn cB, .int .i64 0], .slice (some ⟨gB, 0, none⟩) bn cB, .int .i64 0, .tuple #[.slice AP tn cP, .int .i64 0], .agg #[.int .i64 fl, .slice A0 l0.length c0], .agg #[.int .i64 fl, .slice B1 LL.length d1], .tuple #[.slice AP tn cP, .int .i64 0], .slice AP tn cP, .int .i64 0, .agg #[.int .i64 fl, .slice A0 l0.length c0], .int .i64 0, .agg #[.int .i64 fl, .slice A0 l0.length c0], .int .i64 0, .int .i64 0, .bool false, undef, undef, undef, undef, undef, undef, undef, undef, undef, undef, undef, undef, undef, undef, undef, undef, undef, undef, undef, .tuple #[.slice AT tn cT, .bool true], .agg #[.int .i64 fl, .slice A0 l0.length c0], .tuple #[.slice AT tn cT, .bool true], .slice AT tn cT, .bool true, .bool true, .bool false, .int .i64 0, .int .i64 0, .bool false, .bool false, .slice AP tn cP, .slice AT tn cT, .bool true, .bool false, .bool false, .slice A1 l1.length c1, .pointer (some ⟨P, 1, none⟩), .slice A0 l0.length c0, .int .i64 (l0.length : Int), .bool true, .bool false, .int .i64 0, .bool false, undef, undef, undef, undef, undef, undef, undef, undef, undef, undef, undef, t 0, t 1, t 2, t 3, t 4, t 5, t 6, t 7, t 8, t 9, undef, undef, undef, undef, undef, undef, undef, undef, undef, undef, undef, undef, undef, undef, undef, undef, undef, undef, undef, undef, undef, undef, undef, undef, undef, undef, undef, undef, undef, undef, undef, undef, undef, undef, undef, undef, undef, undef], defers := [] })
                (fun L t w' => Below w9.heap.size w9 w' ∧ (L 3 = true → ∃ A c, t 3 = .slice A bn c ∧ SL (Kd.int .i64) A c w' tr1) ∧ (L 4 = true → ∃ g c, t 4 = .slice (some ⟨g, 0, none⟩) bn c ∧ SL (Kd.int .i64) (some ⟨g, 0, none⟩) c w' dl) ∧ (L 8 = true → ∃ A c, t 8 = .slice A bn c ∧ SL (Kd.int .i64) A c w' tr2) ∧ (L 9 = true → ∃ g c, t 9 = .slice (some ⟨g, 0, none⟩) bn c ∧ SL (Kd.int .i64) (some ⟨g, 0, none⟩) c w' dh) ∧ (L 10 = true → L 4 = true ∧ t 10 = t 4) ∧ (L 11 = true → L 9 = true ∧ t 11 = t 9))
                (fun ix vx => match ix with | 0 => vx = .agg #[.int .i64 fl, .slice A0 l0.length c0] | 1 => vx = .slice A1 l1.length c1 | 2 => vx = .agg #[.int .i64 fl, .slice A0 l0.length c0] | 3 => True | 4 => True | 5 => vx = .agg #[.int .i64 fl, .slice A0 l0.length c0] | 6 => vx = .slice A1 l1.length c1 | 7 => vx = .agg #[.int .i64 fl, .slice A0 l0.length c0] | 8 => True | 9 => True | 10 => True | 11 => True | _ => True)
                (fun j => undef) (by kernel_rfl) ⟨pw_below_drewN (Below.refl _ _) 1, by simp, by simp, by simp, by simp, by simp, by simp⟩ ?stepRT ?doneRT
              case stepRT =>
                intro ix hix
                have hi' : ix < 12 := hix
                match ix, hi' with
                | 0, _ =>
                  intro L t w' hL hJ hX hdep hcl
                  have hk := blk_below HK9.out hJ.1
                  have qp0 : w'.cell? ⟨P, 0, none⟩ = some (.int .i64 fl) := (blk_cell hk 0).trans rfl
                  have qp1 : w'.cell? ⟨P, 1, none⟩ = some (.slice A0 l0.length c0) := (blk_cell hk 1).trans rfl
                  clear hk
                  refine wpOpIn_step rfl (fun K hK => ?_)
                  dsimp only
                  go_simp
                  refine hK _ _ ⟨.agg #[.int .i64 fl, .slice A0 l0.length c0], ?_, rfl, hJ⟩
                  simp [upd]
                | 1, _ =>
                  intro L t w' hL hJ hX hdep hcl
                  refine wpOpIn_step rfl (fun K hK => ?_)
                  dsimp only
                  go_simp
                  refine hK _ _ ⟨.slice A1 l1.length c1, ?_, rfl, hJ⟩
                  simp [upd]
                | 2, _ =>
                  intro L t w' hL hJ hX hdep hcl
                  have hk := blk_below HK9.out hJ.1
                  have qp0 : w'.cell? ⟨P, 0, none⟩ = some (.int .i64 fl) := (blk_cell hk 0).trans rfl
                  have qp1 : w'.cell? ⟨P, 1, none⟩ = some (.slice A0 l0.length c0) := (blk_cell hk 1).trans rfl
                  clear hk
                  refine wpOpIn_step rfl (fun K hK => ?_)
                  dsimp only
                  go_simp
                  refine hK _ _ ⟨.agg #[.int .i64 fl, .slice A0 l0.length c0], ?_, rfl, hJ⟩
                  simp [upd]
                | 3, _ =>
                  intro L t w' hL hJ hX hdep hcl
                  have x2 : t 2 = .agg #[.int .i64 fl, .slice A0 l0.length c0] := hX 2 (hdep _ rfl ⟨2, .data⟩ (by simp) rfl)
                  have hc0 := ends_c true (HX9.out.below hJ.1) HEV.out.1
                  rw [HLS.out.1] at hc0
                  have hc := Aside0.mk hc0
                  clear hc0
                  refine wpOpIn_step rfl (fun K hK => ?_)
                  dsimp only
                  simp only [x2]
                  go_simp
                  refine (callsIn_wide.2 hc.out).mono ?_
                  rintro e w9 ⟨a9, c9, rfl, s, hb⟩
                  refine hK _ _ ⟨.slice a9 bn c9, ?_, trivial, ⟨hJ.1.trans (hb.mono hJ.1.size), fun _ => ⟨_, _, rfl, s⟩, fun h => (by obtain ⟨a, c, e, s⟩ := hJ.2.2.1 h; exact ⟨a, c, e, s.below hb⟩), fun h => (by obtain ⟨a, c, e, s⟩ := hJ.2.2.2.1 h; exact ⟨a, c, e, s.below hb⟩), fun h => (by obtain ⟨a, c, e, s⟩ := hJ.2.2.2.2.1 h; exact ⟨a, c, e, s.below hb⟩), hJ.2.2.2.2.2.1, hJ.2.2.2.2.2.2⟩⟩
                  simp [upd, x2]
                | 4, _ =>
                  intro L t w' hL hJ hX hdep hcl
                  have x0 : t 0 = .agg #[.int .i64 fl, .slice A0 l0.length c0] := hX 0 (hdep _ rfl ⟨0, .data⟩ (by simp) rfl)
                  have x1 : t 1 = .slice A1 l1.length c1 := hX 1 (hdep _ rfl ⟨1, .data⟩ (by simp) rfl)
                  have hd := hdep _ rfl ⟨3, .data⟩ (by simp) rfl
                  obtain ⟨a8, c8, e8, s8⟩ := hJ.2.1 hd
                  have hc0 := dims_c (HX9.out.below hJ.1) (HY9.out.below hJ.1) s8 HEV.out.2.2.1
                  rw [HLS.out.1, HLS.out.2.2.1] at hc0
                  have hc := Aside0.mk hc0
                  clear hc0 s8
                  refine wpOpIn_step rfl (fun K hK => ?_)
                  dsimp only
                  simp only [x0, x1, e8]
                  go_simp
                  refine (callsIn_wide.2 hc.out).mono ?_
                  rintro e w9 ⟨g9, c9, h⟩
                  obtain ⟨rfl, s, hb⟩ : _ ∧ _ ∧ _ := by
                    rcases h with h | h
                    · exact h
                    · exact absurd (congrArg List.length h) (by rw [HLS.out.2.2.1]; exact fun e => by have : bn = 0 := e; omega)
                  refine hK _ _ ⟨.slice (some ⟨g9, 0, none⟩) bn c9, ?_, trivial, ⟨hJ.1.trans (hb.mono hJ.1.size), fun h => (by obtain ⟨a, c, e, s⟩ := hJ.2.1 h; exact ⟨a, c, e, s.below hb⟩), fun _ => ⟨_, _, rfl, s⟩, fun h => (by obtain ⟨a, c, e, s⟩ := hJ.2.2.2.1 h; exact ⟨a, c, e, s.below hb⟩), fun h => (by obtain ⟨a, c, e, s⟩ := hJ.2.2.2.2.1 h; exact ⟨a, c, e, s.below hb⟩), fun h => (by have := (hJ.2.2.2.2.2.1 h).1; rw [hL] at this; cases this), hJ.2.2.2.2.2.2⟩⟩
                  simp [upd, x0, x1, e8]
                | 5, _ =>
                  intro L t w' hL hJ hX hdep hcl
                  have hk := blk_below HK9.out hJ.1
                  have qp0 : w'.cell? ⟨P, 0, none⟩ = some (.int .i64 fl) := (blk_cell hk 0).trans rfl
                  have qp1 : w'.cell? ⟨P, 1, none⟩ = some (.slice A0 l0.length c0) := (blk_cell hk 1).trans rfl
                  clear hk
                  refine wpOpIn_step rfl (fun K hK => ?_)
                  dsimp only
                  go_simp
                  refine hK _ _ ⟨.agg #[.int .i64 fl, .slice A0 l0.length c0], ?_, rfl, hJ⟩
                  simp [upd]
                | 6, _ =>
                  intro L t w' hL hJ hX hdep hcl
                  refine wpOpIn_step rfl (fun K hK => ?_)
                  dsimp only
                  go_simp
                  refine hK _ _ ⟨.slice A1 l1.length c1, ?_, rfl, hJ⟩
                  simp [upd]
                | 7, _ =>
                  intro L t w' hL hJ hX hdep hcl
                  have hk := blk_below HK9.out hJ.1
                  have qp0 : w'.cell? ⟨P, 0, none⟩ = some (.int .i64 fl) := (blk_cell hk 0).trans rfl
                  have qp1 : w'.cell? ⟨P, 1, none⟩ = some (.slice A0 l0.length c0) := (blk_cell hk 1).trans rfl
                  clear hk
                  refine wpOpIn_step rfl (fun K hK => ?_)
                  dsimp only
                  go_simp
                  refine hK _ _ ⟨.agg #[.int .i64 fl, .slice A0 l0.length c0], ?_, rfl, hJ⟩
                  simp [upd]
                | 8, _ =>
                  intro L t w' hL hJ hX hdep hcl
                  have x7 : t 7 = .agg #[.int .i64 fl, .slice A0 l0.length c0] := hX 7 (hdep _ rfl ⟨7, .data⟩ (by simp) rfl)
                  have hc0 := ends_c false (HX9.out.below hJ.1) HEV.out.2.1
                  rw [HLS.out.2.1] at hc0
                  have hc := Aside0.mk hc0
                  clear hc0
                  refine wpOpIn_step rfl (fun K hK => ?_)
                  dsimp only
                  simp only [x7]
                  go_simp
                  refine (callsIn_wide.2 hc.out).mono ?_
                  rintro e w9 ⟨a9, c9, rfl, s, hb⟩
                  refine hK _ _ ⟨.slice a9 bn c9, ?_, trivial, ⟨hJ.1.trans (hb.mono hJ.1.size), fun h => (by obtain ⟨a, c, e, s⟩ := hJ.2.1 h; exact ⟨a, c, e, s.below hb⟩), fun h => (by obtain ⟨a, c, e, s⟩ := hJ.2.2.1 h; exact ⟨a, c, e, s.below hb⟩), fun _ => ⟨_, _, rfl, s⟩, fun h => (by obtain ⟨a, c, e, s⟩ := hJ.2.2.2.2.1 h; exact ⟨a, c, e, s.below hb⟩), hJ.2.2.2.2.2.1, hJ.2.2.2.2.2.2⟩⟩
                  simp [upd, x7]
                | 9, _ =>
                  intro L t w' hL hJ hX hdep hcl
                  have x5 : t 5 = .agg #[.int .i64 fl, .slice A0 l0.length c0] := hX 5 (hdep _ rfl ⟨5, .data⟩ (by simp) rfl)
                  have x6 : t 6 = .slice A1 l1.length c1 := hX 6 (hdep _ rfl ⟨6, .data⟩ (by simp) rfl)
                  have hd := hdep _ rfl ⟨8, .data⟩ (by simp) rfl
                  obtain ⟨a8, c8, e8, s8⟩ := hJ.2.2.2.1 hd
                  have hc0 := dims_c (HX9.out.below hJ.1) (HY9.out.below hJ.1) s8 HEV.out.2.2.2
                  rw [HLS.out.2.1, HLS.out.2.2.2] at hc0
                  have hc := Aside0.mk hc0
                  clear hc0 s8
                  refine wpOpIn_step rfl (fun K hK => ?_)
                  dsimp only
                  simp only [x5, x6, e8]
                  go_simp
                  refine (callsIn_wide.2 hc.out).mono ?_
                  rintro e w9 ⟨g9, c9, h⟩
                  obtain ⟨rfl, s, hb⟩ : _ ∧ _ ∧ _ := by
                    rcases h with h | h
                    · exact h
                    · exact absurd (congrArg List.length h) (by rw [HLS.out.2.2.2]; exact fun e => by have : bn = 0 := e; omega)
                  refine hK _ _ ⟨.slice (some ⟨g9, 0, none⟩) bn c9, ?_, trivial, ⟨hJ.1.trans (hb.mono hJ.1.size), fun h => (by obtain ⟨a, c, e, s⟩ := hJ.2.1 h; exact ⟨a, c, e, s.below hb⟩), fun h => (by obtain ⟨a, c, e, s⟩ := hJ.2.2.1 h; exact ⟨a, c, e, s.below hb⟩), fun h => (by obtain ⟨a, c, e, s⟩ := hJ.2.2.2.1 h; exact ⟨a, c, e, s.below hb⟩), fun _ => ⟨_, _, rfl, s⟩, hJ.2.2.2.2.2.1, fun h => (by have := (hJ.2.2.2.2.2.2 h).1; rw [hL] at this; cases this)⟩⟩
                  simp [upd, x5, x6, e8]
                | 10, _ =>
                  intro L t w' hL hJ hX hdep hcl
                  have hd := hdep _ rfl ⟨4, .data⟩ (by simp) rfl
                  obtain ⟨g8, c8, e8, s8⟩ := hJ.2.2.1 hd
                  refine wpOpIn_step rfl (fun K hK => ?_)
                  dsimp only
                  simp only [e8]
                  go_simp
                  refine hK _ _ ⟨.slice (some ⟨g8, 0, none⟩) bn c8, ?_, trivial, ⟨hJ.1, hJ.2.1, hJ.2.2.1, hJ.2.2.2.1, hJ.2.2.2.2.1, fun _ => ⟨hd, e8.symm⟩, hJ.2.2.2.2.2.2⟩⟩
                  simp [upd, e8]
                | 11, _ =>
                  intro L t w' hL hJ hX hdep hcl
                  have hd := hdep _ rfl ⟨9, .data⟩ (by simp) rfl
                  obtain ⟨g8, c8, e8, s8⟩ := hJ.2.2.2.2.1 hd
                  refine wpOpIn_step rfl (fun K hK => ?_)
                  dsimp only
                  simp only [e8]
                  go_simp
                  refine hK _ _ ⟨.slice (some ⟨g8, 0, none⟩) bn c8, ?_, trivial, ⟨hJ.1, hJ.2.1, hJ.2.2.1, hJ.2.2.2.1, hJ.2.2.2.2.1, hJ.2.2.2.2.2.1, fun _ => ⟨hd, e8.symm⟩⟩⟩
                  simp [upd, e8]
                | j + 12, h => exact absurd h (by omega)
              case doneRT =>
                intro L t w10 hL hJ hX
                have x0 : t 0 = .agg #[.int .i64 fl, .slice A0 l0.length c0] := hX 0 (by decide)
                have x1 : t 1 = .slice A1 l1.length c1 := hX 1 (by decide)
                have x2 : t 2 = .agg #[.int .i64 fl, .slice A0 l0.length c0] := hX 2 (by decide)
                have x5 : t 5 = .agg #[.int .i64 fl, .slice A0 l0.length c0] := hX 5 (by decide)
                have x6 : t 6 = .slice A1 l1.length c1 := hX 6 (by decide)
                have x7 : t 7 = .agg #[.int .i64 fl, .slice A0 l0.length c0] := hX 7 (by decide)
                obtain ⟨a3, c3, e3, _⟩ := hJ.2.1 (hL 3 (by decide))
                obtain ⟨g4, c4, e4, s4⟩ := hJ.2.2.1 (hL 4 (by decide))
                obtain ⟨a8, c8, e8, _⟩ := hJ.2.2.2.1 (hL 8 (by decide))
                obtain ⟨g9, c9, e9, s9⟩ := hJ.2.2.2.2.1 (hL 9 (by decide))
                have e10 := (hJ.2.2.2.2.2.1 (hL 10 (by decide))).2
                have e11 := (hJ.2.2.2.2.2.2 (hL 11 (by decide))).2
                rw [e4] at e10
                rw [e9] at e11
                try dsimp only
                simp only [x0, x1, x2, x5, x6, x7, e3, e4, e8, e9, e10, e11]
                have hb := hJ.1
                clear x0 x1 x2 x5 x6 x7 e3 e4 e8 e9 e10 e11 hX hJ hL
                have HB10 := Aside0.mk (HB9.out.trans (hb.mono HB9.out.size))
                have HK10 := Aside0.mk (blk_below HK9.out hb)
                have HX10 := Aside0.mk (HX9.out.below hb)
                have HY10 := Aside0.mk (HY9.out.below hb)
                have HBB10 := Aside0.mk (HBB9.out.below hb)
                have HPP10 := Aside0.mk (HPP9.out.below hb)
                have HT10 := Aside0.mk (HT9.out.below hb)
                clear hb HB9 HK9 HX9 HY9 HBB9 HPP9 HT9
                have HD110 := Aside0.mk s4
                clear s4
                have HD210 := Aside0.mk s9
                clear s9
                have hbb : ((bn : Int) != (bn : Int)) = false := by simp
                gi_wp2
                gi_loopw [15] (fun s15 wr => ∃ i : Nat, i ≤ bn ∧ s15 = .int .i64 i ∧ Aside0 (Below w.heap.size w wr) ∧ Aside0 (SL k98 (some ⟨gB, 0, none⟩) cB wr bl) ∧ Aside0 (SL (Kd.int .i64) (some ⟨g4, 0, none⟩) c4 wr dl) ∧ Aside0 (SL (Kd.int .i64) (some ⟨g9, 0, none⟩) c9 wr dh))
                  (fun s15 _ => bn - (intOf s15).toNat)
                case atStart => exact ⟨0, Nat.zero_le _, rfl, HB10, HBB10, HD110, HD210⟩
                case round =>
                  obtain ⟨i, hi, rfl, HBr, HBBr, HD1r, HD2r⟩ := hrel
                  by_cases hlt : i < bn
                  · have hltz : (i : Int) < (bn : Int) := by omega
                    obtain ⟨v0, hv0⟩ : ∃ v0, v0 = nowK (fun x => x.f1) LL l1 (i + 1) := ⟨_, rfl⟩
                    obtain ⟨v1, hv1⟩ : ∃ v1, v1 = nowK (fun x => x.f0) LL l1 (i + 1) := ⟨_, rfl⟩
                    have hbnL : bn = LL.length := by rw [HNN.out, HLL.out.2]
                    have hrg : rd_T98 bl (i : Int) = ⟨v0, v1⟩ := by
                      rw [HE.out, rd_T98, Int.toNat_natCast, rangesS, List.getD_eq_getElem?_getD, List.getElem?_map, List.getElem?_range (by omega), hv0, hv1]; rfl
                    have hdl0 : rd dl (i : Int) = v0 := by rw [HDL.out.1, rd_get, dimS, List.getD_eq_getElem?_getD, List.getElem?_map, List.getElem?_range (by omega), hv0]; rfl
                    have hdh0 : rd dh (i : Int) = v1 := by rw [HDL.out.2, rd_get, dimS, List.getD_eq_getElem?_getD, List.getElem?_map, List.getElem?_range (by omega), hv1]; rfl
                    obtain ⟨ad, ea, hx0, hx1⟩ := at_T98 HBBr.out.2 (i : Int) (by omega) (by rw [← HBL.out.2.2]; omega)
                    cases ea
                    rw [hrg] at hx0 hx1
                    obtain ⟨ad, ea, hy0⟩ := Kd.at_int HD1r.out.2 (i : Int) (by omega) (by rw [HLS.out.2.2.1]; omega)
                    cases ea
                    obtain ⟨ad, ea, hy1⟩ := Kd.at_int HD2r.out.2 (i : Int) (by omega) (by rw [HLS.out.2.2.2]; omega)
                    cases ea
                    rw [hdl0] at hy0
                    rw [hdh0] at hy1
                    simp [add_plain] at hx0 hx1 hy0 hy1
                    have HCL := Aside0.mk (And.intro hx0 (And.intro hx1 (And.intro hy0 hy1)))
                    clear hx0 hx1 hy0 hy1 hrg hdl0 hdh0 hv0 hv1 hbnL
                    gi_wp2
                    refine region_mk (by kernel_rfl) (fun t => { tmps := #[.agg #[.int .i64 fl, .slice A0 l0.length c0], .slice A1 l1.length c1, .pointer (some ⟨P, 0, none⟩), undef, u4, .slice (some ⟨gB, 0, none⟩) bn cB, .int .i64 0, .slice AP tn cP, .int .i64 0, .int .i64 0, .int .i64 0, .slice AT tn cT, .bool true, .slice (some ⟨g4, 0, none⟩) bn c4, .slice (some ⟨g9, 0, none⟩) bn c9, .int .i64 (i : Int), .pointer (some ⟨P, 1, none⟩), .slice A0 l0.length c0, .int .i64 (l0.length : Int), .bool false, .bool false, .slice A1 l1.length c1, .int .i64 (l1.length : Int), .bool false, .bool false, undef, .tuple #[.slice (some ⟨gB, 0, none⟩) bn cB, .int .i64 0], .agg #[.int .i64 fl, .slice A0 l0.length c0], .agg #[.int .i64 fl, .slice B0 LL.length d0], .slice A1 l1.length c1, .slice A2 l1.length c2, .tuple #[.slice (some ⟨gB, 0, none⟩) bn cB, .int .i64 0], .slice (some ⟨gB, 0, none⟩) bn cB, .int .i64 0, .tuple #[.slice AP tn cP, .int .i64 0], .agg #[.int .i64 fl, .slice A0 l0.length c0], .agg #[.int .i64 fl, .slice B1 LL.length d1], .tuple #[.slice AP tn cP, .int .i64 0], .slice AP tn cP, .int .i64 0, .agg #[.int .i64 fl, .slice A0 l0.length c0], .int .i64 0, .agg #[.int .i64 fl, .slice A0 l0.length c0], .int .i64 0, .int .i64 0, .bool false, undef, undef, undef, undef, undef, undef, undef, undef, undef, undef, undef, undef, undef, undef, undef, undef, undef, undef, undef, .tuple #[.slice AT tn cT, .bool true], .agg #[.int .i64 fl, .slice A0 l0.length c0], .tuple #[.slice AT tn cT, .bool true], .slice AT tn cT, .bool true, .bool true, .bool false, .int .i64 0, .int .i64 0, .bool false, .bool false, .slice AP tn cP, .slice AT tn cT, .bool true, .bool false, .bool false, .slice A1 l1.length c1, .pointer (some ⟨P, 1, none⟩), .slice A0 l0.length c0, .int .i64 (l0.length : Int), .bool true, .bool false, .int .i64 0, .bool false, undef, undef, undef, undef, undef, undef, undef, undef, undef, undef, undef, .agg #[.int .i64 fl, .slice A0 l0.length c0], .slice A1 l1.length c1, .agg #[.int .i64 fl, .slice A0 l0.length c0], .slice a3 bn c3, .slice (some ⟨g4, 0, none⟩) bn c4, .agg #[.int .i64 fl, .slice A0 l0.length c0], .slice A1 l1.length c1, .agg #[.int .i64 fl, .slice A0 l0.length c0], .slice a8 bn c8, .slice (some ⟨g9, 0, none⟩) bn c9, .int .i64 0, .bool false, .bool false, .slice (some ⟨gB, 0, none⟩) bn cB, .int .i64 (bn : Int), .slice (some ⟨g4, 0, none⟩) bn c4, .int .i64 (bn : Int), .bool false, .bool false, .int .i64 (i : Int), .slice (some ⟨gB, 0, none⟩) bn cB, .int .i64 (bn : Int), .bool true, u123, u124, t 0, t 1, t 2, t 3, t 4, t 5, t 6, t 7, t 8, t 9, t 10, t 11, t 12, t 13, t 14, t 15, t 16, t 17, t 18, t 19, t 20, t 21, undef], defers := [] })
                      (fun L t w' => Below wr.heap.size wr w')
                      (fun ix vx => match ix with | 0 => vx = .slice (some ⟨gB, 0, none⟩) bn cB | 1 => vx = .int .i64 (i : Int) | 2 => vx = .pointer (some ⟨gB, i * 2, none⟩) | 3 => vx = .pointer (some ⟨gB, i * 2, none⟩) | 4 => vx = .int .i64 v0 | 5 => vx = .slice (some ⟨g4, 0, none⟩) bn c4 | 6 => vx = .int .i64 (i : Int) | 7 => vx = .pointer (some ⟨g4, i, none⟩) | 8 => vx = .int .i64 v0 | 9 => vx = .bool false | 10 => vx = .bool false | 11 => vx = .slice (some ⟨gB, 0, none⟩) bn cB | 12 => vx = .int .i64 (i : Int) | 13 => vx = .pointer (some ⟨gB, i * 2, none⟩) | 14 => vx = .pointer (some ⟨gB, i * 2 + 1, none⟩) | 15 => vx = .int .i64 v1 | 16 => vx = .slice (some ⟨g9, 0, none⟩) bn c9 | 17 => vx = .int .i64 (i : Int) | 18 => vx = .pointer (some ⟨g9, i, none⟩) | 19 => vx = .int .i64 v1 | 20 => vx = .bool false | 21 => vx = .bool false | _ => True)
                      (fun j => match j with | 0 => u125 | 1 => u126 | 2 => u127 | 3 => u128 | 4 => u129 | 5 => u130 | 6 => u131 | 7 => u132 | 8 => u133 | 9 => u134 | 10 => u135 | 11 => u136 | 12 => u137 | 13 => u138 | 14 => u139 | 15 => u140 | 16 => u141 | 17 => u142 | 18 => u143 | 19 => u144 | 20 => u145 | 21 => u146 | _ => undef) (by kernel_rfl) (pw_below_drewN (Below.refl _ _) 1) ?stepRL ?doneRL
                    case stepRL =>
                      intro ix hix
                      have hi' : ix < 22 := hix
                      match ix, hi' with
                      | 0, _ =>
                        intro L t w' hL hJ hX hdep hcl
                        refine wpOpIn_step rfl (fun K hK => ?_)
                        dsimp only
                        go_simp
                        refine hK _ _ ⟨.slice (some ⟨gB, 0, none⟩) bn cB, ?_, rfl, hJ⟩
                        simp [upd]
                      | 1, _ =>
                        intro L t w' hL hJ hX hdep hcl
                        refine wpOpIn_step rfl (fun K hK => ?_)
                        dsimp only
                        go_simp
                        refine hK _ _ ⟨.int .i64 (i : Int), ?_, rfl, hJ⟩
                        simp [upd]
                      | 2, _ =>
                        intro L t w' hL hJ hX hdep hcl
                        have x0 : t 0 = .slice (some ⟨gB, 0, none⟩) bn cB := hX 0 (hdep _ rfl ⟨0, .data⟩ (by simp) rfl)
                        have x1 : t 1 = .int .i64 (i : Int) := hX 1 (hdep _ rfl ⟨1, .data⟩ (by simp) rfl)
                        refine wpOpIn_step rfl (fun K hK => ?_)
                        dsimp only
                        simp only [x0, x1]
                        go_simp
                        refine hK _ _ ⟨.pointer (some ⟨gB, i * 2, none⟩), ?_, rfl, hJ⟩
                        simp [upd, x0, x1]
                      | 3, _ =>
                        intro L t w' hL hJ hX hdep hcl
                        have x2 : t 2 = .pointer (some ⟨gB, i * 2, none⟩) := hX 2 (hdep _ rfl ⟨2, .data⟩ (by simp) rfl)
                        refine wpOpIn_step rfl (fun K hK => ?_)
                        dsimp only
                        simp only [x2]
                        go_simp
                        refine hK _ _ ⟨.pointer (some ⟨gB, i * 2, none⟩), ?_, rfl, hJ⟩
                        simp [upd, x2]
                      | 4, _ =>
                        intro L t w' hL hJ hX hdep hcl
                        have x3 : t 3 = .pointer (some ⟨gB, i * 2, none⟩) := hX 3 (hdep _ rfl ⟨3, .data⟩ (by simp) rfl)
                        have qx := pw_cell_below hJ HCL.out.1
                        refine wpOpIn_step rfl (fun K hK => ?_)
                        dsimp only
                        simp only [x3]
                        go_simp
                        refine hK _ _ ⟨.int .i64 v0, ?_, rfl, hJ⟩
                        simp [upd, x3]
                      | 5, _ =>
                        intro L t w' hL hJ hX hdep hcl
                        refine wpOpIn_step rfl (fun K hK => ?_)
                        dsimp only
                        go_simp
                        refine hK _ _ ⟨.slice (some ⟨g4, 0, none⟩) bn c4, ?_, rfl, hJ⟩
                        simp [upd]
                      | 6, _ =>
                        intro L t w' hL hJ hX hdep hcl
                        refine wpOpIn_step rfl (fun K hK => ?_)
                        dsimp only
                        go_simp
                        refine hK _ _ ⟨.int .i64 (i : Int), ?_, rfl, hJ⟩
                        simp [upd]
                      | 7, _ =>
                        intro L t w' hL hJ hX hdep hcl
                        have x5 : t 5 = .slice (some ⟨g4, 0, none⟩) bn c4 := hX 5 (hdep _ rfl ⟨5, .data⟩ (by simp) rfl)
                        have x6 : t 6 = .int .i64 (i : Int) := hX 6 (hdep _ rfl ⟨6, .data⟩ (by simp) rfl)
                        refine wpOpIn_step rfl (fun K hK => ?_)
                        dsimp only
                        simp only [x5, x6]
                        go_simp
                        refine hK _ _ ⟨.pointer (some ⟨g4, i, none⟩), ?_, rfl, hJ⟩
                        simp [upd, x5, x6]
                      | 8, _ =>
                        intro L t w' hL hJ hX hdep hcl
                        have x7 : t 7 = .pointer (some ⟨g4, i, none⟩) := hX 7 (hdep _ rfl ⟨7, .data⟩ (by simp) rfl)
                        have qx := pw_cell_below hJ HCL.out.2.2.1
                        refine wpOpIn_step rfl (fun K hK => ?_)
                        dsimp only
                        simp only [x7]
                        go_simp
                        refine hK _ _ ⟨.int .i64 v0, ?_, rfl, hJ⟩
                        simp [upd, x7]
                      | 9, _ =>
                        intro L t w' hL hJ hX hdep hcl
                        have x4 : t 4 = .int .i64 v0 := hX 4 (hdep _ rfl ⟨4, .data⟩ (by simp) rfl)
                        have x8 : t 8 = .int .i64 v0 := hX 8 (hdep _ rfl ⟨8, .data⟩ (by simp) rfl)
                        refine wpOpIn_step rfl (fun K hK => ?_)
                        dsimp only
                        simp only [x4, x8]
                        go_simp
                        refine hK _ _ ⟨.bool false, ?_, rfl, hJ⟩
                        simp [upd, x4, x8]
                      | 10, _ =>
                        intro L t w' hL hJ hX hdep hcl
                        have x9 : t 9 = .bool false := hX 9 (hdep _ rfl ⟨9, .data⟩ (by simp) rfl)
                        refine wpOpIn_step rfl (fun K hK => ?_)
                        dsimp only
                        simp only [x9]
                        go_simp
                        refine hK _ _ ⟨.bool false, ?_, rfl, hJ⟩
                        simp [upd, x9]
                      | 11, _ =>
                        intro L t w' hL hJ hX hdep hcl
                        have x10 : t 10 = .bool false := hX 10 (hdep _ rfl ⟨10, .guard⟩ (by simp) rfl)
                        refine wpOpIn_step rfl (fun K hK => ?_)
                        dsimp only
                        simp only [x10]
                        go_simp
                        refine hK _ _ ⟨.slice (some ⟨gB, 0, none⟩) bn cB, ?_, rfl, hJ⟩
                        simp [upd, x10]
                      | 12, _ =>
                        intro L t w' hL hJ hX hdep hcl
                        have x10 : t 10 = .bool false := hX 10 (hdep _ rfl ⟨10, .guard⟩ (by simp) rfl)
                        refine wpOpIn_step rfl (fun K hK => ?_)
                        dsimp only
                        simp only [x10]
                        go_simp
                        refine hK _ _ ⟨.int .i64 (i : Int), ?_, rfl, hJ⟩
                        simp [upd, x10]
                      | 13, _ =>
                        intro L t w' hL hJ hX hdep hcl
                        have x11 : t 11 = .slice (some ⟨gB, 0, none⟩) bn cB := hX 11 (hdep _ rfl ⟨11, .data⟩ (by simp) rfl)
                        have x12 : t 12 = .int .i64 (i : Int) := hX 12 (hdep _ rfl ⟨12, .data⟩ (by simp) rfl)
                        have x10 : t 10 = .bool false := hX 10 (hdep _ rfl ⟨10, .guard⟩ (by simp) rfl)
                        refine wpOpIn_step rfl (fun K hK => ?_)
                        dsimp only
                        simp only [x11, x12, x10]
                        go_simp
                        refine hK _ _ ⟨.pointer (some ⟨gB, i * 2, none⟩), ?_, rfl, hJ⟩
                        simp [upd, x11, x12, x10]
                      | 14, _ =>
                        intro L t w' hL hJ hX hdep hcl
                        have x13 : t 13 = .pointer (some ⟨gB, i * 2, none⟩) := hX 13 (hdep _ rfl ⟨13, .data⟩ (by simp) rfl)
                        have x10 : t 10 = .bool false := hX 10 (hdep _ rfl ⟨10, .guard⟩ (by simp) rfl)
                        refine wpOpIn_step rfl (fun K hK => ?_)
                        dsimp only
                        simp only [x13, x10]
                        go_simp
                        refine hK _ _ ⟨.pointer (some ⟨gB, i * 2 + 1, none⟩), ?_, rfl, hJ⟩
                        simp [upd, x13, x10]
                      | 15, _ =>
                        intro L t w' hL hJ hX hdep hcl
                        have x14 : t 14 = .pointer (some ⟨gB, i * 2 + 1, none⟩) := hX 14 (hdep _ rfl ⟨14, .data⟩ (by simp) rfl)
                        have x10 : t 10 = .bool false := hX 10 (hdep _ rfl ⟨10, .guard⟩ (by simp) rfl)
                        have qx := pw_cell_below hJ HCL.out.2.1
                        refine wpOpIn_step rfl (fun K hK => ?_)
                        dsimp only
                        simp only [x14, x10]
                        go_simp
                        refine hK _ _ ⟨.int .i64 v1, ?_, rfl, hJ⟩
                        simp [upd, x14, x10]
                      | 16, _ =>
                        intro L t w' hL hJ hX hdep hcl
                        have x10 : t 10 = .bool false := hX 10 (hdep _ rfl ⟨10, .guard⟩ (by simp) rfl)
                        refine wpOpIn_step rfl (fun K hK => ?_)
                        dsimp only
                        simp only [x10]
                        go_simp
                        refine hK _ _ ⟨.slice (some ⟨g9, 0, none⟩) bn c9, ?_, rfl, hJ⟩
                        simp [upd, x10]
                      | 17, _ =>
                        intro L t w' hL hJ hX hdep hcl
                        have x10 : t 10 = .bool false := hX 10 (hdep _ rfl ⟨10, .guard⟩ (by simp) rfl)
                        refine wpOpIn_step rfl (fun K hK => ?_)
                        dsimp only
                        simp only [x10]
                        go_simp
                        refine hK _ _ ⟨.int .i64 (i : Int), ?_, rfl, hJ⟩
                        simp [upd, x10]
                      | 18, _ =>
                        intro L t w' hL hJ hX hdep hcl
                        have x16 : t 16 = .slice (some ⟨g9, 0, none⟩) bn c9 := hX 16 (hdep _ rfl ⟨16, .data⟩ (by simp) rfl)
                        have x17 : t 17 = .int .i64 (i : Int) := hX 17 (hdep _ rfl ⟨17, .data⟩ (by simp) rfl)
                        have x10 : t 10 = .bool false := hX 10 (hdep _ rfl ⟨10, .guard⟩ (by simp) rfl)
                        refine wpOpIn_step rfl (fun K hK => ?_)
                        dsimp only
                        simp only [x16, x17, x10]
                        go_simp
                        refine hK _ _ ⟨.pointer (some ⟨g9, i, none⟩), ?_, rfl, hJ⟩
                        simp [upd, x16, x17, x10]
                      | 19, _ =>
                        intro L t w' hL hJ hX hdep hcl
                        have x18 : t 18 = .pointer (some ⟨g9, i, none⟩) := hX 18 (hdep _ rfl ⟨18, .data⟩ (by simp) rfl)
                        have x10 : t 10 = .bool false := hX 10 (hdep _ rfl ⟨10, .guard⟩ (by simp) rfl)
                        have qx := pw_cell_below hJ HCL.out.2.2.2
                        refine wpOpIn_step rfl (fun K hK => ?_)
                        dsimp only
                        simp only [x18, x10]
                        go_simp
                        refine hK _ _ ⟨.int .i64 v1, ?_, rfl, hJ⟩
                        simp [upd, x18, x10]
                      | 20, _ =>
                        intro L t w' hL hJ hX hdep hcl
                        have x15 : t 15 = .int .i64 v1 := hX 15 (hdep _ rfl ⟨15, .data⟩ (by simp) rfl)
                        have x19 : t 19 = .int .i64 v1 := hX 19 (hdep _ rfl ⟨19, .data⟩ (by simp) rfl)
                        have x10 : t 10 = .bool false := hX 10 (hdep _ rfl ⟨10, .guard⟩ (by simp) rfl)
                        refine wpOpIn_step rfl (fun K hK => ?_)
                        dsimp only
                        simp only [x15, x19, x10]
                        go_simp
                        refine hK _ _ ⟨.bool false, ?_, rfl, hJ⟩
                        simp [upd, x15, x19, x10]
                      | 21, _ =>
                        intro L t w' hL hJ hX hdep hcl
                        have x10 : t 10 = .bool false := hX 10 (hdep _ rfl ⟨10, .data⟩ (by simp) rfl)
                        have x20 : t 20 = .bool false := hX 20 (hdep _ rfl ⟨20, .data⟩ (by simp) rfl)
                        refine wpOpIn_step rfl (fun K hK => ?_)
                        dsimp only
                        simp only [x10, x20]
                        go_simp
                        refine hK _ _ ⟨.bool false, ?_, rfl, hJ⟩
                        simp [upd, x10, x20]
                      | j + 22, h => exact absurd h (by omega)
                    case doneRL =>
                      intro L t w' hL hJ hX
                      have x0 : t 0 = .slice (some ⟨gB, 0, none⟩) bn cB := hX 0 (by decide)
                      have x1 : t 1 = .int .i64 (i : Int) := hX 1 (by decide)
                      have x2 : t 2 = .pointer (some ⟨gB, i * 2, none⟩) := hX 2 (by decide)
                      have x3 : t 3 = .pointer (some ⟨gB, i * 2, none⟩) := hX 3 (by decide)
                      have x4 : t 4 = .int .i64 v0 := hX 4 (by decide)
                      have x5 : t 5 = .slice (some ⟨g4, 0, none⟩) bn c4 := hX 5 (by decide)
                      have x6 : t 6 = .int .i64 (i : Int) := hX 6 (by decide)
                      have x7 : t 7 = .pointer (some ⟨g4, i, none⟩) := hX 7 (by decide)
                      have x8 : t 8 = .int .i64 v0 := hX 8 (by decide)
                      have x9 : t 9 = .bool false := hX 9 (by decide)
                      have x10 : t 10 = .bool false := hX 10 (by decide)
                      have x11 : t 11 = .slice (some ⟨gB, 0, none⟩) bn cB := hX 11 (by decide)
                      have x12 : t 12 = .int .i64 (i : Int) := hX 12 (by decide)
                      have x13 : t 13 = .pointer (some ⟨gB, i * 2, none⟩) := hX 13 (by decide)
                      have x14 : t 14 = .pointer (some ⟨gB, i * 2 + 1, none⟩) := hX 14 (by decide)
                      have x15 : t 15 = .int .i64 v1 := hX 15 (by decide)
                      have x16 : t 16 = .slice (some ⟨g9, 0, none⟩) bn c9 := hX 16 (by decide)
                      have x17 : t 17 = .int .i64 (i : Int) := hX 17 (by decide)
                      have x18 : t 18 = .pointer (some ⟨g9, i, none⟩) := hX 18 (by decide)
                      have x19 : t 19 = .int .i64 v1 := hX 19 (by decide)
                      have x20 : t 20 = .bool false := hX 20 (by decide)
                      have x21 : t 21 = .bool false := hX 21 (by decide)
                      try dsimp only
                      simp only [x0, x1, x2, x3, x4, x5, x6, x7, x8, x9, x10, x11, x12, x13, x14, x15, x16, x17, x18, x19, x20, x21]
                      have HJ1 := Aside0.mk hJ
                      clear x0 x1 x2 x3 x4 x5 x6 x7 x8 x9 x10 x11 x12 x13 x14 x15 x16 x17 x18 x19 x20 x21 hX hJ hL
                      have hw2 : IntKind.i64.wrap ((i : Int) + 1) = (i : Int) + 1 := by rw [IntKind.wrap_i64]; have := HLEN.out.1; have := HNN.out; omega
                      have hw3 : wrap64 ((i : Int) + 1) = (i : Int) + 1 := by unfold wrap64; have := HLEN.out.1; have := HNN.out; omega
                      gi_wp2
                      go_roundw
                      case measure => simp [intOf]; omega
                      case rel => exact ⟨i + 1, by omega, by go_num, ⟨HBr.out.trans (HJ1.out.mono HBr.out.size)⟩, ⟨HBBr.out.below HJ1.out⟩, ⟨HD1r.out.below HJ1.out⟩, ⟨HD2r.out.below HJ1.out⟩⟩
                  · have hltz : ¬ (i : Int) < (bn : Int) := by omega
                    obtain rfl : i = bn := by omega
                    have hc := Aside0.mk (lawake_any wr)
                    gi_wp2_with fail
                    refine (callsIn_wide.2 hc.out).mono ?_
                    rintro e w9 ⟨rfl, hb⟩
                    gi_wp2
                    go_ret
                    exact ⟨rfl, HBr.out.trans (hb.mono HBr.out.size)⟩
        · have bz : (me != 0) = true := by rw [bne_iff_ne]; exact hz
          have hb1 : brightS fl LL l1 = ([], me) := by unfold brightS; rw [← HME.out, if_pos hz]
          have hp1 : polishS fl LL = ([], me) := by unfold polishS; rw [← HME.out, if_pos hz]
          have e1 : bl = [] := by rw [HBL.out.1, hb1]
          have e2 : be = me := by rw [HBL.out.2.1, hb1]
          have e3 : pe = me := by rw [HPL.out.2.1, hp1]
          have e4 : pl = [] := by rw [HPL.out.1, hp1]
          obtain rfl : bn = 0 := by rw [HBL.out.2.2, e1]; rfl
          obtain rfl : pn = 0 := by rw [HPL.out.2.2, e4]; rfl
          subst e2
          subst e3
          clear hb1 hp1 e1 e4
          have hc := Aside0.mk (lawake_any w6)
          gi_wp2_with fail
          refine (callsIn_wide.2 hc.out).mono ?_
          rintro e w7 ⟨rfl, hb⟩
          clear hc
          have HB7 := Aside0.mk (HB6.out.trans (hb.mono HB6.out.size))
          have HK7 := Aside0.mk (blk_below HK6.out hb)
          have HX7 := Aside0.mk (HX6.out.below hb)
          have HY7 := Aside0.mk (HY6.out.below hb)
          have HBB7 := Aside0.mk (HBB6.out.below hb)
          have HPP7 := Aside0.mk (HPP6.out.below hb)
          clear hb HB6 HK6 HX6 HY6 HBB6 HPP6
          gi_wp2
          go_ret
          exact ⟨rfl, HB7.out⟩
theorem rotaMirrors_calls {A0 A1 : Option Addr} {c0 c1 : Nat} {w : World} {fl : Int} {l0 : List S177} {l1 : List Int} (h0 : Kd.C k177 w A0 l0.length l0) (e0 : l0.length ≤ c0) (h1 : Kd.C (Kd.int .i64) w A1 l1.length l1) (e1 : l1.length ≤ c1) :
    Calls Tryz.prog 7 #[.agg #[.int .i64 fl, .slice A0 l0.length c0], .slice A1 l1.length c1] w fun e w' => e = .returned (.bool true) ∧ Below w.heap.size w w' := rotaMirrors_walk ⟨e0, h0⟩ ⟨e1, h1⟩

end Go.Proofs.YtekdacalkllipaaGreat.PR
end
section
/- What a given input reads as, deep: the claim's reading opened in the words of the contracts. -/
namespace Go.Proofs.YtekdacalkllipaaGreat.PR
open Go.RowKit Go.Proofs.YtekdacalkllipaaGreatW.PrintWords Go.Proofs.YtekdacalkllipaaGreatW.PrintLast Go.ChangeShapes Go.WideShapes Go.Deep
set_option linter.unusedVariables false
set_option maxRecDepth 100000

/-- Whatever is read at a type reads in the contracts' words, too. -/
def Opens {α : Type} (P : Program) (d : Kd α) (t : TypeId) : Prop :=
  ∀ {H : Type} (enc : TypeId × Value → H) (w : World) (base : Nat) (spare : Nat → Bool) (held : Bool) (fuel : Nat) (cs : List Value) (x : DataW H × List MemPlace),
    DataW.trod enc P w base spare held fuel t cs = some x → ∃ p, d.K w p cs
theorem opens_int {P : Program} {t : TypeId} {k : IntKind} (ht : P.underlying t = some (.int k)) : Opens P (Kd.int k) t := fun enc w base spare held fuel cs x h => by
  obtain ⟨n, rfl, _⟩ := DataW.trod_int ht h
  exact ⟨n, rfl⟩
theorem opens_slice {P : Program} {α : Type} [Inhabited α] {d : Kd α} {t e : TypeId} (ht : P.underlying t = some (.slice e)) (hd : Opens P d e) (hs : P.cellsOf e = d.sz) : Opens P (Kd.slice e d) t := fun enc w base spare held fuel cs x h => by
  rcases open_slice ht h with ⟨rfl, rfl⟩ | ⟨a, len, cap, m, n, D, Pl, rfl, hb, hl, hm, hmm, rfl, hx⟩
  · exact ⟨[], none, 0, rfl, Nat.le_refl _, rfl, by simp, fun h => absurd h (by simp)⟩
  · have hlm : len ≤ m := by rw [hmm]; split <;> omega
    obtain ⟨p, hp⟩ := choose_lt (α := α) (p := fun i p => ∃ cs', w.cells? base (a.add (i * P.cellsOf e)) (P.cellsOf e) = some cs' ∧ d.K w p cs') (n := len) (fun i hi => by
      obtain ⟨cs', h1, h2⟩ := hx i (by omega)
      obtain ⟨p, hp⟩ := hd enc w base spare held n cs' _ h2
      exact ⟨p, cs', h1, hp⟩)
    refine ⟨(List.range len).map p, some a, cap, by simp, by simpa using hl, by simp, by unfold maxLen at hm; simp; omega, fun h0 => ⟨a, rfl, fun j q hj => ?_⟩⟩
    have hj' : j < len := by
      rcases Nat.lt_or_ge j len with h | h
      · exact h
      · rw [List.getElem?_eq_none (by simpa using h)] at hj; cases hj
    rw [List.getElem?_map, List.getElem?_range hj'] at hj
    cases hj
    obtain ⟨cs', h1, h2⟩ := hp j hj'
    obtain ⟨_, hlen, hc⟩ := World.cells?_some h1
    refine ⟨cs', by rw [hlen, hs], h2, fun i u hi => ?_⟩
    have hil : i < P.cellsOf e := by
      rw [← hlen]
      rcases Nat.lt_or_ge i cs'.length with h | h
      · exact h
      · rw [List.getElem?_eq_none h] at hi; cases hi
    have := hc i hil
    rw [hi, Go.Deep.add_add, hs] at this
    exact this
theorem opens_ints : Opens Tryz.prog (Kd.slice 3 (Kd.int .i64)) 22 := opens_slice Tryz.underlying22 (opens_int Tryz.underlying3) (by kernel_rfl)
end Go.Proofs.YtekdacalkllipaaGreat.PR
end
section
/- A given mirror, and a given list, read in the contracts' words. -/
namespace Go.Proofs.YtekdacalkllipaaGreat.PR
open Go.RowKit Go.Proofs.YtekdacalkllipaaGreatW.PrintWords Go.Proofs.YtekdacalkllipaaGreatW.PrintLast Go.ChangeShapes Go.WideShapes Go.Deep
set_option linter.unusedVariables false
set_option maxRecDepth 100000

instance : Inhabited S177 := ⟨z177⟩
theorem opens_range : Opens Tryz.prog k177 177 := fun enc w base spare held fuel cs x h => by
  obtain ⟨xs, n, _, _, hl, hxl, hf⟩ := DataW.trod_struct Tryz.underlying177 h
  have hc : Tryz.prog.cellsOf 177 = 2 := by kernel_rfl
  rw [hc] at hl
  match cs, hl with
  | [a, b], _ =>
    match xs, hxl with
    | [x0, x1], _ =>
      have f0 : DataW.trod enc Tryz.prog w base spare held n 3 (List.take (Tryz.prog.cellsOf 3) (List.drop 0 [a, b])) = some x0 := hf 0 _ rfl
      have f1 : DataW.trod enc Tryz.prog w base spare held n 3 (List.take (Tryz.prog.cellsOf 3) (List.drop 1 [a, b])) = some x1 := hf 1 _ rfl
      rw [show Tryz.prog.cellsOf 3 = 1 by kernel_rfl] at f0 f1
      obtain ⟨p0, e0⟩ := opens_int Tryz.underlying3 enc w base spare held n _ _ f0
      obtain ⟨p1, e1⟩ := opens_int Tryz.underlying3 enc w base spare held n _ _ f1
      cases e0
      cases e1
      exact ⟨⟨p0, p1⟩, [.int .i64 p0], [.int .i64 p1], rfl, rfl, rfl⟩
theorem opens_ranges : Opens Tryz.prog (Kd.slice 177 k177) 82 := opens_slice Tryz.underlying82 opens_range (by kernel_rfl)
/-- A given mirror (the reference's own). -/
theorem open_mirror {H : Type} {enc : TypeId × Value → H} {w : World} {base : Nat} {spare : Nat → Bool} {held : Bool} {fuel : Nat} {cs : List Value} {x : DataW H × List MemPlace} (h : DataW.trod enc Tryz.prog w base spare held fuel 84 cs = some x) :
    ∃ f A0 c0 l0, cs = [.int .i64 f, .slice A0 l0.length c0] ∧ Kd.C k177 w A0 l0.length l0 ∧ l0.length ≤ c0 := by
  obtain ⟨xs, n, _, _, hl, hxl, hf⟩ := DataW.trod_struct Tryz.underlying84 h
  have hc : Tryz.prog.cellsOf 84 = 2 := by kernel_rfl
  rw [hc] at hl
  match cs, hl with
  | [a, b], _ =>
    match xs, hxl with
    | [x0, x1], _ =>
      have f0 : DataW.trod enc Tryz.prog w base spare held n 3 (List.take (Tryz.prog.cellsOf 3) (List.drop 0 [a, b])) = some x0 := hf 0 _ rfl
      have f1 : DataW.trod enc Tryz.prog w base spare held n 82 (List.take (Tryz.prog.cellsOf 82) (List.drop 1 [a, b])) = some x1 := hf 1 _ rfl
      rw [show Tryz.prog.cellsOf 3 = 1 by kernel_rfl] at f0
      rw [show Tryz.prog.cellsOf 82 = 1 by kernel_rfl] at f1
      obtain ⟨p0, e0⟩ := opens_int Tryz.underlying3 enc w base spare held n _ _ f0
      obtain ⟨p1, A1, c1, e1, h1, g1⟩ := opens_ranges enc w base spare held n _ _ f1
      cases e0
      cases e1
      exact ⟨p0, A1, c1, p1, rfl, g1, h1⟩
/-- A given list of numbers. -/
theorem open_list {H : Type} {enc : TypeId × Value → H} {w : World} {base : Nat} {spare : Nat → Bool} {held : Bool} {fuel : Nat} {cs : List Value} {x : DataW H × List MemPlace} (h : DataW.trod enc Tryz.prog w base spare held fuel 22 cs = some x) :
    ∃ A c l, cs = [.slice A l.length c] ∧ Kd.C (Kd.int .i64) w A l.length l ∧ l.length ≤ c := by
  obtain ⟨p, A, c, e, h, g⟩ := opens_ints enc w base spare held fuel cs x h
  exact ⟨A, c, p, e, g, h⟩
end Go.Proofs.YtekdacalkllipaaGreat.PR
end
section
/- The row of RotaMirrors. -/
namespace Go.Proofs.YtekdacalkllipaaGreat.rotaMirrors
open Go.ChangeShapes Go.WideShapes Go.ChangeAt Go.RowKit Go.Proofs.YtekdacalkllipaaGreat.PR Go.Proofs.YtekdacalkllipaaGreatW.PrintWords
set_option linter.unusedVariables false
theorem own : ownKnob Tryz.prog.godebug = none := by kernel_rfl
theorem laidOut : laidOutB Tryz.prog = true := by kernel_rfl
set_option maxRecDepth 100000 in
theorem lifted (os : Os) (started : os.Started) (H : Type) (enc : TypeId × Value → H) :
    ReturnsInHanded {} Tryz.checked os 7 .any (Rows.rotaMirrorsSpec.pre6 enc Tryz.prog Tryz.f7 Rows.rotaMirrorsRow.domain false) (Rows.rotaMirrorsSpec.post enc Tryz.prog Tryz.f7 false true false false) := by
  refine returnsInHanded_of_change_sized (C := Tryz.checked) own started (by kernel_rfl) Tryz.func7
    (ChangeSpec.witness6 (enc := enc) (C := Tryz.checked) false ⟨#[], #[.agg #[.int .i64 0, .slice none 0 0], .slice none 0 0], []⟩ 8 (by kernel_rfl) (by kernel_rfl) (by kernel_rfl) (by kernel_rfl)) ?_
  intro W base args ds gs before hval0 hW hcnd hsz0 _
  have hval : ∀ (j : Nat) t v, Tryz.f7.params[j]? = some t → args[j]? = some v → Value.okWide Tryz.prog W .any base t v := hval0
  have hW' := hW
  obtain ⟨p, q, hA0, hV, rfl, hfz, hnd⟩ := hW
  have hA : DataW.TrodAll enc Tryz.prog W 0 (fun _ => true) true Tryz.f7.params.toList args.toList ds p := hA0
  rw [Tryz.params7] at hA hval
  obtain ⟨v0, vs0, d0, ds0, p0, q0, hargs, rfl, rfl, h0, r0⟩ := trodAll_cons hA
  obtain ⟨v1, vs1, d1, ds1, p1, q1, rfl, rfl, rfl, h1, r1⟩ := trodAll_cons r0
  obtain ⟨rfl, rfl, rfl⟩ := trodAll_nil r1
  obtain rfl : args = #[v0, v1] := by cases args; simp_all
  obtain ⟨rfl, rfl⟩ := trodVars_none hV
  have k0 := h0
  have lt0 : ∀ x ∈ p0, x.block < W.heap.size := by obtain ⟨m, hm⟩ := k0; exact DataW.trod_lt m _ _ _ hm
  obtain ⟨cs0, rfl, _⟩ := okWide_struct Tryz.underlying84 (hval 0 84 v0 rfl rfl)
  obtain ⟨fuel0, hf0⟩ := h0
  obtain ⟨fl0, A0, c0, l0, hcs0, g0, e0⟩ := open_mirror hf0
  obtain rfl : cs0 = #[.int .i64 fl0, .slice A0 l0.length c0] := Array.ext' hcs0
  have k1 := h1
  have lt1 : ∀ x ∈ p1, x.block < W.heap.size := by obtain ⟨m, hm⟩ := k1; exact DataW.trod_lt m _ _ _ hm
  obtain ⟨a1, len1, cap1, rfl⟩ := okWide_slice Tryz.underlying22 (hval 1 22 v1 rfl rfl)
  obtain ⟨fuel1, hf1⟩ := h1
  obtain ⟨A1, c1, l1, hcs1, g1, e1⟩ := open_list hf1
  simp [Value.cells] at hcs1
  obtain ⟨rfl, rfl, rfl⟩ := hcs1
  clear hA0 hval0 hsz0
  refine (rotaMirrors_calls g0 e0 g1 e1).mono fun e W' ⟨he, bel⟩ => ?_
  subst he
  exact ⟨_, rfl, _, _, _, [], _, [], hW', trodAll_mk1 (shut_bool Tryz.underlying4 _), (trodAll_cons_mk (Below.trod laidOut (by kernel_rfl) (of_decide_eq_true (by kernel_rfl)) k0 bel lt0) (trodAll_cons_mk (Below.trod laidOut (by kernel_rfl) (of_decide_eq_true (by kernel_rfl)) k1 bel lt1) trodAll_mk0)), rfl, bel.frame _, fun h => by cases h⟩
theorem over : Rows.rotaMirrorsRow.holds Tryz.pinned (OpenSpec.ofChange Rows.rotaMirrorsSpec) :=
  OpenClaim.holds_of_wide 7 Tryz.f7 rfl rfl rfl rfl rfl rfl rfl ⟨rfl, rfl, rfl, rfl, rfl⟩ rfl rfl rfl rfl rfl (by kernel_rfl) Tryz.func7 (by kernel_rfl)
    (of_decide_eq_true (by kernel_rfl)) (by unfold Func.isWrapper; first | (rw [if_pos (by decide +kernel)]; kernel_rfl) | (rw [if_neg (by decide +kernel)]; exact ⟨rfl, rfl⟩))
    (fun os started H enc _ => lifted os started H enc)
theorem proved : Rows.RotaMirrorsSaid := over
end Go.Proofs.YtekdacalkllipaaGreat.rotaMirrors
namespace Go.Proofs.YtekdacalkllipaaGreat
/-- The row, under a short name, for the claim. -/
theorem rotaMirrors_holds : Rows.RotaMirrorsSaid := rotaMirrors.proved
end Go.Proofs.YtekdacalkllipaaGreat
end
