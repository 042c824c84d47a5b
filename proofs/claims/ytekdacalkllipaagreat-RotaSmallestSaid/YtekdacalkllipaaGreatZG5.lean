/- YtekdacalkllipaaGreat: part 5 of the proof of the theorem rotaSmallest_holds, for every input. -/
import Derived.Laws.EntriesVeiled
import Derived.Laws.MakeOwn
import Derived.Outline
import Derived.Stop.RegionWithIn
import Derived.WalkMore
import Derived.Test.YtekdacalkllipaaGreatZG4
section
namespace Go.Proofs.YtekdacalkllipaaGreat.PR
open Go.RowKit Go.Shelf Go.Maps Go.Proofs.YtekdacalkllipaaGreatW.PrintWords Go.Proofs.YtekdacalkllipaaGreatW.PrintLast Go.Proofs.YtekdacalkllipaaGreatW.PrintMore
set_option linter.unusedVariables false
set_option linter.unusedSimpArgs false
theorem nodup_listsS {sm l : List Int} (h : sm.Nodup) (hl : l ∈ listsS sm) : l.Nodup := by
  obtain ⟨b, _, rfl⟩ := mem_listsS.1 hl
  have hs : List.Sublist (subL sm b) sm := by
    have h1 : sm = (List.range sm.length).map (fun k => sm.getD k 0) := by
      apply List.ext_getElem
      · simp
      · intro i h1 h2; simp [h1]
    conv => rhs; rw [h1]
    exact List.Sublist.map _ List.filter_sublist
  exact hs.nodup h
theorem rd_mem {L : List (List Int)} {j : Nat} (h : j < L.length) : rd_L1 L j ∈ L := by simp [rd_L1, List.getElem_mem, h]
theorem find_at {L : List (List Int)} {p : List Int → Bool} : ∀ {j : Nat}, j < L.length → (∀ i, i < j → p (rd_L1 L i) = false) → p (rd_L1 L j) = true → L.find? p = some (rd_L1 L j) := by
  intro j hj h1 h2
  rw [List.find?_eq_some_iff_getElem]
  have e : rd_L1 L j = L[j] := by simp [rd_L1, hj]
  refine ⟨h2, j, hj, e.symm, fun i hi => ?_⟩
  have h3 := h1 i hi
  have e2 : rd_L1 L i = L[i]'(by omega) := by simp [rd_L1, show i < L.length by omega]
  rw [e2] at h3
  simp [h3]
theorem find_no {L : List (List Int)} {p : List Int → Bool} (h1 : ∀ i, i < L.length → p (rd_L1 L i) = false) : L.find? p = none := by
  rw [List.find?_eq_none]
  intro x hx
  obtain ⟨i, hi, rfl⟩ := List.getElem_of_mem hx
  have := h1 i hi
  have e2 : rd_L1 L i = L[i] := by simp [rd_L1, hi]
  rw [e2] at this
  simp [this]
set_option maxRecDepth 100000 in
set_option maxHeartbeats 4000000 in
theorem Enough_any (A0 : Option Addr) (c0 : Nat) (need : List Int) (A1 : Option Addr) (c1 : Nat) (people : List S128) (A2 : Option Addr) (c2 : Nat) (cases : List (List Int)) (w : World)
    (h0 : (Kd.int .i64).C w A0 need.length need) (hc0 : need.length ≤ c0) (h1 : k128.C w A1 people.length people) (hc1 : people.length ≤ c1) (h2 : (Kd.slice 3 (Kd.int .i64)).C w A2 cases.length cases) (hc2 : cases.length ≤ c2) :
    Calls Tryz.prog 28 #[.agg #[.slice A0 need.length c0, .slice A1 people.length c1, .slice A2 cases.length c2]] w fun e w' => ∃ v, e = .returned (.tuple #[v, .int .i64 (enoughS need people cases).2]) ∧ (Kd.int .i64).R 3 w' w.heap.size (fun _ => True) v (enoughS need people cases).1 ∧ Below w.heap.size w w' := by
  obtain ⟨P, hP⟩ : ∃ P, P = w.heap.size := ⟨_, rfl⟩
  obtain ⟨wA, hwA⟩ : ∃ wA, wA = w.alloc (.cells #[.slice A0 need.length c0, .slice A1 people.length c1, .slice A2 cases.length c2] 34) := ⟨_, rfl⟩
  have hgA : w.grownBy wA none := by rw [hwA]; exact World.grownBy_alloc _ _ _
  have hA0 : wA.heap[P]? = some (.cells #[.slice A0 need.length c0, .slice A1 people.length c1, .slice A2 cases.length c2] 34 (0, 0)) := by rw [hwA, hP]; exact blk_new w _
  have hbA := below_none hgA
  have HCHK := Aside0.mk (CheckPost_any A0 c0 need A1 c1 people A2 c2 cases wA (Kd.C_below h0 hbA) (Kd.C_below h1 hbA) (Kd.C_below h2 hbA))
  obtain ⟨pe, hpe⟩ : ∃ pe, pe = postErr need people cases := ⟨_, rfl⟩
  rw [← hpe] at HCHK
  have HH := Aside0.mk (And.intro h0 (And.intro h1 h2))
  have HG := Aside0.mk hgA
  have HA0 := Aside0.mk hA0
  have HPE := Aside0.mk hpe
  obtain ⟨es, hes⟩ : ∃ es, es = enoughS need people cases := ⟨_, rfl⟩
  rw [← hes]
  have HES := Aside0.mk hes
  clear hes h0 h1 h2 hgA hA0 hbA hpe
  go_enter Tryz.func28, Tryz.ntmps28
  go_wp2
  go_step3
  go_wp2_with fail
  rw [← hwA, ← hP]
  have HPP := Aside0.mk hP
  clear hwA hP
  refine HCHK.out.mono ?_
  rintro e w1 ⟨rfl, hg1⟩
  have h10 := blk_grown HA0.out hg1 (by simp)
  have hgw1 := grown_trans HG.out hg1
  by_cases hz : pe = 0
  · have bz : (pe != 0) = false := by rw [hz]; rfl
    subst hz
    have q0 : w1.cell? ⟨P, 0, none⟩ = some (.slice A0 need.length c0) := (blk_cell h10 0).trans rfl
    have q1 : w1.cell? ⟨P, 1, none⟩ = some (.slice A1 people.length c1) := (blk_cell h10 1).trans rfl
    have q2 : w1.cell? ⟨P, 2, none⟩ = some (.slice A2 cases.length c2) := (blk_cell h10 2).trans rfl
    have hbw1 : Below w.heap.size w w1 := below_none hgw1
    have hok := postErr_ok HPE.out.symm
    have hp4 := hok.2.1.1
    have HEV := Aside0.mk (everybody_any A0 c0 need A1 c1 people A2 c2 cases w1 (Kd.C_below HH.out.1 hbw1) hc0 (Kd.C_below HH.out.2.1 hbw1) hc1 (Kd.C_below HH.out.2.2 hbw1) hc2 hp4)
    have HOKP := Aside0.mk hok
    have H10 := Aside0.mk h10
    have HB1 := Aside0.mk hbw1
    clear h10 hgw1 hg1 HCHK hok hbw1
    go_wp2_with fail
    go_step3
    go_wp2_with fail
    refine HEV.out.mono ?_
    rintro e w2 ⟨A3, c3, rfl, hC3, hb2⟩
    have hli := lists_any A3 c3 (evs people.length) w2 (by rw [evs_len]; exact hC3) (by rw [evs_len]; exact hp4) (evs_nodup _)
    rw [evs_len] at hli
    have HLI := Aside0.mk hli
    have H20 := Aside0.mk (blk_below H10.out hb2)
    have HB2 := Aside0.mk (HB1.out.trans (hb2.mono HB1.out.size))
    clear hC3 hb2 hli q0 q1 q2
    go_wp2_with fail
    refine HLI.out.mono ?_
    rintro e w3 ⟨A4, c4, rfl, hC4, hb3⟩
    have H30 := Aside0.mk (blk_below H20.out hb3)
    have HB3 := Aside0.mk (HB2.out.trans (hb3.mono HB2.out.size))
    obtain ⟨LS, hLS⟩ : ∃ LS, LS = listsS (evs people.length) := ⟨_, rfl⟩
    obtain ⟨M, hM⟩ : ∃ M, M = 2 ^ people.length := ⟨_, rfl⟩
    have hMl : LS.length = M := by rw [hLS, hM, listsS_len, evs_len]
    rw [← hLS, ← hM] at hC4
    rw [← hM]
    have hM16 : M ≤ 16 := by rw [hM]; exact Nat.le_trans (Nat.pow_le_pow_right (by omega) hp4) (by decide)
    have HC4 := Aside0.mk hC4
    have HLS := Aside0.mk hLS
    have HML := Aside0.mk hMl
    clear hC4 hb3 hLS hM hMl
    go_wp2
    go_loopg [5, 6, 18] M (fun gg s5 s6 s18 wr => ∃ kk : Nat, kk ≤ M ∧ M - kk ≤ gg ∧ s5 = .slice none 0 0 ∧ s6 = .int .i64 10 ∧ s18 = .int .i64 kk ∧ Aside0 (wr.heap[P]? = some (.cells #[.slice A0 need.length c0, .slice A1 people.length c1, .slice A2 cases.length c2] 34 (0, 0))) ∧ Aside0 (Below w.heap.size w wr) ∧ Aside0 (Below w3.heap.size w3 wr) ∧ Aside0 (∀ j, j < kk → decide (fewS need people cases (rd_L1 LS j) < 1024) = false))
    case atStart => exact ⟨0, Nat.zero_le _, by omega, rfl, rfl, rfl, H30, HB3, ⟨Below.refl _ _⟩, ⟨fun j hj => by omega⟩⟩
    case round =>
      obtain ⟨kk, hkk, hg, rfl, rfl, rfl, HPr, HBr, HB3r, HJ⟩ := hrel
      by_cases hlt : kk < M
      · have hltz : (kk : Int) < (M : Int) := by omega
        obtain ⟨ad, A', c', e0, hx, hl, hi⟩ := at_L1 (Kd.C_below HC4.out HB3r.out) (kk : Int) (by omega) (by omega)
        cases e0
        obtain ⟨sm, hsm⟩ : ∃ sm, sm = rd_L1 LS kk := ⟨_, rfl⟩
        obtain ⟨sl, hsl⟩ : ∃ sl, sl = sm.length := ⟨_, rfl⟩
        rw [← hsm, ← hsl] at hx hl hi
        have hx' : wr.cell? (ad.add kk) = some (.slice A' sl c') := hx
        have hmem : sm ∈ listsS (evs people.length) := by rw [hsm, ← HLS.out]; exact rd_mem (by rw [HML.out]; exact hlt)
        have hl4 : sm.length ≤ 4 := by have := len_of_listsS hmem; rw [evs_len] at this; omega
        have hnd := nodup_listsS (evs_nodup _) hmem
        have hin := fun x hx => evs_mem.1 (mem_of_listsS hmem x hx)
        have q0 : wr.cell? ⟨P, 0, none⟩ = some (.slice A0 need.length c0) := (blk_cell HPr.out 0).trans rfl
        have q1 : wr.cell? ⟨P, 1, none⟩ = some (.slice A1 people.length c1) := (blk_cell HPr.out 1).trans rfl
        have q2 : wr.cell? ⟨P, 2, none⟩ = some (.slice A2 cases.length c2) := (blk_cell HPr.out 2).trans rfl
        have hwork := work_any A0 c0 need A1 c1 people A2 c2 cases A' c' sm wr (Kd.C_below HH.out.1 HBr.out) (Kd.C_below HH.out.2.1 HBr.out) (Kd.C_below HH.out.2.2 HBr.out) (by rw [← hsl]; exact hi) hl4 hnd
        rw [← hsl] at hwork
        have HWORK := Aside0.mk hwork
        have HSM := Aside0.mk hsm
        have HSL := Aside0.mk hsl
        have HI := Aside0.mk hi
        have HIN := Aside0.mk hin
        have HL4 := Aside0.mk hl4
        clear hx hl hi hwork hsm hsl hnd hin hmem hl4
        go_wp2_with fail
        refine HWORK.out.mono ?_
        rintro e w4 ⟨k, rfl, k1, k2, k3, k4, k5, k6, k7, k8, k9, k10⟩
        have hbw4 : Below w.heap.size w w4 := HBr.out.trans (k10.mono HBr.out.size)
        have hb5 : Below w.heap.size w (w4.alloc (.cells std0.vals 143)) := hbw4.alloc hbw4.size _
        have hin5 : k.In (w4.alloc (.cells std0.vals 143)) := k5 _ (Kd.C_below HH.out.1 hb5) (Kd.C_below HH.out.2.1 hb5) (Kd.C_below HH.out.2.2 hb5) (stay_alloc _ _ _)
        have hm5 : k.MapAt (w4.alloc (.cells std0.vals 143)) 0 := k6.grown (World.grownBy_alloc _ _ none) (by simp)
        have hok2 := work_ok HPE.out.symm k1 k2 k3 k4 HIN.out HL4.out
        obtain ⟨nn, hnn⟩ : ∃ nn, nn = k.few need.length 0 std0 := ⟨_, rfl⟩
        have hcall := few_all k (w4.alloc (.cells std0.vals 143)) hin5 hok2.1 hm5.nocells hm5.size hok2.2 need.length 0 std0 (w4.alloc (.cells std0.vals 143)) 0 (by omega) (by rw [k1]; omega) std0_ok (KeepM.refl _ _ _) hm5 (by have := cost_bd need.length HOKP.out.1.1; unfold maxLen; omega)
        rw [← hnn] at hcall
        have hfew : nn = fewS need people cases sm := by rw [hnn, few_mkW k, k1, k2, k3, k4]; rfl
        have HCALL := Aside0.mk hcall
        have HFEW := Aside0.mk hfew
        have HK := Aside0.mk (And.intro hb5 (And.intro k8 k10))
        have HPr4 := Aside0.mk (blk_below HPr.out k10)
        have HKA : Aside0 (wr.heap.size ≤ k.mb) := ⟨k8⟩
        clear k1 k2 k3 k4 k5 k6 k7 k8 k9 k10 hbw4 hb5 hin5 hm5 hok2 hnn hcall hfew q0 q1 q2 hx' HWORK
        go_wp2_with fail
        refine (begun_any _).mono ?_
        rintro e w' ⟨rfl, rfl⟩
        simp only [Std.vals, std0] at HCALL ⊢
        go_wp2_with fail
        refine HCALL.out.mono ?_
        rintro e w5 ⟨rfl, hg5, hm5⟩
        have hPlt : P < wr.heap.size := blk_lt HPr.out
        have hbw5 : Below w.heap.size w w5 := HK.out.1.grown hg5 HK.out.1.size (fun r e => by cases e; have := HKA.out; have := HBr.out.size; omega)
        have hb45 : Below wr.heap.size wr w5 := (below_alloc HK.out.2.2 _).grown hg5 (by have := HK.out.2.2.size; simp; omega) (fun r e => by cases e; exact HKA.out)
        have hP5 := blk_below HPr.out hb45
        have hcl := clone_any A' c' sm w5 (by rw [← HSL.out]; exact Kd.C_below HI.out hb45) (by have := HL4.out; omega)
        rw [← HSL.out] at hcl
        have HCL := Aside0.mk hcl
        have HBW5 := Aside0.mk hbw5
        have HB45 := Aside0.mk hb45
        have HP5 := Aside0.mk hP5
        clear hg5 hm5 hbw5 hb45 hP5 hcl hPlt
        by_cases hlt5 : nn < 1024
        · have bl : decide (nn < 1024) = true := decide_eq_true hlt5
          have hb : es = (sm, 0) := by
            rw [HES.out, enoughS, if_neg (by rw [← HPE.out]; simp), ← HLS.out]
            have hf := find_at (L := LS) (p := fun l => decide (fewS need people cases l < 1024)) (j := kk) (by rw [HML.out]; exact hlt) HJ.out (by rw [← HSM.out, ← HFEW.out]; exact bl)
            rw [hf, ← HSM.out]
          have HB := Aside0.mk hb
          clear hlt5 hb
          go_wp2_with fail
          refine HCL.out.mono ?_
          rintro e w6 ⟨v, rfl, hR, hb6⟩
          have HR := Aside0.mk hR
          have HB6 := Aside0.mk hb6
          clear hR hb6
          go_wp2
          try rw [Exit.noGoto_ret]
          have hb := HB.out
          subst hb
          refine bodyPost_ret (v := .tuple #[v, .int .i64 0]) (by simp [results, Tryz.results28, go_sem]) rfl ⟨v, rfl, Kd.R_lower HR.out HBW5.out.size, HBW5.out.trans (HB6.out.mono HBW5.out.size)⟩
        · have bl : decide (nn < 1024) = false := decide_eq_false hlt5
          have HBL := Aside0.mk bl
          clear hlt5
          go_wp2
          go_roundg (M - (kk + 1))
          case measure => omega
          case rel => exact ⟨kk + 1, by omega, by omega, rfl, rfl, by go_num, HP5, HBW5, ⟨HB3r.out.trans (HB45.out.mono HB3r.out.size)⟩, ⟨fun j hj => by
            by_cases e : j = kk
            · subst e; rw [← HSM.out, ← HFEW.out]; exact HBL.out
            · exact HJ.out j (by omega)⟩⟩
      · have hltz : ¬ (kk : Int) < (M : Int) := by omega
        obtain rfl : kk = M := by omega
        have hb : es = ([], 10) := by
          rw [HES.out, enoughS, if_neg (by rw [← HPE.out]; simp), ← HLS.out, find_no (fun i hi => HJ.out i (by rw [← HML.out]; exact hi))]
        have HB := Aside0.mk hb
        clear hb
        go_wp2
        try rw [Exit.noGoto_ret]
        have hb := HB.out
        subst hb
        refine bodyPost_ret (v := .tuple #[.slice none 0 0, .int .i64 10]) (by simp [results, Tryz.results28, go_sem]) rfl ⟨.slice none 0 0, rfl, Kd.R_nil _ _ _ _ _, HBr.out⟩
  · have bz : (pe != 0) = true := by rw [bne_iff_ne]; exact hz
    have HZ := Aside0.mk hz
    have HG1 := Aside0.mk hgw1
    clear h10 hgw1 hg1 HCHK hz
    go_wp2
    have hb : es = ([], pe) := by rw [HES.out, enoughS, if_pos (by rw [← HPE.out]; exact HZ.out), ← HPE.out]
    subst hb
    try rw [Exit.noGoto_ret]
    refine bodyPost_ret (v := .tuple #[.slice none 0 0, .int .i64 pe]) (by simp [results, Tryz.results28, go_sem]) rfl ⟨.slice none 0 0, rfl, Kd.R_nil _ _ _ _ _, below_none HG1.out⟩
end Go.Proofs.YtekdacalkllipaaGreat.PR
end
section
namespace Go.Proofs.YtekdacalkllipaaGreat.PR
open Go.RowKit Go.Shelf Go.Proofs.YtekdacalkllipaaGreatW.PrintWords Go.Proofs.YtekdacalkllipaaGreatW.PrintLast Go.Proofs.YtekdacalkllipaaGreatW.PrintMore
set_option linter.unusedVariables false
set_option linter.unusedSimpArgs false
def rvB (x : S98) : Bool := decide (0 ≤ x.f0 ∧ x.f0 ≤ x.f1 ∧ x.f1 ≤ 100)
set_option maxHeartbeats 1000000 in
theorem rvalid_any (x : S98) (w : World) : Calls Tryz.prog 148 #[.agg #[.int .i64 x.f0, .int .i64 x.f1]] w fun e w' => e = .returned (.bool (rvB x)) ∧ w.grownBy w' none := by
  obtain ⟨lo, hi⟩ := x
  have hg := Aside0.mk (World.grownBy_alloc w (.cells #[.int .i64 lo, .int .i64 hi] 98) none)
  obtain ⟨b, hb⟩ : ∃ b, b = rvB ⟨lo, hi⟩ := ⟨_, rfl⟩
  rw [← hb]
  by_cases h1 : (0 : Int) ≤ lo
  · by_cases h2 : lo ≤ hi
    · by_cases h3 : hi ≤ 100
      · have e : b = true := by rw [hb]; simp [rvB, h1, h2, h3]
        subst e
        clear hb
        go_enter Tryz.func148, Tryz.ntmps148
        go_wp2
        go_ret
        exact ⟨rfl, hg.out⟩
      · have e : b = false := by rw [hb]; simp [rvB]; omega
        subst e
        clear hb
        go_enter Tryz.func148, Tryz.ntmps148
        go_wp2
        go_ret
        exact ⟨rfl, hg.out⟩
    · have e : b = false := by rw [hb]; simp [rvB]; omega
      subst e
      clear hb
      go_enter Tryz.func148, Tryz.ntmps148
      go_wp2
      go_ret
      exact ⟨rfl, hg.out⟩
  · have e : b = false := by rw [hb]; simp [rvB]; omega
    subst e
    clear hb
    go_enter Tryz.func148, Tryz.ntmps148
    go_wp2
    go_ret
    exact ⟨rfl, hg.out⟩
def mirErr (floor : Int) (loss : List S98) : Int :=
  if 8 < loss.length then 3 else if inr floor 0 100 = false ∨ loss.length = 0 ∨ (loss.all rvB) = false then 1 else 0
set_option maxHeartbeats 2000000 in
theorem mcheck_any (floor : Int) (A : Option Addr) (c : Nat) (loss : List S98) (w : World) (h : k98.C w A loss.length loss) :
    Calls Tryz.prog 109 #[.agg #[.int .i64 floor, .slice A loss.length c]] w fun e w' => e = .returned (.int .i64 (mirErr floor loss)) ∧ w.grownBy w' none := by
  have hl := C_len h
  have HR : Aside0 (∀ W, Below w.heap.size w W → Calls Tryz.prog 147 #[.slice A loss.length c, .func (.func 148) #[] #[]] W fun e w' => e = .returned (.bool (loss.all rvB)) ∧ W.grownBy w' none) := ⟨fun W hb =>
    allR_pure A c loss 148 #[] #[] (enters_of Tryz.func148 (by kernel_rfl) rfl) W rvB (Kd.C_below h hb) fun i W' _ _ => by
      simp only [List.push_toArray, List.append_toArray, List.nil_append, List.cons_append]
      exact rvalid_any _ W'⟩
  have G0 : Aside0 (w.grownBy (w.alloc (.cells #[.int .i64 floor, .slice A loss.length c] 89)) none) := ⟨World.grownBy_alloc _ _ _⟩
  have K0 : Aside0 ((w.alloc (.cells #[.int .i64 floor, .slice A loss.length c] 89)).heap[w.heap.size]? = some (.cells #[.int .i64 floor, .slice A loss.length c] 89 (0, 0))) := ⟨blk_new w _⟩
  clear h
  by_cases a1 : 8 < loss.length
  · have b1 : (8 : Int) < (loss.length : Int) := by omega
    have e : mirErr floor loss = 3 := by simp [mirErr, a1]
    rw [e]; clear e
    go_enter Tryz.func109, Tryz.ntmps109
    go_wp2
    go_ret
    exact ⟨rfl, G0.out⟩
  have b1 : (loss.length : Int) ≤ 8 := by omega
  cases q2 : inr floor 0 100 with
  | false =>
    have e : mirErr floor loss = 1 := by unfold mirErr; rw [if_neg (by omega), if_pos (.inl q2)]
    rw [e]; clear e
    have Q2 := Aside0.mk q2
    clear q2
    go_enter Tryz.func109, Tryz.ntmps109
    go_wp2_with (go_at_call 75; refine (within_any _ _ _ _).mono ?_; rintro e w' ⟨rfl, rfl⟩; rw [Q2.out])
    go_ret
    exact ⟨rfl, G0.out⟩
  | true =>
    have Q2 := Aside0.mk q2
    by_cases a4 : loss.length = 0
    · have b4 : ((loss.length : Int) == 0) = true := beq_iff_eq.2 (by omega)
      have e : mirErr floor loss = 1 := by unfold mirErr; rw [if_neg (by omega), if_pos (.inr (.inl a4))]
      rw [e]; clear e a4 q2
      go_enter Tryz.func109, Tryz.ntmps109
      go_wp2_with (go_at_call 75; refine (within_any _ _ _ _).mono ?_; rintro e w' ⟨rfl, rfl⟩; rw [Q2.out])
      go_ret
      exact ⟨rfl, G0.out⟩
    have b4 : ((loss.length : Int) == 0) = false := beq_eq_false_iff_ne.2 (by omega)
    cases q5 : loss.all rvB with
    | false =>
      have Q5 := Aside0.mk q5
      have e : mirErr floor loss = 1 := by unfold mirErr; rw [if_neg (by omega), if_pos (.inr (.inr q5))]
      rw [e]; clear e q2 q5 a4
      go_enter Tryz.func109, Tryz.ntmps109
      go_wp2_with (go_at_call 75; refine (within_any _ _ _ _).mono ?_; rintro e w' ⟨rfl, rfl⟩; rw [Q2.out])
      refine (HR.out _ (below_none G0.out)).mono ?_
      rintro e W1 ⟨rfl, hg⟩
      have G1 := Aside0.mk (grown_trans G0.out hg)
      clear hg
      rw [Q5.out]
      go_wp2
      go_ret
      exact ⟨rfl, G1.out⟩
    | true =>
      have Q5 := Aside0.mk q5
      have e : mirErr floor loss = 0 := by
        unfold mirErr
        rw [if_neg (by omega), if_neg]
        rintro (h | h | h)
        · rw [q2] at h; cases h
        · exact a4 h
        · rw [q5] at h; cases h
      rw [e]; clear e q2 q5 a4
      go_enter Tryz.func109, Tryz.ntmps109
      go_wp2_with (go_at_call 75; refine (within_any _ _ _ _).mono ?_; rintro e w' ⟨rfl, rfl⟩; rw [Q2.out])
      refine (HR.out _ (below_none G0.out)).mono ?_
      rintro e W1 ⟨rfl, hg⟩
      have G1 := Aside0.mk (grown_trans G0.out hg)
      clear hg
      rw [Q5.out]
      go_wp2
      go_ret
      exact ⟨rfl, G1.out⟩
end Go.Proofs.YtekdacalkllipaaGreat.PR
end
section
namespace Go.Proofs.YtekdacalkllipaaGreat.PR
open Go.RowKit Go.Shelf Go.Proofs.YtekdacalkllipaaGreatW.PrintWords Go.Proofs.YtekdacalkllipaaGreatW.PrintLast Go.Proofs.YtekdacalkllipaaGreatW.PrintMore
set_option linter.unusedVariables false
set_option linter.unusedSimpArgs false
attribute [local go_sem] Oper.semAt_some
attribute [local simp] wide_fn
def failCells (need : List Int) (cases r : List (List Int)) (ks : List Nat) : List Value :=
  (List.range (cases.length + 1)).map fun i => .int .i64 (if i ∈ ks then failsS need (caseAt cases i) 0 r else 0)
def failsL (need : List Int) (cases r : List (List Int)) : List Int :=
  (List.range (cases.length + 1)).map fun i => failsS need (caseAt cases i) 0 r
theorem failCells_nil (need : List Int) (cases r : List (List Int)) : (failCells need cases r []).toArray = Array.replicate (cases.length + 1) (.int .i64 0) := by
  apply Array.ext'
  simp [failCells, List.map_const']
theorem failCells_set (need : List Int) (cases r : List (List Int)) (ks : List Nat) (i : Nat) (hi : i ≤ cases.length) : (failCells need cases r ks).toArray.setIfInBounds i (.int .i64 (failsS need (caseAt cases i) 0 r)) = (failCells need cases r (ks ++ [i])).toArray := by
  rw [List.setIfInBounds_toArray]
  congr 1
  apply List.ext_getElem?
  intro j
  simp only [failCells, List.getElem?_set, List.getElem?_map, List.length_map, List.length_range, List.getElem?_range']
  by_cases h : i = j
  · subst h
    simp [List.getElem?_range (show i < cases.length + 1 by omega), show i < cases.length + 1 by omega]
  · rw [if_neg h]
    by_cases hj : j < cases.length + 1
    · rw [List.getElem?_range hj]
      simp [Ne.symm h]
    · rw [List.getElem?_eq_none (by simpa using hj)]
      rfl
theorem failCells_all (need : List Int) (cases r : List (List Int)) : failCells need cases r (List.range (cases.length + 1)) = (failsL need cases r).map (Value.int .i64) := by
  rw [failCells, failsL, List.map_map]
  apply List.map_congr_left
  intro i hi
  rw [if_pos hi]; rfl
theorem made_ints (n : Nat) : madeCells (Value.int .i64 0).cells (n * 1) = Array.replicate n (.int .i64 0) := by
  apply Array.ext'
  simp [madeCells, Value.cells, Array.toList_range, Nat.mod_one, List.map_const']
theorem mk_ints (n : Nat) (hn : n < 100000) (W : World) : (Instr.makeSlice 22 (.int .i64 (n : Int)) (.int .i64 (n : Int))).run Tryz.prog W = .ok (.slice (some ⟨W.heap.size, 0, none⟩) n n) (W.alloc (.cells (Array.replicate n (.int .i64 0)) 3)) := by
  have hinfo : (Tryz.prog.info? 3).map (fun i => (i.zero, i.size, i.bytes)) = some (some (.int .i64 0), 1, 8) := by kernel_rfl
  obtain ⟨i, hi, hzz⟩ := Option.map_eq_some_iff.1 hinfo
  simp only [Prod.mk.injEq] at hzz
  obtain ⟨hz, hs, hbb⟩ := hzz
  have := run_make (P := Tryz.prog) W 22 3 i (.int .i64 0) (by kernel_rfl) hi hz .i64 .i64 n n (by omega) (by omega) (by rw [hbb]; omega) (by omega)
  rw [this, hs]
  simp only [Int.toNat_natCast, made_ints]
theorem R_ints {W : World} {base N : Nat} {xs : List Int} (hb : base ≤ N) (h : W.heap[N]? = some (.cells (xs.map (Value.int .i64)).toArray 3 (0, 0))) (hm : xs.length ≤ maxLen) (m : Nat) (hmx : m = xs.length) : (Kd.int .i64).R 3 W base (fun _ => True) (.slice (some ⟨N, 0, none⟩) m m) xs := by
  subst hmx
  refine Kd.R_of_own (enc := Value.int .i64) ⟨by simp [encs], .inr ⟨N, xs.length, _, rfl, hb, h, Nat.le_refl _, hm, by simp, ?_⟩⟩ (fun _ _ => trivial)
  simp only [encs, Nat.mul_one]
  exact List.take_of_length_le (by simp)
set_option maxRecDepth 100000 in
set_option maxHeartbeats 4000000 in
theorem Fails_any (A0 : Option Addr) (c0 : Nat) (need : List Int) (A1 : Option Addr) (c1 : Nat) (people : List (Nat)) (n1 : Nat) (A2 : Option Addr) (c2 : Nat) (cases : List (List Int)) (A3 : Option Addr) (c3 : Nat) (r : List (List Int)) (e : Int) (w : World)
    (h0 : (Kd.int .i64).C w A0 need.length need) (h2 : (Kd.slice 3 (Kd.int .i64)).C w A2 cases.length cases) (h3 : (Kd.slice 3 (Kd.int .i64)).C w A3 r.length r)
    (hcheck : Calls Tryz.prog 78 #[.agg #[.slice A0 need.length c0, .slice A1 n1 c1, .slice A2 cases.length c2], .slice A3 r.length c3] ((w.alloc (.cells #[.slice A0 need.length c0, .slice A1 n1 c1, .slice A2 cases.length c2] 34)).alloc (.cells #[.slice A3 r.length c3] 24)) fun e' w' => e' = .returned (.int .i64 e) ∧ ((w.alloc (.cells #[.slice A0 need.length c0, .slice A1 n1 c1, .slice A2 cases.length c2] 34)).alloc (.cells #[.slice A3 r.length c3] 24)).grownBy w' none)
    (hcl : cases.length < 1000) (hok : e = 0 → r.length = need.length ∧ (∀ l ∈ cases, 0 < l.length) ∧ ∀ l ∈ cases, ∀ on ∈ r, ∀ x ∈ on, 0 ≤ x ∧ x < l.length) :
    Calls Tryz.prog 25 #[.agg #[.slice A0 need.length c0, .slice A1 n1 c1, .slice A2 cases.length c2], .slice A3 r.length c3] w fun e' w' => (∃ v, e' = .returned (.tuple #[v, .int .i64 e]) ∧ Kd.R (Kd.int .i64) 3 w' w.heap.size (fun _ => True) v (if e = 0 then failsL need cases r else [])) ∧ w.grownBy w' none := by
  obtain ⟨res, hres⟩ : ∃ res, res = if e = 0 then failsL need cases r else [] := ⟨_, rfl⟩
  rw [← hres]
  have HRES := Aside0.mk hres
  clear hres
  refine (callsIn_wide (n := 5)).1 ?_
  refine callsIn_of_wp_marks Tryz.func25 rfl trivial ?_ rfl
  simp only [Tryz.ntmps25, List.size_toArray, List.length_cons, List.length_nil, Nat.reduceAdd, Nat.reduceSub, Array.replicate_succ, Array.replicate_zero, List.push_toArray, List.append_toArray, List.nil_append, List.cons_append]
  have k0 := blk_alloc (blk_new w (.cells #[.slice A0 need.length c0, .slice A1 n1 c1, .slice A2 cases.length c2] 34)) (.cells #[.slice A3 r.length c3] 24)
  have k1 := blk_new (w.alloc (.cells #[.slice A0 need.length c0, .slice A1 n1 c1, .slice A2 cases.length c2] 34)) (.cells #[.slice A3 r.length c3] 24)
  by_cases he : e = 0
  · have he' : (e != 0) = false := by simp [he]
    have HE := Aside0.mk he
    have HOK := Aside0.mk hok
    have H0 := Aside0.mk h0
    have H2 := Aside0.mk h2
    have H3 := Aside0.mk h3
    have HC := Aside0.mk hcheck
    have K0 := Aside0.mk k0
    have K1 := Aside0.mk k1
    clear he hok h0 h2 h3 hcheck k0 k1
    have hmk : ∀ W : World, (Instr.makeSlice 22 (.int .i64 ((cases.length : Int) + 1)) (.int .i64 ((cases.length : Int) + 1))).run Tryz.prog W = .ok (.slice (some ⟨W.heap.size, 0, none⟩) (cases.length + 1) (cases.length + 1)) (W.alloc (.cells (Array.replicate (cases.length + 1) (.int .i64 0)) 3)) := fun W => mk_ints (cases.length + 1) (by omega) W
    gi_wp2_with (first | (gi_at_call 80; refine (cases_in Fence.wide _ trivial rfl _ _ _ _).mono ?_; rintro e' w'' ⟨rfl, rfl⟩) | (gi_at_call 78; refine (callsIn_wide.2 HC.out).mono ?_; rintro e' w' ⟨rfl, hg⟩; obtain ⟨b0, b1, hbel, hsz⟩ : w'.heap[w.heap.size]? = some (.cells #[.slice A0 need.length c0, .slice A1 n1 c1, .slice A2 cases.length c2] 34 (0, 0)) ∧ w'.heap[w.heap.size + 1]? = some (.cells #[.slice A3 r.length c3] 24 (0, 0)) ∧ Below w.heap.size w w' ∧ w.heap.size + 2 ≤ w'.heap.size := ⟨blk_grown K0.out hg (by simp), blk_grown (by rw [← K1.out, World.size_alloc]) hg (by simp), below_none (grown_trans (World.grownBy_alloc _ _ _) (grown_trans (World.grownBy_alloc _ _ _) hg)), by have := hg.size; simp at this; omega⟩; have B0 := Aside0.mk b0; have B1 := Aside0.mk b1; have BEL := Aside0.mk hbel; have SZ := Aside0.mk hsz; have c02 : w'.cell? ⟨w.heap.size, 2, none⟩ = some (.slice A2 cases.length c2) := (blk_cell b0 2).trans rfl; have e0 := blk_alloc (blk_alloc b0 (.cells (Array.replicate (cases.length + 1) (.int .i64 0)) 3)) (.cells #[.slice (some ⟨w'.heap.size, 0, none⟩) (cases.length + 1) (cases.length + 1)] 22); have d00 := (blk_cell e0 0).trans (show _ = some (.slice A0 need.length c0) from rfl); have d01 := (blk_cell e0 1).trans (show _ = some (.slice A1 n1 c1) from rfl); have d02 := (blk_cell e0 2).trans (show _ = some (.slice A2 cases.length c2) from rfl); clear e0 hg b0 b1 hbel hsz; generalize hPq : w.heap.size = P at *; have HP := Aside0.mk hPq; clear hPq))
    obtain ⟨N, hN⟩ : ∃ N, N = w'.heap.size := ⟨_, rfl⟩
    rw [← hN]
    obtain ⟨wL, hwL⟩ : ∃ wL, wL = ((w'.alloc (.cells (Array.replicate (cases.length + 1) (.int .i64 0)) 3)).alloc (.cells #[.slice (some ⟨N, 0, none⟩) (cases.length + 1) (cases.length + 1)] 22)).alloc (.cells #[.slice A0 need.length c0, .slice A1 n1 c1, .slice A2 cases.length c2] 34) := ⟨_, rfl⟩
    have hsL : wL.heap.size = N + 1 + 1 + 1 := by rw [hwL, hN]; simp
    have hbL : Below P w wL := by rw [hwL, hN]; exact BEL.out.trans ((below_none (grown_trans (World.grownBy_alloc _ _ _) (grown_trans (World.grownBy_alloc _ _ _) (World.grownBy_alloc _ _ _)))).mono (by have := SZ.out; omega))
    have k0 : wL.heap[P]? = some (.cells #[.slice A0 need.length c0, .slice A1 n1 c1, .slice A2 cases.length c2] 34 (0, 0)) := by rw [hwL]; exact blk_alloc (blk_alloc (blk_alloc B0.out _) _) _
    have k1 : wL.heap[P + 1]? = some (.cells #[.slice A3 r.length c3] 24 (0, 0)) := by rw [hwL]; exact blk_alloc (blk_alloc (blk_alloc B1.out _) _) _
    have k2 : wL.heap[N]? = some (.cells (failCells need cases r []).toArray 3 (0, 0)) := by rw [hwL, failCells_nil, hN]; exact blk_alloc (blk_alloc (blk_new w' _) _) _
    have k3 : wL.heap[N + 1]? = some (.cells #[.slice (some ⟨N, 0, none⟩) (cases.length + 1) (cases.length + 1)] 22 (0, 0)) := by
      rw [hwL]; have := blk_new (w'.alloc (.cells (Array.replicate (cases.length + 1) (.int .i64 0)) 3)) (.cells #[.slice (some ⟨N, 0, none⟩) (cases.length + 1) (cases.length + 1)] 22); rw [World.size_alloc, ← hN] at this; exact blk_alloc this _
    have k4 : wL.heap[N + 1 + 1]? = some (.cells #[.slice A0 need.length c0, .slice A1 n1 c1, .slice A2 cases.length c2] 34 (0, 0)) := by
      rw [hwL]; have := blk_new ((w'.alloc (.cells (Array.replicate (cases.length + 1) (.int .i64 0)) 3)).alloc (.cells #[.slice (some ⟨N, 0, none⟩) (cases.length + 1) (cases.length + 1)] 22)) (.cells #[.slice A0 need.length c0, .slice A1 n1 c1, .slice A2 cases.length c2] 34); rw [World.size_alloc, World.size_alloc, ← hN] at this; exact this
    have hPN : P + 2 ≤ N := by have := SZ.out; omega
    rw [← hwL]
    obtain ⟨hrl, hne, hon⟩ := HOK.out HE.out
    have hPw : P = w.heap.size := HP.out.symm
    have HSTOP := Aside0.mk (cases_stops Fence.wide 4 trivial rfl (by omega) (N + 1 + 1) P w hPw _ _ A2 c2 cases H2.out hne wL hbL k4)
    have HAW : Aside0 (∀ (i : Nat) (v : Value), i ≤ cases.length → IllAt w v (caseAt cases i) → ∀ W, Below P w W → Calls Tryz.prog 81 #[.agg #[.slice A0 need.length c0, .slice A1 n1 c1, .slice A2 cases.length c2], .slice A3 r.length c3, v] W fun e w' => e = .returned (.int .i64 (failsS need (caseAt cases i) 0 r)) ∧ W.grownBy w' none) := ⟨fun i v hi hv W hb =>
      fails_any A0 c0 need A1 c1 n1 A2 c2 cases.length A3 c3 r v (caseAt cases i) W (Kd.C_below H0.out (by rw [← hPw]; exact hb)) (Kd.C_below H3.out (by rw [← hPw]; exact hb)) (hv.below (by rw [← hPw]; exact hb)) hrl (fun l e on hm x hx => by
        unfold caseAt at e
        by_cases hlt : i < cases.length
        · rw [if_pos hlt] at e; cases e
          exact hon _ (by simp [rd_L1, List.getElem_mem, hlt]) on hm x hx
        · rw [if_neg hlt] at e; cases e)⟩
    have HPw := Aside0.mk hPw
    have HPN := Aside0.mk hPN
    have K0' := Aside0.mk k0
    have K1' := Aside0.mk k1
    have K2' := Aside0.mk k2
    have K3' := Aside0.mk k3
    have K4' := Aside0.mk k4
    have HBL := Aside0.mk hbL
    have HSL := Aside0.mk hsL
    clear hPw hPN k0 k1 k2 k3 k4 hbL hsL hrl hne hon hwL hmk HC K0 K1 H0 H2 H3 HOK d00 d01 d02 c02 B0 B1 BEL SZ hN
    refine wpIn_rangeFunc_ownG rfl (by omega) (gf := 128) (lb := #[.pointer (some ⟨N + 1 + 1, 0, none⟩)]) rfl trivial (enters_of Tryz.func128 (by kernel_rfl) rfl)
      HSTOP.out (fun h k => h.trans k) (KeepBox.b (by have := HSL.out; have := HPN.out; omega) (by have := HSL.out; omega)) (Below.refl _ _) (fun _ => rfl)
      (fun pre W => W.heap[P]? = some (.cells #[.slice A0 need.length c0, .slice A1 n1 c1, .slice A2 cases.length c2] 34 (0, 0)) ∧ W.heap[P + 1]? = some (.cells #[.slice A3 r.length c3] 24 (0, 0)) ∧ W.heap[N]? = some (.cells (failCells need cases r (pre.map (·.1.1))).toArray 3 (0, 0)) ∧ W.heap[N + 1]? = some (.cells #[.slice (some ⟨N, 0, none⟩) (cases.length + 1) (cases.length + 1)] 22 (0, 0)) ∧ W.heap[N + 1 + 1]? = some (.cells #[.slice A0 need.length c0, .slice A1 n1 c1, .slice A2 cases.length c2] 34 (0, 0)) ∧ Below P w W)
      (fun c pre W => False)
      (OwnFrom.and (blk_own _ _ _ _) (OwnFrom.and (blk_own _ _ _ _) (OwnFrom.and (fun s => blk_own _ _ _ _ s) (OwnFrom.and (blk_own _ _ _ _) (OwnFrom.and (blk_own _ _ _ _) (ownFrom_below (by have := HPw.out; omega) (by have := HSL.out; have := HPN.out; omega)))))))
      (fun c => ownFrom_pure _ (fun _ => False))
      ⟨K0'.out, K1'.out, K2'.out, K3'.out, K4'.out, HBL.out⟩
      (fun x => { tmps := #[.agg #[.slice A0 need.length c0, .slice A1 n1 c1, .slice A2 cases.length c2], .slice A3 r.length c3, .pointer (some ⟨P, 0, none⟩), .pointer (some ⟨P + 1, 0, none⟩), .slice none 0 0, .int .i64 0, .int .i64 e, .pointer (some ⟨N + 1, 0, none⟩), .int .i64 (x.1.1 : Nat), x.1.2, .agg #[.slice A0 need.length c0, .slice A1 n1 c1, .slice A2 cases.length c2], .slice A3 r.length c3, .int .i64 e, .int .i64 e, .bool false, undef, .pointer (some ⟨P, 2, none⟩), .slice A2 cases.length c2, .int .i64 (cases.length : Int), .int .i64 ((cases.length : Int) + 1), .slice (some ⟨N, 0, none⟩) (cases.length + 1) (cases.length + 1), .agg #[.slice A0 need.length c0, .slice A1 n1 c1, .slice A2 cases.length c2], .func (.func 128) #[] #[.pointer (some ⟨N + 1 + 1, 0, none⟩)], .int .i64 (x.1.1 : Nat), x.1.2, undef, undef, undef, undef, undef, undef, undef, undef], defers := [] }) ?assign ?body ?done ?stop
    case assign =>
      intro l x W K hK
      gi_wp2
      exact hK
    case body =>
      rintro l pre x W ⟨b0, b1, b2, b3, b4, hb⟩ _
      obtain ⟨hi, hv⟩ := x.2
      obtain ⟨i, hxi⟩ : ∃ i, i = x.1.1 := ⟨_, rfl⟩
      obtain ⟨v, hxv⟩ : ∃ v, v = x.1.2 := ⟨_, rfl⟩
      rw [← hxi, ← hxv] at hv
      rw [← hxi] at hi
      rw [← hxi, ← hxv]
      have HXI := Aside0.mk hxi
      clear hxi hxv
      obtain ⟨fi, hfi⟩ : ∃ fi, fi = failsS need (caseAt cases i) 0 r := ⟨_, rfl⟩
      have HC : Aside0 (∀ W, Below P w W → Calls Tryz.prog 81 #[.agg #[.slice A0 need.length c0, .slice A1 n1 c1, .slice A2 cases.length c2], .slice A3 r.length c3, v] W fun e w' => e = .returned (.int .i64 fi) ∧ W.grownBy w' none) := ⟨by rw [hfi]; exact fun W hW => HAW.out i v hi hv W hW⟩
      have HFI := Aside0.mk hfi
      have HI : Aside0 (i ≤ cases.length) := ⟨hi⟩
      have hiz : (i : Int) < ((cases.length : Int) + 1) := by omega
      have hiz2 : (i : Int) ≤ (cases.length : Int) := by omega
      have hiz3 : i ≤ cases.length := hi
      have hiz4 : i < cases.length + 1 := by omega
      have hiz5 : (i : Int) < ((cases.length + 1 : Nat) : Int) := by omega
      have q0 := (blk_cell b0 0).trans (show _ = some (.slice A0 need.length c0) from rfl)
      have q1 := (blk_cell b0 1).trans (show _ = some (.slice A1 n1 c1) from rfl)
      have q2 := (blk_cell b0 2).trans (show _ = some (.slice A2 cases.length c2) from rfl)
      have q3 := (blk_cell b1 0).trans (show _ = some (.slice A3 r.length c3) from rfl)
      have q4 := (blk_cell b3 0).trans (show _ = some (.slice (some ⟨N, 0, none⟩) (cases.length + 1) (cases.length + 1)) from rfl)
      have HB0 := Aside0.mk b0
      have HB1 := Aside0.mk b1
      have HB2 := Aside0.mk b2
      have HB3 := Aside0.mk b3
      have HB4 := Aside0.mk b4
      have HB := Aside0.mk hb
      clear b0 b1 b2 b3 b4 hb hfi hi hv
      have hfin : ∀ w' : World, W.drew.grownBy w' none → KeepsFrom wL.heap.size W (w'.setCell ⟨N, i, none⟩ (.int .i64 fi)) ∧ KeepBox P (N + 1 + 1) W (w'.setCell ⟨N, i, none⟩ (.int .i64 fi)) ∧
          (w'.setCell ⟨N, i, none⟩ (.int .i64 fi)).heap[P]? = some (.cells #[.slice A0 need.length c0, .slice A1 n1 c1, .slice A2 cases.length c2] 34 (0, 0)) ∧ (w'.setCell ⟨N, i, none⟩ (.int .i64 fi)).heap[P + 1]? = some (.cells #[.slice A3 r.length c3] 24 (0, 0)) ∧ (w'.setCell ⟨N, i, none⟩ (.int .i64 fi)).heap[N]? = some (.cells (failCells need cases r ((pre ++ [x]).map (·.1.1))).toArray 3 (0, 0)) ∧ (w'.setCell ⟨N, i, none⟩ (.int .i64 fi)).heap[N + 1]? = some (.cells #[.slice (some ⟨N, 0, none⟩) (cases.length + 1) (cases.length + 1)] 22 (0, 0)) ∧ (w'.setCell ⟨N, i, none⟩ (.int .i64 fi)).heap[N + 1 + 1]? = some (.cells #[.slice A0 need.length c0, .slice A1 n1 c1, .slice A2 cases.length c2] 34 (0, 0)) ∧ Below P w (w'.setCell ⟨N, i, none⟩ (.int .i64 fi)) := by
        intro w' hg0
        have hg : W.grownBy w' none := grown_trans (grown_drew W) hg0
        have hpn := HPN.out
        have hbb : Below P W w' := (below_none hg).mono (by have := HB.out.size; have := HPw.out; omega)
        have far : ∀ k, k ≠ N → (w'.setCell ⟨N, i, none⟩ (.int .i64 fi)).heap[k]? = w'.heap[k]? := fun k hk => Below.heap_setCell w' ⟨N, i, none⟩ _ k hk
        refine ⟨(KeepsFrom.of_grownBy hg (by simp)).trans ((KeepsOthers.setCell _ _ _).from _), ⟨below_set1 hbb (by omega) _ _, (far _ (by omega)).trans ((blk_grown HB4.out hg (by simp)).trans HB4.out.symm)⟩, (far _ (by omega)).trans (blk_grown HB0.out hg (by simp)), (far _ (by omega)).trans (blk_grown HB1.out hg (by simp)), ?_, (far _ (by omega)).trans (blk_grown HB3.out hg (by simp)), (far _ (by omega)).trans (blk_grown HB4.out hg (by simp)), below_set1 (HB.out.trans hbb) (by omega) _ _⟩
        refine blk_put (blk_grown HB2.out hg (by simp)) i _ ?_
        rw [HFI.out, failCells_set need cases r _ i HI.out, List.map_append]
        rw [HXI.out]; rfl
      have HFIN := Aside0.mk hfin
      clear hfin
      have hask : ∀ (o : Oper) (a : Act) (C : World → Prop), Oper.askedIn Fence.wide Tryz.prog o a C := fun _ _ _ _ _ _ _ => trivial
      gi_wp2
      have HC' : CallsIn (Fence.wide.inRound l) 2 Tryz.prog 81 #[.agg #[.slice A0 need.length c0, .slice A1 n1 c1, .slice A2 cases.length c2], .slice A3 r.length c3, v] W.drew fun e' w' => e' = .returned (.int .i64 fi) ∧ W.drew.grownBy w' none := (callsIn_wide.2 (HC.out _ (pw_below_drewN HB.out 1))).inRound l
      have HCC := Aside0.mk HC'
      obtain ⟨oldv, hold⟩ : ∃ o, (failCells need cases r (pre.map (·.1.1))).toArray[i]? = some o := ⟨_, Array.getElem?_eq_getElem (by simp [failCells]; omega)⟩
      have HOLD := Aside0.mk hold
      clear hold
      clear HC'
      have HB3d : Aside0 (W.drew.heap[N + 1]? = some (.cells #[.slice (some ⟨N, 0, none⟩) (cases.length + 1) (cases.length + 1)] 22 (0, 0))) := ⟨HB3.out⟩
      have HB2d : Aside0 (W.drew.heap[N]? = some (.cells (failCells need cases r (pre.map (·.1.1))).toArray 3 (0, 0))) := ⟨HB2.out⟩
      gi_region_with (gi_at_call 81; refine HCC.out.mono ?_; rintro e' w' ⟨rfl, hg⟩; have z4 := (blk_cell (blk_grown HB3d.out hg (by simp)) 0).trans (show _ = some (.slice (some ⟨N, 0, none⟩) (cases.length + 1) (cases.length + 1)) from rfl); have z5 := blk_frozen (blk_grown HB2d.out hg (by simp)) i; have z6 := (blk_cell (blk_grown HB2d.out hg (by simp)) i).trans HOLD.out; have HG := Aside0.mk hg; clear hg)
      all_goals exact HFIN.out _ HG.out
    case done =>
      rintro D xs W hD hS ⟨b0, b1, b2, b3, b4, hb⟩ hK
      rw [hS, failCells_all] at b2
      have q4 := (blk_cell b3 0).trans (show _ = some (.slice (some ⟨N, 0, none⟩) (cases.length + 1) (cases.length + 1)) from rfl)
      have HB2 := Aside0.mk b2
      have HB := Aside0.mk hb
      have HKK := Aside0.mk hK
      clear b0 b1 b2 b3 b4 hb hK hS
      gi_wp2
      have hK' := HKK.out
      refine ⟨by simp, .inl ⟨_, _, rfl, run_takeDeferred hK', ?_⟩⟩
      refine ⟨.tuple #[.slice (some ⟨N, 0, none⟩) (cases.length + 1) (cases.length + 1), .int .i64 0], ?_, ⟨_, (by have := HE.out; subst this; rfl), ?_⟩, leave_tail HB.out HPw.out (by have := HSL.out; have := HPN.out; omega)⟩
      · simp [results, Tryz.f25, go_sem]
      · have hr := HRES.out
        rw [if_pos HE.out] at hr
        rw [hr]
        have hpn := HPN.out
        have hpw := HPw.out
        have hsl := HSL.out
        have b2 : (W.putObj D (.deferred none)).heap[N]? = some (.cells ((failsL need cases r).map (Value.int .i64)).toArray 3 (0, 0)) := (World.putObj_heap_other (by omega)).trans HB2.out
        exact R_ints (by omega) b2 (by simp [failsL, maxLen]; omega) _ (by simp [failsL])
    case stop =>
      rintro D c pre W hD _ hF hK
      exact hF.elim
  · have he' : (e != 0) = true := by simp [he]
    have HE := Aside0.mk he
    have HC := Aside0.mk hcheck
    clear he hok h0 h2 h3 hcheck k0 k1
    gi_wp2_with (gi_at_call 78; refine (callsIn_wide.2 HC.out).mono ?_; rintro e' w' ⟨rfl, hg⟩; have HG := Aside0.mk hg; clear hg)
    refine ⟨.tuple #[.slice none 0 0, .int .i64 e], ?_, ⟨_, rfl, ?_⟩, grown_trans (World.grownBy_alloc _ _ _) (grown_trans (World.grownBy_alloc _ _ _) HG.out)⟩
    · simp [results, Tryz.f25, go_sem]
    · have hr := HRES.out
      rw [if_neg HE.out] at hr
      rw [hr]
      exact Kd.R_nil _ _ _ _ _
end Go.Proofs.YtekdacalkllipaaGreat.PR
end
section
namespace Go.Proofs.YtekdacalkllipaaGreat.PR
open Go.RowKit Go.Shelf Go.Proofs.YtekdacalkllipaaGreatW.PrintWords Go.Proofs.YtekdacalkllipaaGreatW.PrintLast Go.Proofs.YtekdacalkllipaaGreatW.PrintMore
set_option linter.unusedVariables false
set_option linter.unusedSimpArgs false
theorem idx_l0 (l : List Int) (a : Int) (hl : l.length ≤ 9223372036854775807) : ∀ (d k i : Nat), l.length - i = d → i ≤ l.length → d < k → ∃ r, slices_Index_int_int.l0 k l a (l.length : Int) (i : Int) = some r ∧ decide (r ≥ 0) = (l.drop i).contains a := by
  intro d
  induction d with
  | zero =>
    intro k i hd hi hk
    obtain ⟨k, rfl⟩ : ∃ m, k = m + 1 := ⟨k - 1, by omega⟩
    have e : i = l.length := by omega
    subst e
    simp only [slices_Index_int_int.l0]
    rw [if_neg (by omega)]
    exact ⟨-1, rfl, by simp⟩
  | succ d ih =>
    intro k i hd hi hk
    obtain ⟨k, rfl⟩ : ∃ m, k = m + 1 := ⟨k - 1, by omega⟩
    have hlt : i < l.length := by omega
    simp only [slices_Index_int_int.l0]
    rw [if_pos (by omega), if_pos (by omega), if_pos (by omega)]
    have hrd : rd l (i : Int) = l[i] := by simp [rd, hlt]
    rw [List.drop_eq_getElem_cons hlt, hrd]
    by_cases h : a = l[i]
    · rw [if_pos h]
      refine ⟨i, rfl, ?_⟩
      rw [List.contains_cons, h, beq_self_eq_true, Bool.true_or]
      exact decide_eq_true (by omega)
    · rw [if_neg h, show wrap64 ((i : Int) + 1) = ((i + 1 : Nat) : Int) by unfold wrap64; omega]
      obtain ⟨r, h1, h2⟩ := ih k (i + 1) (by omega) (by omega) (by omega)
      refine ⟨r, h1, ?_⟩
      rw [h2, List.contains_cons]
      simp [h]
theorem contains_any (A : Option Addr) (c : Nat) (l : List Int) (a : Int) (w : World) (h : (Kd.int .i64).C w A l.length l) (hc : l.length ≤ c) :
    Calls Tryz.prog 150 #[.slice A l.length c, .int .i64 a] w fun e w' => e = .returned (.bool (l.contains a)) ∧ ∃ nd, w' = w.drewN nd := by
  obtain ⟨r, h1, h2⟩ := idx_l0 l a (C_len h) l.length (l.length + 1) 0 (by omega) (by omega) (by omega)
  have hf : slices_Contains_int_int.f (l.length + 1) l a = some (l.contains a) := by
    unfold slices_Contains_int_int.f slices_Index_int_int.f
    have h1' : slices_Index_int_int.l0 (l.length + 1) l a (l.length : Int) 0 = some r := h1
    rw [h1']
    simp only [Option.bind_some, h2, List.drop_zero]
  refine (slices_Contains_int_int.calls (l.length + 1) A c l a (l.contains a) w h hc hf).mono ?_
  rintro e w' ⟨rfl, hd⟩
  obtain ⟨nd, rfl⟩ := hd
  exact ⟨rfl, nd, rfl⟩
def nowK (pick : S98 → Int) (loss : List S98) (polished : List Int) : Nat → Int
  | 0 => 100
  | k + 1 => max 0 ((if polished.contains (k : Int) then 100 else nowK pick loss polished k) - pick (rd_T98 loss k))
def outK (pick : S98 → Int) (loss : List S98) (polished : List Int) (kk : Nat) : List Int := (List.range loss.length).map fun i => if i < kk then nowK pick loss polished (i + 1) else 0
def dimS (pick : S98 → Int) (loss : List S98) (polished : List Int) : List Int := (List.range loss.length).map fun i => nowK pick loss polished (i + 1)
theorem outK_full (pick : S98 → Int) (loss : List S98) (polished : List Int) : outK pick loss polished loss.length = dimS pick loss polished := by
  unfold outK dimS
  apply List.map_congr_left
  intro i hi
  rw [if_pos (List.mem_range.1 hi)]
theorem outK_len (pick : S98 → Int) (loss : List S98) (polished : List Int) (kk : Nat) : (outK pick loss polished kk).length = loss.length := by simp [outK]
theorem outK_zero (pick : S98 → Int) (loss : List S98) (polished : List Int) : outK pick loss polished 0 = List.replicate loss.length 0 := by
  unfold outK
  apply List.ext_getElem
  · simp
  · intro i h1 h2; simp
theorem outK_set (pick : S98 → Int) (loss : List S98) (polished : List Int) (kk : Nat) (h : kk < loss.length) : (outK pick loss polished kk).set kk (nowK pick loss polished (kk + 1)) = outK pick loss polished (kk + 1) := by
  apply List.ext_getElem
  · simp [outK]
  · intro i h1 h2
    rw [List.getElem_set]
    simp only [outK, List.getElem_map, List.getElem_range]
    by_cases e : kk = i
    · subst e; simp
    · rw [if_neg e]
      by_cases hi : i < kk
      · rw [if_pos hi, if_pos (by omega)]
      · rw [if_neg hi, if_neg (by omega)]
theorem nowK_bd {pick : S98 → Int} {loss : List S98} {polished : List Int} (hp : ∀ x ∈ loss, 0 ≤ pick x ∧ pick x ≤ 100) : ∀ k, k ≤ loss.length → 0 ≤ nowK pick loss polished k ∧ nowK pick loss polished k ≤ 100
  | 0, _ => by simp [nowK]
  | k + 1, h => by
    have h1 := nowK_bd (polished := polished) hp k (by omega)
    have h2 := hp (rd_T98 loss k) (by simp [rd_T98, List.getElem_mem, show k < loss.length by omega])
    simp only [nowK]
    split <;> omega
attribute [local go_sem] max2_int min2_int max_two min_two
set_option maxRecDepth 100000 in
set_option maxHeartbeats 4000000 in
theorem mafter_any (g : Nat) (pick : S98 → Int) (eg : ∀ args w, (callFunc g args).run Tryz.prog w = .ok (.enter g args) w)
    (hg : ∀ (x : S98) (w : World), Calls Tryz.prog g #[.agg #[.int .i64 x.f0, .int .i64 x.f1]] w fun e w' => e = .returned (.int .i64 (pick x)) ∧ Below w.heap.size w w')
    (floor : Int) (A : Option Addr) (c : Nat) (loss : List S98) (A1 : Option Addr) (c1 : Nat) (polished : List Int) (w : World) (h : k98.C w A loss.length loss) (h1 : (Kd.int .i64).C w A1 polished.length polished) (hc1 : polished.length ≤ c1)
    (hp : ∀ x ∈ loss, 0 ≤ pick x ∧ pick x ≤ 100) (hl8 : loss.length ≤ 8) :
    Calls Tryz.prog 111 #[.agg #[.int .i64 floor, .slice A loss.length c], .agg #[.func (.func g) #[] #[]], .slice A1 polished.length c1] w fun e w' => ∃ v, e = .returned v ∧ (Kd.int .i64).R 3 w' w.heap.size (fun _ => True) v (dimS pick loss polished) ∧ Below w.heap.size w w' := by
  obtain ⟨P, hP⟩ : ∃ P, P = w.heap.size := ⟨_, rfl⟩
  obtain ⟨n, hn⟩ : ∃ n, n = loss.length := ⟨_, rfl⟩
  obtain ⟨pn, hpn⟩ : ∃ pn, pn = polished.length := ⟨_, rfl⟩
  rw [← hn] at hl8
  have hmk : ∀ W : World, (Instr.makeSlice 22 (.int .i64 (n : Int)) (.int .i64 (n : Int))).run Tryz.prog W = .ok (.slice (some ⟨W.heap.size, 0, none⟩) n n) (W.alloc (.cells (Array.replicate n (.int .i64 0)) 3)) := fun W => mk_ints n (by omega) W
  obtain ⟨wA, hwA⟩ : ∃ wA, wA = ((w.alloc (.cells #[.int .i64 floor, .slice A n c] 89)).alloc (.cells #[.func (.func g) #[] #[]] 176)).alloc (.cells (Array.replicate n (.int .i64 0)) 3) := ⟨_, rfl⟩
  have hgA : w.grownBy wA none := by rw [hwA]; exact grown_trans (World.grownBy_alloc _ _ _) (grown_trans (World.grownBy_alloc _ _ _) (World.grownBy_alloc _ _ _))
  have hA1 : wA.heap[P + 1]? = some (.cells #[.func (.func g) #[] #[]] 176 (0, 0)) := by
    rw [hwA, hP]; have := blk_new (w.alloc (.cells #[.int .i64 floor, .slice A n c] 89)) (.cells #[.func (.func g) #[] #[]] 176); rw [World.size_alloc] at this; exact blk_alloc this _
  have hA2 : wA.heap[P + 1 + 1]? = some (.cells (Array.replicate n (.int .i64 0)) 3 (0, 0)) := by
    rw [hwA, hP]; have := blk_new ((w.alloc (.cells #[.int .i64 floor, .slice A n c] 89)).alloc (.cells #[.func (.func g) #[] #[]] 176)) (.cells (Array.replicate n (.int .i64 0)) 3); rwa [World.size_alloc, World.size_alloc] at this
  have hR0 : (Kd.int .i64).R 3 wA w.heap.size (fun _ => True) (.slice (some ⟨P + 1 + 1, 0, none⟩) n n) (outK pick loss polished 0) := by
    refine R_ints (by omega) ?_ (by rw [outK_len, ← hn]; unfold maxLen; omega) n (by rw [outK_len, hn])
    rw [hA2, outK_zero, ← hn]
    congr 3
    simp
  have HH := Aside0.mk (And.intro h h1)
  have HG := Aside0.mk hg
  have HP := Aside0.mk hp
  have HGA := Aside0.mk hgA
  have HA1 := Aside0.mk hA1
  have HR0 := Aside0.mk hR0
  have HN := Aside0.mk hn
  have HPN := Aside0.mk hpn
  have HWA := Aside0.mk hwA
  rw [← hn, ← hpn]
  rw [← hpn] at hc1
  obtain ⟨out, hout⟩ : ∃ out, out = dimS pick loss polished := ⟨_, rfl⟩
  rw [← hout]
  have HOUT := Aside0.mk hout
  clear h h1 hg hp hgA hA1 hA2 hR0 hn hpn hout hwA
  go_enter Tryz.func111, Tryz.ntmps111
  go_wp2
  rw [← HWA.out, ← hP]
  have HPP := Aside0.mk hP
  clear hP hmk
  go_loopg [8, 18] n (fun gg s8 s18 wr => ∃ kk : Nat, kk ≤ n ∧ n - kk ≤ gg ∧ s8 = .int .i64 (nowK pick loss polished kk) ∧ s18 = .int .i64 kk ∧ Aside0 (Below w.heap.size w wr) ∧ Aside0 (wr.heap[P + 1]? = some (.cells #[.func (.func g) #[] #[]] 176 (0, 0))) ∧ Aside0 ((Kd.int .i64).R 3 wr w.heap.size (fun _ => True) (.slice (some ⟨P + 1 + 1, 0, none⟩) n n) (outK pick loss polished kk)))
  case atStart => exact ⟨0, Nat.zero_le _, by omega, rfl, rfl, ⟨below_none HGA.out⟩, HA1, HR0⟩
  case round =>
    obtain ⟨kk, hkk, hgg, rfl, rfl, HBr, HEr, HRr⟩ := hrel
    by_cases hlt : kk < n
    · have hltz : (kk : Int) < (n : Int) := by omega
      obtain ⟨ad, e0, hx0, hx1⟩ := at_T98 (Kd.C_below HH.out.1 HBr.out) (kk : Int) (by omega) (by have := HN.out; omega)
      cases e0
      simp only [Int.toNat_natCast] at hx0 hx1
      obtain ⟨x, hx⟩ : ∃ x, x = rd_T98 loss kk := ⟨_, rfl⟩
      rw [← hx] at hx0 hx1
      have hxm : 0 ≤ pick x ∧ pick x ≤ 100 := by rw [hx]; exact HP.out _ (by have := HN.out; simp [rd_T98, List.getElem_mem, show kk < loss.length by omega])
      obtain ⟨nw, hnw⟩ : ∃ nw, nw = nowK pick loss polished kk := ⟨_, rfl⟩
      rw [← hnw]
      have hnb : 0 ≤ nw ∧ nw ≤ 100 := by rw [hnw]; exact nowK_bd HP.out kk (by have := HN.out; omega)
      obtain ⟨cn, hcn⟩ : ∃ cn, cn = polished.contains (kk : Int) := ⟨_, rfl⟩
      have HNX : Aside0 (nowK pick loss polished (kk + 1) = max 0 ((if cn = true then 100 else nw) - pick x)) := ⟨by rw [nowK, ← hcn, ← hnw, ← hx]⟩
      have HCN : Aside0 (∀ W, Below w.heap.size w W → Calls Tryz.prog 150 #[.slice A1 pn c1, .int .i64 (kk : Int)] W fun e w' => e = .returned (.bool cn) ∧ ∃ nd, w' = W.drewN nd) := ⟨fun W hb => by rw [HPN.out, hcn]; exact contains_any A1 c1 polished kk W (Kd.C_below HH.out.2 hb) (by rw [← HPN.out]; exact hc1)⟩
      have HCAP : Aside0 (∀ W : World, Calls Tryz.prog g #[.agg #[.int .i64 x.f0, .int .i64 x.f1]] W fun e w' => e = .returned (.int .i64 (pick x)) ∧ Below W.heap.size W w') := ⟨fun W => HG.out x W⟩
      have hsz : P + 1 + 1 < wr.heap.size := Kd.R_lt HRr.out _ rfl
      have HSET : Aside0 ((outK pick loss polished kk).set kk (nowK pick loss polished (kk + 1)) = outK pick loss polished (kk + 1)) := ⟨outK_set pick loss polished kk (by have := HN.out; omega)⟩
      obtain ⟨px, hpx⟩ : ∃ px, px = pick x := ⟨_, rfl⟩
      rw [← hpx] at HCAP HNX hxm
      clear hx hnw hcn hpx
      go_wp2_with fail
      obtain ⟨W1, hW1⟩ : ∃ W1, W1 = wr.alloc (.cells #[.int .i64 x.f0, .int .i64 x.f1] 98) := ⟨_, rfl⟩
      obtain ⟨N1, hN1⟩ : ∃ N1, N1 = wr.heap.size := ⟨_, rfl⟩
      rw [← hW1, ← hN1]
      have hb1 : Below wr.heap.size wr W1 := by rw [hW1]; exact below_alloc (Below.refl _ _) _
      have hX1 : W1.heap[N1]? = some (.cells #[.int .i64 x.f0, .int .i64 x.f1] 98 (0, 0)) := by rw [hW1, hN1]; exact blk_new wr _
      refine (HCN.out W1 (HBr.out.trans (hb1.mono HBr.out.size))).mono ?_
      rintro e W2 ⟨rfl, nd, rfl⟩
      obtain ⟨W2, hW2⟩ : ∃ W2, W2 = W1.drewN nd := ⟨_, rfl⟩
      rw [← hW2]
      have hb2 : Below wr.heap.size wr W2 := by rw [hW2]; exact pw_below_drewN hb1 nd
      have hX2 : W2.heap[N1]? = some (.cells #[.int .i64 x.f0, .int .i64 x.f1] 98 (0, 0)) := by rw [hW2]; exact hX1
      have hE2 := blk_below HEr.out hb2
      have q0 : W2.cell? ⟨N1, 0, none⟩ = some (.int .i64 x.f0) := (blk_cell hX2 0).trans rfl
      have q1 : W2.cell? ⟨N1, 1, none⟩ = some (.int .i64 x.f1) := (blk_cell hX2 1).trans rfl
      have qE : W2.cell? ⟨P + 1, 0, none⟩ = some (.func (.func g) #[] #[]) := (blk_cell hE2 0).trans rfl
      have HB2 := Aside0.mk hb2
      have HN1 := Aside0.mk hN1
      clear hW1 hN1 hb1 hX1 hW2 hb2 hX2 hE2 hx0 hx1
      cases cn with
      | true =>
        go_wp2_with fail
        refine (HCAP.out W2).mono ?_
        rintro e W3 ⟨rfl, hb3⟩
        have hbr3 : Below wr.heap.size wr W3 := HB2.out.trans (hb3.mono HB2.out.size)
        have hR3 := Kd.R_below HRr.out hbr3
        obtain ⟨c3, f3⟩ := Kd.R_celln (0 : Int) hR3 (kk : Int) (by omega) (by omega)
        simp only [Int.toNat_natCast] at c3 f3
        have HB3 := Aside0.mk hbr3
        have HR3 := Aside0.mk hR3
        clear q0 q1 qE hb3 hbr3 hR3
        go_wp2
        all_goals
          go_roundg (n - (kk + 1))
          case measure => omega
          case rel =>
            have hb3 := HBr.out.trans (HB3.out.mono HBr.out.size)
            have hE3 := blk_below HEr.out HB3.out
            first
            | (have e : nowK pick loss polished (kk + 1) = 100 - px := by rw [HNX.out]; simp; omega
               have hR := Kd.R_putn HR3.out (kk : Int) (100 - px)
               simp only [Int.toNat_natCast] at hR
               rw [← e, HSET.out] at hR
               exact ⟨kk + 1, by omega, by omega, by rw [e], by go_num, ⟨below_set1 hb3 (by have := HPP.out; omega) _ _⟩, ⟨blk_far hE3 (by simp) _⟩, ⟨by rw [← e]; exact hR⟩⟩)
            | (have e : nowK pick loss polished (kk + 1) = 0 := by rw [HNX.out]; simp; omega
               have hR := Kd.R_putn HR3.out (kk : Int) (0 : Int)
               simp only [Int.toNat_natCast] at hR
               have hs := HSET.out
               rw [e] at hs
               rw [hs] at hR
               exact ⟨kk + 1, by omega, by omega, by rw [e], by go_num, ⟨below_set1 hb3 (by have := HPP.out; omega) _ _⟩, ⟨blk_far hE3 (by simp) _⟩, ⟨hR⟩⟩)
      | false =>
        go_wp2_with fail
        refine (HCAP.out W2).mono ?_
        rintro e W3 ⟨rfl, hb3⟩
        have hbr3 : Below wr.heap.size wr W3 := HB2.out.trans (hb3.mono HB2.out.size)
        have hR3 := Kd.R_below HRr.out hbr3
        obtain ⟨c3, f3⟩ := Kd.R_celln (0 : Int) hR3 (kk : Int) (by omega) (by omega)
        simp only [Int.toNat_natCast] at c3 f3
        have HB3 := Aside0.mk hbr3
        have HR3 := Aside0.mk hR3
        clear q0 q1 qE hb3 hbr3 hR3
        go_wp2
        all_goals
          go_roundg (n - (kk + 1))
          case measure => omega
          case rel =>
            have hb3 := HBr.out.trans (HB3.out.mono HBr.out.size)
            have hE3 := blk_below HEr.out HB3.out
            first
            | (have e : nowK pick loss polished (kk + 1) = nw - px := by rw [HNX.out]; simp; omega
               have hR := Kd.R_putn HR3.out (kk : Int) (nw - px)
               simp only [Int.toNat_natCast] at hR
               rw [← e, HSET.out] at hR
               exact ⟨kk + 1, by omega, by omega, by rw [e], by go_num, ⟨below_set1 hb3 (by have := HPP.out; omega) _ _⟩, ⟨blk_far hE3 (by simp) _⟩, ⟨by rw [← e]; exact hR⟩⟩)
            | (have e : nowK pick loss polished (kk + 1) = 0 := by rw [HNX.out]; simp; omega
               have hR := Kd.R_putn HR3.out (kk : Int) (0 : Int)
               simp only [Int.toNat_natCast] at hR
               have hs := HSET.out
               rw [e] at hs
               rw [hs] at hR
               exact ⟨kk + 1, by omega, by omega, by rw [e], by go_num, ⟨below_set1 hb3 (by have := HPP.out; omega) _ _⟩, ⟨blk_far hE3 (by simp) _⟩, ⟨hR⟩⟩)
    · have hltz : ¬ (kk : Int) < (n : Int) := by omega
      obtain rfl : kk = n := by omega
      have hb : out = outK pick loss polished kk := by rw [HOUT.out, HN.out, outK_full]
      subst hb
      go_wp2
      go_ret
      exact ⟨_, rfl, HRr.out, HBr.out⟩
end Go.Proofs.YtekdacalkllipaaGreat.PR
end
section
namespace Go.Proofs.YtekdacalkllipaaGreat.PR
open Go.RowKit Go.Shelf Go.Proofs.YtekdacalkllipaaGreatW.PrintWords Go.Proofs.YtekdacalkllipaaGreatW.PrintLast Go.Proofs.YtekdacalkllipaaGreatW.PrintMore
set_option linter.unusedVariables false
set_option linter.unusedSimpArgs false
attribute [local go_sem] Oper.semAt_some
attribute [local simp] wide_fn
theorem foldl_min_le (l : List Int) (f : Int) : ∀ z : Int, (f ≤ l.foldl min z ↔ f ≤ z ∧ ∀ x ∈ l, f ≤ x) := by
  induction l with
  | nil => intro z; simp
  | cons a l ih =>
    intro z
    rw [List.foldl_cons, ih]
    constructor
    · rintro ⟨h1, h2⟩
      refine ⟨by omega, fun x hx => ?_⟩
      rcases List.mem_cons.1 hx with rfl | hx
      · omega
      · exact h2 x hx
    · rintro ⟨h1, h2⟩
      have := h2 a List.mem_cons_self
      exact ⟨by omega, fun x hx => h2 x (List.mem_cons_of_mem _ hx)⟩
theorem le_minOf (l : List Int) (h : 0 < l.length) (f : Int) : f ≤ Lib.minOf l ↔ ∀ x ∈ l, f ≤ x := by
  unfold Lib.minOf
  rw [foldl_min_le]
  cases l with
  | nil => simp at h
  | cons a l =>
    simp only [List.headD_cons]
    exact ⟨fun h => h.2, fun h => ⟨h a List.mem_cons_self, h⟩⟩
def stayB (floor : Int) (loss : List S98) (polished : List Int) : Bool := (dimS (fun x => x.f1) loss polished).all fun n => decide (floor ≤ n)
theorem stayB_min (floor : Int) (loss : List S98) (polished : List Int) (h : 0 < loss.length) : decide (floor ≤ Lib.minOf (dimS (fun x => x.f1) loss polished)) = stayB floor loss polished := by
  rw [Bool.eq_iff_iff, decide_eq_true_iff, le_minOf _ (by simpa [dimS] using h), stayB, List.all_eq_true]
  simp
set_option maxHeartbeats 1000000 in
theorem minimum_any {base : Nat} {ok : Nat → Prop} (b c : Nat) (xs : List Int) (w : World) (h : (Kd.int .i64).R 3 w base ok (.slice (some ⟨b, 0, none⟩) xs.length c) xs) (hp : 0 < xs.length) :
    Calls Tryz.prog 134 #[.slice (some ⟨b, 0, none⟩) xs.length c] w fun e w' => e = .returned (.int .i64 (Lib.minOf xs)) ∧ w' = w := by
  have hm := Tryz.slices_Min_int b 0 xs.length c xs w hp (Nat.le_refl _) (by
    obtain ⟨A, c', e, hl, hC⟩ := Kd.R_reads h
    exact C_len hC) (fun j hj => by
    have := (Kd.R_cell (0 : Int) h (j : Int) (by omega) (by omega)).1
    rw [Nat.zero_add]
    simpa [rdOf] using this)
  rw [List.take_length] at hm
  have HC := Aside0.mk hm
  clear h hm
  go_enter Tryz.func134, Tryz.ntmps134
  go_wp2_with fail
  refine HC.out.mono ?_
  rintro e w' ⟨rfl, rfl⟩
  go_wp2
  go_ret
  exact ⟨rfl, rfl⟩
theorem high_call (x : S98) (w : World) : Calls Tryz.prog 112 #[.agg #[.int .i64 x.f0, .int .i64 x.f1]] w fun e w' => e = .returned (.int .i64 x.f1) ∧ Below w.heap.size w w' := rota_Range_high.calls x.f0 x.f1 x.f1 w rfl
theorem low_call (x : S98) (w : World) : Calls Tryz.prog 113 #[.agg #[.int .i64 x.f0, .int .i64 x.f1]] w fun e w' => e = .returned (.int .i64 x.f0) ∧ Below w.heap.size w w' := rota_Range_low.calls x.f0 x.f1 x.f0 w rfl
theorem mirErr_ok {floor : Int} {loss : List S98} (h : mirErr floor loss = 0) : loss.length ≤ 8 ∧ 0 < loss.length ∧ (0 ≤ floor ∧ floor ≤ 100) ∧ ∀ x ∈ loss, 0 ≤ x.f0 ∧ x.f0 ≤ x.f1 ∧ x.f1 ≤ 100 := by
  unfold mirErr at h
  by_cases a : 8 < loss.length
  · rw [if_pos a] at h; cases h
  · rw [if_neg a] at h
    by_cases b : inr floor 0 100 = false ∨ loss.length = 0 ∨ (loss.all rvB) = false
    · rw [if_pos b] at h; cases h
    · simp only [not_or] at b
      obtain ⟨b1, b2, b3⟩ := b
      refine ⟨by omega, by omega, ?_, fun x hx => ?_⟩
      · simpa [inr] using b1
      · have := List.all_eq_true.1 (by simpa using b3) x hx
        simpa [rvB] using this
set_option maxRecDepth 100000 in
set_option maxHeartbeats 4000000 in
theorem mbright_any (floor : Int) (A : Option Addr) (c : Nat) (loss : List S98) (A1 : Option Addr) (c1 : Nat) (polished : List Int) (w : World) (h : k98.C w A loss.length loss) (h1 : (Kd.int .i64).C w A1 polished.length polished) (hc1 : polished.length ≤ c1) (he : mirErr floor loss = 0) :
    Calls Tryz.prog 114 #[.agg #[.int .i64 floor, .slice A loss.length c], .slice A1 polished.length c1] w fun e w' => e = .returned (.bool (stayB floor loss polished)) ∧ w.grownBy w' none := by
  obtain ⟨hk8, hk0, hfl, hlo⟩ := mirErr_ok he
  obtain ⟨P, hP⟩ : ∃ P, P = w.heap.size := ⟨_, rfl⟩
  obtain ⟨wA, hwA⟩ : ∃ wA, wA = w.alloc (.cells #[.int .i64 floor, .slice A loss.length c] 89) := ⟨_, rfl⟩
  have hgA : w.grownBy wA none := by rw [hwA]; exact World.grownBy_alloc _ _ _
  have hA0 : wA.heap[P]? = some (.cells #[.int .i64 floor, .slice A loss.length c] 89 (0, 0)) := by rw [hwA, hP]; exact blk_new w _
  have HAF : Aside0 (∀ W, Below wA.heap.size wA W → Calls Tryz.prog 111 #[.agg #[.int .i64 floor, .slice A loss.length c], .agg #[.func (.func 112) #[] #[]], .slice A1 polished.length c1] W fun e w' => ∃ v, e = .returned v ∧ (Kd.int .i64).R 3 w' W.heap.size (fun _ => True) v (dimS (fun x => x.f1) loss polished) ∧ Below W.heap.size W w') := ⟨fun W hb =>
    mafter_any 112 (fun x => x.f1) (enters_of Tryz.func112 (by kernel_rfl) rfl) high_call floor A c loss A1 c1 polished W (Kd.C_below (Kd.C_below h (below_none hgA)) hb) (Kd.C_below (Kd.C_below h1 (below_none hgA)) hb) hc1 (fun x hx => by have := hlo x hx; omega) hk8⟩
  obtain ⟨dm, hdm⟩ : ∃ dm, dm = dimS (fun x => x.f1) loss polished := ⟨_, rfl⟩
  obtain ⟨nl, hnl⟩ : ∃ nl, nl = loss.length := ⟨_, rfl⟩
  have hdl : dm.length = nl := by rw [hdm, hnl]; simp [dimS]
  obtain ⟨mn, hmn⟩ : ∃ mn, mn = Lib.minOf dm := ⟨_, rfl⟩
  obtain ⟨bb, hbb⟩ : ∃ bb, bb = stayB floor loss polished := ⟨_, rfl⟩
  have HBB : Aside0 (decide (floor ≤ mn) = bb) := ⟨by rw [hmn, hdm, stayB_min _ _ _ hk0, hbb]⟩
  rw [← hbb]
  rw [← hdm, ← hnl] at HAF
  rw [← hnl] at hA0 hk0 hwA ⊢
  have HGA := Aside0.mk hgA
  have HA0 := Aside0.mk hA0
  have HDL := Aside0.mk hdl
  have HMN := Aside0.mk hmn
  clear h h1 he hgA hA0 hdm hnl hdl hmn hbb hlo
  refine (callsIn_wide (n := 10)).1 ?_
  refine callsIn_of_wp Tryz.func114 rfl trivial ?_ rfl
  simp only [Tryz.ntmps114, List.size_toArray, List.length_cons, List.length_nil, Nat.reduceAdd, Nat.reduceSub, Array.replicate_succ, Array.replicate_zero, List.push_toArray, List.append_toArray, List.nil_append, List.cons_append]
  gi_wp2
  rw [← hwA, ← hP]
  clear hwA hP
  refine region_mk (by kernel_rfl) (fun t => { tmps := #[.agg #[.int .i64 floor, .slice A nl c], .slice A1 polished.length c1, .pointer (some ⟨P, 0, none⟩), undef, t 8, t 0, t 1, t 2, t 3, t 4, t 5, t 6, t 7], defers := [] })
    (fun L t w' => Below wA.heap.size wA w' ∧ (L 3 = true → ∃ b cv, t 3 = .slice (some ⟨b, 0, none⟩) nl cv ∧ (Kd.int .i64).R 3 w' wA.heap.size (fun _ => True) (.slice (some ⟨b, 0, none⟩) nl cv) dm))
    (fun i v => match i with | 0 => v = .agg #[.int .i64 floor, .slice A nl c] | 1 => v = .agg #[.func (.func 112) #[] #[]] | 2 => v = .slice A1 polished.length c1 | 4 => v = .int .i64 mn | 5 => v = .pointer (some ⟨P, 0, none⟩) | 6 => v = .int .i64 floor | 7 => v = .bool bb | 8 => v = .bool bb | _ => True)
    (fun j => match j with | 8 => .bool false | _ => undef) (by kernel_rfl) ⟨pw_below_drewN (Below.refl _ _) 1, by simp⟩ ?stepA ?doneA
  case stepA =>
    intro i hi
    have hi' : i < 9 := hi
    match i, hi' with
    | 0, _ =>
      intro L t w' hL hJ hX hdep hcl
      have q0 : w'.cell? ⟨P, 0, none⟩ = some (.int .i64 floor) := (blk_cell (blk_below HA0.out hJ.1) 0).trans rfl
      have q1 : w'.cell? ⟨P, 1, none⟩ = some (.slice A nl c) := (blk_cell (blk_below HA0.out hJ.1) 1).trans rfl
      refine wpOpIn_step rfl (fun K hK => ?_)
      dsimp only
      go_simp
      refine hK _ _ ⟨.agg #[.int .i64 floor, .slice A nl c], ?_, rfl, hJ⟩
      simp [upd]
    | 1, _ =>
      intro L t w' hL hJ hX hdep hcl
      refine wpOpIn_step rfl (fun K hK => ?_)
      dsimp only
      go_simp
      refine hK _ _ ⟨.agg #[.func (.func 112) #[] #[]], ?_, rfl, hJ⟩
      simp [upd]
    | 2, _ =>
      intro L t w' hL hJ hX hdep hcl
      refine wpOpIn_step rfl (fun K hK => ?_)
      dsimp only
      go_simp
      refine hK _ _ ⟨.slice A1 polished.length c1, ?_, rfl, hJ⟩
      simp [upd]
    | 3, _ =>
      intro L t w' hL hJ hX hdep hcl
      have x0 : t 0 = .agg #[.int .i64 floor, .slice A nl c] := hX 0 (hdep _ rfl ⟨0, .data⟩ (by simp) rfl)
      have x1 : t 1 = .agg #[.func (.func 112) #[] #[]] := hX 1 (hdep _ rfl ⟨1, .data⟩ (by simp) rfl)
      have x2 : t 2 = .slice A1 polished.length c1 := hX 2 (hdep _ rfl ⟨2, .data⟩ (by simp) rfl)
      have hc := Aside0.mk (HAF.out w' hJ.1)
      refine wpOpIn_step rfl (fun K hK => ?_)
      dsimp only
      simp only [x0, x1, x2]
      go_simp
      refine (callsIn_wide.2 hc.out).mono ?_
      rintro e w2 ⟨v, rfl, hR, hb⟩
      have hRB := Kd.R_base hR
      obtain ⟨b, cv, hv⟩ : ∃ b cv, v = .slice (some ⟨b, 0, none⟩) nl cv := by
        obtain ⟨A9, c9, e9⟩ := Kd.R_slice hR
        subst e9
        cases A9 with
        | none =>
          obtain ⟨A8, c8, e8, _, hC⟩ := Kd.R_reads hR
          injection e8 with e8
          subst e8
          have := hC.2.2 (by rw [HDL.out]; exact hk0)
          obtain ⟨_, e, _⟩ := this
          cases e
        | some ad =>
          obtain ⟨g, rfl⟩ := Kd.R_head hR
          exact ⟨g, c9, by rw [HDL.out]⟩
      subst hv
      refine hK _ _ ⟨.slice (some ⟨b, 0, none⟩) nl cv, ?_, trivial, ⟨hJ.1.trans (hb.mono hJ.1.size), fun _ => ⟨b, cv, rfl, Kd.R_lower hR hJ.1.size⟩⟩⟩
      simp [upd, x0, x1, x2]
    | 4, _ =>
      intro L t w' hL hJ hX hdep hcl
      obtain ⟨b, cv, e3, hR⟩ := hJ.2 (hdep _ rfl ⟨3, .data⟩ (by simp) rfl)
      have hm := minimum_any b cv dm w' (by rw [HDL.out]; exact hR) (by rw [HDL.out]; exact hk0)
      rw [HDL.out, ← HMN.out] at hm
      have HC := Aside0.mk hm
      clear hm hR
      refine wpOpIn_step rfl (fun K hK => ?_)
      dsimp only
      simp only [e3]
      go_simp
      refine (callsIn_wide.2 HC.out).mono ?_
      rintro e w2 ⟨rfl, rfl⟩
      refine hK _ _ ⟨.int .i64 mn, ?_, rfl, hJ⟩
      simp [upd, e3]
    | 5, _ =>
      intro L t w' hL hJ hX hdep hcl
      refine wpOpIn_step rfl (fun K hK => ?_)
      dsimp only
      go_simp
      refine hK _ _ ⟨.pointer (some ⟨P, 0, none⟩), ?_, rfl, hJ⟩
      simp [upd]
    | 6, _ =>
      intro L t w' hL hJ hX hdep hcl
      have x5 : t 5 = .pointer (some ⟨P, 0, none⟩) := hX 5 (hdep _ rfl ⟨5, .data⟩ (by simp) rfl)
      have q0 : w'.cell? ⟨P, 0, none⟩ = some (.int .i64 floor) := (blk_cell (blk_below HA0.out hJ.1) 0).trans rfl
      refine wpOpIn_step rfl (fun K hK => ?_)
      dsimp only
      simp only [x5]
      go_simp
      refine hK _ _ ⟨.int .i64 floor, ?_, rfl, hJ⟩
      simp [upd, x5]
    | 7, _ =>
      intro L t w' hL hJ hX hdep hcl
      have x4 : t 4 = .int .i64 mn := hX 4 (hdep _ rfl ⟨4, .data⟩ (by simp) rfl)
      have x6 : t 6 = .int .i64 floor := hX 6 (hdep _ rfl ⟨6, .data⟩ (by simp) rfl)
      have hbb := HBB.out
      refine wpOpIn_step rfl (fun K hK => ?_)
      dsimp only
      simp only [x4, x6]
      go_simp
      refine hK _ _ ⟨.bool bb, ?_, rfl, hJ⟩
      simp [upd, x4, x6]
    | 8, _ =>
      intro L t w' hL hJ hX hdep hcl
      have x7 : t 7 = .bool bb := hX 7 (hdep _ rfl ⟨7, .data⟩ (by simp) rfl)
      refine wpOpIn_step rfl (fun K hK => ?_)
      dsimp only
      simp only [x7]
      go_simp
      refine hK _ _ ⟨.bool bb, ?_, rfl, hJ⟩
      simp [upd, x7]
    | j + 9, h => exact absurd h (by omega)
  case doneA =>
    intro L t w8 hL hJ hX
    have x0 : t 0 = .agg #[.int .i64 floor, .slice A nl c] := hX 0 (by decide)
    have x1 : t 1 = .agg #[.func (.func 112) #[] #[]] := hX 1 (by decide)
    have x2 : t 2 = .slice A1 polished.length c1 := hX 2 (by decide)
    have x4 : t 4 = .int .i64 mn := hX 4 (by decide)
    have x5 : t 5 = .pointer (some ⟨P, 0, none⟩) := hX 5 (by decide)
    have x6 : t 6 = .int .i64 floor := hX 6 (by decide)
    have x7 : t 7 = .bool bb := hX 7 (by decide)
    have x8 : t 8 = .bool bb := hX 8 (by decide)
    have HB8 := Aside0.mk (grown_trans HGA.out (grown_of_below hJ.1 none))
    try dsimp only
    simp only [x0, x1, x2, x4, x5, x6, x7, x8]
    clear x0 x1 x2 x4 x5 x6 x7 x8 hX hJ hL
    gi_wp2
    go_ret
    exact ⟨rfl, HB8.out⟩
end Go.Proofs.YtekdacalkllipaaGreat.PR
end
section
namespace Go.Proofs.YtekdacalkllipaaGreat.PR
open Go.RowKit Go.Shelf Go.Proofs.YtekdacalkllipaaGreatW.PrintWords Go.Proofs.YtekdacalkllipaaGreatW.PrintLast Go.Proofs.YtekdacalkllipaaGreatW.PrintMore
set_option linter.unusedVariables false
set_option linter.unusedSimpArgs false
attribute [local go_sem] Oper.semAt_some
attribute [local simp] wide_fn
def rngAt (loss : List S98) (polished : List Int) (i : Nat) : S98 := ⟨nowK (fun x => x.f1) loss polished (i + 1), nowK (fun x => x.f0) loss polished (i + 1)⟩
def rangesS (loss : List S98) (polished : List Int) : List S98 := (List.range loss.length).map (rngAt loss polished)
def rngK (loss : List S98) (polished : List Int) (kk : Nat) : List S98 := (List.range loss.length).map fun i => if i < kk then rngAt loss polished i else z98
theorem rngK_full (loss : List S98) (polished : List Int) : rngK loss polished loss.length = rangesS loss polished := by
  unfold rngK rangesS
  apply List.map_congr_left
  intro i hi
  rw [if_pos (List.mem_range.1 hi)]
theorem rngK_zero (loss : List S98) (polished : List Int) : rngK loss polished 0 = List.replicate loss.length z98 := by
  unfold rngK
  apply List.ext_getElem
  · simp
  · intro i h1 h2; simp
theorem rngK_set (loss : List S98) (polished : List Int) (kk : Nat) (h : kk < loss.length) : (rngK loss polished kk).set kk (rngAt loss polished kk) = rngK loss polished (kk + 1) := by
  apply List.ext_getElem
  · simp [rngK]
  · intro i h1 h2
    rw [List.getElem_set]
    simp only [rngK, List.getElem_map, List.getElem_range]
    by_cases e : kk = i
    · subst e; simp
    · rw [if_neg e]
      by_cases hi : i < kk
      · rw [if_pos hi, if_pos (by omega)]
      · rw [if_neg hi, if_neg (by omega)]
def brightS (floor : Int) (loss : List S98) (polished : List Int) : List S98 × Int :=
  if mirErr floor loss ≠ 0 then ([], mirErr floor loss) else if incB polished loss.length = false then ([], 2) else (rangesS loss polished, 0)
theorem R_some {base : Nat} {ok : Nat → Prop} {w : World} {v : Value} {xs : List Int} (h : (Kd.int .i64).R 3 w base ok v xs) (h0 : 0 < xs.length) : ∃ b cv, v = .slice (some ⟨b, 0, none⟩) xs.length cv := by
  obtain ⟨A9, c9, e9⟩ := Kd.R_slice h
  subst e9
  cases A9 with
  | none =>
    obtain ⟨A8, c8, e8, _, hC⟩ := Kd.R_reads h
    injection e8 with e8
    subst e8
    obtain ⟨_, e, _⟩ := hC.2.2 h0
    cases e
  | some ad =>
    obtain ⟨g, rfl⟩ := Kd.R_head h
    exact ⟨g, c9, rfl⟩
theorem mk_ranges (n : Nat) (hn : n < 1000) (W : World) : (Instr.makeSlice 85 (.int .i64 (n : Int)) (.int .i64 (n : Int))).run Tryz.prog W = .ok (.slice (some ⟨W.heap.size, 0, none⟩) n n) (W.alloc (.cells (madeCells #[.int .i64 0, .int .i64 0] (n * 2)) 98)) := by
  have hinfo : (Tryz.prog.info? 98).map (fun i => (i.zero, i.size, i.bytes)) = some (some (.agg #[.int .i64 0, .int .i64 0]), 2, 16) := by kernel_rfl
  obtain ⟨i, hi, hzz⟩ := Option.map_eq_some_iff.1 hinfo
  simp only [Prod.mk.injEq] at hzz
  obtain ⟨hz, hs, hbb⟩ := hzz
  have := run_make (P := Tryz.prog) W 85 98 i (.agg #[.int .i64 0, .int .i64 0]) (by kernel_rfl) hi hz .i64 .i64 n n (by omega) (by omega) (by rw [hbb]; omega) (by omega)
  rw [this, hs]
  simp only [Int.toNat_natCast]
  rfl
theorem R_ranges {W : World} {base N n : Nat} (hb : base ≤ N) (h : W.heap[N]? = some (.cells (madeCells #[.int .i64 0, .int .i64 0] (n * 2)) 98 (0, 0))) (hm : n < 1000) : k98.R 98 W base (fun _ => True) (.slice (some ⟨N, 0, none⟩) n n) (List.replicate n z98) := by
  have hsz : (madeCells #[.int .i64 0, .int .i64 0] (n * 2)).size = n * 2 := size_madeCells _ _
  refine ⟨fun _ _ => trivial, (madeCells #[.int .i64 0, .int .i64 0] (n * 2)).toList, ⟨?_, .inr ⟨N, n, _, ?_, hb, h, by simp, ?_, ?_, ?_⟩⟩, ?_⟩
  · show _ = _ * 2; simp [hsz]
  · simp
  · unfold maxLen; omega
  · show _ = _ * 2; exact hsz
  · show List.take (_ * 2) _ = _
    rw [List.length_replicate, List.take_of_length_le (by simp [hsz])]
  · exact Kd.reps_made (z := .agg #[.int .i64 0, .int .i64 0]) (R := fun p c => k98.M W base (fun k => True ∧ some k ≠ (Value.slice (some ⟨N, 0, none⟩) n n).ownBlock) p c) rfl (by decide) (k98_mkM _ _ _ z98) n
set_option maxRecDepth 100000 in
set_option maxHeartbeats 4000000 in
theorem Bright_any (floor : Int) (A : Option Addr) (c : Nat) (loss : List S98) (A1 : Option Addr) (c1 : Nat) (polished : List Int) (w : World) (h : k98.C w A loss.length loss) (h1 : (Kd.int .i64).C w A1 polished.length polished) (hc1 : polished.length ≤ c1) :
    Calls Tryz.prog 44 #[.agg #[.int .i64 floor, .slice A loss.length c], .slice A1 polished.length c1] w fun e w' => ∃ v, e = .returned (.tuple #[v, .int .i64 (brightS floor loss polished).2]) ∧ k98.R 98 w' w.heap.size (fun _ => True) v (brightS floor loss polished).1 ∧ Below w.heap.size w w' := by
  obtain ⟨P, hP⟩ : ∃ P, P = w.heap.size := ⟨_, rfl⟩
  obtain ⟨wA, hwA⟩ : ∃ wA, wA = w.alloc (.cells #[.int .i64 floor, .slice A loss.length c] 89) := ⟨_, rfl⟩
  have hgA : w.grownBy wA none := by rw [hwA]; exact World.grownBy_alloc _ _ _
  have hA0 : wA.heap[P]? = some (.cells #[.int .i64 floor, .slice A loss.length c] 89 (0, 0)) := by rw [hwA, hP]; exact blk_new w _
  have hbA := below_none hgA
  have HCHK := Aside0.mk (mcheck_any floor A c loss wA (Kd.C_below h hbA))
  obtain ⟨pe, hpe⟩ : ∃ pe, pe = mirErr floor loss := ⟨_, rfl⟩
  rw [← hpe] at HCHK
  obtain ⟨bs, hbs⟩ : ∃ bs, bs = brightS floor loss polished := ⟨_, rfl⟩
  rw [← hbs]
  have HH := Aside0.mk (And.intro h h1)
  have HG := Aside0.mk hgA
  have HA0 := Aside0.mk hA0
  have HPE := Aside0.mk hpe
  have HBS := Aside0.mk hbs
  clear h h1 hgA hA0 hbA hpe hbs
  refine (callsIn_wide (n := 10)).1 ?_
  refine callsIn_of_wp Tryz.func44 rfl trivial ?_ rfl
  simp only [Tryz.ntmps44, List.size_toArray, List.length_cons, List.length_nil, Nat.reduceAdd, Nat.reduceSub, Array.replicate_succ, Array.replicate_zero, List.push_toArray, List.append_toArray, List.nil_append, List.cons_append]
  gi_wp2_with fail
  rw [← hwA, ← hP]
  have HPP := Aside0.mk hP
  clear hwA hP
  refine (callsIn_wide.2 HCHK.out).mono ?_
  rintro e w1 ⟨rfl, hg1⟩
  have h10 := blk_grown HA0.out hg1 (by simp)
  have hgw1 := grown_trans HG.out hg1
  by_cases hz : pe = 0
  · have bz : (pe != 0) = false := by rw [hz]; rfl
    subst hz
    obtain ⟨hk8, hk0, hfl, hlo⟩ := mirErr_ok HPE.out.symm
    have hbw1 : Below w.heap.size w w1 := below_none hgw1
    have HINC := Aside0.mk (incr_any A1 c1 polished (loss.length : Int) w1 (by omega) (by omega) (Kd.C_below HH.out.2 hbw1))
    have q1 : w1.cell? ⟨P, 1, none⟩ = some (.slice A loss.length c) := (blk_cell h10 1).trans rfl
    have H10 := Aside0.mk h10
    have HB1 := Aside0.mk hbw1
    have HLO := Aside0.mk hlo
    clear h10 hgw1 hg1 HCHK hlo hbw1
    gi_wp2_with fail
    refine (callsIn_wide.2 HINC.out).mono ?_
    rintro e w2 ⟨rfl, hg2⟩
    have hb2 : Below w1.heap.size w1 w2 := below_none hg2
    have H20 := Aside0.mk (blk_below H10.out hb2)
    have HB2 := Aside0.mk (HB1.out.trans (hb2.mono HB1.out.size))
    obtain ⟨ib, hib⟩ : ∃ ib, ib = incB polished (loss.length : Int) := ⟨_, rfl⟩
    rw [← hib]
    have HIB := Aside0.mk hib
    clear hg2 hb2 hib q1 HINC
    cases ib with
    | false =>
      gi_wp2
      have hb : bs = ([], 2) := by rw [HBS.out, brightS, if_neg (by rw [← HPE.out]; simp), if_pos HIB.out.symm]
      subst hb
      refine bodyPost_ret (v := .tuple #[.slice none 0 0, .int .i64 2]) (by simp [results, Tryz.results44, go_sem]) rfl ⟨.slice none 0 0, rfl, Kd.R_nil _ _ _ _ _, HB2.out⟩
    | true =>
      have HAF : Aside0 (∀ (g : Nat) (pick : S98 → Int), (g = 112 ∧ pick = (fun x => x.f1)) ∨ (g = 113 ∧ pick = (fun x => x.f0)) → ∀ W, Below w2.heap.size w2 W → Calls Tryz.prog 111 #[.agg #[.int .i64 floor, .slice A loss.length c], .agg #[.func (.func g) #[] #[]], .slice A1 polished.length c1] W fun e w' => ∃ b cv, e = .returned (.slice (some ⟨b, 0, none⟩) loss.length cv) ∧ (Kd.int .i64).R 3 w' W.heap.size (fun _ => True) (.slice (some ⟨b, 0, none⟩) loss.length cv) (dimS pick loss polished) ∧ Below W.heap.size W w') := ⟨by
        intro g pick hgp W hb
        have hC := Kd.C_below (Kd.C_below HH.out.1 HB2.out) hb
        have hC1 := Kd.C_below (Kd.C_below HH.out.2 HB2.out) hb
        have hpk : ∀ x ∈ loss, 0 ≤ pick x ∧ pick x ≤ 100 := by
          intro x hx
          have := HLO.out x hx
          rcases hgp with ⟨_, rfl⟩ | ⟨_, rfl⟩
          · show 0 ≤ x.f1 ∧ x.f1 ≤ 100; omega
          · show 0 ≤ x.f0 ∧ x.f0 ≤ 100; omega
        have hcall := mafter_any g pick (by
          rcases hgp with ⟨rfl, _⟩ | ⟨rfl, _⟩
          · exact enters_of Tryz.func112 (by kernel_rfl) rfl
          · exact enters_of Tryz.func113 (by kernel_rfl) rfl) (by
          rcases hgp with ⟨rfl, rfl⟩ | ⟨rfl, rfl⟩
          · exact high_call
          · exact low_call) floor A c loss A1 c1 polished W hC hC1 hc1 hpk hk8
        refine hcall.mono ?_
        rintro e w' ⟨v, rfl, hR, hb'⟩
        obtain ⟨b, cv, rfl⟩ := R_some hR (by simpa [dimS] using hk0)
        have hl : (dimS pick loss polished).length = loss.length := by simp [dimS]
        rw [hl] at hR ⊢
        exact ⟨b, cv, rfl, hR, hb'⟩⟩
      obtain ⟨n, hn⟩ : ∃ n, n = loss.length := ⟨_, rfl⟩
      rw [← hn] at HAF hk8 hk0 H20 H10 ⊢
      have HN := Aside0.mk hn
      obtain ⟨dh, hdh⟩ : ∃ dh, dh = dimS (fun x => x.f1) loss polished := ⟨_, rfl⟩
      obtain ⟨dl, hdl⟩ : ∃ dl, dl = dimS (fun x => x.f0) loss polished := ⟨_, rfl⟩
      have HAH := Aside0.mk (HAF.out 112 (fun x => x.f1) (.inl ⟨rfl, rfl⟩))
      have HAL := Aside0.mk (HAF.out 113 (fun x => x.f0) (.inr ⟨rfl, rfl⟩))
      rw [← hdh] at HAH
      rw [← hdl] at HAL
      have HDH := Aside0.mk hdh
      have HDL := Aside0.mk hdl
      clear hn hdh hdl HAF
      gi_wp2
      refine region_mk (by kernel_rfl) (fun t => { tmps := #[.agg #[.int .i64 floor, .slice A n c], .slice A1 polished.length c1, .pointer (some ⟨P, 0, none⟩), undef, .slice none 0 0, .int .i64 0, .int .i64 0, t 8, t 9, undef, undef, undef, .agg #[.int .i64 floor, .slice A n c], .int .i64 0, .int .i64 0, .bool false, undef, .slice A1 polished.length c1, .pointer (some ⟨P, 1, none⟩), .slice A n c, .int .i64 (n : Int), .bool true, .bool false, t 0, t 1, t 2, t 3, t 4, t 5, t 6, t 7, undef, undef, undef, undef, undef, undef, undef, undef, undef, undef, undef, undef, undef, undef, undef, undef, undef, undef, undef, undef, undef], defers := [] })
        (fun L t w' => Below w2.heap.size w2 w' ∧ (L 3 = true → ∃ b cv, t 3 = .slice (some ⟨b, 0, none⟩) n cv ∧ (Kd.int .i64).R 3 w' w2.heap.size (fun _ => True) (.slice (some ⟨b, 0, none⟩) n cv) dh) ∧ (L 7 = true → ∃ b cv, t 7 = .slice (some ⟨b, 0, none⟩) n cv ∧ (Kd.int .i64).R 3 w' w2.heap.size (fun _ => True) (.slice (some ⟨b, 0, none⟩) n cv) dl) ∧ (L 8 = true → L 3 = true ∧ t 8 = t 3) ∧ (L 9 = true → L 7 = true ∧ t 9 = t 7))
        (fun i v => match i with | 0 => v = .agg #[.int .i64 floor, .slice A n c] | 1 => v = .agg #[.func (.func 112) #[] #[]] | 2 => v = .slice A1 polished.length c1 | 4 => v = .agg #[.int .i64 floor, .slice A n c] | 5 => v = .agg #[.func (.func 113) #[] #[]] | 6 => v = .slice A1 polished.length c1 | _ => True)
        (fun j => undef) (by kernel_rfl) ⟨pw_below_drewN (Below.refl _ _) 1, by simp, by simp, by simp, by simp⟩ ?stepA ?doneA
      case stepA =>
        intro i hi
        have hi' : i < 10 := hi
        match i, hi' with
        | 0, _ =>
          intro L t w' hL hJ hX hdep hcl
          have q0 : w'.cell? ⟨P, 0, none⟩ = some (.int .i64 floor) := (blk_cell (blk_below H20.out hJ.1) 0).trans rfl
          have q1 : w'.cell? ⟨P, 1, none⟩ = some (.slice A n c) := (blk_cell (blk_below H20.out hJ.1) 1).trans rfl
          refine wpOpIn_step rfl (fun K hK => ?_)
          dsimp only
          go_simp
          refine hK _ _ ⟨.agg #[.int .i64 floor, .slice A n c], ?_, rfl, hJ⟩
          simp [upd]
        | 1, _ =>
          intro L t w' hL hJ hX hdep hcl
          refine wpOpIn_step rfl (fun K hK => ?_)
          dsimp only
          go_simp
          refine hK _ _ ⟨.agg #[.func (.func 112) #[] #[]], ?_, rfl, hJ⟩
          simp [upd]
        | 2, _ =>
          intro L t w' hL hJ hX hdep hcl
          refine wpOpIn_step rfl (fun K hK => ?_)
          dsimp only
          go_simp
          refine hK _ _ ⟨.slice A1 polished.length c1, ?_, rfl, hJ⟩
          simp [upd]
        | 3, _ =>
          intro L t w' hL hJ hX hdep hcl
          have x0 : t 0 = .agg #[.int .i64 floor, .slice A n c] := hX 0 (hdep _ rfl ⟨0, .data⟩ (by simp) rfl)
          have x1 : t 1 = .agg #[.func (.func 112) #[] #[]] := hX 1 (hdep _ rfl ⟨1, .data⟩ (by simp) rfl)
          have x2 : t 2 = .slice A1 polished.length c1 := hX 2 (hdep _ rfl ⟨2, .data⟩ (by simp) rfl)
          have n8 : L 8 = false := by
            cases h8 : L 8 with
            | false => rfl
            | true =>
              have h3 := hcl 8 _ rfl h8 ⟨3, .data⟩ (by simp) rfl
              rw [hL] at h3; cases h3
          have hc := Aside0.mk (HAH.out w' hJ.1)
          refine wpOpIn_step rfl (fun K hK => ?_)
          dsimp only
          simp only [x0, x1, x2]
          go_simp
          refine (callsIn_wide.2 hc.out).mono ?_
          rintro e w5 ⟨b, cv, rfl, hR, hb⟩
          refine hK _ _ ⟨.slice (some ⟨b, 0, none⟩) n cv, ?_, trivial, ⟨hJ.1.trans (hb.mono hJ.1.size), fun _ => ⟨b, cv, rfl, Kd.R_lower hR hJ.1.size⟩, fun h => ?_, fun h => (by rw [show setOn L 3 8 = L 8 from rfl, n8] at h; cases h), fun h => hJ.2.2.2.2 h⟩⟩
          · simp [upd, x0, x1, x2]
          · obtain ⟨b', cv', e', hR'⟩ := hJ.2.2.1 h; exact ⟨b', cv', e', Kd.R_below hR' hb⟩
        | 4, _ =>
          intro L t w' hL hJ hX hdep hcl
          have q0 : w'.cell? ⟨P, 0, none⟩ = some (.int .i64 floor) := (blk_cell (blk_below H20.out hJ.1) 0).trans rfl
          have q1 : w'.cell? ⟨P, 1, none⟩ = some (.slice A n c) := (blk_cell (blk_below H20.out hJ.1) 1).trans rfl
          refine wpOpIn_step rfl (fun K hK => ?_)
          dsimp only
          go_simp
          refine hK _ _ ⟨.agg #[.int .i64 floor, .slice A n c], ?_, rfl, hJ⟩
          simp [upd]
        | 5, _ =>
          intro L t w' hL hJ hX hdep hcl
          refine wpOpIn_step rfl (fun K hK => ?_)
          dsimp only
          go_simp
          refine hK _ _ ⟨.agg #[.func (.func 113) #[] #[]], ?_, rfl, hJ⟩
          simp [upd]
        | 6, _ =>
          intro L t w' hL hJ hX hdep hcl
          refine wpOpIn_step rfl (fun K hK => ?_)
          dsimp only
          go_simp
          refine hK _ _ ⟨.slice A1 polished.length c1, ?_, rfl, hJ⟩
          simp [upd]
        | 7, _ =>
          intro L t w' hL hJ hX hdep hcl
          have x4 : t 4 = .agg #[.int .i64 floor, .slice A n c] := hX 4 (hdep _ rfl ⟨4, .data⟩ (by simp) rfl)
          have x5 : t 5 = .agg #[.func (.func 113) #[] #[]] := hX 5 (hdep _ rfl ⟨5, .data⟩ (by simp) rfl)
          have x6 : t 6 = .slice A1 polished.length c1 := hX 6 (hdep _ rfl ⟨6, .data⟩ (by simp) rfl)
          have n9 : L 9 = false := by
            cases h9 : L 9 with
            | false => rfl
            | true =>
              have h7 := hcl 9 _ rfl h9 ⟨7, .data⟩ (by simp) rfl
              rw [hL] at h7; cases h7
          have hc := Aside0.mk (HAL.out w' hJ.1)
          refine wpOpIn_step rfl (fun K hK => ?_)
          dsimp only
          simp only [x4, x5, x6]
          go_simp
          refine (callsIn_wide.2 hc.out).mono ?_
          rintro e w5 ⟨b, cv, rfl, hR, hb⟩
          refine hK _ _ ⟨.slice (some ⟨b, 0, none⟩) n cv, ?_, trivial, ⟨hJ.1.trans (hb.mono hJ.1.size), fun h => ?_, fun _ => ⟨b, cv, rfl, Kd.R_lower hR hJ.1.size⟩, fun h => hJ.2.2.2.1 h, fun h => (by rw [show setOn L 7 9 = L 9 from rfl, n9] at h; cases h)⟩⟩
          · simp [upd, x4, x5, x6]
          · obtain ⟨b', cv', e', hR'⟩ := hJ.2.1 h; exact ⟨b', cv', e', Kd.R_below hR' hb⟩
        | 8, _ =>
          intro L t w' hL hJ hX hdep hcl
          have h3 := hdep _ rfl ⟨3, .data⟩ (by simp) rfl
          obtain ⟨b, cv, e3, hR⟩ := hJ.2.1 h3
          have HR := Aside0.mk hR
          clear hR
          refine wpOpIn_step rfl (fun K hK => ?_)
          dsimp only
          simp only [e3]
          go_simp
          refine hK _ _ ⟨.slice (some ⟨b, 0, none⟩) n cv, ?_, trivial, ⟨hJ.1, hJ.2.1, hJ.2.2.1, fun _ => ⟨h3, e3.symm⟩, fun h => hJ.2.2.2.2 h⟩⟩
          simp [upd, e3]
        | 9, _ =>
          intro L t w' hL hJ hX hdep hcl
          have h7 := hdep _ rfl ⟨7, .data⟩ (by simp) rfl
          obtain ⟨b, cv, e7, hR⟩ := hJ.2.2.1 h7
          have HR := Aside0.mk hR
          clear hR
          refine wpOpIn_step rfl (fun K hK => ?_)
          dsimp only
          simp only [e7]
          go_simp
          refine hK _ _ ⟨.slice (some ⟨b, 0, none⟩) n cv, ?_, trivial, ⟨hJ.1, hJ.2.1, hJ.2.2.1, fun h => hJ.2.2.2.1 h, fun _ => ⟨h7, e7.symm⟩⟩⟩
          simp [upd, e7]
        | j + 10, h => exact absurd h (by omega)
      case doneA =>
        intro L t w3 hL hJ hX
        have x0 : t 0 = .agg #[.int .i64 floor, .slice A n c] := hX 0 (by decide)
        have x1 : t 1 = .agg #[.func (.func 112) #[] #[]] := hX 1 (by decide)
        have x2 : t 2 = .slice A1 polished.length c1 := hX 2 (by decide)
        have x4 : t 4 = .agg #[.int .i64 floor, .slice A n c] := hX 4 (by decide)
        have x5 : t 5 = .agg #[.func (.func 113) #[] #[]] := hX 5 (by decide)
        have x6 : t 6 = .slice A1 polished.length c1 := hX 6 (by decide)
        obtain ⟨bh, ch, e3, hRh⟩ := hJ.2.1 (hL 3 (by decide))
        obtain ⟨bl, cl, e7, hRl⟩ := hJ.2.2.1 (hL 7 (by decide))
        have e8 := (hJ.2.2.2.1 (hL 8 (by decide))).2
        have e9 := (hJ.2.2.2.2 (hL 9 (by decide))).2
        rw [e3] at e8
        rw [e7] at e9
        have hb3 := hJ.1
        try dsimp only
        simp only [x0, x1, x2, x4, x5, x6, e3, e7, e8, e9]
        have HRH := Aside0.mk hRh
        have HRL := Aside0.mk hRl
        have HB3 := Aside0.mk hb3
        clear x0 x1 x2 x4 x5 x6 e3 e7 e8 e9 hX hJ hL hRh hRl hb3
        have hmk : ∀ W : World, (Instr.makeSlice 85 (.int .i64 (n : Int)) (.int .i64 (n : Int))).run Tryz.prog W = .ok (.slice (some ⟨W.heap.size, 0, none⟩) n n) (W.alloc (.cells (madeCells #[.int .i64 0, .int .i64 0] (n * 2)) 98)) := fun W => mk_ranges n (by omega) W
        gi_wp2
        obtain ⟨N3, hN3⟩ : ∃ N3, N3 = w3.heap.size := ⟨_, rfl⟩
        rw [← hN3]
        obtain ⟨wL, hwL⟩ : ∃ wL, wL = w3.alloc (.cells (madeCells #[.int .i64 0, .int .i64 0] (n * 2)) 98) := ⟨_, rfl⟩
        rw [← hwL]
        have hbw3 : Below w.heap.size w w3 := HB2.out.trans (HB3.out.mono HB2.out.size)
        have hRL : k98.R 98 wL w.heap.size (fun _ => True) (.slice (some ⟨N3, 0, none⟩) n n) (rngK loss polished 0) := by
          rw [rngK_zero, ← HN.out]
          exact R_ranges (by rw [hN3]; exact hbw3.size) (by rw [hwL, hN3]; exact blk_new w3 _) (by omega)
        have hbL : Below w3.heap.size w3 wL := by rw [hwL]; exact below_alloc (Below.refl _ _) _
        have HRL0 := Aside0.mk hRL
        have HBL0 := Aside0.mk hbL
        have HBW3 := Aside0.mk hbw3
        have HN3 := Aside0.mk hN3
        clear hwL hbw3 hRL hbL hN3 hmk
        gi_loopw [36] (fun s36 wr => ∃ kk : Nat, kk ≤ n ∧ s36 = .int .i64 kk ∧ Aside0 (k98.R 98 wr w.heap.size (fun _ => True) (.slice (some ⟨N3, 0, none⟩) n n) (rngK loss polished kk)) ∧ Aside0 (Below w3.heap.size w3 wr))
          (fun s36 _ => n - (intOf s36).toNat)
        case atStart => exact ⟨0, Nat.zero_le _, rfl, HRL0, HBL0⟩
        case round =>
          obtain ⟨kk, hkk, rfl, HRr, HBr⟩ := hrel
          by_cases hlt : kk < n
          · have hltz : (kk : Int) < (n : Int) := by omega
            obtain ⟨ch0, fh0⟩ := Kd.R_celln (0 : Int) (Kd.R_below HRH.out HBr.out) (kk : Int) (by omega) (by omega)
            obtain ⟨cl0, fl0⟩ := Kd.R_celln (0 : Int) (Kd.R_below HRL.out HBr.out) (kk : Int) (by omega) (by omega)
            obtain ⟨cs, hcl, hcM, hcc, hcf⟩ := Kd.R_elem HRr.out z98 (kk : Int) (by omega) (by omega)
            have HEL := Aside0.mk (And.intro hcl hcc)
            obtain ⟨e0, e1, hcs⟩ : ∃ e0 e1, cs = [e0, e1] := by
              have h2 : cs.length = 2 := hcl
              match cs, h2 with
              | [a, b], _ => exact ⟨a, b, rfl⟩
            subst hcs
            have o0 : wr.cell? ⟨N3, kk * 2, none⟩ = some e0 := by have := hcc 0 e0 rfl; simpa [k98, Kd.iso, Kd.pair, Kd.int, Kd.scalar] using this
            have o1 : wr.cell? ⟨N3, kk * 2 + 1, none⟩ = some e1 := by have := hcc 1 e1 rfl; simpa [k98, Kd.iso, Kd.pair, Kd.int, Kd.scalar] using this
            have p0 : wr.frozen? ⟨N3, kk * 2, none⟩ = false := by have := hcf 0; simpa [k98, Kd.iso, Kd.pair, Kd.int, Kd.scalar] using this
            have p1 : wr.frozen? ⟨N3, kk * 2 + 1, none⟩ = false := by have := hcf 1; simpa [k98, Kd.iso, Kd.pair, Kd.int, Kd.scalar] using this
            simp only [Int.toNat_natCast] at ch0 cl0 fh0 fl0
            have hvh : rdOf (0 : Int) dh (kk : Int) = (rngAt loss polished kk).f0 := by rw [HDH.out]; simp [rdOf, dimS, rngAt, show kk < loss.length by rw [← HN.out]; exact hlt]
            have hvl : rdOf (0 : Int) dl (kk : Int) = (rngAt loss polished kk).f1 := by rw [HDL.out]; simp [rdOf, dimS, rngAt, show kk < loss.length by rw [← HN.out]; exact hlt]
            rw [hvh] at ch0
            rw [hvl] at cl0
            obtain ⟨rg, hrg⟩ : ∃ rg, rg = rngAt loss polished kk := ⟨_, rfl⟩
            rw [← hrg] at ch0 cl0
            have HRG := Aside0.mk hrg
            clear hcl hcM hcc hcf hvh hvl hrg
            gi_wp2
            go_roundw
            case measure => simp [intOf]; omega
            case rel =>
              have hseg := (Kd.R_seg HRr.out (kk : Int) (by omega) (by omega) (c := [e0, e1]) (seg := [.int .i64 rg.f0, .int .i64 rg.f1]) (j := 0) HEL.out.1 HEL.out.2 (Nat.le_refl 2) (x' := rg) (okp := fun _ => False) (k98_mkM wr _ _ rg) (fun _ h => h.elim)).1
              have hset : (rngK loss polished kk).set (kk : Int).toNat rg = rngK loss polished (kk + 1) := by rw [HRG.out]; exact rngK_set loss polished kk (by rw [← HN.out]; exact hlt)
              rw [hset] at hseg
              have hN3b : w3.heap.size ≤ N3 := by rw [HN3.out]; exact Nat.le_refl _
              exact ⟨kk + 1, by omega, by go_num, ⟨by simpa [World.setCells, k98, Kd.iso, Kd.pair, Kd.int, Kd.scalar] using hseg⟩, ⟨below_set1 (below_set1 HBr.out hN3b _ _) hN3b _ _⟩⟩
          · have hltz : ¬ (kk : Int) < (n : Int) := by omega
            obtain rfl : kk = n := by omega
            gi_wp2
            have hb : bs = (rngK loss polished kk, 0) := by rw [HBS.out, brightS, if_neg (by rw [← HPE.out]; simp), if_neg (by rw [← HIB.out]; simp), HN.out, rngK_full]
            subst hb
            refine bodyPost_ret (v := .tuple #[.slice (some ⟨N3, 0, none⟩) kk kk, .int .i64 0]) (by simp [results, Tryz.results44, go_sem]) rfl ⟨_, rfl, HRr.out, HBW3.out.trans (HBr.out.mono HBW3.out.size)⟩
  · have bz : (pe != 0) = true := by rw [bne_iff_ne]; exact hz
    have HZ := Aside0.mk hz
    have HG1 := Aside0.mk hgw1
    clear h10 hgw1 hg1 HCHK hz
    gi_wp2
    have hb : bs = ([], pe) := by rw [HBS.out, brightS, if_pos (by rw [← HPE.out]; exact HZ.out), ← HPE.out]
    subst hb
    refine bodyPost_ret (v := .tuple #[.slice none 0 0, .int .i64 pe]) (by simp [results, Tryz.results44, go_sem]) rfl ⟨.slice none 0 0, rfl, Kd.R_nil _ _ _ _ _, below_none HG1.out⟩
end Go.Proofs.YtekdacalkllipaaGreat.PR
end
section
namespace Go.Proofs.YtekdacalkllipaaGreat.PR
open Go.RowKit Go.Shelf Go.Proofs.YtekdacalkllipaaGreatW.PrintWords Go.Proofs.YtekdacalkllipaaGreatW.PrintLast Go.Proofs.YtekdacalkllipaaGreatW.PrintMore
set_option linter.unusedVariables false
set_option linter.unusedSimpArgs false
theorem run_copy_ints {P : Program} {W : World} (base : Nat) (t t' ty e : TypeId) (hinfo : (P.info? e).map (·.size) = some 1) (ht : P.underlying t = some (.slice e))
    (v : Value) (xs ys : List Int) (A : Option Addr) (m c : Nat) (ok : Nat → Prop) (HO : (Kd.int .i64).R e W base ok v xs) (HR : (Kd.int .i64).C W A m ys) :
    ∃ w1, (Builtin.copy_ #[t, t'] ty #[v, .slice A m c]).run P W = .ok (goInt ((min m xs.length : Nat) : Int)) w1 ∧ (Kd.int .i64).R e w1 base ok v (ys.take (min m xs.length) ++ xs.drop (min m xs.length)) ∧ W.grownBy w1 v.ownBlock := by
  have hR := Kd.reads_of_C (enc := Value.int .i64) (d := (0 : Int)) (h1 := fun _ => rfl) HR
  have hm : ys.length = m := hR.1
  have hown := Kd.own_of_R HO
  rcases Nat.eq_zero_or_pos (min m xs.length) with h0 | hp
  · obtain ⟨A', c', hv⟩ := own_slice hown
    refine ⟨W, ?_, by rw [h0, List.take_zero, List.drop_zero, List.nil_append]; exact HO, World.grownBy.refl W _⟩
    rw [h0, hv]
    exact run_copy_none W t t' ty e A' A xs.length c' m c ht hinfo h0
  · obtain ⟨ad, hA, hc⟩ := hR.2.2 (by omega)
    rcases hown.2 with ⟨_, hx0⟩ | ⟨g, cap, cur, hv, hb, hh, hnc, hcm, hcs, htake⟩
    · omega
    have hcs1 : cur.size = cap := by omega
    have hsrc : ∀ j u, (encs (Value.int .i64) (ys.take (min m xs.length)))[j]? = some u → W.cell? (ad.add j) = some u := by
      intro j u hu
      have hj : j < (ys.take (min m xs.length)).length := by
        rcases Nat.lt_or_ge j (ys.take (min m xs.length)).length with h | h
        · exact h
        · rw [List.getElem?_eq_none (by rw [encs_length]; exact h)] at hu
          cases hu
      have hjm : j < min m xs.length := by rw [List.length_take] at hj; omega
      rw [encs_get (d := (0 : Int)) _ j hj] at hu
      rw [hc j (by omega), ← hu]
      simp [List.getD_eq_getElem?_getD, hjm]
    have hkl : (encs (Value.int .i64) (ys.take (min m xs.length))).length = min m xs.length := by rw [encs_length, List.length_take]; omega
    have hr := run_copy_cells (P := P) W t t' ty e g 0 xs.length cap ad m c (encs (Value.int .i64) (ys.take (min m xs.length))) ht hinfo (by rw [hkl]) hsrc
      (fun j hj => by rw [cell_of_row W g _ cur e (0, 0) hh]; simp; omega) (fun j _ => blk_frozen hh _) (by intro u hu; simp only [encs, List.mem_map] at hu; obtain ⟨q, _, rfl⟩ := hu; rfl)
    obtain ⟨cur', h3, h4, h5⟩ := setCells_row (encs (Value.int .i64) (ys.take (min m xs.length))) 0 W cur hh (by rw [hkl]; omega)
    obtain ⟨s1, s2, s3, s4⟩ := setCells_same g (encs (Value.int .i64) (ys.take (min m xs.length))) 0 W
    refine ⟨_, by rw [hv, hA, hr, hkl], Kd.R_of_own ?_ HO.1, ⟨s1, s2, s3, by rw [s4]; exact Nat.le_refl _, fun k _ hk => setCells_far _ _ k (fun he => hk (by rw [hv, he]; simp [Value.ownBlock]))⟩⟩
    have hln : (ys.take (min m xs.length) ++ xs.drop (min m xs.length)).length = xs.length := by
      rw [List.length_append, List.length_take, List.length_drop]
      omega
    rw [hln]
    refine ⟨by rw [encs_length, hln, Nat.mul_one], .inr ⟨g, cap, cur', hv, hb, h3, hnc, hcm, by rw [h4, hcs], ?_⟩⟩
    rw [h5, List.take_zero, List.nil_append, hkl, Nat.zero_add, encs_append, Nat.mul_one]
    rw [List.take_append, hkl, List.take_of_length_le (by rw [hkl]; omega)]
    congr 1
    have htk : cur.toList.take xs.length = encs (Value.int .i64) xs := by rw [← htake, Nat.mul_one]
    have hd : encs (Value.int .i64) (xs.drop (min m xs.length)) = (encs (Value.int .i64) xs).drop (min m xs.length) := by simp [encs, List.map_drop]
    rw [hd, ← htk, List.drop_take]
theorem copy_wpIn {F : Fence} {n : Nat} {P : Program} {o : Oper} {a : Act} {w w1 : World} {K : Act → World → Prop} {Q : Exit → Act → World → Prop} {s x : Operand} {t t' : TypeId} {v xv v1 : Value}
    (ho : o.op = .call { callee := .builtin .copy, args := #[s, x], argTypes := #[t, t'] }) (hs : a.eval s = v) (hx : a.eval x = xv) (hrun : (Builtin.copy_ #[t, t'] o.type #[v, xv]).run P w = .ok v1 w1) (h : K (a.put o.dst v1) w1) : o.wpIn F n P a w K Q := by
  unfold Oper.wpIn
  refine ⟨by simp [Oper.about, ho, resolve, Target.leads, Sem.run_pure], ?_⟩
  rw [Oper.semAt_plain F _ _ (by rw [ho]; intro c hc'; cases hc')]
  simp [execOp, ho, resolve, invoke, builtin, hs, hx, hrun, Result.andThen]
  exact h
theorem run_append_int {P : Program} {W : World} (base : Nat) (t ty e : TypeId) (hinfo : (P.info? e).map (fun i => (i.zero, i.size, i.bytes)) = some (some (.int .i64 0), 1, 8)) (ht : P.underlying t = some (.slice e))
    (v : Value) (xs : List Int) (x : Int) (b : Nat) (HO : (Kd.int .i64).R e W base (fun _ => True) v xs) (hx : W.cell? ⟨b, 0, none⟩ = some (.int .i64 x)) (hbase : base ≤ W.heap.size) (hl : xs.length < 1000) :
    ∃ v1 w1, (Builtin.append_ #[t, t] ty #[v, .slice (some ⟨b, 0, none⟩) 1 1]).run P W = .ok v1 w1 ∧ (Kd.int .i64).R e w1 base (fun _ => True) v1 (xs ++ [x]) ∧ W.grownBy w1 v.ownBlock := by
  obtain ⟨i0, hi, hzz⟩ := Option.map_eq_some_iff.1 hinfo
  simp only [Prod.mk.injEq] at hzz
  obtain ⟨hz0, hz1, hz2⟩ := hzz
  have hown := Kd.own_of_R HO
  obtain ⟨v1, w1, hrun, h2, hg, _, hat⟩ := run_append_own_at (P := P) W base t ty e i0 (.int .i64 0) 1 8 ht hi hz0 hz1 hz2 rfl (by omega) v xs.length (encs (Value.int .i64) xs) hown ⟨b, 0, none⟩ 1 1 [.int .i64 x] rfl
    (by
      intro j u hj
      cases j with
      | zero => cases hj; rw [add_plain]; exact hx
      | succ j => simp at hj) (by intro u hu; obtain rfl := List.mem_singleton.1 hu; rfl) (by unfold maxLen; omega) (by omega) hbase
  refine ⟨v1, w1, hrun, Kd.R_of_own ?_ (fun _ _ => trivial), hg⟩
  have : encs (Value.int .i64) (xs ++ [x]) = encs (Value.int .i64) xs ++ [.int .i64 x] := by simp [encs]
  rw [this, List.length_append, List.length_singleton]
  exact h2
def addS (floor : Int) (loss : List S98) : Nat → List Int → Nat → Option (List Int)
  | 0, l, _ => if stayB floor loss l then some l else none
  | m + 1, l, frm => ((List.range loss.length).filter (fun i => decide (frm ≤ i))).findSome? fun (i : Nat) => addS floor loss m (l ++ [(i : Int)]) (i + 1)
def polishS (floor : Int) (loss : List S98) : List Int × Int :=
  if mirErr floor loss ≠ 0 then ([], mirErr floor loss)
  else if stayB floor loss (evs loss.length) = false then ([], 10)
  else (((List.range (loss.length + 1)).findSome? fun m => addS floor loss m [] 0).getD (evs loss.length), 0)
theorem find_from {α : Type} {n frm i : Nat} {f : Nat → Option α} {a : α} (h0 : frm ≤ i) (hi : i < n) (h1 : ∀ j, frm ≤ j → j < i → f j = none) (h2 : f i = some a) : ((List.range n).filter (fun i => decide (frm ≤ i))).findSome? f = some a := by
  obtain ⟨r, hr⟩ : ∃ r, List.range n = List.range i ++ i :: r := by
    refine ⟨(List.range n).drop (i + 1), ?_⟩
    have h3 : (List.range n)[i]'(by simpa using hi) = i := by simp
    have h4 := List.take_append_drop i (List.range n)
    rw [List.drop_eq_getElem_cons (by simpa using hi), h3] at h4
    rw [List.take_range, Nat.min_eq_left (Nat.le_of_lt hi)] at h4
    exact h4.symm
  rw [hr, List.filter_append, List.findSome?_append]
  have h5 : ((List.range i).filter (fun i => decide (frm ≤ i))).findSome? f = none := by
    rw [List.findSome?_eq_none_iff]
    intro j hj
    simp only [List.mem_filter, List.mem_range, decide_eq_true_eq] at hj
    exact h1 j hj.2 hj.1
  rw [h5, List.filter_cons, if_pos (by simpa using h0)]
  simp [h2]
theorem find_none {α : Type} {n frm : Nat} {f : Nat → Option α} (h1 : ∀ j, frm ≤ j → j < n → f j = none) : ((List.range n).filter (fun i => decide (frm ≤ i))).findSome? f = none := by
  rw [List.findSome?_eq_none_iff]
  intro j hj
  simp only [List.mem_filter, List.mem_range, decide_eq_true_eq] at hj
  exact h1 j hj.2 hj.1
end Go.Proofs.YtekdacalkllipaaGreat.PR
end
section
namespace Go.Proofs.YtekdacalkllipaaGreat.PR
open Go.RowKit Go.Shelf Go.Proofs.YtekdacalkllipaaGreatW.PrintWords Go.Proofs.YtekdacalkllipaaGreatW.PrintLast Go.Proofs.YtekdacalkllipaaGreatW.PrintMore
set_option linter.unusedVariables false
set_option linter.unusedSimpArgs false
attribute [local go_sem] Oper.semAt_some
attribute [local simp] wide_fn
structure Px where
  w00 : World
  floor : Int
  A0 : Option Addr
  c0 : Nat
  loss : List S98
  BM : Nat
  BB : Nat
  BF : Nat
  g : Nat
structure Px.Ok (x : Px) : Prop where
  C : k98.C x.w00 x.A0 x.loss.length x.loss
  e : mirErr x.floor x.loss = 0
  B : x.w00.heap.size ≤ x.BB
structure Px.Ps (x : Px) (W : World) (xs : List Int) : Prop where
  old : Below x.w00.heap.size x.w00 W
  bM : W.heap[x.BM]? = some (.cells #[.int .i64 x.floor, .slice x.A0 x.loss.length x.c0] 89 (0, 0))
  bF : W.heap[x.BF]? = some (.cells #[.func (.func 115) #[] #[.pointer (some ⟨x.BM, 0, none⟩), .pointer (some ⟨x.BB, 0, none⟩), .pointer (some ⟨x.BF, 0, none⟩)]] 178 (0, 0))
  bB : W.heap[x.BB]? = some (.cells #[.slice (some ⟨x.g, 0, none⟩) xs.length x.loss.length] 22 (0, 0))
  R : (Kd.int .i64).R 3 W x.w00.heap.size (fun _ => True) (.slice (some ⟨x.g, 0, none⟩) xs.length x.loss.length) xs
theorem Px.Ps.below {x : Px} {W W' : World} {xs : List Int} (h : x.Ps W xs) (hb : Below W.heap.size W W') : x.Ps W' xs :=
  ⟨h.old.trans (hb.mono h.old.size), blk_below h.bM hb, blk_below h.bF hb, blk_below h.bB hb, Kd.R_below h.R hb⟩
def AddPost (x : Px) (r : Option (List Int)) (w : World) (e : Ending) (w' : World) : Prop := e = .returned (.bool r.isSome) ∧ x.Ps w' (r.getD (evs x.loss.length)) ∧ (r = none → Below w.heap.size w w')
def Add (x : Px) (m : Nat) : Prop := ∀ (l : List Int) (A : Option Addr) (c : Nat) (frm : Nat) (w : World), (Kd.int .i64).C w A l.length l → l.length ≤ c → l.length ≤ frm → frm ≤ x.loss.length → m ≤ 8 → x.Ps w (evs x.loss.length) →
  Calls Tryz.prog 115 #[.slice A l.length c, .int .i64 (frm : Int), .int .i64 (m : Int), .pointer (some ⟨x.BM, 0, none⟩), .pointer (some ⟨x.BB, 0, none⟩), .pointer (some ⟨x.BF, 0, none⟩)] w (AddPost x (addS x.floor x.loss m l frm) w)
set_option maxRecDepth 100000 in
set_option maxHeartbeats 4000000 in
theorem add_zero (x : Px) (hx : x.Ok) : Add x 0 := by
  intro l A c frm w hC hc hl hf hm hps
  obtain ⟨hk8, hk0, hfl, hlo⟩ := mirErr_ok hx.e
  obtain ⟨ln, hln⟩ : ∃ ln, ln = l.length := ⟨_, rfl⟩
  obtain ⟨n, hn⟩ : ∃ n, n = x.loss.length := ⟨_, rfl⟩
  have hln8 : ln ≤ n := by omega
  have hbr := mbright_any x.floor x.A0 x.c0 x.loss A c l w (Kd.C_below hx.C hps.old) hC hc hx.e
  have q0 : w.cell? ⟨x.BM, 0, none⟩ = some (.int .i64 x.floor) := (blk_cell hps.bM 0).trans rfl
  have q1 : w.cell? ⟨x.BM, 1, none⟩ = some (.slice x.A0 x.loss.length x.c0) := (blk_cell hps.bM 1).trans rfl
  obtain ⟨sb, hsb⟩ : ∃ sb, sb = stayB x.floor x.loss l := ⟨_, rfl⟩
  obtain ⟨r, hr⟩ : ∃ r, r = addS x.floor x.loss 0 l frm := ⟨_, rfl⟩
  rw [← hr]
  have HR : Aside0 (r = if sb then some l else none) := ⟨by rw [hr, addS, hsb]⟩
  rw [← hsb] at hbr
  rw [← hln, ← hn] at hbr
  rw [← hn] at q1 hk8 hk0
  rw [← hln]
  have HBR := Aside0.mk hbr
  have HPS := Aside0.mk hps
  have HX := Aside0.mk hx
  have HC := Aside0.mk hC
  have HLN := Aside0.mk hln
  have HN := Aside0.mk hn
  clear hbr hps hx hC hc hln hn hsb hr hl hf hlo
  refine (callsIn_wide (n := 10)).1 ?_
  rw [show ((0 : Nat) : Int) = 0 from rfl]
  refine callsIn_of_wp Tryz.func115 rfl trivial ?_ rfl
  simp only [Tryz.ntmps115, List.size_toArray, List.length_cons, List.length_nil, Nat.reduceAdd, Nat.reduceSub, Array.replicate_succ, Array.replicate_zero, List.push_toArray, List.append_toArray, List.nil_append, List.cons_append]
  gi_wp2_with fail
  refine (callsIn_wide.2 HBR.out).mono ?_
  rintro e w1 ⟨rfl, hg⟩
  have HB1 := Aside0.mk (below_none hg)
  clear hg q0 q1
  cases sb with
  | false =>
    gi_wp2
    go_ret
    have hr : r = none := HR.out
    subst hr
    exact And.intro rfl (And.intro (HPS.out.below HB1.out) (fun _ => HB1.out))
  | true =>
    have hps1 := HPS.out.below HB1.out
    obtain ⟨wd, hwd⟩ : ∃ wd, wd = w1.drew := ⟨_, rfl⟩
    have hpsd : x.Ps wd (evs x.loss.length) := by rw [hwd]; exact hps1.below (below_drew (Below.refl _ _))
    have hCd : (Kd.int .i64).C wd A ln l := by
      have h := Kd.C_below (Kd.C_below HC.out HB1.out) (below_drew (Below.refl _ _))
      rw [← hwd, ← HLN.out] at h
      exact h
    have hbB := hpsd.bB
    have hRR := hpsd.R
    rw [evs_len, ← HN.out] at hbB hRR
    have HPD := Aside0.mk (And.intro hpsd (And.intro hbB (And.intro hRR hCd)))
    have HWD := Aside0.mk hwd
    have hgb : x.g ≠ x.BB := by
      obtain ⟨cs, hcs⟩ := Kd.R_typed hRR x.g rfl
      exact ty_ne hcs hbB (by decide)
    have hln0 : (0 : Int) ≤ (ln : Int) := by omega
    have hlni : (ln : Int) ≤ (n : Int) := by omega
    clear hps1 hpsd hbB hRR hCd hwd
    gi_wp2
    refine region_mk (by kernel_rfl) (fun t => { tmps := #[.slice A ln c, .int .i64 (frm : Int), .int .i64 0, .pointer (some ⟨x.BM, 0, none⟩), .pointer (some ⟨x.BB, 0, none⟩), .pointer (some ⟨x.BF, 0, none⟩), undef, undef, undef, .bool false, undef, .int .i64 0, .bool true, .agg #[.int .i64 x.floor, .slice x.A0 n x.c0], .slice A ln c, .bool true, .bool false, t 0, t 1, t 2, t 3, t 4, undef, undef, undef, undef, undef, undef, undef, undef, undef, undef, undef, undef, undef, undef, undef, undef, undef, undef, undef], defers := [] })
      (fun L t w' => (L 3 = false → w' = wd) ∧ (L 3 = true → L 5 = false → wd.grownBy w' (some x.g) ∧ (Kd.int .i64).R 3 w' x.w00.heap.size (fun _ => True) (.slice (some ⟨x.g, 0, none⟩) n n) (l ++ (evs n).drop ln)) ∧ (L 5 = true → ∃ we, wd.grownBy we (some x.g) ∧ (Kd.int .i64).R 3 we x.w00.heap.size (fun _ => True) (.slice (some ⟨x.g, 0, none⟩) n n) (l ++ (evs n).drop ln) ∧ w' = we.setCell ⟨x.BB, 0, none⟩ (.slice (some ⟨x.g, 0, none⟩) ln n)))
      (fun ix v => match ix with | 0 => v = .slice (some ⟨x.g, 0, none⟩) n n | 1 => v = .slice (some ⟨x.g, 0, none⟩) n n | 2 => v = .slice A ln c | 3 => v = .int .i64 (ln : Int) | 4 => v = .slice (some ⟨x.g, 0, none⟩) ln n | 5 => True | _ => True)
      (fun j => undef) (by kernel_rfl) ⟨fun _ => HWD.out.symm, by simp, by simp⟩ ?stepA ?doneA
    case stepA =>
      intro ix hix
      have hi' : ix < 6 := hix
      match ix, hi' with
      | 0, _ =>
        intro L t w' hL hJ hX hdep hcl
        have n5 : L 5 = false := by
          cases h5 : L 5 with
          | false => rfl
          | true =>
            have h4 := hcl 5 _ rfl h5 ⟨4, .data⟩ (by simp) rfl
            have h0 := hcl 4 _ rfl h4 ⟨0, .data⟩ (by simp) rfl
            rw [hL] at h0; cases h0
        have q : w'.cell? ⟨x.BB, 0, none⟩ = some (.slice (some ⟨x.g, 0, none⟩) n n) := by
          cases h3 : L 3 with
          | true => exact (blk_cell (blk_grown HPD.out.2.1 (hJ.2.1 h3 n5).1 (fun r e => by cases e; exact hgb)) 0).trans rfl
          | false => rw [hJ.1 h3]; exact (blk_cell HPD.out.2.1 0).trans rfl
        refine wpOpIn_step rfl (fun K hK => ?_)
        dsimp only
        go_simp
        refine hK _ _ ⟨.slice (some ⟨x.g, 0, none⟩) n n, ?_, rfl, hJ⟩
        simp [upd]
      | 1, _ =>
        intro L t w' hL hJ hX hdep hcl
        have n5 : L 5 = false := by
          cases h5 : L 5 with
          | false => rfl
          | true =>
            have h4 := hcl 5 _ rfl h5 ⟨4, .data⟩ (by simp) rfl
            have h3 := hcl 4 _ rfl h4 ⟨3, .data⟩ (by simp) rfl
            have h1 := hcl 3 _ rfl h3 ⟨1, .data⟩ (by simp) rfl
            rw [hL] at h1; cases h1
        have q : w'.cell? ⟨x.BB, 0, none⟩ = some (.slice (some ⟨x.g, 0, none⟩) n n) := by
          cases h3 : L 3 with
          | true => exact (blk_cell (blk_grown HPD.out.2.1 (hJ.2.1 h3 n5).1 (fun r e => by cases e; exact hgb)) 0).trans rfl
          | false => rw [hJ.1 h3]; exact (blk_cell HPD.out.2.1 0).trans rfl
        refine wpOpIn_step rfl (fun K hK => ?_)
        dsimp only
        go_simp
        refine hK _ _ ⟨.slice (some ⟨x.g, 0, none⟩) n n, ?_, rfl, hJ⟩
        simp [upd]
      | 2, _ =>
        intro L t w' hL hJ hX hdep hcl
        refine wpOpIn_step rfl (fun K hK => ?_)
        dsimp only
        go_simp
        refine hK _ _ ⟨.slice A ln c, ?_, rfl, hJ⟩
        simp [upd]
      | 3, _ =>
        intro L t w' hL hJ hX hdep hcl
        have x1 : t 1 = .slice (some ⟨x.g, 0, none⟩) n n := hX 1 (hdep _ rfl ⟨1, .data⟩ (by simp) rfl)
        have x2 : t 2 = .slice A ln c := hX 2 (hdep _ rfl ⟨2, .data⟩ (by simp) rfl)
        have n5 : L 5 = false := by
          cases h5 : L 5 with
          | false => rfl
          | true =>
            have h4 := hcl 5 _ rfl h5 ⟨4, .data⟩ (by simp) rfl
            have h3 := hcl 4 _ rfl h4 ⟨3, .data⟩ (by simp) rfl
            rw [hL] at h3; cases h3
        obtain rfl := hJ.1 hL
        obtain ⟨w1', hrun, hR1, hg1⟩ := run_copy_ints (P := Tryz.prog) x.w00.heap.size 22 22 3 3 (by kernel_rfl) rfl (.slice (some ⟨x.g, 0, none⟩) n n) (evs n) l A ln c (fun _ => True) (by rw [HN.out]; exact (by have h := HPD.out.2.2.1; rw [HN.out] at h; exact h)) HPD.out.2.2.2
        have hmin : min ln (evs n).length = ln := by rw [evs_len]; omega
        rw [hmin] at hrun hR1
        have htk : l.take ln = l := by rw [HLN.out, List.take_length]
        rw [htk] at hR1
        have HR1 := Aside0.mk hR1
        have HG1 := Aside0.mk hg1
        clear hR1 hg1 hmin htk
        refine wpOpIn_step rfl (fun K hK => ?_)
        dsimp only
        simp only [x1, x2]
        refine copy_wpIn rfl rfl rfl hrun ?_
        go_simp
        refine hK _ w1' ⟨.int .i64 (ln : Int), ?_, rfl, ⟨fun h => (by simp [setOn] at h), fun _ _ => ⟨HG1.out, HR1.out⟩, fun h => (by rw [show setOn L 3 5 = L 5 from rfl, n5] at h; cases h)⟩⟩
        simp [upd, x1, x2, goInt]
      | 4, _ =>
        intro L t w' hL hJ hX hdep hcl
        have x0 : t 0 = .slice (some ⟨x.g, 0, none⟩) n n := hX 0 (hdep _ rfl ⟨0, .data⟩ (by simp) rfl)
        have x3 : t 3 = .int .i64 (ln : Int) := hX 3 (hdep _ rfl ⟨3, .data⟩ (by simp) rfl)
        refine wpOpIn_step rfl (fun K hK => ?_)
        dsimp only
        simp only [x0, x3]
        go_simp
        refine hK _ _ ⟨.slice (some ⟨x.g, 0, none⟩) ln n, ?_, rfl, hJ⟩
        simp [upd, x0, x3]
      | 5, _ =>
        intro L t w' hL hJ hX hdep hcl
        have x4 : t 4 = .slice (some ⟨x.g, 0, none⟩) ln n := hX 4 (hdep _ rfl ⟨4, .data⟩ (by simp) rfl)
        have l4 : L 4 = true := hdep _ rfl ⟨4, .data⟩ (by simp) rfl
        have l0 : L 0 = true := hcl 4 _ rfl l4 ⟨0, .data⟩ (by simp) rfl
        have l3 : L 3 = true := hcl 4 _ rfl l4 ⟨3, .data⟩ (by simp) rfl
        have l1 : L 1 = true := hcl 3 _ rfl l3 ⟨1, .data⟩ (by simp) rfl
        have l2 : L 2 = true := hcl 3 _ rfl l3 ⟨2, .data⟩ (by simp) rfl
        obtain ⟨hg1, hR1⟩ := hJ.2.1 l3 hL
        have hbb : w'.heap[x.BB]? = some (.cells #[.slice (some ⟨x.g, 0, none⟩) n n] 22 (0, 0)) := blk_grown HPD.out.2.1 hg1 (fun r e => by cases e; exact hgb)
        have q : w'.cell? ⟨x.BB, 0, none⟩ = some (.slice (some ⟨x.g, 0, none⟩) n n) := (blk_cell hbb 0).trans rfl
        have qf : w'.frozen? ⟨x.BB, 0, none⟩ = false := blk_frozen hbb 0
        have HR1 := Aside0.mk hR1
        have HG1 := Aside0.mk hg1
        clear hR1 hg1 hbb
        refine wpOpIn_step rfl (fun K hK => ?_)
        dsimp only
        simp only [x4]
        go_simp
        refine hK _ (w'.setCell ⟨x.BB, 0, none⟩ (.slice (some ⟨x.g, 0, none⟩) ln n)) ⟨undef, ?_, trivial, ⟨fun h => (by rw [show setOn L 5 3 = L 3 from rfl, l3] at h; cases h), fun _ h => (by simp [setOn] at h), fun _ => ⟨w', HG1.out, HR1.out, rfl⟩⟩⟩
        simp [upd, x4]
      | j + 6, h => exact absurd h (by omega)
    case doneA =>
      intro L t w9 hL hJ hX
      have x0 : t 0 = .slice (some ⟨x.g, 0, none⟩) n n := hX 0 (by decide)
      have x1 : t 1 = .slice (some ⟨x.g, 0, none⟩) n n := hX 1 (by decide)
      have x2 : t 2 = .slice A ln c := hX 2 (by decide)
      have x3 : t 3 = .int .i64 (ln : Int) := hX 3 (by decide)
      have x4 : t 4 = .slice (some ⟨x.g, 0, none⟩) ln n := hX 4 (by decide)
      obtain ⟨we, hge, hRe, rfl⟩ := hJ.2.2 (hL 5 (by decide))
      try dsimp only
      simp only [x0, x1, x2, x3, x4]
      have HGE := Aside0.mk hge
      have HRE := Aside0.mk hRe
      clear x0 x1 x2 x3 x4 hX hJ hL hge hRe
      gi_wp2
      go_ret
      have hr : r = some l := HR.out
      subst hr
      refine And.intro rfl (And.intro ?_ (fun h => by cases h))
      show x.Ps _ l
      have hp := HPD.out.1
      have hbb : we.heap[x.BB]? = some (.cells #[.slice (some ⟨x.g, 0, none⟩) n n] 22 (0, 0)) := blk_grown HPD.out.2.1 HGE.out (fun r e => by cases e; exact hgb)
      have hty := Kd.R_typed HRE.out x.g rfl
      obtain ⟨cs, hcs⟩ := hty
      have hmv : ∀ (b : Nat) (cs : Array Value) (t : TypeId), wd.heap[b]? = some (.cells cs t (0, 0)) → t ≠ 3 → t ≠ 22 → (we.setCell ⟨x.BB, 0, none⟩ (.slice (some ⟨x.g, 0, none⟩) ln n)).heap[b]? = some (.cells cs t (0, 0)) := fun b cs t h h1 h2 => by
        have hgw := Kd.R_typed HPD.out.2.2.1 x.g rfl
        obtain ⟨cs', hcs'⟩ := hgw
        exact blk_far (blk_grown h HGE.out (fun r e => by cases e; exact (ty_ne h hcs' h1).symm)) (ty_ne h HPD.out.2.1 h2) _
      have hbase := Kd.R_base HPD.out.2.2.1 x.g rfl
      refine ⟨below_set1 (hp.old.grown HGE.out hp.old.size (fun r e => by cases e; exact hbase)) HX.out.B 0 _, hmv _ _ _ hp.bM (by decide) (by decide), hmv _ _ _ hp.bF (by decide) (by decide), ?_, ?_⟩
      · rw [← HLN.out, ← HN.out]; exact cellset hbb
      · rw [← HLN.out, ← HN.out]
        have h1 : (Kd.int .i64).R 3 we x.w00.heap.size (fun _ => True) (.slice (some ⟨x.g, 0, none⟩) ln n) l := by
          have h2 := Kd.R_take (m := ln) HRE.out (by rw [List.length_append, ← HLN.out]; omega)
          have h3 : (l ++ (evs n).drop ln).take ln = l := by rw [List.take_append_of_le_length (by rw [← HLN.out]; exact Nat.le_refl _), HLN.out, List.take_length]
          rw [h3] at h2
          exact h2
        exact Kd.R_set h1 hbb (by intro q hq; simp only [Kd.int, Kd.scalar, List.mem_cons, List.not_mem_nil, or_false] at hq; omega) 0 _
set_option maxRecDepth 100000 in
set_option maxHeartbeats 4000000 in
theorem add_succ (x : Px) (hx : x.Ok) (m : Nat) (ih : Add x m) : Add x (m + 1) := by
  intro l A c frm w hC hc hl hf hm hps
  obtain ⟨hk8, hk0, hfl, hlo⟩ := mirErr_ok hx.e
  obtain ⟨ln, hln⟩ : ∃ ln, ln = l.length := ⟨_, rfl⟩
  obtain ⟨n, hn⟩ : ∃ n, n = x.loss.length := ⟨_, rfl⟩
  have hlf : ln ≤ frm := by omega
  have hfn : frm ≤ n := by omega
  obtain ⟨r, hr⟩ : ∃ r, r = addS x.floor x.loss (m + 1) l frm := ⟨_, rfl⟩
  rw [← hr]
  have HR : Aside0 (r = ((List.range n).filter (fun i => decide (frm ≤ i))).findSome? fun (i : Nat) => addS x.floor x.loss m (l ++ [(i : Int)]) (i + 1)) := ⟨by rw [hr, addS, hn]⟩
  obtain ⟨mi, hmi⟩ : ∃ mi : Int, mi = ((m + 1 : Nat) : Int) := ⟨_, rfl⟩
  rw [← hmi]
  have hm1 : 1 ≤ mi := by omega
  have hm8 : mi ≤ 8 := by omega
  have hmb : (mi == 0) = false := by rw [beq_eq_false_iff_ne]; omega
  have hmm : mi - 1 = (m : Int) := by omega
  rw [← hn] at hk8 hk0
  rw [← hln]
  have HPS := Aside0.mk hps
  have HX := Aside0.mk hx
  have HC := Aside0.mk hC
  have HLN := Aside0.mk hln
  have HN := Aside0.mk hn
  have HIH := Aside0.mk ih
  have HMM := Aside0.mk hmm
  clear hps hx hC hc hln hn hr hl hf hlo ih hmi hmm
  refine (callsIn_wide (n := 10)).1 ?_
  refine callsIn_of_wp Tryz.func115 rfl trivial ?_ rfl
  simp only [Tryz.ntmps115, List.size_toArray, List.length_cons, List.length_nil, Nat.reduceAdd, Nat.reduceSub, Array.replicate_succ, Array.replicate_zero, List.push_toArray, List.append_toArray, List.nil_append, List.cons_append]
  gi_wp2
  gi_loopw [10] (fun s10 wr => ∃ i : Nat, frm ≤ i ∧ i ≤ n ∧ s10 = .int .i64 i ∧ Aside0 (x.Ps wr (evs x.loss.length)) ∧ Aside0 (Below w.heap.size w wr) ∧ Aside0 (∀ j, frm ≤ j → j < i → addS x.floor x.loss m (l ++ [(j : Int)]) (j + 1) = none))
    (fun s10 _ => n - (intOf s10).toNat)
  case atStart => exact ⟨frm, Nat.le_refl _, hfn, rfl, HPS, ⟨Below.refl _ _⟩, ⟨fun j h1 h2 => by omega⟩⟩
  case round =>
    obtain ⟨i, hfi, hin, rfl, HPr, HBr, HJ⟩ := hrel
    have q1 : wr.cell? ⟨x.BM, 1, none⟩ = some (.slice x.A0 n x.c0) := by rw [HN.out]; exact (blk_cell HPr.out.bM 1).trans rfl
    by_cases hlt : i < n
    · have hltz : (i : Int) < (n : Int) := by omega
      obtain ⟨wX, hwX⟩ : ∃ wX, wX = wr.drew := ⟨_, rfl⟩
      have hbX : Below wr.heap.size wr wX := by rw [hwX]; exact below_drew (Below.refl _ _)
      have HPX := Aside0.mk (HPr.out.below hbX)
      have hCX := Kd.C_below (Kd.C_below HC.out HBr.out) (show Below wr.heap.size wr wX from hbX)
      rw [← HLN.out] at hCX
      have HCX := Aside0.mk hCX
      have HWX := Aside0.mk hwX
      have HBX := Aside0.mk hbX
      obtain ⟨r2, hr2⟩ : ∃ r2, r2 = addS x.floor x.loss m (l ++ [(i : Int)]) (i + 1) := ⟨_, rfl⟩
      have HR2 := Aside0.mk hr2
      obtain ⟨rb, hrb⟩ : ∃ rb, rb = r2.isSome := ⟨_, rfl⟩
      have HRB : Aside0 (r2.isSome = rb) := ⟨hrb.symm⟩
      clear hwX hbX hCX hr2 hrb
      gi_wp2
      refine region_mk (by kernel_rfl) (fun t => { tmps := #[.slice A ln c, .int .i64 (frm : Int), .int .i64 mi, .pointer (some ⟨x.BM, 0, none⟩), .pointer (some ⟨x.BB, 0, none⟩), .pointer (some ⟨x.BF, 0, none⟩), undef, undef, undef, u9, .int .i64 (i : Int), .int .i64 mi, .bool false, undef, undef, undef, undef, undef, undef, undef, undef, undef, .int .i64 (frm : Int), .int .i64 (i : Int), .pointer (some ⟨x.BM, 1, none⟩), .slice x.A0 n x.c0, .int .i64 (n : Int), .bool true, u28, u29, t 0, t 1, t 2, t 3, t 4, t 5, t 6, t 7, t 8, t 9, t 10], defers := [] })
        (fun L t w' => (L 10 = false → Below wX.heap.size wX w') ∧ (L 2 = true → L 5 = false → ∃ A2 c2, t 2 = .slice A2 ln c2 ∧ (Kd.int .i64).R 3 w' wX.heap.size (fun _ => True) (.slice A2 ln c2) l) ∧ (L 4 = true → L 5 = false → ∃ b, t 4 = .slice (some ⟨b, 0, none⟩) 1 1 ∧ w'.heap[b]? = some (.cells #[.int .i64 (i : Int)] 3 (0, 0))) ∧ (L 5 = true → L 10 = false → ∃ A5 c5, t 5 = .slice A5 (ln + 1) c5 ∧ ln + 1 ≤ c5 ∧ (Kd.int .i64).C w' A5 (ln + 1) (l ++ [(i : Int)])) ∧ (L 10 = true → x.Ps w' (r2.getD (evs x.loss.length)) ∧ (r2 = none → Below wX.heap.size wX w')))
        (fun ix v => match ix with | 0 => v = .func (.func 115) #[] #[.pointer (some ⟨x.BM, 0, none⟩), .pointer (some ⟨x.BB, 0, none⟩), .pointer (some ⟨x.BF, 0, none⟩)] | 1 => v = .slice A ln c | 2 => True | 3 => v = .int .i64 (i : Int) | 4 => True | 5 => True | 6 => v = .int .i64 (i : Int) | 7 => v = .int .i64 ((i : Int) + 1) | 8 => v = .int .i64 mi | 9 => v = .int .i64 (m : Int) | 10 => v = .bool rb | _ => True)
        (fun j => match j with | 0 => u30 | 1 => u31 | 2 => u32 | 3 => u33 | 4 => u34 | 5 => u35 | 6 => u36 | 7 => u37 | 8 => u38 | 9 => u39 | 10 => u40 | _ => undef) (by kernel_rfl) ⟨fun _ => by rw [← HWX.out]; exact Below.refl _ _, by simp, by simp, by simp, by simp⟩ ?stepB ?doneB
      case stepB =>
        intro ix hix
        have hi' : ix < 11 := hix
        match ix, hi' with
        | 0, _ =>
          intro L t w' hL hJ hX hdep hcl
          have n10 : L 10 = false := by
            cases h10 : L 10 with
            | false => rfl
            | true =>
              have h0 := hcl 10 _ rfl h10 ⟨0, .data⟩ (by simp) rfl
              rw [hL] at h0; cases h0
          have q : w'.cell? ⟨x.BF, 0, none⟩ = some (.func (.func 115) #[] #[.pointer (some ⟨x.BM, 0, none⟩), .pointer (some ⟨x.BB, 0, none⟩), .pointer (some ⟨x.BF, 0, none⟩)]) := (blk_cell (blk_below HPX.out.bF (hJ.1 n10)) 0).trans rfl
          refine wpOpIn_step rfl (fun K hK => ?_)
          dsimp only
          go_simp
          refine hK _ _ ⟨.func (.func 115) #[] #[.pointer (some ⟨x.BM, 0, none⟩), .pointer (some ⟨x.BB, 0, none⟩), .pointer (some ⟨x.BF, 0, none⟩)], ?_, rfl, hJ⟩
          simp [upd]
        | 1, _ =>
          intro L t w' hL hJ hX hdep hcl
          refine wpOpIn_step rfl (fun K hK => ?_)
          dsimp only
          go_simp
          refine hK _ _ ⟨.slice A ln c, ?_, rfl, hJ⟩
          simp [upd]
        | 2, _ =>
          intro L t w' hL hJ hX hdep hcl
          have x1 : t 1 = .slice A ln c := hX 1 (hdep _ rfl ⟨1, .data⟩ (by simp) rfl)
          have n10 : L 10 = false := by
            cases h10 : L 10 with
            | false => rfl
            | true =>
              have h5 := hcl 10 _ rfl h10 ⟨5, .data⟩ (by simp) rfl
              have h2 := hcl 5 _ rfl h5 ⟨2, .data⟩ (by simp) rfl
              rw [hL] at h2; cases h2
          have n5 : L 5 = false := by
            cases h5 : L 5 with
            | false => rfl
            | true =>
              have h2 := hcl 5 _ rfl h5 ⟨2, .data⟩ (by simp) rfl
              rw [hL] at h2; cases h2
          have hb := hJ.1 n10
          have hc := clone_any A c l w' (by rw [← HLN.out]; exact Kd.C_below HCX.out hb) (by rw [← HLN.out]; omega)
          rw [← HLN.out] at hc
          have HCL := Aside0.mk hc
          have HB := Aside0.mk hb
          clear hc hb
          refine wpOpIn_step rfl (fun K hK => ?_)
          dsimp only
          simp only [x1]
          go_simp
          refine (callsIn_wide.2 HCL.out).mono ?_
          rintro e w2 ⟨v2, rfl, hR2, hb2⟩
          obtain ⟨A2, c2, hv2⟩ := Kd.R_slice hR2
          rw [← HLN.out] at hv2
          subst hv2
          refine hK _ _ ⟨.slice A2 ln c2, ?_, trivial, ⟨fun _ => HB.out.trans (hb2.mono HB.out.size), fun _ _ => ⟨A2, c2, rfl, Kd.R_lower hR2 HB.out.size⟩, fun h h5 => ?_, fun h => (by rw [show setOn L 2 5 = L 5 from rfl, n5] at h; cases h), fun h => (by rw [show setOn L 2 10 = L 10 from rfl, n10] at h; cases h)⟩⟩
          · simp [upd, x1]
          · obtain ⟨b, e4, hb4⟩ := hJ.2.2.1 h n5; exact ⟨b, e4, blk_below hb4 hb2⟩
        | 3, _ =>
          intro L t w' hL hJ hX hdep hcl
          refine wpOpIn_step rfl (fun K hK => ?_)
          dsimp only
          go_simp
          refine hK _ _ ⟨.int .i64 (i : Int), ?_, rfl, hJ⟩
          simp [upd]
        | 4, _ =>
          intro L t w' hL hJ hX hdep hcl
          have x3 : t 3 = .int .i64 (i : Int) := hX 3 (hdep _ rfl ⟨3, .data⟩ (by simp) rfl)
          have n10 : L 10 = false := by
            cases h10 : L 10 with
            | false => rfl
            | true =>
              have h5 := hcl 10 _ rfl h10 ⟨5, .data⟩ (by simp) rfl
              have h4 := hcl 5 _ rfl h5 ⟨4, .data⟩ (by simp) rfl
              rw [hL] at h4; cases h4
          have n5 : L 5 = false := by
            cases h5 : L 5 with
            | false => rfl
            | true =>
              have h4 := hcl 5 _ rfl h5 ⟨4, .data⟩ (by simp) rfl
              rw [hL] at h4; cases h4
          have HB := Aside0.mk (hJ.1 n10)
          refine wpOpIn_step rfl (fun K hK => ?_)
          dsimp only
          simp only [x3]
          go_simp
          refine hK _ (w'.alloc (.cells #[.int .i64 (i : Int)] 3)) ⟨.slice (some ⟨w'.heap.size, 0, none⟩) 1 1, ?_, trivial, ⟨fun _ => below_alloc HB.out _, fun h h5 => ?_, fun _ _ => ⟨w'.heap.size, rfl, blk_new w' _⟩, fun h => (by rw [show setOn L 4 5 = L 5 from rfl, n5] at h; cases h), fun h => (by rw [show setOn L 4 10 = L 10 from rfl, n10] at h; cases h)⟩⟩
          · simp [upd, x3]
          · obtain ⟨A2, c2, e2, hR2⟩ := hJ.2.1 h n5; exact ⟨A2, c2, e2, Kd.R_below hR2 (below_alloc (Below.refl _ _) _)⟩
        | 5, _ =>
          intro L t w' hL hJ hX hdep hcl
          have n10 : L 10 = false := by
            cases h10 : L 10 with
            | false => rfl
            | true =>
              have h5 := hcl 10 _ rfl h10 ⟨5, .data⟩ (by simp) rfl
              rw [hL] at h5; cases h5
          have h2 := hdep _ rfl ⟨2, .data⟩ (by simp) rfl
          have h4 := hdep _ rfl ⟨4, .data⟩ (by simp) rfl
          have l2 : L 2 = true := h2
          have l4 : L 4 = true := h4
          obtain ⟨A2, c2, e2, hR2⟩ := hJ.2.1 h2 hL
          obtain ⟨b, e4, hb4⟩ := hJ.2.2.1 h4 hL
          have hb := hJ.1 n10
          obtain ⟨v1, w1, hrun, hR1, hg1⟩ := run_append_int (P := Tryz.prog) wX.heap.size 22 22 3 (by kernel_rfl) rfl (.slice A2 ln c2) l (i : Int) b hR2 ((blk_cell hb4 0).trans rfl) hb.size (by rw [← HLN.out]; omega)
          have hb1 : Below wX.heap.size wX w1 := hb.grown hg1 hb.size (fun r e => Kd.R_base hR2 r e)
          obtain ⟨A5, c5, hv5, hl5, hC5⟩ := Kd.R_reads hR1
          have hlen : (l ++ [(i : Int)]).length = ln + 1 := by rw [List.length_append, List.length_singleton, ← HLN.out]
          rw [hlen] at hv5 hl5 hC5
          subst hv5
          have HB1 := Aside0.mk hb1
          have HC5 := Aside0.mk (And.intro hl5 hC5)
          clear hb hb1 hR1 hg1 hR2 hb4 hl5 hC5 hlen
          refine wpOpIn_step rfl (fun K hK => ?_)
          dsimp only
          simp only [e2, e4]
          refine append_wpIn rfl rfl rfl hrun ?_
          go_simp
          refine hK _ w1 ⟨.slice A5 (ln + 1) c5, ?_, trivial, ⟨fun _ => HB1.out, fun _ h => (by simp [setOn] at h), fun _ h => (by simp [setOn] at h), fun _ _ => ⟨A5, c5, rfl, HC5.out⟩, fun h => (by rw [show setOn L 5 10 = L 10 from rfl, n10] at h; cases h)⟩⟩
          simp [upd, e2, e4]
        | 6, _ =>
          intro L t w' hL hJ hX hdep hcl
          refine wpOpIn_step rfl (fun K hK => ?_)
          dsimp only
          go_simp
          refine hK _ _ ⟨.int .i64 (i : Int), ?_, rfl, hJ⟩
          simp [upd]
        | 7, _ =>
          intro L t w' hL hJ hX hdep hcl
          have x6 : t 6 = .int .i64 (i : Int) := hX 6 (hdep _ rfl ⟨6, .data⟩ (by simp) rfl)
          have hwrap : IntKind.i64.wrap ((i : Int) + 1) = (i : Int) + 1 := by rw [IntKind.wrap_i64]; omega
          refine wpOpIn_step rfl (fun K hK => ?_)
          dsimp only
          simp only [x6]
          go_simp
          refine hK _ _ ⟨.int .i64 ((i : Int) + 1), ?_, rfl, hJ⟩
          simp [upd, x6]
        | 8, _ =>
          intro L t w' hL hJ hX hdep hcl
          refine wpOpIn_step rfl (fun K hK => ?_)
          dsimp only
          go_simp
          refine hK _ _ ⟨.int .i64 mi, ?_, rfl, hJ⟩
          simp [upd]
        | 9, _ =>
          intro L t w' hL hJ hX hdep hcl
          have x8 : t 8 = .int .i64 mi := hX 8 (hdep _ rfl ⟨8, .data⟩ (by simp) rfl)
          have hwrap : IntKind.i64.wrap (m : Int) = (m : Int) := by rw [IntKind.wrap_i64]; have := HMM.out; omega
          have hwrap2 : mi - 1 = (m : Int) := HMM.out
          refine wpOpIn_step rfl (fun K hK => ?_)
          dsimp only
          simp only [x8]
          go_simp
          refine hK _ _ ⟨.int .i64 (m : Int), ?_, rfl, hJ⟩
          simp [upd, x8]
        | 10, _ =>
          intro L t w' hL hJ hX hdep hcl
          have x0 : t 0 = .func (.func 115) #[] #[.pointer (some ⟨x.BM, 0, none⟩), .pointer (some ⟨x.BB, 0, none⟩), .pointer (some ⟨x.BF, 0, none⟩)] := hX 0 (hdep _ rfl ⟨0, .data⟩ (by simp) rfl)
          have x7 : t 7 = .int .i64 ((i : Int) + 1) := hX 7 (hdep _ rfl ⟨7, .data⟩ (by simp) rfl)
          have x9 : t 9 = .int .i64 (m : Int) := hX 9 (hdep _ rfl ⟨9, .data⟩ (by simp) rfl)
          have h5 := hdep _ rfl ⟨5, .data⟩ (by simp) rfl
          have l5 : L 5 = true := h5
          obtain ⟨A5, c5, e5, hl5, hC5⟩ := hJ.2.2.2.1 h5 hL
          have hb := hJ.1 hL
          have hlen : (l ++ [(i : Int)]).length = ln + 1 := by rw [List.length_append, List.length_singleton, ← HLN.out]
          have hc := HIH.out (l ++ [(i : Int)]) A5 c5 (i + 1) w' (by rw [hlen]; exact hC5) (by rw [hlen]; exact hl5) (by rw [hlen]; omega) (by rw [← HN.out]; omega) (by omega) (HPX.out.below hb)
          rw [hlen, show ((i + 1 : Nat) : Int) = (i : Int) + 1 from by push_cast; rfl, ← HR2.out] at hc
          have HC := Aside0.mk hc
          have HB := Aside0.mk hb
          clear hc hb hlen hC5 hl5
          refine wpOpIn_step rfl (fun K hK => ?_)
          dsimp only
          simp only [x0, x7, x9, e5]
          go_simp
          refine (callsIn_wide.2 HC.out).mono ?_
          intro e w2 hpost
          obtain ⟨he, hps2, hno⟩ : _ ∧ _ ∧ _ := hpost
          rw [HRB.out] at he
          subst he
          refine hK _ _ ⟨.bool rb, ?_, rfl, ⟨fun h => (by simp [setOn] at h), fun _ h => (by rw [show setOn L 10 5 = L 5 from rfl, l5] at h; cases h), fun _ h => (by rw [show setOn L 10 5 = L 5 from rfl, l5] at h; cases h), fun _ h => (by simp [setOn] at h), fun _ => ⟨hps2, fun hn => HB.out.trans ((hno hn).mono HB.out.size)⟩⟩⟩
          simp [upd, x0, x7, x9, e5]
        | j + 11, h => exact absurd h (by omega)
      case doneB =>
        intro L t w9 hL hJ hX
        have x0 : t 0 = .func (.func 115) #[] #[.pointer (some ⟨x.BM, 0, none⟩), .pointer (some ⟨x.BB, 0, none⟩), .pointer (some ⟨x.BF, 0, none⟩)] := hX 0 (by decide)
        have x1 : t 1 = .slice A ln c := hX 1 (by decide)
        have x3 : t 3 = .int .i64 (i : Int) := hX 3 (by decide)
        have x6 : t 6 = .int .i64 (i : Int) := hX 6 (by decide)
        have x7 : t 7 = .int .i64 ((i : Int) + 1) := hX 7 (by decide)
        have x8 : t 8 = .int .i64 mi := hX 8 (by decide)
        have x9 : t 9 = .int .i64 (m : Int) := hX 9 (by decide)
        have x10 : t 10 = .bool rb := hX 10 (by decide)
        obtain ⟨hps9, hno9⟩ := hJ.2.2.2.2 (hL 10 (by decide))
        try dsimp only
        simp only [x0, x1, x3, x6, x7, x8, x9, x10]
        have HPS9 := Aside0.mk hps9
        have HNO9 := Aside0.mk hno9
        clear x0 x1 x3 x6 x7 x8 x9 x10 hX hJ hL hps9 hno9
        cases rb with
        | true =>
          obtain ⟨l2, hl2⟩ := Option.isSome_iff_exists.1 HRB.out
          have hr : r = some l2 := by rw [HR.out]; exact find_from hfi hlt HJ.out (by rw [← HR2.out]; exact hl2)
          have hp := HPS9.out
          rw [hl2] at hp
          have HP2 := Aside0.mk hp
          have HRS := Aside0.mk hr
          clear hr hp hl2
          gi_wp2
          go_ret
          have hr := HRS.out
          subst hr
          exact And.intro rfl (And.intro HP2.out (fun h => by cases h))
        | false =>
          have hn2 : r2 = none := by
            have := HRB.out
            cases hq : r2 with
            | none => rfl
            | some q => rw [hq] at this; cases this
          have hp := HPS9.out
          rw [hn2] at hp
          have HP2 : Aside0 (x.Ps w9 (evs x.loss.length)) := ⟨hp⟩
          have hb9 : Below w.heap.size w w9 := (HBr.out.trans (HBX.out.mono HBr.out.size)).trans ((HNO9.out hn2).mono (Nat.le_trans HBr.out.size HBX.out.size))
          have HB9 := Aside0.mk hb9
          have HN2 := Aside0.mk hn2
          clear hp hn2 hb9
          gi_wp2
          go_roundw
          case measure => simp [intOf]; omega
          case rel => exact ⟨i + 1, by omega, by omega, by go_num, HP2, HB9, ⟨fun j h1 h2 => by
            by_cases e : j = i
            · subst e; rw [← HR2.out]; exact HN2.out
            · exact HJ.out j h1 (by omega)⟩⟩
    · have hltz : ¬ (i : Int) < (n : Int) := by omega
      obtain rfl : i = n := by omega
      have hr : r = none := by rw [HR.out]; exact find_none HJ.out
      have HRN := Aside0.mk hr
      clear hr
      gi_wp2
      go_ret
      have hr := HRN.out
      subst hr
      exact And.intro rfl (And.intro HPr.out (fun _ => HBr.out))
theorem add_all (x : Px) (hx : x.Ok) : ∀ m, Add x m
  | 0 => add_zero x hx
  | m + 1 => add_succ x hx m (add_all x hx m)
end Go.Proofs.YtekdacalkllipaaGreat.PR
end
section
namespace Go.Proofs.YtekdacalkllipaaGreat.PR
open Go.RowKit Go.Shelf Go.Proofs.YtekdacalkllipaaGreatW.PrintWords Go.Proofs.YtekdacalkllipaaGreatW.PrintLast Go.Proofs.YtekdacalkllipaaGreatW.PrintMore
set_option linter.unusedVariables false
set_option linter.unusedSimpArgs false
attribute [local go_sem] Oper.semAt_some
attribute [local simp] wide_fn
def fillK (n kk : Nat) : List Int := (List.range n).map fun i : Nat => if i < kk then (i : Int) else 0
theorem fillK_len (n kk : Nat) : (fillK n kk).length = n := by simp [fillK]
theorem fillK_full (n : Nat) : fillK n n = evs n := by
  unfold fillK evs
  apply List.map_congr_left
  intro i hi
  rw [if_pos (List.mem_range.1 hi)]
theorem fillK_zero (n : Nat) : fillK n 0 = List.replicate n 0 := by
  unfold fillK
  apply List.ext_getElem
  · simp
  · intro i h1 h2; simp
theorem fillK_set (n kk : Nat) (h : kk < n) : (fillK n kk).set kk (kk : Int) = fillK n (kk + 1) := by
  apply List.ext_getElem
  · simp [fillK]
  · intro i h1 h2
    rw [List.getElem_set]
    simp only [fillK, List.getElem_map, List.getElem_range]
    by_cases e : kk = i
    · subst e; simp
    · rw [if_neg e]
      by_cases hi : i < kk
      · rw [if_pos hi, if_pos (by omega)]
      · rw [if_neg hi, if_neg (by omega)]
theorem range_find {α : Type} {n i : Nat} {f : Nat → Option α} {a : α} (hi : i < n) (h1 : ∀ j, j < i → f j = none) (h2 : f i = some a) : (List.range n).findSome? f = some a := by
  have h := find_from (f := f) (Nat.zero_le i) hi (fun j _ hj => h1 j hj) h2
  rwa [List.filter_eq_self.2 (by simp)] at h
theorem range_none {α : Type} {n : Nat} {f : Nat → Option α} (h1 : ∀ j, j < n → f j = none) : (List.range n).findSome? f = none := by
  rw [List.findSome?_eq_none_iff]
  intro j hj
  exact h1 j (List.mem_range.1 hj)
set_option maxRecDepth 100000 in
set_option maxHeartbeats 4000000 in
theorem Polish_any (floor : Int) (A : Option Addr) (c : Nat) (loss : List S98) (w : World) (h : k98.C w A loss.length loss) :
    Calls Tryz.prog 47 #[.agg #[.int .i64 floor, .slice A loss.length c]] w fun e w' => ∃ v, e = .returned (.tuple #[v, .int .i64 (polishS floor loss).2]) ∧ (Kd.int .i64).R 3 w' w.heap.size (fun _ => True) v (polishS floor loss).1 ∧ Below w.heap.size w w' := by
  obtain ⟨P, hP⟩ : ∃ P, P = w.heap.size := ⟨_, rfl⟩
  obtain ⟨n, hn⟩ : ∃ n, n = loss.length := ⟨_, rfl⟩
  obtain ⟨wA, hwA⟩ : ∃ wA, wA = w.alloc (.cells #[.int .i64 floor, .slice A loss.length c] 89) := ⟨_, rfl⟩
  have hgA : w.grownBy wA none := by rw [hwA]; exact World.grownBy_alloc _ _ _
  have hA0 : wA.heap[P]? = some (.cells #[.int .i64 floor, .slice A loss.length c] 89 (0, 0)) := by rw [hwA, hP]; exact blk_new w _
  have hsA : wA.heap.size = P + 1 := by rw [hwA, hP]; simp
  have hbA := below_none hgA
  have HCHK := Aside0.mk (mcheck_any floor A c loss wA (Kd.C_below h hbA))
  obtain ⟨pe, hpe⟩ : ∃ pe, pe = mirErr floor loss := ⟨_, rfl⟩
  rw [← hpe] at HCHK
  obtain ⟨bs, hbs⟩ : ∃ bs, bs = polishS floor loss := ⟨_, rfl⟩
  rw [← hbs]
  rw [← hn] at HCHK hA0 hwA ⊢
  have HH := Aside0.mk h
  have HG := Aside0.mk hgA
  have HA0 := Aside0.mk hA0
  have HSA := Aside0.mk hsA
  have HPE := Aside0.mk hpe
  have HBS := Aside0.mk hbs
  have HN := Aside0.mk hn
  clear h hgA hA0 hsA hbA hpe hbs hn
  refine (callsIn_wide (n := 12)).1 ?_
  refine callsIn_of_wp Tryz.func47 rfl trivial ?_ rfl
  simp only [Tryz.ntmps47, List.size_toArray, List.length_cons, List.length_nil, Nat.reduceAdd, Nat.reduceSub, Array.replicate_succ, Array.replicate_zero, List.push_toArray, List.append_toArray, List.nil_append, List.cons_append]
  gi_wp2_with fail
  rw [← hwA, ← hP]
  have HPP := Aside0.mk hP
  clear hwA hP
  refine (callsIn_wide.2 HCHK.out).mono ?_
  rintro e w1 ⟨rfl, hg1⟩
  have h10 := blk_grown HA0.out hg1 (by simp)
  have hgw1 := grown_trans HG.out hg1
  have hs1 : P + 1 ≤ w1.heap.size := by rw [← HSA.out]; exact hg1.size
  by_cases hz : pe = 0
  · have bz : (pe != 0) = false := by rw [hz]; rfl
    subst hz
    obtain ⟨hk8, hk0, hfl, hlo⟩ := mirErr_ok HPE.out.symm
    rw [← HN.out] at hk8 hk0
    have hbw1 : Below w.heap.size w w1 := below_none hgw1
    have q1 : w1.cell? ⟨P, 1, none⟩ = some (.slice A n c) := (blk_cell h10 1).trans rfl
    have H10 := Aside0.mk h10
    have HB1 := Aside0.mk hbw1
    have HS1 := Aside0.mk hs1
    clear h10 hgw1 hg1 HCHK hlo hbw1 hs1
    have hmk : ∀ W : World, (Instr.makeSlice 22 (.int .i64 (n : Int)) (.int .i64 (n : Int))).run Tryz.prog W = .ok (.slice (some ⟨W.heap.size, 0, none⟩) n n) (W.alloc (.cells (Array.replicate n (.int .i64 0)) 3)) := fun W => mk_ints n (by omega) W
    gi_wp2
    obtain ⟨N, hN⟩ : ∃ N, N = w1.heap.size := ⟨_, rfl⟩
    rw [← hN]
    obtain ⟨wL, hwL⟩ : ∃ wL, wL = (w1.alloc (.cells (Array.replicate n (.int .i64 0)) 3)).alloc (.cells #[.slice (some ⟨N, 0, none⟩) n n] 22) := ⟨_, rfl⟩
    rw [← hwL]
    have hbL1 : Below w1.heap.size w1 wL := by rw [hwL]; exact below_alloc (below_alloc (Below.refl _ _) _) _
    have hbL : Below w.heap.size w wL := HB1.out.trans (hbL1.mono HB1.out.size)
    have hLP := blk_below H10.out hbL1
    have hLB : wL.heap[N + 1]? = some (.cells #[.slice (some ⟨N, 0, none⟩) n n] 22 (0, 0)) := by
      rw [hwL]; have := blk_new (w1.alloc (.cells (Array.replicate n (.int .i64 0)) 3)) (.cells #[.slice (some ⟨N, 0, none⟩) n n] 22); rw [World.size_alloc, ← hN] at this; exact this
    have hLR : (Kd.int .i64).R 3 wL w.heap.size (fun _ => True) (.slice (some ⟨N, 0, none⟩) n n) (fillK n 0) := by
      refine R_ints (by rw [hN]; exact HB1.out.size) ?_ (by rw [fillK_len]; unfold maxLen; omega) n (by rw [fillK_len])
      rw [hwL, hN, fillK_zero]
      refine (blk_alloc (blk_new w1 _) _).trans ?_
      congr 3
      simp
    have hPN : P < N := by rw [hN]; have := HS1.out; omega
    have hwN : w.heap.size ≤ N := by rw [hN]; exact HB1.out.size
    have HL := Aside0.mk (And.intro hbL (And.intro hLP (And.intro hLB hLR)))
    have HPN := Aside0.mk (And.intro hPN hwN)
    clear hwL hbL1 hbL hLP hLB hLR hPN hwN hN hmk q1 H10 HB1 HS1
    gi_loopw [20] (fun s20 wr => ∃ kk : Nat, kk ≤ n ∧ s20 = .int .i64 kk ∧ Aside0 (Below w.heap.size w wr) ∧ Aside0 (wr.heap[P]? = some (.cells #[.int .i64 floor, .slice A n c] 89 (0, 0))) ∧ Aside0 (wr.heap[N + 1]? = some (.cells #[.slice (some ⟨N, 0, none⟩) n n] 22 (0, 0))) ∧ Aside0 ((Kd.int .i64).R 3 wr w.heap.size (fun _ => True) (.slice (some ⟨N, 0, none⟩) n n) (fillK n kk)))
      (fun s20 _ => n - (intOf s20).toNat)
    case atStart => exact ⟨0, Nat.zero_le _, rfl, ⟨HL.out.1⟩, ⟨HL.out.2.1⟩, ⟨HL.out.2.2.1⟩, ⟨HL.out.2.2.2⟩⟩
    case round =>
      obtain ⟨kk, hkk, rfl, HBr, HPr, HQr, HRr⟩ := hrel
      by_cases hlt : kk < n
      · have hltz : (kk : Int) < (n : Int) := by omega
        have qb : wr.cell? ⟨N + 1, 0, none⟩ = some (.slice (some ⟨N, 0, none⟩) n n) := (blk_cell HQr.out 0).trans rfl
        obtain ⟨ck, fk⟩ := Kd.R_celln (0 : Int) HRr.out (kk : Int) (by omega) (by have := fillK_len n kk; omega)
        simp only [Int.toNat_natCast] at ck fk
        gi_wp2
        go_roundw
        case measure => simp [intOf]; omega
        case rel =>
          have hR := Kd.R_putn HRr.out (kk : Int) (kk : Int)
          simp only [Int.toNat_natCast] at hR
          rw [fillK_set n kk hlt] at hR
          exact ⟨kk + 1, by omega, by go_num, ⟨below_set1 HBr.out HPN.out.2 _ _⟩, ⟨blk_far HPr.out (by have := HPN.out.1; dsimp only; omega) _⟩, ⟨blk_far HQr.out (by dsimp only; omega) _⟩, ⟨hR⟩⟩
      · have hltz : ¬ (kk : Int) < (n : Int) := by omega
        obtain rfl : kk = n := by omega
        have hRn := HRr.out
        rw [fillK_full] at hRn
        obtain ⟨A1, c1, e1, hc1, hC1⟩ := Kd.R_reads hRn
        rw [evs_len] at e1 hc1
        injection e1 with e1a e1b e1c
        subst e1a e1c
        have hmb := mbright_any floor A c loss (some ⟨N, 0, none⟩) kk (evs loss.length) wr (Kd.C_below HH.out HBr.out) (by rw [← HN.out]; exact hC1) (by rw [← HN.out, evs_len]; exact hc1) HPE.out.symm
        rw [evs_len, ← HN.out] at hmb
        obtain ⟨sb, hsb⟩ : ∃ sb, sb = stayB floor loss (evs kk) := ⟨_, rfl⟩
        rw [← hsb] at hmb
        have HMB := Aside0.mk hmb
        have HRN := Aside0.mk hRn
        have HSB := Aside0.mk hsb
        have p0 : wr.cell? ⟨P, 0, none⟩ = some (.int .i64 floor) := (blk_cell HPr.out 0).trans rfl
        have p1 : wr.cell? ⟨P, 1, none⟩ = some (.slice A kk c) := (blk_cell HPr.out 1).trans rfl
        have pb : wr.cell? ⟨N + 1, 0, none⟩ = some (.slice (some ⟨N, 0, none⟩) kk kk) := (blk_cell HQr.out 0).trans rfl
        clear hRn hC1 hmb hsb
        gi_wp2_with fail
        refine (callsIn_wide.2 HMB.out).mono ?_
        rintro e w3 ⟨rfl, hg3⟩
        have hb3 : Below wr.heap.size wr w3 := below_none hg3
        have HB3 := Aside0.mk hb3
        clear hg3 hb3 p0 p1 pb HMB
        cases sb with
        | false =>
          gi_wp2
          have hb : bs = ([], 10) := by rw [HBS.out, polishS, if_neg (by rw [← HPE.out]; simp), if_pos (by rw [← HN.out]; exact HSB.out.symm)]
          subst hb
          refine bodyPost_ret (v := .tuple #[.slice none 0 0, .int .i64 10]) (by simp [results, Tryz.results47, go_sem]) rfl ⟨.slice none 0 0, rfl, Kd.R_nil _ _ _ _ _, HBr.out.trans (HB3.out.mono HBr.out.size)⟩
        | true =>
          obtain ⟨F, hF⟩ : ∃ F, F = w3.heap.size := ⟨_, rfl⟩
          obtain ⟨W4, hW4⟩ : ∃ W4, W4 = w3.alloc (.cells #[.func (.func 115) #[] #[.pointer (some ⟨P, 0, none⟩), .pointer (some ⟨N + 1, 0, none⟩), .pointer (some ⟨F, 0, none⟩)]] 178) := ⟨_, rfl⟩
          have hb4 : Below wr.heap.size wr W4 := by rw [hW4]; exact below_alloc HB3.out _
          obtain ⟨x, hx⟩ : ∃ x : Px, x = ⟨w, floor, A, c, loss, P, N + 1, F, N⟩ := ⟨_, rfl⟩
          have hok : x.Ok := by rw [hx]; exact ⟨HH.out, HPE.out.symm, by have := HPN.out.2; show w.heap.size ≤ N + 1; omega⟩
          have hps : x.Ps W4 (evs x.loss.length) := by
            rw [hx]
            refine ⟨HBr.out.trans (hb4.mono HBr.out.size), ?_, ?_, ?_, ?_⟩
            · rw [← HN.out]; exact blk_below HPr.out hb4
            · rw [hW4, hF]; exact blk_new w3 _
            · rw [evs_len, ← HN.out]; exact blk_below HQr.out hb4
            · rw [evs_len, ← HN.out]; exact Kd.R_below HRN.out hb4
          have hadd := add_all x hok
          have hw0 : x.w00 = w := by rw [hx]
          have hfl : x.floor = floor := by rw [hx]
          have hlo : x.loss = loss := by rw [hx]
          have hBM : x.BM = P := by rw [hx]
          have hBB : x.BB = N + 1 := by rw [hx]
          have hBF : x.BF = F := by rw [hx]
          have hgg : x.g = N := by rw [hx]
          have HAD : Aside0 (∀ (m : Nat) (W : World), m ≤ 8 → x.Ps W (evs kk) → Calls Tryz.prog 115 #[.slice none 0 0, .int .i64 0, .int .i64 (m : Int), .pointer (some ⟨P, 0, none⟩), .pointer (some ⟨N + 1, 0, none⟩), .pointer (some ⟨F, 0, none⟩)] W (AddPost x (addS floor loss m [] 0) W)) := ⟨by
            intro m W hm hp
            have h := hadd m [] none 0 0 W (Kd.C_nil _ _) (Nat.le_refl _) (Nat.le_refl _) (Nat.zero_le _) hm (by rw [hlo, ← HN.out]; exact hp)
            rw [hfl, hlo, hBM, hBB, hBF] at h
            exact h⟩
          have p1 : W4.cell? ⟨P, 1, none⟩ = some (.slice A kk c) := (blk_cell (blk_below HPr.out hb4) 1).trans rfl
          rw [hF] at hW4
          rw [hW4] at p1
          have HW4 := Aside0.mk hW4
          have HF := Aside0.mk hF
          rw [hlo, ← HN.out] at hps
          have HPS := Aside0.mk hps
          have HX := Aside0.mk (And.intro hw0 (And.intro hfl (And.intro hlo (And.intro hBM (And.intro hBB (And.intro hBF hgg))))))
          have HFIN : Aside0 (∀ (W : World) (xs : List Int), x.Ps W xs → W.cell? ⟨N + 1, 0, none⟩ = some (.slice (some ⟨N, 0, none⟩) xs.length kk) ∧ (Kd.int .i64).R 3 W w.heap.size (fun _ => True) (.slice (some ⟨N, 0, none⟩) xs.length kk) xs ∧ Below w.heap.size w W) := ⟨by
            intro W xs hp
            have h1 := hp.bB
            have h2 := hp.R
            have h3 := hp.old
            rw [hw0, hgg, hlo, ← HN.out] at h2
            rw [hBB, hgg, hlo, ← HN.out] at h1
            rw [hw0] at h3
            exact ⟨(blk_cell h1 0).trans rfl, h2, h3⟩⟩
          have HBF : Aside0 (∀ (W : World) (xs : List Int), x.Ps W xs → W.cell? ⟨F, 0, none⟩ = some (.func (.func 115) #[] #[.pointer (some ⟨P, 0, none⟩), .pointer (some ⟨N + 1, 0, none⟩), .pointer (some ⟨F, 0, none⟩)])) := ⟨by
            intro W xs hp
            have h1 := hp.bF
            rw [hBM, hBB, hBF] at h1
            exact (blk_cell h1 0).trans rfl⟩
          clear hb4 hok hps hadd hw0 hfl hlo hBM hBB hBF hgg hx hW4 hF
          gi_wp2
          rw [← HF.out] at HW4 ⊢
          rw [← HW4.out]
          clear p1
          gi_loopw [37] (fun s37 w' => ∃ m : Nat, m ≤ kk + 1 ∧ s37 = .int .i64 m ∧ Aside0 (x.Ps w' (evs kk)) ∧ Aside0 (∀ j, j < m → addS floor loss j [] 0 = none))
            (fun s37 _ => kk + 1 - (intOf s37).toNat)
          case atStart => exact ⟨0, by omega, rfl, HPS, ⟨fun j hj => by omega⟩⟩
          case round =>
            obtain ⟨m, hm, rfl, HPm, HJm⟩ := hrel
            by_cases hlm : m < kk + 1
            · have hltm : (m : Int) < (kk : Int) + 1 := by omega
              have qF := HBF.out _ _ HPm.out
              have HC := Aside0.mk (HAD.out m _ (by omega) HPm.out)
              obtain ⟨r, hr⟩ : ∃ r, r = addS floor loss m [] 0 := ⟨_, rfl⟩
              rw [← hr] at HC
              have HR := Aside0.mk hr
              clear hr
              gi_wp2_with fail
              refine (callsIn_wide.2 HC.out).mono ?_
              intro e w5 hpost
              obtain ⟨he, hps5, hno⟩ : _ ∧ _ ∧ _ := hpost
              subst he
              cases r with
              | none =>
                have hp5 : x.Ps w5 (evs kk) := by
                  have h := hps5
                  rw [HX.out.2.2.1, ← HN.out] at h
                  exact h
                have HP5 := Aside0.mk hp5
                clear hp5 hps5 hno HC qF
                gi_wp2
                go_roundw
                case measure => simp [intOf]; omega
                case rel => exact ⟨m + 1, by omega, by go_num, HP5, ⟨fun j hj => by
                  by_cases e : j = m
                  · subst e; exact HR.out.symm
                  · exact HJm.out j (by omega)⟩⟩
              | some l2 =>
                have hp5 : x.Ps w5 l2 := hps5
                have hf := HFIN.out _ _ hp5
                have qB := hf.1
                have HF2 := Aside0.mk hf.2
                clear hp5 hps5 hno hf HC qF
                gi_wp2
                have hb : bs = (l2, 0) := by
                  rw [HBS.out, polishS, if_neg (by rw [← HPE.out]; simp), if_neg (by rw [← HN.out, ← HSB.out]; simp), range_find (i := m) (by rw [← HN.out]; exact hlm) HJm.out HR.out.symm]
                  rfl
                subst hb
                try rw [Exit.noGoto_ret]
                refine bodyPost_ret (v := .tuple #[.slice (some ⟨N, 0, none⟩) l2.length kk, .int .i64 0]) (by simp [results, Tryz.results47, go_sem]) rfl ⟨_, rfl, HF2.out.1, HF2.out.2⟩
            · have hltm : ¬ (m : Int) < (kk : Int) + 1 := by omega
              have hf := HFIN.out _ _ HPm.out
              have qB := hf.1
              rw [evs_len] at qB
              have HF2 := Aside0.mk hf.2
              clear hf
              gi_wp2
              have hb : bs = (evs kk, 0) := by
                rw [HBS.out, polishS, if_neg (by rw [← HPE.out]; simp), if_neg (by rw [← HN.out, ← HSB.out]; simp), range_none (fun j hj => HJm.out j (by rw [← HN.out] at hj; omega)), ← HN.out]
                rfl
              subst hb
              refine bodyPost_ret (v := .tuple #[.slice (some ⟨N, 0, none⟩) kk kk, .int .i64 0]) (by simp [results, Tryz.results47, go_sem]) rfl ⟨_, rfl, ?_, HF2.out.2⟩
              have := HF2.out.1
              rw [evs_len] at this
              exact this
  · have bz : (pe != 0) = true := by simp [hz]
    gi_wp2
    have hb : bs = ([], pe) := by rw [HBS.out, polishS, if_pos (by rw [← HPE.out]; exact hz), HPE.out]
    subst hb
    refine bodyPost_ret (v := .tuple #[.slice none 0 0, .int .i64 pe]) (by simp [results, Tryz.results47, go_sem]) rfl ⟨.slice none 0 0, rfl, Kd.R_nil _ _ _ _ _, below_none hgw1⟩
end Go.Proofs.YtekdacalkllipaaGreat.PR
end
section
namespace Go.Proofs.YtekdacalkllipaaGreat.PR
open Go.RowKit Go.Shelf Go.Proofs.YtekdacalkllipaaGreatW.PrintWords Go.Proofs.YtekdacalkllipaaGreatW.PrintLast Go.Proofs.YtekdacalkllipaaGreatW.PrintMore
set_option linter.unusedVariables false
set_option linter.unusedSimpArgs false
def holdsFrom (need : List Int) (cases : List (List Int)) : Int → List (List Int) → Bool
  | _, [] => true
  | watch, on :: r => holdsB need cases on watch && holdsFrom need cases (watch + 1) r
theorem incB_len {l : List Int} {b : Nat} (h : incB l b = true) : l.length ≤ b := by
  have hh := List.all_eq_true.1 h
  have key : ∀ i, i < l.length → (i : Int) ≤ l.getD i 0 := by
    intro i
    induction i with
    | zero =>
      intro hi
      have := hh 0 (List.mem_range.2 hi)
      simp [incAt, inr, lastAt] at this
      simp; omega
    | succ i ih =>
      intro hi
      have h1 := ih (by omega)
      have := hh (i + 1) (List.mem_range.2 hi)
      simp [incAt, inr, lastAt] at this
      simp only [List.getD_eq_getElem?_getD] at *
      push_cast
      omega
  rcases Nat.eq_zero_or_pos l.length with h0 | h0
  · omega
  · have h1 := key (l.length - 1) (by omega)
    have := hh (l.length - 1) (List.mem_range.2 (by omega))
    simp [incAt, inr] at this
    simp only [List.getD_eq_getElem?_getD] at *
    omega
end Go.Proofs.YtekdacalkllipaaGreat.PR
end
section
namespace Go.Proofs.YtekdacalkllipaaGreat.PR
open Go.RowKit Go.Shelf Go.Proofs.YtekdacalkllipaaGreatW.PrintWords Go.Proofs.YtekdacalkllipaaGreatW.PrintLast Go.Proofs.YtekdacalkllipaaGreatW.PrintMore
set_option linter.unusedVariables false
def rota_Rules.f (l0_0 : List Int) (l0_1 : List S128) (l0_2 : List (List Int)) (l1 : List (List Int)) : Option (Bool × Int) := some (decide (rotaErr l0_0 l0_1 l0_2 l1 = 0) && rulesS l0_1 0 l1 std0, rotaErr l0_0 l0_1 l0_2 l1)
def rota_Fails.f (l0_0 : List Int) (l0_1 : List S128) (l0_2 : List (List Int)) (l1 : List (List Int)) : Option (List Int × Int) := if l0_2.length < 1000 then some (if rotaErr l0_0 l0_1 l0_2 l1 = 0 then failsL l0_0 l0_2 l1 else [], rotaErr l0_0 l0_1 l0_2 l1) else none
def rota_Enough.f (l0_0 : List Int) (l0_1 : List S128) (l0_2 : List (List Int)) : Option (List Int × Int) := some (enoughS l0_0 l0_1 l0_2)
def rota_Best.f (l0_0 : List Int) (l0_1 : List S128) (l0_2 : List (List Int)) : Option (List (List Int) × Int × Int) := some (bestS l0_0 l0_1 l0_2)
def rota_Bright.f (a0_0 : Int) (l0_1 : List S98) (l1 : List Int) : Option (List S98 × Int) := some (brightS a0_0 l0_1 l1)
def rota_Polish.f (a0_0 : Int) (l0_1 : List S98) : Option (List Int × Int) := some (polishS a0_0 l0_1)
theorem rotaErr_fine (need : List Int) (people : List S128) (cases r : List (List Int)) (h : rotaErr need people cases r = 0) : r.length = need.length ∧ (∀ l ∈ cases, 0 < l.length) ∧ ∀ l ∈ cases, ∀ on ∈ r, ∀ x ∈ on, 0 ≤ x ∧ x < l.length := by
  unfold rotaErr at h
  by_cases a : postErr need people cases ≠ 0
  · rw [if_pos a] at h; exact absurd h a
  · rw [if_neg a] at h
    have a := Decidable.not_not.1 a
    unfold postErr at a
    by_cases b : 5 < need.length ∨ 4 < people.length ∨ 4 < cases.length
    · rw [if_pos b] at a; cases a
    · rw [if_neg b] at a
      split at a
      · cases a
      · rename_i hb
        simp only [not_or, Bool.not_eq_false] at hb
        obtain ⟨b1, b2, b3, b4, b5⟩ := hb
        split at h
        · cases h
        · rename_i hc
          simp only [not_or, Bool.not_eq_false, Decidable.not_not] at hc
          obtain ⟨c1, c2⟩ := hc
          have hl : ∀ l ∈ cases, l.length = people.length := fun l hl => by
            have := List.all_eq_true.1 b5 l hl
            unfold illOk at this
            simp only [Bool.and_eq_true, decide_eq_true_eq] at this
            omega
          refine ⟨c1, fun l hl' => by have := hl l hl'; omega, fun l hl' on hon x hx => ?_⟩
          have h2 := List.all_eq_true.1 c2 on hon
          have h3 := incB_mem h2 x hx
          have := hl l hl'
          omega
theorem rota_Rules.calls (A0_0 : Option Addr) (c0_0 : Nat) (l0_0 : List Int) (A0_1 : Option Addr) (c0_1 : Nat) (l0_1 : List S128) (A0_2 : Option Addr) (c0_2 : Nat) (l0_2 : List (List Int)) (A1 : Option Addr) (c1 : Nat) (l1 : List (List Int)) (r1 : Bool) (r2 : Int) (w : World) (hr0_0 : Kd.C (Kd.int .i64) w A0_0 l0_0.length l0_0) (hc0_0 : l0_0.length ≤ c0_0) (hr0_1 : Kd.C k128 w A0_1 l0_1.length l0_1) (hc0_1 : l0_1.length ≤ c0_1) (hr0_2 : Kd.C (Kd.slice 3 (Kd.int .i64)) w A0_2 l0_2.length l0_2) (hc0_2 : l0_2.length ≤ c0_2) (hr1 : Kd.C (Kd.slice 3 (Kd.int .i64)) w A1 l1.length l1) (hc1 : l1.length ≤ c1) (h : rota_Rules.f l0_0 l0_1 l0_2 l1 = some (r1, r2)) :
    Calls Tryz.prog 20 #[.agg #[.slice A0_0 l0_0.length c0_0, .slice A0_1 l0_1.length c0_1, .slice A0_2 l0_2.length c0_2], .slice A1 l1.length c1] w fun e w' => e = .returned (.tuple #[.bool r1, .int .i64 r2]) ∧ Below w.heap.size w w' := by
  injection h with h
  injection h with h1 h2
  subst h1
  subst h2
  refine (Rules_any A0_0 c0_0 l0_0 A0_1 c0_1 l0_1 A0_2 c0_2 l0_2 A1 c1 l1 w hr0_0 hr0_1 hr0_2 hr1).mono ?_
  rintro e w' ⟨rfl, hg⟩
  exact ⟨rfl, below_none hg⟩
theorem rota_Fails.calls (A0_0 : Option Addr) (c0_0 : Nat) (l0_0 : List Int) (A0_1 : Option Addr) (c0_1 : Nat) (l0_1 : List S128) (A0_2 : Option Addr) (c0_2 : Nat) (l0_2 : List (List Int)) (A1 : Option Addr) (c1 : Nat) (l1 : List (List Int)) (r1 : List Int) (r2 : Int) (w : World) (hr0_0 : Kd.C (Kd.int .i64) w A0_0 l0_0.length l0_0) (hc0_0 : l0_0.length ≤ c0_0) (hr0_1 : Kd.C k128 w A0_1 l0_1.length l0_1) (hc0_1 : l0_1.length ≤ c0_1) (hr0_2 : Kd.C (Kd.slice 3 (Kd.int .i64)) w A0_2 l0_2.length l0_2) (hc0_2 : l0_2.length ≤ c0_2) (hr1 : Kd.C (Kd.slice 3 (Kd.int .i64)) w A1 l1.length l1) (hc1 : l1.length ≤ c1) (h : rota_Fails.f l0_0 l0_1 l0_2 l1 = some (r1, r2)) :
    Calls Tryz.prog 25 #[.agg #[.slice A0_0 l0_0.length c0_0, .slice A0_1 l0_1.length c0_1, .slice A0_2 l0_2.length c0_2], .slice A1 l1.length c1] w fun e w' => ∃ v0_ : Value, e = .returned (.tuple #[v0_, .int .i64 r2]) ∧ Kd.R (Kd.int .i64) 3 w' w.heap.size (fun _ => True) v0_ r1 ∧ Below w.heap.size w w' := by
  unfold rota_Fails.f at h
  by_cases hcl : l0_2.length < 1000
  · rw [if_pos hcl] at h
    injection h with h
    injection h with h1 h2
    subst h1
    subst h2
    refine (Fails_any A0_0 c0_0 l0_0 A0_1 c0_1 [] l0_1.length A0_2 c0_2 l0_2 A1 c1 l1 _ w hr0_0 hr0_2 hr1 (check_any A0_0 c0_0 l0_0 A0_1 c0_1 l0_1 A0_2 c0_2 l0_2 A1 c1 l1 _ (Kd.C_alloc (Kd.C_alloc hr0_0 _) _) (Kd.C_alloc (Kd.C_alloc hr0_1 _) _) (Kd.C_alloc (Kd.C_alloc hr0_2 _) _) (Kd.C_alloc (Kd.C_alloc hr1 _) _)) hcl (rotaErr_fine l0_0 l0_1 l0_2 l1)).mono ?_
    rintro e w' ⟨⟨v, rfl, hR⟩, hg⟩
    exact ⟨v, rfl, hR, below_none hg⟩
  · rw [if_neg hcl] at h
    cases h
theorem rota_Enough.calls (A0_0 : Option Addr) (c0_0 : Nat) (l0_0 : List Int) (A0_1 : Option Addr) (c0_1 : Nat) (l0_1 : List S128) (A0_2 : Option Addr) (c0_2 : Nat) (l0_2 : List (List Int)) (r1 : List Int) (r2 : Int) (w : World) (hr0_0 : Kd.C (Kd.int .i64) w A0_0 l0_0.length l0_0) (hc0_0 : l0_0.length ≤ c0_0) (hr0_1 : Kd.C k128 w A0_1 l0_1.length l0_1) (hc0_1 : l0_1.length ≤ c0_1) (hr0_2 : Kd.C (Kd.slice 3 (Kd.int .i64)) w A0_2 l0_2.length l0_2) (hc0_2 : l0_2.length ≤ c0_2) (h : rota_Enough.f l0_0 l0_1 l0_2 = some (r1, r2)) :
    Calls Tryz.prog 28 #[.agg #[.slice A0_0 l0_0.length c0_0, .slice A0_1 l0_1.length c0_1, .slice A0_2 l0_2.length c0_2]] w fun e w' => ∃ v0_ : Value, e = .returned (.tuple #[v0_, .int .i64 r2]) ∧ Kd.R (Kd.int .i64) 3 w' w.heap.size (fun _ => True) v0_ r1 ∧ Below w.heap.size w w' := by
  injection h with h
  have h1 := congrArg Prod.fst h
  have h2 := congrArg Prod.snd h
  dsimp only at h1 h2
  subst h1
  subst h2
  exact Enough_any A0_0 c0_0 l0_0 A0_1 c0_1 l0_1 A0_2 c0_2 l0_2 w hr0_0 hc0_0 hr0_1 hc0_1 hr0_2 hc0_2
theorem rota_Best.calls (A0_0 : Option Addr) (c0_0 : Nat) (l0_0 : List Int) (A0_1 : Option Addr) (c0_1 : Nat) (l0_1 : List S128) (A0_2 : Option Addr) (c0_2 : Nat) (l0_2 : List (List Int)) (r1 : List (List Int)) (r2 : Int) (r3 : Int) (w : World) (hr0_0 : Kd.C (Kd.int .i64) w A0_0 l0_0.length l0_0) (hc0_0 : l0_0.length ≤ c0_0) (hr0_1 : Kd.C k128 w A0_1 l0_1.length l0_1) (hc0_1 : l0_1.length ≤ c0_1) (hr0_2 : Kd.C (Kd.slice 3 (Kd.int .i64)) w A0_2 l0_2.length l0_2) (hc0_2 : l0_2.length ≤ c0_2) (h : rota_Best.f l0_0 l0_1 l0_2 = some (r1, r2, r3)) :
    Calls Tryz.prog 42 #[.agg #[.slice A0_0 l0_0.length c0_0, .slice A0_1 l0_1.length c0_1, .slice A0_2 l0_2.length c0_2]] w fun e w' => ∃ v0_ : Value, e = .returned (.tuple #[v0_, .int .i64 r2, .int .i64 r3]) ∧ Kd.S (Kd.slice 3 (Kd.int .i64)) 22 w' w.heap.size (fun _ => True) v0_ r1 ∧ Below w.heap.size w w' := by
  injection h with h
  have h1 := congrArg Prod.fst h
  have h2 := congrArg (fun p => p.2.1) h
  have h3 := congrArg (fun p => p.2.2) h
  dsimp only at h1 h2 h3
  subst h1
  subst h2
  subst h3
  exact Best_any A0_0 c0_0 l0_0 A0_1 c0_1 l0_1 A0_2 c0_2 l0_2 w hr0_0 hc0_0 hr0_1 hc0_1 hr0_2 hc0_2
theorem rota_Bright.calls (a0_0 : Int) (A0_1 : Option Addr) (c0_1 : Nat) (l0_1 : List S98) (A1 : Option Addr) (c1 : Nat) (l1 : List Int) (r1 : List S98) (r2 : Int) (w : World) (hr0_1 : Kd.C k98 w A0_1 l0_1.length l0_1) (hc0_1 : l0_1.length ≤ c0_1) (hr1 : Kd.C (Kd.int .i64) w A1 l1.length l1) (hc1 : l1.length ≤ c1) (h : rota_Bright.f a0_0 l0_1 l1 = some (r1, r2)) :
    Calls Tryz.prog 44 #[.agg #[.int .i64 a0_0, .slice A0_1 l0_1.length c0_1], .slice A1 l1.length c1] w fun e w' => ∃ v0_ : Value, e = .returned (.tuple #[v0_, .int .i64 r2]) ∧ Kd.R k98 98 w' w.heap.size (fun _ => True) v0_ r1 ∧ Below w.heap.size w w' := by
  injection h with h
  have h1 := congrArg Prod.fst h
  have h2 := congrArg Prod.snd h
  dsimp only at h1 h2
  subst h1
  subst h2
  exact Bright_any a0_0 A0_1 c0_1 l0_1 A1 c1 l1 w hr0_1 hr1 hc1
theorem rota_Polish.calls (a0_0 : Int) (A0_1 : Option Addr) (c0_1 : Nat) (l0_1 : List S98) (r1 : List Int) (r2 : Int) (w : World) (hr0_1 : Kd.C k98 w A0_1 l0_1.length l0_1) (hc0_1 : l0_1.length ≤ c0_1) (h : rota_Polish.f a0_0 l0_1 = some (r1, r2)) :
    Calls Tryz.prog 47 #[.agg #[.int .i64 a0_0, .slice A0_1 l0_1.length c0_1]] w fun e w' => ∃ v0_ : Value, e = .returned (.tuple #[v0_, .int .i64 r2]) ∧ Kd.R (Kd.int .i64) 3 w' w.heap.size (fun _ => True) v0_ r1 ∧ Below w.heap.size w w' := by
  injection h with h
  have h1 := congrArg Prod.fst h
  have h2 := congrArg Prod.snd h
  dsimp only at h1 h2
  subst h1
  subst h2
  exact Polish_any a0_0 A0_1 c0_1 l0_1 w hr0_1
end Go.Proofs.YtekdacalkllipaaGreat.PR
end
section
namespace Go.Proofs.YtekdacalkllipaaGreat.PR
open Go.RowKit Go.Shelf Go.Proofs.YtekdacalkllipaaGreatW.PrintWords Go.Proofs.YtekdacalkllipaaGreatW.PrintLast Go.Proofs.YtekdacalkllipaaGreatW.PrintMore
set_option linter.unusedVariables false
def insI (x : List Int) : List (List Int) → List (List Int)
  | [] => [x]
  | y :: l => if cmpS x y ≤ 0 then x :: y :: l else y :: insI x l
def sortI : List (List Int) → List (List Int)
  | [] => []
  | x :: l => insI x (sortI l)
theorem insI_perm (x : List Int) : ∀ l, (insI x l).Perm (x :: l)
  | [] => List.Perm.refl _
  | y :: l => by
    unfold insI
    split
    · exact List.Perm.refl _
    · exact ((insI_perm x l).cons y).trans (List.Perm.swap x y l)
theorem sortI_perm : ∀ l, (sortI l).Perm l
  | [] => List.Perm.refl _
  | x :: l => (insI_perm x _).trans ((sortI_perm l).cons x)
theorem cmpS_le_trans {a b c : List Int} (h1 : cmpS a b ≤ 0) (h2 : cmpS b c ≤ 0) : cmpS a c ≤ 0 := by
  by_cases e1 : cmpS a b = 0
  · rw [cmpS_zero e1]; exact h2
  · by_cases e2 : cmpS b c = 0
    · rw [← cmpS_zero e2]; exact h1
    · have := cmpS_trans (a := a) (b := b) (c := c) (by omega) (by omega); omega
theorem insI_sorted (x : List Int) : ∀ l, l.Pairwise (fun a b => cmpS a b ≤ 0) → (insI x l).Pairwise (fun a b => cmpS a b ≤ 0)
  | [], _ => by simp [insI]
  | y :: l, h => by
    unfold insI
    rw [List.pairwise_cons] at h
    split
    · rename_i hxy
      rw [List.pairwise_cons, List.pairwise_cons]
      refine ⟨fun z hz => ?_, h⟩
      rcases List.mem_cons.1 hz with rfl | hz
      · exact hxy
      · exact cmpS_le_trans hxy (h.1 z hz)
    · rename_i hxy
      rw [List.pairwise_cons]
      refine ⟨fun z hz => ?_, insI_sorted x l h.2⟩
      rcases List.mem_cons.1 ((insI_perm x l).mem_iff.1 hz) with rfl | hz
      · have := cmpS_swap z y; omega
      · exact h.1 z hz
theorem sortI_sorted : ∀ l, (sortI l).Pairwise (fun a b => cmpS a b ≤ 0)
  | [] => List.Pairwise.nil
  | x :: l => insI_sorted x _ (sortI_sorted l)
theorem sortL_eq (l : List (List Int)) : sortL l = sortI l := by
  unfold sortL
  refine List.Perm.eq_of_pairwise (le := fun a b => cmpS a b ≤ 0) (fun a b _ _ h1 h2 => cmpS_zero (by have := cmpS_swap a b; omega)) ?_ (sortI_sorted l) ((List.mergeSort_perm _ _).trans (sortI_perm l).symm)
  refine (List.pairwise_mergeSort (fun a b c h1 h2 => ?_) (fun a b => ?_) l).imp (fun {a b} h => ?_)
  · simp only [Bool.not_eq_true', decide_eq_false_iff_not] at *
    have s1 := cmpS_swap a b; have s2 := cmpS_swap b c; have s3 := cmpS_swap a c
    have := cmpS_le_trans (a := a) (b := b) (c := c) (by omega) (by omega)
    omega
  · have s1 := cmpS_swap a b
    simp only [Bool.or_eq_true, Bool.not_eq_true', decide_eq_false_iff_not]
    omega
  · simp only [Bool.not_eq_true', decide_eq_false_iff_not] at h
    have s1 := cmpS_swap a b
    omega
def listsI (people : List Int) : List (List Int) := sortI ((List.range (2 ^ people.length)).map (subL people))
theorem listsS_eq : listsS = listsI := funext fun p => sortL_eq _
def fewI (need : List Int) (people : List S128) (cases : List (List Int)) (sm : List Int) : Int := (mkW need people cases (listsI sm)).few need.length 0 std0
theorem fewS_eq (need : List Int) (people : List S128) (cases : List (List Int)) (sm : List Int) : fewS need people cases sm = fewI need people cases sm := by unfold fewS workS fewI; rw [listsS_eq]
def rowsI (need : List Int) (people : List S128) (cases : List (List Int)) (sm : List Int) : List (List Int) := (mkW need people cases (listsI sm)).rows need.length 0 std0 (fewI need people cases sm)
theorem rowsS_eq (need : List Int) (people : List S128) (cases : List (List Int)) (sm : List Int) : rowsS need people cases sm = rowsI need people cases sm := by unfold rowsS workS rowsI; rw [listsS_eq, fewS_eq]
def bestI (need : List Int) (people : List S128) (cases : List (List Int)) : List (List Int) × Int × Int :=
  if postErr need people cases ≠ 0 then ([], 0, postErr need people cases)
  else if 1024 ≤ fewI need people cases (evs people.length) then ([], 0, 10)
  else (rowsI need people cases (evs people.length), fewI need people cases (evs people.length), 0)
theorem bestS_eq (need : List Int) (people : List S128) (cases : List (List Int)) : bestS need people cases = bestI need people cases := by unfold bestS bestI; rw [fewS_eq, rowsS_eq]
def enoughI (need : List Int) (people : List S128) (cases : List (List Int)) : List Int × Int :=
  if postErr need people cases ≠ 0 then ([], postErr need people cases)
  else match (listsI (evs people.length)).find? (fun l => decide (fewI need people cases l < 1024)) with
    | some l => (l, 0)
    | none => ([], 10)
theorem enoughS_eq (need : List Int) (people : List S128) (cases : List (List Int)) : enoughS need people cases = enoughI need people cases := by
  unfold enoughS enoughI
  rw [listsS_eq, show (fun l => decide (fewS need people cases l < 1024)) = (fun l => decide (fewI need people cases l < 1024)) from funext fun l => by rw [fewS_eq]]
  rfl
def exN : List Int := [1, 1, 1, 1]
def exP : List S128 := [⟨[true, true, true, true], 1, 2⟩, ⟨[true, true, true, true], 1, 2⟩, ⟨[false, true, true, false], 0, 4⟩]
def exC : List (List Int) := [[2, -1, -1]]
def exG : List S98 := [⟨10, 20⟩, ⟨5, 25⟩, ⟨0, 10⟩, ⟨10, 15⟩]
set_option maxRecDepth 100000
theorem ex_best : rota_Best.f exN exP exC = some ([[0], [1], [2], [1]], 4, 0) := by
  show some (bestS exN exP exC) = _
  rw [bestS_eq]
  decide +kernel
theorem ex_enough : rota_Enough.f exN exP exC = some ([1, 2], 0) := by
  show some (enoughS exN exP exC) = _
  rw [enoughS_eq]
  decide +kernel
theorem ex_rules : rota_Rules.f exN exP exC [[0], [0], [2], [1]] = some (false, 0) := by decide +kernel
theorem ex_fails : rota_Fails.f exN exP exC [[0], [1], [0], [1]] = some ([2, -1], 0) := by decide +kernel
theorem ex_bright : rota_Bright.f 60 exG [1, 2] = some ([⟨80, 90⟩, ⟨75, 95⟩, ⟨90, 100⟩, ⟨75, 90⟩], 0) := by rfl
theorem ex_polish : rota_Polish.f 60 exG = some ([1, 2], 0) := by decide +kernel
end Go.Proofs.YtekdacalkllipaaGreat.PR
end
section
namespace Go.Proofs.YtekdacalkllipaaGreat.PR
open Go.RowKit Go.Shelf Go.Proofs.YtekdacalkllipaaGreatW.PrintWords Go.Proofs.YtekdacalkllipaaGreatW.PrintLast Go.Proofs.YtekdacalkllipaaGreatW.PrintMore
set_option linter.unusedVariables false
set_option maxRecDepth 10000
def SL {α : Type} (d : Kd α) (A : Option Addr) (c : Nat) (W : World) (xs : List α) : Prop := xs.length ≤ c ∧ d.C W A xs.length xs
theorem SL.below {α : Type} {d : Kd α} {A : Option Addr} {c : Nat} {W W' : World} {xs : List α} (h : SL d A c W xs) (hb : Below W.heap.size W W') : SL d A c W' xs := ⟨h.1, Kd.C_below h.2 hb⟩
theorem tower_any (w : World) : Calls Tryz.prog 69 #[.slice none 0 0] w fun e w' => ∃ A0 c0 A1 c1 A2 c2, e = .returned (.agg #[.slice A0 4 c0, .slice A1 3 c1, .slice A2 1 c2]) ∧ SL (Kd.int .i64) A0 c0 w' exN ∧ SL k128 A1 c1 w' exP ∧ SL KR A2 c2 w' exC ∧ Below w.heap.size w w' := by
  refine (glisterlaw10_tower.calls (fun _ => True) none 0 [] exN exP exC w (Kd.V_nil _ _ _ _ _) (by kernel_rfl)).mono ?_
  rintro e w' ⟨v0, v1, v2, rfl, h0, h1, h2, hb⟩
  obtain ⟨A0, c0, rfl, d0, e0⟩ := Kd.R_reads h0
  obtain ⟨A1, c1, rfl, d1, e1⟩ := Kd.N_reads h1
  obtain ⟨A2, c2, rfl, d2, e2⟩ := Kd.N_reads h2
  exact ⟨A0, c0, A1, c1, A2, c2, rfl, ⟨d0, e0⟩, ⟨d1, e1⟩, ⟨d2, e2⟩, hb⟩
theorem glass_any (w : World) : Calls Tryz.prog 70 #[] w fun e w' => ∃ A c, e = .returned (.agg #[.int .i64 60, .slice A 4 c]) ∧ SL k98 A c w' exG ∧ Below w.heap.size w w' := by
  refine (glisterlaw10_glass.calls 60 exG w rfl).mono ?_
  rintro e w' ⟨v, rfl, h, hb⟩
  obtain ⟨A0, c0, rfl, d0, e0⟩ := Kd.R_reads h
  exact ⟨A0, c0, rfl, ⟨d0, e0⟩, hb⟩
section
variable {A0 A1 A2 A3 : Option Addr} {c0 c1 c2 c3 : Nat} {w : World}
theorem best_ex (h0 : SL (Kd.int .i64) A0 c0 w exN) (h1 : SL k128 A1 c1 w exP) (h2 : SL KR A2 c2 w exC) :
    Calls Tryz.prog 42 #[.agg #[.slice A0 4 c0, .slice A1 3 c1, .slice A2 1 c2]] w fun e w' => ∃ A c, e = .returned (.tuple #[.slice A 4 c, .int .i64 4, .int .i64 0]) ∧ SL KR A c w' [[0], [1], [2], [1]] ∧ Below w.heap.size w w' := by
  refine (rota_Best.calls A0 c0 exN A1 c1 exP A2 c2 exC _ _ _ w h0.2 h0.1 h1.2 h1.1 h2.2 h2.1 ex_best).mono ?_
  rintro e w' ⟨v, rfl, h, hb⟩
  obtain ⟨A, c, rfl, d0, e0⟩ := Kd.S_reads h
  exact ⟨A, c, rfl, ⟨d0, e0⟩, hb⟩
theorem enough_ex (h0 : SL (Kd.int .i64) A0 c0 w exN) (h1 : SL k128 A1 c1 w exP) (h2 : SL KR A2 c2 w exC) :
    Calls Tryz.prog 28 #[.agg #[.slice A0 4 c0, .slice A1 3 c1, .slice A2 1 c2]] w fun e w' => ∃ A c, e = .returned (.tuple #[.slice A 2 c, .int .i64 0]) ∧ SL (Kd.int .i64) A c w' [1, 2] ∧ Below w.heap.size w w' := by
  refine (rota_Enough.calls A0 c0 exN A1 c1 exP A2 c2 exC _ _ w h0.2 h0.1 h1.2 h1.1 h2.2 h2.1 ex_enough).mono ?_
  rintro e w' ⟨v, rfl, h, hb⟩
  obtain ⟨A, c, rfl, d0, e0⟩ := Kd.R_reads h
  exact ⟨A, c, rfl, ⟨d0, e0⟩, hb⟩
theorem rules_ex (h0 : SL (Kd.int .i64) A0 c0 w exN) (h1 : SL k128 A1 c1 w exP) (h2 : SL KR A2 c2 w exC) (h3 : SL KR A3 c3 w [[0], [0], [2], [1]]) :
    Calls Tryz.prog 20 #[.agg #[.slice A0 4 c0, .slice A1 3 c1, .slice A2 1 c2], .slice A3 4 c3] w fun e w' => e = .returned (.tuple #[.bool false, .int .i64 0]) ∧ Below w.heap.size w w' :=
  rota_Rules.calls A0 c0 exN A1 c1 exP A2 c2 exC A3 c3 [[0], [0], [2], [1]] false 0 w h0.2 h0.1 h1.2 h1.1 h2.2 h2.1 h3.2 h3.1 ex_rules
theorem fails_ex (h0 : SL (Kd.int .i64) A0 c0 w exN) (h1 : SL k128 A1 c1 w exP) (h2 : SL KR A2 c2 w exC) (h3 : SL KR A3 c3 w [[0], [1], [0], [1]]) :
    Calls Tryz.prog 25 #[.agg #[.slice A0 4 c0, .slice A1 3 c1, .slice A2 1 c2], .slice A3 4 c3] w fun e w' => ∃ A c, e = .returned (.tuple #[.slice A 2 c, .int .i64 0]) ∧ SL (Kd.int .i64) A c w' [2, -1] ∧ Below w.heap.size w w' := by
  refine (rota_Fails.calls A0 c0 exN A1 c1 exP A2 c2 exC A3 c3 [[0], [1], [0], [1]] [2, -1] 0 w h0.2 h0.1 h1.2 h1.1 h2.2 h2.1 h3.2 h3.1 ex_fails).mono ?_
  rintro e w' ⟨v, rfl, h, hb⟩
  obtain ⟨A, c, rfl, d0, e0⟩ := Kd.R_reads h
  exact ⟨A, c, rfl, ⟨d0, e0⟩, hb⟩
theorem bright_ex (h0 : SL k98 A0 c0 w exG) (h1 : SL (Kd.int .i64) A1 c1 w [1, 2]) :
    Calls Tryz.prog 44 #[.agg #[.int .i64 60, .slice A0 4 c0], .slice A1 2 c1] w fun e w' => ∃ g c, e = .returned (.tuple #[.slice (some ⟨g, 0, none⟩) 4 c, .int .i64 0]) ∧ SL k98 (some ⟨g, 0, none⟩) c w' [⟨80, 90⟩, ⟨75, 95⟩, ⟨90, 100⟩, ⟨75, 90⟩] ∧ Below w.heap.size w w' := by
  refine (rota_Bright.calls 60 A0 c0 exG A1 c1 [1, 2] _ _ w h0.2 h0.1 h1.2 h1.1 ex_bright).mono ?_
  rintro e w' ⟨v, rfl, h, hb⟩
  obtain ⟨g, c, rfl, _⟩ := Kd.R_form h (by simp)
  have h9 := Kd.R_reads' h
  exact ⟨g, c, rfl, h9.2, hb⟩
theorem polish_ex (h0 : SL k98 A0 c0 w exG) :
    Calls Tryz.prog 47 #[.agg #[.int .i64 60, .slice A0 4 c0]] w fun e w' => ∃ A c, e = .returned (.tuple #[.slice A 2 c, .int .i64 0]) ∧ SL (Kd.int .i64) A c w' [1, 2] ∧ Below w.heap.size w w' := by
  refine (rota_Polish.calls 60 A0 c0 exG _ _ w h0.2 h0.1 ex_polish).mono ?_
  rintro e w' ⟨v, rfl, h, hb⟩
  obtain ⟨A, c, rfl, d0, e0⟩ := Kd.R_reads h
  exact ⟨A, c, rfl, ⟨d0, e0⟩, hb⟩
theorem drawn_below {w w' : World} (h : Drawn0 w w') : Below w.heap.size w w' := by
  obtain ⟨n, rfl⟩ := h.out
  exact pw_below_drewN (Below.refl _ _) n
theorem same_ex (xs : List (List Int)) (n : Nat) (hn : n = xs.length) (h0 : SL KR A0 c0 w xs) (h1 : SL KR A1 c1 w xs) (hs : glisterlaw10_same.f 40 xs xs = some true) :
    Calls Tryz.prog 67 #[.slice A0 n c0, .slice A1 n c1] w fun e w' => e = .returned (.bool true) ∧ Below w.heap.size w w' := by
  subst hn
  refine (glisterlaw10_same.calls 40 A0 c0 xs A1 c1 xs true w h0.2 h0.1 h1.2 h1.1 hs).mono ?_
  rintro e w' ⟨rfl, h⟩
  exact ⟨rfl, drawn_below h⟩
theorem Same_ex (xs : List Int) (n : Nat) (hn : n = xs.length) (h0 : SL (Kd.int .i64) A0 c0 w xs) (h1 : SL (Kd.int .i64) A1 c1 w xs) (hs : glisterref10_Same.f 40 xs xs = some true) :
    Calls Tryz.prog 30 #[.slice A0 n c0, .slice A1 n c1] w fun e w' => e = .returned (.bool true) ∧ Below w.heap.size w w' := by
  subst hn
  refine (glisterref10_Same.calls 40 A0 c0 xs A1 c1 xs true w h0.2 h0.1 h1.2 h1.1 hs).mono ?_
  rintro e w' ⟨rfl, h⟩
  exact ⟨rfl, drawn_below h⟩
end
theorem same_t : glisterlaw10_same.f 40 [[0], [1], [2], [1]] [[0], [1], [2], [1]] = some true := by decide +kernel
theorem Same_t1 : glisterref10_Same.f 40 [1, 2] [1, 2] = some true := by decide +kernel
theorem Same_t2 : glisterref10_Same.f 40 [2, -1] [2, -1] = some true := by decide +kernel
theorem lit_int {W : World} {b : Nat} {xs : List Int} (h : W.heap[b]? = some (.cells (xs.map (Value.int .i64)).toArray 3 (0, 0))) (hl : xs.length ≤ 1000) (n : Nat) (hn : n = xs.length) : SL (Kd.int .i64) (some ⟨b, 0, none⟩) n W xs := by
  subst hn
  have := R_ints (W := W) (base := 0) (N := b) (xs := xs) (Nat.zero_le _) h (by unfold maxLen; omega) xs.length rfl
  obtain ⟨A, c, e, h1, h2⟩ := Kd.R_reads this
  cases e
  exact ⟨h1, h2⟩
theorem lit_row {W : World} {b : Nat} {l0 l1 l2 l3 : List Int} {A0 A1 A2 A3 : Option Addr} {c0 c1 c2 c3 : Nat} (h : W.heap[b]? = some (.cells #[.slice A0 l0.length c0, .slice A1 l1.length c1, .slice A2 l2.length c2, .slice A3 l3.length c3] 22 (0, 0)))
    (h0 : SL (Kd.int .i64) A0 c0 W l0) (h1 : SL (Kd.int .i64) A1 c1 W l1) (h2 : SL (Kd.int .i64) A2 c2 W l2) (h3 : SL (Kd.int .i64) A3 c3 W l3) : SL KR (some ⟨b, 0, none⟩) 4 W [l0, l1, l2, l3] := by
  refine ⟨Nat.le_refl _, rfl, by simp, fun _ => ⟨_, rfl, fun j p hj => ?_⟩⟩
  have hc : ∀ k, W.cell? ((⟨b, 0, none⟩ : Addr).add k) = (#[.slice A0 l0.length c0, .slice A1 l1.length c1, .slice A2 l2.length c2, .slice A3 l3.length c3] : Array Value)[k]? := fun k => by
    rw [add_plain]
    have := blk_cell h k
    simpa using this
  match j, hj with
  | 0, hj => cases hj; exact ⟨[.slice A0 l0.length c0], rfl, ⟨A0, c0, rfl, h0.1, h0.2⟩, fun i u hi => by cases i with | zero => cases hi; exact hc 0 | succ i => simp at hi⟩
  | 1, hj => cases hj; exact ⟨[.slice A1 l1.length c1], rfl, ⟨A1, c1, rfl, h1.1, h1.2⟩, fun i u hi => by cases i with | zero => cases hi; exact hc 1 | succ i => simp at hi⟩
  | 2, hj => cases hj; exact ⟨[.slice A2 l2.length c2], rfl, ⟨A2, c2, rfl, h2.1, h2.2⟩, fun i u hi => by cases i with | zero => cases hi; exact hc 2 | succ i => simp at hi⟩
  | 3, hj => cases hj; exact ⟨[.slice A3 l3.length c3], rfl, ⟨A3, c3, rfl, h3.1, h3.2⟩, fun i u hi => by cases i with | zero => cases hi; exact hc 3 | succ i => simp at hi⟩
  | j + 4, hj => simp at hj
set_option maxRecDepth 100000 in
theorem eq_r1 (w : World) : (Op.equal 98 (.agg #[.int .i64 75, .int .i64 95]) (.agg #[.int .i64 75, .int .i64 95])).run Tryz.prog w = .ok true w := by kernel_rfl
theorem eq_r2 (w : World) : (Op.equal 98 (.agg #[.int .i64 75, .int .i64 90]) (.agg #[.int .i64 75, .int .i64 90])).run Tryz.prog w = .ok true w := by kernel_rfl
end Go.Proofs.YtekdacalkllipaaGreat.PR
end
section
namespace Go.Proofs.YtekdacalkllipaaGreat.PR
open Go.RowKit Go.Shelf Go.Proofs.YtekdacalkllipaaGreatW.PrintWords Go.Proofs.YtekdacalkllipaaGreatW.PrintLast Go.Proofs.YtekdacalkllipaaGreatW.PrintMore
set_option linter.unusedVariables false
set_option linter.unusedSimpArgs false
attribute [local go_sem] Oper.semAt_some
theorem lits2 (a b : Int) (w : World) : ∃ W N, W = w.alloc (.cells #[.int .i64 a, .int .i64 b] 3) ∧ Below w.heap.size w W ∧ SL (Kd.int .i64) (some ⟨N, 0, none⟩) 2 W [a, b] ∧ N = w.heap.size :=
  ⟨_, _, rfl, below_alloc (Below.refl _ _) _, lit_int (blk_new w _) (by simp) 2 rfl, rfl⟩
theorem lits4 (a b c d : Int) (w : World) : ∃ W N, W = ((((w.alloc (.cells #[.int .i64 a] 3)).alloc (.cells #[.int .i64 b] 3)).alloc (.cells #[.int .i64 c] 3)).alloc (.cells #[.int .i64 d] 3)).alloc (.cells #[.slice (some ⟨w.heap.size, 0, none⟩) 1 1, .slice (some ⟨w.heap.size + 1, 0, none⟩) 1 1, .slice (some ⟨w.heap.size + 1 + 1, 0, none⟩) 1 1, .slice (some ⟨w.heap.size + 1 + 1 + 1, 0, none⟩) 1 1] 22) ∧
    Below w.heap.size w W ∧ SL KR (some ⟨N, 0, none⟩) 4 W [[a], [b], [c], [d]] ∧ N = w.heap.size + 1 + 1 + 1 + 1 := by
  refine ⟨_, _, rfl, below_alloc (below_alloc (below_alloc (below_alloc (below_alloc (Below.refl _ _) _) _) _) _) _, ?_, rfl⟩
  have hn : ∀ (W : World) (o : Obj) (n : Nat), W.heap.size = n → (W.alloc o).heap[n]? = some o := fun W o n e => by rw [← e]; exact blk_new W o
  refine lit_row (l0 := [a]) (l1 := [b]) (l2 := [c]) (l3 := [d]) (hn _ _ _ (by simp [World.size_alloc])) ?_ ?_ ?_ ?_
  · exact lit_int (xs := [a]) (blk_alloc (blk_alloc (blk_alloc (blk_alloc (hn _ _ _ (by simp [World.size_alloc])) _) _) _) _) (by simp) 1 rfl
  · exact lit_int (xs := [b]) (blk_alloc (blk_alloc (blk_alloc (hn _ _ _ (by simp [World.size_alloc])) _) _) _) (by simp) 1 rfl
  · exact lit_int (xs := [c]) (blk_alloc (blk_alloc (hn _ _ _ (by simp [World.size_alloc])) _) _) (by simp) 1 rfl
  · exact lit_int (xs := [d]) (blk_alloc (hn _ _ _ (by simp [World.size_alloc])) _) (by simp) 1 rfl
set_option maxRecDepth 100000 in
set_option maxHeartbeats 4000000 in
theorem lawake_any (w : World) : Calls Tryz.prog 17 #[] w fun e w' => e = .returned (.bool true) ∧ Below w.heap.size w w' := by
  go_enter Tryz.func17, Tryz.ntmps17
  have HB0 : Aside0 (Below w.heap.size w w) := ⟨Below.refl _ _⟩
  obtain ⟨w0, hw0⟩ : ∃ w0, w0 = w := ⟨_, rfl⟩
  go_wp2_with fail
  refine (tower_any _).mono ?_
  rintro e w1 ⟨A0, c0, A1, c1, A2, c2, rfl, h0, h1, h2, hb⟩
  have HB1 := Aside0.mk (HB0.out.trans (hb.mono HB0.out.size))
  have H01 := Aside0.mk h0
  have H11 := Aside0.mk h1
  have H21 := Aside0.mk h2
  clear hb h0 h1 h2 HB0
  have hc := Aside0.mk (best_ex H01.out H11.out H21.out)
  go_wp2_with fail
  refine hc.out.mono ?_
  rintro e w2 ⟨AR, cR, rfl, hR, hb⟩
  clear hc
  have HB2 := Aside0.mk (HB1.out.trans (hb.mono HB1.out.size))
  have H02 := Aside0.mk (H01.out.below hb)
  have H12 := Aside0.mk (H11.out.below hb)
  have H22 := Aside0.mk (H21.out.below hb)
  have HR2 := Aside0.mk hR
  clear hb hR H01 H11 H21 HB1
  clear H02 H12 H22
  go_wp2_with fail
  refine (tower_any _).mono ?_
  rintro e w3 ⟨A0, c0, A1, c1, A2, c2, rfl, h0, h1, h2, hb⟩
  have HB3 := Aside0.mk (HB2.out.trans (hb.mono HB2.out.size))
  have HR3 := Aside0.mk (HR2.out.below hb)
  have H03 := Aside0.mk h0
  have H13 := Aside0.mk h1
  have H23 := Aside0.mk h2
  clear hb h0 h1 h2 HR2 HB2
  have hc := Aside0.mk (enough_ex H03.out H13.out H23.out)
  go_wp2_with fail
  refine hc.out.mono ?_
  rintro e w4 ⟨AL, cL, rfl, hL, hb⟩
  clear hc
  have HB4 := Aside0.mk (HB3.out.trans (hb.mono HB3.out.size))
  have HR4 := Aside0.mk (HR3.out.below hb)
  have H04 := Aside0.mk (H03.out.below hb)
  have H14 := Aside0.mk (H13.out.below hb)
  have H24 := Aside0.mk (H23.out.below hb)
  have HL4 := Aside0.mk hL
  clear hb hL HR3 H03 H13 H23 HB3
  clear H04 H14 H24
  go_wp2_with fail
  refine (tower_any _).mono ?_
  rintro e w5 ⟨A0, c0, A1, c1, A2, c2, rfl, h0, h1, h2, hb⟩
  have HB5 := Aside0.mk (HB4.out.trans (hb.mono HB4.out.size))
  have HR5 := Aside0.mk (HR4.out.below hb)
  have HL5 := Aside0.mk (HL4.out.below hb)
  have H05 := Aside0.mk h0
  have H15 := Aside0.mk h1
  have H25 := Aside0.mk h2
  clear hb h0 h1 h2 HR4 HL4 HB4
  go_wp2_with fail
  obtain ⟨wl, bl, hwl, hbl, hsl, hnl⟩ := lits4 0 0 2 1 w5
  have hb := hbl
  have HB6 := Aside0.mk (HB5.out.trans (hb.mono HB5.out.size))
  have HR6 := Aside0.mk (HR5.out.below hb)
  have HL6 := Aside0.mk (HL5.out.below hb)
  have H06 := Aside0.mk (H05.out.below hb)
  have H16 := Aside0.mk (H15.out.below hb)
  have H26 := Aside0.mk (H25.out.below hb)
  have HT6 := Aside0.mk hsl
  clear hb hbl hsl HR5 HL5 H05 H15 H25 HB5
  rw [← hwl, ← hnl]
  have hc := Aside0.mk (rules_ex H06.out H16.out H26.out HT6.out)
  clear hwl hnl
  refine hc.out.mono ?_
  rintro e w7 ⟨rfl, hb⟩
  clear hc
  have hb' := hb
  have HB7 := Aside0.mk (HB6.out.trans (hb.mono HB6.out.size))
  have HR7 := Aside0.mk (HR6.out.below hb)
  have HL7 := Aside0.mk (HL6.out.below hb)
  have H07 := Aside0.mk (H06.out.below hb)
  have H17 := Aside0.mk (H16.out.below hb)
  have H27 := Aside0.mk (H26.out.below hb)
  have HT7 := Aside0.mk (HT6.out.below hb)
  clear hb  HR6 HL6 H06 H16 H26 HT6 HB6
  clear hb'
  clear HT7
  clear H07 H17 H27
  go_wp2_with fail
  refine (tower_any _).mono ?_
  rintro e w8 ⟨A0, c0, A1, c1, A2, c2, rfl, h0, h1, h2, hb⟩
  have HB8 := Aside0.mk (HB7.out.trans (hb.mono HB7.out.size))
  have HR8 := Aside0.mk (HR7.out.below hb)
  have HL8 := Aside0.mk (HL7.out.below hb)
  have H08 := Aside0.mk h0
  have H18 := Aside0.mk h1
  have H28 := Aside0.mk h2
  clear hb h0 h1 h2 HR7 HL7 HB7
  go_wp2_with fail
  obtain ⟨wl, bl, hwl, hbl, hsl, hnl⟩ := lits4 0 1 0 1 w8
  have hb := hbl
  have HB9 := Aside0.mk (HB8.out.trans (hb.mono HB8.out.size))
  have HR9 := Aside0.mk (HR8.out.below hb)
  have HL9 := Aside0.mk (HL8.out.below hb)
  have H09 := Aside0.mk (H08.out.below hb)
  have H19 := Aside0.mk (H18.out.below hb)
  have H29 := Aside0.mk (H28.out.below hb)
  have HT9 := Aside0.mk hsl
  clear hb hbl hsl HR8 HL8 H08 H18 H28 HB8
  rw [← hwl, ← hnl]
  have hc := Aside0.mk (fails_ex H09.out H19.out H29.out HT9.out)
  clear hwl hnl
  refine hc.out.mono ?_
  rintro e w10 ⟨AX, cX, rfl, hX, hb⟩
  clear hc
  have hb' := hb
  have HB10 := Aside0.mk (HB9.out.trans (hb.mono HB9.out.size))
  have HR10 := Aside0.mk (HR9.out.below hb)
  have HL10 := Aside0.mk (HL9.out.below hb)
  have H010 := Aside0.mk (H09.out.below hb)
  have H110 := Aside0.mk (H19.out.below hb)
  have H210 := Aside0.mk (H29.out.below hb)
  have HT10 := Aside0.mk (HT9.out.below hb)
  have HX10 := Aside0.mk hX
  clear hb hX HR9 HL9 H09 H19 H29 HT9 HB9
  clear hb'
  clear HT10
  clear H010 H110 H210
  go_wp2_with fail
  refine (glass_any _).mono ?_
  rintro e w11 ⟨A0, c0, rfl, h0, hb⟩
  have HB11 := Aside0.mk (HB10.out.trans (hb.mono HB10.out.size))
  have HR11 := Aside0.mk (HR10.out.below hb)
  have HL11 := Aside0.mk (HL10.out.below hb)
  have HX11 := Aside0.mk (HX10.out.below hb)
  have H011 := Aside0.mk h0
  clear hb h0 HR10 HL10 HX10 HB10
  go_wp2_with fail
  obtain ⟨wl, bl, hwl, hbl, hsl, hnl⟩ := lits2 1 2 w11
  have hb := hbl
  have HB12 := Aside0.mk (HB11.out.trans (hb.mono HB11.out.size))
  have HR12 := Aside0.mk (HR11.out.below hb)
  have HL12 := Aside0.mk (HL11.out.below hb)
  have HX12 := Aside0.mk (HX11.out.below hb)
  have H012 := Aside0.mk (H011.out.below hb)
  have HT12 := Aside0.mk hsl
  clear hb hbl hsl HR11 HL11 HX11 H011 HB11
  rw [← hwl, ← hnl]
  have hc := Aside0.mk (bright_ex H012.out HT12.out)
  clear hwl hnl
  refine hc.out.mono ?_
  rintro e w13 ⟨gG, cG, rfl, hG, hb⟩
  clear hc
  have hb' := hb
  have HB13 := Aside0.mk (HB12.out.trans (hb.mono HB12.out.size))
  have HR13 := Aside0.mk (HR12.out.below hb)
  have HL13 := Aside0.mk (HL12.out.below hb)
  have HX13 := Aside0.mk (HX12.out.below hb)
  have H013 := Aside0.mk (H012.out.below hb)
  have HT13 := Aside0.mk (HT12.out.below hb)
  have HG13 := Aside0.mk hG
  clear hb hG HR12 HL12 HX12 H012 HT12 HB12
  clear hb'
  clear HT13
  clear H013
  go_wp2_with fail
  refine (glass_any _).mono ?_
  rintro e w14 ⟨A0, c0, rfl, h0, hb⟩
  have HB14 := Aside0.mk (HB13.out.trans (hb.mono HB13.out.size))
  have HR14 := Aside0.mk (HR13.out.below hb)
  have HL14 := Aside0.mk (HL13.out.below hb)
  have HX14 := Aside0.mk (HX13.out.below hb)
  have HG14 := Aside0.mk (HG13.out.below hb)
  have H014 := Aside0.mk h0
  clear hb h0 HR13 HL13 HX13 HG13 HB13
  have hc := Aside0.mk (polish_ex H014.out)
  go_wp2_with fail
  refine hc.out.mono ?_
  rintro e w15 ⟨AP, cP, rfl, hP, hb⟩
  clear hc
  have HB15 := Aside0.mk (HB14.out.trans (hb.mono HB14.out.size))
  have HR15 := Aside0.mk (HR14.out.below hb)
  have HL15 := Aside0.mk (HL14.out.below hb)
  have HX15 := Aside0.mk (HX14.out.below hb)
  have HG15 := Aside0.mk (HG14.out.below hb)
  have H015 := Aside0.mk (H014.out.below hb)
  have HP15 := Aside0.mk hP
  clear hb hP HR14 HL14 HX14 HG14 H014 HB14
  clear H015
  go_wp2_with fail
  obtain ⟨wl, bl, hwl, hbl, hsl, hnl⟩ := lits4 0 1 2 1 w15
  have hb := hbl
  have HB16 := Aside0.mk (HB15.out.trans (hb.mono HB15.out.size))
  have HR16 := Aside0.mk (HR15.out.below hb)
  have HL16 := Aside0.mk (HL15.out.below hb)
  have HX16 := Aside0.mk (HX15.out.below hb)
  have HG16 := Aside0.mk (HG15.out.below hb)
  have HP16 := Aside0.mk (HP15.out.below hb)
  have HT16 := Aside0.mk hsl
  clear hb hbl hsl HR15 HL15 HX15 HG15 HP15 HB15
  rw [← hwl, ← hnl]
  have hc := Aside0.mk (same_ex _ 4 rfl HR16.out HT16.out same_t)
  clear hwl hnl
  refine hc.out.mono ?_
  rintro e w17 ⟨rfl, hb⟩
  clear hc
  have hb' := hb
  have HB17 := Aside0.mk (HB16.out.trans (hb.mono HB16.out.size))
  have HR17 := Aside0.mk (HR16.out.below hb)
  have HL17 := Aside0.mk (HL16.out.below hb)
  have HX17 := Aside0.mk (HX16.out.below hb)
  have HG17 := Aside0.mk (HG16.out.below hb)
  have HP17 := Aside0.mk (HP16.out.below hb)
  have HT17 := Aside0.mk (HT16.out.below hb)
  clear hb  HR16 HL16 HX16 HG16 HP16 HT16 HB16
  clear hb'
  clear HT17
  clear HR17
  go_wp2_with fail
  obtain ⟨wl, bl, hwl, hbl, hsl, hnl⟩ := lits2 1 2 w17
  have hb := hbl
  have HB18 := Aside0.mk (HB17.out.trans (hb.mono HB17.out.size))
  have HL18 := Aside0.mk (HL17.out.below hb)
  have HX18 := Aside0.mk (HX17.out.below hb)
  have HG18 := Aside0.mk (HG17.out.below hb)
  have HP18 := Aside0.mk (HP17.out.below hb)
  have HT18 := Aside0.mk hsl
  clear hb hbl hsl HL17 HX17 HG17 HP17 HB17
  rw [← hwl, ← hnl]
  have hc := Aside0.mk (Same_ex _ 2 rfl HL18.out HT18.out Same_t1)
  clear hwl hnl
  refine hc.out.mono ?_
  rintro e w19 ⟨rfl, hb⟩
  clear hc
  have hb' := hb
  have HB19 := Aside0.mk (HB18.out.trans (hb.mono HB18.out.size))
  have HL19 := Aside0.mk (HL18.out.below hb)
  have HX19 := Aside0.mk (HX18.out.below hb)
  have HG19 := Aside0.mk (HG18.out.below hb)
  have HP19 := Aside0.mk (HP18.out.below hb)
  have HT19 := Aside0.mk (HT18.out.below hb)
  clear hb  HL18 HX18 HG18 HP18 HT18 HB18
  clear hb'
  clear HT19
  clear HL19
  go_wp2_with fail
  obtain ⟨wl, bl, hwl, hbl, hsl, hnl⟩ := lits2 2 (-1) w19
  have hb := hbl
  have HB20 := Aside0.mk (HB19.out.trans (hb.mono HB19.out.size))
  have HX20 := Aside0.mk (HX19.out.below hb)
  have HG20 := Aside0.mk (HG19.out.below hb)
  have HP20 := Aside0.mk (HP19.out.below hb)
  have HT20 := Aside0.mk hsl
  clear hb hbl hsl HX19 HG19 HP19 HB19
  rw [← hwl, ← hnl]
  have hc := Aside0.mk (Same_ex _ 2 rfl HX20.out HT20.out Same_t2)
  clear hwl hnl
  refine hc.out.mono ?_
  rintro e w21 ⟨rfl, hb⟩
  clear hc
  have hb' := hb
  have HB21 := Aside0.mk (HB20.out.trans (hb.mono HB20.out.size))
  have HX21 := Aside0.mk (HX20.out.below hb)
  have HG21 := Aside0.mk (HG20.out.below hb)
  have HP21 := Aside0.mk (HP20.out.below hb)
  have HT21 := Aside0.mk (HT20.out.below hb)
  clear hb  HX20 HG20 HP20 HT20 HB20
  clear hb'
  clear HT21
  clear HX21
  obtain ⟨ad, e0, hx0, hx1⟩ := at_T98 HG21.out.2 1 (by omega) (by simp)
  obtain ⟨ad', e1, hy0, hy1⟩ := at_T98 HG21.out.2 3 (by omega) (by simp)
  cases e0
  cases e1
  simp only [rd_T98] at hx0 hx1 hy0 hy1
  simp [add_plain] at hx0 hx1 hy0 hy1
  have hE1 := eq_r1
  have hE2 := eq_r2
  go_wp2_with fail
  obtain ⟨wl, bl, hwl, hbl, hsl, hnl⟩ := lits2 1 2 w21
  have hb := hbl
  have HB22 := Aside0.mk (HB21.out.trans (hb.mono HB21.out.size))
  have HG22 := Aside0.mk (HG21.out.below hb)
  have HP22 := Aside0.mk (HP21.out.below hb)
  have HT22 := Aside0.mk hsl
  clear hb hbl hsl HG21 HP21 HB21
  rw [← hwl, ← hnl]
  have hc := Aside0.mk (Same_ex _ 2 rfl HP22.out HT22.out Same_t1)
  clear hwl hnl
  refine hc.out.mono ?_
  rintro e w23 ⟨rfl, hb⟩
  clear hc
  have hb' := hb
  have HB23 := Aside0.mk (HB22.out.trans (hb.mono HB22.out.size))
  have HG23 := Aside0.mk (HG22.out.below hb)
  have HP23 := Aside0.mk (HP22.out.below hb)
  have HT23 := Aside0.mk (HT22.out.below hb)
  clear hb  HG22 HP22 HT22 HB22
  clear hb'
  clear HT23
  clear HP23
  go_wp2
  go_ret
  exact ⟨rfl, HB23.out⟩
end Go.Proofs.YtekdacalkllipaaGreat.PR
end
section
namespace Go.Proofs.YtekdacalkllipaaGreat.PR
open Go.RowKit Go.Shelf Go.Proofs.YtekdacalkllipaaGreatW.PrintWords Go.Proofs.YtekdacalkllipaaGreatW.PrintLast Go.Proofs.YtekdacalkllipaaGreatW.PrintMore
set_option linter.unusedVariables false
set_option linter.unusedSimpArgs false
def Ev {α : Type} (f : Nat → Option α) (v : α) : Prop := ∃ k0, ∀ k, k0 ≤ k → f k = some v
section
variable {α β : Type} {f g : Nat → Option α} {v : α}
theorem Ev.now (h : ∀ k, f k = some v) : Ev f v := ⟨0, fun k _ => h k⟩
theorem Ev.step (h : ∀ k, g (k + 1) = f k) (hf : Ev f v) : Ev g v := by
  obtain ⟨k0, hk⟩ := hf
  refine ⟨k0 + 1, fun k hk1 => ?_⟩
  obtain ⟨m, rfl⟩ : ∃ m, k = m + 1 := ⟨k - 1, by omega⟩
  rw [h]
  exact hk m (by omega)
theorem Ev.congr (h : ∀ k, g k = f k) (hf : Ev f v) : Ev g v := by
  obtain ⟨k0, hk⟩ := hf
  exact ⟨k0, fun k hk1 => by rw [h, hk k hk1]⟩
theorem Ev.bind {q : Nat → α → Option β} {b : β} (hf : Ev f v) (hq : Ev (fun k => q k v) b) : Ev (fun k => (f k).bind (q k)) b := by
  obtain ⟨k0, h0⟩ := hf
  obtain ⟨k1, h1⟩ := hq
  exact ⟨max k0 k1, fun k hk => by show (f k).bind (q k) = some b; rw [h0 k (by omega)]; exact h1 k (by omega)⟩
theorem Ev.one (h : Ev f v) : ∃ k, f k = some v := by obtain ⟨k0, h0⟩ := h; exact ⟨k0, h0 k0 (Nat.le_refl _)⟩
end
theorem wr1 {i : Nat} (h : i < 1000000) : wrap64 ((i : Int) + 1) = ((i + 1 : Nat) : Int) := by unfold wrap64; omega
theorem loop_all {α : Type} (F : Nat → Int → Option α) (n : Nat) (p : Nat → Bool) (v0 v1 : α)
    (hstep : ∀ i, i < n → ∀ v, Ev (fun k => F k ((i + 1 : Nat) : Int)) v → Ev (fun k => F k (i : Int)) (if p i then v else v1))
    (hend : Ev (fun k => F k (n : Int)) v0) : Ev (fun k => F k (0 : Int)) (if (List.range n).all p then v0 else v1) := by
  have key : ∀ d i, i + d = n → Ev (fun k => F k (i : Int)) (if (List.range' i d).all p then v0 else v1) := by
    intro d
    induction d with
    | zero => intro i hi; obtain rfl : i = n := by omega
              simpa using hend
    | succ d ih =>
      intro i hi
      have h := hstep i (by omega) _ (ih (i + 1) (by omega))
      have e : (if p i then (if (List.range' (i + 1) d).all p then v0 else v1) else v1) = (if (List.range' i (d + 1)).all p then v0 else v1) := by
        rw [List.range'_succ, List.all_cons]
        cases p i <;> simp only [Bool.true_and, Bool.false_and, if_true, Bool.false_eq_true, if_false]
      rw [e] at h
      exact h
  have := key n 0 (by omega)
  rw [← List.range_eq_range'] at this
  exact this
theorem rd_get {l : List Int} {i : Nat} : rd l (i : Int) = l.getD i 0 := by unfold rd; simp
theorem rdL_get {l : List (List Int)} {i : Nat} : rd_L1 l (i : Int) = l.getD i [] := by unfold rd_L1; simp
theorem all_get {l : List Int} (p : Int → Bool) : ((List.range l.length).all fun i => p (l.getD i 0)) = l.all p := by
  rw [Bool.eq_iff_iff, List.all_eq_true, List.all_eq_true]
  constructor
  · intro h x hx
    obtain ⟨i, hi, rfl⟩ := List.getElem_of_mem hx
    have := h i (List.mem_range.2 hi)
    simpa [List.getD_eq_getElem?_getD, List.getElem?_eq_getElem hi] using this
  · intro h i hi
    have hi := List.mem_range.1 hi
    have := h _ (List.getElem_mem hi)
    simpa [List.getD_eq_getElem?_getD, List.getElem?_eq_getElem hi] using this
theorem all_getL {l : List (List Int)} (p : List Int → Bool) : ((List.range l.length).all fun i => p (l.getD i [])) = l.all p := by
  rw [Bool.eq_iff_iff, List.all_eq_true, List.all_eq_true]
  constructor
  · intro h x hx
    obtain ⟨i, hi, rfl⟩ := List.getElem_of_mem hx
    have := h i (List.mem_range.2 hi)
    simpa [List.getD_eq_getElem?_getD, List.getElem?_eq_getElem hi] using this
  · intro h i hi
    have hi := List.mem_range.1 hi
    have := h _ (List.getElem_mem hi)
    simpa [List.getD_eq_getElem?_getD, List.getElem?_eq_getElem hi] using this
theorem all_getP {l : List S119} (p : S119 → Bool) : ((List.range l.length).all fun i => p (rd_T119 l (i : Int))) = l.all p := by
  rw [Bool.eq_iff_iff, List.all_eq_true, List.all_eq_true]
  constructor
  · intro h x hx
    obtain ⟨i, hi, rfl⟩ := List.getElem_of_mem hx
    have := h i (List.mem_range.2 hi)
    simpa [rd_T119, List.getD_eq_getElem?_getD, List.getElem?_eq_getElem hi] using this
  · intro h i hi
    have hi := List.mem_range.1 hi
    have := h _ (List.getElem_mem hi)
    simpa [rd_T119, List.getD_eq_getElem?_getD, List.getElem?_eq_getElem hi] using this
theorem has_ev (l : List Int) (a : Int) (hl : l.length < 1000) : Ev (fun k => glisterref10_Has.f k l a) (l.contains a) := by
  have h := loop_all (fun k i => glisterref10_Has.l0 k l a i) l.length (fun i => decide (l.getD i 0 ≠ a)) false true (fun i hi v hv => by
      refine Ev.step (f := fun k => if l.getD i 0 = a then some true else glisterref10_Has.l0 k l a ((i + 1 : Nat) : Int)) (fun k => ?_) ?_
      · rw [glisterref10_Has.l0, if_pos (by omega), if_pos (by omega), rd_get, wr1 (by omega)]
      · by_cases e : l.getD i 0 = a
        · simp only [if_pos e, e, ne_eq, not_true_eq_false, decide_false, Bool.false_eq_true, if_false]
          exact Ev.now fun _ => rfl
        · simp only [if_neg e, ne_eq, e, not_false_eq_true, decide_true, if_true]
          exact hv)
    (Ev.step (f := fun _ => some false) (fun k => by rw [glisterref10_Has.l0, if_neg (by omega)]) (Ev.now fun _ => rfl))
  have e : (if ((List.range l.length).all fun i => decide (l.getD i 0 ≠ a)) = true then false else true) = l.contains a := by
    rw [all_get (fun x => decide (x ≠ a))]
    cases hc : l.contains a with
    | true =>
      rw [if_neg]
      intro h2
      have := List.all_eq_true.1 h2 a (by simpa using hc)
      simp at this
    | false =>
      rw [if_pos]
      rw [List.all_eq_true]
      intro x hx
      simp only [decide_eq_true_eq]
      rintro rfl
      rw [List.contains_iff_mem.2 hx] at hc
      cases hc
  rw [e] at h
  exact h
theorem in_ev (a b c : Int) : glisterref10_In.f a b c = some (inr a b c) := by
  unfold glisterref10_In.f inr
  by_cases h : a ≥ b
  · rw [if_pos h]; simp [show b ≤ a from h]
  · rw [if_neg h]; simp; omega
def riseAt (l : List Int) (below : Int) (i : Nat) : Bool := inr (l.getD i 0) 0 (below - 1) && (decide (i = 0) || decide (l.getD (i - 1) 0 < l.getD i 0))
theorem rise_inc (l : List Int) (below : Int) : (List.range l.length).all (riseAt l below) = incB l below := by
  rw [Bool.eq_iff_iff]
  constructor
  · intro h
    refine incB_yes fun i hi => ?_
    have h1 := List.all_eq_true.1 h i (List.mem_range.2 hi)
    unfold riseAt inr at h1
    unfold incAt inr lastAt
    simp only [Bool.and_eq_true, Bool.or_eq_true, decide_eq_true_eq] at h1 ⊢
    cases i with
    | zero => rw [if_pos rfl]; omega
    | succ i => simp only [Nat.add_sub_cancel] at h1 ⊢; omega
  · intro h
    rw [List.all_eq_true]
    intro i hi
    have hi := List.mem_range.1 hi
    have h1 := List.all_eq_true.1 h i (List.mem_range.2 hi)
    have h2 := incB_mem h (l.getD i 0) (by rw [List.getD_eq_getElem?_getD, List.getElem?_eq_getElem hi]; exact List.getElem_mem hi)
    unfold riseAt inr
    unfold incAt inr lastAt at h1
    simp only [Bool.and_eq_true, Bool.or_eq_true, decide_eq_true_eq] at h1 ⊢
    cases i with
    | zero => exact ⟨⟨h2.1, by omega⟩, .inl rfl⟩
    | succ i => simp only [Nat.add_sub_cancel] at h1 ⊢; omega
def toP (x : S119) : S128 := ⟨x.f0, x.f1, x.f2⟩
end Go.Proofs.YtekdacalkllipaaGreat.PR
end
section
namespace Go.Proofs.YtekdacalkllipaaGreat.PR
open Go.RowKit Go.Shelf Go.Proofs.YtekdacalkllipaaGreatW.PrintWords Go.Proofs.YtekdacalkllipaaGreatW.PrintLast Go.Proofs.YtekdacalkllipaaGreatW.PrintMore
set_option linter.unusedVariables false
set_option linter.unusedSimpArgs false
theorem rdT_get {l : List S119} {i : Nat} : rd_T119 l (i : Int) = l.getD i z119 := by unfold rd_T119; simp
theorem list_ev (l : List Int) (h : l.length < 1000) : glisterlaw10_list.f l = some l := by
  unfold glisterlaw10_list.f
  simp only [Option.bind_some]
  rw [if_pos (by simp; omega)]; simp
theorem rows_ev (l : List (List Int)) (h : l.length < 1000) (hx : ∀ x ∈ l, x.length < 1000) : Ev (fun k => glisterlaw10_rows.f k l) l := by
  have key : ∀ d i, i + d = l.length → Ev (fun k => glisterlaw10_rows.l0 k l (l.take i) (i : Int)) l := by
    intro d
    induction d with
    | zero =>
      intro i hi
      refine Ev.step (f := fun _ => some (l.take i)) (fun k => by rw [glisterlaw10_rows.l0, if_neg (by omega)]) (Ev.now fun _ => by rw [List.take_of_length_le (by omega)])
    | succ d ih =>
      intro i hi
      have hi' : i < l.length := by omega
      have e : l.getD i [] = l[i] := by rw [List.getD_eq_getElem?_getD, List.getElem?_eq_getElem hi']; rfl
      refine Ev.step (f := fun k => glisterlaw10_rows.l0 k l (l.take (i + 1)) ((i + 1 : Nat) : Int)) (fun k => ?_) (ih (i + 1) (by omega))
      rw [glisterlaw10_rows.l0, if_pos (by omega), if_pos (by omega), rdL_get, e, list_ev _ (hx _ (List.getElem_mem hi')), wr1 (by omega)]
      simp only [Option.bind_some]
      rw [if_pos (by simp; omega), ← List.take_succ_eq_append_getElem hi']
  have := key l.length 0 (by omega)
  simp only [List.take_zero] at this
  exact this
theorem post_ev (need : List Int) (people : List S119) (cases : List (List Int)) (h0 : need.length < 1000) (h1 : people.length < 1000) (h1x : ∀ x ∈ people, x.f0.length < 1000) (h2 : cases.length < 1000) (h2x : ∀ x ∈ cases, x.length < 1000) :
    Ev (fun k => glisterlaw10_Post.f k need people cases) (need, people.map toP, cases) := by
  have key : ∀ d i, i + d = people.length → Ev (fun k => glisterlaw10_Post.l0 k (i : Int) need people cases need ((people.take i).map toP) cases) (need, people.map toP, cases) := by
    intro d
    induction d with
    | zero =>
      intro i hi
      refine Ev.step (f := fun _ => some (need, (people.take i).map toP, cases)) (fun k => by rw [glisterlaw10_Post.l0, if_neg (by omega)]) (Ev.now fun _ => by rw [List.take_of_length_le (by omega)])
    | succ d ih =>
      intro i hi
      have hi' : i < people.length := by omega
      have e : people.getD i z119 = people[i] := by rw [List.getD_eq_getElem?_getD, List.getElem?_eq_getElem hi']; rfl
      have hxl := h1x _ (List.getElem_mem hi')
      refine Ev.step (f := fun k => glisterlaw10_Post.l0 k ((i + 1 : Nat) : Int) need people cases need ((people.take (i + 1)).map toP) cases) (fun k => ?_) (ih (i + 1) (by omega))
      rw [glisterlaw10_Post.l0, if_pos (by omega), if_pos (by omega), rdT_get, e, wr1 (by omega)]
      simp only [Option.bind_some]
      rw [if_pos (by simp; omega), if_pos (by simp; omega), List.take_succ_eq_append_getElem hi', List.map_append]
      rfl
  have := key people.length 0 (by omega)
  refine Ev.congr (f := fun k => (glisterlaw10_rows.f k cases).bind fun t123 => glisterlaw10_Post.l0 k 0 need people cases need [] t123) (fun k => ?_) (Ev.bind (rows_ev cases h2 h2x) (by simpa using this))
  unfold glisterlaw10_Post.f
  rw [list_ev _ h0]
  rfl
theorem short_ev (l : List (List Int)) : ∃ b, Ev (fun k => glisterlaw10_short.f k l) b ∧ (b = true → l.length ≤ 8 ∧ ∀ x ∈ l, x.length ≤ 9) := by
  have key : ∀ d i, i + d = 9 → (∀ j, j < i → j < l.length → (l.getD j []).length ≤ 9) → ∃ b, Ev (fun k => glisterlaw10_short.l0 k l (i : Int)) b ∧ (b = true → l.length ≤ 8 ∧ ∀ x ∈ l, x.length ≤ 9) := by
    intro d
    have hend : ∀ i, (∀ j, j < i → j < l.length → (l.getD j []).length ≤ 9) → (l.length ≤ i ∨ 9 ≤ i) → ∃ b, (∀ k, glisterlaw10_short.j1 (k + 1) l (i : Int) false = some b) ∧ (b = true → l.length ≤ 8 ∧ ∀ x ∈ l, x.length ≤ 9) := by
      intro i hj hor
      refine ⟨decide ((l.length : Int) ≤ 8), fun k => by rw [glisterlaw10_short.j1, if_neg (by simp)], fun h => ?_⟩
      have h8 := of_decide_eq_true h
      refine ⟨by omega, fun x hx => ?_⟩
      obtain ⟨j, hjl, rfl⟩ := List.getElem_of_mem hx
      have := hj j (by omega) hjl
      rwa [List.getD_eq_getElem?_getD, List.getElem?_eq_getElem hjl] at this
    induction d with
    | zero =>
      intro i hi hj
      obtain ⟨b, h1, h2⟩ := hend i hj (.inr (by omega))
      refine ⟨b, Ev.step (f := fun k => glisterlaw10_short.j1 k l (i : Int) false) (fun k => ?_) (Ev.step (f := fun _ => some b) h1 (Ev.now fun _ => rfl)), h2⟩
      rw [glisterlaw10_short.l0]
      by_cases hl : (i : Int) < (l.length : Int)
      · rw [if_pos hl, show decide ((i : Int) < 9) = false by simp; omega]
      · rw [if_neg hl]
    | succ d ih =>
      intro i hi hj
      by_cases hl : i < l.length
      · by_cases h9 : 9 < (l.getD i []).length
        · refine ⟨false, Ev.step (f := fun k => glisterlaw10_short.j1 k l (i : Int) true) (fun k => ?_) (Ev.step (f := fun _ => some false) (fun k => ?_) (Ev.now fun _ => rfl)), fun h => by cases h⟩
          · rw [glisterlaw10_short.l0, if_pos (by omega), show decide ((i : Int) < 9) = true by simp; omega]
          · rw [glisterlaw10_short.j1, if_pos rfl, if_pos (by omega), if_pos (by omega), rdL_get, if_pos (by omega)]
        · obtain ⟨b, h1, h2⟩ := ih (i + 1) (by omega) (fun j hji hjl => by
            by_cases e : j = i
            · subst e; omega
            · exact hj j (by omega) hjl)
          refine ⟨b, Ev.step (f := fun k => glisterlaw10_short.j1 k l (i : Int) true) (fun k => ?_) (Ev.step (f := fun k => glisterlaw10_short.l0 k l ((i + 1 : Nat) : Int)) (fun k => ?_) h1), h2⟩
          · rw [glisterlaw10_short.l0, if_pos (by omega), show decide ((i : Int) < 9) = true by simp; omega]
          · rw [glisterlaw10_short.j1, if_pos rfl, if_pos (by omega), if_pos (by omega), rdL_get, if_neg (by omega), wr1 (by omega)]
      · obtain ⟨b, h1, h2⟩ := hend i hj (.inl (by omega))
        refine ⟨b, Ev.step (f := fun k => glisterlaw10_short.j1 k l (i : Int) false) (fun k => ?_) (Ev.step (f := fun _ => some b) h1 (Ev.now fun _ => rfl)), h2⟩
        rw [glisterlaw10_short.l0, if_neg (by omega)]
  exact key 9 0 (by omega) (fun j h => by omega)
def ThinP (need : List Int) (people : List S119) (cases : List (List Int)) : Prop := need.length ≤ 8 ∧ people.length ≤ 7 ∧ cases.length ≤ 7 ∧ (∀ x ∈ people, x.f0.length ≤ 9) ∧ ∀ x ∈ cases, x.length ≤ 9
theorem thin_ev (need : List Int) (people : List S119) (cases : List (List Int)) : ∃ b, Ev (fun k => glisterlaw10_Thin.f k need people cases) b ∧ (b = true → ThinP need people cases) := by
  have hend : ∀ i, (∀ j, j < i → j < people.length → (people.getD j z119).f0.length ≤ 9) → (people.length ≤ i ∨ 8 ≤ i) → ∃ b, Ev (fun k => glisterlaw10_Thin.j1 k (i : Int) false need people cases) b ∧ (b = true → ThinP need people cases) := by
    intro i hj hor
    obtain ⟨b, h1, h2⟩ := short_ev cases
    by_cases a0 : need.length ≤ 8
    · by_cases a1 : people.length ≤ 7
      · by_cases a2 : cases.length ≤ 7
        · refine ⟨b, Ev.step (f := fun k => (glisterlaw10_short.f k cases).bind fun t104 => some t104) (fun k => ?_) (Ev.bind h1 (Ev.now fun _ => rfl)), fun h => ⟨a0, a1, a2, fun x hx => ?_, (h2 h).2⟩⟩
          · rw [glisterlaw10_Thin.j1, if_neg (by simp), if_pos (by omega), if_pos (by omega), if_pos (by omega)]
          · obtain ⟨j, hjl, rfl⟩ := List.getElem_of_mem hx
            have := hj j (by omega) hjl
            rwa [List.getD_eq_getElem?_getD, List.getElem?_eq_getElem hjl] at this
        · exact ⟨false, Ev.step (f := fun _ => some false) (fun k => by rw [glisterlaw10_Thin.j1, if_neg (by simp), if_pos (by omega), if_pos (by omega), if_neg (by omega)]) (Ev.now fun _ => rfl), fun h => by cases h⟩
      · exact ⟨false, Ev.step (f := fun _ => some false) (fun k => by rw [glisterlaw10_Thin.j1, if_neg (by simp), if_pos (by omega), if_neg (by omega)]) (Ev.now fun _ => rfl), fun h => by cases h⟩
    · exact ⟨false, Ev.step (f := fun _ => some false) (fun k => by rw [glisterlaw10_Thin.j1, if_neg (by simp), if_neg (by omega)]) (Ev.now fun _ => rfl), fun h => by cases h⟩
  have key : ∀ d i, i + d = 8 → (∀ j, j < i → j < people.length → (people.getD j z119).f0.length ≤ 9) → ∃ b, Ev (fun k => glisterlaw10_Thin.l0 k (i : Int) need people cases) b ∧ (b = true → ThinP need people cases) := by
    intro d
    induction d with
    | zero =>
      intro i hi hj
      obtain ⟨b, h1, h2⟩ := hend i hj (.inr (by omega))
      refine ⟨b, Ev.step (f := fun k => glisterlaw10_Thin.j1 k (i : Int) false need people cases) (fun k => ?_) h1, h2⟩
      rw [glisterlaw10_Thin.l0]
      by_cases hl : (i : Int) < (people.length : Int)
      · rw [if_pos hl, show decide ((i : Int) < 8) = false by simp; omega]
      · rw [if_neg hl]
    | succ d ih =>
      intro i hi hj
      by_cases hl : i < people.length
      · by_cases h9 : 9 < (people.getD i z119).f0.length
        · refine ⟨false, Ev.step (f := fun k => glisterlaw10_Thin.j1 k (i : Int) true need people cases) (fun k => ?_) (Ev.step (f := fun _ => some false) (fun k => ?_) (Ev.now fun _ => rfl)), fun h => by cases h⟩
          · rw [glisterlaw10_Thin.l0, if_pos (by omega), show decide ((i : Int) < 8) = true by simp; omega]
          · rw [glisterlaw10_Thin.j1, if_pos rfl, if_pos (by omega), if_pos (by omega), rdT_get, if_pos (by omega)]
        · obtain ⟨b, h1, h2⟩ := ih (i + 1) (by omega) (fun j hji hjl => by
            by_cases e : j = i
            · subst e; omega
            · exact hj j (by omega) hjl)
          refine ⟨b, Ev.step (f := fun k => glisterlaw10_Thin.j1 k (i : Int) true need people cases) (fun k => ?_) (Ev.step (f := fun k => glisterlaw10_Thin.l0 k ((i + 1 : Nat) : Int) need people cases) (fun k => ?_) h1), h2⟩
          · rw [glisterlaw10_Thin.l0, if_pos (by omega), show decide ((i : Int) < 8) = true by simp; omega]
          · rw [glisterlaw10_Thin.j1, if_pos rfl, if_pos (by omega), if_pos (by omega), rdT_get, if_neg (by omega), wr1 (by omega)]
      · obtain ⟨b, h1, h2⟩ := hend i hj (.inl (by omega))
        refine ⟨b, Ev.step (f := fun k => glisterlaw10_Thin.j1 k (i : Int) false need people cases) (fun k => ?_) h1, h2⟩
        rw [glisterlaw10_Thin.l0, if_neg (by omega)]
  exact key 8 0 (by omega) (fun j h => by omega)
end Go.Proofs.YtekdacalkllipaaGreat.PR
end
section
namespace Go.Proofs.YtekdacalkllipaaGreat.PR
open Go.RowKit Go.Shelf Go.Proofs.YtekdacalkllipaaGreatW.PrintWords Go.Proofs.YtekdacalkllipaaGreatW.PrintLast Go.Proofs.YtekdacalkllipaaGreatW.PrintMore
set_option linter.unusedVariables false
set_option linter.unusedSimpArgs false
attribute [local go_sem] Oper.semAt_some
attribute [local simp] wide_fn
theorem in_any (a b c : Int) (w : World) : Calls Tryz.prog 99 #[.int .i64 a, .int .i64 b, .int .i64 c] w fun e w' => e = .returned (.bool (inr a b c)) ∧ Below w.heap.size w w' := by
  refine (glisterref10_In.calls a b c _ w (in_ev a b c)).mono ?_
  rintro e w' ⟨rfl, h⟩
  exact ⟨rfl, drawn_below h⟩
set_option maxRecDepth 100000 in
set_option maxHeartbeats 4000000 in
theorem fault_any {A0 A1 A2 : Option Addr} {c0 c1 c2 : Nat} {w : World} {l0 : List Int} {l1 : List S119} {l2 : List (List Int)} (h0 : SL (Kd.int .i64) A0 c0 w l0) (h1 : SL k119 A1 c1 w l1) (h2 : SL KR A2 c2 w l2) :
    Calls Tryz.prog 38 #[.agg #[.slice A0 l0.length c0, .slice A1 l1.length c1, .slice A2 l2.length c2]] w fun e w' => e = .returned (.int .i64 (postErr l0 (l1.map toP) l2)) ∧ Below w.heap.size w w' := by
  obtain ⟨P, hP⟩ : ∃ P, P = w.heap.size := ⟨_, rfl⟩
  obtain ⟨w0, hw0⟩ : ∃ w0, w0 = w.alloc (.cells #[.slice A0 l0.length c0, .slice A1 l1.length c1, .slice A2 l2.length c2] 26) := ⟨_, rfl⟩
  have hb : Below w.heap.size w w0 := by rw [hw0]; exact below_alloc (Below.refl _ _) _
  have hk : w0.heap[P]? = some (.cells #[.slice A0 l0.length c0, .slice A1 l1.length c1, .slice A2 l2.length c2] 26 (0, 0)) := by rw [hw0, hP]; exact blk_new w _
  obtain ⟨er, her⟩ : ∃ er, er = postErr l0 (l1.map toP) l2 := ⟨_, rfl⟩
  rw [← her]
  have HER := Aside0.mk her
  have HK0 := Aside0.mk hk
  have HX0 := Aside0.mk (h0.below hb)
  have HY0 := Aside0.mk (h1.below hb)
  have HZ0 := Aside0.mk (h2.below hb)
  have HB0 := Aside0.mk hb
  clear h0 h1 h2 hb hk her
  have hu26 := Tryz.underlying26
  have q0 : w0.cell? ⟨P, 0, none⟩ = some (.slice A0 l0.length c0) := (blk_cell HK0.out 0).trans rfl
  have q1 : w0.cell? ⟨P, 1, none⟩ = some (.slice A1 l1.length c1) := (blk_cell HK0.out 1).trans rfl
  have q2 : w0.cell? ⟨P, 2, none⟩ = some (.slice A2 l2.length c2) := (blk_cell HK0.out 2).trans rfl
  rw [hw0, hP] at q0 q1 q2
  refine (callsIn_wide (n := 40)).1 ?_
  refine callsIn_of_wp Tryz.func38 rfl trivial ?_ rfl
  simp only [Tryz.ntmps38, List.size_toArray, List.length_cons, List.length_nil, Nat.reduceAdd, Nat.reduceSub, Array.replicate_succ, Array.replicate_zero, List.push_toArray, List.append_toArray, List.nil_append, List.cons_append]
  by_cases a0 : 5 < l0.length
  · have g0 : (5 : Int) < (l0.length : Int) := by omega
    have e : er = 3 := by rw [HER.out, postErr, if_pos (.inl a0)]
    subst e
    gi_wp2
    go_ret
    rw [← hw0]
    exact ⟨rfl, HB0.out⟩
  by_cases a1 : 4 < l1.length
  · have g0 : ¬ (5 : Int) < (l0.length : Int) := by omega
    have g1 : (4 : Int) < (l1.length : Int) := by omega
    have e : er = 3 := by rw [HER.out, postErr, if_pos (.inr (.inl (by simpa using a1)))]
    subst e
    gi_wp2
    go_ret
    rw [← hw0]
    exact ⟨rfl, HB0.out⟩
  by_cases a2 : 4 < l2.length
  · have g0 : ¬ (5 : Int) < (l0.length : Int) := by omega
    have g1 : ¬ (4 : Int) < (l1.length : Int) := by omega
    have g2 : (4 : Int) < (l2.length : Int) := by omega
    have e : er = 3 := by rw [HER.out, postErr, if_pos (.inr (.inr a2))]
    subst e
    gi_wp2
    go_ret
    rw [← hw0]
    exact ⟨rfl, HB0.out⟩
  have g0 : ¬ (5 : Int) < (l0.length : Int) := by omega
  have g1 : ¬ (4 : Int) < (l1.length : Int) := by omega
  have g2 : ¬ (4 : Int) < (l2.length : Int) := by omega
  have HV : Aside0 (er = if l0.length = 0 ∨ l1.length = 0 ∨ (l0.all fun n => inr n 0 2) = false ∨ (l1.all fun x => personOk l0 (toP x)) = false ∨ (l2.all (illOk l0 l1.length)) = false then 1 else 0) := ⟨by
    rw [HER.out, postErr, if_neg (by simp only [List.length_map]; omega)]
    simp only [List.length_map, List.all_map]
    rfl⟩
  have HSM := Aside0.mk (And.intro a0 (And.intro a1 a2))
  clear a0 a1 a2
  by_cases b0 : l0.length = 0
  · have g3 : ((l0.length : Int) == 0) = true := beq_iff_eq.2 (by omega)
    have e : er = 1 := by rw [HV.out, if_pos (.inl b0)]
    subst e
    clear b0
    gi_wp2
    go_ret
    rw [← hw0]
    exact ⟨rfl, HB0.out⟩
  by_cases b1 : l1.length = 0
  · have g3 : ((l0.length : Int) == 0) = false := beq_eq_false_iff_ne.2 (by omega)
    have g4 : ((l1.length : Int) == 0) = true := beq_iff_eq.2 (by omega)
    have e : er = 1 := by rw [HV.out, if_pos (.inr (.inl b1))]
    subst e
    clear b0 b1
    gi_wp2
    go_ret
    rw [← hw0]
    exact ⟨rfl, HB0.out⟩
  have g3 : ((l0.length : Int) == 0) = false := beq_eq_false_iff_ne.2 (by omega)
  have g4 : ((l1.length : Int) == 0) = false := beq_eq_false_iff_ne.2 (by omega)
  have HNZ := Aside0.mk (And.intro b0 b1)
  clear b0 b1
  gi_wp2
  rw [← hw0, ← hP]
  have HP := Aside0.mk hP
  clear hP hw0 q0 q1 q2
  gi_loopw [3] (fun s3 wr => ∃ i : Nat, i ≤ l0.length ∧ s3 = .int .i64 i ∧ Aside0 (Below w.heap.size w wr) ∧ Aside0 (wr.heap[P]? = some (.cells #[.slice A0 l0.length c0, .slice A1 l1.length c1, .slice A2 l2.length c2] 26 (0, 0))) ∧ Aside0 (SL (Kd.int .i64) A0 c0 wr l0) ∧ Aside0 (SL k119 A1 c1 wr l1) ∧ Aside0 (SL KR A2 c2 wr l2) ∧ Aside0 (∀ j, j < i → inr (l0.getD j 0) 0 2 = true))
    (fun s3 _ => l0.length - (intOf s3).toNat)
  case atStart => exact ⟨0, Nat.zero_le _, rfl, HB0, HK0, HX0, HY0, HZ0, ⟨fun j hj => by omega⟩⟩
  case round =>
    obtain ⟨i, hi, rfl, HBr, HKr, HXr, HYr, HZr, HJr⟩ := hrel
    have q0 : wr.cell? ⟨P, 0, none⟩ = some (.slice A0 l0.length c0) := (blk_cell HKr.out 0).trans rfl
    have q1 : wr.cell? ⟨P, 1, none⟩ = some (.slice A1 l1.length c1) := (blk_cell HKr.out 1).trans rfl
    by_cases hlt : i < l0.length
    · have hltz : (i : Int) < (l0.length : Int) := by omega
      obtain ⟨ad, ea, hx⟩ := Kd.at_int HXr.out.2 (i : Int) (by omega) (by omega)
      subst ea
      obtain ⟨v, hv⟩ : ∃ v, v = l0.getD i 0 := ⟨_, rfl⟩
      rw [rd_get, ← hv, Int.toNat_natCast] at hx
      obtain ⟨b, hb⟩ : ∃ b, b = inr v 0 2 := ⟨_, rfl⟩
      have hc := in_any v 0 2 wr
      rw [← hb] at hc
      have HC := Aside0.mk hc
      have HVB := Aside0.mk (And.intro hv hb)
      clear hc hv hb
      gi_wp2_with fail
      refine (callsIn_wide.2 HC.out).mono ?_
      rintro e w5 ⟨rfl, hb5⟩
      have HB5 := Aside0.mk hb5
      clear HC hb5 hx q0 q1
      cases b with
      | true =>
        have hw2 : IntKind.i64.wrap ((i : Int) + 1) = (i : Int) + 1 := by rw [IntKind.wrap_i64]; have := HSM.out.1; omega
        have hw3 : wrap64 ((i : Int) + 1) = (i : Int) + 1 := by unfold wrap64; have := HSM.out.1; omega
        gi_wp2
        go_roundw
        case measure => simp [intOf]; omega
        case rel => exact ⟨i + 1, by omega, by go_num, ⟨HBr.out.trans (HB5.out.mono HBr.out.size)⟩, ⟨blk_below HKr.out HB5.out⟩, ⟨HXr.out.below HB5.out⟩, ⟨HYr.out.below HB5.out⟩, ⟨HZr.out.below HB5.out⟩, ⟨fun j hj => by
          by_cases e : j = i
          · subst e; rw [← HVB.out.1, ← HVB.out.2]
          · exact HJr.out j (by omega)⟩⟩
      | false =>
        have e : er = 1 := by
          rw [HV.out, if_pos]
          refine .inr (.inr (.inl ?_))
          rw [← all_get (fun n => inr n 0 2)]
          cases hq : (List.range l0.length).all fun i => inr (l0.getD i 0) 0 2 with
          | false => rfl
          | true =>
            have := List.all_eq_true.1 hq i (List.mem_range.2 hlt)
            rw [← HVB.out.1, ← HVB.out.2] at this
            cases this
        subst e
        gi_wp2
        go_ret
        exact ⟨rfl, HBr.out.trans (HB5.out.mono HBr.out.size)⟩
    · have hltz : ¬ (i : Int) < (l0.length : Int) := by omega
      obtain rfl : i = l0.length := by omega
      have hall : (l0.all fun n => inr n 0 2) = true := by
        rw [← all_get (fun n => inr n 0 2), List.all_eq_true]
        exact fun j hj => HJr.out j (List.mem_range.1 hj)
      have HV1 : Aside0 (er = if (l1.all fun x => personOk l0 (toP x)) = false ∨ (l2.all (illOk l0 l1.length)) = false then 1 else 0) := ⟨by
        rw [HV.out, hall]
        have h9 := HNZ.out
        simp [h9.1, h9.2]⟩
      clear hall
      clear HJr q0 q1
      have HBa := HBr
      have HKa := HKr
      have HXa := HXr
      have HYa := HYr
      have HZa := HZr
      obtain ⟨wa, hwa⟩ : ∃ wa, wa = wr := ⟨_, rfl⟩
      rw [← hwa] at HBa HKa HXa HYa HZa ⊢
      clear HBr HKr HXr HYr HZr hwa
      have q1 : wa.cell? ⟨P, 1, none⟩ = some (.slice A1 l1.length c1) := (blk_cell HKa.out 1).trans rfl
      have q0 : wa.cell? ⟨P, 0, none⟩ = some (.slice A0 l0.length c0) := (blk_cell HKa.out 0).trans rfl
      gi_wp2
      clear q0
      clear q1
      gi_loopw [4] (fun s4 wr => ∃ i : Nat, i ≤ l1.length ∧ s4 = .int .i64 i ∧ Aside0 (Below w.heap.size w wr) ∧ Aside0 (wr.heap[P]? = some (.cells #[.slice A0 l0.length c0, .slice A1 l1.length c1, .slice A2 l2.length c2] 26 (0, 0))) ∧ Aside0 (SL (Kd.int .i64) A0 c0 wr l0) ∧ Aside0 (SL k119 A1 c1 wr l1) ∧ Aside0 (SL KR A2 c2 wr l2) ∧ Aside0 (∀ j, j < i → personOk l0 (toP (l1.getD j z119)) = true))
        (fun s4 _ => l1.length - (intOf s4).toNat)
      case atStart => exact ⟨0, Nat.zero_le _, rfl, HBa, HKa, HXa, HYa, HZa, ⟨fun j hj => by omega⟩⟩
      case round =>
        obtain ⟨i, hi, rfl, HBr, HKr, HXr, HYr, HZr, HJr⟩ := hrel
        have q0 : wr.cell? ⟨P, 0, none⟩ = some (.slice A0 l0.length c0) := (blk_cell HKr.out 0).trans rfl
        have q1 : wr.cell? ⟨P, 1, none⟩ = some (.slice A1 l1.length c1) := (blk_cell HKr.out 1).trans rfl
        have q2 : wr.cell? ⟨P, 2, none⟩ = some (.slice A2 l2.length c2) := (blk_cell HKr.out 2).trans rfl
        by_cases hlt : i < l1.length
        · have hltz : (i : Int) < (l1.length : Int) := by omega
          obtain ⟨ad, Ax, cx, ea, hx0, hx1, hx2, hxl, hxC⟩ := at_T119 HYr.out.2 (i : Int) (by omega) (by omega)
          subst ea
          obtain ⟨p, hp⟩ : ∃ p, p = l1.getD i z119 := ⟨_, rfl⟩
          rw [rdT_get, ← hp, Int.toNat_natCast] at hx0 hx1 hx2
          obtain ⟨wx, hwx⟩ : ∃ wx, wx = wr.alloc (.cells #[.slice Ax p.f0.length cx, .int .i64 p.f1, .int .i64 p.f2] 119) := ⟨_, rfl⟩
          obtain ⟨G, hG⟩ : ∃ G, G = wr.heap.size := ⟨_, rfl⟩
          have hbx : Below wr.heap.size wr wx := by rw [hwx]; exact below_alloc (Below.refl _ _) _
          have hgx : wx.heap[G]? = some (.cells #[.slice Ax p.f0.length cx, .int .i64 p.f1, .int .i64 p.f2] 119 (0, 0)) := by rw [hwx, hG]; exact blk_new wr _
          have HBx := Aside0.mk (HBr.out.trans (hbx.mono HBr.out.size))
          have HKx := Aside0.mk (blk_below HKr.out hbx)
          have HXx := Aside0.mk (HXr.out.below hbx)
          have HYx := Aside0.mk (HYr.out.below hbx)
          have HZx := Aside0.mk (HZr.out.below hbx)
          have HGx := Aside0.mk hgx
          have y0 : wx.cell? ⟨G, 0, none⟩ = some (.slice Ax p.f0.length cx) := (blk_cell hgx 0).trans rfl
          have y1 : wx.cell? ⟨G, 1, none⟩ = some (.int .i64 p.f1) := (blk_cell hgx 1).trans rfl
          have y2 : wx.cell? ⟨G, 2, none⟩ = some (.int .i64 p.f2) := (blk_cell hgx 2).trans rfl
          have z0 : wx.cell? ⟨P, 0, none⟩ = some (.slice A0 l0.length c0) := (blk_cell HKx.out 0).trans rfl
          rw [hwx, hG] at y0 y1 y2
          rw [hwx] at z0
          have HPP := Aside0.mk hp
          have HV2 : Aside0 (personOk l0 (toP p) = false → er = 1) := ⟨fun hf => by
            rw [HV1.out, if_pos]
            refine .inl ?_
            rw [List.all_eq_false]
            refine ⟨p, ?_, by rw [hf]; simp⟩
            rw [hp, List.getD_eq_getElem?_getD, List.getElem?_eq_getElem hlt]
            exact List.getElem_mem hlt⟩
          clear hp hxl hxC hbx hgx q0 q2
          have hu119 := Tryz.underlying119
          by_cases hl : p.f0.length = l0.length
          · have hlb : ((p.f0.length : Int) != (l0.length : Int)) = false := bne_eq_false_iff_eq.2 (by omega)
            have HL := Aside0.mk hl
            clear hl
            obtain ⟨b, hb⟩ : ∃ b, b = inr p.f1 0 5 := ⟨_, rfl⟩
            obtain ⟨b', hb'⟩ : ∃ b', b' = inr p.f2 0 5 := ⟨_, rfl⟩
            have hc := in_any p.f1 0 5 wx
            rw [← hb] at hc
            have HC := Aside0.mk hc
            have HVB := Aside0.mk (And.intro hb hb')
            clear hc hb hb'
            gi_wp2_with fail
            rw [← hwx, ← hG]
            refine (callsIn_wide.2 HC.out).mono ?_
            rintro e w5 ⟨rfl, hb5⟩
            have HB5 := Aside0.mk (HBx.out.trans (hb5.mono HBx.out.size))
            have HK5 := Aside0.mk (blk_below HKx.out hb5)
            have HX5 := Aside0.mk (HXx.out.below hb5)
            have HY5 := Aside0.mk (HYx.out.below hb5)
            have HZ5 := Aside0.mk (HZx.out.below hb5)
            have HG5 := Aside0.mk (blk_below HGx.out hb5)
            clear HC hb5 q1 y0 y1 y2 z0 hwx hG hx0 hx1 hx2 HBx HKx HXx HYx HZx HGx
            cases b with
            | true =>
              have y2 : w5.cell? ⟨G, 2, none⟩ = some (.int .i64 p.f2) := (blk_cell HG5.out 2).trans rfl
              have hc := in_any p.f2 0 5 w5
              rw [← HVB.out.2] at hc
              have HC := Aside0.mk hc
              clear hc
              gi_wp2_with fail
              refine (callsIn_wide.2 HC.out).mono ?_
              rintro e w6 ⟨rfl, hb6⟩
              have HB6 := Aside0.mk (HB5.out.trans (hb6.mono HB5.out.size))
              have HK6 := Aside0.mk (blk_below HK5.out hb6)
              have HX6 := Aside0.mk (HX5.out.below hb6)
              have HY6 := Aside0.mk (HY5.out.below hb6)
              have HZ6 := Aside0.mk (HZ5.out.below hb6)
              clear HC hb6 y2 HB5 HK5 HX5 HY5 HZ5 HG5
              cases b' with
              | true =>
                have hw2 : IntKind.i64.wrap ((i : Int) + 1) = (i : Int) + 1 := by rw [IntKind.wrap_i64]; have := HSM.out.2.1; omega
                have hw3 : wrap64 ((i : Int) + 1) = (i : Int) + 1 := by unfold wrap64; have := HSM.out.2.1; omega
                gi_wp2
                go_roundw
                case measure => simp [intOf]; omega
                case rel => exact ⟨i + 1, by omega, by go_num, HB6, HK6, HX6, HY6, HZ6, ⟨fun j hj => by
                  by_cases e : j = i
                  · subst e
                    rw [← HPP.out]
                    have h1 := HVB.out.1
                    have h2 := HVB.out.2
                    unfold inr at h1 h2
                    have h1 := of_decide_eq_true h1.symm
                    have h2 := of_decide_eq_true h2.symm
                    unfold personOk toP
                    exact decide_eq_true ⟨HL.out, h1.1, h1.2, h2.1, h2.2⟩
                  · exact HJr.out j (by omega)⟩⟩
              | false =>
                have e : er = 1 := HV2.out (by
                  have h2 := HVB.out.2
                  unfold inr at h2
                  have h2 := of_decide_eq_false h2.symm
                  unfold personOk toP
                  exact decide_eq_false fun h => h2 ⟨h.2.2.2.1, h.2.2.2.2⟩)
                subst e
                gi_wp2
                go_ret
                exact ⟨rfl, HB6.out⟩
            | false =>
              have e : er = 1 := HV2.out (by
                have h2 := HVB.out.1
                unfold inr at h2
                have h2 := of_decide_eq_false h2.symm
                unfold personOk toP
                exact decide_eq_false fun h => h2 ⟨h.2.1, h.2.2.1⟩)
              subst e
              gi_wp2
              go_ret
              exact ⟨rfl, HB5.out⟩
          · have hlb : ((p.f0.length : Int) != (l0.length : Int)) = true := bne_iff_ne.2 (by omega)
            have e : er = 1 := HV2.out (by unfold personOk toP; exact decide_eq_false fun h => hl h.1)
            subst e
            clear hl
            gi_wp2
            go_ret
            rw [← hwx]
            exact ⟨rfl, HBx.out⟩
        · have hltz : ¬ (i : Int) < (l1.length : Int) := by omega
          obtain rfl : i = l1.length := by omega
          have hall : (l1.all fun x => personOk l0 (toP x)) = true := by
            rw [← all_getP (fun x => personOk l0 (toP x)), List.all_eq_true]
            exact fun j hj => by rw [rdT_get]; exact HJr.out j (List.mem_range.1 hj)
          have HV2 : Aside0 (er = if (l2.all (illOk l0 l1.length)) = false then 1 else 0) := ⟨by rw [HV1.out, hall]; simp⟩
          clear hall HJr q0 q1 q2 HV1 HBa HKa HXa HYa HZa
          obtain ⟨wb, hwb⟩ : ∃ wb, wb = wr := ⟨_, rfl⟩
          have HBb := HBr
          have HKb := HKr
          have HXb := HXr
          have HYb := HYr
          have HZb := HZr
          rw [← hwb] at HBb HKb HXb HYb HZb ⊢
          clear HBr HKr HXr HYr HZr hwb
          have q1 : wb.cell? ⟨P, 1, none⟩ = some (.slice A1 l1.length c1) := (blk_cell HKb.out 1).trans rfl
          gi_wp2
          clear q1
          gi_loopw [6] (fun s6 wr => ∃ i : Nat, i ≤ l2.length ∧ s6 = .int .i64 i ∧ Aside0 (Below w.heap.size w wr) ∧ Aside0 (wr.heap[P]? = some (.cells #[.slice A0 l0.length c0, .slice A1 l1.length c1, .slice A2 l2.length c2] 26 (0, 0))) ∧ Aside0 (SL KR A2 c2 wr l2) ∧ Aside0 (∀ j, j < i → illOk l0 l1.length (l2.getD j []) = true))
            (fun s6 _ => l2.length - (intOf s6).toNat)
          case atStart => exact ⟨0, Nat.zero_le _, rfl, HBb, HKb, HZb, ⟨fun j hj => by omega⟩⟩
          case round =>
            obtain ⟨i, hi, rfl, HBr, HKr, HZr, HJr⟩ := hrel
            have q1 : wr.cell? ⟨P, 1, none⟩ = some (.slice A1 l1.length c1) := (blk_cell HKr.out 1).trans rfl
            have q2 : wr.cell? ⟨P, 2, none⟩ = some (.slice A2 l2.length c2) := (blk_cell HKr.out 2).trans rfl
            by_cases hlt : i < l2.length
            · have hltz : (i : Int) < (l2.length : Int) := by omega
              obtain ⟨ad, Ai, ci, ea, hx, hxl, hxC⟩ := at_L1 HZr.out.2 (i : Int) (by omega) (by omega)
              subst ea
              obtain ⟨c, hc⟩ : ∃ c, c = l2.getD i [] := ⟨_, rfl⟩
              rw [rdL_get, ← hc, Int.toNat_natCast] at hx
              have HCC := Aside0.mk hc
              have HV3 : Aside0 (illOk l0 l1.length c = false → er = 1) := ⟨fun hf => by
                rw [HV2.out, if_pos]
                rw [List.all_eq_false]
                refine ⟨c, ?_, by rw [hf]; simp⟩
                rw [hc, List.getD_eq_getElem?_getD, List.getElem?_eq_getElem hlt]
                exact List.getElem_mem hlt⟩
              clear hc hxl hxC
              by_cases hl : c.length = l1.length
              · have hlb : ((c.length : Int) != (l1.length : Int)) = false := bne_eq_false_iff_eq.2 (by omega)
                gi_wp2
                gi_quiet (fail)
                have hbq : Below wr.heap.size wr (wr.drewN nq) := pw_below_drewN (Below.refl _ _) nq
                obtain ⟨wc, hwc⟩ : ∃ wc, wc = wr.drewN nq := ⟨_, rfl⟩
                rw [← hwc] at hbq ⊢
                have HBc := Aside0.mk (HBr.out.trans (hbq.mono HBr.out.size))
                have HKc := Aside0.mk (blk_below HKr.out hbq)
                have HZc := Aside0.mk (HZr.out.below hbq)
                have HL := Aside0.mk hl
                clear hl hlb hbq hwc q1 q2 hx HBr HKr HZr HV2
                gi_wp2
                gi_loopw [7] (fun s7 wr => ∃ k : Nat, k ≤ l1.length ∧ s7 = .int .i64 k ∧ Aside0 (Below w.heap.size w wr) ∧ Aside0 (wr.heap[P]? = some (.cells #[.slice A0 l0.length c0, .slice A1 l1.length c1, .slice (some ad) l2.length c2] 26 (0, 0))) ∧ Aside0 (SL KR (some ad) c2 wr l2) ∧ Aside0 (∀ j, j < k → inr (c.getD j 0) (-1) ((l0.length : Int) - 1) = true))
                  (fun s7 _ => l1.length - (intOf s7).toNat)
                case atStart => exact ⟨0, Nat.zero_le _, rfl, HBc, HKc, HZc, ⟨fun j hj => by omega⟩⟩
                case round =>
                  obtain ⟨k, hk, rfl, HBr, HKr, HZr, HIr⟩ := hrel
                  have q0 : wr.cell? ⟨P, 0, none⟩ = some (.slice A0 l0.length c0) := (blk_cell HKr.out 0).trans rfl
                  have q1 : wr.cell? ⟨P, 1, none⟩ = some (.slice A1 l1.length c1) := (blk_cell HKr.out 1).trans rfl
                  have q2 : wr.cell? ⟨P, 2, none⟩ = some (.slice (some ad) l2.length c2) := (blk_cell HKr.out 2).trans rfl
                  by_cases hlk : k < l1.length
                  · have hlkz : (k : Int) < (l1.length : Int) := by omega
                    obtain ⟨ad', Ai', ci', ea, hx, hxl, hxC⟩ := at_L1 HZr.out.2 (i : Int) (by omega) (by omega)
                    cases ea
                    rw [rdL_get, ← HCC.out] at hx hxl hxC
                    rw [Int.toNat_natCast] at hx
                    have hck : k < c.length := by have := HL.out; omega
                    obtain ⟨ac, ec, hy⟩ := Kd.at_int hxC (k : Int) (by omega) (by omega)
                    subst ec
                    obtain ⟨v, hv⟩ : ∃ v, v = c.getD k 0 := ⟨_, rfl⟩
                    rw [rd_get, ← hv, Int.toNat_natCast] at hy
                    have hckz : (k : Int) < (c.length : Int) := by omega
                    have hwl : IntKind.i64.wrap ((l0.length : Int) - 1) = (l0.length : Int) - 1 := by rw [IntKind.wrap_i64]; have := HSM.out.1; omega
                    have hwl3 : wrap64 ((l0.length : Int) - 1) = (l0.length : Int) - 1 := by unfold wrap64; have := HSM.out.1; omega
                    obtain ⟨b, hb⟩ : ∃ b, b = inr v (-1) ((l0.length : Int) - 1) := ⟨_, rfl⟩
                    have HC : Aside0 (∀ (N : Nat) (W : World), CallsIn Fence.wide N Tryz.prog 99 #[.int .i64 v, .int .i64 (-1), .int .i64 ((l0.length : Int) - 1)] W fun e w' => e = .returned (.bool b) ∧ ∃ n, w' = W.drewN n) := ⟨fun N W => by
                      refine callsIn_wide.2 ((glisterref10_In.calls v (-1) ((l0.length : Int) - 1) _ W (in_ev _ _ _)).mono ?_)
                      rintro e w' ⟨rfl, h⟩
                      exact ⟨by rw [hb], h.out⟩⟩
                    have HVB := Aside0.mk (And.intro hv hb)
                    clear hv hb hxl hxC hck
                    gi_wp2
                    gi_quiet ((gi_at_call 99; refine (HC.out _ _).mono ?_; rintro e w9 ⟨rfl, n, rfl⟩; exact ⟨rfl, _, World.drewN_drewN ..⟩))
                    cases b with
                    | true =>
                      have hw2 : IntKind.i64.wrap ((k : Int) + 1) = (k : Int) + 1 := by rw [IntKind.wrap_i64]; have := HSM.out.2.1; omega
                      have hw3 : wrap64 ((k : Int) + 1) = (k : Int) + 1 := by unfold wrap64; have := HSM.out.2.1; omega
                      have hbq : Below wr.heap.size wr (wr.drewN nq) := pw_below_drewN (Below.refl _ _) nq
                      gi_wp2
                      go_roundw
                      case measure => simp [intOf]; omega
                      case rel => exact ⟨k + 1, by omega, by go_num, ⟨HBr.out.trans (hbq.mono HBr.out.size)⟩, ⟨blk_below HKr.out hbq⟩, ⟨HZr.out.below hbq⟩, ⟨fun j hj => by
                        by_cases e : j = k
                        · subst e; rw [← HVB.out.1, ← HVB.out.2]
                        · exact HIr.out j (by omega)⟩⟩
                    | false =>
                      have e : er = 1 := HV3.out (by
                        unfold illOk
                        cases hq : (c.all fun n => inr n (-1) ((l0.length : Int) - 1)) with
                        | false => rw [Bool.and_false]
                        | true =>
                          exfalso
                          rw [← all_get (fun n => inr n (-1) ((l0.length : Int) - 1))] at hq
                          have := List.all_eq_true.1 hq k (List.mem_range.2 (by have := HL.out; omega))
                          rw [← HVB.out.1, ← HVB.out.2] at this
                          cases this)
                      subst e
                      gi_wp2
                      go_ret
                      exact ⟨rfl, pw_below_drewN HBr.out nq⟩
                  · have hlkz : ¬ (k : Int) < (l1.length : Int) := by omega
                    obtain rfl : k = l1.length := by omega
                    have hw2 : IntKind.i64.wrap ((i : Int) + 1) = (i : Int) + 1 := by rw [IntKind.wrap_i64]; have := HSM.out.2.2; omega
                    have hw3 : wrap64 ((i : Int) + 1) = (i : Int) + 1 := by unfold wrap64; have := HSM.out.2.2; omega
                    have HOK : Aside0 (illOk l0 l1.length c = true) := ⟨by
                      unfold illOk
                      rw [Bool.and_eq_true, ← all_get (fun n => inr n (-1) ((l0.length : Int) - 1)), List.all_eq_true]
                      exact ⟨decide_eq_true HL.out, fun j hj => HIr.out j (by have := List.mem_range.1 hj; have := HL.out; omega)⟩⟩
                    clear q0 q2
                    gi_wp2
                    go_roundw
                    case measure => simp [intOf]; omega
                    case rel => exact ⟨i + 1, by omega, by go_num, HBr, HKr, HZr, ⟨fun j hj => by
                      by_cases e : j = i
                      · subst e; rw [← HCC.out]; exact HOK.out
                      · exact HJr.out j (by omega)⟩⟩
              · have hlb : ((c.length : Int) != (l1.length : Int)) = true := bne_iff_ne.2 (by omega)
                have e : er = 1 := HV3.out (by unfold illOk; rw [decide_eq_false hl]; rfl)
                subst e
                clear hl
                gi_wp2
                gi_quiet (fail)
                gi_wp2
                go_ret
                exact ⟨rfl, pw_below_drewN HBr.out nq⟩
            · have hltz : ¬ (i : Int) < (l2.length : Int) := by omega
              obtain rfl : i = l2.length := by omega
              have hall : (l2.all (illOk l0 l1.length)) = true := by
                rw [← all_getL (illOk l0 l1.length), List.all_eq_true]
                exact fun j hj => HJr.out j (List.mem_range.1 hj)
              have e : er = 0 := by rw [HV2.out, hall]; simp
              subst e
              clear hall
              gi_wp2
              go_ret
              exact ⟨rfl, HBr.out⟩
end Go.Proofs.YtekdacalkllipaaGreat.PR
end
section
namespace Go.Proofs.YtekdacalkllipaaGreat.PR
open Go.RowKit Go.Shelf Go.Proofs.YtekdacalkllipaaGreatW.PrintWords Go.Proofs.YtekdacalkllipaaGreatW.PrintLast Go.Proofs.YtekdacalkllipaaGreatW.PrintMore
set_option linter.unusedVariables false
set_option linter.unusedSimpArgs false
theorem rdP (people : List S119) (i : Nat) (hi : i < people.length) : rd_T128 (people.map toP) (i : Int) = toP (people.getD i z119) := by
  unfold rd_T128
  rw [Int.toNat_natCast, List.getD_eq_getElem?_getD, List.getElem?_map, List.getElem?_eq_getElem hi, List.getD_eq_getElem?_getD, List.getElem?_eq_getElem hi]
  rfl
theorem incB_lt {l : List Int} {n : Int} (h : incB l n = true) : ∀ i, i < l.length → ∀ j, j < i → l.getD j 0 < l.getD i 0
  | 0, _, j, hj => by omega
  | i + 1, hi, j, hj => by
    rw [← rise_inc] at h
    have h1 := List.all_eq_true.1 h (i + 1) (List.mem_range.2 hi)
    unfold riseAt at h1
    simp only [Bool.and_eq_true, Bool.or_eq_true, decide_eq_true_eq, Nat.add_sub_cancel] at h1
    have h2 : l.getD i 0 < l.getD (i + 1) 0 := by omega
    by_cases e : j = i
    · subst e; exact h2
    · have := incB_lt (n := n) (by rw [← rise_inc]; exact h) i (by omega) j (by omega)
      omega
end Go.Proofs.YtekdacalkllipaaGreat.PR
end
section
namespace Go.Proofs.YtekdacalkllipaaGreat.PR
open Go.RowKit Go.Shelf Go.Proofs.YtekdacalkllipaaGreatW.PrintWords Go.Proofs.YtekdacalkllipaaGreatW.PrintLast Go.Proofs.YtekdacalkllipaaGreatW.PrintMore
set_option linter.unusedVariables false
set_option linter.unusedSimpArgs false
def Std.sum (s : Std) : Int := s.b0 + s.b1 + s.b2 + s.b3
theorem put_sum (s : Std) (i : Nat) (l : Int) : (s.put i l (s.many i + 1)).sum = s.sum + 1 := by
  match i with
  | 0 => show s.b0 + 1 + s.b1 + s.b2 + s.b3 = s.b0 + s.b1 + s.b2 + s.b3 + 1; omega
  | 1 => show s.b0 + (s.b1 + 1) + s.b2 + s.b3 = s.b0 + s.b1 + s.b2 + s.b3 + 1; omega
  | 2 => show s.b0 + s.b1 + (s.b2 + 1) + s.b3 = s.b0 + s.b1 + s.b2 + s.b3 + 1; omega
  | n + 3 => show s.b0 + s.b1 + s.b2 + (s.b3 + 1) = s.b0 + s.b1 + s.b2 + s.b3 + 1; omega
theorem after_sum (people : List S128) (w : Int) : ∀ (on : List Int) (s : Std), (afterS people w on s).2 = true → (afterS people w on s).1.sum = s.sum + on.length
  | [], s, _ => by simp [afterS]
  | x :: on, s, h => by
    unfold afterS at h ⊢
    cases hb : stepB people w s x with
    | false => rw [hb] at h; simp at h
    | true =>
      rw [hb] at h
      simp only [if_true] at h ⊢
      rw [after_sum people w on _ h, put_sum, List.length_cons]
      push_cast; omega
theorem can_eq (k : Wk) (watch : Int) (s : Std) (i : Nat) : k.can watch s i = ((afterS k.people watch (rd_L1 k.lists i) s).2 && holdsB k.need k.cases (rd_L1 k.lists i) watch) := by
  unfold Wk.can
  cases ha : (afterS k.people watch (rd_L1 k.lists i) s).2 with
  | false => simp
  | true =>
    cases hh : holdsB k.need k.cases (rd_L1 k.lists i) watch with
    | false => simp
    | true =>
      simp only [Bool.and_true, Bool.true_and]
      rw [Bool.not_eq_true', Bool.and_eq_false_iff]
      by_cases hn : 0 < k.need.getD watch.toNat 0
      · left
        cases hs : (afterS k.people watch (rd_L1 k.lists i) s).1.same s with
        | false => rfl
        | true =>
          exfalso
          have hsum := after_sum k.people watch (rd_L1 k.lists i) s ha
          have e2 : (afterS k.people watch (rd_L1 k.lists i) s).1.sum = s.sum := by
            unfold Std.same at hs
            obtain ⟨_, h1, _, h2, _, h3, _, h4⟩ := of_decide_eq_true hs
            unfold Std.sum
            rw [h1, h2, h3, h4]
          have hl : (rd_L1 k.lists i) = [] := List.length_eq_zero_iff.1 (by omega)
          unfold holdsB at hh
          have := List.all_eq_true.1 hh 0 (List.mem_range.2 (by omega))
          rw [hl] at this
          simp [awakeN] at this
          simp at hn
          omega
      · right
        exact decide_eq_false hn
def Wk.fine (k : Wk) : Int → Std → List (List Int) → Prop
  | _, _, [] => True
  | watch, s, on :: r => (∃ i, i < k.lists.length ∧ rd_L1 k.lists i = on) ∧ (afterS k.people watch on s).2 = true ∧ holdsB k.need k.cases on watch = true ∧ k.fine (watch + 1) (afterS k.people watch on s).1 r
theorem foldl_min_iff (g : Nat → Int) (v : Int) : ∀ (l : List Nat) (n : Int), (l.foldl (fun n i => min n (g i)) n ≤ v ↔ n ≤ v ∨ ∃ i ∈ l, g i ≤ v)
  | [], n => by simp
  | i :: l, n => by
    rw [List.foldl_cons, foldl_min_iff g v l]
    constructor
    · rintro (h | ⟨j, hj, h⟩)
      · by_cases h2 : n ≤ v
        · exact .inl h2
        · exact .inr ⟨i, List.mem_cons_self, by omega⟩
      · exact .inr ⟨j, List.mem_cons_of_mem _ hj, h⟩
    · rintro (h | ⟨j, hj, h⟩)
      · exact .inl (by omega)
      · rcases List.mem_cons.1 hj with rfl | hj
        · exact .inl (by omega)
        · exact .inr ⟨j, hj, h⟩
theorem few_iff (k : Wk) : ∀ (f : Nat) (watch : Int) (s : Std) (v : Int), v < 1024 → 0 ≤ v → (k.few f watch s ≤ v ↔ ∃ r : List (List Int), r.length = f ∧ k.fine watch s r ∧ ((r.map List.length).sum : Int) ≤ v)
  | 0, watch, s, v, h1, h0 => by
    unfold Wk.few
    constructor
    · intro _
      exact ⟨[], rfl, trivial, by simpa using h0⟩
    · intro _; exact h0
  | f + 1, watch, s, v, h1, h0 => by
    unfold Wk.few
    rw [foldl_min_iff]
    constructor
    · rintro (h | ⟨i, hi, h⟩)
      · omega
      · obtain ⟨hi1, hi2⟩ := List.mem_filter.1 hi
        have hi1 := List.mem_range.1 hi1
        rw [can_eq, Bool.and_eq_true] at hi2
        have hb := (k.few_bd f (watch + 1) (afterS k.people watch (rd_L1 k.lists i) s).1).1
        obtain ⟨r, r1, r2, r3⟩ := (few_iff k f (watch + 1) (afterS k.people watch (rd_L1 k.lists i) s).1 (v - (rd_L1 k.lists i).length) (by omega) (by omega)).1 (by omega)
        refine ⟨rd_L1 k.lists i :: r, by rw [List.length_cons, r1], ⟨⟨i, hi1, rfl⟩, hi2.1, hi2.2, r2⟩, ?_⟩
        rw [List.map_cons, List.sum_cons]
        push_cast; omega
    · rintro ⟨r, r1, r2, r3⟩
      cases r with
      | nil => simp at r1
      | cons on r =>
        obtain ⟨⟨i, hi, hon⟩, ha, hh, hf⟩ := r2
        subst hon
        rw [List.map_cons, List.sum_cons] at r3
        push_cast at r3
        right
        refine ⟨i, List.mem_filter.2 ⟨List.mem_range.2 hi, by rw [can_eq, ha, hh]; rfl⟩, ?_⟩
        have h9 := (few_iff k f (watch + 1) (afterS k.people watch (rd_L1 k.lists i) s).1 (v - (rd_L1 k.lists i).length) (by omega) (by omega)).2 ⟨r, by simpa using r1, hf, by omega⟩
        omega
end Go.Proofs.YtekdacalkllipaaGreat.PR
end
section
namespace Go.Proofs.YtekdacalkllipaaGreat.PR
open Go.RowKit Go.Shelf Go.Proofs.YtekdacalkllipaaGreatW.PrintWords Go.Proofs.YtekdacalkllipaaGreatW.PrintLast Go.Proofs.YtekdacalkllipaaGreatW.PrintMore
set_option linter.unusedVariables false
set_option linter.unusedSimpArgs false
theorem mem_rdL {l : List (List Int)} {on : List Int} : (∃ i, i < l.length ∧ rd_L1 l (i : Int) = on) ↔ on ∈ l := by
  constructor
  · rintro ⟨i, hi, rfl⟩
    rw [rdL_get, List.getD_eq_getElem?_getD, List.getElem?_eq_getElem hi]
    exact List.getElem_mem hi
  · intro h
    obtain ⟨i, hi, rfl⟩ := List.getElem_of_mem h
    exact ⟨i, hi, by rw [rdL_get, List.getD_eq_getElem?_getD, List.getElem?_eq_getElem hi]; rfl⟩
theorem fine_iff (k : Wk) : ∀ (r : List (List Int)) (watch : Int) (s : Std), k.fine watch s r ↔ (∀ on ∈ r, on ∈ k.lists) ∧ rulesS k.people watch r s = true ∧ holdsFrom k.need k.cases watch r = true
  | [], watch, s => by simp [Wk.fine, rulesS, holdsFrom]
  | on :: r, watch, s => by
    unfold Wk.fine rulesS holdsFrom
    rw [fine_iff k r, mem_rdL]
    constructor
    · rintro ⟨h1, h2, h3, h4, h5, h6⟩
      refine ⟨fun x hx => ?_, by rw [if_pos h2]; exact h5, by rw [h3, h6]; rfl⟩
      rcases List.mem_cons.1 hx with rfl | hx
      · exact h1
      · exact h4 x hx
    · rintro ⟨h1, h2, h3⟩
      rw [Bool.and_eq_true] at h3
      by_cases h4 : (afterS k.people watch on s).2 = true
      · rw [if_pos h4] at h2
        exact ⟨h1 on List.mem_cons_self, h4, h3.1, fun x hx => h1 x (List.mem_cons_of_mem _ hx), h2, h3.2⟩
      · rw [if_neg h4] at h2; cases h2
theorem duties_sum (r : List (List Int)) : dutiesS r = (((r.map List.length).sum : Nat) : Int) := by
  unfold dutiesS
  rw [List.length_flatten]
def SafeOf (need : List Int) (people : List S128) (cases lists : List (List Int)) (r : List (List Int)) : Prop :=
  r.length = need.length ∧ (∀ on ∈ r, on ∈ lists) ∧ rulesS people 0 r std0 = true ∧ holdsFrom need cases 0 r = true
theorem fewS_iff (need : List Int) (people : List S128) (cases : List (List Int)) (sm : List Int) (v : Int) (h1 : v < 1024) (h0 : 0 ≤ v) :
    fewS need people cases sm ≤ v ↔ ∃ r, SafeOf need people cases (listsS sm) r ∧ dutiesS r ≤ v := by
  unfold fewS
  rw [few_iff _ need.length 0 std0 v h1 h0]
  constructor
  · rintro ⟨r, e1, e2, e3⟩
    have := (fine_iff _ r 0 std0).1 e2
    exact ⟨r, ⟨e1, this.1, this.2.1, this.2.2⟩, by rw [duties_sum]; exact e3⟩
  · rintro ⟨r, ⟨e1, e2, e3, e4⟩, e5⟩
    exact ⟨r, e1, (fine_iff _ r 0 std0).2 ⟨e2, e3, e4⟩, by rw [← duties_sum]; exact e5⟩
theorem inr_iff {n lo hi : Int} : inr n lo hi = true ↔ lo ≤ n ∧ n ≤ hi := by unfold inr; exact decide_eq_true_iff
theorem incB_IncF {l : List Int} {n : Nat} : incB l n = true ↔ l.Pairwise (· < ·) ∧ ∀ x ∈ l, 0 ≤ x ∧ x < n := by
  constructor
  · intro h
    refine ⟨?_, incB_mem h⟩
    rw [List.pairwise_iff_getElem]
    intro i j hi hj hij
    have := incB_lt h j hj i hij
    rw [List.getD_eq_getElem?_getD, List.getElem?_eq_getElem hi, List.getD_eq_getElem?_getD, List.getElem?_eq_getElem hj] at this
    exact this
  · rintro ⟨h1, h2⟩
    refine incB_yes fun i hi => ?_
    have hx := h2 _ (List.getElem_mem hi)
    have e : l.getD i 0 = l[i] := by rw [List.getD_eq_getElem?_getD, List.getElem?_eq_getElem hi]; rfl
    unfold incAt lastAt
    rw [inr_iff, e]
    by_cases h0 : i = 0
    · rw [if_pos h0]; omega
    · rw [if_neg h0]
      have e' : l.getD (i - 1) 0 = l[i - 1] := by rw [List.getD_eq_getElem?_getD, List.getElem?_eq_getElem (by omega)]; rfl
      rw [e']
      have := (List.pairwise_iff_getElem.1 h1) (i - 1) i (by omega) hi (by omega)
      omega
end Go.Proofs.YtekdacalkllipaaGreat.PR
end
section
namespace Go.Proofs.YtekdacalkllipaaGreat.PR
open Go.RowKit Go.Shelf Go.Proofs.YtekdacalkllipaaGreatW.PrintWords Go.Proofs.YtekdacalkllipaaGreatW.PrintLast Go.Proofs.YtekdacalkllipaaGreatW.PrintMore
set_option linter.unusedVariables false
set_option linter.unusedSimpArgs false
def smallB : List (List Int) → List (List Int) → Bool
  | x :: a, y :: b => if cmpS x y < 0 then true else if cmpS y x < 0 then false else smallB a b
  | _, _ => false
theorem foldl_min_at (g : Nat → Int) : ∀ (l : List Nat) (n : Int), l.foldl (fun n i => min n (g i)) n < n → ∃ i ∈ l, g i = l.foldl (fun n i => min n (g i)) n
  | [], n, h => by simp at h
  | i :: l, n, h => by
    rw [List.foldl_cons] at h ⊢
    have hle := (foldl_min_iff g (l.foldl (fun n i => min n (g i)) (min n (g i))) l (min n (g i))).1 (Int.le_refl _)
    by_cases h2 : l.foldl (fun n i => min n (g i)) (min n (g i)) < min n (g i)
    · obtain ⟨j, hj, e⟩ := foldl_min_at g l (min n (g i)) h2
      exact ⟨j, List.mem_cons_of_mem _ hj, e⟩
    · have h3 : l.foldl (fun n i => min n (g i)) (min n (g i)) ≤ min n (g i) := (foldl_min_iff g (min n (g i)) l (min n (g i))).2 (.inl (Int.le_refl _))
      exact ⟨i, List.mem_cons_self, by omega⟩
theorem few_cons (k : Wk) (f : Nat) (watch : Int) (s : Std) : k.few (f + 1) watch s = ((List.range k.lists.length).filter (k.can watch s)).foldl (fun (n : Int) (i : Nat) => min n ((rd_L1 k.lists i).length + k.few f (watch + 1) (afterS k.people watch (rd_L1 k.lists i) s).1)) 1024 := rfl
theorem few_le (k : Wk) (f : Nat) (watch : Int) (s : Std) (i : Nat) (hi : i < k.lists.length) (hc : k.can watch s i = true) : k.few (f + 1) watch s ≤ (rd_L1 k.lists i).length + k.few f (watch + 1) (afterS k.people watch (rd_L1 k.lists i) s).1 := by
  rw [few_cons, foldl_min_iff (fun (i : Nat) => (rd_L1 k.lists i).length + k.few f (watch + 1) (afterS k.people watch (rd_L1 k.lists i) s).1)]
  exact .inr ⟨i, List.mem_filter.2 ⟨List.mem_range.2 hi, hc⟩, Int.le_refl _⟩
theorem find_first (p : Nat → Bool) (q : Nat → Bool) : ∀ (n i : Nat), ((List.range n).filter p).find? q = some i → i < n ∧ p i = true ∧ q i = true ∧ ∀ j, j < i → p j = true → q j = false
  | 0, i, h => by simp at h
  | n + 1, i, h => by
    rw [List.range_succ, List.filter_append, List.find?_append] at h
    cases hq : ((List.range n).filter p).find? q with
    | some j =>
      rw [hq] at h
      have e : j = i := by simpa using h
      subst e
      obtain ⟨h1, h2, h3, h4⟩ := find_first p q n j hq
      exact ⟨by omega, h2, h3, h4⟩
    | none =>
      rw [hq, Option.none_or] at h
      rw [List.find?_eq_none] at hq
      by_cases hp : p n = true
      · rw [List.filter_cons, if_pos hp, List.filter_nil] at h
        by_cases hqn : q n = true
        · rw [List.find?_cons, hqn] at h
          have e : n = i := by simpa using h
          subst e
          refine ⟨by omega, hp, hqn, fun j hj hpj => ?_⟩
          have := hq j (List.mem_filter.2 ⟨List.mem_range.2 hj, hpj⟩)
          simpa using this
        · rw [List.find?_cons] at h
          simp [hqn] at h
      · rw [List.filter_cons, if_neg hp] at h
        simp at h
theorem rows_step (k : Wk) (f : Nat) (watch : Int) (s : Std) (left : Int) (hf : k.few (f + 1) watch s = left) (hl : left < 1024) : ∃ i, i < k.lists.length ∧ k.can watch s i = true ∧ k.fit f watch s left i = true ∧ (∀ j, j < i → k.can watch s j = true → k.fit f watch s left j = false) ∧
    k.rows (f + 1) watch s left = rd_L1 k.lists i :: k.rows f (watch + 1) (afterS k.people watch (rd_L1 k.lists i) s).1 (left - (rd_L1 k.lists i).length) := by
  have hat := foldl_min_at (fun i => (rd_L1 k.lists i).length + k.few f (watch + 1) (afterS k.people watch (rd_L1 k.lists i) s).1) ((List.range k.lists.length).filter (k.can watch s)) 1024 (by
    have : k.few (f + 1) watch s < 1024 := by omega
    rw [few_cons] at this
    exact this)
  obtain ⟨i0, hi0, e0⟩ := hat
  have e1 : (rd_L1 k.lists i0).length + k.few f (watch + 1) (afterS k.people watch (rd_L1 k.lists i0) s).1 = left := by
    rw [← hf, few_cons]
    exact e0
  cases hq : ((List.range k.lists.length).filter (k.can watch s)).find? (k.fit f watch s left) with
  | none =>
    rw [List.find?_eq_none] at hq
    have := hq i0 hi0
    unfold Wk.fit at this
    rw [e1] at this
    simp at this
  | some i =>
    obtain ⟨h1, h2, h3, h4⟩ := find_first _ _ _ i hq
    refine ⟨i, h1, h2, h3, h4, ?_⟩
    rw [Wk.rows, hq]
theorem rows_fine (k : Wk) : ∀ (f : Nat) (watch : Int) (s : Std) (left : Int), k.few f watch s = left → left < 1024 → (k.rows f watch s left).length = f ∧ k.fine watch s (k.rows f watch s left) ∧ ((((k.rows f watch s left).map List.length).sum : Nat) : Int) = left
  | 0, watch, s, left, hf, hl => by
    unfold Wk.few at hf
    unfold Wk.rows
    exact ⟨rfl, trivial, by simp; omega⟩
  | f + 1, watch, s, left, hf, hl => by
    obtain ⟨i, h1, h2, h3, h4, h5⟩ := rows_step k f watch s left hf hl
    unfold Wk.fit at h3
    have h3 := beq_iff_eq.1 h3
    obtain ⟨r1, r2, r3⟩ := rows_fine k f (watch + 1) (afterS k.people watch (rd_L1 k.lists i) s).1 (left - (rd_L1 k.lists i).length) (by omega) (by omega)
    rw [can_eq, Bool.and_eq_true] at h2
    rw [h5]
    refine ⟨by rw [List.length_cons, r1], ⟨⟨i, h1, rfl⟩, h2.1, h2.2, r2⟩, ?_⟩
    rw [List.map_cons, List.sum_cons]
    push_cast
    omega
theorem rows_min (k : Wk) (hs : ∀ i j, i < j → j < k.lists.length → cmpS (rd_L1 k.lists i) (rd_L1 k.lists j) ≤ 0) : ∀ (f : Nat) (watch : Int) (s : Std) (left : Int) (r : List (List Int)), k.few f watch s = left → left < 1024 → r.length = f → k.fine watch s r → (((r.map List.length).sum : Nat) : Int) = left → smallB r (k.rows f watch s left) = false
  | 0, watch, s, left, r, hf, hl, hr, hfi, hsum => by
    rw [List.length_eq_zero_iff.1 hr]
    rfl
  | f + 1, watch, s, left, r, hf, hl, hr, hfi, hsum => by
    obtain ⟨i, h1, h2, h3, h4, h5⟩ := rows_step k f watch s left hf hl
    cases r with
    | nil => simp at hr
    | cons on t =>
      obtain ⟨⟨j, hj, hon⟩, ha, hh, ht⟩ := hfi
      subst hon
      rw [List.map_cons, List.sum_cons] at hsum
      push_cast at hsum
      have htl : t.length = f := by simpa using hr
      have hcj : k.can watch s j = true := by rw [can_eq, ha, hh]; rfl
      have hle := few_le k f watch s j hj hcj
      have hb := k.few_bd f (watch + 1) (afterS k.people watch (rd_L1 k.lists j) s).1
      have hft : k.few f (watch + 1) (afterS k.people watch (rd_L1 k.lists j) s).1 ≤ left - (rd_L1 k.lists j).length := by
        rw [few_iff k f _ _ _ (by omega) (by omega)]
        exact ⟨t, htl, ht, by omega⟩
      have hfj : k.fit f watch s left j = true := by unfold Wk.fit; rw [beq_iff_eq]; omega
      have hij : i ≤ j := by
        rcases Nat.lt_or_ge j i with hlt | hge
        · have := h4 j hlt hcj
          rw [hfj] at this; cases this
        · exact hge
      rw [h5]
      unfold smallB
      have hcmp : cmpS (rd_L1 k.lists i) (rd_L1 k.lists j) ≤ 0 := by
        by_cases e : i = j
        · rw [e, cmpS_self]; omega
        · exact hs i j (by omega) hj
      have hsw := cmpS_swap (rd_L1 k.lists i) (rd_L1 k.lists j)
      rw [if_neg (by omega)]
      by_cases hlt : cmpS (rd_L1 k.lists i) (rd_L1 k.lists j) < 0
      · rw [if_pos hlt]
      · rw [if_neg hlt]
        have e := cmpS_zero (a := rd_L1 k.lists i) (b := rd_L1 k.lists j) (by omega)
        rw [e]
        exact rows_min k hs f (watch + 1) (afterS k.people watch (rd_L1 k.lists j) s).1 (left - (rd_L1 k.lists j).length) t (by omega) (by omega) htl ht (by omega)
end Go.Proofs.YtekdacalkllipaaGreat.PR
end
section
namespace Go.Proofs.YtekdacalkllipaaGreat.PR
open Go.RowKit Go.Shelf Go.Proofs.YtekdacalkllipaaGreatW.PrintWords Go.Proofs.YtekdacalkllipaaGreatW.PrintLast Go.Proofs.YtekdacalkllipaaGreatW.PrintMore
set_option linter.unusedVariables false
set_option linter.unusedSimpArgs false
def subN (n b : Nat) : List Int := subL (evs n) b
theorem subK_evs (n b : Nat) : ∀ i, i ≤ n → subK (evs n) b i = ((List.range i).filter (bitB b)).map fun j : Nat => (j : Int) := fun i hi => by
  unfold subK
  apply List.map_congr_left
  intro j hj
  have hj := List.mem_range.1 (List.mem_filter.1 hj).1
  unfold evs
  rw [List.getD_eq_getElem?_getD, List.getElem?_map, List.getElem?_range (by omega)]
  rfl
theorem subN_eq (n b : Nat) : subN n b = ((List.range n).filter (bitB b)).map fun j : Nat => (j : Int) := by
  unfold subN subL
  rw [evs_len, subK_evs n b n (Nat.le_refl _)]
theorem subN_succ (n b : Nat) : subN (n + 1) b = subN n b ++ (if bitB b n = true then [(n : Int)] else []) := by
  rw [subN_eq, subN_eq, List.range_succ, List.filter_append, List.map_append]
  congr 1
  by_cases h : bitB b n = true
  · simp [h]
  · simp [h]
theorem bitB_zero {b i j : Nat} (h : b / 2 ^ i = 0) (hj : i ≤ j) : bitB b j = false := by
  unfold bitB
  have : b / 2 ^ j = 0 := by
    rw [Nat.div_eq_zero_iff] at h ⊢
    have hp : 2 ^ i ≤ 2 ^ j := Nat.pow_le_pow_right (by omega) hj
    have := Nat.two_pow_pos i
    omega
  rw [this]; rfl
theorem subN_stop {b : Nat} : ∀ (n i : Nat), i ≤ n → b / 2 ^ i = 0 → subN n b = subN i b
  | 0, i, hi, _ => by obtain rfl : i = 0 := by omega
                      rfl
  | n + 1, i, hi, h => by
    by_cases e : i = n + 1
    · rw [e]
    · rw [subN_succ, bitB_zero h (by omega), subN_stop n i (by omega) h]; simp
theorem bits_ev (n b : Nat) (hn : n ≤ 20) (hb : b < 2 ^ n) : Ev (fun k => glisterref10_Bits.f k (b : Int)) (subN n b) := by
  have hsh : ∀ i : Nat, i ≤ 20 → shr .i64 (b : Int) (IntKind.u64.wrap (i : Int)) = ((b / 2 ^ i : Nat) : Int) := fun i hi => by
    have h1 : IntKind.u64.wrap (i : Int) = (i : Int) := by rw [IntKind.wrap_u64]; omega
    rw [h1]
    unfold shr
    rw [show min (Int.toNat (i : Int)) (IntKind.bits .i64) = i by simp [IntKind.bits]; omega]
    push_cast; rfl
  have key : ∀ d i, i + d = n → Ev (fun k => glisterref10_Bits.l0 k (b : Int) (subN i b) (i : Int)) (subN n b) := by
    intro d
    have hstop : ∀ i, i ≤ n → b / 2 ^ i = 0 → Ev (fun k => glisterref10_Bits.l0 k (b : Int) (subN i b) (i : Int)) (subN n b) := fun i hi h => by
      refine Ev.step (f := fun _ => some (subN i b)) (fun k => ?_) (Ev.now fun _ => by rw [subN_stop n i hi h])
      rw [glisterref10_Bits.l0, hsh i (by omega), h, if_pos (by rw [IntKind.wrap_u64]; omega), if_neg (by simp)]
    induction d with
    | zero =>
      intro i hi
      obtain rfl : i = n := by omega
      exact hstop i (Nat.le_refl _) (Nat.div_eq_of_lt hb)
    | succ d ih =>
      intro i hi
      by_cases h0 : b / 2 ^ i = 0
      · exact hstop i (by omega) h0
      · refine Ev.step (f := fun k => glisterref10_Bits.l0 k (b : Int) (subN (i + 1) b) ((i + 1 : Nat) : Int)) (fun k => ?_) (ih (i + 1) (by omega))
        have hl : (subN i b).length ≤ i := by
          rw [subN_eq, List.length_map]
          exact Nat.le_trans (List.length_filter_le _ _) (by simp)
        obtain ⟨q, hq⟩ : ∃ q, q = b / 2 ^ i := ⟨_, rfl⟩
        rw [← hq] at h0
        rw [glisterref10_Bits.l0, hsh i (by omega), ← hq, if_pos (by rw [IntKind.wrap_u64]; omega), if_pos (by omega), wr1 (by omega), subN_succ]
        have hbit : bitB b i = decide (q % 2 = 1) := by
          unfold bitB
          rw [← hq]
          by_cases h1 : q % 2 = 1
          · rw [h1]; rfl
          · rw [decide_eq_false h1]; simpa using h1
        rw [hbit]
        have ht : Int.tmod (q : Int) 2 = ((q % 2 : Nat) : Int) := rfl
        rw [ht]
        by_cases h1 : q % 2 = 1
        · rw [if_pos (by omega), if_pos (by omega), if_pos (by simpa using h1)]
        · rw [if_neg (by omega), if_neg (by simpa using h1), List.append_nil]
  exact key n 0 (by omega)
theorem before_ev (a b : List Int) (ha : a.length < 1000) (hb : b.length < 1000) : Ev (fun k => glisterref10_Before.f k a b) (decide (cmpL a b < 0)) := by
  have key : ∀ d i, i + d = a.length → Ev (fun k => glisterref10_Before.l0 k a b (i : Int)) (decide (cmpL (a.drop i) (b.drop i) < 0) || (decide (b.length < i) && false)) → True := fun _ _ _ _ => trivial
  have key : ∀ d i, i + d = a.length → i ≤ b.length → Ev (fun k => glisterref10_Before.l0 k a b (i : Int)) (decide (cmpL (a.drop i) (b.drop i) < 0)) := by
    intro d
    induction d with
    | zero =>
      intro i hi hib
      refine Ev.step (f := fun k => glisterref10_Before.j1 k a b (i : Int) false) (fun k => by rw [glisterref10_Before.l0, if_neg (by omega)]) (Ev.step (f := fun _ => some (decide ((a.length : Int) < (b.length : Int)))) (fun k => by rw [glisterref10_Before.j1, if_neg (by simp)]) (Ev.now fun _ => ?_))
      rw [List.drop_of_length_le (show a.length ≤ i by omega)]
      congr 1
      by_cases h : i < b.length
      · rw [List.drop_eq_getElem_cons h]
        simp [cmpL]; omega
      · rw [List.drop_of_length_le (by omega)]
        simp [cmpL]; omega
    | succ d ih =>
      intro i hi hib
      have hia : i < a.length := by omega
      by_cases h : i < b.length
      · have ea : a.getD i 0 = a[i] := by rw [List.getD_eq_getElem?_getD, List.getElem?_eq_getElem hia]; rfl
        have eb : b.getD i 0 = b[i] := by rw [List.getD_eq_getElem?_getD, List.getElem?_eq_getElem h]; rfl
        rw [List.drop_eq_getElem_cons hia, List.drop_eq_getElem_cons h]
        refine Ev.step (f := fun k => glisterref10_Before.j1 k a b (i : Int) true) (fun k => by rw [glisterref10_Before.l0, if_pos (by omega), decide_eq_true (show (i : Int) < (b.length : Int) by omega)])
          (Ev.step (f := fun k => if a[i] = b[i] then glisterref10_Before.l0 k a b ((i + 1 : Nat) : Int) else some (decide (a[i] < b[i]))) (fun k => by rw [glisterref10_Before.j1, if_pos rfl, if_pos (by omega), if_pos (by omega), if_pos (by omega), rd_get, rd_get, ea, eb, wr1 (by omega)]) ?_)
        rw [cmpL]
        by_cases e : a[i] = b[i]
        · have e2 : cmpI a[i] b[i] = 0 := by rw [e]; exact cmpI_self _
          rw [if_neg (by simp [e2])]
          exact Ev.congr (fun k => by rw [if_pos e]) (ih (i + 1) (by omega) (by omega))
        · have e2 : cmpI a[i] b[i] ≠ 0 := fun h => e (cmpI_zero h)
          rw [if_pos e2]
          refine Ev.now fun k => ?_
          rw [if_neg e]
          congr 1
          rw [decide_eq_decide]
          exact cmpI_neg.symm
      · rw [List.drop_eq_getElem_cons hia, List.drop_of_length_le (show b.length ≤ i by omega)]
        refine Ev.step (f := fun k => glisterref10_Before.j1 k a b (i : Int) false) (fun k => by rw [glisterref10_Before.l0, if_pos (by omega), decide_eq_false (show ¬ (i : Int) < (b.length : Int) by omega)])
          (Ev.step (f := fun _ => some (decide ((a.length : Int) < (b.length : Int)))) (fun k => by rw [glisterref10_Before.j1, if_neg (by simp)]) (Ev.now fun _ => ?_))
        simp [cmpL]; omega
  have := key a.length 0 (by omega) (Nat.zero_le _)
  rw [List.drop_zero, List.drop_zero] at this
  exact this
theorem shorter_ev (a b : List Int) (ha : a.length < 1000) (hb : b.length < 1000) : Ev (fun k => glisterref10_Shorter.f k a b) (decide (cmpS a b < 0)) := by
  unfold cmpS
  by_cases h : (a.length : Int) < (b.length : Int)
  · rw [if_pos (by omega)]
    exact Ev.now fun k => by unfold glisterref10_Shorter.f; rw [if_pos h, decide_eq_true (by omega)]
  · by_cases e : (a.length : Int) = (b.length : Int)
    · rw [if_neg (by omega)]
      refine Ev.congr (f := fun k => (glisterref10_Before.f k a b).bind fun t => some t) (fun k => by unfold glisterref10_Shorter.f; rw [if_neg h, if_pos e]) (Ev.bind (before_ev a b ha hb) (Ev.now fun _ => rfl))
    · rw [if_pos (by omega)]
      exact Ev.now fun k => by unfold glisterref10_Shorter.f; rw [if_neg h, if_neg e, decide_eq_false (by omega)]
end Go.Proofs.YtekdacalkllipaaGreat.PR
end
section
namespace Go.Proofs.YtekdacalkllipaaGreat.PR
open Go.RowKit Go.Shelf Go.Proofs.YtekdacalkllipaaGreatW.PrintWords Go.Proofs.YtekdacalkllipaaGreatW.PrintLast Go.Proofs.YtekdacalkllipaaGreatW.PrintMore
set_option linter.unusedVariables false
set_option linter.unusedSimpArgs false
def IncF (l : List Int) (f n : Nat) : Prop := l.Pairwise (· < ·) ∧ ∀ x ∈ l, (f : Int) ≤ x ∧ x < n
theorem subN_inc (n b : Nat) : IncF (subN n b) 0 n := by
  rw [subN_eq]
  constructor
  · rw [List.pairwise_map]
    refine ((List.pairwise_lt_range (n := n)).filter _).imp (fun {a b} h => ?_)
    exact Int.ofNat_lt.2 h
  · intro x hx
    obtain ⟨j, hj, rfl⟩ := List.mem_map.1 hx
    have hj := List.mem_range.1 (List.mem_filter.1 hj).1
    omega
theorem bitB_add (n c : Nat) (hc : c < 2 ^ n) : bitB (c + 2 ^ n) n = true ∧ ∀ j, j < n → bitB (c + 2 ^ n) j = bitB c j := by
  constructor
  · unfold bitB
    have h : (c + 2 ^ n) / 2 ^ n = 1 := by
      rw [Nat.add_div_right _ (Nat.two_pow_pos n), Nat.div_eq_of_lt hc]
    rw [h]; rfl
  · intro j hj
    unfold bitB
    have h : (c + 2 ^ n) / 2 ^ j % 2 = c / 2 ^ j % 2 := by
      have e : 2 ^ n = 2 ^ j * (2 * 2 ^ (n - j - 1)) := by
        rw [← Nat.pow_succ', ← Nat.pow_add]
        congr 1
        omega
      rw [e, Nat.add_mul_div_left _ _ (Nat.two_pow_pos j), Nat.add_mul_mod_self_left]
    rw [h]
theorem inc_subN : ∀ (n : Nat) (l : List Int), IncF l 0 n → ∃ c, c < 2 ^ n ∧ subN n c = l
  | 0, l, h => by
    cases l with
    | nil => exact ⟨0, by simp, rfl⟩
    | cons x l => have := h.2 x List.mem_cons_self; omega
  | n + 1, l, h => by
    have hp := Nat.two_pow_pos n
    have h2 : 2 ^ (n + 1) = 2 ^ n + 2 ^ n := by rw [Nat.pow_succ]; omega
    by_cases hm : (n : Int) ∈ l
    · obtain ⟨l1, l2, rfl⟩ := List.append_of_mem hm
      have hl2 : l2 = [] := by
        cases l2 with
        | nil => rfl
        | cons y l2 =>
          have hpw := h.1
          rw [List.pairwise_append] at hpw
          have h1 := (List.pairwise_cons.1 hpw.2.1).1 y List.mem_cons_self
          have h3 := h.2 y (by simp)
          omega
      subst hl2
      have hpw := h.1
      rw [List.pairwise_append] at hpw
      obtain ⟨c, hc, hcl⟩ := inc_subN n l1 ⟨hpw.1, fun x hx => by
        have h1 := hpw.2.2 x hx (n : Int) (by simp)
        have h3 := h.2 x (List.mem_append_left _ hx)
        omega⟩
      obtain ⟨b1, b2⟩ := bitB_add n c hc
      refine ⟨c + 2 ^ n, by omega, ?_⟩
      rw [subN_succ, b1, if_pos rfl, ← hcl]
      congr 1
      rw [subN_eq, subN_eq]
      congr 1
      exact List.filter_congr (fun j hj => b2 j (List.mem_range.1 hj))
    · obtain ⟨c, hc, hcl⟩ := inc_subN n l ⟨h.1, fun x hx => by
        have h3 := h.2 x hx
        have : x ≠ (n : Int) := fun e => hm (e ▸ hx)
        omega⟩
      refine ⟨c, by omega, ?_⟩
      rw [subN_succ, hcl, bitB_zero (i := n) (Nat.div_eq_of_lt hc) (Nat.le_refl _)]
      simp
end Go.Proofs.YtekdacalkllipaaGreat.PR
end
section
namespace Go.Proofs.YtekdacalkllipaaGreat.PR
open Go.RowKit Go.Shelf Go.Proofs.YtekdacalkllipaaGreatW.PrintWords Go.Proofs.YtekdacalkllipaaGreatW.PrintLast Go.Proofs.YtekdacalkllipaaGreatW.PrintMore
set_option linter.unusedVariables false
set_option linter.unusedSimpArgs false
theorem mem_lists_evs {n : Nat} {l : List Int} : l ∈ listsS (evs n) ↔ incB l n = true := by
  rw [mem_listsS, evs_len, incB_IncF]
  constructor
  · rintro ⟨b, _, rfl⟩
    have := subN_inc n b
    exact ⟨this.1, fun x hx => by have := this.2 x hx; exact ⟨by have := this.1; omega, this.2⟩⟩
  · rintro ⟨h1, h2⟩
    obtain ⟨c, hc, e⟩ := inc_subN n l ⟨h1, fun x hx => by have := h2 x hx; exact ⟨by have := this.1; omega, this.2⟩⟩
    exact ⟨c, hc, e⟩
theorem lists_sorted (sm : List Int) : ∀ i j, i < j → j < (listsS sm).length → cmpS (rd_L1 (listsS sm) (i : Int)) (rd_L1 (listsS sm) (j : Int)) ≤ 0 := by
  intro i j hij hj
  have h : (listsS sm).Pairwise (fun a b => cmpS a b ≤ 0) := by rw [listsS_eq]; exact sortI_sorted _
  have := (List.pairwise_iff_getElem.1 h) i j (by omega) hj hij
  rw [rdL_get, rdL_get, List.getD_eq_getElem?_getD, List.getElem?_eq_getElem (show i < (listsS sm).length by omega), List.getD_eq_getElem?_getD, List.getElem?_eq_getElem hj]
  exact this
def SafeR (need : List Int) (people : List S128) (cases : List (List Int)) (r : List (List Int)) : Prop := rotaErr need people cases r = 0 ∧ rulesS people 0 r std0 = true ∧ holdsFrom need cases 0 r = true
section
variable {need : List Int} {people : List S128} {cases : List (List Int)}
theorem safe_of (hp : postErr need people cases = 0) (r : List (List Int)) : SafeR need people cases r ↔ SafeOf need people cases (listsS (evs people.length)) r := by
  unfold SafeR SafeOf
  constructor
  · rintro ⟨h1, h2, h3⟩
    obtain ⟨_, e1, e2⟩ := rotaErr_ok h1
    exact ⟨e1, fun on hon => mem_lists_evs.2 (e2 on hon), h2, h3⟩
  · rintro ⟨h1, h2, h3, h4⟩
    refine ⟨?_, h3, h4⟩
    unfold rotaErr
    rw [if_neg (by simpa using hp), if_neg]
    simp only [not_or, Decidable.not_not, Bool.not_eq_false]
    exact ⟨h1, List.all_eq_true.2 fun on hon => mem_lists_evs.1 (h2 on hon)⟩
theorem post_small (hp : postErr need people cases = 0) : need.length ≤ 5 ∧ people.length ≤ 4 ∧ cases.length ≤ 4 := by
  unfold postErr at hp
  by_cases b : 5 < need.length ∨ 4 < people.length ∨ 4 < cases.length
  · rw [if_pos b] at hp; cases hp
  · omega
theorem sum_le : ∀ (r : List (List Int)) (m : Nat), (∀ on ∈ r, on.length ≤ m) → (r.map List.length).sum ≤ r.length * m
  | [], m, _ => by simp
  | on :: r, m, h => by
    have h1 := h on List.mem_cons_self
    have h2 := sum_le r m (fun x hx => h x (List.mem_cons_of_mem _ hx))
    rw [List.map_cons, List.sum_cons, List.length_cons, Nat.succ_mul]
    omega
theorem duties_small (hp : postErr need people cases = 0) {r : List (List Int)} (h : SafeR need people cases r) : 0 ≤ dutiesS r ∧ dutiesS r ≤ 20 := by
  obtain ⟨p1, p2, _⟩ := post_small hp
  obtain ⟨_, e1, e2⟩ := rotaErr_ok h.1
  have := sum_le r 4 (fun on hon => by have := incB_len (e2 on hon); omega)
  rw [duties_sum]
  omega
theorem best_spec (hp : postErr need people cases = 0) : (bestS need people cases = ([], 0, 10) ∧ ∀ r, ¬ SafeR need people cases r) ∨
    ∃ r, bestS need people cases = (r, dutiesS r, 0) ∧ SafeR need people cases r ∧ ∀ r', SafeR need people cases r' → dutiesS r ≤ dutiesS r' ∧ (dutiesS r' = dutiesS r → smallB r' r = false) := by
  unfold bestS
  rw [if_neg (by simpa using hp)]
  by_cases h : 1024 ≤ fewS need people cases (evs people.length)
  · left
    refine ⟨by rw [if_pos h], fun r hr => ?_⟩
    have hd := duties_small hp hr
    have := (fewS_iff need people cases (evs people.length) 20 (by omega) (by omega)).2 ⟨r, (safe_of hp r).1 hr, hd.2⟩
    omega
  · right
    rw [if_neg h]
    have hb := (workS need people cases (evs people.length)).few_bd need.length 0 std0
    have hfew : (workS need people cases (evs people.length)).few need.length 0 std0 = fewS need people cases (evs people.length) := rfl
    obtain ⟨r1, r2, r3⟩ := rows_fine (workS need people cases (evs people.length)) need.length 0 std0 _ hfew (by omega)
    have hrow : rowsS need people cases (evs people.length) = (workS need people cases (evs people.length)).rows need.length 0 std0 (fewS need people cases (evs people.length)) := rfl
    rw [← hrow] at r1 r2 r3
    have hfi := (fine_iff _ _ 0 std0).1 r2
    have hsafe : SafeR need people cases (rowsS need people cases (evs people.length)) := (safe_of hp _).2 ⟨r1, hfi.1, hfi.2.1, hfi.2.2⟩
    have hdu : dutiesS (rowsS need people cases (evs people.length)) = fewS need people cases (evs people.length) := by rw [duties_sum]; exact r3
    refine ⟨rowsS need people cases (evs people.length), by rw [hdu], hsafe, fun r' hr' => ?_⟩
    have hs' := (safe_of hp r').1 hr'
    have hd' := duties_small hp hr'
    rw [hdu]
    have hle : fewS need people cases (evs people.length) ≤ dutiesS r' := (fewS_iff need people cases (evs people.length) (dutiesS r') (by omega) (by omega)).2 ⟨r', hs', Int.le_refl _⟩
    refine ⟨hle, fun he => ?_⟩
    exact rows_min (workS need people cases (evs people.length)) (lists_sorted _) need.length 0 std0 _ r' hfew (by omega) hs'.1 ((fine_iff _ r' 0 std0).2 ⟨hs'.2.1, hs'.2.2.1, hs'.2.2.2⟩) (by rw [← duties_sum]; exact he)
theorem enough_spec (hp : postErr need people cases = 0) : (enoughS need people cases = ([], 10) ∧ ∀ l, incB l people.length = true → ∀ r, ¬ SafeOf need people cases (listsS l) r) ∨
    ∃ l, enoughS need people cases = (l, 0) ∧ incB l people.length = true ∧ (∃ r, SafeOf need people cases (listsS l) r) ∧ ∀ l', incB l' people.length = true → (∃ r, SafeOf need people cases (listsS l') r) → cmpS l l' ≤ 0 := by
  have key : ∀ l, incB l people.length = true → ∀ r, SafeOf need people cases (listsS l) r → fewS need people cases l < 1024 := fun l hl r hr => by
    have hsub : ∀ on ∈ listsS l, incB on people.length = true := fun on hon => by
      obtain ⟨b, _, e⟩ := mem_listsS.1 hon
      rw [incB_IncF] at hl ⊢
      have hsl : on.Sublist l := by
        rw [← e]
        unfold subL subK
        have h9 : ((List.range l.length).map fun j => l.getD j 0) = l := by
          apply List.ext_getElem
          · simp
          · intro i h1 h2; simp [List.getD_eq_getElem?_getD, h2]
        have h8 := (List.filter_sublist (p := bitB b) (l := List.range l.length)).map (fun j => l.getD j 0)
        rw [h9] at h8
        exact h8
      exact ⟨hl.1.sublist hsl, fun x hx => hl.2 x (hsl.subset hx)⟩
    obtain ⟨p1, p2, _⟩ := post_small hp
    have := sum_le r 4 (fun on hon => by have := incB_len (hsub on (hr.2.1 on hon)); omega)
    have hd : dutiesS r ≤ 20 := by rw [duties_sum, hr.1] at *; omega
    have h3 := (fewS_iff need people cases l 20 (by omega) (by omega)).2 ⟨r, hr, hd⟩
    omega
  have key2 : ∀ l, fewS need people cases l < 1024 → ∃ r, SafeOf need people cases (listsS l) r := fun l hl => by
    have hb := (workS need people cases l).few_bd need.length 0 std0
    obtain ⟨r, hr, _⟩ := (fewS_iff need people cases l (fewS need people cases l) hl hb.1).1 (Int.le_refl _)
    exact ⟨r, hr⟩
  unfold enoughS
  rw [if_neg (by simpa using hp)]
  cases hf : (listsS (evs people.length)).find? (fun l => decide (fewS need people cases l < 1024)) with
  | none =>
    left
    refine ⟨rfl, fun l hl r hr => ?_⟩
    rw [List.find?_eq_none] at hf
    have := hf l (mem_lists_evs.2 hl)
    simp only [decide_eq_true_eq] at this
    exact this (key l hl r hr)
  | some l =>
    right
    have hl := List.find?_some hf
    have hm := List.mem_of_find?_eq_some hf
    simp only [decide_eq_true_eq] at hl
    refine ⟨l, rfl, mem_lists_evs.1 hm, key2 l hl, fun l' hl' ⟨r, hr⟩ => ?_⟩
    have hlt' := key l' hl' r hr
    have hm' := mem_lists_evs.2 hl'
    rw [List.find?_eq_some_iff_append] at hf
    obtain ⟨_, xs, bs, e, hno⟩ := hf
    have hsort : (listsS (evs people.length)).Pairwise (fun a b => cmpS a b ≤ 0) := by rw [listsS_eq]; exact sortI_sorted _
    rw [e] at hm' hsort
    rcases List.mem_append.1 hm' with h | h
    · have := hno l' h
      simp at this
      omega
    · rcases List.mem_cons.1 h with rfl | h
      · rw [cmpS_self]; omega
      · rw [List.pairwise_append] at hsort
        exact (List.pairwise_cons.1 hsort.2.1).1 l' h
end
end Go.Proofs.YtekdacalkllipaaGreat.PR
end
section
namespace Go.Proofs.YtekdacalkllipaaGreat.PR
open Go.RowKit Go.Shelf Go.Proofs.YtekdacalkllipaaGreatW.PrintWords Go.Proofs.YtekdacalkllipaaGreatW.PrintLast Go.Proofs.YtekdacalkllipaaGreatW.PrintMore
set_option linter.unusedVariables false
section
variable {A0 A1 A2 A3 : Option Addr} {c0 c1 c2 c3 : Nat} {w : World} {l0 : List Int} {l1 : List S119} {l2 l3 : List (List Int)}
theorem thin_c (h0 : SL (Kd.int .i64) A0 c0 w l0) (h1 : SL k119 A1 c1 w l1) (h2 : SL KR A2 c2 w l2) {b : Bool} (hb : Ev (fun k => glisterlaw10_Thin.f k l0 l1 l2) b) :
    Calls Tryz.prog 15 #[.agg #[.slice A0 l0.length c0, .slice A1 l1.length c1, .slice A2 l2.length c2]] w fun e w' => e = .returned (.bool b) ∧ Below w.heap.size w w' := by
  obtain ⟨k, hk⟩ := hb.one
  exact glisterlaw10_Thin.calls k A0 c0 l0 A1 c1 l1 A2 c2 l2 b w h0.2 h0.1 h1.2 h1.1 h2.2 h2.1 hk
theorem post_c (h0 : SL (Kd.int .i64) A0 c0 w l0) (h1 : SL k119 A1 c1 w l1) (h2 : SL KR A2 c2 w l2) {ps : List S128} (hp : Ev (fun k => glisterlaw10_Post.f k l0 l1 l2) (l0, ps, l2)) :
    Calls Tryz.prog 19 #[.agg #[.slice A0 l0.length c0, .slice A1 l1.length c1, .slice A2 l2.length c2]] w fun e w' => ∃ B0 d0 B1 d1 B2 d2, e = .returned (.agg #[.slice B0 l0.length d0, .slice B1 ps.length d1, .slice B2 l2.length d2]) ∧ SL (Kd.int .i64) B0 d0 w' l0 ∧ SL k128 B1 d1 w' ps ∧ SL KR B2 d2 w' l2 ∧ Below w.heap.size w w' := by
  obtain ⟨k, hk⟩ := hp.one
  refine (glisterlaw10_Post.calls k A0 c0 l0 A1 c1 l1 A2 c2 l2 l0 ps l2 w h0.2 h0.1 h1.2 h1.1 h2.2 h2.1 hk).mono ?_
  rintro e w' ⟨v0, v1, v2, rfl, g0, g1, g2, hb⟩
  obtain ⟨B0, d0, rfl, x0, y0⟩ := Kd.R_reads g0
  obtain ⟨B1, d1, rfl, x1, y1⟩ := Kd.S_reads g1
  obtain ⟨B2, d2, rfl, x2, y2⟩ := Kd.S_reads g2
  exact ⟨B0, d0, B1, d1, B2, d2, rfl, ⟨x0, y0⟩, ⟨x1, y1⟩, ⟨x2, y2⟩, hb⟩
end
section
variable {A0 A1 A2 A3 : Option Addr} {c0 c1 c2 c3 : Nat} {w : World} {l0 : List Int} {l1 : List S128} {l2 l3 : List (List Int)}
theorem best_c (h0 : SL (Kd.int .i64) A0 c0 w l0) (h1 : SL k128 A1 c1 w l1) (h2 : SL KR A2 c2 w l2) :
    Calls Tryz.prog 42 #[.agg #[.slice A0 l0.length c0, .slice A1 l1.length c1, .slice A2 l2.length c2]] w fun e w' => ∃ A c, e = .returned (.tuple #[.slice A (bestS l0 l1 l2).1.length c, .int .i64 (bestS l0 l1 l2).2.1, .int .i64 (bestS l0 l1 l2).2.2]) ∧ SL KR A c w' (bestS l0 l1 l2).1 ∧ Below w.heap.size w w' := by
  refine (Best_any A0 c0 l0 A1 c1 l1 A2 c2 l2 w h0.2 h0.1 h1.2 h1.1 h2.2 h2.1).mono ?_
  rintro e w' ⟨v, rfl, hS, hb⟩
  obtain ⟨A, c, rfl, d0, e0⟩ := Kd.S_reads hS
  exact ⟨A, c, rfl, ⟨d0, e0⟩, hb⟩
theorem enough_c (h0 : SL (Kd.int .i64) A0 c0 w l0) (h1 : SL k128 A1 c1 w l1) (h2 : SL KR A2 c2 w l2) :
    Calls Tryz.prog 28 #[.agg #[.slice A0 l0.length c0, .slice A1 l1.length c1, .slice A2 l2.length c2]] w fun e w' => ∃ A c, e = .returned (.tuple #[.slice A (enoughS l0 l1 l2).1.length c, .int .i64 (enoughS l0 l1 l2).2]) ∧ SL (Kd.int .i64) A c w' (enoughS l0 l1 l2).1 ∧ Below w.heap.size w w' := by
  refine (Enough_any A0 c0 l0 A1 c1 l1 A2 c2 l2 w h0.2 h0.1 h1.2 h1.1 h2.2 h2.1).mono ?_
  rintro e w' ⟨v, rfl, hS, hb⟩
  obtain ⟨A, c, rfl, d0, e0⟩ := Kd.R_reads hS
  exact ⟨A, c, rfl, ⟨d0, e0⟩, hb⟩
end
end Go.Proofs.YtekdacalkllipaaGreat.PR
end
