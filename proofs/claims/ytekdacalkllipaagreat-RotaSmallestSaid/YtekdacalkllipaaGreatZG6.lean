/- YtekdacalkllipaaGreat: part 6 of the proof of the theorem rotaSmallest_holds, for every input. -/
import Derived.Below
import Derived.ChangeOld
import Derived.ChangeSame
import Derived.Deep.Slices
import Derived.OpenShut
import Derived.ProofKit
import Derived.ShutString
import Derived.SizedLaws
import Derived.Test.YtekdacalkllipaaGreatRows
import Derived.WalkKit
import Derived.Test.YtekdacalkllipaaGreatZG5
section
namespace Go.Proofs.YtekdacalkllipaaGreat.PR
open Go.RowKit Go.Shelf Go.Proofs.YtekdacalkllipaaGreatW.PrintWords Go.Proofs.YtekdacalkllipaaGreatW.PrintLast Go.Proofs.YtekdacalkllipaaGreatW.PrintMore
set_option linter.unusedVariables false
set_option linter.unusedSimpArgs false
attribute [local go_sem] Oper.semAt_some
attribute [local simp] wide_fn
set_option maxRecDepth 100000 in
set_option maxHeartbeats 4000000 in
theorem fault_d {A0 A1 A2 : Option Addr} {c0 c1 c2 : Nat} {w : World} {l0 : List Int} {l1 : List S119} {l2 : List (List Int)} (h0 : SL (Kd.int .i64) A0 c0 w l0) (h1 : SL k119 A1 c1 w l1) (h2 : SL KR A2 c2 w l2) :
    Calls Tryz.prog 23 #[.agg #[.slice A0 l0.length c0, .slice A1 l1.length c1, .slice A2 l2.length c2]] w fun e w' => e = .returned (.int .i64 (postErr l0 (l1.map toP) l2)) ∧ Below w.heap.size w w' := by
  obtain ⟨er, her⟩ : ∃ er, er = postErr l0 (l1.map toP) l2 := ⟨_, rfl⟩
  rw [← her]
  have HER := Aside0.mk her
  clear her
  obtain ⟨P, hP⟩ : ∃ P, P = w.heap.size := ⟨_, rfl⟩
  obtain ⟨w0, hw0⟩ : ∃ w0, w0 = w.alloc (.cells #[.slice A0 l0.length c0, .slice A1 l1.length c1, .slice A2 l2.length c2] 26) := ⟨_, rfl⟩
  have hb : Below w.heap.size w w0 := by rw [hw0]; exact below_alloc (Below.refl _ _) _
  have HK0 : Aside0 (w0.heap[P]? = some (.cells #[.slice A0 l0.length c0, .slice A1 l1.length c1, .slice A2 l2.length c2] 26 (0, 0))) := ⟨by rw [hw0, hP]; exact blk_new w _⟩
  have HX0 := Aside0.mk (h0.below hb)
  have HY0 := Aside0.mk (h1.below hb)
  have HZ0 := Aside0.mk (h2.below hb)
  have HB0 := Aside0.mk hb
  clear h0 h1 h2 hb
  have hu26 := Tryz.underlying26
  have q0 : w0.cell? ⟨P, 0, none⟩ = some (.slice A0 l0.length c0) := (blk_cell HK0.out 0).trans rfl
  have q1 : w0.cell? ⟨P, 1, none⟩ = some (.slice A1 l1.length c1) := (blk_cell HK0.out 1).trans rfl
  have q2 : w0.cell? ⟨P, 2, none⟩ = some (.slice A2 l2.length c2) := (blk_cell HK0.out 2).trans rfl
  rw [hw0] at q0 q1 q2
  rw [hP] at q0 q1 q2
  refine (callsIn_wide (n := 40)).1 ?_
  refine callsIn_of_wp Tryz.func23 rfl trivial ?_ rfl
  simp only [Tryz.ntmps23, List.size_toArray, List.length_cons, List.length_nil, Nat.reduceAdd, Nat.reduceSub, Array.replicate_succ, Array.replicate_zero, List.push_toArray, List.append_toArray, List.nil_append, List.cons_append]
  have hc := fault_any HX0.out HY0.out HZ0.out
  rw [← HER.out] at hc
  have HC := Aside0.mk hc
  clear hc
  gi_wp2_with fail
  rw [← hw0, ← hP]
  clear hP hw0 q0 q1 q2
  refine (callsIn_wide.2 HC.out).mono ?_
  rintro e w1 ⟨rfl, hb⟩
  have HB1 := Aside0.mk (HB0.out.trans (hb.mono HB0.out.size))
  have HK1 := Aside0.mk (blk_below HK0.out hb)
  have HX1 := Aside0.mk (HX0.out.below hb)
  have HY1 := Aside0.mk (HY0.out.below hb)
  have HZ1 := Aside0.mk (HZ0.out.below hb)
  gi_wp2
  go_ret
  exact ⟨rfl, HB1.out⟩
set_option maxRecDepth 100000 in
set_option maxHeartbeats 4000000 in
theorem ready_d {A0 A1 A2 : Option Addr} {c0 c1 c2 : Nat} {w : World} {l0 : List Int} {l1 : List S119} {l2 : List (List Int)} (h0 : SL (Kd.int .i64) A0 c0 w l0) (h1 : SL k119 A1 c1 w l1) (h2 : SL KR A2 c2 w l2) {tb : Bool} (ht : Ev (fun k => glisterlaw10_Thin.f k l0 l1 l2) tb) :
    Calls Tryz.prog 53 #[.agg #[.slice A0 l0.length c0, .slice A1 l1.length c1, .slice A2 l2.length c2]] w fun e w' => e = .returned (.bool (tb && postErr l0 (l1.map toP) l2 == 0)) ∧ Below w.heap.size w w' := by
  obtain ⟨er, her⟩ : ∃ er, er = postErr l0 (l1.map toP) l2 := ⟨_, rfl⟩
  obtain ⟨rb, hrb⟩ : ∃ rb, rb = (tb && postErr l0 (l1.map toP) l2 == 0) := ⟨_, rfl⟩
  rw [← hrb]
  have HER := Aside0.mk (And.intro her hrb)
  have HT := Aside0.mk ht
  clear her hrb ht
  obtain ⟨P, hP⟩ : ∃ P, P = w.heap.size := ⟨_, rfl⟩
  obtain ⟨w0, hw0⟩ : ∃ w0, w0 = w.alloc (.cells #[.slice A0 l0.length c0, .slice A1 l1.length c1, .slice A2 l2.length c2] 26) := ⟨_, rfl⟩
  have hb : Below w.heap.size w w0 := by rw [hw0]; exact below_alloc (Below.refl _ _) _
  have HK0 : Aside0 (w0.heap[P]? = some (.cells #[.slice A0 l0.length c0, .slice A1 l1.length c1, .slice A2 l2.length c2] 26 (0, 0))) := ⟨by rw [hw0, hP]; exact blk_new w _⟩
  have HX0 := Aside0.mk (h0.below hb)
  have HY0 := Aside0.mk (h1.below hb)
  have HZ0 := Aside0.mk (h2.below hb)
  have HB0 := Aside0.mk hb
  clear h0 h1 h2 hb
  have hu26 := Tryz.underlying26
  have q0 : w0.cell? ⟨P, 0, none⟩ = some (.slice A0 l0.length c0) := (blk_cell HK0.out 0).trans rfl
  have q1 : w0.cell? ⟨P, 1, none⟩ = some (.slice A1 l1.length c1) := (blk_cell HK0.out 1).trans rfl
  have q2 : w0.cell? ⟨P, 2, none⟩ = some (.slice A2 l2.length c2) := (blk_cell HK0.out 2).trans rfl
  rw [hw0] at q0 q1 q2
  rw [hP] at q0 q1 q2
  refine (callsIn_wide (n := 40)).1 ?_
  refine callsIn_of_wp Tryz.func53 rfl trivial ?_ rfl
  simp only [Tryz.ntmps53, List.size_toArray, List.length_cons, List.length_nil, Nat.reduceAdd, Nat.reduceSub, Array.replicate_succ, Array.replicate_zero, List.push_toArray, List.append_toArray, List.nil_append, List.cons_append]
  have HC := Aside0.mk (thin_c HX0.out HY0.out HZ0.out HT.out)
  gi_wp2_with fail
  rw [← hw0, ← hP]
  clear hP hw0 q0 q1 q2
  refine (callsIn_wide.2 HC.out).mono ?_
  rintro e w1 ⟨rfl, hb⟩
  have HB1 := Aside0.mk (HB0.out.trans (hb.mono HB0.out.size))
  have HK1 := Aside0.mk (blk_below HK0.out hb)
  have HX1 := Aside0.mk (HX0.out.below hb)
  have HY1 := Aside0.mk (HY0.out.below hb)
  have HZ1 := Aside0.mk (HZ0.out.below hb)
  clear hb HC HB0 HK0 HX0 HY0 HZ0 HT
  cases tb with
  | false =>
    have e3 : rb = false := HER.out.2
    subst e3
    gi_wp2
    go_ret
    exact ⟨rfl, HB1.out⟩
  | true =>
    have hc := fault_d HX1.out HY1.out HZ1.out
    rw [← HER.out.1] at hc
    have HC := Aside0.mk hc
    clear hc
    have q0 : w1.cell? ⟨P, 0, none⟩ = some (.slice A0 l0.length c0) := (blk_cell HK1.out 0).trans rfl
    have q1 : w1.cell? ⟨P, 1, none⟩ = some (.slice A1 l1.length c1) := (blk_cell HK1.out 1).trans rfl
    have q2 : w1.cell? ⟨P, 2, none⟩ = some (.slice A2 l2.length c2) := (blk_cell HK1.out 2).trans rfl
    gi_wp2_with fail
    refine (callsIn_wide.2 HC.out).mono ?_
    rintro e w2 ⟨rfl, hb⟩
    have HB2 := Aside0.mk (HB1.out.trans (hb.mono HB1.out.size))
    have HK2 := Aside0.mk (blk_below HK1.out hb)
    clear hb HC q0 q1 q2
    have e3 : rb = (er == 0) := by rw [HER.out.2, ← HER.out.1, Bool.true_and]
    subst e3
    gi_wp2
    go_ret
    exact ⟨rfl, HB2.out⟩
theorem ready_b (l0 : List Int) (l1 : List S119) (l2 : List (List Int)) : ∃ b : Bool, Aside0 ((∀ ⦃A0 A1 A2 : Option Addr⦄ ⦃c0 c1 c2 : Nat⦄ ⦃w : World⦄, SL (Kd.int .i64) A0 c0 w l0 → SL k119 A1 c1 w l1 → SL KR A2 c2 w l2 →
    Calls Tryz.prog 53 #[.agg #[.slice A0 l0.length c0, .slice A1 l1.length c1, .slice A2 l2.length c2]] w fun e w' => e = .returned (.bool b) ∧ Below w.heap.size w w') ∧ (b = true → ThinP l0 l1 l2 ∧ postErr l0 (l1.map toP) l2 = 0)) := by
  obtain ⟨tb, h1, h2⟩ := thin_ev l0 l1 l2
  refine ⟨tb && postErr l0 (l1.map toP) l2 == 0, ⟨fun _ _ _ _ _ _ _ h0 h1' h2' => ready_d h0 h1' h2' h1, fun h => ?_⟩⟩
  rw [Bool.and_eq_true] at h
  exact ⟨h2 h.1, beq_iff_eq.1 h.2⟩
end Go.Proofs.YtekdacalkllipaaGreat.PR
end
section
namespace Go.Proofs.YtekdacalkllipaaGreat.PR
open Go.RowKit Go.Shelf Go.Proofs.YtekdacalkllipaaGreatW.PrintWords Go.Proofs.YtekdacalkllipaaGreatW.PrintLast Go.Proofs.YtekdacalkllipaaGreatW.PrintMore
set_option linter.unusedVariables false
set_option linter.unusedSimpArgs false
attribute [local go_sem] Oper.semAt_some
attribute [local simp] wide_fn
structure MadeAt (n m : Nat) (r : List (List Int)) (a i : Nat) : Prop where
  len : r.length = n
  done : ∀ j, j < a → IncF (r.getD j []) 0 m
  now : IncF (r.getD a []) 0 i
  rest : ∀ j, a < j → r.getD j [] = []
theorem wim1 {i : Nat} (hi : i < 1000) : IntKind.i64.wrap ((i : Int) + 1) = (i : Int) + 1 := by rw [IntKind.wrap_i64]; omega
theorem wrm1 {i : Nat} (hi : i < 1000) : wrap64 ((i : Int) + 1) = (i : Int) + 1 := by unfold wrap64; omega
theorem wim0 {i : Nat} (hi : i < 1000) : IntKind.i64.wrap (i : Int) = (i : Int) := by rw [IntKind.wrap_i64]; omega
theorem wrm0 {i : Nat} (hi : i < 1000) : wrap64 (i : Int) = (i : Int) := by unfold wrap64; omega
end Go.Proofs.YtekdacalkllipaaGreat.PR
end
section
namespace Go.Proofs.YtekdacalkllipaaGreat.PR
open Go.RowKit Go.Shelf Go.Proofs.YtekdacalkllipaaGreatW.PrintWords Go.Proofs.YtekdacalkllipaaGreatW.PrintLast Go.Proofs.YtekdacalkllipaaGreatW.PrintMore
set_option linter.unusedVariables false
set_option linter.unusedSimpArgs false
attribute [local go_sem] Oper.semAt_some
attribute [local simp] wide_fn
def onlyX (sm : List Int) (x : S119) (j : Nat) : S119 := if sm.contains (j : Int) = true then x else ⟨x.f0, x.f1, 0⟩
def onlyP (sm : List Int) (l : List S119) : List S119 := (List.range l.length).map fun j => onlyX sm (l.getD j z119) j
structure OnlyAt (sm : List Int) (l xs : List S119) (i : Nat) : Prop where
  len : xs.length = l.length
  done : ∀ j, j < i → j < l.length → xs.getD j z119 = onlyX sm (l.getD j z119) j
  rest : ∀ j, i ≤ j → j < l.length → xs.getD j z119 = l.getD j z119
theorem only_full {sm : List Int} {l xs : List S119} (h : OnlyAt sm l xs l.length) : xs = onlyP sm l := by
  apply List.ext_getElem
  · rw [h.len]; simp [onlyP]
  · intro j h1 h2
    have h3 := h.done j (by rw [← h.len]; exact h1) (by rw [← h.len]; exact h1)
    rw [List.getD_eq_getElem?_getD, List.getElem?_eq_getElem h1] at h3
    simpa [onlyP] using h3
theorem getDP_set {r : List S119} {a j : Nat} {x : S119} (ha : a < r.length) : (r.set a x).getD j z119 = if j = a then x else r.getD j z119 := by
  rw [List.getD_eq_getElem?_getD, List.getD_eq_getElem?_getD, List.getElem?_set]
  by_cases e : a = j
  · subst e; rw [if_pos rfl, if_pos ha, if_pos rfl]; rfl
  · rw [if_neg e, if_neg (fun h => e h.symm)]
theorem only_keep {sm : List Int} {l xs : List S119} {i : Nat} (h : OnlyAt sm l xs i) (hc : sm.contains (i : Int) = true) : OnlyAt sm l xs (i + 1) := ⟨h.len, fun j hj hl => by
  by_cases e : j = i
  · subst e; rw [h.rest _ (Nat.le_refl _) hl, onlyX, if_pos hc]
  · exact h.done j (by omega) hl, fun j hj hl => h.rest j (by omega) hl⟩
theorem only_put {sm : List Int} {l xs : List S119} {i : Nat} (h : OnlyAt sm l xs i) (hi : i < l.length) (hc : sm.contains (i : Int) = false) : OnlyAt sm l (xs.set i ⟨(xs.getD i z119).f0, (xs.getD i z119).f1, 0⟩) (i + 1) := by
  have hl : i < xs.length := by rw [h.len]; exact hi
  refine ⟨by rw [List.length_set, h.len], fun j hj hjl => ?_, fun j hj hjl => ?_⟩
  · rw [getDP_set hl]
    by_cases e : j = i
    · subst e
      rw [if_pos rfl, h.rest _ (Nat.le_refl _) hjl, onlyX, if_neg (by rw [hc]; simp)]
    · rw [if_neg e]; exact h.done j (by omega) hjl
  · rw [getDP_set hl, if_neg (by omega)]; exact h.rest j (by omega) hjl
theorem heap119 : Kd.Heap k119 := Kd.heap_iso _ (Kd.heap_pair (Kd.heap_slice _ Kd.heap_bool) (Kd.heap_pair (Kd.heap_int _) (Kd.heap_int _)))
set_option maxRecDepth 100000 in
set_option maxHeartbeats 4000000 in
theorem only_d {A0 A1 A2 A3 : Option Addr} {c0 c1 c2 c3 : Nat} {w : World} {l0 : List Int} {l1 : List S119} {l2 : List (List Int)} {sm : List Int} (h1 : SL k119 A1 c1 w l1) (h3 : SL (Kd.int .i64) A3 c3 w sm) (hn : 0 < l1.length) (hn9 : l1.length < 1000) (hs9 : sm.length < 1000) :
    Calls Tryz.prog 59 #[.agg #[.slice A0 l0.length c0, .slice A1 l1.length c1, .slice A2 l2.length c2], .slice A3 sm.length c3] w fun e w' => ∃ B c, e = .returned (.agg #[.slice A0 l0.length c0, .slice B l1.length c, .slice A2 l2.length c2]) ∧ SL k119 B c w' (onlyP sm l1) ∧ Below w.heap.size w w' := by
  obtain ⟨P, hP⟩ : ∃ P, P = w.heap.size := ⟨_, rfl⟩
  obtain ⟨R, hR⟩ : ∃ R, R = P + 1 := ⟨_, rfl⟩
  obtain ⟨w0, hw0⟩ : ∃ w0, w0 = ((w.alloc (.cells #[.slice A0 l0.length c0, .slice A1 l1.length c1, .slice A2 l2.length c2] 26)).alloc (.cells #[.slice none 0 0, .slice none 0 0, .slice none 0 0] 26)).alloc (.cells #[] 119) := ⟨_, rfl⟩
  obtain ⟨W0, hW0⟩ : ∃ W0, W0 = (w.alloc (.cells #[.slice A0 l0.length c0, .slice A1 l1.length c1, .slice A2 l2.length c2] 26)).alloc (.cells #[.slice none 0 0, .slice none 0 0, .slice none 0 0] 26) := ⟨_, rfl⟩
  rw [← hW0] at hw0
  have es : (w.alloc (.cells #[.slice A0 l0.length c0, .slice A1 l1.length c1, .slice A2 l2.length c2] 26)).heap.size = w.heap.size + 1 := Array.size_push ..
  have es2 : W0.heap.size = w.heap.size + 2 := by rw [hW0]; exact (Array.size_push ..).trans (congrArg (· + 1) es)
  have hb : Below w.heap.size w w0 := by rw [hw0, hW0]; exact below_alloc (below_alloc (below_alloc (Below.refl _ _) _) _) _
  have HKP : Aside0 (w0.heap[P]? = some (.cells #[.slice A0 l0.length c0, .slice A1 l1.length c1, .slice A2 l2.length c2] 26 (0, 0))) := ⟨by rw [hw0, hW0, hP]; exact blk_alloc (blk_alloc (blk_new w _) _) _⟩
  have HKR : Aside0 (w0.heap[R]? = some (.cells #[.slice none 0 0, .slice none 0 0, .slice none 0 0] 26 (0, 0))) := ⟨by rw [hw0, hW0, hR, hP, ← es]; exact blk_alloc (blk_new _ _) _⟩
  have HF : Aside0 (Kd.F k119 w (fun k => k < w.heap.size) A1 l1.length l1) := ⟨Kd.C_F heap119 h1.2⟩
  have HF0 : Aside0 (Kd.F k119 w0 (fun k => k < w.heap.size) A1 l1.length l1) := ⟨Kd.F_step HF.out (fun k hk hlt => hb.block k hk)⟩
  have HE : Aside0 (Kd.N k119 119 w0 w.heap.size (fun k => k ≠ P ∧ k ≠ R) (.slice (some ⟨w.heap.size + 1 + 1, 0, none⟩) 0 0) []) := ⟨by
    refine Kd.R_N ⟨fun k hk => ?_, [], ?_, ?_⟩
    · injection hk with hk; subst hk; show w.heap.size + 1 + 1 ≠ P ∧ w.heap.size + 1 + 1 ≠ R; omega
    · have := World.ownsRow_made (base := w.heap.size) (e := 119) (size := 3) W0 #[] 0 (by omega) (Nat.zero_le _) rfl
      rw [es2, ← hw0] at this
      exact this
    · exact ⟨rfl, fun j p hj => by cases hj⟩⟩
  have HX := Aside0.mk (And.intro h1 (And.intro h3 (And.intro hn (And.intro hn9 hs9))))
  have HB0 := Aside0.mk hb
  have HSZ : Aside0 (w0.heap.size = w.heap.size + 3) := ⟨by rw [hw0]; exact (Array.size_push ..).trans (congrArg (· + 1) es2)⟩
  clear h1 h3 hn9 hs9 hb HF
  go_enter Tryz.func59, Tryz.ntmps59
  have hu26 := Tryz.underlying26
  have hu119 := Tryz.underlying119
  have q1 : w0.cell? ⟨P, 1, none⟩ = some (.slice A1 l1.length c1) := (blk_cell HKP.out 1).trans rfl
  have q1W : W0.cell? ⟨P, 1, none⟩ = some (.slice A1 l1.length c1) := by
    rw [hW0, hP]; exact (blk_cell (blk_alloc (blk_new w _) _) 1).trans rfl
  rw [hw0, hW0, hP] at q1
  rw [hW0, hP] at q1W
  have hokp : ∀ k, k < w.heap.size → (k ≠ P ∧ k ≠ R) ∧ some k ≠ (Value.slice (some ⟨w.heap.size + 1 + 1, 0, none⟩) 0 0).ownBlock := fun k hk => ⟨by omega, fun e => by injection e with e; have e2 : k = w.heap.size + 1 + 1 := e; omega⟩
  have hfr : ∀ k, w0.heap.size ≤ k → k ≠ P ∧ k ≠ R := fun k hk => by have := HSZ.out; omega
  have hrow : ∀ k, (Value.slice (some ⟨w.heap.size + 1 + 1, 0, none⟩) 0 0).ownBlock = some k → k ≠ P ∧ k ≠ R := fun k hk => by injection hk with hk; subst hk; show w.heap.size + 1 + 1 ≠ P ∧ w.heap.size + 1 + 1 ≠ R; omega
  have HOK := Aside0.mk (And.intro hokp (And.intro hfr hrow))
  have HW := Aside0.mk (And.intro hw0 (And.intro hW0 (And.intro hP hR)))
  clear hokp hfr hrow hw0 hW0 es es2 hP hR q1W q1 hn
  have q1 : ((w.alloc (.cells #[.slice A0 l0.length c0, .slice A1 l1.length c1, .slice A2 l2.length c2] 26)).alloc (.cells #[.slice none 0 0, .slice none 0 0, .slice none 0 0] 26)).cell? ⟨w.heap.size, 1, none⟩ = some (.slice A1 l1.length c1) := (blk_cell (blk_alloc (blk_new w _) _) 1).trans rfl
  have q2 : (((w.alloc (.cells #[.slice A0 l0.length c0, .slice A1 l1.length c1, .slice A2 l2.length c2] 26)).alloc (.cells #[.slice none 0 0, .slice none 0 0, .slice none 0 0] 26)).alloc (.cells #[] 119)).cell? ⟨w.heap.size, 1, none⟩ = some (.slice A1 l1.length c1) := (blk_cell (blk_alloc (blk_alloc (blk_new w _) _) _) 1).trans rfl
  go_wp2_with ((with_reducible refine gate_builtin (b := .append) (xs := #[.tmp 7, .tmp 9]) rfl ?_); at_builtin; rw [← HW.out.2.1, ← HW.out.1]; refine Kd.N_append_rows k119 (w0 := w) (W := w0) w.heap.size rfl (.tmp 7) (.tmp 9) 23 119 (.agg #[.slice none 0 0, .int .i64 0, .int .i64 0]) 40 rfl (by kernel_rfl) (by kernel_rfl) rfl (by decide) (by omega) (.slice (some ⟨w.heap.size + 1 + 1, 0, none⟩) 0 0) [] l1 A1 l1.length c1 (fun k => k ≠ P ∧ k ≠ R) (fun k => k < w.heap.size) rfl rfl HE.out HF0.out HOK.out.1 HOK.out.2.1 HB0.out HB0.out.size (by have := HX.out.2.2.2.1; simp only [List.length_nil]; omega) ?_; intro v1 w1 ho hb hgr hat; have HN1 := Aside0.mk ho; have HB1 := Aside0.mk hb; have HP1 := Aside0.mk (blk_grown HKP.out hgr (fun k hk => (HOK.out.2.2 k hk).1)); have HR1 := Aside0.mk (blk_grown HKR.out hgr (fun k hk => (HOK.out.2.2 k hk).2)); obtain ⟨gp, cp, ev, hg1, hg2, _⟩ := Kd.N_form ho (by simpa using HX.out.2.2.1); rw [List.nil_append] at ev HN1; subst ev; have HGP : Aside0 (w.heap.size ≤ gp ∧ gp ≠ P ∧ gp ≠ R) := ⟨⟨hg1, ho.1 gp rfl⟩⟩; clear ho hb hgr hat hg1 hg2 q1 q2 HOK HE HF0 HKP HKR HB0)
  rw [← HW.out.2.2.1, ← HW.out.2.2.2]
  have HPR : Aside0 (P ≠ R ∧ w.heap.size ≤ P ∧ w.heap.size ≤ R) := ⟨by have h1 := HW.out.2.2.1; have h2 := HW.out.2.2.2; omega⟩
  clear HW HSZ
  go_loopg [6] l1.length (fun gg s6 wr => ∃ (i : Nat) (xs : List S119), i ≤ l1.length ∧ l1.length - i ≤ gg ∧ s6 = .int .i64 i ∧ Aside0 (OnlyAt sm l1 xs i) ∧ Aside0 (Kd.N k119 119 wr w.heap.size (fun k => k ≠ P ∧ k ≠ R) (.slice (some ⟨gp, 0, none⟩) l1.length cp) xs) ∧ Aside0 (Below w.heap.size w wr) ∧ Aside0 (wr.heap[P]? = some (.cells #[.slice A0 l0.length c0, .slice A1 l1.length c1, .slice A2 l2.length c2] 26 (0, 0))) ∧ Aside0 (wr.heap[R]? = some (.cells #[.slice none 0 0, .slice none 0 0, .slice none 0 0] 26 (0, 0))))
  case atStart => exact ⟨0, l1, Nat.zero_le _, by omega, rfl, ⟨⟨rfl, fun j hj => by omega, fun j _ _ => rfl⟩⟩, HN1, HB1, HP1, HR1⟩
  case round =>
    clear HN1 HB1 HP1 HR1
    obtain ⟨i, xs, hi, hg, rfl, HO, HN, HB, HKp, HKr⟩ := hrel
    by_cases hlt : i < l1.length
    · have hltz : (i : Int) < (l1.length : Int) := by omega
      have hi9 : i < 1000 := Nat.lt_trans hlt HX.out.2.2.2.1
      have hi1 := wrm1 hi9
      have hi2 := wim1 hi9
      have hs3 := HX.out.2.1.below HB.out
      obtain ⟨kk, hkk⟩ := (has_ev sm (i : Int) HX.out.2.2.2.2).one
      obtain ⟨b, hbb⟩ : ∃ b, b = sm.contains (i : Int) := ⟨_, rfl⟩
      rw [← hbb] at hkk
      have HC := Aside0.mk (glisterref10_Has.calls kk A3 c3 sm (i : Int) b wr hs3.2 hs3.1 hkk)
      have HBB := Aside0.mk hbb.symm
      clear hkk hs3 hbb
      go_wp2_with fail
      refine HC.out.mono ?_
      rintro e w2 ⟨rfl, hd⟩
      have hb2 : Below wr.heap.size wr w2 := drawn_below hd
      have HN2 := Aside0.mk (Kd.N_below HN.out hb2)
      have HB2 := Aside0.mk (HB.out.trans (hb2.mono HB.out.size))
      have HP2 := Aside0.mk (blk_below HKp.out hb2)
      have HR2 := Aside0.mk (blk_below HKr.out hb2)
      clear HC hd hb2 HN HB HKp HKr
      cases b with
      | true =>
        go_wp2
        go_roundg (l1.length - (i + 1))
        case measure => omega
        case rel => exact ⟨i + 1, xs, by omega, by omega, by push_cast; rfl, ⟨only_keep HO.out HBB.out⟩, HN2, HB2, HP2, HR2⟩
      | false =>
        obtain ⟨c, hcl, hF, hcc, hfr⟩ := Kd.N_elem HN2.out z119 (i : Int) (by omega) (by omega)
        rw [Int.toNat_natCast] at hF hcc hfr
        obtain ⟨Ax, cx, ec, hxl, hxF⟩ := k119_openF hF
        subst ec
        have hx2 : w2.cell? ⟨gp, i * 3 + 2, none⟩ = some (.int .i64 (xs.getD i z119).f2) := hcc 2 _ rfl
        have hf2 : w2.frozen? ⟨gp, i * 3 + 2, none⟩ = false := hfr 2
        have HS : Aside0 (Kd.N k119 119 (w2.setCell ⟨gp, i * 3 + 2, none⟩ (.int .i64 0)) w.heap.size (fun k => k ≠ P ∧ k ≠ R) (.slice (some ⟨gp, 0, none⟩) l1.length cp) (xs.set i ⟨(xs.getD i z119).f0, (xs.getD i z119).f1, 0⟩)) := ⟨by
          have h9 := (Kd.N_seg HN2.out (i : Int) (by omega) (by omega) (seg := [.int .i64 0]) (j := 2) hcl (by rw [Int.toNat_natCast]; exact hcc) (by show 2 + 1 ≤ 3; omega) (x' := ⟨(xs.getD i z119).f0, (xs.getD i z119).f1, 0⟩) (okp := fun k => (k ≠ P ∧ k ≠ R) ∧ k ≠ gp) (k119_mkF _ _ ⟨(xs.getD i z119).f0, (xs.getD i z119).f1, 0⟩ hxl hxF) (fun k hk => hk)).1
          rw [Int.toNat_natCast] at h9
          exact h9⟩
        have HBs : Aside0 (Below w.heap.size w (w2.setCell ⟨gp, i * 3 + 2, none⟩ (.int .i64 0))) := ⟨below_set HB2.out HGP.out.1⟩
        have HPs : Aside0 ((w2.setCell ⟨gp, i * 3 + 2, none⟩ (.int .i64 0)).heap[P]? = some (.cells #[.slice A0 l0.length c0, .slice A1 l1.length c1, .slice A2 l2.length c2] 26 (0, 0))) := ⟨blk_far HP2.out HGP.out.2.1.symm _⟩
        have HRs : Aside0 ((w2.setCell ⟨gp, i * 3 + 2, none⟩ (.int .i64 0)).heap[R]? = some (.cells #[.slice none 0 0, .slice none 0 0, .slice none 0 0] 26 (0, 0))) := ⟨blk_far HR2.out HGP.out.2.2.symm _⟩
        clear hF hcc hfr hcl hxl hxF HN2 HB2 HP2 HR2
        go_wp2
        go_roundg (l1.length - (i + 1))
        case measure => omega
        case rel => exact ⟨i + 1, _, by omega, by omega, by push_cast; rfl, ⟨only_put HO.out hlt HBB.out⟩, HS, HBs, HPs, HRs⟩
    · have hltz : ¬ (i : Int) < (l1.length : Int) := by omega
      obtain rfl : i = l1.length := by omega
      have HXS := Aside0.mk (only_full HO.out)
      have q1 : wr.cell? ⟨P, 1, none⟩ = some (.slice A1 l1.length c1) := (blk_cell HKp.out 1).trans rfl
      have f1 : wr.frozen? ⟨P, 1, none⟩ = false := blk_frozen HKp.out 1
      obtain ⟨w2, hw2⟩ : ∃ w2, w2 = wr.setCell ⟨P, 1, none⟩ (.slice (some ⟨gp, 0, none⟩) l1.length cp) := ⟨_, rfl⟩
      have hk2 : w2.heap[P]? = some (.cells #[.slice A0 l0.length c0, .slice (some ⟨gp, 0, none⟩) l1.length cp, .slice A2 l2.length c2] 26 (0, 0)) := by rw [hw2]; exact blk_put (cs := #[.slice A0 l0.length c0, .slice A1 l1.length c1, .slice A2 l2.length c2]) HKp.out 1 _ rfl
      have HR2 : Aside0 (w2.heap[R]? = some (.cells #[.slice none 0 0, .slice none 0 0, .slice none 0 0] 26 (0, 0))) := ⟨by rw [hw2]; exact blk_far HKr.out HPR.out.1.symm _⟩
      have HN2 : Aside0 (Kd.N k119 119 w2 w.heap.size (fun k => k ≠ P ∧ k ≠ R) (.slice (some ⟨gp, 0, none⟩) l1.length cp) xs) := ⟨by rw [hw2]; exact Kd.N_far HN.out (fun k hk => hk.1) _⟩
      have HB2 : Aside0 (Below w.heap.size w w2) := ⟨by rw [hw2]; exact below_set HB.out HPR.out.2.1⟩
      have p0 : w2.cell? ⟨P, 0, none⟩ = some (.slice A0 l0.length c0) := (blk_cell hk2 0).trans rfl
      have p1 : w2.cell? ⟨P, 1, none⟩ = some (.slice (some ⟨gp, 0, none⟩) l1.length cp) := (blk_cell hk2 1).trans rfl
      have p2 : w2.cell? ⟨P, 2, none⟩ = some (.slice A2 l2.length c2) := (blk_cell hk2 2).trans rfl
      have r0 : w2.cell? ⟨R, 0, none⟩ = some (.slice none 0 0) := (blk_cell HR2.out 0).trans rfl
      have r1 : w2.cell? ⟨R, 1, none⟩ = some (.slice none 0 0) := (blk_cell HR2.out 1).trans rfl
      have r2 : w2.cell? ⟨R, 2, none⟩ = some (.slice none 0 0) := (blk_cell HR2.out 2).trans rfl
      have g0 : w2.frozen? ⟨R, 0, none⟩ = false := blk_frozen HR2.out 0
      have g1 : w2.frozen? ⟨R, 1, none⟩ = false := blk_frozen HR2.out 1
      have g2 : w2.frozen? ⟨R, 2, none⟩ = false := blk_frozen HR2.out 2
      clear HN HB HKp HKr hk2
      go_upto_region 8 with fail
      rw [← hw2]
      clear hw2 q1 f1
      go_wp2
      have kR := blk_put (cs' := #[.slice A0 l0.length c0, .slice (some ⟨gp, 0, none⟩) l1.length cp, .slice A2 l2.length c2]) (blk_put (cs' := #[.slice A0 l0.length c0, .slice (some ⟨gp, 0, none⟩) l1.length cp, .slice none 0 0]) (blk_put (cs' := #[.slice A0 l0.length c0, .slice none 0 0, .slice none 0 0]) HR2.out 0 (.slice A0 l0.length c0) rfl) 1 (.slice (some ⟨gp, 0, none⟩) l1.length cp) rfl) 2 (.slice A2 l2.length c2) rfl
      have nR := Kd.N_far (p := ⟨R, 2, none⟩) (Kd.N_far (p := ⟨R, 1, none⟩) (Kd.N_far (p := ⟨R, 0, none⟩) HN2.out (fun k hk => hk.2) (.slice A0 l0.length c0)) (fun k hk => hk.2) (.slice (some ⟨gp, 0, none⟩) l1.length cp)) (fun k hk => hk.2) (.slice A2 l2.length c2)
      have bR := below_set (j := 2) (v := .slice A2 l2.length c2) (below_set (j := 1) (v := .slice (some ⟨gp, 0, none⟩) l1.length cp) (below_set (j := 0) (v := .slice A0 l0.length c0) HB2.out HPR.out.2.2) HPR.out.2.2) HPR.out.2.2
      obtain ⟨e1, e2, e3⟩ := Kd.N_reads' nR
      rw [HXS.out] at e1 e3
      exact bodyPost_ret (results_cell_row rfl _ _ R 26 #[.slice A0 l0.length c0, .slice (some ⟨gp, 0, none⟩) l1.length cp, .slice A2 l2.length c2] (0, 0) _ rfl kR Tryz.underlying26 rfl (by kernel_rfl)) rfl ⟨_, _, rfl, ⟨by omega, e3⟩, bR⟩
end Go.Proofs.YtekdacalkllipaaGreat.PR
end
section
namespace Go.Proofs.YtekdacalkllipaaGreat.PR
open Go.RowKit Go.Shelf Go.Proofs.YtekdacalkllipaaGreatW.PrintWords Go.Proofs.YtekdacalkllipaaGreatW.PrintLast Go.Proofs.YtekdacalkllipaaGreatW.PrintMore
set_option linter.unusedVariables false
set_option linter.unusedSimpArgs false
def Std.pos (s : Std) : Prop := 0 ≤ s.b0 ∧ 0 ≤ s.b1 ∧ 0 ≤ s.b2 ∧ 0 ≤ s.b3
theorem many_pos {s : Std} (h : s.pos) (i : Nat) : 0 ≤ s.many i := by
  obtain ⟨h0, h1, h2, h3⟩ := h
  match i with
  | 0 => exact h0
  | 1 => exact h1
  | 2 => exact h2
  | n + 3 => exact h3
theorem put_pos {s : Std} (h : s.pos) (i : Nat) (l : Int) : (s.put i l (s.many i + 1)).pos := by
  have hm := many_pos h i
  obtain ⟨h0, h1, h2, h3⟩ := h
  match i with
  | 0 => exact ⟨Int.add_nonneg h0 (by decide), h1, h2, h3⟩
  | 1 => exact ⟨h0, Int.add_nonneg h1 (by decide), h2, h3⟩
  | 2 => exact ⟨h0, h1, Int.add_nonneg h2 (by decide), h3⟩
  | n + 3 => exact ⟨h0, h1, h2, Int.add_nonneg h3 (by decide)⟩
theorem after_pos (people : List S128) (watch : Int) : ∀ (on : List Int) (s : Std), s.pos → (afterS people watch on s).2 = true → (∀ i ∈ on, 0 < (rd_T128 people i).f2) ∧ (afterS people watch on s).1.pos
  | [], s, hs, _ => ⟨(fun i hi => by cases hi), hs⟩
  | i :: on, s, hs, h => by
    unfold afterS at h ⊢
    by_cases hb : stepB people watch s i = true
    · rw [if_pos hb] at h ⊢
      obtain ⟨h1, h2⟩ := after_pos people watch on _ (put_pos hs i.toNat watch) h
      refine ⟨fun j hj => ?_, h2⟩
      rcases List.mem_cons.1 hj with rfl | hj
      · have h3 := of_decide_eq_true hb
        have := many_pos hs j.toNat
        omega
      · exact h1 j hj
    · rw [if_neg hb] at h
      cases h
theorem rules_pos (people : List S128) : ∀ (r : List (List Int)) (watch : Int) (s : Std), s.pos → rulesS people watch r s = true → ∀ on ∈ r, ∀ i ∈ on, 0 < (rd_T128 people i).f2
  | [], _, _, _, _ => fun on hon => by cases hon
  | on :: r, watch, s, hs, h => by
    unfold rulesS at h
    by_cases hb : (afterS people watch on s).2 = true
    · rw [if_pos hb] at h
      obtain ⟨h1, h2⟩ := after_pos people watch on s hs hb
      intro x hx
      rcases List.mem_cons.1 hx with rfl | hx
      · exact h1
      · exact rules_pos people r _ _ h2 h x hx
    · rw [if_neg hb] at h
      cases h
theorem after_congr {ps qs : List S128} (watch : Int) : ∀ (on : List Int) (s : Std), (∀ i ∈ on, rd_T128 qs i = rd_T128 ps i) → afterS qs watch on s = afterS ps watch on s
  | [], _, _ => rfl
  | i :: on, s, h => by
    unfold afterS
    have e : stepB qs watch s i = stepB ps watch s i := by unfold stepB; rw [h i List.mem_cons_self]
    rw [e, after_congr watch on _ (fun j hj => h j (List.mem_cons_of_mem _ hj))]
theorem rules_congr {ps qs : List S128} : ∀ (r : List (List Int)) (watch : Int) (s : Std), (∀ on ∈ r, ∀ i ∈ on, rd_T128 qs i = rd_T128 ps i) → rulesS qs watch r s = rulesS ps watch r s
  | [], _, _, _ => rfl
  | on :: r, watch, s, h => by
    unfold rulesS
    rw [after_congr watch on s (h on List.mem_cons_self), rules_congr r _ _ (fun x hx => h x (List.mem_cons_of_mem _ hx))]
theorem inc_eq : ∀ (a b : List Int), a.Pairwise (· < ·) → b.Pairwise (· < ·) → (∀ x, x ∈ a ↔ x ∈ b) → a = b
  | [], [], _, _, _ => rfl
  | [], y :: b, _, _, h => by have := (h y).2 List.mem_cons_self; cases this
  | x :: a, [], _, _, h => by have := (h x).1 List.mem_cons_self; cases this
  | x :: a, y :: b, ha, hb, h => by
    obtain ⟨ha1, ha2⟩ := List.pairwise_cons.1 ha
    obtain ⟨hb1, hb2⟩ := List.pairwise_cons.1 hb
    have e : x = y := by
      rcases List.mem_cons.1 ((h x).1 List.mem_cons_self) with e | hx
      · exact e
      · rcases List.mem_cons.1 ((h y).2 List.mem_cons_self) with e | hy
        · exact e.symm
        · have := ha1 y hy; have := hb1 x hx; omega
    subst e
    rw [inc_eq a b ha2 hb2 fun z => ?_]
    constructor
    · intro hz
      rcases List.mem_cons.1 ((h z).1 (List.mem_cons_of_mem _ hz)) with rfl | hz'
      · have := ha1 z hz; omega
      · exact hz'
    · intro hz
      rcases List.mem_cons.1 ((h z).2 (List.mem_cons_of_mem _ hz)) with rfl | hz'
      · have := hb1 z hz; omega
      · exact hz'
theorem map_getD (l : List Int) : (List.range l.length).map (fun j => l.getD j 0) = l := by
  apply List.ext_getElem
  · simp
  · intro i h1 h2; simp [List.getD_eq_getElem?_getD, h2]
theorem in_lists {sm on : List Int} (hs : sm.Pairwise (· < ·)) (ho : on.Pairwise (· < ·)) (h : ∀ i ∈ on, i ∈ sm) : on ∈ listsS sm := by
  rw [mem_listsS]
  obtain ⟨p, hp⟩ : ∃ p : Nat → Bool, p = fun j => on.contains (sm.getD j 0) := ⟨_, rfl⟩
  have hinc : IncF (((List.range sm.length).filter p).map fun j : Nat => (j : Int)) 0 sm.length := by
    constructor
    · rw [List.pairwise_map]
      refine List.Pairwise.imp (fun hab => ?_) ((List.pairwise_lt_range (n := sm.length)).filter p)
      exact Int.ofNat_lt.2 hab
    · intro x hx
      obtain ⟨j, hj, rfl⟩ := List.mem_map.1 hx
      have := List.mem_range.1 (List.mem_filter.1 hj).1
      exact ⟨by omega, by omega⟩
  obtain ⟨c, hc, e⟩ := inc_subN sm.length _ hinc
  refine ⟨c, hc, ?_⟩
  have e2 : (List.range sm.length).filter (bitB c) = (List.range sm.length).filter p := by
    rw [subN_eq] at e
    exact (List.map_inj_right (fun x y hxy => by have h7 : (x : Int) = (y : Int) := hxy; omega)).1 e
  unfold subL subK
  rw [e2]
  refine inc_eq _ _ ?_ ho fun x => ?_
  · have h1 : (((List.range sm.length).filter p).map fun j => sm.getD j 0).Sublist sm := by
      have := (List.filter_sublist (p := p) (l := List.range sm.length)).map (fun j => sm.getD j 0)
      rwa [map_getD] at this
    exact hs.sublist h1
  · constructor
    · intro hx
      obtain ⟨j, hj, rfl⟩ := List.mem_map.1 hx
      have h2 := (List.mem_filter.1 hj).2
      rw [hp] at h2
      exact List.contains_iff_mem.1 h2
    · intro hx
      obtain ⟨j, hj, ej⟩ := List.getElem_of_mem (h x hx)
      have eg : sm.getD j 0 = x := by rw [List.getD_eq_getElem?_getD, List.getElem?_eq_getElem hj]; exact ej
      refine List.mem_map.2 ⟨j, List.mem_filter.2 ⟨List.mem_range.2 hj, ?_⟩, eg⟩
      rw [hp]
      show on.contains (sm.getD j 0) = true
      rw [eg]
      exact List.contains_iff_mem.2 hx
theorem lists_sub {sm on : List Int} (h : on ∈ listsS sm) : on.Sublist sm := by
  obtain ⟨b, _, e⟩ := mem_listsS.1 h
  rw [← e]
  unfold subL subK
  have h8 := (List.filter_sublist (p := bitB b) (l := List.range sm.length)).map (fun j => sm.getD j 0)
  rwa [map_getD] at h8
section
variable {need : List Int} {l1 : List S119} {cases : List (List Int)}
theorem only_len (sm : List Int) (l : List S119) : (onlyP sm l).length = l.length := by simp [onlyP]
theorem only_get (sm : List Int) (l : List S119) (i : Nat) (hi : i < l.length) : (onlyP sm l).getD i z119 = onlyX sm (l.getD i z119) i := by
  rw [List.getD_eq_getElem?_getD, List.getElem?_eq_getElem (by rw [only_len]; exact hi)]
  simp [onlyP]
theorem only_mem {sm : List Int} {l : List S119} {x : S119} (hx : x ∈ onlyP sm l) : ∃ y ∈ l, x.f0 = y.f0 ∧ x.f1 = y.f1 ∧ (x.f2 = y.f2 ∨ x.f2 = 0) := by
  obtain ⟨j, hj, rfl⟩ := List.mem_map.1 hx
  have hj := List.mem_range.1 hj
  refine ⟨l.getD j z119, ?_, ?_⟩
  · rw [List.getD_eq_getElem?_getD, List.getElem?_eq_getElem hj]; exact List.getElem_mem hj
  · unfold onlyX
    split
    · exact ⟨rfl, rfl, .inl rfl⟩
    · exact ⟨rfl, rfl, .inr rfl⟩
theorem only_err (hp : postErr need (l1.map toP) cases = 0) (sm : List Int) : postErr need ((onlyP sm l1).map toP) cases = 0 := by
  unfold postErr at hp ⊢
  simp only [List.length_map, only_len] at hp ⊢
  split at hp
  · cases hp
  · rename_i ha
    rw [if_neg ha]
    split at hp
    · cases hp
    · rename_i hb
      simp only [not_or, Bool.not_eq_false] at hb
      rw [if_neg]
      simp only [not_or, Bool.not_eq_false]
      refine ⟨hb.1, hb.2.1, hb.2.2.1, ?_, hb.2.2.2.2⟩
      rw [List.all_eq_true]
      intro y hy
      obtain ⟨x, hx, rfl⟩ := List.mem_map.1 hy
      obtain ⟨z, hz, e0, e1, e2⟩ := only_mem hx
      have h9 := List.all_eq_true.1 hb.2.2.2.1 (toP z) (List.mem_map.2 ⟨z, hz, rfl⟩)
      unfold personOk toP at h9 ⊢
      have h8 := of_decide_eq_true h9
      simp only at h8
      refine decide_eq_true ?_
      simp only
      rw [e0, e1]
      rcases e2 with e2 | e2
      · rw [e2]; exact h8
      · rw [e2]; exact ⟨h8.1, h8.2.1, h8.2.2.1, by omega, by omega⟩
theorem only_rd (sm : List Int) (i : Int) (h0 : 0 ≤ i) (h1 : i < l1.length) : (sm.contains i = true → rd_T128 ((onlyP sm l1).map toP) i = rd_T128 (l1.map toP) i) ∧ (0 < (rd_T128 ((onlyP sm l1).map toP) i).f2 → sm.contains i = true) := by
  obtain ⟨j, rfl⟩ : ∃ j : Nat, i = j := ⟨i.toNat, by omega⟩
  have hj : j < l1.length := by omega
  rw [rdP _ j (by rw [only_len]; exact hj), rdP _ j hj, only_get sm l1 j hj]
  unfold onlyX
  constructor
  · intro hc; rw [if_pos hc]
  · intro hf
    cases hc : sm.contains (j : Int) with
    | true => rfl
    | false => rw [hc, if_neg (by simp)] at hf; simp [toP] at hf
theorem only_safe (hp : postErr need (l1.map toP) cases = 0) {sm : List Int} (hs : incB sm l1.length = true) (r : List (List Int)) : SafeR need ((onlyP sm l1).map toP) cases r ↔ SafeOf need (l1.map toP) cases (listsS sm) r := by
  rw [incB_IncF] at hs
  constructor
  · rintro ⟨h1, h2, h3⟩
    obtain ⟨_, hl, hi⟩ := rotaErr_ok h1
    simp only [List.length_map, only_len] at hi
    have hin : ∀ on ∈ r, ∀ i ∈ on, (0 ≤ i ∧ i < l1.length) ∧ sm.contains i = true := fun on hon i hio => by
      have hb := (incB_IncF.1 (hi on hon)).2 i hio
      exact ⟨hb, (only_rd sm i hb.1 hb.2).2 (rules_pos _ r 0 std0 ⟨by decide, by decide, by decide, by decide⟩ h2 on hon i hio)⟩
    refine ⟨hl, fun on hon => in_lists hs.1 (incB_IncF.1 (hi on hon)).1 (fun i hio => List.contains_iff_mem.1 (hin on hon i hio).2), ?_, h3⟩
    rw [← rules_congr r 0 std0 (fun on hon i hio => (only_rd sm i (hin on hon i hio).1.1 (hin on hon i hio).1.2).1 (hin on hon i hio).2)]
    exact h2
  · rintro ⟨hl, hm, h2, h3⟩
    have hsub : ∀ on ∈ r, on.Sublist sm := fun on hon => lists_sub (hm on hon)
    refine ⟨?_, ?_, h3⟩
    · unfold rotaErr
      rw [if_neg (by simpa using only_err hp sm), if_neg]
      simp only [not_or, Decidable.not_not, Bool.not_eq_false]
      refine ⟨hl, List.all_eq_true.2 fun on hon => ?_⟩
      rw [incB_IncF, List.length_map, only_len]
      exact ⟨hs.1.sublist (hsub on hon), fun x hx => hs.2 x ((hsub on hon).subset hx)⟩
    · rw [rules_congr r 0 std0 (fun on hon i hio => by
        have hi := (hsub on hon).subset hio
        have hb := hs.2 i hi
        exact (only_rd sm i hb.1 hb.2).1 (List.contains_iff_mem.2 hi))]
      exact h2
end
end Go.Proofs.YtekdacalkllipaaGreat.PR
end
section
namespace Go.Proofs.YtekdacalkllipaaGreat.PR
open Go.RowKit Go.Shelf Go.Proofs.YtekdacalkllipaaGreatW.PrintWords Go.Proofs.YtekdacalkllipaaGreatW.PrintLast Go.Proofs.YtekdacalkllipaaGreatW.PrintMore
set_option linter.unusedVariables false
set_option linter.unusedSimpArgs false
attribute [local go_sem] Oper.semAt_some
attribute [local simp] wide_fn
theorem bits_parts (bits n : Nat) (hn : n ≤ 4) : ∃ (tb N : Nat) (tr : List Int), tb < 2 ^ n ∧ N = 2 ^ n ∧ 0 < N ∧ N ≤ 16 ∧ Int.tmod (bits : Int) (N : Int) = (tb : Int) ∧ incB tr n = true ∧ Ev (fun k => glisterref10_Bits.f k (tb : Int)) tr := by
  have hp := Nat.two_pow_pos n
  have htl : bits % 2 ^ n < 2 ^ n := Nat.mod_lt _ hp
  refine ⟨bits % 2 ^ n, 2 ^ n, subN n (bits % 2 ^ n), htl, rfl, hp, Nat.pow_le_pow_right (n := 2) (by decide) hn, (Int.ofNat_tmod bits (2 ^ n)).symm, ?_, bits_ev n _ (Nat.le_trans hn (by decide)) htl⟩
  have h1 := subN_inc n (bits % 2 ^ n)
  rw [incB_IncF]
  exact ⟨h1.1, fun x hx => by have h2 := h1.2 x hx; exact ⟨h2.1, h2.2⟩⟩
theorem two_pow_int {n N : Nat} (hn : n ≤ 4) (hN : N = 2 ^ n) : wrap64 ((2 : Int) ^ min n 64) = (N : Int) ∧ IntKind.i64.wrap ((2 : Int) ^ min n 64) = (N : Int) := by
  have e : min n 64 = n := Nat.min_eq_left (by omega)
  have h : (2 : Int) ^ n = (N : Int) := by rw [hN]; push_cast; rfl
  have h16 : N ≤ 16 := by rw [hN]; exact Nat.pow_le_pow_right (n := 2) (by decide) hn
  rw [e, h]
  exact ⟨wrm0 (by omega), wim0 (by omega)⟩
theorem shorter_d {A0 A1 : Option Addr} {c0 c1 : Nat} {w : World} {a b : List Int} (h0 : SL (Kd.int .i64) A0 c0 w a) (h1 : SL (Kd.int .i64) A1 c1 w b) (ha : a.length < 1000) (hb : b.length < 1000) :
    Calls Tryz.prog 60 #[.slice A0 a.length c0, .slice A1 b.length c1] w fun e w' => e = .returned (.bool (decide (cmpS a b < 0))) ∧ Below w.heap.size w w' := by
  obtain ⟨k, hk⟩ := (shorter_ev a b ha hb).one
  refine (glisterref10_Shorter.calls k A0 c0 a A1 c1 b _ w h0.2 h0.1 h1.2 h1.1 hk).mono ?_
  rintro e w' ⟨rfl, h⟩
  exact ⟨rfl, drawn_below h⟩
theorem u64_small {n : Nat} (h : n ≤ 4) : IntKind.u64.wrap (n : Int) = (n : Int) := by rw [IntKind.wrap_u64]; omega
set_option maxRecDepth 100000 in
set_option maxHeartbeats 4000000 in
theorem rotaSmallest_walk {A0 A1 A2 : Option Addr} {c0 c1 c2 : Nat} {w : World} {l0 : List Int} {l1 : List S119} {l2 : List (List Int)} {bits : Nat} (hbt : bits < 256) (h0 : SL (Kd.int .i64) A0 c0 w l0) (h1 : SL k119 A1 c1 w l1) (h2 : SL KR A2 c2 w l2) :
    Calls Tryz.prog 10 #[.agg #[.slice A0 l0.length c0, .slice A1 l1.length c1, .slice A2 l2.length c2], .int .u8 (bits : Int)] w fun e w' => e = .returned (.bool true) ∧ Below w.heap.size w w' := by
  obtain ⟨P, hP⟩ : ∃ P, P = w.heap.size := ⟨_, rfl⟩
  obtain ⟨w0, hw0⟩ : ∃ w0, w0 = w.alloc (.cells #[.slice A0 l0.length c0, .slice A1 l1.length c1, .slice A2 l2.length c2] 26) := ⟨_, rfl⟩
  have hb : Below w.heap.size w w0 := by rw [hw0]; exact below_alloc (Below.refl _ _) _
  have HK0 : Aside0 (w0.heap[P]? = some (.cells #[.slice A0 l0.length c0, .slice A1 l1.length c1, .slice A2 l2.length c2] 26 (0, 0))) := ⟨by rw [hw0, hP]; exact blk_new w _⟩
  have HX0 := Aside0.mk (h0.below hb)
  have HY0 := Aside0.mk (h1.below hb)
  have HZ0 := Aside0.mk (h2.below hb)
  have HB0 := Aside0.mk hb
  clear h0 h1 h2 hb
  obtain ⟨b, HT⟩ := ready_b l0 l1 l2
  go_enter Tryz.func10, Tryz.ntmps10
  have hu26 := Tryz.underlying26
  have qHK0 : w0.cell? ⟨P, 0, none⟩ = some (.slice A0 l0.length c0) := (blk_cell HK0.out 0).trans rfl
  have qHK1 : w0.cell? ⟨P, 1, none⟩ = some (.slice A1 l1.length c1) := (blk_cell HK0.out 1).trans rfl
  have qHK2 : w0.cell? ⟨P, 2, none⟩ = some (.slice A2 l2.length c2) := (blk_cell HK0.out 2).trans rfl
  have hc := Aside0.mk (HT.out.1 HX0.out HY0.out HZ0.out)
  rw [hw0] at qHK0 qHK1 qHK2
  rw [hP] at qHK0 qHK1 qHK2
  go_wp2_with fail
  rw [← hw0, ← hP]
  have HP := Aside0.mk hP
  clear hP hw0 qHK0 qHK1 qHK2
  refine hc.out.mono ?_
  rintro e w1 ⟨rfl, hb⟩
  clear hc
  have HB1 := Aside0.mk (HB0.out.trans (hb.mono HB0.out.size))
  have HK1 := Aside0.mk (blk_below HK0.out hb)
  have HX1 := Aside0.mk (HX0.out.below hb)
  have HY1 := Aside0.mk (HY0.out.below hb)
  have HZ1 := Aside0.mk (HZ0.out.below hb)
  clear hb HB0 HK0 HX0 HY0 HZ0
  cases b with
  | false =>
    have hc := Aside0.mk (lawake_any w1)
    go_wp2_with fail
    refine hc.out.mono ?_
    rintro e w2 ⟨rfl, hb⟩
    clear hc
    have HB2 := Aside0.mk (HB1.out.trans (hb.mono HB1.out.size))
    have HK2 := Aside0.mk (blk_below HK1.out hb)
    have HX2 := Aside0.mk (HX1.out.below hb)
    have HY2 := Aside0.mk (HY1.out.below hb)
    have HZ2 := Aside0.mk (HZ1.out.below hb)
    clear hb HB1 HK1 HX1 HY1 HZ1
    go_wp2
    go_ret
    exact ⟨rfl, HB2.out⟩
  | true =>
    obtain ⟨⟨t0, t1, t2, t3, t4⟩, hpe⟩ := HT.out.2 rfl
    have hn4 : l1.length ≤ 4 := by have := (post_small hpe).2.1; rwa [List.length_map] at this
    have hn0 : 0 < l1.length := by
      unfold postErr at hpe
      split at hpe
      · cases hpe
      · split at hpe
        · cases hpe
        · rename_i hb9
          simp only [not_or, Bool.not_eq_false, List.length_map] at hb9
          omega
    have hpo := (post_ev l0 l1 l2 (by omega) (by omega) (fun x hx => by have := t3 x hx; omega) (by omega) (fun x hx => by have := t4 x hx; omega))
    obtain ⟨ps, hps⟩ : ∃ ps, ps = l1.map toP := ⟨_, rfl⟩
    rw [← hps] at hpo hpe
    obtain ⟨tb, N, tr, htl, hN, hN0, hp16, hmod, htri, hbe⟩ := bits_parts bits l1.length hn4
    obtain ⟨el, hel⟩ : ∃ el, el = (enoughS l0 ps l2).1 := ⟨_, rfl⟩
    obtain ⟨ee, hee⟩ : ∃ ee, ee = (enoughS l0 ps l2).2 := ⟨_, rfl⟩
    obtain ⟨en, hen⟩ : ∃ en, en = el.length := ⟨_, rfl⟩
    obtain ⟨tn, htn⟩ : ∃ tn, tn = tr.length := ⟨_, rfl⟩
    have HPO := Aside0.mk hpo
    have HPE := Aside0.mk hpe
    have HPS := Aside0.mk hps
    have HEE := Aside0.mk (And.intro hel (And.intro hee hen))
    have HBE := Aside0.mk (And.intro hbe (And.intro htri htn))
    have HTH := Aside0.mk (And.intro t0 (And.intro t1 (And.intro t2 (And.intro t3 t4))))
    have HNN := Aside0.mk (And.intro hn0 (And.intro hn4 hN))
    clear hpo hpe hps hel hee hen hbe htri htn htl t0 t1 t2 t3 t4 HT hN hn0 hn4
    have qHK0 : w1.cell? ⟨P, 0, none⟩ = some (.slice A0 l0.length c0) := (blk_cell HK1.out 0).trans rfl
    have qHK1 : w1.cell? ⟨P, 1, none⟩ = some (.slice A1 l1.length c1) := (blk_cell HK1.out 1).trans rfl
    have qHK2 : w1.cell? ⟨P, 2, none⟩ = some (.slice A2 l2.length c2) := (blk_cell HK1.out 2).trans rfl
    have hc := Aside0.mk (post_c HX1.out HY1.out HZ1.out HPO.out)
    go_wp2_with fail
    refine hc.out.mono ?_
    rintro e w2 ⟨B0, d0, B1, d1, B2, d2, rfl, g0, g1, g2, hb⟩
    clear hc qHK0 qHK1 qHK2
    have HB2 := Aside0.mk (HB1.out.trans (hb.mono HB1.out.size))
    have HK2 := Aside0.mk (blk_below HK1.out hb)
    have HX2 := Aside0.mk (HX1.out.below hb)
    have HY2 := Aside0.mk (HY1.out.below hb)
    have HZ2 := Aside0.mk (HZ1.out.below hb)
    clear hb HB1 HK1 HX1 HY1 HZ1
    have HU2 := Aside0.mk g0
    clear g0
    have HV2 := Aside0.mk g1
    clear g1
    have HR2 := Aside0.mk g2
    clear g2
    have hcb := enough_c HU2.out HV2.out HR2.out
    rw [← HEE.out.1, ← HEE.out.2.1, ← HEE.out.2.2] at hcb
    have HCB := Aside0.mk hcb
    clear hcb
    have hc := Aside0.mk (HCB.out)
    go_wp2_with fail
    refine hc.out.mono ?_
    rintro e w3 ⟨AE, cE, rfl, ge, hb⟩
    clear hc
    have HB3 := Aside0.mk (HB2.out.trans (hb.mono HB2.out.size))
    have HK3 := Aside0.mk (blk_below HK2.out hb)
    have HX3 := Aside0.mk (HX2.out.below hb)
    have HY3 := Aside0.mk (HY2.out.below hb)
    have HZ3 := Aside0.mk (HZ2.out.below hb)
    have HU3 := Aside0.mk (HU2.out.below hb)
    have HV3 := Aside0.mk (HV2.out.below hb)
    have HR3 := Aside0.mk (HR2.out.below hb)
    clear hb HB2 HK2 HX2 HY2 HZ2 HU2 HV2 HR2
    have HE3 := Aside0.mk ge
    clear ge
    clear HCB
    clear HU3 HV3 HR3
    have qHK0 : w3.cell? ⟨P, 0, none⟩ = some (.slice A0 l0.length c0) := (blk_cell HK3.out 0).trans rfl
    have qHK1 : w3.cell? ⟨P, 1, none⟩ = some (.slice A1 l1.length c1) := (blk_cell HK3.out 1).trans rfl
    have qHK2 : w3.cell? ⟨P, 2, none⟩ = some (.slice A2 l2.length c2) := (blk_cell HK3.out 2).trans rfl
    have hw1 : IntKind.i64.wrap (bits : Int) = (bits : Int) := wim0 (Nat.lt_trans hbt (by decide))
    have hw2 : wrap64 (bits : Int) = (bits : Int) := wrm0 (Nat.lt_trans hbt (by decide))
    have hw3 := u64_small HNN.out.2.1
    obtain ⟨hw4, hw5⟩ := two_pow_int HNN.out.2.1 HNN.out.2.2
    have hmo2 : (bits : Int) % (N : Int) = (tb : Int) := by rw [← hmod]; exact (Int.tmod_eq_emod_of_nonneg (by omega)).symm
    have hz1 : ¬ ((N : Int) = 0) := by omega
    have hz2 : ((N : Int) == 0) = false := beq_eq_false_iff_ne.2 hz1
    obtain ⟨kb, hkb⟩ := HBE.out.1.one
    have hcb := glisterref10_Bits.calls kb (tb : Int) tr w3 hkb
    have HCB := Aside0.mk hcb
    clear hcb hkb
    go_wp2_with fail
    refine HCB.out.mono ?_
    rintro e w4 ⟨vt, rfl, hRt, hb⟩
    obtain ⟨AT, cT, rfl, dt, et⟩ := Kd.R_reads hRt
    have gt : SL (Kd.int .i64) AT cT w4 tr := ⟨dt, et⟩
    rw [← HBE.out.2.2]
    clear HCB hRt dt et qHK0 qHK1 qHK2 hw1 hw2 hw3 hw4 hw5 hmo2 hz1 hz2
    have HB4 := Aside0.mk (HB3.out.trans (hb.mono HB3.out.size))
    have HK4 := Aside0.mk (blk_below HK3.out hb)
    have HX4 := Aside0.mk (HX3.out.below hb)
    have HY4 := Aside0.mk (HY3.out.below hb)
    have HZ4 := Aside0.mk (HZ3.out.below hb)
    have HE4 := Aside0.mk (HE3.out.below hb)
    clear hb HB3 HK3 HX3 HY3 HZ3 HE3
    have HT4 := Aside0.mk gt
    clear gt
    obtain ⟨xtT, hxt⟩ : ∃ xt, xt = onlyP tr l1 := ⟨_, rfl⟩
    obtain ⟨qsT, hqs⟩ : ∃ qs, qs = xtT.map toP := ⟨_, rfl⟩
    have hxl : xtT.length = l1.length := by rw [hxt, only_len]
    have hpq : postErr l0 qsT l2 = 0 := by rw [hqs, hxt]; exact only_err (by rw [← HPS.out]; exact HPE.out) tr
    have hpoq := post_ev l0 xtT l2 (by have := HTH.out.1; omega) (by rw [hxl]; have := HTH.out.2.1; omega) (fun x hx => by
      rw [hxt] at hx
      obtain ⟨z, hz, e0, _⟩ := only_mem hx
      have := HTH.out.2.2.2.1 z hz
      rw [e0]; omega) (by have := HTH.out.2.2.1; omega) (fun x hx => by have := HTH.out.2.2.2.2 x hx; omega)
    rw [← hqs] at hpoq
    have hsq : ∀ r, SafeR l0 qsT l2 r ↔ SafeOf l0 ps l2 (listsS tr) r := fun r => by
      rw [hqs, hxt, HPS.out]
      exact only_safe (by rw [← HPS.out]; exact HPE.out) HBE.out.2.1 r
    obtain ⟨flT, hfl⟩ : ∃ fl, fl = (bestS l0 qsT l2).1 := ⟨_, rfl⟩
    obtain ⟨fdT, hfd⟩ : ∃ fd, fd = (bestS l0 qsT l2).2.1 := ⟨_, rfl⟩
    obtain ⟨feT, hfe⟩ : ∃ fe, fe = (bestS l0 qsT l2).2.2 := ⟨_, rfl⟩
    obtain ⟨fnT, hfn⟩ : ∃ fn, fn = flT.length := ⟨_, rfl⟩
    have HQT := Aside0.mk (And.intro hxt (And.intro hxl (And.intro hpq (And.intro hpoq hsq))))
    have HFT := Aside0.mk (And.intro hfl (And.intro hfd (And.intro hfe hfn)))
    clear hxt hqs hxl hpq hpoq hsq hfl hfd hfe hfn
    have qHK0 : w4.cell? ⟨P, 0, none⟩ = some (.slice A0 l0.length c0) := (blk_cell HK4.out 0).trans rfl
    have qHK1 : w4.cell? ⟨P, 1, none⟩ = some (.slice A1 l1.length c1) := (blk_cell HK4.out 1).trans rfl
    have qHK2 : w4.cell? ⟨P, 2, none⟩ = some (.slice A2 l2.length c2) := (blk_cell HK4.out 2).trans rfl
    have hcb := only_d (A0 := A0) (A2 := A2) (c0 := c0) (c2 := c2) (l0 := l0) (l2 := l2) HY4.out HT4.out HNN.out.1 (by have := HNN.out.2.1; omega) (Nat.lt_of_le_of_lt (incB_len HBE.out.2.1) (by have := HNN.out.2.1; omega))
    rw [← HQT.out.1, ← HBE.out.2.2] at hcb
    have HCB := Aside0.mk hcb
    clear hcb
    have hc := Aside0.mk (HCB.out)
    go_wp2_with fail
    refine hc.out.mono ?_
    rintro e w5 ⟨AO, cO, rfl, go, hb⟩
    clear hc qHK0 qHK1 qHK2
    have HB5 := Aside0.mk (HB4.out.trans (hb.mono HB4.out.size))
    have HK5 := Aside0.mk (blk_below HK4.out hb)
    have HX5 := Aside0.mk (HX4.out.below hb)
    have HY5 := Aside0.mk (HY4.out.below hb)
    have HZ5 := Aside0.mk (HZ4.out.below hb)
    have HE5 := Aside0.mk (HE4.out.below hb)
    have HT5 := Aside0.mk (HT4.out.below hb)
    clear hb HB4 HK4 HX4 HY4 HZ4 HE4 HT4
    have HO5 := Aside0.mk go
    clear go
    clear HCB
    have hcb := post_c HX5.out HO5.out HZ5.out HQT.out.2.2.2.1
    rw [HQT.out.2.1] at hcb
    have HCB := Aside0.mk hcb
    clear hcb
    have hc := Aside0.mk (HCB.out)
    go_wp2_with fail
    refine hc.out.mono ?_
    rintro e w6 ⟨B0, d0, B1, d1, B2, d2, rfl, g0, g1, g2, hb⟩
    clear hc
    have HB6 := Aside0.mk (HB5.out.trans (hb.mono HB5.out.size))
    have HK6 := Aside0.mk (blk_below HK5.out hb)
    have HX6 := Aside0.mk (HX5.out.below hb)
    have HY6 := Aside0.mk (HY5.out.below hb)
    have HZ6 := Aside0.mk (HZ5.out.below hb)
    have HE6 := Aside0.mk (HE5.out.below hb)
    have HT6 := Aside0.mk (HT5.out.below hb)
    have HO6 := Aside0.mk (HO5.out.below hb)
    clear hb HB5 HK5 HX5 HY5 HZ5 HE5 HT5 HO5
    have HU6 := Aside0.mk g0
    clear g0
    have HV6 := Aside0.mk g1
    clear g1
    have HR6 := Aside0.mk g2
    clear g2
    clear HCB
    clear HO6
    have hcb := best_c HU6.out HV6.out HR6.out
    rw [← HFT.out.1, ← HFT.out.2.1, ← HFT.out.2.2.1, ← HFT.out.2.2.2] at hcb
    have HCB := Aside0.mk hcb
    clear hcb
    have hc := Aside0.mk (HCB.out)
    go_wp2_with fail
    refine hc.out.mono ?_
    rintro e w7 ⟨ABT, cBT, rfl, gb, hb⟩
    clear hc
    have HB7 := Aside0.mk (HB6.out.trans (hb.mono HB6.out.size))
    have HK7 := Aside0.mk (blk_below HK6.out hb)
    have HX7 := Aside0.mk (HX6.out.below hb)
    have HY7 := Aside0.mk (HY6.out.below hb)
    have HZ7 := Aside0.mk (HZ6.out.below hb)
    have HE7 := Aside0.mk (HE6.out.below hb)
    have HT7 := Aside0.mk (HT6.out.below hb)
    have HU7 := Aside0.mk (HU6.out.below hb)
    have HV7 := Aside0.mk (HV6.out.below hb)
    have HR7 := Aside0.mk (HR6.out.below hb)
    clear hb HB6 HK6 HX6 HY6 HZ6 HE6 HT6 HU6 HV6 HR6
    clear HCB
    clear gb
    clear HU7 HV7 HR7
    rcases enough_spec HPE.out with ⟨hE, hno⟩ | ⟨l, hE, hli, hex, hmin⟩
    · have e1 : ee = 10 := by rw [HEE.out.2.1, hE]
      have hpl : ps.length = l1.length := by rw [HPS.out]; simp
      have e2 : feT = 10 := by
        rcases best_spec HQT.out.2.2.1 with ⟨hB, _⟩ | ⟨r, hB, hsafe, _⟩
        · rw [HFT.out.2.2.1, hB]
        · exact absurd ((HQT.out.2.2.2.2 r).1 hsafe) (hno tr (by rw [hpl]; exact HBE.out.2.1) r)
      subst e1
      subst e2
      clear hE hno hpl
      have hc := Aside0.mk (lawake_any w7)
      go_wp2_with fail
      refine hc.out.mono ?_
      rintro e w8 ⟨rfl, hb⟩
      clear hc
      have HB8 := Aside0.mk (HB7.out.trans (hb.mono HB7.out.size))
      have HK8 := Aside0.mk (blk_below HK7.out hb)
      have HX8 := Aside0.mk (HX7.out.below hb)
      have HY8 := Aside0.mk (HY7.out.below hb)
      have HZ8 := Aside0.mk (HZ7.out.below hb)
      have HE8 := Aside0.mk (HE7.out.below hb)
      have HT8 := Aside0.mk (HT7.out.below hb)
      clear hb HB7 HK7 HX7 HY7 HZ7 HE7 HT7
      go_wp2
      go_ret
      exact ⟨rfl, HB8.out⟩
    · have e1 : ee = 0 := by rw [HEE.out.2.1, hE]
      have e2 : el = l := by rw [HEE.out.1, hE]
      subst e2
      subst e1
      have hpl : ps.length = l1.length := by rw [HPS.out]; simp
      rw [hpl] at hli hmin
      have HLI := Aside0.mk (And.intro hli (And.intro hex hmin))
      clear hE hli hex hmin hpl
      obtain ⟨xtE, hxt⟩ : ∃ xt, xt = onlyP el l1 := ⟨_, rfl⟩
      obtain ⟨qsE, hqs⟩ : ∃ qs, qs = xtE.map toP := ⟨_, rfl⟩
      have hxl : xtE.length = l1.length := by rw [hxt, only_len]
      have hpq : postErr l0 qsE l2 = 0 := by rw [hqs, hxt]; exact only_err (by rw [← HPS.out]; exact HPE.out) el
      have hpoq := post_ev l0 xtE l2 (by have := HTH.out.1; omega) (by rw [hxl]; have := HTH.out.2.1; omega) (fun x hx => by
        rw [hxt] at hx
        obtain ⟨z, hz, e0, _⟩ := only_mem hx
        have := HTH.out.2.2.2.1 z hz
        rw [e0]; omega) (by have := HTH.out.2.2.1; omega) (fun x hx => by have := HTH.out.2.2.2.2 x hx; omega)
      rw [← hqs] at hpoq
      have hsq : ∀ r, SafeR l0 qsE l2 r ↔ SafeOf l0 ps l2 (listsS el) r := fun r => by
        rw [hqs, hxt, HPS.out]
        exact only_safe (by rw [← HPS.out]; exact HPE.out) HLI.out.1 r
      obtain ⟨flE, hfl⟩ : ∃ fl, fl = (bestS l0 qsE l2).1 := ⟨_, rfl⟩
      obtain ⟨fdE, hfd⟩ : ∃ fd, fd = (bestS l0 qsE l2).2.1 := ⟨_, rfl⟩
      obtain ⟨feE, hfe⟩ : ∃ fe, fe = (bestS l0 qsE l2).2.2 := ⟨_, rfl⟩
      obtain ⟨fnE, hfn⟩ : ∃ fn, fn = flE.length := ⟨_, rfl⟩
      have HQE := Aside0.mk (And.intro hxt (And.intro hxl (And.intro hpq (And.intro hpoq hsq))))
      have HFE := Aside0.mk (And.intro hfl (And.intro hfd (And.intro hfe hfn)))
      clear hxt hqs hxl hpq hpoq hsq hfl hfd hfe hfn
      have qHK0 : w7.cell? ⟨P, 0, none⟩ = some (.slice A0 l0.length c0) := (blk_cell HK7.out 0).trans rfl
      have qHK1 : w7.cell? ⟨P, 1, none⟩ = some (.slice A1 l1.length c1) := (blk_cell HK7.out 1).trans rfl
      have qHK2 : w7.cell? ⟨P, 2, none⟩ = some (.slice A2 l2.length c2) := (blk_cell HK7.out 2).trans rfl
      have hcb := only_d (A0 := A0) (A2 := A2) (c0 := c0) (c2 := c2) (l0 := l0) (l2 := l2) HY7.out HE7.out HNN.out.1 (by have := HNN.out.2.1; omega) (Nat.lt_of_le_of_lt (incB_len HLI.out.1) (by have := HNN.out.2.1; omega))
      rw [← HQE.out.1, ← HEE.out.2.2] at hcb
      have HCB := Aside0.mk hcb
      clear hcb
      have hc := Aside0.mk (HCB.out)
      go_wp2_with fail
      refine hc.out.mono ?_
      rintro e w8 ⟨AO, cO, rfl, go, hb⟩
      clear hc qHK0 qHK1 qHK2
      have HB8 := Aside0.mk (HB7.out.trans (hb.mono HB7.out.size))
      have HK8 := Aside0.mk (blk_below HK7.out hb)
      have HX8 := Aside0.mk (HX7.out.below hb)
      have HY8 := Aside0.mk (HY7.out.below hb)
      have HZ8 := Aside0.mk (HZ7.out.below hb)
      have HE8 := Aside0.mk (HE7.out.below hb)
      have HT8 := Aside0.mk (HT7.out.below hb)
      clear hb HB7 HK7 HX7 HY7 HZ7 HE7 HT7
      have HO8 := Aside0.mk go
      clear go
      clear HCB
      have hcb := post_c HX8.out HO8.out HZ8.out HQE.out.2.2.2.1
      rw [HQE.out.2.1] at hcb
      have HCB := Aside0.mk hcb
      clear hcb
      have hc := Aside0.mk (HCB.out)
      go_wp2_with fail
      refine hc.out.mono ?_
      rintro e w9 ⟨B0, d0, B1, d1, B2, d2, rfl, g0, g1, g2, hb⟩
      clear hc
      have HB9 := Aside0.mk (HB8.out.trans (hb.mono HB8.out.size))
      have HK9 := Aside0.mk (blk_below HK8.out hb)
      have HX9 := Aside0.mk (HX8.out.below hb)
      have HY9 := Aside0.mk (HY8.out.below hb)
      have HZ9 := Aside0.mk (HZ8.out.below hb)
      have HE9 := Aside0.mk (HE8.out.below hb)
      have HT9 := Aside0.mk (HT8.out.below hb)
      have HO9 := Aside0.mk (HO8.out.below hb)
      clear hb HB8 HK8 HX8 HY8 HZ8 HE8 HT8 HO8
      have HU9 := Aside0.mk g0
      clear g0
      have HV9 := Aside0.mk g1
      clear g1
      have HR9 := Aside0.mk g2
      clear g2
      clear HCB
      clear HO9
      have hcb := best_c HU9.out HV9.out HR9.out
      rw [← HFE.out.1, ← HFE.out.2.1, ← HFE.out.2.2.1, ← HFE.out.2.2.2] at hcb
      have HCB := Aside0.mk hcb
      clear hcb
      have hc := Aside0.mk (HCB.out)
      go_wp2_with fail
      refine hc.out.mono ?_
      rintro e w10 ⟨ABE, cBE, rfl, gb, hb⟩
      clear hc
      have HB10 := Aside0.mk (HB9.out.trans (hb.mono HB9.out.size))
      have HK10 := Aside0.mk (blk_below HK9.out hb)
      have HX10 := Aside0.mk (HX9.out.below hb)
      have HY10 := Aside0.mk (HY9.out.below hb)
      have HZ10 := Aside0.mk (HZ9.out.below hb)
      have HE10 := Aside0.mk (HE9.out.below hb)
      have HT10 := Aside0.mk (HT9.out.below hb)
      have HU10 := Aside0.mk (HU9.out.below hb)
      have HV10 := Aside0.mk (HV9.out.below hb)
      have HR10 := Aside0.mk (HR9.out.below hb)
      clear hb HB9 HK9 HX9 HY9 HZ9 HE9 HT9 HU9 HV9 HR9
      clear HCB
      clear gb
      clear HU10 HV10 HR10
      have e3 : feE = 0 := by
        obtain ⟨r, hr⟩ := HLI.out.2.1
        rcases best_spec HQE.out.2.2.1 with ⟨_, hB⟩ | ⟨_, hB, _⟩
        · exact absurd ((HQE.out.2.2.2.2 r).2 hr) (hB r)
        · rw [HFE.out.2.2.1, hB]
      subst e3
      rcases best_spec HQT.out.2.2.1 with ⟨hB, _⟩ | ⟨r, hB, hsafe, _⟩
      · have e4 : feT = 10 := by rw [HFT.out.2.2.1, hB]
        subst e4
        clear hB
        have hc := Aside0.mk (lawake_any w10)
        go_wp2_with fail
        refine hc.out.mono ?_
        rintro e w11 ⟨rfl, hb⟩
        clear hc
        have HB11 := Aside0.mk (HB10.out.trans (hb.mono HB10.out.size))
        have HK11 := Aside0.mk (blk_below HK10.out hb)
        have HX11 := Aside0.mk (HX10.out.below hb)
        have HY11 := Aside0.mk (HY10.out.below hb)
        have HZ11 := Aside0.mk (HZ10.out.below hb)
        have HE11 := Aside0.mk (HE10.out.below hb)
        have HT11 := Aside0.mk (HT10.out.below hb)
        clear hb HB10 HK10 HX10 HY10 HZ10 HE10 HT10
        go_wp2
        go_ret
        exact ⟨rfl, HB11.out⟩
      · have e4 : feT = 0 := by rw [HFT.out.2.2.1, hB]
        have hle := HLI.out.2.2 tr HBE.out.2.1 ⟨r, (HQT.out.2.2.2.2 r).1 hsafe⟩
        have hsw := cmpS_swap el tr
        have hsh : decide (cmpS tr el < 0) = false := decide_eq_false (by omega)
        have hcb := shorter_d HT10.out HE10.out (Nat.lt_of_le_of_lt (incB_len HBE.out.2.1) (by have := HNN.out.2.1; omega)) (Nat.lt_of_le_of_lt (incB_len HLI.out.1) (by have := HNN.out.2.1; omega))
        rw [hsh, ← HBE.out.2.2, ← HEE.out.2.2] at hcb
        have HCB := Aside0.mk hcb
        subst e4
        clear hB hsafe hle hsw hsh hcb
        have hc := Aside0.mk (HCB.out)
        go_wp2_with fail
        refine hc.out.mono ?_
        rintro e w11 ⟨rfl, hb⟩
        clear hc
        have HB11 := Aside0.mk (HB10.out.trans (hb.mono HB10.out.size))
        have HK11 := Aside0.mk (blk_below HK10.out hb)
        have HX11 := Aside0.mk (HX10.out.below hb)
        have HY11 := Aside0.mk (HY10.out.below hb)
        have HZ11 := Aside0.mk (HZ10.out.below hb)
        have HE11 := Aside0.mk (HE10.out.below hb)
        have HT11 := Aside0.mk (HT10.out.below hb)
        clear hb HB10 HK10 HX10 HY10 HZ10 HE10 HT10
        clear HCB
        have hc := Aside0.mk (lawake_any w11)
        go_wp2_with fail
        refine hc.out.mono ?_
        rintro e w12 ⟨rfl, hb⟩
        clear hc
        have HB12 := Aside0.mk (HB11.out.trans (hb.mono HB11.out.size))
        have HK12 := Aside0.mk (blk_below HK11.out hb)
        have HX12 := Aside0.mk (HX11.out.below hb)
        have HY12 := Aside0.mk (HY11.out.below hb)
        have HZ12 := Aside0.mk (HZ11.out.below hb)
        have HE12 := Aside0.mk (HE11.out.below hb)
        have HT12 := Aside0.mk (HT11.out.below hb)
        clear hb HB11 HK11 HX11 HY11 HZ11 HE11 HT11
        go_wp2
        go_ret
        exact ⟨rfl, HB12.out⟩
theorem rotaSmallest_calls {A0 A1 A2 : Option Addr} {c0 c1 c2 : Nat} {w : World} {l0 : List Int} {l1 : List S119} {l2 : List (List Int)} {bits : Nat} (h0 : Kd.C (Kd.int .i64) w A0 l0.length l0) (e0 : l0.length ≤ c0) (h1 : Kd.C k119 w A1 l1.length l1) (e1 : l1.length ≤ c1) (h2 : Kd.C KR w A2 l2.length l2) (e2 : l2.length ≤ c2) (hbt : bits < 256) :
    Calls Tryz.prog 10 #[.agg #[.slice A0 l0.length c0, .slice A1 l1.length c1, .slice A2 l2.length c2], .int .u8 (bits : Int)] w fun e w' => e = .returned (.bool true) ∧ Below w.heap.size w w' := rotaSmallest_walk hbt ⟨e0, h0⟩ ⟨e1, h1⟩ ⟨e2, h2⟩
end Go.Proofs.YtekdacalkllipaaGreat.PR
end
section
namespace Go.Proofs.YtekdacalkllipaaGreat.PR
open Go.RowKit Go.Proofs.YtekdacalkllipaaGreatW.PrintWords Go.Proofs.YtekdacalkllipaaGreatW.PrintLast Go.ChangeShapes Go.WideShapes Go.Deep
set_option linter.unusedVariables false
set_option maxRecDepth 100000
def Opens {α : Type} (P : Program) (d : Kd α) (t : TypeId) : Prop :=
  ∀ {H : Type} (enc : TypeId × Value → H) (w : World) (base : Nat) (spare : Nat → Bool) (held : Bool) (fuel : Nat) (cs : List Value) (x : DataW H × List MemPlace),
    DataW.trod enc P w base spare held fuel t cs = some x → ∃ p, d.K w p cs
theorem opens_bool {P : Program} {t : TypeId} (ht : P.underlying t = some .bool) : Opens P Kd.bool t := fun enc w base spare held fuel cs x h => by
  obtain ⟨b, rfl, _⟩ := DataW.trod_bool ht h
  exact ⟨b, rfl⟩
theorem opens_int {P : Program} {t : TypeId} {k : IntKind} (ht : P.underlying t = some (.int k)) : Opens P (Kd.int k) t := fun enc w base spare held fuel cs x h => by
  obtain ⟨n, rfl, _⟩ := DataW.trod_int ht h
  exact ⟨n, rfl⟩
theorem opens_slice {P : Program} {α : Type} [Inhabited α] {d : Kd α} {t e : TypeId} (ht : P.underlying t = some (.slice e)) (hd : Opens P d e) (hs : P.cellsOf e = d.sz) : Opens P (Kd.slice e d) t := fun enc w base spare held fuel cs x h => by
  rcases open_slice ht h with ⟨rfl, rfl⟩ | ⟨a, len, cap, m, n, D, Pl, rfl, hb, hl, hm, hmm, rfl, hx⟩
  · exact ⟨[], none, 0, rfl, Nat.le_refl _, rfl, by simp, fun h => absurd h (by simp)⟩
  · have hlm : len ≤ m := by rw [hmm]; split <;> omega
    obtain ⟨p, hp⟩ := choose_lt (α := α) (p := fun i p => ∃ cs', w.cells? base (a.add (i * P.cellsOf e)) (P.cellsOf e) = some cs' ∧ d.K w p cs') (n := len) (fun i hi => by
      obtain ⟨cs', h1, h2⟩ := hx i (by omega)
      obtain ⟨p, hp⟩ := hd enc w base spare held n cs' _ h2
      exact ⟨p, cs', h1, hp⟩)
    refine ⟨(List.range len).map p, some a, cap, by simp, by simpa using hl, by simp, by unfold maxLen at hm; simp; omega, fun h0 => ⟨a, rfl, fun j q hj => ?_⟩⟩
    have hj' : j < len := by
      rcases Nat.lt_or_ge j len with h | h
      · exact h
      · rw [List.getElem?_eq_none (by simpa using h)] at hj; cases hj
    rw [List.getElem?_map, List.getElem?_range hj'] at hj
    cases hj
    obtain ⟨cs', h1, h2⟩ := hp j hj'
    obtain ⟨_, hlen, hc⟩ := World.cells?_some h1
    refine ⟨cs', by rw [hlen, hs], h2, fun i u hi => ?_⟩
    have hil : i < P.cellsOf e := by
      rw [← hlen]
      rcases Nat.lt_or_ge i cs'.length with h | h
      · exact h
      · rw [List.getElem?_eq_none h] at hi; cases hi
    have := hc i hil
    rw [hi, Go.Deep.add_add, hs] at this
    exact this
instance : Inhabited S119 := ⟨z119⟩
theorem opens_person : Opens Tryz.prog k119 119 := fun enc w base spare held fuel cs x h => by
  obtain ⟨xs, n, _, _, hl, hxl, hf⟩ := DataW.trod_struct Tryz.underlying119 h
  have hc : Tryz.prog.cellsOf 119 = 3 := by kernel_rfl
  rw [hc] at hl
  match cs, hl with
  | [a, b, c], _ =>
    match xs, hxl with
    | [x0, x1, x2], _ =>
      have f0 : DataW.trod enc Tryz.prog w base spare held n 73 (List.take (Tryz.prog.cellsOf 73) (List.drop 0 [a, b, c])) = some x0 := hf 0 _ rfl
      have f1 : DataW.trod enc Tryz.prog w base spare held n 3 (List.take (Tryz.prog.cellsOf 3) (List.drop 1 [a, b, c])) = some x1 := hf 1 _ rfl
      have f2 : DataW.trod enc Tryz.prog w base spare held n 3 (List.take (Tryz.prog.cellsOf 3) (List.drop 2 [a, b, c])) = some x2 := hf 2 _ rfl
      rw [show Tryz.prog.cellsOf 73 = 1 by kernel_rfl] at f0
      rw [show Tryz.prog.cellsOf 3 = 1 by kernel_rfl] at f1 f2
      obtain ⟨p0, A0, c0, e0, h0, g0⟩ := opens_slice Tryz.underlying73 (opens_bool Tryz.underlying4) (by kernel_rfl) enc w base spare held n _ _ f0
      obtain ⟨p1, e1⟩ := opens_int Tryz.underlying3 enc w base spare held n _ _ f1
      obtain ⟨p2, e2⟩ := opens_int Tryz.underlying3 enc w base spare held n _ _ f2
      cases e0
      cases e1
      cases e2
      exact ⟨⟨p0, p1, p2⟩, k119_mk w ⟨p0, p1, p2⟩ h0 g0⟩
theorem opens_ints : Opens Tryz.prog (Kd.slice 3 (Kd.int .i64)) 22 := opens_slice Tryz.underlying22 (opens_int Tryz.underlying3) (by kernel_rfl)
theorem opens_rows : Opens Tryz.prog (Kd.slice 22 (Kd.slice 3 (Kd.int .i64))) 24 := opens_slice Tryz.underlying24 opens_ints (by kernel_rfl)
theorem opens_people : Opens Tryz.prog (Kd.slice 119 k119) 23 := opens_slice Tryz.underlying23 opens_person (by kernel_rfl)
theorem open_post {H : Type} {enc : TypeId × Value → H} {w : World} {base : Nat} {spare : Nat → Bool} {held : Bool} {fuel : Nat} {cs : List Value} {x : DataW H × List MemPlace} (h : DataW.trod enc Tryz.prog w base spare held fuel 26 cs = some x) :
    ∃ A0 c0 l0 A1 c1 l1 A2 c2 l2, cs = [.slice A0 l0.length c0, .slice A1 l1.length c1, .slice A2 l2.length c2] ∧ Kd.C (Kd.int .i64) w A0 l0.length l0 ∧ l0.length ≤ c0 ∧ Kd.C k119 w A1 l1.length l1 ∧ l1.length ≤ c1 ∧ Kd.C (Kd.slice 3 (Kd.int .i64)) w A2 l2.length l2 ∧ l2.length ≤ c2 := by
  obtain ⟨xs, n, _, _, hl, hxl, hf⟩ := DataW.trod_struct Tryz.underlying26 h
  have hc : Tryz.prog.cellsOf 26 = 3 := by kernel_rfl
  rw [hc] at hl
  match cs, hl with
  | [a, b, c], _ =>
    match xs, hxl with
    | [x0, x1, x2], _ =>
      have f0 : DataW.trod enc Tryz.prog w base spare held n 22 (List.take (Tryz.prog.cellsOf 22) (List.drop 0 [a, b, c])) = some x0 := hf 0 _ rfl
      have f1 : DataW.trod enc Tryz.prog w base spare held n 23 (List.take (Tryz.prog.cellsOf 23) (List.drop 1 [a, b, c])) = some x1 := hf 1 _ rfl
      have f2 : DataW.trod enc Tryz.prog w base spare held n 24 (List.take (Tryz.prog.cellsOf 24) (List.drop 2 [a, b, c])) = some x2 := hf 2 _ rfl
      rw [show Tryz.prog.cellsOf 22 = 1 by kernel_rfl] at f0
      rw [show Tryz.prog.cellsOf 23 = 1 by kernel_rfl] at f1
      rw [show Tryz.prog.cellsOf 24 = 1 by kernel_rfl] at f2
      obtain ⟨p0, A0, c0, e0, h0, g0⟩ := opens_ints enc w base spare held n _ _ f0
      obtain ⟨p1, A1, c1, e1, h1, g1⟩ := opens_people enc w base spare held n _ _ f1
      obtain ⟨p2, A2, c2, e2, h2, g2⟩ := opens_rows enc w base spare held n _ _ f2
      cases e0
      cases e1
      cases e2
      exact ⟨A0, c0, p0, A1, c1, p1, A2, c2, p2, rfl, g0, h0, g1, h1, g2, h2⟩
end Go.Proofs.YtekdacalkllipaaGreat.PR
end
section
namespace Go.Proofs.YtekdacalkllipaaGreat.PR
open Go.RowKit Go.Proofs.YtekdacalkllipaaGreatW.PrintWords Go.Proofs.YtekdacalkllipaaGreatW.PrintLast Go.ChangeShapes Go.WideShapes Go.Deep
set_option linter.unusedVariables false
set_option maxRecDepth 100000
theorem open_byte {H : Type} {enc : TypeId × Value → H} {w : World} {base : Nat} {spare : Nat → Bool} {held : Bool} {fuel : Nat} {cs : List Value} {x : DataW H × List MemPlace} (h : DataW.trod enc Tryz.prog w base spare held fuel 5 cs = some x) :
    ∃ n : Nat, cs = [.int .u8 (n : Int)] ∧ n < 256 := by
  obtain ⟨n, rfl, _, hw⟩ := DataW.trod_int Tryz.underlying5 h
  simp only [Lit.wf, Bool.and_eq_true, decide_eq_true_eq] at hw
  have h1 : (0 : Int) ≤ n := hw.1
  have h2 : n ≤ 255 := hw.2
  exact ⟨n.toNat, by rw [Int.toNat_of_nonneg h1], by omega⟩
end Go.Proofs.YtekdacalkllipaaGreat.PR
end
section
namespace Go.Proofs.YtekdacalkllipaaGreat.rotaSmallest
open Go.ChangeShapes Go.WideShapes Go.ChangeAt Go.RowKit Go.Proofs.YtekdacalkllipaaGreat.PR Go.Proofs.YtekdacalkllipaaGreatW.PrintWords
set_option linter.unusedVariables false
theorem own : ownKnob Tryz.prog.godebug = none := by kernel_rfl
theorem laidOut : laidOutB Tryz.prog = true := by kernel_rfl
set_option maxRecDepth 100000 in
theorem lifted (os : Os) (started : os.Started) (H : Type) (enc : TypeId × Value → H) :
    ReturnsInHanded {} Tryz.checked os 10 .any (Rows.rotaSmallestSpec.pre6 enc Tryz.prog Tryz.f10 Rows.rotaSmallestRow.domain false) (Rows.rotaSmallestSpec.post enc Tryz.prog Tryz.f10 false true false false) := by
  refine returnsInHanded_of_change_sized (C := Tryz.checked) own started (by kernel_rfl) Tryz.func10
    (ChangeSpec.witness6 (enc := enc) (C := Tryz.checked) false ⟨#[], #[.agg #[.slice none 0 0, .slice none 0 0, .slice none 0 0], .int .u8 0], []⟩ 8 (by kernel_rfl) (by kernel_rfl) (by kernel_rfl) (by kernel_rfl)) ?_
  intro W base args ds gs before hval0 hW hcnd hsz0 _
  have hval : ∀ (j : Nat) t v, Tryz.f10.params[j]? = some t → args[j]? = some v → Value.okWide Tryz.prog W .any base t v := hval0
  have hW' := hW
  obtain ⟨p, q, hA0, hV, rfl, hfz, hnd⟩ := hW
  have hA : DataW.TrodAll enc Tryz.prog W 0 (fun _ => true) true Tryz.f10.params.toList args.toList ds p := hA0
  rw [Tryz.params10] at hA hval
  obtain ⟨v0, vs0, d0, ds0, p0, q0, hargs, rfl, rfl, h0, r0⟩ := trodAll_cons hA
  obtain ⟨v1, vs1, d1, ds1, p1, q1, rfl, rfl, rfl, h1, r1⟩ := trodAll_cons r0
  obtain ⟨rfl, rfl, rfl⟩ := trodAll_nil r1
  obtain rfl : args = #[v0, v1] := by cases args; simp_all
  obtain ⟨rfl, rfl⟩ := trodVars_none hV
  have k0 := h0
  have lt0 : ∀ x ∈ p0, x.block < W.heap.size := by obtain ⟨m, hm⟩ := k0; exact DataW.trod_lt m _ _ _ hm
  obtain ⟨cs0, rfl, _⟩ := okWide_struct Tryz.underlying26 (hval 0 26 v0 rfl rfl)
  obtain ⟨fuel0, hf0⟩ := h0
  obtain ⟨A0_0, c0_0, l0_0, A0_1, c0_1, l0_1, A0_2, c0_2, l0_2, hcs0, g0_0, e0_0, g0_1, e0_1, g0_2, e0_2⟩ := open_post hf0
  obtain rfl : cs0 = #[.slice A0_0 l0_0.length c0_0, .slice A0_1 l0_1.length c0_1, .slice A0_2 l0_2.length c0_2] := Array.ext' hcs0
  have k1 := h1
  have lt1 : ∀ x ∈ p1, x.block < W.heap.size := by obtain ⟨m, hm⟩ := k1; exact DataW.trod_lt m _ _ _ hm
  obtain ⟨a1, rfl⟩ := okWide_int Tryz.underlying5 (hval 1 5 v1 rfl rfl)
  obtain ⟨fuel1, hf1⟩ := h1
  obtain ⟨n1, hcs1, g1⟩ := open_byte hf1
  simp [Value.cells] at hcs1
  subst hcs1
  clear hA0 hval0 hsz0
  refine (rotaSmallest_calls g0_0 e0_0 g0_1 e0_1 g0_2 e0_2 g1).mono fun e W' ⟨he, bel⟩ => ?_
  subst he
  exact ⟨_, rfl, _, _, _, [], _, [], hW', trodAll_mk1 (shut_bool Tryz.underlying4 _), (trodAll_cons_mk (Below.trod laidOut (by kernel_rfl) (of_decide_eq_true (by kernel_rfl)) k0 bel lt0) (trodAll_cons_mk (Below.trod laidOut (by kernel_rfl) (of_decide_eq_true (by kernel_rfl)) k1 bel lt1) trodAll_mk0)), rfl, bel.frame _, fun h => by cases h⟩
theorem over : Rows.rotaSmallestRow.holds Tryz.pinned (OpenSpec.ofChange Rows.rotaSmallestSpec) :=
  OpenClaim.holds_of_wide 10 Tryz.f10 rfl rfl rfl rfl rfl rfl rfl ⟨rfl, rfl, rfl, rfl, rfl⟩ rfl rfl rfl rfl rfl (by kernel_rfl) Tryz.func10 (by kernel_rfl)
    (of_decide_eq_true (by kernel_rfl)) (by unfold Func.isWrapper; first | (rw [if_pos (by decide +kernel)]; kernel_rfl) | (rw [if_neg (by decide +kernel)]; exact ⟨rfl, rfl⟩))
    (fun os started H enc _ => lifted os started H enc)
theorem proved : Rows.RotaSmallestSaid := over
end Go.Proofs.YtekdacalkllipaaGreat.rotaSmallest
namespace Go.Proofs.YtekdacalkllipaaGreat
theorem rotaSmallest_holds : Rows.RotaSmallestSaid := rotaSmallest.proved
end Go.Proofs.YtekdacalkllipaaGreat
end
