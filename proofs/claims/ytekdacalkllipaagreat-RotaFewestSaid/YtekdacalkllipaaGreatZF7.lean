/- YtekdacalkllipaaGreat: part 7 of the proof of the theorem rotaFewest_holds, for every input. -/
import Derived.Below
import Derived.ChangeOld
import Derived.ChangeSame
import Derived.Deep.Slices
import Derived.OpenShut
import Derived.ProofKit
import Derived.ShutString
import Derived.SizedLaws
import Derived.Test.YtekdacalkllipaaGreatRows
import Derived.WalkKit
import Derived.Test.YtekdacalkllipaaGreatZF6
section
namespace Go.Proofs.YtekdacalkllipaaGreat.PR
open Go.RowKit Go.Shelf Go.Proofs.YtekdacalkllipaaGreatW.PrintWords Go.Proofs.YtekdacalkllipaaGreatW.PrintLast Go.Proofs.YtekdacalkllipaaGreatW.PrintMore
set_option linter.unusedVariables false
set_option linter.unusedSimpArgs false
def smallB : List (List Int) → List (List Int) → Bool
  | x :: a, y :: b => if cmpS x y < 0 then true else if cmpS y x < 0 then false else smallB a b
  | _, _ => false
theorem foldl_min_at (g : Nat → Int) : ∀ (l : List Nat) (n : Int), l.foldl (fun n i => min n (g i)) n < n → ∃ i ∈ l, g i = l.foldl (fun n i => min n (g i)) n
  | [], n, h => by simp at h
  | i :: l, n, h => by
    rw [List.foldl_cons] at h ⊢
    have hle := (foldl_min_iff g (l.foldl (fun n i => min n (g i)) (min n (g i))) l (min n (g i))).1 (Int.le_refl _)
    by_cases h2 : l.foldl (fun n i => min n (g i)) (min n (g i)) < min n (g i)
    · obtain ⟨j, hj, e⟩ := foldl_min_at g l (min n (g i)) h2
      exact ⟨j, List.mem_cons_of_mem _ hj, e⟩
    · have h3 : l.foldl (fun n i => min n (g i)) (min n (g i)) ≤ min n (g i) := (foldl_min_iff g (min n (g i)) l (min n (g i))).2 (.inl (Int.le_refl _))
      exact ⟨i, List.mem_cons_self, by omega⟩
theorem few_cons (k : Wk) (f : Nat) (watch : Int) (s : Std) : k.few (f + 1) watch s = ((List.range k.lists.length).filter (k.can watch s)).foldl (fun (n : Int) (i : Nat) => min n ((rd_L1 k.lists i).length + k.few f (watch + 1) (afterS k.people watch (rd_L1 k.lists i) s).1)) 1024 := rfl
theorem few_le (k : Wk) (f : Nat) (watch : Int) (s : Std) (i : Nat) (hi : i < k.lists.length) (hc : k.can watch s i = true) : k.few (f + 1) watch s ≤ (rd_L1 k.lists i).length + k.few f (watch + 1) (afterS k.people watch (rd_L1 k.lists i) s).1 := by
  rw [few_cons, foldl_min_iff (fun (i : Nat) => (rd_L1 k.lists i).length + k.few f (watch + 1) (afterS k.people watch (rd_L1 k.lists i) s).1)]
  exact .inr ⟨i, List.mem_filter.2 ⟨List.mem_range.2 hi, hc⟩, Int.le_refl _⟩
theorem find_first (p : Nat → Bool) (q : Nat → Bool) : ∀ (n i : Nat), ((List.range n).filter p).find? q = some i → i < n ∧ p i = true ∧ q i = true ∧ ∀ j, j < i → p j = true → q j = false
  | 0, i, h => by simp at h
  | n + 1, i, h => by
    rw [List.range_succ, List.filter_append, List.find?_append] at h
    cases hq : ((List.range n).filter p).find? q with
    | some j =>
      rw [hq] at h
      have e : j = i := by simpa using h
      subst e
      obtain ⟨h1, h2, h3, h4⟩ := find_first p q n j hq
      exact ⟨by omega, h2, h3, h4⟩
    | none =>
      rw [hq, Option.none_or] at h
      rw [List.find?_eq_none] at hq
      by_cases hp : p n = true
      · rw [List.filter_cons, if_pos hp, List.filter_nil] at h
        by_cases hqn : q n = true
        · rw [List.find?_cons, hqn] at h
          have e : n = i := by simpa using h
          subst e
          refine ⟨by omega, hp, hqn, fun j hj hpj => ?_⟩
          have := hq j (List.mem_filter.2 ⟨List.mem_range.2 hj, hpj⟩)
          simpa using this
        · rw [List.find?_cons] at h
          simp [hqn] at h
      · rw [List.filter_cons, if_neg hp] at h
        simp at h
theorem rows_step (k : Wk) (f : Nat) (watch : Int) (s : Std) (left : Int) (hf : k.few (f + 1) watch s = left) (hl : left < 1024) : ∃ i, i < k.lists.length ∧ k.can watch s i = true ∧ k.fit f watch s left i = true ∧ (∀ j, j < i → k.can watch s j = true → k.fit f watch s left j = false) ∧
    k.rows (f + 1) watch s left = rd_L1 k.lists i :: k.rows f (watch + 1) (afterS k.people watch (rd_L1 k.lists i) s).1 (left - (rd_L1 k.lists i).length) := by
  have hat := foldl_min_at (fun i => (rd_L1 k.lists i).length + k.few f (watch + 1) (afterS k.people watch (rd_L1 k.lists i) s).1) ((List.range k.lists.length).filter (k.can watch s)) 1024 (by
    have : k.few (f + 1) watch s < 1024 := by omega
    rw [few_cons] at this
    exact this)
  obtain ⟨i0, hi0, e0⟩ := hat
  have e1 : (rd_L1 k.lists i0).length + k.few f (watch + 1) (afterS k.people watch (rd_L1 k.lists i0) s).1 = left := by
    rw [← hf, few_cons]
    exact e0
  cases hq : ((List.range k.lists.length).filter (k.can watch s)).find? (k.fit f watch s left) with
  | none =>
    rw [List.find?_eq_none] at hq
    have := hq i0 hi0
    unfold Wk.fit at this
    rw [e1] at this
    simp at this
  | some i =>
    obtain ⟨h1, h2, h3, h4⟩ := find_first _ _ _ i hq
    refine ⟨i, h1, h2, h3, h4, ?_⟩
    rw [Wk.rows, hq]
theorem rows_fine (k : Wk) : ∀ (f : Nat) (watch : Int) (s : Std) (left : Int), k.few f watch s = left → left < 1024 → (k.rows f watch s left).length = f ∧ k.fine watch s (k.rows f watch s left) ∧ ((((k.rows f watch s left).map List.length).sum : Nat) : Int) = left
  | 0, watch, s, left, hf, hl => by
    unfold Wk.few at hf
    unfold Wk.rows
    exact ⟨rfl, trivial, by simp; omega⟩
  | f + 1, watch, s, left, hf, hl => by
    obtain ⟨i, h1, h2, h3, h4, h5⟩ := rows_step k f watch s left hf hl
    unfold Wk.fit at h3
    have h3 := beq_iff_eq.1 h3
    obtain ⟨r1, r2, r3⟩ := rows_fine k f (watch + 1) (afterS k.people watch (rd_L1 k.lists i) s).1 (left - (rd_L1 k.lists i).length) (by omega) (by omega)
    rw [can_eq, Bool.and_eq_true] at h2
    rw [h5]
    refine ⟨by rw [List.length_cons, r1], ⟨⟨i, h1, rfl⟩, h2.1, h2.2, r2⟩, ?_⟩
    rw [List.map_cons, List.sum_cons]
    push_cast
    omega
theorem rows_min (k : Wk) (hs : ∀ i j, i < j → j < k.lists.length → cmpS (rd_L1 k.lists i) (rd_L1 k.lists j) ≤ 0) : ∀ (f : Nat) (watch : Int) (s : Std) (left : Int) (r : List (List Int)), k.few f watch s = left → left < 1024 → r.length = f → k.fine watch s r → (((r.map List.length).sum : Nat) : Int) = left → smallB r (k.rows f watch s left) = false
  | 0, watch, s, left, r, hf, hl, hr, hfi, hsum => by
    rw [List.length_eq_zero_iff.1 hr]
    rfl
  | f + 1, watch, s, left, r, hf, hl, hr, hfi, hsum => by
    obtain ⟨i, h1, h2, h3, h4, h5⟩ := rows_step k f watch s left hf hl
    cases r with
    | nil => simp at hr
    | cons on t =>
      obtain ⟨⟨j, hj, hon⟩, ha, hh, ht⟩ := hfi
      subst hon
      rw [List.map_cons, List.sum_cons] at hsum
      push_cast at hsum
      have htl : t.length = f := by simpa using hr
      have hcj : k.can watch s j = true := by rw [can_eq, ha, hh]; rfl
      have hle := few_le k f watch s j hj hcj
      have hb := k.few_bd f (watch + 1) (afterS k.people watch (rd_L1 k.lists j) s).1
      have hft : k.few f (watch + 1) (afterS k.people watch (rd_L1 k.lists j) s).1 ≤ left - (rd_L1 k.lists j).length := by
        rw [few_iff k f _ _ _ (by omega) (by omega)]
        exact ⟨t, htl, ht, by omega⟩
      have hfj : k.fit f watch s left j = true := by unfold Wk.fit; rw [beq_iff_eq]; omega
      have hij : i ≤ j := by
        rcases Nat.lt_or_ge j i with hlt | hge
        · have := h4 j hlt hcj
          rw [hfj] at this; cases this
        · exact hge
      rw [h5]
      unfold smallB
      have hcmp : cmpS (rd_L1 k.lists i) (rd_L1 k.lists j) ≤ 0 := by
        by_cases e : i = j
        · rw [e, cmpS_self]; omega
        · exact hs i j (by omega) hj
      have hsw := cmpS_swap (rd_L1 k.lists i) (rd_L1 k.lists j)
      rw [if_neg (by omega)]
      by_cases hlt : cmpS (rd_L1 k.lists i) (rd_L1 k.lists j) < 0
      · rw [if_pos hlt]
      · rw [if_neg hlt]
        have e := cmpS_zero (a := rd_L1 k.lists i) (b := rd_L1 k.lists j) (by omega)
        rw [e]
        exact rows_min k hs f (watch + 1) (afterS k.people watch (rd_L1 k.lists j) s).1 (left - (rd_L1 k.lists j).length) t (by omega) (by omega) htl ht (by omega)
end Go.Proofs.YtekdacalkllipaaGreat.PR
end
section
namespace Go.Proofs.YtekdacalkllipaaGreat.PR
open Go.RowKit Go.Shelf Go.Proofs.YtekdacalkllipaaGreatW.PrintWords Go.Proofs.YtekdacalkllipaaGreatW.PrintLast Go.Proofs.YtekdacalkllipaaGreatW.PrintMore
set_option linter.unusedVariables false
set_option linter.unusedSimpArgs false
def subN (n b : Nat) : List Int := subL (evs n) b
theorem subK_evs (n b : Nat) : ∀ i, i ≤ n → subK (evs n) b i = ((List.range i).filter (bitB b)).map fun j : Nat => (j : Int) := fun i hi => by
  unfold subK
  apply List.map_congr_left
  intro j hj
  have hj := List.mem_range.1 (List.mem_filter.1 hj).1
  unfold evs
  rw [List.getD_eq_getElem?_getD, List.getElem?_map, List.getElem?_range (by omega)]
  rfl
theorem subN_eq (n b : Nat) : subN n b = ((List.range n).filter (bitB b)).map fun j : Nat => (j : Int) := by
  unfold subN subL
  rw [evs_len, subK_evs n b n (Nat.le_refl _)]
theorem subN_succ (n b : Nat) : subN (n + 1) b = subN n b ++ (if bitB b n = true then [(n : Int)] else []) := by
  rw [subN_eq, subN_eq, List.range_succ, List.filter_append, List.map_append]
  congr 1
  by_cases h : bitB b n = true
  · simp [h]
  · simp [h]
theorem bitB_zero {b i j : Nat} (h : b / 2 ^ i = 0) (hj : i ≤ j) : bitB b j = false := by
  unfold bitB
  have : b / 2 ^ j = 0 := by
    rw [Nat.div_eq_zero_iff] at h ⊢
    have hp : 2 ^ i ≤ 2 ^ j := Nat.pow_le_pow_right (by omega) hj
    have := Nat.two_pow_pos i
    omega
  rw [this]; rfl
theorem before_ev (a b : List Int) (ha : a.length < 1000) (hb : b.length < 1000) : Ev (fun k => glisterref10_Before.f k a b) (decide (cmpL a b < 0)) := by
  have key : ∀ d i, i + d = a.length → Ev (fun k => glisterref10_Before.l0 k a b (i : Int)) (decide (cmpL (a.drop i) (b.drop i) < 0) || (decide (b.length < i) && false)) → True := fun _ _ _ _ => trivial
  have key : ∀ d i, i + d = a.length → i ≤ b.length → Ev (fun k => glisterref10_Before.l0 k a b (i : Int)) (decide (cmpL (a.drop i) (b.drop i) < 0)) := by
    intro d
    induction d with
    | zero =>
      intro i hi hib
      refine Ev.step (f := fun k => glisterref10_Before.j1 k a b (i : Int) false) (fun k => by rw [glisterref10_Before.l0, if_neg (by omega)]) (Ev.step (f := fun _ => some (decide ((a.length : Int) < (b.length : Int)))) (fun k => by rw [glisterref10_Before.j1, if_neg (by simp)]) (Ev.now fun _ => ?_))
      rw [List.drop_of_length_le (show a.length ≤ i by omega)]
      congr 1
      by_cases h : i < b.length
      · rw [List.drop_eq_getElem_cons h]
        simp [cmpL]; omega
      · rw [List.drop_of_length_le (by omega)]
        simp [cmpL]; omega
    | succ d ih =>
      intro i hi hib
      have hia : i < a.length := by omega
      by_cases h : i < b.length
      · have ea : a.getD i 0 = a[i] := by rw [List.getD_eq_getElem?_getD, List.getElem?_eq_getElem hia]; rfl
        have eb : b.getD i 0 = b[i] := by rw [List.getD_eq_getElem?_getD, List.getElem?_eq_getElem h]; rfl
        rw [List.drop_eq_getElem_cons hia, List.drop_eq_getElem_cons h]
        refine Ev.step (f := fun k => glisterref10_Before.j1 k a b (i : Int) true) (fun k => by rw [glisterref10_Before.l0, if_pos (by omega), decide_eq_true (show (i : Int) < (b.length : Int) by omega)])
          (Ev.step (f := fun k => if a[i] = b[i] then glisterref10_Before.l0 k a b ((i + 1 : Nat) : Int) else some (decide (a[i] < b[i]))) (fun k => by rw [glisterref10_Before.j1, if_pos rfl, if_pos (by omega), if_pos (by omega), if_pos (by omega), rd_get, rd_get, ea, eb, wr1 (by omega)]) ?_)
        rw [cmpL]
        by_cases e : a[i] = b[i]
        · have e2 : cmpI a[i] b[i] = 0 := by rw [e]; exact cmpI_self _
          rw [if_neg (by simp [e2])]
          exact Ev.congr (fun k => by rw [if_pos e]) (ih (i + 1) (by omega) (by omega))
        · have e2 : cmpI a[i] b[i] ≠ 0 := fun h => e (cmpI_zero h)
          rw [if_pos e2]
          refine Ev.now fun k => ?_
          rw [if_neg e]
          congr 1
          rw [decide_eq_decide]
          exact cmpI_neg.symm
      · rw [List.drop_eq_getElem_cons hia, List.drop_of_length_le (show b.length ≤ i by omega)]
        refine Ev.step (f := fun k => glisterref10_Before.j1 k a b (i : Int) false) (fun k => by rw [glisterref10_Before.l0, if_pos (by omega), decide_eq_false (show ¬ (i : Int) < (b.length : Int) by omega)])
          (Ev.step (f := fun _ => some (decide ((a.length : Int) < (b.length : Int)))) (fun k => by rw [glisterref10_Before.j1, if_neg (by simp)]) (Ev.now fun _ => ?_))
        simp [cmpL]; omega
  have := key a.length 0 (by omega) (Nat.zero_le _)
  rw [List.drop_zero, List.drop_zero] at this
  exact this
theorem shorter_ev (a b : List Int) (ha : a.length < 1000) (hb : b.length < 1000) : Ev (fun k => glisterref10_Shorter.f k a b) (decide (cmpS a b < 0)) := by
  unfold cmpS
  by_cases h : (a.length : Int) < (b.length : Int)
  · rw [if_pos (by omega)]
    exact Ev.now fun k => by unfold glisterref10_Shorter.f; rw [if_pos h, decide_eq_true (by omega)]
  · by_cases e : (a.length : Int) = (b.length : Int)
    · rw [if_neg (by omega)]
      refine Ev.congr (f := fun k => (glisterref10_Before.f k a b).bind fun t => some t) (fun k => by unfold glisterref10_Shorter.f; rw [if_neg h, if_pos e]) (Ev.bind (before_ev a b ha hb) (Ev.now fun _ => rfl))
    · rw [if_pos (by omega)]
      exact Ev.now fun k => by unfold glisterref10_Shorter.f; rw [if_neg h, if_neg e, decide_eq_false (by omega)]
end Go.Proofs.YtekdacalkllipaaGreat.PR
end
section
namespace Go.Proofs.YtekdacalkllipaaGreat.PR
open Go.RowKit Go.Shelf Go.Proofs.YtekdacalkllipaaGreatW.PrintWords Go.Proofs.YtekdacalkllipaaGreatW.PrintLast Go.Proofs.YtekdacalkllipaaGreatW.PrintMore
set_option linter.unusedVariables false
set_option linter.unusedSimpArgs false
def IncF (l : List Int) (f n : Nat) : Prop := l.Pairwise (· < ·) ∧ ∀ x ∈ l, (f : Int) ≤ x ∧ x < n
theorem subN_inc (n b : Nat) : IncF (subN n b) 0 n := by
  rw [subN_eq]
  constructor
  · rw [List.pairwise_map]
    refine ((List.pairwise_lt_range (n := n)).filter _).imp (fun {a b} h => ?_)
    exact Int.ofNat_lt.2 h
  · intro x hx
    obtain ⟨j, hj, rfl⟩ := List.mem_map.1 hx
    have hj := List.mem_range.1 (List.mem_filter.1 hj).1
    omega
theorem bitB_add (n c : Nat) (hc : c < 2 ^ n) : bitB (c + 2 ^ n) n = true ∧ ∀ j, j < n → bitB (c + 2 ^ n) j = bitB c j := by
  constructor
  · unfold bitB
    have h : (c + 2 ^ n) / 2 ^ n = 1 := by
      rw [Nat.add_div_right _ (Nat.two_pow_pos n), Nat.div_eq_of_lt hc]
    rw [h]; rfl
  · intro j hj
    unfold bitB
    have h : (c + 2 ^ n) / 2 ^ j % 2 = c / 2 ^ j % 2 := by
      have e : 2 ^ n = 2 ^ j * (2 * 2 ^ (n - j - 1)) := by
        rw [← Nat.pow_succ', ← Nat.pow_add]
        congr 1
        omega
      rw [e, Nat.add_mul_div_left _ _ (Nat.two_pow_pos j), Nat.add_mul_mod_self_left]
    rw [h]
theorem inc_subN : ∀ (n : Nat) (l : List Int), IncF l 0 n → ∃ c, c < 2 ^ n ∧ subN n c = l
  | 0, l, h => by
    cases l with
    | nil => exact ⟨0, by simp, rfl⟩
    | cons x l => have := h.2 x List.mem_cons_self; omega
  | n + 1, l, h => by
    have hp := Nat.two_pow_pos n
    have h2 : 2 ^ (n + 1) = 2 ^ n + 2 ^ n := by rw [Nat.pow_succ]; omega
    by_cases hm : (n : Int) ∈ l
    · obtain ⟨l1, l2, rfl⟩ := List.append_of_mem hm
      have hl2 : l2 = [] := by
        cases l2 with
        | nil => rfl
        | cons y l2 =>
          have hpw := h.1
          rw [List.pairwise_append] at hpw
          have h1 := (List.pairwise_cons.1 hpw.2.1).1 y List.mem_cons_self
          have h3 := h.2 y (by simp)
          omega
      subst hl2
      have hpw := h.1
      rw [List.pairwise_append] at hpw
      obtain ⟨c, hc, hcl⟩ := inc_subN n l1 ⟨hpw.1, fun x hx => by
        have h1 := hpw.2.2 x hx (n : Int) (by simp)
        have h3 := h.2 x (List.mem_append_left _ hx)
        omega⟩
      obtain ⟨b1, b2⟩ := bitB_add n c hc
      refine ⟨c + 2 ^ n, by omega, ?_⟩
      rw [subN_succ, b1, if_pos rfl, ← hcl]
      congr 1
      rw [subN_eq, subN_eq]
      congr 1
      exact List.filter_congr (fun j hj => b2 j (List.mem_range.1 hj))
    · obtain ⟨c, hc, hcl⟩ := inc_subN n l ⟨h.1, fun x hx => by
        have h3 := h.2 x hx
        have : x ≠ (n : Int) := fun e => hm (e ▸ hx)
        omega⟩
      refine ⟨c, by omega, ?_⟩
      rw [subN_succ, hcl, bitB_zero (i := n) (Nat.div_eq_of_lt hc) (Nat.le_refl _)]
      simp
end Go.Proofs.YtekdacalkllipaaGreat.PR
end
section
namespace Go.Proofs.YtekdacalkllipaaGreat.PR
open Go.RowKit Go.Shelf Go.Proofs.YtekdacalkllipaaGreatW.PrintWords Go.Proofs.YtekdacalkllipaaGreatW.PrintLast Go.Proofs.YtekdacalkllipaaGreatW.PrintMore
set_option linter.unusedVariables false
set_option linter.unusedSimpArgs false
theorem mem_lists_evs {n : Nat} {l : List Int} : l ∈ listsS (evs n) ↔ incB l n = true := by
  rw [mem_listsS, evs_len, incB_IncF]
  constructor
  · rintro ⟨b, _, rfl⟩
    have := subN_inc n b
    exact ⟨this.1, fun x hx => by have := this.2 x hx; exact ⟨by have := this.1; omega, this.2⟩⟩
  · rintro ⟨h1, h2⟩
    obtain ⟨c, hc, e⟩ := inc_subN n l ⟨h1, fun x hx => by have := h2 x hx; exact ⟨by have := this.1; omega, this.2⟩⟩
    exact ⟨c, hc, e⟩
theorem lists_sorted (sm : List Int) : ∀ i j, i < j → j < (listsS sm).length → cmpS (rd_L1 (listsS sm) (i : Int)) (rd_L1 (listsS sm) (j : Int)) ≤ 0 := by
  intro i j hij hj
  have h : (listsS sm).Pairwise (fun a b => cmpS a b ≤ 0) := by rw [listsS_eq]; exact sortI_sorted _
  have := (List.pairwise_iff_getElem.1 h) i j (by omega) hj hij
  rw [rdL_get, rdL_get, List.getD_eq_getElem?_getD, List.getElem?_eq_getElem (show i < (listsS sm).length by omega), List.getD_eq_getElem?_getD, List.getElem?_eq_getElem hj]
  exact this
def SafeR (need : List Int) (people : List S128) (cases : List (List Int)) (r : List (List Int)) : Prop := rotaErr need people cases r = 0 ∧ rulesS people 0 r std0 = true ∧ holdsFrom need cases 0 r = true
section
variable {need : List Int} {people : List S128} {cases : List (List Int)}
theorem safe_of (hp : postErr need people cases = 0) (r : List (List Int)) : SafeR need people cases r ↔ SafeOf need people cases (listsS (evs people.length)) r := by
  unfold SafeR SafeOf
  constructor
  · rintro ⟨h1, h2, h3⟩
    obtain ⟨_, e1, e2⟩ := rotaErr_ok h1
    exact ⟨e1, fun on hon => mem_lists_evs.2 (e2 on hon), h2, h3⟩
  · rintro ⟨h1, h2, h3, h4⟩
    refine ⟨?_, h3, h4⟩
    unfold rotaErr
    rw [if_neg (by simpa using hp), if_neg]
    simp only [not_or, Decidable.not_not, Bool.not_eq_false]
    exact ⟨h1, List.all_eq_true.2 fun on hon => mem_lists_evs.1 (h2 on hon)⟩
theorem post_small (hp : postErr need people cases = 0) : need.length ≤ 5 ∧ people.length ≤ 4 ∧ cases.length ≤ 4 := by
  unfold postErr at hp
  by_cases b : 5 < need.length ∨ 4 < people.length ∨ 4 < cases.length
  · rw [if_pos b] at hp; cases hp
  · omega
theorem sum_le : ∀ (r : List (List Int)) (m : Nat), (∀ on ∈ r, on.length ≤ m) → (r.map List.length).sum ≤ r.length * m
  | [], m, _ => by simp
  | on :: r, m, h => by
    have h1 := h on List.mem_cons_self
    have h2 := sum_le r m (fun x hx => h x (List.mem_cons_of_mem _ hx))
    rw [List.map_cons, List.sum_cons, List.length_cons, Nat.succ_mul]
    omega
theorem duties_small (hp : postErr need people cases = 0) {r : List (List Int)} (h : SafeR need people cases r) : 0 ≤ dutiesS r ∧ dutiesS r ≤ 20 := by
  obtain ⟨p1, p2, _⟩ := post_small hp
  obtain ⟨_, e1, e2⟩ := rotaErr_ok h.1
  have := sum_le r 4 (fun on hon => by have := incB_len (e2 on hon); omega)
  rw [duties_sum]
  omega
theorem best_spec (hp : postErr need people cases = 0) : (bestS need people cases = ([], 0, 10) ∧ ∀ r, ¬ SafeR need people cases r) ∨
    ∃ r, bestS need people cases = (r, dutiesS r, 0) ∧ SafeR need people cases r ∧ ∀ r', SafeR need people cases r' → dutiesS r ≤ dutiesS r' ∧ (dutiesS r' = dutiesS r → smallB r' r = false) := by
  unfold bestS
  rw [if_neg (by simpa using hp)]
  by_cases h : 1024 ≤ fewS need people cases (evs people.length)
  · left
    refine ⟨by rw [if_pos h], fun r hr => ?_⟩
    have hd := duties_small hp hr
    have := (fewS_iff need people cases (evs people.length) 20 (by omega) (by omega)).2 ⟨r, (safe_of hp r).1 hr, hd.2⟩
    omega
  · right
    rw [if_neg h]
    have hb := (workS need people cases (evs people.length)).few_bd need.length 0 std0
    have hfew : (workS need people cases (evs people.length)).few need.length 0 std0 = fewS need people cases (evs people.length) := rfl
    obtain ⟨r1, r2, r3⟩ := rows_fine (workS need people cases (evs people.length)) need.length 0 std0 _ hfew (by omega)
    have hrow : rowsS need people cases (evs people.length) = (workS need people cases (evs people.length)).rows need.length 0 std0 (fewS need people cases (evs people.length)) := rfl
    rw [← hrow] at r1 r2 r3
    have hfi := (fine_iff _ _ 0 std0).1 r2
    have hsafe : SafeR need people cases (rowsS need people cases (evs people.length)) := (safe_of hp _).2 ⟨r1, hfi.1, hfi.2.1, hfi.2.2⟩
    have hdu : dutiesS (rowsS need people cases (evs people.length)) = fewS need people cases (evs people.length) := by rw [duties_sum]; exact r3
    refine ⟨rowsS need people cases (evs people.length), by rw [hdu], hsafe, fun r' hr' => ?_⟩
    have hs' := (safe_of hp r').1 hr'
    have hd' := duties_small hp hr'
    rw [hdu]
    have hle : fewS need people cases (evs people.length) ≤ dutiesS r' := (fewS_iff need people cases (evs people.length) (dutiesS r') (by omega) (by omega)).2 ⟨r', hs', Int.le_refl _⟩
    refine ⟨hle, fun he => ?_⟩
    exact rows_min (workS need people cases (evs people.length)) (lists_sorted _) need.length 0 std0 _ r' hfew (by omega) hs'.1 ((fine_iff _ r' 0 std0).2 ⟨hs'.2.1, hs'.2.2.1, hs'.2.2.2⟩) (by rw [← duties_sum]; exact he)
end
end Go.Proofs.YtekdacalkllipaaGreat.PR
end
section
namespace Go.Proofs.YtekdacalkllipaaGreat.PR
open Go.RowKit Go.Shelf Go.Proofs.YtekdacalkllipaaGreatW.PrintWords Go.Proofs.YtekdacalkllipaaGreatW.PrintLast Go.Proofs.YtekdacalkllipaaGreatW.PrintMore
set_option linter.unusedVariables false
section
variable {A0 A1 A2 A3 : Option Addr} {c0 c1 c2 c3 : Nat} {w : World} {l0 : List Int} {l1 : List S119} {l2 l3 : List (List Int)}
theorem thin_c (h0 : SL (Kd.int .i64) A0 c0 w l0) (h1 : SL k119 A1 c1 w l1) (h2 : SL KR A2 c2 w l2) {b : Bool} (hb : Ev (fun k => glisterlaw10_Thin.f k l0 l1 l2) b) :
    Calls Tryz.prog 15 #[.agg #[.slice A0 l0.length c0, .slice A1 l1.length c1, .slice A2 l2.length c2]] w fun e w' => e = .returned (.bool b) ∧ Below w.heap.size w w' := by
  obtain ⟨k, hk⟩ := hb.one
  exact glisterlaw10_Thin.calls k A0 c0 l0 A1 c1 l1 A2 c2 l2 b w h0.2 h0.1 h1.2 h1.1 h2.2 h2.1 hk
theorem rows_c (h3 : SL KR A3 c3 w l3) (hr : Ev (fun k => glisterlaw10_rows.f k l3) l3) :
    Calls Tryz.prog 21 #[.slice A3 l3.length c3] w fun e w' => ∃ A c, e = .returned (.slice A l3.length c) ∧ SL KR A c w' l3 ∧ Below w.heap.size w w' := by
  obtain ⟨k, hk⟩ := hr.one
  refine (glisterlaw10_rows.calls k A3 c3 l3 l3 w h3.2 h3.1 hk).mono ?_
  rintro e w' ⟨v, rfl, hS, hb⟩
  obtain ⟨A, c, rfl, d0, e0⟩ := Kd.S_reads hS
  exact ⟨A, c, rfl, ⟨d0, e0⟩, hb⟩
theorem post_c (h0 : SL (Kd.int .i64) A0 c0 w l0) (h1 : SL k119 A1 c1 w l1) (h2 : SL KR A2 c2 w l2) {ps : List S128} (hp : Ev (fun k => glisterlaw10_Post.f k l0 l1 l2) (l0, ps, l2)) :
    Calls Tryz.prog 19 #[.agg #[.slice A0 l0.length c0, .slice A1 l1.length c1, .slice A2 l2.length c2]] w fun e w' => ∃ B0 d0 B1 d1 B2 d2, e = .returned (.agg #[.slice B0 l0.length d0, .slice B1 ps.length d1, .slice B2 l2.length d2]) ∧ SL (Kd.int .i64) B0 d0 w' l0 ∧ SL k128 B1 d1 w' ps ∧ SL KR B2 d2 w' l2 ∧ Below w.heap.size w w' := by
  obtain ⟨k, hk⟩ := hp.one
  refine (glisterlaw10_Post.calls k A0 c0 l0 A1 c1 l1 A2 c2 l2 l0 ps l2 w h0.2 h0.1 h1.2 h1.1 h2.2 h2.1 hk).mono ?_
  rintro e w' ⟨v0, v1, v2, rfl, g0, g1, g2, hb⟩
  obtain ⟨B0, d0, rfl, x0, y0⟩ := Kd.R_reads g0
  obtain ⟨B1, d1, rfl, x1, y1⟩ := Kd.S_reads g1
  obtain ⟨B2, d2, rfl, x2, y2⟩ := Kd.S_reads g2
  exact ⟨B0, d0, B1, d1, B2, d2, rfl, ⟨x0, y0⟩, ⟨x1, y1⟩, ⟨x2, y2⟩, hb⟩
theorem refrules_c (h0 : SL (Kd.int .i64) A0 c0 w l0) (h1 : SL k119 A1 c1 w l1) (h2 : SL KR A2 c2 w l2) (h3 : SL KR A3 c3 w l3) {b : Bool} (hb : Ev (fun k => glisterref10_Rules.f k l0 l1 l2 l3) b) :
    Calls Tryz.prog 24 #[.agg #[.slice A0 l0.length c0, .slice A1 l1.length c1, .slice A2 l2.length c2], .slice A3 l3.length c3] w fun e w' => e = .returned (.bool b) ∧ Below w.heap.size w w' := by
  obtain ⟨k, hk⟩ := hb.one
  exact glisterref10_Rules.calls k A0 c0 l0 A1 c1 l1 A2 c2 l2 A3 c3 l3 b w h0.2 h0.1 h1.2 h1.1 h2.2 h2.1 h3.2 h3.1 hk
end
section
variable {A0 A1 A2 A3 : Option Addr} {c0 c1 c2 c3 : Nat} {w : World} {l0 : List Int} {l1 : List S128} {l2 l3 : List (List Int)}
theorem prove_c (n : Int) (h0 : SL (Kd.int .i64) A0 c0 w l0) (h1 : SL k128 A1 c1 w l1) (h2 : SL KR A2 c2 w l2) (h3 : SL KR A3 c3 w l3) :
    Calls Tryz.prog 63 #[.agg #[.slice A0 l0.length c0, .slice A1 l1.length c1, .slice A2 l2.length c2], .slice A3 l3.length c3, .int .i64 n] w fun e w' => e = .returned (.bool (proveS l0 l1 l2 l3 n)) ∧ Below w.heap.size w w' :=
  rota_ProveRota.calls A0 c0 l0 A1 c1 l1 A2 c2 l2 A3 c3 l3 n _ w h0.2 h0.1 h1.2 h1.1 h2.2 h2.1 h3.2 h3.1 rfl
theorem best_c (h0 : SL (Kd.int .i64) A0 c0 w l0) (h1 : SL k128 A1 c1 w l1) (h2 : SL KR A2 c2 w l2) :
    Calls Tryz.prog 42 #[.agg #[.slice A0 l0.length c0, .slice A1 l1.length c1, .slice A2 l2.length c2]] w fun e w' => ∃ A c, e = .returned (.tuple #[.slice A (bestS l0 l1 l2).1.length c, .int .i64 (bestS l0 l1 l2).2.1, .int .i64 (bestS l0 l1 l2).2.2]) ∧ SL KR A c w' (bestS l0 l1 l2).1 ∧ Below w.heap.size w w' := by
  refine (Best_any A0 c0 l0 A1 c1 l1 A2 c2 l2 w h0.2 h0.1 h1.2 h1.1 h2.2 h2.1).mono ?_
  rintro e w' ⟨v, rfl, hS, hb⟩
  obtain ⟨A, c, rfl, d0, e0⟩ := Kd.S_reads hS
  exact ⟨A, c, rfl, ⟨d0, e0⟩, hb⟩
end
end Go.Proofs.YtekdacalkllipaaGreat.PR
end
section
namespace Go.Proofs.YtekdacalkllipaaGreat.PR
open Go.RowKit Go.Shelf Go.Proofs.YtekdacalkllipaaGreatW.PrintWords Go.Proofs.YtekdacalkllipaaGreatW.PrintLast Go.Proofs.YtekdacalkllipaaGreatW.PrintMore
set_option linter.unusedVariables false
set_option linter.unusedSimpArgs false
theorem reffails_ev (need : List Int) (people : List S119) (cases r : List (List Int)) (c : Nat) (hc : c ≤ cases.length) (hrl : r.length = need.length) (hr : r.length < 1000) (hx : ∀ l ∈ r, l.length < 1000)
    (hon : ∀ l ∈ cases, (∀ y ∈ l, -1 ≤ y) ∧ ∀ on ∈ r, ∀ x ∈ on, 0 ≤ x ∧ x < l.length) :
    Ev (fun k => glisterref10_Fails.f k need people cases r (c : Int)) (failsS need (caseAt cases c) 0 r) := by
  obtain ⟨ill, hill⟩ : ∃ ill, ill = caseAt cases c := ⟨_, rfl⟩
  rw [← hill]
  have key : ∀ d a, a + d = r.length → Ev (fun k => glisterref10_Fails.l0 k r (c : Int) (a : Int) need people cases) (failsS need ill (a : Int) (r.drop a)) := by
    intro d
    induction d with
    | zero =>
      intro a ha
      rw [List.drop_of_length_le (by omega)]
      exact Ev.step (f := fun _ => some (-1)) (fun k => by rw [glisterref10_Fails.l0, if_neg (by omega)]) (Ev.now fun _ => rfl)
    | succ d ih =>
      intro a ha
      have hal : a < r.length := by omega
      have hm := List.getElem_mem hal
      have hge : r.getD a [] = r[a] := by rw [List.getD_eq_getElem?_getD, List.getElem?_eq_getElem hal]; rfl
      have hlen := hx _ hm
      rw [List.drop_eq_getElem_cons hal]
      obtain ⟨on, hone⟩ : ∃ on, on = r[a] := ⟨_, rfl⟩
      rw [← hone] at hge hlen hm ⊢
      have hrd : rd_L1 r (a : Int) = on := by rw [rdL_get, hge]
      have ih' := ih (a + 1) (by omega)
      have hl1 : ∀ e j n, j + e = on.length → n ≤ j → Ev (fun k => glisterref10_Fails.l1 k r (c : Int) (a : Int) (n : Int) (j : Int) need people cases) (if ((n + (on.drop j).countP (upB ill (a : Int)) : Nat) : Int) < need.getD a 0 then (a : Int) else failsS need ill ((a + 1 : Nat) : Int) (r.drop (a + 1))) := by
        intro e
        induction e with
        | zero =>
          intro j n hj hnj
          rw [List.drop_of_length_le (by omega)]
          refine Ev.step (f := fun k => if (n : Int) < need.getD a 0 then some (a : Int) else glisterref10_Fails.l0 k r (c : Int) ((a + 1 : Nat) : Int) need people cases) (fun k => ?_) ?_
          · rw [glisterref10_Fails.l1, if_pos (by omega), if_pos (by omega), hrd, if_neg (by omega), if_pos (by omega), rd_get, wr1 (by omega)]
          · rw [show n + List.countP (upB ill (a : Int)) [] = n from rfl]
            by_cases hlt : (n : Int) < need.getD a 0
            · rw [if_pos hlt]; exact Ev.now fun _ => by rw [if_pos hlt]
            · rw [if_neg hlt]; exact Ev.congr (fun k => by rw [if_neg hlt]) ih'
        | succ e ihe =>
          intro j n hj hnj
          have hjl : j < on.length := by omega
          have hxm := List.getElem_mem hjl
          have hgx : rd on (j : Int) = on[j] := by rw [rd_get, List.getD_eq_getElem?_getD, List.getElem?_eq_getElem hjl]; rfl
          obtain ⟨x, hxe⟩ : ∃ x, x = on[j] := ⟨_, rfl⟩
          rw [List.drop_eq_getElem_cons hjl, List.countP_cons]
          rw [← hxe] at hgx hxm ⊢
          have hstep : ∀ k, glisterref10_Fails.l1 (k + 1) r (c : Int) (a : Int) (n : Int) (j : Int) need people cases = if upB ill (a : Int) x = true then glisterref10_Fails.l1 k r (c : Int) (a : Int) ((n + 1 : Nat) : Int) ((j + 1 : Nat) : Int) need people cases else glisterref10_Fails.l1 k r (c : Int) (a : Int) (n : Int) ((j + 1 : Nat) : Int) need people cases := fun k => by
            rw [glisterref10_Fails.l1, if_pos (by omega), if_pos (by omega), hrd, if_pos (by omega), wr1 (by omega), wr1 (by omega), hgx]
            by_cases hcc : c < cases.length
            · have hil : ill = some (rd_L1 cases (c : Int)) := by rw [hill]; unfold caseAt; rw [if_pos hcc]
              have hcm : rd_L1 cases (c : Int) ∈ cases := by rw [rdL_get, List.getD_eq_getElem?_getD, List.getElem?_eq_getElem hcc]; exact List.getElem_mem hcc
              obtain ⟨hl1, hl2⟩ := hon _ hcm
              have hxb := hl2 on hm x hxm
              have hy := hl1 (rd (rd_L1 cases (c : Int)) x) (by
                unfold rd
                rw [List.getD_eq_getElem?_getD, List.getElem?_eq_getElem (by omega)]
                exact List.getElem_mem _)
              rw [if_pos (by omega), if_pos (by omega), if_pos (by omega), if_pos (by omega), if_pos (by omega), hil]
              have hu : upB (some (rd_L1 cases (c : Int))) (a : Int) x = decide (rd (rd_L1 cases (c : Int)) x = -1 ∨ (a : Int) < rd (rd_L1 cases (c : Int)) x) := rfl
              rw [hu]
              generalize rd (rd_L1 cases (c : Int)) x = y at hy
              by_cases h1 : y < 0
              · rw [if_pos h1, if_pos (by simp; omega)]
              · rw [if_neg h1]
                by_cases h2 : (a : Int) < y
                · rw [if_pos h2, if_pos (by simp; omega)]
                · rw [if_neg h2, if_neg (by simp; omega)]
            · have hil : ill = none := by rw [hill]; unfold caseAt; rw [if_neg hcc]
              rw [if_neg (by omega), if_pos (by omega), hil]
              rfl
          refine Ev.step hstep ?_
          cases hu : upB ill (a : Int) x with
          | true =>
            have h := ihe (j + 1) (n + 1) (by omega) (by omega)
            have e1 : n + (List.countP (upB ill (a : Int)) (on.drop (j + 1)) + if true = true then 1 else 0) = n + 1 + List.countP (upB ill (a : Int)) (on.drop (j + 1)) := by simp; omega
            rw [e1]
            refine Ev.congr (fun k => by rw [if_pos rfl]) h
          | false =>
            have h := ihe (j + 1) n (by omega) (by omega)
            have e1 : n + (List.countP (upB ill (a : Int)) (on.drop (j + 1)) + if false = true then 1 else 0) = n + List.countP (upB ill (a : Int)) (on.drop (j + 1)) := by simp
            rw [e1]
            refine Ev.congr (fun k => by rw [if_neg (by simp)]) h
      have h := hl1 on.length 0 0 (by omega) (Nat.le_refl _)
      refine Ev.step (f := fun k => glisterref10_Fails.l1 k r (c : Int) (a : Int) 0 0 need people cases) (fun k => by rw [glisterref10_Fails.l0, if_pos (by omega)]) ?_
      have e2 : failsS need ill (a : Int) (on :: r.drop (a + 1)) = (if ((0 + (on.drop 0).countP (upB ill (a : Int)) : Nat) : Int) < need.getD a 0 then (a : Int) else failsS need ill ((a + 1 : Nat) : Int) (r.drop (a + 1))) := by
        rw [failsS, awakeN, List.drop_zero, Nat.zero_add, Int.toNat_natCast]
        rfl
      rw [e2]
      exact h
  have := key r.length 0 (by omega)
  rw [List.drop_zero] at this
  exact this
end Go.Proofs.YtekdacalkllipaaGreat.PR
end
section
namespace Go.Proofs.YtekdacalkllipaaGreat.PR
open Go.RowKit Go.Shelf Go.Proofs.YtekdacalkllipaaGreatW.PrintWords Go.Proofs.YtekdacalkllipaaGreatW.PrintLast Go.Proofs.YtekdacalkllipaaGreatW.PrintMore
set_option linter.unusedVariables false
set_option linter.unusedSimpArgs false
attribute [local go_sem] Oper.semAt_some
theorem rota_able {need : List Int} {people : List S119} {cases r : List (List Int)} (h : rotaErr need (people.map toP) cases r = 0) : ∀ x ∈ people, r.length ≤ x.f0.length := by
  obtain ⟨hpe, hrl, _⟩ := rotaErr_ok h
  intro x hx
  unfold postErr at hpe
  split at hpe
  · cases hpe
  · split at hpe
    · cases hpe
    · rename_i hb
      simp only [not_or, Bool.not_eq_false] at hb
      have := List.all_eq_true.1 hb.2.2.2.1 (toP x) (List.mem_map_of_mem hx)
      unfold personOk toP at this
      simp at this
      omega
end Go.Proofs.YtekdacalkllipaaGreat.PR
end
section
namespace Go.Proofs.YtekdacalkllipaaGreat.PR
open Go.RowKit Go.Shelf Go.Proofs.YtekdacalkllipaaGreatW.PrintWords Go.Proofs.YtekdacalkllipaaGreatW.PrintLast Go.Proofs.YtekdacalkllipaaGreatW.PrintMore
set_option linter.unusedVariables false
set_option linter.unusedSimpArgs false
attribute [local go_sem] Oper.semAt_some
attribute [local simp] wide_fn
theorem rota_ill {need : List Int} {people : List S128} {cases r : List (List Int)} (h : rotaErr need people cases r = 0) : ∀ l ∈ cases, (∀ y ∈ l, -1 ≤ y) ∧ ∀ on ∈ r, ∀ x ∈ on, 0 ≤ x ∧ x < l.length := by
  obtain ⟨_, _, h3⟩ := rotaErr_fine need people cases r h
  obtain ⟨hpe, _, _⟩ := rotaErr_ok h
  intro l hl
  refine ⟨?_, h3 l hl⟩
  unfold postErr at hpe
  split at hpe
  · cases hpe
  · split at hpe
    · cases hpe
    · rename_i hb
      simp only [not_or, Bool.not_eq_false] at hb
      have := List.all_eq_true.1 hb.2.2.2.2 l hl
      unfold illOk at this
      rw [Bool.and_eq_true] at this
      intro y hy
      have h9 := List.all_eq_true.1 this.2 y hy
      unfold inr at h9
      have := of_decide_eq_true h9
      omega
end Go.Proofs.YtekdacalkllipaaGreat.PR
end
section
namespace Go.Proofs.YtekdacalkllipaaGreat.PR
open Go.RowKit Go.Shelf Go.Proofs.YtekdacalkllipaaGreatW.PrintWords Go.Proofs.YtekdacalkllipaaGreatW.PrintLast Go.Proofs.YtekdacalkllipaaGreatW.PrintMore
set_option linter.unusedVariables false
set_option linter.unusedSimpArgs false
theorem fails_pos (need : List Int) (ill : Option (List Int)) : ∀ (r : List (List Int)) (watch : Int), 0 ≤ watch → failsS need ill watch r = -1 ∨ watch ≤ failsS need ill watch r
  | [], watch, h => .inl rfl
  | on :: r, watch, h => by
    unfold failsS
    split
    · exact .inr (Int.le_refl _)
    · rcases fails_pos need ill r (watch + 1) (by omega) with h1 | h1
      · exact .inl h1
      · exact .inr (by omega)
theorem holds_fails (need : List Int) (cases : List (List Int)) : ∀ (r : List (List Int)) (watch : Int), 0 ≤ watch → (holdsFrom need cases watch r = true ↔ ∀ i, i < cases.length + 1 → failsS need (caseAt cases i) watch r = -1)
  | [], watch, h => by simp [holdsFrom, failsS]
  | on :: r, watch, h => by
    unfold holdsFrom
    rw [Bool.and_eq_true, holds_fails need cases r (watch + 1) (by omega)]
    unfold holdsB
    rw [List.all_eq_true]
    constructor
    · rintro ⟨h1, h2⟩ i hi
      have h3 := h1 i (List.mem_range.2 hi)
      simp only [decide_eq_true_eq] at h3
      unfold failsS
      rw [if_neg (by omega)]
      exact h2 i hi
    · intro h1
      refine ⟨fun i hi => ?_, fun i hi => ?_⟩
      · have h3 := h1 i (List.mem_range.1 hi)
        unfold failsS at h3
        split at h3
        · omega
        · simp only [decide_eq_true_eq]; omega
      · have h3 := h1 i hi
        unfold failsS at h3
        split at h3
        · omega
        · exact h3
theorem refduties_ev (r : List (List Int)) (hr : r.length < 1000) (hx : ∀ l ∈ r, l.length < 1000) : Ev (fun k => glisterref10_Duties.f k r) (dutiesS r) := by
  have key : ∀ d i, i + d = r.length → Ev (fun k => glisterref10_Duties.l0 k r ((((r.take i).map List.length).sum : Nat) : Int) (i : Int)) (dutiesS r) := by
    intro d
    induction d with
    | zero =>
      intro i hi
      refine Ev.step (f := fun _ => some (dutiesS r)) (fun k => ?_) (Ev.now fun _ => rfl)
      rw [glisterref10_Duties.l0, if_neg (by omega), List.take_of_length_le (by omega), duties_sum]
    | succ d ih =>
      intro i hi
      have hi' : i < r.length := by omega
      have e : r.getD i [] = r[i] := by rw [List.getD_eq_getElem?_getD, List.getElem?_eq_getElem hi']; rfl
      have hb := hx _ (List.getElem_mem hi')
      have hs := sum_le (r.take i) 1000 (fun on hon => by have := hx on (List.mem_of_mem_take hon); omega)
      have hl : (r.take i).length ≤ 1000 := by rw [List.length_take]; omega
      have hs2 : (r.take i).length * 1000 ≤ 1000 * 1000 := Nat.mul_le_mul_right _ hl
      refine Ev.step (f := fun k => glisterref10_Duties.l0 k r ((((r.take (i + 1)).map List.length).sum : Nat) : Int) ((i + 1 : Nat) : Int)) (fun k => ?_) (ih (i + 1) (by omega))
      have hsum : ((r.take (i + 1)).map List.length).sum = ((r.take i).map List.length).sum + r[i].length := by
        rw [List.take_succ_eq_append_getElem hi', List.map_append, List.sum_append]; simp
      rw [glisterref10_Duties.l0, if_pos (by omega), if_pos (by omega), rdL_get, e, wr1 (by omega), hsum]
      have hw : wrap64 ((((r.take i).map List.length).sum : Nat) + (r[i].length : Int)) = ((((r.take i).map List.length).sum + r[i].length : Nat) : Int) := by
        unfold wrap64; omega
      rw [hw]
  exact key r.length 0 (by omega)
theorem refsafe_ev (need : List Int) (people : List S119) (cases r : List (List Int)) (he : rotaErr need (people.map toP) cases r = 0) (hr : r.length < 1000) (hx : ∀ l ∈ r, l.length < 1000) (hp : people.length < 1000) (hc : cases.length < 1000) :
    Ev (fun k => glisterref10_Safe.f k need people cases r) (rulesS (people.map toP) 0 r std0 && holdsFrom need cases 0 r) := by
  have hrl := (rotaErr_ok he).2.1
  have hill := rota_ill he
  have hru := refrules_ev need people cases r hp hr hx (rota_able he)
  rw [← rules_same need people cases r he] at hru
  have h := loop_all (fun k i => glisterref10_Safe.l0 k r i need people cases) (cases.length + 1) (fun i => decide (failsS need (caseAt cases i) 0 r = -1)) (rulesS (people.map toP) 0 r std0) false (fun i hi v hv => by
      refine Ev.step (f := fun k => (glisterref10_Fails.f k need people cases r (i : Int)).bind fun t190 => if t190 ≥ 0 then some false else glisterref10_Safe.l0 k r ((i + 1 : Nat) : Int) need people cases) (fun k => ?_) ?_
      · rw [glisterref10_Safe.l0, if_pos (by omega), wr1 (by omega)]
      · refine Ev.bind (reffails_ev need people cases r i (by omega) hrl hr hx hill) ?_
        rcases fails_pos need (caseAt cases i) r 0 (Int.le_refl _) with h1 | h1
        · rw [h1]
          exact Ev.congr (fun k => by rw [if_neg (by omega)]) (by simpa using hv)
        · refine Ev.now fun k => ?_
          rw [if_pos h1, if_neg (by simp only [decide_eq_true_eq]; omega)])
    (Ev.step (f := fun k => (glisterref10_Rules.f k need people cases r).bind fun t191 => some t191) (fun k => by rw [glisterref10_Safe.l0, if_neg (by push_cast; omega)]) (Ev.bind hru (Ev.now fun _ => rfl)))
  have e : (if ((List.range (cases.length + 1)).all fun i => decide (failsS need (caseAt cases i) 0 r = -1)) = true then rulesS (people.map toP) 0 r std0 else false) = (rulesS (people.map toP) 0 r std0 && holdsFrom need cases 0 r) := by
    have h2 : ((List.range (cases.length + 1)).all fun i => decide (failsS need (caseAt cases i) 0 r = -1)) = holdsFrom need cases 0 r := by
      rw [Bool.eq_iff_iff, holds_fails need cases r 0 (Int.le_refl _), List.all_eq_true]
      constructor
      · intro h i hi; simpa using h i (List.mem_range.2 hi)
      · intro h i hi; simpa using h i (List.mem_range.1 hi)
    rw [h2]
    cases holdsFrom need cases 0 r <;> simp
  rw [e] at h
  exact h
end Go.Proofs.YtekdacalkllipaaGreat.PR
end
section
namespace Go.Proofs.YtekdacalkllipaaGreat.PR
open Go.RowKit Go.Shelf Go.Proofs.YtekdacalkllipaaGreatW.PrintWords Go.Proofs.YtekdacalkllipaaGreatW.PrintLast Go.Proofs.YtekdacalkllipaaGreatW.PrintMore
set_option linter.unusedVariables false
set_option linter.unusedSimpArgs false
attribute [local go_sem] Oper.semAt_some
attribute [local simp] wide_fn
set_option maxRecDepth 100000 in
set_option maxHeartbeats 4000000 in
theorem fault_d {A0 A1 A2 : Option Addr} {c0 c1 c2 : Nat} {w : World} {l0 : List Int} {l1 : List S119} {l2 : List (List Int)} (h0 : SL (Kd.int .i64) A0 c0 w l0) (h1 : SL k119 A1 c1 w l1) (h2 : SL KR A2 c2 w l2) :
    Calls Tryz.prog 23 #[.agg #[.slice A0 l0.length c0, .slice A1 l1.length c1, .slice A2 l2.length c2]] w fun e w' => e = .returned (.int .i64 (postErr l0 (l1.map toP) l2)) ∧ Below w.heap.size w w' := by
  obtain ⟨er, her⟩ : ∃ er, er = postErr l0 (l1.map toP) l2 := ⟨_, rfl⟩
  rw [← her]
  have HER := Aside0.mk her
  clear her
  obtain ⟨P, hP⟩ : ∃ P, P = w.heap.size := ⟨_, rfl⟩
  obtain ⟨w0, hw0⟩ : ∃ w0, w0 = w.alloc (.cells #[.slice A0 l0.length c0, .slice A1 l1.length c1, .slice A2 l2.length c2] 26) := ⟨_, rfl⟩
  have hb : Below w.heap.size w w0 := by rw [hw0]; exact below_alloc (Below.refl _ _) _
  have HK0 : Aside0 (w0.heap[P]? = some (.cells #[.slice A0 l0.length c0, .slice A1 l1.length c1, .slice A2 l2.length c2] 26 (0, 0))) := ⟨by rw [hw0, hP]; exact blk_new w _⟩
  have HX0 := Aside0.mk (h0.below hb)
  have HY0 := Aside0.mk (h1.below hb)
  have HZ0 := Aside0.mk (h2.below hb)
  have HB0 := Aside0.mk hb
  clear h0 h1 h2 hb
  have hu26 := Tryz.underlying26
  have q0 : w0.cell? ⟨P, 0, none⟩ = some (.slice A0 l0.length c0) := (blk_cell HK0.out 0).trans rfl
  have q1 : w0.cell? ⟨P, 1, none⟩ = some (.slice A1 l1.length c1) := (blk_cell HK0.out 1).trans rfl
  have q2 : w0.cell? ⟨P, 2, none⟩ = some (.slice A2 l2.length c2) := (blk_cell HK0.out 2).trans rfl
  rw [hw0] at q0 q1 q2
  rw [hP] at q0 q1 q2
  refine (callsIn_wide (n := 40)).1 ?_
  refine callsIn_of_wp Tryz.func23 rfl trivial ?_ rfl
  simp only [Tryz.ntmps23, List.size_toArray, List.length_cons, List.length_nil, Nat.reduceAdd, Nat.reduceSub, Array.replicate_succ, Array.replicate_zero, List.push_toArray, List.append_toArray, List.nil_append, List.cons_append]
  have hc := fault_any HX0.out HY0.out HZ0.out
  rw [← HER.out] at hc
  have HC := Aside0.mk hc
  clear hc
  gi_wp2_with fail
  rw [← hw0, ← hP]
  clear hP hw0 q0 q1 q2
  refine (callsIn_wide.2 HC.out).mono ?_
  rintro e w1 ⟨rfl, hb⟩
  have HB1 := Aside0.mk (HB0.out.trans (hb.mono HB0.out.size))
  have HK1 := Aside0.mk (blk_below HK0.out hb)
  have HX1 := Aside0.mk (HX0.out.below hb)
  have HY1 := Aside0.mk (HY0.out.below hb)
  have HZ1 := Aside0.mk (HZ0.out.below hb)
  gi_wp2
  go_ret
  exact ⟨rfl, HB1.out⟩
set_option maxRecDepth 100000 in
set_option maxHeartbeats 4000000 in
theorem ready_d {A0 A1 A2 : Option Addr} {c0 c1 c2 : Nat} {w : World} {l0 : List Int} {l1 : List S119} {l2 : List (List Int)} (h0 : SL (Kd.int .i64) A0 c0 w l0) (h1 : SL k119 A1 c1 w l1) (h2 : SL KR A2 c2 w l2) {tb : Bool} (ht : Ev (fun k => glisterlaw10_Thin.f k l0 l1 l2) tb) :
    Calls Tryz.prog 53 #[.agg #[.slice A0 l0.length c0, .slice A1 l1.length c1, .slice A2 l2.length c2]] w fun e w' => e = .returned (.bool (tb && postErr l0 (l1.map toP) l2 == 0)) ∧ Below w.heap.size w w' := by
  obtain ⟨er, her⟩ : ∃ er, er = postErr l0 (l1.map toP) l2 := ⟨_, rfl⟩
  obtain ⟨rb, hrb⟩ : ∃ rb, rb = (tb && postErr l0 (l1.map toP) l2 == 0) := ⟨_, rfl⟩
  rw [← hrb]
  have HER := Aside0.mk (And.intro her hrb)
  have HT := Aside0.mk ht
  clear her hrb ht
  obtain ⟨P, hP⟩ : ∃ P, P = w.heap.size := ⟨_, rfl⟩
  obtain ⟨w0, hw0⟩ : ∃ w0, w0 = w.alloc (.cells #[.slice A0 l0.length c0, .slice A1 l1.length c1, .slice A2 l2.length c2] 26) := ⟨_, rfl⟩
  have hb : Below w.heap.size w w0 := by rw [hw0]; exact below_alloc (Below.refl _ _) _
  have HK0 : Aside0 (w0.heap[P]? = some (.cells #[.slice A0 l0.length c0, .slice A1 l1.length c1, .slice A2 l2.length c2] 26 (0, 0))) := ⟨by rw [hw0, hP]; exact blk_new w _⟩
  have HX0 := Aside0.mk (h0.below hb)
  have HY0 := Aside0.mk (h1.below hb)
  have HZ0 := Aside0.mk (h2.below hb)
  have HB0 := Aside0.mk hb
  clear h0 h1 h2 hb
  have hu26 := Tryz.underlying26
  have q0 : w0.cell? ⟨P, 0, none⟩ = some (.slice A0 l0.length c0) := (blk_cell HK0.out 0).trans rfl
  have q1 : w0.cell? ⟨P, 1, none⟩ = some (.slice A1 l1.length c1) := (blk_cell HK0.out 1).trans rfl
  have q2 : w0.cell? ⟨P, 2, none⟩ = some (.slice A2 l2.length c2) := (blk_cell HK0.out 2).trans rfl
  rw [hw0] at q0 q1 q2
  rw [hP] at q0 q1 q2
  refine (callsIn_wide (n := 40)).1 ?_
  refine callsIn_of_wp Tryz.func53 rfl trivial ?_ rfl
  simp only [Tryz.ntmps53, List.size_toArray, List.length_cons, List.length_nil, Nat.reduceAdd, Nat.reduceSub, Array.replicate_succ, Array.replicate_zero, List.push_toArray, List.append_toArray, List.nil_append, List.cons_append]
  have HC := Aside0.mk (thin_c HX0.out HY0.out HZ0.out HT.out)
  gi_wp2_with fail
  rw [← hw0, ← hP]
  clear hP hw0 q0 q1 q2
  refine (callsIn_wide.2 HC.out).mono ?_
  rintro e w1 ⟨rfl, hb⟩
  have HB1 := Aside0.mk (HB0.out.trans (hb.mono HB0.out.size))
  have HK1 := Aside0.mk (blk_below HK0.out hb)
  have HX1 := Aside0.mk (HX0.out.below hb)
  have HY1 := Aside0.mk (HY0.out.below hb)
  have HZ1 := Aside0.mk (HZ0.out.below hb)
  clear hb HC HB0 HK0 HX0 HY0 HZ0 HT
  cases tb with
  | false =>
    have e3 : rb = false := HER.out.2
    subst e3
    gi_wp2
    go_ret
    exact ⟨rfl, HB1.out⟩
  | true =>
    have hc := fault_d HX1.out HY1.out HZ1.out
    rw [← HER.out.1] at hc
    have HC := Aside0.mk hc
    clear hc
    have q0 : w1.cell? ⟨P, 0, none⟩ = some (.slice A0 l0.length c0) := (blk_cell HK1.out 0).trans rfl
    have q1 : w1.cell? ⟨P, 1, none⟩ = some (.slice A1 l1.length c1) := (blk_cell HK1.out 1).trans rfl
    have q2 : w1.cell? ⟨P, 2, none⟩ = some (.slice A2 l2.length c2) := (blk_cell HK1.out 2).trans rfl
    gi_wp2_with fail
    refine (callsIn_wide.2 HC.out).mono ?_
    rintro e w2 ⟨rfl, hb⟩
    have HB2 := Aside0.mk (HB1.out.trans (hb.mono HB1.out.size))
    have HK2 := Aside0.mk (blk_below HK1.out hb)
    clear hb HC q0 q1 q2
    have e3 : rb = (er == 0) := by rw [HER.out.2, ← HER.out.1, Bool.true_and]
    subst e3
    gi_wp2
    go_ret
    exact ⟨rfl, HB2.out⟩
theorem ready_b (l0 : List Int) (l1 : List S119) (l2 : List (List Int)) : ∃ b : Bool, Aside0 ((∀ ⦃A0 A1 A2 : Option Addr⦄ ⦃c0 c1 c2 : Nat⦄ ⦃w : World⦄, SL (Kd.int .i64) A0 c0 w l0 → SL k119 A1 c1 w l1 → SL KR A2 c2 w l2 →
    Calls Tryz.prog 53 #[.agg #[.slice A0 l0.length c0, .slice A1 l1.length c1, .slice A2 l2.length c2]] w fun e w' => e = .returned (.bool b) ∧ Below w.heap.size w w') ∧ (b = true → ThinP l0 l1 l2 ∧ postErr l0 (l1.map toP) l2 = 0)) := by
  obtain ⟨tb, h1, h2⟩ := thin_ev l0 l1 l2
  refine ⟨tb && postErr l0 (l1.map toP) l2 == 0, ⟨fun _ _ _ _ _ _ _ h0 h1' h2' => ready_d h0 h1' h2' h1, fun h => ?_⟩⟩
  rw [Bool.and_eq_true] at h
  exact ⟨h2 h.1, beq_iff_eq.1 h.2⟩
end Go.Proofs.YtekdacalkllipaaGreat.PR
end
section
namespace Go.Proofs.YtekdacalkllipaaGreat.PR
open Go.RowKit Go.Shelf Go.Proofs.YtekdacalkllipaaGreatW.PrintWords Go.Proofs.YtekdacalkllipaaGreatW.PrintLast Go.Proofs.YtekdacalkllipaaGreatW.PrintMore
set_option linter.unusedVariables false
set_option linter.unusedSimpArgs false
attribute [local go_sem] Oper.semAt_some
attribute [local simp] wide_fn
def wordS (ws : List Int) (i : Nat) : Int := if ws.length = 0 then 0 else wrap64 (rd ws ((i % ws.length : Nat) : Int))
set_option maxHeartbeats 4000000 in
theorem word_d {A : Option Addr} {c : Nat} {ws : List Int} {w : World} (h : SL (Kd.int .u16) A c w ws) (i : Nat) :
    Calls Tryz.prog 54 #[.slice A ws.length c, .int .i64 (i : Int)] w fun e w' => e = .returned (.int .i64 (wordS ws i)) ∧ w' = w := by
  by_cases h0 : ws.length = 0
  · have e : wordS ws i = 0 := by unfold wordS; rw [if_pos h0]
    rw [e]
    have hb : ((ws.length : Int) == 0) = true := beq_iff_eq.2 (by omega)
    clear h e h0
    go_enter Tryz.func54, Tryz.ntmps54
    go_wp2
    go_ret
    exact ⟨rfl, rfl⟩
  · obtain ⟨m, hm⟩ : ∃ m, m = i % ws.length := ⟨_, rfl⟩
    have hml : m < ws.length := by rw [hm]; exact Nat.mod_lt _ (by omega)
    obtain ⟨v, hv⟩ : ∃ v, v = rd ws ((m : Nat) : Int) := ⟨_, rfl⟩
    have e : wordS ws i = wrap64 v := by unfold wordS; rw [if_neg h0, ← hm, ← hv]
    rw [e]
    obtain ⟨ad, ea, hx⟩ := Kd.at_int h.2 (m : Int) (by omega) (by omega)
    subst ea
    rw [← hv, Int.toNat_natCast] at hx
    have hb : ((ws.length : Int) == 0) = false := beq_eq_false_iff_ne.2 (by omega)
    have hmod : Int.tmod (i : Int) (ws.length : Int) = (m : Int) := by rw [hm]; exact (Int.ofNat_tmod i ws.length).symm
    have hmz : (m : Int) < (ws.length : Int) := by omega
    clear h e h0 hv hm hml
    go_enter Tryz.func54, Tryz.ntmps54
    go_wp2
    go_ret
    exact ⟨by first | rfl | simp, rfl⟩
end Go.Proofs.YtekdacalkllipaaGreat.PR
end
section
namespace Go.Proofs.YtekdacalkllipaaGreat.PR
open Go.RowKit Go.Shelf Go.Proofs.YtekdacalkllipaaGreatW.PrintWords Go.Proofs.YtekdacalkllipaaGreatW.PrintLast Go.Proofs.YtekdacalkllipaaGreatW.PrintMore
set_option linter.unusedVariables false
section
variable {A0 A1 A2 A3 : Option Addr} {c0 c1 c2 c3 : Nat} {w : World} {l0 : List Int} {l1 : List S119} {l2 l3 : List (List Int)}
theorem refsafe_c (h0 : SL (Kd.int .i64) A0 c0 w l0) (h1 : SL k119 A1 c1 w l1) (h2 : SL KR A2 c2 w l2) (h3 : SL KR A3 c3 w l3) {b : Bool} (hb : Ev (fun k => glisterref10_Safe.f k l0 l1 l2 l3) b) :
    Calls Tryz.prog 64 #[.agg #[.slice A0 l0.length c0, .slice A1 l1.length c1, .slice A2 l2.length c2], .slice A3 l3.length c3] w fun e w' => e = .returned (.bool b) ∧ Below w.heap.size w w' := by
  obtain ⟨k, hk⟩ := hb.one
  exact glisterref10_Safe.calls k A0 c0 l0 A1 c1 l1 A2 c2 l2 A3 c3 l3 b w h0.2 h0.1 h1.2 h1.1 h2.2 h2.1 h3.2 h3.1 hk
theorem refduties_c (h3 : SL KR A3 c3 w l3) {n : Int} (hb : Ev (fun k => glisterref10_Duties.f k l3) n) :
    Calls Tryz.prog 65 #[.slice A3 l3.length c3] w fun e w' => e = .returned (.int .i64 n) ∧ Below w.heap.size w w' := by
  obtain ⟨k, hk⟩ := hb.one
  refine (glisterref10_Duties.calls k A3 c3 l3 n w h3.2 h3.1 hk).mono ?_
  rintro e w' ⟨rfl, h⟩
  exact ⟨rfl, drawn_below h⟩
end
end Go.Proofs.YtekdacalkllipaaGreat.PR
end
section
namespace Go.Proofs.YtekdacalkllipaaGreat.PR
open Go.RowKit Go.Shelf Go.Proofs.YtekdacalkllipaaGreatW.PrintWords Go.Proofs.YtekdacalkllipaaGreatW.PrintLast Go.Proofs.YtekdacalkllipaaGreatW.PrintMore
set_option linter.unusedVariables false
set_option linter.unusedSimpArgs false
attribute [local go_sem] Oper.semAt_some
attribute [local simp] wide_fn
structure MadeAt (n m : Nat) (r : List (List Int)) (a i : Nat) : Prop where
  len : r.length = n
  done : ∀ j, j < a → IncF (r.getD j []) 0 m
  now : IncF (r.getD a []) 0 i
  rest : ∀ j, a < j → r.getD j [] = []
theorem wim2 {m i : Nat} (hm : m < 1000) (hi : i < 1000) : IntKind.i64.wrap ((m : Int) + (i : Int)) = (m : Int) + (i : Int) := by rw [IntKind.wrap_i64]; omega
theorem wrm2 {m i : Nat} (hm : m < 1000) (hi : i < 1000) : wrap64 ((m : Int) + (i : Int)) = (m : Int) + (i : Int) := by unfold wrap64; omega
theorem wim1 {i : Nat} (hi : i < 1000) : IntKind.i64.wrap ((i : Int) + 1) = (i : Int) + 1 := by rw [IntKind.wrap_i64]; omega
theorem wrm1 {i : Nat} (hi : i < 1000) : wrap64 ((i : Int) + 1) = (i : Int) + 1 := by unfold wrap64; omega
theorem wim0 {i : Nat} (hi : i < 1000) : IntKind.i64.wrap (i : Int) = (i : Int) := by rw [IntKind.wrap_i64]; omega
theorem wrm0 {i : Nat} (hi : i < 1000) : wrap64 (i : Int) = (i : Int) := by unfold wrap64; omega
theorem IncF_nil (n : Nat) : IncF [] 0 n := ⟨List.Pairwise.nil, fun x hx => by cases hx⟩
theorem IncF_more {l : List Int} {a b : Nat} (h : IncF l 0 a) (hab : a ≤ b) : IncF l 0 b := ⟨h.1, fun x hx => by have := h.2 x hx; exact ⟨this.1, by omega⟩⟩
theorem IncF_snoc {l : List Int} {i : Nat} (h : IncF l 0 i) : IncF (l ++ [(i : Int)]) 0 (i + 1) := by
  refine ⟨?_, fun x hx => ?_⟩
  · rw [List.pairwise_append]
    exact ⟨h.1, List.pairwise_singleton _ _, fun x hx y hy => by rw [List.mem_singleton.1 hy]; exact (h.2 x hx).2⟩
  · rcases List.mem_append.1 hx with hx | hx
    · have := h.2 x hx; exact ⟨this.1, by omega⟩
    · rw [List.mem_singleton.1 hx]; exact ⟨by omega, by omega⟩
theorem IncF_len {l : List Int} {n : Nat} (h : IncF l 0 n) : l.length ≤ n := incB_len (incB_IncF.2 ⟨h.1, fun x hx => by have := h.2 x hx; exact ⟨by have := this.1; omega, this.2⟩⟩)
theorem made_start {n m : Nat} : MadeAt n m (List.replicate n []) 0 0 := by
  have : ∀ j, (List.replicate n ([] : List Int)).getD j [] = [] := fun j => by
    rw [List.getD_eq_getElem?_getD]
    by_cases hj : j < n
    · rw [List.getElem?_eq_getElem (by simpa using hj)]; simp
    · rw [List.getElem?_eq_none (by simpa using hj)]; rfl
  exact ⟨by simp, fun j hj => by omega, by rw [this]; exact IncF_nil _, fun j _ => this j⟩
theorem made_keep {n m : Nat} {r : List (List Int)} {a i : Nat} (h : MadeAt n m r a i) : MadeAt n m r a (i + 1) := ⟨h.len, h.done, IncF_more h.now (by omega), h.rest⟩
theorem made_next {n m : Nat} {r : List (List Int)} {a : Nat} (h : MadeAt n m r a m) : MadeAt n m r (a + 1) 0 := ⟨h.len, fun j hj => by
  by_cases e : j = a
  · subst e; exact h.now
  · exact h.done j (by omega), by rw [h.rest _ (by omega)]; exact IncF_nil _, fun j hj => h.rest j (by omega)⟩
theorem getD_set {r : List (List Int)} {a j : Nat} {x : List Int} (ha : a < r.length) : (r.set a x).getD j [] = if j = a then x else r.getD j [] := by
  rw [List.getD_eq_getElem?_getD, List.getD_eq_getElem?_getD, List.getElem?_set]
  by_cases e : a = j
  · subst e; rw [if_pos rfl, if_pos ha, if_pos rfl]; rfl
  · rw [if_neg e, if_neg (fun h => e h.symm)]
theorem made_put {n m : Nat} {r : List (List Int)} {a i : Nat} (h : MadeAt n m r a i) (ha : a < n) : MadeAt n m (r.set a (r.getD a [] ++ [(i : Int)])) a (i + 1) := by
  have hl : a < r.length := by rw [h.len]; exact ha
  refine ⟨by rw [List.length_set, h.len], fun j hj => ?_, ?_, fun j hj => ?_⟩
  · rw [getD_set hl, if_neg (by omega)]; exact h.done j hj
  · rw [getD_set hl, if_pos rfl]; exact IncF_snoc h.now
  · rw [getD_set hl, if_neg (by omega)]; exact h.rest j hj
theorem made_rows {n m : Nat} {r : List (List Int)} {a i : Nat} (h : MadeAt n m r a i) (hi : i ≤ m) : ∀ l ∈ r, IncF l 0 m := by
  intro l hl
  obtain ⟨j, hj, rfl⟩ := List.getElem_of_mem hl
  have e : r.getD j [] = r[j] := by rw [List.getD_eq_getElem?_getD, List.getElem?_eq_getElem hj]; rfl
  rcases Nat.lt_trichotomy j a with hlt | rfl | hgt
  · rw [← e]; exact h.done j hlt
  · rw [← e]; exact IncF_more h.now hi
  · rw [← e, h.rest j hgt]; exact IncF_nil _
theorem made_rota {need : List Int} {people : List S128} {cases : List (List Int)} (hp : postErr need people cases = 0) {r : List (List Int)} {i : Nat} (h : MadeAt need.length people.length r need.length i) : rotaErr need people cases r = 0 := by
  unfold rotaErr
  rw [if_neg (by simpa using hp), if_neg]
  simp only [not_or, Decidable.not_not, Bool.not_eq_false]
  refine ⟨h.len, List.all_eq_true.2 fun l hl => ?_⟩
  obtain ⟨j, hj, rfl⟩ := List.getElem_of_mem hl
  have e : r.getD j [] = r[j] := by rw [List.getD_eq_getElem?_getD, List.getElem?_eq_getElem hj]; rfl
  have h1 := h.done j (by rw [← h.len]; exact hj)
  rw [← e, incB_IncF]
  exact ⟨h1.1, fun x hx => by have := h1.2 x hx; exact ⟨by have := this.1; omega, this.2⟩⟩
set_option maxRecDepth 100000 in
set_option maxHeartbeats 4000000 in
theorem made_d {A0 A1 A2 A3 : Option Addr} {c0 c1 c2 c3 : Nat} {w : World} {l0 : List Int} {l1 : List S119} {l2 : List (List Int)} {ws : List Int} (h0 : SL (Kd.int .i64) A0 c0 w l0) (h1 : SL k119 A1 c1 w l1) (h2 : SL KR A2 c2 w l2) (h3 : SL (Kd.int .u16) A3 c3 w ws) (hp : postErr l0 (l1.map toP) l2 = 0) :
    Calls Tryz.prog 56 #[.agg #[.slice A0 l0.length c0, .slice A1 l1.length c1, .slice A2 l2.length c2], .slice A3 ws.length c3] w fun e w' => ∃ A c r, e = .returned (.slice A r.length c) ∧ SL KR A c w' r ∧ rotaErr l0 (l1.map toP) l2 r = 0 ∧ Below w.heap.size w w' := by
  obtain ⟨P, hP⟩ : ∃ P, P = w.heap.size := ⟨_, rfl⟩
  obtain ⟨w0, hw0⟩ : ∃ w0, w0 = w.alloc (.cells #[.slice A0 l0.length c0, .slice A1 l1.length c1, .slice A2 l2.length c2] 26) := ⟨_, rfl⟩
  have hb : Below w.heap.size w w0 := by rw [hw0]; exact below_alloc (Below.refl _ _) _
  have HK0 : Aside0 (w0.heap[P]? = some (.cells #[.slice A0 l0.length c0, .slice A1 l1.length c1, .slice A2 l2.length c2] 26 (0, 0))) := ⟨by rw [hw0, hP]; exact blk_new w _⟩
  have hsm := post_small hp
  rw [List.length_map] at hsm
  have hab : ∀ x ∈ l1, l0.length ≤ x.f0.length := fun x hx => by
    unfold postErr at hp
    split at hp
    · cases hp
    · split at hp
      · cases hp
      · rename_i hb9
        simp only [not_or, Bool.not_eq_false] at hb9
        have h8 := List.all_eq_true.1 hb9.2.2.2.1 (toP x) (List.mem_map.2 ⟨x, hx, rfl⟩)
        unfold personOk at h8
        have h7 := of_decide_eq_true h8
        have h6 : x.f0.length = l0.length := h7.1
        omega
  have HX := Aside0.mk (And.intro h0 (And.intro h1 (And.intro h2 h3)))
  have HSM := Aside0.mk (And.intro hp (And.intro hsm hab))
  have HB0 := Aside0.mk hb
  clear h0 h1 h2 h3 hb hp hsm hab
  go_enter Tryz.func56, Tryz.ntmps56
  have hu26 := Tryz.underlying26
  have q0 : w0.cell? ⟨P, 0, none⟩ = some (.slice A0 l0.length c0) := (blk_cell HK0.out 0).trans rfl
  rw [hw0, hP] at q0
  have hbw : Below w.heap.size w (w.alloc (.cells #[.slice A0 l0.length c0, .slice A1 l1.length c1, .slice A2 l2.length c2] 26)) := by rw [← hw0]; exact HB0.out
  have hz : KR.M (w.alloc (.cells #[.slice A0 l0.length c0, .slice A1 l1.length c1, .slice A2 l2.length c2] 26)) w.heap.size (fun _ => False) ([] : List Int) [.slice none 0 0] := ⟨_, rfl, Kd.R_nil _ _ _ _ _⟩
  have hl5 : ((l0.length : Int)).toNat * 24 ≤ 281474976710656 := by have := HSM.out.2.1.1; omega
  have HKB : Aside0 ((w.alloc (.cells #[.slice A0 l0.length c0, .slice A1 l1.length c1, .slice A2 l2.length c2] 26)).heap[P]? = some (.cells #[.slice A0 l0.length c0, .slice A1 l1.length c1, .slice A2 l2.length c2] 26 (0, 0))) := ⟨by rw [← hw0]; exact HK0.out⟩
  clear hw0 HK0 HB0
  go_wp2_with ((with_reducible refine gate_dst (N := 13) rfl ?_); refine Kd.S_make KR (w0 := w) w.heap.size 22 rfl (N := 13) rfl 24 _ _ rfl (l0.length : Int) rfl rfl Tryz.underlying24 (.slice none 0 0) 24 (by kernel_rfl) rfl (by decide) (by omega) ([] : List Int) (ok := fun _ => True) (okp := fun _ => True) hz (fun _ _ => trivial) trivial (by omega) hl5 hbw hbw.size ?_; intro v1 w1 ho hb hgr hat; have HSa := Aside0.mk ho; have HBa := Aside0.mk hb; have HKa := Aside0.mk (blk_grown HKB.out hgr (fun k hk e => by cases hk)); clear ho hb hgr hat hbw hz hl5 HKB q0)
  rw [← hP]
  have HP := Aside0.mk hP
  clear hP
  rw [Int.toNat_natCast] at HSa
  go_loopg [5, 6] l0.length (fun gg s5 s6 wr => ∃ (a : Nat) (v : Value) (r : List (List Int)), a ≤ l0.length ∧ l0.length - a ≤ gg ∧ s5 = v ∧ s6 = .int .i64 a ∧ Aside0 (MadeAt l0.length l1.length r a 0) ∧ Aside0 (Kd.S KR 22 wr w.heap.size (fun _ => True) v r) ∧ Aside0 (Below w.heap.size w wr) ∧ Aside0 (wr.heap[P]? = some (.cells #[.slice A0 l0.length c0, .slice A1 l1.length c1, .slice A2 l2.length c2] 26 (0, 0))))
  case atStart => exact ⟨0, _, _, Nat.zero_le _, by omega, rfl, rfl, ⟨made_start⟩, HSa, HBa, HKa⟩
  case round =>
    clear HSa HBa HKa
    obtain ⟨a, v, r, ha, hg, rfl, rfl, HM, HS, HB, HK⟩ := hrel
    obtain ⟨A5, c5, e5⟩ := Kd.S_slice HS.out
    rw [HM.out.len] at e5
    subst e5
    by_cases hlt : a < l0.length
    · have hltz : (a : Int) < (l0.length : Int) := by omega
      go_wp2
      go_loopg [5, 7] l1.length (fun gg s5 s7 wr => ∃ (i : Nat) (v : Value) (r : List (List Int)), i ≤ l1.length ∧ l1.length - i ≤ gg ∧ s5 = v ∧ s7 = .int .i64 i ∧ Aside0 (MadeAt l0.length l1.length r a i) ∧ Aside0 (Kd.S KR 22 wr w.heap.size (fun _ => True) v r) ∧ Aside0 (Below w.heap.size w wr) ∧ Aside0 (wr.heap[P]? = some (.cells #[.slice A0 l0.length c0, .slice A1 l1.length c1, .slice A2 l2.length c2] 26 (0, 0))))
      case atStart => exact ⟨0, _, _, Nat.zero_le _, by omega, rfl, rfl, HM, HS, HB, HK⟩
      case round =>
        clear HM HS HB HK
        obtain ⟨i, v, r, hi, hgi, rfl, rfl, HM, HS, HB, HK⟩ := hrel
        have q1 : wr.cell? ⟨P, 1, none⟩ = some (.slice A1 l1.length c1) := (blk_cell HK.out 1).trans rfl
        obtain ⟨A6, c6, e6⟩ := Kd.S_slice HS.out
        rw [HM.out.len] at e6
        subst e6
        by_cases hli : i < l1.length
        · have hliz : (i : Int) < (l1.length : Int) := by omega
          obtain ⟨m, hm⟩ : ∃ m, m = a * l1.length := ⟨_, rfl⟩
          have ha5 : a ≤ 5 := by have := HSM.out.2.1.1; omega
          have hml : m ≤ 20 := by rw [hm]; exact Nat.mul_le_mul ha5 HSM.out.2.1.2.1
          have HMM := Aside0.mk hm
          clear hm
          have hi9 : i < 1000 := Nat.lt_of_lt_of_le hli (Nat.le_trans HSM.out.2.1.2.1 (by decide))
          have hm9 : m < 1000 := Nat.lt_of_le_of_lt hml (by decide)
          have hw3 := wim2 hm9 hi9
          have hw4 := wrm2 hm9 hi9
          have hi1 := wrm1 hi9
          have hi2 := wim1 hi9
          have hmc : (a : Int) * (l1.length : Int) = (m : Int) := by rw [HMM.out]; exact (Int.natCast_mul a l1.length).symm
          have hw1 : IntKind.i64.wrap ((a : Int) * (l1.length : Int)) = (m : Int) := by rw [hmc]; exact wim0 hm9
          have hw2 : wrap64 ((a : Int) * (l1.length : Int)) = (m : Int) := by rw [hmc]; exact wrm0 hm9
          clear hmc ha5 hm9
          have hc := word_d (HX.out.2.2.2.below HB.out) (m + i)
          rw [show ((m + i : Nat) : Int) = (m : Int) + (i : Int) from Int.natCast_add m i] at hc
          obtain ⟨x, hx⟩ : ∃ x, x = wordS ws (m + i) := ⟨_, rfl⟩
          rw [← hx] at hc
          have HC := Aside0.mk hc
          clear hc hx hml hi9
          go_wp2_with fail
          refine HC.out.mono ?_
          rintro e wx ⟨rfl, hwx⟩
          subst hwx
          clear HC hw1 hw2 hw3 hw4
          by_cases he : Int.tmod x 2 = 0
          · have heb : (Int.tmod x 2 == 0) = true := beq_iff_eq.2 he
            clear he q1
            go_wp2
            go_roundg (l1.length - (i + 1))
            case measure => omega
            case rel => exact ⟨i + 1, _, r, by omega, by omega, rfl, by push_cast; rfl, ⟨made_keep HM.out⟩, HS, HB, HK⟩
          · have heb : (Int.tmod x 2 == 0) = false := beq_eq_false_iff_ne.2 he
            clear he q1
            obtain ⟨e0, hc6, hC6⟩ := Kd.S_reads' HS.out
            have hrl : ∀ l ∈ r, l.length ≤ 4 := fun l hl => by have := IncF_len (made_rows HM.out hi l hl); have := HSM.out.2.1.2.1; omega
            obtain ⟨kk, hkk⟩ := (rows_ev r (by have := HSM.out.2.1.1; omega) (fun y hy => by have := hrl y hy; omega)).one
            have hc := glisterlaw10_rows.calls kk A6 c6 r r wx hC6 (by omega) hkk
            rw [HM.out.len] at hc
            have HC := Aside0.mk hc
            have HRL := Aside0.mk hrl
            clear hc hkk hC6 hrl e0 hc6
            go_wp2_with fail
            refine HC.out.mono ?_
            rintro e wy ⟨vy, rfl, hSy, hby⟩
            have hn0 : 0 < r.length := by rw [HM.out.len]; omega
            obtain ⟨gx, cx, ey, hgx1, hgx2, cells, hcells⟩ := Kd.S_form hSy hn0
            subst ey
            rw [HM.out.len] at hSy ⊢
            obtain ⟨oki, c, hcl, hM, hcc, hfr, hoki, hH⟩ := Kd.S_elem hSy ([] : List Int) (a : Int) (by omega) (by omega)
            rw [Int.toNat_natCast] at hM hcc hfr
            obtain ⟨u0, ec, hR0⟩ := hM
            subst ec
            have hx0 : wy.cell? ⟨gx, a, none⟩ = some u0 := by
              have h7 := hcc 0 u0 rfl
              have e7 : a * KR.sz + 0 = a := by show a * 1 + 0 = a; omega
              rw [e7] at h7
              exact h7
            obtain ⟨nl, hnl⟩ : ∃ nl, nl = (r.getD a []).length := ⟨_, rfl⟩
            obtain ⟨A7, c7, e7⟩ := R_slice hR0
            rw [← hnl] at e7
            subst e7
            have hnl4 : (r.getD a []).length ≤ 4 := by
              have h8 : a < r.length := by rw [HM.out.len]; exact hlt
              rw [List.getD_eq_getElem?_getD, List.getElem?_eq_getElem h8]
              exact HRL.out _ (List.getElem_mem h8)
            have hown : ∀ k, (Value.slice A7 nl c7).ownBlock = some k → oki k := fun k hk => hR0.1 k hk
            have haz : (a : Int) < (l0.length : Int) := by omega
            have HHo := Aside0.mk (And.intro (Kd.H_widen hH) (And.intro hown hoki))
            have HRo : Aside0 ((Kd.int .i64).R 3 wy wx.heap.size (fun k => oki k ∨ True ∧ wy.heap.size ≤ k) (.slice A7 nl c7) (r.getD a [])) := ⟨Kd.R_mono hR0 (fun k hk => .inl hk)⟩
            have HBy := Aside0.mk hby
            have HCx := Aside0.mk (And.intro hcells hx0)
            have HNL := Aside0.mk (And.intro hnl hnl4)
            have HGX := Aside0.mk (And.intro hgx1 hgx2)
            clear HC hSy hby hcl hcc hfr hoki hH hR0 hnl hnl4 hown hn0 hcells hgx1 hgx2
            go_upto_region 12 with ((with_reducible refine gate_builtin (b := .append) (xs := #[.tmp 46, .tmp 48]) rfl ?_); at_builtin; refine Kd.R_append (Kd.int .i64) (w0 := wx) (W := wy) wx.heap.size rfl (.tmp 46) (.tmp 48) 22 3 (.int .i64 0) 8 rfl (by kernel_rfl) (by kernel_rfl) rfl (by decide) (by omega) (.slice A7 nl c7) (r.getD a []) (i : Int) [.int .i64 (i : Int)] (fun k => oki k ∨ True ∧ wy.heap.size ≤ k) (fun _ => False) rfl rfl rfl (fun _ h => h.elim) (fun k hk => .inr ⟨trivial, hk⟩) HRo.out HBy.out HBy.out.size (by have := HNL.out.2; omega) ?_; intro v2 w2 ho hb hgr hat; obtain ⟨A8, c8, e8⟩ := R_slice ho; obtain ⟨n8, hn8⟩ : ∃ n8, n8 = (r.getD a [] ++ [(i : Int)]).length := ⟨_, rfl⟩; rw [← hn8] at e8; subst e8; have hcz := blk_grown HCx.out.1 hgr (fun k hk e => (HHo.out.2.2 k (HHo.out.2.1 k hk)).2 e); have q8 : w2.cell? ⟨gx, a, none⟩ = some (.slice A7 nl c7) := (blk_cell hcz a).trans ((blk_cell HCx.out.1 a).symm.trans HCx.out.2); have f8 : w2.frozen? ⟨gx, a, none⟩ = false := blk_frozen hcz a; have HR2 := Aside0.mk ho; have HB2 := Aside0.mk hb; have HH2 := Aside0.mk (Kd.H_grown HHo.out.1 hgr (fun k hk => .inl (HHo.out.2.1 k hk))); have HC2 := Aside0.mk hcz; clear ho hb hgr hat hn8 hcz)
            obtain ⟨w3, hw3⟩ : ∃ w3, w3 = w2.setCell ⟨gx, a, none⟩ (.slice A8 n8 c8) := ⟨_, rfl⟩
            rw [← hw3]
            have hsz : a * KR.sz + 0 = a := by show a * 1 + 0 = a; exact Nat.mul_one a
            have HB3 : Aside0 (Below wx.heap.size wx w3) := ⟨by rw [hw3]; exact below_set HB2.out HGX.out.1⟩
            have HR3 : Aside0 ((Kd.int .i64).R 3 w3 wx.heap.size (fun k => oki k ∨ True ∧ wy.heap.size ≤ k) (.slice A8 n8 c8) (r.getD a [] ++ [(i : Int)])) := ⟨by rw [hw3]; exact Kd.R_set HR2.out HC2.out (by decide) a _⟩
            have HS3 : Aside0 (Kd.S KR 22 w3 wx.heap.size (fun _ => True) (.slice (some ⟨gx, 0, none⟩) l0.length cx) (r.set a (r.getD a [] ++ [(i : Int)]))) := ⟨by
              have h9 := (Kd.H_seg HH2.out (by omega) (by omega) (seg := [.slice A8 n8 c8]) (j := 0) (by show 0 + 1 ≤ 1; omega) (fun q hq => by rw [List.mem_singleton.1 hq]; rfl)).1
              rw [Int.toNat_natCast, hsz] at h9
              have h8 : Kd.H KR 22 w3 wx.heap.size (fun _ => True) (.slice (some ⟨gx, 0, none⟩) l0.length cx) r (a : Int) (fun k => oki k ∨ True ∧ wy.heap.size ≤ k) [.slice A8 n8 c8] := by rw [hw3]; exact h9
              have h7 := Kd.H_back h8 (x' := r.getD a [] ++ [(i : Int)]) ⟨_, rfl, HR3.out⟩ (fun k hk => hk)
              rw [Int.toNat_natCast] at h7
              exact h7⟩
            have HKB := Aside0.mk (blk_below HK.out HB3.out)
            have HBB := Aside0.mk (HB.out.trans (HB3.out.mono HB.out.size))
            have HSB := Aside0.mk (Kd.S_below HS.out HB3.out)
            have HSN := Aside0.mk (Kd.S_lower HS3.out HB.out.size)
            clear hw3 hsz HB2 HR2 HC2 HH2 HHo HRo HBy HCx HNL HGX HS HB HK q8 f8 HR3 HB3
            by_cases h16 : Int.tmod x 16 = 1
            · have h16b : (Int.tmod x 16 == 1) = true := beq_iff_eq.2 h16
              clear h16
              go_wp2
              go_roundg (l1.length - (i + 1))
              case measure => omega
              case rel => exact ⟨i + 1, _, r.set a (r.getD a [] ++ [(i : Int)]), by omega, by omega, rfl, by push_cast; rfl, ⟨made_put HM.out hlt⟩, HSN, HBB, HKB⟩
            · have h16b : (Int.tmod x 16 == 1) = false := beq_eq_false_iff_ne.2 h16
              clear h16
              obtain ⟨r', hr'⟩ : ∃ r', r' = r.set a (r.getD a [] ++ [(i : Int)]) := ⟨_, rfl⟩
              have hm' := made_put HM.out hlt (i := i)
              rw [← hr'] at hm'
              have hrl : ∀ l ∈ r', l.length < 1000 := fun l hl => by have h1 := IncF_len (made_rows hm' hli l hl); have h2 := HSM.out.2.1.2.1; omega
              have hl' : r'.length = l0.length := hm'.len
              have hrv := refrules_ev l0 l1 l2 r' (by have := HSM.out.2.1.2.1; omega) (by rw [hl']; have := HSM.out.2.1.1; omega) hrl (fun y hy => by rw [hl']; exact HSM.out.2.2 y hy)
              obtain ⟨rb, hrb⟩ : ∃ rb, rb = ((List.range l1.length).all fun i => perB (l1.getD i z119) r' i) := ⟨_, rfl⟩
              rw [← hrb] at hrv
              have hs' : SL KR (some ⟨gx, 0, none⟩) cx w3 r' := by
                obtain ⟨e1, e2, e3⟩ := Kd.S_reads' HS3.out
                rw [hr']
                exact ⟨by omega, e3⟩
              have hc := refrules_c (HX.out.1.below HBB.out) (HX.out.2.1.below HBB.out) (HX.out.2.2.1.below HBB.out) hs' hrv
              rw [hl'] at hc
              have HC := Aside0.mk hc
              have q0 : w3.cell? ⟨P, 0, none⟩ = some (.slice A0 l0.length c0) := (blk_cell HKB.out 0).trans rfl
              have q1 : w3.cell? ⟨P, 1, none⟩ = some (.slice A1 l1.length c1) := (blk_cell HKB.out 1).trans rfl
              have q2 : w3.cell? ⟨P, 2, none⟩ = some (.slice A2 l2.length c2) := (blk_cell HKB.out 2).trans rfl
              clear hc hs' hrv hrb hrl hr' hm' hl' HS3
              go_wp2_with fail
              refine HC.out.mono ?_
              rintro e w4 ⟨rfl, hb4⟩
              have HK4 := Aside0.mk (blk_below HKB.out hb4)
              have HB4 := Aside0.mk (HBB.out.trans (hb4.mono HBB.out.size))
              have HS4 := Aside0.mk (Kd.S_below HSB.out hb4)
              have HN4 := Aside0.mk (Kd.S_below HSN.out hb4)
              clear HC hb4 q0 q1 q2 HKB HBB HSB HSN
              cases rb with
              | true =>
                go_wp2
                go_roundg (l1.length - (i + 1))
                case measure => omega
                case rel => exact ⟨i + 1, _, r.set a (r.getD a [] ++ [(i : Int)]), by omega, by omega, rfl, by push_cast; rfl, ⟨made_put HM.out hlt⟩, HN4, HB4, HK4⟩
              | false =>
                go_wp2
                go_roundg (l1.length - (i + 1))
                case measure => omega
                case rel => exact ⟨i + 1, _, r, by omega, by omega, rfl, by push_cast; rfl, ⟨made_keep HM.out⟩, HS4, HB4, HK4⟩
        · have hliz : ¬ (i : Int) < (l1.length : Int) := by omega
          obtain rfl : i = l1.length := by omega
          have ha5 : a ≤ 5 := by have := HSM.out.2.1.1; omega
          have ha1 : wrap64 ((a : Int) + 1) = (a : Int) + 1 := wrm1 (Nat.lt_of_le_of_lt ha5 (by decide))
          have ha2 : IntKind.i64.wrap ((a : Int) + 1) = (a : Int) + 1 := wim1 (Nat.lt_of_le_of_lt ha5 (by decide))
          go_wp2
          go_roundg (l0.length - (a + 1))
          case measure => omega
          case rel => exact ⟨a + 1, _, r, by omega, by omega, rfl, by push_cast; rfl, ⟨made_next HM.out⟩, HS, HB, HK⟩
    · have hltz : ¬ (a : Int) < (l0.length : Int) := by omega
      obtain rfl : a = l0.length := by omega
      obtain ⟨e0, hc6, hC6⟩ := Kd.S_reads' HS.out
      have hmr := HM.out
      rw [show l1.length = (l1.map toP).length by simp] at hmr
      go_wp2
      go_ret
      exact ⟨A5, c5, r, by rw [HM.out.len]; rfl, ⟨by omega, hC6⟩, made_rota HSM.out.1 hmr, HB.out⟩
end Go.Proofs.YtekdacalkllipaaGreat.PR
end
section
namespace Go.Proofs.YtekdacalkllipaaGreat.PR
open Go.RowKit Go.Shelf Go.Proofs.YtekdacalkllipaaGreatW.PrintWords Go.Proofs.YtekdacalkllipaaGreatW.PrintLast Go.Proofs.YtekdacalkllipaaGreatW.PrintMore
set_option linter.unusedVariables false
set_option linter.unusedSimpArgs false
attribute [local go_sem] Oper.semAt_some
attribute [local simp] wide_fn
theorem shorter_q {A0 A1 : Option Addr} {c0 c1 : Nat} {w : World} {a b : List Int} (h0 : SL (Kd.int .i64) A0 c0 w a) (h1 : SL (Kd.int .i64) A1 c1 w b) (ha : a.length < 1000) (hb : b.length < 1000) (n : Nat) :
    Calls Tryz.prog 60 #[.slice A0 a.length c0, .slice A1 b.length c1] (w.drewN n) fun e w' => e = .returned (.bool (decide (cmpS a b < 0))) ∧ ∃ m, w' = (w.drewN n).drewN m := by
  obtain ⟨k, hk⟩ := (shorter_ev a b ha hb).one
  refine (glisterref10_Shorter.calls k A0 c0 a A1 c1 b _ (w.drewN n) (Kd.C_drewN h0.2 n) h0.1 (Kd.C_drewN h1.2 n) h1.1 hk).mono ?_
  rintro e w' ⟨rfl, h⟩
  obtain ⟨m, rfl⟩ := h.out
  exact ⟨rfl, m, rfl⟩
set_option maxRecDepth 100000 in
set_option maxHeartbeats 4000000 in
theorem smaller_d {A0 A1 : Option Addr} {c0 c1 : Nat} {w : World} {a b : List (List Int)} (h0 : SL KR A0 c0 w a) (h1 : SL KR A1 c1 w b) (ha : a.length < 1000) (hax : ∀ x ∈ a, x.length < 1000) (hbx : ∀ x ∈ b, x.length < 1000) :
    Calls Tryz.prog 68 #[.slice A0 a.length c0, .slice A1 b.length c1] w fun e w' => e = .returned (.bool (smallB a b)) ∧ Below w.heap.size w w' := by
  obtain ⟨R, hR⟩ : ∃ R, R = smallB a b := ⟨_, rfl⟩
  rw [← hR]
  have HR := Aside0.mk hR
  have HX := Aside0.mk (And.intro h0 (And.intro h1 (And.intro ha (And.intro hax hbx))))
  clear hR h0 h1 ha hax hbx
  go_enter Tryz.func68, Tryz.ntmps68
  go_wp2
  go_loopg [5] a.length (fun gg s5 wr => ∃ i : Nat, i ≤ a.length ∧ a.length - i ≤ gg ∧ s5 = .int .i64 i ∧ Aside0 (smallB (a.drop i) (b.drop i) = R) ∧ Aside0 (Below w.heap.size w wr))
  case atStart => exact ⟨0, Nat.zero_le _, by omega, rfl, ⟨HR.out.symm⟩, ⟨Below.refl _ _⟩⟩
  case round =>
    obtain ⟨i, hi, hg, rfl, HJ, HB⟩ := hrel
    by_cases hlt : i < a.length
    · have hltz : (i : Int) < (a.length : Int) := by omega
      by_cases hlb : i < b.length
      · have hlbz : (i : Int) < (b.length : Int) := by omega
        have hs0 := HX.out.1.below HB.out
        have hs1 := HX.out.2.1.below HB.out
        obtain ⟨ad, Ax, cx, ea, hx, hxl, hxC⟩ := at_L1 hs0.2 (i : Int) (by omega) (by omega)
        obtain ⟨bd, By, cy, eb, hy, hyl, hyC⟩ := at_L1 hs1.2 (i : Int) (by omega) (by omega)
        subst ea
        subst eb
        obtain ⟨x, hxx⟩ : ∃ x, x = a.getD i [] := ⟨_, rfl⟩
        obtain ⟨y, hyy⟩ : ∃ y, y = b.getD i [] := ⟨_, rfl⟩
        rw [rdL_get, ← hxx] at hx hxl hxC
        rw [rdL_get, ← hyy] at hy hyl hyC
        rw [Int.toNat_natCast] at hx hy
        have hea : a.drop i = x :: a.drop (i + 1) := by rw [List.drop_eq_getElem_cons hlt, hxx, List.getD_eq_getElem?_getD, List.getElem?_eq_getElem hlt]; rfl
        have heb : b.drop i = y :: b.drop (i + 1) := by rw [List.drop_eq_getElem_cons hlb, hyy, List.getD_eq_getElem?_getD, List.getElem?_eq_getElem hlb]; rfl
        have hxs : x.length < 1000 := by rw [hxx, List.getD_eq_getElem?_getD, List.getElem?_eq_getElem hlt]; exact HX.out.2.2.2.1 _ (List.getElem_mem hlt)
        have hys : y.length < 1000 := by rw [hyy, List.getD_eq_getElem?_getD, List.getElem?_eq_getElem hlb]; exact HX.out.2.2.2.2 _ (List.getElem_mem hlb)
        obtain ⟨p, hp⟩ : ∃ p, p = decide (cmpS x y < 0) := ⟨_, rfl⟩
        obtain ⟨q, hq⟩ : ∃ q, q = decide (cmpS y x < 0) := ⟨_, rfl⟩
        have hc1 := shorter_q ⟨hxl, hxC⟩ ⟨hyl, hyC⟩ hxs hys
        have hc2 := shorter_q ⟨hyl, hyC⟩ ⟨hxl, hxC⟩ hys hxs
        rw [← hp] at hc1
        rw [← hq] at hc2
        have HC1 := Aside0.mk hc1
        have HC2 := Aside0.mk hc2
        have HJ2 : Aside0 ((if p = true then true else if q = true then false else smallB (a.drop (i + 1)) (b.drop (i + 1))) = R) := ⟨by
          have h := HJ.out
          rw [hea, heb, smallB] at h
          rw [hp, hq]
          simpa using h⟩
        have ha9 : i < 1000 := Nat.lt_trans hlt HX.out.2.2.1
        have hw1 : wrap64 ((i : Int) + 1) = (i : Int) + 1 := by unfold wrap64; omega
        have hw2 : IntKind.i64.wrap ((i : Int) + 1) = (i : Int) + 1 := by rw [IntKind.wrap_i64]; omega
        clear hc1 hc2 hp hq hea heb hxs hys hxl hyl hxC hyC hs0 hs1 hxx hyy ha9
        go_wp2
        cases p with
        | true =>
          have e : R = true := HJ2.out.symm
          subst e
          go_quiet ((go_at_call 60; (with_reducible refine (HC1.out _).mono ?_); rintro e w9 ⟨rfl, n, rfl⟩; exact ⟨rfl, _, World.drewN_drewN ..⟩))
          go_wp2
          have HC3 : Aside0 (∀ n : Nat, Calls Tryz.prog 60 #[.slice Ax x.length cx, .slice By y.length cy] ((wr.drewN nq).drewN n) fun e w' => e = .returned (.bool true) ∧ ∃ m, w' = ((wr.drewN nq).drewN n).drewN m) := ⟨fun n => by rw [World.drewN_drewN]; exact HC1.out (nq + n)⟩
          have hx5 : (wr.drewN nq).cell? (ad.add i) = some (.slice Ax x.length cx) := hx
          have hy5 : (wr.drewN nq).cell? (bd.add i) = some (.slice By y.length cy) := hy
          have HB5 := Aside0.mk (pw_below_drewN HB.out nq)
          clear hx hy HB HC1 HC2
          generalize wr.drewN nq = w5 at HC3 hx5 hy5 HB5 ⊢
          go_quiet ((go_at_call 60; (with_reducible refine (HC3.out _).mono ?_); rintro e w9 ⟨rfl, n, rfl⟩; exact ⟨rfl, _, World.drewN_drewN ..⟩))
          go_wp2
          go_ret
          exact ⟨rfl, pw_below_drewN HB5.out nq⟩
        | false =>
          cases q with
          | true =>
            have e : R = false := HJ2.out.symm
            subst e
            go_quiet ((first | (go_at_call 60; (with_reducible refine (HC1.out _).mono ?_); rintro e w9 ⟨rfl, n, rfl⟩; exact ⟨rfl, _, World.drewN_drewN ..⟩) | (go_at_call 60; (with_reducible refine (HC2.out _).mono ?_); rintro e w9 ⟨rfl, n, rfl⟩; exact ⟨rfl, _, World.drewN_drewN ..⟩)))
            go_wp2
            have HC3 : Aside0 (∀ n : Nat, Calls Tryz.prog 60 #[.slice Ax x.length cx, .slice By y.length cy] ((wr.drewN nq).drewN n) fun e w' => e = .returned (.bool false) ∧ ∃ m, w' = ((wr.drewN nq).drewN n).drewN m) := ⟨fun n => by rw [World.drewN_drewN]; exact HC1.out (nq + n)⟩
            have hx5 : (wr.drewN nq).cell? (ad.add i) = some (.slice Ax x.length cx) := hx
            have hy5 : (wr.drewN nq).cell? (bd.add i) = some (.slice By y.length cy) := hy
            have HB5 := Aside0.mk (pw_below_drewN HB.out nq)
            clear hx hy HB HC1 HC2
            generalize wr.drewN nq = w5 at HC3 hx5 hy5 HB5 ⊢
            go_quiet ((go_at_call 60; (with_reducible refine (HC3.out _).mono ?_); rintro e w9 ⟨rfl, n, rfl⟩; exact ⟨rfl, _, World.drewN_drewN ..⟩))
            go_wp2
            go_ret
            exact ⟨rfl, pw_below_drewN HB5.out nq⟩
          | false =>
            go_quiet ((first | (go_at_call 60; (with_reducible refine (HC1.out _).mono ?_); rintro e w9 ⟨rfl, n, rfl⟩; exact ⟨rfl, _, World.drewN_drewN ..⟩) | (go_at_call 60; (with_reducible refine (HC2.out _).mono ?_); rintro e w9 ⟨rfl, n, rfl⟩; exact ⟨rfl, _, World.drewN_drewN ..⟩)))
            go_wp2
            go_roundg (a.length - (i + 1))
            case measure => omega
            case rel => exact ⟨i + 1, by omega, by omega, by push_cast; rfl, HJ2, ⟨pw_below_drewN HB.out nq⟩⟩
      · have hlbz : ¬ (i : Int) < (b.length : Int) := by omega
        have e : R = false := by
          rw [← HJ.out, show b.drop i = [] from List.drop_eq_nil_of_le (by omega)]
          cases a.drop i <;> rfl
        subst e
        go_wp2
        go_ret
        exact ⟨rfl, HB.out⟩
    · have hltz : ¬ (i : Int) < (a.length : Int) := by omega
      have e : R = false := by
        rw [← HJ.out, show a.drop i = [] from List.drop_eq_nil_of_le (by omega)]
        rfl
      subst e
      go_wp2
      go_ret
      exact ⟨rfl, HB.out⟩
end Go.Proofs.YtekdacalkllipaaGreat.PR
end
section
namespace Go.Proofs.YtekdacalkllipaaGreat.PR
open Go.RowKit Go.Shelf Go.Proofs.YtekdacalkllipaaGreatW.PrintWords Go.Proofs.YtekdacalkllipaaGreatW.PrintLast Go.Proofs.YtekdacalkllipaaGreatW.PrintMore
set_option linter.unusedVariables false
set_option linter.unusedSimpArgs false
attribute [local go_sem] Oper.semAt_some
attribute [local simp] wide_fn
theorem prove_safe {need : List Int} {people : List S128} {cases r : List (List Int)} (hp : postErr need people cases = 0) (he : rotaErr need people cases r = 0) : proveS need people cases r 99 = (rulesS people 0 r std0 && holdsFrom need cases 0 r) ∧ dutiesS r ≤ 20 := by
  obtain ⟨p1, p2, _⟩ := post_small hp
  obtain ⟨_, e1, e2⟩ := rotaErr_ok he
  have h1 := sum_le r 4 (fun on hon => by have := incB_len (e2 on hon); omega)
  have h2 : dutiesS r ≤ 20 := by rw [duties_sum]; omega
  refine ⟨?_, h2⟩
  unfold proveS
  rw [decide_eq_true he, decide_eq_true (show dutiesS r ≤ 99 by omega)]
  cases rulesS people 0 r std0 <;> simp
set_option maxRecDepth 100000 in
set_option maxHeartbeats 4000000 in
theorem rotaFewest_walk {A0 A1 A2 A3 : Option Addr} {c0 c1 c2 c3 : Nat} {w : World} {l0 : List Int} {l1 : List S119} {l2 : List (List Int)} {ws : List Int} (h0 : SL (Kd.int .i64) A0 c0 w l0) (h1 : SL k119 A1 c1 w l1) (h2 : SL KR A2 c2 w l2) (h3 : SL (Kd.int .u16) A3 c3 w ws) :
    Calls Tryz.prog 14 #[.agg #[.slice A0 l0.length c0, .slice A1 l1.length c1, .slice A2 l2.length c2], .slice A3 ws.length c3] w fun e w' => e = .returned (.bool true) ∧ Below w.heap.size w w' := by
  obtain ⟨P, hP⟩ : ∃ P, P = w.heap.size := ⟨_, rfl⟩
  obtain ⟨w0, hw0⟩ : ∃ w0, w0 = w.alloc (.cells #[.slice A0 l0.length c0, .slice A1 l1.length c1, .slice A2 l2.length c2] 26) := ⟨_, rfl⟩
  have hb : Below w.heap.size w w0 := by rw [hw0]; exact below_alloc (Below.refl _ _) _
  have HK0 : Aside0 (w0.heap[P]? = some (.cells #[.slice A0 l0.length c0, .slice A1 l1.length c1, .slice A2 l2.length c2] 26 (0, 0))) := ⟨by rw [hw0, hP]; exact blk_new w _⟩
  have HX0 := Aside0.mk (h0.below hb)
  have HY0 := Aside0.mk (h1.below hb)
  have HZ0 := Aside0.mk (h2.below hb)
  have HW0 := Aside0.mk (h3.below hb)
  have HB0 := Aside0.mk hb
  clear h0 h1 h2 h3 hb
  obtain ⟨b, HT⟩ := ready_b l0 l1 l2
  go_enter Tryz.func14, Tryz.ntmps14
  have hu26 := Tryz.underlying26
  have qHK0 : w0.cell? ⟨P, 0, none⟩ = some (.slice A0 l0.length c0) := (blk_cell HK0.out 0).trans rfl
  have qHK1 : w0.cell? ⟨P, 1, none⟩ = some (.slice A1 l1.length c1) := (blk_cell HK0.out 1).trans rfl
  have qHK2 : w0.cell? ⟨P, 2, none⟩ = some (.slice A2 l2.length c2) := (blk_cell HK0.out 2).trans rfl
  have hc := Aside0.mk (HT.out.1 HX0.out HY0.out HZ0.out)
  rw [hw0] at qHK0 qHK1 qHK2
  rw [hP] at qHK0 qHK1 qHK2
  go_wp2_with fail
  rw [← hw0, ← hP]
  have HP := Aside0.mk hP
  clear hP hw0 qHK0 qHK1 qHK2
  refine hc.out.mono ?_
  rintro e w1 ⟨rfl, hb⟩
  clear hc
  have HB1 := Aside0.mk (HB0.out.trans (hb.mono HB0.out.size))
  have HK1 := Aside0.mk (blk_below HK0.out hb)
  have HX1 := Aside0.mk (HX0.out.below hb)
  have HY1 := Aside0.mk (HY0.out.below hb)
  have HZ1 := Aside0.mk (HZ0.out.below hb)
  have HW1 := Aside0.mk (HW0.out.below hb)
  clear hb HB0 HK0 HX0 HY0 HZ0 HW0
  cases b with
  | false =>
    have hc := Aside0.mk (lawake_any w1)
    go_wp2_with fail
    refine hc.out.mono ?_
    rintro e w2 ⟨rfl, hb⟩
    clear hc
    have HB2 := Aside0.mk (HB1.out.trans (hb.mono HB1.out.size))
    have HK2 := Aside0.mk (blk_below HK1.out hb)
    have HX2 := Aside0.mk (HX1.out.below hb)
    have HY2 := Aside0.mk (HY1.out.below hb)
    have HZ2 := Aside0.mk (HZ1.out.below hb)
    have HW2 := Aside0.mk (HW1.out.below hb)
    clear hb HB1 HK1 HX1 HY1 HZ1 HW1
    go_wp2
    go_ret
    exact ⟨rfl, HB2.out⟩
  | true =>
    obtain ⟨⟨t0, t1, t2, t3, t4⟩, hpe⟩ := HT.out.2 rfl
    have hpe1 := Aside0.mk hpe
    obtain ⟨ps, hps⟩ : ∃ ps, ps = l1.map toP := ⟨_, rfl⟩
    have hpo := (post_ev l0 l1 l2 (by omega) (by omega) (fun x hx => by have := t3 x hx; omega) (by omega) (fun x hx => by have := t4 x hx; omega))
    rw [← hps] at hpo hpe
    have HPO := Aside0.mk hpo
    obtain ⟨bl, hbl⟩ : ∃ bl, bl = (bestS l0 ps l2).1 := ⟨_, rfl⟩
    obtain ⟨bd, hbd⟩ : ∃ bd, bd = (bestS l0 ps l2).2.1 := ⟨_, rfl⟩
    obtain ⟨be, hbe⟩ : ∃ be, be = (bestS l0 ps l2).2.2 := ⟨_, rfl⟩
    obtain ⟨bn, hbn⟩ : ∃ bn, bn = bl.length := ⟨_, rfl⟩
    have HPS := Aside0.mk (And.intro hps hpe)
    have HBB := Aside0.mk (And.intro hbl (And.intro hbd (And.intro hbe hbn)))
    have HTH := Aside0.mk (And.intro t0 (And.intro t1 t2))
    clear hpo hps hpe hbl hbd hbe hbn t0 t1 t2 t3 t4 HT
    have qHK0 : w1.cell? ⟨P, 0, none⟩ = some (.slice A0 l0.length c0) := (blk_cell HK1.out 0).trans rfl
    have qHK1 : w1.cell? ⟨P, 1, none⟩ = some (.slice A1 l1.length c1) := (blk_cell HK1.out 1).trans rfl
    have qHK2 : w1.cell? ⟨P, 2, none⟩ = some (.slice A2 l2.length c2) := (blk_cell HK1.out 2).trans rfl
    have hc := Aside0.mk (made_d HX1.out HY1.out HZ1.out HW1.out hpe1.out)
    go_wp2_with fail
    refine hc.out.mono ?_
    rintro e w2 ⟨A4, c4, x, rfl, gx, hxe, hb⟩
    clear hc qHK0 qHK1 qHK2
    have HB2 := Aside0.mk (HB1.out.trans (hb.mono HB1.out.size))
    have HK2 := Aside0.mk (blk_below HK1.out hb)
    have HX2 := Aside0.mk (HX1.out.below hb)
    have HY2 := Aside0.mk (HY1.out.below hb)
    have HZ2 := Aside0.mk (HZ1.out.below hb)
    have HW2 := Aside0.mk (HW1.out.below hb)
    clear hb HB1 HK1 HX1 HY1 HZ1 HW1
    have HM2 := Aside0.mk gx
    clear gx
    clear HW2
    have hxe' : rotaErr l0 ps l2 x = 0 := by rw [HPS.out.1]; exact hxe
    obtain ⟨hpv, hdx⟩ := prove_safe HPS.out.2 hxe'
    obtain ⟨_, hxl, hxi⟩ := rotaErr_ok hxe'
    have hxb : ∀ l ∈ x, l.length < 1000 := fun l hl => by have h1 := incB_len (hxi l hl); have h2 := (post_small HPS.out.2).2.1; omega
    have hxl9 : x.length < 1000 := by rw [hxl]; have := (post_small HPS.out.2).1; omega
    have hsf := refsafe_ev l0 l1 l2 x hxe hxl9 hxb (by have := HTH.out.2.1; omega) (by have := HTH.out.2.2; omega)
    rw [← HPS.out.1] at hsf
    obtain ⟨sb, hsb⟩ : ∃ sb, sb = (rulesS ps 0 x std0 && holdsFrom l0 l2 0 x) := ⟨_, rfl⟩
    rw [← hsb] at hsf hpv
    obtain ⟨xd, hxd⟩ : ∃ xd, xd = dutiesS x := ⟨_, rfl⟩
    have hdu := refduties_ev x hxl9 hxb
    rw [← hxd] at hdu
    have HSF := Aside0.mk (And.intro hsf (And.intro hdu hpv))
    have HXE := Aside0.mk (And.intro hxe' (And.intro hsb (And.intro hxd hxb)))
    have HRO := Aside0.mk (rows_ev x hxl9 hxb)
    have HXL := Aside0.mk hxl9
    clear hxe hxe' hpv hdx hxl hxi hxb hxl9 hsf hsb hxd hdu hpe1
    have qHK0 : w2.cell? ⟨P, 0, none⟩ = some (.slice A0 l0.length c0) := (blk_cell HK2.out 0).trans rfl
    have qHK1 : w2.cell? ⟨P, 1, none⟩ = some (.slice A1 l1.length c1) := (blk_cell HK2.out 1).trans rfl
    have qHK2 : w2.cell? ⟨P, 2, none⟩ = some (.slice A2 l2.length c2) := (blk_cell HK2.out 2).trans rfl
    have hc := Aside0.mk (post_c HX2.out HY2.out HZ2.out HPO.out)
    go_wp2_with fail
    refine hc.out.mono ?_
    rintro e w3 ⟨B0, d0, B1, d1, B2, d2, rfl, g0, g1, g2, hb⟩
    clear hc qHK0 qHK1 qHK2
    have HB3 := Aside0.mk (HB2.out.trans (hb.mono HB2.out.size))
    have HK3 := Aside0.mk (blk_below HK2.out hb)
    have HX3 := Aside0.mk (HX2.out.below hb)
    have HY3 := Aside0.mk (HY2.out.below hb)
    have HZ3 := Aside0.mk (HZ2.out.below hb)
    have HM3 := Aside0.mk (HM2.out.below hb)
    clear hb HB2 HK2 HX2 HY2 HZ2 HM2
    have HU3 := Aside0.mk g0
    clear g0
    have HV3 := Aside0.mk g1
    clear g1
    have HR3 := Aside0.mk g2
    clear g2
    have hcb := best_c HU3.out HV3.out HR3.out
    rw [← HBB.out.1, ← HBB.out.2.1, ← HBB.out.2.2.1, ← HBB.out.2.2.2] at hcb
    have HCB := Aside0.mk hcb
    clear hcb
    have hc := Aside0.mk (HCB.out)
    go_wp2_with fail
    refine hc.out.mono ?_
    rintro e w4 ⟨AB, cB, rfl, gb, hb⟩
    clear hc
    have HB4 := Aside0.mk (HB3.out.trans (hb.mono HB3.out.size))
    have HK4 := Aside0.mk (blk_below HK3.out hb)
    have HX4 := Aside0.mk (HX3.out.below hb)
    have HY4 := Aside0.mk (HY3.out.below hb)
    have HZ4 := Aside0.mk (HZ3.out.below hb)
    have HM4 := Aside0.mk (HM3.out.below hb)
    have HU4 := Aside0.mk (HU3.out.below hb)
    have HV4 := Aside0.mk (HV3.out.below hb)
    have HR4 := Aside0.mk (HR3.out.below hb)
    clear hb HB3 HK3 HX3 HY3 HZ3 HM3 HU3 HV3 HR3
    have HL4 := Aside0.mk gb
    clear gb
    clear HCB
    clear HU4 HV4 HR4
    have qHK0 : w4.cell? ⟨P, 0, none⟩ = some (.slice A0 l0.length c0) := (blk_cell HK4.out 0).trans rfl
    have qHK1 : w4.cell? ⟨P, 1, none⟩ = some (.slice A1 l1.length c1) := (blk_cell HK4.out 1).trans rfl
    have qHK2 : w4.cell? ⟨P, 2, none⟩ = some (.slice A2 l2.length c2) := (blk_cell HK4.out 2).trans rfl
    have hc := Aside0.mk (post_c HX4.out HY4.out HZ4.out HPO.out)
    go_wp2_with fail
    refine hc.out.mono ?_
    rintro e w5 ⟨B0, d0, B1, d1, B2, d2, rfl, g0, g1, g2, hb⟩
    clear hc qHK0 qHK1 qHK2
    have HB5 := Aside0.mk (HB4.out.trans (hb.mono HB4.out.size))
    have HK5 := Aside0.mk (blk_below HK4.out hb)
    have HX5 := Aside0.mk (HX4.out.below hb)
    have HY5 := Aside0.mk (HY4.out.below hb)
    have HZ5 := Aside0.mk (HZ4.out.below hb)
    have HM5 := Aside0.mk (HM4.out.below hb)
    have HL5 := Aside0.mk (HL4.out.below hb)
    clear hb HB4 HK4 HX4 HY4 HZ4 HM4 HL4
    have HU5 := Aside0.mk g0
    clear g0
    have HV5 := Aside0.mk g1
    clear g1
    have HR5 := Aside0.mk g2
    clear g2
    have hcb := rows_c HM5.out HRO.out
    have HCB := Aside0.mk hcb
    clear hcb
    have hc := Aside0.mk (HCB.out)
    go_wp2_with fail
    refine hc.out.mono ?_
    rintro e w6 ⟨AQ, cQ, rfl, gq, hb⟩
    clear hc
    have HB6 := Aside0.mk (HB5.out.trans (hb.mono HB5.out.size))
    have HK6 := Aside0.mk (blk_below HK5.out hb)
    have HX6 := Aside0.mk (HX5.out.below hb)
    have HY6 := Aside0.mk (HY5.out.below hb)
    have HZ6 := Aside0.mk (HZ5.out.below hb)
    have HM6 := Aside0.mk (HM5.out.below hb)
    have HL6 := Aside0.mk (HL5.out.below hb)
    have HU6 := Aside0.mk (HU5.out.below hb)
    have HV6 := Aside0.mk (HV5.out.below hb)
    have HR6 := Aside0.mk (HR5.out.below hb)
    clear hb HB5 HK5 HX5 HY5 HZ5 HM5 HL5 HU5 HV5 HR5
    have HQ6 := Aside0.mk gq
    clear gq
    clear HCB
    have hcb := prove_c 99 HU6.out HV6.out HR6.out HQ6.out
    rw [HSF.out.2.2] at hcb
    have HCB := Aside0.mk hcb
    clear hcb
    have hc := Aside0.mk (HCB.out)
    go_wp2_with fail
    refine hc.out.mono ?_
    rintro e w7 ⟨rfl, hb⟩
    clear hc
    have HB7 := Aside0.mk (HB6.out.trans (hb.mono HB6.out.size))
    have HK7 := Aside0.mk (blk_below HK6.out hb)
    have HX7 := Aside0.mk (HX6.out.below hb)
    have HY7 := Aside0.mk (HY6.out.below hb)
    have HZ7 := Aside0.mk (HZ6.out.below hb)
    have HM7 := Aside0.mk (HM6.out.below hb)
    have HL7 := Aside0.mk (HL6.out.below hb)
    have HU7 := Aside0.mk (HU6.out.below hb)
    have HV7 := Aside0.mk (HV6.out.below hb)
    have HR7 := Aside0.mk (HR6.out.below hb)
    have HQ7 := Aside0.mk (HQ6.out.below hb)
    clear hb HB6 HK6 HX6 HY6 HZ6 HM6 HL6 HU6 HV6 HR6 HQ6
    clear HCB
    clear HU7 HV7 HR7 HQ7
    rcases best_spec HPS.out.2 with ⟨hB, hno⟩ | ⟨r, hB, hsafe, hmin⟩
    · have e1 : be = 10 := by rw [HBB.out.2.2.1, hB]
      have e2 : sb = false := by
        rw [HXE.out.2.1]
        cases hq : (rulesS ps 0 x std0 && holdsFrom l0 l2 0 x) with
        | false => rfl
        | true =>
          rw [Bool.and_eq_true] at hq
          exact absurd ⟨HXE.out.1, hq.1, hq.2⟩ (hno x)
      subst e1
      subst e2
      clear hB hno
      have hc := Aside0.mk (lawake_any w7)
      go_wp2_with fail
      refine hc.out.mono ?_
      rintro e w8 ⟨rfl, hb⟩
      clear hc
      have HB8 := Aside0.mk (HB7.out.trans (hb.mono HB7.out.size))
      have HK8 := Aside0.mk (blk_below HK7.out hb)
      have HX8 := Aside0.mk (HX7.out.below hb)
      have HY8 := Aside0.mk (HY7.out.below hb)
      have HZ8 := Aside0.mk (HZ7.out.below hb)
      have HM8 := Aside0.mk (HM7.out.below hb)
      have HL8 := Aside0.mk (HL7.out.below hb)
      clear hb HB7 HK7 HX7 HY7 HZ7 HM7 HL7
      go_wp2
      go_ret
      exact ⟨rfl, HB8.out⟩
    · have e1 : be = 0 := by rw [HBB.out.2.2.1, hB]
      have e2 : bl = r := by rw [HBB.out.1, hB]
      have e3 : bd = dutiesS bl := by rw [HBB.out.2.1, hB, e2]
      subst e2
      subst e1
      have HSB := Aside0.mk (And.intro hsafe (And.intro e3 hmin))
      clear hB hsafe hmin e3
      have hcb := refduties_c HM7.out HSF.out.2.1
      have HCB := Aside0.mk hcb
      clear hcb
      have hc := Aside0.mk (HCB.out)
      go_wp2_with fail
      refine hc.out.mono ?_
      rintro e w8 ⟨rfl, hb⟩
      clear hc
      have HB8 := Aside0.mk (HB7.out.trans (hb.mono HB7.out.size))
      have HK8 := Aside0.mk (blk_below HK7.out hb)
      have HX8 := Aside0.mk (HX7.out.below hb)
      have HY8 := Aside0.mk (HY7.out.below hb)
      have HZ8 := Aside0.mk (HZ7.out.below hb)
      have HM8 := Aside0.mk (HM7.out.below hb)
      have HL8 := Aside0.mk (HL7.out.below hb)
      clear hb HB7 HK7 HX7 HY7 HZ7 HM7 HL7
      clear HCB
      have qHK0 : w8.cell? ⟨P, 0, none⟩ = some (.slice A0 l0.length c0) := (blk_cell HK8.out 0).trans rfl
      have qHK1 : w8.cell? ⟨P, 1, none⟩ = some (.slice A1 l1.length c1) := (blk_cell HK8.out 1).trans rfl
      have qHK2 : w8.cell? ⟨P, 2, none⟩ = some (.slice A2 l2.length c2) := (blk_cell HK8.out 2).trans rfl
      have hcb := refsafe_c HX8.out HY8.out HZ8.out HM8.out HSF.out.1
      have HCB := Aside0.mk hcb
      clear hcb
      have hc := Aside0.mk (HCB.out)
      go_wp2_with fail
      refine hc.out.mono ?_
      rintro e w9 ⟨rfl, hb⟩
      clear hc qHK0 qHK1 qHK2
      have HB9 := Aside0.mk (HB8.out.trans (hb.mono HB8.out.size))
      have HK9 := Aside0.mk (blk_below HK8.out hb)
      have HX9 := Aside0.mk (HX8.out.below hb)
      have HY9 := Aside0.mk (HY8.out.below hb)
      have HZ9 := Aside0.mk (HZ8.out.below hb)
      have HM9 := Aside0.mk (HM8.out.below hb)
      have HL9 := Aside0.mk (HL8.out.below hb)
      clear hb HB8 HK8 HX8 HY8 HZ8 HM8 HL8
      clear HCB
      cases sb with
      | false =>
        have hc := Aside0.mk (lawake_any w9)
        go_wp2_with fail
        refine hc.out.mono ?_
        rintro e w10 ⟨rfl, hb⟩
        clear hc
        have HB10 := Aside0.mk (HB9.out.trans (hb.mono HB9.out.size))
        have HK10 := Aside0.mk (blk_below HK9.out hb)
        have HX10 := Aside0.mk (HX9.out.below hb)
        have HY10 := Aside0.mk (HY9.out.below hb)
        have HZ10 := Aside0.mk (HZ9.out.below hb)
        have HM10 := Aside0.mk (HM9.out.below hb)
        have HL10 := Aside0.mk (HL9.out.below hb)
        clear hb HB9 HK9 HX9 HY9 HZ9 HM9 HL9
        go_wp2
        go_ret
        exact ⟨rfl, HB10.out⟩
      | true =>
        have hq := HXE.out.2.1.symm
        rw [Bool.and_eq_true] at hq
        have hmn := HSB.out.2.2 x ⟨HXE.out.1, hq.1, hq.2⟩
        rw [← HXE.out.2.2.1, ← HSB.out.2.1] at hmn
        obtain ⟨hmn1, hmn2⟩ := hmn
        by_cases hgt : bd < xd
        · clear hmn1 hmn2 hq
          have hc := Aside0.mk (lawake_any w9)
          go_wp2_with fail
          refine hc.out.mono ?_
          rintro e w10 ⟨rfl, hb⟩
          clear hc
          have HB10 := Aside0.mk (HB9.out.trans (hb.mono HB9.out.size))
          have HK10 := Aside0.mk (blk_below HK9.out hb)
          have HX10 := Aside0.mk (HX9.out.below hb)
          have HY10 := Aside0.mk (HY9.out.below hb)
          have HZ10 := Aside0.mk (HZ9.out.below hb)
          have HM10 := Aside0.mk (HM9.out.below hb)
          have HL10 := Aside0.mk (HL9.out.below hb)
          clear hb HB9 HK9 HX9 HY9 HZ9 HM9 HL9
          go_wp2
          go_ret
          exact ⟨rfl, HB10.out⟩
        · have heq : xd = bd := by omega
          have hs0 := hmn2 heq
          subst heq
          have HS0 := Aside0.mk hs0
          obtain ⟨_, hrl, hri⟩ := rotaErr_ok HSB.out.1.1
          have hbx : ∀ l ∈ bl, l.length < 1000 := fun l hl => by have h1 := incB_len (hri l hl); have h2 := (post_small HPS.out.2).2.1; omega
          have hcb := smaller_d HM9.out HL9.out HXL.out HXE.out.2.2.2 hbx
          rw [HS0.out, ← HBB.out.2.2.2] at hcb
          have HCB := Aside0.mk hcb
          clear hcb hmn1 hmn2 hq hgt hs0 hrl hri hbx
          have hc := Aside0.mk (HCB.out)
          go_wp2_with fail
          refine hc.out.mono ?_
          rintro e w10 ⟨rfl, hb⟩
          clear hc
          have HB10 := Aside0.mk (HB9.out.trans (hb.mono HB9.out.size))
          have HK10 := Aside0.mk (blk_below HK9.out hb)
          have HX10 := Aside0.mk (HX9.out.below hb)
          have HY10 := Aside0.mk (HY9.out.below hb)
          have HZ10 := Aside0.mk (HZ9.out.below hb)
          have HM10 := Aside0.mk (HM9.out.below hb)
          have HL10 := Aside0.mk (HL9.out.below hb)
          clear hb HB9 HK9 HX9 HY9 HZ9 HM9 HL9
          clear HCB
          have hc := Aside0.mk (lawake_any w10)
          go_wp2_with fail
          refine hc.out.mono ?_
          rintro e w11 ⟨rfl, hb⟩
          clear hc
          have HB11 := Aside0.mk (HB10.out.trans (hb.mono HB10.out.size))
          have HK11 := Aside0.mk (blk_below HK10.out hb)
          have HX11 := Aside0.mk (HX10.out.below hb)
          have HY11 := Aside0.mk (HY10.out.below hb)
          have HZ11 := Aside0.mk (HZ10.out.below hb)
          have HM11 := Aside0.mk (HM10.out.below hb)
          have HL11 := Aside0.mk (HL10.out.below hb)
          clear hb HB10 HK10 HX10 HY10 HZ10 HM10 HL10
          go_wp2
          go_ret
          exact ⟨rfl, HB11.out⟩
theorem rotaFewest_calls {A0 A1 A2 A3 : Option Addr} {c0 c1 c2 c3 : Nat} {w : World} {l0 : List Int} {l1 : List S119} {l2 : List (List Int)} {ws : List Int} (h0 : Kd.C (Kd.int .i64) w A0 l0.length l0) (e0 : l0.length ≤ c0) (h1 : Kd.C k119 w A1 l1.length l1) (e1 : l1.length ≤ c1) (h2 : Kd.C KR w A2 l2.length l2) (e2 : l2.length ≤ c2) (h3 : Kd.C (Kd.int .u16) w A3 ws.length ws) (e3 : ws.length ≤ c3) :
    Calls Tryz.prog 14 #[.agg #[.slice A0 l0.length c0, .slice A1 l1.length c1, .slice A2 l2.length c2], .slice A3 ws.length c3] w fun e w' => e = .returned (.bool true) ∧ Below w.heap.size w w' := rotaFewest_walk ⟨e0, h0⟩ ⟨e1, h1⟩ ⟨e2, h2⟩ ⟨e3, h3⟩
end Go.Proofs.YtekdacalkllipaaGreat.PR
end
section
namespace Go.Proofs.YtekdacalkllipaaGreat.PR
open Go.RowKit Go.Proofs.YtekdacalkllipaaGreatW.PrintWords Go.Proofs.YtekdacalkllipaaGreatW.PrintLast Go.ChangeShapes Go.WideShapes Go.Deep
set_option linter.unusedVariables false
set_option maxRecDepth 100000
def Opens {α : Type} (P : Program) (d : Kd α) (t : TypeId) : Prop :=
  ∀ {H : Type} (enc : TypeId × Value → H) (w : World) (base : Nat) (spare : Nat → Bool) (held : Bool) (fuel : Nat) (cs : List Value) (x : DataW H × List MemPlace),
    DataW.trod enc P w base spare held fuel t cs = some x → ∃ p, d.K w p cs
theorem opens_bool {P : Program} {t : TypeId} (ht : P.underlying t = some .bool) : Opens P Kd.bool t := fun enc w base spare held fuel cs x h => by
  obtain ⟨b, rfl, _⟩ := DataW.trod_bool ht h
  exact ⟨b, rfl⟩
theorem opens_int {P : Program} {t : TypeId} {k : IntKind} (ht : P.underlying t = some (.int k)) : Opens P (Kd.int k) t := fun enc w base spare held fuel cs x h => by
  obtain ⟨n, rfl, _⟩ := DataW.trod_int ht h
  exact ⟨n, rfl⟩
theorem opens_slice {P : Program} {α : Type} [Inhabited α] {d : Kd α} {t e : TypeId} (ht : P.underlying t = some (.slice e)) (hd : Opens P d e) (hs : P.cellsOf e = d.sz) : Opens P (Kd.slice e d) t := fun enc w base spare held fuel cs x h => by
  rcases open_slice ht h with ⟨rfl, rfl⟩ | ⟨a, len, cap, m, n, D, Pl, rfl, hb, hl, hm, hmm, rfl, hx⟩
  · exact ⟨[], none, 0, rfl, Nat.le_refl _, rfl, by simp, fun h => absurd h (by simp)⟩
  · have hlm : len ≤ m := by rw [hmm]; split <;> omega
    obtain ⟨p, hp⟩ := choose_lt (α := α) (p := fun i p => ∃ cs', w.cells? base (a.add (i * P.cellsOf e)) (P.cellsOf e) = some cs' ∧ d.K w p cs') (n := len) (fun i hi => by
      obtain ⟨cs', h1, h2⟩ := hx i (by omega)
      obtain ⟨p, hp⟩ := hd enc w base spare held n cs' _ h2
      exact ⟨p, cs', h1, hp⟩)
    refine ⟨(List.range len).map p, some a, cap, by simp, by simpa using hl, by simp, by unfold maxLen at hm; simp; omega, fun h0 => ⟨a, rfl, fun j q hj => ?_⟩⟩
    have hj' : j < len := by
      rcases Nat.lt_or_ge j len with h | h
      · exact h
      · rw [List.getElem?_eq_none (by simpa using h)] at hj; cases hj
    rw [List.getElem?_map, List.getElem?_range hj'] at hj
    cases hj
    obtain ⟨cs', h1, h2⟩ := hp j hj'
    obtain ⟨_, hlen, hc⟩ := World.cells?_some h1
    refine ⟨cs', by rw [hlen, hs], h2, fun i u hi => ?_⟩
    have hil : i < P.cellsOf e := by
      rw [← hlen]
      rcases Nat.lt_or_ge i cs'.length with h | h
      · exact h
      · rw [List.getElem?_eq_none h] at hi; cases hi
    have := hc i hil
    rw [hi, Go.Deep.add_add, hs] at this
    exact this
instance : Inhabited S119 := ⟨z119⟩
theorem opens_person : Opens Tryz.prog k119 119 := fun enc w base spare held fuel cs x h => by
  obtain ⟨xs, n, _, _, hl, hxl, hf⟩ := DataW.trod_struct Tryz.underlying119 h
  have hc : Tryz.prog.cellsOf 119 = 3 := by kernel_rfl
  rw [hc] at hl
  match cs, hl with
  | [a, b, c], _ =>
    match xs, hxl with
    | [x0, x1, x2], _ =>
      have f0 : DataW.trod enc Tryz.prog w base spare held n 73 (List.take (Tryz.prog.cellsOf 73) (List.drop 0 [a, b, c])) = some x0 := hf 0 _ rfl
      have f1 : DataW.trod enc Tryz.prog w base spare held n 3 (List.take (Tryz.prog.cellsOf 3) (List.drop 1 [a, b, c])) = some x1 := hf 1 _ rfl
      have f2 : DataW.trod enc Tryz.prog w base spare held n 3 (List.take (Tryz.prog.cellsOf 3) (List.drop 2 [a, b, c])) = some x2 := hf 2 _ rfl
      rw [show Tryz.prog.cellsOf 73 = 1 by kernel_rfl] at f0
      rw [show Tryz.prog.cellsOf 3 = 1 by kernel_rfl] at f1 f2
      obtain ⟨p0, A0, c0, e0, h0, g0⟩ := opens_slice Tryz.underlying73 (opens_bool Tryz.underlying4) (by kernel_rfl) enc w base spare held n _ _ f0
      obtain ⟨p1, e1⟩ := opens_int Tryz.underlying3 enc w base spare held n _ _ f1
      obtain ⟨p2, e2⟩ := opens_int Tryz.underlying3 enc w base spare held n _ _ f2
      cases e0
      cases e1
      cases e2
      exact ⟨⟨p0, p1, p2⟩, k119_mk w ⟨p0, p1, p2⟩ h0 g0⟩
theorem opens_ints : Opens Tryz.prog (Kd.slice 3 (Kd.int .i64)) 22 := opens_slice Tryz.underlying22 (opens_int Tryz.underlying3) (by kernel_rfl)
theorem opens_rows : Opens Tryz.prog (Kd.slice 22 (Kd.slice 3 (Kd.int .i64))) 24 := opens_slice Tryz.underlying24 opens_ints (by kernel_rfl)
theorem opens_people : Opens Tryz.prog (Kd.slice 119 k119) 23 := opens_slice Tryz.underlying23 opens_person (by kernel_rfl)
theorem open_post {H : Type} {enc : TypeId × Value → H} {w : World} {base : Nat} {spare : Nat → Bool} {held : Bool} {fuel : Nat} {cs : List Value} {x : DataW H × List MemPlace} (h : DataW.trod enc Tryz.prog w base spare held fuel 26 cs = some x) :
    ∃ A0 c0 l0 A1 c1 l1 A2 c2 l2, cs = [.slice A0 l0.length c0, .slice A1 l1.length c1, .slice A2 l2.length c2] ∧ Kd.C (Kd.int .i64) w A0 l0.length l0 ∧ l0.length ≤ c0 ∧ Kd.C k119 w A1 l1.length l1 ∧ l1.length ≤ c1 ∧ Kd.C (Kd.slice 3 (Kd.int .i64)) w A2 l2.length l2 ∧ l2.length ≤ c2 := by
  obtain ⟨xs, n, _, _, hl, hxl, hf⟩ := DataW.trod_struct Tryz.underlying26 h
  have hc : Tryz.prog.cellsOf 26 = 3 := by kernel_rfl
  rw [hc] at hl
  match cs, hl with
  | [a, b, c], _ =>
    match xs, hxl with
    | [x0, x1, x2], _ =>
      have f0 : DataW.trod enc Tryz.prog w base spare held n 22 (List.take (Tryz.prog.cellsOf 22) (List.drop 0 [a, b, c])) = some x0 := hf 0 _ rfl
      have f1 : DataW.trod enc Tryz.prog w base spare held n 23 (List.take (Tryz.prog.cellsOf 23) (List.drop 1 [a, b, c])) = some x1 := hf 1 _ rfl
      have f2 : DataW.trod enc Tryz.prog w base spare held n 24 (List.take (Tryz.prog.cellsOf 24) (List.drop 2 [a, b, c])) = some x2 := hf 2 _ rfl
      rw [show Tryz.prog.cellsOf 22 = 1 by kernel_rfl] at f0
      rw [show Tryz.prog.cellsOf 23 = 1 by kernel_rfl] at f1
      rw [show Tryz.prog.cellsOf 24 = 1 by kernel_rfl] at f2
      obtain ⟨p0, A0, c0, e0, h0, g0⟩ := opens_ints enc w base spare held n _ _ f0
      obtain ⟨p1, A1, c1, e1, h1, g1⟩ := opens_people enc w base spare held n _ _ f1
      obtain ⟨p2, A2, c2, e2, h2, g2⟩ := opens_rows enc w base spare held n _ _ f2
      cases e0
      cases e1
      cases e2
      exact ⟨A0, c0, p0, A1, c1, p1, A2, c2, p2, rfl, g0, h0, g1, h1, g2, h2⟩
end Go.Proofs.YtekdacalkllipaaGreat.PR
end
section
namespace Go.Proofs.YtekdacalkllipaaGreat.PR
open Go.RowKit Go.Proofs.YtekdacalkllipaaGreatW.PrintWords Go.Proofs.YtekdacalkllipaaGreatW.PrintLast Go.ChangeShapes Go.WideShapes Go.Deep
set_option linter.unusedVariables false
set_option maxRecDepth 100000
theorem opens_words : Opens Tryz.prog (Kd.slice 179 (Kd.int .u16)) 56 := opens_slice Tryz.underlying56 (opens_int Tryz.underlying179) (by kernel_rfl)
theorem open_words {H : Type} {enc : TypeId × Value → H} {w : World} {base : Nat} {spare : Nat → Bool} {held : Bool} {fuel : Nat} {cs : List Value} {x : DataW H × List MemPlace} (h : DataW.trod enc Tryz.prog w base spare held fuel 56 cs = some x) :
    ∃ A c l, cs = [.slice A l.length c] ∧ Kd.C (Kd.int .u16) w A l.length l ∧ l.length ≤ c := by
  obtain ⟨p, A, c, e, h, g⟩ := opens_words enc w base spare held fuel cs x h
  exact ⟨A, c, p, e, g, h⟩
end Go.Proofs.YtekdacalkllipaaGreat.PR
end
section
namespace Go.Proofs.YtekdacalkllipaaGreat.rotaFewest
open Go.ChangeShapes Go.WideShapes Go.ChangeAt Go.RowKit Go.Proofs.YtekdacalkllipaaGreat.PR Go.Proofs.YtekdacalkllipaaGreatW.PrintWords
set_option linter.unusedVariables false
theorem own : ownKnob Tryz.prog.godebug = none := by kernel_rfl
theorem laidOut : laidOutB Tryz.prog = true := by kernel_rfl
set_option maxRecDepth 100000 in
theorem lifted (os : Os) (started : os.Started) (H : Type) (enc : TypeId × Value → H) :
    ReturnsInHanded {} Tryz.checked os 14 .any (Rows.rotaFewestSpec.pre6 enc Tryz.prog Tryz.f14 Rows.rotaFewestRow.domain false) (Rows.rotaFewestSpec.post enc Tryz.prog Tryz.f14 false true false false) := by
  refine returnsInHanded_of_change_sized (C := Tryz.checked) own started (by kernel_rfl) Tryz.func14
    (ChangeSpec.witness6 (enc := enc) (C := Tryz.checked) false ⟨#[], #[.agg #[.slice none 0 0, .slice none 0 0, .slice none 0 0], .slice none 0 0], []⟩ 8 (by kernel_rfl) (by kernel_rfl) (by kernel_rfl) (by kernel_rfl)) ?_
  intro W base args ds gs before hval0 hW hcnd hsz0 _
  have hval : ∀ (j : Nat) t v, Tryz.f14.params[j]? = some t → args[j]? = some v → Value.okWide Tryz.prog W .any base t v := hval0
  have hW' := hW
  obtain ⟨p, q, hA0, hV, rfl, hfz, hnd⟩ := hW
  have hA : DataW.TrodAll enc Tryz.prog W 0 (fun _ => true) true Tryz.f14.params.toList args.toList ds p := hA0
  rw [Tryz.params14] at hA hval
  obtain ⟨v0, vs0, d0, ds0, p0, q0, hargs, rfl, rfl, h0, r0⟩ := trodAll_cons hA
  obtain ⟨v1, vs1, d1, ds1, p1, q1, rfl, rfl, rfl, h1, r1⟩ := trodAll_cons r0
  obtain ⟨rfl, rfl, rfl⟩ := trodAll_nil r1
  obtain rfl : args = #[v0, v1] := by cases args; simp_all
  obtain ⟨rfl, rfl⟩ := trodVars_none hV
  have k0 := h0
  have lt0 : ∀ x ∈ p0, x.block < W.heap.size := by obtain ⟨m, hm⟩ := k0; exact DataW.trod_lt m _ _ _ hm
  obtain ⟨cs0, rfl, _⟩ := okWide_struct Tryz.underlying26 (hval 0 26 v0 rfl rfl)
  obtain ⟨fuel0, hf0⟩ := h0
  obtain ⟨A0_0, c0_0, l0_0, A0_1, c0_1, l0_1, A0_2, c0_2, l0_2, hcs0, g0_0, e0_0, g0_1, e0_1, g0_2, e0_2⟩ := open_post hf0
  obtain rfl : cs0 = #[.slice A0_0 l0_0.length c0_0, .slice A0_1 l0_1.length c0_1, .slice A0_2 l0_2.length c0_2] := Array.ext' hcs0
  have k1 := h1
  have lt1 : ∀ x ∈ p1, x.block < W.heap.size := by obtain ⟨m, hm⟩ := k1; exact DataW.trod_lt m _ _ _ hm
  obtain ⟨a1, len1, cap1, rfl⟩ := okWide_slice Tryz.underlying56 (hval 1 56 v1 rfl rfl)
  obtain ⟨fuel1, hf1⟩ := h1
  obtain ⟨A1, c1, l1, hcs1, g1, e1⟩ := open_words hf1
  simp [Value.cells] at hcs1
  obtain ⟨rfl, rfl, rfl⟩ := hcs1
  clear hA0 hval0 hsz0
  refine (rotaFewest_calls g0_0 e0_0 g0_1 e0_1 g0_2 e0_2 g1 e1).mono fun e W' ⟨he, bel⟩ => ?_
  subst he
  exact ⟨_, rfl, _, _, _, [], _, [], hW', trodAll_mk1 (shut_bool Tryz.underlying4 _), (trodAll_cons_mk (Below.trod laidOut (by kernel_rfl) (of_decide_eq_true (by kernel_rfl)) k0 bel lt0) (trodAll_cons_mk (Below.trod laidOut (by kernel_rfl) (of_decide_eq_true (by kernel_rfl)) k1 bel lt1) trodAll_mk0)), rfl, bel.frame _, fun h => by cases h⟩
theorem over : Rows.rotaFewestRow.holds Tryz.pinned (OpenSpec.ofChange Rows.rotaFewestSpec) :=
  OpenClaim.holds_of_wide 14 Tryz.f14 rfl rfl rfl rfl rfl rfl rfl ⟨rfl, rfl, rfl, rfl, rfl⟩ rfl rfl rfl rfl rfl (by kernel_rfl) Tryz.func14 (by kernel_rfl)
    (of_decide_eq_true (by kernel_rfl)) (by unfold Func.isWrapper; first | (rw [if_pos (by decide +kernel)]; kernel_rfl) | (rw [if_neg (by decide +kernel)]; exact ⟨rfl, rfl⟩))
    (fun os started H enc _ => lifted os started H enc)
theorem proved : Rows.RotaFewestSaid := over
end Go.Proofs.YtekdacalkllipaaGreat.rotaFewest
namespace Go.Proofs.YtekdacalkllipaaGreat
theorem rotaFewest_holds : Rows.RotaFewestSaid := rotaFewest.proved
end Go.Proofs.YtekdacalkllipaaGreat
end
