import Derived.Below
import Derived.ChangeOld
import Derived.ChangeSame
import Derived.Deep.CutBlock
import Derived.Deep.CutRange
import Derived.Deep.Slices
import Derived.OpenShut
import Derived.ProofKit
import Derived.ShutString
import Derived.SizedLaws
import Derived.StillTailTactics
import Derived.Test.YtekdacalkllipaaGreatRows
import Derived.WalkKit
import Derived.Test.YtekdacalkllipaaGreatZE5
section
/- The rows that Best writes: a safe rota with the fewest duties, none smaller. -/
namespace Go.Proofs.YtekdacalkllipaaGreat.PR
open Go.RowKit Go.Shelf Go.Proofs.YtekdacalkllipaaGreatW.PrintWords Go.Proofs.YtekdacalkllipaaGreatW.PrintLast Go.Proofs.YtekdacalkllipaaGreatW.PrintMore
set_option linter.unusedVariables false
set_option linter.unusedSimpArgs false

/-- Smaller, as the document says it. -/
def smallB : List (List Int) → List (List Int) → Bool
  | x :: a, y :: b => if cmpS x y < 0 then true else if cmpS y x < 0 then false else smallB a b
  | _, _ => false
theorem foldl_min_at (g : Nat → Int) : ∀ (l : List Nat) (n : Int), l.foldl (fun n i => min n (g i)) n < n → ∃ i ∈ l, g i = l.foldl (fun n i => min n (g i)) n
  | [], n, h => by simp at h
  | i :: l, n, h => by
    rw [List.foldl_cons] at h ⊢
    have hle := (foldl_min_iff g (l.foldl (fun n i => min n (g i)) (min n (g i))) l (min n (g i))).1 (Int.le_refl _)
    by_cases h2 : l.foldl (fun n i => min n (g i)) (min n (g i)) < min n (g i)
    · obtain ⟨j, hj, e⟩ := foldl_min_at g l (min n (g i)) h2
      exact ⟨j, List.mem_cons_of_mem _ hj, e⟩
    · have h3 : l.foldl (fun n i => min n (g i)) (min n (g i)) ≤ min n (g i) := (foldl_min_iff g (min n (g i)) l (min n (g i))).2 (.inl (Int.le_refl _))
      exact ⟨i, List.mem_cons_self, by omega⟩
theorem few_cons (k : Wk) (f : Nat) (watch : Int) (s : Std) : k.few (f + 1) watch s = ((List.range k.lists.length).filter (k.can watch s)).foldl (fun (n : Int) (i : Nat) => min n ((rd_L1 k.lists i).length + k.few f (watch + 1) (afterS k.people watch (rd_L1 k.lists i) s).1)) 1024 := rfl
theorem few_le (k : Wk) (f : Nat) (watch : Int) (s : Std) (i : Nat) (hi : i < k.lists.length) (hc : k.can watch s i = true) : k.few (f + 1) watch s ≤ (rd_L1 k.lists i).length + k.few f (watch + 1) (afterS k.people watch (rd_L1 k.lists i) s).1 := by
  rw [few_cons, foldl_min_iff (fun (i : Nat) => (rd_L1 k.lists i).length + k.few f (watch + 1) (afterS k.people watch (rd_L1 k.lists i) s).1)]
  exact .inr ⟨i, List.mem_filter.2 ⟨List.mem_range.2 hi, hc⟩, Int.le_refl _⟩
theorem find_first (p : Nat → Bool) (q : Nat → Bool) : ∀ (n i : Nat), ((List.range n).filter p).find? q = some i → i < n ∧ p i = true ∧ q i = true ∧ ∀ j, j < i → p j = true → q j = false
  | 0, i, h => by simp at h
  | n + 1, i, h => by
    rw [List.range_succ, List.filter_append, List.find?_append] at h
    cases hq : ((List.range n).filter p).find? q with
    | some j =>
      rw [hq] at h
      have e : j = i := by simpa using h
      subst e
      obtain ⟨h1, h2, h3, h4⟩ := find_first p q n j hq
      exact ⟨by omega, h2, h3, h4⟩
    | none =>
      rw [hq, Option.none_or] at h
      rw [List.find?_eq_none] at hq
      by_cases hp : p n = true
      · rw [List.filter_cons, if_pos hp, List.filter_nil] at h
        by_cases hqn : q n = true
        · rw [List.find?_cons, hqn] at h
          have e : n = i := by simpa using h
          subst e
          refine ⟨by omega, hp, hqn, fun j hj hpj => ?_⟩
          have := hq j (List.mem_filter.2 ⟨List.mem_range.2 hj, hpj⟩)
          simpa using this
        · rw [List.find?_cons] at h
          simp [hqn] at h
      · rw [List.filter_cons, if_neg hp] at h
        simp at h
/-- The first list by which the fewest duties are reached. -/
theorem rows_step (k : Wk) (f : Nat) (watch : Int) (s : Std) (left : Int) (hf : k.few (f + 1) watch s = left) (hl : left < 1024) : ∃ i, i < k.lists.length ∧ k.can watch s i = true ∧ k.fit f watch s left i = true ∧ (∀ j, j < i → k.can watch s j = true → k.fit f watch s left j = false) ∧
    k.rows (f + 1) watch s left = rd_L1 k.lists i :: k.rows f (watch + 1) (afterS k.people watch (rd_L1 k.lists i) s).1 (left - (rd_L1 k.lists i).length) := by
  have hat := foldl_min_at (fun i => (rd_L1 k.lists i).length + k.few f (watch + 1) (afterS k.people watch (rd_L1 k.lists i) s).1) ((List.range k.lists.length).filter (k.can watch s)) 1024 (by
    have : k.few (f + 1) watch s < 1024 := by omega
    rw [few_cons] at this
    exact this)
  obtain ⟨i0, hi0, e0⟩ := hat
  have e1 : (rd_L1 k.lists i0).length + k.few f (watch + 1) (afterS k.people watch (rd_L1 k.lists i0) s).1 = left := by
    rw [← hf, few_cons]
    exact e0
  cases hq : ((List.range k.lists.length).filter (k.can watch s)).find? (k.fit f watch s left) with
  | none =>
    rw [List.find?_eq_none] at hq
    have := hq i0 hi0
    unfold Wk.fit at this
    rw [e1] at this
    simp at this
  | some i =>
    obtain ⟨h1, h2, h3, h4⟩ := find_first _ _ _ i hq
    refine ⟨i, h1, h2, h3, h4, ?_⟩
    rw [Wk.rows, hq]
theorem rows_fine (k : Wk) : ∀ (f : Nat) (watch : Int) (s : Std) (left : Int), k.few f watch s = left → left < 1024 → (k.rows f watch s left).length = f ∧ k.fine watch s (k.rows f watch s left) ∧ ((((k.rows f watch s left).map List.length).sum : Nat) : Int) = left
  | 0, watch, s, left, hf, hl => by
    unfold Wk.few at hf
    unfold Wk.rows
    exact ⟨rfl, trivial, by simp; omega⟩
  | f + 1, watch, s, left, hf, hl => by
    obtain ⟨i, h1, h2, h3, h4, h5⟩ := rows_step k f watch s left hf hl
    unfold Wk.fit at h3
    have h3 := beq_iff_eq.1 h3
    obtain ⟨r1, r2, r3⟩ := rows_fine k f (watch + 1) (afterS k.people watch (rd_L1 k.lists i) s).1 (left - (rd_L1 k.lists i).length) (by omega) (by omega)
    rw [can_eq, Bool.and_eq_true] at h2
    rw [h5]
    refine ⟨by rw [List.length_cons, r1], ⟨⟨i, h1, rfl⟩, h2.1, h2.2, r2⟩, ?_⟩
    rw [List.map_cons, List.sum_cons]
    push_cast
    omega
/-- No fine rota with as few duties is smaller. -/
theorem rows_min (k : Wk) (hs : ∀ i j, i < j → j < k.lists.length → cmpS (rd_L1 k.lists i) (rd_L1 k.lists j) ≤ 0) : ∀ (f : Nat) (watch : Int) (s : Std) (left : Int) (r : List (List Int)), k.few f watch s = left → left < 1024 → r.length = f → k.fine watch s r → (((r.map List.length).sum : Nat) : Int) = left → smallB r (k.rows f watch s left) = false
  | 0, watch, s, left, r, hf, hl, hr, hfi, hsum => by
    rw [List.length_eq_zero_iff.1 hr]
    rfl
  | f + 1, watch, s, left, r, hf, hl, hr, hfi, hsum => by
    obtain ⟨i, h1, h2, h3, h4, h5⟩ := rows_step k f watch s left hf hl
    cases r with
    | nil => simp at hr
    | cons on t =>
      obtain ⟨⟨j, hj, hon⟩, ha, hh, ht⟩ := hfi
      subst hon
      rw [List.map_cons, List.sum_cons] at hsum
      push_cast at hsum
      have htl : t.length = f := by simpa using hr
      have hcj : k.can watch s j = true := by rw [can_eq, ha, hh]; rfl
      have hle := few_le k f watch s j hj hcj
      have hb := k.few_bd f (watch + 1) (afterS k.people watch (rd_L1 k.lists j) s).1
      have hft : k.few f (watch + 1) (afterS k.people watch (rd_L1 k.lists j) s).1 ≤ left - (rd_L1 k.lists j).length := by
        rw [few_iff k f _ _ _ (by omega) (by omega)]
        exact ⟨t, htl, ht, by omega⟩
      have hfj : k.fit f watch s left j = true := by unfold Wk.fit; rw [beq_iff_eq]; omega
      have hij : i ≤ j := by
        rcases Nat.lt_or_ge j i with hlt | hge
        · have := h4 j hlt hcj
          rw [hfj] at this; cases this
        · exact hge
      rw [h5]
      unfold smallB
      have hcmp : cmpS (rd_L1 k.lists i) (rd_L1 k.lists j) ≤ 0 := by
        by_cases e : i = j
        · rw [e, cmpS_self]; omega
        · exact hs i j (by omega) hj
      have hsw := cmpS_swap (rd_L1 k.lists i) (rd_L1 k.lists j)
      rw [if_neg (by omega)]
      by_cases hlt : cmpS (rd_L1 k.lists i) (rd_L1 k.lists j) < 0
      · rw [if_pos hlt]
      · rw [if_neg hlt]
        have e := cmpS_zero (a := rd_L1 k.lists i) (b := rd_L1 k.lists j) (by omega)
        rw [e]
        exact rows_min k hs f (watch + 1) (afterS k.people watch (rd_L1 k.lists j) s).1 (left - (rd_L1 k.lists j).length) t (by omega) (by omega) htl ht (by omega)
end Go.Proofs.YtekdacalkllipaaGreat.PR
end
section
/- The best polishing: the program's is the document's. -/
namespace Go.Proofs.YtekdacalkllipaaGreat.PR
open Go.RowKit Go.Shelf Go.Proofs.YtekdacalkllipaaGreatW.PrintWords Go.Proofs.YtekdacalkllipaaGreatW.PrintLast Go.Proofs.YtekdacalkllipaaGreatW.PrintMore
set_option linter.unusedVariables false
set_option linter.unusedSimpArgs false

def subN (n b : Nat) : List Int := subL (evs n) b
theorem subK_evs (n b : Nat) : ∀ i, i ≤ n → subK (evs n) b i = ((List.range i).filter (bitB b)).map fun j : Nat => (j : Int) := fun i hi => by
  unfold subK
  apply List.map_congr_left
  intro j hj
  have hj := List.mem_range.1 (List.mem_filter.1 hj).1
  unfold evs
  rw [List.getD_eq_getElem?_getD, List.getElem?_map, List.getElem?_range (by omega)]
  rfl
theorem subN_eq (n b : Nat) : subN n b = ((List.range n).filter (bitB b)).map fun j : Nat => (j : Int) := by
  unfold subN subL
  rw [evs_len, subK_evs n b n (Nat.le_refl _)]
theorem subN_succ (n b : Nat) : subN (n + 1) b = subN n b ++ (if bitB b n = true then [(n : Int)] else []) := by
  rw [subN_eq, subN_eq, List.range_succ, List.filter_append, List.map_append]
  congr 1
  by_cases h : bitB b n = true
  · simp [h]
  · simp [h]
theorem bitB_zero {b i j : Nat} (h : b / 2 ^ i = 0) (hj : i ≤ j) : bitB b j = false := by
  unfold bitB
  have : b / 2 ^ j = 0 := by
    rw [Nat.div_eq_zero_iff] at h ⊢
    have hp : 2 ^ i ≤ 2 ^ j := Nat.pow_le_pow_right (by omega) hj
    have := Nat.two_pow_pos i
    omega
  rw [this]; rfl
theorem subN_all (n : Nat) : subN n (2 ^ n - 1) = evs n := by
  rw [subN_eq]
  unfold evs
  congr 1
  rw [List.filter_eq_self]
  intro j hj
  have hj := List.mem_range.1 hj
  unfold bitB
  have : (2 ^ n - 1) / 2 ^ j % 2 = 1 := by
    have h1 := Nat.testBit_two_pow_sub_one n j
    rw [Nat.testBit_eq_decide_div_mod_eq] at h1
    simpa [hj] using h1
  rw [this]; rfl
end Go.Proofs.YtekdacalkllipaaGreat.PR
end
section
/- The best polishing: the program's is the document's (2). -/
namespace Go.Proofs.YtekdacalkllipaaGreat.PR
open Go.RowKit Go.Shelf Go.Proofs.YtekdacalkllipaaGreatW.PrintWords Go.Proofs.YtekdacalkllipaaGreatW.PrintLast Go.Proofs.YtekdacalkllipaaGreatW.PrintMore
set_option linter.unusedVariables false
set_option linter.unusedSimpArgs false

/-- An increasing list of numbers from f to less than n. -/
def IncF (l : List Int) (f n : Nat) : Prop := l.Pairwise (· < ·) ∧ ∀ x ∈ l, (f : Int) ≤ x ∧ x < n
theorem subN_inc (n b : Nat) : IncF (subN n b) 0 n := by
  rw [subN_eq]
  constructor
  · rw [List.pairwise_map]
    refine ((List.pairwise_lt_range (n := n)).filter _).imp (fun {a b} h => ?_)
    exact Int.ofNat_lt.2 h
  · intro x hx
    obtain ⟨j, hj, rfl⟩ := List.mem_map.1 hx
    have hj := List.mem_range.1 (List.mem_filter.1 hj).1
    omega
theorem bitB_add (n c : Nat) (hc : c < 2 ^ n) : bitB (c + 2 ^ n) n = true ∧ ∀ j, j < n → bitB (c + 2 ^ n) j = bitB c j := by
  constructor
  · unfold bitB
    have h : (c + 2 ^ n) / 2 ^ n = 1 := by
      rw [Nat.add_div_right _ (Nat.two_pow_pos n), Nat.div_eq_of_lt hc]
    rw [h]; rfl
  · intro j hj
    unfold bitB
    have h : (c + 2 ^ n) / 2 ^ j % 2 = c / 2 ^ j % 2 := by
      have e : 2 ^ n = 2 ^ j * (2 * 2 ^ (n - j - 1)) := by
        rw [← Nat.pow_succ', ← Nat.pow_add]
        congr 1
        omega
      rw [e, Nat.add_mul_div_left _ _ (Nat.two_pow_pos j), Nat.add_mul_mod_self_left]
    rw [h]
theorem inc_subN : ∀ (n : Nat) (l : List Int), IncF l 0 n → ∃ c, c < 2 ^ n ∧ subN n c = l
  | 0, l, h => by
    cases l with
    | nil => exact ⟨0, by simp, rfl⟩
    | cons x l => have := h.2 x List.mem_cons_self; omega
  | n + 1, l, h => by
    have hp := Nat.two_pow_pos n
    have h2 : 2 ^ (n + 1) = 2 ^ n + 2 ^ n := by rw [Nat.pow_succ]; omega
    by_cases hm : (n : Int) ∈ l
    · obtain ⟨l1, l2, rfl⟩ := List.append_of_mem hm
      have hl2 : l2 = [] := by
        cases l2 with
        | nil => rfl
        | cons y l2 =>
          have hpw := h.1
          rw [List.pairwise_append] at hpw
          have h1 := (List.pairwise_cons.1 hpw.2.1).1 y List.mem_cons_self
          have h3 := h.2 y (by simp)
          omega
      subst hl2
      have hpw := h.1
      rw [List.pairwise_append] at hpw
      obtain ⟨c, hc, hcl⟩ := inc_subN n l1 ⟨hpw.1, fun x hx => by
        have h1 := hpw.2.2 x hx (n : Int) (by simp)
        have h3 := h.2 x (List.mem_append_left _ hx)
        omega⟩
      obtain ⟨b1, b2⟩ := bitB_add n c hc
      refine ⟨c + 2 ^ n, by omega, ?_⟩
      rw [subN_succ, b1, if_pos rfl, ← hcl]
      congr 1
      rw [subN_eq, subN_eq]
      congr 1
      exact List.filter_congr (fun j hj => b2 j (List.mem_range.1 hj))
    · obtain ⟨c, hc, hcl⟩ := inc_subN n l ⟨h.1, fun x hx => by
        have h3 := h.2 x hx
        have : x ≠ (n : Int) := fun e => hm (e ▸ hx)
        omega⟩
      refine ⟨c, by omega, ?_⟩
      rw [subN_succ, hcl, bitB_zero (i := n) (Nat.div_eq_of_lt hc) (Nat.le_refl _)]
      simp
theorem evs_inc (n : Nat) : IncF (evs n) 0 n := by rw [← subN_all]; exact subN_inc n _
end Go.Proofs.YtekdacalkllipaaGreat.PR
end
section
/- Best and Enough: what they tell. -/
namespace Go.Proofs.YtekdacalkllipaaGreat.PR
open Go.RowKit Go.Shelf Go.Proofs.YtekdacalkllipaaGreatW.PrintWords Go.Proofs.YtekdacalkllipaaGreatW.PrintLast Go.Proofs.YtekdacalkllipaaGreatW.PrintMore
set_option linter.unusedVariables false
set_option linter.unusedSimpArgs false

theorem mem_lists_evs {n : Nat} {l : List Int} : l ∈ listsS (evs n) ↔ incB l n = true := by
  rw [mem_listsS, evs_len, incB_IncF]
  constructor
  · rintro ⟨b, _, rfl⟩
    have := subN_inc n b
    exact ⟨this.1, fun x hx => by have := this.2 x hx; exact ⟨by have := this.1; omega, this.2⟩⟩
  · rintro ⟨h1, h2⟩
    obtain ⟨c, hc, e⟩ := inc_subN n l ⟨h1, fun x hx => by have := h2 x hx; exact ⟨by have := this.1; omega, this.2⟩⟩
    exact ⟨c, hc, e⟩
theorem lists_sorted (sm : List Int) : ∀ i j, i < j → j < (listsS sm).length → cmpS (rd_L1 (listsS sm) (i : Int)) (rd_L1 (listsS sm) (j : Int)) ≤ 0 := by
  intro i j hij hj
  have h : (listsS sm).Pairwise (fun a b => cmpS a b ≤ 0) := by rw [listsS_eq]; exact sortI_sorted _
  have := (List.pairwise_iff_getElem.1 h) i j (by omega) hj hij
  rw [rdL_get, rdL_get, List.getD_eq_getElem?_getD, List.getElem?_eq_getElem (show i < (listsS sm).length by omega), List.getD_eq_getElem?_getD, List.getElem?_eq_getElem hj]
  exact this
/-- A safe rota of a post. -/
def SafeR (need : List Int) (people : List S128) (cases : List (List Int)) (r : List (List Int)) : Prop := rotaErr need people cases r = 0 ∧ rulesS people 0 r std0 = true ∧ holdsFrom need cases 0 r = true
section
variable {need : List Int} {people : List S128} {cases : List (List Int)}
theorem safe_of (hp : postErr need people cases = 0) (r : List (List Int)) : SafeR need people cases r ↔ SafeOf need people cases (listsS (evs people.length)) r := by
  unfold SafeR SafeOf
  constructor
  · rintro ⟨h1, h2, h3⟩
    obtain ⟨_, e1, e2⟩ := rotaErr_ok h1
    exact ⟨e1, fun on hon => mem_lists_evs.2 (e2 on hon), h2, h3⟩
  · rintro ⟨h1, h2, h3, h4⟩
    refine ⟨?_, h3, h4⟩
    unfold rotaErr
    rw [if_neg (by simpa using hp), if_neg]
    simp only [not_or, Decidable.not_not, Bool.not_eq_false]
    exact ⟨h1, List.all_eq_true.2 fun on hon => mem_lists_evs.1 (h2 on hon)⟩
theorem post_small (hp : postErr need people cases = 0) : need.length ≤ 5 ∧ people.length ≤ 4 ∧ cases.length ≤ 4 := by
  unfold postErr at hp
  by_cases b : 5 < need.length ∨ 4 < people.length ∨ 4 < cases.length
  · rw [if_pos b] at hp; cases hp
  · omega
theorem sum_le : ∀ (r : List (List Int)) (m : Nat), (∀ on ∈ r, on.length ≤ m) → (r.map List.length).sum ≤ r.length * m
  | [], m, _ => by simp
  | on :: r, m, h => by
    have h1 := h on List.mem_cons_self
    have h2 := sum_le r m (fun x hx => h x (List.mem_cons_of_mem _ hx))
    rw [List.map_cons, List.sum_cons, List.length_cons, Nat.succ_mul]
    omega
theorem duties_small (hp : postErr need people cases = 0) {r : List (List Int)} (h : SafeR need people cases r) : 0 ≤ dutiesS r ∧ dutiesS r ≤ 20 := by
  obtain ⟨p1, p2, _⟩ := post_small hp
  obtain ⟨_, e1, e2⟩ := rotaErr_ok h.1
  have := sum_le r 4 (fun on hon => by have := incB_len (e2 on hon); omega)
  rw [duties_sum]
  omega
/-- What Best tells of a valid post. -/
theorem best_spec (hp : postErr need people cases = 0) : (bestS need people cases = ([], 0, 10) ∧ ∀ r, ¬ SafeR need people cases r) ∨
    ∃ r, bestS need people cases = (r, dutiesS r, 0) ∧ SafeR need people cases r ∧ ∀ r', SafeR need people cases r' → dutiesS r ≤ dutiesS r' ∧ (dutiesS r' = dutiesS r → smallB r' r = false) := by
  unfold bestS
  rw [if_neg (by simpa using hp)]
  by_cases h : 1024 ≤ fewS need people cases (evs people.length)
  · left
    refine ⟨by rw [if_pos h], fun r hr => ?_⟩
    have hd := duties_small hp hr
    have := (fewS_iff need people cases (evs people.length) 20 (by omega) (by omega)).2 ⟨r, (safe_of hp r).1 hr, hd.2⟩
    omega
  · right
    rw [if_neg h]
    have hb := (workS need people cases (evs people.length)).few_bd need.length 0 std0
    have hfew : (workS need people cases (evs people.length)).few need.length 0 std0 = fewS need people cases (evs people.length) := rfl
    obtain ⟨r1, r2, r3⟩ := rows_fine (workS need people cases (evs people.length)) need.length 0 std0 _ hfew (by omega)
    have hrow : rowsS need people cases (evs people.length) = (workS need people cases (evs people.length)).rows need.length 0 std0 (fewS need people cases (evs people.length)) := rfl
    rw [← hrow] at r1 r2 r3
    have hfi := (fine_iff _ _ 0 std0).1 r2
    have hsafe : SafeR need people cases (rowsS need people cases (evs people.length)) := (safe_of hp _).2 ⟨r1, hfi.1, hfi.2.1, hfi.2.2⟩
    have hdu : dutiesS (rowsS need people cases (evs people.length)) = fewS need people cases (evs people.length) := by rw [duties_sum]; exact r3
    refine ⟨rowsS need people cases (evs people.length), by rw [hdu], hsafe, fun r' hr' => ?_⟩
    have hs' := (safe_of hp r').1 hr'
    have hd' := duties_small hp hr'
    rw [hdu]
    have hle : fewS need people cases (evs people.length) ≤ dutiesS r' := (fewS_iff need people cases (evs people.length) (dutiesS r') (by omega) (by omega)).2 ⟨r', hs', Int.le_refl _⟩
    refine ⟨hle, fun he => ?_⟩
    exact rows_min (workS need people cases (evs people.length)) (lists_sorted _) need.length 0 std0 _ r' hfew (by omega) hs'.1 ((fine_iff _ r' 0 std0).2 ⟨hs'.2.1, hs'.2.2.1, hs'.2.2.2⟩) (by rw [← duties_sum]; exact he)
/-- What Enough tells of a valid post. -/
theorem enough_spec (hp : postErr need people cases = 0) : (enoughS need people cases = ([], 10) ∧ ∀ l, incB l people.length = true → ∀ r, ¬ SafeOf need people cases (listsS l) r) ∨
    ∃ l, enoughS need people cases = (l, 0) ∧ incB l people.length = true ∧ (∃ r, SafeOf need people cases (listsS l) r) ∧ ∀ l', incB l' people.length = true → (∃ r, SafeOf need people cases (listsS l') r) → cmpS l l' ≤ 0 := by
  have key : ∀ l, incB l people.length = true → ∀ r, SafeOf need people cases (listsS l) r → fewS need people cases l < 1024 := fun l hl r hr => by
    have hsub : ∀ on ∈ listsS l, incB on people.length = true := fun on hon => by
      obtain ⟨b, _, e⟩ := mem_listsS.1 hon
      rw [incB_IncF] at hl ⊢
      have hsl : on.Sublist l := by
        rw [← e]
        unfold subL subK
        have h9 : ((List.range l.length).map fun j => l.getD j 0) = l := by
          apply List.ext_getElem
          · simp
          · intro i h1 h2; simp [List.getD_eq_getElem?_getD, h2]
        have h8 := (List.filter_sublist (p := bitB b) (l := List.range l.length)).map (fun j => l.getD j 0)
        rw [h9] at h8
        exact h8
      exact ⟨hl.1.sublist hsl, fun x hx => hl.2 x (hsl.subset hx)⟩
    obtain ⟨p1, p2, _⟩ := post_small hp
    have := sum_le r 4 (fun on hon => by have := incB_len (hsub on (hr.2.1 on hon)); omega)
    have hd : dutiesS r ≤ 20 := by rw [duties_sum, hr.1] at *; omega
    have h3 := (fewS_iff need people cases l 20 (by omega) (by omega)).2 ⟨r, hr, hd⟩
    omega
  have key2 : ∀ l, fewS need people cases l < 1024 → ∃ r, SafeOf need people cases (listsS l) r := fun l hl => by
    have hb := (workS need people cases l).few_bd need.length 0 std0
    obtain ⟨r, hr, _⟩ := (fewS_iff need people cases l (fewS need people cases l) hl hb.1).1 (Int.le_refl _)
    exact ⟨r, hr⟩
  unfold enoughS
  rw [if_neg (by simpa using hp)]
  cases hf : (listsS (evs people.length)).find? (fun l => decide (fewS need people cases l < 1024)) with
  | none =>
    left
    refine ⟨rfl, fun l hl r hr => ?_⟩
    rw [List.find?_eq_none] at hf
    have := hf l (mem_lists_evs.2 hl)
    simp only [decide_eq_true_eq] at this
    exact this (key l hl r hr)
  | some l =>
    right
    have hl := List.find?_some hf
    have hm := List.mem_of_find?_eq_some hf
    simp only [decide_eq_true_eq] at hl
    refine ⟨l, rfl, mem_lists_evs.1 hm, key2 l hl, fun l' hl' ⟨r, hr⟩ => ?_⟩
    have hlt' := key l' hl' r hr
    have hm' := mem_lists_evs.2 hl'
    rw [List.find?_eq_some_iff_append] at hf
    obtain ⟨_, xs, bs, e, hno⟩ := hf
    have hsort : (listsS (evs people.length)).Pairwise (fun a b => cmpS a b ≤ 0) := by rw [listsS_eq]; exact sortI_sorted _
    rw [e] at hm' hsort
    rcases List.mem_append.1 hm' with h | h
    · have := hno l' h
      simp at this
      omega
    · rcases List.mem_cons.1 h with rfl | h
      · rw [cmpS_self]; omega
      · rw [List.pairwise_append] at hsort
        exact (List.pairwise_cons.1 hsort.2.1).1 l' h
end
end Go.Proofs.YtekdacalkllipaaGreat.PR
end
section
/- The laws' helpers as calls, in the words of what they come to. -/
namespace Go.Proofs.YtekdacalkllipaaGreat.PR
open Go.RowKit Go.Shelf Go.Proofs.YtekdacalkllipaaGreatW.PrintWords Go.Proofs.YtekdacalkllipaaGreatW.PrintLast Go.Proofs.YtekdacalkllipaaGreatW.PrintMore
set_option linter.unusedVariables false

section
variable {A0 A1 A2 A3 : Option Addr} {c0 c1 c2 c3 : Nat} {w : World} {l0 : List Int} {l1 : List S119} {l2 l3 : List (List Int)}
theorem thin_c (h0 : SL (Kd.int .i64) A0 c0 w l0) (h1 : SL k119 A1 c1 w l1) (h2 : SL KR A2 c2 w l2) {b : Bool} (hb : Ev (fun k => glisterlaw10_Thin.f k l0 l1 l2) b) :
    Calls Tryz.prog 15 #[.agg #[.slice A0 l0.length c0, .slice A1 l1.length c1, .slice A2 l2.length c2]] w fun e w' => e = .returned (.bool b) ∧ Below w.heap.size w w' := by
  obtain ⟨k, hk⟩ := hb.one
  exact glisterlaw10_Thin.calls k A0 c0 l0 A1 c1 l1 A2 c2 l2 b w h0.2 h0.1 h1.2 h1.1 h2.2 h2.1 hk
theorem post_c (h0 : SL (Kd.int .i64) A0 c0 w l0) (h1 : SL k119 A1 c1 w l1) (h2 : SL KR A2 c2 w l2) {ps : List S128} (hp : Ev (fun k => glisterlaw10_Post.f k l0 l1 l2) (l0, ps, l2)) :
    Calls Tryz.prog 19 #[.agg #[.slice A0 l0.length c0, .slice A1 l1.length c1, .slice A2 l2.length c2]] w fun e w' => ∃ B0 d0 B1 d1 B2 d2, e = .returned (.agg #[.slice B0 l0.length d0, .slice B1 ps.length d1, .slice B2 l2.length d2]) ∧ SL (Kd.int .i64) B0 d0 w' l0 ∧ SL k128 B1 d1 w' ps ∧ SL KR B2 d2 w' l2 ∧ Below w.heap.size w w' := by
  obtain ⟨k, hk⟩ := hp.one
  refine (glisterlaw10_Post.calls k A0 c0 l0 A1 c1 l1 A2 c2 l2 l0 ps l2 w h0.2 h0.1 h1.2 h1.1 h2.2 h2.1 hk).mono ?_
  rintro e w' ⟨v0, v1, v2, rfl, g0, g1, g2, hb⟩
  obtain ⟨B0, d0, rfl, x0, y0⟩ := Kd.R_reads g0
  obtain ⟨B1, d1, rfl, x1, y1⟩ := Kd.S_reads g1
  obtain ⟨B2, d2, rfl, x2, y2⟩ := Kd.S_reads g2
  exact ⟨B0, d0, B1, d1, B2, d2, rfl, ⟨x0, y0⟩, ⟨x1, y1⟩, ⟨x2, y2⟩, hb⟩
end
section
variable {A0 A1 A2 A3 : Option Addr} {c0 c1 c2 c3 : Nat} {w : World} {l0 : List Int} {l1 : List S128} {l2 l3 : List (List Int)}
theorem best_c (h0 : SL (Kd.int .i64) A0 c0 w l0) (h1 : SL k128 A1 c1 w l1) (h2 : SL KR A2 c2 w l2) :
    Calls Tryz.prog 42 #[.agg #[.slice A0 l0.length c0, .slice A1 l1.length c1, .slice A2 l2.length c2]] w fun e w' => ∃ A c, e = .returned (.tuple #[.slice A (bestS l0 l1 l2).1.length c, .int .i64 (bestS l0 l1 l2).2.1, .int .i64 (bestS l0 l1 l2).2.2]) ∧ SL KR A c w' (bestS l0 l1 l2).1 ∧ Below w.heap.size w w' := by
  refine (Best_any A0 c0 l0 A1 c1 l1 A2 c2 l2 w h0.2 h0.1 h1.2 h1.1 h2.2 h2.1).mono ?_
  rintro e w' ⟨v, rfl, hS, hb⟩
  obtain ⟨A, c, rfl, d0, e0⟩ := Kd.S_reads hS
  exact ⟨A, c, rfl, ⟨d0, e0⟩, hb⟩
theorem enough_c (h0 : SL (Kd.int .i64) A0 c0 w l0) (h1 : SL k128 A1 c1 w l1) (h2 : SL KR A2 c2 w l2) :
    Calls Tryz.prog 28 #[.agg #[.slice A0 l0.length c0, .slice A1 l1.length c1, .slice A2 l2.length c2]] w fun e w' => ∃ A c, e = .returned (.tuple #[.slice A (enoughS l0 l1 l2).1.length c, .int .i64 (enoughS l0 l1 l2).2]) ∧ SL (Kd.int .i64) A c w' (enoughS l0 l1 l2).1 ∧ Below w.heap.size w w' := by
  refine (Enough_any A0 c0 l0 A1 c1 l1 A2 c2 l2 w h0.2 h0.1 h1.2 h1.1 h2.2 h2.1).mono ?_
  rintro e w' ⟨v, rfl, hS, hb⟩
  obtain ⟨A, c, rfl, d0, e0⟩ := Kd.R_reads hS
  exact ⟨A, c, rfl, ⟨d0, e0⟩, hb⟩
end
end Go.Proofs.YtekdacalkllipaaGreat.PR
end
section
/- The document's words of a post's validity, by hand: fault, planned, ready, small. -/
namespace Go.Proofs.YtekdacalkllipaaGreat.PR
open Go.RowKit Go.Shelf Go.Proofs.YtekdacalkllipaaGreatW.PrintWords Go.Proofs.YtekdacalkllipaaGreatW.PrintLast Go.Proofs.YtekdacalkllipaaGreatW.PrintMore
set_option linter.unusedVariables false
set_option linter.unusedSimpArgs false
attribute [local go_sem] Oper.semAt_some
attribute [local simp] wide_fn

set_option maxRecDepth 100000 in
set_option maxHeartbeats 4000000 in
theorem fault_d {A0 A1 A2 : Option Addr} {c0 c1 c2 : Nat} {w : World} {l0 : List Int} {l1 : List S119} {l2 : List (List Int)} (h0 : SL (Kd.int .i64) A0 c0 w l0) (h1 : SL k119 A1 c1 w l1) (h2 : SL KR A2 c2 w l2) :
    Calls Tryz.prog 23 #[.agg #[.slice A0 l0.length c0, .slice A1 l1.length c1, .slice A2 l2.length c2]] w fun e w' => e = .returned (.int .i64 (postErr l0 (l1.map toP) l2)) ∧ Below w.heap.size w w' := by
  obtain ⟨er, her⟩ : ∃ er, er = postErr l0 (l1.map toP) l2 := ⟨_, rfl⟩
  rw [← her]
  have HER := Aside0.mk her
  clear her
  obtain ⟨P, hP⟩ : ∃ P, P = w.heap.size := ⟨_, rfl⟩
  obtain ⟨w0, hw0⟩ : ∃ w0, w0 = w.alloc (.cells #[.slice A0 l0.length c0, .slice A1 l1.length c1, .slice A2 l2.length c2] 26) := ⟨_, rfl⟩
  have hb : Below w.heap.size w w0 := by rw [hw0]; exact below_alloc (Below.refl _ _) _
  have HK0 : Aside0 (w0.heap[P]? = some (.cells #[.slice A0 l0.length c0, .slice A1 l1.length c1, .slice A2 l2.length c2] 26 (0, 0))) := ⟨by rw [hw0, hP]; exact blk_new w _⟩
  have HX0 := Aside0.mk (h0.below hb)
  have HY0 := Aside0.mk (h1.below hb)
  have HZ0 := Aside0.mk (h2.below hb)
  have HB0 := Aside0.mk hb
  clear h0 h1 h2 hb
  have hu26 := Tryz.underlying26
  have q0 : w0.cell? ⟨P, 0, none⟩ = some (.slice A0 l0.length c0) := (blk_cell HK0.out 0).trans rfl
  have q1 : w0.cell? ⟨P, 1, none⟩ = some (.slice A1 l1.length c1) := (blk_cell HK0.out 1).trans rfl
  have q2 : w0.cell? ⟨P, 2, none⟩ = some (.slice A2 l2.length c2) := (blk_cell HK0.out 2).trans rfl
  rw [hw0] at q0 q1 q2
  rw [hP] at q0 q1 q2
  refine (callsIn_wide (n := 40)).1 ?_
  refine callsIn_of_wp Tryz.func23 rfl trivial ?_ rfl
  simp only [Tryz.ntmps23, List.size_toArray, List.length_cons, List.length_nil, Nat.reduceAdd, Nat.reduceSub, Array.replicate_succ, Array.replicate_zero, List.push_toArray, List.append_toArray, List.nil_append, List.cons_append]
  have hc := fault_any HX0.out HY0.out HZ0.out
  rw [← HER.out] at hc
  have HC := Aside0.mk hc
  clear hc
  gi_wp2_with fail
  rw [← hw0, ← hP]
  clear hP hw0 q0 q1 q2
  refine (callsIn_wide.2 HC.out).mono ?_
  rintro e w1 ⟨rfl, hb⟩
  have HB1 := Aside0.mk (HB0.out.trans (hb.mono HB0.out.size))
  have HK1 := Aside0.mk (blk_below HK0.out hb)
  have HX1 := Aside0.mk (HX0.out.below hb)
  have HY1 := Aside0.mk (HY0.out.below hb)
  have HZ1 := Aside0.mk (HZ0.out.below hb)
  gi_wp2
  go_ret
  exact ⟨rfl, HB1.out⟩
set_option maxRecDepth 100000 in
set_option maxHeartbeats 4000000 in
theorem ready_d {A0 A1 A2 : Option Addr} {c0 c1 c2 : Nat} {w : World} {l0 : List Int} {l1 : List S119} {l2 : List (List Int)} (h0 : SL (Kd.int .i64) A0 c0 w l0) (h1 : SL k119 A1 c1 w l1) (h2 : SL KR A2 c2 w l2) {tb : Bool} (ht : Ev (fun k => glisterlaw10_Thin.f k l0 l1 l2) tb) :
    Calls Tryz.prog 53 #[.agg #[.slice A0 l0.length c0, .slice A1 l1.length c1, .slice A2 l2.length c2]] w fun e w' => e = .returned (.bool (tb && postErr l0 (l1.map toP) l2 == 0)) ∧ Below w.heap.size w w' := by
  obtain ⟨er, her⟩ : ∃ er, er = postErr l0 (l1.map toP) l2 := ⟨_, rfl⟩
  obtain ⟨rb, hrb⟩ : ∃ rb, rb = (tb && postErr l0 (l1.map toP) l2 == 0) := ⟨_, rfl⟩
  rw [← hrb]
  have HER := Aside0.mk (And.intro her hrb)
  have HT := Aside0.mk ht
  clear her hrb ht
  obtain ⟨P, hP⟩ : ∃ P, P = w.heap.size := ⟨_, rfl⟩
  obtain ⟨w0, hw0⟩ : ∃ w0, w0 = w.alloc (.cells #[.slice A0 l0.length c0, .slice A1 l1.length c1, .slice A2 l2.length c2] 26) := ⟨_, rfl⟩
  have hb : Below w.heap.size w w0 := by rw [hw0]; exact below_alloc (Below.refl _ _) _
  have HK0 : Aside0 (w0.heap[P]? = some (.cells #[.slice A0 l0.length c0, .slice A1 l1.length c1, .slice A2 l2.length c2] 26 (0, 0))) := ⟨by rw [hw0, hP]; exact blk_new w _⟩
  have HX0 := Aside0.mk (h0.below hb)
  have HY0 := Aside0.mk (h1.below hb)
  have HZ0 := Aside0.mk (h2.below hb)
  have HB0 := Aside0.mk hb
  clear h0 h1 h2 hb
  have hu26 := Tryz.underlying26
  have q0 : w0.cell? ⟨P, 0, none⟩ = some (.slice A0 l0.length c0) := (blk_cell HK0.out 0).trans rfl
  have q1 : w0.cell? ⟨P, 1, none⟩ = some (.slice A1 l1.length c1) := (blk_cell HK0.out 1).trans rfl
  have q2 : w0.cell? ⟨P, 2, none⟩ = some (.slice A2 l2.length c2) := (blk_cell HK0.out 2).trans rfl
  rw [hw0] at q0 q1 q2
  rw [hP] at q0 q1 q2
  refine (callsIn_wide (n := 40)).1 ?_
  refine callsIn_of_wp Tryz.func53 rfl trivial ?_ rfl
  simp only [Tryz.ntmps53, List.size_toArray, List.length_cons, List.length_nil, Nat.reduceAdd, Nat.reduceSub, Array.replicate_succ, Array.replicate_zero, List.push_toArray, List.append_toArray, List.nil_append, List.cons_append]
  have HC := Aside0.mk (thin_c HX0.out HY0.out HZ0.out HT.out)
  gi_wp2_with fail
  rw [← hw0, ← hP]
  clear hP hw0 q0 q1 q2
  refine (callsIn_wide.2 HC.out).mono ?_
  rintro e w1 ⟨rfl, hb⟩
  have HB1 := Aside0.mk (HB0.out.trans (hb.mono HB0.out.size))
  have HK1 := Aside0.mk (blk_below HK0.out hb)
  have HX1 := Aside0.mk (HX0.out.below hb)
  have HY1 := Aside0.mk (HY0.out.below hb)
  have HZ1 := Aside0.mk (HZ0.out.below hb)
  clear hb HC HB0 HK0 HX0 HY0 HZ0 HT
  cases tb with
  | false =>
    have e3 : rb = false := HER.out.2
    subst e3
    gi_wp2
    go_ret
    exact ⟨rfl, HB1.out⟩
  | true =>
    have hc := fault_d HX1.out HY1.out HZ1.out
    rw [← HER.out.1] at hc
    have HC := Aside0.mk hc
    clear hc
    have q0 : w1.cell? ⟨P, 0, none⟩ = some (.slice A0 l0.length c0) := (blk_cell HK1.out 0).trans rfl
    have q1 : w1.cell? ⟨P, 1, none⟩ = some (.slice A1 l1.length c1) := (blk_cell HK1.out 1).trans rfl
    have q2 : w1.cell? ⟨P, 2, none⟩ = some (.slice A2 l2.length c2) := (blk_cell HK1.out 2).trans rfl
    gi_wp2_with fail
    refine (callsIn_wide.2 HC.out).mono ?_
    rintro e w2 ⟨rfl, hb⟩
    have HB2 := Aside0.mk (HB1.out.trans (hb.mono HB1.out.size))
    have HK2 := Aside0.mk (blk_below HK1.out hb)
    clear hb HC q0 q1 q2
    have e3 : rb = (er == 0) := by rw [HER.out.2, ← HER.out.1, Bool.true_and]
    subst e3
    gi_wp2
    go_ret
    exact ⟨rfl, HB2.out⟩
/-- Whether a post is ready: told ahead, for whatever world it lies in. -/
theorem ready_b (l0 : List Int) (l1 : List S119) (l2 : List (List Int)) : ∃ b : Bool, Aside0 ((∀ ⦃A0 A1 A2 : Option Addr⦄ ⦃c0 c1 c2 : Nat⦄ ⦃w : World⦄, SL (Kd.int .i64) A0 c0 w l0 → SL k119 A1 c1 w l1 → SL KR A2 c2 w l2 →
    Calls Tryz.prog 53 #[.agg #[.slice A0 l0.length c0, .slice A1 l1.length c1, .slice A2 l2.length c2]] w fun e w' => e = .returned (.bool b) ∧ Below w.heap.size w w') ∧ (b = true → ThinP l0 l1 l2 ∧ postErr l0 (l1.map toP) l2 = 0)) := by
  obtain ⟨tb, h1, h2⟩ := thin_ev l0 l1 l2
  refine ⟨tb && postErr l0 (l1.map toP) l2 == 0, ⟨fun _ _ _ _ _ _ _ h0 h1' h2' => ready_d h0 h1' h2' h1, fun h => ?_⟩⟩
  rw [Bool.and_eq_true] at h
  exact ⟨h2 h.1, beq_iff_eq.1 h.2⟩
end Go.Proofs.YtekdacalkllipaaGreat.PR
end
section
/- Whether a post is harder than another one, walked. -/
namespace Go.Proofs.YtekdacalkllipaaGreat.PR
open Go.RowKit Go.Shelf Go.Proofs.YtekdacalkllipaaGreatW.PrintWords Go.Proofs.YtekdacalkllipaaGreatW.PrintLast Go.Proofs.YtekdacalkllipaaGreatW.PrintMore
set_option linter.unusedVariables false
set_option linter.unusedSimpArgs false
attribute [local go_sem] Oper.semAt_some
attribute [local simp] wide_fn

/-- The best rota has no fewer duties, and the smallest set is not shorter, or there is none. -/
def Harder (x0 : List Int) (x1 : List S128) (x2 : List (List Int)) (l0 : List Int) (l1 : List S128) (l2 : List (List Int)) : Prop :=
  (bestS l0 l1 l2).2.2 = (enoughS l0 l1 l2).2 ∧ (bestS x0 x1 x2).2.2 = (enoughS x0 x1 x2).2 ∧
  (((bestS x0 x1 x2).2.2 = 10 ∧ ((bestS l0 l1 l2).2.2 = 10 ∨ (bestS l0 l1 l2).2.2 = 0)) ∨ ((bestS x0 x1 x2).2.2 = 0 ∧ (bestS l0 l1 l2).2.2 = 0 ∧ (bestS l0 l1 l2).2.1 ≤ (bestS x0 x1 x2).2.1 ∧ (enoughS l0 l1 l2).1.length ≤ (enoughS x0 x1 x2).1.length))
set_option maxRecDepth 100000 in
set_option maxHeartbeats 4000000 in
theorem harder_d {A0 A1 A2 A3 A4 A5 : Option Addr} {c0 c1 c2 c3 c4 c5 : Nat} {w : World} {x0 l0 : List Int} {x1 l1 : List S119} {x2 l2 : List (List Int)} (h0 : SL (Kd.int .i64) A0 c0 w x0) (h1 : SL k119 A1 c1 w x1) (h2 : SL KR A2 c2 w x2) (h3 : SL (Kd.int .i64) A3 c3 w l0) (h4 : SL k119 A4 c4 w l1) (h5 : SL KR A5 c5 w l2)
    {xs ps : List S128} (hx : Ev (fun k => glisterlaw10_Post.f k x0 x1 x2) (x0, xs, x2)) (hp : Ev (fun k => glisterlaw10_Post.f k l0 l1 l2) (l0, ps, l2)) (hh : Harder x0 xs x2 l0 ps l2) :
    Calls Tryz.prog 55 #[.agg #[.slice A0 x0.length c0, .slice A1 x1.length c1, .slice A2 x2.length c2], .agg #[.slice A3 l0.length c3, .slice A4 l1.length c4, .slice A5 l2.length c5]] w fun e w' => e = .returned (.bool true) ∧ Below w.heap.size w w' := by
  obtain ⟨P, hP⟩ : ∃ P, P = w.heap.size := ⟨_, rfl⟩
  obtain ⟨Q, hQ⟩ : ∃ Q, Q = P + 1 := ⟨_, rfl⟩
  obtain ⟨w0, hw0⟩ : ∃ w0, w0 = (w.alloc (.cells #[.slice A0 x0.length c0, .slice A1 x1.length c1, .slice A2 x2.length c2] 26)).alloc (.cells #[.slice A3 l0.length c3, .slice A4 l1.length c4, .slice A5 l2.length c5] 26) := ⟨_, rfl⟩
  have hb : Below w.heap.size w w0 := by rw [hw0]; exact below_alloc (below_alloc (Below.refl _ _) _) _
  have HK0 : Aside0 (w0.heap[P]? = some (.cells #[.slice A0 x0.length c0, .slice A1 x1.length c1, .slice A2 x2.length c2] 26 (0, 0))) := ⟨by rw [hw0, hP]; exact blk_alloc (blk_new w _) _⟩
  have HL0 : Aside0 (w0.heap[Q]? = some (.cells #[.slice A3 l0.length c3, .slice A4 l1.length c4, .slice A5 l2.length c5] 26 (0, 0))) := ⟨by rw [hw0, hQ, hP]; have := blk_new (w.alloc (.cells #[.slice A0 x0.length c0, .slice A1 x1.length c1, .slice A2 x2.length c2] 26)) (.cells #[.slice A3 l0.length c3, .slice A4 l1.length c4, .slice A5 l2.length c5] 26); rwa [show (w.alloc (.cells #[.slice A0 x0.length c0, .slice A1 x1.length c1, .slice A2 x2.length c2] 26)).heap.size = w.heap.size + 1 from Array.size_push ..] at this⟩
  have HX0 := Aside0.mk (h0.below hb)
  have HY0 := Aside0.mk (h1.below hb)
  have HZ0 := Aside0.mk (h2.below hb)
  have HR0 := Aside0.mk (h3.below hb)
  have HS0 := Aside0.mk (h4.below hb)
  have HT0 := Aside0.mk (h5.below hb)
  have HB0 := Aside0.mk hb
  have HPX := Aside0.mk hx
  have HPO := Aside0.mk hp
  obtain ⟨pl, hpl⟩ : ∃ pl, pl = (bestS l0 ps l2).1 := ⟨_, rfl⟩
  obtain ⟨pd, hpd⟩ : ∃ pd, pd = (bestS l0 ps l2).2.1 := ⟨_, rfl⟩
  obtain ⟨pe, hpe⟩ : ∃ pe, pe = (bestS l0 ps l2).2.2 := ⟨_, rfl⟩
  obtain ⟨ql, hql⟩ : ∃ ql, ql = (enoughS l0 ps l2).1 := ⟨_, rfl⟩
  obtain ⟨qe, hqe⟩ : ∃ qe, qe = (enoughS l0 ps l2).2 := ⟨_, rfl⟩
  obtain ⟨xl, hxl⟩ : ∃ xl, xl = (bestS x0 xs x2).1 := ⟨_, rfl⟩
  obtain ⟨xd, hxd⟩ : ∃ xd, xd = (bestS x0 xs x2).2.1 := ⟨_, rfl⟩
  obtain ⟨xe, hxe⟩ : ∃ xe, xe = (bestS x0 xs x2).2.2 := ⟨_, rfl⟩
  obtain ⟨yl, hyl⟩ : ∃ yl, yl = (enoughS x0 xs x2).1 := ⟨_, rfl⟩
  obtain ⟨ye, hye⟩ : ∃ ye, ye = (enoughS x0 xs x2).2 := ⟨_, rfl⟩
  obtain ⟨pn, hpn⟩ : ∃ pn, pn = pl.length := ⟨_, rfl⟩
  obtain ⟨qn, hqn⟩ : ∃ qn, qn = ql.length := ⟨_, rfl⟩
  obtain ⟨xn, hxn⟩ : ∃ xn, xn = xl.length := ⟨_, rfl⟩
  obtain ⟨yn, hyn⟩ : ∃ yn, yn = yl.length := ⟨_, rfl⟩
  unfold Harder at hh
  rw [← hpd, ← hpe, ← hql, ← hqe, ← hxd, ← hxe, ← hyl, ← hye, ← hqn, ← hyn] at hh
  have HPB := Aside0.mk (And.intro hpl (And.intro hpd (And.intro hpe hpn)))
  have HPE := Aside0.mk (And.intro hql (And.intro hqe hqn))
  have HXB := Aside0.mk (And.intro hxl (And.intro hxd (And.intro hxe hxn)))
  have HXE := Aside0.mk (And.intro hyl (And.intro hye hyn))
  have HH := Aside0.mk hh
  clear h0 h1 h2 h3 h4 h5 hb hx hp hh hpl hpd hpe hql hqe hxl hxd hxe hyl hye hpn hqn hxn hyn
  go_enter Tryz.func55, Tryz.ntmps55
  have hu26 := Tryz.underlying26
  have qHL0 : w0.cell? ⟨Q, 0, none⟩ = some (.slice A3 l0.length c3) := (blk_cell HL0.out 0).trans rfl
  have qHL1 : w0.cell? ⟨Q, 1, none⟩ = some (.slice A4 l1.length c4) := (blk_cell HL0.out 1).trans rfl
  have qHL2 : w0.cell? ⟨Q, 2, none⟩ = some (.slice A5 l2.length c5) := (blk_cell HL0.out 2).trans rfl
  rw [hw0] at qHL0 qHL1 qHL2
  rw [hQ, hP] at qHL0 qHL1 qHL2
  have hc := Aside0.mk (post_c HR0.out HS0.out HT0.out HPO.out)
  go_wp2_with fail
  rw [← hw0, ← hP, ← hQ]
  have HPQ := Aside0.mk (And.intro hP hQ)
  clear hP hQ hw0
  refine hc.out.mono ?_
  rintro e w1 ⟨B0, d0, B1, d1, B2, d2, rfl, g0, g1, g2, hb⟩
  clear hc qHL0 qHL1 qHL2
  have HB1 := Aside0.mk (HB0.out.trans (hb.mono HB0.out.size))
  have HK1 := Aside0.mk (blk_below HK0.out hb)
  have HL1 := Aside0.mk (blk_below HL0.out hb)
  have HX1 := Aside0.mk (HX0.out.below hb)
  have HY1 := Aside0.mk (HY0.out.below hb)
  have HZ1 := Aside0.mk (HZ0.out.below hb)
  have HR1 := Aside0.mk (HR0.out.below hb)
  have HS1 := Aside0.mk (HS0.out.below hb)
  have HT1 := Aside0.mk (HT0.out.below hb)
  clear hb HB0 HK0 HL0 HX0 HY0 HZ0 HR0 HS0 HT0
  have HU1 := Aside0.mk g0
  clear g0
  have HV1 := Aside0.mk g1
  clear g1
  have HW1 := Aside0.mk g2
  clear g2
  have hcb := best_c HU1.out HV1.out HW1.out
  rw [← HPB.out.1, ← HPB.out.2.1, ← HPB.out.2.2.1, ← HPB.out.2.2.2] at hcb
  have HCB := Aside0.mk hcb
  clear hcb
  have hc := Aside0.mk (HCB.out)
  go_wp2_with fail
  refine hc.out.mono ?_
  rintro e w2 ⟨A6, c6, rfl, gb, hb⟩
  clear hc
  have HB2 := Aside0.mk (HB1.out.trans (hb.mono HB1.out.size))
  have HK2 := Aside0.mk (blk_below HK1.out hb)
  have HL2 := Aside0.mk (blk_below HL1.out hb)
  have HX2 := Aside0.mk (HX1.out.below hb)
  have HY2 := Aside0.mk (HY1.out.below hb)
  have HZ2 := Aside0.mk (HZ1.out.below hb)
  have HR2 := Aside0.mk (HR1.out.below hb)
  have HS2 := Aside0.mk (HS1.out.below hb)
  have HT2 := Aside0.mk (HT1.out.below hb)
  have HU2 := Aside0.mk (HU1.out.below hb)
  have HV2 := Aside0.mk (HV1.out.below hb)
  have HW2 := Aside0.mk (HW1.out.below hb)
  clear hb HB1 HK1 HL1 HX1 HY1 HZ1 HR1 HS1 HT1 HU1 HV1 HW1
  clear HCB
  clear gb
  clear HU2 HV2 HW2
  have qHK0 : w2.cell? ⟨P, 0, none⟩ = some (.slice A0 x0.length c0) := (blk_cell HK2.out 0).trans rfl
  have qHK1 : w2.cell? ⟨P, 1, none⟩ = some (.slice A1 x1.length c1) := (blk_cell HK2.out 1).trans rfl
  have qHK2 : w2.cell? ⟨P, 2, none⟩ = some (.slice A2 x2.length c2) := (blk_cell HK2.out 2).trans rfl
  have hc := Aside0.mk (post_c HX2.out HY2.out HZ2.out HPX.out)
  go_wp2_with fail
  refine hc.out.mono ?_
  rintro e w3 ⟨B0, d0, B1, d1, B2, d2, rfl, g0, g1, g2, hb⟩
  clear hc qHK0 qHK1 qHK2
  have HB3 := Aside0.mk (HB2.out.trans (hb.mono HB2.out.size))
  have HK3 := Aside0.mk (blk_below HK2.out hb)
  have HL3 := Aside0.mk (blk_below HL2.out hb)
  have HX3 := Aside0.mk (HX2.out.below hb)
  have HY3 := Aside0.mk (HY2.out.below hb)
  have HZ3 := Aside0.mk (HZ2.out.below hb)
  have HR3 := Aside0.mk (HR2.out.below hb)
  have HS3 := Aside0.mk (HS2.out.below hb)
  have HT3 := Aside0.mk (HT2.out.below hb)
  clear hb HB2 HK2 HL2 HX2 HY2 HZ2 HR2 HS2 HT2
  have HU3 := Aside0.mk g0
  clear g0
  have HV3 := Aside0.mk g1
  clear g1
  have HW3 := Aside0.mk g2
  clear g2
  have hcb := best_c HU3.out HV3.out HW3.out
  rw [← HXB.out.1, ← HXB.out.2.1, ← HXB.out.2.2.1, ← HXB.out.2.2.2] at hcb
  have HCB := Aside0.mk hcb
  clear hcb
  have hc := Aside0.mk (HCB.out)
  go_wp2_with fail
  refine hc.out.mono ?_
  rintro e w4 ⟨A7, c7, rfl, gb, hb⟩
  clear hc
  have HB4 := Aside0.mk (HB3.out.trans (hb.mono HB3.out.size))
  have HK4 := Aside0.mk (blk_below HK3.out hb)
  have HL4 := Aside0.mk (blk_below HL3.out hb)
  have HX4 := Aside0.mk (HX3.out.below hb)
  have HY4 := Aside0.mk (HY3.out.below hb)
  have HZ4 := Aside0.mk (HZ3.out.below hb)
  have HR4 := Aside0.mk (HR3.out.below hb)
  have HS4 := Aside0.mk (HS3.out.below hb)
  have HT4 := Aside0.mk (HT3.out.below hb)
  have HU4 := Aside0.mk (HU3.out.below hb)
  have HV4 := Aside0.mk (HV3.out.below hb)
  have HW4 := Aside0.mk (HW3.out.below hb)
  clear hb HB3 HK3 HL3 HX3 HY3 HZ3 HR3 HS3 HT3 HU3 HV3 HW3
  clear HCB
  clear gb
  clear HU4 HV4 HW4
  have qHL0 : w4.cell? ⟨Q, 0, none⟩ = some (.slice A3 l0.length c3) := (blk_cell HL4.out 0).trans rfl
  have qHL1 : w4.cell? ⟨Q, 1, none⟩ = some (.slice A4 l1.length c4) := (blk_cell HL4.out 1).trans rfl
  have qHL2 : w4.cell? ⟨Q, 2, none⟩ = some (.slice A5 l2.length c5) := (blk_cell HL4.out 2).trans rfl
  have hc := Aside0.mk (post_c HR4.out HS4.out HT4.out HPO.out)
  go_wp2_with fail
  refine hc.out.mono ?_
  rintro e w5 ⟨B0, d0, B1, d1, B2, d2, rfl, g0, g1, g2, hb⟩
  clear hc qHL0 qHL1 qHL2
  have HB5 := Aside0.mk (HB4.out.trans (hb.mono HB4.out.size))
  have HK5 := Aside0.mk (blk_below HK4.out hb)
  have HL5 := Aside0.mk (blk_below HL4.out hb)
  have HX5 := Aside0.mk (HX4.out.below hb)
  have HY5 := Aside0.mk (HY4.out.below hb)
  have HZ5 := Aside0.mk (HZ4.out.below hb)
  have HR5 := Aside0.mk (HR4.out.below hb)
  have HS5 := Aside0.mk (HS4.out.below hb)
  have HT5 := Aside0.mk (HT4.out.below hb)
  clear hb HB4 HK4 HL4 HX4 HY4 HZ4 HR4 HS4 HT4
  have HU5 := Aside0.mk g0
  clear g0
  have HV5 := Aside0.mk g1
  clear g1
  have HW5 := Aside0.mk g2
  clear g2
  have hcb := enough_c HU5.out HV5.out HW5.out
  rw [← HPE.out.1, ← HPE.out.2.1, ← HPE.out.2.2] at hcb
  have HCB := Aside0.mk hcb
  clear hcb
  have hc := Aside0.mk (HCB.out)
  go_wp2_with fail
  refine hc.out.mono ?_
  rintro e w6 ⟨A8, c8, rfl, gb, hb⟩
  clear hc
  have HB6 := Aside0.mk (HB5.out.trans (hb.mono HB5.out.size))
  have HK6 := Aside0.mk (blk_below HK5.out hb)
  have HL6 := Aside0.mk (blk_below HL5.out hb)
  have HX6 := Aside0.mk (HX5.out.below hb)
  have HY6 := Aside0.mk (HY5.out.below hb)
  have HZ6 := Aside0.mk (HZ5.out.below hb)
  have HR6 := Aside0.mk (HR5.out.below hb)
  have HS6 := Aside0.mk (HS5.out.below hb)
  have HT6 := Aside0.mk (HT5.out.below hb)
  have HU6 := Aside0.mk (HU5.out.below hb)
  have HV6 := Aside0.mk (HV5.out.below hb)
  have HW6 := Aside0.mk (HW5.out.below hb)
  clear hb HB5 HK5 HL5 HX5 HY5 HZ5 HR5 HS5 HT5 HU5 HV5 HW5
  clear HCB
  clear gb
  clear HU6 HV6 HW6
  have qHK0 : w6.cell? ⟨P, 0, none⟩ = some (.slice A0 x0.length c0) := (blk_cell HK6.out 0).trans rfl
  have qHK1 : w6.cell? ⟨P, 1, none⟩ = some (.slice A1 x1.length c1) := (blk_cell HK6.out 1).trans rfl
  have qHK2 : w6.cell? ⟨P, 2, none⟩ = some (.slice A2 x2.length c2) := (blk_cell HK6.out 2).trans rfl
  have hc := Aside0.mk (post_c HX6.out HY6.out HZ6.out HPX.out)
  go_wp2_with fail
  refine hc.out.mono ?_
  rintro e w7 ⟨B0, d0, B1, d1, B2, d2, rfl, g0, g1, g2, hb⟩
  clear hc qHK0 qHK1 qHK2
  have HB7 := Aside0.mk (HB6.out.trans (hb.mono HB6.out.size))
  have HK7 := Aside0.mk (blk_below HK6.out hb)
  have HL7 := Aside0.mk (blk_below HL6.out hb)
  have HX7 := Aside0.mk (HX6.out.below hb)
  have HY7 := Aside0.mk (HY6.out.below hb)
  have HZ7 := Aside0.mk (HZ6.out.below hb)
  have HR7 := Aside0.mk (HR6.out.below hb)
  have HS7 := Aside0.mk (HS6.out.below hb)
  have HT7 := Aside0.mk (HT6.out.below hb)
  clear hb HB6 HK6 HL6 HX6 HY6 HZ6 HR6 HS6 HT6
  have HU7 := Aside0.mk g0
  clear g0
  have HV7 := Aside0.mk g1
  clear g1
  have HW7 := Aside0.mk g2
  clear g2
  have hcb := enough_c HU7.out HV7.out HW7.out
  rw [← HXE.out.1, ← HXE.out.2.1, ← HXE.out.2.2] at hcb
  have HCB := Aside0.mk hcb
  clear hcb
  have hc := Aside0.mk (HCB.out)
  go_wp2_with fail
  refine hc.out.mono ?_
  rintro e w8 ⟨A9, c9, rfl, gb, hb⟩
  clear hc
  have HB8 := Aside0.mk (HB7.out.trans (hb.mono HB7.out.size))
  have HK8 := Aside0.mk (blk_below HK7.out hb)
  have HL8 := Aside0.mk (blk_below HL7.out hb)
  have HX8 := Aside0.mk (HX7.out.below hb)
  have HY8 := Aside0.mk (HY7.out.below hb)
  have HZ8 := Aside0.mk (HZ7.out.below hb)
  have HR8 := Aside0.mk (HR7.out.below hb)
  have HS8 := Aside0.mk (HS7.out.below hb)
  have HT8 := Aside0.mk (HT7.out.below hb)
  have HU8 := Aside0.mk (HU7.out.below hb)
  have HV8 := Aside0.mk (HV7.out.below hb)
  have HW8 := Aside0.mk (HW7.out.below hb)
  clear hb HB7 HK7 HL7 HX7 HY7 HZ7 HR7 HS7 HT7 HU7 HV7 HW7
  clear HCB
  clear gb
  clear HU8 HV8 HW8
  have HB99 := HB8
  obtain ⟨e1, e2, e3⟩ := HH.out
  clear HH HPB HPE HXB HXE HK8 HL8 HX8 HY8 HZ8 HR8 HS8 HT8 HB8
  rcases e3 with ⟨e4, e5 | e5⟩ | ⟨e4, e5, e6, e7⟩
  · rw [e4] at e2
    rw [e5] at e1
    subst e4
    subst e5
    subst e1
    subst e2
    go_wp2
    go_ret
    exact ⟨rfl, HB99.out⟩
  · rw [e4] at e2
    rw [e5] at e1
    subst e4
    subst e5
    subst e1
    subst e2
    go_wp2
    go_ret
    exact ⟨rfl, HB99.out⟩
  · rw [e4] at e2
    rw [e5] at e1
    subst e4
    subst e5
    subst e1
    subst e2
    have e8 : (qn : Int) ≤ (yn : Int) := by omega
    clear e7
    go_wp2
    go_ret
    exact ⟨rfl, HB99.out⟩
end Go.Proofs.YtekdacalkllipaaGreat.PR
end
section
/- The laws' word of a list of words; the document's words read. -/
namespace Go.Proofs.YtekdacalkllipaaGreat.PR
open Go.RowKit Go.Shelf Go.Proofs.YtekdacalkllipaaGreatW.PrintWords Go.Proofs.YtekdacalkllipaaGreatW.PrintLast Go.Proofs.YtekdacalkllipaaGreatW.PrintMore
set_option linter.unusedVariables false
set_option linter.unusedSimpArgs false
attribute [local go_sem] Oper.semAt_some
attribute [local simp] wide_fn

/-- The word at a place, or 0 if there are none. -/
def wordS (ws : List Int) (i : Nat) : Int := if ws.length = 0 then 0 else wrap64 (rd ws ((i % ws.length : Nat) : Int))
set_option maxHeartbeats 4000000 in
theorem word_d {A : Option Addr} {c : Nat} {ws : List Int} {w : World} (h : SL (Kd.int .u16) A c w ws) (i : Nat) :
    Calls Tryz.prog 54 #[.slice A ws.length c, .int .i64 (i : Int)] w fun e w' => e = .returned (.int .i64 (wordS ws i)) ∧ w' = w := by
  by_cases h0 : ws.length = 0
  · have e : wordS ws i = 0 := by unfold wordS; rw [if_pos h0]
    rw [e]
    have hb : ((ws.length : Int) == 0) = true := beq_iff_eq.2 (by omega)
    clear h e h0
    go_enter Tryz.func54, Tryz.ntmps54
    go_wp2
    go_ret
    exact ⟨rfl, rfl⟩
  · obtain ⟨m, hm⟩ : ∃ m, m = i % ws.length := ⟨_, rfl⟩
    have hml : m < ws.length := by rw [hm]; exact Nat.mod_lt _ (by omega)
    obtain ⟨v, hv⟩ : ∃ v, v = rd ws ((m : Nat) : Int) := ⟨_, rfl⟩
    have e : wordS ws i = wrap64 v := by unfold wordS; rw [if_neg h0, ← hm, ← hv]
    rw [e]
    obtain ⟨ad, ea, hx⟩ := Kd.at_int h.2 (m : Int) (by omega) (by omega)
    subst ea
    rw [← hv, Int.toNat_natCast] at hx
    have hb : ((ws.length : Int) == 0) = false := beq_eq_false_iff_ne.2 (by omega)
    have hmod : Int.tmod (i : Int) (ws.length : Int) = (m : Int) := by rw [hm]; exact (Int.ofNat_tmod i ws.length).symm
    have hmz : (m : Int) < (ws.length : Int) := by omega
    clear h e h0 hv hm hml
    go_enter Tryz.func54, Tryz.ntmps54
    go_wp2
    go_ret
    exact ⟨by first | rfl | simp, rfl⟩
end Go.Proofs.YtekdacalkllipaaGreat.PR
end
section
/- The laws' helpers as calls: ready, IsRota, Safe, Duties. -/
namespace Go.Proofs.YtekdacalkllipaaGreat.PR
open Go.RowKit Go.Shelf Go.Proofs.YtekdacalkllipaaGreatW.PrintWords Go.Proofs.YtekdacalkllipaaGreatW.PrintLast Go.Proofs.YtekdacalkllipaaGreatW.PrintMore
set_option linter.unusedVariables false

section
variable {A0 A1 A2 A3 : Option Addr} {c0 c1 c2 c3 : Nat} {w : World} {l0 : List Int} {l1 : List S119} {l2 l3 : List (List Int)}
end
theorem evs_incB (n : Nat) : incB (evs n) n = true := by
  rw [incB_IncF]
  have := evs_inc n
  exact ⟨this.1, fun x hx => by have := this.2 x hx; exact ⟨by have := this.1; omega, this.2⟩⟩
/-- A safe rota of some people's lists is one. -/
theorem safe_sub {need : List Int} {people : List S128} {cases : List (List Int)} (hp : postErr need people cases = 0) {l : List Int} (hl : incB l people.length = true) {r : List (List Int)} (h : SafeOf need people cases (listsS l) r) : SafeR need people cases r := by
  rw [safe_of hp]
  refine ⟨h.1, fun on hon => ?_, h.2.2.1, h.2.2.2⟩
  rw [mem_lists_evs]
  obtain ⟨b, _, e⟩ := mem_listsS.1 (h.2.1 on hon)
  rw [incB_IncF] at hl ⊢
  have hsl : on.Sublist l := by
    rw [← e]
    unfold subL subK
    have h9 : ((List.range l.length).map fun j => l.getD j 0) = l := by
      apply List.ext_getElem
      · simp
      · intro i h1 h2; simp [List.getD_eq_getElem?_getD, h2]
    have h8 := (List.filter_sublist (p := bitB b) (l := List.range l.length)).map (fun j => l.getD j 0)
    rw [h9] at h8
    exact h8
  exact ⟨hl.1.sublist hsl, fun x hx => hl.2 x (hsl.subset hx)⟩
end Go.Proofs.YtekdacalkllipaaGreat.PR
end
section
/- A harder post: its best rota has no fewer duties, its smallest set is not shorter. -/
namespace Go.Proofs.YtekdacalkllipaaGreat.PR
open Go.RowKit Go.Shelf Go.Proofs.YtekdacalkllipaaGreatW.PrintWords Go.Proofs.YtekdacalkllipaaGreatW.PrintLast Go.Proofs.YtekdacalkllipaaGreatW.PrintMore
set_option linter.unusedVariables false
set_option linter.unusedSimpArgs false

theorem both_err {need : List Int} {people : List S128} {cases : List (List Int)} (hp : postErr need people cases = 0) : (bestS need people cases).2.2 = (enoughS need people cases).2 ∧ ((bestS need people cases).2.2 = 10 ∨ (bestS need people cases).2.2 = 0) := by
  rcases best_spec hp with ⟨hB, hno⟩ | ⟨r, hB, hsafe, _⟩ <;> rcases enough_spec hp with ⟨hE, hne⟩ | ⟨l, hE, h2, ⟨r3, h3⟩, _⟩
  · rw [hB, hE]; exact ⟨rfl, .inl rfl⟩
  · exact absurd (safe_sub hp h2 h3) (hno r3)
  · exact absurd ((safe_of hp r).1 hsafe) (hne _ (evs_incB _) r)
  · rw [hB, hE]; exact ⟨rfl, .inr rfl⟩
theorem cmpS_lenle {a b : List Int} (h : cmpS a b ≤ 0) : a.length ≤ b.length := by
  unfold cmpS at h
  split at h <;> omega
theorem harder_of {x0 l0 : List Int} {xs ps : List S128} {x2 l2 : List (List Int)} (hp : postErr l0 ps l2 = 0) (hx : postErr x0 xs x2 = 0) (hn : xs.length = ps.length) (hsub : ∀ L r, SafeOf x0 xs x2 L r → SafeOf l0 ps l2 L r) : Harder x0 xs x2 l0 ps l2 := by
  obtain ⟨e1, e2⟩ := both_err hp
  obtain ⟨e3, e4⟩ := both_err hx
  refine ⟨e1, e3, ?_⟩
  rcases best_spec hx with ⟨hB, _⟩ | ⟨r, hB, hsafe, _⟩
  · exact .inl ⟨by rw [hB], e2⟩
  · right
    have hr := hsub _ _ ((safe_of hx r).1 hsafe)
    rw [hn] at hr
    rcases best_spec hp with ⟨_, hno⟩ | ⟨r', hB', _, hmin⟩
    · exact absurd ((safe_of hp r).2 hr) (hno r)
    · rcases enough_spec hx with ⟨hE, _⟩ | ⟨l, hE, h2, ⟨r3, h3⟩, _⟩
      · rw [hB, hE] at e3; cases e3
      · rcases enough_spec hp with ⟨hE', hne⟩ | ⟨l', hE', _, _, hm'⟩
        · rw [hB', hE'] at e1; cases e1
        · rw [hB, hB', hE, hE']
          rw [hn] at h2
          exact ⟨rfl, rfl, (hmin r ((safe_of hp r).2 hr)).1, cmpS_lenle (hm' l h2 ⟨r3, hsub _ _ h3⟩)⟩
/-- What holds with more Need, and in more cases, holds. -/
theorem holds_less {need need' : List Int} {cases cases' : List (List Int)} (h1 : ∀ i : Nat, need.getD i 0 ≤ need'.getD i 0) (h2 : ∀ i, i < cases.length + 1 → ∃ j, j < cases'.length + 1 ∧ caseAt cases' j = caseAt cases i) : ∀ (r : List (List Int)) (watch : Int), holdsFrom need' cases' watch r = true → holdsFrom need cases watch r = true
  | [], _, _ => rfl
  | on :: r, watch, h => by
    unfold holdsFrom at h ⊢
    rw [Bool.and_eq_true] at h ⊢
    refine ⟨?_, holds_less h1 h2 r _ h.2⟩
    unfold holdsB at h ⊢
    rw [List.all_eq_true]
    intro i hi
    obtain ⟨j, hj, e⟩ := h2 i (List.mem_range.1 hi)
    have := List.all_eq_true.1 h.1 j (List.mem_range.2 hj)
    rw [e] at this
    have := of_decide_eq_true this
    have h3 := h1 watch.toNat
    exact decide_eq_true (by omega)
theorem case_more (cases : List (List Int)) (il : List Int) : ∀ i, i < cases.length + 1 → ∃ j, j < (cases ++ [il]).length + 1 ∧ caseAt (cases ++ [il]) j = caseAt cases i := by
  intro i hi
  by_cases h : i < cases.length
  · refine ⟨i, by rw [List.length_append]; omega, ?_⟩
    unfold caseAt
    rw [if_pos h, if_pos (by rw [List.length_append]; omega), rdL_get, rdL_get, List.getD_eq_getElem?_getD, List.getD_eq_getElem?_getD, List.getElem?_append_left h]
  · refine ⟨(cases ++ [il]).length, by omega, ?_⟩
    unfold caseAt
    rw [if_neg h, if_neg (by omega)]
/-- One more case is harder. -/
theorem harder_case {l0 : List Int} {ps : List S128} {l2 : List (List Int)} {il : List Int} (hp : postErr l0 ps l2 = 0) (hx : postErr l0 ps (l2 ++ [il]) = 0) : Harder l0 ps (l2 ++ [il]) l0 ps l2 :=
  harder_of hp hx rfl fun L r h => ⟨h.1, h.2.1, h.2.2.1, holds_less (fun _ => Int.le_refl _) (case_more l2 il) r 0 h.2.2.2⟩
theorem post_needs {need : List Int} {people : List S128} {cases : List (List Int)} (hp : postErr need people cases = 0) : 0 < need.length ∧ ∀ n ∈ need, 0 ≤ n ∧ n ≤ 2 := by
  unfold postErr at hp
  split at hp
  · cases hp
  · split at hp
    · cases hp
    · rename_i hb
      simp only [not_or, Bool.not_eq_false] at hb
      refine ⟨by omega, fun n hn => ?_⟩
      have := List.all_eq_true.1 hb.2.2.1 n hn
      unfold inr at this
      exact of_decide_eq_true this
/-- More Need in a watch is harder, and as valid. -/
theorem harder_need {l0 : List Int} {ps : List S128} {l2 : List (List Int)} (hp : postErr l0 ps l2 = 0) (k : Nat) (hk : k < l0.length) (v : Int) (h0 : l0.getD k 0 ≤ v) (h1 : v ≤ 2) : Harder (l0.set k v) ps l2 l0 ps l2 := by
  obtain ⟨hz, hn⟩ := post_needs hp
  have hg : l0.getD k 0 = l0[k] := by rw [List.getD_eq_getElem?_getD, List.getElem?_eq_getElem hk]; rfl
  have hx : postErr (l0.set k v) ps l2 = 0 := by
    unfold postErr at hp ⊢
    simp only [List.length_set]
    split at hp
    · cases hp
    · rename_i ha
      rw [if_neg ha]
      split at hp
      · cases hp
      · rename_i hb
        simp only [not_or, Bool.not_eq_false] at hb
        rw [if_neg]
        simp only [not_or, Bool.not_eq_false]
        refine ⟨hb.1, hb.2.1, ?_, ?_, ?_⟩
        · rw [List.all_eq_true]
          intro n hn'
          rcases List.mem_or_eq_of_mem_set hn' with h | rfl
          · exact List.all_eq_true.1 hb.2.2.1 n h
          · have := hn _ (List.getElem_mem hk)
            unfold inr
            exact decide_eq_true (by omega)
        · rw [← hb.2.2.2.1]
          congr 1
          funext x
          simp [personOk, List.length_set]
        · rw [← hb.2.2.2.2]
          congr 1
          funext x
          simp [illOk, List.length_set]
  refine harder_of hp hx rfl fun L r h => ⟨by rw [h.1, List.length_set], h.2.1, h.2.2.1, holds_less (fun i => ?_) (fun i hi => ⟨i, hi, rfl⟩) r 0 h.2.2.2⟩
  rw [List.getD_eq_getElem?_getD, List.getD_eq_getElem?_getD, List.getElem?_set]
  by_cases e : k = i
  · subst e
    rw [if_pos rfl, if_pos hk, List.getElem?_eq_getElem hk]
    show l0[k] ≤ v
    omega
  · rw [if_neg e]
    exact Int.le_refl _
end Go.Proofs.YtekdacalkllipaaGreat.PR
end
section
/- RotaCases, walked: true, whatever the input. -/
namespace Go.Proofs.YtekdacalkllipaaGreat.PR
open Go.RowKit Go.Shelf Go.Proofs.YtekdacalkllipaaGreatW.PrintWords Go.Proofs.YtekdacalkllipaaGreatW.PrintLast Go.Proofs.YtekdacalkllipaaGreatW.PrintMore
set_option linter.unusedVariables false
set_option linter.unusedSimpArgs false
attribute [local go_sem] Oper.semAt_some
attribute [local simp] wide_fn
attribute [local go_sem] min2_int min_two

set_option maxRecDepth 100000 in
set_option maxHeartbeats 4000000 in
theorem rotaCases_walk {A0 A1 A2 A3 : Option Addr} {c0 c1 c2 c3 : Nat} {w : World} {l0 : List Int} {l1 : List S119} {l2 : List (List Int)} {ws : List Int} {which : Nat} (hwh : which < 256) (h0 : SL (Kd.int .i64) A0 c0 w l0) (h1 : SL k119 A1 c1 w l1) (h2 : SL KR A2 c2 w l2) (h3 : SL (Kd.int .u16) A3 c3 w ws) :
    Calls Tryz.prog 8 #[.agg #[.slice A0 l0.length c0, .slice A1 l1.length c1, .slice A2 l2.length c2], .slice A3 ws.length c3, .int .u8 (which : Int)] w fun e w' => e = .returned (.bool true) ∧ Below w.heap.size w w' := by
  obtain ⟨P, hP⟩ : ∃ P, P = w.heap.size := ⟨_, rfl⟩
  obtain ⟨w0, hw0⟩ : ∃ w0, w0 = w.alloc (.cells #[.slice A0 l0.length c0, .slice A1 l1.length c1, .slice A2 l2.length c2] 26) := ⟨_, rfl⟩
  have hb : Below w.heap.size w w0 := by rw [hw0]; exact below_alloc (Below.refl _ _) _
  have HK0 : Aside0 (w0.heap[P]? = some (.cells #[.slice A0 l0.length c0, .slice A1 l1.length c1, .slice A2 l2.length c2] 26 (0, 0))) := ⟨by rw [hw0, hP]; exact blk_new w _⟩
  have HX := Aside0.mk (And.intro h0 (And.intro h1 (And.intro h2 h3)))
  have HB0 := Aside0.mk hb
  clear h0 h1 h2 h3 hb
  obtain ⟨b, HT⟩ := ready_b l0 l1 l2
  go_enter Tryz.func8, Tryz.ntmps8
  have hu26 := Tryz.underlying26
  have q0 : w0.cell? ⟨P, 0, none⟩ = some (.slice A0 l0.length c0) := (blk_cell HK0.out 0).trans rfl
  have q1 : w0.cell? ⟨P, 1, none⟩ = some (.slice A1 l1.length c1) := (blk_cell HK0.out 1).trans rfl
  have q2 : w0.cell? ⟨P, 2, none⟩ = some (.slice A2 l2.length c2) := (blk_cell HK0.out 2).trans rfl
  have hc := Aside0.mk (HT.out.1 (HX.out.1.below HB0.out) (HX.out.2.1.below HB0.out) (HX.out.2.2.1.below HB0.out))
  rw [hw0, hP] at q0 q1 q2
  go_wp2_with fail
  rw [← hw0, ← hP]
  have HP := Aside0.mk hP
  clear hP hw0 q0 q1 q2
  refine hc.out.mono ?_
  rintro e w1 ⟨rfl, hb⟩
  have HB1 := Aside0.mk (HB0.out.trans (hb.mono HB0.out.size))
  have HK1 := Aside0.mk (blk_below HK0.out hb)
  clear hc hb HB0 HK0
  cases b with
  | false =>
    have hc := Aside0.mk (lawake_any w1)
    go_wp2_with fail
    refine hc.out.mono ?_
    rintro e w2 ⟨rfl, hb⟩
    have HB2 := Aside0.mk (HB1.out.trans (hb.mono HB1.out.size))
    clear hc hb
    go_wp2
    go_ret
    exact ⟨rfl, HB2.out⟩
  | true =>
    obtain ⟨⟨t0, t1, t2, t3, t4⟩, hpe⟩ := HT.out.2 rfl
    have HTH := Aside0.mk (And.intro t0 (And.intro t1 (And.intro t2 (And.intro t3 (And.intro t4 hpe)))))
    clear t0 t1 t2 t3 t4 hpe HT
    have q0 : w1.cell? ⟨P, 0, none⟩ = some (.slice A0 l0.length c0) := (blk_cell HK1.out 0).trans rfl
    have q1 : w1.cell? ⟨P, 1, none⟩ = some (.slice A1 l1.length c1) := (blk_cell HK1.out 1).trans rfl
    have q2 : w1.cell? ⟨P, 2, none⟩ = some (.slice A2 l2.length c2) := (blk_cell HK1.out 2).trans rfl
    have r0 : ∀ o, (w1.alloc o).cell? ⟨P, 0, none⟩ = some (.slice A0 l0.length c0) := fun o => (blk_cell (blk_alloc HK1.out o) 0).trans rfl
    have r1 : ∀ o, (w1.alloc o).cell? ⟨P, 1, none⟩ = some (.slice A1 l1.length c1) := fun o => (blk_cell (blk_alloc HK1.out o) 1).trans rfl
    have r2 : ∀ o, (w1.alloc o).cell? ⟨P, 2, none⟩ = some (.slice A2 l2.length c2) := fun o => (blk_cell (blk_alloc HK1.out o) 2).trans rfl
    have s0 : ∀ o o', ((w1.alloc o).alloc o').cell? ⟨P, 0, none⟩ = some (.slice A0 l0.length c0) := fun o o' => (blk_cell (blk_alloc (blk_alloc HK1.out o) o') 0).trans rfl
    have s1 : ∀ o o', ((w1.alloc o).alloc o').cell? ⟨P, 1, none⟩ = some (.slice A1 l1.length c1) := fun o o' => (blk_cell (blk_alloc (blk_alloc HK1.out o) o') 1).trans rfl
    have s2 : ∀ o o', ((w1.alloc o).alloc o').cell? ⟨P, 2, none⟩ = some (.slice A2 l2.length c2) := fun o o' => (blk_cell (blk_alloc (blk_alloc HK1.out o) o') 2).trans rfl
    go_upto_region 3 with fail
    have two : Aside0 (∀ g h : Nat, (g = w1.heap.size ∧ h = w1.heap.size + 1 ∨ g = w1.heap.size + 1 ∧ h = w1.heap.size) →
        (g ≠ h ∧ w.heap.size ≤ g ∧ w.heap.size ≤ h ∧ P ≠ g ∧ P ≠ h) ∧ Below w.heap.size w ((w1.alloc (.cells #[.slice A0 l0.length c0, .slice A1 l1.length c1, .slice A2 l2.length c2] 26)).alloc (.cells #[.slice A0 l0.length c0, .slice A1 l1.length c1, .slice A2 l2.length c2] 26)).drew ∧ ((w1.alloc (.cells #[.slice A0 l0.length c0, .slice A1 l1.length c1, .slice A2 l2.length c2] 26)).alloc (.cells #[.slice A0 l0.length c0, .slice A1 l1.length c1, .slice A2 l2.length c2] 26)).drew.heap[P]? = some (.cells #[.slice A0 l0.length c0, .slice A1 l1.length c1, .slice A2 l2.length c2] 26 (0, 0)) ∧ ((w1.alloc (.cells #[.slice A0 l0.length c0, .slice A1 l1.length c1, .slice A2 l2.length c2] 26)).alloc (.cells #[.slice A0 l0.length c0, .slice A1 l1.length c1, .slice A2 l2.length c2] 26)).drew.heap[g]? = some (.cells #[.slice A0 l0.length c0, .slice A1 l1.length c1, .slice A2 l2.length c2] 26 (0, 0)) ∧ ((w1.alloc (.cells #[.slice A0 l0.length c0, .slice A1 l1.length c1, .slice A2 l2.length c2] 26)).alloc (.cells #[.slice A0 l0.length c0, .slice A1 l1.length c1, .slice A2 l2.length c2] 26)).drew.heap[h]? = some (.cells #[.slice A0 l0.length c0, .slice A1 l1.length c1, .slice A2 l2.length c2] 26 (0, 0))) := ⟨fun g h hgh => by
      have hs := HB1.out.size
      have hl := blk_lt HK1.out
      have e1 : (w1.alloc (.cells #[.slice A0 l0.length c0, .slice A1 l1.length c1, .slice A2 l2.length c2] 26)).heap.size = w1.heap.size + 1 := Array.size_push ..
      have k1 := blk_drew (blk_alloc (blk_new w1 (.cells #[.slice A0 l0.length c0, .slice A1 l1.length c1, .slice A2 l2.length c2] 26)) (.cells #[.slice A0 l0.length c0, .slice A1 l1.length c1, .slice A2 l2.length c2] 26))
      have k2 := blk_drew (blk_new (w1.alloc (.cells #[.slice A0 l0.length c0, .slice A1 l1.length c1, .slice A2 l2.length c2] 26)) (.cells #[.slice A0 l0.length c0, .slice A1 l1.length c1, .slice A2 l2.length c2] 26))
      rw [e1] at k2
      refine ⟨by omega, below_drew1 (below_alloc (below_alloc HB1.out _) _), blk_drew (blk_alloc (blk_alloc HK1.out _) _), ?_, ?_⟩
      · rcases hgh with ⟨rfl, rfl⟩ | ⟨rfl, rfl⟩
        · exact k1
        · exact k2
      · rcases hgh with ⟨rfl, rfl⟩ | ⟨rfl, rfl⟩
        · exact k2
        · exact k1⟩
    go_cut [7, 8] from 16 to 17 (fun s7 s8 wx => ∃ g h : Nat, s7 = .pointer (some ⟨g, 0, none⟩) ∧ s8 = .pointer (some ⟨h, 0, none⟩) ∧ Aside0 (g ≠ h ∧ w.heap.size ≤ g ∧ w.heap.size ≤ h ∧ P ≠ g ∧ P ≠ h) ∧ Aside0 (Below w.heap.size w wx) ∧ Aside0 (wx.heap[P]? = some (.cells #[.slice A0 l0.length c0, .slice A1 l1.length c1, .slice A2 l2.length c2] 26 (0, 0))) ∧ Aside0 (wx.heap[g]? = some (.cells #[.slice A0 l0.length c0, .slice A1 l1.length c1, .slice A2 l2.length c2] 26 (0, 0))) ∧ Aside0 (wx.heap[h]? = some (.cells #[.slice A0 l0.length c0, .slice A1 l1.length c1, .slice A2 l2.length c2] 26 (0, 0))))
    case first =>
      go_region
      · go_wp2_with fail
        go_meet
        case rel =>
          obtain ⟨a1, a2, a3, a4, a5⟩ := two.out w1.heap.size (w1.heap.size + 1) (.inl ⟨rfl, rfl⟩)
          exact ⟨_, _, rfl, rfl, ⟨a1⟩, ⟨a2⟩, ⟨a3⟩, ⟨a4⟩, ⟨a5⟩⟩
      · go_wp2_with fail
        go_meet
        case rel =>
          obtain ⟨a1, a2, a3, a4, a5⟩ := two.out (w1.heap.size + 1) w1.heap.size (.inr ⟨rfl, rfl⟩)
          exact ⟨_, _, rfl, rfl, ⟨a1⟩, ⟨a2⟩, ⟨a3⟩, ⟨a4⟩, ⟨a5⟩⟩
    case rest =>
      obtain ⟨g, h, rfl, rfl, HN, HBc, HKc, HGc, HHc⟩ := hcut
      clear two q0 q1 q2 r0 r1 r2 s0 s1 s2 HB1 HK1
      go_wp2
      go_loopg [9, 10] l1.length (fun gg s9 s10 wr => ∃ (i : Nat) (v : Value) (il : List Int), i ≤ l1.length ∧ l1.length - i ≤ gg ∧ s9 = v ∧ s10 = .int .i64 i ∧ il.length = i ∧ Aside0 ((Kd.int .i64).R 3 wr w.heap.size (fun _ => True) v il) ∧ Aside0 (Below w.heap.size w wr) ∧ Aside0 (wr.heap[P]? = some (.cells #[.slice A0 l0.length c0, .slice A1 l1.length c1, .slice A2 l2.length c2] 26 (0, 0))) ∧ Aside0 (wr.heap[g]? = some (.cells #[.slice A0 l0.length c0, .slice A1 l1.length c1, .slice A2 l2.length c2] 26 (0, 0))) ∧ Aside0 (wr.heap[h]? = some (.cells #[.slice A0 l0.length c0, .slice A1 l1.length c1, .slice A2 l2.length c2] 26 (0, 0))))
      case atStart => exact ⟨0, _, [], Nat.zero_le _, by omega, rfl, rfl, rfl, ⟨Kd.R_nil _ _ _ _ _⟩, HBc, HKc, HGc, HHc⟩
      case round =>
        clear HBc HKc HGc HHc
        obtain ⟨i, v, il, hi, hg, rfl, rfl, hil, HRr, HBr, HKr, HGr, HHr⟩ := hrel
        have q0 : wr.cell? ⟨P, 0, none⟩ = some (.slice A0 l0.length c0) := (blk_cell HKr.out 0).trans rfl
        have q1 : wr.cell? ⟨P, 1, none⟩ = some (.slice A1 l1.length c1) := (blk_cell HKr.out 1).trans rfl
        by_cases hlt : i < l1.length
        · have hltz : (i : Int) < (l1.length : Int) := by omega
          have hn0 : ¬ ((l0.length : Int) + 1 = 0) := by omega
          have hw1 : IntKind.i64.wrap ((l0.length : Int) + 1) = (l0.length : Int) + 1 := by rw [IntKind.wrap_i64]; have := HTH.out.1; omega
          have hw2 : wrap64 ((l0.length : Int) + 1) = (l0.length : Int) + 1 := by unfold wrap64; have := HTH.out.1; omega
          have hi1 : wrap64 ((i : Int) + 1) = (i : Int) + 1 := by unfold wrap64; have := HTH.out.2.1; omega
          have hi2 : IntKind.i64.wrap ((i : Int) + 1) = (i : Int) + 1 := by rw [IntKind.wrap_i64]; have := HTH.out.2.1; omega
          go_wp2
          have HRd := Aside0.mk (Kd.R_drew HRr.out)
          have HBd := Aside0.mk (below_drew1 HBr.out)
          have HKd := Aside0.mk (blk_drew HKr.out)
          have HGd := Aside0.mk (blk_drew HGr.out)
          have HHd := Aside0.mk (blk_drew HHr.out)
          clear HRr HBr HKr HGr HHr
          refine start_ (n := 13) (S := fun w' => w'.cell? ⟨P, 0, none⟩ = some (.slice A0 l0.length c0)) (ds := []) #[false, false, false, false, false, false, false, false, false, false, false, false, false] (by kernel_rfl) rfl rfl ((blk_cell HKd.out 0).trans rfl) (fun hHeld => ?_)
          generalize wr.drew = wd at HRd HBd HKd HGd HHd hHeld ⊢
          refine pure_ (i := 0) (N := some 25) (v := ?_) (a' := ?_) #[true, false, false, false, false, false, false, false, false, false, false, false, false] rfl rfl (by kernel_rfl) (fun _ _ _ h => h) (Or.inl ⟨by rfl, ?_⟩) ?_ ?_
          rotate_left
          · intro w'; go_simp; with_reducible rfl
          rotate_left
          · simp only [Act.put, List.setIfInBounds_toArray, List.set_cons_zero, List.set_cons_succ, i64_w, i32_w]; rfl
          refine pure_ (i := 1) (N := some 26) (v := ?_) (a' := ?_) #[true, true, false, false, false, false, false, false, false, false, false, false, false] rfl rfl (by kernel_rfl) (fun _ _ _ h => h) (Or.inl ⟨by rfl, ?_⟩) ?_ ?_
          rotate_left
          · intro w'; go_simp; with_reducible rfl
          rotate_left
          · simp only [Act.put, List.setIfInBounds_toArray, List.set_cons_zero, List.set_cons_succ, i64_w, i32_w]; rfl
          refine pure_ (i := 2) (N := some 27) (v := ?_) (a' := ?_) #[true, true, true, false, false, false, false, false, false, false, false, false, false] rfl rfl (by kernel_rfl) (fun _ _ _ h => h) (Or.inl ⟨by rfl, ?_⟩) ?_ ?_
          rotate_left
          · intro w'; go_simp; with_reducible rfl
          rotate_left
          · simp only [Act.put, List.setIfInBounds_toArray, List.set_cons_zero, List.set_cons_succ, i64_w, i32_w]; rfl
          refine pure_ (i := 4) (N := some 29) (v := ?_) (a' := ?_) #[true, true, true, false, true, false, false, false, false, false, false, false, false] rfl rfl (by kernel_rfl) (fun _ _ _ h => h) (Or.inl ⟨by rfl, ?_⟩) ?_ ?_
          rotate_left
          · intro w'; go_simp; with_reducible rfl
          rotate_left
          · simp only [Act.put, List.setIfInBounds_toArray, List.set_cons_zero, List.set_cons_succ, i64_w, i32_w]; rfl
          refine take_ (i := 5) (N := some 30) (v := ?_) (a' := ?_) #[true, true, true, false, true, true, false, false, false, false, false, false, false] rfl rfl (by kernel_rfl) (fun _ _ _ h => h) (Or.inl ⟨by rfl, ?_⟩) hHeld ?_ ?_
          rotate_left
          · rintro w' s0; go_simp; with_reducible rfl
          rotate_left
          · simp only [Act.put, List.setIfInBounds_toArray, List.set_cons_zero, List.set_cons_succ, i64_w, i32_w]; rfl
          refine pure_ (i := 6) (N := some 31) (v := ?_) (a' := ?_) #[true, true, true, false, true, true, true, false, false, false, false, false, false] rfl rfl (by kernel_rfl) (fun _ _ _ h => h) (Or.inl ⟨by rfl, ?_⟩) ?_ ?_
          rotate_left
          · intro w'; go_simp; with_reducible rfl
          rotate_left
          · simp only [Act.put, List.setIfInBounds_toArray, List.set_cons_zero, List.set_cons_succ, i64_w, i32_w]; rfl
          refine pure_ (i := 7) (N := some 32) (v := ?_) (a' := ?_) #[true, true, true, false, true, true, true, true, false, false, false, false, false] rfl rfl (by kernel_rfl) (fun _ _ _ h => h) (Or.inl ⟨by rfl, ?_⟩) ?_ ?_
          rotate_left
          · intro w'; go_simp; with_reducible rfl
          rotate_left
          · simp only [Act.put, List.setIfInBounds_toArray, List.set_cons_zero, List.set_cons_succ, i64_w, i32_w]; rfl
          refine one_ (i := 3) (N := some 28) #[true, true, true, true, true, true, true, true, false, false, false, false, false] rfl rfl (by kernel_rfl) (by decide) (fun K hK => ?_)
          refine goes_ Tryz.func54 (by kernel_rfl) rfl #[.slice A3 ws.length c3, .int .i64 (i : Int)] (by rfl) rfl rfl (by (try simp only [List.map_toArray, List.map_cons, List.map_nil]); first | done | rfl) ?_
          refine (word_d (HX.out.2.2.2.below HBd.out) i).mono ?_
          rintro e w' ⟨rfl, rfl⟩
          obtain ⟨x, hx⟩ : ∃ x, x = wordS ws i := ⟨_, rfl⟩
          rw [← hx]
          clear hx
          refine ⟨_, rfl, ?_⟩
          refine hK.out _ _ ((blk_cell HKd.out 0).trans rfl) (fun hHeld => ?_)
          clear hK K
          refine norm_ (a' := ?_) ?_ ?_
          rotate_left
          · show Act.put _ (some 28) _ = _; simp only [Act.put, List.setIfInBounds_toArray, List.set_cons_zero, List.set_cons_succ, i64_w, i32_w]; rfl
          refine pure_ (i := 8) (N := some 33) (v := ?_) (a' := ?_) #[true, true, true, true, true, true, true, true, true, false, false, false, false] rfl rfl (by kernel_rfl) (fun _ _ _ h => h) (Or.inl ⟨by rfl, ?_⟩) ?_ ?_
          rotate_left
          · intro w'; go_simp; with_reducible rfl
          rotate_left
          · simp only [Act.put, List.setIfInBounds_toArray, List.set_cons_zero, List.set_cons_succ, i64_w, i32_w]; rfl
          refine pure_ (i := 9) (N := some 34) (v := ?_) (a' := ?_) #[true, true, true, true, true, true, true, true, true, true, false, false, false] rfl rfl (by kernel_rfl) (fun _ _ _ h => h) (Or.inl ⟨by rfl, ?_⟩) ?_ ?_
          rotate_left
          · intro w'; go_simp; with_reducible rfl
          rotate_left
          · simp only [Act.put, List.setIfInBounds_toArray, List.set_cons_zero, List.set_cons_succ, i64_w, i32_w]; rfl
          refine one_ (i := 10) (N := some 35) #[true, true, true, true, true, true, true, true, true, true, true, false, false] rfl rfl (by kernel_rfl) (by decide) (fun K hK => ?_)
          refine value_ (w1 := ?_) (v := ?_) (by rfl) rfl ?_ ?_
          rotate_left 2
          · go_simp
            constructor
            · rfl
            · rfl
          refine hK.out _ _ ((blk_cell (blk_alloc HKd.out _) 0).trans rfl) (fun hHeld => ?_)
          clear hK K
          refine norm_ (a' := ?_) ?_ ?_
          rotate_left
          · show Act.put _ (some 35) _ = _; simp only [Act.put, List.setIfInBounds_toArray, List.set_cons_zero, List.set_cons_succ, i64_w, i32_w]; rfl
          refine one_ (i := 11) (N := some 36) #[true, true, true, true, true, true, true, true, true, true, true, true, false] rfl rfl (by kernel_rfl) (by decide) (fun K hK => ?_)
          refine Kd.R_append_step (Kd.int .i64) (w0 := w) w.heap.size (by rfl) (.tmp 25) (.tmp 35) 22 3 (.int .i64 0) 8 rfl (by kernel_rfl) (by kernel_rfl) rfl (by decide) (by omega) u9 il (wrap64 (x.tmod ((l0.length : Int) + 1) - 1)) [.int .i64 (wrap64 (x.tmod ((l0.length : Int) + 1) - 1))] (fun _ => True) (fun _ => False) rfl rfl rfl (fun _ hk => hk.elim) (fun _ _ => trivial) HRd.out HBd.out HBd.out.size (by have := HTH.out.2.1; omega) ?_
          intro v1 wn ho hb hgr hat
          have hgo : some g ≠ u9.ownBlock := Kd.R_ne HRd.out HGd.out (by decide)
          have hho : some h ≠ u9.ownBlock := Kd.R_ne HRd.out HHd.out (by decide)
          have hpo : some P ≠ u9.ownBlock := Kd.R_ne HRd.out HKd.out (by decide)
          have HR1 := Aside0.mk ho
          have HB1 := Aside0.mk hb
          have HK1 := Aside0.mk (blk_grown HKd.out hgr (fun k hk e => hpo (by rw [hk, e])))
          have HG1 := Aside0.mk (blk_grown HGd.out hgr (fun k hk e => hgo (by rw [hk, e])))
          have HH1 := Aside0.mk (blk_grown HHd.out hgr (fun k hk e => hho (by rw [hk, e])))
          clear ho hb hgr hat hgo hho hpo HRd HBd HKd HGd HHd
          refine hK.out _ _ ((blk_cell HK1.out 0).trans rfl) (fun hHeld => ?_)
          clear hK K
          refine norm_ (a' := ?_) ?_ ?_
          rotate_left
          · show Act.put _ (some 36) _ = _; simp only [Act.put, List.setIfInBounds_toArray, List.set_cons_zero, List.set_cons_succ, i64_w, i32_w]; rfl
          refine pure_ (i := 12) (N := some 9) (v := ?_) (a' := ?_) #[true, true, true, true, true, true, true, true, true, true, true, true, true] rfl rfl (by kernel_rfl) (fun _ _ _ h => h) (Or.inl ⟨by rfl, ?_⟩) ?_ ?_
          rotate_left
          · intro w'; go_simp; with_reducible rfl
          rotate_left
          · simp only [Act.put, List.setIfInBounds_toArray, List.set_cons_zero, List.set_cons_succ, i64_w, i32_w]; rfl
          refine done_ (by kernel_rfl) ?_
          go_wp2
          go_roundg (l1.length - (i + 1))
          case measure => omega
          case rel => exact ⟨i + 1, _, _, by omega, by omega, rfl, by push_cast; rfl, by rw [List.length_append, List.length_singleton, hil], HR1, HB1, HK1, HG1, HH1⟩
        · have hltz : ¬ (i : Int) < (l1.length : Int) := by omega
          obtain rfl : i = l1.length := by omega
          obtain ⟨A9, c9, h9⟩ := R_slice HRr.out
          rw [hil] at h9
          subst h9
          have q2 : wr.cell? ⟨P, 2, none⟩ = some (.slice A2 l2.length c2) := (blk_cell HKr.out 2).trans rfl
          have hr2 := HX.out.2.2.1.below HBr.out
          obtain ⟨kk, hkk⟩ := (rows_ev l2 (by have := HTH.out.2.2.1; omega) (fun x hx => by have := HTH.out.2.2.2.2.1 x hx; omega)).one
          have HC := Aside0.mk (glisterlaw10_rows.calls kk A2 c2 l2 l2 wr hr2.2 hr2.1 hkk)
          have HIL := Aside0.mk hil
          clear hr2 hkk hg hlt hil
          go_wp2_with fail
          refine HC.out.mono ?_
          rintro e wa ⟨va, rfl, hSa, hba⟩
          have HBa := Aside0.mk (HBr.out.trans (hba.mono HBr.out.size))
          have HKa := Aside0.mk (blk_below HKr.out hba)
          have HGa := Aside0.mk (blk_below HGr.out hba)
          have HHa := Aside0.mk (blk_below HHr.out hba)
          have HM : Aside0 (KR.M wa w.heap.size (fun k => k < wr.heap.size) il [.slice A9 l1.length c9]) := ⟨⟨_, rfl, Kd.R_below (Kd.R_mono (Kd.R_bound HRr.out) (fun k hk => hk.2.2.1)) hba⟩⟩
          have HSa : Aside0 (Kd.S KR 22 wa w.heap.size (fun k => True ∧ ¬ k < wr.heap.size) va l2) := ⟨Kd.S_lower (Kd.S_mono (Kd.S_bound hSa) (fun k hk => ⟨trivial, by have := hk.2.1; omega⟩)) HBr.out.size⟩
          have HLT : Aside0 (∀ k, k < wr.heap.size → (fun _ : Nat => True) k ∧ some k ≠ va.ownBlock) := ⟨fun k hk => ⟨trivial, fun e => by have := Kd.S_base hSa k e.symm; omega⟩⟩
          have HOW : Aside0 (∀ k, va.ownBlock = some k → wr.heap.size ≤ k) := ⟨fun k hk => Kd.S_base hSa k hk⟩
          have hgl := blk_lt HGr.out
          have hhl := blk_lt HHr.out
          have hpl := blk_lt HKr.out
          have HSZ := Aside0.mk (And.intro hgl (And.intro hhl hpl))
          clear hSa hba HC HRr HBr HKr HGr HHr q0 q1 q2 hgl hhl hpl
          go_wp2_with ((with_reducible refine gate_builtin (b := .append) (xs := #[.tmp 39, .tmp 41]) rfl ?_); at_builtin; refine Kd.S_append KR (w0 := w) (W := wa) w.heap.size rfl (.tmp 39) (.tmp 41) 24 22 (.slice none 0 0) 24 rfl (by kernel_rfl) (by kernel_rfl) rfl (by decide) (by omega) va l2 il [.slice A9 l1.length c9] (fun _ => True) (fun k => k < wr.heap.size) rfl rfl HM.out HLT.out (fun _ _ => trivial) HSa.out HBa.out HBa.out.size (by have := HTH.out.2.2.1; omega) ?_; intro v1 wb ho hb hgr hat; obtain ⟨A10, c10, e10⟩ := Kd.S_slice ho; obtain ⟨n10, hn10⟩ : ∃ n10, n10 = (l2 ++ [il]).length := ⟨_, rfl⟩; rw [← hn10] at e10; subst e10; have HN10 := Aside0.mk hn10; clear hn10; have HS1 := Aside0.mk ho; have HB1 := Aside0.mk hb; have HK1 := Aside0.mk (blk_grown HKa.out hgr (fun k hk e => by have := HOW.out k hk; have := HSZ.out; omega)); have HG1 := Aside0.mk (blk_grown HGa.out hgr (fun k hk e => by have := HOW.out k hk; have := HSZ.out; omega)); have HH1 := Aside0.mk (blk_grown HHa.out hgr (fun k hk e => by have := HOW.out k hk; have := HSZ.out; omega)); have q2 : wb.cell? ⟨g, 2, none⟩ = some (.slice A2 l2.length c2) := (blk_cell HG1.out 2).trans rfl; have f2 : wb.frozen? ⟨g, 2, none⟩ = false := blk_frozen HG1.out 2; have q0 : (wb.setCell ⟨g, 2, none⟩ (.slice A10 n10 c10)).cell? ⟨P, 0, none⟩ = some (.slice A0 l0.length c0) := (blk_cell (blk_far HK1.out HN.out.2.2.2.1 _) 0).trans rfl; clear ho hb hgr hat HKa HGa HHa HM HLT HSa HBa HOW)
          obtain ⟨ws', hws⟩ : ∃ ws', ws' = wb.setCell ⟨g, 2, none⟩ (.slice A10 n10 c10) := ⟨_, rfl⟩
          rw [← hws]
          have HBs : Aside0 (Below w.heap.size w ws') := ⟨by rw [hws]; exact below_set HB1.out HN.out.2.1⟩
          have HKs : Aside0 (ws'.heap[P]? = some (.cells #[.slice A0 l0.length c0, .slice A1 l1.length c1, .slice A2 l2.length c2] 26 (0, 0))) := ⟨by rw [hws]; exact blk_far HK1.out HN.out.2.2.2.1 _⟩
          have HGs : Aside0 (ws'.heap[g]? = some (.cells #[.slice A0 l0.length c0, .slice A1 l1.length c1, .slice A10 n10 c10] 26 (0, 0))) := ⟨by rw [hws]; exact blk_put (cs := #[.slice A0 l0.length c0, .slice A1 l1.length c1, .slice A2 l2.length c2]) HG1.out 2 _ rfl⟩
          have HHs : Aside0 (ws'.heap[h]? = some (.cells #[.slice A0 l0.length c0, .slice A1 l1.length c1, .slice A2 l2.length c2] 26 (0, 0))) := ⟨by rw [hws]; exact blk_far HH1.out (fun e => HN.out.1 e.symm) _⟩
          have HSs : Aside0 (Kd.S KR 22 ws' w.heap.size (fun k => k < ws'.heap.size) (.slice A10 n10 c10) (l2 ++ [il])) := ⟨by
            have h9 := Kd.S_set HS1.out HG1.out (by decide) 2 (.slice A10 n10 c10)
            rw [← hws] at h9
            exact Kd.S_mono (Kd.S_bound h9) (fun k hk => hk.2.2.1)⟩
          clear hws q0 q2 f2 HS1 HB1 HK1 HG1 HH1
          have h0s := HX.out.1.below HBs.out
          have HC := Aside0.mk (glisterlaw10_list.calls A0 c0 l0 l0 ws' h0s.2 h0s.1 (list_ev l0 (by have := HTH.out.1; omega)))
          refine HC.out.mono ?_
          rintro e wl ⟨vl, rfl, hR, hbl⟩
          have hl0 := (post_needs HTH.out.2.2.2.2.2).1
          obtain ⟨gn, c11, e11, hgn1, hgn2, _⟩ := Kd.R_form hR hl0
          subst e11
          have HBl := Aside0.mk (HBs.out.trans (hbl.mono HBs.out.size))
          have HKl := Aside0.mk (blk_below HKs.out hbl)
          have HGl := Aside0.mk (blk_below HGs.out hbl)
          have HHl := Aside0.mk (blk_below HHs.out hbl)
          have HSl := Aside0.mk (Kd.S_below HSs.out hbl)
          have HRl := Aside0.mk hR
          have HGN : Aside0 (w.heap.size ≤ gn ∧ ws'.heap.size ≤ gn ∧ gn ≠ P ∧ gn ≠ g ∧ gn ≠ h) := ⟨by have h1 := HBs.out.size; have h2 := blk_lt HKs.out; have h3 := blk_lt HGs.out; have h4 := blk_lt HHs.out; omega⟩
          clear hR hbl h0s HC hgn1 hgn2 HBs HKs HGs HHs HSs
          have q0 : wl.cell? ⟨h, 0, none⟩ = some (.slice A0 l0.length c0) := (blk_cell HHl.out 0).trans rfl
          have f0 : wl.frozen? ⟨h, 0, none⟩ = false := blk_frozen HHl.out 0
          obtain ⟨wh, hwh'⟩ : ∃ wh, wh = wl.setCell ⟨h, 0, none⟩ (.slice (some ⟨gn, 0, none⟩) l0.length c11) := ⟨_, rfl⟩
          have HBh : Aside0 (Below w.heap.size w wh) := ⟨by rw [hwh']; exact below_set HBl.out HN.out.2.2.1⟩
          have HKh : Aside0 (wh.heap[P]? = some (.cells #[.slice A0 l0.length c0, .slice A1 l1.length c1, .slice A2 l2.length c2] 26 (0, 0))) := ⟨by rw [hwh']; exact blk_far HKl.out HN.out.2.2.2.2 _⟩
          have HGh : Aside0 (wh.heap[g]? = some (.cells #[.slice A0 l0.length c0, .slice A1 l1.length c1, .slice A10 n10 c10] 26 (0, 0))) := ⟨by rw [hwh']; exact blk_far HGl.out HN.out.1 _⟩
          have HHh : Aside0 (wh.heap[h]? = some (.cells #[.slice (some ⟨gn, 0, none⟩) l0.length c11, .slice A1 l1.length c1, .slice A2 l2.length c2] 26 (0, 0))) := ⟨by rw [hwh']; exact blk_put (cs := #[.slice A0 l0.length c0, .slice A1 l1.length c1, .slice A2 l2.length c2]) HHl.out 0 _ rfl⟩
          have HSh : Aside0 (Kd.S KR 22 wh w.heap.size (fun k => k < ws'.heap.size) (.slice A10 n10 c10) (l2 ++ [il])) := ⟨by rw [hwh']; exact Kd.S_set HSl.out HHl.out (by decide) 0 _⟩
          have HRh : Aside0 ((Kd.int .i64).R 3 wh ws'.heap.size (fun _ => True) (.slice (some ⟨gn, 0, none⟩) l0.length c11) l0) := ⟨by rw [hwh']; exact Kd.R_set HRl.out HHl.out (by decide) 0 _⟩
          clear HBl HKl HGl HHl HSl HRl
          obtain ⟨kq, hkq⟩ : ∃ kq, kq = which % l0.length := ⟨_, rfl⟩
          have hkl : kq < l0.length := by rw [hkq]; exact Nat.mod_lt _ hl0
          have hmod : Int.tmod (which : Int) (l0.length : Int) = (kq : Int) := by rw [hkq]; exact (Int.ofNat_tmod which l0.length).symm
          have hw1 : IntKind.i64.wrap (which : Int) = (which : Int) := by rw [IntKind.wrap_i64]; omega
          have hw2 : wrap64 (which : Int) = (which : Int) := by unfold wrap64; omega
          have hn0 : ¬ ((l0.length : Int) = 0) := by omega
          have hn1 : ((l0.length : Int) == 0) = false := beq_eq_false_iff_ne.2 (by omega)
          have p0 : (wl.setCell ⟨h, 0, none⟩ (.slice (some ⟨gn, 0, none⟩) l0.length c11)).cell? ⟨P, 0, none⟩ = some (.slice A0 l0.length c0) := by rw [← hwh']; exact (blk_cell HKh.out 0).trans rfl
          have HKQ := Aside0.mk hkl
          clear hkq hl0
          go_upto_region 12 with fail
          rw [← hwh']
          obtain ⟨hx, hf⟩ := Kd.R_celln (0 : Int) HRh.out (kq : Int) (by omega) (by omega)
          rw [Int.toNat_natCast] at hx hf
          obtain ⟨v, hv⟩ : ∃ v, v = l0.getD kq 0 := ⟨_, rfl⟩
          have hvr : 0 ≤ v ∧ v ≤ 2 := by
            rw [hv, List.getD_eq_getElem?_getD, List.getElem?_eq_getElem HKQ.out]
            exact (post_needs HTH.out.2.2.2.2.2).2 _ (List.getElem_mem HKQ.out)
          have hx1 : wh.cell? ⟨gn, kq, none⟩ = some (.int .i64 v) := by rw [hx, hv]; simp [rdOf]
          have hp0 : wh.cell? ⟨h, 0, none⟩ = some (.slice (some ⟨gn, 0, none⟩) l0.length c11) := (blk_cell HHh.out 0).trans rfl
          have hw3 : IntKind.i64.wrap (v + 1) = v + 1 := by rw [IntKind.wrap_i64]; omega
          have hw4 : wrap64 (v + 1) = v + 1 := by unfold wrap64; omega
          have hkz : (kq : Int) < (l0.length : Int) := by omega
          have HV := Aside0.mk (And.intro hv hvr)
          clear hv hvr hx p0 q0 f0 hwh' hmod hw1 hw2 hn0 hn1 hkl
          go_still_tail 11, (by kernel_rfl)
          change wpList _ _ _ _ _ wh.drew
          have HBd := Aside0.mk (below_drew1 HBh.out)
          have HKd := Aside0.mk (blk_drew HKh.out)
          have HGd := Aside0.mk (blk_drew HGh.out)
          have HHd := Aside0.mk (blk_drew HHh.out)
          have HSd := Aside0.mk (Kd.S_drew HSh.out)
          have HRd := Aside0.mk (Kd.R_drew HRh.out)
          have hx2 : wh.drew.cell? ⟨gn, kq, none⟩ = some (.int .i64 v) := hx1
          have hf2 : wh.drew.frozen? ⟨gn, kq, none⟩ = false := hf
          clear hx1 hf hp0 HBh HKh HGh HHh HSh HRh
          generalize wh.drew = wd at HBd HKd HGd HHd HSd HRd hx2 hf2 ⊢
          generalize hmv : (if v + 1 < 2 then v + 1 else 2) = mv
          have hmr : l0.getD kq 0 ≤ mv ∧ mv ≤ 2 := by rw [← HV.out.1, ← hmv]; have := HV.out.2; split <;> omega
          obtain ⟨ln, hln⟩ : ∃ ln, ln = l0.set kq mv := ⟨_, rfl⟩
          have hlnl : ln.length = l0.length := by rw [hln, List.length_set]
          obtain ⟨wy, hwy⟩ : ∃ wy, wy = wd.setCell ⟨gn, kq, none⟩ (.int .i64 mv) := ⟨_, rfl⟩
          have HBy : Aside0 (Below w.heap.size w wy) := ⟨by rw [hwy]; exact below_set HBd.out HGN.out.1⟩
          have HKy : Aside0 (wy.heap[P]? = some (.cells #[.slice A0 l0.length c0, .slice A1 l1.length c1, .slice A2 l2.length c2] 26 (0, 0))) := ⟨by rw [hwy]; exact blk_far HKd.out HGN.out.2.2.1.symm _⟩
          have HGy : Aside0 (wy.heap[g]? = some (.cells #[.slice A0 l0.length c0, .slice A1 l1.length c1, .slice A10 n10 c10] 26 (0, 0))) := ⟨by rw [hwy]; exact blk_far HGd.out HGN.out.2.2.2.1.symm _⟩
          have HHy : Aside0 (wy.heap[h]? = some (.cells #[.slice (some ⟨gn, 0, none⟩) l0.length c11, .slice A1 l1.length c1, .slice A2 l2.length c2] 26 (0, 0))) := ⟨by rw [hwy]; exact blk_far HHd.out HGN.out.2.2.2.2.symm _⟩
          have HSy : Aside0 (SL KR A10 c10 wy (l2 ++ [il])) := ⟨by
            have h9 := Kd.S_far (p := ⟨gn, kq, none⟩) HSd.out (fun k hk => by have h7 := HGN.out.2.1; show k ≠ gn; omega) (.int .i64 mv)
            rw [← hwy] at h9
            obtain ⟨e1, e2, e3⟩ := Kd.S_reads' h9
            exact ⟨by omega, e3⟩⟩
          have HNy : Aside0 (SL (Kd.int .i64) (some ⟨gn, 0, none⟩) c11 wy ln) := ⟨by
            have h9 := Kd.R_putn HRd.out (kq : Int) mv
            rw [Int.toNat_natCast, ← hln] at h9
            have h8 : (Kd.int .i64).R 3 wy ws'.heap.size (fun _ => True) (.slice (some ⟨gn, 0, none⟩) l0.length c11) ln := by rw [hwy]; exact h9
            obtain ⟨e1, e2, e3⟩ := Kd.R_reads' h8
            exact ⟨by omega, e3⟩⟩
          have HLN := Aside0.mk (And.intro hln (And.intro hlnl (And.intro hmr hmv)))
          clear HBd HKd HGd HHd HSd HRd hln hlnl hmr hmv
          have z0 : wy.cell? ⟨g, 0, none⟩ = some (.slice A0 l0.length c0) := (blk_cell HGy.out 0).trans rfl
          have z1 : wy.cell? ⟨g, 1, none⟩ = some (.slice A1 l1.length c1) := (blk_cell HGy.out 1).trans rfl
          have z2 : wy.cell? ⟨g, 2, none⟩ = some (.slice A10 n10 c10) := (blk_cell HGy.out 2).trans rfl
          rw [hwy] at z0 z1 z2
          have HA := Aside0.mk (HX.out.1.below HBy.out)
          have HP1 := Aside0.mk (HX.out.2.1.below HBy.out)
          have HC2 := Aside0.mk (HX.out.2.2.1.below HBy.out)
          obtain ⟨b, HT⟩ := ready_b l0 l1 (l2 ++ [il])
          have hc := HT.out.1 HA.out HP1.out HSy.out
          rw [← HN10.out] at hc
          have HC := Aside0.mk hc
          clear hc
          go_wp2_with fail
          rw [← hwy]
          refine HC.out.mono ?_
          rintro e wz ⟨rfl, hb⟩
          have HBz := Aside0.mk (HBy.out.trans (hb.mono HBy.out.size))
          have HKz := Aside0.mk (blk_below HKy.out hb)
          have HGz := Aside0.mk (blk_below HGy.out hb)
          have HHz := Aside0.mk (blk_below HHy.out hb)
          have HSz := Aside0.mk (HSy.out.below hb)
          have HNz := Aside0.mk (HNy.out.below hb)
          have hpo := post_ev l0 l1 l2 (by have := HTH.out.1; omega) (by have := HTH.out.2.1; omega) (fun x hx => by have := HTH.out.2.2.2.1 x hx; omega) (by have := HTH.out.2.2.1; omega) (fun x hx => by have := HTH.out.2.2.2.2.1 x hx; omega)
          have hpx := post_ev l0 l1 (l2 ++ [il]) (by have := HTH.out.1; omega) (by have := HTH.out.2.1; omega) (fun x hx => by have := HTH.out.2.2.2.1 x hx; omega) (by have := HTH.out.2.2.1; simp; omega) (fun x hx => by
            rcases List.mem_append.1 hx with h7 | h7
            · have := HTH.out.2.2.2.2.1 x h7; omega
            · rw [List.mem_singleton.1 h7, HIL.out]; have := HTH.out.2.1; omega)
          have hpy := post_ev ln l1 l2 (by rw [HLN.out.2.1]; have := HTH.out.1; omega) (by have := HTH.out.2.1; omega) (fun x hx => by have := HTH.out.2.2.2.1 x hx; omega) (by have := HTH.out.2.2.1; omega) (fun x hx => by have := HTH.out.2.2.2.2.1 x hx; omega)
          have HPO := Aside0.mk hpo
          have HPX := Aside0.mk hpx
          have HPY := Aside0.mk hpy
          have HH2 : Aside0 (Harder ln (l1.map toP) l2 l0 (l1.map toP) l2) := ⟨by rw [HLN.out.1]; exact harder_need HTH.out.2.2.2.2.2 kq HKQ.out mv HLN.out.2.2.1.1 HLN.out.2.2.1.2⟩
          clear hpo hpx hpy hb HC HBy HKy HGy HHy HSy HNy HA HP1 HC2 z0 z1 z2 hwy hx2 hf2 hw3 hw4 hkz
          cases b with
          | false =>
            have y0 : wz.cell? ⟨P, 0, none⟩ = some (.slice A0 l0.length c0) := (blk_cell HKz.out 0).trans rfl
            have y1 : wz.cell? ⟨P, 1, none⟩ = some (.slice A1 l1.length c1) := (blk_cell HKz.out 1).trans rfl
            have y2 : wz.cell? ⟨P, 2, none⟩ = some (.slice A2 l2.length c2) := (blk_cell HKz.out 2).trans rfl
            have x0 : wz.cell? ⟨h, 0, none⟩ = some (.slice (some ⟨gn, 0, none⟩) l0.length c11) := (blk_cell HHz.out 0).trans rfl
            have x1 : wz.cell? ⟨h, 1, none⟩ = some (.slice A1 l1.length c1) := (blk_cell HHz.out 1).trans rfl
            have x2 : wz.cell? ⟨h, 2, none⟩ = some (.slice A2 l2.length c2) := (blk_cell HHz.out 2).trans rfl
            have hc := harder_d HNz.out (HX.out.2.1.below HBz.out) (HX.out.2.2.1.below HBz.out) (HX.out.1.below HBz.out) (HX.out.2.1.below HBz.out) (HX.out.2.2.1.below HBz.out) HPY.out HPO.out HH2.out
            rw [HLN.out.2.1] at hc
            have HC := Aside0.mk hc
            clear hc
            go_wp2_with fail
            refine HC.out.mono ?_
            rintro e wv ⟨rfl, hb⟩
            have HBv := Aside0.mk (HBz.out.trans (hb.mono HBz.out.size))
            clear hb HC y0 y1 y2 x0 x1 x2
            have HC := Aside0.mk (lawake_any wv)
            go_wp2_with fail
            refine HC.out.mono ?_
            rintro e wt ⟨rfl, hb⟩
            have HBt := Aside0.mk (HBv.out.trans (hb.mono HBv.out.size))
            clear hb HC
            go_wp2
            go_ret
            exact ⟨rfl, HBt.out⟩
          | true =>
            have y0 : wz.cell? ⟨P, 0, none⟩ = some (.slice A0 l0.length c0) := (blk_cell HKz.out 0).trans rfl
            have y1 : wz.cell? ⟨P, 1, none⟩ = some (.slice A1 l1.length c1) := (blk_cell HKz.out 1).trans rfl
            have y2 : wz.cell? ⟨P, 2, none⟩ = some (.slice A2 l2.length c2) := (blk_cell HKz.out 2).trans rfl
            have x0 : wz.cell? ⟨g, 0, none⟩ = some (.slice A0 l0.length c0) := (blk_cell HGz.out 0).trans rfl
            have x1 : wz.cell? ⟨g, 1, none⟩ = some (.slice A1 l1.length c1) := (blk_cell HGz.out 1).trans rfl
            have x2 : wz.cell? ⟨g, 2, none⟩ = some (.slice A10 n10 c10) := (blk_cell HGz.out 2).trans rfl
            have hh1 : Harder l0 (l1.map toP) (l2 ++ [il]) l0 (l1.map toP) l2 := harder_case HTH.out.2.2.2.2.2 (HT.out.2 rfl).2
            have hc := harder_d (HX.out.1.below HBz.out) (HX.out.2.1.below HBz.out) HSz.out (HX.out.1.below HBz.out) (HX.out.2.1.below HBz.out) (HX.out.2.2.1.below HBz.out) HPX.out HPO.out hh1
            rw [← HN10.out] at hc
            have HC := Aside0.mk hc
            clear hc hh1
            go_wp2_with fail
            refine HC.out.mono ?_
            rintro e wq ⟨rfl, hb⟩
            have HBq := Aside0.mk (HBz.out.trans (hb.mono HBz.out.size))
            have HKq := Aside0.mk (blk_below HKz.out hb)
            have HHq := Aside0.mk (blk_below HHz.out hb)
            have HNq := Aside0.mk (HNz.out.below hb)
            clear hb HC y0 y1 y2 x0 x1 x2 HBz HKz HGz HHz HSz HNz
            have y0 : wq.cell? ⟨P, 0, none⟩ = some (.slice A0 l0.length c0) := (blk_cell HKq.out 0).trans rfl
            have y1 : wq.cell? ⟨P, 1, none⟩ = some (.slice A1 l1.length c1) := (blk_cell HKq.out 1).trans rfl
            have y2 : wq.cell? ⟨P, 2, none⟩ = some (.slice A2 l2.length c2) := (blk_cell HKq.out 2).trans rfl
            have x0 : wq.cell? ⟨h, 0, none⟩ = some (.slice (some ⟨gn, 0, none⟩) l0.length c11) := (blk_cell HHq.out 0).trans rfl
            have x1 : wq.cell? ⟨h, 1, none⟩ = some (.slice A1 l1.length c1) := (blk_cell HHq.out 1).trans rfl
            have x2 : wq.cell? ⟨h, 2, none⟩ = some (.slice A2 l2.length c2) := (blk_cell HHq.out 2).trans rfl
            have hc := harder_d HNq.out (HX.out.2.1.below HBq.out) (HX.out.2.2.1.below HBq.out) (HX.out.1.below HBq.out) (HX.out.2.1.below HBq.out) (HX.out.2.2.1.below HBq.out) HPY.out HPO.out HH2.out
            rw [HLN.out.2.1] at hc
            have HC := Aside0.mk hc
            clear hc
            go_wp2_with fail
            refine HC.out.mono ?_
            rintro e wv ⟨rfl, hb⟩
            have HBv := Aside0.mk (HBq.out.trans (hb.mono HBq.out.size))
            clear hb HC y0 y1 y2 x0 x1 x2
            have HC := Aside0.mk (lawake_any wv)
            go_wp2_with fail
            refine HC.out.mono ?_
            rintro e wt ⟨rfl, hb⟩
            have HBt := Aside0.mk (HBv.out.trans (hb.mono HBv.out.size))
            clear hb HC
            go_wp2
            go_ret
            exact ⟨rfl, HBt.out⟩
theorem rotaCases_calls {A0 A1 A2 A3 : Option Addr} {c0 c1 c2 c3 : Nat} {w : World} {l0 : List Int} {l1 : List S119} {l2 : List (List Int)} {ws : List Int} {which : Nat} (h0 : Kd.C (Kd.int .i64) w A0 l0.length l0) (e0 : l0.length ≤ c0) (h1 : Kd.C k119 w A1 l1.length l1) (e1 : l1.length ≤ c1) (h2 : Kd.C KR w A2 l2.length l2) (e2 : l2.length ≤ c2) (h3 : Kd.C (Kd.int .u16) w A3 ws.length ws) (e3 : ws.length ≤ c3) (hwh : which < 256) :
    Calls Tryz.prog 8 #[.agg #[.slice A0 l0.length c0, .slice A1 l1.length c1, .slice A2 l2.length c2], .slice A3 ws.length c3, .int .u8 (which : Int)] w fun e w' => e = .returned (.bool true) ∧ Below w.heap.size w w' := rotaCases_walk hwh ⟨e0, h0⟩ ⟨e1, h1⟩ ⟨e2, h2⟩ ⟨e3, h3⟩
end Go.Proofs.YtekdacalkllipaaGreat.PR
end
section
/- What a given input reads as, deep: the claim's reading opened in the words of the contracts. -/
namespace Go.Proofs.YtekdacalkllipaaGreat.PR
open Go.RowKit Go.Proofs.YtekdacalkllipaaGreatW.PrintWords Go.Proofs.YtekdacalkllipaaGreatW.PrintLast Go.ChangeShapes Go.WideShapes Go.Deep
set_option linter.unusedVariables false
set_option maxRecDepth 100000

/-- Whatever is read at a type reads in the contracts' words, too. -/
def Opens {α : Type} (P : Program) (d : Kd α) (t : TypeId) : Prop :=
  ∀ {H : Type} (enc : TypeId × Value → H) (w : World) (base : Nat) (spare : Nat → Bool) (held : Bool) (fuel : Nat) (cs : List Value) (x : DataW H × List MemPlace),
    DataW.trod enc P w base spare held fuel t cs = some x → ∃ p, d.K w p cs
theorem opens_bool {P : Program} {t : TypeId} (ht : P.underlying t = some .bool) : Opens P Kd.bool t := fun enc w base spare held fuel cs x h => by
  obtain ⟨b, rfl, _⟩ := DataW.trod_bool ht h
  exact ⟨b, rfl⟩
theorem opens_int {P : Program} {t : TypeId} {k : IntKind} (ht : P.underlying t = some (.int k)) : Opens P (Kd.int k) t := fun enc w base spare held fuel cs x h => by
  obtain ⟨n, rfl, _⟩ := DataW.trod_int ht h
  exact ⟨n, rfl⟩
theorem opens_slice {P : Program} {α : Type} [Inhabited α] {d : Kd α} {t e : TypeId} (ht : P.underlying t = some (.slice e)) (hd : Opens P d e) (hs : P.cellsOf e = d.sz) : Opens P (Kd.slice e d) t := fun enc w base spare held fuel cs x h => by
  rcases open_slice ht h with ⟨rfl, rfl⟩ | ⟨a, len, cap, m, n, D, Pl, rfl, hb, hl, hm, hmm, rfl, hx⟩
  · exact ⟨[], none, 0, rfl, Nat.le_refl _, rfl, by simp, fun h => absurd h (by simp)⟩
  · have hlm : len ≤ m := by rw [hmm]; split <;> omega
    obtain ⟨p, hp⟩ := choose_lt (α := α) (p := fun i p => ∃ cs', w.cells? base (a.add (i * P.cellsOf e)) (P.cellsOf e) = some cs' ∧ d.K w p cs') (n := len) (fun i hi => by
      obtain ⟨cs', h1, h2⟩ := hx i (by omega)
      obtain ⟨p, hp⟩ := hd enc w base spare held n cs' _ h2
      exact ⟨p, cs', h1, hp⟩)
    refine ⟨(List.range len).map p, some a, cap, by simp, by simpa using hl, by simp, by unfold maxLen at hm; simp; omega, fun h0 => ⟨a, rfl, fun j q hj => ?_⟩⟩
    have hj' : j < len := by
      rcases Nat.lt_or_ge j len with h | h
      · exact h
      · rw [List.getElem?_eq_none (by simpa using h)] at hj; cases hj
    rw [List.getElem?_map, List.getElem?_range hj'] at hj
    cases hj
    obtain ⟨cs', h1, h2⟩ := hp j hj'
    obtain ⟨_, hlen, hc⟩ := World.cells?_some h1
    refine ⟨cs', by rw [hlen, hs], h2, fun i u hi => ?_⟩
    have hil : i < P.cellsOf e := by
      rw [← hlen]
      rcases Nat.lt_or_ge i cs'.length with h | h
      · exact h
      · rw [List.getElem?_eq_none h] at hi; cases hi
    have := hc i hil
    rw [hi, Go.Deep.add_add, hs] at this
    exact this
instance : Inhabited S119 := ⟨z119⟩
theorem opens_person : Opens Tryz.prog k119 119 := fun enc w base spare held fuel cs x h => by
  obtain ⟨xs, n, _, _, hl, hxl, hf⟩ := DataW.trod_struct Tryz.underlying119 h
  have hc : Tryz.prog.cellsOf 119 = 3 := by kernel_rfl
  rw [hc] at hl
  match cs, hl with
  | [a, b, c], _ =>
    match xs, hxl with
    | [x0, x1, x2], _ =>
      have f0 : DataW.trod enc Tryz.prog w base spare held n 73 (List.take (Tryz.prog.cellsOf 73) (List.drop 0 [a, b, c])) = some x0 := hf 0 _ rfl
      have f1 : DataW.trod enc Tryz.prog w base spare held n 3 (List.take (Tryz.prog.cellsOf 3) (List.drop 1 [a, b, c])) = some x1 := hf 1 _ rfl
      have f2 : DataW.trod enc Tryz.prog w base spare held n 3 (List.take (Tryz.prog.cellsOf 3) (List.drop 2 [a, b, c])) = some x2 := hf 2 _ rfl
      rw [show Tryz.prog.cellsOf 73 = 1 by kernel_rfl] at f0
      rw [show Tryz.prog.cellsOf 3 = 1 by kernel_rfl] at f1 f2
      obtain ⟨p0, A0, c0, e0, h0, g0⟩ := opens_slice Tryz.underlying73 (opens_bool Tryz.underlying4) (by kernel_rfl) enc w base spare held n _ _ f0
      obtain ⟨p1, e1⟩ := opens_int Tryz.underlying3 enc w base spare held n _ _ f1
      obtain ⟨p2, e2⟩ := opens_int Tryz.underlying3 enc w base spare held n _ _ f2
      cases e0
      cases e1
      cases e2
      exact ⟨⟨p0, p1, p2⟩, k119_mk w ⟨p0, p1, p2⟩ h0 g0⟩
theorem opens_ints : Opens Tryz.prog (Kd.slice 3 (Kd.int .i64)) 22 := opens_slice Tryz.underlying22 (opens_int Tryz.underlying3) (by kernel_rfl)
theorem opens_rows : Opens Tryz.prog (Kd.slice 22 (Kd.slice 3 (Kd.int .i64))) 24 := opens_slice Tryz.underlying24 opens_ints (by kernel_rfl)
theorem opens_people : Opens Tryz.prog (Kd.slice 119 k119) 23 := opens_slice Tryz.underlying23 opens_person (by kernel_rfl)
/-- A given post (the reference's own). -/
theorem open_post {H : Type} {enc : TypeId × Value → H} {w : World} {base : Nat} {spare : Nat → Bool} {held : Bool} {fuel : Nat} {cs : List Value} {x : DataW H × List MemPlace} (h : DataW.trod enc Tryz.prog w base spare held fuel 26 cs = some x) :
    ∃ A0 c0 l0 A1 c1 l1 A2 c2 l2, cs = [.slice A0 l0.length c0, .slice A1 l1.length c1, .slice A2 l2.length c2] ∧ Kd.C (Kd.int .i64) w A0 l0.length l0 ∧ l0.length ≤ c0 ∧ Kd.C k119 w A1 l1.length l1 ∧ l1.length ≤ c1 ∧ Kd.C (Kd.slice 3 (Kd.int .i64)) w A2 l2.length l2 ∧ l2.length ≤ c2 := by
  obtain ⟨xs, n, _, _, hl, hxl, hf⟩ := DataW.trod_struct Tryz.underlying26 h
  have hc : Tryz.prog.cellsOf 26 = 3 := by kernel_rfl
  rw [hc] at hl
  match cs, hl with
  | [a, b, c], _ =>
    match xs, hxl with
    | [x0, x1, x2], _ =>
      have f0 : DataW.trod enc Tryz.prog w base spare held n 22 (List.take (Tryz.prog.cellsOf 22) (List.drop 0 [a, b, c])) = some x0 := hf 0 _ rfl
      have f1 : DataW.trod enc Tryz.prog w base spare held n 23 (List.take (Tryz.prog.cellsOf 23) (List.drop 1 [a, b, c])) = some x1 := hf 1 _ rfl
      have f2 : DataW.trod enc Tryz.prog w base spare held n 24 (List.take (Tryz.prog.cellsOf 24) (List.drop 2 [a, b, c])) = some x2 := hf 2 _ rfl
      rw [show Tryz.prog.cellsOf 22 = 1 by kernel_rfl] at f0
      rw [show Tryz.prog.cellsOf 23 = 1 by kernel_rfl] at f1
      rw [show Tryz.prog.cellsOf 24 = 1 by kernel_rfl] at f2
      obtain ⟨p0, A0, c0, e0, h0, g0⟩ := opens_ints enc w base spare held n _ _ f0
      obtain ⟨p1, A1, c1, e1, h1, g1⟩ := opens_people enc w base spare held n _ _ f1
      obtain ⟨p2, A2, c2, e2, h2, g2⟩ := opens_rows enc w base spare held n _ _ f2
      cases e0
      cases e1
      cases e2
      exact ⟨A0, c0, p0, A1, c1, p1, A2, c2, p2, rfl, g0, h0, g1, h1, g2, h2⟩
end Go.Proofs.YtekdacalkllipaaGreat.PR
end
section
/- A given list of words, and a given byte, read in the contracts' words. -/
namespace Go.Proofs.YtekdacalkllipaaGreat.PR
open Go.RowKit Go.Proofs.YtekdacalkllipaaGreatW.PrintWords Go.Proofs.YtekdacalkllipaaGreatW.PrintLast Go.ChangeShapes Go.WideShapes Go.Deep
set_option linter.unusedVariables false
set_option maxRecDepth 100000

theorem opens_words : Opens Tryz.prog (Kd.slice 179 (Kd.int .u16)) 56 := opens_slice Tryz.underlying56 (opens_int Tryz.underlying179) (by kernel_rfl)
/-- A given list of words. -/
theorem open_words {H : Type} {enc : TypeId × Value → H} {w : World} {base : Nat} {spare : Nat → Bool} {held : Bool} {fuel : Nat} {cs : List Value} {x : DataW H × List MemPlace} (h : DataW.trod enc Tryz.prog w base spare held fuel 56 cs = some x) :
    ∃ A c l, cs = [.slice A l.length c] ∧ Kd.C (Kd.int .u16) w A l.length l ∧ l.length ≤ c := by
  obtain ⟨p, A, c, e, h, g⟩ := opens_words enc w base spare held fuel cs x h
  exact ⟨A, c, p, e, g, h⟩
/-- A given byte. -/
theorem open_byte {H : Type} {enc : TypeId × Value → H} {w : World} {base : Nat} {spare : Nat → Bool} {held : Bool} {fuel : Nat} {cs : List Value} {x : DataW H × List MemPlace} (h : DataW.trod enc Tryz.prog w base spare held fuel 5 cs = some x) :
    ∃ n : Nat, cs = [.int .u8 (n : Int)] ∧ n < 256 := by
  obtain ⟨n, rfl, _, hw⟩ := DataW.trod_int Tryz.underlying5 h
  simp only [Lit.wf, Bool.and_eq_true, decide_eq_true_eq] at hw
  have h1 : (0 : Int) ≤ n := hw.1
  have h2 : n ≤ 255 := hw.2
  exact ⟨n.toNat, by rw [Int.toNat_of_nonneg h1], by omega⟩
end Go.Proofs.YtekdacalkllipaaGreat.PR
end
section
/- The row of RotaCases. -/
namespace Go.Proofs.YtekdacalkllipaaGreat.rotaCases
open Go.ChangeShapes Go.WideShapes Go.ChangeAt Go.RowKit Go.Proofs.YtekdacalkllipaaGreat.PR Go.Proofs.YtekdacalkllipaaGreatW.PrintWords
set_option linter.unusedVariables false
theorem own : ownKnob Tryz.prog.godebug = none := by kernel_rfl
theorem laidOut : laidOutB Tryz.prog = true := by kernel_rfl
set_option maxRecDepth 100000 in
theorem lifted (os : Os) (started : os.Started) (H : Type) (enc : TypeId × Value → H) :
    ReturnsInHanded {} Tryz.checked os 8 .any (Rows.rotaCasesSpec.pre6 enc Tryz.prog Tryz.f8 Rows.rotaCasesRow.domain false) (Rows.rotaCasesSpec.post enc Tryz.prog Tryz.f8 false true false false) := by
  refine returnsInHanded_of_change_sized (C := Tryz.checked) own started (by kernel_rfl) Tryz.func8
    (ChangeSpec.witness6 (enc := enc) (C := Tryz.checked) false ⟨#[], #[.agg #[.slice none 0 0, .slice none 0 0, .slice none 0 0], .slice none 0 0, .int .u8 0], []⟩ 8 (by kernel_rfl) (by kernel_rfl) (by kernel_rfl) (by kernel_rfl)) ?_
  intro W base args ds gs before hval0 hW hcnd hsz0 _
  have hval : ∀ (j : Nat) t v, Tryz.f8.params[j]? = some t → args[j]? = some v → Value.okWide Tryz.prog W .any base t v := hval0
  have hW' := hW
  obtain ⟨p, q, hA0, hV, rfl, hfz, hnd⟩ := hW
  have hA : DataW.TrodAll enc Tryz.prog W 0 (fun _ => true) true Tryz.f8.params.toList args.toList ds p := hA0
  rw [Tryz.params8] at hA hval
  obtain ⟨v0, vs0, d0, ds0, p0, q0, hargs, rfl, rfl, h0, r0⟩ := trodAll_cons hA
  obtain ⟨v1, vs1, d1, ds1, p1, q1, rfl, rfl, rfl, h1, r1⟩ := trodAll_cons r0
  obtain ⟨v2, vs2, d2, ds2, p2, q2, rfl, rfl, rfl, h2, r2⟩ := trodAll_cons r1
  obtain ⟨rfl, rfl, rfl⟩ := trodAll_nil r2
  obtain rfl : args = #[v0, v1, v2] := by cases args; simp_all
  obtain ⟨rfl, rfl⟩ := trodVars_none hV
  have k0 := h0
  have lt0 : ∀ x ∈ p0, x.block < W.heap.size := by obtain ⟨m, hm⟩ := k0; exact DataW.trod_lt m _ _ _ hm
  obtain ⟨cs0, rfl, _⟩ := okWide_struct Tryz.underlying26 (hval 0 26 v0 rfl rfl)
  obtain ⟨fuel0, hf0⟩ := h0
  obtain ⟨A0_0, c0_0, l0_0, A0_1, c0_1, l0_1, A0_2, c0_2, l0_2, hcs0, g0_0, e0_0, g0_1, e0_1, g0_2, e0_2⟩ := open_post hf0
  obtain rfl : cs0 = #[.slice A0_0 l0_0.length c0_0, .slice A0_1 l0_1.length c0_1, .slice A0_2 l0_2.length c0_2] := Array.ext' hcs0
  have k1 := h1
  have lt1 : ∀ x ∈ p1, x.block < W.heap.size := by obtain ⟨m, hm⟩ := k1; exact DataW.trod_lt m _ _ _ hm
  obtain ⟨a1, len1, cap1, rfl⟩ := okWide_slice Tryz.underlying56 (hval 1 56 v1 rfl rfl)
  obtain ⟨fuel1, hf1⟩ := h1
  obtain ⟨A1, c1, l1, hcs1, g1, e1⟩ := open_words hf1
  simp [Value.cells] at hcs1
  obtain ⟨rfl, rfl, rfl⟩ := hcs1
  have k2 := h2
  have lt2 : ∀ x ∈ p2, x.block < W.heap.size := by obtain ⟨m, hm⟩ := k2; exact DataW.trod_lt m _ _ _ hm
  obtain ⟨a2, rfl⟩ := okWide_int Tryz.underlying5 (hval 2 5 v2 rfl rfl)
  obtain ⟨fuel2, hf2⟩ := h2
  obtain ⟨n2, hcs2, g2⟩ := open_byte hf2
  simp [Value.cells] at hcs2
  subst hcs2
  clear hA0 hval0 hsz0
  refine (rotaCases_calls g0_0 e0_0 g0_1 e0_1 g0_2 e0_2 g1 e1 g2).mono fun e W' ⟨he, bel⟩ => ?_
  subst he
  exact ⟨_, rfl, _, _, _, [], _, [], hW', trodAll_mk1 (shut_bool Tryz.underlying4 _), (trodAll_cons_mk (Below.trod laidOut (by kernel_rfl) (of_decide_eq_true (by kernel_rfl)) k0 bel lt0) (trodAll_cons_mk (Below.trod laidOut (by kernel_rfl) (of_decide_eq_true (by kernel_rfl)) k1 bel lt1) (trodAll_cons_mk (Below.trod laidOut (by kernel_rfl) (of_decide_eq_true (by kernel_rfl)) k2 bel lt2) trodAll_mk0))), rfl, bel.frame _, fun h => by cases h⟩
theorem over : Rows.rotaCasesRow.holds Tryz.pinned (OpenSpec.ofChange Rows.rotaCasesSpec) :=
  OpenClaim.holds_of_wide 8 Tryz.f8 rfl rfl rfl rfl rfl rfl rfl ⟨rfl, rfl, rfl, rfl, rfl⟩ rfl rfl rfl rfl rfl (by kernel_rfl) Tryz.func8 (by kernel_rfl)
    (of_decide_eq_true (by kernel_rfl)) (by unfold Func.isWrapper; first | (rw [if_pos (by decide +kernel)]; kernel_rfl) | (rw [if_neg (by decide +kernel)]; exact ⟨rfl, rfl⟩))
    (fun os started H enc _ => lifted os started H enc)
theorem proved : Rows.RotaCasesSaid := over
end Go.Proofs.YtekdacalkllipaaGreat.rotaCases
namespace Go.Proofs.YtekdacalkllipaaGreat
/-- The row, under a short name, for the claim. -/
theorem rotaCases_holds : Rows.RotaCasesSaid := rotaCases.proved
end Go.Proofs.YtekdacalkllipaaGreat
end
