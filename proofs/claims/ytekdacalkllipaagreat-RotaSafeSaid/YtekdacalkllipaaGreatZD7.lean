import Derived.Below
import Derived.ChangeOld
import Derived.ChangeSame
import Derived.Deep.Slices
import Derived.OpenShut
import Derived.ProofKit
import Derived.ShutString
import Derived.SizedLaws
import Derived.Test.YtekdacalkllipaaGreatRows
import Derived.WalkKit
import Derived.Test.YtekdacalkllipaaGreatZD6
section
/- The program's rules are the document's. -/
namespace Go.Proofs.YtekdacalkllipaaGreat.PR
open Go.RowKit Go.Shelf Go.Proofs.YtekdacalkllipaaGreatW.PrintWords Go.Proofs.YtekdacalkllipaaGreatW.PrintLast Go.Proofs.YtekdacalkllipaaGreatW.PrintMore
set_option linter.unusedVariables false
set_option linter.unusedSimpArgs false

def lstB (p : Nat → Bool) : Nat → Int
  | 0 => -1
  | n + 1 => if p n then (n : Int) else lstB p n
theorem lstB_lt (p : Nat → Bool) : ∀ n, lstB p n < n
  | 0 => by simp [lstB]
  | n + 1 => by have := lstB_lt p n; unfold lstB; split <;> omega
theorem lstB_on (p : Nat → Bool) : ∀ n b, b < n → p b = true → (b : Int) ≤ lstB p n
  | 0, b, h, _ => by omega
  | n + 1, b, h, hb => by
    unfold lstB
    split
    · omega
    · rename_i hn
      have : b ≠ n := fun e => hn (e ▸ hb)
      exact lstB_on p n b (by omega) hb
theorem lstB_is (p : Nat → Bool) : ∀ n, lstB p n = -1 ∨ ∃ b, b < n ∧ p b = true ∧ lstB p n = b
  | 0 => .inl rfl
  | n + 1 => by
    unfold lstB
    split
    · rename_i hn; exact .inr ⟨n, by omega, hn, rfl⟩
    · rcases lstB_is p n with h | ⟨b, h1, h2, h3⟩
      · exact .inl h
      · exact .inr ⟨b, by omega, h2, h3⟩
/-- Rest, as the last watch tells it. -/
theorem rest_last (p : Nat → Bool) (rest : Int) (a : Nat) : ((List.range a).all fun b => !p b || decide (rest ≤ (a : Int) - b - 1)) = decide (lstB p a = -1 ∨ rest < (a : Int) - lstB p a) := by
  rw [Bool.eq_iff_iff, List.all_eq_true, decide_eq_true_iff]
  constructor
  · intro h
    rcases lstB_is p a with h1 | ⟨b, h1, h2, h3⟩
    · exact .inl h1
    · right
      have := h b (List.mem_range.2 h1)
      rw [h2] at this
      simp at this
      omega
  · intro h b hb
    have hb := List.mem_range.1 hb
    cases hp : p b with
    | false => rfl
    | true =>
      have := lstB_on p a b hb hp
      simp
      rcases h with h | h <;> omega
theorem rdP (people : List S119) (i : Nat) (hi : i < people.length) : rd_T128 (people.map toP) (i : Int) = toP (people.getD i z119) := by
  unfold rd_T128
  rw [Int.toNat_natCast, List.getD_eq_getElem?_getD, List.getElem?_map, List.getElem?_eq_getElem hi, List.getD_eq_getElem?_getD, List.getElem?_eq_getElem hi]
  rfl
theorem incB_lt {l : List Int} {n : Int} (h : incB l n = true) : ∀ i, i < l.length → ∀ j, j < i → l.getD j 0 < l.getD i 0
  | 0, _, j, hj => by omega
  | i + 1, hi, j, hj => by
    rw [← rise_inc] at h
    have h1 := List.all_eq_true.1 h (i + 1) (List.mem_range.2 hi)
    unfold riseAt at h1
    simp only [Bool.and_eq_true, Bool.or_eq_true, decide_eq_true_eq, Nat.add_sub_cancel] at h1
    have h2 : l.getD i 0 < l.getD (i + 1) 0 := by omega
    by_cases e : j = i
    · subst e; exact h2
    · have := incB_lt (n := n) (by rw [← rise_inc]; exact h) i (by omega) j (by omega)
      omega
theorem incB_nodup {l : List Int} {n : Int} (h : incB l n = true) : l.Nodup := by
  unfold List.Nodup
  rw [List.pairwise_iff_getElem]
  intro i j hi hj hij
  have := incB_lt h j hj i hij
  rw [List.getD_eq_getElem?_getD, List.getElem?_eq_getElem hi, List.getD_eq_getElem?_getD, List.getElem?_eq_getElem hj] at this
  simp only [Option.getD_some] at this
  omega
/-- What stands behind the watches before a: of each person the last one, and how many. -/
def StoodAt (n : Nat) (r : List (List Int)) (a : Nat) (s : Std) : Prop := ∀ i, i < n → s.last i = lstB (onB r i) a ∧ s.many i = (cntB (onB r i) a : Int)
theorem std_put (s : Std) (i : Nat) (hi : i < 4) (l m : Int) : (∀ j, j < 4 → j ≠ i → (s.put i l m).last j = s.last j ∧ (s.put i l m).many j = s.many j) ∧ (s.put i l m).last i = l ∧ (s.put i l m).many i = m := by
  rcases (by omega : i = 0 ∨ i = 1 ∨ i = 2 ∨ i = 3) with rfl | rfl | rfl | rfl <;> refine ⟨fun j hj hne => ?_, rfl, rfl⟩ <;> rcases (by omega : j = 0 ∨ j = 1 ∨ j = 2 ∨ j = 3) with rfl | rfl | rfl | rfl <;> first | exact absurd rfl hne | exact ⟨rfl, rfl⟩
def stepOkB (people : List S119) (r : List (List Int)) (a i : Nat) : Bool :=
  decide ((people.getD i z119).f0.getD a false = true ∧ (cntB (onB r i) a : Int) < (people.getD i z119).f2 ∧ (lstB (onB r i) a = -1 ∨ (people.getD i z119).f1 < (a : Int) - lstB (onB r i) a))
/-- One watch's people, one behind the other. -/
theorem after_spec (people : List S119) (hp : people.length ≤ 4) (r : List (List Int)) (a : Nat) : ∀ (on : List Int) (done : List Int) (s : Std), (done ++ on).Nodup → (∀ x ∈ on, 0 ≤ x ∧ x < people.length) →
    (∀ i, i < people.length → (i : Int) ∉ done → s.last i = lstB (onB r i) a ∧ s.many i = (cntB (onB r i) a : Int)) →
    (∀ i, i < people.length → (i : Int) ∈ done → s.last i = a ∧ s.many i = (cntB (onB r i) a : Int) + 1) →
    ((afterS (people.map toP) (a : Int) on s).2 = true ↔ ∀ x ∈ on, stepOkB people r a x.toNat = true) ∧
    ((afterS (people.map toP) (a : Int) on s).2 = true → ∀ i, i < people.length → ((i : Int) ∉ done ++ on → (afterS (people.map toP) (a : Int) on s).1.last i = lstB (onB r i) a ∧ (afterS (people.map toP) (a : Int) on s).1.many i = (cntB (onB r i) a : Int)) ∧ ((i : Int) ∈ done ++ on → (afterS (people.map toP) (a : Int) on s).1.last i = a ∧ (afterS (people.map toP) (a : Int) on s).1.many i = (cntB (onB r i) a : Int) + 1))
  | [], done, s, hnd, hin, h1, h2 => by
    refine ⟨by simp [afterS], fun _ i hi => ?_⟩
    rw [List.append_nil]
    exact ⟨h1 i hi, h2 i hi⟩
  | x :: on, done, s, hnd, hin, h1, h2 => by
    have hx := hin x List.mem_cons_self
    obtain ⟨i, rfl⟩ : ∃ i : Nat, x = (i : Int) := ⟨x.toNat, by omega⟩
    have hi : i < people.length := by omega
    have hnd' : (i : Int) ∉ done := fun h => by
      rw [List.nodup_append] at hnd
      exact hnd.2.2 _ h _ List.mem_cons_self rfl
    have hs := h1 i hi hnd'
    have hstep : stepB (people.map toP) (a : Int) s (i : Int) = stepOkB people r a i := by
      unfold stepB stepOkB
      rw [rdP people i hi, Int.toNat_natCast, Int.toNat_natCast, hs.1, hs.2]
      rfl
    unfold afterS
    rw [hstep]
    cases hb : stepOkB people r a i with
    | false =>
      simp only [Bool.false_eq_true, if_false]
      refine ⟨⟨fun h => (by cases h), fun h => ?_⟩, fun h => (by cases h)⟩
      have := h (i : Int) List.mem_cons_self
      rw [Int.toNat_natCast, hb] at this
      cases this
    | true =>
      simp only [if_true]
      obtain ⟨p1, p2, p3⟩ := std_put s i (by omega) (a : Int) (s.many i + 1)
      have hnn : (done ++ [(i : Int)] ++ on).Nodup := by rw [List.append_assoc]; exact hnd
      have ih := after_spec people hp r a on (done ++ [(i : Int)]) (s.put i (a : Int) (s.many i + 1)) hnn (fun y hy => hin y (List.mem_cons_of_mem _ hy))
        (fun j hj hjd => by
          have hne : j ≠ i := fun e => hjd (by rw [e]; simp)
          have := p1 j (by omega) hne
          rw [this.1, this.2]
          exact h1 j hj (fun h => hjd (List.mem_append_left _ h)))
        (fun j hj hjd => by
          by_cases e : j = i
          · subst e; rw [p2, p3, hs.2]; exact ⟨rfl, rfl⟩
          · have := p1 j (by omega) e
            rw [this.1, this.2]
            refine h2 j hj ?_
            rcases List.mem_append.1 hjd with h | h
            · exact h
            · exact absurd (show j = i by have h9 : (j : Int) = i := (by simpa using h); omega) e)
      rw [Int.toNat_natCast]
      refine ⟨⟨fun h y hy => ?_, fun h => ih.1.2 (fun y hy => h y (List.mem_cons_of_mem _ hy))⟩, fun h j hj => ?_⟩
      · rcases List.mem_cons.1 hy with rfl | hy
        · rw [Int.toNat_natCast]; exact hb
        · exact ih.1.1 h y hy
      · have := ih.2 h j hj
        rw [List.append_assoc] at this
        exact this
theorem rules_spec (people : List S119) (hp : people.length ≤ 4) (r : List (List Int)) (hr : ∀ l ∈ r, incB l people.length = true) : ∀ (d a : Nat) (s : Std), a + d = r.length → StoodAt people.length r a s →
    (rulesS (people.map toP) (a : Int) (r.drop a) s = true ↔ ∀ b, a ≤ b → b < r.length → ∀ x ∈ r.getD b [], stepOkB people r b x.toNat = true)
  | 0, a, s, had, hs => by
    rw [List.drop_of_length_le (by omega)]
    simp only [rulesS, true_iff]
    intro b h1 h2; omega
  | d + 1, a, s, had, hs => by
    have hal : a < r.length := by omega
    rw [List.drop_eq_getElem_cons hal]
    have hm := List.getElem_mem hal
    have hinc := hr _ hm
    have hbd := incB_mem hinc
    have hsp := after_spec people hp r a r[a] [] s (by rw [List.nil_append]; exact incB_nodup hinc) hbd (fun i hi _ => hs i hi) (fun i hi h => by cases h)
    have hge : r.getD a [] = r[a] := by rw [List.getD_eq_getElem?_getD, List.getElem?_eq_getElem hal]; rfl
    unfold rulesS
    cases hc : (afterS (people.map toP) (a : Int) r[a] s).2 with
    | false =>
      simp only [Bool.false_eq_true, if_false, false_iff]
      intro h
      have := hsp.1.2 (fun x hx => h a (Nat.le_refl _) hal x (by rw [hge]; exact hx))
      rw [hc] at this
      cases this
    | true =>
      simp only [if_true]
      have hst := hsp.2 hc
      have hs' : StoodAt people.length r (a + 1) (afterS (people.map toP) (a : Int) r[a] s).1 := fun i hi => by
        have h := hst i hi
        rw [List.nil_append] at h
        by_cases hon : (i : Int) ∈ r[a]
        · have e : onB r i a = true := by unfold onB; rw [hge]; exact List.contains_iff_mem.2 hon
          rw [lstB, cntB, e, if_pos rfl, if_pos rfl]
          have := h.2 hon
          exact ⟨this.1, by rw [this.2]; push_cast; rfl⟩
        · have e : onB r i a = false := by
            unfold onB; rw [hge]
            cases hcc : r[a].contains (i : Int) with
            | false => rfl
            | true => exact absurd (List.contains_iff_mem.1 hcc) hon
          rw [lstB, cntB, e]
          simp only [Bool.false_eq_true, if_false, Nat.add_zero]
          exact h.1 hon
      have ih := rules_spec people hp r hr d (a + 1) _ (by omega) hs'
      have hcast : ((a : Int) + 1) = ((a + 1 : Nat) : Int) := by push_cast; rfl
      rw [hcast, ih]
      have h0 := hsp.1.1 hc
      constructor
      · intro h b h1 h2 x hx
        by_cases e : b = a
        · subst e; rw [hge] at hx; exact h0 x hx
        · exact h b (by omega) h2 x hx
      · intro h b h1 h2 x hx
        exact h b (by omega) h2 x hx
theorem cnt_lt (p : Nat → Bool) (m : Int) : ∀ n, ((∀ a, a < n → p a = true → (cntB p a : Int) < m) ↔ ((cntB p n : Int) ≤ m ∨ cntB p n = 0))
  | 0 => by simp [cntB]
  | n + 1 => by
    have ih := cnt_lt p m n
    constructor
    · intro h
      have := ih.1 (fun a ha hp => h a (by omega) hp)
      unfold cntB
      cases hp : p n with
      | false => simpa using this
      | true => have := h n (by omega) hp; simp; omega
    · intro h a ha hp
      unfold cntB at h
      by_cases e : a = n
      · subst e; rw [hp] at h; simp at h; omega
      · refine ih.2 ?_ a (by omega) hp
        cases hpn : p n with
        | false => rw [hpn] at h; simpa using h
        | true => rw [hpn] at h; simp at h; omega
theorem rules_same (need : List Int) (people : List S119) (cases r : List (List Int)) (h : rotaErr need (people.map toP) cases r = 0) : rulesS (people.map toP) 0 r std0 = (List.range people.length).all fun i => perB (people.getD i z119) r i := by
  obtain ⟨hpe, hrl, hinc⟩ := rotaErr_ok h
  simp only [List.length_map] at hinc
  have hp4 : people.length ≤ 4 := by
    unfold postErr at hpe
    simp only [List.length_map] at hpe
    by_cases b : 5 < need.length ∨ 4 < people.length ∨ 4 < cases.length
    · rw [if_pos b] at hpe; cases hpe
    · omega
  have hmost : ∀ x ∈ people, 0 ≤ x.f2 := fun x hx => by
    unfold postErr at hpe
    split at hpe
    · cases hpe
    · split at hpe
      · cases hpe
      · rename_i hb
        simp only [not_or, Bool.not_eq_false] at hb
        have := List.all_eq_true.1 hb.2.2.2.1 (toP x) (List.mem_map_of_mem hx)
        unfold personOk toP at this
        simp at this
        omega
  have hst : StoodAt people.length r 0 std0 := fun i hi => by
    rcases (by omega : i = 0 ∨ i = 1 ∨ i = 2 ∨ i = 3) with rfl | rfl | rfl | rfl <;> exact ⟨rfl, rfl⟩
  have hs := rules_spec people hp4 r hinc r.length 0 std0 (by omega) hst
  rw [List.drop_zero] at hs
  rw [Bool.eq_iff_iff]
  refine Iff.trans hs ?_
  rw [List.all_eq_true]
  constructor
  · intro hh i hi
    have hi := List.mem_range.1 hi
    have hmem : people.getD i z119 ∈ people := by rw [List.getD_eq_getElem?_getD, List.getElem?_eq_getElem hi]; exact List.getElem_mem hi
    have key : ∀ a, a < r.length → onB r i a = true → stepOkB people r a i = true := fun a ha hon => by
      have := hh a (Nat.zero_le _) ha (i : Int) (List.contains_iff_mem.1 hon)
      rwa [Int.toNat_natCast] at this
    unfold perB
    rw [Bool.and_eq_true, decide_eq_true_iff, List.all_eq_true]
    refine ⟨fun a ha => ?_, ?_⟩
    · have ha := List.mem_range.1 ha
      cases hon : onB r i a with
      | false => rfl
      | true =>
        have hk := of_decide_eq_true (key a ha hon)
        unfold okAt
        rw [rest_last, hk.1, decide_eq_true hk.2.2]; rfl
    · rcases (cnt_lt (onB r i) (people.getD i z119).f2 r.length).1 (fun a ha hon => (of_decide_eq_true (key a ha hon)).2.1) with h1 | h1
      · exact h1
      · rw [h1]; exact hmost _ hmem
  · intro hh b _ hb x hx
    have hge : r.getD b [] ∈ r := by rw [List.getD_eq_getElem?_getD, List.getElem?_eq_getElem hb]; exact List.getElem_mem hb
    have hbd := incB_mem (hinc _ hge) x hx
    obtain ⟨i, rfl⟩ : ∃ i : Nat, x = (i : Int) := ⟨x.toNat, by omega⟩
    have hi : i < people.length := by omega
    have h1 := hh i (List.mem_range.2 hi)
    unfold perB at h1
    rw [Bool.and_eq_true, decide_eq_true_iff, List.all_eq_true] at h1
    have hon : onB r i b = true := List.contains_iff_mem.2 hx
    have h2 := h1.1 b (List.mem_range.2 hb)
    rw [hon] at h2
    unfold okAt at h2
    rw [rest_last] at h2
    simp only [Bool.not_true, Bool.false_or, Bool.and_eq_true, decide_eq_true_iff] at h2
    have h3 := (cnt_lt (onB r i) (people.getD i z119).f2 r.length).2 (.inl h1.2) b hb hon
    rw [Int.toNat_natCast]
    exact decide_eq_true ⟨h2.1, h3, h2.2⟩
end Go.Proofs.YtekdacalkllipaaGreat.PR
end
section
/- What 'fewest' computes: the fewest duties of the rotas that can be. -/
namespace Go.Proofs.YtekdacalkllipaaGreat.PR
open Go.RowKit Go.Shelf Go.Proofs.YtekdacalkllipaaGreatW.PrintWords Go.Proofs.YtekdacalkllipaaGreatW.PrintLast Go.Proofs.YtekdacalkllipaaGreatW.PrintMore
set_option linter.unusedVariables false
set_option linter.unusedSimpArgs false

def Std.sum (s : Std) : Int := s.b0 + s.b1 + s.b2 + s.b3
theorem put_sum (s : Std) (i : Nat) (l : Int) : (s.put i l (s.many i + 1)).sum = s.sum + 1 := by
  match i with
  | 0 => show s.b0 + 1 + s.b1 + s.b2 + s.b3 = s.b0 + s.b1 + s.b2 + s.b3 + 1; omega
  | 1 => show s.b0 + (s.b1 + 1) + s.b2 + s.b3 = s.b0 + s.b1 + s.b2 + s.b3 + 1; omega
  | 2 => show s.b0 + s.b1 + (s.b2 + 1) + s.b3 = s.b0 + s.b1 + s.b2 + s.b3 + 1; omega
  | n + 3 => show s.b0 + s.b1 + s.b2 + (s.b3 + 1) = s.b0 + s.b1 + s.b2 + s.b3 + 1; omega
theorem after_sum (people : List S128) (w : Int) : ∀ (on : List Int) (s : Std), (afterS people w on s).2 = true → (afterS people w on s).1.sum = s.sum + on.length
  | [], s, _ => by simp [afterS]
  | x :: on, s, h => by
    unfold afterS at h ⊢
    cases hb : stepB people w s x with
    | false => rw [hb] at h; simp at h
    | true =>
      rw [hb] at h
      simp only [if_true] at h ⊢
      rw [after_sum people w on _ h, put_sum, List.length_cons]
      push_cast; omega
/-- The shortcut at a list that changes nothing never tells. -/
theorem can_eq (k : Wk) (watch : Int) (s : Std) (i : Nat) : k.can watch s i = ((afterS k.people watch (rd_L1 k.lists i) s).2 && holdsB k.need k.cases (rd_L1 k.lists i) watch) := by
  unfold Wk.can
  cases ha : (afterS k.people watch (rd_L1 k.lists i) s).2 with
  | false => simp
  | true =>
    cases hh : holdsB k.need k.cases (rd_L1 k.lists i) watch with
    | false => simp
    | true =>
      simp only [Bool.and_true, Bool.true_and]
      rw [Bool.not_eq_true', Bool.and_eq_false_iff]
      by_cases hn : 0 < k.need.getD watch.toNat 0
      · left
        cases hs : (afterS k.people watch (rd_L1 k.lists i) s).1.same s with
        | false => rfl
        | true =>
          exfalso
          have hsum := after_sum k.people watch (rd_L1 k.lists i) s ha
          have e2 : (afterS k.people watch (rd_L1 k.lists i) s).1.sum = s.sum := by
            unfold Std.same at hs
            obtain ⟨_, h1, _, h2, _, h3, _, h4⟩ := of_decide_eq_true hs
            unfold Std.sum
            rw [h1, h2, h3, h4]
          have hl : (rd_L1 k.lists i) = [] := List.length_eq_zero_iff.1 (by omega)
          unfold holdsB at hh
          have := List.all_eq_true.1 hh 0 (List.mem_range.2 (by omega))
          rw [hl] at this
          simp [awakeN] at this
          simp at hn
          omega
      · right
        exact decide_eq_false hn
/-- A rota from a watch on, of the work's lists, that keeps the rules and holds. -/
def Wk.fine (k : Wk) : Int → Std → List (List Int) → Prop
  | _, _, [] => True
  | watch, s, on :: r => (∃ i, i < k.lists.length ∧ rd_L1 k.lists i = on) ∧ (afterS k.people watch on s).2 = true ∧ holdsB k.need k.cases on watch = true ∧ k.fine (watch + 1) (afterS k.people watch on s).1 r
theorem foldl_min_iff (g : Nat → Int) (v : Int) : ∀ (l : List Nat) (n : Int), (l.foldl (fun n i => min n (g i)) n ≤ v ↔ n ≤ v ∨ ∃ i ∈ l, g i ≤ v)
  | [], n => by simp
  | i :: l, n => by
    rw [List.foldl_cons, foldl_min_iff g v l]
    constructor
    · rintro (h | ⟨j, hj, h⟩)
      · by_cases h2 : n ≤ v
        · exact .inl h2
        · exact .inr ⟨i, List.mem_cons_self, by omega⟩
      · exact .inr ⟨j, List.mem_cons_of_mem _ hj, h⟩
    · rintro (h | ⟨j, hj, h⟩)
      · exact .inl (by omega)
      · rcases List.mem_cons.1 hj with rfl | hj
        · exact .inl (by omega)
        · exact .inr ⟨j, hj, h⟩
/-- So many duties serve just where a rota has no more. -/
theorem few_iff (k : Wk) : ∀ (f : Nat) (watch : Int) (s : Std) (v : Int), v < 1024 → 0 ≤ v → (k.few f watch s ≤ v ↔ ∃ r : List (List Int), r.length = f ∧ k.fine watch s r ∧ ((r.map List.length).sum : Int) ≤ v)
  | 0, watch, s, v, h1, h0 => by
    unfold Wk.few
    constructor
    · intro _
      exact ⟨[], rfl, trivial, by simpa using h0⟩
    · intro _; exact h0
  | f + 1, watch, s, v, h1, h0 => by
    unfold Wk.few
    rw [foldl_min_iff]
    constructor
    · rintro (h | ⟨i, hi, h⟩)
      · omega
      · obtain ⟨hi1, hi2⟩ := List.mem_filter.1 hi
        have hi1 := List.mem_range.1 hi1
        rw [can_eq, Bool.and_eq_true] at hi2
        have hb := (k.few_bd f (watch + 1) (afterS k.people watch (rd_L1 k.lists i) s).1).1
        obtain ⟨r, r1, r2, r3⟩ := (few_iff k f (watch + 1) (afterS k.people watch (rd_L1 k.lists i) s).1 (v - (rd_L1 k.lists i).length) (by omega) (by omega)).1 (by omega)
        refine ⟨rd_L1 k.lists i :: r, by rw [List.length_cons, r1], ⟨⟨i, hi1, rfl⟩, hi2.1, hi2.2, r2⟩, ?_⟩
        rw [List.map_cons, List.sum_cons]
        push_cast; omega
    · rintro ⟨r, r1, r2, r3⟩
      cases r with
      | nil => simp at r1
      | cons on r =>
        obtain ⟨⟨i, hi, hon⟩, ha, hh, hf⟩ := r2
        subst hon
        rw [List.map_cons, List.sum_cons] at r3
        push_cast at r3
        right
        refine ⟨i, List.mem_filter.2 ⟨List.mem_range.2 hi, by rw [can_eq, ha, hh]; rfl⟩, ?_⟩
        have h9 := (few_iff k f (watch + 1) (afterS k.people watch (rd_L1 k.lists i) s).1 (v - (rd_L1 k.lists i).length) (by omega) (by omega)).2 ⟨r, by simpa using r1, hf, by omega⟩
        omega
end Go.Proofs.YtekdacalkllipaaGreat.PR
end
section
/- Best and Enough, plain: there is a safe rota, and none has fewer duties. -/
namespace Go.Proofs.YtekdacalkllipaaGreat.PR
open Go.RowKit Go.Shelf Go.Proofs.YtekdacalkllipaaGreatW.PrintWords Go.Proofs.YtekdacalkllipaaGreatW.PrintLast Go.Proofs.YtekdacalkllipaaGreatW.PrintMore
set_option linter.unusedVariables false
set_option linter.unusedSimpArgs false

theorem mem_rdL {l : List (List Int)} {on : List Int} : (∃ i, i < l.length ∧ rd_L1 l (i : Int) = on) ↔ on ∈ l := by
  constructor
  · rintro ⟨i, hi, rfl⟩
    rw [rdL_get, List.getD_eq_getElem?_getD, List.getElem?_eq_getElem hi]
    exact List.getElem_mem hi
  · intro h
    obtain ⟨i, hi, rfl⟩ := List.getElem_of_mem h
    exact ⟨i, hi, by rw [rdL_get, List.getD_eq_getElem?_getD, List.getElem?_eq_getElem hi]; rfl⟩
/-- Fine: of the lists, by the rules, and it holds. -/
theorem fine_iff (k : Wk) : ∀ (r : List (List Int)) (watch : Int) (s : Std), k.fine watch s r ↔ (∀ on ∈ r, on ∈ k.lists) ∧ rulesS k.people watch r s = true ∧ holdsFrom k.need k.cases watch r = true
  | [], watch, s => by simp [Wk.fine, rulesS, holdsFrom]
  | on :: r, watch, s => by
    unfold Wk.fine rulesS holdsFrom
    rw [fine_iff k r, mem_rdL]
    constructor
    · rintro ⟨h1, h2, h3, h4, h5, h6⟩
      refine ⟨fun x hx => ?_, by rw [if_pos h2]; exact h5, by rw [h3, h6]; rfl⟩
      rcases List.mem_cons.1 hx with rfl | hx
      · exact h1
      · exact h4 x hx
    · rintro ⟨h1, h2, h3⟩
      rw [Bool.and_eq_true] at h3
      by_cases h4 : (afterS k.people watch on s).2 = true
      · rw [if_pos h4] at h2
        exact ⟨h1 on List.mem_cons_self, h4, h3.1, fun x hx => h1 x (List.mem_cons_of_mem _ hx), h2, h3.2⟩
      · rw [if_neg h4] at h2; cases h2
theorem duties_sum (r : List (List Int)) : dutiesS r = (((r.map List.length).sum : Nat) : Int) := by
  unfold dutiesS
  rw [List.length_flatten]
/-- A safe rota, of lists of some people. -/
def SafeOf (need : List Int) (people : List S128) (cases lists : List (List Int)) (r : List (List Int)) : Prop :=
  r.length = need.length ∧ (∀ on ∈ r, on ∈ lists) ∧ rulesS people 0 r std0 = true ∧ holdsFrom need cases 0 r = true
theorem fewS_iff (need : List Int) (people : List S128) (cases : List (List Int)) (sm : List Int) (v : Int) (h1 : v < 1024) (h0 : 0 ≤ v) :
    fewS need people cases sm ≤ v ↔ ∃ r, SafeOf need people cases (listsS sm) r ∧ dutiesS r ≤ v := by
  unfold fewS
  rw [few_iff _ need.length 0 std0 v h1 h0]
  constructor
  · rintro ⟨r, e1, e2, e3⟩
    have := (fine_iff _ r 0 std0).1 e2
    exact ⟨r, ⟨e1, this.1, this.2.1, this.2.2⟩, by rw [duties_sum]; exact e3⟩
  · rintro ⟨r, ⟨e1, e2, e3, e4⟩, e5⟩
    exact ⟨r, e1, (fine_iff _ r 0 std0).2 ⟨e2, e3, e4⟩, by rw [← duties_sum]; exact e5⟩
theorem inr_iff {n lo hi : Int} : inr n lo hi = true ↔ lo ≤ n ∧ n ≤ hi := by unfold inr; exact decide_eq_true_iff
theorem incB_IncF {l : List Int} {n : Nat} : incB l n = true ↔ l.Pairwise (· < ·) ∧ ∀ x ∈ l, 0 ≤ x ∧ x < n := by
  constructor
  · intro h
    refine ⟨?_, incB_mem h⟩
    rw [List.pairwise_iff_getElem]
    intro i j hi hj hij
    have := incB_lt h j hj i hij
    rw [List.getD_eq_getElem?_getD, List.getElem?_eq_getElem hi, List.getD_eq_getElem?_getD, List.getElem?_eq_getElem hj] at this
    exact this
  · rintro ⟨h1, h2⟩
    refine incB_yes fun i hi => ?_
    have hx := h2 _ (List.getElem_mem hi)
    have e : l.getD i 0 = l[i] := by rw [List.getD_eq_getElem?_getD, List.getElem?_eq_getElem hi]; rfl
    unfold incAt lastAt
    rw [inr_iff, e]
    by_cases h0 : i = 0
    · rw [if_pos h0]; omega
    · rw [if_neg h0]
      have e' : l.getD (i - 1) 0 = l[i - 1] := by rw [List.getD_eq_getElem?_getD, List.getElem?_eq_getElem (by omega)]; rfl
      rw [e']
      have := (List.pairwise_iff_getElem.1 h1) (i - 1) i (by omega) hi (by omega)
      omega
end Go.Proofs.YtekdacalkllipaaGreat.PR
end
section
/- The rows that Best writes: a safe rota with the fewest duties, none smaller. -/
namespace Go.Proofs.YtekdacalkllipaaGreat.PR
open Go.RowKit Go.Shelf Go.Proofs.YtekdacalkllipaaGreatW.PrintWords Go.Proofs.YtekdacalkllipaaGreatW.PrintLast Go.Proofs.YtekdacalkllipaaGreatW.PrintMore
set_option linter.unusedVariables false
set_option linter.unusedSimpArgs false

/-- Smaller, as the document says it. -/
def smallB : List (List Int) → List (List Int) → Bool
  | x :: a, y :: b => if cmpS x y < 0 then true else if cmpS y x < 0 then false else smallB a b
  | _, _ => false
theorem foldl_min_at (g : Nat → Int) : ∀ (l : List Nat) (n : Int), l.foldl (fun n i => min n (g i)) n < n → ∃ i ∈ l, g i = l.foldl (fun n i => min n (g i)) n
  | [], n, h => by simp at h
  | i :: l, n, h => by
    rw [List.foldl_cons] at h ⊢
    have hle := (foldl_min_iff g (l.foldl (fun n i => min n (g i)) (min n (g i))) l (min n (g i))).1 (Int.le_refl _)
    by_cases h2 : l.foldl (fun n i => min n (g i)) (min n (g i)) < min n (g i)
    · obtain ⟨j, hj, e⟩ := foldl_min_at g l (min n (g i)) h2
      exact ⟨j, List.mem_cons_of_mem _ hj, e⟩
    · have h3 : l.foldl (fun n i => min n (g i)) (min n (g i)) ≤ min n (g i) := (foldl_min_iff g (min n (g i)) l (min n (g i))).2 (.inl (Int.le_refl _))
      exact ⟨i, List.mem_cons_self, by omega⟩
theorem few_cons (k : Wk) (f : Nat) (watch : Int) (s : Std) : k.few (f + 1) watch s = ((List.range k.lists.length).filter (k.can watch s)).foldl (fun (n : Int) (i : Nat) => min n ((rd_L1 k.lists i).length + k.few f (watch + 1) (afterS k.people watch (rd_L1 k.lists i) s).1)) 1024 := rfl
theorem few_le (k : Wk) (f : Nat) (watch : Int) (s : Std) (i : Nat) (hi : i < k.lists.length) (hc : k.can watch s i = true) : k.few (f + 1) watch s ≤ (rd_L1 k.lists i).length + k.few f (watch + 1) (afterS k.people watch (rd_L1 k.lists i) s).1 := by
  rw [few_cons, foldl_min_iff (fun (i : Nat) => (rd_L1 k.lists i).length + k.few f (watch + 1) (afterS k.people watch (rd_L1 k.lists i) s).1)]
  exact .inr ⟨i, List.mem_filter.2 ⟨List.mem_range.2 hi, hc⟩, Int.le_refl _⟩
theorem find_first (p : Nat → Bool) (q : Nat → Bool) : ∀ (n i : Nat), ((List.range n).filter p).find? q = some i → i < n ∧ p i = true ∧ q i = true ∧ ∀ j, j < i → p j = true → q j = false
  | 0, i, h => by simp at h
  | n + 1, i, h => by
    rw [List.range_succ, List.filter_append, List.find?_append] at h
    cases hq : ((List.range n).filter p).find? q with
    | some j =>
      rw [hq] at h
      have e : j = i := by simpa using h
      subst e
      obtain ⟨h1, h2, h3, h4⟩ := find_first p q n j hq
      exact ⟨by omega, h2, h3, h4⟩
    | none =>
      rw [hq, Option.none_or] at h
      rw [List.find?_eq_none] at hq
      by_cases hp : p n = true
      · rw [List.filter_cons, if_pos hp, List.filter_nil] at h
        by_cases hqn : q n = true
        · rw [List.find?_cons, hqn] at h
          have e : n = i := by simpa using h
          subst e
          refine ⟨by omega, hp, hqn, fun j hj hpj => ?_⟩
          have := hq j (List.mem_filter.2 ⟨List.mem_range.2 hj, hpj⟩)
          simpa using this
        · rw [List.find?_cons] at h
          simp [hqn] at h
      · rw [List.filter_cons, if_neg hp] at h
        simp at h
/-- The first list by which the fewest duties are reached. -/
theorem rows_step (k : Wk) (f : Nat) (watch : Int) (s : Std) (left : Int) (hf : k.few (f + 1) watch s = left) (hl : left < 1024) : ∃ i, i < k.lists.length ∧ k.can watch s i = true ∧ k.fit f watch s left i = true ∧ (∀ j, j < i → k.can watch s j = true → k.fit f watch s left j = false) ∧
    k.rows (f + 1) watch s left = rd_L1 k.lists i :: k.rows f (watch + 1) (afterS k.people watch (rd_L1 k.lists i) s).1 (left - (rd_L1 k.lists i).length) := by
  have hat := foldl_min_at (fun i => (rd_L1 k.lists i).length + k.few f (watch + 1) (afterS k.people watch (rd_L1 k.lists i) s).1) ((List.range k.lists.length).filter (k.can watch s)) 1024 (by
    have : k.few (f + 1) watch s < 1024 := by omega
    rw [few_cons] at this
    exact this)
  obtain ⟨i0, hi0, e0⟩ := hat
  have e1 : (rd_L1 k.lists i0).length + k.few f (watch + 1) (afterS k.people watch (rd_L1 k.lists i0) s).1 = left := by
    rw [← hf, few_cons]
    exact e0
  cases hq : ((List.range k.lists.length).filter (k.can watch s)).find? (k.fit f watch s left) with
  | none =>
    rw [List.find?_eq_none] at hq
    have := hq i0 hi0
    unfold Wk.fit at this
    rw [e1] at this
    simp at this
  | some i =>
    obtain ⟨h1, h2, h3, h4⟩ := find_first _ _ _ i hq
    refine ⟨i, h1, h2, h3, h4, ?_⟩
    rw [Wk.rows, hq]
theorem rows_fine (k : Wk) : ∀ (f : Nat) (watch : Int) (s : Std) (left : Int), k.few f watch s = left → left < 1024 → (k.rows f watch s left).length = f ∧ k.fine watch s (k.rows f watch s left) ∧ ((((k.rows f watch s left).map List.length).sum : Nat) : Int) = left
  | 0, watch, s, left, hf, hl => by
    unfold Wk.few at hf
    unfold Wk.rows
    exact ⟨rfl, trivial, by simp; omega⟩
  | f + 1, watch, s, left, hf, hl => by
    obtain ⟨i, h1, h2, h3, h4, h5⟩ := rows_step k f watch s left hf hl
    unfold Wk.fit at h3
    have h3 := beq_iff_eq.1 h3
    obtain ⟨r1, r2, r3⟩ := rows_fine k f (watch + 1) (afterS k.people watch (rd_L1 k.lists i) s).1 (left - (rd_L1 k.lists i).length) (by omega) (by omega)
    rw [can_eq, Bool.and_eq_true] at h2
    rw [h5]
    refine ⟨by rw [List.length_cons, r1], ⟨⟨i, h1, rfl⟩, h2.1, h2.2, r2⟩, ?_⟩
    rw [List.map_cons, List.sum_cons]
    push_cast
    omega
/-- No fine rota with as few duties is smaller. -/
theorem rows_min (k : Wk) (hs : ∀ i j, i < j → j < k.lists.length → cmpS (rd_L1 k.lists i) (rd_L1 k.lists j) ≤ 0) : ∀ (f : Nat) (watch : Int) (s : Std) (left : Int) (r : List (List Int)), k.few f watch s = left → left < 1024 → r.length = f → k.fine watch s r → (((r.map List.length).sum : Nat) : Int) = left → smallB r (k.rows f watch s left) = false
  | 0, watch, s, left, r, hf, hl, hr, hfi, hsum => by
    rw [List.length_eq_zero_iff.1 hr]
    rfl
  | f + 1, watch, s, left, r, hf, hl, hr, hfi, hsum => by
    obtain ⟨i, h1, h2, h3, h4, h5⟩ := rows_step k f watch s left hf hl
    cases r with
    | nil => simp at hr
    | cons on t =>
      obtain ⟨⟨j, hj, hon⟩, ha, hh, ht⟩ := hfi
      subst hon
      rw [List.map_cons, List.sum_cons] at hsum
      push_cast at hsum
      have htl : t.length = f := by simpa using hr
      have hcj : k.can watch s j = true := by rw [can_eq, ha, hh]; rfl
      have hle := few_le k f watch s j hj hcj
      have hb := k.few_bd f (watch + 1) (afterS k.people watch (rd_L1 k.lists j) s).1
      have hft : k.few f (watch + 1) (afterS k.people watch (rd_L1 k.lists j) s).1 ≤ left - (rd_L1 k.lists j).length := by
        rw [few_iff k f _ _ _ (by omega) (by omega)]
        exact ⟨t, htl, ht, by omega⟩
      have hfj : k.fit f watch s left j = true := by unfold Wk.fit; rw [beq_iff_eq]; omega
      have hij : i ≤ j := by
        rcases Nat.lt_or_ge j i with hlt | hge
        · have := h4 j hlt hcj
          rw [hfj] at this; cases this
        · exact hge
      rw [h5]
      unfold smallB
      have hcmp : cmpS (rd_L1 k.lists i) (rd_L1 k.lists j) ≤ 0 := by
        by_cases e : i = j
        · rw [e, cmpS_self]; omega
        · exact hs i j (by omega) hj
      have hsw := cmpS_swap (rd_L1 k.lists i) (rd_L1 k.lists j)
      rw [if_neg (by omega)]
      by_cases hlt : cmpS (rd_L1 k.lists i) (rd_L1 k.lists j) < 0
      · rw [if_pos hlt]
      · rw [if_neg hlt]
        have e := cmpS_zero (a := rd_L1 k.lists i) (b := rd_L1 k.lists j) (by omega)
        rw [e]
        exact rows_min k hs f (watch + 1) (afterS k.people watch (rd_L1 k.lists j) s).1 (left - (rd_L1 k.lists j).length) t (by omega) (by omega) htl ht (by omega)
end Go.Proofs.YtekdacalkllipaaGreat.PR
end
section
/- The best polishing: the program's is the document's. -/
namespace Go.Proofs.YtekdacalkllipaaGreat.PR
open Go.RowKit Go.Shelf Go.Proofs.YtekdacalkllipaaGreatW.PrintWords Go.Proofs.YtekdacalkllipaaGreatW.PrintLast Go.Proofs.YtekdacalkllipaaGreatW.PrintMore
set_option linter.unusedVariables false
set_option linter.unusedSimpArgs false

def subN (n b : Nat) : List Int := subL (evs n) b
theorem subK_evs (n b : Nat) : ∀ i, i ≤ n → subK (evs n) b i = ((List.range i).filter (bitB b)).map fun j : Nat => (j : Int) := fun i hi => by
  unfold subK
  apply List.map_congr_left
  intro j hj
  have hj := List.mem_range.1 (List.mem_filter.1 hj).1
  unfold evs
  rw [List.getD_eq_getElem?_getD, List.getElem?_map, List.getElem?_range (by omega)]
  rfl
theorem subN_eq (n b : Nat) : subN n b = ((List.range n).filter (bitB b)).map fun j : Nat => (j : Int) := by
  unfold subN subL
  rw [evs_len, subK_evs n b n (Nat.le_refl _)]
theorem subN_succ (n b : Nat) : subN (n + 1) b = subN n b ++ (if bitB b n = true then [(n : Int)] else []) := by
  rw [subN_eq, subN_eq, List.range_succ, List.filter_append, List.map_append]
  congr 1
  by_cases h : bitB b n = true
  · simp [h]
  · simp [h]
theorem bitB_zero {b i j : Nat} (h : b / 2 ^ i = 0) (hj : i ≤ j) : bitB b j = false := by
  unfold bitB
  have : b / 2 ^ j = 0 := by
    rw [Nat.div_eq_zero_iff] at h ⊢
    have hp : 2 ^ i ≤ 2 ^ j := Nat.pow_le_pow_right (by omega) hj
    have := Nat.two_pow_pos i
    omega
  rw [this]; rfl
theorem subN_all (n : Nat) : subN n (2 ^ n - 1) = evs n := by
  rw [subN_eq]
  unfold evs
  congr 1
  rw [List.filter_eq_self]
  intro j hj
  have hj := List.mem_range.1 hj
  unfold bitB
  have : (2 ^ n - 1) / 2 ^ j % 2 = 1 := by
    have h1 := Nat.testBit_two_pow_sub_one n j
    rw [Nat.testBit_eq_decide_div_mod_eq] at h1
    simpa [hj] using h1
  rw [this]; rfl
end Go.Proofs.YtekdacalkllipaaGreat.PR
end
section
/- The best polishing: the program's is the document's (2). -/
namespace Go.Proofs.YtekdacalkllipaaGreat.PR
open Go.RowKit Go.Shelf Go.Proofs.YtekdacalkllipaaGreatW.PrintWords Go.Proofs.YtekdacalkllipaaGreatW.PrintLast Go.Proofs.YtekdacalkllipaaGreatW.PrintMore
set_option linter.unusedVariables false
set_option linter.unusedSimpArgs false

/-- An increasing list of numbers from f to less than n. -/
def IncF (l : List Int) (f n : Nat) : Prop := l.Pairwise (· < ·) ∧ ∀ x ∈ l, (f : Int) ≤ x ∧ x < n
theorem subN_inc (n b : Nat) : IncF (subN n b) 0 n := by
  rw [subN_eq]
  constructor
  · rw [List.pairwise_map]
    refine ((List.pairwise_lt_range (n := n)).filter _).imp (fun {a b} h => ?_)
    exact Int.ofNat_lt.2 h
  · intro x hx
    obtain ⟨j, hj, rfl⟩ := List.mem_map.1 hx
    have hj := List.mem_range.1 (List.mem_filter.1 hj).1
    omega
theorem bitB_add (n c : Nat) (hc : c < 2 ^ n) : bitB (c + 2 ^ n) n = true ∧ ∀ j, j < n → bitB (c + 2 ^ n) j = bitB c j := by
  constructor
  · unfold bitB
    have h : (c + 2 ^ n) / 2 ^ n = 1 := by
      rw [Nat.add_div_right _ (Nat.two_pow_pos n), Nat.div_eq_of_lt hc]
    rw [h]; rfl
  · intro j hj
    unfold bitB
    have h : (c + 2 ^ n) / 2 ^ j % 2 = c / 2 ^ j % 2 := by
      have e : 2 ^ n = 2 ^ j * (2 * 2 ^ (n - j - 1)) := by
        rw [← Nat.pow_succ', ← Nat.pow_add]
        congr 1
        omega
      rw [e, Nat.add_mul_div_left _ _ (Nat.two_pow_pos j), Nat.add_mul_mod_self_left]
    rw [h]
theorem inc_subN : ∀ (n : Nat) (l : List Int), IncF l 0 n → ∃ c, c < 2 ^ n ∧ subN n c = l
  | 0, l, h => by
    cases l with
    | nil => exact ⟨0, by simp, rfl⟩
    | cons x l => have := h.2 x List.mem_cons_self; omega
  | n + 1, l, h => by
    have hp := Nat.two_pow_pos n
    have h2 : 2 ^ (n + 1) = 2 ^ n + 2 ^ n := by rw [Nat.pow_succ]; omega
    by_cases hm : (n : Int) ∈ l
    · obtain ⟨l1, l2, rfl⟩ := List.append_of_mem hm
      have hl2 : l2 = [] := by
        cases l2 with
        | nil => rfl
        | cons y l2 =>
          have hpw := h.1
          rw [List.pairwise_append] at hpw
          have h1 := (List.pairwise_cons.1 hpw.2.1).1 y List.mem_cons_self
          have h3 := h.2 y (by simp)
          omega
      subst hl2
      have hpw := h.1
      rw [List.pairwise_append] at hpw
      obtain ⟨c, hc, hcl⟩ := inc_subN n l1 ⟨hpw.1, fun x hx => by
        have h1 := hpw.2.2 x hx (n : Int) (by simp)
        have h3 := h.2 x (List.mem_append_left _ hx)
        omega⟩
      obtain ⟨b1, b2⟩ := bitB_add n c hc
      refine ⟨c + 2 ^ n, by omega, ?_⟩
      rw [subN_succ, b1, if_pos rfl, ← hcl]
      congr 1
      rw [subN_eq, subN_eq]
      congr 1
      exact List.filter_congr (fun j hj => b2 j (List.mem_range.1 hj))
    · obtain ⟨c, hc, hcl⟩ := inc_subN n l ⟨h.1, fun x hx => by
        have h3 := h.2 x hx
        have : x ≠ (n : Int) := fun e => hm (e ▸ hx)
        omega⟩
      refine ⟨c, by omega, ?_⟩
      rw [subN_succ, hcl, bitB_zero (i := n) (Nat.div_eq_of_lt hc) (Nat.le_refl _)]
      simp
theorem evs_inc (n : Nat) : IncF (evs n) 0 n := by rw [← subN_all]; exact subN_inc n _
end Go.Proofs.YtekdacalkllipaaGreat.PR
end
section
/- Best and Enough: what they tell. -/
namespace Go.Proofs.YtekdacalkllipaaGreat.PR
open Go.RowKit Go.Shelf Go.Proofs.YtekdacalkllipaaGreatW.PrintWords Go.Proofs.YtekdacalkllipaaGreatW.PrintLast Go.Proofs.YtekdacalkllipaaGreatW.PrintMore
set_option linter.unusedVariables false
set_option linter.unusedSimpArgs false

theorem mem_lists_evs {n : Nat} {l : List Int} : l ∈ listsS (evs n) ↔ incB l n = true := by
  rw [mem_listsS, evs_len, incB_IncF]
  constructor
  · rintro ⟨b, _, rfl⟩
    have := subN_inc n b
    exact ⟨this.1, fun x hx => by have := this.2 x hx; exact ⟨by have := this.1; omega, this.2⟩⟩
  · rintro ⟨h1, h2⟩
    obtain ⟨c, hc, e⟩ := inc_subN n l ⟨h1, fun x hx => by have := h2 x hx; exact ⟨by have := this.1; omega, this.2⟩⟩
    exact ⟨c, hc, e⟩
theorem lists_sorted (sm : List Int) : ∀ i j, i < j → j < (listsS sm).length → cmpS (rd_L1 (listsS sm) (i : Int)) (rd_L1 (listsS sm) (j : Int)) ≤ 0 := by
  intro i j hij hj
  have h : (listsS sm).Pairwise (fun a b => cmpS a b ≤ 0) := by rw [listsS_eq]; exact sortI_sorted _
  have := (List.pairwise_iff_getElem.1 h) i j (by omega) hj hij
  rw [rdL_get, rdL_get, List.getD_eq_getElem?_getD, List.getElem?_eq_getElem (show i < (listsS sm).length by omega), List.getD_eq_getElem?_getD, List.getElem?_eq_getElem hj]
  exact this
/-- A safe rota of a post. -/
def SafeR (need : List Int) (people : List S128) (cases : List (List Int)) (r : List (List Int)) : Prop := rotaErr need people cases r = 0 ∧ rulesS people 0 r std0 = true ∧ holdsFrom need cases 0 r = true
section
variable {need : List Int} {people : List S128} {cases : List (List Int)}
theorem safe_of (hp : postErr need people cases = 0) (r : List (List Int)) : SafeR need people cases r ↔ SafeOf need people cases (listsS (evs people.length)) r := by
  unfold SafeR SafeOf
  constructor
  · rintro ⟨h1, h2, h3⟩
    obtain ⟨_, e1, e2⟩ := rotaErr_ok h1
    exact ⟨e1, fun on hon => mem_lists_evs.2 (e2 on hon), h2, h3⟩
  · rintro ⟨h1, h2, h3, h4⟩
    refine ⟨?_, h3, h4⟩
    unfold rotaErr
    rw [if_neg (by simpa using hp), if_neg]
    simp only [not_or, Decidable.not_not, Bool.not_eq_false]
    exact ⟨h1, List.all_eq_true.2 fun on hon => mem_lists_evs.1 (h2 on hon)⟩
theorem post_small (hp : postErr need people cases = 0) : need.length ≤ 5 ∧ people.length ≤ 4 ∧ cases.length ≤ 4 := by
  unfold postErr at hp
  by_cases b : 5 < need.length ∨ 4 < people.length ∨ 4 < cases.length
  · rw [if_pos b] at hp; cases hp
  · omega
theorem sum_le : ∀ (r : List (List Int)) (m : Nat), (∀ on ∈ r, on.length ≤ m) → (r.map List.length).sum ≤ r.length * m
  | [], m, _ => by simp
  | on :: r, m, h => by
    have h1 := h on List.mem_cons_self
    have h2 := sum_le r m (fun x hx => h x (List.mem_cons_of_mem _ hx))
    rw [List.map_cons, List.sum_cons, List.length_cons, Nat.succ_mul]
    omega
theorem duties_small (hp : postErr need people cases = 0) {r : List (List Int)} (h : SafeR need people cases r) : 0 ≤ dutiesS r ∧ dutiesS r ≤ 20 := by
  obtain ⟨p1, p2, _⟩ := post_small hp
  obtain ⟨_, e1, e2⟩ := rotaErr_ok h.1
  have := sum_le r 4 (fun on hon => by have := incB_len (e2 on hon); omega)
  rw [duties_sum]
  omega
/-- What Best tells of a valid post. -/
theorem best_spec (hp : postErr need people cases = 0) : (bestS need people cases = ([], 0, 10) ∧ ∀ r, ¬ SafeR need people cases r) ∨
    ∃ r, bestS need people cases = (r, dutiesS r, 0) ∧ SafeR need people cases r ∧ ∀ r', SafeR need people cases r' → dutiesS r ≤ dutiesS r' ∧ (dutiesS r' = dutiesS r → smallB r' r = false) := by
  unfold bestS
  rw [if_neg (by simpa using hp)]
  by_cases h : 1024 ≤ fewS need people cases (evs people.length)
  · left
    refine ⟨by rw [if_pos h], fun r hr => ?_⟩
    have hd := duties_small hp hr
    have := (fewS_iff need people cases (evs people.length) 20 (by omega) (by omega)).2 ⟨r, (safe_of hp r).1 hr, hd.2⟩
    omega
  · right
    rw [if_neg h]
    have hb := (workS need people cases (evs people.length)).few_bd need.length 0 std0
    have hfew : (workS need people cases (evs people.length)).few need.length 0 std0 = fewS need people cases (evs people.length) := rfl
    obtain ⟨r1, r2, r3⟩ := rows_fine (workS need people cases (evs people.length)) need.length 0 std0 _ hfew (by omega)
    have hrow : rowsS need people cases (evs people.length) = (workS need people cases (evs people.length)).rows need.length 0 std0 (fewS need people cases (evs people.length)) := rfl
    rw [← hrow] at r1 r2 r3
    have hfi := (fine_iff _ _ 0 std0).1 r2
    have hsafe : SafeR need people cases (rowsS need people cases (evs people.length)) := (safe_of hp _).2 ⟨r1, hfi.1, hfi.2.1, hfi.2.2⟩
    have hdu : dutiesS (rowsS need people cases (evs people.length)) = fewS need people cases (evs people.length) := by rw [duties_sum]; exact r3
    refine ⟨rowsS need people cases (evs people.length), by rw [hdu], hsafe, fun r' hr' => ?_⟩
    have hs' := (safe_of hp r').1 hr'
    have hd' := duties_small hp hr'
    rw [hdu]
    have hle : fewS need people cases (evs people.length) ≤ dutiesS r' := (fewS_iff need people cases (evs people.length) (dutiesS r') (by omega) (by omega)).2 ⟨r', hs', Int.le_refl _⟩
    refine ⟨hle, fun he => ?_⟩
    exact rows_min (workS need people cases (evs people.length)) (lists_sorted _) need.length 0 std0 _ r' hfew (by omega) hs'.1 ((fine_iff _ r' 0 std0).2 ⟨hs'.2.1, hs'.2.2.1, hs'.2.2.2⟩) (by rw [← duties_sum]; exact he)
/-- What Enough tells of a valid post. -/
theorem enough_spec (hp : postErr need people cases = 0) : (enoughS need people cases = ([], 10) ∧ ∀ l, incB l people.length = true → ∀ r, ¬ SafeOf need people cases (listsS l) r) ∨
    ∃ l, enoughS need people cases = (l, 0) ∧ incB l people.length = true ∧ (∃ r, SafeOf need people cases (listsS l) r) ∧ ∀ l', incB l' people.length = true → (∃ r, SafeOf need people cases (listsS l') r) → cmpS l l' ≤ 0 := by
  have key : ∀ l, incB l people.length = true → ∀ r, SafeOf need people cases (listsS l) r → fewS need people cases l < 1024 := fun l hl r hr => by
    have hsub : ∀ on ∈ listsS l, incB on people.length = true := fun on hon => by
      obtain ⟨b, _, e⟩ := mem_listsS.1 hon
      rw [incB_IncF] at hl ⊢
      have hsl : on.Sublist l := by
        rw [← e]
        unfold subL subK
        have h9 : ((List.range l.length).map fun j => l.getD j 0) = l := by
          apply List.ext_getElem
          · simp
          · intro i h1 h2; simp [List.getD_eq_getElem?_getD, h2]
        have h8 := (List.filter_sublist (p := bitB b) (l := List.range l.length)).map (fun j => l.getD j 0)
        rw [h9] at h8
        exact h8
      exact ⟨hl.1.sublist hsl, fun x hx => hl.2 x (hsl.subset hx)⟩
    obtain ⟨p1, p2, _⟩ := post_small hp
    have := sum_le r 4 (fun on hon => by have := incB_len (hsub on (hr.2.1 on hon)); omega)
    have hd : dutiesS r ≤ 20 := by rw [duties_sum, hr.1] at *; omega
    have h3 := (fewS_iff need people cases l 20 (by omega) (by omega)).2 ⟨r, hr, hd⟩
    omega
  have key2 : ∀ l, fewS need people cases l < 1024 → ∃ r, SafeOf need people cases (listsS l) r := fun l hl => by
    have hb := (workS need people cases l).few_bd need.length 0 std0
    obtain ⟨r, hr, _⟩ := (fewS_iff need people cases l (fewS need people cases l) hl hb.1).1 (Int.le_refl _)
    exact ⟨r, hr⟩
  unfold enoughS
  rw [if_neg (by simpa using hp)]
  cases hf : (listsS (evs people.length)).find? (fun l => decide (fewS need people cases l < 1024)) with
  | none =>
    left
    refine ⟨rfl, fun l hl r hr => ?_⟩
    rw [List.find?_eq_none] at hf
    have := hf l (mem_lists_evs.2 hl)
    simp only [decide_eq_true_eq] at this
    exact this (key l hl r hr)
  | some l =>
    right
    have hl := List.find?_some hf
    have hm := List.mem_of_find?_eq_some hf
    simp only [decide_eq_true_eq] at hl
    refine ⟨l, rfl, mem_lists_evs.1 hm, key2 l hl, fun l' hl' ⟨r, hr⟩ => ?_⟩
    have hlt' := key l' hl' r hr
    have hm' := mem_lists_evs.2 hl'
    rw [List.find?_eq_some_iff_append] at hf
    obtain ⟨_, xs, bs, e, hno⟩ := hf
    have hsort : (listsS (evs people.length)).Pairwise (fun a b => cmpS a b ≤ 0) := by rw [listsS_eq]; exact sortI_sorted _
    rw [e] at hm' hsort
    rcases List.mem_append.1 hm' with h | h
    · have := hno l' h
      simp at this
      omega
    · rcases List.mem_cons.1 h with rfl | h
      · rw [cmpS_self]; omega
      · rw [List.pairwise_append] at hsort
        exact (List.pairwise_cons.1 hsort.2.1).1 l' h
end
end Go.Proofs.YtekdacalkllipaaGreat.PR
end
section
/- The laws' helpers as calls, in the words of what they come to. -/
namespace Go.Proofs.YtekdacalkllipaaGreat.PR
open Go.RowKit Go.Shelf Go.Proofs.YtekdacalkllipaaGreatW.PrintWords Go.Proofs.YtekdacalkllipaaGreatW.PrintLast Go.Proofs.YtekdacalkllipaaGreatW.PrintMore
set_option linter.unusedVariables false

section
variable {A0 A1 A2 A3 : Option Addr} {c0 c1 c2 c3 : Nat} {w : World} {l0 : List Int} {l1 : List S119} {l2 l3 : List (List Int)}
theorem thin_c (h0 : SL (Kd.int .i64) A0 c0 w l0) (h1 : SL k119 A1 c1 w l1) (h2 : SL KR A2 c2 w l2) {b : Bool} (hb : Ev (fun k => glisterlaw10_Thin.f k l0 l1 l2) b) :
    Calls Tryz.prog 15 #[.agg #[.slice A0 l0.length c0, .slice A1 l1.length c1, .slice A2 l2.length c2]] w fun e w' => e = .returned (.bool b) ∧ Below w.heap.size w w' := by
  obtain ⟨k, hk⟩ := hb.one
  exact glisterlaw10_Thin.calls k A0 c0 l0 A1 c1 l1 A2 c2 l2 b w h0.2 h0.1 h1.2 h1.1 h2.2 h2.1 hk
theorem rows_c (h3 : SL KR A3 c3 w l3) (hr : Ev (fun k => glisterlaw10_rows.f k l3) l3) :
    Calls Tryz.prog 21 #[.slice A3 l3.length c3] w fun e w' => ∃ A c, e = .returned (.slice A l3.length c) ∧ SL KR A c w' l3 ∧ Below w.heap.size w w' := by
  obtain ⟨k, hk⟩ := hr.one
  refine (glisterlaw10_rows.calls k A3 c3 l3 l3 w h3.2 h3.1 hk).mono ?_
  rintro e w' ⟨v, rfl, hS, hb⟩
  obtain ⟨A, c, rfl, d0, e0⟩ := Kd.S_reads hS
  exact ⟨A, c, rfl, ⟨d0, e0⟩, hb⟩
theorem post_c (h0 : SL (Kd.int .i64) A0 c0 w l0) (h1 : SL k119 A1 c1 w l1) (h2 : SL KR A2 c2 w l2) {ps : List S128} (hp : Ev (fun k => glisterlaw10_Post.f k l0 l1 l2) (l0, ps, l2)) :
    Calls Tryz.prog 19 #[.agg #[.slice A0 l0.length c0, .slice A1 l1.length c1, .slice A2 l2.length c2]] w fun e w' => ∃ B0 d0 B1 d1 B2 d2, e = .returned (.agg #[.slice B0 l0.length d0, .slice B1 ps.length d1, .slice B2 l2.length d2]) ∧ SL (Kd.int .i64) B0 d0 w' l0 ∧ SL k128 B1 d1 w' ps ∧ SL KR B2 d2 w' l2 ∧ Below w.heap.size w w' := by
  obtain ⟨k, hk⟩ := hp.one
  refine (glisterlaw10_Post.calls k A0 c0 l0 A1 c1 l1 A2 c2 l2 l0 ps l2 w h0.2 h0.1 h1.2 h1.1 h2.2 h2.1 hk).mono ?_
  rintro e w' ⟨v0, v1, v2, rfl, g0, g1, g2, hb⟩
  obtain ⟨B0, d0, rfl, x0, y0⟩ := Kd.R_reads g0
  obtain ⟨B1, d1, rfl, x1, y1⟩ := Kd.S_reads g1
  obtain ⟨B2, d2, rfl, x2, y2⟩ := Kd.S_reads g2
  exact ⟨B0, d0, B1, d1, B2, d2, rfl, ⟨x0, y0⟩, ⟨x1, y1⟩, ⟨x2, y2⟩, hb⟩
end
section
variable {A0 A1 A2 A3 : Option Addr} {c0 c1 c2 c3 : Nat} {w : World} {l0 : List Int} {l1 : List S128} {l2 l3 : List (List Int)}
theorem rules_c (h0 : SL (Kd.int .i64) A0 c0 w l0) (h1 : SL k128 A1 c1 w l1) (h2 : SL KR A2 c2 w l2) (h3 : SL KR A3 c3 w l3) :
    Calls Tryz.prog 20 #[.agg #[.slice A0 l0.length c0, .slice A1 l1.length c1, .slice A2 l2.length c2], .slice A3 l3.length c3] w fun e w' => e = .returned (.tuple #[.bool (decide (rotaErr l0 l1 l2 l3 = 0) && rulesS l1 0 l3 std0), .int .i64 (rotaErr l0 l1 l2 l3)]) ∧ Below w.heap.size w w' :=
  rota_Rules.calls A0 c0 l0 A1 c1 l1 A2 c2 l2 A3 c3 l3 _ _ w h0.2 h0.1 h1.2 h1.1 h2.2 h2.1 h3.2 h3.1 rfl
theorem fails_c (h0 : SL (Kd.int .i64) A0 c0 w l0) (h1 : SL k128 A1 c1 w l1) (h2 : SL KR A2 c2 w l2) (h3 : SL KR A3 c3 w l3) (hl : l2.length < 1000) :
    Calls Tryz.prog 25 #[.agg #[.slice A0 l0.length c0, .slice A1 l1.length c1, .slice A2 l2.length c2], .slice A3 l3.length c3] w fun e w' => ∃ A c, e = .returned (.tuple #[.slice A (if rotaErr l0 l1 l2 l3 = 0 then failsL l0 l2 l3 else []).length c, .int .i64 (rotaErr l0 l1 l2 l3)]) ∧ SL (Kd.int .i64) A c w' (if rotaErr l0 l1 l2 l3 = 0 then failsL l0 l2 l3 else []) ∧ Below w.heap.size w w' := by
  refine (rota_Fails.calls A0 c0 l0 A1 c1 l1 A2 c2 l2 A3 c3 l3 _ _ w h0.2 h0.1 h1.2 h1.1 h2.2 h2.1 h3.2 h3.1 (by unfold rota_Fails.f; rw [if_pos hl])).mono ?_
  rintro e w' ⟨v, rfl, hR, hb⟩
  obtain ⟨A, c, rfl, d0, e0⟩ := Kd.R_reads hR
  exact ⟨A, c, rfl, ⟨d0, e0⟩, hb⟩
theorem prove_c (n : Int) (h0 : SL (Kd.int .i64) A0 c0 w l0) (h1 : SL k128 A1 c1 w l1) (h2 : SL KR A2 c2 w l2) (h3 : SL KR A3 c3 w l3) :
    Calls Tryz.prog 63 #[.agg #[.slice A0 l0.length c0, .slice A1 l1.length c1, .slice A2 l2.length c2], .slice A3 l3.length c3, .int .i64 n] w fun e w' => e = .returned (.bool (proveS l0 l1 l2 l3 n)) ∧ Below w.heap.size w w' :=
  rota_ProveRota.calls A0 c0 l0 A1 c1 l1 A2 c2 l2 A3 c3 l3 n _ w h0.2 h0.1 h1.2 h1.1 h2.2 h2.1 h3.2 h3.1 rfl
theorem best_c (h0 : SL (Kd.int .i64) A0 c0 w l0) (h1 : SL k128 A1 c1 w l1) (h2 : SL KR A2 c2 w l2) :
    Calls Tryz.prog 42 #[.agg #[.slice A0 l0.length c0, .slice A1 l1.length c1, .slice A2 l2.length c2]] w fun e w' => ∃ A c, e = .returned (.tuple #[.slice A (bestS l0 l1 l2).1.length c, .int .i64 (bestS l0 l1 l2).2.1, .int .i64 (bestS l0 l1 l2).2.2]) ∧ SL KR A c w' (bestS l0 l1 l2).1 ∧ Below w.heap.size w w' := by
  refine (Best_any A0 c0 l0 A1 c1 l1 A2 c2 l2 w h0.2 h0.1 h1.2 h1.1 h2.2 h2.1).mono ?_
  rintro e w' ⟨v, rfl, hS, hb⟩
  obtain ⟨A, c, rfl, d0, e0⟩ := Kd.S_reads hS
  exact ⟨A, c, rfl, ⟨d0, e0⟩, hb⟩
theorem enough_c (h0 : SL (Kd.int .i64) A0 c0 w l0) (h1 : SL k128 A1 c1 w l1) (h2 : SL KR A2 c2 w l2) :
    Calls Tryz.prog 28 #[.agg #[.slice A0 l0.length c0, .slice A1 l1.length c1, .slice A2 l2.length c2]] w fun e w' => ∃ A c, e = .returned (.tuple #[.slice A (enoughS l0 l1 l2).1.length c, .int .i64 (enoughS l0 l1 l2).2]) ∧ SL (Kd.int .i64) A c w' (enoughS l0 l1 l2).1 ∧ Below w.heap.size w w' := by
  refine (Enough_any A0 c0 l0 A1 c1 l1 A2 c2 l2 w h0.2 h0.1 h1.2 h1.1 h2.2 h2.1).mono ?_
  rintro e w' ⟨v, rfl, hS, hb⟩
  obtain ⟨A, c, rfl, d0, e0⟩ := Kd.R_reads hS
  exact ⟨A, c, rfl, ⟨d0, e0⟩, hb⟩
end
end Go.Proofs.YtekdacalkllipaaGreat.PR
end
section
/- The reference's Fails. -/
namespace Go.Proofs.YtekdacalkllipaaGreat.PR
open Go.RowKit Go.Shelf Go.Proofs.YtekdacalkllipaaGreatW.PrintWords Go.Proofs.YtekdacalkllipaaGreatW.PrintLast Go.Proofs.YtekdacalkllipaaGreatW.PrintMore
set_option linter.unusedVariables false
set_option linter.unusedSimpArgs false

theorem reffails_ev (need : List Int) (people : List S119) (cases r : List (List Int)) (c : Nat) (hc : c ≤ cases.length) (hrl : r.length = need.length) (hr : r.length < 1000) (hx : ∀ l ∈ r, l.length < 1000)
    (hon : ∀ l ∈ cases, (∀ y ∈ l, -1 ≤ y) ∧ ∀ on ∈ r, ∀ x ∈ on, 0 ≤ x ∧ x < l.length) :
    Ev (fun k => glisterref10_Fails.f k need people cases r (c : Int)) (failsS need (caseAt cases c) 0 r) := by
  obtain ⟨ill, hill⟩ : ∃ ill, ill = caseAt cases c := ⟨_, rfl⟩
  rw [← hill]
  have key : ∀ d a, a + d = r.length → Ev (fun k => glisterref10_Fails.l0 k r (c : Int) (a : Int) need people cases) (failsS need ill (a : Int) (r.drop a)) := by
    intro d
    induction d with
    | zero =>
      intro a ha
      rw [List.drop_of_length_le (by omega)]
      exact Ev.step (f := fun _ => some (-1)) (fun k => by rw [glisterref10_Fails.l0, if_neg (by omega)]) (Ev.now fun _ => rfl)
    | succ d ih =>
      intro a ha
      have hal : a < r.length := by omega
      have hm := List.getElem_mem hal
      have hge : r.getD a [] = r[a] := by rw [List.getD_eq_getElem?_getD, List.getElem?_eq_getElem hal]; rfl
      have hlen := hx _ hm
      rw [List.drop_eq_getElem_cons hal]
      obtain ⟨on, hone⟩ : ∃ on, on = r[a] := ⟨_, rfl⟩
      rw [← hone] at hge hlen hm ⊢
      have hrd : rd_L1 r (a : Int) = on := by rw [rdL_get, hge]
      have ih' := ih (a + 1) (by omega)
      have hl1 : ∀ e j n, j + e = on.length → n ≤ j → Ev (fun k => glisterref10_Fails.l1 k r (c : Int) (a : Int) (n : Int) (j : Int) need people cases) (if ((n + (on.drop j).countP (upB ill (a : Int)) : Nat) : Int) < need.getD a 0 then (a : Int) else failsS need ill ((a + 1 : Nat) : Int) (r.drop (a + 1))) := by
        intro e
        induction e with
        | zero =>
          intro j n hj hnj
          rw [List.drop_of_length_le (by omega)]
          refine Ev.step (f := fun k => if (n : Int) < need.getD a 0 then some (a : Int) else glisterref10_Fails.l0 k r (c : Int) ((a + 1 : Nat) : Int) need people cases) (fun k => ?_) ?_
          · rw [glisterref10_Fails.l1, if_pos (by omega), if_pos (by omega), hrd, if_neg (by omega), if_pos (by omega), rd_get, wr1 (by omega)]
          · rw [show n + List.countP (upB ill (a : Int)) [] = n from rfl]
            by_cases hlt : (n : Int) < need.getD a 0
            · rw [if_pos hlt]; exact Ev.now fun _ => by rw [if_pos hlt]
            · rw [if_neg hlt]; exact Ev.congr (fun k => by rw [if_neg hlt]) ih'
        | succ e ihe =>
          intro j n hj hnj
          have hjl : j < on.length := by omega
          have hxm := List.getElem_mem hjl
          have hgx : rd on (j : Int) = on[j] := by rw [rd_get, List.getD_eq_getElem?_getD, List.getElem?_eq_getElem hjl]; rfl
          obtain ⟨x, hxe⟩ : ∃ x, x = on[j] := ⟨_, rfl⟩
          rw [List.drop_eq_getElem_cons hjl, List.countP_cons]
          rw [← hxe] at hgx hxm ⊢
          have hstep : ∀ k, glisterref10_Fails.l1 (k + 1) r (c : Int) (a : Int) (n : Int) (j : Int) need people cases = if upB ill (a : Int) x = true then glisterref10_Fails.l1 k r (c : Int) (a : Int) ((n + 1 : Nat) : Int) ((j + 1 : Nat) : Int) need people cases else glisterref10_Fails.l1 k r (c : Int) (a : Int) (n : Int) ((j + 1 : Nat) : Int) need people cases := fun k => by
            rw [glisterref10_Fails.l1, if_pos (by omega), if_pos (by omega), hrd, if_pos (by omega), wr1 (by omega), wr1 (by omega), hgx]
            by_cases hcc : c < cases.length
            · have hil : ill = some (rd_L1 cases (c : Int)) := by rw [hill]; unfold caseAt; rw [if_pos hcc]
              have hcm : rd_L1 cases (c : Int) ∈ cases := by rw [rdL_get, List.getD_eq_getElem?_getD, List.getElem?_eq_getElem hcc]; exact List.getElem_mem hcc
              obtain ⟨hl1, hl2⟩ := hon _ hcm
              have hxb := hl2 on hm x hxm
              have hy := hl1 (rd (rd_L1 cases (c : Int)) x) (by
                unfold rd
                rw [List.getD_eq_getElem?_getD, List.getElem?_eq_getElem (by omega)]
                exact List.getElem_mem _)
              rw [if_pos (by omega), if_pos (by omega), if_pos (by omega), if_pos (by omega), if_pos (by omega), hil]
              have hu : upB (some (rd_L1 cases (c : Int))) (a : Int) x = decide (rd (rd_L1 cases (c : Int)) x = -1 ∨ (a : Int) < rd (rd_L1 cases (c : Int)) x) := rfl
              rw [hu]
              generalize rd (rd_L1 cases (c : Int)) x = y at hy
              by_cases h1 : y < 0
              · rw [if_pos h1, if_pos (by simp; omega)]
              · rw [if_neg h1]
                by_cases h2 : (a : Int) < y
                · rw [if_pos h2, if_pos (by simp; omega)]
                · rw [if_neg h2, if_neg (by simp; omega)]
            · have hil : ill = none := by rw [hill]; unfold caseAt; rw [if_neg hcc]
              rw [if_neg (by omega), if_pos (by omega), hil]
              rfl
          refine Ev.step hstep ?_
          cases hu : upB ill (a : Int) x with
          | true =>
            have h := ihe (j + 1) (n + 1) (by omega) (by omega)
            have e1 : n + (List.countP (upB ill (a : Int)) (on.drop (j + 1)) + if true = true then 1 else 0) = n + 1 + List.countP (upB ill (a : Int)) (on.drop (j + 1)) := by simp; omega
            rw [e1]
            refine Ev.congr (fun k => by rw [if_pos rfl]) h
          | false =>
            have h := ihe (j + 1) n (by omega) (by omega)
            have e1 : n + (List.countP (upB ill (a : Int)) (on.drop (j + 1)) + if false = true then 1 else 0) = n + List.countP (upB ill (a : Int)) (on.drop (j + 1)) := by simp
            rw [e1]
            refine Ev.congr (fun k => by rw [if_neg (by simp)]) h
      have h := hl1 on.length 0 0 (by omega) (Nat.le_refl _)
      refine Ev.step (f := fun k => glisterref10_Fails.l1 k r (c : Int) (a : Int) 0 0 need people cases) (fun k => by rw [glisterref10_Fails.l0, if_pos (by omega)]) ?_
      have e2 : failsS need ill (a : Int) (on :: r.drop (a + 1)) = (if ((0 + (on.drop 0).countP (upB ill (a : Int)) : Nat) : Int) < need.getD a 0 then (a : Int) else failsS need ill ((a + 1 : Nat) : Int) (r.drop (a + 1))) := by
        rw [failsS, awakeN, List.drop_zero, Nat.zero_add, Int.toNat_natCast]
        rfl
      rw [e2]
      exact h
  have := key r.length 0 (by omega)
  rw [List.drop_zero] at this
  exact this
end Go.Proofs.YtekdacalkllipaaGreat.PR
end
section
/- RotaRules, walked: true, whatever the input. -/
namespace Go.Proofs.YtekdacalkllipaaGreat.PR
open Go.RowKit Go.Shelf Go.Proofs.YtekdacalkllipaaGreatW.PrintWords Go.Proofs.YtekdacalkllipaaGreatW.PrintLast Go.Proofs.YtekdacalkllipaaGreatW.PrintMore
set_option linter.unusedVariables false
set_option linter.unusedSimpArgs false
attribute [local go_sem] Oper.semAt_some

theorem rota_able {need : List Int} {people : List S119} {cases r : List (List Int)} (h : rotaErr need (people.map toP) cases r = 0) : ∀ x ∈ people, r.length ≤ x.f0.length := by
  obtain ⟨hpe, hrl, _⟩ := rotaErr_ok h
  intro x hx
  unfold postErr at hpe
  split at hpe
  · cases hpe
  · split at hpe
    · cases hpe
    · rename_i hb
      simp only [not_or, Bool.not_eq_false] at hb
      have := List.all_eq_true.1 hb.2.2.2.1 (toP x) (List.mem_map_of_mem hx)
      unfold personOk toP at this
      simp at this
      omega
end Go.Proofs.YtekdacalkllipaaGreat.PR
end
section
/- RotaFails, walked: true, whatever the input. -/
namespace Go.Proofs.YtekdacalkllipaaGreat.PR
open Go.RowKit Go.Shelf Go.Proofs.YtekdacalkllipaaGreatW.PrintWords Go.Proofs.YtekdacalkllipaaGreatW.PrintLast Go.Proofs.YtekdacalkllipaaGreatW.PrintMore
set_option linter.unusedVariables false
set_option linter.unusedSimpArgs false
attribute [local go_sem] Oper.semAt_some
attribute [local simp] wide_fn

theorem rota_ill {need : List Int} {people : List S128} {cases r : List (List Int)} (h : rotaErr need people cases r = 0) : ∀ l ∈ cases, (∀ y ∈ l, -1 ≤ y) ∧ ∀ on ∈ r, ∀ x ∈ on, 0 ≤ x ∧ x < l.length := by
  obtain ⟨_, _, h3⟩ := rotaErr_fine need people cases r h
  obtain ⟨hpe, _, _⟩ := rotaErr_ok h
  intro l hl
  refine ⟨?_, h3 l hl⟩
  unfold postErr at hpe
  split at hpe
  · cases hpe
  · split at hpe
    · cases hpe
    · rename_i hb
      simp only [not_or, Bool.not_eq_false] at hb
      have := List.all_eq_true.1 hb.2.2.2.2 l hl
      unfold illOk at this
      rw [Bool.and_eq_true] at this
      intro y hy
      have h9 := List.all_eq_true.1 this.2 y hy
      unfold inr at h9
      have := of_decide_eq_true h9
      omega
end Go.Proofs.YtekdacalkllipaaGreat.PR
end
section
/- The reference's Safe, Duties; ready. -/
namespace Go.Proofs.YtekdacalkllipaaGreat.PR
open Go.RowKit Go.Shelf Go.Proofs.YtekdacalkllipaaGreatW.PrintWords Go.Proofs.YtekdacalkllipaaGreatW.PrintLast Go.Proofs.YtekdacalkllipaaGreatW.PrintMore
set_option linter.unusedVariables false
set_option linter.unusedSimpArgs false

theorem fails_pos (need : List Int) (ill : Option (List Int)) : ∀ (r : List (List Int)) (watch : Int), 0 ≤ watch → failsS need ill watch r = -1 ∨ watch ≤ failsS need ill watch r
  | [], watch, h => .inl rfl
  | on :: r, watch, h => by
    unfold failsS
    split
    · exact .inr (Int.le_refl _)
    · rcases fails_pos need ill r (watch + 1) (by omega) with h1 | h1
      · exact .inl h1
      · exact .inr (by omega)
/-- A rota holds just where it fails in no case. -/
theorem holds_fails (need : List Int) (cases : List (List Int)) : ∀ (r : List (List Int)) (watch : Int), 0 ≤ watch → (holdsFrom need cases watch r = true ↔ ∀ i, i < cases.length + 1 → failsS need (caseAt cases i) watch r = -1)
  | [], watch, h => by simp [holdsFrom, failsS]
  | on :: r, watch, h => by
    unfold holdsFrom
    rw [Bool.and_eq_true, holds_fails need cases r (watch + 1) (by omega)]
    unfold holdsB
    rw [List.all_eq_true]
    constructor
    · rintro ⟨h1, h2⟩ i hi
      have h3 := h1 i (List.mem_range.2 hi)
      simp only [decide_eq_true_eq] at h3
      unfold failsS
      rw [if_neg (by omega)]
      exact h2 i hi
    · intro h1
      refine ⟨fun i hi => ?_, fun i hi => ?_⟩
      · have h3 := h1 i (List.mem_range.1 hi)
        unfold failsS at h3
        split at h3
        · omega
        · simp only [decide_eq_true_eq]; omega
      · have h3 := h1 i hi
        unfold failsS at h3
        split at h3
        · omega
        · exact h3
theorem refduties_ev (r : List (List Int)) (hr : r.length < 1000) (hx : ∀ l ∈ r, l.length < 1000) : Ev (fun k => glisterref10_Duties.f k r) (dutiesS r) := by
  have key : ∀ d i, i + d = r.length → Ev (fun k => glisterref10_Duties.l0 k r ((((r.take i).map List.length).sum : Nat) : Int) (i : Int)) (dutiesS r) := by
    intro d
    induction d with
    | zero =>
      intro i hi
      refine Ev.step (f := fun _ => some (dutiesS r)) (fun k => ?_) (Ev.now fun _ => rfl)
      rw [glisterref10_Duties.l0, if_neg (by omega), List.take_of_length_le (by omega), duties_sum]
    | succ d ih =>
      intro i hi
      have hi' : i < r.length := by omega
      have e : r.getD i [] = r[i] := by rw [List.getD_eq_getElem?_getD, List.getElem?_eq_getElem hi']; rfl
      have hb := hx _ (List.getElem_mem hi')
      have hs := sum_le (r.take i) 1000 (fun on hon => by have := hx on (List.mem_of_mem_take hon); omega)
      have hl : (r.take i).length ≤ 1000 := by rw [List.length_take]; omega
      have hs2 : (r.take i).length * 1000 ≤ 1000 * 1000 := Nat.mul_le_mul_right _ hl
      refine Ev.step (f := fun k => glisterref10_Duties.l0 k r ((((r.take (i + 1)).map List.length).sum : Nat) : Int) ((i + 1 : Nat) : Int)) (fun k => ?_) (ih (i + 1) (by omega))
      have hsum : ((r.take (i + 1)).map List.length).sum = ((r.take i).map List.length).sum + r[i].length := by
        rw [List.take_succ_eq_append_getElem hi', List.map_append, List.sum_append]; simp
      rw [glisterref10_Duties.l0, if_pos (by omega), if_pos (by omega), rdL_get, e, wr1 (by omega), hsum]
      have hw : wrap64 ((((r.take i).map List.length).sum : Nat) + (r[i].length : Int)) = ((((r.take i).map List.length).sum + r[i].length : Nat) : Int) := by
        unfold wrap64; omega
      rw [hw]
  exact key r.length 0 (by omega)
theorem refsafe_ev (need : List Int) (people : List S119) (cases r : List (List Int)) (he : rotaErr need (people.map toP) cases r = 0) (hr : r.length < 1000) (hx : ∀ l ∈ r, l.length < 1000) (hp : people.length < 1000) (hc : cases.length < 1000) :
    Ev (fun k => glisterref10_Safe.f k need people cases r) (rulesS (people.map toP) 0 r std0 && holdsFrom need cases 0 r) := by
  have hrl := (rotaErr_ok he).2.1
  have hill := rota_ill he
  have hru := refrules_ev need people cases r hp hr hx (rota_able he)
  rw [← rules_same need people cases r he] at hru
  have h := loop_all (fun k i => glisterref10_Safe.l0 k r i need people cases) (cases.length + 1) (fun i => decide (failsS need (caseAt cases i) 0 r = -1)) (rulesS (people.map toP) 0 r std0) false (fun i hi v hv => by
      refine Ev.step (f := fun k => (glisterref10_Fails.f k need people cases r (i : Int)).bind fun t190 => if t190 ≥ 0 then some false else glisterref10_Safe.l0 k r ((i + 1 : Nat) : Int) need people cases) (fun k => ?_) ?_
      · rw [glisterref10_Safe.l0, if_pos (by omega), wr1 (by omega)]
      · refine Ev.bind (reffails_ev need people cases r i (by omega) hrl hr hx hill) ?_
        rcases fails_pos need (caseAt cases i) r 0 (Int.le_refl _) with h1 | h1
        · rw [h1]
          exact Ev.congr (fun k => by rw [if_neg (by omega)]) (by simpa using hv)
        · refine Ev.now fun k => ?_
          rw [if_pos h1, if_neg (by simp only [decide_eq_true_eq]; omega)])
    (Ev.step (f := fun k => (glisterref10_Rules.f k need people cases r).bind fun t191 => some t191) (fun k => by rw [glisterref10_Safe.l0, if_neg (by push_cast; omega)]) (Ev.bind hru (Ev.now fun _ => rfl)))
  have e : (if ((List.range (cases.length + 1)).all fun i => decide (failsS need (caseAt cases i) 0 r = -1)) = true then rulesS (people.map toP) 0 r std0 else false) = (rulesS (people.map toP) 0 r std0 && holdsFrom need cases 0 r) := by
    have h2 : ((List.range (cases.length + 1)).all fun i => decide (failsS need (caseAt cases i) 0 r = -1)) = holdsFrom need cases 0 r := by
      rw [Bool.eq_iff_iff, holds_fails need cases r 0 (Int.le_refl _), List.all_eq_true]
      constructor
      · intro h i hi; simpa using h i (List.mem_range.2 hi)
      · intro h i hi; simpa using h i (List.mem_range.1 hi)
    rw [h2]
    cases holdsFrom need cases 0 r <;> simp
  rw [e] at h
  exact h
end Go.Proofs.YtekdacalkllipaaGreat.PR
end
section
/- The laws' helpers as calls: mirrors. -/
namespace Go.Proofs.YtekdacalkllipaaGreat.PR
open Go.RowKit Go.Shelf Go.Proofs.YtekdacalkllipaaGreatW.PrintWords Go.Proofs.YtekdacalkllipaaGreatW.PrintLast Go.Proofs.YtekdacalkllipaaGreatW.PrintMore
set_option linter.unusedVariables false

section
variable {A0 A1 A2 : Option Addr} {c0 c1 c2 : Nat} {w : World} {fl : Int} {l0 : List S177} {l1 l2 : List Int}
theorem rising_c (n : Nat) (h1 : SL (Kd.int .i64) A1 c1 w l1) {b : Bool} (hb : Ev (fun k => glisterref10_Rising.f k l1 (n : Int)) b) :
    Calls Tryz.prog 50 #[.slice A1 l1.length c1, .int .i64 (n : Int)] w fun e w' => e = .returned (.bool b) ∧ Below w.heap.size w w' := by
  obtain ⟨k, hk⟩ := hb.one
  refine (glisterref10_Rising.calls k A1 c1 l1 (n : Int) b w h1.2 h1.1 hk).mono ?_
  rintro e w' ⟨rfl, h⟩
  exact ⟨rfl, drawn_below h⟩
end
end Go.Proofs.YtekdacalkllipaaGreat.PR
end
section
/- The laws' helpers as calls: ready, IsRota, Safe, Duties. -/
namespace Go.Proofs.YtekdacalkllipaaGreat.PR
open Go.RowKit Go.Shelf Go.Proofs.YtekdacalkllipaaGreatW.PrintWords Go.Proofs.YtekdacalkllipaaGreatW.PrintLast Go.Proofs.YtekdacalkllipaaGreatW.PrintMore
set_option linter.unusedVariables false

section
variable {A0 A1 A2 A3 : Option Addr} {c0 c1 c2 c3 : Nat} {w : World} {l0 : List Int} {l1 : List S119} {l2 l3 : List (List Int)}
theorem isrota_c (h0 : SL (Kd.int .i64) A0 c0 w l0) (h1 : SL k119 A1 c1 w l1) (h2 : SL KR A2 c2 w l2) (h3 : SL KR A3 c3 w l3) {b : Bool} (hb : Ev (fun k => glisterref10_IsRota.f k l0 l1 l2 l3) b) :
    Calls Tryz.prog 43 #[.agg #[.slice A0 l0.length c0, .slice A1 l1.length c1, .slice A2 l2.length c2], .slice A3 l3.length c3] w fun e w' => e = .returned (.bool b) ∧ Below w.heap.size w w' := by
  obtain ⟨k, hk⟩ := hb.one
  exact glisterref10_IsRota.calls k A0 c0 l0 A1 c1 l1 A2 c2 l2 A3 c3 l3 b w h0.2 h0.1 h1.2 h1.1 h2.2 h2.1 h3.2 h3.1 hk
theorem refsafe_c (h0 : SL (Kd.int .i64) A0 c0 w l0) (h1 : SL k119 A1 c1 w l1) (h2 : SL KR A2 c2 w l2) (h3 : SL KR A3 c3 w l3) {b : Bool} (hb : Ev (fun k => glisterref10_Safe.f k l0 l1 l2 l3) b) :
    Calls Tryz.prog 64 #[.agg #[.slice A0 l0.length c0, .slice A1 l1.length c1, .slice A2 l2.length c2], .slice A3 l3.length c3] w fun e w' => e = .returned (.bool b) ∧ Below w.heap.size w w' := by
  obtain ⟨k, hk⟩ := hb.one
  exact glisterref10_Safe.calls k A0 c0 l0 A1 c1 l1 A2 c2 l2 A3 c3 l3 b w h0.2 h0.1 h1.2 h1.1 h2.2 h2.1 h3.2 h3.1 hk
theorem refduties_c (h3 : SL KR A3 c3 w l3) {n : Int} (hb : Ev (fun k => glisterref10_Duties.f k l3) n) :
    Calls Tryz.prog 65 #[.slice A3 l3.length c3] w fun e w' => e = .returned (.int .i64 n) ∧ Below w.heap.size w w' := by
  obtain ⟨k, hk⟩ := hb.one
  refine (glisterref10_Duties.calls k A3 c3 l3 n w h3.2 h3.1 hk).mono ?_
  rintro e w' ⟨rfl, h⟩
  exact ⟨rfl, drawn_below h⟩
end
theorem evs_incB (n : Nat) : incB (evs n) n = true := by
  rw [incB_IncF]
  have := evs_inc n
  exact ⟨this.1, fun x hx => by have := this.2 x hx; exact ⟨by have := this.1; omega, this.2⟩⟩
/-- A safe rota of some people's lists is one. -/
theorem safe_sub {need : List Int} {people : List S128} {cases : List (List Int)} (hp : postErr need people cases = 0) {l : List Int} (hl : incB l people.length = true) {r : List (List Int)} (h : SafeOf need people cases (listsS l) r) : SafeR need people cases r := by
  rw [safe_of hp]
  refine ⟨h.1, fun on hon => ?_, h.2.2.1, h.2.2.2⟩
  rw [mem_lists_evs]
  obtain ⟨b, _, e⟩ := mem_listsS.1 (h.2.1 on hon)
  rw [incB_IncF] at hl ⊢
  have hsl : on.Sublist l := by
    rw [← e]
    unfold subL subK
    have h9 : ((List.range l.length).map fun j => l.getD j 0) = l := by
      apply List.ext_getElem
      · simp
      · intro i h1 h2; simp [List.getD_eq_getElem?_getD, h2]
    have h8 := (List.filter_sublist (p := bitB b) (l := List.range l.length)).map (fun j => l.getD j 0)
    rw [h9] at h8
    exact h8
  exact ⟨hl.1.sublist hsl, fun x hx => hl.2 x (hsl.subset hx)⟩
end Go.Proofs.YtekdacalkllipaaGreat.PR
end
section
/- The document's Fault, walked by hand. -/
namespace Go.Proofs.YtekdacalkllipaaGreat.PR
open Go.RowKit Go.Shelf Go.Proofs.YtekdacalkllipaaGreatW.PrintWords Go.Proofs.YtekdacalkllipaaGreatW.PrintLast Go.Proofs.YtekdacalkllipaaGreatW.PrintMore
set_option linter.unusedVariables false
set_option linter.unusedSimpArgs false
attribute [local go_sem] Oper.semAt_some
attribute [local simp] wide_fn

theorem in_any (a b c : Int) (w : World) : Calls Tryz.prog 99 #[.int .i64 a, .int .i64 b, .int .i64 c] w fun e w' => e = .returned (.bool (inr a b c)) ∧ Below w.heap.size w w' := by
  refine (glisterref10_In.calls a b c _ w (in_ev a b c)).mono ?_
  rintro e w' ⟨rfl, h⟩
  exact ⟨rfl, drawn_below h⟩
set_option maxRecDepth 100000 in
set_option maxHeartbeats 4000000 in
theorem fault_any {A0 A1 A2 : Option Addr} {c0 c1 c2 : Nat} {w : World} {l0 : List Int} {l1 : List S119} {l2 : List (List Int)} (h0 : SL (Kd.int .i64) A0 c0 w l0) (h1 : SL k119 A1 c1 w l1) (h2 : SL KR A2 c2 w l2) :
    Calls Tryz.prog 38 #[.agg #[.slice A0 l0.length c0, .slice A1 l1.length c1, .slice A2 l2.length c2]] w fun e w' => e = .returned (.int .i64 (postErr l0 (l1.map toP) l2)) ∧ Below w.heap.size w w' := by
  obtain ⟨P, hP⟩ : ∃ P, P = w.heap.size := ⟨_, rfl⟩
  obtain ⟨w0, hw0⟩ : ∃ w0, w0 = w.alloc (.cells #[.slice A0 l0.length c0, .slice A1 l1.length c1, .slice A2 l2.length c2] 26) := ⟨_, rfl⟩
  have hb : Below w.heap.size w w0 := by rw [hw0]; exact below_alloc (Below.refl _ _) _
  have hk : w0.heap[P]? = some (.cells #[.slice A0 l0.length c0, .slice A1 l1.length c1, .slice A2 l2.length c2] 26 (0, 0)) := by rw [hw0, hP]; exact blk_new w _
  obtain ⟨er, her⟩ : ∃ er, er = postErr l0 (l1.map toP) l2 := ⟨_, rfl⟩
  rw [← her]
  have HER := Aside0.mk her
  have HK0 := Aside0.mk hk
  have HX0 := Aside0.mk (h0.below hb)
  have HY0 := Aside0.mk (h1.below hb)
  have HZ0 := Aside0.mk (h2.below hb)
  have HB0 := Aside0.mk hb
  clear h0 h1 h2 hb hk her
  have hu26 := Tryz.underlying26
  have q0 : w0.cell? ⟨P, 0, none⟩ = some (.slice A0 l0.length c0) := (blk_cell HK0.out 0).trans rfl
  have q1 : w0.cell? ⟨P, 1, none⟩ = some (.slice A1 l1.length c1) := (blk_cell HK0.out 1).trans rfl
  have q2 : w0.cell? ⟨P, 2, none⟩ = some (.slice A2 l2.length c2) := (blk_cell HK0.out 2).trans rfl
  rw [hw0, hP] at q0 q1 q2
  refine (callsIn_wide (n := 40)).1 ?_
  refine callsIn_of_wp Tryz.func38 rfl trivial ?_ rfl
  simp only [Tryz.ntmps38, List.size_toArray, List.length_cons, List.length_nil, Nat.reduceAdd, Nat.reduceSub, Array.replicate_succ, Array.replicate_zero, List.push_toArray, List.append_toArray, List.nil_append, List.cons_append]
  by_cases a0 : 5 < l0.length
  · have g0 : (5 : Int) < (l0.length : Int) := by omega
    have e : er = 3 := by rw [HER.out, postErr, if_pos (.inl a0)]
    subst e
    gi_wp2
    go_ret
    rw [← hw0]
    exact ⟨rfl, HB0.out⟩
  by_cases a1 : 4 < l1.length
  · have g0 : ¬ (5 : Int) < (l0.length : Int) := by omega
    have g1 : (4 : Int) < (l1.length : Int) := by omega
    have e : er = 3 := by rw [HER.out, postErr, if_pos (.inr (.inl (by simpa using a1)))]
    subst e
    gi_wp2
    go_ret
    rw [← hw0]
    exact ⟨rfl, HB0.out⟩
  by_cases a2 : 4 < l2.length
  · have g0 : ¬ (5 : Int) < (l0.length : Int) := by omega
    have g1 : ¬ (4 : Int) < (l1.length : Int) := by omega
    have g2 : (4 : Int) < (l2.length : Int) := by omega
    have e : er = 3 := by rw [HER.out, postErr, if_pos (.inr (.inr a2))]
    subst e
    gi_wp2
    go_ret
    rw [← hw0]
    exact ⟨rfl, HB0.out⟩
  have g0 : ¬ (5 : Int) < (l0.length : Int) := by omega
  have g1 : ¬ (4 : Int) < (l1.length : Int) := by omega
  have g2 : ¬ (4 : Int) < (l2.length : Int) := by omega
  have HV : Aside0 (er = if l0.length = 0 ∨ l1.length = 0 ∨ (l0.all fun n => inr n 0 2) = false ∨ (l1.all fun x => personOk l0 (toP x)) = false ∨ (l2.all (illOk l0 l1.length)) = false then 1 else 0) := ⟨by
    rw [HER.out, postErr, if_neg (by simp only [List.length_map]; omega)]
    simp only [List.length_map, List.all_map]
    rfl⟩
  have HSM := Aside0.mk (And.intro a0 (And.intro a1 a2))
  clear a0 a1 a2
  by_cases b0 : l0.length = 0
  · have g3 : ((l0.length : Int) == 0) = true := beq_iff_eq.2 (by omega)
    have e : er = 1 := by rw [HV.out, if_pos (.inl b0)]
    subst e
    clear b0
    gi_wp2
    go_ret
    rw [← hw0]
    exact ⟨rfl, HB0.out⟩
  by_cases b1 : l1.length = 0
  · have g3 : ((l0.length : Int) == 0) = false := beq_eq_false_iff_ne.2 (by omega)
    have g4 : ((l1.length : Int) == 0) = true := beq_iff_eq.2 (by omega)
    have e : er = 1 := by rw [HV.out, if_pos (.inr (.inl b1))]
    subst e
    clear b0 b1
    gi_wp2
    go_ret
    rw [← hw0]
    exact ⟨rfl, HB0.out⟩
  have g3 : ((l0.length : Int) == 0) = false := beq_eq_false_iff_ne.2 (by omega)
  have g4 : ((l1.length : Int) == 0) = false := beq_eq_false_iff_ne.2 (by omega)
  have HNZ := Aside0.mk (And.intro b0 b1)
  clear b0 b1
  gi_wp2
  rw [← hw0, ← hP]
  have HP := Aside0.mk hP
  clear hP hw0 q0 q1 q2
  gi_loopw [3] (fun s3 wr => ∃ i : Nat, i ≤ l0.length ∧ s3 = .int .i64 i ∧ Aside0 (Below w.heap.size w wr) ∧ Aside0 (wr.heap[P]? = some (.cells #[.slice A0 l0.length c0, .slice A1 l1.length c1, .slice A2 l2.length c2] 26 (0, 0))) ∧ Aside0 (SL (Kd.int .i64) A0 c0 wr l0) ∧ Aside0 (SL k119 A1 c1 wr l1) ∧ Aside0 (SL KR A2 c2 wr l2) ∧ Aside0 (∀ j, j < i → inr (l0.getD j 0) 0 2 = true))
    (fun s3 _ => l0.length - (intOf s3).toNat)
  case atStart => exact ⟨0, Nat.zero_le _, rfl, HB0, HK0, HX0, HY0, HZ0, ⟨fun j hj => by omega⟩⟩
  case round =>
    obtain ⟨i, hi, rfl, HBr, HKr, HXr, HYr, HZr, HJr⟩ := hrel
    have q0 : wr.cell? ⟨P, 0, none⟩ = some (.slice A0 l0.length c0) := (blk_cell HKr.out 0).trans rfl
    have q1 : wr.cell? ⟨P, 1, none⟩ = some (.slice A1 l1.length c1) := (blk_cell HKr.out 1).trans rfl
    by_cases hlt : i < l0.length
    · have hltz : (i : Int) < (l0.length : Int) := by omega
      obtain ⟨ad, ea, hx⟩ := Kd.at_int HXr.out.2 (i : Int) (by omega) (by omega)
      subst ea
      obtain ⟨v, hv⟩ : ∃ v, v = l0.getD i 0 := ⟨_, rfl⟩
      rw [rd_get, ← hv, Int.toNat_natCast] at hx
      obtain ⟨b, hb⟩ : ∃ b, b = inr v 0 2 := ⟨_, rfl⟩
      have hc := in_any v 0 2 wr
      rw [← hb] at hc
      have HC := Aside0.mk hc
      have HVB := Aside0.mk (And.intro hv hb)
      clear hc hv hb
      gi_wp2_with fail
      refine (callsIn_wide.2 HC.out).mono ?_
      rintro e w5 ⟨rfl, hb5⟩
      have HB5 := Aside0.mk hb5
      clear HC hb5 hx q0 q1
      cases b with
      | true =>
        have hw2 : IntKind.i64.wrap ((i : Int) + 1) = (i : Int) + 1 := by rw [IntKind.wrap_i64]; have := HSM.out.1; omega
        have hw3 : wrap64 ((i : Int) + 1) = (i : Int) + 1 := by unfold wrap64; have := HSM.out.1; omega
        gi_wp2
        go_roundw
        case measure => simp [intOf]; omega
        case rel => exact ⟨i + 1, by omega, by go_num, ⟨HBr.out.trans (HB5.out.mono HBr.out.size)⟩, ⟨blk_below HKr.out HB5.out⟩, ⟨HXr.out.below HB5.out⟩, ⟨HYr.out.below HB5.out⟩, ⟨HZr.out.below HB5.out⟩, ⟨fun j hj => by
          by_cases e : j = i
          · subst e; rw [← HVB.out.1, ← HVB.out.2]
          · exact HJr.out j (by omega)⟩⟩
      | false =>
        have e : er = 1 := by
          rw [HV.out, if_pos]
          refine .inr (.inr (.inl ?_))
          rw [← all_get (fun n => inr n 0 2)]
          cases hq : (List.range l0.length).all fun i => inr (l0.getD i 0) 0 2 with
          | false => rfl
          | true =>
            have := List.all_eq_true.1 hq i (List.mem_range.2 hlt)
            rw [← HVB.out.1, ← HVB.out.2] at this
            cases this
        subst e
        gi_wp2
        go_ret
        exact ⟨rfl, HBr.out.trans (HB5.out.mono HBr.out.size)⟩
    · have hltz : ¬ (i : Int) < (l0.length : Int) := by omega
      obtain rfl : i = l0.length := by omega
      have hall : (l0.all fun n => inr n 0 2) = true := by
        rw [← all_get (fun n => inr n 0 2), List.all_eq_true]
        exact fun j hj => HJr.out j (List.mem_range.1 hj)
      have HV1 : Aside0 (er = if (l1.all fun x => personOk l0 (toP x)) = false ∨ (l2.all (illOk l0 l1.length)) = false then 1 else 0) := ⟨by
        rw [HV.out, hall]
        have h9 := HNZ.out
        simp [h9.1, h9.2]⟩
      clear hall
      clear HJr q0 q1
      have HBa := HBr
      have HKa := HKr
      have HXa := HXr
      have HYa := HYr
      have HZa := HZr
      obtain ⟨wa, hwa⟩ : ∃ wa, wa = wr := ⟨_, rfl⟩
      rw [← hwa] at HBa HKa HXa HYa HZa ⊢
      clear HBr HKr HXr HYr HZr hwa
      have q1 : wa.cell? ⟨P, 1, none⟩ = some (.slice A1 l1.length c1) := (blk_cell HKa.out 1).trans rfl
      have q0 : wa.cell? ⟨P, 0, none⟩ = some (.slice A0 l0.length c0) := (blk_cell HKa.out 0).trans rfl
      gi_wp2
      clear q0
      clear q1
      gi_loopw [4] (fun s4 wr => ∃ i : Nat, i ≤ l1.length ∧ s4 = .int .i64 i ∧ Aside0 (Below w.heap.size w wr) ∧ Aside0 (wr.heap[P]? = some (.cells #[.slice A0 l0.length c0, .slice A1 l1.length c1, .slice A2 l2.length c2] 26 (0, 0))) ∧ Aside0 (SL (Kd.int .i64) A0 c0 wr l0) ∧ Aside0 (SL k119 A1 c1 wr l1) ∧ Aside0 (SL KR A2 c2 wr l2) ∧ Aside0 (∀ j, j < i → personOk l0 (toP (l1.getD j z119)) = true))
        (fun s4 _ => l1.length - (intOf s4).toNat)
      case atStart => exact ⟨0, Nat.zero_le _, rfl, HBa, HKa, HXa, HYa, HZa, ⟨fun j hj => by omega⟩⟩
      case round =>
        obtain ⟨i, hi, rfl, HBr, HKr, HXr, HYr, HZr, HJr⟩ := hrel
        have q0 : wr.cell? ⟨P, 0, none⟩ = some (.slice A0 l0.length c0) := (blk_cell HKr.out 0).trans rfl
        have q1 : wr.cell? ⟨P, 1, none⟩ = some (.slice A1 l1.length c1) := (blk_cell HKr.out 1).trans rfl
        have q2 : wr.cell? ⟨P, 2, none⟩ = some (.slice A2 l2.length c2) := (blk_cell HKr.out 2).trans rfl
        by_cases hlt : i < l1.length
        · have hltz : (i : Int) < (l1.length : Int) := by omega
          obtain ⟨ad, Ax, cx, ea, hx0, hx1, hx2, hxl, hxC⟩ := at_T119 HYr.out.2 (i : Int) (by omega) (by omega)
          subst ea
          obtain ⟨p, hp⟩ : ∃ p, p = l1.getD i z119 := ⟨_, rfl⟩
          rw [rdT_get, ← hp, Int.toNat_natCast] at hx0 hx1 hx2
          obtain ⟨wx, hwx⟩ : ∃ wx, wx = wr.alloc (.cells #[.slice Ax p.f0.length cx, .int .i64 p.f1, .int .i64 p.f2] 119) := ⟨_, rfl⟩
          obtain ⟨G, hG⟩ : ∃ G, G = wr.heap.size := ⟨_, rfl⟩
          have hbx : Below wr.heap.size wr wx := by rw [hwx]; exact below_alloc (Below.refl _ _) _
          have hgx : wx.heap[G]? = some (.cells #[.slice Ax p.f0.length cx, .int .i64 p.f1, .int .i64 p.f2] 119 (0, 0)) := by rw [hwx, hG]; exact blk_new wr _
          have HBx := Aside0.mk (HBr.out.trans (hbx.mono HBr.out.size))
          have HKx := Aside0.mk (blk_below HKr.out hbx)
          have HXx := Aside0.mk (HXr.out.below hbx)
          have HYx := Aside0.mk (HYr.out.below hbx)
          have HZx := Aside0.mk (HZr.out.below hbx)
          have HGx := Aside0.mk hgx
          have y0 : wx.cell? ⟨G, 0, none⟩ = some (.slice Ax p.f0.length cx) := (blk_cell hgx 0).trans rfl
          have y1 : wx.cell? ⟨G, 1, none⟩ = some (.int .i64 p.f1) := (blk_cell hgx 1).trans rfl
          have y2 : wx.cell? ⟨G, 2, none⟩ = some (.int .i64 p.f2) := (blk_cell hgx 2).trans rfl
          have z0 : wx.cell? ⟨P, 0, none⟩ = some (.slice A0 l0.length c0) := (blk_cell HKx.out 0).trans rfl
          rw [hwx, hG] at y0 y1 y2
          rw [hwx] at z0
          have HPP := Aside0.mk hp
          have HV2 : Aside0 (personOk l0 (toP p) = false → er = 1) := ⟨fun hf => by
            rw [HV1.out, if_pos]
            refine .inl ?_
            rw [List.all_eq_false]
            refine ⟨p, ?_, by rw [hf]; simp⟩
            rw [hp, List.getD_eq_getElem?_getD, List.getElem?_eq_getElem hlt]
            exact List.getElem_mem hlt⟩
          clear hp hxl hxC hbx hgx q0 q2
          have hu119 := Tryz.underlying119
          by_cases hl : p.f0.length = l0.length
          · have hlb : ((p.f0.length : Int) != (l0.length : Int)) = false := bne_eq_false_iff_eq.2 (by omega)
            have HL := Aside0.mk hl
            clear hl
            obtain ⟨b, hb⟩ : ∃ b, b = inr p.f1 0 5 := ⟨_, rfl⟩
            obtain ⟨b', hb'⟩ : ∃ b', b' = inr p.f2 0 5 := ⟨_, rfl⟩
            have hc := in_any p.f1 0 5 wx
            rw [← hb] at hc
            have HC := Aside0.mk hc
            have HVB := Aside0.mk (And.intro hb hb')
            clear hc hb hb'
            gi_wp2_with fail
            rw [← hwx, ← hG]
            refine (callsIn_wide.2 HC.out).mono ?_
            rintro e w5 ⟨rfl, hb5⟩
            have HB5 := Aside0.mk (HBx.out.trans (hb5.mono HBx.out.size))
            have HK5 := Aside0.mk (blk_below HKx.out hb5)
            have HX5 := Aside0.mk (HXx.out.below hb5)
            have HY5 := Aside0.mk (HYx.out.below hb5)
            have HZ5 := Aside0.mk (HZx.out.below hb5)
            have HG5 := Aside0.mk (blk_below HGx.out hb5)
            clear HC hb5 q1 y0 y1 y2 z0 hwx hG hx0 hx1 hx2 HBx HKx HXx HYx HZx HGx
            cases b with
            | true =>
              have y2 : w5.cell? ⟨G, 2, none⟩ = some (.int .i64 p.f2) := (blk_cell HG5.out 2).trans rfl
              have hc := in_any p.f2 0 5 w5
              rw [← HVB.out.2] at hc
              have HC := Aside0.mk hc
              clear hc
              gi_wp2_with fail
              refine (callsIn_wide.2 HC.out).mono ?_
              rintro e w6 ⟨rfl, hb6⟩
              have HB6 := Aside0.mk (HB5.out.trans (hb6.mono HB5.out.size))
              have HK6 := Aside0.mk (blk_below HK5.out hb6)
              have HX6 := Aside0.mk (HX5.out.below hb6)
              have HY6 := Aside0.mk (HY5.out.below hb6)
              have HZ6 := Aside0.mk (HZ5.out.below hb6)
              clear HC hb6 y2 HB5 HK5 HX5 HY5 HZ5 HG5
              cases b' with
              | true =>
                have hw2 : IntKind.i64.wrap ((i : Int) + 1) = (i : Int) + 1 := by rw [IntKind.wrap_i64]; have := HSM.out.2.1; omega
                have hw3 : wrap64 ((i : Int) + 1) = (i : Int) + 1 := by unfold wrap64; have := HSM.out.2.1; omega
                gi_wp2
                go_roundw
                case measure => simp [intOf]; omega
                case rel => exact ⟨i + 1, by omega, by go_num, HB6, HK6, HX6, HY6, HZ6, ⟨fun j hj => by
                  by_cases e : j = i
                  · subst e
                    rw [← HPP.out]
                    have h1 := HVB.out.1
                    have h2 := HVB.out.2
                    unfold inr at h1 h2
                    have h1 := of_decide_eq_true h1.symm
                    have h2 := of_decide_eq_true h2.symm
                    unfold personOk toP
                    exact decide_eq_true ⟨HL.out, h1.1, h1.2, h2.1, h2.2⟩
                  · exact HJr.out j (by omega)⟩⟩
              | false =>
                have e : er = 1 := HV2.out (by
                  have h2 := HVB.out.2
                  unfold inr at h2
                  have h2 := of_decide_eq_false h2.symm
                  unfold personOk toP
                  exact decide_eq_false fun h => h2 ⟨h.2.2.2.1, h.2.2.2.2⟩)
                subst e
                gi_wp2
                go_ret
                exact ⟨rfl, HB6.out⟩
            | false =>
              have e : er = 1 := HV2.out (by
                have h2 := HVB.out.1
                unfold inr at h2
                have h2 := of_decide_eq_false h2.symm
                unfold personOk toP
                exact decide_eq_false fun h => h2 ⟨h.2.1, h.2.2.1⟩)
              subst e
              gi_wp2
              go_ret
              exact ⟨rfl, HB5.out⟩
          · have hlb : ((p.f0.length : Int) != (l0.length : Int)) = true := bne_iff_ne.2 (by omega)
            have e : er = 1 := HV2.out (by unfold personOk toP; exact decide_eq_false fun h => hl h.1)
            subst e
            clear hl
            gi_wp2
            go_ret
            rw [← hwx]
            exact ⟨rfl, HBx.out⟩
        · have hltz : ¬ (i : Int) < (l1.length : Int) := by omega
          obtain rfl : i = l1.length := by omega
          have hall : (l1.all fun x => personOk l0 (toP x)) = true := by
            rw [← all_getP (fun x => personOk l0 (toP x)), List.all_eq_true]
            exact fun j hj => by rw [rdT_get]; exact HJr.out j (List.mem_range.1 hj)
          have HV2 : Aside0 (er = if (l2.all (illOk l0 l1.length)) = false then 1 else 0) := ⟨by rw [HV1.out, hall]; simp⟩
          clear hall HJr q0 q1 q2 HV1 HBa HKa HXa HYa HZa
          obtain ⟨wb, hwb⟩ : ∃ wb, wb = wr := ⟨_, rfl⟩
          have HBb := HBr
          have HKb := HKr
          have HXb := HXr
          have HYb := HYr
          have HZb := HZr
          rw [← hwb] at HBb HKb HXb HYb HZb ⊢
          clear HBr HKr HXr HYr HZr hwb
          have q1 : wb.cell? ⟨P, 1, none⟩ = some (.slice A1 l1.length c1) := (blk_cell HKb.out 1).trans rfl
          gi_wp2
          clear q1
          gi_loopw [6] (fun s6 wr => ∃ i : Nat, i ≤ l2.length ∧ s6 = .int .i64 i ∧ Aside0 (Below w.heap.size w wr) ∧ Aside0 (wr.heap[P]? = some (.cells #[.slice A0 l0.length c0, .slice A1 l1.length c1, .slice A2 l2.length c2] 26 (0, 0))) ∧ Aside0 (SL KR A2 c2 wr l2) ∧ Aside0 (∀ j, j < i → illOk l0 l1.length (l2.getD j []) = true))
            (fun s6 _ => l2.length - (intOf s6).toNat)
          case atStart => exact ⟨0, Nat.zero_le _, rfl, HBb, HKb, HZb, ⟨fun j hj => by omega⟩⟩
          case round =>
            obtain ⟨i, hi, rfl, HBr, HKr, HZr, HJr⟩ := hrel
            have q1 : wr.cell? ⟨P, 1, none⟩ = some (.slice A1 l1.length c1) := (blk_cell HKr.out 1).trans rfl
            have q2 : wr.cell? ⟨P, 2, none⟩ = some (.slice A2 l2.length c2) := (blk_cell HKr.out 2).trans rfl
            by_cases hlt : i < l2.length
            · have hltz : (i : Int) < (l2.length : Int) := by omega
              obtain ⟨ad, Ai, ci, ea, hx, hxl, hxC⟩ := at_L1 HZr.out.2 (i : Int) (by omega) (by omega)
              subst ea
              obtain ⟨c, hc⟩ : ∃ c, c = l2.getD i [] := ⟨_, rfl⟩
              rw [rdL_get, ← hc, Int.toNat_natCast] at hx
              have HCC := Aside0.mk hc
              have HV3 : Aside0 (illOk l0 l1.length c = false → er = 1) := ⟨fun hf => by
                rw [HV2.out, if_pos]
                rw [List.all_eq_false]
                refine ⟨c, ?_, by rw [hf]; simp⟩
                rw [hc, List.getD_eq_getElem?_getD, List.getElem?_eq_getElem hlt]
                exact List.getElem_mem hlt⟩
              clear hc hxl hxC
              by_cases hl : c.length = l1.length
              · have hlb : ((c.length : Int) != (l1.length : Int)) = false := bne_eq_false_iff_eq.2 (by omega)
                gi_wp2
                gi_quiet (fail)
                have hbq : Below wr.heap.size wr (wr.drewN nq) := pw_below_drewN (Below.refl _ _) nq
                obtain ⟨wc, hwc⟩ : ∃ wc, wc = wr.drewN nq := ⟨_, rfl⟩
                rw [← hwc] at hbq ⊢
                have HBc := Aside0.mk (HBr.out.trans (hbq.mono HBr.out.size))
                have HKc := Aside0.mk (blk_below HKr.out hbq)
                have HZc := Aside0.mk (HZr.out.below hbq)
                have HL := Aside0.mk hl
                clear hl hlb hbq hwc q1 q2 hx HBr HKr HZr HV2
                gi_wp2
                gi_loopw [7] (fun s7 wr => ∃ k : Nat, k ≤ l1.length ∧ s7 = .int .i64 k ∧ Aside0 (Below w.heap.size w wr) ∧ Aside0 (wr.heap[P]? = some (.cells #[.slice A0 l0.length c0, .slice A1 l1.length c1, .slice (some ad) l2.length c2] 26 (0, 0))) ∧ Aside0 (SL KR (some ad) c2 wr l2) ∧ Aside0 (∀ j, j < k → inr (c.getD j 0) (-1) ((l0.length : Int) - 1) = true))
                  (fun s7 _ => l1.length - (intOf s7).toNat)
                case atStart => exact ⟨0, Nat.zero_le _, rfl, HBc, HKc, HZc, ⟨fun j hj => by omega⟩⟩
                case round =>
                  obtain ⟨k, hk, rfl, HBr, HKr, HZr, HIr⟩ := hrel
                  have q0 : wr.cell? ⟨P, 0, none⟩ = some (.slice A0 l0.length c0) := (blk_cell HKr.out 0).trans rfl
                  have q1 : wr.cell? ⟨P, 1, none⟩ = some (.slice A1 l1.length c1) := (blk_cell HKr.out 1).trans rfl
                  have q2 : wr.cell? ⟨P, 2, none⟩ = some (.slice (some ad) l2.length c2) := (blk_cell HKr.out 2).trans rfl
                  by_cases hlk : k < l1.length
                  · have hlkz : (k : Int) < (l1.length : Int) := by omega
                    obtain ⟨ad', Ai', ci', ea, hx, hxl, hxC⟩ := at_L1 HZr.out.2 (i : Int) (by omega) (by omega)
                    cases ea
                    rw [rdL_get, ← HCC.out] at hx hxl hxC
                    rw [Int.toNat_natCast] at hx
                    have hck : k < c.length := by have := HL.out; omega
                    obtain ⟨ac, ec, hy⟩ := Kd.at_int hxC (k : Int) (by omega) (by omega)
                    subst ec
                    obtain ⟨v, hv⟩ : ∃ v, v = c.getD k 0 := ⟨_, rfl⟩
                    rw [rd_get, ← hv, Int.toNat_natCast] at hy
                    have hckz : (k : Int) < (c.length : Int) := by omega
                    have hwl : IntKind.i64.wrap ((l0.length : Int) - 1) = (l0.length : Int) - 1 := by rw [IntKind.wrap_i64]; have := HSM.out.1; omega
                    have hwl3 : wrap64 ((l0.length : Int) - 1) = (l0.length : Int) - 1 := by unfold wrap64; have := HSM.out.1; omega
                    obtain ⟨b, hb⟩ : ∃ b, b = inr v (-1) ((l0.length : Int) - 1) := ⟨_, rfl⟩
                    have HC : Aside0 (∀ (N : Nat) (W : World), CallsIn Fence.wide N Tryz.prog 99 #[.int .i64 v, .int .i64 (-1), .int .i64 ((l0.length : Int) - 1)] W fun e w' => e = .returned (.bool b) ∧ ∃ n, w' = W.drewN n) := ⟨fun N W => by
                      refine callsIn_wide.2 ((glisterref10_In.calls v (-1) ((l0.length : Int) - 1) _ W (in_ev _ _ _)).mono ?_)
                      rintro e w' ⟨rfl, h⟩
                      exact ⟨by rw [hb], h.out⟩⟩
                    have HVB := Aside0.mk (And.intro hv hb)
                    clear hv hb hxl hxC hck
                    gi_wp2
                    gi_quiet ((gi_at_call 99; refine (HC.out _ _).mono ?_; rintro e w9 ⟨rfl, n, rfl⟩; exact ⟨rfl, _, World.drewN_drewN ..⟩))
                    cases b with
                    | true =>
                      have hw2 : IntKind.i64.wrap ((k : Int) + 1) = (k : Int) + 1 := by rw [IntKind.wrap_i64]; have := HSM.out.2.1; omega
                      have hw3 : wrap64 ((k : Int) + 1) = (k : Int) + 1 := by unfold wrap64; have := HSM.out.2.1; omega
                      have hbq : Below wr.heap.size wr (wr.drewN nq) := pw_below_drewN (Below.refl _ _) nq
                      gi_wp2
                      go_roundw
                      case measure => simp [intOf]; omega
                      case rel => exact ⟨k + 1, by omega, by go_num, ⟨HBr.out.trans (hbq.mono HBr.out.size)⟩, ⟨blk_below HKr.out hbq⟩, ⟨HZr.out.below hbq⟩, ⟨fun j hj => by
                        by_cases e : j = k
                        · subst e; rw [← HVB.out.1, ← HVB.out.2]
                        · exact HIr.out j (by omega)⟩⟩
                    | false =>
                      have e : er = 1 := HV3.out (by
                        unfold illOk
                        cases hq : (c.all fun n => inr n (-1) ((l0.length : Int) - 1)) with
                        | false => rw [Bool.and_false]
                        | true =>
                          exfalso
                          rw [← all_get (fun n => inr n (-1) ((l0.length : Int) - 1))] at hq
                          have := List.all_eq_true.1 hq k (List.mem_range.2 (by have := HL.out; omega))
                          rw [← HVB.out.1, ← HVB.out.2] at this
                          cases this)
                      subst e
                      gi_wp2
                      go_ret
                      exact ⟨rfl, pw_below_drewN HBr.out nq⟩
                  · have hlkz : ¬ (k : Int) < (l1.length : Int) := by omega
                    obtain rfl : k = l1.length := by omega
                    have hw2 : IntKind.i64.wrap ((i : Int) + 1) = (i : Int) + 1 := by rw [IntKind.wrap_i64]; have := HSM.out.2.2; omega
                    have hw3 : wrap64 ((i : Int) + 1) = (i : Int) + 1 := by unfold wrap64; have := HSM.out.2.2; omega
                    have HOK : Aside0 (illOk l0 l1.length c = true) := ⟨by
                      unfold illOk
                      rw [Bool.and_eq_true, ← all_get (fun n => inr n (-1) ((l0.length : Int) - 1)), List.all_eq_true]
                      exact ⟨decide_eq_true HL.out, fun j hj => HIr.out j (by have := List.mem_range.1 hj; have := HL.out; omega)⟩⟩
                    clear q0 q2
                    gi_wp2
                    go_roundw
                    case measure => simp [intOf]; omega
                    case rel => exact ⟨i + 1, by omega, by go_num, HBr, HKr, HZr, ⟨fun j hj => by
                      by_cases e : j = i
                      · subst e; rw [← HCC.out]; exact HOK.out
                      · exact HJr.out j (by omega)⟩⟩
              · have hlb : ((c.length : Int) != (l1.length : Int)) = true := bne_iff_ne.2 (by omega)
                have e : er = 1 := HV3.out (by unfold illOk; rw [decide_eq_false hl]; rfl)
                subst e
                clear hl
                gi_wp2
                gi_quiet (fail)
                gi_wp2
                go_ret
                exact ⟨rfl, pw_below_drewN HBr.out nq⟩
            · have hltz : ¬ (i : Int) < (l2.length : Int) := by omega
              obtain rfl : i = l2.length := by omega
              have hall : (l2.all (illOk l0 l1.length)) = true := by
                rw [← all_getL (illOk l0 l1.length), List.all_eq_true]
                exact fun j hj => HJr.out j (List.mem_range.1 hj)
              have e : er = 0 := by rw [HV2.out, hall]; simp
              subst e
              clear hall
              gi_wp2
              go_ret
              exact ⟨rfl, HBr.out⟩
end Go.Proofs.YtekdacalkllipaaGreat.PR
end
section
/- The document's words of a post's validity, by hand: fault, planned, ready, small. -/
namespace Go.Proofs.YtekdacalkllipaaGreat.PR
open Go.RowKit Go.Shelf Go.Proofs.YtekdacalkllipaaGreatW.PrintWords Go.Proofs.YtekdacalkllipaaGreatW.PrintLast Go.Proofs.YtekdacalkllipaaGreatW.PrintMore
set_option linter.unusedVariables false
set_option linter.unusedSimpArgs false
attribute [local go_sem] Oper.semAt_some
attribute [local simp] wide_fn

set_option maxRecDepth 100000 in
set_option maxHeartbeats 4000000 in
theorem fault_d {A0 A1 A2 : Option Addr} {c0 c1 c2 : Nat} {w : World} {l0 : List Int} {l1 : List S119} {l2 : List (List Int)} (h0 : SL (Kd.int .i64) A0 c0 w l0) (h1 : SL k119 A1 c1 w l1) (h2 : SL KR A2 c2 w l2) :
    Calls Tryz.prog 23 #[.agg #[.slice A0 l0.length c0, .slice A1 l1.length c1, .slice A2 l2.length c2]] w fun e w' => e = .returned (.int .i64 (postErr l0 (l1.map toP) l2)) ∧ Below w.heap.size w w' := by
  obtain ⟨er, her⟩ : ∃ er, er = postErr l0 (l1.map toP) l2 := ⟨_, rfl⟩
  rw [← her]
  have HER := Aside0.mk her
  clear her
  obtain ⟨P, hP⟩ : ∃ P, P = w.heap.size := ⟨_, rfl⟩
  obtain ⟨w0, hw0⟩ : ∃ w0, w0 = w.alloc (.cells #[.slice A0 l0.length c0, .slice A1 l1.length c1, .slice A2 l2.length c2] 26) := ⟨_, rfl⟩
  have hb : Below w.heap.size w w0 := by rw [hw0]; exact below_alloc (Below.refl _ _) _
  have HK0 : Aside0 (w0.heap[P]? = some (.cells #[.slice A0 l0.length c0, .slice A1 l1.length c1, .slice A2 l2.length c2] 26 (0, 0))) := ⟨by rw [hw0, hP]; exact blk_new w _⟩
  have HX0 := Aside0.mk (h0.below hb)
  have HY0 := Aside0.mk (h1.below hb)
  have HZ0 := Aside0.mk (h2.below hb)
  have HB0 := Aside0.mk hb
  clear h0 h1 h2 hb
  have hu26 := Tryz.underlying26
  have q0 : w0.cell? ⟨P, 0, none⟩ = some (.slice A0 l0.length c0) := (blk_cell HK0.out 0).trans rfl
  have q1 : w0.cell? ⟨P, 1, none⟩ = some (.slice A1 l1.length c1) := (blk_cell HK0.out 1).trans rfl
  have q2 : w0.cell? ⟨P, 2, none⟩ = some (.slice A2 l2.length c2) := (blk_cell HK0.out 2).trans rfl
  rw [hw0] at q0 q1 q2
  rw [hP] at q0 q1 q2
  refine (callsIn_wide (n := 40)).1 ?_
  refine callsIn_of_wp Tryz.func23 rfl trivial ?_ rfl
  simp only [Tryz.ntmps23, List.size_toArray, List.length_cons, List.length_nil, Nat.reduceAdd, Nat.reduceSub, Array.replicate_succ, Array.replicate_zero, List.push_toArray, List.append_toArray, List.nil_append, List.cons_append]
  have hc := fault_any HX0.out HY0.out HZ0.out
  rw [← HER.out] at hc
  have HC := Aside0.mk hc
  clear hc
  gi_wp2_with fail
  rw [← hw0, ← hP]
  clear hP hw0 q0 q1 q2
  refine (callsIn_wide.2 HC.out).mono ?_
  rintro e w1 ⟨rfl, hb⟩
  have HB1 := Aside0.mk (HB0.out.trans (hb.mono HB0.out.size))
  have HK1 := Aside0.mk (blk_below HK0.out hb)
  have HX1 := Aside0.mk (HX0.out.below hb)
  have HY1 := Aside0.mk (HY0.out.below hb)
  have HZ1 := Aside0.mk (HZ0.out.below hb)
  gi_wp2
  go_ret
  exact ⟨rfl, HB1.out⟩
set_option maxRecDepth 100000 in
set_option maxHeartbeats 4000000 in
theorem ready_d {A0 A1 A2 : Option Addr} {c0 c1 c2 : Nat} {w : World} {l0 : List Int} {l1 : List S119} {l2 : List (List Int)} (h0 : SL (Kd.int .i64) A0 c0 w l0) (h1 : SL k119 A1 c1 w l1) (h2 : SL KR A2 c2 w l2) {tb : Bool} (ht : Ev (fun k => glisterlaw10_Thin.f k l0 l1 l2) tb) :
    Calls Tryz.prog 53 #[.agg #[.slice A0 l0.length c0, .slice A1 l1.length c1, .slice A2 l2.length c2]] w fun e w' => e = .returned (.bool (tb && postErr l0 (l1.map toP) l2 == 0)) ∧ Below w.heap.size w w' := by
  obtain ⟨er, her⟩ : ∃ er, er = postErr l0 (l1.map toP) l2 := ⟨_, rfl⟩
  obtain ⟨rb, hrb⟩ : ∃ rb, rb = (tb && postErr l0 (l1.map toP) l2 == 0) := ⟨_, rfl⟩
  rw [← hrb]
  have HER := Aside0.mk (And.intro her hrb)
  have HT := Aside0.mk ht
  clear her hrb ht
  obtain ⟨P, hP⟩ : ∃ P, P = w.heap.size := ⟨_, rfl⟩
  obtain ⟨w0, hw0⟩ : ∃ w0, w0 = w.alloc (.cells #[.slice A0 l0.length c0, .slice A1 l1.length c1, .slice A2 l2.length c2] 26) := ⟨_, rfl⟩
  have hb : Below w.heap.size w w0 := by rw [hw0]; exact below_alloc (Below.refl _ _) _
  have HK0 : Aside0 (w0.heap[P]? = some (.cells #[.slice A0 l0.length c0, .slice A1 l1.length c1, .slice A2 l2.length c2] 26 (0, 0))) := ⟨by rw [hw0, hP]; exact blk_new w _⟩
  have HX0 := Aside0.mk (h0.below hb)
  have HY0 := Aside0.mk (h1.below hb)
  have HZ0 := Aside0.mk (h2.below hb)
  have HB0 := Aside0.mk hb
  clear h0 h1 h2 hb
  have hu26 := Tryz.underlying26
  have q0 : w0.cell? ⟨P, 0, none⟩ = some (.slice A0 l0.length c0) := (blk_cell HK0.out 0).trans rfl
  have q1 : w0.cell? ⟨P, 1, none⟩ = some (.slice A1 l1.length c1) := (blk_cell HK0.out 1).trans rfl
  have q2 : w0.cell? ⟨P, 2, none⟩ = some (.slice A2 l2.length c2) := (blk_cell HK0.out 2).trans rfl
  rw [hw0] at q0 q1 q2
  rw [hP] at q0 q1 q2
  refine (callsIn_wide (n := 40)).1 ?_
  refine callsIn_of_wp Tryz.func53 rfl trivial ?_ rfl
  simp only [Tryz.ntmps53, List.size_toArray, List.length_cons, List.length_nil, Nat.reduceAdd, Nat.reduceSub, Array.replicate_succ, Array.replicate_zero, List.push_toArray, List.append_toArray, List.nil_append, List.cons_append]
  have HC := Aside0.mk (thin_c HX0.out HY0.out HZ0.out HT.out)
  gi_wp2_with fail
  rw [← hw0, ← hP]
  clear hP hw0 q0 q1 q2
  refine (callsIn_wide.2 HC.out).mono ?_
  rintro e w1 ⟨rfl, hb⟩
  have HB1 := Aside0.mk (HB0.out.trans (hb.mono HB0.out.size))
  have HK1 := Aside0.mk (blk_below HK0.out hb)
  have HX1 := Aside0.mk (HX0.out.below hb)
  have HY1 := Aside0.mk (HY0.out.below hb)
  have HZ1 := Aside0.mk (HZ0.out.below hb)
  clear hb HC HB0 HK0 HX0 HY0 HZ0 HT
  cases tb with
  | false =>
    have e3 : rb = false := HER.out.2
    subst e3
    gi_wp2
    go_ret
    exact ⟨rfl, HB1.out⟩
  | true =>
    have hc := fault_d HX1.out HY1.out HZ1.out
    rw [← HER.out.1] at hc
    have HC := Aside0.mk hc
    clear hc
    have q0 : w1.cell? ⟨P, 0, none⟩ = some (.slice A0 l0.length c0) := (blk_cell HK1.out 0).trans rfl
    have q1 : w1.cell? ⟨P, 1, none⟩ = some (.slice A1 l1.length c1) := (blk_cell HK1.out 1).trans rfl
    have q2 : w1.cell? ⟨P, 2, none⟩ = some (.slice A2 l2.length c2) := (blk_cell HK1.out 2).trans rfl
    gi_wp2_with fail
    refine (callsIn_wide.2 HC.out).mono ?_
    rintro e w2 ⟨rfl, hb⟩
    have HB2 := Aside0.mk (HB1.out.trans (hb.mono HB1.out.size))
    have HK2 := Aside0.mk (blk_below HK1.out hb)
    clear hb HC q0 q1 q2
    have e3 : rb = (er == 0) := by rw [HER.out.2, ← HER.out.1, Bool.true_and]
    subst e3
    gi_wp2
    go_ret
    exact ⟨rfl, HB2.out⟩
/-- Whether a post is ready: told ahead, for whatever world it lies in. -/
theorem ready_b (l0 : List Int) (l1 : List S119) (l2 : List (List Int)) : ∃ b : Bool, Aside0 ((∀ ⦃A0 A1 A2 : Option Addr⦄ ⦃c0 c1 c2 : Nat⦄ ⦃w : World⦄, SL (Kd.int .i64) A0 c0 w l0 → SL k119 A1 c1 w l1 → SL KR A2 c2 w l2 →
    Calls Tryz.prog 53 #[.agg #[.slice A0 l0.length c0, .slice A1 l1.length c1, .slice A2 l2.length c2]] w fun e w' => e = .returned (.bool b) ∧ Below w.heap.size w w') ∧ (b = true → ThinP l0 l1 l2 ∧ postErr l0 (l1.map toP) l2 = 0)) := by
  obtain ⟨tb, h1, h2⟩ := thin_ev l0 l1 l2
  refine ⟨tb && postErr l0 (l1.map toP) l2 == 0, ⟨fun _ _ _ _ _ _ _ h0 h1' h2' => ready_d h0 h1' h2' h1, fun h => ?_⟩⟩
  rw [Bool.and_eq_true] at h
  exact ⟨h2 h.1, beq_iff_eq.1 h.2⟩
end Go.Proofs.YtekdacalkllipaaGreat.PR
end
section
/- RotaSafe, walked: true, whatever the input. -/
namespace Go.Proofs.YtekdacalkllipaaGreat.PR
open Go.RowKit Go.Shelf Go.Proofs.YtekdacalkllipaaGreatW.PrintWords Go.Proofs.YtekdacalkllipaaGreatW.PrintLast Go.Proofs.YtekdacalkllipaaGreatW.PrintMore
set_option linter.unusedVariables false
set_option linter.unusedSimpArgs false
attribute [local go_sem] Oper.semAt_some
attribute [local simp] wide_fn

set_option maxRecDepth 100000 in
set_option maxHeartbeats 4000000 in
theorem rotaSafe_walk {A0 A1 A2 : Option Addr} {c0 c1 c2 : Nat} {w : World} {l0 : List Int} {l1 : List S119} {l2 : List (List Int)} (h0 : SL (Kd.int .i64) A0 c0 w l0) (h1 : SL k119 A1 c1 w l1) (h2 : SL KR A2 c2 w l2) :
    Calls Tryz.prog 13 #[.agg #[.slice A0 l0.length c0, .slice A1 l1.length c1, .slice A2 l2.length c2]] w fun e w' => e = .returned (.bool true) ∧ Below w.heap.size w w' := by
  obtain ⟨P, hP⟩ : ∃ P, P = w.heap.size := ⟨_, rfl⟩
  obtain ⟨w0, hw0⟩ : ∃ w0, w0 = w.alloc (.cells #[.slice A0 l0.length c0, .slice A1 l1.length c1, .slice A2 l2.length c2] 26) := ⟨_, rfl⟩
  have hb : Below w.heap.size w w0 := by rw [hw0]; exact below_alloc (Below.refl _ _) _
  have HK0 : Aside0 (w0.heap[P]? = some (.cells #[.slice A0 l0.length c0, .slice A1 l1.length c1, .slice A2 l2.length c2] 26 (0, 0))) := ⟨by rw [hw0, hP]; exact blk_new w _⟩
  have HX0 := Aside0.mk (h0.below hb)
  have HY0 := Aside0.mk (h1.below hb)
  have HZ0 := Aside0.mk (h2.below hb)
  have HB0 := Aside0.mk hb
  clear h0 h1 h2 hb
  obtain ⟨b, HT⟩ := ready_b l0 l1 l2
  refine (callsIn_wide (n := 40)).1 ?_
  refine callsIn_of_wp Tryz.func13 rfl trivial ?_ rfl
  simp only [Tryz.ntmps13, List.size_toArray, List.length_cons, List.length_nil, Nat.reduceAdd, Nat.reduceSub, Array.replicate_succ, Array.replicate_zero, List.push_toArray, List.append_toArray, List.nil_append, List.cons_append]
  have hu26 := Tryz.underlying26
  have qHK0 : w0.cell? ⟨P, 0, none⟩ = some (.slice A0 l0.length c0) := (blk_cell HK0.out 0).trans rfl
  have qHK1 : w0.cell? ⟨P, 1, none⟩ = some (.slice A1 l1.length c1) := (blk_cell HK0.out 1).trans rfl
  have qHK2 : w0.cell? ⟨P, 2, none⟩ = some (.slice A2 l2.length c2) := (blk_cell HK0.out 2).trans rfl
  have hc := Aside0.mk (HT.out.1 HX0.out HY0.out HZ0.out)
  rw [hw0] at qHK0 qHK1 qHK2
  rw [hP] at qHK0 qHK1 qHK2
  gi_wp2_with fail
  rw [← hw0, ← hP]
  have HP := Aside0.mk hP
  clear hP hw0 qHK0 qHK1 qHK2
  refine (callsIn_wide.2 hc.out).mono ?_
  rintro e w1 ⟨rfl, hb⟩
  clear hc
  have HB1 := Aside0.mk (HB0.out.trans (hb.mono HB0.out.size))
  have HK1 := Aside0.mk (blk_below HK0.out hb)
  have HX1 := Aside0.mk (HX0.out.below hb)
  have HY1 := Aside0.mk (HY0.out.below hb)
  have HZ1 := Aside0.mk (HZ0.out.below hb)
  clear hb HB0 HK0 HX0 HY0 HZ0
  cases b with
  | false =>
    have hc := Aside0.mk (lawake_any w1)
    gi_wp2_with fail
    refine (callsIn_wide.2 hc.out).mono ?_
    rintro e w2 ⟨rfl, hb⟩
    clear hc
    have HB2 := Aside0.mk (HB1.out.trans (hb.mono HB1.out.size))
    have HK2 := Aside0.mk (blk_below HK1.out hb)
    have HX2 := Aside0.mk (HX1.out.below hb)
    have HY2 := Aside0.mk (HY1.out.below hb)
    have HZ2 := Aside0.mk (HZ1.out.below hb)
    clear hb HB1 HK1 HX1 HY1 HZ1
    gi_wp2
    go_ret
    exact ⟨rfl, HB2.out⟩
  | true =>
    obtain ⟨⟨t0, t1, t2, t3, t4⟩, hpe⟩ := HT.out.2 rfl
    obtain ⟨ps, hps⟩ : ∃ ps, ps = l1.map toP := ⟨_, rfl⟩
    have hpl : ps.length = l1.length := by rw [hps]; simp
    have hpo := (post_ev l0 l1 l2 (by omega) (by omega) (fun x hx => by have := t3 x hx; omega) (by omega) (fun x hx => by have := t4 x hx; omega))
    rw [← hps] at hpo hpe
    have HPO := Aside0.mk hpo
    obtain ⟨bl, hbl⟩ : ∃ bl, bl = (bestS l0 ps l2).1 := ⟨_, rfl⟩
    obtain ⟨bd, hbd⟩ : ∃ bd, bd = (bestS l0 ps l2).2.1 := ⟨_, rfl⟩
    obtain ⟨be, hbe⟩ : ∃ be, be = (bestS l0 ps l2).2.2 := ⟨_, rfl⟩
    obtain ⟨el, hel⟩ : ∃ el, el = (enoughS l0 ps l2).1 := ⟨_, rfl⟩
    obtain ⟨ee, hee⟩ : ∃ ee, ee = (enoughS l0 ps l2).2 := ⟨_, rfl⟩
    obtain ⟨bn, hbn⟩ : ∃ bn, bn = bl.length := ⟨_, rfl⟩
    obtain ⟨en, hen⟩ : ∃ en, en = el.length := ⟨_, rfl⟩
    have HPS := Aside0.mk (And.intro hps (And.intro hpl hpe))
    have HBB := Aside0.mk (And.intro hbl (And.intro hbd (And.intro hbe hbn)))
    have HEE := Aside0.mk (And.intro hel (And.intro hee hen))
    have HTH := Aside0.mk (And.intro t0 (And.intro t1 (And.intro t2 t4)))
    clear hpo hps hpl hpe hbl hbd hbe hel hee hbn hen t0 t1 t2 t3 t4 HT
    have qHK0 : w1.cell? ⟨P, 0, none⟩ = some (.slice A0 l0.length c0) := (blk_cell HK1.out 0).trans rfl
    have qHK1 : w1.cell? ⟨P, 1, none⟩ = some (.slice A1 l1.length c1) := (blk_cell HK1.out 1).trans rfl
    have qHK2 : w1.cell? ⟨P, 2, none⟩ = some (.slice A2 l2.length c2) := (blk_cell HK1.out 2).trans rfl
    have hc := Aside0.mk (post_c HX1.out HY1.out HZ1.out HPO.out)
    gi_wp2_with fail
    refine (callsIn_wide.2 hc.out).mono ?_
    rintro e w2 ⟨B0, d0, B1, d1, B2, d2, rfl, g0, g1, g2, hb⟩
    clear hc qHK0 qHK1 qHK2
    have HB2 := Aside0.mk (HB1.out.trans (hb.mono HB1.out.size))
    have HK2 := Aside0.mk (blk_below HK1.out hb)
    have HX2 := Aside0.mk (HX1.out.below hb)
    have HY2 := Aside0.mk (HY1.out.below hb)
    have HZ2 := Aside0.mk (HZ1.out.below hb)
    clear hb HB1 HK1 HX1 HY1 HZ1
    have HU2 := Aside0.mk g0
    clear g0
    have HV2 := Aside0.mk g1
    clear g1
    have HW2 := Aside0.mk g2
    clear g2
    have hcb := best_c HU2.out HV2.out HW2.out
    rw [← HBB.out.1, ← HBB.out.2.1, ← HBB.out.2.2.1, ← HBB.out.2.2.2] at hcb
    have HCB := Aside0.mk hcb
    clear hcb
    have hc := Aside0.mk (HCB.out)
    gi_wp2_with fail
    refine (callsIn_wide.2 hc.out).mono ?_
    rintro e w3 ⟨AB, cB, rfl, gb, hb⟩
    clear hc
    have HB3 := Aside0.mk (HB2.out.trans (hb.mono HB2.out.size))
    have HK3 := Aside0.mk (blk_below HK2.out hb)
    have HX3 := Aside0.mk (HX2.out.below hb)
    have HY3 := Aside0.mk (HY2.out.below hb)
    have HZ3 := Aside0.mk (HZ2.out.below hb)
    have HU3 := Aside0.mk (HU2.out.below hb)
    have HV3 := Aside0.mk (HV2.out.below hb)
    have HW3 := Aside0.mk (HW2.out.below hb)
    clear hb HB2 HK2 HX2 HY2 HZ2 HU2 HV2 HW2
    have HBL3 := Aside0.mk gb
    clear gb
    clear HCB
    clear HU3 HV3 HW3
    have qHK0 : w3.cell? ⟨P, 0, none⟩ = some (.slice A0 l0.length c0) := (blk_cell HK3.out 0).trans rfl
    have qHK1 : w3.cell? ⟨P, 1, none⟩ = some (.slice A1 l1.length c1) := (blk_cell HK3.out 1).trans rfl
    have qHK2 : w3.cell? ⟨P, 2, none⟩ = some (.slice A2 l2.length c2) := (blk_cell HK3.out 2).trans rfl
    have hc := Aside0.mk (post_c HX3.out HY3.out HZ3.out HPO.out)
    gi_wp2_with fail
    refine (callsIn_wide.2 hc.out).mono ?_
    rintro e w4 ⟨B0, d0, B1, d1, B2, d2, rfl, g0, g1, g2, hb⟩
    clear hc qHK0 qHK1 qHK2
    have HB4 := Aside0.mk (HB3.out.trans (hb.mono HB3.out.size))
    have HK4 := Aside0.mk (blk_below HK3.out hb)
    have HX4 := Aside0.mk (HX3.out.below hb)
    have HY4 := Aside0.mk (HY3.out.below hb)
    have HZ4 := Aside0.mk (HZ3.out.below hb)
    have HBL4 := Aside0.mk (HBL3.out.below hb)
    clear hb HB3 HK3 HX3 HY3 HZ3 HBL3
    have HU4 := Aside0.mk g0
    clear g0
    have HV4 := Aside0.mk g1
    clear g1
    have HW4 := Aside0.mk g2
    clear g2
    have hcb := enough_c HU4.out HV4.out HW4.out
    rw [← HEE.out.1, ← HEE.out.2.1, ← HEE.out.2.2] at hcb
    have HCB := Aside0.mk hcb
    clear hcb
    have hc := Aside0.mk (HCB.out)
    gi_wp2_with fail
    refine (callsIn_wide.2 hc.out).mono ?_
    rintro e w5 ⟨AE, cE, rfl, ge, hb⟩
    clear hc
    have HB5 := Aside0.mk (HB4.out.trans (hb.mono HB4.out.size))
    have HK5 := Aside0.mk (blk_below HK4.out hb)
    have HX5 := Aside0.mk (HX4.out.below hb)
    have HY5 := Aside0.mk (HY4.out.below hb)
    have HZ5 := Aside0.mk (HZ4.out.below hb)
    have HBL5 := Aside0.mk (HBL4.out.below hb)
    have HU5 := Aside0.mk (HU4.out.below hb)
    have HV5 := Aside0.mk (HV4.out.below hb)
    have HW5 := Aside0.mk (HW4.out.below hb)
    clear hb HB4 HK4 HX4 HY4 HZ4 HBL4 HU4 HV4 HW4
    have HEL5 := Aside0.mk ge
    clear ge
    clear HCB
    clear HU5 HV5 HW5
    rcases best_spec HPS.out.2.2 with ⟨hB, hno⟩ | ⟨r, hB, hsafe, _⟩
    · have e1 : be = 10 := by rw [HBB.out.2.2.1, hB]
      have hE : enoughS l0 ps l2 = ([], 10) := by
        rcases enough_spec HPS.out.2.2 with ⟨h, _⟩ | ⟨l, _, h2, ⟨r, h3⟩, _⟩
        · exact h
        · exact absurd (safe_sub HPS.out.2.2 h2 h3) (hno r)
      have e2 : ee = 10 := by rw [HEE.out.2.1, hE]
      have e3 : el = [] := by rw [HEE.out.1, hE]
      obtain rfl : en = 0 := by rw [HEE.out.2.2, e3]; rfl
      subst e1
      subst e2
      clear hB hno hE e3
      have hc := Aside0.mk (lawake_any w5)
      gi_wp2_with fail
      refine (callsIn_wide.2 hc.out).mono ?_
      rintro e w6 ⟨rfl, hb⟩
      clear hc
      have HB6 := Aside0.mk (HB5.out.trans (hb.mono HB5.out.size))
      have HK6 := Aside0.mk (blk_below HK5.out hb)
      have HX6 := Aside0.mk (HX5.out.below hb)
      have HY6 := Aside0.mk (HY5.out.below hb)
      have HZ6 := Aside0.mk (HZ5.out.below hb)
      have HBL6 := Aside0.mk (HBL5.out.below hb)
      have HEL6 := Aside0.mk (HEL5.out.below hb)
      clear hb HB5 HK5 HX5 HY5 HZ5 HBL5 HEL5
      gi_wp2
      go_ret
      exact ⟨rfl, HB6.out⟩
    · have e1 : be = 0 := by rw [HBB.out.2.2.1, hB]
      have e2 : bl = r := by rw [HBB.out.1, hB]
      have e3 : bd = dutiesS bl := by rw [HBB.out.2.1, hB, e2]
      subst e2
      subst e1
      have hE : ee = 0 ∧ incB el ps.length = true := by
        rcases enough_spec HPS.out.2.2 with ⟨_, h⟩ | ⟨l, h1, h2, _, _⟩
        · exact absurd ((safe_of HPS.out.2.2 bl).1 hsafe) (h _ (evs_incB _) bl)
        · exact ⟨by rw [HEE.out.2.1, h1], by rw [HEE.out.1, h1]; exact h2⟩
      obtain ⟨e4, hinc⟩ := hE
      subst e4
      obtain ⟨_, hrl, hri⟩ := rotaErr_ok hsafe.1
      have hp4 := (post_small HPS.out.2.2).2.1
      have hps4 := HPS.out.2.1
      have hel4 := incB_len hinc
      have hbx : ∀ l ∈ bl, l.length < 1000 := fun l hl => by have := incB_len (hri l hl); omega
      have ht0 := HTH.out.1
      have ht1 := HTH.out.2.1
      have ht2 := HTH.out.2.2.1
      have hrise := rising_ev el l1.length (by omega) (by omega)
      have hisr := isrota_ev l0 l1 l2 bl (by omega) hbx (by omega)
      have hrs1 : rotaErr l0 (l1.map toP) l2 bl = 0 := by rw [← HPS.out.1]; exact hsafe.1
      have hsf := refsafe_ev l0 l1 l2 bl hrs1 (by omega) hbx (by omega) (by omega)
      have hdu := refduties_ev bl (by omega) hbx
      have hro := rows_ev bl (by omega) hbx
      rw [← HPS.out.1, hsafe.2.1, hsafe.2.2] at hsf
      rw [hps4] at hinc
      rw [hinc] at hrise
      have e5 : ((bl.all fun l => incB l l1.length) && decide (bl.length = l0.length)) = true := by
        rw [Bool.and_eq_true, List.all_eq_true]
        exact ⟨fun l hl => by rw [← hps4]; exact hri l hl, decide_eq_true hrl⟩
      rw [e5] at hisr
      rw [← e3] at hdu
      have HEV := Aside0.mk (And.intro hrise (And.intro hisr (And.intro hsf (And.intro hdu hro))))
      have HSF := Aside0.mk (And.intro hsafe e3)
      clear hB hinc hrl hri hp4 hps4 hel4 hbx ht0 ht1 ht2 hrise hisr hrs1 hsf hdu hro e5 hsafe e3
      have qHK0 : w5.cell? ⟨P, 0, none⟩ = some (.slice A0 l0.length c0) := (blk_cell HK5.out 0).trans rfl
      have qHK1 : w5.cell? ⟨P, 1, none⟩ = some (.slice A1 l1.length c1) := (blk_cell HK5.out 1).trans rfl
      have qHK2 : w5.cell? ⟨P, 2, none⟩ = some (.slice A2 l2.length c2) := (blk_cell HK5.out 2).trans rfl
      have hcb := rising_c l1.length HEL5.out HEV.out.1
      rw [← HEE.out.2.2] at hcb
      have HCB := Aside0.mk hcb
      clear hcb
      have hc := Aside0.mk (HCB.out)
      gi_wp2_with fail
      refine (callsIn_wide.2 hc.out).mono ?_
      rintro e w6 ⟨rfl, hb⟩
      clear hc qHK0 qHK1 qHK2
      have HB6 := Aside0.mk (HB5.out.trans (hb.mono HB5.out.size))
      have HK6 := Aside0.mk (blk_below HK5.out hb)
      have HX6 := Aside0.mk (HX5.out.below hb)
      have HY6 := Aside0.mk (HY5.out.below hb)
      have HZ6 := Aside0.mk (HZ5.out.below hb)
      have HBL6 := Aside0.mk (HBL5.out.below hb)
      have HEL6 := Aside0.mk (HEL5.out.below hb)
      clear hb HB5 HK5 HX5 HY5 HZ5 HBL5 HEL5
      clear HCB
      have qHK0 : w6.cell? ⟨P, 0, none⟩ = some (.slice A0 l0.length c0) := (blk_cell HK6.out 0).trans rfl
      have qHK1 : w6.cell? ⟨P, 1, none⟩ = some (.slice A1 l1.length c1) := (blk_cell HK6.out 1).trans rfl
      have qHK2 : w6.cell? ⟨P, 2, none⟩ = some (.slice A2 l2.length c2) := (blk_cell HK6.out 2).trans rfl
      have hcb := isrota_c HX6.out HY6.out HZ6.out HBL6.out HEV.out.2.1
      rw [← HBB.out.2.2.2] at hcb
      have HCB := Aside0.mk hcb
      clear hcb
      have hc := Aside0.mk (HCB.out)
      gi_wp2_with fail
      refine (callsIn_wide.2 hc.out).mono ?_
      rintro e w7 ⟨rfl, hb⟩
      clear hc qHK0 qHK1 qHK2
      have HB7 := Aside0.mk (HB6.out.trans (hb.mono HB6.out.size))
      have HK7 := Aside0.mk (blk_below HK6.out hb)
      have HX7 := Aside0.mk (HX6.out.below hb)
      have HY7 := Aside0.mk (HY6.out.below hb)
      have HZ7 := Aside0.mk (HZ6.out.below hb)
      have HBL7 := Aside0.mk (HBL6.out.below hb)
      have HEL7 := Aside0.mk (HEL6.out.below hb)
      clear hb HB6 HK6 HX6 HY6 HZ6 HBL6 HEL6
      clear HCB
      have qHK0 : w7.cell? ⟨P, 0, none⟩ = some (.slice A0 l0.length c0) := (blk_cell HK7.out 0).trans rfl
      have qHK1 : w7.cell? ⟨P, 1, none⟩ = some (.slice A1 l1.length c1) := (blk_cell HK7.out 1).trans rfl
      have qHK2 : w7.cell? ⟨P, 2, none⟩ = some (.slice A2 l2.length c2) := (blk_cell HK7.out 2).trans rfl
      have hcb := refsafe_c HX7.out HY7.out HZ7.out HBL7.out HEV.out.2.2.1
      rw [← HBB.out.2.2.2] at hcb
      have HCB := Aside0.mk hcb
      clear hcb
      have hc := Aside0.mk (HCB.out)
      gi_wp2_with fail
      refine (callsIn_wide.2 hc.out).mono ?_
      rintro e w8 ⟨rfl, hb⟩
      clear hc qHK0 qHK1 qHK2
      have HB8 := Aside0.mk (HB7.out.trans (hb.mono HB7.out.size))
      have HK8 := Aside0.mk (blk_below HK7.out hb)
      have HX8 := Aside0.mk (HX7.out.below hb)
      have HY8 := Aside0.mk (HY7.out.below hb)
      have HZ8 := Aside0.mk (HZ7.out.below hb)
      have HBL8 := Aside0.mk (HBL7.out.below hb)
      have HEL8 := Aside0.mk (HEL7.out.below hb)
      clear hb HB7 HK7 HX7 HY7 HZ7 HBL7 HEL7
      clear HCB
      have hcb := refduties_c HBL8.out HEV.out.2.2.2.1
      rw [← HBB.out.2.2.2] at hcb
      have HCB := Aside0.mk hcb
      clear hcb
      have hc := Aside0.mk (HCB.out)
      gi_wp2_with fail
      refine (callsIn_wide.2 hc.out).mono ?_
      rintro e w9 ⟨rfl, hb⟩
      clear hc
      have HB9 := Aside0.mk (HB8.out.trans (hb.mono HB8.out.size))
      have HK9 := Aside0.mk (blk_below HK8.out hb)
      have HX9 := Aside0.mk (HX8.out.below hb)
      have HY9 := Aside0.mk (HY8.out.below hb)
      have HZ9 := Aside0.mk (HZ8.out.below hb)
      have HBL9 := Aside0.mk (HBL8.out.below hb)
      have HEL9 := Aside0.mk (HEL8.out.below hb)
      clear hb HB8 HK8 HX8 HY8 HZ8 HBL8 HEL8
      clear HCB
      have qHK0 : w9.cell? ⟨P, 0, none⟩ = some (.slice A0 l0.length c0) := (blk_cell HK9.out 0).trans rfl
      have qHK1 : w9.cell? ⟨P, 1, none⟩ = some (.slice A1 l1.length c1) := (blk_cell HK9.out 1).trans rfl
      have qHK2 : w9.cell? ⟨P, 2, none⟩ = some (.slice A2 l2.length c2) := (blk_cell HK9.out 2).trans rfl
      have hc := Aside0.mk (post_c HX9.out HY9.out HZ9.out HPO.out)
      gi_wp2_with fail
      refine (callsIn_wide.2 hc.out).mono ?_
      rintro e w10 ⟨B0, d0, B1, d1, B2, d2, rfl, g0, g1, g2, hb⟩
      clear hc qHK0 qHK1 qHK2
      have HB10 := Aside0.mk (HB9.out.trans (hb.mono HB9.out.size))
      have HK10 := Aside0.mk (blk_below HK9.out hb)
      have HX10 := Aside0.mk (HX9.out.below hb)
      have HY10 := Aside0.mk (HY9.out.below hb)
      have HZ10 := Aside0.mk (HZ9.out.below hb)
      have HBL10 := Aside0.mk (HBL9.out.below hb)
      have HEL10 := Aside0.mk (HEL9.out.below hb)
      clear hb HB9 HK9 HX9 HY9 HZ9 HBL9 HEL9
      have HU10 := Aside0.mk g0
      clear g0
      have HV10 := Aside0.mk g1
      clear g1
      have HW10 := Aside0.mk g2
      clear g2
      have hcb := rows_c HBL10.out HEV.out.2.2.2.2
      rw [← HBB.out.2.2.2] at hcb
      have HCB := Aside0.mk hcb
      clear hcb
      have hc := Aside0.mk (HCB.out)
      gi_wp2_with fail
      refine (callsIn_wide.2 hc.out).mono ?_
      rintro e w11 ⟨AQ, cQ, rfl, g3, hb⟩
      clear hc
      have HB11 := Aside0.mk (HB10.out.trans (hb.mono HB10.out.size))
      have HK11 := Aside0.mk (blk_below HK10.out hb)
      have HX11 := Aside0.mk (HX10.out.below hb)
      have HY11 := Aside0.mk (HY10.out.below hb)
      have HZ11 := Aside0.mk (HZ10.out.below hb)
      have HBL11 := Aside0.mk (HBL10.out.below hb)
      have HEL11 := Aside0.mk (HEL10.out.below hb)
      have HU11 := Aside0.mk (HU10.out.below hb)
      have HV11 := Aside0.mk (HV10.out.below hb)
      have HW11 := Aside0.mk (HW10.out.below hb)
      clear hb HB10 HK10 HX10 HY10 HZ10 HBL10 HEL10 HU10 HV10 HW10
      have HQ11 := Aside0.mk g3
      clear g3
      clear HCB
      obtain ⟨fl, hfl⟩ : ∃ fl, fl = failsL l0 l2 bl := ⟨_, rfl⟩
      obtain ⟨fn, hfn⟩ : ∃ fn, fn = fl.length := ⟨_, rfl⟩
      have HFL := Aside0.mk (And.intro hfl hfn)
      clear hfl hfn
      have hcb := fails_c HU11.out HV11.out HW11.out HQ11.out (by have := HTH.out.2.2.1; omega)
      rw [HSF.out.1.1, if_pos rfl, ← HFL.out.1, ← HFL.out.2, ← HBB.out.2.2.2] at hcb
      have HCB := Aside0.mk hcb
      clear hcb
      have hc := Aside0.mk (HCB.out)
      gi_wp2_with fail
      refine (callsIn_wide.2 hc.out).mono ?_
      rintro e w12 ⟨AX, cX, rfl, gx, hb⟩
      clear hc
      have HB12 := Aside0.mk (HB11.out.trans (hb.mono HB11.out.size))
      have HK12 := Aside0.mk (blk_below HK11.out hb)
      have HX12 := Aside0.mk (HX11.out.below hb)
      have HY12 := Aside0.mk (HY11.out.below hb)
      have HZ12 := Aside0.mk (HZ11.out.below hb)
      have HBL12 := Aside0.mk (HBL11.out.below hb)
      have HEL12 := Aside0.mk (HEL11.out.below hb)
      have HU12 := Aside0.mk (HU11.out.below hb)
      have HV12 := Aside0.mk (HV11.out.below hb)
      have HW12 := Aside0.mk (HW11.out.below hb)
      have HQ12 := Aside0.mk (HQ11.out.below hb)
      clear hb HB11 HK11 HX11 HY11 HZ11 HBL11 HEL11 HU11 HV11 HW11 HQ11
      have HF12 := Aside0.mk gx
      clear gx
      clear HCB
      clear HU12 HV12 HW12 HQ12
      have qHK0 : w12.cell? ⟨P, 0, none⟩ = some (.slice A0 l0.length c0) := (blk_cell HK12.out 0).trans rfl
      have qHK1 : w12.cell? ⟨P, 1, none⟩ = some (.slice A1 l1.length c1) := (blk_cell HK12.out 1).trans rfl
      have qHK2 : w12.cell? ⟨P, 2, none⟩ = some (.slice A2 l2.length c2) := (blk_cell HK12.out 2).trans rfl
      have hc := Aside0.mk (post_c HX12.out HY12.out HZ12.out HPO.out)
      gi_wp2_with fail
      refine (callsIn_wide.2 hc.out).mono ?_
      rintro e w13 ⟨B0, d0, B1, d1, B2, d2, rfl, g0, g1, g2, hb⟩
      clear hc qHK0 qHK1 qHK2
      have HB13 := Aside0.mk (HB12.out.trans (hb.mono HB12.out.size))
      have HK13 := Aside0.mk (blk_below HK12.out hb)
      have HX13 := Aside0.mk (HX12.out.below hb)
      have HY13 := Aside0.mk (HY12.out.below hb)
      have HZ13 := Aside0.mk (HZ12.out.below hb)
      have HBL13 := Aside0.mk (HBL12.out.below hb)
      have HEL13 := Aside0.mk (HEL12.out.below hb)
      have HF13 := Aside0.mk (HF12.out.below hb)
      clear hb HB12 HK12 HX12 HY12 HZ12 HBL12 HEL12 HF12
      have HU13 := Aside0.mk g0
      clear g0
      have HV13 := Aside0.mk g1
      clear g1
      have HW13 := Aside0.mk g2
      clear g2
      have hcb := rows_c HBL13.out HEV.out.2.2.2.2
      rw [← HBB.out.2.2.2] at hcb
      have HCB := Aside0.mk hcb
      clear hcb
      have hc := Aside0.mk (HCB.out)
      gi_wp2_with fail
      refine (callsIn_wide.2 hc.out).mono ?_
      rintro e w14 ⟨AQ, cQ, rfl, g3, hb⟩
      clear hc
      have HB14 := Aside0.mk (HB13.out.trans (hb.mono HB13.out.size))
      have HK14 := Aside0.mk (blk_below HK13.out hb)
      have HX14 := Aside0.mk (HX13.out.below hb)
      have HY14 := Aside0.mk (HY13.out.below hb)
      have HZ14 := Aside0.mk (HZ13.out.below hb)
      have HBL14 := Aside0.mk (HBL13.out.below hb)
      have HEL14 := Aside0.mk (HEL13.out.below hb)
      have HF14 := Aside0.mk (HF13.out.below hb)
      have HU14 := Aside0.mk (HU13.out.below hb)
      have HV14 := Aside0.mk (HV13.out.below hb)
      have HW14 := Aside0.mk (HW13.out.below hb)
      clear hb HB13 HK13 HX13 HY13 HZ13 HBL13 HEL13 HF13 HU13 HV13 HW13
      have HQ14 := Aside0.mk g3
      clear g3
      clear HCB
      have hcb := rules_c HU14.out HV14.out HW14.out HQ14.out
      rw [HSF.out.1.1, HSF.out.1.2.1, ← HBB.out.2.2.2] at hcb
      have HCB := Aside0.mk hcb
      clear hcb
      have hc := Aside0.mk (HCB.out)
      gi_wp2_with fail
      refine (callsIn_wide.2 hc.out).mono ?_
      rintro e w15 ⟨rfl, hb⟩
      clear hc
      have HB15 := Aside0.mk (HB14.out.trans (hb.mono HB14.out.size))
      have HK15 := Aside0.mk (blk_below HK14.out hb)
      have HX15 := Aside0.mk (HX14.out.below hb)
      have HY15 := Aside0.mk (HY14.out.below hb)
      have HZ15 := Aside0.mk (HZ14.out.below hb)
      have HBL15 := Aside0.mk (HBL14.out.below hb)
      have HEL15 := Aside0.mk (HEL14.out.below hb)
      have HF15 := Aside0.mk (HF14.out.below hb)
      have HU15 := Aside0.mk (HU14.out.below hb)
      have HV15 := Aside0.mk (HV14.out.below hb)
      have HW15 := Aside0.mk (HW14.out.below hb)
      have HQ15 := Aside0.mk (HQ14.out.below hb)
      clear hb HB14 HK14 HX14 HY14 HZ14 HBL14 HEL14 HF14 HU14 HV14 HW14 HQ14
      clear HCB
      clear HU15 HV15 HW15 HQ15
      have qHK0 : w15.cell? ⟨P, 0, none⟩ = some (.slice A0 l0.length c0) := (blk_cell HK15.out 0).trans rfl
      have qHK1 : w15.cell? ⟨P, 1, none⟩ = some (.slice A1 l1.length c1) := (blk_cell HK15.out 1).trans rfl
      have qHK2 : w15.cell? ⟨P, 2, none⟩ = some (.slice A2 l2.length c2) := (blk_cell HK15.out 2).trans rfl
      have hlen : fn = l2.length + 1 := by rw [HFL.out.2, HFL.out.1]; simp [failsL]
      have hbn : ((fn : Int) != (l2.length : Int) + 1) = false := by rw [bne_eq_false_iff_eq]; omega
      have hw1 : IntKind.i64.wrap ((l2.length : Int) + 1) = (l2.length : Int) + 1 := by rw [IntKind.wrap_i64]; have := HTH.out.2.2.1; omega
      obtain ⟨ad, hA, _⟩ := HF15.out.2.2.2 (by rw [← HFL.out.2]; omega)
      subst hA
      have HLEN := Aside0.mk hlen
      clear hlen
      gi_wp2
      gi_loopw [12] (fun s12 wr => ∃ c : Nat, c ≤ fn ∧ s12 = .int .i64 c ∧ Aside0 (Below w.heap.size w wr) ∧ Aside0 (wr.heap[P]? = some (.cells #[.slice A0 l0.length c0, .slice A1 l1.length c1, .slice A2 l2.length c2] 26 (0, 0))) ∧ Aside0 (SL (Kd.int .i64) A0 c0 wr l0) ∧ Aside0 (SL k119 A1 c1 wr l1) ∧ Aside0 (SL KR A2 c2 wr l2) ∧ Aside0 (SL KR AB cB wr bl) ∧ Aside0 (SL (Kd.int .i64) (some ad) cX wr fl))
        (fun s12 _ => fn - (intOf s12).toNat)
      case atStart => exact ⟨0, Nat.zero_le _, rfl, HB15, HK15, HX15, HY15, HZ15, HBL15, HF15⟩
      case round =>
        obtain ⟨c, hc, rfl, HBr, HKr, HXr, HYr, HZr, HBLr, HFr⟩ := hrel
        by_cases hlt : c < fn
        · have hltz : (c : Int) < (fn : Int) := by omega
          obtain ⟨ad', ea, hx⟩ := Kd.at_int HFr.out.2 (c : Int) (by omega) (by have := HFL.out.2; omega)
          cases ea
          have hv : rd fl (c : Int) = -1 := by
            rw [HFL.out.1, rd_get, failsL, List.getD_eq_getElem?_getD, List.getElem?_map, List.getElem?_range (by have := HLEN.out; omega)]
            exact (holds_fails l0 l2 bl 0 (Int.le_refl _)).1 HSF.out.1.2.2 c (by have := HLEN.out; omega)
          rw [hv] at hx
          simp only [Int.toNat_natCast] at hx
          have hw2 : IntKind.i64.wrap ((c : Int) + 1) = (c : Int) + 1 := by rw [IntKind.wrap_i64]; have := HLEN.out; have := HTH.out.2.2.1; omega
          have hw3 : wrap64 ((c : Int) + 1) = (c : Int) + 1 := by unfold wrap64; have := HLEN.out; have := HTH.out.2.2.1; omega
          clear hv
          gi_wp2
          go_roundw
          case measure => simp [intOf]; omega
          case rel => exact ⟨c + 1, by omega, by go_num, HBr, HKr, HXr, HYr, HZr, HBLr, HFr⟩
        · have hltz : ¬ (c : Int) < (fn : Int) := by omega
          obtain rfl : c = fn := by omega
          have HB90 := HBr
          have HK90 := HKr
          have HX90 := HXr
          have HY90 := HYr
          have HZ90 := HZr
          have HBL90 := HBLr
          obtain ⟨w90, hw90⟩ : ∃ w90, w90 = wr := ⟨_, rfl⟩
          rw [← hw90] at HB90 HK90 HX90 HY90 HZ90 HBL90 ⊢
          clear HBr HKr HXr HYr HZr HBLr HFr hw90
          have hpv1 : proveS l0 ps l2 bl bd = true := by unfold proveS; rw [HSF.out.1.1, HSF.out.1.2.1, HSF.out.1.2.2, HSF.out.2]; simp
          have hpv2 : proveS l0 ps l2 bl (bd - 1) = false := by unfold proveS; rw [HSF.out.1.1, HSF.out.1.2.1, HSF.out.1.2.2, HSF.out.2, decide_eq_false (show ¬ dutiesS bl ≤ dutiesS bl - 1 by omega)]; simp
          have hbd := duties_small HPS.out.2.2 HSF.out.1
          rw [← HSF.out.2] at hbd
          have hwd : IntKind.i64.wrap (bd - 1) = bd - 1 := by rw [IntKind.wrap_i64]; omega
          have hwe : wrap64 (bd - 1) = bd - 1 := by unfold wrap64; omega
          have HPV := Aside0.mk (And.intro hpv1 hpv2)
          clear hpv1 hpv2 hbd
          have qHK0 : w90.cell? ⟨P, 0, none⟩ = some (.slice A0 l0.length c0) := (blk_cell HK90.out 0).trans rfl
          have qHK1 : w90.cell? ⟨P, 1, none⟩ = some (.slice A1 l1.length c1) := (blk_cell HK90.out 1).trans rfl
          have qHK2 : w90.cell? ⟨P, 2, none⟩ = some (.slice A2 l2.length c2) := (blk_cell HK90.out 2).trans rfl
          have hc := Aside0.mk (post_c HX90.out HY90.out HZ90.out HPO.out)
          gi_wp2_with fail
          refine (callsIn_wide.2 hc.out).mono ?_
          rintro e w91 ⟨B0, d0, B1, d1, B2, d2, rfl, g0, g1, g2, hb⟩
          clear hc qHK0 qHK1 qHK2
          have HB91 := Aside0.mk (HB90.out.trans (hb.mono HB90.out.size))
          have HK91 := Aside0.mk (blk_below HK90.out hb)
          have HX91 := Aside0.mk (HX90.out.below hb)
          have HY91 := Aside0.mk (HY90.out.below hb)
          have HZ91 := Aside0.mk (HZ90.out.below hb)
          have HBL91 := Aside0.mk (HBL90.out.below hb)
          clear hb HB90 HK90 HX90 HY90 HZ90 HBL90
          have HU91 := Aside0.mk g0
          clear g0
          have HV91 := Aside0.mk g1
          clear g1
          have HW91 := Aside0.mk g2
          clear g2
          have hcb := rows_c HBL91.out HEV.out.2.2.2.2
          rw [← HBB.out.2.2.2] at hcb
          have HCB := Aside0.mk hcb
          clear hcb
          have hc := Aside0.mk (HCB.out)
          gi_wp2_with fail
          refine (callsIn_wide.2 hc.out).mono ?_
          rintro e w92 ⟨AQ, cQ, rfl, g3, hb⟩
          clear hc
          have HB92 := Aside0.mk (HB91.out.trans (hb.mono HB91.out.size))
          have HK92 := Aside0.mk (blk_below HK91.out hb)
          have HX92 := Aside0.mk (HX91.out.below hb)
          have HY92 := Aside0.mk (HY91.out.below hb)
          have HZ92 := Aside0.mk (HZ91.out.below hb)
          have HBL92 := Aside0.mk (HBL91.out.below hb)
          have HU92 := Aside0.mk (HU91.out.below hb)
          have HV92 := Aside0.mk (HV91.out.below hb)
          have HW92 := Aside0.mk (HW91.out.below hb)
          clear hb HB91 HK91 HX91 HY91 HZ91 HBL91 HU91 HV91 HW91
          have HQ92 := Aside0.mk g3
          clear g3
          clear HCB
          have hcb := prove_c bd HU92.out HV92.out HW92.out HQ92.out
          rw [HPV.out.1, ← HBB.out.2.2.2] at hcb
          have HCB := Aside0.mk hcb
          clear hcb
          have hc := Aside0.mk (HCB.out)
          gi_wp2_with fail
          refine (callsIn_wide.2 hc.out).mono ?_
          rintro e w93 ⟨rfl, hb⟩
          clear hc
          have HB93 := Aside0.mk (HB92.out.trans (hb.mono HB92.out.size))
          have HK93 := Aside0.mk (blk_below HK92.out hb)
          have HX93 := Aside0.mk (HX92.out.below hb)
          have HY93 := Aside0.mk (HY92.out.below hb)
          have HZ93 := Aside0.mk (HZ92.out.below hb)
          have HBL93 := Aside0.mk (HBL92.out.below hb)
          have HU93 := Aside0.mk (HU92.out.below hb)
          have HV93 := Aside0.mk (HV92.out.below hb)
          have HW93 := Aside0.mk (HW92.out.below hb)
          have HQ93 := Aside0.mk (HQ92.out.below hb)
          clear hb HB92 HK92 HX92 HY92 HZ92 HBL92 HU92 HV92 HW92 HQ92
          clear HCB
          clear HU93 HV93 HW93 HQ93
          have qHK0 : w93.cell? ⟨P, 0, none⟩ = some (.slice A0 l0.length c0) := (blk_cell HK93.out 0).trans rfl
          have qHK1 : w93.cell? ⟨P, 1, none⟩ = some (.slice A1 l1.length c1) := (blk_cell HK93.out 1).trans rfl
          have qHK2 : w93.cell? ⟨P, 2, none⟩ = some (.slice A2 l2.length c2) := (blk_cell HK93.out 2).trans rfl
          have hc := Aside0.mk (post_c HX93.out HY93.out HZ93.out HPO.out)
          gi_wp2_with fail
          refine (callsIn_wide.2 hc.out).mono ?_
          rintro e w94 ⟨B0, d0, B1, d1, B2, d2, rfl, g0, g1, g2, hb⟩
          clear hc qHK0 qHK1 qHK2
          have HB94 := Aside0.mk (HB93.out.trans (hb.mono HB93.out.size))
          have HK94 := Aside0.mk (blk_below HK93.out hb)
          have HX94 := Aside0.mk (HX93.out.below hb)
          have HY94 := Aside0.mk (HY93.out.below hb)
          have HZ94 := Aside0.mk (HZ93.out.below hb)
          have HBL94 := Aside0.mk (HBL93.out.below hb)
          clear hb HB93 HK93 HX93 HY93 HZ93 HBL93
          have HU94 := Aside0.mk g0
          clear g0
          have HV94 := Aside0.mk g1
          clear g1
          have HW94 := Aside0.mk g2
          clear g2
          have hcb := rows_c HBL94.out HEV.out.2.2.2.2
          rw [← HBB.out.2.2.2] at hcb
          have HCB := Aside0.mk hcb
          clear hcb
          have hc := Aside0.mk (HCB.out)
          gi_wp2_with fail
          refine (callsIn_wide.2 hc.out).mono ?_
          rintro e w95 ⟨AQ, cQ, rfl, g3, hb⟩
          clear hc
          have HB95 := Aside0.mk (HB94.out.trans (hb.mono HB94.out.size))
          have HK95 := Aside0.mk (blk_below HK94.out hb)
          have HX95 := Aside0.mk (HX94.out.below hb)
          have HY95 := Aside0.mk (HY94.out.below hb)
          have HZ95 := Aside0.mk (HZ94.out.below hb)
          have HBL95 := Aside0.mk (HBL94.out.below hb)
          have HU95 := Aside0.mk (HU94.out.below hb)
          have HV95 := Aside0.mk (HV94.out.below hb)
          have HW95 := Aside0.mk (HW94.out.below hb)
          clear hb HB94 HK94 HX94 HY94 HZ94 HBL94 HU94 HV94 HW94
          have HQ95 := Aside0.mk g3
          clear g3
          clear HCB
          have hcb := prove_c (bd - 1) HU95.out HV95.out HW95.out HQ95.out
          rw [HPV.out.2, ← HBB.out.2.2.2] at hcb
          have HCB := Aside0.mk hcb
          clear hcb
          have hc := Aside0.mk (HCB.out)
          gi_wp2_with fail
          refine (callsIn_wide.2 hc.out).mono ?_
          rintro e w96 ⟨rfl, hb⟩
          clear hc
          have HB96 := Aside0.mk (HB95.out.trans (hb.mono HB95.out.size))
          have HK96 := Aside0.mk (blk_below HK95.out hb)
          have HX96 := Aside0.mk (HX95.out.below hb)
          have HY96 := Aside0.mk (HY95.out.below hb)
          have HZ96 := Aside0.mk (HZ95.out.below hb)
          have HBL96 := Aside0.mk (HBL95.out.below hb)
          have HU96 := Aside0.mk (HU95.out.below hb)
          have HV96 := Aside0.mk (HV95.out.below hb)
          have HW96 := Aside0.mk (HW95.out.below hb)
          have HQ96 := Aside0.mk (HQ95.out.below hb)
          clear hb HB95 HK95 HX95 HY95 HZ95 HBL95 HU95 HV95 HW95 HQ95
          clear HCB
          clear HU96 HV96 HW96 HQ96
          have hc := Aside0.mk (lawake_any w96)
          gi_wp2_with fail
          refine (callsIn_wide.2 hc.out).mono ?_
          rintro e w97 ⟨rfl, hb⟩
          clear hc
          have HB97 := Aside0.mk (HB96.out.trans (hb.mono HB96.out.size))
          have HK97 := Aside0.mk (blk_below HK96.out hb)
          have HX97 := Aside0.mk (HX96.out.below hb)
          have HY97 := Aside0.mk (HY96.out.below hb)
          have HZ97 := Aside0.mk (HZ96.out.below hb)
          have HBL97 := Aside0.mk (HBL96.out.below hb)
          clear hb HB96 HK96 HX96 HY96 HZ96 HBL96
          gi_wp2
          go_ret
          exact ⟨rfl, HB97.out⟩
theorem rotaSafe_calls {A0 A1 A2 : Option Addr} {c0 c1 c2 : Nat} {w : World} {l0 : List Int} {l1 : List S119} {l2 : List (List Int)} (h0 : Kd.C (Kd.int .i64) w A0 l0.length l0) (e0 : l0.length ≤ c0) (h1 : Kd.C k119 w A1 l1.length l1) (e1 : l1.length ≤ c1) (h2 : Kd.C KR w A2 l2.length l2) (e2 : l2.length ≤ c2) :
    Calls Tryz.prog 13 #[.agg #[.slice A0 l0.length c0, .slice A1 l1.length c1, .slice A2 l2.length c2]] w fun e w' => e = .returned (.bool true) ∧ Below w.heap.size w w' := rotaSafe_walk ⟨e0, h0⟩ ⟨e1, h1⟩ ⟨e2, h2⟩

end Go.Proofs.YtekdacalkllipaaGreat.PR
end
section
/- What a given input reads as, deep: the claim's reading opened in the words of the contracts. -/
namespace Go.Proofs.YtekdacalkllipaaGreat.PR
open Go.RowKit Go.Proofs.YtekdacalkllipaaGreatW.PrintWords Go.Proofs.YtekdacalkllipaaGreatW.PrintLast Go.ChangeShapes Go.WideShapes Go.Deep
set_option linter.unusedVariables false
set_option maxRecDepth 100000

/-- Whatever is read at a type reads in the contracts' words, too. -/
def Opens {α : Type} (P : Program) (d : Kd α) (t : TypeId) : Prop :=
  ∀ {H : Type} (enc : TypeId × Value → H) (w : World) (base : Nat) (spare : Nat → Bool) (held : Bool) (fuel : Nat) (cs : List Value) (x : DataW H × List MemPlace),
    DataW.trod enc P w base spare held fuel t cs = some x → ∃ p, d.K w p cs
theorem opens_bool {P : Program} {t : TypeId} (ht : P.underlying t = some .bool) : Opens P Kd.bool t := fun enc w base spare held fuel cs x h => by
  obtain ⟨b, rfl, _⟩ := DataW.trod_bool ht h
  exact ⟨b, rfl⟩
theorem opens_int {P : Program} {t : TypeId} {k : IntKind} (ht : P.underlying t = some (.int k)) : Opens P (Kd.int k) t := fun enc w base spare held fuel cs x h => by
  obtain ⟨n, rfl, _⟩ := DataW.trod_int ht h
  exact ⟨n, rfl⟩
theorem opens_slice {P : Program} {α : Type} [Inhabited α] {d : Kd α} {t e : TypeId} (ht : P.underlying t = some (.slice e)) (hd : Opens P d e) (hs : P.cellsOf e = d.sz) : Opens P (Kd.slice e d) t := fun enc w base spare held fuel cs x h => by
  rcases open_slice ht h with ⟨rfl, rfl⟩ | ⟨a, len, cap, m, n, D, Pl, rfl, hb, hl, hm, hmm, rfl, hx⟩
  · exact ⟨[], none, 0, rfl, Nat.le_refl _, rfl, by simp, fun h => absurd h (by simp)⟩
  · have hlm : len ≤ m := by rw [hmm]; split <;> omega
    obtain ⟨p, hp⟩ := choose_lt (α := α) (p := fun i p => ∃ cs', w.cells? base (a.add (i * P.cellsOf e)) (P.cellsOf e) = some cs' ∧ d.K w p cs') (n := len) (fun i hi => by
      obtain ⟨cs', h1, h2⟩ := hx i (by omega)
      obtain ⟨p, hp⟩ := hd enc w base spare held n cs' _ h2
      exact ⟨p, cs', h1, hp⟩)
    refine ⟨(List.range len).map p, some a, cap, by simp, by simpa using hl, by simp, by unfold maxLen at hm; simp; omega, fun h0 => ⟨a, rfl, fun j q hj => ?_⟩⟩
    have hj' : j < len := by
      rcases Nat.lt_or_ge j len with h | h
      · exact h
      · rw [List.getElem?_eq_none (by simpa using h)] at hj; cases hj
    rw [List.getElem?_map, List.getElem?_range hj'] at hj
    cases hj
    obtain ⟨cs', h1, h2⟩ := hp j hj'
    obtain ⟨_, hlen, hc⟩ := World.cells?_some h1
    refine ⟨cs', by rw [hlen, hs], h2, fun i u hi => ?_⟩
    have hil : i < P.cellsOf e := by
      rw [← hlen]
      rcases Nat.lt_or_ge i cs'.length with h | h
      · exact h
      · rw [List.getElem?_eq_none h] at hi; cases hi
    have := hc i hil
    rw [hi, Go.Deep.add_add, hs] at this
    exact this
instance : Inhabited S119 := ⟨z119⟩
theorem opens_person : Opens Tryz.prog k119 119 := fun enc w base spare held fuel cs x h => by
  obtain ⟨xs, n, _, _, hl, hxl, hf⟩ := DataW.trod_struct Tryz.underlying119 h
  have hc : Tryz.prog.cellsOf 119 = 3 := by kernel_rfl
  rw [hc] at hl
  match cs, hl with
  | [a, b, c], _ =>
    match xs, hxl with
    | [x0, x1, x2], _ =>
      have f0 : DataW.trod enc Tryz.prog w base spare held n 73 (List.take (Tryz.prog.cellsOf 73) (List.drop 0 [a, b, c])) = some x0 := hf 0 _ rfl
      have f1 : DataW.trod enc Tryz.prog w base spare held n 3 (List.take (Tryz.prog.cellsOf 3) (List.drop 1 [a, b, c])) = some x1 := hf 1 _ rfl
      have f2 : DataW.trod enc Tryz.prog w base spare held n 3 (List.take (Tryz.prog.cellsOf 3) (List.drop 2 [a, b, c])) = some x2 := hf 2 _ rfl
      rw [show Tryz.prog.cellsOf 73 = 1 by kernel_rfl] at f0
      rw [show Tryz.prog.cellsOf 3 = 1 by kernel_rfl] at f1 f2
      obtain ⟨p0, A0, c0, e0, h0, g0⟩ := opens_slice Tryz.underlying73 (opens_bool Tryz.underlying4) (by kernel_rfl) enc w base spare held n _ _ f0
      obtain ⟨p1, e1⟩ := opens_int Tryz.underlying3 enc w base spare held n _ _ f1
      obtain ⟨p2, e2⟩ := opens_int Tryz.underlying3 enc w base spare held n _ _ f2
      cases e0
      cases e1
      cases e2
      exact ⟨⟨p0, p1, p2⟩, k119_mk w ⟨p0, p1, p2⟩ h0 g0⟩
theorem opens_ints : Opens Tryz.prog (Kd.slice 3 (Kd.int .i64)) 22 := opens_slice Tryz.underlying22 (opens_int Tryz.underlying3) (by kernel_rfl)
theorem opens_rows : Opens Tryz.prog (Kd.slice 22 (Kd.slice 3 (Kd.int .i64))) 24 := opens_slice Tryz.underlying24 opens_ints (by kernel_rfl)
theorem opens_people : Opens Tryz.prog (Kd.slice 119 k119) 23 := opens_slice Tryz.underlying23 opens_person (by kernel_rfl)
/-- A given post (the reference's own). -/
theorem open_post {H : Type} {enc : TypeId × Value → H} {w : World} {base : Nat} {spare : Nat → Bool} {held : Bool} {fuel : Nat} {cs : List Value} {x : DataW H × List MemPlace} (h : DataW.trod enc Tryz.prog w base spare held fuel 26 cs = some x) :
    ∃ A0 c0 l0 A1 c1 l1 A2 c2 l2, cs = [.slice A0 l0.length c0, .slice A1 l1.length c1, .slice A2 l2.length c2] ∧ Kd.C (Kd.int .i64) w A0 l0.length l0 ∧ l0.length ≤ c0 ∧ Kd.C k119 w A1 l1.length l1 ∧ l1.length ≤ c1 ∧ Kd.C (Kd.slice 3 (Kd.int .i64)) w A2 l2.length l2 ∧ l2.length ≤ c2 := by
  obtain ⟨xs, n, _, _, hl, hxl, hf⟩ := DataW.trod_struct Tryz.underlying26 h
  have hc : Tryz.prog.cellsOf 26 = 3 := by kernel_rfl
  rw [hc] at hl
  match cs, hl with
  | [a, b, c], _ =>
    match xs, hxl with
    | [x0, x1, x2], _ =>
      have f0 : DataW.trod enc Tryz.prog w base spare held n 22 (List.take (Tryz.prog.cellsOf 22) (List.drop 0 [a, b, c])) = some x0 := hf 0 _ rfl
      have f1 : DataW.trod enc Tryz.prog w base spare held n 23 (List.take (Tryz.prog.cellsOf 23) (List.drop 1 [a, b, c])) = some x1 := hf 1 _ rfl
      have f2 : DataW.trod enc Tryz.prog w base spare held n 24 (List.take (Tryz.prog.cellsOf 24) (List.drop 2 [a, b, c])) = some x2 := hf 2 _ rfl
      rw [show Tryz.prog.cellsOf 22 = 1 by kernel_rfl] at f0
      rw [show Tryz.prog.cellsOf 23 = 1 by kernel_rfl] at f1
      rw [show Tryz.prog.cellsOf 24 = 1 by kernel_rfl] at f2
      obtain ⟨p0, A0, c0, e0, h0, g0⟩ := opens_ints enc w base spare held n _ _ f0
      obtain ⟨p1, A1, c1, e1, h1, g1⟩ := opens_people enc w base spare held n _ _ f1
      obtain ⟨p2, A2, c2, e2, h2, g2⟩ := opens_rows enc w base spare held n _ _ f2
      cases e0
      cases e1
      cases e2
      exact ⟨A0, c0, p0, A1, c1, p1, A2, c2, p2, rfl, g0, h0, g1, h1, g2, h2⟩
end Go.Proofs.YtekdacalkllipaaGreat.PR
end
section
/- The row of RotaSafe. -/
namespace Go.Proofs.YtekdacalkllipaaGreat.rotaSafe
open Go.ChangeShapes Go.WideShapes Go.ChangeAt Go.RowKit Go.Proofs.YtekdacalkllipaaGreat.PR Go.Proofs.YtekdacalkllipaaGreatW.PrintWords
set_option linter.unusedVariables false
theorem own : ownKnob Tryz.prog.godebug = none := by kernel_rfl
theorem laidOut : laidOutB Tryz.prog = true := by kernel_rfl
set_option maxRecDepth 100000 in
theorem lifted (os : Os) (started : os.Started) (H : Type) (enc : TypeId × Value → H) :
    ReturnsInHanded {} Tryz.checked os 13 .any (Rows.rotaSafeSpec.pre6 enc Tryz.prog Tryz.f13 Rows.rotaSafeRow.domain false) (Rows.rotaSafeSpec.post enc Tryz.prog Tryz.f13 false true false false) := by
  refine returnsInHanded_of_change_sized (C := Tryz.checked) own started (by kernel_rfl) Tryz.func13
    (ChangeSpec.witness6 (enc := enc) (C := Tryz.checked) false ⟨#[], #[.agg #[.slice none 0 0, .slice none 0 0, .slice none 0 0]], []⟩ 8 (by kernel_rfl) (by kernel_rfl) (by kernel_rfl) (by kernel_rfl)) ?_
  intro W base args ds gs before hval0 hW hcnd hsz0 _
  have hval : ∀ (j : Nat) t v, Tryz.f13.params[j]? = some t → args[j]? = some v → Value.okWide Tryz.prog W .any base t v := hval0
  have hW' := hW
  obtain ⟨p, q, hA0, hV, rfl, hfz, hnd⟩ := hW
  have hA : DataW.TrodAll enc Tryz.prog W 0 (fun _ => true) true Tryz.f13.params.toList args.toList ds p := hA0
  rw [Tryz.params13] at hA hval
  obtain ⟨v0, vs0, d0, ds0, p0, q0, hargs, rfl, rfl, h0, r0⟩ := trodAll_cons hA
  obtain ⟨rfl, rfl, rfl⟩ := trodAll_nil r0
  obtain rfl : args = #[v0] := by cases args; simp_all
  obtain ⟨rfl, rfl⟩ := trodVars_none hV
  have k0 := h0
  have lt0 : ∀ x ∈ p0, x.block < W.heap.size := by obtain ⟨m, hm⟩ := k0; exact DataW.trod_lt m _ _ _ hm
  obtain ⟨cs0, rfl, _⟩ := okWide_struct Tryz.underlying26 (hval 0 26 v0 rfl rfl)
  obtain ⟨fuel0, hf0⟩ := h0
  obtain ⟨A0_0, c0_0, l0_0, A0_1, c0_1, l0_1, A0_2, c0_2, l0_2, hcs0, g0_0, e0_0, g0_1, e0_1, g0_2, e0_2⟩ := open_post hf0
  obtain rfl : cs0 = #[.slice A0_0 l0_0.length c0_0, .slice A0_1 l0_1.length c0_1, .slice A0_2 l0_2.length c0_2] := Array.ext' hcs0
  clear hA0 hval0 hsz0
  refine (rotaSafe_calls g0_0 e0_0 g0_1 e0_1 g0_2 e0_2).mono fun e W' ⟨he, bel⟩ => ?_
  subst he
  exact ⟨_, rfl, _, _, _, [], _, [], hW', trodAll_mk1 (shut_bool Tryz.underlying4 _), (trodAll_cons_mk (Below.trod laidOut (by kernel_rfl) (of_decide_eq_true (by kernel_rfl)) k0 bel lt0) trodAll_mk0), rfl, bel.frame _, fun h => by cases h⟩
theorem over : Rows.rotaSafeRow.holds Tryz.pinned (OpenSpec.ofChange Rows.rotaSafeSpec) :=
  OpenClaim.holds_of_wide 13 Tryz.f13 rfl rfl rfl rfl rfl rfl rfl ⟨rfl, rfl, rfl, rfl, rfl⟩ rfl rfl rfl rfl rfl (by kernel_rfl) Tryz.func13 (by kernel_rfl)
    (of_decide_eq_true (by kernel_rfl)) (by unfold Func.isWrapper; first | (rw [if_pos (by decide +kernel)]; kernel_rfl) | (rw [if_neg (by decide +kernel)]; exact ⟨rfl, rfl⟩))
    (fun os started H enc _ => lifted os started H enc)
theorem proved : Rows.RotaSafeSaid := over
end Go.Proofs.YtekdacalkllipaaGreat.rotaSafe
namespace Go.Proofs.YtekdacalkllipaaGreat
/-- The row, under a short name, for the claim. -/
theorem rotaSafe_holds : Rows.RotaSafeSaid := rotaSafe.proved
end Go.Proofs.YtekdacalkllipaaGreat
end
