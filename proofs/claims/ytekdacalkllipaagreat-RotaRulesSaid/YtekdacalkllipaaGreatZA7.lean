import Derived.Below
import Derived.ChangeOld
import Derived.ChangeSame
import Derived.Deep.Slices
import Derived.OpenShut
import Derived.ProofKit
import Derived.ShutString
import Derived.SizedLaws
import Derived.Test.YtekdacalkllipaaGreatRows
import Derived.WalkKit
import Derived.Test.YtekdacalkllipaaGreatZA6
section
/- The program's rules are the document's. -/
namespace Go.Proofs.YtekdacalkllipaaGreat.PR
open Go.RowKit Go.Shelf Go.Proofs.YtekdacalkllipaaGreatW.PrintWords Go.Proofs.YtekdacalkllipaaGreatW.PrintLast Go.Proofs.YtekdacalkllipaaGreatW.PrintMore
set_option linter.unusedVariables false
set_option linter.unusedSimpArgs false

def lstB (p : Nat → Bool) : Nat → Int
  | 0 => -1
  | n + 1 => if p n then (n : Int) else lstB p n
theorem lstB_lt (p : Nat → Bool) : ∀ n, lstB p n < n
  | 0 => by simp [lstB]
  | n + 1 => by have := lstB_lt p n; unfold lstB; split <;> omega
theorem lstB_on (p : Nat → Bool) : ∀ n b, b < n → p b = true → (b : Int) ≤ lstB p n
  | 0, b, h, _ => by omega
  | n + 1, b, h, hb => by
    unfold lstB
    split
    · omega
    · rename_i hn
      have : b ≠ n := fun e => hn (e ▸ hb)
      exact lstB_on p n b (by omega) hb
theorem lstB_is (p : Nat → Bool) : ∀ n, lstB p n = -1 ∨ ∃ b, b < n ∧ p b = true ∧ lstB p n = b
  | 0 => .inl rfl
  | n + 1 => by
    unfold lstB
    split
    · rename_i hn; exact .inr ⟨n, by omega, hn, rfl⟩
    · rcases lstB_is p n with h | ⟨b, h1, h2, h3⟩
      · exact .inl h
      · exact .inr ⟨b, by omega, h2, h3⟩
/-- Rest, as the last watch tells it. -/
theorem rest_last (p : Nat → Bool) (rest : Int) (a : Nat) : ((List.range a).all fun b => !p b || decide (rest ≤ (a : Int) - b - 1)) = decide (lstB p a = -1 ∨ rest < (a : Int) - lstB p a) := by
  rw [Bool.eq_iff_iff, List.all_eq_true, decide_eq_true_iff]
  constructor
  · intro h
    rcases lstB_is p a with h1 | ⟨b, h1, h2, h3⟩
    · exact .inl h1
    · right
      have := h b (List.mem_range.2 h1)
      rw [h2] at this
      simp at this
      omega
  · intro h b hb
    have hb := List.mem_range.1 hb
    cases hp : p b with
    | false => rfl
    | true =>
      have := lstB_on p a b hb hp
      simp
      rcases h with h | h <;> omega
theorem rdP (people : List S119) (i : Nat) (hi : i < people.length) : rd_T128 (people.map toP) (i : Int) = toP (people.getD i z119) := by
  unfold rd_T128
  rw [Int.toNat_natCast, List.getD_eq_getElem?_getD, List.getElem?_map, List.getElem?_eq_getElem hi, List.getD_eq_getElem?_getD, List.getElem?_eq_getElem hi]
  rfl
theorem incB_lt {l : List Int} {n : Int} (h : incB l n = true) : ∀ i, i < l.length → ∀ j, j < i → l.getD j 0 < l.getD i 0
  | 0, _, j, hj => by omega
  | i + 1, hi, j, hj => by
    rw [← rise_inc] at h
    have h1 := List.all_eq_true.1 h (i + 1) (List.mem_range.2 hi)
    unfold riseAt at h1
    simp only [Bool.and_eq_true, Bool.or_eq_true, decide_eq_true_eq, Nat.add_sub_cancel] at h1
    have h2 : l.getD i 0 < l.getD (i + 1) 0 := by omega
    by_cases e : j = i
    · subst e; exact h2
    · have := incB_lt (n := n) (by rw [← rise_inc]; exact h) i (by omega) j (by omega)
      omega
theorem incB_nodup {l : List Int} {n : Int} (h : incB l n = true) : l.Nodup := by
  unfold List.Nodup
  rw [List.pairwise_iff_getElem]
  intro i j hi hj hij
  have := incB_lt h j hj i hij
  rw [List.getD_eq_getElem?_getD, List.getElem?_eq_getElem hi, List.getD_eq_getElem?_getD, List.getElem?_eq_getElem hj] at this
  simp only [Option.getD_some] at this
  omega
/-- What stands behind the watches before a: of each person the last one, and how many. -/
def StoodAt (n : Nat) (r : List (List Int)) (a : Nat) (s : Std) : Prop := ∀ i, i < n → s.last i = lstB (onB r i) a ∧ s.many i = (cntB (onB r i) a : Int)
theorem std_put (s : Std) (i : Nat) (hi : i < 4) (l m : Int) : (∀ j, j < 4 → j ≠ i → (s.put i l m).last j = s.last j ∧ (s.put i l m).many j = s.many j) ∧ (s.put i l m).last i = l ∧ (s.put i l m).many i = m := by
  rcases (by omega : i = 0 ∨ i = 1 ∨ i = 2 ∨ i = 3) with rfl | rfl | rfl | rfl <;> refine ⟨fun j hj hne => ?_, rfl, rfl⟩ <;> rcases (by omega : j = 0 ∨ j = 1 ∨ j = 2 ∨ j = 3) with rfl | rfl | rfl | rfl <;> first | exact absurd rfl hne | exact ⟨rfl, rfl⟩
def stepOkB (people : List S119) (r : List (List Int)) (a i : Nat) : Bool :=
  decide ((people.getD i z119).f0.getD a false = true ∧ (cntB (onB r i) a : Int) < (people.getD i z119).f2 ∧ (lstB (onB r i) a = -1 ∨ (people.getD i z119).f1 < (a : Int) - lstB (onB r i) a))
/-- One watch's people, one behind the other. -/
theorem after_spec (people : List S119) (hp : people.length ≤ 4) (r : List (List Int)) (a : Nat) : ∀ (on : List Int) (done : List Int) (s : Std), (done ++ on).Nodup → (∀ x ∈ on, 0 ≤ x ∧ x < people.length) →
    (∀ i, i < people.length → (i : Int) ∉ done → s.last i = lstB (onB r i) a ∧ s.many i = (cntB (onB r i) a : Int)) →
    (∀ i, i < people.length → (i : Int) ∈ done → s.last i = a ∧ s.many i = (cntB (onB r i) a : Int) + 1) →
    ((afterS (people.map toP) (a : Int) on s).2 = true ↔ ∀ x ∈ on, stepOkB people r a x.toNat = true) ∧
    ((afterS (people.map toP) (a : Int) on s).2 = true → ∀ i, i < people.length → ((i : Int) ∉ done ++ on → (afterS (people.map toP) (a : Int) on s).1.last i = lstB (onB r i) a ∧ (afterS (people.map toP) (a : Int) on s).1.many i = (cntB (onB r i) a : Int)) ∧ ((i : Int) ∈ done ++ on → (afterS (people.map toP) (a : Int) on s).1.last i = a ∧ (afterS (people.map toP) (a : Int) on s).1.many i = (cntB (onB r i) a : Int) + 1))
  | [], done, s, hnd, hin, h1, h2 => by
    refine ⟨by simp [afterS], fun _ i hi => ?_⟩
    rw [List.append_nil]
    exact ⟨h1 i hi, h2 i hi⟩
  | x :: on, done, s, hnd, hin, h1, h2 => by
    have hx := hin x List.mem_cons_self
    obtain ⟨i, rfl⟩ : ∃ i : Nat, x = (i : Int) := ⟨x.toNat, by omega⟩
    have hi : i < people.length := by omega
    have hnd' : (i : Int) ∉ done := fun h => by
      rw [List.nodup_append] at hnd
      exact hnd.2.2 _ h _ List.mem_cons_self rfl
    have hs := h1 i hi hnd'
    have hstep : stepB (people.map toP) (a : Int) s (i : Int) = stepOkB people r a i := by
      unfold stepB stepOkB
      rw [rdP people i hi, Int.toNat_natCast, Int.toNat_natCast, hs.1, hs.2]
      rfl
    unfold afterS
    rw [hstep]
    cases hb : stepOkB people r a i with
    | false =>
      simp only [Bool.false_eq_true, if_false]
      refine ⟨⟨fun h => (by cases h), fun h => ?_⟩, fun h => (by cases h)⟩
      have := h (i : Int) List.mem_cons_self
      rw [Int.toNat_natCast, hb] at this
      cases this
    | true =>
      simp only [if_true]
      obtain ⟨p1, p2, p3⟩ := std_put s i (by omega) (a : Int) (s.many i + 1)
      have hnn : (done ++ [(i : Int)] ++ on).Nodup := by rw [List.append_assoc]; exact hnd
      have ih := after_spec people hp r a on (done ++ [(i : Int)]) (s.put i (a : Int) (s.many i + 1)) hnn (fun y hy => hin y (List.mem_cons_of_mem _ hy))
        (fun j hj hjd => by
          have hne : j ≠ i := fun e => hjd (by rw [e]; simp)
          have := p1 j (by omega) hne
          rw [this.1, this.2]
          exact h1 j hj (fun h => hjd (List.mem_append_left _ h)))
        (fun j hj hjd => by
          by_cases e : j = i
          · subst e; rw [p2, p3, hs.2]; exact ⟨rfl, rfl⟩
          · have := p1 j (by omega) e
            rw [this.1, this.2]
            refine h2 j hj ?_
            rcases List.mem_append.1 hjd with h | h
            · exact h
            · exact absurd (show j = i by have h9 : (j : Int) = i := (by simpa using h); omega) e)
      rw [Int.toNat_natCast]
      refine ⟨⟨fun h y hy => ?_, fun h => ih.1.2 (fun y hy => h y (List.mem_cons_of_mem _ hy))⟩, fun h j hj => ?_⟩
      · rcases List.mem_cons.1 hy with rfl | hy
        · rw [Int.toNat_natCast]; exact hb
        · exact ih.1.1 h y hy
      · have := ih.2 h j hj
        rw [List.append_assoc] at this
        exact this
theorem rules_spec (people : List S119) (hp : people.length ≤ 4) (r : List (List Int)) (hr : ∀ l ∈ r, incB l people.length = true) : ∀ (d a : Nat) (s : Std), a + d = r.length → StoodAt people.length r a s →
    (rulesS (people.map toP) (a : Int) (r.drop a) s = true ↔ ∀ b, a ≤ b → b < r.length → ∀ x ∈ r.getD b [], stepOkB people r b x.toNat = true)
  | 0, a, s, had, hs => by
    rw [List.drop_of_length_le (by omega)]
    simp only [rulesS, true_iff]
    intro b h1 h2; omega
  | d + 1, a, s, had, hs => by
    have hal : a < r.length := by omega
    rw [List.drop_eq_getElem_cons hal]
    have hm := List.getElem_mem hal
    have hinc := hr _ hm
    have hbd := incB_mem hinc
    have hsp := after_spec people hp r a r[a] [] s (by rw [List.nil_append]; exact incB_nodup hinc) hbd (fun i hi _ => hs i hi) (fun i hi h => by cases h)
    have hge : r.getD a [] = r[a] := by rw [List.getD_eq_getElem?_getD, List.getElem?_eq_getElem hal]; rfl
    unfold rulesS
    cases hc : (afterS (people.map toP) (a : Int) r[a] s).2 with
    | false =>
      simp only [Bool.false_eq_true, if_false, false_iff]
      intro h
      have := hsp.1.2 (fun x hx => h a (Nat.le_refl _) hal x (by rw [hge]; exact hx))
      rw [hc] at this
      cases this
    | true =>
      simp only [if_true]
      have hst := hsp.2 hc
      have hs' : StoodAt people.length r (a + 1) (afterS (people.map toP) (a : Int) r[a] s).1 := fun i hi => by
        have h := hst i hi
        rw [List.nil_append] at h
        by_cases hon : (i : Int) ∈ r[a]
        · have e : onB r i a = true := by unfold onB; rw [hge]; exact List.contains_iff_mem.2 hon
          rw [lstB, cntB, e, if_pos rfl, if_pos rfl]
          have := h.2 hon
          exact ⟨this.1, by rw [this.2]; push_cast; rfl⟩
        · have e : onB r i a = false := by
            unfold onB; rw [hge]
            cases hcc : r[a].contains (i : Int) with
            | false => rfl
            | true => exact absurd (List.contains_iff_mem.1 hcc) hon
          rw [lstB, cntB, e]
          simp only [Bool.false_eq_true, if_false, Nat.add_zero]
          exact h.1 hon
      have ih := rules_spec people hp r hr d (a + 1) _ (by omega) hs'
      have hcast : ((a : Int) + 1) = ((a + 1 : Nat) : Int) := by push_cast; rfl
      rw [hcast, ih]
      have h0 := hsp.1.1 hc
      constructor
      · intro h b h1 h2 x hx
        by_cases e : b = a
        · subst e; rw [hge] at hx; exact h0 x hx
        · exact h b (by omega) h2 x hx
      · intro h b h1 h2 x hx
        exact h b (by omega) h2 x hx
theorem cnt_lt (p : Nat → Bool) (m : Int) : ∀ n, ((∀ a, a < n → p a = true → (cntB p a : Int) < m) ↔ ((cntB p n : Int) ≤ m ∨ cntB p n = 0))
  | 0 => by simp [cntB]
  | n + 1 => by
    have ih := cnt_lt p m n
    constructor
    · intro h
      have := ih.1 (fun a ha hp => h a (by omega) hp)
      unfold cntB
      cases hp : p n with
      | false => simpa using this
      | true => have := h n (by omega) hp; simp; omega
    · intro h a ha hp
      unfold cntB at h
      by_cases e : a = n
      · subst e; rw [hp] at h; simp at h; omega
      · refine ih.2 ?_ a (by omega) hp
        cases hpn : p n with
        | false => rw [hpn] at h; simpa using h
        | true => rw [hpn] at h; simp at h; omega
theorem rules_same (need : List Int) (people : List S119) (cases r : List (List Int)) (h : rotaErr need (people.map toP) cases r = 0) : rulesS (people.map toP) 0 r std0 = (List.range people.length).all fun i => perB (people.getD i z119) r i := by
  obtain ⟨hpe, hrl, hinc⟩ := rotaErr_ok h
  simp only [List.length_map] at hinc
  have hp4 : people.length ≤ 4 := by
    unfold postErr at hpe
    simp only [List.length_map] at hpe
    by_cases b : 5 < need.length ∨ 4 < people.length ∨ 4 < cases.length
    · rw [if_pos b] at hpe; cases hpe
    · omega
  have hmost : ∀ x ∈ people, 0 ≤ x.f2 := fun x hx => by
    unfold postErr at hpe
    split at hpe
    · cases hpe
    · split at hpe
      · cases hpe
      · rename_i hb
        simp only [not_or, Bool.not_eq_false] at hb
        have := List.all_eq_true.1 hb.2.2.2.1 (toP x) (List.mem_map_of_mem hx)
        unfold personOk toP at this
        simp at this
        omega
  have hst : StoodAt people.length r 0 std0 := fun i hi => by
    rcases (by omega : i = 0 ∨ i = 1 ∨ i = 2 ∨ i = 3) with rfl | rfl | rfl | rfl <;> exact ⟨rfl, rfl⟩
  have hs := rules_spec people hp4 r hinc r.length 0 std0 (by omega) hst
  rw [List.drop_zero] at hs
  rw [Bool.eq_iff_iff]
  refine Iff.trans hs ?_
  rw [List.all_eq_true]
  constructor
  · intro hh i hi
    have hi := List.mem_range.1 hi
    have hmem : people.getD i z119 ∈ people := by rw [List.getD_eq_getElem?_getD, List.getElem?_eq_getElem hi]; exact List.getElem_mem hi
    have key : ∀ a, a < r.length → onB r i a = true → stepOkB people r a i = true := fun a ha hon => by
      have := hh a (Nat.zero_le _) ha (i : Int) (List.contains_iff_mem.1 hon)
      rwa [Int.toNat_natCast] at this
    unfold perB
    rw [Bool.and_eq_true, decide_eq_true_iff, List.all_eq_true]
    refine ⟨fun a ha => ?_, ?_⟩
    · have ha := List.mem_range.1 ha
      cases hon : onB r i a with
      | false => rfl
      | true =>
        have hk := of_decide_eq_true (key a ha hon)
        unfold okAt
        rw [rest_last, hk.1, decide_eq_true hk.2.2]; rfl
    · rcases (cnt_lt (onB r i) (people.getD i z119).f2 r.length).1 (fun a ha hon => (of_decide_eq_true (key a ha hon)).2.1) with h1 | h1
      · exact h1
      · rw [h1]; exact hmost _ hmem
  · intro hh b _ hb x hx
    have hge : r.getD b [] ∈ r := by rw [List.getD_eq_getElem?_getD, List.getElem?_eq_getElem hb]; exact List.getElem_mem hb
    have hbd := incB_mem (hinc _ hge) x hx
    obtain ⟨i, rfl⟩ : ∃ i : Nat, x = (i : Int) := ⟨x.toNat, by omega⟩
    have hi : i < people.length := by omega
    have h1 := hh i (List.mem_range.2 hi)
    unfold perB at h1
    rw [Bool.and_eq_true, decide_eq_true_iff, List.all_eq_true] at h1
    have hon : onB r i b = true := List.contains_iff_mem.2 hx
    have h2 := h1.1 b (List.mem_range.2 hb)
    rw [hon] at h2
    unfold okAt at h2
    rw [rest_last] at h2
    simp only [Bool.not_true, Bool.false_or, Bool.and_eq_true, decide_eq_true_iff] at h2
    have h3 := (cnt_lt (onB r i) (people.getD i z119).f2 r.length).2 (.inl h1.2) b hb hon
    rw [Int.toNat_natCast]
    exact decide_eq_true ⟨h2.1, h3, h2.2⟩
end Go.Proofs.YtekdacalkllipaaGreat.PR
end
section
/- The laws' helpers as calls, in the words of what they come to. -/
namespace Go.Proofs.YtekdacalkllipaaGreat.PR
open Go.RowKit Go.Shelf Go.Proofs.YtekdacalkllipaaGreatW.PrintWords Go.Proofs.YtekdacalkllipaaGreatW.PrintLast Go.Proofs.YtekdacalkllipaaGreatW.PrintMore
set_option linter.unusedVariables false

section
variable {A0 A1 A2 A3 : Option Addr} {c0 c1 c2 c3 : Nat} {w : World} {l0 : List Int} {l1 : List S119} {l2 l3 : List (List Int)}
theorem thin_c (h0 : SL (Kd.int .i64) A0 c0 w l0) (h1 : SL k119 A1 c1 w l1) (h2 : SL KR A2 c2 w l2) {b : Bool} (hb : Ev (fun k => glisterlaw10_Thin.f k l0 l1 l2) b) :
    Calls Tryz.prog 15 #[.agg #[.slice A0 l0.length c0, .slice A1 l1.length c1, .slice A2 l2.length c2]] w fun e w' => e = .returned (.bool b) ∧ Below w.heap.size w w' := by
  obtain ⟨k, hk⟩ := hb.one
  exact glisterlaw10_Thin.calls k A0 c0 l0 A1 c1 l1 A2 c2 l2 b w h0.2 h0.1 h1.2 h1.1 h2.2 h2.1 hk
theorem short_c (h3 : SL KR A3 c3 w l3) {b : Bool} (hb : Ev (fun k => glisterlaw10_short.f k l3) b) :
    Calls Tryz.prog 16 #[.slice A3 l3.length c3] w fun e w' => e = .returned (.bool b) ∧ Below w.heap.size w w' := by
  obtain ⟨k, hk⟩ := hb.one
  refine (glisterlaw10_short.calls k A3 c3 l3 b w h3.2 h3.1 hk).mono ?_
  rintro e w' ⟨rfl, h⟩
  exact ⟨rfl, drawn_below h⟩
theorem rows_c (h3 : SL KR A3 c3 w l3) (hr : Ev (fun k => glisterlaw10_rows.f k l3) l3) :
    Calls Tryz.prog 21 #[.slice A3 l3.length c3] w fun e w' => ∃ A c, e = .returned (.slice A l3.length c) ∧ SL KR A c w' l3 ∧ Below w.heap.size w w' := by
  obtain ⟨k, hk⟩ := hr.one
  refine (glisterlaw10_rows.calls k A3 c3 l3 l3 w h3.2 h3.1 hk).mono ?_
  rintro e w' ⟨v, rfl, hS, hb⟩
  obtain ⟨A, c, rfl, d0, e0⟩ := Kd.S_reads hS
  exact ⟨A, c, rfl, ⟨d0, e0⟩, hb⟩
theorem post_c (h0 : SL (Kd.int .i64) A0 c0 w l0) (h1 : SL k119 A1 c1 w l1) (h2 : SL KR A2 c2 w l2) {ps : List S128} (hp : Ev (fun k => glisterlaw10_Post.f k l0 l1 l2) (l0, ps, l2)) :
    Calls Tryz.prog 19 #[.agg #[.slice A0 l0.length c0, .slice A1 l1.length c1, .slice A2 l2.length c2]] w fun e w' => ∃ B0 d0 B1 d1 B2 d2, e = .returned (.agg #[.slice B0 l0.length d0, .slice B1 ps.length d1, .slice B2 l2.length d2]) ∧ SL (Kd.int .i64) B0 d0 w' l0 ∧ SL k128 B1 d1 w' ps ∧ SL KR B2 d2 w' l2 ∧ Below w.heap.size w w' := by
  obtain ⟨k, hk⟩ := hp.one
  refine (glisterlaw10_Post.calls k A0 c0 l0 A1 c1 l1 A2 c2 l2 l0 ps l2 w h0.2 h0.1 h1.2 h1.1 h2.2 h2.1 hk).mono ?_
  rintro e w' ⟨v0, v1, v2, rfl, g0, g1, g2, hb⟩
  obtain ⟨B0, d0, rfl, x0, y0⟩ := Kd.R_reads g0
  obtain ⟨B1, d1, rfl, x1, y1⟩ := Kd.S_reads g1
  obtain ⟨B2, d2, rfl, x2, y2⟩ := Kd.S_reads g2
  exact ⟨B0, d0, B1, d1, B2, d2, rfl, ⟨x0, y0⟩, ⟨x1, y1⟩, ⟨x2, y2⟩, hb⟩
theorem fault_c (h0 : SL (Kd.int .i64) A0 c0 w l0) (h1 : SL k119 A1 c1 w l1) (h2 : SL KR A2 c2 w l2) {n : Int} (hb : Ev (fun k => glisterlaw10_fault.f k l0 l1 l2) n) :
    Calls Tryz.prog 23 #[.agg #[.slice A0 l0.length c0, .slice A1 l1.length c1, .slice A2 l2.length c2]] w fun e w' => e = .returned (.int .i64 n) ∧ Below w.heap.size w w' := by
  obtain ⟨k, hk⟩ := hb.one
  exact glisterlaw10_fault.calls k A0 c0 l0 A1 c1 l1 A2 c2 l2 n w h0.2 h0.1 h1.2 h1.1 h2.2 h2.1 hk
theorem planned_c (h0 : SL (Kd.int .i64) A0 c0 w l0) (h1 : SL k119 A1 c1 w l1) (h2 : SL KR A2 c2 w l2) (h3 : SL KR A3 c3 w l3) {n : Int} (hb : Ev (fun k => glisterlaw10_planned.f k l0 l1 l2 l3) n) :
    Calls Tryz.prog 22 #[.agg #[.slice A0 l0.length c0, .slice A1 l1.length c1, .slice A2 l2.length c2], .slice A3 l3.length c3] w fun e w' => e = .returned (.int .i64 n) ∧ Below w.heap.size w w' := by
  obtain ⟨k, hk⟩ := hb.one
  exact glisterlaw10_planned.calls k A0 c0 l0 A1 c1 l1 A2 c2 l2 A3 c3 l3 n w h0.2 h0.1 h1.2 h1.1 h2.2 h2.1 h3.2 h3.1 hk
theorem refrules_c (h0 : SL (Kd.int .i64) A0 c0 w l0) (h1 : SL k119 A1 c1 w l1) (h2 : SL KR A2 c2 w l2) (h3 : SL KR A3 c3 w l3) {b : Bool} (hb : Ev (fun k => glisterref10_Rules.f k l0 l1 l2 l3) b) :
    Calls Tryz.prog 24 #[.agg #[.slice A0 l0.length c0, .slice A1 l1.length c1, .slice A2 l2.length c2], .slice A3 l3.length c3] w fun e w' => e = .returned (.bool b) ∧ Below w.heap.size w w' := by
  obtain ⟨k, hk⟩ := hb.one
  exact glisterref10_Rules.calls k A0 c0 l0 A1 c1 l1 A2 c2 l2 A3 c3 l3 b w h0.2 h0.1 h1.2 h1.1 h2.2 h2.1 h3.2 h3.1 hk
end
section
variable {A0 A1 A2 A3 : Option Addr} {c0 c1 c2 c3 : Nat} {w : World} {l0 : List Int} {l1 : List S128} {l2 l3 : List (List Int)}
theorem check_c (h0 : SL (Kd.int .i64) A0 c0 w l0) (h1 : SL k128 A1 c1 w l1) (h2 : SL KR A2 c2 w l2) :
    Calls Tryz.prog 18 #[.agg #[.slice A0 l0.length c0, .slice A1 l1.length c1, .slice A2 l2.length c2]] w fun e w' => e = .returned (.int .i64 (postErr l0 l1 l2)) ∧ Below w.heap.size w w' :=
  rota_CheckPost.calls A0 c0 l0 A1 c1 l1 A2 c2 l2 _ w h0.2 h0.1 h1.2 h1.1 h2.2 h2.1 rfl
theorem rules_c (h0 : SL (Kd.int .i64) A0 c0 w l0) (h1 : SL k128 A1 c1 w l1) (h2 : SL KR A2 c2 w l2) (h3 : SL KR A3 c3 w l3) :
    Calls Tryz.prog 20 #[.agg #[.slice A0 l0.length c0, .slice A1 l1.length c1, .slice A2 l2.length c2], .slice A3 l3.length c3] w fun e w' => e = .returned (.tuple #[.bool (decide (rotaErr l0 l1 l2 l3 = 0) && rulesS l1 0 l3 std0), .int .i64 (rotaErr l0 l1 l2 l3)]) ∧ Below w.heap.size w w' :=
  rota_Rules.calls A0 c0 l0 A1 c1 l1 A2 c2 l2 A3 c3 l3 _ _ w h0.2 h0.1 h1.2 h1.1 h2.2 h2.1 h3.2 h3.1 rfl
end
end Go.Proofs.YtekdacalkllipaaGreat.PR
end
section
/- RotaRules, walked: true, whatever the input. -/
namespace Go.Proofs.YtekdacalkllipaaGreat.PR
open Go.RowKit Go.Shelf Go.Proofs.YtekdacalkllipaaGreatW.PrintWords Go.Proofs.YtekdacalkllipaaGreatW.PrintLast Go.Proofs.YtekdacalkllipaaGreatW.PrintMore
set_option linter.unusedVariables false
set_option linter.unusedSimpArgs false
attribute [local go_sem] Oper.semAt_some

theorem rota_able {need : List Int} {people : List S119} {cases r : List (List Int)} (h : rotaErr need (people.map toP) cases r = 0) : ∀ x ∈ people, r.length ≤ x.f0.length := by
  obtain ⟨hpe, hrl, _⟩ := rotaErr_ok h
  intro x hx
  unfold postErr at hpe
  split at hpe
  · cases hpe
  · split at hpe
    · cases hpe
    · rename_i hb
      simp only [not_or, Bool.not_eq_false] at hb
      have := List.all_eq_true.1 hb.2.2.2.1 (toP x) (List.mem_map_of_mem hx)
      unfold personOk toP at this
      simp at this
      omega
set_option maxRecDepth 100000 in
set_option maxHeartbeats 4000000 in
theorem rotaRules_walk {A0 A1 A2 A3 : Option Addr} {c0 c1 c2 c3 : Nat} {w : World} {l0 : List Int} {l1 : List S119} {l2 l3 : List (List Int)} (h0 : SL (Kd.int .i64) A0 c0 w l0) (h1 : SL k119 A1 c1 w l1) (h2 : SL KR A2 c2 w l2) (h3 : SL KR A3 c3 w l3) :
    Calls Tryz.prog 3 #[.agg #[.slice A0 l0.length c0, .slice A1 l1.length c1, .slice A2 l2.length c2], .slice A3 l3.length c3] w fun e w' => e = .returned (.bool true) ∧ Below w.heap.size w w' := by
  obtain ⟨P, hP⟩ : ∃ P, P = w.heap.size := ⟨_, rfl⟩
  obtain ⟨w0, hw0⟩ : ∃ w0, w0 = w.alloc (.cells #[.slice A0 l0.length c0, .slice A1 l1.length c1, .slice A2 l2.length c2] 26) := ⟨_, rfl⟩
  have hb : Below w.heap.size w w0 := by rw [hw0]; exact below_alloc (Below.refl _ _) _
  have HK0 : Aside0 (w0.heap[P]? = some (.cells #[.slice A0 l0.length c0, .slice A1 l1.length c1, .slice A2 l2.length c2] 26 (0, 0))) := ⟨by rw [hw0, hP]; exact blk_new w _⟩
  have HX0 := Aside0.mk (h0.below hb)
  have HY0 := Aside0.mk (h1.below hb)
  have HZ0 := Aside0.mk (h2.below hb)
  have HR0 := Aside0.mk (h3.below hb)
  have HB0 := Aside0.mk hb
  clear h0 h1 h2 h3 hb
  obtain ⟨b, hb1, hb2⟩ := thin_ev l0 l1 l2
  obtain ⟨sc, hs1, hs2⟩ := short_ev l3
  have HT := Aside0.mk (And.intro hb1 hb2)
  have HS := Aside0.mk (And.intro hs1 hs2)
  clear hb1 hb2 hs1 hs2
  go_enter Tryz.func3, Tryz.ntmps3
  have hu26 := Tryz.underlying26
  have hKw := HK0.out
  rw [hw0] at hKw
  clear hKw
  have qHK0 : w0.cell? ⟨P, 0, none⟩ = some (.slice A0 l0.length c0) := (blk_cell HK0.out 0).trans rfl
  have qHK1 : w0.cell? ⟨P, 1, none⟩ = some (.slice A1 l1.length c1) := (blk_cell HK0.out 1).trans rfl
  have qHK2 : w0.cell? ⟨P, 2, none⟩ = some (.slice A2 l2.length c2) := (blk_cell HK0.out 2).trans rfl
  have hc := Aside0.mk (thin_c HX0.out HY0.out HZ0.out HT.out.1)
  rw [hw0] at qHK0 qHK1 qHK2
  rw [hP] at qHK0 qHK1 qHK2
  go_wp2_with fail
  rw [← hw0, ← hP]
  have HP := Aside0.mk hP
  clear hP hw0 qHK0 qHK1 qHK2
  refine hc.out.mono ?_
  rintro e w1 ⟨rfl, hb⟩
  clear hc
  have HB1 := Aside0.mk (HB0.out.trans (hb.mono HB0.out.size))
  have HK1 := Aside0.mk (blk_below HK0.out hb)
  have HX1 := Aside0.mk (HX0.out.below hb)
  have HY1 := Aside0.mk (HY0.out.below hb)
  have HZ1 := Aside0.mk (HZ0.out.below hb)
  have HR1 := Aside0.mk (HR0.out.below hb)
  clear hb HB0 HK0 HX0 HY0 HZ0 HR0
  cases b with
  | false =>
    have hc := Aside0.mk (lawake_any w1)
    go_wp2_with fail
    refine hc.out.mono ?_
    rintro e w2 ⟨rfl, hb⟩
    clear hc
    have HB2 := Aside0.mk (HB1.out.trans (hb.mono HB1.out.size))
    have HK2 := Aside0.mk (blk_below HK1.out hb)
    have HX2 := Aside0.mk (HX1.out.below hb)
    have HY2 := Aside0.mk (HY1.out.below hb)
    have HZ2 := Aside0.mk (HZ1.out.below hb)
    have HR2 := Aside0.mk (HR1.out.below hb)
    clear hb HB1 HK1 HX1 HY1 HZ1 HR1
    go_wp2
    go_ret
    exact ⟨rfl, HB2.out⟩
  | true =>
    obtain ⟨t0, t1, t2, t3, t4⟩ := HT.out.2 rfl
    have hc := Aside0.mk (short_c HR1.out HS.out.1)
    go_wp2_with fail
    refine hc.out.mono ?_
    rintro e w2 ⟨rfl, hb⟩
    clear hc
    have HB2 := Aside0.mk (HB1.out.trans (hb.mono HB1.out.size))
    have HK2 := Aside0.mk (blk_below HK1.out hb)
    have HX2 := Aside0.mk (HX1.out.below hb)
    have HY2 := Aside0.mk (HY1.out.below hb)
    have HZ2 := Aside0.mk (HZ1.out.below hb)
    have HR2 := Aside0.mk (HR1.out.below hb)
    clear hb HB1 HK1 HX1 HY1 HZ1 HR1
    cases sc with
    | false =>
      have hc := Aside0.mk (lawake_any w2)
      go_wp2_with fail
      refine hc.out.mono ?_
      rintro e w3 ⟨rfl, hb⟩
      clear hc
      have HB3 := Aside0.mk (HB2.out.trans (hb.mono HB2.out.size))
      have HK3 := Aside0.mk (blk_below HK2.out hb)
      have HX3 := Aside0.mk (HX2.out.below hb)
      have HY3 := Aside0.mk (HY2.out.below hb)
      have HZ3 := Aside0.mk (HZ2.out.below hb)
      have HR3 := Aside0.mk (HR2.out.below hb)
      clear hb HB2 HK2 HX2 HY2 HZ2 HR2
      go_wp2
      go_ret
      exact ⟨rfl, HB3.out⟩
    | true =>
      obtain ⟨s0, s1⟩ := HS.out.2 rfl
      obtain ⟨ps, hps⟩ : ∃ ps, ps = l1.map toP := ⟨_, rfl⟩
      have hpo := (post_ev l0 l1 l2 (by omega) (by omega) (fun x hx => by have := t3 x hx; omega) (by omega) (fun x hx => by have := t4 x hx; omega))
      rw [← hps] at hpo
      have HPO := Aside0.mk hpo
      have HRO := Aside0.mk (rows_ev l3 (by omega) (fun x hx => by have := s1 x hx; omega))
      have hpl := planned_ev l0 l1 l2 l3 (by omega) (by omega) (by omega) (by omega) (fun x hx => by have := s1 x hx; omega)
      have hfa : Ev (fun k => glisterlaw10_fault.f k l0 l1 l2) (postErr l0 (l1.map toP) l2) := Ev.bind (fault_ev l0 l1 l2 (by omega) (by omega) (by omega)) (Ev.now fun _ => rfl)
      obtain ⟨e0, he0⟩ : ∃ e0, e0 = postErr l0 ps l2 := ⟨_, rfl⟩
      obtain ⟨e1, he1⟩ : ∃ e1, e1 = rotaErr l0 ps l2 l3 := ⟨_, rfl⟩
      obtain ⟨rb, hrb⟩ : ∃ rb, rb = (decide (e1 = 0) && rulesS ps 0 l3 std0) := ⟨_, rfl⟩
      rw [← hps, ← he0] at hfa
      rw [← hps, ← he1] at hpl
      have HPS := Aside0.mk hps
      have HPL := Aside0.mk hpl
      have HFA := Aside0.mk hfa
      have HE0 := Aside0.mk he0
      have HE1 := Aside0.mk he1
      have HRB := Aside0.mk hrb
      have HTH := Aside0.mk (And.intro t1 (And.intro s0 s1))
      clear hpo hps hpl hfa he0 he1 hrb t0 t1 t2 t3 t4 s0 s1 HT HS
      have qHK0 : w2.cell? ⟨P, 0, none⟩ = some (.slice A0 l0.length c0) := (blk_cell HK2.out 0).trans rfl
      have qHK1 : w2.cell? ⟨P, 1, none⟩ = some (.slice A1 l1.length c1) := (blk_cell HK2.out 1).trans rfl
      have qHK2 : w2.cell? ⟨P, 2, none⟩ = some (.slice A2 l2.length c2) := (blk_cell HK2.out 2).trans rfl
      have hc := Aside0.mk (post_c HX2.out HY2.out HZ2.out HPO.out)
      go_wp2_with fail
      refine hc.out.mono ?_
      rintro e w3 ⟨B0, d0, B1, d1, B2, d2, rfl, g0, g1, g2, hb⟩
      clear hc qHK0 qHK1 qHK2
      have HB3 := Aside0.mk (HB2.out.trans (hb.mono HB2.out.size))
      have HK3 := Aside0.mk (blk_below HK2.out hb)
      have HX3 := Aside0.mk (HX2.out.below hb)
      have HY3 := Aside0.mk (HY2.out.below hb)
      have HZ3 := Aside0.mk (HZ2.out.below hb)
      have HR3 := Aside0.mk (HR2.out.below hb)
      clear hb HB2 HK2 HX2 HY2 HZ2 HR2
      have HU3 := Aside0.mk g0
      clear g0
      have HV3 := Aside0.mk g1
      clear g1
      have HW3 := Aside0.mk g2
      clear g2
      have hc := Aside0.mk (check_c HU3.out HV3.out HW3.out)
      go_wp2_with fail
      refine hc.out.mono ?_
      rintro e w4 ⟨rfl, hb⟩
      clear hc
      have HB4 := Aside0.mk (HB3.out.trans (hb.mono HB3.out.size))
      have HK4 := Aside0.mk (blk_below HK3.out hb)
      have HX4 := Aside0.mk (HX3.out.below hb)
      have HY4 := Aside0.mk (HY3.out.below hb)
      have HZ4 := Aside0.mk (HZ3.out.below hb)
      have HR4 := Aside0.mk (HR3.out.below hb)
      have HU4 := Aside0.mk (HU3.out.below hb)
      have HV4 := Aside0.mk (HV3.out.below hb)
      have HW4 := Aside0.mk (HW3.out.below hb)
      clear hb HB3 HK3 HX3 HY3 HZ3 HR3 HU3 HV3 HW3
      clear HU4 HV4 HW4
      rw [← HE0.out]
      have qHK0 : w4.cell? ⟨P, 0, none⟩ = some (.slice A0 l0.length c0) := (blk_cell HK4.out 0).trans rfl
      have qHK1 : w4.cell? ⟨P, 1, none⟩ = some (.slice A1 l1.length c1) := (blk_cell HK4.out 1).trans rfl
      have qHK2 : w4.cell? ⟨P, 2, none⟩ = some (.slice A2 l2.length c2) := (blk_cell HK4.out 2).trans rfl
      have hc := Aside0.mk (post_c HX4.out HY4.out HZ4.out HPO.out)
      go_wp2_with fail
      refine hc.out.mono ?_
      rintro e w5 ⟨B0, d0, B1, d1, B2, d2, rfl, g0, g1, g2, hb⟩
      clear hc qHK0 qHK1 qHK2
      have HB5 := Aside0.mk (HB4.out.trans (hb.mono HB4.out.size))
      have HK5 := Aside0.mk (blk_below HK4.out hb)
      have HX5 := Aside0.mk (HX4.out.below hb)
      have HY5 := Aside0.mk (HY4.out.below hb)
      have HZ5 := Aside0.mk (HZ4.out.below hb)
      have HR5 := Aside0.mk (HR4.out.below hb)
      clear hb HB4 HK4 HX4 HY4 HZ4 HR4
      have HU5 := Aside0.mk g0
      clear g0
      have HV5 := Aside0.mk g1
      clear g1
      have HW5 := Aside0.mk g2
      clear g2
      have hc := Aside0.mk (rows_c HR5.out HRO.out)
      go_wp2_with fail
      refine hc.out.mono ?_
      rintro e w6 ⟨A, c, rfl, g3, hb⟩
      clear hc
      have HB6 := Aside0.mk (HB5.out.trans (hb.mono HB5.out.size))
      have HK6 := Aside0.mk (blk_below HK5.out hb)
      have HX6 := Aside0.mk (HX5.out.below hb)
      have HY6 := Aside0.mk (HY5.out.below hb)
      have HZ6 := Aside0.mk (HZ5.out.below hb)
      have HR6 := Aside0.mk (HR5.out.below hb)
      have HU6 := Aside0.mk (HU5.out.below hb)
      have HV6 := Aside0.mk (HV5.out.below hb)
      have HW6 := Aside0.mk (HW5.out.below hb)
      clear hb HB5 HK5 HX5 HY5 HZ5 HR5 HU5 HV5 HW5
      have HQ6 := Aside0.mk g3
      clear g3
      have hc := Aside0.mk (rules_c HU6.out HV6.out HW6.out HQ6.out)
      go_wp2_with fail
      refine hc.out.mono ?_
      rintro e w7 ⟨rfl, hb⟩
      clear hc
      have HB7 := Aside0.mk (HB6.out.trans (hb.mono HB6.out.size))
      have HK7 := Aside0.mk (blk_below HK6.out hb)
      have HX7 := Aside0.mk (HX6.out.below hb)
      have HY7 := Aside0.mk (HY6.out.below hb)
      have HZ7 := Aside0.mk (HZ6.out.below hb)
      have HR7 := Aside0.mk (HR6.out.below hb)
      have HU7 := Aside0.mk (HU6.out.below hb)
      have HV7 := Aside0.mk (HV6.out.below hb)
      have HW7 := Aside0.mk (HW6.out.below hb)
      have HQ7 := Aside0.mk (HQ6.out.below hb)
      clear hb HB6 HK6 HX6 HY6 HZ6 HR6 HU6 HV6 HW6 HQ6
      clear HU7 HV7 HW7 HQ7
      rw [← HE1.out, ← HRB.out]
      have qHK0 : w7.cell? ⟨P, 0, none⟩ = some (.slice A0 l0.length c0) := (blk_cell HK7.out 0).trans rfl
      have qHK1 : w7.cell? ⟨P, 1, none⟩ = some (.slice A1 l1.length c1) := (blk_cell HK7.out 1).trans rfl
      have qHK2 : w7.cell? ⟨P, 2, none⟩ = some (.slice A2 l2.length c2) := (blk_cell HK7.out 2).trans rfl
      have hc := Aside0.mk (planned_c HX7.out HY7.out HZ7.out HR7.out HPL.out)
      go_wp2_with fail
      refine hc.out.mono ?_
      rintro e w8 ⟨rfl, hb⟩
      clear hc qHK0 qHK1 qHK2
      have HB8 := Aside0.mk (HB7.out.trans (hb.mono HB7.out.size))
      have HK8 := Aside0.mk (blk_below HK7.out hb)
      have HX8 := Aside0.mk (HX7.out.below hb)
      have HY8 := Aside0.mk (HY7.out.below hb)
      have HZ8 := Aside0.mk (HZ7.out.below hb)
      have HR8 := Aside0.mk (HR7.out.below hb)
      clear hb HB7 HK7 HX7 HY7 HZ7 HR7
      have qHK0 : w8.cell? ⟨P, 0, none⟩ = some (.slice A0 l0.length c0) := (blk_cell HK8.out 0).trans rfl
      have qHK1 : w8.cell? ⟨P, 1, none⟩ = some (.slice A1 l1.length c1) := (blk_cell HK8.out 1).trans rfl
      have qHK2 : w8.cell? ⟨P, 2, none⟩ = some (.slice A2 l2.length c2) := (blk_cell HK8.out 2).trans rfl
      have hc := Aside0.mk (fault_c HX8.out HY8.out HZ8.out HFA.out)
      go_wp2_with fail
      refine hc.out.mono ?_
      rintro e w9 ⟨rfl, hb⟩
      clear hc qHK0 qHK1 qHK2
      have HB9 := Aside0.mk (HB8.out.trans (hb.mono HB8.out.size))
      have HK9 := Aside0.mk (blk_below HK8.out hb)
      have HX9 := Aside0.mk (HX8.out.below hb)
      have HY9 := Aside0.mk (HY8.out.below hb)
      have HZ9 := Aside0.mk (HZ8.out.below hb)
      have HR9 := Aside0.mk (HR8.out.below hb)
      clear hb HB8 HK8 HX8 HY8 HZ8 HR8
      by_cases hz : e1 = 0
      · have bz : (e1 == 0) = true := by rw [hz]; rfl
        subst hz
        have he1 := HE1.out.symm
        rw [HPS.out] at he1
        have hs := rules_same l0 l1 l2 l3 he1
        have hrv : rb = (List.range l1.length).all fun i => perB (l1.getD i z119) l3 i := by rw [HRB.out, HPS.out, hs]; rfl
        have hr := refrules_ev l0 l1 l2 l3 (by have := HTH.out.1; omega) (by have := HTH.out.2.1; omega) (fun x hx => by have := HTH.out.2.2 x hx; omega) (rota_able he1)
        rw [← hrv] at hr
        have HRR := Aside0.mk hr
        clear hs hrv hr he1
        have qHK0 : w9.cell? ⟨P, 0, none⟩ = some (.slice A0 l0.length c0) := (blk_cell HK9.out 0).trans rfl
        have qHK1 : w9.cell? ⟨P, 1, none⟩ = some (.slice A1 l1.length c1) := (blk_cell HK9.out 1).trans rfl
        have qHK2 : w9.cell? ⟨P, 2, none⟩ = some (.slice A2 l2.length c2) := (blk_cell HK9.out 2).trans rfl
        have hc := Aside0.mk (refrules_c HX9.out HY9.out HZ9.out HR9.out HRR.out)
        go_wp2_with fail
        refine hc.out.mono ?_
        rintro e w10 ⟨rfl, hb⟩
        clear hc qHK0 qHK1 qHK2
        have HB10 := Aside0.mk (HB9.out.trans (hb.mono HB9.out.size))
        have HK10 := Aside0.mk (blk_below HK9.out hb)
        have HX10 := Aside0.mk (HX9.out.below hb)
        have HY10 := Aside0.mk (HY9.out.below hb)
        have HZ10 := Aside0.mk (HZ9.out.below hb)
        have HR10 := Aside0.mk (HR9.out.below hb)
        clear hb HB9 HK9 HX9 HY9 HZ9 HR9
        have hc := Aside0.mk (lawake_any w10)
        go_wp2_with fail
        refine hc.out.mono ?_
        rintro e w11 ⟨rfl, hb⟩
        clear hc
        have HB11 := Aside0.mk (HB10.out.trans (hb.mono HB10.out.size))
        have HK11 := Aside0.mk (blk_below HK10.out hb)
        have HX11 := Aside0.mk (HX10.out.below hb)
        have HY11 := Aside0.mk (HY10.out.below hb)
        have HZ11 := Aside0.mk (HZ10.out.below hb)
        have HR11 := Aside0.mk (HR10.out.below hb)
        clear hb HB10 HK10 HX10 HY10 HZ10 HR10
        go_wp2
        go_ret
        exact ⟨rfl, HB11.out⟩
      · have bz : (e1 == 0) = false := by rw [beq_eq_false_iff_ne]; exact hz
        have hrv : rb = false := by rw [HRB.out, decide_eq_false hz]; rfl
        subst hrv
        have hc := Aside0.mk (lawake_any w9)
        go_wp2_with fail
        refine hc.out.mono ?_
        rintro e w10 ⟨rfl, hb⟩
        clear hc
        have HB10 := Aside0.mk (HB9.out.trans (hb.mono HB9.out.size))
        have HK10 := Aside0.mk (blk_below HK9.out hb)
        have HX10 := Aside0.mk (HX9.out.below hb)
        have HY10 := Aside0.mk (HY9.out.below hb)
        have HZ10 := Aside0.mk (HZ9.out.below hb)
        have HR10 := Aside0.mk (HR9.out.below hb)
        clear hb HB9 HK9 HX9 HY9 HZ9 HR9
        go_wp2
        go_ret
        exact ⟨rfl, HB10.out⟩
theorem rotaRules_calls {A0 A1 A2 A3 : Option Addr} {c0 c1 c2 c3 : Nat} {w : World} {l0 : List Int} {l1 : List S119} {l2 l3 : List (List Int)} (h0 : Kd.C (Kd.int .i64) w A0 l0.length l0) (e0 : l0.length ≤ c0) (h1 : Kd.C k119 w A1 l1.length l1) (e1 : l1.length ≤ c1) (h2 : Kd.C KR w A2 l2.length l2) (e2 : l2.length ≤ c2) (h3 : Kd.C KR w A3 l3.length l3) (e3 : l3.length ≤ c3) :
    Calls Tryz.prog 3 #[.agg #[.slice A0 l0.length c0, .slice A1 l1.length c1, .slice A2 l2.length c2], .slice A3 l3.length c3] w fun e w' => e = .returned (.bool true) ∧ Below w.heap.size w w' := rotaRules_walk ⟨e0, h0⟩ ⟨e1, h1⟩ ⟨e2, h2⟩ ⟨e3, h3⟩
end Go.Proofs.YtekdacalkllipaaGreat.PR
end
section
/- What a given input reads as, deep: the claim's reading opened in the words of the contracts. -/
namespace Go.Proofs.YtekdacalkllipaaGreat.PR
open Go.RowKit Go.Proofs.YtekdacalkllipaaGreatW.PrintWords Go.Proofs.YtekdacalkllipaaGreatW.PrintLast Go.ChangeShapes Go.WideShapes Go.Deep
set_option linter.unusedVariables false
set_option maxRecDepth 100000

/-- Whatever is read at a type reads in the contracts' words, too. -/
def Opens {α : Type} (P : Program) (d : Kd α) (t : TypeId) : Prop :=
  ∀ {H : Type} (enc : TypeId × Value → H) (w : World) (base : Nat) (spare : Nat → Bool) (held : Bool) (fuel : Nat) (cs : List Value) (x : DataW H × List MemPlace),
    DataW.trod enc P w base spare held fuel t cs = some x → ∃ p, d.K w p cs
theorem opens_bool {P : Program} {t : TypeId} (ht : P.underlying t = some .bool) : Opens P Kd.bool t := fun enc w base spare held fuel cs x h => by
  obtain ⟨b, rfl, _⟩ := DataW.trod_bool ht h
  exact ⟨b, rfl⟩
theorem opens_int {P : Program} {t : TypeId} {k : IntKind} (ht : P.underlying t = some (.int k)) : Opens P (Kd.int k) t := fun enc w base spare held fuel cs x h => by
  obtain ⟨n, rfl, _⟩ := DataW.trod_int ht h
  exact ⟨n, rfl⟩
theorem opens_slice {P : Program} {α : Type} [Inhabited α] {d : Kd α} {t e : TypeId} (ht : P.underlying t = some (.slice e)) (hd : Opens P d e) (hs : P.cellsOf e = d.sz) : Opens P (Kd.slice e d) t := fun enc w base spare held fuel cs x h => by
  rcases open_slice ht h with ⟨rfl, rfl⟩ | ⟨a, len, cap, m, n, D, Pl, rfl, hb, hl, hm, hmm, rfl, hx⟩
  · exact ⟨[], none, 0, rfl, Nat.le_refl _, rfl, by simp, fun h => absurd h (by simp)⟩
  · have hlm : len ≤ m := by rw [hmm]; split <;> omega
    obtain ⟨p, hp⟩ := choose_lt (α := α) (p := fun i p => ∃ cs', w.cells? base (a.add (i * P.cellsOf e)) (P.cellsOf e) = some cs' ∧ d.K w p cs') (n := len) (fun i hi => by
      obtain ⟨cs', h1, h2⟩ := hx i (by omega)
      obtain ⟨p, hp⟩ := hd enc w base spare held n cs' _ h2
      exact ⟨p, cs', h1, hp⟩)
    refine ⟨(List.range len).map p, some a, cap, by simp, by simpa using hl, by simp, by unfold maxLen at hm; simp; omega, fun h0 => ⟨a, rfl, fun j q hj => ?_⟩⟩
    have hj' : j < len := by
      rcases Nat.lt_or_ge j len with h | h
      · exact h
      · rw [List.getElem?_eq_none (by simpa using h)] at hj; cases hj
    rw [List.getElem?_map, List.getElem?_range hj'] at hj
    cases hj
    obtain ⟨cs', h1, h2⟩ := hp j hj'
    obtain ⟨_, hlen, hc⟩ := World.cells?_some h1
    refine ⟨cs', by rw [hlen, hs], h2, fun i u hi => ?_⟩
    have hil : i < P.cellsOf e := by
      rw [← hlen]
      rcases Nat.lt_or_ge i cs'.length with h | h
      · exact h
      · rw [List.getElem?_eq_none h] at hi; cases hi
    have := hc i hil
    rw [hi, Go.Deep.add_add, hs] at this
    exact this
instance : Inhabited S119 := ⟨z119⟩
theorem opens_person : Opens Tryz.prog k119 119 := fun enc w base spare held fuel cs x h => by
  obtain ⟨xs, n, _, _, hl, hxl, hf⟩ := DataW.trod_struct Tryz.underlying119 h
  have hc : Tryz.prog.cellsOf 119 = 3 := by kernel_rfl
  rw [hc] at hl
  match cs, hl with
  | [a, b, c], _ =>
    match xs, hxl with
    | [x0, x1, x2], _ =>
      have f0 : DataW.trod enc Tryz.prog w base spare held n 73 (List.take (Tryz.prog.cellsOf 73) (List.drop 0 [a, b, c])) = some x0 := hf 0 _ rfl
      have f1 : DataW.trod enc Tryz.prog w base spare held n 3 (List.take (Tryz.prog.cellsOf 3) (List.drop 1 [a, b, c])) = some x1 := hf 1 _ rfl
      have f2 : DataW.trod enc Tryz.prog w base spare held n 3 (List.take (Tryz.prog.cellsOf 3) (List.drop 2 [a, b, c])) = some x2 := hf 2 _ rfl
      rw [show Tryz.prog.cellsOf 73 = 1 by kernel_rfl] at f0
      rw [show Tryz.prog.cellsOf 3 = 1 by kernel_rfl] at f1 f2
      obtain ⟨p0, A0, c0, e0, h0, g0⟩ := opens_slice Tryz.underlying73 (opens_bool Tryz.underlying4) (by kernel_rfl) enc w base spare held n _ _ f0
      obtain ⟨p1, e1⟩ := opens_int Tryz.underlying3 enc w base spare held n _ _ f1
      obtain ⟨p2, e2⟩ := opens_int Tryz.underlying3 enc w base spare held n _ _ f2
      cases e0
      cases e1
      cases e2
      exact ⟨⟨p0, p1, p2⟩, k119_mk w ⟨p0, p1, p2⟩ h0 g0⟩
theorem opens_ints : Opens Tryz.prog (Kd.slice 3 (Kd.int .i64)) 22 := opens_slice Tryz.underlying22 (opens_int Tryz.underlying3) (by kernel_rfl)
theorem opens_rows : Opens Tryz.prog (Kd.slice 22 (Kd.slice 3 (Kd.int .i64))) 24 := opens_slice Tryz.underlying24 opens_ints (by kernel_rfl)
theorem opens_people : Opens Tryz.prog (Kd.slice 119 k119) 23 := opens_slice Tryz.underlying23 opens_person (by kernel_rfl)
/-- A given post (the reference's own). -/
theorem open_post {H : Type} {enc : TypeId × Value → H} {w : World} {base : Nat} {spare : Nat → Bool} {held : Bool} {fuel : Nat} {cs : List Value} {x : DataW H × List MemPlace} (h : DataW.trod enc Tryz.prog w base spare held fuel 26 cs = some x) :
    ∃ A0 c0 l0 A1 c1 l1 A2 c2 l2, cs = [.slice A0 l0.length c0, .slice A1 l1.length c1, .slice A2 l2.length c2] ∧ Kd.C (Kd.int .i64) w A0 l0.length l0 ∧ l0.length ≤ c0 ∧ Kd.C k119 w A1 l1.length l1 ∧ l1.length ≤ c1 ∧ Kd.C (Kd.slice 3 (Kd.int .i64)) w A2 l2.length l2 ∧ l2.length ≤ c2 := by
  obtain ⟨xs, n, _, _, hl, hxl, hf⟩ := DataW.trod_struct Tryz.underlying26 h
  have hc : Tryz.prog.cellsOf 26 = 3 := by kernel_rfl
  rw [hc] at hl
  match cs, hl with
  | [a, b, c], _ =>
    match xs, hxl with
    | [x0, x1, x2], _ =>
      have f0 : DataW.trod enc Tryz.prog w base spare held n 22 (List.take (Tryz.prog.cellsOf 22) (List.drop 0 [a, b, c])) = some x0 := hf 0 _ rfl
      have f1 : DataW.trod enc Tryz.prog w base spare held n 23 (List.take (Tryz.prog.cellsOf 23) (List.drop 1 [a, b, c])) = some x1 := hf 1 _ rfl
      have f2 : DataW.trod enc Tryz.prog w base spare held n 24 (List.take (Tryz.prog.cellsOf 24) (List.drop 2 [a, b, c])) = some x2 := hf 2 _ rfl
      rw [show Tryz.prog.cellsOf 22 = 1 by kernel_rfl] at f0
      rw [show Tryz.prog.cellsOf 23 = 1 by kernel_rfl] at f1
      rw [show Tryz.prog.cellsOf 24 = 1 by kernel_rfl] at f2
      obtain ⟨p0, A0, c0, e0, h0, g0⟩ := opens_ints enc w base spare held n _ _ f0
      obtain ⟨p1, A1, c1, e1, h1, g1⟩ := opens_people enc w base spare held n _ _ f1
      obtain ⟨p2, A2, c2, e2, h2, g2⟩ := opens_rows enc w base spare held n _ _ f2
      cases e0
      cases e1
      cases e2
      exact ⟨A0, c0, p0, A1, c1, p1, A2, c2, p2, rfl, g0, h0, g1, h1, g2, h2⟩
/-- A given list of lists. -/
theorem open_rows {H : Type} {enc : TypeId × Value → H} {w : World} {base : Nat} {spare : Nat → Bool} {held : Bool} {fuel : Nat} {cs : List Value} {x : DataW H × List MemPlace} (h : DataW.trod enc Tryz.prog w base spare held fuel 24 cs = some x) :
    ∃ A c l, cs = [.slice A l.length c] ∧ Kd.C (Kd.slice 3 (Kd.int .i64)) w A l.length l ∧ l.length ≤ c := by
  obtain ⟨p, A, c, e, h, g⟩ := opens_rows enc w base spare held fuel cs x h
  exact ⟨A, c, p, e, g, h⟩
end Go.Proofs.YtekdacalkllipaaGreat.PR
end
section
/- The row of RotaRules. -/
namespace Go.Proofs.YtekdacalkllipaaGreat.rotaRules
open Go.ChangeShapes Go.WideShapes Go.ChangeAt Go.RowKit Go.Proofs.YtekdacalkllipaaGreat.PR Go.Proofs.YtekdacalkllipaaGreatW.PrintWords
set_option linter.unusedVariables false
theorem own : ownKnob Tryz.prog.godebug = none := by kernel_rfl
theorem laidOut : laidOutB Tryz.prog = true := by kernel_rfl
set_option maxRecDepth 100000 in
theorem lifted (os : Os) (started : os.Started) (H : Type) (enc : TypeId × Value → H) :
    ReturnsInHanded {} Tryz.checked os 3 .any (Rows.rotaRulesSpec.pre6 enc Tryz.prog Tryz.f3 Rows.rotaRulesRow.domain false) (Rows.rotaRulesSpec.post enc Tryz.prog Tryz.f3 false true false false) := by
  refine returnsInHanded_of_change_sized (C := Tryz.checked) own started (by kernel_rfl) Tryz.func3
    (ChangeSpec.witness6 (enc := enc) (C := Tryz.checked) false ⟨#[], #[.agg #[.slice none 0 0, .slice none 0 0, .slice none 0 0], .slice none 0 0], []⟩ 8 (by kernel_rfl) (by kernel_rfl) (by kernel_rfl) (by kernel_rfl)) ?_
  intro W base args ds gs before hval0 hW hcnd hsz0 _
  have hval : ∀ (j : Nat) t v, Tryz.f3.params[j]? = some t → args[j]? = some v → Value.okWide Tryz.prog W .any base t v := hval0
  have hW' := hW
  obtain ⟨p, q, hA0, hV, rfl, hfz, hnd⟩ := hW
  have hA : DataW.TrodAll enc Tryz.prog W 0 (fun _ => true) true Tryz.f3.params.toList args.toList ds p := hA0
  rw [Tryz.params3] at hA hval
  obtain ⟨v0, vs0, d0, ds0, p0, q0, hargs, rfl, rfl, h0, r0⟩ := trodAll_cons hA
  obtain ⟨v1, vs1, d1, ds1, p1, q1, rfl, rfl, rfl, h1, r1⟩ := trodAll_cons r0
  obtain ⟨rfl, rfl, rfl⟩ := trodAll_nil r1
  obtain rfl : args = #[v0, v1] := by cases args; simp_all
  obtain ⟨rfl, rfl⟩ := trodVars_none hV
  have k0 := h0
  have lt0 : ∀ x ∈ p0, x.block < W.heap.size := by obtain ⟨m, hm⟩ := k0; exact DataW.trod_lt m _ _ _ hm
  obtain ⟨cs0, rfl, _⟩ := okWide_struct Tryz.underlying26 (hval 0 26 v0 rfl rfl)
  obtain ⟨fuel0, hf0⟩ := h0
  obtain ⟨A0_0, c0_0, l0_0, A0_1, c0_1, l0_1, A0_2, c0_2, l0_2, hcs0, g0_0, e0_0, g0_1, e0_1, g0_2, e0_2⟩ := open_post hf0
  obtain rfl : cs0 = #[.slice A0_0 l0_0.length c0_0, .slice A0_1 l0_1.length c0_1, .slice A0_2 l0_2.length c0_2] := Array.ext' hcs0
  have k1 := h1
  have lt1 : ∀ x ∈ p1, x.block < W.heap.size := by obtain ⟨m, hm⟩ := k1; exact DataW.trod_lt m _ _ _ hm
  obtain ⟨a1, len1, cap1, rfl⟩ := okWide_slice Tryz.underlying24 (hval 1 24 v1 rfl rfl)
  obtain ⟨fuel1, hf1⟩ := h1
  obtain ⟨A1, c1, l1, hcs1, g1, e1⟩ := open_rows hf1
  simp [Value.cells] at hcs1
  obtain ⟨rfl, rfl, rfl⟩ := hcs1
  clear hA0 hval0 hsz0
  refine (rotaRules_calls g0_0 e0_0 g0_1 e0_1 g0_2 e0_2 g1 e1).mono fun e W' ⟨he, bel⟩ => ?_
  subst he
  exact ⟨_, rfl, _, _, _, [], _, [], hW', trodAll_mk1 (shut_bool Tryz.underlying4 _), (trodAll_cons_mk (Below.trod laidOut (by kernel_rfl) (of_decide_eq_true (by kernel_rfl)) k0 bel lt0) (trodAll_cons_mk (Below.trod laidOut (by kernel_rfl) (of_decide_eq_true (by kernel_rfl)) k1 bel lt1) trodAll_mk0)), rfl, bel.frame _, fun h => by cases h⟩
theorem over : Rows.rotaRulesRow.holds Tryz.pinned (OpenSpec.ofChange Rows.rotaRulesSpec) :=
  OpenClaim.holds_of_wide 3 Tryz.f3 rfl rfl rfl rfl rfl rfl rfl ⟨rfl, rfl, rfl, rfl, rfl⟩ rfl rfl rfl rfl rfl (by kernel_rfl) Tryz.func3 (by kernel_rfl)
    (of_decide_eq_true (by kernel_rfl)) (by unfold Func.isWrapper; first | (rw [if_pos (by decide +kernel)]; kernel_rfl) | (rw [if_neg (by decide +kernel)]; exact ⟨rfl, rfl⟩))
    (fun os started H enc _ => lifted os started H enc)
theorem proved : Rows.RotaRulesSaid := over
end Go.Proofs.YtekdacalkllipaaGreat.rotaRules
namespace Go.Proofs.YtekdacalkllipaaGreat
/-- The row, under a short name, for the claim. -/
theorem rotaRules_holds : Rows.RotaRulesSaid := rotaRules.proved
end Go.Proofs.YtekdacalkllipaaGreat
end
