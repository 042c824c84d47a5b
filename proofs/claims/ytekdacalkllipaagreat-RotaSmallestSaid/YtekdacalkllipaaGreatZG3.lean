/- YtekdacalkllipaaGreat: part 3 of the proof of the theorem rotaSmallest_holds, for every input. -/
import Derived.DeepKeys
import Derived.Lib.AppendZeros
import Derived.Lib.AppendZerosOnto
import Derived.Lib.SliceRun
import Derived.Lib.Walk
import Derived.LoopIn
import Derived.LoopNIn
import Derived.Outline
import Derived.OwnWalkIn
import Derived.RangeFuncBound
import Derived.RangeFuncCalls
import Derived.RangeFuncLeaves
import Derived.RangeFuncNested
import Derived.RangeFuncOwn
import Derived.Shelf.Abstract
import Derived.Shelf.RegionOpen
import Derived.Shelf.SlSortCmp.NoneTotal
import Derived.Shelf.Slices.Turned
import Derived.Sort.QuietIn
import Derived.TacticsInMore
import Derived.Test.YtekdacalkllipaaGreatProg
import Derived.WalkSpells
import Derived.Test.YtekdacalkllipaaGreatZG2
section
namespace Go.Proofs.YtekdacalkllipaaGreat.PR
open Go.RowKit Go.Shelf Go.Proofs.YtekdacalkllipaaGreatW.PrintWords Go.Proofs.YtekdacalkllipaaGreatW.PrintLast Go.Proofs.YtekdacalkllipaaGreatW.PrintMore
set_option linter.unusedVariables false
set_option linter.unusedSimpArgs false
theorem grown_trans {a b c : World} {row : Option Nat} (h : a.grownBy b row) (k : b.grownBy c row) : a.grownBy c row := World.grownBy.trans h k
theorem grown_self (a : World) (row : Option Nat) : a.grownBy a row := ⟨rfl, rfl, rfl, Nat.le_refl _, fun _ _ _ => rfl⟩
theorem C_len {α : Type} {d : Kd α} {w : World} {A : Option Addr} {n : Nat} {xs : List α} (h : d.C w A n xs) : n ≤ 9223372036854775807 := h.2.1
set_option maxHeartbeats 1000000 in
theorem idxI_calls (A0 : Option Addr) (c0 : Nat) (xs : List Int) (g : Nat) (bd cb : Array Value) (eg : ∀ args w, (callFunc g args).run Tryz.prog w = .ok (.enter g args) w)
    (w : World) (row : Option Nat) (J : Nat → World → Prop) (Jx : Nat → World → Prop)
    (hread : ∀ i W, J i W → (Kd.int .i64).C W A0 xs.length xs)
    (hf : ∀ (i : Nat) W, i < xs.length → J i W → Calls Tryz.prog g (bd.push (.int .i64 (rd xs i)) ++ cb) W fun e W' => W.grownBy W' row ∧ ((e = .returned (.bool false) ∧ J (i + 1) W') ∨ (e = .returned (.bool true) ∧ Jx i W')))
    (h0 : J 0 w) :
    Calls Tryz.prog 152 #[.slice A0 xs.length c0, .func (.func g) bd cb] w fun e w' => w.grownBy w' row ∧ ((e = .returned (.int .i64 (-1)) ∧ J xs.length w') ∨ ∃ i : Nat, i < xs.length ∧ e = .returned (.int .i64 i) ∧ Jx i w') := by
  have hbig := C_len (hread 0 w h0)
  have H0 := Aside0.mk h0
  clear h0
  go_enter Tryz.func152, Tryz.ntmps152
  go_wp2
  go_loopg [5, 8] xs.length (fun gg _ s8 wr => ∃ kk : Nat, kk ≤ xs.length ∧ xs.length - kk ≤ gg ∧ s8 = .int .i64 kk ∧ Aside0 (J kk wr) ∧ Aside0 (w.grownBy wr row))
  case atStart => exact ⟨0, Nat.zero_le _, by omega, rfl, H0, ⟨grown_self _ _⟩⟩
  case round =>
    obtain ⟨kk, hkk, hg, rfl, hJ, hgr⟩ := hrel
    by_cases hlt : kk < xs.length
    · have hltz : (kk : Int) < (xs.length : Int) := by omega
      obtain ⟨ad, e0, hx⟩ := Kd.at_int (hread kk wr hJ.out) (kk : Int) (by omega) (by omega)
      cases e0
      have hcall := hf kk wr hlt hJ.out
      have HC := Aside0.mk hcall
      clear hcall hf hread
      have hx' : wr.cell? (ad.add kk) = some (.int .i64 (rd xs kk)) := hx
      clear hx
      go_wp2_with fail
      refine HC.out.mono ?_
      rintro e W' ⟨hgr', (⟨rfl, hJ'⟩ | ⟨rfl, hJx⟩)⟩
      · have HJ' := Aside0.mk hJ'
        have HG' := Aside0.mk hgr'
        clear hJ' hgr' HC
        go_wp2
        go_roundg (xs.length - (kk + 1))
        case measure => omega
        case rel => exact ⟨kk + 1, by omega, by omega, by go_num, HJ', ⟨grown_trans hgr.out HG'.out⟩⟩
      · have HJx := Aside0.mk hJx
        have HG' := Aside0.mk hgr'
        clear hJx hgr' HC
        go_wp2
        go_ret
        exact ⟨grown_trans hgr.out HG'.out, .inr ⟨kk, hlt, rfl, HJx.out⟩⟩
    · have hltz : ¬ (kk : Int) < (xs.length : Int) := by omega
      have : kk = xs.length := by omega
      subst this
      go_wp2
      go_ret
      exact ⟨hgr.out, .inl ⟨rfl, hJ.out⟩⟩
set_option maxHeartbeats 1000000 in
theorem cfI_calls (A0 : Option Addr) (c0 : Nat) (xs : List Int) (g : Nat) (bd cb : Array Value) (eg : ∀ args w, (callFunc g args).run Tryz.prog w = .ok (.enter g args) w)
    (w : World) (row : Option Nat) (J : Nat → World → Prop) (Jx : Nat → World → Prop)
    (hread : ∀ i W, J i W → (Kd.int .i64).C W A0 xs.length xs)
    (hf : ∀ (i : Nat) W, i < xs.length → J i W → Calls Tryz.prog g (bd.push (.int .i64 (rd xs i)) ++ cb) W fun e W' => W.grownBy W' row ∧ ((e = .returned (.bool false) ∧ J (i + 1) W') ∨ (e = .returned (.bool true) ∧ Jx i W')))
    (h0 : J 0 w) :
    Calls Tryz.prog 120 #[.slice A0 xs.length c0, .func (.func g) bd cb] w fun e w' => w.grownBy w' row ∧ ((e = .returned (.bool false) ∧ J xs.length w') ∨ ∃ i : Nat, i < xs.length ∧ e = .returned (.bool true) ∧ Jx i w') := by
  have HC := Aside0.mk (idxI_calls A0 c0 xs g bd cb eg w row J Jx hread hf h0)
  clear hread hf h0 eg
  go_enter Tryz.func120, Tryz.ntmps120
  go_wp2_with fail
  refine HC.out.mono ?_
  rintro e W' ⟨hg, (⟨rfl, hJ⟩ | ⟨i, hi, rfl, hJ⟩)⟩
  · have HJ := Aside0.mk hJ
    have HG := Aside0.mk hg
    clear hJ hg HC
    go_wp2
    go_ret
    exact ⟨HG.out, .inl ⟨rfl, HJ.out⟩⟩
  · have HJ := Aside0.mk hJ
    have HG := Aside0.mk hg
    clear hJ hg HC
    go_wp2
    go_ret
    exact ⟨HG.out, .inr ⟨i, hi, rfl, HJ.out⟩⟩
theorem blk_grown {w w' : World} {row : Option Nat} {b : Nat} {o : Obj} (h : w.heap[b]? = some o) (hg : w.grownBy w' row) (hne : ∀ k, row = some k → k ≠ b) : w'.heap[b]? = some o :=
  (hg.block b (Array.getElem?_eq_some_iff.1 h).1 (fun e => hne b e.symm rfl)).trans h
set_option maxHeartbeats 1000000 in
theorem allI_calls (A0 : Option Addr) (c0 : Nat) (xs : List Int) (g : Nat) (bd cb : Array Value) (eg : ∀ args w, (callFunc g args).run Tryz.prog w = .ok (.enter g args) w)
    (w : World) (row : Option Nat) (hrow : ∀ k, row = some k → k < w.heap.size) (J : Nat → World → Prop) (Jx : Nat → World → Prop)
    (hread : ∀ i W, J i W → (Kd.int .i64).C W A0 xs.length xs)
    (hf : ∀ (i : Nat) W, i < xs.length → J i W → Calls Tryz.prog g (bd.push (.int .i64 (rd xs i)) ++ cb) W fun e W' => W.grownBy W' row ∧ ((e = .returned (.bool true) ∧ J (i + 1) W') ∨ (e = .returned (.bool false) ∧ Jx i W')))
    (h0 : ∀ o, J 0 (w.alloc o)) :
    Calls Tryz.prog 73 #[.slice A0 xs.length c0, .func (.func g) bd cb] w fun e w' => w.grownBy w' row ∧ ((e = .returned (.bool true) ∧ J xs.length w') ∨ ∃ i : Nat, i < xs.length ∧ e = .returned (.bool false) ∧ Jx i w') := by
  have hcl : ∀ (i : Nat) W, i < xs.length → (J i W ∧ W.heap[w.heap.size]? = some (.cells #[.func (.func g) bd cb] 126 (0, 0))) →
      Calls Tryz.prog 121 ((#[] : Array Value).push (.int .i64 (rd xs i)) ++ #[.pointer (some ⟨w.heap.size, 0, none⟩)]) W fun e W' => W.grownBy W' row ∧ ((e = .returned (.bool false) ∧ (J (i + 1) W' ∧ W'.heap[w.heap.size]? = some (.cells #[.func (.func g) bd cb] 126 (0, 0)))) ∨ (e = .returned (.bool true) ∧ Jx i W')) := by
    rintro i W hi ⟨hJ, hb⟩
    have HC := Aside0.mk (hf i W hi hJ)
    have hcell : W.cell? ⟨w.heap.size, 0, none⟩ = some (.func (.func g) bd cb) := (blk_cell hb 0).trans rfl
    have HB := Aside0.mk hb
    clear hb hf hread h0 hJ
    simp only [List.push_toArray, List.append_toArray, List.nil_append, List.cons_append]
    go_enter Tryz.func121, Tryz.ntmps121
    go_wp2_with fail
    refine HC.out.mono ?_
    rintro e W' ⟨hg, (⟨rfl, hJ⟩ | ⟨rfl, hJ⟩)⟩
    · have HJ := Aside0.mk hJ
      have HG := Aside0.mk hg
      clear hJ hg HC hcell
      go_wp2
      go_ret
      exact ⟨HG.out, .inl ⟨rfl, HJ.out, blk_grown HB.out HG.out (fun k e => by have := hrow k e; omega)⟩⟩
    · have HJ := Aside0.mk hJ
      have HG := Aside0.mk hg
      clear hJ hg HC hcell
      go_wp2
      go_ret
      exact ⟨HG.out, .inr ⟨rfl, HJ.out⟩⟩
  have HC := Aside0.mk (cfI_calls A0 c0 xs 121 #[] #[.pointer (some ⟨w.heap.size, 0, none⟩)] (enters_of Tryz.func121 (by kernel_rfl) rfl) (w.alloc (.cells #[.func (.func g) bd cb] 126)) row
    (fun i W => J i W ∧ W.heap[w.heap.size]? = some (.cells #[.func (.func g) bd cb] 126 (0, 0))) Jx (fun i W h => hread i W h.1) hcl ⟨h0 _, blk_new w _⟩)
  clear hcl hread hf h0 eg
  go_enter Tryz.func73, Tryz.ntmps73
  go_wp2_with fail
  refine HC.out.mono ?_
  rintro e W' ⟨hg, (⟨rfl, hJ⟩ | ⟨i, hi, rfl, hJ⟩)⟩
  · have HJ := Aside0.mk hJ.1
    have HG := Aside0.mk (grown_trans (World.grownBy_alloc w _ row) hg)
    clear hJ hg HC
    go_wp2
    go_ret
    exact ⟨HG.out, .inl ⟨rfl, HJ.out⟩⟩
  · have HJ := Aside0.mk hJ
    have HG := Aside0.mk (grown_trans (World.grownBy_alloc w _ row) hg)
    clear hJ hg HC
    go_wp2
    go_ret
    exact ⟨HG.out, .inr ⟨i, hi, rfl, HJ.out⟩⟩
end Go.Proofs.YtekdacalkllipaaGreat.PR
end
section
namespace Go.Proofs.YtekdacalkllipaaGreat.PR
open Go.RowKit Go.Shelf Go.Proofs.YtekdacalkllipaaGreatW.PrintWords Go.Proofs.YtekdacalkllipaaGreatW.PrintLast Go.Proofs.YtekdacalkllipaaGreatW.PrintMore
set_option linter.unusedVariables false
set_option linter.unusedSimpArgs false
set_option maxHeartbeats 2000000 in
theorem idxP_calls (A0 : Option Addr) (c0 : Nat) (xs : List (S128)) (g : Nat) (bd cb : Array Value) (eg : ∀ args w, (callFunc g args).run Tryz.prog w = .ok (.enter g args) w)
    (w : World) (row : Option Nat) (J : Nat → World → Prop) (Jx : Nat → World → Prop)
    (hread : ∀ i W, J i W → k128.C W A0 xs.length xs)
    (hf : ∀ (i : Nat) W, i < xs.length → J i W → ∀ (A' : Option Addr) (c' : Nat), (rd_T128 xs i).f0.length ≤ c' → Kd.bool.C W A' (rd_T128 xs i).f0.length (rd_T128 xs i).f0 → Calls Tryz.prog g (bd.push (.agg #[.slice A' (rd_T128 xs i).f0.length c', .int .i64 (rd_T128 xs i).f1, .int .i64 (rd_T128 xs i).f2]) ++ cb) W fun e W' => W.grownBy W' row ∧ ((e = .returned (.bool false) ∧ J (i + 1) W') ∨ (e = .returned (.bool true) ∧ Jx i W')))
    (h0 : J 0 w) :
    Calls Tryz.prog 153 #[.slice A0 xs.length c0, .func (.func g) bd cb] w fun e w' => w.grownBy w' row ∧ ((e = .returned (.int .i64 (-1)) ∧ J xs.length w') ∨ ∃ i : Nat, i < xs.length ∧ e = .returned (.int .i64 i) ∧ Jx i w') := by
  have hbig := C_len (hread 0 w h0)
  have H0 := Aside0.mk h0
  clear h0
  go_enter Tryz.func153, Tryz.ntmps153
  go_wp2
  go_loopg [5, 8] xs.length (fun gg _ s8 wr => ∃ kk : Nat, kk ≤ xs.length ∧ xs.length - kk ≤ gg ∧ s8 = .int .i64 kk ∧ Aside0 (J kk wr) ∧ Aside0 (w.grownBy wr row))
  case atStart => exact ⟨0, Nat.zero_le _, by omega, rfl, H0, ⟨grown_self _ _⟩⟩
  case round =>
    obtain ⟨kk, hkk, hg, rfl, hJ, hgr⟩ := hrel
    by_cases hlt : kk < xs.length
    · have hltz : (kk : Int) < (xs.length : Int) := by omega
      obtain ⟨ad, A', c', e0, hx0, hx1, hx2, hl, hi⟩ := at_T128 (hread kk wr hJ.out) (kk : Int) (by omega) (by omega)
      cases e0
      have HC := Aside0.mk (hf kk wr hlt hJ.out A' c' hl hi)
      clear hf hread
      simp only [Int.toNat_natCast] at hx0 hx1 hx2
      go_wp2_with fail
      refine HC.out.mono ?_
      rintro e W' ⟨hgr', (⟨rfl, hJ'⟩ | ⟨rfl, hJx⟩)⟩
      · have HJ' := Aside0.mk hJ'
        have HG' := Aside0.mk hgr'
        clear hJ' hgr' HC
        go_wp2
        go_roundg (xs.length - (kk + 1))
        case measure => omega
        case rel => exact ⟨kk + 1, by omega, by omega, by go_num, HJ', ⟨grown_trans hgr.out HG'.out⟩⟩
      · have HJx := Aside0.mk hJx
        have HG' := Aside0.mk hgr'
        clear hJx hgr' HC
        go_wp2
        go_ret
        exact ⟨grown_trans hgr.out HG'.out, .inr ⟨kk, hlt, rfl, HJx.out⟩⟩
    · have hltz : ¬ (kk : Int) < (xs.length : Int) := by omega
      have : kk = xs.length := by omega
      subst this
      go_wp2
      go_ret
      exact ⟨hgr.out, .inl ⟨rfl, hJ.out⟩⟩
set_option maxHeartbeats 2000000 in
theorem cfP_calls (A0 : Option Addr) (c0 : Nat) (xs : List (S128)) (g : Nat) (bd cb : Array Value) (eg : ∀ args w, (callFunc g args).run Tryz.prog w = .ok (.enter g args) w)
    (w : World) (row : Option Nat) (J : Nat → World → Prop) (Jx : Nat → World → Prop)
    (hread : ∀ i W, J i W → k128.C W A0 xs.length xs)
    (hf : ∀ (i : Nat) W, i < xs.length → J i W → ∀ (A' : Option Addr) (c' : Nat), (rd_T128 xs i).f0.length ≤ c' → Kd.bool.C W A' (rd_T128 xs i).f0.length (rd_T128 xs i).f0 → Calls Tryz.prog g (bd.push (.agg #[.slice A' (rd_T128 xs i).f0.length c', .int .i64 (rd_T128 xs i).f1, .int .i64 (rd_T128 xs i).f2]) ++ cb) W fun e W' => W.grownBy W' row ∧ ((e = .returned (.bool false) ∧ J (i + 1) W') ∨ (e = .returned (.bool true) ∧ Jx i W')))
    (h0 : J 0 w) :
    Calls Tryz.prog 122 #[.slice A0 xs.length c0, .func (.func g) bd cb] w fun e w' => w.grownBy w' row ∧ ((e = .returned (.bool false) ∧ J xs.length w') ∨ ∃ i : Nat, i < xs.length ∧ e = .returned (.bool true) ∧ Jx i w') := by
  have HC := Aside0.mk (idxP_calls A0 c0 xs g bd cb eg w row J Jx hread hf h0)
  clear hread hf h0 eg
  go_enter Tryz.func122, Tryz.ntmps122
  go_wp2_with fail
  refine HC.out.mono ?_
  rintro e W' ⟨hg, (⟨rfl, hJ⟩ | ⟨i, hi, rfl, hJ⟩)⟩
  · have HJ := Aside0.mk hJ
    have HG := Aside0.mk hg
    clear hJ hg HC
    go_wp2
    go_ret
    exact ⟨HG.out, .inl ⟨rfl, HJ.out⟩⟩
  · have HJ := Aside0.mk hJ
    have HG := Aside0.mk hg
    clear hJ hg HC
    go_wp2
    go_ret
    exact ⟨HG.out, .inr ⟨i, hi, rfl, HJ.out⟩⟩
set_option maxHeartbeats 2000000 in
theorem allP_calls (A0 : Option Addr) (c0 : Nat) (xs : List (S128)) (g : Nat) (bd cb : Array Value) (eg : ∀ args w, (callFunc g args).run Tryz.prog w = .ok (.enter g args) w)
    (w : World) (row : Option Nat) (hrow : ∀ k, row = some k → k < w.heap.size) (J : Nat → World → Prop) (Jx : Nat → World → Prop)
    (hread : ∀ i W, J i W → k128.C W A0 xs.length xs)
    (hf : ∀ (i : Nat) W, i < xs.length → J i W → ∀ (A' : Option Addr) (c' : Nat), (rd_T128 xs i).f0.length ≤ c' → Kd.bool.C W A' (rd_T128 xs i).f0.length (rd_T128 xs i).f0 → Calls Tryz.prog g (bd.push (.agg #[.slice A' (rd_T128 xs i).f0.length c', .int .i64 (rd_T128 xs i).f1, .int .i64 (rd_T128 xs i).f2]) ++ cb) W fun e W' => W.grownBy W' row ∧ ((e = .returned (.bool true) ∧ J (i + 1) W') ∨ (e = .returned (.bool false) ∧ Jx i W')))
    (hJa : ∀ i W o, J i W → J i (W.alloc o)) (h0 : J 0 w) :
    Calls Tryz.prog 76 #[.slice A0 xs.length c0, .func (.func g) bd cb] w fun e w' => w.grownBy w' row ∧ ((e = .returned (.bool true) ∧ J xs.length w') ∨ ∃ i : Nat, i < xs.length ∧ e = .returned (.bool false) ∧ Jx i w') := by
  have hcl : ∀ (i : Nat) W, i < xs.length → (J i W ∧ W.heap[w.heap.size]? = some (.cells #[.func (.func g) bd cb] 122 (0, 0))) → ∀ (A' : Option Addr) (c' : Nat), (rd_T128 xs i).f0.length ≤ c' → Kd.bool.C W A' (rd_T128 xs i).f0.length (rd_T128 xs i).f0 → Calls Tryz.prog 123 ((#[] : Array Value).push (.agg #[.slice A' (rd_T128 xs i).f0.length c', .int .i64 (rd_T128 xs i).f1, .int .i64 (rd_T128 xs i).f2]) ++ #[.pointer (some ⟨w.heap.size, 0, none⟩)]) W fun e W' => W.grownBy W' row ∧ ((e = .returned (.bool false) ∧ (J (i + 1) W' ∧ W'.heap[w.heap.size]? = some (.cells #[.func (.func g) bd cb] 122 (0, 0)))) ∨ (e = .returned (.bool true) ∧ Jx i W')) := by
    rintro i W hi0 ⟨hJ, hb⟩ A' c' hl hi
    have hcell : W.cell? ⟨w.heap.size, 0, none⟩ = some (.func (.func g) bd cb) := (blk_cell hb 0).trans rfl
    have hltb := blk_lt hb
    have hneb : ¬ w.heap.size = W.heap.size := by omega
    have HC := Aside0.mk (hf i (W.alloc (.cells #[.slice A' (rd_T128 xs i).f0.length c', .int .i64 (rd_T128 xs i).f1, .int .i64 (rd_T128 xs i).f2] 128)) hi0 (hJa _ _ _ hJ) A' c' hl (Kd.C_alloc hi _))
    have HB := Aside0.mk hb
    clear hb hf hread h0 hJ
    simp only [List.push_toArray, List.append_toArray, List.nil_append, List.cons_append]
    go_enter Tryz.func123, Tryz.ntmps123
    go_wp2_with fail
    refine HC.out.mono ?_
    rintro e W' ⟨hg, (⟨rfl, hJ⟩ | ⟨rfl, hJ⟩)⟩
    · have HJ := Aside0.mk hJ
      have HG := Aside0.mk (grown_trans (World.grownBy_alloc W _ row) hg)
      clear hJ hg HC hcell
      go_wp2
      go_ret
      exact ⟨HG.out, .inl ⟨rfl, HJ.out, blk_grown HB.out HG.out (fun k e => by have := hrow k e; omega)⟩⟩
    · have HJ := Aside0.mk hJ
      have HG := Aside0.mk (grown_trans (World.grownBy_alloc W _ row) hg)
      clear hJ hg HC hcell
      go_wp2
      go_ret
      exact ⟨HG.out, .inr ⟨rfl, HJ.out⟩⟩
  have HC := Aside0.mk (cfP_calls A0 c0 xs 123 #[] #[.pointer (some ⟨w.heap.size, 0, none⟩)] (enters_of Tryz.func123 (by kernel_rfl) rfl) (w.alloc (.cells #[.func (.func g) bd cb] 122)) row
    (fun i W => J i W ∧ W.heap[w.heap.size]? = some (.cells #[.func (.func g) bd cb] 122 (0, 0))) Jx (fun i W h => hread i W h.1) hcl ⟨hJa _ _ _ h0, blk_new w _⟩)
  clear hcl hread hf h0 eg hJa
  go_enter Tryz.func76, Tryz.ntmps76
  go_wp2_with fail
  refine HC.out.mono ?_
  rintro e W' ⟨hg, (⟨rfl, hJ⟩ | ⟨i, hi, rfl, hJ⟩)⟩
  · have HJ := Aside0.mk hJ.1
    have HG := Aside0.mk (grown_trans (World.grownBy_alloc w _ row) hg)
    clear hJ hg HC
    go_wp2
    go_ret
    exact ⟨HG.out, .inl ⟨rfl, HJ.out⟩⟩
  · have HJ := Aside0.mk hJ
    have HG := Aside0.mk (grown_trans (World.grownBy_alloc w _ row) hg)
    clear hJ hg HC
    go_wp2
    go_ret
    exact ⟨HG.out, .inr ⟨i, hi, rfl, HJ.out⟩⟩
set_option maxHeartbeats 2000000 in
theorem idxL_calls (A0 : Option Addr) (c0 : Nat) (xs : List (List Int)) (g : Nat) (bd cb : Array Value) (eg : ∀ args w, (callFunc g args).run Tryz.prog w = .ok (.enter g args) w)
    (w : World) (row : Option Nat) (J : Nat → World → Prop) (Jx : Nat → World → Prop)
    (hread : ∀ i W, J i W → (Kd.slice 3 (Kd.int .i64)).C W A0 xs.length xs)
    (hf : ∀ (i : Nat) W, i < xs.length → J i W → ∀ (A' : Option Addr) (c' : Nat), (rd_L1 xs i).length ≤ c' → (Kd.int .i64).C W A' (rd_L1 xs i).length (rd_L1 xs i) → Calls Tryz.prog g (bd.push (.slice A' (rd_L1 xs i).length c') ++ cb) W fun e W' => W.grownBy W' row ∧ ((e = .returned (.bool false) ∧ J (i + 1) W') ∨ (e = .returned (.bool true) ∧ Jx i W')))
    (h0 : J 0 w) :
    Calls Tryz.prog 154 #[.slice A0 xs.length c0, .func (.func g) bd cb] w fun e w' => w.grownBy w' row ∧ ((e = .returned (.int .i64 (-1)) ∧ J xs.length w') ∨ ∃ i : Nat, i < xs.length ∧ e = .returned (.int .i64 i) ∧ Jx i w') := by
  have hbig := C_len (hread 0 w h0)
  have H0 := Aside0.mk h0
  clear h0
  go_enter Tryz.func154, Tryz.ntmps154
  go_wp2
  go_loopg [5, 8] xs.length (fun gg _ s8 wr => ∃ kk : Nat, kk ≤ xs.length ∧ xs.length - kk ≤ gg ∧ s8 = .int .i64 kk ∧ Aside0 (J kk wr) ∧ Aside0 (w.grownBy wr row))
  case atStart => exact ⟨0, Nat.zero_le _, by omega, rfl, H0, ⟨grown_self _ _⟩⟩
  case round =>
    obtain ⟨kk, hkk, hg, rfl, hJ, hgr⟩ := hrel
    by_cases hlt : kk < xs.length
    · have hltz : (kk : Int) < (xs.length : Int) := by omega
      obtain ⟨ad, A', c', e0, hx0, hl, hi⟩ := at_L1 (hread kk wr hJ.out) (kk : Int) (by omega) (by omega)
      cases e0
      have HC := Aside0.mk (hf kk wr hlt hJ.out A' c' hl hi)
      clear hf hread
      simp only [Int.toNat_natCast] at hx0
      go_wp2_with fail
      refine HC.out.mono ?_
      rintro e W' ⟨hgr', (⟨rfl, hJ'⟩ | ⟨rfl, hJx⟩)⟩
      · have HJ' := Aside0.mk hJ'
        have HG' := Aside0.mk hgr'
        clear hJ' hgr' HC
        go_wp2
        go_roundg (xs.length - (kk + 1))
        case measure => omega
        case rel => exact ⟨kk + 1, by omega, by omega, by go_num, HJ', ⟨grown_trans hgr.out HG'.out⟩⟩
      · have HJx := Aside0.mk hJx
        have HG' := Aside0.mk hgr'
        clear hJx hgr' HC
        go_wp2
        go_ret
        exact ⟨grown_trans hgr.out HG'.out, .inr ⟨kk, hlt, rfl, HJx.out⟩⟩
    · have hltz : ¬ (kk : Int) < (xs.length : Int) := by omega
      have : kk = xs.length := by omega
      subst this
      go_wp2
      go_ret
      exact ⟨hgr.out, .inl ⟨rfl, hJ.out⟩⟩
set_option maxHeartbeats 2000000 in
theorem cfL_calls (A0 : Option Addr) (c0 : Nat) (xs : List (List Int)) (g : Nat) (bd cb : Array Value) (eg : ∀ args w, (callFunc g args).run Tryz.prog w = .ok (.enter g args) w)
    (w : World) (row : Option Nat) (J : Nat → World → Prop) (Jx : Nat → World → Prop)
    (hread : ∀ i W, J i W → (Kd.slice 3 (Kd.int .i64)).C W A0 xs.length xs)
    (hf : ∀ (i : Nat) W, i < xs.length → J i W → ∀ (A' : Option Addr) (c' : Nat), (rd_L1 xs i).length ≤ c' → (Kd.int .i64).C W A' (rd_L1 xs i).length (rd_L1 xs i) → Calls Tryz.prog g (bd.push (.slice A' (rd_L1 xs i).length c') ++ cb) W fun e W' => W.grownBy W' row ∧ ((e = .returned (.bool false) ∧ J (i + 1) W') ∨ (e = .returned (.bool true) ∧ Jx i W')))
    (h0 : J 0 w) :
    Calls Tryz.prog 124 #[.slice A0 xs.length c0, .func (.func g) bd cb] w fun e w' => w.grownBy w' row ∧ ((e = .returned (.bool false) ∧ J xs.length w') ∨ ∃ i : Nat, i < xs.length ∧ e = .returned (.bool true) ∧ Jx i w') := by
  have HC := Aside0.mk (idxL_calls A0 c0 xs g bd cb eg w row J Jx hread hf h0)
  clear hread hf h0 eg
  go_enter Tryz.func124, Tryz.ntmps124
  go_wp2_with fail
  refine HC.out.mono ?_
  rintro e W' ⟨hg, (⟨rfl, hJ⟩ | ⟨i, hi, rfl, hJ⟩)⟩
  · have HJ := Aside0.mk hJ
    have HG := Aside0.mk hg
    clear hJ hg HC
    go_wp2
    go_ret
    exact ⟨HG.out, .inl ⟨rfl, HJ.out⟩⟩
  · have HJ := Aside0.mk hJ
    have HG := Aside0.mk hg
    clear hJ hg HC
    go_wp2
    go_ret
    exact ⟨HG.out, .inr ⟨i, hi, rfl, HJ.out⟩⟩
set_option maxHeartbeats 2000000 in
theorem allL_calls (A0 : Option Addr) (c0 : Nat) (xs : List (List Int)) (g : Nat) (bd cb : Array Value) (eg : ∀ args w, (callFunc g args).run Tryz.prog w = .ok (.enter g args) w)
    (w : World) (row : Option Nat) (hrow : ∀ k, row = some k → k < w.heap.size) (J : Nat → World → Prop) (Jx : Nat → World → Prop)
    (hread : ∀ i W, J i W → (Kd.slice 3 (Kd.int .i64)).C W A0 xs.length xs)
    (hf : ∀ (i : Nat) W, i < xs.length → J i W → ∀ (A' : Option Addr) (c' : Nat), (rd_L1 xs i).length ≤ c' → (Kd.int .i64).C W A' (rd_L1 xs i).length (rd_L1 xs i) → Calls Tryz.prog g (bd.push (.slice A' (rd_L1 xs i).length c') ++ cb) W fun e W' => W.grownBy W' row ∧ ((e = .returned (.bool true) ∧ J (i + 1) W') ∨ (e = .returned (.bool false) ∧ Jx i W')))
    (hJa : ∀ i W o, J i W → J i (W.alloc o)) (h0 : J 0 w) :
    Calls Tryz.prog 77 #[.slice A0 xs.length c0, .func (.func g) bd cb] w fun e w' => w.grownBy w' row ∧ ((e = .returned (.bool true) ∧ J xs.length w') ∨ ∃ i : Nat, i < xs.length ∧ e = .returned (.bool false) ∧ Jx i w') := by
  have hcl : ∀ (i : Nat) W, i < xs.length → (J i W ∧ W.heap[w.heap.size]? = some (.cells #[.func (.func g) bd cb] 123 (0, 0))) → ∀ (A' : Option Addr) (c' : Nat), (rd_L1 xs i).length ≤ c' → (Kd.int .i64).C W A' (rd_L1 xs i).length (rd_L1 xs i) → Calls Tryz.prog 125 ((#[] : Array Value).push (.slice A' (rd_L1 xs i).length c') ++ #[.pointer (some ⟨w.heap.size, 0, none⟩)]) W fun e W' => W.grownBy W' row ∧ ((e = .returned (.bool false) ∧ (J (i + 1) W' ∧ W'.heap[w.heap.size]? = some (.cells #[.func (.func g) bd cb] 123 (0, 0)))) ∨ (e = .returned (.bool true) ∧ Jx i W')) := by
    rintro i W hi0 ⟨hJ, hb⟩ A' c' hl hi
    have hcell : W.cell? ⟨w.heap.size, 0, none⟩ = some (.func (.func g) bd cb) := (blk_cell hb 0).trans rfl
    have HC := Aside0.mk (hf i W hi0 hJ A' c' hl hi)
    have HB := Aside0.mk hb
    clear hb hf hread h0 hJ
    simp only [List.push_toArray, List.append_toArray, List.nil_append, List.cons_append]
    go_enter Tryz.func125, Tryz.ntmps125
    go_wp2_with fail
    refine HC.out.mono ?_
    rintro e W' ⟨hg, (⟨rfl, hJ⟩ | ⟨rfl, hJ⟩)⟩
    · have HJ := Aside0.mk hJ
      have HG := Aside0.mk hg
      clear hJ hg HC hcell
      go_wp2
      go_ret
      exact ⟨HG.out, .inl ⟨rfl, HJ.out, blk_grown HB.out HG.out (fun k e => by have := hrow k e; omega)⟩⟩
    · have HJ := Aside0.mk hJ
      have HG := Aside0.mk hg
      clear hJ hg HC hcell
      go_wp2
      go_ret
      exact ⟨HG.out, .inr ⟨rfl, HJ.out⟩⟩
  have HC := Aside0.mk (cfL_calls A0 c0 xs 125 #[] #[.pointer (some ⟨w.heap.size, 0, none⟩)] (enters_of Tryz.func125 (by kernel_rfl) rfl) (w.alloc (.cells #[.func (.func g) bd cb] 123)) row
    (fun i W => J i W ∧ W.heap[w.heap.size]? = some (.cells #[.func (.func g) bd cb] 123 (0, 0))) Jx (fun i W h => hread i W h.1) hcl ⟨hJa _ _ _ h0, blk_new w _⟩)
  clear hcl hread hf h0 eg hJa
  go_enter Tryz.func77, Tryz.ntmps77
  go_wp2_with fail
  refine HC.out.mono ?_
  rintro e W' ⟨hg, (⟨rfl, hJ⟩ | ⟨i, hi, rfl, hJ⟩)⟩
  · have HJ := Aside0.mk hJ.1
    have HG := Aside0.mk (grown_trans (World.grownBy_alloc w _ row) hg)
    clear hJ hg HC
    go_wp2
    go_ret
    exact ⟨HG.out, .inl ⟨rfl, HJ.out⟩⟩
  · have HJ := Aside0.mk hJ
    have HG := Aside0.mk (grown_trans (World.grownBy_alloc w _ row) hg)
    clear hJ hg HC
    go_wp2
    go_ret
    exact ⟨HG.out, .inr ⟨i, hi, rfl, HJ.out⟩⟩
set_option maxHeartbeats 2000000 in
theorem idxR_calls (A0 : Option Addr) (c0 : Nat) (xs : List (S98)) (g : Nat) (bd cb : Array Value) (eg : ∀ args w, (callFunc g args).run Tryz.prog w = .ok (.enter g args) w)
    (w : World) (row : Option Nat) (J : Nat → World → Prop) (Jx : Nat → World → Prop)
    (hread : ∀ i W, J i W → k98.C W A0 xs.length xs)
    (hf : ∀ (i : Nat) W, i < xs.length → J i W → Calls Tryz.prog g (bd.push (.agg #[.int .i64 (rd_T98 xs i).f0, .int .i64 (rd_T98 xs i).f1]) ++ cb) W fun e W' => W.grownBy W' row ∧ ((e = .returned (.bool false) ∧ J (i + 1) W') ∨ (e = .returned (.bool true) ∧ Jx i W')))
    (h0 : J 0 w) :
    Calls Tryz.prog 180 #[.slice A0 xs.length c0, .func (.func g) bd cb] w fun e w' => w.grownBy w' row ∧ ((e = .returned (.int .i64 (-1)) ∧ J xs.length w') ∨ ∃ i : Nat, i < xs.length ∧ e = .returned (.int .i64 i) ∧ Jx i w') := by
  have hbig := C_len (hread 0 w h0)
  have H0 := Aside0.mk h0
  clear h0
  go_enter Tryz.func180, Tryz.ntmps180
  go_wp2
  go_loopg [5, 8] xs.length (fun gg _ s8 wr => ∃ kk : Nat, kk ≤ xs.length ∧ xs.length - kk ≤ gg ∧ s8 = .int .i64 kk ∧ Aside0 (J kk wr) ∧ Aside0 (w.grownBy wr row))
  case atStart => exact ⟨0, Nat.zero_le _, by omega, rfl, H0, ⟨grown_self _ _⟩⟩
  case round =>
    obtain ⟨kk, hkk, hg, rfl, hJ, hgr⟩ := hrel
    by_cases hlt : kk < xs.length
    · have hltz : (kk : Int) < (xs.length : Int) := by omega
      obtain ⟨ad, e0, hx0, hx1⟩ := at_T98 (hread kk wr hJ.out) (kk : Int) (by omega) (by omega)
      cases e0
      have HC := Aside0.mk (hf kk wr hlt hJ.out )
      clear hf hread
      simp only [Int.toNat_natCast] at hx0 hx1
      go_wp2_with fail
      refine HC.out.mono ?_
      rintro e W' ⟨hgr', (⟨rfl, hJ'⟩ | ⟨rfl, hJx⟩)⟩
      · have HJ' := Aside0.mk hJ'
        have HG' := Aside0.mk hgr'
        clear hJ' hgr' HC
        go_wp2
        go_roundg (xs.length - (kk + 1))
        case measure => omega
        case rel => exact ⟨kk + 1, by omega, by omega, by go_num, HJ', ⟨grown_trans hgr.out HG'.out⟩⟩
      · have HJx := Aside0.mk hJx
        have HG' := Aside0.mk hgr'
        clear hJx hgr' HC
        go_wp2
        go_ret
        exact ⟨grown_trans hgr.out HG'.out, .inr ⟨kk, hlt, rfl, HJx.out⟩⟩
    · have hltz : ¬ (kk : Int) < (xs.length : Int) := by omega
      have : kk = xs.length := by omega
      subst this
      go_wp2
      go_ret
      exact ⟨hgr.out, .inl ⟨rfl, hJ.out⟩⟩
set_option maxHeartbeats 2000000 in
theorem cfR_calls (A0 : Option Addr) (c0 : Nat) (xs : List (S98)) (g : Nat) (bd cb : Array Value) (eg : ∀ args w, (callFunc g args).run Tryz.prog w = .ok (.enter g args) w)
    (w : World) (row : Option Nat) (J : Nat → World → Prop) (Jx : Nat → World → Prop)
    (hread : ∀ i W, J i W → k98.C W A0 xs.length xs)
    (hf : ∀ (i : Nat) W, i < xs.length → J i W → Calls Tryz.prog g (bd.push (.agg #[.int .i64 (rd_T98 xs i).f0, .int .i64 (rd_T98 xs i).f1]) ++ cb) W fun e W' => W.grownBy W' row ∧ ((e = .returned (.bool false) ∧ J (i + 1) W') ∨ (e = .returned (.bool true) ∧ Jx i W')))
    (h0 : J 0 w) :
    Calls Tryz.prog 163 #[.slice A0 xs.length c0, .func (.func g) bd cb] w fun e w' => w.grownBy w' row ∧ ((e = .returned (.bool false) ∧ J xs.length w') ∨ ∃ i : Nat, i < xs.length ∧ e = .returned (.bool true) ∧ Jx i w') := by
  have HC := Aside0.mk (idxR_calls A0 c0 xs g bd cb eg w row J Jx hread hf h0)
  clear hread hf h0 eg
  go_enter Tryz.func163, Tryz.ntmps163
  go_wp2_with fail
  refine HC.out.mono ?_
  rintro e W' ⟨hg, (⟨rfl, hJ⟩ | ⟨i, hi, rfl, hJ⟩)⟩
  · have HJ := Aside0.mk hJ
    have HG := Aside0.mk hg
    clear hJ hg HC
    go_wp2
    go_ret
    exact ⟨HG.out, .inl ⟨rfl, HJ.out⟩⟩
  · have HJ := Aside0.mk hJ
    have HG := Aside0.mk hg
    clear hJ hg HC
    go_wp2
    go_ret
    exact ⟨HG.out, .inr ⟨i, hi, rfl, HJ.out⟩⟩
set_option maxHeartbeats 2000000 in
theorem allR_calls (A0 : Option Addr) (c0 : Nat) (xs : List (S98)) (g : Nat) (bd cb : Array Value) (eg : ∀ args w, (callFunc g args).run Tryz.prog w = .ok (.enter g args) w)
    (w : World) (row : Option Nat) (hrow : ∀ k, row = some k → k < w.heap.size) (J : Nat → World → Prop) (Jx : Nat → World → Prop)
    (hread : ∀ i W, J i W → k98.C W A0 xs.length xs)
    (hf : ∀ (i : Nat) W, i < xs.length → J i W → Calls Tryz.prog g (bd.push (.agg #[.int .i64 (rd_T98 xs i).f0, .int .i64 (rd_T98 xs i).f1]) ++ cb) W fun e W' => W.grownBy W' row ∧ ((e = .returned (.bool true) ∧ J (i + 1) W') ∨ (e = .returned (.bool false) ∧ Jx i W')))
    (hJa : ∀ i W o, J i W → J i (W.alloc o)) (h0 : J 0 w) :
    Calls Tryz.prog 147 #[.slice A0 xs.length c0, .func (.func g) bd cb] w fun e w' => w.grownBy w' row ∧ ((e = .returned (.bool true) ∧ J xs.length w') ∨ ∃ i : Nat, i < xs.length ∧ e = .returned (.bool false) ∧ Jx i w') := by
  have hcl : ∀ (i : Nat) W, i < xs.length → (J i W ∧ W.heap[w.heap.size]? = some (.cells #[.func (.func g) bd cb] 200 (0, 0))) → Calls Tryz.prog 164 ((#[] : Array Value).push (.agg #[.int .i64 (rd_T98 xs i).f0, .int .i64 (rd_T98 xs i).f1]) ++ #[.pointer (some ⟨w.heap.size, 0, none⟩)]) W fun e W' => W.grownBy W' row ∧ ((e = .returned (.bool false) ∧ (J (i + 1) W' ∧ W'.heap[w.heap.size]? = some (.cells #[.func (.func g) bd cb] 200 (0, 0)))) ∨ (e = .returned (.bool true) ∧ Jx i W')) := by
    rintro i W hi0 ⟨hJ, hb⟩ 
    have hcell : W.cell? ⟨w.heap.size, 0, none⟩ = some (.func (.func g) bd cb) := (blk_cell hb 0).trans rfl
    have hltb := blk_lt hb
    have hneb : ¬ w.heap.size = W.heap.size := by omega
    have HC := Aside0.mk (hf i (W.alloc (.cells #[.int .i64 (rd_T98 xs i).f0, .int .i64 (rd_T98 xs i).f1] 98)) hi0 (hJa _ _ _ hJ) )
    have HB := Aside0.mk hb
    clear hb hf hread h0 hJ
    simp only [List.push_toArray, List.append_toArray, List.nil_append, List.cons_append]
    go_enter Tryz.func164, Tryz.ntmps164
    go_wp2_with fail
    refine HC.out.mono ?_
    rintro e W' ⟨hg, (⟨rfl, hJ⟩ | ⟨rfl, hJ⟩)⟩
    · have HJ := Aside0.mk hJ
      have HG := Aside0.mk (grown_trans (World.grownBy_alloc W _ row) hg)
      clear hJ hg HC hcell
      go_wp2
      go_ret
      exact ⟨HG.out, .inl ⟨rfl, HJ.out, blk_grown HB.out HG.out (fun k e => by have := hrow k e; omega)⟩⟩
    · have HJ := Aside0.mk hJ
      have HG := Aside0.mk (grown_trans (World.grownBy_alloc W _ row) hg)
      clear hJ hg HC hcell
      go_wp2
      go_ret
      exact ⟨HG.out, .inr ⟨rfl, HJ.out⟩⟩
  have HC := Aside0.mk (cfR_calls A0 c0 xs 164 #[] #[.pointer (some ⟨w.heap.size, 0, none⟩)] (enters_of Tryz.func164 (by kernel_rfl) rfl) (w.alloc (.cells #[.func (.func g) bd cb] 200)) row
    (fun i W => J i W ∧ W.heap[w.heap.size]? = some (.cells #[.func (.func g) bd cb] 200 (0, 0))) Jx (fun i W h => hread i W h.1) hcl ⟨hJa _ _ _ h0, blk_new w _⟩)
  clear hcl hread hf h0 eg hJa
  go_enter Tryz.func147, Tryz.ntmps147
  go_wp2_with fail
  refine HC.out.mono ?_
  rintro e W' ⟨hg, (⟨rfl, hJ⟩ | ⟨i, hi, rfl, hJ⟩)⟩
  · have HJ := Aside0.mk hJ.1
    have HG := Aside0.mk (grown_trans (World.grownBy_alloc w _ row) hg)
    clear hJ hg HC
    go_wp2
    go_ret
    exact ⟨HG.out, .inl ⟨rfl, HJ.out⟩⟩
  · have HJ := Aside0.mk hJ
    have HG := Aside0.mk (grown_trans (World.grownBy_alloc w _ row) hg)
    clear hJ hg HC
    go_wp2
    go_ret
    exact ⟨HG.out, .inr ⟨i, hi, rfl, HJ.out⟩⟩
end Go.Proofs.YtekdacalkllipaaGreat.PR
end
section
namespace Go.Proofs.YtekdacalkllipaaGreat.PR
open Go.RowKit Go.Shelf Go.Proofs.YtekdacalkllipaaGreatW.PrintWords Go.Proofs.YtekdacalkllipaaGreatW.PrintLast Go.Proofs.YtekdacalkllipaaGreatW.PrintMore
set_option linter.unusedVariables false
set_option linter.unusedSimpArgs false
theorem all_yes {α : Type} (xs : List α) (z : α) (p : α → Bool) (h : ∀ i, i < xs.length → p (xs.getD i z) = true) : xs.all p = true := by
  rw [List.all_eq_true]
  intro x hx
  obtain ⟨i, hi, rfl⟩ := List.getElem_of_mem hx
  have := h i hi
  rwa [List.getD_eq_getElem?_getD, List.getElem?_eq_getElem hi] at this
theorem all_no {α : Type} (xs : List α) (z : α) (p : α → Bool) (i : Nat) (hi : i < xs.length) (h : p (xs.getD i z) = false) : xs.all p = false := by
  rw [List.all_eq_false]
  refine ⟨xs[i], List.getElem_mem hi, ?_⟩
  rw [List.getD_eq_getElem?_getD, List.getElem?_eq_getElem hi] at h
  simpa using h
theorem below_none {w w' : World} (h : w.grownBy w' none) : Below w.heap.size w w' := (Below.refl _ w).grown h (Nat.le_refl _) (fun _ e => by cases e)
theorem allI_pure (A0 : Option Addr) (c0 : Nat) (xs : List (Int)) (g : Nat) (bd cb : Array Value) (eg : ∀ args w, (callFunc g args).run Tryz.prog w = .ok (.enter g args) w)
    (w : World) (p : Int → Bool) (hr : (Kd.int .i64).C w A0 xs.length xs)
    (hf : ∀ (i : Nat) W, i < xs.length → Below w.heap.size w W → Calls Tryz.prog g (bd.push (.int .i64 (rd xs i)) ++ cb) W fun e W' => e = .returned (.bool (p (rd xs i))) ∧ W.grownBy W' none) :
    Calls Tryz.prog 73 #[.slice A0 xs.length c0, .func (.func g) bd cb] w fun e w' => e = .returned (.bool (xs.all p)) ∧ w.grownBy w' none := by
  refine (allI_calls A0 c0 xs g bd cb eg w none (fun _ e => by cases e) (fun i W => Below w.heap.size w W ∧ ∀ j, j < i → p (xs.getD j 0) = true) (fun i W => p (xs.getD i 0) = false) (fun i W h => Kd.C_below hr h.1) ?_ (fun o => ⟨(Below.refl _ w).alloc (Nat.le_refl _) o, fun j hj => by omega⟩)).mono ?_
  · rintro i W hi0 ⟨hb, hp⟩ 
    refine (hf i W hi0 hb ).mono ?_
    rintro e W' ⟨rfl, hg⟩
    refine ⟨hg, ?_⟩
    cases hq : p (rd xs i) with
    | true => exact .inl ⟨rfl, hb.trans ((below_none hg).mono hb.size), fun j hj => by
        by_cases e : j = i
        · subst e; exact hq
        · exact hp j (by omega)⟩
    | false => exact .inr ⟨rfl, hq⟩
  · rintro e w' ⟨hg, (⟨rfl, _, hp⟩ | ⟨i, hi, rfl, hp⟩)⟩
    · exact ⟨by rw [all_yes xs 0 p hp], hg⟩
    · exact ⟨by rw [all_no xs 0 p i hi hp], hg⟩
theorem allP_pure (A0 : Option Addr) (c0 : Nat) (xs : List (S128)) (g : Nat) (bd cb : Array Value) (eg : ∀ args w, (callFunc g args).run Tryz.prog w = .ok (.enter g args) w)
    (w : World) (p : S128 → Bool) (hr : k128.C w A0 xs.length xs)
    (hf : ∀ (i : Nat) W, i < xs.length → Below w.heap.size w W → ∀ (A' : Option Addr) (c' : Nat), (rd_T128 xs i).f0.length ≤ c' → Kd.bool.C W A' (rd_T128 xs i).f0.length (rd_T128 xs i).f0 → Calls Tryz.prog g (bd.push (.agg #[.slice A' (rd_T128 xs i).f0.length c', .int .i64 (rd_T128 xs i).f1, .int .i64 (rd_T128 xs i).f2]) ++ cb) W fun e W' => e = .returned (.bool (p (rd_T128 xs i))) ∧ W.grownBy W' none) :
    Calls Tryz.prog 76 #[.slice A0 xs.length c0, .func (.func g) bd cb] w fun e w' => e = .returned (.bool (xs.all p)) ∧ w.grownBy w' none := by
  refine (allP_calls A0 c0 xs g bd cb eg w none (fun _ e => by cases e) (fun i W => Below w.heap.size w W ∧ ∀ j, j < i → p (xs.getD j z128) = true) (fun i W => p (xs.getD i z128) = false) (fun i W h => Kd.C_below hr h.1) ?_ (fun i W o h => ⟨h.1.alloc h.1.size o, h.2⟩) ⟨Below.refl _ _, fun j hj => by omega⟩).mono ?_
  · rintro i W hi0 ⟨hb, hp⟩ A' c' hl hi
    refine (hf i W hi0 hb A' c' hl hi).mono ?_
    rintro e W' ⟨rfl, hg⟩
    refine ⟨hg, ?_⟩
    cases hq : p (rd_T128 xs i) with
    | true => exact .inl ⟨rfl, hb.trans ((below_none hg).mono hb.size), fun j hj => by
        by_cases e : j = i
        · subst e; exact hq
        · exact hp j (by omega)⟩
    | false => exact .inr ⟨rfl, hq⟩
  · rintro e w' ⟨hg, (⟨rfl, _, hp⟩ | ⟨i, hi, rfl, hp⟩)⟩
    · exact ⟨by rw [all_yes xs z128 p hp], hg⟩
    · exact ⟨by rw [all_no xs z128 p i hi hp], hg⟩
theorem allL_pure (A0 : Option Addr) (c0 : Nat) (xs : List (List Int)) (g : Nat) (bd cb : Array Value) (eg : ∀ args w, (callFunc g args).run Tryz.prog w = .ok (.enter g args) w)
    (w : World) (p : List Int → Bool) (hr : (Kd.slice 3 (Kd.int .i64)).C w A0 xs.length xs)
    (hf : ∀ (i : Nat) W, i < xs.length → Below w.heap.size w W → ∀ (A' : Option Addr) (c' : Nat), (rd_L1 xs i).length ≤ c' → (Kd.int .i64).C W A' (rd_L1 xs i).length (rd_L1 xs i) → Calls Tryz.prog g (bd.push (.slice A' (rd_L1 xs i).length c') ++ cb) W fun e W' => e = .returned (.bool (p (rd_L1 xs i))) ∧ W.grownBy W' none) :
    Calls Tryz.prog 77 #[.slice A0 xs.length c0, .func (.func g) bd cb] w fun e w' => e = .returned (.bool (xs.all p)) ∧ w.grownBy w' none := by
  refine (allL_calls A0 c0 xs g bd cb eg w none (fun _ e => by cases e) (fun i W => Below w.heap.size w W ∧ ∀ j, j < i → p (xs.getD j []) = true) (fun i W => p (xs.getD i []) = false) (fun i W h => Kd.C_below hr h.1) ?_ (fun i W o h => ⟨h.1.alloc h.1.size o, h.2⟩) ⟨Below.refl _ _, fun j hj => by omega⟩).mono ?_
  · rintro i W hi0 ⟨hb, hp⟩ A' c' hl hi
    refine (hf i W hi0 hb A' c' hl hi).mono ?_
    rintro e W' ⟨rfl, hg⟩
    refine ⟨hg, ?_⟩
    cases hq : p (rd_L1 xs i) with
    | true => exact .inl ⟨rfl, hb.trans ((below_none hg).mono hb.size), fun j hj => by
        by_cases e : j = i
        · subst e; exact hq
        · exact hp j (by omega)⟩
    | false => exact .inr ⟨rfl, hq⟩
  · rintro e w' ⟨hg, (⟨rfl, _, hp⟩ | ⟨i, hi, rfl, hp⟩)⟩
    · exact ⟨by rw [all_yes xs [] p hp], hg⟩
    · exact ⟨by rw [all_no xs [] p i hi hp], hg⟩
theorem allR_pure (A0 : Option Addr) (c0 : Nat) (xs : List (S98)) (g : Nat) (bd cb : Array Value) (eg : ∀ args w, (callFunc g args).run Tryz.prog w = .ok (.enter g args) w)
    (w : World) (p : S98 → Bool) (hr : k98.C w A0 xs.length xs)
    (hf : ∀ (i : Nat) W, i < xs.length → Below w.heap.size w W → Calls Tryz.prog g (bd.push (.agg #[.int .i64 (rd_T98 xs i).f0, .int .i64 (rd_T98 xs i).f1]) ++ cb) W fun e W' => e = .returned (.bool (p (rd_T98 xs i))) ∧ W.grownBy W' none) :
    Calls Tryz.prog 147 #[.slice A0 xs.length c0, .func (.func g) bd cb] w fun e w' => e = .returned (.bool (xs.all p)) ∧ w.grownBy w' none := by
  refine (allR_calls A0 c0 xs g bd cb eg w none (fun _ e => by cases e) (fun i W => Below w.heap.size w W ∧ ∀ j, j < i → p (xs.getD j z98) = true) (fun i W => p (xs.getD i z98) = false) (fun i W h => Kd.C_below hr h.1) ?_ (fun i W o h => ⟨h.1.alloc h.1.size o, h.2⟩) ⟨Below.refl _ _, fun j hj => by omega⟩).mono ?_
  · rintro i W hi0 ⟨hb, hp⟩ 
    refine (hf i W hi0 hb ).mono ?_
    rintro e W' ⟨rfl, hg⟩
    refine ⟨hg, ?_⟩
    cases hq : p (rd_T98 xs i) with
    | true => exact .inl ⟨rfl, hb.trans ((below_none hg).mono hb.size), fun j hj => by
        by_cases e : j = i
        · subst e; exact hq
        · exact hp j (by omega)⟩
    | false => exact .inr ⟨rfl, hq⟩
  · rintro e w' ⟨hg, (⟨rfl, _, hp⟩ | ⟨i, hi, rfl, hp⟩)⟩
    · exact ⟨by rw [all_yes xs z98 p hp], hg⟩
    · exact ⟨by rw [all_no xs z98 p i hi hp], hg⟩
end Go.Proofs.YtekdacalkllipaaGreat.PR
end
section
namespace Go.Proofs.YtekdacalkllipaaGreat.PR
open Go.RowKit Go.Shelf Go.Proofs.YtekdacalkllipaaGreatW.PrintWords Go.Proofs.YtekdacalkllipaaGreatW.PrintLast Go.Proofs.YtekdacalkllipaaGreatW.PrintMore
set_option linter.unusedVariables false
set_option linter.unusedSimpArgs false
def inr (n lo hi : Int) : Bool := decide (lo ≤ n ∧ n ≤ hi)
def personOk (need : List Int) (x : S128) : Bool := decide (x.f0.length = need.length ∧ 0 ≤ x.f1 ∧ x.f1 ≤ 5 ∧ 0 ≤ x.f2 ∧ x.f2 ≤ 5)
def illOk (need : List Int) (np : Nat) (l : List Int) : Bool := decide (l.length = np) && l.all fun n => inr n (-1) ((need.length : Int) - 1)
def postErr (need : List Int) (people : List S128) (cases : List (List Int)) : Int :=
  if 5 < need.length ∨ 4 < people.length ∨ 4 < cases.length then 3
  else if need.length = 0 ∨ people.length = 0 ∨ (need.all fun n => inr n 0 2) = false ∨ (people.all (personOk need)) = false ∨ (cases.all (illOk need people.length)) = false then 1
  else 0
theorem within_any (n lo hi : Int) (w : World) : Calls Tryz.prog 75 #[.int .i64 n, .int .i64 lo, .int .i64 hi] w fun e w' => e = .returned (.bool (inr n lo hi)) ∧ w = w' := by
  by_cases h1 : lo ≤ n
  · by_cases h2 : n ≤ hi
    · have e : inr n lo hi = true := by simp [inr, h1, h2]
      rw [e]; clear e
      go_enter Tryz.func75, Tryz.ntmps75
      go_wp2
      go_ret
      exact ⟨rfl, rfl⟩
    · have e : inr n lo hi = false := by simp [inr, h1, h2]
      rw [e]; clear e
      go_enter Tryz.func75, Tryz.ntmps75
      go_wp2
      go_ret
      exact ⟨rfl, rfl⟩
  · have e : inr n lo hi = false := by simp [inr, h1]
    rw [e]; clear e
    go_enter Tryz.func75, Tryz.ntmps75
    go_wp2
    go_ret
    exact ⟨rfl, rfl⟩
theorem CP1_any (n : Int) (w : World) : Calls Tryz.prog 74 #[.int .i64 n] w fun e w' => e = .returned (.bool (inr n 0 2)) ∧ w = w' := by
  go_enter Tryz.func74, Tryz.ntmps74
  go_wp2_with (go_at_call 75; refine (within_any _ _ _ _).mono ?_; rintro e w' ⟨rfl, rfl⟩)
  go_ret
  exact ⟨rfl, rfl⟩
set_option maxHeartbeats 1000000 in
theorem person_any (A0 : Option Addr) (c0 : Nat) (need : List Int) (A1 : Option Addr) (c1 n1 : Nat) (A2 : Option Addr) (c2 n2 : Nat) (A' : Option Addr) (c' : Nat) (x : S128) (w : World) (hn : need.length ≤ 9223372036854775807) (hx : x.f0.length ≤ 9223372036854775807) :
    Calls Tryz.prog 71 #[.agg #[.slice A0 need.length c0, .slice A1 n1 c1, .slice A2 n2 c2], .agg #[.slice A' x.f0.length c', .int .i64 x.f1, .int .i64 x.f2]] w fun e w' => e = .returned (.bool (personOk need x)) ∧ w.grownBy w' none := by
  by_cases h1 : x.f0.length = need.length
  · have b1 : ((x.f0.length : Int) == (need.length : Int)) = true := beq_iff_eq.2 (by omega)
    cases h2 : inr x.f1 0 5 with
    | false =>
      have e : personOk need x = false := by simp [personOk, inr] at *; omega
      rw [e]; clear e h1
      have H2 := Aside0.mk h2
      clear h2
      go_enter Tryz.func71, Tryz.ntmps71
      go_wp2_with (go_at_call 75; refine (within_any _ _ _ _).mono ?_; rintro e w' ⟨rfl, rfl⟩; rw [H2.out])
      go_ret
      exact ⟨rfl, grown_trans (World.grownBy_alloc _ _ _) (World.grownBy_alloc _ _ _)⟩
    | true =>
      cases h3 : inr x.f2 0 5 with
      | false =>
        have e : personOk need x = false := by simp [personOk, inr] at *; omega
        rw [e]; clear e h1
        have H2 := Aside0.mk h2
        have H3 := Aside0.mk h3
        clear h2 h3
        go_enter Tryz.func71, Tryz.ntmps71
        go_wp2_with (go_at_call 75; refine (within_any _ _ _ _).mono ?_; rintro e w' ⟨rfl, rfl⟩; first | rw [H2.out] | rw [H3.out])
        go_ret
        exact ⟨rfl, grown_trans (World.grownBy_alloc _ _ _) (World.grownBy_alloc _ _ _)⟩
      | true =>
        have e : personOk need x = true := by simp [personOk, inr] at *; omega
        rw [e]; clear e h1
        have H2 := Aside0.mk h2
        have H3 := Aside0.mk h3
        clear h2 h3
        go_enter Tryz.func71, Tryz.ntmps71
        go_wp2_with (go_at_call 75; refine (within_any _ _ _ _).mono ?_; rintro e w' ⟨rfl, rfl⟩; first | rw [H2.out] | rw [H3.out])
        go_ret
        exact ⟨rfl, grown_trans (World.grownBy_alloc _ _ _) (World.grownBy_alloc _ _ _)⟩
  · have b1 : ((x.f0.length : Int) == (need.length : Int)) = false := beq_eq_false_iff_ne.2 (by omega)
    have e : personOk need x = false := by simp [personOk, h1]
    rw [e]; clear e h1
    go_enter Tryz.func71, Tryz.ntmps71
    go_wp2
    go_ret
    exact ⟨rfl, grown_trans (World.grownBy_alloc _ _ _) (World.grownBy_alloc _ _ _)⟩
set_option maxHeartbeats 1000000 in
theorem ill1_any (n : Int) (b : Nat) (A0 : Option Addr) (c0 : Nat) (need : List Int) (v1 v2 : Value) (w : World) (hn : need.length ≤ 9223372036854775807) (hb : w.heap[b]? = some (.cells #[.slice A0 need.length c0, v1, v2] 34 (0, 0))) :
    Calls Tryz.prog 119 #[.int .i64 n, .pointer (some ⟨b, 0, none⟩)] w fun e w' => e = .returned (.bool (inr n (-1) ((need.length : Int) - 1))) ∧ w = w' := by
  have hc : w.cell? ⟨b, 0, none⟩ = some (.slice A0 need.length c0) := (blk_cell hb 0).trans rfl
  clear hb
  go_enter Tryz.func119, Tryz.ntmps119
  go_wp2_with (go_at_call 75; refine (within_any _ _ _ _).mono ?_; rintro e w' ⟨rfl, rfl⟩)
  go_ret
  exact ⟨rfl, rfl⟩
set_option maxHeartbeats 1000000 in
theorem ill_any (A0 : Option Addr) (c0 : Nat) (need : List Int) (A1 : Option Addr) (c1 np : Nat) (A2 : Option Addr) (c2 n2 : Nat) (A' : Option Addr) (c' : Nat) (l : List Int) (w : World) (hn : need.length ≤ 9223372036854775807) (hnp : np ≤ 9223372036854775807) (hr : (Kd.int .i64).C w A' l.length l) :
    Calls Tryz.prog 72 #[.agg #[.slice A0 need.length c0, .slice A1 np c1, .slice A2 n2 c2], .slice A' l.length c'] w fun e w' => e = .returned (.bool (illOk need np l)) ∧ w.grownBy w' none := by
  have hl := C_len hr
  by_cases h1 : l.length = np
  · have b1 : ((l.length : Int) == (np : Int)) = true := beq_iff_eq.2 (by omega)
    have e : illOk need np l = l.all fun n => inr n (-1) ((need.length : Int) - 1) := by simp [illOk, h1]
    rw [e]; clear e h1
    have HA := Aside0.mk (allI_pure A' c' l 119 #[] #[.pointer (some ⟨w.heap.size, 0, none⟩)] (enters_of Tryz.func119 (by kernel_rfl) rfl) (w.alloc (.cells #[.slice A0 need.length c0, .slice A1 np c1, .slice A2 n2 c2] 34)) (fun n => inr n (-1) ((need.length : Int) - 1)) (Kd.C_alloc hr _)
      (fun i W _ hb => by
        simp only [List.push_toArray, List.append_toArray, List.nil_append, List.cons_append]
        refine (ill1_any _ w.heap.size A0 c0 need _ _ W hn (blk_below (blk_new w _) hb)).mono ?_
        rintro e w' ⟨rfl, rfl⟩
        exact ⟨rfl, grown_self _ _⟩))
    clear hr
    go_enter Tryz.func72, Tryz.ntmps72
    go_wp2_with (go_at_call 73; refine HA.out.mono ?_; rintro e w' ⟨rfl, hg⟩; have HG := Aside0.mk hg; clear hg)
    go_ret
    exact ⟨rfl, grown_trans (World.grownBy_alloc _ _ _) HG.out⟩
  · have b1 : ((l.length : Int) == (np : Int)) = false := beq_eq_false_iff_ne.2 (by omega)
    have e : illOk need np l = false := by simp [illOk, h1]
    rw [e]; clear e h1 hr
    go_enter Tryz.func72, Tryz.ntmps72
    go_wp2
    go_ret
    exact ⟨rfl, World.grownBy_alloc _ _ _⟩
end Go.Proofs.YtekdacalkllipaaGreat.PR
end
section
namespace Go.Proofs.YtekdacalkllipaaGreat.PR
open Go.RowKit Go.Shelf Go.Proofs.YtekdacalkllipaaGreatW.PrintWords Go.Proofs.YtekdacalkllipaaGreatW.PrintLast Go.Proofs.YtekdacalkllipaaGreatW.PrintMore
set_option linter.unusedVariables false
set_option linter.unusedSimpArgs false
theorem grown_drew (w : World) : w.grownBy w.drew none := ⟨rfl, rfl, rfl, Nat.le_refl _, fun _ _ _ => rfl⟩
theorem grown_drewN (w : World) (n : Nat) : w.grownBy (w.drewN n) none := ⟨rfl, rfl, rfl, Nat.le_refl _, fun _ _ _ => rfl⟩
theorem below_grown_none {w W W' : World} (h : Below w.heap.size w W) (hg : W.grownBy W' none) : Below w.heap.size w W' := h.trans ((below_none hg).mono h.size)
theorem box3 {W : World} {b : Nat} {x y z : Value} {t : TypeId} (h : W.heap[b]? = some (.cells #[x, y, z] t (0, 0))) : W.cell? ⟨b, 0, none⟩ = some x ∧ W.cell? ⟨b, 1, none⟩ = some y ∧ W.cell? ⟨b, 2, none⟩ = some z :=
  ⟨(blk_cell h 0).trans rfl, (blk_cell h 1).trans rfl, (blk_cell h 2).trans rfl⟩
set_option maxHeartbeats 2000000 in
theorem CheckPost_any (A0 : Option Addr) (c0 : Nat) (need : List Int) (A1 : Option Addr) (c1 : Nat) (people : List S128) (A2 : Option Addr) (c2 : Nat) (cases : List (List Int)) (w : World)
    (h0 : (Kd.int .i64).C w A0 need.length need) (h1 : k128.C w A1 people.length people) (h2 : (Kd.slice 3 (Kd.int .i64)).C w A2 cases.length cases) :
    Calls Tryz.prog 18 #[.agg #[.slice A0 need.length c0, .slice A1 people.length c1, .slice A2 cases.length c2]] w fun e w' => e = .returned (.int .i64 (postErr need people cases)) ∧ w.grownBy w' none := by
  have hl0 := C_len h0
  have hl1 := C_len h1
  have hl2 := C_len h2
  have HN : Aside0 (∀ W, Below w.heap.size w W → Calls Tryz.prog 73 #[.slice A0 need.length c0, .func (.func 74) #[] #[]] W fun e w' => e = .returned (.bool (need.all fun n => inr n 0 2)) ∧ W.grownBy w' none) := ⟨fun W hb =>
    allI_pure A0 c0 need 74 #[] #[] (enters_of Tryz.func74 (by kernel_rfl) rfl) W _ (Kd.C_below h0 hb) fun i W' _ _ => by
      simp only [List.push_toArray, List.append_toArray, List.nil_append, List.cons_append]
      refine (CP1_any _ W').mono ?_
      rintro e w' ⟨rfl, rfl⟩
      exact ⟨rfl, grown_self _ _⟩⟩
  have HP : Aside0 (∀ W, Below w.heap.size w W → Calls Tryz.prog 76 #[.slice A1 people.length c1, .func (.func 71) #[.agg #[.slice A0 need.length c0, .slice A1 people.length c1, .slice A2 cases.length c2]] #[]] W fun e w' => e = .returned (.bool (people.all (personOk need))) ∧ W.grownBy w' none) := ⟨fun W hb =>
    allP_pure A1 c1 people 71 #[.agg #[.slice A0 need.length c0, .slice A1 people.length c1, .slice A2 cases.length c2]] #[] (enters_of Tryz.func71 (by kernel_rfl) rfl) W _ (Kd.C_below h1 hb) fun i W' _ _ A' c' hl hi => by
      simp only [List.push_toArray, List.append_toArray, List.nil_append, List.cons_append, List.append_nil]
      exact person_any A0 c0 need A1 c1 _ A2 c2 _ A' c' _ W' hl0 (C_len hi)⟩
  have HL : Aside0 (∀ W, Below w.heap.size w W → Calls Tryz.prog 77 #[.slice A2 cases.length c2, .func (.func 72) #[.agg #[.slice A0 need.length c0, .slice A1 people.length c1, .slice A2 cases.length c2]] #[]] W fun e w' => e = .returned (.bool (cases.all (illOk need people.length))) ∧ W.grownBy w' none) := ⟨fun W hb =>
    allL_pure A2 c2 cases 72 #[.agg #[.slice A0 need.length c0, .slice A1 people.length c1, .slice A2 cases.length c2]] #[] (enters_of Tryz.func72 (by kernel_rfl) rfl) W _ (Kd.C_below h2 hb) fun i W' _ _ A' c' hl hi => by
      simp only [List.push_toArray, List.append_toArray, List.nil_append, List.cons_append, List.append_nil]
      exact ill_any A0 c0 need A1 c1 _ A2 c2 _ A' c' _ W' hl0 hl1 hi⟩
  clear h0 h1 h2
  have G0 : Aside0 (w.grownBy ((w.alloc (.cells #[.slice A0 need.length c0, .slice A1 people.length c1, .slice A2 cases.length c2] 34)).drew) none) := ⟨grown_trans (World.grownBy_alloc _ _ _) (grown_drew _)⟩
  have K0 : Aside0 (((w.alloc (.cells #[.slice A0 need.length c0, .slice A1 people.length c1, .slice A2 cases.length c2] 34)).drew).heap[w.heap.size]? = some (.cells #[.slice A0 need.length c0, .slice A1 people.length c1, .slice A2 cases.length c2] 34 (0, 0))) := ⟨blk_new w _⟩
  by_cases a1 : 5 < need.length
  · have b1 : (5 : Int) < (need.length : Int) := by omega
    have e : postErr need people cases = 3 := by simp [postErr, a1]
    rw [e]; clear e 
    go_enter Tryz.func18, Tryz.ntmps18
    go_wp2
    go_region
    go_wp2
    go_ret
    exact ⟨rfl, G0.out⟩
  have b1 : (need.length : Int) ≤ 5 := by omega
  by_cases a2 : 4 < people.length
  · have b2 : (4 : Int) < (people.length : Int) := by omega
    have e : postErr need people cases = 3 := by simp [postErr, a2]
    rw [e]; clear e 
    go_enter Tryz.func18, Tryz.ntmps18
    go_wp2
    go_region
    go_wp2
    go_ret
    exact ⟨rfl, G0.out⟩
  have b2 : (people.length : Int) ≤ 4 := by omega
  by_cases a3 : 4 < cases.length
  · have b3 : (4 : Int) < (cases.length : Int) := by omega
    have e : postErr need people cases = 3 := by simp [postErr, a3]
    rw [e]; clear e 
    go_enter Tryz.func18, Tryz.ntmps18
    go_wp2
    go_region
    go_wp2
    go_ret
    exact ⟨rfl, G0.out⟩
  have b3 : (cases.length : Int) ≤ 4 := by omega
  by_cases a4 : need.length = 0
  · have b4 : ((need.length : Int) == 0) = true := beq_iff_eq.2 (by omega)
    have e : postErr need people cases = 1 := by unfold postErr; rw [if_neg (by omega), if_pos (.inl a4)]
    rw [e]; clear e a4
    go_enter Tryz.func18, Tryz.ntmps18
    go_wp2
    go_region
    go_wp2
    go_ret
    exact ⟨rfl, G0.out⟩
  have b4 : ((need.length : Int) == 0) = false := beq_eq_false_iff_ne.2 (by omega)
  by_cases a5 : people.length = 0
  · have b5 : ((people.length : Int) == 0) = true := beq_iff_eq.2 (by omega)
    have e : postErr need people cases = 1 := by unfold postErr; rw [if_neg (by omega), if_pos (.inr (.inl a5))]
    rw [e]; clear e a5
    go_enter Tryz.func18, Tryz.ntmps18
    go_wp2
    go_region
    go_wp2
    go_ret
    exact ⟨rfl, G0.out⟩
  have b5 : ((people.length : Int) == 0) = false := beq_eq_false_iff_ne.2 (by omega)
  cases q6 : (need.all fun n => inr n 0 2) with
  | false =>
    have Q6 := Aside0.mk q6
    have e : postErr need people cases = 1 := by unfold postErr; rw [if_neg (by omega), if_pos (.inr (.inr (.inl q6)))]
    rw [e]; clear e q6
    go_enter Tryz.func18, Tryz.ntmps18
    go_wp2
    go_region
    go_wp2_with fail
    refine (HN.out _ (below_none G0.out)).mono ?_
    rintro e W1 ⟨rfl, hg⟩
    have G1 := Aside0.mk (grown_trans G0.out hg)
    have K1 := Aside0.mk (blk_grown K0.out hg (fun _ e => by cases e))
    clear hg
    rw [Q6.out]
    obtain ⟨bx1, by1, bz1⟩ := box3 K1.out
    go_wp2
    go_ret
    exact ⟨rfl, G1.out⟩
  | true =>
    have Q6 := Aside0.mk q6
    cases q7 : (people.all (personOk need)) with
    | false =>
      have Q7 := Aside0.mk q7
      have e : postErr need people cases = 1 := by unfold postErr; rw [if_neg (by omega), if_pos (.inr (.inr (.inr (.inl q7))))]
      rw [e]; clear e q6 q7
      go_enter Tryz.func18, Tryz.ntmps18
      go_wp2
      go_region
      go_wp2_with fail
      refine (HN.out _ (below_none G0.out)).mono ?_
      rintro e W1 ⟨rfl, hg⟩
      have G1 := Aside0.mk (grown_trans G0.out hg)
      have K1 := Aside0.mk (blk_grown K0.out hg (fun _ e => by cases e))
      clear hg
      rw [Q6.out]
      obtain ⟨bx1, by1, bz1⟩ := box3 K1.out
      go_wp2_with fail
      refine (HP.out _ (below_none G1.out)).mono ?_
      rintro e W2 ⟨rfl, hg⟩
      have G2 := Aside0.mk (grown_trans G1.out hg)
      have K2 := Aside0.mk (blk_grown K1.out hg (fun _ e => by cases e))
      clear hg
      rw [Q7.out]
      obtain ⟨bx2, by2, bz2⟩ := box3 K2.out
      go_wp2
      go_ret
      exact ⟨rfl, G2.out⟩
    | true =>
      have Q7 := Aside0.mk q7
      cases q8 : (cases.all (illOk need people.length)) with
      | false =>
        have Q8 := Aside0.mk q8
        have e : postErr need people cases = 1 := by unfold postErr; rw [if_neg (by omega), if_pos (.inr (.inr (.inr (.inr q8))))]
        rw [e]; clear e q6 q7 q8
        go_enter Tryz.func18, Tryz.ntmps18
        go_wp2
        go_region
        go_wp2_with fail
        refine (HN.out _ (below_none G0.out)).mono ?_
        rintro e W1 ⟨rfl, hg⟩
        have G1 := Aside0.mk (grown_trans G0.out hg)
        have K1 := Aside0.mk (blk_grown K0.out hg (fun _ e => by cases e))
        clear hg
        rw [Q6.out]
        obtain ⟨bx1, by1, bz1⟩ := box3 K1.out
        go_wp2_with fail
        refine (HP.out _ (below_none G1.out)).mono ?_
        rintro e W2 ⟨rfl, hg⟩
        have G2 := Aside0.mk (grown_trans G1.out hg)
        have K2 := Aside0.mk (blk_grown K1.out hg (fun _ e => by cases e))
        clear hg
        rw [Q7.out]
        obtain ⟨bx2, by2, bz2⟩ := box3 K2.out
        go_wp2_with fail
        refine (HL.out _ (below_none G2.out)).mono ?_
        rintro e W3 ⟨rfl, hg⟩
        have G3 := Aside0.mk (grown_trans G2.out hg)
        have K3 := Aside0.mk (blk_grown K2.out hg (fun _ e => by cases e))
        clear hg
        rw [Q8.out]
        obtain ⟨bx3, by3, bz3⟩ := box3 K3.out
        go_wp2
        go_ret
        exact ⟨rfl, G3.out⟩
      | true =>
        have Q8 := Aside0.mk q8
        have e : postErr need people cases = 0 := by unfold postErr; rw [if_neg (by omega), if_neg (by rw [q6, q7, q8]; rintro (h | h | h | h | h) <;> first | omega | cases h)]
        rw [e]; clear e q6 q7 q8
        go_enter Tryz.func18, Tryz.ntmps18
        go_wp2
        go_region
        go_wp2_with fail
        refine (HN.out _ (below_none G0.out)).mono ?_
        rintro e W1 ⟨rfl, hg⟩
        have G1 := Aside0.mk (grown_trans G0.out hg)
        have K1 := Aside0.mk (blk_grown K0.out hg (fun _ e => by cases e))
        clear hg
        rw [Q6.out]
        obtain ⟨bx1, by1, bz1⟩ := box3 K1.out
        go_wp2_with fail
        refine (HP.out _ (below_none G1.out)).mono ?_
        rintro e W2 ⟨rfl, hg⟩
        have G2 := Aside0.mk (grown_trans G1.out hg)
        have K2 := Aside0.mk (blk_grown K1.out hg (fun _ e => by cases e))
        clear hg
        rw [Q7.out]
        obtain ⟨bx2, by2, bz2⟩ := box3 K2.out
        go_wp2_with fail
        refine (HL.out _ (below_none G2.out)).mono ?_
        rintro e W3 ⟨rfl, hg⟩
        have G3 := Aside0.mk (grown_trans G2.out hg)
        have K3 := Aside0.mk (blk_grown K2.out hg (fun _ e => by cases e))
        clear hg
        rw [Q8.out]
        obtain ⟨bx3, by3, bz3⟩ := box3 K3.out
        go_wp2
        go_ret
        exact ⟨rfl, G3.out⟩
end Go.Proofs.YtekdacalkllipaaGreat.PR
end
section
namespace Go.Proofs.YtekdacalkllipaaGreat.PR
open Go.RowKit Go.Shelf Go.Proofs.YtekdacalkllipaaGreatW.PrintWords Go.Proofs.YtekdacalkllipaaGreatW.PrintLast Go.Proofs.YtekdacalkllipaaGreatW.PrintMore
set_option linter.unusedVariables false
set_option linter.unusedSimpArgs false
theorem grown_new {w w2 w' : World} {row : Option Nat} (h : w.grownBy w2 none) (h2 : w2.grownBy w' row) (hr : ∀ b, row = some b → w.heap.size ≤ b) : w.grownBy w' none :=
  ⟨h2.os.trans h.os, h2.tape.trans h.tape, h2.output.trans h.output, Nat.le_trans h.size h2.size, fun k hk _ => (h2.block k (Nat.lt_of_lt_of_le hk h.size) (fun e => by have := hr k e.symm; omega)).trans (h.block k hk (by simp))⟩
theorem grown_set (w : World) (b o : Nat) (v : Value) : w.grownBy (w.setCell ⟨b, o, none⟩ v) (some b) :=
  ⟨(Below.setCell (p := ⟨b, o, none⟩) (Below.refl b w) (Nat.le_refl _) v).os, (Below.setCell (p := ⟨b, o, none⟩) (Below.refl b w) (Nat.le_refl _) v).tape, (Below.setCell (p := ⟨b, o, none⟩) (Below.refl b w) (Nat.le_refl _) v).output, (Below.setCell (p := ⟨b, o, none⟩) (Below.refl b w) (Nat.le_refl _) v).size, fun k hk hne => Below.heap_setCell w ⟨b, o, none⟩ v k (fun e => hne (by rw [e]))⟩
def lastAt (l : List Int) (i : Nat) : Int := if i = 0 then -1 else l.getD (i - 1) 0
def incAt (l : List Int) (below : Int) (i : Nat) : Bool := inr (l.getD i 0) (lastAt l i + 1) (below - 1)
def incB (l : List Int) (below : Int) : Bool := (List.range l.length).all (incAt l below)
theorem incB_yes {l : List Int} {below : Int} (h : ∀ i, i < l.length → incAt l below i = true) : incB l below = true := by
  rw [incB, List.all_eq_true]
  intro i hi
  exact h i (List.mem_range.1 hi)
theorem incB_no {l : List Int} {below : Int} {i : Nat} (hi : i < l.length) (h : incAt l below i = false) : incB l below = false := by
  rw [incB, List.all_eq_false]
  exact ⟨i, List.mem_range.2 hi, by simp [h]⟩
set_option maxHeartbeats 1000000 in
theorem incr1_any (n lst bl : Int) (bL bB : Nat) (w : World) (h1 : -1 ≤ lst) (h2 : lst ≤ 9223372036854775806) (h3 : 0 ≤ bl) (h4 : bl ≤ 9223372036854775807)
    (hL : w.heap[bL]? = some (.cells #[.int .i64 lst] 3 (0, 0))) (hB : w.heap[bB]? = some (.cells #[.int .i64 bl] 3 (0, 0))) :
    Calls Tryz.prog 149 #[.int .i64 n, .pointer (some ⟨bL, 0, none⟩), .pointer (some ⟨bB, 0, none⟩)] w fun e w' => e = .returned (.bool (inr n (lst + 1) (bl - 1))) ∧ w' = w.setCell ⟨bL, 0, none⟩ (.int .i64 n) := by
  have hl := (blk_cell hL 0).trans rfl
  have hb := (blk_cell hB 0).trans rfl
  have hf := blk_frozen hL 0
  clear hL hB
  simp only [List.getElem?_toArray, List.getElem?_cons_zero] at hl hb
  go_enter Tryz.func149, Tryz.ntmps149
  go_wp2_with (go_at_call 75; refine (within_any _ _ _ _).mono ?_; rintro e w' ⟨rfl, rfl⟩)
  go_ret
  exact ⟨rfl, rfl⟩
theorem cellset {w : World} {b : Nat} {v u : Value} {t : TypeId} (h : w.heap[b]? = some (.cells #[v] t (0, 0))) : (w.setCell ⟨b, 0, none⟩ u).heap[b]? = some (.cells #[u] t (0, 0)) := by
  have := blk_set (cs := #[v]) h 0 u
  simpa using this
set_option maxHeartbeats 1000000 in
theorem incr_any (A0 : Option Addr) (c0 : Nat) (l : List Int) (bl : Int) (w : World) (h3 : 0 ≤ bl) (h4 : bl ≤ 9223372036854775807) (hr : (Kd.int .i64).C w A0 l.length l) :
    Calls Tryz.prog 110 #[.slice A0 l.length c0, .int .i64 bl] w fun e w' => e = .returned (.bool (incB l bl)) ∧ w.grownBy w' none := by
  obtain ⟨w2, hw2⟩ : ∃ w2, w2 = ((w.alloc (.cells #[.int .i64 bl] 3)).alloc (.cells #[.int .i64 (-1)] 3)) := ⟨_, rfl⟩
  have hg2 : w.grownBy w2 none := by rw [hw2]; exact grown_trans (World.grownBy_alloc _ _ _) (World.grownBy_alloc _ _ _)
  have hsz : w2.heap.size = w.heap.size + 2 := by rw [hw2]; simp
  have hB2 : w2.heap[w.heap.size]? = some (.cells #[.int .i64 bl] 3 (0, 0)) := by rw [hw2]; exact blk_alloc (blk_new w _) _
  have hL2 : w2.heap[w.heap.size + 1]? = some (.cells #[.int .i64 (-1)] 3 (0, 0)) := by rw [hw2]; have := blk_new (w.alloc (.cells #[.int .i64 bl] 3)) (.cells #[.int .i64 (-1)] 3); rwa [World.size_alloc] at this
  have HC := Aside0.mk (allI_calls A0 c0 l 149 #[] #[.pointer (some ⟨w.heap.size + 1, 0, none⟩), .pointer (some ⟨w.heap.size, 0, none⟩)] (enters_of Tryz.func149 (by kernel_rfl) rfl) w2 (some (w.heap.size + 1)) (fun k e => by cases e; omega)
    (fun i W => Below w.heap.size w W ∧ W.heap[w.heap.size]? = some (.cells #[.int .i64 bl] 3 (0, 0)) ∧ W.heap[w.heap.size + 1]? = some (.cells #[.int .i64 (lastAt l i)] 3 (0, 0)) ∧ (-1 ≤ lastAt l i ∧ lastAt l i ≤ 9223372036854775806) ∧ ∀ j, j < i → incAt l bl j = true)
    (fun i W => incAt l bl i = false)
    (fun i W h => Kd.C_below hr h.1)
    (fun i W hi h => by
      obtain ⟨hb, hB, hL, ⟨q1, q2⟩, hp⟩ := h
      simp only [List.push_toArray, List.append_toArray, List.nil_append, List.cons_append]
      refine (incr1_any _ (lastAt l i) bl (w.heap.size + 1) w.heap.size W q1 q2 h3 h4 hL hB).mono ?_
      rintro e W' ⟨rfl, rfl⟩
      refine ⟨grown_set _ _ _ _, ?_⟩
      have hrd : rd l (i : Int) = l.getD i 0 := by simp [rd]
      have hat : inr (rd l (i : Int)) (lastAt l i + 1) (bl - 1) = incAt l bl i := by rw [hrd]; rfl
      rw [hat]
      cases hq : incAt l bl i with
      | false => exact .inr ⟨rfl, rfl⟩
      | true =>
        refine .inl ⟨rfl, hb.setCell (p := ⟨w.heap.size + 1, 0, none⟩) (by simp) _, ?_, ?_, ?_, ?_⟩
        · exact (Below.heap_setCell W ⟨w.heap.size + 1, 0, none⟩ _ _ (by simp)).trans hB
        · have := one_setCell (u := .int .i64 (rd l (i : Int))) hL
          rw [this, hrd]
          simp [lastAt]
        · have : lastAt l (i + 1) = l.getD i 0 := by simp [lastAt]
          rw [this]
          simp only [incAt, inr, decide_eq_true_eq] at hq
          omega
        · intro j hj
          by_cases e : j = i
          · subst e; exact hq
          · exact hp j (by omega))
    (fun o => ⟨(below_none (grown_trans hg2 (World.grownBy_alloc _ _ _))), blk_alloc hB2 _, blk_alloc hL2 _, by simp [lastAt], fun j hj => by omega⟩))
  clear hr hB2 hL2
  have H2 := Aside0.mk hw2
  have HG := Aside0.mk hg2
  clear hg2 hsz
  go_enter Tryz.func110, Tryz.ntmps110
  go_wp2_with fail
  rw [hw2] at HC
  clear hw2
  refine HC.out.mono ?_
  rintro e w' ⟨hg, (⟨rfl, _, _, _, _, hp⟩ | ⟨i, hi, rfl, hp⟩)⟩
  · have HE := Aside0.mk (incB_yes hp)
    have HG' := Aside0.mk hg
    clear hp hg HC
    go_wp2
    go_ret
    refine ⟨by rw [HE.out]; rfl, grown_new HG.out (by rw [H2.out]; exact HG'.out) (fun b e => by cases e; omega)⟩
  · have HE := Aside0.mk (incB_no hi hp)
    have HG' := Aside0.mk hg
    clear hp hg HC
    go_wp2
    go_ret
    refine ⟨by rw [HE.out]; rfl, grown_new HG.out (by rw [H2.out]; exact HG'.out) (fun b e => by cases e; omega)⟩
set_option maxHeartbeats 1000000 in
theorem check1_any (A' : Option Addr) (c' : Nat) (l : List Int) (b : Nat) (v0 v2 : Value) (A1 : Option Addr) (np c1 : Nat) (w : World) (hnp : np ≤ 9223372036854775807) (hr : (Kd.int .i64).C w A' l.length l) (hb : w.heap[b]? = some (.cells #[v0, .slice A1 np c1, v2] 34 (0, 0))) :
    Calls Tryz.prog 126 #[.slice A' l.length c', .pointer (some ⟨b, 0, none⟩)] w fun e w' => e = .returned (.bool (incB l np)) ∧ w.grownBy w' none := by
  have hc : w.cell? ⟨b, 1, none⟩ = some (.slice A1 np c1) := (blk_cell hb 1).trans rfl
  have HI := Aside0.mk (incr_any A' c' l np w (by omega) (by omega) hr)
  clear hb hr
  go_enter Tryz.func126, Tryz.ntmps126
  go_wp2_with (go_at_call 110; refine HI.out.mono ?_; rintro e w' ⟨rfl, hg⟩; have HG := Aside0.mk hg; clear hg)
  go_ret
  exact ⟨rfl, HG.out⟩
def rotaErr (need : List Int) (people : List S128) (cases : List (List Int)) (r : List (List Int)) : Int :=
  if postErr need people cases ≠ 0 then postErr need people cases
  else if r.length ≠ need.length ∨ (r.all fun l => incB l people.length) = false then 2 else 0
set_option maxHeartbeats 2000000 in
theorem check_any (A0 : Option Addr) (c0 : Nat) (need : List Int) (A1 : Option Addr) (c1 : Nat) (people : List S128) (A2 : Option Addr) (c2 : Nat) (cases : List (List Int)) (A3 : Option Addr) (c3 : Nat) (r : List (List Int)) (w : World)
    (h0 : (Kd.int .i64).C w A0 need.length need) (h1 : k128.C w A1 people.length people) (h2 : (Kd.slice 3 (Kd.int .i64)).C w A2 cases.length cases) (h3 : (Kd.slice 3 (Kd.int .i64)).C w A3 r.length r) :
    Calls Tryz.prog 78 #[.agg #[.slice A0 need.length c0, .slice A1 people.length c1, .slice A2 cases.length c2], .slice A3 r.length c3] w fun e w' => e = .returned (.int .i64 (rotaErr need people cases r)) ∧ w.grownBy w' none := by
  have hl0 := C_len h0
  have hl1 := C_len h1
  have hl3 := C_len h3
  have HC := Aside0.mk (CheckPost_any A0 c0 need A1 c1 people A2 c2 cases (w.alloc (.cells #[.slice A0 need.length c0, .slice A1 people.length c1, .slice A2 cases.length c2] 34)) (Kd.C_alloc h0 _) (Kd.C_alloc h1 _) (Kd.C_alloc h2 _))
  have HL : Aside0 (∀ W, Below w.heap.size w W → W.heap[w.heap.size]? = some (.cells #[.slice A0 need.length c0, .slice A1 people.length c1, .slice A2 cases.length c2] 34 (0, 0)) → Calls Tryz.prog 77 #[.slice A3 r.length c3, .func (.func 126) #[] #[.pointer (some ⟨w.heap.size, 0, none⟩)]] W fun e w' => e = .returned (.bool (r.all fun l => incB l people.length)) ∧ W.grownBy w' none) := ⟨fun W hb hbx =>
    allL_pure A3 c3 r 126 #[] #[.pointer (some ⟨w.heap.size, 0, none⟩)] (enters_of Tryz.func126 (by kernel_rfl) rfl) W (fun l => incB l people.length) (Kd.C_below h3 hb) fun i W' _ hb' A' c' hl hi => by
      simp only [List.push_toArray, List.append_toArray, List.nil_append, List.cons_append]
      exact check1_any A' c' _ w.heap.size _ _ A1 people.length c1 W' hl1 hi (blk_below hbx hb')⟩
  clear h0 h1 h2 h3
  have G0 : Aside0 (w.grownBy (w.alloc (.cells #[.slice A0 need.length c0, .slice A1 people.length c1, .slice A2 cases.length c2] 34)) none) := ⟨World.grownBy_alloc _ _ _⟩
  have K0 : Aside0 ((w.alloc (.cells #[.slice A0 need.length c0, .slice A1 people.length c1, .slice A2 cases.length c2] 34)).heap[w.heap.size]? = some (.cells #[.slice A0 need.length c0, .slice A1 people.length c1, .slice A2 cases.length c2] 34 (0, 0))) := ⟨blk_new w _⟩
  unfold rotaErr
  generalize hq : postErr need people cases = q at HC ⊢
  clear hq
  by_cases hz : q = 0
  · subst hz
    rw [if_neg (by simp)]
    by_cases h5 : r.length = need.length
    · have b5 : ((r.length : Int) != (need.length : Int)) = false := by rw [bne_eq_false_iff_eq]; omega
      cases q6 : (r.all fun l => incB l people.length) with
      | true =>
        rw [if_neg (by rintro (h | h); · exact h h5
                       · cases h)]
        have Q6 := Aside0.mk q6
        clear q6 h5
        go_enter Tryz.func78, Tryz.ntmps78
        go_wp2_with fail
        refine HC.out.mono ?_
        rintro e W1 ⟨rfl, hg⟩
        have G1 := Aside0.mk (grown_trans G0.out hg)
        have K1 := Aside0.mk (blk_grown K0.out hg (fun _ e => by cases e))
        clear hg
        obtain ⟨bx1, by1, bz1⟩ := box3 K1.out
        go_wp2_with fail
        refine (HL.out _ (below_none G1.out) K1.out).mono ?_
        rintro e W2 ⟨rfl, hg⟩
        have G2 := Aside0.mk (grown_trans G1.out hg)
        clear hg
        rw [Q6.out]
        go_wp2
        go_ret
        exact ⟨rfl, G2.out⟩
      | false =>
        rw [if_pos (.inr rfl)]
        have Q6 := Aside0.mk q6
        clear q6 h5
        go_enter Tryz.func78, Tryz.ntmps78
        go_wp2_with fail
        refine HC.out.mono ?_
        rintro e W1 ⟨rfl, hg⟩
        have G1 := Aside0.mk (grown_trans G0.out hg)
        have K1 := Aside0.mk (blk_grown K0.out hg (fun _ e => by cases e))
        clear hg
        obtain ⟨bx1, by1, bz1⟩ := box3 K1.out
        go_wp2_with fail
        refine (HL.out _ (below_none G1.out) K1.out).mono ?_
        rintro e W2 ⟨rfl, hg⟩
        have G2 := Aside0.mk (grown_trans G1.out hg)
        clear hg
        rw [Q6.out]
        go_wp2
        go_ret
        exact ⟨rfl, G2.out⟩
    · have b5 : ((r.length : Int) != (need.length : Int)) = true := by rw [bne_iff_ne]; omega
      rw [if_pos (.inl h5)]
      clear h5
      go_enter Tryz.func78, Tryz.ntmps78
      go_wp2_with fail
      refine HC.out.mono ?_
      rintro e W1 ⟨rfl, hg⟩
      have G1 := Aside0.mk (grown_trans G0.out hg)
      have K1 := Aside0.mk (blk_grown K0.out hg (fun _ e => by cases e))
      clear hg
      obtain ⟨bx1, by1, bz1⟩ := box3 K1.out
      go_wp2
      go_ret
      exact ⟨rfl, G1.out⟩
  · rw [if_pos hz]
    have bz : (q != 0) = true := by rw [bne_iff_ne]; exact hz
    clear hz
    go_enter Tryz.func78, Tryz.ntmps78
    go_wp2_with fail
    refine HC.out.mono ?_
    rintro e W1 ⟨rfl, hg⟩
    have G1 := Aside0.mk (grown_trans G0.out hg)
    clear hg
    go_wp2
    go_ret
    exact ⟨rfl, G1.out⟩
end Go.Proofs.YtekdacalkllipaaGreat.PR
end
section
namespace Go.Proofs.YtekdacalkllipaaGreat.PR
open Go.RowKit Go.Shelf Go.Proofs.YtekdacalkllipaaGreatW.PrintWords Go.Proofs.YtekdacalkllipaaGreatW.PrintLast Go.Proofs.YtekdacalkllipaaGreatW.PrintMore
set_option linter.unusedVariables false
set_option linter.unusedSimpArgs false
def cmpI (x y : Int) : Int := if x < y then -1 else if y < x then 1 else 0
def cmpL : List Int → List Int → Int
  | [], [] => 0
  | [], _ :: _ => -1
  | _ :: _, [] => 1
  | x :: a, y :: b => if cmpI x y ≠ 0 then cmpI x y else cmpL a b
def cmpS (a b : List Int) : Int := if (a.length : Int) - b.length ≠ 0 then (a.length : Int) - b.length else cmpL a b
theorem isNaN_any (x : Int) (w : World) : Calls Tryz.prog 177 #[.int .i64 x] w fun e w' => e = .returned (.bool false) ∧ w' = w := by
  have h : (x != x) = false := by simp
  go_enter Tryz.func177, Tryz.ntmps177
  go_wp2
  go_ret
  exact ⟨rfl, rfl⟩
set_option maxHeartbeats 1000000 in
theorem cmpC_any (x y : Int) (w : World) : Calls Tryz.prog 157 #[.int .i64 x, .int .i64 y] w fun e w' => e = .returned (.int .i64 (cmpI x y)) ∧ w' = w := by
  by_cases h1 : x < y
  · have hr : cmpI x y = -1 := by rw [cmpI, if_pos h1]
    rw [hr]
    clear hr
    go_enter Tryz.func157, Tryz.ntmps157
    go_wp2_with (go_at_call 177; refine (isNaN_any _ _).mono ?_; rintro e w' ⟨rfl, rfl⟩)
    go_ret
    exact ⟨rfl, rfl⟩
  · by_cases h2 : y < x
    · have hr : cmpI x y = 1 := by rw [cmpI, if_neg h1, if_pos h2]
      rw [hr]
      clear hr
      go_enter Tryz.func157, Tryz.ntmps157
      go_wp2_with (go_at_call 177; refine (isNaN_any _ _).mono ?_; rintro e w' ⟨rfl, rfl⟩)
      go_ret
      exact ⟨rfl, rfl⟩
    · have hr : cmpI x y = 0 := by rw [cmpI, if_neg h1, if_neg h2]
      rw [hr]
      clear hr
      go_enter Tryz.func157, Tryz.ntmps157
      go_wp2_with (go_at_call 177; refine (isNaN_any _ _).mono ?_; rintro e w' ⟨rfl, rfl⟩)
      go_ret
      exact ⟨rfl, rfl⟩
set_option maxHeartbeats 4000000 in
theorem Compare_any (A0 : Option Addr) (c0 : Nat) (a : List Int) (A1 : Option Addr) (c1 : Nat) (b : List Int) (w : World) (ha : (Kd.int .i64).C w A0 a.length a) (hb : (Kd.int .i64).C w A1 b.length b) :
    Calls Tryz.prog 133 #[.slice A0 a.length c0, .slice A1 b.length c1] w fun e w' => e = .returned (.int .i64 (cmpL a b)) ∧ w' = w := by
  have hla := C_len ha
  have hlb := C_len hb
  obtain ⟨R, hR⟩ : ∃ R, R = cmpL a b := ⟨_, rfl⟩
  rw [← hR]
  have HR := Aside0.mk hR
  have HA := Aside0.mk ha
  have HB := Aside0.mk hb
  clear hR ha hb
  go_enter Tryz.func133, Tryz.ntmps133
  go_wp2
  go_loopg [11] a.length (fun gg s11 wr => ∃ (kk : Nat), kk ≤ a.length ∧ kk ≤ b.length ∧ a.length - kk ≤ gg ∧ s11 = .int .i64 kk ∧ Aside0 (R = cmpL (a.drop kk) (b.drop kk)) ∧ w = wr)
  case atStart => exact ⟨0, Nat.zero_le _, Nat.zero_le _, by omega, rfl, ⟨by rw [HR.out]; rfl⟩, rfl⟩
  case round =>
    obtain ⟨kk, hka, hkb, hg, rfl, hI, rfl⟩ := hrel
    by_cases hlt : kk < a.length
    · have hltz : (kk : Int) < (a.length : Int) := by omega
      obtain ⟨ada, ea, hxa⟩ := Kd.at_int HA.out (kk : Int) (by omega) (by omega)
      cases ea
      have hxa' : w.cell? (ada.add kk) = some (.int .i64 (rd a kk)) := hxa
      have hda : a.drop kk = rd a kk :: a.drop (kk + 1) := by rw [List.drop_eq_getElem_cons hlt]; simp [rd, hlt]
      by_cases hlb2 : kk < b.length
      · have hlbz : ¬ (kk : Int) ≥ (b.length : Int) := by omega
        have hlbz2 : (kk : Int) < (b.length : Int) := by omega
        obtain ⟨adb, eb, hxb⟩ := Kd.at_int HB.out (kk : Int) (by omega) (by omega)
        cases eb
        have hxb' : w.cell? (adb.add kk) = some (.int .i64 (rd b kk)) := hxb
        have hdb : b.drop kk = rd b kk :: b.drop (kk + 1) := by rw [List.drop_eq_getElem_cons hlb2]; simp [rd, hlb2]
        have hA := hI.out
        rw [hda, hdb, cmpL] at hA
        generalize rd a kk = x at *
        generalize rd b kk = y at *
        have HX := Aside0.mk hA
        clear hA hxa hxb hda hdb hI
        obtain ⟨q, hq⟩ : ∃ q, q = cmpI x y := ⟨_, rfl⟩
        rw [← hq] at HX
        have HC : Aside0 (∀ W, Calls Tryz.prog 157 #[.int .i64 x, .int .i64 y] W fun e w' => e = .returned (.int .i64 q) ∧ w' = W) := ⟨by rw [hq]; exact fun W => cmpC_any x y W⟩
        clear hq
        by_cases hz : q = 0
        · have hzb : (q != 0) = false := by simp [hz]
          have HX2 : Aside0 (R = cmpL (a.drop (kk + 1)) (b.drop (kk + 1))) := ⟨by rw [HX.out, if_neg (by simp [hz])]⟩
          clear HX hz
          go_wp2_with (go_at_call 157; refine (HC.out _).mono ?_; rintro e w' ⟨rfl, rfl⟩)
          go_roundg (a.length - (kk + 1))
          case measure => omega
          case rel => exact ⟨kk + 1, by omega, by omega, by omega, by push_cast; rfl, HX2, rfl⟩
        · have hzb : (q != 0) = true := by simp [hz]
          have HX2 : Aside0 (R = q) := ⟨by rw [HX.out, if_pos hz]⟩
          clear HX hz
          go_wp2_with (go_at_call 157; refine (HC.out _).mono ?_; rintro e w' ⟨rfl, rfl⟩)
          go_ret
          exact ⟨by rw [HX2.out]; rfl, rfl⟩
      · have hlbz : (kk : Int) ≥ (b.length : Int) := by omega
        have hlbz2 : ¬ (kk : Int) < (b.length : Int) := by omega
        have hlbz3 : (b.length : Int) ≤ (kk : Int) := by omega
        have HX : Aside0 (R = 1) := ⟨by rw [hI.out, hda, List.drop_eq_nil_of_le (show b.length ≤ kk by omega), cmpL]⟩
        clear hda hxa hI
        go_wp2
        go_ret
        exact ⟨by rw [HX.out]; rfl, rfl⟩
    · have hltz : ¬ (kk : Int) < (a.length : Int) := by omega
      obtain rfl : kk = a.length := by omega
      have hda : a.drop a.length = [] := List.drop_length
      by_cases hlb2 : a.length < b.length
      · have hlbz : (a.length : Int) < (b.length : Int) := by omega
        have HX : Aside0 (R = -1) := ⟨by rw [hI.out, hda, List.drop_eq_getElem_cons hlb2, cmpL]⟩
        clear hda hI
        go_wp2
        go_ret
        exact ⟨by rw [HX.out]; rfl, rfl⟩
      · have hlbz : ¬ (a.length : Int) < (b.length : Int) := by omega
        have HX : Aside0 (R = 0) := ⟨by rw [hI.out, hda, List.drop_eq_nil_of_le (show b.length ≤ a.length by omega), cmpL]⟩
        clear hda hI
        go_wp2
        go_ret
        exact ⟨by rw [HX.out]; rfl, rfl⟩
def or2 (x y : Int) : Int := if x ≠ 0 then x else y
set_option maxHeartbeats 4000000 in
theorem Or_two (b : Nat) (x y : Int) (w : World) (hx : w.cell? ⟨b, 0, none⟩ = some (.int .i64 x)) (hy : w.cell? ⟨b, 1, none⟩ = some (.int .i64 y)) :
    Calls Tryz.prog 132 #[.slice (some ⟨b, 0, none⟩) 2 2] w fun e w' => e = .returned (.int .i64 (or2 x y)) ∧ w' = w := by
  by_cases h : x = 0
  · have hb : (x != 0) = false := by simp [h]
    have hr : or2 x y = y := by rw [or2, if_neg (by simp [h])]
    rw [hr]
    clear hr h
    by_cases h2 : y = 0
    · have hb2 : (y != 0) = false := by simp [h2]
      have H2 := Aside0.mk h2
      clear h2
      go_enter Tryz.func132, Tryz.ntmps132
      go_wp2
      refine wp_loop_rounds 3 ?_
      repeat (rw [rounds_succ]; go_wp2)
      go_ret
      exact ⟨by rw [H2.out]; rfl, rfl⟩
    · have hb2 : (y != 0) = true := by simp [h2]
      clear h2
      go_enter Tryz.func132, Tryz.ntmps132
      go_wp2
      refine wp_loop_rounds 3 ?_
      repeat (rw [rounds_succ]; go_wp2)
      go_ret
      exact ⟨rfl, rfl⟩
  · have hb : (x != 0) = true := by simp [h]
    have hr : or2 x y = x := by rw [or2, if_pos h]
    rw [hr]
    clear hr h
    go_enter Tryz.func132, Tryz.ntmps132
    go_wp2
    refine wp_loop_rounds 3 ?_
    repeat (rw [rounds_succ]; go_wp2)
    go_ret
    exact ⟨rfl, rfl⟩
set_option maxHeartbeats 4000000 in
theorem lists1_any (A0 : Option Addr) (c0 : Nat) (a : List Int) (A1 : Option Addr) (c1 : Nat) (b : List Int) (w : World) (ha : (Kd.int .i64).C w A0 a.length a) (hb : (Kd.int .i64).C w A1 b.length b) (hal : a.length < 1000) (hbl : b.length < 1000) :
    Calls Tryz.prog 131 #[.slice A0 a.length c0, .slice A1 b.length c1] w fun e w' => e = .returned (.int .i64 (cmpS a b)) ∧ ∃ o, w' = w.alloc o := by
  have HC := Aside0.mk (Compare_any A0 c0 a A1 c1 b w ha hb)
  obtain ⟨q, hq⟩ : ∃ q, q = cmpL a b := ⟨_, rfl⟩
  rw [← hq] at HC
  have hr : cmpS a b = or2 ((a.length : Int) - b.length) q := by rw [cmpS, or2, hq]
  rw [hr]
  have HO : Aside0 (Calls Tryz.prog 132 #[.slice (some ⟨w.heap.size, 0, none⟩) 2 2] (w.alloc (.cells #[.int .i64 ((a.length : Int) - b.length), .int .i64 q] 3)) fun e w' => e = .returned (.int .i64 (or2 ((a.length : Int) - b.length) q)) ∧ w' = (w.alloc (.cells #[.int .i64 ((a.length : Int) - b.length), .int .i64 q] 3))) := ⟨Or_two w.heap.size _ _ _ ((blk_cell (blk_new w _) 0).trans rfl) ((blk_cell (blk_new w _) 1).trans rfl)⟩
  have hw : wrap64 ((a.length : Int) - b.length) = (a.length : Int) - b.length := by unfold wrap64; omega
  clear hq hr ha hb
  go_enter Tryz.func131, Tryz.ntmps131
  go_wp2_with fail
  refine HC.out.mono ?_
  rintro e w' ⟨rfl, rfl⟩
  go_wp2_with fail
  refine HO.out.mono ?_
  rintro e w' ⟨rfl, rfl⟩
  go_wp2
  go_ret
  exact ⟨rfl, _, rfl⟩
end Go.Proofs.YtekdacalkllipaaGreat.PR
end
section
namespace Go.Proofs
open Go.Shelf
def Tryz.laysSlF6_f130_ren : Go.Shelf.Ren := ⟨fun | 6 => 130 | 15 => 156 | 14 => 155 | 28 => 175 | 29 => 176 | 20 => 167 | 21 => 168 | 22 => 169 | 23 => 170 | 24 => 171 | 25 => 172 | 26 => 173 | 27 => 174 | 46 => 181 | 47 => 182 | 48 => 183 | 49 => 184 | 50 => 185 | 57 => 186 | n => n, fun | 22 => 24 | 24 => 22 | 25 => 187 | 3 => 3 | 39 => 106 | 0 => 0 | 53 => 220 | 55 => 222 | 4 => 4 | 46 => 214 | 45 => 213 | 50 => 165 | 5 => 5 | 9 => 9 | 66 => 228 | 70 => 232 | 76 => 234 | 77 => 164 | n => n, fun | n => n⟩
theorem Tryz.laysSlF6_f130 : Go.Proofs.SlLaysF.n6 Tryz.prog Tryz.laysSlF6_f130_ren := {
  mixed := by kernel_rfl
  f6 := ⟨Tryz.f130.name, by decide, Tryz.func130.trans (congrArg some (by kernel_rfl))⟩
  f14 := ⟨Tryz.f155.name, by decide, Tryz.func155.trans (congrArg some (by kernel_rfl))⟩
  f15 := Tryz.func156.trans (congrArg some (by kernel_rfl))
  f20 := ⟨Tryz.f167.name, by decide, Tryz.func167.trans (congrArg some (by kernel_rfl))⟩
  f21 := ⟨Tryz.f168.name, by decide, Tryz.func168.trans (congrArg some (by kernel_rfl))⟩
  f22 := ⟨Tryz.f169.name, by decide, Tryz.func169.trans (congrArg some (by kernel_rfl))⟩
  f23 := ⟨Tryz.f170.name, by decide, Tryz.func170.trans (congrArg some (by kernel_rfl))⟩
  f24 := ⟨Tryz.f171.name, by decide, Tryz.func171.trans (congrArg some (by kernel_rfl))⟩
  f25 := ⟨Tryz.f172.name, by decide, Tryz.func172.trans (congrArg some (by kernel_rfl))⟩
  f26 := ⟨Tryz.f173.name, by decide, Tryz.func173.trans (congrArg some (by kernel_rfl))⟩
  f27 := ⟨Tryz.f174.name, by decide, Tryz.func174.trans (congrArg some (by kernel_rfl))⟩
  f28 := Tryz.func175.trans (congrArg some (by kernel_rfl))
  f29 := Tryz.func176.trans (congrArg some (by kernel_rfl))
  f46 := ⟨Tryz.f181.name, by decide, Tryz.func181.trans (congrArg some (by kernel_rfl))⟩
  f47 := Tryz.func182.trans (congrArg some (by kernel_rfl))
  f48 := Tryz.func183.trans (congrArg some (by kernel_rfl))
  f49 := ⟨Tryz.f184.name, by decide, Tryz.func184.trans (congrArg some (by kernel_rfl))⟩
  f50 := ⟨Tryz.f185.name, by decide, Tryz.func185.trans (congrArg some (by kernel_rfl))⟩
  f57 := ⟨Tryz.f186.name, by decide, Tryz.func186.trans (congrArg some (by kernel_rfl))⟩
  t0 := Tryz.underlying0
  a0 := Tryz.isAgg0
  z0 := Tryz.sizeOf0
  v0 := Tryz.zeroValue0
  t3 := Tryz.underlying3
  a3 := Tryz.isAgg3
  z3 := Tryz.sizeOf3
  v3 := Tryz.zeroValue3
  t4 := Tryz.underlying4
  a4 := Tryz.isAgg4
  z4 := Tryz.sizeOf4
  v4 := Tryz.zeroValue4
  t5 := Tryz.underlying5
  a5 := Tryz.isAgg5
  z5 := Tryz.sizeOf5
  v5 := Tryz.zeroValue5
  t9 := Tryz.underlying9
  a9 := Tryz.isAgg9
  z9 := Tryz.sizeOf9
  v9 := Tryz.zeroValue9
  t22 := Tryz.underlying24
  a22 := Tryz.isAgg24
  z22 := Tryz.sizeOf24
  v22 := Tryz.zeroValue24
  a24 := Tryz.isAgg22
  z24 := Tryz.sizeOf22
  t25 := Tryz.underlying187
  a25 := Tryz.isAgg187
  z25 := Tryz.sizeOf187
  v25 := Tryz.zeroValue187
  t39 := Tryz.underlying106
  a39 := Tryz.isAgg106
  z39 := Tryz.sizeOf106
  v39 := Tryz.zeroValue106
  t45 := Tryz.underlying213
  a45 := Tryz.isAgg213
  z45 := Tryz.sizeOf213
  v45 := Tryz.zeroValue213
  t46 := Tryz.underlying214
  a46 := Tryz.isAgg214
  z46 := Tryz.sizeOf214
  v46 := Tryz.zeroValue214
  t50 := Tryz.underlying165
  a50 := Tryz.isAgg165
  z50 := Tryz.sizeOf165
  v50 := Tryz.zeroValue165
  t53 := Tryz.underlying220
  a53 := Tryz.isAgg220
  z53 := Tryz.sizeOf220
  v53 := Tryz.zeroValue220
  t55 := Tryz.underlying222
  a55 := Tryz.isAgg222
  z55 := Tryz.sizeOf222
  v55 := Tryz.zeroValue222
  t66 := Tryz.underlying228
  a66 := Tryz.isAgg228
  z66 := Tryz.sizeOf228
  v66 := Tryz.zeroValue228
  t70 := Tryz.underlying232
  a70 := Tryz.isAgg232
  z70 := Tryz.sizeOf232
  v70 := Tryz.zeroValue232
  t76 := Tryz.underlying234
  a76 := Tryz.isAgg234
  z76 := Tryz.sizeOf234
  v76 := Tryz.zeroValue234
  t77 := Tryz.underlying164
  a77 := Tryz.isAgg164
  z77 := Tryz.sizeOf164
  v77 := Tryz.zeroValue164 }
open Go.RowKit Go.Lib Go.Sort in
theorem Tryz.slices_SortFunc_total {α : Type} [Inhabited α] (enc : α → Value) (h1 : OneCell enc) (cf : α → α → Int) (hO : SWO (ltOf cf)) (g : Nat) (cb : Array Value) (blk off cap : Nat) (d : Array α) (w : World) (eg : ∀ args w, (callFunc g args).run Tryz.prog w = .ok (.enter g args) w) (hcmp : CmpLays1 Tryz.prog g cb enc cf blk off d.size w) (hH : Holds enc w blk off d) (hblk : blk < w.heap.size) (hsz : d.size < 4611686018427387904) (hT : ∀ x y, (ltOf cf) x y = false → (ltOf cf) y x = false → x = y) :
    Calls Tryz.prog 130 #[.slice (some ⟨blk, off, none⟩) d.size cap, .func (.func g) #[] cb] w fun e w' =>
      e = .returned (.tuple #[]) ∧ ∃ n os, w' = sortWorld enc w blk off n (d.toList.mergeSort fun x y => !(ltOf cf) y x).toArray os := Any.slices_SortFunc_total Tryz.laysSlF6_f130 enc h1 cf hO g cb blk off cap d w eg hcmp hH hblk hsz hT
end Go.Proofs
end
section
namespace Go.Proofs.YtekdacalkllipaaGreat.PR
open Go.RowKit Go.Shelf Go.Lib Go.Proofs.YtekdacalkllipaaGreatW.PrintWords Go.Proofs.YtekdacalkllipaaGreatW.PrintLast Go.Proofs.YtekdacalkllipaaGreatW.PrintMore
set_option linter.unusedVariables false
set_option linter.unusedSimpArgs false
theorem R_slice {e b : Nat} {W : World} {ok : Nat → Prop} {v : Value} {xs : List Int} (h : (Kd.int .i64).R e W b ok v xs) : ∃ A c, v = .slice A xs.length c := by
  obtain ⟨_, inner, ho, _⟩ := h
  rcases ho.2 with ⟨rfl, h0⟩ | ⟨g, cap, cur, rfl, _⟩
  · exact ⟨none, 0, by rw [h0]⟩
  · exact ⟨_, _, rfl⟩
def dutiesS (r : List (List Int)) : Int := (r.flatten.length : Nat)
end Go.Proofs.YtekdacalkllipaaGreat.PR
end
section
namespace Go.Proofs.YtekdacalkllipaaGreat.PR
open Go.RowKit Go.Shelf Go.Proofs.YtekdacalkllipaaGreatW.PrintWords Go.Proofs.YtekdacalkllipaaGreatW.PrintLast Go.Proofs.YtekdacalkllipaaGreatW.PrintMore
set_option linter.unusedVariables false
set_option linter.unusedSimpArgs false
def bitB (bits k : Nat) : Bool := bits / 2 ^ k % 2 == 1
def subK (people : List Int) (bits k : Nat) : List Int := ((List.range k).filter (bitB bits)).map fun j => people.getD j 0
def subL (people : List Int) (bits : Nat) : List Int := subK people bits people.length
theorem bit_int (bits k : Nat) : (((bits : Int) / 2 ^ k).tmod 2 == 1) = bitB bits k := by
  have h1 : ((bits : Int) / 2 ^ k) = ((bits / 2 ^ k : Nat) : Int) := by push_cast; rfl
  have h2 : (((bits / 2 ^ k : Nat) : Int)).tmod 2 = ((bits / 2 ^ k % 2 : Nat) : Int) := rfl
  rw [h1, h2, bitB]
  by_cases h : bits / 2 ^ k % 2 = 1
  · rw [h]; rfl
  · have : bits / 2 ^ k % 2 = 0 := by omega
    rw [this]; rfl
theorem subK_snoc (people : List Int) (bits k : Nat) : subK people bits (k + 1) = subK people bits k ++ (if bitB bits k = true then [rd people k] else []) := by
  rw [subK, List.range_succ, List.filter_append, List.map_append]
  congr 1
  by_cases h : bitB bits k = true
  · simp [h, rd]
  · simp [h]
theorem subK_len (people : List Int) (bits k : Nat) : (subK people bits k).length ≤ k := by
  rw [subK, List.length_map]
  exact Nat.le_trans (List.length_filter_le _ _) (by simp)
theorem pow_bd (n : Nat) (h : n ≤ 4) : 1 ≤ 2 ^ n ∧ 2 ^ n ≤ 16 := ⟨Nat.one_le_two_pow, Nat.pow_le_pow_right (by omega) h⟩
end Go.Proofs.YtekdacalkllipaaGreat.PR
end
section
namespace Go.Proofs.YtekdacalkllipaaGreat.PR
open Go.RowKit Go.Shelf Go.Lib Go.Sort Go.Proofs.YtekdacalkllipaaGreatW.PrintWords Go.Proofs.YtekdacalkllipaaGreatW.PrintLast Go.Proofs.YtekdacalkllipaaGreatW.PrintMore
set_option linter.unusedVariables false
set_option linter.unusedSimpArgs false
theorem cmpI_swap (x y : Int) : cmpI y x = - cmpI x y := by unfold cmpI; split <;> split <;> omega
theorem cmpI_zero {x y : Int} (h : cmpI x y = 0) : x = y := by unfold cmpI at h; split at h <;> (try split at h) <;> omega
theorem cmpI_self (x : Int) : cmpI x x = 0 := by unfold cmpI; simp
theorem cmpI_neg {x y : Int} : cmpI x y < 0 ↔ x < y := by
  unfold cmpI
  by_cases h : x < y
  · simp [h]
  · by_cases h2 : y < x
    · simp [h, h2]
    · simp [h, h2]
theorem cmpL_swap (a b : List Int) : cmpL b a = - cmpL a b := by
  induction a generalizing b with
  | nil => cases b <;> rfl
  | cons x a ih =>
    cases b with
    | nil => rfl
    | cons y b =>
      have h := cmpI_swap x y
      rw [cmpL, cmpL, ih b, h]
      by_cases hz : cmpI x y = 0
      · simp [hz]
      · rw [if_pos (by omega), if_pos hz]
theorem cmpL_zero {a b : List Int} (h : cmpL a b = 0) : a = b := by
  induction a generalizing b with
  | nil => cases b with
    | nil => rfl
    | cons y b => cases h
  | cons x a ih =>
    cases b with
    | nil => cases h
    | cons y b =>
      rw [cmpL] at h
      by_cases hz : cmpI x y = 0
      · rw [if_neg (by simp [hz])] at h
        rw [cmpI_zero hz, ih h]
      · rw [if_pos hz] at h
        exact absurd h hz
theorem cmpL_trans {a b c : List Int} (h1 : cmpL a b < 0) (h2 : cmpL b c < 0) : cmpL a c < 0 := by
  induction a generalizing b c with
  | nil => cases b with
    | nil => exact absurd h1 (by simp [cmpL])
    | cons y b => cases c with
      | nil => exact absurd h2 (by simp [cmpL])
      | cons z c => simp [cmpL]
  | cons x a ih =>
    cases b with
    | nil => exact absurd h1 (by simp [cmpL])
    | cons y b => cases c with
      | nil => exact absurd h2 (by simp [cmpL])
      | cons z c =>
        rw [cmpL] at h1 h2 ⊢
        by_cases e1 : cmpI x y = 0
        · have := cmpI_zero e1; subst this
          rw [if_neg (by simp [e1])] at h1
          by_cases e2 : cmpI x z = 0
          · rw [if_neg (by simp [e2])] at h2 ⊢
            exact ih h1 h2
          · rw [if_pos e2] at h2 ⊢
            exact h2
        · rw [if_pos e1] at h1
          have l1 := cmpI_neg.1 h1
          by_cases e2 : cmpI y z = 0
          · have := cmpI_zero e2; subst this
            rw [if_pos e1]; exact h1
          · rw [if_pos e2] at h2
            have l2 := cmpI_neg.1 h2
            have l3 : cmpI x z < 0 := cmpI_neg.2 (by omega)
            rw [if_pos (by omega)]
            exact l3
theorem cmpS_swap (a b : List Int) : cmpS b a = - cmpS a b := by
  rw [cmpS, cmpS, cmpL_swap a b]
  by_cases h : (a.length : Int) - b.length = 0
  · rw [if_neg (by omega), if_neg (by omega)]
  · rw [if_pos (by omega), if_pos (by omega)]; omega
theorem cmpS_zero {a b : List Int} (h : cmpS a b = 0) : a = b := by
  rw [cmpS] at h
  by_cases hl : (a.length : Int) - b.length = 0
  · rw [if_neg (by omega)] at h; exact cmpL_zero h
  · rw [if_pos (by omega)] at h; exact absurd h hl
theorem cmpS_trans {a b c : List Int} (h1 : cmpS a b < 0) (h2 : cmpS b c < 0) : cmpS a c < 0 := by
  rw [cmpS] at h1 h2 ⊢
  by_cases e1 : (a.length : Int) - b.length = 0
  · rw [if_neg (by omega)] at h1
    by_cases e2 : (b.length : Int) - c.length = 0
    · rw [if_neg (by omega)] at h2
      rw [if_neg (by omega)]
      exact cmpL_trans h1 h2
    · rw [if_pos (by omega)] at h2
      rw [if_pos (by omega)]; omega
  · rw [if_pos (by omega)] at h1
    by_cases e2 : (b.length : Int) - c.length = 0
    · rw [if_pos (by omega)]; omega
    · rw [if_pos (by omega)] at h2
      rw [if_pos (by omega)]; omega
theorem cmpS_self (a : List Int) : cmpS a a = 0 := by have := cmpS_swap a a; omega
theorem swo_of {α : Type} (L : α → List Int) : SWO (ltOf fun x y => cmpS (L x) (L y)) := by
  refine ⟨fun x => ?_, fun x y z h1 h2 => ?_, fun x y z h1 h2 => ?_⟩
  · simp [ltOf, cmpS_self]
  · simp only [ltOf, decide_eq_true_eq] at *
    exact cmpS_trans h1 h2
  · simp only [ltOf, decide_eq_false_iff_not] at *
    intro h3
    by_cases z1 : cmpS (L x) (L y) = 0
    · rw [cmpS_zero z1] at h3; exact h2 h3
    · by_cases z2 : cmpS (L y) (L z) = 0
      · rw [← cmpS_zero z2] at h3; exact h1 h3
      · have s1 := cmpS_swap (L x) (L y)
        have s2 := cmpS_swap (L y) (L z)
        have s3 := cmpS_swap (L x) (L z)
        have := cmpS_trans (a := L z) (b := L y) (c := L x) (by omega) (by omega)
        omega
def sortL (l : List (List Int)) : List (List Int) := l.mergeSort fun a b => !(decide (cmpS b a < 0))
def listsS (people : List Int) : List (List Int) := sortL ((List.range (2 ^ people.length)).map (subL people))
theorem far_sort {α : Type} [Inhabited α] (enc : α → Value) (W : World) (blk off m : Nat) (dk : Array α) (os : Array Obj) (k : Nat) (hk : k < W.heap.size) (hne : k ≠ blk) : (sortWorld enc W blk off m dk os).heap[k]? = W.heap[k]? := by
  unfold sortWorld grow putRow mapBlock Sort.ahead
  rw [Array.getElem?_append_left (by simpa using hk)]
  show (W.heap.modify blk _)[k]? = _
  rw [Array.getElem?_modify, if_neg (Ne.symm hne)]
theorem sort_below {α : Type} [Inhabited α] (enc : α → Value) (w W : World) (base blk off m : Nat) (dk : Array α) (os : Array Obj) (hb : Below base w W) (hblk : base ≤ blk) (hB : base ≤ W.heap.size) : Below base w (sortWorld enc W blk off m dk os) := by
  refine hb.trans ⟨rfl, rfl, rfl, ?_, fun k hk => far_sort enc W blk off m dk os k (by omega) (by omega)⟩
  unfold sortWorld grow putRow mapBlock Sort.ahead
  simp
end Go.Proofs.YtekdacalkllipaaGreat.PR
end
section
namespace Go.Proofs.YtekdacalkllipaaGreat.PR
open Go.RowKit Go.Shelf Go.Lib Go.Sort Go.Proofs.YtekdacalkllipaaGreatW.PrintWords Go.Proofs.YtekdacalkllipaaGreatW.PrintLast Go.Proofs.YtekdacalkllipaaGreatW.PrintMore
set_option linter.unusedVariables false
set_option linter.unusedSimpArgs false
theorem map_fin {β : Type} (l : List β) : (List.finRange l.length).map (fun i => l[i]) = l := by
  apply List.ext_getElem
  · simp
  · intro i h1 h2; simp
def StayFrom (b : Nat) (W W' : World) : Prop := ∀ g o, b ≤ g → W.heap[g]? = some o → o.isCells = true → W'.heap[g]? = some o
theorem StayFrom.refl (b : Nat) (W : World) : StayFrom b W W := fun _ _ _ h _ => h
set_option maxHeartbeats 1000000 in
theorem sort_rows (W : World) (base g n cap : Nat) (ok : Nat → Prop) (Ls : List (List Int)) (hS : (Kd.slice 3 (Kd.int .i64)).R 22 W base ok (.slice (some ⟨g, 0, none⟩) n cap) Ls)
    (hnd : Ls.Nodup) (hlen : ∀ l ∈ Ls, l.length < 1000) (hpos : 0 < Ls.length) (hsm : Ls.length < 1000) :
    Calls Tryz.prog 130 #[.slice (some ⟨g, 0, none⟩) n cap, .func (.func 131) #[] #[]] W fun e w' => e = .returned (.tuple #[]) ∧
      (∀ w b, Below b w W → b ≤ g → b ≤ W.heap.size → Below b w w') ∧ (∀ W', StayFrom base w' W' → (Kd.slice 3 (Kd.int .i64)).C W' (some ⟨g, 0, none⟩) Ls.length (sortL Ls)) ∧ n = Ls.length ∧ Ls.length ≤ cap := by
  obtain ⟨hok, inner, ho, hr⟩ := hS
  rcases ho.2 with ⟨hv, h0⟩ | ⟨g', cap', cur, hv, hb, hh, hnc, hcm, hcs, ht⟩
  · omega
  injection hv with ha hnn hcc
  injection ha with ha
  injection ha with hg
  subst hg
  subst hcc
  subst hnn
  have hil : inner.length = Ls.length := by have := ho.1; simpa [Kd.slice] using this
  have hcur : cur.size = cap := by simpa [Kd.slice] using hcs
  have hblk : g < W.heap.size := blk_lt hh
  have hfact : ∀ i : Fin Ls.length, ∃ A c, inner[i]'(by omega) = .slice A (Ls[i]).length c ∧ (Ls[i]).length ≤ c ∧ ∀ W' : World, (∀ k cs q, base ≤ k → k ≠ g → W.heap[k]? = some (.cells cs q (0, 0)) → W'.heap[k]? = W.heap[k]?) → (Kd.int .i64).C W' A (Ls[i]).length Ls[i] := by
    intro i
    obtain ⟨v, hv, hR⟩ := hr.2 i.1 Ls[i] (List.getElem?_eq_getElem i.2)
    have hvi : inner[i]'(by omega) = v := by
      have : inner[i.1]? = some v := by
        have h1 : ((inner.drop (i.1 * 1)).take 1)[0]? = some v := by
          have h2 : (inner.drop (i.1 * 1)).take 1 = [v] := hv
          rw [h2]; rfl
        rw [List.getElem?_take] at h1
        simpa using h1
      rw [List.getElem?_eq_getElem (by omega)] at this
      exact Option.some.inj this
    obtain ⟨A, c, e1, e2, _⟩ := Kd.R_reads hR
    refine ⟨A, c, by rw [hvi, e1], e2, fun W' hW' => ?_⟩
    have hR' : (Kd.int .i64).R 3 W' base _ v Ls[i] := Kd.R_move (Kd.R_mono (Kd.R_bound hR) (fun _ h => h)) (fun k hk => by obtain ⟨h1, h2, h3, q, _, cs, hc⟩ := hk; exact hW' k cs q h2 (fun e => h1.2 (by rw [e]; rfl)) hc)
    obtain ⟨A', c', e1', _, hC⟩ := Kd.R_reads hR'
    rw [e1] at e1'
    injection e1' with q1 q2 q3
    rw [q1]; exact hC
  let enc : Fin Ls.length → Value := fun i => inner[i]'(by omega)
  have : Inhabited (Fin Ls.length) := ⟨⟨0, hpos⟩⟩
  have h1 : OneCell enc := fun i => by
    obtain ⟨A, c, e, _⟩ := hfact i
    show (inner[i]'(by omega)).oneCell' = true
    rw [e]; rfl
  let L : Fin Ls.length → List Int := fun i => Ls[i]
  have hlL : ∀ i, (L i).length < 1000 := fun i => hlen _ (List.getElem_mem _)
  have hcmp : CmpLays1 Tryz.prog 131 #[] enc (fun x y => cmpS (L x) (L y)) g 0 (List.finRange Ls.length).toArray.size W := by
    intro m os dk _ x y
    obtain ⟨A, c, e, _, hC⟩ := hfact x
    obtain ⟨A', c', e', _, hC'⟩ := hfact y
    have k1 := hC (sortWorld enc W g 0 m dk os) (fun k cs q _ hk hc => far_sort enc W g 0 m dk os k (blk_lt hc) hk)
    have k2 := hC' (sortWorld enc W g 0 m dk os) (fun k cs q _ hk hc => far_sort enc W g 0 m dk os k (blk_lt hc) hk)
    have h := lists1_any A c (L x) A' c' (L y) _ k1 k2 (hlL x) (hlL y)
    have he : (#[enc x, enc y] ++ #[] : Array Value) = #[.slice A (L x).length c, .slice A' (L y).length c'] := by
      show #[inner[x]'(by omega), inner[y]'(by omega)] ++ #[] = _
      rw [e, e']; rfl
    rw [he]
    refine h.mono ?_
    rintro e w' ⟨rfl, o, rfl⟩
    exact ⟨rfl, 0, #[o], alloc_eq_grow _ _⟩
  have hsz : (List.finRange Ls.length).toArray.size = Ls.length := by simp
  have hH : Holds enc W g 0 (List.finRange Ls.length).toArray := by
    intro j hj
    rw [hsz] at hj
    have hjt : (List.finRange Ls.length).toArray[j]! = ⟨j, hj⟩ := by
      rw [getElem!_pos _ j (by rw [hsz]; exact hj)]; simp
    rw [hjt]
    refine ⟨?_, blk_frozen hh _⟩
    rw [blk_cell hh, Nat.zero_add]
    show _ = some (inner[j]'(by omega))
    have : inner[j]? = some (inner[j]'(by omega)) := List.getElem?_eq_getElem _
    rw [← this, ← ht, List.getElem?_take, if_pos (by simpa [Kd.slice] using hj), Array.getElem?_toList]
  have hT : ∀ x y, (ltOf fun x y => cmpS (L x) (L y)) x y = false → (ltOf fun x y => cmpS (L x) (L y)) y x = false → x = y := by
    intro x y a b
    simp only [ltOf, decide_eq_false_iff_not] at a b
    have s := cmpS_swap (L x) (L y)
    have hz : L x = L y := cmpS_zero (by omega)
    have := (List.getElem_inj hnd (i := x.1) (j := y.1)).1 hz
    exact Fin.ext this
  have h := Tryz.slices_SortFunc_total enc h1 (fun x y => cmpS (L x) (L y)) (swo_of L) 131 #[] g 0 cap (List.finRange Ls.length).toArray W (enters_of Tryz.func131 (by kernel_rfl) rfl) hcmp hH hblk (by rw [hsz]; omega) hT
  rw [hsz] at h
  refine h.mono ?_
  rintro e w' ⟨rfl, m, os, rfl⟩
  refine ⟨rfl, fun w b hb hbg hbW => sort_below enc w W b g 0 m _ os hb hbg hbW, ?_, rfl, hnc⟩
  obtain ⟨P, hP⟩ : ∃ P, P = ((List.finRange Ls.length).toArray.toList.mergeSort fun x y => !(ltOf fun x y => cmpS (L x) (L y)) y x) := ⟨_, rfl⟩
  rw [← hP]
  have hPl : P.length = Ls.length := by rw [hP, List.length_mergeSort]; simp
  have hPm : sortL Ls = P.map L := by
    rw [hP, List.map_mergeSort (r := fun x y => !(ltOf fun x y => cmpS (L x) (L y)) y x) (s := fun a b => !(decide (cmpS b a < 0)))]
    · rw [sortL]
      congr 1
      exact (map_fin Ls).symm
    · intro x _ y _
      simp [ltOf]
  have hH2 : Holds enc (sortWorld enc W g 0 m P.toArray os) g 0 P.toArray := holds_sortWorld enc W g 0 m _ P.toArray os hblk hH (by rw [hsz]; simpa using hPl)
  rw [hPm]
  intro W2 hW2
  refine ⟨by rw [List.length_map, hPl], by omega, fun _ => ⟨⟨g, 0, none⟩, rfl, fun j p hj => ?_⟩⟩
  rw [List.getElem?_map] at hj
  obtain ⟨i, hi, rfl⟩ := Option.map_eq_some_iff.1 hj
  obtain ⟨A, c, e, hc, hC⟩ := hfact i
  have hjl : j < P.length := (List.getElem?_eq_some_iff.1 hi).1
  refine ⟨[enc i], rfl, ⟨A, c, by show [inner[i]'(by omega)] = _; rw [e], hc, hC _ (fun k cs q hb hk hc => by rw [hc]; exact hW2 k _ hb ((far_sort enc W g 0 m P.toArray os k (blk_lt hc) hk).trans hc) rfl)⟩, fun q u hq => ?_⟩
  have hjp : P.toArray[j]! = i := by
    rw [getElem!_pos _ j (by simpa using hjl)]
    have := (List.getElem?_eq_some_iff.1 hi).2
    simpa using this
  have h2 := (hH2 j (by simpa using hjl)).1
  rw [hjp] at h2
  cases q with
  | zero =>
    cases hq
    rw [add_plain]
    obtain ⟨o, ho', hcell⟩ := cells_of_cell h2
    have hg2 := hW2 g o (own_base ho g rfl) ho' hcell
    have h3 : W2.cell? ⟨g, 0 + j, none⟩ = some (enc i) := (World.cell?_of_block (w := sortWorld enc W g 0 m P.toArray os) (hg2.trans ho'.symm)).trans h2
    simpa [Kd.slice] using h3
  | succ q => simp at hq
end Go.Proofs.YtekdacalkllipaaGreat.PR
end
section
namespace Go.Proofs.YtekdacalkllipaaGreat.PR
open Go.RowKit Go.Shelf Go.Proofs.YtekdacalkllipaaGreatW.PrintWords Go.Proofs.YtekdacalkllipaaGreatW.PrintLast Go.Proofs.YtekdacalkllipaaGreatW.PrintMore
set_option linter.unusedVariables false
set_option linter.unusedSimpArgs false
theorem mem_subL {people : List Int} {bits : Nat} {x : Int} : x ∈ subL people bits ↔ ∃ k, k < people.length ∧ bitB bits k = true ∧ people.getD k 0 = x := by
  simp only [subL, subK, List.mem_map, List.mem_filter, List.mem_range]
  constructor
  · rintro ⟨k, ⟨h1, h2⟩, h3⟩; exact ⟨k, h1, h2, h3⟩
  · rintro ⟨k, h1, h2, h3⟩; exact ⟨k, ⟨h1, h2⟩, h3⟩
theorem bitB_test (bits k : Nat) : bitB bits k = bits.testBit k := by
  rw [bitB, Nat.testBit_eq_decide_div_mod_eq]
  by_cases h : bits / 2 ^ k % 2 = 1 <;> simp [h]
theorem subL_inj {people : List Int} (hnd : people.Nodup) {a b : Nat} (ha : a < 2 ^ people.length) (hb : b < 2 ^ people.length) (h : subL people a = subL people b) : a = b := by
  have key : ∀ a b : Nat, subL people a = subL people b → ∀ k, k < people.length → bitB a k = true → bitB b k = true := by
    intro a b h k hk hbit
    have hm : people.getD k 0 ∈ subL people a := mem_subL.2 ⟨k, hk, hbit, rfl⟩
    rw [h] at hm
    obtain ⟨k', hk', hb', e⟩ := mem_subL.1 hm
    rw [List.getD_eq_getElem?_getD, List.getD_eq_getElem?_getD, List.getElem?_eq_getElem hk, List.getElem?_eq_getElem hk'] at e
    have : k' = k := (List.getElem_inj hnd).1 (by simpa using e)
    rw [← this]; exact hb'
  apply Nat.eq_of_testBit_eq
  intro k
  rcases Nat.lt_or_ge k people.length with hk | hk
  · rw [← bitB_test, ← bitB_test]
    have h1 := key a b h k hk
    have h2 := key b a h.symm k hk
    cases hA : bitB a k <;> cases hB : bitB b k <;> simp_all
  · rw [Nat.testBit_lt_two_pow (Nat.lt_of_lt_of_le ha (Nat.pow_le_pow_right (by omega) hk)), Nat.testBit_lt_two_pow (Nat.lt_of_lt_of_le hb (Nat.pow_le_pow_right (by omega) hk))]
theorem nodup_subs (people : List Int) (hnd : people.Nodup) : ((List.range (2 ^ people.length)).map (subL people)).Nodup := by
  rw [List.Nodup, List.pairwise_map]
  refine List.Pairwise.imp_of_mem ?_ (List.nodup_range (n := 2 ^ people.length))
  intro a b ha hb hne h
  exact hne (subL_inj hnd (List.mem_range.1 ha) (List.mem_range.1 hb) h)
set_option maxHeartbeats 4000000 in
set_option maxRecDepth 100000 in
theorem lists_own (A0 : Option Addr) (c0 : Nat) (people : List Int) (w : World) (h0 : (Kd.int .i64).C w A0 people.length people) (hn : people.length ≤ 4) (hnd : people.Nodup) :
    Calls Tryz.prog 82 #[.slice A0 people.length c0] w fun e w' => ∃ A c, e = .returned (.slice A (2 ^ people.length) c) ∧ (∀ W', StayFrom w.heap.size w' W' → (Kd.slice 3 (Kd.int .i64)).C W' A (2 ^ people.length) (listsS people)) ∧ Below w.heap.size w w' := by
  have H0 := Aside0.mk h0
  obtain ⟨hM1, hM2⟩ := pow_bd people.length hn
  have hw : wrap64 ((2 : Int) ^ people.length) = ((2 ^ people.length : Nat) : Int) := by
    have : ((2 : Int) ^ people.length) = ((2 ^ people.length : Nat) : Int) := by push_cast; rfl
    rw [this]; unfold wrap64; omega
  obtain ⟨M, hM⟩ : ∃ M, M = 2 ^ people.length := ⟨_, rfl⟩
  rw [← hM] at hM1 hM2 hw ⊢
  have HMM := Aside0.mk hM
  have HND : Aside0 (((List.range M).map (subL people)).Nodup) := ⟨by rw [hM]; exact nodup_subs people hnd⟩
  have HLS : Aside0 (listsS people = sortL ((List.range M).map (subL people))) := ⟨by rw [listsS, hM]⟩
  clear h0 hM hnd
  go_enter Tryz.func82, Tryz.ntmps82
  go_wp2
  rw [hw]
  clear hw
  go_loopg [2, 10] M (fun gg s2 s10 wr => ∃ (kk : Nat) (v : Value), kk ≤ M ∧ M - kk ≤ gg ∧ s2 = v ∧ s10 = .int .i64 kk ∧ Aside0 (Kd.S (Kd.slice 3 (Kd.int .i64)) 22 wr w.heap.size (fun _ => True) v ((List.range kk).map (subL people))) ∧ Aside0 (Below w.heap.size w wr))
  case atStart => exact ⟨0, _, Nat.zero_le _, by omega, rfl, rfl, ⟨Kd.S_nil _ _ _ _ _⟩, ⟨Below.refl _ _⟩⟩
  case round =>
    obtain ⟨kk, _, hkk, hg, rfl, rfl, HS, HB⟩ := hrel
    by_cases hlt : kk < M
    · have hltz : (kk : Int) < (M : Int) := by omega
      obtain ⟨W0, hW0⟩ : ∃ W0, W0 = wr := ⟨_, rfl⟩
      subst hW0
      go_wp2
      go_loopg [4, 15] people.length (fun gg s4 s15 W => ∃ (j : Nat) (v : Value), j ≤ people.length ∧ people.length - j ≤ gg ∧ s4 = v ∧ s15 = .int .i64 j ∧ Aside0 ((Kd.int .i64).R 3 W W0.heap.size (fun _ => True) v (subK people kk j)) ∧ Aside0 (Below W0.heap.size W0 W))
      case atStart => exact ⟨0, _, Nat.zero_le _, by omega, rfl, rfl, ⟨Kd.R_nil _ _ _ _ _⟩, ⟨Below.refl _ _⟩⟩
      case round =>
        obtain ⟨j, _, hj, hgj, rfl, rfl, HR, HBj⟩ := hrel
        by_cases hjlt : j < people.length
        · have hjz : (j : Int) < (people.length : Int) := by omega
          obtain ⟨ada, ea, hxa⟩ := Kd.at_int (Kd.C_below (Kd.C_below H0.out HB.out) HBj.out) (j : Int) (by omega) (by omega)
          cases ea
          have hxa' : wr.cell? (ada.add j) = some (.int .i64 (rd people j)) := hxa
          clear hxa
          have hbi := bit_int kk j
          have hsn := subK_snoc people kk j
          have hln := subK_len people kk j
          generalize rd people j = pj at *
          cases hbt : bitB kk j with
          | false =>
            rw [hbt] at hbi hsn
            have HSN := Aside0.mk hsn
            clear hsn hbt
            go_wp2
            go_roundg (people.length - (j + 1))
            case measure => omega
            case rel => exact ⟨j + 1, _, by omega, by omega, rfl, by push_cast; rfl, ⟨by rw [HSN.out]; simpa using HR.out⟩, HBj⟩
          | true =>
            rw [hbt] at hbi hsn
            have HSN := Aside0.mk hsn
            have HLN : Aside0 (((subK people kk j).length + 1) * 8 ≤ 140737488355328) := ⟨by omega⟩
            clear hsn hbt hln
            go_wp2_with ((with_reducible refine gate_builtin (b := .append) (xs := #[.tmp 25, .tmp 27]) rfl ?_); at_builtin; refine Kd.R_append (Kd.int .i64) (w0 := W0) (W := wr) W0.heap.size rfl (.tmp 25) (.tmp 27) 22 3 (.int .i64 0) 8 rfl (by kernel_rfl) (by kernel_rfl) rfl (by decide) (by omega) u4 (subK people kk j) pj [.int .i64 pj] (fun _ => True) (fun _ => False) rfl rfl rfl (fun _ h => h.elim) (fun _ _ => trivial) HR.out HBj.out HBj.out.size HLN.out ?_; intro v1 w1 ho hb hg1 hat; have HO := Aside0.mk ho; have HB1 := Aside0.mk hb; clear ho hb hg1 hat HR HBj)
            go_roundg (people.length - (j + 1))
            case measure => omega
            case rel => exact ⟨j + 1, _, by omega, by omega, rfl, by push_cast; rfl, ⟨by rw [HSN.out]; exact HO.out⟩, HB1⟩
        · have hjz : ¬ (j : Int) < (people.length : Int) := by omega
          obtain rfl : j = people.length := by omega
          obtain ⟨A4, c4, h4⟩ := R_slice HR.out
          generalize (subK people kk people.length).length = n4 at h4
          subst h4
          have HR' : Aside0 ((Kd.slice 3 (Kd.int .i64)).M wr w.heap.size (fun k => W0.heap.size ≤ k) (subL people kk) [.slice A4 n4 c4]) := ⟨⟨_, rfl, Kd.R_lower (Kd.R_mono (Kd.R_bound HR.out) (fun k hk => hk.2.1)) HB.out.size⟩⟩
          have HS' : Aside0 (Kd.S (Kd.slice 3 (Kd.int .i64)) 22 wr w.heap.size (fun k => True ∧ ¬ W0.heap.size ≤ k) u2 ((List.range kk).map (subL people))) := ⟨Kd.S_mono (Kd.S_below (Kd.S_bound HS.out) HBj.out) (fun k hk => ⟨trivial, by have := hk.2.2.1; omega⟩)⟩
          have HLT : Aside0 (∀ k, W0.heap.size ≤ k → (fun _ : Nat => True) k ∧ some k ≠ u2.ownBlock) := ⟨fun k hk => ⟨trivial, fun h => by have := Kd.S_lt HS.out k h.symm; omega⟩⟩
          have HBW : Aside0 (Below w.heap.size w wr) := ⟨HB.out.trans (HBj.out.mono HB.out.size)⟩
          clear HR HS hgj hj hjz HB HBj
          go_wp2_with ((with_reducible refine gate_builtin (b := .append) (xs := #[.tmp 30, .tmp 32]) rfl ?_); at_builtin; refine Kd.S_append (Kd.slice 3 (Kd.int .i64)) (w0 := w) (W := wr) w.heap.size rfl (.tmp 30) (.tmp 32) 24 22 (.slice none 0 0) 24 rfl (by kernel_rfl) (by kernel_rfl) rfl (by decide) (by omega) u2 ((List.range kk).map (subL people)) (subL people kk) [.slice A4 n4 c4] (fun _ => True) (fun k => W0.heap.size ≤ k) rfl rfl HR'.out HLT.out (fun _ _ => trivial) HS'.out HBW.out HBW.out.size (by simp; omega) ?_; intro v1 w1 ho hb hg1 hat; have HO := Aside0.mk ho; have HB1 := Aside0.mk hb; clear ho hb hg1 hat HR' HS' HLT HBW)
          go_roundg (M - (kk + 1))
          case measure => omega
          case rel => exact ⟨kk + 1, _, by omega, by omega, rfl, by push_cast; rfl, ⟨by rw [List.range_succ, List.map_append]; exact HO.out⟩, HB1⟩
    · have hltz : ¬ (kk : Int) < (M : Int) := by omega
      obtain rfl : kk = M := by omega
      have hlen : ((List.range kk).map (subL people)).length = kk := by simp
      obtain ⟨g, cap, h2, hbg, hgl, _⟩ := Kd.S_form HS.out (by rw [hlen]; omega)
      subst h2
      have HC := Aside0.mk (sort_rows wr w.heap.size g _ cap (fun _ => True) ((List.range kk).map (subL people)) (Kd.S_R HS.out) HND.out (fun l hl => by
        obtain ⟨i, _, rfl⟩ := List.mem_map.1 hl
        have := subK_len people i people.length
        rw [subL]; omega) (by rw [hlen]; omega) (by rw [hlen]; omega))
      rw [hlen] at HC
      simp only [hlen]
      have HG : Aside0 (w.heap.size ≤ g) := ⟨hbg⟩
      clear hlen hbg hgl HS
      go_wp2_with (go_at_call 130; refine HC.out.mono ?_; rintro e w' ⟨rfl, hB, hCC, _, _⟩; have HB2 := Aside0.mk (hB w w.heap.size HB.out HG.out HB.out.size); have HCC := Aside0.mk hCC; clear hB hCC)
      go_ret
      refine ⟨_, _, rfl, ?_, HB2.out⟩
      rw [HLS.out]
      exact HCC.out
theorem lists_any (A0 : Option Addr) (c0 : Nat) (people : List Int) (w : World) (h0 : (Kd.int .i64).C w A0 people.length people) (hn : people.length ≤ 4) (hnd : people.Nodup) :
    Calls Tryz.prog 82 #[.slice A0 people.length c0] w fun e w' => ∃ A c, e = .returned (.slice A (2 ^ people.length) c) ∧ (Kd.slice 3 (Kd.int .i64)).C w' A (2 ^ people.length) (listsS people) ∧ Below w.heap.size w w' :=
  (lists_own A0 c0 people w h0 hn hnd).mono fun e w' ⟨A, c, h1, h2, h3⟩ => ⟨A, c, h1, h2 w' (StayFrom.refl _ _), h3⟩
end Go.Proofs.YtekdacalkllipaaGreat.PR
end
section
namespace Go.Proofs.YtekdacalkllipaaGreat.PR
open Go.RowKit Go.Shelf Go.Proofs.YtekdacalkllipaaGreatW.PrintWords Go.Proofs.YtekdacalkllipaaGreatW.PrintLast Go.Proofs.YtekdacalkllipaaGreatW.PrintMore
set_option linter.unusedVariables false
set_option linter.unusedSimpArgs false
structure Std where
  (a0 b0 a1 b1 a2 b2 a3 b3 : Int)
def Std.vals (s : Std) : Array Value := #[.int .i64 s.a0, .int .i64 s.b0, .int .i64 s.a1, .int .i64 s.b1, .int .i64 s.a2, .int .i64 s.b2, .int .i64 s.a3, .int .i64 s.b3]
def Std.last (s : Std) : Nat → Int
  | 0 => s.a0
  | 1 => s.a1
  | 2 => s.a2
  | _ => s.a3
def Std.many (s : Std) : Nat → Int
  | 0 => s.b0
  | 1 => s.b1
  | 2 => s.b2
  | _ => s.b3
def Std.put (s : Std) (i : Nat) (l m : Int) : Std :=
  match i with
  | 0 => { s with a0 := l, b0 := m }
  | 1 => { s with a1 := l, b1 := m }
  | 2 => { s with a2 := l, b2 := m }
  | _ => { s with a3 := l, b3 := m }
def std0 : Std := ⟨-1, 0, -1, 0, -1, 0, -1, 0⟩
def Std.ok (s : Std) : Prop := ∀ i, i < 4 → -1 ≤ s.last i ∧ s.last i ≤ 5 ∧ 0 ≤ s.many i ∧ s.many i ≤ 5
theorem std0_ok : std0.ok := by
  intro i hi
  rcases (by omega : i = 0 ∨ i = 1 ∨ i = 2 ∨ i = 3) with rfl | rfl | rfl | rfl <;> decide
def stepB (people : List S128) (watch : Int) (s : Std) (i : Int) : Bool :=
  decide (((rd_T128 people i).f0.getD watch.toNat false) = true ∧ s.many i.toNat < (rd_T128 people i).f2 ∧ (s.last i.toNat = -1 ∨ (rd_T128 people i).f1 < watch - s.last i.toNat))
def afterS (people : List S128) (watch : Int) : List Int → Std → Std × Bool
  | [], s => (s, true)
  | i :: on, s => if stepB people watch s i then afterS people watch on (s.put i.toNat watch (s.many i.toNat + 1)) else (s, false)
set_option maxHeartbeats 1000000 in
theorem begun_any (w : World) : Calls Tryz.prog 86 #[] w fun e w' => e = .returned (.agg std0.vals) ∧ w' = w.alloc (.cells std0.vals 143) := by
  go_enter Tryz.func86, Tryz.ntmps86
  go_wp2
  refine wp_loop_rounds 5 ?_
  repeat (rw [rounds_succ]; go_wp2)
  exact bodyPost_ret (v := .agg std0.vals) (by simp [results, Tryz.results86, go_sem, std0, Std.vals]) rfl ⟨rfl, rfl⟩
def set8 (V : World) (b : Nat) (s : Std) : World :=
  (((((((V.setCell ⟨b, 0, none⟩ (.int .i64 s.a0)).setCell ⟨b, 1, none⟩ (.int .i64 s.b0)).setCell ⟨b, 2, none⟩ (.int .i64 s.a1)).setCell ⟨b, 3, none⟩ (.int .i64 s.b1)).setCell ⟨b, 4, none⟩ (.int .i64 s.a2)).setCell ⟨b, 5, none⟩ (.int .i64 s.b2)).setCell ⟨b, 6, none⟩ (.int .i64 s.a3)).setCell ⟨b, 7, none⟩ (.int .i64 s.b3)
theorem set8_blk {V : World} {b : Nat} {t : TypeId} (s : Std) (h : V.heap[b]? = some (.cells #[.int .i64 0, .int .i64 0, .int .i64 0, .int .i64 0, .int .i64 0, .int .i64 0, .int .i64 0, .int .i64 0] t (0, 0))) : (set8 V b s).heap[b]? = some (.cells s.vals t (0, 0)) := by
  have h0 : (V.setCell ⟨b, 0, none⟩ (.int .i64 s.a0)).heap[b]? = some (.cells #[.int .i64 s.a0, .int .i64 0, .int .i64 0, .int .i64 0, .int .i64 0, .int .i64 0, .int .i64 0, .int .i64 0] t (0, 0)) := blk_put h 0 (.int .i64 s.a0) rfl
  have h1 : ((V.setCell ⟨b, 0, none⟩ (.int .i64 s.a0)).setCell ⟨b, 1, none⟩ (.int .i64 s.b0)).heap[b]? = some (.cells #[.int .i64 s.a0, .int .i64 s.b0, .int .i64 0, .int .i64 0, .int .i64 0, .int .i64 0, .int .i64 0, .int .i64 0] t (0, 0)) := blk_put h0 1 (.int .i64 s.b0) rfl
  have h2 : (((V.setCell ⟨b, 0, none⟩ (.int .i64 s.a0)).setCell ⟨b, 1, none⟩ (.int .i64 s.b0)).setCell ⟨b, 2, none⟩ (.int .i64 s.a1)).heap[b]? = some (.cells #[.int .i64 s.a0, .int .i64 s.b0, .int .i64 s.a1, .int .i64 0, .int .i64 0, .int .i64 0, .int .i64 0, .int .i64 0] t (0, 0)) := blk_put h1 2 (.int .i64 s.a1) rfl
  have h3 : ((((V.setCell ⟨b, 0, none⟩ (.int .i64 s.a0)).setCell ⟨b, 1, none⟩ (.int .i64 s.b0)).setCell ⟨b, 2, none⟩ (.int .i64 s.a1)).setCell ⟨b, 3, none⟩ (.int .i64 s.b1)).heap[b]? = some (.cells #[.int .i64 s.a0, .int .i64 s.b0, .int .i64 s.a1, .int .i64 s.b1, .int .i64 0, .int .i64 0, .int .i64 0, .int .i64 0] t (0, 0)) := blk_put h2 3 (.int .i64 s.b1) rfl
  have h4 : (((((V.setCell ⟨b, 0, none⟩ (.int .i64 s.a0)).setCell ⟨b, 1, none⟩ (.int .i64 s.b0)).setCell ⟨b, 2, none⟩ (.int .i64 s.a1)).setCell ⟨b, 3, none⟩ (.int .i64 s.b1)).setCell ⟨b, 4, none⟩ (.int .i64 s.a2)).heap[b]? = some (.cells #[.int .i64 s.a0, .int .i64 s.b0, .int .i64 s.a1, .int .i64 s.b1, .int .i64 s.a2, .int .i64 0, .int .i64 0, .int .i64 0] t (0, 0)) := blk_put h3 4 (.int .i64 s.a2) rfl
  have h5 : ((((((V.setCell ⟨b, 0, none⟩ (.int .i64 s.a0)).setCell ⟨b, 1, none⟩ (.int .i64 s.b0)).setCell ⟨b, 2, none⟩ (.int .i64 s.a1)).setCell ⟨b, 3, none⟩ (.int .i64 s.b1)).setCell ⟨b, 4, none⟩ (.int .i64 s.a2)).setCell ⟨b, 5, none⟩ (.int .i64 s.b2)).heap[b]? = some (.cells #[.int .i64 s.a0, .int .i64 s.b0, .int .i64 s.a1, .int .i64 s.b1, .int .i64 s.a2, .int .i64 s.b2, .int .i64 0, .int .i64 0] t (0, 0)) := blk_put h4 5 (.int .i64 s.b2) rfl
  have h6 : (((((((V.setCell ⟨b, 0, none⟩ (.int .i64 s.a0)).setCell ⟨b, 1, none⟩ (.int .i64 s.b0)).setCell ⟨b, 2, none⟩ (.int .i64 s.a1)).setCell ⟨b, 3, none⟩ (.int .i64 s.b1)).setCell ⟨b, 4, none⟩ (.int .i64 s.a2)).setCell ⟨b, 5, none⟩ (.int .i64 s.b2)).setCell ⟨b, 6, none⟩ (.int .i64 s.a3)).heap[b]? = some (.cells #[.int .i64 s.a0, .int .i64 s.b0, .int .i64 s.a1, .int .i64 s.b1, .int .i64 s.a2, .int .i64 s.b2, .int .i64 s.a3, .int .i64 0] t (0, 0)) := blk_put h5 6 (.int .i64 s.a3) rfl
  have h7 : ((((((((V.setCell ⟨b, 0, none⟩ (.int .i64 s.a0)).setCell ⟨b, 1, none⟩ (.int .i64 s.b0)).setCell ⟨b, 2, none⟩ (.int .i64 s.a1)).setCell ⟨b, 3, none⟩ (.int .i64 s.b1)).setCell ⟨b, 4, none⟩ (.int .i64 s.a2)).setCell ⟨b, 5, none⟩ (.int .i64 s.b2)).setCell ⟨b, 6, none⟩ (.int .i64 s.a3)).setCell ⟨b, 7, none⟩ (.int .i64 s.b3)).heap[b]? = some (.cells #[.int .i64 s.a0, .int .i64 s.b0, .int .i64 s.a1, .int .i64 s.b1, .int .i64 s.a2, .int .i64 s.b2, .int .i64 s.a3, .int .i64 s.b3] t (0, 0)) := blk_put h6 7 (.int .i64 s.b3) rfl
  exact h7
theorem below_set1 {B : Nat} {w V : World} {b : Nat} (h : Below B w V) (hb : B ≤ b) (o : Nat) (v : Value) : Below B w (V.setCell ⟨b, o, none⟩ v) := h.setCell (p := ⟨b, o, none⟩) hb v
theorem set8_below {B : Nat} {w V : World} {b : Nat} (s : Std) (h : Below B w V) (hb : B ≤ b) : Below B w (set8 V b s) := by
  unfold set8
  refine below_set1 ?_ hb 7 _
  refine below_set1 ?_ hb 6 _
  refine below_set1 ?_ hb 5 _
  refine below_set1 ?_ hb 4 _
  refine below_set1 ?_ hb 3 _
  refine below_set1 ?_ hb 2 _
  refine below_set1 ?_ hb 1 _
  exact below_set1 h hb 0 _
theorem cells8 {V : World} {b : Nat} {t : TypeId} {s : Std} (h : V.heap[b]? = some (.cells s.vals t (0, 0))) : V.cell? ⟨b, 0, none⟩ = some (.int .i64 s.a0) ∧ V.cell? ⟨b, 1, none⟩ = some (.int .i64 s.b0) ∧ V.cell? ⟨b, 2, none⟩ = some (.int .i64 s.a1) ∧ V.cell? ⟨b, 3, none⟩ = some (.int .i64 s.b1) ∧ V.cell? ⟨b, 4, none⟩ = some (.int .i64 s.a2) ∧ V.cell? ⟨b, 5, none⟩ = some (.int .i64 s.b2) ∧ V.cell? ⟨b, 6, none⟩ = some (.int .i64 s.a3) ∧ V.cell? ⟨b, 7, none⟩ = some (.int .i64 s.b3) :=
  ⟨(blk_cell h 0).trans rfl, (blk_cell h 1).trans rfl, (blk_cell h 2).trans rfl, (blk_cell h 3).trans rfl, (blk_cell h 4).trans rfl, (blk_cell h 5).trans rfl, (blk_cell h 6).trans rfl, (blk_cell h 7).trans rfl⟩
theorem put_blk {V : World} {b i : Nat} {t : TypeId} {s : Std} (hi : i < 4) (h : V.heap[b]? = some (.cells s.vals t (0, 0))) (l m : Int) :
    ((V.setCell ⟨b, i * 2, none⟩ (.int .i64 l)).setCell ⟨b, i * 2 + 1, none⟩ (.int .i64 m)).heap[b]? = some (.cells (s.put i l m).vals t (0, 0)) := by
  rcases (by omega : i = 0 ∨ i = 1 ∨ i = 2 ∨ i = 3) with rfl | rfl | rfl | rfl
  · exact blk_put (blk_put h 0 (.int .i64 l) rfl) 1 (.int .i64 m) rfl
  · exact blk_put (blk_put h 2 (.int .i64 l) rfl) 3 (.int .i64 m) rfl
  · exact blk_put (blk_put h 4 (.int .i64 l) rfl) 5 (.int .i64 m) rfl
  · exact blk_put (blk_put h 6 (.int .i64 l) rfl) 7 (.int .i64 m) rfl
theorem put_last (s : Std) (i : Nat) (l m : Int) (j : Nat) (hi : i < 4) (hj : j < 4) : (s.put i l m).last j = if j = i then l else s.last j := by
  rcases (by omega : i = 0 ∨ i = 1 ∨ i = 2 ∨ i = 3) with rfl | rfl | rfl | rfl <;> rcases (by omega : j = 0 ∨ j = 1 ∨ j = 2 ∨ j = 3) with rfl | rfl | rfl | rfl <;> rfl
theorem put_many (s : Std) (i : Nat) (l m : Int) (j : Nat) (hi : i < 4) (hj : j < 4) : (s.put i l m).many j = if j = i then m else s.many j := by
  rcases (by omega : i = 0 ∨ i = 1 ∨ i = 2 ∨ i = 3) with rfl | rfl | rfl | rfl <;> rcases (by omega : j = 0 ∨ j = 1 ∨ j = 2 ∨ j = 3) with rfl | rfl | rfl | rfl <;> rfl
theorem put_ok {s : Std} {i : Nat} {l m : Int} (hi : i < 4) (h : s.ok) (hl : -1 ≤ l ∧ l ≤ 5) (hm : 0 ≤ m ∧ m ≤ 5) : (s.put i l m).ok := by
  intro j hj
  rw [put_last s i l m j hi hj, put_many s i l m j hi hj]
  by_cases e : j = i
  · simp [e]; omega
  · simp [e]; exact h j hj
set_option maxHeartbeats 2000000 in
theorem after_any (A0 : Option Addr) (c0 : Nat) (need : List Int) (A1 : Option Addr) (c1 : Nat) (people : List S128) (A2 : Option Addr) (c2 n2 : Nat) (s : Std) (watch : Int) (A3 : Option Addr) (c3 : Nat) (on : List Int) (w : World)
    (h1 : k128.C w A1 people.length people) (h3 : (Kd.int .i64).C w A3 on.length on) (hp : people.length ≤ 4) (hv : ∀ x ∈ people, personOk need x = true) (hw0 : 0 ≤ watch) (hw1 : watch < need.length) (hn : need.length ≤ 5)
    (hon : ∀ x ∈ on, 0 ≤ x ∧ x < people.length) (hs : s.ok) :
    Calls Tryz.prog 127 #[.agg #[.slice A0 need.length c0, .slice A1 people.length c1, .slice A2 n2 c2], .agg s.vals, .int .i64 watch, .slice A3 on.length c3] w fun e w' =>
      e = .returned (.tuple #[.agg (afterS people watch on s).1.vals, .bool (afterS people watch on s).2]) ∧ w.grownBy w' none := by
  have hl3 := C_len h3
  obtain ⟨z8, hz8⟩ : ∃ z8 : Array Value, z8 = #[.int .i64 0, .int .i64 0, .int .i64 0, .int .i64 0, .int .i64 0, .int .i64 0, .int .i64 0, .int .i64 0] := ⟨_, rfl⟩
  obtain ⟨w3, hw3⟩ : ∃ w3, w3 = ((w.alloc (.cells #[.slice A0 need.length c0, .slice A1 people.length c1, .slice A2 n2 c2] 34)).alloc (.cells s.vals 143)).alloc (.cells z8 143) := ⟨_, rfl⟩
  have hg3 : w.grownBy w3 none := by rw [hw3]; exact grown_trans (World.grownBy_alloc _ _ _) (grown_trans (World.grownBy_alloc _ _ _) (World.grownBy_alloc _ _ _))
  have hP3 : w3.heap[w.heap.size]? = some (.cells #[.slice A0 need.length c0, .slice A1 people.length c1, .slice A2 n2 c2] 34 (0, 0)) := by rw [hw3]; exact blk_alloc (blk_alloc (blk_new w _) _) _
  have hS3 : w3.heap[w.heap.size + 1]? = some (.cells s.vals 143 (0, 0)) := by
    rw [hw3]; have := blk_new (w.alloc (.cells #[.slice A0 need.length c0, .slice A1 people.length c1, .slice A2 n2 c2] 34)) (.cells s.vals 143); rw [World.size_alloc] at this; exact blk_alloc this _
  have hR3 : w3.heap[w.heap.size + 1 + 1]? = some (.cells z8 143 (0, 0)) := by
    rw [hw3]; have := blk_new ((w.alloc (.cells #[.slice A0 need.length c0, .slice A1 people.length c1, .slice A2 n2 c2] 34)).alloc (.cells s.vals 143)) (.cells z8 143); rwa [World.size_alloc, World.size_alloc] at this
  have HS := Aside0.mk (rfl : afterS people watch on s = afterS people watch on s)
  have HW3 := Aside0.mk hw3
  have Z8 := Aside0.mk hz8
  have H3 : Aside0 (Below w.heap.size w w3 ∧ w3.heap[w.heap.size]? = some (.cells #[.slice A0 need.length c0, .slice A1 people.length c1, .slice A2 n2 c2] 34 (0, 0)) ∧ w3.heap[w.heap.size + 1]? = some (.cells s.vals 143 (0, 0)) ∧ w3.heap[w.heap.size + 1 + 1]? = some (.cells z8 143 (0, 0))) := ⟨below_none hg3, hP3, hS3, hR3⟩
  rw [hw3, hz8] at H3
  have HOK := Aside0.mk hs
  have HON := Aside0.mk hon
  have HV := Aside0.mk hv
  have HR1 := Aside0.mk h1
  have HR3 := Aside0.mk h3
  clear hw3 hz8 hg3 hP3 hS3 hR3 hs hon hv h1 h3
  obtain ⟨R, hR⟩ : ∃ R, R = afterS people watch on s := ⟨_, rfl⟩
  have HRR := Aside0.mk hR
  rw [← hR]
  clear hR HS
  unfold Std.vals at H3 ⊢
  go_enter Tryz.func127, Tryz.ntmps127
  go_wp2
  go_loopg [16] on.length (fun gg s16 wr => ∃ (kk : Nat) (s' : Std), kk ≤ on.length ∧ on.length - kk ≤ gg ∧ s16 = .int .i64 kk ∧ Aside0 (s'.ok ∧ afterS people watch (on.drop kk) s' = R) ∧ Aside0 (Below w.heap.size w wr ∧ wr.heap[w.heap.size]? = some (.cells #[.slice A0 need.length c0, .slice A1 people.length c1, .slice A2 n2 c2] 34 (0, 0)) ∧ wr.heap[w.heap.size + 1]? = some (.cells s'.vals 143 (0, 0)) ∧ wr.heap[w.heap.size + 1 + 1]? = some (.cells z8 143 (0, 0))))
  case atStart => exact ⟨0, s, Nat.zero_le _, by omega, rfl, ⟨HOK.out, by rw [HRR.out]; rfl⟩, by rw [Z8.out]; exact H3⟩
  case round =>
    clear H3
    obtain ⟨kk, s', hkk, hg, rfl, hI, hM⟩ := hrel
    obtain ⟨hb, hP, hS, hRb⟩ := hM.out
    by_cases hlt : kk < on.length
    · have hltz : (kk : Int) < (on.length : Int) := by omega
      obtain ⟨ad, e0, hx⟩ := Kd.at_int (Kd.C_below HR3.out hb) (kk : Int) (by omega) (by omega)
      cases e0
      have hx' : wr.cell? (ad.add kk) = some (.int .i64 (rd on kk)) := hx
      obtain ⟨q1, q2⟩ := HON.out (rd on kk) (by simp [rd, List.getElem_mem, hlt])
      have hdrop : on.drop kk = rd on kk :: on.drop (kk + 1) := by
        rw [List.drop_eq_getElem_cons hlt]; simp [rd, hlt]
      obtain ⟨hok, hA⟩ := hI.out
      rw [hdrop] at hA
      clear hx hdrop
      generalize rd on kk = i at *
      obtain ⟨iN, rfl⟩ := Int.eq_ofNat_of_zero_le q1
      obtain ⟨ad1, A', c', e1, hy0, hy1, hy2, hl, hi⟩ := at_T128 (Kd.C_below HR1.out hb) (iN : Int) (by omega) q2
      cases e1
      simp only [Int.toNat_natCast] at hy0 hy1 hy2
      have hlen : (rd_T128 people iN).f0.length = need.length := by
        have := HV.out (rd_T128 people iN) (by simp [rd_T128, List.getElem_mem, show iN < people.length by omega])
        simp [personOk] at this; omega
      have HM2 : (rd_T128 people iN).f2 ≤ 5 := by
        have := HV.out (rd_T128 people iN) (by simp [rd_T128, List.getElem_mem, show iN < people.length by omega])
        simp [personOk] at this; omega
      obtain ⟨ad2, e2, hz⟩ := Kd.at_bool hi watch hw0 (by omega)
      cases e2
      have hc0 : wr.cell? ⟨w.heap.size, 0, none⟩ = some (.slice A0 need.length c0) := (blk_cell hP 0).trans rfl
      have hc1 : wr.cell? ⟨w.heap.size, 1, none⟩ = some (.slice (some ad1) people.length c1) := (blk_cell hP 1).trans rfl
      have hlt1 := blk_lt hS
      have hlt2 := blk_lt hRb
      obtain ⟨o1, o2, o3, o4⟩ := hok iN (by omega)
      obtain ⟨xb, hxb⟩ : ∃ xb : Obj, xb = .cells #[.slice (some ad2) (rd_T128 people (iN : Int)).f0.length c', .int .i64 (rd_T128 people (iN : Int)).f1, .int .i64 (rd_T128 people (iN : Int)).f2] 128 := ⟨_, rfl⟩
      have hX1 : (wr.alloc xb).heap[wr.heap.size]? = some (.cells #[.slice (some ad2) (rd_T128 people (iN : Int)).f0.length c', .int .i64 (rd_T128 people (iN : Int)).f1, .int .i64 (rd_T128 people (iN : Int)).f2] 128 (0, 0)) := by rw [hxb]; exact blk_new wr _
      have hS1 := blk_alloc hS xb
      have hP1 := blk_alloc hP xb
      have hRb1 := blk_alloc hRb xb
      have hb1 : Below w.heap.size w (wr.alloc xb) := hb.alloc hb.size _
      have hz1 : (wr.alloc xb).cell? (ad2.add watch.toNat) = some (.bool (rdOf false (rd_T128 people (iN : Int)).f0 watch)) := pw_cell_below ((Below.refl _ _).alloc (Nat.le_refl _) _) hz
      have HLEN := Aside0.mk hlen
      have HXB := Aside0.mk hxb
      have hwl : watch < ((rd_T128 people (iN : Int)).f0.length : Int) := by omega
      clear hlen
      go_wp2
      rw [← hxb]
      clear hy0 hy1 hy2 hz hi hc0 hc1 hP hS hRb hM hb hxb HXB hx'
      generalize wr.alloc xb = W1 at *
      generalize wr.heap.size = bx at *
      obtain ⟨x0, x1, x2⟩ := box3 hX1
      have hd : ∀ j, W1.cell? ⟨w.heap.size + 1, j, none⟩ = s'.vals[j]? := fun j => blk_cell hS1 j
      have hA' : W1.cell? ⟨w.heap.size + 1, iN * 2, none⟩ = some (.int .i64 (s'.last iN)) ∧ W1.cell? ⟨w.heap.size + 1, iN * 2 + 1, none⟩ = some (.int .i64 (s'.many iN)) := by
        rw [hd, hd]
        rcases (by omega : iN = 0 ∨ iN = 1 ∨ iN = 2 ∨ iN = 3) with rfl | rfl | rfl | rfl <;> exact ⟨rfl, rfl⟩
      obtain ⟨hA0, hA1⟩ := hA'
      have e0 : W1.cell? ⟨w.heap.size + 1, 0, none⟩ = some (.int .i64 s'.a0) := hd 0
      have e1 : W1.cell? ⟨w.heap.size + 1, 1, none⟩ = some (.int .i64 s'.b0) := hd 1
      have e2 : W1.cell? ⟨w.heap.size + 1, 2, none⟩ = some (.int .i64 s'.a1) := hd 2
      have e3 : W1.cell? ⟨w.heap.size + 1, 3, none⟩ = some (.int .i64 s'.b1) := hd 3
      have e4 : W1.cell? ⟨w.heap.size + 1, 4, none⟩ = some (.int .i64 s'.a2) := hd 4
      have e5 : W1.cell? ⟨w.heap.size + 1, 5, none⟩ = some (.int .i64 s'.b2) := hd 5
      have e6 : W1.cell? ⟨w.heap.size + 1, 6, none⟩ = some (.int .i64 s'.a3) := hd 6
      have e7 : W1.cell? ⟨w.heap.size + 1, 7, none⟩ = some (.int .i64 s'.b3) := hd 7
      have hfz : ∀ j, W1.frozen? ⟨w.heap.size + 1, j, none⟩ = false := fun j => blk_frozen hS1 j
      have hfz2 : ∀ j, W1.frozen? ⟨w.heap.size + 1 + 1, j, none⟩ = false := fun j => blk_frozen hRb1 j
      have hz8 : ∀ j, j < 8 → W1.cell? ⟨w.heap.size + 1 + 1, j, none⟩ = some (.int .i64 0) := fun j hj => by
        rw [blk_cell hRb1 j, Z8.out]
        rcases (by omega : j = 0 ∨ j = 1 ∨ j = 2 ∨ j = 3 ∨ j = 4 ∨ j = 5 ∨ j = 6 ∨ j = 7) with rfl | rfl | rfl | rfl | rfl | rfl | rfl | rfl <;> rfl
      have z0 := hz8 0 (by decide)
      have z1 := hz8 1 (by decide)
      have z2 := hz8 2 (by decide)
      have z3 := hz8 3 (by decide)
      have z4 := hz8 4 (by decide)
      have z5 := hz8 5 (by decide)
      have z6 := hz8 6 (by decide)
      have z7 := hz8 7 (by decide)
      have HS1 := Aside0.mk hS1
      have HP1 := Aside0.mk hP1
      have HRb1 := Aside0.mk hRb1
      have HB1 := Aside0.mk hb1
      have HAA := Aside0.mk hA
      have hnb : ¬ w.heap.size + 1 = w.heap.size + 1 + 1 := by omega
      clear hS1 hP1 hRb1 hb1 hd hz8 hX1 hA
      cases ab : rdOf false (rd_T128 people (iN : Int)).f0 watch with
      | false =>
        rw [ab] at hz1
        have hR : R = (s', false) := by
          rw [← HAA.out]; unfold afterS; rw [if_neg]
          simp only [stepB, decide_eq_true_eq]; rintro ⟨h, _⟩
          rw [show (rd_T128 people (iN : Int)).f0.getD watch.toNat false = rdOf false (rd_T128 people (iN : Int)).f0 watch from rfl, ab] at h; cases h
        have HRS := Aside0.mk hR
        clear hR
        go_quiet (fail)
        go_wp2
        have hfin := set8_blk s' (V := W1.drewN nq) (by rw [← Z8.out]; exact HRb1.out)
        have hbl := set8_below s' (V := W1.drewN nq) (b := w.heap.size + 1 + 1) (pw_below_drewN HB1.out nq) (by omega)
        change bodyPost _ _ _ _ _ (set8 (W1.drewN nq) (w.heap.size + 1 + 1) s')
        generalize set8 (W1.drewN nq) (w.heap.size + 1 + 1) s' = W9 at hfin hbl ⊢
        obtain ⟨f0, f1, f2, f3, f4, f5, f6, f7⟩ := cells8 hfin
        rw [HRS.out]
        exact bodyPost_ret (v := .tuple #[.agg s'.vals, .bool false]) (by simp [results, Tryz.results127, go_sem, Std.vals, f0, f1, f2, f3, f4, f5, f6, f7]) rfl ⟨rfl, grown_of_below hbl none⟩
      | true =>
        rw [ab] at hz1
        have hab : (rd_T128 people (iN : Int)).f0.getD watch.toNat false = true := ab
        by_cases hm : (rd_T128 people (iN : Int)).f2 ≤ s'.many iN
        · have bm : decide ((rd_T128 people (iN : Int)).f2 ≤ s'.many iN) = true := decide_eq_true hm
          have hR : R = (s', false) := by
            rw [← HAA.out]; unfold afterS; rw [if_neg]
            simp only [stepB, decide_eq_true_eq, Int.toNat_natCast]; rintro ⟨_, h, _⟩; omega
          have HRS := Aside0.mk hR
          clear hR hm hab
          go_quiet (fail)
          go_wp2
          have hfin := set8_blk s' (V := W1.drewN nq) (by rw [← Z8.out]; exact HRb1.out)
          have hbl := set8_below s' (V := W1.drewN nq) (b := w.heap.size + 1 + 1) (pw_below_drewN HB1.out nq) (by omega)
          change bodyPost _ _ _ _ _ (set8 (W1.drewN nq) (w.heap.size + 1 + 1) s')
          generalize set8 (W1.drewN nq) (w.heap.size + 1 + 1) s' = W9 at hfin hbl ⊢
          obtain ⟨f0, f1, f2, f3, f4, f5, f6, f7⟩ := cells8 hfin
          rw [HRS.out]
          exact bodyPost_ret (v := .tuple #[.agg s'.vals, .bool false]) (by simp [results, Tryz.results127, go_sem, Std.vals, f0, f1, f2, f3, f4, f5, f6, f7]) rfl ⟨rfl, grown_of_below hbl none⟩
        · have bm : decide ((rd_T128 people (iN : Int)).f2 ≤ s'.many iN) = false := decide_eq_false hm
          by_cases hl0 : s'.last iN = -1
          · have bl : (s'.last iN != -1) = false := by rw [hl0]; rfl
            have hR : afterS people watch (on.drop (kk + 1)) (s'.put iN watch (s'.many iN + 1)) = R := by
              rw [← HAA.out]; rw [afterS]; rw [if_pos]; · rfl
              simp only [stepB, decide_eq_true_eq, Int.toNat_natCast]; exact ⟨hab, by omega, .inl hl0⟩
            have HRS := Aside0.mk hR
            have HMB := Aside0.mk (And.intro hm hab)
            clear hR hm hab hl0
            go_quiet (fail)
            go_wp2
            go_roundg (on.length - (kk + 1))
            case measure => omega
            case rel => exact ⟨kk + 1, s'.put iN watch (s'.many iN + 1), by omega, by omega, by go_num, ⟨put_ok (by omega) hok ⟨by omega, by omega⟩ ⟨by omega, by have := HM2; have := HMB.out.1; omega⟩, HRS.out⟩, ⟨below_set1 (below_set1 (pw_below_drewN HB1.out nq) (by omega) _ _) (by omega) _ _, blk_far (blk_far HP1.out (by simp) _) (by simp) _, put_blk (by omega) HS1.out _ _, blk_far (blk_far HRb1.out (by simp) _) (by simp) _⟩⟩
          · have bl : (s'.last iN != -1) = true := by rw [bne_iff_ne]; exact hl0
            by_cases hr0 : watch - s'.last iN ≤ (rd_T128 people (iN : Int)).f1
            · have br : decide (watch - s'.last iN ≤ (rd_T128 people (iN : Int)).f1) = true := decide_eq_true hr0
              have hR : R = (s', false) := by
                rw [← HAA.out]; unfold afterS; rw [if_neg]
                simp only [stepB, decide_eq_true_eq, Int.toNat_natCast]; rintro ⟨_, _, h | h⟩; · exact hl0 h
                omega
              have HRS := Aside0.mk hR
              clear hR hm hab hl0 hr0
              go_quiet (fail)
              go_wp2
              have hfin := set8_blk s' (V := W1.drewN nq) (by rw [← Z8.out]; exact HRb1.out)
              have hbl := set8_below s' (V := W1.drewN nq) (b := w.heap.size + 1 + 1) (pw_below_drewN HB1.out nq) (by omega)
              change bodyPost _ _ _ _ _ (set8 (W1.drewN nq) (w.heap.size + 1 + 1) s')
              generalize set8 (W1.drewN nq) (w.heap.size + 1 + 1) s' = W9 at hfin hbl ⊢
              obtain ⟨f0, f1, f2, f3, f4, f5, f6, f7⟩ := cells8 hfin
              rw [HRS.out]
              exact bodyPost_ret (v := .tuple #[.agg s'.vals, .bool false]) (by simp [results, Tryz.results127, go_sem, Std.vals, f0, f1, f2, f3, f4, f5, f6, f7]) rfl ⟨rfl, grown_of_below hbl none⟩
            · have br : decide (watch - s'.last iN ≤ (rd_T128 people (iN : Int)).f1) = false := decide_eq_false hr0
              have hR : afterS people watch (on.drop (kk + 1)) (s'.put iN watch (s'.many iN + 1)) = R := by
                rw [← HAA.out]; rw [afterS]; rw [if_pos]; · rfl
                simp only [stepB, decide_eq_true_eq, Int.toNat_natCast]; exact ⟨hab, by omega, .inr (by omega)⟩
              have HRS := Aside0.mk hR
              have HMB := Aside0.mk (And.intro hm hab)
              clear hR hm hab hl0 hr0
              go_quiet (fail)
              go_wp2
              go_roundg (on.length - (kk + 1))
              case measure => omega
              case rel => exact ⟨kk + 1, s'.put iN watch (s'.many iN + 1), by omega, by omega, by go_num, ⟨put_ok (by omega) hok ⟨by omega, by omega⟩ ⟨by omega, by have := HM2; have := HMB.out.1; omega⟩, HRS.out⟩, ⟨below_set1 (below_set1 (pw_below_drewN HB1.out nq) (by omega) _ _) (by omega) _ _, blk_far (blk_far HP1.out (by simp) _) (by simp) _, put_blk (by omega) HS1.out _ _, blk_far (blk_far HRb1.out (by simp) _) (by simp) _⟩⟩
    · have hltz : ¬ (kk : Int) < (on.length : Int) := by omega
      obtain rfl : kk = on.length := by omega
      have HA := Aside0.mk hI.out.2
      have hR : R = (s', true) := by rw [← HA.out, List.drop_length]; rfl
      have HRS := Aside0.mk hR
      obtain ⟨e0, e1, e2, e3, e4, e5, e6, e7⟩ := cells8 hS
      have hfz2 : ∀ j, wr.frozen? ⟨w.heap.size + 1 + 1, j, none⟩ = false := fun j => blk_frozen hRb j
      have hz8 : ∀ j, j < 8 → wr.cell? ⟨w.heap.size + 1 + 1, j, none⟩ = some (.int .i64 0) := fun j hj => by
        rw [blk_cell hRb j, Z8.out]
        rcases (by omega : j = 0 ∨ j = 1 ∨ j = 2 ∨ j = 3 ∨ j = 4 ∨ j = 5 ∨ j = 6 ∨ j = 7) with rfl | rfl | rfl | rfl | rfl | rfl | rfl | rfl <;> rfl
      have z0 := hz8 0 (by decide)
      have z1 := hz8 1 (by decide)
      have z2 := hz8 2 (by decide)
      have z3 := hz8 3 (by decide)
      have z4 := hz8 4 (by decide)
      have z5 := hz8 5 (by decide)
      have z6 := hz8 6 (by decide)
      have z7 := hz8 7 (by decide)
      have HRb1 := Aside0.mk hRb
      have HB1 := Aside0.mk hb
      clear hS hP hRb hb hz8 hM hR HA hI
      go_wp2
      have hfin := set8_blk s' (V := wr) (by rw [← Z8.out]; exact HRb1.out)
      have hbl := set8_below s' (V := wr) (b := w.heap.size + 1 + 1) HB1.out (by omega)
      change bodyPost _ _ _ _ _ (set8 wr (w.heap.size + 1 + 1) s')
      generalize set8 wr (w.heap.size + 1 + 1) s' = W9 at hfin hbl ⊢
      obtain ⟨f0, f1, f2, f3, f4, f5, f6, f7⟩ := cells8 hfin
      rw [HRS.out]
      exact bodyPost_ret (v := .tuple #[.agg s'.vals, .bool true]) (by simp [results, Tryz.results127, go_sem, Std.vals, f0, f1, f2, f3, f4, f5, f6, f7]) rfl ⟨rfl, grown_of_below hbl none⟩
end Go.Proofs.YtekdacalkllipaaGreat.PR
end
section
namespace Go.Proofs.YtekdacalkllipaaGreat.PR
open Go.RowKit Go.Shelf Go.Proofs.YtekdacalkllipaaGreatW.PrintWords Go.Proofs.YtekdacalkllipaaGreatW.PrintLast Go.Proofs.YtekdacalkllipaaGreatW.PrintMore
set_option linter.unusedVariables false
set_option linter.unusedSimpArgs false
def rulesS (people : List S128) : Int → List (List Int) → Std → Bool
  | _, [], _ => true
  | watch, on :: r, s => if (afterS people watch on s).2 = true then rulesS people (watch + 1) r (afterS people watch on s).1 else false
theorem set8_far {V : World} {b g : Nat} {t : TypeId} {cs : Array Value} {s : Std} (h : V.heap[g]? = some (.cells cs t (0, 0))) (hne : g ≠ b) : (set8 V b s).heap[g]? = some (.cells cs t (0, 0)) := by
  unfold set8
  exact blk_far (blk_far (blk_far (blk_far (blk_far (blk_far (blk_far (blk_far h hne _) hne _) hne _) hne _) hne _) hne _) hne _) hne _
theorem set8_over {V : World} {b : Nat} {t : TypeId} {s0 : Std} (s : Std) (h : V.heap[b]? = some (.cells s0.vals t (0, 0))) : (set8 V b s).heap[b]? = some (.cells s.vals t (0, 0)) := by
  unfold Std.vals at h
  have h0 : (V.setCell ⟨b, 0, none⟩ (.int .i64 s.a0)).heap[b]? = some (.cells #[.int .i64 s.a0, .int .i64 s0.b0, .int .i64 s0.a1, .int .i64 s0.b1, .int .i64 s0.a2, .int .i64 s0.b2, .int .i64 s0.a3, .int .i64 s0.b3] t (0, 0)) := blk_put h 0 (.int .i64 s.a0) rfl
  have h1 : ((V.setCell ⟨b, 0, none⟩ (.int .i64 s.a0)).setCell ⟨b, 1, none⟩ (.int .i64 s.b0)).heap[b]? = some (.cells #[.int .i64 s.a0, .int .i64 s.b0, .int .i64 s0.a1, .int .i64 s0.b1, .int .i64 s0.a2, .int .i64 s0.b2, .int .i64 s0.a3, .int .i64 s0.b3] t (0, 0)) := blk_put h0 1 (.int .i64 s.b0) rfl
  have h2 : (((V.setCell ⟨b, 0, none⟩ (.int .i64 s.a0)).setCell ⟨b, 1, none⟩ (.int .i64 s.b0)).setCell ⟨b, 2, none⟩ (.int .i64 s.a1)).heap[b]? = some (.cells #[.int .i64 s.a0, .int .i64 s.b0, .int .i64 s.a1, .int .i64 s0.b1, .int .i64 s0.a2, .int .i64 s0.b2, .int .i64 s0.a3, .int .i64 s0.b3] t (0, 0)) := blk_put h1 2 (.int .i64 s.a1) rfl
  have h3 : ((((V.setCell ⟨b, 0, none⟩ (.int .i64 s.a0)).setCell ⟨b, 1, none⟩ (.int .i64 s.b0)).setCell ⟨b, 2, none⟩ (.int .i64 s.a1)).setCell ⟨b, 3, none⟩ (.int .i64 s.b1)).heap[b]? = some (.cells #[.int .i64 s.a0, .int .i64 s.b0, .int .i64 s.a1, .int .i64 s.b1, .int .i64 s0.a2, .int .i64 s0.b2, .int .i64 s0.a3, .int .i64 s0.b3] t (0, 0)) := blk_put h2 3 (.int .i64 s.b1) rfl
  have h4 : (((((V.setCell ⟨b, 0, none⟩ (.int .i64 s.a0)).setCell ⟨b, 1, none⟩ (.int .i64 s.b0)).setCell ⟨b, 2, none⟩ (.int .i64 s.a1)).setCell ⟨b, 3, none⟩ (.int .i64 s.b1)).setCell ⟨b, 4, none⟩ (.int .i64 s.a2)).heap[b]? = some (.cells #[.int .i64 s.a0, .int .i64 s.b0, .int .i64 s.a1, .int .i64 s.b1, .int .i64 s.a2, .int .i64 s0.b2, .int .i64 s0.a3, .int .i64 s0.b3] t (0, 0)) := blk_put h3 4 (.int .i64 s.a2) rfl
  have h5 : ((((((V.setCell ⟨b, 0, none⟩ (.int .i64 s.a0)).setCell ⟨b, 1, none⟩ (.int .i64 s.b0)).setCell ⟨b, 2, none⟩ (.int .i64 s.a1)).setCell ⟨b, 3, none⟩ (.int .i64 s.b1)).setCell ⟨b, 4, none⟩ (.int .i64 s.a2)).setCell ⟨b, 5, none⟩ (.int .i64 s.b2)).heap[b]? = some (.cells #[.int .i64 s.a0, .int .i64 s.b0, .int .i64 s.a1, .int .i64 s.b1, .int .i64 s.a2, .int .i64 s.b2, .int .i64 s0.a3, .int .i64 s0.b3] t (0, 0)) := blk_put h4 5 (.int .i64 s.b2) rfl
  have h6 : (((((((V.setCell ⟨b, 0, none⟩ (.int .i64 s.a0)).setCell ⟨b, 1, none⟩ (.int .i64 s.b0)).setCell ⟨b, 2, none⟩ (.int .i64 s.a1)).setCell ⟨b, 3, none⟩ (.int .i64 s.b1)).setCell ⟨b, 4, none⟩ (.int .i64 s.a2)).setCell ⟨b, 5, none⟩ (.int .i64 s.b2)).setCell ⟨b, 6, none⟩ (.int .i64 s.a3)).heap[b]? = some (.cells #[.int .i64 s.a0, .int .i64 s.b0, .int .i64 s.a1, .int .i64 s.b1, .int .i64 s.a2, .int .i64 s.b2, .int .i64 s.a3, .int .i64 s0.b3] t (0, 0)) := blk_put h5 6 (.int .i64 s.a3) rfl
  have h7 : ((((((((V.setCell ⟨b, 0, none⟩ (.int .i64 s.a0)).setCell ⟨b, 1, none⟩ (.int .i64 s.b0)).setCell ⟨b, 2, none⟩ (.int .i64 s.a1)).setCell ⟨b, 3, none⟩ (.int .i64 s.b1)).setCell ⟨b, 4, none⟩ (.int .i64 s.a2)).setCell ⟨b, 5, none⟩ (.int .i64 s.b2)).setCell ⟨b, 6, none⟩ (.int .i64 s.a3)).setCell ⟨b, 7, none⟩ (.int .i64 s.b3)).heap[b]? = some (.cells #[.int .i64 s.a0, .int .i64 s.b0, .int .i64 s.a1, .int .i64 s.b1, .int .i64 s.a2, .int .i64 s.b2, .int .i64 s.a3, .int .i64 s.b3] t (0, 0)) := blk_put h6 7 (.int .i64 s.b3) rfl
  exact h7
theorem personOk_most {need : List Int} {x : S128} (h : personOk need x = true) : x.f2 ≤ 5 := by simp [personOk] at h; omega
theorem afterS_ok (people : List S128) (need : List Int) (hv : ∀ x ∈ people, personOk need x = true) (watch : Int) (h0 : 0 ≤ watch) (h5 : watch ≤ 5) (hp : people.length ≤ 4) :
    ∀ (on : List Int) (s : Std), s.ok → (∀ x ∈ on, 0 ≤ x ∧ x < people.length) → (afterS people watch on s).1.ok := by
  intro on
  induction on with
  | nil => intro s hs _; exact hs
  | cons i on ih =>
    intro s hs hon
    rw [afterS]
    by_cases hb : stepB people watch s i = true
    · rw [if_pos hb]
      obtain ⟨q1, q2⟩ := hon i (by simp)
      refine ih _ ?_ (fun x hx => hon x (by simp [hx]))
      have hm : (rd_T128 people i).f2 ≤ 5 := personOk_most (hv _ (by
        have : i.toNat < people.length := by omega
        simp [rd_T128, this]))
      have := hs i.toNat (by omega)
      simp only [stepB, decide_eq_true_eq] at hb
      exact put_ok (by omega) hs ⟨by omega, h5⟩ ⟨by omega, by omega⟩
    · rw [if_neg hb]; exact hs
set_option maxHeartbeats 2000000 in
theorem rules_any (A0 : Option Addr) (c0 : Nat) (need : List Int) (A1 : Option Addr) (c1 : Nat) (people : List S128) (A2 : Option Addr) (c2 n2 : Nat) (A3 : Option Addr) (c3 : Nat) (r : List (List Int)) (w : World)
    (h1 : k128.C w A1 people.length people) (h3 : (Kd.slice 3 (Kd.int .i64)).C w A3 r.length r) (hp : people.length ≤ 4) (hv : ∀ x ∈ people, personOk need x = true) (hn : need.length ≤ 5) (hrl : r.length = need.length)
    (hon : ∀ on ∈ r, ∀ x ∈ on, 0 ≤ x ∧ x < people.length) :
    Calls Tryz.prog 79 #[.agg #[.slice A0 need.length c0, .slice A1 people.length c1, .slice A2 n2 c2], .slice A3 r.length c3] w fun e w' => e = .returned (.bool (rulesS people 0 r std0)) ∧ w.grownBy w' none := by
  have hl3 := C_len h3
  obtain ⟨R, hR⟩ : ∃ R, R = rulesS people 0 r std0 := ⟨_, rfl⟩
  rw [← hR]
  obtain ⟨w3, hw3⟩ : ∃ w3, w3 = ((w.alloc (.cells #[.slice A0 need.length c0, .slice A1 people.length c1, .slice A2 n2 c2] 34)).alloc (.cells std0.vals 143)).alloc (.cells std0.vals 143) := ⟨_, rfl⟩
  have H3 : Aside0 (Below w.heap.size w w3 ∧ w3.heap[w.heap.size]? = some (.cells #[.slice A0 need.length c0, .slice A1 people.length c1, .slice A2 n2 c2] 34 (0, 0)) ∧ w3.heap[w.heap.size + 1 + 1]? = some (.cells std0.vals 143 (0, 0))) := by
    refine ⟨?_, ?_, ?_⟩
    · rw [hw3]; exact below_none (grown_trans (World.grownBy_alloc _ _ _) (grown_trans (World.grownBy_alloc _ _ _) (World.grownBy_alloc _ _ _)))
    · rw [hw3]; exact blk_alloc (blk_alloc (blk_new w _) _) _
    · rw [hw3]; have := blk_new ((w.alloc (.cells #[.slice A0 need.length c0, .slice A1 people.length c1, .slice A2 n2 c2] 34)).alloc (.cells std0.vals 143)) (.cells std0.vals 143); rwa [World.size_alloc, World.size_alloc] at this
  have HR := Aside0.mk hR
  have HON := Aside0.mk hon
  have HV := Aside0.mk hv
  have HR1 := Aside0.mk h1
  have HR3 := Aside0.mk h3
  have HRL := Aside0.mk hrl
  rw [hw3] at H3
  simp only [std0, Std.vals] at H3
  clear hR hon hv h1 h3 hrl hw3
  go_enter Tryz.func79, Tryz.ntmps79
  go_wp2_with (go_at_call 86; refine (begun_any _).mono ?_; rintro e w' ⟨rfl, rfl⟩; simp only [std0, Std.vals])
  go_loopg [6, 12] r.length (fun gg _ s12 wr => ∃ (kk : Nat) (s' : Std), kk ≤ r.length ∧ r.length - kk ≤ gg ∧ s12 = .int .i64 kk ∧ Aside0 (s'.ok ∧ rulesS people kk (r.drop kk) s' = R) ∧ Aside0 (Below w.heap.size w wr ∧ wr.heap[w.heap.size]? = some (.cells #[.slice A0 need.length c0, .slice A1 people.length c1, .slice A2 n2 c2] 34 (0, 0)) ∧ wr.heap[w.heap.size + 1 + 1]? = some (.cells s'.vals 143 (0, 0))))
  case atStart => exact ⟨0, std0, Nat.zero_le _, by omega, rfl, ⟨std0_ok, by rw [HR.out]; rfl⟩, H3⟩
  case round =>
    clear H3
    obtain ⟨kk, s', hkk, hg, rfl, hI, hM⟩ := hrel
    obtain ⟨hb, hP, hS⟩ := hM.out
    by_cases hlt : kk < r.length
    · have hltz : (kk : Int) < (r.length : Int) := by omega
      obtain ⟨ad, A', c', e0, hx, hl, hi⟩ := at_L1 (Kd.C_below HR3.out hb) (kk : Int) (by omega) (by omega)
      cases e0
      have hx' : wr.cell? (ad.add kk) = some (.slice A' (rd_L1 r kk).length c') := hx
      have hmem : rd_L1 r kk ∈ r := by simp [rd_L1, List.getElem_mem, hlt]
      have hdrop : r.drop kk = rd_L1 r kk :: r.drop (kk + 1) := by
        rw [List.drop_eq_getElem_cons hlt]; simp [rd_L1, hlt]
      obtain ⟨hok, hA⟩ := hI.out
      rw [hdrop, rulesS] at hA
      have hin := HON.out _ hmem
      clear hx hdrop hmem
      generalize rd_L1 r kk = on at *
      obtain ⟨q0, q1, q2⟩ := box3 hP
      obtain ⟨e0, e1, e2, e3, e4, e5, e6, e7⟩ := cells8 hS
      have hkn : (kk : Int) < need.length := by have := HRL.out; omega
      have HC := Aside0.mk (after_any A0 c0 need A1 c1 people A2 c2 n2 s' kk A' c' on wr (Kd.C_below HR1.out hb) hi hp HV.out (by omega) hkn hn hin hok)
      have hok' := afterS_ok people need HV.out kk (by omega) (by omega) hp on s' hok hin
      have hfz : ∀ j, wr.frozen? ⟨w.heap.size + 1 + 1, j, none⟩ = false := fun j => blk_frozen hS j
      have HB := Aside0.mk hb
      have HP := Aside0.mk hP
      have HS := Aside0.mk hS
      obtain ⟨⟨z1, zb⟩, hz⟩ : ∃ z, z = afterS people kk on s' := ⟨_, rfl⟩
      rw [← hz] at HC hA hok'
      dsimp only at HC hA hok'
      have HA := Aside0.mk hA
      have HOK := Aside0.mk hok'
      clear hz hA hok' hb hP hS hM hI hok hin hi hl hkn
      simp only [Std.vals] at HC
      go_wp2_with fail
      refine HC.out.mono ?_
      rintro e W1 ⟨rfl, hg⟩
      have hS1 := blk_grown HS.out hg (fun _ e => by cases e)
      have hP1 := blk_grown HP.out hg (fun _ e => by cases e)
      have hB1 := below_grown_none HB.out hg
      obtain ⟨f0, f1, f2, f3, f4, f5, f6, f7⟩ := cells8 hS1
      have hfz1 : ∀ j, W1.frozen? ⟨w.heap.size + 1 + 1, j, none⟩ = false := fun j => blk_frozen hS1 j
      have HB1 := Aside0.mk hB1
      have HP1 := Aside0.mk hP1
      have HS1 := Aside0.mk hS1
      clear hg hS1 hP1 hB1 HC e0 e1 e2 e3 e4 e5 e6 e7 hx' q0 q1 q2 hfz
      cases zb with
      | true =>
        go_wp2
        go_roundg (r.length - (kk + 1))
        case measure => omega
        case rel => exact ⟨kk + 1, z1, by omega, by omega, by go_num, ⟨HOK.out, by have := HA.out; rw [if_true] at this; exact this⟩, ⟨set8_below z1 HB1.out (by omega), set8_far HP1.out (by omega), set8_over z1 HS1.out⟩⟩
      | false =>
        have HF : Aside0 (R = false) := ⟨by rw [← HA.out]; rfl⟩
        go_wp2
        go_ret
        exact ⟨by rw [HF.out]; rfl, grown_of_below (set8_below z1 HB1.out (by omega)) none⟩
    · have hltz : ¬ (kk : Int) < (r.length : Int) := by omega
      obtain rfl : kk = r.length := by omega
      have HF : Aside0 (R = true) := ⟨by rw [← hI.out.2, List.drop_length]; rfl⟩
      have HB := Aside0.mk hb
      clear hb hP hS hM hI
      go_wp2
      go_ret
      exact ⟨by rw [HF.out]; rfl, grown_of_below HB.out none⟩
theorem postErr_ok {need : List Int} {people : List S128} {cases : List (List Int)} (h : postErr need people cases = 0) :
    (need.length ≤ 5 ∧ 0 < need.length) ∧ (people.length ≤ 4 ∧ 0 < people.length) ∧ cases.length ≤ 4 ∧ (∀ n ∈ need, 0 ≤ n ∧ n ≤ 2) ∧ (∀ x ∈ people, personOk need x = true) ∧ ∀ l ∈ cases, illOk need people.length l = true := by
  unfold postErr at h
  by_cases a : 5 < need.length ∨ 4 < people.length ∨ 4 < cases.length
  · rw [if_pos a] at h; cases h
  · rw [if_neg a] at h
    by_cases b : need.length = 0 ∨ people.length = 0 ∨ (need.all fun n => inr n 0 2) = false ∨ (people.all (personOk need)) = false ∨ (cases.all (illOk need people.length)) = false
    · rw [if_pos b] at h; cases h
    · simp only [not_or] at b
      obtain ⟨b1, b2, b3, b4, b5⟩ := b
      refine ⟨⟨by omega, by omega⟩, ⟨by omega, by omega⟩, by omega, ?_, ?_, ?_⟩
      · intro n hn
        have := List.all_eq_true.1 (Bool.not_eq_false _ ▸ b3 : _ = true) n hn
        simpa [inr] using this
      · exact List.all_eq_true.1 (by simpa using b4)
      · exact List.all_eq_true.1 (by simpa using b5)
theorem incB_mem {l : List Int} {bl : Int} (h : incB l bl = true) : ∀ x ∈ l, 0 ≤ x ∧ x < bl := by
  rw [incB, List.all_eq_true] at h
  have key : ∀ i, i < l.length → 0 ≤ l.getD i 0 ∧ l.getD i 0 < bl := by
    intro i
    induction i with
    | zero =>
      intro hi
      have := h 0 (List.mem_range.2 hi)
      simp only [incAt, inr, lastAt, decide_eq_true_eq, if_true] at this
      omega
    | succ i ih =>
      intro hi
      have h1 := ih (by omega)
      have := h (i + 1) (List.mem_range.2 hi)
      simp only [incAt, inr, lastAt, decide_eq_true_eq, if_neg (Nat.succ_ne_zero i), Nat.add_sub_cancel] at this
      omega
  intro x hx
  obtain ⟨i, hi, rfl⟩ := List.getElem_of_mem hx
  have := key i hi
  rwa [List.getD_eq_getElem?_getD, List.getElem?_eq_getElem hi] at this
theorem rotaErr_ok {need : List Int} {people : List S128} {cases : List (List Int)} {r : List (List Int)} (h : rotaErr need people cases r = 0) :
    postErr need people cases = 0 ∧ r.length = need.length ∧ ∀ l ∈ r, incB l people.length = true := by
  unfold rotaErr at h
  by_cases a : postErr need people cases ≠ 0
  · rw [if_pos a] at h; exact absurd h a
  · rw [if_neg a] at h
    by_cases b : r.length ≠ need.length ∨ (r.all fun l => incB l people.length) = false
    · rw [if_pos b] at h; cases h
    · simp only [not_or] at b
      exact ⟨by simpa using a, by simpa using b.1, List.all_eq_true.1 (by simpa using b.2)⟩
set_option maxHeartbeats 1000000 in
theorem Rules_any (A0 : Option Addr) (c0 : Nat) (need : List Int) (A1 : Option Addr) (c1 : Nat) (people : List S128) (A2 : Option Addr) (c2 : Nat) (cases : List (List Int)) (A3 : Option Addr) (c3 : Nat) (r : List (List Int)) (w : World)
    (h0 : (Kd.int .i64).C w A0 need.length need) (h1 : k128.C w A1 people.length people) (h2 : (Kd.slice 3 (Kd.int .i64)).C w A2 cases.length cases) (h3 : (Kd.slice 3 (Kd.int .i64)).C w A3 r.length r) :
    Calls Tryz.prog 20 #[.agg #[.slice A0 need.length c0, .slice A1 people.length c1, .slice A2 cases.length c2], .slice A3 r.length c3] w fun e w' => e = .returned (.tuple #[.bool (decide (rotaErr need people cases r = 0) && rulesS people 0 r std0), .int .i64 (rotaErr need people cases r)]) ∧ w.grownBy w' none := by
  have HC := Aside0.mk (check_any A0 c0 need A1 c1 people A2 c2 cases A3 c3 r (w.alloc (.cells #[.slice A0 need.length c0, .slice A1 people.length c1, .slice A2 cases.length c2] 34)) (Kd.C_alloc h0 _) (Kd.C_alloc h1 _) (Kd.C_alloc h2 _) (Kd.C_alloc h3 _))
  have G0 : Aside0 (w.grownBy (w.alloc (.cells #[.slice A0 need.length c0, .slice A1 people.length c1, .slice A2 cases.length c2] 34)) none) := ⟨World.grownBy_alloc _ _ _⟩
  have K0 : Aside0 ((w.alloc (.cells #[.slice A0 need.length c0, .slice A1 people.length c1, .slice A2 cases.length c2] 34)).heap[w.heap.size]? = some (.cells #[.slice A0 need.length c0, .slice A1 people.length c1, .slice A2 cases.length c2] 34 (0, 0))) := ⟨blk_new w _⟩
  by_cases hz : rotaErr need people cases r = 0
  · obtain ⟨p0, p1, p2⟩ := rotaErr_ok hz
    obtain ⟨⟨n1, n2⟩, ⟨m1, m2⟩, k1, u1, u2, u3⟩ := postErr_ok p0
    have HR : Aside0 (∀ W, Below w.heap.size w W → Calls Tryz.prog 79 #[.agg #[.slice A0 need.length c0, .slice A1 people.length c1, .slice A2 cases.length c2], .slice A3 r.length c3] W fun e w' => e = .returned (.bool (rulesS people 0 r std0)) ∧ W.grownBy w' none) := ⟨fun W hb =>
      rules_any A0 c0 need A1 c1 people A2 c2 _ A3 c3 r W (Kd.C_below h1 hb) (Kd.C_below h3 hb) m1 u2 n1 p1 (fun on hon => incB_mem (p2 on hon))⟩
    rw [hz] at HC ⊢
    simp only [decide_true, Bool.true_and]
    generalize rulesS people 0 r std0 = R at HR ⊢
    clear hz p0 p1 p2 u1 u2 u3 h0 h1 h2 h3
    go_enter Tryz.func20, Tryz.ntmps20
    go_wp2_with fail
    refine HC.out.mono ?_
    rintro e W1 ⟨rfl, hg⟩
    have G1 := Aside0.mk (grown_trans G0.out hg)
    have K1 := Aside0.mk (blk_grown K0.out hg (fun _ e => by cases e))
    clear hg
    obtain ⟨bx1, by1, bz1⟩ := box3 K1.out
    go_wp2_with fail
    refine (HR.out _ (below_none G1.out)).mono ?_
    rintro e W2 ⟨rfl, hg⟩
    have G2 := Aside0.mk (grown_trans G1.out hg)
    clear hg
    go_wp2
    go_ret2
    exact ⟨rfl, G2.out⟩
  · have b0 : (rotaErr need people cases r != 0) = true := by rw [bne_iff_ne]; exact hz
    have e : decide (rotaErr need people cases r = 0) = false := decide_eq_false hz
    rw [e]
    simp only [Bool.false_and]
    generalize rotaErr need people cases r = q at *
    clear hz e h0 h1 h2 h3
    go_enter Tryz.func20, Tryz.ntmps20
    go_wp2_with fail
    refine HC.out.mono ?_
    rintro e W1 ⟨rfl, hg⟩
    have G1 := Aside0.mk (grown_trans G0.out hg)
    clear hg
    go_wp2
    go_ret2
    exact ⟨rfl, G1.out⟩
end Go.Proofs.YtekdacalkllipaaGreat.PR
end
section
namespace Go.Proofs.YtekdacalkllipaaGreat.PR
open Go.RowKit Go.Shelf Go.Proofs.YtekdacalkllipaaGreatW.PrintWords Go.Proofs.YtekdacalkllipaaGreatW.PrintLast Go.Proofs.YtekdacalkllipaaGreatW.PrintMore
set_option linter.unusedVariables false
set_option linter.unusedSimpArgs false
def upB (ill : Option (List Int)) (watch : Int) (i : Int) : Bool :=
  match ill with
  | none => true
  | some l => decide (l.getD i.toNat 0 = -1 ∨ watch < l.getD i.toNat 0)
def awakeN (on : List Int) (ill : Option (List Int)) (watch : Int) : Int := (on.countP (upB ill watch) : Nat)
def IllAt (w : World) (v : Value) : Option (List Int) → Prop
  | none => v = .slice none 0 0
  | some l => 0 < l.length ∧ ∃ A c, v = .slice A l.length c ∧ (Kd.int .i64).C w A l.length l
theorem IllAt.below {w w' : World} {v : Value} {ill : Option (List Int)} (h : IllAt w v ill) (hb : Below w.heap.size w w') : IllAt w' v ill := by
  cases ill with
  | none => exact h
  | some l =>
    obtain ⟨h0, A, c, e, hc⟩ := h
    exact ⟨h0, A, c, e, Kd.C_below hc hb⟩
theorem awakeN_snoc (on : List Int) (ill : Option (List Int)) (watch : Int) (k : Nat) (h : k < on.length) : awakeN (on.take (k + 1)) ill watch = awakeN (on.take k) ill watch + if upB ill watch (rd on k) = true then 1 else 0 := by
  unfold awakeN
  rw [List.take_succ_eq_append_getElem h, List.countP_append]
  have : rd on (k : Int) = on[k] := by simp [rd, h]
  rw [this]
  by_cases e : upB ill watch on[k] = true <;> simp [e]
theorem awakeN_bd (on : List Int) (ill : Option (List Int)) (watch : Int) : 0 ≤ awakeN on ill watch ∧ awakeN on ill watch ≤ on.length := by
  unfold awakeN
  exact ⟨by omega, by have := List.countP_le_length (p := upB ill watch) (l := on); omega⟩
set_option maxHeartbeats 2000000 in
theorem awake_any (A0 : Option Addr) (c0 : Nat) (on : List Int) (v : Value) (ill : Option (List Int)) (watch : Int) (w : World) (h0 : (Kd.int .i64).C w A0 on.length on) (hi : IllAt w v ill)
    (hon : ∀ l, ill = some l → ∀ x ∈ on, 0 ≤ x ∧ x < l.length) :
    Calls Tryz.prog 129 #[.slice A0 on.length c0, v, .int .i64 watch] w fun e w' => e = .returned (.int .i64 (awakeN on ill watch)) ∧ w = w' := by
  have hl0 := C_len h0
  cases ill with
  | none =>
    obtain rfl : v = .slice none 0 0 := hi
    have hnil := fun (W : World) => Lib.run_eql_slice_nil (P := Tryz.prog) W 22 3 none 0 0 0 0 Tryz.underlying22
    go_enter Tryz.func129, Tryz.ntmps129
    go_wp2
    go_loop [6, 8, 11] (fun s6 _ s11 => ∃ kk : Nat, kk ≤ on.length ∧ s11 = .int .i64 kk ∧ s6 = .int .i64 (awakeN (on.take kk) none watch)) (fun _ _ s11 => on.length - (intOf s11).toNat)
    case atStart => exact ⟨0, Nat.zero_le _, rfl, rfl⟩
    case round =>
      obtain ⟨kk, hkk, rfl, rfl⟩ := hrel
      by_cases hlt : kk < on.length
      · have hltz : (kk : Int) < (on.length : Int) := by omega
        obtain ⟨ad, e0, hx⟩ := Kd.at_int h0 (kk : Int) (by omega) (by omega)
        cases e0
        have hx' : w.cell? (ad.add kk) = some (.int .i64 (rd on kk)) := hx
        have HS := Aside0.mk (awakeN_snoc on none watch kk hlt)
        have hb := awakeN_bd (on.take kk) none watch
        have hl : (on.take kk).length ≤ kk := List.length_take_le _ _
        have hu : upB none watch (rd on kk) = true := rfl
        rw [if_pos hu] at HS
        clear hx hu h0
        go_wp2
        go_round
        case rel => exact ⟨kk + 1, by omega, by go_num, by rw [HS.out]⟩
        case measure => simp [intOf]; omega
      · have hltz : ¬ (kk : Int) < (on.length : Int) := by omega
        obtain rfl : kk = on.length := by omega
        go_wp2
        go_ret
        exact ⟨rfl, rfl⟩
  | some l =>
    obtain ⟨hl0', A, c, rfl, hc⟩ := hi
    have hl1 := C_len hc
    obtain ⟨adl, eA, _⟩ := Kd.at_int hc 0 (by omega) (by omega)
    cases eA
    have hnil := fun (W : World) => Lib.run_eql_slice_nil (P := Tryz.prog) W 22 3 (some adl) l.length c 0 0 Tryz.underlying22
    have HON := Aside0.mk (hon l rfl)
    clear hon
    go_enter Tryz.func129, Tryz.ntmps129
    go_wp2
    go_loop [6, 8, 11] (fun s6 _ s11 => ∃ kk : Nat, kk ≤ on.length ∧ s11 = .int .i64 kk ∧ s6 = .int .i64 (awakeN (on.take kk) (some l) watch)) (fun _ _ s11 => on.length - (intOf s11).toNat)
    case atStart => exact ⟨0, Nat.zero_le _, rfl, rfl⟩
    case round =>
      obtain ⟨kk, hkk, rfl, rfl⟩ := hrel
      by_cases hlt : kk < on.length
      · have hltz : (kk : Int) < (on.length : Int) := by omega
        obtain ⟨ad, e0, hx⟩ := Kd.at_int h0 (kk : Int) (by omega) (by omega)
        cases e0
        have hx' : w.cell? (ad.add kk) = some (.int .i64 (rd on kk)) := hx
        have HS := Aside0.mk (awakeN_snoc on (some l) watch kk hlt)
        have hb := awakeN_bd (on.take kk) (some l) watch
        have hl : (on.take kk).length ≤ kk := List.length_take_le _ _
        obtain ⟨q1, q2⟩ := HON.out (rd on kk) (by simp [rd, List.getElem_mem, hlt])
        clear hx h0
        generalize rd on kk = i at *
        obtain ⟨ad1, e1, hy⟩ := Kd.at_int hc i q1 q2
        cases e1
        have hq : rd l i = l.getD i.toNat 0 := rfl
        have HU : Aside0 (upB (some l) watch i = decide (rd l i = -1 ∨ watch < rd l i)) := ⟨rfl⟩
        clear hq hc
        generalize rd l i = t at *
        by_cases ht : t = -1
        · subst ht
          have h2 := HS.out
          rw [HU.out, if_pos (by simp)] at h2
          have HS2 := Aside0.mk h2
          clear h2 HS HU
          go_wp2
          go_round
          case rel => exact ⟨kk + 1, by omega, by go_num, by rw [HS2.out]⟩
          case measure => simp [intOf]; omega
        · have bt : (t == -1) = false := beq_eq_false_iff_ne.2 ht
          by_cases ht2 : watch < t
          · have h2 := HS.out
            rw [HU.out, if_pos (by simp [ht2])] at h2
            have HS2 := Aside0.mk h2
            clear h2 HS HU ht
            go_wp2
            go_round
            case rel => exact ⟨kk + 1, by omega, by go_num, by rw [HS2.out]⟩
            case measure => simp [intOf]; omega
          · have h2 := HS.out
            rw [HU.out, if_neg (by simp [ht, ht2])] at h2
            have HS2 := Aside0.mk h2
            clear h2 HS HU ht
            go_wp2
            go_round
            case rel => exact ⟨kk + 1, by omega, by go_num, by rw [HS2.out]; simp⟩
            case measure => simp [intOf]; omega
      · have hltz : ¬ (kk : Int) < (on.length : Int) := by omega
        obtain rfl : kk = on.length := by omega
        go_wp2
        go_ret
        exact ⟨rfl, rfl⟩
def failsS (need : List Int) (ill : Option (List Int)) : Int → List (List Int) → Int
  | _, [] => -1
  | watch, on :: r => if awakeN on ill watch < need.getD watch.toNat 0 then watch else failsS need ill (watch + 1) r
set_option maxHeartbeats 2000000 in
theorem fails_any (A0 : Option Addr) (c0 : Nat) (need : List Int) (A1 : Option Addr) (c1 n1 : Nat) (A2 : Option Addr) (c2 n2 : Nat) (A3 : Option Addr) (c3 : Nat) (r : List (List Int)) (v : Value) (ill : Option (List Int)) (w : World)
    (h0 : (Kd.int .i64).C w A0 need.length need) (h3 : (Kd.slice 3 (Kd.int .i64)).C w A3 r.length r) (hi : IllAt w v ill) (hrl : r.length = need.length)
    (hon : ∀ l, ill = some l → ∀ on ∈ r, ∀ x ∈ on, 0 ≤ x ∧ x < l.length) :
    Calls Tryz.prog 81 #[.agg #[.slice A0 need.length c0, .slice A1 n1 c1, .slice A2 n2 c2], .slice A3 r.length c3, v] w fun e w' => e = .returned (.int .i64 (failsS need ill 0 r)) ∧ w.grownBy w' none := by
  have hl3 := C_len h3
  obtain ⟨R, hR⟩ : ∃ R, R = failsS need ill 0 r := ⟨_, rfl⟩
  rw [← hR]
  have HR := Aside0.mk hR
  have HON := Aside0.mk hon
  have HI := Aside0.mk hi
  have HR0 := Aside0.mk h0
  have HR3 := Aside0.mk h3
  have HRL := Aside0.mk hrl
  have H3 : Aside0 (Below w.heap.size w (w.alloc (.cells #[.slice A0 need.length c0, .slice A1 n1 c1, .slice A2 n2 c2] 34)) ∧ (w.alloc (.cells #[.slice A0 need.length c0, .slice A1 n1 c1, .slice A2 n2 c2] 34)).heap[w.heap.size]? = some (.cells #[.slice A0 need.length c0, .slice A1 n1 c1, .slice A2 n2 c2] 34 (0, 0))) := ⟨below_none (World.grownBy_alloc _ _ _), blk_new w _⟩
  clear hR hon hi h0 h3 hrl
  go_enter Tryz.func81, Tryz.ntmps81
  go_wp2
  go_loopg [11] r.length (fun gg s11 wr => ∃ (kk : Nat), kk ≤ r.length ∧ r.length - kk ≤ gg ∧ s11 = .int .i64 kk ∧ Aside0 (failsS need ill kk (r.drop kk) = R) ∧ Aside0 (Below w.heap.size w wr ∧ wr.heap[w.heap.size]? = some (.cells #[.slice A0 need.length c0, .slice A1 n1 c1, .slice A2 n2 c2] 34 (0, 0))))
  case atStart => exact ⟨0, Nat.zero_le _, by omega, rfl, ⟨by rw [HR.out]; rfl⟩, H3⟩
  case round =>
    clear H3
    obtain ⟨kk, hkk, hg, rfl, hI, hM⟩ := hrel
    obtain ⟨hb, hP⟩ := hM.out
    by_cases hlt : kk < r.length
    · have hltz : (kk : Int) < (r.length : Int) := by omega
      obtain ⟨ad, A', c', e0, hx, hl, hi⟩ := at_L1 (Kd.C_below HR3.out hb) (kk : Int) (by omega) (by omega)
      cases e0
      have hx' : wr.cell? (ad.add kk) = some (.slice A' (rd_L1 r kk).length c') := hx
      have hmem : rd_L1 r kk ∈ r := by simp [rd_L1, List.getElem_mem, hlt]
      have hdrop : r.drop kk = rd_L1 r kk :: r.drop (kk + 1) := by
        rw [List.drop_eq_getElem_cons hlt]; simp [rd_L1, hlt]
      have hA := hI.out
      rw [hdrop, failsS] at hA
      have HC : Aside0 (∀ n, Calls Tryz.prog 129 #[.slice A' (rd_L1 r kk).length c', v, .int .i64 kk] (wr.drewN n) fun e w' => e = .returned (.int .i64 (awakeN (rd_L1 r kk) ill kk)) ∧ wr.drewN n = w') := ⟨fun n => awake_any A' c' _ v ill kk (wr.drewN n) (Kd.C_drewN hi n) (HI.out.below (pw_below_drewN hb n)) (fun l e x hx => HON.out l e _ hmem x hx)⟩
      have hkn : (kk : Int) < (need.length : Int) := by have := HRL.out; omega
      obtain ⟨adn, en, hn⟩ := Kd.at_int (Kd.C_below HR0.out hb) (kk : Int) (by omega) hkn
      cases en
      have hn' : wr.cell? (adn.add kk) = some (.int .i64 (rd need kk)) := hn
      have hnd : rd need kk = need.getD (kk : Int).toNat 0 := rfl
      rw [← hnd] at hA
      obtain ⟨q0, q1, q2⟩ := box3 hP
      have HB := Aside0.mk hb
      have HP := Aside0.mk hP
      have HA := Aside0.mk hA
      clear hx hdrop hmem hi hn hnd hA hb hP hM hI hl
      generalize awakeN (rd_L1 r kk) ill kk = an at *
      generalize rd need kk = nd at *
      by_cases ha : an < nd
      · have hF : Aside0 (R = kk) := ⟨by rw [← HA.out, if_pos ha]⟩
        go_wp2
        go_quiet ((go_at_call 129; refine (HC.out _).mono ?_; rintro e w' ⟨rfl, rfl⟩; exact ⟨rfl, _, rfl⟩))
        go_wp2
        go_ret
        exact ⟨by rw [hF.out]; rfl, grown_of_below (pw_below_drewN HB.out _) none⟩
      · have hF : Aside0 (failsS need ill ((kk + 1 : Nat) : Int) (r.drop (kk + 1)) = R) := ⟨by rw [← HA.out, if_neg ha]; rfl⟩
        go_wp2
        go_quiet ((go_at_call 129; refine (HC.out _).mono ?_; rintro e w' ⟨rfl, rfl⟩; exact ⟨rfl, _, rfl⟩))
        go_wp2
        go_roundg (r.length - (kk + 1))
        case measure => omega
        case rel => exact ⟨kk + 1, by omega, by omega, by go_num, hF, ⟨pw_below_drewN HB.out _, HP.out⟩⟩
    · have hltz : ¬ (kk : Int) < (r.length : Int) := by omega
      obtain rfl : kk = r.length := by omega
      have HF : Aside0 (R = -1) := ⟨by rw [← hI.out, List.drop_length]; rfl⟩
      have HB := Aside0.mk hb
      clear hb hP hM hI
      go_wp2
      go_ret
      exact ⟨by rw [HF.out]; rfl, grown_of_below HB.out none⟩
end Go.Proofs.YtekdacalkllipaaGreat.PR
end
section
namespace Go.Proofs.YtekdacalkllipaaGreat.PR
open Go.RowKit Go.Shelf Go.Proofs.YtekdacalkllipaaGreatW.PrintWords Go.Proofs.YtekdacalkllipaaGreatW.PrintLast Go.Proofs.YtekdacalkllipaaGreatW.PrintMore
set_option linter.unusedVariables false
set_option linter.unusedSimpArgs false
attribute [local go_sem] Oper.semAt_some
def caseAt (cases : List (List Int)) (i : Nat) : Option (List Int) := if i < cases.length then some (rd_L1 cases i) else none
abbrev CaseX (w0 : World) (cases : List (List Int)) := { x : Nat × Value // x.1 ≤ cases.length ∧ IllAt w0 x.2 (caseAt cases x.1) }
def KeepBox (n₁ Bp : Nat) (W W' : World) : Prop := Below n₁ W W' ∧ W'.heap[Bp]? = W.heap[Bp]?
theorem KeepBox.trans {n₁ Bp : Nat} {A B C : World} (h : KeepBox n₁ Bp A B) (k : KeepBox n₁ Bp B C) : KeepBox n₁ Bp A C := ⟨h.1.trans k.1, k.2.trans h.2⟩
theorem pw_cell_below' {n₁ : Nat} {w0 W : World} (h : Below n₁ w0 W) (hn : n₁ = w0.heap.size) {a : Addr} {v : Value} (hc : w0.cell? a = some v) : W.cell? a = some v := by subst hn; exact pw_cell_below h hc
set_option maxRecDepth 100000 in
set_option maxHeartbeats 2000000 in
theorem cases1_in (F : Fence) (n : Nat) (hfn : F.fn 128) (hro : F.round = none) (hn : 1 ≤ n) (l Bp n₁ : Nat) (w0 : World) (hn₁ : n₁ = w0.heap.size) (v0 v1 : Value) (A2 : Option Addr) (c2 : Nat) (cases : List (List Int)) (h2 : (Kd.slice 3 (Kd.int .i64)).C w0 A2 cases.length cases)
    (hne : ∀ l ∈ cases, 0 < l.length) (J Jx : List (CaseX w0 cases) → World → Prop)
    (hY : ∀ pre x W, J pre W → pre.length < cases.length + 1 → YieldAt F (n - 1) Tryz.prog l #[.int .i64 (x.1.1 : Nat), x.1.2] W fun e W' =>
      (e = .returned (.bool true) ∧ J (pre ++ [x]) W' ∧ KeepBox n₁ Bp W W') ∨ (e = .returned (.bool false) ∧ Jx (pre ++ [x]) W'))
    (W : World) (hW : Below n₁ w0 W) (hB : W.heap[Bp]? = some (.cells #[v0, v1, .slice A2 cases.length c2] 34 (0, 0))) (h0 : J [] W) :
    CallsIn F n Tryz.prog 128 #[.func (.yield l) #[] #[], .pointer (some ⟨Bp, 0, none⟩)] W fun e W' => (∃ v, e = .returned v) ∧
      ((∃ xs : List (CaseX w0 cases), xs.map (·.1.1) = List.range (cases.length + 1) ∧ J xs W') ∨ (∃ pre : List (CaseX w0 cases), (∃ k, pre.map (·.1.1) = List.range k) ∧ Jx pre W')) := by
  have hl2 := C_len h2
  have hbc : W.cell? ⟨Bp, 2, none⟩ = some (.slice A2 cases.length c2) := (blk_cell hB 2).trans rfl
  refine callsIn_of_wp Tryz.func128 rfl hfn ?_ hro
  simp only [Tryz.ntmps128, List.size_toArray, List.length_cons, List.length_nil, Nat.reduceAdd, Nat.reduceSub, Array.replicate_succ, Array.replicate_zero, List.push_toArray, List.append_toArray, List.nil_append, List.cons_append]
  gi_wp2
  gi_loopw [8] (fun i wr => ∃ (k : Nat) (pre : List (CaseX w0 cases)), k ≤ cases.length ∧ i = .int .i64 k ∧ pre.map (·.1.1) = List.range k ∧ J pre wr ∧ KeepBox n₁ Bp W wr)
    (fun i _ => cases.length - (intOf i).toNat)
  case atStart => exact ⟨0, [], Nat.zero_le _, rfl, rfl, h0, Below.refl _ _, rfl⟩
  case round =>
    obtain ⟨k, pre, hk, rfl, hpre, hJs, hnx⟩ := hrel
    have hpl : pre.length = k := by have := congrArg List.length hpre; simpa using this
    by_cases hlt : k < cases.length
    · have hltz : (k : Int) < (cases.length : Int) := by omega
      obtain ⟨ad, A', c', e0, hx, hl, hi⟩ := at_L1 h2 (k : Int) (by omega) (by omega)
      cases e0
      have hx' : wr.cell? (ad.add k) = some (.slice A' (rd_L1 cases k).length c') := pw_cell_below' (hW.trans hnx.1) hn₁ hx
      have hmem : rd_L1 cases k ∈ cases := by simp [rd_L1, List.getElem_mem, hlt]
      have hill : IllAt w0 (.slice A' (rd_L1 cases k).length c') (caseAt cases k) := by rw [caseAt, if_pos hlt]; exact ⟨hne _ hmem, A', c', rfl, hi⟩
      obtain ⟨fn, tmps, assign, body, hy, hR⟩ := hY pre ⟨(k, .slice A' (rd_L1 cases k).length c'), by omega, hill⟩ wr hJs (by omega)
      dsimp only at hy
      have HP := Aside0.mk hpre
      have HPL := Aside0.mk hpl
      have HNX := Aside0.mk hnx
      clear hpre hpl hY hx hmem hnx hi h2 hne
      gi_wp2
      refine hR.mono ?_
      rintro e W3 (⟨rfl, hJ3, hk3⟩ | ⟨rfl, hJx3⟩)
      · gi_wp2
        go_roundw
        case rel => exact ⟨k + 1, _, by omega, by simp, by rw [List.map_append, HP.out, List.range_succ]; rfl, hJ3, HNX.out.trans hk3⟩
        case measure => simp [intOf]; omega
      · gi_wp2
        refine bodyPost_ret (results_none rfl _ _ _) rfl ?_
        exact ⟨⟨_, rfl⟩, .inr ⟨_, ⟨k + 1, by rw [List.map_append, HP.out, List.range_succ]; rfl⟩, hJx3⟩⟩
    · have hltz : ¬ (k : Int) < (cases.length : Int) := by omega
      obtain rfl : k = cases.length := by omega
      have hbc' : wr.cell? ⟨Bp, 2, none⟩ = some (.slice A2 cases.length c2) := (blk_cell (hnx.2.trans hB) 2).trans rfl
      have hill : IllAt w0 (.slice none 0 0) (caseAt cases cases.length) := by rw [caseAt, if_neg (by omega)]; rfl
      obtain ⟨fn, tmps, assign, body, hy, hR⟩ := hY pre ⟨(cases.length, .slice none 0 0), by omega, hill⟩ wr hJs (by omega)
      dsimp only at hy
      have HP := Aside0.mk hpre
      clear hpre hpl hY hnx h2 hne
      gi_wp2
      refine hR.mono ?_
      rintro e W3 (⟨rfl, hJ3, hk3⟩ | ⟨rfl, hJx3⟩)
      · gi_wp2
        go_end0
        exact ⟨⟨_, rfl⟩, .inl ⟨_, by rw [List.map_append, HP.out, List.range_succ]; rfl, hJ3⟩⟩
      · gi_wp2
        go_end0
        exact ⟨⟨_, rfl⟩, .inr ⟨_, ⟨cases.length + 1, by rw [List.map_append, HP.out, List.range_succ]; rfl⟩, hJx3⟩⟩
theorem cases_in (F : Fence) (n : Nat) (hfn : F.fn 80) (hro : F.round = none) (v0 v1 v2 : Value) (w : World) :
    CallsIn F n Tryz.prog 80 #[.agg #[v0, v1, v2]] w fun e w' => e = .returned (.func (.func 128) #[] #[.pointer (some ⟨w.heap.size, 0, none⟩)]) ∧ w' = w.alloc (.cells #[v0, v1, v2] 34) := by
  refine callsIn_of_wp Tryz.func80 rfl hfn ?_ hro
  simp only [Tryz.ntmps80, List.size_toArray, List.length_cons, List.length_nil, Nat.reduceAdd, Nat.reduceSub, Array.replicate_succ, Array.replicate_zero, List.push_toArray, List.append_toArray, List.nil_append, List.cons_append]
  gi_wp2
  go_ret
  exact ⟨rfl, rfl⟩
end Go.Proofs.YtekdacalkllipaaGreat.PR
end
section
namespace Go.Proofs.YtekdacalkllipaaGreat.PR
open Go.RowKit Go.Shelf Go.Proofs.YtekdacalkllipaaGreatW.PrintWords Go.Proofs.YtekdacalkllipaaGreatW.PrintLast Go.Proofs.YtekdacalkllipaaGreatW.PrintMore
set_option linter.unusedVariables false
set_option linter.unusedSimpArgs false
theorem op_inRound {F : Fence} {n : Nat} {P : Program} {o : Oper} {a : Act} {w : World} {next : Act → World → Prop} {Q : Exit → Act → World → Prop} (l : Nat) (hro : F.round = none) (hnd : ∀ c, o.op ≠ .defer c)
    (h : o.wpIn F n P a w next Q) : o.wpIn (F.inRound l) n P a w next Q := by
  obtain ⟨h1, h2⟩ := h
  refine ⟨h1, ?_⟩
  have e1 : o.semAt (F.inRound l).round a.eval = execOp a.eval o := Oper.semAt_eq _ _ _ hnd
  have e2 : o.semAt F.round a.eval = execOp a.eval o := Oper.semAt_eq _ _ _ hnd
  rw [e2] at h2
  rw [e1]
  exact h2
theorem any_inRound {F : Fence} {n : Nat} {P : Program} {md : Region.Mode} {ops : Array Oper} {Q : Exit → Act → World → Prop} (l : Nat) (hro : F.round = none) (hnd : ∀ (i : Nat) (o : Oper), ops[i]? = some o → ∀ c, o.op ≠ .defer c) :
    ∀ (fuel : Nat) (listed : Array Bool) (a : Act) (w : World), wpAnyIn F n P md ops Q fuel listed a w → wpAnyIn (F.inRound l) n P md ops Q fuel listed a w := by
  intro fuel
  induction fuel with
  | zero => intro listed a w h; exact h
  | succ fuel ih =>
    rintro listed a w ⟨h0, h1⟩
    refine ⟨h0, fun i hi => ?_⟩
    have h2 := h1 i hi
    unfold wpOpIn at h2 ⊢
    cases ho : ops[i]? with
    | none => simp only [ho] at h2 ⊢; exact ih _ _ _ h2
    | some o =>
      simp only [ho] at h2 ⊢
      by_cases hw : Region.wanted o (yielded ops a.tmps) = true
      · simp only [hw, if_true] at h2 ⊢
        exact Oper.wpIn_mono (fun _ _ hk => ih _ _ _ hk) (op_inRound l hro (hnd i o ho) h2)
      · simp only [hw] at h2 ⊢
        exact ⟨h2.1, ih _ _ _ h2.2⟩
def noDefer (ops : List Oper) : Bool := ops.all fun o => match o.op with | .defer _ => false | _ => true
theorem noDefer_spec {L : List Oper} (h : noDefer L = true) : ∀ (i : Nat) (o : Oper), L.toArray[i]? = some o → ∀ c, o.op ≠ .defer c := by
  intro i o hi c hc
  have hm : o ∈ L := by
    rw [List.getElem?_toArray] at hi
    exact List.mem_of_getElem? hi
  have := List.all_eq_true.1 h o hm
  rw [hc] at this
  cases this
theorem quiet_round {F : Fence} {n : Nat} {P : Program} {id : Nat} {Q : Exit → Act → World → Prop} {a : Act} {w : World} {L : List Oper} {l : Nat} (hro : F.round = none) (hm : P.follows .mixedOrders = true) (hB : Region.lexB .any L.toArray = true) (hnd : noDefer L = true)
    (h : wpQuietIn F n P L.toArray (fun w' => ∃ n, w' = w.drewN n) (fun a' => ∀ w', (∃ n, w' = w.drewN n) → Q .normal a' w') L a) : (Code.region id L.toArray true).wpIn (F.inRound l) n P Q a w := by
  simp only [Region.lexB, Bool.and_eq_true] at hB
  refine wpIn_region_any hm (any_inRound l hro (noDefer_spec hnd) _ _ _ _ (wpAnyIn_of_quiet (C := fun w' => ∃ n, w' = w.drewN n) (Q := fun a' => ∀ w', (∃ n, w' = w.drewN n) → Q .normal a' w') hro (fun _ w' hw' h => h w' hw') _ _ _ _ ⟨1, rfl⟩ ?_))
  have := wpAnyQIn_lex (F := F) (n := n) (C := fun w' => ∃ n, w' = w.drewN n) (md := .any) hB.1 L.toArray.toList 0 (Array.replicate L.toArray.size false) a (by simp) (by simpa using hB.2) (by simpa using h)
  simpa using this
end Go.Proofs.YtekdacalkllipaaGreat.PR
end
section
namespace Go.Proofs.YtekdacalkllipaaGreat.PR
open Go.RowKit Go.Shelf Go.Proofs.YtekdacalkllipaaGreatW.PrintWords Go.Proofs.YtekdacalkllipaaGreatW.PrintLast Go.Proofs.YtekdacalkllipaaGreatW.PrintMore
set_option linter.unusedVariables false
set_option linter.unusedSimpArgs false
theorem wide_fn (f : FuncId) : Fence.wide.fn f = True := rfl
attribute [local go_sem] Oper.semAt_some
attribute [local simp] wide_fn
theorem keeps_drewN (W : World) (n : Nat) : KeepsOthers W (W.drewN n) := ⟨Nat.le_refl _, fun _ _ h _ => h⟩
theorem cases_stops (F : Fence) (n : Nat) (hfn : F.fn 128) (hro : F.round = none) (hn : 1 ≤ n) (Bp n₁ : Nat) (w0 : World) (hn₁ : n₁ = w0.heap.size) (v0 v1 : Value) (A2 : Option Addr) (c2 : Nat) (cases : List (List Int)) (h2 : (Kd.slice 3 (Kd.int .i64)).C w0 A2 cases.length cases)
    (hne : ∀ l ∈ cases, 0 < l.length) (w : World) (hw : Below n₁ w0 w) (hB : w.heap[Bp]? = some (.cells #[v0, v1, .slice A2 cases.length c2] 34 (0, 0))) :
    SeqStopsK F n Tryz.prog 128 #[.pointer (some ⟨Bp, 0, none⟩)] (fun x : CaseX w0 cases => #[.int .i64 (x.1.1 : Nat), x.1.2]) (KeepBox n₁ Bp) (fun xs => xs.map (·.1.1) = List.range (cases.length + 1)) (fun pre => ∃ k, pre.map (·.1.1) = List.range k) (cases.length + 1) w := fun l J Jx W hW _ _ hY h0 =>
  cases1_in F n hfn hro hn l Bp n₁ w0 hn₁ v0 v1 A2 c2 cases h2 hne J Jx hY W (hw.trans (hW.mono (by rw [hn₁]; have := hw.size; exact this))) ((hW.block Bp (blk_lt hB)).trans hB) h0
theorem KeepBox.b {n₁ Bp : Nat} {w : World} (hn : n₁ ≤ w.heap.size) (hb : Bp < w.heap.size) (W : World) (l : Nat) (o o' : Obj) (hl : w.heap.size ≤ l) (h : W.heap[l]? = some o) (h1 : o.isCells = false) (h2 : o.isWalk = false) : KeepBox n₁ Bp W (W.putObj l o') :=
  ⟨belowK_b hn W l o o' hl h h1 h2, World.putObj_heap_other (by omega)⟩
theorem blk_own {β : Type} (B b : Nat) (cs : Array Value) (t : TypeId) : OwnFrom B (fun (_ : β) W => W.heap[b]? = some (.cells cs t (0, 0))) := fun s X Y row hs hg hr =>
  (hg.block b (Array.getElem?_eq_some_iff.1 hs).1 (fun e => by
    obtain ⟨_, o, ho, hc⟩ := hr b e.symm
    rw [show X.heap[b]? = _ from hs] at ho; cases ho; cases hc)).trans hs
theorem leave_tail {D P0 : Nat} {w W : World} (hB : Below P0 w W) (hP : P0 = w.heap.size) (hD : P0 ≤ D) : w.grownBy (W.putObj D (.deferred none)) none := by
  subst hP
  exact grown_of_below (hB.grown (grownBy_putObj' W D (.deferred none)) hB.size (fun k e => by cases e; omega)) none
def holdsB (need : List Int) (cases : List (List Int)) (on : List Int) (watch : Int) : Bool :=
  (List.range (cases.length + 1)).all fun i => decide (need.getD watch.toNat 0 ≤ awakeN on (caseAt cases i) watch)
set_option maxRecDepth 100000 in
set_option maxHeartbeats 4000000 in
theorem holds_any (A0 : Option Addr) (c0 : Nat) (need : List Int) (A1 : Option Addr) (c1 n1 : Nat) (A2 : Option Addr) (c2 : Nat) (cases : List (List Int)) (A3 : Option Addr) (c3 : Nat) (on : List Int) (watch : Int) (w : World)
    (h0 : (Kd.int .i64).C w A0 need.length need) (h2 : (Kd.slice 3 (Kd.int .i64)).C w A2 cases.length cases) (h3 : (Kd.int .i64).C w A3 on.length on) (hw0 : 0 ≤ watch) (hw1 : watch < need.length)
    (hne : ∀ l ∈ cases, 0 < l.length) (hon : ∀ l ∈ cases, ∀ x ∈ on, 0 ≤ x ∧ x < l.length) :
    Calls Tryz.prog 117 #[.agg #[.slice A0 need.length c0, .slice A1 n1 c1, .slice A2 cases.length c2], .slice A3 on.length c3, .int .i64 watch] w fun e w' => e = .returned (.bool (holdsB need cases on watch)) ∧ w.grownBy w' none := by
  obtain ⟨adn, en, hn⟩ := Kd.at_int h0 watch hw0 hw1
  subst en
  have h80 : Fence.wide.fn 80 := trivial
  obtain ⟨P, hP⟩ : ∃ P, P = w.heap.size := ⟨_, rfl⟩
  obtain ⟨wL, hwL⟩ : ∃ wL, wL = ((((w.alloc (.cells #[.slice (some adn) need.length c0, .slice A1 n1 c1, .slice A2 cases.length c2] 34)).alloc (.cells #[.slice A3 on.length c3] 22)).alloc (.cells #[.int .i64 watch] 3)).alloc (.cells #[.bool false] 4)).alloc (.cells #[.slice (some adn) need.length c0, .slice A1 n1 c1, .slice A2 cases.length c2] 34) := ⟨_, rfl⟩
  have hsL : wL.heap.size = P + 1 + 1 + 1 + 1 + 1 := by rw [hwL, hP]; simp
  have hbL : Below P w wL := by rw [hwL, hP]; exact below_none (grown_trans (World.grownBy_alloc _ _ _) (grown_trans (World.grownBy_alloc _ _ _) (grown_trans (World.grownBy_alloc _ _ _) (grown_trans (World.grownBy_alloc _ _ _) (World.grownBy_alloc _ _ _)))))
  have k0 : wL.heap[P]? = some (.cells #[.slice (some adn) need.length c0, .slice A1 n1 c1, .slice A2 cases.length c2] 34 (0, 0)) := by rw [hwL, hP]; exact blk_alloc (blk_alloc (blk_alloc (blk_alloc (blk_new w _) _) _) _) _
  have k1 : wL.heap[P + 1]? = some (.cells #[.slice A3 on.length c3] 22 (0, 0)) := by
    rw [hwL, hP]; have := blk_new (w.alloc (.cells #[.slice (some adn) need.length c0, .slice A1 n1 c1, .slice A2 cases.length c2] 34)) (.cells #[.slice A3 on.length c3] 22); rw [World.size_alloc] at this; exact blk_alloc (blk_alloc (blk_alloc this _) _) _
  have k2 : wL.heap[P + 1 + 1]? = some (.cells #[.int .i64 watch] 3 (0, 0)) := by
    rw [hwL, hP]; have := blk_new ((w.alloc (.cells #[.slice (some adn) need.length c0, .slice A1 n1 c1, .slice A2 cases.length c2] 34)).alloc (.cells #[.slice A3 on.length c3] 22)) (.cells #[.int .i64 watch] 3); rw [World.size_alloc, World.size_alloc] at this; exact blk_alloc (blk_alloc this _) _
  have k3 : wL.heap[P + 1 + 1 + 1]? = some (.cells #[.bool false] 4 (0, 0)) := by
    rw [hwL, hP]; have := blk_new (((w.alloc (.cells #[.slice (some adn) need.length c0, .slice A1 n1 c1, .slice A2 cases.length c2] 34)).alloc (.cells #[.slice A3 on.length c3] 22)).alloc (.cells #[.int .i64 watch] 3)) (.cells #[.bool false] 4); rw [World.size_alloc, World.size_alloc, World.size_alloc] at this; exact blk_alloc this _
  have k4 : wL.heap[P + 1 + 1 + 1 + 1]? = some (.cells #[.slice (some adn) need.length c0, .slice A1 n1 c1, .slice A2 cases.length c2] 34 (0, 0)) := by
    rw [hwL, hP]; have := blk_new ((((w.alloc (.cells #[.slice (some adn) need.length c0, .slice A1 n1 c1, .slice A2 cases.length c2] 34)).alloc (.cells #[.slice A3 on.length c3] 22)).alloc (.cells #[.int .i64 watch] 3)).alloc (.cells #[.bool false] 4)) (.cells #[.slice (some adn) need.length c0, .slice A1 n1 c1, .slice A2 cases.length c2] 34); rw [World.size_alloc, World.size_alloc, World.size_alloc, World.size_alloc] at this; exact this
  have HND : Aside0 (need.getD watch.toNat 0 = rd need watch) := ⟨rfl⟩
  have HSTOP := Aside0.mk (cases_stops Fence.wide 4 trivial rfl (by omega) (P + 1 + 1 + 1 + 1) P w hP _ _ A2 c2 cases h2 hne wL hbL k4)
  have HAW : Aside0 (∀ (i : Nat) (v : Value), i ≤ cases.length → IllAt w v (caseAt cases i) → ∀ W, Below P w W → Calls Tryz.prog 129 #[.slice A3 on.length c3, v, .int .i64 watch] W fun e w' => e = .returned (.int .i64 (awakeN on (caseAt cases i) watch)) ∧ W = w') := ⟨fun i v hi hv W hb =>
    awake_any A3 c3 on v (caseAt cases i) watch W (Kd.C_below h3 (by rw [← hP]; exact hb)) (hv.below (by rw [← hP]; exact hb)) (fun l e x hx => by
      unfold caseAt at e
      by_cases hlt : i < cases.length
      · rw [if_pos hlt] at e; cases e
        exact hon _ (by simp [rd_L1, List.getElem_mem, hlt]) x hx
      · rw [if_neg hlt] at e; cases e)⟩
  have K0 := Aside0.mk k0
  have K1 := Aside0.mk k1
  have K2 := Aside0.mk k2
  have K3 := Aside0.mk k3
  have K4 := Aside0.mk k4
  have HBL := Aside0.mk hbL
  have HSL := Aside0.mk hsL
  have HN := Aside0.mk hn
  obtain ⟨nd, hnd⟩ : ∃ nd, nd = rd need watch := ⟨_, rfl⟩
  rw [← hnd] at HN HND
  clear hnd h2 h3 hne hon k0 k1 k2 k3 k4 hbL hsL hn
  refine (callsIn_wide (n := 5)).1 ?_
  refine callsIn_of_wp_marks Tryz.func117 rfl trivial ?_ rfl
  simp only [Tryz.ntmps117, List.size_toArray, List.length_cons, List.length_nil, Nat.reduceAdd, Nat.reduceSub, Array.replicate_succ, Array.replicate_zero, List.push_toArray, List.append_toArray, List.nil_append, List.cons_append]
  gi_wp2_with (gi_at_call 80; refine (cases_in Fence.wide _ trivial rfl _ _ _ _).mono ?_; rintro e w' ⟨rfl, rfl⟩)
  rw [← hwL, ← hP]
  have HP := Aside0.mk hP
  clear hwL hP
  refine wpIn_rangeFunc_ownG rfl (by omega) (gf := 128) (lb := #[.pointer (some ⟨P + 1 + 1 + 1 + 1, 0, none⟩)]) rfl trivial (enters_of Tryz.func128 (by kernel_rfl) rfl)
    HSTOP.out (fun h k => h.trans k) (KeepBox.b (by have := HSL.out; omega) (by have := HSL.out; omega)) (Below.refl _ _) (fun _ => rfl)
    (fun pre W => (∀ x ∈ pre, nd ≤ awakeN on (caseAt cases x.1.1) watch) ∧ W.heap[P]? = some (.cells #[.slice (some adn) need.length c0, .slice A1 n1 c1, .slice A2 cases.length c2] 34 (0, 0)) ∧ W.heap[P + 1]? = some (.cells #[.slice A3 on.length c3] 22 (0, 0)) ∧ W.heap[P + 1 + 1]? = some (.cells #[.int .i64 watch] 3 (0, 0)) ∧ W.heap[P + 1 + 1 + 1]? = some (.cells #[.bool false] 4 (0, 0)) ∧ W.heap[P + 1 + 1 + 1 + 1]? = some (.cells #[.slice (some adn) need.length c0, .slice A1 n1 c1, .slice A2 cases.length c2] 34 (0, 0)) ∧ Below P w W)
    (fun c pre W => (c = .ret ∧ ∃ i, i ≤ cases.length ∧ awakeN on (caseAt cases i) watch < nd) ∧ W.heap[P + 1 + 1 + 1]? = some (.cells #[.bool false] 4 (0, 0)) ∧ Below P w W)
    (OwnFrom.and (ownFrom_pure _ _) (OwnFrom.and (blk_own _ _ _ _) (OwnFrom.and (blk_own _ _ _ _) (OwnFrom.and (blk_own _ _ _ _) (OwnFrom.and (blk_own _ _ _ _) (OwnFrom.and (blk_own _ _ _ _) (ownFrom_below (by have := HP.out; omega) (by have := HSL.out; omega))))))))
    (fun c => OwnFrom.and (ownFrom_pure _ (fun _ => _)) (OwnFrom.and (blk_own _ _ _ _) (ownFrom_below (by have := HP.out; omega) (by have := HSL.out; omega))))
    ⟨by simp, K0.out, K1.out, K2.out, K3.out, K4.out, HBL.out⟩
    (fun x => { tmps := #[.agg #[.slice (some adn) need.length c0, .slice A1 n1 c1, .slice A2 cases.length c2], .slice A3 on.length c3, .int .i64 watch, .pointer (some ⟨P, 0, none⟩), .pointer (some ⟨P + 1, 0, none⟩), .pointer (some ⟨P + 1 + 1, 0, none⟩), .pointer (some ⟨P + 1 + 1 + 1, 0, none⟩), undef, x.1.2, .agg #[.slice (some adn) need.length c0, .slice A1 n1 c1, .slice A2 cases.length c2], .func (.func 128) #[] #[.pointer (some ⟨P + 1 + 1 + 1 + 1, 0, none⟩)], .int .i64 (x.1.1 : Nat), x.1.2, undef, undef, undef, undef, undef, undef, undef, undef, undef, undef], defers := [] }) ?assign ?body ?done ?stop
  case assign =>
    intro l x W K hK
    gi_wp2
    exact hK
  case body =>
    rintro l pre x W ⟨hg, b0, b1, b2, b3, b4, hb⟩ _
    obtain ⟨hi, hv⟩ := x.2
    obtain ⟨i, hxi⟩ : ∃ i, i = x.1.1 := ⟨_, rfl⟩
    obtain ⟨v, hxv⟩ : ∃ v, v = x.1.2 := ⟨_, rfl⟩
    rw [← hxi, ← hxv] at hv
    rw [← hxi] at hi
    rw [← hxi, ← hxv]
    have HXI := Aside0.mk hxi
    clear hxi hxv
    have q0 : W.cell? ⟨P, 0, none⟩ = some (.slice (some adn) need.length c0) := (blk_cell b0 0).trans rfl
    have q1 : W.cell? ⟨P + 1, 0, none⟩ = some (.slice A3 on.length c3) := (blk_cell b1 0).trans rfl
    have q2 : W.cell? ⟨P + 1 + 1, 0, none⟩ = some (.int .i64 watch) := (blk_cell b2 0).trans rfl
    have q3 : W.cell? ⟨P + 1 + 1 + 1, 0, none⟩ = some (.bool false) := (blk_cell b3 0).trans rfl
    have f3 := blk_frozen b3 0
    have qn : W.cell? (adn.add watch.toNat) = some (.int .i64 nd) := pw_cell_below' hb HP.out HN.out
    have HC : Aside0 (∀ n, Calls Tryz.prog 129 #[.slice A3 on.length c3, v, .int .i64 watch] (W.drewN n) fun e w' => e = .returned (.int .i64 (awakeN on (caseAt cases i) watch)) ∧ ∃ m, w' = W.drewN m) := ⟨fun n => (HAW.out i v hi hv _ (pw_below_drewN hb n)).mono (fun e w' ⟨h1, h2⟩ => ⟨h1, n, h2.symm⟩)⟩
    have HI : Aside0 (i ≤ cases.length) := ⟨hi⟩
    have HB0 := Aside0.mk b0
    have HB1 := Aside0.mk b1
    have HB2 := Aside0.mk b2
    have HB3 := Aside0.mk b3
    have HB4 := Aside0.mk b4
    have HB := Aside0.mk hb
    have HG := Aside0.mk hg
    obtain ⟨an, hAN⟩ : ∃ an, an = awakeN on (caseAt cases i) watch := ⟨_, rfl⟩
    rw [← hAN] at HC
    have HAN := Aside0.mk hAN
    clear hAN b0 b1 b2 b3 b4 hb hg hi hv
    have hask : ∀ (o : Oper) (a : Act) (C : World → Prop), Oper.askedIn Fence.wide Tryz.prog o a C := fun _ _ _ _ _ _ _ => trivial
    gi_wp2
    refine quiet_round (F := Fence.wide) rfl (by kernel_rfl) (by kernel_rfl) (by rfl) ?_
    repeat (gi_big_quiet_step ((gi_at_call 129; exact callsIn_wide.2 (HC.out _))))
    refine wpQuietIn_nil ?_
    intro _ hw'
    obtain ⟨nq, hw''⟩ := hw'
    subst hw''
    have HBq := pw_below_drewN HB.out nq
    by_cases ha : an < nd
    · gi_wp2
      refine ⟨((keeps_drewN W nq).trans (KeepsOthers.setCell _ _ _)).from _, ⟨rfl, i, HI.out, by rw [← HAN.out]; exact ha⟩, ?_, below_set1 HBq (by omega) _ _⟩
      exact blk_put HB3.out 0 (.bool false) rfl
    · gi_wp2
      refine ⟨(keeps_drewN W nq).from _, ⟨pw_below_drewN (Below.refl _ _) nq, rfl⟩, ?_, HB0.out, HB1.out, HB2.out, HB3.out, HB4.out, HBq⟩
      intro y1 y2 hx hy
      rcases List.mem_append.1 hy with h | h
      · exact HG.out _ h
      · obtain rfl := List.mem_singleton.1 h
        have h1 := HXI.out
        have h2 := HAN.out
        simp only [] at h1
        rw [h1] at h2
        omega
  case done =>
    rintro D xs W hD hS ⟨hg, b0, b1, b2, b3, b4, hb⟩ hK
    have hH : holdsB need cases on watch = true := by
      rw [holdsB, List.all_eq_true]
      intro i hi
      rw [← hS, List.mem_map] at hi
      obtain ⟨x, hx, rfl⟩ := hi
      rw [HND.out]
      exact decide_eq_true (hg x hx)
    have HH := Aside0.mk hH
    have q3 : W.cell? ⟨P + 1 + 1 + 1, 0, none⟩ = some (.bool false) := (blk_cell b3 0).trans rfl
    have f3 := blk_frozen b3 0
    have HB3 := Aside0.mk b3
    have HB := Aside0.mk hb
    have HKK := Aside0.mk hK
    clear hH hg b0 b1 b2 b3 b4 hb hK hS
    gi_wp2
    rw [HH.out]
    have hK' := (KeepsOthers.setCell W ⟨P + 1 + 1 + 1, 0, none⟩ (.bool true)).same D _ HKK.out rfl
    refine ⟨by simp, .inl ⟨_, _, rfl, run_takeDeferred hK', ?_⟩⟩
    have hc5 := Go.cell_kept (World.cell?_setCell_same' W ⟨P + 1 + 1 + 1, 0, none⟩ (.bool true) (by rw [q3]; rfl)) (grownBy_putObj' _ D (.deferred none)) (fun r e => by cases e; exact ⟨_, hK', rfl⟩)
    refine ⟨.bool true, ?_, rfl, leave_tail (below_set1 HB.out (by omega) _ _) HP.out (by have := HSL.out; omega)⟩
    simp [results, Tryz.f117, go_sem, hc5]
  case stop =>
    rintro D c pre W hD _ ⟨⟨rfl, i, hi, hlt⟩, b3, hb⟩ hK
    have hH : holdsB need cases on watch = false := by
      rw [holdsB, List.all_eq_false]
      refine ⟨i, List.mem_range.2 (by omega), ?_⟩
      rw [HND.out]
      simp; omega
    have HH := Aside0.mk hH
    have q3 : W.cell? ⟨P + 1 + 1 + 1, 0, none⟩ = some (.bool false) := (blk_cell b3 0).trans rfl
    have HB3 := Aside0.mk b3
    have HB := Aside0.mk hb
    have HKK := Aside0.mk hK
    clear hH b3 hb hK
    gi_wp2
    rw [HH.out]
    have hK' := HKK.out
    refine ⟨by simp, .inl ⟨_, _, rfl, run_takeDeferred hK', ?_⟩⟩
    have hc5 := Go.cell_kept q3 (grownBy_putObj' _ D (.deferred none)) (fun r e => by cases e; exact ⟨_, hK', rfl⟩)
    refine ⟨.bool false, ?_, rfl, leave_tail HB.out HP.out (by have := HSL.out; omega)⟩
    simp [results, Tryz.f117, go_sem, hc5]
end Go.Proofs.YtekdacalkllipaaGreat.PR
end
section
namespace Go.Proofs.YtekdacalkllipaaGreat.PR
open Go.RowKit Go.Shelf Go.Proofs.YtekdacalkllipaaGreatW.PrintWords Go.Proofs.YtekdacalkllipaaGreatW.PrintLast Go.Proofs.YtekdacalkllipaaGreatW.PrintMore
set_option linter.unusedVariables false
set_option linter.unusedSimpArgs false
def upd (s : Nat → Value) (i : Nat) (v : Value) : Nat → Value := fun j => if j = i then v else s j
def remOf (ops : Array Oper) (listed : Array Bool) : List Nat := (List.range ops.size).filter fun j => !listed.getD j true
theorem remOf_set {ops : Array Oper} {listed : Array Bool} {i : Nat} (hs : listed.size = ops.size) (hi : i < ops.size) (hu : listed.getD i true = false) : (remOf ops (listed.setIfInBounds i true)).length + 1 = (remOf ops listed).length := by
  have he : remOf ops (listed.setIfInBounds i true) = (remOf ops listed).erase i := by
    have hnd : (remOf ops listed).Nodup := List.Nodup.sublist List.filter_sublist List.nodup_range
    rw [hnd.erase_eq_filter, remOf, remOf, List.filter_filter]
    apply List.filter_congr
    intro j hj
    have hj' : j < listed.size := by rw [hs]; exact List.mem_range.1 hj
    simp only [Array.getD_eq_getD_getElem?, Array.getElem?_setIfInBounds]
    by_cases h : i = j
    · subst h
      simp [hj']
    · have : (j != i) = true := by simp; exact fun e => h e.symm
      rw [if_neg h, this]; simp
  have hm : i ∈ remOf ops listed := List.mem_filter.2 ⟨List.mem_range.2 hi, by rw [hu]; rfl⟩
  rw [he, List.length_erase_of_mem hm]
  have : 0 < (remOf ops listed).length := List.length_pos_of_mem hm
  omega
theorem ready_mem {md : Region.Mode} {ops : Array Oper} {listed : Array Bool} {i : Nat} (h : i ∈ Region.ready md ops listed) : i < ops.size ∧ listed.getD i true = false ∧ ∀ o, ops[i]? = some o → ∀ e ∈ o.after, Region.binds md e = true → listed.getD e.on false = true := by
  rw [Region.ready, List.mem_filter] at h
  obtain ⟨h1, h2⟩ := h
  have hi := List.mem_range.1 h1
  rw [Bool.and_eq_true] at h2
  refine ⟨hi, by simpa using h2.1, fun o ho e he hb => ?_⟩
  have h3 := h2.2
  rw [ho] at h3
  have h4 : (o.after.all fun e => !Region.binds md e || listed.getD e.on false) = true := h3
  have := Array.all_eq_true'.1 h4 e he
  rw [hb] at this
  simpa using this
theorem ready_none {md : Region.Mode} {ops : Array Oper} {listed : Array Bool} (hs : listed.size = ops.size) (hback : ∀ (i : Nat) (o : Oper), ops[i]? = some o → ∀ e ∈ o.after, Region.binds md e = true → e.on < i)
    (h : Region.ready md ops listed = []) : ∀ i, i < ops.size → listed.getD i false = true := by
  intro i
  induction i using Nat.strongRecOn with
  | ind i ih =>
    intro hi
    cases hg : listed.getD i false with
    | true => rfl
    | false =>
      exfalso
      have hm : i ∈ Region.ready md ops listed := by
        rw [Region.ready, List.mem_filter]
        refine ⟨List.mem_range.2 hi, ?_⟩
        have hu : listed.getD i true = false := by
          have hil : i < listed.size := by omega
          simp only [Array.getD_eq_getD_getElem?, Array.getElem?_eq_getElem hil] at hg ⊢
          exact hg
        rw [hu, Array.getElem?_eq_getElem hi]
        show (true && (ops[i].after.all fun e => !Region.binds md e || listed.getD e.on false)) = true
        rw [Bool.true_and]
        refine Array.all_eq_true'.2 fun e he => ?_
        cases hb : Region.binds md e with
        | false => rfl
        | true =>
          have hl := hback i _ (Array.getElem?_eq_getElem hi) e he hb
          rw [ih e.on hl (by omega)]; rfl
      rw [h] at hm
      cases hm
def isOn (listed : Array Bool) : Nat → Bool := fun j => listed.getD j false
def setOn (L : Nat → Bool) (i : Nat) : Nat → Bool := fun j => if j = i then true else L j
theorem isOn_set {listed : Array Bool} {i : Nat} (hi : i < listed.size) : isOn (listed.setIfInBounds i true) = setOn (isOn listed) i := by
  funext j
  simp only [isOn, setOn, Array.getD_eq_getD_getElem?, Array.getElem?_setIfInBounds]
  by_cases h : i = j
  · subst h; simp [hi]
  · rw [if_neg h, if_neg (Ne.symm h)]
def StepOk (F : Fence) (n : Nat) (P : Program) (md : Region.Mode) (ops : Array Oper) (Q : Exit → Act → World → Prop) (mk : (Nat → Value) → Act) (J : (Nat → Bool) → (Nat → Value) → World → Prop) (X : Nat → Value → Prop) (i : Nat) : Prop :=
  ∀ L s w, L i = false → J L s w → (∀ j, L j = true → X j (s j)) → (∀ o, ops[i]? = some o → ∀ e ∈ o.after, Region.binds md e = true → L e.on = true) →
    (∀ j o, ops[j]? = some o → L j = true → ∀ e ∈ o.after, Region.binds md e = true → L e.on = true) →
    wpOpIn F n P ops Q i (fun a' w' => ∃ v, a' = mk (upd s i v) ∧ X i v ∧ J (setOn L i) (upd s i v) w') (mk s) w
theorem any_mk {F : Fence} {n : Nat} {P : Program} {md : Region.Mode} {ops : Array Oper} {Q : Exit → Act → World → Prop} (mk : (Nat → Value) → Act) (J : (Nat → Bool) → (Nat → Value) → World → Prop) (X : Nat → Value → Prop)
    (hback : ∀ (i : Nat) (o : Oper), ops[i]? = some o → ∀ e ∈ o.after, Region.binds md e = true → e.on < i)
    (hstep : ∀ i, i < ops.size → StepOk F n P md ops Q mk J X i)
    (hdone : ∀ L s w, (∀ i, i < ops.size → L i = true) → J L s w → (∀ i, i < ops.size → X i (s i)) → Q .normal (mk s) w) :
    ∀ (fuel : Nat) (listed : Array Bool) (s : Nat → Value) (w : World), listed.size = ops.size → (remOf ops listed).length ≤ fuel → J (isOn listed) s w → (∀ j, isOn listed j = true → X j (s j)) → (∀ j o, ops[j]? = some o → isOn listed j = true → ∀ e ∈ o.after, Region.binds md e = true → isOn listed e.on = true) → wpAnyIn F n P md ops Q fuel listed (mk s) w := by
  have hend : ∀ (listed : Array Bool) (s : Nat → Value) (w : World), listed.size = ops.size → J (isOn listed) s w → (∀ j, isOn listed j = true → X j (s j)) → Region.ready md ops listed = [] → Q .normal (mk s) w := fun listed s w hs hJ hX hr =>
    hdone (isOn listed) s w (fun i hi => ready_none hs hback hr i hi) hJ (fun i hi => hX i (ready_none hs hback hr i hi))
  intro fuel
  induction fuel with
  | zero =>
    intro listed s w hs hf hJ hX hc
    have hr : Region.ready md ops listed = [] := by
      cases h : Region.ready md ops listed with
      | nil => rfl
      | cons i l =>
        exfalso
        obtain ⟨h1, h2, _⟩ := ready_mem (h ▸ List.mem_cons_self : i ∈ Region.ready md ops listed)
        have hm : i ∈ remOf ops listed := List.mem_filter.2 ⟨List.mem_range.2 h1, by rw [h2]; rfl⟩
        have := List.length_pos_of_mem hm
        omega
    exact ⟨hr, hend listed s w hs hJ hX hr⟩
  | succ fuel ih =>
    intro listed s w hs hf hJ hX hc
    refine ⟨fun hr => hend listed s w hs hJ hX hr, fun i hi => ?_⟩
    obtain ⟨h1, h2, h3⟩ := ready_mem hi
    have hil : i < listed.size := by omega
    have hu : isOn listed i = false := by
      simp only [isOn, Array.getD_eq_getD_getElem?, Array.getElem?_eq_getElem hil] at h2 ⊢
      exact h2
    refine wpOpIn_mono ?_ (hstep i h1 (isOn listed) s w hu hJ hX (fun o ho e he hb => h3 o ho e he hb) hc)
    rintro a' w' ⟨v, rfl, hXi, hJ'⟩
    refine ih _ _ _ (by simpa using hs) ?_ (by rw [isOn_set hil]; exact hJ') (fun j hj => ?_) (fun j o ho hj e he hb => ?_)
    · have := remOf_set hs h1 h2; omega
    · rw [isOn_set hil] at hj
      by_cases e : j = i
      · subst e; simpa [upd] using hXi
      · simp only [upd, if_neg e]
        exact hX j (by simpa [setOn, if_neg e] using hj)
    · rw [isOn_set hil] at hj ⊢
      have hm : ∀ q, isOn listed q = true → setOn (isOn listed) i q = true := fun q hq => by unfold setOn; split <;> simp_all
      by_cases e2 : j = i
      · subst e2; exact hm _ (h3 o ho e he hb)
      · exact hm _ (hc j o ho (by simpa [setOn, if_neg e2] using hj) e he hb)
def backB (md : Region.Mode) (ops : Array Oper) : Bool := (List.range ops.size).all fun i => match ops[i]? with | some o => o.after.all fun e => !Region.binds md e || decide (e.on < i) | none => true
theorem back_of {md : Region.Mode} {ops : Array Oper} (h : backB md ops = true) : ∀ (i : Nat) (o : Oper), ops[i]? = some o → ∀ e ∈ o.after, Region.binds md e = true → e.on < i := by
  intro i o ho e he hb
  have hi := (Array.getElem?_eq_some_iff.1 ho).1
  have h1 := List.all_eq_true.1 h i (List.mem_range.2 hi)
  rw [ho] at h1
  have h2 : (o.after.all fun e => !Region.binds md e || decide (e.on < i)) = true := h1
  have := Array.all_eq_true'.1 h2 e he
  rw [hb] at this
  simpa using this
theorem region_mk {F : Fence} {n : Nat} {P : Program} {id : Nat} {ops : Array Oper} {Q : Exit → Act → World → Prop} {w : World} (hm : P.follows .mixedOrders = true) (mk : (Nat → Value) → Act) (J : (Nat → Bool) → (Nat → Value) → World → Prop) (X : Nat → Value → Prop) (s0 : Nat → Value)
    (hb : backB .any ops = true) (hJ : J (fun _ => false) s0 w.drew)
    (hstep : ∀ i, i < ops.size → StepOk F n P .any ops Q mk J X i)
    (hdone : ∀ L s w, (∀ i, i < ops.size → L i = true) → J L s w → (∀ i, i < ops.size → X i (s i)) → Q .normal (mk s) w) : (Code.region id ops true).wpIn F n P Q (mk s0) w := by
  have h0 : isOn (Array.replicate ops.size false) = fun _ => false := by
    funext j
    simp only [isOn, Array.getD_eq_getD_getElem?, Array.getElem?_replicate]
    split <;> rfl
  refine wpIn_region_any hm (any_mk mk J X (back_of hb) hstep hdone _ _ _ _ (by simp) ?_ (by rw [h0]; exact hJ) (fun j hj => ?_) (fun j o ho hj => ?_))
  · exact Nat.le_trans (List.length_filter_le _ _) (by simp)
  · rw [h0] at hj; cases hj
  · rw [h0] at hj; cases hj
end Go.Proofs.YtekdacalkllipaaGreat.PR
end
section
namespace Go.Proofs.YtekdacalkllipaaGreat.PR
open Go.RowKit Go.Shelf Go.Proofs.YtekdacalkllipaaGreatW.PrintWords Go.Proofs.YtekdacalkllipaaGreatW.PrintLast Go.Proofs.YtekdacalkllipaaGreatW.PrintMore
set_option linter.unusedVariables false
set_option linter.unusedSimpArgs false
def CellsStay (W W' : World) : Prop := ∀ a v, W.cell? a = some v → W'.cell? a = some v
def KStay {α : Type} (d : Kd α) : Prop := ∀ (W W' : World), CellsStay W W' → ∀ x cs, d.K W x cs → d.K W' x cs
theorem C_stay {α : Type} {d : Kd α} (hd : KStay d) {W W' : World} (h : CellsStay W W') {A : Option Addr} {n : Nat} {xs : List α} (hC : d.C W A n xs) : d.C W' A n xs := by
  refine ⟨hC.1, hC.2.1, fun hp => ?_⟩
  obtain ⟨ad, e, hh⟩ := hC.2.2 hp
  refine ⟨ad, e, fun j p hj => ?_⟩
  obtain ⟨c, h1, h2, h3⟩ := hh j p hj
  exact ⟨c, h1, hd _ _ h _ _ h2, fun i u hi => h _ _ (h3 i u hi)⟩
theorem stay_int (k : IntKind) : KStay (Kd.int k) := fun _ _ _ _ _ h => h
theorem stay_bool : KStay Kd.bool := fun _ _ _ _ _ h => h
theorem stay_slice {α : Type} {d : Kd α} (hd : KStay d) (e : Nat) : KStay (Kd.slice e d) := fun W W' h x cs => by
  rintro ⟨A, c, h1, h2, h3⟩
  exact ⟨A, c, h1, h2, C_stay hd h h3⟩
theorem stay_pair {α β : Type} {a : Kd α} {b : Kd β} (ha : KStay a) (hb : KStay b) : KStay (Kd.pair a b) := fun W W' h x cs => by
  rintro ⟨c0, c1, h1, h2, h3⟩
  exact ⟨c0, c1, h1, ha _ _ h _ _ h2, hb _ _ h _ _ h3⟩
theorem stay_iso {α β : Type} {d : Kd α} (hd : KStay d) (f : β → α) : KStay (Kd.iso d f) := fun W W' h x cs hk => hd _ _ h _ _ hk
theorem stay_L1 : KStay (Kd.slice 3 (Kd.int .i64)) := stay_slice (stay_int _) _
theorem stay_128 : KStay k128 := stay_iso (stay_pair (stay_slice stay_bool _) (stay_pair (stay_int _) (stay_int _))) _
structure KeepM (n mb : Nat) (W W' : World) : Prop where
  os : W'.os = W.os
  tape : W'.tape = W.tape
  output : W'.output = W.output
  size : W.heap.size ≤ W'.heap.size
  block : ∀ k, k < n → k ≠ mb → W'.heap[k]? = W.heap[k]?
theorem KeepM.refl (n mb : Nat) (W : World) : KeepM n mb W W := ⟨rfl, rfl, rfl, Nat.le_refl _, fun _ _ _ => rfl⟩
theorem KeepM.trans {n mb : Nat} {A B C : World} (h : KeepM n mb A B) (k : KeepM n mb B C) : KeepM n mb A C :=
  ⟨k.os.trans h.os, k.tape.trans h.tape, k.output.trans h.output, Nat.le_trans h.size k.size, fun i hi hm => (k.block i hi hm).trans (h.block i hi hm)⟩
theorem KeepM.mono {n n' mb : Nat} {A B : World} (h : KeepM n mb A B) (hn : n' ≤ n) : KeepM n' mb A B := ⟨h.os, h.tape, h.output, h.size, fun i hi hm => h.block i (by omega) hm⟩
theorem KeepM.below {n mb : Nat} {A B : World} (h : Below n A B) : KeepM n mb A B := ⟨h.os, h.tape, h.output, h.size, fun i hi _ => h.block i hi⟩
theorem KeepM.grown {n mb : Nat} {W W' : World} {row : Option Nat} (h : W.grownBy W' row) (hn : n ≤ W.heap.size) (hr : ∀ r, row = some r → r = mb ∨ n ≤ r) : KeepM n mb W W' :=
  ⟨h.os, h.tape, h.output, h.size, fun i hi hm => h.block i (by omega) (fun e => by
    rcases hr i e.symm with h1 | h1
    · exact hm h1
    · omega)⟩
theorem KeepM.drewN (n mb : Nat) (W : World) (k : Nat) : KeepM n mb W (W.drewN k) := ⟨rfl, rfl, rfl, Nat.le_refl _, fun _ _ _ => rfl⟩
theorem KeepM.alloc {n mb : Nat} {W : World} (hn : n ≤ W.heap.size) (o : Obj) : KeepM n mb W (W.alloc o) := KeepM.grown (World.grownBy_alloc W o none) hn (fun _ e => by cases e)
theorem KeepM.set {n mb : Nat} {W : World} (hn : n ≤ W.heap.size) {b : Nat} (hb : n ≤ b) (o : Nat) (v : Value) : KeepM n mb W (W.setCell ⟨b, o, none⟩ v) := KeepM.grown (grown_set W b o v) hn (fun r e => by cases e; exact .inr hb)
theorem KeepM.put {n mb : Nat} {W : World} (hn : n ≤ W.heap.size) {b : Nat} (hb : n ≤ b) (o : Obj) : KeepM n mb W (W.putObj b o) := KeepM.grown (grownBy_putObj' W b o) hn (fun r e => by cases e; exact .inr hb)
theorem KeepM.cells {mb : Nat} {w0 W' : World} (h : KeepM w0.heap.size mb w0 W') (hm : ∀ o, w0.heap[mb]? = some o → o.isCells = false) : CellsStay w0 W' := fun a v hc => by
  obtain ⟨o, ho, hcell⟩ := cells_of_cell hc
  have hne : a.block ≠ mb := fun e => by rw [hm o (e ▸ ho)] at hcell; cases hcell
  exact (World.cell?_of_block (w := w0) (h.block a.block (blk_lt ho) hne)).trans hc
end Go.Proofs.YtekdacalkllipaaGreat.PR
end
section
namespace Go.Proofs.YtekdacalkllipaaGreat.PR
open Go.RowKit Go.Shelf Go.Proofs.YtekdacalkllipaaGreatW.PrintWords Go.Proofs.YtekdacalkllipaaGreatW.PrintLast Go.Proofs.YtekdacalkllipaaGreatW.PrintMore
set_option linter.unusedVariables false
set_option linter.unusedSimpArgs false
def Std.lits (s : Std) : List Lit := [.int .i64 s.a0, .int .i64 s.b0, .int .i64 s.a1, .int .i64 s.b1, .int .i64 s.a2, .int .i64 s.b2, .int .i64 s.a3, .int .i64 s.b3]
def Std.same (a b : Std) : Bool := decide (a.a0 = b.a0 ∧ a.b0 = b.b0 ∧ a.a1 = b.a1 ∧ a.b1 = b.b1 ∧ a.a2 = b.a2 ∧ a.b2 = b.b2 ∧ a.a3 = b.a3 ∧ a.b3 = b.b3)
theorem keys_std : Tryz.prog.keyTypeAt 4 143 = true := by kernel_rfl
theorem wf_small {n : Int} (h1 : -1 ≤ n) (h2 : n ≤ 1000) : (Lit.int .i64 n).wf = true := by
  have e1 : IntKind.i64.min = -9223372036854775808 := by kernel_rfl
  have e2 : IntKind.i64.max = 9223372036854775807 := by kernel_rfl
  simp only [Lit.wf, e1, e2, Bool.and_eq_true, decide_eq_true_eq]
  omega
theorem keys_int (n : Int) (h : (Lit.int .i64 n).wf = true) (d : Nat) : Tryz.prog.keyLits (d + 1) 3 [.int .i64 n] = some [.int .i64 n] := by
  unfold Program.keyLits
  simp [Tryz.underlying3, h]
theorem keys_duty (x y : Int) (hx : (Lit.int .i64 x).wf = true) (hy : (Lit.int .i64 y).wf = true) (d : Nat) : Tryz.prog.keyLits (d + 2) 141 [.int .i64 x, .int .i64 y] = some [.int .i64 x, .int .i64 y] := by
  have hc : Tryz.prog.cellsOf 141 = 2 := by kernel_rfl
  have hi : Tryz.prog.cellsOf 3 = 1 := by kernel_rfl
  unfold Program.keyLits
  simp [Tryz.underlying141, hc, hi, keys_int _ hx, keys_int _ hy]
theorem lits_std (s : Std) (h : s.ok) (d : Nat) : Tryz.prog.keyLits (d + 3) 143 s.vals.toList = some s.lits := by
  have hc : Tryz.prog.cellsOf 143 = 8 := by kernel_rfl
  have hi : Tryz.prog.cellsOf 141 = 2 := by kernel_rfl
  obtain ⟨l0, l1, l2, l3⟩ := h 0 (by omega)
  obtain ⟨m0, m1, m2, m3⟩ := h 1 (by omega)
  obtain ⟨n0, n1, n2, n3⟩ := h 2 (by omega)
  obtain ⟨o0, o1, o2, o3⟩ := h 3 (by omega)
  simp only [Std.last, Std.many] at *
  have k0 := keys_duty s.a0 s.b0 (wf_small (by omega) (by omega)) (wf_small (by omega) (by omega)) d
  have k1 := keys_duty s.a1 s.b1 (wf_small (by omega) (by omega)) (wf_small (by omega) (by omega)) d
  have k2 := keys_duty s.a2 s.b2 (wf_small (by omega) (by omega)) (wf_small (by omega) (by omega)) d
  have k3 := keys_duty s.a3 s.b3 (wf_small (by omega) (by omega)) (wf_small (by omega) (by omega)) d
  unfold Program.keyLits
  simp [Tryz.underlying143, hc, hi, Std.vals, Std.lits, List.range_succ, k0, k1, k2, k3]
theorem eq_std (a b : Std) (ha : a.ok) (hb : b.ok) (w : World) : (Op.equal 143 (.agg a.vals) (.agg b.vals)).run Tryz.prog w = .ok (a.same b) w := by
  obtain ⟨r, hr, hiff⟩ := run_equalIn_deep (P := Tryz.prog) 9996 4 143 keys_std w 4 4 (.agg a.vals) (.agg b.vals) a.lits b.lits (by kernel_rfl) (by kernel_rfl) (lits_std a ha 1) (lits_std b hb 1)
  have : r = a.same b := by
    rw [Bool.eq_iff_iff, hiff, Std.same, decide_eq_true_eq]
    simp [Std.lits]
  rw [← this]
  exact hr
end Go.Proofs.YtekdacalkllipaaGreat.PR
end
