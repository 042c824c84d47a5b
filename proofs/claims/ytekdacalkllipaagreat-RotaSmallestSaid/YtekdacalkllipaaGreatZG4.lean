/- YtekdacalkllipaaGreat: part 4 of the proof of the theorem rotaSmallest_holds, for every input. -/
import Derived.DeepKeys4
import Derived.Laws.EntriesVeiled
import Derived.Maps.OwnIn
import Derived.Maps.Views
import Derived.Outline
import Derived.Shelf.SlSortCmp.NoneTotal
import Derived.Shelf.Slices.Clone
import Derived.Shelf.Slices.Turned
import Derived.Sort.CutIn
import Derived.Test.YtekdacalkllipaaGreatProg
import Derived.WalkSpells
import Derived.Test.YtekdacalkllipaaGreatZG3
section
namespace Go.Proofs.YtekdacalkllipaaGreat.PR
open Go.RowKit Go.Shelf Go.Proofs.YtekdacalkllipaaGreatW.PrintWords Go.Proofs.YtekdacalkllipaaGreatW.PrintLast Go.Proofs.YtekdacalkllipaaGreatW.PrintMore
set_option linter.unusedVariables false
set_option linter.unusedSimpArgs false
attribute [local go_sem] Oper.semAt_some
attribute [local simp] wide_fn
structure Wk where
  A0 : Option Addr
  c0 : Nat
  need : List Int
  A1 : Option Addr
  c1 : Nat
  people : List S128
  A2 : Option Addr
  c2 : Nat
  cases : List (List Int)
  A4 : Option Addr
  c4 : Nat
  lists : List (List Int)
  K : Nat
  mb : Nat
def Wk.vals (k : Wk) : Array Value := #[.slice k.A0 k.need.length k.c0, .slice k.A1 k.people.length k.c1, .slice k.A2 k.cases.length k.c2, .slice k.A4 k.lists.length k.c4, .map (some k.mb)]
structure Wk.In (k : Wk) (w : World) : Prop where
  h0 : (Kd.int .i64).C w k.A0 k.need.length k.need
  h1 : k128.C w k.A1 k.people.length k.people
  h2 : (Kd.slice 3 (Kd.int .i64)).C w k.A2 k.cases.length k.cases
  h4 : (Kd.slice 3 (Kd.int .i64)).C w k.A4 k.lists.length k.lists
  hK : w.heap[k.K]? = some (.cells k.vals 190 (0, 0))
structure Wk.Ok (k : Wk) : Prop where
  n1 : k.need.length ≤ 5
  p1 : k.people.length ≤ 4
  l1 : k.lists.length ≤ 16
  v : ∀ x ∈ k.people, personOk k.need x = true
  c : ∀ l ∈ k.cases, 0 < l.length ∧ l.length = k.people.length
  l : ∀ on ∈ k.lists, ∀ x ∈ on, 0 ≤ x ∧ x < k.people.length
theorem Wk.In.keep {k : Wk} {w0 W : World} (h : k.In w0) (hm : ∀ o, w0.heap[k.mb]? = some o → o.isCells = false) (hk : KeepM w0.heap.size k.mb w0 W) : k.In W := by
  have hc := hk.cells hm
  refine ⟨C_stay (stay_int _) hc h.h0, C_stay stay_128 hc h.h1, C_stay stay_L1 hc h.h2, C_stay stay_L1 hc h.h4, (hk.block k.K (blk_lt h.hK) (fun e => ?_)).trans h.hK⟩
  have := hm _ (e ▸ h.hK)
  cases this
def Std.spot (s : Std) (watch : Int) : Array Value := #[.int .i64 watch, .int .i64 s.a0, .int .i64 s.b0, .int .i64 s.a1, .int .i64 s.b1, .int .i64 s.a2, .int .i64 s.b2, .int .i64 s.a3, .int .i64 s.b3]
def Wk.can (k : Wk) (watch : Int) (s : Std) (i : Nat) : Bool :=
  !((afterS k.people watch (rd_L1 k.lists i) s).1.same s && decide (0 < k.need.getD watch.toNat 0)) && ((afterS k.people watch (rd_L1 k.lists i) s).2 && holdsB k.need k.cases (rd_L1 k.lists i) watch)
abbrev Wk.X (k : Wk) (w0 : World) (watch : Int) (s : Std) := { x : Nat × Value // x.1 < k.lists.length ∧ k.can watch s x.1 = true ∧ ∃ A c, x.2 = .slice A (rd_L1 k.lists x.1).length c ∧ (Kd.int .i64).C w0 A (rd_L1 k.lists x.1).length (rd_L1 k.lists x.1) }
def Keep2 (n mb B1 B2 : Nat) (W W' : World) : Prop := KeepM n mb W W' ∧ W'.heap[B1]? = W.heap[B1]? ∧ W'.heap[B2]? = W.heap[B2]?
theorem Keep2.trans {n mb B1 B2 : Nat} {A B C : World} (h : Keep2 n mb B1 B2 A B) (k : Keep2 n mb B1 B2 B C) : Keep2 n mb B1 B2 A C := ⟨h.1.trans k.1, k.2.1.trans h.2.1, k.2.2.trans h.2.2⟩
theorem can_skip {f : Nat → Bool} {m : Nat} (h : f m = false) : (List.range (m + 1)).filter f = (List.range m).filter f := by
  rw [List.range_succ, List.filter_append]; simp [h]
theorem can_take {f : Nat → Bool} {m : Nat} (h : f m = true) : (List.range (m + 1)).filter f = (List.range m).filter f ++ [m] := by
  rw [List.range_succ, List.filter_append]; simp [h]
theorem grown_of_below' {A B : World} (h : Below A.heap.size A B) (q : Nat) : A.grownBy (B.drewN q) none := grown_of_below (pw_below_drewN h q) none
theorem keep2_step {n mb B1 B2 : Nat} {W A B : World} (h : Keep2 n mb B1 B2 W A) (hb : Below A.heap.size A B) (q : Nat) (h1 : B1 < A.heap.size) (h2 : B2 < A.heap.size) (hn : n ≤ A.heap.size) : Keep2 n mb B1 B2 W (B.drewN q) :=
  h.trans ⟨(KeepM.below (hb.mono hn)).trans (KeepM.drewN _ _ _ _), hb.block B1 h1, hb.block B2 h2⟩
set_option maxRecDepth 100000 in
set_option maxHeartbeats 4000000 in
theorem next1_in (F : Fence) (n : Nat) (hF : F = Fence.wide) (hn : 3 ≤ n) (l B1 B2 : Nat) (k : Wk) (w0 : World) (hin : k.In w0) (hok : k.Ok) (hmb : ∀ o, w0.heap[k.mb]? = some o → o.isCells = false)
    (watch : Int) (s : Std) (hs : s.ok) (hw0 : 0 ≤ watch) (hw1 : watch < k.need.length) (hb1 : w0.heap.size ≤ B1) (hb2 : w0.heap.size ≤ B2) (J Jx : List (k.X w0 watch s) → World → Prop) (hJst : ∀ pre A B, J pre A → A.grownBy B none → J pre B)
    (hY : ∀ pre x W, J pre W → pre.length < k.lists.length → YieldAt F (n - 1) Tryz.prog l #[x.1.2, .agg ((afterS k.people watch (rd_L1 k.lists x.1.1) s).1.spot (watch + 1))] W fun e W' =>
      (e = .returned (.bool true) ∧ J (pre ++ [x]) W' ∧ Keep2 w0.heap.size k.mb B1 B2 W W') ∨ (e = .returned (.bool false) ∧ Jx (pre ++ [x]) W'))
    (W : World) (hW : KeepM w0.heap.size k.mb w0 W) (hB1 : W.heap[B1]? = some (.cells #[.pointer (some ⟨k.K, 0, none⟩)] 137 (0, 0))) (hB2 : W.heap[B2]? = some (.cells (s.spot watch) 146 (0, 0))) (h0 : J [] W) :
    CallsIn F n Tryz.prog 146 #[.func (.yield l) #[] #[], .pointer (some ⟨B1, 0, none⟩), .pointer (some ⟨B2, 0, none⟩)] W fun e W' => (∃ v, e = .returned v) ∧
      ((∃ xs : List (k.X w0 watch s), xs.map (·.1.1) = (List.range k.lists.length).filter (k.can watch s) ∧ J xs W') ∨ (∃ pre : List (k.X w0 watch s), (∃ m, m ≤ k.lists.length ∧ pre.map (·.1.1) = (List.range m).filter (k.can watch s)) ∧ Jx pre W')) := by
  subst hF
  refine callsIn_of_wp Tryz.func146 rfl trivial ?_ rfl
  simp only [Tryz.ntmps146, List.size_toArray, List.length_cons, List.length_nil, Nat.reduceAdd, Nat.reduceSub, Array.replicate_succ, Array.replicate_zero, List.push_toArray, List.append_toArray, List.nil_append, List.cons_append]
  have q1 : W.cell? ⟨B1, 0, none⟩ = some (.pointer (some ⟨k.K, 0, none⟩)) := (blk_cell hB1 0).trans rfl
  have q2 : W.cell? ⟨k.K, 3, none⟩ = some (.slice k.A4 k.lists.length k.c4) := (blk_cell (hin.keep hmb hW).hK 3).trans rfl
  have hll := hok.l1
  have HW := Aside0.mk hW
  have HB1 := Aside0.mk hB1
  have HB2 := Aside0.mk hB2
  have HIN := Aside0.mk hin
  have HOK := Aside0.mk hok
  have HMB := Aside0.mk hmb
  have HS := Aside0.mk hs
  have HY := Aside0.mk hY
  have H0 := Aside0.mk h0
  have HST := Aside0.mk hJst
  clear hW hB1 hB2 hin hok hmb hs hY h0 hJst
  gi_wp2
  gi_loopw [13] (fun i wr => ∃ (m : Nat) (pre : List (k.X w0 watch s)), m ≤ k.lists.length ∧ i = .int .i64 m ∧ pre.map (·.1.1) = (List.range m).filter (k.can watch s) ∧ J pre wr ∧ Keep2 w0.heap.size k.mb B1 B2 W wr)
    (fun i _ => k.lists.length - (intOf i).toNat)
  case atStart => exact ⟨0, [], Nat.zero_le _, rfl, rfl, H0.out, KeepM.refl _ _ _, rfl, rfl⟩
  case round =>
    obtain ⟨m, pre, hm, rfl, hpre, hJs, hkp⟩ := hrel
    by_cases hlt : m < k.lists.length
    · have hltz : (m : Int) < (k.lists.length : Int) := by omega
      have hinr := HIN.out.keep HMB.out (HW.out.trans hkp.1)
      obtain ⟨ad, A', c', e0, hx0, hl, hi0⟩ := at_L1 HIN.out.h4 (m : Int) (by omega) (by omega)
      have hcs := (HW.out.trans hkp.1).cells HMB.out
      have hx := hcs _ _ hx0
      have hi := C_stay (stay_int _) hcs hi0
      have HI0 := Aside0.mk hi0
      clear hcs hx0 hi0
      obtain ⟨A4, hA4⟩ : ∃ A4, A4 = k.A4 := ⟨_, rfl⟩
      rw [← hA4] at e0 ⊢
      subst e0
      have HA4 := Aside0.mk hA4
      have hx' : wr.cell? (ad.add m) = some (.slice A' (rd_L1 k.lists m).length c') := hx
      clear hx hA4
      gi_wp2
      obtain ⟨r, hr⟩ : ∃ r, r = afterS k.people watch (rd_L1 k.lists m) s := ⟨_, rfl⟩
      have hmem : rd_L1 k.lists m ∈ k.lists := by simp [rd_L1, List.getElem_mem, hlt]
      have HAF : Aside0 (∀ w, Below wr.heap.size wr w → Calls Tryz.prog 127 #[.agg #[.slice k.A0 k.need.length k.c0, .slice k.A1 k.people.length k.c1, .slice k.A2 k.cases.length k.c2], .agg s.vals, .int .i64 watch, .slice A' (rd_L1 k.lists m).length c'] w fun e w' => e = .returned (.tuple #[.agg r.1.vals, .bool r.2]) ∧ w.grownBy w' none) := ⟨by
        rw [hr]
        exact fun w hb => after_any k.A0 k.c0 k.need k.A1 k.c1 k.people k.A2 k.c2 _ s watch A' c' _ w (Kd.C_below hinr.h1 hb) (Kd.C_below hi hb) HOK.out.p1 HOK.out.v hw0 hw1 HOK.out.n1 (HOK.out.l _ hmem) HS.out⟩
      have hb1r : wr.heap[B1]? = some (.cells #[.pointer (some ⟨k.K, 0, none⟩)] 137 (0, 0)) := hkp.2.1.trans HB1.out
      have hb2r : wr.heap[B2]? = some (.cells (s.spot watch) 146 (0, 0)) := hkp.2.2.trans HB2.out
      have HKr := Aside0.mk hinr.hK
      have HN0 : Aside0 (w0.heap.size ≤ wr.heap.size) := ⟨Nat.le_trans HW.out.size hkp.1.size⟩
      have HB1r := Aside0.mk hb1r
      have HB2r := Aside0.mk hb2r
      have HP := Aside0.mk hpre
      have HJ := Aside0.mk hJs
      have HKP := Aside0.mk hkp
      have HI := Aside0.mk hi
      have HMEM := Aside0.mk hmem
      have HR := Aside0.mk hr
      have hrok : r.1.ok := by rw [hr]; exact afterS_ok k.people k.need HOK.out.v watch hw0 (by have := HOK.out.n1; omega) HOK.out.p1 _ _ HS.out (HOK.out.l _ hmem)
      have HEQ : Aside0 (∀ w, (Op.equal 143 (.agg r.1.vals) (.agg s.vals)).run Tryz.prog w = .ok (r.1.same s) w) := ⟨fun w => eq_std r.1 s hrok HS.out w⟩
      have HROK := Aside0.mk hrok
      clear hrok
      clear hinr hi hl hpre hJs hkp hr hmem hb1r hb2r q1 q2
      refine region_mk (by kernel_rfl) (fun t => { tmps := #[.func (.yield l) #[] #[], .pointer (some ⟨B1, 0, none⟩), .pointer (some ⟨B2, 0, none⟩), undef, undef, .slice A' (rd_L1 k.lists m).length c', t 13, t 15, .pointer (some ⟨k.K, 0, none⟩), .pointer (some ⟨k.K, 0, none⟩), .pointer (some ⟨k.K, 3, none⟩), .slice (some ad) k.lists.length k.c4, .int .i64 (k.lists.length : Int), .int .i64 (m : Int), .bool true, .pointer (some (ad.add m)), .slice A' (rd_L1 k.lists m).length c', t 10, t 0, t 1, t 2, t 3, t 4, t 5, t 6, t 7, t 8, t 9, t 11, t 12, u30, u31, u32, u33, u34, u35, u36, u37, u38, u39, u40, u41, u42, u43, u44, u45, u46, u47, u48, u49, u50, u51, u52, u53, u54, u55, u56, u57, u58, u59, u60, u61, u62, u63, u64, u65, u66, u67, u68], defers := [] })
        (fun L t w => Below wr.heap.size wr w ∧ (L 14 = true → L 13 = true) ∧ (L 13 = true → ∃ B6, t 13 = .pointer (some ⟨B6, 0, none⟩) ∧ wr.heap.size ≤ B6 ∧ w.heap[B6]? = some (.cells (if L 14 = true then r.1.vals else #[.int .i64 0, .int .i64 0, .int .i64 0, .int .i64 0, .int .i64 0, .int .i64 0, .int .i64 0, .int .i64 0]) 143 (0, 0))))
        (fun i v => match i with
          | 0 => v = .pointer (some ⟨k.K, 0, none⟩) | 1 => v = .pointer (some ⟨k.K, 0, none⟩) | 2 => v = .pointer (some ⟨k.K, 0, none⟩)
          | 3 => v = .agg #[.slice k.A0 k.need.length k.c0, .slice k.A1 k.people.length k.c1, .slice k.A2 k.cases.length k.c2]
          | 4 => v = .pointer (some ⟨B2, 1, none⟩) | 5 => v = .agg s.vals | 6 => v = .pointer (some ⟨B2, 0, none⟩) | 7 => v = .int .i64 watch
          | 8 => v = .slice A' (rd_L1 k.lists m).length c' | 9 => v = .tuple #[.agg r.1.vals, .bool r.2] | 10 => v = .tuple #[.agg r.1.vals, .bool r.2]
          | 11 => v = .agg r.1.vals | 12 => v = .bool r.2 | 15 => v = .bool r.2 | _ => True)
        (fun j => match j with
          | 0 => u18 | 1 => u19 | 2 => u20 | 3 => u21 | 4 => u22 | 5 => u23 | 6 => u24 | 7 => u25 | 8 => u26 | 9 => u27 | 10 => u17 | 11 => u28 | 12 => u29 | 13 => u6 | 15 => u7 | _ => undef)
        (by kernel_rfl) ⟨pw_below_drewN (Below.refl _ _) 1, by simp, by simp⟩ ?step ?done
      case step =>
        intro i hi
        have hi' : i < 16 := hi
        have q1 : Aside0 (∀ w, Below wr.heap.size wr w → w.cell? ⟨B1, 0, none⟩ = some (.pointer (some ⟨k.K, 0, none⟩))) := ⟨fun w hb => (blk_cell (blk_below HB1r.out hb) 0).trans rfl⟩
        have qK : Aside0 (∀ w, Below wr.heap.size wr w → ∀ j, w.cell? ⟨k.K, j, none⟩ = k.vals[j]?) := ⟨fun w hb j => blk_cell (blk_below HKr.out hb) j⟩
        have qS : Aside0 (∀ w, Below wr.heap.size wr w → ∀ j, w.cell? ⟨B2, j, none⟩ = (s.spot watch)[j]?) := ⟨fun w hb j => blk_cell (blk_below HB2r.out hb) j⟩
        have q7 : Aside0 (∀ w, Below wr.heap.size wr w → w.cell? ⟨B2, 0, none⟩ = some (.int .i64 watch)) := ⟨fun w hb => (qS.out w hb 0).trans rfl⟩
        match i, hi' with
        | 0, _ =>
          intro L t w hL hJ hX hdep hcl
          have q1' := q1.out w hJ.1
          refine wpOpIn_step rfl (fun K hK => ?_)
          dsimp only
          go_simp
          refine hK _ _ ⟨.pointer (some ⟨k.K, 0, none⟩), ?_, rfl, hJ⟩
          simp [upd]
        | 1, _ =>
          intro L t w hL hJ hX hdep hcl
          have x0 : t 0 = .pointer (some ⟨k.K, 0, none⟩) := hX 0 (hdep _ rfl ⟨0, .data⟩ (by simp) rfl)
          refine wpOpIn_step rfl (fun K hK => ?_)
          dsimp only
          simp only [x0]
          go_simp
          refine hK _ _ ⟨.pointer (some ⟨k.K, 0, none⟩), ?_, rfl, hJ⟩
          simp [upd, x0]
        | 2, _ =>
          intro L t w hL hJ hX hdep hcl
          have x1 : t 1 = .pointer (some ⟨k.K, 0, none⟩) := hX 1 (hdep _ rfl ⟨1, .data⟩ (by simp) rfl)
          refine wpOpIn_step rfl (fun K hK => ?_)
          dsimp only
          simp only [x1]
          go_simp
          refine hK _ _ ⟨.pointer (some ⟨k.K, 0, none⟩), ?_, rfl, hJ⟩
          simp [upd, x1]
        | 3, _ =>
          intro L t w hL hJ hX hdep hcl
          have x2 : t 2 = .pointer (some ⟨k.K, 0, none⟩) := hX 2 (hdep _ rfl ⟨2, .data⟩ (by simp) rfl)
          have q3 : w.cell? ⟨k.K, 0, none⟩ = some (.slice k.A0 k.need.length k.c0) := (qK.out w hJ.1 0).trans rfl
          have q4 : w.cell? ⟨k.K, 1, none⟩ = some (.slice k.A1 k.people.length k.c1) := (qK.out w hJ.1 1).trans rfl
          have q5 : w.cell? ⟨k.K, 2, none⟩ = some (.slice k.A2 k.cases.length k.c2) := (qK.out w hJ.1 2).trans rfl
          refine wpOpIn_step rfl (fun K hK => ?_)
          dsimp only
          simp only [x2]
          go_simp
          refine hK _ _ ⟨.agg #[.slice k.A0 k.need.length k.c0, .slice k.A1 k.people.length k.c1, .slice k.A2 k.cases.length k.c2], ?_, rfl, hJ⟩
          simp [upd, x2]
        | 4, _ =>
          intro L t w hL hJ hX hdep hcl
          refine wpOpIn_step rfl (fun K hK => ?_)
          dsimp only
          go_simp
          refine hK _ _ ⟨.pointer (some ⟨B2, 1, none⟩), ?_, rfl, hJ⟩
          simp [upd]
        | 5, _ =>
          intro L t w hL hJ hX hdep hcl
          have x4 : t 4 = .pointer (some ⟨B2, 1, none⟩) := hX 4 (hdep _ rfl ⟨4, .data⟩ (by simp) rfl)
          have y0 : w.cell? ⟨B2, 1, none⟩ = some (.int .i64 s.a0) := (qS.out w hJ.1 1).trans rfl
          have y1 : w.cell? ⟨B2, 2, none⟩ = some (.int .i64 s.b0) := (qS.out w hJ.1 2).trans rfl
          have y2 : w.cell? ⟨B2, 3, none⟩ = some (.int .i64 s.a1) := (qS.out w hJ.1 3).trans rfl
          have y3 : w.cell? ⟨B2, 4, none⟩ = some (.int .i64 s.b1) := (qS.out w hJ.1 4).trans rfl
          have y4 : w.cell? ⟨B2, 5, none⟩ = some (.int .i64 s.a2) := (qS.out w hJ.1 5).trans rfl
          have y5 : w.cell? ⟨B2, 6, none⟩ = some (.int .i64 s.b2) := (qS.out w hJ.1 6).trans rfl
          have y6 : w.cell? ⟨B2, 7, none⟩ = some (.int .i64 s.a3) := (qS.out w hJ.1 7).trans rfl
          have y7 : w.cell? ⟨B2, 8, none⟩ = some (.int .i64 s.b3) := (qS.out w hJ.1 8).trans rfl
          refine wpOpIn_step rfl (fun K hK => ?_)
          dsimp only
          simp only [x4]
          go_simp
          refine hK _ _ ⟨.agg s.vals, ?_, rfl, hJ⟩
          simp [upd, x4, Std.vals]
        | 6, _ =>
          intro L t w hL hJ hX hdep hcl
          refine wpOpIn_step rfl (fun K hK => ?_)
          dsimp only
          go_simp
          refine hK _ _ ⟨.pointer (some ⟨B2, 0, none⟩), ?_, rfl, hJ⟩
          simp [upd]
        | 7, _ =>
          intro L t w hL hJ hX hdep hcl
          have x6 : t 6 = .pointer (some ⟨B2, 0, none⟩) := hX 6 (hdep _ rfl ⟨6, .data⟩ (by simp) rfl)
          have q8 := q7.out w hJ.1
          refine wpOpIn_step rfl (fun K hK => ?_)
          dsimp only
          simp only [x6]
          go_simp
          refine hK _ _ ⟨.int .i64 watch, ?_, rfl, hJ⟩
          simp [upd, x6]
        | 8, _ =>
          intro L t w hL hJ hX hdep hcl
          refine wpOpIn_step rfl (fun K hK => ?_)
          dsimp only
          go_simp
          refine hK _ _ ⟨.slice A' (rd_L1 k.lists m).length c', ?_, rfl, hJ⟩
          simp [upd]
        | 9, _ =>
          intro L t w hL hJ hX hdep hcl
          have x3 : t 3 = .agg #[.slice k.A0 k.need.length k.c0, .slice k.A1 k.people.length k.c1, .slice k.A2 k.cases.length k.c2] := hX 3 (hdep _ rfl ⟨3, .data⟩ (by simp) rfl)
          have x5 : t 5 = .agg s.vals := hX 5 (hdep _ rfl ⟨5, .data⟩ (by simp) rfl)
          have x7 : t 7 = .int .i64 watch := hX 7 (hdep _ rfl ⟨7, .data⟩ (by simp) rfl)
          have x8 : t 8 = .slice A' (rd_L1 k.lists m).length c' := hX 8 (hdep _ rfl ⟨8, .data⟩ (by simp) rfl)
          refine wpOpIn_step rfl (fun K hK => ?_)
          dsimp only
          simp only [x3, x5, x7, x8]
          go_simp
          refine ⟨fun _ => by omega, (callsIn_wide.2 (HAF.out w hJ.1)).mono ?_⟩
          rintro e w' ⟨rfl, hg⟩
          refine hK _ _ ⟨_, ?_, rfl, ?_⟩
          · simp [upd, x3, x5, x7, x8]
          · exact ⟨hJ.1.trans ((below_none hg).mono hJ.1.size), hJ.2.1, fun h => by obtain ⟨B6, e1, e2, e3⟩ := hJ.2.2 h; exact ⟨B6, e1, e2, blk_grown e3 hg (by simp)⟩⟩
        | 10, _ =>
          intro L t w hL hJ hX hdep hcl
          have x9 : t 9 = .tuple #[.agg r.1.vals, .bool r.2] := hX 9 (hdep _ rfl ⟨9, .data⟩ (by simp) rfl)
          refine wpOpIn_step rfl (fun K hK => ?_)
          dsimp only
          simp only [x9]
          go_simp
          refine hK _ _ ⟨.tuple #[.agg r.1.vals, .bool r.2], ?_, rfl, hJ⟩
          simp [upd, x9]
        | 11, _ =>
          intro L t w hL hJ hX hdep hcl
          have x10 : t 10 = .tuple #[.agg r.1.vals, .bool r.2] := hX 10 (hdep _ rfl ⟨10, .data⟩ (by simp) rfl)
          refine wpOpIn_step rfl (fun K hK => ?_)
          dsimp only
          simp only [x10]
          go_simp
          refine hK _ _ ⟨.agg r.1.vals, ?_, rfl, hJ⟩
          simp [upd, x10]
        | 12, _ =>
          intro L t w hL hJ hX hdep hcl
          have x10 : t 10 = .tuple #[.agg r.1.vals, .bool r.2] := hX 10 (hdep _ rfl ⟨10, .data⟩ (by simp) rfl)
          refine wpOpIn_step rfl (fun K hK => ?_)
          dsimp only
          simp only [x10]
          go_simp
          refine hK _ _ ⟨.bool r.2, ?_, rfl, hJ⟩
          simp [upd, x10]
        | 13, _ =>
          intro L t w hL hJ hX hdep hcl
          refine wpOpIn_step rfl (fun K hK => ?_)
          dsimp only
          go_simp
          refine hK _ _ ⟨.pointer (some ⟨w.heap.size, 0, none⟩), ?_, trivial, ?_⟩
          · simp [upd]
          · have hL14 : L 14 = false := by
              cases h : L 14 with
              | false => rfl
              | true => rw [hJ.2.1 h] at hL; cases hL
            refine ⟨below_alloc hJ.1 _, fun _ => rfl, fun _ => ⟨w.heap.size, rfl, hJ.1.size, ?_⟩⟩
            show _ = some (Obj.cells (if L 14 = true then _ else _) _ _)
            rw [hL14]
            exact blk_new w _
        | 14, _ =>
          intro L t w hL hJ hX hdep hcl
          have x11 : t 11 = .agg r.1.vals := hX 11 (hdep _ rfl ⟨11, .data⟩ (by simp) rfl)
          have h13 := hdep _ rfl ⟨13, .data⟩ (by simp) rfl
          obtain ⟨B6, e1, e2, e3⟩ := hJ.2.2 h13
          rw [hL] at e3
          replace e3 : w.heap[B6]? = some (.cells #[.int .i64 0, .int .i64 0, .int .i64 0, .int .i64 0, .int .i64 0, .int .i64 0, .int .i64 0, .int .i64 0] 143 (0, 0)) := e3
          have z0 : w.cell? ⟨B6, 0, none⟩ = some (.int .i64 0) := (blk_cell e3 0).trans rfl
          have z1 : w.cell? ⟨B6, 1, none⟩ = some (.int .i64 0) := (blk_cell e3 1).trans rfl
          have z2 : w.cell? ⟨B6, 2, none⟩ = some (.int .i64 0) := (blk_cell e3 2).trans rfl
          have z3 : w.cell? ⟨B6, 3, none⟩ = some (.int .i64 0) := (blk_cell e3 3).trans rfl
          have z4 : w.cell? ⟨B6, 4, none⟩ = some (.int .i64 0) := (blk_cell e3 4).trans rfl
          have z5 : w.cell? ⟨B6, 5, none⟩ = some (.int .i64 0) := (blk_cell e3 5).trans rfl
          have z6 : w.cell? ⟨B6, 6, none⟩ = some (.int .i64 0) := (blk_cell e3 6).trans rfl
          have z7 : w.cell? ⟨B6, 7, none⟩ = some (.int .i64 0) := (blk_cell e3 7).trans rfl
          have f0 : w.frozen? ⟨B6, 0, none⟩ = false := blk_frozen e3 0
          have f1 : w.frozen? ⟨B6, 1, none⟩ = false := blk_frozen e3 1
          have f2 : w.frozen? ⟨B6, 2, none⟩ = false := blk_frozen e3 2
          have f3 : w.frozen? ⟨B6, 3, none⟩ = false := blk_frozen e3 3
          have f4 : w.frozen? ⟨B6, 4, none⟩ = false := blk_frozen e3 4
          have f5 : w.frozen? ⟨B6, 5, none⟩ = false := blk_frozen e3 5
          have f6 : w.frozen? ⟨B6, 6, none⟩ = false := blk_frozen e3 6
          have f7 : w.frozen? ⟨B6, 7, none⟩ = false := blk_frozen e3 7
          have E3 := Aside0.mk e3
          clear e3
          refine wpOpIn_step rfl (fun K hK => ?_)
          dsimp only
          simp only [x11, e1, Std.vals]
          go_simp
          refine hK _ (set8 w B6 r.1) ⟨undef, ?_, trivial, ⟨set8_below r.1 hJ.1 e2, fun _ => h13, fun _ => ⟨B6, e1, e2, set8_blk r.1 E3.out⟩⟩⟩
          simp [upd, x11, e1, Std.vals]
        | 15, _ =>
          intro L t w hL hJ hX hdep hcl
          have x12 : t 12 = .bool r.2 := hX 12 (hdep _ rfl ⟨12, .data⟩ (by simp) rfl)
          refine wpOpIn_step rfl (fun K hK => ?_)
          dsimp only
          simp only [x12]
          go_simp
          refine hK _ _ ⟨.bool r.2, ?_, rfl, hJ⟩
          simp [upd, x12]
        | j + 16, h => exact absurd h (by omega)
      case done =>
        intro L t w hL hJ hX
        have x0 : t 0 = .pointer (some ⟨k.K, 0, none⟩) := hX 0 (by decide)
        have x1 : t 1 = .pointer (some ⟨k.K, 0, none⟩) := hX 1 (by decide)
        have x2 : t 2 = .pointer (some ⟨k.K, 0, none⟩) := hX 2 (by decide)
        have x3 : t 3 = .agg #[.slice k.A0 k.need.length k.c0, .slice k.A1 k.people.length k.c1, .slice k.A2 k.cases.length k.c2] := hX 3 (by decide)
        have x4 : t 4 = .pointer (some ⟨B2, 1, none⟩) := hX 4 (by decide)
        have x5 : t 5 = .agg s.vals := hX 5 (by decide)
        have x6 : t 6 = .pointer (some ⟨B2, 0, none⟩) := hX 6 (by decide)
        have x7 : t 7 = .int .i64 watch := hX 7 (by decide)
        have x8 : t 8 = .slice A' (rd_L1 k.lists m).length c' := hX 8 (by decide)
        have x9 : t 9 = .tuple #[.agg r.1.vals, .bool r.2] := hX 9 (by decide)
        have x10 : t 10 = .tuple #[.agg r.1.vals, .bool r.2] := hX 10 (by decide)
        have x11 : t 11 = .agg r.1.vals := hX 11 (by decide)
        have x12 : t 12 = .bool r.2 := hX 12 (by decide)
        have x15 : t 15 = .bool r.2 := hX 15 (by decide)
        obtain ⟨B6, x13, hb6, h6⟩ := hJ.2.2 (hL 13 (by decide))
        rw [hL 14 (by decide)] at h6
        replace h6 : w.heap[B6]? = some (.cells r.1.vals 143 (0, 0)) := h6
        have hbw := hJ.1
        dsimp only
        simp only [x0, x1, x2, x3, x4, x5, x6, x7, x8, x9, x10, x11, x12, x13, x15]
        clear x0 x1 x2 x3 x4 x5 x6 x7 x8 x9 x10 x11 x12 x13 x15 hX hJ hL
        have hK2 := blk_below HKr.out hbw
        have hB1w := blk_below HB1r.out hbw
        have hB2w := blk_below HB2r.out hbw
        have q1 : w.cell? ⟨B1, 0, none⟩ = some (.pointer (some ⟨k.K, 0, none⟩)) := (blk_cell hB1w 0).trans rfl
        have qk0 : w.cell? ⟨k.K, 0, none⟩ = some (.slice k.A0 k.need.length k.c0) := (blk_cell hK2 0).trans rfl
        have qk1 : w.cell? ⟨k.K, 1, none⟩ = some (.slice k.A1 k.people.length k.c1) := (blk_cell hK2 1).trans rfl
        have qk2 : w.cell? ⟨k.K, 2, none⟩ = some (.slice k.A2 k.cases.length k.c2) := (blk_cell hK2 2).trans rfl
        have p0 : w.cell? ⟨B2, 0, none⟩ = some (.int .i64 watch) := (blk_cell hB2w 0).trans rfl
        have p1 : w.cell? ⟨B2, 1, none⟩ = some (.int .i64 s.a0) := (blk_cell hB2w 1).trans rfl
        have p2 : w.cell? ⟨B2, 2, none⟩ = some (.int .i64 s.b0) := (blk_cell hB2w 2).trans rfl
        have p3 : w.cell? ⟨B2, 3, none⟩ = some (.int .i64 s.a1) := (blk_cell hB2w 3).trans rfl
        have p4 : w.cell? ⟨B2, 4, none⟩ = some (.int .i64 s.b1) := (blk_cell hB2w 4).trans rfl
        have p5 : w.cell? ⟨B2, 5, none⟩ = some (.int .i64 s.a2) := (blk_cell hB2w 5).trans rfl
        have p6 : w.cell? ⟨B2, 6, none⟩ = some (.int .i64 s.b2) := (blk_cell hB2w 6).trans rfl
        have p7 : w.cell? ⟨B2, 7, none⟩ = some (.int .i64 s.a3) := (blk_cell hB2w 7).trans rfl
        have p8 : w.cell? ⟨B2, 8, none⟩ = some (.int .i64 s.b3) := (blk_cell hB2w 8).trans rfl
        obtain ⟨n0, n1, n2, n3, n4, n5, n6, n7⟩ := cells8 h6
        obtain ⟨adn, en, hnd⟩ := Kd.at_int (C_stay (stay_int _) ((HW.out.trans (HKP.out.1)).cells HMB.out) HIN.out.h0) watch hw0 hw1
        have hnd' : w.cell? (adn.add watch.toNat) = some (.int .i64 (rd k.need watch)) := pw_cell_below hbw hnd
        have HBW := Aside0.mk hbw
        have H6 := Aside0.mk h6
        have HK2 := Aside0.mk hK2
        have HB1w := Aside0.mk hB1w
        have HB2w := Aside0.mk hB2w
        clear hbw h6 hK2 hB1w hB2w hnd
        have hEq : ∀ w, (Op.equalIn 10000 143 (.agg #[.int .i64 r.1.a0, .int .i64 r.1.b0, .int .i64 r.1.a1, .int .i64 r.1.b1, .int .i64 r.1.a2, .int .i64 r.1.b2, .int .i64 r.1.a3, .int .i64 r.1.b3]) (.agg #[.int .i64 s.a0, .int .i64 s.b0, .int .i64 s.a1, .int .i64 s.b1, .int .i64 s.a2, .int .i64 s.b2, .int .i64 s.a3, .int .i64 s.b3])).run Tryz.prog w = .ok (r.1.same s) w := HEQ.out
        simp only [Std.vals]
        obtain ⟨sm, hsm⟩ : ∃ sm, sm = r.1.same s := ⟨_, rfl⟩
        rw [← hsm] at hEq
        have HSM := Aside0.mk hsm
        clear hsm
        obtain ⟨nd, hnd⟩ : ∃ nd, nd = rd k.need watch := ⟨_, rfl⟩
        rw [← hnd] at hnd'
        have HND := Aside0.mk hnd
        clear hnd
        gi_wp2
        gi_cut [45] from 14 (fun s45 wx => s45 = .bool (sm && decide (nd > 0)) ∧ ∃ nq, wx = w.drewN nq)
        case first =>
          cases sm with
          | false =>
            gi_wp2
            gi_big_quiet_th (fail)
            gi_wp2_with fail
            gi_meet
            case rel => exact ⟨rfl, nq, rfl⟩
          | true =>
            by_cases hpos : nd > 0
            · have hp1 : decide (nd > 0) = true := decide_eq_true hpos
              gi_wp2
              gi_big_quiet_th (fail)
              gi_wp2_with fail
              gi_meet
              case rel => exact ⟨by rw [hp1]; rfl, nq, rfl⟩
            · have hp1 : decide (nd > 0) = false := decide_eq_false hpos
              gi_wp2
              gi_big_quiet_th (fail)
              gi_wp2_with fail
              gi_meet
              case rel => exact ⟨by rw [hp1]; rfl, nq, rfl⟩
        case rest =>
          obtain ⟨rfl, nq, rfl⟩ := hcut
          obtain ⟨bb, hbb⟩ : ∃ bb, bb = (sm && decide (nd > 0)) := ⟨_, rfl⟩
          rw [← hbb]
          have HBB := Aside0.mk hbb
          clear hbb hEq hnd' en qk0 qk1 qk2 n0 n1 n2 n3 n4 n5 n6 n7 p1 p2 p3 p4 p5 p6 p7 p8
          cases bb with
          | true =>
            have HCAN : Aside0 (k.can watch s m = false) := ⟨by rw [Wk.can, ← HR.out, ← HSM.out, show k.need.getD watch.toNat 0 = nd from HND.out.symm, show decide (0 < nd) = decide (nd > 0) from rfl, ← HBB.out]; rfl⟩
            gi_wp2
            go_roundw
            case measure => simp [intOf]; omega
            case rel => exact ⟨m + 1, pre, by omega, by push_cast; rfl, by rw [can_skip HCAN.out]; exact HP.out, HST.out _ _ _ HJ.out (grown_of_below' (HBW.out) nq), keep2_step HKP.out HBW.out nq (blk_lt HB1r.out) (blk_lt HB2r.out) HN0.out⟩
          | false =>
            obtain ⟨wq, hwq⟩ : ∃ wq, wq = w.drewN nq := ⟨_, rfl⟩
            have hKq : wq.heap[k.K]? = some (.cells k.vals 190 (0, 0)) := by rw [hwq]; exact HK2.out
            have hB1q : wq.heap[B1]? = some (.cells #[.pointer (some ⟨k.K, 0, none⟩)] 137 (0, 0)) := by rw [hwq]; exact HB1w.out
            have hB2q : wq.heap[B2]? = some (.cells (s.spot watch) 146 (0, 0)) := by rw [hwq]; exact HB2w.out
            have h6q : wq.heap[B6]? = some (.cells r.1.vals 143 (0, 0)) := by rw [hwq]; exact H6.out
            have hbwq : Below wr.heap.size wr wq := by rw [hwq]; exact pw_below_drewN HBW.out nq
            have HKq := Aside0.mk hKq
            have HB1q := Aside0.mk hB1q
            have HB2q := Aside0.mk hB2q
            have H6q := Aside0.mk h6q
            have HBQ := Aside0.mk hbwq
            have q1 : wq.cell? ⟨B1, 0, none⟩ = some (.pointer (some ⟨k.K, 0, none⟩)) := (blk_cell hB1q 0).trans rfl
            rw [← hwq]
            clear hwq p0 hKq hB1q hB2q h6q hbwq
            obtain ⟨rr, hrr⟩ : ∃ rr, rr = r.2 := ⟨_, rfl⟩
            rw [← hrr]
            have HRR := Aside0.mk hrr
            clear hrr
            cases rr with
            | false =>
              have HCAN : Aside0 (k.can watch s m = false) := ⟨by rw [Wk.can, ← HR.out, ← HRR.out]; simp⟩
              gi_wp2
              gi_big_quiet_th (fail)
              gi_wp2
              go_roundw
              case measure => simp [intOf]; omega
              case rel => exact ⟨m + 1, pre, by omega, by push_cast; rfl, by rw [can_skip HCAN.out]; exact HP.out, HST.out _ _ _ HJ.out (grown_of_below' HBQ.out _), keep2_step HKP.out HBQ.out _ (blk_lt HB1r.out) (blk_lt HB2r.out) HN0.out⟩
            | true =>
              obtain ⟨ho, hho⟩ : ∃ ho, ho = holdsB k.need k.cases (rd_L1 k.lists m) watch := ⟨_, rfl⟩
              have hinq : k.In wq := HIN.out.keep HMB.out ((HW.out.trans HKP.out.1).trans (KeepM.below (HBQ.out.mono HN0.out)))
              have hiq : (Kd.int .i64).C wq A' (rd_L1 k.lists m).length (rd_L1 k.lists m) := Kd.C_below HI.out HBQ.out
              have HH : Aside0 (∀ w', Below wq.heap.size wq w' → Calls Tryz.prog 117 #[.agg #[.slice k.A0 k.need.length k.c0, .slice k.A1 k.people.length k.c1, .slice k.A2 k.cases.length k.c2], .slice A' (rd_L1 k.lists m).length c', .int .i64 watch] w' fun e w2 => e = .returned (.bool ho) ∧ w'.grownBy w2 none) := ⟨by
                rw [hho]
                exact fun w' hb => holds_any k.A0 k.c0 k.need k.A1 k.c1 _ k.A2 k.c2 k.cases A' c' _ watch w' (Kd.C_below hinq.h0 hb) (Kd.C_below hinq.h2 hb) (Kd.C_below hiq hb) hw0 hw1 (fun l hl => (HOK.out.c l hl).1) (fun l hl x hx => by rw [(HOK.out.c l hl).2]; exact HOK.out.l _ HMEM.out x hx)⟩
              have HHO := Aside0.mk hho
              clear hho hinq hiq q1
              gi_wp2
              cases ho with
              | false =>
                have HCAN : Aside0 (k.can watch s m = false) := ⟨by rw [Wk.can, ← HHO.out]; simp⟩
                refine region_mk (by kernel_rfl) (fun t => { tmps := #[.func (.yield l) #[] #[], .pointer (some ⟨B1, 0, none⟩), .pointer (some ⟨B2, 0, none⟩), undef, undef, .slice A' (rd_L1 k.lists m).length c', .pointer (some ⟨B6, 0, none⟩), .bool true, .pointer (some ⟨k.K, 0, none⟩), .pointer (some ⟨k.K, 0, none⟩), .pointer (some ⟨k.K, 3, none⟩), .slice (some ad) k.lists.length k.c4, .int .i64 (k.lists.length : Int), .int .i64 (m : Int), u14, u15, u16, u17, u18, u19, u20, u21, u22, u23, u24, u25, u26, u27, u28, u29, u30, u31, u32, u33, u34, u35, u36, u37, u38, u39, u40, u41, u42, u43, u44, .bool false, t 0, t 1, t 2, t 3, t 4, t 5, t 6, t 7, t 8, t 9, t 10, t 11, t 12, t 13, t 14, t 15, t 16, t 17, t 18, t 19, t 20, t 21, u68], defers := [] })
                  (fun L t w' => Below wq.heap.size wq w')
                  (fun i v => match i with | 0 => v = .bool true | 1 => v = .bool true | 2 => v = .pointer (some ⟨k.K, 0, none⟩) | 3 => v = .pointer (some ⟨k.K, 0, none⟩) | 4 => v = .pointer (some ⟨k.K, 0, none⟩) | 5 => v = .agg #[.slice k.A0 k.need.length k.c0, .slice k.A1 k.people.length k.c1, .slice k.A2 k.cases.length k.c2] | 6 => v = .slice A' (rd_L1 k.lists m).length c' | 7 => v = .pointer (some ⟨B2, 0, none⟩) | 8 => v = .int .i64 watch | 9 => v = .bool false | 10 => v = .bool false | 11 => v = .bool false | 12 => v = undef | 13 => v = undef | 14 => v = undef | 15 => v = undef | 16 => v = undef | 17 => v = undef | 18 => v = undef | 19 => v = undef | 20 => v = undef | 21 => v = .bool false | _ => True)
                  (fun j => match j with | 0 => u46 | 1 => u47 | 2 => u48 | 3 => u49 | 4 => u50 | 5 => u51 | 6 => u52 | 7 => u53 | 8 => u54 | 9 => u55 | 10 => u56 | 11 => u57 | 12 => u58 | 13 => u59 | 14 => u60 | 15 => u61 | 16 => u62 | 17 => u63 | 18 => u64 | 19 => u65 | 20 => u66 | 21 => u67 | _ => undef) (by kernel_rfl) (pw_below_drewN (Below.refl _ _) 1) ?step ?done
                case step =>
                  intro i hi
                  have hi' : i < 22 := hi
                  match i, hi' with
                  | 0, _ =>
                    intro L t w' hL hJ hX hdep hcl
                    have hB : Below wq.heap.size wq w' := hJ
                    refine wpOpIn_step rfl (fun K hK => ?_)
                    dsimp only
                    go_simp
                    refine hK _ _ ⟨.bool true, ?_, rfl, hB⟩
                    simp [upd]
                  | 1, _ =>
                    intro L t w' hL hJ hX hdep hcl
                    have x0 : t 0 = .bool true := hX 0 (hdep _ rfl ⟨0, .data⟩ (by simp) rfl)
                    have hB : Below wq.heap.size wq w' := hJ
                    refine wpOpIn_step rfl (fun K hK => ?_)
                    dsimp only
                    simp only [x0]
                    go_simp
                    refine hK _ _ ⟨.bool true, ?_, rfl, hB⟩
                    simp [upd, x0]
                  | 2, _ =>
                    intro L t w' hL hJ hX hdep hcl
                    have x1 : t 1 = .bool true := hX 1 (hdep _ rfl ⟨1, .guard⟩ (by simp) rfl)
                    have hB : Below wq.heap.size wq w' := hJ
                    have q1' : w'.cell? ⟨B1, 0, none⟩ = some (.pointer (some ⟨k.K, 0, none⟩)) := (blk_cell (blk_below HB1q.out hB) 0).trans rfl
                    refine wpOpIn_step rfl (fun K hK => ?_)
                    dsimp only
                    simp only [x1]
                    go_simp
                    refine hK _ _ ⟨.pointer (some ⟨k.K, 0, none⟩), ?_, rfl, hB⟩
                    simp [upd, x1]
                  | 3, _ =>
                    intro L t w' hL hJ hX hdep hcl
                    have x2 : t 2 = .pointer (some ⟨k.K, 0, none⟩) := hX 2 (hdep _ rfl ⟨2, .data⟩ (by simp) rfl)
                    have x1 : t 1 = .bool true := hX 1 (hdep _ rfl ⟨1, .guard⟩ (by simp) rfl)
                    have hB : Below wq.heap.size wq w' := hJ
                    refine wpOpIn_step rfl (fun K hK => ?_)
                    dsimp only
                    simp only [x2, x1]
                    go_simp
                    refine hK _ _ ⟨.pointer (some ⟨k.K, 0, none⟩), ?_, rfl, hB⟩
                    simp [upd, x2, x1]
                  | 4, _ =>
                    intro L t w' hL hJ hX hdep hcl
                    have x3 : t 3 = .pointer (some ⟨k.K, 0, none⟩) := hX 3 (hdep _ rfl ⟨3, .data⟩ (by simp) rfl)
                    have x1 : t 1 = .bool true := hX 1 (hdep _ rfl ⟨1, .guard⟩ (by simp) rfl)
                    have hB : Below wq.heap.size wq w' := hJ
                    refine wpOpIn_step rfl (fun K hK => ?_)
                    dsimp only
                    simp only [x3, x1]
                    go_simp
                    refine hK _ _ ⟨.pointer (some ⟨k.K, 0, none⟩), ?_, rfl, hB⟩
                    simp [upd, x3, x1]
                  | 5, _ =>
                    intro L t w' hL hJ hX hdep hcl
                    have x4 : t 4 = .pointer (some ⟨k.K, 0, none⟩) := hX 4 (hdep _ rfl ⟨4, .data⟩ (by simp) rfl)
                    have x1 : t 1 = .bool true := hX 1 (hdep _ rfl ⟨1, .guard⟩ (by simp) rfl)
                    have hB : Below wq.heap.size wq w' := hJ
                    have q3 : w'.cell? ⟨k.K, 0, none⟩ = some (.slice k.A0 k.need.length k.c0) := (blk_cell (blk_below HKq.out hB) 0).trans rfl
                    have q4 : w'.cell? ⟨k.K, 1, none⟩ = some (.slice k.A1 k.people.length k.c1) := (blk_cell (blk_below HKq.out hB) 1).trans rfl
                    have q5 : w'.cell? ⟨k.K, 2, none⟩ = some (.slice k.A2 k.cases.length k.c2) := (blk_cell (blk_below HKq.out hB) 2).trans rfl
                    refine wpOpIn_step rfl (fun K hK => ?_)
                    dsimp only
                    simp only [x4, x1]
                    go_simp
                    refine hK _ _ ⟨.agg #[.slice k.A0 k.need.length k.c0, .slice k.A1 k.people.length k.c1, .slice k.A2 k.cases.length k.c2], ?_, rfl, hB⟩
                    simp [upd, x4, x1]
                  | 6, _ =>
                    intro L t w' hL hJ hX hdep hcl
                    have x1 : t 1 = .bool true := hX 1 (hdep _ rfl ⟨1, .guard⟩ (by simp) rfl)
                    have hB : Below wq.heap.size wq w' := hJ
                    refine wpOpIn_step rfl (fun K hK => ?_)
                    dsimp only
                    simp only [x1]
                    go_simp
                    refine hK _ _ ⟨.slice A' (rd_L1 k.lists m).length c', ?_, rfl, hB⟩
                    simp [upd, x1]
                  | 7, _ =>
                    intro L t w' hL hJ hX hdep hcl
                    have x1 : t 1 = .bool true := hX 1 (hdep _ rfl ⟨1, .guard⟩ (by simp) rfl)
                    have hB : Below wq.heap.size wq w' := hJ
                    refine wpOpIn_step rfl (fun K hK => ?_)
                    dsimp only
                    simp only [x1]
                    go_simp
                    refine hK _ _ ⟨.pointer (some ⟨B2, 0, none⟩), ?_, rfl, hB⟩
                    simp [upd, x1]
                  | 8, _ =>
                    intro L t w' hL hJ hX hdep hcl
                    have x7 : t 7 = .pointer (some ⟨B2, 0, none⟩) := hX 7 (hdep _ rfl ⟨7, .data⟩ (by simp) rfl)
                    have x1 : t 1 = .bool true := hX 1 (hdep _ rfl ⟨1, .guard⟩ (by simp) rfl)
                    have hB : Below wq.heap.size wq w' := hJ
                    have q8 : w'.cell? ⟨B2, 0, none⟩ = some (.int .i64 watch) := (blk_cell (blk_below HB2q.out hB) 0).trans rfl
                    refine wpOpIn_step rfl (fun K hK => ?_)
                    dsimp only
                    simp only [x7, x1]
                    go_simp
                    refine hK _ _ ⟨.int .i64 watch, ?_, rfl, hB⟩
                    simp [upd, x7, x1]
                  | 9, _ =>
                    intro L t w' hL hJ hX hdep hcl
                    have x5 : t 5 = .agg #[.slice k.A0 k.need.length k.c0, .slice k.A1 k.people.length k.c1, .slice k.A2 k.cases.length k.c2] := hX 5 (hdep _ rfl ⟨5, .data⟩ (by simp) rfl)
                    have x6 : t 6 = .slice A' (rd_L1 k.lists m).length c' := hX 6 (hdep _ rfl ⟨6, .data⟩ (by simp) rfl)
                    have x8 : t 8 = .int .i64 watch := hX 8 (hdep _ rfl ⟨8, .data⟩ (by simp) rfl)
                    have x1 : t 1 = .bool true := hX 1 (hdep _ rfl ⟨1, .guard⟩ (by simp) rfl)
                    have hB : Below wq.heap.size wq w' := hJ
                    refine wpOpIn_step rfl (fun K hK => ?_)
                    dsimp only
                    simp only [x5, x6, x8, x1]
                    go_simp
                    refine ⟨fun _ => by omega, (callsIn_wide.2 (HH.out w' hB)).mono ?_⟩
                    rintro e w2 ⟨rfl, hg⟩
                    have hB2 : Below wq.heap.size wq w2 := hB.trans ((below_none hg).mono hB.size)
                    refine hK _ _ ⟨_, ?_, rfl, hB2⟩
                    simp [upd, x5, x6, x8, x1]
                  | 10, _ =>
                    intro L t w' hL hJ hX hdep hcl
                    have x1 : t 1 = .bool true := hX 1 (hdep _ rfl ⟨1, .data⟩ (by simp) rfl)
                    have x9 : t 9 = .bool false := hX 9 (hdep _ rfl ⟨9, .data⟩ (by simp) rfl)
                    have hB : Below wq.heap.size wq w' := hJ
                    refine wpOpIn_step rfl (fun K hK => ?_)
                    dsimp only
                    simp only [x1, x9]
                    go_simp
                    refine hK _ _ ⟨.bool false, ?_, rfl, hB⟩
                    simp [upd, x1, x9]
                  | 11, _ =>
                    intro L t w' hL hJ hX hdep hcl
                    have x10 : t 10 = .bool false := hX 10 (hdep _ rfl ⟨10, .data⟩ (by simp) rfl)
                    have hB : Below wq.heap.size wq w' := hJ
                    refine wpOpIn_step rfl (fun K hK => ?_)
                    dsimp only
                    simp only [x10]
                    go_simp
                    refine hK _ _ ⟨.bool false, ?_, rfl, hB⟩
                    simp [upd, x10]
                  | 12, _ =>
                    intro L t w' hL hJ hX hdep hcl
                    have x11 : t 11 = .bool false := hX 11 (hdep _ rfl ⟨11, .guard⟩ (by simp) rfl)
                    have hB : Below wq.heap.size wq w' := hJ
                    refine wpOpIn_step rfl (fun K hK => ?_)
                    dsimp only
                    simp only [x11]
                    go_simp
                    first
                    | refine hK _ _ ⟨undef, ?_, rfl, hB⟩
                    | refine ⟨fun _ _ => trivial, hK _ _ ⟨undef, ?_, rfl, hB⟩⟩
                    simp [upd, x11]
                  | 13, _ =>
                    intro L t w' hL hJ hX hdep hcl
                    have x11 : t 11 = .bool false := hX 11 (hdep _ rfl ⟨11, .guard⟩ (by simp) rfl)
                    have hB : Below wq.heap.size wq w' := hJ
                    refine wpOpIn_step rfl (fun K hK => ?_)
                    dsimp only
                    simp only [x11]
                    go_simp
                    first
                    | refine hK _ _ ⟨undef, ?_, rfl, hB⟩
                    | refine ⟨fun _ _ => trivial, hK _ _ ⟨undef, ?_, rfl, hB⟩⟩
                    simp [upd, x11]
                  | 14, _ =>
                    intro L t w' hL hJ hX hdep hcl
                    have x11 : t 11 = .bool false := hX 11 (hdep _ rfl ⟨11, .guard⟩ (by simp) rfl)
                    have hB : Below wq.heap.size wq w' := hJ
                    refine wpOpIn_step rfl (fun K hK => ?_)
                    dsimp only
                    simp only [x11]
                    go_simp
                    first
                    | refine hK _ _ ⟨undef, ?_, rfl, hB⟩
                    | refine ⟨fun _ _ => trivial, hK _ _ ⟨undef, ?_, rfl, hB⟩⟩
                    simp [upd, x11]
                  | 15, _ =>
                    intro L t w' hL hJ hX hdep hcl
                    have x11 : t 11 = .bool false := hX 11 (hdep _ rfl ⟨11, .guard⟩ (by simp) rfl)
                    have hB : Below wq.heap.size wq w' := hJ
                    refine wpOpIn_step rfl (fun K hK => ?_)
                    dsimp only
                    simp only [x11]
                    go_simp
                    first
                    | refine hK _ _ ⟨undef, ?_, rfl, hB⟩
                    | refine ⟨fun _ _ => trivial, hK _ _ ⟨undef, ?_, rfl, hB⟩⟩
                    simp [upd, x11]
                  | 16, _ =>
                    intro L t w' hL hJ hX hdep hcl
                    have x11 : t 11 = .bool false := hX 11 (hdep _ rfl ⟨11, .guard⟩ (by simp) rfl)
                    have hB : Below wq.heap.size wq w' := hJ
                    refine wpOpIn_step rfl (fun K hK => ?_)
                    dsimp only
                    simp only [x11]
                    go_simp
                    first
                    | refine hK _ _ ⟨undef, ?_, rfl, hB⟩
                    | refine ⟨fun _ _ => trivial, hK _ _ ⟨undef, ?_, rfl, hB⟩⟩
                    simp [upd, x11]
                  | 17, _ =>
                    intro L t w' hL hJ hX hdep hcl
                    have x11 : t 11 = .bool false := hX 11 (hdep _ rfl ⟨11, .guard⟩ (by simp) rfl)
                    have hB : Below wq.heap.size wq w' := hJ
                    refine wpOpIn_step rfl (fun K hK => ?_)
                    dsimp only
                    simp only [x11]
                    go_simp
                    first
                    | refine hK _ _ ⟨undef, ?_, rfl, hB⟩
                    | refine ⟨fun _ _ => trivial, hK _ _ ⟨undef, ?_, rfl, hB⟩⟩
                    simp [upd, x11]
                  | 18, _ =>
                    intro L t w' hL hJ hX hdep hcl
                    have x11 : t 11 = .bool false := hX 11 (hdep _ rfl ⟨11, .guard⟩ (by simp) rfl)
                    have hB : Below wq.heap.size wq w' := hJ
                    refine wpOpIn_step rfl (fun K hK => ?_)
                    dsimp only
                    simp only [x11]
                    go_simp
                    first
                    | refine hK _ _ ⟨undef, ?_, rfl, hB⟩
                    | refine ⟨fun _ _ => trivial, hK _ _ ⟨undef, ?_, rfl, hB⟩⟩
                    simp [upd, x11]
                  | 19, _ =>
                    intro L t w' hL hJ hX hdep hcl
                    have x11 : t 11 = .bool false := hX 11 (hdep _ rfl ⟨11, .guard⟩ (by simp) rfl)
                    have hB : Below wq.heap.size wq w' := hJ
                    refine wpOpIn_step rfl (fun K hK => ?_)
                    dsimp only
                    simp only [x11]
                    go_simp
                    first
                    | refine hK _ _ ⟨undef, ?_, rfl, hB⟩
                    | refine ⟨fun _ _ => trivial, hK _ _ ⟨undef, ?_, rfl, hB⟩⟩
                    simp [upd, x11]
                  | 20, _ =>
                    intro L t w' hL hJ hX hdep hcl
                    have x11 : t 11 = .bool false := hX 11 (hdep _ rfl ⟨11, .guard⟩ (by simp) rfl)
                    have hB : Below wq.heap.size wq w' := hJ
                    refine wpOpIn_step rfl (fun K hK => ?_)
                    dsimp only
                    simp only [x11]
                    go_simp
                    first
                    | refine hK _ _ ⟨undef, ?_, rfl, hB⟩
                    | refine ⟨fun _ _ => trivial, hK _ _ ⟨undef, ?_, rfl, hB⟩⟩
                    simp [upd, x11]
                  | 21, _ =>
                    intro L t w' hL hJ hX hdep hcl
                    have x11 : t 11 = .bool false := hX 11 (hdep _ rfl ⟨11, .data⟩ (by simp) rfl)
                    have hB : Below wq.heap.size wq w' := hJ
                    refine wpOpIn_step rfl (fun K hK => ?_)
                    dsimp only
                    simp only [x11]
                    go_simp
                    refine hK _ _ ⟨.bool false, ?_, rfl, hB⟩
                    simp [upd, x11]
                  | j + 22, h => exact absurd h (by omega)
                case done =>
                  intro L t w' hL hJ hX
                  have x0 : t 0 = .bool true := hX 0 (by decide)
                  have x1 : t 1 = .bool true := hX 1 (by decide)
                  have x2 : t 2 = .pointer (some ⟨k.K, 0, none⟩) := hX 2 (by decide)
                  have x3 : t 3 = .pointer (some ⟨k.K, 0, none⟩) := hX 3 (by decide)
                  have x4 : t 4 = .pointer (some ⟨k.K, 0, none⟩) := hX 4 (by decide)
                  have x5 : t 5 = .agg #[.slice k.A0 k.need.length k.c0, .slice k.A1 k.people.length k.c1, .slice k.A2 k.cases.length k.c2] := hX 5 (by decide)
                  have x6 : t 6 = .slice A' (rd_L1 k.lists m).length c' := hX 6 (by decide)
                  have x7 : t 7 = .pointer (some ⟨B2, 0, none⟩) := hX 7 (by decide)
                  have x8 : t 8 = .int .i64 watch := hX 8 (by decide)
                  have x9 : t 9 = .bool false := hX 9 (by decide)
                  have x10 : t 10 = .bool false := hX 10 (by decide)
                  have x11 : t 11 = .bool false := hX 11 (by decide)
                  have x12 : t 12 = undef := hX 12 (by decide)
                  have x13 : t 13 = undef := hX 13 (by decide)
                  have x14 : t 14 = undef := hX 14 (by decide)
                  have x15 : t 15 = undef := hX 15 (by decide)
                  have x16 : t 16 = undef := hX 16 (by decide)
                  have x17 : t 17 = undef := hX 17 (by decide)
                  have x18 : t 18 = undef := hX 18 (by decide)
                  have x19 : t 19 = undef := hX 19 (by decide)
                  have x20 : t 20 = undef := hX 20 (by decide)
                  have x21 : t 21 = .bool false := hX 21 (by decide)
                  have hbw' : Below wq.heap.size wq w' := hJ
                  dsimp only
                  simp only [x0, x1, x2, x3, x4, x5, x6, x7, x8, x9, x10, x11, x12, x13, x14, x15, x16, x17, x18, x19, x20, x21]
                  have HBW' := Aside0.mk hbw'
                  clear x0 x1 x2 x3 x4 x5 x6 x7 x8 x9 x10 x11 x12 x13 x14 x15 x16 x17 x18 x19 x20 x21 hX hJ hL hbw'
                  gi_wp2
                  go_roundw
                  case measure => simp [intOf]; omega
                  case rel => exact ⟨m + 1, pre, by omega, by push_cast; rfl, by rw [can_skip HCAN.out]; exact HP.out, HST.out _ _ _ HJ.out (grown_of_below' (HBQ.out.trans (HBW'.out.mono HBQ.out.size)) 0), keep2_step HKP.out (HBQ.out.trans (HBW'.out.mono HBQ.out.size)) 0 (blk_lt HB1r.out) (blk_lt HB2r.out) HN0.out⟩
              | true =>
                have hcan : k.can watch s m = true := by
                  have hb := HBB.out
                  rw [HSM.out, HND.out] at hb
                  rw [Wk.can, ← HR.out, ← HRR.out, ← HHO.out]
                  show (!(r.1.same s && decide (0 < rd k.need watch)) && (true && true)) = true
                  rw [show decide (0 < rd k.need watch) = decide (rd k.need watch > 0) from rfl, ← hb]; rfl
                have HCAN := Aside0.mk hcan
                obtain ⟨X, hX⟩ : ∃ X : k.X w0 watch s, X = ⟨(m, .slice A' (rd_L1 k.lists m).length c'), hlt, hcan, A', c', rfl, HI0.out⟩ := ⟨_, rfl⟩
                have HX1 : Aside0 (X.1.1 = m ∧ X.1.2 = .slice A' (rd_L1 k.lists m).length c') := ⟨by rw [hX]; exact ⟨rfl, rfl⟩⟩
                have HLEN : Aside0 (pre.length < k.lists.length) := ⟨by
                  have h1 := congrArg List.length HP.out
                  rw [List.length_map] at h1
                  have h2 := List.length_filter_le (k.can watch s) (List.range m)
                  rw [List.length_range] at h2
                  omega⟩
                clear hcan hX
                refine region_mk (by kernel_rfl) (fun t => { tmps := #[.func (.yield l) #[] #[], .pointer (some ⟨B1, 0, none⟩), .pointer (some ⟨B2, 0, none⟩), undef, undef, .slice A' (rd_L1 k.lists m).length c', .pointer (some ⟨B6, 0, none⟩), .bool true, .pointer (some ⟨k.K, 0, none⟩), .pointer (some ⟨k.K, 0, none⟩), .pointer (some ⟨k.K, 3, none⟩), .slice (some ad) k.lists.length k.c4, .int .i64 (k.lists.length : Int), .int .i64 (m : Int), u14, u15, u16, u17, u18, u19, u20, u21, u22, u23, u24, u25, u26, u27, u28, u29, u30, u31, u32, u33, u34, u35, u36, u37, u38, u39, u40, u41, u42, u43, u44, .bool false, t 0, t 1, t 2, t 3, t 4, t 5, t 6, t 7, t 8, t 9, t 10, t 11, t 12, t 13, t 14, t 15, t 16, t 17, t 18, t 19, t 20, t 21, u68], defers := [] })
                  (fun L t w' => (L 19 = false → Below wq.heap.size wq w') ∧ (L 19 = true → (∀ j, j < 19 → L j = true) ∧ ∃ y, t 19 = .bool y ∧ (L 20 = true → t 20 = .bool (!y)) ∧ (L 21 = true → t 21 = .bool (!y)) ∧ ((y = true ∧ J (pre ++ [X]) w' ∧ Keep2 w0.heap.size k.mb B1 B2 wq w') ∨ (y = false ∧ Jx (pre ++ [X]) w'))))
                  (fun i v => match i with | 0 => v = .bool true | 1 => v = .bool true | 2 => v = .pointer (some ⟨k.K, 0, none⟩) | 3 => v = .pointer (some ⟨k.K, 0, none⟩) | 4 => v = .pointer (some ⟨k.K, 0, none⟩) | 5 => v = .agg #[.slice k.A0 k.need.length k.c0, .slice k.A1 k.people.length k.c1, .slice k.A2 k.cases.length k.c2] | 6 => v = .slice A' (rd_L1 k.lists m).length c' | 7 => v = .pointer (some ⟨B2, 0, none⟩) | 8 => v = .int .i64 watch | 9 => v = .bool true | 10 => v = .bool true | 11 => v = .bool true | 12 => v = .func (.yield l) #[] #[] | 13 => v = .slice A' (rd_L1 k.lists m).length c' | 14 => v = .pointer (some ⟨B2, 0, none⟩) | 15 => v = .int .i64 watch | 16 => v = .int .i64 (watch + 1) | 17 => v = .agg #[.int .i64 r.1.a0, .int .i64 r.1.b0, .int .i64 r.1.a1, .int .i64 r.1.b1, .int .i64 r.1.a2, .int .i64 r.1.b2, .int .i64 r.1.a3, .int .i64 r.1.b3] | 18 => v = .agg #[.int .i64 (watch + 1), .int .i64 r.1.a0, .int .i64 r.1.b0, .int .i64 r.1.a1, .int .i64 r.1.b1, .int .i64 r.1.a2, .int .i64 r.1.b2, .int .i64 r.1.a3, .int .i64 r.1.b3] | _ => True)
                  (fun j => match j with | 0 => u46 | 1 => u47 | 2 => u48 | 3 => u49 | 4 => u50 | 5 => u51 | 6 => u52 | 7 => u53 | 8 => u54 | 9 => u55 | 10 => u56 | 11 => u57 | 12 => u58 | 13 => u59 | 14 => u60 | 15 => u61 | 16 => u62 | 17 => u63 | 18 => u64 | 19 => u65 | 20 => u66 | 21 => u67 | _ => undef) (by kernel_rfl) ⟨fun _ => pw_below_drewN (Below.refl _ _) 1, fun h => by cases h⟩ ?step ?done
                case step =>
                  intro i hi
                  have hi' : i < 22 := hi
                  match i, hi' with
                  | 0, _ =>
                    intro L t w' hL hJ hX hdep hcl
                    have h19 : L 19 = false := by
                      cases h : L 19 with
                      | false => rfl
                      | true => have := (hJ.2 h).1 0 (by omega); rw [hL] at this; cases this
                    have hB := hJ.1 h19
                    refine wpOpIn_step rfl (fun K hK => ?_)
                    dsimp only
                    go_simp
                    refine hK _ _ ⟨.bool true, ?_, rfl, ⟨fun _ => hB, fun h => by rw [show setOn L 0 19 = L 19 from rfl, h19] at h; cases h⟩⟩
                    simp [upd]
                  | 1, _ =>
                    intro L t w' hL hJ hX hdep hcl
                    have x0 : t 0 = .bool true := hX 0 (hdep _ rfl ⟨0, .data⟩ (by simp) rfl)
                    have h19 : L 19 = false := by
                      cases h : L 19 with
                      | false => rfl
                      | true => have := (hJ.2 h).1 1 (by omega); rw [hL] at this; cases this
                    have hB := hJ.1 h19
                    refine wpOpIn_step rfl (fun K hK => ?_)
                    dsimp only
                    simp only [x0]
                    go_simp
                    refine hK _ _ ⟨.bool true, ?_, rfl, ⟨fun _ => hB, fun h => by rw [show setOn L 1 19 = L 19 from rfl, h19] at h; cases h⟩⟩
                    simp [upd, x0]
                  | 2, _ =>
                    intro L t w' hL hJ hX hdep hcl
                    have x1 : t 1 = .bool true := hX 1 (hdep _ rfl ⟨1, .guard⟩ (by simp) rfl)
                    have h19 : L 19 = false := by
                      cases h : L 19 with
                      | false => rfl
                      | true => have := (hJ.2 h).1 2 (by omega); rw [hL] at this; cases this
                    have hB := hJ.1 h19
                    have q1' : w'.cell? ⟨B1, 0, none⟩ = some (.pointer (some ⟨k.K, 0, none⟩)) := (blk_cell (blk_below HB1q.out hB) 0).trans rfl
                    refine wpOpIn_step rfl (fun K hK => ?_)
                    dsimp only
                    simp only [x1]
                    go_simp
                    refine hK _ _ ⟨.pointer (some ⟨k.K, 0, none⟩), ?_, rfl, ⟨fun _ => hB, fun h => by rw [show setOn L 2 19 = L 19 from rfl, h19] at h; cases h⟩⟩
                    simp [upd, x1]
                  | 3, _ =>
                    intro L t w' hL hJ hX hdep hcl
                    have x2 : t 2 = .pointer (some ⟨k.K, 0, none⟩) := hX 2 (hdep _ rfl ⟨2, .data⟩ (by simp) rfl)
                    have x1 : t 1 = .bool true := hX 1 (hdep _ rfl ⟨1, .guard⟩ (by simp) rfl)
                    have h19 : L 19 = false := by
                      cases h : L 19 with
                      | false => rfl
                      | true => have := (hJ.2 h).1 3 (by omega); rw [hL] at this; cases this
                    have hB := hJ.1 h19
                    refine wpOpIn_step rfl (fun K hK => ?_)
                    dsimp only
                    simp only [x2, x1]
                    go_simp
                    refine hK _ _ ⟨.pointer (some ⟨k.K, 0, none⟩), ?_, rfl, ⟨fun _ => hB, fun h => by rw [show setOn L 3 19 = L 19 from rfl, h19] at h; cases h⟩⟩
                    simp [upd, x2, x1]
                  | 4, _ =>
                    intro L t w' hL hJ hX hdep hcl
                    have x3 : t 3 = .pointer (some ⟨k.K, 0, none⟩) := hX 3 (hdep _ rfl ⟨3, .data⟩ (by simp) rfl)
                    have x1 : t 1 = .bool true := hX 1 (hdep _ rfl ⟨1, .guard⟩ (by simp) rfl)
                    have h19 : L 19 = false := by
                      cases h : L 19 with
                      | false => rfl
                      | true => have := (hJ.2 h).1 4 (by omega); rw [hL] at this; cases this
                    have hB := hJ.1 h19
                    refine wpOpIn_step rfl (fun K hK => ?_)
                    dsimp only
                    simp only [x3, x1]
                    go_simp
                    refine hK _ _ ⟨.pointer (some ⟨k.K, 0, none⟩), ?_, rfl, ⟨fun _ => hB, fun h => by rw [show setOn L 4 19 = L 19 from rfl, h19] at h; cases h⟩⟩
                    simp [upd, x3, x1]
                  | 5, _ =>
                    intro L t w' hL hJ hX hdep hcl
                    have x4 : t 4 = .pointer (some ⟨k.K, 0, none⟩) := hX 4 (hdep _ rfl ⟨4, .data⟩ (by simp) rfl)
                    have x1 : t 1 = .bool true := hX 1 (hdep _ rfl ⟨1, .guard⟩ (by simp) rfl)
                    have h19 : L 19 = false := by
                      cases h : L 19 with
                      | false => rfl
                      | true => have := (hJ.2 h).1 5 (by omega); rw [hL] at this; cases this
                    have hB := hJ.1 h19
                    have q3 : w'.cell? ⟨k.K, 0, none⟩ = some (.slice k.A0 k.need.length k.c0) := (blk_cell (blk_below HKq.out hB) 0).trans rfl
                    have q4 : w'.cell? ⟨k.K, 1, none⟩ = some (.slice k.A1 k.people.length k.c1) := (blk_cell (blk_below HKq.out hB) 1).trans rfl
                    have q5 : w'.cell? ⟨k.K, 2, none⟩ = some (.slice k.A2 k.cases.length k.c2) := (blk_cell (blk_below HKq.out hB) 2).trans rfl
                    refine wpOpIn_step rfl (fun K hK => ?_)
                    dsimp only
                    simp only [x4, x1]
                    go_simp
                    refine hK _ _ ⟨.agg #[.slice k.A0 k.need.length k.c0, .slice k.A1 k.people.length k.c1, .slice k.A2 k.cases.length k.c2], ?_, rfl, ⟨fun _ => hB, fun h => by rw [show setOn L 5 19 = L 19 from rfl, h19] at h; cases h⟩⟩
                    simp [upd, x4, x1]
                  | 6, _ =>
                    intro L t w' hL hJ hX hdep hcl
                    have x1 : t 1 = .bool true := hX 1 (hdep _ rfl ⟨1, .guard⟩ (by simp) rfl)
                    have h19 : L 19 = false := by
                      cases h : L 19 with
                      | false => rfl
                      | true => have := (hJ.2 h).1 6 (by omega); rw [hL] at this; cases this
                    have hB := hJ.1 h19
                    refine wpOpIn_step rfl (fun K hK => ?_)
                    dsimp only
                    simp only [x1]
                    go_simp
                    refine hK _ _ ⟨.slice A' (rd_L1 k.lists m).length c', ?_, rfl, ⟨fun _ => hB, fun h => by rw [show setOn L 6 19 = L 19 from rfl, h19] at h; cases h⟩⟩
                    simp [upd, x1]
                  | 7, _ =>
                    intro L t w' hL hJ hX hdep hcl
                    have x1 : t 1 = .bool true := hX 1 (hdep _ rfl ⟨1, .guard⟩ (by simp) rfl)
                    have h19 : L 19 = false := by
                      cases h : L 19 with
                      | false => rfl
                      | true => have := (hJ.2 h).1 7 (by omega); rw [hL] at this; cases this
                    have hB := hJ.1 h19
                    refine wpOpIn_step rfl (fun K hK => ?_)
                    dsimp only
                    simp only [x1]
                    go_simp
                    refine hK _ _ ⟨.pointer (some ⟨B2, 0, none⟩), ?_, rfl, ⟨fun _ => hB, fun h => by rw [show setOn L 7 19 = L 19 from rfl, h19] at h; cases h⟩⟩
                    simp [upd, x1]
                  | 8, _ =>
                    intro L t w' hL hJ hX hdep hcl
                    have x7 : t 7 = .pointer (some ⟨B2, 0, none⟩) := hX 7 (hdep _ rfl ⟨7, .data⟩ (by simp) rfl)
                    have x1 : t 1 = .bool true := hX 1 (hdep _ rfl ⟨1, .guard⟩ (by simp) rfl)
                    have h19 : L 19 = false := by
                      cases h : L 19 with
                      | false => rfl
                      | true => have := (hJ.2 h).1 8 (by omega); rw [hL] at this; cases this
                    have hB := hJ.1 h19
                    have q8 : w'.cell? ⟨B2, 0, none⟩ = some (.int .i64 watch) := (blk_cell (blk_below HB2q.out hB) 0).trans rfl
                    refine wpOpIn_step rfl (fun K hK => ?_)
                    dsimp only
                    simp only [x7, x1]
                    go_simp
                    refine hK _ _ ⟨.int .i64 watch, ?_, rfl, ⟨fun _ => hB, fun h => by rw [show setOn L 8 19 = L 19 from rfl, h19] at h; cases h⟩⟩
                    simp [upd, x7, x1]
                  | 9, _ =>
                    intro L t w' hL hJ hX hdep hcl
                    have x5 : t 5 = .agg #[.slice k.A0 k.need.length k.c0, .slice k.A1 k.people.length k.c1, .slice k.A2 k.cases.length k.c2] := hX 5 (hdep _ rfl ⟨5, .data⟩ (by simp) rfl)
                    have x6 : t 6 = .slice A' (rd_L1 k.lists m).length c' := hX 6 (hdep _ rfl ⟨6, .data⟩ (by simp) rfl)
                    have x8 : t 8 = .int .i64 watch := hX 8 (hdep _ rfl ⟨8, .data⟩ (by simp) rfl)
                    have x1 : t 1 = .bool true := hX 1 (hdep _ rfl ⟨1, .guard⟩ (by simp) rfl)
                    have h19 : L 19 = false := by
                      cases h : L 19 with
                      | false => rfl
                      | true => have := (hJ.2 h).1 9 (by omega); rw [hL] at this; cases this
                    have hB := hJ.1 h19
                    refine wpOpIn_step rfl (fun K hK => ?_)
                    dsimp only
                    simp only [x5, x6, x8, x1]
                    go_simp
                    refine ⟨fun _ => by omega, (callsIn_wide.2 (HH.out w' hB)).mono ?_⟩
                    rintro e w2 ⟨rfl, hg⟩
                    have hB2 : Below wq.heap.size wq w2 := hB.trans ((below_none hg).mono hB.size)
                    refine hK _ _ ⟨_, ?_, rfl, ⟨fun _ => hB2, fun h => by rw [show setOn L 9 19 = L 19 from rfl, h19] at h; cases h⟩⟩
                    simp [upd, x5, x6, x8, x1]
                  | 10, _ =>
                    intro L t w' hL hJ hX hdep hcl
                    have x1 : t 1 = .bool true := hX 1 (hdep _ rfl ⟨1, .data⟩ (by simp) rfl)
                    have x9 : t 9 = .bool true := hX 9 (hdep _ rfl ⟨9, .data⟩ (by simp) rfl)
                    have h19 : L 19 = false := by
                      cases h : L 19 with
                      | false => rfl
                      | true => have := (hJ.2 h).1 10 (by omega); rw [hL] at this; cases this
                    have hB := hJ.1 h19
                    refine wpOpIn_step rfl (fun K hK => ?_)
                    dsimp only
                    simp only [x1, x9]
                    go_simp
                    refine hK _ _ ⟨.bool true, ?_, rfl, ⟨fun _ => hB, fun h => by rw [show setOn L 10 19 = L 19 from rfl, h19] at h; cases h⟩⟩
                    simp [upd, x1, x9]
                  | 11, _ =>
                    intro L t w' hL hJ hX hdep hcl
                    have x10 : t 10 = .bool true := hX 10 (hdep _ rfl ⟨10, .data⟩ (by simp) rfl)
                    have h19 : L 19 = false := by
                      cases h : L 19 with
                      | false => rfl
                      | true => have := (hJ.2 h).1 11 (by omega); rw [hL] at this; cases this
                    have hB := hJ.1 h19
                    refine wpOpIn_step rfl (fun K hK => ?_)
                    dsimp only
                    simp only [x10]
                    go_simp
                    refine hK _ _ ⟨.bool true, ?_, rfl, ⟨fun _ => hB, fun h => by rw [show setOn L 11 19 = L 19 from rfl, h19] at h; cases h⟩⟩
                    simp [upd, x10]
                  | 12, _ =>
                    intro L t w' hL hJ hX hdep hcl
                    have x11 : t 11 = .bool true := hX 11 (hdep _ rfl ⟨11, .guard⟩ (by simp) rfl)
                    have h19 : L 19 = false := by
                      cases h : L 19 with
                      | false => rfl
                      | true => have := (hJ.2 h).1 12 (by omega); rw [hL] at this; cases this
                    have hB := hJ.1 h19
                    refine wpOpIn_step rfl (fun K hK => ?_)
                    dsimp only
                    simp only [x11]
                    go_simp
                    refine hK _ _ ⟨.func (.yield l) #[] #[], ?_, rfl, ⟨fun _ => hB, fun h => by rw [show setOn L 12 19 = L 19 from rfl, h19] at h; cases h⟩⟩
                    simp [upd, x11]
                  | 13, _ =>
                    intro L t w' hL hJ hX hdep hcl
                    have x11 : t 11 = .bool true := hX 11 (hdep _ rfl ⟨11, .guard⟩ (by simp) rfl)
                    have h19 : L 19 = false := by
                      cases h : L 19 with
                      | false => rfl
                      | true => have := (hJ.2 h).1 13 (by omega); rw [hL] at this; cases this
                    have hB := hJ.1 h19
                    refine wpOpIn_step rfl (fun K hK => ?_)
                    dsimp only
                    simp only [x11]
                    go_simp
                    refine hK _ _ ⟨.slice A' (rd_L1 k.lists m).length c', ?_, rfl, ⟨fun _ => hB, fun h => by rw [show setOn L 13 19 = L 19 from rfl, h19] at h; cases h⟩⟩
                    simp [upd, x11]
                  | 14, _ =>
                    intro L t w' hL hJ hX hdep hcl
                    have x11 : t 11 = .bool true := hX 11 (hdep _ rfl ⟨11, .guard⟩ (by simp) rfl)
                    have h19 : L 19 = false := by
                      cases h : L 19 with
                      | false => rfl
                      | true => have := (hJ.2 h).1 14 (by omega); rw [hL] at this; cases this
                    have hB := hJ.1 h19
                    refine wpOpIn_step rfl (fun K hK => ?_)
                    dsimp only
                    simp only [x11]
                    go_simp
                    refine hK _ _ ⟨.pointer (some ⟨B2, 0, none⟩), ?_, rfl, ⟨fun _ => hB, fun h => by rw [show setOn L 14 19 = L 19 from rfl, h19] at h; cases h⟩⟩
                    simp [upd, x11]
                  | 15, _ =>
                    intro L t w' hL hJ hX hdep hcl
                    have x14 : t 14 = .pointer (some ⟨B2, 0, none⟩) := hX 14 (hdep _ rfl ⟨14, .data⟩ (by simp) rfl)
                    have x11 : t 11 = .bool true := hX 11 (hdep _ rfl ⟨11, .guard⟩ (by simp) rfl)
                    have h19 : L 19 = false := by
                      cases h : L 19 with
                      | false => rfl
                      | true => have := (hJ.2 h).1 15 (by omega); rw [hL] at this; cases this
                    have hB := hJ.1 h19
                    have q8 : w'.cell? ⟨B2, 0, none⟩ = some (.int .i64 watch) := (blk_cell (blk_below HB2q.out hB) 0).trans rfl
                    refine wpOpIn_step rfl (fun K hK => ?_)
                    dsimp only
                    simp only [x14, x11]
                    go_simp
                    refine hK _ _ ⟨.int .i64 watch, ?_, rfl, ⟨fun _ => hB, fun h => by rw [show setOn L 15 19 = L 19 from rfl, h19] at h; cases h⟩⟩
                    simp [upd, x14, x11]
                  | 16, _ =>
                    intro L t w' hL hJ hX hdep hcl
                    have x15 : t 15 = .int .i64 watch := hX 15 (hdep _ rfl ⟨15, .data⟩ (by simp) rfl)
                    have x11 : t 11 = .bool true := hX 11 (hdep _ rfl ⟨11, .guard⟩ (by simp) rfl)
                    have h19 : L 19 = false := by
                      cases h : L 19 with
                      | false => rfl
                      | true => have := (hJ.2 h).1 16 (by omega); rw [hL] at this; cases this
                    have hB := hJ.1 h19
                    have hwrap : IntKind.i64.wrap (watch + 1) = watch + 1 := by rw [IntKind.wrap_i64]; have := HOK.out.n1; omega
                    refine wpOpIn_step rfl (fun K hK => ?_)
                    dsimp only
                    simp only [x15, x11, hwrap]
                    go_simp
                    refine hK _ _ ⟨.int .i64 (watch + 1), ?_, rfl, ⟨fun _ => hB, fun h => by rw [show setOn L 16 19 = L 19 from rfl, h19] at h; cases h⟩⟩
                    simp [upd, x15, x11, hwrap]
                  | 17, _ =>
                    intro L t w' hL hJ hX hdep hcl
                    have x11 : t 11 = .bool true := hX 11 (hdep _ rfl ⟨11, .guard⟩ (by simp) rfl)
                    have h19 : L 19 = false := by
                      cases h : L 19 with
                      | false => rfl
                      | true => have := (hJ.2 h).1 17 (by omega); rw [hL] at this; cases this
                    have hB := hJ.1 h19
                    have y0 : w'.cell? ⟨B6, 0, none⟩ = some (.int .i64 r.1.a0) := (blk_cell (blk_below H6q.out hB) 0).trans rfl
                    have y1 : w'.cell? ⟨B6, 1, none⟩ = some (.int .i64 r.1.b0) := (blk_cell (blk_below H6q.out hB) 1).trans rfl
                    have y2 : w'.cell? ⟨B6, 2, none⟩ = some (.int .i64 r.1.a1) := (blk_cell (blk_below H6q.out hB) 2).trans rfl
                    have y3 : w'.cell? ⟨B6, 3, none⟩ = some (.int .i64 r.1.b1) := (blk_cell (blk_below H6q.out hB) 3).trans rfl
                    have y4 : w'.cell? ⟨B6, 4, none⟩ = some (.int .i64 r.1.a2) := (blk_cell (blk_below H6q.out hB) 4).trans rfl
                    have y5 : w'.cell? ⟨B6, 5, none⟩ = some (.int .i64 r.1.b2) := (blk_cell (blk_below H6q.out hB) 5).trans rfl
                    have y6 : w'.cell? ⟨B6, 6, none⟩ = some (.int .i64 r.1.a3) := (blk_cell (blk_below H6q.out hB) 6).trans rfl
                    have y7 : w'.cell? ⟨B6, 7, none⟩ = some (.int .i64 r.1.b3) := (blk_cell (blk_below H6q.out hB) 7).trans rfl
                    refine wpOpIn_step rfl (fun K hK => ?_)
                    dsimp only
                    simp only [x11]
                    go_simp
                    refine hK _ _ ⟨.agg #[.int .i64 r.1.a0, .int .i64 r.1.b0, .int .i64 r.1.a1, .int .i64 r.1.b1, .int .i64 r.1.a2, .int .i64 r.1.b2, .int .i64 r.1.a3, .int .i64 r.1.b3], ?_, rfl, ⟨fun _ => hB, fun h => by rw [show setOn L 17 19 = L 19 from rfl, h19] at h; cases h⟩⟩
                    simp [upd, x11]
                  | 18, _ =>
                    intro L t w' hL hJ hX hdep hcl
                    have x16 : t 16 = .int .i64 (watch + 1) := hX 16 (hdep _ rfl ⟨16, .data⟩ (by simp) rfl)
                    have x17 : t 17 = .agg #[.int .i64 r.1.a0, .int .i64 r.1.b0, .int .i64 r.1.a1, .int .i64 r.1.b1, .int .i64 r.1.a2, .int .i64 r.1.b2, .int .i64 r.1.a3, .int .i64 r.1.b3] := hX 17 (hdep _ rfl ⟨17, .data⟩ (by simp) rfl)
                    have x11 : t 11 = .bool true := hX 11 (hdep _ rfl ⟨11, .guard⟩ (by simp) rfl)
                    have h19 : L 19 = false := by
                      cases h : L 19 with
                      | false => rfl
                      | true => have := (hJ.2 h).1 18 (by omega); rw [hL] at this; cases this
                    have hB := hJ.1 h19
                    refine wpOpIn_step rfl (fun K hK => ?_)
                    dsimp only
                    simp only [x16, x17, x11]
                    go_simp
                    refine hK _ _ ⟨.agg #[.int .i64 (watch + 1), .int .i64 r.1.a0, .int .i64 r.1.b0, .int .i64 r.1.a1, .int .i64 r.1.b1, .int .i64 r.1.a2, .int .i64 r.1.b2, .int .i64 r.1.a3, .int .i64 r.1.b3], ?_, rfl, ⟨fun _ => hB, fun h => by rw [show setOn L 18 19 = L 19 from rfl, h19] at h; cases h⟩⟩
                    simp [upd, x16, x17, x11]
                  | 19, _ =>
                    intro L t w' hL hJ hX hdep hcl
                    have x12 : t 12 = .func (.yield l) #[] #[] := hX 12 (hdep _ rfl ⟨12, .data⟩ (by simp) rfl)
                    have x13 : t 13 = .slice A' (rd_L1 k.lists m).length c' := hX 13 (hdep _ rfl ⟨13, .data⟩ (by simp) rfl)
                    have x18 : t 18 = .agg #[.int .i64 (watch + 1), .int .i64 r.1.a0, .int .i64 r.1.b0, .int .i64 r.1.a1, .int .i64 r.1.b1, .int .i64 r.1.a2, .int .i64 r.1.b2, .int .i64 r.1.a3, .int .i64 r.1.b3] := hX 18 (hdep _ rfl ⟨18, .data⟩ (by simp) rfl)
                    have x11 : t 11 = .bool true := hX 11 (hdep _ rfl ⟨11, .guard⟩ (by simp) rfl)
                    have hB := hJ.1 hL
                    refine wpOpIn_step rfl (fun K hK => ?_)
                    dsimp only
                    simp only [x12, x13, x18, x11]
                    obtain ⟨fn, tmps, assign, body, hy, hR⟩ := HY.out pre X w' (HST.out _ _ _ HJ.out (grown_of_below' (HBQ.out.trans (hB.mono HBQ.out.size)) 0)) HLEN.out
                    rw [HX1.out.1, HX1.out.2, ← HR.out] at hy
                    simp only [Std.spot] at hy
                    go_simp
                    refine ⟨fun _ => by omega, hR.mono ?_⟩
                    have hall : ∀ j, j < 19 → setOn L 19 j = true := by
                      have l18 : L 18 = true := hdep _ rfl ⟨18, .data⟩ (by simp) rfl
                      have l12 : L 12 = true := hdep _ rfl ⟨12, .data⟩ (by simp) rfl
                      have l13 : L 13 = true := hdep _ rfl ⟨13, .data⟩ (by simp) rfl
                      have l11 : L 11 = true := hdep _ rfl ⟨11, .guard⟩ (by simp) rfl
                      have l16 : L 16 = true := hcl 18 _ rfl l18 ⟨16, .data⟩ (by simp) rfl
                      have l17 : L 17 = true := hcl 18 _ rfl l18 ⟨17, .data⟩ (by simp) rfl
                      have l15 : L 15 = true := hcl 16 _ rfl l16 ⟨15, .data⟩ (by simp) rfl
                      have l14 : L 14 = true := hcl 15 _ rfl l15 ⟨14, .data⟩ (by simp) rfl
                      have l10 : L 10 = true := hcl 11 _ rfl l11 ⟨10, .data⟩ (by simp) rfl
                      have l9 : L 9 = true := hcl 10 _ rfl l10 ⟨9, .data⟩ (by simp) rfl
                      have l1 : L 1 = true := hcl 10 _ rfl l10 ⟨1, .data⟩ (by simp) rfl
                      have l0 : L 0 = true := hcl 1 _ rfl l1 ⟨0, .data⟩ (by simp) rfl
                      have l5 : L 5 = true := hcl 9 _ rfl l9 ⟨5, .data⟩ (by simp) rfl
                      have l6 : L 6 = true := hcl 9 _ rfl l9 ⟨6, .data⟩ (by simp) rfl
                      have l8 : L 8 = true := hcl 9 _ rfl l9 ⟨8, .data⟩ (by simp) rfl
                      have l7 : L 7 = true := hcl 8 _ rfl l8 ⟨7, .data⟩ (by simp) rfl
                      have l4 : L 4 = true := hcl 5 _ rfl l5 ⟨4, .data⟩ (by simp) rfl
                      have l3 : L 3 = true := hcl 4 _ rfl l4 ⟨3, .data⟩ (by simp) rfl
                      have l2 : L 2 = true := hcl 3 _ rfl l3 ⟨2, .data⟩ (by simp) rfl
                      intro j hj
                      match j, hj with
                      | 0, _ => exact l0
                      | 1, _ => exact l1
                      | 2, _ => exact l2
                      | 3, _ => exact l3
                      | 4, _ => exact l4
                      | 5, _ => exact l5
                      | 6, _ => exact l6
                      | 7, _ => exact l7
                      | 8, _ => exact l8
                      | 9, _ => exact l9
                      | 10, _ => exact l10
                      | 11, _ => exact l11
                      | 12, _ => exact l12
                      | 13, _ => exact l13
                      | 14, _ => exact l14
                      | 15, _ => exact l15
                      | 16, _ => exact l16
                      | 17, _ => exact l17
                      | 18, _ => exact l18
                      | q + 19, h => exact absurd h (by omega)
                    have h20 : L 20 = false := by
                      cases h : L 20 with
                      | false => rfl
                      | true => have := hcl 20 _ rfl h ⟨19, .data⟩ (by simp) rfl; rw [hL] at this; cases this
                    have h21 : L 21 = false := by
                      cases h : L 21 with
                      | false => rfl
                      | true => have := hcl 21 _ rfl h ⟨20, .data⟩ (by simp) rfl; rw [h20] at this; cases this
                    rintro e w3 (⟨rfl, hJ3, hk3⟩ | ⟨rfl, hJx3⟩)
                    · refine hK _ _ ⟨.bool true, ?_, trivial, ⟨fun h => by simp [setOn] at h, fun _ => ⟨hall, true, rfl, fun h => ?_, fun h => ?_, .inl ⟨rfl, hJ3, (keep2_step ⟨KeepM.refl _ _ _, rfl, rfl⟩ hB 0 (blk_lt HB1q.out) (blk_lt HB2q.out) (Nat.le_trans HN0.out HBQ.out.size)).trans hk3⟩⟩⟩⟩
                      · simp [upd, x12, x13, x18, x11]
                      · rw [show setOn L 19 20 = L 20 from rfl, h20] at h; cases h
                      · rw [show setOn L 19 21 = L 21 from rfl, h21] at h; cases h
                    · refine hK _ _ ⟨.bool false, ?_, trivial, ⟨fun h => by simp [setOn] at h, fun _ => ⟨hall, false, rfl, fun h => ?_, fun h => ?_, .inr ⟨rfl, hJx3⟩⟩⟩⟩
                      · simp [upd, x12, x13, x18, x11]
                      · rw [show setOn L 19 20 = L 20 from rfl, h20] at h; cases h
                      · rw [show setOn L 19 21 = L 21 from rfl, h21] at h; cases h
                  | 20, _ =>
                    intro L t w' hL hJ hX hdep hcl
                    have x11 : t 11 = .bool true := hX 11 (hdep _ rfl ⟨11, .guard⟩ (by simp) rfl)
                    have h19 := hdep _ rfl ⟨19, .data⟩ (by simp) rfl
                    obtain ⟨hall, y, y1, y2, y3, y4⟩ := hJ.2 h19
                    refine wpOpIn_step rfl (fun K hK => ?_)
                    dsimp only
                    simp only [y1, x11]
                    go_simp
                    refine hK _ _ ⟨.bool (!y), ?_, trivial, ⟨fun h => (by rw [show setOn L 20 19 = L 19 from rfl, h19] at h; cases h), fun _ => ⟨fun j hj => (by unfold setOn; split; rfl; exact hall j hj), y, y1, fun _ => rfl, y3, y4⟩⟩⟩
                    simp [upd, y1, x11]
                  | 21, _ =>
                    intro L t w' hL hJ hX hdep hcl
                    have x11 : t 11 = .bool true := hX 11 (hdep _ rfl ⟨11, .data⟩ (by simp) rfl)
                    have h20 := hdep _ rfl ⟨20, .data⟩ (by simp) rfl
                    have h19 : L 19 = true := hcl 20 _ rfl h20 ⟨19, .data⟩ (by simp) rfl
                    obtain ⟨hall, y, y1, y2', y3, y4⟩ := hJ.2 h19
                    have y2 := y2' h20
                    refine wpOpIn_step rfl (fun K hK => ?_)
                    dsimp only
                    simp only [x11, y2]
                    go_simp
                    refine hK _ _ ⟨.bool (!y), ?_, trivial, ⟨fun h => (by rw [show setOn L 21 19 = L 19 from rfl, h19] at h; cases h), fun _ => ⟨fun j hj => (by unfold setOn; split; rfl; exact hall j hj), y, y1, fun _ => y2, fun _ => rfl, y4⟩⟩⟩
                    simp [upd, x11, y1, y2]
                  | j + 22, h => exact absurd h (by omega)
                case done =>
                  intro L t w' hL hJ hX
                  have x0 : t 0 = .bool true := hX 0 (by decide)
                  have x1 : t 1 = .bool true := hX 1 (by decide)
                  have x2 : t 2 = .pointer (some ⟨k.K, 0, none⟩) := hX 2 (by decide)
                  have x3 : t 3 = .pointer (some ⟨k.K, 0, none⟩) := hX 3 (by decide)
                  have x4 : t 4 = .pointer (some ⟨k.K, 0, none⟩) := hX 4 (by decide)
                  have x5 : t 5 = .agg #[.slice k.A0 k.need.length k.c0, .slice k.A1 k.people.length k.c1, .slice k.A2 k.cases.length k.c2] := hX 5 (by decide)
                  have x6 : t 6 = .slice A' (rd_L1 k.lists m).length c' := hX 6 (by decide)
                  have x7 : t 7 = .pointer (some ⟨B2, 0, none⟩) := hX 7 (by decide)
                  have x8 : t 8 = .int .i64 watch := hX 8 (by decide)
                  have x9 : t 9 = .bool true := hX 9 (by decide)
                  have x10 : t 10 = .bool true := hX 10 (by decide)
                  have x11 : t 11 = .bool true := hX 11 (by decide)
                  have x12 : t 12 = .func (.yield l) #[] #[] := hX 12 (by decide)
                  have x13 : t 13 = .slice A' (rd_L1 k.lists m).length c' := hX 13 (by decide)
                  have x14 : t 14 = .pointer (some ⟨B2, 0, none⟩) := hX 14 (by decide)
                  have x15 : t 15 = .int .i64 watch := hX 15 (by decide)
                  have x16 : t 16 = .int .i64 (watch + 1) := hX 16 (by decide)
                  have x17 : t 17 = .agg #[.int .i64 r.1.a0, .int .i64 r.1.b0, .int .i64 r.1.a1, .int .i64 r.1.b1, .int .i64 r.1.a2, .int .i64 r.1.b2, .int .i64 r.1.a3, .int .i64 r.1.b3] := hX 17 (by decide)
                  have x18 : t 18 = .agg #[.int .i64 (watch + 1), .int .i64 r.1.a0, .int .i64 r.1.b0, .int .i64 r.1.a1, .int .i64 r.1.b1, .int .i64 r.1.a2, .int .i64 r.1.b2, .int .i64 r.1.a3, .int .i64 r.1.b3] := hX 18 (by decide)
                  obtain ⟨hall, y, y1, y2, y3, y4⟩ := hJ.2 (hL 19 (by decide))
                  have y20 := y2 (hL 20 (by decide))
                  have y21 := y3 (hL 21 (by decide))
                  dsimp only
                  simp only [x0, x1, x2, x3, x4, x5, x6, x7, x8, x9, x10, x11, x12, x13, x14, x15, x16, x17, x18, y1, y20, y21]
                  have Y4 := Aside0.mk y4
                  have HMAP : Aside0 ((pre ++ [X]).map (·.1.1) = (List.range (m + 1)).filter (k.can watch s)) := ⟨by rw [List.map_append, can_take HCAN.out, HP.out]; simp [HX1.out.1]⟩
                  clear x0 x1 x2 x3 x4 x5 x6 x7 x8 x9 x10 x11 x12 x13 x14 x15 x16 x17 x18 y1 y2 y3 y4 y20 y21 hall hX hJ hL
                  cases y with
                  | true =>
                    rcases Y4.out with ⟨_, hJ3, hk3⟩ | ⟨h, _⟩
                    · have HJ3 := Aside0.mk hJ3
                      have HK3 := Aside0.mk hk3
                      clear hJ3 hk3
                      gi_wp2
                      go_roundw
                      case measure => simp [intOf]; omega
                      case rel => exact ⟨m + 1, pre ++ [X], by omega, by push_cast; rfl, HMAP.out, HJ3.out, (keep2_step HKP.out HBQ.out 0 (blk_lt HB1r.out) (blk_lt HB2r.out) HN0.out).trans HK3.out⟩
                    · cases h
                  | false =>
                    rcases Y4.out with ⟨h, _⟩ | ⟨_, hJ3⟩
                    · cases h
                    · have HJ3 := Aside0.mk hJ3
                      clear hJ3
                      gi_wp2
                      refine bodyPost_ret (results_none rfl _ _ _) rfl ?_
                      exact ⟨⟨_, rfl⟩, .inr ⟨pre ++ [X], ⟨m + 1, by omega, HMAP.out⟩, HJ3.out⟩⟩
    · have hltz : ¬ (m : Int) < (k.lists.length : Int) := by omega
      obtain rfl : m = k.lists.length := by omega
      have HP := Aside0.mk hpre
      have HJ := Aside0.mk hJs
      clear hpre hJs hkp
      gi_wp2
      go_end0
      exact ⟨⟨_, rfl⟩, .inl ⟨pre, HP.out, HJ.out⟩⟩
end Go.Proofs.YtekdacalkllipaaGreat.PR
end
section
namespace Go.Proofs.YtekdacalkllipaaGreat.PR
open Go.RowKit Go.Shelf Go.Proofs.YtekdacalkllipaaGreatW.PrintWords Go.Proofs.YtekdacalkllipaaGreatW.PrintLast Go.Proofs.YtekdacalkllipaaGreatW.PrintMore
set_option linter.unusedVariables false
set_option linter.unusedSimpArgs false
theorem next_in (F : Fence) (n : Nat) (hfn : F.fn 108) (hro : F.round = none) (K : Nat) (s : Std) (watch : Int) (w : World) :
    CallsIn F n Tryz.prog 108 #[.pointer (some ⟨K, 0, none⟩), .agg (s.spot watch)] w fun e w' => e = .returned (.func (.func 146) #[] #[.pointer (some ⟨w.heap.size, 0, none⟩), .pointer (some ⟨w.heap.size + 1, 0, none⟩)]) ∧ w' = (w.alloc (.cells #[.pointer (some ⟨K, 0, none⟩)] 137)).alloc (.cells (s.spot watch) 146) := by
  unfold Std.spot
  refine callsIn_of_wp Tryz.func108 rfl hfn ?_ hro
  simp only [Tryz.ntmps108, List.size_toArray, List.length_cons, List.length_nil, Nat.reduceAdd, Nat.reduceSub, Array.replicate_succ, Array.replicate_zero, List.push_toArray, List.append_toArray, List.nil_append, List.cons_append]
  gi_wp2
  go_ret
  exact ⟨rfl, rfl⟩
attribute [local go_sem] max2_int min2_int max_two min_two
set_option maxHeartbeats 2000000 in
theorem Min_two (b : Nat) (x y : Int) (w : World) (hx : w.cell? ⟨b, 0, none⟩ = some (.int .i64 x)) (hy : w.cell? ⟨b, 1, none⟩ = some (.int .i64 y)) :
    Calls Tryz.prog 158 #[.slice (some ⟨b, 0, none⟩) 2 2] w fun e w' => e = .returned (.int .i64 (min x y)) ∧ w' = w := by
  go_enter Tryz.func158, Tryz.ntmps158
  go_wp2
  refine wp_loop_rounds 2 ?_
  rw [rounds_succ]
  go_wp2
  all_goals (
    rw [rounds_succ]
    go_wp2
    go_ret
    refine ⟨?_, rfl⟩
    first
    | (rw [show min x y = y by omega]; rfl)
    | (rw [show min x y = x by omega]; rfl))
set_option maxHeartbeats 2000000 in
theorem minimum_two (b : Nat) (x y : Int) (w : World) (hx : w.cell? ⟨b, 0, none⟩ = some (.int .i64 x)) (hy : w.cell? ⟨b, 1, none⟩ = some (.int .i64 y)) :
    Calls Tryz.prog 134 #[.slice (some ⟨b, 0, none⟩) 2 2] w fun e w' => e = .returned (.int .i64 (min x y)) ∧ w' = w := by
  have HC := Aside0.mk (Min_two b x y w hx hy)
  clear hx hy
  go_enter Tryz.func134, Tryz.ntmps134
  go_wp2_with fail
  refine HC.out.mono ?_
  rintro e w' ⟨rfl, rfl⟩
  go_wp2
  go_ret
  exact ⟨rfl, rfl⟩
end Go.Proofs.YtekdacalkllipaaGreat.PR
end
section
namespace Go.Proofs.YtekdacalkllipaaGreat.PR
open Go.RowKit Go.Shelf Go.Proofs.YtekdacalkllipaaGreatW.PrintWords Go.Proofs.YtekdacalkllipaaGreatW.PrintLast Go.Proofs.YtekdacalkllipaaGreatW.PrintMore
set_option linter.unusedVariables false
set_option linter.unusedSimpArgs false
set_option maxRecDepth 10000 in
theorem lits_spot (s : Std) (h : s.ok) (watch : Int) (h0 : 0 ≤ watch) (h1 : watch ≤ 5) (d : Nat) : Tryz.prog.keyLits (d + 4) 146 (s.spot watch).toList = some (.int .i64 watch :: s.lits) := by
  have hc : Tryz.prog.cellsOf 146 = 9 := by kernel_rfl
  have hi : Tryz.prog.cellsOf 3 = 1 := by kernel_rfl
  have hs : Tryz.prog.cellsOf 143 = 8 := by kernel_rfl
  have k0 := keys_int watch (wf_small (by omega) (by omega)) (d + 2)
  have k1 := lits_std s h d
  simp only [Std.vals, Std.lits] at k1
  unfold Program.keyLits
  simp [Tryz.underlying146, hc, hi, hs, Std.spot, Std.lits, k0]
  first | simp [k1] | exact k1
def spotKey (watch : Int) (s : Std) : Lit := .string (keyBytes (.int .i64 watch :: s.lits))
theorem key_spot (s : Std) (h : s.ok) (watch : Int) (h0 : 0 ≤ watch) (h1 : watch ≤ 5) : keyOf Tryz.prog 146 (.agg (s.spot watch)) = some (spotKey watch s) := by
  have hk : Tryz.prog.keyType 146 = true := by kernel_rfl
  have hf : (Value.agg (s.spot watch)).formed Tryz.prog 146 = true := by kernel_rfl
  obtain ⟨d, hd⟩ : ∃ d, Tryz.prog.types.size + 1 = d + 4 := ⟨Tryz.prog.types.size + 1 - 4, by have : 4 ≤ Tryz.prog.types.size + 1 := of_decide_eq_true (by kernel_rfl); omega⟩
  have hl := lits_spot s h watch h0 h1 d
  unfold keyOf
  rw [hd]
  simp only [Tryz.underlying146, hk, hf, Bool.and_self, if_true]
  show Option.map _ (Tryz.prog.keyLits (d + 4) 146 (s.spot watch).toList) = _
  rw [hl]; rfl
theorem spotKey_inj {s s' : Std} {watch watch' : Int} (h : s.ok) (h' : s'.ok) (h0 : 0 ≤ watch) (h1 : watch ≤ 5) (h0' : 0 ≤ watch') (h1' : watch' ≤ 5) (e : spotKey watch s = spotKey watch' s') : watch = watch' ∧ s = s' := by
  unfold spotKey at e
  injection e with e
  have hl := keyLits_inj (lits_spot s h watch h0 h1 1) (lits_spot s' h' watch' h0' h1' 1) e
  simp only [Std.lits, List.cons.injEq, Lit.int.injEq, true_and, and_true] at hl
  obtain ⟨e0, e1, e2, e3, e4, e5, e6, e7, e8⟩ := hl
  refine ⟨e0, ?_⟩
  cases s; cases s'
  simp_all
end Go.Proofs.YtekdacalkllipaaGreat.PR
end
section
namespace Go.Proofs.YtekdacalkllipaaGreat.PR
open Go.RowKit Go.Shelf Go.Maps Go.Proofs.YtekdacalkllipaaGreatW.PrintWords Go.Proofs.YtekdacalkllipaaGreatW.PrintLast Go.Proofs.YtekdacalkllipaaGreatW.PrintMore
set_option linter.unusedVariables false
set_option linter.unusedSimpArgs false
def Wk.few (k : Wk) : Nat → Int → Std → Int
  | 0, _, _ => 0
  | f + 1, watch, s => ((List.range k.lists.length).filter (k.can watch s)).foldl (fun (n : Int) (i : Nat) => min n ((rd_L1 k.lists i).length + k.few f (watch + 1) (afterS k.people watch (rd_L1 k.lists i) s).1)) 1024
theorem foldl_min_bd (g : Nat → Int) (hg : ∀ i, 0 ≤ g i) : ∀ (l : List Nat) (n : Int), 0 ≤ n → 0 ≤ l.foldl (fun n i => min n (g i)) n ∧ l.foldl (fun n i => min n (g i)) n ≤ n
  | [], n, h => ⟨h, Int.le_refl _⟩
  | i :: l, n, h => by
    have h2 := foldl_min_bd g hg l (min n (g i)) (by have := hg i; omega)
    simp only [List.foldl_cons]
    exact ⟨h2.1, by have := h2.2; omega⟩
theorem Wk.few_bd (k : Wk) : ∀ (f : Nat) (watch : Int) (s : Std), 0 ≤ k.few f watch s ∧ k.few f watch s ≤ 1024
  | 0, _, _ => ⟨by simp [Wk.few], by simp [Wk.few]⟩
  | f + 1, watch, s => by
    unfold Wk.few
    exact foldl_min_bd _ (fun i => by have := (k.few_bd f (watch + 1) (afterS k.people watch (rd_L1 k.lists i) s).1).1; omega) _ 1024 (by omega)
def cost : Nat → Nat
  | 0 => 0
  | f + 1 => 1 + 16 * cost f
def Wk.MapAt (k : Wk) (w : World) (n : Nat) : Prop :=
  ∃ D : DataW Unit, w.ownsMap Tryz.prog 146 (plainElem Tryz.prog 3) k.mb n D ∧
    ∀ (watch : Int) (s : Std), s.ok → 0 ≤ watch → watch ≤ 5 → has D (spotKey watch s) = true → D.atKey (spotKey watch s) (.lit (.int .i64 0)) = .lit (.int .i64 (k.few (k.need.length - watch.toNat) watch s))
end Go.Proofs.YtekdacalkllipaaGreat.PR
end
section
namespace Go.Proofs.YtekdacalkllipaaGreat.PR
open Go.RowKit Go.Shelf Go.Maps Go.Proofs.YtekdacalkllipaaGreatW.PrintWords Go.Proofs.YtekdacalkllipaaGreatW.PrintLast Go.Proofs.YtekdacalkllipaaGreatW.PrintMore
set_option linter.unusedVariables false
set_option linter.unusedSimpArgs false
attribute [local go_sem] Oper.semAt_some
attribute [local simp] wide_fn
theorem Wk.MapAt.block {k : Wk} {w w' : World} {n : Nat} (h : k.MapAt w n) (hb : w'.heap[k.mb]? = w.heap[k.mb]?) : k.MapAt w' n := by
  obtain ⟨D, ⟨es, clock, h1, h2⟩, h3⟩ := h
  exact ⟨D, ⟨es, clock, hb.trans h1, h2⟩, h3⟩
theorem Wk.MapAt.more {k : Wk} {w : World} {n n' : Nat} (h : k.MapAt w n) (hn : n ≤ n') : k.MapAt w n' := by
  obtain ⟨D, ⟨es, clock, h1, h2, h3, h4⟩, h5⟩ := h
  exact ⟨D, ⟨es, clock, h1, h2, Nat.le_trans h3 hn, h4⟩, h5⟩
theorem Wk.MapAt.nocells {k : Wk} {w : World} {n : Nat} (h : k.MapAt w n) : ∀ o, w.heap[k.mb]? = some o → o.isCells = false := by
  obtain ⟨D, ⟨es, clock, h1, _⟩, _⟩ := h
  intro o ho
  rw [h1] at ho
  cases ho
  rfl
theorem grown_any {w w' : World} (h : w.grownBy w' none) (row : Option Nat) : w.grownBy w' row := ⟨h.os, h.tape, h.output, h.size, fun i hi _ => h.block i hi (by simp)⟩
def Few (k : Wk) (w0 : World) (f : Nat) : Prop :=
  ∀ (watch : Int) (s : Std) (w : World) (n : Nat), 0 ≤ watch → watch + f = k.need.length → s.ok → KeepM w0.heap.size k.mb w0 w → k.MapAt w n → n + cost f < maxLen →
    Calls Tryz.prog 85 #[.pointer (some ⟨k.K, 0, none⟩), .agg (s.spot watch)] w fun e w' => e = .returned (.int .i64 (k.few f watch s)) ∧ w.grownBy w' (some k.mb) ∧ k.MapAt w' (n + cost f)
set_option maxRecDepth 100000 in
set_option maxHeartbeats 4000000 in
theorem few_zero (k : Wk) (w0 : World) (hin : k.In w0) (hm : ∀ o, w0.heap[k.mb]? = some o → o.isCells = false) (hml : k.mb < w0.heap.size) : Few k w0 0 := by
  intro watch s w n hw0 hwf hs hk hmap hn
  have hwz : watch = k.need.length := by omega
  subst hwz
  have hinw := hin.keep hm hk
  have hmw : k.mb < w.heap.size := Nat.lt_of_lt_of_le hml hk.size
  have k0 : ((w.alloc (.cells #[.pointer (some ⟨k.K, 0, none⟩)] 137)).alloc (.cells (s.spot k.need.length) 146)).heap[k.K]? = some (.cells k.vals 190 (0, 0)) := blk_alloc (blk_alloc hinw.hK _) _
  have q0 : ((w.alloc (.cells #[.pointer (some ⟨k.K, 0, none⟩)] 137)).alloc (.cells (s.spot k.need.length) 146)).cell? ⟨k.K, 0, none⟩ = some (.slice k.A0 k.need.length k.c0) := (blk_cell k0 0).trans rfl
  have HM := Aside0.mk hmap
  simp only [Std.spot] at q0 ⊢
  clear hin hm hk hmap hn hs hinw k0 hwf
  refine (callsIn_wide (n := 0)).1 ?_
  refine callsIn_of_wp_marks Tryz.func85 rfl trivial ?_ rfl
  simp only [Tryz.ntmps85, List.size_toArray, List.length_cons, List.length_nil, Nat.reduceAdd, Nat.reduceSub, Array.replicate_succ, Array.replicate_zero, List.push_toArray, List.append_toArray, List.nil_append, List.cons_append]
  gi_wp2
  gi_big_quiet_th (fail)
  gi_wp2
  have hg : w.grownBy (((w.alloc (.cells #[.pointer (some ⟨k.K, 0, none⟩)] 137)).alloc (.cells #[.int .i64 (k.need.length : Int), .int .i64 s.a0, .int .i64 s.b0, .int .i64 s.a1, .int .i64 s.b1, .int .i64 s.a2, .int .i64 s.b2, .int .i64 s.a3, .int .i64 s.b3] 146)).drewN nq) none := grown_trans (World.grownBy_alloc _ _ _) (grown_trans (World.grownBy_alloc _ _ _) (grown_drewN _ _))
  refine ⟨.int .i64 0, ?_, rfl, grown_any hg _, (HM.out.block (hg.block k.mb hmw (by simp))).more (by simp [cost])⟩
  simp [results, Tryz.f85, go_sem]
end Go.Proofs.YtekdacalkllipaaGreat.PR
end
section
namespace Go.Proofs.YtekdacalkllipaaGreat.PR
open Go.RowKit Go.Shelf Go.Maps Go.Proofs.YtekdacalkllipaaGreatW.PrintWords Go.Proofs.YtekdacalkllipaaGreatW.PrintLast Go.Proofs.YtekdacalkllipaaGreatW.PrintMore
set_option linter.unusedVariables false
set_option linter.unusedSimpArgs false
theorem region_mk_round {F : Fence} {n : Nat} {P : Program} {id : Nat} {O : List Oper} {Q : Exit → Act → World → Prop} {w : World} {l : Nat} (hro : F.round = none) (hm : P.follows .mixedOrders = true) (hnd : noDefer O = true) (mk : (Nat → Value) → Act) (J : (Nat → Bool) → (Nat → Value) → World → Prop) (X : Nat → Value → Prop) (s0 : Nat → Value)
    (hb : backB .any O.toArray = true) (hJ : J (fun _ => false) s0 w.drew)
    (hstep : ∀ i, i < O.toArray.size → StepOk F n P .any O.toArray Q mk J X i)
    (hdone : ∀ L s w, (∀ i, i < O.toArray.size → L i = true) → J L s w → (∀ i, i < O.toArray.size → X i (s i)) → Q .normal (mk s) w) : (Code.region id O.toArray true).wpIn (F.inRound l) n P Q (mk s0) w := by
  have h0 : isOn (Array.replicate O.toArray.size false) = fun _ => false := by
    funext j
    simp only [isOn, Array.getD_eq_getD_getElem?, Array.getElem?_replicate]
    split <;> rfl
  refine wpIn_region_any hm (any_inRound l hro (noDefer_spec hnd) _ _ _ _ (any_mk mk J X (back_of hb) hstep hdone _ _ _ _ (by simp) ?_ (by rw [h0]; exact hJ) (fun j hj => ?_) (fun j o ho hj => ?_)))
  · exact Nat.le_trans (List.length_filter_le _ _) (by simp)
  · rw [h0] at hj; cases hj
  · rw [h0] at hj; cases hj
theorem wf_big {n : Int} (h1 : 0 ≤ n) (h2 : n ≤ 1024) : (Lit.int .i64 n).wf = true := by
  have e1 : IntKind.i64.min = -9223372036854775808 := by kernel_rfl
  have e2 : IntKind.i64.max = 9223372036854775807 := by kernel_rfl
  simp only [Lit.wf, e1, e2, Bool.and_eq_true, decide_eq_true_eq]
  omega
theorem spot_keyed : Keyed Tryz.prog 146 := Keyed.of_law (deep_law_laid (by kernel_rfl) (m := 5) (by omega) (of_decide_eq_true (by kernel_rfl)) (by kernel_rfl) (by kernel_rfl))
theorem zero_int (w : World) : (zeroValue 3).run Tryz.prog w = .ok (.int .i64 0) w := by kernel_rfl
theorem lit_inj {H : Type} {a b : Int} (h : (DataW.lit (.int .i64 a) : DataW H) = .lit (.int .i64 b)) : a = b := by cases h; rfl
theorem Wk.MapAt.look {k : Wk} {w : World} {n : Nat} (h : k.MapAt w n) {watch : Int} {s : Std} {f : Nat} (hs : s.ok) (h0 : 0 ≤ watch) (h1 : watch ≤ 5) (hf : watch + f = k.need.length) :
    ∃ (c : Int) (hh : Bool), (hh = true → c = k.few f watch s) ∧ ∀ w' : World, w'.heap[k.mb]? = w.heap[k.mb]? → (Instr.lookup 188 (.map (some k.mb)) (.agg (s.spot watch)) true).run Tryz.prog w' = .ok (.tuple #[.int .i64 c, .bool hh]) w' := by
  obtain ⟨D, hown, hD⟩ := h
  have hkey := key_spot s hs watch h0 h1
  have hz0 : plainElem (H := Unit) Tryz.prog 3 (.int .i64 0) = some (.lit (.int .i64 0), []) := plainElem_int Tryz.underlying3 (by decide)
  have hall : ∀ w' : World, w'.heap[k.mb]? = w.heap[k.mb]? → ∃ c : Int, (Instr.lookup 188 (.map (some k.mb)) (.agg (s.spot watch)) true).run Tryz.prog w' = .ok (.tuple #[.int .i64 c, .bool (has D (spotKey watch s))]) w' ∧ D.atKey (spotKey watch s) (.lit (.int .i64 0)) = .lit (.int .i64 c) := by
    intro w' hb
    have hown' : w'.ownsMap Tryz.prog 146 (plainElem Tryz.prog 3) k.mb n D := by
      obtain ⟨es, clock, e1, e2⟩ := hown
      exact ⟨es, clock, hb.trans e1, e2⟩
    obtain ⟨v, ps, hrun, hv⟩ := hown'.look_ok (t := 188) spot_keyed Tryz.underlying188 (zero_int w') hz0 hkey
    obtain ⟨c, rfl, hc, _⟩ := plainElem_int_inv Tryz.underlying3 hv
    exact ⟨c, hrun, congrArg Prod.fst hc⟩
  obtain ⟨c, _, hc⟩ := hall w rfl
  refine ⟨c, has D (spotKey watch s), fun hh => ?_, fun w' hb => ?_⟩
  · have := hD watch s hs h0 h1 hh
    rw [hc] at this
    rw [show k.need.length - watch.toNat = f by omega] at this
    exact lit_inj this
  · obtain ⟨c', hr, hc'⟩ := hall w' hb
    rw [hc] at hc'
    rw [lit_inj hc']; exact hr
theorem Wk.MapAt.store {k : Wk} {w : World} {n : Nat} (h : k.MapAt w n) (hn : n < maxLen) {watch : Int} {s : Std} {f : Nat} (hs : s.ok) (h0 : 0 ≤ watch) (h1 : watch ≤ 5) (hf : watch + f = k.need.length) :
    ∃ w', (Instr.mapUpdate 188 (.map (some k.mb)) (.agg (s.spot watch)) (.int .i64 (k.few f watch s))).run Tryz.prog w = .ok () w' ∧ k.MapAt w' (n + 1) ∧ w.grownBy w' (some k.mb) := by
  obtain ⟨D, hown, hD⟩ := h
  have hkey := key_spot s hs watch h0 h1
  have hbd := k.few_bd f watch s
  have hv : plainElem (H := Unit) Tryz.prog 3 (.int .i64 (k.few f watch s)) = some (.lit (.int .i64 (k.few f watch s)), []) := plainElem_int Tryz.underlying3 (wf_big hbd.1 hbd.2)
  obtain ⟨w', hrun, hown', hg⟩ := hown.update (t := 188) spot_keyed Tryz.underlying188 hn hkey hv
  have hM : IsMap D := by
    obtain ⟨es, clock, _, _, _, rfl⟩ := hown
    exact ⟨_, rfl⟩
  refine ⟨w', hrun, ⟨_, hown', fun watch' s' hs' h0' h1' hh => ?_⟩, hg⟩
  by_cases e : spotKey watch' s' = spotKey watch s
  · rw [e, atKey_put_same hM (show WideAt.IsKeyLit (spotKey watch s) from trivial)]
    obtain ⟨rfl, rfl⟩ := spotKey_inj hs' hs h0' h1' h0 h1 e
    rw [show k.need.length - watch'.toNat = f by omega]
  · rw [has_put_other e] at hh
    rw [atKey_put_other e]
    exact hD watch' s' hs' h0' h1' hh
end Go.Proofs.YtekdacalkllipaaGreat.PR
end
section
namespace Go.Proofs.YtekdacalkllipaaGreat.PR
open Go.RowKit Go.Shelf Go.Maps Go.Proofs.YtekdacalkllipaaGreatW.PrintWords Go.Proofs.YtekdacalkllipaaGreatW.PrintLast Go.Proofs.YtekdacalkllipaaGreatW.PrintMore
set_option linter.unusedVariables false
set_option linter.unusedSimpArgs false
attribute [local go_sem] Oper.semAt_some
attribute [local simp] wide_fn
theorem next_stops (F : Fence) (n : Nat) (hF : F = Fence.wide) (hn : 3 ≤ n) (B1 B2 : Nat) (k : Wk) (w0 : World) (hin : k.In w0) (hok : k.Ok) (hmb : ∀ o, w0.heap[k.mb]? = some o → o.isCells = false)
    (watch : Int) (s : Std) (hs : s.ok) (hw0 : 0 ≤ watch) (hw1 : watch < k.need.length) (hb1 : w0.heap.size ≤ B1) (hb2 : w0.heap.size ≤ B2) (w : World) (hw : KeepM w0.heap.size k.mb w0 w)
    (hB1 : w.heap[B1]? = some (.cells #[.pointer (some ⟨k.K, 0, none⟩)] 137 (0, 0))) (hB2 : w.heap[B2]? = some (.cells (s.spot watch) 146 (0, 0))) :
    SeqStopsK F n Tryz.prog 146 #[.pointer (some ⟨B1, 0, none⟩), .pointer (some ⟨B2, 0, none⟩)] (fun x : k.X w0 watch s => #[x.1.2, .agg ((afterS k.people watch (rd_L1 k.lists x.1.1) s).1.spot (watch + 1))]) (Keep2 w0.heap.size k.mb B1 B2)
      (fun xs => xs.map (·.1.1) = (List.range k.lists.length).filter (k.can watch s)) (fun pre => ∃ m, m ≤ k.lists.length ∧ pre.map (·.1.1) = (List.range m).filter (k.can watch s)) k.lists.length w := fun l J Jx W hW hJ _ hY h0 =>
  next1_in F n hF hn l B1 B2 k w0 hin hok hmb watch s hs hw0 hw1 hb1 hb2 J Jx (fun pre A B hj hg => hJ pre A B none hj hg (fun r e => by cases e)) hY W (hw.trans (KeepM.below (hW.mono hw.size)))
    ((hW.block B1 (blk_lt hB1)).trans hB1) ((hW.block B2 (blk_lt hB2)).trans hB2) h0
theorem Keep2.b {n mb B1 B2 : Nat} {w : World} (hn : n ≤ w.heap.size) (h1 : B1 < w.heap.size) (h2 : B2 < w.heap.size) (W : World) (l : Nat) (o o' : Obj) (hl : w.heap.size ≤ l) (h : W.heap[l]? = some o) (_ : o.isCells = false) (_ : o.isWalk = false) : Keep2 n mb B1 B2 W (W.putObj l o') :=
  ⟨KeepM.put (Nat.le_trans hn (Nat.le_trans hl (Nat.le_of_lt (blk_lt h)))) (Nat.le_trans hn hl) o', World.putObj_heap_other (by omega), World.putObj_heap_other (by omega)⟩
theorem blk_ownS {β : Type} (B b : Nat) (cs : β → Array Value) (t : TypeId) : OwnFrom B (fun (x : β) W => W.heap[b]? = some (.cells (cs x) t (0, 0))) := fun s X Y row hs hg hr =>
  (hg.block b (Array.getElem?_eq_some_iff.1 hs).1 (fun e => by
    obtain ⟨_, o, ho, hc⟩ := hr b e.symm
    rw [show X.heap[b]? = _ from hs] at ho; cases ho; cases hc)).trans hs
theorem Wk.MapAt.grown {k : Wk} {w w' : World} {n : Nat} {row : Option Nat} (h : k.MapAt w n) (hg : w.grownBy w' row) (hr : ∀ r, row = some r → r ≠ k.mb) : k.MapAt w' n := by
  have hl : k.mb < w.heap.size := by
    obtain ⟨D, ⟨es, clock, h1, _⟩, _⟩ := h
    exact blk_lt h1
  exact h.block (hg.block k.mb hl (fun e => hr k.mb e.symm rfl))
theorem map_own {β : Type} {B : Nat} (k : Wk) (hB : k.mb < B) (g : β → Nat) : OwnFrom B (fun (x : β) W => k.MapAt W (g x)) := fun s X Y row hs hg hr =>
  hs.grown hg (fun r e => by have := (hr r e).1; omega)
theorem keepM_own {β : Type} {n mb B : Nat} {w : World} (hn : n ≤ B) (hw : n ≤ w.heap.size) : OwnFrom B (fun (_ : β) W => KeepM n mb w W) := fun s X Y row hs hg hr =>
  hs.trans (KeepM.grown hg (Nat.le_trans hw hs.size) (fun r e => .inr (Nat.le_trans hn (hr r e).1)))
theorem size_own {β : Type} (B n : Nat) : OwnFrom B (fun (_ : β) W => n ≤ W.heap.size) := fun s X Y row hs hg hr => Nat.le_trans hs hg.size
theorem KeepM.to_grown {mb : Nat} {W W' : World} (h : KeepM W.heap.size mb W W') : W.grownBy W' (some mb) := ⟨h.os, h.tape, h.output, h.size, fun k hk hne => h.block k hk (fun e => hne (by rw [e]))⟩
def Wk.acc (k : Wk) (f : Nat) (watch : Int) (s : Std) (l : List Nat) : Int := l.foldl (fun (n : Int) (i : Nat) => min n ((rd_L1 k.lists i).length + k.few f (watch + 1) (afterS k.people watch (rd_L1 k.lists i) s).1)) 1024
theorem Wk.acc_snoc (k : Wk) (f : Nat) (watch : Int) (s : Std) (l : List Nat) (i : Nat) : k.acc f watch s (l ++ [i]) = min (k.acc f watch s l) ((rd_L1 k.lists i).length + k.few f (watch + 1) (afterS k.people watch (rd_L1 k.lists i) s).1) := by
  simp [Wk.acc, List.foldl_append]
theorem Wk.acc_bd (k : Wk) (f : Nat) (watch : Int) (s : Std) (l : List Nat) : 0 ≤ k.acc f watch s l ∧ k.acc f watch s l ≤ 1024 :=
  foldl_min_bd _ (fun i => by have := (k.few_bd f (watch + 1) (afterS k.people watch (rd_L1 k.lists i) s).1).1; omega) l 1024 (by omega)
set_option maxRecDepth 100000 in
set_option maxHeartbeats 4000000 in
theorem few_succ (k : Wk) (w0 : World) (hin : k.In w0) (hok : k.Ok) (hm : ∀ o, w0.heap[k.mb]? = some o → o.isCells = false) (hml : k.mb < w0.heap.size) (hlen : ∀ on ∈ k.lists, on.length ≤ 4) (f : Nat) (ih : Few k w0 f) : Few k w0 (f + 1) := by
  intro watch s w n hw0 hwf hs hk hmap hn
  have hn1 := hok.n1
  have hlt : watch < k.need.length := by omega
  have hinw := hin.keep hm hk
  have hmw : k.mb < w.heap.size := Nat.lt_of_lt_of_le hml hk.size
  obtain ⟨P, hP⟩ : ∃ P, P = w.heap.size := ⟨_, rfl⟩
  obtain ⟨wA, hwA⟩ : ∃ wA, wA = (w.alloc (.cells #[.pointer (some ⟨k.K, 0, none⟩)] 137)).alloc (.cells (s.spot watch) 146) := ⟨_, rfl⟩
  have hgA : w.grownBy wA none := by rw [hwA]; exact grown_trans (World.grownBy_alloc _ _ _) (World.grownBy_alloc _ _ _)
  have hA0 : wA.heap[P]? = some (.cells #[.pointer (some ⟨k.K, 0, none⟩)] 137 (0, 0)) := by rw [hwA, hP]; exact blk_alloc (blk_new w _) _
  have hA1 : wA.heap[P + 1]? = some (.cells (s.spot watch) 146 (0, 0)) := by rw [hwA, hP]; have := blk_new (w.alloc (.cells #[.pointer (some ⟨k.K, 0, none⟩)] 137)) (.cells (s.spot watch) 146); rwa [World.size_alloc] at this
  have hKA : wA.heap[k.K]? = some (.cells k.vals 190 (0, 0)) := blk_grown hinw.hK hgA (by simp)
  have hmA : wA.heap[k.mb]? = w.heap[k.mb]? := hgA.block k.mb hmw (by simp)
  obtain ⟨c, hh, hch, hlook⟩ := (hmap.block (w' := wA) hmA).look (f := f + 1) hs hw0 (by omega) (by omega)
  have q0 : wA.cell? ⟨k.K, 0, none⟩ = some (.slice k.A0 k.need.length k.c0) := (blk_cell hKA 0).trans rfl
  have q1 : wA.cell? ⟨P, 0, none⟩ = some (.pointer (some ⟨k.K, 0, none⟩)) := (blk_cell hA0 0).trans rfl
  have q2 : wA.cell? ⟨P + 1, 0, none⟩ = some (.int .i64 watch) := (blk_cell hA1 0).trans rfl
  have HM := Aside0.mk hmap
  have HLE := Aside0.mk hlen
  have HIN := Aside0.mk hin
  have HOK := Aside0.mk hok
  have HMB := Aside0.mk hm
  have HML := Aside0.mk hml
  have HIH := Aside0.mk ih
  have HS := Aside0.mk hs
  have HK := Aside0.mk hk
  have HGA := Aside0.mk hgA
  have HA0 := Aside0.mk hA0
  have HA1 := Aside0.mk hA1
  have HKA := Aside0.mk hKA
  have HMA := Aside0.mk hmA
  have HCH := Aside0.mk hch
  have HLOOK := Aside0.mk hlook
  have HWF := Aside0.mk hwf
  have HN := Aside0.mk hn
  have hb : (watch == (k.need.length : Int)) = false := by rw [beq_eq_false_iff_ne]; omega
  clear hin hok hm hml ih hs hk hgA hA0 hA1 hKA hmA hch hlook hwf hn hmap hinw hlen
  refine (callsIn_wide (n := 10)).1 ?_
  refine callsIn_of_wp_marks Tryz.func85 rfl trivial ?_ rfl
  simp only [Tryz.ntmps85, List.size_toArray, List.length_cons, List.length_nil, Nat.reduceAdd, Nat.reduceSub, Array.replicate_succ, Array.replicate_zero, List.push_toArray, List.append_toArray, List.nil_append, List.cons_append]
  gi_wp2
  rw [← hwA]
  rw [← hP]
  have HPP := Aside0.mk hP
  clear hwA hP
  gi_big_quiet_th (fail)
  gi_wp2
  obtain ⟨wB, hwB⟩ : ∃ wB, wB = wA.drewN nq := ⟨_, rfl⟩
  have hgB : w.grownBy wB none := by rw [hwB]; exact grown_trans HGA.out (grown_drewN _ _)
  have HB0 : Aside0 (wB.heap[P]? = some (.cells #[.pointer (some ⟨k.K, 0, none⟩)] 137 (0, 0))) := ⟨by rw [hwB]; exact HA0.out⟩
  have HB1 : Aside0 (wB.heap[P + 1]? = some (.cells (s.spot watch) 146 (0, 0))) := ⟨by rw [hwB]; exact HA1.out⟩
  have HKB : Aside0 (wB.heap[k.K]? = some (.cells k.vals 190 (0, 0))) := ⟨by rw [hwB]; exact HKA.out⟩
  have HMBA : Aside0 (wB.heap[k.mb]? = w.heap[k.mb]?) := ⟨by rw [hwB]; exact HMA.out⟩
  have HMBB : Aside0 (k.mb < wB.heap.size) := ⟨Nat.lt_of_lt_of_le hmw hgB.size⟩
  replace HLOOK : Aside0 (∀ w' : World, w'.heap[k.mb]? = wB.heap[k.mb]? → (Instr.lookup 188 (.map (some k.mb)) (.agg (s.spot watch)) true).run Tryz.prog w' = .ok (.tuple #[.int .i64 c, .bool hh]) w') := ⟨fun w' h => HLOOK.out w' (h.trans (by rw [hwB]; rfl))⟩
  have HGB := Aside0.mk hgB
  rw [← hwB]
  clear hwB hgB q0 q1 q2 hb
  refine region_mk (by kernel_rfl) (fun t => { tmps := #[.pointer (some ⟨k.K, 0, none⟩), .agg (s.spot watch), .pointer (some ⟨P, 0, none⟩), .pointer (some ⟨P + 1, 0, none⟩), .int .i64 0, t 9, t 11, undef, undef, .pointer (some ⟨P + 1, 0, none⟩), .int .i64 watch, .pointer (some ⟨k.K, 0, none⟩), .pointer (some ⟨k.K, 0, none⟩), .pointer (some ⟨k.K, 0, none⟩), .pointer (some ⟨k.K, 0, none⟩), .slice k.A0 k.need.length k.c0, .int .i64 (k.need.length : Int), .bool false, t 6, t 0, t 1, t 2, t 3, t 4, t 5, t 7, t 8, undef, undef, undef, undef, undef, undef, undef, undef, undef, undef, undef, undef, undef, undef, undef, undef, undef, undef, undef, undef, undef, undef, undef], defers := [] })
    (fun L t w => Below wB.heap.size wB w ∧ (L 10 = true → L 9 = true) ∧ (L 9 = true → ∃ B5, t 9 = .pointer (some ⟨B5, 0, none⟩) ∧ wB.heap.size ≤ B5 ∧ w.heap[B5]? = some (.cells #[.int .i64 (if L 10 = true then c else 0)] 3 (0, 0))))
    (fun i v => match i with | 0 => v = .pointer (some ⟨k.K, 0, none⟩) | 1 => v = .pointer (some ⟨k.K, 0, none⟩) | 2 => v = .pointer (some ⟨k.K, 4, none⟩) | 3 => v = .map (some k.mb) | 4 => v = .agg (s.spot watch) | 5 => v = .tuple #[.int .i64 c, .bool hh] | 6 => v = .tuple #[.int .i64 c, .bool hh] | 7 => v = .int .i64 c | 8 => v = .bool hh | 11 => v = .bool hh | _ => True)
    (fun j => undef) (by kernel_rfl) ⟨pw_below_drewN (Below.refl _ _) 1, by simp, by simp⟩ ?step ?done
  case step =>
    intro i hi
    have hi' : i < 12 := hi
    match i, hi' with
    | 0, _ =>
      intro L t w hL hJ hX hdep hcl
      have q1' : w.cell? ⟨P, 0, none⟩ = some (.pointer (some ⟨k.K, 0, none⟩)) := (blk_cell (blk_below HB0.out hJ.1) 0).trans rfl
      refine wpOpIn_step rfl (fun K hK => ?_)
      dsimp only
      go_simp
      refine hK _ _ ⟨.pointer (some ⟨k.K, 0, none⟩), ?_, rfl, hJ⟩
      simp [upd]
    | 1, _ =>
      intro L t w hL hJ hX hdep hcl
      have x0 : t 0 = .pointer (some ⟨k.K, 0, none⟩) := hX 0 (hdep _ rfl ⟨0, .data⟩ (by simp) rfl)
      refine wpOpIn_step rfl (fun K hK => ?_)
      dsimp only
      simp only [x0]
      go_simp
      refine hK _ _ ⟨.pointer (some ⟨k.K, 0, none⟩), ?_, rfl, hJ⟩
      simp [upd, x0]
    | 2, _ =>
      intro L t w hL hJ hX hdep hcl
      have x1 : t 1 = .pointer (some ⟨k.K, 0, none⟩) := hX 1 (hdep _ rfl ⟨1, .data⟩ (by simp) rfl)
      refine wpOpIn_step rfl (fun K hK => ?_)
      dsimp only
      simp only [x1]
      go_simp
      refine hK _ _ ⟨.pointer (some ⟨k.K, 4, none⟩), ?_, rfl, hJ⟩
      simp [upd, x1]
    | 3, _ =>
      intro L t w hL hJ hX hdep hcl
      have x2 : t 2 = .pointer (some ⟨k.K, 4, none⟩) := hX 2 (hdep _ rfl ⟨2, .data⟩ (by simp) rfl)
      have q1' : w.cell? ⟨k.K, 4, none⟩ = some (.map (some k.mb)) := (blk_cell (blk_below HKB.out hJ.1) 4).trans rfl
      refine wpOpIn_step rfl (fun K hK => ?_)
      dsimp only
      simp only [x2]
      go_simp
      refine hK _ _ ⟨.map (some k.mb), ?_, rfl, hJ⟩
      simp [upd, x2]
    | 4, _ =>
      intro L t w hL hJ hX hdep hcl
      have y0 : w.cell? ⟨P + 1, 0, none⟩ = some (.int .i64 watch) := (blk_cell (blk_below HB1.out hJ.1) 0).trans rfl
      have y1 : w.cell? ⟨P + 1, 1, none⟩ = some (.int .i64 s.a0) := (blk_cell (blk_below HB1.out hJ.1) 1).trans rfl
      have y2 : w.cell? ⟨P + 1, 2, none⟩ = some (.int .i64 s.b0) := (blk_cell (blk_below HB1.out hJ.1) 2).trans rfl
      have y3 : w.cell? ⟨P + 1, 3, none⟩ = some (.int .i64 s.a1) := (blk_cell (blk_below HB1.out hJ.1) 3).trans rfl
      have y4 : w.cell? ⟨P + 1, 4, none⟩ = some (.int .i64 s.b1) := (blk_cell (blk_below HB1.out hJ.1) 4).trans rfl
      have y5 : w.cell? ⟨P + 1, 5, none⟩ = some (.int .i64 s.a2) := (blk_cell (blk_below HB1.out hJ.1) 5).trans rfl
      have y6 : w.cell? ⟨P + 1, 6, none⟩ = some (.int .i64 s.b2) := (blk_cell (blk_below HB1.out hJ.1) 6).trans rfl
      have y7 : w.cell? ⟨P + 1, 7, none⟩ = some (.int .i64 s.a3) := (blk_cell (blk_below HB1.out hJ.1) 7).trans rfl
      have y8 : w.cell? ⟨P + 1, 8, none⟩ = some (.int .i64 s.b3) := (blk_cell (blk_below HB1.out hJ.1) 8).trans rfl
      refine wpOpIn_step rfl (fun K hK => ?_)
      dsimp only
      go_simp
      refine hK _ _ ⟨.agg (s.spot watch), ?_, rfl, hJ⟩
      simp [upd, Std.spot]
    | 5, _ =>
      intro L t w hL hJ hX hdep hcl
      have x3 : t 3 = .map (some k.mb) := hX 3 (hdep _ rfl ⟨3, .data⟩ (by simp) rfl)
      have x4 : t 4 = .agg (s.spot watch) := hX 4 (hdep _ rfl ⟨4, .data⟩ (by simp) rfl)
      have hr := HLOOK.out w (hJ.1.block k.mb HMBB.out)
      refine wpOpIn_step rfl (fun K hK => ?_)
      dsimp only
      simp only [x3, x4]
      go_simp
      refine hK _ _ ⟨.tuple #[.int .i64 c, .bool hh], ?_, rfl, hJ⟩
      simp [upd, x3, x4]
    | 6, _ =>
      intro L t w hL hJ hX hdep hcl
      have x5 : t 5 = .tuple #[.int .i64 c, .bool hh] := hX 5 (hdep _ rfl ⟨5, .data⟩ (by simp) rfl)
      refine wpOpIn_step rfl (fun K hK => ?_)
      dsimp only
      simp only [x5]
      go_simp
      refine hK _ _ ⟨.tuple #[.int .i64 c, .bool hh], ?_, rfl, hJ⟩
      simp [upd, x5]
    | 7, _ =>
      intro L t w hL hJ hX hdep hcl
      have x6 : t 6 = .tuple #[.int .i64 c, .bool hh] := hX 6 (hdep _ rfl ⟨6, .data⟩ (by simp) rfl)
      refine wpOpIn_step rfl (fun K hK => ?_)
      dsimp only
      simp only [x6]
      go_simp
      refine hK _ _ ⟨.int .i64 c, ?_, rfl, hJ⟩
      simp [upd, x6]
    | 8, _ =>
      intro L t w hL hJ hX hdep hcl
      have x6 : t 6 = .tuple #[.int .i64 c, .bool hh] := hX 6 (hdep _ rfl ⟨6, .data⟩ (by simp) rfl)
      refine wpOpIn_step rfl (fun K hK => ?_)
      dsimp only
      simp only [x6]
      go_simp
      refine hK _ _ ⟨.bool hh, ?_, rfl, hJ⟩
      simp [upd, x6]
    | 9, _ =>
      intro L t w hL hJ hX hdep hcl
      refine wpOpIn_step rfl (fun K hK => ?_)
      dsimp only
      go_simp
      refine hK _ _ ⟨.pointer (some ⟨w.heap.size, 0, none⟩), ?_, trivial, ?_⟩
      · simp [upd]
      · have hL10 : L 10 = false := by
          cases h : L 10 with
          | false => rfl
          | true => rw [hJ.2.1 h] at hL; cases hL
        refine ⟨below_alloc hJ.1 _, fun _ => rfl, fun _ => ⟨w.heap.size, rfl, hJ.1.size, ?_⟩⟩
        show _ = some (Obj.cells #[.int .i64 (if L 10 = true then _ else _)] _ _)
        rw [hL10]
        exact blk_new w _
    | 10, _ =>
      intro L t w hL hJ hX hdep hcl
      have x7 : t 7 = .int .i64 c := hX 7 (hdep _ rfl ⟨7, .data⟩ (by simp) rfl)
      have h9 := hdep _ rfl ⟨9, .data⟩ (by simp) rfl
      obtain ⟨B5, e1, e2, e3⟩ := hJ.2.2 h9
      rw [hL] at e3
      replace e3 : w.heap[B5]? = some (.cells #[.int .i64 0] 3 (0, 0)) := e3
      have z0 : w.cell? ⟨B5, 0, none⟩ = some (.int .i64 0) := (blk_cell e3 0).trans rfl
      have f0 : w.frozen? ⟨B5, 0, none⟩ = false := blk_frozen e3 0
      have E3 := Aside0.mk e3
      clear e3
      refine wpOpIn_step rfl (fun K hK => ?_)
      dsimp only
      simp only [x7, e1]
      go_simp
      refine hK _ (w.setCell ⟨B5, 0, none⟩ (.int .i64 c)) ⟨undef, ?_, trivial, ⟨below_set1 hJ.1 e2 0 _, fun _ => h9, fun _ => ⟨B5, e1, e2, blk_put E3.out 0 _ rfl⟩⟩⟩
      simp [upd, x7, e1]
    | 11, _ =>
      intro L t w hL hJ hX hdep hcl
      have x8 : t 8 = .bool hh := hX 8 (hdep _ rfl ⟨8, .data⟩ (by simp) rfl)
      refine wpOpIn_step rfl (fun K hK => ?_)
      dsimp only
      simp only [x8]
      go_simp
      refine hK _ _ ⟨.bool hh, ?_, rfl, hJ⟩
      simp [upd, x8]
    | j + 12, h => exact absurd h (by omega)
  case done =>
    intro L t w5 hL hJ hX
    have x0 : t 0 = .pointer (some ⟨k.K, 0, none⟩) := hX 0 (by decide)
    have x1 : t 1 = .pointer (some ⟨k.K, 0, none⟩) := hX 1 (by decide)
    have x2 : t 2 = .pointer (some ⟨k.K, 4, none⟩) := hX 2 (by decide)
    have x3 : t 3 = .map (some k.mb) := hX 3 (by decide)
    have x4 : t 4 = .agg (s.spot watch) := hX 4 (by decide)
    have x5 : t 5 = .tuple #[.int .i64 c, .bool hh] := hX 5 (by decide)
    have x6 : t 6 = .tuple #[.int .i64 c, .bool hh] := hX 6 (by decide)
    have x7 : t 7 = .int .i64 c := hX 7 (by decide)
    have x8 : t 8 = .bool hh := hX 8 (by decide)
    have x11 : t 11 = .bool hh := hX 11 (by decide)
    obtain ⟨B5, x9, hb5, h5⟩ := hJ.2.2 (hL 9 (by decide))
    rw [hL 10 (by decide)] at h5
    replace h5 : w5.heap[B5]? = some (.cells #[.int .i64 c] 3 (0, 0)) := h5
    have hbw := hJ.1
    dsimp only
    simp only [x0, x1, x2, x3, x4, x5, x6, x7, x8, x9, x11]
    clear x0 x1 x2 x3 x4 x5 x6 x7 x8 x9 x11 hX hJ hL
    have hmb5 : w5.heap[k.mb]? = w.heap[k.mb]? := (hbw.block k.mb HMBB.out).trans HMBA.out
    have hg5 : w.grownBy w5 none := grown_trans HGB.out (grown_of_below hbw none)
    have q5 : w5.cell? ⟨B5, 0, none⟩ = some (.int .i64 c) := (blk_cell h5 0).trans rfl
    have f5 : w5.frozen? ⟨B5, 0, none⟩ = false := blk_frozen h5 0
    have h50 := blk_below HB0.out hbw
    have h51 := blk_below HB1.out hbw
    have h5K := blk_below HKB.out hbw
    have HBW := Aside0.mk hbw
    have HMB5 := Aside0.mk hmb5
    have HG5 := Aside0.mk hg5
    have H5 := Aside0.mk h5
    have H50 := Aside0.mk h50
    have H51 := Aside0.mk h51
    have H5K := Aside0.mk h5K
    clear hbw hmb5 hg5 h5 h50 h51 h5K
    cases hh with
    | true =>
      gi_wp2
      refine ⟨.int .i64 c, ?_, (by rw [HCH.out (by trivial)]), grown_any HG5.out _, (HM.out.block HMB5.out).more (by omega)⟩
      simp [results, Tryz.f85, go_sem]
    | false =>
      have q1 : w5.cell? ⟨P, 0, none⟩ = some (.pointer (some ⟨k.K, 0, none⟩)) := (blk_cell H50.out 0).trans rfl
      have y0 : w5.cell? ⟨P + 1, 0, none⟩ = some (.int .i64 watch) := (blk_cell (H51.out) 0).trans rfl
      have y1 : w5.cell? ⟨P + 1, 1, none⟩ = some (.int .i64 s.a0) := (blk_cell (H51.out) 1).trans rfl
      have y2 : w5.cell? ⟨P + 1, 2, none⟩ = some (.int .i64 s.b0) := (blk_cell (H51.out) 2).trans rfl
      have y3 : w5.cell? ⟨P + 1, 3, none⟩ = some (.int .i64 s.a1) := (blk_cell (H51.out) 3).trans rfl
      have y4 : w5.cell? ⟨P + 1, 4, none⟩ = some (.int .i64 s.b1) := (blk_cell (H51.out) 4).trans rfl
      have y5 : w5.cell? ⟨P + 1, 5, none⟩ = some (.int .i64 s.a2) := (blk_cell (H51.out) 5).trans rfl
      have y6 : w5.cell? ⟨P + 1, 6, none⟩ = some (.int .i64 s.b2) := (blk_cell (H51.out) 6).trans rfl
      have y7 : w5.cell? ⟨P + 1, 7, none⟩ = some (.int .i64 s.a3) := (blk_cell (H51.out) 7).trans rfl
      have y8 : w5.cell? ⟨P + 1, 8, none⟩ = some (.int .i64 s.b3) := (blk_cell (H51.out) 8).trans rfl
      have HB5 : Aside0 (B5 ≠ P ∧ B5 ≠ P + 1 ∧ B5 ≠ k.K ∧ B5 ≠ k.mb) := ⟨by have h0 := blk_lt HB0.out; have h1 := blk_lt HB1.out; have h2 := blk_lt HKB.out; have h3 := HMBB.out; omega⟩
      have hne1 : ¬ P = B5 := by have := HB5.out; omega
      have hne2 : ¬ P + 1 = B5 := by have := HB5.out; omega
      clear HCH HLOOK
      gi_wp2_with fail
      refine (next_in Fence.wide _ trivial rfl k.K s watch _).mono ?_
      rintro e w' ⟨rfl, rfl⟩
      gi_wp2
      obtain ⟨N5, hN5⟩ : ∃ N5, N5 = w5.heap.size := ⟨_, rfl⟩
      obtain ⟨wL, hwL⟩ : ∃ wL, wL = ((w5.setCell ⟨B5, 0, none⟩ (.int .i64 1024)).alloc (.cells #[.pointer (some ⟨k.K, 0, none⟩)] 137)).alloc (.cells (s.spot watch) 146) := ⟨_, rfl⟩
      rw [← hwL, ← hN5]
      have hP := HPP.out
      have hsz6 : (w5.setCell ⟨B5, 0, none⟩ (.int .i64 1024)).heap.size = N5 := by rw [hN5]; simp
      have hszL : wL.heap.size = N5 + 2 := by rw [hwL, hN5]; simp
      have hB5lt : B5 < N5 := by rw [hN5]; exact blk_lt H5.out
      have hPB : P ≤ B5 := Nat.le_trans (by rw [hP]; exact HGB.out.size) hb5
      have hbL : Below P w wL := by rw [hwL, hP]; exact below_alloc (below_alloc (below_set1 (below_none HG5.out) (by rw [← hP]; exact hPB) 0 _) _) _
      have hL0 : wL.heap[P]? = some (.cells #[.pointer (some ⟨k.K, 0, none⟩)] 137 (0, 0)) := by rw [hwL]; exact blk_alloc (blk_alloc (blk_far H50.out hne1 _) _) _
      have hL1 : wL.heap[P + 1]? = some (.cells (s.spot watch) 146 (0, 0)) := by rw [hwL]; exact blk_alloc (blk_alloc (blk_far H51.out hne2 _) _) _
      have hL5 : wL.heap[B5]? = some (.cells #[.int .i64 1024] 3 (0, 0)) := by rw [hwL]; exact blk_alloc (blk_alloc (cellset H5.out) _) _
      have hLa : wL.heap[N5]? = some (.cells #[.pointer (some ⟨k.K, 0, none⟩)] 137 (0, 0)) := by
        rw [hwL]; have := blk_new (w5.setCell ⟨B5, 0, none⟩ (.int .i64 1024)) (.cells #[.pointer (some ⟨k.K, 0, none⟩)] 137); rw [hsz6] at this; exact blk_alloc this _
      have hLb : wL.heap[N5 + 1]? = some (.cells (s.spot watch) 146 (0, 0)) := by
        rw [hwL]; have := blk_new ((w5.setCell ⟨B5, 0, none⟩ (.int .i64 1024)).alloc (.cells #[.pointer (some ⟨k.K, 0, none⟩)] 137)) (.cells (s.spot watch) 146); rwa [World.size_alloc, hsz6] at this
      have hmL : wL.heap[k.mb]? = w.heap[k.mb]? := hbL.block k.mb (by rw [hP]; exact hmw)
      have hw0P : w0.heap.size ≤ P := by rw [hP]; exact HK.out.size
      have hPN : P + 1 < N5 := by rw [hN5]; exact blk_lt H51.out
      have hkL : KeepM w0.heap.size k.mb w0 wL := HK.out.trans (KeepM.below (hbL.mono hw0P))
      have HST := Aside0.mk (next_stops Fence.wide 9 rfl (by omega) N5 (N5 + 1) k w0 HIN.out HOK.out HMB.out watch s HS.out hw0 hlt (by omega) (by omega) wL hkL hLa hLb)
      have hmP : k.mb < P := by rw [hP]; exact hmw
      have hmapL : k.MapAt wL (n + 0 * cost f) := by rw [Nat.zero_mul]; exact HM.out.block hmL
      have hkpL : KeepM P k.mb w wL := KeepM.below hbL
      have HL0 := Aside0.mk hL0
      have HL1 := Aside0.mk hL1
      have HL5 := Aside0.mk hL5
      have HML5 := Aside0.mk hmapL
      have HKPL := Aside0.mk hkpL
      have HKL := Aside0.mk hkL
      have HSZ := Aside0.mk hszL
      have HMW := Aside0.mk hmw
      clear hwL hP hsz6 hszL hbL hL0 hL1 hL5 hLa hLb hmL hkL hmapL hkpL q1 q5 f5 y0 y1 y2 y3 y4 y5 y6 y7 y8 hN5 HB5 H5 H50 H51 H5K HG5 HMB5 HBW HGB HMBA HMBB HKB HB0 HB1 HGA HA0 HA1 HKA HMA hb5 hmw
      refine wpIn_rangeFunc_ownH rfl (by omega) (gf := 146) (lb := #[.pointer (some ⟨N5, 0, none⟩), .pointer (some ⟨N5 + 1, 0, none⟩)]) rfl trivial (enters_of Tryz.func146 (by kernel_rfl) rfl)
        HST.out (fun h k => h.trans k) (Keep2.b (by have := HSZ.out; omega) (by have := HSZ.out; omega) (by have := HSZ.out; omega)) (Below.refl _ _) (fun _ => rfl)
        (fun pre W => W.heap[P]? = some (.cells #[.pointer (some ⟨k.K, 0, none⟩)] 137 (0, 0)) ∧ W.heap[P + 1]? = some (.cells (s.spot watch) 146 (0, 0)) ∧ W.heap[B5]? = some (.cells #[.int .i64 (k.acc f watch s (pre.map (·.1.1)))] 3 (0, 0)) ∧ k.MapAt W (n + pre.length * cost f) ∧ KeepM P k.mb w W ∧ N5 + 2 ≤ W.heap.size)
        (fun c pre W => False)
        (OwnFrom.and (blk_own _ _ _ _) (OwnFrom.and (blk_own _ _ _ _) (OwnFrom.and (blk_ownS _ _ _ _) (OwnFrom.and (map_own k (by have := HSZ.out; omega) _) (OwnFrom.and (keepM_own (by have := HSZ.out; omega) (by have := HPP.out; omega)) (size_own _ _))))))
        (fun c => ownFrom_pure _ (fun _ => False))
        ⟨HL0.out, HL1.out, HL5.out, HML5.out, HKPL.out, by have := HSZ.out; omega⟩
        (fun x a' W => ∃ B8, a' = { tmps := #[.pointer (some ⟨k.K, 0, none⟩), .agg (s.spot watch), .pointer (some ⟨P, 0, none⟩), .pointer (some ⟨P + 1, 0, none⟩), .int .i64 0, .pointer (some ⟨B5, 0, none⟩), .bool false, x.1.2, .pointer (some ⟨B8, 0, none⟩), .pointer (some ⟨P + 1, 0, none⟩), .int .i64 watch, .pointer (some ⟨k.K, 0, none⟩), .pointer (some ⟨k.K, 0, none⟩), .pointer (some ⟨k.K, 0, none⟩), .pointer (some ⟨k.K, 0, none⟩), .slice k.A0 k.need.length k.c0, .int .i64 (k.need.length : Int), .bool false, .tuple #[.int .i64 c, .bool false], .pointer (some ⟨k.K, 0, none⟩), .pointer (some ⟨k.K, 0, none⟩), .pointer (some ⟨k.K, 4, none⟩), .map (some k.mb), .agg (s.spot watch), .tuple #[.int .i64 c, .bool false], .int .i64 c, .bool false, .bool false, undef, .pointer (some ⟨k.K, 0, none⟩), .agg #[.int .i64 watch, .int .i64 s.a0, .int .i64 s.b0, .int .i64 s.a1, .int .i64 s.b1, .int .i64 s.a2, .int .i64 s.b2, .int .i64 s.a3, .int .i64 s.b3], .func (.func 146) #[] #[.pointer (some ⟨N5, 0, none⟩), .pointer (some ⟨N5 + 1, 0, none⟩)], x.1.2, .agg ((afterS k.people watch (rd_L1 k.lists x.1.1) s).1.spot (watch + 1)), undef, undef, undef, undef, undef, undef, undef, undef, undef, undef, undef, undef, undef, undef, undef, undef], defers := [] } ∧ W.heap[B8]? = some (.cells ((afterS k.people watch (rd_L1 k.lists x.1.1) s).1.spot (watch + 1)) 146 (0, 0)))
        (fun x a' s X Y row ⟨B8, e, h⟩ hg hr => ⟨B8, e, blk_own _ _ _ _ () X Y row h hg hr⟩) ?assign ?body ?done ?stop
      case assign =>
        rintro l pre x W K ⟨b0, b1, b5, hmp, hkp, hsW⟩ hK
        obtain ⟨s', hs'⟩ : ∃ s', s' = (afterS k.people watch (rd_L1 k.lists x.1.1) s).1 := ⟨_, rfl⟩
        rw [← hs'] at hK ⊢
        have HQ := Aside0.mk hK
        have HI := Aside0.mk (And.intro b0 (And.intro b1 (And.intro b5 (And.intro hmp hkp))))
        clear hK b0 b1 b5 hmp hkp hs'
        simp only [Std.spot]
        gi_wp2
        refine HQ.out _ _ ((KeepsOthers.alloc _ _).from _) ⟨KeepM.alloc (by omega) _, Below.heap_alloc _ _ _ (by omega), Below.heap_alloc _ _ _ (by omega)⟩
          ⟨blk_alloc HI.out.1 _, blk_alloc HI.out.2.1 _, blk_alloc HI.out.2.2.1 _, HI.out.2.2.2.1.grown (World.grownBy_alloc _ _ none) (by simp), HI.out.2.2.2.2.trans (KeepM.alloc (by omega) _), by simp; omega⟩ ⟨W.heap.size, rfl, blk_new W _⟩
      case body =>
        rintro l pre x a' W hl ⟨rr, hrr⟩ ⟨b0, b1, b5, hmp, hkp, hsW⟩ ⟨B8, rfl, b8⟩ hlen
        obtain ⟨hi, hcan, A, cc, hv, hC⟩ := x.2
        obtain ⟨i, hxi⟩ : ∃ i, i = x.1.1 := ⟨_, rfl⟩
        obtain ⟨s', hs'⟩ : ∃ s', s' = (afterS k.people watch (rd_L1 k.lists x.1.1) s).1 := ⟨_, rfl⟩
        obtain ⟨ln, hln⟩ : ∃ ln, ln = (rd_L1 k.lists x.1.1).length := ⟨_, rfl⟩
        obtain ⟨ac, hac⟩ : ∃ ac, ac = k.acc f watch s (pre.map (·.1.1)) := ⟨_, rfl⟩
        obtain ⟨fv, hfv⟩ : ∃ fv, fv = k.few f (watch + 1) s' := ⟨_, rfl⟩
        obtain ⟨m2, hm2⟩ : ∃ m2, m2 = n + pre.length * cost f := ⟨_, rfl⟩
        have hmem : rd_L1 k.lists x.1.1 ∈ k.lists := by simp [rd_L1, List.getElem_mem, hi]
        have hl4 : ln ≤ 4 := by rw [hln]; exact HLE.out _ hmem
        have hacb : 0 ≤ ac ∧ ac ≤ 1024 := by rw [hac]; exact k.acc_bd _ _ _ _
        have hfvb : 0 ≤ fv ∧ fv ≤ 1024 := by rw [hfv]; exact k.few_bd _ _ _
        have hsok : s'.ok := by rw [hs']; exact afterS_ok k.people k.need HOK.out.v watch hw0 (by omega) HOK.out.p1 _ _ HS.out (HOK.out.l _ hmem)
        have HNEW : Aside0 (k.acc f watch s ((pre ++ [x]).map (·.1.1)) = min ac (ln + fv)) := ⟨by rw [List.map_append, List.map_cons, List.map_nil, Wk.acc_snoc, ← hac, ← hln, ← hs', ← hfv]⟩
        have HM2 : Aside0 (n + (pre ++ [x]).length * cost f = m2 + cost f) := ⟨by rw [List.length_append, List.length_singleton, Nat.add_mul, hm2]; omega⟩
        have hm3 : m2 + cost f < maxLen := by
          have h1 : pre.length * cost f + cost f ≤ 16 * cost f := by
            have h2 : pre.length + 1 ≤ 16 := by have := HOK.out.l1; omega
            calc pre.length * cost f + cost f = (pre.length + 1) * cost f := by rw [Nat.add_mul]; omega
              _ ≤ 16 * cost f := Nat.mul_le_mul_right _ h2
          have h3 := HN.out
          unfold cost at h3
          omega
        have hkw : KeepM w0.heap.size k.mb w0 W := HK.out.trans (hkp.mono hw0P)
        have hKK : W.heap[k.K]? = some (.cells k.vals 190 (0, 0)) := (HIN.out.keep HMB.out hkw).hK
        rw [← hs'] at b8
        rw [← hac] at b5
        rw [← hm2] at hmp
        rw [← hln] at hv
        rw [← hs', hv]
        have hw8 := blk_lt b8
        have HW := Aside0.mk (And.intro b0 (And.intro b1 (And.intro b5 (And.intro hmp (And.intro hkp (And.intro hkw b8))))))
        have HLL : Aside0 (W.heap[l]? = some (.loop rr)) := ⟨hrr⟩
        have hne8 : ∀ r, some k.mb = some r → r ≠ B8 := by
          intro r e; cases e; intro e
          obtain ⟨D, ⟨es, clock, h1, _⟩, _⟩ := hmp
          rw [e] at h1; rw [h1] at b8; cases b8
        have HNE8 := Aside0.mk hne8
        have HFV := Aside0.mk hfv
        have HSOK := Aside0.mk hsok
        have HMM3 := Aside0.mk hm3
        clear hxi hs' hln hac hfv hm2 hmem hsok hm3 hkw b0 b1 b5 hmp hkp b8 hv hC hcan hi hrr hKK hne8
        gi_wp2
        refine region_mk_round rfl (by kernel_rfl) (by rfl) (fun t => { tmps := #[.pointer (some ⟨k.K, 0, none⟩), .agg (s.spot watch), .pointer (some ⟨P, 0, none⟩), .pointer (some ⟨P + 1, 0, none⟩), .int .i64 0, .pointer (some ⟨B5, 0, none⟩), .bool false, .slice A ln cc, .pointer (some ⟨B8, 0, none⟩), .pointer (some ⟨P + 1, 0, none⟩), .int .i64 watch, .pointer (some ⟨k.K, 0, none⟩), .pointer (some ⟨k.K, 0, none⟩), .pointer (some ⟨k.K, 0, none⟩), .pointer (some ⟨k.K, 0, none⟩), .slice k.A0 k.need.length k.c0, .int .i64 (k.need.length : Int), .bool false, .tuple #[.int .i64 c, .bool false], .pointer (some ⟨k.K, 0, none⟩), .pointer (some ⟨k.K, 0, none⟩), .pointer (some ⟨k.K, 4, none⟩), .map (some k.mb), .agg (s.spot watch), .tuple #[.int .i64 c, .bool false], .int .i64 c, .bool false, .bool false, undef, .pointer (some ⟨k.K, 0, none⟩), .agg #[.int .i64 watch, .int .i64 s.a0, .int .i64 s.b0, .int .i64 s.a1, .int .i64 s.b1, .int .i64 s.a2, .int .i64 s.b2, .int .i64 s.a3, .int .i64 s.b3], .func (.func 146) #[] #[.pointer (some ⟨N5, 0, none⟩), .pointer (some ⟨N5 + 1, 0, none⟩)], .slice A ln cc, .agg (s'.spot (watch + 1)), t 0, t 1, t 2, t 3, t 4, t 5, t 6, t 7, t 8, undef, undef, undef, undef, undef, undef, undef], defers := [] })
          (fun L t w' => (L 9 = false → W.grownBy w' (some k.mb)) ∧ (L 9 = true → ∃ wa, W.grownBy wa (some k.mb) ∧ w' = wa.setCell ⟨B5, 0, none⟩ (.int .i64 (min ac ((ln : Int) + fv)))) ∧ (L 5 = false → w'.heap[k.mb]? = W.heap[k.mb]?) ∧ (L 5 = true → k.MapAt w' (m2 + cost f)) ∧ (L 7 = true → L 9 = false → ∃ b, t 7 = .slice (some ⟨b, 0, none⟩) 2 2 ∧ w'.heap[b]? = some (.cells #[.int .i64 ac, .int .i64 ((ln : Int) + fv)] 3 (0, 0))))
          (fun i v => match i with | 0 => v = .int .i64 ac | 1 => v = .slice A ln cc | 2 => v = .int .i64 (ln : Int) | 3 => v = .pointer (some ⟨k.K, 0, none⟩) | 4 => v = .agg (s'.spot (watch + 1)) | 5 => v = .int .i64 fv | 6 => v = .int .i64 ((ln : Int) + fv) | 8 => v = .int .i64 (min ac ((ln : Int) + fv)) | _ => True)
          (fun j => undef) (by kernel_rfl) ⟨fun _ => grown_any (grown_drewN W 1) _, by simp, fun _ => rfl, by simp, by simp⟩ ?stepX ?doneX
        case stepX =>
          intro i hi
          have hi' : i < 10 := hi
          match i, hi' with
          | 0, _ =>
            intro L t w hL hJ hX hdep hcl
            have n9 : L 9 = false := by
              cases h9 : L 9 with
              | false => rfl
              | true =>
                have h8 := hcl 9 _ rfl h9 ⟨8, .data⟩ (by simp) rfl
                have h7 := hcl 8 _ rfl h8 ⟨7, .data⟩ (by simp) rfl
                have h0 := hcl 7 _ rfl h7 ⟨0, .data⟩ (by simp) rfl
                rw [hL] at h0; cases h0
            have hg := hJ.1 n9
            have q : w.cell? ⟨B5, 0, none⟩ = some (.int .i64 ac) := (blk_cell (blk_grown HW.out.2.2.1 hg (fun r e => by cases e; omega)) 0).trans rfl
            refine wpOpIn_step rfl (fun K hK => ?_)
            dsimp only
            go_simp
            refine hK _ _ ⟨.int .i64 ac, ?_, rfl, hJ⟩
            simp [upd]
          | 1, _ =>
            intro L t w hL hJ hX hdep hcl
            refine wpOpIn_step rfl (fun K hK => ?_)
            dsimp only
            go_simp
            refine hK _ _ ⟨.slice A ln cc, ?_, rfl, hJ⟩
            simp [upd]
          | 2, _ =>
            intro L t w hL hJ hX hdep hcl
            have x1 : t 1 = .slice A ln cc := hX 1 (hdep _ rfl ⟨1, .data⟩ (by simp) rfl)
            refine wpOpIn_step rfl (fun K hK => ?_)
            dsimp only
            simp only [x1]
            go_simp
            refine hK _ _ ⟨.int .i64 (ln : Int), ?_, rfl, hJ⟩
            simp [upd, x1]
          | 3, _ =>
            intro L t w hL hJ hX hdep hcl
            have n9 : L 9 = false := by
              cases h9 : L 9 with
              | false => rfl
              | true =>
                have h8 := hcl 9 _ rfl h9 ⟨8, .data⟩ (by simp) rfl
                have h7 := hcl 8 _ rfl h8 ⟨7, .data⟩ (by simp) rfl
                have h6 := hcl 7 _ rfl h7 ⟨6, .data⟩ (by simp) rfl
                have h5 := hcl 6 _ rfl h6 ⟨5, .data⟩ (by simp) rfl
                have h3 := hcl 5 _ rfl h5 ⟨3, .data⟩ (by simp) rfl
                rw [hL] at h3; cases h3
            have hg := hJ.1 n9
            have q : w.cell? ⟨P, 0, none⟩ = some (.pointer (some ⟨k.K, 0, none⟩)) := (blk_cell (blk_grown HW.out.1 hg (fun r e => by cases e; omega)) 0).trans rfl
            refine wpOpIn_step rfl (fun K hK => ?_)
            dsimp only
            go_simp
            refine hK _ _ ⟨.pointer (some ⟨k.K, 0, none⟩), ?_, rfl, hJ⟩
            simp [upd]
          | 4, _ =>
            intro L t w hL hJ hX hdep hcl
            have n9 : L 9 = false := by
              cases h9 : L 9 with
              | false => rfl
              | true =>
                have h8 := hcl 9 _ rfl h9 ⟨8, .data⟩ (by simp) rfl
                have h7 := hcl 8 _ rfl h8 ⟨7, .data⟩ (by simp) rfl
                have h6 := hcl 7 _ rfl h7 ⟨6, .data⟩ (by simp) rfl
                have h5 := hcl 6 _ rfl h6 ⟨5, .data⟩ (by simp) rfl
                have h4 := hcl 5 _ rfl h5 ⟨4, .data⟩ (by simp) rfl
                rw [hL] at h4; cases h4
            have hg := hJ.1 n9
            have b8' := blk_grown HW.out.2.2.2.2.2.2 hg HNE8.out
            have y0 : w.cell? ⟨B8, 0, none⟩ = some (.int .i64 (watch + 1)) := (blk_cell (b8') 0).trans rfl
            have y1 : w.cell? ⟨B8, 1, none⟩ = some (.int .i64 s'.a0) := (blk_cell (b8') 1).trans rfl
            have y2 : w.cell? ⟨B8, 2, none⟩ = some (.int .i64 s'.b0) := (blk_cell (b8') 2).trans rfl
            have y3 : w.cell? ⟨B8, 3, none⟩ = some (.int .i64 s'.a1) := (blk_cell (b8') 3).trans rfl
            have y4 : w.cell? ⟨B8, 4, none⟩ = some (.int .i64 s'.b1) := (blk_cell (b8') 4).trans rfl
            have y5 : w.cell? ⟨B8, 5, none⟩ = some (.int .i64 s'.a2) := (blk_cell (b8') 5).trans rfl
            have y6 : w.cell? ⟨B8, 6, none⟩ = some (.int .i64 s'.b2) := (blk_cell (b8') 6).trans rfl
            have y7 : w.cell? ⟨B8, 7, none⟩ = some (.int .i64 s'.a3) := (blk_cell (b8') 7).trans rfl
            have y8 : w.cell? ⟨B8, 8, none⟩ = some (.int .i64 s'.b3) := (blk_cell (b8') 8).trans rfl
            refine wpOpIn_step rfl (fun K hK => ?_)
            dsimp only
            go_simp
            refine hK _ _ ⟨.agg (s'.spot (watch + 1)), ?_, rfl, hJ⟩
            simp [upd, Std.spot]
          | 5, _ =>
            intro L t w hL hJ hX hdep hcl
            have x3 : t 3 = .pointer (some ⟨k.K, 0, none⟩) := hX 3 (hdep _ rfl ⟨3, .data⟩ (by simp) rfl)
            have x4 : t 4 = .agg (s'.spot (watch + 1)) := hX 4 (hdep _ rfl ⟨4, .data⟩ (by simp) rfl)
            have n9 : L 9 = false := by
              cases h9 : L 9 with
              | false => rfl
              | true =>
                have h8 := hcl 9 _ rfl h9 ⟨8, .data⟩ (by simp) rfl
                have h7 := hcl 8 _ rfl h8 ⟨7, .data⟩ (by simp) rfl
                have h6 := hcl 7 _ rfl h7 ⟨6, .data⟩ (by simp) rfl
                have h5 := hcl 6 _ rfl h6 ⟨5, .data⟩ (by simp) rfl
                rw [hL] at h5; cases h5
            have hg := hJ.1 n9
            have hc := HIH.out (watch + 1) s' w m2 (by omega) (by have := HWF.out; omega) HSOK.out (HW.out.2.2.2.2.2.1.trans (KeepM.grown hg (by omega) (fun r e => by cases e; exact .inl rfl))) (HW.out.2.2.2.1.block (hJ.2.2.1 hL)) HMM3.out
            have HC := Aside0.mk hc
            clear hc
            have n7 : L 7 = false := by
              cases h7 : L 7 with
              | false => rfl
              | true =>
                have h6 := hcl 7 _ rfl h7 ⟨6, .data⟩ (by simp) rfl
                have h5 := hcl 6 _ rfl h6 ⟨5, .data⟩ (by simp) rfl
                rw [hL] at h5; cases h5
            refine wpOpIn_step rfl (fun K hK => ?_)
            dsimp only
            simp only [x3, x4]
            go_simp
            refine (callsIn_wide.2 HC.out).mono ?_
            rintro e w2 ⟨rfl, hg2, hmp2⟩
            refine hK _ _ ⟨.int .i64 fv, ?_, rfl, ⟨fun _ => grown_trans hg hg2, fun h => (by rw [show setOn L 5 9 = L 9 from rfl, n9] at h; cases h), fun h => (by simp [setOn] at h), fun _ => hmp2, fun h => (by rw [show setOn L 5 7 = L 7 from rfl, n7] at h; cases h)⟩⟩
            simp [upd, x3, x4, HFV.out]
          | 6, _ =>
            intro L t w hL hJ hX hdep hcl
            have x2 : t 2 = .int .i64 (ln : Int) := hX 2 (hdep _ rfl ⟨2, .data⟩ (by simp) rfl)
            have x5 : t 5 = .int .i64 fv := hX 5 (hdep _ rfl ⟨5, .data⟩ (by simp) rfl)
            have hwrap : IntKind.i64.wrap ((ln : Int) + fv) = (ln : Int) + fv := by rw [IntKind.wrap_i64]; omega
            refine wpOpIn_step rfl (fun K hK => ?_)
            dsimp only
            simp only [x2, x5]
            go_simp
            refine hK _ _ ⟨.int .i64 ((ln : Int) + fv), ?_, rfl, hJ⟩
            simp [upd, x2, x5]
          | 7, _ =>
            intro L t w hL hJ hX hdep hcl
            have x0 : t 0 = .int .i64 ac := hX 0 (hdep _ rfl ⟨0, .data⟩ (by simp) rfl)
            have x6 : t 6 = .int .i64 ((ln : Int) + fv) := hX 6 (hdep _ rfl ⟨6, .data⟩ (by simp) rfl)
            have n9 : L 9 = false := by
              cases h9 : L 9 with
              | false => rfl
              | true =>
                have h8 := hcl 9 _ rfl h9 ⟨8, .data⟩ (by simp) rfl
                have h7 := hcl 8 _ rfl h8 ⟨7, .data⟩ (by simp) rfl
                rw [hL] at h7; cases h7
            have hg := hJ.1 n9
            have h5 : L 5 = true := hcl 6 _ rfl (hdep _ rfl ⟨6, .data⟩ (by simp) rfl) ⟨5, .data⟩ (by simp) rfl
            refine wpOpIn_step rfl (fun K hK => ?_)
            dsimp only
            simp only [x0, x6]
            go_simp
            refine hK _ (w.alloc (.cells #[.int .i64 ac, .int .i64 ((ln : Int) + fv)] 3)) ⟨.slice (some ⟨w.heap.size, 0, none⟩) 2 2, ?_, trivial, ⟨fun _ => grown_trans hg (World.grownBy_alloc _ _ _), fun h => (by rw [show setOn L 7 9 = L 9 from rfl, n9] at h; cases h), fun h => (by rw [show setOn L 7 5 = L 5 from rfl, h5] at h; cases h), fun _ => (hJ.2.2.2.1 h5).grown (World.grownBy_alloc _ _ none) (by simp), fun _ _ => ⟨w.heap.size, rfl, blk_new w _⟩⟩⟩
            simp [upd, x0, x6]
          | 8, _ =>
            intro L t w hL hJ hX hdep hcl
            have n9 : L 9 = false := by
              cases h9 : L 9 with
              | false => rfl
              | true =>
                have h8 := hcl 9 _ rfl h9 ⟨8, .data⟩ (by simp) rfl
                rw [hL] at h8; cases h8
            obtain ⟨b, e7, hb7⟩ := hJ.2.2.2.2 (hdep _ rfl ⟨7, .data⟩ (by simp) rfl) n9
            refine wpOpIn_step rfl (fun K hK => ?_)
            dsimp only
            simp only [e7]
            go_simp
            refine (callsIn_wide.2 (minimum_two b ac ((ln : Int) + fv) w ((blk_cell hb7 0).trans rfl) ((blk_cell hb7 1).trans rfl))).mono ?_
            rintro e w2 ⟨rfl, rfl⟩
            refine hK _ _ ⟨_, ?_, rfl, hJ⟩
            simp [upd, e7]
          | 9, _ =>
            intro L t w hL hJ hX hdep hcl
            have x8 : t 8 = .int .i64 (min ac ((ln : Int) + fv)) := hX 8 (hdep _ rfl ⟨8, .data⟩ (by simp) rfl)
            have hg := hJ.1 hL
            have l8 : L 8 = true := hdep _ rfl ⟨8, .data⟩ (by simp) rfl
            have l7 : L 7 = true := hcl 8 _ rfl l8 ⟨7, .data⟩ (by simp) rfl
            have l0 : L 0 = true := hcl 7 _ rfl l7 ⟨0, .data⟩ (by simp) rfl
            have l6 : L 6 = true := hcl 7 _ rfl l7 ⟨6, .data⟩ (by simp) rfl
            have l2 : L 2 = true := hcl 6 _ rfl l6 ⟨2, .data⟩ (by simp) rfl
            have l5 : L 5 = true := hcl 6 _ rfl l6 ⟨5, .data⟩ (by simp) rfl
            have l1 : L 1 = true := hcl 2 _ rfl l2 ⟨1, .data⟩ (by simp) rfl
            have l3 : L 3 = true := hcl 5 _ rfl l5 ⟨3, .data⟩ (by simp) rfl
            have l4 : L 4 = true := hcl 5 _ rfl l5 ⟨4, .data⟩ (by simp) rfl
            have q : w.cell? ⟨B5, 0, none⟩ = some (.int .i64 ac) := (blk_cell (blk_grown HW.out.2.2.1 hg (fun r e => by cases e; omega)) 0).trans rfl
            have qf : w.frozen? ⟨B5, 0, none⟩ = false := blk_frozen (blk_grown HW.out.2.2.1 hg (fun r e => by cases e; omega)) 0
            refine wpOpIn_step rfl (fun K hK => ?_)
            dsimp only
            simp only [x8]
            go_simp
            refine hK _ (w.setCell ⟨B5, 0, none⟩ (.int .i64 (min ac ((ln : Int) + fv)))) ⟨undef, ?_, trivial, ⟨fun h => (by simp [setOn] at h), fun _ => ⟨w, hg, rfl⟩, fun h => (by rw [show setOn L 9 5 = L 5 from rfl, l5] at h; cases h), fun _ => (hJ.2.2.2.1 l5).grown (grown_set _ _ _ _) (fun r e => by cases e; omega), fun _ h => (by simp [setOn] at h)⟩⟩
            simp [upd, x8]
          | j + 10, h => exact absurd h (by omega)
        case doneX =>
          intro L t w9 hL hJ hX
          have x0 : t 0 = .int .i64 ac := hX 0 (by decide)
          have x1 : t 1 = .slice A ln cc := hX 1 (by decide)
          have x2 : t 2 = .int .i64 (ln : Int) := hX 2 (by decide)
          have x3 : t 3 = .pointer (some ⟨k.K, 0, none⟩) := hX 3 (by decide)
          have x4 : t 4 = .agg (s'.spot (watch + 1)) := hX 4 (by decide)
          have x5 : t 5 = .int .i64 fv := hX 5 (by decide)
          have x6 : t 6 = .int .i64 ((ln : Int) + fv) := hX 6 (by decide)
          have x8 : t 8 = .int .i64 (min ac ((ln : Int) + fv)) := hX 8 (by decide)
          obtain ⟨wa, hga, rfl⟩ := hJ.2.1 (hL 9 (by decide))
          have hmpw := hJ.2.2.2.1 (hL 5 (by decide))
          dsimp only
          simp only [x0, x1, x2, x3, x4, x5, x6, x8]
          have HGA := Aside0.mk hga
          have HMPW := Aside0.mk hmpw
          clear x0 x1 x2 x3 x4 x5 x6 x8 hX hJ hL hga hmpw
          gi_wp2
          have hga := HGA.out
          have hmb9 : ∀ r, some k.mb = some r → r ≠ P := fun r e => by cases e; omega
          have hmb8 : ∀ r, some k.mb = some r → r ≠ P + 1 := fun r e => by cases e; omega
          have hmb5 : ∀ r, some k.mb = some r → r ≠ B5 := fun r e => by cases e; omega
          have hkg : KeepM P k.mb W wa := KeepM.grown hga (by omega) (fun r e => by cases e; exact .inl rfl)
          have hsa : N5 + 2 ≤ wa.heap.size := Nat.le_trans hsW hga.size
          refine ⟨(KeepsFrom.of_grownBy hga (fun j e => by cases e; have := HSZ.out; omega)).trans ((KeepsOthers.setCell _ _ _).from _),
            ⟨(hkg.mono hw0P).trans (KeepM.set (by omega) (by omega) 0 _), (Below.heap_setCell wa _ _ N5 (by show N5 ≠ B5; omega)).trans (hga.block N5 (by omega) (fun e => by injection e with e; omega)), (Below.heap_setCell wa _ _ (N5 + 1) (by show N5 + 1 ≠ B5; omega)).trans (hga.block (N5 + 1) (by omega) (fun e => by injection e with e; omega))⟩,
            blk_far (blk_grown HW.out.1 hga hmb9) hne1 _, blk_far (blk_grown HW.out.2.1 hga hmb8) hne2 _, ?_, ?_, (HW.out.2.2.2.2.1.trans hkg).trans (KeepM.set (by omega) hPB 0 _), by simp; omega⟩
          · rw [HNEW.out]; exact cellset (blk_grown HW.out.2.2.1 hga hmb5)
          · rw [HM2.out]; exact HMPW.out
      case done =>
        rintro D xs W hD hS ⟨b0, b1, b5, hmp, hkp, hsW⟩ hKD
        obtain ⟨fv, hfv⟩ : ∃ fv, fv = k.few (f + 1) watch s := ⟨_, rfl⟩
        have hacc : k.acc f watch s (xs.map (·.1.1)) = fv := by rw [hS, hfv]; rfl
        rw [hacc] at b5
        have hxl : xs.length ≤ 16 := by
          have h1 := congrArg List.length hS
          rw [List.length_map] at h1
          have h2 := List.length_filter_le (k.can watch s) (List.range k.lists.length)
          rw [List.length_range] at h2
          have := HOK.out.l1
          omega
        have hx2 : n + xs.length * cost f + 1 ≤ n + cost (f + 1) := by
          have : xs.length * cost f ≤ 16 * cost f := Nat.mul_le_mul_right _ hxl
          show n + xs.length * cost f + 1 ≤ n + (1 + 16 * cost f)
          omega
        obtain ⟨m2, hm2⟩ : ∃ m2, m2 = n + xs.length * cost f := ⟨_, rfl⟩
        rw [← hm2] at hmp hx2
        obtain ⟨W1, hW1⟩ : ∃ W1, W1 = W.drew := ⟨_, rfl⟩
        have hmp1 : k.MapAt W1 m2 := by rw [hW1]; exact hmp.grown (grown_drewN W 1) (by simp)
        obtain ⟨w9, hrun, hm9, hg9⟩ := hmp1.store (by have := HN.out; omega) HS.out hw0 (by omega) (f := f + 1) HWF.out
        rw [← hfv] at hrun
        have hK1 : W1.heap[k.K]? = some (.cells k.vals 190 (0, 0)) := by rw [hW1]; exact (HIN.out.keep HMB.out (HK.out.trans (hkp.mono hw0P))).hK
        have hb0 : W1.heap[P]? = some (.cells #[.pointer (some ⟨k.K, 0, none⟩)] 137 (0, 0)) := by rw [hW1]; exact b0
        have hb1 : W1.heap[P + 1]? = some (.cells (s.spot watch) 146 (0, 0)) := by rw [hW1]; exact b1
        have hb5 : W1.heap[B5]? = some (.cells #[.int .i64 fv] 3 (0, 0)) := by rw [hW1]; exact b5
        have hkd : W1.heap[D]? = some (.deferred (some [])) := by rw [hW1]; exact hKD
        have hkp1 : KeepM P k.mb w W1 := by rw [hW1]; exact hkp.trans (KeepM.drewN _ _ _ 1)
        have HRUN := Aside0.mk hrun
        have HW1 := Aside0.mk (And.intro hb0 (And.intro hb1 (And.intro hb5 (And.intro hkd (And.intro hkp1 hK1)))))
        have H9 := Aside0.mk (And.intro hm9 hg9)
        have HX2 := Aside0.mk hx2
        have HFV := Aside0.mk hfv
        have HW1E := Aside0.mk hW1
        have hD2 : N5 + 2 ≤ D := by have := HSZ.out; omega
        clear hrun hb0 hb1 hb5 hkd hkp1 hK1 hm9 hg9 hx2 hfv b0 b1 b5 hmp hmp1 hkp hKD hS hacc hxl hm2 hD hW1
        gi_wp2
        refine region_mk (by kernel_rfl) (fun t => { tmps := #[.pointer (some ⟨k.K, 0, none⟩), .agg (s.spot watch), .pointer (some ⟨P, 0, none⟩), .pointer (some ⟨P + 1, 0, none⟩), .int .i64 0, .pointer (some ⟨B5, 0, none⟩), .bool false, undef, undef, .pointer (some ⟨P + 1, 0, none⟩), .int .i64 watch, .pointer (some ⟨k.K, 0, none⟩), .pointer (some ⟨k.K, 0, none⟩), .pointer (some ⟨k.K, 0, none⟩), .pointer (some ⟨k.K, 0, none⟩), .slice k.A0 k.need.length k.c0, .int .i64 (k.need.length : Int), .bool false, .tuple #[.int .i64 c, .bool false], .pointer (some ⟨k.K, 0, none⟩), .pointer (some ⟨k.K, 0, none⟩), .pointer (some ⟨k.K, 4, none⟩), .map (some k.mb), .agg (s.spot watch), .tuple #[.int .i64 c, .bool false], .int .i64 c, .bool false, .bool false, undef, .pointer (some ⟨k.K, 0, none⟩), .agg #[.int .i64 watch, .int .i64 s.a0, .int .i64 s.b0, .int .i64 s.a1, .int .i64 s.b1, .int .i64 s.a2, .int .i64 s.b2, .int .i64 s.a3, .int .i64 s.b3], .func (.func 146) #[] #[.pointer (some ⟨N5, 0, none⟩), .pointer (some ⟨N5 + 1, 0, none⟩)], undef, undef, undef, undef, undef, undef, undef, undef, undef, undef, undef, t 0, t 1, t 2, t 3, t 4, t 5, undef], defers := [{ target := .collected D, args := #[] }] })
          (fun L t w' => (L 6 = false → w' = W1) ∧ (L 6 = true → w' = w9))
          (fun i v => match i with | 0 => v = .pointer (some ⟨k.K, 0, none⟩) | 1 => v = .pointer (some ⟨k.K, 0, none⟩) | 2 => v = .pointer (some ⟨k.K, 4, none⟩) | 3 => v = .map (some k.mb) | 4 => v = .agg (s.spot watch) | 5 => v = .int .i64 fv | _ => True)
          (fun j => undef) (by kernel_rfl) ⟨fun _ => HW1E.out.symm, by simp⟩ ?stepY ?doneY
        case stepY =>
          intro i hi
          have hi' : i < 7 := hi
          match i, hi' with
          | 0, _ =>
            intro L t w hL hJ hX hdep hcl
            have n6 : L 6 = false := by
              cases h6 : L 6 with
              | false => rfl
              | true =>
                have h3 := hcl 6 _ rfl h6 ⟨3, .data⟩ (by simp) rfl
                have h2 := hcl 3 _ rfl h3 ⟨2, .data⟩ (by simp) rfl
                have h1 := hcl 2 _ rfl h2 ⟨1, .data⟩ (by simp) rfl
                have h0 := hcl 1 _ rfl h1 ⟨0, .data⟩ (by simp) rfl
                rw [hL] at h0; cases h0
            obtain rfl := hJ.1 n6
            have q : w.cell? ⟨P, 0, none⟩ = some (.pointer (some ⟨k.K, 0, none⟩)) := (blk_cell HW1.out.1 0).trans rfl
            refine wpOpIn_step rfl (fun K hK => ?_)
            dsimp only
            go_simp
            refine hK _ _ ⟨.pointer (some ⟨k.K, 0, none⟩), ?_, rfl, hJ⟩
            simp [upd]
          | 1, _ =>
            intro L t w hL hJ hX hdep hcl
            have x0 : t 0 = .pointer (some ⟨k.K, 0, none⟩) := hX 0 (hdep _ rfl ⟨0, .data⟩ (by simp) rfl)
            have n6 : L 6 = false := by
              cases h6 : L 6 with
              | false => rfl
              | true =>
                have h3 := hcl 6 _ rfl h6 ⟨3, .data⟩ (by simp) rfl
                have h2 := hcl 3 _ rfl h3 ⟨2, .data⟩ (by simp) rfl
                have h1 := hcl 2 _ rfl h2 ⟨1, .data⟩ (by simp) rfl
                rw [hL] at h1; cases h1
            obtain rfl := hJ.1 n6
            refine wpOpIn_step rfl (fun K hK => ?_)
            dsimp only
            simp only [x0]
            go_simp
            refine hK _ _ ⟨.pointer (some ⟨k.K, 0, none⟩), ?_, rfl, hJ⟩
            simp [upd, x0]
          | 2, _ =>
            intro L t w hL hJ hX hdep hcl
            have x1 : t 1 = .pointer (some ⟨k.K, 0, none⟩) := hX 1 (hdep _ rfl ⟨1, .data⟩ (by simp) rfl)
            have n6 : L 6 = false := by
              cases h6 : L 6 with
              | false => rfl
              | true =>
                have h3 := hcl 6 _ rfl h6 ⟨3, .data⟩ (by simp) rfl
                have h2 := hcl 3 _ rfl h3 ⟨2, .data⟩ (by simp) rfl
                rw [hL] at h2; cases h2
            obtain rfl := hJ.1 n6
            refine wpOpIn_step rfl (fun K hK => ?_)
            dsimp only
            simp only [x1]
            go_simp
            refine hK _ _ ⟨.pointer (some ⟨k.K, 4, none⟩), ?_, rfl, hJ⟩
            simp [upd, x1]
          | 3, _ =>
            intro L t w hL hJ hX hdep hcl
            have x2 : t 2 = .pointer (some ⟨k.K, 4, none⟩) := hX 2 (hdep _ rfl ⟨2, .data⟩ (by simp) rfl)
            have n6 : L 6 = false := by
              cases h6 : L 6 with
              | false => rfl
              | true =>
                have h3 := hcl 6 _ rfl h6 ⟨3, .data⟩ (by simp) rfl
                rw [hL] at h3; cases h3
            obtain rfl := hJ.1 n6
            have q : w.cell? ⟨k.K, 4, none⟩ = some (.map (some k.mb)) := (blk_cell HW1.out.2.2.2.2.2 4).trans rfl
            refine wpOpIn_step rfl (fun K hK => ?_)
            dsimp only
            simp only [x2]
            go_simp
            refine hK _ _ ⟨.map (some k.mb), ?_, rfl, hJ⟩
            simp [upd, x2]
          | 4, _ =>
            intro L t w hL hJ hX hdep hcl
            have n6 : L 6 = false := by
              cases h6 : L 6 with
              | false => rfl
              | true =>
                have h4 := hcl 6 _ rfl h6 ⟨4, .data⟩ (by simp) rfl
                rw [hL] at h4; cases h4
            obtain rfl := hJ.1 n6
            have y0 : w.cell? ⟨P + 1, 0, none⟩ = some (.int .i64 watch) := (blk_cell (HW1.out.2.1) 0).trans rfl
            have y1 : w.cell? ⟨P + 1, 1, none⟩ = some (.int .i64 s.a0) := (blk_cell (HW1.out.2.1) 1).trans rfl
            have y2 : w.cell? ⟨P + 1, 2, none⟩ = some (.int .i64 s.b0) := (blk_cell (HW1.out.2.1) 2).trans rfl
            have y3 : w.cell? ⟨P + 1, 3, none⟩ = some (.int .i64 s.a1) := (blk_cell (HW1.out.2.1) 3).trans rfl
            have y4 : w.cell? ⟨P + 1, 4, none⟩ = some (.int .i64 s.b1) := (blk_cell (HW1.out.2.1) 4).trans rfl
            have y5 : w.cell? ⟨P + 1, 5, none⟩ = some (.int .i64 s.a2) := (blk_cell (HW1.out.2.1) 5).trans rfl
            have y6 : w.cell? ⟨P + 1, 6, none⟩ = some (.int .i64 s.b2) := (blk_cell (HW1.out.2.1) 6).trans rfl
            have y7 : w.cell? ⟨P + 1, 7, none⟩ = some (.int .i64 s.a3) := (blk_cell (HW1.out.2.1) 7).trans rfl
            have y8 : w.cell? ⟨P + 1, 8, none⟩ = some (.int .i64 s.b3) := (blk_cell (HW1.out.2.1) 8).trans rfl
            refine wpOpIn_step rfl (fun K hK => ?_)
            dsimp only
            go_simp
            refine hK _ _ ⟨.agg (s.spot watch), ?_, rfl, hJ⟩
            simp [upd, Std.spot]
          | 5, _ =>
            intro L t w hL hJ hX hdep hcl
            have n6 : L 6 = false := by
              cases h6 : L 6 with
              | false => rfl
              | true =>
                have h5 := hcl 6 _ rfl h6 ⟨5, .data⟩ (by simp) rfl
                rw [hL] at h5; cases h5
            obtain rfl := hJ.1 n6
            have q : w.cell? ⟨B5, 0, none⟩ = some (.int .i64 fv) := (blk_cell HW1.out.2.2.1 0).trans rfl
            refine wpOpIn_step rfl (fun K hK => ?_)
            dsimp only
            go_simp
            refine hK _ _ ⟨.int .i64 fv, ?_, rfl, hJ⟩
            simp [upd]
          | 6, _ =>
            intro L t w hL hJ hX hdep hcl
            have x3 : t 3 = .map (some k.mb) := hX 3 (hdep _ rfl ⟨3, .data⟩ (by simp) rfl)
            have x4 : t 4 = .agg (s.spot watch) := hX 4 (hdep _ rfl ⟨4, .data⟩ (by simp) rfl)
            have x5 : t 5 = .int .i64 fv := hX 5 (hdep _ rfl ⟨5, .data⟩ (by simp) rfl)
            obtain rfl := hJ.1 hL
            have hr := HRUN.out
            refine wpOpIn_step rfl (fun K hK => ?_)
            dsimp only
            simp only [x3, x4, x5]
            go_simp
            refine hK _ w9 ⟨undef, ?_, trivial, ⟨fun h => (by simp [setOn] at h), fun _ => rfl⟩⟩
            simp [upd, x3, x4, x5]
          | j + 7, h => exact absurd h (by omega)
        case doneY =>
          intro L t w8 hL hJ hX
          have x0 : t 0 = .pointer (some ⟨k.K, 0, none⟩) := hX 0 (by decide)
          have x1 : t 1 = .pointer (some ⟨k.K, 0, none⟩) := hX 1 (by decide)
          have x2 : t 2 = .pointer (some ⟨k.K, 4, none⟩) := hX 2 (by decide)
          have x3 : t 3 = .map (some k.mb) := hX 3 (by decide)
          have x4 : t 4 = .agg (s.spot watch) := hX 4 (by decide)
          have x5 : t 5 = .int .i64 fv := hX 5 (by decide)
          obtain rfl := hJ.2 (hL 6 (by decide))
          dsimp only
          simp only [x0, x1, x2, x3, x4, x5]
          clear x0 x1 x2 x3 x4 x5 hX hJ hL
          have hb5 : w8.heap[B5]? = some (.cells #[.int .i64 fv] 3 (0, 0)) := blk_grown HW1.out.2.2.1 H9.out.2 (fun r e => by cases e; omega)
          have q5 : w8.cell? ⟨B5, 0, none⟩ = some (.int .i64 fv) := (blk_cell hb5 0).trans rfl
          have hKD' : w8.heap[D]? = some (.deferred (some [])) := blk_grown HW1.out.2.2.2.1 H9.out.2 (fun r e => by cases e; omega)
          have HKD := Aside0.mk hKD'
          clear hb5 hKD'
          gi_wp2
          have hK' := HKD.out
          have hkp9 : KeepM P k.mb w w8 := HW1.out.2.2.2.2.1.trans (KeepM.grown H9.out.2 (by rw [HPP.out]; exact HW1.out.2.2.2.2.1.size) (fun r e => by cases e; exact .inl rfl))
          have hfin : KeepM P k.mb w (w8.putObj D (.deferred none)) := hkp9.trans (KeepM.put (by rw [HPP.out]; exact hkp9.size) (by omega) _)
          have hmfin : k.MapAt (w8.putObj D (.deferred none)) (n + cost (f + 1)) := (H9.out.1.grown (grownBy_putObj' _ D _) (fun r e => by cases e; omega)).more HX2.out
          rw [HPP.out] at hfin
          refine ⟨by simp, .inl ⟨_, _, rfl, run_takeDeferred hK', ?_⟩⟩
          refine ⟨.int .i64 fv, ?_, by rw [HFV.out], hfin.to_grown, hmfin⟩
          simp [results, Tryz.f85, go_sem]
      case stop =>
        intro D c pre W hD hS h
        exact h.elim
theorem few_all (k : Wk) (w0 : World) (hin : k.In w0) (hok : k.Ok) (hm : ∀ o, w0.heap[k.mb]? = some o → o.isCells = false) (hml : k.mb < w0.heap.size) (hlen : ∀ on ∈ k.lists, on.length ≤ 4) : ∀ f, Few k w0 f
  | 0 => few_zero k w0 hin hm hml
  | f + 1 => few_succ k w0 hin hok hm hml hlen f (few_all k w0 hin hok hm hml hlen f)
end Go.Proofs.YtekdacalkllipaaGreat.PR
end
section
namespace Go.Proofs
open Go.Shelf
def Tryz.lays114_ren : Go.Shelf.Ren := ⟨fun | 114 => 158 | n => n, fun | 28 => 22 | 3 => 3 | 4 => 4 | 9 => 9 | 20 => 20 | 0 => 0 | n => n, fun | n => n⟩
theorem Tryz.lays114 : Go.Proofs.Lays.n114 Tryz.prog Tryz.lays114_ren := {
  mixed := by kernel_rfl
  f114 := Tryz.func158.trans (congrArg some (by kernel_rfl))
  t0 := Tryz.underlying0
  a0 := Tryz.isAgg0
  z0 := Tryz.sizeOf0
  v0 := Tryz.zeroValue0
  t3 := Tryz.underlying3
  a3 := Tryz.isAgg3
  z3 := Tryz.sizeOf3
  v3 := Tryz.zeroValue3
  t4 := Tryz.underlying4
  a4 := Tryz.isAgg4
  z4 := Tryz.sizeOf4
  v4 := Tryz.zeroValue4
  t9 := Tryz.underlying9
  a9 := Tryz.isAgg9
  z9 := Tryz.sizeOf9
  v9 := Tryz.zeroValue9
  t20 := Tryz.underlying20
  a20 := Tryz.isAgg20
  z20 := Tryz.sizeOf20
  v20 := Tryz.zeroValue20
  t28 := Tryz.underlying22
  a28 := Tryz.isAgg22
  z28 := Tryz.sizeOf22
  v28 := Tryz.zeroValue22 }
open Go.Lib in
theorem Tryz.slices_Min_int (b off n c : Nat) (zs : List Int) (w : World) (hn : 0 < n) (hz : n ≤ zs.length) (hbig : n ≤ 9223372036854775807) (hc : ∀ j, j < zs.length → w.cell? ⟨b, off + j, none⟩ = some (.int .i64 (zs.getD j 0))) :
    Calls Tryz.prog 158 #[.slice (some ⟨b, off, none⟩) n c] w fun e w' => e = .returned (.int .i64 (Lib.minOf (zs.take n))) ∧ w' = w := Any.slices_Min_int Tryz.lays114 b off n c zs w hn hz hbig hc
def Tryz.laysNm215_ren : Go.Shelf.Ren := ⟨fun | 15 => 87 | n => n, fun | 22 => 22 | 3 => 3 | 4 => 4 | n => n, fun | n => n⟩
theorem Tryz.laysNm215 : Go.Proofs.Lays2.n15 Tryz.prog Tryz.laysNm215_ren := {
  mixed := by kernel_rfl
  f15 := Tryz.func87.trans (congrArg some (by kernel_rfl))
  t3 := Tryz.underlying3
  a3 := Tryz.isAgg3
  z3 := Tryz.sizeOf3
  v3 := Tryz.zeroValue3
  t4 := Tryz.underlying4
  a4 := Tryz.isAgg4
  z4 := Tryz.sizeOf4
  v4 := Tryz.zeroValue4
  t22 := Tryz.underlying22
  a22 := Tryz.isAgg22
  z22 := Tryz.sizeOf22
  v22 := Tryz.zeroValue22
  i3 := by kernel_rfl }
open Go.RowKit Go.Lib in
theorem Tryz.slices_Clone_int_nil (n c : Nat) (w : World) :
    Calls Tryz.prog 87 #[.slice none n c] w fun e w' => e = .returned (.slice none 0 0) ∧ w' = w := Any.slices_Clone_int_nil Tryz.laysNm215 n c w
end Go.Proofs
end
section
namespace Go.Proofs.YtekdacalkllipaaGreat.PR
open Go.RowKit Go.Shelf Go.Maps Go.Proofs.YtekdacalkllipaaGreatW.PrintWords Go.Proofs.YtekdacalkllipaaGreatW.PrintLast Go.Proofs.YtekdacalkllipaaGreatW.PrintMore
set_option linter.unusedVariables false
set_option linter.unusedSimpArgs false
attribute [local go_sem] Oper.semAt_some
attribute [local simp] wide_fn
def evs (n : Nat) : List Int := (List.range n).map fun i : Nat => (i : Int)
theorem evs_len (n : Nat) : (evs n).length = n := by simp [evs]
theorem evs_nodup (n : Nat) : (evs n).Nodup := by
  unfold evs List.Nodup
  rw [List.pairwise_map]
  exact List.nodup_range.imp (fun h e => h (by omega))
theorem evs_mem {n : Nat} {x : Int} : x ∈ evs n ↔ 0 ≤ x ∧ x < n := by
  simp only [evs, List.mem_map, List.mem_range]
  constructor
  · rintro ⟨a, h, rfl⟩; omega
  · rintro ⟨h1, h2⟩; exact ⟨x.toNat, by omega, by omega⟩
theorem everybody_f (l0 : List Int) (people : List S128) (cases : List (List Int)) (h : people.length ≤ 4) : rota_Post_everybody.f 6 l0 people cases = some (evs people.length) := by
  unfold rota_Post_everybody.f
  generalize people.length = n at *
  rcases (by omega : n = 0 ∨ n = 1 ∨ n = 2 ∨ n = 3 ∨ n = 4) with rfl | rfl | rfl | rfl | rfl <;> first | rfl | decide | kernel_rfl
theorem everybody_any (A0 : Option Addr) (c0 : Nat) (need : List Int) (A1 : Option Addr) (c1 : Nat) (people : List S128) (A2 : Option Addr) (c2 : Nat) (cases : List (List Int)) (w : World)
    (h0 : (Kd.int .i64).C w A0 need.length need) (hc0 : need.length ≤ c0) (h1 : k128.C w A1 people.length people) (hc1 : people.length ≤ c1) (h2 : (Kd.slice 3 (Kd.int .i64)).C w A2 cases.length cases) (hc2 : cases.length ≤ c2) (hp : people.length ≤ 4) :
    Calls Tryz.prog 83 #[.agg #[.slice A0 need.length c0, .slice A1 people.length c1, .slice A2 cases.length c2]] w fun e w' => ∃ A c, e = .returned (.slice A people.length c) ∧ (Kd.int .i64).C w' A people.length (evs people.length) ∧ Below w.heap.size w w' := by
  refine (rota_Post_everybody.calls 6 A0 c0 need A1 c1 people A2 c2 cases (evs people.length) w h0 hc0 h1 hc1 h2 hc2 (everybody_f _ _ _ hp)).mono ?_
  rintro e w' ⟨v, rfl, hR, hb⟩
  obtain ⟨A, c, rfl, _, hC⟩ := Kd.R_reads hR
  rw [evs_len] at hC
  exact ⟨A, c, by rw [evs_len], hC, hb⟩
theorem listsS_len (l : List Int) : (listsS l).length = 2 ^ l.length := by simp [listsS, sortL, List.length_mergeSort]
theorem map_new {k : Wk} {w : World} (h : w.heap[k.mb]? = some (.map #[] 0)) : k.MapAt w 0 := by
  obtain ⟨es, clock, h1, h2⟩ := World.ownsMap_made (H := Unit) w Tryz.prog 146 (plainElem Tryz.prog 3)
  rw [show (w.alloc (.map #[] 0)).heap[w.heap.size]? = some (.map #[] 0) from blk_new w _] at h1
  injection h1 with h1
  injection h1 with h3 h4
  subst h3; subst h4
  exact ⟨_, ⟨#[], 0, h, h2⟩, fun watch s _ _ _ hh => by rw [has_eq] at hh; cases hh⟩
theorem StayFrom.trans {b : Nat} {A B C : World} (h : StayFrom b A B) (k : StayFrom b B C) : StayFrom b A C := fun g o hg ho hc => k g o hg (h g o hg ho hc) hc
theorem StayFrom.mono {b b' : Nat} {A B : World} (h : StayFrom b A B) (hb : b ≤ b') : StayFrom b' A B := fun g o hg ho hc => h g o (Nat.le_trans hb hg) ho hc
theorem stay_alloc (b : Nat) (W : World) (o : Obj) : StayFrom b W (W.alloc o) := fun g o' _ ho _ => (Below.heap_alloc W o g (blk_lt ho)).trans ho
theorem stay_grown {b : Nat} {W W' : World} {row : Option Nat} (hg : W.grownBy W' row) (hr : ∀ r, row = some r → r < b ∨ ∀ o, W.heap[r]? = some o → o.isCells = false) : StayFrom b W W' := fun g o hb ho hc =>
  (hg.block g (blk_lt ho) (fun e => by
    rcases hr g e.symm with h | h
    · omega
    · rw [h o ho] at hc; cases hc)).trans ho
set_option maxRecDepth 100000 in
set_option maxHeartbeats 4000000 in
theorem work_any (A0 : Option Addr) (c0 : Nat) (need : List Int) (A1 : Option Addr) (c1 : Nat) (people : List S128) (A2 : Option Addr) (c2 : Nat) (cases : List (List Int)) (A3 : Option Addr) (c3 : Nat) (sm : List Int) (w : World)
    (h0 : (Kd.int .i64).C w A0 need.length need) (h1 : k128.C w A1 people.length people) (h2 : (Kd.slice 3 (Kd.int .i64)).C w A2 cases.length cases) (h3 : (Kd.int .i64).C w A3 sm.length sm) (hn : sm.length ≤ 4) (hnd : sm.Nodup) :
    Calls Tryz.prog 84 #[.agg #[.slice A0 need.length c0, .slice A1 people.length c1, .slice A2 cases.length c2], .slice A3 sm.length c3] w fun e w' => ∃ k : Wk, e = .returned (.pointer (some ⟨k.K, 0, none⟩)) ∧ k.need = need ∧ k.people = people ∧ k.cases = cases ∧ k.lists = listsS sm ∧ (∀ W', (Kd.int .i64).C W' A0 need.length need → k128.C W' A1 people.length people → (Kd.slice 3 (Kd.int .i64)).C W' A2 cases.length cases → StayFrom w.heap.size w' W' → k.In W') ∧ k.MapAt w' 0 ∧ (∀ o, w'.heap[k.mb]? = some o → o.isCells = false) ∧ w.heap.size ≤ k.mb ∧ k.mb < w'.heap.size ∧ Below w.heap.size w w' := by
  obtain ⟨P, hP⟩ : ∃ P, P = w.heap.size := ⟨_, rfl⟩
  obtain ⟨wA, hwA⟩ : ∃ wA, wA = w.alloc (.cells #[.slice A0 need.length c0, .slice A1 people.length c1, .slice A2 cases.length c2] 34) := ⟨_, rfl⟩
  have hbA : Below w.heap.size w wA := by rw [hwA]; exact below_alloc (Below.refl _ _) _
  have hP0 : wA.heap[P]? = some (.cells #[.slice A0 need.length c0, .slice A1 people.length c1, .slice A2 cases.length c2] 34 (0, 0)) := by rw [hwA, hP]; exact blk_new w _
  have HPW : Aside0 (P ≤ wA.heap.size) := ⟨by rw [hP]; exact hbA.size⟩
  have HBA := Aside0.mk hbA
  have HP0 := Aside0.mk hP0
  have HSOME := Aside0.mk (Kd.C_below h3 hbA)
  have HND := Aside0.mk hnd
  have HH := Aside0.mk (And.intro h0 (And.intro h1 h2))
  clear hbA hP0 h0 h1 h2 h3 hnd
  refine (callsIn_wide (n := 10)).1 ?_
  refine callsIn_of_wp_marks Tryz.func84 rfl trivial ?_ rfl
  simp only [Tryz.ntmps84, List.size_toArray, List.length_cons, List.length_nil, Nat.reduceAdd, Nat.reduceSub, Array.replicate_succ, Array.replicate_zero, List.push_toArray, List.append_toArray, List.nil_append, List.cons_append]
  gi_wp2
  rw [← hwA, ← hP]
  have HPP := Aside0.mk hP
  clear hwA hP
  refine region_mk (by kernel_rfl) (fun t => { tmps := #[.agg #[.slice A0 need.length c0, .slice A1 people.length c1, .slice A2 cases.length c2], .slice A3 sm.length c3, .pointer (some ⟨P, 0, none⟩), undef, t 6, t 0, t 1, t 2, t 3, t 4, t 5], defers := [] })
    (fun L t w => Below wA.heap.size wA w ∧ (L 2 = true → ∃ A4 c4, t 2 = .slice A4 (2 ^ sm.length) c4 ∧ ∀ W', StayFrom P w W' → (Kd.slice 3 (Kd.int .i64)).C W' A4 (2 ^ sm.length) (listsS sm)) ∧ (L 3 = true → ∃ mb, t 3 = .map (some mb) ∧ w.heap[mb]? = some (.map #[] 0) ∧ wA.heap.size ≤ mb) ∧ (L 4 = true → L 2 = true ∧ L 3 = true ∧ ∃ A4 c4 mb, t 2 = .slice A4 (2 ^ sm.length) c4 ∧ t 3 = .map (some mb) ∧ t 4 = .agg #[.slice A0 need.length c0, .slice A1 people.length c1, .slice A2 cases.length c2, .slice A4 (2 ^ sm.length) c4, .map (some mb)]) ∧ (L 5 = true → L 4 = true ∧ ∃ A4 c4 mb K, t 2 = .slice A4 (2 ^ sm.length) c4 ∧ t 3 = .map (some mb) ∧ t 5 = .pointer (some ⟨K, 0, none⟩) ∧ w.heap[K]? = some (.cells #[.slice A0 need.length c0, .slice A1 people.length c1, .slice A2 cases.length c2, .slice A4 (2 ^ sm.length) c4, .map (some mb)] 190 (0, 0)) ∧ wA.heap.size ≤ K) ∧ (L 6 = true → L 5 = true ∧ ∃ K, t 5 = .pointer (some ⟨K, 0, none⟩) ∧ t 6 = .pointer (some ⟨K, 0, none⟩)))
    (fun i v => match i with | 0 => v = .agg #[.slice A0 need.length c0, .slice A1 people.length c1, .slice A2 cases.length c2] | 1 => v = .slice A3 sm.length c3 | _ => True)
    (fun j => match j with | 6 => .pointer none | _ => undef) (by kernel_rfl) ⟨pw_below_drewN (Below.refl _ _) 1, by simp, by simp, by simp, by simp, by simp⟩ ?step ?done
  case step =>
    intro i hi
    have hi' : i < 7 := hi
    match i, hi' with
    | 0, _ =>
      intro L t w hL hJ hX hdep hcl
      have q0 : w.cell? ⟨P, 0, none⟩ = some (.slice A0 need.length c0) := (blk_cell (blk_below HP0.out hJ.1) 0).trans rfl
      have q1 : w.cell? ⟨P, 1, none⟩ = some (.slice A1 people.length c1) := (blk_cell (blk_below HP0.out hJ.1) 1).trans rfl
      have q2 : w.cell? ⟨P, 2, none⟩ = some (.slice A2 cases.length c2) := (blk_cell (blk_below HP0.out hJ.1) 2).trans rfl
      refine wpOpIn_step rfl (fun K hK => ?_)
      dsimp only
      go_simp
      refine hK _ _ ⟨.agg #[.slice A0 need.length c0, .slice A1 people.length c1, .slice A2 cases.length c2], ?_, rfl, hJ⟩
      simp [upd]
    | 1, _ =>
      intro L t w hL hJ hX hdep hcl
      refine wpOpIn_step rfl (fun K hK => ?_)
      dsimp only
      go_simp
      refine hK _ _ ⟨.slice A3 sm.length c3, ?_, rfl, hJ⟩
      simp [upd]
    | 2, _ =>
      intro L t w hL hJ hX hdep hcl
      have x1 : t 1 = .slice A3 sm.length c3 := hX 1 (hdep _ rfl ⟨1, .data⟩ (by simp) rfl)
      have n4 : L 4 = false := by
        cases h4 : L 4 with
        | false => rfl
        | true =>
          have h2 := hcl 4 _ rfl h4 ⟨2, .data⟩ (by simp) rfl
          rw [hL] at h2; cases h2
      have n5 : L 5 = false := by
        cases h5 : L 5 with
        | false => rfl
        | true =>
          have h4 := hcl 5 _ rfl h5 ⟨4, .data⟩ (by simp) rfl
          have h2 := hcl 4 _ rfl h4 ⟨2, .data⟩ (by simp) rfl
          rw [hL] at h2; cases h2
      have n6 : L 6 = false := by
        cases h6 : L 6 with
        | false => rfl
        | true =>
          have h5 := hcl 6 _ rfl h6 ⟨5, .data⟩ (by simp) rfl
          have h4 := hcl 5 _ rfl h5 ⟨4, .data⟩ (by simp) rfl
          have h2 := hcl 4 _ rfl h4 ⟨2, .data⟩ (by simp) rfl
          rw [hL] at h2; cases h2
      have HC := Aside0.mk (lists_own A3 c3 sm w (Kd.C_below HSOME.out hJ.1) hn HND.out)
      refine wpOpIn_step rfl (fun K hK => ?_)
      dsimp only
      simp only [x1]
      go_simp
      refine (callsIn_wide.2 HC.out).mono ?_
      rintro e w2 ⟨A4, c4, rfl, hC4, hb4⟩
      have hB2 : Below wA.heap.size wA w2 := hJ.1.trans (hb4.mono hJ.1.size)
      refine hK _ _ ⟨.slice A4 (2 ^ sm.length) c4, ?_, trivial, ⟨hB2, fun _ => ⟨A4, c4, rfl, fun W' h => hC4 W' (h.mono (by have := HPW.out; have := hJ.1.size; omega))⟩, fun h => ?_, fun h => ?_, fun h => ?_, fun h => ?_⟩⟩
      · simp [upd, x1]
      · obtain ⟨mb, e1, e2, e3⟩ := hJ.2.2.1 h; exact ⟨mb, e1, (hb4.block mb (blk_lt e2)).trans e2, e3⟩
      · rw [show setOn L 2 4 = L 4 from rfl, n4] at h; cases h
      · rw [show setOn L 2 5 = L 5 from rfl, n5] at h; cases h
      · rw [show setOn L 2 6 = L 6 from rfl, n6] at h; cases h
    | 3, _ =>
      intro L t w hL hJ hX hdep hcl
      have n4 : L 4 = false := by
        cases h4 : L 4 with
        | false => rfl
        | true =>
          have h3 := hcl 4 _ rfl h4 ⟨3, .data⟩ (by simp) rfl
          rw [hL] at h3; cases h3
      have n5 : L 5 = false := by
        cases h5 : L 5 with
        | false => rfl
        | true =>
          have h4 := hcl 5 _ rfl h5 ⟨4, .data⟩ (by simp) rfl
          have h3 := hcl 4 _ rfl h4 ⟨3, .data⟩ (by simp) rfl
          rw [hL] at h3; cases h3
      have n6 : L 6 = false := by
        cases h6 : L 6 with
        | false => rfl
        | true =>
          have h5 := hcl 6 _ rfl h6 ⟨5, .data⟩ (by simp) rfl
          have h4 := hcl 5 _ rfl h5 ⟨4, .data⟩ (by simp) rfl
          have h3 := hcl 4 _ rfl h4 ⟨3, .data⟩ (by simp) rfl
          rw [hL] at h3; cases h3
      have hmm := @run_makeMap Tryz.prog
      refine wpOpIn_step rfl (fun K hK => ?_)
      dsimp only
      go_simp
      refine hK _ (w.alloc (.map #[] 0)) ⟨.map (some w.heap.size), ?_, trivial, ⟨below_alloc hJ.1 _, fun h => ?_, fun h => ⟨w.heap.size, rfl, blk_new w _, hJ.1.size⟩, fun h => ?_, fun h => ?_, fun h => ?_⟩⟩
      · simp [upd]
      · obtain ⟨A4, c4, e1, e2⟩ := hJ.2.1 h; exact ⟨A4, c4, e1, fun W' h => e2 W' ((stay_alloc P w _).trans h)⟩
      · rw [show setOn L 3 4 = L 4 from rfl, n4] at h; cases h
      · rw [show setOn L 3 5 = L 5 from rfl, n5] at h; cases h
      · rw [show setOn L 3 6 = L 6 from rfl, n6] at h; cases h
    | 4, _ =>
      intro L t w hL hJ hX hdep hcl
      have x0 : t 0 = .agg #[.slice A0 need.length c0, .slice A1 people.length c1, .slice A2 cases.length c2] := hX 0 (hdep _ rfl ⟨0, .data⟩ (by simp) rfl)
      have n5 : L 5 = false := by
        cases h5 : L 5 with
        | false => rfl
        | true =>
          have h4 := hcl 5 _ rfl h5 ⟨4, .data⟩ (by simp) rfl
          rw [hL] at h4; cases h4
      have n6 : L 6 = false := by
        cases h6 : L 6 with
        | false => rfl
        | true =>
          have h5 := hcl 6 _ rfl h6 ⟨5, .data⟩ (by simp) rfl
          have h4 := hcl 5 _ rfl h5 ⟨4, .data⟩ (by simp) rfl
          rw [hL] at h4; cases h4
      have h2 := hdep _ rfl ⟨2, .data⟩ (by simp) rfl
      have h3 := hdep _ rfl ⟨3, .data⟩ (by simp) rfl
      obtain ⟨A4, c4, e2, hC4⟩ := hJ.2.1 h2
      obtain ⟨mb, e3, hmb, hmb2⟩ := hJ.2.2.1 h3
      have HC4 := Aside0.mk hC4
      have HMB := Aside0.mk hmb
      clear hC4 hmb
      refine wpOpIn_step rfl (fun K hK => ?_)
      dsimp only
      simp only [x0, e2, e3]
      go_simp
      refine hK _ _ ⟨.agg #[.slice A0 need.length c0, .slice A1 people.length c1, .slice A2 cases.length c2, .slice A4 (2 ^ sm.length) c4, .map (some mb)], ?_, trivial, ⟨hJ.1, hJ.2.1, hJ.2.2.1, fun _ => ⟨h2, h3, A4, c4, mb, e2, e3, rfl⟩, fun h => ?_, fun h => ?_⟩⟩
      · simp [upd, x0, e2, e3]
      · rw [show setOn L 4 5 = L 5 from rfl, n5] at h; cases h
      · rw [show setOn L 4 6 = L 6 from rfl, n6] at h; cases h
    | 5, _ =>
      intro L t w hL hJ hX hdep hcl
      have n6 : L 6 = false := by
        cases h6 : L 6 with
        | false => rfl
        | true =>
          have h5 := hcl 6 _ rfl h6 ⟨5, .data⟩ (by simp) rfl
          rw [hL] at h5; cases h5
      have h4 := hdep _ rfl ⟨4, .data⟩ (by simp) rfl
      obtain ⟨h2, h3, A4, c4, mb, e2, e3, e4⟩ := hJ.2.2.2.1 h4
      refine wpOpIn_step rfl (fun K hK => ?_)
      dsimp only
      simp only [e4]
      go_simp
      refine hK _ (w.alloc (.cells #[.slice A0 need.length c0, .slice A1 people.length c1, .slice A2 cases.length c2, .slice A4 (2 ^ sm.length) c4, .map (some mb)] 190)) ⟨.pointer (some ⟨w.heap.size, 0, none⟩), ?_, trivial, ⟨below_alloc hJ.1 _, fun h => ?_, fun h => ?_, fun h => hJ.2.2.2.1 h, fun _ => ⟨h4, A4, c4, mb, w.heap.size, e2, e3, rfl, blk_new w _, hJ.1.size⟩, fun h => ?_⟩⟩
      · simp [upd, e2, e3, e4]
      · obtain ⟨A4, c4, e1, e2⟩ := hJ.2.1 h; exact ⟨A4, c4, e1, fun W' h => e2 W' ((stay_alloc P w _).trans h)⟩
      · obtain ⟨mb, e1, e2, e3⟩ := hJ.2.2.1 h; exact ⟨mb, e1, blk_alloc e2 _, e3⟩
      · rw [show setOn L 5 6 = L 6 from rfl, n6] at h; cases h
    | 6, _ =>
      intro L t w hL hJ hX hdep hcl
      have h5 := hdep _ rfl ⟨5, .data⟩ (by simp) rfl
      obtain ⟨h4, A4, c4, mb, K', e2, e3, e5, hK5⟩ := hJ.2.2.2.2.1 h5
      have HK5 := Aside0.mk hK5
      clear hK5
      refine wpOpIn_step rfl (fun K hK => ?_)
      dsimp only
      simp only [e5]
      go_simp
      refine hK _ _ ⟨.pointer (some ⟨K', 0, none⟩), ?_, trivial, ⟨hJ.1, hJ.2.1, hJ.2.2.1, hJ.2.2.2.1, hJ.2.2.2.2.1, fun _ => ⟨h5, K', e5, rfl⟩⟩⟩
      simp [upd, e2, e3, e5]
    | j + 7, h => exact absurd h (by omega)
  case done =>
    intro L t w5 hL hJ hX
    have x0 : t 0 = .agg #[.slice A0 need.length c0, .slice A1 people.length c1, .slice A2 cases.length c2] := hX 0 (by decide)
    have x1 : t 1 = .slice A3 sm.length c3 := hX 1 (by decide)
    obtain ⟨A4, c4, e2, hC4⟩ := hJ.2.1 (hL 2 (by decide))
    obtain ⟨mb, e3, hmb, hmb2⟩ := hJ.2.2.1 (hL 3 (by decide))
    obtain ⟨_, A5, c5, mb', K, e2', e3', e5, hK⟩ := hJ.2.2.2.2.1 (hL 5 (by decide))
    rw [e2] at e2'; injection e2' with q1 q2 q3; subst q1; subst q3
    rw [e3] at e3'; injection e3' with q4; injection q4 with q4; subst q4
    obtain ⟨_, K', e5', e6⟩ := hJ.2.2.2.2.2 (hL 6 (by decide))
    rw [e5] at e5'; cases e5'
    have hbw := hJ.1
    try dsimp only
    simp only [e2, e3, e5, e6]
    clear hX hL e2 e3 e5 e6 hJ x0 x1
    have HB5 := Aside0.mk hbw
    have H5 := Aside0.mk (And.intro hC4 (And.intro hmb (And.intro hmb2 hK)))
    clear hC4 hmb hmb2 hK hbw
    gi_wp2
    have hle : w.heap.size ≤ mb := Nat.le_trans HBA.out.size H5.out.2.2.1
    have hbf : Below w.heap.size w w5 := HBA.out.trans (HB5.out.mono HBA.out.size)
    refine ⟨.pointer (some ⟨K, 0, none⟩), ?_, ⟨A0, c0, need, A1, c1, people, A2, c2, cases, A4, c4, listsS sm, K, mb⟩, rfl, rfl, rfl, rfl, rfl, fun W' g0 g1 g2 hst => ⟨g0, g1, g2, ?_, ?_⟩, map_new H5.out.2.1, ?_, hle, blk_lt H5.out.2.1, hbf⟩
    · simp [results, Tryz.f84, go_sem]
    · simp only [listsS_len]; exact H5.out.1 W' (by rw [HPP.out]; exact hst)
    · simp only [Wk.vals, listsS_len]; exact hst K _ (by rw [← HPP.out]; exact Nat.le_trans HPW.out H5.out.2.2.2.2) H5.out.2.2.2.1 rfl
    · intro o ho
      simp only [H5.out.2.1] at ho
      cases ho; rfl
end Go.Proofs.YtekdacalkllipaaGreat.PR
end
section
namespace Go.Proofs.YtekdacalkllipaaGreat.PR
open Go.RowKit Go.Shelf Go.Maps Go.Proofs.YtekdacalkllipaaGreatW.PrintWords Go.Proofs.YtekdacalkllipaaGreatW.PrintLast Go.Proofs.YtekdacalkllipaaGreatW.PrintMore
set_option linter.unusedVariables false
set_option linter.unusedSimpArgs false
theorem run_R_append {P : Program} {α : Type} (d : Kd α) {W : World} (base : Nat) (t ty e : TypeId) (z : Value) (bytes : Nat)
    (ht : P.underlying t = some (.slice e)) (hinfo : (P.info? e).map (fun i => (i.zero, i.size, i.bytes)) = some (some z, d.sz, bytes)) (hz : z.cells.size = d.sz) (hs0 : 0 < d.sz) (hb0 : 0 < bytes)
    (v : Value) (xs : List α) (p : α) (cs : List Value) (ok okp : Nat → Prop) (hp : d.M W base okp p cs) (hokp : ∀ k, okp k → ok k ∧ some k ≠ v.ownBlock) (hfresh : ∀ k, W.heap.size ≤ k → ok k)
    (HO : d.R e W base ok v xs) (hbase : base ≤ W.heap.size) (hl : (xs.length + 1) * bytes ≤ 140737488355328) :
    ∃ v1 w1, (Builtin.append_ #[t, t] ty #[v, .slice (some ⟨W.heap.size, 0, none⟩) 1 1]).run P (W.alloc (.cells cs.toArray e)) = .ok v1 w1 ∧ d.R e w1 base ok v1 (xs ++ [p]) ∧ W.grownBy w1 v.ownBlock := by
  obtain ⟨i0, hi, hzz⟩ := Option.map_eq_some_iff.1 hinfo
  simp only [Prod.mk.injEq] at hzz
  obtain ⟨hz0, hz1, hz2⟩ := hzz
  obtain ⟨h0, inner, hown, hr⟩ := HO
  have hlen : xs.length + 1 ≤ 140737488355328 := Nat.le_trans (Nat.le_mul_of_pos_right _ hb0) hl
  have hcl := d.K_len (d.K_of_M hp)
  obtain ⟨v1, w1, hrun, hown1, hg, _, hat⟩ := run_append_own_at (P := P) (W.alloc (.cells cs.toArray e)) base t ty e i0 z d.sz bytes ht hi hz0 hz1 hz2 hz hs0 v xs.length inner (hown.alloc _) ⟨W.heap.size, 0, none⟩ 1 1 cs (by rw [hcl]; simp)
    (by simpa using World.news_of_block (cs := cs.toArray) (t := e) (fr := (0, 0)) (heap_alloc_new W (.cells cs.toArray e))) (d.K_one (d.K_of_M hp)) (by simp only [maxLen]; omega) hl (by simp; omega)
  have hgg : W.grownBy w1 v.ownBlock := World.grownBy.trans (World.grownBy_alloc W _ _) hg
  refine ⟨v1, w1, hrun, Kd.R_appended h0 hr hp hokp hfresh hown1 hgg ?_, hgg⟩
  rcases hat with hat | hat
  · exact .inl hat
  · exact .inr ⟨_, hat, by simp⟩
theorem run_S_append {P : Program} {α : Type} (d : Kd α) {W : World} (base : Nat) (t ty e : TypeId) (z : Value) (bytes : Nat)
    (ht : P.underlying t = some (.slice e)) (hinfo : (P.info? e).map (fun i => (i.zero, i.size, i.bytes)) = some (some z, d.sz, bytes)) (hz : z.cells.size = d.sz) (hs0 : 0 < d.sz) (hb0 : 0 < bytes)
    (v : Value) (xs : List α) (p : α) (cs : List Value) (ok okp : Nat → Prop) (hp : d.M W base okp p cs) (hokp : ∀ k, okp k → ok k ∧ some k ≠ v.ownBlock) (hfresh : ∀ k, W.heap.size ≤ k → ok k)
    (HO : d.S e W base (fun k => ok k ∧ ¬ okp k) v xs) (hbase : base ≤ W.heap.size) (hl : (xs.length + 1) * bytes ≤ 140737488355328) :
    ∃ v1 w1, (Builtin.append_ #[t, t] ty #[v, .slice (some ⟨W.heap.size, 0, none⟩) 1 1]).run P (W.alloc (.cells cs.toArray e)) = .ok v1 w1 ∧ d.S e w1 base ok v1 (xs ++ [p]) ∧ W.grownBy w1 v.ownBlock := by
  obtain ⟨f, hf, hR⟩ := Kd.S_tag HO xs.length okp (fun _ hk h2 => h2.2 hk)
  obtain ⟨v1, w1, hrun, hr, hg⟩ := run_R_append (P := P) (Kd.tag f d) (W := W) base t ty e z bytes ht hinfo hz hs0 hb0 v xs.zipIdx (p, xs.length) cs ok okp (d.M_mono (fun k hk => ⟨hk, hf k hk⟩) hp) hokp hfresh (Kd.R_mono hR (fun _ hk => hk.1)) hbase (by rw [List.length_zipIdx]; exact hl)
  rw [← Kd.zip_snoc] at hr
  exact ⟨v1, w1, hrun, ⟨f, hr⟩, hg⟩
theorem append_wpIn {F : Fence} {n : Nat} {P : Program} {o : Oper} {a : Act} {w w1 : World} {K : Act → World → Prop} {Q : Exit → Act → World → Prop} {s x : Operand} {t : TypeId} {v xv v1 : Value}
    (ho : o.op = .call { callee := .builtin .append, args := #[s, x], argTypes := #[t, t] }) (hs : a.eval s = v) (hx : a.eval x = xv) (hrun : (Builtin.append_ #[t, t] o.type #[v, xv]).run P w = .ok v1 w1) (h : K (a.put o.dst v1) w1) : o.wpIn F n P a w K Q := by
  unfold Oper.wpIn
  refine ⟨by simp [Oper.about, ho, resolve, Target.leads, Sem.run_pure], ?_⟩
  rw [Oper.semAt_plain F _ _ (by rw [ho]; intro c hc'; cases hc')]
  simp [execOp, ho, resolve, invoke, builtin, hs, hx, hrun, Result.andThen]
  exact h
set_option maxHeartbeats 2000000 in
set_option maxRecDepth 100000 in
theorem clone_any (A : Option Addr) (c : Nat) (l : List Int) (w : World) (h : (Kd.int .i64).C w A l.length l) (hl : l.length ≤ 1000) :
    Calls Tryz.prog 87 #[.slice A l.length c] w fun e w' => ∃ v, e = .returned v ∧ (Kd.int .i64).R 3 w' w.heap.size (fun _ => True) v l ∧ Below w.heap.size w w' := by
  cases A with
  | none =>
    have h0 : l = [] := by
      cases l with
      | nil => rfl
      | cons x l => obtain ⟨ad, e, _⟩ := h.2.2 (by simp); cases e
    subst h0
    refine (Tryz.slices_Clone_int_nil _ c w).mono ?_
    rintro e w' ⟨rfl, rfl⟩
    exact ⟨_, rfl, Kd.R_nil _ _ _ _ _, Below.refl _ _⟩
  | some ad =>
    obtain ⟨i0, hi, hz0, hz1, hz2⟩ := info_parts (show (Tryz.prog.info? 3).map (fun i => (i.zero, i.size, i.bytes)) = some (some (.int .i64 0), 1, 8) by kernel_rfl)
    have q22 : ∀ (w : World) (a : Option Addr) (n c n' c' : Nat), (binOp .eql 22 (.slice a n c) (.slice none n' c')).run Tryz.prog w = .ok (.bool a.isNone) w := fun w a n c n' c' => Lib.run_eql_slice_nil w _ _ a n c n' c' Tryz.underlying22
    have hcell : ∀ j, j < l.length → w.cell? (ad.add j) = some (.int .i64 (l.getD j 0)) := fun j hj => by
      obtain ⟨ad', e, hx⟩ := Kd.at_int h (j : Int) (by omega) (by omega)
      cases e
      simpa [rd] using hx
    have HC := Aside0.mk hcell
    clear hcell h
    go_enter Tryz.func87, Tryz.ntmps87
    go_wp2_with (at_builtin; refine wpList_append_own _ rfl _ _ 22 rfl w.heap.size 3 i0 (.int .i64 0) 1 8 Tryz.underlying22 hi hz0 hz1 hz2 rfl (by decide) _ _ _ rfl (World.ownsRow_made w #[] 0 (Nat.le_refl _) (Nat.zero_le _) rfl) ad l.length c (l.map (Value.int .i64)) rfl ?qc1 ?qc2 ?qc3 ?qc4 ?qc5 ?qc6 ?_)
    case qc1 => simp
    case qc2 =>
      intro j u hj
      have hjl : j < l.length := by
        have := (List.getElem?_eq_some_iff.1 hj).1
        simpa using this
      refine Lib.cell?_alloc_some _ ?_
      rw [HC.out j hjl]
      have e : (l.map (Value.int .i64))[j]? = some (Value.int .i64 (l.getD j 0)) := by simp [List.getD, List.getElem?_eq_getElem hjl]
      rw [e] at hj
      exact hj
    case qc3 => intro u hu; obtain ⟨x, _, rfl⟩ := List.mem_map.1 hu; rfl
    case qc4 => unfold maxLen; omega
    case qc5 => omega
    case qc6 => simp
    intro v' w1 hown hgrow hnil
    have HOWN := Aside0.mk hown
    have HG := Aside0.mk hgrow
    clear hown hgrow hnil
    go_wp2
    go_ret
    have ho := HOWN.out
    try simp only [Nat.zero_add, List.nil_append] at ho
    exact ⟨v', rfl, Kd.R_of_own ho (fun _ _ => trivial), ((Below.refl _ w).alloc (Nat.le_refl _) _).grown HG.out (by simp) (by intro k hk; simp [Value.ownBlock] at hk; omega)⟩
end Go.Proofs.YtekdacalkllipaaGreat.PR
end
section
namespace Go.Proofs.YtekdacalkllipaaGreat.PR
open Go.RowKit Go.Shelf Go.Maps Go.Proofs.YtekdacalkllipaaGreatW.PrintWords Go.Proofs.YtekdacalkllipaaGreatW.PrintLast Go.Proofs.YtekdacalkllipaaGreatW.PrintMore
set_option linter.unusedVariables false
set_option linter.unusedSimpArgs false
attribute [local go_sem] Oper.semAt_some
attribute [local simp] wide_fn
def Wk.fit (k : Wk) (f : Nat) (watch : Int) (s : Std) (left : Int) (i : Nat) : Bool := ((rd_L1 k.lists i).length : Int) + k.few f (watch + 1) (afterS k.people watch (rd_L1 k.lists i) s).1 == left
def Wk.rows (k : Wk) : Nat → Int → Std → Int → List (List Int)
  | 0, _, _, _ => []
  | f + 1, watch, s, left =>
    match ((List.range k.lists.length).filter (k.can watch s)).find? (k.fit f watch s left) with
    | some i => rd_L1 k.lists i :: k.rows f (watch + 1) (afterS k.people watch (rd_L1 k.lists i) s).1 (left - (rd_L1 k.lists i).length)
    | none => []
def ecost : Nat → Nat
  | 0 => 0
  | f + 1 => 16 * cost f + ecost f
structure Leave (mb : Nat) (W W' : World) : Prop where
  size : W.heap.size ≤ W'.heap.size
  same : ∀ g o, g ≠ mb → W.heap[g]? = some o → o.isCells = false → W'.heap[g]? = some o
theorem Leave.refl (mb : Nat) (W : World) : Leave mb W W := ⟨Nat.le_refl _, fun _ _ _ h _ => h⟩
theorem Leave.trans {mb : Nat} {A B C : World} (h : Leave mb A B) (k : Leave mb B C) : Leave mb A C := ⟨Nat.le_trans h.size k.size, fun g o hg ho hc => k.same g o hg (h.same g o hg ho hc) hc⟩
theorem Leave.grown {mb : Nat} {W W' : World} {row : Option Nat} (hg : W.grownBy W' row) (hr : ∀ r, row = some r → r = mb ∨ ∃ o, W.heap[r]? = some o ∧ o.isCells = true) : Leave mb W W' :=
  ⟨hg.size, fun g o hne ho hc => (hg.block g (blk_lt ho) (fun e => by
    rcases hr g e.symm with h | ⟨o', h1, h2⟩
    · exact hne h
    · rw [ho] at h1; cases h1; rw [hc] at h2; cases h2)).trans ho⟩
theorem Leave.set {mb : Nat} {W : World} {b o : Nat} {v : Value} {cs : Array Value} {t : TypeId} (h : W.heap[b]? = some (.cells cs t (0, 0))) : Leave mb W (W.setCell ⟨b, o, none⟩ v) :=
  Leave.grown (grown_set W b o v) (fun r e => by cases e; exact .inr ⟨_, h, rfl⟩)
theorem Leave.keeps {mb B : Nat} {W W' : World} (h : Leave mb W W') (hB : mb < B) : KeepsFrom B W W' := ⟨h.size, fun k o hk ho hc => h.same k o (by omega) ho hc⟩
theorem leave_own {β : Type} {mb B : Nat} {w : World} (hw : w.heap.size ≤ B) : OwnFrom B (fun (_ : β) W => Leave mb w W) := fun s X Y row hs hg hr =>
  ⟨Nat.le_trans hs.size hg.size, fun g o hne ho hc => (hg.block g (blk_lt (hs.same g o hne ho hc)) (fun e => by
    have h1 := (hr g e.symm).1
    have h2 := blk_lt ho
    omega)).trans (hs.same g o hne ho hc)⟩
abbrev KR := Kd.slice 3 (Kd.int .i64)
theorem R_quiet {α : Type} {d : Kd α} {e base : Nat} {ok : Nat → Prop} {w w1 : World} {v : Value} {xs : List α} {row : Option Nat} (h : d.R e w base ok v xs) (hg : w.grownBy w1 row) (hr : ∀ r, row = some r → ∀ o, w.heap[r]? = some o → o.isCells = false) : d.R e w1 base ok v xs :=
  Kd.R_mono (Kd.R_move (Kd.R_bound h) (fun k hk => hg.block k hk.2.2.1 (fun e' => by
    obtain ⟨_, _, _, q, _, cs, hc⟩ := hk
    have := hr k e'.symm _ hc
    cases this))) (fun _ hk => hk.1)
theorem nc_ne {W : World} {b mb : Nat} {cs : Array Value} {t : TypeId} (hnc : ∀ o, W.heap[mb]? = some o → o.isCells = false) (h : W.heap[b]? = some (.cells cs t (0, 0))) : ∀ r, some mb = some r → r ≠ b := by
  intro r e e2
  injection e with e
  have := hnc _ (by rw [e, e2]; exact h)
  cases this
theorem ty_ne {W : World} {a b : Nat} {cs cs' : Array Value} {t t' : TypeId} (h : W.heap[a]? = some (.cells cs t (0, 0))) (h' : W.heap[b]? = some (.cells cs' t' (0, 0))) (hne : t ≠ t') : a ≠ b := by
  rintro rfl
  rw [h] at h'
  injection h' with h'
  injection h' with _ h'
  exact hne h'
structure Bx where
  w00 : World
  w0 : World
  b1 : Nat
  BP : Nat
  BW : Nat
  BR : Nat
  BE : Nat
  pA : Option Addr
  pc : Nat
  v1 : Value
  v2 : Value
structure Bx.Ok (x : Bx) (k : Wk) : Prop where
  le : x.w00.heap.size ≤ x.b1
  le1 : x.b1 ≤ x.w0.heap.size
  mb : x.b1 ≤ k.mb
  BR : x.w00.heap.size ≤ x.BR
  BR1 : x.BR < x.b1
  hin : ∀ W, Below x.w00.heap.size x.w00 W → StayFrom x.b1 x.w0 W → k.In W
def Bx.func (x : Bx) : Value := .func (.func 107) #[] #[.pointer (some ⟨x.BP, 0, none⟩), .pointer (some ⟨x.BW, 0, none⟩), .pointer (some ⟨x.BR, 0, none⟩), .pointer (some ⟨x.BE, 0, none⟩)]
structure Bx.Es (x : Bx) (k : Wk) (W : World) (n : Nat) (rows : List (List Int)) : Prop where
  old : Below x.w00.heap.size x.w00 W
  stay : StayFrom x.b1 x.w0 W
  sz : x.w0.heap.size ≤ W.heap.size
  map : k.MapAt W n
  bP : W.heap[x.BP]? = some (.cells #[.slice x.pA k.need.length x.pc, x.v1, x.v2] 34 (0, 0))
  bW : W.heap[x.BW]? = some (.cells #[.pointer (some ⟨k.K, 0, none⟩)] 137 (0, 0))
  bE : W.heap[x.BE]? = some (.cells #[x.func] 167 (0, 0))
  bR : ∃ v, W.heap[x.BR]? = some (.cells #[v] 24 (0, 0)) ∧ KR.S 22 W x.w0.heap.size (fun _ => True) v rows
theorem Bx.Es.more {x : Bx} {k : Wk} {W : World} {n n' : Nat} {rows : List (List Int)} (h : x.Es k W n rows) (hn : n ≤ n') : x.Es k W n' rows := ⟨h.old, h.stay, h.sz, h.map.more hn, h.bP, h.bW, h.bE, h.bR⟩
theorem Bx.Es.step {x : Bx} {k : Wk} {W W' : World} {n n' : Nat} {rows : List (List Int)} {row : Option Nat} (h : x.Es k W n rows) (hg : W.grownBy W' row) (hr : ∀ r, row = some r → x.w00.heap.size ≤ r ∧ ∀ o, W.heap[r]? = some o → o.isCells = false) (hm : k.MapAt W' n') : x.Es k W' n' rows := by
  have hb : ∀ {b : Nat} {cs : Array Value} {t : TypeId}, W.heap[b]? = some (.cells cs t (0, 0)) → W'.heap[b]? = some (.cells cs t (0, 0)) := fun {b cs t} hh => blk_grown hh hg (fun r e => by
    rintro rfl
    have := (hr r e).2 _ hh
    cases this)
  obtain ⟨v, h1, h2⟩ := h.bR
  exact ⟨h.old.grown hg h.old.size (fun r e => (hr r e).1), h.stay.trans (stay_grown hg (fun r e => .inr (hr r e).2)), Nat.le_trans h.sz hg.size, hm, hb h.bP, hb h.bW, hb h.bE, v, hb h1, (by obtain ⟨f9, h9⟩ := h2; exact ⟨f9, R_quiet h9 hg (fun r e => (hr r e).2)⟩)⟩
theorem es_own {x : Bx} {k : Wk} {B n : Nat} {rows : List (List Int)} (hB : x.w00.heap.size ≤ B) (hmb : k.mb < B) : OwnFrom B (fun (_ : Unit) W => x.Es k W n rows) := fun s X Y row hs hg hr =>
  hs.step hg (fun r e => ⟨Nat.le_trans hB (hr r e).1, fun o ho => by obtain ⟨_, o', h1, h2⟩ := hr r e; rw [ho] at h1; cases h1; exact h2⟩) (hs.map.grown hg (fun r e => by have := (hr r e).1; omega))
theorem Wk.MapAt.size {k : Wk} {w : World} {n : Nat} (h : k.MapAt w n) : k.mb < w.heap.size := by
  obtain ⟨D, ⟨es, clock, h1, _⟩, _⟩ := h
  exact blk_lt h1
def Ext (x : Bx) (k : Wk) (f : Nat) : Prop :=
  ∀ (watch : Int) (s : Std) (left : Int) (w : World) (n : Nat) (rows : List (List Int)), 0 ≤ watch → watch + f = k.need.length → s.ok → 0 ≤ left → left ≤ 1024 → rows.length + f ≤ 5 → x.Es k w n rows → n + ecost f < maxLen →
    Calls Tryz.prog 107 #[.agg (s.spot watch), .int .i64 left, .pointer (some ⟨x.BP, 0, none⟩), .pointer (some ⟨x.BW, 0, none⟩), .pointer (some ⟨x.BR, 0, none⟩), .pointer (some ⟨x.BE, 0, none⟩)] w fun e w' =>
      e = .returned (.tuple #[]) ∧ x.Es k w' (n + ecost f) (rows ++ k.rows f watch s left) ∧ Leave k.mb w w'
set_option maxRecDepth 100000 in
set_option maxHeartbeats 4000000 in
theorem ext_zero (x : Bx) (k : Wk) (hx : x.Ok k) : Ext x k 0 := by
  intro watch s left w n rows hw0 hwf hs hl0 hl1 hrl hes hn
  have hwz : watch = k.need.length := by omega
  subst hwz
  have k0 : ((w.alloc (.cells (s.spot k.need.length) 146)).alloc (.cells #[.int .i64 left] 3)).heap[x.BP]? = some (.cells #[.slice x.pA k.need.length x.pc, x.v1, x.v2] 34 (0, 0)) := blk_alloc (blk_alloc hes.bP _) _
  have q0 : ((w.alloc (.cells (s.spot k.need.length) 146)).alloc (.cells #[.int .i64 left] 3)).cell? ⟨x.BP, 0, none⟩ = some (.slice x.pA k.need.length x.pc) := (blk_cell k0 0).trans rfl
  have HES := Aside0.mk hes
  simp only [Std.spot] at q0 ⊢
  clear hes hn hs k0 hwf
  refine (callsIn_wide (n := 0)).1 ?_
  refine callsIn_of_wp_marks Tryz.func107 rfl trivial ?_ rfl
  simp only [Tryz.ntmps107, List.size_toArray, List.length_cons, List.length_nil, Nat.reduceAdd, Nat.reduceSub, Array.replicate_succ, Array.replicate_zero, List.push_toArray, List.append_toArray, List.nil_append, List.cons_append]
  gi_wp2
  have hg : w.grownBy ((w.alloc (.cells (s.spot k.need.length) 146)).alloc (.cells #[.int .i64 left] 3)) none := grown_trans (World.grownBy_alloc _ _ _) (World.grownBy_alloc _ _ _)
  refine ⟨.tuple #[], ?_, rfl, ?_, Leave.grown hg (fun r e => by cases e)⟩
  · simp [results, Tryz.f107, go_sem]
  · simp only [Wk.rows, List.append_nil]
    exact HES.out.step hg (fun r e => by cases e) ((HES.out.map.grown hg (fun r e => by cases e)).more (by simp))
def Fits (k : Wk) (w : World) (f : Nat) (watch : Int) (s : Std) (left : Int) (rows : List (List Int)) (xs : List (k.X w watch s)) (out : List (List Int)) : Prop :=
  ∃ pre y, xs = pre ++ [y] ∧ (∀ z ∈ pre, k.fit f watch s left z.1.1 = false) ∧ k.fit f watch s left y.1.1 = true ∧ out = rows ++ rd_L1 k.lists y.1.1 :: k.rows f (watch + 1) (afterS k.people watch (rd_L1 k.lists y.1.1) s).1 (left - (rd_L1 k.lists y.1.1).length)
theorem range_split {f : Nat → Bool} {m N : Nat} (h : m ≤ N) : ∃ r, (List.range N).filter f = (List.range m).filter f ++ r := by
  induction N with
  | zero => exact ⟨[], by rw [show m = 0 by omega]; simp⟩
  | succ N ih =>
    by_cases e : m = N + 1
    · exact ⟨[], by rw [e]; simp⟩
    · obtain ⟨r, hr⟩ := ih (by omega)
      rw [List.range_succ, List.filter_append, hr, List.append_assoc]
      exact ⟨_, rfl⟩
theorem Fits.rows {k : Wk} {w : World} {f : Nat} {watch : Int} {s : Std} {left : Int} {rows : List (List Int)} {xs : List (k.X w watch s)} {out : List (List Int)} (h : Fits k w f watch s left rows xs out) {m : Nat} (hm : m ≤ k.lists.length) (hS : xs.map (·.1.1) = (List.range m).filter (k.can watch s)) : out = rows ++ k.rows (f + 1) watch s left := by
  obtain ⟨pre, y, rfl, h1, h2, h3⟩ := h
  obtain ⟨r, hr⟩ := range_split (f := k.can watch s) hm
  have hf : ((List.range k.lists.length).filter (k.can watch s)).find? (k.fit f watch s left) = some y.1.1 := by
    rw [hr, ← hS, List.map_append, List.find?_append, List.find?_append]
    have : (pre.map (·.1.1)).find? (k.fit f watch s left) = none := by
      rw [List.find?_eq_none]
      intro q hq
      obtain ⟨z, hz, rfl⟩ := List.mem_map.1 hq
      simp [h1 z hz]
    rw [this]
    simp [h2]
  rw [h3, Wk.rows, hf]
theorem none_rows {k : Wk} {w : World} {f : Nat} {watch : Int} {s : Std} {left : Int} {xs : List (k.X w watch s)} (h : ∀ z ∈ xs, k.fit f watch s left z.1.1 = false) (hS : xs.map (·.1.1) = (List.range k.lists.length).filter (k.can watch s)) : k.rows (f + 1) watch s left = [] := by
  have hf : ((List.range k.lists.length).filter (k.can watch s)).find? (k.fit f watch s left) = none := by
    rw [← hS, List.find?_eq_none]
    intro q hq
    obtain ⟨z, hz, rfl⟩ := List.mem_map.1 hq
    simp [h z hz]
  rw [Wk.rows, hf]
set_option maxRecDepth 100000 in
set_option maxHeartbeats 4000000 in
theorem ext_succ (x : Bx) (k : Wk) (hx : x.Ok k) (hok : k.Ok) (hlen : ∀ on ∈ k.lists, on.length ≤ 4) (f : Nat) (ih : Ext x k f) : Ext x k (f + 1) := by
  intro watch s left w n rows hw0 hwf hs hl0 hl1 hrl hes hn
  have hn1 := hok.n1
  have hlt : watch < k.need.length := by omega
  have hinw := hx.hin w hes.old hes.stay
  have hmw := hes.map.size
  have hnc := hes.map.nocells
  have hw00 : x.w00.heap.size ≤ w.heap.size := hes.old.size
  have hmb0 : x.w00.heap.size ≤ k.mb := Nat.le_trans hx.le hx.mb
  obtain ⟨P, hP⟩ : ∃ P, P = w.heap.size := ⟨_, rfl⟩
  obtain ⟨wA, hwA⟩ : ∃ wA, wA = (w.alloc (.cells (s.spot watch) 146)).alloc (.cells #[.int .i64 left] 3) := ⟨_, rfl⟩
  have hgA : w.grownBy wA none := by rw [hwA]; exact grown_trans (World.grownBy_alloc _ _ _) (World.grownBy_alloc _ _ _)
  have hA0 : wA.heap[P]? = some (.cells (s.spot watch) 146 (0, 0)) := by rw [hwA, hP]; exact blk_alloc (blk_new w _) _
  have hA1 : wA.heap[P + 1]? = some (.cells #[.int .i64 left] 3 (0, 0)) := by rw [hwA, hP]; have := blk_new (w.alloc (.cells (s.spot watch) 146)) (.cells #[.int .i64 left] 3); rwa [World.size_alloc] at this
  have hsA : wA.heap.size = P + 2 := by rw [hwA, hP]; simp
  have hPA : wA.heap[x.BP]? = some (.cells #[.slice x.pA k.need.length x.pc, x.v1, x.v2] 34 (0, 0)) := by rw [hwA]; exact blk_alloc (blk_alloc hes.bP _) _
  have hWA : wA.heap[x.BW]? = some (.cells #[.pointer (some ⟨k.K, 0, none⟩)] 137 (0, 0)) := by rw [hwA]; exact blk_alloc (blk_alloc hes.bW _) _
  have q0 : ((w.alloc (.cells (s.spot watch) 146)).alloc (.cells #[.int .i64 left] 3)).cell? ⟨x.BP, 0, none⟩ = some (.slice x.pA k.need.length x.pc) := by rw [← hwA]; exact (blk_cell hPA 0).trans rfl
  have q1 : ((w.alloc (.cells (s.spot watch) 146)).alloc (.cells #[.int .i64 left] 3)).cell? ⟨x.BW, 0, none⟩ = some (.pointer (some ⟨k.K, 0, none⟩)) := by rw [← hwA]; exact (blk_cell hWA 0).trans rfl
  obtain ⟨wL, hwL⟩ : ∃ wL, wL = (wA.alloc (.cells #[.pointer (some ⟨k.K, 0, none⟩)] 137)).alloc (.cells (s.spot watch) 146) := ⟨_, rfl⟩
  have hszL : wL.heap.size = P + 4 := by rw [hwL]; simp [hsA]
  have hgL : wA.grownBy wL none := by rw [hwL]; exact grown_trans (World.grownBy_alloc _ _ _) (World.grownBy_alloc _ _ _)
  have hbL : w.grownBy wL none := grown_trans hgA hgL
  have hL0 : wL.heap[P]? = some (.cells (s.spot watch) 146 (0, 0)) := blk_grown hA0 hgL (by simp)
  have hL1 : wL.heap[P + 1]? = some (.cells #[.int .i64 left] 3 (0, 0)) := blk_grown hA1 hgL (by simp)
  have hLa : wL.heap[P + 2]? = some (.cells #[.pointer (some ⟨k.K, 0, none⟩)] 137 (0, 0)) := by
    rw [hwL]; have := blk_new wA (.cells #[.pointer (some ⟨k.K, 0, none⟩)] 137); rw [hsA] at this; exact blk_alloc this _
  have hLb : wL.heap[P + 3]? = some (.cells (s.spot watch) 146 (0, 0)) := by
    rw [hwL]; have := blk_new (wA.alloc (.cells #[.pointer (some ⟨k.K, 0, none⟩)] 137)) (.cells (s.spot watch) 146); rwa [World.size_alloc, hsA] at this
  have hkL : KeepM w.heap.size k.mb w wL := KeepM.below (below_none hbL)
  have hw0L : w.heap.size ≤ wL.heap.size := hbL.size
  have HST := Aside0.mk (next_stops Fence.wide 9 rfl (by omega) (P + 2) (P + 3) k w hinw hok hnc watch s hs hw0 hlt (by omega) (by omega) wL hkL hLa hLb)
  have hmapL : k.MapAt wL (n + 0 * cost f) := by rw [Nat.zero_mul]; exact hes.map.grown hbL (by simp)
  have HX := Aside0.mk hx
  have HOK := Aside0.mk hok
  have HLE := Aside0.mk hlen
  have HIH := Aside0.mk ih
  have HFEW : Aside0 (Few k w f) := ⟨few_all k w hinw hok hnc hmw hlen f⟩
  have HIN := Aside0.mk hinw
  have HNC := Aside0.mk hnc
  have HS := Aside0.mk hs
  have HES := Aside0.mk hes
  have HL0 := Aside0.mk hL0
  have HL1 := Aside0.mk hL1
  have HML := Aside0.mk hmapL
  have HKL := Aside0.mk hkL
  have HSZ := Aside0.mk hszL
  have HWF := Aside0.mk hwf
  have HN := Aside0.mk hn
  have hb : (watch == (k.need.length : Int)) = false := by rw [beq_eq_false_iff_ne]; omega
  have HPP := Aside0.mk hP
  have hpl : P + 2 = w.heap.size + 1 + 1 := by omega
  have hpl3 : P + 3 = w.heap.size + 1 + 1 + 1 := by omega
  have HPL := Aside0.mk (And.intro hpl hpl3)
  rw [hwA] at hwL
  have HWL := Aside0.mk hwL
  simp only [Std.spot] at q0 q1 ⊢
  clear hx hok hlen ih hinw hnc hs hes hgA hA0 hA1 hsA hPA hWA hwf hn hwL hwA hszL hgL hbL hL0 hL1 hLa hLb hkL hw0L hmapL hP hpl hpl3
  refine (callsIn_wide (n := 10)).1 ?_
  refine callsIn_of_wp_marks Tryz.func107 rfl trivial ?_ rfl
  simp only [Tryz.ntmps107, List.size_toArray, List.length_cons, List.length_nil, Nat.reduceAdd, Nat.reduceSub, Array.replicate_succ, Array.replicate_zero, List.push_toArray, List.append_toArray, List.nil_append, List.cons_append]
  gi_wp2_with fail
  refine (next_in Fence.wide _ trivial rfl k.K s watch _).mono ?_
  rintro e w' ⟨rfl, rfl⟩
  gi_wp2
  have hwL := HWL.out
  simp only [Std.spot] at hwL ⊢
  rw [← hwL]
  rw [← HPP.out]
  clear hwL q0 q1
  refine wpIn_rangeFunc_ownH rfl (by omega) (gf := 146) (lb := #[.pointer (some ⟨P + 1 + 1, 0, none⟩), .pointer (some ⟨P + 1 + 1 + 1, 0, none⟩)]) rfl trivial (enters_of Tryz.func146 (by kernel_rfl) rfl)
    HST.out (fun h k => h.trans k) (Keep2.b (by have := HSZ.out; have := HPP.out; omega) (by have := HSZ.out; omega) (by have := HSZ.out; omega)) (Below.refl _ _) (fun _ => rfl)
    (fun pre W => W.heap[P]? = some (.cells (s.spot watch) 146 (0, 0)) ∧ W.heap[P + 1]? = some (.cells #[.int .i64 left] 3 (0, 0)) ∧ k.MapAt W (n + pre.length * cost f) ∧ KeepM w.heap.size k.mb w W ∧ P + 4 ≤ W.heap.size ∧ ∀ z ∈ pre, k.fit f watch s left z.1.1 = false)
    (fun c xs W => c = .ret ∧ Leave k.mb w W ∧ ∃ out, Fits k w f watch s left rows xs out ∧ x.Es k W (n + ecost (f + 1)) out)
    (OwnFrom.and (blk_own _ _ _ _) (OwnFrom.and (blk_own _ _ _ _) (OwnFrom.and (map_own k (by have := HSZ.out; have := HPP.out; omega) _) (OwnFrom.and (keepM_own (by have := HSZ.out; have := HPP.out; omega) (Nat.le_refl _)) (OwnFrom.and (size_own _ _) (ownFrom_pure _ _))))))
    (fun c => OwnFrom.and (ownFrom_pure _ (fun _ => _)) (OwnFrom.and (leave_own (by have := HSZ.out; have := HPP.out; omega)) (fun xs X Y row ⟨out, h1, h2⟩ hg hr => ⟨out, h1, es_own (by have := HSZ.out; have := HPP.out; omega) (by have := HSZ.out; have := HPP.out; omega) () X Y row h2 hg hr⟩)))
    ⟨HL0.out, HL1.out, HML.out, HKL.out, by have := HSZ.out; omega, by simp⟩
    (fun x' a' W => ∃ B8, a' = { tmps := #[.agg #[.int .i64 watch, .int .i64 s.a0, .int .i64 s.b0, .int .i64 s.a1, .int .i64 s.b1, .int .i64 s.a2, .int .i64 s.b2, .int .i64 s.a3, .int .i64 s.b3], .int .i64 left, .pointer (some ⟨x.BP, 0, none⟩), .pointer (some ⟨x.BW, 0, none⟩), .pointer (some ⟨x.BR, 0, none⟩), .pointer (some ⟨x.BE, 0, none⟩), .pointer (some ⟨P, 0, none⟩), .pointer (some ⟨P + 1, 0, none⟩), x'.1.2, .pointer (some ⟨B8, 0, none⟩), .pointer (some ⟨P, 0, none⟩), .int .i64 watch, .pointer (some ⟨x.BP, 0, none⟩), .slice x.pA k.need.length x.pc, .int .i64 (k.need.length : Int), .bool false, .pointer (some ⟨k.K, 0, none⟩), .agg #[.int .i64 watch, .int .i64 s.a0, .int .i64 s.b0, .int .i64 s.a1, .int .i64 s.b1, .int .i64 s.a2, .int .i64 s.b2, .int .i64 s.a3, .int .i64 s.b3], .func (.func 146) #[] #[.pointer (some ⟨P + 1 + 1, 0, none⟩), .pointer (some ⟨P + 1 + 1 + 1, 0, none⟩)], x'.1.2, .agg ((afterS k.people watch (rd_L1 k.lists x'.1.1) s).1.spot (watch + 1)), undef, undef, undef, undef, undef, undef, undef, undef, undef, undef, undef, undef, undef, undef, undef, undef, undef, undef, undef, undef], defers := [] } ∧ W.heap[B8]? = some (.cells ((afterS k.people watch (rd_L1 k.lists x'.1.1) s).1.spot (watch + 1)) 146 (0, 0)))
    (fun x' a' s X Y row ⟨B8, e, h⟩ hg hr => ⟨B8, e, blk_own _ _ _ _ () X Y row h hg hr⟩) ?assign ?body ?done ?stop
  case assign =>
    rintro l pre x' W K ⟨b0, b1, hmp, hkp, hsW, hnf⟩ hK
    obtain ⟨s', hs'⟩ : ∃ s', s' = (afterS k.people watch (rd_L1 k.lists x'.1.1) s).1 := ⟨_, rfl⟩
    rw [← hs'] at hK ⊢
    have HQ := Aside0.mk hK
    have HI := Aside0.mk (And.intro b0 (And.intro b1 (And.intro hmp (And.intro hkp hnf))))
    have hPW := HPP.out
    have HPW := Aside0.mk hPW
    have hwW : w.heap.size ≤ W.heap.size := hkp.size
    clear hK b0 b1 hmp hkp hs' hnf hPW
    simp only [Std.spot]
    gi_wp2
    refine HQ.out _ _ ((KeepsOthers.alloc _ _).from _) ⟨KeepM.alloc hwW _, Below.heap_alloc _ _ _ (by omega), Below.heap_alloc _ _ _ (by omega)⟩
      ⟨blk_alloc HI.out.1 _, blk_alloc HI.out.2.1 _, HI.out.2.2.1.grown (World.grownBy_alloc _ _ none) (by simp), HI.out.2.2.2.1.trans (KeepM.alloc hwW _), by simp; omega, HI.out.2.2.2.2⟩ ⟨W.heap.size, rfl, blk_new W _⟩
  case body =>
    rintro l pre x' a' W hl ⟨rr, hrr⟩ ⟨b0, b1, hmp, hkp, hsW, hnf⟩ ⟨B8, rfl, b8⟩ hlen
    obtain ⟨hi, hcan, A, cc, hv, hC⟩ := x'.2
    obtain ⟨on, hon⟩ : ∃ on, on = rd_L1 k.lists x'.1.1 := ⟨_, rfl⟩
    obtain ⟨s', hs'⟩ : ∃ s', s' = (afterS k.people watch (rd_L1 k.lists x'.1.1) s).1 := ⟨_, rfl⟩
    obtain ⟨ln, hln⟩ : ∃ ln, ln = (rd_L1 k.lists x'.1.1).length := ⟨_, rfl⟩
    obtain ⟨fv, hfv⟩ : ∃ fv, fv = k.few f (watch + 1) s' := ⟨_, rfl⟩
    obtain ⟨m2, hm2⟩ : ∃ m2, m2 = n + pre.length * cost f := ⟨_, rfl⟩
    have hmem : rd_L1 k.lists x'.1.1 ∈ k.lists := by simp [rd_L1, List.getElem_mem, hi]
    have hl4 : ln ≤ 4 := by rw [hln]; exact HLE.out _ hmem
    have hfvb : 0 ≤ fv ∧ fv ≤ 1024 := by rw [hfv]; exact k.few_bd _ _ _
    have hsok : s'.ok := by rw [hs']; exact afterS_ok k.people k.need HOK.out.v watch hw0 (by omega) HOK.out.p1 _ _ HS.out (HOK.out.l _ hmem)
    have hm16 : pre.length * cost f + cost f ≤ 16 * cost f := by
      have h2 : pre.length + 1 ≤ 16 := by have := HOK.out.l1; omega
      calc pre.length * cost f + cost f = (pre.length + 1) * cost f := by rw [Nat.add_mul]; omega
        _ ≤ 16 * cost f := Nat.mul_le_mul_right _ h2
    have hm3 : m2 + cost f + ecost f ≤ n + ecost (f + 1) := by
      show m2 + cost f + ecost f ≤ n + (16 * cost f + ecost f)
      omega
    have hm4 : m2 + cost f < maxLen := by have := HN.out; omega
    have HM2 : Aside0 (n + (pre ++ [x']).length * cost f = m2 + cost f) := ⟨by rw [List.length_append, List.length_singleton, Nat.add_mul, hm2]; omega⟩
    have HFIT : Aside0 (k.fit f watch s left x'.1.1 = (((ln : Int) + fv) == left)) := ⟨by rw [Wk.fit, ← hln, ← hs', ← hfv]⟩
    have HOUT : Aside0 (rows ++ rd_L1 k.lists x'.1.1 :: k.rows f (watch + 1) (afterS k.people watch (rd_L1 k.lists x'.1.1) s).1 (left - (rd_L1 k.lists x'.1.1).length) = rows ++ [on] ++ k.rows f (watch + 1) s' (left - (ln : Int))) := ⟨by rw [← hs', ← hln, ← hon, List.append_assoc]; rfl⟩
    have HONL : Aside0 (on.length = ln) := ⟨by rw [hon, hln]⟩
    rw [← hs'] at b8
    rw [← hm2] at hmp
    rw [← hln] at hv
    rw [← hln, ← hon] at hC
    rw [← hs', hv]
    have hw8 := blk_lt b8
    have hesW : x.Es k W m2 rows := HES.out.step hkp.to_grown (fun r e => by cases e; exact ⟨hmb0, HNC.out⟩) hmp
    have hwW : w.heap.size ≤ W.heap.size := hkp.size
    have hncW := hmp.nocells
    have HW := Aside0.mk (And.intro b0 (And.intro b1 (And.intro hmp (And.intro hkp b8))))
    have HESW := Aside0.mk hesW
    have HNCW := Aside0.mk hncW
    have hne8 : ∀ r, some k.mb = some r → r ≠ B8 := nc_ne hncW b8
    have HNE8 := Aside0.mk hne8
    have HFV := Aside0.mk hfv
    have HSOK := Aside0.mk hsok
    have HM3 := Aside0.mk (And.intro hm3 hm4)
    have HNF := Aside0.mk hnf
    have HCC := Aside0.mk hC
    obtain ⟨bq, hbq⟩ : ∃ bq, bq = (((ln : Int) + fv) == left) := ⟨_, rfl⟩
    have HBQ := Aside0.mk hbq
    clear hs' hln hfv hm2 hmem hsok hm3 hm4 hm16 b0 b1 hmp hkp b8 hv hC hcan hi hrr hne8 hon hesW hncW hnf hbq
    gi_wp2
    refine region_mk_round rfl (by kernel_rfl) (by rfl) (fun t => { tmps := #[.agg #[.int .i64 watch, .int .i64 s.a0, .int .i64 s.b0, .int .i64 s.a1, .int .i64 s.b1, .int .i64 s.a2, .int .i64 s.b2, .int .i64 s.a3, .int .i64 s.b3], .int .i64 left, .pointer (some ⟨x.BP, 0, none⟩), .pointer (some ⟨x.BW, 0, none⟩), .pointer (some ⟨x.BR, 0, none⟩), .pointer (some ⟨x.BE, 0, none⟩), .pointer (some ⟨P, 0, none⟩), .pointer (some ⟨P + 1, 0, none⟩), .slice A ln cc, .pointer (some ⟨B8, 0, none⟩), .pointer (some ⟨P, 0, none⟩), .int .i64 watch, .pointer (some ⟨x.BP, 0, none⟩), .slice x.pA k.need.length x.pc, .int .i64 (k.need.length : Int), .bool false, .pointer (some ⟨k.K, 0, none⟩), .agg #[.int .i64 watch, .int .i64 s.a0, .int .i64 s.b0, .int .i64 s.a1, .int .i64 s.b1, .int .i64 s.a2, .int .i64 s.b2, .int .i64 s.a3, .int .i64 s.b3], .func (.func 146) #[] #[.pointer (some ⟨P + 1 + 1, 0, none⟩), .pointer (some ⟨P + 1 + 1 + 1, 0, none⟩)], .slice A ln cc, .agg (s'.spot (watch + 1)), t 0, t 1, t 2, t 3, t 4, t 5, t 6, t 7, undef, undef, undef, undef, undef, undef, undef, undef, undef, undef, undef, undef], defers := [] })
      (fun L t w' => W.grownBy w' (some k.mb) ∧ (L 4 = false → w'.heap[k.mb]? = W.heap[k.mb]?) ∧ (L 4 = true → k.MapAt w' (m2 + cost f)))
      (fun ix v => match ix with | 0 => v = .slice A ln cc | 1 => v = .int .i64 (ln : Int) | 2 => v = .pointer (some ⟨k.K, 0, none⟩) | 3 => v = .agg (s'.spot (watch + 1)) | 4 => v = .int .i64 fv | 5 => v = .int .i64 ((ln : Int) + fv) | 6 => v = .int .i64 left | 7 => v = .bool bq | _ => True)
      (fun j => undef) (by kernel_rfl) ⟨grown_any (grown_drewN W 1) _, fun _ => rfl, by simp⟩ ?stepX ?doneX
    case stepX =>
      intro ix hix
      have hi' : ix < 8 := hix
      match ix, hi' with
      | 0, _ =>
        intro L t w' hL hJ hX hdep hcl
        refine wpOpIn_step rfl (fun K hK => ?_)
        dsimp only
        go_simp
        refine hK _ _ ⟨.slice A ln cc, ?_, rfl, hJ⟩
        simp [upd]
      | 1, _ =>
        intro L t w' hL hJ hX hdep hcl
        have x0 : t 0 = .slice A ln cc := hX 0 (hdep _ rfl ⟨0, .data⟩ (by simp) rfl)
        refine wpOpIn_step rfl (fun K hK => ?_)
        dsimp only
        simp only [x0]
        go_simp
        refine hK _ _ ⟨.int .i64 (ln : Int), ?_, rfl, hJ⟩
        simp [upd, x0]
      | 2, _ =>
        intro L t w' hL hJ hX hdep hcl
        have q : w'.cell? ⟨x.BW, 0, none⟩ = some (.pointer (some ⟨k.K, 0, none⟩)) := (blk_cell (blk_grown HESW.out.bW hJ.1 (nc_ne HNCW.out HESW.out.bW)) 0).trans rfl
        refine wpOpIn_step rfl (fun K hK => ?_)
        dsimp only
        go_simp
        refine hK _ _ ⟨.pointer (some ⟨k.K, 0, none⟩), ?_, rfl, hJ⟩
        simp [upd]
      | 3, _ =>
        intro L t w' hL hJ hX hdep hcl
        have b8' := blk_grown HW.out.2.2.2.2 hJ.1 HNE8.out
        have y0 : w'.cell? ⟨B8, 0, none⟩ = some (.int .i64 (watch + 1)) := (blk_cell (b8') 0).trans rfl
        have y1 : w'.cell? ⟨B8, 1, none⟩ = some (.int .i64 s'.a0) := (blk_cell (b8') 1).trans rfl
        have y2 : w'.cell? ⟨B8, 2, none⟩ = some (.int .i64 s'.b0) := (blk_cell (b8') 2).trans rfl
        have y3 : w'.cell? ⟨B8, 3, none⟩ = some (.int .i64 s'.a1) := (blk_cell (b8') 3).trans rfl
        have y4 : w'.cell? ⟨B8, 4, none⟩ = some (.int .i64 s'.b1) := (blk_cell (b8') 4).trans rfl
        have y5 : w'.cell? ⟨B8, 5, none⟩ = some (.int .i64 s'.a2) := (blk_cell (b8') 5).trans rfl
        have y6 : w'.cell? ⟨B8, 6, none⟩ = some (.int .i64 s'.b2) := (blk_cell (b8') 6).trans rfl
        have y7 : w'.cell? ⟨B8, 7, none⟩ = some (.int .i64 s'.a3) := (blk_cell (b8') 7).trans rfl
        have y8 : w'.cell? ⟨B8, 8, none⟩ = some (.int .i64 s'.b3) := (blk_cell (b8') 8).trans rfl
        refine wpOpIn_step rfl (fun K hK => ?_)
        dsimp only
        go_simp
        refine hK _ _ ⟨.agg (s'.spot (watch + 1)), ?_, rfl, hJ⟩
        simp [upd, Std.spot]
      | 4, _ =>
        intro L t w' hL hJ hX hdep hcl
        have x2 : t 2 = .pointer (some ⟨k.K, 0, none⟩) := hX 2 (hdep _ rfl ⟨2, .data⟩ (by simp) rfl)
        have x3 : t 3 = .agg (s'.spot (watch + 1)) := hX 3 (hdep _ rfl ⟨3, .data⟩ (by simp) rfl)
        have hc := HFEW.out (watch + 1) s' w' m2 (by omega) (by have := HWF.out; omega) HSOK.out (HW.out.2.2.2.1.trans (KeepM.grown hJ.1 hwW (fun r e => by cases e; exact .inl rfl))) (HW.out.2.2.1.block (hJ.2.1 hL)) HM3.out.2
        have HC := Aside0.mk hc
        clear hc
        refine wpOpIn_step rfl (fun K hK => ?_)
        dsimp only
        simp only [x2, x3]
        go_simp
        refine (callsIn_wide.2 HC.out).mono ?_
        rintro e w2 ⟨rfl, hg2, hmp2⟩
        refine hK _ _ ⟨.int .i64 fv, ?_, rfl, ⟨grown_trans hJ.1 hg2, fun h => (by simp [setOn] at h), fun _ => hmp2⟩⟩
        simp [upd, x2, x3, HFV.out]
      | 5, _ =>
        intro L t w' hL hJ hX hdep hcl
        have x1 : t 1 = .int .i64 (ln : Int) := hX 1 (hdep _ rfl ⟨1, .data⟩ (by simp) rfl)
        have x4 : t 4 = .int .i64 fv := hX 4 (hdep _ rfl ⟨4, .data⟩ (by simp) rfl)
        have hwrap : IntKind.i64.wrap ((ln : Int) + fv) = (ln : Int) + fv := by rw [IntKind.wrap_i64]; omega
        refine wpOpIn_step rfl (fun K hK => ?_)
        dsimp only
        simp only [x1, x4]
        go_simp
        refine hK _ _ ⟨.int .i64 ((ln : Int) + fv), ?_, rfl, hJ⟩
        simp [upd, x1, x4]
      | 6, _ =>
        intro L t w' hL hJ hX hdep hcl
        have q : w'.cell? ⟨P + 1, 0, none⟩ = some (.int .i64 left) := (blk_cell (blk_grown HW.out.2.1 hJ.1 (nc_ne HNCW.out HW.out.2.1)) 0).trans rfl
        refine wpOpIn_step rfl (fun K hK => ?_)
        dsimp only
        go_simp
        refine hK _ _ ⟨.int .i64 left, ?_, rfl, hJ⟩
        simp [upd]
      | 7, _ =>
        intro L t w' hL hJ hX hdep hcl
        have x5 : t 5 = .int .i64 ((ln : Int) + fv) := hX 5 (hdep _ rfl ⟨5, .data⟩ (by simp) rfl)
        have x6 : t 6 = .int .i64 left := hX 6 (hdep _ rfl ⟨6, .data⟩ (by simp) rfl)
        have hbq' : (((ln : Int) + fv) == left) = bq := HBQ.out.symm
        refine wpOpIn_step rfl (fun K hK => ?_)
        dsimp only
        simp only [x5, x6]
        go_simp
        refine hK _ _ ⟨.bool bq, ?_, rfl, hJ⟩
        simp [upd, x5, x6]
      | j + 8, h => exact absurd h (by omega)
    case doneX =>
      intro L t w8 hL hJ hX
      have x0 : t 0 = .slice A ln cc := hX 0 (by decide)
      have x1 : t 1 = .int .i64 (ln : Int) := hX 1 (by decide)
      have x2 : t 2 = .pointer (some ⟨k.K, 0, none⟩) := hX 2 (by decide)
      have x3 : t 3 = .agg (s'.spot (watch + 1)) := hX 3 (by decide)
      have x4 : t 4 = .int .i64 fv := hX 4 (by decide)
      have x5 : t 5 = .int .i64 ((ln : Int) + fv) := hX 5 (by decide)
      have x6 : t 6 = .int .i64 left := hX 6 (by decide)
      have x7 : t 7 = .bool bq := hX 7 (by decide)
      have hg8 := hJ.1
      have hm8 := hJ.2.2 (hL 4 (by decide))
      dsimp only
      simp only [x0, x1, x2, x3, x4, x5, x6, x7]
      have HG8 := Aside0.mk hg8
      have HM8 := Aside0.mk hm8
      clear x0 x1 x2 x3 x4 x5 x6 x7 hX hJ hL hg8 hm8
      cases bq with
      | false =>
        gi_wp2
        have hga := HG8.out
        refine ⟨KeepsFrom.of_grownBy hga (fun j e => by cases e; have := HSZ.out; have := HPP.out; omega), ⟨KeepM.grown hga hwW (fun r e => by cases e; exact .inl rfl), hga.block _ (by omega) (by have := HPP.out; intro e; injection e with e; omega), hga.block _ (by omega) (by have := HPP.out; intro e; injection e with e; omega)⟩,
          blk_grown HW.out.1 hga (nc_ne HNCW.out HW.out.1), blk_grown HW.out.2.1 hga (nc_ne HNCW.out HW.out.2.1), ?_, HW.out.2.2.2.1.trans (KeepM.grown hga hwW (fun r e => by cases e; exact .inl rfl)), Nat.le_trans hsW hga.size, ?_⟩
        · rw [HM2.out]; exact HM8.out
        · intro z hz
          rcases List.mem_append.1 hz with h | h
          · exact HNF.out z h
          · obtain rfl := List.mem_singleton.1 h
            rw [HFIT.out, ← HBQ.out]
      | true =>
        have hsum : (ln : Int) + fv = left := by have h := HBQ.out; exact beq_iff_eq.1 h.symm
        have HSUM := Aside0.mk hsum
        obtain ⟨m3, hm3⟩ : ∃ m3, m3 = m2 + cost f := ⟨_, rfl⟩
        have hes8 : x.Es k w8 m3 rows := by rw [hm3]; exact HESW.out.step HG8.out (fun r e => by cases e; exact ⟨hmb0, HNCW.out⟩) HM8.out
        obtain ⟨wd, hwd⟩ : ∃ wd, wd = w8.drew := ⟨_, rfl⟩
        have hesd : x.Es k wd m3 rows := by rw [hwd]; exact hes8.step (grown_drewN w8 1) (fun r e => by cases e) (hes8.map.grown (grown_drewN w8 1) (fun r e => by cases e))
        have hgd : W.grownBy wd (some k.mb) := by rw [hwd]; exact grown_trans HG8.out (grown_any (grown_drewN w8 1) _)
        obtain ⟨vr, hv1, hv2⟩ := hesd.bR
        obtain ⟨Ar, cr, hvr⟩ := Kd.S_slice hv2
        obtain ⟨nr, hnr⟩ : ∃ nr, nr = rows.length := ⟨_, rfl⟩
        rw [← hnr] at hvr
        subst hvr
        have hCd : (Kd.int .i64).C wd A ln on := C_stay (stay_int _) ((HW.out.2.2.2.1.trans (KeepM.grown hgd hwW (fun r e => by cases e; exact .inl rfl))).cells HNC.out) HCC.out
        have hb0d := blk_grown HW.out.1 hgd (nc_ne HNCW.out HW.out.1)
        have hb1d := blk_grown HW.out.2.1 hgd (nc_ne HNCW.out HW.out.2.1)
        have hb8d := blk_grown HW.out.2.2.2.2 hgd HNE8.out
        have HD := Aside0.mk (And.intro hv1 (And.intro hv2 (And.intro hCd (And.intro hb1d hb8d))))
        have HESD := Aside0.mk hesd
        have HGD := Aside0.mk hgd
        have HNR := Aside0.mk hnr
        have HWD := Aside0.mk hwd
        have HM3E := Aside0.mk hm3
        have hclone : Aside0 (Calls Tryz.prog 87 #[.slice A ln cc] wd fun e w' => ∃ v, e = .returned v ∧ (Kd.int .i64).R 3 w' wd.heap.size (fun _ => True) v on ∧ Below wd.heap.size wd w') := ⟨by
          have h := clone_any A cc on wd (by rw [HONL.out]; exact hCd) (by rw [HONL.out]; omega)
          rw [HONL.out] at h
          exact h⟩
        clear hsum hes8 hesd hgd hv1 hv2 hCd hb0d hb1d hb8d hnr hwd hm3
        gi_wp2
        refine region_mk_round rfl (by kernel_rfl) (by rfl) (fun t => { tmps := #[.agg #[.int .i64 watch, .int .i64 s.a0, .int .i64 s.b0, .int .i64 s.a1, .int .i64 s.b1, .int .i64 s.a2, .int .i64 s.b2, .int .i64 s.a3, .int .i64 s.b3], .int .i64 left, .pointer (some ⟨x.BP, 0, none⟩), .pointer (some ⟨x.BW, 0, none⟩), .pointer (some ⟨x.BR, 0, none⟩), .pointer (some ⟨x.BE, 0, none⟩), .pointer (some ⟨P, 0, none⟩), .pointer (some ⟨P + 1, 0, none⟩), .slice A ln cc, .pointer (some ⟨B8, 0, none⟩), .pointer (some ⟨P, 0, none⟩), .int .i64 watch, .pointer (some ⟨x.BP, 0, none⟩), .slice x.pA k.need.length x.pc, .int .i64 (k.need.length : Int), .bool false, .pointer (some ⟨k.K, 0, none⟩), .agg #[.int .i64 watch, .int .i64 s.a0, .int .i64 s.b0, .int .i64 s.a1, .int .i64 s.b1, .int .i64 s.a2, .int .i64 s.b2, .int .i64 s.a3, .int .i64 s.b3], .func (.func 146) #[] #[.pointer (some ⟨P + 1 + 1, 0, none⟩), .pointer (some ⟨P + 1 + 1 + 1, 0, none⟩)], .slice A ln cc, .agg (s'.spot (watch + 1)), .slice A ln cc, .int .i64 (ln : Int), .pointer (some ⟨k.K, 0, none⟩), .agg (s'.spot (watch + 1)), .int .i64 fv, .int .i64 ((ln : Int) + fv), .int .i64 left, .bool true, t 0, t 1, t 2, t 3, t 4, undef, undef, undef, undef, undef, undef, undef], defers := [] })
          (fun L t w' => (L 2 = false → w' = wd) ∧ (L 2 = true → L 3 = false → ∃ A2 c2, t 2 = .slice A2 ln c2 ∧ (Kd.int .i64).R 3 w' wd.heap.size (fun _ => True) (.slice A2 ln c2) on ∧ Below wd.heap.size wd w') ∧ (L 3 = true → L 4 = false → ∃ A2 c2 wc, (Kd.int .i64).R 3 wc wd.heap.size (fun _ => True) (.slice A2 ln c2) on ∧ Below wd.heap.size wd wc ∧ w' = wc.alloc (.cells #[.slice A2 ln c2] 22) ∧ t 3 = .slice (some ⟨wc.heap.size, 0, none⟩) 1 1) ∧ (L 4 = true → L 5 = false → ∃ A1 n1 c1 wc, t 4 = .slice A1 n1 c1 ∧ KR.S 22 w' x.w0.heap.size (fun _ => True) (.slice A1 n1 c1) (rows ++ [on]) ∧ Below wd.heap.size wd wc ∧ wc.grownBy w' (Value.slice Ar nr cr).ownBlock) ∧ (L 5 = true → ∃ A1 n1 c1 wc we, KR.S 22 we x.w0.heap.size (fun _ => True) (.slice A1 n1 c1) (rows ++ [on]) ∧ Below wd.heap.size wd wc ∧ wc.grownBy we (Value.slice Ar nr cr).ownBlock ∧ w' = we.setCell ⟨x.BR, 0, none⟩ (.slice A1 n1 c1)))
          (fun ix v => match ix with | 0 => v = .slice Ar nr cr | 1 => v = .slice A ln cc | 2 => True | 3 => True | 4 => True | 5 => True | _ => True)
          (fun j => undef) (by kernel_rfl) ⟨fun _ => HWD.out.symm, by simp, by simp, by simp, by simp⟩ ?stepY ?doneY
        case stepY =>
          intro ix hix
          have hi' : ix < 6 := hix
          match ix, hi' with
          | 0, _ =>
            intro L t w' hL hJ hX hdep hcl
            have n4 : L 4 = false := by
              cases h4 : L 4 with
              | false => rfl
              | true =>
                have h0 := hcl 4 _ rfl h4 ⟨0, .data⟩ (by simp) rfl
                rw [hL] at h0; cases h0
            have hb : Below wd.heap.size wd w' := by
              cases h3 : L 3 with
              | true => obtain ⟨_, _, wc, _, hb, rfl, _⟩ := hJ.2.2.1 h3 n4; exact below_alloc hb _
              | false =>
                cases h2 : L 2 with
                | true => obtain ⟨_, _, _, _, hb⟩ := hJ.2.1 h2 h3; exact hb
                | false => rw [hJ.1 h2]; exact Below.refl _ _
            have q : w'.cell? ⟨x.BR, 0, none⟩ = some (.slice Ar nr cr) := (blk_cell (blk_below HD.out.1 hb) 0).trans rfl
            refine wpOpIn_step rfl (fun K hK => ?_)
            dsimp only
            go_simp
            refine hK _ _ ⟨.slice Ar nr cr, ?_, rfl, hJ⟩
            simp [upd]
          | 1, _ =>
            intro L t w' hL hJ hX hdep hcl
            refine wpOpIn_step rfl (fun K hK => ?_)
            dsimp only
            go_simp
            refine hK _ _ ⟨.slice A ln cc, ?_, rfl, hJ⟩
            simp [upd]
          | 2, _ =>
            intro L t w' hL hJ hX hdep hcl
            have x1 : t 1 = .slice A ln cc := hX 1 (hdep _ rfl ⟨1, .data⟩ (by simp) rfl)
            have n3 : L 3 = false := by
              cases h3 : L 3 with
              | false => rfl
              | true =>
                have h2 := hcl 3 _ rfl h3 ⟨2, .data⟩ (by simp) rfl
                rw [hL] at h2; cases h2
            have n4 : L 4 = false := by
              cases h4 : L 4 with
              | false => rfl
              | true =>
                have h3 := hcl 4 _ rfl h4 ⟨3, .data⟩ (by simp) rfl
                have h2 := hcl 3 _ rfl h3 ⟨2, .data⟩ (by simp) rfl
                rw [hL] at h2; cases h2
            have n5 : L 5 = false := by
              cases h5 : L 5 with
              | false => rfl
              | true =>
                have h4 := hcl 5 _ rfl h5 ⟨4, .data⟩ (by simp) rfl
                have h3 := hcl 4 _ rfl h4 ⟨3, .data⟩ (by simp) rfl
                have h2 := hcl 3 _ rfl h3 ⟨2, .data⟩ (by simp) rfl
                rw [hL] at h2; cases h2
            obtain rfl := hJ.1 hL
            refine wpOpIn_step rfl (fun K hK => ?_)
            dsimp only
            simp only [x1]
            go_simp
            refine (callsIn_wide.2 hclone.out).mono ?_
            rintro e w2 ⟨v2, rfl, hR2, hb2⟩
            obtain ⟨A2, c2, hv2⟩ := Kd.R_slice hR2
            rw [HONL.out] at hv2
            subst hv2
            refine hK _ _ ⟨.slice A2 ln c2, ?_, trivial, ⟨fun h => (by simp [setOn] at h), fun _ _ => ⟨A2, c2, rfl, hR2, hb2⟩, fun h => (by rw [show setOn L 2 3 = L 3 from rfl, n3] at h; cases h), fun h => (by rw [show setOn L 2 4 = L 4 from rfl, n4] at h; cases h), fun h => (by rw [show setOn L 2 5 = L 5 from rfl, n5] at h; cases h)⟩⟩
            simp [upd, x1]
          | 3, _ =>
            intro L t w' hL hJ hX hdep hcl
            have n4 : L 4 = false := by
              cases h4 : L 4 with
              | false => rfl
              | true =>
                have h3 := hcl 4 _ rfl h4 ⟨3, .data⟩ (by simp) rfl
                rw [hL] at h3; cases h3
            have n5 : L 5 = false := by
              cases h5 : L 5 with
              | false => rfl
              | true =>
                have h4 := hcl 5 _ rfl h5 ⟨4, .data⟩ (by simp) rfl
                have h3 := hcl 4 _ rfl h4 ⟨3, .data⟩ (by simp) rfl
                rw [hL] at h3; cases h3
            have h2 := hdep _ rfl ⟨2, .data⟩ (by simp) rfl
            obtain ⟨A2, c2, e2, hR2, hb2⟩ := hJ.2.1 h2 hL
            have HR2 := Aside0.mk hR2
            have HB2 := Aside0.mk hb2
            clear hR2 hb2
            refine wpOpIn_step rfl (fun K hK => ?_)
            dsimp only
            simp only [e2]
            go_simp
            refine hK _ (w'.alloc (.cells #[.slice A2 ln c2] 22)) ⟨.slice (some ⟨w'.heap.size, 0, none⟩) 1 1, ?_, trivial, ⟨fun h => (by rw [show setOn L 3 2 = L 2 from rfl, h2] at h; cases h), fun _ h => (by simp [setOn] at h), fun _ _ => ⟨A2, c2, w', HR2.out, HB2.out, rfl, rfl⟩, fun h => (by rw [show setOn L 3 4 = L 4 from rfl, n4] at h; cases h), fun h => (by rw [show setOn L 3 5 = L 5 from rfl, n5] at h; cases h)⟩⟩
            simp [upd, e2]
          | 4, _ =>
            intro L t w' hL hJ hX hdep hcl
            have x0 : t 0 = .slice Ar nr cr := hX 0 (hdep _ rfl ⟨0, .data⟩ (by simp) rfl)
            have n5 : L 5 = false := by
              cases h5 : L 5 with
              | false => rfl
              | true =>
                have h4 := hcl 5 _ rfl h5 ⟨4, .data⟩ (by simp) rfl
                rw [hL] at h4; cases h4
            have h3 := hdep _ rfl ⟨3, .data⟩ (by simp) rfl
            have l3 : L 3 = true := h3
            have l2 : L 2 = true := hcl 3 _ rfl l3 ⟨2, .data⟩ (by simp) rfl
            obtain ⟨A2, c2, wc, hR2, hb2, rfl, e3⟩ := hJ.2.2.1 h3 hL
            have hR0 : KR.S 22 wc x.w0.heap.size (fun j => True ∧ ¬ wd.heap.size ≤ j) (.slice Ar nr cr) rows := Kd.S_mono (Kd.S_below (Kd.S_bound HD.out.2.1) hb2) (fun j hj => ⟨trivial, by have := hj.2.2.1; omega⟩)
            obtain ⟨v1, w1, hrun, hR1, hg1⟩ := run_S_append (P := Tryz.prog) KR (W := wc) x.w0.heap.size 24 24 22 (.slice none 0 0) 24 rfl (by kernel_rfl) rfl (by decide) (by omega) (.slice Ar nr cr) rows on [.slice A2 ln c2] (fun _ => True) (fun j => wd.heap.size ≤ j) ⟨_, rfl, Kd.R_lower (Kd.R_mono (Kd.R_bound hR2) (fun j hj => hj.2.1)) HESD.out.sz⟩ (fun j hj => ⟨trivial, fun e => by have := Kd.S_lt HD.out.2.1 j e.symm; omega⟩) (fun _ _ => trivial) hR0 (Nat.le_trans HESD.out.sz hb2.size) (by omega)
            obtain ⟨A1, c1, hv1⟩ := Kd.S_slice hR1
            obtain ⟨n1, hn1⟩ : ∃ n1, n1 = (rows ++ [on]).length := ⟨_, rfl⟩
            rw [← hn1] at hv1
            subst hv1
            have HR1 := Aside0.mk hR1
            have HG1 := Aside0.mk hg1
            have HB2 := Aside0.mk hb2
            clear hR1 hg1 hR2 hb2 hR0 hn1
            refine wpOpIn_step rfl (fun K hK => ?_)
            dsimp only
            simp only [x0, e3]
            refine append_wpIn rfl rfl rfl hrun ?_
            go_simp
            refine hK _ w1 ⟨.slice A1 n1 c1, ?_, trivial, ⟨fun h => (by rw [show setOn L 4 2 = L 2 from rfl, l2] at h; cases h), fun _ h => (by rw [show setOn L 4 3 = L 3 from rfl, l3] at h; cases h), fun _ h => (by simp [setOn] at h), fun _ _ => ⟨A1, n1, c1, wc, rfl, HR1.out, HB2.out, HG1.out⟩, fun h => (by rw [show setOn L 4 5 = L 5 from rfl, n5] at h; cases h)⟩⟩
            simp [upd, x0, e3]
          | 5, _ =>
            intro L t w' hL hJ hX hdep hcl
            have h4 := hdep _ rfl ⟨4, .data⟩ (by simp) rfl
            have l4 : L 4 = true := h4
            have l0 : L 0 = true := hcl 4 _ rfl l4 ⟨0, .data⟩ (by simp) rfl
            have l3 : L 3 = true := hcl 4 _ rfl l4 ⟨3, .data⟩ (by simp) rfl
            have l2 : L 2 = true := hcl 3 _ rfl l3 ⟨2, .data⟩ (by simp) rfl
            have l1 : L 1 = true := hcl 2 _ rfl l2 ⟨1, .data⟩ (by simp) rfl
            obtain ⟨A1, n1, c1, wc, e4, hR1, hb2, hg1⟩ := hJ.2.2.2.1 h4 hL
            have hbr : w'.heap[x.BR]? = some (.cells #[.slice Ar nr cr] 24 (0, 0)) := blk_grown (blk_below HD.out.1 hb2) hg1 (fun r e e2 => Kd.S_ne (Kd.S_below HD.out.2.1 hb2) (blk_below HD.out.1 hb2) (by decide) (by rw [← e2, ← e]))
            have q : w'.cell? ⟨x.BR, 0, none⟩ = some (.slice Ar nr cr) := (blk_cell hbr 0).trans rfl
            have qf : w'.frozen? ⟨x.BR, 0, none⟩ = false := blk_frozen hbr 0
            have HR1 := Aside0.mk hR1
            have HB2 := Aside0.mk hb2
            have HG1 := Aside0.mk hg1
            clear hbr hR1 hb2 hg1
            refine wpOpIn_step rfl (fun K hK => ?_)
            dsimp only
            simp only [e4]
            go_simp
            refine hK _ (w'.setCell ⟨x.BR, 0, none⟩ (.slice A1 n1 c1)) ⟨undef, ?_, trivial, ⟨fun h => (by rw [show setOn L 5 2 = L 2 from rfl, l2] at h; cases h), fun _ h => (by rw [show setOn L 5 3 = L 3 from rfl, l3] at h; cases h), fun _ h => (by rw [show setOn L 5 4 = L 4 from rfl, l4] at h; cases h), fun _ h => (by simp [setOn] at h), fun _ => ⟨A1, n1, c1, wc, w', HR1.out, HB2.out, HG1.out, rfl⟩⟩⟩
            simp [upd, e4]
          | j + 6, h => exact absurd h (by omega)
        case doneY =>
          intro L t w9 hL hJ hX
          have x0 : t 0 = .slice Ar nr cr := hX 0 (by decide)
          have x1 : t 1 = .slice A ln cc := hX 1 (by decide)
          obtain ⟨A1, n1, c1, wc, we, hR1, hb2, hg1, rfl⟩ := hJ.2.2.2.2 (hL 5 (by decide))
          dsimp only
          simp only [x0, x1]
          have HR1 := Aside0.mk hR1
          have HB2 := Aside0.mk hb2
          have HG1 := Aside0.mk hg1
          clear x0 x1 hX hJ hL hR1 hb2 hg1
          have hR1 := HR1.out
          have hb2 := HB2.out
          have hg1 := HG1.out
          have hRc : KR.S 22 wc x.w0.heap.size (fun _ => True) (.slice Ar nr cr) rows := Kd.S_below HD.out.2.1 hb2
          have hmv : ∀ (b : Nat) (cs : Array Value) (t : TypeId), wd.heap[b]? = some (.cells cs t (0, 0)) → t ≠ 22 → t ≠ 24 → (we.setCell ⟨x.BR, 0, none⟩ (.slice A1 n1 c1)).heap[b]? = some (.cells cs t (0, 0)) := fun b cs t h h1 h2 =>
            blk_far (blk_grown (blk_below h hb2) hg1 (fun r e => by rintro rfl; exact Kd.S_ne hRc (blk_below h hb2) (Ne.symm h1) e.symm)) (ty_ne h HD.out.1 h2) _
          have hbre : we.heap[x.BR]? = some (.cells #[.slice Ar nr cr] 24 (0, 0)) := blk_grown (blk_below HD.out.1 hb2) hg1 (fun r e => by rintro rfl; exact Kd.S_ne hRc (blk_below HD.out.1 hb2) (by decide) e.symm)
          have hown : ∀ r, (Value.slice Ar nr cr).ownBlock = some r → x.w0.heap.size ≤ r ∧ ∃ cs, wc.heap[r]? = some (.cells cs 22 (0, 0)) := fun r e => ⟨Kd.S_base hRc r e, Kd.S_typed hRc r e⟩
          have hmc : k.MapAt wc m3 := HESD.out.map.grown (grown_of_below hb2 none) (by simp)
          have hme : k.MapAt we m3 := hmc.grown hg1 (fun r e => by
            obtain ⟨_, cs, hc⟩ := hown r e
            rintro rfl
            have := hmc.nocells _ hc
            cases this)
          have hnB : x.BR ≠ k.mb := by have := HX.out.BR1; have := HX.out.mb; omega
          have hes9 : x.Es k (we.setCell ⟨x.BR, 0, none⟩ (.slice A1 n1 c1)) m3 (rows ++ [on]) := by
            refine ⟨?_, ?_, ?_, hme.grown (grown_set _ _ _ _) (fun r e => by cases e; exact hnB), hmv _ _ _ HESD.out.bP (by decide) (by decide), hmv _ _ _ HESD.out.bW (by decide) (by decide), hmv _ _ _ HESD.out.bE (by decide) (by decide), _, cellset hbre, Kd.S_set hR1 hbre (by intro q hq; simp only [KR, Kd.slice, Kd.int, Kd.scalar, List.mem_cons, List.not_mem_nil, or_false] at hq; omega) 0 _⟩
            · exact below_set1 ((HESD.out.old.trans (hb2.mono HESD.out.old.size)).grown hg1 (Nat.le_trans HESD.out.old.size hb2.size) (fun r e => by have := (hown r e).1; have := HX.out.le; have := HX.out.le1; omega)) HX.out.BR 0 _
            · intro g o hb ho hc
              have hlt := blk_lt ho
              have h1 := HESD.out.stay g o hb ho hc
              have h2 := (hb2.block g (blk_lt h1)).trans h1
              have h3 := (hg1.block g (blk_lt h2) (fun e => by have := (hown g e.symm).1; omega)).trans h2
              exact (Below.heap_setCell we _ _ g (by show g ≠ x.BR; have := HX.out.BR1; omega)).trans h3
            · have := HESD.out.sz; have := hb2.size; have := hg1.size; simp; omega
          have h19 := hmv _ _ _ HD.out.2.2.2.1 (by decide) (by decide)
          have h89 := hmv _ _ _ HD.out.2.2.2.2 (by decide) (by decide)
          have hlv : Leave k.mb w (we.setCell ⟨x.BR, 0, none⟩ (.slice A1 n1 c1)) :=
            (((((Leave.grown HW.out.2.2.2.1.to_grown (fun r e => by cases e; exact .inl rfl)).trans (Leave.grown HGD.out (fun r e => by cases e; exact .inl rfl))).trans (Leave.grown (grown_of_below hb2 none) (fun r e => by cases e))).trans
              (Leave.grown hg1 (fun r e => by obtain ⟨_, cs, hc⟩ := hown r e; exact .inr ⟨_, hc, rfl⟩))).trans (Leave.set hbre))
          have hkW : Leave k.mb W (we.setCell ⟨x.BR, 0, none⟩ (.slice A1 n1 c1)) :=
            ((((Leave.grown HGD.out (fun r e => by cases e; exact .inl rfl)).trans (Leave.grown (grown_of_below hb2 none) (fun r e => by cases e))).trans
              (Leave.grown hg1 (fun r e => by obtain ⟨_, cs, hc⟩ := hown r e; exact .inr ⟨_, hc, rfl⟩))).trans (Leave.set hbre))
          clear hR1 hb2 hg1 hRc hmv hbre hown hmc hme HR1 HB2 HG1
          generalize we.setCell ⟨x.BR, 0, none⟩ (.slice A1 n1 c1) = w9 at *
          have qE : w9.cell? ⟨x.BE, 0, none⟩ = some (.func (.func 107) #[] #[.pointer (some ⟨x.BP, 0, none⟩), .pointer (some ⟨x.BW, 0, none⟩), .pointer (some ⟨x.BR, 0, none⟩), .pointer (some ⟨x.BE, 0, none⟩)]) := (blk_cell hes9.bE 0).trans rfl
          have qL : w9.cell? ⟨P + 1, 0, none⟩ = some (.int .i64 left) := (blk_cell h19 0).trans rfl
          have y0 : w9.cell? ⟨B8, 0, none⟩ = some (.int .i64 (watch + 1)) := (blk_cell (h89) 0).trans rfl
          have y1 : w9.cell? ⟨B8, 1, none⟩ = some (.int .i64 s'.a0) := (blk_cell (h89) 1).trans rfl
          have y2 : w9.cell? ⟨B8, 2, none⟩ = some (.int .i64 s'.b0) := (blk_cell (h89) 2).trans rfl
          have y3 : w9.cell? ⟨B8, 3, none⟩ = some (.int .i64 s'.a1) := (blk_cell (h89) 3).trans rfl
          have y4 : w9.cell? ⟨B8, 4, none⟩ = some (.int .i64 s'.b1) := (blk_cell (h89) 4).trans rfl
          have y5 : w9.cell? ⟨B8, 5, none⟩ = some (.int .i64 s'.a2) := (blk_cell (h89) 5).trans rfl
          have y6 : w9.cell? ⟨B8, 6, none⟩ = some (.int .i64 s'.b2) := (blk_cell (h89) 6).trans rfl
          have y7 : w9.cell? ⟨B8, 7, none⟩ = some (.int .i64 s'.a3) := (blk_cell (h89) 7).trans rfl
          have y8 : w9.cell? ⟨B8, 8, none⟩ = some (.int .i64 s'.b3) := (blk_cell (h89) 8).trans rfl
          have hcall := HIH.out (watch + 1) s' (left - (ln : Int)) w9 m3 (rows ++ [on]) (by omega) (by have := HWF.out; omega) HSOK.out (by have := HSUM.out; omega) (by omega) (by simp; omega) hes9 (by have := HM3.out.1; have := HM3E.out; have := HN.out; omega)
          have HCALL := Aside0.mk hcall
          have HLV := Aside0.mk hlv
          have HKW := Aside0.mk hkW
          clear hes9 h19 h89 hlv hkW hcall hnB
          gi_wp2_with fail
          refine CallsIn.mono (show CallsIn (Fence.wide.inRound l) _ _ _ _ _ _ from callsIn_wide.2 HCALL.out) ?_
          rintro e w2 ⟨rfl, hes2, hlv2⟩
          have HES2 := Aside0.mk hes2
          have HLV2 := Aside0.mk hlv2
          clear hes2 hlv2 qE qL y0 y1 y2 y3 y4 y5 y6 y7 y8
          gi_wp2
          refine ⟨(HKW.out.trans HLV2.out).keeps (by have := HSZ.out; have := HPP.out; omega), rfl, HLV.out.trans HLV2.out, _, ⟨pre, x', rfl, HNF.out, by rw [HFIT.out, ← HBQ.out], rfl⟩, ?_⟩
          rw [HOUT.out]
          exact HES2.out.more (by have := HM3.out.1; have := HM3E.out; omega)
  case done =>
    rintro D xs W hD hS ⟨b0, b1, hmp, hkp, hsW, hnf⟩ hKD
    have HH := Aside0.mk (And.intro hS (And.intro hmp (And.intro hkp (And.intro hnf hKD))))
    clear b0 b1 hmp hkp hnf hKD hS
    gi_wp2
    have hK' := HH.out.2.2.2.2
    have hD2 : P + 4 ≤ D := by have := HSZ.out; omega
    have hDw : w.heap.size ≤ D := by have := HPP.out; omega
    have hxl : xs.length ≤ 16 := by
      have h1 := congrArg List.length HH.out.1
      rw [List.length_map] at h1
      have h2 := List.length_filter_le (k.can watch s) (List.range k.lists.length)
      rw [List.length_range] at h2
      have := HOK.out.l1
      omega
    have hxc : n + xs.length * cost f ≤ n + ecost (f + 1) := by
      have : xs.length * cost f ≤ 16 * cost f := Nat.mul_le_mul_right _ hxl
      show _ ≤ n + (16 * cost f + ecost f)
      omega
    have hes : x.Es k W (n + ecost (f + 1)) rows := (HES.out.step HH.out.2.2.1.to_grown (fun r e => by cases e; exact ⟨hmb0, HNC.out⟩) HH.out.2.1).more hxc
    have hlv : Leave k.mb w W := Leave.grown HH.out.2.2.1.to_grown (fun r e => by cases e; exact .inl rfl)
    refine ⟨by simp, .inl ⟨_, _, rfl, run_takeDeferred hK', ?_⟩⟩
    refine ⟨.tuple #[], ?_, rfl, ?_, ?_⟩
    · simp [results, Tryz.f107, go_sem]
    · rw [none_rows HH.out.2.2.2.1 HH.out.1, List.append_nil]
      exact hes.step (grownBy_putObj' _ D _) (fun r e => by cases e; exact ⟨Nat.le_trans hw00 hDw, fun o ho => by rw [hK'] at ho; cases ho; rfl⟩) (hes.map.grown (grownBy_putObj' _ D _) (fun r e => by cases e; omega))
    · exact leave_own (β := Unit) (Nat.le_refl _) () _ _ (some D) hlv (grownBy_putObj' _ D _) (fun r e => by cases e; exact ⟨hDw, _, hK', rfl⟩)
  case stop =>
    rintro D c xs W hD ⟨m, hm, hS⟩ ⟨rfl, hlv, out, hfit, hes⟩ hKD
    have HH := Aside0.mk (And.intro hlv (And.intro hfit (And.intro hes hKD)))
    have HS2 := Aside0.mk hS
    have hD2 : P + 4 ≤ D := by have := HSZ.out; omega
    clear hlv hfit hes hKD hS hD
    gi_wp2
    have hK' := HH.out.2.2.2
    refine ⟨by simp, .inl ⟨_, _, rfl, run_takeDeferred hK', ?_⟩⟩
    have hDw : w.heap.size ≤ D := by have := HPP.out; omega
    refine ⟨.tuple #[], ?_, rfl, ?_, ?_⟩
    · simp [results, Tryz.f107, go_sem]
    · rw [← HH.out.2.1.rows hm HS2.out]
      exact HH.out.2.2.1.step (grownBy_putObj' _ D _) (fun r e => by cases e; exact ⟨Nat.le_trans hw00 hDw, fun o ho => by rw [hK'] at ho; cases ho; rfl⟩) (HH.out.2.2.1.map.grown (grownBy_putObj' _ D _) (fun r e => by cases e; omega))
    · exact leave_own (β := Unit) (Nat.le_refl _) () _ _ (some D) HH.out.1 (grownBy_putObj' _ D _) (fun r e => by cases e; exact ⟨hDw, _, hK', rfl⟩)
theorem ext_all (x : Bx) (k : Wk) (hx : x.Ok k) (hok : k.Ok) (hlen : ∀ on ∈ k.lists, on.length ≤ 4) : ∀ f, Ext x k f
  | 0 => ext_zero x k hx
  | f + 1 => ext_succ x k hx hok hlen f (ext_all x k hx hok hlen f)
end Go.Proofs.YtekdacalkllipaaGreat.PR
end
section
namespace Go.Proofs.YtekdacalkllipaaGreat.PR
open Go.RowKit Go.Shelf Go.Maps Go.Proofs.YtekdacalkllipaaGreatW.PrintWords Go.Proofs.YtekdacalkllipaaGreatW.PrintLast Go.Proofs.YtekdacalkllipaaGreatW.PrintMore
set_option linter.unusedVariables false
set_option linter.unusedSimpArgs false
def mkW (need : List Int) (people : List S128) (cases lists : List (List Int)) : Wk := ⟨none, 0, need, none, 0, people, none, 0, cases, none, 0, lists, 0, 0⟩
theorem can_mkW (k : Wk) (watch : Int) (s : Std) (i : Nat) : k.can watch s i = (mkW k.need k.people k.cases k.lists).can watch s i := rfl
theorem few_mkW (k : Wk) : ∀ (f : Nat) (watch : Int) (s : Std), k.few f watch s = (mkW k.need k.people k.cases k.lists).few f watch s
  | 0, _, _ => rfl
  | f + 1, watch, s => by
    unfold Wk.few
    have hc : k.can watch s = (mkW k.need k.people k.cases k.lists).can watch s := funext fun i => can_mkW k watch s i
    rw [hc]
    have hfun : (fun (n : Int) (i : Nat) => min n ((rd_L1 k.lists i).length + k.few f (watch + 1) (afterS k.people watch (rd_L1 k.lists i) s).1)) = fun (n : Int) (i : Nat) => min n ((rd_L1 k.lists i).length + (mkW k.need k.people k.cases k.lists).few f (watch + 1) (afterS k.people watch (rd_L1 k.lists i) s).1) := by
      funext n i
      rw [few_mkW k f]
    rw [hfun]
    rfl
theorem rows_mkW (k : Wk) : ∀ (f : Nat) (watch : Int) (s : Std) (left : Int), k.rows f watch s left = (mkW k.need k.people k.cases k.lists).rows f watch s left
  | 0, _, _, _ => rfl
  | f + 1, watch, s, left => by
    unfold Wk.rows
    have hc : k.can watch s = (mkW k.need k.people k.cases k.lists).can watch s := funext fun i => can_mkW k watch s i
    have hf : k.fit f watch s left = (mkW k.need k.people k.cases k.lists).fit f watch s left := by
      funext i
      unfold Wk.fit
      rw [few_mkW k f]
      rfl
    rw [hc, hf]
    show (match ((List.range k.lists.length).filter _).find? _ with | some i => _ | none => _) = (match ((List.range k.lists.length).filter _).find? _ with | some i => _ | none => _)
    cases ((List.range k.lists.length).filter ((mkW k.need k.people k.cases k.lists).can watch s)).find? ((mkW k.need k.people k.cases k.lists).fit f watch s left) with
    | none => rfl
    | some i => simp only [rows_mkW k f]; rfl
def workS (need : List Int) (people : List S128) (cases : List (List Int)) (sm : List Int) : Wk := mkW need people cases (listsS sm)
def fewS (need : List Int) (people : List S128) (cases : List (List Int)) (sm : List Int) : Int := (workS need people cases sm).few need.length 0 std0
def rowsS (need : List Int) (people : List S128) (cases : List (List Int)) (sm : List Int) : List (List Int) := (workS need people cases sm).rows need.length 0 std0 (fewS need people cases sm)
def bestS (need : List Int) (people : List S128) (cases : List (List Int)) : List (List Int) × Int × Int :=
  if postErr need people cases ≠ 0 then ([], 0, postErr need people cases)
  else if 1024 ≤ fewS need people cases (evs people.length) then ([], 0, 10)
  else (rowsS need people cases (evs people.length), fewS need people cases (evs people.length), 0)
def enoughS (need : List Int) (people : List S128) (cases : List (List Int)) : List Int × Int :=
  if postErr need people cases ≠ 0 then ([], postErr need people cases)
  else match (listsS (evs people.length)).find? (fun l => decide (fewS need people cases l < 1024)) with
    | some l => (l, 0)
    | none => ([], 10)
theorem mem_listsS {sm l : List Int} : l ∈ listsS sm ↔ ∃ b, b < 2 ^ sm.length ∧ subL sm b = l := by
  rw [listsS, sortL, List.mem_mergeSort, List.mem_map]
  simp [List.mem_range]
theorem mem_of_listsS {sm l : List Int} (h : l ∈ listsS sm) : ∀ x ∈ l, x ∈ sm := by
  obtain ⟨b, _, rfl⟩ := mem_listsS.1 h
  intro x hx
  obtain ⟨q, hq, _, rfl⟩ := mem_subL.1 hx
  simp [List.getElem_mem, hq]
theorem len_of_listsS {sm l : List Int} (h : l ∈ listsS sm) : l.length ≤ sm.length := by
  obtain ⟨b, _, rfl⟩ := mem_listsS.1 h
  exact subK_len sm b sm.length
theorem work_ok {k : Wk} {need : List Int} {people : List S128} {cases : List (List Int)} {sm : List Int} (he : postErr need people cases = 0) (h0 : k.need = need) (h1 : k.people = people) (h2 : k.cases = cases) (h3 : k.lists = listsS sm) (hsm : ∀ x ∈ sm, 0 ≤ x ∧ x < people.length) (hl : sm.length ≤ 4) :
    k.Ok ∧ ∀ on ∈ k.lists, on.length ≤ 4 := by
  subst h0; subst h1; subst h2
  have hh := postErr_ok he
  have h16 : 2 ^ sm.length ≤ 16 := Nat.le_trans (Nat.pow_le_pow_right (by omega) hl) (by decide)
  refine ⟨⟨?_, ?_, ?_, ?_, ?_, ?_⟩, ?_⟩
  · simp_all
  · simp_all
  · rw [h3, listsS_len]; exact h16
  · exact hh.2.2.2.2.1
  · intro l hl'
    have := hh.2.2.2.2.2 l hl'
    simp only [illOk, Bool.and_eq_true, decide_eq_true_eq] at this
    have h4 := hh.2.1.2
    omega
  · intro on ho x hx
    rw [h3] at ho
    exact hsm x (mem_of_listsS ho x hx)
  · intro on ho
    rw [h3] at ho
    have := len_of_listsS ho
    omega
end Go.Proofs.YtekdacalkllipaaGreat.PR
end
section
namespace Go.Proofs.YtekdacalkllipaaGreat.PR
open Go.RowKit Go.Shelf Go.Maps Go.Proofs.YtekdacalkllipaaGreatW.PrintWords Go.Proofs.YtekdacalkllipaaGreatW.PrintLast Go.Proofs.YtekdacalkllipaaGreatW.PrintMore
set_option linter.unusedVariables false
set_option linter.unusedSimpArgs false
attribute [local go_sem] Oper.semAt_some
attribute [local simp] wide_fn
theorem cost_bd : ∀ f, f ≤ 5 → cost f ≤ 1118481
  | 0, _ => by decide
  | 1, _ => by decide
  | 2, _ => by decide
  | 3, _ => by decide
  | 4, _ => by decide
  | 5, _ => by decide
  | f + 6, h => by omega
theorem ecost_bd : ∀ f, f ≤ 5 → ecost f ≤ 2000000
  | 0, _ => by decide
  | 1, _ => by decide
  | 2, _ => by decide
  | 3, _ => by decide
  | 4, _ => by decide
  | 5, _ => by decide
  | f + 6, h => by omega
theorem set_stay {b : Nat} {W0 W : World} {g o : Nat} {v : Value} (h : StayFrom b W0 W) (hg : g < b ∨ W0.heap.size ≤ g) : StayFrom b W0 (W.setCell ⟨g, o, none⟩ v) := fun q ob hb ho hc =>
  (Below.heap_setCell W ⟨g, o, none⟩ v q (by have := blk_lt ho; show q ≠ g; omega)).trans (h q ob hb ho hc)
structure Wrk (need : List Int) (people : List S128) (cases : List (List Int)) (sm : List Int) (A0 : Option Addr) (c0 : Nat) (A1 : Option Addr) (c1 : Nat) (A2 : Option Addr) (c2 : Nat) (w : World) (k : Wk) (b1 : Nat) (w0 W : World) : Prop where
  n : k.need = need
  p : k.people = people
  c : k.cases = cases
  l : k.lists = listsS sm
  hin : ∀ W', (Kd.int .i64).C W' A0 need.length need → k128.C W' A1 people.length people → (Kd.slice 3 (Kd.int .i64)).C W' A2 cases.length cases → StayFrom b1 w0 W' → k.In W'
  le : w.heap.size ≤ b1
  le1 : b1 ≤ w0.heap.size
  sz : w0.heap.size ≤ W.heap.size
  mb : b1 ≤ k.mb
  stay : StayFrom b1 w0 W
  map : k.MapAt W 0
section
variable {need : List Int} {people : List S128} {cases : List (List Int)} {sm : List Int} {A0 A1 A2 : Option Addr} {c0 c1 c2 b1 : Nat} {w w0 W W' : World} {k : Wk}
theorem Wrk.step (h : Wrk need people cases sm A0 c0 A1 c1 A2 c2 w k b1 w0 W) (hg : W.grownBy W' none) : Wrk need people cases sm A0 c0 A1 c1 A2 c2 w k b1 w0 W' :=
  ⟨h.n, h.p, h.c, h.l, h.hin, h.le, h.le1, Nat.le_trans h.sz hg.size, h.mb, h.stay.trans (stay_grown hg (fun r e => by cases e)), h.map.grown hg (fun r e => by cases e)⟩
theorem Wrk.set (h : Wrk need people cases sm A0 c0 A1 c1 A2 c2 w k b1 w0 W) {B : Nat} {cs : Array Value} {t : TypeId} (hB : W.heap[B]? = some (.cells cs t (0, 0))) (hd : B < b1 ∨ w0.heap.size ≤ B) (v : Value) : Wrk need people cases sm A0 c0 A1 c1 A2 c2 w k b1 w0 (W.setCell ⟨B, 0, none⟩ v) :=
  ⟨h.n, h.p, h.c, h.l, h.hin, h.le, h.le1, by have := h.sz; simpa using this, h.mb, set_stay h.stay hd, h.map.grown (grown_set W B 0 v) (fun r e => by
    cases e
    rintro rfl
    have := h.map.nocells _ hB
    cases this)⟩
end
set_option maxRecDepth 100000 in
set_option maxHeartbeats 4000000 in
theorem Best_any (A0 : Option Addr) (c0 : Nat) (need : List Int) (A1 : Option Addr) (c1 : Nat) (people : List S128) (A2 : Option Addr) (c2 : Nat) (cases : List (List Int)) (w : World)
    (h0 : (Kd.int .i64).C w A0 need.length need) (hc0 : need.length ≤ c0) (h1 : k128.C w A1 people.length people) (hc1 : people.length ≤ c1) (h2 : (Kd.slice 3 (Kd.int .i64)).C w A2 cases.length cases) (hc2 : cases.length ≤ c2) :
    Calls Tryz.prog 42 #[.agg #[.slice A0 need.length c0, .slice A1 people.length c1, .slice A2 cases.length c2]] w fun e w' => ∃ v, e = .returned (.tuple #[v, .int .i64 (bestS need people cases).2.1, .int .i64 (bestS need people cases).2.2]) ∧ KR.S 22 w' w.heap.size (fun _ => True) v (bestS need people cases).1 ∧ Below w.heap.size w w' := by
  obtain ⟨P, hP⟩ : ∃ P, P = w.heap.size := ⟨_, rfl⟩
  obtain ⟨wA, hwA⟩ : ∃ wA, wA = (w.alloc (.cells #[.slice A0 need.length c0, .slice A1 people.length c1, .slice A2 cases.length c2] 34)).alloc (.cells #[.slice none 0 0] 24) := ⟨_, rfl⟩
  have hgA : w.grownBy wA none := by rw [hwA]; exact grown_trans (World.grownBy_alloc _ _ _) (World.grownBy_alloc _ _ _)
  have hA0 : wA.heap[P]? = some (.cells #[.slice A0 need.length c0, .slice A1 people.length c1, .slice A2 cases.length c2] 34 (0, 0)) := by rw [hwA, hP]; exact blk_alloc (blk_new w _) _
  have hA1 : wA.heap[P + 1]? = some (.cells #[.slice none 0 0] 24 (0, 0)) := by rw [hwA, hP]; have := blk_new (w.alloc (.cells #[.slice A0 need.length c0, .slice A1 people.length c1, .slice A2 cases.length c2] 34)) (.cells #[.slice none 0 0] 24); rwa [World.size_alloc] at this
  have hbA := below_none hgA
  have HCHK := Aside0.mk (CheckPost_any A0 c0 need A1 c1 people A2 c2 cases wA (Kd.C_below h0 hbA) (Kd.C_below h1 hbA) (Kd.C_below h2 hbA))
  obtain ⟨pe, hpe⟩ : ∃ pe, pe = postErr need people cases := ⟨_, rfl⟩
  rw [← hpe] at HCHK
  have HH := Aside0.mk (And.intro h0 (And.intro h1 h2))
  have HG := Aside0.mk hgA
  have HA0 := Aside0.mk hA0
  have HA1 := Aside0.mk hA1
  have HPE := Aside0.mk hpe
  obtain ⟨bs, hbs⟩ : ∃ bs, bs = bestS need people cases := ⟨_, rfl⟩
  rw [← hbs]
  have HBS := Aside0.mk hbs
  clear hbs h0 h1 h2 hgA hA0 hA1 hbA hpe
  refine (callsIn_wide (n := 12)).1 ?_
  refine callsIn_of_wp Tryz.func42 rfl trivial ?_ rfl
  simp only [Tryz.ntmps42, List.size_toArray, List.length_cons, List.length_nil, Nat.reduceAdd, Nat.reduceSub, Array.replicate_succ, Array.replicate_zero, List.push_toArray, List.append_toArray, List.nil_append, List.cons_append]
  gi_wp2_with fail
  rw [← hwA, ← hP]
  have HPP := Aside0.mk hP
  clear hwA hP
  refine (callsIn_wide.2 HCHK.out).mono ?_
  rintro e w1 ⟨rfl, hg1⟩
  have h10 := blk_grown HA0.out hg1 (by simp)
  have h11 := blk_grown HA1.out hg1 (by simp)
  have hgw1 := grown_trans HG.out hg1
  by_cases hz : pe = 0
  · have bz : (pe != 0) = false := by rw [hz]; rfl
    subst hz
    have q0 : w1.cell? ⟨P, 0, none⟩ = some (.slice A0 need.length c0) := (blk_cell h10 0).trans rfl
    have q1 : w1.cell? ⟨P, 1, none⟩ = some (.slice A1 people.length c1) := (blk_cell h10 1).trans rfl
    have q2 : w1.cell? ⟨P, 2, none⟩ = some (.slice A2 cases.length c2) := (blk_cell h10 2).trans rfl
    have H10 := Aside0.mk h10
    have H11 := Aside0.mk h11
    have HG1 := Aside0.mk hgw1
    clear h10 h11 hgw1 hg1 HCHK
    have hbw1 : Below w.heap.size w w1 := below_none HG1.out
    have HH1 : Aside0 ((Kd.int .i64).C w1 A0 need.length need ∧ k128.C w1 A1 people.length people ∧ (Kd.slice 3 (Kd.int .i64)).C w1 A2 cases.length cases) := ⟨Kd.C_below HH.out.1 hbw1, Kd.C_below HH.out.2.1 hbw1, Kd.C_below HH.out.2.2 hbw1⟩
    have hok := postErr_ok HPE.out.symm
    have hp4 := hok.2.1.1
    have HOKP := Aside0.mk hok
    clear hok hbw1
    gi_wp2
    clear q0 q1 q2
    refine region_mk (by kernel_rfl) (fun t => { tmps := #[.agg #[.slice A0 need.length c0, .slice A1 people.length c1, .slice A2 cases.length c2], .pointer (some ⟨P, 0, none⟩), .pointer (some ⟨P + 1, 0, none⟩), .int .i64 0, .int .i64 0, .int .i64 0, t 4, undef, .agg #[.slice A0 need.length c0, .slice A1 people.length c1, .slice A2 cases.length c2], .int .i64 0, .int .i64 0, .bool false, undef, t 0, t 1, t 2, t 3, undef, undef, undef, undef, undef, undef, undef, undef, undef, undef, undef, undef, undef, undef], defers := [] })
      (fun L t w' => Below w1.heap.size w1 w' ∧ (L 2 = true → L 5 = false → ∃ A c, t 2 = .slice A people.length c ∧ (Kd.int .i64).C w' A people.length (evs people.length)) ∧ (L 3 = true → ∃ (k : Wk) (b1 : Nat) (w0 : World), t 3 = .pointer (some ⟨k.K, 0, none⟩) ∧ Wrk need people cases (evs people.length) A0 c0 A1 c1 A2 c2 w1 k b1 w0 w' ∧ (L 4 = true → ∀ B, t 4 = .pointer (some ⟨B, 0, none⟩) → B < b1 ∨ w0.heap.size ≤ B) ∧ (L 5 = true → ∀ B, t 4 = .pointer (some ⟨B, 0, none⟩) → w'.heap[B]? = some (.cells #[.pointer (some ⟨k.K, 0, none⟩)] 137 (0, 0)))) ∧ (L 4 = true → ∃ B, t 4 = .pointer (some ⟨B, 0, none⟩) ∧ w1.heap.size ≤ B ∧ B < w'.heap.size ∧ (L 5 = false → w'.heap[B]? = some (.cells #[.pointer none] 137 (0, 0)))))
      (fun ix v => match ix with | 0 => v = .agg #[.slice A0 need.length c0, .slice A1 people.length c1, .slice A2 cases.length c2] | 1 => v = .agg #[.slice A0 need.length c0, .slice A1 people.length c1, .slice A2 cases.length c2] | 2 => True | 3 => True | 4 => True | 5 => True | _ => True)
      (fun j => undef) (by kernel_rfl) ⟨pw_below_drewN (Below.refl _ _) 1, by simp, by simp, by simp⟩ ?stepA ?doneA
    case stepA =>
      intro ix hix
      have hi' : ix < 6 := hix
      match ix, hi' with
      | 0, _ =>
        intro L t w' hL hJ hX hdep hcl
        have q0 : w'.cell? ⟨P, 0, none⟩ = some (.slice A0 need.length c0) := (blk_cell (blk_below H10.out hJ.1) 0).trans rfl
        have q1 : w'.cell? ⟨P, 1, none⟩ = some (.slice A1 people.length c1) := (blk_cell (blk_below H10.out hJ.1) 1).trans rfl
        have q2 : w'.cell? ⟨P, 2, none⟩ = some (.slice A2 cases.length c2) := (blk_cell (blk_below H10.out hJ.1) 2).trans rfl
        refine wpOpIn_step rfl (fun K hK => ?_)
        dsimp only
        go_simp
        refine hK _ _ ⟨.agg #[.slice A0 need.length c0, .slice A1 people.length c1, .slice A2 cases.length c2], ?_, rfl, hJ⟩
        simp [upd]
      | 1, _ =>
        intro L t w' hL hJ hX hdep hcl
        have q0 : w'.cell? ⟨P, 0, none⟩ = some (.slice A0 need.length c0) := (blk_cell (blk_below H10.out hJ.1) 0).trans rfl
        have q1 : w'.cell? ⟨P, 1, none⟩ = some (.slice A1 people.length c1) := (blk_cell (blk_below H10.out hJ.1) 1).trans rfl
        have q2 : w'.cell? ⟨P, 2, none⟩ = some (.slice A2 cases.length c2) := (blk_cell (blk_below H10.out hJ.1) 2).trans rfl
        refine wpOpIn_step rfl (fun K hK => ?_)
        dsimp only
        go_simp
        refine hK _ _ ⟨.agg #[.slice A0 need.length c0, .slice A1 people.length c1, .slice A2 cases.length c2], ?_, rfl, hJ⟩
        simp [upd]
      | 2, _ =>
        intro L t w' hL hJ hX hdep hcl
        have x1 : t 1 = .agg #[.slice A0 need.length c0, .slice A1 people.length c1, .slice A2 cases.length c2] := hX 1 (hdep _ rfl ⟨1, .data⟩ (by simp) rfl)
        have n3 : L 3 = false := by
          cases h3 : L 3 with
          | false => rfl
          | true =>
            have h2 := hcl 3 _ rfl h3 ⟨2, .data⟩ (by simp) rfl
            rw [hL] at h2; cases h2
        have n5 : L 5 = false := by
          cases h5 : L 5 with
          | false => rfl
          | true =>
            have h3 := hcl 5 _ rfl h5 ⟨3, .data⟩ (by simp) rfl
            have h2 := hcl 3 _ rfl h3 ⟨2, .data⟩ (by simp) rfl
            rw [hL] at h2; cases h2
        have hc := Aside0.mk (everybody_any A0 c0 need A1 c1 people A2 c2 cases w' (Kd.C_below HH1.out.1 hJ.1) hc0 (Kd.C_below HH1.out.2.1 hJ.1) hc1 (Kd.C_below HH1.out.2.2 hJ.1) hc2 hp4)
        refine wpOpIn_step rfl (fun K hK => ?_)
        dsimp only
        simp only [x1]
        go_simp
        refine (callsIn_wide.2 hc.out).mono ?_
        rintro e w2 ⟨A3, c3, rfl, hC3, hb3⟩
        refine hK _ _ ⟨.slice A3 people.length c3, ?_, trivial, ⟨hJ.1.trans (hb3.mono hJ.1.size), fun _ _ => ⟨A3, c3, rfl, hC3⟩, fun h => (by rw [show setOn L 2 3 = L 3 from rfl, n3] at h; cases h), fun h => ?_⟩⟩
        · simp [upd, x1]
        · obtain ⟨B, e4, hB1, hB2, hB3⟩ := hJ.2.2.2 h
          exact ⟨B, e4, hB1, Nat.lt_of_lt_of_le hB2 hb3.size, fun h5 => (hb3.block B hB2).trans (hB3 h5)⟩
      | 3, _ =>
        intro L t w' hL hJ hX hdep hcl
        have x0 : t 0 = .agg #[.slice A0 need.length c0, .slice A1 people.length c1, .slice A2 cases.length c2] := hX 0 (hdep _ rfl ⟨0, .data⟩ (by simp) rfl)
        have n5 : L 5 = false := by
          cases h5 : L 5 with
          | false => rfl
          | true =>
            have h3 := hcl 5 _ rfl h5 ⟨3, .data⟩ (by simp) rfl
            rw [hL] at h3; cases h3
        obtain ⟨A3, c3, e2, hC3⟩ := hJ.2.1 (hdep _ rfl ⟨2, .data⟩ (by simp) rfl) n5
        have hw := work_any A0 c0 need A1 c1 people A2 c2 cases A3 c3 (evs people.length) w' (Kd.C_below HH1.out.1 hJ.1) (Kd.C_below HH1.out.2.1 hJ.1) (Kd.C_below HH1.out.2.2 hJ.1) (by rw [evs_len]; exact hC3) (by rw [evs_len]; exact hp4) (evs_nodup _)
        rw [evs_len] at hw
        have HWK := Aside0.mk hw
        have HC3 := Aside0.mk hC3
        clear hw hC3
        refine wpOpIn_step rfl (fun K hK => ?_)
        dsimp only
        simp only [x0, e2]
        go_simp
        refine (callsIn_wide.2 HWK.out).mono ?_
        rintro e w2 ⟨k, rfl, k1, k2, k3, k4, k5, k6, k7, k8, k9, k10⟩
        refine hK _ _ ⟨.pointer (some ⟨k.K, 0, none⟩), ?_, trivial, ⟨hJ.1.trans (k10.mono hJ.1.size), fun _ _ => ⟨A3, c3, e2, Kd.C_below HC3.out k10⟩, fun _ => ⟨k, w'.heap.size, w2, rfl, ⟨k1, k2, k3, k4, k5, hJ.1.size, k10.size, Nat.le_refl _, k8, StayFrom.refl _ _, k6⟩, fun h4 B e4 => ?_, fun h => (by rw [show setOn L 3 5 = L 5 from rfl, n5] at h; cases h)⟩, fun h => ?_⟩⟩
        · simp [upd, x0, e2]
        · obtain ⟨B', e4', _, hB2, _⟩ := hJ.2.2.2 h4
          have e4'' : t 4 = .pointer (some ⟨B, 0, none⟩) := e4
          rw [e4'] at e4''
          injection e4'' with e5
          injection e5 with e5
          injection e5 with e5
          exact .inl (by rw [← e5]; exact hB2)
        · obtain ⟨B, e4, hB1, hB2, hB3⟩ := hJ.2.2.2 h
          exact ⟨B, e4, hB1, Nat.lt_of_lt_of_le hB2 k10.size, fun h5 => (k10.block B hB2).trans (hB3 h5)⟩
      | 4, _ =>
        intro L t w' hL hJ hX hdep hcl
        have n5 : L 5 = false := by
          cases h5 : L 5 with
          | false => rfl
          | true =>
            have h4 := hcl 5 _ rfl h5 ⟨4, .data⟩ (by simp) rfl
            rw [hL] at h4; cases h4
        refine wpOpIn_step rfl (fun K hK => ?_)
        dsimp only
        go_simp
        refine hK _ (w'.alloc (.cells #[.pointer none] 137)) ⟨.pointer (some ⟨w'.heap.size, 0, none⟩), ?_, trivial, ⟨below_alloc hJ.1 _, fun h h5 => ?_, fun h => ?_, fun _ => ⟨w'.heap.size, rfl, hJ.1.size, by simp, fun _ => blk_new w' _⟩⟩⟩
        · simp [upd]
        · obtain ⟨A3, c3, e2, hC3⟩ := hJ.2.1 h n5; exact ⟨A3, c3, e2, Kd.C_alloc hC3 _⟩
        · obtain ⟨k, b1, w0, e3, hwk, hdis, _⟩ := hJ.2.2.1 h
          refine ⟨k, b1, w0, e3, hwk.step (World.grownBy_alloc _ _ none), fun _ B e4 => ?_, fun h => (by rw [show setOn L 4 5 = L 5 from rfl, n5] at h; cases h)⟩
          have e4' : Value.pointer (some ⟨w'.heap.size, 0, none⟩) = .pointer (some ⟨B, 0, none⟩) := e4
          injection e4' with e5
          injection e5 with e5
          injection e5 with e5
          exact .inr (by rw [← e5]; exact hwk.sz)
      | 5, _ =>
        intro L t w' hL hJ hX hdep hcl
        have h4 : L 4 = true := hdep _ rfl ⟨4, .data⟩ (by simp) rfl
        have h3 : L 3 = true := hdep _ rfl ⟨3, .data⟩ (by simp) rfl
        obtain ⟨B, e4, hB1, hB2, hB3⟩ := hJ.2.2.2 h4
        obtain ⟨k, b1, w0, e3, hwk, hdis, _⟩ := hJ.2.2.1 h3
        have hbb := hB3 hL
        have hdd := hdis h4 B e4
        have z0 : w'.cell? ⟨B, 0, none⟩ = some (.pointer none) := (blk_cell hbb 0).trans rfl
        have f0 : w'.frozen? ⟨B, 0, none⟩ = false := blk_frozen hbb 0
        have HWK := Aside0.mk hwk
        have HBB := Aside0.mk hbb
        have HDD := Aside0.mk hdd
        clear hbb hwk hdd hdis hB3
        refine wpOpIn_step rfl (fun K hK => ?_)
        dsimp only
        simp only [e3, e4]
        go_simp
        refine hK _ (w'.setCell ⟨B, 0, none⟩ (.pointer (some ⟨k.K, 0, none⟩))) ⟨undef, ?_, trivial, ⟨below_set1 hJ.1 hB1 0 _, fun _ h => (by simp [setOn] at h), fun _ => ⟨k, b1, w0, e3, HWK.out.set HBB.out HDD.out _, fun _ B' e' => ?_, fun _ B' e' => ?_⟩, fun _ => ⟨B, e4, hB1, by simpa using hB2, fun h => (by simp [setOn] at h)⟩⟩⟩
        · simp [upd, e3, e4]
        · have e'' : t 4 = .pointer (some ⟨B', 0, none⟩) := e'
          rw [e4] at e''; injection e'' with e5; injection e5 with e5; injection e5 with e5
          rw [← e5]; exact HDD.out
        · have e'' : t 4 = .pointer (some ⟨B', 0, none⟩) := e'
          rw [e4] at e''; injection e'' with e5; injection e5 with e5; injection e5 with e5
          rw [← e5]; exact cellset HBB.out
      | j + 6, h => exact absurd h (by omega)
    case doneA =>
      intro L t w5 hL hJ hX
      have x0 : t 0 = .agg #[.slice A0 need.length c0, .slice A1 people.length c1, .slice A2 cases.length c2] := hX 0 (by decide)
      have x1 : t 1 = .agg #[.slice A0 need.length c0, .slice A1 people.length c1, .slice A2 cases.length c2] := hX 1 (by decide)
      obtain ⟨B, x4, hB1, hB2, _⟩ := hJ.2.2.2 (hL 4 (by decide))
      obtain ⟨k, b1, w0, x3, hwk, hdis, hbw⟩ := hJ.2.2.1 (hL 3 (by decide))
      have hdd := hdis (hL 4 (by decide)) B x4
      have hbb := hbw (hL 5 (by decide)) B x4
      have hb1 := hJ.1
      try dsimp only
      simp only [x0, x1, x3, x4]
      clear x0 x1 x3 x4 hX hJ hL hdis hbw
      generalize t 2 = u15
      have hok2 := work_ok HPE.out.symm hwk.n hwk.p hwk.c hwk.l (fun x hx => evs_mem.1 hx) (by rw [evs_len]; exact hp4)
      have hin5 : k.In w5 := hwk.hin w5 (Kd.C_below HH1.out.1 hb1) (Kd.C_below HH1.out.2.1 hb1) (Kd.C_below HH1.out.2.2 hb1) hwk.stay
      have hnc := hwk.map.nocells
      have hmw := hwk.map.size
      have HFEW : Aside0 (Few k w5 need.length) := ⟨few_all k w5 hin5 hok2.1 hnc hmw hok2.2 _⟩
      obtain ⟨nn, hnn⟩ : ∃ nn, nn = k.few need.length 0 std0 := ⟨_, rfl⟩
      have HNN := Aside0.mk hnn
      have HWK := Aside0.mk hwk
      have HNC := Aside0.mk hnc
      have HMW := Aside0.mk hmw
      have HBB := Aside0.mk hbb
      have HB1 := Aside0.mk hb1
      have HDD := Aside0.mk hdd
      have HOK2 := Aside0.mk hok2
      clear hok2 hin5 hnc hmw hnn hwk hbb hb1 hdd
      gi_wp2
      refine region_mk (by kernel_rfl) (fun t => { tmps := #[.agg #[.slice A0 need.length c0, .slice A1 people.length c1, .slice A2 cases.length c2], .pointer (some ⟨P, 0, none⟩), .pointer (some ⟨P + 1, 0, none⟩), t 4, .int .i64 0, .int .i64 0, .pointer (some ⟨B, 0, none⟩), undef, .agg #[.slice A0 need.length c0, .slice A1 people.length c1, .slice A2 cases.length c2], .int .i64 0, .int .i64 0, .bool false, undef, .agg #[.slice A0 need.length c0, .slice A1 people.length c1, .slice A2 cases.length c2], .agg #[.slice A0 need.length c0, .slice A1 people.length c1, .slice A2 cases.length c2], u15, .pointer (some ⟨k.K, 0, none⟩), t 0, t 1, t 2, t 3, undef, undef, undef, undef, undef, undef, undef, undef, undef, undef], defers := [] })
        (fun L t w' => w5.grownBy w' (some k.mb) ∧ (L 3 = false → w'.heap[k.mb]? = w5.heap[k.mb]?) ∧ (L 3 = true → k.MapAt w' (0 + cost need.length)))
        (fun ix v => match ix with | 0 => v = .pointer (some ⟨k.K, 0, none⟩) | 1 => v = .agg std0.vals | 2 => v = .agg (std0.spot 0) | 3 => v = .int .i64 nn | 4 => v = .int .i64 nn | _ => True)
        (fun j => match j with | 4 => .int .i64 0 | _ => undef) (by kernel_rfl) ⟨grown_any (grown_drewN w5 1) _, fun _ => rfl, by simp⟩ ?stepB ?doneB
      case stepB =>
        intro ix hix
        have hi' : ix < 5 := hix
        match ix, hi' with
        | 0, _ =>
          intro L t w' hL hJ hX hdep hcl
          have q : w'.cell? ⟨B, 0, none⟩ = some (.pointer (some ⟨k.K, 0, none⟩)) := (blk_cell (blk_grown HBB.out hJ.1 (nc_ne HNC.out HBB.out)) 0).trans rfl
          refine wpOpIn_step rfl (fun K hK => ?_)
          dsimp only
          go_simp
          refine hK _ _ ⟨.pointer (some ⟨k.K, 0, none⟩), ?_, rfl, hJ⟩
          simp [upd]
        | 1, _ =>
          intro L t w' hL hJ hX hdep hcl
          refine wpOpIn_step rfl (fun K hK => ?_)
          dsimp only
          go_simp
          refine (callsIn_wide.2 (begun_any w')).mono ?_
          rintro e w2 ⟨rfl, rfl⟩
          refine hK _ _ ⟨.agg std0.vals, ?_, rfl, ⟨grown_trans hJ.1 (grown_any (World.grownBy_alloc _ _ none) _), fun h => (Below.heap_alloc _ _ _ (Nat.lt_of_lt_of_le HMW.out hJ.1.size)).trans (hJ.2.1 h), fun h => (hJ.2.2 h).grown (World.grownBy_alloc _ _ none) (by simp)⟩⟩
          simp [upd]
        | 2, _ =>
          intro L t w' hL hJ hX hdep hcl
          have x1 : t 1 = .agg std0.vals := hX 1 (hdep _ rfl ⟨1, .data⟩ (by simp) rfl)
          refine wpOpIn_step rfl (fun K hK => ?_)
          dsimp only
          simp only [x1, Std.vals, std0]
          go_simp
          refine hK _ _ ⟨.agg (std0.spot 0), ?_, rfl, hJ⟩
          simp [upd, x1, Std.spot, Std.vals, std0]
        | 3, _ =>
          intro L t w' hL hJ hX hdep hcl
          have x0 : t 0 = .pointer (some ⟨k.K, 0, none⟩) := hX 0 (hdep _ rfl ⟨0, .data⟩ (by simp) rfl)
          have x2 : t 2 = .agg (std0.spot 0) := hX 2 (hdep _ rfl ⟨2, .data⟩ (by simp) rfl)
          have hc := HFEW.out 0 std0 w' 0 (by omega) (by rw [HWK.out.n]; omega) std0_ok (KeepM.grown hJ.1 (Nat.le_refl _) (fun r e => by cases e; exact .inl rfl)) (HWK.out.map.block (hJ.2.1 hL)) (by have := cost_bd need.length HOKP.out.1.1; unfold maxLen; omega)
          have HC := Aside0.mk hc
          clear hc
          refine wpOpIn_step rfl (fun K hK => ?_)
          dsimp only
          simp only [x0, x2]
          go_simp
          refine (callsIn_wide.2 HC.out).mono ?_
          rintro e w2 ⟨rfl, hg2, hm2⟩
          refine hK _ _ ⟨.int .i64 nn, ?_, rfl, ⟨grown_trans hJ.1 hg2, fun h => (by simp [setOn] at h), fun _ => hm2⟩⟩
          simp [upd, x0, x2, HNN.out]
        | 4, _ =>
          intro L t w' hL hJ hX hdep hcl
          have x3 : t 3 = .int .i64 nn := hX 3 (hdep _ rfl ⟨3, .data⟩ (by simp) rfl)
          refine wpOpIn_step rfl (fun K hK => ?_)
          dsimp only
          simp only [x3]
          go_simp
          refine hK _ _ ⟨.int .i64 nn, ?_, rfl, hJ⟩
          simp [upd, x3]
        | j + 5, h => exact absurd h (by omega)
      case doneB =>
        intro L t w6 hL hJ hX
        have x0 : t 0 = .pointer (some ⟨k.K, 0, none⟩) := hX 0 (by decide)
        have x1 : t 1 = .agg std0.vals := hX 1 (by decide)
        have x2 : t 2 = .agg (std0.spot 0) := hX 2 (by decide)
        have x3 : t 3 = .int .i64 nn := hX 3 (by decide)
        have x4 : t 4 = .int .i64 nn := hX 4 (by decide)
        have hg6 := hJ.1
        have hm6 := hJ.2.2 (hL 3 (by decide))
        try dsimp only
        simp only [x0, x1, x2, x3, x4]
        have HG6 := Aside0.mk hg6
        have HM6 := Aside0.mk hm6
        clear x0 x1 x2 x3 x4 hX hJ hL hg6 hm6
        have hfew : nn = fewS need people cases (evs people.length) := by rw [HNN.out, few_mkW k, HWK.out.n, HWK.out.p, HWK.out.c, HWK.out.l]; rfl
        have h11 : w6.heap[P + 1]? = some (.cells #[.slice none 0 0] 24 (0, 0)) := by
          have h := blk_below H11.out HB1.out
          exact blk_grown h HG6.out (nc_ne HNC.out h)
        have HFEWS := Aside0.mk hfew
        have HH11 := Aside0.mk h11
        by_cases hge : (1024 : Int) ≤ nn
        · have bg : decide ((1024 : Int) ≤ nn) = true := decide_eq_true hge
          have q1 : w6.cell? ⟨P + 1, 0, none⟩ = some (.slice none 0 0) := (blk_cell h11 0).trans rfl
          have f1 : w6.frozen? ⟨P + 1, 0, none⟩ = false := blk_frozen h11 0
          have HGE := Aside0.mk hge
          clear hfew h11 hge
          gi_wp2
          have hc := (blk_cell (cellset (u := .slice none 0 0) HH11.out) 0).trans rfl
          simp only [List.getElem?_toArray, List.getElem?_cons_zero] at hc
          have hb : bs = ([], 0, 10) := by rw [HBS.out, bestS, if_neg (by rw [← HPE.out]; simp), if_pos (by rw [← HFEWS.out]; exact HGE.out)]
          subst hb
          have hbf : Below w.heap.size w w6 := ((below_none HG1.out).trans (HB1.out.mono HG1.out.size)).grown HG6.out (Nat.le_trans HG1.out.size HB1.out.size) (fun r e => by cases e; have := HWK.out.le; have := HWK.out.mb; have := HG1.out.size; omega)
          refine bodyPost_ret (v := .tuple #[.slice none 0 0, .int .i64 0, .int .i64 10]) (by simp [results, Tryz.results42, go_sem, hc]) rfl ⟨.slice none 0 0, rfl, Kd.S_nil _ _ _ _ _, below_set1 hbf (by have := HPP.out; omega) 0 _⟩
        · have bg : decide ((1024 : Int) ≤ nn) = false := decide_eq_false hge
          have HGE := Aside0.mk hge
          clear hfew h11 hge
          gi_wp2
          obtain ⟨N6, hN6⟩ : ∃ N6, N6 = w6.heap.size := ⟨_, rfl⟩
          rw [← hN6]
          obtain ⟨w7, hw7⟩ : ∃ w7, w7 = w6.alloc (.cells #[.func (.func 107) #[] #[.pointer (some ⟨P, 0, none⟩), .pointer (some ⟨B, 0, none⟩), .pointer (some ⟨P + 1, 0, none⟩), .pointer (some ⟨N6, 0, none⟩)]] 167) := ⟨_, rfl⟩
          rw [← hw7]
          obtain ⟨x, hx⟩ : ∃ x : Bx, x = ⟨w, w0, b1, P, B, P + 1, N6, A0, c0, .slice A1 people.length c1, .slice A2 cases.length c2⟩ := ⟨_, rfl⟩
          have hb5 : Below w.heap.size w w5 := (below_none HG1.out).trans (HB1.out.mono HG1.out.size)
          have hb7 : Below w.heap.size w w7 := by
            rw [hw7]
            exact below_alloc (hb5.grown HG6.out hb5.size (fun r e => by cases e; have := HWK.out.le; have := HWK.out.mb; have := HG1.out.size; omega)) _
          have hP1 : P + 1 < w1.heap.size := blk_lt H11.out
          have hxok : x.Ok k := by
            rw [hx]
            refine ⟨?_, HWK.out.le1, HWK.out.mb, ?_, ?_, fun W hb hs => HWK.out.hin W (Kd.C_below HH.out.1 hb) (Kd.C_below HH.out.2.1 hb) (Kd.C_below HH.out.2.2 hb) hs⟩
            · have := HWK.out.le; have := HG1.out.size; show w.heap.size ≤ b1; omega
            · have := HPP.out; show w.heap.size ≤ P + 1; omega
            · have := HWK.out.le; show P + 1 < b1; omega
          have hmb6 : ∀ r, some k.mb = some r → w5.heap[r]? = w5.heap[k.mb]? := fun r e => by cases e; rfl
          have hst7 : StayFrom b1 w0 w7 := by
            rw [hw7]
            exact (HWK.out.stay.trans (stay_grown HG6.out (fun r e => by cases e; exact .inr HNC.out))).trans (stay_alloc _ _ _)
          have h57 : ∀ (b : Nat) (cs : Array Value) (t : TypeId), w5.heap[b]? = some (.cells cs t (0, 0)) → w7.heap[b]? = some (.cells cs t (0, 0)) := fun b cs t h => by
            rw [hw7]
            exact blk_alloc (blk_grown h HG6.out (nc_ne HNC.out h)) _
          obtain ⟨n0, hn0⟩ : ∃ n0, n0 = 0 + cost need.length := ⟨_, rfl⟩
          have hes : x.Es k w7 n0 [] := by
            rw [hx]
            refine ⟨hb7, hst7, ?_, ?_, ?_, h57 _ _ _ HBB.out, ?_, .slice none 0 0, h57 _ _ _ (blk_below H11.out HB1.out), Kd.S_nil _ _ _ _ _⟩
            · have := HWK.out.sz; have := HG6.out.size; rw [hw7]; simp; omega
            · rw [hw7, hn0]; exact HM6.out.grown (World.grownBy_alloc _ _ none) (by simp)
            · rw [HWK.out.n]; exact h57 _ _ _ (blk_below H10.out HB1.out)
            · rw [hw7, hN6]; exact blk_new w6 _
          have HES := Aside0.mk hes
          have HNB : Aside0 (0 ≤ nn ∧ nn ≤ 1024) := ⟨by rw [HNN.out]; exact k.few_bd _ _ _⟩
          have HEXT : Aside0 (∀ w', x.Es k w' n0 [] → Calls Tryz.prog 107 #[.agg (std0.spot 0), .int .i64 nn, .pointer (some ⟨P, 0, none⟩), .pointer (some ⟨B, 0, none⟩), .pointer (some ⟨P + 1, 0, none⟩), .pointer (some ⟨N6, 0, none⟩)] w' fun e w2 => e = .returned (.tuple #[]) ∧ x.Es k w2 (n0 + ecost need.length) (k.rows need.length 0 std0 nn)) := ⟨fun w' hes' => by
            have h := ext_all x k hxok HOK2.out.1 HOK2.out.2 need.length 0 std0 nn w' n0 [] (by omega) (by rw [HWK.out.n]; omega) std0_ok HNB.out.1 HNB.out.2 (by have := HOKP.out.1.1; simp; omega) hes' (by have := cost_bd need.length HOKP.out.1.1; have := ecost_bd need.length HOKP.out.1.1; unfold maxLen; omega)
            rw [List.nil_append, show x.BP = P by rw [hx], show x.BW = B by rw [hx], show x.BR = P + 1 by rw [hx], show x.BE = N6 by rw [hx]] at h
            exact h.mono (fun e w2 h => ⟨h.1, h.2.1⟩)⟩
          have HX2 : Aside0 (∀ W : World, W.heap[x.BE]? = some (.cells #[x.func] 167 (0, 0)) → W.heap[N6]? = some (.cells #[.func (.func 107) #[] #[.pointer (some ⟨P, 0, none⟩), .pointer (some ⟨B, 0, none⟩), .pointer (some ⟨P + 1, 0, none⟩), .pointer (some ⟨N6, 0, none⟩)]] 167 (0, 0))) := ⟨fun W h => by rw [hx] at h; exact h⟩
          have HN0 : Aside0 (n0 ≤ cost need.length) := ⟨by omega⟩
          have HXE := Aside0.mk hx
          clear hN6 hw7 hx hb5 hb7 hP1 hxok hmb6 hst7 h57 hn0 hes hp4
          gi_wp2
          refine region_mk (by kernel_rfl) (fun t => { tmps := #[.agg #[.slice A0 need.length c0, .slice A1 people.length c1, .slice A2 cases.length c2], .pointer (some ⟨P, 0, none⟩), .pointer (some ⟨P + 1, 0, none⟩), .int .i64 nn, .int .i64 0, .int .i64 0, .pointer (some ⟨B, 0, none⟩), .pointer (some ⟨N6, 0, none⟩), .agg #[.slice A0 need.length c0, .slice A1 people.length c1, .slice A2 cases.length c2], .int .i64 0, .int .i64 0, .bool false, undef, .agg #[.slice A0 need.length c0, .slice A1 people.length c1, .slice A2 cases.length c2], .agg #[.slice A0 need.length c0, .slice A1 people.length c1, .slice A2 cases.length c2], u15, .pointer (some ⟨k.K, 0, none⟩), .pointer (some ⟨k.K, 0, none⟩), .agg std0.vals, .agg (std0.spot 0), .int .i64 nn, .int .i64 nn, .bool false, .func (.func 107) #[] #[.pointer (some ⟨P, 0, none⟩), .pointer (some ⟨B, 0, none⟩), .pointer (some ⟨P + 1, 0, none⟩), .pointer (some ⟨N6, 0, none⟩)], t 0, t 1, t 2, t 3, t 4, undef, undef], defers := [] })
            (fun L t w' => (L 4 = false → x.Es k w' n0 []) ∧ (L 4 = true → x.Es k w' (n0 + ecost need.length) (k.rows need.length 0 std0 nn)))
            (fun ix v => match ix with | 0 => v = .func (.func 107) #[] #[.pointer (some ⟨P, 0, none⟩), .pointer (some ⟨B, 0, none⟩), .pointer (some ⟨P + 1, 0, none⟩), .pointer (some ⟨N6, 0, none⟩)] | 1 => v = .agg std0.vals | 2 => v = .agg (std0.spot 0) | 3 => v = .int .i64 nn | 4 => True | _ => True)
            (fun j => undef) (by kernel_rfl) ⟨fun _ => HES.out.step (grown_drewN w7 1) (fun r e => by cases e) (HES.out.map.grown (grown_drewN w7 1) (fun r e => by cases e)), by simp⟩ ?stepC ?doneC
          case stepC =>
            intro ix hix
            have hi' : ix < 5 := hix
            match ix, hi' with
            | 0, _ =>
              intro L t w' hL hJ hX hdep hcl
              have n4 : L 4 = false := by
                cases h4 : L 4 with
                | false => rfl
                | true =>
                  have h0 := hcl 4 _ rfl h4 ⟨0, .data⟩ (by simp) rfl
                  rw [hL] at h0; cases h0
              have q : w'.cell? ⟨N6, 0, none⟩ = some (.func (.func 107) #[] #[.pointer (some ⟨P, 0, none⟩), .pointer (some ⟨B, 0, none⟩), .pointer (some ⟨P + 1, 0, none⟩), .pointer (some ⟨N6, 0, none⟩)]) := (blk_cell (HX2.out w' (hJ.1 n4).bE) 0).trans rfl
              refine wpOpIn_step rfl (fun K hK => ?_)
              dsimp only
              go_simp
              refine hK _ _ ⟨.func (.func 107) #[] #[.pointer (some ⟨P, 0, none⟩), .pointer (some ⟨B, 0, none⟩), .pointer (some ⟨P + 1, 0, none⟩), .pointer (some ⟨N6, 0, none⟩)], ?_, rfl, hJ⟩
              simp [upd]
            | 1, _ =>
              intro L t w' hL hJ hX hdep hcl
              have n4 : L 4 = false := by
                cases h4 : L 4 with
                | false => rfl
                | true =>
                  have h2 := hcl 4 _ rfl h4 ⟨2, .data⟩ (by simp) rfl
                  have h1 := hcl 2 _ rfl h2 ⟨1, .data⟩ (by simp) rfl
                  rw [hL] at h1; cases h1
              refine wpOpIn_step rfl (fun K hK => ?_)
              dsimp only
              go_simp
              refine (callsIn_wide.2 (begun_any w')).mono ?_
              rintro e w2 ⟨rfl, rfl⟩
              refine hK _ _ ⟨.agg std0.vals, ?_, rfl, ⟨fun _ => (hJ.1 n4).step (World.grownBy_alloc _ _ none) (fun r e => by cases e) ((hJ.1 n4).map.grown (World.grownBy_alloc _ _ none) (fun r e => by cases e)), fun h => (by rw [show setOn L 1 4 = L 4 from rfl, n4] at h; cases h)⟩⟩
              simp [upd]
            | 2, _ =>
              intro L t w' hL hJ hX hdep hcl
              have x1 : t 1 = .agg std0.vals := hX 1 (hdep _ rfl ⟨1, .data⟩ (by simp) rfl)
              refine wpOpIn_step rfl (fun K hK => ?_)
              dsimp only
              simp only [x1, Std.vals, std0]
              go_simp
              refine hK _ _ ⟨.agg (std0.spot 0), ?_, rfl, hJ⟩
              simp [upd, x1, Std.spot, Std.vals, std0]
            | 3, _ =>
              intro L t w' hL hJ hX hdep hcl
              refine wpOpIn_step rfl (fun K hK => ?_)
              dsimp only
              go_simp
              refine hK _ _ ⟨.int .i64 nn, ?_, rfl, hJ⟩
              simp [upd]
            | 4, _ =>
              intro L t w' hL hJ hX hdep hcl
              have x0 : t 0 = .func (.func 107) #[] #[.pointer (some ⟨P, 0, none⟩), .pointer (some ⟨B, 0, none⟩), .pointer (some ⟨P + 1, 0, none⟩), .pointer (some ⟨N6, 0, none⟩)] := hX 0 (hdep _ rfl ⟨0, .data⟩ (by simp) rfl)
              have x2 : t 2 = .agg (std0.spot 0) := hX 2 (hdep _ rfl ⟨2, .data⟩ (by simp) rfl)
              have x3 : t 3 = .int .i64 nn := hX 3 (hdep _ rfl ⟨3, .data⟩ (by simp) rfl)
              have hc := HEXT.out w' (hJ.1 hL)
              have HC := Aside0.mk hc
              clear hc
              refine wpOpIn_step rfl (fun K hK => ?_)
              dsimp only
              simp only [x0, x2, x3]
              go_simp
              refine (callsIn_wide.2 HC.out).mono ?_
              rintro e w2 ⟨rfl, hes2⟩
              refine hK _ _ ⟨.tuple #[], ?_, trivial, ⟨fun h => (by simp [setOn] at h), fun _ => hes2⟩⟩
              simp [upd, x0, x2, x3]
            | j + 5, h => exact absurd h (by omega)
          case doneC =>
            intro L t w8 hL hJ hX
            have x0 : t 0 = .func (.func 107) #[] #[.pointer (some ⟨P, 0, none⟩), .pointer (some ⟨B, 0, none⟩), .pointer (some ⟨P + 1, 0, none⟩), .pointer (some ⟨N6, 0, none⟩)] := hX 0 (by decide)
            have x1 : t 1 = .agg std0.vals := hX 1 (by decide)
            have x2 : t 2 = .agg (std0.spot 0) := hX 2 (by decide)
            have x3 : t 3 = .int .i64 nn := hX 3 (by decide)
            have hes8 := hJ.2 (hL 4 (by decide))
            try dsimp only
            simp only [x0, x1, x2, x3]
            have HES8 := Aside0.mk hes8
            clear x0 x1 x2 x3 hX hJ hL hes8
            obtain ⟨v, hv1, hv2⟩ := HES8.out.bR
            obtain ⟨Ar, cr, hvr⟩ := Kd.S_slice hv2
            obtain ⟨nr, hnr⟩ : ∃ nr, nr = (k.rows need.length 0 std0 nn).length := ⟨_, rfl⟩
            rw [← hnr] at hvr
            subst hvr
            have hxb : x.BR = P + 1 := by rw [HXE.out]
            rw [hxb] at hv1
            have q1 : w8.cell? ⟨P + 1, 0, none⟩ = some (.slice Ar nr cr) := (blk_cell hv1 0).trans rfl
            have f1 : w8.frozen? ⟨P + 1, 0, none⟩ = false := blk_frozen hv1 0
            have HV := Aside0.mk (And.intro hv1 hv2)
            clear hv1 hv2 hnr hxb
            gi_wp2
            have hcs := cellset (u := .slice Ar nr cr) HV.out.1
            have hc := (blk_cell hcs 0).trans rfl
            simp only [List.getElem?_toArray, List.getElem?_cons_zero] at hc
            have hR : KR.S 22 (w8.setCell ⟨P + 1, 0, none⟩ (.slice Ar nr cr)) x.w0.heap.size (fun _ => True) (.slice Ar nr cr) (k.rows need.length 0 std0 nn) := Kd.S_set HV.out.2 HV.out.1 (by intro q hq; simp only [KR, Kd.slice, Kd.int, Kd.scalar, List.mem_cons, List.not_mem_nil, or_false] at hq; omega) 0 _
            have hold := HES8.out.old
            have hrows : k.rows need.length 0 std0 nn = rowsS need people cases (evs people.length) := by rw [rows_mkW k, HWK.out.n, HWK.out.p, HWK.out.c, HWK.out.l, HFEWS.out]; rfl
            have hb : bs = (k.rows need.length 0 std0 nn, nn, 0) := by rw [HBS.out, bestS, if_neg (by rw [← HPE.out]; simp), if_neg (by rw [← HFEWS.out]; have := HGE.out; omega), hrows, ← HFEWS.out]
            subst hb
            have hle : w.heap.size ≤ x.w0.heap.size := by rw [HXE.out]; show w.heap.size ≤ w0.heap.size; have := HWK.out.le; have := HWK.out.le1; have := HG1.out.size; omega
            rw [HXE.out] at hold
            refine bodyPost_ret (v := .tuple #[.slice Ar nr cr, .int .i64 nn, .int .i64 0]) (by simp [results, Tryz.results42, go_sem, hc]) rfl ⟨.slice Ar nr cr, rfl, Kd.S_lower hR hle, below_set1 hold (by have := HPP.out; show w.heap.size ≤ P + 1; omega) 0 _⟩
  · have bz : (pe != 0) = true := by rw [bne_iff_ne]; exact hz
    have q1 : w1.cell? ⟨P + 1, 0, none⟩ = some (.slice none 0 0) := (blk_cell h11 0).trans rfl
    have f1 : w1.frozen? ⟨P + 1, 0, none⟩ = false := blk_frozen h11 0
    have HZ := Aside0.mk hz
    have H11 := Aside0.mk h11
    have HG1 := Aside0.mk hgw1
    clear h10 h11 hgw1 hg1 HCHK hz
    gi_wp2
    have hc := (blk_cell (cellset (u := .slice none 0 0) H11.out) 0).trans rfl
    simp only [List.getElem?_toArray, List.getElem?_cons_zero] at hc
    have hb : bs = ([], 0, pe) := by rw [HBS.out, bestS, if_pos (by rw [← HPE.out]; exact HZ.out), ← HPE.out]
    subst hb
    refine bodyPost_ret (v := .tuple #[.slice none 0 0, .int .i64 0, .int .i64 pe]) (by simp [results, Tryz.results42, go_sem, hc]) rfl ⟨.slice none 0 0, rfl, Kd.S_nil _ _ _ _ _, below_set1 (below_none HG1.out) (by have := HPP.out; omega) 0 _⟩
end Go.Proofs.YtekdacalkllipaaGreat.PR
end
