/- Walks: Whole. -/
import Derived.Test.YthdoelcgdgcncaaGreatDoorWalkA
set_option maxRecDepth 100000
set_option maxHeartbeats 4000000
set_option linter.unusedVariables false
set_option linter.unusedSimpArgs false
namespace Go.Proofs.YthdoelcgdgcncaaGreatDoor
open Go Go.Can
variable {β : Type}

def wholeL (l : List Rg) (x c : Int) : Bool := okE x c && decide (c ≤ 16) && (List.range c.toNat).all fun i => (findV l (x + i)).isSome

theorem whole_ok (d : Nat) {v : CV} {l : List Rg} {h : T Blk} {nx : Nat} {x c : Int} (hs : SlR h nx v l) (hok : ∀ r ∈ l, r.ok) (hx0 : 0 ≤ x) (hx1 : x < 18446744073709551616) (hc0 : -9223372036854775808 ≤ c) (hc1 : c < 9223372036854775808) :
    FG (β := β) tab (d + 6) 52 [v, .int .u64 x, .int .i64 c] h nx fun v' h' nx' => v' = .bool (wholeL l x c) ∧ Ext h nx h' nx' := by
  refine FG.of (fn := Tryz.f52) (c := c52) (n := 38) (rs := [.tmp 6]) (by kernel_rfl) (by kernel_rfl) (by kernel_rfl) c52_ok rfl rfl (by simp) fun call hc => ?_
  simp only [cellsT_cons, cellsT_nil, Nat.zero_add, Nat.reduceAdd]
  unfold c52
  refine CG.seq ?_
  apply CG.reg
  · intro k
    simp (maxSteps := 2000000) (disch := first | decide | omega | rfl) only [s52_0, ↓runS_op, ↓runS_nil, ↓optK_some, optK_some, ↓putT_some, ↓grd_true, grd_true, T.get_same, T.get_other, ↓evO_tmp, ↓grd_blt, grd_blt, ↓evO_const, ofValue, ↓ev_assign]
    exact rfl
  refine CG.seq ?_
  have ec := end_eq (β := β) (d + 4) hx0 hx1 hc0 hc1
  rw [show d + 4 + 1 = d + 5 from rfl, ← hc] at ec
  cases ho : okE x c with
  | false =>
    rw [ho] at ec
    apply CG.reg
    · intro k
      simp (maxSteps := 2000000) (disch := first | decide | omega | rfl) only [s52_1, s52_1_0, s52_1_1, List.cons_append, List.nil_append, ↓runS_op, ↓runS_nil, ↓optK_some, optK_some, ↓putT_some, ↓grd_true, grd_true, T.get_same, T.get_other, ↓evO_tmp, ↓grd_blt, grd_blt, ↓ev_move, ↓ev_assign, ↓ev_extract, List.getElem?_cons_zero, List.getElem?_cons_succ, ↓ev_call, ↓evOs_cons, ↓evOs_nil, ↓notMap_fn, notMap_fn, ↓evO_func, ↓ec, ec]
      exact rfl
    refine CG.seq ?_
    refine CG.seq ?_
    apply CG.reg
    · intro k
      simp (maxSteps := 2000000) (disch := first | decide | omega | rfl) only [s52_2, ↓runS_op, ↓runS_nil, ↓optK_some, optK_some, ↓putT_some, ↓grd_true, grd_true, T.get_same, T.get_other, ↓evO_tmp, ↓grd_blt, grd_blt, ↓runS_if, ↓wantS_tt, wantS_tt, ↓wantS_tf, wantS_tf, ↓wantS_ft, wantS_ft, ↓wantS_ff, wantS_ff, ↓evO_const, ofValue, ↓ev_move, ↓ev_bin, ↓binCV_eq, binCV_eq, binR, ↓ev_pick, ↓pickK_true, pickK_true, ↓pickK_false, pickK_false, ↓ev_not, Bool.not_true, Bool.not_false]
      exact rfl
    refine CG.cond_true (fun k => by simp (maxSteps := 2000000) (disch := first | decide | omega | rfl) only [evO_tmp, optK_some, T.get_same, T.get_other] <;> rfl) ?_
    refine CG.seq ?_
    apply CG.reg
    · intro k
      simp (maxSteps := 2000000) (disch := first | decide | omega | rfl) only [s52_3, ↓runS_op, ↓runS_nil, ↓optK_some, optK_some, ↓putT_some, ↓grd_true, grd_true, T.get_same, T.get_other, ↓evO_tmp, ↓grd_blt, grd_blt, ↓evO_const, ofValue, ↓ev_assign]
      exact rfl
    refine CG.ret ?_
    have hw : wholeL l x c = false := by simp [wholeL, ho]
    exact ⟨_, _, _, ⟨rfl, .refl _ _⟩, fun k => by simp (disch := decide) only [hw, finK_ret, resultsK_tmp, resultsK_nil, rc29, rc38, rc47, resP_ptr, ldKn_ptr, ldBn_cells, read3, read5, read8, newB, cellsT_cons, cellsT_nil, Nat.zero_add, Nat.reduceAdd, retK_one, retK_two, retK_nil, optK_some, T.get_same, T.get_other] <;> rfl⟩
  | true =>
    rw [ho, if_pos rfl] at ec
    obtain ⟨o1, o2, o3⟩ := okE_iff.1 ho
    apply CG.reg
    · intro k
      simp (maxSteps := 2000000) (disch := first | decide | omega | rfl) only [s52_1, s52_1_0, s52_1_1, List.cons_append, List.nil_append, ↓runS_op, ↓runS_nil, ↓optK_some, optK_some, ↓putT_some, ↓grd_true, grd_true, T.get_same, T.get_other, ↓evO_tmp, ↓grd_blt, grd_blt, ↓ev_move, ↓ev_assign, ↓ev_extract, List.getElem?_cons_zero, List.getElem?_cons_succ, ↓ev_call, ↓evOs_cons, ↓evOs_nil, ↓notMap_fn, notMap_fn, ↓evO_func, ↓ec, ec]
      exact rfl
    refine CG.seq ?_
    refine CG.seq ?_
    by_cases h16 : 16 < c
    · have c1 : decide (16 < c) = true := by simp; omega
      apply CG.reg
      · intro k
        simp (maxSteps := 2000000) (disch := first | decide | omega | rfl) only [s52_2, ↓runS_op, ↓runS_nil, ↓optK_some, optK_some, ↓putT_some, ↓grd_true, grd_true, T.get_same, T.get_other, ↓evO_tmp, ↓grd_blt, grd_blt, ↓runS_if, ↓wantS_tt, wantS_tt, ↓wantS_tf, wantS_tf, ↓wantS_ft, wantS_ft, ↓wantS_ff, wantS_ff, ↓evO_const, ofValue, ↓ev_move, ↓ev_bin, ↓binCV_eq, binCV_eq, binR, ↓ev_pick, ↓pickK_true, pickK_true, ↓pickK_false, pickK_false, ↓ev_not, Bool.not_true, Bool.not_false, ↓c1, c1]
        exact rfl
      refine CG.cond_true (fun k => by simp (maxSteps := 2000000) (disch := first | decide | omega | rfl) only [evO_tmp, optK_some, T.get_same, T.get_other] <;> rfl) ?_
      refine CG.seq ?_
      apply CG.reg
      · intro k
        simp (maxSteps := 2000000) (disch := first | decide | omega | rfl) only [s52_3, ↓runS_op, ↓runS_nil, ↓optK_some, optK_some, ↓putT_some, ↓grd_true, grd_true, T.get_same, T.get_other, ↓evO_tmp, ↓grd_blt, grd_blt, ↓evO_const, ofValue, ↓ev_assign]
        exact rfl
      refine CG.ret ?_
      have hw : wholeL l x c = false := by simp [wholeL]; omega
      exact ⟨_, _, _, ⟨rfl, .refl _ _⟩, fun k => by simp (disch := decide) only [hw, finK_ret, resultsK_tmp, resultsK_nil, rc29, rc38, rc47, resP_ptr, ldKn_ptr, ldBn_cells, read3, read5, read8, newB, cellsT_cons, cellsT_nil, Nat.zero_add, Nat.reduceAdd, retK_one, retK_two, retK_nil, optK_some, T.get_same, T.get_other] <;> rfl⟩
    · have c1 : decide (16 < c) = false := by simp; omega
      apply CG.reg
      · intro k
        simp (maxSteps := 2000000) (disch := first | decide | omega | rfl) only [s52_2, ↓runS_op, ↓runS_nil, ↓optK_some, optK_some, ↓putT_some, ↓grd_true, grd_true, T.get_same, T.get_other, ↓evO_tmp, ↓grd_blt, grd_blt, ↓runS_if, ↓wantS_tt, wantS_tt, ↓wantS_tf, wantS_tf, ↓wantS_ft, wantS_ft, ↓wantS_ff, wantS_ff, ↓evO_const, ofValue, ↓ev_move, ↓ev_bin, ↓binCV_eq, binCV_eq, binR, ↓ev_pick, ↓pickK_true, pickK_true, ↓pickK_false, pickK_false, ↓ev_not, Bool.not_true, Bool.not_false, ↓c1, c1]
        exact rfl
      refine CG.cond_false (fun k => by simp (maxSteps := 2000000) (disch := first | decide | omega | rfl) only [evO_tmp, optK_some, T.get_same, T.get_other] <;> rfl) ?_
      refine CG.skip ?_
      refine CG.seq ?_
      refine CG.seq ?_
      apply CG.reg
      · intro k
        simp (maxSteps := 2000000) (disch := first | decide | omega | rfl) only [s52_4, ↓runS_op, ↓runS_nil, ↓optK_some, optK_some, ↓putT_some, ↓grd_true, grd_true, T.get_same, T.get_other, ↓evO_tmp, ↓grd_blt, grd_blt, ↓ev_move, ↓ev_assign]
        exact rfl
      refine CG.block ?_
      refine CG.loop (fun m t h' nx' => ∃ i : Nat, (i : Int) ≤ c ∧ m = c.toNat - i ∧ (∀ j : Nat, j < i → (findV l (x + j)).isSome = true) ∧ t.get 0 = some v ∧ t.get 7 = some (.int .u64 (x + c)) ∧ t.get 9 = some (.int .u64 (x + i)) ∧ Ext h nx h' nx') ?_ (m := c.toNat) (by omega) ?_
      rotate_left
      · refine ⟨0, by omega, by omega, fun j hj => by omega, by simp (maxSteps := 2000000) (disch := first | decide | omega | rfl) only [T.get_same, T.get_other] <;> rfl, by simp (maxSteps := 2000000) (disch := first | decide | omega | rfl) only [T.get_same, T.get_other] <;> rfl, ?_, .refl _ _⟩
        simp (disch := decide) only [T.get_same, T.get_other]
        simp
      rintro m t h' nx' ⟨i, hi, rfl, hall, e0, e7, e9, hx⟩
      refine CG.seq ?_
      refine CG.seq ?_
      by_cases hend : x + i < x + c
      · have c2 : decide (x + (i : Int) < x + c) = true := by simp; omega
        apply CG.reg
        · intro k
          simp (maxSteps := 2000000) (disch := first | decide | omega | rfl) only [s52_5, ↓runS_op, ↓runS_nil, ↓optK_some, optK_some, ↓putT_some, ↓grd_true, grd_true, T.get_same, T.get_other, ↓evO_tmp, ↓grd_blt, grd_blt, ↓ev_move, ↓ev_bin, ↓binCV_eq, binCV_eq, binR, ↓e7, e7, ↓e9, e9, ↓c2, c2]
          exact rfl
        refine CG.cond_true (fun k => by simp (maxSteps := 2000000) (disch := first | decide | omega | rfl) only [evO_tmp, optK_some, T.get_same, T.get_other] <;> rfl) ?_
        refine CG.skip ?_
        refine CG.seq ?_
        refine CG.block ?_
        refine CG.seq ?_
        obtain ⟨_, H, NX, ⟨rfl, hx2⟩, e⟩ := find_ok (β := β) d (page := x + i) (hs.ext hx) hok
        rw [← hc] at e
        have hX := hx.trans hx2
        have hXle := hX.le
        generalize hfv : findV l (x + i) = fv at e
        generalize rgO fv = rr at e
        apply CG.reg
        · intro k
          simp (maxSteps := 2000000) (disch := first | decide | omega | rfl) only [s52_7, s52_7_0, s52_7_1, List.cons_append, List.nil_append, ↓runS_op, ↓runS_nil, ↓optK_some, optK_some, ↓putT_some, ↓grd_true, grd_true, T.get_same, T.get_other, ↓evO_tmp, ↓grd_blt, grd_blt, ↓putT_none, Nat.add_zero, Nat.zero_add, Nat.reduceAdd, ↓ev_move, ↓ev_assign, ↓ev_extract, List.getElem?_cons_zero, List.getElem?_cons_succ, ↓ev_call, ↓evOs_cons, ↓evOs_nil, ↓notMap_fn, notMap_fn, ↓evO_func, ↓ptrOf_ptr, ↓stK_eq, ↓stB_cells, ↓grd_beq, grd_beq, ↓grd_ble, grd_ble, Bool.true_and, Bool.and_true, cells_int, cells_bool, cells_agg, cells_slice, cells_nilslice, cells_fn, cells_nilfn, cells_ptr, List.length_cons, List.length_nil, newB, cellsT_cons, cellsT_nil, ↓st38, ↓al38, ↓e0, e0, ↓e9, e9, ↓e, e]
          exact rfl
        refine CG.seq ?_
        cases fv with
        | none =>
          apply CG.reg
          · intro k
            simp (maxSteps := 2000000) (disch := first | decide | omega | rfl) only [s52_8, ↓runS_op, ↓runS_nil, ↓optK_some, optK_some, ↓putT_some, ↓grd_true, grd_true, T.get_same, T.get_other, ↓evO_tmp, ↓grd_blt, grd_blt, ↓ev_move, ↓ev_not, Bool.not_true, Bool.not_false]
            exact rfl
          refine CG.cond_true (fun k => by simp (maxSteps := 2000000) (disch := first | decide | omega | rfl) only [evO_tmp, optK_some, T.get_same, T.get_other] <;> rfl) ?_
          refine CG.seq ?_
          apply CG.reg
          · intro k
            simp (maxSteps := 2000000) (disch := first | decide | omega | rfl) only [s52_9, ↓runS_op, ↓runS_nil, ↓optK_some, optK_some, ↓putT_some, ↓grd_true, grd_true, T.get_same, T.get_other, ↓evO_tmp, ↓grd_blt, grd_blt, ↓evO_const, ofValue, ↓ev_assign]
            exact rfl
          refine CG.ret ?_
          have hw : wholeL l x c = false := by
            simp only [wholeL, Bool.and_eq_false_iff]
            refine .inr ?_
            rw [List.all_eq_false]
            exact ⟨i, List.mem_range.2 (by omega), by rw [hfv]; simp⟩
          refine ⟨_, _, _, ⟨rfl, ?_⟩, fun k => by simp (disch := decide) only [hw, finK_ret, resultsK_tmp, resultsK_nil, rc29, rc38, rc47, resP_ptr, ldKn_ptr, ldBn_cells, read3, read5, read8, newB, cellsT_cons, cellsT_nil, Nat.zero_add, Nat.reduceAdd, retK_one, retK_two, retK_nil, optK_some, T.get_same, T.get_other] <;> rfl⟩
          exact hX.new.set (by omega)
        | some r =>
          apply CG.reg
          · intro k
            simp (maxSteps := 2000000) (disch := first | decide | omega | rfl) only [s52_8, ↓runS_op, ↓runS_nil, ↓optK_some, optK_some, ↓putT_some, ↓grd_true, grd_true, T.get_same, T.get_other, ↓evO_tmp, ↓grd_blt, grd_blt, ↓ev_move, ↓ev_not, Bool.not_true, Bool.not_false]
            exact rfl
          refine CG.cond_false (fun k => by simp (maxSteps := 2000000) (disch := first | decide | omega | rfl) only [evO_tmp, optK_some, T.get_same, T.get_other] <;> rfl) ?_
          refine CG.skip ?_
          have w1 : IntKind.u64.wrap (x + (i : Int) + 1) = x + ((i + 1 : Nat) : Int) := by rw [wrap_u64 (by omega) (by omega)]; omega
          apply CG.reg
          · intro k
            simp (maxSteps := 2000000) (disch := first | decide | omega | rfl) only [s52_6, ↓runS_op, ↓runS_nil, ↓optK_some, optK_some, ↓putT_some, ↓grd_true, grd_true, T.get_same, T.get_other, ↓evO_tmp, ↓grd_blt, grd_blt, ↓evO_const, ofValue, ↓ev_move, ↓ev_assign, ↓ev_bin, ↓binCV_eq, binCV_eq, binR, ↓e9, e9, ↓w1, w1]
            exact rfl
          refine ⟨c.toNat - (i + 1), by omega, i + 1, by omega, rfl, fun j hj => ?_, by simp (maxSteps := 2000000) (disch := first | decide | omega | rfl) only [e0, T.get_same, T.get_other] <;> rfl, by simp (maxSteps := 2000000) (disch := first | decide | omega | rfl) only [e7, T.get_same, T.get_other] <;> rfl, by simp (maxSteps := 2000000) (disch := first | decide | omega | rfl) only [T.get_same, T.get_other] <;> rfl, hX.new.set (by omega)⟩
          rcases Nat.lt_succ_iff_lt_or_eq.1 hj with hj | rfl
          · exact hall j hj
          · rw [hfv]; rfl
      · have c2 : decide (x + (i : Int) < x + c) = false := by simp; omega
        apply CG.reg
        · intro k
          simp (maxSteps := 2000000) (disch := first | decide | omega | rfl) only [s52_5, ↓runS_op, ↓runS_nil, ↓optK_some, optK_some, ↓putT_some, ↓grd_true, grd_true, T.get_same, T.get_other, ↓evO_tmp, ↓grd_blt, grd_blt, ↓ev_move, ↓ev_bin, ↓binCV_eq, binCV_eq, binR, ↓e7, e7, ↓e9, e9, ↓c2, c2]
          exact rfl
        refine CG.cond_false (fun k => by simp (maxSteps := 2000000) (disch := first | decide | omega | rfl) only [evO_tmp, optK_some, T.get_same, T.get_other] <;> rfl) ?_
        refine CG.exit ?_
        simp only [if_pos]
        refine CG.seq ?_
        apply CG.reg
        · intro k
          simp (maxSteps := 2000000) (disch := first | decide | omega | rfl) only [s52_10, ↓runS_op, ↓runS_nil, ↓optK_some, optK_some, ↓putT_some, ↓grd_true, grd_true, T.get_same, T.get_other, ↓evO_tmp, ↓grd_blt, grd_blt, ↓evO_const, ofValue, ↓ev_assign]
          exact rfl
        refine CG.ret ?_
        have hw : wholeL l x c = true := by
          simp only [wholeL, ho, Bool.and_eq_true, List.all_eq_true, decide_eq_true_eq]
          exact ⟨⟨trivial, by omega⟩, fun j hj => hall j (by have := List.mem_range.1 hj; omega)⟩
        exact ⟨_, _, _, ⟨rfl, hx⟩, fun k => by simp (disch := decide) only [hw, finK_ret, resultsK_tmp, resultsK_nil, rc29, rc38, rc47, resP_ptr, ldKn_ptr, ldBn_cells, read3, read5, read8, newB, cellsT_cons, cellsT_nil, Nat.zero_add, Nat.reduceAdd, retK_one, retK_two, retK_nil, optK_some, T.get_same, T.get_other] <;> rfl⟩
end Go.Proofs.YthdoelcgdgcncaaGreatDoor
/- Walks: Same. -/
namespace Go.Proofs.YthdoelcgdgcncaaGreatDoor
open Go Go.Can
variable {β : Type}

theorem kinds38 : kindsOf tab (mkTI Tryz.t38 Tryz.t37.desc true) = some [.i, .i, .b] := by kernel_rfl
theorem u38 : ∃ fs, (mkTI Tryz.t38 Tryz.t37.desc true).u = .struct fs := ⟨_, rfl⟩

def eqRg (r s : Rg) : Bool := decide (r.a = s.a) && (decide (r.c = s.c) && (r.w == s.w))

theorem eqRg_iff {r s : Rg} : eqRg r s = true ↔ r = s := by
  cases r; cases s
  simp [eqRg]

theorem eq_rg (r s : Rg) (c : Bool → Res β) : eqCV tab 38 (.agg [.int .u64 r.a, .int .i64 r.c, .bool r.w]) (.agg [.int .u64 s.a, .int .i64 s.c, .bool s.w]) c = c (eqRg r s) := by
  obtain ⟨fs, hu⟩ := u38
  unfold eqCV
  rw [tyK_eq, ty38, optK_some, hu]
  show optK 23 (kindsOf tab (mkTI Tryz.t38 Tryz.t37.desc true)) _ = _
  rw [kinds38, optK_some]
  have : eqCells [.i, .i, .b] [.int .u64 r.a, .int .i64 r.c, .bool r.w] [.int .u64 s.a, .int .i64 s.c, .bool s.w] = some (eqRg r s) := by
    simp only [eqCells, eq1, kEq_same, eqN_eq, eqB_eq]
    unfold eqRg
    cases h1 : (r.a == s.a) <;> cases h2 : (r.c == s.c) <;> cases h3 : (r.w == s.w) <;> simp_all
  rw [this, optK_some, boolK_eq]

theorem neq_rg (r s : Rg) (c : CV → Res β) : binCV tab .neq 38 (.agg [.int .u64 r.a, .int .i64 r.c, .bool r.w]) (.agg [.int .u64 s.a, .int .i64 s.c, .bool s.w]) c = c (.bool (!eqRg r s)) :=
  eq_rg r s fun x => c (.bool (!x))

/-- the same regions? -/
def sameL : List Rg → List Rg → Bool
  | [], [] => true
  | r :: a, s :: b => eqRg r s && sameL a b
  | _, _ => false

theorem sameL_iff : ∀ (a b : List Rg), sameL a b = true ↔ a = b
  | [], [] => by simp [sameL]
  | [], s :: b => by simp [sameL]
  | r :: a, [] => by simp [sameL]
  | r :: a, s :: b => by simp [sameL, eqRg_iff, sameL_iff a b]

theorem sameL_len : ∀ (a b : List Rg), sameL a b = true → a.length = b.length := fun a b h => by rw [(sameL_iff a b).1 h]

theorem same_ok (d : Nat) {v u : CV} {a l : List Rg} {h : T Blk} {nx : Nat} (hs : SlR h nx v a) (ht : SlR h nx u l) (hl : l.length ≤ 1000) :
    FG (β := β) tab (d + 1) 9 [v, u] h nx fun v' h' nx' => v' = .bool (sameL a l) ∧ Ext h nx h' nx' := by
  refine FG.of (fn := Tryz.f9) (c := c9) (n := 26) (rs := [.tmp 4]) (by kernel_rfl) (by kernel_rfl) (by kernel_rfl) c9_ok rfl rfl (by simp) fun call hc => ?_
  have hlen := fun tys h' nx' k => hs.len (β := β) tys h' nx' k
  have hlen2 := fun tys h' nx' k => ht.len (β := β) tys h' nx' k
  obtain ⟨b, o, hel⟩ := hs.elem (β := β)
  obtain ⟨b2, o2, hel2⟩ := ht.elem (β := β)
  simp only [cellsT_cons, cellsT_nil, Nat.zero_add, Nat.reduceAdd]
  unfold c9
  refine CG.seq ?_
  apply CG.reg
  · intro k
    simp (maxSteps := 2000000) (disch := first | decide | omega | rfl) only [s9_0, ↓runS_op, ↓runS_nil, ↓optK_some, optK_some, ↓putT_some, ↓grd_true, grd_true, T.get_same, T.get_other, ↓evO_tmp, ↓grd_blt, grd_blt, ↓evO_const, ofValue, ↓ev_assign]
    exact rfl
  refine CG.seq ?_
  refine CG.seq ?_
  by_cases hll : a.length = l.length
  · have c1 : decide ((a.length : Int) = (l.length : Int)) = true := by simp; omega
    apply CG.reg
    · intro k
      simp (maxSteps := 2000000) (disch := first | decide | omega | rfl) only [s9_1, ↓runS_op, ↓runS_nil, ↓optK_some, optK_some, ↓putT_some, ↓grd_true, grd_true, T.get_same, T.get_other, ↓evO_tmp, ↓grd_blt, grd_blt, ↓ev_move, ↓ev_bin, ↓binCV_eq, binCV_eq, binR, ↓ev_builtin, ↓evOs_cons, ↓evOs_nil, ↓ln22, ln22, ↓lz22, lz22, ↓ln116, ln116, ↓lz116, lz116, ↓hlen, hlen, ↓hlen2, hlen2, ↓c1, c1]
      exact rfl
    refine CG.cond_false (fun k => by simp (maxSteps := 2000000) (disch := first | decide | omega | rfl) only [evO_tmp, optK_some, T.get_same, T.get_other] <;> rfl) ?_
    refine CG.skip ?_
    refine CG.seq ?_
    refine CG.seq ?_
    apply CG.reg
    · intro k
      simp (maxSteps := 2000000) (disch := first | decide | omega | rfl) only [s9_3, ↓runS_op, ↓runS_nil, ↓optK_some, optK_some, ↓putT_some, ↓grd_true, grd_true, T.get_same, T.get_other, ↓evO_tmp, ↓grd_blt, grd_blt, ↓evO_const, ofValue, ↓ev_assign]
      exact rfl
    refine CG.block ?_
    refine CG.loop (fun m t h' nx' => ∃ i : Nat, i ≤ l.length ∧ m = l.length - i ∧ sameL a l = sameL (a.drop i) (l.drop i) ∧ t.get 0 = some v ∧ t.get 1 = some u ∧ t.get 5 = some (.int .i64 (i : Int)) ∧ h' = h ∧ nx' = nx) ?_ (m := l.length) (by omega) ?_
    rotate_left
    · exact ⟨0, by omega, by omega, rfl, by simp (maxSteps := 2000000) (disch := first | decide | omega | rfl) only [T.get_same, T.get_other] <;> rfl, by simp (maxSteps := 2000000) (disch := first | decide | omega | rfl) only [T.get_same, T.get_other] <;> rfl, by simp (maxSteps := 2000000) (disch := first | decide | omega | rfl) only [T.get_same, T.get_other] <;> rfl, rfl, rfl⟩
    rintro m t h' nx' ⟨i, hi, rfl, hsm, e0, e1, e5, rfl, rfl⟩
    refine CG.seq ?_
    refine CG.seq ?_
    by_cases hend : i = l.length
    · subst hend
      have c2 : decide ((l.length : Int) < (a.length : Int)) = false := by simp; omega
      apply CG.reg
      · intro k
        simp (maxSteps := 2000000) (disch := first | decide | omega | rfl) only [s9_4, ↓runS_op, ↓runS_nil, ↓optK_some, optK_some, ↓putT_some, ↓grd_true, grd_true, T.get_same, T.get_other, ↓evO_tmp, ↓grd_blt, grd_blt, ↓ev_move, ↓ev_bin, ↓binCV_eq, binCV_eq, binR, ↓ev_builtin, ↓evOs_cons, ↓evOs_nil, ↓ln22, ln22, ↓lz22, lz22, ↓ln116, ln116, ↓lz116, lz116, ↓e0, e0, ↓e5, e5, ↓hlen, hlen, ↓c2, c2]
        exact rfl
      refine CG.cond_false (fun k => by simp (maxSteps := 2000000) (disch := first | decide | omega | rfl) only [evO_tmp, optK_some, T.get_same, T.get_other] <;> rfl) ?_
      refine CG.exit ?_
      simp only [if_pos]
      refine CG.seq ?_
      apply CG.reg
      · intro k
        simp (maxSteps := 2000000) (disch := first | decide | omega | rfl) only [s9_8, ↓runS_op, ↓runS_nil, ↓optK_some, optK_some, ↓putT_some, ↓grd_true, grd_true, T.get_same, T.get_other, ↓evO_tmp, ↓grd_blt, grd_blt, ↓evO_const, ofValue, ↓ev_assign]
        exact rfl
      refine CG.ret ?_
      have hw : sameL a l = true := by rw [hsm, List.drop_length, ← hll, List.drop_length]; rfl
      exact ⟨_, _, _, ⟨rfl, .refl _ _⟩, fun k => by simp (disch := decide) only [hw, finK_ret, resultsK_tmp, resultsK_nil, rc29, rc38, rc47, resP_ptr, ldKn_ptr, ldBn_cells, read3, read5, read8, newB, cellsT_cons, cellsT_nil, Nat.zero_add, Nat.reduceAdd, retK_one, retK_two, retK_nil, optK_some, T.get_same, T.get_other] <;> rfl⟩
    · have c2 : decide ((i : Int) < (a.length : Int)) = true := by simp; omega
      obtain ⟨r, hr⟩ : ∃ r, a[i]? = some r := ⟨a[i]'(by omega), List.getElem?_eq_getElem (by omega)⟩
      obtain ⟨s, hs'⟩ : ∃ r, l[i]? = some r := ⟨l[i]'(by omega), List.getElem?_eq_getElem (by omega)⟩
      obtain ⟨hb, hix, n, cs, rw, hbk, g0, g1, g2⟩ := hel i r hr
      obtain ⟨hb2, hix2, n2, cs2, rw2, hbk2, p0, p1, p2⟩ := hel2 i s hs'
      rw [List.drop_eq_getElem_cons (show i < a.length by omega), List.drop_eq_getElem_cons (show i < l.length by omega)] at hsm
      rw [(List.getElem?_eq_some_iff.1 hr).2, (List.getElem?_eq_some_iff.1 hs').2] at hsm
      simp only [sameL] at hsm
      apply CG.reg
      · intro k
        simp (maxSteps := 2000000) (disch := first | decide | omega | rfl) only [s9_4, ↓runS_op, ↓runS_nil, ↓optK_some, optK_some, ↓putT_some, ↓grd_true, grd_true, T.get_same, T.get_other, ↓evO_tmp, ↓grd_blt, grd_blt, ↓ev_move, ↓ev_bin, ↓binCV_eq, binCV_eq, binR, ↓ev_builtin, ↓evOs_cons, ↓evOs_nil, ↓ln22, ln22, ↓lz22, lz22, ↓ln116, ln116, ↓lz116, lz116, ↓e0, e0, ↓e5, e5, ↓hlen, hlen, ↓c2, c2]
        exact rfl
      refine CG.cond_true (fun k => by simp (maxSteps := 2000000) (disch := first | decide | omega | rfl) only [evO_tmp, optK_some, T.get_same, T.get_other] <;> rfl) ?_
      refine CG.skip ?_
      refine CG.seq ?_
      refine CG.block ?_
      refine CG.seq ?_
      cases he : eqRg r s with
      | false =>
        apply CG.draw dr9_6.1 dr9_6.2.1 dr9_6.2.2.1 dr9_6.2.2.2
        · intro k
          simp (maxSteps := 2000000) (disch := first | decide | omega | rfl) only [dl9_6, ol9_6, pp9_6, ↓runS_op, ↓runS_nil, ↓optK_some, optK_some, ↓putT_some, ↓grd_true, grd_true, T.get_same, T.get_other, ↓evO_tmp, ↓grd_blt, grd_blt, Nat.add_zero, Nat.zero_add, Nat.reduceAdd, ↓ev_move, ↓ev_bin, ↓binCV_eq, binCV_eq, binR, ↓ldK1_ptr, ↓ldB1_cells, ↓ldKn_ptr, ↓ldBn_cells, ↓read3, read3, ↓read5, read5, List.length_cons, List.length_nil, newB, cellsT_cons, cellsT_nil, ↓natOf_nat, natOf_nat, ↓natOf_0, natOf_0, ↓natOf_1, natOf_1, ↓natOf_2, natOf_2, ↓ixK_sl, ixK_sl, ↓ixK_ar, ixK_ar, Nat.zero_mul, Nat.one_mul, Nat.mul_one, Nat.reduceMul, ↓ld38, ↓ix22, ↓drawD_op, ↓drawD_if, ↓drawD_nil, ↓lookK_nil, ↓lookK_cons, ↓chkD_cons, ↓chkD_nil, ↓nthK_zero, ↓nthK_succ, ↓bothK_true, ↓bothK_false, ↓again_eq, chkD_cons, chkD_nil, nthK_zero, nthK_succ, bothK_true, bothK_false, again_eq, same_int, same_bool, same_ptr, same_slice, same_slicO, same_nilslice, same_rg, same_a3, same_fn0, Bool.and_self, Bool.and_false, Bool.false_and, ↓e0, e0, ↓e1, e1, ↓e5, e5, ↓hix, hix, ↓hix2, hix2, ↓hbk, hbk, ↓hbk2, hbk2, ↓g0, g0, ↓g1, g1, ↓g2, g2, ↓p0, p0, ↓p1, p1, ↓p2, p2, ↓neq_rg, neq_rg, ↓he, he]
          exact rfl
        refine CG.cond_true (fun k => by simp (maxSteps := 2000000) (disch := first | decide | omega | rfl) only [evO_tmp, optK_some, T.get_same, T.get_other] <;> rfl) ?_
        refine CG.seq ?_
        apply CG.reg
        · intro k
          simp (maxSteps := 2000000) (disch := first | decide | omega | rfl) only [s9_7, ↓runS_op, ↓runS_nil, ↓optK_some, optK_some, ↓putT_some, ↓grd_true, grd_true, T.get_same, T.get_other, ↓evO_tmp, ↓grd_blt, grd_blt, ↓evO_const, ofValue, ↓ev_assign]
          exact rfl
        refine CG.ret ?_
        have hw : sameL a l = false := by rw [hsm, he]; rfl
        exact ⟨_, _, _, ⟨rfl, .refl _ _⟩, fun k => by simp (disch := decide) only [hw, finK_ret, resultsK_tmp, resultsK_nil, rc29, rc38, rc47, resP_ptr, ldKn_ptr, ldBn_cells, read3, read5, read8, newB, cellsT_cons, cellsT_nil, Nat.zero_add, Nat.reduceAdd, retK_one, retK_two, retK_nil, optK_some, T.get_same, T.get_other] <;> rfl⟩
      | true =>
        apply CG.draw dr9_6.1 dr9_6.2.1 dr9_6.2.2.1 dr9_6.2.2.2
        · intro k
          simp (maxSteps := 2000000) (disch := first | decide | omega | rfl) only [dl9_6, ol9_6, pp9_6, ↓runS_op, ↓runS_nil, ↓optK_some, optK_some, ↓putT_some, ↓grd_true, grd_true, T.get_same, T.get_other, ↓evO_tmp, ↓grd_blt, grd_blt, Nat.add_zero, Nat.zero_add, Nat.reduceAdd, ↓ev_move, ↓ev_bin, ↓binCV_eq, binCV_eq, binR, ↓ldK1_ptr, ↓ldB1_cells, ↓ldKn_ptr, ↓ldBn_cells, ↓read3, read3, ↓read5, read5, List.length_cons, List.length_nil, newB, cellsT_cons, cellsT_nil, ↓natOf_nat, natOf_nat, ↓natOf_0, natOf_0, ↓natOf_1, natOf_1, ↓natOf_2, natOf_2, ↓ixK_sl, ixK_sl, ↓ixK_ar, ixK_ar, Nat.zero_mul, Nat.one_mul, Nat.mul_one, Nat.reduceMul, ↓ld38, ↓ix22, ↓drawD_op, ↓drawD_if, ↓drawD_nil, ↓lookK_nil, ↓lookK_cons, ↓chkD_cons, ↓chkD_nil, ↓nthK_zero, ↓nthK_succ, ↓bothK_true, ↓bothK_false, ↓again_eq, chkD_cons, chkD_nil, nthK_zero, nthK_succ, bothK_true, bothK_false, again_eq, same_int, same_bool, same_ptr, same_slice, same_slicO, same_nilslice, same_rg, same_a3, same_fn0, Bool.and_self, Bool.and_false, Bool.false_and, ↓e0, e0, ↓e1, e1, ↓e5, e5, ↓hix, hix, ↓hix2, hix2, ↓hbk, hbk, ↓hbk2, hbk2, ↓g0, g0, ↓g1, g1, ↓g2, g2, ↓p0, p0, ↓p1, p1, ↓p2, p2, ↓neq_rg, neq_rg, ↓he, he]
          exact rfl
        refine CG.cond_false (fun k => by simp (maxSteps := 2000000) (disch := first | decide | omega | rfl) only [evO_tmp, optK_some, T.get_same, T.get_other] <;> rfl) ?_
        refine CG.skip ?_
        have w2 : IntKind.i64.wrap ((i : Int) + 1) = ((i + 1 : Nat) : Int) := by rw [wrap_i64 (by omega) (by omega)]; omega
        apply CG.reg
        · intro k
          simp (maxSteps := 2000000) (disch := first | decide | omega | rfl) only [s9_5, ↓runS_op, ↓runS_nil, ↓optK_some, optK_some, ↓putT_some, ↓grd_true, grd_true, T.get_same, T.get_other, ↓evO_tmp, ↓grd_blt, grd_blt, ↓evO_const, ofValue, ↓ev_move, ↓ev_assign, ↓ev_bin, ↓binCV_eq, binCV_eq, binR, ↓e5, e5, ↓w2, w2]
          exact rfl
        refine ⟨l.length - (i + 1), by omega, i + 1, by omega, rfl, ?_, by simp (maxSteps := 2000000) (disch := first | decide | omega | rfl) only [e0, T.get_same, T.get_other] <;> rfl, by simp (maxSteps := 2000000) (disch := first | decide | omega | rfl) only [e1, T.get_same, T.get_other] <;> rfl, by simp (maxSteps := 2000000) (disch := first | decide | omega | rfl) only [T.get_same, T.get_other] <;> rfl, rfl, rfl⟩
        rw [hsm, he, Bool.true_and]
  · have c1 : decide ((a.length : Int) = (l.length : Int)) = false := by simp; omega
    apply CG.reg
    · intro k
      simp (maxSteps := 2000000) (disch := first | decide | omega | rfl) only [s9_1, ↓runS_op, ↓runS_nil, ↓optK_some, optK_some, ↓putT_some, ↓grd_true, grd_true, T.get_same, T.get_other, ↓evO_tmp, ↓grd_blt, grd_blt, ↓ev_move, ↓ev_bin, ↓binCV_eq, binCV_eq, binR, ↓ev_builtin, ↓evOs_cons, ↓evOs_nil, ↓ln22, ln22, ↓lz22, lz22, ↓ln116, ln116, ↓lz116, lz116, ↓hlen, hlen, ↓hlen2, hlen2, ↓c1, c1]
      exact rfl
    refine CG.cond_true (fun k => by simp (maxSteps := 2000000) (disch := first | decide | omega | rfl) only [evO_tmp, optK_some, T.get_same, T.get_other] <;> rfl) ?_
    refine CG.seq ?_
    apply CG.reg
    · intro k
      simp (maxSteps := 2000000) (disch := first | decide | omega | rfl) only [s9_2, ↓runS_op, ↓runS_nil, ↓optK_some, optK_some, ↓putT_some, ↓grd_true, grd_true, T.get_same, T.get_other, ↓evO_tmp, ↓grd_blt, grd_blt, ↓evO_const, ofValue, ↓ev_assign]
      exact rfl
    refine CG.ret ?_
    have hw : sameL a l = false := by
      cases hx : sameL a l with
      | false => rfl
      | true => exact absurd (sameL_len a l hx) hll
    exact ⟨_, _, _, ⟨rfl, .refl _ _⟩, fun k => by simp (disch := decide) only [hw, finK_ret, resultsK_tmp, resultsK_nil, rc29, rc38, rc47, resP_ptr, ldKn_ptr, ldBn_cells, read3, read5, read8, newB, cellsT_cons, cellsT_nil, Nat.zero_add, Nat.reduceAdd, retK_one, retK_two, retK_nil, optK_some, T.get_same, T.get_other] <;> rfl⟩
end Go.Proofs.YthdoelcgdgcncaaGreatDoor
/- Walks: parts. -/
namespace Go.Proofs.YthdoelcgdgcncaaGreatDoor
open Go Go.Can
variable {β : Type}

theorem behind_eq (d : Nat) (r : Rg) (h0 : 0 ≤ r.a) (h1 : 0 ≤ r.c) (h2 : r.a + r.c < 9223372036854775808) (h : T Blk) (nx : Nat) (k : K β) :
    callN tab (d + 1) (.fn 49 [] []) [.agg [.int .u64 r.a, .int .i64 r.c, .bool r.w]] h nx k = k (.int .u64 (r.a + r.c)) (h.set nx (newB [.int .u64 r.a, .int .i64 r.c, .bool r.w])) (nx + 1) := by
  have H : FG (β := β) tab (d + 1) 49 [.agg [.int .u64 r.a, .int .i64 r.c, .bool r.w]] h nx fun v h' nx' => v = .int .u64 (r.a + r.c) ∧ h' = h.set nx (newB [.int .u64 r.a, .int .i64 r.c, .bool r.w]) ∧ nx' = nx + 1 := by
    refine FG.of (fn := Tryz.f49) (c := c49) (n := 9) (rs := [.tmp 2]) (by kernel_rfl) (by kernel_rfl) (by kernel_rfl) c49_ok rfl rfl (by simp) fun call hc => ?_
    have w1 : IntKind.u64.wrap r.c = r.c := wrap_u64 (by omega) (by omega)
    have w2 : IntKind.u64.wrap (r.a + r.c) = r.a + r.c := wrap_u64 (by omega) (by omega)
    simp only [cellsT_cons, cellsT_nil, Nat.zero_add, Nat.reduceAdd]
    unfold c49
    refine CG.seq ?_
    apply CG.reg
    · intro k
      simp (maxSteps := 2000000) (disch := first | decide | omega | rfl) only [s49_0, ↓runS_op, ↓runS_nil, ↓optK_some, optK_some, ↓putT_some, ↓grd_true, grd_true, T.get_same, T.get_other, ↓evO_tmp, ↓grd_blt, grd_blt, ↓evO_const, ofValue, Nat.add_zero, Nat.zero_add, Nat.reduceAdd, ↓ev_assign, ↓ev_box1, ↓boxK_int, ↓boxK_bool, ↓boxK_rg, ↓boxK_a3, ↓boxK_a4, ↓boxK_slice, ↓boxK_nilslice, ↓boxK_fn, List.length_cons, List.length_nil, newB, cellsT_cons, cellsT_nil]
      exact rfl
    refine CG.seq ?_
    apply CG.reg
    · intro k
      simp (maxSteps := 2000000) (disch := first | decide | omega | rfl) only [s49_1, ↓runS_op, ↓runS_nil, ↓optK_some, optK_some, ↓putT_some, ↓grd_true, grd_true, T.get_same, T.get_other, ↓evO_tmp, ↓grd_blt, grd_blt, Nat.add_zero, Nat.zero_add, Nat.reduceAdd, ↓ev_assign, ↓ev_bin, ↓binCV_eq, binCV_eq, binR, ↓ldK1_ptr, ↓ldB1_cells, ↓ldKn_ptr, ↓ldBn_cells, ↓read3, read3, ↓read5, read5, List.length_cons, List.length_nil, newB, cellsT_cons, cellsT_nil, ↓convK_int, convK_int, ↓ptrK_ptr, ↓fa38_0, ↓fa38_1, ↓ld23, ↓ld3, ↓cn3_23, ↓w1, w1, ↓w2, w2]
      exact rfl
    refine CG.ret ?_
    exact ⟨_, _, _, ⟨rfl, rfl, rfl⟩, fun k => by simp (disch := decide) only [finK_ret, resultsK_tmp, resultsK_nil, rc29, rc38, rc47, resP_ptr, ldKn_ptr, ldBn_cells, read3, read5, read8, newB, cellsT_cons, cellsT_nil, Nat.zero_add, Nat.reduceAdd, retK_one, retK_two, retK_nil, optK_some, T.get_same, T.get_other] <;> rfl⟩
  obtain ⟨_, _, _, ⟨rfl, rfl, rfl⟩, e⟩ := H
  exact e k

def pA (r : Rg) (first : Int) : Int := if r.a + r.c < (if r.a > first then r.a else first) then r.a + r.c else if r.a > first then r.a else first
def pB (r : Rg) (first to : Int) : Int := if pA r first > (if r.a + r.c < to then r.a + r.c else to) then pA r first else if r.a + r.c < to then r.a + r.c else to

def pAhead (r : Rg) (first to : Int) : Rg := ⟨r.a, pA r first - r.a, r.w⟩
def pIn (r : Rg) (first to : Int) : Rg := ⟨pA r first, pB r first to - pA r first, r.w⟩
def pRest (r : Rg) (first to : Int) : Rg := ⟨pB r first to, r.a + r.c - pB r first to, r.w⟩

theorem pA_bd {r : Rg} {first : Int} (hc : 0 ≤ r.c) : r.a ≤ pA r first ∧ pA r first ≤ r.a + r.c := by
  unfold pA; split <;> split at * <;> omega
theorem pB_bd {r : Rg} {first to : Int} (hc : 0 ≤ r.c) : pA r first ≤ pB r first to ∧ pB r first to ≤ r.a + r.c := by
  have := pA_bd (first := first) hc
  unfold pB; split <;> split at * <;> omega

noncomputable def rgCV (r : Rg) : CV := .agg [.int .u64 r.a, .int .i64 r.c, .bool r.w]

theorem parts_ok (d : Nat) (r : Rg) (first to : Int) (h : T Blk) (nx : Nat) (h0 : 0 ≤ r.a) (h1 : 0 ≤ r.c) (h2 : r.a + r.c < 9223372036854775808) :
    FG (β := β) tab (d + 2) 55 [.agg [.int .u64 r.a, .int .i64 r.c, .bool r.w], .int .u64 first, .int .u64 to] h nx fun v h' nx' =>
      v = .tup [rgCV (pAhead r first to), rgCV (pIn r first to), rgCV (pRest r first to)] ∧ Ext h nx h' nx' := by
  refine FG.of (fn := Tryz.f55) (c := c55) (n := 51) (rs := [.cell 6 38, .cell 7 38, .cell 8 38]) (by kernel_rfl) (by kernel_rfl) (by kernel_rfl) c55_ok rfl rfl (by simp) fun call hc => ?_
  have eb := behind_eq (β := β) d r h0 h1 h2
  rw [← hc] at eb
  simp only [newB, cellsT_cons, cellsT_nil, Nat.zero_add, Nat.reduceAdd, List.length_cons, List.length_nil] at eb
  have hA : (if r.a + r.c < (if r.a > first then r.a else first) then r.a + r.c else if r.a > first then r.a else first) = pA r first := rfl
  have hB : (if pA r first > (if r.a + r.c < to then r.a + r.c else to) then pA r first else if r.a + r.c < to then r.a + r.c else to) = pB r first to := rfl
  obtain ⟨a1, a2⟩ := pA_bd (first := first) h1
  obtain ⟨b1, b2⟩ := pB_bd (first := first) (to := to) h1
  have w1 : IntKind.u64.wrap (pA r first - r.a) = pA r first - r.a := wrap_u64 (by omega) (by omega)
  have w2 : IntKind.i64.wrap (pA r first - r.a) = pA r first - r.a := wrap_i64 (by omega) (by omega)
  have w3 : IntKind.u64.wrap (pB r first to - pA r first) = pB r first to - pA r first := wrap_u64 (by omega) (by omega)
  have w4 : IntKind.i64.wrap (pB r first to - pA r first) = pB r first to - pA r first := wrap_i64 (by omega) (by omega)
  have w5 : IntKind.u64.wrap (r.a + r.c - pB r first to) = r.a + r.c - pB r first to := wrap_u64 (by omega) (by omega)
  have w6 : IntKind.i64.wrap (r.a + r.c - pB r first to) = r.a + r.c - pB r first to := wrap_i64 (by omega) (by omega)
  simp only [cellsT_cons, cellsT_nil, Nat.zero_add, Nat.reduceAdd]
  unfold c55
  refine CG.seq ?_
  apply CG.reg
  · intro k
    simp (maxSteps := 2000000) (disch := first | decide | omega | rfl) only [s55_0, ↓runS_op, ↓runS_nil, ↓optK_some, optK_some, ↓putT_some, ↓grd_true, grd_true, T.get_same, T.get_other, ↓evO_tmp, ↓grd_blt, grd_blt, Nat.add_zero, Nat.zero_add, Nat.reduceAdd, ↓ev_box1, ↓boxK_int, ↓boxK_bool, ↓boxK_rg, ↓boxK_a3, ↓boxK_a4, ↓boxK_slice, ↓boxK_nilslice, ↓boxK_fn, List.length_cons, List.length_nil, newB, cellsT_cons, cellsT_nil, ↓al38]
    exact rfl
  refine CG.seq ?_
  apply CG.draw dr55_1.1 dr55_1.2.1 dr55_1.2.2.1 dr55_1.2.2.2
  · intro k
    simp (maxSteps := 2000000) (disch := first | decide | omega | rfl) only [dl55_1, ol55_1, pp55_1, ↓runS_op, ↓runS_nil, ↓optK_some, optK_some, ↓putT_some, ↓grd_true, grd_true, T.get_same, T.get_other, ↓evO_tmp, ↓grd_blt, grd_blt, Nat.add_zero, Nat.zero_add, Nat.reduceAdd, ↓ev_move, ↓ev_assign, ↓ev_call, ↓evOs_cons, ↓evOs_nil, ↓notMap_fn, notMap_fn, ↓evO_func, List.getElem?_cons_zero, List.getElem?_cons_succ, ↓ev_builtin, ↓bi_max, bi_max, ↓bi_min, bi_min, ↓ldK1_ptr, ↓ldB1_cells, ↓ldKn_ptr, ↓ldBn_cells, ↓read3, read3, ↓read5, read5, List.length_cons, List.length_nil, newB, cellsT_cons, cellsT_nil, ↓ptrK_ptr, ↓fa38_0, ↓ld23, ↓ld38, ↓drawD_op, ↓drawD_if, ↓drawD_nil, ↓lookK_nil, ↓lookK_cons, ↓chkD_cons, ↓chkD_nil, ↓nthK_zero, ↓nthK_succ, ↓bothK_true, ↓bothK_false, ↓again_eq, chkD_cons, chkD_nil, nthK_zero, nthK_succ, bothK_true, bothK_false, again_eq, same_int, same_bool, same_ptr, same_slice, same_slicO, same_nilslice, same_rg, same_a3, same_fn0, Bool.and_self, Bool.and_false, Bool.false_and, ↓eb, eb, ↓hA, hA]
    exact rfl
  refine CG.seq ?_
  apply CG.reg
  · intro k
    simp (maxSteps := 2000000) (disch := first | decide | omega | rfl) only [s55_2, ↓runS_op, ↓runS_nil, ↓optK_some, optK_some, ↓putT_some, ↓grd_true, grd_true, T.get_same, T.get_other, ↓evO_tmp, ↓grd_blt, grd_blt, Nat.add_zero, Nat.zero_add, Nat.reduceAdd, ↓ev_move, ↓ev_assign, ↓ev_call, ↓evOs_cons, ↓evOs_nil, ↓notMap_fn, notMap_fn, ↓evO_func, List.getElem?_cons_zero, List.getElem?_cons_succ, ↓ev_builtin, ↓bi_max, bi_max, ↓bi_min, bi_min, ↓ldK1_ptr, ↓ldB1_cells, ↓ldKn_ptr, ↓ldBn_cells, ↓read3, read3, ↓read5, read5, List.length_cons, List.length_nil, newB, cellsT_cons, cellsT_nil, ↓ld38, ↓eb, eb, ↓hB, hB]
    exact rfl
  refine CG.seq ?_
  apply CG.draw dr55_3.1 dr55_3.2.1 dr55_3.2.2.1 dr55_3.2.2.2
  · intro k
    simp (maxSteps := 2000000) (disch := first | decide | omega | rfl) only [dl55_3, ol55_3, pp55_3, ↓runS_op, ↓runS_nil, ↓optK_some, optK_some, ↓putT_some, ↓grd_true, grd_true, T.get_same, T.get_other, ↓evO_tmp, ↓grd_blt, grd_blt, ↓putT_none, Nat.add_zero, Nat.zero_add, Nat.reduceAdd, ↓ldK1_ptr, ↓ldB1_cells, ↓ldKn_ptr, ↓ldBn_cells, ↓read3, read3, ↓read5, read5, List.length_cons, List.length_nil, newB, cellsT_cons, cellsT_nil, ↓ptrOf_ptr, ↓stK_eq, ↓stB_cells, ↓grd_beq, grd_beq, ↓grd_ble, grd_ble, Bool.true_and, Bool.and_true, cells_int, cells_bool, cells_agg, cells_slice, cells_nilslice, cells_fn, cells_nilfn, cells_ptr, ↓ld38, ↓st38, ↓drawD_op, ↓drawD_if, ↓drawD_nil, ↓lookK_nil, ↓lookK_cons, ↓chkD_cons, ↓chkD_nil, ↓nthK_zero, ↓nthK_succ, ↓bothK_true, ↓bothK_false, ↓again_eq, chkD_cons, chkD_nil, nthK_zero, nthK_succ, bothK_true, bothK_false, again_eq, same_int, same_bool, same_ptr, same_slice, same_slicO, same_nilslice, same_rg, same_a3, same_fn0, Bool.and_self, Bool.and_false, Bool.false_and]
    exact rfl
  refine CG.seq ?_
  apply CG.reg
  · intro k
    simp (maxSteps := 2000000) (disch := first | decide | omega | rfl) only [s55_4, ↓runS_op, ↓runS_nil, ↓optK_some, optK_some, ↓putT_some, ↓grd_true, grd_true, T.get_same, T.get_other, ↓evO_tmp, ↓grd_blt, grd_blt, ↓putT_none, Nat.add_zero, Nat.zero_add, Nat.reduceAdd, ↓ev_move, ↓ev_bin, ↓binCV_eq, binCV_eq, binR, ↓ldK1_ptr, ↓ldB1_cells, ↓ldKn_ptr, ↓ldBn_cells, ↓read3, read3, ↓read5, read5, List.length_cons, List.length_nil, newB, cellsT_cons, cellsT_nil, ↓ptrOf_ptr, ↓stK_eq, ↓stB_cells, ↓grd_beq, grd_beq, ↓grd_ble, grd_ble, Bool.true_and, Bool.and_true, cells_int, cells_bool, cells_agg, cells_slice, cells_nilslice, cells_fn, cells_nilfn, cells_ptr, ↓convK_int, convK_int, ↓ptrK_ptr, ↓fa38_0, ↓fa38_1, ↓ld23, ↓st3, ↓cn23_3, ↓w1, w1, ↓w2, w2]
    exact rfl
  refine CG.seq ?_
  apply CG.reg
  · intro k
    simp (maxSteps := 2000000) (disch := first | decide | omega | rfl) only [s55_5, s55_5_0, s55_5_1, List.cons_append, List.nil_append, ↓runS_op, ↓runS_nil, ↓optK_some, optK_some, ↓putT_some, ↓grd_true, grd_true, T.get_same, T.get_other, ↓evO_tmp, ↓grd_blt, grd_blt, ↓putT_none, Nat.add_zero, Nat.zero_add, Nat.reduceAdd, ↓ev_move, ↓ev_bin, ↓binCV_eq, binCV_eq, binR, ↓ptrOf_ptr, ↓stK_eq, ↓stB_cells, ↓grd_beq, grd_beq, ↓grd_ble, grd_ble, Bool.true_and, Bool.and_true, cells_int, cells_bool, cells_agg, cells_slice, cells_nilslice, cells_fn, cells_nilfn, cells_ptr, List.length_cons, List.length_nil, newB, cellsT_cons, cellsT_nil, ↓convK_int, convK_int, ↓ptrK_ptr, ↓fa38_0, ↓fa38_1, ↓st23, ↓st3, ↓cn23_3, ↓w3, w3, ↓w4, w4]
    exact rfl
  refine CG.seq ?_
  apply CG.reg
  · intro k
    simp (maxSteps := 2000000) (disch := first | decide | omega | rfl) only [s55_6, s55_6_0, s55_6_1, List.cons_append, List.nil_append, ↓runS_op, ↓runS_nil, ↓optK_some, optK_some, ↓putT_some, ↓grd_true, grd_true, T.get_same, T.get_other, ↓evO_tmp, ↓grd_blt, grd_blt, ↓putT_none, Nat.add_zero, Nat.zero_add, Nat.reduceAdd, ↓ev_move, ↓ev_bin, ↓binCV_eq, binCV_eq, binR, ↓ev_call, ↓evOs_cons, ↓evOs_nil, ↓notMap_fn, notMap_fn, ↓evO_func, List.getElem?_cons_zero, List.getElem?_cons_succ, ↓ldK1_ptr, ↓ldB1_cells, ↓ldKn_ptr, ↓ldBn_cells, ↓read3, read3, ↓read5, read5, List.length_cons, List.length_nil, newB, cellsT_cons, cellsT_nil, ↓ptrOf_ptr, ↓stK_eq, ↓stB_cells, ↓grd_beq, grd_beq, ↓grd_ble, grd_ble, Bool.true_and, Bool.and_true, cells_int, cells_bool, cells_agg, cells_slice, cells_nilslice, cells_fn, cells_nilfn, cells_ptr, ↓convK_int, convK_int, ↓ptrK_ptr, ↓fa38_0, ↓fa38_1, ↓ld38, ↓st23, ↓st3, ↓cn23_3, ↓eb, eb, ↓w5, w5, ↓w6, w6]
    exact rfl
  refine CG.seq ?_
  apply CG.draw dr55_7.1 dr55_7.2.1 dr55_7.2.2.1 dr55_7.2.2.2
  · intro k
    simp (maxSteps := 2000000) (disch := first | decide | omega | rfl) only [dl55_7, ol55_7, pp55_7, ↓runS_op, ↓runS_nil, ↓optK_some, optK_some, ↓putT_some, ↓grd_true, grd_true, T.get_same, T.get_other, ↓evO_tmp, ↓grd_blt, grd_blt, ↓putT_none, Nat.add_zero, Nat.zero_add, Nat.reduceAdd, ↓ldK1_ptr, ↓ldB1_cells, ↓ldKn_ptr, ↓ldBn_cells, ↓read3, read3, ↓read5, read5, List.length_cons, List.length_nil, newB, cellsT_cons, cellsT_nil, ↓ptrOf_ptr, ↓stK_eq, ↓stB_cells, ↓grd_beq, grd_beq, ↓grd_ble, grd_ble, Bool.true_and, Bool.and_true, cells_int, cells_bool, cells_agg, cells_slice, cells_nilslice, cells_fn, cells_nilfn, cells_ptr, ↓ld38, ↓st38, ↓drawD_op, ↓drawD_if, ↓drawD_nil, ↓lookK_nil, ↓lookK_cons, ↓chkD_cons, ↓chkD_nil, ↓nthK_zero, ↓nthK_succ, ↓bothK_true, ↓bothK_false, ↓again_eq, chkD_cons, chkD_nil, nthK_zero, nthK_succ, bothK_true, bothK_false, again_eq, same_int, same_bool, same_ptr, same_slice, same_slicO, same_nilslice, same_rg, same_a3, same_fn0, Bool.and_self, Bool.and_false, Bool.false_and]
    exact rfl
  refine CG.ret ?_
  refine ⟨_, _, _, ⟨rfl, ?_⟩, fun k => by simp (disch := first | decide | omega) only [rgCV, pAhead, pIn, pRest, finK_ret, resultsK_tmp, resultsK_nil, rc29, rc38, rc47, resP_ptr, ldKn_ptr, ldBn_cells, read3, read5, read8, newB, cellsT_cons, cellsT_nil, Nat.zero_add, Nat.reduceAdd, retK_one, retK_two, retK_nil, optK_some, T.get_same, T.get_other] <;> rfl⟩
  repeat (first | exact Ext.refl _ _ | refine Ext.new ?_ | refine Ext.set ?_ (by omega))
end Go.Proofs.YthdoelcgdgcncaaGreatDoor
/- Walks: call's checks. -/
namespace Go.Proofs.YthdoelcgdgcncaaGreatDoor
open Go Go.Can
variable {β : Type}

theorem rem4096 (tb : Tab) (ty : TypeId) (n : Nat) (c : CV → Res β) : binCV tb .rem ty (.int .u64 (n : Int)) (.int .u64 4096) c = c (.int .u64 ((n % 4096 : Nat) : Int)) := by
  show natK (Nat.mod n 4096) (fun n => c (.int .u64 (.ofNat n))) = _
  rw [natK_eq]
  rfl
theorem quo4096 (tb : Tab) (ty : TypeId) (n : Nat) (c : CV → Res β) : binCV tb .quo ty (.int .u64 (n : Int)) (.int .u64 4096) c = c (.int .u64 (IntKind.u64.wrap ((n / 4096 : Nat) : Int))) := by
  show wrapN .u64 (Nat.div n 4096) (fun n => c (.int .u64 n)) = _
  rw [wrapN_eq]
  rfl

theorem clo58_ok (d : Nat) {a n : Nat} {h : T Blk} {nx b1 b2 : Nat} {n1 n2 : Nat} {cs1 cs2 : T CV} {rw1 rw2 : Bool} (h1 : h.get b1 = some (.cells n1 cs1 rw1)) (q1 : cs1.get 0 = some (.int .u64 (a : Int))) (h2 : h.get b2 = some (.cells n2 cs2 rw2)) (q2 : cs2.get 0 = some (.int .u64 (n : Int))) :
    FG (β := β) tab (d + 1) 58 [.ptr b1 0, .ptr b2 0] h nx fun v' h' nx' => (∃ b, v' = .bool b) ∧ Ext h nx h' nx' := by
  refine FG.of (fn := Tryz.f58) (c := c58) (n := 25) (rs := [.tmp 2]) (by kernel_rfl) (by kernel_rfl) (by kernel_rfl) c58_ok rfl rfl (by simp) fun call hc => ?_
  simp only [cellsT_cons, cellsT_nil, Nat.zero_add, Nat.reduceAdd]
  unfold c58
  refine CG.seq ?_
  apply CG.reg
  · intro k
    simp (maxSteps := 2000000) (disch := first | decide | omega | rfl) only [s58_0, ↓runS_op, ↓runS_nil, ↓optK_some, optK_some, ↓putT_some, ↓grd_true, grd_true, T.get_same, T.get_other, ↓evO_tmp, ↓grd_blt, grd_blt, ↓evO_const, ofValue, ↓ev_assign]
    exact rfl
  refine CG.seq ?_
  cases c1 : decide (((a % 4096 : Nat) : Int) = 0) with
  | false =>
    rw [s58_1_eq]
    apply CG.regs
    · intro k
      simp (maxSteps := 2000000) (disch := first | decide | omega | rfl) only [s58_1_0, ↓runS_op, ↓runS_nil, ↓optK_some, optK_some, ↓putT_some, ↓grd_true, grd_true, T.get_same, T.get_other, ↓evO_tmp, ↓grd_blt, grd_blt, ↓runS_if, ↓wantS_tt, wantS_tt, ↓wantS_tf, wantS_tf, ↓wantS_ft, wantS_ft, ↓wantS_ff, wantS_ff, ↓evO_const, ofValue, Nat.add_zero, Nat.zero_add, Nat.reduceAdd, ↓ev_move, ↓ev_bin, ↓binCV_eq, binCV_eq, binR, ↓ldK1_ptr, ↓ldB1_cells, ↓ldKn_ptr, ↓ldBn_cells, ↓read3, read3, ↓read5, read5, List.length_cons, List.length_nil, newB, cellsT_cons, cellsT_nil, ↓ld23, ↓h1, h1, ↓h2, h2, ↓q1, q1, ↓q2, q2, ↓rem4096, rem4096, ↓c1, c1]
      exact rfl
    apply CG.regs
    · intro k
      simp (maxSteps := 2000000) (disch := first | decide | omega | rfl) only [s58_1_1, ↓runS_op, ↓runS_nil, ↓optK_some, optK_some, ↓putT_some, ↓grd_true, grd_true, T.get_same, T.get_other, ↓evO_tmp, ↓grd_blt, grd_blt, ↓runS_if, ↓wantS_tt, wantS_tt, ↓wantS_tf, wantS_tf, ↓wantS_ft, wantS_ft, ↓wantS_ff, wantS_ff, ↓evO_const, ofValue, Nat.add_zero, Nat.zero_add, Nat.reduceAdd, ↓ev_move, ↓ev_bin, ↓binCV_eq, binCV_eq, binR, ↓ev_pick, ↓pickK_true, pickK_true, ↓pickK_false, pickK_false, ↓ldK1_ptr, ↓ldB1_cells, ↓ldKn_ptr, ↓ldBn_cells, ↓read3, read3, ↓read5, read5, List.length_cons, List.length_nil, newB, cellsT_cons, cellsT_nil, ↓ld23, ↓h1, h1, ↓h2, h2, ↓q1, q1, ↓q2, q2, ↓rem4096, rem4096, ↓c1, c1]
      exact rfl
    apply CG.regs
    · intro k
      simp (maxSteps := 2000000) (disch := first | decide | omega | rfl) only [s58_1_2, ↓runS_op, ↓runS_nil, ↓optK_some, optK_some, ↓putT_some, ↓grd_true, grd_true, T.get_same, T.get_other, ↓evO_tmp, ↓grd_blt, grd_blt, ↓runS_if, ↓wantS_tt, wantS_tt, ↓wantS_tf, wantS_tf, ↓wantS_ft, wantS_ft, ↓wantS_ff, wantS_ff, ↓evO_const, ofValue, Nat.add_zero, Nat.zero_add, Nat.reduceAdd, ↓ev_move, ↓ev_bin, ↓binCV_eq, binCV_eq, binR, ↓ev_pick, ↓pickK_true, pickK_true, ↓pickK_false, pickK_false, ↓ldK1_ptr, ↓ldB1_cells, ↓ldKn_ptr, ↓ldBn_cells, ↓read3, read3, ↓read5, read5, List.length_cons, List.length_nil, newB, cellsT_cons, cellsT_nil, ↓ld23, ↓h1, h1, ↓h2, h2, ↓q1, q1, ↓q2, q2, ↓rem4096, rem4096, ↓c1, c1]
      exact rfl
    apply CG.reg
    · intro k
      simp (maxSteps := 2000000) (disch := first | decide | omega | rfl) only [s58_1_3, ↓runS_op, ↓runS_nil, ↓optK_some, optK_some, ↓putT_some, ↓grd_true, grd_true, T.get_same, T.get_other, ↓evO_tmp, ↓grd_blt, grd_blt, ↓runS_if, ↓wantS_tt, wantS_tt, ↓wantS_tf, wantS_tf, ↓wantS_ft, wantS_ft, ↓wantS_ff, wantS_ff, ↓evO_const, ofValue, Nat.add_zero, Nat.zero_add, Nat.reduceAdd, ↓ev_assign, ↓ev_bin, ↓binCV_eq, binCV_eq, binR, ↓ev_pick, ↓pickK_true, pickK_true, ↓pickK_false, pickK_false, ↓ldK1_ptr, ↓ldB1_cells, ↓ldKn_ptr, ↓ldBn_cells, ↓read3, read3, ↓read5, read5, List.length_cons, List.length_nil, newB, cellsT_cons, cellsT_nil, ↓ld23, ↓h1, h1, ↓h2, h2, ↓q1, q1, ↓q2, q2, ↓rem4096, rem4096, ↓c1, c1]
      exact rfl
    refine CG.ret ?_
    exact ⟨_, _, _, ⟨⟨_, rfl⟩, .refl _ _⟩, fun k => by simp (disch := decide) only [finK_ret, resultsK_tmp, resultsK_nil, rc29, rc38, rc47, resP_ptr, ldKn_ptr, ldBn_cells, read3, read5, read8, newB, cellsT_cons, cellsT_nil, Nat.zero_add, Nat.reduceAdd, retK_one, retK_two, retK_nil, optK_some, T.get_same, T.get_other] <;> rfl⟩
  | true =>
    cases c2 : decide (((n % 4096 : Nat) : Int) = 0) with
    | false =>
      rw [s58_1_eq]
      apply CG.regs
      · intro k
        simp (maxSteps := 2000000) (disch := first | decide | omega | rfl) only [s58_1_0, ↓runS_op, ↓runS_nil, ↓optK_some, optK_some, ↓putT_some, ↓grd_true, grd_true, T.get_same, T.get_other, ↓evO_tmp, ↓grd_blt, grd_blt, ↓runS_if, ↓wantS_tt, wantS_tt, ↓wantS_tf, wantS_tf, ↓wantS_ft, wantS_ft, ↓wantS_ff, wantS_ff, ↓evO_const, ofValue, Nat.add_zero, Nat.zero_add, Nat.reduceAdd, ↓ev_move, ↓ev_bin, ↓binCV_eq, binCV_eq, binR, ↓ldK1_ptr, ↓ldB1_cells, ↓ldKn_ptr, ↓ldBn_cells, ↓read3, read3, ↓read5, read5, List.length_cons, List.length_nil, newB, cellsT_cons, cellsT_nil, ↓ld23, ↓h1, h1, ↓h2, h2, ↓q1, q1, ↓q2, q2, ↓rem4096, rem4096, ↓c1, c1, ↓c2, c2]
        exact rfl
      apply CG.regs
      · intro k
        simp (maxSteps := 2000000) (disch := first | decide | omega | rfl) only [s58_1_1, ↓runS_op, ↓runS_nil, ↓optK_some, optK_some, ↓putT_some, ↓grd_true, grd_true, T.get_same, T.get_other, ↓evO_tmp, ↓grd_blt, grd_blt, ↓runS_if, ↓wantS_tt, wantS_tt, ↓wantS_tf, wantS_tf, ↓wantS_ft, wantS_ft, ↓wantS_ff, wantS_ff, ↓evO_const, ofValue, Nat.add_zero, Nat.zero_add, Nat.reduceAdd, ↓ev_move, ↓ev_bin, ↓binCV_eq, binCV_eq, binR, ↓ev_pick, ↓pickK_true, pickK_true, ↓pickK_false, pickK_false, ↓ldK1_ptr, ↓ldB1_cells, ↓ldKn_ptr, ↓ldBn_cells, ↓read3, read3, ↓read5, read5, List.length_cons, List.length_nil, newB, cellsT_cons, cellsT_nil, ↓ld23, ↓h1, h1, ↓h2, h2, ↓q1, q1, ↓q2, q2, ↓rem4096, rem4096, ↓c1, c1, ↓c2, c2]
        exact rfl
      apply CG.regs
      · intro k
        simp (maxSteps := 2000000) (disch := first | decide | omega | rfl) only [s58_1_2, ↓runS_op, ↓runS_nil, ↓optK_some, optK_some, ↓putT_some, ↓grd_true, grd_true, T.get_same, T.get_other, ↓evO_tmp, ↓grd_blt, grd_blt, ↓runS_if, ↓wantS_tt, wantS_tt, ↓wantS_tf, wantS_tf, ↓wantS_ft, wantS_ft, ↓wantS_ff, wantS_ff, ↓evO_const, ofValue, Nat.add_zero, Nat.zero_add, Nat.reduceAdd, ↓ev_move, ↓ev_bin, ↓binCV_eq, binCV_eq, binR, ↓ev_pick, ↓pickK_true, pickK_true, ↓pickK_false, pickK_false, ↓ldK1_ptr, ↓ldB1_cells, ↓ldKn_ptr, ↓ldBn_cells, ↓read3, read3, ↓read5, read5, List.length_cons, List.length_nil, newB, cellsT_cons, cellsT_nil, ↓ld23, ↓h1, h1, ↓h2, h2, ↓q1, q1, ↓q2, q2, ↓rem4096, rem4096, ↓c1, c1, ↓c2, c2]
        exact rfl
      apply CG.reg
      · intro k
        simp (maxSteps := 2000000) (disch := first | decide | omega | rfl) only [s58_1_3, ↓runS_op, ↓runS_nil, ↓optK_some, optK_some, ↓putT_some, ↓grd_true, grd_true, T.get_same, T.get_other, ↓evO_tmp, ↓grd_blt, grd_blt, ↓runS_if, ↓wantS_tt, wantS_tt, ↓wantS_tf, wantS_tf, ↓wantS_ft, wantS_ft, ↓wantS_ff, wantS_ff, ↓evO_const, ofValue, Nat.add_zero, Nat.zero_add, Nat.reduceAdd, ↓ev_assign, ↓ev_bin, ↓binCV_eq, binCV_eq, binR, ↓ev_pick, ↓pickK_true, pickK_true, ↓pickK_false, pickK_false, ↓ldK1_ptr, ↓ldB1_cells, ↓ldKn_ptr, ↓ldBn_cells, ↓read3, read3, ↓read5, read5, List.length_cons, List.length_nil, newB, cellsT_cons, cellsT_nil, ↓ld23, ↓h1, h1, ↓h2, h2, ↓q1, q1, ↓q2, q2, ↓rem4096, rem4096, ↓c1, c1, ↓c2, c2]
        exact rfl
      refine CG.ret ?_
      exact ⟨_, _, _, ⟨⟨_, rfl⟩, .refl _ _⟩, fun k => by simp (disch := decide) only [finK_ret, resultsK_tmp, resultsK_nil, rc29, rc38, rc47, resP_ptr, ldKn_ptr, ldBn_cells, read3, read5, read8, newB, cellsT_cons, cellsT_nil, Nat.zero_add, Nat.reduceAdd, retK_one, retK_two, retK_nil, optK_some, T.get_same, T.get_other] <;> rfl⟩
    | true =>
      cases c3 : decide (0 < (n : Int)) with
      | false =>
        rw [s58_1_eq]
        apply CG.regs
        · intro k
          simp (maxSteps := 2000000) (disch := first | decide | omega | rfl) only [s58_1_0, ↓runS_op, ↓runS_nil, ↓optK_some, optK_some, ↓putT_some, ↓grd_true, grd_true, T.get_same, T.get_other, ↓evO_tmp, ↓grd_blt, grd_blt, ↓runS_if, ↓wantS_tt, wantS_tt, ↓wantS_tf, wantS_tf, ↓wantS_ft, wantS_ft, ↓wantS_ff, wantS_ff, ↓evO_const, ofValue, Nat.add_zero, Nat.zero_add, Nat.reduceAdd, ↓ev_move, ↓ev_bin, ↓binCV_eq, binCV_eq, binR, ↓ldK1_ptr, ↓ldB1_cells, ↓ldKn_ptr, ↓ldBn_cells, ↓read3, read3, ↓read5, read5, List.length_cons, List.length_nil, newB, cellsT_cons, cellsT_nil, ↓ld23, ↓h1, h1, ↓h2, h2, ↓q1, q1, ↓q2, q2, ↓rem4096, rem4096, ↓c1, c1, ↓c2, c2, ↓c3, c3]
          exact rfl
        apply CG.regs
        · intro k
          simp (maxSteps := 2000000) (disch := first | decide | omega | rfl) only [s58_1_1, ↓runS_op, ↓runS_nil, ↓optK_some, optK_some, ↓putT_some, ↓grd_true, grd_true, T.get_same, T.get_other, ↓evO_tmp, ↓grd_blt, grd_blt, ↓runS_if, ↓wantS_tt, wantS_tt, ↓wantS_tf, wantS_tf, ↓wantS_ft, wantS_ft, ↓wantS_ff, wantS_ff, ↓evO_const, ofValue, Nat.add_zero, Nat.zero_add, Nat.reduceAdd, ↓ev_move, ↓ev_bin, ↓binCV_eq, binCV_eq, binR, ↓ev_pick, ↓pickK_true, pickK_true, ↓pickK_false, pickK_false, ↓ldK1_ptr, ↓ldB1_cells, ↓ldKn_ptr, ↓ldBn_cells, ↓read3, read3, ↓read5, read5, List.length_cons, List.length_nil, newB, cellsT_cons, cellsT_nil, ↓ld23, ↓h1, h1, ↓h2, h2, ↓q1, q1, ↓q2, q2, ↓rem4096, rem4096, ↓c1, c1, ↓c2, c2, ↓c3, c3]
          exact rfl
        apply CG.regs
        · intro k
          simp (maxSteps := 2000000) (disch := first | decide | omega | rfl) only [s58_1_2, ↓runS_op, ↓runS_nil, ↓optK_some, optK_some, ↓putT_some, ↓grd_true, grd_true, T.get_same, T.get_other, ↓evO_tmp, ↓grd_blt, grd_blt, ↓runS_if, ↓wantS_tt, wantS_tt, ↓wantS_tf, wantS_tf, ↓wantS_ft, wantS_ft, ↓wantS_ff, wantS_ff, ↓evO_const, ofValue, Nat.add_zero, Nat.zero_add, Nat.reduceAdd, ↓ev_move, ↓ev_bin, ↓binCV_eq, binCV_eq, binR, ↓ev_pick, ↓pickK_true, pickK_true, ↓pickK_false, pickK_false, ↓ldK1_ptr, ↓ldB1_cells, ↓ldKn_ptr, ↓ldBn_cells, ↓read3, read3, ↓read5, read5, List.length_cons, List.length_nil, newB, cellsT_cons, cellsT_nil, ↓ld23, ↓h1, h1, ↓h2, h2, ↓q1, q1, ↓q2, q2, ↓rem4096, rem4096, ↓c1, c1, ↓c2, c2, ↓c3, c3]
          exact rfl
        apply CG.reg
        · intro k
          simp (maxSteps := 2000000) (disch := first | decide | omega | rfl) only [s58_1_3, ↓runS_op, ↓runS_nil, ↓optK_some, optK_some, ↓putT_some, ↓grd_true, grd_true, T.get_same, T.get_other, ↓evO_tmp, ↓grd_blt, grd_blt, ↓runS_if, ↓wantS_tt, wantS_tt, ↓wantS_tf, wantS_tf, ↓wantS_ft, wantS_ft, ↓wantS_ff, wantS_ff, ↓evO_const, ofValue, Nat.add_zero, Nat.zero_add, Nat.reduceAdd, ↓ev_assign, ↓ev_bin, ↓binCV_eq, binCV_eq, binR, ↓ev_pick, ↓pickK_true, pickK_true, ↓pickK_false, pickK_false, ↓ldK1_ptr, ↓ldB1_cells, ↓ldKn_ptr, ↓ldBn_cells, ↓read3, read3, ↓read5, read5, List.length_cons, List.length_nil, newB, cellsT_cons, cellsT_nil, ↓ld23, ↓h1, h1, ↓h2, h2, ↓q1, q1, ↓q2, q2, ↓rem4096, rem4096, ↓c1, c1, ↓c2, c2, ↓c3, c3]
          exact rfl
        refine CG.ret ?_
        exact ⟨_, _, _, ⟨⟨_, rfl⟩, .refl _ _⟩, fun k => by simp (disch := decide) only [finK_ret, resultsK_tmp, resultsK_nil, rc29, rc38, rc47, resP_ptr, ldKn_ptr, ldBn_cells, read3, read5, read8, newB, cellsT_cons, cellsT_nil, Nat.zero_add, Nat.reduceAdd, retK_one, retK_two, retK_nil, optK_some, T.get_same, T.get_other] <;> rfl⟩
      | true =>
        cases c4 : decide ((n : Int) ≤ 140737488355328) with
        | false =>
          rw [s58_1_eq]
          apply CG.regs
          · intro k
            simp (maxSteps := 2000000) (disch := first | decide | omega | rfl) only [s58_1_0, ↓runS_op, ↓runS_nil, ↓optK_some, optK_some, ↓putT_some, ↓grd_true, grd_true, T.get_same, T.get_other, ↓evO_tmp, ↓grd_blt, grd_blt, ↓runS_if, ↓wantS_tt, wantS_tt, ↓wantS_tf, wantS_tf, ↓wantS_ft, wantS_ft, ↓wantS_ff, wantS_ff, ↓evO_const, ofValue, Nat.add_zero, Nat.zero_add, Nat.reduceAdd, ↓ev_move, ↓ev_bin, ↓binCV_eq, binCV_eq, binR, ↓ldK1_ptr, ↓ldB1_cells, ↓ldKn_ptr, ↓ldBn_cells, ↓read3, read3, ↓read5, read5, List.length_cons, List.length_nil, newB, cellsT_cons, cellsT_nil, ↓ld23, ↓h1, h1, ↓h2, h2, ↓q1, q1, ↓q2, q2, ↓rem4096, rem4096, ↓c1, c1, ↓c2, c2, ↓c3, c3, ↓c4, c4]
            exact rfl
          apply CG.regs
          · intro k
            simp (maxSteps := 2000000) (disch := first | decide | omega | rfl) only [s58_1_1, ↓runS_op, ↓runS_nil, ↓optK_some, optK_some, ↓putT_some, ↓grd_true, grd_true, T.get_same, T.get_other, ↓evO_tmp, ↓grd_blt, grd_blt, ↓runS_if, ↓wantS_tt, wantS_tt, ↓wantS_tf, wantS_tf, ↓wantS_ft, wantS_ft, ↓wantS_ff, wantS_ff, ↓evO_const, ofValue, Nat.add_zero, Nat.zero_add, Nat.reduceAdd, ↓ev_move, ↓ev_bin, ↓binCV_eq, binCV_eq, binR, ↓ev_pick, ↓pickK_true, pickK_true, ↓pickK_false, pickK_false, ↓ldK1_ptr, ↓ldB1_cells, ↓ldKn_ptr, ↓ldBn_cells, ↓read3, read3, ↓read5, read5, List.length_cons, List.length_nil, newB, cellsT_cons, cellsT_nil, ↓ld23, ↓h1, h1, ↓h2, h2, ↓q1, q1, ↓q2, q2, ↓rem4096, rem4096, ↓c1, c1, ↓c2, c2, ↓c3, c3, ↓c4, c4]
            exact rfl
          apply CG.regs
          · intro k
            simp (maxSteps := 2000000) (disch := first | decide | omega | rfl) only [s58_1_2, ↓runS_op, ↓runS_nil, ↓optK_some, optK_some, ↓putT_some, ↓grd_true, grd_true, T.get_same, T.get_other, ↓evO_tmp, ↓grd_blt, grd_blt, ↓runS_if, ↓wantS_tt, wantS_tt, ↓wantS_tf, wantS_tf, ↓wantS_ft, wantS_ft, ↓wantS_ff, wantS_ff, ↓evO_const, ofValue, Nat.add_zero, Nat.zero_add, Nat.reduceAdd, ↓ev_move, ↓ev_bin, ↓binCV_eq, binCV_eq, binR, ↓ev_pick, ↓pickK_true, pickK_true, ↓pickK_false, pickK_false, ↓ldK1_ptr, ↓ldB1_cells, ↓ldKn_ptr, ↓ldBn_cells, ↓read3, read3, ↓read5, read5, List.length_cons, List.length_nil, newB, cellsT_cons, cellsT_nil, ↓ld23, ↓h1, h1, ↓h2, h2, ↓q1, q1, ↓q2, q2, ↓rem4096, rem4096, ↓c1, c1, ↓c2, c2, ↓c3, c3, ↓c4, c4]
            exact rfl
          apply CG.reg
          · intro k
            simp (maxSteps := 2000000) (disch := first | decide | omega | rfl) only [s58_1_3, ↓runS_op, ↓runS_nil, ↓optK_some, optK_some, ↓putT_some, ↓grd_true, grd_true, T.get_same, T.get_other, ↓evO_tmp, ↓grd_blt, grd_blt, ↓runS_if, ↓wantS_tt, wantS_tt, ↓wantS_tf, wantS_tf, ↓wantS_ft, wantS_ft, ↓wantS_ff, wantS_ff, ↓evO_const, ofValue, Nat.add_zero, Nat.zero_add, Nat.reduceAdd, ↓ev_assign, ↓ev_bin, ↓binCV_eq, binCV_eq, binR, ↓ev_pick, ↓pickK_true, pickK_true, ↓pickK_false, pickK_false, ↓ldK1_ptr, ↓ldB1_cells, ↓ldKn_ptr, ↓ldBn_cells, ↓read3, read3, ↓read5, read5, List.length_cons, List.length_nil, newB, cellsT_cons, cellsT_nil, ↓ld23, ↓h1, h1, ↓h2, h2, ↓q1, q1, ↓q2, q2, ↓rem4096, rem4096, ↓c1, c1, ↓c2, c2, ↓c3, c3, ↓c4, c4]
            exact rfl
          refine CG.ret ?_
          exact ⟨_, _, _, ⟨⟨_, rfl⟩, .refl _ _⟩, fun k => by simp (disch := decide) only [finK_ret, resultsK_tmp, resultsK_nil, rc29, rc38, rc47, resP_ptr, ldKn_ptr, ldBn_cells, read3, read5, read8, newB, cellsT_cons, cellsT_nil, Nat.zero_add, Nat.reduceAdd, retK_one, retK_two, retK_nil, optK_some, T.get_same, T.get_other] <;> rfl⟩
        | true =>
          rw [s58_1_eq]
          apply CG.regs
          · intro k
            simp (maxSteps := 2000000) (disch := first | decide | omega | rfl) only [s58_1_0, ↓runS_op, ↓runS_nil, ↓optK_some, optK_some, ↓putT_some, ↓grd_true, grd_true, T.get_same, T.get_other, ↓evO_tmp, ↓grd_blt, grd_blt, ↓runS_if, ↓wantS_tt, wantS_tt, ↓wantS_tf, wantS_tf, ↓wantS_ft, wantS_ft, ↓wantS_ff, wantS_ff, ↓evO_const, ofValue, Nat.add_zero, Nat.zero_add, Nat.reduceAdd, ↓ev_move, ↓ev_bin, ↓binCV_eq, binCV_eq, binR, ↓ldK1_ptr, ↓ldB1_cells, ↓ldKn_ptr, ↓ldBn_cells, ↓read3, read3, ↓read5, read5, List.length_cons, List.length_nil, newB, cellsT_cons, cellsT_nil, ↓ld23, ↓h1, h1, ↓h2, h2, ↓q1, q1, ↓q2, q2, ↓rem4096, rem4096, ↓c1, c1, ↓c2, c2, ↓c3, c3, ↓c4, c4]
            exact rfl
          apply CG.regs
          · intro k
            simp (maxSteps := 2000000) (disch := first | decide | omega | rfl) only [s58_1_1, ↓runS_op, ↓runS_nil, ↓optK_some, optK_some, ↓putT_some, ↓grd_true, grd_true, T.get_same, T.get_other, ↓evO_tmp, ↓grd_blt, grd_blt, ↓runS_if, ↓wantS_tt, wantS_tt, ↓wantS_tf, wantS_tf, ↓wantS_ft, wantS_ft, ↓wantS_ff, wantS_ff, ↓evO_const, ofValue, Nat.add_zero, Nat.zero_add, Nat.reduceAdd, ↓ev_move, ↓ev_bin, ↓binCV_eq, binCV_eq, binR, ↓ev_pick, ↓pickK_true, pickK_true, ↓pickK_false, pickK_false, ↓ldK1_ptr, ↓ldB1_cells, ↓ldKn_ptr, ↓ldBn_cells, ↓read3, read3, ↓read5, read5, List.length_cons, List.length_nil, newB, cellsT_cons, cellsT_nil, ↓ld23, ↓h1, h1, ↓h2, h2, ↓q1, q1, ↓q2, q2, ↓rem4096, rem4096, ↓c1, c1, ↓c2, c2, ↓c3, c3, ↓c4, c4]
            exact rfl
          apply CG.regs
          · intro k
            simp (maxSteps := 2000000) (disch := first | decide | omega | rfl) only [s58_1_2, ↓runS_op, ↓runS_nil, ↓optK_some, optK_some, ↓putT_some, ↓grd_true, grd_true, T.get_same, T.get_other, ↓evO_tmp, ↓grd_blt, grd_blt, ↓runS_if, ↓wantS_tt, wantS_tt, ↓wantS_tf, wantS_tf, ↓wantS_ft, wantS_ft, ↓wantS_ff, wantS_ff, ↓evO_const, ofValue, Nat.add_zero, Nat.zero_add, Nat.reduceAdd, ↓ev_move, ↓ev_bin, ↓binCV_eq, binCV_eq, binR, ↓ev_pick, ↓pickK_true, pickK_true, ↓pickK_false, pickK_false, ↓ldK1_ptr, ↓ldB1_cells, ↓ldKn_ptr, ↓ldBn_cells, ↓read3, read3, ↓read5, read5, List.length_cons, List.length_nil, newB, cellsT_cons, cellsT_nil, ↓ld23, ↓h1, h1, ↓h2, h2, ↓q1, q1, ↓q2, q2, ↓rem4096, rem4096, ↓c1, c1, ↓c2, c2, ↓c3, c3, ↓c4, c4]
            exact rfl
          apply CG.reg
          · intro k
            simp (maxSteps := 2000000) (disch := first | decide | omega | rfl) only [s58_1_3, ↓runS_op, ↓runS_nil, ↓optK_some, optK_some, ↓putT_some, ↓grd_true, grd_true, T.get_same, T.get_other, ↓evO_tmp, ↓grd_blt, grd_blt, ↓runS_if, ↓wantS_tt, wantS_tt, ↓wantS_tf, wantS_tf, ↓wantS_ft, wantS_ft, ↓wantS_ff, wantS_ff, ↓evO_const, ofValue, Nat.add_zero, Nat.zero_add, Nat.reduceAdd, ↓ev_assign, ↓ev_bin, ↓binCV_eq, binCV_eq, binR, ↓ev_pick, ↓pickK_true, pickK_true, ↓pickK_false, pickK_false, ↓ldK1_ptr, ↓ldB1_cells, ↓ldKn_ptr, ↓ldBn_cells, ↓read3, read3, ↓read5, read5, List.length_cons, List.length_nil, newB, cellsT_cons, cellsT_nil, ↓ld23, ↓h1, h1, ↓h2, h2, ↓q1, q1, ↓q2, q2, ↓rem4096, rem4096, ↓c1, c1, ↓c2, c2, ↓c3, c3, ↓c4, c4]
            exact rfl
          refine CG.ret ?_
          exact ⟨_, _, _, ⟨⟨_, rfl⟩, .refl _ _⟩, fun k => by simp (disch := decide) only [finK_ret, resultsK_tmp, resultsK_nil, rc29, rc38, rc47, resP_ptr, ldKn_ptr, ldBn_cells, read3, read5, read8, newB, cellsT_cons, cellsT_nil, Nat.zero_add, Nat.reduceAdd, retK_one, retK_two, retK_nil, optK_some, T.get_same, T.get_other] <;> rfl⟩

theorem clo59_ok (d : Nat) {a0 a1 a2 : Int} {h : T Blk} {nx b1 : Nat} (h1 : h.get b1 = some (newB [.int .u64 a0, .int .u64 a1, .int .u64 a2])) :
    FG (β := β) tab (d + 1) 59 [.ptr b1 0] h nx fun v' h' nx' => (∃ b, v' = .bool b) ∧ Ext h nx h' nx' := by
  refine FG.of (fn := Tryz.f59) (c := c59) (n := 10) (rs := [.tmp 1]) (by kernel_rfl) (by kernel_rfl) (by kernel_rfl) c59_ok rfl rfl (by simp) fun call hc => ?_
  simp only [cellsT_cons, cellsT_nil, Nat.zero_add, Nat.reduceAdd]
  simp only [newB, cellsT_cons, cellsT_nil, Nat.zero_add, Nat.reduceAdd, List.length_cons, List.length_nil] at h1
  unfold c59
  refine CG.seq ?_
  apply CG.reg
  · intro k
    simp (maxSteps := 2000000) (disch := first | decide | omega | rfl) only [s59_0, ↓runS_op, ↓runS_nil, ↓optK_some, optK_some, ↓putT_some, ↓grd_true, grd_true, T.get_same, T.get_other, ↓evO_tmp, ↓grd_blt, grd_blt, ↓evO_const, ofValue, ↓ev_assign]
    exact rfl
  refine CG.seq ?_
  cases c1 : decide (a2 = 1) with
  | false =>
    apply CG.reg
    · intro k
      simp (maxSteps := 2000000) (disch := first | decide | omega | rfl) only [s59_1, s59_1_0, s59_1_1, List.cons_append, List.nil_append, ↓runS_op, ↓runS_nil, ↓optK_some, optK_some, ↓putT_some, ↓grd_true, grd_true, T.get_same, T.get_other, ↓evO_tmp, ↓grd_blt, grd_blt, ↓runS_if, ↓wantS_tt, wantS_tt, ↓wantS_tf, wantS_tf, ↓wantS_ft, wantS_ft, ↓wantS_ff, wantS_ff, ↓evO_const, ofValue, Nat.add_zero, Nat.zero_add, Nat.reduceAdd, ↓ev_move, ↓ev_assign, ↓ev_bin, ↓binCV_eq, binCV_eq, binR, ↓ev_pick, ↓pickK_true, pickK_true, ↓pickK_false, pickK_false, ↓ldK1_ptr, ↓ldB1_cells, ↓ldKn_ptr, ↓ldBn_cells, ↓read3, read3, ↓read5, read5, List.length_cons, List.length_nil, newB, cellsT_cons, cellsT_nil, ↓natOf_nat, natOf_nat, ↓natOf_0, natOf_0, ↓natOf_1, natOf_1, ↓natOf_2, natOf_2, ↓ixK_sl, ixK_sl, ↓ixK_ar, ixK_ar, Nat.zero_mul, Nat.one_mul, Nat.mul_one, Nat.reduceMul, ↓ld23, ↓ix24, ↓h1, h1, ↓c1, c1]
      exact rfl
    refine CG.ret ?_
    exact ⟨_, _, _, ⟨⟨_, rfl⟩, .refl _ _⟩, fun k => by simp (disch := decide) only [finK_ret, resultsK_tmp, resultsK_nil, rc29, rc38, rc47, resP_ptr, ldKn_ptr, ldBn_cells, read3, read5, read8, newB, cellsT_cons, cellsT_nil, Nat.zero_add, Nat.reduceAdd, retK_one, retK_two, retK_nil, optK_some, T.get_same, T.get_other] <;> rfl⟩
  | true =>
    apply CG.reg
    · intro k
      simp (maxSteps := 2000000) (disch := first | decide | omega | rfl) only [s59_1, s59_1_0, s59_1_1, List.cons_append, List.nil_append, ↓runS_op, ↓runS_nil, ↓optK_some, optK_some, ↓putT_some, ↓grd_true, grd_true, T.get_same, T.get_other, ↓evO_tmp, ↓grd_blt, grd_blt, ↓runS_if, ↓wantS_tt, wantS_tt, ↓wantS_tf, wantS_tf, ↓wantS_ft, wantS_ft, ↓wantS_ff, wantS_ff, ↓evO_const, ofValue, Nat.add_zero, Nat.zero_add, Nat.reduceAdd, ↓ev_move, ↓ev_assign, ↓ev_bin, ↓binCV_eq, binCV_eq, binR, ↓ev_pick, ↓pickK_true, pickK_true, ↓pickK_false, pickK_false, ↓ldK1_ptr, ↓ldB1_cells, ↓ldKn_ptr, ↓ldBn_cells, ↓read3, read3, ↓read5, read5, List.length_cons, List.length_nil, newB, cellsT_cons, cellsT_nil, ↓natOf_nat, natOf_nat, ↓natOf_0, natOf_0, ↓natOf_1, natOf_1, ↓natOf_2, natOf_2, ↓ixK_sl, ixK_sl, ↓ixK_ar, ixK_ar, Nat.zero_mul, Nat.one_mul, Nat.mul_one, Nat.reduceMul, ↓ld23, ↓ix24, ↓h1, h1, ↓c1, c1]
      exact rfl
    refine CG.ret ?_
    exact ⟨_, _, _, ⟨⟨_, rfl⟩, .refl _ _⟩, fun k => by simp (disch := decide) only [finK_ret, resultsK_tmp, resultsK_nil, rc29, rc38, rc47, resP_ptr, ldKn_ptr, ldBn_cells, read3, read5, read8, newB, cellsT_cons, cellsT_nil, Nat.zero_add, Nat.reduceAdd, retK_one, retK_two, retK_nil, optK_some, T.get_same, T.get_other] <;> rfl⟩

/-- the heap behind isLength -/
noncomputable def hLen (h : T Blk) (nx : Nat) (a0 a1 a2 : Int) : T Blk := ((((h.set nx (newB [.int .u64 a0, .int .u64 a1, .int .u64 a2])).set (nx + 1) (newB [.int .u64 0])).set (nx + 1 + 1) (newB [.int .u64 0])).set (nx + 1) (.cells 1 (((T.nil).set 0 (.int .u64 0)).set 0 (.int .u64 a0)) true)).set (nx + 1 + 1) (.cells 1 (((T.nil).set 0 (.int .u64 0)).set 0 (.int .u64 a1)) true)

theorem hLen_ext (h : T Blk) (nx : Nat) (a0 a1 a2 : Int) : Ext h nx (hLen h nx a0 a1 a2) (nx + 3) := by
  unfold hLen
  exact (((((Ext.refl h nx).new.new.new).set (by omega)).set (by omega)).up (by omega))
theorem hLen_lt (h : T Blk) (nx : Nat) (a0 a1 a2 : Int) {c : Nat} (hc : c < nx) : (hLen h nx a0 a1 a2).get c = h.get c := (hLen_ext h nx a0 a1 a2).get c hc
theorem hLen_1 (h : T Blk) (nx : Nat) (a0 a1 a2 : Int) : (hLen h nx a0 a1 a2).get (nx + 1) = some (.cells 1 (((T.nil).set 0 (.int .u64 0)).set 0 (.int .u64 a0)) true) := by
  unfold hLen
  rw [T.get_other _ _ (by omega), T.get_same]
theorem hLen_2 (h : T Blk) (nx : Nat) (a0 a1 a2 : Int) : (hLen h nx a0 a1 a2).get (nx + 2) = some (.cells 1 (((T.nil).set 0 (.int .u64 0)).set 0 (.int .u64 a1)) true) := by
  unfold hLen
  exact T.get_same _ _ _

/-- the checks that are made: exactly -/
theorem isLength_eq (d : Nat) (a0 a1 a2 : Int) (h : T Blk) (nx : Nat) (k : K β) :
    callN tab (d + 1) (.fn 28 [] []) [.agg [.int .u64 a0, .int .u64 a1, .int .u64 a2]] h nx k = k (.fn 58 [] [.ptr (nx + 1) 0, .ptr (nx + 2) 0]) (hLen h nx a0 a1 a2) (nx + 3) := by
  have H : FG (β := β) tab (d + 1) 28 [.agg [.int .u64 a0, .int .u64 a1, .int .u64 a2]] h nx fun v h' nx' => v = .fn 58 [] [.ptr (nx + 1) 0, .ptr (nx + 2) 0] ∧ h' = hLen h nx a0 a1 a2 ∧ nx' = nx + 3 := by
    refine FG.of (fn := Tryz.f28) (c := c28) (n := 10) (rs := [.tmp 2]) (by kernel_rfl) (by kernel_rfl) (by kernel_rfl) c28_ok rfl rfl (by simp) fun call hc => ?_
    simp only [cellsT_cons, cellsT_nil, Nat.zero_add, Nat.reduceAdd]
    unfold c28
    refine CG.seq ?_
    apply CG.reg
    · intro k
      simp (maxSteps := 2000000) (disch := first | decide | omega | rfl) only [s28_0, ↓runS_op, ↓runS_nil, ↓optK_some, optK_some, ↓putT_some, ↓grd_true, grd_true, T.get_same, T.get_other, ↓evO_tmp, ↓grd_blt, grd_blt, ↓evO_const, ofValue, Nat.add_zero, Nat.zero_add, Nat.reduceAdd, ↓ev_assign, ↓ev_box1, ↓boxK_int, ↓boxK_bool, ↓boxK_rg, ↓boxK_a3, ↓boxK_a4, ↓boxK_slice, ↓boxK_nilslice, ↓boxK_fn, List.length_cons, List.length_nil, newB, cellsT_cons, cellsT_nil]
      exact rfl
    refine CG.seq ?_
    apply CG.draw dr28_1.1 dr28_1.2.1 dr28_1.2.2.1 dr28_1.2.2.2
    · intro k
      simp (maxSteps := 2000000) (disch := first | decide | omega | rfl) only [dl28_1, ol28_1, pp28_1, ↓runS_op, ↓runS_nil, ↓optK_some, optK_some, ↓putT_some, ↓grd_true, grd_true, T.get_same, T.get_other, ↓evO_tmp, ↓grd_blt, grd_blt, ↓evO_const, ofValue, ↓putT_none, Nat.add_zero, Nat.zero_add, Nat.reduceAdd, ↓ldK1_ptr, ↓ldB1_cells, ↓ldKn_ptr, ↓ldBn_cells, ↓read3, read3, ↓read5, read5, List.length_cons, List.length_nil, newB, cellsT_cons, cellsT_nil, ↓ptrOf_ptr, ↓stK_eq, ↓stB_cells, ↓grd_beq, grd_beq, ↓grd_ble, grd_ble, Bool.true_and, Bool.and_true, cells_int, cells_bool, cells_agg, cells_slice, cells_nilslice, cells_fn, cells_nilfn, cells_ptr, ↓natOf_nat, natOf_nat, ↓natOf_0, natOf_0, ↓natOf_1, natOf_1, ↓natOf_2, natOf_2, ↓ixK_sl, ixK_sl, ↓ixK_ar, ixK_ar, Nat.zero_mul, Nat.one_mul, Nat.mul_one, Nat.reduceMul, ↓ld23, ↓st23, ↓al23, ↓ix24, ↓drawD_op, ↓drawD_if, ↓drawD_nil, ↓lookK_nil, ↓lookK_cons, ↓chkD_cons, ↓chkD_nil, ↓nthK_zero, ↓nthK_succ, ↓bothK_true, ↓bothK_false, ↓again_eq, chkD_cons, chkD_nil, nthK_zero, nthK_succ, bothK_true, bothK_false, again_eq, same_int, same_bool, same_ptr, same_slice, same_slicO, same_nilslice, same_rg, same_a3, same_fn0, Bool.and_self, Bool.and_false, Bool.false_and]
      exact rfl
    refine CG.seq ?_
    apply CG.reg
    · intro k
      simp (maxSteps := 2000000) (disch := first | decide | omega | rfl) only [s28_2, ↓runS_op, ↓runS_nil, ↓optK_some, optK_some, ↓putT_some, ↓grd_true, grd_true, T.get_same, T.get_other, ↓evO_tmp, ↓grd_blt, grd_blt, ↓ev_assign, ↓evO_func, ↓ev_mkfunc, ↓evOs_cons, ↓evOs_nil]
      exact rfl
    refine CG.ret ?_
    exact ⟨_, _, _, ⟨rfl, rfl, rfl⟩, fun k => by simp (disch := decide) only [finK_ret, resultsK_tmp, resultsK_nil, rc29, rc38, rc47, resP_ptr, ldKn_ptr, ldBn_cells, read3, read5, read8, newB, cellsT_cons, cellsT_nil, Nat.zero_add, Nat.reduceAdd, retK_one, retK_two, retK_nil, optK_some, T.get_same, T.get_other] <;> rfl⟩
  obtain ⟨_, _, _, ⟨rfl, rfl, rfl⟩, e⟩ := H
  exact e k

theorem isRights_eq (d : Nat) (a0 a1 a2 : Int) (h : T Blk) (nx : Nat) (k : K β) :
    callN tab (d + 1) (.fn 29 [] []) [.agg [.int .u64 a0, .int .u64 a1, .int .u64 a2]] h nx k = k (.fn 59 [] [.ptr nx 0]) (h.set nx (newB [.int .u64 a0, .int .u64 a1, .int .u64 a2])) (nx + 1) := by
  have H : FG (β := β) tab (d + 1) 29 [.agg [.int .u64 a0, .int .u64 a1, .int .u64 a2]] h nx fun v h' nx' => v = .fn 59 [] [.ptr nx 0] ∧ h' = h.set nx (newB [.int .u64 a0, .int .u64 a1, .int .u64 a2]) ∧ nx' = nx + 1 := by
    refine FG.of (fn := Tryz.f29) (c := c29) (n := 4) (rs := [.tmp 2]) (by kernel_rfl) (by kernel_rfl) (by kernel_rfl) c29_ok rfl rfl (by simp) fun call hc => ?_
    simp only [cellsT_cons, cellsT_nil, Nat.zero_add, Nat.reduceAdd]
    unfold c29
    refine CG.seq ?_
    apply CG.reg
    · intro k
      simp (maxSteps := 2000000) (disch := first | decide | omega | rfl) only [s29_0, ↓runS_op, ↓runS_nil, ↓optK_some, optK_some, ↓putT_some, ↓grd_true, grd_true, T.get_same, T.get_other, ↓evO_tmp, ↓grd_blt, grd_blt, ↓evO_const, ofValue, Nat.add_zero, Nat.zero_add, Nat.reduceAdd, ↓ev_assign, ↓ev_box1, ↓boxK_int, ↓boxK_bool, ↓boxK_rg, ↓boxK_a3, ↓boxK_a4, ↓boxK_slice, ↓boxK_nilslice, ↓boxK_fn, List.length_cons, List.length_nil, newB, cellsT_cons, cellsT_nil]
      exact rfl
    refine CG.seq ?_
    apply CG.reg
    · intro k
      simp (maxSteps := 2000000) (disch := first | decide | omega | rfl) only [s29_1, ↓runS_op, ↓runS_nil, ↓optK_some, optK_some, ↓putT_some, ↓grd_true, grd_true, T.get_same, T.get_other, ↓evO_tmp, ↓grd_blt, grd_blt, ↓ev_assign, ↓evO_func, ↓ev_mkfunc, ↓evOs_cons, ↓evOs_nil]
      exact rfl
    refine CG.ret ?_
    exact ⟨_, _, _, ⟨rfl, rfl, rfl⟩, fun k => by simp (disch := decide) only [finK_ret, resultsK_tmp, resultsK_nil, rc29, rc38, rc47, resP_ptr, ldKn_ptr, ldBn_cells, read3, read5, read8, newB, cellsT_cons, cellsT_nil, Nat.zero_add, Nat.reduceAdd, retK_one, retK_two, retK_nil, optK_some, T.get_same, T.get_other] <;> rfl⟩
  obtain ⟨_, _, _, ⟨rfl, rfl, rfl⟩, e⟩ := H
  exact e k
end Go.Proofs.YthdoelcgdgcncaaGreatDoor
/- Walks: call's stretch. -/
namespace Go.Proofs.YthdoelcgdgcncaaGreatDoor
open Go Go.Can
variable {β : Type}

/-- what a call asks for: whatever it be, numbers of their kinds -/
def RqOK (v : CV) : Prop := ∃ (kd fi co : Int) (wr : Bool) (pc : Int), v = .agg [.int .i8 kd, .int .u64 fi, .int .i64 co, .bool wr, .int .i64 pc] ∧
  0 ≤ fi ∧ fi < 18446744073709551616 ∧ -9223372036854775808 ≤ co ∧ co < 9223372036854775808

theorem wrap_u64_bd (n : Int) : 0 ≤ IntKind.u64.wrap n ∧ IntKind.u64.wrap n < 18446744073709551616 := by simp [IntKind.wrap, IntKind.bits, IntKind.signed]; omega
theorem wrap_i64_bd (n : Int) : -9223372036854775808 ≤ IntKind.i64.wrap n ∧ IntKind.i64.wrap n < 9223372036854775808 := by simp [IntKind.wrap, IntKind.bits, IntKind.signed]; omega

theorem ix116_sl (b o n : Nat) (cap : Cap) (i : Nat) (k : CV → Res β) (hi : i < n) : ixK (none, 1) (.slice b o n cap) i k = k (.ptr b (o + i * 1)) := by rw [ixK_sl, grd_blt hi]

theorem stretch_ok (d : Nat) {kd : Int} {a0 a1 a2 : Nat} {b n : Nat} {cs : T CV} {rw : Bool} {h : T Blk} {nx : Nat} (hb : h.get b = some (.cells n cs rw)) (hbn : b < nx) (hn : n ≤ 100)
    (hf : ∀ i, i < n → ∃ f, cs.get i = some f ∧ notMapV f = true ∧ ∀ H NX, Ext h nx H NX → ∃ q H' NX', Ext H NX H' NX' ∧ ∀ k : K β, callN tab d f [] H NX k = k (.bool q) H' NX') :
    FG (β := β) tab (d + 1) 27 [.int .i8 kd, .agg [.int .u64 (a0 : Int), .int .u64 (a1 : Int), .int .u64 (a2 : Int)], .slice b 0 n (.known n)] h nx fun v' h' nx' => (∃ v q, v' = .tup [v, .bool q] ∧ RqOK v) ∧ Ext h nx h' nx' := by
  refine FG.of (fn := Tryz.f27) (c := c27) (n := 34) (rs := [.cell 6 29, .tmp 7]) (by kernel_rfl) (by kernel_rfl) (by kernel_rfl) c27_ok rfl rfl (by simp) fun call hc => ?_
  rw [← hc] at hf
  simp only [cellsT_cons, cellsT_nil, Nat.zero_add, Nat.reduceAdd]
  unfold c27
  refine CG.seq ?_
  apply CG.reg
  · intro k
    simp (maxSteps := 2000000) (disch := first | decide | omega | rfl) only [s27_0, ↓runS_op, ↓runS_nil, ↓optK_some, optK_some, ↓putT_some, ↓grd_true, grd_true, T.get_same, T.get_other, ↓evO_tmp, ↓grd_blt, grd_blt, ↓evO_const, ofValue, Nat.add_zero, Nat.zero_add, Nat.reduceAdd, ↓ev_assign, ↓ev_box1, ↓boxK_int, ↓boxK_bool, ↓boxK_rg, ↓boxK_a3, ↓boxK_a4, ↓boxK_slice, ↓boxK_nilslice, ↓boxK_fn, List.length_cons, List.length_nil, newB, cellsT_cons, cellsT_nil, ↓al29]
    exact rfl
  refine CG.seq ?_
  refine CG.seq ?_
  apply CG.reg
  · intro k
    simp (maxSteps := 2000000) (disch := first | decide | omega | rfl) only [s27_1, ↓runS_op, ↓runS_nil, ↓optK_some, optK_some, ↓putT_some, ↓grd_true, grd_true, T.get_same, T.get_other, ↓evO_tmp, ↓grd_blt, grd_blt, ↓evO_const, ofValue, ↓ev_move, ↓ev_builtin, ↓evOs_cons, ↓evOs_nil, ↓ln22, ln22, ↓lz22, lz22, ↓ln116, ln116, ↓lz116, lz116]
    exact rfl
  refine CG.block ?_
  have hx0 : Ext h nx ((h.set nx (newB [.int .u64 (a0 : Int), .int .u64 (a1 : Int), .int .u64 (a2 : Int)])).set (nx + 1) (newB [.int .i8 0, .int .u64 0, .int .i64 0, .bool false, .int .i64 0])) (nx + 1 + 1) := (Ext.refl h nx).new.new
  simp only [newB, cellsT_cons, cellsT_nil, Nat.zero_add, Nat.reduceAdd, List.length_cons, List.length_nil] at hx0
  refine CG.loop (fun m t h' nx' => ∃ i : Nat, i ≤ n ∧ m = n - i ∧ t.get 0 = some (.int .i8 kd) ∧ t.get 4 = some (.ptr nx 0) ∧ t.get 6 = some (.ptr (nx + 1) 0) ∧ t.get 10 = some (.slice b 0 n (.known n)) ∧ t.get 11 = some (.int .i64 (n : Int)) ∧ t.get 12 = some (.int .i64 (i : Int)) ∧
      h'.get nx = some (.cells 3 (((T.nil.set 0 (.int .u64 (a0 : Int))).set 1 (.int .u64 (a1 : Int))).set 2 (.int .u64 (a2 : Int))) true) ∧
      h'.get (nx + 1) = some (.cells 5 (((((T.nil.set 0 (.int .i8 0)).set 1 (.int .u64 0)).set 2 (.int .i64 0)).set 3 (.bool false)).set 4 (.int .i64 0)) true) ∧ nx + 2 ≤ nx' ∧ Ext h nx h' nx') ?_ (m := n) (by omega) ?_
  rotate_left
  · refine ⟨0, by omega, by omega, by simp (maxSteps := 2000000) (disch := first | decide | omega | rfl) only [T.get_same, T.get_other] <;> rfl, by simp (maxSteps := 2000000) (disch := first | decide | omega | rfl) only [T.get_same, T.get_other] <;> rfl, by simp (maxSteps := 2000000) (disch := first | decide | omega | rfl) only [T.get_same, T.get_other] <;> rfl, by simp (maxSteps := 2000000) (disch := first | decide | omega | rfl) only [T.get_same, T.get_other] <;> rfl, by simp (maxSteps := 2000000) (disch := first | decide | omega | rfl) only [T.get_same, T.get_other] <;> rfl, by simp (maxSteps := 2000000) (disch := first | decide | omega | rfl) only [T.get_same, T.get_other] <;> rfl, ?_, ?_, by omega, hx0⟩
    · rw [T.get_other _ _ (by omega), T.get_same]
    · rw [T.get_same]
  rintro m t h' nx' ⟨i, hi, rfl, e0, e4, e6, e10, e11, e12, g1, g2, hnx, hx⟩
  refine CG.seq ?_
  by_cases hend : i = n
  · subst hend
    have c1 : decide ((i : Int) < (i : Int)) = false := by simp
    apply CG.reg
    · intro k
      simp (maxSteps := 2000000) (disch := first | decide | omega | rfl) only [s27_2, ↓runS_op, ↓runS_nil, ↓optK_some, optK_some, ↓putT_some, ↓grd_true, grd_true, T.get_same, T.get_other, ↓evO_tmp, ↓grd_blt, grd_blt, ↓ev_bin, ↓binCV_eq, binCV_eq, binR, ↓e11, e11, ↓e12, e12, ↓c1, c1]
      exact rfl
    refine CG.seq ?_
    refine CG.cond_false (fun k => by simp (maxSteps := 2000000) (disch := first | decide | omega | rfl) only [evO_tmp, optK_some, T.get_same, T.get_other] <;> rfl) ?_
    refine CG.exit ?_
    simp only [if_pos]
    refine CG.seq ?_
    cases c2 : decide ((a2 : Int) = 3) with
    | _ =>
      rw [s27_7_eq]
      apply CG.regs
      · intro k
        simp (maxSteps := 2000000) (disch := first | decide | omega | rfl) only [s27_7_0, ↓runS_op, ↓runS_nil, ↓optK_some, optK_some, ↓putT_some, ↓grd_true, grd_true, T.get_same, T.get_other, ↓evO_tmp, ↓grd_blt, grd_blt, ↓evO_const, ofValue, Nat.add_zero, Nat.zero_add, Nat.reduceAdd, ↓ev_move, ↓ev_bin, ↓binCV_eq, binCV_eq, binR, ↓ldK1_ptr, ↓ldB1_cells, ↓ldKn_ptr, ↓ldBn_cells, ↓read3, read3, ↓read5, read5, List.length_cons, List.length_nil, newB, cellsT_cons, cellsT_nil, ↓natOf_nat, natOf_nat, ↓natOf_0, natOf_0, ↓natOf_1, natOf_1, ↓natOf_2, natOf_2, ↓ixK_sl, ixK_sl, ↓ixK_ar, ixK_ar, Nat.zero_mul, Nat.one_mul, Nat.mul_one, Nat.reduceMul, ↓ld23, ↓ix24, ↓e0, e0, ↓e4, e4, ↓e6, e6, ↓g1, g1, ↓g2, g2, ↓quo4096, quo4096, ↓c2, c2]
        exact rfl
      apply CG.regs
      · intro k
        simp (maxSteps := 2000000) (disch := first | decide | omega | rfl) only [s27_7_1, ↓runS_op, ↓runS_nil, ↓optK_some, optK_some, ↓putT_some, ↓grd_true, grd_true, T.get_same, T.get_other, ↓evO_tmp, ↓grd_blt, grd_blt, ↓evO_const, ofValue, Nat.add_zero, Nat.zero_add, Nat.reduceAdd, ↓ev_bin, ↓binCV_eq, binCV_eq, binR, ↓ev_builtin, ↓evOs_cons, ↓evOs_nil, ↓bi_min, bi_min, ↓ldK1_ptr, ↓ldB1_cells, ↓ldKn_ptr, ↓ldBn_cells, ↓read3, read3, ↓read5, read5, List.length_cons, List.length_nil, newB, cellsT_cons, cellsT_nil, ↓natOf_nat, natOf_nat, ↓natOf_0, natOf_0, ↓natOf_1, natOf_1, ↓natOf_2, natOf_2, ↓ixK_sl, ixK_sl, ↓ixK_ar, ixK_ar, Nat.zero_mul, Nat.one_mul, Nat.mul_one, Nat.reduceMul, ↓convK_int, convK_int, ↓ld23, ↓ix24, ↓cn23_3, ↓e0, e0, ↓e4, e4, ↓e6, e6, ↓g1, g1, ↓g2, g2, ↓quo4096, quo4096, ↓c2, c2]
        exact rfl
      apply CG.reg
      · intro k
        simp (maxSteps := 2000000) (disch := first | decide | omega | rfl) only [s27_7_2, ↓runS_op, ↓runS_nil, ↓optK_some, optK_some, ↓putT_some, ↓grd_true, grd_true, T.get_same, T.get_other, ↓evO_tmp, ↓grd_blt, grd_blt, ↓evO_const, ofValue, ↓putT_none, Nat.add_zero, Nat.zero_add, Nat.reduceAdd, ↓ev_assign, ↓ptrOf_ptr, ↓stK_eq, ↓stB_cells, ↓grd_beq, grd_beq, ↓grd_ble, grd_ble, Bool.true_and, Bool.and_true, cells_int, cells_bool, cells_agg, cells_slice, cells_nilslice, cells_fn, cells_nilfn, cells_ptr, List.length_cons, List.length_nil, newB, cellsT_cons, cellsT_nil, ↓fillS_nil, ↓fillS_cons, ↓fill1_0, fill1_0, ↓fill1_1, fill1_1, ↓fill1_2, fill1_2, ↓fill1_3, fill1_3, ↓fill1_4, fill1_4, ↓fill1_5, fill1_5, ↓fill1_6, fill1_6, ↓fill1_7, fill1_7, ↓fill3_0, fill3_0, ↓fill3_3, fill3_3, ↓fill3_6, fill3_6, ↓st29, pl29_0, pl29_1, pl29_2, pl29_3, pl29_4, ↓bd29a, ↓bd29b, ↓bd29c, ↓bd29_0, ↓e0, e0, ↓e4, e4, ↓e6, e6, ↓g1, g1, ↓g2, g2, ↓quo4096, quo4096, ↓c2, c2]
        exact rfl
      refine CG.ret ?_
      refine ⟨_, _, _, ⟨⟨_, _, rfl, ⟨_, _, _, _, _, rfl, (wrap_u64_bd _).1, (wrap_u64_bd _).2, (wrap_i64_bd _).1, (wrap_i64_bd _).2⟩⟩, ?_⟩, fun k => by simp (disch := first | decide | omega) only [e6, finK_ret, resultsK_tmp, resultsK_nil, rc29, rc38, rc47, resP_ptr, ldKn_ptr, ldBn_cells, read3, read5, read8, newB, cellsT_cons, cellsT_nil, Nat.zero_add, Nat.reduceAdd, retK_one, retK_two, retK_nil, optK_some, T.get_same, T.get_other] <;> rfl⟩
      exact hx.set (by omega)
  · have hlt : i < n := by omega
    obtain ⟨f, hfi, hnm, hcall⟩ := hf i hlt
    have hb' : h'.get b = some (.cells n cs rw) := by rw [hx.get b hbn]; exact hb
    have c1 : decide ((i : Int) < (n : Int)) = true := by simp; omega
    apply CG.reg
    · intro k
      simp (maxSteps := 2000000) (disch := first | decide | omega | rfl) only [s27_2, ↓runS_op, ↓runS_nil, ↓optK_some, optK_some, ↓putT_some, ↓grd_true, grd_true, T.get_same, T.get_other, ↓evO_tmp, ↓grd_blt, grd_blt, ↓ev_bin, ↓binCV_eq, binCV_eq, binR, ↓e11, e11, ↓e12, e12, ↓c1, c1]
      exact rfl
    refine CG.seq ?_
    refine CG.cond_true (fun k => by simp (maxSteps := 2000000) (disch := first | decide | omega | rfl) only [evO_tmp, optK_some, T.get_same, T.get_other] <;> rfl) ?_
    refine CG.skip ?_
    refine CG.seq ?_
    refine CG.block ?_
    refine CG.seq ?_
    have hcell : cs.get (0 + i * 1) = some f := by rw [Nat.zero_add, Nat.mul_one]; exact hfi
    rw [Nat.zero_add] at hcell
    apply CG.reg
    · intro k
      simp (maxSteps := 2000000) (disch := first | decide | omega | rfl) only [s27_3, ↓runS_op, ↓runS_nil, ↓optK_some, optK_some, ↓putT_some, ↓grd_true, grd_true, T.get_same, T.get_other, ↓evO_tmp, ↓grd_blt, grd_blt, Nat.add_zero, Nat.zero_add, Nat.reduceAdd, ↓ev_assign, ↓ldK1_ptr, ↓ldB1_cells, ↓ldKn_ptr, ↓ldBn_cells, ↓read3, read3, ↓read5, read5, List.length_cons, List.length_nil, newB, cellsT_cons, cellsT_nil, ↓natOf_nat, natOf_nat, ↓natOf_0, natOf_0, ↓natOf_1, natOf_1, ↓natOf_2, natOf_2, ↓ixK_sl, ixK_sl, ↓ixK_ar, ixK_ar, Nat.zero_mul, Nat.one_mul, Nat.mul_one, Nat.reduceMul, ↓ld34, ↓ix116, ↓e10, e10, ↓e12, e12, hb', ↓hfi, hfi]
      exact rfl
    refine CG.seq ?_
    obtain ⟨q, H, NX, hx2, e⟩ := hcall h' nx' hx
    have hle := hx2.le
    have g1' : H.get nx = some (.cells 3 (((T.nil.set 0 (.int .u64 (a0 : Int))).set 1 (.int .u64 (a1 : Int))).set 2 (.int .u64 (a2 : Int))) true) := by rw [hx2.get nx (by omega)]; exact g1
    have g2' : H.get (nx + 1) = some (.cells 5 (((((T.nil.set 0 (.int .i8 0)).set 1 (.int .u64 0)).set 2 (.int .i64 0)).set 3 (.bool false)).set 4 (.int .i64 0)) true) := by rw [hx2.get (nx + 1) (by omega)]; exact g2
    cases q with
    | false =>
      apply CG.reg
      · intro k
        simp (maxSteps := 2000000) (disch := first | decide | omega | rfl) only [s27_4, ↓runS_op, ↓runS_nil, ↓optK_some, optK_some, ↓putT_some, ↓grd_true, grd_true, T.get_same, T.get_other, ↓evO_tmp, ↓grd_blt, grd_blt, ↓ev_move, ↓ev_not, Bool.not_true, Bool.not_false, ↓ev_call, ↓evOs_cons, ↓evOs_nil, ↓notMap_fn, notMap_fn, ↓evO_func, List.getElem?_cons_zero, List.getElem?_cons_succ, ↓hnm, hnm, ↓e, e]
        exact rfl
      refine CG.cond_true (fun k => by simp (maxSteps := 2000000) (disch := first | decide | omega | rfl) only [evO_tmp, optK_some, T.get_same, T.get_other] <;> rfl) ?_
      refine CG.seq ?_
      apply CG.reg
      · intro k
        simp (maxSteps := 2000000) (disch := first | decide | omega | rfl) only [s27_5, ↓runS_op, ↓runS_nil, ↓optK_some, optK_some, ↓putT_some, ↓grd_true, grd_true, T.get_same, T.get_other, ↓evO_tmp, ↓grd_blt, grd_blt, ↓evO_const, ofValue, ↓putT_none, Nat.add_zero, Nat.zero_add, Nat.reduceAdd, ↓ev_assign, ↓ptrOf_ptr, ↓stK_eq, ↓stB_cells, ↓grd_beq, grd_beq, ↓grd_ble, grd_ble, Bool.true_and, Bool.and_true, cells_int, cells_bool, cells_agg, cells_slice, cells_nilslice, cells_fn, cells_nilfn, cells_ptr, List.length_cons, List.length_nil, newB, cellsT_cons, cellsT_nil, ↓fillS_nil, ↓fillS_cons, ↓fill1_0, fill1_0, ↓fill1_1, fill1_1, ↓fill1_2, fill1_2, ↓fill1_3, fill1_3, ↓fill1_4, fill1_4, ↓fill1_5, fill1_5, ↓fill1_6, fill1_6, ↓fill1_7, fill1_7, ↓fill3_0, fill3_0, ↓fill3_3, fill3_3, ↓fill3_6, fill3_6, ↓st29, pl29_0, pl29_1, pl29_2, pl29_3, pl29_4, ↓bd29a, ↓bd29b, ↓bd29c, ↓bd29_0, ↓e6, e6, g2']
        exact rfl
      refine CG.ret ?_
      refine ⟨_, _, _, ⟨⟨_, _, rfl, ⟨_, _, _, _, _, rfl, ?_⟩⟩, ?_⟩, fun k => by simp (disch := first | decide | omega) only [e6, finK_ret, resultsK_tmp, resultsK_nil, rc29, rc38, rc47, resP_ptr, ldKn_ptr, ldBn_cells, read3, read5, read8, newB, cellsT_cons, cellsT_nil, Nat.zero_add, Nat.reduceAdd, retK_one, retK_two, retK_nil, optK_some, T.get_same, T.get_other] <;> rfl⟩
      · omega
      · exact (hx.trans hx2).set (by omega)
    | true =>
      apply CG.reg
      · intro k
        simp (maxSteps := 2000000) (disch := first | decide | omega | rfl) only [s27_4, ↓runS_op, ↓runS_nil, ↓optK_some, optK_some, ↓putT_some, ↓grd_true, grd_true, T.get_same, T.get_other, ↓evO_tmp, ↓grd_blt, grd_blt, ↓ev_move, ↓ev_not, Bool.not_true, Bool.not_false, ↓ev_call, ↓evOs_cons, ↓evOs_nil, ↓notMap_fn, notMap_fn, ↓evO_func, List.getElem?_cons_zero, List.getElem?_cons_succ, ↓hnm, hnm, ↓e, e]
        exact rfl
      refine CG.cond_false (fun k => by simp (maxSteps := 2000000) (disch := first | decide | omega | rfl) only [evO_tmp, optK_some, T.get_same, T.get_other] <;> rfl) ?_
      refine CG.skip ?_
      have w1 : IntKind.i64.wrap ((i : Int) + 1) = ((i + 1 : Nat) : Int) := by rw [wrap_i64 (by omega) (by omega)]; omega
      apply CG.reg
      · intro k
        simp (maxSteps := 2000000) (disch := first | decide | omega | rfl) only [s27_6, ↓runS_op, ↓runS_nil, ↓optK_some, optK_some, ↓putT_some, ↓grd_true, grd_true, T.get_same, T.get_other, ↓evO_tmp, ↓grd_blt, grd_blt, ↓evO_const, ofValue, ↓ev_move, ↓ev_bin, ↓binCV_eq, binCV_eq, binR, ↓e12, e12, ↓w1, w1]
        exact rfl
      exact ⟨n - (i + 1), by omega, i + 1, by omega, rfl, by simp (maxSteps := 2000000) (disch := first | decide | omega | rfl) only [e0, T.get_same, T.get_other] <;> rfl, by simp (maxSteps := 2000000) (disch := first | decide | omega | rfl) only [e4, T.get_same, T.get_other] <;> rfl, by simp (maxSteps := 2000000) (disch := first | decide | omega | rfl) only [e6, T.get_same, T.get_other] <;> rfl, by simp (maxSteps := 2000000) (disch := first | decide | omega | rfl) only [e10, T.get_same, T.get_other] <;> rfl, by simp (maxSteps := 2000000) (disch := first | decide | omega | rfl) only [e11, T.get_same, T.get_other] <;> rfl, by simp (maxSteps := 2000000) (disch := first | decide | omega | rfl) only [T.get_same, T.get_other] <;> rfl, g1', g2', by omega, hx.trans hx2⟩
end Go.Proofs.YthdoelcgdgcncaaGreatDoor
