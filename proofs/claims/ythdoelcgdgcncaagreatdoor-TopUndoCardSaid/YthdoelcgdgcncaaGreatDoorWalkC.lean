/- Walks: call's readers. -/
import Derived.Test.YthdoelcgdgcncaaGreatDoorWalkB
set_option maxRecDepth 100000
set_option maxHeartbeats 4000000
set_option linter.unusedVariables false
set_option linter.unusedSimpArgs false
namespace Go.Proofs.YthdoelcgdgcncaaGreatDoor
open Go Go.Can
variable {β : Type}

/-- what a reader answers -/
def ReadQ (h : T Blk) (nx : Nat) (v : CV) (h' : T Blk) (nx' : Nat) : Prop := (∃ u q, v = .tup [u, .bool q] ∧ RqOK u) ∧ Ext h nx h' nx'

theorem bare_eq (d : Nat) (kd : Int) (h : T Blk) (nx : Nat) (k : K β) : callN tab (d + 1) (.fn 32 [] []) [.int .i8 kd] h nx k = k (.fn 60 [] [.ptr nx 0]) (h.set nx (newB [.int .i8 kd])) (nx + 1) := by
  have H : FG (β := β) tab (d + 1) 32 [.int .i8 kd] h nx fun v h' nx' => v = .fn 60 [] [.ptr nx 0] ∧ h' = h.set nx (newB [.int .i8 kd]) ∧ nx' = nx + 1 := by
    refine FG.of (fn := Tryz.f32) (c := c32) (n := 4) (rs := [.tmp 2]) (by kernel_rfl) (by kernel_rfl) (by kernel_rfl) c32_ok rfl rfl (by simp) fun call hc => ?_
    simp only [cellsT_cons, cellsT_nil, Nat.zero_add, Nat.reduceAdd]
    unfold c32
    refine CG.seq ?_
    apply CG.reg
    · intro k
      simp (maxSteps := 2000000) (disch := first | decide | omega | rfl) only [s32_0, ↓runS_op, ↓runS_nil, ↓optK_some, optK_some, ↓putT_some, ↓grd_true, grd_true, T.get_same, T.get_other, ↓evO_tmp, ↓grd_blt, grd_blt, ↓evO_const, ofValue, Nat.add_zero, Nat.zero_add, Nat.reduceAdd, ↓ev_assign, ↓ev_box1, ↓boxK_int, ↓boxK_bool, ↓boxK_rg, ↓boxK_a3, ↓boxK_a4, ↓boxK_slice, ↓boxK_nilslice, ↓boxK_fn, List.length_cons, List.length_nil, newB, cellsT_cons, cellsT_nil]
      exact rfl
    refine CG.seq ?_
    apply CG.reg
    · intro k
      simp (maxSteps := 2000000) (disch := first | decide | omega | rfl) only [s32_1, ↓runS_op, ↓runS_nil, ↓optK_some, optK_some, ↓putT_some, ↓grd_true, grd_true, T.get_same, T.get_other, ↓evO_tmp, ↓grd_blt, grd_blt, ↓ev_assign, ↓evO_func, ↓ev_mkfunc, ↓evOs_cons, ↓evOs_nil]
      exact rfl
    refine CG.ret ?_
    exact ⟨_, _, _, ⟨rfl, rfl, rfl⟩, fun k => by simp (disch := decide) only [finK_ret, resultsK_tmp, resultsK_nil, rc29, rc38, rc47, resP_ptr, ldKn_ptr, ldBn_cells, read3, read5, read8, newB, cellsT_cons, cellsT_nil, Nat.zero_add, Nat.reduceAdd, retK_one, retK_two, retK_nil, optK_some, T.get_same, T.get_other] <;> rfl⟩
  obtain ⟨_, _, _, ⟨rfl, rfl, rfl⟩, e⟩ := H
  exact e k

theorem clo60_ok (d : Nat) {a0 a1 a2 kd : Int} {h : T Blk} {nx b : Nat} (hb : h.get b = some (newB [.int .i8 kd])) (hbn : b < nx) :
    FG (β := β) tab (d + 1) 60 [.agg [.int .u64 a0, .int .u64 a1, .int .u64 a2], .ptr b 0] h nx (ReadQ h nx) := by
  refine FG.of (fn := Tryz.f60) (c := c60) (n := 7) (rs := [.cell 3 29, .tmp 4]) (by kernel_rfl) (by kernel_rfl) (by kernel_rfl) c60_ok rfl rfl (by simp) fun call hc => ?_
  simp only [cellsT_cons, cellsT_nil, Nat.zero_add, Nat.reduceAdd]
  simp only [newB, cellsT_cons, cellsT_nil, Nat.zero_add, Nat.reduceAdd, List.length_cons, List.length_nil] at hb
  unfold c60
  refine CG.seq ?_
  apply CG.reg
  · intro k
    simp (maxSteps := 2000000) (disch := first | decide | omega | rfl) only [s60_0, ↓runS_op, ↓runS_nil, ↓optK_some, optK_some, ↓putT_some, ↓grd_true, grd_true, T.get_same, T.get_other, ↓evO_tmp, ↓grd_blt, grd_blt, ↓evO_const, ofValue, Nat.add_zero, Nat.zero_add, Nat.reduceAdd, ↓ev_assign, ↓ev_box1, ↓boxK_int, ↓boxK_bool, ↓boxK_rg, ↓boxK_a3, ↓boxK_a4, ↓boxK_slice, ↓boxK_nilslice, ↓boxK_fn, List.length_cons, List.length_nil, newB, cellsT_cons, cellsT_nil, ↓al29]
    exact rfl
  refine CG.seq ?_
  apply CG.reg
  · intro k
    simp (maxSteps := 2000000) (disch := first | decide | omega | rfl) only [s60_1, ↓runS_op, ↓runS_nil, ↓optK_some, optK_some, ↓putT_some, ↓grd_true, grd_true, T.get_same, T.get_other, ↓evO_tmp, ↓grd_blt, grd_blt, ↓evO_const, ofValue, ↓putT_none, Nat.add_zero, Nat.zero_add, Nat.reduceAdd, ↓ev_assign, ↓ldK1_ptr, ↓ldB1_cells, ↓ldKn_ptr, ↓ldBn_cells, ↓read3, read3, ↓read5, read5, List.length_cons, List.length_nil, newB, cellsT_cons, cellsT_nil, ↓ptrOf_ptr, ↓stK_eq, ↓stB_cells, ↓grd_beq, grd_beq, ↓grd_ble, grd_ble, Bool.true_and, Bool.and_true, cells_int, cells_bool, cells_agg, cells_slice, cells_nilslice, cells_fn, cells_nilfn, cells_ptr, ↓fillS_nil, ↓fillS_cons, ↓fill1_0, fill1_0, ↓fill1_1, fill1_1, ↓fill1_2, fill1_2, ↓fill1_3, fill1_3, ↓fill1_4, fill1_4, ↓fill1_5, fill1_5, ↓fill1_6, fill1_6, ↓fill1_7, fill1_7, ↓fill3_0, fill3_0, ↓fill3_3, fill3_3, ↓fill3_6, fill3_6, ↓ld27, ↓st29, pl29_0, pl29_1, pl29_2, pl29_3, pl29_4, ↓bd29a, ↓bd29b, ↓bd29c, ↓bd29_0, ↓hb, hb]
    exact rfl
  refine CG.ret ?_
  refine ⟨_, _, _, ⟨⟨_, _, rfl, ⟨_, _, _, _, _, rfl, ?_⟩⟩, ?_⟩, fun k => by simp (disch := first | decide | omega) only [finK_ret, resultsK_tmp, resultsK_nil, rc29, rc38, rc47, resP_ptr, ldKn_ptr, ldBn_cells, read3, read5, read8, newB, cellsT_cons, cellsT_nil, Nat.zero_add, Nat.reduceAdd, retK_one, retK_two, retK_nil, optK_some, T.get_same, T.get_other] <;> rfl⟩
  · omega
  · exact (Ext.refl h nx).new.new.set (by omega)

theorem thread_ok (d : Nat) {a0 a1 a2 : Nat} (h : T Blk) (nx : Nat) :
    FG (β := β) tab (d + 1) 33 [.agg [.int .u64 (a0 : Int), .int .u64 (a1 : Int), .int .u64 (a2 : Int)]] h nx (ReadQ h nx) := by
  refine FG.of (fn := Tryz.f33) (c := c33) (n := 12) (rs := [.cell 2 29, .tmp 3]) (by kernel_rfl) (by kernel_rfl) (by kernel_rfl) c33_ok rfl rfl (by simp) fun call hc => ?_
  simp only [cellsT_cons, cellsT_nil, Nat.zero_add, Nat.reduceAdd]
  unfold c33
  refine CG.seq ?_
  apply CG.reg
  · intro k
    simp (maxSteps := 2000000) (disch := first | decide | omega | rfl) only [s33_0, ↓runS_op, ↓runS_nil, ↓optK_some, optK_some, ↓putT_some, ↓grd_true, grd_true, T.get_same, T.get_other, ↓evO_tmp, ↓grd_blt, grd_blt, ↓evO_const, ofValue, Nat.add_zero, Nat.zero_add, Nat.reduceAdd, ↓ev_assign, ↓ev_box1, ↓boxK_int, ↓boxK_bool, ↓boxK_rg, ↓boxK_a3, ↓boxK_a4, ↓boxK_slice, ↓boxK_nilslice, ↓boxK_fn, List.length_cons, List.length_nil, newB, cellsT_cons, cellsT_nil, ↓al29]
    exact rfl
  refine CG.seq ?_
  refine CG.seq ?_
  cases c1 : decide ((64 : Int) ≤ (a0 : Int)) with
  | true =>
    apply CG.reg
    · intro k
      simp (maxSteps := 2000000) (disch := first | decide | omega | rfl) only [s33_1, ↓runS_op, ↓runS_nil, ↓optK_some, optK_some, ↓putT_some, ↓grd_true, grd_true, T.get_same, T.get_other, ↓evO_tmp, ↓grd_blt, grd_blt, ↓evO_const, ofValue, Nat.add_zero, Nat.zero_add, Nat.reduceAdd, ↓ev_bin, ↓binCV_eq, binCV_eq, binR, ↓ldK1_ptr, ↓ldB1_cells, ↓ldKn_ptr, ↓ldBn_cells, ↓read3, read3, ↓read5, read5, List.length_cons, List.length_nil, newB, cellsT_cons, cellsT_nil, ↓natOf_nat, natOf_nat, ↓natOf_0, natOf_0, ↓natOf_1, natOf_1, ↓natOf_2, natOf_2, ↓ixK_sl, ixK_sl, ↓ixK_ar, ixK_ar, Nat.zero_mul, Nat.one_mul, Nat.mul_one, Nat.reduceMul, ↓ld23, ↓ix24, ↓c1, c1]
      exact rfl
    refine CG.cond_true (fun k => by simp (maxSteps := 2000000) (disch := first | decide | omega | rfl) only [evO_tmp, optK_some, T.get_same, T.get_other] <;> rfl) ?_
    refine CG.seq ?_
    apply CG.reg
    · intro k
      simp (maxSteps := 2000000) (disch := first | decide | omega | rfl) only [s33_2, ↓runS_op, ↓runS_nil, ↓optK_some, optK_some, ↓putT_some, ↓grd_true, grd_true, T.get_same, T.get_other, ↓evO_tmp, ↓grd_blt, grd_blt, ↓evO_const, ofValue, ↓putT_none, Nat.add_zero, Nat.zero_add, Nat.reduceAdd, ↓ev_assign, ↓ptrOf_ptr, ↓stK_eq, ↓stB_cells, ↓grd_beq, grd_beq, ↓grd_ble, grd_ble, Bool.true_and, Bool.and_true, cells_int, cells_bool, cells_agg, cells_slice, cells_nilslice, cells_fn, cells_nilfn, cells_ptr, List.length_cons, List.length_nil, newB, cellsT_cons, cellsT_nil, ↓fillS_nil, ↓fillS_cons, ↓fill1_0, fill1_0, ↓fill1_1, fill1_1, ↓fill1_2, fill1_2, ↓fill1_3, fill1_3, ↓fill1_4, fill1_4, ↓fill1_5, fill1_5, ↓fill1_6, fill1_6, ↓fill1_7, fill1_7, ↓fill3_0, fill3_0, ↓fill3_3, fill3_3, ↓fill3_6, fill3_6, ↓st29, pl29_0, pl29_1, pl29_2, pl29_3, pl29_4, ↓bd29a, ↓bd29b, ↓bd29c, ↓bd29_0]
      exact rfl
    refine CG.ret ?_
    refine ⟨_, _, _, ⟨⟨_, _, rfl, ⟨_, _, _, _, _, rfl, ?_⟩⟩, ?_⟩, fun k => by simp (disch := first | decide | omega) only [finK_ret, resultsK_tmp, resultsK_nil, rc29, rc38, rc47, resP_ptr, ldKn_ptr, ldBn_cells, read3, read5, read8, newB, cellsT_cons, cellsT_nil, Nat.zero_add, Nat.reduceAdd, retK_one, retK_two, retK_nil, optK_some, T.get_same, T.get_other] <;> rfl⟩
    · omega
    · exact (Ext.refl h nx).new.new.set (by omega)
  | false =>
    apply CG.reg
    · intro k
      simp (maxSteps := 2000000) (disch := first | decide | omega | rfl) only [s33_1, ↓runS_op, ↓runS_nil, ↓optK_some, optK_some, ↓putT_some, ↓grd_true, grd_true, T.get_same, T.get_other, ↓evO_tmp, ↓grd_blt, grd_blt, ↓evO_const, ofValue, Nat.add_zero, Nat.zero_add, Nat.reduceAdd, ↓ev_bin, ↓binCV_eq, binCV_eq, binR, ↓ldK1_ptr, ↓ldB1_cells, ↓ldKn_ptr, ↓ldBn_cells, ↓read3, read3, ↓read5, read5, List.length_cons, List.length_nil, newB, cellsT_cons, cellsT_nil, ↓natOf_nat, natOf_nat, ↓natOf_0, natOf_0, ↓natOf_1, natOf_1, ↓natOf_2, natOf_2, ↓ixK_sl, ixK_sl, ↓ixK_ar, ixK_ar, Nat.zero_mul, Nat.one_mul, Nat.mul_one, Nat.reduceMul, ↓ld23, ↓ix24, ↓c1, c1]
      exact rfl
    refine CG.cond_false (fun k => by simp (maxSteps := 2000000) (disch := first | decide | omega | rfl) only [evO_tmp, optK_some, T.get_same, T.get_other] <;> rfl) ?_
    refine CG.skip ?_
    refine CG.seq ?_
    apply CG.reg
    · intro k
      simp (maxSteps := 2000000) (disch := first | decide | omega | rfl) only [s33_3, ↓runS_op, ↓runS_nil, ↓optK_some, optK_some, ↓putT_some, ↓grd_true, grd_true, T.get_same, T.get_other, ↓evO_tmp, ↓grd_blt, grd_blt, ↓evO_const, ofValue, ↓putT_none, Nat.add_zero, Nat.zero_add, Nat.reduceAdd, ↓ev_assign, ↓ldK1_ptr, ↓ldB1_cells, ↓ldKn_ptr, ↓ldBn_cells, ↓read3, read3, ↓read5, read5, List.length_cons, List.length_nil, newB, cellsT_cons, cellsT_nil, ↓ptrOf_ptr, ↓stK_eq, ↓stB_cells, ↓grd_beq, grd_beq, ↓grd_ble, grd_ble, Bool.true_and, Bool.and_true, cells_int, cells_bool, cells_agg, cells_slice, cells_nilslice, cells_fn, cells_nilfn, cells_ptr, ↓natOf_nat, natOf_nat, ↓natOf_0, natOf_0, ↓natOf_1, natOf_1, ↓natOf_2, natOf_2, ↓ixK_sl, ixK_sl, ↓ixK_ar, ixK_ar, Nat.zero_mul, Nat.one_mul, Nat.mul_one, Nat.reduceMul, ↓convK_int, convK_int, ↓fillS_nil, ↓fillS_cons, ↓fill1_0, fill1_0, ↓fill1_1, fill1_1, ↓fill1_2, fill1_2, ↓fill1_3, fill1_3, ↓fill1_4, fill1_4, ↓fill1_5, fill1_5, ↓fill1_6, fill1_6, ↓fill1_7, fill1_7, ↓fill3_0, fill3_0, ↓fill3_3, fill3_3, ↓fill3_6, fill3_6, ↓ld23, ↓st29, ↓ix24, ↓cn23_3, pl29_0, pl29_1, pl29_2, pl29_3, pl29_4, ↓bd29a, ↓bd29b, ↓bd29c, ↓bd29_0]
      exact rfl
    refine CG.ret ?_
    refine ⟨_, _, _, ⟨⟨_, _, rfl, ⟨_, _, _, _, _, rfl, ?_⟩⟩, ?_⟩, fun k => by simp (disch := first | decide | omega) only [finK_ret, resultsK_tmp, resultsK_nil, rc29, rc38, rc47, resP_ptr, ldKn_ptr, ldBn_cells, read3, read5, read8, newB, cellsT_cons, cellsT_nil, Nat.zero_add, Nat.reduceAdd, retK_one, retK_two, retK_nil, optK_some, T.get_same, T.get_other] <;> rfl⟩
    · omega
    · exact (Ext.refl h nx).new.new.set (by omega)

theorem reader1_ok (d : Nat) {a0 a1 a2 : Nat} (h : T Blk) (nx : Nat) :
    FG (β := β) tab (d + 3) 26 [.agg [.int .u64 (a0 : Int), .int .u64 (a1 : Int), .int .u64 (a2 : Int)]] h nx (ReadQ h nx) := by
  refine FG.of (fn := Tryz.f26) (c := c26) (n := 13) (rs := [.cell 2 29, .tmp 3]) (by kernel_rfl) (by kernel_rfl) (by kernel_rfl) c26_ok rfl rfl (by simp) fun call hc => ?_
  have e1 := isLength_eq (β := β) (d + 1) (a0 : Int) (a1 : Int) (a2 : Int)
  have e2 := isRights_eq (β := β) (d + 1) (a0 : Int) (a1 : Int) (a2 : Int)
  rw [show d + 1 + 1 = d + 2 from rfl, ← hc] at e1 e2
  simp only [newB, cellsT_cons, cellsT_nil, Nat.zero_add, Nat.reduceAdd, List.length_cons, List.length_nil] at e2
  have hA0 : Ext h nx ((h.set nx (newB [.int .u64 (a0 : Int), .int .u64 (a1 : Int), .int .u64 (a2 : Int)])).set (nx + 1) (newB [.int .i8 0, .int .u64 0, .int .i64 0, .bool false, .int .i64 0])) (nx + 1 + 1) := (Ext.refl h nx).new.new
  generalize hh2 : (h.set nx (newB [.int .u64 (a0 : Int), .int .u64 (a1 : Int), .int .u64 (a2 : Int)])).set (nx + 1) (newB [.int .i8 0, .int .u64 0, .int .i64 0, .bool false, .int .i64 0]) = h2 at hA0
  have hX := hLen_ext h2 (nx + 1 + 1) (a0 : Int) (a1 : Int) (a2 : Int)
  have hY : Ext h2 (nx + 1 + 1) (((hLen h2 (nx + 1 + 1) (a0 : Int) (a1 : Int) (a2 : Int)).set (nx + 1 + 1 + 3) (newB [.int .u64 (a0 : Int), .int .u64 (a1 : Int), .int .u64 (a2 : Int)])).set (nx + 1 + 1 + 3 + 1) (newB [.fn 58 [] [.ptr (nx + 1 + 1 + 1) 0, .ptr (nx + 1 + 1 + 2) 0], .fn 59 [] [.ptr (nx + 1 + 1 + 3) 0]])) (nx + 1 + 1 + 3 + 1 + 1) := hX.new.new
  obtain ⟨_, H, NX, ⟨⟨u, q, rfl, hu⟩, hx⟩, e⟩ := stretch_ok (β := β) (d + 1) (kd := 1) (a0 := a0) (a1 := a1) (a2 := a2) (b := nx + 1 + 1 + 3 + 1) (n := 2) (T.get_same ((hLen h2 (nx + 1 + 1) (a0 : Int) (a1 : Int) (a2 : Int)).set (nx + 1 + 1 + 3) (newB [.int .u64 (a0 : Int), .int .u64 (a1 : Int), .int .u64 (a2 : Int)])) (nx + 1 + 1 + 3 + 1) (newB [.fn 58 [] [.ptr (nx + 1 + 1 + 1) 0, .ptr (nx + 1 + 1 + 2) 0], .fn 59 [] [.ptr (nx + 1 + 1 + 3) 0]])) (nx := nx + 1 + 1 + 3 + 1 + 1) (by omega) (by omega)
    (fun i hi => by
      match i, hi with
      | 0, _ =>
        refine ⟨_, (by rfl), rfl, fun H NX hx => ?_⟩
        obtain ⟨_, H', NX', ⟨⟨q, rfl⟩, hx'⟩, e⟩ := clo58_ok (β := β) d (h := H) (nx := NX) (a := a0) (n := a1) (b1 := nx + 1 + 1 + 1) (b2 := nx + 1 + 1 + 2) (by rw [hx.get _ (by omega), T.get_other _ _ (by omega), T.get_other _ _ (by omega), hLen_1]) (T.get_same _ _ _) (by rw [hx.get _ (by omega), T.get_other _ _ (by omega), T.get_other _ _ (by omega), hLen_2]) (T.get_same _ _ _)
        exact ⟨q, H', NX', hx', e⟩
      | 1, _ =>
        refine ⟨_, (by rfl), rfl, fun H NX hx => ?_⟩
        obtain ⟨_, H', NX', ⟨⟨q, rfl⟩, hx'⟩, e⟩ := clo59_ok (β := β) d (h := H) (nx := NX) (a0 := a0) (a1 := a1) (a2 := a2) (b1 := nx + 1 + 1 + 3) (by rw [hx.get _ (by omega), T.get_other _ _ (by omega), T.get_same])
        exact ⟨q, H', NX', hx', e⟩)
  rw [show d + 1 + 1 = d + 2 from rfl, ← hc] at e
  have hle := hx.le
  have g2 : H.get (nx + 1) = some (newB [.int .i8 0, .int .u64 0, .int .i64 0, .bool false, .int .i64 0]) := by rw [hx.get _ (by omega), hY.get _ (by omega), ← hh2, T.get_same]
  have g0 : h2.get nx = some (newB [.int .u64 (a0 : Int), .int .u64 (a1 : Int), .int .u64 (a2 : Int)]) := by rw [← hh2, T.get_other _ _ (by omega), T.get_same]
  have hall := (hA0.trans hY).trans hx
  clear hX hY hx
  simp only [newB, cellsT_cons, cellsT_nil, Nat.zero_add, Nat.reduceAdd, List.length_cons, List.length_nil] at e
  simp only [newB, cellsT_cons, cellsT_nil, Nat.zero_add, Nat.reduceAdd, List.length_cons, List.length_nil] at g2
  simp only [newB, cellsT_cons, cellsT_nil, Nat.zero_add, Nat.reduceAdd, List.length_cons, List.length_nil] at g0
  simp only [newB, cellsT_cons, cellsT_nil, Nat.zero_add, Nat.reduceAdd, List.length_cons, List.length_nil] at hh2
  simp only [cellsT_cons, cellsT_nil, Nat.zero_add, Nat.reduceAdd]
  unfold c26
  obtain ⟨kd, fi, co, wr, pc, rfl, hbd⟩ := hu
  refine CG.seq ?_
  apply CG.reg
  · intro k
    simp (maxSteps := 2000000) (disch := first | decide | omega | rfl) only [s26_0, ↓runS_op, ↓runS_nil, ↓optK_some, optK_some, ↓putT_some, ↓grd_true, grd_true, T.get_same, T.get_other, ↓evO_tmp, ↓grd_blt, grd_blt, ↓evO_const, ofValue, Nat.add_zero, Nat.zero_add, Nat.reduceAdd, ↓ev_assign, ↓ev_box1, ↓boxK_int, ↓boxK_bool, ↓boxK_rg, ↓boxK_a3, ↓boxK_a4, ↓boxK_slice, ↓boxK_nilslice, ↓boxK_fn, List.length_cons, List.length_nil, newB, cellsT_cons, cellsT_nil, ↓al29, ↓hh2, hh2]
    exact rfl
  refine CG.seq ?_
  apply CG.draw dr26_1.1 dr26_1.2.1 dr26_1.2.2.1 dr26_1.2.2.2
  · intro k
    simp (maxSteps := 2000000) (disch := first | decide | omega | rfl) only [dl26_1, ol26_1, pp26_1, ↓runS_op, ↓runS_nil, ↓optK_some, optK_some, ↓putT_some, ↓grd_true, grd_true, T.get_same, T.get_other, ↓evO_tmp, ↓grd_blt, grd_blt, ↓evO_const, ofValue, ↓putT_none, Nat.add_zero, Nat.zero_add, Nat.reduceAdd, ↓ev_assign, ↓ev_extract, List.getElem?_cons_zero, List.getElem?_cons_succ, ↓ev_call, ↓evOs_cons, ↓evOs_nil, ↓notMap_fn, notMap_fn, ↓evO_func, ↓ldK1_ptr, ↓ldB1_cells, ↓ldKn_ptr, ↓ldBn_cells, ↓read3, read3, ↓read5, read5, List.length_cons, List.length_nil, newB, cellsT_cons, cellsT_nil, ↓ptrOf_ptr, ↓stK_eq, ↓stB_cells, ↓grd_beq, grd_beq, ↓grd_ble, grd_ble, Bool.true_and, Bool.and_true, cells_int, cells_bool, cells_agg, cells_slice, cells_nilslice, cells_fn, cells_nilfn, cells_ptr, ↓fillS_nil, ↓fillS_cons, ↓fill1_0, fill1_0, ↓fill1_1, fill1_1, ↓fill1_2, fill1_2, ↓fill1_3, fill1_3, ↓fill1_4, fill1_4, ↓fill1_5, fill1_5, ↓fill1_6, fill1_6, ↓fill1_7, fill1_7, ↓fill3_0, fill3_0, ↓fill3_3, fill3_3, ↓fill3_6, fill3_6, ↓newC0, newC0, ↓newC1, newC1, ↓newC2, newC2, ↓newR1, newR1, ↓newR2, newR2, ↓newR3, newR3, ↓newCells_eq1, newCells_eq1, ↓ld24, ↓st29, pl116_0, pl116_1, ↓bs116_2, ↓drawD_op, ↓drawD_if, ↓drawD_nil, ↓lookK_nil, ↓lookK_cons, ↓chkD_cons, ↓chkD_nil, ↓nthK_zero, ↓nthK_succ, ↓bothK_true, ↓bothK_false, ↓again_eq, chkD_cons, chkD_nil, nthK_zero, nthK_succ, bothK_true, bothK_false, again_eq, same_int, same_bool, same_ptr, same_slice, same_slicO, same_nilslice, same_rg, same_a3, same_fn0, Bool.and_self, Bool.and_false, Bool.false_and, ↓e1, e1, ↓e2, e2, ↓e, e, ↓g0, g0, ↓g2, g2, ↓hLen_lt, hLen_lt]
    exact rfl
  refine CG.ret ?_
  refine ⟨_, _, _, ⟨⟨_, _, rfl, ⟨_, _, _, _, _, rfl, hbd⟩⟩, ?_⟩, fun k => by simp (disch := first | decide | omega) only [finK_ret, resultsK_tmp, resultsK_nil, rc29, rc38, rc47, resP_ptr, ldKn_ptr, ldBn_cells, read3, read5, read8, newB, cellsT_cons, cellsT_nil, Nat.zero_add, Nat.reduceAdd, retK_one, retK_two, retK_nil, optK_some, T.get_same, T.get_other] <;> rfl⟩
  exact hall.set (by omega)
end Go.Proofs.YthdoelcgdgcncaaGreatDoor
/- Walks: call's readers, two more. -/
namespace Go.Proofs.YthdoelcgdgcncaaGreatDoor
open Go Go.Can
variable {β : Type}

theorem reader3_ok (d : Nat) {a0 a1 a2 : Nat} (h : T Blk) (nx : Nat) :
    FG (β := β) tab (d + 3) 31 [.agg [.int .u64 (a0 : Int), .int .u64 (a1 : Int), .int .u64 (a2 : Int)]] h nx (ReadQ h nx) := by
  refine FG.of (fn := Tryz.f31) (c := c31) (n := 13) (rs := [.cell 2 29, .tmp 3]) (by kernel_rfl) (by kernel_rfl) (by kernel_rfl) c31_ok rfl rfl (by simp) fun call hc => ?_
  have e1 := isLength_eq (β := β) (d + 1) (a0 : Int) (a1 : Int) (a2 : Int)
  have e2 := isRights_eq (β := β) (d + 1) (a0 : Int) (a1 : Int) (a2 : Int)
  rw [show d + 1 + 1 = d + 2 from rfl, ← hc] at e1 e2
  simp only [newB, cellsT_cons, cellsT_nil, Nat.zero_add, Nat.reduceAdd, List.length_cons, List.length_nil] at e2
  have hA0 : Ext h nx ((h.set nx (newB [.int .u64 (a0 : Int), .int .u64 (a1 : Int), .int .u64 (a2 : Int)])).set (nx + 1) (newB [.int .i8 0, .int .u64 0, .int .i64 0, .bool false, .int .i64 0])) (nx + 1 + 1) := (Ext.refl h nx).new.new
  generalize hh2 : (h.set nx (newB [.int .u64 (a0 : Int), .int .u64 (a1 : Int), .int .u64 (a2 : Int)])).set (nx + 1) (newB [.int .i8 0, .int .u64 0, .int .i64 0, .bool false, .int .i64 0]) = h2 at hA0
  have hX := hLen_ext h2 (nx + 1 + 1) (a0 : Int) (a1 : Int) (a2 : Int)
  have hY : Ext h2 (nx + 1 + 1) (((hLen h2 (nx + 1 + 1) (a0 : Int) (a1 : Int) (a2 : Int)).set (nx + 1 + 1 + 3) (newB [.int .u64 (a0 : Int), .int .u64 (a1 : Int), .int .u64 (a2 : Int)])).set (nx + 1 + 1 + 3 + 1) (newB [.fn 58 [] [.ptr (nx + 1 + 1 + 1) 0, .ptr (nx + 1 + 1 + 2) 0], .fn 59 [] [.ptr (nx + 1 + 1 + 3) 0]])) (nx + 1 + 1 + 3 + 1 + 1) := hX.new.new
  obtain ⟨_, H, NX, ⟨⟨u, q, rfl, hu⟩, hx⟩, e⟩ := stretch_ok (β := β) (d + 1) (kd := 3) (a0 := a0) (a1 := a1) (a2 := a2) (b := nx + 1 + 1 + 3 + 1) (n := 2) (T.get_same ((hLen h2 (nx + 1 + 1) (a0 : Int) (a1 : Int) (a2 : Int)).set (nx + 1 + 1 + 3) (newB [.int .u64 (a0 : Int), .int .u64 (a1 : Int), .int .u64 (a2 : Int)])) (nx + 1 + 1 + 3 + 1) (newB [.fn 58 [] [.ptr (nx + 1 + 1 + 1) 0, .ptr (nx + 1 + 1 + 2) 0], .fn 59 [] [.ptr (nx + 1 + 1 + 3) 0]])) (nx := nx + 1 + 1 + 3 + 1 + 1) (by omega) (by omega)
    (fun i hi => by
      match i, hi with
      | 0, _ =>
        refine ⟨_, (by rfl), rfl, fun H NX hx => ?_⟩
        obtain ⟨_, H', NX', ⟨⟨q, rfl⟩, hx'⟩, e⟩ := clo58_ok (β := β) d (h := H) (nx := NX) (a := a0) (n := a1) (b1 := nx + 1 + 1 + 1) (b2 := nx + 1 + 1 + 2) (by rw [hx.get _ (by omega), T.get_other _ _ (by omega), T.get_other _ _ (by omega), hLen_1]) (T.get_same _ _ _) (by rw [hx.get _ (by omega), T.get_other _ _ (by omega), T.get_other _ _ (by omega), hLen_2]) (T.get_same _ _ _)
        exact ⟨q, H', NX', hx', e⟩
      | 1, _ =>
        refine ⟨_, (by rfl), rfl, fun H NX hx => ?_⟩
        obtain ⟨_, H', NX', ⟨⟨q, rfl⟩, hx'⟩, e⟩ := clo59_ok (β := β) d (h := H) (nx := NX) (a0 := a0) (a1 := a1) (a2 := a2) (b1 := nx + 1 + 1 + 3) (by rw [hx.get _ (by omega), T.get_other _ _ (by omega), T.get_same])
        exact ⟨q, H', NX', hx', e⟩)
  rw [show d + 1 + 1 = d + 2 from rfl, ← hc] at e
  have hle := hx.le
  have g2 : H.get (nx + 1) = some (newB [.int .i8 0, .int .u64 0, .int .i64 0, .bool false, .int .i64 0]) := by rw [hx.get _ (by omega), hY.get _ (by omega), ← hh2, T.get_same]
  have g0 : h2.get nx = some (newB [.int .u64 (a0 : Int), .int .u64 (a1 : Int), .int .u64 (a2 : Int)]) := by rw [← hh2, T.get_other _ _ (by omega), T.get_same]
  have hall := (hA0.trans hY).trans hx
  clear hX hY hx
  simp only [newB, cellsT_cons, cellsT_nil, Nat.zero_add, Nat.reduceAdd, List.length_cons, List.length_nil] at e
  simp only [newB, cellsT_cons, cellsT_nil, Nat.zero_add, Nat.reduceAdd, List.length_cons, List.length_nil] at g2
  simp only [newB, cellsT_cons, cellsT_nil, Nat.zero_add, Nat.reduceAdd, List.length_cons, List.length_nil] at g0
  simp only [newB, cellsT_cons, cellsT_nil, Nat.zero_add, Nat.reduceAdd, List.length_cons, List.length_nil] at hh2
  simp only [cellsT_cons, cellsT_nil, Nat.zero_add, Nat.reduceAdd]
  unfold c31
  obtain ⟨kd, fi, co, wr, pc, rfl, hbd⟩ := hu
  refine CG.seq ?_
  apply CG.reg
  · intro k
    simp (maxSteps := 2000000) (disch := first | decide | omega | rfl) only [s31_0, ↓runS_op, ↓runS_nil, ↓optK_some, optK_some, ↓putT_some, ↓grd_true, grd_true, T.get_same, T.get_other, ↓evO_tmp, ↓grd_blt, grd_blt, ↓evO_const, ofValue, Nat.add_zero, Nat.zero_add, Nat.reduceAdd, ↓ev_assign, ↓ev_box1, ↓boxK_int, ↓boxK_bool, ↓boxK_rg, ↓boxK_a3, ↓boxK_a4, ↓boxK_slice, ↓boxK_nilslice, ↓boxK_fn, List.length_cons, List.length_nil, newB, cellsT_cons, cellsT_nil, ↓al29, ↓hh2, hh2]
    exact rfl
  refine CG.seq ?_
  apply CG.draw dr31_1.1 dr31_1.2.1 dr31_1.2.2.1 dr31_1.2.2.2
  · intro k
    simp (maxSteps := 2000000) (disch := first | decide | omega | rfl) only [dl31_1, ol31_1, pp31_1, ↓runS_op, ↓runS_nil, ↓optK_some, optK_some, ↓putT_some, ↓grd_true, grd_true, T.get_same, T.get_other, ↓evO_tmp, ↓grd_blt, grd_blt, ↓evO_const, ofValue, ↓putT_none, Nat.add_zero, Nat.zero_add, Nat.reduceAdd, ↓ev_assign, ↓ev_extract, List.getElem?_cons_zero, List.getElem?_cons_succ, ↓ev_call, ↓evOs_cons, ↓evOs_nil, ↓notMap_fn, notMap_fn, ↓evO_func, ↓ldK1_ptr, ↓ldB1_cells, ↓ldKn_ptr, ↓ldBn_cells, ↓read3, read3, ↓read5, read5, List.length_cons, List.length_nil, newB, cellsT_cons, cellsT_nil, ↓ptrOf_ptr, ↓stK_eq, ↓stB_cells, ↓grd_beq, grd_beq, ↓grd_ble, grd_ble, Bool.true_and, Bool.and_true, cells_int, cells_bool, cells_agg, cells_slice, cells_nilslice, cells_fn, cells_nilfn, cells_ptr, ↓fillS_nil, ↓fillS_cons, ↓fill1_0, fill1_0, ↓fill1_1, fill1_1, ↓fill1_2, fill1_2, ↓fill1_3, fill1_3, ↓fill1_4, fill1_4, ↓fill1_5, fill1_5, ↓fill1_6, fill1_6, ↓fill1_7, fill1_7, ↓fill3_0, fill3_0, ↓fill3_3, fill3_3, ↓fill3_6, fill3_6, ↓newC0, newC0, ↓newC1, newC1, ↓newC2, newC2, ↓newR1, newR1, ↓newR2, newR2, ↓newR3, newR3, ↓newCells_eq1, newCells_eq1, ↓ld24, ↓st29, pl116_0, pl116_1, ↓bs116_2, ↓drawD_op, ↓drawD_if, ↓drawD_nil, ↓lookK_nil, ↓lookK_cons, ↓chkD_cons, ↓chkD_nil, ↓nthK_zero, ↓nthK_succ, ↓bothK_true, ↓bothK_false, ↓again_eq, chkD_cons, chkD_nil, nthK_zero, nthK_succ, bothK_true, bothK_false, again_eq, same_int, same_bool, same_ptr, same_slice, same_slicO, same_nilslice, same_rg, same_a3, same_fn0, Bool.and_self, Bool.and_false, Bool.false_and, ↓e1, e1, ↓e2, e2, ↓e, e, ↓g0, g0, ↓g2, g2, ↓hLen_lt, hLen_lt]
    exact rfl
  refine CG.ret ?_
  refine ⟨_, _, _, ⟨⟨_, _, rfl, ⟨_, _, _, _, _, rfl, hbd⟩⟩, ?_⟩, fun k => by simp (disch := first | decide | omega) only [finK_ret, resultsK_tmp, resultsK_nil, rc29, rc38, rc47, resP_ptr, ldKn_ptr, ldBn_cells, read3, read5, read8, newB, cellsT_cons, cellsT_nil, Nat.zero_add, Nat.reduceAdd, retK_one, retK_two, retK_nil, optK_some, T.get_same, T.get_other] <;> rfl⟩
  exact hall.set (by omega)
theorem reader2_ok (d : Nat) {a0 a1 a2 : Nat} (h : T Blk) (nx : Nat) :
    FG (β := β) tab (d + 3) 30 [.agg [.int .u64 (a0 : Int), .int .u64 (a1 : Int), .int .u64 (a2 : Int)]] h nx (ReadQ h nx) := by
  refine FG.of (fn := Tryz.f30) (c := c30) (n := 15) (rs := [.cell 2 29, .tmp 3]) (by kernel_rfl) (by kernel_rfl) (by kernel_rfl) c30_ok rfl rfl (by simp) fun call hc => ?_
  have e1 := isLength_eq (β := β) (d + 1) (a0 : Int) (a1 : Int) (a2 : Int)
  rw [show d + 1 + 1 = d + 2 from rfl, ← hc] at e1
  have hA0 : Ext h nx ((h.set nx (newB [.int .u64 (a0 : Int), .int .u64 (a1 : Int), .int .u64 (a2 : Int)])).set (nx + 1) (newB [.int .i8 0, .int .u64 0, .int .i64 0, .bool false, .int .i64 0])) (nx + 1 + 1) := (Ext.refl h nx).new.new
  generalize hh2 : (h.set nx (newB [.int .u64 (a0 : Int), .int .u64 (a1 : Int), .int .u64 (a2 : Int)])).set (nx + 1) (newB [.int .i8 0, .int .u64 0, .int .i64 0, .bool false, .int .i64 0]) = h2 at hA0
  have hX := hLen_ext h2 (nx + 1 + 1) (a0 : Int) (a1 : Int) (a2 : Int)
  have hY : Ext h2 (nx + 1 + 1) ((hLen h2 (nx + 1 + 1) (a0 : Int) (a1 : Int) (a2 : Int)).set (nx + 1 + 1 + 3) (newB [.fn 58 [] [.ptr (nx + 1 + 1 + 1) 0, .ptr (nx + 1 + 1 + 2) 0]])) (nx + 1 + 1 + 3 + 1) := hX.new
  obtain ⟨_, H, NX, ⟨⟨u, q, rfl, hu⟩, hx⟩, e⟩ := stretch_ok (β := β) (d + 1) (kd := 2) (a0 := a0) (a1 := a1) (a2 := 0) (b := nx + 1 + 1 + 3) (n := 1) (T.get_same (hLen h2 (nx + 1 + 1) (a0 : Int) (a1 : Int) (a2 : Int)) (nx + 1 + 1 + 3) (newB [.fn 58 [] [.ptr (nx + 1 + 1 + 1) 0, .ptr (nx + 1 + 1 + 2) 0]])) (nx := nx + 1 + 1 + 3 + 1) (by omega) (by omega)
    (fun i hi => by
      match i, hi with
      | 0, _ =>
        refine ⟨_, (by rfl), rfl, fun H NX hx => ?_⟩
        obtain ⟨_, H', NX', ⟨⟨q, rfl⟩, hx'⟩, e⟩ := clo58_ok (β := β) d (h := H) (nx := NX) (a := a0) (n := a1) (b1 := nx + 1 + 1 + 1) (b2 := nx + 1 + 1 + 2) (by rw [hx.get _ (by omega), T.get_other _ _ (by omega), hLen_1]) (T.get_same _ _ _) (by rw [hx.get _ (by omega), T.get_other _ _ (by omega), hLen_2]) (T.get_same _ _ _)
        exact ⟨q, H', NX', hx', e⟩)
  rw [show d + 1 + 1 = d + 2 from rfl, ← hc] at e
  have hle := hx.le
  have g2 : H.get (nx + 1) = some (newB [.int .i8 0, .int .u64 0, .int .i64 0, .bool false, .int .i64 0]) := by rw [hx.get _ (by omega), hY.get _ (by omega), ← hh2, T.get_same]
  have g0 : h2.get nx = some (newB [.int .u64 (a0 : Int), .int .u64 (a1 : Int), .int .u64 (a2 : Int)]) := by rw [← hh2, T.get_other _ _ (by omega), T.get_same]
  have hall := (hA0.trans hY).trans hx
  clear hX hY hx
  have hz : ((0 : Nat) : Int) = 0 := rfl
  rw [hz] at e
  simp only [newB, cellsT_cons, cellsT_nil, Nat.zero_add, Nat.reduceAdd, List.length_cons, List.length_nil] at e
  simp only [newB, cellsT_cons, cellsT_nil, Nat.zero_add, Nat.reduceAdd, List.length_cons, List.length_nil] at g2
  simp only [newB, cellsT_cons, cellsT_nil, Nat.zero_add, Nat.reduceAdd, List.length_cons, List.length_nil] at g0
  simp only [newB, cellsT_cons, cellsT_nil, Nat.zero_add, Nat.reduceAdd, List.length_cons, List.length_nil] at hh2
  simp only [cellsT_cons, cellsT_nil, Nat.zero_add, Nat.reduceAdd]
  unfold c30
  obtain ⟨kd, fi, co, wr, pc, rfl, hbd⟩ := hu
  refine CG.seq ?_
  apply CG.reg
  · intro k
    simp (maxSteps := 2000000) (disch := first | decide | omega | rfl) only [s30_0, ↓runS_op, ↓runS_nil, ↓optK_some, optK_some, ↓putT_some, ↓grd_true, grd_true, T.get_same, T.get_other, ↓evO_tmp, ↓grd_blt, grd_blt, ↓evO_const, ofValue, Nat.add_zero, Nat.zero_add, Nat.reduceAdd, ↓ev_assign, ↓ev_box1, ↓boxK_int, ↓boxK_bool, ↓boxK_rg, ↓boxK_a3, ↓boxK_a4, ↓boxK_slice, ↓boxK_nilslice, ↓boxK_fn, List.length_cons, List.length_nil, newB, cellsT_cons, cellsT_nil, ↓al29, ↓hh2, hh2]
    exact rfl
  refine CG.seq ?_
  apply CG.draw dr30_1.1 dr30_1.2.1 dr30_1.2.2.1 dr30_1.2.2.2
  · intro k
    simp (maxSteps := 2000000) (disch := first | decide | omega | rfl) only [dl30_1, ol30_1, pp30_1, ↓runS_op, ↓runS_nil, ↓optK_some, optK_some, ↓putT_some, ↓grd_true, grd_true, T.get_same, T.get_other, ↓evO_tmp, ↓grd_blt, grd_blt, ↓evO_const, ofValue, ↓putT_none, Nat.add_zero, Nat.zero_add, Nat.reduceAdd, ↓ev_assign, ↓ev_extract, List.getElem?_cons_zero, List.getElem?_cons_succ, ↓ev_call, ↓evOs_cons, ↓evOs_nil, ↓notMap_fn, notMap_fn, ↓evO_func, ↓ldK1_ptr, ↓ldB1_cells, ↓ldKn_ptr, ↓ldBn_cells, ↓read3, read3, ↓read5, read5, List.length_cons, List.length_nil, newB, cellsT_cons, cellsT_nil, ↓ptrOf_ptr, ↓stK_eq, ↓stB_cells, ↓grd_beq, grd_beq, ↓grd_ble, grd_ble, Bool.true_and, Bool.and_true, cells_int, cells_bool, cells_agg, cells_slice, cells_nilslice, cells_fn, cells_nilfn, cells_ptr, ↓natOf_nat, natOf_nat, ↓natOf_0, natOf_0, ↓natOf_1, natOf_1, ↓natOf_2, natOf_2, ↓ixK_sl, ixK_sl, ↓ixK_ar, ixK_ar, Nat.zero_mul, Nat.one_mul, Nat.mul_one, Nat.reduceMul, ↓fillS_nil, ↓fillS_cons, ↓fill1_0, fill1_0, ↓fill1_1, fill1_1, ↓fill1_2, fill1_2, ↓fill1_3, fill1_3, ↓fill1_4, fill1_4, ↓fill1_5, fill1_5, ↓fill1_6, fill1_6, ↓fill1_7, fill1_7, ↓fill3_0, fill3_0, ↓fill3_3, fill3_3, ↓fill3_6, fill3_6, ↓newC0, newC0, ↓newC1, newC1, ↓newC2, newC2, ↓newR1, newR1, ↓newR2, newR2, ↓newR3, newR3, ↓newCells_eq1, newCells_eq1, ↓ld23, ↓ld24, ↓st29, ↓ix24, pl24_0, pl24_1, pl24_2, ↓bd24, pl116_0, pl116_1, ↓bs116_1, ↓drawD_op, ↓drawD_if, ↓drawD_nil, ↓lookK_nil, ↓lookK_cons, ↓chkD_cons, ↓chkD_nil, ↓nthK_zero, ↓nthK_succ, ↓bothK_true, ↓bothK_false, ↓again_eq, chkD_cons, chkD_nil, nthK_zero, nthK_succ, bothK_true, bothK_false, again_eq, same_int, same_bool, same_ptr, same_slice, same_slicO, same_nilslice, same_rg, same_a3, same_fn0, Bool.and_self, Bool.and_false, Bool.false_and, ↓e1, e1, ↓e, e, ↓g0, g0, ↓g2, g2, ↓hLen_lt, hLen_lt]
    exact rfl
  refine CG.ret ?_
  refine ⟨_, _, _, ⟨⟨_, _, rfl, ⟨_, _, _, _, _, rfl, hbd⟩⟩, ?_⟩, fun k => by simp (disch := first | decide | omega) only [finK_ret, resultsK_tmp, resultsK_nil, rc29, rc38, rc47, resP_ptr, ldKn_ptr, ldBn_cells, read3, read5, read8, newB, cellsT_cons, cellsT_nil, Nat.zero_add, Nat.reduceAdd, retK_one, retK_two, retK_nil, optK_some, T.get_same, T.get_other] <;> rfl⟩
  exact hall.set (by omega)

end Go.Proofs.YthdoelcgdgcncaaGreatDoor
/- Walks: call.Parse. -/
namespace Go.Proofs.YthdoelcgdgcncaaGreatDoor
open Go Go.Can
variable {β : Type}

/-- the readers, the three closures of 'bare' at these numbers -/
noncomputable def rdL (m : Nat) : List CV := [.nilfn, .fn 26 [] [], .fn 30 [] [], .fn 31 [] [], .fn 60 [] [.ptr (m + 1) 0], .fn 60 [] [.ptr (m + 1 + 1) 0], .fn 60 [] [.ptr (m + 1 + 1 + 1) 0], .fn 33 [] []]

theorem readers_ok (d : Nat) (h : T Blk) (nx : Nat) : FG (β := β) tab (d + 2) 12 [] h nx fun v h' nx' => v = .agg (rdL nx) ∧ Ext h nx h' nx' ∧ nx + 4 ≤ nx' ∧
    h'.get (nx + 1) = some (newB [.int .i8 4]) ∧ h'.get (nx + 1 + 1) = some (newB [.int .i8 5]) ∧ h'.get (nx + 1 + 1 + 1) = some (newB [.int .i8 6]) := by
  refine FG.of (fn := Tryz.f12) (c := c12) (n := 5) (rs := [.cell 0 47]) (by kernel_rfl) (by kernel_rfl) (by kernel_rfl) c12_ok rfl rfl (by simp) fun call hc => ?_
  have e1 := bare_eq (β := β) d 4
  have e2 := bare_eq (β := β) d 5
  have e3 := bare_eq (β := β) d 6
  rw [← hc] at e1 e2 e3
  simp only [newB, cellsT_cons, cellsT_nil, Nat.zero_add, Nat.reduceAdd, List.length_cons, List.length_nil] at e1
  simp only [newB, cellsT_cons, cellsT_nil, Nat.zero_add, Nat.reduceAdd, List.length_cons, List.length_nil] at e2
  simp only [newB, cellsT_cons, cellsT_nil, Nat.zero_add, Nat.reduceAdd, List.length_cons, List.length_nil] at e3
  simp only [cellsT_cons, cellsT_nil, Nat.zero_add, Nat.reduceAdd]
  unfold c12
  refine CG.seq ?_
  apply CG.reg
  · intro k
    simp (maxSteps := 2000000) (disch := first | decide | omega | rfl) only [s12_0, ↓runS_op, ↓runS_nil, ↓optK_some, optK_some, ↓putT_some, ↓grd_true, grd_true, T.get_same, T.get_other, ↓evO_tmp, ↓grd_blt, grd_blt, Nat.add_zero, Nat.zero_add, Nat.reduceAdd, List.length_cons, List.length_nil, newB, cellsT_cons, cellsT_nil, ↓al47]
    exact rfl
  refine CG.seq ?_
  apply CG.reg
  · intro k
    simp (maxSteps := 2000000) (disch := first | decide | omega | rfl) only [s12_1, ↓runS_op, ↓runS_nil, ↓optK_some, optK_some, ↓putT_some, ↓grd_true, grd_true, T.get_same, T.get_other, ↓evO_tmp, ↓grd_blt, grd_blt, ↓evO_const, ofValue, ↓putT_none, Nat.add_zero, Nat.zero_add, Nat.reduceAdd, ↓ev_call, ↓evOs_cons, ↓evOs_nil, ↓notMap_fn, notMap_fn, ↓evO_func, List.getElem?_cons_zero, List.getElem?_cons_succ, ↓ptrOf_ptr, ↓stK_eq, ↓stB_cells, ↓grd_beq, grd_beq, ↓grd_ble, grd_ble, Bool.true_and, Bool.and_true, cells_int, cells_bool, cells_agg, cells_slice, cells_nilslice, cells_fn, cells_nilfn, cells_ptr, List.length_cons, List.length_nil, newB, cellsT_cons, cellsT_nil, ↓fillS_nil, ↓fillS_cons, ↓fill1_0, fill1_0, ↓fill1_1, fill1_1, ↓fill1_2, fill1_2, ↓fill1_3, fill1_3, ↓fill1_4, fill1_4, ↓fill1_5, fill1_5, ↓fill1_6, fill1_6, ↓fill1_7, fill1_7, ↓fill3_0, fill3_0, ↓fill3_3, fill3_3, ↓fill3_6, fill3_6, ↓st47, pl47_0, pl47_1, pl47_2, pl47_3, pl47_4, pl47_5, pl47_6, pl47_7, ↓bd47, ↓e1, e1, ↓e2, e2, ↓e3, e3]
    exact rfl
  refine CG.ret ?_
  refine ⟨_, _, _, ⟨rfl, ?_, ?_, ?_, ?_, ?_⟩, fun k => by simp (disch := first | decide | omega) only [rdL, finK_ret, resultsK_tmp, resultsK_nil, rc29, rc38, rc47, resP_ptr, ldKn_ptr, ldBn_cells, read3, read5, read8, newB, cellsT_cons, cellsT_nil, Nat.zero_add, Nat.reduceAdd, retK_one, retK_two, retK_nil, optK_some, T.get_same, T.get_other] <;> rfl⟩
  · exact ((((Ext.refl h nx).new).new).new).new.set (by omega)
  · omega
  · rw [T.get_other _ _ (by omega), T.get_other _ _ (by omega), T.get_other _ _ (by omega), T.get_same]; rfl
  · rw [T.get_other _ _ (by omega), T.get_other _ _ (by omega), T.get_same]; rfl
  · rw [T.get_other _ _ (by omega), T.get_same]; rfl

theorem eqf_fn (f : FuncId) (a b : List CV) (c : CV → Res β) : binCV tab .eql 46 (.fn f a b) .nilfn c = c (.bool false) := by
  show eqCV tab 46 (.fn f a b) .nilfn (fun x => c (.bool x)) = _
  unfold eqCV
  rw [tyK_eq, ty46, optK_some]
  rfl
theorem eqf_nil (c : CV → Res β) : binCV tab .eql 46 .nilfn .nilfn c = c (.bool true) := by
  show eqCV tab 46 .nilfn .nilfn (fun x => c (.bool x)) = _
  unfold eqCV
  rw [tyK_eq, ty46, optK_some]
  rfl
end Go.Proofs.YthdoelcgdgcncaaGreatDoor
/- Walks: call.Parse. -/
namespace Go.Proofs.YthdoelcgdgcncaaGreatDoor
open Go Go.Can
variable {β : Type}

/-- what stands at a number: no reader, or one -/
def RdAt (d : Nat) (a0 a1 a2 : Nat) (h : T Blk) (nx : Nat) (β : Type) (v : CV) : Prop :=
  v = .nilfn ∨ ∃ f a b, v = .fn f a b ∧ ∀ H NX, Ext h nx H NX → ∃ u q H' NX', RqOK u ∧ Ext H NX H' NX' ∧ ∀ k : K β, callN tab (d + 3) (.fn f a b) [.agg [.int .u64 (a0 : Int), .int .u64 (a1 : Int), .int .u64 (a2 : Int)]] H NX k = k (.tup [u, .bool q]) H' NX'

theorem rd_at (d : Nat) (a0 a1 a2 : Nat) {h : T Blk} {nx m : Nat} (hm : m + 4 ≤ nx) (h4 : h.get (m + 1) = some (newB [.int .i8 4])) (h5 : h.get (m + 1 + 1) = some (newB [.int .i8 5])) (h6 : h.get (m + 1 + 1 + 1) = some (newB [.int .i8 6])) (n : Nat) (hn : n < 8) :
    ∃ v, (rdL m)[n]? = some v ∧ RdAt d a0 a1 a2 h nx β v := by
  match n, hn with
  | 0, _ => exact ⟨_, rfl, .inl rfl⟩
  | 1, _ =>
    refine ⟨_, rfl, .inr ⟨_, _, _, rfl, fun H NX hx => ?_⟩⟩
    obtain ⟨_, H', NX', ⟨⟨u, q, rfl, hu⟩, hx'⟩, e⟩ := reader1_ok (β := β) d (a0 := a0) (a1 := a1) (a2 := a2) H NX
    exact ⟨u, q, H', NX', hu, hx', e⟩
  | 2, _ =>
    refine ⟨_, rfl, .inr ⟨_, _, _, rfl, fun H NX hx => ?_⟩⟩
    obtain ⟨_, H', NX', ⟨⟨u, q, rfl, hu⟩, hx'⟩, e⟩ := reader2_ok (β := β) d (a0 := a0) (a1 := a1) (a2 := a2) H NX
    exact ⟨u, q, H', NX', hu, hx', e⟩
  | 3, _ =>
    refine ⟨_, rfl, .inr ⟨_, _, _, rfl, fun H NX hx => ?_⟩⟩
    obtain ⟨_, H', NX', ⟨⟨u, q, rfl, hu⟩, hx'⟩, e⟩ := reader3_ok (β := β) d (a0 := a0) (a1 := a1) (a2 := a2) H NX
    exact ⟨u, q, H', NX', hu, hx', e⟩
  | 4, _ =>
    refine ⟨_, rfl, .inr ⟨_, _, _, rfl, fun H NX hx => ?_⟩⟩
    have hle := hx.le
    obtain ⟨_, H', NX', ⟨⟨u, q, rfl, hu⟩, hx'⟩, e⟩ := clo60_ok (β := β) (d + 2) (a0 := a0) (a1 := a1) (a2 := a2) (kd := 4) (h := H) (nx := NX) (b := m + 1) (by rw [hx.get _ (by omega)]; exact h4) (by omega)
    exact ⟨u, q, H', NX', hu, hx', e⟩
  | 5, _ =>
    refine ⟨_, rfl, .inr ⟨_, _, _, rfl, fun H NX hx => ?_⟩⟩
    have hle := hx.le
    obtain ⟨_, H', NX', ⟨⟨u, q, rfl, hu⟩, hx'⟩, e⟩ := clo60_ok (β := β) (d + 2) (a0 := a0) (a1 := a1) (a2 := a2) (kd := 5) (h := H) (nx := NX) (b := m + 1 + 1) (by rw [hx.get _ (by omega)]; exact h5) (by omega)
    exact ⟨u, q, H', NX', hu, hx', e⟩
  | 6, _ =>
    refine ⟨_, rfl, .inr ⟨_, _, _, rfl, fun H NX hx => ?_⟩⟩
    have hle := hx.le
    obtain ⟨_, H', NX', ⟨⟨u, q, rfl, hu⟩, hx'⟩, e⟩ := clo60_ok (β := β) (d + 2) (a0 := a0) (a1 := a1) (a2 := a2) (kd := 6) (h := H) (nx := NX) (b := m + 1 + 1 + 1) (by rw [hx.get _ (by omega)]; exact h6) (by omega)
    exact ⟨u, q, H', NX', hu, hx', e⟩
  | 7, _ =>
    refine ⟨_, rfl, .inr ⟨_, _, _, rfl, fun H NX hx => ?_⟩⟩
    obtain ⟨_, H', NX', ⟨⟨u, q, rfl, hu⟩, hx'⟩, e⟩ := thread_ok (β := β) (d + 2) (a0 := a0) (a1 := a1) (a2 := a2) H NX
    exact ⟨u, q, H', NX', hu, hx', e⟩

/-- what Parse answers -/
def ParseQ (h : T Blk) (nx : Nat) (v : CV) (h' : T Blk) (nx' : Nat) : Prop := (∃ u er, v = .tup [u, .int .i64 er] ∧ RqOK u) ∧ Ext h nx h' nx'

theorem parse_ok (d : Nat) {n a0 a1 a2 : Nat} (h : T Blk) (nx : Nat) :
    FG (β := β) tab (d + 4) 4 [.agg [.int .u64 (n : Int), .int .u64 (a0 : Int), .int .u64 (a1 : Int), .int .u64 (a2 : Int)]] h nx (ParseQ h nx) := by
  refine FG.of (fn := Tryz.f4) (c := c4) (n := 31) (rs := [.cell 2 29, .tmp 3]) (by kernel_rfl) (by kernel_rfl) (by kernel_rfl) c4_ok rfl rfl (by simp) fun call hc => ?_
  simp only [cellsT_cons, cellsT_nil, Nat.zero_add, Nat.reduceAdd]
  have hA0 : Ext h nx ((h.set nx (newB [.int .u64 (n : Int), .int .u64 (a0 : Int), .int .u64 (a1 : Int), .int .u64 (a2 : Int)])).set (nx + 1) (newB [.int .i8 0, .int .u64 0, .int .i64 0, .bool false, .int .i64 0])) (nx + 1 + 1) := (Ext.refl h nx).new.new
  generalize hh2 : (h.set nx (newB [.int .u64 (n : Int), .int .u64 (a0 : Int), .int .u64 (a1 : Int), .int .u64 (a2 : Int)])).set (nx + 1) (newB [.int .i8 0, .int .u64 0, .int .i64 0, .bool false, .int .i64 0]) = h2 at hA0
  obtain ⟨_, H, NX, ⟨rfl, hx, hnx, h4, h5, h6⟩, e⟩ := readers_ok (β := β) (d + 1) h2 (nx + 1 + 1)
  rw [show d + 1 + 2 = d + 3 from rfl, ← hc] at e
  have g0 : H.get nx = some (newB [.int .u64 (n : Int), .int .u64 (a0 : Int), .int .u64 (a1 : Int), .int .u64 (a2 : Int)]) := by rw [hx.get _ (by omega), ← hh2, T.get_other _ _ (by omega), T.get_same]
  have g1 : H.get (nx + 1) = some (newB [.int .i8 0, .int .u64 0, .int .i64 0, .bool false, .int .i64 0]) := by rw [hx.get _ (by omega), ← hh2, T.get_same]
  have hle := hx.le
  have hX := hA0.trans hx
  simp only [rdL] at e
  simp only [newB, cellsT_cons, cellsT_nil, Nat.zero_add, Nat.reduceAdd, List.length_cons, List.length_nil] at g0
  simp only [newB, cellsT_cons, cellsT_nil, Nat.zero_add, Nat.reduceAdd, List.length_cons, List.length_nil] at g1
  simp only [newB, cellsT_cons, cellsT_nil, Nat.zero_add, Nat.reduceAdd, List.length_cons, List.length_nil] at hh2
  unfold c4
  refine CG.seq ?_
  apply CG.reg
  · intro k
    simp (maxSteps := 2000000) (disch := first | decide | omega | rfl) only [s4_0, ↓runS_op, ↓runS_nil, ↓optK_some, optK_some, ↓putT_some, ↓grd_true, grd_true, T.get_same, T.get_other, ↓evO_tmp, ↓grd_blt, grd_blt, ↓evO_const, ofValue, Nat.add_zero, Nat.zero_add, Nat.reduceAdd, ↓ev_assign, ↓ev_box1, ↓boxK_int, ↓boxK_bool, ↓boxK_rg, ↓boxK_a3, ↓boxK_a4, ↓boxK_slice, ↓boxK_nilslice, ↓boxK_fn, List.length_cons, List.length_nil, newB, cellsT_cons, cellsT_nil, ↓al29, ↓hh2, hh2]
    exact rfl
  refine CG.seq ?_
  apply CG.reg
  · intro k
    simp (maxSteps := 2000000) (disch := first | decide | omega | rfl) only [s4_1, ↓runS_op, ↓runS_nil, ↓optK_some, optK_some, ↓putT_some, ↓grd_true, grd_true, T.get_same, T.get_other, ↓evO_tmp, ↓grd_blt, grd_blt, ↓putT_none, Nat.add_zero, Nat.zero_add, Nat.reduceAdd, ↓ev_call, ↓evOs_cons, ↓evOs_nil, ↓notMap_fn, notMap_fn, ↓evO_func, List.getElem?_cons_zero, List.getElem?_cons_succ, ↓ptrOf_ptr, ↓stK_eq, ↓stB_cells, ↓grd_beq, grd_beq, ↓grd_ble, grd_ble, Bool.true_and, Bool.and_true, cells_int, cells_bool, cells_agg, cells_slice, cells_nilslice, cells_fn, cells_nilfn, cells_ptr, List.length_cons, List.length_nil, newB, cellsT_cons, cellsT_nil, ↓st47, ↓al47, ↓e, e]
    exact rfl
  refine CG.seq ?_
  refine CG.seq ?_
  cases c1 : decide ((8 : Int) ≤ (n : Int)) with
  | true =>
    apply CG.reg
    · intro k
      simp (maxSteps := 2000000) (disch := first | decide | omega | rfl) only [s4_2, ↓runS_op, ↓runS_nil, ↓optK_some, optK_some, ↓putT_some, ↓grd_true, grd_true, T.get_same, T.get_other, ↓evO_tmp, ↓grd_blt, grd_blt, ↓evO_const, ofValue, Nat.add_zero, Nat.zero_add, Nat.reduceAdd, ↓ev_bin, ↓binCV_eq, binCV_eq, binR, ↓ldK1_ptr, ↓ldB1_cells, ↓ldKn_ptr, ↓ldBn_cells, ↓read3, read3, ↓read5, read5, List.length_cons, List.length_nil, newB, cellsT_cons, cellsT_nil, ↓ptrK_ptr, ↓fa26_0, ↓ld23, ↓g0, g0, ↓c1, c1]
      exact rfl
    refine CG.cond_true (fun k => by simp (maxSteps := 2000000) (disch := first | decide | omega | rfl) only [evO_tmp, optK_some, T.get_same, T.get_other] <;> rfl) ?_
    refine CG.seq ?_
    apply CG.reg
    · intro k
      simp (maxSteps := 2000000) (disch := first | decide | omega | rfl) only [s4_3, ↓runS_op, ↓runS_nil, ↓optK_some, optK_some, ↓putT_some, ↓grd_true, grd_true, T.get_same, T.get_other, ↓evO_tmp, ↓grd_blt, grd_blt, ↓evO_const, ofValue, ↓putT_none, Nat.add_zero, Nat.zero_add, Nat.reduceAdd, ↓ev_assign, ↓ptrOf_ptr, ↓stK_eq, ↓stB_cells, ↓grd_beq, grd_beq, ↓grd_ble, grd_ble, Bool.true_and, Bool.and_true, cells_int, cells_bool, cells_agg, cells_slice, cells_nilslice, cells_fn, cells_nilfn, cells_ptr, List.length_cons, List.length_nil, newB, cellsT_cons, cellsT_nil, ↓fillS_nil, ↓fillS_cons, ↓fill1_0, fill1_0, ↓fill1_1, fill1_1, ↓fill1_2, fill1_2, ↓fill1_3, fill1_3, ↓fill1_4, fill1_4, ↓fill1_5, fill1_5, ↓fill1_6, fill1_6, ↓fill1_7, fill1_7, ↓fill3_0, fill3_0, ↓fill3_3, fill3_3, ↓fill3_6, fill3_6, ↓st29, pl29_0, pl29_1, pl29_2, pl29_3, pl29_4, ↓bd29a, ↓bd29b, ↓bd29c, ↓bd29_0, ↓g1, g1]
      exact rfl
    refine CG.ret ?_
    refine ⟨_, _, _, ⟨⟨_, _, rfl, ⟨_, _, _, _, _, rfl, ?_⟩⟩, ?_⟩, fun k => by simp (disch := first | decide | omega) only [finK_ret, resultsK_tmp, resultsK_nil, rc29, rc38, rc47, resP_ptr, ldKn_ptr, ldBn_cells, read3, read5, read8, newB, cellsT_cons, cellsT_nil, Nat.zero_add, Nat.reduceAdd, retK_one, retK_two, retK_nil, optK_some, T.get_same, T.get_other] <;> rfl⟩
    · omega
    · exact (hX.new.set (by omega)).set (by omega)
  | false =>
    apply CG.reg
    · intro k
      simp (maxSteps := 2000000) (disch := first | decide | omega | rfl) only [s4_2, ↓runS_op, ↓runS_nil, ↓optK_some, optK_some, ↓putT_some, ↓grd_true, grd_true, T.get_same, T.get_other, ↓evO_tmp, ↓grd_blt, grd_blt, ↓evO_const, ofValue, Nat.add_zero, Nat.zero_add, Nat.reduceAdd, ↓ev_bin, ↓binCV_eq, binCV_eq, binR, ↓ldK1_ptr, ↓ldB1_cells, ↓ldKn_ptr, ↓ldBn_cells, ↓read3, read3, ↓read5, read5, List.length_cons, List.length_nil, newB, cellsT_cons, cellsT_nil, ↓ptrK_ptr, ↓fa26_0, ↓ld23, ↓g0, g0, ↓c1, c1]
      exact rfl
    refine CG.cond_false (fun k => by simp (maxSteps := 2000000) (disch := first | decide | omega | rfl) only [evO_tmp, optK_some, T.get_same, T.get_other] <;> rfl) ?_
    refine CG.skip ?_
    have hn8 : n < 8 := by have := of_decide_eq_false c1; omega
    refine CG.seq ?_
    have hXn : Ext h2 (nx + 1 + 1) ((H.set NX (newB [.nilfn, .nilfn, .nilfn, .nilfn, .nilfn, .nilfn, .nilfn, .nilfn])).set NX (.cells 8 (cellsT (rdL (nx + 1 + 1)) 0 (cellsT [.nilfn, .nilfn, .nilfn, .nilfn, .nilfn, .nilfn, .nilfn, .nilfn] 0 .nil)) true)) (NX + 1) := hx.new.set (by omega)
    have hq4 : ∀ c, c < NX → ((H.set NX (newB [.nilfn, .nilfn, .nilfn, .nilfn, .nilfn, .nilfn, .nilfn, .nilfn])).set NX (.cells 8 (cellsT (rdL (nx + 1 + 1)) 0 (cellsT [.nilfn, .nilfn, .nilfn, .nilfn, .nilfn, .nilfn, .nilfn, .nilfn] 0 .nil)) true)).get c = H.get c := fun c hc => by rw [T.get_other _ _ (by omega), T.get_other _ _ (by omega)]
    obtain ⟨fv, hfv, hrd⟩ := rd_at (β := β) d a0 a1 a2 (nx := NX + 1) (m := nx + 1 + 1) (by omega) (by rw [hq4 _ (by omega)]; exact h4) (by rw [hq4 _ (by omega)]; exact h5) (by rw [hq4 _ (by omega)]; exact h6) n hn8
    have hcs : (cellsT (rdL (nx + 1 + 1)) 0 (cellsT [.nilfn, .nilfn, .nilfn, .nilfn, .nilfn, .nilfn, .nilfn, .nilfn] 0 .nil)).get n = some fv := by
      rw [cellsT_get, if_pos ⟨by omega, by simp [rdL]; omega⟩, Nat.sub_zero]; exact hfv
    have hXX := hA0.trans hXn
    clear hfv hXn hq4
    simp only [rdL, newB, cellsT_cons, cellsT_nil, Nat.zero_add, Nat.reduceAdd, List.length_cons, List.length_nil] at hcs hrd hXX
    apply CG.reg
    · intro k
      simp (maxSteps := 2000000) (disch := first | decide | omega | rfl) only [s4_4, ↓runS_op, ↓runS_nil, ↓optK_some, optK_some, ↓putT_some, ↓grd_true, grd_true, T.get_same, T.get_other, ↓evO_tmp, ↓grd_blt, grd_blt, Nat.add_zero, Nat.zero_add, Nat.reduceAdd, ↓ev_assign, ↓ldK1_ptr, ↓ldB1_cells, ↓ldKn_ptr, ↓ldBn_cells, ↓read3, read3, ↓read5, read5, List.length_cons, List.length_nil, newB, cellsT_cons, cellsT_nil, ↓natOf_nat, natOf_nat, ↓natOf_0, natOf_0, ↓natOf_1, natOf_1, ↓natOf_2, natOf_2, ↓ixK_sl, ixK_sl, ↓ixK_ar, ixK_ar, Nat.zero_mul, Nat.one_mul, Nat.mul_one, Nat.reduceMul, ↓ptrK_ptr, ↓fa26_0, ↓ld23, ↓ld46, ↓ix47, ↓g0, g0, ↓hcs, hcs]
      exact rfl
    refine CG.seq ?_
    refine CG.seq ?_
    rcases hrd with rfl | ⟨f, fa, fb, rfl, hcall⟩
    · skip
      apply CG.reg
      · intro k
        simp (maxSteps := 2000000) (disch := first | decide | omega | rfl) only [s4_5, ↓runS_op, ↓runS_nil, ↓optK_some, optK_some, ↓putT_some, ↓grd_true, grd_true, T.get_same, T.get_other, ↓evO_tmp, ↓grd_blt, grd_blt, ↓evO_const, ofValue, ↓ev_move, ↓ev_bin, ↓binCV_eq, binCV_eq, binR, ↓eqf_nil, eqf_nil]
        exact rfl
      refine CG.cond_true (fun k => by simp (maxSteps := 2000000) (disch := first | decide | omega | rfl) only [evO_tmp, optK_some, T.get_same, T.get_other] <;> rfl) ?_
      refine CG.seq ?_
      apply CG.reg
      · intro k
        simp (maxSteps := 2000000) (disch := first | decide | omega | rfl) only [s4_6, ↓runS_op, ↓runS_nil, ↓optK_some, optK_some, ↓putT_some, ↓grd_true, grd_true, T.get_same, T.get_other, ↓evO_tmp, ↓grd_blt, grd_blt, ↓evO_const, ofValue, ↓putT_none, Nat.add_zero, Nat.zero_add, Nat.reduceAdd, ↓ev_assign, ↓ptrOf_ptr, ↓stK_eq, ↓stB_cells, ↓grd_beq, grd_beq, ↓grd_ble, grd_ble, Bool.true_and, Bool.and_true, cells_int, cells_bool, cells_agg, cells_slice, cells_nilslice, cells_fn, cells_nilfn, cells_ptr, List.length_cons, List.length_nil, newB, cellsT_cons, cellsT_nil, ↓fillS_nil, ↓fillS_cons, ↓fill1_0, fill1_0, ↓fill1_1, fill1_1, ↓fill1_2, fill1_2, ↓fill1_3, fill1_3, ↓fill1_4, fill1_4, ↓fill1_5, fill1_5, ↓fill1_6, fill1_6, ↓fill1_7, fill1_7, ↓fill3_0, fill3_0, ↓fill3_3, fill3_3, ↓fill3_6, fill3_6, ↓st29, pl29_0, pl29_1, pl29_2, pl29_3, pl29_4, ↓bd29a, ↓bd29b, ↓bd29c, ↓bd29_0, ↓g1, g1]
        exact rfl
      refine CG.ret ?_
      refine ⟨_, _, _, ⟨⟨_, _, rfl, ⟨_, _, _, _, _, rfl, ?_⟩⟩, ?_⟩, fun k => by simp (disch := first | decide | omega) only [finK_ret, resultsK_tmp, resultsK_nil, rc29, rc38, rc47, resP_ptr, ldKn_ptr, ldBn_cells, read3, read5, read8, newB, cellsT_cons, cellsT_nil, Nat.zero_add, Nat.reduceAdd, retK_one, retK_two, retK_nil, optK_some, T.get_same, T.get_other] <;> rfl⟩
      · omega
      · exact hXX.set (by omega)
    · skip
      apply CG.reg
      · intro k
        simp (maxSteps := 2000000) (disch := first | decide | omega | rfl) only [s4_5, ↓runS_op, ↓runS_nil, ↓optK_some, optK_some, ↓putT_some, ↓grd_true, grd_true, T.get_same, T.get_other, ↓evO_tmp, ↓grd_blt, grd_blt, ↓evO_const, ofValue, ↓ev_move, ↓ev_bin, ↓binCV_eq, binCV_eq, binR, ↓eqf_fn, eqf_fn]
        exact rfl
      refine CG.cond_false (fun k => by simp (maxSteps := 2000000) (disch := first | decide | omega | rfl) only [evO_tmp, optK_some, T.get_same, T.get_other] <;> rfl) ?_
      refine CG.skip ?_
      refine CG.seq ?_
      obtain ⟨u, q, H3, NX3, ⟨kd, fi, co, wr, pc, rfl, hbd⟩, hx3, e3⟩ := hcall _ _ (.refl _ _)
      rw [← hc] at e3
      have hle3 := hx3.le
      have g13 : H3.get (nx + 1) = some (.cells 5 (((((T.nil.set 0 (.int .i8 0)).set 1 (.int .u64 0)).set 2 (.int .i64 0)).set 3 (.bool false)).set 4 (.int .i64 0)) true) := by
        rw [hx3.get _ (by omega), T.get_other _ _ (by omega), T.get_other _ _ (by omega)]; exact g1
      have hall := hXX.trans hx3
      rw [s4_7_eq]
      apply CG.regs
      · intro k
        simp (maxSteps := 2000000) (disch := first | decide | omega | rfl) only [s4_7_0, ↓runS_op, ↓runS_nil, ↓optK_some, optK_some, ↓putT_some, ↓grd_true, grd_true, T.get_same, T.get_other, ↓evO_tmp, ↓grd_blt, grd_blt, Nat.add_zero, Nat.zero_add, Nat.reduceAdd, ↓ev_move, ↓ev_extract, List.getElem?_cons_zero, List.getElem?_cons_succ, ↓ev_call, ↓evOs_cons, ↓evOs_nil, ↓notMap_fn, notMap_fn, ↓evO_func, ↓ldK1_ptr, ↓ldB1_cells, ↓ldKn_ptr, ↓ldBn_cells, ↓read3, read3, ↓read5, read5, List.length_cons, List.length_nil, newB, cellsT_cons, cellsT_nil, ↓ptrK_ptr, ↓fa26_1, ↓ld24, ↓g0, g0, ↓e3, e3]
        exact rfl
      apply CG.reg
      · intro k
        simp (maxSteps := 2000000) (disch := first | decide | omega | rfl) only [s4_7_1, ↓runS_op, ↓runS_nil, ↓optK_some, optK_some, ↓putT_some, ↓grd_true, grd_true, T.get_same, T.get_other, ↓evO_tmp, ↓grd_blt, grd_blt, ↓putT_none, Nat.add_zero, Nat.zero_add, Nat.reduceAdd, ↓ev_assign, ↓ev_extract, List.getElem?_cons_zero, List.getElem?_cons_succ, ↓ptrOf_ptr, ↓stK_eq, ↓stB_cells, ↓grd_beq, grd_beq, ↓grd_ble, grd_ble, Bool.true_and, Bool.and_true, cells_int, cells_bool, cells_agg, cells_slice, cells_nilslice, cells_fn, cells_nilfn, cells_ptr, List.length_cons, List.length_nil, newB, cellsT_cons, cellsT_nil, ↓st29, ↓al29, ↓g0, g0, ↓e3, e3]
        exact rfl
      refine CG.seq ?_
      cases q with
      | false =>
        refine CG.seq ?_
        apply CG.reg
        · intro k
          simp (maxSteps := 2000000) (disch := first | decide | omega | rfl) only [s4_8, ↓runS_op, ↓runS_nil, ↓optK_some, optK_some, ↓putT_some, ↓grd_true, grd_true, T.get_same, T.get_other, ↓evO_tmp, ↓grd_blt, grd_blt, ↓ev_move, ↓ev_not, Bool.not_true, Bool.not_false]
          exact rfl
        refine CG.cond_true (fun k => by simp (maxSteps := 2000000) (disch := first | decide | omega | rfl) only [evO_tmp, optK_some, T.get_same, T.get_other] <;> rfl) ?_
        refine CG.seq ?_
        apply CG.reg
        · intro k
          simp (maxSteps := 2000000) (disch := first | decide | omega | rfl) only [s4_9, ↓runS_op, ↓runS_nil, ↓optK_some, optK_some, ↓putT_some, ↓grd_true, grd_true, T.get_same, T.get_other, ↓evO_tmp, ↓grd_blt, grd_blt, ↓evO_const, ofValue, ↓putT_none, Nat.add_zero, Nat.zero_add, Nat.reduceAdd, ↓ev_assign, ↓ptrOf_ptr, ↓stK_eq, ↓stB_cells, ↓grd_beq, grd_beq, ↓grd_ble, grd_ble, Bool.true_and, Bool.and_true, cells_int, cells_bool, cells_agg, cells_slice, cells_nilslice, cells_fn, cells_nilfn, cells_ptr, List.length_cons, List.length_nil, newB, cellsT_cons, cellsT_nil, ↓fillS_nil, ↓fillS_cons, ↓fill1_0, fill1_0, ↓fill1_1, fill1_1, ↓fill1_2, fill1_2, ↓fill1_3, fill1_3, ↓fill1_4, fill1_4, ↓fill1_5, fill1_5, ↓fill1_6, fill1_6, ↓fill1_7, fill1_7, ↓fill3_0, fill3_0, ↓fill3_3, fill3_3, ↓fill3_6, fill3_6, ↓st29, pl29_0, pl29_1, pl29_2, pl29_3, pl29_4, ↓bd29a, ↓bd29b, ↓bd29c, ↓bd29_0, ↓g13, g13]
          exact rfl
        refine CG.ret ?_
        refine ⟨_, _, _, ⟨⟨_, _, rfl, ⟨_, _, _, _, _, rfl, ?_⟩⟩, ?_⟩, fun k => by simp (disch := first | decide | omega) only [finK_ret, resultsK_tmp, resultsK_nil, rc29, rc38, rc47, resP_ptr, ldKn_ptr, ldBn_cells, read3, read5, read8, newB, cellsT_cons, cellsT_nil, Nat.zero_add, Nat.reduceAdd, retK_one, retK_two, retK_nil, optK_some, T.get_same, T.get_other] <;> rfl⟩
        · omega
        · exact (hall.new.set (by omega)).set (by omega)
      | true =>
        refine CG.seq ?_
        apply CG.reg
        · intro k
          simp (maxSteps := 2000000) (disch := first | decide | omega | rfl) only [s4_8, ↓runS_op, ↓runS_nil, ↓optK_some, optK_some, ↓putT_some, ↓grd_true, grd_true, T.get_same, T.get_other, ↓evO_tmp, ↓grd_blt, grd_blt, ↓ev_move, ↓ev_not, Bool.not_true, Bool.not_false]
          exact rfl
        refine CG.cond_false (fun k => by simp (maxSteps := 2000000) (disch := first | decide | omega | rfl) only [evO_tmp, optK_some, T.get_same, T.get_other] <;> rfl) ?_
        refine CG.skip ?_
        refine CG.seq ?_
        apply CG.reg
        · intro k
          simp (maxSteps := 2000000) (disch := first | decide | omega | rfl) only [s4_10, ↓runS_op, ↓runS_nil, ↓optK_some, optK_some, ↓putT_some, ↓grd_true, grd_true, T.get_same, T.get_other, ↓evO_tmp, ↓grd_blt, grd_blt, ↓evO_const, ofValue, ↓putT_none, Nat.add_zero, Nat.zero_add, Nat.reduceAdd, ↓ev_assign, ↓ldK1_ptr, ↓ldB1_cells, ↓ldKn_ptr, ↓ldBn_cells, ↓read3, read3, ↓read5, read5, List.length_cons, List.length_nil, newB, cellsT_cons, cellsT_nil, ↓ptrOf_ptr, ↓stK_eq, ↓stB_cells, ↓grd_beq, grd_beq, ↓grd_ble, grd_ble, Bool.true_and, Bool.and_true, cells_int, cells_bool, cells_agg, cells_slice, cells_nilslice, cells_fn, cells_nilfn, cells_ptr, ↓ld29, ↓st29, ↓g13, g13]
          exact rfl
        refine CG.ret ?_
        refine ⟨_, _, _, ⟨⟨_, _, rfl, ⟨_, _, _, _, _, rfl, hbd⟩⟩, ?_⟩, fun k => by simp (disch := first | decide | omega) only [finK_ret, resultsK_tmp, resultsK_nil, rc29, rc38, rc47, resP_ptr, ldKn_ptr, ldBn_cells, read3, read5, read8, newB, cellsT_cons, cellsT_nil, Nat.zero_add, Nat.reduceAdd, retK_one, retK_two, retK_nil, optK_some, T.get_same, T.get_other] <;> rfl⟩
        exact (hall.new.set (by omega)).set (by omega)
end Go.Proofs.YthdoelcgdgcncaaGreatDoor
/- Walks: slices.IndexFunc at 'Count == 0'. -/
namespace Go.Proofs.YthdoelcgdgcncaaGreatDoor
open Go Go.Can
variable {β : Type}

theorem zero_eq (d : Nat) (r : Rg) (h : T Blk) (nx : Nat) (k : K β) :
    callN tab (d + 1) (.fn 57 [] []) [.agg [.int .u64 r.a, .int .i64 r.c, .bool r.w]] h nx k = k (.bool (decide (r.c = 0))) (h.set nx (newB [.int .u64 r.a, .int .i64 r.c, .bool r.w])) (nx + 1) := by
  have H : FG (β := β) tab (d + 1) 57 [.agg [.int .u64 r.a, .int .i64 r.c, .bool r.w]] h nx fun v h' nx' => v = .bool (decide (r.c = 0)) ∧ h' = h.set nx (newB [.int .u64 r.a, .int .i64 r.c, .bool r.w]) ∧ nx' = nx + 1 := by
    refine FG.of (fn := Tryz.f57) (c := c57) (n := 6) (rs := [.tmp 2]) (by kernel_rfl) (by kernel_rfl) (by kernel_rfl) c57_ok rfl rfl (by simp) fun call hc => ?_
    simp only [cellsT_cons, cellsT_nil, Nat.zero_add, Nat.reduceAdd]
    unfold c57
    refine CG.seq ?_
    apply CG.reg
    · intro k
      simp (maxSteps := 2000000) (disch := first | decide | omega | rfl) only [s57_0, ↓runS_op, ↓runS_nil, ↓optK_some, optK_some, ↓putT_some, ↓grd_true, grd_true, T.get_same, T.get_other, ↓evO_tmp, ↓grd_blt, grd_blt, ↓evO_const, ofValue, Nat.add_zero, Nat.zero_add, Nat.reduceAdd, ↓ev_assign, ↓ev_box1, ↓boxK_int, ↓boxK_bool, ↓boxK_rg, ↓boxK_a3, ↓boxK_a4, ↓boxK_slice, ↓boxK_nilslice, ↓boxK_fn, List.length_cons, List.length_nil, newB, cellsT_cons, cellsT_nil]
      exact rfl
    refine CG.seq ?_
    apply CG.reg
    · intro k
      simp (maxSteps := 2000000) (disch := first | decide | omega | rfl) only [s57_1, ↓runS_op, ↓runS_nil, ↓optK_some, optK_some, ↓putT_some, ↓grd_true, grd_true, T.get_same, T.get_other, ↓evO_tmp, ↓grd_blt, grd_blt, ↓evO_const, ofValue, Nat.add_zero, Nat.zero_add, Nat.reduceAdd, ↓ev_assign, ↓ev_bin, ↓binCV_eq, binCV_eq, binR, ↓ldK1_ptr, ↓ldB1_cells, ↓ldKn_ptr, ↓ldBn_cells, ↓read3, read3, ↓read5, read5, List.length_cons, List.length_nil, newB, cellsT_cons, cellsT_nil, ↓ptrK_ptr, ↓fa38_1, ↓ld3]
      exact rfl
    refine CG.ret ?_
    exact ⟨_, _, _, ⟨rfl, rfl, rfl⟩, fun k => by simp (disch := decide) only [finK_ret, resultsK_tmp, resultsK_nil, rc29, rc38, rc47, resP_ptr, ldKn_ptr, ldBn_cells, read3, read5, read8, newB, cellsT_cons, cellsT_nil, Nat.zero_add, Nat.reduceAdd, retK_one, retK_two, retK_nil, optK_some, T.get_same, T.get_other] <;> rfl⟩
  obtain ⟨_, _, _, ⟨rfl, rfl, rfl⟩, e⟩ := H
  exact e k

/-- the first region without pages; -1: there is none -/
def IdxQ (l : List Rg) (v : CV) : Prop := (v = .int .i64 (-1) ∧ ∀ r ∈ l, r.c ≠ 0) ∨ ∃ (i : Nat) (r : Rg), v = .int .i64 (i : Int) ∧ l[i]? = some r ∧ r.c = 0 ∧ ∀ (j : Nat) (s : Rg), j < i → l[j]? = some s → s.c ≠ 0

theorem index_ok (d : Nat) {v : CV} {l : List Rg} {h : T Blk} {nx : Nat} (hs : SlR h nx v l) (hl : l.length ≤ 1000) :
    FG (β := β) tab (d + 2) 85 [v, .fn 57 [] []] h nx fun v' h' nx' => IdxQ l v' ∧ Ext h nx h' nx' := by
  refine FG.of (fn := Tryz.f85) (c := c85) (n := 19) (rs := [.tmp 4]) (by kernel_rfl) (by kernel_rfl) (by kernel_rfl) c85_ok rfl rfl (by simp) fun call hc => ?_
  have hlen := fun tys h' nx' k => hs.len (β := β) tys h' nx' k
  obtain ⟨b, o, hel⟩ := hs.elem (β := β)
  simp only [cellsT_cons, cellsT_nil, Nat.zero_add, Nat.reduceAdd]
  unfold c85
  refine CG.seq ?_
  apply CG.reg
  · intro k
    simp (maxSteps := 2000000) (disch := first | decide | omega | rfl) only [s85_0, ↓runS_op, ↓runS_nil, ↓optK_some, optK_some, ↓putT_some, ↓grd_true, grd_true, T.get_same, T.get_other, ↓evO_tmp, ↓grd_blt, grd_blt, ↓evO_const, ofValue, ↓ev_assign]
    exact rfl
  refine CG.seq ?_
  refine CG.seq ?_
  apply CG.reg
  · intro k
    simp (maxSteps := 2000000) (disch := first | decide | omega | rfl) only [s85_1, ↓runS_op, ↓runS_nil, ↓optK_some, optK_some, ↓putT_some, ↓grd_true, grd_true, T.get_same, T.get_other, ↓evO_tmp, ↓grd_blt, grd_blt, ↓evO_const, ofValue, ↓ev_move, ↓ev_builtin, ↓evOs_cons, ↓evOs_nil, ↓ln22, ln22, ↓lz22, lz22, ↓ln116, ln116, ↓lz116, lz116, ↓hlen, hlen]
    exact rfl
  refine CG.block ?_
  refine CG.loop (fun m t h' nx' => ∃ i : Nat, i ≤ l.length ∧ m = l.length - i ∧ (∀ (j : Nat) (r : Rg), j < i → l[j]? = some r → r.c ≠ 0) ∧ t.get 0 = some v ∧ t.get 1 = some (.fn 57 [] []) ∧ t.get 7 = some (.int .i64 (l.length : Int)) ∧ t.get 8 = some (.int .i64 (i : Int)) ∧ Ext h nx h' nx') ?_ (m := l.length) (by omega) ?_
  rotate_left
  · exact ⟨0, by omega, by omega, fun j r hj => by omega, by simp (maxSteps := 2000000) (disch := first | decide | omega | rfl) only [T.get_same, T.get_other] <;> rfl, by simp (maxSteps := 2000000) (disch := first | decide | omega | rfl) only [T.get_same, T.get_other] <;> rfl, by simp (maxSteps := 2000000) (disch := first | decide | omega | rfl) only [T.get_same, T.get_other] <;> rfl, by simp (maxSteps := 2000000) (disch := first | decide | omega | rfl) only [T.get_same, T.get_other] <;> rfl, .refl _ _⟩
  rintro m t h' nx' ⟨i, hi, rfl, hall, e0, e1, e7, e8, hx⟩
  refine CG.seq ?_
  by_cases hend : i = l.length
  · subst hend
    have c1 : decide ((l.length : Int) < (l.length : Int)) = false := by simp
    apply CG.reg
    · intro k
      simp (maxSteps := 2000000) (disch := first | decide | omega | rfl) only [s85_2, ↓runS_op, ↓runS_nil, ↓optK_some, optK_some, ↓putT_some, ↓grd_true, grd_true, T.get_same, T.get_other, ↓evO_tmp, ↓grd_blt, grd_blt, ↓ev_bin, ↓binCV_eq, binCV_eq, binR, ↓e7, e7, ↓e8, e8, ↓c1, c1]
      exact rfl
    refine CG.seq ?_
    refine CG.cond_false (fun k => by simp (maxSteps := 2000000) (disch := first | decide | omega | rfl) only [evO_tmp, optK_some, T.get_same, T.get_other] <;> rfl) ?_
    refine CG.exit ?_
    simp only [if_pos]
    refine CG.seq ?_
    apply CG.reg
    · intro k
      simp (maxSteps := 2000000) (disch := first | decide | omega | rfl) only [s85_7, ↓runS_op, ↓runS_nil, ↓optK_some, optK_some, ↓putT_some, ↓grd_true, grd_true, T.get_same, T.get_other, ↓evO_tmp, ↓grd_blt, grd_blt, ↓evO_const, ofValue, ↓ev_assign]
      exact rfl
    refine CG.ret ?_
    exact ⟨_, _, _, ⟨.inl ⟨rfl, fun r hr => by
      obtain ⟨j, hj⟩ := List.getElem?_of_mem hr
      exact hall j r (List.getElem?_eq_some_iff.1 hj).1 hj⟩, hx⟩, fun k => by simp (disch := decide) only [finK_ret, resultsK_tmp, resultsK_nil, rc29, rc38, rc47, resP_ptr, ldKn_ptr, ldBn_cells, read3, read5, read8, newB, cellsT_cons, cellsT_nil, Nat.zero_add, Nat.reduceAdd, retK_one, retK_two, retK_nil, optK_some, T.get_same, T.get_other] <;> rfl⟩
  · have hlt : i < l.length := by omega
    obtain ⟨r, hri⟩ : ∃ r, l[i]? = some r := ⟨l[i], List.getElem?_eq_getElem hlt⟩
    obtain ⟨hb, hix, n, cs, rw, hbk, g0, g1, g2⟩ := hel i r hri
    have hb' : h'.get b = some (.cells n cs rw) := by rw [hx.get b hb]; exact hbk
    have hle := hx.le
    have ez := zero_eq (β := β) d r
    rw [← hc] at ez
    simp only [newB, cellsT_cons, cellsT_nil, Nat.zero_add, Nat.reduceAdd, List.length_cons, List.length_nil] at ez
    have c1 : decide ((i : Int) < (l.length : Int)) = true := by simp; omega
    apply CG.reg
    · intro k
      simp (maxSteps := 2000000) (disch := first | decide | omega | rfl) only [s85_2, ↓runS_op, ↓runS_nil, ↓optK_some, optK_some, ↓putT_some, ↓grd_true, grd_true, T.get_same, T.get_other, ↓evO_tmp, ↓grd_blt, grd_blt, ↓ev_bin, ↓binCV_eq, binCV_eq, binR, ↓e7, e7, ↓e8, e8, ↓c1, c1]
      exact rfl
    refine CG.seq ?_
    refine CG.cond_true (fun k => by simp (maxSteps := 2000000) (disch := first | decide | omega | rfl) only [evO_tmp, optK_some, T.get_same, T.get_other] <;> rfl) ?_
    refine CG.skip ?_
    refine CG.seq ?_
    refine CG.block ?_
    refine CG.seq ?_
    apply CG.reg
    · intro k
      simp (maxSteps := 2000000) (disch := first | decide | omega | rfl) only [s85_3, ↓runS_op, ↓runS_nil, ↓optK_some, optK_some, ↓putT_some, ↓grd_true, grd_true, T.get_same, T.get_other, ↓evO_tmp, ↓grd_blt, grd_blt, ↓ev_move, ↓ev_assign, ↓e8, e8]
      exact rfl
    refine CG.seq ?_
    by_cases hz : r.c = 0
    · have c2 : decide (r.c = 0) = true := by simp [hz]
      apply CG.reg
      · intro k
        simp (maxSteps := 2000000) (disch := first | decide | omega | rfl) only [s85_4, ↓runS_op, ↓runS_nil, ↓optK_some, optK_some, ↓putT_some, ↓grd_true, grd_true, T.get_same, T.get_other, ↓evO_tmp, ↓grd_blt, grd_blt, Nat.add_zero, Nat.zero_add, Nat.reduceAdd, ↓ev_move, ↓ev_call, ↓evOs_cons, ↓evOs_nil, ↓notMap_fn, notMap_fn, ↓evO_func, List.getElem?_cons_zero, List.getElem?_cons_succ, ↓ldK1_ptr, ↓ldB1_cells, ↓ldKn_ptr, ↓ldBn_cells, ↓read3, read3, ↓read5, read5, List.length_cons, List.length_nil, newB, cellsT_cons, cellsT_nil, ↓natOf_nat, natOf_nat, ↓natOf_0, natOf_0, ↓natOf_1, natOf_1, ↓natOf_2, natOf_2, ↓ixK_sl, ixK_sl, ↓ixK_ar, ixK_ar, Nat.zero_mul, Nat.one_mul, Nat.mul_one, Nat.reduceMul, ↓ld38, ↓ix22, ↓e0, e0, ↓e1, e1, ↓hix, hix, hb', ↓g0, g0, ↓g1, g1, ↓g2, g2, ↓ez, ez, ↓c2, c2]
        exact rfl
      refine CG.cond_true (fun k => by simp (maxSteps := 2000000) (disch := first | decide | omega | rfl) only [evO_tmp, optK_some, T.get_same, T.get_other] <;> rfl) ?_
      refine CG.seq ?_
      apply CG.reg
      · intro k
        simp (maxSteps := 2000000) (disch := first | decide | omega | rfl) only [s85_5, ↓runS_op, ↓runS_nil, ↓optK_some, optK_some, ↓putT_some, ↓grd_true, grd_true, T.get_same, T.get_other, ↓evO_tmp, ↓grd_blt, grd_blt, ↓ev_move, ↓ev_assign]
        exact rfl
      refine CG.ret ?_
      refine ⟨_, _, _, ⟨.inr ⟨i, r, rfl, hri, hz, hall⟩, ?_⟩, fun k => by simp (disch := decide) only [finK_ret, resultsK_tmp, resultsK_nil, rc29, rc38, rc47, resP_ptr, ldKn_ptr, ldBn_cells, read3, read5, read8, newB, cellsT_cons, cellsT_nil, Nat.zero_add, Nat.reduceAdd, retK_one, retK_two, retK_nil, optK_some, T.get_same, T.get_other] <;> rfl⟩
      exact hx.new
    · have c2 : decide (r.c = 0) = false := by simp [hz]
      apply CG.reg
      · intro k
        simp (maxSteps := 2000000) (disch := first | decide | omega | rfl) only [s85_4, ↓runS_op, ↓runS_nil, ↓optK_some, optK_some, ↓putT_some, ↓grd_true, grd_true, T.get_same, T.get_other, ↓evO_tmp, ↓grd_blt, grd_blt, Nat.add_zero, Nat.zero_add, Nat.reduceAdd, ↓ev_move, ↓ev_call, ↓evOs_cons, ↓evOs_nil, ↓notMap_fn, notMap_fn, ↓evO_func, List.getElem?_cons_zero, List.getElem?_cons_succ, ↓ldK1_ptr, ↓ldB1_cells, ↓ldKn_ptr, ↓ldBn_cells, ↓read3, read3, ↓read5, read5, List.length_cons, List.length_nil, newB, cellsT_cons, cellsT_nil, ↓natOf_nat, natOf_nat, ↓natOf_0, natOf_0, ↓natOf_1, natOf_1, ↓natOf_2, natOf_2, ↓ixK_sl, ixK_sl, ↓ixK_ar, ixK_ar, Nat.zero_mul, Nat.one_mul, Nat.mul_one, Nat.reduceMul, ↓ld38, ↓ix22, ↓e0, e0, ↓e1, e1, ↓hix, hix, hb', ↓g0, g0, ↓g1, g1, ↓g2, g2, ↓ez, ez, ↓c2, c2]
        exact rfl
      refine CG.cond_false (fun k => by simp (maxSteps := 2000000) (disch := first | decide | omega | rfl) only [evO_tmp, optK_some, T.get_same, T.get_other] <;> rfl) ?_
      refine CG.skip ?_
      have w2 : IntKind.i64.wrap ((i : Int) + 1) = ((i + 1 : Nat) : Int) := by rw [wrap_i64 (by omega) (by omega)]; omega
      apply CG.reg
      · intro k
        simp (maxSteps := 2000000) (disch := first | decide | omega | rfl) only [s85_6, ↓runS_op, ↓runS_nil, ↓optK_some, optK_some, ↓putT_some, ↓grd_true, grd_true, T.get_same, T.get_other, ↓evO_tmp, ↓grd_blt, grd_blt, ↓evO_const, ofValue, ↓ev_move, ↓ev_bin, ↓binCV_eq, binCV_eq, binR, ↓e8, e8, ↓w2, w2]
        exact rfl
      refine ⟨l.length - (i + 1), by omega, i + 1, by omega, rfl, fun j s hj hs' => ?_, by simp (maxSteps := 2000000) (disch := first | decide | omega | rfl) only [e0, T.get_same, T.get_other] <;> rfl, by simp (maxSteps := 2000000) (disch := first | decide | omega | rfl) only [e1, T.get_same, T.get_other] <;> rfl, by simp (maxSteps := 2000000) (disch := first | decide | omega | rfl) only [e7, T.get_same, T.get_other] <;> rfl, by simp (maxSteps := 2000000) (disch := first | decide | omega | rfl) only [T.get_same, T.get_other] <;> rfl, hx.new⟩
      rcases Nat.lt_succ_iff_lt_or_eq.1 hj with hj | rfl
      · exact hall j s hj hs'
      · rw [hri] at hs'; cases hs'; exact hz
end Go.Proofs.YthdoelcgdgcncaaGreatDoor
