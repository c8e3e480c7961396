/- Walks through the functions, by the evaluator's rules. -/
import Derived.Test.YthdoelcgdgcncaaGreatDoorFacts
import Derived.Test.YthdoelcgdgcncaaGreatDoorCode
set_option maxRecDepth 100000
set_option maxHeartbeats 4000000
set_option linter.unusedVariables false
set_option linter.unusedSimpArgs false
namespace Go.Proofs.YthdoelcgdgcncaaGreatDoor
open Go Go.Can
variable {β : Type}

theorem wrap_u64 {n : Int} (h0 : 0 ≤ n) (h1 : n < 18446744073709551616) : IntKind.u64.wrap n = n := by simp [IntKind.wrap, IntKind.bits, IntKind.signed]; omega
theorem wrap_i64 {n : Int} (h0 : -9223372036854775808 ≤ n) (h1 : n < 9223372036854775808) : IntKind.i64.wrap n = n := by simp [IntKind.wrap, IntKind.bits, IntKind.signed]; omega

/-- may a stretch be? -/
def okE (x c : Int) : Bool := decide (1 ≤ c ∧ c ≤ 34359738368 ∧ x + c ≤ 34359738368)

theorem end_ok (d : Nat) (x c : Int) (h : T Blk) (nx : Nat) (hx0 : 0 ≤ x) (hx1 : x < 18446744073709551616) (hc0 : -9223372036854775808 ≤ c) (hc1 : c < 9223372036854775808) :
    FG (β := β) tab (d + 1) 13 [.int .u64 x, .int .i64 c] h nx fun v h' nx' => v = .tup [.int .u64 (if okE x c then x + c else 0), .bool (okE x c)] ∧ h' = h ∧ nx' = nx := by
  refine FG.of (fn := Tryz.f13) (c := c13) (n := 22) (rs := [.tmp 4, .tmp 5]) (by kernel_rfl) (by kernel_rfl) (by kernel_rfl) c13_ok rfl rfl (by simp) fun call hc => ?_
  simp only [cellsT_cons, cellsT_nil, Nat.zero_add, Nat.reduceAdd]
  unfold c13
  refine CG.seq ?_
  apply CG.reg
  · intro k
    simp (maxSteps := 2000000) (disch := first | decide | omega | rfl) only [s13_0, ↓runS_op, ↓runS_nil, ↓optK_some, optK_some, ↓putT_some, ↓grd_true, grd_true, T.get_same, T.get_other, ↓evO_tmp, ↓grd_blt, grd_blt, ↓evO_const, ofValue, ↓ev_assign]
    exact rfl
  refine CG.seq ?_
  refine CG.seq ?_
  by_cases ha : c < 1
  · have c1 : decide (c < 1) = true := by simp; omega
    apply CG.reg
    · intro k
      simp (maxSteps := 2000000) (disch := first | decide | omega | rfl) only [s13_1, ↓runS_op, ↓runS_nil, ↓optK_some, optK_some, ↓putT_some, ↓grd_true, grd_true, T.get_same, T.get_other, ↓evO_tmp, ↓grd_blt, grd_blt, ↓runS_if, ↓wantS_tt, wantS_tt, ↓wantS_tf, wantS_tf, ↓wantS_ft, wantS_ft, ↓wantS_ff, wantS_ff, ↓evO_const, ofValue, ↓ev_move, ↓ev_bin, ↓binCV_eq, binCV_eq, binR, ↓ev_pick, ↓pickK_true, pickK_true, ↓pickK_false, pickK_false, ↓convK_int, convK_int, ↓cn3_23, ↓c1, c1]
      exact rfl
    refine CG.cond_true (fun k => by simp (maxSteps := 2000000) (disch := first | decide | omega | rfl) only [↓runS_op, runS_op, ↓runS_if, runS_if, ↓runS_nil, runS_nil, ↓ev_assign, ev_assign, ↓ev_move, ev_move, ↓ev_bin, ev_bin, ↓ev_pick, ev_pick, ↓ev_not, ev_not, ↓ev_extract, ev_extract, ↓ev_call, ev_call, ↓ev_builtin, ev_builtin, ↓ev_box1, ev_box1, ↓boxK_int, boxK_int, ↓boxK_bool, boxK_bool, ↓boxK_rg, boxK_rg, ↓boxK_a3, boxK_a3, ↓boxK_a4, boxK_a4, ↓boxK_slice, boxK_slice, ↓boxK_nilslice, boxK_nilslice, ↓boxK_fn, boxK_fn, ↓evO_const, evO_const, ↓evO_tmp, evO_tmp, ↓evO_func, evO_func, ↓evOs_cons, evOs_cons, ↓evOs_nil, evOs_nil, ofValue, ↓optK_some, optK_some, ↓putT_some, putT_some, ↓putT_none, putT_none, ↓grd_true, grd_true, T.get_same, T.get_other, ↓binCV_eq, binCV_eq, binR, ↓wantS_tt, wantS_tt, ↓wantS_tf, wantS_tf, ↓wantS_ft, wantS_ft, ↓wantS_ff, wantS_ff, ↓pickK_true, pickK_true, ↓pickK_false, pickK_false, ↓convK_int, convK_int, ↓ptrK_ptr, ptrK_ptr, ↓ldK1_ptr, ldK1_ptr, ↓ldB1_cells, ldB1_cells, ↓ldKn_ptr, ldKn_ptr, ↓ldBn_cells, ldBn_cells, ↓read3, read3, ↓read5, read5, newB, cellsT_cons, cellsT_nil, ↓ptrOf_ptr, ptrOf_ptr, ↓stK_eq, stK_eq, ↓stB_cells, stB_cells, ↓ixK_sl, ixK_sl, ↓ixK_ar, ixK_ar, ↓natOf_nat, natOf_nat, ↓natOf_0, natOf_0, ↓natOf_1, natOf_1, ↓natOf_2, natOf_2, cells_int, cells_bool, cells_agg, cells_slice, cells_nilslice, cells_fn, cells_nilfn, cells_ptr, ↓notMap_fn, notMap_fn, ↓newC0, newC0, ↓newC1, newC1, ↓newC2, newC2, ↓newR1, newR1, ↓newR2, newR2, ↓newR3, newR3, ↓grd_beq, grd_beq, ↓grd_blt, grd_blt, ↓grd_ble, grd_ble, ↓ev_mkfunc, ev_mkfunc, ↓newCells_eq1, newCells_eq1, ↓bi_max, bi_max, ↓bi_min, bi_min, Nat.zero_mul, Nat.one_mul, Nat.mul_one, Nat.reduceMul, List.length_cons, List.length_nil, List.getElem?_cons_zero, List.getElem?_cons_succ, Nat.add_zero, Nat.zero_add, Nat.reduceAdd, Bool.not_true, Bool.not_false, Bool.true_and, Bool.and_true, ↓fillS_nil, fillS_nil, ↓fillS_cons, fillS_cons, ↓fill1_0, fill1_0, ↓fill1_1, fill1_1, ↓fill1_2, fill1_2, ↓fill1_3, fill1_3, ↓fill1_4, fill1_4, ↓fill1_5, fill1_5, ↓fill1_6, fill1_6, ↓fill1_7, fill1_7, ↓fill3_0, fill3_0, ↓fill3_3, fill3_3, ↓fill3_6, fill3_6, ↓ld3, ld3, ↓ld4, ld4, ↓ld22, ld22, ↓ld23, ld23, ↓ld27, ld27, ↓ld34, ld34, ↓ld46, ld46, ↓ld80, ld80, ↓ld24, ld24, ↓ld26, ld26, ↓ld29, ld29, ↓ld38, ld38, ↓ld47, ld47, ↓st3, st3, ↓st4, st4, ↓st23, st23, ↓st24, st24, ↓st29, st29, ↓st38, st38, ↓st47, st47, ↓al23, al23, ↓al29, al29, ↓al38, al38, ↓al47, al47, ↓fa38_0, fa38_0, ↓fa38_1, fa38_1, ↓fa38_2, fa38_2, ↓fa29_0, fa29_0, ↓fa29_1, fa29_1, ↓fa29_2, fa29_2, ↓fa29_3, fa29_3, ↓fa29_4, fa29_4, ↓fa26_0, fa26_0, ↓fa26_1, fa26_1, ↓ix22, ix22, ↓ix24, ix24, ↓ix47, ix47, ↓ix116, ix116, ↓ln22, ln22, ↓lz22, lz22, ↓ln116, ln116, ↓lz116, lz116, ↓cn3_23, cn3_23, ↓cn23_3, cn23_3, ↓cn3_150, cn3_150, ↓cn150_3, cn150_3, pl38_0, pl38_1, pl38_2, pl29_0, pl29_1, pl29_2, pl29_3, pl29_4, pl24_0, pl24_1, pl24_2, pl47_0, pl47_1, pl47_2, pl47_3, pl47_4, pl47_5, pl47_6, pl47_7, pl22_0, pl22_1, pl22_2, pl116_0, pl116_1, ↓bd29a, bd29a, ↓bd29b, bd29b, ↓bd29c, bd29c, ↓bd38a, bd38a, ↓bd38_0, bd38_0, ↓bd29_0, bd29_0, ↓bd24, bd24, ↓bd47, bd47, ↓bs22_0, bs22_0, ↓bs22_1, bs22_1, ↓bs22_2, bs22_2, ↓bs22_3, bs22_3, ↓bs116_1, bs116_1, ↓bs116_2, bs116_2]) ?_
    refine CG.seq ?_
    apply CG.reg
    · intro k
      simp (maxSteps := 2000000) (disch := first | decide | omega | rfl) only [s13_2, ↓runS_op, ↓runS_nil, ↓optK_some, optK_some, ↓putT_some, ↓grd_true, grd_true, T.get_same, T.get_other, ↓evO_tmp, ↓grd_blt, grd_blt, ↓evO_const, ofValue, ↓ev_assign]
      exact rfl
    refine CG.ret ?_
    have ho : okE x c = false := by simp [okE]; omega
    exact ⟨_, _, _, ⟨rfl, rfl, rfl⟩, fun k => by simp (disch := decide) only [ho, finK_ret, resultsK_tmp, resultsK_nil, rc29, rc38, rc47, resP_ptr, ldKn_ptr, ldBn_cells, read3, read5, read8, newB, cellsT_cons, cellsT_nil, Nat.zero_add, Nat.reduceAdd, retK_one, retK_two, retK_nil, optK_some, T.get_same, T.get_other] <;> rfl⟩
  · have c1 : decide (c < 1) = false := by simp; omega
    have w1 : IntKind.u64.wrap c = c := wrap_u64 (by omega) (by omega)
    by_cases hb : 34359738368 < c
    · have c2 : decide (34359738368 < c) = true := by simp; omega
      apply CG.reg
      · intro k
        simp (maxSteps := 2000000) (disch := first | decide | omega | rfl) only [s13_1, ↓runS_op, ↓runS_nil, ↓optK_some, optK_some, ↓putT_some, ↓grd_true, grd_true, T.get_same, T.get_other, ↓evO_tmp, ↓grd_blt, grd_blt, ↓runS_if, ↓wantS_tt, wantS_tt, ↓wantS_tf, wantS_tf, ↓wantS_ft, wantS_ft, ↓wantS_ff, wantS_ff, ↓evO_const, ofValue, ↓ev_move, ↓ev_bin, ↓binCV_eq, binCV_eq, binR, ↓ev_pick, ↓pickK_true, pickK_true, ↓pickK_false, pickK_false, ↓convK_int, convK_int, ↓cn3_23, ↓c1, c1, ↓c2, c2, ↓w1, w1]
        exact rfl
      refine CG.cond_true (fun k => by simp (maxSteps := 2000000) (disch := first | decide | omega | rfl) only [↓runS_op, runS_op, ↓runS_if, runS_if, ↓runS_nil, runS_nil, ↓ev_assign, ev_assign, ↓ev_move, ev_move, ↓ev_bin, ev_bin, ↓ev_pick, ev_pick, ↓ev_not, ev_not, ↓ev_extract, ev_extract, ↓ev_call, ev_call, ↓ev_builtin, ev_builtin, ↓ev_box1, ev_box1, ↓boxK_int, boxK_int, ↓boxK_bool, boxK_bool, ↓boxK_rg, boxK_rg, ↓boxK_a3, boxK_a3, ↓boxK_a4, boxK_a4, ↓boxK_slice, boxK_slice, ↓boxK_nilslice, boxK_nilslice, ↓boxK_fn, boxK_fn, ↓evO_const, evO_const, ↓evO_tmp, evO_tmp, ↓evO_func, evO_func, ↓evOs_cons, evOs_cons, ↓evOs_nil, evOs_nil, ofValue, ↓optK_some, optK_some, ↓putT_some, putT_some, ↓putT_none, putT_none, ↓grd_true, grd_true, T.get_same, T.get_other, ↓binCV_eq, binCV_eq, binR, ↓wantS_tt, wantS_tt, ↓wantS_tf, wantS_tf, ↓wantS_ft, wantS_ft, ↓wantS_ff, wantS_ff, ↓pickK_true, pickK_true, ↓pickK_false, pickK_false, ↓convK_int, convK_int, ↓ptrK_ptr, ptrK_ptr, ↓ldK1_ptr, ldK1_ptr, ↓ldB1_cells, ldB1_cells, ↓ldKn_ptr, ldKn_ptr, ↓ldBn_cells, ldBn_cells, ↓read3, read3, ↓read5, read5, newB, cellsT_cons, cellsT_nil, ↓ptrOf_ptr, ptrOf_ptr, ↓stK_eq, stK_eq, ↓stB_cells, stB_cells, ↓ixK_sl, ixK_sl, ↓ixK_ar, ixK_ar, ↓natOf_nat, natOf_nat, ↓natOf_0, natOf_0, ↓natOf_1, natOf_1, ↓natOf_2, natOf_2, cells_int, cells_bool, cells_agg, cells_slice, cells_nilslice, cells_fn, cells_nilfn, cells_ptr, ↓notMap_fn, notMap_fn, ↓newC0, newC0, ↓newC1, newC1, ↓newC2, newC2, ↓newR1, newR1, ↓newR2, newR2, ↓newR3, newR3, ↓grd_beq, grd_beq, ↓grd_blt, grd_blt, ↓grd_ble, grd_ble, ↓ev_mkfunc, ev_mkfunc, ↓newCells_eq1, newCells_eq1, ↓bi_max, bi_max, ↓bi_min, bi_min, Nat.zero_mul, Nat.one_mul, Nat.mul_one, Nat.reduceMul, List.length_cons, List.length_nil, List.getElem?_cons_zero, List.getElem?_cons_succ, Nat.add_zero, Nat.zero_add, Nat.reduceAdd, Bool.not_true, Bool.not_false, Bool.true_and, Bool.and_true, ↓fillS_nil, fillS_nil, ↓fillS_cons, fillS_cons, ↓fill1_0, fill1_0, ↓fill1_1, fill1_1, ↓fill1_2, fill1_2, ↓fill1_3, fill1_3, ↓fill1_4, fill1_4, ↓fill1_5, fill1_5, ↓fill1_6, fill1_6, ↓fill1_7, fill1_7, ↓fill3_0, fill3_0, ↓fill3_3, fill3_3, ↓fill3_6, fill3_6, ↓ld3, ld3, ↓ld4, ld4, ↓ld22, ld22, ↓ld23, ld23, ↓ld27, ld27, ↓ld34, ld34, ↓ld46, ld46, ↓ld80, ld80, ↓ld24, ld24, ↓ld26, ld26, ↓ld29, ld29, ↓ld38, ld38, ↓ld47, ld47, ↓st3, st3, ↓st4, st4, ↓st23, st23, ↓st24, st24, ↓st29, st29, ↓st38, st38, ↓st47, st47, ↓al23, al23, ↓al29, al29, ↓al38, al38, ↓al47, al47, ↓fa38_0, fa38_0, ↓fa38_1, fa38_1, ↓fa38_2, fa38_2, ↓fa29_0, fa29_0, ↓fa29_1, fa29_1, ↓fa29_2, fa29_2, ↓fa29_3, fa29_3, ↓fa29_4, fa29_4, ↓fa26_0, fa26_0, ↓fa26_1, fa26_1, ↓ix22, ix22, ↓ix24, ix24, ↓ix47, ix47, ↓ix116, ix116, ↓ln22, ln22, ↓lz22, lz22, ↓ln116, ln116, ↓lz116, lz116, ↓cn3_23, cn3_23, ↓cn23_3, cn23_3, ↓cn3_150, cn3_150, ↓cn150_3, cn150_3, pl38_0, pl38_1, pl38_2, pl29_0, pl29_1, pl29_2, pl29_3, pl29_4, pl24_0, pl24_1, pl24_2, pl47_0, pl47_1, pl47_2, pl47_3, pl47_4, pl47_5, pl47_6, pl47_7, pl22_0, pl22_1, pl22_2, pl116_0, pl116_1, ↓bd29a, bd29a, ↓bd29b, bd29b, ↓bd29c, bd29c, ↓bd38a, bd38a, ↓bd38_0, bd38_0, ↓bd29_0, bd29_0, ↓bd24, bd24, ↓bd47, bd47, ↓bs22_0, bs22_0, ↓bs22_1, bs22_1, ↓bs22_2, bs22_2, ↓bs22_3, bs22_3, ↓bs116_1, bs116_1, ↓bs116_2, bs116_2]) ?_
      refine CG.seq ?_
      apply CG.reg
      · intro k
        simp (maxSteps := 2000000) (disch := first | decide | omega | rfl) only [s13_2, ↓runS_op, ↓runS_nil, ↓optK_some, optK_some, ↓putT_some, ↓grd_true, grd_true, T.get_same, T.get_other, ↓evO_tmp, ↓grd_blt, grd_blt, ↓evO_const, ofValue, ↓ev_assign]
        exact rfl
      refine CG.ret ?_
      have ho : okE x c = false := by simp [okE]; omega
      exact ⟨_, _, _, ⟨rfl, rfl, rfl⟩, fun k => by simp (disch := decide) only [ho, finK_ret, resultsK_tmp, resultsK_nil, rc29, rc38, rc47, resP_ptr, ldKn_ptr, ldBn_cells, read3, read5, read8, newB, cellsT_cons, cellsT_nil, Nat.zero_add, Nat.reduceAdd, retK_one, retK_two, retK_nil, optK_some, T.get_same, T.get_other] <;> rfl⟩
    · have c2 : decide (34359738368 < c) = false := by simp; omega
      have w2 : IntKind.u64.wrap (34359738368 - c) = 34359738368 - c := wrap_u64 (by omega) (by omega)
      apply CG.reg
      · intro k
        simp (maxSteps := 2000000) (disch := first | decide | omega | rfl) only [s13_1, ↓runS_op, ↓runS_nil, ↓optK_some, optK_some, ↓putT_some, ↓grd_true, grd_true, T.get_same, T.get_other, ↓evO_tmp, ↓grd_blt, grd_blt, ↓runS_if, ↓wantS_tt, wantS_tt, ↓wantS_tf, wantS_tf, ↓wantS_ft, wantS_ft, ↓wantS_ff, wantS_ff, ↓evO_const, ofValue, ↓ev_move, ↓ev_bin, ↓binCV_eq, binCV_eq, binR, ↓ev_pick, ↓pickK_true, pickK_true, ↓pickK_false, pickK_false, ↓convK_int, convK_int, ↓cn3_23, ↓c1, c1, ↓c2, c2, ↓w1, w1]
        exact rfl
      refine CG.cond_false (fun k => by simp (maxSteps := 2000000) (disch := first | decide | omega | rfl) only [↓runS_op, runS_op, ↓runS_if, runS_if, ↓runS_nil, runS_nil, ↓ev_assign, ev_assign, ↓ev_move, ev_move, ↓ev_bin, ev_bin, ↓ev_pick, ev_pick, ↓ev_not, ev_not, ↓ev_extract, ev_extract, ↓ev_call, ev_call, ↓ev_builtin, ev_builtin, ↓ev_box1, ev_box1, ↓boxK_int, boxK_int, ↓boxK_bool, boxK_bool, ↓boxK_rg, boxK_rg, ↓boxK_a3, boxK_a3, ↓boxK_a4, boxK_a4, ↓boxK_slice, boxK_slice, ↓boxK_nilslice, boxK_nilslice, ↓boxK_fn, boxK_fn, ↓evO_const, evO_const, ↓evO_tmp, evO_tmp, ↓evO_func, evO_func, ↓evOs_cons, evOs_cons, ↓evOs_nil, evOs_nil, ofValue, ↓optK_some, optK_some, ↓putT_some, putT_some, ↓putT_none, putT_none, ↓grd_true, grd_true, T.get_same, T.get_other, ↓binCV_eq, binCV_eq, binR, ↓wantS_tt, wantS_tt, ↓wantS_tf, wantS_tf, ↓wantS_ft, wantS_ft, ↓wantS_ff, wantS_ff, ↓pickK_true, pickK_true, ↓pickK_false, pickK_false, ↓convK_int, convK_int, ↓ptrK_ptr, ptrK_ptr, ↓ldK1_ptr, ldK1_ptr, ↓ldB1_cells, ldB1_cells, ↓ldKn_ptr, ldKn_ptr, ↓ldBn_cells, ldBn_cells, ↓read3, read3, ↓read5, read5, newB, cellsT_cons, cellsT_nil, ↓ptrOf_ptr, ptrOf_ptr, ↓stK_eq, stK_eq, ↓stB_cells, stB_cells, ↓ixK_sl, ixK_sl, ↓ixK_ar, ixK_ar, ↓natOf_nat, natOf_nat, ↓natOf_0, natOf_0, ↓natOf_1, natOf_1, ↓natOf_2, natOf_2, cells_int, cells_bool, cells_agg, cells_slice, cells_nilslice, cells_fn, cells_nilfn, cells_ptr, ↓notMap_fn, notMap_fn, ↓newC0, newC0, ↓newC1, newC1, ↓newC2, newC2, ↓newR1, newR1, ↓newR2, newR2, ↓newR3, newR3, ↓grd_beq, grd_beq, ↓grd_blt, grd_blt, ↓grd_ble, grd_ble, ↓ev_mkfunc, ev_mkfunc, ↓newCells_eq1, newCells_eq1, ↓bi_max, bi_max, ↓bi_min, bi_min, Nat.zero_mul, Nat.one_mul, Nat.mul_one, Nat.reduceMul, List.length_cons, List.length_nil, List.getElem?_cons_zero, List.getElem?_cons_succ, Nat.add_zero, Nat.zero_add, Nat.reduceAdd, Bool.not_true, Bool.not_false, Bool.true_and, Bool.and_true, ↓fillS_nil, fillS_nil, ↓fillS_cons, fillS_cons, ↓fill1_0, fill1_0, ↓fill1_1, fill1_1, ↓fill1_2, fill1_2, ↓fill1_3, fill1_3, ↓fill1_4, fill1_4, ↓fill1_5, fill1_5, ↓fill1_6, fill1_6, ↓fill1_7, fill1_7, ↓fill3_0, fill3_0, ↓fill3_3, fill3_3, ↓fill3_6, fill3_6, ↓ld3, ld3, ↓ld4, ld4, ↓ld22, ld22, ↓ld23, ld23, ↓ld27, ld27, ↓ld34, ld34, ↓ld46, ld46, ↓ld80, ld80, ↓ld24, ld24, ↓ld26, ld26, ↓ld29, ld29, ↓ld38, ld38, ↓ld47, ld47, ↓st3, st3, ↓st4, st4, ↓st23, st23, ↓st24, st24, ↓st29, st29, ↓st38, st38, ↓st47, st47, ↓al23, al23, ↓al29, al29, ↓al38, al38, ↓al47, al47, ↓fa38_0, fa38_0, ↓fa38_1, fa38_1, ↓fa38_2, fa38_2, ↓fa29_0, fa29_0, ↓fa29_1, fa29_1, ↓fa29_2, fa29_2, ↓fa29_3, fa29_3, ↓fa29_4, fa29_4, ↓fa26_0, fa26_0, ↓fa26_1, fa26_1, ↓ix22, ix22, ↓ix24, ix24, ↓ix47, ix47, ↓ix116, ix116, ↓ln22, ln22, ↓lz22, lz22, ↓ln116, ln116, ↓lz116, lz116, ↓cn3_23, cn3_23, ↓cn23_3, cn23_3, ↓cn3_150, cn3_150, ↓cn150_3, cn150_3, pl38_0, pl38_1, pl38_2, pl29_0, pl29_1, pl29_2, pl29_3, pl29_4, pl24_0, pl24_1, pl24_2, pl47_0, pl47_1, pl47_2, pl47_3, pl47_4, pl47_5, pl47_6, pl47_7, pl22_0, pl22_1, pl22_2, pl116_0, pl116_1, ↓bd29a, bd29a, ↓bd29b, bd29b, ↓bd29c, bd29c, ↓bd38a, bd38a, ↓bd38_0, bd38_0, ↓bd29_0, bd29_0, ↓bd24, bd24, ↓bd47, bd47, ↓bs22_0, bs22_0, ↓bs22_1, bs22_1, ↓bs22_2, bs22_2, ↓bs22_3, bs22_3, ↓bs116_1, bs116_1, ↓bs116_2, bs116_2]) ?_
      refine CG.skip ?_
      refine CG.seq ?_
      refine CG.seq ?_
      by_cases hd : 34359738368 - c < x
      · have c3 : decide (34359738368 - c < x) = true := by simp; omega
        apply CG.reg
        · intro k
          simp (maxSteps := 2000000) (disch := first | decide | omega | rfl) only [s13_3, ↓runS_op, ↓runS_nil, ↓optK_some, optK_some, ↓putT_some, ↓grd_true, grd_true, T.get_same, T.get_other, ↓evO_tmp, ↓grd_blt, grd_blt, ↓evO_const, ofValue, ↓ev_move, ↓ev_bin, ↓binCV_eq, binCV_eq, binR, ↓convK_int, convK_int, ↓cn3_23, ↓w1, w1, ↓w2, w2, ↓c3, c3]
          exact rfl
        refine CG.cond_true (fun k => by simp (maxSteps := 2000000) (disch := first | decide | omega | rfl) only [↓runS_op, runS_op, ↓runS_if, runS_if, ↓runS_nil, runS_nil, ↓ev_assign, ev_assign, ↓ev_move, ev_move, ↓ev_bin, ev_bin, ↓ev_pick, ev_pick, ↓ev_not, ev_not, ↓ev_extract, ev_extract, ↓ev_call, ev_call, ↓ev_builtin, ev_builtin, ↓ev_box1, ev_box1, ↓boxK_int, boxK_int, ↓boxK_bool, boxK_bool, ↓boxK_rg, boxK_rg, ↓boxK_a3, boxK_a3, ↓boxK_a4, boxK_a4, ↓boxK_slice, boxK_slice, ↓boxK_nilslice, boxK_nilslice, ↓boxK_fn, boxK_fn, ↓evO_const, evO_const, ↓evO_tmp, evO_tmp, ↓evO_func, evO_func, ↓evOs_cons, evOs_cons, ↓evOs_nil, evOs_nil, ofValue, ↓optK_some, optK_some, ↓putT_some, putT_some, ↓putT_none, putT_none, ↓grd_true, grd_true, T.get_same, T.get_other, ↓binCV_eq, binCV_eq, binR, ↓wantS_tt, wantS_tt, ↓wantS_tf, wantS_tf, ↓wantS_ft, wantS_ft, ↓wantS_ff, wantS_ff, ↓pickK_true, pickK_true, ↓pickK_false, pickK_false, ↓convK_int, convK_int, ↓ptrK_ptr, ptrK_ptr, ↓ldK1_ptr, ldK1_ptr, ↓ldB1_cells, ldB1_cells, ↓ldKn_ptr, ldKn_ptr, ↓ldBn_cells, ldBn_cells, ↓read3, read3, ↓read5, read5, newB, cellsT_cons, cellsT_nil, ↓ptrOf_ptr, ptrOf_ptr, ↓stK_eq, stK_eq, ↓stB_cells, stB_cells, ↓ixK_sl, ixK_sl, ↓ixK_ar, ixK_ar, ↓natOf_nat, natOf_nat, ↓natOf_0, natOf_0, ↓natOf_1, natOf_1, ↓natOf_2, natOf_2, cells_int, cells_bool, cells_agg, cells_slice, cells_nilslice, cells_fn, cells_nilfn, cells_ptr, ↓notMap_fn, notMap_fn, ↓newC0, newC0, ↓newC1, newC1, ↓newC2, newC2, ↓newR1, newR1, ↓newR2, newR2, ↓newR3, newR3, ↓grd_beq, grd_beq, ↓grd_blt, grd_blt, ↓grd_ble, grd_ble, ↓ev_mkfunc, ev_mkfunc, ↓newCells_eq1, newCells_eq1, ↓bi_max, bi_max, ↓bi_min, bi_min, Nat.zero_mul, Nat.one_mul, Nat.mul_one, Nat.reduceMul, List.length_cons, List.length_nil, List.getElem?_cons_zero, List.getElem?_cons_succ, Nat.add_zero, Nat.zero_add, Nat.reduceAdd, Bool.not_true, Bool.not_false, Bool.true_and, Bool.and_true, ↓fillS_nil, fillS_nil, ↓fillS_cons, fillS_cons, ↓fill1_0, fill1_0, ↓fill1_1, fill1_1, ↓fill1_2, fill1_2, ↓fill1_3, fill1_3, ↓fill1_4, fill1_4, ↓fill1_5, fill1_5, ↓fill1_6, fill1_6, ↓fill1_7, fill1_7, ↓fill3_0, fill3_0, ↓fill3_3, fill3_3, ↓fill3_6, fill3_6, ↓ld3, ld3, ↓ld4, ld4, ↓ld22, ld22, ↓ld23, ld23, ↓ld27, ld27, ↓ld34, ld34, ↓ld46, ld46, ↓ld80, ld80, ↓ld24, ld24, ↓ld26, ld26, ↓ld29, ld29, ↓ld38, ld38, ↓ld47, ld47, ↓st3, st3, ↓st4, st4, ↓st23, st23, ↓st24, st24, ↓st29, st29, ↓st38, st38, ↓st47, st47, ↓al23, al23, ↓al29, al29, ↓al38, al38, ↓al47, al47, ↓fa38_0, fa38_0, ↓fa38_1, fa38_1, ↓fa38_2, fa38_2, ↓fa29_0, fa29_0, ↓fa29_1, fa29_1, ↓fa29_2, fa29_2, ↓fa29_3, fa29_3, ↓fa29_4, fa29_4, ↓fa26_0, fa26_0, ↓fa26_1, fa26_1, ↓ix22, ix22, ↓ix24, ix24, ↓ix47, ix47, ↓ix116, ix116, ↓ln22, ln22, ↓lz22, lz22, ↓ln116, ln116, ↓lz116, lz116, ↓cn3_23, cn3_23, ↓cn23_3, cn23_3, ↓cn3_150, cn3_150, ↓cn150_3, cn150_3, pl38_0, pl38_1, pl38_2, pl29_0, pl29_1, pl29_2, pl29_3, pl29_4, pl24_0, pl24_1, pl24_2, pl47_0, pl47_1, pl47_2, pl47_3, pl47_4, pl47_5, pl47_6, pl47_7, pl22_0, pl22_1, pl22_2, pl116_0, pl116_1, ↓bd29a, bd29a, ↓bd29b, bd29b, ↓bd29c, bd29c, ↓bd38a, bd38a, ↓bd38_0, bd38_0, ↓bd29_0, bd29_0, ↓bd24, bd24, ↓bd47, bd47, ↓bs22_0, bs22_0, ↓bs22_1, bs22_1, ↓bs22_2, bs22_2, ↓bs22_3, bs22_3, ↓bs116_1, bs116_1, ↓bs116_2, bs116_2]) ?_
        refine CG.seq ?_
        apply CG.reg
        · intro k
          simp (maxSteps := 2000000) (disch := first | decide | omega | rfl) only [s13_4, ↓runS_op, ↓runS_nil, ↓optK_some, optK_some, ↓putT_some, ↓grd_true, grd_true, T.get_same, T.get_other, ↓evO_tmp, ↓grd_blt, grd_blt, ↓evO_const, ofValue, ↓ev_assign]
          exact rfl
        refine CG.ret ?_
        have ho : okE x c = false := by simp [okE]; omega
        exact ⟨_, _, _, ⟨rfl, rfl, rfl⟩, fun k => by simp (disch := decide) only [ho, finK_ret, resultsK_tmp, resultsK_nil, rc29, rc38, rc47, resP_ptr, ldKn_ptr, ldBn_cells, read3, read5, read8, newB, cellsT_cons, cellsT_nil, Nat.zero_add, Nat.reduceAdd, retK_one, retK_two, retK_nil, optK_some, T.get_same, T.get_other] <;> rfl⟩
      · have c3 : decide (34359738368 - c < x) = false := by simp; omega
        have w3 : IntKind.u64.wrap (x + c) = x + c := wrap_u64 (by omega) (by omega)
        apply CG.reg
        · intro k
          simp (maxSteps := 2000000) (disch := first | decide | omega | rfl) only [s13_3, ↓runS_op, ↓runS_nil, ↓optK_some, optK_some, ↓putT_some, ↓grd_true, grd_true, T.get_same, T.get_other, ↓evO_tmp, ↓grd_blt, grd_blt, ↓evO_const, ofValue, ↓ev_move, ↓ev_bin, ↓binCV_eq, binCV_eq, binR, ↓convK_int, convK_int, ↓cn3_23, ↓w1, w1, ↓w2, w2, ↓c3, c3]
          exact rfl
        refine CG.cond_false (fun k => by simp (maxSteps := 2000000) (disch := first | decide | omega | rfl) only [↓runS_op, runS_op, ↓runS_if, runS_if, ↓runS_nil, runS_nil, ↓ev_assign, ev_assign, ↓ev_move, ev_move, ↓ev_bin, ev_bin, ↓ev_pick, ev_pick, ↓ev_not, ev_not, ↓ev_extract, ev_extract, ↓ev_call, ev_call, ↓ev_builtin, ev_builtin, ↓ev_box1, ev_box1, ↓boxK_int, boxK_int, ↓boxK_bool, boxK_bool, ↓boxK_rg, boxK_rg, ↓boxK_a3, boxK_a3, ↓boxK_a4, boxK_a4, ↓boxK_slice, boxK_slice, ↓boxK_nilslice, boxK_nilslice, ↓boxK_fn, boxK_fn, ↓evO_const, evO_const, ↓evO_tmp, evO_tmp, ↓evO_func, evO_func, ↓evOs_cons, evOs_cons, ↓evOs_nil, evOs_nil, ofValue, ↓optK_some, optK_some, ↓putT_some, putT_some, ↓putT_none, putT_none, ↓grd_true, grd_true, T.get_same, T.get_other, ↓binCV_eq, binCV_eq, binR, ↓wantS_tt, wantS_tt, ↓wantS_tf, wantS_tf, ↓wantS_ft, wantS_ft, ↓wantS_ff, wantS_ff, ↓pickK_true, pickK_true, ↓pickK_false, pickK_false, ↓convK_int, convK_int, ↓ptrK_ptr, ptrK_ptr, ↓ldK1_ptr, ldK1_ptr, ↓ldB1_cells, ldB1_cells, ↓ldKn_ptr, ldKn_ptr, ↓ldBn_cells, ldBn_cells, ↓read3, read3, ↓read5, read5, newB, cellsT_cons, cellsT_nil, ↓ptrOf_ptr, ptrOf_ptr, ↓stK_eq, stK_eq, ↓stB_cells, stB_cells, ↓ixK_sl, ixK_sl, ↓ixK_ar, ixK_ar, ↓natOf_nat, natOf_nat, ↓natOf_0, natOf_0, ↓natOf_1, natOf_1, ↓natOf_2, natOf_2, cells_int, cells_bool, cells_agg, cells_slice, cells_nilslice, cells_fn, cells_nilfn, cells_ptr, ↓notMap_fn, notMap_fn, ↓newC0, newC0, ↓newC1, newC1, ↓newC2, newC2, ↓newR1, newR1, ↓newR2, newR2, ↓newR3, newR3, ↓grd_beq, grd_beq, ↓grd_blt, grd_blt, ↓grd_ble, grd_ble, ↓ev_mkfunc, ev_mkfunc, ↓newCells_eq1, newCells_eq1, ↓bi_max, bi_max, ↓bi_min, bi_min, Nat.zero_mul, Nat.one_mul, Nat.mul_one, Nat.reduceMul, List.length_cons, List.length_nil, List.getElem?_cons_zero, List.getElem?_cons_succ, Nat.add_zero, Nat.zero_add, Nat.reduceAdd, Bool.not_true, Bool.not_false, Bool.true_and, Bool.and_true, ↓fillS_nil, fillS_nil, ↓fillS_cons, fillS_cons, ↓fill1_0, fill1_0, ↓fill1_1, fill1_1, ↓fill1_2, fill1_2, ↓fill1_3, fill1_3, ↓fill1_4, fill1_4, ↓fill1_5, fill1_5, ↓fill1_6, fill1_6, ↓fill1_7, fill1_7, ↓fill3_0, fill3_0, ↓fill3_3, fill3_3, ↓fill3_6, fill3_6, ↓ld3, ld3, ↓ld4, ld4, ↓ld22, ld22, ↓ld23, ld23, ↓ld27, ld27, ↓ld34, ld34, ↓ld46, ld46, ↓ld80, ld80, ↓ld24, ld24, ↓ld26, ld26, ↓ld29, ld29, ↓ld38, ld38, ↓ld47, ld47, ↓st3, st3, ↓st4, st4, ↓st23, st23, ↓st24, st24, ↓st29, st29, ↓st38, st38, ↓st47, st47, ↓al23, al23, ↓al29, al29, ↓al38, al38, ↓al47, al47, ↓fa38_0, fa38_0, ↓fa38_1, fa38_1, ↓fa38_2, fa38_2, ↓fa29_0, fa29_0, ↓fa29_1, fa29_1, ↓fa29_2, fa29_2, ↓fa29_3, fa29_3, ↓fa29_4, fa29_4, ↓fa26_0, fa26_0, ↓fa26_1, fa26_1, ↓ix22, ix22, ↓ix24, ix24, ↓ix47, ix47, ↓ix116, ix116, ↓ln22, ln22, ↓lz22, lz22, ↓ln116, ln116, ↓lz116, lz116, ↓cn3_23, cn3_23, ↓cn23_3, cn23_3, ↓cn3_150, cn3_150, ↓cn150_3, cn150_3, pl38_0, pl38_1, pl38_2, pl29_0, pl29_1, pl29_2, pl29_3, pl29_4, pl24_0, pl24_1, pl24_2, pl47_0, pl47_1, pl47_2, pl47_3, pl47_4, pl47_5, pl47_6, pl47_7, pl22_0, pl22_1, pl22_2, pl116_0, pl116_1, ↓bd29a, bd29a, ↓bd29b, bd29b, ↓bd29c, bd29c, ↓bd38a, bd38a, ↓bd38_0, bd38_0, ↓bd29_0, bd29_0, ↓bd24, bd24, ↓bd47, bd47, ↓bs22_0, bs22_0, ↓bs22_1, bs22_1, ↓bs22_2, bs22_2, ↓bs22_3, bs22_3, ↓bs116_1, bs116_1, ↓bs116_2, bs116_2]) ?_
        refine CG.skip ?_
        refine CG.seq ?_
        apply CG.reg
        · intro k
          simp (maxSteps := 2000000) (disch := first | decide | omega | rfl) only [s13_5, ↓runS_op, ↓runS_nil, ↓optK_some, optK_some, ↓putT_some, ↓grd_true, grd_true, T.get_same, T.get_other, ↓evO_tmp, ↓grd_blt, grd_blt, ↓evO_const, ofValue, ↓ev_move, ↓ev_assign, ↓ev_bin, ↓binCV_eq, binCV_eq, binR, ↓convK_int, convK_int, ↓cn3_23, ↓w1, w1, ↓w3, w3]
          exact rfl
        refine CG.ret ?_
        have ho : okE x c = true := by simp [okE]; omega
        exact ⟨_, _, _, ⟨rfl, rfl, rfl⟩, fun k => by simp (disch := decide) only [ho, finK_ret, resultsK_tmp, resultsK_nil, rc29, rc38, rc47, resP_ptr, ldKn_ptr, ldBn_cells, read3, read5, read8, newB, cellsT_cons, cellsT_nil, Nat.zero_add, Nat.reduceAdd, retK_one, retK_two, retK_nil, optK_some, T.get_same, T.get_other] <;> rfl⟩
end Go.Proofs.YthdoelcgdgcncaaGreatDoor
/- Walks: behind, pages, Check. -/
namespace Go.Proofs.YthdoelcgdgcncaaGreatDoor
open Go Go.Can
variable {β : Type}

/-- a region -/
structure Rg where
  a : Int
  c : Int
  w : Bool

def Rg.ok (r : Rg) : Prop := 0 ≤ r.a ∧ r.a < 18446744073709551616 ∧ -9223372036854775808 ≤ r.c ∧ r.c < 9223372036854775808
noncomputable def Rg.cv (r : Rg) : CV := .agg [.int .u64 r.a, .int .i64 r.c, .bool r.w]

/-- regions that lie in a block -/
def Regs (h : T Blk) (b o : Nat) (l : List Rg) : Prop := ∃ n cs rw, h.get b = some (.cells n cs rw) ∧ ∀ (i : Nat) (r : Rg), l[i]? = some r →
  cs.get (o + i * 3) = some (.int .u64 r.a) ∧ cs.get (o + i * 3 + 1) = some (.int .i64 r.c) ∧ cs.get (o + i * 3 + 2) = some (.bool r.w)

/-- a slice of regions -/
def SlR (h : T Blk) (nx : Nat) (v : CV) (l : List Rg) : Prop := (v = .nilslice ∧ l = []) ∨ ∃ b o cap, v = .slice b o l.length cap ∧ b < nx ∧ Regs h b o l

theorem SlR.ext {h h' : T Blk} {nx nx' : Nat} {v : CV} {l : List Rg} (e : Ext h nx h' nx') (s : SlR h nx v l) : SlR h' nx' v l := by
  rcases s with s | ⟨b, o, cap, h1, h2, n, cs, rw, h3, h4⟩
  · exact .inl s
  · exact .inr ⟨b, o, cap, h1, Nat.lt_of_lt_of_le h2 e.le, n, cs, rw, by rw [e.get b h2]; exact h3, h4⟩

theorem SlR.len {h : T Blk} {nx : Nat} {v : CV} {l : List Rg} (s : SlR h nx v l) (tys : List TypeId) (h' : T Blk) (nx' : Nat) (k : K β) : opBuiltin .len (22 :: tys) [v] tab h' nx' k = k (.int .i64 (l.length : Int)) h' nx' := by
  rcases s with ⟨rfl, rfl⟩ | ⟨b, o, cap, rfl, _⟩
  · exact lz22 tys
  · exact ln22 tys b o _ cap

theorem SlR.elem {h : T Blk} {nx : Nat} {v : CV} {l : List Rg} (s : SlR h nx v l) : ∃ b o, ∀ (i : Nat) (r : Rg), l[i]? = some r → b < nx ∧ (∀ k : CV → Res β, ixK (none, 3) v i k = k (.ptr b (o + i * 3))) ∧
    ∃ n cs rw, h.get b = some (.cells n cs rw) ∧ cs.get (o + i * 3) = some (.int .u64 r.a) ∧ cs.get (o + i * 3 + 1) = some (.int .i64 r.c) ∧ cs.get (o + i * 3 + 2) = some (.bool r.w) := by
  rcases s with ⟨rfl, rfl⟩ | ⟨b, o, cap, rfl, h2, n, cs, rw, h3, h4⟩
  · exact ⟨0, 0, fun i r hi => by simp at hi⟩
  · refine ⟨b, o, fun i r hi => ⟨h2, fun k => ?_, n, cs, rw, h3, h4 i r hi⟩⟩
    rw [ixK_sl, grd_blt (List.getElem?_eq_some_iff.1 hi).1]

theorem behind_ok (d : Nat) (r : Rg) (h : T Blk) (nx : Nat) (h0 : 0 ≤ r.a) (h1 : 0 ≤ r.c) (h2 : r.a + r.c < 9223372036854775808) :
    FG (β := β) tab (d + 1) 49 [.agg [.int .u64 r.a, .int .i64 r.c, .bool r.w]] h nx fun v h' nx' => v = .int .u64 (r.a + r.c) ∧ Ext h nx h' nx' := by
  refine FG.of (fn := Tryz.f49) (c := c49) (n := 9) (rs := [.tmp 2]) (by kernel_rfl) (by kernel_rfl) (by kernel_rfl) c49_ok rfl rfl (by simp) fun call hc => ?_
  have w1 : IntKind.u64.wrap r.c = r.c := wrap_u64 (by omega) (by omega)
  have w2 : IntKind.u64.wrap (r.a + r.c) = r.a + r.c := wrap_u64 (by omega) (by omega)
  simp only [cellsT_cons, cellsT_nil, Nat.zero_add, Nat.reduceAdd]
  unfold c49
  refine CG.seq ?_
  apply CG.reg
  · intro k
    simp (maxSteps := 2000000) (disch := first | decide | omega | rfl) only [s49_0, ↓runS_op, ↓runS_nil, ↓optK_some, optK_some, ↓putT_some, ↓grd_true, grd_true, T.get_same, T.get_other, ↓evO_tmp, ↓grd_blt, grd_blt, ↓evO_const, ofValue, Nat.add_zero, Nat.zero_add, Nat.reduceAdd, ↓ev_assign, ↓ev_box1, ↓boxK_int, ↓boxK_bool, ↓boxK_rg, ↓boxK_a3, ↓boxK_a4, ↓boxK_slice, ↓boxK_nilslice, ↓boxK_fn, List.length_cons, List.length_nil, newB, cellsT_cons, cellsT_nil]
    exact rfl
  refine CG.seq ?_
  apply CG.reg
  · intro k
    simp (maxSteps := 2000000) (disch := first | decide | omega | rfl) only [s49_1, ↓runS_op, ↓runS_nil, ↓optK_some, optK_some, ↓putT_some, ↓grd_true, grd_true, T.get_same, T.get_other, ↓evO_tmp, ↓grd_blt, grd_blt, Nat.add_zero, Nat.zero_add, Nat.reduceAdd, ↓ev_assign, ↓ev_bin, ↓binCV_eq, binCV_eq, binR, ↓ldK1_ptr, ↓ldB1_cells, ↓ldKn_ptr, ↓ldBn_cells, ↓read3, read3, ↓read5, read5, List.length_cons, List.length_nil, newB, cellsT_cons, cellsT_nil, ↓convK_int, convK_int, ↓ptrK_ptr, ↓fa38_0, ↓fa38_1, ↓ld23, ↓ld3, ↓cn3_23, ↓w1, w1, ↓w2, w2]
    exact rfl
  refine CG.ret ?_
  exact ⟨_, _, _, ⟨rfl, .new (.refl _ _)⟩, fun k => by simp (disch := decide) only [finK_ret, resultsK_tmp, resultsK_nil, rc29, rc38, rc47, resP_ptr, ldKn_ptr, ldBn_cells, read3, read5, read8, newB, cellsT_cons, cellsT_nil, Nat.zero_add, Nat.reduceAdd, retK_one, retK_two, retK_nil, optK_some, T.get_same, T.get_other] <;> rfl⟩

/-- how many pages -/
def sumC (l : List Rg) : Int := (l.map (·.c)).sum

theorem sumC_take {l : List Rg} {i : Nat} {r : Rg} (h : l[i]? = some r) : sumC (l.take (i + 1)) = sumC (l.take i) + r.c := by
  unfold sumC
  rw [List.take_add_one, h]
  simp

theorem sumC_bound : ∀ (l : List Rg), (∀ r ∈ l, 0 ≤ r.c ∧ r.c ≤ 34359738368) → 0 ≤ sumC l ∧ sumC l ≤ 34359738368 * l.length
  | [], _ => by simp [sumC]
  | r :: l, h => by
    have h1 := h r List.mem_cons_self
    have h2 := sumC_bound l fun x hx => h x (List.mem_cons_of_mem _ hx)
    simp only [sumC, List.map_cons, List.sum_cons, List.length_cons] at h2 ⊢
    omega

theorem pages_ok (d : Nat) {v : CV} {l : List Rg} {h : T Blk} {nx : Nat} (hs : SlR h nx v l) (hl : l.length ≤ 1000) (hr : ∀ r ∈ l, 0 ≤ r.c ∧ r.c ≤ 34359738368) :
    FG (β := β) tab (d + 1) 14 [v] h nx fun v' h' nx' => v' = .int .i64 (sumC l) ∧ Ext h nx h' nx' := by
  refine FG.of (fn := Tryz.f14) (c := c14) (n := 18) (rs := [.tmp 2]) (by kernel_rfl) (by kernel_rfl) (by kernel_rfl) c14_ok rfl rfl (by simp) fun call hc => ?_
  have hlen := fun tys h' nx' k => hs.len (β := β) tys h' nx' k
  obtain ⟨b, o, hel⟩ := hs.elem (β := β)
  simp only [cellsT_cons, cellsT_nil, Nat.zero_add, Nat.reduceAdd]
  unfold c14
  refine CG.seq ?_
  apply CG.reg
  · intro k
    simp (maxSteps := 2000000) (disch := first | decide | omega | rfl) only [s14_0, ↓runS_op, ↓runS_nil, ↓optK_some, optK_some, ↓putT_some, ↓grd_true, grd_true, T.get_same, T.get_other, ↓evO_tmp, ↓grd_blt, grd_blt, ↓evO_const, ofValue, ↓ev_assign]
    exact rfl
  refine CG.seq ?_
  apply CG.reg
  · intro k
    simp (maxSteps := 2000000) (disch := first | decide | omega | rfl) only [s14_1, ↓runS_op, ↓runS_nil, ↓optK_some, optK_some, ↓putT_some, ↓grd_true, grd_true, T.get_same, T.get_other, ↓evO_tmp, ↓grd_blt, grd_blt, ↓evO_const, ofValue, ↓ev_assign]
    exact rfl
  refine CG.seq ?_
  refine CG.seq ?_
  apply CG.reg
  · intro k
    simp (maxSteps := 2000000) (disch := first | decide | omega | rfl) only [s14_2, ↓runS_op, ↓runS_nil, ↓optK_some, optK_some, ↓putT_some, ↓grd_true, grd_true, T.get_same, T.get_other, ↓evO_tmp, ↓grd_blt, grd_blt, ↓evO_const, ofValue, ↓ev_move, ↓ev_builtin, ↓evOs_cons, ↓evOs_nil, ↓ln22, ln22, ↓lz22, lz22, ↓ln116, ln116, ↓lz116, lz116, ↓hlen, hlen]
    exact rfl
  refine CG.block ?_
  refine CG.loop (fun m t h' nx' => ∃ i, i ≤ l.length ∧ m = l.length - i ∧ t.get 3 = some (.int .i64 (sumC (l.take i))) ∧ t.get 6 = some v ∧ t.get 7 = some (.int .i64 (l.length : Int)) ∧ t.get 8 = some (.int .i64 (i : Int)) ∧ Ext h nx h' nx') ?_ (m := l.length) (by omega) ?_
  rotate_left
  · exact ⟨0, by omega, by omega, by simp (disch := decide) only [T.get_same, T.get_other]; rfl, by simp (maxSteps := 2000000) (disch := first | decide | omega | rfl) only [T.get_same, T.get_other] <;> rfl, by simp (maxSteps := 2000000) (disch := first | decide | omega | rfl) only [T.get_same, T.get_other] <;> rfl, by simp (maxSteps := 2000000) (disch := first | decide | omega | rfl) only [T.get_same, T.get_other] <;> rfl, .refl _ _⟩
  rintro m t h' nx' ⟨i, hi, rfl, e3, e6, e7, e8, hx⟩
  refine CG.seq ?_
  by_cases hend : i = l.length
  · subst hend
    have c1 : decide ((l.length : Int) < (l.length : Int)) = false := by simp
    apply CG.reg
    · intro k
      simp (maxSteps := 2000000) (disch := first | decide | omega | rfl) only [s14_3, ↓runS_op, ↓runS_nil, ↓optK_some, optK_some, ↓putT_some, ↓grd_true, grd_true, T.get_same, T.get_other, ↓evO_tmp, ↓grd_blt, grd_blt, ↓ev_bin, ↓binCV_eq, binCV_eq, binR, ↓e7, e7, ↓e8, e8, ↓c1, c1]
      exact rfl
    refine CG.seq ?_
    refine CG.cond_false (fun k => by simp (maxSteps := 2000000) (disch := first | decide | omega | rfl) only [evO_tmp, optK_some, T.get_same, T.get_other] <;> rfl) ?_
    refine CG.exit ?_
    simp only [if_pos]
    refine CG.seq ?_
    rw [List.take_length] at e3
    apply CG.reg
    · intro k
      simp (maxSteps := 2000000) (disch := first | decide | omega | rfl) only [s14_7, ↓runS_op, ↓runS_nil, ↓optK_some, optK_some, ↓putT_some, ↓grd_true, grd_true, T.get_same, T.get_other, ↓evO_tmp, ↓grd_blt, grd_blt, ↓ev_move, ↓ev_assign, ↓e3, e3]
      exact rfl
    refine CG.ret ?_
    exact ⟨_, _, _, ⟨rfl, hx⟩, fun k => by simp (disch := decide) only [finK_ret, resultsK_tmp, resultsK_nil, rc29, rc38, rc47, resP_ptr, ldKn_ptr, ldBn_cells, read3, read5, read8, newB, cellsT_cons, cellsT_nil, Nat.zero_add, Nat.reduceAdd, retK_one, retK_two, retK_nil, optK_some, T.get_same, T.get_other] <;> rfl⟩
  · have hlt : i < l.length := by omega
    obtain ⟨r, hri⟩ : ∃ r, l[i]? = some r := ⟨l[i], List.getElem?_eq_getElem hlt⟩
    obtain ⟨hb, hix, n, cs, rw, hbk, g0, g1, g2⟩ := hel i r hri
    have hrr := hr r (List.mem_of_getElem? hri)
    have hb' : h'.get b = some (.cells n cs rw) := by rw [hx.get b hb]; exact hbk
    have hle := hx.le
    have c1 : decide ((i : Int) < (l.length : Int)) = true := by simp; omega
    apply CG.reg
    · intro k
      simp (maxSteps := 2000000) (disch := first | decide | omega | rfl) only [s14_3, ↓runS_op, ↓runS_nil, ↓optK_some, optK_some, ↓putT_some, ↓grd_true, grd_true, T.get_same, T.get_other, ↓evO_tmp, ↓grd_blt, grd_blt, ↓ev_bin, ↓binCV_eq, binCV_eq, binR, ↓e7, e7, ↓e8, e8, ↓c1, c1]
      exact rfl
    refine CG.seq ?_
    refine CG.cond_true (fun k => by simp (maxSteps := 2000000) (disch := first | decide | omega | rfl) only [evO_tmp, optK_some, T.get_same, T.get_other] <;> rfl) ?_
    refine CG.skip ?_
    refine CG.seq ?_
    refine CG.block ?_
    refine CG.seq ?_
    apply CG.reg
    · intro k
      simp (maxSteps := 2000000) (disch := first | decide | omega | rfl) only [s14_4, ↓runS_op, ↓runS_nil, ↓optK_some, optK_some, ↓putT_some, ↓grd_true, grd_true, T.get_same, T.get_other, ↓evO_tmp, ↓grd_blt, grd_blt, ↓putT_none, Nat.add_zero, Nat.zero_add, Nat.reduceAdd, ↓ldK1_ptr, ↓ldB1_cells, ↓ldKn_ptr, ↓ldBn_cells, ↓read3, read3, ↓read5, read5, List.length_cons, List.length_nil, newB, cellsT_cons, cellsT_nil, ↓ptrOf_ptr, ↓stK_eq, ↓stB_cells, ↓grd_beq, grd_beq, ↓grd_ble, grd_ble, Bool.true_and, Bool.and_true, cells_int, cells_bool, cells_agg, cells_slice, cells_nilslice, cells_fn, cells_nilfn, cells_ptr, ↓natOf_nat, natOf_nat, ↓natOf_0, natOf_0, ↓natOf_1, natOf_1, ↓natOf_2, natOf_2, ↓ixK_sl, ixK_sl, ↓ixK_ar, ixK_ar, Nat.zero_mul, Nat.one_mul, Nat.mul_one, Nat.reduceMul, ↓ld38, ↓st38, ↓al38, ↓ix22, ↓e6, e6, ↓e8, e8, ↓hix, hix, hb', ↓g0, g0, ↓g1, g1, ↓g2, g2]
      exact rfl
    have hsb := sumC_bound (l.take i) fun x hx => hr x (List.mem_of_mem_take hx)
    have hlt' : (l.take i).length ≤ 1000 := by simp; omega
    have w1 : IntKind.i64.wrap (sumC (l.take i) + r.c) = sumC (l.take i) + r.c := wrap_i64 (by omega) (by omega)
    apply CG.reg
    · intro k
      simp (maxSteps := 2000000) (disch := first | decide | omega | rfl) only [s14_5, ↓runS_op, ↓runS_nil, ↓optK_some, optK_some, ↓putT_some, ↓grd_true, grd_true, T.get_same, T.get_other, ↓evO_tmp, ↓grd_blt, grd_blt, Nat.add_zero, Nat.zero_add, Nat.reduceAdd, ↓ev_move, ↓ev_assign, ↓ev_bin, ↓binCV_eq, binCV_eq, binR, ↓ldK1_ptr, ↓ldB1_cells, ↓ldKn_ptr, ↓ldBn_cells, ↓read3, read3, ↓read5, read5, List.length_cons, List.length_nil, newB, cellsT_cons, cellsT_nil, ↓ptrK_ptr, ↓fa38_1, ↓ld3, ↓e3, e3, ↓w1, w1]
      exact rfl
    have w2 : IntKind.i64.wrap ((i : Int) + 1) = ((i + 1 : Nat) : Int) := by rw [wrap_i64 (by omega) (by omega)]; omega
    apply CG.reg
    · intro k
      simp (maxSteps := 2000000) (disch := first | decide | omega | rfl) only [s14_6, ↓runS_op, ↓runS_nil, ↓optK_some, optK_some, ↓putT_some, ↓grd_true, grd_true, T.get_same, T.get_other, ↓evO_tmp, ↓grd_blt, grd_blt, ↓evO_const, ofValue, ↓ev_move, ↓ev_bin, ↓binCV_eq, binCV_eq, binR, ↓e8, e8, ↓w2, w2]
      exact rfl
    refine ⟨l.length - (i + 1), by omega, i + 1, by omega, rfl, ?_, by simp (maxSteps := 2000000) (disch := first | decide | omega | rfl) only [e6, T.get_same, T.get_other] <;> rfl, by simp (maxSteps := 2000000) (disch := first | decide | omega | rfl) only [e7, T.get_same, T.get_other] <;> rfl, by simp (maxSteps := 2000000) (disch := first | decide | omega | rfl) only [T.get_same, T.get_other] <;> rfl, hx.new.set (by omega)⟩
    simp (disch := decide) only [T.get_same, T.get_other]
    rw [sumC_take hri]
end Go.Proofs.YthdoelcgdgcncaaGreatDoor
/- Walks: Check. -/
namespace Go.Proofs.YthdoelcgdgcncaaGreatDoor
open Go Go.Can
variable {β : Type}

theorem end_eq (d : Nat) {x c : Int} (hx0 : 0 ≤ x) (hx1 : x < 18446744073709551616) (hc0 : -9223372036854775808 ≤ c) (hc1 : c < 9223372036854775808) (h : T Blk) (nx : Nat) (k : K β) :
    callN tab (d + 1) (.fn 13 [] []) [.int .u64 x, .int .i64 c] h nx k = k (.tup [.int .u64 (if okE x c then x + c else 0), .bool (okE x c)]) h nx := by
  obtain ⟨_, _, _, ⟨rfl, rfl, rfl⟩, e⟩ := end_ok (β := β) d x c h nx hx0 hx1 hc0 hc1
  exact e k

/-- do the regions lie one behind the other? -/
def chain : Int → List Rg → Bool
  | _, [] => true
  | f, r :: l => okE r.a r.c && decide (f ≤ r.a) && chain (r.a + r.c) l

def valid (l : List Rg) : Bool := decide (l.length ≤ 8) && chain 0 l && decide (sumC l ≤ 16)

theorem chain_all : ∀ (f : Int) (l : List Rg), chain f l = true → ∀ r ∈ l, okE r.a r.c = true
  | f, [], _, r, h => by simp at h
  | f, x :: l, h, r, hr => by
    simp only [chain, Bool.and_eq_true] at h
    rcases List.mem_cons.1 hr with rfl | hr
    · exact h.1.1
    · exact chain_all _ l h.2 r hr

theorem okE_iff {x c : Int} : okE x c = true ↔ 1 ≤ c ∧ c ≤ 34359738368 ∧ x + c ≤ 34359738368 := by simp [okE]

def errB (b : Bool) : Int := if b then 0 else 2

theorem check_ok (d : Nat) {v : CV} {l : List Rg} {h : T Blk} {nx : Nat} (hs : SlR h nx v l) (hok : ∀ r ∈ l, r.ok) :
    FG (β := β) tab (d + 2) 5 [v] h nx fun v' h' nx' => v' = .int .i64 (errB (valid l)) ∧ Ext h nx h' nx' := by
  refine FG.of (fn := Tryz.f5) (c := c5) (n := 38) (rs := [.tmp 2]) (by kernel_rfl) (by kernel_rfl) (by kernel_rfl) c5_ok rfl rfl (by simp) fun call hc => ?_
  have hlen := fun tys h' nx' k => hs.len (β := β) tys h' nx' k
  obtain ⟨b, o, hel⟩ := hs.elem (β := β)
  simp only [cellsT_cons, cellsT_nil, Nat.zero_add, Nat.reduceAdd]
  unfold c5
  refine CG.seq ?_
  apply CG.reg
  · intro k
    simp (maxSteps := 2000000) (disch := first | decide | omega | rfl) only [s5_0, ↓runS_op, ↓runS_nil, ↓optK_some, optK_some, ↓putT_some, ↓grd_true, grd_true, T.get_same, T.get_other, ↓evO_tmp, ↓grd_blt, grd_blt, ↓evO_const, ofValue, ↓ev_assign]
    exact rfl
  refine CG.seq ?_
  refine CG.seq ?_
  by_cases h8 : l.length ≤ 8
  · have c1 : decide ((8 : Int) < (l.length : Int)) = false := by simp; omega
    apply CG.reg
    · intro k
      simp (maxSteps := 2000000) (disch := first | decide | omega | rfl) only [s5_1, ↓runS_op, ↓runS_nil, ↓optK_some, optK_some, ↓putT_some, ↓grd_true, grd_true, T.get_same, T.get_other, ↓evO_tmp, ↓grd_blt, grd_blt, ↓evO_const, ofValue, ↓ev_move, ↓ev_bin, ↓binCV_eq, binCV_eq, binR, ↓ev_builtin, ↓evOs_cons, ↓evOs_nil, ↓ln22, ln22, ↓lz22, lz22, ↓ln116, ln116, ↓lz116, lz116, ↓hlen, hlen, ↓c1, c1]
      exact rfl
    refine CG.cond_false (fun k => by simp (maxSteps := 2000000) (disch := first | decide | omega | rfl) only [evO_tmp, optK_some, T.get_same, T.get_other] <;> rfl) ?_
    refine CG.skip ?_
    refine CG.seq ?_
    apply CG.reg
    · intro k
      simp (maxSteps := 2000000) (disch := first | decide | omega | rfl) only [s5_3, ↓runS_op, ↓runS_nil, ↓optK_some, optK_some, ↓putT_some, ↓grd_true, grd_true, T.get_same, T.get_other, ↓evO_tmp, ↓grd_blt, grd_blt, ↓evO_const, ofValue, ↓ev_assign]
      exact rfl
    refine CG.seq ?_
    refine CG.seq ?_
    apply CG.reg
    · intro k
      simp (maxSteps := 2000000) (disch := first | decide | omega | rfl) only [s5_4, ↓runS_op, ↓runS_nil, ↓optK_some, optK_some, ↓putT_some, ↓grd_true, grd_true, T.get_same, T.get_other, ↓evO_tmp, ↓grd_blt, grd_blt, ↓evO_const, ofValue, ↓ev_move, ↓ev_builtin, ↓evOs_cons, ↓evOs_nil, ↓ln22, ln22, ↓lz22, lz22, ↓ln116, ln116, ↓lz116, lz116, ↓hlen, hlen]
      exact rfl
    refine CG.block ?_
    refine CG.loop (fun m t h' nx' => ∃ (i : Nat) (f : Int), i ≤ l.length ∧ m = l.length - i ∧ chain 0 l = chain f (l.drop i) ∧ t.get 0 = some v ∧ t.get 3 = some (.int .u64 f) ∧ t.get 11 = some v ∧ t.get 12 = some (.int .i64 (l.length : Int)) ∧ t.get 13 = some (.int .i64 (i : Int)) ∧ Ext h nx h' nx') ?_ (m := l.length) (by omega) ?_
    rotate_left
    · exact ⟨0, 0, by omega, by omega, rfl, by simp (maxSteps := 2000000) (disch := first | decide | omega | rfl) only [T.get_same, T.get_other] <;> rfl, by simp (maxSteps := 2000000) (disch := first | decide | omega | rfl) only [T.get_same, T.get_other] <;> rfl, by simp (maxSteps := 2000000) (disch := first | decide | omega | rfl) only [T.get_same, T.get_other] <;> rfl, by simp (maxSteps := 2000000) (disch := first | decide | omega | rfl) only [T.get_same, T.get_other] <;> rfl, by simp (maxSteps := 2000000) (disch := first | decide | omega | rfl) only [T.get_same, T.get_other] <;> rfl, .refl _ _⟩
    rintro m t h' nx' ⟨i, f, hi, rfl, hch, e0, e3, e11, e12, e13, hx⟩
    refine CG.seq ?_
    by_cases hend : i = l.length
    · subst hend
      rw [List.drop_length] at hch
      have hch : chain 0 l = true := hch
      have c1 : decide ((l.length : Int) < (l.length : Int)) = false := by simp
      apply CG.reg
      · intro k
        simp (maxSteps := 2000000) (disch := first | decide | omega | rfl) only [s5_5, ↓runS_op, ↓runS_nil, ↓optK_some, optK_some, ↓putT_some, ↓grd_true, grd_true, T.get_same, T.get_other, ↓evO_tmp, ↓grd_blt, grd_blt, ↓ev_bin, ↓binCV_eq, binCV_eq, binR, ↓e12, e12, ↓e13, e13, ↓c1, c1]
        exact rfl
      refine CG.seq ?_
      refine CG.cond_false (fun k => by simp (maxSteps := 2000000) (disch := first | decide | omega | rfl) only [evO_tmp, optK_some, T.get_same, T.get_other] <;> rfl) ?_
      refine CG.exit ?_
      simp only [if_pos]
      refine CG.seq ?_
      refine CG.seq ?_
      obtain ⟨_, h2, nx2, ⟨rfl, hx2⟩, e⟩ := pages_ok (β := β) d (hs.ext hx) (by omega) fun r hr => by have := okE_iff.1 (chain_all 0 l hch r hr); omega
      rw [← hc] at e
      by_cases h16 : sumC l ≤ 16
      · have c2 : decide ((16 : Int) < sumC l) = false := by simp; omega
        apply CG.reg
        · intro k
          simp (maxSteps := 2000000) (disch := first | decide | omega | rfl) only [s5_12, ↓runS_op, ↓runS_nil, ↓optK_some, optK_some, ↓putT_some, ↓grd_true, grd_true, T.get_same, T.get_other, ↓evO_tmp, ↓grd_blt, grd_blt, ↓evO_const, ofValue, ↓ev_move, ↓ev_bin, ↓binCV_eq, binCV_eq, binR, ↓ev_call, ↓evOs_cons, ↓evOs_nil, ↓notMap_fn, notMap_fn, ↓evO_func, List.getElem?_cons_zero, List.getElem?_cons_succ, ↓e0, e0, ↓e, e, ↓c2, c2]
          exact rfl
        refine CG.cond_false (fun k => by simp (maxSteps := 2000000) (disch := first | decide | omega | rfl) only [evO_tmp, optK_some, T.get_same, T.get_other] <;> rfl) ?_
        refine CG.skip ?_
        refine CG.seq ?_
        apply CG.reg
        · intro k
          simp (maxSteps := 2000000) (disch := first | decide | omega | rfl) only [s5_14, ↓runS_op, ↓runS_nil, ↓optK_some, optK_some, ↓putT_some, ↓grd_true, grd_true, T.get_same, T.get_other, ↓evO_tmp, ↓grd_blt, grd_blt, ↓evO_const, ofValue, ↓ev_assign]
          exact rfl
        refine CG.ret ?_
        have hv : errB (valid l) = 0 := by simp [errB, valid, h8, hch, h16]
        exact ⟨_, _, _, ⟨rfl, hx.trans hx2⟩, fun k => by simp (disch := decide) only [hv, finK_ret, resultsK_tmp, resultsK_nil, rc29, rc38, rc47, resP_ptr, ldKn_ptr, ldBn_cells, read3, read5, read8, newB, cellsT_cons, cellsT_nil, Nat.zero_add, Nat.reduceAdd, retK_one, retK_two, retK_nil, optK_some, T.get_same, T.get_other] <;> rfl⟩
      · have c2 : decide ((16 : Int) < sumC l) = true := by simp; omega
        apply CG.reg
        · intro k
          simp (maxSteps := 2000000) (disch := first | decide | omega | rfl) only [s5_12, ↓runS_op, ↓runS_nil, ↓optK_some, optK_some, ↓putT_some, ↓grd_true, grd_true, T.get_same, T.get_other, ↓evO_tmp, ↓grd_blt, grd_blt, ↓evO_const, ofValue, ↓ev_move, ↓ev_bin, ↓binCV_eq, binCV_eq, binR, ↓ev_call, ↓evOs_cons, ↓evOs_nil, ↓notMap_fn, notMap_fn, ↓evO_func, List.getElem?_cons_zero, List.getElem?_cons_succ, ↓e0, e0, ↓e, e, ↓c2, c2]
          exact rfl
        refine CG.cond_true (fun k => by simp (maxSteps := 2000000) (disch := first | decide | omega | rfl) only [evO_tmp, optK_some, T.get_same, T.get_other] <;> rfl) ?_
        refine CG.seq ?_
        apply CG.reg
        · intro k
          simp (maxSteps := 2000000) (disch := first | decide | omega | rfl) only [s5_13, ↓runS_op, ↓runS_nil, ↓optK_some, optK_some, ↓putT_some, ↓grd_true, grd_true, T.get_same, T.get_other, ↓evO_tmp, ↓grd_blt, grd_blt, ↓evO_const, ofValue, ↓ev_assign]
          exact rfl
        refine CG.ret ?_
        have hv : errB (valid l) = 2 := by simp [errB, valid, h16]
        exact ⟨_, _, _, ⟨rfl, hx.trans hx2⟩, fun k => by simp (disch := decide) only [hv, finK_ret, resultsK_tmp, resultsK_nil, rc29, rc38, rc47, resP_ptr, ldKn_ptr, ldBn_cells, read3, read5, read8, newB, cellsT_cons, cellsT_nil, Nat.zero_add, Nat.reduceAdd, retK_one, retK_two, retK_nil, optK_some, T.get_same, T.get_other] <;> rfl⟩
    · have hlt : i < l.length := by omega
      obtain ⟨r, hri⟩ : ∃ r, l[i]? = some r := ⟨l[i], List.getElem?_eq_getElem hlt⟩
      obtain ⟨hb, hix, n, cs, rw, hbk, g0, g1, g2⟩ := hel i r hri
      obtain ⟨ra0, ra1, rc0, rc1⟩ := hok r (List.mem_of_getElem? hri)
      have hb' : h'.get b = some (.cells n cs rw) := by rw [hx.get b hb]; exact hbk
      have hle := hx.le
      have hdrop : l.drop i = r :: l.drop (i + 1) := by
        rw [List.drop_eq_getElem_cons hlt]
        congr 1
        exact (List.getElem?_eq_some_iff.1 hri).2
      rw [hdrop] at hch
      simp only [chain] at hch
      have c1 : decide ((i : Int) < (l.length : Int)) = true := by simp; omega
      apply CG.reg
      · intro k
        simp (maxSteps := 2000000) (disch := first | decide | omega | rfl) only [s5_5, ↓runS_op, ↓runS_nil, ↓optK_some, optK_some, ↓putT_some, ↓grd_true, grd_true, T.get_same, T.get_other, ↓evO_tmp, ↓grd_blt, grd_blt, ↓ev_bin, ↓binCV_eq, binCV_eq, binR, ↓e12, e12, ↓e13, e13, ↓c1, c1]
        exact rfl
      refine CG.seq ?_
      refine CG.cond_true (fun k => by simp (maxSteps := 2000000) (disch := first | decide | omega | rfl) only [evO_tmp, optK_some, T.get_same, T.get_other] <;> rfl) ?_
      refine CG.skip ?_
      refine CG.seq ?_
      refine CG.block ?_
      refine CG.seq ?_
      apply CG.reg
      · intro k
        simp (maxSteps := 2000000) (disch := first | decide | omega | rfl) only [s5_6, ↓runS_op, ↓runS_nil, ↓optK_some, optK_some, ↓putT_some, ↓grd_true, grd_true, T.get_same, T.get_other, ↓evO_tmp, ↓grd_blt, grd_blt, ↓putT_none, Nat.add_zero, Nat.zero_add, Nat.reduceAdd, ↓ldK1_ptr, ↓ldB1_cells, ↓ldKn_ptr, ↓ldBn_cells, ↓read3, read3, ↓read5, read5, List.length_cons, List.length_nil, newB, cellsT_cons, cellsT_nil, ↓ptrOf_ptr, ↓stK_eq, ↓stB_cells, ↓grd_beq, grd_beq, ↓grd_ble, grd_ble, Bool.true_and, Bool.and_true, cells_int, cells_bool, cells_agg, cells_slice, cells_nilslice, cells_fn, cells_nilfn, cells_ptr, ↓natOf_nat, natOf_nat, ↓natOf_0, natOf_0, ↓natOf_1, natOf_1, ↓natOf_2, natOf_2, ↓ixK_sl, ixK_sl, ↓ixK_ar, ixK_ar, Nat.zero_mul, Nat.one_mul, Nat.mul_one, Nat.reduceMul, ↓ld38, ↓st38, ↓al38, ↓ix22, ↓e11, e11, ↓e13, e13, ↓hix, hix, hb', ↓g0, g0, ↓g1, g1, ↓g2, g2]
        exact rfl
      refine CG.seq ?_
      have ec := end_eq (β := β) d ra0 ra1 rc0 rc1
      rw [← hc] at ec
      apply CG.reg
      · intro k
        simp (maxSteps := 2000000) (disch := first | decide | omega | rfl) only [s5_7, s5_7_0, s5_7_1, List.cons_append, List.nil_append, ↓runS_op, ↓runS_nil, ↓optK_some, optK_some, ↓putT_some, ↓grd_true, grd_true, T.get_same, T.get_other, ↓evO_tmp, ↓grd_blt, grd_blt, Nat.add_zero, Nat.zero_add, Nat.reduceAdd, ↓ev_move, ↓ev_assign, ↓ev_extract, List.getElem?_cons_zero, List.getElem?_cons_succ, ↓ev_call, ↓evOs_cons, ↓evOs_nil, ↓notMap_fn, notMap_fn, ↓evO_func, ↓ldK1_ptr, ↓ldB1_cells, ↓ldKn_ptr, ↓ldBn_cells, ↓read3, read3, ↓read5, read5, List.length_cons, List.length_nil, newB, cellsT_cons, cellsT_nil, ↓ptrK_ptr, ↓fa38_0, ↓fa38_1, ↓ld23, ↓ld3, ↓ec, ec]
        exact rfl
      refine CG.seq ?_
      refine CG.seq ?_
      cases ho : okE r.a r.c with
      | false =>
        apply CG.reg
        · intro k
          simp (maxSteps := 2000000) (disch := first | decide | omega | rfl) only [s5_8, s5_8_0, s5_8_1, List.cons_append, List.nil_append, ↓runS_op, ↓runS_nil, ↓optK_some, optK_some, ↓putT_some, ↓grd_true, grd_true, T.get_same, T.get_other, ↓evO_tmp, ↓grd_blt, grd_blt, ↓runS_if, ↓wantS_tt, wantS_tt, ↓wantS_tf, wantS_tf, ↓wantS_ft, wantS_ft, ↓wantS_ff, wantS_ff, ↓evO_const, ofValue, Nat.add_zero, Nat.zero_add, Nat.reduceAdd, ↓ev_move, ↓ev_bin, ↓binCV_eq, binCV_eq, binR, ↓ev_pick, ↓pickK_true, pickK_true, ↓pickK_false, pickK_false, ↓ev_not, Bool.not_true, Bool.not_false, ↓ldK1_ptr, ↓ldB1_cells, ↓ldKn_ptr, ↓ldBn_cells, ↓read3, read3, ↓read5, read5, List.length_cons, List.length_nil, newB, cellsT_cons, cellsT_nil, ↓ptrK_ptr, ↓fa38_0, ↓ld23, ↓ho, ho]
          exact rfl
        refine CG.cond_true (fun k => by simp (maxSteps := 2000000) (disch := first | decide | omega | rfl) only [evO_tmp, optK_some, T.get_same, T.get_other] <;> rfl) ?_
        refine CG.seq ?_
        apply CG.reg
        · intro k
          simp (maxSteps := 2000000) (disch := first | decide | omega | rfl) only [s5_9, ↓runS_op, ↓runS_nil, ↓optK_some, optK_some, ↓putT_some, ↓grd_true, grd_true, T.get_same, T.get_other, ↓evO_tmp, ↓grd_blt, grd_blt, ↓evO_const, ofValue, ↓ev_assign]
          exact rfl
        refine CG.ret ?_
        have hv : errB (valid l) = 2 := by simp [errB, valid, hch, ho]
        exact ⟨_, _, _, ⟨rfl, hx.new.set (by omega)⟩, fun k => by simp (disch := decide) only [hv, finK_ret, resultsK_tmp, resultsK_nil, rc29, rc38, rc47, resP_ptr, ldKn_ptr, ldBn_cells, read3, read5, read8, newB, cellsT_cons, cellsT_nil, Nat.zero_add, Nat.reduceAdd, retK_one, retK_two, retK_nil, optK_some, T.get_same, T.get_other] <;> rfl⟩
      | true =>
        by_cases hf : r.a < f
        · have c2 : decide (r.a < f) = true := by simp; omega
          apply CG.reg
          · intro k
            simp (maxSteps := 2000000) (disch := first | decide | omega | rfl) only [s5_8, s5_8_0, s5_8_1, List.cons_append, List.nil_append, ↓runS_op, ↓runS_nil, ↓optK_some, optK_some, ↓putT_some, ↓grd_true, grd_true, T.get_same, T.get_other, ↓evO_tmp, ↓grd_blt, grd_blt, ↓runS_if, ↓wantS_tt, wantS_tt, ↓wantS_tf, wantS_tf, ↓wantS_ft, wantS_ft, ↓wantS_ff, wantS_ff, ↓evO_const, ofValue, Nat.add_zero, Nat.zero_add, Nat.reduceAdd, ↓ev_move, ↓ev_bin, ↓binCV_eq, binCV_eq, binR, ↓ev_pick, ↓pickK_true, pickK_true, ↓pickK_false, pickK_false, ↓ev_not, Bool.not_true, Bool.not_false, ↓ldK1_ptr, ↓ldB1_cells, ↓ldKn_ptr, ↓ldBn_cells, ↓read3, read3, ↓read5, read5, List.length_cons, List.length_nil, newB, cellsT_cons, cellsT_nil, ↓ptrK_ptr, ↓fa38_0, ↓ld23, ↓ho, ho, ↓e3, e3, ↓c2, c2]
            exact rfl
          refine CG.cond_true (fun k => by simp (maxSteps := 2000000) (disch := first | decide | omega | rfl) only [evO_tmp, optK_some, T.get_same, T.get_other] <;> rfl) ?_
          refine CG.seq ?_
          apply CG.reg
          · intro k
            simp (maxSteps := 2000000) (disch := first | decide | omega | rfl) only [s5_9, ↓runS_op, ↓runS_nil, ↓optK_some, optK_some, ↓putT_some, ↓grd_true, grd_true, T.get_same, T.get_other, ↓evO_tmp, ↓grd_blt, grd_blt, ↓evO_const, ofValue, ↓ev_assign]
            exact rfl
          refine CG.ret ?_
          have hv : errB (valid l) = 2 := by simp [errB, valid, hch]; omega
          exact ⟨_, _, _, ⟨rfl, hx.new.set (by omega)⟩, fun k => by simp (disch := decide) only [hv, finK_ret, resultsK_tmp, resultsK_nil, rc29, rc38, rc47, resP_ptr, ldKn_ptr, ldBn_cells, read3, read5, read8, newB, cellsT_cons, cellsT_nil, Nat.zero_add, Nat.reduceAdd, retK_one, retK_two, retK_nil, optK_some, T.get_same, T.get_other] <;> rfl⟩
        · have c2 : decide (r.a < f) = false := by simp; omega
          apply CG.reg
          · intro k
            simp (maxSteps := 2000000) (disch := first | decide | omega | rfl) only [s5_8, s5_8_0, s5_8_1, List.cons_append, List.nil_append, ↓runS_op, ↓runS_nil, ↓optK_some, optK_some, ↓putT_some, ↓grd_true, grd_true, T.get_same, T.get_other, ↓evO_tmp, ↓grd_blt, grd_blt, ↓runS_if, ↓wantS_tt, wantS_tt, ↓wantS_tf, wantS_tf, ↓wantS_ft, wantS_ft, ↓wantS_ff, wantS_ff, ↓evO_const, ofValue, Nat.add_zero, Nat.zero_add, Nat.reduceAdd, ↓ev_move, ↓ev_bin, ↓binCV_eq, binCV_eq, binR, ↓ev_pick, ↓pickK_true, pickK_true, ↓pickK_false, pickK_false, ↓ev_not, Bool.not_true, Bool.not_false, ↓ldK1_ptr, ↓ldB1_cells, ↓ldKn_ptr, ↓ldBn_cells, ↓read3, read3, ↓read5, read5, List.length_cons, List.length_nil, newB, cellsT_cons, cellsT_nil, ↓ptrK_ptr, ↓fa38_0, ↓ld23, ↓ho, ho, ↓e3, e3, ↓c2, c2]
            exact rfl
          refine CG.cond_false (fun k => by simp (maxSteps := 2000000) (disch := first | decide | omega | rfl) only [evO_tmp, optK_some, T.get_same, T.get_other] <;> rfl) ?_
          refine CG.skip ?_
          apply CG.reg
          · intro k
            simp (maxSteps := 2000000) (disch := first | decide | omega | rfl) only [s5_10, ↓runS_op, ↓runS_nil, ↓optK_some, optK_some, ↓putT_some, ↓grd_true, grd_true, T.get_same, T.get_other, ↓evO_tmp, ↓grd_blt, grd_blt, ↓ev_move, ↓ev_assign]
            exact rfl
          have w2 : IntKind.i64.wrap ((i : Int) + 1) = ((i + 1 : Nat) : Int) := by rw [wrap_i64 (by omega) (by omega)]; omega
          apply CG.reg
          · intro k
            simp (maxSteps := 2000000) (disch := first | decide | omega | rfl) only [s5_11, ↓runS_op, ↓runS_nil, ↓optK_some, optK_some, ↓putT_some, ↓grd_true, grd_true, T.get_same, T.get_other, ↓evO_tmp, ↓grd_blt, grd_blt, ↓evO_const, ofValue, ↓ev_move, ↓ev_bin, ↓binCV_eq, binCV_eq, binR, ↓e13, e13, ↓w2, w2]
            exact rfl
          refine ⟨l.length - (i + 1), by omega, i + 1, r.a + r.c, by omega, rfl, ?_, by simp (maxSteps := 2000000) (disch := first | decide | omega | rfl) only [e0, T.get_same, T.get_other] <;> rfl, ?_, by simp (maxSteps := 2000000) (disch := first | decide | omega | rfl) only [e11, T.get_same, T.get_other] <;> rfl, by simp (maxSteps := 2000000) (disch := first | decide | omega | rfl) only [e12, T.get_same, T.get_other] <;> rfl, by simp (maxSteps := 2000000) (disch := first | decide | omega | rfl) only [T.get_same, T.get_other] <;> rfl, hx.new.set (by omega)⟩
          · rw [hch, ho]; simp; omega
          · simp (disch := decide) only [T.get_same, T.get_other]
            simp
  · have c1 : decide ((8 : Int) < (l.length : Int)) = true := by simp; omega
    apply CG.reg
    · intro k
      simp (maxSteps := 2000000) (disch := first | decide | omega | rfl) only [s5_1, ↓runS_op, ↓runS_nil, ↓optK_some, optK_some, ↓putT_some, ↓grd_true, grd_true, T.get_same, T.get_other, ↓evO_tmp, ↓grd_blt, grd_blt, ↓evO_const, ofValue, ↓ev_move, ↓ev_bin, ↓binCV_eq, binCV_eq, binR, ↓ev_builtin, ↓evOs_cons, ↓evOs_nil, ↓ln22, ln22, ↓lz22, lz22, ↓ln116, ln116, ↓lz116, lz116, ↓hlen, hlen, ↓c1, c1]
      exact rfl
    refine CG.cond_true (fun k => by simp (maxSteps := 2000000) (disch := first | decide | omega | rfl) only [evO_tmp, optK_some, T.get_same, T.get_other] <;> rfl) ?_
    refine CG.seq ?_
    apply CG.reg
    · intro k
      simp (maxSteps := 2000000) (disch := first | decide | omega | rfl) only [s5_2, ↓runS_op, ↓runS_nil, ↓optK_some, optK_some, ↓putT_some, ↓grd_true, grd_true, T.get_same, T.get_other, ↓evO_tmp, ↓grd_blt, grd_blt, ↓evO_const, ofValue, ↓ev_assign]
      exact rfl
    refine CG.ret ?_
    have hv : errB (valid l) = 2 := by simp [errB, valid, h8]
    exact ⟨_, _, _, ⟨rfl, .refl _ _⟩, fun k => by simp (disch := decide) only [hv, finK_ret, resultsK_tmp, resultsK_nil, rc29, rc38, rc47, resP_ptr, ldKn_ptr, ldBn_cells, read3, read5, read8, newB, cellsT_cons, cellsT_nil, Nat.zero_add, Nat.reduceAdd, retK_one, retK_two, retK_nil, optK_some, T.get_same, T.get_other] <;> rfl⟩
end Go.Proofs.YthdoelcgdgcncaaGreatDoor
/- Walks: sort.Search, place. -/
namespace Go.Proofs.YthdoelcgdgcncaaGreatDoor
open Go Go.Can
variable {β : Type}

theorem SlR.box {h : T Blk} {nx : Nat} {v : CV} {l : List Rg} (s : SlR h nx v l) (h' : T Blk) (nx' : Nat) (k : K β) : boxK v h' nx' k = k (.ptr nx' 0) (h'.set nx' (newB [v])) (nx' + 1) := by
  rcases s with ⟨rfl, rfl⟩ | ⟨b, o, cap, rfl, _⟩ <;> exact newCells_eq1 rfl

theorem SlR.same {h : T Blk} {nx : Nat} {v : CV} {l : List Rg} (s : SlR h nx v l) : CV.same v v = true := by
  rcases s with ⟨rfl, rfl⟩ | ⟨b, o, cap, rfl, _⟩
  · rfl
  · cases cap
    · exact same_slice _ _ _ _
    · exact same_slicO _ _ _ _

theorem call_cap (d : Nat) (f : FuncId) (c : CV) (cs args : List CV) (h : T Blk) (nx : Nat) (k : K β) : callN tab (d + 1) (.fn f [] (c :: cs)) args h nx k = callN tab (d + 1) (.fn f [] []) (args ++ c :: cs) h nx k := rfl

theorem clo48_ok (d : Nat) {v : CV} {l : List Rg} {h : T Blk} {nx bl bp i : Nat} {page : Int} {r : Rg} (hs : SlR h nx v l) (hl : h.get bl = some (newB [v])) (hp : h.get bp = some (newB [.int .u64 page])) (hbl : bl < nx) (hbp : bp < nx)
    (hi : l[i]? = some r) (h0 : 0 ≤ r.a) (h1 : 0 ≤ r.c) (h2 : r.a + r.c < 9223372036854775808) :
    FG (β := β) tab (d + 2) 48 [.int .i64 (i : Int), .ptr bl 0, .ptr bp 0] h nx fun v' h' nx' => v' = .bool (decide (page < r.a + r.c)) ∧ Ext h nx h' nx' := by
  refine FG.of (fn := Tryz.f48) (c := c48) (n := 12) (rs := [.tmp 4]) (by kernel_rfl) (by kernel_rfl) (by kernel_rfl) c48_ok rfl rfl (by simp) fun call hc => ?_
  simp only [cellsT_cons, cellsT_nil, Nat.zero_add, Nat.reduceAdd]
  obtain ⟨b, o, hel⟩ := hs.elem (β := β)
  obtain ⟨hb, hix, n, cs, rw, hbk, g0, g1, g2⟩ := hel i r hi
  obtain ⟨_, H, NX, ⟨rfl, hx⟩, e⟩ := behind_ok (β := β) d r h nx h0 h1 h2
  rw [← hc] at e
  have hp2 : H.get bp = some (newB [.int .u64 page]) := by rw [hx.get bp hbp]; exact hp
  unfold newB at hl hp hp2
  simp only [cellsT_cons, cellsT_nil] at hl hp hp2
  unfold c48
  refine CG.seq ?_
  apply CG.reg
  · intro k
    simp (maxSteps := 2000000) (disch := first | decide | omega | rfl) only [s48_0, ↓runS_op, ↓runS_nil, ↓optK_some, optK_some, ↓putT_some, ↓grd_true, grd_true, T.get_same, T.get_other, ↓evO_tmp, ↓grd_blt, grd_blt, ↓evO_const, ofValue, ↓ev_assign]
    exact rfl
  refine CG.seq ?_
  apply CG.draw dr48_1.1 dr48_1.2.1 dr48_1.2.2.1 dr48_1.2.2.2
  · intro k
    simp (maxSteps := 2000000) (disch := first | decide | omega | rfl) only [dl48_1, ol48_1, pp48_1, ↓runS_op, ↓runS_nil, ↓optK_some, optK_some, ↓putT_some, ↓grd_true, grd_true, T.get_same, T.get_other, ↓evO_tmp, ↓grd_blt, grd_blt, Nat.add_zero, Nat.zero_add, Nat.reduceAdd, ↓ev_move, ↓ev_assign, ↓ev_bin, ↓binCV_eq, binCV_eq, binR, ↓ev_call, ↓evOs_cons, ↓evOs_nil, ↓notMap_fn, notMap_fn, ↓evO_func, List.getElem?_cons_zero, List.getElem?_cons_succ, ↓ldK1_ptr, ↓ldB1_cells, ↓ldKn_ptr, ↓ldBn_cells, ↓read3, read3, ↓read5, read5, List.length_cons, List.length_nil, newB, cellsT_cons, cellsT_nil, ↓natOf_nat, natOf_nat, ↓natOf_0, natOf_0, ↓natOf_1, natOf_1, ↓natOf_2, natOf_2, ↓ixK_sl, ixK_sl, ↓ixK_ar, ixK_ar, Nat.zero_mul, Nat.one_mul, Nat.mul_one, Nat.reduceMul, ↓ld22, ↓ld38, ↓ld23, ↓ix22, ↓drawD_op, ↓drawD_if, ↓drawD_nil, ↓lookK_nil, ↓lookK_cons, ↓chkD_cons, ↓chkD_nil, ↓nthK_zero, ↓nthK_succ, ↓bothK_true, ↓bothK_false, ↓again_eq, chkD_cons, chkD_nil, nthK_zero, nthK_succ, bothK_true, bothK_false, again_eq, same_int, same_bool, same_ptr, same_slice, same_slicO, same_nilslice, same_rg, same_a3, same_fn0, Bool.and_self, Bool.and_false, Bool.false_and, ↓hl, hl, ↓hp, hp, ↓hp2, hp2, ↓hix, hix, ↓hbk, hbk, ↓g0, g0, ↓g1, g1, ↓g2, g2, ↓e, e]
    exact rfl
  refine CG.ret ?_
  exact ⟨_, _, _, ⟨rfl, hx⟩, fun k => by simp (disch := decide) only [finK_ret, resultsK_tmp, resultsK_nil, rc29, rc38, rc47, resP_ptr, ldKn_ptr, ldBn_cells, read3, read5, read8, newB, cellsT_cons, cellsT_nil, Nat.zero_add, Nat.reduceAdd, retK_one, retK_two, retK_nil, optK_some, T.get_same, T.get_other] <;> rfl⟩

theorem shr1 (tb : Tab) (ty : TypeId) (n : Nat) (c : CV → Res β) : binCV tb .shr ty (.int .u64 (n : Int)) (.int .u64 1) c = c (.int .u64 ((n / 2 : Nat) : Int)) := by
  show natK (Nat.shiftRight n 1) (fun n => c (.int .u64 (.ofNat n))) = _
  rw [natK_eq]
  rfl

/-- sort.Search, at a test that once it holds goes on to hold -/
theorem search_ok (d : Nat) {n : Nat} {f : CV} {p : Nat → Bool} {h : T Blk} {nx : Nat} (hf : notMapV f = true) (hn : n ≤ 1000) (hm : ∀ i j, i ≤ j → j < n → p i = true → p j = true)
    (hcall : ∀ i, i < n → ∀ H NX, Ext h nx H NX → ∃ H' NX', Ext H NX H' NX' ∧ ∀ k : K β, callN tab d f [.int .i64 (i : Int)] H NX k = k (.bool (p i)) H' NX') :
    FG (β := β) tab (d + 1) 47 [.int .i64 (n : Int), f] h nx fun v' h' nx' => ∃ j : Nat, v' = .int .i64 (j : Int) ∧ j ≤ n ∧ (∀ i, i < j → p i = false) ∧ (∀ i, j ≤ i → i < n → p i = true) ∧ Ext h nx h' nx' := by
  refine FG.of (fn := Tryz.f47) (c := c47) (n := 26) (rs := [.tmp 4]) (by kernel_rfl) (by kernel_rfl) (by kernel_rfl) c47_ok rfl rfl (by simp) fun call hc => ?_
  simp only [cellsT_cons, cellsT_nil, Nat.zero_add, Nat.reduceAdd]
  rw [← hc] at hcall
  unfold c47
  refine CG.seq ?_
  apply CG.reg
  · intro k
    simp (maxSteps := 2000000) (disch := first | decide | omega | rfl) only [s47_0, ↓runS_op, ↓runS_nil, ↓optK_some, optK_some, ↓putT_some, ↓grd_true, grd_true, T.get_same, T.get_other, ↓evO_tmp, ↓grd_blt, grd_blt, ↓evO_const, ofValue, ↓ev_assign]
    exact rfl
  refine CG.seq ?_
  apply CG.reg
  · intro k
    simp (maxSteps := 2000000) (disch := first | decide | omega | rfl) only [s47_1, ↓runS_op, ↓runS_nil, ↓optK_some, optK_some, ↓putT_some, ↓grd_true, grd_true, T.get_same, T.get_other, ↓evO_tmp, ↓grd_blt, grd_blt, ↓evO_const, ofValue, ↓ev_move, ↓ev_assign]
    exact rfl
  refine CG.seq ?_
  refine CG.block ?_
  refine CG.loop (fun m t h' nx' => ∃ lo hi : Nat, lo ≤ hi ∧ hi ≤ n ∧ m = hi - lo ∧ (∀ i, i < lo → p i = false) ∧ (∀ i, hi ≤ i → i < n → p i = true) ∧ t.get 1 = some f ∧ t.get 5 = some (.int .i64 (lo : Int)) ∧ t.get 6 = some (.int .i64 (hi : Int)) ∧ Ext h nx h' nx') ?_ (m := n) (by omega) ?_
  rotate_left
  · exact ⟨0, n, by omega, by omega, by omega, fun i hi => by omega, fun i h1 h2 => by omega, by simp (maxSteps := 2000000) (disch := first | decide | omega | rfl) only [T.get_same, T.get_other] <;> rfl, by simp (maxSteps := 2000000) (disch := first | decide | omega | rfl) only [T.get_same, T.get_other] <;> rfl, by simp (maxSteps := 2000000) (disch := first | decide | omega | rfl) only [T.get_same, T.get_other] <;> rfl, .refl _ _⟩
  rintro m t h' nx' ⟨lo, hi, hle, hin, rfl, hlo, hhi, e1, e5, e6, hx⟩
  refine CG.seq ?_
  refine CG.seq ?_
  by_cases hend : lo < hi
  · have c1 : decide ((lo : Int) < (hi : Int)) = true := by simp; omega
    apply CG.reg
    · intro k
      simp (maxSteps := 2000000) (disch := first | decide | omega | rfl) only [s47_2, ↓runS_op, ↓runS_nil, ↓optK_some, optK_some, ↓putT_some, ↓grd_true, grd_true, T.get_same, T.get_other, ↓evO_tmp, ↓grd_blt, grd_blt, ↓ev_move, ↓ev_bin, ↓binCV_eq, binCV_eq, binR, ↓e5, e5, ↓e6, e6, ↓c1, c1]
      exact rfl
    refine CG.cond_true (fun k => by simp (maxSteps := 2000000) (disch := first | decide | omega | rfl) only [evO_tmp, optK_some, T.get_same, T.get_other] <;> rfl) ?_
    refine CG.skip ?_
    refine CG.block ?_
    refine CG.seq ?_
    have w1 : IntKind.i64.wrap ((lo : Int) + (hi : Int)) = ((lo + hi : Nat) : Int) := by rw [wrap_i64 (by omega) (by omega)]; omega
    have w2 : IntKind.u64.wrap ((lo + hi : Nat) : Int) = ((lo + hi : Nat) : Int) := wrap_u64 (by omega) (by omega)
    have w3 : IntKind.i64.wrap (((lo + hi) / 2 : Nat) : Int) = (((lo + hi) / 2 : Nat) : Int) := wrap_i64 (by omega) (by omega)
    apply CG.reg
    · intro k
      simp (maxSteps := 2000000) (disch := first | decide | omega | rfl) only [s47_3, ↓runS_op, ↓runS_nil, ↓optK_some, optK_some, ↓putT_some, ↓grd_true, grd_true, T.get_same, T.get_other, ↓evO_tmp, ↓grd_blt, grd_blt, ↓evO_const, ofValue, ↓ev_move, ↓ev_assign, ↓ev_bin, ↓binCV_eq, binCV_eq, binR, ↓convK_int, convK_int, ↓cn3_150, ↓cn150_3, ↓e5, e5, ↓e6, e6, ↓w1, w1, ↓w2, w2, ↓w3, w3, ↓shr1, shr1]
      exact rfl
    refine CG.seq ?_
    obtain ⟨H', NX', hx2, e⟩ := hcall ((lo + hi) / 2) (by omega) h' nx' hx
    cases hp : p ((lo + hi) / 2) with
    | false =>
      rw [hp] at e
      apply CG.reg
      · intro k
        simp (maxSteps := 2000000) (disch := first | decide | omega | rfl) only [s47_4, ↓runS_op, ↓runS_nil, ↓optK_some, optK_some, ↓putT_some, ↓grd_true, grd_true, T.get_same, T.get_other, ↓evO_tmp, ↓grd_blt, grd_blt, ↓ev_move, ↓ev_not, Bool.not_true, Bool.not_false, ↓ev_call, ↓evOs_cons, ↓evOs_nil, ↓notMap_fn, notMap_fn, ↓evO_func, List.getElem?_cons_zero, List.getElem?_cons_succ, ↓e1, e1, ↓hf, hf, ↓e, e]
        exact rfl
      refine CG.cond_true (fun k => by simp (maxSteps := 2000000) (disch := first | decide | omega | rfl) only [evO_tmp, optK_some, T.get_same, T.get_other] <;> rfl) ?_
      have w4 : IntKind.i64.wrap ((((lo + hi) / 2 : Nat) : Int) + 1) = (((lo + hi) / 2 + 1 : Nat) : Int) := by rw [wrap_i64 (by omega) (by omega)]; omega
      apply CG.reg
      · intro k
        simp (maxSteps := 2000000) (disch := first | decide | omega | rfl) only [s47_5, ↓runS_op, ↓runS_nil, ↓optK_some, optK_some, ↓putT_some, ↓grd_true, grd_true, T.get_same, T.get_other, ↓evO_tmp, ↓grd_blt, grd_blt, ↓evO_const, ofValue, ↓ev_move, ↓ev_assign, ↓ev_bin, ↓binCV_eq, binCV_eq, binR, ↓w4, w4]
        exact rfl
      refine ⟨hi - ((lo + hi) / 2 + 1), by omega, (lo + hi) / 2 + 1, hi, by omega, hin, rfl, fun i hi' => ?_, hhi, by simp (maxSteps := 2000000) (disch := first | decide | omega | rfl) only [e1, T.get_same, T.get_other] <;> rfl, by simp (maxSteps := 2000000) (disch := first | decide | omega | rfl) only [T.get_same, T.get_other] <;> rfl, by simp (maxSteps := 2000000) (disch := first | decide | omega | rfl) only [e6, T.get_same, T.get_other] <;> rfl, hx.trans hx2⟩
      cases hpi : p i with
      | false => rfl
      | true => rw [hm i ((lo + hi) / 2) (by omega) (by omega) hpi] at hp; cases hp
    | true =>
      rw [hp] at e
      apply CG.reg
      · intro k
        simp (maxSteps := 2000000) (disch := first | decide | omega | rfl) only [s47_4, ↓runS_op, ↓runS_nil, ↓optK_some, optK_some, ↓putT_some, ↓grd_true, grd_true, T.get_same, T.get_other, ↓evO_tmp, ↓grd_blt, grd_blt, ↓ev_move, ↓ev_not, Bool.not_true, Bool.not_false, ↓ev_call, ↓evOs_cons, ↓evOs_nil, ↓notMap_fn, notMap_fn, ↓evO_func, List.getElem?_cons_zero, List.getElem?_cons_succ, ↓e1, e1, ↓hf, hf, ↓e, e]
        exact rfl
      refine CG.cond_false (fun k => by simp (maxSteps := 2000000) (disch := first | decide | omega | rfl) only [evO_tmp, optK_some, T.get_same, T.get_other] <;> rfl) ?_
      apply CG.reg
      · intro k
        simp (maxSteps := 2000000) (disch := first | decide | omega | rfl) only [s47_6, ↓runS_op, ↓runS_nil, ↓optK_some, optK_some, ↓putT_some, ↓grd_true, grd_true, T.get_same, T.get_other, ↓evO_tmp, ↓grd_blt, grd_blt, ↓ev_move, ↓ev_assign]
        exact rfl
      exact ⟨(lo + hi) / 2 - lo, by omega, lo, (lo + hi) / 2, by omega, by omega, rfl, hlo, fun i h1 h2 => hm _ i h1 h2 hp, by simp (maxSteps := 2000000) (disch := first | decide | omega | rfl) only [e1, T.get_same, T.get_other] <;> rfl, by simp (maxSteps := 2000000) (disch := first | decide | omega | rfl) only [e5, T.get_same, T.get_other] <;> rfl, by simp (maxSteps := 2000000) (disch := first | decide | omega | rfl) only [T.get_same, T.get_other] <;> rfl, hx.trans hx2⟩
  · have c1 : decide ((lo : Int) < (hi : Int)) = false := by simp; omega
    apply CG.reg
    · intro k
      simp (maxSteps := 2000000) (disch := first | decide | omega | rfl) only [s47_2, ↓runS_op, ↓runS_nil, ↓optK_some, optK_some, ↓putT_some, ↓grd_true, grd_true, T.get_same, T.get_other, ↓evO_tmp, ↓grd_blt, grd_blt, ↓ev_move, ↓ev_bin, ↓binCV_eq, binCV_eq, binR, ↓e5, e5, ↓e6, e6, ↓c1, c1]
      exact rfl
    refine CG.cond_false (fun k => by simp (maxSteps := 2000000) (disch := first | decide | omega | rfl) only [evO_tmp, optK_some, T.get_same, T.get_other] <;> rfl) ?_
    refine CG.exit ?_
    simp only [if_pos]
    refine CG.seq ?_
    apply CG.reg
    · intro k
      simp (maxSteps := 2000000) (disch := first | decide | omega | rfl) only [s47_7, ↓runS_op, ↓runS_nil, ↓optK_some, optK_some, ↓putT_some, ↓grd_true, grd_true, T.get_same, T.get_other, ↓evO_tmp, ↓grd_blt, grd_blt, ↓ev_move, ↓ev_assign, ↓e5, e5]
      exact rfl
    refine CG.ret ?_
    exact ⟨_, _, _, ⟨lo, rfl, by omega, hlo, fun i h1 h2 => hhi i (by omega) h2, hx⟩, fun k => by simp (disch := decide) only [finK_ret, resultsK_tmp, resultsK_nil, rc29, rc38, rc47, resP_ptr, ldKn_ptr, ldBn_cells, read3, read5, read8, newB, cellsT_cons, cellsT_nil, Nat.zero_add, Nat.reduceAdd, retK_one, retK_two, retK_nil, optK_some, T.get_same, T.get_other] <;> rfl⟩

/-- how many regions end at or ahead of a page -/
def placeN (l : List Rg) (page : Int) : Nat := (l.takeWhile fun r => decide (r.a + r.c ≤ page)).length

theorem chain_from : ∀ (f : Int) (l : List Rg), chain f l = true → ∀ r ∈ l, f ≤ r.a
  | f, [], _, r, h => by simp at h
  | f, x :: l, h, r, hr => by
    simp only [chain, Bool.and_eq_true, decide_eq_true_eq] at h
    rcases List.mem_cons.1 hr with rfl | hr
    · exact h.1.2
    · have h1 := chain_from _ l h.2 r hr
      have h2 := okE_iff.1 h.1.1
      omega

theorem chain_mono : ∀ (f : Int) (l : List Rg), chain f l = true → ∀ (i j : Nat) (r s : Rg), i < j → l[i]? = some r → l[j]? = some s → r.a + r.c ≤ s.a
  | f, [], _, i, j, r, s, _, h, _ => by simp at h
  | f, x :: l, h, 0, j + 1, r, s, _, hi, hj => by
    simp only [chain, Bool.and_eq_true] at h
    simp at hi hj
    subst hi
    exact chain_from _ l h.2 s (List.mem_of_getElem? hj)
  | f, x :: l, h, i + 1, j + 1, r, s, hij, hi, hj => by
    simp only [chain, Bool.and_eq_true] at h
    exact chain_mono _ l h.2 i j r s (by omega) (by simpa using hi) (by simpa using hj)

theorem placeN_eq : ∀ (l : List Rg) (page : Int) (j : Nat), j ≤ l.length → (∀ i r, i < j → l[i]? = some r → r.a + r.c ≤ page) → (∀ r, l[j]? = some r → page < r.a + r.c) → placeN l page = j
  | [], page, j, hj, _, _ => by simp at hj; subst hj; rfl
  | x :: l, page, 0, hj, _, h2 => by
    have := h2 x rfl
    unfold placeN
    rw [List.takeWhile_cons, if_neg (by simp; omega)]
    rfl
  | x :: l, page, j + 1, hj, h1, h2 => by
    have h0 := h1 0 x (by omega) rfl
    unfold placeN
    rw [List.takeWhile_cons, if_pos (by simp; omega)]
    simp only [List.length_cons]
    have := placeN_eq l page j (by simpa using hj) (fun i r hi hr => h1 (i + 1) r (by omega) (by simpa using hr)) (fun r hr => h2 r (by simpa using hr))
    unfold placeN at this
    rw [this]

theorem newB_get (h : T Blk) (m : Nat) (B : Blk) : (h.set m B).get m = some B := T.get_same _ _ _

theorem place_ok (d : Nat) {v : CV} {l : List Rg} {h : T Blk} {nx : Nat} {page : Int} (hs : SlR h nx v l) (hl : l.length ≤ 8) (hch : chain 0 l = true) :
    FG (β := β) tab (d + 4) 19 [v, .int .u64 page] h nx fun v' h' nx' => v' = .int .i64 (placeN l page : Int) ∧ Ext h nx h' nx' := by
  refine FG.of (fn := Tryz.f19) (c := c19) (n := 9) (rs := [.tmp 4]) (by kernel_rfl) (by kernel_rfl) (by kernel_rfl) c19_ok rfl rfl (by simp) fun call hc => ?_
  have hlen := fun tys h' nx' k => hs.len (β := β) tys h' nx' k
  have hbox := fun h' nx' k => hs.box (β := β) h' nx' k
  simp only [cellsT_cons, cellsT_nil, Nat.zero_add, Nat.reduceAdd]
  have hall : ∀ (i : Nat) (r : Rg), l[i]? = some r → 0 ≤ r.a ∧ 1 ≤ r.c ∧ r.a + r.c ≤ 34359738368 := fun i r hr => by
    have hm := List.mem_of_getElem? hr
    have h1 := okE_iff.1 (chain_all 0 l hch r hm)
    have h2 := chain_from 0 l hch r hm
    omega
  let P : Nat → Bool := fun i => match l[i]? with | some r => decide (page < r.a + r.c) | none => false
  have hP : ∀ (i : Nat) (r : Rg), l[i]? = some r → P i = decide (page < r.a + r.c) := fun i r hr => by simp only [P, hr]
  have hx0 : Ext h nx ((h.set nx (newB [v])).set (nx + 1) (newB [.int .u64 page])) (nx + 1 + 1) := (Ext.refl h nx).new.new
  obtain ⟨_, H, NX, ⟨j, rfl, hj, hlo, hhi, hx⟩, e⟩ := search_ok (β := β) (d + 2) (n := l.length) (f := .fn 48 [] [.ptr nx 0, .ptr (nx + 1) 0]) (p := P) (h := (h.set nx (newB [v])).set (nx + 1) (newB [.int .u64 page])) (nx := nx + 1 + 1) rfl (by omega)
    (fun i j hij hjl hp => by
      obtain ⟨r, hr⟩ : ∃ r, l[i]? = some r := ⟨l[i]'(by omega), List.getElem?_eq_getElem (by omega)⟩
      obtain ⟨s, hs'⟩ : ∃ r, l[j]? = some r := ⟨l[j], List.getElem?_eq_getElem hjl⟩
      rw [hP i r hr] at hp
      rw [hP j s hs']
      rcases Nat.lt_or_eq_of_le hij with hij | rfl
      · have h1 := chain_mono 0 l hch i j r s hij hr hs'
        have h2 := hall i r hr
        have h3 := hall j s hs'
        simp at hp ⊢
        omega
      · rw [hr] at hs'; cases hs'; exact hp)
    (fun i hi H NX hx => by
      obtain ⟨r, hr⟩ : ∃ r, l[i]? = some r := ⟨l[i], List.getElem?_eq_getElem hi⟩
      have h3 := hall i r hr
      have hle := hx.le
      obtain ⟨_, H', NX', ⟨rfl, hx'⟩, e⟩ := clo48_ok (β := β) d (h := H) (nx := NX) (bl := nx) (bp := nx + 1) (page := page) (hs.ext (hx0.trans hx)) (by rw [hx.get nx (by omega), T.get_other _ _ (by omega), T.get_same]) (by rw [hx.get (nx + 1) (by omega), T.get_same]) (by omega) (by omega) hr h3.1 (by omega) (by omega)
      exact ⟨H', NX', hx', fun k => by rw [call_cap, hP i r hr]; exact e k⟩)
  rw [show d + 2 + 1 = d + 3 from rfl, ← hc] at e
  simp only [newB, cellsT_cons, cellsT_nil, Nat.zero_add, Nat.reduceAdd, List.length_cons, List.length_nil] at e
  unfold c19
  refine CG.seq ?_
  apply CG.reg
  · intro k
    simp (maxSteps := 2000000) (disch := first | decide | omega | rfl) only [s19_0, ↓runS_op, ↓runS_nil, ↓optK_some, optK_some, ↓putT_some, ↓grd_true, grd_true, T.get_same, T.get_other, ↓evO_tmp, ↓grd_blt, grd_blt, ↓evO_const, ofValue, Nat.add_zero, Nat.zero_add, Nat.reduceAdd, ↓ev_assign, ↓ev_box1, ↓boxK_int, ↓boxK_bool, ↓boxK_rg, ↓boxK_a3, ↓boxK_a4, ↓boxK_slice, ↓boxK_nilslice, ↓boxK_fn, List.length_cons, List.length_nil, newB, cellsT_cons, cellsT_nil, ↓hbox, hbox]
    exact rfl
  refine CG.seq ?_
  apply CG.reg
  · intro k
    simp (maxSteps := 2000000) (disch := first | decide | omega | rfl) only [s19_1, ↓runS_op, ↓runS_nil, ↓optK_some, optK_some, ↓putT_some, ↓grd_true, grd_true, T.get_same, T.get_other, ↓evO_tmp, ↓grd_blt, grd_blt, Nat.add_zero, Nat.zero_add, Nat.reduceAdd, ↓ev_assign, ↓ev_call, ↓evOs_cons, ↓evOs_nil, ↓notMap_fn, notMap_fn, ↓evO_func, List.getElem?_cons_zero, List.getElem?_cons_succ, ↓ev_builtin, ↓ln22, ln22, ↓lz22, lz22, ↓ln116, ln116, ↓lz116, lz116, ↓ldK1_ptr, ↓ldB1_cells, ↓ldKn_ptr, ↓ldBn_cells, ↓read3, read3, ↓read5, read5, List.length_cons, List.length_nil, newB, cellsT_cons, cellsT_nil, ↓ev_mkfunc, ↓ld22, ↓hlen, hlen, ↓e, e]
    exact rfl
  refine CG.ret ?_
  refine ⟨_, _, _, ⟨?_, hx0.trans hx⟩, fun k => by simp (disch := decide) only [finK_ret, resultsK_tmp, resultsK_nil, rc29, rc38, rc47, resP_ptr, ldKn_ptr, ldBn_cells, read3, read5, read8, newB, cellsT_cons, cellsT_nil, Nat.zero_add, Nat.reduceAdd, retK_one, retK_two, retK_nil, optK_some, T.get_same, T.get_other] <;> rfl⟩
  rw [placeN_eq l page j hj (fun i r hi hr => by have := hlo i hi; rw [hP i r hr] at this; simp at this; omega) (fun r hr => by
    have := hhi j (Nat.le_refl _) (List.getElem?_eq_some_iff.1 hr).1
    rw [hP j r hr] at this
    simpa using this)]
end Go.Proofs.YthdoelcgdgcncaaGreatDoor
/- Walks: Find, Whole. -/
namespace Go.Proofs.YthdoelcgdgcncaaGreatDoor
open Go Go.Can
variable {β : Type}

/-- the region that a page is in -/
def findL (l : List Rg) (page : Int) : Option Rg :=
  match l[placeN l page]? with
  | some r => if r.a ≤ page then some r else none
  | none => none
def findV (l : List Rg) (page : Int) : Option Rg := if valid l then findL l page else none

def rgO : Option Rg → Rg
  | some r => r
  | none => ⟨0, 0, false⟩

theorem valid_len {l : List Rg} (h : valid l = true) : l.length ≤ 8 := by simp [valid] at h; exact h.1.1
theorem valid_chain {l : List Rg} (h : valid l = true) : chain 0 l = true := by simp [valid] at h; exact h.1.2
theorem valid_sum {l : List Rg} (h : valid l = true) : sumC l ≤ 16 := by simp [valid] at h; exact h.2

theorem placeN_le (l : List Rg) (page : Int) : placeN l page ≤ l.length := by
  unfold placeN
  exact (List.takeWhile_sublist _).length_le

theorem find_ok (d : Nat) {v : CV} {l : List Rg} {h : T Blk} {nx : Nat} {page : Int} (hs : SlR h nx v l) (hok : ∀ r ∈ l, r.ok) :
    FG (β := β) tab (d + 5) 11 [v, .int .u64 page] h nx fun v' h' nx' => v' = .tup [.agg [.int .u64 (rgO (findV l page)).a, .int .i64 (rgO (findV l page)).c, .bool (rgO (findV l page)).w], .bool (findV l page).isSome] ∧ Ext h nx h' nx' := by
  refine FG.of (fn := Tryz.f11) (c := c11) (n := 32) (rs := [.cell 4 38, .tmp 5]) (by kernel_rfl) (by kernel_rfl) (by kernel_rfl) c11_ok rfl rfl (by simp) fun call hc => ?_
  have hlen := fun tys h' nx' k => hs.len (β := β) tys h' nx' k
  obtain ⟨b, o, hel⟩ := hs.elem (β := β)
  simp only [cellsT_cons, cellsT_nil, Nat.zero_add, Nat.reduceAdd]
  unfold c11
  refine CG.seq ?_
  apply CG.reg
  · intro k
    simp (maxSteps := 2000000) (disch := first | decide | omega | rfl) only [s11_0, ↓runS_op, ↓runS_nil, ↓optK_some, optK_some, ↓putT_some, ↓grd_true, grd_true, T.get_same, T.get_other, ↓evO_tmp, ↓grd_blt, grd_blt, ↓evO_const, ofValue, Nat.add_zero, Nat.zero_add, Nat.reduceAdd, ↓ev_assign, List.length_cons, List.length_nil, newB, cellsT_cons, cellsT_nil, ↓al38]
    exact rfl
  have hx0 : Ext h nx (h.set nx (newB [.int .u64 0, .int .i64 0, .bool false])) (nx + 1) := (Ext.refl h nx).new
  obtain ⟨_, H, NX, ⟨rfl, hx⟩, e⟩ := check_ok (β := β) (d + 2) (hs.ext hx0) hok
  rw [show d + 2 + 2 = d + 4 from rfl, ← hc] at e
  have hN : H.get nx = some (newB [.int .u64 0, .int .i64 0, .bool false]) := by rw [hx.get nx (by omega), T.get_same]
  have hle := hx.le
  simp only [newB, cellsT_cons, cellsT_nil, Nat.zero_add, Nat.reduceAdd, List.length_cons, List.length_nil] at e
  simp only [newB, cellsT_cons, cellsT_nil, Nat.zero_add, Nat.reduceAdd, List.length_cons, List.length_nil] at hN
  refine CG.seq ?_
  refine CG.seq ?_
  cases hv : valid l with
  | false =>
    have c1 : decide (errB (valid l) = 0) = false := by simp [hv, errB]
    apply CG.reg
    · intro k
      simp (maxSteps := 2000000) (disch := first | decide | omega | rfl) only [s11_1, ↓runS_op, ↓runS_nil, ↓optK_some, optK_some, ↓putT_some, ↓grd_true, grd_true, T.get_same, T.get_other, ↓evO_tmp, ↓grd_blt, grd_blt, ↓evO_const, ofValue, ↓ev_move, ↓ev_bin, ↓binCV_eq, binCV_eq, binR, ↓ev_call, ↓evOs_cons, ↓evOs_nil, ↓notMap_fn, notMap_fn, ↓evO_func, List.getElem?_cons_zero, List.getElem?_cons_succ, ↓e, e, ↓c1, c1]
      exact rfl
    refine CG.cond_true (fun k => by simp (maxSteps := 2000000) (disch := first | decide | omega | rfl) only [evO_tmp, optK_some, T.get_same, T.get_other] <;> rfl) ?_
    refine CG.seq ?_
    apply CG.reg
    · intro k
      simp (maxSteps := 2000000) (disch := first | decide | omega | rfl) only [s11_2, ↓runS_op, ↓runS_nil, ↓optK_some, optK_some, ↓putT_some, ↓grd_true, grd_true, T.get_same, T.get_other, ↓evO_tmp, ↓grd_blt, grd_blt, ↓evO_const, ofValue, ↓putT_none, Nat.add_zero, Nat.zero_add, Nat.reduceAdd, ↓ev_assign, ↓ptrOf_ptr, ↓stK_eq, ↓stB_cells, ↓grd_beq, grd_beq, ↓grd_ble, grd_ble, Bool.true_and, Bool.and_true, cells_int, cells_bool, cells_agg, cells_slice, cells_nilslice, cells_fn, cells_nilfn, cells_ptr, List.length_cons, List.length_nil, newB, cellsT_cons, cellsT_nil, ↓fillS_nil, ↓fillS_cons, ↓fill1_0, fill1_0, ↓fill1_1, fill1_1, ↓fill1_2, fill1_2, ↓fill1_3, fill1_3, ↓fill1_4, fill1_4, ↓fill1_5, fill1_5, ↓fill1_6, fill1_6, ↓fill1_7, fill1_7, ↓fill3_0, fill3_0, ↓fill3_3, fill3_3, ↓fill3_6, fill3_6, ↓st38, pl38_0, pl38_1, pl38_2, ↓bd38a, ↓bd38_0, ↓hN, hN]
      exact rfl
    refine CG.ret ?_
    have hf : findV l page = none := by simp [findV, hv]
    refine ⟨_, _, _, ⟨rfl, ?_⟩, fun k => by simp (disch := first | decide | omega) only [hf, rgO, finK_ret, resultsK_tmp, resultsK_nil, rc29, rc38, rc47, resP_ptr, ldKn_ptr, ldBn_cells, read3, read5, read8, newB, cellsT_cons, cellsT_nil, Nat.zero_add, Nat.reduceAdd, retK_one, retK_two, retK_nil, optK_some, T.get_same, T.get_other] <;> rfl⟩
    exact (hx0.trans hx).set (by omega)
  | true =>
    have c1 : decide (errB (valid l) = 0) = true := by simp [hv, errB]
    apply CG.reg
    · intro k
      simp (maxSteps := 2000000) (disch := first | decide | omega | rfl) only [s11_1, ↓runS_op, ↓runS_nil, ↓optK_some, optK_some, ↓putT_some, ↓grd_true, grd_true, T.get_same, T.get_other, ↓evO_tmp, ↓grd_blt, grd_blt, ↓evO_const, ofValue, ↓ev_move, ↓ev_bin, ↓binCV_eq, binCV_eq, binR, ↓ev_call, ↓evOs_cons, ↓evOs_nil, ↓notMap_fn, notMap_fn, ↓evO_func, List.getElem?_cons_zero, List.getElem?_cons_succ, ↓e, e, ↓c1, c1]
      exact rfl
    refine CG.cond_false (fun k => by simp (maxSteps := 2000000) (disch := first | decide | omega | rfl) only [evO_tmp, optK_some, T.get_same, T.get_other] <;> rfl) ?_
    refine CG.skip ?_
    refine CG.seq ?_
    obtain ⟨_, H2, NX2, ⟨rfl, hx2⟩, e2⟩ := place_ok (β := β) d (page := page) (hs.ext (hx0.trans hx)) (valid_len hv) (valid_chain hv)
    rw [← hc] at e2
    have hN2 : H2.get nx = some (newB [.int .u64 0, .int .i64 0, .bool false]) := by rw [hx2.get nx (by omega), hx.get nx (by omega), T.get_same]
    have hle2 := hx2.le
    have hX := (hx0.trans hx).trans hx2
    simp only [newB, cellsT_cons, cellsT_nil, Nat.zero_add, Nat.reduceAdd, List.length_cons, List.length_nil] at hN2
    apply CG.reg
    · intro k
      simp (maxSteps := 2000000) (disch := first | decide | omega | rfl) only [s11_3, ↓runS_op, ↓runS_nil, ↓optK_some, optK_some, ↓putT_some, ↓grd_true, grd_true, T.get_same, T.get_other, ↓evO_tmp, ↓grd_blt, grd_blt, ↓ev_move, ↓ev_assign, ↓ev_call, ↓evOs_cons, ↓evOs_nil, ↓notMap_fn, notMap_fn, ↓evO_func, List.getElem?_cons_zero, List.getElem?_cons_succ, ↓e2, e2]
      exact rfl
    refine CG.seq ?_
    refine CG.seq ?_
    have hpl := placeN_le l page
    have hfind : findL l page = (match l[placeN l page]? with | some r => if r.a ≤ page then some r else none | none => none) := rfl
    generalize placeN l page = pn at *
    by_cases hend : pn = l.length
    · have c2 : decide ((pn : Int) = (l.length : Int)) = true := by simp; omega
      apply CG.reg
      · intro k
        simp (maxSteps := 2000000) (disch := first | decide | omega | rfl) only [s11_4, s11_4_0, s11_4_1, List.cons_append, List.nil_append, ↓runS_op, ↓runS_nil, ↓optK_some, optK_some, ↓putT_some, ↓grd_true, grd_true, T.get_same, T.get_other, ↓evO_tmp, ↓grd_blt, grd_blt, ↓runS_if, ↓wantS_tt, wantS_tt, ↓wantS_tf, wantS_tf, ↓wantS_ft, wantS_ft, ↓wantS_ff, wantS_ff, ↓evO_const, ofValue, Nat.add_zero, Nat.zero_add, Nat.reduceAdd, ↓ev_move, ↓ev_bin, ↓binCV_eq, binCV_eq, binR, ↓ev_pick, ↓pickK_true, pickK_true, ↓pickK_false, pickK_false, ↓ev_builtin, ↓evOs_cons, ↓evOs_nil, ↓ln22, ln22, ↓lz22, lz22, ↓ln116, ln116, ↓lz116, lz116, ↓ldK1_ptr, ↓ldB1_cells, ↓ldKn_ptr, ↓ldBn_cells, ↓read3, read3, ↓read5, read5, List.length_cons, List.length_nil, newB, cellsT_cons, cellsT_nil, ↓natOf_nat, natOf_nat, ↓natOf_0, natOf_0, ↓natOf_1, natOf_1, ↓natOf_2, natOf_2, ↓ixK_sl, ixK_sl, ↓ixK_ar, ixK_ar, Nat.zero_mul, Nat.one_mul, Nat.mul_one, Nat.reduceMul, ↓ptrK_ptr, ↓fa38_0, ↓ld23, ↓ix22, ↓hlen, hlen, ↓c2, c2]
        exact rfl
      refine CG.cond_true (fun k => by simp (maxSteps := 2000000) (disch := first | decide | omega | rfl) only [evO_tmp, optK_some, T.get_same, T.get_other] <;> rfl) ?_
      refine CG.seq ?_
      apply CG.reg
      · intro k
        simp (maxSteps := 2000000) (disch := first | decide | omega | rfl) only [s11_5, ↓runS_op, ↓runS_nil, ↓optK_some, optK_some, ↓putT_some, ↓grd_true, grd_true, T.get_same, T.get_other, ↓evO_tmp, ↓grd_blt, grd_blt, ↓evO_const, ofValue, ↓putT_none, Nat.add_zero, Nat.zero_add, Nat.reduceAdd, ↓ev_assign, ↓ptrOf_ptr, ↓stK_eq, ↓stB_cells, ↓grd_beq, grd_beq, ↓grd_ble, grd_ble, Bool.true_and, Bool.and_true, cells_int, cells_bool, cells_agg, cells_slice, cells_nilslice, cells_fn, cells_nilfn, cells_ptr, List.length_cons, List.length_nil, newB, cellsT_cons, cellsT_nil, ↓fillS_nil, ↓fillS_cons, ↓fill1_0, fill1_0, ↓fill1_1, fill1_1, ↓fill1_2, fill1_2, ↓fill1_3, fill1_3, ↓fill1_4, fill1_4, ↓fill1_5, fill1_5, ↓fill1_6, fill1_6, ↓fill1_7, fill1_7, ↓fill3_0, fill3_0, ↓fill3_3, fill3_3, ↓fill3_6, fill3_6, ↓st38, pl38_0, pl38_1, pl38_2, ↓bd38a, ↓bd38_0, ↓hN2, hN2]
        exact rfl
      refine CG.ret ?_
      have hf : findV l page = none := by simp [findV, hv, hfind, hend]
      refine ⟨_, _, _, ⟨rfl, ?_⟩, fun k => by simp (disch := first | decide | omega) only [hf, rgO, finK_ret, resultsK_tmp, resultsK_nil, rc29, rc38, rc47, resP_ptr, ldKn_ptr, ldBn_cells, read3, read5, read8, newB, cellsT_cons, cellsT_nil, Nat.zero_add, Nat.reduceAdd, retK_one, retK_two, retK_nil, optK_some, T.get_same, T.get_other] <;> rfl⟩
      exact hX.set (by omega)
    · have c2 : decide ((pn : Int) = (l.length : Int)) = false := by simp; omega
      obtain ⟨r, hr⟩ : ∃ r, l[pn]? = some r := ⟨l[pn]'(by omega), List.getElem?_eq_getElem (by omega)⟩
      obtain ⟨hb, hix, n, cs, rw, hbk, g0, g1, g2⟩ := hel _ r hr
      have hb2 : H2.get b = some (.cells n cs rw) := by rw [hX.get b hb]; exact hbk
      by_cases hgt : page < r.a
      · have c3 : decide (page < r.a) = true := by simp; omega
        apply CG.reg
        · intro k
          simp (maxSteps := 2000000) (disch := first | decide | omega | rfl) only [s11_4, s11_4_0, s11_4_1, List.cons_append, List.nil_append, ↓runS_op, ↓runS_nil, ↓optK_some, optK_some, ↓putT_some, ↓grd_true, grd_true, T.get_same, T.get_other, ↓evO_tmp, ↓grd_blt, grd_blt, ↓runS_if, ↓wantS_tt, wantS_tt, ↓wantS_tf, wantS_tf, ↓wantS_ft, wantS_ft, ↓wantS_ff, wantS_ff, ↓evO_const, ofValue, Nat.add_zero, Nat.zero_add, Nat.reduceAdd, ↓ev_move, ↓ev_bin, ↓binCV_eq, binCV_eq, binR, ↓ev_pick, ↓pickK_true, pickK_true, ↓pickK_false, pickK_false, ↓ev_builtin, ↓evOs_cons, ↓evOs_nil, ↓ln22, ln22, ↓lz22, lz22, ↓ln116, ln116, ↓lz116, lz116, ↓ldK1_ptr, ↓ldB1_cells, ↓ldKn_ptr, ↓ldBn_cells, ↓read3, read3, ↓read5, read5, List.length_cons, List.length_nil, newB, cellsT_cons, cellsT_nil, ↓natOf_nat, natOf_nat, ↓natOf_0, natOf_0, ↓natOf_1, natOf_1, ↓natOf_2, natOf_2, ↓ixK_sl, ixK_sl, ↓ixK_ar, ixK_ar, Nat.zero_mul, Nat.one_mul, Nat.mul_one, Nat.reduceMul, ↓ptrK_ptr, ↓fa38_0, ↓ld23, ↓ix22, ↓hlen, hlen, ↓c2, c2, ↓c3, c3, ↓hix, hix, ↓hb2, hb2, ↓g0, g0, ↓g1, g1, ↓g2, g2]
          exact rfl
        refine CG.cond_true (fun k => by simp (maxSteps := 2000000) (disch := first | decide | omega | rfl) only [evO_tmp, optK_some, T.get_same, T.get_other] <;> rfl) ?_
        refine CG.seq ?_
        apply CG.reg
        · intro k
          simp (maxSteps := 2000000) (disch := first | decide | omega | rfl) only [s11_5, ↓runS_op, ↓runS_nil, ↓optK_some, optK_some, ↓putT_some, ↓grd_true, grd_true, T.get_same, T.get_other, ↓evO_tmp, ↓grd_blt, grd_blt, ↓evO_const, ofValue, ↓putT_none, Nat.add_zero, Nat.zero_add, Nat.reduceAdd, ↓ev_assign, ↓ptrOf_ptr, ↓stK_eq, ↓stB_cells, ↓grd_beq, grd_beq, ↓grd_ble, grd_ble, Bool.true_and, Bool.and_true, cells_int, cells_bool, cells_agg, cells_slice, cells_nilslice, cells_fn, cells_nilfn, cells_ptr, List.length_cons, List.length_nil, newB, cellsT_cons, cellsT_nil, ↓fillS_nil, ↓fillS_cons, ↓fill1_0, fill1_0, ↓fill1_1, fill1_1, ↓fill1_2, fill1_2, ↓fill1_3, fill1_3, ↓fill1_4, fill1_4, ↓fill1_5, fill1_5, ↓fill1_6, fill1_6, ↓fill1_7, fill1_7, ↓fill3_0, fill3_0, ↓fill3_3, fill3_3, ↓fill3_6, fill3_6, ↓st38, pl38_0, pl38_1, pl38_2, ↓bd38a, ↓bd38_0, ↓hN2, hN2]
          exact rfl
        refine CG.ret ?_
        have hf : findV l page = none := by simp [findV, hv, hfind, hr]; omega
        refine ⟨_, _, _, ⟨rfl, ?_⟩, fun k => by simp (disch := first | decide | omega) only [hf, rgO, finK_ret, resultsK_tmp, resultsK_nil, rc29, rc38, rc47, resP_ptr, ldKn_ptr, ldBn_cells, read3, read5, read8, newB, cellsT_cons, cellsT_nil, Nat.zero_add, Nat.reduceAdd, retK_one, retK_two, retK_nil, optK_some, T.get_same, T.get_other] <;> rfl⟩
        exact hX.set (by omega)
      · have c3 : decide (page < r.a) = false := by simp; omega
        apply CG.reg
        · intro k
          simp (maxSteps := 2000000) (disch := first | decide | omega | rfl) only [s11_4, s11_4_0, s11_4_1, List.cons_append, List.nil_append, ↓runS_op, ↓runS_nil, ↓optK_some, optK_some, ↓putT_some, ↓grd_true, grd_true, T.get_same, T.get_other, ↓evO_tmp, ↓grd_blt, grd_blt, ↓runS_if, ↓wantS_tt, wantS_tt, ↓wantS_tf, wantS_tf, ↓wantS_ft, wantS_ft, ↓wantS_ff, wantS_ff, ↓evO_const, ofValue, Nat.add_zero, Nat.zero_add, Nat.reduceAdd, ↓ev_move, ↓ev_bin, ↓binCV_eq, binCV_eq, binR, ↓ev_pick, ↓pickK_true, pickK_true, ↓pickK_false, pickK_false, ↓ev_builtin, ↓evOs_cons, ↓evOs_nil, ↓ln22, ln22, ↓lz22, lz22, ↓ln116, ln116, ↓lz116, lz116, ↓ldK1_ptr, ↓ldB1_cells, ↓ldKn_ptr, ↓ldBn_cells, ↓read3, read3, ↓read5, read5, List.length_cons, List.length_nil, newB, cellsT_cons, cellsT_nil, ↓natOf_nat, natOf_nat, ↓natOf_0, natOf_0, ↓natOf_1, natOf_1, ↓natOf_2, natOf_2, ↓ixK_sl, ixK_sl, ↓ixK_ar, ixK_ar, Nat.zero_mul, Nat.one_mul, Nat.mul_one, Nat.reduceMul, ↓ptrK_ptr, ↓fa38_0, ↓ld23, ↓ix22, ↓hlen, hlen, ↓c2, c2, ↓c3, c3, ↓hix, hix, ↓hb2, hb2, ↓g0, g0, ↓g1, g1, ↓g2, g2]
          exact rfl
        refine CG.cond_false (fun k => by simp (maxSteps := 2000000) (disch := first | decide | omega | rfl) only [evO_tmp, optK_some, T.get_same, T.get_other] <;> rfl) ?_
        refine CG.skip ?_
        refine CG.seq ?_
        apply CG.reg
        · intro k
          simp (maxSteps := 2000000) (disch := first | decide | omega | rfl) only [s11_6, ↓runS_op, ↓runS_nil, ↓optK_some, optK_some, ↓putT_some, ↓grd_true, grd_true, T.get_same, T.get_other, ↓evO_tmp, ↓grd_blt, grd_blt, ↓evO_const, ofValue, ↓putT_none, Nat.add_zero, Nat.zero_add, Nat.reduceAdd, ↓ev_move, ↓ev_assign, ↓ldK1_ptr, ↓ldB1_cells, ↓ldKn_ptr, ↓ldBn_cells, ↓read3, read3, ↓read5, read5, List.length_cons, List.length_nil, newB, cellsT_cons, cellsT_nil, ↓ptrOf_ptr, ↓stK_eq, ↓stB_cells, ↓grd_beq, grd_beq, ↓grd_ble, grd_ble, Bool.true_and, Bool.and_true, cells_int, cells_bool, cells_agg, cells_slice, cells_nilslice, cells_fn, cells_nilfn, cells_ptr, ↓natOf_nat, natOf_nat, ↓natOf_0, natOf_0, ↓natOf_1, natOf_1, ↓natOf_2, natOf_2, ↓ixK_sl, ixK_sl, ↓ixK_ar, ixK_ar, Nat.zero_mul, Nat.one_mul, Nat.mul_one, Nat.reduceMul, ↓ld38, ↓st38, ↓ix22, ↓hix, hix, ↓hb2, hb2, ↓g0, g0, ↓g1, g1, ↓g2, g2, ↓hN2, hN2]
          exact rfl
        refine CG.ret ?_
        have hf : findV l page = some r := by simp [findV, hv, hfind, hr]; omega
        refine ⟨_, _, _, ⟨rfl, ?_⟩, fun k => by simp (disch := first | decide | omega) only [hf, rgO, finK_ret, resultsK_tmp, resultsK_nil, rc29, rc38, rc47, resP_ptr, ldKn_ptr, ldBn_cells, read3, read5, read8, newB, cellsT_cons, cellsT_nil, Nat.zero_add, Nat.reduceAdd, retK_one, retK_two, retK_nil, optK_some, T.get_same, T.get_other] <;> rfl⟩
        exact hX.set (by omega)
end Go.Proofs.YthdoelcgdgcncaaGreatDoor
