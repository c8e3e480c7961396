/- Walks: TopUndo. -/
import Derived.Test.YthdoelcgdgcncaaGreatDoorMap
import Derived.Test.YthdoelcgdgcncaaGreatDoorIns
set_option maxRecDepth 100000
set_option maxHeartbeats 4000000
set_option linter.unusedVariables false
set_option linter.unusedSimpArgs false
namespace Go.Proofs.YthdoelcgdgcncaaGreatDoor
open Go Go.Can
variable {β : Type}

theorem chkGlobs_congr {h h' : T Blk} : ∀ (l : List (Nat × List CV)) (k : Res β), (∀ x ∈ l, h.get x.1 = h'.get x.1) → chkGlobs h l k = chkGlobs h' l k
  | [], k, _ => rfl
  | (g, r) :: l, k, hx => by
    show blkK h g (fun _ cs _ => chkRow cs r 0 (chkGlobs h l k)) = blkK h' g (fun _ cs _ => chkRow cs r 0 (chkGlobs h' l k))
    rw [chkGlobs_congr l k fun x hm => hx x (List.mem_cons_of_mem _ hm)]
    unfold blkK
    rw [hx (g, r) List.mem_cons_self]

theorem glob_eq (r : Res β) : chkGlobs heap0 gs r = r := by kernel_rfl

theorem lives_ok (d : Nat) {h : T Blk} (hG : ∀ g, g < 9 → h.get g = heap0.get g) (nx : Nat) (k : K β) : callN tab (d + 1) (.fn 6 [] []) [] h nx k = k (.bool true) h nx := by
  show callFn tab (callN tab d) 6 [] h nx k = _
  unfold callFn
  rw [show tab.prims.get 6 = some (.const gs (.bool true)) from by kernel_rfl]
  show chkGlobs h gs (k (.bool true) h nx) = _
  have hlt : gs.all (fun x => Nat.blt x.1 9) = true := by kernel_rfl
  rw [chkGlobs_congr (h' := heap0) gs _ fun x hx => hG x.1 (Nat.le_of_ble_eq_true (List.all_eq_true.1 hlt x hx))]
  exact glob_eq _

theorem eq_b (a b : Bool) (c : CV → Res β) : binCV tab .eql 4 (.bool a) (.bool b) c = c (.bool (a == b)) := by
  show eqCV tab 4 (.bool a) (.bool b) (fun x => c (.bool x)) = _
  unfold eqCV
  rw [tyK_eq, ty4, optK_some]
  cases a <;> cases b <;> rfl
theorem ne_b (a b : Bool) (c : CV → Res β) : binCV tab .neq 4 (.bool a) (.bool b) c = c (.bool (a != b)) := by
  show eqCV tab 4 (.bool a) (.bool b) (fun x => c (.bool (!x))) = _
  unfold eqCV
  rw [tyK_eq, ty4, optK_some]
  cases a <;> cases b <;> rfl

theorem read4 (cs : T CV) (o : Nat) (k : List CV → Res β) : readCells cs 4 o k = optK 3 (cs.get o) fun x => optK 3 (cs.get (o + 1)) fun y => optK 3 (cs.get (o + 2)) fun z => optK 3 (cs.get (o + 3)) fun u => k [x, y, z, u] := Eq.trans rfl rfl

theorem Ext.keep {h h' : T Blk} {nx nx' : Nat} (e : Ext h nx h' nx') (h9 : 9 ≤ nx) (hG : ∀ g, g < 9 → h.get g = heap0.get g) : ∀ g, g < 9 → h'.get g = heap0.get g := fun g hg => by rw [e.get g (by omega)]; exact hG g hg


theorem CG.freshH {tab : Tab} {call : CallT β} {fi : FI} {s : SC} {t : T CV} {h : T Blk} {nx : Nat} {Q : Ex → T CV → T Blk → Nat → Prop} (P : T CV → T Blk → Nat → Prop) (hP : P t h nx) (H : ∀ tt hh nn, P tt hh nn → CG tab call fi s tt hh nn Q) : CG tab call fi s t h nx Q := H t h nx hP

/-- what the request's block holds -/
def R7 (h : T Blk) (b : Nat) (kd fi co : Int) (wr : Bool) : Prop := ∃ cs, h.get b = some (.cells 5 cs true) ∧ cs.get 0 = some (.int .i8 kd) ∧ cs.get 1 = some (.int .u64 fi) ∧ cs.get 2 = some (.int .i64 co) ∧ cs.get 3 = some (.bool wr)
theorem R7.ext {h h' : T Blk} {nx nx' b : Nat} {kd fi co : Int} {wr : Bool} (r : R7 h b kd fi co wr) (e : Ext h nx h' nx') (hb : b < nx) : R7 h' b kd fi co wr := by
  obtain ⟨cs, h1, h2⟩ := r
  exact ⟨cs, by rw [e.get b hb]; exact h1, h2⟩

/-- the end: true -/
def FinQ (h : T Blk) (nx : Nat) (ex : Ex) (t : T CV) (h' : T Blk) (nx' : Nat) : Prop := ex = .ret ∧ t.get 6 = some (.bool true) ∧ Ext h nx h' nx'

theorem mapB (d : Nat) {call : CallT β} (hc : call = callN tab (d + 9)) {v : CV} {l : List Rg} {fi co kd : Int} {wr : Bool} {b7 : Nat} {h hh : T Blk} {nx nn : Nat} {tt : T CV} (hG : ∀ g, g < 9 → h.get g = heap0.get g) (h9 : 9 ≤ nx) (hs : SlR h nx v l) (hok : ∀ r ∈ l, r.ok)
    (hf0 : 0 ≤ fi) (hf1 : fi < 18446744073709551616) (hc0 : -9223372036854775808 ≤ co) (hc1 : co < 9223372036854775808)
    (t0 : tt.get 0 = some v) (t7 : tt.get 7 = some (.ptr b7 0)) (hX : Ext h nx hh nn) (h7 : b7 < nn) (r7 : R7 hh b7 kd fi co wr) :
    CG tab call ⟨195, none⟩ (.seq (.reg s3_6) (.seq (.seq (.reg s3_7) (.cond (.tmp 54) (.seq (.reg s3_8) .ret) .skip)) (.seq (.reg s3_9) (.seq (.reg s3_10) .ret)))) tt hh nn (FinQ h nx) := by
  have elives : ∀ {H : T Blk} {NX : Nat}, Ext h nx H NX → ∀ (k : K β), call (.fn 6 [] []) [] H NX k = k (.bool true) H NX := fun {H NX} hx k => by
    rw [hc]; exact lives_ok (d + 8) (Ext.keep hx h9 hG) NX k
  obtain ⟨cs, g7, k0, k1, k2, k3⟩ := r7
  obtain ⟨_, H, NX, ⟨u, rfl, hq, hx⟩, e⟩ := map_ok (β := β) (d + 4) (r := ⟨fi, co, wr⟩) (hs.ext hX) hok ⟨hf0, hf1, hc0, hc1⟩
  rw [show d + 4 + 5 = d + 9 from rfl, ← hc] at e
  dsimp only at e
  have hX2 := hX.trans hx
  have hle := hx.le
  have g72 : H.get b7 = some (.cells 5 cs true) := by rw [hx.get _ h7]; exact g7
  have el := elives hX2
  refine CG.seq ?_
  rw [s3_6_eq]
  apply CG.regs
  · intro k
    simp (maxSteps := 2000000) (disch := first | decide | omega | rfl) only [s3_6_0, ↓runS_op, ↓runS_nil, ↓optK_some, optK_some, ↓putT_some, ↓grd_true, grd_true, T.get_same, T.get_other, ↓evO_tmp, ↓grd_blt, grd_blt, Nat.add_zero, Nat.zero_add, Nat.reduceAdd, ↓ev_move, ↓ldK1_ptr, ↓ldB1_cells, ↓ldKn_ptr, ↓ldBn_cells, ↓read3, read3, ↓read5, read5, List.length_cons, List.length_nil, newB, cellsT_cons, cellsT_nil, ↓ptrK_ptr, ↓fa29_1, ↓fa29_2, ↓fa29_3, ↓ld23, ↓ld3, ↓t0, t0, ↓t7, t7, ↓g7, g7, ↓k1, k1, ↓k2, k2, ↓k3, k3, ↓e, e]
    exact rfl
  apply CG.regs
  · intro k
    simp (maxSteps := 2000000) (disch := first | decide | omega | rfl) only [s3_6_1, ↓runS_op, ↓runS_nil, ↓optK_some, optK_some, ↓putT_some, ↓grd_true, grd_true, T.get_same, T.get_other, ↓evO_tmp, ↓grd_blt, grd_blt, Nat.add_zero, Nat.zero_add, Nat.reduceAdd, ↓ev_move, ↓ev_extract, List.getElem?_cons_zero, List.getElem?_cons_succ, ↓ev_call, ↓evOs_cons, ↓evOs_nil, ↓notMap_fn, notMap_fn, ↓evO_func, ↓ldK1_ptr, ↓ldB1_cells, ↓ldKn_ptr, ↓ldBn_cells, ↓read3, read3, ↓read5, read5, List.length_cons, List.length_nil, newB, cellsT_cons, cellsT_nil, ↓fillS_nil, ↓fillS_cons, ↓fill1_0, fill1_0, ↓fill1_1, fill1_1, ↓fill1_2, fill1_2, ↓fill1_3, fill1_3, ↓fill1_4, fill1_4, ↓fill1_5, fill1_5, ↓fill1_6, fill1_6, ↓fill1_7, fill1_7, ↓fill3_0, fill3_0, ↓fill3_3, fill3_3, ↓fill3_6, fill3_6, ↓grd_beq, grd_beq, cells_int, cells_bool, cells_agg, cells_slice, cells_nilslice, cells_fn, cells_nilfn, cells_ptr, ↓ld4, pl38_0, pl38_1, pl38_2, ↓bd38a, ↓bd38_0, ↓t0, t0, ↓t7, t7, ↓g7, g7, ↓k1, k1, ↓k2, k2, ↓k3, k3, ↓e, e]
    exact rfl
  apply CG.reg
  · intro k
    simp (maxSteps := 2000000) (disch := first | decide | omega | rfl) only [s3_6_2, ↓runS_op, ↓runS_nil, ↓optK_some, optK_some, ↓putT_some, ↓grd_true, grd_true, T.get_same, T.get_other, ↓evO_tmp, ↓grd_blt, grd_blt, ↓ev_assign, ↓t0, t0, ↓t7, t7, ↓g7, g7, ↓k1, k1, ↓k2, k2, ↓k3, k3, ↓e, e]
    exact rfl
  refine CG.seq ?_
  refine CG.seq ?_
  cases hm : decide ((mapE l ⟨fi, co, wr⟩).1 = 0) with
  | false =>
    apply CG.reg
    · intro k
      simp (maxSteps := 2000000) (disch := first | decide | omega | rfl) only [s3_7, ↓runS_op, ↓runS_nil, ↓optK_some, optK_some, ↓putT_some, ↓grd_true, grd_true, T.get_same, T.get_other, ↓evO_tmp, ↓grd_blt, grd_blt, ↓evO_const, ofValue, ↓ev_move, ↓ev_bin, ↓binCV_eq, binCV_eq, binR, ↓hm, hm]
      exact rfl
    refine CG.cond_true (fun k => by simp (maxSteps := 2000000) (disch := first | decide | omega | rfl) only [evO_tmp, optK_some, T.get_same, T.get_other] <;> rfl) ?_
    refine CG.seq ?_
    apply CG.reg
    · intro k
      simp (maxSteps := 2000000) (disch := first | decide | omega | rfl) only [s3_8, ↓runS_op, ↓runS_nil, ↓optK_some, optK_some, ↓putT_some, ↓grd_true, grd_true, T.get_same, T.get_other, ↓evO_tmp, ↓grd_blt, grd_blt, ↓ev_assign, ↓ev_call, ↓evOs_cons, ↓evOs_nil, ↓notMap_fn, notMap_fn, ↓evO_func, List.getElem?_cons_zero, List.getElem?_cons_succ, ↓el, el]
      exact rfl
    exact CG.ret ⟨rfl, by simp (maxSteps := 2000000) (disch := first | decide | omega | rfl) only [T.get_same, T.get_other] <;> rfl, hX2⟩
  | true =>
    have hme : mapE l ⟨fi, co, wr⟩ = (0, (mapE l ⟨fi, co, wr⟩).2) := by
      have := of_decide_eq_true hm
      rw [← this]
    apply CG.reg
    · intro k
      simp (maxSteps := 2000000) (disch := first | decide | omega | rfl) only [s3_7, ↓runS_op, ↓runS_nil, ↓optK_some, optK_some, ↓putT_some, ↓grd_true, grd_true, T.get_same, T.get_other, ↓evO_tmp, ↓grd_blt, grd_blt, ↓evO_const, ofValue, ↓ev_move, ↓ev_bin, ↓binCV_eq, binCV_eq, binR, ↓hm, hm]
      exact rfl
    refine CG.cond_false (fun k => by simp (maxSteps := 2000000) (disch := first | decide | omega | rfl) only [evO_tmp, optK_some, T.get_same, T.get_other] <;> rfl) ?_
    refine CG.skip ?_
    generalize hal : (mapE l ⟨fi, co, wr⟩).2 = a at hq hme
    have hlaw := map_law (r := ⟨fi, co, wr⟩) hf0 hme
    have hva := (chg_zero hlaw).1
    obtain ⟨_, H2, NX2, ⟨u2, rfl, hq2, hx2⟩, e2⟩ := unmap_ok (β := β) d (first := fi) (c := co) hq.sl (valid_ok hva) hf0 hf1 hc0 hc1
    rw [← hc] at e2
    have hlaw' : chg a fi co (cutU fi co) = (0, l) := hlaw
    rw [hlaw'] at e2 hq2
    have hX3 := hX2.trans hx2
    obtain ⟨_, H3, NX3, ⟨rfl, hx3⟩, e3⟩ := same_ok (β := β) (d + 8) (a := l) (l := l) (hq2.sl) (hs.ext hX3) (by have := valid_len (mapE_zero hme).1; omega)
    rw [show d + 8 + 1 = d + 9 from rfl, ← hc, (sameL_iff l l).2 rfl] at e3
    have hX4 := hX3.trans hx3
    have el2 := elives hX4
    refine CG.seq ?_
    rw [s3_9_eq]
    apply CG.regs
    · intro k
      simp (maxSteps := 2000000) (disch := first | decide | omega | rfl) only [s3_9_0, ↓runS_op, ↓runS_nil, ↓optK_some, optK_some, ↓putT_some, ↓grd_true, grd_true, T.get_same, T.get_other, ↓evO_tmp, ↓grd_blt, grd_blt, Nat.add_zero, Nat.zero_add, Nat.reduceAdd, ↓ev_move, ↓ev_call, ↓evOs_cons, ↓evOs_nil, ↓notMap_fn, notMap_fn, ↓evO_func, List.getElem?_cons_zero, List.getElem?_cons_succ, ↓ldK1_ptr, ↓ldB1_cells, ↓ldKn_ptr, ↓ldBn_cells, ↓read3, read3, ↓read5, read5, List.length_cons, List.length_nil, newB, cellsT_cons, cellsT_nil, ↓ptrK_ptr, ↓fa29_1, ↓fa29_2, ↓ld23, ↓ld3, ↓t7, t7, ↓g72, g72, ↓k1, k1, ↓k2, k2, ↓e2, e2]
      exact rfl
    apply CG.reg
    · intro k
      simp (maxSteps := 2000000) (disch := first | decide | omega | rfl) only [s3_9_1, ↓runS_op, ↓runS_nil, ↓optK_some, optK_some, ↓putT_some, ↓grd_true, grd_true, T.get_same, T.get_other, ↓evO_tmp, ↓grd_blt, grd_blt, ↓ev_move, ↓ev_assign, ↓ev_extract, List.getElem?_cons_zero, List.getElem?_cons_succ, ↓t7, t7, ↓g72, g72, ↓k1, k1, ↓k2, k2, ↓e2, e2]
      exact rfl
    refine CG.seq ?_
    rw [s3_10_eq]
    apply CG.regs
    · intro k
      simp (maxSteps := 2000000) (disch := first | decide | omega | rfl) only [s3_10_0, ↓runS_op, ↓runS_nil, ↓optK_some, optK_some, ↓putT_some, ↓grd_true, grd_true, T.get_same, T.get_other, ↓evO_tmp, ↓grd_blt, grd_blt, ↓runS_if, ↓wantS_tt, wantS_tt, ↓wantS_tf, wantS_tf, ↓wantS_ft, wantS_ft, ↓wantS_ff, wantS_ff, ↓evO_const, ofValue, ↓ev_move, ↓ev_bin, ↓binCV_eq, binCV_eq, binR, ↓ev_call, ↓evOs_cons, ↓evOs_nil, ↓notMap_fn, notMap_fn, ↓evO_func, List.getElem?_cons_zero, List.getElem?_cons_succ, ↓t0, t0, ↓e3, e3, ↓el2, el2]
      exact rfl
    apply CG.reg
    · intro k
      simp (maxSteps := 2000000) (disch := first | decide | omega | rfl) only [s3_10_1, ↓runS_op, ↓runS_nil, ↓optK_some, optK_some, ↓putT_some, ↓grd_true, grd_true, T.get_same, T.get_other, ↓evO_tmp, ↓grd_blt, grd_blt, ↓runS_if, ↓wantS_tt, wantS_tt, ↓wantS_tf, wantS_tf, ↓wantS_ft, wantS_ft, ↓wantS_ff, wantS_ff, ↓evO_const, ofValue, ↓ev_move, ↓ev_assign, ↓ev_pick, ↓pickK_true, pickK_true, ↓pickK_false, pickK_false, ↓ev_call, ↓evOs_cons, ↓evOs_nil, ↓notMap_fn, notMap_fn, ↓evO_func, List.getElem?_cons_zero, List.getElem?_cons_succ, ↓t0, t0, ↓e3, e3, ↓el2, el2]
      exact rfl
    exact CG.ret ⟨rfl, by simp (maxSteps := 2000000) (disch := first | decide | omega | rfl) only [T.get_same, T.get_other] <;> rfl, hX4⟩
end Go.Proofs.YthdoelcgdgcncaaGreatDoor
/- Walks: TopUndo, the branch of the rights. -/
namespace Go.Proofs.YthdoelcgdgcncaaGreatDoor
open Go Go.Can
variable {β : Type}

theorem beqb (b : Bool) : (b == b) = true := by cases b <;> rfl
theorem bneb (b : Bool) : (b != b) = false := by cases b <;> rfl

/-- whether a page is within, and that it keeps its right where it is not -/
theorem protC (d : Nat) {call : CallT β} (hc : call = callN tab (d + 9)) {u : CV} {l a bb : List Rg} {fi co kd page : Int} {wr : Bool} {b7 b15 : Nat} {h hh : T Blk} {nx nn nq : Nat} {tt : T CV} (hG : ∀ g, g < 9 → h.get g = heap0.get g) (h9 : 9 ≤ nx)
    (hq : OutQ hh nq nn u a) (va : valid a = true) (vb : valid bb = true)
    (hf0 : 0 ≤ fi) (hf1 : fi < 18446744073709551616) (hc0 : -9223372036854775808 ≤ co) (hc1 : co < 9223372036854775808) (hp0 : 0 ≤ page) (hp1 : page < 18446744073709551616) (o1 : 1 ≤ co)
    (law1 : chg a fi co (cutP fi co !wr) = (0, bb)) (law3 : (findV bb page).isSome = (findV l page).isSome)
    (law5 : ∀ (r s : Rg), findV l page = some r → findV bb page = some s → s.w = if fi ≤ page ∧ page < fi + co then !wr else r.w)
    (t2 : tt.get 2 = some (.int .u64 page)) (t7 : tt.get 7 = some (.ptr b7 0)) (t13 : tt.get 13 = some u) (t16 : tt.get 16 = some (.bool (findV l page).isSome)) (t15 : tt.get 15 = some (.ptr b15 0)) (hX : Ext h nx hh nn) (h7 : b7 < nn) (r7 : R7 hh b7 kd fi co wr)
    (h15 : b15 < nn) {c15 : T CV} (g15 : hh.get b15 = some (.cells 3 c15 true)) (k15 : c15.get 2 = some (.bool (rgO (findV l page)).w)) :
    CG tab call ⟨195, none⟩ (.seq (.reg s3_19) (.seq (.reg s3_20) (.seq (.reg s3_21) (.seq (.seq (.reg s3_22) (.cond (.tmp 170) (.seq (.reg s3_23) .ret) .skip)) (.seq (.seq (.reg s3_24) (.cond (.tmp 192) (.seq (.reg s3_25) .ret) .skip)) (.seq (.reg s3_26) .ret)))))) tt hh nn (FinQ h nx) := by
  have elives : ∀ {H : T Blk} {NX : Nat}, Ext h nx H NX → ∀ (k : K β), call (.fn 6 [] []) [] H NX k = k (.bool true) H NX := fun {H NX} hx k => by
    rw [hc]; exact lives_ok (d + 8) (Ext.keep hx h9 hG) NX k
  have w1 : fi ≤ page → IntKind.u64.wrap (page - fi) = page - fi := fun h => wrap_u64 (by omega) (by omega)
  have w2 : IntKind.u64.wrap co = co := wrap_u64 (by omega) (by omega)
  obtain ⟨cs, g7, k0, k1, k2, k3⟩ := r7
  obtain ⟨_, H, NX, ⟨u3, rfl, hq3, hx⟩, e⟩ := protect_ok (β := β) d (first := fi) (c := co) (wr := !wr) hq.sl (valid_ok va) hf0 hf1 hc0 hc1
  rw [← hc, law1] at e
  rw [law1] at hq3
  have hX2 := hX.trans hx
  have hle := hx.le
  refine CG.seq ?_
  rw [s3_19_eq]
  apply CG.regs
  · intro k
    simp (maxSteps := 2000000) (disch := first | decide | omega | rfl) only [s3_19_0, ↓runS_op, ↓runS_nil, ↓optK_some, optK_some, ↓putT_some, ↓grd_true, grd_true, T.get_same, T.get_other, ↓evO_tmp, ↓grd_blt, grd_blt, Nat.add_zero, Nat.zero_add, Nat.reduceAdd, ↓ev_move, ↓ldK1_ptr, ↓ldB1_cells, ↓ldKn_ptr, ↓ldBn_cells, ↓read3, read3, ↓read5, read5, List.length_cons, List.length_nil, newB, cellsT_cons, cellsT_nil, ↓ptrK_ptr, ↓fa29_1, ↓fa29_2, ↓fa29_3, ↓ld23, ↓ld3, ↓t13, t13, ↓t7, t7, ↓g7, g7, ↓k1, k1, ↓k2, k2, ↓k3, k3, ↓e, e]
    exact rfl
  apply CG.regs
  · intro k
    simp (maxSteps := 2000000) (disch := first | decide | omega | rfl) only [s3_19_1, ↓runS_op, ↓runS_nil, ↓optK_some, optK_some, ↓putT_some, ↓grd_true, grd_true, T.get_same, T.get_other, ↓evO_tmp, ↓grd_blt, grd_blt, Nat.add_zero, Nat.zero_add, Nat.reduceAdd, ↓ev_move, ↓ev_not, Bool.not_true, Bool.not_false, ↓ev_extract, List.getElem?_cons_zero, List.getElem?_cons_succ, ↓ev_call, ↓evOs_cons, ↓evOs_nil, ↓notMap_fn, notMap_fn, ↓evO_func, ↓ldK1_ptr, ↓ldB1_cells, ↓ldKn_ptr, ↓ldBn_cells, ↓read3, read3, ↓read5, read5, List.length_cons, List.length_nil, newB, cellsT_cons, cellsT_nil, ↓ld4, ↓t13, t13, ↓t7, t7, ↓g7, g7, ↓k1, k1, ↓k2, k2, ↓k3, k3, ↓e, e]
    exact rfl
  apply CG.reg
  · intro k
    simp (maxSteps := 2000000) (disch := first | decide | omega | rfl) only [s3_19_2, ↓runS_op, ↓runS_nil, ↓optK_some, optK_some, ↓putT_some, ↓grd_true, grd_true, T.get_same, T.get_other, ↓evO_tmp, ↓grd_blt, grd_blt, ↓ev_assign, ↓t13, t13, ↓t7, t7, ↓g7, g7, ↓k1, k1, ↓k2, k2, ↓k3, k3, ↓e, e]
    exact rfl
  refine CG.fresh (fun tt => tt.get 2 = some (.int .u64 page) ∧ tt.get 7 = some (.ptr b7 0) ∧ tt.get 16 = some (.bool (findV l page).isSome) ∧ tt.get 15 = some (.ptr b15 0) ∧ tt.get 19 = some u3 ∧ tt.get 20 = some (.int .i64 0)) ⟨by simp (maxSteps := 2000000) (disch := first | decide | omega | rfl) only [t2, T.get_same, T.get_other] <;> rfl, by simp (maxSteps := 2000000) (disch := first | decide | omega | rfl) only [t7, T.get_same, T.get_other] <;> rfl, by simp (maxSteps := 2000000) (disch := first | decide | omega | rfl) only [t16, T.get_same, T.get_other] <;> rfl, by simp (maxSteps := 2000000) (disch := first | decide | omega | rfl) only [t15, T.get_same, T.get_other] <;> rfl, by simp (maxSteps := 2000000) (disch := first | decide | omega | rfl) only [T.get_same, T.get_other] <;> rfl, by simp (maxSteps := 2000000) (disch := first | decide | omega | rfl) only [T.get_same, T.get_other] <;> rfl⟩ ?_
  clear t2 t7 t13 t16 t15 tt
  rintro tt ⟨t2, t7, t16, t15, t19, t20⟩
  obtain ⟨_, H2, NX2, ⟨rfl, hx2⟩, e2⟩ := find_ok (β := β) (d + 4) (page := page) hq3.sl (valid_ok vb)
  rw [show d + 4 + 5 = d + 9 from rfl, ← hc, law3] at e2
  refine CG.seq ?_
  rw [s3_20_eq]
  apply CG.regs
  · intro k
    simp (maxSteps := 2000000) (disch := first | decide | omega | rfl) only [s3_20_0, ↓runS_op, ↓runS_nil, ↓optK_some, optK_some, ↓putT_some, ↓grd_true, grd_true, T.get_same, T.get_other, ↓evO_tmp, ↓grd_blt, grd_blt, ↓ev_move, ↓ev_extract, List.getElem?_cons_zero, List.getElem?_cons_succ, ↓ev_call, ↓evOs_cons, ↓evOs_nil, ↓notMap_fn, notMap_fn, ↓evO_func, ↓t19, t19, ↓t2, t2, ↓e2, e2]
    exact rfl
  apply CG.reg
  · intro k
    simp (maxSteps := 2000000) (disch := first | decide | omega | rfl) only [s3_20_1, ↓runS_op, ↓runS_nil, ↓optK_some, optK_some, ↓putT_some, ↓grd_true, grd_true, T.get_same, T.get_other, ↓evO_tmp, ↓grd_blt, grd_blt, ↓putT_none, Nat.add_zero, Nat.zero_add, Nat.reduceAdd, ↓ev_assign, ↓ptrOf_ptr, ↓stK_eq, ↓stB_cells, ↓grd_beq, grd_beq, ↓grd_ble, grd_ble, Bool.true_and, Bool.and_true, cells_int, cells_bool, cells_agg, cells_slice, cells_nilslice, cells_fn, cells_nilfn, cells_ptr, List.length_cons, List.length_nil, newB, cellsT_cons, cellsT_nil, ↓st38, ↓al38, ↓t19, t19, ↓t2, t2, ↓e2, e2]
    exact rfl
  have hle2 := hx2.le
  refine CG.freshH (fun tt hh nn => tt.get 2 = some (.int .u64 page) ∧ tt.get 7 = some (.ptr b7 0) ∧ tt.get 16 = some (.bool (findV l page).isSome) ∧ tt.get 15 = some (.ptr b15 0) ∧ tt.get 20 = some (.int .i64 0) ∧ tt.get 22 = some (.bool (findV l page).isSome) ∧ tt.get 21 = some (.ptr NX2 0) ∧
    Ext H NX hh nn ∧ NX2 < nn ∧ ∃ cs, hh.get NX2 = some (.cells 3 cs true) ∧ cs.get 2 = some (.bool (rgO (findV bb page)).w)) ⟨by simp (maxSteps := 2000000) (disch := first | decide | omega | rfl) only [t2, T.get_same, T.get_other] <;> rfl, by simp (maxSteps := 2000000) (disch := first | decide | omega | rfl) only [t7, T.get_same, T.get_other] <;> rfl, by simp (maxSteps := 2000000) (disch := first | decide | omega | rfl) only [t16, T.get_same, T.get_other] <;> rfl, by simp (maxSteps := 2000000) (disch := first | decide | omega | rfl) only [t15, T.get_same, T.get_other] <;> rfl, by simp (maxSteps := 2000000) (disch := first | decide | omega | rfl) only [t20, T.get_same, T.get_other] <;> rfl, by simp (maxSteps := 2000000) (disch := first | decide | omega | rfl) only [T.get_same, T.get_other] <;> rfl, by simp (maxSteps := 2000000) (disch := first | decide | omega | rfl) only [T.get_same, T.get_other] <;> rfl, hx2.new.set hle2, Nat.lt_succ_self _, _, T.get_same _ _ _, T.get_same _ _ _⟩ ?_
  clear t2 t7 t16 t15 t19 t20 tt
  rintro tt H3 NX3 ⟨t2, t7, t16, t15, t20, t22, t21, hx3, h21, c21, g21, k21⟩
  have hX3 := hX2.trans hx3
  have g73 : H3.get b7 = some (.cells 5 cs true) := by rw [hx3.get _ (by omega), hx.get _ h7]; exact g7
  have g153 : H3.get b15 = some (.cells 3 c15 true) := by rw [hx3.get _ (by omega), hx.get _ h15]; exact g15
  have el := elives hX3
  refine CG.seq ?_
  have hwb : ∃ wb : Bool, wb = decide (fi ≤ page ∧ page < fi + co) := ⟨_, rfl⟩
  obtain ⟨wb, hwb⟩ := hwb
  have step : ∀ {Q : Ex → T CV → T Blk → Nat → Prop}, (∀ tt : T CV, tt.get 7 = some (.ptr b7 0) → tt.get 16 = some (.bool (findV l page).isSome) → tt.get 15 = some (.ptr b15 0) → tt.get 20 = some (.int .i64 0) → tt.get 22 = some (.bool (findV l page).isSome) → tt.get 21 = some (.ptr NX2 0) → tt.get 23 = some (.bool wb) → Q .normal tt H3 NX3) →
      CG tab call ⟨195, none⟩ (.reg s3_21) tt H3 NX3 Q := by
    intro Q hQ
    by_cases hge : fi ≤ page
    · have c1 : decide (page ≥ fi) = true := decide_eq_true hge
      have c1' : decide (fi ≤ page) = true := decide_eq_true hge
      have w1 := w1 hge
      have c2 : decide (page - fi < co) = wb := by rw [hwb]; exact decide_eq_decide.2 (by omega)
      rw [s3_21_eq]
      apply CG.regs
      · intro k
        simp (maxSteps := 2000000) (disch := first | decide | omega | rfl) only [s3_21_0, ↓runS_op, ↓runS_nil, ↓optK_some, optK_some, ↓putT_some, ↓grd_true, grd_true, T.get_same, T.get_other, ↓evO_tmp, ↓grd_blt, grd_blt, ↓runS_if, ↓wantS_tt, wantS_tt, ↓wantS_tf, wantS_tf, ↓wantS_ft, wantS_ft, ↓wantS_ff, wantS_ff, Nat.add_zero, Nat.zero_add, Nat.reduceAdd, ↓ev_move, ↓ev_bin, ↓binCV_eq, binCV_eq, binR, ↓ldK1_ptr, ↓ldB1_cells, ↓ldKn_ptr, ↓ldBn_cells, ↓read3, read3, ↓read5, read5, List.length_cons, List.length_nil, newB, cellsT_cons, cellsT_nil, ↓ptrK_ptr, ↓fa29_1, ↓ld23, ↓t2, t2, ↓t7, t7, ↓g73, g73, ↓k1, k1, ↓k2, k2, ↓c1, c1, c1', ↓w1, w1, ↓w2, w2, ↓c2, c2]
        exact rfl
      apply CG.regs
      · intro k
        simp (maxSteps := 2000000) (disch := first | decide | omega | rfl) only [s3_21_1, ↓runS_op, ↓runS_nil, ↓optK_some, optK_some, ↓putT_some, ↓grd_true, grd_true, T.get_same, T.get_other, ↓evO_tmp, ↓grd_blt, grd_blt, ↓runS_if, ↓wantS_tt, wantS_tt, ↓wantS_tf, wantS_tf, ↓wantS_ft, wantS_ft, ↓wantS_ff, wantS_ff, Nat.add_zero, Nat.zero_add, Nat.reduceAdd, ↓ev_bin, ↓binCV_eq, binCV_eq, binR, ↓ldK1_ptr, ↓ldB1_cells, ↓ldKn_ptr, ↓ldBn_cells, ↓read3, read3, ↓read5, read5, List.length_cons, List.length_nil, newB, cellsT_cons, cellsT_nil, ↓convK_int, convK_int, ↓ptrK_ptr, ↓fa29_1, ↓fa29_2, ↓ld23, ↓ld3, ↓cn3_23, ↓t2, t2, ↓t7, t7, ↓g73, g73, ↓k1, k1, ↓k2, k2, ↓c1, c1, c1', ↓w1, w1, ↓w2, w2, ↓c2, c2]
        exact rfl
      apply CG.reg
      · intro k
        simp (maxSteps := 2000000) (disch := first | decide | omega | rfl) only [s3_21_2, ↓runS_op, ↓runS_nil, ↓optK_some, optK_some, ↓putT_some, ↓grd_true, grd_true, T.get_same, T.get_other, ↓evO_tmp, ↓grd_blt, grd_blt, ↓runS_if, ↓wantS_tt, wantS_tt, ↓wantS_tf, wantS_tf, ↓wantS_ft, wantS_ft, ↓wantS_ff, wantS_ff, ↓evO_const, ofValue, ↓ev_assign, ↓ev_bin, ↓binCV_eq, binCV_eq, binR, ↓ev_pick, ↓pickK_true, pickK_true, ↓pickK_false, pickK_false, ↓t2, t2, ↓t7, t7, ↓g73, g73, ↓k1, k1, ↓k2, k2, ↓c1, c1, c1', ↓w1, w1, ↓w2, w2, ↓c2, c2]
        exact rfl
      exact hQ _ (by simp (maxSteps := 2000000) (disch := first | decide | omega | rfl) only [t7, T.get_same, T.get_other] <;> rfl) (by simp (maxSteps := 2000000) (disch := first | decide | omega | rfl) only [t16, T.get_same, T.get_other] <;> rfl) (by simp (maxSteps := 2000000) (disch := first | decide | omega | rfl) only [t15, T.get_same, T.get_other] <;> rfl) (by simp (maxSteps := 2000000) (disch := first | decide | omega | rfl) only [t20, T.get_same, T.get_other] <;> rfl) (by simp (maxSteps := 2000000) (disch := first | decide | omega | rfl) only [t22, T.get_same, T.get_other] <;> rfl) (by simp (maxSteps := 2000000) (disch := first | decide | omega | rfl) only [t21, T.get_same, T.get_other] <;> rfl) (by simp (maxSteps := 2000000) (disch := first | decide | omega | rfl) only [T.get_same, T.get_other] <;> rfl)
    · have c1 : decide (page ≥ fi) = false := decide_eq_false (by omega)
      have c1' : decide (fi ≤ page) = false := decide_eq_false hge
      have hb : wb = false := by rw [hwb]; exact decide_eq_false (by omega)
      rw [s3_21_eq]
      apply CG.regs
      · intro k
        simp (maxSteps := 2000000) (disch := first | decide | omega | rfl) only [s3_21_0, ↓runS_op, ↓runS_nil, ↓optK_some, optK_some, ↓putT_some, ↓grd_true, grd_true, T.get_same, T.get_other, ↓evO_tmp, ↓grd_blt, grd_blt, ↓runS_if, ↓wantS_tt, wantS_tt, ↓wantS_tf, wantS_tf, ↓wantS_ft, wantS_ft, ↓wantS_ff, wantS_ff, Nat.add_zero, Nat.zero_add, Nat.reduceAdd, ↓ev_move, ↓ev_bin, ↓binCV_eq, binCV_eq, binR, ↓ldK1_ptr, ↓ldB1_cells, ↓ldKn_ptr, ↓ldBn_cells, ↓read3, read3, ↓read5, read5, List.length_cons, List.length_nil, newB, cellsT_cons, cellsT_nil, ↓ptrK_ptr, ↓fa29_1, ↓ld23, ↓t2, t2, ↓t7, t7, ↓g73, g73, ↓k1, k1, ↓k2, k2, ↓c1, c1, c1']
        exact rfl
      apply CG.regs
      · intro k
        simp (maxSteps := 2000000) (disch := first | decide | omega | rfl) only [s3_21_1, ↓runS_op, ↓runS_nil, ↓optK_some, optK_some, ↓putT_some, ↓grd_true, grd_true, T.get_same, T.get_other, ↓evO_tmp, ↓grd_blt, grd_blt, ↓runS_if, ↓wantS_tt, wantS_tt, ↓wantS_tf, wantS_tf, ↓wantS_ft, wantS_ft, ↓wantS_ff, wantS_ff, Nat.add_zero, Nat.zero_add, Nat.reduceAdd, ↓ev_bin, ↓binCV_eq, binCV_eq, binR, ↓ldK1_ptr, ↓ldB1_cells, ↓ldKn_ptr, ↓ldBn_cells, ↓read3, read3, ↓read5, read5, List.length_cons, List.length_nil, newB, cellsT_cons, cellsT_nil, ↓convK_int, convK_int, ↓ptrK_ptr, ↓fa29_1, ↓fa29_2, ↓ld23, ↓ld3, ↓cn3_23, ↓t2, t2, ↓t7, t7, ↓g73, g73, ↓k1, k1, ↓k2, k2, ↓c1, c1, c1']
        exact rfl
      apply CG.reg
      · intro k
        simp (maxSteps := 2000000) (disch := first | decide | omega | rfl) only [s3_21_2, ↓runS_op, ↓runS_nil, ↓optK_some, optK_some, ↓putT_some, ↓grd_true, grd_true, T.get_same, T.get_other, ↓evO_tmp, ↓grd_blt, grd_blt, ↓runS_if, ↓wantS_tt, wantS_tt, ↓wantS_tf, wantS_tf, ↓wantS_ft, wantS_ft, ↓wantS_ff, wantS_ff, ↓evO_const, ofValue, ↓ev_assign, ↓ev_bin, ↓binCV_eq, binCV_eq, binR, ↓ev_pick, ↓pickK_true, pickK_true, ↓pickK_false, pickK_false, ↓t2, t2, ↓t7, t7, ↓g73, g73, ↓k1, k1, ↓k2, k2, ↓c1, c1, c1']
        exact rfl
      exact hQ _ (by simp (maxSteps := 2000000) (disch := first | decide | omega | rfl) only [t7, T.get_same, T.get_other] <;> rfl) (by simp (maxSteps := 2000000) (disch := first | decide | omega | rfl) only [t16, T.get_same, T.get_other] <;> rfl) (by simp (maxSteps := 2000000) (disch := first | decide | omega | rfl) only [t15, T.get_same, T.get_other] <;> rfl) (by simp (maxSteps := 2000000) (disch := first | decide | omega | rfl) only [t20, T.get_same, T.get_other] <;> rfl) (by simp (maxSteps := 2000000) (disch := first | decide | omega | rfl) only [t22, T.get_same, T.get_other] <;> rfl) (by simp (maxSteps := 2000000) (disch := first | decide | omega | rfl) only [t21, T.get_same, T.get_other] <;> rfl) (by rw [hb]; exact T.get_same _ _ _)
  refine step fun tt t7 t16 t15 t20 t22 t21 t23 => ?_
  refine CG.seq ?_
  refine CG.seq ?_
  have c0 : decide ((0 : Int) = 0) = true := rfl
  have en : ∀ (c : CV → Res β), binCV tab .neq 4 (.bool (findV l page).isSome) (.bool (findV l page).isSome) c = c (.bool false) := fun c => by rw [ne_b, bneb]
  apply CG.reg
  · intro k
    simp (maxSteps := 2000000) (disch := first | decide | omega | rfl) only [s3_22, ↓runS_op, ↓runS_nil, ↓optK_some, optK_some, ↓putT_some, ↓grd_true, grd_true, T.get_same, T.get_other, ↓evO_tmp, ↓grd_blt, grd_blt, ↓runS_if, ↓wantS_tt, wantS_tt, ↓wantS_tf, wantS_tf, ↓wantS_ft, wantS_ft, ↓wantS_ff, wantS_ff, ↓evO_const, ofValue, ↓ev_move, ↓ev_bin, ↓binCV_eq, binCV_eq, binR, ↓ev_pick, ↓pickK_true, pickK_true, ↓pickK_false, pickK_false, ↓t20, t20, ↓t22, t22, ↓t16, t16, ↓c0, c0, ↓en, en]
    exact rfl
  refine CG.cond_false (fun k => by simp (maxSteps := 2000000) (disch := first | decide | omega | rfl) only [evO_tmp, optK_some, T.get_same, T.get_other] <;> rfl) ?_
  refine CG.skip ?_
  refine CG.fresh (fun tt => tt.get 7 = some (.ptr b7 0) ∧ tt.get 16 = some (.bool (findV l page).isSome) ∧ tt.get 15 = some (.ptr b15 0) ∧ tt.get 21 = some (.ptr NX2 0) ∧ tt.get 23 = some (.bool wb)) ⟨by simp (maxSteps := 2000000) (disch := first | decide | omega | rfl) only [t7, T.get_same, T.get_other] <;> rfl, by simp (maxSteps := 2000000) (disch := first | decide | omega | rfl) only [t16, T.get_same, T.get_other] <;> rfl, by simp (maxSteps := 2000000) (disch := first | decide | omega | rfl) only [t15, T.get_same, T.get_other] <;> rfl, by simp (maxSteps := 2000000) (disch := first | decide | omega | rfl) only [t21, T.get_same, T.get_other] <;> rfl, by simp (maxSteps := 2000000) (disch := first | decide | omega | rfl) only [t23, T.get_same, T.get_other] <;> rfl⟩ ?_
  clear t7 t16 t15 t20 t22 t21 t23 tt
  rintro tt ⟨t7, t16, t15, t21, t23⟩
  refine CG.seq ?_
  refine CG.seq ?_
  cases hth : (findV l page).isSome with
  | false =>
    rw [hth] at t16
    rw [s3_24_eq]
    apply CG.regs
    · intro k
      simp (maxSteps := 2000000) (disch := first | decide | omega | rfl) only [s3_24_0, ↓runS_op, ↓runS_nil, ↓optK_some, optK_some, ↓putT_some, ↓grd_true, grd_true, T.get_same, T.get_other, ↓evO_tmp, ↓grd_blt, grd_blt, ↓runS_if, ↓wantS_tt, wantS_tt, ↓wantS_tf, wantS_tf, ↓wantS_ft, wantS_ft, ↓wantS_ff, wantS_ff, Nat.add_zero, Nat.zero_add, Nat.reduceAdd, ↓ev_move, ↓ldK1_ptr, ↓ldB1_cells, ↓ldKn_ptr, ↓ldBn_cells, ↓read3, read3, ↓read5, read5, List.length_cons, List.length_nil, newB, cellsT_cons, cellsT_nil, ↓ptrK_ptr, ↓fa38_2, ↓ld4, ↓t16, t16]
      exact rfl
    apply CG.regs
    · intro k
      simp (maxSteps := 2000000) (disch := first | decide | omega | rfl) only [s3_24_1, ↓runS_op, ↓runS_nil, ↓optK_some, optK_some, ↓putT_some, ↓grd_true, grd_true, T.get_same, T.get_other, ↓evO_tmp, ↓grd_blt, grd_blt, ↓runS_if, ↓wantS_tt, wantS_tt, ↓wantS_tf, wantS_tf, ↓wantS_ft, wantS_ft, ↓wantS_ff, wantS_ff, ↓evO_const, ofValue, Nat.add_zero, Nat.zero_add, Nat.reduceAdd, ↓ev_move, ↓ev_bin, ↓binCV_eq, binCV_eq, binR, ↓ev_pick, ↓pickK_true, pickK_true, ↓pickK_false, pickK_false, ↓ldK1_ptr, ↓ldB1_cells, ↓ldKn_ptr, ↓ldBn_cells, ↓read3, read3, ↓read5, read5, List.length_cons, List.length_nil, newB, cellsT_cons, cellsT_nil, ↓ptrK_ptr, ↓fa29_3, ↓ld4, ↓t16, t16]
      exact rfl
    apply CG.regs
    · intro k
      simp (maxSteps := 2000000) (disch := first | decide | omega | rfl) only [s3_24_2, ↓runS_op, ↓runS_nil, ↓optK_some, optK_some, ↓putT_some, ↓grd_true, grd_true, T.get_same, T.get_other, ↓evO_tmp, ↓grd_blt, grd_blt, ↓runS_if, ↓wantS_tt, wantS_tt, ↓wantS_tf, wantS_tf, ↓wantS_ft, wantS_ft, ↓wantS_ff, wantS_ff, Nat.add_zero, Nat.zero_add, Nat.reduceAdd, ↓ev_move, ↓ev_not, Bool.not_true, Bool.not_false, ↓ldK1_ptr, ↓ldB1_cells, ↓ldKn_ptr, ↓ldBn_cells, ↓read3, read3, ↓read5, read5, List.length_cons, List.length_nil, newB, cellsT_cons, cellsT_nil, ↓ptrK_ptr, ↓fa38_2, ↓ld4, ↓t16, t16]
      exact rfl
    apply CG.reg
    · intro k
      simp (maxSteps := 2000000) (disch := first | decide | omega | rfl) only [s3_24_3, ↓runS_op, ↓runS_nil, ↓optK_some, optK_some, ↓putT_some, ↓grd_true, grd_true, T.get_same, T.get_other, ↓evO_tmp, ↓grd_blt, grd_blt, ↓runS_if, ↓wantS_tt, wantS_tt, ↓wantS_tf, wantS_tf, ↓wantS_ft, wantS_ft, ↓wantS_ff, wantS_ff, ↓evO_const, ofValue, ↓ev_bin, ↓binCV_eq, binCV_eq, binR, ↓ev_pick, ↓pickK_true, pickK_true, ↓pickK_false, pickK_false, ↓t16, t16]
      exact rfl
    refine CG.cond_false (fun k => by simp (maxSteps := 2000000) (disch := first | decide | omega | rfl) only [evO_tmp, optK_some, T.get_same, T.get_other] <;> rfl) ?_
    refine CG.skip ?_
    refine CG.seq ?_
    apply CG.reg
    · intro k
      simp (maxSteps := 2000000) (disch := first | decide | omega | rfl) only [s3_26, ↓runS_op, ↓runS_nil, ↓optK_some, optK_some, ↓putT_some, ↓grd_true, grd_true, T.get_same, T.get_other, ↓evO_tmp, ↓grd_blt, grd_blt, ↓ev_assign, ↓ev_call, ↓evOs_cons, ↓evOs_nil, ↓notMap_fn, notMap_fn, ↓evO_func, List.getElem?_cons_zero, List.getElem?_cons_succ, ↓el, el]
      exact rfl
    exact CG.ret ⟨rfl, by simp (maxSteps := 2000000) (disch := first | decide | omega | rfl) only [T.get_same, T.get_other] <;> rfl, hX3⟩
  | true =>
    rw [hth] at t16
    obtain ⟨r0, hr0⟩ := Option.isSome_iff_exists.1 hth
    obtain ⟨s0, hs0⟩ := Option.isSome_iff_exists.1 (law3.trans hth)
    have hw := law5 r0 s0 hr0 hs0
    rw [hr0] at k15
    rw [hs0] at k21
    simp only [rgO] at k15 k21
    cases wb with
    | true =>
      have hin := of_decide_eq_true hwb.symm
      rw [if_pos hin] at hw
      rw [hw] at k21
      have en1 : ∀ (c : CV → Res β), binCV tab .eql 4 (.bool (!wr)) (.bool wr) c = c (.bool false) := fun c => by rw [eq_b]; cases wr <;> rfl
      rw [s3_24_eq]
      apply CG.regs
      · intro k
        simp (maxSteps := 2000000) (disch := first | decide | omega | rfl) only [s3_24_0, ↓runS_op, ↓runS_nil, ↓optK_some, optK_some, ↓putT_some, ↓grd_true, grd_true, T.get_same, T.get_other, ↓evO_tmp, ↓grd_blt, grd_blt, ↓runS_if, ↓wantS_tt, wantS_tt, ↓wantS_tf, wantS_tf, ↓wantS_ft, wantS_ft, ↓wantS_ff, wantS_ff, Nat.add_zero, Nat.zero_add, Nat.reduceAdd, ↓ev_move, ↓ldK1_ptr, ↓ldB1_cells, ↓ldKn_ptr, ↓ldBn_cells, ↓read3, read3, ↓read5, read5, List.length_cons, List.length_nil, newB, cellsT_cons, cellsT_nil, ↓ptrK_ptr, ↓fa38_2, ↓ld4, ↓t16, t16, ↓t23, t23, ↓t21, t21, ↓g21, g21, ↓k21, k21, ↓t7, t7, ↓g73, g73, ↓k3, k3, ↓en1, en1]
        exact rfl
      apply CG.regs
      · intro k
        simp (maxSteps := 2000000) (disch := first | decide | omega | rfl) only [s3_24_1, ↓runS_op, ↓runS_nil, ↓optK_some, optK_some, ↓putT_some, ↓grd_true, grd_true, T.get_same, T.get_other, ↓evO_tmp, ↓grd_blt, grd_blt, ↓runS_if, ↓wantS_tt, wantS_tt, ↓wantS_tf, wantS_tf, ↓wantS_ft, wantS_ft, ↓wantS_ff, wantS_ff, ↓evO_const, ofValue, Nat.add_zero, Nat.zero_add, Nat.reduceAdd, ↓ev_move, ↓ev_bin, ↓binCV_eq, binCV_eq, binR, ↓ev_pick, ↓pickK_true, pickK_true, ↓pickK_false, pickK_false, ↓ldK1_ptr, ↓ldB1_cells, ↓ldKn_ptr, ↓ldBn_cells, ↓read3, read3, ↓read5, read5, List.length_cons, List.length_nil, newB, cellsT_cons, cellsT_nil, ↓ptrK_ptr, ↓fa29_3, ↓ld4, ↓t16, t16, ↓t23, t23, ↓t21, t21, ↓g21, g21, ↓k21, k21, ↓t7, t7, ↓g73, g73, ↓k3, k3, ↓en1, en1]
        exact rfl
      apply CG.regs
      · intro k
        simp (maxSteps := 2000000) (disch := first | decide | omega | rfl) only [s3_24_2, ↓runS_op, ↓runS_nil, ↓optK_some, optK_some, ↓putT_some, ↓grd_true, grd_true, T.get_same, T.get_other, ↓evO_tmp, ↓grd_blt, grd_blt, ↓runS_if, ↓wantS_tt, wantS_tt, ↓wantS_tf, wantS_tf, ↓wantS_ft, wantS_ft, ↓wantS_ff, wantS_ff, Nat.add_zero, Nat.zero_add, Nat.reduceAdd, ↓ev_move, ↓ev_not, Bool.not_true, Bool.not_false, ↓ldK1_ptr, ↓ldB1_cells, ↓ldKn_ptr, ↓ldBn_cells, ↓read3, read3, ↓read5, read5, List.length_cons, List.length_nil, newB, cellsT_cons, cellsT_nil, ↓ptrK_ptr, ↓fa38_2, ↓ld4, ↓t16, t16, ↓t23, t23, ↓t21, t21, ↓g21, g21, ↓k21, k21, ↓t7, t7, ↓g73, g73, ↓k3, k3, ↓en1, en1]
        exact rfl
      apply CG.reg
      · intro k
        simp (maxSteps := 2000000) (disch := first | decide | omega | rfl) only [s3_24_3, ↓runS_op, ↓runS_nil, ↓optK_some, optK_some, ↓putT_some, ↓grd_true, grd_true, T.get_same, T.get_other, ↓evO_tmp, ↓grd_blt, grd_blt, ↓runS_if, ↓wantS_tt, wantS_tt, ↓wantS_tf, wantS_tf, ↓wantS_ft, wantS_ft, ↓wantS_ff, wantS_ff, ↓evO_const, ofValue, ↓ev_bin, ↓binCV_eq, binCV_eq, binR, ↓ev_pick, ↓pickK_true, pickK_true, ↓pickK_false, pickK_false, ↓t16, t16, ↓t23, t23, ↓t21, t21, ↓g21, g21, ↓k21, k21, ↓t7, t7, ↓g73, g73, ↓k3, k3, ↓en1, en1]
        exact rfl
      refine CG.cond_false (fun k => by simp (maxSteps := 2000000) (disch := first | decide | omega | rfl) only [evO_tmp, optK_some, T.get_same, T.get_other] <;> rfl) ?_
      refine CG.skip ?_
      refine CG.seq ?_
      apply CG.reg
      · intro k
        simp (maxSteps := 2000000) (disch := first | decide | omega | rfl) only [s3_26, ↓runS_op, ↓runS_nil, ↓optK_some, optK_some, ↓putT_some, ↓grd_true, grd_true, T.get_same, T.get_other, ↓evO_tmp, ↓grd_blt, grd_blt, ↓ev_assign, ↓ev_call, ↓evOs_cons, ↓evOs_nil, ↓notMap_fn, notMap_fn, ↓evO_func, List.getElem?_cons_zero, List.getElem?_cons_succ, ↓el, el]
        exact rfl
      exact CG.ret ⟨rfl, by simp (maxSteps := 2000000) (disch := first | decide | omega | rfl) only [T.get_same, T.get_other] <;> rfl, hX3⟩
    | false =>
      have hin := of_decide_eq_false hwb.symm
      rw [if_neg hin] at hw
      rw [hw] at k21
      have en1 : ∀ (c : CV → Res β), binCV tab .neq 4 (.bool r0.w) (.bool r0.w) c = c (.bool false) := fun c => by rw [ne_b, bneb]
      rw [s3_24_eq]
      apply CG.regs
      · intro k
        simp (maxSteps := 2000000) (disch := first | decide | omega | rfl) only [s3_24_0, ↓runS_op, ↓runS_nil, ↓optK_some, optK_some, ↓putT_some, ↓grd_true, grd_true, T.get_same, T.get_other, ↓evO_tmp, ↓grd_blt, grd_blt, ↓runS_if, ↓wantS_tt, wantS_tt, ↓wantS_tf, wantS_tf, ↓wantS_ft, wantS_ft, ↓wantS_ff, wantS_ff, Nat.add_zero, Nat.zero_add, Nat.reduceAdd, ↓ev_move, ↓ldK1_ptr, ↓ldB1_cells, ↓ldKn_ptr, ↓ldBn_cells, ↓read3, read3, ↓read5, read5, List.length_cons, List.length_nil, newB, cellsT_cons, cellsT_nil, ↓ptrK_ptr, ↓fa38_2, ↓ld4, ↓t16, t16, ↓t23, t23, ↓t21, t21, ↓g21, g21, ↓k21, k21, ↓t15, t15, ↓g153, g153, ↓k15, k15, ↓en1, en1]
        exact rfl
      apply CG.regs
      · intro k
        simp (maxSteps := 2000000) (disch := first | decide | omega | rfl) only [s3_24_1, ↓runS_op, ↓runS_nil, ↓optK_some, optK_some, ↓putT_some, ↓grd_true, grd_true, T.get_same, T.get_other, ↓evO_tmp, ↓grd_blt, grd_blt, ↓runS_if, ↓wantS_tt, wantS_tt, ↓wantS_tf, wantS_tf, ↓wantS_ft, wantS_ft, ↓wantS_ff, wantS_ff, ↓evO_const, ofValue, Nat.add_zero, Nat.zero_add, Nat.reduceAdd, ↓ev_move, ↓ev_bin, ↓binCV_eq, binCV_eq, binR, ↓ev_pick, ↓pickK_true, pickK_true, ↓pickK_false, pickK_false, ↓ldK1_ptr, ↓ldB1_cells, ↓ldKn_ptr, ↓ldBn_cells, ↓read3, read3, ↓read5, read5, List.length_cons, List.length_nil, newB, cellsT_cons, cellsT_nil, ↓ptrK_ptr, ↓fa29_3, ↓ld4, ↓t16, t16, ↓t23, t23, ↓t21, t21, ↓g21, g21, ↓k21, k21, ↓t15, t15, ↓g153, g153, ↓k15, k15, ↓en1, en1]
        exact rfl
      apply CG.regs
      · intro k
        simp (maxSteps := 2000000) (disch := first | decide | omega | rfl) only [s3_24_2, ↓runS_op, ↓runS_nil, ↓optK_some, optK_some, ↓putT_some, ↓grd_true, grd_true, T.get_same, T.get_other, ↓evO_tmp, ↓grd_blt, grd_blt, ↓runS_if, ↓wantS_tt, wantS_tt, ↓wantS_tf, wantS_tf, ↓wantS_ft, wantS_ft, ↓wantS_ff, wantS_ff, Nat.add_zero, Nat.zero_add, Nat.reduceAdd, ↓ev_move, ↓ev_not, Bool.not_true, Bool.not_false, ↓ldK1_ptr, ↓ldB1_cells, ↓ldKn_ptr, ↓ldBn_cells, ↓read3, read3, ↓read5, read5, List.length_cons, List.length_nil, newB, cellsT_cons, cellsT_nil, ↓ptrK_ptr, ↓fa38_2, ↓ld4, ↓t16, t16, ↓t23, t23, ↓t21, t21, ↓g21, g21, ↓k21, k21, ↓t15, t15, ↓g153, g153, ↓k15, k15, ↓en1, en1]
        exact rfl
      apply CG.reg
      · intro k
        simp (maxSteps := 2000000) (disch := first | decide | omega | rfl) only [s3_24_3, ↓runS_op, ↓runS_nil, ↓optK_some, optK_some, ↓putT_some, ↓grd_true, grd_true, T.get_same, T.get_other, ↓evO_tmp, ↓grd_blt, grd_blt, ↓runS_if, ↓wantS_tt, wantS_tt, ↓wantS_tf, wantS_tf, ↓wantS_ft, wantS_ft, ↓wantS_ff, wantS_ff, ↓evO_const, ofValue, ↓ev_bin, ↓binCV_eq, binCV_eq, binR, ↓ev_pick, ↓pickK_true, pickK_true, ↓pickK_false, pickK_false, ↓t16, t16, ↓t23, t23, ↓t21, t21, ↓g21, g21, ↓k21, k21, ↓t15, t15, ↓g153, g153, ↓k15, k15, ↓en1, en1]
        exact rfl
      refine CG.cond_false (fun k => by simp (maxSteps := 2000000) (disch := first | decide | omega | rfl) only [evO_tmp, optK_some, T.get_same, T.get_other] <;> rfl) ?_
      refine CG.skip ?_
      refine CG.seq ?_
      apply CG.reg
      · intro k
        simp (maxSteps := 2000000) (disch := first | decide | omega | rfl) only [s3_26, ↓runS_op, ↓runS_nil, ↓optK_some, optK_some, ↓putT_some, ↓grd_true, grd_true, T.get_same, T.get_other, ↓evO_tmp, ↓grd_blt, grd_blt, ↓ev_assign, ↓ev_call, ↓evOs_cons, ↓evOs_nil, ↓notMap_fn, notMap_fn, ↓evO_func, List.getElem?_cons_zero, List.getElem?_cons_succ, ↓el, el]
        exact rfl
      exact CG.ret ⟨rfl, by simp (maxSteps := 2000000) (disch := first | decide | omega | rfl) only [T.get_same, T.get_other] <;> rfl, hX3⟩

end Go.Proofs.YthdoelcgdgcncaaGreatDoor
/- Walks: TopUndo. -/
namespace Go.Proofs.YthdoelcgdgcncaaGreatDoor
open Go Go.Can
variable {β : Type}

theorem protB (d : Nat) {call : CallT β} (hc : call = callN tab (d + 9)) {v : CV} {l : List Rg} {fi co kd page : Int} {wr : Bool} {b7 : Nat} {h hh : T Blk} {nx nn : Nat} {tt : T CV} (hG : ∀ g, g < 9 → h.get g = heap0.get g) (h9 : 9 ≤ nx) (hs : SlR h nx v l) (hok : ∀ r ∈ l, r.ok)
    (hf0 : 0 ≤ fi) (hf1 : fi < 18446744073709551616) (hc0 : -9223372036854775808 ≤ co) (hc1 : co < 9223372036854775808) (hp0 : 0 ≤ page) (hp1 : page < 18446744073709551616)
    (t0 : tt.get 0 = some v) (t2 : tt.get 2 = some (.int .u64 page)) (t7 : tt.get 7 = some (.ptr b7 0)) (hX : Ext h nx hh nn) (h7 : b7 < nn) (r7 : R7 hh b7 kd fi co wr) :
    CG tab call ⟨195, none⟩ (.seq (.reg s3_12) (.seq (.seq (.reg s3_13) (.cond (.tmp 89) (.seq (.reg s3_14) .ret) .skip)) (.seq (.reg s3_15) (.seq (.reg s3_16) (.seq (.seq (.reg s3_17) (.cond (.tmp 131) (.seq (.reg s3_18) .ret) .skip)) (.seq (.reg s3_19) (.seq (.reg s3_20) (.seq (.reg s3_21) (.seq (.seq (.reg s3_22) (.cond (.tmp 170) (.seq (.reg s3_23) .ret) .skip)) (.seq (.seq (.reg s3_24) (.cond (.tmp 192) (.seq (.reg s3_25) .ret) .skip)) (.seq (.reg s3_26) .ret))))))))))) tt hh nn (FinQ h nx) := by
  have elives : ∀ {H : T Blk} {NX : Nat}, Ext h nx H NX → ∀ (k : K β), call (.fn 6 [] []) [] H NX k = k (.bool true) H NX := fun {H NX} hx k => by
    rw [hc]; exact lives_ok (d + 8) (Ext.keep hx h9 hG) NX k
  obtain ⟨cs, g7, k0, k1, k2, k3⟩ := r7
  obtain ⟨_, H, NX, ⟨u, rfl, hq, hx⟩, e⟩ := protect_ok (β := β) d (first := fi) (c := co) (wr := wr) (hs.ext hX) hok hf0 hf1 hc0 hc1
  rw [← hc] at e
  have hX2 := hX.trans hx
  have hle := hx.le
  have g72 : H.get b7 = some (.cells 5 cs true) := by rw [hx.get _ h7]; exact g7
  have el := elives hX2
  refine CG.seq ?_
  rw [s3_12_eq]
  apply CG.regs
  · intro k
    simp (maxSteps := 2000000) (disch := first | decide | omega | rfl) only [s3_12_0, ↓runS_op, ↓runS_nil, ↓optK_some, optK_some, ↓putT_some, ↓grd_true, grd_true, T.get_same, T.get_other, ↓evO_tmp, ↓grd_blt, grd_blt, Nat.add_zero, Nat.zero_add, Nat.reduceAdd, ↓ev_move, ↓ldK1_ptr, ↓ldB1_cells, ↓ldKn_ptr, ↓ldBn_cells, ↓read3, read3, ↓read5, read5, List.length_cons, List.length_nil, newB, cellsT_cons, cellsT_nil, ↓ptrK_ptr, ↓fa29_1, ↓fa29_2, ↓fa29_3, ↓ld23, ↓ld3, ↓t0, t0, ↓t7, t7, ↓g7, g7, ↓k1, k1, ↓k2, k2, ↓k3, k3, ↓e, e]
    exact rfl
  apply CG.reg
  · intro k
    simp (maxSteps := 2000000) (disch := first | decide | omega | rfl) only [s3_12_1, ↓runS_op, ↓runS_nil, ↓optK_some, optK_some, ↓putT_some, ↓grd_true, grd_true, T.get_same, T.get_other, ↓evO_tmp, ↓grd_blt, grd_blt, Nat.add_zero, Nat.zero_add, Nat.reduceAdd, ↓ev_move, ↓ev_assign, ↓ev_extract, List.getElem?_cons_zero, List.getElem?_cons_succ, ↓ev_call, ↓evOs_cons, ↓evOs_nil, ↓notMap_fn, notMap_fn, ↓evO_func, ↓ldK1_ptr, ↓ldB1_cells, ↓ldKn_ptr, ↓ldBn_cells, ↓read3, read3, ↓read5, read5, List.length_cons, List.length_nil, newB, cellsT_cons, cellsT_nil, ↓ld4, ↓t0, t0, ↓t7, t7, ↓g7, g7, ↓k1, k1, ↓k2, k2, ↓k3, k3, ↓e, e]
    exact rfl
  refine CG.seq ?_
  refine CG.seq ?_
  cases hm : decide ((chg l fi co (cutP fi co wr)).1 = 0) with
  | false =>
    apply CG.reg
    · intro k
      simp (maxSteps := 2000000) (disch := first | decide | omega | rfl) only [s3_13, ↓runS_op, ↓runS_nil, ↓optK_some, optK_some, ↓putT_some, ↓grd_true, grd_true, T.get_same, T.get_other, ↓evO_tmp, ↓grd_blt, grd_blt, ↓evO_const, ofValue, ↓ev_move, ↓ev_bin, ↓binCV_eq, binCV_eq, binR, ↓hm, hm]
      exact rfl
    refine CG.cond_true (fun k => by simp (maxSteps := 2000000) (disch := first | decide | omega | rfl) only [evO_tmp, optK_some, T.get_same, T.get_other] <;> rfl) ?_
    refine CG.seq ?_
    apply CG.reg
    · intro k
      simp (maxSteps := 2000000) (disch := first | decide | omega | rfl) only [s3_14, ↓runS_op, ↓runS_nil, ↓optK_some, optK_some, ↓putT_some, ↓grd_true, grd_true, T.get_same, T.get_other, ↓evO_tmp, ↓grd_blt, grd_blt, ↓ev_assign, ↓ev_call, ↓evOs_cons, ↓evOs_nil, ↓notMap_fn, notMap_fn, ↓evO_func, List.getElem?_cons_zero, List.getElem?_cons_succ, ↓el, el]
      exact rfl
    exact CG.ret ⟨rfl, by simp (maxSteps := 2000000) (disch := first | decide | omega | rfl) only [T.get_same, T.get_other] <;> rfl, hX2⟩
  | true =>
    have hme : chg l fi co (cutP fi co wr) = (0, (chg l fi co (cutP fi co wr)).2) := by
      have := of_decide_eq_true hm
      rw [← this]
    apply CG.reg
    · intro k
      simp (maxSteps := 2000000) (disch := first | decide | omega | rfl) only [s3_13, ↓runS_op, ↓runS_nil, ↓optK_some, optK_some, ↓putT_some, ↓grd_true, grd_true, T.get_same, T.get_other, ↓evO_tmp, ↓grd_blt, grd_blt, ↓evO_const, ofValue, ↓ev_move, ↓ev_bin, ↓binCV_eq, binCV_eq, binR, ↓hm, hm]
      exact rfl
    refine CG.cond_false (fun k => by simp (maxSteps := 2000000) (disch := first | decide | omega | rfl) only [evO_tmp, optK_some, T.get_same, T.get_other] <;> rfl) ?_
    refine CG.skip ?_
    generalize hal : (chg l fi co (cutP fi co wr)).2 = a at hq hme
    obtain ⟨law1, law2, law3, law4, law5, o1, o2, o3, va, vb⟩ := prot_law (page := page) hme
    generalize hbe : a.flatMap (cutP fi co (!wr)) = bb at law1 law3 law5 vb
    refine CG.fresh (fun tt => tt.get 0 = some v ∧ tt.get 2 = some (.int .u64 page) ∧ tt.get 7 = some (.ptr b7 0) ∧ tt.get 13 = some u) ⟨by simp (maxSteps := 2000000) (disch := first | decide | omega | rfl) only [t0, T.get_same, T.get_other] <;> rfl, by simp (maxSteps := 2000000) (disch := first | decide | omega | rfl) only [t2, T.get_same, T.get_other] <;> rfl, by simp (maxSteps := 2000000) (disch := first | decide | omega | rfl) only [t7, T.get_same, T.get_other] <;> rfl, by simp (maxSteps := 2000000) (disch := first | decide | omega | rfl) only [T.get_same, T.get_other] <;> rfl⟩ ?_
    clear t0 t2 t7 tt
    rintro tt ⟨t0, t2, t7, t13⟩
    -- the two looks
    obtain ⟨_, H2, NX2, ⟨rfl, hx2⟩, e2⟩ := find_ok (β := β) (d + 4) (page := page) (hs.ext hX2) hok
    rw [show d + 4 + 5 = d + 9 from rfl, ← hc] at e2
    have hX3 : Ext h nx ((H2.set NX2 (newB [.int .u64 0, .int .i64 0, .bool false])).set NX2 (.cells 3 (((((((T.nil).set 0 (.int .u64 0)).set 1 (.int .i64 0)).set 2 (.bool false)).set 0 (.int .u64 (rgO (findV l page)).a)).set 1 (.int .i64 (rgO (findV l page)).c)).set 2 (.bool (rgO (findV l page)).w)) true)) (NX2 + 1) := (hX2.trans hx2).new.set (by have := (hX2.trans hx2).le; omega)
    refine CG.seq ?_
    rw [s3_15_eq]
    apply CG.regs
    · intro k
      simp (maxSteps := 2000000) (disch := first | decide | omega | rfl) only [s3_15_0, ↓runS_op, ↓runS_nil, ↓optK_some, optK_some, ↓putT_some, ↓grd_true, grd_true, T.get_same, T.get_other, ↓evO_tmp, ↓grd_blt, grd_blt, ↓ev_move, ↓ev_extract, List.getElem?_cons_zero, List.getElem?_cons_succ, ↓ev_call, ↓evOs_cons, ↓evOs_nil, ↓notMap_fn, notMap_fn, ↓evO_func, ↓t0, t0, ↓t2, t2, ↓e2, e2]
      exact rfl
    apply CG.reg
    · intro k
      simp (maxSteps := 2000000) (disch := first | decide | omega | rfl) only [s3_15_1, ↓runS_op, ↓runS_nil, ↓optK_some, optK_some, ↓putT_some, ↓grd_true, grd_true, T.get_same, T.get_other, ↓evO_tmp, ↓grd_blt, grd_blt, ↓putT_none, Nat.add_zero, Nat.zero_add, Nat.reduceAdd, ↓ev_assign, ↓ptrOf_ptr, ↓stK_eq, ↓stB_cells, ↓grd_beq, grd_beq, ↓grd_ble, grd_ble, Bool.true_and, Bool.and_true, cells_int, cells_bool, cells_agg, cells_slice, cells_nilslice, cells_fn, cells_nilfn, cells_ptr, List.length_cons, List.length_nil, newB, cellsT_cons, cellsT_nil, ↓st38, ↓al38, ↓t0, t0, ↓t2, t2, ↓e2, e2]
      exact rfl
    refine CG.freshH (fun tt hh nn => tt.get 0 = some v ∧ tt.get 2 = some (.int .u64 page) ∧ tt.get 7 = some (.ptr b7 0) ∧ tt.get 13 = some u ∧ tt.get 16 = some (.bool (findV l page).isSome) ∧ tt.get 15 = some (.ptr NX2 0) ∧
      Ext H NX hh nn ∧ NX2 < nn ∧ ∃ cs, hh.get NX2 = some (.cells 3 cs true) ∧ cs.get 2 = some (.bool (rgO (findV l page)).w)) ⟨by simp (maxSteps := 2000000) (disch := first | decide | omega | rfl) only [t0, T.get_same, T.get_other] <;> rfl, by simp (maxSteps := 2000000) (disch := first | decide | omega | rfl) only [t2, T.get_same, T.get_other] <;> rfl, by simp (maxSteps := 2000000) (disch := first | decide | omega | rfl) only [t7, T.get_same, T.get_other] <;> rfl, by simp (maxSteps := 2000000) (disch := first | decide | omega | rfl) only [t13, T.get_same, T.get_other] <;> rfl, by simp (maxSteps := 2000000) (disch := first | decide | omega | rfl) only [T.get_same, T.get_other] <;> rfl, by simp (maxSteps := 2000000) (disch := first | decide | omega | rfl) only [T.get_same, T.get_other] <;> rfl, hx2.new.set (by have := hx2.le; omega), Nat.lt_succ_self _, _, T.get_same _ _ _, T.get_same _ _ _⟩ ?_
    clear t0 t2 t7 t13 tt hX3
    rintro tt H3 NX3 ⟨t0, t2, t7, t13, t16, t15, hx3, h15, c15, g15, k15⟩
    have hX4 := hX2.trans hx3
    obtain ⟨_, H4, NX4, ⟨rfl, hx4⟩, e4⟩ := find_ok (β := β) (d + 4) (page := page) (l := a) ((hq.sl).ext hx3) (valid_ok va)
    rw [show d + 4 + 5 = d + 9 from rfl, ← hc, law2] at e4
    have hle4 := hx4.le
    refine CG.seq ?_
    rw [s3_16_eq]
    apply CG.regs
    · intro k
      simp (maxSteps := 2000000) (disch := first | decide | omega | rfl) only [s3_16_0, ↓runS_op, ↓runS_nil, ↓optK_some, optK_some, ↓putT_some, ↓grd_true, grd_true, T.get_same, T.get_other, ↓evO_tmp, ↓grd_blt, grd_blt, ↓ev_move, ↓ev_extract, List.getElem?_cons_zero, List.getElem?_cons_succ, ↓ev_call, ↓evOs_cons, ↓evOs_nil, ↓notMap_fn, notMap_fn, ↓evO_func, ↓t13, t13, ↓t2, t2, ↓e4, e4]
      exact rfl
    apply CG.reg
    · intro k
      simp (maxSteps := 2000000) (disch := first | decide | omega | rfl) only [s3_16_1, ↓runS_op, ↓runS_nil, ↓optK_some, optK_some, ↓putT_some, ↓grd_true, grd_true, T.get_same, T.get_other, ↓evO_tmp, ↓grd_blt, grd_blt, ↓putT_none, Nat.add_zero, Nat.zero_add, Nat.reduceAdd, ↓ev_assign, ↓ptrOf_ptr, ↓stK_eq, ↓stB_cells, ↓grd_beq, grd_beq, ↓grd_ble, grd_ble, Bool.true_and, Bool.and_true, cells_int, cells_bool, cells_agg, cells_slice, cells_nilslice, cells_fn, cells_nilfn, cells_ptr, List.length_cons, List.length_nil, newB, cellsT_cons, cellsT_nil, ↓st38, ↓al38, ↓t13, t13, ↓t2, t2, ↓e4, e4]
      exact rfl
    have hNX := hx3.le
    refine CG.freshH (fun tt hh nn => tt.get 2 = some (.int .u64 page) ∧ tt.get 7 = some (.ptr b7 0) ∧ tt.get 13 = some u ∧ tt.get 16 = some (.bool (findV l page).isSome) ∧ tt.get 15 = some (.ptr NX2 0) ∧ tt.get 18 = some (.bool (findV l page).isSome) ∧ tt.get 17 = some (.ptr NX4 0) ∧
      Ext H3 NX3 hh nn ∧ NX4 < nn ∧ ∃ cs, hh.get NX4 = some (.cells 3 cs true) ∧ cs.get 2 = some (.bool (rgO (findV a page)).w)) ⟨by simp (maxSteps := 2000000) (disch := first | decide | omega | rfl) only [t2, T.get_same, T.get_other] <;> rfl, by simp (maxSteps := 2000000) (disch := first | decide | omega | rfl) only [t7, T.get_same, T.get_other] <;> rfl, by simp (maxSteps := 2000000) (disch := first | decide | omega | rfl) only [t13, T.get_same, T.get_other] <;> rfl, by simp (maxSteps := 2000000) (disch := first | decide | omega | rfl) only [t16, T.get_same, T.get_other] <;> rfl, by simp (maxSteps := 2000000) (disch := first | decide | omega | rfl) only [t15, T.get_same, T.get_other] <;> rfl, by simp (maxSteps := 2000000) (disch := first | decide | omega | rfl) only [T.get_same, T.get_other] <;> rfl, by simp (maxSteps := 2000000) (disch := first | decide | omega | rfl) only [T.get_same, T.get_other] <;> rfl, hx4.new.set hle4, Nat.lt_succ_self _, _, T.get_same _ _ _, T.get_same _ _ _⟩ ?_
    clear t0 t2 t7 t13 t16 t15 tt
    rintro tt H5 NX5 ⟨t2, t7, t13, t16, t15, t18, t17, hx5, h17, c17, g17, k17⟩
    have hX5 := hX4.trans hx5
    have hNX5 := hx5.le
    have g75 : H5.get b7 = some (.cells 5 cs true) := by rw [hx5.get _ (by omega), hx3.get _ (by omega)]; exact g72
    have g155 : H5.get NX2 = some (.cells 3 c15 true) := by rw [hx5.get _ h15]; exact g15
    have w1 : fi ≤ page → IntKind.u64.wrap (page - fi) = page - fi := fun h => wrap_u64 (by omega) (by omega)
    have w2 : IntKind.u64.wrap co = co := wrap_u64 (by omega) (by omega)
    have en : ∀ (c : CV → Res β), binCV tab .neq 4 (.bool (findV l page).isSome) (.bool (findV l page).isSome) c = c (.bool false) := fun c => by rw [ne_b, bneb]
    refine CG.seq ?_
    refine CG.seq ?_
    have step : ∀ {Q : Ex → T CV → T Blk → Nat → Prop}, (∀ tt : T CV, tt.get 2 = some (.int .u64 page) → tt.get 7 = some (.ptr b7 0) → tt.get 13 = some u → tt.get 16 = some (.bool (findV l page).isSome) → tt.get 15 = some (.ptr NX2 0) → tt.get 131 = some (.bool false) → Q .normal tt H5 NX5) →
        CG tab call ⟨195, none⟩ (.reg s3_17) tt H5 NX5 Q := by
      intro Q hQ
      cases hth : (findV l page).isSome with
      | false =>
        rw [hth] at t16 t18 en hQ
        rw [s3_17_eq]
        apply CG.regs
        · intro k
          simp (maxSteps := 2000000) (disch := first | decide | omega | rfl) only [s3_17_0, ↓runS_op, ↓runS_nil, ↓optK_some, optK_some, ↓putT_some, ↓grd_true, grd_true, T.get_same, T.get_other, ↓evO_tmp, ↓grd_blt, grd_blt, ↓runS_if, ↓wantS_tt, wantS_tt, ↓wantS_tf, wantS_tf, ↓wantS_ft, wantS_ft, ↓wantS_ff, wantS_ff, ↓ev_move, ↓ev_bin, ↓binCV_eq, binCV_eq, binR, ↓t16, t16, ↓t18, t18, ↓en, en]
          exact rfl
        apply CG.regs
        · intro k
          simp (maxSteps := 2000000) (disch := first | decide | omega | rfl) only [s3_17_1, ↓runS_op, ↓runS_nil, ↓optK_some, optK_some, ↓putT_some, ↓grd_true, grd_true, T.get_same, T.get_other, ↓evO_tmp, ↓grd_blt, grd_blt, ↓runS_if, ↓wantS_tt, wantS_tt, ↓wantS_tf, wantS_tf, ↓wantS_ft, wantS_ft, ↓wantS_ff, wantS_ff, Nat.add_zero, Nat.zero_add, Nat.reduceAdd, ↓ev_move, ↓ev_bin, ↓binCV_eq, binCV_eq, binR, ↓ldK1_ptr, ↓ldB1_cells, ↓ldKn_ptr, ↓ldBn_cells, ↓read3, read3, ↓read5, read5, List.length_cons, List.length_nil, newB, cellsT_cons, cellsT_nil, ↓ptrK_ptr, ↓fa29_1, ↓ld23, ↓t16, t16, ↓t18, t18, ↓en, en]
          exact rfl
        apply CG.regs
        · intro k
          simp (maxSteps := 2000000) (disch := first | decide | omega | rfl) only [s3_17_2, ↓runS_op, ↓runS_nil, ↓optK_some, optK_some, ↓putT_some, ↓grd_true, grd_true, T.get_same, T.get_other, ↓evO_tmp, ↓grd_blt, grd_blt, ↓runS_if, ↓wantS_tt, wantS_tt, ↓wantS_tf, wantS_tf, ↓wantS_ft, wantS_ft, ↓wantS_ff, wantS_ff, Nat.add_zero, Nat.zero_add, Nat.reduceAdd, ↓ev_bin, ↓binCV_eq, binCV_eq, binR, ↓ldK1_ptr, ↓ldB1_cells, ↓ldKn_ptr, ↓ldBn_cells, ↓read3, read3, ↓read5, read5, List.length_cons, List.length_nil, newB, cellsT_cons, cellsT_nil, ↓convK_int, convK_int, ↓ptrK_ptr, ↓fa29_1, ↓fa29_2, ↓ld23, ↓ld3, ↓cn3_23, ↓t16, t16, ↓t18, t18, ↓en, en]
          exact rfl
        apply CG.regs
        · intro k
          simp (maxSteps := 2000000) (disch := first | decide | omega | rfl) only [s3_17_3, ↓runS_op, ↓runS_nil, ↓optK_some, optK_some, ↓putT_some, ↓grd_true, grd_true, T.get_same, T.get_other, ↓evO_tmp, ↓grd_blt, grd_blt, ↓runS_if, ↓wantS_tt, wantS_tt, ↓wantS_tf, wantS_tf, ↓wantS_ft, wantS_ft, ↓wantS_ff, wantS_ff, ↓evO_const, ofValue, Nat.add_zero, Nat.zero_add, Nat.reduceAdd, ↓ev_move, ↓ev_bin, ↓binCV_eq, binCV_eq, binR, ↓ev_pick, ↓pickK_true, pickK_true, ↓pickK_false, pickK_false, ↓ldK1_ptr, ↓ldB1_cells, ↓ldKn_ptr, ↓ldBn_cells, ↓read3, read3, ↓read5, read5, List.length_cons, List.length_nil, newB, cellsT_cons, cellsT_nil, ↓ptrK_ptr, ↓fa38_2, ↓ld4, ↓t16, t16, ↓t18, t18, ↓en, en]
          exact rfl
        apply CG.reg
        · intro k
          simp (maxSteps := 2000000) (disch := first | decide | omega | rfl) only [s3_17_4, ↓runS_op, ↓runS_nil, ↓optK_some, optK_some, ↓putT_some, ↓grd_true, grd_true, T.get_same, T.get_other, ↓evO_tmp, ↓grd_blt, grd_blt, ↓runS_if, ↓wantS_tt, wantS_tt, ↓wantS_tf, wantS_tf, ↓wantS_ft, wantS_ft, ↓wantS_ff, wantS_ff, ↓evO_const, ofValue, Nat.add_zero, Nat.zero_add, Nat.reduceAdd, ↓ev_bin, ↓binCV_eq, binCV_eq, binR, ↓ev_pick, ↓pickK_true, pickK_true, ↓pickK_false, pickK_false, ↓ldK1_ptr, ↓ldB1_cells, ↓ldKn_ptr, ↓ldBn_cells, ↓read3, read3, ↓read5, read5, List.length_cons, List.length_nil, newB, cellsT_cons, cellsT_nil, ↓ptrK_ptr, ↓fa38_2, ↓ld4, ↓t16, t16, ↓t18, t18, ↓en, en]
          exact rfl
        exact hQ _ (by simp (maxSteps := 2000000) (disch := first | decide | omega | rfl) only [t2, T.get_same, T.get_other] <;> rfl) (by simp (maxSteps := 2000000) (disch := first | decide | omega | rfl) only [t7, T.get_same, T.get_other] <;> rfl) (by simp (maxSteps := 2000000) (disch := first | decide | omega | rfl) only [t13, T.get_same, T.get_other] <;> rfl) (by simp (maxSteps := 2000000) (disch := first | decide | omega | rfl) only [t16, T.get_same, T.get_other] <;> rfl) (by simp (maxSteps := 2000000) (disch := first | decide | omega | rfl) only [t15, T.get_same, T.get_other] <;> rfl) (by simp (maxSteps := 2000000) (disch := first | decide | omega | rfl) only [T.get_same, T.get_other] <;> rfl)
      | true =>
        have law2 := law2
        rw [hth] at t16 t18 en hQ law2
        obtain ⟨r0, hr0⟩ := Option.isSome_iff_exists.1 hth
        obtain ⟨s0, hs0⟩ := Option.isSome_iff_exists.1 law2
        have hw := law4 r0 s0 hr0 hs0
        rw [hr0] at k15
        rw [hs0] at k17
        simp only [rgO] at k15 k17
        have en1 : ∀ (c : CV → Res β), binCV tab .neq 4 (.bool r0.w) (.bool r0.w) c = c (.bool false) := fun c => by rw [ne_b, bneb]
        by_cases hge : fi ≤ page
        · have c1 : decide (page < fi) = false := decide_eq_false (by omega)
          have w1 := w1 hge
          by_cases hin : page < fi + co
          · have c2 : decide (page - fi ≥ co) = false := decide_eq_false (by omega)
            have c2' : decide (co ≤ page - fi) = false := decide_eq_false (by omega)
            rw [s3_17_eq]
            apply CG.regs
            · intro k
              simp (maxSteps := 2000000) (disch := first | decide | omega | rfl) only [s3_17_0, ↓runS_op, ↓runS_nil, ↓optK_some, optK_some, ↓putT_some, ↓grd_true, grd_true, T.get_same, T.get_other, ↓evO_tmp, ↓grd_blt, grd_blt, ↓runS_if, ↓wantS_tt, wantS_tt, ↓wantS_tf, wantS_tf, ↓wantS_ft, wantS_ft, ↓wantS_ff, wantS_ff, ↓ev_move, ↓ev_bin, ↓binCV_eq, binCV_eq, binR, ↓t16, t16, ↓t18, t18, ↓en, en, ↓t2, t2, ↓t7, t7, ↓g75, g75, ↓k1, k1, ↓k2, k2, ↓c1, c1, ↓w1, w1, ↓w2, w2, ↓c2, c2, c2']
              exact rfl
            apply CG.regs
            · intro k
              simp (maxSteps := 2000000) (disch := first | decide | omega | rfl) only [s3_17_1, ↓runS_op, ↓runS_nil, ↓optK_some, optK_some, ↓putT_some, ↓grd_true, grd_true, T.get_same, T.get_other, ↓evO_tmp, ↓grd_blt, grd_blt, ↓runS_if, ↓wantS_tt, wantS_tt, ↓wantS_tf, wantS_tf, ↓wantS_ft, wantS_ft, ↓wantS_ff, wantS_ff, Nat.add_zero, Nat.zero_add, Nat.reduceAdd, ↓ev_move, ↓ev_bin, ↓binCV_eq, binCV_eq, binR, ↓ldK1_ptr, ↓ldB1_cells, ↓ldKn_ptr, ↓ldBn_cells, ↓read3, read3, ↓read5, read5, List.length_cons, List.length_nil, newB, cellsT_cons, cellsT_nil, ↓ptrK_ptr, ↓fa29_1, ↓ld23, ↓t16, t16, ↓t18, t18, ↓en, en, ↓t2, t2, ↓t7, t7, ↓g75, g75, ↓k1, k1, ↓k2, k2, ↓c1, c1, ↓w1, w1, ↓w2, w2, ↓c2, c2, c2']
              exact rfl
            apply CG.regs
            · intro k
              simp (maxSteps := 2000000) (disch := first | decide | omega | rfl) only [s3_17_2, ↓runS_op, ↓runS_nil, ↓optK_some, optK_some, ↓putT_some, ↓grd_true, grd_true, T.get_same, T.get_other, ↓evO_tmp, ↓grd_blt, grd_blt, ↓runS_if, ↓wantS_tt, wantS_tt, ↓wantS_tf, wantS_tf, ↓wantS_ft, wantS_ft, ↓wantS_ff, wantS_ff, Nat.add_zero, Nat.zero_add, Nat.reduceAdd, ↓ev_bin, ↓binCV_eq, binCV_eq, binR, ↓ldK1_ptr, ↓ldB1_cells, ↓ldKn_ptr, ↓ldBn_cells, ↓read3, read3, ↓read5, read5, List.length_cons, List.length_nil, newB, cellsT_cons, cellsT_nil, ↓convK_int, convK_int, ↓ptrK_ptr, ↓fa29_1, ↓fa29_2, ↓ld23, ↓ld3, ↓cn3_23, ↓t16, t16, ↓t18, t18, ↓en, en, ↓t2, t2, ↓t7, t7, ↓g75, g75, ↓k1, k1, ↓k2, k2, ↓c1, c1, ↓w1, w1, ↓w2, w2, ↓c2, c2, c2']
              exact rfl
            apply CG.regs
            · intro k
              simp (maxSteps := 2000000) (disch := first | decide | omega | rfl) only [s3_17_3, ↓runS_op, ↓runS_nil, ↓optK_some, optK_some, ↓putT_some, ↓grd_true, grd_true, T.get_same, T.get_other, ↓evO_tmp, ↓grd_blt, grd_blt, ↓runS_if, ↓wantS_tt, wantS_tt, ↓wantS_tf, wantS_tf, ↓wantS_ft, wantS_ft, ↓wantS_ff, wantS_ff, ↓evO_const, ofValue, Nat.add_zero, Nat.zero_add, Nat.reduceAdd, ↓ev_move, ↓ev_bin, ↓binCV_eq, binCV_eq, binR, ↓ev_pick, ↓pickK_true, pickK_true, ↓pickK_false, pickK_false, ↓ldK1_ptr, ↓ldB1_cells, ↓ldKn_ptr, ↓ldBn_cells, ↓read3, read3, ↓read5, read5, List.length_cons, List.length_nil, newB, cellsT_cons, cellsT_nil, ↓ptrK_ptr, ↓fa38_2, ↓ld4, ↓t16, t16, ↓t18, t18, ↓en, en, ↓t2, t2, ↓t7, t7, ↓g75, g75, ↓k1, k1, ↓k2, k2, ↓c1, c1, ↓w1, w1, ↓w2, w2, ↓c2, c2, c2']
              exact rfl
            apply CG.reg
            · intro k
              simp (maxSteps := 2000000) (disch := first | decide | omega | rfl) only [s3_17_4, ↓runS_op, ↓runS_nil, ↓optK_some, optK_some, ↓putT_some, ↓grd_true, grd_true, T.get_same, T.get_other, ↓evO_tmp, ↓grd_blt, grd_blt, ↓runS_if, ↓wantS_tt, wantS_tt, ↓wantS_tf, wantS_tf, ↓wantS_ft, wantS_ft, ↓wantS_ff, wantS_ff, ↓evO_const, ofValue, Nat.add_zero, Nat.zero_add, Nat.reduceAdd, ↓ev_bin, ↓binCV_eq, binCV_eq, binR, ↓ev_pick, ↓pickK_true, pickK_true, ↓pickK_false, pickK_false, ↓ldK1_ptr, ↓ldB1_cells, ↓ldKn_ptr, ↓ldBn_cells, ↓read3, read3, ↓read5, read5, List.length_cons, List.length_nil, newB, cellsT_cons, cellsT_nil, ↓ptrK_ptr, ↓fa38_2, ↓ld4, ↓t16, t16, ↓t18, t18, ↓en, en, ↓t2, t2, ↓t7, t7, ↓g75, g75, ↓k1, k1, ↓k2, k2, ↓c1, c1, ↓w1, w1, ↓w2, w2, ↓c2, c2, c2']
              exact rfl
            exact hQ _ (by simp (maxSteps := 2000000) (disch := first | decide | omega | rfl) only [t2, T.get_same, T.get_other] <;> rfl) (by simp (maxSteps := 2000000) (disch := first | decide | omega | rfl) only [t7, T.get_same, T.get_other] <;> rfl) (by simp (maxSteps := 2000000) (disch := first | decide | omega | rfl) only [t13, T.get_same, T.get_other] <;> rfl) (by simp (maxSteps := 2000000) (disch := first | decide | omega | rfl) only [t16, T.get_same, T.get_other] <;> rfl) (by simp (maxSteps := 2000000) (disch := first | decide | omega | rfl) only [t15, T.get_same, T.get_other] <;> rfl) (by simp (maxSteps := 2000000) (disch := first | decide | omega | rfl) only [T.get_same, T.get_other] <;> rfl)
          · have c2 : decide (page - fi ≥ co) = true := decide_eq_true (by omega)
            have c2' : decide (co ≤ page - fi) = true := decide_eq_true (by omega)
            rw [hw (by omega)] at k17
            rw [s3_17_eq]
            apply CG.regs
            · intro k
              simp (maxSteps := 2000000) (disch := first | decide | omega | rfl) only [s3_17_0, ↓runS_op, ↓runS_nil, ↓optK_some, optK_some, ↓putT_some, ↓grd_true, grd_true, T.get_same, T.get_other, ↓evO_tmp, ↓grd_blt, grd_blt, ↓runS_if, ↓wantS_tt, wantS_tt, ↓wantS_tf, wantS_tf, ↓wantS_ft, wantS_ft, ↓wantS_ff, wantS_ff, ↓ev_move, ↓ev_bin, ↓binCV_eq, binCV_eq, binR, ↓t16, t16, ↓t18, t18, ↓en, en, ↓t2, t2, ↓t7, t7, ↓g75, g75, ↓k1, k1, ↓k2, k2, ↓c1, c1, ↓w1, w1, ↓w2, w2, ↓c2, c2, c2', ↓t17, t17, ↓t15, t15, ↓g17, g17, ↓k17, k17, ↓g155, g155, ↓k15, k15, ↓en1, en1]
              exact rfl
            apply CG.regs
            · intro k
              simp (maxSteps := 2000000) (disch := first | decide | omega | rfl) only [s3_17_1, ↓runS_op, ↓runS_nil, ↓optK_some, optK_some, ↓putT_some, ↓grd_true, grd_true, T.get_same, T.get_other, ↓evO_tmp, ↓grd_blt, grd_blt, ↓runS_if, ↓wantS_tt, wantS_tt, ↓wantS_tf, wantS_tf, ↓wantS_ft, wantS_ft, ↓wantS_ff, wantS_ff, Nat.add_zero, Nat.zero_add, Nat.reduceAdd, ↓ev_move, ↓ev_bin, ↓binCV_eq, binCV_eq, binR, ↓ldK1_ptr, ↓ldB1_cells, ↓ldKn_ptr, ↓ldBn_cells, ↓read3, read3, ↓read5, read5, List.length_cons, List.length_nil, newB, cellsT_cons, cellsT_nil, ↓ptrK_ptr, ↓fa29_1, ↓ld23, ↓t16, t16, ↓t18, t18, ↓en, en, ↓t2, t2, ↓t7, t7, ↓g75, g75, ↓k1, k1, ↓k2, k2, ↓c1, c1, ↓w1, w1, ↓w2, w2, ↓c2, c2, c2', ↓t17, t17, ↓t15, t15, ↓g17, g17, ↓k17, k17, ↓g155, g155, ↓k15, k15, ↓en1, en1]
              exact rfl
            apply CG.regs
            · intro k
              simp (maxSteps := 2000000) (disch := first | decide | omega | rfl) only [s3_17_2, ↓runS_op, ↓runS_nil, ↓optK_some, optK_some, ↓putT_some, ↓grd_true, grd_true, T.get_same, T.get_other, ↓evO_tmp, ↓grd_blt, grd_blt, ↓runS_if, ↓wantS_tt, wantS_tt, ↓wantS_tf, wantS_tf, ↓wantS_ft, wantS_ft, ↓wantS_ff, wantS_ff, Nat.add_zero, Nat.zero_add, Nat.reduceAdd, ↓ev_bin, ↓binCV_eq, binCV_eq, binR, ↓ldK1_ptr, ↓ldB1_cells, ↓ldKn_ptr, ↓ldBn_cells, ↓read3, read3, ↓read5, read5, List.length_cons, List.length_nil, newB, cellsT_cons, cellsT_nil, ↓convK_int, convK_int, ↓ptrK_ptr, ↓fa29_1, ↓fa29_2, ↓ld23, ↓ld3, ↓cn3_23, ↓t16, t16, ↓t18, t18, ↓en, en, ↓t2, t2, ↓t7, t7, ↓g75, g75, ↓k1, k1, ↓k2, k2, ↓c1, c1, ↓w1, w1, ↓w2, w2, ↓c2, c2, c2', ↓t17, t17, ↓t15, t15, ↓g17, g17, ↓k17, k17, ↓g155, g155, ↓k15, k15, ↓en1, en1]
              exact rfl
            apply CG.regs
            · intro k
              simp (maxSteps := 2000000) (disch := first | decide | omega | rfl) only [s3_17_3, ↓runS_op, ↓runS_nil, ↓optK_some, optK_some, ↓putT_some, ↓grd_true, grd_true, T.get_same, T.get_other, ↓evO_tmp, ↓grd_blt, grd_blt, ↓runS_if, ↓wantS_tt, wantS_tt, ↓wantS_tf, wantS_tf, ↓wantS_ft, wantS_ft, ↓wantS_ff, wantS_ff, ↓evO_const, ofValue, Nat.add_zero, Nat.zero_add, Nat.reduceAdd, ↓ev_move, ↓ev_bin, ↓binCV_eq, binCV_eq, binR, ↓ev_pick, ↓pickK_true, pickK_true, ↓pickK_false, pickK_false, ↓ldK1_ptr, ↓ldB1_cells, ↓ldKn_ptr, ↓ldBn_cells, ↓read3, read3, ↓read5, read5, List.length_cons, List.length_nil, newB, cellsT_cons, cellsT_nil, ↓ptrK_ptr, ↓fa38_2, ↓ld4, ↓t16, t16, ↓t18, t18, ↓en, en, ↓t2, t2, ↓t7, t7, ↓g75, g75, ↓k1, k1, ↓k2, k2, ↓c1, c1, ↓w1, w1, ↓w2, w2, ↓c2, c2, c2', ↓t17, t17, ↓t15, t15, ↓g17, g17, ↓k17, k17, ↓g155, g155, ↓k15, k15, ↓en1, en1]
              exact rfl
            apply CG.reg
            · intro k
              simp (maxSteps := 2000000) (disch := first | decide | omega | rfl) only [s3_17_4, ↓runS_op, ↓runS_nil, ↓optK_some, optK_some, ↓putT_some, ↓grd_true, grd_true, T.get_same, T.get_other, ↓evO_tmp, ↓grd_blt, grd_blt, ↓runS_if, ↓wantS_tt, wantS_tt, ↓wantS_tf, wantS_tf, ↓wantS_ft, wantS_ft, ↓wantS_ff, wantS_ff, ↓evO_const, ofValue, Nat.add_zero, Nat.zero_add, Nat.reduceAdd, ↓ev_bin, ↓binCV_eq, binCV_eq, binR, ↓ev_pick, ↓pickK_true, pickK_true, ↓pickK_false, pickK_false, ↓ldK1_ptr, ↓ldB1_cells, ↓ldKn_ptr, ↓ldBn_cells, ↓read3, read3, ↓read5, read5, List.length_cons, List.length_nil, newB, cellsT_cons, cellsT_nil, ↓ptrK_ptr, ↓fa38_2, ↓ld4, ↓t16, t16, ↓t18, t18, ↓en, en, ↓t2, t2, ↓t7, t7, ↓g75, g75, ↓k1, k1, ↓k2, k2, ↓c1, c1, ↓w1, w1, ↓w2, w2, ↓c2, c2, c2', ↓t17, t17, ↓t15, t15, ↓g17, g17, ↓k17, k17, ↓g155, g155, ↓k15, k15, ↓en1, en1]
              exact rfl
            exact hQ _ (by simp (maxSteps := 2000000) (disch := first | decide | omega | rfl) only [t2, T.get_same, T.get_other] <;> rfl) (by simp (maxSteps := 2000000) (disch := first | decide | omega | rfl) only [t7, T.get_same, T.get_other] <;> rfl) (by simp (maxSteps := 2000000) (disch := first | decide | omega | rfl) only [t13, T.get_same, T.get_other] <;> rfl) (by simp (maxSteps := 2000000) (disch := first | decide | omega | rfl) only [t16, T.get_same, T.get_other] <;> rfl) (by simp (maxSteps := 2000000) (disch := first | decide | omega | rfl) only [t15, T.get_same, T.get_other] <;> rfl) (by simp (maxSteps := 2000000) (disch := first | decide | omega | rfl) only [T.get_same, T.get_other] <;> rfl)
        · have c1 : decide (page < fi) = true := decide_eq_true (by omega)
          rw [hw (by omega)] at k17
          rw [s3_17_eq]
          apply CG.regs
          · intro k
            simp (maxSteps := 2000000) (disch := first | decide | omega | rfl) only [s3_17_0, ↓runS_op, ↓runS_nil, ↓optK_some, optK_some, ↓putT_some, ↓grd_true, grd_true, T.get_same, T.get_other, ↓evO_tmp, ↓grd_blt, grd_blt, ↓runS_if, ↓wantS_tt, wantS_tt, ↓wantS_tf, wantS_tf, ↓wantS_ft, wantS_ft, ↓wantS_ff, wantS_ff, ↓ev_move, ↓ev_bin, ↓binCV_eq, binCV_eq, binR, ↓t16, t16, ↓t18, t18, ↓en, en, ↓t2, t2, ↓t7, t7, ↓g75, g75, ↓k1, k1, ↓k2, k2, ↓c1, c1, ↓t17, t17, ↓t15, t15, ↓g17, g17, ↓k17, k17, ↓g155, g155, ↓k15, k15, ↓en1, en1]
            exact rfl
          apply CG.regs
          · intro k
            simp (maxSteps := 2000000) (disch := first | decide | omega | rfl) only [s3_17_1, ↓runS_op, ↓runS_nil, ↓optK_some, optK_some, ↓putT_some, ↓grd_true, grd_true, T.get_same, T.get_other, ↓evO_tmp, ↓grd_blt, grd_blt, ↓runS_if, ↓wantS_tt, wantS_tt, ↓wantS_tf, wantS_tf, ↓wantS_ft, wantS_ft, ↓wantS_ff, wantS_ff, Nat.add_zero, Nat.zero_add, Nat.reduceAdd, ↓ev_move, ↓ev_bin, ↓binCV_eq, binCV_eq, binR, ↓ldK1_ptr, ↓ldB1_cells, ↓ldKn_ptr, ↓ldBn_cells, ↓read3, read3, ↓read5, read5, List.length_cons, List.length_nil, newB, cellsT_cons, cellsT_nil, ↓ptrK_ptr, ↓fa29_1, ↓ld23, ↓t16, t16, ↓t18, t18, ↓en, en, ↓t2, t2, ↓t7, t7, ↓g75, g75, ↓k1, k1, ↓k2, k2, ↓c1, c1, ↓t17, t17, ↓t15, t15, ↓g17, g17, ↓k17, k17, ↓g155, g155, ↓k15, k15, ↓en1, en1]
            exact rfl
          apply CG.regs
          · intro k
            simp (maxSteps := 2000000) (disch := first | decide | omega | rfl) only [s3_17_2, ↓runS_op, ↓runS_nil, ↓optK_some, optK_some, ↓putT_some, ↓grd_true, grd_true, T.get_same, T.get_other, ↓evO_tmp, ↓grd_blt, grd_blt, ↓runS_if, ↓wantS_tt, wantS_tt, ↓wantS_tf, wantS_tf, ↓wantS_ft, wantS_ft, ↓wantS_ff, wantS_ff, Nat.add_zero, Nat.zero_add, Nat.reduceAdd, ↓ev_bin, ↓binCV_eq, binCV_eq, binR, ↓ldK1_ptr, ↓ldB1_cells, ↓ldKn_ptr, ↓ldBn_cells, ↓read3, read3, ↓read5, read5, List.length_cons, List.length_nil, newB, cellsT_cons, cellsT_nil, ↓convK_int, convK_int, ↓ptrK_ptr, ↓fa29_1, ↓fa29_2, ↓ld23, ↓ld3, ↓cn3_23, ↓t16, t16, ↓t18, t18, ↓en, en, ↓t2, t2, ↓t7, t7, ↓g75, g75, ↓k1, k1, ↓k2, k2, ↓c1, c1, ↓t17, t17, ↓t15, t15, ↓g17, g17, ↓k17, k17, ↓g155, g155, ↓k15, k15, ↓en1, en1]
            exact rfl
          apply CG.regs
          · intro k
            simp (maxSteps := 2000000) (disch := first | decide | omega | rfl) only [s3_17_3, ↓runS_op, ↓runS_nil, ↓optK_some, optK_some, ↓putT_some, ↓grd_true, grd_true, T.get_same, T.get_other, ↓evO_tmp, ↓grd_blt, grd_blt, ↓runS_if, ↓wantS_tt, wantS_tt, ↓wantS_tf, wantS_tf, ↓wantS_ft, wantS_ft, ↓wantS_ff, wantS_ff, ↓evO_const, ofValue, Nat.add_zero, Nat.zero_add, Nat.reduceAdd, ↓ev_move, ↓ev_bin, ↓binCV_eq, binCV_eq, binR, ↓ev_pick, ↓pickK_true, pickK_true, ↓pickK_false, pickK_false, ↓ldK1_ptr, ↓ldB1_cells, ↓ldKn_ptr, ↓ldBn_cells, ↓read3, read3, ↓read5, read5, List.length_cons, List.length_nil, newB, cellsT_cons, cellsT_nil, ↓ptrK_ptr, ↓fa38_2, ↓ld4, ↓t16, t16, ↓t18, t18, ↓en, en, ↓t2, t2, ↓t7, t7, ↓g75, g75, ↓k1, k1, ↓k2, k2, ↓c1, c1, ↓t17, t17, ↓t15, t15, ↓g17, g17, ↓k17, k17, ↓g155, g155, ↓k15, k15, ↓en1, en1]
            exact rfl
          apply CG.reg
          · intro k
            simp (maxSteps := 2000000) (disch := first | decide | omega | rfl) only [s3_17_4, ↓runS_op, ↓runS_nil, ↓optK_some, optK_some, ↓putT_some, ↓grd_true, grd_true, T.get_same, T.get_other, ↓evO_tmp, ↓grd_blt, grd_blt, ↓runS_if, ↓wantS_tt, wantS_tt, ↓wantS_tf, wantS_tf, ↓wantS_ft, wantS_ft, ↓wantS_ff, wantS_ff, ↓evO_const, ofValue, Nat.add_zero, Nat.zero_add, Nat.reduceAdd, ↓ev_bin, ↓binCV_eq, binCV_eq, binR, ↓ev_pick, ↓pickK_true, pickK_true, ↓pickK_false, pickK_false, ↓ldK1_ptr, ↓ldB1_cells, ↓ldKn_ptr, ↓ldBn_cells, ↓read3, read3, ↓read5, read5, List.length_cons, List.length_nil, newB, cellsT_cons, cellsT_nil, ↓ptrK_ptr, ↓fa38_2, ↓ld4, ↓t16, t16, ↓t18, t18, ↓en, en, ↓t2, t2, ↓t7, t7, ↓g75, g75, ↓k1, k1, ↓k2, k2, ↓c1, c1, ↓t17, t17, ↓t15, t15, ↓g17, g17, ↓k17, k17, ↓g155, g155, ↓k15, k15, ↓en1, en1]
            exact rfl
          exact hQ _ (by simp (maxSteps := 2000000) (disch := first | decide | omega | rfl) only [t2, T.get_same, T.get_other] <;> rfl) (by simp (maxSteps := 2000000) (disch := first | decide | omega | rfl) only [t7, T.get_same, T.get_other] <;> rfl) (by simp (maxSteps := 2000000) (disch := first | decide | omega | rfl) only [t13, T.get_same, T.get_other] <;> rfl) (by simp (maxSteps := 2000000) (disch := first | decide | omega | rfl) only [t16, T.get_same, T.get_other] <;> rfl) (by simp (maxSteps := 2000000) (disch := first | decide | omega | rfl) only [t15, T.get_same, T.get_other] <;> rfl) (by simp (maxSteps := 2000000) (disch := first | decide | omega | rfl) only [T.get_same, T.get_other] <;> rfl)
    refine step fun tt t2 t7 t13 t16 t15 t131 => ?_
    refine CG.cond_false (fun k => by simp (maxSteps := 2000000) (disch := first | decide | omega | rfl) only [t131, evO_tmp, optK_some, T.get_same, T.get_other] <;> rfl) ?_
    refine CG.skip ?_
    have hq5 := OutQ.ext (hx3.trans hx5) hq
    exact protC d hc (kd := kd) (wr := wr) (l := l) (a := a) (bb := bb) hG h9 hq5 va vb hf0 hf1 hc0 hc1 hp0 hp1 o1 law1 law3 law5 t2 t7 t13 t16 t15 hX5 (by omega) ⟨cs, g75, k0, k1, k2, k3⟩ (by omega) g155 k15

theorem undo_ok (d : Nat) {v : CV} {l : List Rg} {n a0 a1 a2 : Nat} {page : Int} {h : T Blk} {nx : Nat} (hG : ∀ g, g < 9 → h.get g = heap0.get g) (h9 : 9 ≤ nx) (hs : SlR h nx v l) (hok : ∀ r ∈ l, r.ok) (hp0 : 0 ≤ page) (hp1 : page < 18446744073709551616) :
    FG (β := β) tab (d + 10) 3 [v, .agg [.int .u64 (n : Int), .int .u64 (a0 : Int), .int .u64 (a1 : Int), .int .u64 (a2 : Int)], .int .u64 page] h nx fun v' h' nx' => v' = .bool true ∧ Ext h nx h' nx' := by
  refine FG.of (fn := Tryz.f3) (c := c3) (n := 195) (rs := [.tmp 6]) (by kernel_rfl) (by kernel_rfl) (by kernel_rfl) c3_ok rfl rfl (by simp) fun call hc => ?_
  have elives : ∀ {H : T Blk} {NX : Nat}, Ext h nx H NX → ∀ (k : K β), call (.fn 6 [] []) [] H NX k = k (.bool true) H NX := fun {H NX} hx k => by
    rw [hc]; exact lives_ok (d + 8) (Ext.keep hx h9 hG) NX k
  have hA : Ext h nx (h.set nx (newB [.int .u64 (n : Int), .int .u64 (a0 : Int), .int .u64 (a1 : Int), .int .u64 (a2 : Int)])) (nx + 1) := (Ext.refl h nx).new
  have gA : (h.set nx (newB [.int .u64 (n : Int), .int .u64 (a0 : Int), .int .u64 (a1 : Int), .int .u64 (a2 : Int)])).get nx = some (newB [.int .u64 (n : Int), .int .u64 (a0 : Int), .int .u64 (a1 : Int), .int .u64 (a2 : Int)]) := T.get_same _ _ _
  generalize hh1 : h.set nx (newB [.int .u64 (n : Int), .int .u64 (a0 : Int), .int .u64 (a1 : Int), .int .u64 (a2 : Int)]) = h1 at hA gA
  obtain ⟨_, H, NX, ⟨⟨_, er, rfl, kd, fi, co, wr, pc, rfl, hf0, hf1, hc0, hc1⟩, hx⟩, e⟩ := parse_ok (β := β) (d + 5) (n := n) (a0 := a0) (a1 := a1) (a2 := a2) h1 (nx + 1)
  rw [show d + 5 + 4 = d + 9 from rfl, ← hc] at e
  have hX := hA.trans hx
  have hle := hx.le
  simp only [newB, cellsT_cons, cellsT_nil, Nat.zero_add, Nat.reduceAdd, List.length_cons, List.length_nil] at hh1
  simp only [newB, cellsT_cons, cellsT_nil, Nat.zero_add, Nat.reduceAdd, List.length_cons, List.length_nil] at gA
  simp only [cellsT_cons, cellsT_nil, Nat.zero_add, Nat.reduceAdd]
  unfold c3
  refine CG.seq ?_
  apply CG.reg
  · intro k
    simp (maxSteps := 2000000) (disch := first | decide | omega | rfl) only [s3_0, ↓runS_op, ↓runS_nil, ↓optK_some, optK_some, ↓putT_some, ↓grd_true, grd_true, T.get_same, T.get_other, ↓evO_tmp, ↓grd_blt, grd_blt, ↓evO_const, ofValue, Nat.add_zero, Nat.zero_add, Nat.reduceAdd, ↓ev_assign, ↓ev_box1, ↓boxK_int, ↓boxK_bool, ↓boxK_rg, ↓boxK_a3, ↓boxK_a4, ↓boxK_slice, ↓boxK_nilslice, ↓boxK_fn, List.length_cons, List.length_nil, newB, cellsT_cons, cellsT_nil, ↓hh1, hh1]
    exact rfl
  refine CG.seq ?_
  rw [s3_1_eq]
  apply CG.regs
  · intro k
    simp (maxSteps := 2000000) (disch := first | decide | omega | rfl) only [s3_1_0, ↓runS_op, ↓runS_nil, ↓optK_some, optK_some, ↓putT_some, ↓grd_true, grd_true, T.get_same, T.get_other, ↓evO_tmp, ↓grd_blt, grd_blt, Nat.add_zero, Nat.zero_add, Nat.reduceAdd, ↓ev_move, ↓ev_extract, List.getElem?_cons_zero, List.getElem?_cons_succ, ↓ev_call, ↓evOs_cons, ↓evOs_nil, ↓notMap_fn, notMap_fn, ↓evO_func, ↓ldK1_ptr, ↓ldB1_cells, ↓ldKn_ptr, ↓ldBn_cells, ↓read3, read3, ↓read5, read5, List.length_cons, List.length_nil, newB, cellsT_cons, cellsT_nil, ↓ld26, ↓al29, ↓gA, gA, ↓e, e, ↓read4, read4]
    exact rfl
  apply CG.reg
  · intro k
    simp (maxSteps := 2000000) (disch := first | decide | omega | rfl) only [s3_1_1, ↓runS_op, ↓runS_nil, ↓optK_some, optK_some, ↓putT_some, ↓grd_true, grd_true, T.get_same, T.get_other, ↓evO_tmp, ↓grd_blt, grd_blt, ↓putT_none, Nat.add_zero, Nat.zero_add, Nat.reduceAdd, ↓ev_assign, ↓ptrOf_ptr, ↓stK_eq, ↓stB_cells, ↓grd_beq, grd_beq, ↓grd_ble, grd_ble, Bool.true_and, Bool.and_true, cells_int, cells_bool, cells_agg, cells_slice, cells_nilslice, cells_fn, cells_nilfn, cells_ptr, List.length_cons, List.length_nil, newB, cellsT_cons, cellsT_nil, ↓st29, ↓gA, gA, ↓e, e, ↓read4, read4]
    exact rfl
  refine CG.freshH (fun tt hh nn => tt.get 0 = some v ∧ tt.get 2 = some (.int .u64 page) ∧ tt.get 7 = some (.ptr NX 0) ∧ tt.get 8 = some (.int .i64 er) ∧ Ext h nx hh nn ∧ NX < nn ∧ R7 hh NX kd fi co wr) ⟨by simp (maxSteps := 2000000) (disch := first | decide | omega | rfl) only [T.get_same, T.get_other] <;> rfl, by simp (maxSteps := 2000000) (disch := first | decide | omega | rfl) only [T.get_same, T.get_other] <;> rfl, by simp (maxSteps := 2000000) (disch := first | decide | omega | rfl) only [T.get_same, T.get_other] <;> rfl, by simp (maxSteps := 2000000) (disch := first | decide | omega | rfl) only [T.get_same, T.get_other] <;> rfl, hX.new.set hX.le, Nat.lt_succ_self _, _, T.get_same _ _ _, by simp (maxSteps := 2000000) (disch := first | decide | omega | rfl) only [T.get_same, T.get_other] <;> rfl, by simp (maxSteps := 2000000) (disch := first | decide | omega | rfl) only [T.get_same, T.get_other] <;> rfl, by simp (maxSteps := 2000000) (disch := first | decide | omega | rfl) only [T.get_same, T.get_other] <;> rfl, by simp (maxSteps := 2000000) (disch := first | decide | omega | rfl) only [T.get_same, T.get_other] <;> rfl⟩ ?_
  rintro tt H2 NX2 ⟨t0, t2, t7, t8, hX2, h7, r7⟩
  clear hX hx e hh1 gA hA
  have fin : ∀ {ex : Ex} {t : T CV} {h' : T Blk} {nx' : Nat}, FinQ h nx ex t h' nx' → ∃ v' h'' nx'', (v' = .bool true ∧ Ext h nx h'' nx'') ∧ ∀ k : K β, finK tab [.tmp 6] k ex t [] h' nx' = k v' h'' nx'' := by
    rintro ex t h' nx' ⟨rfl, t6, hx⟩
    exact ⟨_, _, _, ⟨rfl, hx⟩, fun k => by simp (disch := decide) only [t6, finK_ret, resultsK_tmp, resultsK_nil, rc29, rc38, rc47, resP_ptr, ldKn_ptr, ldBn_cells, read3, read5, read8, newB, cellsT_cons, cellsT_nil, Nat.zero_add, Nat.reduceAdd, retK_one, retK_two, retK_nil, optK_some, T.get_same, T.get_other] <;> rfl⟩
  refine CG.seq ?_
  refine CG.seq ?_
  by_cases her : er = 0
  · have c0 : decide (er = 0) = true := decide_eq_true her
    obtain ⟨_, H3, NX3, ⟨rfl, hx3⟩, e3⟩ := check_ok (β := β) (d + 7) (hs.ext hX2) hok
    rw [show d + 7 + 2 = d + 9 from rfl, ← hc] at e3
    have hX3 := hX2.trans hx3
    have el := elives hX3
    cases hv : valid l with
    | false =>
      have c1 : decide (errB false = 0) = false := rfl
      rw [hv] at e3
      apply CG.reg
      · intro k
        simp (maxSteps := 2000000) (disch := first | decide | omega | rfl) only [s3_2, ↓runS_op, ↓runS_nil, ↓optK_some, optK_some, ↓putT_some, ↓grd_true, grd_true, T.get_same, T.get_other, ↓evO_tmp, ↓grd_blt, grd_blt, ↓runS_if, ↓wantS_tt, wantS_tt, ↓wantS_tf, wantS_tf, ↓wantS_ft, wantS_ft, ↓wantS_ff, wantS_ff, ↓evO_const, ofValue, ↓ev_move, ↓ev_bin, ↓binCV_eq, binCV_eq, binR, ↓ev_pick, ↓pickK_true, pickK_true, ↓pickK_false, pickK_false, ↓ev_call, ↓evOs_cons, ↓evOs_nil, ↓notMap_fn, notMap_fn, ↓evO_func, List.getElem?_cons_zero, List.getElem?_cons_succ, ↓t8, t8, ↓t0, t0, ↓c0, c0, ↓e3, e3, ↓c1, c1]
        exact rfl
      refine CG.cond_true (fun k => by simp (maxSteps := 2000000) (disch := first | decide | omega | rfl) only [evO_tmp, optK_some, T.get_same, T.get_other] <;> rfl) ?_
      refine CG.seq ?_
      apply CG.reg
      · intro k
        simp (maxSteps := 2000000) (disch := first | decide | omega | rfl) only [s3_3, ↓runS_op, ↓runS_nil, ↓optK_some, optK_some, ↓putT_some, ↓grd_true, grd_true, T.get_same, T.get_other, ↓evO_tmp, ↓grd_blt, grd_blt, ↓ev_assign, ↓ev_call, ↓evOs_cons, ↓evOs_nil, ↓notMap_fn, notMap_fn, ↓evO_func, List.getElem?_cons_zero, List.getElem?_cons_succ, ↓el, el]
        exact rfl
      exact CG.ret (fin ⟨rfl, by simp (maxSteps := 2000000) (disch := first | decide | omega | rfl) only [T.get_same, T.get_other] <;> rfl, hX3⟩)
    | true =>
      have c1 : decide (errB true = 0) = true := rfl
      rw [hv] at e3
      apply CG.reg
      · intro k
        simp (maxSteps := 2000000) (disch := first | decide | omega | rfl) only [s3_2, ↓runS_op, ↓runS_nil, ↓optK_some, optK_some, ↓putT_some, ↓grd_true, grd_true, T.get_same, T.get_other, ↓evO_tmp, ↓grd_blt, grd_blt, ↓runS_if, ↓wantS_tt, wantS_tt, ↓wantS_tf, wantS_tf, ↓wantS_ft, wantS_ft, ↓wantS_ff, wantS_ff, ↓evO_const, ofValue, ↓ev_move, ↓ev_bin, ↓binCV_eq, binCV_eq, binR, ↓ev_pick, ↓pickK_true, pickK_true, ↓pickK_false, pickK_false, ↓ev_call, ↓evOs_cons, ↓evOs_nil, ↓notMap_fn, notMap_fn, ↓evO_func, List.getElem?_cons_zero, List.getElem?_cons_succ, ↓t8, t8, ↓t0, t0, ↓c0, c0, ↓e3, e3, ↓c1, c1]
        exact rfl
      refine CG.cond_false (fun k => by simp (maxSteps := 2000000) (disch := first | decide | omega | rfl) only [evO_tmp, optK_some, T.get_same, T.get_other] <;> rfl) ?_
      refine CG.skip ?_
      refine CG.fresh (fun tt => tt.get 0 = some v ∧ tt.get 2 = some (.int .u64 page) ∧ tt.get 7 = some (.ptr NX 0)) ⟨by simp (maxSteps := 2000000) (disch := first | decide | omega | rfl) only [t0, T.get_same, T.get_other] <;> rfl, by simp (maxSteps := 2000000) (disch := first | decide | omega | rfl) only [t2, T.get_same, T.get_other] <;> rfl, by simp (maxSteps := 2000000) (disch := first | decide | omega | rfl) only [t7, T.get_same, T.get_other] <;> rfl⟩ ?_
      clear t0 t2 t7 t8 tt
      rintro tt ⟨t0, t2, t7⟩
      have r73 := r7.ext hx3 h7
      have h73 : NX < NX3 := Nat.lt_of_lt_of_le h7 hx3.le
      obtain ⟨cs, g7, k0, k1, k2, k3⟩ := r73
      refine CG.seq ?_
      refine CG.seq ?_
      apply CG.reg
      · intro k
        simp (maxSteps := 2000000) (disch := first | decide | omega | rfl) only [s3_4, ↓runS_op, ↓runS_nil, ↓optK_some, optK_some, ↓putT_some, ↓grd_true, grd_true, T.get_same, T.get_other, ↓evO_tmp, ↓grd_blt, grd_blt, Nat.add_zero, Nat.zero_add, Nat.reduceAdd, ↓ldK1_ptr, ↓ldB1_cells, ↓ldKn_ptr, ↓ldBn_cells, ↓read3, read3, ↓read5, read5, List.length_cons, List.length_nil, newB, cellsT_cons, cellsT_nil, ↓ptrK_ptr, ↓fa29_0, ↓ld27, ↓t7, t7, ↓g7, g7, ↓k0, k0]
        exact rfl
      refine CG.block ?_
      refine CG.seq ?_
      cases hk1 : decide (kd = 1) with
      | true =>
        apply CG.reg
        · intro k
          simp (maxSteps := 2000000) (disch := first | decide | omega | rfl) only [s3_5, ↓runS_op, ↓runS_nil, ↓optK_some, optK_some, ↓putT_some, ↓grd_true, grd_true, T.get_same, T.get_other, ↓evO_tmp, ↓grd_blt, grd_blt, ↓evO_const, ofValue, ↓ev_assign, ↓ev_bin, ↓binCV_eq, binCV_eq, binR, ↓hk1, hk1]
          exact rfl
        refine CG.cond_true (fun k => by simp (maxSteps := 2000000) (disch := first | decide | omega | rfl) only [evO_tmp, optK_some, T.get_same, T.get_other] <;> rfl) ?_
        refine CG.mono (mapB d hc (kd := kd) (wr := wr) hG h9 hs hok hf0 hf1 hc0 hc1 (by simp (maxSteps := 2000000) (disch := first | decide | omega | rfl) only [t0, T.get_same, T.get_other] <;> rfl) (by simp (maxSteps := 2000000) (disch := first | decide | omega | rfl) only [t7, T.get_same, T.get_other] <;> rfl) hX3 h73 ⟨cs, g7, k0, k1, k2, k3⟩) ?_
        rintro ex t' h' nx' hq
        have hq' := hq
        obtain ⟨rfl, _⟩ := hq'
        exact fin hq
      | false =>
        apply CG.reg
        · intro k
          simp (maxSteps := 2000000) (disch := first | decide | omega | rfl) only [s3_5, ↓runS_op, ↓runS_nil, ↓optK_some, optK_some, ↓putT_some, ↓grd_true, grd_true, T.get_same, T.get_other, ↓evO_tmp, ↓grd_blt, grd_blt, ↓evO_const, ofValue, ↓ev_assign, ↓ev_bin, ↓binCV_eq, binCV_eq, binR, ↓hk1, hk1]
          exact rfl
        refine CG.cond_false (fun k => by simp (maxSteps := 2000000) (disch := first | decide | omega | rfl) only [evO_tmp, optK_some, T.get_same, T.get_other] <;> rfl) ?_
        refine CG.seq ?_
        cases hk3 : decide (kd = 3) with
        | true =>
          apply CG.reg
          · intro k
            simp (maxSteps := 2000000) (disch := first | decide | omega | rfl) only [s3_11, ↓runS_op, ↓runS_nil, ↓optK_some, optK_some, ↓putT_some, ↓grd_true, grd_true, T.get_same, T.get_other, ↓evO_tmp, ↓grd_blt, grd_blt, ↓evO_const, ofValue, ↓ev_assign, ↓ev_bin, ↓binCV_eq, binCV_eq, binR, ↓hk3, hk3]
            exact rfl
          refine CG.cond_true (fun k => by simp (maxSteps := 2000000) (disch := first | decide | omega | rfl) only [evO_tmp, optK_some, T.get_same, T.get_other] <;> rfl) ?_
          refine CG.mono (protB d hc (kd := kd) (wr := wr) hG h9 hs hok hf0 hf1 hc0 hc1 hp0 hp1 (by simp (maxSteps := 2000000) (disch := first | decide | omega | rfl) only [t0, T.get_same, T.get_other] <;> rfl) (by simp (maxSteps := 2000000) (disch := first | decide | omega | rfl) only [t2, T.get_same, T.get_other] <;> rfl) (by simp (maxSteps := 2000000) (disch := first | decide | omega | rfl) only [t7, T.get_same, T.get_other] <;> rfl) hX3 h73 ⟨cs, g7, k0, k1, k2, k3⟩) ?_
          rintro ex t' h' nx' hq
          have hq' := hq
          obtain ⟨rfl, _⟩ := hq'
          exact fin hq
        | false =>
          apply CG.reg
          · intro k
            simp (maxSteps := 2000000) (disch := first | decide | omega | rfl) only [s3_11, ↓runS_op, ↓runS_nil, ↓optK_some, optK_some, ↓putT_some, ↓grd_true, grd_true, T.get_same, T.get_other, ↓evO_tmp, ↓grd_blt, grd_blt, ↓evO_const, ofValue, ↓ev_assign, ↓ev_bin, ↓binCV_eq, binCV_eq, binR, ↓hk3, hk3]
            exact rfl
          refine CG.cond_false (fun k => by simp (maxSteps := 2000000) (disch := first | decide | omega | rfl) only [evO_tmp, optK_some, T.get_same, T.get_other] <;> rfl) ?_
          refine CG.skip ?_
          refine CG.seq ?_
          apply CG.reg
          · intro k
            simp (maxSteps := 2000000) (disch := first | decide | omega | rfl) only [s3_27, ↓runS_op, ↓runS_nil, ↓optK_some, optK_some, ↓putT_some, ↓grd_true, grd_true, T.get_same, T.get_other, ↓evO_tmp, ↓grd_blt, grd_blt, ↓ev_assign, ↓ev_call, ↓evOs_cons, ↓evOs_nil, ↓notMap_fn, notMap_fn, ↓evO_func, List.getElem?_cons_zero, List.getElem?_cons_succ, ↓el, el]
            exact rfl
          exact CG.ret (fin ⟨rfl, by simp (maxSteps := 2000000) (disch := first | decide | omega | rfl) only [T.get_same, T.get_other] <;> rfl, hX3⟩)
  · have c0 : decide (er = 0) = false := decide_eq_false her
    have el := elives hX2
    apply CG.reg
    · intro k
      simp (maxSteps := 2000000) (disch := first | decide | omega | rfl) only [s3_2, ↓runS_op, ↓runS_nil, ↓optK_some, optK_some, ↓putT_some, ↓grd_true, grd_true, T.get_same, T.get_other, ↓evO_tmp, ↓grd_blt, grd_blt, ↓runS_if, ↓wantS_tt, wantS_tt, ↓wantS_tf, wantS_tf, ↓wantS_ft, wantS_ft, ↓wantS_ff, wantS_ff, ↓evO_const, ofValue, ↓ev_move, ↓ev_bin, ↓binCV_eq, binCV_eq, binR, ↓ev_pick, ↓pickK_true, pickK_true, ↓pickK_false, pickK_false, ↓ev_call, ↓evOs_cons, ↓evOs_nil, ↓notMap_fn, notMap_fn, ↓evO_func, List.getElem?_cons_zero, List.getElem?_cons_succ, ↓t8, t8, ↓c0, c0]
      exact rfl
    refine CG.cond_true (fun k => by simp (maxSteps := 2000000) (disch := first | decide | omega | rfl) only [evO_tmp, optK_some, T.get_same, T.get_other] <;> rfl) ?_
    refine CG.seq ?_
    apply CG.reg
    · intro k
      simp (maxSteps := 2000000) (disch := first | decide | omega | rfl) only [s3_3, ↓runS_op, ↓runS_nil, ↓optK_some, optK_some, ↓putT_some, ↓grd_true, grd_true, T.get_same, T.get_other, ↓evO_tmp, ↓grd_blt, grd_blt, ↓ev_assign, ↓ev_call, ↓evOs_cons, ↓evOs_nil, ↓notMap_fn, notMap_fn, ↓evO_func, List.getElem?_cons_zero, List.getElem?_cons_succ, ↓el, el]
      exact rfl
    exact CG.ret (fin ⟨rfl, by simp (maxSteps := 2000000) (disch := first | decide | omega | rfl) only [T.get_same, T.get_other] <;> rfl, hX2⟩)
end Go.Proofs.YthdoelcgdgcncaaGreatDoor
