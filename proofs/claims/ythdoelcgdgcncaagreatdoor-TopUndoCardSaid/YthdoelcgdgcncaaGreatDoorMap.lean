/- Walks: Map. -/
import Derived.Test.YthdoelcgdgcncaaGreatDoorLaw
import Derived.Test.YthdoelcgdgcncaaGreatDoorCan5
set_option maxRecDepth 100000
set_option maxHeartbeats 4000000
set_option linter.unusedVariables false
set_option linter.unusedSimpArgs false
namespace Go.Proofs.YthdoelcgdgcncaaGreatDoor
open Go Go.Can
variable {β : Type}

theorem flat_take : ∀ (l : List Rg) (i : Nat), (flat l).take (i * 3) = flat (l.take i)
  | [], i => by simp [flat]
  | r :: l, 0 => by simp [flat]
  | r :: l, i + 1 => by
    rw [List.take_succ_cons, flat, flat, show (i + 1) * 3 = i * 3 + 1 + 1 + 1 by omega, List.take_succ_cons, List.take_succ_cons, List.take_succ_cons, flat_take l i]
theorem flat_drop : ∀ (l : List Rg) (i : Nat), (flat l).drop (i * 3) = flat (l.drop i)
  | [], i => by simp [flat]
  | r :: l, 0 => by simp
  | r :: l, i + 1 => by
    rw [List.drop_succ_cons, flat, show (i + 1) * 3 = i * 3 + 1 + 1 + 1 by omega, List.drop_succ_cons, List.drop_succ_cons, List.drop_succ_cons, flat_drop l i]

theorem rowOf_flat {h : T Blk} {b N : Nat} {cs : T CV} {l : List Rg} (hb : h.get b = some (.cells N cs true)) (hr : RegC cs l) : rowOf h b (l.length * 3) = some (flat l) := by
  unfold rowOf
  rw [hb]
  simp only [read_flat l cs 0 _ fun i r hi => by rw [Nat.zero_add]; exact hr i r hi]

theorem insert_ok (d : Nat) {h0 : T Blk} {h : T Blk} {nx0 nx1 nx b2 i : Nat} {s : CV} {l : List Rg} {r : Rg} (hs : OutQ h nx0 nx1 s l ∨ (l = [] ∧ ∃ b, s = .slice b 0 0 (.known 0) ∧ h.get b = some (newB []))) (h01 : nx1 ≤ b2) (h00 : nx0 ≤ b2) (hb2 : h.get b2 = some (newB [.int .u64 r.a, .int .i64 r.c, .bool r.w])) (hbn : b2 < nx)
    (hi : i ≤ l.length) (hl : l.length ≤ 1000) (hext : ∀ c, c < nx0 → h.get c = h0.get c) :
    ∃ v H, OutQ H nx0 (nx + 1) v (l.take i ++ r :: l.drop i) ∧ Ext h0 nx0 H (nx + 1) ∧ ∀ k : K β, callN tab (d + 1) (.fn 20 [] []) [s, .int .i64 (i : Int), .slice b2 0 1 (.known 1)] h nx k = k v H (nx + 1) := by
  have hr2 : rowOf h b2 3 = some (flat [r]) := by
    have := rowOf_flat (l := [r]) hb2 (by
      have := regC_flat [r]
      simp only [flat] at this
      exact this)
    exact this
  have hlen : (l.take i ++ r :: l.drop i).length = l.length + 1 := by simp only [List.length_append, List.length_take, List.length_cons, List.length_drop]; omega
  have hone : (flat [r]).all CV.one = true := flat_one _
  have fl : flat (l.take i ++ r :: l.drop i) = (flat l).take (i * 3) ++ flat [r] ++ (flat l).drop (i * 3) := by
    rw [flat_take, flat_drop, show l.take i ++ r :: l.drop i = l.take i ++ [r] ++ l.drop i by simp, flat_app, flat_app]
  have out : ∀ (hx : T Blk), OutQ (hx.set nx (newB (flat (l.take i ++ r :: l.drop i)))) nx0 (nx + 1) (.slice nx 0 (l.length + 1) (.opn 3)) (l.take i ++ r :: l.drop i) := fun hx =>
    .inr ⟨nx, cellsT (flat (l.take i ++ r :: l.drop i)) 0 .nil, by rw [hlen], by omega, by omega, by rw [T.get_same, newB, flat_len], regC_flat _⟩
  rcases hs with (⟨rfl, rfl⟩ | ⟨b, cs, rfl, hb0, hb1, hb, hreg⟩) | ⟨rfl, b, rfl, hb⟩
  · have h0 : i = 0 := by simpa using hi
    subst h0
    refine ⟨_, _, out h, ⟨by omega, fun c hc => by rw [T.get_other _ _ (by omega)]; exact hext c hc⟩, fun k => call_spec (g := insG 3) (by kernel_rfl) ?_⟩
    unfold insG
    simp only [hr2, hone, and_self, if_true]
    rfl
  · refine ⟨_, _, out (h.del b), ⟨by omega, fun c hc => by rw [T.get_other _ _ (by omega), T.get_del, if_neg (by omega)]; exact hext c hc⟩, fun k => call_spec (g := insG 3) (by kernel_rfl) ?_⟩
    unfold insG
    have hrow := rowOf_flat hb hreg
    simp only [hr2, hone, and_self, if_true, hrow]
    rw [if_pos ⟨trivial, trivial, by omega, hi, hl, flat_one _⟩, fl]
  · have h0 : i = 0 := by simpa using hi
    subst h0
    refine ⟨_, _, out h, ⟨by omega, fun c hc => by rw [T.get_other _ _ (by omega)]; exact hext c hc⟩, fun k => call_spec (g := insG 3) (by kernel_rfl) ?_⟩
    unfold insG
    simp only [newB] at hb
    simp only [hr2, hone, hb, and_self, if_true]
    rfl

theorem CG.fresh {tab : Tab} {call : CallT β} {fi : FI} {s : SC} {t : T CV} {h : T Blk} {nx : Nat} {Q : Ex → T CV → T Blk → Nat → Prop} (P : T CV → Prop) (hP : P t) (H : ∀ tt, P tt → CG tab call fi s tt h nx Q) : CG tab call fi s t h nx Q := H t hP

theorem map_ok (d : Nat) {v : CV} {l : List Rg} {r : Rg} {h : T Blk} {nx : Nat} (hs : SlR h nx v l) (hok : ∀ r ∈ l, r.ok) (hr : r.ok) :
    FG (β := β) tab (d + 5) 7 [v, .agg [.int .u64 r.a, .int .i64 r.c, .bool r.w]] h nx fun v' h' nx' => ∃ u, v' = .tup [u, .int .i64 (mapE l r).1] ∧ OutQ h' nx nx' u (mapE l r).2 ∧ Ext h nx h' nx' := by
  refine FG.of (fn := Tryz.f7) (c := c7) (n := 60) (rs := [.tmp 4, .tmp 5]) (by kernel_rfl) (by kernel_rfl) (by kernel_rfl) c7_ok rfl rfl (by simp) fun call hc => ?_
  have hlen := fun tys h' nx' k => hs.len (β := β) tys h' nx' k
  obtain ⟨b, o, hel⟩ := hs.elem (β := β)
  obtain ⟨hx0, hx1, hc0, hc1⟩ := hr
  have hA : Ext h nx (h.set nx (newB [.int .u64 r.a, .int .i64 r.c, .bool r.w])) (nx + 1) := (Ext.refl h nx).new
  have hB : (h.set nx (newB [.int .u64 r.a, .int .i64 r.c, .bool r.w])).get nx = some (newB [.int .u64 r.a, .int .i64 r.c, .bool r.w]) := T.get_same _ _ _
  generalize hh1 : h.set nx (newB [.int .u64 r.a, .int .i64 r.c, .bool r.w]) = h1 at hA hB
  obtain ⟨_, H, NX, ⟨rfl, hx⟩, e⟩ := check_ok (β := β) (d + 2) (hs.ext hA) hok
  rw [show d + 2 + 2 = d + 4 from rfl, ← hc] at e
  have hX := hA.trans hx
  have hle := hx.le
  have gB : H.get nx = some (newB [.int .u64 r.a, .int .i64 r.c, .bool r.w]) := by rw [hx.get _ (by omega)]; exact hB
  have gB' := gB
  simp only [newB, cellsT_cons, cellsT_nil, Nat.zero_add, Nat.reduceAdd, List.length_cons, List.length_nil] at gB
  simp only [newB, cellsT_cons, cellsT_nil, Nat.zero_add, Nat.reduceAdd, List.length_cons, List.length_nil] at hh1
  simp only [cellsT_cons, cellsT_nil, Nat.zero_add, Nat.reduceAdd]
  unfold c7
  refine CG.seq ?_
  apply CG.reg
  · intro k
    simp (maxSteps := 2000000) (disch := first | decide | omega | rfl) only [s7_0, ↓runS_op, ↓runS_nil, ↓optK_some, optK_some, ↓putT_some, ↓grd_true, grd_true, T.get_same, T.get_other, ↓evO_tmp, ↓grd_blt, grd_blt, ↓evO_const, ofValue, Nat.add_zero, Nat.zero_add, Nat.reduceAdd, ↓ev_assign, ↓ev_box1, ↓boxK_int, ↓boxK_bool, ↓boxK_rg, ↓boxK_a3, ↓boxK_a4, ↓boxK_slice, ↓boxK_nilslice, ↓boxK_fn, List.length_cons, List.length_nil, newB, cellsT_cons, cellsT_nil, ↓natOf_nat, natOf_nat, ↓natOf_0, natOf_0, ↓natOf_1, natOf_1, ↓natOf_2, natOf_2, ↓hh1, hh1]
    exact rfl
  refine CG.seq ?_
  refine CG.seq ?_
  apply CG.reg
  · intro k
    simp (maxSteps := 2000000) (disch := first | decide | omega | rfl) only [s7_1, ↓runS_op, ↓runS_nil, ↓optK_some, optK_some, ↓putT_some, ↓grd_true, grd_true, T.get_same, T.get_other, ↓evO_tmp, ↓grd_blt, grd_blt, ↓ev_move, ↓ev_assign, ↓ev_call, ↓evOs_cons, ↓evOs_nil, ↓notMap_fn, notMap_fn, ↓evO_func, List.getElem?_cons_zero, List.getElem?_cons_succ, ↓e, e]
    exact rfl
  refine CG.seq ?_
  cases hv : valid l with
  | false =>
    have c1 : decide (errB false = 0) = false := rfl
    apply CG.reg
    · intro k
      simp (maxSteps := 2000000) (disch := first | decide | omega | rfl) only [s7_2, ↓runS_op, ↓runS_nil, ↓optK_some, optK_some, ↓putT_some, ↓grd_true, grd_true, T.get_same, T.get_other, ↓evO_tmp, ↓grd_blt, grd_blt, ↓evO_const, ofValue, ↓ev_move, ↓ev_bin, ↓binCV_eq, binCV_eq, binR, ↓c1, c1]
      exact rfl
    refine CG.cond_true (fun k => by simp (maxSteps := 2000000) (disch := first | decide | omega | rfl) only [evO_tmp, optK_some, T.get_same, T.get_other] <;> rfl) ?_
    refine CG.seq ?_
    apply CG.reg
    · intro k
      simp (maxSteps := 2000000) (disch := first | decide | omega | rfl) only [s7_3, ↓runS_op, ↓runS_nil, ↓optK_some, optK_some, ↓putT_some, ↓grd_true, grd_true, T.get_same, T.get_other, ↓evO_tmp, ↓grd_blt, grd_blt, ↓evO_const, ofValue, Nat.add_zero, Nat.zero_add, Nat.reduceAdd, ↓ev_move, ↓ev_assign, ↓natOf_nat, natOf_nat, ↓natOf_0, natOf_0, ↓natOf_1, natOf_1, ↓natOf_2, natOf_2]
      exact rfl
    refine CG.ret ?_
    have hm : mapE l r = (2, []) := by unfold mapE; rw [hv]; rfl
    exact ⟨_, _, _, ⟨_, by rw [hm], .inl ⟨rfl, by rw [hm]⟩, hX⟩, fun k => by simp (disch := decide) only [finK_ret, resultsK_tmp, resultsK_nil, rc29, rc38, rc47, resP_ptr, ldKn_ptr, ldBn_cells, read3, read5, read8, newB, cellsT_cons, cellsT_nil, Nat.zero_add, Nat.reduceAdd, retK_one, retK_two, retK_nil, optK_some, T.get_same, T.get_other] <;> rfl⟩
  | true =>
    have c1 : decide (errB true = 0) = true := rfl
    apply CG.reg
    · intro k
      simp (maxSteps := 2000000) (disch := first | decide | omega | rfl) only [s7_2, ↓runS_op, ↓runS_nil, ↓optK_some, optK_some, ↓putT_some, ↓grd_true, grd_true, T.get_same, T.get_other, ↓evO_tmp, ↓grd_blt, grd_blt, ↓evO_const, ofValue, ↓ev_move, ↓ev_bin, ↓binCV_eq, binCV_eq, binR, ↓c1, c1]
      exact rfl
    refine CG.cond_false (fun k => by simp (maxSteps := 2000000) (disch := first | decide | omega | rfl) only [evO_tmp, optK_some, T.get_same, T.get_other] <;> rfl) ?_
    refine CG.skip ?_
    have ee := fun k => end_eq (β := β) (d + 3) (x := r.a) (c := r.c) hx0 hx1 hc0 hc1 H NX k
    rw [show d + 3 + 1 = d + 4 from rfl, ← hc] at ee
    refine CG.seq ?_
    cases ho : okE r.a r.c with
    | false =>
      rw [ho] at ee
      rw [s7_4_eq]
      apply CG.regs
      · intro k
        simp (maxSteps := 2000000) (disch := first | decide | omega | rfl) only [s7_4_0, ↓runS_op, ↓runS_nil, ↓optK_some, optK_some, ↓putT_some, ↓grd_true, grd_true, T.get_same, T.get_other, ↓evO_tmp, ↓grd_blt, grd_blt, Nat.add_zero, Nat.zero_add, Nat.reduceAdd, ↓ev_move, ↓ev_call, ↓evOs_cons, ↓evOs_nil, ↓notMap_fn, notMap_fn, ↓evO_func, List.getElem?_cons_zero, List.getElem?_cons_succ, ↓ldK1_ptr, ↓ldB1_cells, ↓ldKn_ptr, ↓ldBn_cells, ↓read3, read3, ↓read5, read5, List.length_cons, List.length_nil, newB, cellsT_cons, cellsT_nil, ↓ptrK_ptr, ↓fa38_0, ↓fa38_1, ↓ld23, ↓ld3, ↓gB, gB, ↓ee, ee]
        exact rfl
      apply CG.reg
      · intro k
        simp (maxSteps := 2000000) (disch := first | decide | omega | rfl) only [s7_4_1, ↓runS_op, ↓runS_nil, ↓optK_some, optK_some, ↓putT_some, ↓grd_true, grd_true, T.get_same, T.get_other, ↓evO_tmp, ↓grd_blt, grd_blt, ↓ev_assign, ↓ev_extract, List.getElem?_cons_zero, List.getElem?_cons_succ, ↓gB, gB, ↓ee, ee]
        exact rfl
      refine CG.seq ?_
      refine CG.seq ?_
      apply CG.reg
      · intro k
        simp (maxSteps := 2000000) (disch := first | decide | omega | rfl) only [s7_5, ↓runS_op, ↓runS_nil, ↓optK_some, optK_some, ↓putT_some, ↓grd_true, grd_true, T.get_same, T.get_other, ↓evO_tmp, ↓grd_blt, grd_blt, ↓ev_move, ↓ev_not, Bool.not_true, Bool.not_false]
        exact rfl
      refine CG.cond_true (fun k => by simp (maxSteps := 2000000) (disch := first | decide | omega | rfl) only [evO_tmp, optK_some, T.get_same, T.get_other] <;> rfl) ?_
      refine CG.seq ?_
      apply CG.reg
      · intro k
        simp (maxSteps := 2000000) (disch := first | decide | omega | rfl) only [s7_6, ↓runS_op, ↓runS_nil, ↓optK_some, optK_some, ↓putT_some, ↓grd_true, grd_true, T.get_same, T.get_other, ↓evO_tmp, ↓grd_blt, grd_blt, ↓evO_const, ofValue, Nat.add_zero, Nat.zero_add, Nat.reduceAdd, ↓ev_assign, ↓natOf_nat, natOf_nat, ↓natOf_0, natOf_0, ↓natOf_1, natOf_1, ↓natOf_2, natOf_2]
        exact rfl
      refine CG.ret ?_
      have hm : mapE l r = (190, []) := by unfold mapE; rw [hv, ho]; rfl
      exact ⟨_, _, _, ⟨_, by rw [hm], .inl ⟨rfl, by rw [hm]⟩, hX⟩, fun k => by simp (disch := decide) only [finK_ret, resultsK_tmp, resultsK_nil, rc29, rc38, rc47, resP_ptr, ldKn_ptr, ldBn_cells, read3, read5, read8, newB, cellsT_cons, cellsT_nil, Nat.zero_add, Nat.reduceAdd, retK_one, retK_two, retK_nil, optK_some, T.get_same, T.get_other] <;> rfl⟩
    | true =>
      rw [ho] at ee
      simp only [if_true] at ee
      have hoo := okE_iff.1 ho
      rw [s7_4_eq]
      apply CG.regs
      · intro k
        simp (maxSteps := 2000000) (disch := first | decide | omega | rfl) only [s7_4_0, ↓runS_op, ↓runS_nil, ↓optK_some, optK_some, ↓putT_some, ↓grd_true, grd_true, T.get_same, T.get_other, ↓evO_tmp, ↓grd_blt, grd_blt, Nat.add_zero, Nat.zero_add, Nat.reduceAdd, ↓ev_move, ↓ev_call, ↓evOs_cons, ↓evOs_nil, ↓notMap_fn, notMap_fn, ↓evO_func, List.getElem?_cons_zero, List.getElem?_cons_succ, ↓ldK1_ptr, ↓ldB1_cells, ↓ldKn_ptr, ↓ldBn_cells, ↓read3, read3, ↓read5, read5, List.length_cons, List.length_nil, newB, cellsT_cons, cellsT_nil, ↓ptrK_ptr, ↓fa38_0, ↓fa38_1, ↓ld23, ↓ld3, ↓gB, gB, ↓ee, ee]
        exact rfl
      apply CG.reg
      · intro k
        simp (maxSteps := 2000000) (disch := first | decide | omega | rfl) only [s7_4_1, ↓runS_op, ↓runS_nil, ↓optK_some, optK_some, ↓putT_some, ↓grd_true, grd_true, T.get_same, T.get_other, ↓evO_tmp, ↓grd_blt, grd_blt, ↓ev_assign, ↓ev_extract, List.getElem?_cons_zero, List.getElem?_cons_succ, ↓gB, gB, ↓ee, ee]
        exact rfl
      refine CG.seq ?_
      refine CG.seq ?_
      apply CG.reg
      · intro k
        simp (maxSteps := 2000000) (disch := first | decide | omega | rfl) only [s7_5, ↓runS_op, ↓runS_nil, ↓optK_some, optK_some, ↓putT_some, ↓grd_true, grd_true, T.get_same, T.get_other, ↓evO_tmp, ↓grd_blt, grd_blt, ↓ev_move, ↓ev_not, Bool.not_true, Bool.not_false]
        exact rfl
      refine CG.cond_false (fun k => by simp (maxSteps := 2000000) (disch := first | decide | omega | rfl) only [evO_tmp, optK_some, T.get_same, T.get_other] <;> rfl) ?_
      refine CG.skip ?_
      refine CG.seq ?_
      obtain ⟨_, H2, NX2, ⟨rfl, hx2⟩, e2⟩ := place_ok (β := β) d (page := r.a) (hs.ext hX) (valid_len hv) (valid_chain hv)
      rw [← hc] at e2
      have hX2 := hX.trans hx2
      have hle2 := hx2.le
      have gB2 : H2.get nx = some (newB [.int .u64 r.a, .int .i64 r.c, .bool r.w]) := by rw [hx2.get _ (by omega)]; exact gB'
      have gB2' := gB2
      simp only [newB, cellsT_cons, cellsT_nil, Nat.zero_add, Nat.reduceAdd, List.length_cons, List.length_nil] at gB2
      apply CG.reg
      · intro k
        simp (maxSteps := 2000000) (disch := first | decide | omega | rfl) only [s7_7, ↓runS_op, ↓runS_nil, ↓optK_some, optK_some, ↓putT_some, ↓grd_true, grd_true, T.get_same, T.get_other, ↓evO_tmp, ↓grd_blt, grd_blt, Nat.add_zero, Nat.zero_add, Nat.reduceAdd, ↓ev_move, ↓ev_assign, ↓ev_call, ↓evOs_cons, ↓evOs_nil, ↓notMap_fn, notMap_fn, ↓evO_func, List.getElem?_cons_zero, List.getElem?_cons_succ, ↓ldK1_ptr, ↓ldB1_cells, ↓ldKn_ptr, ↓ldBn_cells, ↓read3, read3, ↓read5, read5, List.length_cons, List.length_nil, newB, cellsT_cons, cellsT_nil, ↓ptrK_ptr, ↓fa38_0, ↓ld23, ↓gB, gB, ↓e2, e2]
        exact rfl
      refine CG.seq ?_
      refine CG.seq ?_
      have hpl := placeN_le l r.a
      have hhits : hits l r = (match l[placeN l r.a]? with | some s => decide (s.a < r.a + r.c) | none => false) := rfl
      have hmap : mapE l r = if hits l r then (190, []) else if sumC l + r.c > 16 ∨ (l.length : Int) + 1 > 8 then (20, []) else (0, l.take (placeN l r.a) ++ r :: l.drop (placeN l r.a)) := by unfold mapE; rw [hv, ho]; rfl
      generalize placeN l r.a = pn at *
      have hsum := sumC_bound l fun x hx => by have := okE_iff.1 (chain_all 0 l (valid_chain hv) x hx); omega
      have hsm := valid_sum hv
      have hl8 := valid_len hv
      have rest : hits l r = false → ∀ (tt : T CV), tt.get 0 = some v → tt.get 9 = some (.int .i64 (pn : Int)) → tt.get 3 = some (.ptr nx 0) →
          CG tab call ⟨60, none⟩ (.seq (.seq (.draw d7_10) (.cond (.tmp 53) (.seq (.reg s7_11) .ret) .skip)) (.seq (.draw d7_12) .ret)) tt H2 NX2 fun ex t h_1 nx_2 =>
              ∃ v h' nx', (∃ u, v = .tup [u, .int .i64 (mapE l r).1] ∧ OutQ h' nx nx' u (mapE l r).2 ∧ Ext h nx h' nx') ∧ ∀ k : K β, finK tab [.tmp 4, .tmp 5] k ex t [] h_1 nx_2 = k v h' nx' := by
        intro hh tt t0 t9 t3
        obtain ⟨_, H3, NX3, ⟨rfl, hx3⟩, e3⟩ := pages_ok (β := β) (d + 3) (hs.ext hX2) (by omega) (fun x hx => by have := okE_iff.1 (chain_all 0 l (valid_chain hv) x hx); omega)
        rw [show d + 3 + 1 = d + 4 from rfl, ← hc] at e3
        have hX3 := hX2.trans hx3
        have hle3 := hx3.le
        have gB3 : H3.get nx = some (newB [.int .u64 r.a, .int .i64 r.c, .bool r.w]) := by rw [hx3.get _ (by omega)]; exact gB2'
        have gB3' := gB3
        simp only [newB, cellsT_cons, cellsT_nil, Nat.zero_add, Nat.reduceAdd, List.length_cons, List.length_nil] at gB3
        have w1 : IntKind.i64.wrap (sumC l + r.c) = sumC l + r.c := wrap_i64 (by omega) (by omega)
        have w2 : IntKind.i64.wrap ((l.length : Int) + 1) = (l.length : Int) + 1 := wrap_i64 (by omega) (by omega)
        refine CG.seq ?_
        refine CG.seq ?_
        by_cases hfull : sumC l + r.c > 16 ∨ (l.length : Int) + 1 > 8
        · have hm : mapE l r = (20, []) := by rw [hmap, hh, if_pos hfull]; rfl
          have fin : ∀ (t' : T CV), t'.get 53 = some (.bool true) → CG tab call ⟨60, none⟩ (.cond (.tmp 53) (.seq (.reg s7_11) .ret) .skip) t' H3 NX3 fun ex t h_1 nx_1 => match ex with
              | .normal => CG tab call ⟨60, none⟩ (.seq (.draw d7_12) .ret) t h_1 nx_1 fun ex t h_1 nx_2 =>
                ∃ v h' nx', (∃ u, v = .tup [u, .int .i64 (mapE l r).1] ∧ OutQ h' nx nx' u (mapE l r).2 ∧ Ext h nx h' nx') ∧ ∀ k : K β, finK tab [.tmp 4, .tmp 5] k ex t [] h_1 nx_2 = k v h' nx'
              | ex => ∃ v h' nx', (∃ u, v = .tup [u, .int .i64 (mapE l r).1] ∧ OutQ h' nx nx' u (mapE l r).2 ∧ Ext h nx h' nx') ∧ ∀ k : K β, finK tab [.tmp 4, .tmp 5] k ex t [] h_1 nx_1 = k v h' nx' := by
            intro t' t53
            refine CG.cond_true (fun k => by simp (maxSteps := 2000000) (disch := first | decide | omega | rfl) only [t53, evO_tmp, optK_some, T.get_same, T.get_other] <;> rfl) ?_
            refine CG.seq ?_
            apply CG.reg
            · intro k
              simp (maxSteps := 2000000) (disch := first | decide | omega | rfl) only [s7_11, ↓runS_op, ↓runS_nil, ↓optK_some, optK_some, ↓putT_some, ↓grd_true, grd_true, T.get_same, T.get_other, ↓evO_tmp, ↓grd_blt, grd_blt, ↓evO_const, ofValue, Nat.add_zero, Nat.zero_add, Nat.reduceAdd, ↓ev_assign, ↓natOf_nat, natOf_nat, ↓natOf_0, natOf_0, ↓natOf_1, natOf_1, ↓natOf_2, natOf_2]
              exact rfl
            refine CG.ret ?_
            exact ⟨_, _, _, ⟨_, by rw [hm], .inl ⟨rfl, by rw [hm]⟩, hX3⟩, fun k => by simp (disch := decide) only [finK_ret, resultsK_tmp, resultsK_nil, rc29, rc38, rc47, resP_ptr, ldKn_ptr, ldBn_cells, read3, read5, read8, newB, cellsT_cons, cellsT_nil, Nat.zero_add, Nat.reduceAdd, retK_one, retK_two, retK_nil, optK_some, T.get_same, T.get_other] <;> rfl⟩
          by_cases h16 : sumC l + r.c > 16
          · have c2 : decide ((16 : Int) < sumC l + r.c) = true := decide_eq_true (by omega)
            apply CG.draw dr7_10.1 dr7_10.2.1 dr7_10.2.2.1 dr7_10.2.2.2
            · intro k
              simp (maxSteps := 2000000) (disch := first | decide | omega | rfl) only [dl7_10, ol7_10, pp7_10, ↓runS_op, ↓runS_nil, ↓optK_some, optK_some, ↓putT_some, ↓grd_true, grd_true, T.get_same, T.get_other, ↓evO_tmp, ↓grd_blt, grd_blt, ↓runS_if, ↓wantS_tt, wantS_tt, ↓wantS_tf, wantS_tf, ↓wantS_ft, wantS_ft, ↓wantS_ff, wantS_ff, ↓evO_const, ofValue, Nat.add_zero, Nat.zero_add, Nat.reduceAdd, ↓ev_move, ↓ev_bin, ↓binCV_eq, binCV_eq, binR, ↓ev_pick, ↓pickK_true, pickK_true, ↓pickK_false, pickK_false, ↓ev_call, ↓evOs_cons, ↓evOs_nil, ↓notMap_fn, notMap_fn, ↓evO_func, List.getElem?_cons_zero, List.getElem?_cons_succ, ↓ev_builtin, ↓ln22, ln22, ↓lz22, lz22, ↓ln116, ln116, ↓lz116, lz116, ↓ldK1_ptr, ↓ldB1_cells, ↓ldKn_ptr, ↓ldBn_cells, ↓read3, read3, ↓read5, read5, List.length_cons, List.length_nil, newB, cellsT_cons, cellsT_nil, ↓ptrK_ptr, ↓fa38_1, ↓ld3, ↓drawD_op, ↓drawD_if, ↓drawD_nil, ↓lookK_nil, ↓lookK_cons, ↓chkD_cons, ↓chkD_nil, ↓nthK_zero, ↓nthK_succ, ↓bothK_true, ↓bothK_false, ↓again_eq, chkD_cons, chkD_nil, nthK_zero, nthK_succ, bothK_true, bothK_false, again_eq, same_int, same_bool, same_ptr, same_slice, same_slicO, same_nilslice, same_rg, same_a3, same_fn0, Bool.and_self, Bool.and_false, Bool.false_and, ↓t0, t0, ↓t3, t3, ↓e3, e3, ↓gB2, gB2, ↓gB3, gB3, ↓w1, w1, ↓c2, c2]
              exact rfl
            exact fin _ (T.get_same _ _ _)
          · have c2 : decide ((16 : Int) < sumC l + r.c) = false := decide_eq_false (by omega)
            have c3 : decide ((8 : Int) < (l.length : Int) + 1) = true := decide_eq_true (by omega)
            apply CG.draw dr7_10.1 dr7_10.2.1 dr7_10.2.2.1 dr7_10.2.2.2
            · intro k
              simp (maxSteps := 2000000) (disch := first | decide | omega | rfl) only [dl7_10, ol7_10, pp7_10, ↓runS_op, ↓runS_nil, ↓optK_some, optK_some, ↓putT_some, ↓grd_true, grd_true, T.get_same, T.get_other, ↓evO_tmp, ↓grd_blt, grd_blt, ↓runS_if, ↓wantS_tt, wantS_tt, ↓wantS_tf, wantS_tf, ↓wantS_ft, wantS_ft, ↓wantS_ff, wantS_ff, ↓evO_const, ofValue, Nat.add_zero, Nat.zero_add, Nat.reduceAdd, ↓ev_move, ↓ev_bin, ↓binCV_eq, binCV_eq, binR, ↓ev_pick, ↓pickK_true, pickK_true, ↓pickK_false, pickK_false, ↓ev_call, ↓evOs_cons, ↓evOs_nil, ↓notMap_fn, notMap_fn, ↓evO_func, List.getElem?_cons_zero, List.getElem?_cons_succ, ↓ev_builtin, ↓ln22, ln22, ↓lz22, lz22, ↓ln116, ln116, ↓lz116, lz116, ↓ldK1_ptr, ↓ldB1_cells, ↓ldKn_ptr, ↓ldBn_cells, ↓read3, read3, ↓read5, read5, List.length_cons, List.length_nil, newB, cellsT_cons, cellsT_nil, ↓ptrK_ptr, ↓fa38_1, ↓ld3, ↓drawD_op, ↓drawD_if, ↓drawD_nil, ↓lookK_nil, ↓lookK_cons, ↓chkD_cons, ↓chkD_nil, ↓nthK_zero, ↓nthK_succ, ↓bothK_true, ↓bothK_false, ↓again_eq, chkD_cons, chkD_nil, nthK_zero, nthK_succ, bothK_true, bothK_false, again_eq, same_int, same_bool, same_ptr, same_slice, same_slicO, same_nilslice, same_rg, same_a3, same_fn0, Bool.and_self, Bool.and_false, Bool.false_and, ↓t0, t0, ↓t3, t3, ↓e3, e3, ↓gB2, gB2, ↓gB3, gB3, ↓w1, w1, ↓c2, c2, ↓hlen, hlen, ↓w2, w2, ↓c3, c3]
              exact rfl
            exact fin _ (T.get_same _ _ _)
        · have hm : mapE l r = (0, l.take pn ++ r :: l.drop pn) := by rw [hmap, hh, if_neg hfull]; rfl
          have c2 : decide ((16 : Int) < sumC l + r.c) = false := decide_eq_false (by omega)
          have c3 : decide ((8 : Int) < (l.length : Int) + 1) = false := decide_eq_false (by omega)
          apply CG.draw dr7_10.1 dr7_10.2.1 dr7_10.2.2.1 dr7_10.2.2.2
          · intro k
            simp (maxSteps := 2000000) (disch := first | decide | omega | rfl) only [dl7_10, ol7_10, pp7_10, ↓runS_op, ↓runS_nil, ↓optK_some, optK_some, ↓putT_some, ↓grd_true, grd_true, T.get_same, T.get_other, ↓evO_tmp, ↓grd_blt, grd_blt, ↓runS_if, ↓wantS_tt, wantS_tt, ↓wantS_tf, wantS_tf, ↓wantS_ft, wantS_ft, ↓wantS_ff, wantS_ff, ↓evO_const, ofValue, Nat.add_zero, Nat.zero_add, Nat.reduceAdd, ↓ev_move, ↓ev_bin, ↓binCV_eq, binCV_eq, binR, ↓ev_pick, ↓pickK_true, pickK_true, ↓pickK_false, pickK_false, ↓ev_call, ↓evOs_cons, ↓evOs_nil, ↓notMap_fn, notMap_fn, ↓evO_func, List.getElem?_cons_zero, List.getElem?_cons_succ, ↓ev_builtin, ↓ln22, ln22, ↓lz22, lz22, ↓ln116, ln116, ↓lz116, lz116, ↓ldK1_ptr, ↓ldB1_cells, ↓ldKn_ptr, ↓ldBn_cells, ↓read3, read3, ↓read5, read5, List.length_cons, List.length_nil, newB, cellsT_cons, cellsT_nil, ↓ptrK_ptr, ↓fa38_1, ↓ld3, ↓drawD_op, ↓drawD_if, ↓drawD_nil, ↓lookK_nil, ↓lookK_cons, ↓chkD_cons, ↓chkD_nil, ↓nthK_zero, ↓nthK_succ, ↓bothK_true, ↓bothK_false, ↓again_eq, chkD_cons, chkD_nil, nthK_zero, nthK_succ, bothK_true, bothK_false, again_eq, same_int, same_bool, same_ptr, same_slice, same_slicO, same_nilslice, same_rg, same_a3, same_fn0, Bool.and_self, Bool.and_false, Bool.false_and, ↓t0, t0, ↓t3, t3, ↓e3, e3, ↓gB2, gB2, ↓gB3, gB3, ↓w1, w1, ↓c2, c2, ↓hlen, hlen, ↓w2, w2, ↓c3, c3]
            exact rfl
          refine CG.cond_false (fun k => by simp (maxSteps := 2000000) (disch := first | decide | omega | rfl) only [evO_tmp, optK_some, T.get_same, T.get_other] <;> rfl) ?_
          refine CG.skip ?_
          refine CG.seq ?_
          obtain ⟨u, H4, NX4, ⟨hq, hx4⟩, e4⟩ := clone_ok (β := β) (d + 3) (hs.ext hX3) (by omega)
          rw [show d + 3 + 1 = d + 4 from rfl, ← hc] at e4
          have hX4 := hX3.trans hx4
          have hle4 := hx4.le
          have gB4 : H4.get nx = some (newB [.int .u64 r.a, .int .i64 r.c, .bool r.w]) := by rw [hx4.get _ (by omega)]; exact gB3'
          simp only [newB, cellsT_cons, cellsT_nil, Nat.zero_add, Nat.reduceAdd, List.length_cons, List.length_nil] at gB4
          obtain ⟨u5, H5, hq5, hx5, e5⟩ := insert_ok (β := β) (d + 3) (h0 := h) (h := H4.set NX4 (newB [.int .u64 r.a, .int .i64 r.c, .bool r.w])) (nx0 := nx) (nx1 := NX4) (nx := NX4 + 1) (b2 := NX4) (i := pn) (s := u) (l := l) (r := r)
            (by
              rcases hq with (⟨rfl, rfl⟩ | ⟨b', cs', rfl, q2, q3, q4, q5⟩) | ⟨rfl, rfl, q1, q2⟩
              · exact .inl (.inl ⟨rfl, rfl⟩)
              · exact .inl (.inr ⟨b', cs', rfl, by omega, q3, by rw [T.get_other _ _ (by omega)]; exact q4, q5⟩)
              · exact .inr ⟨rfl, NX3, rfl, by rw [T.get_other _ _ (Nat.ne_of_lt q2)]; exact q1⟩)
            (Nat.le_refl _) (by omega) (T.get_same _ _ _) (by omega) hpl (by omega) (fun c hc => by rw [T.get_other _ _ (by omega)]; exact hX4.get c hc)
          rw [show d + 3 + 1 = d + 4 from rfl, ← hc] at e5
          simp only [newB, cellsT_cons, cellsT_nil, Nat.zero_add, Nat.reduceAdd, List.length_cons, List.length_nil] at e5
          apply CG.draw dr7_12.1 dr7_12.2.1 dr7_12.2.2.1 dr7_12.2.2.2
          · intro k
            simp (maxSteps := 2000000) (disch := first | decide | omega | rfl) only [dl7_12, ol7_12, pp7_12, ↓runS_op, ↓runS_nil, ↓optK_some, optK_some, ↓putT_some, ↓grd_true, grd_true, T.get_same, T.get_other, ↓evO_tmp, ↓grd_blt, grd_blt, ↓evO_const, ofValue, Nat.add_zero, Nat.zero_add, Nat.reduceAdd, ↓ev_move, ↓ev_assign, ↓ev_call, ↓evOs_cons, ↓evOs_nil, ↓notMap_fn, notMap_fn, ↓evO_func, List.getElem?_cons_zero, List.getElem?_cons_succ, ↓ldK1_ptr, ↓ldB1_cells, ↓ldKn_ptr, ↓ldBn_cells, ↓read3, read3, ↓read5, read5, List.length_cons, List.length_nil, newB, cellsT_cons, cellsT_nil, ↓fillS_nil, ↓fillS_cons, ↓fill1_0, fill1_0, ↓fill1_1, fill1_1, ↓fill1_2, fill1_2, ↓fill1_3, fill1_3, ↓fill1_4, fill1_4, ↓fill1_5, fill1_5, ↓fill1_6, fill1_6, ↓fill1_7, fill1_7, ↓fill3_0, fill3_0, ↓fill3_3, fill3_3, ↓fill3_6, fill3_6, ↓grd_beq, grd_beq, cells_int, cells_bool, cells_agg, cells_slice, cells_nilslice, cells_fn, cells_nilfn, cells_ptr, ↓newC0, newC0, ↓newC1, newC1, ↓newC2, newC2, ↓newR1, newR1, ↓newR2, newR2, ↓newR3, newR3, ↓newCells_eq1, newCells_eq1, ↓ld38, pl22_0, pl22_1, pl22_2, ↓bs22_1, ↓drawD_op, ↓drawD_if, ↓drawD_nil, ↓lookK_nil, ↓lookK_cons, ↓chkD_cons, ↓chkD_nil, ↓nthK_zero, ↓nthK_succ, ↓bothK_true, ↓bothK_false, ↓again_eq, chkD_cons, chkD_nil, nthK_zero, nthK_succ, bothK_true, bothK_false, again_eq, same_int, same_bool, same_ptr, same_slice, same_slicO, same_nilslice, same_rg, same_a3, same_fn0, Bool.and_self, Bool.and_false, Bool.false_and, ↓t0, t0, ↓t9, t9, ↓t3, t3, ↓e4, e4, ↓gB3, gB3, ↓gB4, gB4, ↓e5, e5]
            exact rfl
          refine CG.ret ?_
          exact ⟨_, _, _, ⟨u5, by rw [hm], by rw [hm]; exact hq5, hx5⟩, fun k => by simp (disch := decide) only [finK_ret, resultsK_tmp, resultsK_nil, rc29, rc38, rc47, resP_ptr, ldKn_ptr, ldBn_cells, read3, read5, read8, newB, cellsT_cons, cellsT_nil, Nat.zero_add, Nat.reduceAdd, retK_one, retK_two, retK_nil, optK_some, T.get_same, T.get_other] <;> rfl⟩
      refine CG.fresh (fun tt => tt.get 0 = some v ∧ tt.get 9 = some (.int .i64 (pn : Int)) ∧ tt.get 3 = some (.ptr nx 0) ∧ tt.get 7 = some (.int .u64 (r.a + r.c))) ⟨by simp (maxSteps := 2000000) (disch := first | decide | omega | rfl) only [T.get_same, T.get_other] <;> rfl, by simp (maxSteps := 2000000) (disch := first | decide | omega | rfl) only [T.get_same, T.get_other] <;> rfl, by simp (maxSteps := 2000000) (disch := first | decide | omega | rfl) only [T.get_same, T.get_other] <;> rfl, by simp (maxSteps := 2000000) (disch := first | decide | omega | rfl) only [T.get_same, T.get_other] <;> rfl⟩ ?_
      rintro tt ⟨t0, t9, t3, t7⟩
      by_cases hend : pn = l.length
      · have hh : hits l r = false := by rw [hhits, hend, List.getElem?_eq_none (Nat.le_refl _)]
        have c2 : decide ((pn : Int) < (l.length : Int)) = false := decide_eq_false (by omega)
        rw [s7_8_eq]
        apply CG.regs
        · intro k
          simp (maxSteps := 2000000) (disch := first | decide | omega | rfl) only [s7_8_0, ↓runS_op, ↓runS_nil, ↓optK_some, optK_some, ↓putT_some, ↓grd_true, grd_true, T.get_same, T.get_other, ↓evO_tmp, ↓grd_blt, grd_blt, ↓runS_if, ↓wantS_tt, wantS_tt, ↓wantS_tf, wantS_tf, ↓wantS_ft, wantS_ft, ↓wantS_ff, wantS_ff, ↓ev_move, ↓ev_bin, ↓binCV_eq, binCV_eq, binR, ↓ev_builtin, ↓evOs_cons, ↓evOs_nil, ↓ln22, ln22, ↓lz22, lz22, ↓ln116, ln116, ↓lz116, lz116, ↓t0, t0, ↓t9, t9, ↓hlen, hlen, ↓c2, c2]
          exact rfl
        apply CG.reg
        · intro k
          simp (maxSteps := 2000000) (disch := first | decide | omega | rfl) only [s7_8_1, ↓runS_op, ↓runS_nil, ↓optK_some, optK_some, ↓putT_some, ↓grd_true, grd_true, T.get_same, T.get_other, ↓evO_tmp, ↓grd_blt, grd_blt, ↓runS_if, ↓wantS_tt, wantS_tt, ↓wantS_tf, wantS_tf, ↓wantS_ft, wantS_ft, ↓wantS_ff, wantS_ff, ↓evO_const, ofValue, Nat.add_zero, Nat.zero_add, Nat.reduceAdd, ↓ev_move, ↓ev_bin, ↓binCV_eq, binCV_eq, binR, ↓ev_pick, ↓pickK_true, pickK_true, ↓pickK_false, pickK_false, ↓ldK1_ptr, ↓ldB1_cells, ↓ldKn_ptr, ↓ldBn_cells, ↓read3, read3, ↓read5, read5, List.length_cons, List.length_nil, newB, cellsT_cons, cellsT_nil, ↓natOf_nat, natOf_nat, ↓natOf_0, natOf_0, ↓natOf_1, natOf_1, ↓natOf_2, natOf_2, ↓ixK_sl, ixK_sl, ↓ixK_ar, ixK_ar, Nat.zero_mul, Nat.one_mul, Nat.mul_one, Nat.reduceMul, ↓ptrK_ptr, ↓fa38_0, ↓ld23, ↓ix22, ↓t0, t0, ↓t9, t9, ↓hlen, hlen, ↓c2, c2]
          exact rfl
        refine CG.cond_false (fun k => by simp (maxSteps := 2000000) (disch := first | decide | omega | rfl) only [evO_tmp, optK_some, T.get_same, T.get_other] <;> rfl) ?_
        refine CG.skip ?_
        exact rest hh _ (by simp (maxSteps := 2000000) (disch := first | decide | omega | rfl) only [t0, T.get_same, T.get_other] <;> rfl) (by simp (maxSteps := 2000000) (disch := first | decide | omega | rfl) only [t9, T.get_same, T.get_other] <;> rfl) (by simp (maxSteps := 2000000) (disch := first | decide | omega | rfl) only [t3, T.get_same, T.get_other] <;> rfl)
      · have c2 : decide ((pn : Int) < (l.length : Int)) = true := decide_eq_true (by omega)
        obtain ⟨s, hsr⟩ : ∃ r, l[pn]? = some r := ⟨l[pn]'(by omega), List.getElem?_eq_getElem (by omega)⟩
        obtain ⟨hb, hix, n, cs, rw, hbk, g0, g1, g2⟩ := hel _ s hsr
        have hb2 : H2.get b = some (.cells n cs rw) := by rw [hX2.get b hb]; exact hbk
        cases c3 : decide (s.a < r.a + r.c) with
        | true =>
          have hh : hits l r = true := by rw [hhits, hsr]; exact c3
          rw [s7_8_eq]
          apply CG.regs
          · intro k
            simp (maxSteps := 2000000) (disch := first | decide | omega | rfl) only [s7_8_0, ↓runS_op, ↓runS_nil, ↓optK_some, optK_some, ↓putT_some, ↓grd_true, grd_true, T.get_same, T.get_other, ↓evO_tmp, ↓grd_blt, grd_blt, ↓runS_if, ↓wantS_tt, wantS_tt, ↓wantS_tf, wantS_tf, ↓wantS_ft, wantS_ft, ↓wantS_ff, wantS_ff, ↓ev_move, ↓ev_bin, ↓binCV_eq, binCV_eq, binR, ↓ev_builtin, ↓evOs_cons, ↓evOs_nil, ↓ln22, ln22, ↓lz22, lz22, ↓ln116, ln116, ↓lz116, lz116, ↓t0, t0, ↓t9, t9, ↓t7, t7, ↓hlen, hlen, ↓c2, c2, ↓c3, c3, ↓hix, hix, ↓hb2, hb2, ↓g0, g0, ↓g1, g1, ↓g2, g2]
            exact rfl
          apply CG.reg
          · intro k
            simp (maxSteps := 2000000) (disch := first | decide | omega | rfl) only [s7_8_1, ↓runS_op, ↓runS_nil, ↓optK_some, optK_some, ↓putT_some, ↓grd_true, grd_true, T.get_same, T.get_other, ↓evO_tmp, ↓grd_blt, grd_blt, ↓runS_if, ↓wantS_tt, wantS_tt, ↓wantS_tf, wantS_tf, ↓wantS_ft, wantS_ft, ↓wantS_ff, wantS_ff, ↓evO_const, ofValue, Nat.add_zero, Nat.zero_add, Nat.reduceAdd, ↓ev_move, ↓ev_bin, ↓binCV_eq, binCV_eq, binR, ↓ev_pick, ↓pickK_true, pickK_true, ↓pickK_false, pickK_false, ↓ldK1_ptr, ↓ldB1_cells, ↓ldKn_ptr, ↓ldBn_cells, ↓read3, read3, ↓read5, read5, List.length_cons, List.length_nil, newB, cellsT_cons, cellsT_nil, ↓natOf_nat, natOf_nat, ↓natOf_0, natOf_0, ↓natOf_1, natOf_1, ↓natOf_2, natOf_2, ↓ixK_sl, ixK_sl, ↓ixK_ar, ixK_ar, Nat.zero_mul, Nat.one_mul, Nat.mul_one, Nat.reduceMul, ↓ptrK_ptr, ↓fa38_0, ↓ld23, ↓ix22, ↓t0, t0, ↓t9, t9, ↓t7, t7, ↓hlen, hlen, ↓c2, c2, ↓c3, c3, ↓hix, hix, ↓hb2, hb2, ↓g0, g0, ↓g1, g1, ↓g2, g2]
            exact rfl
          refine CG.cond_true (fun k => by simp (maxSteps := 2000000) (disch := first | decide | omega | rfl) only [evO_tmp, optK_some, T.get_same, T.get_other] <;> rfl) ?_
          refine CG.seq ?_
          apply CG.reg
          · intro k
            simp (maxSteps := 2000000) (disch := first | decide | omega | rfl) only [s7_9, ↓runS_op, ↓runS_nil, ↓optK_some, optK_some, ↓putT_some, ↓grd_true, grd_true, T.get_same, T.get_other, ↓evO_tmp, ↓grd_blt, grd_blt, ↓evO_const, ofValue, Nat.add_zero, Nat.zero_add, Nat.reduceAdd, ↓ev_assign, ↓natOf_nat, natOf_nat, ↓natOf_0, natOf_0, ↓natOf_1, natOf_1, ↓natOf_2, natOf_2]
            exact rfl
          refine CG.ret ?_
          have hm : mapE l r = (190, []) := by rw [hmap, hh]; rfl
          exact ⟨_, _, _, ⟨_, by rw [hm], .inl ⟨rfl, by rw [hm]⟩, hX2⟩, fun k => by simp (disch := decide) only [finK_ret, resultsK_tmp, resultsK_nil, rc29, rc38, rc47, resP_ptr, ldKn_ptr, ldBn_cells, read3, read5, read8, newB, cellsT_cons, cellsT_nil, Nat.zero_add, Nat.reduceAdd, retK_one, retK_two, retK_nil, optK_some, T.get_same, T.get_other] <;> rfl⟩
        | false =>
          have hh : hits l r = false := by rw [hhits, hsr]; exact c3
          rw [s7_8_eq]
          apply CG.regs
          · intro k
            simp (maxSteps := 2000000) (disch := first | decide | omega | rfl) only [s7_8_0, ↓runS_op, ↓runS_nil, ↓optK_some, optK_some, ↓putT_some, ↓grd_true, grd_true, T.get_same, T.get_other, ↓evO_tmp, ↓grd_blt, grd_blt, ↓runS_if, ↓wantS_tt, wantS_tt, ↓wantS_tf, wantS_tf, ↓wantS_ft, wantS_ft, ↓wantS_ff, wantS_ff, ↓ev_move, ↓ev_bin, ↓binCV_eq, binCV_eq, binR, ↓ev_builtin, ↓evOs_cons, ↓evOs_nil, ↓ln22, ln22, ↓lz22, lz22, ↓ln116, ln116, ↓lz116, lz116, ↓t0, t0, ↓t9, t9, ↓t7, t7, ↓hlen, hlen, ↓c2, c2, ↓c3, c3, ↓hix, hix, ↓hb2, hb2, ↓g0, g0, ↓g1, g1, ↓g2, g2]
            exact rfl
          apply CG.reg
          · intro k
            simp (maxSteps := 2000000) (disch := first | decide | omega | rfl) only [s7_8_1, ↓runS_op, ↓runS_nil, ↓optK_some, optK_some, ↓putT_some, ↓grd_true, grd_true, T.get_same, T.get_other, ↓evO_tmp, ↓grd_blt, grd_blt, ↓runS_if, ↓wantS_tt, wantS_tt, ↓wantS_tf, wantS_tf, ↓wantS_ft, wantS_ft, ↓wantS_ff, wantS_ff, ↓evO_const, ofValue, Nat.add_zero, Nat.zero_add, Nat.reduceAdd, ↓ev_move, ↓ev_bin, ↓binCV_eq, binCV_eq, binR, ↓ev_pick, ↓pickK_true, pickK_true, ↓pickK_false, pickK_false, ↓ldK1_ptr, ↓ldB1_cells, ↓ldKn_ptr, ↓ldBn_cells, ↓read3, read3, ↓read5, read5, List.length_cons, List.length_nil, newB, cellsT_cons, cellsT_nil, ↓natOf_nat, natOf_nat, ↓natOf_0, natOf_0, ↓natOf_1, natOf_1, ↓natOf_2, natOf_2, ↓ixK_sl, ixK_sl, ↓ixK_ar, ixK_ar, Nat.zero_mul, Nat.one_mul, Nat.mul_one, Nat.reduceMul, ↓ptrK_ptr, ↓fa38_0, ↓ld23, ↓ix22, ↓t0, t0, ↓t9, t9, ↓t7, t7, ↓hlen, hlen, ↓c2, c2, ↓c3, c3, ↓hix, hix, ↓hb2, hb2, ↓g0, g0, ↓g1, g1, ↓g2, g2]
            exact rfl
          refine CG.cond_false (fun k => by simp (maxSteps := 2000000) (disch := first | decide | omega | rfl) only [evO_tmp, optK_some, T.get_same, T.get_other] <;> rfl) ?_
          refine CG.skip ?_
          exact rest hh _ (by simp (maxSteps := 2000000) (disch := first | decide | omega | rfl) only [t0, T.get_same, T.get_other] <;> rfl) (by simp (maxSteps := 2000000) (disch := first | decide | omega | rfl) only [t9, T.get_same, T.get_other] <;> rfl) (by simp (maxSteps := 2000000) (disch := first | decide | omega | rfl) only [t3, T.get_same, T.get_other] <;> rfl)
end Go.Proofs.YthdoelcgdgcncaaGreatDoor
