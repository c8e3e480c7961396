/- Walks: slices.DeleteFunc at 'Count == 0'. -/
import Derived.Test.YthdoelcgdgcncaaGreatDoorWalkC
import Derived.Test.YthdoelcgdgcncaaGreatDoorCan5
set_option maxRecDepth 100000
set_option maxHeartbeats 4000000
set_option linter.unusedVariables false
set_option linter.unusedSimpArgs false
namespace Go.Proofs.YthdoelcgdgcncaaGreatDoor
open Go Go.Can
variable {β : Type}

theorem sl22lo {call : CallT β} {t : T CV} {h : T Blk} {nx : Nat} {k : K β} (x y : Operand) : evOp (.slice 22 x (some y) none none) tab call t h nx k = evO x tab t fun v => evO y tab t fun i => natOf i fun i => slK 3 (some i) none v fun v => k v h nx := ev_slice_lo ty22 (e := 38) rfl ty38 (by kernel_rfl) x y
theorem sl22hi {call : CallT β} {t : T CV} {h : T Blk} {nx : Nat} {k : K β} (x y : Operand) : evOp (.slice 22 x none (some y) none) tab call t h nx k = evO x tab t fun v => evO y tab t fun i => natOf i fun i => slK 3 none (some i) v fun v => k v h nx := ev_slice_hi ty22 (e := 38) rfl ty38 (by kernel_rfl) x y
noncomputable def z38 : List CV := [.int .u64 0, .int .i64 0, .bool false]
theorem clr22 {h : T Blk} {nx : Nat} {k : K β} (b o n : Nat) (cap : Cap) (hn : 0 < n) : opBuiltin .clear [22] [.slice b o n cap] tab h nx k = optK 6 (h.get b) fun B => stB (repL z38 n) B o fun B => k (.tup []) (h.set b B) nx := clear_eq ty22 (e := 38) rfl ty38 (by kernel_rfl) b o n cap hn

theorem repL_len (z : List CV) : ∀ n, (repL z n).length = n * z.length
  | 0 => by rw [Nat.zero_mul]; rfl
  | n + 1 => by
    show (z ++ repL z n).length = _
    rw [List.length_append, repL_len z n, Nat.succ_mul, Nat.add_comm]
theorem repL_one : ∀ n, (repL z38 n).all CV.one = true
  | 0 => rfl
  | n + 1 => by
    show (z38 ++ repL z38 n).all CV.one = true
    rw [List.all_append, repL_one n]
    rfl
theorem repL_len3 (n : Nat) : (repL z38 n).length = n * 3 := repL_len z38 n

def kept (l : List Rg) : List Rg := l.filter fun r => decide (r.c ≠ 0)

/-- regions in a block's cells -/
def RegC (cs : T CV) (l : List Rg) : Prop := ∀ (i : Nat) (r : Rg), l[i]? = some r → cs.get (i * 3) = some (.int .u64 r.a) ∧ cs.get (i * 3 + 1) = some (.int .i64 r.c) ∧ cs.get (i * 3 + 2) = some (.bool r.w)

theorem kept_succ {l : List Rg} {j : Nat} {r : Rg} (hr : l[j]? = some r) : kept (l.take (j + 1)) = kept (l.take j) ++ (if r.c = 0 then [] else [r]) := by
  unfold kept
  rw [List.take_add_one, hr, List.filter_append]
  congr 1
  by_cases h : r.c = 0 <;> simp [h]

theorem kept_all : ∀ (l : List Rg), (∀ r ∈ l, r.c ≠ 0) → kept l = l := fun l h => by
  unfold kept
  exact List.filter_eq_self.2 fun r hr => by simp [h r hr]

theorem kept_le (l : List Rg) : (kept l).length ≤ l.length := by unfold kept; exact List.length_filter_le _ _

theorem kept_take {l : List Rg} {i : Nat} (h : ∀ (j : Nat) (s : Rg), j < i → l[j]? = some s → s.c ≠ 0) : kept (l.take i) = l.take i := by
  refine kept_all _ fun r hr => ?_
  obtain ⟨j, hj⟩ := List.getElem?_of_mem hr
  have hji : j < i := by have := (List.getElem?_eq_some_iff.1 hj).1; simp at this; omega
  rw [List.getElem?_take, if_pos hji] at hj
  exact h j r hji hj

theorem del_ok (d : Nat) {b N : Nat} {cs : T CV} {l : List Rg} {h : T Blk} {nx : Nat} (hb : h.get b = some (.cells N cs true)) (hN : l.length * 3 ≤ N) (hbn : b < nx) (hl : l.length ≤ 100) (hreg : RegC cs l) :
    FG (β := β) tab (d + 3) 56 [.slice b 0 l.length (.known l.length), .fn 57 [] []] h nx fun v' h' nx' => v' = .slice b 0 (kept l).length (.known l.length) ∧ nx ≤ nx' ∧ (∀ c, c < nx → c ≠ b → h'.get c = h.get c) ∧
      ∃ cs', h'.get b = some (.cells N cs' true) ∧ RegC cs' (kept l) := by
  refine FG.of (fn := Tryz.f56) (c := c56) (n := 42) (rs := [.tmp 4]) (by kernel_rfl) (by kernel_rfl) (by kernel_rfl) c56_ok rfl rfl (by simp) fun call hc => ?_
  have hs : SlR h nx (.slice b 0 l.length (.known l.length)) l := .inr ⟨b, 0, _, rfl, hbn, N, cs, true, hb, fun i r hi => by simpa using hreg i r hi⟩
  obtain ⟨_, H, NX, ⟨hq, hx⟩, e⟩ := index_ok (β := β) d hs (by omega)
  rw [← hc] at e
  simp only [cellsT_cons, cellsT_nil, Nat.zero_add, Nat.reduceAdd]
  unfold c56
  refine CG.seq ?_
  apply CG.reg
  · intro k
    simp (maxSteps := 2000000) (disch := first | decide | omega | rfl) only [s56_0, ↓runS_op, ↓runS_nil, ↓optK_some, optK_some, ↓putT_some, ↓grd_true, grd_true, T.get_same, T.get_other, ↓evO_tmp, ↓grd_blt, grd_blt, ↓evO_const, ofValue, Nat.add_zero, Nat.zero_add, Nat.reduceAdd, ↓ev_assign, ↓natOf_nat, natOf_nat, ↓natOf_0, natOf_0, ↓natOf_1, natOf_1, ↓natOf_2, natOf_2]
    exact rfl
  refine CG.seq ?_
  apply CG.reg
  · intro k
    simp (maxSteps := 2000000) (disch := first | decide | omega | rfl) only [s56_1, ↓runS_op, ↓runS_nil, ↓optK_some, optK_some, ↓putT_some, ↓grd_true, grd_true, T.get_same, T.get_other, ↓evO_tmp, ↓grd_blt, grd_blt, ↓ev_move, ↓ev_assign, ↓ev_call, ↓evOs_cons, ↓evOs_nil, ↓notMap_fn, notMap_fn, ↓evO_func, List.getElem?_cons_zero, List.getElem?_cons_succ, ↓e, e]
    exact rfl
  refine CG.seq ?_
  refine CG.seq ?_
  rcases hq with ⟨rfl, hall⟩ | ⟨i0, r0, rfl, hr0, hz0, hpre⟩
  · have c1 : decide ((-1 : Int) = -1) = true := rfl
    apply CG.reg
    · intro k
      simp (maxSteps := 2000000) (disch := first | decide | omega | rfl) only [s56_2, ↓runS_op, ↓runS_nil, ↓optK_some, optK_some, ↓putT_some, ↓grd_true, grd_true, T.get_same, T.get_other, ↓evO_tmp, ↓grd_blt, grd_blt, ↓evO_const, ofValue, ↓ev_move, ↓ev_bin, ↓binCV_eq, binCV_eq, binR, ↓c1, c1]
      exact rfl
    refine CG.cond_true (fun k => by simp (maxSteps := 2000000) (disch := first | decide | omega | rfl) only [evO_tmp, optK_some, T.get_same, T.get_other] <;> rfl) ?_
    refine CG.seq ?_
    apply CG.reg
    · intro k
      simp (maxSteps := 2000000) (disch := first | decide | omega | rfl) only [s56_3, ↓runS_op, ↓runS_nil, ↓optK_some, optK_some, ↓putT_some, ↓grd_true, grd_true, T.get_same, T.get_other, ↓evO_tmp, ↓grd_blt, grd_blt, ↓ev_move, ↓ev_assign]
      exact rfl
    refine CG.ret ?_
    have hk : kept l = l := kept_all l hall
    exact ⟨_, _, _, ⟨by rw [hk], hx.le, fun c hc _ => hx.get c hc, cs, by rw [hx.get b hbn]; exact hb, by rw [hk]; exact hreg⟩, fun k => by simp (disch := decide) only [finK_ret, resultsK_tmp, resultsK_nil, rc29, rc38, rc47, resP_ptr, ldKn_ptr, ldBn_cells, read3, read5, read8, newB, cellsT_cons, cellsT_nil, Nat.zero_add, Nat.reduceAdd, retK_one, retK_two, retK_nil, optK_some, T.get_same, T.get_other] <;> rfl⟩
  · have c1 : decide ((i0 : Int) = -1) = false := decide_eq_false (by omega)
    apply CG.reg
    · intro k
      simp (maxSteps := 2000000) (disch := first | decide | omega | rfl) only [s56_2, ↓runS_op, ↓runS_nil, ↓optK_some, optK_some, ↓putT_some, ↓grd_true, grd_true, T.get_same, T.get_other, ↓evO_tmp, ↓grd_blt, grd_blt, ↓evO_const, ofValue, ↓ev_move, ↓ev_bin, ↓binCV_eq, binCV_eq, binR, ↓c1, c1]
      exact rfl
    refine CG.cond_false (fun k => by simp (maxSteps := 2000000) (disch := first | decide | omega | rfl) only [evO_tmp, optK_some, T.get_same, T.get_other] <;> rfl) ?_
    refine CG.skip ?_
    have hi0 : i0 < l.length := (List.getElem?_eq_some_iff.1 hr0).1
    have w0 : IntKind.i64.wrap ((i0 : Int) + 1) = ((i0 + 1 : Nat) : Int) := by rw [wrap_i64 (by omega) (by omega)]; omega
    have hk0 : kept (l.take (i0 + 1)) = l.take i0 := by rw [kept_succ hr0, if_pos hz0, List.append_nil, kept_take hpre]
    have hlen := fun (tys : List TypeId) (h' : T Blk) (nx' : Nat) (k : K β) => ln22 (h := h') (nx := nx') (k := k) tys b 0 l.length (.known l.length)
    refine CG.seq ?_
    refine CG.seq ?_
    apply CG.reg
    · intro k
      simp (maxSteps := 2000000) (disch := first | decide | omega | rfl) only [s56_4, ↓runS_op, ↓runS_nil, ↓optK_some, optK_some, ↓putT_some, ↓grd_true, grd_true, T.get_same, T.get_other, ↓evO_tmp, ↓grd_blt, grd_blt, ↓evO_const, ofValue, ↓ev_move, ↓ev_assign, ↓ev_bin, ↓binCV_eq, binCV_eq, binR, ↓w0, w0]
      exact rfl
    refine CG.block ?_
    refine CG.loop (fun m t h' nx' => ∃ (j i : Nat) (cs' : T CV), j ≤ l.length ∧ m = l.length - j ∧ i = (kept (l.take j)).length ∧ i < j ∧ t.get 0 = some (.slice b 0 l.length (.known l.length)) ∧ t.get 1 = some (.fn 57 [] []) ∧ t.get 5 = some (.int .i64 (i : Int)) ∧ t.get 6 = some (.int .i64 (j : Int)) ∧
      h'.get b = some (.cells N cs' true) ∧ RegC cs' (kept (l.take j)) ∧ (∀ (p : Nat) (r : Rg), j ≤ p → l[p]? = some r → cs'.get (p * 3) = some (.int .u64 r.a) ∧ cs'.get (p * 3 + 1) = some (.int .i64 r.c) ∧ cs'.get (p * 3 + 2) = some (.bool r.w)) ∧
      nx ≤ nx' ∧ (∀ c, c < nx → c ≠ b → h'.get c = h.get c)) ?_ (m := l.length - (i0 + 1)) (by omega) ?_
    rotate_left
    · refine ⟨i0 + 1, i0, cs, by omega, rfl, by rw [hk0, List.length_take]; omega, by omega, by simp (maxSteps := 2000000) (disch := first | decide | omega | rfl) only [T.get_same, T.get_other] <;> rfl, by simp (maxSteps := 2000000) (disch := first | decide | omega | rfl) only [T.get_same, T.get_other] <;> rfl, by simp (maxSteps := 2000000) (disch := first | decide | omega | rfl) only [T.get_same, T.get_other] <;> rfl, by simp (maxSteps := 2000000) (disch := first | decide | omega | rfl) only [T.get_same, T.get_other] <;> rfl, by rw [hx.get b hbn]; exact hb, ?_, fun p r _ hp => hreg p r hp, hx.le, fun c hc _ => hx.get c hc⟩
      rw [hk0]
      intro p r hp
      rw [List.getElem?_take] at hp
      split at hp
      · exact hreg p r hp
      · cases hp
    rintro m t h' nx' ⟨j, i, cs', hj, rfl, hi, hij, e0, e1, e5, e6, hb', hr1, hr2, hle, hoth⟩
    refine CG.seq ?_
    refine CG.seq ?_
    by_cases hend : j = l.length
    · subst hend
      rw [List.take_length] at hi hr1
      have c2 : decide ((l.length : Int) < (l.length : Int)) = false := by simp
      apply CG.reg
      · intro k
        simp (maxSteps := 2000000) (disch := first | decide | omega | rfl) only [s56_5, ↓runS_op, ↓runS_nil, ↓optK_some, optK_some, ↓putT_some, ↓grd_true, grd_true, T.get_same, T.get_other, ↓evO_tmp, ↓grd_blt, grd_blt, ↓ev_move, ↓ev_bin, ↓binCV_eq, binCV_eq, binR, ↓ev_builtin, ↓evOs_cons, ↓evOs_nil, ↓ln22, ln22, ↓lz22, lz22, ↓ln116, ln116, ↓lz116, lz116, ↓e0, e0, ↓e6, e6, ↓hlen, hlen, ↓c2, c2]
        exact rfl
      refine CG.cond_false (fun k => by simp (maxSteps := 2000000) (disch := first | decide | omega | rfl) only [evO_tmp, optK_some, T.get_same, T.get_other] <;> rfl) ?_
      refine CG.exit ?_
      simp only [if_pos]
      refine CG.seq ?_
      have hsl := fun (k : CV → Res β) => slK_lo (sz := 3) (b := b) (o := 0) (len := l.length) (c := l.length) (i := i) k hij (by omega) (Nat.le_refl _)
      have hsh := fun (k : CV → Res β) => slK_hi (sz := 3) (b := b) (o := 0) (len := l.length) (c := l.length) (i := i) k (by omega)
      have hcl := fun (h : T Blk) (nx : Nat) (k : K β) (o : Nat) (cap : Cap) => clr22 (h := h) (nx := nx) (k := k) b o (l.length - i) cap (by omega)
      have hone := repL_one (l.length - i)
      have hln := repL_len3 (l.length - i)
      simp only [Nat.zero_add] at hsl
      apply CG.reg
      · intro k
        simp (maxSteps := 2000000) (disch := first | decide | omega | rfl) only [s56_11, ↓runS_op, ↓runS_nil, ↓optK_some, optK_some, ↓putT_some, ↓grd_true, grd_true, T.get_same, T.get_other, ↓evO_tmp, ↓grd_blt, grd_blt, ↓putT_none, Nat.add_zero, Nat.zero_add, Nat.reduceAdd, ↓ev_move, ↓ev_builtin, ↓evOs_cons, ↓evOs_nil, ↓stB_cells, ↓grd_beq, grd_beq, ↓grd_ble, grd_ble, List.length_cons, List.length_nil, newB, cellsT_cons, cellsT_nil, ↓natOf_nat, natOf_nat, ↓natOf_0, natOf_0, ↓natOf_1, natOf_1, ↓natOf_2, natOf_2, ↓e0, e0, ↓e5, e5, ↓sl22lo, sl22lo, ↓hsl, hsl, ↓hcl, hcl, hb', ↓hone, hone, ↓hln, hln]
        exact rfl
      refine CG.seq ?_
      apply CG.reg
      · intro k
        simp (maxSteps := 2000000) (disch := first | decide | omega | rfl) only [s56_12, ↓runS_op, ↓runS_nil, ↓optK_some, optK_some, ↓putT_some, ↓grd_true, grd_true, T.get_same, T.get_other, ↓evO_tmp, ↓grd_blt, grd_blt, Nat.add_zero, Nat.zero_add, Nat.reduceAdd, ↓ev_move, ↓ev_assign, ↓natOf_nat, natOf_nat, ↓natOf_0, natOf_0, ↓natOf_1, natOf_1, ↓natOf_2, natOf_2, ↓e0, e0, ↓e5, e5, ↓sl22hi, sl22hi, ↓hsh, hsh]
        exact rfl
      refine CG.ret ?_
      refine ⟨_, _, _, ⟨?_, hle, ?_, ?_⟩, fun k => by simp (disch := decide) only [finK_ret, resultsK_tmp, resultsK_nil, rc29, rc38, rc47, resP_ptr, ldKn_ptr, ldBn_cells, read3, read5, read8, newB, cellsT_cons, cellsT_nil, Nat.zero_add, Nat.reduceAdd, retK_one, retK_two, retK_nil, optK_some, T.get_same, T.get_other] <;> rfl⟩
      · rw [← hi]
      · intro c hc hcb
        rw [T.get_other _ _ hcb]
        exact hoth c hc hcb
      refine ⟨_, T.get_same _ _ _, ?_⟩
      intro p r hp
      have hpi : p < i := by rw [hi]; exact (List.getElem?_eq_some_iff.1 hp).1
      obtain ⟨q1, q2, q3⟩ := hr1 p r hp
      refine ⟨?_, ?_, ?_⟩
      · rw [cellsT_get, if_neg (by omega)]; exact q1
      · rw [cellsT_get, if_neg (by omega)]; exact q2
      · rw [cellsT_get, if_neg (by omega)]; exact q3
    · have hlt : j < l.length := by omega
      obtain ⟨r, hri⟩ : ∃ r, l[j]? = some r := ⟨l[j], List.getElem?_eq_getElem hlt⟩
      obtain ⟨g0, g1, g2⟩ := hr2 j r (Nat.le_refl _) hri
      have ez := zero_eq (β := β) (d + 1) r
      rw [show d + 1 + 1 = d + 2 from rfl, ← hc] at ez
      simp only [newB, cellsT_cons, cellsT_nil, Nat.zero_add, Nat.reduceAdd, List.length_cons, List.length_nil] at ez
      have hks := kept_succ hri
      have c2 : decide ((j : Int) < (l.length : Int)) = true := by simp; omega
      have w1 : IntKind.i64.wrap ((j : Int) + 1) = ((j + 1 : Nat) : Int) := by rw [wrap_i64 (by omega) (by omega)]; omega
      apply CG.reg
      · intro k
        simp (maxSteps := 2000000) (disch := first | decide | omega | rfl) only [s56_5, ↓runS_op, ↓runS_nil, ↓optK_some, optK_some, ↓putT_some, ↓grd_true, grd_true, T.get_same, T.get_other, ↓evO_tmp, ↓grd_blt, grd_blt, ↓ev_move, ↓ev_bin, ↓binCV_eq, binCV_eq, binR, ↓ev_builtin, ↓evOs_cons, ↓evOs_nil, ↓ln22, ln22, ↓lz22, lz22, ↓ln116, ln116, ↓lz116, lz116, ↓e0, e0, ↓e6, e6, ↓hlen, hlen, ↓c2, c2]
        exact rfl
      refine CG.cond_true (fun k => by simp (maxSteps := 2000000) (disch := first | decide | omega | rfl) only [evO_tmp, optK_some, T.get_same, T.get_other] <;> rfl) ?_
      refine CG.skip ?_
      refine CG.seq ?_
      refine CG.block ?_
      refine CG.seq ?_
      apply CG.reg
      · intro k
        simp (maxSteps := 2000000) (disch := first | decide | omega | rfl) only [s56_7, ↓runS_op, ↓runS_nil, ↓optK_some, optK_some, ↓putT_some, ↓grd_true, grd_true, T.get_same, T.get_other, ↓evO_tmp, ↓grd_blt, grd_blt, ↓putT_none, Nat.add_zero, Nat.zero_add, Nat.reduceAdd, ↓ev_move, ↓ldK1_ptr, ↓ldB1_cells, ↓ldKn_ptr, ↓ldBn_cells, ↓read3, read3, ↓read5, read5, List.length_cons, List.length_nil, newB, cellsT_cons, cellsT_nil, ↓ptrOf_ptr, ↓stK_eq, ↓stB_cells, ↓grd_beq, grd_beq, ↓grd_ble, grd_ble, Bool.true_and, Bool.and_true, cells_int, cells_bool, cells_agg, cells_slice, cells_nilslice, cells_fn, cells_nilfn, cells_ptr, ↓natOf_nat, natOf_nat, ↓natOf_0, natOf_0, ↓natOf_1, natOf_1, ↓natOf_2, natOf_2, ↓ixK_sl, ixK_sl, ↓ixK_ar, ixK_ar, Nat.zero_mul, Nat.one_mul, Nat.mul_one, Nat.reduceMul, ↓ld38, ↓st38, ↓al38, ↓ix22, ↓e0, e0, ↓e6, e6, hb', ↓g0, g0, ↓g1, g1, ↓g2, g2]
        exact rfl
      refine CG.seq ?_
      by_cases hz : r.c = 0
      · have c3 : decide (r.c = 0) = true := decide_eq_true hz
        rw [if_pos hz, List.append_nil] at hks
        apply CG.reg
        · intro k
          simp (maxSteps := 2000000) (disch := first | decide | omega | rfl) only [s56_8, ↓runS_op, ↓runS_nil, ↓optK_some, optK_some, ↓putT_some, ↓grd_true, grd_true, T.get_same, T.get_other, ↓evO_tmp, ↓grd_blt, grd_blt, Nat.add_zero, Nat.zero_add, Nat.reduceAdd, ↓ev_move, ↓ev_not, Bool.not_true, Bool.not_false, ↓ev_call, ↓evOs_cons, ↓evOs_nil, ↓notMap_fn, notMap_fn, ↓evO_func, List.getElem?_cons_zero, List.getElem?_cons_succ, ↓ldK1_ptr, ↓ldB1_cells, ↓ldKn_ptr, ↓ldBn_cells, ↓read3, read3, ↓read5, read5, List.length_cons, List.length_nil, newB, cellsT_cons, cellsT_nil, ↓ld38, ↓e1, e1, ↓ez, ez, ↓c3, c3]
          exact rfl
        refine CG.cond_false (fun k => by simp (maxSteps := 2000000) (disch := first | decide | omega | rfl) only [evO_tmp, optK_some, T.get_same, T.get_other] <;> rfl) ?_
        refine CG.skip ?_
        apply CG.reg
        · intro k
          simp (maxSteps := 2000000) (disch := first | decide | omega | rfl) only [s56_6, ↓runS_op, ↓runS_nil, ↓optK_some, optK_some, ↓putT_some, ↓grd_true, grd_true, T.get_same, T.get_other, ↓evO_tmp, ↓grd_blt, grd_blt, ↓evO_const, ofValue, ↓ev_move, ↓ev_assign, ↓ev_bin, ↓binCV_eq, binCV_eq, binR, ↓e6, e6, ↓w1, w1]
          exact rfl
        refine ⟨l.length - (j + 1), by omega, j + 1, i, cs', by omega, rfl, by rw [hks]; exact hi, by omega, by simp (maxSteps := 2000000) (disch := first | decide | omega | rfl) only [e0, T.get_same, T.get_other] <;> rfl, by simp (maxSteps := 2000000) (disch := first | decide | omega | rfl) only [e1, T.get_same, T.get_other] <;> rfl, by simp (maxSteps := 2000000) (disch := first | decide | omega | rfl) only [e5, T.get_same, T.get_other] <;> rfl, by simp (maxSteps := 2000000) (disch := first | decide | omega | rfl) only [T.get_same, T.get_other] <;> rfl, ?_, by rw [hks]; exact hr1, fun p s hp hs' => hr2 p s (by omega) hs', by omega, fun c hc hcb => ?_⟩
        · rw [T.get_other _ _ (by omega), T.get_other _ _ (by omega), T.get_other _ _ (by omega)]; exact hb'
        · rw [T.get_other _ _ (by omega), T.get_other _ _ (by omega), T.get_other _ _ (by omega)]; exact hoth c hc hcb
      · have c3 : decide (r.c = 0) = false := decide_eq_false hz
        rw [if_neg hz] at hks
        apply CG.reg
        · intro k
          simp (maxSteps := 2000000) (disch := first | decide | omega | rfl) only [s56_8, ↓runS_op, ↓runS_nil, ↓optK_some, optK_some, ↓putT_some, ↓grd_true, grd_true, T.get_same, T.get_other, ↓evO_tmp, ↓grd_blt, grd_blt, Nat.add_zero, Nat.zero_add, Nat.reduceAdd, ↓ev_move, ↓ev_not, Bool.not_true, Bool.not_false, ↓ev_call, ↓evOs_cons, ↓evOs_nil, ↓notMap_fn, notMap_fn, ↓evO_func, List.getElem?_cons_zero, List.getElem?_cons_succ, ↓ldK1_ptr, ↓ldB1_cells, ↓ldKn_ptr, ↓ldBn_cells, ↓read3, read3, ↓read5, read5, List.length_cons, List.length_nil, newB, cellsT_cons, cellsT_nil, ↓ld38, ↓e1, e1, ↓ez, ez, ↓c3, c3]
          exact rfl
        refine CG.cond_true (fun k => by simp (maxSteps := 2000000) (disch := first | decide | omega | rfl) only [evO_tmp, optK_some, T.get_same, T.get_other] <;> rfl) ?_
        refine CG.seq ?_
        apply CG.reg
        · intro k
          simp (maxSteps := 2000000) (disch := first | decide | omega | rfl) only [s56_9, ↓runS_op, ↓runS_nil, ↓optK_some, optK_some, ↓putT_some, ↓grd_true, grd_true, T.get_same, T.get_other, ↓evO_tmp, ↓grd_blt, grd_blt, ↓putT_none, Nat.add_zero, Nat.zero_add, Nat.reduceAdd, ↓ev_move, ↓ldK1_ptr, ↓ldB1_cells, ↓ldKn_ptr, ↓ldBn_cells, ↓read3, read3, ↓read5, read5, List.length_cons, List.length_nil, newB, cellsT_cons, cellsT_nil, ↓ptrOf_ptr, ↓stK_eq, ↓stB_cells, ↓grd_beq, grd_beq, ↓grd_ble, grd_ble, Bool.true_and, Bool.and_true, cells_int, cells_bool, cells_agg, cells_slice, cells_nilslice, cells_fn, cells_nilfn, cells_ptr, ↓natOf_nat, natOf_nat, ↓natOf_0, natOf_0, ↓natOf_1, natOf_1, ↓natOf_2, natOf_2, ↓ixK_sl, ixK_sl, ↓ixK_ar, ixK_ar, Nat.zero_mul, Nat.one_mul, Nat.mul_one, Nat.reduceMul, ↓ld38, ↓st38, ↓ix22, ↓e0, e0, ↓e5, e5, hb']
          exact rfl
        have w2 : IntKind.i64.wrap ((i : Int) + 1) = ((i + 1 : Nat) : Int) := by rw [wrap_i64 (by omega) (by omega)]; omega
        apply CG.reg
        · intro k
          simp (maxSteps := 2000000) (disch := first | decide | omega | rfl) only [s56_10, ↓runS_op, ↓runS_nil, ↓optK_some, optK_some, ↓putT_some, ↓grd_true, grd_true, T.get_same, T.get_other, ↓evO_tmp, ↓grd_blt, grd_blt, ↓evO_const, ofValue, ↓ev_move, ↓ev_assign, ↓ev_bin, ↓binCV_eq, binCV_eq, binR, ↓e5, e5, ↓w2, w2]
          exact rfl
        apply CG.reg
        · intro k
          simp (maxSteps := 2000000) (disch := first | decide | omega | rfl) only [s56_6, ↓runS_op, ↓runS_nil, ↓optK_some, optK_some, ↓putT_some, ↓grd_true, grd_true, T.get_same, T.get_other, ↓evO_tmp, ↓grd_blt, grd_blt, ↓evO_const, ofValue, ↓ev_move, ↓ev_assign, ↓ev_bin, ↓binCV_eq, binCV_eq, binR, ↓e6, e6, ↓w1, w1]
          exact rfl
        refine ⟨l.length - (j + 1), by omega, j + 1, i + 1, ((cs'.set (i * 3) (.int .u64 r.a)).set (i * 3 + 1) (.int .i64 r.c)).set (i * 3 + 1 + 1) (.bool r.w), by omega, rfl, by rw [hks, List.length_append]; simp [hi], by omega, by simp (maxSteps := 2000000) (disch := first | decide | omega | rfl) only [e0, T.get_same, T.get_other] <;> rfl, by simp (maxSteps := 2000000) (disch := first | decide | omega | rfl) only [e1, T.get_same, T.get_other] <;> rfl, by simp (maxSteps := 2000000) (disch := first | decide | omega | rfl) only [T.get_same, T.get_other] <;> rfl, by simp (maxSteps := 2000000) (disch := first | decide | omega | rfl) only [T.get_same, T.get_other] <;> rfl, ?_, ?_, ?_, by omega, fun c hc hcb => ?_⟩
        · rw [T.get_same]
        · rw [hks]
          intro p s hp
          by_cases hpi : p < i
          · rw [List.getElem?_append_left (by omega)] at hp
            obtain ⟨q1, q2, q3⟩ := hr1 p s hp
            refine ⟨?_, ?_, ?_⟩
            · rw [T.get_other _ _ (by omega), T.get_other _ _ (by omega), T.get_other _ _ (by omega)]; exact q1
            · rw [T.get_other _ _ (by omega), T.get_other _ _ (by omega), T.get_other _ _ (by omega)]; exact q2
            · rw [T.get_other _ _ (by omega), T.get_other _ _ (by omega), T.get_other _ _ (by omega)]; exact q3
          · have hpe : p = i := by
              have := (List.getElem?_eq_some_iff.1 hp).1
              simp at this; omega
            subst hpe
            rw [List.getElem?_append_right (by omega)] at hp
            rw [← hi, Nat.sub_self] at hp
            have hp : r = s := by simpa using hp
            subst hp
            refine ⟨?_, ?_, ?_⟩
            · rw [T.get_other _ _ (by omega), T.get_other _ _ (by omega), T.get_same]
            · rw [T.get_other _ _ (by omega), T.get_same]
            · rw [T.get_same]
        · intro p s hp hs'
          obtain ⟨q1, q2, q3⟩ := hr2 p s (by omega) hs'
          refine ⟨?_, ?_, ?_⟩
          · rw [T.get_other _ _ (by omega), T.get_other _ _ (by omega), T.get_other _ _ (by omega)]; exact q1
          · rw [T.get_other _ _ (by omega), T.get_other _ _ (by omega), T.get_other _ _ (by omega)]; exact q2
          · rw [T.get_other _ _ (by omega), T.get_other _ _ (by omega), T.get_other _ _ (by omega)]; exact q3
        · rw [T.get_other _ _ (by omega), T.get_other _ _ (by omega), T.get_other _ _ (by omega), T.get_other _ _ (by omega)]; exact hoth c hc hcb
end Go.Proofs.YthdoelcgdgcncaaGreatDoor
/- Walks: there, and what Unmap and Protect do with the parts of a region. -/
namespace Go.Proofs.YthdoelcgdgcncaaGreatDoor
open Go Go.Can
variable {β : Type}

theorem there_ok (d : Nat) {b N : Nat} {cs : T CV} {l : List Rg} {h : T Blk} {nx : Nat} (hb : h.get b = some (.cells N cs true)) (hN : l.length * 3 ≤ N) (hbn : b < nx) (hl : l.length ≤ 100) (hreg : RegC cs l) :
    FG (β := β) tab (d + 4) 24 [.slice b 0 l.length (.known l.length)] h nx fun v' h' nx' => v' = .slice b 0 (kept l).length (.known l.length) ∧ nx ≤ nx' ∧ (∀ c, c < nx → c ≠ b → h'.get c = h.get c) ∧
      ∃ cs', h'.get b = some (.cells N cs' true) ∧ RegC cs' (kept l) := by
  refine FG.of (fn := Tryz.f24) (c := c24) (n := 5) (rs := [.tmp 2]) (by kernel_rfl) (by kernel_rfl) (by kernel_rfl) c24_ok rfl rfl (by simp) fun call hc => ?_
  obtain ⟨_, H, NX, ⟨rfl, hle, hoth, cs', hb', hr'⟩, e⟩ := del_ok (β := β) d hb hN hbn hl hreg
  rw [← hc] at e
  simp only [cellsT_cons, cellsT_nil, Nat.zero_add, Nat.reduceAdd]
  unfold c24
  refine CG.seq ?_
  apply CG.reg
  · intro k
    simp (maxSteps := 2000000) (disch := first | decide | omega | rfl) only [s24_0, ↓runS_op, ↓runS_nil, ↓optK_some, optK_some, ↓putT_some, ↓grd_true, grd_true, T.get_same, T.get_other, ↓evO_tmp, ↓grd_blt, grd_blt, ↓evO_const, ofValue, Nat.add_zero, Nat.zero_add, Nat.reduceAdd, ↓ev_assign, ↓natOf_nat, natOf_nat, ↓natOf_0, natOf_0, ↓natOf_1, natOf_1, ↓natOf_2, natOf_2]
    exact rfl
  refine CG.seq ?_
  apply CG.reg
  · intro k
    simp (maxSteps := 2000000) (disch := first | decide | omega | rfl) only [s24_1, ↓runS_op, ↓runS_nil, ↓optK_some, optK_some, ↓putT_some, ↓grd_true, grd_true, T.get_same, T.get_other, ↓evO_tmp, ↓grd_blt, grd_blt, ↓ev_move, ↓ev_assign, ↓ev_call, ↓evOs_cons, ↓evOs_nil, ↓notMap_fn, notMap_fn, ↓evO_func, List.getElem?_cons_zero, List.getElem?_cons_succ, ↓e, e]
    exact rfl
  refine CG.ret ?_
  exact ⟨_, _, _, ⟨rfl, hle, hoth, cs', hb', hr'⟩, fun k => by simp (disch := decide) only [finK_ret, resultsK_tmp, resultsK_nil, rc29, rc38, rc47, resP_ptr, ldKn_ptr, ldBn_cells, read3, read5, read8, newB, cellsT_cons, cellsT_nil, Nat.zero_add, Nat.reduceAdd, retK_one, retK_two, retK_nil, optK_some, T.get_same, T.get_other] <;> rfl⟩

/-- pieces of a region, in a row of their own -/
def PiecesQ (h : T Blk) (nx : Nat) (l : List Rg) (v : CV) (h' : T Blk) (nx' : Nat) : Prop :=
  ∃ b N cs c, v = .slice b 0 l.length (.known c) ∧ nx ≤ b ∧ b < nx' ∧ h'.get b = some (.cells N cs true) ∧ RegC cs l ∧ Ext h nx h' nx'

theorem regC2 (r s : Rg) : RegC ((((((T.nil.set 0 (.int .u64 r.a)).set 1 (.int .i64 r.c)).set 2 (.bool r.w)).set 3 (.int .u64 s.a)).set 4 (.int .i64 s.c)).set 5 (.bool s.w)) [r, s] := by
  intro i x hi
  match i, hi with
  | 0, hi => cases hi; exact ⟨rfl, rfl, rfl⟩
  | 1, hi => cases hi; exact ⟨rfl, rfl, rfl⟩
theorem regC3 (r s u : Rg) : RegC (((((((((T.nil.set 0 (.int .u64 r.a)).set 1 (.int .i64 r.c)).set 2 (.bool r.w)).set 3 (.int .u64 s.a)).set 4 (.int .i64 s.c)).set 5 (.bool s.w)).set 6 (.int .u64 u.a)).set 7 (.int .i64 u.c)).set 8 (.bool u.w)) [r, s, u] := by
  intro i x hi
  match i, hi with
  | 0, hi => cases hi; exact ⟨rfl, rfl, rfl⟩
  | 1, hi => cases hi; exact ⟨rfl, rfl, rfl⟩
  | 2, hi => cases hi; exact ⟨rfl, rfl, rfl⟩

theorem unmapP_ok (d : Nat) (r s u : Rg) (h : T Blk) (nx : Nat) :
    FG (β := β) tab (d + 5) 23 [rgCV r, rgCV s, rgCV u] h nx (PiecesQ h nx (kept [r, u])) := by
  refine FG.of (fn := Tryz.f23) (c := c23) (n := 11) (rs := [.tmp 6]) (by kernel_rfl) (by kernel_rfl) (by kernel_rfl) c23_ok rfl rfl (by simp) fun call hc => ?_
  have hx0 : Ext h nx (((h.set nx (newB [.int .u64 r.a, .int .i64 r.c, .bool r.w])).set (nx + 1) (newB [.int .u64 s.a, .int .i64 s.c, .bool s.w])).set (nx + 1 + 1) (newB [.int .u64 u.a, .int .i64 u.c, .bool u.w])) (nx + 1 + 1 + 1) := (Ext.refl h nx).new.new.new
  obtain ⟨_, H, NX, ⟨rfl, hle, hoth, cs', hb', hr'⟩, e⟩ := there_ok (β := β) d (l := [r, u]) (T.get_same (((h.set nx (newB [.int .u64 r.a, .int .i64 r.c, .bool r.w])).set (nx + 1) (newB [.int .u64 s.a, .int .i64 s.c, .bool s.w])).set (nx + 1 + 1) (newB [.int .u64 u.a, .int .i64 u.c, .bool u.w])) (nx + 1 + 1 + 1) (newB [.int .u64 r.a, .int .i64 r.c, .bool r.w, .int .u64 u.a, .int .i64 u.c, .bool u.w])) (nx := nx + 1 + 1 + 1 + 1) (by simp) (by omega) (by simp) (regC2 r u)
  rw [← hc] at e
  have hall : Ext h nx H NX := ⟨by omega, fun c hc => by rw [hoth c (by omega) (by omega), T.get_other _ _ (by omega)]; exact hx0.get c hc⟩
  simp only [newB, cellsT_cons, cellsT_nil, Nat.zero_add, Nat.reduceAdd, List.length_cons, List.length_nil] at e
  simp only [cellsT_cons, cellsT_nil, Nat.zero_add, Nat.reduceAdd, rgCV]
  unfold c23
  refine CG.seq ?_
  apply CG.reg
  · intro k
    simp (maxSteps := 2000000) (disch := first | decide | omega | rfl) only [s23_0, ↓runS_op, ↓runS_nil, ↓optK_some, optK_some, ↓putT_some, ↓grd_true, grd_true, T.get_same, T.get_other, ↓evO_tmp, ↓grd_blt, grd_blt, ↓evO_const, ofValue, Nat.add_zero, Nat.zero_add, Nat.reduceAdd, ↓ev_assign, ↓ev_box1, ↓boxK_int, ↓boxK_bool, ↓boxK_rg, ↓boxK_a3, ↓boxK_a4, ↓boxK_slice, ↓boxK_nilslice, ↓boxK_fn, List.length_cons, List.length_nil, newB, cellsT_cons, cellsT_nil, ↓natOf_nat, natOf_nat, ↓natOf_0, natOf_0, ↓natOf_1, natOf_1, ↓natOf_2, natOf_2]
    exact rfl
  refine CG.seq ?_
  apply CG.reg
  · intro k
    simp (maxSteps := 2000000) (disch := first | decide | omega | rfl) only [s23_1, ↓runS_op, ↓runS_nil, ↓optK_some, optK_some, ↓putT_some, ↓grd_true, grd_true, T.get_same, T.get_other, ↓evO_tmp, ↓grd_blt, grd_blt, Nat.add_zero, Nat.zero_add, Nat.reduceAdd, ↓ev_assign, ↓ev_call, ↓evOs_cons, ↓evOs_nil, ↓notMap_fn, notMap_fn, ↓evO_func, List.getElem?_cons_zero, List.getElem?_cons_succ, ↓ldK1_ptr, ↓ldB1_cells, ↓ldKn_ptr, ↓ldBn_cells, ↓read3, read3, ↓read5, read5, List.length_cons, List.length_nil, newB, cellsT_cons, cellsT_nil, ↓fillS_nil, ↓fillS_cons, ↓fill1_0, fill1_0, ↓fill1_1, fill1_1, ↓fill1_2, fill1_2, ↓fill1_3, fill1_3, ↓fill1_4, fill1_4, ↓fill1_5, fill1_5, ↓fill1_6, fill1_6, ↓fill1_7, fill1_7, ↓fill3_0, fill3_0, ↓fill3_3, fill3_3, ↓fill3_6, fill3_6, ↓grd_beq, grd_beq, cells_int, cells_bool, cells_agg, cells_slice, cells_nilslice, cells_fn, cells_nilfn, cells_ptr, ↓newC0, newC0, ↓newC1, newC1, ↓newC2, newC2, ↓newR1, newR1, ↓newR2, newR2, ↓newR3, newR3, ↓newCells_eq1, newCells_eq1, ↓ld38, pl22_0, pl22_1, pl22_2, ↓bs22_2, ↓e, e]
    exact rfl
  refine CG.ret ?_
  exact ⟨_, _, _, ⟨_, _, _, _, rfl, by omega, by omega, hb', hr', hall⟩, fun k => by simp (disch := decide) only [finK_ret, resultsK_tmp, resultsK_nil, rc29, rc38, rc47, resP_ptr, ldKn_ptr, ldBn_cells, read3, read5, read8, newB, cellsT_cons, cellsT_nil, Nat.zero_add, Nat.reduceAdd, retK_one, retK_two, retK_nil, optK_some, T.get_same, T.get_other] <;> rfl⟩

theorem protP_ok (d : Nat) (r s u : Rg) (wr : Bool) {h : T Blk} {nx bw : Nat} (hw : h.get bw = some (newB [.bool wr])) (hbw : bw < nx) :
    FG (β := β) tab (d + 5) 25 [rgCV r, rgCV s, rgCV u, .ptr bw 0] h nx (PiecesQ h nx (kept [r, { s with w := wr }, u])) := by
  refine FG.of (fn := Tryz.f25) (c := c25) (n := 15) (rs := [.tmp 7]) (by kernel_rfl) (by kernel_rfl) (by kernel_rfl) c25_ok rfl rfl (by simp) fun call hc => ?_
  have hx0 : Ext h nx ((((h.set nx (newB [.int .u64 r.a, .int .i64 r.c, .bool r.w])).set (nx + 1) (newB [.int .u64 s.a, .int .i64 s.c, .bool s.w])).set (nx + 1 + 1) (newB [.int .u64 u.a, .int .i64 u.c, .bool u.w])).set (nx + 1) (.cells 3 ((((T.nil.set 0 (.int .u64 s.a)).set 1 (.int .i64 s.c)).set 2 (.bool s.w)).set 2 (.bool wr)) true)) (nx + 1 + 1 + 1) := ((Ext.refl h nx).new.new.new).set (by omega)
  obtain ⟨_, H, NX, ⟨rfl, hle, hoth, cs', hb', hr'⟩, e⟩ := there_ok (β := β) d (l := [r, { s with w := wr }, u]) (T.get_same ((((h.set nx (newB [.int .u64 r.a, .int .i64 r.c, .bool r.w])).set (nx + 1) (newB [.int .u64 s.a, .int .i64 s.c, .bool s.w])).set (nx + 1 + 1) (newB [.int .u64 u.a, .int .i64 u.c, .bool u.w])).set (nx + 1) (.cells 3 ((((T.nil.set 0 (.int .u64 s.a)).set 1 (.int .i64 s.c)).set 2 (.bool s.w)).set 2 (.bool wr)) true)) (nx + 1 + 1 + 1) (newB [.int .u64 r.a, .int .i64 r.c, .bool r.w, .int .u64 s.a, .int .i64 s.c, .bool wr, .int .u64 u.a, .int .i64 u.c, .bool u.w])) (nx := nx + 1 + 1 + 1 + 1) (by simp) (by omega) (by simp) (regC3 r { s with w := wr } u)
  rw [← hc] at e
  have hall : Ext h nx H NX := ⟨by omega, fun c hc => by rw [hoth c (by omega) (by omega), T.get_other _ _ (by omega)]; exact hx0.get c hc⟩
  simp only [newB, cellsT_cons, cellsT_nil, Nat.zero_add, Nat.reduceAdd, List.length_cons, List.length_nil] at e
  simp only [newB, cellsT_cons, cellsT_nil, Nat.zero_add, Nat.reduceAdd, List.length_cons, List.length_nil] at hw
  simp only [cellsT_cons, cellsT_nil, Nat.zero_add, Nat.reduceAdd, rgCV]
  unfold c25
  refine CG.seq ?_
  apply CG.reg
  · intro k
    simp (maxSteps := 2000000) (disch := first | decide | omega | rfl) only [s25_0, ↓runS_op, ↓runS_nil, ↓optK_some, optK_some, ↓putT_some, ↓grd_true, grd_true, T.get_same, T.get_other, ↓evO_tmp, ↓grd_blt, grd_blt, ↓evO_const, ofValue, Nat.add_zero, Nat.zero_add, Nat.reduceAdd, ↓ev_assign, ↓ev_box1, ↓boxK_int, ↓boxK_bool, ↓boxK_rg, ↓boxK_a3, ↓boxK_a4, ↓boxK_slice, ↓boxK_nilslice, ↓boxK_fn, List.length_cons, List.length_nil, newB, cellsT_cons, cellsT_nil, ↓natOf_nat, natOf_nat, ↓natOf_0, natOf_0, ↓natOf_1, natOf_1, ↓natOf_2, natOf_2]
    exact rfl
  refine CG.seq ?_
  apply CG.reg
  · intro k
    simp (maxSteps := 2000000) (disch := first | decide | omega | rfl) only [s25_1, ↓runS_op, ↓runS_nil, ↓optK_some, optK_some, ↓putT_some, ↓grd_true, grd_true, T.get_same, T.get_other, ↓evO_tmp, ↓grd_blt, grd_blt, ↓putT_none, Nat.add_zero, Nat.zero_add, Nat.reduceAdd, ↓ldK1_ptr, ↓ldB1_cells, ↓ldKn_ptr, ↓ldBn_cells, ↓read3, read3, ↓read5, read5, List.length_cons, List.length_nil, newB, cellsT_cons, cellsT_nil, ↓ptrOf_ptr, ↓stK_eq, ↓stB_cells, ↓grd_beq, grd_beq, ↓grd_ble, grd_ble, Bool.true_and, Bool.and_true, cells_int, cells_bool, cells_agg, cells_slice, cells_nilslice, cells_fn, cells_nilfn, cells_ptr, ↓ptrK_ptr, ↓fa38_2, ↓ld4, ↓st4, ↓hw, hw]
    exact rfl
  refine CG.seq ?_
  apply CG.reg
  · intro k
    simp (maxSteps := 2000000) (disch := first | decide | omega | rfl) only [s25_2, ↓runS_op, ↓runS_nil, ↓optK_some, optK_some, ↓putT_some, ↓grd_true, grd_true, T.get_same, T.get_other, ↓evO_tmp, ↓grd_blt, grd_blt, Nat.add_zero, Nat.zero_add, Nat.reduceAdd, ↓ev_assign, ↓ev_call, ↓evOs_cons, ↓evOs_nil, ↓notMap_fn, notMap_fn, ↓evO_func, List.getElem?_cons_zero, List.getElem?_cons_succ, ↓ldK1_ptr, ↓ldB1_cells, ↓ldKn_ptr, ↓ldBn_cells, ↓read3, read3, ↓read5, read5, List.length_cons, List.length_nil, newB, cellsT_cons, cellsT_nil, ↓fillS_nil, ↓fillS_cons, ↓fill1_0, fill1_0, ↓fill1_1, fill1_1, ↓fill1_2, fill1_2, ↓fill1_3, fill1_3, ↓fill1_4, fill1_4, ↓fill1_5, fill1_5, ↓fill1_6, fill1_6, ↓fill1_7, fill1_7, ↓fill3_0, fill3_0, ↓fill3_3, fill3_3, ↓fill3_6, fill3_6, ↓grd_beq, grd_beq, cells_int, cells_bool, cells_agg, cells_slice, cells_nilslice, cells_fn, cells_nilfn, cells_ptr, ↓newC0, newC0, ↓newC1, newC1, ↓newC2, newC2, ↓newR1, newR1, ↓newR2, newR2, ↓newR3, newR3, ↓newCells_eq1, newCells_eq1, ↓ld38, pl22_0, pl22_1, pl22_2, ↓bs22_3, ↓e, e]
    exact rfl
  refine CG.ret ?_
  exact ⟨_, _, _, ⟨_, _, _, _, rfl, by omega, by omega, hb', hr', hall⟩, fun k => by simp (disch := decide) only [finK_ret, resultsK_tmp, resultsK_nil, rc29, rc38, rc47, resP_ptr, ldKn_ptr, ldBn_cells, read3, read5, read8, newB, cellsT_cons, cellsT_nil, Nat.zero_add, Nat.reduceAdd, retK_one, retK_two, retK_nil, optK_some, T.get_same, T.get_other] <;> rfl⟩
end Go.Proofs.YthdoelcgdgcncaaGreatDoor
/- Walks: change's closure. -/
namespace Go.Proofs.YthdoelcgdgcncaaGreatDoor
open Go Go.Can
variable {β : Type}

theorem pieces_ext {h h₁ h' : T Blk} {nx nx₁ nx' : Nat} {l : List Rg} {v : CV} (a : Ext h nx h₁ nx₁) (q : PiecesQ h₁ nx₁ l v h' nx') : PiecesQ h nx l v h' nx' := by
  obtain ⟨b, N, cs, c, h1, h2, h3, h4, h5, h6⟩ := q
  exact ⟨b, N, cs, c, h1, Nat.le_trans a.le h2, h3, h4, h5, a.trans h6⟩

theorem change1_ok (d : Nat) {r : Rg} {first to : Int} {fd : CV} {pc : List Rg} {h : T Blk} {nx bd bf bt : Nat} (hd : h.get bd = some (newB [fd])) (hf : h.get bf = some (newB [.int .u64 first])) {nt : Nat} {ct : T CV} {rt : Bool} (ht : h.get bt = some (.cells nt ct rt)) (qt : ct.get 0 = some (.int .u64 to))
    (hbd : bd < nx) (hbf : bf < nx) (hbt : bt < nx) (hnm : notMapV fd = true) (hsm : CV.same fd fd = true) (h0 : 0 ≤ r.a) (h1 : 0 ≤ r.c) (h2 : r.a + r.c < 9223372036854775808)
    (hcall : ∀ H NX, Ext h nx H NX → ∃ v H' NX', PiecesQ H NX pc v H' NX' ∧ ∀ k : K β, callN tab (d + 2) fd [rgCV (pAhead r first to), rgCV (pIn r first to), rgCV (pRest r first to)] H NX k = k v H' NX') :
    FG (β := β) tab (d + 3) 54 [.agg [.int .u64 r.a, .int .i64 r.c, .bool r.w], .ptr bd 0, .ptr bf 0, .ptr bt 0] h nx (PiecesQ h nx pc) := by
  refine FG.of (fn := Tryz.f54) (c := c54) (n := 15) (rs := [.tmp 5]) (by kernel_rfl) (by kernel_rfl) (by kernel_rfl) c54_ok rfl rfl (by simp) fun call hc => ?_
  have hx0 : Ext h nx (h.set nx (newB [.int .u64 r.a, .int .i64 r.c, .bool r.w])) (nx + 1) := (Ext.refl h nx).new
  obtain ⟨_, H, NX, ⟨rfl, hx⟩, e⟩ := parts_ok (β := β) d r first to (h.set nx (newB [.int .u64 r.a, .int .i64 r.c, .bool r.w])) (nx + 1) h0 h1 h2
  obtain ⟨v, H2, NX2, hq, e2⟩ := hcall H NX (hx0.trans hx)
  rw [← hc] at e e2
  have hd2 : H.get bd = some (newB [fd]) := by rw [(hx0.trans hx).get bd hbd]; exact hd
  have hall := pieces_ext (hx0.trans hx) hq
  simp only [newB, cellsT_cons, cellsT_nil, Nat.zero_add, Nat.reduceAdd, List.length_cons, List.length_nil, rgCV] at e e2 hd hf hd2
  simp only [cellsT_cons, cellsT_nil, Nat.zero_add, Nat.reduceAdd]
  unfold c54
  refine CG.seq ?_
  apply CG.reg
  · intro k
    simp (maxSteps := 2000000) (disch := first | decide | omega | rfl) only [s54_0, ↓runS_op, ↓runS_nil, ↓optK_some, optK_some, ↓putT_some, ↓grd_true, grd_true, T.get_same, T.get_other, ↓evO_tmp, ↓grd_blt, grd_blt, ↓evO_const, ofValue, Nat.add_zero, Nat.zero_add, Nat.reduceAdd, ↓ev_assign, ↓ev_box1, ↓boxK_int, ↓boxK_bool, ↓boxK_rg, ↓boxK_a3, ↓boxK_a4, ↓boxK_slice, ↓boxK_nilslice, ↓boxK_fn, List.length_cons, List.length_nil, newB, cellsT_cons, cellsT_nil, ↓natOf_nat, natOf_nat, ↓natOf_0, natOf_0, ↓natOf_1, natOf_1, ↓natOf_2, natOf_2]
    exact rfl
  refine CG.seq ?_
  apply CG.draw dr54_1.1 dr54_1.2.1 dr54_1.2.2.1 dr54_1.2.2.2
  · intro k
    simp (maxSteps := 2000000) (disch := first | decide | omega | rfl) only [dl54_1, ol54_1, pp54_1, ↓runS_op, ↓runS_nil, ↓optK_some, optK_some, ↓putT_some, ↓grd_true, grd_true, T.get_same, T.get_other, ↓evO_tmp, ↓grd_blt, grd_blt, Nat.add_zero, Nat.zero_add, Nat.reduceAdd, ↓ev_assign, ↓ev_extract, List.getElem?_cons_zero, List.getElem?_cons_succ, ↓ev_call, ↓evOs_cons, ↓evOs_nil, ↓notMap_fn, notMap_fn, ↓evO_func, ↓ldK1_ptr, ↓ldB1_cells, ↓ldKn_ptr, ↓ldBn_cells, ↓read3, read3, ↓read5, read5, List.length_cons, List.length_nil, newB, cellsT_cons, cellsT_nil, ↓ld80, ↓ld38, ↓ld23, ↓drawD_op, ↓drawD_if, ↓drawD_nil, ↓lookK_nil, ↓lookK_cons, ↓chkD_cons, ↓chkD_nil, ↓nthK_zero, ↓nthK_succ, ↓bothK_true, ↓bothK_false, ↓again_eq, chkD_cons, chkD_nil, nthK_zero, nthK_succ, bothK_true, bothK_false, again_eq, same_int, same_bool, same_ptr, same_slice, same_slicO, same_nilslice, same_rg, same_a3, same_fn0, Bool.and_self, Bool.and_false, Bool.false_and, ↓hd, hd, ↓hf, hf, ↓ht, ht, ↓qt, qt, ↓hd2, hd2, ↓e, e, ↓e2, e2, ↓hnm, hnm, ↓hsm, hsm]
    exact rfl
  refine CG.ret ?_
  exact ⟨_, _, _, hall, fun k => by simp (disch := decide) only [finK_ret, resultsK_tmp, resultsK_nil, rc29, rc38, rc47, resP_ptr, ldKn_ptr, ldBn_cells, read3, read5, read8, newB, cellsT_cons, cellsT_nil, Nat.zero_add, Nat.reduceAdd, retK_one, retK_two, retK_nil, optK_some, T.get_same, T.get_other] <;> rfl⟩
end Go.Proofs.YthdoelcgdgcncaaGreatDoor
/- append of pieces, at lists of regions. -/
namespace Go.Proofs.YthdoelcgdgcncaaGreatDoor
open Go Go.Can
variable {β : Type}

noncomputable def flat : List Rg → List CV
  | [] => []
  | r :: l => .int .u64 r.a :: .int .i64 r.c :: .bool r.w :: flat l

theorem flat_len : ∀ l : List Rg, (flat l).length = l.length * 3
  | [] => by rw [flat]; rfl
  | r :: l => by rw [flat]; simp only [List.length_cons, flat_len l]; omega
theorem flat_one : ∀ l : List Rg, (flat l).all CV.one = true
  | [] => by rw [flat]; rfl
  | r :: l => by rw [flat]; simp only [List.all_cons, flat_one l]; rfl
theorem flat_app : ∀ (l m : List Rg), flat (l ++ m) = flat l ++ flat m
  | [], m => by rw [flat]; rfl
  | r :: l, m => by rw [List.cons_append, flat, flat, flat_app l m]; rfl
theorem flat_get : ∀ (l : List Rg) (i : Nat) (r : Rg), l[i]? = some r → (flat l)[i * 3]? = some (.int .u64 r.a) ∧ (flat l)[i * 3 + 1]? = some (.int .i64 r.c) ∧ (flat l)[i * 3 + 2]? = some (.bool r.w)
  | x :: l, 0, r, h => by simp at h; subst h; rw [flat]; exact ⟨rfl, rfl, rfl⟩
  | x :: l, i + 1, r, h => by
    obtain ⟨h1, h2, h3⟩ := flat_get l i r (by simpa using h)
    rw [flat, show (i + 1) * 3 = i * 3 + 3 by omega]
    exact ⟨h1, h2, h3⟩

theorem regC_flat (l : List Rg) : RegC (cellsT (flat l) 0 .nil) l := fun i r hi => by
  obtain ⟨h1, h2, h3⟩ := flat_get l i r hi
  have hl := flat_len l
  have hil := (List.getElem?_eq_some_iff.1 hi).1
  refine ⟨?_, ?_, ?_⟩
  · rw [cellsT_get, if_pos ⟨by omega, by omega⟩]; exact h1
  · rw [cellsT_get, if_pos ⟨by omega, by omega⟩]; exact h2
  · rw [cellsT_get, if_pos ⟨by omega, by omega⟩]; exact h3

theorem read_flat : ∀ (l : List Rg) (cs : T CV) (o : Nat) (k : List CV → Res β), (∀ (i : Nat) (r : Rg), l[i]? = some r → cs.get (o + i * 3) = some (.int .u64 r.a) ∧ cs.get (o + i * 3 + 1) = some (.int .i64 r.c) ∧ cs.get (o + i * 3 + 2) = some (.bool r.w)) →
    readCells cs (l.length * 3) o k = k (flat l)
  | [], cs, o, k, _ => by rw [flat]; rfl
  | r :: l, cs, o, k, h => by
    obtain ⟨h1, h2, h3⟩ := h 0 r rfl
    simp only [Nat.zero_mul, Nat.add_zero] at h1 h2 h3
    rw [List.length_cons, show (l.length + 1) * 3 = l.length * 3 + 1 + 1 + 1 by omega, readS, h1, optK_some, readS, h2, optK_some, readS, show o + 1 + 1 = o + 2 from rfl, h3, optK_some,
      read_flat l cs (o + 2 + 1) _ (fun i s hs => by
        have := h (i + 1) s (by simpa using hs)
        rw [show o + 2 + 1 + i * 3 = o + (i + 1) * 3 by omega]
        exact this)]
    rw [flat]

theorem ap_eq {h : T Blk} {nx : Nat} {k : K β} (s x : CV) : opBuiltin .append [22, 22] [s, x] tab h nx k = appendOp 3 24 s x h nx k := by
  show grd 96 (Nat.beq 22 22) (tyK tab 22 _) = _
  rw [show Nat.beq 22 22 = true from rfl, grd_true, tyK_eq, ty22, optK_some]
  show tyK tab 38 _ = _
  rw [tyK_eq, ty38, optK_some]
  rfl

/-- what has been gathered -/
def OutQ (h : T Blk) (nx0 nx : Nat) (v : CV) (l : List Rg) : Prop := (v = .nilslice ∧ l = []) ∨ ∃ b cs, v = .slice b 0 l.length (.opn 3) ∧ nx0 ≤ b ∧ b < nx ∧ h.get b = some (.cells (l.length * 3) cs true) ∧ RegC cs l

theorem news_eq {h : T Blk} {b N c : Nat} {cs : T CV} {p : List Rg} (hb : h.get b = some (.cells N cs true)) (hr : RegC cs p) (k : List CV → Nat → Res β) : newsK h 3 (.slice b 0 p.length (.known c)) k = k (flat p) p.length := by
  show blkK h b (fun _ cs _ => readCells cs (p.length * 3) 0 fun l => k l p.length) = _
  unfold blkK
  rw [hb, optK_some]
  exact read_flat p cs 0 _ fun i r hi => by rw [Nat.zero_add]; exact hr i r hi

theorem append_ok {h : T Blk} {nx0 nx b2 N c : Nat} {s : CV} {l p : List Rg} {cs2 : T CV} (hs : OutQ h nx0 nx s l) (h0 : nx0 ≤ nx) (hb2 : h.get b2 = some (.cells N cs2 true)) (hr2 : RegC cs2 p) (hlim : l.length + p.length ≤ 1000) :
    ∃ v h' nx', OutQ h' nx0 nx' v (l ++ p) ∧ nx ≤ nx' ∧ (∀ c, c < nx0 → h'.get c = h.get c) ∧ ∀ k : K β, opBuiltin .append [22, 22] [s, .slice b2 0 p.length (.known c)] tab h nx k = k v h' nx' := by
  rcases hs with ⟨rfl, rfl⟩ | ⟨b, cs, rfl, hb0, hbn, hb, hr⟩
  · cases p with
    | nil =>
      refine ⟨_, h, nx, .inl ⟨rfl, rfl⟩, Nat.le_refl _, fun _ _ => rfl, fun k => ?_⟩
      rw [ap_eq]
      unfold appendOp
      rw [news_eq hb2 hr2]
      rfl
    | cons r p =>
      refine ⟨.slice nx 0 (r :: p).length (.opn 3), h.set nx (newB (flat (r :: p))), nx + 1, .inr ⟨nx, cellsT (flat (r :: p)) 0 .nil, rfl, h0, Nat.lt_succ_self _, ?_, regC_flat _⟩, Nat.le_succ _, fun c hc => T.get_other _ _ (by omega), fun k => ?_⟩
      · rw [T.get_same]
        show some (Blk.cells (flat (r :: p)).length _ true) = _
        rw [flat_len]
        rfl
      · rw [ap_eq]
        unfold appendOp
        rw [news_eq hb2 hr2, natK_eq]
        have hle : Nat.ble (r :: p).length 65536 = true := Nat.ble_eq_true_of_le (by simp at hlim ⊢; omega)
        show grd 90 true (grd 90 (Nat.ble (r :: p).length 65536 && Nat.ble 24 65536) (newCells (flat (r :: p)) h nx fun b h nx => k (.slice b 0 (r :: p).length (.opn 3)) h nx)) = _
        rw [hle, grd_true]
        show grd 90 true _ = _
        rw [grd_true, newCells_eq1 (flat_one _)]
  · cases p with
    | nil =>
      refine ⟨_, h, nx, .inr ⟨b, cs, rfl, hb0, hbn, by rw [List.append_nil]; exact hb, by rw [List.append_nil]; exact hr⟩, Nat.le_refl _, fun _ _ => rfl, fun k => ?_⟩
      rw [ap_eq]
      unfold appendOp
      rw [news_eq hb2 hr2, natK_eq, List.append_nil]
      show grd 90 true (natK (Nat.add l.length 0) fun need => grd 90 (Nat.ble need 65536 && Nat.ble 24 65536) (blkK h b fun m cs rw => _)) = _
      rw [grd_true, natK_eq]
      have hle : Nat.ble (Nat.add l.length 0) 65536 = true := Nat.ble_eq_true_of_le (show l.length + 0 ≤ 65536 by simp at hlim; omega)
      rw [hle]
      show grd 90 true _ = _
      rw [grd_true]
      unfold blkK
      rw [hb, optK_some]
      have hfit : (Nat.beq 3 3 && Nat.ble (Nat.add 0 (Nat.mul (Nat.add l.length 0) 3)) (l.length * 3)) = true := by
        rw [show Nat.beq 3 3 = true from rfl, Bool.true_and]
        exact Nat.ble_eq_true_of_le (show 0 + (l.length + 0) * 3 ≤ l.length * 3 by omega)
      show Bool.rec (motive := fun _ => Res β) _ (k (.slice b 0 l.length (.opn 3)) h nx) (Nat.beq 3 3 && Nat.ble (Nat.add 0 (Nat.mul (Nat.add l.length 0) 3)) (l.length * 3)) = _
      rw [hfit]
    | cons r p =>
      refine ⟨.slice nx 0 (l.length + (r :: p).length) (.opn 3), (h.del b).set nx (newB (flat l ++ flat (r :: p))), nx + 1, .inr ⟨nx, cellsT (flat (l ++ r :: p)) 0 .nil, by rw [List.length_append], h0, Nat.lt_succ_self _, ?_, regC_flat _⟩, Nat.le_succ _, fun c hc => ?_, fun k => ?_⟩
      · rw [T.get_same, ← flat_app]
        show some (Blk.cells (flat (l ++ r :: p)).length _ true) = _
        rw [flat_len]
      · rw [T.get_other _ _ (by omega), T.get_del, if_neg (by omega)]
      · rw [ap_eq]
        unfold appendOp
        rw [news_eq hb2 hr2, natK_eq]
        show grd 90 true (natK (Nat.add l.length (r :: p).length) fun need => grd 90 (Nat.ble need 65536 && Nat.ble 24 65536) (blkK h b fun m cs rw => _)) = _
        rw [grd_true, natK_eq]
        have hle : Nat.ble (Nat.add l.length (r :: p).length) 65536 = true := Nat.ble_eq_true_of_le (show l.length + (r :: p).length ≤ 65536 by omega)
        rw [hle]
        show grd 90 true _ = _
        rw [grd_true]
        unfold blkK
        rw [hb, optK_some]
        have hfit : (Nat.beq 3 3 && Nat.ble (Nat.add 0 (Nat.mul (Nat.add l.length (r :: p).length) 3)) (l.length * 3)) = false := by
          rw [show Nat.beq 3 3 = true from rfl, Bool.true_and]
          cases hq : Nat.ble (Nat.add 0 (Nat.mul (Nat.add l.length (r :: p).length) 3)) (l.length * 3) with
          | false => rfl
          | true =>
            have : 0 + (l.length + (p.length + 1)) * 3 ≤ l.length * 3 := Nat.le_of_ble_eq_true hq
            omega
        show Bool.rec (motive := fun _ => Res β) (readCells cs (l.length * 3) 0 fun old => grd 91 true (grd 92 (Nat.beq 3 3) (h.delK b fun h => newCells (old ++ flat (r :: p)) h nx fun b h nx => k (.slice b 0 (Nat.add l.length (r :: p).length) (.opn 3)) h nx))) _ (Nat.beq 3 3 && Nat.ble (Nat.add 0 (Nat.mul (Nat.add l.length (r :: p).length) 3)) (l.length * 3)) = _
        rw [hfit]
        show readCells cs (l.length * 3) 0 _ = _
        rw [read_flat l cs 0 _ fun i s hi => by rw [Nat.zero_add]; exact hr i s hi]
        rw [grd_true, show Nat.beq 3 3 = true from rfl, grd_true, delK_eq, newCells_eq1 (by rw [List.all_append, flat_one, flat_one]; rfl)]
        rfl
end Go.Proofs.YthdoelcgdgcncaaGreatDoor
/- Walks: cut. -/
namespace Go.Proofs.YthdoelcgdgcncaaGreatDoor
open Go Go.Can
variable {β : Type}

theorem OutQ.ext {h h' : T Blk} {nx0 nx nx' : Nat} {v : CV} {l : List Rg} (e : Ext h nx h' nx') (q : OutQ h nx0 nx v l) : OutQ h' nx0 nx' v l := by
  rcases q with q | ⟨b, cs, h1, h2, h3, h4, h5⟩
  · exact .inl q
  · exact .inr ⟨b, cs, h1, h2, Nat.lt_of_lt_of_le h3 e.le, by rw [e.get b h3]; exact h4, h5⟩

theorem flatMap_take {pc : Rg → List Rg} {l : List Rg} {i : Nat} {r : Rg} (h : l[i]? = some r) : (l.take (i + 1)).flatMap pc = (l.take i).flatMap pc ++ pc r := by
  rw [List.take_add_one, h, List.flatMap_append]
  simp

theorem flatMap_len {pc : Rg → List Rg} (h : ∀ r, (pc r).length ≤ 3) : ∀ l : List Rg, (l.flatMap pc).length ≤ l.length * 3
  | [] => by simp
  | r :: l => by
    have h1 := h r
    have h2 := flatMap_len h l
    rw [List.flatMap_cons, List.length_append, List.length_cons]
    omega

theorem cut_ok (d : Nat) {v g : CV} {pc : Rg → List Rg} {l : List Rg} {h : T Blk} {nx : Nat} (hs : SlR h nx v l) (hl : l.length ≤ 8) (hnm : notMapV g = true) (hpc : ∀ r, (pc r).length ≤ 3)
    (hcall : ∀ r ∈ l, ∀ H NX, Ext h nx H NX → ∃ v' H' NX', PiecesQ H NX (pc r) v' H' NX' ∧ ∀ k : K β, callN tab d g [.agg [.int .u64 r.a, .int .i64 r.c, .bool r.w]] H NX k = k v' H' NX') :
    FG (β := β) tab (d + 1) 53 [v, g] h nx fun v' h' nx' => OutQ h' nx nx' v' (l.flatMap pc) ∧ Ext h nx h' nx' := by
  refine FG.of (fn := Tryz.f53) (c := c53) (n := 21) (rs := [.tmp 4]) (by kernel_rfl) (by kernel_rfl) (by kernel_rfl) c53_ok rfl rfl (by simp) fun call hc => ?_
  rw [← hc] at hcall
  have hlen := fun tys h' nx' k => hs.len (β := β) tys h' nx' k
  obtain ⟨b, o, hel⟩ := hs.elem (β := β)
  simp only [cellsT_cons, cellsT_nil, Nat.zero_add, Nat.reduceAdd]
  unfold c53
  refine CG.seq ?_
  apply CG.reg
  · intro k
    simp (maxSteps := 2000000) (disch := first | decide | omega | rfl) only [s53_0, ↓runS_op, ↓runS_nil, ↓optK_some, optK_some, ↓putT_some, ↓grd_true, grd_true, T.get_same, T.get_other, ↓evO_tmp, ↓grd_blt, grd_blt, ↓evO_const, ofValue, Nat.add_zero, Nat.zero_add, Nat.reduceAdd, ↓ev_assign, ↓natOf_nat, natOf_nat, ↓natOf_0, natOf_0, ↓natOf_1, natOf_1, ↓natOf_2, natOf_2]
    exact rfl
  refine CG.seq ?_
  apply CG.reg
  · intro k
    simp (maxSteps := 2000000) (disch := first | decide | omega | rfl) only [s53_1, ↓runS_op, ↓runS_nil, ↓optK_some, optK_some, ↓putT_some, ↓grd_true, grd_true, T.get_same, T.get_other, ↓evO_tmp, ↓grd_blt, grd_blt, ↓evO_const, ofValue, Nat.add_zero, Nat.zero_add, Nat.reduceAdd, ↓ev_assign, ↓natOf_nat, natOf_nat, ↓natOf_0, natOf_0, ↓natOf_1, natOf_1, ↓natOf_2, natOf_2]
    exact rfl
  refine CG.seq ?_
  refine CG.seq ?_
  apply CG.reg
  · intro k
    simp (maxSteps := 2000000) (disch := first | decide | omega | rfl) only [s53_2, ↓runS_op, ↓runS_nil, ↓optK_some, optK_some, ↓putT_some, ↓grd_true, grd_true, T.get_same, T.get_other, ↓evO_tmp, ↓grd_blt, grd_blt, ↓evO_const, ofValue, ↓ev_move, ↓ev_builtin, ↓evOs_cons, ↓evOs_nil, ↓ln22, ln22, ↓lz22, lz22, ↓ln116, ln116, ↓lz116, lz116, ↓hlen, hlen]
    exact rfl
  refine CG.block ?_
  refine CG.loop (fun m t h' nx' => ∃ (i : Nat) (s : CV), i ≤ l.length ∧ m = l.length - i ∧ t.get 1 = some g ∧ t.get 5 = some s ∧ t.get 8 = some v ∧ t.get 9 = some (.int .i64 (l.length : Int)) ∧ t.get 10 = some (.int .i64 (i : Int)) ∧
    OutQ h' nx nx' s ((l.take i).flatMap pc) ∧ Ext h nx h' nx') ?_ (m := l.length) (by omega) ?_
  rotate_left
  · exact ⟨0, .nilslice, by omega, by omega, by simp (maxSteps := 2000000) (disch := first | decide | omega | rfl) only [T.get_same, T.get_other] <;> rfl, by simp (maxSteps := 2000000) (disch := first | decide | omega | rfl) only [T.get_same, T.get_other] <;> rfl, by simp (maxSteps := 2000000) (disch := first | decide | omega | rfl) only [T.get_same, T.get_other] <;> rfl, by simp (maxSteps := 2000000) (disch := first | decide | omega | rfl) only [T.get_same, T.get_other] <;> rfl, by simp (maxSteps := 2000000) (disch := first | decide | omega | rfl) only [T.get_same, T.get_other] <;> rfl, .inl ⟨rfl, rfl⟩, .refl _ _⟩
  rintro m t h' nx' ⟨i, s, hi, rfl, e1, e5, e8, e9, e10, hq, hx⟩
  refine CG.seq ?_
  by_cases hend : i = l.length
  · subst hend
    rw [List.take_length] at hq
    have c1 : decide ((l.length : Int) < (l.length : Int)) = false := by simp
    apply CG.reg
    · intro k
      simp (maxSteps := 2000000) (disch := first | decide | omega | rfl) only [s53_3, ↓runS_op, ↓runS_nil, ↓optK_some, optK_some, ↓putT_some, ↓grd_true, grd_true, T.get_same, T.get_other, ↓evO_tmp, ↓grd_blt, grd_blt, ↓ev_bin, ↓binCV_eq, binCV_eq, binR, ↓e9, e9, ↓e10, e10, ↓c1, c1]
      exact rfl
    refine CG.seq ?_
    refine CG.cond_false (fun k => by simp (maxSteps := 2000000) (disch := first | decide | omega | rfl) only [evO_tmp, optK_some, T.get_same, T.get_other] <;> rfl) ?_
    refine CG.exit ?_
    simp only [if_pos]
    refine CG.seq ?_
    apply CG.reg
    · intro k
      simp (maxSteps := 2000000) (disch := first | decide | omega | rfl) only [s53_7, ↓runS_op, ↓runS_nil, ↓optK_some, optK_some, ↓putT_some, ↓grd_true, grd_true, T.get_same, T.get_other, ↓evO_tmp, ↓grd_blt, grd_blt, ↓ev_move, ↓ev_assign, ↓e5, e5]
      exact rfl
    refine CG.ret ?_
    exact ⟨_, _, _, ⟨hq, hx⟩, fun k => by simp (disch := decide) only [finK_ret, resultsK_tmp, resultsK_nil, rc29, rc38, rc47, resP_ptr, ldKn_ptr, ldBn_cells, read3, read5, read8, newB, cellsT_cons, cellsT_nil, Nat.zero_add, Nat.reduceAdd, retK_one, retK_two, retK_nil, optK_some, T.get_same, T.get_other] <;> rfl⟩
  · have hlt : i < l.length := by omega
    obtain ⟨r, hri⟩ : ∃ r, l[i]? = some r := ⟨l[i], List.getElem?_eq_getElem hlt⟩
    obtain ⟨hb, hix, n, cs, rw, hbk, g0, g1, g2⟩ := hel i r hri
    have hb' : h'.get b = some (.cells n cs rw) := by rw [hx.get b hb]; exact hbk
    have hle := hx.le
    have hx1 : Ext h' nx' ((h'.set nx' (newB [.int .u64 0, .int .i64 0, .bool false])).set nx' (.cells 3 ((((((T.nil.set 0 (.int .u64 0)).set 1 (.int .i64 0)).set 2 (.bool false)).set 0 (.int .u64 r.a)).set 1 (.int .i64 r.c)).set 2 (.bool r.w)) true)) (nx' + 1) := (Ext.refl h' nx').new.set (by omega)
    obtain ⟨v', H2, NX2, ⟨b2, N2, cs2, c2, rfl, hbb, hbl, hbg, hrc, hx2⟩, e⟩ := hcall r (List.mem_of_getElem? hri) _ _ (hx.trans hx1)
    have hx12 := hx1.trans hx2
    have hlen1 := flatMap_len hpc (l.take i)
    have hlen2 := hpc r
    have hti : (l.take i).length ≤ 8 := by simp; omega
    obtain ⟨v3, h3, nx3, hq3, hle3, hfr, ea⟩ := append_ok (β := β) (c := c2) (hq.ext hx12) (by have := hx12.le; omega) hbg hrc (by omega)
    have hall : Ext h nx h3 nx3 := ⟨by have := hx12.le; omega, fun c hc => by rw [hfr c hc]; exact (hx.trans hx12).get c hc⟩
    simp only [newB, cellsT_cons, cellsT_nil, Nat.zero_add, Nat.reduceAdd, List.length_cons, List.length_nil] at e
    have c1 : decide ((i : Int) < (l.length : Int)) = true := by simp; omega
    have w1 : IntKind.i64.wrap ((i : Int) + 1) = ((i + 1 : Nat) : Int) := by rw [wrap_i64 (by omega) (by omega)]; omega
    apply CG.reg
    · intro k
      simp (maxSteps := 2000000) (disch := first | decide | omega | rfl) only [s53_3, ↓runS_op, ↓runS_nil, ↓optK_some, optK_some, ↓putT_some, ↓grd_true, grd_true, T.get_same, T.get_other, ↓evO_tmp, ↓grd_blt, grd_blt, ↓ev_bin, ↓binCV_eq, binCV_eq, binR, ↓e9, e9, ↓e10, e10, ↓c1, c1]
      exact rfl
    refine CG.seq ?_
    refine CG.cond_true (fun k => by simp (maxSteps := 2000000) (disch := first | decide | omega | rfl) only [evO_tmp, optK_some, T.get_same, T.get_other] <;> rfl) ?_
    refine CG.skip ?_
    refine CG.seq ?_
    refine CG.block ?_
    refine CG.seq ?_
    apply CG.reg
    · intro k
      simp (maxSteps := 2000000) (disch := first | decide | omega | rfl) only [s53_4, ↓runS_op, ↓runS_nil, ↓optK_some, optK_some, ↓putT_some, ↓grd_true, grd_true, T.get_same, T.get_other, ↓evO_tmp, ↓grd_blt, grd_blt, ↓putT_none, Nat.add_zero, Nat.zero_add, Nat.reduceAdd, ↓ldK1_ptr, ↓ldB1_cells, ↓ldKn_ptr, ↓ldBn_cells, ↓read3, read3, ↓read5, read5, List.length_cons, List.length_nil, newB, cellsT_cons, cellsT_nil, ↓ptrOf_ptr, ↓stK_eq, ↓stB_cells, ↓grd_beq, grd_beq, ↓grd_ble, grd_ble, Bool.true_and, Bool.and_true, cells_int, cells_bool, cells_agg, cells_slice, cells_nilslice, cells_fn, cells_nilfn, cells_ptr, ↓natOf_nat, natOf_nat, ↓natOf_0, natOf_0, ↓natOf_1, natOf_1, ↓natOf_2, natOf_2, ↓ixK_sl, ixK_sl, ↓ixK_ar, ixK_ar, Nat.zero_mul, Nat.one_mul, Nat.mul_one, Nat.reduceMul, ↓ld38, ↓st38, ↓al38, ↓ix22, ↓e8, e8, ↓e10, e10, ↓hix, hix, hb', ↓g0, g0, ↓g1, g1, ↓g2, g2]
      exact rfl
    apply CG.reg
    · intro k
      simp (maxSteps := 2000000) (disch := first | decide | omega | rfl) only [s53_5, ↓runS_op, ↓runS_nil, ↓optK_some, optK_some, ↓putT_some, ↓grd_true, grd_true, T.get_same, T.get_other, ↓evO_tmp, ↓grd_blt, grd_blt, Nat.add_zero, Nat.zero_add, Nat.reduceAdd, ↓ev_move, ↓ev_assign, ↓ev_call, ↓evOs_cons, ↓evOs_nil, ↓notMap_fn, notMap_fn, ↓evO_func, List.getElem?_cons_zero, List.getElem?_cons_succ, ↓ev_builtin, ↓stB_cells, ↓grd_beq, grd_beq, ↓grd_ble, grd_ble, List.length_cons, List.length_nil, newB, cellsT_cons, cellsT_nil, ↓ldK1_ptr, ↓ldB1_cells, ↓ldKn_ptr, ↓ldBn_cells, ↓read3, read3, ↓read5, read5, ↓ld38, ↓e1, e1, ↓e5, e5, ↓hnm, hnm, ↓e, e, ↓ea, ea]
      exact rfl
    apply CG.reg
    · intro k
      simp (maxSteps := 2000000) (disch := first | decide | omega | rfl) only [s53_6, ↓runS_op, ↓runS_nil, ↓optK_some, optK_some, ↓putT_some, ↓grd_true, grd_true, T.get_same, T.get_other, ↓evO_tmp, ↓grd_blt, grd_blt, ↓evO_const, ofValue, ↓ev_move, ↓ev_bin, ↓binCV_eq, binCV_eq, binR, ↓e10, e10, ↓w1, w1]
      exact rfl
    exact ⟨l.length - (i + 1), by omega, i + 1, v3, by omega, rfl, by simp (maxSteps := 2000000) (disch := first | decide | omega | rfl) only [e1, T.get_same, T.get_other] <;> rfl, by simp (maxSteps := 2000000) (disch := first | decide | omega | rfl) only [T.get_same, T.get_other] <;> rfl, by simp (maxSteps := 2000000) (disch := first | decide | omega | rfl) only [e8, T.get_same, T.get_other] <;> rfl, by simp (maxSteps := 2000000) (disch := first | decide | omega | rfl) only [e9, T.get_same, T.get_other] <;> rfl, by simp (maxSteps := 2000000) (disch := first | decide | omega | rfl) only [T.get_same, T.get_other] <;> rfl, by rw [flatMap_take hri]; exact hq3, hall⟩
end Go.Proofs.YthdoelcgdgcncaaGreatDoor
/- Walks: change. -/
namespace Go.Proofs.YthdoelcgdgcncaaGreatDoor
open Go Go.Can
variable {β : Type}

/-- what Unmap and Protect come to: the error, the regions -/
def chg (l : List Rg) (first c : Int) (pc : Rg → List Rg) : Int × List Rg :=
  if valid l then if wholeL l first c then if (l.flatMap pc).length ≤ 8 then (0, l.flatMap pc) else (20, []) else (190, []) else (2, [])

theorem change_ok (d : Nat) {v fd : CV} {pc : Rg → Rg → Rg → List Rg} {l : List Rg} {h : T Blk} {nx : Nat} {first c : Int} (hs : SlR h nx v l) (hok : ∀ r ∈ l, r.ok) (hx0 : 0 ≤ first) (hx1 : first < 18446744073709551616)
    (hc0 : -9223372036854775808 ≤ c) (hc1 : c < 9223372036854775808) (hnm : notMapV fd = true) (hsm : CV.same fd fd = true) (hbox : ∀ (h : T Blk) (nx : Nat) (k : K β), boxK fd h nx k = k (.ptr nx 0) (h.set nx (newB [fd])) (nx + 1)) (hpc : ∀ r s u, (pc r s u).length ≤ 3)
    (hcall : ∀ r s u H NX, Ext h nx H NX → ∃ v' H' NX', PiecesQ H NX (pc r s u) v' H' NX' ∧ ∀ k : K β, callN tab (d + 5) fd [rgCV r, rgCV s, rgCV u] H NX k = k v' H' NX') :
    FG (β := β) tab (d + 8) 22 [v, .int .u64 first, .int .i64 c, fd] h nx fun v' h' nx' => ∃ u, v' = .tup [u, .int .i64 (chg l first c fun r => pc (pAhead r first (first + c)) (pIn r first (first + c)) (pRest r first (first + c))).1] ∧
      OutQ h' nx nx' u (chg l first c fun r => pc (pAhead r first (first + c)) (pIn r first (first + c)) (pRest r first (first + c))).2 ∧ Ext h nx h' nx' := by
  refine FG.of (fn := Tryz.f22) (c := c22) (n := 34) (rs := [.tmp 8, .tmp 9]) (by kernel_rfl) (by kernel_rfl) (by kernel_rfl) c22_ok rfl rfl (by simp) fun call hc => ?_
  have hA : Ext h nx ((h.set nx (newB [.int .u64 first])).set (nx + 1) (newB [fd])) (nx + 1 + 1) := (Ext.refl h nx).new.new
  generalize hh2 : (h.set nx (newB [.int .u64 first])).set (nx + 1) (newB [fd]) = h2 at hA
  obtain ⟨_, H, NX, ⟨rfl, hx⟩, e⟩ := check_ok (β := β) (d + 5) (hs.ext hA) hok
  rw [show d + 5 + 2 = d + 7 from rfl, ← hc] at e
  have hX := hA.trans hx
  have gf : H.get nx = some (newB [.int .u64 first]) := by rw [hx.get _ (by omega), ← hh2, T.get_other _ _ (by omega), T.get_same]
  have hle := hx.le
  simp only [newB, cellsT_cons, cellsT_nil, Nat.zero_add, Nat.reduceAdd, List.length_cons, List.length_nil] at gf
  simp only [newB, cellsT_cons, cellsT_nil, Nat.zero_add, Nat.reduceAdd, List.length_cons, List.length_nil] at hh2
  simp only [cellsT_cons, cellsT_nil, Nat.zero_add, Nat.reduceAdd]
  unfold c22
  refine CG.seq ?_
  apply CG.reg
  · intro k
    simp (maxSteps := 2000000) (disch := first | decide | omega | rfl) only [s22_0, ↓runS_op, ↓runS_nil, ↓optK_some, optK_some, ↓putT_some, ↓grd_true, grd_true, T.get_same, T.get_other, ↓evO_tmp, ↓grd_blt, grd_blt, ↓evO_const, ofValue, Nat.add_zero, Nat.zero_add, Nat.reduceAdd, ↓ev_assign, ↓ev_box1, ↓boxK_int, ↓boxK_bool, ↓boxK_rg, ↓boxK_a3, ↓boxK_a4, ↓boxK_slice, ↓boxK_nilslice, ↓boxK_fn, List.length_cons, List.length_nil, newB, cellsT_cons, cellsT_nil, ↓natOf_nat, natOf_nat, ↓natOf_0, natOf_0, ↓natOf_1, natOf_1, ↓natOf_2, natOf_2, ↓hbox, hbox, ↓hh2, hh2]
    exact rfl
  refine CG.seq ?_
  refine CG.seq ?_
  apply CG.reg
  · intro k
    simp (maxSteps := 2000000) (disch := first | decide | omega | rfl) only [s22_1, ↓runS_op, ↓runS_nil, ↓optK_some, optK_some, ↓putT_some, ↓grd_true, grd_true, T.get_same, T.get_other, ↓evO_tmp, ↓grd_blt, grd_blt, ↓ev_move, ↓ev_assign, ↓ev_call, ↓evOs_cons, ↓evOs_nil, ↓notMap_fn, notMap_fn, ↓evO_func, List.getElem?_cons_zero, List.getElem?_cons_succ, ↓e, e]
    exact rfl
  refine CG.seq ?_
  cases hv : valid l with
  | false =>
    have c1 : decide (errB false = 0) = false := rfl
    rw [hv] at e
    apply CG.reg
    · intro k
      simp (maxSteps := 2000000) (disch := first | decide | omega | rfl) only [s22_2, ↓runS_op, ↓runS_nil, ↓optK_some, optK_some, ↓putT_some, ↓grd_true, grd_true, T.get_same, T.get_other, ↓evO_tmp, ↓grd_blt, grd_blt, ↓evO_const, ofValue, ↓ev_move, ↓ev_bin, ↓binCV_eq, binCV_eq, binR, ↓c1, c1]
      exact rfl
    refine CG.cond_true (fun k => by simp (maxSteps := 2000000) (disch := first | decide | omega | rfl) only [evO_tmp, optK_some, T.get_same, T.get_other] <;> rfl) ?_
    refine CG.seq ?_
    apply CG.reg
    · intro k
      simp (maxSteps := 2000000) (disch := first | decide | omega | rfl) only [s22_3, ↓runS_op, ↓runS_nil, ↓optK_some, optK_some, ↓putT_some, ↓grd_true, grd_true, T.get_same, T.get_other, ↓evO_tmp, ↓grd_blt, grd_blt, ↓evO_const, ofValue, Nat.add_zero, Nat.zero_add, Nat.reduceAdd, ↓ev_move, ↓ev_assign, ↓natOf_nat, natOf_nat, ↓natOf_0, natOf_0, ↓natOf_1, natOf_1, ↓natOf_2, natOf_2]
      exact rfl
    refine CG.ret ?_
    have hch : ∀ pc, chg l first c pc = (2, []) := fun pc => by unfold chg; rw [hv]; rfl
    refine ⟨_, _, _, ⟨_, ?_, .inl ⟨rfl, by rw [hch]⟩, hX⟩, fun k => by simp (disch := decide) only [finK_ret, resultsK_tmp, resultsK_nil, rc29, rc38, rc47, resP_ptr, ldKn_ptr, ldBn_cells, read3, read5, read8, newB, cellsT_cons, cellsT_nil, Nat.zero_add, Nat.reduceAdd, retK_one, retK_two, retK_nil, optK_some, T.get_same, T.get_other] <;> rfl⟩
    rw [hch]; rfl
  | true =>
    have c1 : decide (errB true = 0) = true := rfl
    rw [hv] at e
    apply CG.reg
    · intro k
      simp (maxSteps := 2000000) (disch := first | decide | omega | rfl) only [s22_2, ↓runS_op, ↓runS_nil, ↓optK_some, optK_some, ↓putT_some, ↓grd_true, grd_true, T.get_same, T.get_other, ↓evO_tmp, ↓grd_blt, grd_blt, ↓evO_const, ofValue, ↓ev_move, ↓ev_bin, ↓binCV_eq, binCV_eq, binR, ↓c1, c1]
      exact rfl
    refine CG.cond_false (fun k => by simp (maxSteps := 2000000) (disch := first | decide | omega | rfl) only [evO_tmp, optK_some, T.get_same, T.get_other] <;> rfl) ?_
    refine CG.skip ?_
    refine CG.seq ?_
    refine CG.seq ?_
    obtain ⟨_, H2, NX2, ⟨rfl, hx2⟩, e2⟩ := whole_ok (β := β) (d + 1) (hs.ext hX) hok hx0 hx1 hc0 hc1
    rw [show d + 1 + 6 = d + 7 by omega, ← hc] at e2
    have hX2 := hX.trans hx2
    have hle2 := hx2.le
    cases hw : wholeL l first c with
    | false =>
      rw [hw] at e2
      apply CG.reg
      · intro k
        simp (maxSteps := 2000000) (disch := first | decide | omega | rfl) only [s22_4, ↓runS_op, ↓runS_nil, ↓optK_some, optK_some, ↓putT_some, ↓grd_true, grd_true, T.get_same, T.get_other, ↓evO_tmp, ↓grd_blt, grd_blt, Nat.add_zero, Nat.zero_add, Nat.reduceAdd, ↓ev_move, ↓ev_not, Bool.not_true, Bool.not_false, ↓ev_call, ↓evOs_cons, ↓evOs_nil, ↓notMap_fn, notMap_fn, ↓evO_func, List.getElem?_cons_zero, List.getElem?_cons_succ, ↓ldK1_ptr, ↓ldB1_cells, ↓ldKn_ptr, ↓ldBn_cells, ↓read3, read3, ↓read5, read5, List.length_cons, List.length_nil, newB, cellsT_cons, cellsT_nil, ↓ld23, ↓gf, gf, ↓e2, e2]
        exact rfl
      refine CG.cond_true (fun k => by simp (maxSteps := 2000000) (disch := first | decide | omega | rfl) only [evO_tmp, optK_some, T.get_same, T.get_other] <;> rfl) ?_
      refine CG.seq ?_
      apply CG.reg
      · intro k
        simp (maxSteps := 2000000) (disch := first | decide | omega | rfl) only [s22_5, ↓runS_op, ↓runS_nil, ↓optK_some, optK_some, ↓putT_some, ↓grd_true, grd_true, T.get_same, T.get_other, ↓evO_tmp, ↓grd_blt, grd_blt, ↓evO_const, ofValue, Nat.add_zero, Nat.zero_add, Nat.reduceAdd, ↓ev_assign, ↓natOf_nat, natOf_nat, ↓natOf_0, natOf_0, ↓natOf_1, natOf_1, ↓natOf_2, natOf_2]
        exact rfl
      refine CG.ret ?_
      have hch : ∀ pc, chg l first c pc = (190, []) := fun pc => by unfold chg; rw [hv, hw]; rfl
      refine ⟨_, _, _, ⟨_, ?_, .inl ⟨rfl, by rw [hch]⟩, hX2⟩, fun k => by simp (disch := decide) only [finK_ret, resultsK_tmp, resultsK_nil, rc29, rc38, rc47, resP_ptr, ldKn_ptr, ldBn_cells, read3, read5, read8, newB, cellsT_cons, cellsT_nil, Nat.zero_add, Nat.reduceAdd, retK_one, retK_two, retK_nil, optK_some, T.get_same, T.get_other] <;> rfl⟩
      rw [hch]
    | true =>
      rw [hw] at e2
      apply CG.reg
      · intro k
        simp (maxSteps := 2000000) (disch := first | decide | omega | rfl) only [s22_4, ↓runS_op, ↓runS_nil, ↓optK_some, optK_some, ↓putT_some, ↓grd_true, grd_true, T.get_same, T.get_other, ↓evO_tmp, ↓grd_blt, grd_blt, Nat.add_zero, Nat.zero_add, Nat.reduceAdd, ↓ev_move, ↓ev_not, Bool.not_true, Bool.not_false, ↓ev_call, ↓evOs_cons, ↓evOs_nil, ↓notMap_fn, notMap_fn, ↓evO_func, List.getElem?_cons_zero, List.getElem?_cons_succ, ↓ldK1_ptr, ↓ldB1_cells, ↓ldKn_ptr, ↓ldBn_cells, ↓read3, read3, ↓read5, read5, List.length_cons, List.length_nil, newB, cellsT_cons, cellsT_nil, ↓ld23, ↓gf, gf, ↓e2, e2]
        exact rfl
      refine CG.cond_false (fun k => by simp (maxSteps := 2000000) (disch := first | decide | omega | rfl) only [evO_tmp, optK_some, T.get_same, T.get_other] <;> rfl) ?_
      refine CG.skip ?_
      refine CG.seq ?_
      have hoe : okE first c = true := by
        unfold wholeL at hw
        simp only [Bool.and_eq_true] at hw
        exact hw.1.1
      obtain ⟨o1, o2, o3⟩ := okE_iff.1 hoe
      have w1 : IntKind.u64.wrap c = c := wrap_u64 (by omega) (by omega)
      have w2 : IntKind.u64.wrap (first + c) = first + c := wrap_u64 (by omega) (by omega)
      have gf2 : H2.get nx = some (.cells 1 (T.nil.set 0 (.int .u64 first)) true) := by rw [hx2.get _ (by omega)]; exact gf
      have gd : H.get (nx + 1) = some (newB [fd]) := by
        rw [hx.get _ (by omega), ← hh2, T.get_same]; rfl
      have gd2 : H2.get (nx + 1) = some (newB [fd]) := by rw [hx2.get _ (by omega)]; exact gd
      apply CG.reg
      · intro k
        simp (maxSteps := 2000000) (disch := first | decide | omega | rfl) only [s22_6, ↓runS_op, ↓runS_nil, ↓optK_some, optK_some, ↓putT_some, ↓grd_true, grd_true, T.get_same, T.get_other, ↓evO_tmp, ↓grd_blt, grd_blt, ↓putT_none, Nat.add_zero, Nat.zero_add, Nat.reduceAdd, ↓ev_move, ↓ev_bin, ↓binCV_eq, binCV_eq, binR, ↓ldK1_ptr, ↓ldB1_cells, ↓ldKn_ptr, ↓ldBn_cells, ↓read3, read3, ↓read5, read5, List.length_cons, List.length_nil, newB, cellsT_cons, cellsT_nil, ↓ptrOf_ptr, ↓stK_eq, ↓stB_cells, ↓grd_beq, grd_beq, ↓grd_ble, grd_ble, Bool.true_and, Bool.and_true, cells_int, cells_bool, cells_agg, cells_slice, cells_nilslice, cells_fn, cells_nilfn, cells_ptr, ↓convK_int, convK_int, ↓ld23, ↓st23, ↓al23, ↓cn3_23, ↓gf2, gf2, ↓w1, w1, ↓w2, w2]
        exact rfl
      refine CG.seq ?_
      have hx3 : Ext H2 NX2 ((H2.set NX2 (newB [.int .u64 0])).set NX2 (.cells 1 ((T.nil.set 0 (.int .u64 0)).set 0 (.int .u64 (first + c))) true)) (NX2 + 1) := (Ext.refl H2 NX2).new.set (by omega)
      have hX3 := hX2.trans hx3
      obtain ⟨u, H4, NX4, ⟨hq, hx4⟩, e4⟩ := cut_ok (β := β) (d + 6) (g := .fn 54 [] [.ptr (nx + 1) 0, .ptr nx 0, .ptr NX2 0]) (pc := fun r => pc (pAhead r first (first + c)) (pIn r first (first + c)) (pRest r first (first + c))) (hs.ext hX3) (valid_len hv) rfl (fun r => hpc _ _ _)
        (fun r hr H5 NX5 hx5 => by
          have h1 := okE_iff.1 (chain_all 0 l (valid_chain hv) r hr)
          have h2 := chain_from 0 l (valid_chain hv) r hr
          have hle5 := hx5.le
          obtain ⟨v', H6, NX6, hq6, e6⟩ := change1_ok (β := β) (d + 3) (r := r) (first := first) (to := first + c) (fd := fd) (pc := pc (pAhead r first (first + c)) (pIn r first (first + c)) (pRest r first (first + c))) (h := H5) (nx := NX5) (bd := nx + 1) (bf := nx) (bt := NX2)
            (by rw [hx5.get _ (by omega), T.get_other _ _ (by omega), T.get_other _ _ (by omega)]; exact gd2)
            (by rw [hx5.get _ (by omega), T.get_other _ _ (by omega), T.get_other _ _ (by omega)]; exact gf2)
            (by rw [hx5.get _ (by omega), T.get_same]) (T.get_same _ _ _) (by omega) (by omega) (by omega) hnm hsm (by omega) (by omega) (by omega)
            (fun H7 NX7 hx7 => hcall _ _ _ H7 NX7 ((hX3.trans hx5).trans hx7))
          exact ⟨v', H6, NX6, hq6, fun k => by rw [call_cap]; exact e6 k⟩)
      rw [show d + 6 + 1 = d + 7 from rfl, ← hc] at e4
      have hq' : OutQ H4 nx NX4 u (l.flatMap fun r => pc (pAhead r first (first + c)) (pIn r first (first + c)) (pRest r first (first + c))) := by
        rcases hq with q | ⟨b, cs, q1, q2, q3⟩
        · exact .inl q
        · exact .inr ⟨b, cs, q1, by have := hX3.le; omega, q3⟩
      have hX4 := hX3.trans hx4
      simp only [newB, cellsT_cons, cellsT_nil, Nat.zero_add, Nat.reduceAdd, List.length_cons, List.length_nil] at e4
      apply CG.reg
      · intro k
        simp (maxSteps := 2000000) (disch := first | decide | omega | rfl) only [s22_7, ↓runS_op, ↓runS_nil, ↓optK_some, optK_some, ↓putT_some, ↓grd_true, grd_true, T.get_same, T.get_other, ↓evO_tmp, ↓grd_blt, grd_blt, ↓ev_move, ↓ev_assign, ↓ev_call, ↓evOs_cons, ↓evOs_nil, ↓notMap_fn, notMap_fn, ↓evO_func, List.getElem?_cons_zero, List.getElem?_cons_succ, ↓ev_mkfunc, ↓e4, e4]
        exact rfl
      refine CG.seq ?_
      refine CG.seq ?_
      generalize hout : (l.flatMap fun r => pc (pAhead r first (first + c)) (pIn r first (first + c)) (pRest r first (first + c))) = out at hq'
      have hlen : ∀ (tys : List TypeId) (h' : T Blk) (nx' : Nat) (k : K β), opBuiltin .len (22 :: tys) [u] tab h' nx' k = k (.int .i64 (out.length : Int)) h' nx' := by
        intro tys h' nx' k
        rcases hq' with ⟨rfl, rfl⟩ | ⟨b, cs, rfl, _⟩
        · exact lz22 tys
        · exact ln22 tys b 0 _ _
      by_cases h8 : out.length ≤ 8
      · have c2 : decide ((8 : Int) < (out.length : Int)) = false := by simp; omega
        have hch : chg l first c (fun r => pc (pAhead r first (first + c)) (pIn r first (first + c)) (pRest r first (first + c))) = (0, out) := by
          unfold chg; rw [hv, hw, hout]; simp [h8]
        apply CG.reg
        · intro k
          simp (maxSteps := 2000000) (disch := first | decide | omega | rfl) only [s22_8, ↓runS_op, ↓runS_nil, ↓optK_some, optK_some, ↓putT_some, ↓grd_true, grd_true, T.get_same, T.get_other, ↓evO_tmp, ↓grd_blt, grd_blt, ↓evO_const, ofValue, ↓ev_move, ↓ev_bin, ↓binCV_eq, binCV_eq, binR, ↓ev_builtin, ↓evOs_cons, ↓evOs_nil, ↓ln22, ln22, ↓lz22, lz22, ↓ln116, ln116, ↓lz116, lz116, ↓hlen, hlen, ↓c2, c2]
          exact rfl
        refine CG.cond_false (fun k => by simp (maxSteps := 2000000) (disch := first | decide | omega | rfl) only [evO_tmp, optK_some, T.get_same, T.get_other] <;> rfl) ?_
        refine CG.skip ?_
        refine CG.seq ?_
        apply CG.reg
        · intro k
          simp (maxSteps := 2000000) (disch := first | decide | omega | rfl) only [s22_10, ↓runS_op, ↓runS_nil, ↓optK_some, optK_some, ↓putT_some, ↓grd_true, grd_true, T.get_same, T.get_other, ↓evO_tmp, ↓grd_blt, grd_blt, ↓evO_const, ofValue, ↓ev_move, ↓ev_assign]
          exact rfl
        refine CG.ret ?_
        refine ⟨_, _, _, ⟨u, ?_, by rw [hch]; exact hq', hX4⟩, fun k => by simp (disch := decide) only [finK_ret, resultsK_tmp, resultsK_nil, rc29, rc38, rc47, resP_ptr, ldKn_ptr, ldBn_cells, read3, read5, read8, newB, cellsT_cons, cellsT_nil, Nat.zero_add, Nat.reduceAdd, retK_one, retK_two, retK_nil, optK_some, T.get_same, T.get_other] <;> rfl⟩
        rw [hch]
      · have c2 : decide ((8 : Int) < (out.length : Int)) = true := by simp; omega
        have hch : chg l first c (fun r => pc (pAhead r first (first + c)) (pIn r first (first + c)) (pRest r first (first + c))) = (20, []) := by
          unfold chg; rw [hv, hw, hout]; simp [h8]
        apply CG.reg
        · intro k
          simp (maxSteps := 2000000) (disch := first | decide | omega | rfl) only [s22_8, ↓runS_op, ↓runS_nil, ↓optK_some, optK_some, ↓putT_some, ↓grd_true, grd_true, T.get_same, T.get_other, ↓evO_tmp, ↓grd_blt, grd_blt, ↓evO_const, ofValue, ↓ev_move, ↓ev_bin, ↓binCV_eq, binCV_eq, binR, ↓ev_builtin, ↓evOs_cons, ↓evOs_nil, ↓ln22, ln22, ↓lz22, lz22, ↓ln116, ln116, ↓lz116, lz116, ↓hlen, hlen, ↓c2, c2]
          exact rfl
        refine CG.cond_true (fun k => by simp (maxSteps := 2000000) (disch := first | decide | omega | rfl) only [evO_tmp, optK_some, T.get_same, T.get_other] <;> rfl) ?_
        refine CG.seq ?_
        apply CG.reg
        · intro k
          simp (maxSteps := 2000000) (disch := first | decide | omega | rfl) only [s22_9, ↓runS_op, ↓runS_nil, ↓optK_some, optK_some, ↓putT_some, ↓grd_true, grd_true, T.get_same, T.get_other, ↓evO_tmp, ↓grd_blt, grd_blt, ↓evO_const, ofValue, Nat.add_zero, Nat.zero_add, Nat.reduceAdd, ↓ev_assign, ↓natOf_nat, natOf_nat, ↓natOf_0, natOf_0, ↓natOf_1, natOf_1, ↓natOf_2, natOf_2]
          exact rfl
        refine CG.ret ?_
        refine ⟨_, _, _, ⟨_, ?_, .inl ⟨rfl, by rw [hch]⟩, hX4⟩, fun k => by simp (disch := decide) only [finK_ret, resultsK_tmp, resultsK_nil, rc29, rc38, rc47, resP_ptr, ldKn_ptr, ldBn_cells, read3, read5, read8, newB, cellsT_cons, cellsT_nil, Nat.zero_add, Nat.reduceAdd, retK_one, retK_two, retK_nil, optK_some, T.get_same, T.get_other] <;> rfl⟩
        rw [hch]
end Go.Proofs.YthdoelcgdgcncaaGreatDoor
/- Walks: Unmap, Protect. -/
namespace Go.Proofs.YthdoelcgdgcncaaGreatDoor
open Go Go.Can
variable {β : Type}

/-- what stays of a region that is unmapped -/
def cutU (first c : Int) (r : Rg) : List Rg := kept [pAhead r first (first + c), pRest r first (first + c)]
/-- what a region is cut into where a stretch gets a right -/
def cutP (first c : Int) (w : Bool) (r : Rg) : List Rg := kept [pAhead r first (first + c), { pIn r first (first + c) with w := w }, pRest r first (first + c)]

theorem unmap_ok (d : Nat) {v : CV} {l : List Rg} {h : T Blk} {nx : Nat} {first c : Int} (hs : SlR h nx v l) (hok : ∀ r ∈ l, r.ok) (hx0 : 0 ≤ first) (hx1 : first < 18446744073709551616)
    (hc0 : -9223372036854775808 ≤ c) (hc1 : c < 9223372036854775808) :
    FG (β := β) tab (d + 9) 8 [v, .int .u64 first, .int .i64 c] h nx fun v' h' nx' => ∃ u, v' = .tup [u, .int .i64 (chg l first c (cutU first c)).1] ∧ OutQ h' nx nx' u (chg l first c (cutU first c)).2 ∧ Ext h nx h' nx' := by
  refine FG.of (fn := Tryz.f8) (c := c8) (n := 14) (rs := [.tmp 6, .tmp 7]) (by kernel_rfl) (by kernel_rfl) (by kernel_rfl) c8_ok rfl rfl (by simp) fun call hc => ?_
  obtain ⟨_, H, NX, ⟨u, rfl, hq, hx⟩, e⟩ := change_ok (β := β) d (fd := .fn 23 [] []) (pc := fun r s u => kept [r, u]) (first := first) (c := c) hs hok hx0 hx1 hc0 hc1 rfl (same_fn0 23) (fun h nx k => boxK_fn 23 [] []) (fun r s u => by have := kept_le [r, u]; simp at this; omega)
    (fun r s u H NX hx => by
      obtain ⟨v', H', NX', hq, e⟩ := unmapP_ok (β := β) d r s u H NX
      exact ⟨v', H', NX', hq, e⟩)
  rw [← hc] at e
  simp only [cellsT_cons, cellsT_nil, Nat.zero_add, Nat.reduceAdd]
  unfold c8
  refine CG.seq ?_
  apply CG.reg
  · intro k
    simp (maxSteps := 2000000) (disch := first | decide | omega | rfl) only [s8_0, ↓runS_op, ↓runS_nil, ↓optK_some, optK_some, ↓putT_some, ↓grd_true, grd_true, T.get_same, T.get_other, ↓evO_tmp, ↓grd_blt, grd_blt, ↓evO_const, ofValue, Nat.add_zero, Nat.zero_add, Nat.reduceAdd, ↓ev_assign, ↓natOf_nat, natOf_nat, ↓natOf_0, natOf_0, ↓natOf_1, natOf_1, ↓natOf_2, natOf_2]
    exact rfl
  refine CG.seq ?_
  apply CG.reg
  · intro k
    simp (maxSteps := 2000000) (disch := first | decide | omega | rfl) only [s8_1, s8_1_0, s8_1_1, List.cons_append, List.nil_append, ↓runS_op, ↓runS_nil, ↓optK_some, optK_some, ↓putT_some, ↓grd_true, grd_true, T.get_same, T.get_other, ↓evO_tmp, ↓grd_blt, grd_blt, ↓ev_move, ↓ev_assign, ↓ev_extract, List.getElem?_cons_zero, List.getElem?_cons_succ, ↓ev_call, ↓evOs_cons, ↓evOs_nil, ↓notMap_fn, notMap_fn, ↓evO_func, ↓e, e]
    exact rfl
  refine CG.ret ?_
  exact ⟨_, _, _, ⟨u, rfl, hq, hx⟩, fun k => by simp (disch := decide) only [finK_ret, resultsK_tmp, resultsK_nil, rc29, rc38, rc47, resP_ptr, ldKn_ptr, ldBn_cells, read3, read5, read8, newB, cellsT_cons, cellsT_nil, Nat.zero_add, Nat.reduceAdd, retK_one, retK_two, retK_nil, optK_some, T.get_same, T.get_other] <;> rfl⟩

theorem protect_ok (d : Nat) {v : CV} {l : List Rg} {h : T Blk} {nx : Nat} {first c : Int} {wr : Bool} (hs : SlR h nx v l) (hok : ∀ r ∈ l, r.ok) (hx0 : 0 ≤ first) (hx1 : first < 18446744073709551616)
    (hc0 : -9223372036854775808 ≤ c) (hc1 : c < 9223372036854775808) :
    FG (β := β) tab (d + 9) 10 [v, .int .u64 first, .int .i64 c, .bool wr] h nx fun v' h' nx' => ∃ u, v' = .tup [u, .int .i64 (chg l first c (cutP first c wr)).1] ∧ OutQ h' nx nx' u (chg l first c (cutP first c wr)).2 ∧ Ext h nx h' nx' := by
  refine FG.of (fn := Tryz.f10) (c := c10) (n := 17) (rs := [.tmp 8, .tmp 9]) (by kernel_rfl) (by kernel_rfl) (by kernel_rfl) c10_ok rfl rfl (by simp) fun call hc => ?_
  have hA : Ext h nx (h.set nx (newB [.bool wr])) (nx + 1) := (Ext.refl h nx).new
  obtain ⟨_, H, NX, ⟨u, rfl, hq, hx⟩, e⟩ := change_ok (β := β) d (fd := .fn 25 [] [.ptr nx 0]) (pc := fun r s u => kept [r, { s with w := wr }, u]) (first := first) (c := c) (hs.ext hA) hok hx0 hx1 hc0 hc1 rfl (by simp [CV.same, CV.sames]) (fun h nx' k => boxK_fn 25 [] [.ptr nx 0]) (fun r s u => by have := kept_le [r, { s with w := wr }, u]; simpa using this)
    (fun r s u H NX hx => by
      have hle := hx.le
      obtain ⟨v', H', NX', hq, e⟩ := protP_ok (β := β) d r s u wr (h := H) (nx := NX) (bw := nx) (by rw [hx.get _ (by omega), T.get_same]) (by omega)
      exact ⟨v', H', NX', hq, fun k => by rw [call_cap]; exact e k⟩)
  rw [← hc] at e
  have hq' : OutQ H nx NX u (chg l first c (cutP first c wr)).2 := by
    rcases hq with q | ⟨b, cs, q1, q2, q3⟩
    · exact .inl q
    · exact .inr ⟨b, cs, q1, by omega, q3⟩
  have hall := hA.trans hx
  simp only [newB, cellsT_cons, cellsT_nil, Nat.zero_add, Nat.reduceAdd, List.length_cons, List.length_nil] at e
  simp only [cellsT_cons, cellsT_nil, Nat.zero_add, Nat.reduceAdd]
  unfold c10
  refine CG.seq ?_
  apply CG.reg
  · intro k
    simp (maxSteps := 2000000) (disch := first | decide | omega | rfl) only [s10_0, ↓runS_op, ↓runS_nil, ↓optK_some, optK_some, ↓putT_some, ↓grd_true, grd_true, T.get_same, T.get_other, ↓evO_tmp, ↓grd_blt, grd_blt, ↓evO_const, ofValue, Nat.add_zero, Nat.zero_add, Nat.reduceAdd, ↓ev_assign, ↓ev_box1, ↓boxK_int, ↓boxK_bool, ↓boxK_rg, ↓boxK_a3, ↓boxK_a4, ↓boxK_slice, ↓boxK_nilslice, ↓boxK_fn, List.length_cons, List.length_nil, newB, cellsT_cons, cellsT_nil, ↓natOf_nat, natOf_nat, ↓natOf_0, natOf_0, ↓natOf_1, natOf_1, ↓natOf_2, natOf_2]
    exact rfl
  refine CG.seq ?_
  apply CG.reg
  · intro k
    simp (maxSteps := 2000000) (disch := first | decide | omega | rfl) only [s10_1, s10_1_0, s10_1_1, List.cons_append, List.nil_append, ↓runS_op, ↓runS_nil, ↓optK_some, optK_some, ↓putT_some, ↓grd_true, grd_true, T.get_same, T.get_other, ↓evO_tmp, ↓grd_blt, grd_blt, ↓ev_move, ↓ev_assign, ↓ev_extract, List.getElem?_cons_zero, List.getElem?_cons_succ, ↓ev_call, ↓evOs_cons, ↓evOs_nil, ↓notMap_fn, notMap_fn, ↓evO_func, ↓ev_mkfunc, ↓e, e]
    exact rfl
  refine CG.ret ?_
  exact ⟨_, _, _, ⟨u, rfl, hq', hall⟩, fun k => by simp (disch := decide) only [finK_ret, resultsK_tmp, resultsK_nil, rc29, rc38, rc47, resP_ptr, ldKn_ptr, ldBn_cells, read3, read5, read8, newB, cellsT_cons, cellsT_nil, Nat.zero_add, Nat.reduceAdd, retK_one, retK_two, retK_nil, optK_some, T.get_same, T.get_other] <;> rfl⟩
end Go.Proofs.YthdoelcgdgcncaaGreatDoor
/- Walks: slices.Clone. -/
namespace Go.Proofs.YthdoelcgdgcncaaGreatDoor
open Go Go.Can
variable {β : Type}

theorem OutQ.sl {h : T Blk} {nx0 nx : Nat} {v : CV} {l : List Rg} (q : OutQ h nx0 nx v l) : SlR h nx v l := by
  rcases q with q | ⟨b, cs, h1, h2, h3, h4, h5⟩
  · exact .inl q
  · exact .inr ⟨b, 0, _, h1, h3, _, cs, true, h4, fun i r hi => by simpa using h5 i r hi⟩

theorem nil_eq (c : CV → Res β) : binCV tab .eql 22 .nilslice .nilslice c = c (.bool true) := by
  show eqCV tab 22 .nilslice .nilslice (fun x => c (.bool x)) = _
  unfold eqCV
  rw [tyK_eq, ty22, optK_some]
  rfl
theorem sl_eq (b o n : Nat) (cap : Cap) (c : CV → Res β) : binCV tab .eql 22 (.slice b o n cap) .nilslice c = c (.bool false) := by
  show eqCV tab 22 (.slice b o n cap) .nilslice (fun x => c (.bool x)) = _
  unfold eqCV
  rw [tyK_eq, ty22, optK_some]
  rfl

/-- what Clone answers: nothing, an empty row, or a row that has grown -/
def CloneQ (h : T Blk) (nx : Nat) (l : List Rg) (v : CV) (h' : T Blk) (nx' : Nat) : Prop :=
  (OutQ h' nx nx' v l ∨ (l = [] ∧ v = .slice nx 0 0 (.known 0) ∧ h'.get nx = some (newB []) ∧ nx < nx')) ∧ Ext h nx h' nx'

theorem clone_ok (d : Nat) {v : CV} {l : List Rg} {h : T Blk} {nx : Nat} (hs : SlR h nx v l) (hl : l.length ≤ 1000) : FG (β := β) tab (d + 1) 21 [v] h nx (CloneQ h nx l) := by
  refine FG.of (fn := Tryz.f21) (c := c21) (n := 8) (rs := [.tmp 2]) (by kernel_rfl) (by kernel_rfl) (by kernel_rfl) c21_ok rfl rfl (by simp) fun call hc => ?_
  simp only [cellsT_cons, cellsT_nil, Nat.zero_add, Nat.reduceAdd]
  unfold c21
  refine CG.seq ?_
  apply CG.reg
  · intro k
    simp (maxSteps := 2000000) (disch := first | decide | omega | rfl) only [s21_0, ↓runS_op, ↓runS_nil, ↓optK_some, optK_some, ↓putT_some, ↓grd_true, grd_true, T.get_same, T.get_other, ↓evO_tmp, ↓grd_blt, grd_blt, ↓evO_const, ofValue, Nat.add_zero, Nat.zero_add, Nat.reduceAdd, ↓ev_assign, ↓natOf_nat, natOf_nat, ↓natOf_0, natOf_0, ↓natOf_1, natOf_1, ↓natOf_2, natOf_2]
    exact rfl
  refine CG.seq ?_
  refine CG.seq ?_
  rcases hs with ⟨rfl, rfl⟩ | ⟨b, o, cap, rfl, hbn, N, cs, rw', hb, hr⟩
  · skip
    apply CG.reg
    · intro k
      simp (maxSteps := 2000000) (disch := first | decide | omega | rfl) only [s21_1, ↓runS_op, ↓runS_nil, ↓optK_some, optK_some, ↓putT_some, ↓grd_true, grd_true, T.get_same, T.get_other, ↓evO_tmp, ↓grd_blt, grd_blt, ↓evO_const, ofValue, Nat.add_zero, Nat.zero_add, Nat.reduceAdd, ↓ev_move, ↓ev_bin, ↓binCV_eq, binCV_eq, binR, ↓natOf_nat, natOf_nat, ↓natOf_0, natOf_0, ↓natOf_1, natOf_1, ↓natOf_2, natOf_2, ↓nil_eq, nil_eq]
      exact rfl
    refine CG.cond_true (fun k => by simp (maxSteps := 2000000) (disch := first | decide | omega | rfl) only [evO_tmp, optK_some, T.get_same, T.get_other] <;> rfl) ?_
    refine CG.seq ?_
    apply CG.reg
    · intro k
      simp (maxSteps := 2000000) (disch := first | decide | omega | rfl) only [s21_2, ↓runS_op, ↓runS_nil, ↓optK_some, optK_some, ↓putT_some, ↓grd_true, grd_true, T.get_same, T.get_other, ↓evO_tmp, ↓grd_blt, grd_blt, ↓evO_const, ofValue, Nat.add_zero, Nat.zero_add, Nat.reduceAdd, ↓ev_assign, ↓natOf_nat, natOf_nat, ↓natOf_0, natOf_0, ↓natOf_1, natOf_1, ↓natOf_2, natOf_2]
      exact rfl
    refine CG.ret ?_
    exact ⟨_, _, _, ⟨.inl (.inl ⟨rfl, rfl⟩), .refl _ _⟩, fun k => by simp (disch := decide) only [finK_ret, resultsK_tmp, resultsK_nil, rc29, rc38, rc47, resP_ptr, ldKn_ptr, ldBn_cells, read3, read5, read8, newB, cellsT_cons, cellsT_nil, Nat.zero_add, Nat.reduceAdd, retK_one, retK_two, retK_nil, optK_some, T.get_same, T.get_other] <;> rfl⟩
  · skip
    apply CG.reg
    · intro k
      simp (maxSteps := 2000000) (disch := first | decide | omega | rfl) only [s21_1, ↓runS_op, ↓runS_nil, ↓optK_some, optK_some, ↓putT_some, ↓grd_true, grd_true, T.get_same, T.get_other, ↓evO_tmp, ↓grd_blt, grd_blt, ↓evO_const, ofValue, Nat.add_zero, Nat.zero_add, Nat.reduceAdd, ↓ev_move, ↓ev_bin, ↓binCV_eq, binCV_eq, binR, ↓natOf_nat, natOf_nat, ↓natOf_0, natOf_0, ↓natOf_1, natOf_1, ↓natOf_2, natOf_2, ↓sl_eq, sl_eq]
      exact rfl
    refine CG.cond_false (fun k => by simp (maxSteps := 2000000) (disch := first | decide | omega | rfl) only [evO_tmp, optK_some, T.get_same, T.get_other] <;> rfl) ?_
    refine CG.skip ?_
    refine CG.seq ?_
    have hnews : ∀ (H : T Blk) (k : List CV → Nat → Res β), H.get b = some (.cells N cs rw') → newsK H 3 (.slice b o l.length cap) k = k (flat l) l.length := fun H k hb => by
      show blkK H b (fun _ cs _ => readCells cs (l.length * 3) o fun p => k p l.length) = _
      unfold blkK
      rw [hb, optK_some]
      exact read_flat l cs o _ hr
    have hb1 : (h.set nx (newB [])).get b = some (.cells N cs rw') := by rw [T.get_other _ _ (by omega)]; exact hb
    cases l with
    | nil =>
      have hn0 : ∀ k : List CV → Nat → Res β, newsK (h.set nx (newB [])) 3 (.slice b o 0 cap) k = k (flat []) 0 := fun k => hnews _ k hb1
      have ea : ∀ k : K β, opBuiltin .append [22, 22] [.slice nx 0 0 (.known 0), .slice b o 0 cap] tab (h.set nx (newB [])) (nx + 1) k = k (.slice nx 0 0 (.known 0)) (h.set nx (newB [])) (nx + 1) := fun k => by
        rw [ap_eq]
        unfold appendOp
        rw [hn0]
        show blkK (h.set nx (newB [])) nx _ = _
        unfold blkK
        rw [T.get_same]
        rfl
      simp only [newB, cellsT_cons, cellsT_nil, Nat.zero_add, Nat.reduceAdd, List.length_cons, List.length_nil] at ea
      apply CG.reg
      · intro k
        simp (maxSteps := 2000000) (disch := first | decide | omega | rfl) only [s21_3, ↓runS_op, ↓runS_nil, ↓optK_some, optK_some, ↓putT_some, ↓grd_true, grd_true, T.get_same, T.get_other, ↓evO_tmp, ↓grd_blt, grd_blt, Nat.add_zero, Nat.zero_add, Nat.reduceAdd, ↓ev_move, ↓ev_assign, ↓ev_builtin, ↓evOs_cons, ↓evOs_nil, ↓stB_cells, ↓grd_beq, grd_beq, ↓grd_ble, grd_ble, List.length_cons, List.length_nil, newB, cellsT_cons, cellsT_nil, ↓fillS_nil, ↓fillS_cons, ↓fill1_0, fill1_0, ↓fill1_1, fill1_1, ↓fill1_2, fill1_2, ↓fill1_3, fill1_3, ↓fill1_4, fill1_4, ↓fill1_5, fill1_5, ↓fill1_6, fill1_6, ↓fill1_7, fill1_7, ↓fill3_0, fill3_0, ↓fill3_3, fill3_3, ↓fill3_6, fill3_6, cells_int, cells_bool, cells_agg, cells_slice, cells_nilslice, cells_fn, cells_nilfn, cells_ptr, ↓newC0, newC0, ↓newC1, newC1, ↓newC2, newC2, ↓newR1, newR1, ↓newR2, newR2, ↓newR3, newR3, ↓newCells_eq1, newCells_eq1, pl22_0, pl22_1, pl22_2, ↓bs22_0, ↓ea, ea]
        exact rfl
      refine CG.ret ?_
      exact ⟨_, _, _, ⟨.inr ⟨rfl, rfl, T.get_same _ _ _, Nat.lt_succ_self _⟩, (Ext.refl h nx).new⟩, fun k => by simp (disch := decide) only [finK_ret, resultsK_tmp, resultsK_nil, rc29, rc38, rc47, resP_ptr, ldKn_ptr, ldBn_cells, read3, read5, read8, newB, cellsT_cons, cellsT_nil, Nat.zero_add, Nat.reduceAdd, retK_one, retK_two, retK_nil, optK_some, T.get_same, T.get_other] <;> rfl⟩
    | cons r p =>
      have ea : ∀ k : K β, opBuiltin .append [22, 22] [.slice nx 0 0 (.known 0), .slice b o (r :: p).length cap] tab (h.set nx (newB [])) (nx + 1) k = k (.slice (nx + 1) 0 (r :: p).length (.opn 3)) ((h.set nx (newB [])).set (nx + 1) (newB (flat (r :: p)))) (nx + 1 + 1) := fun k => by
        rw [ap_eq]
        unfold appendOp
        rw [hnews _ _ hb1, natK_eq]
        have hle : Nat.ble (Nat.add 0 (r :: p).length) 65536 = true := Nat.ble_eq_true_of_le (show 0 + (r :: p).length ≤ 65536 by omega)
        show grd 90 true (natK (Nat.add 0 (r :: p).length) fun need => grd 90 (Nat.ble need 65536 && Nat.ble 24 65536) (blkK (h.set nx (newB [])) nx fun m cs rw => _)) = _
        rw [grd_true, natK_eq, hle]
        show grd 90 true _ = _
        rw [grd_true]
        unfold blkK
        rw [T.get_same, optK_some]
        have h0 : Nat.add 0 (r :: p).length = (r :: p).length := Nat.zero_add _
        rw [h0]
        show newCells ([] ++ flat (r :: p)) _ _ _ = _
        rw [List.nil_append, newCells_eq1 (flat_one _)]
      simp only [newB, cellsT_nil, List.length_cons, List.length_nil] at ea
      apply CG.reg
      · intro k
        simp (maxSteps := 2000000) (disch := first | decide | omega | rfl) only [s21_3, ↓runS_op, ↓runS_nil, ↓optK_some, optK_some, ↓putT_some, ↓grd_true, grd_true, T.get_same, T.get_other, ↓evO_tmp, ↓grd_blt, grd_blt, Nat.add_zero, Nat.zero_add, Nat.reduceAdd, ↓ev_move, ↓ev_assign, ↓ev_builtin, ↓evOs_cons, ↓evOs_nil, ↓stB_cells, ↓grd_beq, grd_beq, ↓grd_ble, grd_ble, List.length_cons, List.length_nil, newB, cellsT_cons, cellsT_nil, ↓fillS_nil, ↓fillS_cons, ↓fill1_0, fill1_0, ↓fill1_1, fill1_1, ↓fill1_2, fill1_2, ↓fill1_3, fill1_3, ↓fill1_4, fill1_4, ↓fill1_5, fill1_5, ↓fill1_6, fill1_6, ↓fill1_7, fill1_7, ↓fill3_0, fill3_0, ↓fill3_3, fill3_3, ↓fill3_6, fill3_6, cells_int, cells_bool, cells_agg, cells_slice, cells_nilslice, cells_fn, cells_nilfn, cells_ptr, ↓newC0, newC0, ↓newC1, newC1, ↓newC2, newC2, ↓newR1, newR1, ↓newR2, newR2, ↓newR3, newR3, ↓newCells_eq1, newCells_eq1, pl22_0, pl22_1, pl22_2, ↓bs22_0, ↓ea, ea]
        exact rfl
      refine CG.ret ?_
      refine ⟨_, _, _, ⟨?_, ?_⟩, fun k => by simp (disch := decide) only [finK_ret, resultsK_tmp, resultsK_nil, rc29, rc38, rc47, resP_ptr, ldKn_ptr, ldBn_cells, read3, read5, read8, newB, cellsT_cons, cellsT_nil, Nat.zero_add, Nat.reduceAdd, retK_one, retK_two, retK_nil, optK_some, T.get_same, T.get_other] <;> rfl⟩
      · refine .inl (.inr ⟨nx + 1, cellsT (flat (r :: p)) 0 .nil, rfl, by omega, by omega, ?_, regC_flat _⟩)
        rw [T.get_same, flat_len]
      · exact ((Ext.refl h nx).new).new
end Go.Proofs.YthdoelcgdgcncaaGreatDoor
