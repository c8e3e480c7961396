/- Walks: slices.Insert of one region, where the capacity is known. -/
import Derived.Test.YthdoelcgdgcncaaGreatDoorWalkD
import Derived.Test.YthdoelcgdgcncaaGreatDoorFacts
import Derived.Test.YthdoelcgdgcncaaGreatDoorCan5
import Derived.Test.YthdoelcgdgcncaaGreatDoorLives3
set_option maxRecDepth 100000
set_option maxHeartbeats 4000000
set_option linter.unusedVariables false
set_option linter.unusedSimpArgs false
namespace Go.Proofs.YthdoelcgdgcncaaGreatDoor.I
open Go Go.Can
variable {β : Type}

theorem sl22lo {call : CallT β} {t : T CV} {h : T Blk} {nx : Nat} {k : K β} (x y : Operand) : evOp (.slice 22 x (some y) none none) I.tab call t h nx k = evO x I.tab t fun v => evO y I.tab t fun i => natOf i fun i => slK 3 (some i) none v fun v => k v h nx := ev_slice_lo ty22 (e := 38) rfl ty38 (by kernel_rfl) x y
theorem sl22hi {call : CallT β} {t : T CV} {h : T Blk} {nx : Nat} {k : K β} (x y : Operand) : evOp (.slice 22 x none (some y) none) I.tab call t h nx k = evO x I.tab t fun v => evO y I.tab t fun i => natOf i fun i => slK 3 none (some i) v fun v => k v h nx := ev_slice_hi ty22 (e := 38) rfl ty38 (by kernel_rfl) x y

/-- a row into which another one is put -/
def insL (row v : List CV) (i : Nat) : List CV := row.take (i * 3) ++ v ++ row.drop (i * 3)
theorem insL_get {row v : List CV} {i j : Nat} {x : CV} (hi : i * 3 ≤ row.length) (hv : v.length = 3) (h : (insL row v i)[j]? = some x) :
    (j < i * 3 ∧ row[j]? = some x) ∨ (i * 3 ≤ j ∧ j < i * 3 + 3 ∧ v[j - i * 3]? = some x) ∨ (i * 3 + 3 ≤ j ∧ (row.drop (i * 3))[j - (i + 1) * 3]? = some x) := by
  unfold insL at h
  have ht : (row.take (i * 3)).length = i * 3 := by rw [List.length_take]; omega
  by_cases h1 : j < i * 3
  · rw [List.append_assoc, List.getElem?_append_left (by omega), List.getElem?_take, if_pos h1] at h
    exact .inl ⟨h1, h⟩
  · by_cases h2 : j < i * 3 + 3
    · rw [List.append_assoc, List.getElem?_append_right (by omega), ht, List.getElem?_append_left (by omega)] at h
      exact .inr (.inl ⟨by omega, h2, h⟩)
    · rw [List.getElem?_append_right (by simp only [List.length_append]; omega)] at h
      simp only [List.length_append, ht, hv] at h
      refine .inr (.inr ⟨by omega, ?_⟩)
      rw [← h]; congr 1; omega
theorem insL_len {row v : List CV} {i n : Nat} (hn : row.length = n * 3) (hv : v.length = 3) (hi : i ≤ n) : (insL row v i).length = (n + 1) * 3 := by
  unfold insL
  simp only [List.length_append, List.length_take, List.length_drop]
  omega

/-- what Insert comes to -/
def InsQ (h : T Blk) (nx b n c : Nat) (l : List CV) (v' : CV) (h' : T Blk) (nx' : Nat) : Prop :=
  ∃ (M : Nat) (cs' : T CV) (N' : Nat) (cap : Cap), v' = .slice M 0 (n + 1) cap ∧ (M = b ∨ nx ≤ M) ∧ h'.get M = some (.cells N' cs' true) ∧ (n + 1) * 3 ≤ N' ∧ (∀ (j : Nat) (x : CV), l[j]? = some x → cs'.get j = some x) ∧
    ((cap = .known c ∧ M = b ∧ n + 1 ≤ c) ∨ cap = .opn 3) ∧ nx ≤ nx' ∧ ∀ x, x < nx → x ≠ M → h'.get x = h.get x

theorem ins_ok (d : Nat) {b b2 n c i q m : Nat} {cs cs2 : T CV} {row v : List CV} {h : T Blk} {nx : Nat} (hb : h.get b = some (.cells (c * 3) cs true)) (hrl : row.length = n * 3) (hrow : ∀ (j : Nat) (x : CV), row[j]? = some x → cs.get j = some x)
    (hr1 : row.all CV.one = true) (hb2 : h.get b2 = some (.cells m cs2 true)) (hvl : v.length = 3) (hv : ∀ (j : Nat) (x : CV), v[j]? = some x → cs2.get j = some x) (hv1 : v.all CV.one = true) (hne : b ≠ b2) (hbn : b < nx) (hb2n : b2 < nx)
    (hi : i ≤ n) (hc : n ≤ c) (hn : n ≤ 1000) (hq : q = 1) :
    FG (β := β) I.tab (d + 2) 20 [.slice b 0 n (.known c), .int .i64 (i : Int), .slice b2 0 q (.known q)] h nx (InsQ h nx b n c (insL row v i)) := by
  refine FG.of (fn := Tryz.f20) (c := c20) (n := 95) (rs := [.tmp 6]) (by kernel_rfl) (by kernel_rfl) (by kernel_rfl) c20_ok rfl rfl (by simp) fun call hcall => ?_
  obtain ⟨u0, hu0⟩ : ∃ u0, ∀ k : CV → Res β, slK 3 (some i) none (.slice b 0 n (.known c)) k = k u0 := by
    by_cases h1 : i < c
    · exact ⟨_, fun k => slK_lo k h1 hi hc⟩
    · have : c = i := by omega
      subst this
      exact ⟨_, fun k => slK_lo_end k hi hc⟩
  have c0 : decide ((q : Int) = 0) = false := decide_eq_false (by omega)
  simp only [cellsT_cons, cellsT_nil, Nat.zero_add, Nat.reduceAdd]
  unfold c20
  refine CG.seq ?_
  apply CG.reg
  · intro k
    simp (maxSteps := 2000000) (disch := first | decide | omega | rfl) only [s20_0, ↓runS_op, ↓runS_nil, ↓optK_some, optK_some, ↓putT_some, ↓grd_true, grd_true, T.get_same, T.get_other, ↓evO_tmp, ↓grd_blt, grd_blt, ↓evO_const, ofValue, Nat.add_zero, Nat.zero_add, Nat.reduceAdd, ↓ev_assign, ↓natOf_nat, natOf_nat, ↓natOf_0, natOf_0, ↓natOf_1, natOf_1, ↓natOf_2, natOf_2]
    exact rfl
  refine CG.seq ?_
  apply CG.reg
  · intro k
    simp (maxSteps := 2000000) (disch := first | decide | omega | rfl) only [s20_1, ↓runS_op, ↓runS_nil, ↓optK_some, optK_some, ↓putT_some, ↓grd_true, grd_true, T.get_same, T.get_other, ↓evO_tmp, ↓grd_blt, grd_blt, Nat.add_zero, Nat.zero_add, Nat.reduceAdd, ↓ev_move, ↓natOf_nat, natOf_nat, ↓natOf_0, natOf_0, ↓natOf_1, natOf_1, ↓natOf_2, natOf_2, ↓sl22lo, sl22lo, ↓hu0, hu0]
    exact rfl
  refine CG.seq ?_
  apply CG.reg
  · intro k
    simp (maxSteps := 2000000) (disch := first | decide | omega | rfl) only [s20_2, ↓runS_op, ↓runS_nil, ↓optK_some, optK_some, ↓putT_some, ↓grd_true, grd_true, T.get_same, T.get_other, ↓evO_tmp, ↓grd_blt, grd_blt, ↓ev_move, ↓ev_assign, ↓ev_builtin, ↓evOs_cons, ↓evOs_nil, ↓ln22, ln22, ↓lz22, lz22, ↓ln116, ln116, ↓lz116, lz116]
    exact rfl
  refine CG.seq ?_
  refine CG.seq ?_
  apply CG.reg
  · intro k
    simp (maxSteps := 2000000) (disch := first | decide | omega | rfl) only [s20_3, ↓runS_op, ↓runS_nil, ↓optK_some, optK_some, ↓putT_some, ↓grd_true, grd_true, T.get_same, T.get_other, ↓evO_tmp, ↓grd_blt, grd_blt, ↓evO_const, ofValue, ↓ev_move, ↓ev_bin, ↓binCV_eq, binCV_eq, binR, ↓c0, c0]
    exact rfl
  refine CG.cond_false (fun k => by simp (maxSteps := 2000000) (disch := first | decide | omega | rfl) only [evO_tmp, optK_some, T.get_same, T.get_other] <;> rfl) ?_
  refine CG.skip ?_
  refine CG.seq ?_
  apply CG.reg
  · intro k
    simp (maxSteps := 2000000) (disch := first | decide | omega | rfl) only [s20_5, ↓runS_op, ↓runS_nil, ↓optK_some, optK_some, ↓putT_some, ↓grd_true, grd_true, T.get_same, T.get_other, ↓evO_tmp, ↓grd_blt, grd_blt, ↓ev_move, ↓ev_assign, ↓ev_builtin, ↓evOs_cons, ↓evOs_nil, ↓ln22, ln22, ↓lz22, lz22, ↓ln116, ln116, ↓lz116, lz116]
    exact rfl
  refine CG.seq ?_
  refine CG.seq ?_
  by_cases hin : i = n
  · have c1 : decide ((i : Int) = (n : Int)) = true := decide_eq_true (by omega)
    have hdr : row.drop (i * 3) = [] := List.drop_eq_nil_of_le (by omega)
    have htk : row.take (i * 3) = row := List.take_of_length_le (by omega)
    have hlist : insL row v i = row ++ v := by unfold insL; rw [hdr, htk, List.append_nil]
    rw [hlist]
    have hap : ∃ M H NX cap, (∀ k : K β, opBuiltin .append [22, 22] [.slice b 0 n (.known c), .slice b2 0 q (.known q)] I.tab h nx k = k (.slice M 0 (n + 1) cap) H NX) ∧ InsQ h nx b n c (row ++ v) (.slice M 0 (n + 1) cap) H NX := by
      have hget : ∀ (cs0 : T CV), (∀ (j : Nat) (x : CV), row[j]? = some x → cs0.get j = some x) → ∀ (j : Nat) (x : CV), (row ++ v)[j]? = some x → (cellsT v (0 + n * 3) cs0).get j = some x := fun cs0 h0 j x hj => by
        rw [cellsT_get]
        by_cases h1 : j < n * 3
        · rw [if_neg (by omega)]
          rw [List.getElem?_append_left (by omega)] at hj
          exact h0 j x hj
        · rw [List.getElem?_append_right (by omega), hrl] at hj
          have : j - n * 3 < v.length := (List.getElem?_eq_some_iff.1 hj).1
          rw [if_pos (by omega)]
          rw [← hj]; congr 1; omega
      by_cases hg : n + 1 ≤ c
      · refine ⟨b, _, nx, .known c, fun k => ?_, b, _, c * 3, _, rfl, .inl rfl, T.get_same _ _ _, by omega, hget cs hrow, .inl ⟨rfl, rfl, hg⟩, Nat.le_refl _, fun x hx hxb => T.get_other _ _ hxb⟩
        rw [append_same ty22 (e := 38) (sz := 3) (by' := 24) rfl ty38 (by kernel_rfl) (by kernel_rfl)]
        subst hq
        exact app_in (by omega) (by omega) hg (by omega) (by omega) hb2 (by omega) (fun j x hj => by rw [Nat.zero_add]; exact hv j x hj) hv1 hb (by omega)
      · refine ⟨nx, h.set nx (newB (row ++ v)), nx + 1, .opn 3, fun k => ?_, nx, cellsT (row ++ v) 0 .nil, (row ++ v).length, .opn 3, rfl, .inr (Nat.le_refl _), T.get_same _ _ _, ?_, ?_, .inr rfl, by omega, fun x hx hxb => T.get_other _ _ hxb⟩
        · rw [append_same ty22 (e := 38) (sz := 3) (by' := 24) rfl ty38 (by kernel_rfl) (by kernel_rfl)]
          subst hq
          exact app_new (by omega) (by omega) (by omega) (by omega) hb2 (by omega) (fun j x hj => by rw [Nat.zero_add]; exact hv j x hj) hv1 hb hrl (fun j x hj => by rw [Nat.zero_add]; exact hrow j x hj) hr1
        · simp only [List.length_append]; omega
        · intro j x hj
          rw [cellsT_get, if_pos ⟨Nat.zero_le _, by have := (List.getElem?_eq_some_iff.1 hj).1; omega⟩]
          simpa using hj
    obtain ⟨M, H, NX, cap, ea, hQ⟩ := hap
    apply CG.reg
    · intro k
      simp (maxSteps := 2000000) (disch := first | decide | omega | rfl) only [s20_6, ↓runS_op, ↓runS_nil, ↓optK_some, optK_some, ↓putT_some, ↓grd_true, grd_true, T.get_same, T.get_other, ↓evO_tmp, ↓grd_blt, grd_blt, ↓ev_move, ↓ev_bin, ↓binCV_eq, binCV_eq, binR, ↓c1, c1]
      exact rfl
    refine CG.cond_true (fun k => by simp (maxSteps := 2000000) (disch := first | decide | omega | rfl) only [evO_tmp, optK_some, T.get_same, T.get_other] <;> rfl) ?_
    refine CG.seq ?_
    apply CG.reg
    · intro k
      simp (maxSteps := 2000000) (disch := first | decide | omega | rfl) only [s20_7, ↓runS_op, ↓runS_nil, ↓optK_some, optK_some, ↓putT_some, ↓grd_true, grd_true, T.get_same, T.get_other, ↓evO_tmp, ↓grd_blt, grd_blt, ↓ev_move, ↓ev_assign, ↓ev_builtin, ↓evOs_cons, ↓evOs_nil, ↓stB_cells, ↓grd_beq, grd_beq, ↓grd_ble, grd_ble, List.length_cons, List.length_nil, newB, cellsT_cons, cellsT_nil, ↓ea, ea]
      exact rfl
    refine CG.ret ?_
    exact ⟨_, _, _, hQ, fun k => by simp (disch := decide) only [finK_ret, resultsK_tmp, resultsK_nil, rc29, rc38, rc47, resP_ptr, ldKn_ptr, ldBn_cells, read3, read5, read8, newB, cellsT_cons, cellsT_nil, Nat.zero_add, Nat.reduceAdd, retK_one, retK_two, retK_nil, optK_some, T.get_same, T.get_other] <;> rfl⟩
  · have c1 : decide ((i : Int) = (n : Int)) = false := decide_eq_false (by omega)
    apply CG.reg
    · intro k
      simp (maxSteps := 2000000) (disch := first | decide | omega | rfl) only [s20_6, ↓runS_op, ↓runS_nil, ↓optK_some, optK_some, ↓putT_some, ↓grd_true, grd_true, T.get_same, T.get_other, ↓evO_tmp, ↓grd_blt, grd_blt, ↓ev_move, ↓ev_bin, ↓binCV_eq, binCV_eq, binR, ↓c1, c1]
      exact rfl
    refine CG.cond_false (fun k => by simp (maxSteps := 2000000) (disch := first | decide | omega | rfl) only [evO_tmp, optK_some, T.get_same, T.get_other] <;> rfl) ?_
    refine CG.skip ?_
    have w1 : IntKind.i64.wrap ((n : Int) + (q : Int)) = ((n + 1 : Nat) : Int) := by rw [wrap_i64 (by omega) (by omega)]; omega
    have w2 : IntKind.i64.wrap (((n + 1 : Nat) : Int) - (i : Int)) = ((n + 1 - i : Nat) : Int) := by rw [wrap_i64 (by omega) (by omega)]; omega
    have w3 : IntKind.i64.wrap ((i : Int) + (q : Int)) = ((i + 1 : Nat) : Int) := by rw [wrap_i64 (by omega) (by omega)]; omega
    have ecap := fun (h : T Blk) (nx : Nat) (k : K β) => cap_eq (tab := I.tab) (h := h) (nx := nx) (k := k) ty22 (e := 38) rfl b 0 n c
    have hdl : (row.drop (i * 3)).length = (n - i) * 3 := by rw [List.length_drop]; omega
    have hd1 : (row.drop (i * 3)).all CV.one = true := List.all_eq_true.2 fun x hx => List.all_eq_true.1 hr1 x (List.mem_of_mem_drop hx)
    have htl : (row.take (i * 3)).length = i * 3 := by rw [List.length_take]; omega
    have ht1 : (row.take (i * 3)).all CV.one = true := List.all_eq_true.2 fun x hx => List.all_eq_true.1 hr1 x (List.mem_of_mem_take hx)
    have hdg : ∀ (j : Nat) (x : CV), (row.drop (i * 3))[j]? = some x → cs.get (i * 3 + j) = some x := fun j x hj => hrow _ _ (by rw [List.getElem?_drop] at hj; exact hj)
    refine CG.seq ?_
    refine CG.seq ?_
    by_cases hg : c < n + 1
    · have c2 : decide (((n + 1 : Nat) : Int) > (c : Int)) = true := decide_eq_true (by omega)
      have c2' : decide ((c : Int) < ((n + 1 : Nat) : Int)) = true := decide_eq_true (by omega)
      apply CG.reg
      · intro k
        simp (maxSteps := 2000000) (disch := first | decide | omega | rfl) only [s20_8, ↓runS_op, ↓runS_nil, ↓optK_some, optK_some, ↓putT_some, ↓grd_true, grd_true, T.get_same, T.get_other, ↓evO_tmp, ↓grd_blt, grd_blt, ↓ev_move, ↓ev_bin, ↓binCV_eq, binCV_eq, binR, ↓ev_builtin, ↓evOs_cons, ↓evOs_nil, ↓w1, w1, ↓ecap, ecap, ↓c2, c2, c2']
        exact rfl
      refine CG.cond_true (fun k => by simp (maxSteps := 2000000) (disch := first | decide | omega | rfl) only [evO_tmp, optK_some, T.get_same, T.get_other] <;> rfl) ?_
      refine CG.seq ?_
      have esh := fun (k : CV → Res β) => slK_hi (sz := 3) (b := b) (o := 0) (len := n) (c := c) (i := i) k (by omega)
      obtain ⟨H1, e1, g1, g1x⟩ : ∃ H1, (∀ k : K β, opBuiltin .append [22, 3] [.slice b 0 i (.known c), .int .i64 ((n + 1 - i : Nat) : Int)] I.tab h nx k = k (.slice nx 0 (n + 1) (.opn 3)) H1 (nx + 1)) ∧
          (∃ cs0, H1.get nx = some (.cells ((n + 1) * 3) cs0 true) ∧ ∀ (j : Nat) (x : CV), (row.take (i * 3))[j]? = some x → cs0.get j = some x) ∧ ∀ x, x < nx → H1.get x = h.get x := by
        refine ⟨h.set nx (newB (row.take (i * 3) ++ repL z38 (n + 1 - i))), fun k => ?_, ⟨cellsT (row.take (i * 3) ++ repL z38 (n + 1 - i)) 0 .nil, ?_, ?_⟩, fun x hx => T.get_other _ _ (by omega)⟩
        · have := appZ_eq (tab := I.tab) (h := h) (nx := nx) (k := k) (ty := 22) (ty2 := 3) (e := 38) (sz := 3) (by' := 24) (z := z38) (row := row.take (i * 3)) (b := b) (o := 0) (len := i) (c := c) (n := n + 1 - i) (kd := .i64) ty22 rfl ty38 (by kernel_rfl) (by kernel_rfl) (by kernel_rfl) ty3 (by kernel_rfl) rfl
            (by omega) (by omega) (by omega) (by omega) (by omega) hb htl (fun j x hj => by rw [Nat.zero_add]; exact hrow j x (by rw [List.getElem?_take] at hj; split at hj; exact hj; cases hj)) ht1 (repL_one _)
          rw [this, show i + (n + 1 - i) = n + 1 by omega]
        · rw [T.get_same, newB, List.length_append, htl, repL_len3, show i * 3 + (n + 1 - i) * 3 = (n + 1) * 3 by omega]
        · intro j x hj
          have hjl := (List.getElem?_eq_some_iff.1 hj).1
          rw [cellsT_get, if_pos ⟨Nat.zero_le _, by rw [List.length_append]; omega⟩, Nat.sub_zero, List.getElem?_append_left hjl]
          exact hj
      obtain ⟨cs0, g1, g1c⟩ := g1
      have eso := fun (k : CV → Res β) => slK_lo_opn (sz := 3) (b := nx) (o := 0) (len := n + 1) (i := i) k (.inl (by omega)) (by omega)
      have eso2 := fun (k : CV → Res β) => slK_lo_opn (sz := 3) (b := nx) (o := 0) (len := n + 1) (i := i + 1) k (.inl (by omega)) (by omega)
      have esl := fun (k : CV → Res β) => slK_lo (sz := 3) (b := b) (o := 0) (len := n) (c := c) (i := i) k (by omega) hi hc
      simp only [Nat.zero_add] at eso eso2 esl
      obtain ⟨H2, e2, g2, g2x⟩ : ∃ H2, (∀ k : K β, opBuiltin .copy [22, 22] [.slice nx (i * 3) (n + 1 - i) (.opn 3), .slice b2 0 q (.known q)] I.tab H1 (nx + 1) k = k (.int .i64 (q : Int)) H2 (nx + 1)) ∧
          H2.get nx = some (.cells ((n + 1) * 3) (cellsT v (i * 3) cs0) true) ∧ ∀ x, x < nx → H2.get x = h.get x := by
        refine ⟨H1.set nx (.cells ((n + 1) * 3) (cellsT v (i * 3) cs0) true), fun k => ?_, T.get_same _ _ _, fun x hx => by rw [T.get_other _ _ (by omega)]; exact g1x x hx⟩
        exact copy_eq ty22 (e := 38) (sz := 3) rfl ty38 (by kernel_rfl) (.inl ⟨rfl, by omega⟩) (by rw [g1x _ hb2n]; exact hb2) (by omega) (fun j x hj => by rw [Nat.zero_add]; exact hv j x hj) g1 (by omega) hv1
      obtain ⟨H3, e3, g3, g3x⟩ : ∃ H3, (∀ k : K β, opBuiltin .copy [22, 22] [.slice nx ((i + 1) * 3) (n + 1 - (i + 1)) (.opn 3), .slice b (i * 3) (n - i) (.known (c - i))] I.tab H2 (nx + 1) k = k (.int .i64 ((n - i : Nat) : Int)) H3 (nx + 1)) ∧
          H3.get nx = some (.cells ((n + 1) * 3) (cellsT (row.drop (i * 3)) ((i + 1) * 3) (cellsT v (i * 3) cs0)) true) ∧ ∀ x, x < nx → H3.get x = h.get x := by
        refine ⟨H2.set nx (.cells ((n + 1) * 3) (cellsT (row.drop (i * 3)) ((i + 1) * 3) (cellsT v (i * 3) cs0)) true), fun k => ?_, T.get_same _ _ _, fun x hx => by rw [T.get_other _ _ (by omega)]; exact g2x x hx⟩
        exact copy_eq ty22 (e := 38) (sz := 3) rfl ty38 (by kernel_rfl) (.inl ⟨rfl, by omega⟩) (by rw [g2x _ hbn]; exact hb) hdl hdg g2 (by omega) hd1
      apply CG.reg
      · intro k
        simp (maxSteps := 2000000) (disch := first | decide | omega | rfl) only [s20_9, s20_9_0, s20_9_1, List.cons_append, List.nil_append, ↓runS_op, ↓runS_nil, ↓optK_some, optK_some, ↓putT_some, ↓grd_true, grd_true, T.get_same, T.get_other, ↓evO_tmp, ↓grd_blt, grd_blt, Nat.add_zero, Nat.zero_add, Nat.reduceAdd, ↓ev_move, ↓ev_assign, ↓ev_bin, ↓binCV_eq, binCV_eq, binR, ↓ev_builtin, ↓evOs_cons, ↓evOs_nil, ↓stB_cells, ↓grd_beq, grd_beq, ↓grd_ble, grd_ble, List.length_cons, List.length_nil, newB, cellsT_cons, cellsT_nil, ↓natOf_nat, natOf_nat, ↓natOf_0, natOf_0, ↓natOf_1, natOf_1, ↓natOf_2, natOf_2, ↓sl22hi, sl22hi, ↓esh, esh, ↓w1, w1, ↓w2, w2, ↓e1, e1]
        exact rfl
      refine CG.seq ?_
      apply CG.reg
      · intro k
        simp (maxSteps := 2000000) (disch := first | decide | omega | rfl) only [s20_10, ↓runS_op, ↓runS_nil, ↓optK_some, optK_some, ↓putT_some, ↓grd_true, grd_true, T.get_same, T.get_other, ↓evO_tmp, ↓grd_blt, grd_blt, Nat.add_zero, Nat.zero_add, Nat.reduceAdd, ↓ev_move, ↓ev_builtin, ↓evOs_cons, ↓evOs_nil, ↓stB_cells, ↓grd_beq, grd_beq, ↓grd_ble, grd_ble, List.length_cons, List.length_nil, newB, cellsT_cons, cellsT_nil, ↓natOf_nat, natOf_nat, ↓natOf_0, natOf_0, ↓natOf_1, natOf_1, ↓natOf_2, natOf_2, ↓sl22lo, sl22lo, ↓eso, eso, ↓e2, e2]
        exact rfl
      refine CG.seq ?_
      apply CG.draw dr20_11.1 dr20_11.2.1 dr20_11.2.2.1 dr20_11.2.2.2
      · intro k
        simp (maxSteps := 2000000) (disch := first | decide | omega | rfl) only [dl20_11, ol20_11, pp20_11, ↓runS_op, ↓runS_nil, ↓optK_some, optK_some, ↓putT_some, ↓grd_true, grd_true, T.get_same, T.get_other, ↓evO_tmp, ↓grd_blt, grd_blt, Nat.add_zero, Nat.zero_add, Nat.reduceAdd, ↓ev_move, ↓ev_bin, ↓binCV_eq, binCV_eq, binR, ↓ev_builtin, ↓evOs_cons, ↓evOs_nil, ↓stB_cells, ↓grd_beq, grd_beq, ↓grd_ble, grd_ble, List.length_cons, List.length_nil, newB, cellsT_cons, cellsT_nil, ↓natOf_nat, natOf_nat, ↓natOf_0, natOf_0, ↓natOf_1, natOf_1, ↓natOf_2, natOf_2, ↓drawD_op, ↓drawD_if, ↓drawD_nil, ↓lookK_nil, ↓lookK_cons, ↓chkD_cons, ↓chkD_nil, ↓nthK_zero, ↓nthK_succ, ↓bothK_true, ↓bothK_false, ↓again_eq, chkD_cons, chkD_nil, nthK_zero, nthK_succ, bothK_true, bothK_false, again_eq, same_int, same_bool, same_ptr, same_slice, same_slicO, same_nilslice, same_rg, same_a3, same_fn0, Bool.and_self, Bool.and_false, Bool.false_and, ↓sl22lo, sl22lo, ↓eso2, eso2, ↓esl, esl, ↓e3, e3, ↓w3, w3]
        exact rfl
      refine CG.seq ?_
      apply CG.reg
      · intro k
        simp (maxSteps := 2000000) (disch := first | decide | omega | rfl) only [s20_12, ↓runS_op, ↓runS_nil, ↓optK_some, optK_some, ↓putT_some, ↓grd_true, grd_true, T.get_same, T.get_other, ↓evO_tmp, ↓grd_blt, grd_blt, ↓ev_move, ↓ev_assign]
        exact rfl
      refine CG.ret ?_
      refine ⟨_, _, _, ⟨nx, _, _, .opn 3, rfl, .inr (Nat.le_refl _), g3, Nat.le_refl _, ?_, .inr rfl, Nat.le_succ _, fun x hx _ => g3x x hx⟩, fun k => by simp (disch := decide) only [finK_ret, resultsK_tmp, resultsK_nil, rc29, rc38, rc47, resP_ptr, ldKn_ptr, ldBn_cells, read3, read5, read8, newB, cellsT_cons, cellsT_nil, Nat.zero_add, Nat.reduceAdd, retK_one, retK_two, retK_nil, optK_some, T.get_same, T.get_other] <;> rfl⟩
      intro j x hj
      rw [cellsT_get, cellsT_get]
      rcases insL_get (by omega) hvl hj with ⟨j1, j2⟩ | ⟨j1, j2, j3⟩ | ⟨j1, j2⟩
      · rw [if_neg (by omega), if_neg (by omega)]
        exact g1c j x (by rw [List.getElem?_take, if_pos j1]; exact j2)
      · rw [if_neg (by omega), if_pos (by omega)]; exact j3
      · have := (List.getElem?_eq_some_iff.1 j2).1
        rw [if_pos (by omega)]; exact j2
    · have c2 : decide (((n + 1 : Nat) : Int) > (c : Int)) = false := decide_eq_false (by omega)
      have c2' : decide ((c : Int) < ((n + 1 : Nat) : Int)) = false := decide_eq_false (by omega)
      apply CG.reg
      · intro k
        simp (maxSteps := 2000000) (disch := first | decide | omega | rfl) only [s20_8, ↓runS_op, ↓runS_nil, ↓optK_some, optK_some, ↓putT_some, ↓grd_true, grd_true, T.get_same, T.get_other, ↓evO_tmp, ↓grd_blt, grd_blt, ↓ev_move, ↓ev_bin, ↓binCV_eq, binCV_eq, binR, ↓ev_builtin, ↓evOs_cons, ↓evOs_nil, ↓w1, w1, ↓ecap, ecap, ↓c2, c2, c2']
        exact rfl
      refine CG.cond_false (fun k => by simp (maxSteps := 2000000) (disch := first | decide | omega | rfl) only [evO_tmp, optK_some, T.get_same, T.get_other] <;> rfl) ?_
      refine CG.skip ?_
      refine CG.seq ?_
      have esh := fun (k : CV → Res β) => slK_hi (sz := 3) (b := b) (o := 0) (len := n) (c := c) (i := n + 1) k (by omega)
      have esl2 := fun (k : CV → Res β) => slK_lo (sz := 3) (b := b) (o := 0) (len := n + 1) (c := c) (i := i + 1) k (by omega) (by omega) (by omega)
      have esl := fun (k : CV → Res β) => slK_lo (sz := 3) (b := b) (o := 0) (len := n + 1) (c := c) (i := i) k (by omega) (by omega) (by omega)
      simp only [Nat.zero_add] at esl esl2
      have eov : ∀ k : K β, call (.fn 50 [] []) [.slice b2 0 q (.known q), .slice b ((i + 1) * 3) (n + 1 - (i + 1)) (.known (c - (i + 1)))] h nx k = k (.bool false) h nx := fun k => by
        rw [hcall]
        refine call_spec (g := ovlG) (by kernel_rfl) ?_
        unfold ovlG
        simp only [if_neg (Ne.symm hne), hb2, hb]
        rw [if_pos (by omega)]
      obtain ⟨H2, e2, g2, g2x⟩ : ∃ H2, (∀ k : K β, opBuiltin .copy [22, 22] [.slice b ((i + 1) * 3) (n + 1 - (i + 1)) (.known (c - (i + 1))), .slice b (i * 3) (n + 1 - i) (.known (c - i))] I.tab h nx k = k (.int .i64 ((n + 1 - (i + 1) : Nat) : Int)) H2 nx) ∧
          H2.get b = some (.cells (c * 3) (cellsT (row.drop (i * 3)) ((i + 1) * 3) cs) true) ∧ ∀ x, x ≠ b → H2.get x = h.get x := by
        refine ⟨h.set b (.cells (c * 3) (cellsT (row.drop (i * 3)) ((i + 1) * 3) cs) true), fun k => ?_, T.get_same _ _ _, fun x hx => T.get_other _ _ hx⟩
        exact copy_eq ty22 (e := 38) (sz := 3) rfl ty38 (by kernel_rfl) (.inr ⟨rfl, by omega⟩) hb (by rw [hdl]; omega) hdg hb (by omega) hd1
      obtain ⟨H3, e3, g3, g3x⟩ : ∃ H3, (∀ k : K β, opBuiltin .copy [22, 22] [.slice b (i * 3) (n + 1 - i) (.known (c - i)), .slice b2 0 q (.known q)] I.tab H2 nx k = k (.int .i64 (q : Int)) H3 nx) ∧
          H3.get b = some (.cells (c * 3) (cellsT v (i * 3) (cellsT (row.drop (i * 3)) ((i + 1) * 3) cs)) true) ∧ ∀ x, x ≠ b → H3.get x = h.get x := by
        refine ⟨H2.set b (.cells (c * 3) (cellsT v (i * 3) (cellsT (row.drop (i * 3)) ((i + 1) * 3) cs)) true), fun k => ?_, T.get_same _ _ _, fun x hx => by rw [T.get_other _ _ hx]; exact g2x x hx⟩
        exact copy_eq ty22 (e := 38) (sz := 3) rfl ty38 (by kernel_rfl) (.inl ⟨rfl, by omega⟩) (by rw [g2x _ (Ne.symm hne)]; exact hb2) (by omega) (fun j x hj => by rw [Nat.zero_add]; exact hv j x hj) g2 (by omega) hv1
      apply CG.reg
      · intro k
        simp (maxSteps := 2000000) (disch := first | decide | omega | rfl) only [s20_13, ↓runS_op, ↓runS_nil, ↓optK_some, optK_some, ↓putT_some, ↓grd_true, grd_true, T.get_same, T.get_other, ↓evO_tmp, ↓grd_blt, grd_blt, Nat.add_zero, Nat.zero_add, Nat.reduceAdd, ↓ev_move, ↓ev_assign, ↓ev_bin, ↓binCV_eq, binCV_eq, binR, ↓natOf_nat, natOf_nat, ↓natOf_0, natOf_0, ↓natOf_1, natOf_1, ↓natOf_2, natOf_2, ↓sl22hi, sl22hi, ↓esh, esh, ↓w1, w1]
        exact rfl
      refine CG.seq ?_
      refine CG.seq ?_
      apply CG.reg
      · intro k
        simp (maxSteps := 2000000) (disch := first | decide | omega | rfl) only [s20_14, s20_14_0, s20_14_1, List.cons_append, List.nil_append, ↓runS_op, ↓runS_nil, ↓optK_some, optK_some, ↓putT_some, ↓grd_true, grd_true, T.get_same, T.get_other, ↓evO_tmp, ↓grd_blt, grd_blt, Nat.add_zero, Nat.zero_add, Nat.reduceAdd, ↓ev_move, ↓ev_bin, ↓binCV_eq, binCV_eq, binR, ↓ev_not, Bool.not_true, Bool.not_false, ↓ev_call, ↓evOs_cons, ↓evOs_nil, ↓notMap_fn, notMap_fn, ↓evO_func, List.getElem?_cons_zero, List.getElem?_cons_succ, ↓natOf_nat, natOf_nat, ↓natOf_0, natOf_0, ↓natOf_1, natOf_1, ↓natOf_2, natOf_2, ↓sl22lo, sl22lo, ↓esl2, esl2, ↓w3, w3, ↓eov, eov]
        exact rfl
      refine CG.cond_true (fun k => by simp (maxSteps := 2000000) (disch := first | decide | omega | rfl) only [evO_tmp, optK_some, T.get_same, T.get_other] <;> rfl) ?_
      refine CG.seq ?_
      apply CG.draw dr20_15.1 dr20_15.2.1 dr20_15.2.2.1 dr20_15.2.2.2
      · intro k
        simp (maxSteps := 2000000) (disch := first | decide | omega | rfl) only [dl20_15, ol20_15, pp20_15, ↓runS_op, ↓runS_nil, ↓optK_some, optK_some, ↓putT_some, ↓grd_true, grd_true, T.get_same, T.get_other, ↓evO_tmp, ↓grd_blt, grd_blt, Nat.add_zero, Nat.zero_add, Nat.reduceAdd, ↓ev_move, ↓ev_bin, ↓binCV_eq, binCV_eq, binR, ↓ev_builtin, ↓evOs_cons, ↓evOs_nil, ↓stB_cells, ↓grd_beq, grd_beq, ↓grd_ble, grd_ble, List.length_cons, List.length_nil, newB, cellsT_cons, cellsT_nil, ↓natOf_nat, natOf_nat, ↓natOf_0, natOf_0, ↓natOf_1, natOf_1, ↓natOf_2, natOf_2, ↓drawD_op, ↓drawD_if, ↓drawD_nil, ↓lookK_nil, ↓lookK_cons, ↓chkD_cons, ↓chkD_nil, ↓nthK_zero, ↓nthK_succ, ↓bothK_true, ↓bothK_false, ↓again_eq, chkD_cons, chkD_nil, nthK_zero, nthK_succ, bothK_true, bothK_false, again_eq, same_int, same_bool, same_ptr, same_slice, same_slicO, same_nilslice, same_rg, same_a3, same_fn0, Bool.and_self, Bool.and_false, Bool.false_and, ↓sl22lo, sl22lo, ↓esl2, esl2, ↓esl, esl, ↓w3, w3, ↓e2, e2]
        exact rfl
      refine CG.seq ?_
      apply CG.reg
      · intro k
        simp (maxSteps := 2000000) (disch := first | decide | omega | rfl) only [s20_16, ↓runS_op, ↓runS_nil, ↓optK_some, optK_some, ↓putT_some, ↓grd_true, grd_true, T.get_same, T.get_other, ↓evO_tmp, ↓grd_blt, grd_blt, Nat.add_zero, Nat.zero_add, Nat.reduceAdd, ↓ev_move, ↓ev_builtin, ↓evOs_cons, ↓evOs_nil, ↓stB_cells, ↓grd_beq, grd_beq, ↓grd_ble, grd_ble, List.length_cons, List.length_nil, newB, cellsT_cons, cellsT_nil, ↓natOf_nat, natOf_nat, ↓natOf_0, natOf_0, ↓natOf_1, natOf_1, ↓natOf_2, natOf_2, ↓sl22lo, sl22lo, ↓esl, esl, ↓e3, e3]
        exact rfl
      refine CG.seq ?_
      apply CG.reg
      · intro k
        simp (maxSteps := 2000000) (disch := first | decide | omega | rfl) only [s20_17, ↓runS_op, ↓runS_nil, ↓optK_some, optK_some, ↓putT_some, ↓grd_true, grd_true, T.get_same, T.get_other, ↓evO_tmp, ↓grd_blt, grd_blt, ↓ev_move, ↓ev_assign]
        exact rfl
      refine CG.ret ?_
      refine ⟨_, _, _, ⟨b, _, _, .known c, rfl, .inl rfl, g3, by omega, ?_, .inl ⟨rfl, rfl, by omega⟩, Nat.le_refl _, fun x _ hx => g3x x hx⟩, fun k => by simp (disch := decide) only [finK_ret, resultsK_tmp, resultsK_nil, rc29, rc38, rc47, resP_ptr, ldKn_ptr, ldBn_cells, read3, read5, read8, newB, cellsT_cons, cellsT_nil, Nat.zero_add, Nat.reduceAdd, retK_one, retK_two, retK_nil, optK_some, T.get_same, T.get_other] <;> rfl⟩
      intro j x hj
      rw [cellsT_get, cellsT_get]
      rcases insL_get (by omega) hvl hj with ⟨j1, j2⟩ | ⟨j1, j2, j3⟩ | ⟨j1, j2⟩
      · rw [if_neg (by omega), if_neg (by omega)]
        exact hrow j x j2
      · rw [if_pos (by omega)]; exact j3
      · have := (List.getElem?_eq_some_iff.1 j2).1
        rw [if_neg (by omega), if_pos (by omega)]; exact j2
end Go.Proofs.YthdoelcgdgcncaaGreatDoor.I
/- slices.Insert of one region, whatever the capacity. -/
namespace Go.Proofs.YthdoelcgdgcncaaGreatDoor.I
open Go Go.Can
variable {β : Type}

theorem ins_zero (d : Nat) {s u0 : CV} {b2 q : Nat} {v : List CV} {h : T Blk} {nx : Nat} (hsl : ∀ k : CV → Res β, slK 3 (some 0) none s k = k u0) (hlen : ∀ (tys : List TypeId) (h : T Blk) (nx : Nat) (k : K β), opBuiltin .len (22 :: tys) [s] I.tab h nx k = k (.int .i64 0) h nx)
    (hap : ∀ k : K β, opBuiltin .append [22, 22] [s, .slice b2 0 q (.known q)] I.tab h nx k = k (.slice nx 0 1 (.opn 3)) (h.set nx (newB v)) (nx + 1)) (hq : q = 1) :
    FG (β := β) I.tab (d + 2) 20 [s, .int .i64 0, .slice b2 0 q (.known q)] h nx fun v' h' nx' => v' = .slice nx 0 1 (.opn 3) ∧ h' = h.set nx (newB v) ∧ nx' = nx + 1 := by
  refine FG.of (fn := Tryz.f20) (c := c20) (n := 95) (rs := [.tmp 6]) (by kernel_rfl) (by kernel_rfl) (by kernel_rfl) c20_ok rfl rfl (by simp) fun call hcall => ?_
  have c0 : decide ((q : Int) = 0) = false := decide_eq_false (by omega)
  have c1 : decide ((0 : Int) = 0) = true := rfl
  generalize hH : h.set nx (newB v) = H at hap
  simp only [cellsT_cons, cellsT_nil, Nat.zero_add, Nat.reduceAdd]
  unfold c20
  refine CG.seq ?_
  apply CG.reg
  · intro k
    simp (maxSteps := 2000000) (disch := first | decide | omega | rfl) only [s20_0, ↓runS_op, ↓runS_nil, ↓optK_some, optK_some, ↓putT_some, ↓grd_true, grd_true, T.get_same, T.get_other, ↓evO_tmp, ↓grd_blt, grd_blt, ↓evO_const, ofValue, Nat.add_zero, Nat.zero_add, Nat.reduceAdd, ↓ev_assign, ↓natOf_nat, natOf_nat, ↓natOf_0, natOf_0, ↓natOf_1, natOf_1, ↓natOf_2, natOf_2]
    exact rfl
  refine CG.seq ?_
  apply CG.reg
  · intro k
    simp (maxSteps := 2000000) (disch := first | decide | omega | rfl) only [s20_1, ↓runS_op, ↓runS_nil, ↓optK_some, optK_some, ↓putT_some, ↓grd_true, grd_true, T.get_same, T.get_other, ↓evO_tmp, ↓grd_blt, grd_blt, Nat.add_zero, Nat.zero_add, Nat.reduceAdd, ↓ev_move, ↓natOf_nat, natOf_nat, ↓natOf_0, natOf_0, ↓natOf_1, natOf_1, ↓natOf_2, natOf_2, ↓sl22lo, sl22lo, ↓hsl, hsl]
    exact rfl
  refine CG.seq ?_
  apply CG.reg
  · intro k
    simp (maxSteps := 2000000) (disch := first | decide | omega | rfl) only [s20_2, ↓runS_op, ↓runS_nil, ↓optK_some, optK_some, ↓putT_some, ↓grd_true, grd_true, T.get_same, T.get_other, ↓evO_tmp, ↓grd_blt, grd_blt, ↓ev_move, ↓ev_assign, ↓ev_builtin, ↓evOs_cons, ↓evOs_nil, ↓ln22, ln22, ↓lz22, lz22, ↓ln116, ln116, ↓lz116, lz116]
    exact rfl
  refine CG.seq ?_
  refine CG.seq ?_
  apply CG.reg
  · intro k
    simp (maxSteps := 2000000) (disch := first | decide | omega | rfl) only [s20_3, ↓runS_op, ↓runS_nil, ↓optK_some, optK_some, ↓putT_some, ↓grd_true, grd_true, T.get_same, T.get_other, ↓evO_tmp, ↓grd_blt, grd_blt, ↓evO_const, ofValue, ↓ev_move, ↓ev_bin, ↓binCV_eq, binCV_eq, binR, ↓c0, c0]
    exact rfl
  refine CG.cond_false (fun k => by simp (maxSteps := 2000000) (disch := first | decide | omega | rfl) only [evO_tmp, optK_some, T.get_same, T.get_other] <;> rfl) ?_
  refine CG.skip ?_
  refine CG.seq ?_
  apply CG.reg
  · intro k
    simp (maxSteps := 2000000) (disch := first | decide | omega | rfl) only [s20_5, ↓runS_op, ↓runS_nil, ↓optK_some, optK_some, ↓putT_some, ↓grd_true, grd_true, T.get_same, T.get_other, ↓evO_tmp, ↓grd_blt, grd_blt, ↓ev_move, ↓ev_assign, ↓ev_builtin, ↓evOs_cons, ↓evOs_nil, ↓ln22, ln22, ↓lz22, lz22, ↓ln116, ln116, ↓lz116, lz116, ↓hlen, hlen]
    exact rfl
  refine CG.seq ?_
  refine CG.seq ?_
  apply CG.reg
  · intro k
    simp (maxSteps := 2000000) (disch := first | decide | omega | rfl) only [s20_6, ↓runS_op, ↓runS_nil, ↓optK_some, optK_some, ↓putT_some, ↓grd_true, grd_true, T.get_same, T.get_other, ↓evO_tmp, ↓grd_blt, grd_blt, ↓ev_move, ↓ev_bin, ↓binCV_eq, binCV_eq, binR, ↓c1, c1]
    exact rfl
  refine CG.cond_true (fun k => by simp (maxSteps := 2000000) (disch := first | decide | omega | rfl) only [evO_tmp, optK_some, T.get_same, T.get_other] <;> rfl) ?_
  refine CG.seq ?_
  apply CG.reg
  · intro k
    simp (maxSteps := 2000000) (disch := first | decide | omega | rfl) only [s20_7, ↓runS_op, ↓runS_nil, ↓optK_some, optK_some, ↓putT_some, ↓grd_true, grd_true, T.get_same, T.get_other, ↓evO_tmp, ↓grd_blt, grd_blt, ↓ev_move, ↓ev_assign, ↓ev_builtin, ↓evOs_cons, ↓evOs_nil, ↓stB_cells, ↓grd_beq, grd_beq, ↓grd_ble, grd_ble, List.length_cons, List.length_nil, newB, cellsT_cons, cellsT_nil, ↓hap, hap]
    exact rfl
  refine CG.ret ?_
  exact ⟨_, _, _, ⟨rfl, rfl, rfl⟩, fun k => by simp (disch := decide) only [finK_ret, resultsK_tmp, resultsK_nil, rc29, rc38, rc47, resP_ptr, ldKn_ptr, ldBn_cells, read3, read5, read8, newB, cellsT_cons, cellsT_nil, Nat.zero_add, Nat.reduceAdd, retK_one, retK_two, retK_nil, optK_some, T.get_same, T.get_other] <;> rfl⟩

theorem widen {G : Nat} {σ : Sg} {h : T Blk} {nx : Nat} {w : World} (r : HRel G σ h nx w) {b N m : Nat} {cs : T CV} {L : Can.Loc} (hb : h.get b = some (.cells N cs true)) (hL : σ b = some L) (hm : L.off + m ≤ L.fin) (hN : N ≤ m) :
    HRel G σ (h.set b (.cells m cs true)) nx w := by
  have get : ∀ {c X}, (h.set b (.cells m cs true)).get c = some X → (c = b ∧ X = .cells m cs true) ∨ (c ≠ b ∧ h.get c = some X) := by
    intro c X e
    rw [T.get_set] at e
    by_cases hc : c = b
    · rw [if_pos hc] at e; exact .inl ⟨hc, (Option.some.inj e).symm⟩
    · rw [if_neg hc] at e; exact .inr ⟨hc, e⟩
  refine ⟨⟨r.dom, fun c L' X e e' => ?_, fun c c' L1 L2 X X' a a' e e' hw hq => ?_, r.glob⟩, fun c X e => ?_⟩
  · rcases get e' with ⟨rfl, rfl⟩ | ⟨hc, e'⟩
    · obtain ⟨arr, el, fz, g1, g2, g3, g4, g5⟩ := r.blk c L' _ e hb
      have := e.symm.trans hL
      cases this
      exact ⟨arr, el, fz, g1, hm, g3, g4, fun i x hi => ⟨by have := (g5 i x hi).1; omega, (g5 i x hi).2⟩⟩
    · exact r.blk c L' X e e'
  · rcases get e with ⟨p1, p2⟩ | ⟨hc, e1⟩ <;> rcases get e' with ⟨q1, q2⟩ | ⟨hc', e2⟩
    · rw [p1, q1]
    · subst p1; exact r.inj _ _ _ _ _ _ a a' hb e2 (.inl rfl) hq
    · subst q1; exact r.inj _ _ _ _ _ _ a a' e1 hb (.inr rfl) hq
    · exact r.inj _ _ _ _ _ _ a a' e1 e2 hw hq
  · rcases get e with ⟨rfl, rfl⟩ | ⟨hc, e⟩
    · exact ⟨L, hL⟩
    · exact r.full c X e

theorem ovl_is : OvlIs Tryz.prog I.tab 50 :=
  ⟨Tryz.f50, 22, _, 38, _, _, Tryz.func50, by kernel_rfl, by kernel_rfl, by kernel_rfl, rfl, ty22, rfl, ty38⟩

theorem primsOKI (β : Type) : PrimOK Tryz.prog I.tab β := primOK fun f p hp => by
  have : ∀ f p, (treeOf [(50, Prim.spec ovlG)]).get f = some p → f = 50 ∧ p = .spec ovlG := fun f p h => by
    have := treeOf_mem h
    simpa using this
  obtain ⟨rfl, rfl⟩ := this f p hp
  exact ovl_spec tabOKI ovl_is

theorem soundI (d : Nat) : CallOK Tryz.prog I.tab (callN (β := CV × T Blk × Nat) I.tab d) := sound tabOKI (primsOKI _) mixed d

/-- what the evaluator says of a call at the table of Insert, the program does -/
theorem soundFG {d : Nat} {f : FuncId} {args : List CV} {h : T Blk} {nx : Nat} {Q : CV → T Blk → Nat → Prop} (H : FG (β := CV × T Blk × Nat) I.tab d f args h nx Q) :
    ∃ v h' nx', Q v h' nx' ∧ nx ≤ nx' ∧ ∀ (σ : Sg) (argvs : Array Value) (w : World), VRels σ args argvs.toList → HRel 9 σ h nx w → Can.Good Tryz.prog ((callFunc f argvs).run Tryz.prog w) (Post 9 σ h w v h' nx') := by
  obtain ⟨v, h', nx', q, e⟩ := H
  obtain ⟨v2, h2, nx2, e2, hle, HH⟩ := soundI d _ _ _ _ _ _ (e fun v h n => .ok (v, h, n))
  cases e2
  exact ⟨v, h', nx', q, hle, fun σ argvs w hv hr => (HH σ argvs w (by simpa using hv) hr).1⟩

theorem vrels_get0 {σ : Sg} {l : List CV} {vs : List Value} (h : VRels σ l vs) {j : Nat} {x : CV} (hx : l[j]? = some x) : ∃ v0, VRel σ x v0 := let ⟨v, _, hv⟩ := h.get hx; ⟨v, hv⟩

theorem ins_spec : SpecIs Tryz.prog 9 20 (insG 3) := by
  intro args h nx v h' nx' hg
  unfold insG at hg
  split at hg
  · rename_i s i b2 o2 l2 c2
    split at hg
    · rename_i hc2
      obtain ⟨rfl, rfl, rfl⟩ := hc2
      split at hg
      · rename_i v2 hv2
        split at hg
        · rename_i hv1
          obtain ⟨m, cs2, hb2, hvl, hvg⟩ := rowOf_ok hv2
          have hvg' : ∀ (j : Nat) (x : CV), v2[j]? = some x → cs2.get j = some x := fun j x hj => by
            have := (List.getElem?_eq_some_iff.1 hj).1
            rw [hvg j (by omega)]; exact hj
          split at hg
          · split at hg
            · rename_i hi
              subst hi
              cases hg
              obtain ⟨v, h', nx', ⟨rfl, rfl, rfl⟩, hle, H⟩ := soundFG (ins_zero 0 (s := .nilslice) (b2 := b2) (q := 1) (v := v2) (h := h) (nx := nx) (fun k => slK_lo_nil k) (fun tys h nx k => lz22 tys)
                (fun k => by rw [append_same ty22 (e := 38) (sz := 3) (by' := 24) rfl ty38 (by kernel_rfl) (by kernel_rfl)]; exact app_nil (by omega) (by omega) (by omega) (by omega) hb2 (by omega) (fun j x hj => by rw [Nat.zero_add]; exact hvg' j x hj) hv1) rfl)
              exact ⟨hle, H⟩
            · cases hg
          · rename_i b o len c
            split at hg
            · rename_i N cs rw hb
              split at hg
              · rename_i hi
                obtain ⟨rfl, rfl, rfl, rfl⟩ := hi
                cases hg
                obtain ⟨v, h', nx', ⟨rfl, rfl, rfl⟩, hle, H⟩ := soundFG (ins_zero 0 (s := .slice b 0 0 (.known 0)) (b2 := b2) (q := 1) (v := v2) (h := h) (nx := nx) (fun k => slK_lo_end k (by omega) (by omega)) (fun tys h nx k => ln22 tys b 0 0 _)
                  (fun k => by rw [append_same ty22 (e := 38) (sz := 3) (by' := 24) rfl ty38 (by kernel_rfl) (by kernel_rfl)]; exact app_new (row := []) (by omega) (by omega) (by omega) (by omega) hb2 (by omega) (fun j x hj => by rw [Nat.zero_add]; exact hvg' j x hj) hv1 hb rfl (fun j x hj => by simp at hj) rfl) rfl)
                exact ⟨hle, H⟩
              · cases hg
            · cases hg
          · rename_i b o len e
            split at hg
            · rename_i row hrow
              split at hg
              · rename_i hi
                obtain ⟨rfl, rfl, hne, hi, hn, hr1⟩ := hi
                cases hg
                refine ⟨Nat.le_succ _, fun σ argvs w hv hr => ?_⟩
                obtain ⟨N, cs, hb, hrl, hrg⟩ := rowOf_ok hrow
                have hrg' : ∀ (j : Nat) (x : CV), row[j]? = some x → cs.get j = some x := fun j x hj => by
                  have := (List.getElem?_eq_some_iff.1 hj).1
                  rw [hrg j (by omega)]; exact hj
                obtain ⟨x, y, z, rfl, hx, hy, hz⟩ := vrels3 hv
                obtain ⟨L, c, hL, rfl, hlc, _, hcap⟩ := hx
                obtain ⟨L2, _, hL2, _⟩ := hz
                have hB := hr.blk b L _ hL hb
                have hB2 := hr.blk b2 L2 _ hL2 hb2
                have hNc : N ≤ c * 3 := by obtain ⟨_, _, _, _, g2, _⟩ := hB; omega
                have hr' := widen hr (m := c * 3) hb hL (by omega) hNc
                have hbn := (hr.dom b L hL).1
                have hbn2 := (hr.dom b2 L2 hL2).1
                obtain ⟨v', h', nx', ⟨M, cs', N', cap, rfl, hM, hgM, hN', hget, hcp, hle', hoth⟩, hle, H⟩ := soundFG (ins_ok 0 (b := b) (b2 := b2) (n := len) (c := c) (i := i) (q := 1) (cs := cs) (cs2 := cs2) (row := row) (v := v2) (h := h.set b (.cells (c * 3) cs true)) (nx := nx)
                  (T.get_same _ _ _) hrl hrg' hr1 (by rw [T.get_other _ _ (Ne.symm hne)]; exact hb2) hvl hvg' hv1 hne hbn hbn2 hi hlc hn rfl)
                refine Can.Good.mono (H σ _ w ⟨_, _, rfl, ⟨L, c, hL, rfl, hlc, rfl⟩, _, _, rfl, hy, _, _, rfl, ⟨L2, _, hL2, by assumption⟩, rfl⟩ hr') ?_
                intro v' w' ⟨σ', hv', hr2, hst⟩
                obtain ⟨L', c', hL', rfl, hlc', hcap'⟩ := hv'
                have hsubB : ∀ c1 X, (h.set b (.cells (c * 3) cs true)).get c1 = some X → c1 ≠ b → h.get c1 = some X := fun c1 X e hc => by rwa [T.get_other _ _ hc] at e
                have hj := hr.join (h0 := h.del b) (h1 := h.set b (.cells (c * 3) cs true)) hr2 hst (fun c1 B1 e => by
                    by_cases hc : c1 = b
                    · subst hc; exact ⟨_, hb, fun _ => rfl⟩
                    · exact ⟨_, hsubB _ _ e hc, fun h => h⟩) (fun c1 B e => by
                    by_cases hc : c1 = b
                    · subst hc; exact ⟨_, T.get_same _ _ _, fun _ => rfl⟩
                    · exact ⟨_, by rw [T.get_other _ _ hc]; exact e, fun h => h⟩) (fun c1 B e => by
                    rw [T.get_del] at e
                    split at e
                    · cases e
                    · rename_i hc
                      obtain ⟨L1, hL1⟩ := hr.full c1 B e
                      have h1 := (hr.dom c1 L1 hL1).1
                      refine ⟨e, ?_⟩
                      rw [hoth c1 h1 (by rcases hM with rfl | hM <;> omega), T.get_other _ _ hc]; exact e) hL' hgM (by
                    rw [T.get_del]
                    split
                    · rfl
                    · rename_i hc
                      rcases hM with rfl | hM
                      · exact absurd rfl hc
                      · cases e : h.get M with
                        | none => rfl
                        | some B =>
                          obtain ⟨L1, hL1⟩ := hr.full M B e
                          have := (hr.dom M L1 hL1).1
                          omega) (l := insL row v2 i) (by rw [insL_len hrl hvl hi]; exact hN') (fun j x hj => ⟨hget j x hj, by
                    rcases insL_get (by omega) hvl hj with ⟨j1, j2⟩ | ⟨j1, j2, j3⟩ | ⟨j1, j2⟩
                    · obtain ⟨_, _, _, _, _, _, _, g5⟩ := hB
                      obtain ⟨_, u, _, hu⟩ := g5 j x (hrg' j x j2)
                      exact ⟨u, hu⟩
                    · obtain ⟨_, _, _, _, _, _, _, g5⟩ := hB2
                      obtain ⟨_, u, _, hu⟩ := g5 _ x (hvg' _ x j3)
                      exact ⟨u, hu⟩
                    · rw [List.getElem?_drop] at j2
                      obtain ⟨_, _, _, _, _, _, _, g5⟩ := hB
                      obtain ⟨_, u, _, hu⟩ := g5 _ x (hrg' _ x j2)
                      exact ⟨u, hu⟩⟩)
                refine ⟨_, ⟨L', c', Sg.upd_same _ _ _, rfl, hlc', ?_⟩, hj.1, hj.2⟩
                rcases hcp with ⟨rfl, rfl, hcn⟩ | rfl
                · cases hcap'
                  have := (hst.le _ _ hL).symm.trans hL'
                  cases this
                  exact ⟨by omega, hcap⟩
                · exact hcap'
              · cases hg
            · cases hg
          · cases hg
        · cases hg
      · cases hg
    · cases hg
  · cases hg
end Go.Proofs.YthdoelcgdgcncaaGreatDoor.I
