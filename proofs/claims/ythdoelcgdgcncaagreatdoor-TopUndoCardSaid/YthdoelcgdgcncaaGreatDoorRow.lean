/- TopUndo: the row and the card: whatever the regions, the call and the page, the law returns true and leaves its arguments alone. Condition: the nine listed package variables read as the program's text lays them (the card ties them to it). -/
import Derived.Test.YthdoelcgdgcncaaGreatDoorWalkE
import Derived.Test.YthdoelcgdgcncaaGreatDoorCan5
import Derived.Test.YthdoelcgdgcncaaGreatDoorRows
import Derived.Test.YthdoelcgdgcncaaGreatDoorCards
import Derived.Test.YthdoelcgdgcncaaGreatDoorTie
import Derived.SevenTiedAt
set_option maxRecDepth 100000
set_option maxHeartbeats 4000000
set_option linter.unusedVariables false
set_option linter.unusedSimpArgs false
namespace Go.Proofs.YthdoelcgdgcncaaGreatDoor
open Go Go.Can Go.ChangeShapes Go.WideShapes Go.RowKit Go.Deep

theorem own : ownKnob Tryz.prog.godebug = none := by kernel_rfl
theorem laidOut : laidOutB Tryz.prog = true := by kernel_rfl
theorem cells38 : Tryz.prog.cellsOf 38 = 3 := by kernel_rfl
theorem cells23 : Tryz.prog.cellsOf 23 = 1 := by kernel_rfl
theorem cells24 : Tryz.prog.cellsOf 24 = 3 := by kernel_rfl
theorem cells3 : Tryz.prog.cellsOf 3 = 1 := by kernel_rfl
theorem cells4 : Tryz.prog.cellsOf 4 = 1 := by kernel_rfl
theorem reads : Tryz.f3.params.toList.all (fun t => Tryz.prog.readableRec t && decide (t < Tryz.prog.types.size)) = true := by kernel_rfl
theorem covG : covers gs 9 = true := by kernel_rfl

theorem lives_prim : PrimIs Tryz.prog tab 6 (.const gs (.bool true)) := ⟨lives_const, fun x hx => by
  have h : gs.all (fun x => Nat.blt x.1 9) = true := by kernel_rfl
  exact Nat.le_of_ble_eq_true (List.all_eq_true.1 h x hx)⟩
theorem primsOK (β : Type) : PrimOK Tryz.prog tab β := primOK (primsOK_of (ps := (6, .const gs (.bool true)) :: (20, .spec (insG 3)) :: prims) rfl ⟨lives_prim, I.ins_spec, prims_ok _⟩)
theorem soundT (d : Nat) : CallOK Tryz.prog tab (callN (β := CV × T Blk × Nat) tab d) := sound tabOK (primsOK _) mixed d

theorem wf_u64 {n : Int} (h : (Lit.int .u64 n).wf = true) : 0 ≤ n ∧ n < 18446744073709551616 := by have := bounds_u64 h; omega

/-- the call's number and words -/
theorem open_call {H : Type} {enc : TypeId × Value → H} {w : World} {base : Nat} {sp : Nat → Bool} {held : Bool} {r : Reach} {b0 : Nat} {v : Value} {d : DataW H} {ps : List MemPlace} (hv : Value.okWide Tryz.prog w r b0 26 v) (h : DataW.Trod enc Tryz.prog w base sp held 26 v d ps) :
    ∃ n a0 a1 a2 : Nat, v = .agg #[.int .u64 (n : Int), .int .u64 (a0 : Int), .int .u64 (a1 : Int), .int .u64 (a2 : Int)] := by
  simp only [Value.okWide, Tryz.underlying26] at hv
  obtain ⟨cs, rfl, hcs, _⟩ := hv
  obtain ⟨fuel, hf⟩ := h
  obtain ⟨y0, y1, n, _, hlen, h0, h1⟩ := trod_struct2 Tryz.underlying26 hf
  obtain ⟨xs, m, _, _, hl3, _, hg⟩ := DataW.trod_array Tryz.underlying24 h1
  simp only [Value.cells, cells23, cells24] at h0 hl3 hg hlen
  obtain ⟨k0, e0, _, w0⟩ := DataW.trod_int Tryz.underlying23 h0
  have g0 := hg 0 (by omega)
  have g1 := hg 1 (by omega)
  have g2 := hg 2 (by omega)
  obtain ⟨l⟩ := cs
  have hl : l.length = 4 := by
    have : Tryz.prog.cellsOf 26 = 4 := by kernel_rfl
    rw [this] at hlen
    simpa using hlen
  match l, hl with
  | [c0, c1, c2, c3], _ =>
    simp only [List.drop, List.take, Nat.zero_mul, Nat.one_mul, List.drop_zero] at e0 g0 g1 g2
    have gx : ∀ {c : Value} {y : Option (DataW H × List MemPlace)}, DataW.trod enc Tryz.prog w base sp held m 23 [c] = y → y.isSome = true → ∃ k : Nat, c = .int .u64 (k : Int) := by
      intro c y hy hs
      obtain ⟨y, rfl⟩ := Option.isSome_iff_exists.1 hs
      obtain ⟨k, e, _, hw⟩ := DataW.trod_int Tryz.underlying23 hy
      have := wf_u64 hw
      simp at e
      subst e
      exact ⟨k.toNat, by rw [Int.toNat_of_nonneg this.1]⟩
    have h3 : xs.length = 3 := by assumption
    obtain ⟨k1, rfl⟩ := gx g0 (by simp [h3])
    obtain ⟨k2, rfl⟩ := gx g1 (by simp [h3])
    obtain ⟨k3, rfl⟩ := gx g2 (by simp [h3])
    have hw0 := wf_u64 w0
    simp at e0
    subst e0
    exact ⟨k0.toNat, k1, k2, k3, by rw [Int.toNat_of_nonneg hw0.1]⟩
end Go.Proofs.YthdoelcgdgcncaaGreatDoor
/- TopUndo: the row and the card: whatever the regions, the call and the page, the law returns true and leaves its arguments alone. Condition: the nine listed package variables read as the program's text lays them (the card ties them to it). -/
namespace Go.Proofs.YthdoelcgdgcncaaGreatDoor
open Go Go.Can Go.ChangeShapes Go.WideShapes Go.RowKit Go.Deep

instance : Inhabited Rg := ⟨⟨0, 0, false⟩⟩

theorem flat_inv : ∀ (l : List Rg) (j : Nat) (c : CV), (flat l)[j]? = some c → ∃ (i : Nat) (r : Rg), l[i]? = some r ∧ ((j = i * 3 ∧ c = .int .u64 r.a) ∨ (j = i * 3 + 1 ∧ c = .int .i64 r.c) ∨ (j = i * 3 + 2 ∧ c = .bool r.w))
  | [], j, c, h => by simp [flat] at h
  | r :: l, 0, c, h => by simp [flat] at h; exact ⟨0, r, rfl, .inl ⟨rfl, h.symm⟩⟩
  | r :: l, 1, c, h => by simp [flat] at h; exact ⟨0, r, rfl, .inr (.inl ⟨rfl, h.symm⟩)⟩
  | r :: l, 2, c, h => by simp [flat] at h; exact ⟨0, r, rfl, .inr (.inr ⟨rfl, h.symm⟩)⟩
  | r :: l, j + 3, c, h => by
    have h' : (flat l)[j]? = some c := by simpa [flat] using h
    obtain ⟨i, s, hi, hq⟩ := flat_inv l j c h'
    refine ⟨i + 1, s, by simpa using hi, ?_⟩
    rcases hq with ⟨q, e⟩ | ⟨q, e⟩ | ⟨q, e⟩
    · exact .inl ⟨by omega, e⟩
    · exact .inr (.inl ⟨by omega, e⟩)
    · exact .inr (.inr ⟨by omega, e⟩)

theorem open_regs {H : Type} {enc : TypeId × Value → H} {w : World} {sp : Nat → Bool} {held : Bool} {r : Reach} {b0 : Nat} {v : Value} {d : DataW H} {ps : List MemPlace} (hv : Value.okWide Tryz.prog w r b0 22 v) (h : DataW.Trod enc Tryz.prog w 0 sp held 22 v d ps) :
    v = .slice none 0 0 ∨ ∃ (blk off len cap : Nat) (arr : Array Value) (e : TypeId) (fz : Nat × Nat) (l : List Rg), v = .slice (some ⟨blk, off, none⟩) len cap ∧ w.heap[blk]? = some (.cells arr e fz) ∧ l.length = len ∧ len ≤ cap ∧ (∀ r ∈ l, r.ok) ∧
      ∀ (j : Nat) (c : CV), (flat l)[j]? = some c → ∃ u, arr[off + j]? = some u ∧ ∀ σ, VRel σ c u := by
  obtain ⟨a0, len, cap, rfl⟩ := okWide_slice Tryz.underlying22 hv
  obtain ⟨fuel, hf⟩ := h
  rcases open_slice Tryz.underlying22 hf with ⟨hcs, _⟩ | ⟨a, len', cap', m, n, D, Pl, hcs, _, hl, hm, hmm, _, hx⟩
  · simp [Value.cells] at hcs
    obtain ⟨rfl, rfl, rfl⟩ := hcs
    exact .inl rfl
  · simp [Value.cells] at hcs
    obtain ⟨rfl, rfl, rfl⟩ := hcs
    right
    simp only [Value.okWide, Tryz.underlying22, Cell.okWide, Cell.ok, World.has] at hv
    obtain ⟨_, _, _, hspot, ty, cells, hsh, _⟩ := hv
    obtain ⟨blk, off, spot⟩ := a
    cases hspot
    have hlm : len ≤ m := by rw [hmm]; split <;> omega
    have hblk : ∃ arr e fz, w.heap[blk]? = some (.cells arr e fz) := by
      simp only [World.shape?] at hsh
      split at hsh
      · exact ⟨_, _, _, by assumption⟩
      · cases hsh
    obtain ⟨arr, e, fz, hb⟩ := hblk
    have cell : ∀ (x : Nat) (u : Value), w.cell? ⟨blk, x, none⟩ = some u → arr[x]? = some u := fun x u hu => by
      simpa [World.cell?, hb] using hu
    have each : ∀ i, i < len → ∃ q : Rg, q.ok ∧ arr[off + i * 3]? = some (.int .u64 q.a) ∧ arr[off + (i * 3 + 1)]? = some (.int .i64 q.c) ∧ arr[off + (i * 3 + 2)]? = some (.bool q.w) := by
      intro i hi
      obtain ⟨cs', h1, h2⟩ := hx i (by omega)
      rw [cells38] at h1
      obtain ⟨_, hlen, hcell⟩ := World.cells?_some h1
      obtain ⟨y0, y1, y2, k, _, _, g0, g1, g2⟩ := trod_struct3 Tryz.underlying38 h2
      match cs', hlen with
      | [v0, v1, v2], _ =>
        simp only [cells23, cells3, cells4, List.drop, List.take] at g0 g1 g2
        obtain ⟨x0, e0, _, w0⟩ := DataW.trod_int Tryz.underlying23 g0
        obtain ⟨x1, e1, _, w1⟩ := DataW.trod_int Tryz.underlying3 g1
        obtain ⟨x2, e2, _⟩ := DataW.trod_bool Tryz.underlying4 g2
        simp at e0 e1 e2
        subst e0; subst e1; subst e2
        have c0 := hcell 0 (by omega)
        have c1 := hcell 1 (by omega)
        have c2 := hcell 2 (by omega)
        rw [add_add, Addr.add_at] at c0 c1 c2
        have b0 := wf_u64 w0
        have b1 := bounds_i64 w1
        exact ⟨⟨x0, x1, x2⟩, ⟨b0.1, b0.2, b1.1, Int.lt_of_le_of_lt b1.2 (by decide)⟩, cell _ _ (by simpa using c0), cell _ _ (by simpa using c1), cell _ _ (by simpa using c2)⟩
    obtain ⟨f, hf'⟩ := choose_lt each
    refine ⟨blk, off, len, cap, arr, e, fz, (List.range len).map f, rfl, hb, by simp, hl, ?_, ?_⟩
    · intro q hq
      obtain ⟨i, hi, rfl⟩ := List.mem_map.1 hq
      exact (hf' i (List.mem_range.1 hi)).1
    · intro j c hj
      obtain ⟨i, q, hi, hq⟩ := flat_inv _ _ _ hj
      have hil : i < len := by
        have := (List.getElem?_eq_some_iff.1 hi).1
        simpa using this
      rw [List.getElem?_map, List.getElem?_range hil] at hi
      simp at hi
      subst hi
      obtain ⟨_, p0, p1, p2⟩ := hf' i hil
      rcases hq with ⟨rfl, rfl⟩ | ⟨rfl, rfl⟩ | ⟨rfl, rfl⟩
      · exact ⟨_, p0, fun _ => rfl⟩
      · exact ⟨_, p1, fun _ => rfl⟩
      · exact ⟨_, p2, fun _ => rfl⟩

noncomputable def laidV : List (String × DataW Unit) := Rows.topUndoRow.laid

theorem laid_eq : laidV = laid := rfl
theorem laid_preH {w : World} (h : laidMetH Tryz.prog laidV w) : PreG gs w := by
  rw [MakeChecks.laidMetH_plain _ _ _ (by kernel_rfl)] at h
  exact laid_pre laid_rows h

theorem undo_calls {W : World} (hp : PreG gs W) {H : Type} {enc : TypeId × Value → H} {b0 : Nat} {v0 v1 : Value} {d0 d1 : DataW H} {p0 p1 : List MemPlace} {x : Int} (hv0 : Value.okWide Tryz.prog W .any b0 22 v0) (h0 : DataW.Trod enc Tryz.prog W 0 (fun _ => true) true 22 v0 d0 p0)
    (hv1 : Value.okWide Tryz.prog W .any b0 26 v1) (h1 : DataW.Trod enc Tryz.prog W 0 (fun _ => true) true 26 v1 d1 p1) (hx0 : 0 ≤ x) (hx1 : x < 18446744073709551616) :
    Calls Tryz.prog 3 #[v0, v1, .int .u64 x] W fun e w' => e = .returned (.bool true) ∧ Below W.heap.size W w' := by
  obtain ⟨n, a0, a1, a2, rfl⟩ := open_call hv1 h1
  have hc : ∀ σ : Sg, VRel σ (.agg [.int .u64 (n : Int), .int .u64 (a0 : Int), .int .u64 (a1 : Int), .int .u64 (a2 : Int)]) (.agg #[.int .u64 (n : Int), .int .u64 (a0 : Int), .int .u64 (a1 : Int), .int .u64 (a2 : Int)]) := fun σ =>
    ⟨_, rfl, _, _, rfl, rfl, _, _, rfl, rfl, _, _, rfl, rfl, _, _, rfl, rfl, rfl⟩
  rcases open_regs hv0 h0 with rfl | ⟨blk, off, len, cap, arr, e, fz, l, rfl, hb, hl, hlc, hok, hfl⟩
  · have H := undo_ok (β := CV × T Blk × Nat) 0 (v := .nilslice) (l := []) (n := n) (a0 := a0) (a1 := a1) (a2 := a2) (page := x) (h := heap0) (nx := 9) (fun _ _ => rfl) (by omega) (.inl ⟨rfl, rfl⟩) (fun r hr => by simp at hr) hx0 hx1
    obtain ⟨v, h', nx', ⟨hv, _⟩, e⟩ := H
    exact calls_of (soundT 10) (by kernel_rfl) start_rw0 ⟨v, h', nx', hv, e⟩ (σ := sg0 9 W) ⟨_, _, rfl, rfl, _, _, rfl, hc _, _, _, rfl, rfl, rfl⟩ (start_rel covG hp)
  · have hcs : ∀ (i : Nat) (c : CV), (cellsT (flat l) off .nil).get i = some c → (i < (if len = 0 then 0 else off + len * 3) ∧ ∃ v, arr[i]? = some v ∧ ∀ σ, VRel σ c v) := by
      intro i c hi
      rw [cellsT_get] at hi
      split at hi
      · rename_i hr
        have hfle := flat_len l
        rw [hl] at hfle
        obtain ⟨u, hu, hu2⟩ := hfl _ _ hi
        rw [show off + (i - off) = i by omega] at hu
        refine ⟨?_, u, hu, hu2⟩
        rw [if_neg (by omega)]; omega
      · simp [T.nil_get] at hi
    have hn : (if len = 0 then 0 else off + len * 3) ≤ arr.size := by
      split
      · omega
      · rename_i hl0
        have hfle := flat_len l
        obtain ⟨c, hc⟩ : ∃ c, (flat l)[len * 3 - 1]? = some c := ⟨_, List.getElem?_eq_getElem (by rw [hfle, hl]; omega)⟩
        obtain ⟨u, hu, _⟩ := hfl _ _ hc
        have := (Array.getElem?_eq_some_iff.1 hu).1
        omega
    have hr := start_rel1 (n := if len = 0 then 0 else off + len * 3) (cs := cellsT (flat l) off .nil) covG hp hb hn hcs
    have H := undo_ok (β := CV × T Blk × Nat) 0 (v := .slice 9 off len (.known cap)) (l := l) (n := n) (a0 := a0) (a1 := a1) (a2 := a2) (page := x) (h := (heapT gs .nil).set 9 (.cells (if len = 0 then 0 else off + len * 3) (cellsT (flat l) off .nil) false)) (nx := 10)
      (fun g hg => by rw [T.get_other _ _ (by omega)]; rfl) (by omega)
      (.inr ⟨9, off, .known cap, by rw [hl], by omega, _, _, _, T.get_same _ _ _, fun i r hi => by
        obtain ⟨q0, q1, q2⟩ := flat_get l i r hi
        have hfle := flat_len l
        have hil := (List.getElem?_eq_some_iff.1 hi).1
        refine ⟨?_, ?_, ?_⟩
        · rw [cellsT_get, if_pos ⟨by omega, by omega⟩, ← q0]; congr 1; omega
        · rw [cellsT_get, if_pos ⟨by omega, by omega⟩, ← q1]; congr 1; omega
        · rw [cellsT_get, if_pos ⟨by omega, by omega⟩, ← q2]; congr 1; omega⟩) hok hx0 hx1
    obtain ⟨v, h', nx', ⟨hv, _⟩, e⟩ := H
    exact calls_of (soundT 10) (by kernel_rfl) start_rw ⟨v, h', nx', hv, e⟩ ⟨_, _, rfl, ⟨_, cap, Sg.upd_same _ _ _, by simp, hlc, rfl⟩, _, _, rfl, hc _, _, _, rfl, rfl, rfl⟩ hr
end Go.Proofs.YthdoelcgdgcncaaGreatDoor
