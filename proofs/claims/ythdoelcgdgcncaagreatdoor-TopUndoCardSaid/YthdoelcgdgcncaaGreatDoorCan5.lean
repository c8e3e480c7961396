/- The evaluator and its soundness, part 5: what it says of a call, the program does, whatever the tape. No condition. -/
import Derived.Test.YthdoelcgdgcncaaGreatDoorCan4
import Derived.Lib.Overlaps
import Derived.ProofKit
import Derived.LaidMore
import Derived.LaidHandle
import Derived.MakeChecks
import Derived.Handed
import Derived.Carry
import Derived.Deep.Slices
import Derived.Deep.Strs
import Derived.Stop.Joined
import Derived.Deep.Onto
set_option linter.unusedVariables false
set_option linter.unusedSimpArgs false
namespace Go.Can
variable {β : Type}

/-! ## rules for memory -/

theorem lenN_list (l : List CV) : lenN l = l.length := lenN_eq l

noncomputable def ldB1 (B : Blk) (o : Nat) (k : CV → Res β) : Res β :=
  match B with
  | .cells _ cs _ => optK 10 (cs.get o) k
  | _ => .bad 7
noncomputable def ldK1 (a : CV) (h : T Blk) (k : CV → Res β) : Res β :=
  match a with
  | .ptr b o => optK 6 (h.get b) fun B => ldB1 B o k
  | _ => .bad 37
theorem ldK1_ptr (b o : Nat) (h : T Blk) (k : CV → Res β) : ldK1 (.ptr b o) h k = optK 6 (h.get b) fun B => ldB1 B o k := Eq.trans rfl rfl
theorem ldB1_cells (n : Nat) (cs : T CV) (rw : Bool) (o : Nat) (k : CV → Res β) : ldB1 (.cells n cs rw) o k = optK 10 (cs.get o) k := Eq.trans rfl rfl

noncomputable def ldBn (m : Nat) (B : Blk) (o : Nat) (k : CV → Res β) : Res β :=
  match B with
  | .cells _ cs _ => readCells cs m o fun vs => k (.agg vs)
  | _ => .bad 7
noncomputable def ldKn (m : Nat) (a : CV) (h : T Blk) (k : CV → Res β) : Res β :=
  match a with
  | .ptr b o => optK 6 (h.get b) fun B => ldBn m B o k
  | _ => .bad 37
theorem ldKn_ptr (m b o : Nat) (h : T Blk) (k : CV → Res β) : ldKn m (.ptr b o) h k = optK 6 (h.get b) fun B => ldBn m B o k := Eq.trans rfl rfl
theorem ldBn_cells (m n : Nat) (cs : T CV) (rw : Bool) (o : Nat) (k : CV → Res β) : ldBn m (.cells n cs rw) o k = readCells cs m o fun vs => k (.agg vs) := Eq.trans rfl rfl
theorem read0 (cs : T CV) (o : Nat) (k : List CV → Res β) : readCells cs 0 o k = k [] := Eq.trans rfl rfl
theorem readS (cs : T CV) (m o : Nat) (k : List CV → Res β) : readCells cs (m + 1) o k = optK 3 (cs.get o) fun v => readCells cs m (o + 1) fun vs => k (v :: vs) := Eq.trans rfl rfl
theorem read3 (cs : T CV) (o : Nat) (k : List CV → Res β) : readCells cs 3 o k = optK 3 (cs.get o) fun x => optK 3 (cs.get (o + 1)) fun y => optK 3 (cs.get (o + 2)) fun z => k [x, y, z] := Eq.trans rfl rfl
theorem read5 (cs : T CV) (o : Nat) (k : List CV → Res β) : readCells cs 5 o k = optK 3 (cs.get o) fun x => optK 3 (cs.get (o + 1)) fun y => optK 3 (cs.get (o + 2)) fun z => optK 3 (cs.get (o + 3)) fun u => optK 3 (cs.get (o + 4)) fun v => k [x, y, z, u, v] := Eq.trans rfl rfl
theorem read8 (cs : T CV) (o : Nat) (k : List CV → Res β) : readCells cs 8 o k = optK 3 (cs.get o) fun x => optK 3 (cs.get (o + 1)) fun y => optK 3 (cs.get (o + 2)) fun z => optK 3 (cs.get (o + 3)) fun u => optK 3 (cs.get (o + 4)) fun v =>
  optK 3 (cs.get (o + 5)) fun a => optK 3 (cs.get (o + 6)) fun b => optK 3 (cs.get (o + 7)) fun c => k [x, y, z, u, v, a, b, c] := Eq.trans rfl rfl

section
variable {tab : Tab} {call : CallT β} {t : T CV} {h : T Blk} {nx : Nat} {k : K β}

theorem ev_load1 {ty : TypeId} {ti : TI} (hty : tab.types.get ty = some ti) (ha : ti.agg = false) (a : Operand) : evOp (.load ty a) tab call t h nx k = evO a tab t fun a => ldK1 a h fun v => k v h nx := by
  rw [ev_load]
  congr 1
  funext a
  cases a <;> first | rfl | skip
  rename_i b o
  show tyK tab ty _ = _
  simp only [tyK, hty, optK_some, getVar, ha, ldK1, blkK]
  congr 1
  funext B
  cases B <;> rfl

theorem ev_loadn {ty : TypeId} {ti : TI} {m : Nat} (hty : tab.types.get ty = some ti) (ha : ti.agg = true) (hs : ti.size = m) (a : Operand) : evOp (.load ty a) tab call t h nx k = evO a tab t fun a => ldKn m a h fun v => k v h nx := by
  rw [ev_load]
  congr 1
  funext a
  cases a <;> first | rfl | skip
  rename_i b o
  show tyK tab ty _ = _
  simp only [tyK, hty, optK_some, getVar, ha, ldKn, blkK, hs]
  congr 1
  funext B
  cases B <;> rfl

/-- a row of cells stored -/
noncomputable def stB (l : List CV) (B : Blk) (o : Nat) (k : Blk → Res β) : Res β :=
  match B with
  | .cells n cs rw => grd 11 rw <| grd 12 (Nat.ble (o + l.length) n) <| grd 4 (l.all CV.one) <| k (.cells n (cellsT l o cs) true)
  | _ => .bad 7
noncomputable def stK (m b o : Nat) (v : CV) (h : T Blk) (k : T Blk → Res β) : Res β := grd 38 (Nat.beq v.cells.length m) (optK 6 (h.get b) fun B => stB v.cells B o fun B => k (h.set b B))
noncomputable def ptrOf (c : CV) (k : Nat → Nat → Res β) : Res β :=
  match c with
  | .ptr b o => k b o
  | _ => .bad 39
theorem ptrOf_ptr (b o : Nat) (k : Nat → Nat → Res β) : ptrOf (.ptr b o) k = k b o := Eq.trans rfl rfl
theorem stK_eq (m b o : Nat) (v : CV) (h : T Blk) (k : T Blk → Res β) : stK m b o v h k = grd 38 (Nat.beq v.cells.length m) (optK 6 (h.get b) fun B => stB v.cells B o fun B => k (h.set b B)) := Eq.trans rfl rfl
theorem stB_cells (l : List CV) (n : Nat) (cs : T CV) (rw : Bool) (o : Nat) (k : Blk → Res β) : stB l (.cells n cs rw) o k = grd 11 rw (grd 12 (Nat.ble (o + l.length) n) (grd 4 (l.all CV.one) (k (.cells n (cellsT l o cs) true)))) := Eq.trans rfl rfl

theorem writeCells_one : ∀ (l : List CV) (cs : T CV) (o : Nat) (k : T CV → Res β), l.all CV.one = true → writeCells l cs o k = k (cellsT l o cs)
  | [], cs, o, k, _ => rfl
  | v :: l, cs, o, k, h => by
    simp only [List.all_cons, Bool.and_eq_true] at h
    show grd 4 v.one (cs.setK o v fun cs => writeCells l cs (o + 1) k) = _
    rw [h.1, grd_true, setK_eq, writeCells_one l _ _ k h.2]
    rfl
theorem writeCells_grd : ∀ (l : List CV) (cs : T CV) (o : Nat) (k : T CV → Res β), writeCells l cs o k = grd 4 (l.all CV.one) (k (cellsT l o cs))
  | [], cs, o, k => rfl
  | v :: l, cs, o, k => by
    have e : writeCells (v :: l) cs o k = grd 4 v.one (cs.setK o v fun cs => writeCells l cs (o + 1) k) := Eq.trans rfl rfl
    rw [e, List.all_cons]
    cases hv : v.one with
    | false => rfl
    | true =>
      rw [grd_true, setK_eq, writeCells_grd l _ _ k]
      simp only [Bool.true_and]
      rfl

/-- the cells of a new block -/
noncomputable def newB (l : List CV) : Blk := .cells l.length (cellsT l 0 .nil) true

theorem newCells_eq1 {l : List CV} {k : Nat → T Blk → Nat → Res β} (hl : l.all CV.one = true) : newCells l h nx k = k nx (h.set nx (newB l)) (nx + 1) := by
  unfold newCells
  rw [writeCells_one _ _ _ _ hl, lenK_eq, newBlk_eq, Nat.zero_add]
  rfl

theorem ev_alloc1 {ty : TypeId} {ti : TI} {l : List CV} (hty : tab.types.get ty = some ti) (hz : ti.zero.cells = l) (hl : l.all CV.one = true) : evOp (.alloc ty) tab call t h nx k = k (.ptr nx 0) (h.set nx (newB l)) (nx + 1) := by
  rw [ev_alloc, tyK, hty, optK_some, hz, newCells_eq1 hl]

noncomputable def boxK (v : CV) (h : T Blk) (nx : Nat) (k : K β) : Res β := newCells v.cells h nx fun b h nx => k (.ptr b 0) h nx
theorem ev_box1 (ty : TypeId) (x : Operand) : evOp (.box ty x) tab call t h nx k = evO x tab t fun v => boxK v h nx k := Eq.trans rfl rfl
theorem boxK_eq {v : CV} (hl : v.cells.all CV.one = true) : boxK v h nx k = k (.ptr nx 0) (h.set nx (newB v.cells)) (nx + 1) := newCells_eq1 hl
theorem boxK_int (kd : IntKind) (n : Int) : boxK (.int kd n) h nx k = k (.ptr nx 0) (h.set nx (newB [.int kd n])) (nx + 1) := newCells_eq1 rfl
theorem boxK_bool (b : Bool) : boxK (.bool b) h nx k = k (.ptr nx 0) (h.set nx (newB [.bool b])) (nx + 1) := newCells_eq1 rfl

theorem ev_store1 {ty : TypeId} {ti : TI} {m : Nat} (hty : tab.types.get ty = some ti) (hs : ti.size = m) (a x : Operand) :
    evOp (.store ty a x) tab call t h nx k = evO a tab t fun a => ptrOf a fun b o => evO x tab t fun v => stK m b o v h fun h => k (.tup []) h nx := by
  rw [ev_store]
  congr 1
  funext a
  cases a <;> first | rfl | skip
  rename_i b o
  show evO x tab t _ = evO x tab t _
  congr 1
  funext v
  simp only [tyK, hty, optK_some, lenN_eq, hs, stK]
  congr 1
  unfold putCells blkK
  congr 1
  funext B
  cases B <;> first | rfl | skip
  rename_i n cs rw
  show grd 11 rw (lenK v.cells o fun e => grd 12 (Nat.ble e n) (writeCells v.cells cs o fun cs => h.setK b (.cells n cs true) _)) = _
  rw [lenK_eq, writeCells_grd]
  simp only [setK_eq]
  rfl

noncomputable def ptrK (c : CV) (off : Nat) (k : CV → Res β) : Res β :=
  match c with
  | .ptr b o => k (.ptr b (o + off))
  | _ => .bad 62
theorem ptrK_ptr (b o off : Nat) (k : CV → Res β) : ptrK (.ptr b o) off k = k (.ptr b (o + off)) := Eq.trans rfl rfl

/-- the place of a field -/
noncomputable def fieldOff (tab : Tab) (ty : TypeId) (f : Nat) : Option Nat :=
  match tab.types.get ty with
  | some ti => match ti.u with
    | .struct fs => match fs.toList[f]? with
      | some fd => match tab.types.get fd.type with
        | some te => if Nat.blt 0 te.size then some fd.offset else none
        | none => none
      | none => none
    | _ => none
  | none => none

theorem ev_field {ty : TypeId} {f off : Nat} (hf : fieldOff tab ty f = some off) (x : Operand) : evOp (.fieldAddr ty x f) tab call t h nx k = evO x tab t fun a => ptrK a off fun v => k v h nx := by
  rw [ev_fieldAddr]
  unfold fieldOff at hf
  split at hf
  · rename_i ti hti
    rw [tyK, hti, optK_some]
    split at hf
    · rename_i fs hu
      simp only [hu]
      split at hf
      · rename_i fd hfd
        split at hf
        · rename_i te hte
          split at hf
          · rename_i hb
            cases hf
            simp only [fieldAt, hfd, optK_some, tyK, hte, hb, grd_true]
            congr 1
            funext a
            cases a <;> first | rfl | exact natK_eq _ _
          · cases hf
        · cases hf
      · cases hf
    · cases hf
  · cases hf

/-- what is indexed: a slice, or an array of so many; the elements' size -/
noncomputable def idxOf (tab : Tab) (ty : TypeId) : Option (Option Nat × Nat) :=
  match tab.types.get ty with
  | some ti => match ti.u with
    | .slice e => (tab.types.get e).map fun te => (none, te.size)
    | .array n e => (tab.types.get e).map fun te => (some n, te.size)
    | _ => none
  | none => none

noncomputable def ixK (q : Option Nat × Nat) (a : CV) (i : Nat) (k : CV → Res β) : Res β :=
  match q, a with
  | (some n, sz), .ptr b o => grd 70 (Nat.blt i n) (k (.ptr b (o + i * sz)))
  | (none, sz), .slice b o len _ => grd 71 (Nat.blt i len) (k (.ptr b (o + i * sz)))
  | _, _ => .bad 72
theorem ixK_sl (sz b o len : Nat) (cap : Cap) (i : Nat) (k : CV → Res β) : ixK (none, sz) (.slice b o len cap) i k = grd 71 (Nat.blt i len) (k (.ptr b (o + i * sz))) := Eq.trans rfl rfl
theorem ixK_ar (n sz b o i : Nat) (k : CV → Res β) : ixK (some n, sz) (.ptr b o) i k = grd 70 (Nat.blt i n) (k (.ptr b (o + i * sz))) := Eq.trans rfl rfl

theorem ev_index {ty : TypeId} {q : Option Nat × Nat} (hf : idxOf tab ty = some q) (x y : Operand) : evOp (.indexAddr ty x y) tab call t h nx k = evO x tab t fun a => evO y tab t fun i => natOf i fun i => ixK q a i fun v => k v h nx := by
  rw [ev_indexAddr]
  unfold idxOf at hf
  split at hf
  · rename_i ti hti
    rw [tyK, hti, optK_some]
    congr 1
    funext a
    congr 1
    funext i
    congr 1
    funext i
    split at hf
    · rename_i e hu
      simp only [Option.map_eq_some_iff] at hf
      obtain ⟨te, hte, rfl⟩ := hf
      simp only [hu, tyK, hte, optK_some, natK_eq]
      cases a <;> first
        | rfl
        | (simp only [hte, optK_some]; rfl)
    · rename_i n e hu
      simp only [Option.map_eq_some_iff] at hf
      obtain ⟨te, hte, rfl⟩ := hf
      simp only [hu, tyK, hte, optK_some, natK_eq]
      cases a <;> first
        | rfl
        | (simp only [hte, optK_some]; rfl)
    · cases hf
  · cases hf

theorem natOf_0 (kd : IntKind) (c : Nat → Res β) : natOf (.int kd 0) c = c 0 := Eq.trans rfl rfl
theorem natOf_1 (kd : IntKind) (c : Nat → Res β) : natOf (.int kd 1) c = c 1 := Eq.trans rfl rfl
theorem natOf_2 (kd : IntKind) (c : Nat → Res β) : natOf (.int kd 2) c = c 2 := Eq.trans rfl rfl
theorem natOf_3 (kd : IntKind) (c : Nat → Res β) : natOf (.int kd 3) c = c 3 := Eq.trans rfl rfl
theorem grd_blt {c i n : Nat} {k : Res β} (h : i < n) : grd c (Nat.blt i n) k = k := by rw [show Nat.blt i n = true from Nat.ble_eq_true_of_le h]; rfl
theorem grd_ble {c i n : Nat} {k : Res β} (h : i ≤ n) : grd c (Nat.ble i n) k = k := by rw [show Nat.ble i n = true from Nat.ble_eq_true_of_le h]; rfl

theorem len_slice {ty : TypeId} {e : TypeId} {ti : TI} (hty : tab.types.get ty = some ti) (hu : ti.u = .slice e) (tys : List TypeId) (b o n : Nat) (cap : Cap) : opBuiltin .len (ty :: tys) [.slice b o n cap] tab h nx k = k (.int .i64 (n : Int)) h nx := by
  show opLen ty [.slice b o n cap] tab h nx k = _
  unfold opLen
  rw [tyK, hty, optK_some]
  simp only [hu]
  rfl
theorem len_nilslice {ty : TypeId} {e : TypeId} {ti : TI} (hty : tab.types.get ty = some ti) (hu : ti.u = .slice e) (tys : List TypeId) : opBuiltin .len (ty :: tys) [.nilslice] tab h nx k = k (.int .i64 0) h nx := by
  show opLen ty [.nilslice] tab h nx k = _
  unfold opLen
  rw [tyK, hty, optK_some]
  simp only [hu]
  rfl
theorem bi_max (tys : List TypeId) (kd k2 : IntKind) (x y : Int) : opBuiltin .max tys [.int kd x, .int k2 y] tab h nx k = k (.int kd (if y > x then y else x)) h nx :=
  (show intK (if y > x then y else x) (fun n => k (.int kd n) h nx) = _ from intK_eq _ _)
theorem bi_min (tys : List TypeId) (kd k2 : IntKind) (x y : Int) : opBuiltin .min tys [.int kd x, .int k2 y] tab h nx k = k (.int kd (if y < x then y else x)) h nx :=
  (show intK (if y < x then y else x) (fun n => k (.int kd n) h nx) = _ from intK_eq _ _)

theorem ev_conv {src dst : TypeId} {ts td : TI} {k1 k2 : IntKind} (h1 : tab.types.get src = some ts) (h2 : tab.types.get dst = some td) (u1 : ts.u = .int k1) (u2 : td.u = .int k2) (x : Operand) :
    evOp (.convert src dst x) tab call t h nx k = evO x tab t fun v => convK k2 v h nx k := by
  show opConvert src dst x tab call t h nx k = _
  unfold opConvert
  congr 1
  funext v
  simp only [tyK, h1, h2, optK_some, u1, u2]
  cases v <;> first | rfl | skip
  rename_i kd n
  cases n with
  | ofNat m => exact wrapN_eq _ _ _
  | negSucc m => exact intK_eq _ _
theorem convK_int (kd k2 : IntKind) (n : Int) : convK kd (.int k2 n) h nx k = k (.int kd (kd.wrap n)) h nx := Eq.trans rfl rfl

theorem ev_mkfunc (f : FuncId) (first captured : Array Operand) : evOp (.makeFunc (.func f) first captured) tab call t h nx k = evOs first.toList tab t fun a => evOs captured.toList tab t fun c => k (.fn f a c) h nx := Eq.trans rfl rfl
end

/-! ## what stands behind: the heap has grown -/

structure Ext (h : T Blk) (nx : Nat) (h' : T Blk) (nx' : Nat) : Prop where
  le : nx ≤ nx'
  get : ∀ c, c < nx → h'.get c = h.get c

theorem Ext.refl (h : T Blk) (nx : Nat) : Ext h nx h nx := ⟨Nat.le_refl _, fun _ _ => rfl⟩
theorem Ext.trans {h h₁ h₂ : T Blk} {n n₁ n₂ : Nat} (a : Ext h n h₁ n₁) (b : Ext h₁ n₁ h₂ n₂) : Ext h n h₂ n₂ := ⟨Nat.le_trans a.le b.le, fun c hc => by rw [b.get c (Nat.lt_of_lt_of_le hc a.le), a.get c hc]⟩
theorem Ext.set {h h' : T Blk} {n n' m : Nat} {B : Blk} (a : Ext h n h' n') (hm : n ≤ m) : Ext h n (h'.set m B) n' := ⟨a.le, fun c hc => by rw [T.get_other _ _ (by omega), a.get c hc]⟩
theorem Ext.new {h h' : T Blk} {n n' : Nat} {B : Blk} (a : Ext h n h' n') : Ext h n (h'.set n' B) (n' + 1) := ⟨Nat.le_succ_of_le a.le, fun c hc => by have := a.le; rw [T.get_other _ _ (by omega), a.get c hc]⟩
theorem Ext.up {h h' : T Blk} {n n' m : Nat} (a : Ext h n h' n') (hm : n' ≤ m) : Ext h n h' m := ⟨Nat.le_trans a.le hm, a.get⟩
end Go.Can
namespace Go.Can
variable {β : Type}

/-! ## values built of parts -/

theorem fill1_0 (v c : CV) (l : List CV) (k : List CV → Res β) : fillL [v] 0 (c :: l) k = k (v :: l) := Eq.trans rfl rfl
theorem fill1_1 (v a c : CV) (l : List CV) (k : List CV → Res β) : fillL [v] 1 (a :: c :: l) k = k (a :: v :: l) := Eq.trans rfl rfl
theorem fill1_2 (v a b c : CV) (l : List CV) (k : List CV → Res β) : fillL [v] 2 (a :: b :: c :: l) k = k (a :: b :: v :: l) := Eq.trans rfl rfl
theorem fill1_3 (v a b c d : CV) (l : List CV) (k : List CV → Res β) : fillL [v] 3 (a :: b :: c :: d :: l) k = k (a :: b :: c :: v :: l) := Eq.trans rfl rfl
theorem fill1_4 (v a b c d e : CV) (l : List CV) (k : List CV → Res β) : fillL [v] 4 (a :: b :: c :: d :: e :: l) k = k (a :: b :: c :: d :: v :: l) := Eq.trans rfl rfl
theorem fill1_5 (v a b c d e f : CV) (l : List CV) (k : List CV → Res β) : fillL [v] 5 (a :: b :: c :: d :: e :: f :: l) k = k (a :: b :: c :: d :: e :: v :: l) := Eq.trans rfl rfl
theorem fill1_6 (v a b c d e f g : CV) (l : List CV) (k : List CV → Res β) : fillL [v] 6 (a :: b :: c :: d :: e :: f :: g :: l) k = k (a :: b :: c :: d :: e :: f :: v :: l) := Eq.trans rfl rfl
theorem fill1_7 (v a b c d e f g i : CV) (l : List CV) (k : List CV → Res β) : fillL [v] 7 (a :: b :: c :: d :: e :: f :: g :: i :: l) k = k (a :: b :: c :: d :: e :: f :: g :: v :: l) := Eq.trans rfl rfl
theorem fill3_0 (u v w a b c : CV) (l : List CV) (k : List CV → Res β) : fillL [u, v, w] 0 (a :: b :: c :: l) k = k (u :: v :: w :: l) := Eq.trans rfl rfl
theorem fill3_3 (u v w a b c x y z : CV) (l : List CV) (k : List CV → Res β) : fillL [u, v, w] 3 (x :: y :: z :: a :: b :: c :: l) k = k (x :: y :: z :: u :: v :: w :: l) := Eq.trans rfl rfl
theorem fill3_6 (u v w a b c x y z x' y' z' : CV) (l : List CV) (k : List CV → Res β) : fillL [u, v, w] 6 (x :: y :: z :: x' :: y' :: z' :: a :: b :: c :: l) k = k (x :: y :: z :: x' :: y' :: z' :: u :: v :: w :: l) := Eq.trans rfl rfl

noncomputable def fillS (pl : Nat → Option (Nat × Nat)) (tab : Tab) (t : T CV) : List (Nat × Operand) → List CV → (List CV → Res β) → Res β
  | [], cs, k => k cs
  | (i, o) :: ps, cs, k => evO o tab t fun v => optK 33 (pl i) fun p => grd 32 (Nat.beq v.cells.length p.2) (fillL v.cells p.1 cs fun cs => fillS pl tab t ps cs k)

section
variable {tab : Tab} {call : CallT β} {t : T CV} {h : T Blk} {nx : Nat} {k : K β}

theorem fillS_nil (pl : Nat → Option (Nat × Nat)) (cs : List CV) (k : List CV → Res β) : fillS pl tab t [] cs k = k cs := by rw [fillS]
theorem fillS_cons (pl : Nat → Option (Nat × Nat)) (i : Nat) (o : Operand) (ps : List (Nat × Operand)) (cs : List CV) (k : List CV → Res β) :
    fillS pl tab t ((i, o) :: ps) cs k = evO o tab t fun v => optK 33 (pl i) fun p => grd 32 (Nat.beq v.cells.length p.2) (fillL v.cells p.1 cs fun cs => fillS pl tab t ps cs k) := by rw [fillS]

/-- where the parts of a type lie -/
noncomputable def partPl (tab : Tab) (ty : TypeId) (i : Nat) : Option (Nat × Nat) :=
  match tab.types.get ty with
  | some ti => match ti.u with
    | .struct fs => match fs.toList[i]? with
      | some fd => (tab.types.get fd.type).map fun te => (fd.offset, te.size)
      | none => none
    | .array _ e => (tab.types.get e).map fun te => (i * te.size, te.size)
    | .slice e => (tab.types.get e).map fun te => (i * te.size, te.size)
    | _ => none
  | none => none

theorem fillParts_eq (place : Nat → (Nat → Nat → Res β) → Res β) (pl : Nat → Option (Nat × Nat)) (hp : ∀ i f, ∀ p, pl i = some p → place i f = f p.1 p.2) : ∀ (ps : List (Nat × Operand)) (cs : List CV) (k : List CV → Res β),
    (∀ p ∈ ps, (pl p.1).isSome = true) → fillParts place tab t ps cs k = fillS pl tab t ps cs k
  | [], cs, k, _ => by rw [fillS_nil]; rfl
  | (i, o) :: ps, cs, k, h => by
    obtain ⟨p, hpi⟩ := Option.isSome_iff_exists.1 (h (i, o) List.mem_cons_self)
    have e : fillParts place tab t ((i, o) :: ps) cs k = evO o tab t fun v => place i fun off size => grd 32 (Nat.beq (lenN v.cells) size) (fillL v.cells off cs fun cs => fillParts place tab t ps cs k) := Eq.trans rfl rfl
    rw [e, fillS_cons]
    congr 1
    funext v
    rw [hp i _ p hpi, hpi, optK_some, lenN_eq]
    congr 1
    congr 1
    funext cs
    exact fillParts_eq place pl hp ps cs k fun q hq => h q (List.mem_cons_of_mem _ hq)

theorem ev_build_st {ty : TypeId} {ti : TI} {fs : Array Field} {z : List CV} {ps : Array (Nat × Operand)} (hty : tab.types.get ty = some ti) (hu : ti.u = .struct fs) (hz : ti.zero.cells = z)
    (hall : (fs.toList.all fun f => (tab.types.get f.type).isSome) = true) (hps : ps.toList.all (fun p => (partPl tab ty p.1).isSome) = true) :
    evOp (.build ty ps) tab call t h nx k = fillS (partPl tab ty) tab t ps.toList z fun cs => k (.agg cs) h nx := by
  show opBuild ty ps tab call t h nx k = _
  unfold opBuild
  simp only [tyK, hty, optK_some, hu, hall, grd_true, hz]
  refine fillParts_eq _ _ (fun i f p hp => ?_) _ _ _ fun p hp => List.all_eq_true.1 hps p hp
  unfold partPl at hp
  simp only [hty, hu] at hp
  unfold fieldAt
  cases hfd : fs.toList[i]? with
  | none => rw [hfd] at hp; cases hp
  | some fd =>
    rw [hfd] at hp
    simp only [Option.map_eq_some_iff] at hp
    obtain ⟨te, hte, rfl⟩ := hp
    rw [optK_some, tyK, hte, optK_some]

theorem ev_build_ar {ty : TypeId} {ti te : TI} {n e : Nat} {z : List CV} {ps : Array (Nat × Operand)} (hty : tab.types.get ty = some ti) (hu : ti.u = .array n e) (hte : tab.types.get e = some te) (hz : ti.zero.cells = z) :
    evOp (.build ty ps) tab call t h nx k = fillS (partPl tab ty) tab t ps.toList z fun cs => k (.agg cs) h nx := by
  show opBuild ty ps tab call t h nx k = _
  unfold opBuild
  simp only [tyK, hty, optK_some, hu, hte, hz]
  refine fillParts_eq _ _ (fun i f p hp => ?_) _ _ _ fun p hp => by unfold partPl; simp only [hty, hu, hte]; rfl
  unfold partPl at hp
  simp only [hty, hu, hte] at hp
  cases hp
  exact natK_eq _ _

theorem ev_buildSlice {ty : TypeId} {ti te : TI} {e len : Nat} {z : List CV} {ps : Array (Nat × Operand)} (hty : tab.types.get ty = some ti) (hu : ti.u = .slice e) (hte : tab.types.get e = some te) (hz : repL te.zero.cells len = z) (hle : Nat.ble (Nat.mul len te.size) 16777216 = true) :
    evOp (.buildSlice ty len ps) tab call t h nx k = fillS (partPl tab ty) tab t ps.toList z fun cs => newCells cs h nx fun b h nx => k (.slice b 0 len (.known len)) h nx := by
  show opBuildSlice ty len ps tab call t h nx k = _
  unfold opBuildSlice
  simp only [tyK, hty, optK_some, hu, hte, hz, hle, grd_true]
  refine fillParts_eq _ _ (fun i f p hp => ?_) _ _ _ fun p hp => by unfold partPl; simp only [hty, hu, hte]; rfl
  unfold partPl at hp
  simp only [hty, hu, hte] at hp
  cases hp
  exact natK_eq _ _

theorem cells_int (kd : IntKind) (n : Int) : (CV.int kd n).cells = [.int kd n] := Eq.trans rfl rfl
theorem cells_bool (b : Bool) : (CV.bool b).cells = [.bool b] := Eq.trans rfl rfl
theorem cells_agg (l : List CV) : (CV.agg l).cells = l := Eq.trans rfl rfl
theorem cells_slice (b o n : Nat) (c : Cap) : (CV.slice b o n c).cells = [.slice b o n c] := Eq.trans rfl rfl
theorem cells_nilslice : CV.nilslice.cells = [.nilslice] := Eq.trans rfl rfl
theorem cells_fn (f : FuncId) (a b : List CV) : (CV.fn f a b).cells = [.fn f a b] := Eq.trans rfl rfl
theorem cells_nilfn : CV.nilfn.cells = [.nilfn] := Eq.trans rfl rfl
theorem cells_ptr (b o : Nat) : (CV.ptr b o).cells = [.ptr b o] := Eq.trans rfl rfl
theorem boxK_rg (a c : Int) (w : Bool) : boxK (.agg [.int .u64 a, .int .i64 c, .bool w]) h nx k = k (.ptr nx 0) (h.set nx (newB [.int .u64 a, .int .i64 c, .bool w])) (nx + 1) := newCells_eq1 rfl
theorem boxK_a3 (k1 k2 k3 : IntKind) (a b c : Int) : boxK (.agg [.int k1 a, .int k2 b, .int k3 c]) h nx k = k (.ptr nx 0) (h.set nx (newB [.int k1 a, .int k2 b, .int k3 c])) (nx + 1) := newCells_eq1 rfl
theorem boxK_a4 (k1 k2 k3 k4 : IntKind) (a b c d : Int) : boxK (.agg [.int k1 a, .int k2 b, .int k3 c, .int k4 d]) h nx k = k (.ptr nx 0) (h.set nx (newB [.int k1 a, .int k2 b, .int k3 c, .int k4 d])) (nx + 1) := newCells_eq1 rfl
theorem boxK_slice (b o n : Nat) (c : Cap) : boxK (.slice b o n c) h nx k = k (.ptr nx 0) (h.set nx (newB [.slice b o n c])) (nx + 1) := newCells_eq1 rfl
theorem boxK_nilslice : boxK .nilslice h nx k = k (.ptr nx 0) (h.set nx (newB [.nilslice])) (nx + 1) := newCells_eq1 rfl
theorem boxK_fn (f : FuncId) (a b : List CV) : boxK (.fn f a b) h nx k = k (.ptr nx 0) (h.set nx (newB [.fn f a b])) (nx + 1) := newCells_eq1 rfl
theorem notMap_fn (f : FuncId) (a b : List CV) : notMapV (.fn f a b) = true := Eq.trans rfl rfl
end
end Go.Can
namespace Go.Can
variable {β : Type}

/-! ## regions whose order is drawn, compact -/

structure DOp where
  s : SOp
  looks : List Tmp

abbrev KD (β : Type) := T CV → T Blk → Nat → List Rec → Res β

noncomputable def drawD (tab : Tab) (call : CallT β) (fi : FI) : List DOp → T CV → T Blk → Nat → KD β → Res β
  | [], t, h, nx, k => k t h nx []
  | ⟨⟨d, o, none⟩, looks⟩ :: l, t, h, nx, k => lookK looks t .nil fun tr => evOp o tab call tr h nx fun v h₁ nx₁ => putT fi d v t fun t => drawD tab call fi l t h₁ nx₁ fun t' h' nx' rs => k t' h' nx' (⟨true, tr, v, h, nx, h₁, nx₁⟩ :: rs)
  | ⟨⟨d, o, some (g, w)⟩, looks⟩ :: l, t, h, nx, k => lookK looks t .nil fun tr => optK 132 (tr.get g) fun u => wantS u w
      (evOp o tab call tr h nx fun v h₁ nx₁ => putT fi d v t fun t => drawD tab call fi l t h₁ nx₁ fun t' h' nx' rs => k t' h' nx' (⟨true, tr, v, h, nx, h₁, nx₁⟩ :: rs))
      (putT fi d (.tup []) t fun t => drawD tab call fi l t h nx fun t' h' nx' rs => k t' h' nx' (⟨false, tr, .tup [], h, nx, h, nx⟩ :: rs))

@[congr] theorem drawD_congr {tab : Tab} {call : CallT β} {fi : FI} {l : List DOp} {t t' : T CV} {h h' : T Blk} {nx : Nat} {k : KD β} (e1 : t = t') (e2 : h = h') : drawD tab call fi l t h nx k = drawD tab call fi l t' h' nx k := by rw [e1, e2]

section
variable {tab : Tab} {call : CallT β} {fi : FI}

theorem drawD_nil (t : T CV) (h : T Blk) (nx : Nat) (k : KD β) : drawD tab call fi [] t h nx k = k t h nx [] := by rw [drawD]
theorem drawD_op (d : Option Tmp) (o : Op) (looks : List Tmp) (l : List DOp) (t : T CV) (h : T Blk) (nx : Nat) (k : KD β) : drawD tab call fi (⟨⟨d, o, none⟩, looks⟩ :: l) t h nx k =
  lookK looks t .nil fun tr => evOp o tab call tr h nx fun v h₁ nx₁ => putT fi d v t fun t => drawD tab call fi l t h₁ nx₁ fun t' h' nx' rs => k t' h' nx' (⟨true, tr, v, h, nx, h₁, nx₁⟩ :: rs) := by rw [drawD]
theorem drawD_if (d : Option Tmp) (o : Op) (g : Tmp) (w : Bool) (looks : List Tmp) (l : List DOp) (t : T CV) (h : T Blk) (nx : Nat) (k : KD β) : drawD tab call fi (⟨⟨d, o, some (g, w)⟩, looks⟩ :: l) t h nx k =
  lookK looks t .nil fun tr => optK 132 (tr.get g) fun u => wantS u w
      (evOp o tab call tr h nx fun v h₁ nx₁ => putT fi d v t fun t => drawD tab call fi l t h₁ nx₁ fun t' h' nx' rs => k t' h' nx' (⟨true, tr, v, h, nx, h₁, nx₁⟩ :: rs))
      (putT fi d (.tup []) t fun t => drawD tab call fi l t h nx fun t' h' nx' rs => k t' h' nx' (⟨false, tr, .tup [], h, nx, h, nx⟩ :: rs)) := by rw [drawD]

theorem lookK_nil (t acc : T CV) (k : T CV → Res β) : lookK [] t acc k = k acc := Eq.trans rfl rfl
theorem lookK_cons (n : Tmp) (l : List Tmp) (t acc : T CV) (k : T CV → Res β) : lookK (n :: l) t acc k = optK 136 (t.get n) fun v => lookK l t (acc.set n v) k := by
  show optK 136 (t.get n) (fun v => acc.setK n v fun acc => lookK l t acc k) = _
  congr 1
  funext v
  rw [setK_eq]

def compD (ops : Array Oper) : List Inf → Option (List DOp)
  | [] => some []
  | p :: l => match p.o.guard, compD ops l with
    | none, some r => some (⟨⟨p.o.dst, p.o.op, none⟩, p.looks⟩ :: r)
    | some (j, w), some r => match guardTmp ops j with
      | some g => some (⟨⟨p.o.dst, p.o.op, some (g, w)⟩, p.looks⟩ :: r)
      | none => none
    | _, _ => none

theorem compD_ok (ops : Array Oper) : ∀ (l : List Inf) (r : List DOp), compD ops l = some r → ∀ (t : T CV) (h : T Blk) (nx : Nat) (k : KD β), drawOps ops tab call fi l t h nx k = drawD tab call fi r t h nx k
  | [], r, e, t, h, nx, k => by cases e; rw [drawD_nil]; rfl
  | p :: l, r, e, t, h, nx, k => by
    unfold compD at e
    have unf : drawOps ops tab call fi (p :: l) t h nx k = lookK p.looks t .nil fun tr => wantK ops p.o tr fun w => Bool.rec
      (putT fi p.o.dst (.tup []) t fun t => drawOps ops tab call fi l t h nx fun t' h' nx' rs => k t' h' nx' (⟨false, tr, .tup [], h, nx, h, nx⟩ :: rs))
      (evOp p.o.op tab call tr h nx fun v h₁ nx₁ => putT fi p.o.dst v t fun t => drawOps ops tab call fi l t h₁ nx₁ fun t' h' nx' rs => k t' h' nx' (⟨true, tr, v, h, nx, h₁, nx₁⟩ :: rs)) w := Eq.trans rfl rfl
    split at e
    · rename_i r' h2 h3
      cases e
      have ih := compD_ok ops l _ h3
      rw [unf, drawD_op]
      congr 1
      funext tr
      unfold wantK
      rw [h2]
      simp only [ih]
    · rename_i j w r' h2 h3
      have ih := compD_ok ops l _ h3
      split at e
      · rename_i g hg
        cases e
        rw [unf, drawD_if]
        congr 1
        funext tr
        unfold wantK
        rw [h2]
        simp only [hg, optK_some]
        cases hgt : tr.get g with
        | none => rfl
        | some v =>
          simp only [optK_some]
          cases v <;> simp only [wantS, boolK_eq, ih]
      · cases e
    · cases e

/-- the readers looked at once more -/
noncomputable def chkD (tab : Tab) (ops : List Op) (rs : List Rec) (ps : List (Nat × Nat × Bool)) (k : Res β) : Res β :=
  match ps with
  | [] => k
  | (i, j, ahead) :: ps => nthK ops i fun x => nthK rs i fun r => nthK rs j fun w => Bool.rec (chkD tab ops rs ps k) (again x tab r.t (Bool.rec w.h' w.h ahead) r.v (chkD tab ops rs ps k)) (r.q && w.q)

theorem nthK_map {α γ : Type} (f : α → γ) : ∀ (l : List α) (n : Nat) (k : γ → Res β), nthK (l.map f) n k = nthK l n fun x => k (f x)
  | [], n, k => rfl
  | x :: l, 0, k => rfl
  | x :: l, n + 1, k => nthK_map f l n k

theorem compD_ops (ops : Array Oper) : ∀ (l : List Inf) (r : List DOp), compD ops l = some r → l.map (fun x => x.o.op) = r.map (fun x => x.s.o)
  | [], r, e => by cases e; rfl
  | p :: l, r, e => by
    unfold compD at e
    split at e
    · rename_i r' h2 h3; cases e; simp [compD_ops ops l _ h3]
    · rename_i j w r' h2 h3
      split at e
      · cases e; simp [compD_ops ops l _ h3]
      · cases e
    · cases e

theorem chkD_ok (l : List Inf) (rs : List Rec) (k : Res β) : ∀ (ps : List (Nat × Nat × Bool)), chkPairs tab l rs ps k = chkD tab (l.map fun x => x.o.op) rs ps k
  | [] => by rw [chkD]; rfl
  | (i, j, ahead) :: ps => by
    rw [chkD, nthK_map, ← chkD_ok l rs k ps]
    rfl

theorem draw_eq {ops : Array Oper} {dl : List DOp} {ol : List Op} {ps : List (Nat × Nat × Bool)} (h1 : okAll (infs ops) = true) (h2 : compD ops (infs ops) = some dl) (h3 : pairsOf (infs ops) = ps) (h4 : dl.map (fun x => x.s.o) = ol)
    (t : T CV) (df : List Df) (h : T Blk) (nx : Nat) (k : KC β) : rcRegion ops true tab call fi t df h nx k = drawD tab call fi dl t h nx fun t h nx rs => chkD tab ol rs ps (k .normal t df h nx) := by
  show Bool.rec (motive := fun _ => Res β) (.bad 151) (runDraw ops tab call fi (infs ops) t h nx fun t h nx => k .normal t df h nx) (okAll (infs ops)) = _
  rw [h1]
  show runDraw ops tab call fi (infs ops) t h nx _ = _
  unfold runDraw
  rw [compD_ok ops _ _ h2, h3]
  simp only [chkD_ok, compD_ops ops _ _ h2, h4]

theorem CG.draw {ops : Array Oper} {dl : List DOp} {ol : List Op} {ps : List (Nat × Nat × Bool)} {t t' : T CV} {h h' : T Blk} {nx nx' : Nat} {Q : Ex → T CV → T Blk → Nat → Prop} (h1 : okAll (infs ops) = true) (h2 : compD ops (infs ops) = some dl)
    (h3 : pairsOf (infs ops) = ps) (h4 : dl.map (fun x => x.s.o) = ol)
    (e : ∀ k : KS β, (drawD tab call fi dl t h nx fun t h nx rs => chkD tab ol rs ps (k t h nx)) = k t' h' nx') (q : Q .normal t' h' nx') : CG tab call fi (.draw ops) t h nx Q :=
  ⟨_, t', h', nx', q, fun df k => by show rcRegion ops true tab call fi t df h nx k = _; rw [draw_eq h1 h2 h3 h4]; exact e fun t h nx => k .normal t df h nx⟩

theorem chkD_nil (ops : List Op) (rs : List Rec) (k : Res β) : chkD tab ops rs [] k = k := by rw [chkD]
noncomputable def bothK (b : Bool) (a c : Res β) : Res β := Bool.rec c a b
@[congr] theorem bothK_congr {b b' : Bool} {a c : Res β} (h : b = b') : bothK b a c = bothK b' a c := by rw [h]
theorem bothK_true (a c : Res β) : bothK true a c = a := Eq.trans rfl rfl
theorem bothK_false (a c : Res β) : bothK false a c = c := Eq.trans rfl rfl
theorem chkD_cons (ops : List Op) (rs : List Rec) (i j : Nat) (ahead : Bool) (ps : List (Nat × Nat × Bool)) (k : Res β) : chkD tab ops rs ((i, j, ahead) :: ps) k =
  nthK ops i fun x => nthK rs i fun r => nthK rs j fun w => bothK (r.q && w.q) (again x tab r.t (Bool.rec w.h' w.h ahead) r.v (chkD tab ops rs ps k)) (chkD tab ops rs ps k) := by rw [chkD]; rfl
theorem nthK_zero {α : Type} (x : α) (l : List α) (k : α → Res β) : nthK (x :: l) 0 k = k x := Eq.trans rfl rfl
theorem nthK_succ {α : Type} (x : α) (l : List α) (n : Nat) (k : α → Res β) : nthK (x :: l) (n + 1) k = nthK l n k := Eq.trans rfl rfl
theorem again_eq (o : Op) (t : T CV) (h : T Blk) (v : CV) (k : Res β) : again o tab t h v k = evOp o tab (fun _ _ _ _ _ => .bad 140) t h 0 fun v' _ _ => grd 141 (v'.same v) k := Eq.trans rfl rfl
@[congr] theorem nthK_congr {α : Type} {l : List α} {n : Nat} {k : α → Res β} : nthK l n k = nthK l n k := Eq.trans rfl rfl
end

theorem eqN_self (n : Int) : eqN n n = true := by rw [eqN_eq]; simp
theorem same_int (kd : IntKind) (n : Int) : CV.same (.int kd n) (.int kd n) = true := by simp [CV.same, kEq_same, eqN_self]
theorem same_bool (b : Bool) : CV.same (.bool b) (.bool b) = true := by simp [CV.same, eqB_eq]
theorem same_ptr (b o : Nat) : CV.same (.ptr b o) (.ptr b o) = true := by simp [CV.same]
theorem same_nilslice : CV.same .nilslice .nilslice = true := Eq.trans rfl rfl
theorem same_slice (b o n c : Nat) : CV.same (.slice b o n (.known c)) (.slice b o n (.known c)) = true := by simp [CV.same]
theorem same_slicO (b o n c : Nat) : CV.same (.slice b o n (.opn c)) (.slice b o n (.opn c)) = true := by simp [CV.same]
theorem same_rg (a c : Int) (w : Bool) : CV.same (.agg [.int .u64 a, .int .i64 c, .bool w]) (.agg [.int .u64 a, .int .i64 c, .bool w]) = true := by simp [CV.same, CV.sames, kEq_same, eqN_self, eqB_eq]
theorem same_a3 (k1 k2 k3 : IntKind) (a b c : Int) : CV.same (.agg [.int k1 a, .int k2 b, .int k3 c]) (.agg [.int k1 a, .int k2 b, .int k3 c]) = true := by simp [CV.same, CV.sames, kEq_same, eqN_self]
theorem same_fn0 (f : FuncId) : CV.same (.fn f [] []) (.fn f [] []) = true := by simp [CV.same, CV.sames]
end Go.Can
namespace Go.Can
variable {β : Type}
noncomputable def resP (a : CV) (k : Nat → Nat → Res β) : Res β :=
  match a with
  | .ptr b o => k b o
  | _ => .bad 162
theorem resP_ptr (b o : Nat) (k : Nat → Nat → Res β) : resP (.ptr b o) k = k b o := Eq.trans rfl rfl
theorem resC {tab : Tab} {ty : TypeId} {ti : TI} {m : Nat} (hty : tab.types.get ty = some ti) (ha : ti.agg = true) (hs : ti.size = m) (t : T CV) (h : T Blk) (a : Tmp) (l : List ResultVar) (k : List CV → Res β) :
    resultsK tab t h (.cell a ty :: l) k = optK 161 (t.get a) fun a => resP a fun b o => ldKn m (.ptr b o) h fun v => resultsK tab t h l fun vs => k (v :: vs) := by
  rw [resultsK_cell]
  congr 1
  funext a
  cases a <;> first | rfl | skip
  rename_i b o
  show tyK tab ty _ = _
  simp only [tyK, hty, optK_some, getVar, ha, ldKn, blkK, hs, resP]
  congr 1
  funext B
  cases B <;> rfl
end Go.Can
namespace Go.Can
variable {β : Type} {tab : Tab} {call : CallT β} {fi : FI}
theorem runS_app : ∀ (l m : List SOp) (t : T CV) (h : T Blk) (nx : Nat) (k : KS β), runS tab call fi (l ++ m) t h nx k = runS tab call fi l t h nx fun t h nx => runS tab call fi m t h nx k
  | [], m, t, h, nx, k => by rw [runS_nil]; rfl
  | ⟨d, o, none⟩ :: l, m, t, h, nx, k => by
    rw [List.cons_append, runS_op, runS_op]
    congr 1
    funext v h nx
    congr 1
    funext t
    exact runS_app l m t h nx k
  | ⟨d, o, some (g, w)⟩ :: l, m, t, h, nx, k => by
    rw [List.cons_append, runS_if, runS_if]
    congr 1
    funext v
    have e1 : (fun (t : T CV) => runS tab call fi (l ++ m) t h nx k) = fun t => runS tab call fi l t h nx fun t h nx => runS tab call fi m t h nx k := funext fun t => runS_app l m t h nx k
    have e2 : (fun v h nx => putT fi d v t fun t => runS tab call fi (l ++ m) t h nx k) = fun v h nx => putT fi d v t fun t => runS tab call fi l t h nx fun t h nx => runS tab call fi m t h nx k := by
      funext v h nx
      congr 1
      funext t
      exact runS_app l m t h nx k
    rw [e1, e2]

theorem CG.regs {l m : List SOp} {t t' : T CV} {h h' : T Blk} {nx nx' : Nat} {Q : Ex → T CV → T Blk → Nat → Prop} (e : ∀ k : KS β, runS tab call fi l t h nx k = k t' h' nx') (H : CG tab call fi (.reg m) t' h' nx' Q) : CG tab call fi (.reg (l ++ m)) t h nx Q := by
  obtain ⟨ex, t₁, h₁, nx₁, q, e₁⟩ := H
  exact ⟨ex, t₁, h₁, nx₁, q, fun df k => by
    show runS tab call fi (l ++ m) t h nx _ = _
    rw [runS_app, e]
    exact e₁ df k⟩
end Go.Can
namespace Go.Can
theorem natbeq (n : Nat) : Nat.beq n n = true := Nat.beq_refl n
theorem grd_beq {β : Type} (c n : Nat) (k : Res β) : grd c (Nat.beq n n) k = k := by rw [natbeq]; exact grd_true c k
end Go.Can
namespace Go.Can
variable {β : Type} {h : T Blk} {nx : Nat} {k : Nat → T Blk → Nat → Res β}
theorem newC0 : newCells [] h nx k = k nx (h.set nx (newB [])) (nx + 1) := newCells_eq1 rfl
theorem newC1 (f : FuncId) (a b : List CV) : newCells [.fn f a b] h nx k = k nx (h.set nx (newB [.fn f a b])) (nx + 1) := newCells_eq1 rfl
theorem newC2 (f g : FuncId) (a b c d : List CV) : newCells [.fn f a b, .fn g c d] h nx k = k nx (h.set nx (newB [.fn f a b, .fn g c d])) (nx + 1) := newCells_eq1 rfl
theorem newR1 (a c : Int) (w : Bool) : newCells [.int .u64 a, .int .i64 c, .bool w] h nx k = k nx (h.set nx (newB [.int .u64 a, .int .i64 c, .bool w])) (nx + 1) := newCells_eq1 rfl
theorem newR2 (a c a2 c2 : Int) (w w2 : Bool) : newCells [.int .u64 a, .int .i64 c, .bool w, .int .u64 a2, .int .i64 c2, .bool w2] h nx k = k nx (h.set nx (newB [.int .u64 a, .int .i64 c, .bool w, .int .u64 a2, .int .i64 c2, .bool w2])) (nx + 1) := newCells_eq1 rfl
theorem newR3 (a c a2 c2 a3 c3 : Int) (w w2 w3 : Bool) : newCells [.int .u64 a, .int .i64 c, .bool w, .int .u64 a2, .int .i64 c2, .bool w2, .int .u64 a3, .int .i64 c3, .bool w3] h nx k = k nx (h.set nx (newB [.int .u64 a, .int .i64 c, .bool w, .int .u64 a2, .int .i64 c2, .bool w2, .int .u64 a3, .int .i64 c3, .bool w3])) (nx + 1) := newCells_eq1 rfl
end Go.Can
namespace Go.Can
variable {β : Type}

/-! ## rules: slices of slices, clear -/

noncomputable def slK (sz : Nat) (lo hi : Option Nat) (v : CV) (k : CV → Res β) : Res β :=
  match v with
  | .slice b o len cap => sliceOp sz b o len cap lo hi none k
  | .nilslice => grd 59 (Nat.beq (lo.getD 0) 0) <| grd 59 (Nat.beq (hi.getD 0) 0) <| k .nilslice
  | _ => .bad 60

theorem slK_lo {sz b o len c i : Nat} (k : CV → Res β) (h1 : i < c) (h2 : i ≤ len) (h3 : len ≤ c) : slK sz (some i) none (.slice b o len (.known c)) k = k (.slice b (o + i * sz) (len - i) (.known (c - i))) := by
  show grd 51 (Nat.ble i len) (grd 52 (Nat.ble len c) (natK (Bool.rec (Nat.add o (Nat.mul i sz)) o (Nat.beq c i)) fun o => natK (Nat.sub len i) fun n => natK (Nat.sub c i) fun c => k (.slice b o n (.known c)))) = _
  rw [grd_ble h2, grd_ble h3, natK_eq, natK_eq, natK_eq]
  have : Nat.beq c i = false := by
    cases hb : Nat.beq c i with
    | false => rfl
    | true => have := Nat.eq_of_beq_eq_true hb; omega
  rw [this]
  rfl

theorem slK_hi {sz b o len c i : Nat} (k : CV → Res β) (h1 : i ≤ c) : slK sz none (some i) (.slice b o len (.known c)) k = k (.slice b o i (.known c)) := by
  show grd 51 (Nat.ble 0 i) (grd 52 (Nat.ble i c) (natK (Bool.rec (Nat.add o (Nat.mul 0 sz)) o (Nat.beq c 0)) fun o => natK (Nat.sub i 0) fun n => natK (Nat.sub c 0) fun c => k (.slice b o n (.known c)))) = _
  rw [grd_ble (Nat.zero_le i), grd_ble h1, natK_eq, natK_eq, natK_eq]
  have : (Bool.rec (Nat.add o (Nat.mul 0 sz)) o (Nat.beq c 0) : Nat) = o := by
    cases Nat.beq c 0
    · show o + 0 * sz = o; simp
    · rfl
  rw [this]
  rfl

section
variable {tab : Tab} {call : CallT β} {t : T CV} {h : T Blk} {nx : Nat} {k : K β}

theorem ev_slice_lo {ty e sz : Nat} {ti te : TI} (hty : tab.types.get ty = some ti) (hu : ti.u = .slice e) (hte : tab.types.get e = some te) (hs : te.size = sz) (x y : Operand) :
    evOp (.slice ty x (some y) none none) tab call t h nx k = evO x tab t fun v => evO y tab t fun i => natOf i fun i => slK sz (some i) none v fun v => k v h nx := by
  show opSlice ty x (some y) none none tab call t h nx k = _
  unfold opSlice
  simp only [tyK, hty, optK_some, optNat]
  congr 1
  funext v
  congr 1
  funext i
  congr 1
  funext i
  simp only [hu]
  cases v <;> first
    | rfl
    | (simp only [tyK, hte, optK_some, hs, slK]; done)
    | (simp only [tyK, hte, optK_some, slK]; rfl)

theorem ev_slice_hi {ty e sz : Nat} {ti te : TI} (hty : tab.types.get ty = some ti) (hu : ti.u = .slice e) (hte : tab.types.get e = some te) (hs : te.size = sz) (x y : Operand) :
    evOp (.slice ty x none (some y) none) tab call t h nx k = evO x tab t fun v => evO y tab t fun i => natOf i fun i => slK sz none (some i) v fun v => k v h nx := by
  show opSlice ty x none (some y) none tab call t h nx k = _
  unfold opSlice
  simp only [tyK, hty, optK_some, optNat]
  congr 1
  funext v
  congr 1
  funext i
  congr 1
  funext i
  simp only [hu]
  cases v <;> first
    | rfl
    | (simp only [tyK, hte, optK_some, hs, slK]; done)
    | (simp only [tyK, hte, optK_some, slK]; rfl)

theorem clear_eq {ty e : Nat} {ti te : TI} {z : List CV} (hty : tab.types.get ty = some ti) (hu : ti.u = .slice e) (hte : tab.types.get e = some te) (hz : te.zero.cells = z) (b o n : Nat) (cap : Cap) (hn : 0 < n) :
    opBuiltin .clear [ty] [.slice b o n cap] tab h nx k = optK 6 (h.get b) fun B => stB (repL z n) B o fun B => k (.tup []) (h.set b B) nx := by
  show tyK tab ty _ = _
  rw [tyK, hty, optK_some, hu]
  show tyK tab e _ = _
  rw [tyK, hte, optK_some, hz]
  obtain ⟨m, rfl⟩ : ∃ m, n = m + 1 := ⟨n - 1, by omega⟩
  show putCells (repL z (m + 1)) h b o _ = _
  unfold putCells blkK
  congr 1
  funext B
  cases B <;> first | rfl | skip
  rename_i n cs rw
  show grd 11 rw (lenK (repL z (m + 1)) o fun e => grd 12 (Nat.ble e n) (writeCells (repL z (m + 1)) cs o fun cs => h.setK b (.cells n cs true) _)) = _
  rw [lenK_eq, writeCells_grd]
  simp only [setK_eq]
  rfl
end
end Go.Can
namespace Go.Can
variable {β : Type}

/-! ## back to fewer blocks -/

mutual
theorem VRel.back {σ τ : Sg} (h : σ.le τ) : ∀ (c : CV) {u v : Value}, VRel σ c u → VRel τ c v → VRel σ c v
  | .bool b, u, v, _, r => r
  | .int k n, u, v, _, r => r
  | .ptr b o, u, v, ⟨L, hL, _⟩, ⟨M, hM, e⟩ => by have := (h _ _ hL).symm.trans hM; cases this; exact ⟨L, hL, e⟩
  | .nilptr, u, v, _, r => r
  | .slice b o len cap, u, v, ⟨L, c, hL, _⟩, ⟨M, c', hM, e⟩ => by have := (h _ _ hL).symm.trans hM; cases this; exact ⟨L, c', hL, e⟩
  | .nilslice, u, v, _, r => r
  | .mapv b, u, v, ⟨L, hL, _⟩, ⟨M, hM, e⟩ => by have := (h _ _ hL).symm.trans hM; cases this; exact ⟨L, hL, e⟩
  | .nilmap, u, v, _, r => r
  | .fn f a b, u, v, ⟨a', b', _, ha, hb⟩, ⟨a2, b2, e, ha2, hb2⟩ => ⟨a2, b2, e, VRels.back h a ha ha2, VRels.back h b hb hb2⟩
  | .nilfn, u, v, _, r => r
  | .yield l, u, v, ⟨L, hL, _⟩, ⟨M, hM, e⟩ => by have := (h _ _ hL).symm.trans hM; cases this; exact ⟨L, hL, e⟩
  | .iter b, u, v, ⟨L, hL, _⟩, ⟨M, hM, e⟩ => by have := (h _ _ hL).symm.trans hM; cases this; exact ⟨L, hL, e⟩
  | .iface t x, u, v, ⟨x', _, hx⟩, ⟨x2, e, hx2⟩ => ⟨x2, e, VRel.back h x hx hx2⟩
  | .niliface, u, v, _, r => r
  | .agg cs, u, v, ⟨vs, _, hv⟩, ⟨vs2, e, hv2⟩ => ⟨vs2, e, VRels.back h cs hv hv2⟩
  | .tup cs, u, v, ⟨vs, _, hv⟩, ⟨vs2, e, hv2⟩ => ⟨vs2, e, VRels.back h cs hv hv2⟩
  | .str s, u, v, _, r => r
theorem VRels.back {σ τ : Sg} (h : σ.le τ) : ∀ (cs : List CV) {k l : List Value}, VRels σ cs k → VRels τ cs l → VRels σ cs l
  | [], k, l, _, r => r
  | c :: cs, k, l, ⟨v, vs, _, hc, hs⟩, ⟨v2, vs2, e, hc2, hs2⟩ => ⟨v2, vs2, e, VRel.back h c hc hc2, VRels.back h cs hs hs2⟩
end

theorem MRel.back {σ τ : Sg} (h : σ.le τ) : ∀ {es : List (CV × CV)} {k l : List MapEntry}, MRel σ es k → MRel τ es l → MRel σ es l
  | [], k, l, _, r => r
  | (a, b) :: es, k, l, ⟨e, l', _, ha, hb, hr⟩, ⟨e2, l2, hl2, ha2, hb2, hr2⟩ => ⟨e2, l2, hl2, ha.back h _ ha2, hb.back h _ hb2, MRel.back h hr hr2⟩

theorem TRel.back {σ τ : Sg} (h : σ.le τ) {t : T CV} {a b : Array Value} (r : TRel σ t a) (s : TRel τ t b) : TRel σ t b := fun n c e => by
  obtain ⟨v, _, hv⟩ := r n c e
  obtain ⟨u, hu, hu2⟩ := s n c e
  exact ⟨u, hu, hv.back h _ hu2⟩

theorem BRel.back {σ τ : Sg} (h : σ.le τ) {L : Loc} {w w' : World} {B : Blk} (r : BRel σ L w B) (s : BRel τ L w' B) : BRel σ L w' B := by
  cases B with
  | cells n cs rw =>
    obtain ⟨_, _, _, _, _, _, _, h5⟩ := r
    obtain ⟨arr, e, fz, g1, g2, g3, g4, g5⟩ := s
    refine ⟨arr, e, fz, g1, g2, g3, g4, fun i c hi => ?_⟩
    obtain ⟨_, u, _, hu⟩ := h5 i c hi
    obtain ⟨q, v, hv, hv2⟩ := g5 i c hi
    exact ⟨q, v, hv, hu.back h _ hv2⟩
  | map es => obtain ⟨_, _, _, h2⟩ := r; obtain ⟨arr, cl, g1, g2⟩ := s; exact ⟨arr, cl, g1, h2.back h g2⟩
  | iter m =>
    obtain ⟨_, _, _, _, h2⟩ := r
    obtain ⟨mm, s, st, g1, g2⟩ := s
    refine ⟨mm, s, st, g1, ?_⟩
    cases m with
    | none => exact g2
    | some c =>
      obtain ⟨M, hM, _⟩ := h2
      obtain ⟨M', hM', e⟩ := g2
      have := (h _ _ hM).symm.trans hM'
      cases this
      exact ⟨M, hM, e⟩
  | loop t nt ps a b st pd =>
    obtain ⟨_, _, _, _, _, _, _, _, h8⟩ := r
    obtain ⟨l, g1, g2, g3, g4, g5, g6, g7, g8⟩ := s
    exact ⟨l, g1, g2, g3, g4, g5, g6, g7, h8.back h g8⟩
  | mark => exact s

/-- A RUN IS FORGOTTEN BUT FOR ONE BLOCK, which gets the next number. -/
theorem HRel.join {G : Nat} {σ σ' : Sg} {h h0 h1 h' : T Blk} {nx nx' : Nat} {w w' : World} (r : HRel G σ h nx w) (r' : HRel G σ' h' nx' w') (st : Step σ h1 w σ' h' w')
    (hrw : ∀ c B1, h1.get c = some B1 → ∃ B, h.get c = some B ∧ (B1.rw = true → B.rw = true)) (hwr : ∀ c B, h.get c = some B → ∃ B1, h1.get c = some B1 ∧ (B.rw = true → B1.rw = true))
    (hsub : ∀ c B, h0.get c = some B → h.get c = some B ∧ h'.get c = some B) {M : Nat} {L' : Loc} (hM : σ' M = some L') {n : Nat} {cs' : T CV} (hB : h'.get M = some (.cells n cs' true)) (hne : h0.get M = none)
    {l : List CV} (hl : l.length ≤ n) (hget : ∀ (i : Nat) (c : CV), l[i]? = some c → cs'.get i = some c ∧ ∃ v0, VRel σ c v0) :
    HRel G (σ.upd nx L') (h0.set nx (newB l)) (nx + 1) w' ∧ Step σ h w (σ.upd nx L') (h0.set nx (newB l)) w' := by
  have hf := r.fresh
  have hle : σ.le (σ.upd nx L') := Sg.le_upd hf
  have get : ∀ {c K X}, (σ.upd nx L') c = some K → (h0.set nx (newB l)).get c = some X → (c = nx ∧ K = L' ∧ X = newB l) ∨ (c ≠ nx ∧ σ c = some K ∧ h.get c = some X ∧ h'.get c = some X ∧ c ≠ M) := by
    intro c K X e e'
    rw [T.get_set] at e'
    by_cases hc : c = nx
    · subst hc; rw [Sg.upd_same] at e; simp at e e'; exact .inl ⟨rfl, e.symm, e'.symm⟩
    · rw [Sg.upd_ne σ _ hc] at e; rw [if_neg hc] at e'
      refine .inr ⟨hc, e, (hsub c X e').1, (hsub c X e').2, fun hcM => ?_⟩
      subst hcM; rw [hne] at e'; cases e'
  have c1 : ∀ {x}, CovW σ h1 x → CovW σ h x := fun {x} ⟨c, L, B, a, b, d, e⟩ => by
    obtain ⟨B', hB', hq⟩ := hrw c B b
    exact ⟨c, L, B', a, hB', hq d, e⟩
  have c2 : ∀ {x}, CovW σ h x → CovW σ h1 x := fun {x} ⟨c, L, B, a, b, d, e⟩ => by
    obtain ⟨B', hB', hq⟩ := hwr c B b
    exact ⟨c, L, B', a, hB', hq d, e⟩
  have c3 : ∀ {x}, Cov σ h1 x → Cov σ h x := fun {x} ⟨c, L, B, a, b, e⟩ => by
    obtain ⟨B', hB', hq⟩ := hrw c B b
    exact ⟨c, L, B', a, hB', e⟩
  refine ⟨⟨⟨?_, ?_, ?_, ?_⟩, ?_⟩, ⟨hle, st.size, ?_, ?_, ?_, st.tape, st.os, st.output⟩⟩
  · intro c K e
    by_cases hc : c = nx
    · subst hc; rw [Sg.upd_same] at e; cases e; exact ⟨by omega, (r'.dom _ _ hM).2⟩
    · rw [Sg.upd_ne σ _ hc] at e
      have := r.dom c K e
      exact ⟨by omega, Nat.lt_of_lt_of_le this.2 st.size⟩
  · intro c K X e e'
    rcases get e e' with ⟨rfl, rfl, rfl⟩ | ⟨hc, e1, e2, e3, _⟩
    · obtain ⟨arr, el, fz, g1, g2, g3, g4, g5⟩ := r'.blk M _ _ hM hB
      refine ⟨arr, el, fz, g1, by omega, g3, fun _ => g4 rfl, fun i c hi => ?_⟩
      rw [cellsT_get] at hi
      split at hi
      · rename_i hr
        simp only [Nat.sub_zero] at hi
        obtain ⟨q1, v0, q2⟩ := hget i c hi
        obtain ⟨_, v, hv, hv2⟩ := g5 i c q1
        exact ⟨by omega, v, hv, (q2.back st.le _ hv2).mono hle⟩
      · simp [T.nil_get] at hi
    · exact ((r.blk c K X e1 e2).back st.le (r'.blk c K X (st.le _ _ e1) e3)).mono hle
  · intro c c' K K' X X' e₁ e₂ g₁ g₂ hw' hb
    rcases get e₁ g₁ with ⟨a1, a2, a3⟩ | ⟨hc, f₁, k₁, k₁', m₁⟩ <;> rcases get e₂ g₂ with ⟨b1, b2, b3⟩ | ⟨hc', f₂, k₂, k₂', m₂⟩
    · rw [a1, b1]
    · rw [a2] at hb; exact absurd (r'.inj _ _ _ _ _ _ hM (st.le _ _ f₂) hB k₂' (.inl rfl) hb).symm m₂
    · rw [b2] at hb; exact absurd (r'.inj _ _ _ _ _ _ (st.le _ _ f₁) hM k₁' hB (.inr rfl) hb) m₁
    · exact r.inj _ _ _ _ _ _ f₁ f₂ k₁ k₂ hw' hb
  · intro g hg
    obtain ⟨K, e, h1⟩ := r.glob g hg
    exact ⟨K, hle _ _ e, h1⟩
  · intro c B e
    rw [T.get_set] at e
    by_cases hc : c = nx
    · subst hc; exact ⟨_, Sg.upd_same _ _ _⟩
    · rw [if_neg hc] at e; rw [Sg.upd_ne _ _ hc]; exact r.full c B (hsub c B e).1
  · intro x hx hn
    exact st.frame x hx fun hc => hn (c1 hc)
  · rintro x hx ⟨c, K, X, e, e', h1, rfl⟩
    rcases get e e' with ⟨rfl, rfl, rfl⟩ | ⟨hc, e1, e2, e3, _⟩
    · exact c1 (st.covW _ hx ⟨M, _, _, hM, hB, rfl, rfl⟩)
    · exact ⟨c, K, X, e1, e2, h1, rfl⟩
  · rintro x hx ⟨c, K, X, e, e', rfl⟩
    rcases get e e' with ⟨rfl, rfl, rfl⟩ | ⟨hc, e1, e2, e3, _⟩
    · exact c3 (st.cov _ hx ⟨M, _, _, hM, hB, rfl⟩)
    · exact ⟨c, K, X, e1, e2, rfl⟩

/-! ## slices.overlaps -/

noncomputable def ovlG (args : List CV) (h : T Blk) (nx : Nat) : Option (CV × T Blk × Nat) :=
  match args with
  | [.slice b _ _ _, .slice b2 _ _ _] => if b = b2 then none else match h.get b, h.get b2 with
    | some (.cells _ _ true), some (.cells n2 _ _) => if 0 < n2 then some (.bool false, h, nx) else none
    | _, _ => none
  | _ => none

def OvlIs (P : Program) (tab : Tab) (f : FuncId) : Prop :=
  ∃ fn tS tR e ti te, P.funcs[f]? = some fn ∧ (fn.name == "runtime.NumGoroutine") = false ∧ fn.body.isNone = true ∧ Extern.findNext fn = none ∧ Extern.find fn = some (Extern.SlicesOverlaps.overlaps #[tS, tS] #[tR]) ∧
    tab.types.get tS = some ti ∧ ti.u = .slice e ∧ tab.types.get e = some te

theorem ovl_spec {P : Program} {tab : Tab} (TO : TabOK P tab) {f : FuncId} (H : OvlIs P tab f) : SpecIs P tab.ng f ovlG := by
  obtain ⟨fn, tS, tR, e, ti, te, hf, hname, hb, hn, hfind, hti, hu, hte⟩ := H
  have hut := (TO.types tS ti hti).1
  rw [hu] at hut
  intro args h nx v h' nx' hg
  unfold ovlG at hg
  split at hg
  · rename_i b o la ca b2 o2 lb cb
    split at hg
    · cases hg
    · rename_i hbb
      split at hg
      · rename_i n cs n2 cs2 rw2 hg1 hg2
        split at hg
        · rename_i hn2
          cases hg
          refine ⟨Nat.le_refl _, fun σ argvs w hv hr => ?_⟩
          obtain ⟨x, y, rfl, hx, hy⟩ := vrels2 hv
          obtain ⟨L, c, hL, rfl, _⟩ := hx
          obtain ⟨L2, c2, hL2, rfl, _⟩ := hy
          obtain ⟨arr, el, fz, g1, g2, g3, g4, _⟩ := hr.blk b L _ hL hg1
          obtain ⟨arr2, el2, fz2, k1, k2, k3, _, _⟩ := hr.blk b2 L2 _ hL2 hg2
          have hfz := g4 rfl
          subst hfz
          have hne : L.blk ≠ L2.blk := fun hq => hbb (hr.inj b b2 L L2 _ _ hL hL2 hg1 hg2 (.inl rfl) hq)
          have hrun := Lib.run_overlaps_apart (P := P) w tS tR e hut te.size (fun w => run_sizeOf' TO hte (w := w)) ⟨L.blk, L.off + o, none⟩ ⟨L2.blk, L2.off + o2, none⟩ la c lb c2 hne el el2 arr.size arr2.size
            (by simp [World.shape?, g1]) (by simp [World.shape?, k1]) (by omega) (by simp [World.frozen?, g1]) (by simp [World.frozen?, g1])
          rw [run_callFunc_extern hf hname hb hn hfind, hrun]
          exact Good.value (post_same rfl hr)
        · cases hg
      · cases hg
  · cases hg

/-! ## slices.Insert of one element -/

/-- a row of cells of a block that may be written -/
noncomputable def rowOf (h : T Blk) (b n : Nat) : Option (List CV) :=
  match h.get b with
  | some (.cells _ cs true) => match readCells (β := List CV) cs n 0 (fun l => .ok l) with
    | .ok l => some l
    | .bad _ => none
  | _ => none

theorem rowOf_ok {h : T Blk} {b n : Nat} {l : List CV} (e : rowOf h b n = some l) : ∃ m cs, h.get b = some (.cells m cs true) ∧ l.length = n ∧ ∀ i, i < n → cs.get i = l[i]? := by
  unfold rowOf at e
  split at e
  · rename_i m cs hb
    split at e
    · rename_i l' hl'
      cases e
      obtain ⟨l2, e2, h1, h2⟩ := readCells_ok n 0 hl'
      cases e2
      exact ⟨m, cs, hb, h1, fun i hi => by have := h2 i hi; rwa [Nat.zero_add] at this⟩
    · cases e
  · cases e

theorem readCells_of : ∀ (l : List CV) (cs : T CV) (o : Nat) (k : List CV → Res β), (∀ i c, l[i]? = some c → cs.get (o + i) = some c) → readCells cs l.length o k = k l
  | [], cs, o, k, _ => rfl
  | v :: l, cs, o, k, h => by
    rw [List.length_cons, readS, show cs.get o = some v from h 0 v rfl, optK_some, readCells_of l cs (o + 1) _ fun i c hi => by rw [Nat.add_assoc, Nat.add_comm 1 i]; exact h (i + 1) c (by simpa using hi)]

theorem rowOf_of {h : T Blk} {b m : Nat} {cs : T CV} {l : List CV} (hb : h.get b = some (.cells m cs true)) (hl : ∀ i c, l[i]? = some c → cs.get i = some c) : rowOf h b l.length = some l := by
  unfold rowOf
  rw [hb]
  simp only [readCells_of l cs 0 _ fun i c hi => by rw [Nat.zero_add]; exact hl i c hi]

noncomputable def insG (esz : Nat) (args : List CV) (h : T Blk) (nx : Nat) : Option (CV × T Blk × Nat) :=
  match args with
  | [s, .int .i64 (.ofNat i), .slice b2 o2 l2 (.known c2)] => if o2 = 0 ∧ l2 = 1 ∧ c2 = 1 then match rowOf h b2 esz with
    | some v => if v.all CV.one = true then match s with
      | .nilslice => if i = 0 then some (.slice nx 0 1 (.opn esz), h.set nx (newB v), nx + 1) else none
      | .slice b o len (.known c) => match h.get b with
        | some (.cells _ _ _) => if o = 0 ∧ len = 0 ∧ c = 0 ∧ i = 0 then some (.slice nx 0 1 (.opn esz), h.set nx (newB v), nx + 1) else none
        | _ => none
      | .slice b o len (.opn e) => match rowOf h b (len * esz) with
        | some row => if o = 0 ∧ e = esz ∧ b ≠ b2 ∧ i ≤ len ∧ len ≤ 1000 ∧ row.all CV.one = true then
            some (.slice nx 0 (len + 1) (.opn esz), (h.del b).set nx (newB (row.take (i * esz) ++ v ++ row.drop (i * esz))), nx + 1) else none
        | none => none
      | _ => none
      else none
    | none => none
    else none
  | _ => none
end Go.Can
namespace Go.Can
variable {β : Type}

/-! ## rules: cap, copy, append of noughts, append at a known capacity -/

theorem slK_lo_end {sz b o len i : Nat} (k : CV → Res β) (h2 : i ≤ len) (h3 : len ≤ i) : slK sz (some i) none (.slice b o len (.known i)) k = k (.slice b o 0 (.known 0)) := by
  show grd 51 (Nat.ble i len) (grd 52 (Nat.ble len i) (natK (Bool.rec (Nat.add o (Nat.mul i sz)) o (Nat.beq i i)) fun o => natK (Nat.sub len i) fun n => natK (Nat.sub i i) fun c => k (.slice b o n (.known c)))) = _
  rw [grd_ble h2, grd_ble h3, natK_eq, natK_eq, natK_eq]
  have h : len = i := by omega
  subst h
  rw [show Nat.beq len len = true from Nat.beq_refl len, show Nat.sub len len = 0 from Nat.sub_self len]

theorem slK_lo_opn {sz b o len i : Nat} (k : CV → Res β) (h1 : i < len ∨ i = 0) (h2 : i ≤ len) : slK sz (some i) none (.slice b o len (.opn sz)) k = k (.slice b (o + i * sz) (len - i) (.opn sz)) := by
  show grd 51 (Nat.ble i len) (grd 52 (leCap len len (.opn sz)) (grd 53 (Nat.beq sz sz) (grd 54 (Nat.blt i len || Nat.beq i 0) (natK (Nat.add o (Nat.mul i sz)) fun o => natK (Nat.sub len i) fun n => k (.slice b o n (.opn sz)))))) = _
  have e1 : leCap len len (.opn sz) = true := Nat.ble_eq_true_of_le (Nat.le_refl _)
  have e2 : (Nat.blt i len || Nat.beq i 0) = true := by
    rcases h1 with h1 | rfl
    · rw [show Nat.blt i len = true from Nat.ble_eq_true_of_le h1]; rfl
    · rw [show Nat.beq 0 0 = true from rfl, Bool.or_true]
  rw [grd_ble h2, e1, show Nat.beq sz sz = true from Nat.beq_refl sz, e2, natK_eq, natK_eq]
  rfl
theorem slK_lo_nil {sz : Nat} (k : CV → Res β) : slK sz (some 0) none .nilslice k = k .nilslice := rfl

section
variable {tab : Tab} {h : T Blk} {nx : Nat} {k : K β}

theorem cap_eq {ty e : Nat} {ti : TI} (hty : tab.types.get ty = some ti) (hu : ti.u = .slice e) (b o n c : Nat) : opBuiltin .cap [ty] [.slice b o n (.known c)] tab h nx k = k (.int .i64 (c : Int)) h nx := by
  show tyK tab ty _ = _
  rw [tyK, hty, optK_some, hu]
  rfl

/-- a row stored -/
theorem putCells_eq {l : List CV} {h : T Blk} {b o : Nat} {k : T Blk → Res β} : putCells l h b o k = optK 6 (h.get b) fun B => stB l B o fun B => k (h.set b B) := by
  unfold putCells blkK
  congr 1
  funext B
  cases B <;> first | rfl | skip
  rename_i n cs rw
  show grd 11 rw (lenK l o fun e => grd 12 (Nat.ble e n) (writeCells l cs o fun cs => h.setK b (.cells n cs true) k)) = _
  rw [lenK_eq, writeCells_grd]
  simp only [setK_eq]
  rfl

theorem put_at {l : List CV} {h : T Blk} {b o n : Nat} {cs : T CV} {k : T Blk → Res β} (hb : h.get b = some (.cells n cs true)) (hn : o + l.length ≤ n) (h1 : l.all CV.one = true) : putCells l h b o k = k (h.set b (.cells n (cellsT l o cs) true)) := by
  rw [putCells_eq, hb, optK_some, stB_cells, grd_true, grd_ble hn, h1, grd_true]

theorem copy_eq {ty e sz n : Nat} {ti te : TI} {tys : List TypeId} {b o len b2 o2 len2 N m : Nat} {cap cap2 : Cap} {cs cs2 : T CV} {rw2 : Bool} {l : List CV} (hty : tab.types.get ty = some ti) (hu : ti.u = .slice e) (hte : tab.types.get e = some te) (hs : te.size = sz)
    (hn : (n = len2 ∧ len2 ≤ len) ∨ (n = len ∧ len < len2)) (hb2 : h.get b2 = some (.cells m cs2 rw2)) (hll : l.length = n * sz) (hl : ∀ i c, l[i]? = some c → cs2.get (o2 + i) = some c)
    (hb : h.get b = some (.cells N cs true)) (hN : o + l.length ≤ N) (h1 : l.all CV.one = true) :
    opBuiltin .copy (ty :: tys) [.slice b o len cap, .slice b2 o2 len2 cap2] tab h nx k = k (.int .i64 (n : Int)) (h.set b (.cells N (cellsT l o cs) true)) nx := by
  show tyK tab ty _ = _
  rw [tyK, hty, optK_some, hu]
  show tyK tab e _ = _
  rw [tyK, hte, optK_some, hs, natK_eq]
  have hmin : (Bool.rec len len2 (Nat.ble len2 len) : Nat) = n := by
    rcases hn with ⟨rfl, h⟩ | ⟨rfl, h⟩
    · rw [Nat.ble_eq_true_of_le h]
    · cases hq : Nat.ble len2 n with
      | true => have := Nat.le_of_ble_eq_true hq; omega
      | false => rfl
  rw [hmin]
  unfold blkK
  rw [hb2, optK_some]
  show readCells cs2 (n * sz) o2 _ = _
  rw [← hll, readCells_of l cs2 o2 _ hl, put_at hb hN h1]
  rfl

theorem appZ_eq {ty ty2 e sz by' : Nat} {ti te t2 : TI} {z row : List CV} {b o len c n N : Nat} {cs : T CV} {rw : Bool} {kd : IntKind} (hty : tab.types.get ty = some ti) (hu : ti.u = .slice e) (hte : tab.types.get e = some te) (hs : te.size = sz) (hby : te.bytes = by') (hz : te.zero.cells = z)
    (ht2 : tab.types.get ty2 = some t2) (hi2 : isIntT t2.u = true) (hne : Nat.beq ty ty2 = false) (hn : 0 < n) (h0 : 0 < sz) (hc : c < len + n) (hlim : len + n ≤ 65536) (hb' : by' ≤ 65536)
    (hb : h.get b = some (.cells N cs rw)) (hll : row.length = len * sz) (hl : ∀ i c, row[i]? = some c → cs.get (o + i) = some c) (h1 : row.all CV.one = true) (h2 : (repL z n).all CV.one = true) :
    opBuiltin .append [ty, ty2] [.slice b o len (.known c), .int kd (n : Int)] tab h nx k = k (.slice nx 0 (len + n) (.opn sz)) (h.set nx (newB (row ++ repL z n))) (nx + 1) := by
  show Bool.rec (motive := fun _ => Res β) (appendZ ty ty2 (.slice b o len (.known c)) (.int kd (n : Int)) tab h nx k) _ (Nat.beq ty ty2) = _
  rw [hne]
  show tyK tab ty (fun ti => tyK tab ty2 fun t2 => _) = _
  rw [tyK, hty, optK_some, tyK, ht2, optK_some, hi2, grd_true, hu]
  show tyK tab e _ = _
  rw [tyK, hte, optK_some, hs, hby, hz, grd_blt hn, grd_blt h0, natK_eq]
  show grd 98 (Nat.blt c (len + n)) (grd 98 (Nat.ble (len + n) 65536 && Nat.ble by' 65536) (blkK h b fun _ cs _ => readCells cs (len * sz) o fun old => newCells (old ++ repL z n) h nx fun b h nx => k (.slice b 0 (len + n) (.opn sz)) h nx)) = _
  rw [grd_blt hc, show (Nat.ble (len + n) 65536 && Nat.ble by' 65536) = true by rw [Nat.ble_eq_true_of_le hlim, Nat.ble_eq_true_of_le hb']; rfl, grd_true]
  unfold blkK
  rw [hb, optK_some]
  show readCells cs (len * sz) o _ = _
  rw [← hll, readCells_of row cs o _ hl, newCells_eq1 (by rw [List.all_append, h1, h2]; rfl)]

theorem append_same {ty e sz by' : Nat} {ti te : TI} {s x : CV} (hty : tab.types.get ty = some ti) (hu : ti.u = .slice e) (hte : tab.types.get e = some te) (hs : te.size = sz) (hby : te.bytes = by') :
    opBuiltin .append [ty, ty] [s, x] tab h nx k = appendOp sz by' s x h nx k := by
  show Bool.rec (motive := fun _ => Res β) _ _ (Nat.beq ty ty) = _
  rw [show Nat.beq ty ty = true from Nat.beq_refl ty]
  show tyK tab ty _ = _
  rw [tyK, hty, optK_some, hu]
  show tyK tab e _ = _
  rw [tyK, hte, optK_some, hs, hby]

/-- append at a known capacity: in place -/
theorem app_in {sz by' : Nat} {v : List CV} {b o len c b2 o2 n N m : Nat} {cap2 : Cap} {cs cs2 : T CV} {rw2 : Bool} (h0 : 0 < sz) (hn : 0 < n) (hc : len + n ≤ c) (hlim : len + n ≤ 65536) (hb' : by' ≤ 65536)
    (hb2 : h.get b2 = some (.cells m cs2 rw2)) (hvl : v.length = n * sz) (hv : ∀ i c, v[i]? = some c → cs2.get (o2 + i) = some c) (h1 : v.all CV.one = true) (hb : h.get b = some (.cells N cs true)) (hN : o + len * sz + v.length ≤ N) :
    appendOp sz by' (.slice b o len (.known c)) (.slice b2 o2 n cap2) h nx k = k (.slice b o (len + n) (.known c)) (h.set b (.cells N (cellsT v (o + len * sz) cs) true)) nx := by
  unfold appendOp newsK
  simp only []
  unfold blkK
  rw [hb2, optK_some]
  show readCells cs2 (n * sz) o2 _ = _
  rw [← hvl, readCells_of v cs2 o2 _ hv, natK_eq, grd_blt h0, natK_eq]
  show grd 90 (Nat.ble (len + n) 65536 && Nat.ble by' 65536) _ = _
  rw [show (Nat.ble (len + n) 65536 && Nat.ble by' 65536) = true by rw [Nat.ble_eq_true_of_le hlim, Nat.ble_eq_true_of_le hb']; rfl, grd_true, hb, optK_some]
  show Bool.rec (motive := fun _ => Res β) _ _ (Nat.ble (len + n) c) = _
  rw [Nat.ble_eq_true_of_le hc]
  obtain ⟨m', rfl⟩ : ∃ m', n = m' + 1 := ⟨n - 1, by omega⟩
  show putCells v h b (o + len * sz) _ = _
  rw [put_at hb hN h1]
  rfl

/-- .. grown -/
theorem app_new {sz by' : Nat} {v row : List CV} {b o len c b2 o2 n N m : Nat} {cap2 : Cap} {cs cs2 : T CV} {rw rw2 : Bool} (h0 : 0 < sz) (hc : c < len + n) (hlim : len + n ≤ 65536) (hb' : by' ≤ 65536)
    (hb2 : h.get b2 = some (.cells m cs2 rw2)) (hvl : v.length = n * sz) (hv : ∀ i c, v[i]? = some c → cs2.get (o2 + i) = some c) (h1 : v.all CV.one = true) (hb : h.get b = some (.cells N cs rw)) (hll : row.length = len * sz) (hl : ∀ i c, row[i]? = some c → cs.get (o + i) = some c) (h2 : row.all CV.one = true) :
    appendOp sz by' (.slice b o len (.known c)) (.slice b2 o2 n cap2) h nx k = k (.slice nx 0 (len + n) (.opn sz)) (h.set nx (newB (row ++ v))) (nx + 1) := by
  unfold appendOp newsK
  simp only []
  unfold blkK
  rw [hb2, optK_some]
  show readCells cs2 (n * sz) o2 _ = _
  rw [← hvl, readCells_of v cs2 o2 _ hv, natK_eq, grd_blt h0, natK_eq]
  show grd 90 (Nat.ble (len + n) 65536 && Nat.ble by' 65536) _ = _
  rw [show (Nat.ble (len + n) 65536 && Nat.ble by' 65536) = true by rw [Nat.ble_eq_true_of_le hlim, Nat.ble_eq_true_of_le hb']; rfl, grd_true, hb, optK_some]
  show Bool.rec (motive := fun _ => Res β) _ _ (Nat.ble (len + n) c) = _
  have hq : Nat.ble (len + n) c = false := by
    cases hq : Nat.ble (len + n) c with
    | true => have := Nat.le_of_ble_eq_true hq; omega
    | false => rfl
  rw [hq]
  show readCells cs (len * sz) o _ = _
  rw [← hll, readCells_of row cs o _ hl]
  show newCells (row ++ v) h nx _ = _
  rw [newCells_eq1 (by rw [List.all_append, h1, h2]; rfl)]
  rfl

/-- .. to nothing -/
theorem app_nil {sz by' : Nat} {v : List CV} {b2 o2 n m : Nat} {cap2 : Cap} {cs2 : T CV} {rw2 : Bool} (h0 : 0 < sz) (hn : 0 < n) (hlim : n ≤ 65536) (hb' : by' ≤ 65536)
    (hb2 : h.get b2 = some (.cells m cs2 rw2)) (hvl : v.length = n * sz) (hv : ∀ i c, v[i]? = some c → cs2.get (o2 + i) = some c) (h1 : v.all CV.one = true) :
    appendOp sz by' .nilslice (.slice b2 o2 n cap2) h nx k = k (.slice nx 0 n (.opn sz)) (h.set nx (newB v)) (nx + 1) := by
  unfold appendOp newsK
  simp only []
  unfold blkK
  rw [hb2, optK_some]
  show readCells cs2 (n * sz) o2 _ = _
  rw [← hvl, readCells_of v cs2 o2 _ hv, natK_eq, grd_blt h0]
  show grd 90 (Nat.ble n 65536 && Nat.ble by' 65536) _ = _
  rw [show (Nat.ble n 65536 && Nat.ble by' 65536) = true by rw [Nat.ble_eq_true_of_le hlim, Nat.ble_eq_true_of_le hb']; rfl, grd_true]
  obtain ⟨m', rfl⟩ : ∃ m', n = m' + 1 := ⟨n - 1, by omega⟩
  show newCells v h nx _ = _
  rw [newCells_eq1 h1]

/-- a primitive that is known -/
theorem call_spec {d : Nat} {f : FuncId} {g : List CV → T Blk → Nat → Option (CV × T Blk × Nat)} {args : List CV} {v : CV} {h' : T Blk} {nx' : Nat} (hp : tab.prims.get f = some (.spec g)) (hg : g args h nx = some (v, h', nx')) :
    callN tab (d + 1) (.fn f [] []) args h nx k = k v h' nx' := by
  show callFn tab (callN tab d) f args h nx k = _
  unfold callFn
  rw [hp]
  show primOp (.spec g) args h nx k = _
  have : primOp (.spec g) args h nx k = optK 192 (g args h nx) fun p => k p.1 p.2.1 p.2.2 := by
    unfold primOp
    cases args <;> rfl
  rw [this, hg]
  rfl
end
end Go.Can
namespace Go.Can
open Go.ChangeShapes Go.WideShapes Go.RowKit Go.Deep

/-! ## from the row to the evaluator, and back -/

section
variable {P : Program} {H : Type} {enc : TypeId × Value → H}

theorem trodAll_old (hl : laidOutB P = true) {W W' : World} (hb : Below W.heap.size W W') {sp : Nat → Bool} : ∀ {ts : List TypeId} {vs : List Value} {ds : List (DataW H)} {ps : List MemPlace}, ts.all (fun t => P.readableRec t && decide (t < P.types.size)) = true →
    DataW.TrodAll enc P W 0 (fun _ => true) true ts vs ds ps → (∀ p ∈ ps, p.block < W.heap.size) → (∀ p ∈ ps, sp p.block = true) → DataW.TrodAll enc P W' 0 sp true ts vs ds ps
  | [], [], [], ps, _, h, _, _ => h
  | t :: ts, v :: vs, d :: ds, ps, hr, ⟨p, q, h1, h2, e⟩, hlt, hs => by
    simp only [List.all_cons, Bool.and_eq_true, decide_eq_true_eq] at hr
    refine ⟨p, q, WideElems.Trod_stays hl hr.1.1 hr.1.2 h1 (fun x hx => hb.same (hlt x (by rw [e]; exact List.mem_append_left _ hx))) (fun x hx => hs x (by rw [e]; exact List.mem_append_left _ hx)),
      trodAll_old hl hb (by simpa only [Bool.and_eq_true, decide_eq_true_eq] using hr.2) h2 (fun x hx => hlt x (by rw [e]; exact List.mem_append_right _ hx)) (fun x hx => hs x (by rw [e]; exact List.mem_append_right _ hx)), e⟩

/-- a law's end: true; the arguments read as they did, all that was being as it was -/
theorem post_true {f : Func} {s : ChangeSpec} {fresh handsOn again : Bool} {W W' : World} {args : Array Value} {ds gs : List (DataW H)} {before : List MemPlace} (hl : laidOutB P = true)
    (hread : f.params.toList.all (fun t => P.readableRec t && decide (t < P.types.size)) = true) (hW : DataW.Whole enc P f.params.toList s.vars false W args.toList ds gs before) (hs : s.vars = []) (hb : Below W.heap.size W W')
    {tb : TypeId} (hrt : f.resultTypes = #[tb]) (htb : P.underlying tb = some .bool) (h1 : (s.fn H (ds ++ gs)).results = [.lit (.bool true)]) (h2 : (s.fn H (ds ++ gs)).args = ds) (h3 : (s.fn H (ds ++ gs)).vars = []) :
    s.post enc P f false fresh handsOn again W args (.bool true) W' := by
  have hW' := hW
  obtain ⟨p, q, hA, hV, rfl, hz, hn⟩ := hW'
  rw [hs] at hV
  obtain ⟨rfl, rfl⟩ := trodVars_none hV
  have hlt : ∀ x ∈ p, x.block < W.heap.size := hA.lt
  have hargs : ∀ sp : Nat → Bool, (∀ x ∈ p, sp x.block = true) → DataW.TrodAll enc P W' 0 sp true f.params.toList args.toList ds p := fun sp hsp => trodAll_old hl hb hread hA hlt hsp
  have hres : ∀ (b : Nat) (sp : Nat → Bool) (hd : Bool), DataW.TrodAll enc P W' b sp hd f.resultTypes.toList ((Value.bool true).resultList f.resultTypes.size) [.lit (.bool true)] [] := fun b sp hd => by
    rw [hrt]; exact trodAll_mk1 (shut_bool htb true)
  refine ⟨ds, [], p ++ [], [], p, [], hW, ?_, ?_, ?_, ?_, fun _ => ?_⟩
  · rw [h1]; exact hres _ _ _
  · rw [h2]; exact hargs _ fun x hx => by simpa using hlt x hx
  · rw [h3, hs]; rfl
  · exact World.keptBut.congr (World.keptBut_refl W _) hb.os hb.output fun i hi => hb.block i hi
  · refine ⟨ok_one hrt rfl (okWide_bool_mk htb true), _, [], ([] ++ p) ++ [], ⟨[] ++ p, [], trodAll_append (hargs _ (fun _ _ => rfl)) (hres _ _ _), by rw [hs]; rfl, rfl, ?_, fun h => by cases h⟩, ?_⟩
    · intro b off hp
      have hp' : MemPlace.cell b off ∈ p := by simpa using hp
      have := hlt _ hp'
      have e := hz b off (by simpa using hp')
      simp only [World.frozen?] at e ⊢
      rw [hb.block b this]; exact e
    · intro x hx _; simpa using hx
end

/-- the program's run, where the evaluator says so, from a start in which nothing may be written -/
theorem calls_of {P : Program} {tab : Tab} {d : Nat} {f : FuncId} {args : List CV} {h : T Blk} {nx : Nat} (hc : CallOK P tab (callN (β := CV × T Blk × Nat) tab d)) (hp : tab.prims.get f = none) (hrw : ∀ c B, h.get c = some B → B.rw = false)
    (H : FG (β := CV × T Blk × Nat) tab d f args h nx fun v _ _ => v = .bool true) {σ : Sg} {argvs : Array Value} {w : World} (hv : VRels σ args argvs.toList) (hr : HRel tab.ng σ h nx w) :
    Calls P f argvs w fun e w' => e = .returned (.bool true) ∧ Below w.heap.size w w' := by
  obtain ⟨v, h', nx', rfl, e⟩ := H
  obtain ⟨v2, h2, nx2, e2, hle, HH⟩ := hc _ _ _ _ _ _ (e fun v h n => .ok (v, h, n))
  cases e2
  obtain ⟨_, hen⟩ := HH σ argvs w (by simpa using hv) hr
  refine (callsIn_wide.1 ((hen hp).2 0)).mono fun e w' hq => ?_
  cases e with
  | returned v =>
    obtain ⟨σ', hv', hr', hst⟩ := hq
    cases hv'
    refine ⟨rfl, hst.os, hst.tape, hst.output, hst.size, fun b hb => hst.frame b hb ?_⟩
    rintro ⟨c, L, B, _, hB, hw, _⟩
    rw [hrw c B hB] at hw; cases hw
  | _ => exact hq.elim

/-- the start with one more block, which is only read -/
theorem start_rel1 {gs : List (Nat × List CV)} {G : Nat} (hc : covers gs G = true) {w : World} (hp : PreG gs w) {blk : Nat} {arr : Array Value} {e : TypeId} {fz : Nat × Nat} (hb : w.heap[blk]? = some (.cells arr e fz)) {n : Nat} {cs : T CV} (hn : n ≤ arr.size)
    (hcs : ∀ i c, cs.get i = some c → i < n ∧ ∃ v, arr[i]? = some v ∧ ∀ σ, VRel σ c v) : HRel G ((sg0 G w).upd G ⟨blk, 0, arr.size⟩) ((heapT gs .nil).set G (.cells n cs false)) (G + 1) w := by
  have r := start_rel hc hp
  have hf := r.fresh
  have hle : (sg0 G w).le ((sg0 G w).upd G ⟨blk, 0, arr.size⟩) := Sg.le_upd hf
  have hbs : blk < w.heap.size := (Array.getElem?_eq_some_iff.1 hb).1
  have get : ∀ {c L X}, ((sg0 G w).upd G ⟨blk, 0, arr.size⟩) c = some L → ((heapT gs .nil).set G (.cells n cs false)).get c = some X →
      (c = G ∧ L = ⟨blk, 0, arr.size⟩ ∧ X = .cells n cs false) ∨ (c ≠ G ∧ sg0 G w c = some L ∧ (heapT gs .nil).get c = some X) := by
    intro c L X e e'
    rw [T.get_set] at e'
    by_cases hc : c = G
    · subst hc; rw [Sg.upd_same] at e; simp at e e'; exact .inl ⟨rfl, e.symm, e'.symm⟩
    · rw [Sg.upd_ne _ _ hc] at e; rw [if_neg hc] at e'; exact .inr ⟨hc, e, e'⟩
  have hrw : ∀ {c X}, ((heapT gs .nil).set G (.cells n cs false)).get c = some X → X.rw = false := by
    intro c X e
    rw [T.get_set] at e
    split at e
    · cases e; rfl
    · rcases heapT_get gs .nil e with ⟨l, _, rfl⟩ | h
      · rfl
      · simp [T.nil_get] at h
  refine ⟨⟨fun c L e => ?_, fun c L X e e' => ?_, fun c c' L L' X X' a a' e e' hw _ => ?_, fun g hg => ?_⟩, fun c X e => ?_⟩
  · by_cases hc : c = G
    · subst hc; rw [Sg.upd_same] at e; cases e; exact ⟨by omega, hbs⟩
    · rw [Sg.upd_ne _ _ hc] at e; have := r.dom c L e; exact ⟨by omega, this.2⟩
  · rcases get e e' with ⟨rfl, rfl, rfl⟩ | ⟨hc, e, e'⟩
    · refine ⟨arr, _, fz, hb, by simpa using hn, Nat.le_refl _, (fun h => by cases h), fun i c hi => ?_⟩
      obtain ⟨h1, v, h2, h3⟩ := hcs i c hi
      exact ⟨h1, v, by simpa using h2, h3 _⟩
    · exact (r.blk c L X e e').mono hle
  · rw [hrw e, hrw e'] at hw; rcases hw with h | h <;> cases h
  · obtain ⟨L, e, h1⟩ := r.glob g hg
    exact ⟨L, hle _ _ e, h1⟩
  · rw [T.get_set] at e
    by_cases hc : c = G
    · subst hc; exact ⟨_, Sg.upd_same _ _ _⟩
    · rw [if_neg hc] at e
      obtain ⟨L, hL⟩ := r.full c X e
      exact ⟨L, hle _ _ hL⟩

theorem start_rw {gs : List (Nat × List CV)} {G n : Nat} {cs : T CV} : ∀ c X, ((heapT gs .nil).set G (.cells n cs false)).get c = some X → X.rw = false := by
  intro c X e
  rw [T.get_set] at e
  split at e
  · cases e; rfl
  · rcases heapT_get gs .nil e with ⟨l, _, rfl⟩ | h
    · rfl
    · simp [T.nil_get] at h
theorem start_rw0 {gs : List (Nat × List CV)} : ∀ c X, (heapT gs .nil).get c = some X → X.rw = false := by
  intro c X e
  rcases heapT_get gs .nil e with ⟨l, _, rfl⟩ | h
  · rfl
  · simp [T.nil_get] at h
end Go.Can
