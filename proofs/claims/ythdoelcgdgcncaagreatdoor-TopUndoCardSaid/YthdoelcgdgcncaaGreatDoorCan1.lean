/- The evaluator and its soundness, part 1: what it says of a call, the program does, whatever the tape. No condition. -/
import Derived.Test.YthdoelcgdgcncaaGreatDoorCan0
import Derived.Laws.StructEq
import Derived.Great.FillDense
import Derived.ChangeKeysEq
import Derived.Laws.Tables
set_option linter.unusedVariables false
set_option linter.unusedSimpArgs false
namespace Go.Can
variable {β : Type}

/-! ## numbers -/

theorem full_eq (k : IntKind) : full k = 2 ^ k.bits := by cases k <;> rfl
theorem wrap_small (k : IntKind) (m : Nat) (h : m < bnd k) : k.wrap (m : Int) = (m : Int) := by
  cases k <;> simp only [bnd] at h <;> simp [IntKind.wrap, IntKind.bits, IntKind.signed] <;> omega
theorem wrapN_eq (k : IntKind) (m : Nat) (c : Int → Res β) : wrapN k m c = c (k.wrap (m : Int)) := by
  unfold wrapN
  cases h : Nat.blt m (bnd k) with
  | false => exact intK_eq _ _
  | true => rw [wrap_small k m (Nat.le_of_ble_eq_true h)]; exact natK_eq _ _
theorem kEq_ok {a b : IntKind} (h : kEq a b = true) : a = b := by cases a <;> cases b <;> first | rfl | exact absurd h (by decide)

theorem nat2_cases (P : Res β → Prop) (a b : Int) (kn : Nat → Nat → Res β) (ki : Res β) (hn : ∀ m n : Nat, a = m → b = n → P (kn m n)) (hi : P ki) : P (nat2 a b kn ki) := by
  cases a with
  | negSucc m => exact hi
  | ofNat m => cases b with
    | negSucc n => exact hi
    | ofNat n => exact hn m n rfl rfl

theorem bits2_cases (P : Res β → Prop) (k : IntKind) (a b : Int) (kn : Nat → Nat → Res β) (ki : Res β) (hn : ∀ m n : Nat, a = m → b = n → m < 2 ^ k.bits → n < 2 ^ k.bits → P (kn m n)) (hi : P ki) : P (bits2 k a b kn ki) := by
  unfold bits2
  refine nat2_cases P a b _ _ (fun m n hm hn' => ?_) hi
  cases h1 : Nat.blt m (full k) with
  | false => exact hi
  | true =>
    cases h2 : Nat.blt n (full k) with
    | false => exact hi
    | true => rw [full_eq] at h1 h2; exact hn m n hm hn' (Nat.le_of_ble_eq_true h1) (Nat.le_of_ble_eq_true h2)

/-- what an operation on two numbers comes to -/
def NumOK (f : BinT β) (g : IntKind → Int → Int → Option Value) : Prop := ∀ k a b c r, f k a b c = .ok r → ∃ v v', c v = .ok r ∧ (∀ σ, VRel σ v v') ∧ g k a b = some v'

def gAdd (k : IntKind) (a b : Int) : Option Value := some (.int k (k.wrap (a + b)))
def gSub (k : IntKind) (a b : Int) : Option Value := some (.int k (k.wrap (a - b)))
def gMul (k : IntKind) (a b : Int) : Option Value := some (.int k (k.wrap (a * b)))
def gQuo (k : IntKind) (a b : Int) : Option Value := if b = 0 then none else some (.int k (k.wrap (a.tdiv b)))
def gRem (k : IntKind) (a b : Int) : Option Value := if b = 0 then none else some (.int k (a.tmod b))
def gAnd (k : IntKind) (a b : Int) : Option Value := some (.int k (k.wrap (BitVec.ofInt k.bits a &&& BitVec.ofInt k.bits b).toNat))
def gOr (k : IntKind) (a b : Int) : Option Value := some (.int k (k.wrap (BitVec.ofInt k.bits a ||| BitVec.ofInt k.bits b).toNat))
def gXor (k : IntKind) (a b : Int) : Option Value := some (.int k (k.wrap (BitVec.ofInt k.bits a ^^^ BitVec.ofInt k.bits b).toNat))
def gAndNot (k : IntKind) (a b : Int) : Option Value := some (.int k (k.wrap (BitVec.ofInt k.bits a &&& ~~~(BitVec.ofInt k.bits b)).toNat))
def gShl (k : IntKind) (a b : Int) : Option Value := if b < 0 then none else some (.int k (k.wrap (a * 2 ^ (min b.toNat k.bits))))
def gShr (k : IntKind) (a b : Int) : Option Value := if b < 0 then none else some (.int k (a.fdiv (2 ^ (min b.toNat k.bits))))

theorem int_ok (k : IntKind) (n : Int) : ∀ σ, VRel σ (.int k n) (.int k n) := fun _ => rfl
theorem bool_ok (b : Bool) : ∀ σ, VRel σ (.bool b) (.bool b) := fun _ => rfl

theorem bAdd_ok : NumOK (β := β) bAdd gAdd := by
  intro k a b c r
  unfold bAdd
  refine nat2_cases (fun x => x = .ok r → _) a b _ _ (fun m n hm hn h => ?_) (fun h => ?_)
  · rw [wrapN_eq] at h
    exact ⟨_, _, h, int_ok _ _, by subst hm; subst hn; rfl⟩
  · rw [intK_eq] at h; exact ⟨_, _, h, int_ok _ _, rfl⟩
theorem bSub_ok : NumOK (β := β) bSub gSub := by
  intro k a b c r
  unfold bSub
  refine nat2_cases (fun x => x = .ok r → _) a b _ _ (fun m n hm hn h => ?_) (fun h => ?_)
  · cases hle : Nat.ble n m with
    | false => rw [hle] at h; have h : intK (k.wrap (a - b)) _ = .ok r := h; rw [intK_eq] at h; exact ⟨_, _, h, int_ok _ _, rfl⟩
    | true =>
      rw [hle] at h; have h : wrapN k (Nat.sub m n) _ = .ok r := h; rw [wrapN_eq] at h
      have hle := Nat.le_of_ble_eq_true hle
      refine ⟨_, _, h, int_ok _ _, ?_⟩
      subst hm; subst hn
      have e : ((Nat.sub m n : Nat) : Int) = (m : Int) - n := by
        show ((m - n : Nat) : Int) = _
        omega
      rw [e]; rfl
  · rw [intK_eq] at h; exact ⟨_, _, h, int_ok _ _, rfl⟩
theorem bMul_ok : NumOK (β := β) bMul gMul := by
  intro k a b c r
  unfold bMul
  refine nat2_cases (fun x => x = .ok r → _) a b _ _ (fun m n hm hn h => ?_) (fun h => ?_)
  · rw [wrapN_eq] at h
    exact ⟨_, _, h, int_ok _ _, by subst hm; subst hn; rfl⟩
  · rw [intK_eq] at h; exact ⟨_, _, h, int_ok _ _, rfl⟩
theorem bQuo_ok : NumOK (β := β) bQuo gQuo := by
  intro k a b c r
  unfold bQuo
  refine nat2_cases (fun x => x = .ok r → _) a b _ _ (fun m n hm hn h => ?_) (fun h => (bad_ok h).elim)
  cases n with
  | zero => exact (bad_ok h).elim
  | succ n =>
    have h : wrapN k (Nat.div m (Nat.succ n)) _ = .ok r := h
    rw [wrapN_eq] at h
    refine ⟨_, _, h, int_ok _ _, ?_⟩
    subst hm; subst hn
    rw [gQuo, if_neg (by omega)]
    rfl
theorem bRem_ok : NumOK (β := β) bRem gRem := by
  intro k a b c r
  unfold bRem
  refine nat2_cases (fun x => x = .ok r → _) a b _ _ (fun m n hm hn h => ?_) (fun h => (bad_ok h).elim)
  cases n with
  | zero => exact (bad_ok h).elim
  | succ n =>
    have h : natK (Nat.mod m (Nat.succ n)) _ = .ok r := h
    rw [natK_eq] at h
    refine ⟨_, _, h, int_ok _ _, ?_⟩
    subst hm; subst hn
    rw [gRem, if_neg (by omega)]
    rfl
theorem ofInt_small {w m : Nat} (h : m < 2 ^ w) : (BitVec.ofInt w (m : Int)).toNat = m := by
  rw [BitVec.toNat_ofInt]
  have : ((m : Int) % ((2 ^ w : Nat) : Int)) = ((m % 2 ^ w : Nat) : Int) := by simp
  rw [this, Nat.mod_eq_of_lt h]; rfl
theorem bAnd_ok : NumOK (β := β) bAnd gAnd := by
  intro k a b c r
  unfold bAnd
  refine bits2_cases (fun x => x = .ok r → _) k a b _ _ (fun m n hm hn h1 h2 h => ?_) (fun h => ?_)
  · rw [wrapN_eq] at h
    refine ⟨_, _, h, int_ok _ _, ?_⟩
    subst hm; subst hn
    rw [gAnd, BitVec.toNat_and, ofInt_small h1, ofInt_small h2]; rfl
  · rw [intK_eq] at h; exact ⟨_, _, h, int_ok _ _, rfl⟩
theorem bOr_ok : NumOK (β := β) bOr gOr := by
  intro k a b c r
  unfold bOr
  refine bits2_cases (fun x => x = .ok r → _) k a b _ _ (fun m n hm hn h1 h2 h => ?_) (fun h => ?_)
  · rw [wrapN_eq] at h
    refine ⟨_, _, h, int_ok _ _, ?_⟩
    subst hm; subst hn
    rw [gOr, BitVec.toNat_or, ofInt_small h1, ofInt_small h2]; rfl
  · rw [intK_eq] at h; exact ⟨_, _, h, int_ok _ _, rfl⟩
theorem bXor_ok : NumOK (β := β) bXor gXor := by
  intro k a b c r
  unfold bXor
  refine bits2_cases (fun x => x = .ok r → _) k a b _ _ (fun m n hm hn h1 h2 h => ?_) (fun h => ?_)
  · rw [wrapN_eq] at h
    refine ⟨_, _, h, int_ok _ _, ?_⟩
    subst hm; subst hn
    rw [gXor, BitVec.toNat_xor, ofInt_small h1, ofInt_small h2]; rfl
  · rw [intK_eq] at h; exact ⟨_, _, h, int_ok _ _, rfl⟩
theorem bAndNot_ok : NumOK (β := β) bAndNot gAndNot := by
  intro k a b c r
  unfold bAndNot
  refine bits2_cases (fun x => x = .ok r → _) k a b _ _ (fun m n hm hn h1 h2 h => ?_) (fun h => ?_)
  · rw [wrapN_eq] at h
    refine ⟨_, _, h, int_ok _ _, ?_⟩
    subst hm; subst hn
    rw [gAndNot, BitVec.toNat_and, BitVec.toNat_not, ofInt_small h1, ofInt_small h2, full_eq]; rfl
  · rw [intK_eq] at h; exact ⟨_, _, h, int_ok _ _, rfl⟩
theorem min_rec (b n : Nat) : (Bool.rec n b (Nat.ble b n) : Nat) = min b n := by
  cases h : Nat.ble b n with
  | false =>
    have : ¬ b ≤ n := fun hle => by rw [Nat.ble_eq_true_of_le hle] at h; cases h
    simp; omega
  | true => have := Nat.le_of_ble_eq_true h; simp; omega
theorem bShl_ok : NumOK (β := β) bShl gShl := by
  intro k a b c r
  unfold bShl
  refine nat2_cases (fun x => x = .ok r → _) a b _ _ (fun m n hm hn h => ?_) (fun h => (bad_ok h).elim)
  rw [wrapN_eq, min_rec] at h
  refine ⟨_, _, h, int_ok _ _, ?_⟩
  subst hm; subst hn
  have e : ((Nat.shiftLeft m (min n k.bits) : Nat) : Int) = (m : Int) * 2 ^ (min ((n : Int).toNat) k.bits) := by
    have : Nat.shiftLeft m (min n k.bits) = m * 2 ^ (min n k.bits) := Nat.shiftLeft_eq _ _
    rw [this]; simp
  rw [e, gShl, if_neg (by omega)]
theorem bShr_ok : NumOK (β := β) bShr gShr := by
  intro k a b c r
  unfold bShr
  refine nat2_cases (fun x => x = .ok r → _) a b _ _ (fun m n hm hn h => ?_) (fun h => (bad_ok h).elim)
  rw [natK_eq, min_rec] at h
  refine ⟨_, _, h, int_ok _ _, ?_⟩
  subst hm; subst hn
  have e : Int.ofNat (Nat.shiftRight m (min n k.bits)) = (m : Int).fdiv (2 ^ (min ((n : Int).toNat) k.bits)) := by
    have : Nat.shiftRight m (min n k.bits) = m / 2 ^ (min n k.bits) := Nat.shiftRight_eq_div_pow _ _
    rw [this, Int.fdiv_eq_ediv_of_nonneg _ (by exact Int.le_of_lt (Int.pow_pos (by decide)))]
    simp
  rw [e, gShr, if_neg (by omega)]

def gCmp (f : Int → Int → Bool) (_ : IntKind) (a b : Int) : Option Value := some (.bool (f a b))
theorem blt_eq (a b : Nat) : Nat.blt a b = decide ((a : Int) < (b : Int)) := by
  rw [Bool.eq_iff_iff]; simp [Nat.blt_eq]
theorem ble_eq (a b : Nat) : Nat.ble a b = decide ((a : Int) ≤ (b : Int)) := by
  rw [Bool.eq_iff_iff]; simp [Nat.ble_eq]
theorem beq_eq (a b : Nat) : Nat.beq a b = ((a : Int) == (b : Int)) := by
  rw [Bool.eq_iff_iff]; simp [Nat.beq_eq]; omega
theorem cmp_ok (f : BinT β) (g : Int → Int → Bool) (h : ∀ k a b c, f k a b c = c (.bool (g a b))) : NumOK f (gCmp g) :=
  fun k a b c r e => ⟨.bool (g a b), .bool (g a b), (h k a b c).symm.trans e, bool_ok _, rfl⟩
theorem bEq_ok : NumOK (β := β) bEq (gCmp (fun a b => a == b)) := cmp_ok _ _ fun k a b c => by
  unfold bEq
  refine nat2_cases (fun x => x = _) a b _ _ (fun m n hm hn => ?_) (by rw [boolK_eq])
  rw [boolK_eq, beq_eq]; subst hm; subst hn; rfl
theorem bNe_ok : NumOK (β := β) bNe (gCmp (fun a b => a != b)) := cmp_ok _ _ fun k a b c => by
  unfold bNe
  refine nat2_cases (fun x => x = _) a b _ _ (fun m n hm hn => ?_) (by rw [boolK_eq])
  rw [boolK_eq, beq_eq]; subst hm; subst hn; rfl
theorem bLt_ok : NumOK (β := β) bLt (gCmp (fun a b => decide (a < b))) := cmp_ok _ _ fun k a b c => by
  unfold bLt
  refine nat2_cases (fun x => x = _) a b _ _ (fun m n hm hn => ?_) (by rw [boolK_eq])
  rw [boolK_eq, blt_eq]; subst hm; subst hn; rfl
theorem bLe_ok : NumOK (β := β) bLe (gCmp (fun a b => decide (a ≤ b))) := cmp_ok _ _ fun k a b c => by
  unfold bLe
  refine nat2_cases (fun x => x = _) a b _ _ (fun m n hm hn => ?_) (by rw [boolK_eq])
  rw [boolK_eq, ble_eq]; subst hm; subst hn; rfl
theorem bGt_ok : NumOK (β := β) bGt (gCmp (fun a b => decide (a > b))) := cmp_ok _ _ fun k a b c => by
  unfold bGt
  refine nat2_cases (fun x => x = _) a b _ _ (fun m n hm hn => ?_) (by rw [boolK_eq])
  rw [boolK_eq, blt_eq]; subst hm; subst hn; rfl
theorem bGe_ok : NumOK (β := β) bGe (gCmp (fun a b => decide (a ≥ b))) := cmp_ok _ _ fun k a b c => by
  unfold bGe
  refine nat2_cases (fun x => x = _) a b _ _ (fun m n hm hn => ?_) (by rw [boolK_eq])
  rw [boolK_eq, ble_eq]; subst hm; subst hn; rfl

/-- WHAT 'binT' COMES TO IS WHAT THE MODEL's binary operation COMES TO -/
theorem binT_ok (P : Program) (op : BinOp) (ty : TypeId) (k k' : IntKind) (x y : Int) (hk : (isShift op || kEq k k') = true) {c : CV → Res β} {r : β} (h : binT op k x y c = .ok r) :
    ∃ v v', c v = .ok r ∧ (∀ σ, VRel σ v v') ∧ ∀ w, (binOp op ty (.int k x) (.int k' y)).run P w = .ok v' w := by
  cases op with
  | shl =>
    obtain ⟨v, v', e, hv, hg⟩ := bShl_ok k x y c r h
    refine ⟨v, v', e, hv, fun w => ?_⟩
    simp only [gShl] at hg
    split at hg
    · cases hg
    · rename_i hy; cases hg; simp only [binOp, Op.shift, if_neg hy, Sem.run_pure]
  | shr =>
    obtain ⟨v, v', e, hv, hg⟩ := bShr_ok k x y c r h
    refine ⟨v, v', e, hv, fun w => ?_⟩
    simp only [gShr] at hg
    split at hg
    · cases hg
    · rename_i hy; cases hg; simp only [binOp, Op.shift, if_neg hy, Sem.run_pure]
  | add => cases kEq_ok (by simpa [isShift] using hk); obtain ⟨v, v', e, hv, hg⟩ := bAdd_ok k x y c r h; exact ⟨v, v', e, hv, fun w => by cases hg; simp [binOp, Op.intArith]⟩
  | sub => cases kEq_ok (by simpa [isShift] using hk); obtain ⟨v, v', e, hv, hg⟩ := bSub_ok k x y c r h; exact ⟨v, v', e, hv, fun w => by cases hg; simp [binOp, Op.intArith]⟩
  | mul => cases kEq_ok (by simpa [isShift] using hk); obtain ⟨v, v', e, hv, hg⟩ := bMul_ok k x y c r h; exact ⟨v, v', e, hv, fun w => by cases hg; simp [binOp, Op.intArith]⟩
  | quo =>
    cases kEq_ok (by simpa [isShift] using hk); obtain ⟨v, v', e, hv, hg⟩ := bQuo_ok k x y c r h
    refine ⟨v, v', e, hv, fun w => ?_⟩
    simp only [gQuo] at hg
    split at hg
    · cases hg
    · rename_i hy; cases hg; simp [binOp, Op.intDiv, hy]
  | rem =>
    cases kEq_ok (by simpa [isShift] using hk); obtain ⟨v, v', e, hv, hg⟩ := bRem_ok k x y c r h
    refine ⟨v, v', e, hv, fun w => ?_⟩
    simp only [gRem] at hg
    split at hg
    · cases hg
    · rename_i hy; cases hg; simp [binOp, Op.intDiv, hy]
  | and => cases kEq_ok (by simpa [isShift] using hk); obtain ⟨v, v', e, hv, hg⟩ := bAnd_ok k x y c r h; exact ⟨v, v', e, hv, fun w => by cases hg; simp [binOp, Op.intBits]⟩
  | or => cases kEq_ok (by simpa [isShift] using hk); obtain ⟨v, v', e, hv, hg⟩ := bOr_ok k x y c r h; exact ⟨v, v', e, hv, fun w => by cases hg; simp [binOp, Op.intBits]⟩
  | xor => cases kEq_ok (by simpa [isShift] using hk); obtain ⟨v, v', e, hv, hg⟩ := bXor_ok k x y c r h; exact ⟨v, v', e, hv, fun w => by cases hg; simp [binOp, Op.intBits]⟩
  | andNot => cases kEq_ok (by simpa [isShift] using hk); obtain ⟨v, v', e, hv, hg⟩ := bAndNot_ok k x y c r h; exact ⟨v, v', e, hv, fun w => by cases hg; simp [binOp, Op.intBits]⟩
  | eql => cases kEq_ok (by simpa [isShift] using hk); obtain ⟨v, v', e, hv, hg⟩ := bEq_ok k x y c r h; exact ⟨v, v', e, hv, fun w => by cases hg; simp [binOp, Op.intCmp]⟩
  | neq => cases kEq_ok (by simpa [isShift] using hk); obtain ⟨v, v', e, hv, hg⟩ := bNe_ok k x y c r h; exact ⟨v, v', e, hv, fun w => by cases hg; simp [binOp, Op.intCmp]⟩
  | lss => cases kEq_ok (by simpa [isShift] using hk); obtain ⟨v, v', e, hv, hg⟩ := bLt_ok k x y c r h; exact ⟨v, v', e, hv, fun w => by cases hg; simp [binOp, Op.intCmp]⟩
  | leq => cases kEq_ok (by simpa [isShift] using hk); obtain ⟨v, v', e, hv, hg⟩ := bLe_ok k x y c r h; exact ⟨v, v', e, hv, fun w => by cases hg; simp [binOp, Op.intCmp]⟩
  | gtr => cases kEq_ok (by simpa [isShift] using hk); obtain ⟨v, v', e, hv, hg⟩ := bGt_ok k x y c r h; exact ⟨v, v', e, hv, fun w => by cases hg; simp [binOp, Op.intCmp]⟩
  | geq => cases kEq_ok (by simpa [isShift] using hk); obtain ⟨v, v', e, hv, hg⟩ := bGe_ok k x y c r h; exact ⟨v, v', e, hv, fun w => by cases hg; simp [binOp, Op.intCmp]⟩
end Go.Can
namespace Go.Can
variable {β : Type}

/-- an operation that only reads -/
def SoundR (P : Program) (tab : Tab) (β : Type) (o : Op) : Prop :=
  ∀ (call : CallT β) (t : T CV) (h : T Blk) (nx : Nat) (k : K β) (r : β), evOp o tab call t h nx k = .ok r → ∃ v, k v h nx = .ok r ∧
    ∀ (σ : Sg) (ρ : Operand → Value) (w : World) (m : Nat) (oper : Oper), oper.op = o → Env tab.ng σ t ρ → HPart tab.ng σ h m w →
      ∃ v', VRel σ v v' ∧ (execOp ρ oper).run P w = .ok (.value v') w

/-- an operation that makes one block -/
def SoundA (P : Program) (tab : Tab) (β : Type) (o : Op) : Prop :=
  ∀ (call : CallT β) (t : T CV) (h : T Blk) (nx : Nat) (k : K β) (r : β), evOp o tab call t h nx k = .ok r → ∃ v B, B.rw = true ∧ k v (h.set nx B) (nx + 1) = .ok r ∧
    ∀ (σ : Sg) (ρ : Operand → Value) (w : World) (m : Nat) (oper : Oper), oper.op = o → Env tab.ng σ t ρ → HPart tab.ng σ h m w →
      ∃ v' obj fin, (execOp ρ oper).run P w = .ok (.value v') (w.alloc obj) ∧
        ∀ τ : Sg, σ.le τ → τ nx = some ⟨w.heap.size, 0, fin⟩ → VRel τ v v' ∧ BRel τ ⟨w.heap.size, 0, fin⟩ (w.alloc obj) B

/-- what an operation yields, whatever the heap -/
def PureAs (P : Program) (tab : Tab) (o : Op) (t : T CV) (v : CV) : Prop :=
  ∀ (σ : Sg) (ρ : Operand → Value) (w : World) (oper : Oper), oper.op = o → Env tab.ng σ t ρ → ∃ v', VRel σ v v' ∧ (execOp ρ oper).run P w = .ok (.value v') w
/-- what an operation reads in a heap -/
def ReadsAs (P : Program) (tab : Tab) (o : Op) (t : T CV) (h : T Blk) (v : CV) : Prop :=
  ∀ (σ : Sg) (ρ : Operand → Value) (w : World) (m : Nat) (oper : Oper), oper.op = o → Env tab.ng σ t ρ → HPart tab.ng σ h m w → ∃ v', VRel σ v v' ∧ (execOp ρ oper).run P w = .ok (.value v') w
/-- what an operation that makes a block makes -/
def AllocsAs (P : Program) (tab : Tab) (o : Op) (t : T CV) (n : Nat) (v : CV) (B : Blk) : Prop :=
  ∀ (σ : Sg) (ρ : Operand → Value) (w : World) (oper : Oper), oper.op = o → Env tab.ng σ t ρ →
    ∃ v' obj fin, (execOp ρ oper).run P w = .ok (.value v') (w.alloc obj) ∧ ∀ τ : Sg, σ.le τ → τ n = some ⟨w.heap.size, 0, fin⟩ → VRel τ v v' ∧ BRel τ ⟨w.heap.size, 0, fin⟩ (w.alloc obj) B

/-- an operation that looks at no heap -/
def SoundP (P : Program) (tab : Tab) (β : Type) (o : Op) : Prop :=
  ∀ (call : CallT β) (t : T CV) (h : T Blk) (nx : Nat) (k : K β) (r : β), evOp o tab call t h nx k = .ok r → ∃ v, k v h nx = .ok r ∧ PureAs P tab o t v
def SoundAl (P : Program) (tab : Tab) (β : Type) (o : Op) : Prop :=
  ∀ (call : CallT β) (t : T CV) (h : T Blk) (nx : Nat) (k : K β) (r : β), evOp o tab call t h nx k = .ok r → ∃ v B, B.rw = true ∧ k v (h.set nx B) (nx + 1) = .ok r ∧ AllocsAs P tab o t nx v B

theorem SoundP.soundR {P : Program} {tab : Tab} {o : Op} (s : SoundP P tab β o) : SoundR P tab β o :=
  fun call t h nx k r e => by
    obtain ⟨v, e, hs⟩ := s call t h nx k r e
    exact ⟨v, e, fun σ ρ w m oper ho he hr => hs σ ρ w oper ho he⟩
theorem SoundAl.soundA {P : Program} {tab : Tab} {o : Op} (s : SoundAl P tab β o) : SoundA P tab β o :=
  fun call t h nx k r e => by
    obtain ⟨v, B, hrw, e, hs⟩ := s call t h nx k r e
    exact ⟨v, B, hrw, e, fun σ ρ w m oper ho he hr => hs σ ρ w oper ho he⟩

def Post (G : Nat) (σ : Sg) (h : T Blk) (w : World) (v : CV) (h' : T Blk) (nx' : Nat) (v' : Value) (w' : World) : Prop :=
  ∃ σ', VRel σ' v v' ∧ HRel G σ' h' nx' w' ∧ Step σ h w σ' h' w'

/-- an operation of whatever kind -/
def SoundW (P : Program) (tab : Tab) (o : Op) (call : CallT β) : Prop :=
  ∀ (t : T CV) (h : T Blk) (nx : Nat) (k : K β) (r : β), evOp o tab call t h nx k = .ok r → ∃ v h' nx', k v h' nx' = .ok r ∧ nx ≤ nx' ∧
    ∀ (σ : Sg) (ρ : Operand → Value) (w : World) (oper : Oper), oper.op = o → Env tab.ng σ t ρ → HRel tab.ng σ h nx w →
      Good P ((execOp ρ oper).run P w) (Post tab.ng σ h w v h' nx')

theorem SoundR.sound {P : Program} {tab : Tab} {o : Op} (s : SoundR P tab β o) (call : CallT β) : SoundW P tab o call :=
  fun t h nx k r e => by
    obtain ⟨v, e, hs⟩ := s call t h nx k r e
    refine ⟨v, h, nx, e, Nat.le_refl _, fun σ ρ w oper ho he hr => ?_⟩
    obtain ⟨v', hv, hrun⟩ := hs σ ρ w nx oper ho he hr.toHPart
    rw [hrun]
    exact Good.value ⟨σ, hv, hr, Step.refl _ _ _⟩

theorem SoundA.sound {P : Program} {tab : Tab} {o : Op} (s : SoundA P tab β o) (call : CallT β) : SoundW P tab o call :=
  fun t h nx k r e => by
    obtain ⟨v, B, hrw, e, hs⟩ := s call t h nx k r e
    refine ⟨v, _, nx + 1, e, Nat.le_succ _, fun σ ρ w oper ho he hr => ?_⟩
    obtain ⟨v', obj, fin, hrun, hB⟩ := hs σ ρ w nx oper ho he hr.toHPart
    rw [hrun]
    obtain ⟨hv, hb⟩ := hB _ (Sg.le_upd hr.fresh) (Sg.upd_same σ nx _)
    obtain ⟨hr', hst⟩ := hr.new obj B fin hb
    exact Good.value ⟨_, hv, hr', hst⟩

section reads
variable {P : Program} {tab : Tab}

theorem sound_move (x : Operand) : SoundP P tab β (.move x) := by
  intro call t h nx k r e
  obtain ⟨v, e, hv⟩ := evO_ok (show evO x tab t _ = .ok r from e)
  exact ⟨v, e, fun σ ρ w oper ho he => ⟨ρ x, hv σ ρ he, by simp [execOp, ho]⟩⟩
theorem sound_assign (x : Operand) : SoundP P tab β (.assign x) := by
  intro call t h nx k r e
  obtain ⟨v, e, hv⟩ := evO_ok (show evO x tab t _ = .ok r from e)
  exact ⟨v, e, fun σ ρ w oper ho he => ⟨ρ x, hv σ ρ he, by simp [execOp, ho]⟩⟩

theorem sound_pick (c a b : Operand) : SoundP P tab β (.pick c a b) := by
  intro call t h nx k r e
  obtain ⟨cv, e, hc⟩ := evO_ok (show evO c tab t _ = .ok r from e)
  cases cv with
  | bool x =>
    cases x with
    | true =>
      obtain ⟨v, e, hv⟩ := evO_ok (show evO a tab t _ = .ok r from e)
      exact ⟨v, e, fun σ ρ w oper ho he => ⟨ρ a, hv σ ρ he, by simp [execOp, ho, show ρ c = .bool true from hc σ ρ he, asBool]⟩⟩
    | false =>
      obtain ⟨v, e, hv⟩ := evO_ok (show evO b tab t _ = .ok r from e)
      exact ⟨v, e, fun σ ρ w oper ho he => ⟨ρ b, hv σ ρ he, by simp [execOp, ho, show ρ c = .bool false from hc σ ρ he, asBool]⟩⟩
  | _ => exact (bad_ok e).elim

theorem sound_load (TO : TabOK P tab) (ty : TypeId) (a : Operand) : SoundR P tab β (.load ty a) := by
  intro call t h nx k r e
  obtain ⟨av, e, ha⟩ := evO_ok (show evO a tab t _ = .ok r from e)
  cases av with
  | ptr b o =>
    obtain ⟨ti, hti, e⟩ := tyK_ok (show tyK tab ty _ = .ok r from e)
    obtain ⟨c, e, hc⟩ := getVar_ok TO hti e
    refine ⟨c, e, fun σ ρ w m oper ho he hr => ?_⟩
    obtain ⟨L, hL, hv⟩ := ha σ ρ he
    obtain ⟨v, hrel, hrun⟩ := hc σ m w L hr hL
    exact ⟨v, hrel, by simp [execOp, ho, Instr.loadAt, hv, Instr.sureAddr, hrun]⟩
  | _ => exact (bad_ok e).elim

theorem sound_nilCheck (x : Operand) : SoundP P tab β (.nilCheck x) := by
  intro call t h nx k r e
  obtain ⟨v, e, hv⟩ := evO_ok (show evO x tab t _ = .ok r from e)
  cases v with
  | ptr b o =>
    refine ⟨_, e, fun σ ρ w oper ho he => ?_⟩
    obtain ⟨L, hL, hx⟩ := hv σ ρ he
    exact ⟨_, ⟨L, hL, rfl⟩, by simp [execOp, ho, hx]⟩
  | fn f a b =>
    refine ⟨_, e, fun σ ρ w oper ho he => ?_⟩
    obtain ⟨a', b', hx, h1, h2⟩ := hv σ ρ he
    exact ⟨_, ⟨a', b', rfl, h1, h2⟩, by simp [execOp, ho, hx]⟩
  | _ => exact (bad_ok e).elim

theorem sound_makeFunc (f : Fn) (a c : Array Operand) : SoundP P tab β (.makeFunc f a c) := by
  intro call t h nx k r e
  cases f with
  | func f =>
    obtain ⟨vs, e, hv⟩ := evOs_ok (show evOs a.toList tab t _ = .ok r from e)
    obtain ⟨us, e, hu⟩ := evOs_ok e
    refine ⟨_, e, fun σ ρ w oper ho he => ⟨_, ⟨a.map ρ, c.map ρ, rfl, by simpa using hv σ ρ he, by simpa using hu σ ρ he⟩, by simp [execOp, ho, Instr.makeFunc]⟩⟩
  | _ => exact (bad_ok e).elim

theorem sound_extract (x : Operand) (i : Nat) : SoundP P tab β (.extract x i) := by
  intro call t h nx k r e
  obtain ⟨v, e, hv⟩ := evO_ok (show evO x tab t _ = .ok r from e)
  cases v with
  | tup vs =>
    obtain ⟨c, hc, e⟩ := optK_ok (show optK 88 vs[i]? _ = .ok r from e)
    refine ⟨c, e, fun σ ρ w oper ho he => ?_⟩
    obtain ⟨l, hx, hl⟩ := hv σ ρ he
    obtain ⟨u, hu, hrel⟩ := hl.get hc
    have hu' : l[i]? = some u := by simpa using hu
    exact ⟨u, hrel, by simp [execOp, ho, hx, Instr.extract, hu']⟩
  | _ => exact (bad_ok e).elim

theorem fieldAt_ok {fs : List Field} {i : Nat} {k : Nat → Nat → Res β} {r : β} (e : fieldAt tab fs i k = .ok r) :
    ∃ f ti, fs[i]? = some f ∧ tab.types.get f.type = some ti ∧ k f.offset ti.size = .ok r := by
  obtain ⟨f, hf, e⟩ := optK_ok e
  obtain ⟨ti, hti, e⟩ := tyK_ok e
  exact ⟨f, ti, hf, hti, e⟩

theorem sound_fieldAddr (TO : TabOK P tab) (ty : TypeId) (x : Operand) (f : Nat) : SoundP P tab β (.fieldAddr ty x f) := by
  intro call t h nx k r e
  obtain ⟨ti, hti, e⟩ := tyK_ok (show tyK tab ty _ = .ok r from e)
  have hu := run_under' TO hti
  cases hd : ti.u with
  | struct fs =>
    simp only [hd] at e
    obtain ⟨fd, te, hf, hte, e⟩ := fieldAt_ok e
    obtain ⟨hsz, e⟩ := grd_ok e
    obtain ⟨v, e, hv⟩ := evO_ok e
    cases v with
    | ptr b o =>
      simp only [natK_eq] at e
      refine ⟨_, e, fun σ ρ w oper ho he => ?_⟩
      obtain ⟨L, hL, hx⟩ := hv σ ρ he
      refine ⟨_, ⟨L, hL, rfl⟩, ?_⟩
      have hz : te.size ≠ 0 := by have := Nat.le_of_ble_eq_true hsz; omega
      have hf' : fs[f]? = some fd := by simpa using hf
      simp [execOp, ho, Instr.fieldAt, hu, hd, hf', hx, Instr.sureAddr, fieldPlace, run_sizeOf' TO hte, hz, Addr.add_at]
      show _ = L.off + (o + fd.offset)
      omega
    | _ => exact (bad_ok e).elim
  | _ => simp only [hd] at e; exact (bad_ok e).elim

theorem natOf_ok {v : CV} {k : Nat → Res β} {r : β} (e : natOf v k = .ok r) : ∃ kd n, v = .int kd (Int.ofNat n) ∧ k n = .ok r := by
  cases v with
  | int kd n =>
    cases n with
    | ofNat n => exact ⟨kd, n, rfl, e⟩
    | negSucc n => exact (bad_ok e).elim
  | _ => exact (bad_ok e).elim

theorem sound_indexAddr (TO : TabOK P tab) (ty : TypeId) (x i : Operand) : SoundP P tab β (.indexAddr ty x i) := by
  intro call t h nx k r e
  obtain ⟨ti, hti, e⟩ := tyK_ok (show tyK tab ty _ = .ok r from e)
  have hu := run_under' TO hti
  obtain ⟨v, e, hv⟩ := evO_ok e
  obtain ⟨iv, e, hi⟩ := evO_ok e
  obtain ⟨kd, n, rfl, e⟩ := natOf_ok e
  cases hd : ti.u with
  | array len el =>
    simp only [hd] at e
    cases v with
    | ptr b o =>
      obtain ⟨hlt, e⟩ := grd_ok e
      obtain ⟨te, hte, e⟩ := tyK_ok e
      simp only [natK_eq] at e
      refine ⟨_, e, fun σ ρ w oper ho he => ?_⟩
      obtain ⟨L, hL, hx⟩ := hv σ ρ he
      have hn : ρ i = .int kd (n : Int) := hi σ ρ he
      have hlt : n < len := Nat.le_of_ble_eq_true hlt
      refine ⟨_, ⟨L, hL, rfl⟩, ?_⟩
      simp [execOp, ho, Instr.indexAt, hn, asIntOf, hu, hd, hx, Instr.sureAddr, run_sizeOf' TO hte, hlt, Addr.add_at]
      show _ = L.off + (o + n * te.size)
      omega
    | _ => exact (bad_ok e).elim
  | slice el =>
    simp only [hd] at e
    cases v with
    | slice b o len cap =>
      obtain ⟨hlt, e⟩ := grd_ok e
      obtain ⟨te, hte, e⟩ := tyK_ok e
      simp only [natK_eq] at e
      refine ⟨_, e, fun σ ρ w oper ho he => ?_⟩
      obtain ⟨L, c, hL, hx, _⟩ := hv σ ρ he
      have hn : ρ i = .int kd (n : Int) := hi σ ρ he
      have hlt : n < len := Nat.le_of_ble_eq_true hlt
      refine ⟨_, ⟨L, hL, rfl⟩, ?_⟩
      simp [execOp, ho, Instr.indexAt, hn, asIntOf, hu, hd, hx, Instr.sureAddr, run_sizeOf' TO hte, hlt, Addr.add_at]
      show _ = L.off + (o + n * te.size)
      omega
    | _ => exact (bad_ok e).elim
  | _ => simp only [hd] at e; exact (bad_ok e).elim

/-! ### parts of rows -/

theorem dropL_ok : ∀ (n : Nat) {cs : List CV} {k : List CV → Res β} {r : β}, dropL n cs k = .ok r → n ≤ cs.length ∧ k (cs.drop n) = .ok r
  | 0, cs, k, r, e => ⟨Nat.zero_le _, e⟩
  | n + 1, [], k, r, e => (bad_ok e).elim
  | n + 1, c :: cs, k, r, e => by
    obtain ⟨h, e⟩ := dropL_ok n (show dropL n cs k = .ok r from e)
    exact ⟨by simp; omega, by simpa using e⟩
theorem takeL_ok : ∀ (n : Nat) {cs : List CV} {k : List CV → Res β} {r : β}, takeL n cs k = .ok r → n ≤ cs.length ∧ k (cs.take n) = .ok r
  | 0, cs, k, r, e => ⟨Nat.zero_le _, e⟩
  | n + 1, [], k, r, e => (bad_ok e).elim
  | n + 1, c :: cs, k, r, e => by
    obtain ⟨h, e⟩ := takeL_ok n (show takeL n cs _ = .ok r from e)
    exact ⟨by simp; omega, by simpa using e⟩

theorem VRels.drop {σ : Sg} : ∀ (n : Nat) {cs : List CV} {l : List Value}, VRels σ cs l → VRels σ (cs.drop n) (l.drop n)
  | 0, cs, l, r => r
  | n + 1, [], l, r => by cases r; simp [VRels]
  | n + 1, c :: cs, l, ⟨v, vs, e, _, hs⟩ => by cases e; simpa using VRels.drop n hs
theorem VRels.take {σ : Sg} : ∀ (n : Nat) {cs : List CV} {l : List Value}, VRels σ cs l → VRels σ (cs.take n) (l.take n)
  | 0, cs, l, r => by simp [VRels]
  | n + 1, [], l, r => by cases r; simp [VRels]
  | n + 1, c :: cs, l, ⟨v, vs, e, hc, hs⟩ => by cases e; exact ⟨v, vs.take n, rfl, hc, VRels.take n hs⟩

theorem partK_ok (TO : TabOK P tab) {ty : TypeId} {ti : TI} (hti : tab.types.get ty = some ti) {cs : List CV} {off : Nat} {k : CV → Res β} {r : β} (e : partK ti cs off k = .ok r) :
    ∃ c, k c = .ok r ∧ ∀ σ (vs : Array Value) (w : World), VRels σ cs vs.toList → ∃ v, VRel σ c v ∧ (part ty vs off).run P w = .ok v w := by
  obtain ⟨hoff, e⟩ := dropL_ok _ e
  cases ha : ti.agg with
  | true =>
    rw [ha] at e
    obtain ⟨hn, e⟩ := takeL_ok _ (show takeL ti.size (cs.drop off) _ = .ok r from e)
    refine ⟨_, e, fun σ vs w hv => ⟨_, ⟨vs.extract off (off + ti.size), rfl, ?_⟩, by simp [part, run_isAgg' TO hti, ha, run_sizeOf' TO hti]⟩⟩
    have := (hv.drop off).take ti.size
    simpa [Array.toList_extract, List.extract] using this
  | false =>
    rw [ha] at e
    cases hd : cs.drop off with
    | nil => rw [hd] at e; exact (bad_ok e).elim
    | cons c l =>
      rw [hd] at e
      refine ⟨c, e, fun σ vs w hv => ?_⟩
      have hc : cs[off]? = some c := by
        have : (cs.drop off)[0]? = some c := by rw [hd]; rfl
        simpa using this
      obtain ⟨v, hv', hrel⟩ := hv.get hc
      have hv'' : vs[off]? = some v := by simpa using hv'
      exact ⟨v, hrel, by simp [part, run_isAgg' TO hti, ha, hv'']⟩

theorem sound_field (TO : TabOK P tab) (ty : TypeId) (x : Operand) (f : Nat) : SoundP P tab β (.field ty x f) := by
  intro call t h nx k r e
  obtain ⟨ti, hti, e⟩ := tyK_ok (show tyK tab ty _ = .ok r from e)
  have hu := run_under' TO hti
  cases hd : ti.u with
  | struct fs =>
    simp only [hd] at e
    obtain ⟨fd, hf, e⟩ := optK_ok e
    obtain ⟨te, hte, e⟩ := tyK_ok e
    obtain ⟨v, e, hv⟩ := evO_ok e
    cases v with
    | agg cs =>
      obtain ⟨c, e, hc⟩ := partK_ok TO hte e
      refine ⟨c, e, fun σ ρ w oper ho he => ?_⟩
      obtain ⟨vs, hx, hl⟩ := hv σ ρ he
      obtain ⟨u, hrel, hrun⟩ := hc σ vs w hl
      have hf' : fs[f]? = some fd := by simpa using hf
      exact ⟨u, hrel, by simp [execOp, ho, Instr.field, hu, hd, hf', hx, asAgg, hrun]⟩
    | _ => exact (bad_ok e).elim
  | _ => simp only [hd] at e; exact (bad_ok e).elim

theorem sound_index (TO : TabOK P tab) (ty : TypeId) (x i : Operand) : SoundP P tab β (.index ty x i) := by
  intro call t h nx k r e
  obtain ⟨ti, hti, e⟩ := tyK_ok (show tyK tab ty _ = .ok r from e)
  have hu := run_under' TO hti
  obtain ⟨v, e, hv⟩ := evO_ok e
  obtain ⟨iv, e, hi⟩ := evO_ok e
  obtain ⟨kd, n, rfl, e⟩ := natOf_ok e
  cases hd : ti.u with
  | array len el =>
    simp only [hd] at e
    cases v with
    | agg cs =>
      obtain ⟨hlt, e⟩ := grd_ok e
      obtain ⟨te, hte, e⟩ := tyK_ok e
      obtain ⟨c, e, hc⟩ := partK_ok TO hte e
      refine ⟨c, e, fun σ ρ w oper ho he => ?_⟩
      obtain ⟨vs, hx, hl⟩ := hv σ ρ he
      have hn : ρ i = .int kd (n : Int) := hi σ ρ he
      have hlt : n < len := Nat.le_of_ble_eq_true hlt
      obtain ⟨u, hrel, hrun⟩ := hc σ vs w hl
      have hrun' : (part el vs (n * te.size)).run P w = .ok u w := hrun
      exact ⟨u, hrel, by simp [execOp, ho, Instr.index, hn, asIntOf, hu, hd, hx, run_sizeOf' TO hte, hlt, hrun']⟩
    | _ => exact (bad_ok e).elim
  | _ => cases v <;> (rw [hd] at e; exact (bad_ok e).elim)

theorem sound_convert (TO : TabOK P tab) (src dst : TypeId) (x : Operand) : SoundR P tab β (.convert src dst x) := by
  intro call t h nx k r e
  obtain ⟨v, e, hv⟩ := evO_ok (show evO x tab t _ = .ok r from e)
  obtain ⟨ts, hts, e⟩ := tyK_ok e
  obtain ⟨ti, hti, e⟩ := tyK_ok e
  have hs := run_under' TO hts
  have hu := run_under' TO hti
  cases hds : ts.u with
  | int ks =>
    cases hd : ti.u with
    | int kd =>
      rw [hds, hd] at e
      cases v with
      | int k' n =>
        have e2 : k (.int kd (kd.wrap n)) h nx = .ok r := by
          cases n with
          | ofNat m => have e : wrapN kd m _ = .ok r := e; rw [wrapN_eq] at e; exact e
          | negSucc m => have e : intK _ _ = .ok r := e; rw [intK_eq] at e; exact e
        refine ⟨_, e2, fun σ ρ w m oper ho he hr => ⟨_, rfl, ?_⟩⟩
        have hx : ρ x = .int k' n := hv σ ρ he
        simp [execOp, ho, convert, hs, hu, hds, hd, hx, Conv.intToInt]
      | _ => exact (bad_ok e).elim
    | _ => cases v <;> (rw [hds, hd] at e; exact (bad_ok e).elim)
  | pointer el =>
    cases hd : ti.u with
    | unsafePointer =>
      rw [hds, hd] at e
      cases v with
      | ptr b o =>
        obtain ⟨te, hte, e⟩ := tyK_ok e
        obtain ⟨hz, e⟩ := grd_ok e
        obtain ⟨n, cs, rw, hb, e⟩ := blkK_ok e
        obtain ⟨ho', e⟩ := grd_ok e
        refine ⟨_, e, fun σ ρ w m oper ho he hr => ?_⟩
        obtain ⟨L, hL, hx⟩ := hv σ ρ he
        obtain ⟨arr, ee, fz, h1, h2, h3, h4, h5⟩ := hr.blk b L _ hL hb
        have hz' : te.size ≠ 0 := by have := Nat.le_of_ble_eq_true hz; omega
        have ho'' : o < n := Nat.le_of_ble_eq_true ho'
        have hlt : ¬ arr.size ≤ L.off + o := by omega
        refine ⟨_, ⟨L, hL, rfl⟩, ?_⟩
        simp [execOp, ho, convert, hs, hu, hds, hd, hx, Conv.unsafePointer, Conv.seenAt, viewAt, World.shape?, h1, cellsIn, run_sizeOf' TO hte, hz', hlt]
      | _ => exact (bad_ok e).elim
    | _ => cases v <;> (rw [hds, hd] at e; exact (bad_ok e).elim)
  | _ => cases hd : ti.u <;> cases v <;> (rw [hds, hd] at e; exact (bad_ok e).elim)
end reads
end Go.Can
namespace Go.Can
variable {β : Type}
section reads
variable {P : Program} {tab : Tab}

theorem sound_unOp (op : UnOp) (ty : TypeId) (x : Operand) : SoundP P tab β (.unOp op ty x) := by
  intro call t h nx k r e
  obtain ⟨v, e, hv⟩ := evO_ok (show evO x tab t _ = .ok r from e)
  cases v with
  | int kd n =>
    cases op with
    | neg =>
      obtain ⟨v, v', e, hr', hg⟩ := bSub_ok kd 0 n _ r (show bSub kd 0 n _ = .ok r from e)
      refine ⟨v, e, fun σ ρ w oper ho he => ⟨v', hr' σ, ?_⟩⟩
      cases hg
      simp [execOp, ho, Op.unary, show ρ x = .int kd n from hv σ ρ he, Op.intArith]
    | xor =>
      obtain ⟨v, v', e, hr', hg⟩ := bXor_ok kd (if kd.signed then -1 else kd.max) n _ r (show bXor kd _ n _ = .ok r from e)
      refine ⟨v, e, fun σ ρ w oper ho he => ⟨v', hr' σ, ?_⟩⟩
      cases hg
      simp [execOp, ho, Op.unary, show ρ x = .int kd n from hv σ ρ he, Op.intBits]
    | _ => exact (bad_ok e).elim
  | bool b =>
    cases op with
    | not =>
      have e : boolK b _ = .ok r := e
      rw [boolK_eq] at e
      exact ⟨_, e, fun σ ρ w oper ho he => ⟨.bool (!b), rfl, by simp [execOp, ho, Op.unary, show ρ x = .bool b from hv σ ρ he]⟩⟩
    | _ => exact (bad_ok e).elim
  | _ => cases op <;> exact (bad_ok e).elim

/-! ### equality -/

theorem eqN_eq (a b : Int) : eqN a b = (a == b) := by
  cases a with
  | ofNat a => cases b with
    | ofNat b => show Nat.beq a b = _; rw [Bool.eq_iff_iff]; simp [Nat.beq_eq]; omega
    | negSucc b => rfl
  | negSucc a => cases b with
    | ofNat b => rfl
    | negSucc b => show Nat.beq a b = _; rw [Bool.eq_iff_iff]; simp [Nat.beq_eq]
theorem eqB_eq (a b : Bool) : eqB a b = (a == b) := by cases a <;> cases b <;> rfl

theorem eq1_ok (TO : TabOK P tab) {t : TypeId} {q : LK} (hl : lk tab t = some q) {a b : CV} {r : Bool} (h : eq1 q a b = some r) {σ : Sg} {x y : Value} (hx : VRel σ a x) (hy : VRel σ b y) (d : Nat) (w : World) :
    (Op.equalIn (d + 1) t x y).run P w = .ok r w := by
  unfold lk at hl
  cases ht : tab.types.get t with
  | none => simp [ht] at hl
  | some ti =>
    have hu := (TO.types t ti ht).1
    simp only [ht] at hl
    cases hd : ti.u with
    | int kd =>
      simp only [hd] at hl; cases hl
      rw [hd] at hu
      cases a with
      | int k m => cases b with
        | int k' n =>
          simp only [eq1] at h
          cases hk : kEq k k' with
          | false => simp [hk] at h
          | true =>
            simp only [hk] at h; cases h
            cases kEq_ok hk; cases hx; cases hy
            rw [run_equalIn_int w d t k kd m n hu, eqN_eq]
        | _ => simp [eq1] at h
      | _ => simp [eq1] at h
    | bool =>
      simp only [hd] at hl; cases hl
      rw [hd] at hu
      cases a with
      | bool m => cases b with
        | bool n =>
          simp only [eq1] at h; cases h
          cases hx; cases hy
          rw [run_equalIn_bool' w d t m n hu, eqB_eq]
        | _ => simp [eq1] at h
      | _ => simp [eq1] at h
    | _ => simp [hd] at hl

theorem lk_leaf (TO : TabOK P tab) {t : TypeId} {q : LK} (hl : lk tab t = some q) : ∀ w, (isAgg t).run P w = .ok false w := by
  intro w
  unfold lk at hl
  cases ht : tab.types.get t with
  | none => simp [ht] at hl
  | some ti =>
    rw [run_isAgg' TO ht]
    obtain ⟨_, i, _, _, _, _, ha⟩ := TO.types t ti ht
    rw [ha]
    simp only [ht] at hl
    cases hd : ti.u <;> simp [hd] at hl <;> rfl

theorem lks_ok (TO : TabOK P tab) {σ : Sg} {xs ys : Array Value} (d : Nat) (w : World) : ∀ (fs : List Field) (n : Nat) (qs : List LK) (as bs : List CV) (r : Bool), lks tab fs n = some qs → eqCells qs as bs = some r →
    VRels σ as (xs.toList.drop n) → VRels σ bs (ys.toList.drop n) → (Op.eqFields (d + 1) xs ys fs).run P w = .ok r w
  | [], n, qs, as, bs, r, hl, he, hx, hy => by
    simp [lks] at hl; subst hl
    cases as <;> cases bs <;> simp [eqCells] at he
    subst he; simp [Op.eqFields]
  | f :: fs, n, qs, as, bs, r, hl, he, hx, hy => by
    simp only [lks] at hl
    cases hc : decide (f.name ≠ "_") && Nat.beq f.offset n with
    | false => rw [hc] at hl; cases hl
    | true =>
      cases hq : lk tab f.type with
      | none => rw [hc, hq] at hl; cases hl
      | some q =>
        cases hs : lks tab fs (n + 1) with
        | none => rw [hc, hq, hs] at hl; cases hl
        | some qs' =>
          rw [hc, hq, hs] at hl; cases hl
          simp only [Bool.and_eq_true, decide_eq_true_eq] at hc
          obtain ⟨hname, hoff⟩ := hc
          have hoff : f.offset = n := Nat.eq_of_beq_eq_true hoff
          cases as with
          | nil => simp [eqCells] at he
          | cons a as =>
            cases bs with
            | nil => simp [eqCells] at he
            | cons b bs =>
              obtain ⟨x, xs', hxe, hax, hxs⟩ := hx
              obtain ⟨y, ys', hye, hby, hys⟩ := hy
              have hxn : xs[n]? = some x := by
                have : (xs.toList.drop n)[0]? = some x := by rw [hxe]; rfl
                simpa using this
              have hyn : ys[n]? = some y := by
                have : (ys.toList.drop n)[0]? = some y := by rw [hye]; rfl
                simpa using this
              have hxd : xs.toList.drop (n + 1) = xs' := by rw [← List.drop_drop, hxe]; rfl
              have hyd : ys.toList.drop (n + 1) = ys' := by rw [← List.drop_drop, hye]; rfl
              simp only [eqCells] at he
              have hpx : (part f.type xs f.offset).run P w = .ok x w := by simp [part, lk_leaf TO hq, hoff, hxn]
              have hpy : (part f.type ys f.offset).run P w = .ok y w := by simp [part, lk_leaf TO hq, hoff, hyn]
              cases h1 : eq1 q a b with
              | none => simp [h1] at he
              | some r1 =>
                have hrun := eq1_ok TO hq h1 hax hby d w
                simp only [Op.eqFields, hname, ne_eq, not_false_eq_true, if_true, Sem.run_bind, hpx, hpy, hrun, Result.andThen_ok]
                cases r1 with
                | false => simp [h1] at he; subst he; simp
                | true =>
                  simp only [h1] at he
                  simp only [Bool.not_true, Bool.false_eq_true, if_false]
                  exact lks_ok TO d w fs (n + 1) qs' as bs r hs he (by rw [hxd]; exact hxs) (by rw [hyd]; exact hys)

theorem items_ok (TO : TabOK P tab) {e : TypeId} {q : LK} (hq : lk tab e = some q) {σ : Sg} {xs ys : Array Value} (d : Nat) (w : World) : ∀ (n s : Nat) (as bs : List CV) (r : Bool), eqCells (List.replicate n q) as bs = some r →
    VRels σ as (xs.toList.drop s) → VRels σ bs (ys.toList.drop s) → (Op.eqItems (d + 1) e 1 xs ys (List.range' s n)).run P w = .ok r w
  | 0, s, as, bs, r, he, hx, hy => by
    cases as <;> cases bs <;> simp [eqCells] at he
    subst he; simp [Op.eqItems]
  | n + 1, s, as, bs, r, he, hx, hy => by
    rw [List.replicate_succ] at he
    cases as with
    | nil => simp [eqCells] at he
    | cons a as =>
      cases bs with
      | nil => simp [eqCells] at he
      | cons b bs =>
        obtain ⟨x, xs', hxe, hax, hxs⟩ := hx
        obtain ⟨y, ys', hye, hby, hys⟩ := hy
        have hxn : xs[s]? = some x := by
          have : (xs.toList.drop s)[0]? = some x := by rw [hxe]; rfl
          simpa using this
        have hyn : ys[s]? = some y := by
          have : (ys.toList.drop s)[0]? = some y := by rw [hye]; rfl
          simpa using this
        have hxd : xs.toList.drop (s + 1) = xs' := by rw [← List.drop_drop, hxe]; rfl
        have hyd : ys.toList.drop (s + 1) = ys' := by rw [← List.drop_drop, hye]; rfl
        simp only [eqCells] at he
        have hpx : (part e xs (s * 1)).run P w = .ok x w := by simp [part, lk_leaf TO hq, hxn]
        have hpy : (part e ys (s * 1)).run P w = .ok y w := by simp [part, lk_leaf TO hq, hyn]
        cases h1 : eq1 q a b with
        | none => simp [h1] at he
        | some r1 =>
          have hrun := eq1_ok TO hq h1 hax hby d w
          simp only [List.range'_succ, Op.eqItems, Sem.run_bind, hpx, hpy, hrun, Result.andThen_ok]
          cases r1 with
          | false => simp [h1] at he; subst he; simp
          | true =>
            simp only [h1] at he
            simp only [Bool.not_true, Bool.false_eq_true, if_false]
            exact items_ok TO hq d w n (s + 1) as bs r he (by rw [hxd]; exact hxs) (by rw [hyd]; exact hys)

theorem agg_eq_ok (TO : TabOK P tab) {ty : TypeId} {ti : TI} (hti : tab.types.get ty = some ti) {qs : List LK} (hk : kindsOf tab ti = some qs) {as bs : List CV} {r : Bool} (he : eqCells qs as bs = some r)
    {σ : Sg} {xs ys : Array Value} (hx : VRels σ as xs.toList) (hy : VRels σ bs ys.toList) (w : World) :
    ti.eqok = true ∧ (Op.equal ty (.agg xs) (.agg ys)).run P w = .ok r w := by
  have hu := (TO.types ty ti hti).1
  unfold kindsOf at hk
  cases hok : ti.eqok with
  | false => simp [hok] at hk
  | true =>
    refine ⟨rfl, ?_⟩
    obtain ⟨hst, _⟩ := TO.eqs ty ti hti hok
    cases hd : ti.u with
    | struct fs =>
      simp only [hok, hd] at hk
      rw [hd] at hu
      have hf : P.fieldsOf ty = fs := by simp [Program.fieldsOf, hu]
      have := run_equalIn_struct (P := P) w 9999 ty xs ys (by rw [hf]; exact hu) hst
      show (Op.equalIn (9999 + 1) ty _ _).run P w = _
      rw [this, hf]
      exact lks_ok TO 9998 w fs.toList 0 qs as bs r hk he (by simpa using hx) (by simpa using hy)
    | array len e =>
      simp only [hok, hd] at hk
      rw [hd] at hu
      cases hte : tab.types.get e with
      | none => simp [hte] at hk
      | some te =>
        cases hb : Nat.beq te.size 1 with
        | false => simp [hte, hb] at hk
        | true =>
          cases hq : lk tab e with
          | none => simp [hte, hb, hq] at hk
          | some q =>
            simp [hte, hb, hq] at hk; subst hk
            obtain ⟨_, i, hi, hs, _⟩ := TO.types e te hte
            have hs1 : P.cellsOf e = 1 := by simp [Program.cellsOf, hi, hs, Nat.eq_of_beq_eq_true hb]
            have := run_equalIn_array (P := P) w 9999 xs ys hu hi
            show (Op.equalIn (9999 + 1) ty _ _).run P w = _
            rw [this, hs1, List.range_eq_range']
            exact items_ok TO hq 9998 w len 0 as bs r he (by simpa using hx) (by simpa using hy)
    | _ => simp [hok, hd] at hk

section
variable {P : Program} (d : Nat) (ty : TypeId) (w : World)
theorem eqIn_pn {el : TypeId} (hu : P.underlying ty = some (.pointer el)) (b : Option Addr) : (Op.equalIn (d + 1) ty (.pointer none) (.pointer b)).run P w = .ok b.isNone w := by simp [Op.equalIn, run_underlying hu]
theorem eqIn_ps {el : TypeId} (hu : P.underlying ty = some (.pointer el)) (a : Addr) : (Op.equalIn (d + 1) ty (.pointer (some a)) (.pointer none)).run P w = .ok false w := by simp [Op.equalIn, run_underlying hu]
theorem eqIn_sn {el : TypeId} (hu : P.underlying ty = some (.slice el)) (b : Option Addr) (l c : Nat) : (Op.equalIn (d + 1) ty (.slice none 0 0) (.slice b l c)).run P w = .ok b.isNone w := by simp [Op.equalIn, run_underlying hu]
theorem eqIn_ss {el : TypeId} (hu : P.underlying ty = some (.slice el)) (a : Addr) (l c : Nat) : (Op.equalIn (d + 1) ty (.slice (some a) l c) (.slice none 0 0)).run P w = .ok false w := by simp [Op.equalIn, run_underlying hu]
theorem eqIn_mn {k el : TypeId} (hu : P.underlying ty = some (.map k el)) (b : Option Nat) : (Op.equalIn (d + 1) ty (.map none) (.map b)).run P w = .ok b.isNone w := by simp [Op.equalIn, run_underlying hu]
theorem eqIn_ms {k el : TypeId} (hu : P.underlying ty = some (.map k el)) (a : Nat) : (Op.equalIn (d + 1) ty (.map (some a)) (.map none)).run P w = .ok false w := by simp [Op.equalIn, run_underlying hu]
theorem eqIn_fn {a b : Array TypeId} {c : Bool} (hu : P.underlying ty = some (.func a b c)) : (Op.equalIn (d + 1) ty .nilFunc .nilFunc).run P w = .ok true w := by simp [Op.equalIn, run_underlying hu]
theorem eqIn_fs {a b : Array TypeId} {c : Bool} (hu : P.underlying ty = some (.func a b c)) (f : Fn) (x y : Array Value) : (Op.equalIn (d + 1) ty .nilFunc (.func f x y)).run P w = .ok false w := by simp [Op.equalIn, run_underlying hu]
theorem eqIn_ft {a b : Array TypeId} {c : Bool} (hu : P.underlying ty = some (.func a b c)) (f : Fn) (x y : Array Value) : (Op.equalIn (d + 1) ty (.func f x y) .nilFunc).run P w = .ok false w := by simp [Op.equalIn, run_underlying hu]
end

theorem eqCV_ok (TO : TabOK P tab) {ty : TypeId} {a b : CV} {c : Bool → Res β} {r : β} (e : eqCV tab ty a b c = .ok r) (hni : ∀ k n k' n', ¬ (a = .int k n ∧ b = .int k' n')) :
    ∃ q, c q = .ok r ∧ ∀ σ (x y : Value) (ox oy : Operand) (op : BinOp) (w : World), VRel σ a x → VRel σ b y →
      ((op = .eql → (do eqGuard op ty ox oy x y; binOp op ty x y : Sem Value).run P w = .ok (.bool q) w) ∧ (op = .neq → (do eqGuard op ty ox oy x y; binOp op ty x y : Sem Value).run P w = .ok (.bool (!q)) w)) := by
  obtain ⟨ti, hti, e⟩ := tyK_ok e
  have hu := (TO.types ty ti hti).1
  have heq : ∀ (q : Bool), c q = .ok r → (∀ σ (x y : Value) (w : World), VRel σ a x → VRel σ b y →
      (∀ ox oy op, (eqGuard op ty ox oy x y).run P w = .ok () w) ∧ (Op.equal ty x y).run P w = .ok q w ∧ (binOp .eql ty x y = do pure (.bool (← Op.equal ty x y))) ∧ (binOp .neq ty x y = do pure (.bool (!(← Op.equal ty x y))))) →
      ∃ q, c q = .ok r ∧ ∀ σ (x y : Value) (ox oy : Operand) (op : BinOp) (w : World), VRel σ a x → VRel σ b y →
      ((op = .eql → (do eqGuard op ty ox oy x y; binOp op ty x y : Sem Value).run P w = .ok (.bool q) w) ∧ (op = .neq → (do eqGuard op ty ox oy x y; binOp op ty x y : Sem Value).run P w = .ok (.bool (!q)) w)) := by
    intro q hq H
    refine ⟨q, hq, fun σ x y ox oy op w hx hy => ?_⟩
    obtain ⟨h1, h2, h3, h4⟩ := H σ x y w hx hy
    refine ⟨?_, ?_⟩ <;> intro ho <;> subst ho
    · simp [h1, h3, h2]
    · simp [h1, h4, h2]
  cases a with
  | agg as =>
    cases b with
    | agg bs =>
      have e : optK 23 (kindsOf tab ti) (fun qs => optK 23 (eqCells qs as bs) fun b => boolK b c) = .ok r := by cases hd : ti.u <;> (rw [hd] at e; exact e)
      obtain ⟨qs, hk, e⟩ := optK_ok e
      obtain ⟨q, hq, e⟩ := optK_ok e
      rw [boolK_eq] at e
      refine heq q e fun σ x y w hx hy => ?_
      obtain ⟨xs, rfl, hxs⟩ := hx
      obtain ⟨ys, rfl, hys⟩ := hy
      obtain ⟨hok, hrun⟩ := agg_eq_ok TO hti hk hq hxs hys w
      exact ⟨fun ox oy op => run_eqGuard_agg w op ty ox oy xs ys (TO.eqs ty ti hti hok).2, hrun, rfl, rfl⟩
    | _ => cases hd : ti.u <;> (rw [hd] at e; exact (bad_ok e).elim)
  | bool x =>
    cases b with
    | bool y =>
      cases hd : ti.u with
      | bool =>
        rw [hd] at e hu
        have e : boolK _ _ = .ok r := e
        rw [boolK_eq] at e
        refine heq _ e fun σ x' y' w hx hy => ?_
        cases hx; cases hy
        exact ⟨fun ox oy op => by cases op <;> simp [eqGuard], by rw [run_equal_bool w ty x y hu, eqB_eq], rfl, rfl⟩
      | _ => rw [hd] at e; exact (bad_ok e).elim
    | _ => cases hd : ti.u <;> (rw [hd] at e; exact (bad_ok e).elim)
  | nilptr =>
    cases b with
    | nilptr =>
      cases hd : ti.u with
      | pointer el =>
        rw [hd] at e hu
        refine heq _ e fun σ x' y' w hx hy => ?_
        cases hx; cases hy
        exact ⟨fun ox oy op => by cases op <;> simp [eqGuard], eqIn_pn 9999 ty w hu none, rfl, rfl⟩
      | _ => rw [hd] at e; exact (bad_ok e).elim
    | ptr b o =>
      cases hd : ti.u with
      | pointer el =>
        rw [hd] at e hu
        refine heq _ e fun σ x' y' w hx hy => ?_
        cases hx; obtain ⟨L, _, rfl⟩ := hy
        exact ⟨fun ox oy op => by cases op <;> simp [eqGuard], eqIn_pn 9999 ty w hu (some _), rfl, rfl⟩
      | _ => rw [hd] at e; exact (bad_ok e).elim
    | _ => cases hd : ti.u <;> (rw [hd] at e; exact (bad_ok e).elim)
  | ptr b' o' =>
    cases b with
    | nilptr =>
      cases hd : ti.u with
      | pointer el =>
        rw [hd] at e hu
        refine heq _ e fun σ x' y' w hx hy => ?_
        cases hy; obtain ⟨L, _, rfl⟩ := hx
        exact ⟨fun ox oy op => by cases op <;> simp [eqGuard], eqIn_ps 9999 ty w hu _, rfl, rfl⟩
      | _ => rw [hd] at e; exact (bad_ok e).elim
    | _ => cases hd : ti.u <;> (rw [hd] at e; exact (bad_ok e).elim)
  | nilslice =>
    cases b with
    | nilslice =>
      cases hd : ti.u with
      | slice el =>
        rw [hd] at e hu
        refine heq _ e fun σ x' y' w hx hy => ?_
        cases hx; cases hy
        exact ⟨fun ox oy op => by cases op <;> simp [eqGuard], eqIn_sn 9999 ty w hu none 0 0, rfl, rfl⟩
      | _ => rw [hd] at e; exact (bad_ok e).elim
    | slice b o l cp =>
      cases hd : ti.u with
      | slice el =>
        rw [hd] at e hu
        refine heq _ e fun σ x' y' w hx hy => ?_
        cases hx; obtain ⟨L, cc, _, rfl, _⟩ := hy
        exact ⟨fun ox oy op => by cases op <;> simp [eqGuard], eqIn_sn 9999 ty w hu (some _) _ _, rfl, rfl⟩
      | _ => rw [hd] at e; exact (bad_ok e).elim
    | _ => cases hd : ti.u <;> (rw [hd] at e; exact (bad_ok e).elim)
  | slice b' o' l' cp' =>
    cases b with
    | nilslice =>
      cases hd : ti.u with
      | slice el =>
        rw [hd] at e hu
        refine heq _ e fun σ x' y' w hx hy => ?_
        cases hy; obtain ⟨L, cc, _, rfl, _⟩ := hx
        exact ⟨fun ox oy op => by cases op <;> simp [eqGuard], eqIn_ss 9999 ty w hu _ _ _, rfl, rfl⟩
      | _ => rw [hd] at e; exact (bad_ok e).elim
    | _ => cases hd : ti.u <;> (rw [hd] at e; exact (bad_ok e).elim)
  | nilmap =>
    cases b with
    | nilmap =>
      cases hd : ti.u with
      | map kk el =>
        rw [hd] at e hu
        refine heq _ e fun σ x' y' w hx hy => ?_
        cases hx; cases hy
        exact ⟨fun ox oy op => by cases op <;> simp [eqGuard], eqIn_mn 9999 ty w hu none, rfl, rfl⟩
      | _ => rw [hd] at e; exact (bad_ok e).elim
    | mapv b =>
      cases hd : ti.u with
      | map kk el =>
        rw [hd] at e hu
        refine heq _ e fun σ x' y' w hx hy => ?_
        cases hx; obtain ⟨L, _, rfl⟩ := hy
        exact ⟨fun ox oy op => by cases op <;> simp [eqGuard], eqIn_mn 9999 ty w hu (some _), rfl, rfl⟩
      | _ => rw [hd] at e; exact (bad_ok e).elim
    | _ => cases hd : ti.u <;> (rw [hd] at e; exact (bad_ok e).elim)
  | mapv b' =>
    cases b with
    | nilmap =>
      cases hd : ti.u with
      | map kk el =>
        rw [hd] at e hu
        refine heq _ e fun σ x' y' w hx hy => ?_
        cases hy; obtain ⟨L, _, rfl⟩ := hx
        exact ⟨fun ox oy op => by cases op <;> simp [eqGuard], eqIn_ms 9999 ty w hu _, rfl, rfl⟩
      | _ => rw [hd] at e; exact (bad_ok e).elim
    | _ => cases hd : ti.u <;> (rw [hd] at e; exact (bad_ok e).elim)
  | nilfn =>
    cases b with
    | nilfn =>
      cases hd : ti.u with
      | func a1 a2 a3 =>
        rw [hd] at e hu
        refine heq _ e fun σ x' y' w hx hy => ?_
        cases hx; cases hy
        exact ⟨fun ox oy op => by cases op <;> simp [eqGuard], eqIn_fn 9999 ty w hu, rfl, rfl⟩
      | _ => rw [hd] at e; exact (bad_ok e).elim
    | fn f p q =>
      cases hd : ti.u with
      | func a1 a2 a3 =>
        rw [hd] at e hu
        refine heq _ e fun σ x' y' w hx hy => ?_
        cases hx; obtain ⟨p', q', rfl, _⟩ := hy
        exact ⟨fun ox oy op => by cases op <;> simp [eqGuard], eqIn_fs 9999 ty w hu _ _ _, rfl, rfl⟩
      | _ => rw [hd] at e; exact (bad_ok e).elim
    | _ => cases hd : ti.u <;> (rw [hd] at e; exact (bad_ok e).elim)
  | fn f' p' q' =>
    cases b with
    | nilfn =>
      cases hd : ti.u with
      | func a1 a2 a3 =>
        rw [hd] at e hu
        refine heq _ e fun σ x' y' w hx hy => ?_
        cases hy; obtain ⟨p'', q'', rfl, _⟩ := hx
        exact ⟨fun ox oy op => by cases op <;> simp [eqGuard], eqIn_ft 9999 ty w hu _ _ _, rfl, rfl⟩
      | _ => rw [hd] at e; exact (bad_ok e).elim
    | _ => cases hd : ti.u <;> (rw [hd] at e; exact (bad_ok e).elim)
  | int k n => cases b <;> first | exact absurd ⟨rfl, rfl⟩ (hni _ _ _ _) | (cases hd : ti.u <;> (rw [hd] at e; exact (bad_ok e).elim))
  | _ => cases b <;> (cases hd : ti.u <;> (rw [hd] at e; exact (bad_ok e).elim))

theorem sound_binOp (TO : TabOK P tab) (op : BinOp) (ty : TypeId) (x y : Operand) (yt : TypeId) : SoundR P tab β (.binOp op ty x y yt) := by
  intro call t h nx k r e
  obtain ⟨a, e, ha⟩ := evO_ok (show evO x tab t _ = .ok r from e)
  obtain ⟨b, e, hb⟩ := evO_ok e
  by_cases hi : ∃ k n k' n', a = .int k n ∧ b = .int k' n'
  · obtain ⟨kd, m, kd', n, rfl, rfl⟩ := hi
    obtain ⟨hk, e⟩ := grd_ok (show grd 41 _ _ = .ok r from e)
    obtain ⟨v, v', e, hv, hrun⟩ := binT_ok P op ty kd kd' m n hk e
    refine ⟨v, e, fun σ ρ w mm oper ho he hr => ⟨v', hv σ, ?_⟩⟩
    have hx : ρ x = .int kd m := ha σ ρ he
    have hy : ρ y = .int kd' n := hb σ ρ he
    have hg : (eqGuard op ty x y (.int kd m) (.int kd' n)).run P w = .ok () w := by cases op <;> simp [eqGuard]
    simp [execOp, ho, hx, hy, hg, hrun]
  · have hni : ∀ k n k' n', ¬ (a = .int k n ∧ b = .int k' n') := fun k n k' n' hh => hi ⟨k, n, k', n', hh⟩
    have e2 : (match op with | .eql => eqCV tab ty a b fun x => k (.bool x) h nx | .neq => eqCV tab ty a b fun x => k (.bool (!x)) h nx | _ => .bad 42) = .ok r := by
      have : binCV tab op ty a b (fun v => k v h nx) = .ok r := e
      unfold binCV at this
      split at this
      · exact absurd ⟨rfl, rfl⟩ (hni _ _ _ _)
      · exact this
    cases op with
    | eql =>
      obtain ⟨q, e, hq⟩ := eqCV_ok TO e2 hni
      refine ⟨_, e, fun σ ρ w mm oper ho he hr => ⟨.bool q, rfl, ?_⟩⟩
      have := (hq σ (ρ x) (ρ y) x y .eql w (ha σ ρ he) (hb σ ρ he)).1 rfl
      simp only [execOp, ho, Sem.run_bind] at this ⊢
      rw [this]; rfl
    | neq =>
      obtain ⟨q, e, hq⟩ := eqCV_ok TO e2 hni
      refine ⟨_, e, fun σ ρ w mm oper ho he hr => ⟨.bool (!q), rfl, ?_⟩⟩
      have := (hq σ (ρ x) (ρ y) x y .neq w (ha σ ρ he) (hb σ ρ he)).2 rfl
      simp only [execOp, ho, Sem.run_bind] at this ⊢
      rw [this]; rfl
    | _ => exact (bad_ok e2).elim
end reads
end Go.Can
namespace Go.Can
variable {β : Type}
section
variable {P : Program} {tab : Tab}

theorem fillL_ok (vs : List CV) : ∀ (off : Nat) {cs : List CV} {k : List CV → Res β} {r : β}, fillL vs off cs k = .ok r →
    ∃ cs', k cs' = .ok r ∧ cs'.length = cs.length ∧ off + vs.length ≤ cs.length ∧ ∀ i, cs'[i]? = if off ≤ i ∧ i < off + vs.length then vs[i - off]? else cs[i]?
  | 0, cs, k, r, h => by
    have key : ∀ (vs : List CV) {cs : List CV} {k : List CV → Res β}, (List.rec (motive := fun _ => List CV → (List CV → Res β) → Res β) (fun cs k => k cs)
        (fun v _ ih cs k => List.rec (.bad 31) (fun _ cs _ => ih cs fun cs => k (v :: cs)) cs) vs cs k) = .ok r →
        ∃ cs', k cs' = .ok r ∧ cs'.length = cs.length ∧ vs.length ≤ cs.length ∧ ∀ i, cs'[i]? = if i < vs.length then vs[i]? else cs[i]? := by
      intro vs
      induction vs with
      | nil => intro cs k h; exact ⟨cs, h, rfl, Nat.zero_le _, fun i => by simp⟩
      | cons v vs ih =>
        intro cs k h
        cases cs with
        | nil => exact (bad_ok h).elim
        | cons c cs =>
          obtain ⟨cs', hk, hl, hle, hg⟩ := ih h
          refine ⟨v :: cs', hk, by simp [hl], by simp; omega, fun i => ?_⟩
          cases i with
          | zero => simp
          | succ i => simp only [List.getElem?_cons_succ, hg i, List.length_cons]; by_cases hi : i < vs.length <;> simp [hi]
    obtain ⟨cs', hk, hl, hle, hg⟩ := key vs h
    exact ⟨cs', hk, hl, by omega, fun i => by rw [hg i]; by_cases hi : i < vs.length <;> simp [hi]⟩
  | off + 1, [], k, r, h => (bad_ok h).elim
  | off + 1, c :: cs, k, r, h => by
    obtain ⟨cs', hk, hl, hle, hg⟩ := fillL_ok vs off (show fillL vs off cs _ = .ok r from h)
    refine ⟨c :: cs', hk, by simp [hl], by simp; omega, fun i => ?_⟩
    cases i with
    | zero => simp
    | succ i =>
      simp only [List.getElem?_cons_succ, hg i]
      by_cases hi : off ≤ i ∧ i < off + vs.length
      · rw [if_pos hi, if_pos (by omega)]; congr 1; omega
      · rw [if_neg hi, if_neg (by omega)]

theorem fill_step {σ : Sg} {cs vs cs' : List CV} {off : Nat} {cells : Array Value} {v : Value} (hc : VRels σ cs cells.toList) (hv : VRels σ vs v.cells.toList) (hl : cs'.length = cs.length) (hle : off + vs.length ≤ cs.length)
    (hg : ∀ i, cs'[i]? = if off ≤ i ∧ i < off + vs.length then vs[i - off]? else cs[i]?) :
    VRels σ cs' (v.cells.zipIdx.foldl (fun cs (c, j) => cs.setIfInBounds (off + j) c) cells).toList ∧ v.cells.size = vs.length ∧ off + v.cells.size ≤ cells.size := by
  have hvl : v.cells.size = vs.length := by have := hv.length; simpa using this
  have hcl : cells.size = cs.length := by have := hc.length; simpa using this
  refine ⟨?_, hvl, by omega⟩
  have e : v.cells.zipIdx.foldl (fun cs (c, j) => cs.setIfInBounds (off + j) c) cells = (v.cells.toList.zipIdx 0).foldl (fun cs (x : Value × Nat) => cs.setIfInBounds (off + x.2) x.1) cells := by
    rw [← Array.foldl_toList, Array.toList_zipIdx]
  rw [e]
  obtain ⟨h1, h2⟩ := Great.foldl_set off v.cells.toList 0 cells
  refine VRels.of_get (by simp only [Array.length_toList, h1, hcl, hl]) fun i c hi => ?_
  rw [Array.getElem?_toList, h2 i]
  rw [hg i] at hi
  simp only [Nat.add_zero, Array.length_toList, hvl]
  by_cases hin : off ≤ i ∧ i < off + vs.length
  · rw [if_pos hin] at hi
    rw [if_pos ⟨hin.1, hin.2, by omega⟩]
    exact hv.get hi
  · rw [if_neg hin] at hi
    rw [if_neg (by omega)]
    obtain ⟨x, hx, hrel⟩ := hc.get hi
    exact ⟨x, by simpa using hx, hrel⟩

theorem fillParts_ok {placeK : Nat → (Nat → Nat → Res β) → Res β} {place : Nat → Option (Nat × Nat)} (hp : ∀ i (k : Nat → Nat → Res β) r, placeK i k = .ok r → ∃ off size, k off size = .ok r ∧ place i = some (off, size)) :
    ∀ (ps : List (Nat × Operand)) {t : T CV} {cs : List CV} {k : List CV → Res β} {r : β}, fillParts placeK tab t ps cs k = .ok r →
    ∃ cs', k cs' = .ok r ∧ cs'.length = cs.length ∧ ∀ σ ρ, Env tab.ng σ t ρ → ∀ cells : Array Value, VRels σ cs cells.toList → ∃ cells', Instr.fill place cells (ps.map fun x => (x.1, ρ x.2)) = some cells' ∧ VRels σ cs' cells'.toList
  | [], t, cs, k, r, h => ⟨cs, h, rfl, fun σ ρ he cells hc => ⟨cells, rfl, hc⟩⟩
  | (i, x) :: ps, t, cs, k, r, h => by
    obtain ⟨v, h, hv⟩ := evO_ok (show evO x tab t _ = .ok r from h)
    obtain ⟨off, size, h, hpl⟩ := hp _ _ _ h
    obtain ⟨hs, h⟩ := grd_ok h
    obtain ⟨cs1, h, hl, hle, hg⟩ := fillL_ok _ _ h
    obtain ⟨cs', h, hl', H⟩ := fillParts_ok hp ps h
    refine ⟨cs', h, hl'.trans hl, fun σ ρ he cells hc => ?_⟩
    obtain ⟨h1, h2, h3⟩ := fill_step hc (hv σ ρ he).cells hl hle hg
    obtain ⟨cells', hf, hr⟩ := H σ ρ he _ h1
    refine ⟨cells', ?_, hr⟩
    rw [lenN_eq] at hs
    have hs := Nat.eq_of_beq_eq_true hs
    simp only [List.map_cons, Instr.fill, hpl]
    rw [if_neg (by simp; omega)]
    exact hf

theorem mapM_places (TO : TabOK P tab) : ∀ (fs : List Field), (fs.all fun f => (tab.types.get f.type).isSome) = true →
    ∃ pl, fs.mapM (fun f => (P.info? f.type).map fun i => (f.offset, i.size)) = some pl ∧ ∀ (i : Nat) (f : Field), fs[i]? = some f → ∀ ti, tab.types.get f.type = some ti → pl[i]? = some (f.offset, ti.size)
  | [], _ => ⟨[], rfl, fun i f h => by simp at h⟩
  | f :: fs, h => by
    simp only [List.all_cons, Bool.and_eq_true] at h
    obtain ⟨pl, hm, hg⟩ := mapM_places TO fs h.2
    obtain ⟨ti, hti⟩ := Option.isSome_iff_exists.1 h.1
    obtain ⟨_, i, hi, hs, _⟩ := TO.types _ ti hti
    refine ⟨(f.offset, ti.size) :: pl, by simp [List.mapM_cons, hi, hs, hm], fun j g hj tj htj => ?_⟩
    cases j with
    | zero => simp at hj; subst hj; rw [hti] at htj; cases htj; rfl
    | succ j => simpa using hg j g (by simpa using hj) tj htj

theorem sound_build (TO : TabOK P tab) (ty : TypeId) (ps : Array (Nat × Operand)) : SoundP P tab β (.build ty ps) := by
  intro call t h nx k r e
  obtain ⟨ti, hti, e⟩ := tyK_ok (show tyK tab ty _ = .ok r from e)
  obtain ⟨hu, i, hi, hsz, hby, ⟨z, hz, hzz, hzs⟩, hagg⟩ := TO.types ty ti hti
  cases hd : ti.u with
  | struct fs =>
    simp only [hd] at e
    obtain ⟨hall, e⟩ := grd_ok e
    obtain ⟨pl, hm, hg⟩ := mapM_places TO fs.toList hall
    obtain ⟨cs', e, hl, H⟩ := fillParts_ok (place := (pl.toArray[·]?)) (fun i k r h => by
      obtain ⟨f, tf, hf, htf, h⟩ := fieldAt_ok h
      exact ⟨_, _, h, by simpa using hg i f hf tf htf⟩) ps.toList e
    refine ⟨_, e, fun σ ρ w oper ho he => ?_⟩
    obtain ⟨cells', hf, hrel⟩ := H σ ρ he z.cells (ofValue_ok z hzz).cells
    refine ⟨.agg cells', ⟨cells', rfl, hrel⟩, ?_⟩
    have hb : P.built ty (ps.map fun x => (x.1, ρ x.2)).toList = some cells' := by
      rw [hd] at hu
      simp only [Program.built, hi, hu, hz, hm, Array.toList_map]
      exact hf
    have := run_build (P := P) w ty (ps.map fun x => (x.1, ρ x.2)) cells' hb
    simp only [execOp, ho, Sem.run_bind, this, Result.andThen_ok, Sem.run_pure]
  | array len el =>
    simp only [hd] at e
    obtain ⟨te, hte, e⟩ := tyK_ok e
    obtain ⟨_, ie, hie, hse, _⟩ := TO.types el te hte
    obtain ⟨cs', e, hl, H⟩ := fillParts_ok (place := fun i => some (i * ie.size, ie.size)) (fun i k r h => by
      rw [natK_eq] at h
      exact ⟨_, _, h, by rw [hse]; rfl⟩) ps.toList e
    refine ⟨_, e, fun σ ρ w oper ho he => ?_⟩
    obtain ⟨cells', hf, hrel⟩ := H σ ρ he z.cells (ofValue_ok z hzz).cells
    refine ⟨.agg cells', ⟨cells', rfl, hrel⟩, ?_⟩
    have hb : P.built ty (ps.map fun x => (x.1, ρ x.2)).toList = some cells' := by
      rw [hd] at hu
      simp only [Program.built, hi, hu, hz, hie, Array.toList_map]
      exact hf
    have := run_build (P := P) w ty (ps.map fun x => (x.1, ρ x.2)) cells' hb
    simp only [execOp, ho, Sem.run_bind, this, Result.andThen_ok, Sem.run_pure]
  | _ => simp only [hd] at e; exact (bad_ok e).elim

/-! ### slices -/

theorem optNat_ok {t : T CV} {x : Option Operand} {k : Option Nat → Res β} {r : β} (e : optNat tab t x k = .ok r) :
    ∃ n, k n = .ok r ∧ ∀ σ ρ, Env tab.ng σ t ρ → (match n with | none => x.map ρ = none | some n => ∃ kd, x.map ρ = some (.int kd (n : Int))) := by
  cases x with
  | none => exact ⟨none, e, fun _ _ _ => rfl⟩
  | some x =>
    obtain ⟨v, e, hv⟩ := evO_ok (show evO x tab t _ = .ok r from e)
    obtain ⟨kd, n, rfl, e⟩ := natOf_ok e
    exact ⟨some n, e, fun σ ρ he => ⟨kd, congrArg some (hv σ ρ he)⟩⟩

theorem run_bound {x : Value} {kd : IntKind} {n y : Nat} (hx : x = .int kd (n : Int)) (h : n ≤ y) (code : BoundsCode) (w : World) : (Instr.sliceBound x y code).run P w = .ok n w := by
  subst hx
  simp [Instr.sliceBound, asIntOf, h]

def boundOK (o : Option Value) (n : Option Nat) : Prop := match n with | none => o = none | some n => ∃ kd, o = some (.int kd (n : Int))

/-- the bounds of a slice: what the model makes of them -/
theorem run_bounds (isSlice : Bool) {len cap : Nat} {vlo vhi vmx : Option Value} {lo hi mx : Option Nat} (hlo : boundOK vlo lo) (hhi : boundOK vhi hi) (hmx : boundOK vmx mx) (w : World)
    (h1 : mx.getD cap ≤ cap) (h2 : hi.getD len ≤ mx.getD cap) (h3 : lo.getD 0 ≤ hi.getD len) (h4 : mx.isSome = true → hi.isSome = true) :
    (Instr.sliceBounds isSlice len cap vlo vhi vmx).run P w = .ok (lo.getD 0, hi.getD len, mx.getD cap) w := by
  cases mx with
  | none =>
    have hmx : vmx = none := hmx
    subst hmx
    cases hi with
    | none =>
      have hhi : vhi = none := hhi
      subst hhi
      cases lo with
      | none => have hlo : vlo = none := hlo; subst hlo; simp [Instr.sliceBounds]
      | some l => obtain ⟨kd, hlo⟩ := hlo; subst hlo; simp only [Option.getD] at h3; simp [Instr.sliceBounds, run_bound rfl h3]
    | some hh =>
      obtain ⟨kh, hhi⟩ := hhi
      subst hhi
      simp only [Option.getD] at h2
      cases lo with
      | none => have hlo : vlo = none := hlo; subst hlo; simp [Instr.sliceBounds, run_bound rfl h2]
      | some l => obtain ⟨kd, hlo⟩ := hlo; subst hlo; simp only [Option.getD] at h3; simp [Instr.sliceBounds, run_bound rfl h2, run_bound rfl h3]
  | some m =>
    obtain ⟨km, hmx⟩ := hmx
    subst hmx
    simp only [Option.getD] at h1
    cases hi with
    | none => exact absurd (h4 rfl) (by simp)
    | some hh =>
      obtain ⟨kh, hhi⟩ := hhi
      subst hhi
      simp only [Option.getD] at h2
      cases lo with
      | none => have hlo : vlo = none := hlo; subst hlo; simp [Instr.sliceBounds, run_bound rfl h1, run_bound rfl h2]
      | some l => obtain ⟨kd, hlo⟩ := hlo; subst hlo; simp only [Option.getD] at h3; simp [Instr.sliceBounds, run_bound rfl h1, run_bound rfl h2, run_bound rfl h3]

theorem leCap_ok {n len c o : Nat} {cap : Cap} {L : Loc} (h : leCap n len cap = true) (hle : len ≤ c) (hc : CapRel L o c cap) : n ≤ c := by
  cases cap with
  | known m => cases hc; exact Nat.le_of_ble_eq_true h
  | opn e => exact Nat.le_trans (Nat.le_of_ble_eq_true h) hle

theorem off_rec (o a m l : Nat) : (Bool.rec (Nat.add o a) o (Nat.beq m l) : Nat) = if m = l then o else o + a := by
  cases h : Nat.beq m l with
  | false => rw [if_neg (fun e => by rw [e, Nat.beq_refl] at h; cases h)]; rfl
  | true => rw [if_pos (Nat.eq_of_beq_eq_true h)]

/-- WHAT A SLICE OF A SLICE COMES TO. -/
theorem sliceOp_ok {esz b o len : Nat} {cap : Cap} {lo hi mx : Option Nat} {k : CV → Res β} {r : β} (e : sliceOp esz b o len cap lo hi mx k = .ok r) :
    ∃ v, k v = .ok r ∧ ∀ (L : Loc) (c : Nat), len ≤ c → CapRel L o c cap →
      mx.getD c ≤ c ∧ hi.getD len ≤ mx.getD c ∧ lo.getD 0 ≤ hi.getD len ∧ (mx.isSome = true → hi.isSome = true) ∧
      ∀ σ : Sg, σ b = some L → VRel σ v (.slice (some (if mx.getD c = lo.getD 0 then ⟨L.blk, L.off + o, none⟩ else ⟨L.blk, L.off + o + lo.getD 0 * esz, none⟩)) (hi.getD len - lo.getD 0) (mx.getD c - lo.getD 0)) := by
  cases mx with
  | none =>
    unfold sliceOp at e
    obtain ⟨h1, e⟩ := grd_ok e
    obtain ⟨h2, e⟩ := grd_ok e
    have h1 := Nat.le_of_ble_eq_true h1
    cases cap with
    | known cc =>
      simp only [natK_eq, off_rec] at e
      refine ⟨_, e, fun L c hle hc => ⟨Nat.le_refl _, leCap_ok h2 hle hc, h1, by simp, fun σ hL => ?_⟩⟩
      have hcc : c = cc := hc
      subst hcc
      have h2' := leCap_ok h2 hle hc
      refine ⟨L, c - lo.getD 0, hL, ?_, ?_, rfl⟩
      · show Value.slice (some (if c = lo.getD 0 then _ else _)) (hi.getD len - lo.getD 0) (c - lo.getD 0) = _
        by_cases hh : c = lo.getD 0
        · rw [if_pos hh, if_pos hh]; rfl
        · rw [if_neg hh, if_neg hh, Nat.add_assoc]; rfl
      · show hi.getD len - lo.getD 0 ≤ c - lo.getD 0
        have h2'' : hi.getD len ≤ c := h2'
        omega
    | opn ee =>
      obtain ⟨h3, e⟩ := grd_ok e
      obtain ⟨h4, e⟩ := grd_ok e
      simp only [natK_eq] at e
      refine ⟨_, e, fun L c hle hc => ⟨Nat.le_refl _, leCap_ok h2 hle hc, h1, by simp, fun σ hL => ?_⟩⟩
      have h2' := leCap_ok h2 hle hc
      have h3 := Nat.eq_of_beq_eq_true h3
      subst h3
      obtain ⟨hpos, hfin⟩ := hc
      have h2'' : hi.getD len ≤ c := h2'
      have hlc : lo.getD 0 ≤ c := Nat.le_trans h1 h2'
      refine ⟨L, c - lo.getD 0, hL, ?_, (by show hi.getD len - lo.getD 0 ≤ c - lo.getD 0; omega), hpos, ?_⟩
      · show Value.slice (some (if c = lo.getD 0 then _ else _)) (hi.getD len - lo.getD 0) (c - lo.getD 0) = _
        have e1 : (if c = lo.getD 0 then (⟨L.blk, L.off + o, none⟩ : Addr) else ⟨L.blk, L.off + o + lo.getD 0 * ee, none⟩) = ⟨L.blk, L.off + o + lo.getD 0 * ee, none⟩ := by
          split
          · rename_i hh
            simp only [Bool.or_eq_true] at h4
            rcases h4 with h4 | h4
            · have := Nat.le_of_ble_eq_true h4; omega
            · have := Nat.eq_of_beq_eq_true h4; rw [this]; simp
          · rfl
        rw [e1, Nat.add_assoc]; rfl
      · have : (c - lo.getD 0) * ee = c * ee - lo.getD 0 * ee := Nat.sub_mul _ _ _
        have hm : lo.getD 0 * ee ≤ c * ee := Nat.mul_le_mul_right _ hlc
        show L.off + (o + lo.getD 0 * ee) + (c - lo.getD 0) * ee = L.fin
        omega
  | some m =>
    cases hi with
    | none => exact (bad_ok e).elim
    | some hh =>
      unfold sliceOp at e
      obtain ⟨h1, e⟩ := grd_ok e
      obtain ⟨h2, e⟩ := grd_ok e
      obtain ⟨h3, e⟩ := grd_ok e
      simp only [natK_eq, off_rec] at e
      have h2 := Nat.le_of_ble_eq_true h2
      have h3 := Nat.le_of_ble_eq_true h3
      refine ⟨_, e, fun L c hle hc => ⟨leCap_ok h1 hle hc, h2, h3, by simp, fun σ hL => ?_⟩⟩
      refine ⟨L, m - lo.getD 0, hL, ?_, (by show hh - lo.getD 0 ≤ m - lo.getD 0; omega), rfl⟩
      show Value.slice (some (if m = lo.getD 0 then _ else _)) (hh - lo.getD 0) (m - lo.getD 0) = _
      by_cases hx : m = lo.getD 0
      · rw [if_pos hx, if_pos hx]; rfl
      · rw [if_neg hx, if_neg hx, Nat.add_assoc]; rfl

theorem sound_slice (TO : TabOK P tab) (ty : TypeId) (x : Operand) (lo hi mx : Option Operand) : SoundP P tab β (.slice ty x lo hi mx) := by
  intro call t h nx k r e
  obtain ⟨ti, hti, e⟩ := tyK_ok (show tyK tab ty _ = .ok r from e)
  have hu := run_under' TO hti
  obtain ⟨v, e, hv⟩ := evO_ok e
  obtain ⟨nlo, e, hlo⟩ := optNat_ok e
  obtain ⟨nhi, e, hhi⟩ := optNat_ok e
  obtain ⟨nmx, e, hmx⟩ := optNat_ok e
  cases hd : ti.u with
  | slice el =>
    simp only [hd] at e
    cases v with
    | slice b o len cap =>
      obtain ⟨te, hte, e⟩ := tyK_ok e
      obtain ⟨c, e, H⟩ := sliceOp_ok e
      refine ⟨c, e, fun σ ρ w oper ho he => ?_⟩
      obtain ⟨L, cc, hL, hx, hle, hc⟩ := hv σ ρ he
      obtain ⟨b1, b2, b3, b4, hval⟩ := H L cc hle hc
      have hb := run_bounds (P := P) true (len := len) (cap := cc) (vlo := lo.map ρ) (vhi := hi.map ρ) (vmx := mx.map ρ) (hlo σ ρ he) (hhi σ ρ he) (hmx σ ρ he) w b1 b2 b3 b4
      refine ⟨_, hval σ hL, ?_⟩
      simp [execOp, ho, Instr.sliceAt, hu, hd, hx, Instr.slice, hb, run_sizeOf' TO hte, Addr.add_at]
      split <;> simp
    | nilslice =>
      obtain ⟨te, hs, e⟩ := tyK_ok e
      obtain ⟨h1, e⟩ := grd_ok e
      obtain ⟨h2, e⟩ := grd_ok e
      obtain ⟨h3, e⟩ := grd_ok e
      obtain ⟨h4, e⟩ := grd_ok e
      refine ⟨_, e, fun σ ρ w oper ho he => ⟨_, rfl, ?_⟩⟩
      have hx : ρ x = .slice none 0 0 := hv σ ρ he
      have h1 := Nat.eq_of_beq_eq_true h1
      have h2 := Nat.eq_of_beq_eq_true h2
      have h3 := Nat.eq_of_beq_eq_true h3
      have hb := run_bounds (P := P) true (len := 0) (cap := 0) (vlo := lo.map ρ) (vhi := hi.map ρ) (vmx := mx.map ρ) (hlo σ ρ he) (hhi σ ρ he) (hmx σ ρ he) w (by omega) (by omega) (by omega)
        (fun hm => by cases nmx with | none => simp at hm | some m => simpa using h4)
      rw [h1, h2, h3] at hb
      simp [execOp, ho, Instr.sliceAt, hu, hd, hx, Instr.slice, hb, run_sizeOf' TO hs]
    | _ => exact (bad_ok e).elim
  | array len el =>
    simp only [hd] at e
    cases v with
    | ptr b o =>
      obtain ⟨te, hte, e⟩ := tyK_ok e
      obtain ⟨c, e, H⟩ := sliceOp_ok e
      refine ⟨c, e, fun σ ρ w oper ho he => ?_⟩
      obtain ⟨L, hL, hx⟩ := hv σ ρ he
      obtain ⟨b1, b2, b3, b4, hval⟩ := H L len (Nat.le_refl _) rfl
      have hb := run_bounds (P := P) false (len := len) (cap := len) (vlo := lo.map ρ) (vhi := hi.map ρ) (vmx := mx.map ρ) (hlo σ ρ he) (hhi σ ρ he) (hmx σ ρ he) w b1 b2 b3 b4
      refine ⟨_, hval σ hL, ?_⟩
      simp [execOp, ho, Instr.sliceAt, hu, hd, hx, Instr.sureAddr, hb, run_sizeOf' TO hte, Addr.add_at]
    | _ => exact (bad_ok e).elim
  | _ => cases v <;> (rw [hd] at e; exact (bad_ok e).elim)
end
end Go.Can
namespace Go.Can
variable {β : Type}
section
variable {P : Program} {tab : Tab}

/-! ### maps keyed by numbers -/

theorem keyEq_ok {key a : CV} {q : Bool} (h : keyEq key a = some q) : ∃ k m n, key = .int k m ∧ a = .int k n ∧ q = (m == n) := by
  cases key with
  | int k m => cases a with
    | int k' n =>
      simp only [keyEq] at h
      cases hk : kEq k k' with
      | false => simp [hk] at h
      | true => simp only [hk] at h; cases kEq_ok hk; cases h; exact ⟨k, m, n, rfl, rfl, eqN_eq _ _⟩
    | _ => simp [keyEq] at h
  | _ => simp [keyEq] at h

theorem findNow_step {qk : IntKind} {k : IntKind} {m n : Int} {e : MapEntry} (he : e.key = .int k n) (es : List MapEntry) (i : Nat) :
    Instr.findNow (.int qk) (.int k m) (e :: es) i = if m == n then some (some (i, e.val)) else Instr.findNow (.int qk) (.int k m) es (i + 1) := by
  simp only [Instr.findNow, he, Instr.sameNow, if_true]
  cases m == n <;> rfl

theorem findMap_ok {σ : Sg} {qk : IntKind} {key : CV} {kv : Value} (hk : VRel σ key kv) : ∀ {es : List (CV × CV)} {l : List MapEntry} {r : Option CV} (i : Nat), findMap key es = some r → MRel σ es l →
    ∃ r', Instr.findNow (.int qk) kv l i = some r' ∧ (r = none → r' = none) ∧ (∀ v, r = some v → ∃ j v', r' = some (j, v') ∧ VRel σ v v')
  | [], l, r, i, h, hm => by cases hm; simp [findMap] at h; subst h; exact ⟨none, rfl, fun _ => rfl, fun v h => by cases h⟩
  | (a, v) :: es, l, r, i, h, ⟨e, l', hl, ha, hb, hm⟩ => by
    subst hl
    simp only [findMap] at h
    cases hq : keyEq key a with
    | none => simp [hq] at h
    | some q =>
      obtain ⟨k, m, n, rfl, rfl, hqe⟩ := keyEq_ok hq
      have hkv : kv = .int k m := hk
      have hke : e.key = .int k n := ha
      subst hkv
      rw [findNow_step hke]
      cases q with
      | true =>
        simp only [hq] at h; cases h
        rw [if_pos hqe.symm]
        exact ⟨_, rfl, (fun h => by cases h), fun v' h => by cases h; exact ⟨_, _, rfl, hb⟩⟩
      | false =>
        simp only [hq] at h
        rw [if_neg (by rw [← hqe]; simp)]
        exact findMap_ok hk (i + 1) h hm

theorem checkKey_int' (d : Nat) {kt : TypeId} {qk : IntKind} (hu : P.underlying kt = some (.int qk)) (e : Bool) (w : World) (k : IntKind) (n : Int) : (Instr.checkKey e (d + 1) kt (.int k n)).run P w = .ok () w := by
  simp [Instr.checkKey, run_underlying hu]
theorem checkKey_int {kt : TypeId} {qk : IntKind} (hu : P.underlying kt = some (.int qk)) (e : Bool) (v : Value) (w : World) (k : IntKind) (n : Int) (hv : v = .int k n) : (Instr.checkKey e 10000 kt v).run P w = .ok () w := by
  subst hv; exact checkKey_int' 9999 hu e w k n
theorem run_findKey {kt : TypeId} {qk : IntKind} (hu : P.underlying kt = some (.int qk)) {kv : Value} {l : List MapEntry} {r : Option (Nat × Value)} (h : Instr.findNow (.int qk) kv l 0 = some r) (w : World) :
    (Instr.findKey kt kv l).run P w = .ok r w := by
  simp [Instr.findKey, run_underlying hu, h]

theorem isIntT_ok {d : TypeDesc} (h : isIntT d = true) : ∃ q, d = .int q := by cases d <;> simp [isIntT] at h; exact ⟨_, rfl⟩

theorem findMap_int {key : CV} {es : List (CV × CV)} {r : Option CV} (h : findMap key es = some r) : es = [] ∨ ∃ k n, key = .int k n := by
  cases es with
  | nil => exact .inl rfl
  | cons x es =>
    obtain ⟨a, v⟩ := x
    simp only [findMap] at h
    cases hq : keyEq key a with
    | none => simp [hq] at h
    | some q => obtain ⟨k, m, n, rfl, _⟩ := keyEq_ok hq; exact .inr ⟨k, m, rfl⟩

theorem run_getMap {r : Nat} {arr : Array MapEntry} {clock : Nat} {w : World} (h : w.heap[r]? = some (.map arr clock)) : (getObj r).run P w = .ok (.map arr clock) w := by
  simp [getObj, Sem.run, h]
theorem run_setMap {r : Nat} {arr : Array MapEntry} {clock : Nat} {w : World} (h : w.heap[r]? = some (.map arr clock)) (o : Obj) : (setObj r o).run P w = .ok () { w with heap := w.heap.setIfInBounds r o } := by
  simp [setObj, Sem.run, h]

theorem sound_lookup (TO : TabOK P tab) (ty : TypeId) (m i : Operand) (ok : Bool) : SoundR P tab β (.lookup ty m i ok) := by
  intro call t h nx k r e
  obtain ⟨ti, hti, e⟩ := tyK_ok (show tyK tab ty _ = .ok r from e)
  have hu := run_under' TO hti
  cases hd : ti.u with
  | map kt el =>
    simp only [hd] at e
    obtain ⟨tk, htk, e⟩ := tyK_ok e
    obtain ⟨hint, e⟩ := grd_ok e
    obtain ⟨qk, hqk⟩ := isIntT_ok hint
    have huk : P.underlying kt = some (.int qk) := by rw [← hqk]; exact (TO.types kt tk htk).1
    obtain ⟨mv, e, hm⟩ := evO_ok e
    obtain ⟨iv, e, hi⟩ := evO_ok e
    obtain ⟨hiv, e⟩ := grd_ok e
    obtain ⟨te, hte, e⟩ := tyK_ok e
    obtain ⟨z, _, hz, hzr⟩ := run_zero' TO hte
    obtain ⟨ki, ni, hiv⟩ : ∃ ki ni, iv = .int ki ni := by
      cases iv with
      | int ki ni => exact ⟨ki, ni, rfl⟩
      | _ => exact absurd hiv (by simp [isIntV])
    subst hiv
    cases mv with
    | nilmap =>
      have hx : ∀ {σ ρ}, Env tab.ng σ t ρ → ρ m = .map none := fun he => hm _ _ he
      have hy : ∀ {σ ρ}, Env tab.ng σ t ρ → ρ i = .int ki ni := fun he => hi _ _ he
      cases ok with
      | true =>
        refine ⟨_, e, fun σ ρ w mm oper ho he hr => ⟨.tuple #[z, .bool false], ⟨_, rfl, _, _, rfl, hz σ, _, _, rfl, rfl, rfl⟩, ?_⟩⟩
        simp [execOp, ho, Instr.lookup, hu, hd, hx he, checkKey_int huk _ _ w ki ni (hy he), run_findKey huk (show Instr.findNow (.int qk) (ρ i) [] 0 = some none from rfl), hzr]
      | false =>
        refine ⟨_, e, fun σ ρ w mm oper ho he hr => ⟨z, hz σ, ?_⟩⟩
        simp [execOp, ho, Instr.lookup, hu, hd, hx he, checkKey_int huk _ _ w ki ni (hy he), run_findKey huk (show Instr.findNow (.int qk) (ρ i) [] 0 = some none from rfl), hzr]
    | mapv b =>
      obtain ⟨es, hb, e⟩ := mapK_ok e
      obtain ⟨q, hq, e⟩ := optK_ok e
      have hy : ∀ {σ ρ}, Env tab.ng σ t ρ → ρ i = .int ki ni := fun he => hi _ _ he
      have H : ∀ {σ ρ w mm}, Env tab.ng σ t ρ → HPart tab.ng σ h mm w → ∃ (L : Loc) (arr : Array MapEntry) (clock : Nat) (r' : Option (Nat × Value)), ρ m = .map (some L.blk) ∧ w.heap[L.blk]? = some (.map arr clock) ∧
          Instr.findNow (.int qk) (ρ i) arr.toList 0 = some r' ∧ (q = none → r' = none) ∧ (∀ v, q = some v → ∃ j v', r' = some (j, v') ∧ VRel σ v v') := by
        intro σ ρ w mm he hr
        obtain ⟨L, hL, hx⟩ := hm σ ρ he
        obtain ⟨arr, clock, h1, h2⟩ := hr.blk b L _ hL hb
        obtain ⟨r', h3, h4, h5⟩ := findMap_ok (hi σ ρ he) (qk := qk) 0 hq h2
        exact ⟨L, arr, clock, r', hx, h1, h3, h4, h5⟩
      cases q with
      | none =>
        cases ok with
        | true =>
          refine ⟨_, e, fun σ ρ w mm oper ho he hr => ⟨.tuple #[z, .bool false], ⟨_, rfl, _, _, rfl, hz σ, _, _, rfl, rfl, rfl⟩, ?_⟩⟩
          obtain ⟨L, arr, clock, r', h1, h2, h3, h4, _⟩ := H he hr
          cases h4 rfl
          simp [execOp, ho, Instr.lookup, hu, hd, h1, run_getMap h2, checkKey_int huk _ _ w ki ni (hy he), run_findKey huk h3, hzr]
        | false =>
          refine ⟨_, e, fun σ ρ w mm oper ho he hr => ⟨z, hz σ, ?_⟩⟩
          obtain ⟨L, arr, clock, r', h1, h2, h3, h4, _⟩ := H he hr
          cases h4 rfl
          simp [execOp, ho, Instr.lookup, hu, hd, h1, run_getMap h2, checkKey_int huk _ _ w ki ni (hy he), run_findKey huk h3, hzr]
      | some v =>
        cases ok with
        | true =>
          refine ⟨_, e, fun σ ρ w mm oper ho he hr => ?_⟩
          obtain ⟨L, arr, clock, r', h1, h2, h3, _, h5⟩ := H he hr
          obtain ⟨j, v', rfl, hv⟩ := h5 v rfl
          refine ⟨.tuple #[v', .bool true], ⟨_, rfl, _, _, rfl, hv, _, _, rfl, rfl, rfl⟩, ?_⟩
          simp [execOp, ho, Instr.lookup, hu, hd, h1, run_getMap h2, checkKey_int huk _ _ w ki ni (hy he), run_findKey huk h3]
        | false =>
          refine ⟨_, e, fun σ ρ w mm oper ho he hr => ?_⟩
          obtain ⟨L, arr, clock, r', h1, h2, h3, _, h5⟩ := H he hr
          obtain ⟨j, v', rfl, hv⟩ := h5 v rfl
          refine ⟨v', hv, ?_⟩
          simp [execOp, ho, Instr.lookup, hu, hd, h1, run_getMap h2, checkKey_int huk _ _ w ki ni (hy he), run_findKey huk h3]
    | _ => exact (bad_ok e).elim
  | _ => simp only [hd] at e; exact (bad_ok e).elim

/-! ### len, max, min -/

def NoneCall (o : Op) : Prop := True

theorem sound_len (TO : TabOK P tab) (args : Array Operand) (tys : Array TypeId) : SoundR P tab β (.call { callee := .builtin .len, args, argTypes := tys }) := by
  intro call t h nx k r e
  obtain ⟨vs, e, hvs⟩ := evOs_ok (show evOs args.toList tab t _ = .ok r from e)
  have e : opBuiltin .len tys.toList vs tab h nx k = .ok r := e
  cases htl : tys.toList with
  | nil => rw [htl] at e; exact (bad_ok e).elim
  | cons ty tl =>
    rw [htl] at e
    have hty : tys[0]? = some ty := by rw [← Array.getElem?_toList, htl]; rfl
    obtain ⟨ti, hti, e⟩ := tyK_ok (show tyK tab ty _ = .ok r from e)
    have hu := run_under' TO hti
    cases vs with
    | nil => exact (bad_ok e).elim
    | cons x xs =>
      cases xs with
      | cons y ys => exact (bad_ok e).elim
      | nil =>
        have hx : ∀ {σ ρ}, Env tab.ng σ t ρ → ∃ v, (args.map ρ) = #[v] ∧ VRel σ x v := by
          intro σ ρ he
          obtain ⟨v, vs, h1, h2, h3⟩ := hvs σ ρ he
          cases h3
          exact ⟨v, by apply Array.ext'; simpa using h1, h2⟩
        cases hd : ti.u with
        | slice el =>
          rw [hd] at e
          cases x with
          | slice b o len cap =>
            refine ⟨_, e, fun σ ρ w mm oper ho he hr => ?_⟩
            obtain ⟨v, h1, L, c, hL, rfl, _⟩ := hx he
            refine ⟨_, rfl, ?_⟩
            simp [execOp, ho, resolve, invoke, builtin, h1, Builtin.len_, hty, hu, hd, goInt]
          | nilslice =>
            refine ⟨_, e, fun σ ρ w mm oper ho he hr => ?_⟩
            obtain ⟨v, h1, h2⟩ := hx he
            cases h2
            refine ⟨_, rfl, ?_⟩
            simp [execOp, ho, resolve, invoke, builtin, h1, Builtin.len_, hty, hu, hd, goInt]
          | _ => exact (bad_ok e).elim
        | map kt el =>
          rw [hd] at e
          cases x with
          | mapv b =>
            obtain ⟨es, hb, e⟩ := mapK_ok e
            rw [natK_eq] at e
            refine ⟨_, e, fun σ ρ w mm oper ho he hr => ?_⟩
            obtain ⟨v, h1, L, hL, rfl⟩ := hx he
            obtain ⟨arr, clock, h2, h3⟩ := hr.blk b L _ hL hb
            have hlen : ∀ {es : List (CV × CV)} {l : List MapEntry}, MRel σ es l → l.length = es.length := by
              intro es
              induction es with
              | nil => intro l h; cases h; rfl
              | cons p es ih => obtain ⟨a, b⟩ := p; rintro l ⟨e, l', rfl, _, _, h⟩; simp [ih h]
            have := hlen h3
            refine ⟨_, rfl, ?_⟩
            simp [execOp, ho, resolve, invoke, builtin, h1, Builtin.len_, hty, hu, hd, goInt, run_getMap h2]
            have this' : arr.size = es.length := by simpa using this
            rw [this']
          | nilmap =>
            refine ⟨_, e, fun σ ρ w mm oper ho he hr => ?_⟩
            obtain ⟨v, h1, h2⟩ := hx he
            cases h2
            refine ⟨_, rfl, ?_⟩
            simp [execOp, ho, resolve, invoke, builtin, h1, Builtin.len_, hty, hu, hd, goInt]
          | _ => exact (bad_ok e).elim
        | _ => rw [hd] at e; cases x <;> exact (bad_ok e).elim

theorem two_args {args : Array Operand} {ρ : Operand → Value} {σ : Sg} {x y : CV} (h : VRels σ [x, y] (args.toList.map ρ)) : ∃ v u, args.map ρ = #[v, u] ∧ VRel σ x v ∧ VRel σ y u := by
  obtain ⟨v, vs, h1, h2, u, us, h3, h4, h5⟩ := h
  cases h5; subst h3
  exact ⟨v, u, by apply Array.ext'; simpa using h1, h2, h4⟩

theorem sound_max (args : Array Operand) (tys : Array TypeId) : SoundP P tab β (.call { callee := .builtin .max, args, argTypes := tys }) := by
  intro call t h nx k r e
  obtain ⟨vs, e, hvs⟩ := evOs_ok (show evOs args.toList tab t _ = .ok r from e)
  have e : opMax vs (fun v => k v h nx) = .ok r := e
  unfold opMax at e
  split at e
  · rw [intK_eq] at e
    refine ⟨_, e, fun σ ρ w oper ho he => ⟨_, rfl, ?_⟩⟩
    obtain ⟨v, u, h1, h2, h3⟩ := two_args (hvs σ ρ he)
    cases h2; cases h3
    simp [execOp, ho, resolve, invoke, builtin, h1, Builtin.max_, Builtin.max2]
  · exact (bad_ok e).elim
theorem sound_min (args : Array Operand) (tys : Array TypeId) : SoundP P tab β (.call { callee := .builtin .min, args, argTypes := tys }) := by
  intro call t h nx k r e
  obtain ⟨vs, e, hvs⟩ := evOs_ok (show evOs args.toList tab t _ = .ok r from e)
  have e : opMin vs (fun v => k v h nx) = .ok r := e
  unfold opMin at e
  split at e
  · rw [intK_eq] at e
    refine ⟨_, e, fun σ ρ w oper ho he => ⟨_, rfl, ?_⟩⟩
    obtain ⟨v, u, h1, h2, h3⟩ := two_args (hvs σ ρ he)
    cases h2; cases h3
    simp [execOp, ho, resolve, invoke, builtin, h1, Builtin.min_, Builtin.min2]
  · exact (bad_ok e).elim

/-! ### operations that make a block -/

theorem alloc_at (w : World) (o : Obj) : (w.alloc o).heap[w.heap.size]? = some o := by
  show (w.heap.push o)[w.heap.size]? = _
  simp

theorem cells_new {σ τ : Sg} {c : CV} {v : Value} {cs : T CV} (hle : σ.le τ) (hv : VRel σ c v) (hg : ∀ i, cs.get i = c.cells[i]?) (w : World) (e : TypeId) :
    BRel τ ⟨w.heap.size, 0, v.cells.size⟩ (w.alloc (.cells v.cells e)) (.cells c.cells.length cs true) := by
  have hl : v.cells.size = c.cells.length := by have := hv.cells.length; simpa using this
  refine ⟨v.cells, e, (0, 0), alloc_at _ _, by simp [hl], Nat.le_refl _, fun _ => rfl, fun i x hi => ?_⟩
  rw [hg i] at hi
  obtain ⟨u, hu, hr⟩ := hv.cells.get hi
  exact ⟨(List.getElem?_eq_some_iff.1 hi).1, u, by simpa using hu, hr.mono hle⟩

theorem sound_alloc (TO : TabOK P tab) (el : TypeId) : SoundAl P tab β (.alloc el) := by
  intro call t h nx k r e
  obtain ⟨ti, hti, e⟩ := tyK_ok (show tyK tab el _ = .ok r from e)
  obtain ⟨cs, hg, e⟩ := newCells_ok e
  obtain ⟨z, _, hz, hzr⟩ := run_zero' TO hti
  refine ⟨_, _, rfl, e, fun σ ρ w oper ho he => ?_⟩
  refine ⟨.pointer (some ⟨w.heap.size, 0, none⟩), .cells z.cells el, z.cells.size, ?_, fun τ hle hτ => ⟨⟨_, hτ, rfl⟩, cells_new hle (hz σ) hg w el⟩⟩
  simp [execOp, ho, Instr.alloc, hzr, newVar, newRow]

theorem sound_box (ty : TypeId) (x : Operand) : SoundAl P tab β (.box ty x) := by
  intro call t h nx k r e
  obtain ⟨v, e, hv⟩ := evO_ok (show evO x tab t _ = .ok r from e)
  obtain ⟨cs, hg, e⟩ := newCells_ok e
  refine ⟨_, _, rfl, e, fun σ ρ w oper ho he => ?_⟩
  refine ⟨.pointer (some ⟨w.heap.size, 0, none⟩), .cells (ρ x).cells ty, (ρ x).cells.size, ?_, fun τ hle hτ => ⟨⟨_, hτ, rfl⟩, cells_new hle (hv σ ρ he) hg w ty⟩⟩
  simp [execOp, ho, Instr.box, newVar, newRow]

theorem rows_new {σ τ : Sg} {l : List CV} {arr : Array Value} {cs : T CV} (hle : σ.le τ) (hv : VRels σ l arr.toList) (hg : ∀ i, cs.get i = l[i]?) (w : World) (e : TypeId) :
    BRel τ ⟨w.heap.size, 0, arr.size⟩ (w.alloc (.cells arr e)) (.cells l.length cs true) := by
  have hl : arr.size = l.length := by have := hv.length; simpa using this
  refine ⟨arr, e, (0, 0), alloc_at _ _, by simp [hl], Nat.le_refl _, fun _ => rfl, fun i x hi => ?_⟩
  rw [hg i] at hi
  obtain ⟨u, hu, hr⟩ := hv.get hi
  exact ⟨(List.getElem?_eq_some_iff.1 hi).1, u, by simpa using hu, hr.mono hle⟩

theorem repL_rel {σ : Sg} {z : List CV} {zs : Array Value} (hz : VRels σ z zs.toList) : ∀ (n : Nat), VRels σ (repL z n) ((Array.range (n * zs.size)).map fun i => zs[i % zs.size]!).toList := by
  intro n
  have hl : zs.size = z.length := by have := hz.length; simpa using this
  have hlen : ∀ n, (repL z n).length = n * z.length := by
    intro n
    induction n with
    | zero => simp; rfl
    | succ n ih => show (z ++ repL z n).length = _; rw [List.length_append, ih, Nat.succ_mul]; omega
  have hget : ∀ n i, i < n * z.length → (repL z n)[i]? = z[i % z.length]? := by
    intro n
    induction n with
    | zero => intro i hi; simp at hi
    | succ n ih =>
      intro i hi
      show (z ++ repL z n)[i]? = _
      by_cases hlt : i < z.length
      · rw [List.getElem?_append_left hlt, Nat.mod_eq_of_lt hlt]
      · rw [List.getElem?_append_right (by omega), ih (i - z.length) (by rw [Nat.succ_mul] at hi; omega)]
        have : i % z.length = (i - z.length) % z.length := Nat.mod_eq_sub_mod (by omega)
        rw [this]
  refine VRels.of_get (by simp [hlen, hl]) fun i c hi => ?_
  have hil : i < n * z.length := by have := (List.getElem?_eq_some_iff.1 hi).1; rw [hlen] at this; exact this
  rw [hget n i hil] at hi
  obtain ⟨v, hv, hr⟩ := hz.get hi
  refine ⟨v, ?_, hr⟩
  have hz0 : 0 < zs.size := by
    rw [hl]
    rcases Nat.eq_zero_or_pos z.length with h0 | h0
    · rw [h0] at hil; simp at hil
    · exact h0
  have hv' : zs[i % zs.size]? = some v := by rw [hl]; simpa using hv
  have hil' : i < n * zs.size := by rw [hl]; exact hil
  simp [hil', getElem!_def, hv']

theorem sound_makeMap (ty : TypeId) (rsv : Option Operand) : SoundAl P tab β (.makeMap ty rsv) := by
  intro call t h nx k r e
  cases rsv with
  | some x => exact (bad_ok e).elim
  | none =>
    have e : newBlk (.map []) h nx (fun b h nx => k (.mapv b) h nx) = .ok r := e
    rw [newBlk_eq] at e
    refine ⟨_, _, rfl, e, fun σ ρ w oper ho he => ⟨.map (some w.heap.size), .map #[] 0, 0, ?_, fun τ hle hτ => ⟨⟨_, hτ, rfl⟩, #[], 0, alloc_at _ _, rfl⟩⟩⟩
    simp [execOp, ho, Instr.makeMap]

theorem range0 {α : Type} (f : Nat → α) : (Array.range 0).map f = #[] := by apply Array.ext'; simp

theorem sound_buildSlice (TO : TabOK P tab) (ty : TypeId) (len : Nat) (ps : Array (Nat × Operand)) : SoundAl P tab β (.buildSlice ty len ps) := by
  intro call t h nx k r e
  obtain ⟨ti, hti, e⟩ := tyK_ok (show tyK tab ty _ = .ok r from e)
  have hu := run_under' TO hti
  cases hd : ti.u with
  | slice el =>
    simp only [hd] at e
    obtain ⟨te, hte, e⟩ := tyK_ok e
    obtain ⟨hle, e⟩ := grd_ok e
    obtain ⟨z, hzs, hz, hzr⟩ := run_zero' TO hte
    obtain ⟨cs', e, hl, H⟩ := fillParts_ok (place := fun i => some (i * te.size, te.size)) (fun i k r h => by rw [natK_eq] at h; exact ⟨_, _, h, rfl⟩) ps.toList e
    obtain ⟨cs, hg, e⟩ := newCells_ok e
    refine ⟨_, _, rfl, e, fun σ ρ w oper ho he => ?_⟩
    have hle : len * te.size ≤ 16777216 := Nat.le_of_ble_eq_true hle
    have hrep := repL_rel (hz σ).cells len
    rw [hzs] at hrep
    obtain ⟨cells', hf, hrel⟩ := H σ ρ he _ hrep
    refine ⟨.slice (some ⟨w.heap.size, 0, none⟩) len len, .cells cells' el, cells'.size, ?_, fun τ hle' hτ => ⟨⟨_, len, hτ, rfl, Nat.le_refl _, rfl⟩, rows_new hle' hrel hg w el⟩⟩
    have hz0 : z.cells.size = te.size := hzs
    have hgt : ¬ 16777216 < len * te.size := by omega
    have hif : (if len * te.size = 0 then (Array.range (len * te.size)).map (fun _ => (default : Value)) else (Array.range (len * te.size)).map fun i => z.cells[i % te.size]!) = (Array.range (len * te.size)).map fun i => z.cells[i % te.size]! := by
      split
      · rename_i h0; rw [h0, range0, range0]
      · rfl
    by_cases h0 : len * te.size = 0
    · have hf0 : Instr.fill (fun i => some (i * te.size, te.size)) ((Array.range (len * te.size)).map (fun _ => (default : Value))) (ps.toList.map fun x => (x.1, ρ x.2)) = some cells' := by
        rw [← hf]; congr 1; rw [h0, range0, range0]
      rw [h0, range0] at hf0
      simp [range0, execOp, ho, Instr.buildSlice, hu, hd, run_sizeOf' TO hte, hf0, newRow, h0, hzr, hgt]
    · simp [range0, execOp, ho, Instr.buildSlice, hu, hd, run_sizeOf' TO hte, h0, hgt, hzr, hz0, hf, newRow]
  | _ => simp only [hd] at e; exact (bad_ok e).elim

theorem sound_makeSlice (TO : TabOK P tab) (ty : TypeId) (l c : Operand) : SoundAl P tab β (.makeSlice ty l c) := by
  intro call t h nx k r e
  obtain ⟨ti, hti, e⟩ := tyK_ok (show tyK tab ty _ = .ok r from e)
  have hu := run_under' TO hti
  cases hd : ti.u with
  | slice el =>
    simp only [hd] at e
    obtain ⟨te, hte, e⟩ := tyK_ok e
    obtain ⟨lv, e, hlv⟩ := evO_ok e
    obtain ⟨kl, nl, rfl, e⟩ := natOf_ok e
    obtain ⟨cv, e, hcv⟩ := evO_ok e
    obtain ⟨kc, nc, rfl, e⟩ := natOf_ok e
    obtain ⟨h1, e⟩ := grd_ok e
    obtain ⟨h2, e⟩ := grd_ok e
    obtain ⟨h3, e⟩ := grd_ok e
    have h1 := Nat.le_of_ble_eq_true h1
    have h2 := Nat.le_of_ble_eq_true h2
    have h3 := Nat.le_of_ble_eq_true h3
    obtain ⟨z, hzs, hz, hzr⟩ := run_zero' TO hte
    obtain ⟨cs, hg, e⟩ := newCells_ok e
    obtain ⟨_, i, hi, _, hby, _⟩ := TO.types el te hte
    refine ⟨_, _, rfl, e, fun σ ρ w oper ho he => ?_⟩
    have hx : ρ l = .int kl (nl : Int) := hlv σ ρ he
    have hy : ρ c = .int kc (nc : Int) := hcv σ ρ he
    have hrep := repL_rel (hz σ).cells nc
    rw [hzs] at hrep
    refine ⟨.slice (some ⟨w.heap.size, 0, none⟩) nl nc, .cells ((Array.range (nc * te.size)).map fun i => z.cells[i % te.size]!) el, _, ?_, fun τ hle' hτ => ⟨⟨_, nc, hτ, rfl, h1, rfl⟩, rows_new hle' hrep hg w el⟩⟩
    have hwl : IntKind.i64.wrap (nl : Int) = nl := wrap_small .i64 nl (by simp only [bnd]; omega)
    have hwc : IntKind.i64.wrap (nc : Int) = nc := wrap_small .i64 nc (by simp only [bnd]; omega)
    have hbytes : ¬ ((281474976710656 : Int) < (te.bytes : Int) * (nc : Int)) := by
      have h' : ((te.bytes * nc : Nat) : Int) ≤ ((65536 * 65536 : Nat) : Int) := Int.ofNat_le.2 (Nat.mul_le_mul h3 h2)
      rw [Int.natCast_mul] at h'
      omega
    have hn0 : ¬ ((nc : Int) < 0) := by omega
    have hl0 : ¬ ((nl : Int) < 0) := by omega
    have hlc : ¬ ((nc : Int) < (nl : Int)) := by omega
    by_cases h0 : nc * te.size = 0
    · simp [range0, execOp, ho, Instr.makeSlice, hu, hd, hx, hy, asInt, asIntOf, typeInfo, hi, hby, hwl, hwc, hbytes, hn0, hl0, hlc, run_sizeOf' TO hte, h0, newRow]
    · simp [range0, execOp, ho, Instr.makeSlice, hu, hd, hx, hy, asInt, asIntOf, typeInfo, hi, hby, hwl, hwc, hbytes, hn0, hl0, hlc, run_sizeOf' TO hte, h0, hzr, hzs, newRow]
  | _ => simp only [hd] at e; exact (bad_ok e).elim
end
end Go.Can
namespace Go.Can
variable {β : Type}
section
variable {P : Program} {tab : Tab}

theorem VRels.mem {σ : Sg} {cs : List CV} {l : List Value} (h : VRels σ cs l) {v : Value} (hv : v ∈ l) : ∃ c ∈ cs, VRel σ c v := by
  obtain ⟨i, hi⟩ := List.getElem?_of_mem hv
  have hlen := h.length
  have hil : i < cs.length := by have := (List.getElem?_eq_some_iff.1 hi).1; omega
  obtain ⟨v', h1, h2⟩ := h.get (List.getElem?_eq_getElem hil)
  rw [hi] at h1; cases h1
  exact ⟨_, List.getElem_mem hil, h2⟩

/-- a store of cells -/
theorem put_ok {l : List CV} {h : T Blk} {b o : Nat} {k : T Blk → Res β} {r : β} (e : putCells l h b o k = .ok r) :
    ∃ h', k h' = .ok r ∧ (∀ c, c ≠ b → h'.get c = h.get c) ∧ ∀ (G : Nat) (σ : Sg) (nx : Nat) (w : World) (L : Loc) (vs : List Value), HRel G σ h nx w → σ b = some L → VRels σ l vs →
      ∃ w', (storeCells ⟨L.blk, L.off + o, none⟩ vs).run P w = .ok () w' ∧ HRel G σ h' nx w' ∧ Step σ h w σ h' w' := by
  obtain ⟨n, cs, cs', hb, hle, h1, hg, e⟩ := putCells_ok e
  refine ⟨_, e, fun c hc => by rw [T.get_set, if_neg hc], fun G σ nx w L vs hr hL hvs => ?_⟩
  obtain ⟨arr, el, fz, g1, g2, g3, g4, g5⟩ := hr.blk b L _ hL hb
  have hfz := g4 rfl
  subst hfz
  have hlen : vs.length = l.length := hvs.length
  have hone : ∀ v ∈ vs, v.oneCell' = true := fun v hv => by
    obtain ⟨c, hc, hrel⟩ := hvs.mem hv
    exact hrel.oneCell (h1 c hc)
  have hst := run_storeCells_at P L.blk (L.off + o) el vs 0 arr w g1 (by omega) hone
  refine ⟨_, hst, ?_⟩
  simp only [Nat.add_zero]
  refine hr.put hL hb rfl rfl (by simp) (fun x hx => setRow_other _ _ _ _ hx) ?_ (by simp) (by simp) (by simp)
  refine ⟨_, el, (0, 0), setRow_heap w L.blk arr _ el _ g1, g2, ?_, fun _ => rfl, fun i c hi => ?_⟩
  · simp only [List.size_toArray, List.length_append, List.length_take, List.length_drop, Array.length_toList]
    omega
  · rw [hg i] at hi
    have e3 : L.off + o + vs.length = L.off + (o + l.length) := by omega
    by_cases hin : o ≤ i ∧ i < o + l.length
    · rw [if_pos hin] at hi
      obtain ⟨v, hv, hrel⟩ := hvs.get hi
      refine ⟨by omega, v, ?_, hrel⟩
      rw [List.getElem?_toArray, List.append_assoc, List.getElem?_append_right (by simp; omega), List.getElem?_append_left (by simp; omega)]
      rw [← hv]; congr 1; simp; omega
    · rw [if_neg hin] at hi
      obtain ⟨hin', v, hv, hrel⟩ := g5 i c hi
      refine ⟨hin', v, ?_, hrel⟩
      rw [List.getElem?_toArray]
      by_cases hlt : i < o
      · rw [List.append_assoc, List.getElem?_append_left (by simp; omega), List.getElem?_take, if_pos (by omega)]
        simpa using hv
      · rw [List.getElem?_append_right (by simp; omega), List.getElem?_drop]
        have : L.off + o + vs.length + (L.off + i - ((List.take (L.off + o) arr.toList ++ vs).length)) = L.off + i := by
          simp; omega
        rw [this]; simpa using hv

theorem sound_store (TO : TabOK P tab) (ty : TypeId) (a x : Operand) (call : CallT β) : SoundW P tab (.store ty a x) call := by
  intro t h nx k r e
  obtain ⟨av, e, ha⟩ := evO_ok (show evO a tab t _ = .ok r from e)
  cases av with
  | ptr b o =>
    obtain ⟨xv, e, hx⟩ := evO_ok e
    obtain ⟨ti, hti, e⟩ := tyK_ok e
    obtain ⟨hsz, e⟩ := grd_ok e
    obtain ⟨h', e, _, hp⟩ := put_ok (P := P) e
    refine ⟨_, h', nx, e, Nat.le_refl _, fun σ ρ w oper ho he hr => ?_⟩
    obtain ⟨L, hL, hav⟩ := ha σ ρ he
    have hxv := (hx σ ρ he).cells
    obtain ⟨w', hst, hr', hstep⟩ := hp tab.ng σ nx w L _ hr hL hxv
    have hs : (ρ x).cells.size = ti.size := by
      have h1 := hxv.length
      rw [lenN_eq] at hsz
      have h2 := Nat.eq_of_beq_eq_true hsz
      simp at h1; omega
    have : (execOp ρ oper).run P w = .ok .skip w' := by
      simp [execOp, ho, Instr.storeAt, hav, Instr.sureAddr, storeVar, run_sizeOf' TO hti, hs, hst]
    rw [this]
    exact Good.skip ⟨σ, ⟨#[], rfl, rfl⟩, hr', hstep⟩
  | _ => exact (bad_ok e).elim
end
end Go.Can
