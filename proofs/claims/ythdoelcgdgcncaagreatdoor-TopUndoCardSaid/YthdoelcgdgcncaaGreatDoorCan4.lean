/- The evaluator and its soundness, part 4: what it says of a call, the program does, whatever the tape. No condition. -/
import Derived.Test.YthdoelcgdgcncaaGreatDoorCan3
import Derived.Laws.LoneSync
import Derived.OpenShut
set_option linter.unusedVariables false
set_option linter.unusedSimpArgs false
namespace Go.Can
variable {β : Type}
section
variable {P : Program} {tab : Tab} {ops : Array Oper} {fi : FI} {rs : List Rec} {t₀ t' : T CV} {h₀ h' : T Blk} {nx₀ nx' : Nat} {σ₀ : Sg} {a₀ : Act} {w₀ : World}

def unlisted (listed : Array Bool) (n : Nat) : Nat := (List.range n).countP fun i => listed[i]? != some true

theorem unlisted_set {listed : Array Bool} {i : Nat} (hi : i < listed.size) (hn : listed[i]? ≠ some true) : ∀ n, unlisted (listed.setIfInBounds i true) n + (if i < n then 1 else 0) = unlisted listed n
  | 0 => by simp [unlisted]
  | n + 1 => by
    have ih := unlisted_set hi hn n
    unfold unlisted at ih ⊢
    rw [List.range_succ, List.countP_append, List.countP_append]
    by_cases hin : i = n
    · subst hin
      rw [if_neg (Nat.lt_irrefl _)] at ih
      have h1 : ((listed.setIfInBounds i true)[i]? != some true) = false := by rw [Array.getElem?_setIfInBounds_self_of_lt hi]; simp
      have h2 : (listed[i]? != some true) = true := by simpa using hn
      rw [if_pos (Nat.lt_succ_self _)]
      simp only [List.countP_cons, List.countP_nil, h1, h2, if_true]
      simp at ih ⊢
      omega
    · have h1 : (listed.setIfInBounds i true)[n]? = listed[n]? := Array.getElem?_setIfInBounds_ne hin
      simp only [List.countP_cons, List.countP_nil, h1]
      by_cases hlt : i < n
      · rw [if_pos hlt] at ih; rw [if_pos (show i < n + 1 by omega)]; omega
      · rw [if_neg hlt] at ih; rw [if_neg (show ¬ i < n + 1 by omega)]; omega

theorem ready_spec {listed : Array Bool} (hs : listed.size = ops.size) {i : Nat} : i ∈ Region.ready .any ops listed ↔ i < ops.size ∧ listed[i]? ≠ some true ∧ Free ops (fun j => listed[j]? = some true) i := by
  unfold Region.ready Free aft
  rw [List.mem_filter, List.mem_range]
  constructor
  · rintro ⟨h1, h2⟩
    simp only [Bool.and_eq_true, Bool.not_eq_true'] at h2
    obtain ⟨h2, h3⟩ := h2
    have hi : i < listed.size := by omega
    refine ⟨h1, ?_, ?_⟩
    · rw [Array.getD_eq_getD_getElem?, Array.getElem?_eq_getElem hi] at h2
      rw [Array.getElem?_eq_getElem hi]; simp at h2; simp [h2]
    · obtain ⟨o, ho⟩ : ∃ o, ops[i]? = some o := ⟨_, Array.getElem?_eq_getElem h1⟩
      simp only [ho, Option.map_some, Option.getD_some, Array.all_eq_true_iff_forall_mem] at h3 ⊢
      intro e he hb
      have := h3 e (by simpa using he)
      rw [hb] at this
      simp only [Bool.not_true, Bool.false_or] at this
      cases hx : listed[e.on]? with
      | none => rw [Array.getD_eq_getD_getElem?, hx] at this; simp at this
      | some x => rw [Array.getD_eq_getD_getElem?, hx] at this; simp at this; rw [this]
  · rintro ⟨h1, h2, h3⟩
    have hi : i < listed.size := by omega
    refine ⟨h1, ?_⟩
    obtain ⟨o, ho⟩ : ∃ o, ops[i]? = some o := ⟨_, Array.getElem?_eq_getElem h1⟩
    simp only [ho] at h3
    simp only [ho, Option.map_some, Option.getD_some, Bool.and_eq_true, Bool.not_eq_true', Array.all_eq_true_iff_forall_mem]
    refine ⟨?_, fun e he => ?_⟩
    · rw [Array.getD_eq_getD_getElem?, Array.getElem?_eq_getElem hi]
      rw [Array.getElem?_eq_getElem hi] at h2; simp at h2; simpa using h2
    · cases hb : Region.binds .any e with
      | false => rfl
      | true => have := h3 e (by simpa using he) hb; simp [Array.getD_eq_getD_getElem?, this]

theorem any_ok (C : Ctx P tab ops fi rs t₀ h₀ nx₀ t' h' nx') (rnd : Option Nat) (n : Nat) (Q : Exit → Act → World → Prop)
    (hQ : ∀ D p σ HD a w, Inv P tab ops fi rs t₀ h₀ nx₀ h' nx' σ₀ a₀ w₀ D p σ HD a w → (∀ j, j < ops.size → D j) → Q .normal a w) :
    ∀ (fuel : Nat) (listed : Array Bool) (p : Nat) (σ : Sg) (HD : T Blk) (a : Act) (w : World), listed.size = ops.size → unlisted listed ops.size ≤ fuel →
      Inv P tab ops fi rs t₀ h₀ nx₀ h' nx' σ₀ a₀ w₀ (fun j => listed[j]? = some true) p σ HD a w → wpAnyIn (FW rnd) n P .any ops Q fuel listed a w := by
  have allof : ∀ (listed : Array Bool), listed.size = ops.size → Region.ready .any ops listed = [] → ∀ j, j < ops.size → listed[j]? = some true := by
    intro listed hs hr j
    induction j using Nat.strongRecOn with
    | ind j ih =>
      intro hj
      by_cases h : listed[j]? = some true
      · exact h
      · obtain ⟨b, hb⟩ : ∃ b, (infs ops)[j]? = some b := ⟨_, List.getElem?_eq_getElem (by rw [infs_length]; exact hj)⟩
        have : j ∈ Region.ready .any ops listed := (ready_spec hs).2 ⟨hj, h, fun e he hbi => by
          have := C.back hb e he hbi
          exact ih e.on this (by omega)⟩
        rw [hr] at this; cases this
  intro fuel
  induction fuel with
  | zero =>
    intro listed p σ HD a w hs hf I
    have hall : ∀ j, j < ops.size → listed[j]? = some true := by
      intro j hj
      by_cases h : listed[j]? = some true
      · exact h
      · have : 0 < unlisted listed ops.size := List.countP_pos_iff.2 ⟨j, by simpa using hj, by simpa using h⟩
        omega
    refine ⟨?_, hQ _ _ _ _ _ _ I hall⟩
    cases hr : Region.ready .any ops listed with
    | nil => rfl
    | cons x xs =>
      have : x ∈ Region.ready .any ops listed := by rw [hr]; simp
      obtain ⟨h1, h2, _⟩ := (ready_spec hs).1 this
      exact absurd (hall x h1) h2
  | succ fuel ih =>
    intro listed p σ HD a w hs hf I
    refine ⟨fun hr => hQ _ _ _ _ _ _ I (allof listed hs hr), fun i hi => ?_⟩
    obtain ⟨h1, h2, h3⟩ := (ready_spec hs).1 hi
    refine I.op C h1 h3 h2 rnd n Q _ fun p' σ' HD' a' w' I' => ih _ p' σ' HD' a' w' (by simpa using hs) ?_ ?_
    · have hlt : unlisted (listed.setIfInBounds i true) ops.size < unlisted listed ops.size := by
        have := unlisted_set (listed := listed) (i := i) (by omega) h2 ops.size
        rw [if_pos h1] at this; omega
      omega
    · have : (fun j => (listed.setIfInBounds i true)[j]? = some true) = (fun j => listed[j]? = some true ∨ j = i) := by
        funext j
        apply propext
        by_cases hji : j = i
        · subst hji; rw [Array.getElem?_setIfInBounds_self_of_lt (by omega)]; simp
        · rw [Array.getElem?_setIfInBounds_ne (Ne.symm hji)]; simp [hji]
      rw [this]; exact I'

theorem pairs_read {l : List Inf} (hl : ∀ b ∈ l, b.cls = clsOf b.o.op) : ∀ x ∈ pairsOf l, ∀ b, l[x.1]? = some b → clsOf b.o.op = .read := by
  intro x hx b hb
  obtain ⟨⟨bj, j⟩, hj, hx⟩ := List.mem_flatMap.1 hx
  obtain ⟨⟨bi, i⟩, hi, hx⟩ := List.mem_flatMap.1 hx
  have hj := List.mk_mem_zipIdx_iff_getElem?.1 hj
  have hi := List.mk_mem_zipIdx_iff_getElem?.1 hi
  have rd : ∀ {c : Cls}, c.isR = true → c = .read := fun {c} h => by cases c <;> first | rfl | cases h
  unfold pairsAt at hx
  split at hx
  · rcases List.mem_append.1 hx with hx | hx
    · split at hx
      · rename_i h
        simp at hx; subst hx
        rw [hj] at hb; cases hb
        rw [← hl b (List.mem_of_getElem? hj)]
        simp only [Bool.and_eq_true] at h
        exact rd h.2
      · cases hx
    · split at hx
      · rename_i h
        simp at hx; subst hx
        rw [hi] at hb; cases hb
        rw [← hl b (List.mem_of_getElem? hi)]
        simp only [Bool.and_eq_true] at h
        exact rd h.1
      · cases hx
  · cases hx

/-- **A REGION WHOSE ORDER IS DRAWN** -/
theorem draw_ok (TO : TabOK P tab) (MO : P.follows .mixedOrders = true) {call : CallT β} (hc : CallOK P tab call) : DrawOK P tab call := by
  intro id ops fi hok t df h nx k r e
  have hself : ∀ b ∈ infs ops, b.cls = clsOf b.o.op ∧ isDefer b.o.op = none := by
    intro b hb
    obtain ⟨j, hj⟩ := List.getElem?_of_mem hb
    have h := okAll_pair hok hj hj
    have hlt : Nat.blt j j = false := by
      cases hh : Nat.blt j j with
      | false => rfl
      | true => exact absurd (Nat.le_of_ble_eq_true hh) (by omega)
    have he : Nat.beq j j = true := by simp
    simp only [okPair, hlt, he, Bool.and_eq_true, Bool.not_eq_true', Option.isNone_iff_eq_none] at h
    exact ⟨(infs_get hj).2.2.1, h.1.2⟩
  obtain ⟨t', h', nx', rs, e, tr⟩ := drawOps_ok TO hc ops fi (infs ops) hself (show drawOps ops tab call fi (infs ops) t h nx _ = .ok r from e)
  obtain ⟨e, hreads⟩ := chkPairs_ok TO (pairsOf (infs ops)) (pairs_read fun b hb => (hself b hb).1) e
  have hle : nx ≤ nx' := by
    have h1 := tr.mono (Nat.zero_le rs.length)
    have h2 : rs[rs.length]? = none := List.getElem?_eq_none (Nat.le_refl _)
    rw [tr.zero.2] at h1
    simpa [nAt, h2] using h1
  refine ⟨t', h', nx', e, hle, fun σ a w n rnd ha hr Q hQ => wpIn_region_draw fun tp => ?_⟩
  obtain ⟨hwit, τ, z, hfin⟩ := tr.witness σ a.tmps w ha.tmp ha.size hr
  have C : Ctx P tab ops fi rs t h nx t' h' nx' := ⟨tr, hok, hreads, hwit⟩
  have hb' : ∀ x B, h'.get x = some B → x < nx' := fun x B hx => let ⟨L, hL⟩ := hfin.full x B hx; (hfin.dom x L hL).1
  obtain ⟨HD, I⟩ := Inv.start C ha hr (w := { w with drawn := w.drawn + 1 }) rfl rfl rfl rfl
  simp only [Region.schedule, MO, Bool.true_or, if_true]
  refine wpAnyIn_sound ops.size tp _ a _ (any_ok C rnd n Q (fun D p σ' HD' a' w' I' hall => hQ a' w' (I'.end C hall hb' ha.dfr)) ops.size _ 0 σ HD a _ (by simp) ?_ ?_)
  · unfold unlisted; exact Nat.le_trans (List.countP_le_length) (by simp)
  · have : (fun j : Nat => (Array.replicate ops.size false)[j]? = some true) = (fun _ => False) := by
      funext j; apply propext
      constructor
      · intro h
        rw [Array.getElem?_replicate] at h
        split at h <;> simp at h
      · exact fun h => h.elim
    rw [this]; exact I

/-- **THE EVALUATOR IS SOUND.** -/
theorem sound (TO : TabOK P tab) (PO : PrimOK P tab β) (MO : P.follows .mixedOrders = true) (d : Nat) : CallOK P tab (callN (β := β) tab d) :=
  callN_ok TO PO (fun _ hc => draw_ok TO MO hc) d
end
end Go.Can
namespace Go.Can
variable {β : Type}

/-- a flat value -/
def CV.flat : CV → Option Value
  | .bool b => some (.bool b)
  | .int k n => some (.int k n)
  | _ => none

theorem CV.flat_rel {c : CV} {v : Value} (h : c.flat = some v) {σ : Sg} : VRel σ c v := by
  cases c <;> simp [CV.flat] at h <;> subst h <;> rfl
theorem CV.rel_flat {c : CV} {v v' : Value} (h : c.flat = some v) {σ : Sg} (r : VRel σ c v') : v' = v := by
  cases c <;> simp [CV.flat] at h <;> subst h <;> exact r

/-- the package's variables hold what they held at the start -/
def PreG (gs : List (Nat × List CV)) (w : World) : Prop :=
  ∀ x ∈ gs, ∃ arr e fz, w.heap[x.1]? = some (.cells arr e fz) ∧ ∀ (i : Nat) (c : CV), x.2[i]? = some c → ∃ v, c.flat = some v ∧ arr[i]? = some v

/-- a function without arguments that always answers the same, and leaves all that was -/
def ConstIs (P : Program) (f : FuncId) (gs : List (Nat × List CV)) (v : CV) : Prop :=
  (∀ x ∈ gs, ∀ c ∈ x.2, c.flat.isSome = true) ∧ ∃ u, v.flat = some u ∧ ∀ w, PreG gs w → Good P ((callFunc f #[]).run P w) fun v' w' =>
    v' = u ∧ w.heap.size ≤ w'.heap.size ∧ (∀ b, b < w.heap.size → w'.heap[b]? = w.heap[b]?) ∧ w'.tape = w.tape ∧ w'.os = w.os ∧ w'.output = w.output

/-- what a function without a body is -/
def PrimIs0 (P : Program) (f : FuncId) (p : Prim) : Prop :=
  ∃ fn, P.funcs[f]? = some fn ∧ (fn.name == "runtime.NumGoroutine") = false ∧ fn.body.isNone = true ∧ Extern.findNext fn = none ∧
    match p with
    | .nop0 => ∃ m, Extern.find fn = some (fun _ => do mark m; pure Extern.Race.none_)
    | .nop1 => ∃ m, Extern.find fn = some (Extern.Race.marked m)
    | .load k => Extern.find fn = some (Extern.Atomic.loadT (.int k))
    | .store => Extern.find fn = some Extern.Atomic.storeT
    | .add k => Extern.find fn = some (Extern.Atomic.update (Op.intArith .add) k true)
    | .cas k => Extern.find fn = some (Extern.Atomic.casT (.int k))
    | .const _ _ => False
    | .spec _ => False

/-- a function of which it is known what it comes to -/
def SpecIs (P : Program) (G : Nat) (f : FuncId) (g : List CV → T Blk → Nat → Option (CV × T Blk × Nat)) : Prop :=
  ∀ args h nx v h' nx', g args h nx = some (v, h', nx') → nx ≤ nx' ∧ ∀ (σ : Sg) (argvs : Array Value) (w : World), VRels σ args argvs.toList → HRel G σ h nx w →
    Good P ((callFunc f argvs).run P w) (Post G σ h w v h' nx')

def PrimIs (P : Program) (tab : Tab) (f : FuncId) (p : Prim) : Prop :=
  match p with
  | .const gs v => ConstIs P f gs v ∧ ∀ x ∈ gs, x.1 < tab.ng
  | .spec g => SpecIs P tab.ng f g
  | p => PrimIs0 P f p

section
variable {P : Program} {tab : Tab}

theorem store_one (w : World) (a : Addr) (v : Value) {w' : World} (h1 : v.oneCell' = true) (h : (storeCells a [v]).run P w = .ok () w') {u : Value} (hc : w.cell? (a.add 0) = some u) (hz : w.frozen? (a.add 0) = false) : w' = w.setCell (a.add 0) v := by
  simp only [storeCells, Sem.run_bind, run_store P w (a.add 0) v .plain h1, hc, hz] at h
  simp [Result.andThen] at h
  exact h.symm

/-- one number stored -/
theorem put_int (P : Program) {kd : IntKind} {y : Int} {h : T Blk} {b o : Nat} {k : T Blk → Res β} {r : β} (e : putCells [.int kd y] h b o k = .ok r) :
    ∃ h', k h' = .ok r ∧ ∀ (G : Nat) (σ : Sg) (nx : Nat) (w : World) (L : Loc), HRel G σ h nx w → σ b = some L →
      (∃ u, w.cell? ⟨L.blk, L.off + o, none⟩ = some u) ∧ w.frozen? ⟨L.blk, L.off + o, none⟩ = false ∧
      HRel G σ h' nx (w.setCell ⟨L.blk, L.off + o, none⟩ (.int kd y)) ∧ Step σ h w σ h' (w.setCell ⟨L.blk, L.off + o, none⟩ (.int kd y)) := by
  obtain ⟨n, cs, cs', hb, hle, _, _, _⟩ := putCells_ok e
  obtain ⟨h', e, _, H⟩ := put_ok (P := P) e
  refine ⟨h', e, fun G σ nx w L hr hL => ?_⟩
  obtain ⟨arr, el, fz, g1, g2, g3, g4, _⟩ := hr.blk b L _ hL hb
  have hfz := g4 rfl
  subst hfz
  simp only [List.length_singleton] at hle
  have hlt : L.off + o < arr.size := by omega
  have hc : w.cell? ⟨L.blk, L.off + o, none⟩ = some arr[L.off + o] := by simp [World.cell?, g1, hlt]
  have hz : w.frozen? ⟨L.blk, L.off + o, none⟩ = false := by simp [World.frozen?, g1]
  obtain ⟨w', hst, hr', st'⟩ := H G σ nx w L [.int kd y] hr hL (VRels.one rfl)
  have h0 : (⟨L.blk, L.off + o, none⟩ : Addr).add 0 = ⟨L.blk, L.off + o, none⟩ := by rw [Addr.add_at]; simp
  have := store_one (P := P) w ⟨L.blk, L.off + o, none⟩ (.int kd y) rfl hst (by rw [h0]; exact hc) (by rw [h0]; exact hz)
  rw [h0] at this
  subst this
  exact ⟨⟨_, hc⟩, hz, hr', st'⟩

theorem array_of_list {α : Type} {a : Array α} {l : List α} (h : a.toList = l) : a = l.toArray := by
  subst h; simp

theorem vrels1 {σ : Sg} {a : CV} {arr : Array Value} (h : VRels σ [a] arr.toList) : ∃ x, arr = #[x] ∧ VRel σ a x := by
  obtain ⟨x, l, e, hx, rfl⟩ := h
  exact ⟨x, by rw [array_of_list e], hx⟩
theorem vrels2 {σ : Sg} {a b : CV} {arr : Array Value} (h : VRels σ [a, b] arr.toList) : ∃ x y, arr = #[x, y] ∧ VRel σ a x ∧ VRel σ b y := by
  obtain ⟨x, l, e, hx, y, l', rfl, hy, rfl⟩ := h
  exact ⟨x, y, by rw [array_of_list e], hx, hy⟩
theorem vrels3 {σ : Sg} {a b c : CV} {arr : Array Value} (h : VRels σ [a, b, c] arr.toList) : ∃ x y z, arr = #[x, y, z] ∧ VRel σ a x ∧ VRel σ b y ∧ VRel σ c z := by
  obtain ⟨x, l, e, hx, y, l', rfl, hy, z, l'', rfl, hz, rfl⟩ := h
  exact ⟨x, y, z, by rw [array_of_list e], hx, hy, hz⟩

theorem add_run (kd : IntKind) (x d : Int) (w : World) : (Op.intArith .add kd x d).run P w = .ok (.int kd (kd.wrap (x + d))) w := by simp [Op.intArith]

theorem post_same {G : Nat} {σ : Sg} {h : T Blk} {nx : Nat} {w : World} {v : CV} {v' : Value} (hv : VRel σ v v') (hr : HRel G σ h nx w) : Post G σ h w v h nx v' w :=
  ⟨σ, hv, hr, .refl _ _ _⟩

theorem tup0 {σ : Sg} : VRel σ (.tup []) (.tuple #[]) := ⟨#[], rfl, rfl⟩

theorem chkRow_ok {cs : T CV} : ∀ {l : List CV} {i : Nat} {k : Res β} {r : β}, chkRow cs l i k = .ok r → k = .ok r ∧ ∀ j c, l[j]? = some c → cs.get (i + j) = some c
  | [], i, k, r, e => ⟨e, fun j c h => by simp at h⟩
  | v :: l, i, k, r, e => by
    obtain ⟨x, hx, e⟩ := optK_ok (show optK 190 (cs.get i) (fun x => grd 191 (x.same v) (chkRow cs l (i + 1) k)) = .ok r from e)
    obtain ⟨hs, e1⟩ := grd_ok e
    obtain ⟨e2, H⟩ := chkRow_ok e1
    have hs := CV.same_ok _ _ hs
    subst hs
    refine ⟨e2, fun j c h => ?_⟩
    cases j with
    | zero => simp at h; subst h; simpa using hx
    | succ j => have := H j c (by simpa using h); rw [show i + (j + 1) = i + 1 + j by omega]; exact this

theorem chkGlobs_ok {h : T Blk} : ∀ {gs : List (Nat × List CV)} {k : Res β} {r : β}, chkGlobs h gs k = .ok r → k = .ok r ∧ ∀ x ∈ gs, ∃ n cs rw, h.get x.1 = some (.cells n cs rw) ∧ ∀ j c, x.2[j]? = some c → cs.get j = some c
  | [], k, r, e => ⟨e, fun x h => by simp at h⟩
  | (g, l) :: gs, k, r, e => by
    obtain ⟨n, cs, rw, hb, e⟩ := blkK_ok (show blkK h g (fun _ cs _ => chkRow cs l 0 (chkGlobs h gs k)) = .ok r from e)
    obtain ⟨e, H⟩ := chkRow_ok e
    obtain ⟨e, H'⟩ := chkGlobs_ok e
    refine ⟨e, fun x hx => ?_⟩
    rcases List.mem_cons.1 hx with rfl | hx
    · exact ⟨n, cs, rw, hb, fun j c hj => by simpa using H j c hj⟩
    · exact H' x hx

theorem primOK (H : ∀ f p, tab.prims.get f = some p → PrimIs P tab f p) : PrimOK P tab β := by
  intro f p hp args h nx k r e
  by_cases hcst : ∃ gs v, p = .const gs v
  · obtain ⟨gs, v, rfl⟩ := hcst
    obtain ⟨⟨hfl, u, hu, hgood⟩, hlt⟩ : ConstIs P f gs v ∧ _ := H f _ hp
    unfold primOp at e
    split at e
    all_goals first
      | (rename_i heq; cases heq; done)
      | skip
    · rename_i heq
      cases heq
      obtain ⟨e, HG⟩ := chkGlobs_ok e
      refine ⟨_, _, _, e, Nat.le_refl _, fun σ argvs w hv hr => ?_⟩
      have : argvs = #[] := by have hv : argvs.toList = [] := hv; simpa using hv
      subst this
      have hpre : PreG gs w := fun x hx => by
        obtain ⟨n, cs, rw, hb, hcs⟩ := HG x hx
        obtain ⟨L, hL, h1, h2⟩ := hr.glob x.1 (hlt x hx)
        obtain ⟨arr, e, fz, g1, _, _, _, g5⟩ := hr.blk x.1 L _ hL hb
        refine ⟨arr, e, fz, by rw [← h1]; exact g1, fun i c hi => ?_⟩
        obtain ⟨_, v', hv', hrel⟩ := g5 i c (hcs i c hi)
        obtain ⟨y, hy⟩ := Option.isSome_iff_exists.1 (hfl x hx c (List.mem_of_getElem? hi))
        refine ⟨y, hy, ?_⟩
        rw [h2, Nat.zero_add] at hv'
        rw [hv', CV.rel_flat hy hrel]
      refine Good.mono (hgood w hpre) fun v' w' ⟨h1, h2, h3, h4, h5, h6⟩ => ?_
      subst h1
      refine ⟨σ, CV.flat_rel hu, ⟨⟨fun c L hc => ⟨(hr.dom c L hc).1, Nat.lt_of_lt_of_le (hr.dom c L hc).2 h2⟩, fun c L B hc hB => (hr.blk c L B hc hB).heap (h3 _ (hr.dom c L hc).2), hr.inj, hr.glob⟩, hr.full⟩,
        ⟨.refl σ, h2, fun b hb _ => h3 b hb, fun _ _ h => h, fun _ _ h => h, h4, h5, h6⟩⟩
    · exact (bad_ok e).elim
  by_cases hspc : ∃ g, p = .spec g
  · obtain ⟨g, rfl⟩ := hspc
    have hg : SpecIs P tab.ng f g := H f _ hp
    have e : optK 192 (g args h nx) (fun p => k p.1 p.2.1 p.2.2) = .ok r := by
      unfold primOp at e
      cases args <;> exact e
    obtain ⟨⟨v, h', nx'⟩, hx, e⟩ := optK_ok e
    obtain ⟨hle, HH⟩ := hg _ _ _ _ _ _ hx
    exact ⟨v, h', nx', e, hle, HH⟩
  have HP : PrimIs0 P f p := by
    have := H f p hp
    cases p <;> first | exact this | exact absurd ⟨_, _, rfl⟩ hcst | exact absurd ⟨_, rfl⟩ hspc
  obtain ⟨fn, hf, hname, hb, hn, hm⟩ := HP
  unfold primOp at e
  split at e
  · obtain ⟨m, he⟩ := hm
    refine ⟨_, _, _, e, Nat.le_refl _, fun σ argvs w hv hr => ?_⟩
    have : argvs = #[] := by have hv : argvs.toList = [] := hv; simpa using hv
    subst this
    rw [run_call_mark0 hf hname hb hn m he w]
    exact Good.value (post_same tup0 hr)
  · obtain ⟨m, he⟩ := hm
    obtain ⟨n, cs, rw, _, e⟩ := blkK_ok e
    refine ⟨_, _, _, e, Nat.le_refl _, fun σ argvs w hv hr => ?_⟩
    obtain ⟨x, rfl, L, hL, rfl⟩ := vrels1 hv
    rw [run_call_marked hf hname hb hn m he _ w]
    exact Good.value (post_same tup0 hr)
  · obtain ⟨n, cs, rw, hbk, e⟩ := blkK_ok e
    obtain ⟨v, hcv, e⟩ := optK_ok e
    cases v with
    | int k' x =>
      replace e := grd_ok e
      obtain ⟨hk, e⟩ := e
      cases kEq_ok hk
      refine ⟨_, _, _, e, Nat.le_refl _, fun σ argvs w hv hr => ?_⟩
      obtain ⟨y, rfl, L, hL, rfl⟩ := vrels1 hv
      obtain ⟨_, u, hc, hu⟩ := hr.cell hL hbk hcv
      cases hu
      rw [run_call_load hf hname hb hn _ hm hc]
      exact Good.value (post_same rfl hr)
    | _ => exact (bad_ok e).elim
  · obtain ⟨h', e, HH⟩ := put_int P e
    refine ⟨_, _, _, e, Nat.le_refl _, fun σ argvs w hv hr => ?_⟩
    obtain ⟨x, y, rfl, ⟨L, hL, rfl⟩, hy⟩ := vrels2 hv
    cases hy
    obtain ⟨⟨u, hc⟩, hz, hr', st'⟩ := HH _ σ nx w L hr hL
    rw [run_call_store hf hname hb hn hm hc hz]
    exact Good.value ⟨σ, tup0, hr', st'⟩
  · obtain ⟨n, cs, rw, hbk, e⟩ := blkK_ok e
    obtain ⟨v, hcv, e⟩ := optK_ok e
    cases v with
    | int k' x =>
      obtain ⟨hk1, e1⟩ := grd_ok e
      obtain ⟨hk2, ef⟩ := grd_ok e1
      cases kEq_ok hk1
      cases kEq_ok hk2
      rw [intK_eq] at ef
      obtain ⟨h', e, HH⟩ := put_int P ef
      refine ⟨_, _, _, e, Nat.le_refl _, fun σ argvs w hv hr => ?_⟩
      obtain ⟨y, z, rfl, ⟨L, hL, rfl⟩, hz'⟩ := vrels2 hv
      cases hz'
      obtain ⟨_, u, hc, hu⟩ := hr.cell hL hbk hcv
      cases hu
      obtain ⟨_, hz, hr', st'⟩ := HH _ σ nx w L hr hL
      rw [run_call_add hf hname hb hn _ hm hc hz (add_run _ _ _ _)]
      exact Good.value ⟨σ, rfl, hr', st'⟩
    | _ => exact (bad_ok e).elim
  · obtain ⟨n, cs, rw, hbk, e⟩ := blkK_ok e
    obtain ⟨_, e⟩ := grd_ok e
    obtain ⟨v, hcv, e⟩ := optK_ok e
    cases v with
    | int k' x =>
      obtain ⟨hk1, e1⟩ := grd_ok e
      obtain ⟨hk2, e2⟩ := grd_ok e1
      obtain ⟨hk3, ef⟩ := grd_ok e2
      cases kEq_ok hk1
      cases kEq_ok hk2
      cases kEq_ok hk3
      cases hq : eqN x _ with
      | false =>
        rw [hq] at ef
        refine ⟨_, _, _, ef, Nat.le_refl _, fun σ argvs w hv hr => ?_⟩
        obtain ⟨a, b, c, rfl, ⟨L, hL, rfl⟩, hb', hc'⟩ := vrels3 hv
        cases hb'; cases hc'
        obtain ⟨_, u, hc, hu⟩ := hr.cell hL hbk hcv
        cases hu
        obtain ⟨arr, el, fz, g1, g2, g3, g4, _⟩ := hr.blk _ L _ hL hbk
        have hfz := g4 ‹_›
        subst hfz
        have hz : ∀ o, w.frozen? ⟨L.blk, o, none⟩ = false := fun o => by simp [World.frozen?, g1]
        rw [run_call_cas_miss hf hname hb hn _ hm hc (hz _) (by rw [eqN_eq] at hq; simpa using hq)]
        exact Good.value (post_same rfl hr)
      | true =>
        rw [hq] at ef
        obtain ⟨h', e, HH⟩ := put_int P ef
        refine ⟨_, _, _, e, Nat.le_refl _, fun σ argvs w hv hr => ?_⟩
        obtain ⟨a, b, c, rfl, ⟨L, hL, rfl⟩, hb', hc'⟩ := vrels3 hv
        cases hb'; cases hc'
        obtain ⟨_, u, hc, hu⟩ := hr.cell hL hbk hcv
        cases hu
        obtain ⟨_, hz, hr', st'⟩ := HH _ σ nx w L hr hL
        rw [eqN_eq] at hq
        have hq := eq_of_beq hq
        subst hq
        rw [run_call_cas_hit hf hname hb hn _ hm hc hz]
        exact Good.value ⟨σ, rfl, hr', st'⟩
    | _ => exact (bad_ok e).elim
  · exact absurd ⟨_, _, rfl⟩ hcst
  · exact absurd ⟨_, rfl⟩ hspc
  · exact (bad_ok e).elim
end
end Go.Can
namespace Go.Can

/-! ## the package's variables that read as known data -/

/-- a type whose cells its datum tells -/
def flatTy (P : Program) : Nat → TypeId → Bool
  | 0, _ => false
  | m + 1, t => match P.underlying t with
    | some .bool => true
    | some (.int _) => true
    | some (.struct fs) => fs.toList.all (fun f => flatTy P m f.type) && (List.range (P.cellsOf t)).all fun i => fs.toList.any fun f => Nat.ble f.offset i && Nat.blt i (f.offset + P.cellsOf f.type)
    | some (.array n e) => flatTy P m e && (List.range (P.cellsOf t)).all fun i => (List.range n).any fun j => Nat.ble (j * P.cellsOf e) i && Nat.blt i (j * P.cellsOf e + P.cellsOf e)
    | _ => false

section
variable {H : Type} {enc : TypeId × Value → H} {P : Program} {w w' : World} {base : Nat} {spare : Nat → Bool} {held : Bool}

theorem part_get {α : Type} {a b : List α} {o n i : Nat} (h : (a.drop o).take n = (b.drop o).take n) (h1 : o ≤ i) (h2 : i < o + n) : a[i]? = b[i]? := by
  have e := congrArg (fun l => l[i - o]?) h
  simp only [List.getElem?_take, List.getElem?_drop, if_pos (show i - o < n by omega), show o + (i - o) = i by omega] at e
  exact e

theorem trod_inj : ∀ (fl : Nat) (t : TypeId) (cs cs' : List Value) (d : DataW H) (p p' : List MemPlace) (fu fu' : Nat), flatTy P fl t = true →
    DataW.trod enc P w base spare held fu t cs = some (d, p) → DataW.trod enc P w' base spare held fu' t cs' = some (d, p') → cs = cs'
  | 0, t, cs, cs', d, p, p', fu, fu', hf, h, h' => by simp [flatTy] at hf
  | m + 1, t, cs, cs', d, p, p', fu, fu', hf, h, h' => by
    unfold flatTy at hf
    split at hf
    · rename_i ht
      obtain ⟨b, rfl, e⟩ := DataW.trod_bool ht h
      obtain ⟨b', rfl, e'⟩ := DataW.trod_bool ht h'
      cases e; cases e'; rfl
    · rename_i k ht
      obtain ⟨b, rfl, e, _⟩ := DataW.trod_int ht h
      obtain ⟨b', rfl, e', _⟩ := DataW.trod_int ht h'
      cases e; cases e'; rfl
    · rename_i fs ht
      simp only [Bool.and_eq_true, List.all_eq_true, List.any_eq_true] at hf
      obtain ⟨hfl, hcov⟩ := hf
      obtain ⟨xs, n, _, e, hl, hn, hg⟩ := DataW.trod_struct ht h
      obtain ⟨xs', n', _, e', hl', hn', hg'⟩ := DataW.trod_struct ht h'
      refine List.ext_getElem? fun i => ?_
      by_cases hi : i < P.cellsOf t
      · obtain ⟨f, hm, h12⟩ := hcov i (List.mem_range.2 hi)
        obtain ⟨h1, h2⟩ := h12
        obtain ⟨j, hj⟩ := List.getElem?_of_mem hm
        have hj : fs[j]? = some f := by simpa using hj
        have a := hg j f hj
        have a' := hg' j f hj
        have hlt : j < fs.size := (Array.getElem?_eq_some_iff.1 hj).1
        obtain ⟨y, hy⟩ : ∃ y, xs[j]? = some y := ⟨xs[j], List.getElem?_eq_getElem (by omega)⟩
        obtain ⟨y', hy'⟩ : ∃ y, xs'[j]? = some y := ⟨xs'[j], List.getElem?_eq_getElem (by omega)⟩
        have hyy : y.1 = y'.1 := by
          have q := congrArg Prod.fst (e.symm.trans (by rfl : (d, p) = (d, p)))
          have q1 : d = .agg (xs.map (·.1)) := congrArg Prod.fst e
          have q2 : d = .agg (xs'.map (·.1)) := congrArg Prod.fst e'
          rw [q1] at q2
          injection q2 with q2
          have := congrArg (fun l => l[j]?) q2
          simpa [hy, hy'] using this
        rw [hy] at a; rw [hy'] at a'
        have := trod_inj m f.type _ _ y.1 y.2 y'.2 n n' (hfl f hm) a (by rw [hyy]; exact a')
        exact part_get this (Nat.le_of_ble_eq_true h1) (Nat.le_of_ble_eq_true h2)
      · rw [List.getElem?_eq_none (by omega), List.getElem?_eq_none (by omega)]
    · rename_i k el ht
      simp only [Bool.and_eq_true, List.all_eq_true, List.any_eq_true] at hf
      obtain ⟨hfl, hcov⟩ := hf
      obtain ⟨xs, n, _, e, hl, hn, hg⟩ := DataW.trod_array ht h
      obtain ⟨xs', n', _, e', hl', hn', hg'⟩ := DataW.trod_array ht h'
      refine List.ext_getElem? fun i => ?_
      by_cases hi : i < P.cellsOf t
      · obtain ⟨j, hm, h12⟩ := hcov i (List.mem_range.2 hi)
        obtain ⟨h1, h2⟩ := h12
        have hj := List.mem_range.1 hm
        have a := hg j hj
        have a' := hg' j hj
        obtain ⟨y, hy⟩ : ∃ y, xs[j]? = some y := ⟨xs[j], List.getElem?_eq_getElem (by omega)⟩
        obtain ⟨y', hy'⟩ : ∃ y, xs'[j]? = some y := ⟨xs'[j], List.getElem?_eq_getElem (by omega)⟩
        have hyy : y.1 = y'.1 := by
          have q1 : d = .agg (xs.map (·.1)) := congrArg Prod.fst e
          have q2 : d = .agg (xs'.map (·.1)) := congrArg Prod.fst e'
          rw [q1] at q2
          injection q2 with q2
          have := congrArg (fun l => l[j]?) q2
          simpa [hy, hy'] using this
        rw [hy] at a; rw [hy'] at a'
        have := trod_inj m el _ _ y.1 y.2 y'.2 n n' hfl a (by rw [hyy]; exact a')
        exact part_get this (Nat.le_of_ble_eq_true h1) (Nat.le_of_ble_eq_true h2)
      · rw [List.getElem?_eq_none (by omega), List.getElem?_eq_none (by omega)]
    · cases hf
end

/-- the cells of a datum -/
def litVal : Lit → Value
  | .bool b => .bool b
  | .int k n => .int k n
  | _ => undef

/-- one of the variables: its number, its cells -/
def LaidRow (P : Program) (n : String) (d : DataW Unit) (g : Nat) (l : List CV) : Prop :=
  P.globalNamed n = some g ∧ ∃ t, (P.globals[g]?).map (·.type) = some t ∧ flatTy P 6 t = true ∧ ∃ vs p, l.mapM CV.flat = some vs ∧ ∀ w, DataW.trod (fun _ => ()) P w 0 (fun _ => true) false 6 t vs = some (d, p)

def LaidRows (P : Program) : List (String × DataW Unit) → List (Nat × List CV) → Prop
  | [], [] => True
  | (n, d) :: r, (g, l) :: q => LaidRow P n d g l ∧ LaidRows P r q
  | _, _ => False

theorem mapM_flat_get : ∀ {l : List CV} {vs : List Value}, l.mapM CV.flat = some vs → ∀ (i : Nat) (c : CV), l[i]? = some c → ∃ v, c.flat = some v ∧ vs[i]? = some v
  | [], vs, h, i, c, hi => by simp at hi
  | x :: l, vs, h, i, c, hi => by
    simp only [List.mapM_cons, Option.bind_eq_bind, Option.bind_eq_some_iff] at h
    obtain ⟨v, hv, vs', hvs, h⟩ := h
    cases h
    cases i with
    | zero => simp at hi; subst hi; exact ⟨v, hv, rfl⟩
    | succ i => simpa using mapM_flat_get hvs i c (by simpa using hi)

theorem laidVars_pre {P : Program} {w : World} : ∀ {laid : List (String × DataW Unit)} {gs : List (Nat × List CV)} {ps : List MemPlace}, LaidRows P laid gs → DataW.LaidVars P w laid ps → PreG gs w
  | [], [], ps, _, _ => fun x hx => by simp at hx
  | [], _ :: _, ps, h, _ => h.elim
  | _ :: _, [], ps, h, _ => h.elim
  | (n, d) :: r, (g, l) :: q, ps, ⟨⟨hn, t, ht, hfl, vs, p', hvs, htr⟩, hr⟩, ⟨g', t', cs, fuel, p, q', hg', ht', hv, htr', hrest, _⟩ => by
    obtain rfl := Option.some.inj (hn.symm.trans hg')
    obtain rfl := Option.some.inj (ht.symm.trans ht')
    have hcs := trod_inj 6 t _ _ d p' p 6 fuel hfl (htr w) htr'
    intro x hx
    rcases List.mem_cons.1 hx with rfl | hx
    · simp only [World.var?, hn, Option.bind_some] at hv
      split at hv
      · rename_i arr e fz hh
        cases hv
        refine ⟨_, _, _, hh, fun i c hi => ?_⟩
        obtain ⟨v, h1, h2⟩ := mapM_flat_get hvs i c hi
        refine ⟨v, h1, ?_⟩
        rw [← Array.getElem?_toList, ← hcs]; exact h2
      · cases hv
    · exact laidVars_pre hr hrest x hx

theorem laid_pre {P : Program} {w : World} {laid : List (String × DataW Unit)} {gs : List (Nat × List CV)} (h : LaidRows P laid gs) (hl : laidMet P laid w) : PreG gs w :=
  let ⟨_, h1, _⟩ := hl
  laidVars_pre h h1

/-! ## the heap at the start -/

def cellsT : List CV → Nat → T CV → T CV
  | [], _, t => t
  | v :: l, n, t => cellsT l (n + 1) (t.set n v)

theorem T.nil_get {α : Type} (i : Nat) : (T.nil : T α).get i = none := by
  unfold T.get; generalize path i = p; cases p <;> rfl

theorem cellsT_get : ∀ (l : List CV) (n : Nat) (t : T CV) (i : Nat), (cellsT l n t).get i = if n ≤ i ∧ i < n + l.length then l[i - n]? else t.get i
  | [], n, t, i => by rw [if_neg (by simp only [List.length_nil]; omega)]; rfl
  | v :: l, n, t, i => by
    unfold cellsT
    rw [cellsT_get l (n + 1), T.get_set]
    simp only [List.length_cons]
    by_cases hi : i = n
    · subst hi; rw [if_neg (by omega), if_pos rfl, if_pos (by omega)]; simp
    · rw [if_neg hi]
      by_cases hj : n + 1 ≤ i ∧ i < n + 1 + l.length
      · rw [if_pos hj, if_pos (by omega), show i - n = (i - (n + 1)) + 1 by omega, List.getElem?_cons_succ]
      · rw [if_neg hj, if_neg (by omega)]

def globB (l : List CV) : Blk := .cells l.length (cellsT l 0 .nil) false

def heapT : List (Nat × List CV) → T Blk → T Blk
  | [], t => t
  | (g, l) :: r, t => heapT r (t.set g (globB l))

theorem heapT_get : ∀ (gs : List (Nat × List CV)) (t : T Blk) {c : Nat} {B : Blk}, (heapT gs t).get c = some B → (∃ l, (c, l) ∈ gs ∧ B = globB l) ∨ t.get c = some B
  | [], t, c, B, h => .inr h
  | (g, l) :: r, t, c, B, h => by
    rcases heapT_get r _ h with ⟨l', h1, h2⟩ | h3
    · exact .inl ⟨l', List.mem_cons_of_mem _ h1, h2⟩
    · rw [T.get_set] at h3
      by_cases hc : c = g
      · rw [if_pos hc] at h3; subst hc; exact .inl ⟨l, List.mem_cons_self, (Option.some.inj h3).symm⟩
      · rw [if_neg hc] at h3; exact .inr h3

/-- the variables have the numbers below G -/
def covers (gs : List (Nat × List CV)) (G : Nat) : Bool := (gs.all fun x => Nat.blt x.1 G) && (List.range G).all fun g => gs.any fun x => Nat.beq x.1 g

def sg0 (G : Nat) (w : World) : Sg := fun c => if c < G then some ⟨c, 0, (match w.heap[c]? with | some (.cells arr _ _) => arr.size | _ => 0)⟩ else none

theorem globB_rel {gs : List (Nat × List CV)} {w : World} (hp : PreG gs w) {g : Nat} {l : List CV} (hm : (g, l) ∈ gs) (σ : Sg) {L : Loc} (h1 : L.blk = g) (h2 : L.off = 0) (h3 : L.fin = (match w.heap[g]? with | some (.cells arr _ _) => arr.size | _ => 0)) :
    BRel σ L w (globB l) := by
  obtain ⟨arr, e, fz, g1, g2⟩ := hp _ hm
  have g1 : w.heap[g]? = some (.cells arr e fz) := g1
  rw [g1] at h3
  have hlen : l.length ≤ arr.size := by
    by_cases h0 : l.length = 0
    · omega
    · obtain ⟨c, hc⟩ : ∃ c, l[l.length - 1]? = some c := ⟨_, List.getElem?_eq_getElem (by omega)⟩
      obtain ⟨v, _, hv⟩ := g2 _ c hc
      have := (Array.getElem?_eq_some_iff.1 hv).1
      omega
  refine ⟨arr, e, fz, by rw [h1]; exact g1, by rw [h2, h3]; simpa using hlen, by rw [h3]; exact Nat.le_refl _, (fun h => by cases h), fun i c hi => ?_⟩
  rw [cellsT_get] at hi
  split at hi
  · rename_i hr
    obtain ⟨v, hv, ha⟩ := g2 i c (by simpa using hi)
    exact ⟨by omega, v, by rw [h2, Nat.zero_add]; exact ha, CV.flat_rel hv⟩
  · simp [T.nil_get] at hi

theorem start_rel {gs : List (Nat × List CV)} {G : Nat} (hc : covers gs G = true) {w : World} (hp : PreG gs w) : HRel G (sg0 G w) (heapT gs .nil) G w := by
  simp only [covers, Bool.and_eq_true, List.all_eq_true, List.any_eq_true] at hc
  obtain ⟨hc1, hc2⟩ := hc
  have hlt : ∀ g, g < G → g < w.heap.size := fun g hg => by
    obtain ⟨x, hx, he⟩ := hc2 g (List.mem_range.2 hg)
    obtain ⟨arr, e, fz, g1, _⟩ := hp x hx
    have : x.1 = g := Nat.eq_of_beq_eq_true he
    rw [← this]
    exact (Array.getElem?_eq_some_iff.1 g1).1
  have hs : ∀ {c L}, sg0 G w c = some L → c < G ∧ L.blk = c ∧ L.off = 0 ∧ L.fin = (match w.heap[c]? with | some (.cells arr _ _) => arr.size | _ => 0) := fun {c L} h => by
    unfold sg0 at h
    split at h
    · cases h; exact ⟨‹_›, rfl, rfl, rfl⟩
    · cases h
  have hg : ∀ {c B}, (heapT gs .nil).get c = some B → ∃ l, (c, l) ∈ gs ∧ B = globB l := fun {c B} h => by
    rcases heapT_get gs .nil h with h | h
    · exact h
    · simp [T.nil_get] at h
  refine ⟨⟨fun c L h => ?_, fun c L B h hB => ?_, fun c c' L L' B B' h h' hB hB' hrw => ?_, fun g hgl => ⟨_, if_pos hgl, rfl, rfl⟩⟩, fun c B h => ?_⟩
  · obtain ⟨h1, h2, _⟩ := hs h
    exact ⟨h1, by rw [h2]; exact hlt c h1⟩
  · obtain ⟨h1, h2, h3, h4⟩ := hs h
    obtain ⟨l, hm, rfl⟩ := hg hB
    exact globB_rel hp hm _ h2 h3 h4
  · obtain ⟨l, _, rfl⟩ := hg hB
    obtain ⟨l', _, rfl⟩ := hg hB'
    rcases hrw with h | h <;> cases h
  · obtain ⟨l, hm, rfl⟩ := hg h
    have : c < G := Nat.le_of_ble_eq_true (hc1 _ hm)
    exact ⟨_, if_pos this⟩

/-- WHAT THE EVALUATOR SAYS OF A FUNCTION WITHOUT ARGUMENTS AT THE START, THE PROGRAM DOES WHEREVER THE VARIABLES ARE WHAT THEY WERE. -/
theorem const_of {P : Program} {tab : Tab} {d : Nat} {f : FuncId} {gs : List (Nat × List CV)} {v : CV} {u : Value} (hc : CallOK P tab (callN (β := CV) tab d))
    (hcov : covers gs tab.ng = true) (hfl : gs.all (fun x => x.2.all fun c => c.flat.isSome) = true) (hv : v.flat = some u)
    (he : callN (β := CV) tab d (.fn f [] []) [] (heapT gs .nil) tab.ng (fun v _ _ => .ok v) = .ok v) : ConstIs P f gs v := by
  simp only [List.all_eq_true] at hfl
  refine ⟨fun x hx c hm => hfl x hx c hm, u, hv, fun w hp => ?_⟩
  obtain ⟨v', h', nx', e, _, H⟩ := hc _ _ _ _ _ _ he
  cases e
  obtain ⟨hgood, _⟩ := H (sg0 tab.ng w) #[] w rfl (start_rel hcov hp)
  refine Good.mono hgood fun v' w' ⟨σ', hrel, hr, st⟩ => ⟨CV.rel_flat hv hrel, st.size, fun b hb => st.frame b hb ?_, st.tape, st.os, st.output⟩
  rintro ⟨c, L, B, _, hB, hrw, _⟩
  rcases heapT_get gs .nil hB with ⟨l, _, rfl⟩ | h
  · cases hrw
  · simp [T.nil_get] at h
end Go.Can
namespace Go.Can

/-! ## the tables -/

noncomputable def fill {α β : Type} (l : List (Nat × α)) : T α → (T α → Res β) → Res β := List.rec (motive := fun _ => T α → (T α → Res β) → Res β) (fun t k => k t) (fun p _ ih t k => Prod.rec (fun i x => t.setK i x fun t => ih t k) p) l
noncomputable def treeOf {α : Type} (l : List (Nat × α)) : T α := Res.rec (fun t => t) (fun _ => .nil) (fill l .nil .ok)

theorem fill_ok {α β : Type} : ∀ (l : List (Nat × α)) (t : T α) (k : T α → Res β), ∃ t', fill l t k = k t' ∧ ∀ i x, t'.get i = some x → (i, x) ∈ l ∨ t.get i = some x
  | [], t, k => ⟨t, rfl, fun i x h => .inr h⟩
  | (j, y) :: l, t, k => by
    have e : fill ((j, y) :: l) t k = t.setK j y (fun t => fill l t k) := rfl
    rw [e, setK_eq]
    obtain ⟨t', h1, h2⟩ := fill_ok l (t.set j y) k
    refine ⟨t', h1, fun i x h => ?_⟩
    rcases h2 i x h with h | h
    · exact .inl (List.mem_cons_of_mem _ h)
    · rw [T.get_set] at h
      by_cases hi : i = j
      · rw [if_pos hi] at h; cases h; subst hi; exact .inl List.mem_cons_self
      · rw [if_neg hi] at h; exact .inr h

theorem treeOf_mem {α : Type} {l : List (Nat × α)} {i : Nat} {x : α} (h : (treeOf l).get i = some x) : (i, x) ∈ l := by
  obtain ⟨t', h1, h2⟩ := fill_ok (β := T α) l .nil .ok
  have : treeOf l = t' := by unfold treeOf; rw [h1]
  rw [this] at h
  rcases h2 i x h with h | h
  · exact h
  · simp [T.get_nil] at h

def mkTI (i : TypeInfo) (u : TypeDesc) (eq : Bool) : TI :=
  ⟨u, i.size, i.bytes, (match u with | .struct _ => true | .array _ _ => true | _ => false), (match i.zero with | some z => (ofValue z).getD .nilptr | none => .nilptr), eq⟩

def tyChk (i : TypeInfo) : Bool := match i.zero with
  | some z => (ofValue z).isSome && Nat.beq z.cells.size i.size
  | none => false

def TyOK (P : Program) (t : TypeId) (ti : TI) : Prop :=
  (P.underlying t = some ti.u ∧ ∃ i, P.info? t = some i ∧ i.size = ti.size ∧ i.bytes = ti.bytes ∧
    (∃ z, i.zero = some z ∧ ofValue z = some ti.zero ∧ z.cells.size = ti.size) ∧ ti.agg = (match ti.u with | .struct _ => true | .array _ _ => true | _ => false)) ∧
  (ti.eqok = true → P.stoodInHeld t = false ∧ P.eqGuardType P.depth t = false)

theorem ty_mk {P : Program} {t : TypeId} {i : TypeInfo} {u : TypeDesc} {eq : Bool} (h1 : P.types[t]? = some i) (h2 : P.underlying t = some u) (h3 : tyChk i = true)
    (h4 : eq = true → P.stoodInHeld t = false ∧ P.eqGuardType P.depth t = false) : TyOK P t (mkTI i u eq) := by
  unfold tyChk at h3
  split at h3
  · rename_i z hz
    simp only [Bool.and_eq_true] at h3
    obtain ⟨c, hc⟩ := Option.isSome_iff_exists.1 h3.1
    exact ⟨⟨h2, i, by unfold Tables.info?; rw [if_pos (Array.getElem?_eq_some_iff.1 h1).1]; exact h1, rfl, rfl, ⟨z, hz, by simp [mkTI, hz, hc], Nat.eq_of_beq_eq_true h3.2⟩, rfl⟩, h4⟩
  · cases h3

theorem ty_eq {P : Program} {t : TypeId} {i : TypeInfo} {u : TypeDesc} (h1 : P.types[t]? = some i) (h2 : P.underlying t = some u) (h3 : tyChk i = true)
    (h4 : P.stoodInHeld t = false) (h5 : P.eqGuardType P.depth t = false) : TyOK P t (mkTI i u true) := ty_mk h1 h2 h3 fun _ => ⟨h4, h5⟩
theorem ty_no {P : Program} {t : TypeId} {i : TypeInfo} {u : TypeDesc} (h1 : P.types[t]? = some i) (h2 : P.underlying t = some u) (h3 : tyChk i = true) :
    TyOK P t (mkTI i u false) := ty_mk h1 h2 h3 fun h => by cases h

def FnOK (P : Program) (f : FuncId) (fn : Func) : Prop := P.funcs[f]? = some fn ∧ (fn.name == "runtime.NumGoroutine") = false
theorem fn_mk {P : Program} {f : FuncId} {fn : Func} (h : P.funcs[f]? = some fn) (hn : (fn.name == "runtime.NumGoroutine") = false) : FnOK P f fn := ⟨h, hn⟩

/-- each of a list, and the rest -/
def Each {α : Type} (p : α → Prop) : List α → Prop
  | [] => True
  | x :: r => p x ∧ Each p r
theorem Each.mem {α : Type} {p : α → Prop} : ∀ {l : List α}, Each p l → ∀ x ∈ l, p x
  | [], _, x, h => by simp at h
  | y :: l, ⟨h1, h2⟩, x, h => by
    rcases List.mem_cons.1 h with rfl | h
    · exact h1
    · exact Each.mem h2 x h
theorem Each.append {α : Type} {p : α → Prop} : ∀ {l m : List α}, Each p l → Each p m → Each p (l ++ m)
  | [], m, _, h => h
  | x :: l, m, ⟨h1, h2⟩, h => ⟨h1, Each.append h2 h⟩

theorem tabOK_of {P : Program} {tys : List (Nat × TI)} {fns : List (Nat × Func)} {ng : Nat} {prims : T Prim} (h1 : Each (fun x => TyOK P x.1 x.2) tys) (h2 : Each (fun x => FnOK P x.1 x.2) fns) :
    TabOK P ⟨ng, treeOf tys, treeOf fns, prims⟩ where
  types := fun t ti h => (h1.mem _ (treeOf_mem h)).1
  eqs := fun t ti h => (h1.mem _ (treeOf_mem h)).2
  funcs := fun f fn h => h2.mem _ (treeOf_mem h)

theorem primsOK_of {P : Program} {tab : Tab} {ps : List (Nat × Prim)} (he : tab.prims = treeOf ps) (h : Each (fun x => PrimIs P tab x.1 x.2) ps) : ∀ f p, tab.prims.get f = some p → PrimIs P tab f p :=
  fun f p hp => by rw [he] at hp; exact h.mem _ (treeOf_mem hp)
end Go.Can
namespace Go.Can

/-! ## a long run, piece by piece: between the pieces what nobody looks at any more is forgotten -/

noncomputable def keepT {α : Type} (K : T Unit) : T α → T α :=
  T.rec (motive := fun _ => T α → T α) (fun _ => .nil)
    (fun v _ _ _ _ i0 i1 i2 i3 t => T.rec (motive := fun _ => T α) .nil (fun x c0 c1 c2 c3 _ _ _ _ => .node (Option.rec none (fun _ => x) v) (i0 c0) (i1 c1) (i2 c2) (i3 c3)) t) K

theorem getP_keep {α : Type} : ∀ (p : Path) (K : T Unit) (t : T α) (x : α), getP p (keepT K t) = some x → getP p t = some x := by
  intro p
  induction p with
  | z =>
    intro K t x h
    cases K with
    | nil => rw [show keepT .nil t = (.nil : T α) from rfl, getP_nil] at h; cases h
    | node v a b c d =>
      cases t with
      | nil => rw [show keepT (.node v a b c d) .nil = (.nil : T α) from rfl, getP_nil] at h; cases h
      | node y a' b' c' d' =>
        cases v with
        | none => cases h
        | some u => exact h
  | a p ih | b p ih | c p ih | d p ih =>
    intro K t x h
    cases K with
    | nil => rw [show keepT .nil t = (.nil : T α) from rfl, getP_nil] at h; cases h
    | node v a b c d =>
      cases t with
      | nil => rw [show keepT (.node v a b c d) .nil = (.nil : T α) from rfl, getP_nil] at h; cases h
      | node y a' b' c' d' => exact ih _ _ _ h

theorem T.get_keep {α : Type} {K : T Unit} {t : T α} {n : Nat} {x : α} (h : (keepT K t).get n = some x) : t.get n = some x := getP_keep _ _ _ _ h

abbrev St := Ex × T CV × List Df × T Blk × Nat

noncomputable def cutK (K1 K2 : T Unit) : KC St := fun ex t df h nx => .ok (ex, keepT K1 t, df, keepT K2 h, nx)

section
variable {P : Program} {tab : Tab}

theorem After.keep {G : Nat} {fi : FI} {σ : Sg} {h : T Blk} {w : World} {a : Act} {t' : T CV} {df' : List Df} {h' : T Blk} {nx' : Nat} {a' : Act} {w' : World} (K1 K2 : T Unit)
    (r : After G fi σ h w a t' df' h' nx' a' w') : After G fi σ h w a (keepT K1 t') df' (keepT K2 h') nx' a' w' := by
  obtain ⟨σ', ha, hr, st, hs⟩ := r
  exact ⟨σ', ⟨fun n c e => ha.tmp n c (T.get_keep e), ha.size, ha.dfr⟩, hr.sub fun c B e => T.get_keep e, st.trans (Step.sub σ' w' fun c B e => T.get_keep e), hs⟩

/-- a piece of code brings a canonical state to another -/
def Seg (P : Program) (tab : Tab) (fi : FI) (c : Code) (t : T CV) (df : List Df) (h : T Blk) (nx : Nat) (s : St) : Prop :=
  ∀ (σ : Sg) (a : Act) (w : World) (n : Nat) (rnd : Option Nat), (fi.round = none → rnd = none) → ARel σ fi t df a → HRel tab.ng σ h nx w →
    ∀ Q : Exit → Act → World → Prop, (∀ a' w', After tab.ng fi σ h w a s.2.1 s.2.2.1 s.2.2.2.1 s.2.2.2.2 a' w' → Q (exitOf s.1) a' w') → c.wpIn (FW rnd) n P Q a w

def Rnds (P : Program) (tab : Tab) (fi : FI) (c : Code) (m : Nat) (t : T CV) (df : List Df) (h : T Blk) (nx : Nat) (s : St) : Prop :=
  ∀ (σ : Sg) (a : Act) (w : World) (n : Nat) (rnd : Option Nat), (fi.round = none → rnd = none) → ARel σ fi t df a → HRel tab.ng σ h nx w →
    ∀ Q : Exit → Act → World → Prop, (∀ a' w', After tab.ng fi σ h w a s.2.1 s.2.2.1 s.2.2.2.1 s.2.2.2.2 a' w' → Q (exitOf s.1) a' w') → Code.roundsIn (FW rnd) n P c Q m a w

theorem Seg.of {fi : FI} {c : Code} {run : T CV → List Df → T Blk → Nat → KC St → Res St} (hc : CodeOK P tab fi run c) {K1 K2 : T Unit} {t : T CV} {df : List Df} {h : T Blk} {nx : Nat} {s : St}
    (e : run t df h nx (cutK K1 K2) = .ok s) : Seg P tab fi c t df h nx s := by
  obtain ⟨ex, t', df', h', nx', e, _, H⟩ := hc e
  cases e
  exact fun σ a w n rnd hrd ha hr Q hQ => H σ a w n rnd hrd ha hr Q fun a' w' hA => hQ a' w' (hA.keep K1 K2)

theorem Seg.seq {fi : FI} {x y : Code} {t : T CV} {df : List Df} {h : T Blk} {nx : Nat} {t₁ : T CV} {df₁ : List Df} {h₁ : T Blk} {nx₁ : Nat} {s : St}
    (a : Seg P tab fi x t df h nx (.normal, t₁, df₁, h₁, nx₁)) (b : Seg P tab fi y t₁ df₁ h₁ nx₁ s) : Seg P tab fi (.seq x y) t df h nx s :=
  fun σ ac w n rnd hrd ha hr Q hQ => wpIn_seq (a σ ac w n rnd hrd ha hr _ fun a' w' hA => by
    obtain ⟨σ₁, ha₁, hr₁, hst, hs⟩ := hA
    exact b σ₁ a' w' n rnd hrd ha₁ hr₁ Q fun a'' w'' hB => hQ a'' w'' (After.trans hst hs hB))

theorem Seg.block {fi : FI} {x : Code} {id : Nat} {t : T CV} {df : List Df} {h : T Blk} {nx : Nat} {t₁ : T CV} {df₁ : List Df} {h₁ : T Blk} {nx₁ : Nat}
    (a : Seg P tab fi x t df h nx (.exit id, t₁, df₁, h₁, nx₁)) : Seg P tab fi (.block id x) t df h nx (.normal, t₁, df₁, h₁, nx₁) :=
  fun σ ac w n rnd hrd ha hr Q hQ => wpIn_block (a σ ac w n rnd hrd ha hr _ fun a' w' hA => by
    simp only [exitOf, Exit.inBlock, if_pos]
    exact hQ a' w' hA)

theorem Seg.loop {fi : FI} {x : Code} {m : Nat} {t : T CV} {df : List Df} {h : T Blk} {nx : Nat} {s : St} (a : Rnds P tab fi x m t df h nx s) : Seg P tab fi (.loop x) t df h nx s :=
  fun σ ac w n rnd hrd ha hr Q hQ => wpIn_loop_rounds m (a σ ac w n rnd hrd ha hr Q hQ)

theorem codeOK_of (TO : TabOK P tab) (PO : PrimOK P tab St) (MO : P.follows .mixedOrders = true) (d : Nat) (fi : FI) (c : Code) : CodeOK P tab fi (runCode (β := St) c tab (callN tab d) fi) c := by
  intro t df h nx k r e
  exact code_ok TO (sound TO PO MO d) (draw_ok TO MO (sound TO PO MO d)) fi c e

/-- some rounds -/
noncomputable def loopSeg (body : T CV → List Df → T Blk → Nat → KC St → Res St) (K1 K2 : T Unit) (n : Nat) : T CV → List Df → T Blk → Nat → Res St :=
  Nat.rec (motive := fun _ => T CV → List Df → T Blk → Nat → Res St) (fun t df h nx => cutK K1 K2 .normal t df h nx)
    (fun _ ih t df h nx => body t df h nx fun ex t df h nx => Ex.rec (ih t df h nx) (fun i => cutK K1 K2 (.exit i) t df h nx) (cutK K1 K2 .ret t df h nx) ex) n

theorem Rnds.more {fi : FI} {x : Code} {run : T CV → List Df → T Blk → Nat → KC St → Res St} (hc : CodeOK P tab fi run x) {K1 K2 : T Unit} {t' : T CV} {df' : List Df} {h' : T Blk} {nx' m : Nat} {s : St} (a : Rnds P tab fi x m t' df' h' nx' s) :
    ∀ (r : Nat) {t : T CV} {df : List Df} {h : T Blk} {nx : Nat}, loopSeg run K1 K2 r t df h nx = .ok (.normal, t', df', h', nx') → Rnds P tab fi x (m + r) t df h nx s
  | 0, t, df, h, nx, e => by
    cases e
    intro σ ac w n rnd hrd ha hr Q hQ
    have hA := After.keep K1 K2 (After.refl (G := tab.ng) (fi := fi) ha hr)
    obtain ⟨σ₁, ha₁, hr₁, hst, hs⟩ := hA
    exact a σ₁ ac w n rnd hrd ha₁ hr₁ Q fun a'' w'' hB => hQ a'' w'' (After.trans hst hs hB)
  | r + 1, t, df, h, nx, e => by
    obtain ⟨ex, t₁, df₁, h₁, nx₁, e, hle₁, H₁⟩ := hc (show run t df h nx _ = .ok _ from e)
    cases ex with
    | normal =>
      have ih := Rnds.more hc a r (show loopSeg run K1 K2 r t₁ df₁ h₁ nx₁ = .ok _ from e)
      intro σ ac w n rnd hrd ha hr Q hQ
      refine H₁ σ ac w n rnd hrd ha hr _ fun a' w' hA => ?_
      obtain ⟨σ₁, ha₁, hr₁, hst, hs⟩ := hA
      exact ih σ₁ a' w' n rnd hrd ha₁ hr₁ Q fun a'' w'' hB => hQ a'' w'' (After.trans hst hs hB)
    | exit i => cases e
    | ret => cases e

theorem Rnds.last {fi : FI} {x : Code} {run : T CV → List Df → T Blk → Nat → KC St → Res St} (hc : CodeOK P tab fi run x) {K1 K2 : T Unit} {i : Nat} {t' : T CV} {df' : List Df} {h' : T Blk} {nx' : Nat} :
    ∀ (r : Nat) {t : T CV} {df : List Df} {h : T Blk} {nx : Nat}, loopSeg run K1 K2 r t df h nx = .ok (.exit i, t', df', h', nx') → Rnds P tab fi x r t df h nx (.exit i, t', df', h', nx')
  | 0, t, df, h, nx, e => by cases e
  | r + 1, t, df, h, nx, e => by
    obtain ⟨ex, t₁, df₁, h₁, nx₁, e, hle₁, H₁⟩ := hc (show run t df h nx _ = .ok _ from e)
    cases ex with
    | normal =>
      have ih := Rnds.last hc r (show loopSeg run K1 K2 r t₁ df₁ h₁ nx₁ = .ok _ from e)
      intro σ ac w n rnd hrd ha hr Q hQ
      refine H₁ σ ac w n rnd hrd ha hr _ fun a' w' hA => ?_
      obtain ⟨σ₁, ha₁, hr₁, hst, hs⟩ := hA
      exact ih σ₁ a' w' n rnd hrd ha₁ hr₁ Q fun a'' w'' hB => hQ a'' w'' (After.trans hst hs hB)
    | exit j =>
      cases e
      exact fun σ ac w n rnd hrd ha hr Q hQ => H₁ σ ac w n rnd hrd ha hr _ fun a' w' hA => hQ a' w' (hA.keep K1 K2)
    | ret => cases e

/-- A FUNCTION WITHOUT ARGUMENTS, by its body's pieces -/
theorem const_of_seg (TO : TabOK P tab) {f : FuncId} {fn : Func} {body : Code} {gs : List (Nat × List CV)} {v : CV} {u : Value} {r0 : Nat} {h' : T Blk} {nx' : Nat} {t' : T CV}
    (hf : P.funcs[f]? = some fn) (hname : (fn.name == "runtime.NumGoroutine") = false) (hb : fn.body = some body) (hres : fn.results = #[.tmp r0])
    (hcov : covers gs tab.ng = true) (hfl : gs.all (fun x => x.2.all fun c => c.flat.isSome) = true) (hv : v.flat = some u) (ht : t'.get r0 = some v)
    (e : Seg P tab ⟨fn.ntmps, none⟩ body .nil [] (heapT gs .nil) tab.ng (.ret, t', [], h', nx')) : ConstIs P f gs v := by
  simp only [List.all_eq_true] at hfl
  refine ⟨fun x hx c hm => hfl x hx c hm, u, hv, fun w hp => ?_⟩
  have hr := start_rel hcov hp
  have hn : ¬ fn.name = "runtime.NumGoroutine" := by simpa using hname
  have h1 : (callFunc f #[]).run P w = .ok (.enter f #[]) w := by simp [callFunc, hf, hn, hb]
  rw [h1]
  have ha : ARel (sg0 tab.ng w) ⟨fn.ntmps, none⟩ .nil [] { tmps := #[] ++ Array.replicate (fn.ntmps - 0) undef, defers := [] } :=
    ⟨(fun i c hi => by rw [T.get_nil] at hi; cases hi), by simp, rfl⟩
  refine Good.enter fun n => callsIn_of_wp_marks hf hb trivial (e (sg0 tab.ng w) _ w n none (fun _ => rfl) ha hr _ fun a' w' hA => ?_)
  obtain ⟨σ₁, ha₁, hr₁, st₁, _⟩ := hA
  obtain ⟨y, hy, hrel⟩ := ha₁.tmp r0 v ht
  have hrun : (results fn a'.tmps).run P w' = .ok y w' := by
    rw [results_eq, hres]
    simp [resVal, Array.getD_eq_getD_getElem?, hy]
  have hdn : a'.defers = [] := ha₁.dfr
  show LeavesInM Fence.wide n P fn a'.tmps _ a'.defers .returning w'
  rw [hdn]
  refine ⟨y, hrun, CV.rel_flat hv hrel, st₁.size, fun b hb => st₁.frame b hb ?_, st₁.tape, st₁.os, st₁.output⟩
  rintro ⟨c, L, B, _, hB, hrw, _⟩
  rcases heapT_get gs .nil hB with ⟨l, _, rfl⟩ | h
  · cases hrw
  · simp [T.get_nil] at h
end
end Go.Can
namespace Go.Can
theorem mapM_flat_all : ∀ {l : List CV}, l.all (fun c => c.flat.isSome) = true → l.mapM CV.flat = some (l.map fun c => c.flat.getD undef)
  | [], _ => rfl
  | c :: l, h => by
    simp only [List.all_cons, Bool.and_eq_true] at h
    obtain ⟨v, hv⟩ := Option.isSome_iff_exists.1 h.1
    simp [List.mapM_cons, hv, mapM_flat_all h.2]

theorem laidRow_mk {P : Program} {n : String} {d : DataW Unit} {g : Nat} {l : List CV} {t : TypeId} (h1 : P.globalNamed n = some g) (h2 : (P.globals[g]?).map (·.type) = some t) (h3 : flatTy P 6 t = true)
    (h4 : l.all (fun c => c.flat.isSome) = true) (h5 : ∀ w, DataW.trod (fun _ => ()) P w 0 (fun _ => true) false 6 t (l.map fun c => c.flat.getD undef) = some (d, [])) : LaidRow P n d g l :=
  ⟨h1, t, h2, h3, _, [], mapM_flat_all h4, h5⟩
end Go.Can
namespace Go.Can
variable {β : Type}

/-! ## the evaluator as rules to rewrite by -/

@[congr] theorem optK_congr {α : Type} {c : Nat} {x y : Option α} {k : α → Res β} (h : x = y) : optK c x k = optK c y k := by rw [h]
@[congr] theorem grd_congr {c : Nat} {b b' : Bool} {k : Res β} (h : b = b') : grd c b k = grd c b' k := by rw [h]
theorem optK_some {α : Type} (c : Nat) (a : α) (k : α → Res β) : optK c (some a) k = k a := Eq.trans rfl rfl
theorem grd_true (c : Nat) (k : Res β) : grd c true k = k := Eq.trans rfl rfl

theorem bAdd_eq (k : IntKind) (a b : Int) (c : CV → Res β) : bAdd k a b c = c (.int k (k.wrap (a + b))) := by
  unfold bAdd
  refine nat2_cases (fun x => x = _) a b _ _ (fun m n hm hn => ?_) (intK_eq _ _)
  rw [wrapN_eq]; subst hm; subst hn; rfl
theorem bSub_eq (k : IntKind) (a b : Int) (c : CV → Res β) : bSub k a b c = c (.int k (k.wrap (a - b))) := by
  unfold bSub
  refine nat2_cases (fun x => x = _) a b _ _ (fun m n hm hn => ?_) (intK_eq _ _)
  cases h : Nat.ble n m with
  | false => exact intK_eq _ _
  | true =>
    show wrapN k (Nat.sub m n) _ = _
    rw [wrapN_eq]; subst hm; subst hn
    have : n ≤ m := Nat.le_of_ble_eq_true h
    have e : ((Nat.sub m n : Nat) : Int) = (m : Int) - n := by show ((m - n : Nat) : Int) = _; omega
    rw [e]
theorem bLt_eq (k : IntKind) (a b : Int) (c : CV → Res β) : bLt k a b c = c (.bool (decide (a < b))) := by
  unfold bLt
  refine nat2_cases (fun x => x = _) a b _ _ (fun m n hm hn => ?_) (boolK_eq _ _)
  rw [boolK_eq, blt_eq]; subst hm; subst hn; rfl
theorem bLe_eq (k : IntKind) (a b : Int) (c : CV → Res β) : bLe k a b c = c (.bool (decide (a ≤ b))) := by
  unfold bLe
  refine nat2_cases (fun x => x = _) a b _ _ (fun m n hm hn => ?_) (boolK_eq _ _)
  rw [boolK_eq, ble_eq]; subst hm; subst hn; rfl
theorem bGt_eq (k : IntKind) (a b : Int) (c : CV → Res β) : bGt k a b c = c (.bool (decide (b < a))) := by
  unfold bGt
  refine nat2_cases (fun x => x = _) a b _ _ (fun m n hm hn => ?_) (boolK_eq _ _)
  rw [boolK_eq, blt_eq]; subst hm; subst hn; rfl
theorem bGe_eq (k : IntKind) (a b : Int) (c : CV → Res β) : bGe k a b c = c (.bool (decide (b ≤ a))) := by
  unfold bGe
  refine nat2_cases (fun x => x = _) a b _ _ (fun m n hm hn => ?_) (boolK_eq _ _)
  rw [boolK_eq, ble_eq]; subst hm; subst hn; rfl
theorem bEq_eq (k : IntKind) (a b : Int) (c : CV → Res β) : bEq k a b c = c (.bool (decide (a = b))) := by
  have e : (a == b) = decide (a = b) := Eq.trans rfl rfl
  unfold bEq
  refine nat2_cases (fun x => x = _) a b _ _ (fun m n hm hn => ?_) (by rw [boolK_eq, e])
  rw [boolK_eq, beq_eq]; subst hm; subst hn; rfl
theorem bNe_eq (k : IntKind) (a b : Int) (c : CV → Res β) : bNe k a b c = c (.bool (!decide (a = b))) := by
  unfold bNe
  refine nat2_cases (fun x => x = _) a b _ _ (fun m n hm hn => ?_) (by rw [boolK_eq]; rfl)
  rw [boolK_eq, beq_eq]; subst hm; subst hn; rfl
theorem bQuo_eq (k : IntKind) (a : Int) (b : Nat) (hb : 0 < b) (ha : 0 ≤ a) (c : CV → Res β) : bQuo k a (b : Int) c = c (.int k (k.wrap (a / b))) := by
  obtain ⟨m, rfl⟩ := Int.eq_ofNat_of_zero_le ha
  cases b with
  | zero => omega
  | succ b => exact wrapN_eq _ _ _
theorem bRem_eq (k : IntKind) (a : Int) (b : Nat) (hb : 0 < b) (ha : 0 ≤ a) (c : CV → Res β) : bRem k a (b : Int) c = c (.int k (a % b)) := by
  obtain ⟨m, rfl⟩ := Int.eq_ofNat_of_zero_le ha
  cases b with
  | zero => omega
  | succ b => exact (show natK (Nat.mod m (b + 1)) (fun n => c (.int k (.ofNat n))) = _ from natK_eq _ _)

theorem kEq_same (k : IntKind) : kEq k k = true := by cases k <;> rfl

/-- one of the numbers' operations -/
def binR (op : BinOp) (k : IntKind) (a b : Int) : CV :=
  match op with
  | .add => .int k (k.wrap (a + b))
  | .sub => .int k (k.wrap (a - b))
  | .lss => .bool (decide (a < b))
  | .leq => .bool (decide (a ≤ b))
  | .gtr => .bool (decide (b < a))
  | .geq => .bool (decide (b ≤ a))
  | .eql => .bool (decide (a = b))
  | .neq => .bool (!decide (a = b))
  | _ => .tup []

def binEasy (op : BinOp) : Bool :=
  match op with
  | .add | .sub | .lss | .leq | .gtr | .geq | .eql | .neq => true
  | _ => false

theorem binCV_eq {tab : Tab} {op : BinOp} {ty : TypeId} {k : IntKind} {a b : Int} {c : CV → Res β} (h : binEasy op = true) : binCV tab op ty (.int k a) (.int k b) c = c (binR op k a b) := by
  unfold binCV
  cases op <;> first | (cases h; done) | skip
  all_goals simp only [isShift, kEq_same, Bool.or_true, grd_true, binT, binR, bAdd_eq, bSub_eq, bLt_eq, bLe_eq, bGt_eq, bGe_eq, bEq_eq, bNe_eq]

section
variable {tab : Tab} {call : CallT β} {t : T CV} {h : T Blk} {nx : Nat} {k : K β}

theorem evO_tmp (n : Tmp) (c : CV → Res β) : evO (.tmp n) tab t c = optK 1 (t.get n) c := Eq.trans rfl rfl
theorem evO_const (v : Value) (c : CV → Res β) : evO (.const v) tab t c = optK 2 (ofValue v) c := Eq.trans rfl rfl
theorem evO_func (f : FuncId) (c : CV → Res β) : evO (.func f) tab t c = c (.fn f [] []) := Eq.trans rfl rfl
theorem evOs_nil (c : List CV → Res β) : evOs [] tab t c = c [] := Eq.trans rfl rfl
theorem evOs_cons (o : Operand) (l : List Operand) (c : List CV → Res β) : evOs (o :: l) tab t c = evO o tab t fun v => evOs l tab t fun vs => c (v :: vs) := Eq.trans rfl rfl

theorem ev_move (x : Operand) : evOp (.move x) tab call t h nx k = evO x tab t fun v => k v h nx := Eq.trans rfl rfl
theorem ev_assign (x : Operand) : evOp (.assign x) tab call t h nx k = evO x tab t fun v => k v h nx := Eq.trans rfl rfl
noncomputable def pickK (c : CV) (a b : Res β) : Res β :=
  match c with
  | .bool c => Bool.rec b a c
  | _ => .bad 30
theorem pickK_true (a b : Res β) : pickK (.bool true) a b = a := Eq.trans rfl rfl
theorem pickK_false (a b : Res β) : pickK (.bool false) a b = b := Eq.trans rfl rfl
@[congr] theorem pickK_congr {c d : CV} {a b : Res β} (h : c = d) : pickK c a b = pickK d a b := by rw [h]
theorem ev_pick (c a b : Operand) : evOp (.pick c a b) tab call t h nx k = evO c tab t fun c => pickK c (evO a tab t fun v => k v h nx) (evO b tab t fun v => k v h nx) := by
  show opPick c a b tab call t h nx k = _
  unfold opPick
  congr 1
theorem ev_alloc (e : TypeId) : evOp (.alloc e) tab call t h nx k = tyK tab e fun ti => newCells ti.zero.cells h nx fun b h nx => k (.ptr b 0) h nx := Eq.trans rfl rfl
theorem ev_box (e : TypeId) (x : Operand) : evOp (.box e x) tab call t h nx k = evO x tab t fun v => newCells v.cells h nx fun b h nx => k (.ptr b 0) h nx := Eq.trans rfl rfl
theorem ev_bin (op : BinOp) (ty : TypeId) (x y : Operand) (ty' : TypeId) : evOp (.binOp op ty x y ty') tab call t h nx k = evO x tab t fun a => evO y tab t fun b => binCV tab op ty a b fun v => k v h nx := Eq.trans rfl rfl
theorem ev_extract (x : Operand) (i : Nat) : evOp (.extract x i) tab call t h nx k = evO x tab t fun v => match v with
  | .tup vs => optK 88 vs[i]? fun v => k v h nx
  | _ => .bad 89 := Eq.trans rfl rfl
theorem ev_call (f : Operand) (args : Array Operand) (tys : Array TypeId) : evOp (.call { callee := .value f, args := args, argTypes := tys }) tab call t h nx k =
  evOs args.toList tab t fun args => evO f tab t fun f => grd 102 (notMapV f) <| call f args h nx k := Eq.trans rfl rfl
theorem ev_builtin (b : Builtin) (args : Array Operand) (tys : Array TypeId) : evOp (.call { callee := .builtin b, args := args, argTypes := tys }) tab call t h nx k =
  evOs args.toList tab t fun args => opBuiltin b tys.toList args tab h nx k := Eq.trans rfl rfl
theorem ev_load (ty : TypeId) (a : Operand) : evOp (.load ty a) tab call t h nx k = evO a tab t fun a => match a with
  | .ptr b o => tyK tab ty fun ti => getVar ti h b o fun v => k v h nx
  | _ => .bad 37 := Eq.trans rfl rfl
theorem ev_store (ty : TypeId) (a x : Operand) : evOp (.store ty a x) tab call t h nx k = evO a tab t fun a => match a with
  | .ptr b o => evO x tab t fun v => tyK tab ty fun ti => grd 38 (Nat.beq (lenN v.cells) ti.size) <| putCells v.cells h b o fun h => k (.tup []) h nx
  | _ => .bad 39 := Eq.trans rfl rfl
theorem ev_not (ty : TypeId) (x : Operand) : evOp (.unOp .not ty x) tab call t h nx k = evO x tab t fun a => match a with
  | .bool b => k (.bool (!b)) h nx
  | _ => .bad 43 := by
  show opUn .not ty x tab call t h nx k = _
  unfold opUn
  congr 1
  funext a
  cases a <;> first | rfl | exact boolK_eq _ _
theorem ev_fieldAddr (ty : TypeId) (x : Operand) (f : Nat) : evOp (.fieldAddr ty x f) tab call t h nx k = tyK tab ty fun ti => match ti.u with
  | .struct fs => fieldAt tab fs.toList f fun off sz => grd 61 (Nat.blt 0 sz) <| evO x tab t fun a => match a with
    | .ptr b o => natK (Nat.add o off) fun o => k (.ptr b o) h nx
    | _ => .bad 62
  | _ => .bad 63 := Eq.trans rfl rfl
theorem ev_indexAddr (ty : TypeId) (x i : Operand) : evOp (.indexAddr ty x i) tab call t h nx k = tyK tab ty fun ti => evO x tab t fun a => evO i tab t fun i => natOf i fun i => match ti.u, a with
  | .array len e, .ptr b o => grd 70 (Nat.blt i len) <| tyK tab e fun te => natK (Nat.add o (Nat.mul i te.size)) fun o => k (.ptr b o) h nx
  | .slice e, .slice b o len _ => grd 71 (Nat.blt i len) <| tyK tab e fun te => natK (Nat.add o (Nat.mul i te.size)) fun o => k (.ptr b o) h nx
  | _, _ => .bad 72 := Eq.trans rfl rfl

/-- a conversion between kinds of numbers -/
theorem ev_convert (src dst : TypeId) (x : Operand) {ts td : TI} {k1 k2 k3 : IntKind} {n : Int} (h1 : tab.types.get src = some ts) (h2 : tab.types.get dst = some td) (u1 : ts.u = .int k1) (u2 : td.u = .int k2)
    (hx : ∀ c : CV → Res β, evO x tab t c = c (.int k3 n)) : evOp (.convert src dst x) tab call t h nx k = k (.int k2 (k2.wrap n)) h nx := by
  show opConvert src dst x tab call t h nx k = _
  unfold opConvert
  rw [hx]
  simp only [tyK, h1, h2, optK_some, u1, u2]
  cases n with
  | ofNat m => exact wrapN_eq _ _ _
  | negSucc m => exact intK_eq _ _

theorem natOf_nat (kd : IntKind) (n : Nat) (c : Nat → Res β) : natOf (.int kd (n : Int)) c = c n := Eq.trans rfl rfl
theorem tyK_eq (ty : TypeId) (c : TI → Res β) : tyK tab ty c = optK 5 (tab.types.get ty) c := Eq.trans rfl rfl
end

/-! ## compact code -/

structure SOp where
  d : Option Tmp
  o : Op
  g : Option (Tmp × Bool)

inductive SC where
  | skip
  | reg (l : List SOp)
  | draw (ops : Array Oper)
  | seq (a b : SC)
  | cond (c : Operand) (a b : SC)
  | block (id : Nat) (a : SC)
  | loop (a : SC)
  | exit (id : Nat)
  | ret

noncomputable def wantS (v : CV) (w : Bool) (a b : Res β) : Res β :=
  match v with
  | .bool x => Bool.rec b a (eqB x w)
  | _ => b
@[congr] theorem wantS_congr {v v' : CV} {w : Bool} {a b : Res β} (h : v = v') : wantS v w a b = wantS v' w a b := by rw [h]
theorem wantS_tt (a b : Res β) : wantS (.bool true) true a b = a := Eq.trans rfl rfl
theorem wantS_tf (a b : Res β) : wantS (.bool true) false a b = b := Eq.trans rfl rfl
theorem wantS_ft (a b : Res β) : wantS (.bool false) true a b = b := Eq.trans rfl rfl
theorem wantS_ff (a b : Res β) : wantS (.bool false) false a b = a := Eq.trans rfl rfl

abbrev KS (β : Type) := T CV → T Blk → Nat → Res β

noncomputable def runS (tab : Tab) (call : CallT β) (fi : FI) : List SOp → T CV → T Blk → Nat → KS β → Res β
  | [], t, h, nx, k => k t h nx
  | ⟨d, o, none⟩ :: l, t, h, nx, k => evOp o tab call t h nx fun v h nx => putT fi d v t fun t => runS tab call fi l t h nx k
  | ⟨d, o, some (g, w)⟩ :: l, t, h, nx, k => optK 132 (t.get g) fun v => wantS v w (evOp o tab call t h nx fun v h nx => putT fi d v t fun t => runS tab call fi l t h nx k)
      (putT fi d (.tup []) t fun t => runS tab call fi l t h nx k)

@[congr] theorem runS_congr {tab : Tab} {call : CallT β} {fi : FI} {l : List SOp} {t t' : T CV} {h h' : T Blk} {nx : Nat} {k : KS β} (e1 : t = t') (e2 : h = h') : runS tab call fi l t h nx k = runS tab call fi l t' h' nx k := by rw [e1, e2]

section
variable {tab : Tab} {call : CallT β} {fi : FI}

theorem runS_nil (t : T CV) (h : T Blk) (nx : Nat) (k : KS β) : runS tab call fi [] t h nx k = k t h nx := by unfold runS; rfl
theorem runS_op (d : Option Tmp) (o : Op) (l : List SOp) (t : T CV) (h : T Blk) (nx : Nat) (k : KS β) :
    runS tab call fi (⟨d, o, none⟩ :: l) t h nx k = evOp o tab call t h nx fun v h nx => putT fi d v t fun t => runS tab call fi l t h nx k := by rw [runS]
theorem runS_if (d : Option Tmp) (o : Op) (g : Tmp) (w : Bool) (l : List SOp) (t : T CV) (h : T Blk) (nx : Nat) (k : KS β) :
    runS tab call fi (⟨d, o, some (g, w)⟩ :: l) t h nx k = optK 132 (t.get g) fun v => wantS v w (evOp o tab call t h nx fun v h nx => putT fi d v t fun t => runS tab call fi l t h nx k)
      (putT fi d (.tup []) t fun t => runS tab call fi l t h nx k) := by rw [runS]
theorem putT_none (v : CV) (t : T CV) (k : T CV → Res β) : putT fi none v t k = k t := Eq.trans rfl rfl
theorem putT_some (n : Nat) (r : Option Nat) (d : Tmp) (v : CV) (t : T CV) (k : T CV → Res β) : putT ⟨n, r⟩ (some d) v t k = grd 130 (Nat.blt d n) (k (t.set d v)) := by
  show grd 130 (Nat.blt d n) (t.setK d v k) = _
  rw [setK_eq]

def compOps (ops : Array Oper) : List Oper → Option (List SOp)
  | [] => some []
  | o :: l => match isDefer o.op, o.guard, compOps ops l with
    | none, none, some r => some (⟨o.dst, o.op, none⟩ :: r)
    | none, some (j, w), some r => match guardTmp ops j with
      | some g => some (⟨o.dst, o.op, some (g, w)⟩ :: r)
      | none => none
    | _, _, _ => none

def comp : Code → Option SC
  | .skip => some .skip
  | .region _ ops false => (compOps ops ops.toList).map .reg
  | .region _ ops true => some (.draw ops)
  | .seq a b => match comp a, comp b with
    | some x, some y => some (.seq x y)
    | _, _ => none
  | .cond c a b => match comp a, comp b with
    | some x, some y => some (.cond c x y)
    | _, _ => none
  | .block i a => (comp a).map (.block i)
  | .loop a => (comp a).map .loop
  | .exit i => some (.exit i)
  | .ret => some .ret
  | .scope a => comp a
  | _ => none

noncomputable def runC : SC → CodeT β
  | .skip => fun _ _ _ t df h nx k => k .normal t df h nx
  | .reg l => fun tab call fi t df h nx k => runS tab call fi l t h nx fun t h nx => k .normal t df h nx
  | .draw ops => rcRegion ops true
  | .seq a b => rcSeq (runC a) (runC b)
  | .cond c a b => rcCond c (runC a) (runC b)
  | .block i a => rcBlock i (runC a)
  | .loop a => rcLoop (runC a)
  | .exit i => fun _ _ _ t df h nx k => k (.exit i) t df h nx
  | .ret => fun _ _ _ t df h nx k => k .ret t df h nx

theorem compOps_ok (ops : Array Oper) : ∀ (l : List Oper) (r : List SOp), compOps ops l = some r → ∀ (t : T CV) (df : List Df) (h : T Blk) (nx : Nat) (k : KF β),
    runOps ops tab call fi l t df h nx k = runS tab call fi r t h nx fun t h nx => k t df h nx
  | [], r, e, t, df, h, nx, k => by cases e; rw [runS_nil]; rfl
  | o :: l, r, e, t, df, h, nx, k => by
    unfold compOps at e
    have unf : runOps ops tab call fi (o :: l) t df h nx k = wantK ops o t fun w => Bool.rec
      (putT fi o.dst (.tup []) t fun t => runOps ops tab call fi l t df h nx k)
      (Option.rec (evOp o.op tab call t h nx fun v h nx => putT fi o.dst v t fun t => runOps ops tab call fi l t df h nx k)
        (fun c => deferK tab fi c t df fun df => putT fi o.dst (.tup []) t fun t => runOps ops tab call fi l t df h nx k) (isDefer o.op)) w := Eq.trans rfl rfl
    split at e
    · rename_i r' h1 h2 h3
      cases e
      have ih := compOps_ok ops l _ h3
      rw [unf, runS_op, h1]
      unfold wantK
      rw [h2]
      simp only [ih]
    · rename_i j w r' h1 h2 h3
      have ih := compOps_ok ops l _ h3
      split at e
      · rename_i g hg
        cases e
        rw [unf, runS_if, h1]
        unfold wantK
        rw [h2]
        simp only [hg, optK_some]
        cases hgt : t.get g with
        | none => rfl
        | some v =>
          simp only [optK_some]
          cases v <;> simp only [wantS, boolK_eq, ih]
      · cases e
    · cases e

theorem comp_ok : ∀ (c : Code) (s : SC), comp c = some s → ∀ (t : T CV) (df : List Df) (h : T Blk) (nx : Nat) (k : KC β), runCode c tab call fi t df h nx k = runC s tab call fi t df h nx k := by
  intro c
  induction c with
  | skip => intro s e t df h nx k; cases e; rfl
  | region id ops draw =>
    intro s e t df h nx k
    cases draw with
    | true => cases e; rfl
    | false =>
      simp only [comp, Option.map_eq_some_iff] at e
      obtain ⟨l, hl, rfl⟩ := e
      exact compOps_ok ops _ _ hl t df h nx _
  | seq a b iha ihb =>
    intro s e t df h nx k
    simp only [comp] at e
    split at e
    · rename_i x y hx hy
      cases e
      show rcSeq (runCode a) (runCode b) tab call fi t df h nx k = rcSeq (runC x) (runC y) tab call fi t df h nx k
      unfold rcSeq
      rw [iha x hx]
      congr 1
      funext ex t df h nx
      cases ex with
      | normal => exact ihb y hy _ _ _ _ _
      | exit i => rfl
      | ret => rfl
    · cases e
  | cond c a b iha ihb =>
    intro s e t df h nx k
    simp only [comp] at e
    split at e
    · rename_i x y hx hy
      cases e
      show rcCond c (runCode a) (runCode b) tab call fi t df h nx k = rcCond c (runC x) (runC y) tab call fi t df h nx k
      unfold rcCond
      congr 1
      funext v
      cases v <;> try rfl
      rename_i b
      cases b
      · exact ihb y hy _ _ _ _ _
      · exact iha x hx _ _ _ _ _
    · cases e
  | block i a iha =>
    intro s e t df h nx k
    simp only [comp, Option.map_eq_some_iff] at e
    obtain ⟨x, hx, rfl⟩ := e
    show rcBlock i (runCode a) tab call fi t df h nx k = rcBlock i (runC x) tab call fi t df h nx k
    unfold rcBlock
    rw [iha x hx]
  | loop a iha =>
    intro s e t df h nx k
    simp only [comp, Option.map_eq_some_iff] at e
    obtain ⟨x, hx, rfl⟩ := e
    show rcLoop (runCode a) tab call fi t df h nx k = rcLoop (runC x) tab call fi t df h nx k
    have : runCode a tab call fi = runC x tab call fi := by
      funext t df h nx k; exact iha x hx t df h nx k
    unfold rcLoop
    rw [this]
  | exit i => intro s e t df h nx k; cases e; rfl
  | ret => intro s e t df h nx k; cases e; rfl
  | scope a iha => intro s e t df h nx k; exact iha s e t df h nx k
  | _ => intro s e; simp [comp] at e
end

/-- the operations of a region of code -/
noncomputable def opsIn (i : Nat) : Code → Option (Array Oper)
  | .region j ops _ => cond (Nat.beq i j) (some ops) none
  | .seq a b => (opsIn i a).or (opsIn i b)
  | .cond _ a b => (opsIn i a).or (opsIn i b)
  | .block _ a => opsIn i a
  | .loop a => opsIn i a
  | .rangeFunc _ _ a b => (opsIn i a).or (opsIn i b)
  | .scope a => opsIn i a
  | _ => none
end Go.Can
namespace Go.Can
variable {β : Type}

theorem putAll_nil (n : Nat) (t : T CV) (k : T CV → Res β) : putAll [] n t k = k t := Eq.trans rfl rfl
theorem putAll_cons (v : CV) (l : List CV) (n : Nat) (t : T CV) (k : T CV → Res β) : putAll (v :: l) n t k = putAll l (n + 1) (t.set n v) k := by
  show t.setK n v (fun t => putAll l (n + 1) t k) = _
  rw [setK_eq]

section
variable {tab : Tab}

/-- the end of a call -/
noncomputable def finK (tab : Tab) (rs : List ResultVar) (k : K β) (ex : Ex) (t : T CV) (df : List Df) (h : T Blk) (nx : Nat) : Res β :=
  match ex, df with
  | .exit _, _ => .bad 178
  | _, [] => resultsK tab t h rs fun vs => retK vs h nx k
  | _, _ => .bad 178

theorem finK_ret (rs : List ResultVar) (k : K β) (t : T CV) (h : T Blk) (nx : Nat) : finK tab rs k .ret t [] h nx = resultsK tab t h rs fun vs => retK vs h nx k := Eq.trans rfl rfl
theorem finK_normal (rs : List ResultVar) (k : K β) (t : T CV) (h : T Blk) (nx : Nat) : finK tab rs k .normal t [] h nx = resultsK tab t h rs fun vs => retK vs h nx k := Eq.trans rfl rfl

theorem resultsK_nil (t : T CV) (h : T Blk) (k : List CV → Res β) : resultsK tab t h [] k = k [] := Eq.trans rfl rfl
theorem resultsK_tmp (t : T CV) (h : T Blk) (n : Tmp) (l : List ResultVar) (k : List CV → Res β) : resultsK tab t h (.tmp n :: l) k = optK 160 (t.get n) fun v => resultsK tab t h l fun vs => k (v :: vs) := Eq.trans rfl rfl
theorem resultsK_cell (t : T CV) (h : T Blk) (a : Tmp) (ty : TypeId) (l : List ResultVar) (k : List CV → Res β) : resultsK tab t h (.cell a ty :: l) k = optK 161 (t.get a) fun a => match a with
        | .ptr b o => tyK tab ty fun ti => getVar ti h b o fun v => resultsK tab t h l fun vs => k (v :: vs)
        | _ => .bad 162 := Eq.trans rfl rfl
theorem retK_one (v : CV) (h : T Blk) (nx : Nat) (k : K β) : retK [v] h nx k = k v h nx := Eq.trans rfl rfl
theorem retK_two (u v : CV) (l : List CV) (h : T Blk) (nx : Nat) (k : K β) : retK (u :: v :: l) h nx k = k (.tup (u :: v :: l)) h nx := Eq.trans rfl rfl
theorem retK_nil (h : T Blk) (nx : Nat) (k : K β) : retK [] h nx k = k (.tup []) h nx := Eq.trans rfl rfl

/-- does code leave no deferred call? -/
theorem rcSeq_eq (a b : CodeT β) (call : CallT β) (fi : FI) (t : T CV) (df : List Df) (h : T Blk) (nx : Nat) (k : KC β) :
    rcSeq a b tab call fi t df h nx k = a tab call fi t df h nx fun ex t df h nx => Ex.rec (b tab call fi t df h nx k) (fun i => k (.exit i) t df h nx) (k .ret t df h nx) ex := Eq.trans rfl rfl

/-- where the code of a function goes: what it comes to, whoever waits for it -/
def CG (tab : Tab) (call : CallT β) (fi : FI) (s : SC) (t : T CV) (h : T Blk) (nx : Nat) (Q : Ex → T CV → T Blk → Nat → Prop) : Prop :=
  ∃ ex t' h' nx', Q ex t' h' nx' ∧ ∀ (df : List Df) (k : KC β), runC s tab call fi t df h nx k = k ex t' df h' nx'

/-- what a call comes to -/
def FG (tab : Tab) (d : Nat) (f : FuncId) (args : List CV) (h : T Blk) (nx : Nat) (Q : CV → T Blk → Nat → Prop) : Prop :=
  ∃ v h' nx', Q v h' nx' ∧ ∀ (k : K β), callN tab d (.fn f [] []) args h nx k = k v h' nx'

variable {call : CallT β} {fi : FI}

theorem CG.mono {s : SC} {t : T CV} {h : T Blk} {nx : Nat} {Q R : Ex → T CV → T Blk → Nat → Prop} (a : CG tab call fi s t h nx Q) (hq : ∀ ex t' h' nx', Q ex t' h' nx' → R ex t' h' nx') : CG tab call fi s t h nx R :=
  let ⟨ex, t', h', nx', q, e⟩ := a
  ⟨ex, t', h', nx', hq _ _ _ _ q, e⟩

theorem CG.seq {a b : SC} {t : T CV} {h : T Blk} {nx : Nat} {Q : Ex → T CV → T Blk → Nat → Prop}
    (H : CG tab call fi a t h nx fun ex t h nx => match ex with
      | .normal => CG tab call fi b t h nx Q
      | ex => Q ex t h nx) : CG tab call fi (.seq a b) t h nx Q := by
  obtain ⟨ex, t₁, h₁, nx₁, q, e⟩ := H
  cases ex with
  | normal =>
    obtain ⟨ex, t₂, h₂, nx₂, q, e₂⟩ := q
    exact ⟨ex, t₂, h₂, nx₂, q, fun df k => by
      show rcSeq (runC a) (runC b) tab call fi t df h nx k = _
      unfold rcSeq; rw [e]; exact e₂ df k⟩
  | exit i => exact ⟨_, t₁, h₁, nx₁, q, fun df k => by
      show rcSeq (runC a) (runC b) tab call fi t df h nx k = _
      unfold rcSeq; rw [e]⟩
  | ret => exact ⟨_, t₁, h₁, nx₁, q, fun df k => by
      show rcSeq (runC a) (runC b) tab call fi t df h nx k = _
      unfold rcSeq; rw [e]⟩

theorem CG.skip {t : T CV} {h : T Blk} {nx : Nat} {Q : Ex → T CV → T Blk → Nat → Prop} (q : Q .normal t h nx) : CG tab call fi .skip t h nx Q := ⟨_, t, h, nx, q, fun _ _ => rfl⟩
theorem CG.ret {t : T CV} {h : T Blk} {nx : Nat} {Q : Ex → T CV → T Blk → Nat → Prop} (q : Q .ret t h nx) : CG tab call fi .ret t h nx Q := ⟨_, t, h, nx, q, fun _ _ => rfl⟩
theorem CG.exit {i : Nat} {t : T CV} {h : T Blk} {nx : Nat} {Q : Ex → T CV → T Blk → Nat → Prop} (q : Q (.exit i) t h nx) : CG tab call fi (.exit i) t h nx Q := ⟨_, t, h, nx, q, fun _ _ => rfl⟩

theorem CG.reg {l : List SOp} {t t' : T CV} {h h' : T Blk} {nx nx' : Nat} {Q : Ex → T CV → T Blk → Nat → Prop} (e : ∀ k : KS β, runS tab call fi l t h nx k = k t' h' nx') (q : Q .normal t' h' nx') : CG tab call fi (.reg l) t h nx Q :=
  ⟨_, t', h', nx', q, fun df k => by show runS tab call fi l t h nx _ = _; rw [e]⟩

theorem CG.cond_true {c : Operand} {a b : SC} {t : T CV} {h : T Blk} {nx : Nat} {Q : Ex → T CV → T Blk → Nat → Prop} (hc : ∀ k : CV → Res β, evO c tab t k = k (.bool true)) (H : CG tab call fi a t h nx Q) : CG tab call fi (.cond c a b) t h nx Q := by
  obtain ⟨ex, t₁, h₁, nx₁, q, e⟩ := H
  exact ⟨ex, t₁, h₁, nx₁, q, fun df k => by
    show rcCond c (runC a) (runC b) tab call fi t df h nx k = _
    unfold rcCond; rw [hc]; exact e df k⟩
theorem CG.cond_false {c : Operand} {a b : SC} {t : T CV} {h : T Blk} {nx : Nat} {Q : Ex → T CV → T Blk → Nat → Prop} (hc : ∀ k : CV → Res β, evO c tab t k = k (.bool false)) (H : CG tab call fi b t h nx Q) : CG tab call fi (.cond c a b) t h nx Q := by
  obtain ⟨ex, t₁, h₁, nx₁, q, e⟩ := H
  exact ⟨ex, t₁, h₁, nx₁, q, fun df k => by
    show rcCond c (runC a) (runC b) tab call fi t df h nx k = _
    unfold rcCond; rw [hc]; exact e df k⟩

theorem CG.block {i : Nat} {a : SC} {t : T CV} {h : T Blk} {nx : Nat} {Q : Ex → T CV → T Blk → Nat → Prop}
    (H : CG tab call fi a t h nx fun ex t h nx => match ex with
      | .exit j => if j = i then Q .normal t h nx else Q (.exit j) t h nx
      | ex => Q ex t h nx) : CG tab call fi (.block i a) t h nx Q := by
  obtain ⟨ex, t₁, h₁, nx₁, q, e⟩ := H
  cases ex with
  | normal => exact ⟨_, t₁, h₁, nx₁, q, fun df k => by
      show rcBlock i (runC a) tab call fi t df h nx k = _
      unfold rcBlock; rw [e]⟩
  | ret => exact ⟨_, t₁, h₁, nx₁, q, fun df k => by
      show rcBlock i (runC a) tab call fi t df h nx k = _
      unfold rcBlock; rw [e]⟩
  | exit j =>
    by_cases hj : j = i
    · simp only [if_pos hj] at q
      exact ⟨_, t₁, h₁, nx₁, q, fun df k => by
        show rcBlock i (runC a) tab call fi t df h nx k = _
        unfold rcBlock; rw [e]; subst hj; simp⟩
    · simp only [if_neg hj] at q
      exact ⟨_, t₁, h₁, nx₁, q, fun df k => by
        show rcBlock i (runC a) tab call fi t df h nx k = _
        unfold rcBlock; rw [e]
        have : Nat.beq j i = false := by
          cases hb : Nat.beq j i with
          | false => rfl
          | true => exact absurd (Nat.eq_of_beq_eq_true hb) hj
        simp [this]⟩

/-- A LOOP: a measure of at most 3999 rounds, a relation -/
theorem CG.loop {a : SC} {Q : Ex → T CV → T Blk → Nat → Prop} (I : Nat → T CV → T Blk → Nat → Prop)
    (H : ∀ m t h nx, I m t h nx → CG tab call fi a t h nx fun ex t h nx => match ex with
      | .normal => ∃ m', m' < m ∧ I m' t h nx
      | ex => Q ex t h nx) : ∀ {m : Nat} {t : T CV} {h : T Blk} {nx : Nat}, m < 4000 → I m t h nx → CG tab call fi (.loop a) t h nx Q := by
  have main : ∀ (f m : Nat), m < f → ∀ {t : T CV} {h : T Blk} {nx : Nat}, I m t h nx → ∃ ex t' h' nx', Q ex t' h' nx' ∧ ∀ (df : List Df) (k : KC β), loopN f (runC a tab call fi) t df h nx k = k ex t' df h' nx' := by
    intro f
    induction f with
    | zero => intro m hm; omega
    | succ f ih =>
      intro m hm t h nx hI
      obtain ⟨ex, t₁, h₁, nx₁, q, e⟩ := H m t h nx hI
      cases ex with
      | normal =>
        obtain ⟨m', hm', hI'⟩ := q
        obtain ⟨ex, t₂, h₂, nx₂, q, e₂⟩ := ih m' (by omega) hI'
        exact ⟨ex, t₂, h₂, nx₂, q, fun df k => by
          show runC a tab call fi t df h nx _ = _
          rw [e]; exact e₂ df k⟩
      | exit i => exact ⟨_, t₁, h₁, nx₁, q, fun df k => by
          show runC a tab call fi t df h nx _ = _
          rw [e]⟩
      | ret => exact ⟨_, t₁, h₁, nx₁, q, fun df k => by
          show runC a tab call fi t df h nx _ = _
          rw [e]⟩
  intro m t h nx hm hI
  exact main 4000 m hm hI

theorem FG.of {d : Nat} {f : FuncId} {fn : Func} {c : SC} {n : Nat} {rs : List ResultVar} {args : List CV} {h : T Blk} {nx : Nat} {Q : CV → T Blk → Nat → Prop}
    (hp : tab.prims.get f = none) (hf : tab.funcs.get f = some fn) (hs : fn.body.isSome = true) (hc : comp (fn.body.getD .skip) = some c) (hn : fn.ntmps = n) (hr : fn.results.toList = rs) (hl : args.length ≤ n)
    (H : ∀ call : CallT β, call = callN tab d → CG (β := β) tab call ⟨n, none⟩ c (cellsT args 0 .nil) h nx fun ex t h nx => ∃ v h' nx', Q v h' nx' ∧ ∀ k : K β, finK tab rs k ex t [] h nx = k v h' nx') :
    FG (β := β) tab (d + 1) f args h nx Q := by
  have ht : ∀ k : T CV → Res β, putAll args 0 .nil k = k (cellsT args 0 .nil) := by
    have : ∀ (l : List CV) (n : Nat) (t : T CV) (k : T CV → Res β), putAll l n t k = k (cellsT l n t) := by
      intro l
      induction l with
      | nil => intro n t k; rfl
      | cons v l ih => intro n t k; rw [putAll_cons, ih]; rfl
    exact this _ _ _
  obtain ⟨ex, t', h', nx', ⟨v, h'', nx'', q, e'⟩, e⟩ := H _ rfl
  refine ⟨v, h'', nx'', q, fun k => ?_⟩
  obtain ⟨body, hb⟩ := Option.isSome_iff_exists.1 hs
  rw [hb] at hc
  have step : callN tab (d + 1) (.fn f [] []) args h nx k = callFn tab (callN tab d) f args h nx k := Eq.trans rfl rfl
  rw [step]
  unfold callFn
  rw [hp]
  show callBody false tab (callN tab d) f args h nx k = _
  unfold callBody
  rw [hf]
  simp only [optK_some, hb, ht, lenN_eq]
  have hg : Nat.ble args.length fn.ntmps = true := by rw [hn]; exact Nat.ble_eq_true_of_le hl
  rw [hg, grd_true, comp_ok body c hc, hn, e []]
  cases ex with
  | exit i => exact e' k
  | normal => rw [hr]; exact e' k
  | ret => rw [hr]; exact e' k

theorem cellsT_nil (n : Nat) (t : T CV) : cellsT [] n t = t := Eq.trans rfl rfl
theorem cellsT_cons (v : CV) (l : List CV) (n : Nat) (t : T CV) : cellsT (v :: l) n t = cellsT l (n + 1) (t.set n v) := Eq.trans rfl rfl
theorem T.get_same {α : Type} (t : T α) (n : Nat) (x : α) : (t.set n x).get n = some x := by rw [T.get_set, if_pos rfl]
theorem T.get_other {α : Type} (t : T α) {n m : Nat} (x : α) (h : m ≠ n) : (t.set n x).get m = t.get m := by rw [T.get_set, if_neg h]
end
end Go.Can
namespace Go.Can
variable {β : Type}
/-- a number brought into another kind -/
def convK (kd : IntKind) (v : CV) (h : T Blk) (nx : Nat) (k : K β) : Res β :=
  match v with
  | .int _ n => k (.int kd (kd.wrap n)) h nx
  | _ => .bad 44
end Go.Can
