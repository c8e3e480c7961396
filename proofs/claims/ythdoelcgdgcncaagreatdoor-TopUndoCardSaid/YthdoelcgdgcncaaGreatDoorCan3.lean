/- The evaluator and its soundness, part 3: what it says of a call, the program does, whatever the tape. No condition. -/
import Derived.Test.YthdoelcgdgcncaaGreatDoorCan2
import Derived.OrdersIn
set_option linter.unusedVariables false
set_option linter.unusedSimpArgs false
namespace Go.Can
variable {β : Type}
section
variable {P : Program} {tab : Tab}

def PrimOK (P : Program) (tab : Tab) (β : Type) : Prop :=
  ∀ (f : FuncId) (p : Prim), tab.prims.get f = some p → ∀ (args : List CV) (h : T Blk) (nx : Nat) (k : K β) (r : β), primOp p args h nx k = .ok r → ∃ v h' nx', k v h' nx' = .ok r ∧ nx ≤ nx' ∧
    ∀ (σ : Sg) (argvs : Array Value) (w : World), VRels σ args argvs.toList → HRel tab.ng σ h nx w → Good P ((callFunc f argvs).run P w) (Post tab.ng σ h w v h' nx')

theorem putAll_ok : ∀ (l : List CV) (n : Nat) (t : T CV) {k : T CV → Res β} {r : β}, putAll l n t k = .ok r → ∃ t', k t' = .ok r ∧ ∀ i, t'.get i = if n ≤ i ∧ i < n + l.length then l[i - n]? else t.get i
  | [], n, t, k, r, e => ⟨t, e, fun i => by rw [if_neg (by simp only [List.length_nil]; omega)]⟩
  | v :: l, n, t, k, r, e => by
    have e : t.setK n v (fun t => putAll l (n + 1) t k) = .ok r := e
    rw [setK_eq] at e
    obtain ⟨t', e, hg⟩ := putAll_ok l (n + 1) _ e
    refine ⟨t', e, fun i => ?_⟩
    rw [hg i, T.get_set]
    simp only [List.length_cons]
    by_cases hi : i = n
    · subst hi; rw [if_neg (by omega), if_pos rfl, if_pos (by omega)]; simp
    · rw [if_neg hi]
      by_cases hj : n + 1 ≤ i ∧ i < n + 1 + l.length
      · rw [if_pos hj, if_pos (by omega)]
        have : i - n = (i - (n + 1)) + 1 := by omega
        rw [this, List.getElem?_cons_succ]
      · rw [if_neg hj, if_neg (by omega)]

def resVal (tmps : Array Value) : ResultVar → Sem Value
  | .tmp t => pure (tmps.getD t undef)
  | .cell a t => do loadVar t (← asAddr (tmps.getD a undef))

theorem results_eq (fn : Func) (tmps : Array Value) : results fn tmps = (do let vs ← fn.results.mapM (resVal tmps); pure (if h : vs.size = 1 then vs[0] else .tuple vs)) := by
  unfold results
  congr 1

theorem resultsK_ok (TO : TabOK P tab) {t : T CV} {h : T Blk} : ∀ {l : List ResultVar} {k : List CV → Res β} {r : β}, resultsK tab t h l k = .ok r →
    ∃ vs, k vs = .ok r ∧ ∀ (σ : Sg) (nx : Nat) (tmps : Array Value) (w : World), TRel σ t tmps → HRel tab.ng σ h nx w →
      ∃ vals : List Value, (l.mapM (resVal tmps)).run P w = .ok vals w ∧ VRels σ vs vals
  | [], k, r, e => ⟨[], e, fun σ nx tmps w ht hr => ⟨[], by simp, rfl⟩⟩
  | .tmp n :: l, k, r, e => by
    obtain ⟨v, hv, e⟩ := optK_ok (show optK 160 (t.get n) _ = .ok r from e)
    obtain ⟨vs, e, H⟩ := resultsK_ok TO (l := l) e
    refine ⟨v :: vs, e, fun σ nx tmps w ht hr => ?_⟩
    obtain ⟨u, hu, hrel⟩ := ht n v hv
    obtain ⟨vals, h1, h2⟩ := H σ nx tmps w ht hr
    refine ⟨u :: vals, ?_, _, _, rfl, hrel, h2⟩
    rw [List.mapM_cons]
    simp [resVal, Array.getD_eq_getD_getElem?, hu, h1]
  | .cell n ty :: l, k, r, e => by
    obtain ⟨v, hv, e⟩ := optK_ok (show optK 161 (t.get n) _ = .ok r from e)
    cases v with
    | ptr b o =>
      obtain ⟨ti, hti, e⟩ := tyK_ok e
      obtain ⟨c, e, hc⟩ := getVar_ok TO hti e
      obtain ⟨vs, e, H⟩ := resultsK_ok TO (l := l) e
      refine ⟨c :: vs, e, fun σ nx tmps w ht hr => ?_⟩
      obtain ⟨u, hu, L, hL, rfl⟩ := ht n _ hv
      obtain ⟨v', hrel, hrun⟩ := hc σ nx w L hr.toHPart hL
      obtain ⟨vals, h1, h2⟩ := H σ nx tmps w ht hr
      refine ⟨v' :: vals, ?_, _, _, rfl, hrel, h2⟩
      rw [List.mapM_cons]
      simp [resVal, Array.getD_eq_getD_getElem?, hu, asAddr, hrun, h1]
    | _ => exact (bad_ok e).elim

theorem retK_ok {vs : List CV} {h : T Blk} {nx : Nat} {k : K β} {r : β} (e : retK vs h nx k = .ok r) :
    ∃ v, k v h nx = .ok r ∧ ∀ (σ : Sg) (vals : Array Value), VRels σ vs vals.toList → VRel σ v (if h : vals.size = 1 then vals[0] else .tuple vals) := by
  cases vs with
  | nil => exact ⟨_, e, fun σ vals hv => by
      have : vals.size = 0 := by have := hv.length; simpa using this
      rw [dif_neg (by omega)]; exact ⟨vals, rfl, hv⟩⟩
  | cons c cs =>
    cases cs with
    | nil => exact ⟨c, e, fun σ vals hv => by
        have hs : vals.size = 1 := by have := hv.length; simpa using this
        rw [dif_pos hs]
        obtain ⟨u, hu, hrel⟩ := hv.get (i := 0) rfl
        have : vals[0]? = some u := by simpa using hu
        have h0 : vals[0] = u := (Array.getElem?_eq_some_iff.1 this).2
        rw [h0]; exact hrel⟩
    | cons d ds => exact ⟨_, e, fun σ vals hv => by
        have : vals.size = ds.length + 2 := by have := hv.length; simpa using this
        rw [dif_neg (by omega)]; exact ⟨vals, rfl, hv⟩⟩

theorem run_takeDeferred {r : Nat} {w : World} (h : w.heap[r]? = some (.deferred (some []))) : (Instr.takeDeferred r).run P w = .ok [] { w with heap := w.heap.setIfInBounds r (.deferred none) } := by
  simp [Instr.takeDeferred, getObj, setObj, Sem.run, h]

theorem runDefers_ok {call : CallT β} (hc : CallOK P tab call) : ∀ {df : List Df} {h : T Blk} {nx : Nat} {k : T Blk → Nat → Res β} {r : β}, runDefers call df h nx k = .ok r →
    ∃ h' nx', k h' nx' = .ok r ∧ nx ≤ nx' ∧ (df = [] → h' = h ∧ nx' = nx) ∧ ∀ (σ : Sg) (l : List Deferred) (w : World) (n : Nat) (fn : Func) (tmps : Array Value) (R : Ending → World → Prop), DRel σ df l → HRel tab.ng σ h nx w →
      (∀ σ' w', HRel tab.ng σ' h' nx' w' → Step σ h w σ' h' w' → LeavesInM Fence.wide n P fn tmps R [] .returning w') → LeavesInM Fence.wide n P fn tmps R l .returning w
  | [], h, nx, k, r, e => ⟨h, nx, e, Nat.le_refl _, fun _ => ⟨rfl, rfl⟩, fun σ l w n fn tmps R hd hr hR => by cases hd; exact hR σ w hr (Step.refl _ _ _)⟩
  | .call f args :: df, h, nx, k, r, e => by
    obtain ⟨v, h₁, nx₁, e, hle₁, H⟩ := hc _ _ _ _ _ _ (show call (.mapv f) args h nx _ = .ok r from e)
    obtain ⟨h', nx', e, hle, _, H'⟩ := runDefers_ok hc (df := df) e
    refine ⟨h', nx', e, Nat.le_trans hle₁ hle, (fun h => by cases h), fun σ l w n fn tmps R hd hr hR => ?_⟩
    obtain ⟨cap, dargs, l', rfl, hv, hdr⟩ := hd
    obtain ⟨henter, hcall⟩ := H σ (dargs ++ cap) w (by simpa using hv) hr
    refine ⟨by simp, .inr ⟨fun hh => by simp [Fence.wide] at hh, .func f, cap, f, dargs ++ cap, rfl, henter, fun _ _ => trivial, (hcall (n - 1)).mono fun en u w' hp => ?_⟩⟩
    obtain ⟨rfl, hp⟩ := hp
    cases en with
    | returned v' =>
      obtain ⟨σ₁, _, hr₁, st₁⟩ := hp
      exact H' σ₁ l' w' n fn tmps R (hdr.mono st₁.le) hr₁ fun σ' w'' hr' st' => hR σ' w'' hr' (st₁.trans st')
    | panicked ch => exact hp.elim
    | outgrown => exact hp.elim
  | .mark b :: df, h, nx, k, r, e => by
    obtain ⟨B, hB, e⟩ := optK_ok (show optK 163 (h.get b) _ = .ok r from e)
    cases B with
    | mark =>
      have e : h.delK b (fun h => runDefers call df h nx k) = .ok r := e
      rw [delK_eq] at e
      obtain ⟨h', nx', e, hle, _, H'⟩ := runDefers_ok hc (df := df) e
      refine ⟨h', nx', e, hle, (fun h => by cases h), fun σ l w n fn tmps R hd hr hR => ?_⟩
      obtain ⟨L, l', ar, rfl, hL, hdr⟩ := hd
      have hb : w.heap[L.blk]? = some (.deferred (some [])) := hr.blk b L _ hL hB
      obtain ⟨hr₁, st₁⟩ := hr.drop (w' := { w with heap := w.heap.setIfInBounds L.blk (.deferred none) }) hL hB rfl (by simp) (fun x hx => by
        show (w.heap.setIfInBounds _ _)[x]? = _
        rw [Array.getElem?_setIfInBounds_ne (Ne.symm hx)]) rfl rfl rfl
      exact ⟨by simp, .inl ⟨L.blk, _, rfl, run_takeDeferred hb, H' σ l' _ n fn tmps R hdr hr₁ fun σ' w'' hr' st' => hR σ' w'' hr' (st₁.trans st')⟩⟩
    | _ => exact (bad_ok e).elim

/-- A FUNCTION's BODY -/
theorem callBody_ok (TO : TabOK P tab) {call : CallT β} (hc : CallOK P tab call) (hd : DrawOK P tab call) {dfr : Bool} {f : FuncId} {args : List CV} {h : T Blk} {nx : Nat} {k : K β} {r : β}
    (e : callBody dfr tab call f args h nx k = .ok r) : ∃ v h' nx', k v h' nx' = .ok r ∧ nx ≤ nx' ∧ ∀ (σ : Sg) (argvs : Array Value) (w : World), VRels σ args argvs.toList → HRel tab.ng σ h nx w →
      (callFunc f argvs).run P w = .ok (.enter f argvs) w ∧ (∀ n, CallsIn Fence.wide n P f argvs w (RetPost (Post tab.ng σ h w v h' nx'))) ∧
      (dfr = true → ∀ n, CallsDIn Fence.wide n P f argvs .returning w fun e u w' => u = .returning ∧ RetPost (Post tab.ng σ h w v h' nx') e w') := by
  obtain ⟨fn, hfn, e⟩ := optK_ok e
  obtain ⟨body, hbody, e⟩ := optK_ok e
  obtain ⟨hP, hname⟩ := TO.funcs f fn hfn
  obtain ⟨t, e, hg⟩ := putAll_ok _ _ _ e
  obtain ⟨hlen, e⟩ := grd_ok e
  rw [lenN_eq] at hlen
  have hlen := Nat.le_of_ble_eq_true hlen
  obtain ⟨ex, t₁, df₁, h₁, nx₁, e, hle₁, H₁⟩ := code_ok TO hc hd ⟨fn.ntmps, none⟩ body e
  have e : (∃ i, ex = .exit i) ∨ ((ex = .normal ∨ ex = .ret) ∧ (dfr = true → df₁ = []) ∧ runDefers call df₁ h₁ nx₁ (fun h nx => resultsK tab t₁ h fn.results.toList fun vs => retK vs h nx k) = .ok r) := by
    cases ex with
    | exit i => exact .inl ⟨i, rfl⟩
    | normal =>
      refine .inr ⟨.inl rfl, ?_⟩
      cases dfr with
      | false => exact ⟨fun h => (by cases h), e⟩
      | true => cases df₁ with
        | nil => exact ⟨fun _ => rfl, e⟩
        | cons _ _ => exact (bad_ok e).elim
    | ret =>
      refine .inr ⟨.inr rfl, ?_⟩
      cases dfr with
      | false => exact ⟨fun h => (by cases h), e⟩
      | true => cases df₁ with
        | nil => exact ⟨fun _ => rfl, e⟩
        | cons _ _ => exact (bad_ok e).elim
  rcases e with ⟨i, rfl⟩ | ⟨hex, hdf, e⟩
  · rename_i e; exact (bad_ok e).elim
  obtain ⟨h₂, nx₂, e, hle₂, hnil, H₂⟩ := runDefers_ok hc e
  obtain ⟨vs, e, H₃⟩ := resultsK_ok TO e
  obtain ⟨v, e, H₄⟩ := retK_ok e
  have hle₂ := hle₂
  refine ⟨v, h₂, nx₂, e, Nat.le_trans hle₁ hle₂, fun σ argvs w hargs hr => ?_⟩
  have hsz : argvs.size = args.length := by have := hargs.length; simpa using this
  have ha : ARel σ ⟨fn.ntmps, none⟩ t [] { tmps := argvs ++ Array.replicate (fn.ntmps - argvs.size) undef, defers := [] } := by
    refine ⟨fun i c hi => ?_, by simp; omega, rfl⟩
    rw [hg i] at hi
    by_cases hlt : i < args.length
    · rw [if_pos (by omega)] at hi
      obtain ⟨u, hu, hrel⟩ := hargs.get (i := i) (by simpa using hi)
      exact ⟨u, by rw [Array.getElem?_append_left (by omega)]; simpa using hu, hrel⟩
    · rw [if_neg (by omega), T.get_nil] at hi; cases hi
  have hres : ∀ (σ' : Sg) (a' : Act) (w' w'' : World), TRel σ' t₁ a'.tmps → HRel tab.ng σ' h₂ nx₂ w'' → ∃ v', (results fn a'.tmps).run P w'' = .ok v' w'' ∧ VRel σ' v v' := by
    intro σ' a' w' w'' ht' hr'
    obtain ⟨vals, h1, h2⟩ := H₃ σ' nx₂ a'.tmps w'' ht' hr'
    refine ⟨_, ?_, H₄ σ' vals.toArray (by simpa using h2)⟩
    rw [results_eq, Array.mapM_eq_mapM_toList]
    simp only [bind_map_left, Sem.run_bind, h1, Result.andThen_ok, Sem.run_pure]
  refine ⟨by
    have hn : ¬ fn.name = "runtime.NumGoroutine" := by simpa using hname
    simp [callFunc, hP, hn, hbody], fun n => ?_, fun hdt n => ?_⟩
  · refine callsIn_of_wp_marks hP hbody trivial (H₁ σ _ w n none (fun _ => rfl) ha hr _ fun a' w' hA => ?_)
    obtain ⟨σ₁, ha₁, hr₁, st₁, _⟩ := hA
    have hL : LeavesInM Fence.wide n P fn a'.tmps (RetPost (Post tab.ng σ h w v h₂ nx₂)) a'.defers .returning w' := by
      refine H₂ σ₁ _ w' n fn a'.tmps _ ha₁.dfr hr₁ fun σ₂ w₂ hr₂ st₂ => ?_
      obtain ⟨v', hrun, hrel⟩ := hres σ₂ a' w' w₂ (ha₁.tmp.mono st₂.le) hr₂
      exact ⟨v', hrun, σ₂, hrel, hr₂, st₁.trans st₂⟩
    rcases hex with rfl | rfl <;> exact hL
  · have hdf := hdf hdt
    subst hdf
    refine (callsDIn_of_wp (R := RetPost (Post tab.ng σ h w v h₂ nx₂)) hP hbody trivial (H₁ σ _ w n none (fun _ => rfl) ha hr _ fun a' w' hA => ?_))
    obtain ⟨σ₁, ha₁, hr₁, st₁, _⟩ := hA
    have hdn : a'.defers = [] := ha₁.dfr
    have hsame := hnil rfl
    obtain ⟨rfl, rfl⟩ := hsame
    obtain ⟨v', hrun, hrel⟩ := hres σ₁ a' w' w' ha₁.tmp hr₁
    have hB : a'.defers = [] ∧ ∃ u, (results fn a'.tmps).run P w' = .ok u w' ∧ RetPost (Post tab.ng σ h w v h₂ nx₂) (.returned u) w' := ⟨hdn, v', hrun, σ₁, hrel, hr₁, st₁⟩
    rcases hex with rfl | rfl <;> exact hB

theorem Good.enter {f : FuncId} {args : Array Value} {w : World} {R : Value → World → Prop} (h : ∀ n, CallsIn Fence.wide n P f args w (RetPost R)) : Good P (.ok (.enter f args) w) R := by
  intro rnd n o a next Q hn
  rw [Oper.uponIn_enter]
  refine ⟨fun hh => by simp [FW, Fence.wide] at hh, (callsIn_FW rnd (h (n - 1))).mono fun e w' hp => ?_⟩
  cases e with
  | returned v => exact hn v w' hp
  | panicked ch => exact hp.elim
  | outgrown => exact hp.elim

theorem Good.round {l : Nat} {f : FuncId} {tmps : Array Value} {x y : Code} {w : World} {R : Value → World → Prop} (h : ∀ n rnd, RoundIn (FW rnd) n P l f tmps x y w (RetPost R)) : Good P (.ok (.round l f tmps x y) w) R := by
  intro rnd n o a next Q hn
  rw [Oper.uponIn_round]
  refine ⟨fun hh => by simp [FW, Fence.wide] at hh, (h (n - 1) rnd).mono fun e w' hp => ?_⟩
  cases e with
  | returned v => exact hn v w' hp
  | panicked ch => exact hp.elim
  | outgrown => exact hp.elim

theorem callFn_ok (TO : TabOK P tab) (PO : PrimOK P tab β) {call : CallT β} (hc : CallOK P tab call) (hd : DrawOK P tab call) {f : FuncId} {args : List CV} {h : T Blk} {nx : Nat} {k : K β} {r : β}
    (e : callFn tab call f args h nx k = .ok r) : ∃ v h' nx', k v h' nx' = .ok r ∧ nx ≤ nx' ∧ ∀ (σ : Sg) (argvs : Array Value) (w : World), VRels σ args argvs.toList → HRel tab.ng σ h nx w →
      Good P ((callFunc f argvs).run P w) (Post tab.ng σ h w v h' nx') ∧
        (tab.prims.get f = none → (callFunc f argvs).run P w = .ok (.enter f argvs) w ∧ ∀ n, CallsIn Fence.wide n P f argvs w (RetPost (Post tab.ng σ h w v h' nx'))) := by
  have e : Option.rec (motive := fun _ => Res β) (callBody false tab call f args h nx k) (fun p => primOp p args h nx k) (tab.prims.get f) = .ok r := e
  cases hp : tab.prims.get f with
  | none =>
    rw [hp] at e
    obtain ⟨v, h', nx', e, hle, H⟩ := callBody_ok TO hc hd (show callBody false tab call f args h nx k = .ok r from e)
    refine ⟨v, h', nx', e, hle, fun σ argvs w ha hr => ?_⟩
    obtain ⟨h1, h2, _⟩ := H σ argvs w ha hr
    exact ⟨by rw [h1]; exact Good.enter h2, fun _ => ⟨h1, h2⟩⟩
  | some p =>
    rw [hp] at e
    obtain ⟨v, h', nx', e, hle, H⟩ := PO f p hp args h nx k r e
    exact ⟨v, h', nx', e, hle, fun σ argvs w ha hr => ⟨H σ argvs w ha hr, fun h => by cases h⟩⟩

theorem setAll_ok (nt : Nat) : ∀ {ds : List Tmp} {vs : List CV} {t : T CV} {k : T CV → Res β} {r : β}, setAll nt ds vs t k = .ok r →
    ∃ t', k t' = .ok r ∧ ds.length = vs.length ∧ ∀ (σ : Sg) (tmps : Array Value) (argvs : List Value), TRel σ t tmps → nt ≤ tmps.size → VRels σ vs argvs →
      TRel σ t' ((ds.zip argvs).foldl (fun tmps (x : Tmp × Value) => tmps.setIfInBounds x.1 x.2) tmps) ∧ ((ds.zip argvs).foldl (fun tmps (x : Tmp × Value) => tmps.setIfInBounds x.1 x.2) tmps).size = tmps.size
  | [], [], t, k, r, e => ⟨t, e, rfl, fun σ tmps argvs ht hn hv => by cases hv; exact ⟨ht, rfl⟩⟩
  | [], _ :: _, t, k, r, e => (bad_ok e).elim
  | _ :: _, [], t, k, r, e => (bad_ok e).elim
  | d :: ds, v :: vs, t, k, r, e => by
    obtain ⟨hd, e⟩ := grd_ok (show grd 165 (Nat.blt d nt) _ = .ok r from e)
    rw [setK_eq] at e
    obtain ⟨t', e, hl, H⟩ := setAll_ok nt e
    refine ⟨t', e, by simp [hl], fun σ tmps argvs ht hn hv => ?_⟩
    obtain ⟨u, us, rfl, hu, hus⟩ := hv
    have hd : d < nt := Nat.le_of_ble_eq_true hd
    obtain ⟨h1, h2⟩ := H σ (tmps.setIfInBounds d u) us (ht.set hu (Nat.lt_of_lt_of_le hd hn)) (by simpa using hn) hus
    exact ⟨h1, by simpa using h2⟩

/-- a record of a loop holds something else -/
theorem HRel.putLoop {G : Nat} {σ : Sg} {h : T Blk} {nx : Nat} {w : World} (hr : HRel G σ h nx w) {l : Nat} {L : Loc} {t : T CV} {nt : Nat} {ps : List Tmp} {a b : Code} {st : LoopState} {pd : Option Code}
    (hL : σ l = some L) (hb : h.get l = some (.loop t nt ps a b st pd)) {rc : Loop} (hw : w.heap[L.blk]? = some (.loop rc)) (h1 : rc.params.toList = ps) (h2 : rc.assign = a) (h3 : rc.body = b) (h4 : nt ≤ rc.tmps.size) (h5 : TRel σ t rc.tmps)
    (st' : LoopState) (pd' : Option Code) :
    HRel G σ (h.set l (.loop t nt ps a b st' pd')) nx { w with heap := w.heap.setIfInBounds L.blk (.loop { rc with state := st', pending := pd' }) } ∧
      Step σ h w σ (h.set l (.loop t nt ps a b st' pd')) { w with heap := w.heap.setIfInBounds L.blk (.loop { rc with state := st', pending := pd' }) } := by
  refine hr.put hL hb rfl rfl (by simp) (fun x hx => ?_) ⟨{ rc with state := st', pending := pd' }, ?_, rfl, rfl, h1, h2, h3, h4, h5⟩ rfl rfl rfl
  · show (w.heap.setIfInBounds L.blk _)[x]? = _
    rw [Array.getElem?_setIfInBounds_ne (Ne.symm hx)]
  · show (w.heap.setIfInBounds L.blk _)[L.blk]? = _
    rw [Array.getElem?_setIfInBounds_self_of_lt (Array.getElem?_eq_some_iff.1 hw).1]

/-- A ROUND OF A RANGE OVER A FUNCTION -/
theorem callYield_ok (TO : TabOK P tab) {call : CallT β} (hc : CallOK P tab call) (hd : DrawOK P tab call) {l : Nat} {args : List CV} {h : T Blk} {nx : Nat} {k : K β} {r : β}
    (e : callYield tab call l args h nx k = .ok r) : ∃ v h' nx', k v h' nx' = .ok r ∧ nx ≤ nx' ∧ ∀ (σ : Sg) (argvs : Array Value) (w : World) (L : Loc), σ l = some L → VRels σ args argvs.toList → HRel tab.ng σ h nx w →
      Good P ((Instr.yield L.blk argvs).run P w) (Post tab.ng σ h w v h' nx') := by
  obtain ⟨t0, nt, ps, x, y, st, pd, hget, e⟩ := loopK_ok e
  obtain ⟨t, e, hlen, HT⟩ := setAll_ok nt e
  obtain ⟨ex, t₁, df₁, h₁, nx₁, e, hle₁, H₁⟩ := code_ok TO hc hd ⟨nt, some l⟩ x e
  cases ex with
  | exit i => exact (bad_ok e).elim
  | ret => exact (bad_ok e).elim
  | normal =>
  obtain ⟨t2, nt2, ps2, x2, y2, st2, pd2, hget2, e⟩ := loopK_ok e
  cases st2 with
  | busy => exact (bad_ok e).elim
  | done => exact (bad_ok e).elim
  | exhausted => exact (bad_ok e).elim
  | ready =>
  have e : h₁.setK l (.loop t2 nt2 ps2 x2 y2 .busy pd2) (fun h => runCode y tab call ⟨nt, some l⟩ t₁ df₁ h nx₁ fun ex _ _ h nx => loopK h l fun t2 nt2 ps2 a2 b2 _ _ => Ex.rec
            (h.setK l (.loop t2 nt2 ps2 a2 b2 .ready none) fun h => k (.bool true) h nx)
            (fun i => h.setK l (.loop t2 nt2 ps2 a2 b2 .done (some (.exit i))) fun h => k (.bool false) h nx)
            (h.setK l (.loop t2 nt2 ps2 a2 b2 .done (some .ret)) fun h => k (.bool false) h nx) ex) = .ok r := e
  rw [setK_eq] at e
  obtain ⟨ex, t₃, df₃, h₃, nx₃, e, hle₃, H₃⟩ := code_ok TO hc hd ⟨nt, some l⟩ y e
  obtain ⟨t4, nt4, ps4, x4, y4, st4, pd4, hget4, e⟩ := loopK_ok e
  -- the ways in which the body is left
  have main : ∀ (v : Bool) (st' : LoopState) (jump : Option Code) , (∀ (L : Loc) (rc : Loop) (w : World), w.heap[L.blk]? = some (.loop rc) → (Instr.endRound L.blk jump).run P w = .ok (.bool v) { w with heap := w.heap.setIfInBounds L.blk (.loop { rc with state := st', pending := jump }) }) →
      (∀ (R : Ending → World → Prop) (L : Loc) (a : Act) (w : World), (∃ u w', (Instr.endRound L.blk jump).run P w = .ok u w' ∧ R (.returned u) w') → roundPost P L.blk R (exitOf ex) a w) →
      k (.bool v) (h₃.set l (.loop t4 nt4 ps4 x4 y4 st' jump)) nx₃ = .ok r →
      ∃ v h' nx', k v h' nx' = .ok r ∧ nx ≤ nx' ∧ ∀ (σ : Sg) (argvs : Array Value) (w : World) (L : Loc), σ l = some L → VRels σ args argvs.toList → HRel tab.ng σ h nx w →
        Good P ((Instr.yield L.blk argvs).run P w) (Post tab.ng σ h w v h' nx') := by
    intro v st' jump hend hpost e
    refine ⟨_, _, nx₃, e, Nat.le_trans hle₁ hle₃, fun σ argvs w L hL hargs hr => ?_⟩
    obtain ⟨rc, g1, g2, g3, g4, g5, g6, g7, g8⟩ := hr.blk l L _ hL hget
    have hsz : argvs.size = rc.params.size := by
      have h1 := hargs.length
      have h2 : rc.params.size = ps.length := by rw [← g4]; simp
      simp at h1; omega
    obtain ⟨k1, k2⟩ := HT σ rc.tmps argvs.toList g8 g7 hargs
    have hy : (Instr.yield L.blk argvs).run P w = .ok (.round L.blk rc.fn ((ps.zip argvs.toList).foldl (fun tmps (x : Tmp × Value) => tmps.setIfInBounds x.1 x.2) rc.tmps) x y) w := by
      have hfold : (rc.params.zip argvs).foldl (fun tmps (x : Tmp × Value) => tmps.setIfInBounds x.1 x.2) rc.tmps = (ps.zip argvs.toList).foldl (fun tmps (x : Tmp × Value) => tmps.setIfInBounds x.1 x.2) rc.tmps := by
        rw [← Array.foldl_toList, Array.toList_zip, g4]
      simp [Instr.yield, run_getLoop g1, hsz, g5, g6]
      simpa [hsz] using hfold
    rw [hy]
    refine Good.round fun n rnd => roundIn_of_wpIn (F := FW rnd) trivial ?_
    refine H₁ σ { tmps := (ps.zip argvs.toList).foldl (fun tmps (x : Tmp × Value) => tmps.setIfInBounds x.1 x.2) rc.tmps, defers := [] } w n (some L.blk) (fun hh => by cases hh) ⟨k1, by rw [k2]; exact g7, rfl⟩ hr _ fun a₁ w₁ hA => ?_
    obtain ⟨σ₁, ha₁, hr₁, st₁, _⟩ := hA
    have hL₁ := st₁.le _ _ hL
    obtain ⟨rc₂, m1, m2, m3, m4, m5, m6, m7, m8⟩ := hr₁.blk l L _ hL₁ hget2
    obtain ⟨hr₂, st₂⟩ := hr₁.putLoop hL₁ hget2 m1 m4 m5 m6 m7 m8 .busy pd2
    refine ⟨{ w₁ with heap := w₁.heap.setIfInBounds L.blk (.loop { rc₂ with state := .busy, pending := pd2 }) }, ?_, ?_⟩
    · simp [Instr.beginRound, run_getLoop m1, run_setLoop m1, m2, m3]
    · refine H₃ σ₁ a₁ _ n (some L.blk) (fun hh => by cases hh) ha₁ hr₂ _ fun a₃ w₃ hB => ?_
      obtain ⟨σ₃, ha₃, hr₃, st₃, _⟩ := hB
      have hL₃ := st₃.le _ _ hL₁
      obtain ⟨rc₄, q1, q2, q3, q4, q5, q6, q7, q8⟩ := hr₃.blk l L _ hL₃ hget4
      obtain ⟨hr₄, st₄⟩ := hr₃.putLoop hL₃ hget4 q1 q4 q5 q6 q7 q8 st' jump
      exact hpost _ L a₃ w₃ ⟨_, _, hend L rc₄ w₃ q1, σ₃, rfl, hr₄, ((st₁.trans st₂).trans st₃).trans st₄⟩
  cases ex with
  | normal =>
    have e : h₃.setK l (.loop t4 nt4 ps4 x4 y4 .ready none) (fun h => k (.bool true) h nx₃) = .ok r := e
    rw [setK_eq] at e
    exact main true .ready none (fun L rc w hw => by simp [Instr.endRound, run_getLoop hw, run_setLoop hw]) (fun R L a w hh => hh) e
  | exit i =>
    have e : h₃.setK l (.loop t4 nt4 ps4 x4 y4 .done (some (.exit i))) (fun h => k (.bool false) h nx₃) = .ok r := e
    rw [setK_eq] at e
    exact main false .done (some (.exit i)) (fun L rc w hw => by simp [Instr.endRound, run_getLoop hw, run_setLoop hw]) (fun R L a w hh => hh) e
  | ret =>
    have e : h₃.setK l (.loop t4 nt4 ps4 x4 y4 .done (some .ret)) (fun h => k (.bool false) h nx₃) = .ok r := e
    rw [setK_eq] at e
    exact main false .done (some .ret) (fun L rc w hw => by simp [Instr.endRound, run_getLoop hw, run_setLoop hw]) (fun R L a w hh => hh) e

/-- **THE EVALUATOR IS SOUND**, so far as regions whose order is drawn are (hd) and the functions without a body (PO). -/
theorem callN_ok (TO : TabOK P tab) (PO : PrimOK P tab β) (hd : ∀ call : CallT β, CallOK P tab call → DrawOK P tab call) : ∀ d, CallOK P tab (callN (β := β) tab d)
  | 0 => fun cv args h nx k r e => (bad_ok e).elim
  | d + 1 => by
    have ih := callN_ok TO PO hd d
    intro cv args h nx k r e
    cases cv with
    | fn f a b =>
      have e : callFn tab (callN tab d) f (a ++ args ++ b) h nx k = .ok r := by
        cases a with
        | nil => cases b with
          | nil => rw [List.append_nil]; exact e
          | cons _ _ => exact e
        | cons _ _ => exact e
      exact callFn_ok TO PO ih (hd _ ih) e
    | yield l => exact callYield_ok TO ih (hd _ ih) e
    | mapv f =>
      have e : Option.rec (motive := fun _ => Res β) (callBody true tab (callN tab d) f args h nx k) (fun _ => .bad 183) (tab.prims.get f) = .ok r := e
      cases hp : tab.prims.get f with
      | some p => rw [hp] at e; exact (bad_ok e).elim
      | none =>
        rw [hp] at e
        obtain ⟨v, h', nx', e, hle, H⟩ := callBody_ok TO ih (hd _ ih) (show callBody true tab (callN tab d) f args h nx k = .ok r from e)
        refine ⟨v, h', nx', e, hle, fun σ argvs w ha hr => ?_⟩
        obtain ⟨h1, _, h3⟩ := H σ argvs w ha hr
        exact ⟨h1, h3 rfl⟩
    | _ => exact (bad_ok e).elim
end
end Go.Can
namespace Go.Can
variable {β : Type}

/-! ## the static check of a region whose order is drawn -/

theorem befs_length (ops : Array Oper) : ∀ n, (befs ops n).length = n
  | 0 => rfl
  | n + 1 => by simp [befs, befs_length ops n]

def aft (ops : Array Oper) (j : Nat) : List Edge := match ops[j]? with | some o => o.after.toList | none => []

theorem befs_get (ops : Array Oper) : ∀ {n j : Nat}, j < n → (befs ops n)[j]? = some (bitsOf (befs ops j) (aft ops j))
  | 0, j, h => absurd h (Nat.not_lt_zero _)
  | n + 1, j, h => by
    show (befs ops n ++ [bitsOf (befs ops n) (aft ops n)])[j]? = _
    by_cases hj : j < n
    · rw [List.getElem?_append_left (by rw [befs_length]; exact hj)]; exact befs_get ops hj
    · have : j = n := by omega
      subst this
      rw [List.getElem?_append_right (by rw [befs_length]; omega), befs_length]; simp

theorem bits_fold (l : List Nat) (i : Nat) : ∀ (es : List Edge) (acc : Nat), Nat.testBit (es.foldl (fun b e => match Region.binds .any e with
    | true => Nat.lor (Nat.lor b (Nat.shiftLeft 1 e.on)) (l.getD e.on 0)
    | false => b) acc) i = true → Nat.testBit acc i = true ∨ ∃ e ∈ es, Region.binds .any e = true ∧ (i = e.on ∨ Nat.testBit (l.getD e.on 0) i = true)
  | [], acc, h => .inl h
  | e :: es, acc, h => by
    simp only [List.foldl_cons] at h
    rcases bits_fold l i es _ h with h | ⟨e', he', hb, h⟩
    · cases hb : Region.binds .any e with
      | false => simp only [hb] at h; exact .inl h
      | true =>
        simp only [hb] at h
        have h : Nat.testBit ((acc ||| (1 <<< e.on)) ||| (l.getD e.on 0)) i = true := h
        rw [Nat.testBit_or, Nat.testBit_or] at h
        simp only [Bool.or_eq_true] at h
        rcases h with (h | h) | h
        · exact .inl h
        · refine .inr ⟨e, by simp, hb, .inl ?_⟩
          rw [Nat.one_shiftLeft, Nat.testBit_two_pow] at h
          simpa using (of_decide_eq_true h).symm
        · exact .inr ⟨e, by simp, hb, .inr h⟩
    · exact .inr ⟨e', by simp [he'], hb, h⟩

/-- whom the bits of an operation name stands in every down-set in which those stand that it waits for -/
theorem bits_spec (ops : Array Oper) (D : Nat → Prop) (hD : ∀ j, D j → ∀ e ∈ aft ops j, Region.binds .any e = true → D e.on) :
    ∀ (j : Nat), (∀ e ∈ aft ops j, Region.binds .any e = true → D e.on) → ∀ i, Nat.testBit (bitsOf (befs ops j) (aft ops j)) i = true → D i := by
  intro j
  induction j using Nat.strongRecOn with
  | ind j ih =>
    intro hj i hi
    rcases bits_fold _ i _ _ hi with h | ⟨e, he, hb, h⟩
    · simp at h
    · rcases h with rfl | h
      · exact hj e he hb
      · by_cases hlt : e.on < j
        · rw [List.getD_eq_getElem?_getD, befs_get ops hlt] at h
          exact ih e.on hlt (fun e' he' hb' => hD e.on (hj e he hb) e' he' hb') i h
        · rw [List.getD_eq_getElem?_getD, List.getElem?_eq_none (by rw [befs_length]; omega)] at h
          simp at h

theorem infs_length (ops : Array Oper) : (infs ops).length = ops.size := by simp [infs, befs_length]

theorem infs_get {ops : Array Oper} {j : Nat} {b : Inf} (h : (infs ops)[j]? = some b) : j < ops.size ∧ ops[j]? = some b.o ∧ b.cls = clsOf b.o.op ∧ b.looks = looksOf ops b.o ∧ b.bef = bitsOf (befs ops j) (aft ops j) := by
  have hj : j < ops.size := by rw [← infs_length ops]; exact (List.getElem?_eq_some_iff.1 h).1
  simp only [infs, List.getElem?_map, Option.map_eq_some_iff] at h
  obtain ⟨⟨o, n⟩, h, rfl⟩ := h
  have h1 := List.getElem?_zip_eq_some.1 h
  obtain ⟨h1, h2⟩ := h1
  rw [befs_get ops hj] at h2
  cases h2
  exact ⟨hj, by simpa using h1, rfl, rfl, rfl⟩

theorem okAll_pair {l : List Inf} (h : okAll l = true) {i j : Nat} {a b : Inf} (ha : l[i]? = some a) (hb : l[j]? = some b) : okPair i a j b = true := by
  have h1 := (List.all_eq_true.1 h) (b, j) (List.mk_mem_zipIdx_iff_getElem?.2 hb)
  exact (List.all_eq_true.1 h1) (a, i) (List.mk_mem_zipIdx_iff_getElem?.2 ha)

theorem pairs_mem {l : List Inf} {i j : Nat} {a b : Inf} (ha : l[i]? = some a) (hb : l[j]? = some b) {x : Nat × Nat × Bool} (hx : x ∈ pairsAt i a j b) : x ∈ pairsOf l := by
  refine List.mem_flatMap.2 ⟨(b, j), List.mk_mem_zipIdx_iff_getElem?.2 hb, List.mem_flatMap.2 ⟨(a, i), List.mk_mem_zipIdx_iff_getElem?.2 ha, hx⟩⟩

/-! ## the trace -/
section
variable {P : Program} {tab : Tab}

def Inf.w (b : Inf) (c : Rec) : Prop := c.q = true ∧ b.cls = .write
def Inf.al (b : Inf) (c : Rec) : Prop := c.q = true ∧ b.cls = .alloc

structure RecOK (P : Program) (tab : Tab) (ops : Array Oper) (b : Inf) (c : Rec) : Prop where
  want : ∀ (σ : Sg) (tmps : Array Value), TRel σ c.t tmps → Region.wanted b.o (yielded ops tmps) = c.q
  off : c.q = false → c.v = .tup [] ∧ c.h' = c.h ∧ c.nx' = c.nx
  pure : c.q = true → b.cls = .pure → (c.h' = c.h ∧ c.nx' = c.nx) ∧ PureAs P tab b.o.op c.t c.v
  read : c.q = true → b.cls = .read → (c.h' = c.h ∧ c.nx' = c.nx) ∧ ReadsAs P tab b.o.op c.t c.h c.v
  alloc : c.q = true → b.cls = .alloc → ∃ B, c.nx' = c.nx + 1 ∧ c.h' = c.h.set c.nx B ∧ B.rw = true ∧ AllocsAs P tab b.o.op c.t c.nx c.v B
  write : c.q = true → b.cls = .write → c.nx ≤ c.nx' ∧ ∀ (σ : Sg) (ρ : Operand → Value) (w : World), Env tab.ng σ c.t ρ → HRel tab.ng σ c.h c.nx w → Good P ((execOp ρ b.o).run P w) (Post tab.ng σ c.h w c.v c.h' c.nx')

inductive Tr (P : Program) (tab : Tab) (ops : Array Oper) (fi : FI) : List Inf → List Rec → T CV → T Blk → Nat → T CV → T Blk → Nat → Prop
  | nil (t : T CV) (h : T Blk) (nx : Nat) : Tr P tab ops fi [] [] t h nx t h nx
  | cons {b : Inf} {c : Rec} {l : List Inf} {rs : List Rec} {t t₁ t' : T CV} {h' : T Blk} {nx' : Nat} (ok : RecOK P tab ops b c) (looks : ∀ n v, c.t.get n = some v → inL (some n) b.looks = true ∧ t.get n = some v)
    (dst : ∀ d, b.o.dst = some d → d < fi.nt) (put : ∀ n, t₁.get n = if b.o.dst = some n then some c.v else t.get n) (rest : Tr P tab ops fi l rs t₁ c.h' c.nx' t' h' nx') :
    Tr P tab ops fi (b :: l) (c :: rs) t c.h c.nx t' h' nx'

theorem lookK_ok : ∀ (l : List Tmp) (t acc : T CV) {k : T CV → Res β} {r : β}, lookK l t acc k = .ok r → ∃ tr, k tr = .ok r ∧ ∀ n v, tr.get n = some v → acc.get n = some v ∨ (inL (some n) l = true ∧ t.get n = some v)
  | [], t, acc, k, r, e => ⟨acc, e, fun n v h => .inl h⟩
  | m :: l, t, acc, k, r, e => by
    obtain ⟨v, hv, e⟩ := optK_ok (show optK 136 (t.get m) _ = .ok r from e)
    rw [setK_eq] at e
    obtain ⟨tr, e, H⟩ := lookK_ok l t _ e
    refine ⟨tr, e, fun n u h => ?_⟩
    rcases H n u h with h | ⟨h1, h2⟩
    · rw [T.get_set] at h
      by_cases hn : n = m
      · subst hn; rw [if_pos rfl] at h; cases h; exact .inr ⟨by simp [inL], hv⟩
      · rw [if_neg hn] at h; exact .inl h
    · exact .inr ⟨by simp only [inL, List.any_cons, Bool.or_eq_true] at h1 ⊢; exact .inr h1, h2⟩

theorem putT_eq {fi : FI} {d : Option Tmp} {v : CV} {t : T CV} {k : T CV → Res β} {r : β} (e : putT fi d v t k = .ok r) :
    ∃ t', k t' = .ok r ∧ (∀ x, d = some x → x < fi.nt) ∧ ∀ n, t'.get n = if d = some n then some v else t.get n := by
  cases d with
  | none => exact ⟨t, e, (fun x h => by cases h), fun n => by simp⟩
  | some d =>
    obtain ⟨hd, e⟩ := grd_ok (show grd 130 (Nat.blt d fi.nt) _ = .ok r from e)
    rw [setK_eq] at e
    refine ⟨_, e, fun x h => by cases h; exact Nat.le_of_ble_eq_true hd, fun n => ?_⟩
    rw [T.get_set]
    by_cases hn : n = d
    · subst hn; simp
    · rw [if_neg hn, if_neg (by simpa using Ne.symm hn)]

/-- what the classes promise -/
theorem cls_pure (TO : TabOK P tab) (o : Op) (h : clsOf o = .pure) : SoundP P tab β o := by
  cases o with
  | move x => exact sound_move x
  | assign x => exact sound_assign x
  | pick c a b => exact sound_pick c a b
  | build t ps => exact sound_build TO t ps
  | nilCheck x => exact sound_nilCheck x
  | unOp op t x => exact sound_unOp op t x
  | makeFunc f a c => exact sound_makeFunc f a c
  | slice t x lo hi mx => exact sound_slice TO t x lo hi mx
  | fieldAddr t x f => exact sound_fieldAddr TO t x f
  | field t x f => exact sound_field TO t x f
  | indexAddr t x i => exact sound_indexAddr TO t x i
  | index t x i => exact sound_index TO t x i
  | extract x i => exact sound_extract x i
  | call c =>
    obtain ⟨callee, args, tys⟩ := c
    cases callee with
    | builtin b => cases b with
      | max => exact sound_max args tys
      | min => exact sound_min args tys
      | _ => simp [clsOf] at h
    | _ => simp [clsOf] at h
  | _ => simp [clsOf] at h

theorem cls_read (TO : TabOK P tab) (o : Op) (h : clsOf o = .read) : SoundR P tab β o := by
  cases o with
  | load t a => exact sound_load TO t a
  | lookup t x i ok => exact sound_lookup TO t x i ok
  | binOp op t x y u => exact sound_binOp TO op t x y u
  | convert s d x => exact sound_convert TO s d x
  | call c =>
    obtain ⟨callee, args, tys⟩ := c
    cases callee with
    | builtin b => cases b with
      | len => exact sound_len TO args tys
      | _ => simp [clsOf] at h
    | _ => simp [clsOf] at h
  | _ => simp [clsOf] at h

theorem cls_alloc (TO : TabOK P tab) (o : Op) (h : clsOf o = .alloc) : SoundAl P tab β o := by
  cases o with
  | alloc e => exact sound_alloc TO e
  | box e v => exact sound_box e v
  | buildSlice t l ps => exact sound_buildSlice TO t l ps
  | makeMap t r => exact sound_makeMap t r
  | makeSlice t l c => exact sound_makeSlice TO t l c
  | call c =>
    obtain ⟨callee, args, tys⟩ := c
    cases callee with
    | builtin b => cases b <;> simp [clsOf] at h
    | _ => simp [clsOf] at h
  | _ => simp [clsOf] at h

theorem drawOps_ok (TO : TabOK P tab) {call : CallT β} (hc : CallOK P tab call) (ops : Array Oper) (fi : FI) : ∀ (l : List Inf), (∀ b ∈ l, b.cls = clsOf b.o.op ∧ isDefer b.o.op = none) →
    ∀ {t : T CV} {h : T Blk} {nx : Nat} {k : T CV → T Blk → Nat → List Rec → Res β} {r : β}, drawOps ops tab call fi l t h nx k = .ok r →
    ∃ t' h' nx' rs, k t' h' nx' rs = .ok r ∧ Tr P tab ops fi l rs t h nx t' h' nx'
  | [], _, t, h, nx, k, r, e => ⟨t, h, nx, [], e, .nil _ _ _⟩
  | b :: l, hl, t, h, nx, k, r, e => by
    obtain ⟨tr, e, hlook⟩ := lookK_ok b.looks t .nil (show lookK b.looks t .nil _ = .ok r from e)
    have hlook : ∀ n v, tr.get n = some v → inL (some n) b.looks = true ∧ t.get n = some v := fun n v hh => by
      rcases hlook n v hh with h1 | h1
      · rw [T.get_nil] at h1; cases h1
      · exact h1
    obtain ⟨q, e, hq⟩ := wantK_ok e
    obtain ⟨hcls, hdf⟩ := hl b (by simp)
    have hl' : ∀ b' ∈ l, b'.cls = clsOf b'.o.op ∧ isDefer b'.o.op = none := fun b' hb' => hl b' (by simp [hb'])
    cases q with
    | false =>
      obtain ⟨t₁, e, hd, hput⟩ := putT_eq (show putT fi b.o.dst (.tup []) t _ = .ok r from e)
      obtain ⟨t', h', nx', rs, e, htr⟩ := drawOps_ok TO hc ops fi l hl' e
      exact ⟨t', h', nx', _, e, Tr.cons (c := ⟨false, tr, .tup [], h, nx, h, nx⟩) ⟨hq, fun _ => ⟨rfl, rfl, rfl⟩, (fun h => by cases h), (fun h => by cases h), (fun h => by cases h), (fun h => by cases h)⟩ hlook hd hput htr⟩
    | true =>
      have e : evOp b.o.op tab call tr h nx (fun v h₁ nx₁ => putT fi b.o.dst v t fun t => drawOps ops tab call fi l t h₁ nx₁ fun t' h' nx' rs => k t' h' nx' (⟨true, tr, v, h, nx, h₁, nx₁⟩ :: rs)) = .ok r := e
      have fin : ∀ (v : CV) (h₁ : T Blk) (nx₁ : Nat), (putT fi b.o.dst v t fun t => drawOps ops tab call fi l t h₁ nx₁ fun t' h' nx' rs => k t' h' nx' (⟨true, tr, v, h, nx, h₁, nx₁⟩ :: rs)) = .ok r → RecOK P tab ops b ⟨true, tr, v, h, nx, h₁, nx₁⟩ →
          ∃ t' h' nx' rs, k t' h' nx' rs = .ok r ∧ Tr P tab ops fi (b :: l) rs t h nx t' h' nx' := by
        intro v h₁ nx₁ e hok
        obtain ⟨t₁, e, hd, hput⟩ := putT_eq e
        obtain ⟨t', h', nx', rs, e, htr⟩ := drawOps_ok TO hc ops fi l hl' e
        exact ⟨t', h', nx', _, e, Tr.cons (c := ⟨true, tr, v, h, nx, h₁, nx₁⟩) hok hlook hd hput htr⟩
      cases hb : b.cls with
      | pure =>
        obtain ⟨v, e, hs⟩ := cls_pure TO b.o.op (by rw [← hcls, hb]) call tr h nx _ r e
        exact fin v h nx e ⟨hq, (fun h => by cases h), fun _ _ => ⟨⟨rfl, rfl⟩, hs⟩, (fun _ h => by rw [hb] at h; cases h), (fun _ h => by rw [hb] at h; cases h), (fun _ h => by rw [hb] at h; cases h)⟩
      | read =>
        obtain ⟨v, e, hs⟩ := cls_read TO b.o.op (by rw [← hcls, hb]) call tr h nx _ r e
        exact fin v h nx e ⟨hq, (fun h => by cases h), (fun _ h => by rw [hb] at h; cases h), fun _ _ => ⟨⟨rfl, rfl⟩, hs⟩, (fun _ h => by rw [hb] at h; cases h), (fun _ h => by rw [hb] at h; cases h)⟩
      | alloc =>
        obtain ⟨v, B, hrw, e, hs⟩ := cls_alloc TO b.o.op (by rw [← hcls, hb]) call tr h nx _ r e
        exact fin v _ (nx + 1) e ⟨hq, (fun h => by cases h), (fun _ h => by rw [hb] at h; cases h), (fun _ h => by rw [hb] at h; cases h), fun _ _ => ⟨B, rfl, rfl, hrw, hs⟩, (fun _ h => by rw [hb] at h; cases h)⟩
      | write =>
        obtain ⟨v, h₁, nx₁, e, hle, hs⟩ := sound_op TO hc b.o.op hdf tr h nx _ r e
        exact fin v h₁ nx₁ e ⟨hq, (fun h => by cases h), (fun _ h => by rw [hb] at h; cases h), (fun _ h => by rw [hb] at h; cases h), (fun _ h => by rw [hb] at h; cases h), fun _ _ => ⟨hle, fun σ ρ w he hr => hs σ ρ w b.o rfl he hr⟩⟩
end
end Go.Can
namespace Go.Can
variable {β : Type}

/-! ## maps of blocks cut at a number; heaps with given entries -/

def Sg.cut (σ : Sg) (n : Nat) : Sg := fun c => if c < n then σ c else none
theorem Sg.cut_le (σ : Sg) (n : Nat) : (σ.cut n).le σ := fun c L h => by
  unfold Sg.cut at h; split at h
  · exact h
  · cases h
theorem Sg.cut_some {σ : Sg} {n c : Nat} {L : Loc} (h : σ.cut n c = some L) : c < n ∧ σ c = some L := by
  unfold Sg.cut at h; split at h
  · exact ⟨‹_›, h⟩
  · cases h
theorem Sg.cut_of {σ : Sg} {n c : Nat} {L : Loc} (hc : c < n) (h : σ c = some L) : σ.cut n c = some L := by
  unfold Sg.cut; rw [if_pos hc]; exact h
theorem Sg.cut_mono {σ τ : Sg} {n m : Nat} (h : σ.le τ) (hn : n ≤ m) : (σ.cut n).le (τ.cut m) := fun c L e =>
  let ⟨h1, h2⟩ := Sg.cut_some e; Sg.cut_of (Nat.lt_of_lt_of_le h1 hn) (h c L h2)

theorem exists_T {α : Type} (f : Nat → Option α) : ∀ M, ∃ t : T α, ∀ c, t.get c = if c < M then f c else none
  | 0 => ⟨.nil, fun c => by simp [T.get_nil]⟩
  | M + 1 => by
    obtain ⟨t, ht⟩ := exists_T f M
    cases hM : f M with
    | none =>
      refine ⟨t, fun c => ?_⟩
      rw [ht]
      by_cases h1 : c < M
      · rw [if_pos h1, if_pos (by omega)]
      · rw [if_neg h1]
        by_cases h2 : c = M
        · subst h2; rw [if_pos (by omega), hM]
        · rw [if_neg (by omega)]
    | some x =>
      refine ⟨t.set M x, fun c => ?_⟩
      rw [T.get_set, ht]
      by_cases h2 : c = M
      · subst h2; rw [if_pos rfl, if_pos (by omega), hM]
      · rw [if_neg h2]
        by_cases h1 : c < M
        · rw [if_pos h1, if_pos (by omega)]
        · rw [if_neg h1, if_neg (by omega)]

section
variable {G : Nat} {σ : Sg} {h : T Blk} {nx : Nat} {w : World}

/-- fewer blocks are spoken of -/
theorem HPart.part (r : HPart G σ h nx w) {σ' : Sg} {h' : T Blk} {m : Nat} (hle : σ'.le σ) (hs : ∀ c L B, σ' c = some L → h'.get c = some B → h.get c = some B) (hd : ∀ c L, σ' c = some L → c < m)
    (hv : ∀ c L B, σ' c = some L → h'.get c = some B → BRel σ L w B → BRel σ' L w B) (hg : ∀ g L, g < G → σ g = some L → σ' g = some L) : HPart G σ' h' m w where
  dom := fun c L e => ⟨hd c L e, (r.dom c L (hle c L e)).2⟩
  blk := fun c L B e e' => hv c L B e e' (r.blk c L B (hle c L e) (hs c L B e e'))
  inj := fun c c' L L' B B' e₁ e₂ g₁ g₂ hrw hb => r.inj c c' L L' B B' (hle _ _ e₁) (hle _ _ e₂) (hs _ _ _ e₁ g₁) (hs _ _ _ e₂ g₂) hrw hb
  glob := fun g hg' => let ⟨L, h1, h2⟩ := r.glob g hg'; ⟨L, hg g L hg' h1, h2⟩

/-- A NEW BLOCK under whatever free number. -/
theorem HPart.newAt (r : HPart G σ h nx w) {c₀ : Nat} (hf : σ c₀ = none) (hc₀ : c₀ < nx) (o : Obj) (B : Blk) (fin : Nat) (hB : BRel (σ.upd c₀ ⟨w.heap.size, 0, fin⟩) ⟨w.heap.size, 0, fin⟩ (w.alloc o) B) :
    HPart G (σ.upd c₀ ⟨w.heap.size, 0, fin⟩) (h.set c₀ B) nx (w.alloc o) ∧ Step σ h w (σ.upd c₀ ⟨w.heap.size, 0, fin⟩) (h.set c₀ B) (w.alloc o) := by
  have hle : σ.le (σ.upd c₀ ⟨w.heap.size, 0, fin⟩) := Sg.le_upd hf
  have old : ∀ b, b < w.heap.size → (w.alloc o).heap[b]? = w.heap[b]? := fun b hb => by
    simp only [World.alloc, Array.getElem?_push]; rw [if_neg (Nat.ne_of_lt hb)]
  have get : ∀ {c L B'}, (σ.upd c₀ ⟨w.heap.size, 0, fin⟩) c = some L → (h.set c₀ B).get c = some B' →
      (c = c₀ ∧ L = ⟨w.heap.size, 0, fin⟩ ∧ B' = B) ∨ (c ≠ c₀ ∧ σ c = some L ∧ h.get c = some B') := by
    intro c L B' e e'
    rw [T.get_set] at e'
    by_cases hc : c = c₀
    · subst hc; rw [Sg.upd_same] at e; simp at e e'; exact .inl ⟨rfl, e.symm, e'.symm⟩
    · rw [Sg.upd_ne σ _ hc] at e; rw [if_neg hc] at e'; exact .inr ⟨hc, e, e'⟩
  refine ⟨⟨?_, ?_, ?_, ?_⟩, ⟨hle, by simp, fun b hb _ => old b hb, ?_, ?_, rfl, rfl, rfl⟩⟩
  · intro c L e
    by_cases hc : c = c₀
    · subst hc; rw [Sg.upd_same] at e; cases e; exact ⟨hc₀, by simp⟩
    · rw [Sg.upd_ne σ _ hc] at e; have := r.dom c L e; exact ⟨this.1, by simp; omega⟩
  · intro c L B' e e'
    rcases get e e' with ⟨rfl, rfl, rfl⟩ | ⟨hc, e, e'⟩
    · exact hB
    · exact ((r.blk c L B' e e').heap (old _ (r.dom c L e).2)).mono hle
  · intro c c' L L' B₁ B₂ e₁ e₂ g₁ g₂ hrw hb
    rcases get e₁ g₁ with ⟨a1, a2, a3⟩ | ⟨hc, f₁, k₁⟩ <;> rcases get e₂ g₂ with ⟨b1, b2, b3⟩ | ⟨hc', f₂, k₂⟩
    · rw [a1, b1]
    · have := (r.dom _ _ f₂).2; rw [a2] at hb; simp at hb; omega
    · have := (r.dom _ _ f₁).2; rw [b2] at hb; simp at hb; omega
    · exact r.inj _ _ _ _ _ _ f₁ f₂ k₁ k₂ hrw hb
  · intro g hg
    obtain ⟨L, e, h1⟩ := r.glob g hg
    exact ⟨L, hle _ _ e, h1⟩
  · rintro b hb ⟨c, L, B', e, e', hw', rfl⟩
    rcases get e e' with ⟨rfl, rfl, rfl⟩ | ⟨hc, e, e'⟩
    · simp at hb
    · exact ⟨c, L, B', e, e', hw', rfl⟩
  · rintro b hb ⟨c, L, B', e, e', rfl⟩
    rcases get e e' with ⟨rfl, rfl, rfl⟩ | ⟨hc, e, e'⟩
    · simp at hb
    · exact ⟨c, L, B', e, e', rfl⟩

/-- A STEP WITHIN A PART: what happens below a number n, seen from a heap that speaks of more. -/
theorem HPart.within (r : HPart G σ h nx w) {n n' : Nat} {hk h' : T Blk} {σ' : Sg} {w' : World} (hn : n ≤ n') (hn' : n' ≤ nx) (hr' : HPart G σ' h' n' w') (hst : Step (σ.cut n) hk w σ' h' w')
    (hkh : ∀ c B, c < n → (σ c).isSome = true → hk.get c = some B → h.get c = some B) (hno : ∀ c, n ≤ c → c < n' → σ c = none) (hrw : ∀ c B, n ≤ c → h.get c = some B → B.rw = true) :
    ∃ (τ : Sg) (H : T Blk), (∀ c, τ c = if c < n' then σ' c else σ c) ∧ (∀ c, H.get c = if c < n' then h'.get c else if c < nx then h.get c else none) ∧ HPart G τ H nx w' ∧ Step σ h w τ H w' := by
  obtain ⟨H, hH⟩ := exists_T (fun c => if c < n' then h'.get c else h.get c) nx
  have hH : ∀ c, H.get c = if c < n' then h'.get c else if c < nx then h.get c else none := fun c => by
    rw [hH c]
    by_cases h1 : c < n'
    · rw [if_pos (by omega), if_pos h1, if_pos h1]
    · rw [if_neg h1, if_neg h1]
  let τ : Sg := fun c => if c < n' then σ' c else σ c
  have hτ : ∀ c, τ c = if c < n' then σ' c else σ c := fun c => rfl
  have hle1 : σ'.le τ := fun c L e => by rw [hτ, if_pos (hr'.dom c L e).1]; exact e
  have hle2 : σ.le τ := fun c L e => by
    rw [hτ]
    by_cases h1 : c < n'
    · rw [if_pos h1]
      by_cases h2 : c < n
      · exact hst.le c L (Sg.cut_of h2 e)
      · rw [hno c (by omega) h1] at e; cases e
    · rw [if_neg h1]; exact e
  -- what the part covers, the whole covers
  have covers : ∀ b, Cov (σ.cut n) hk b → ∃ c L B, c < n ∧ σ c = some L ∧ h.get c = some B ∧ L.blk = b := by
    rintro b ⟨c, L, B, e, e', hb⟩
    obtain ⟨h1, h2⟩ := Sg.cut_some e
    exact ⟨c, L, B, h1, h2, hkh c B h1 (by rw [h2]; rfl) e', hb⟩
  have coversW : ∀ b, CovW (σ.cut n) hk b → ∃ c L B, c < n ∧ σ c = some L ∧ h.get c = some B ∧ B.rw = true ∧ L.blk = b := by
    rintro b ⟨c, L, B, e, e', hw, hb⟩
    obtain ⟨h1, h2⟩ := Sg.cut_some e
    exact ⟨c, L, B, h1, h2, hkh c B h1 (by rw [h2]; rfl) e', hw, hb⟩
  have low : ∀ {c L B}, c < n' → τ c = some L → H.get c = some B → σ' c = some L ∧ h'.get c = some B := fun hc e e' => by
    rw [hτ, if_pos hc] at e; rw [hH, if_pos hc] at e'; exact ⟨e, e'⟩
  have high : ∀ {c L B}, ¬ c < n' → τ c = some L → H.get c = some B → σ c = some L ∧ h.get c = some B := fun {c L B} hc e e' => by
    rw [hτ, if_neg hc] at e; rw [hH, if_neg hc] at e'
    split at e'
    · exact ⟨e, e'⟩
    · cases e'
  have cross : ∀ {c c' L L' B B'}, c < n' → ¬ c' < n' → τ c = some L → τ c' = some L' → H.get c = some B → H.get c' = some B' → L.blk = L'.blk → False := by
    intro c c' L L' B B' hc hc' e₁ e₂ g₁ g₂ hb
    obtain ⟨e₁, g₁⟩ := low hc e₁ g₁
    obtain ⟨e₂, g₂⟩ := high hc' e₂ g₂
    have hlt : L.blk < w.heap.size := by rw [hb]; exact (r.dom _ _ e₂).2
    obtain ⟨c₂, L₂, B₂, h1, h2, h3, h4⟩ := covers _ (hst.cov L.blk hlt ⟨c, L, B, e₁, g₁, rfl⟩)
    have := r.inj c₂ c' L₂ L' B₂ B' h2 e₂ h3 g₂ (.inr (hrw c' B' (by omega) g₂)) (h4.trans hb)
    omega
  refine ⟨τ, H, hτ, hH, ⟨?_, ?_, ?_, ?_⟩, ⟨hle2, hst.size, ?_, ?_, ?_, hst.tape, hst.os, hst.output⟩⟩
  · intro c L e
    by_cases hc : c < n'
    · rw [hτ, if_pos hc] at e; exact ⟨by omega, (hr'.dom c L e).2⟩
    · rw [hτ, if_neg hc] at e; have := r.dom c L e; exact ⟨this.1, Nat.lt_of_lt_of_le this.2 hst.size⟩
  · intro c L B e e'
    by_cases hc : c < n'
    · obtain ⟨e, e'⟩ := low hc e e'
      exact (hr'.blk c L B e e').mono hle1
    · obtain ⟨e, e'⟩ := high hc e e'
      refine ((r.blk c L B e e').heap (hst.frame _ (r.dom c L e).2 fun hcov => ?_)).mono hle2
      obtain ⟨c₂, L₂, B₂, h1, h2, h3, h4, h5⟩ := coversW _ hcov
      have := r.inj c₂ c L₂ L B₂ B h2 e h3 e' (.inl h4) h5
      omega
  · intro c c' L L' B B' e₁ e₂ g₁ g₂ hw hb
    by_cases hc : c < n' <;> by_cases hc' : c' < n'
    · obtain ⟨e₁, g₁⟩ := low hc e₁ g₁
      obtain ⟨e₂, g₂⟩ := low hc' e₂ g₂
      exact hr'.inj _ _ _ _ _ _ e₁ e₂ g₁ g₂ hw hb
    · exact (cross hc hc' e₁ e₂ g₁ g₂ hb).elim
    · exact (cross hc' hc e₂ e₁ g₂ g₁ hb.symm).elim
    · obtain ⟨e₁, g₁⟩ := high hc e₁ g₁
      obtain ⟨e₂, g₂⟩ := high hc' e₂ g₂
      exact r.inj _ _ _ _ _ _ e₁ e₂ g₁ g₂ hw hb
  · intro g hg
    obtain ⟨L, e, h1⟩ := hr'.glob g hg
    exact ⟨L, hle1 _ _ e, h1⟩
  · intro b hb hn
    refine hst.frame b hb fun hcov => hn ?_
    obtain ⟨c₂, L₂, B₂, h1, h2, h3, h4, h5⟩ := coversW _ hcov
    exact ⟨c₂, L₂, B₂, h2, h3, h4, h5⟩
  · rintro b hb ⟨c, L, B, e, e', h1, rfl⟩
    by_cases hc : c < n'
    · obtain ⟨e, e'⟩ := low hc e e'
      obtain ⟨c₂, L₂, B₂, k1, k2, k3, k4, k5⟩ := coversW _ (hst.covW _ hb ⟨c, L, B, e, e', h1, rfl⟩)
      exact ⟨c₂, L₂, B₂, k2, k3, k4, k5⟩
    · obtain ⟨e, e'⟩ := high hc e e'
      exact ⟨c, L, B, e, e', h1, rfl⟩
  · rintro b hb ⟨c, L, B, e, e', rfl⟩
    by_cases hc : c < n'
    · obtain ⟨e, e'⟩ := low hc e e'
      obtain ⟨c₂, L₂, B₂, k1, k2, k3, k4⟩ := covers _ (hst.cov _ hb ⟨c, L, B, e, e', rfl⟩)
      exact ⟨c₂, L₂, B₂, k2, k3, k4⟩
    · obtain ⟨e, e'⟩ := high hc e e'
      exact ⟨c, L, B, e, e', rfl⟩
end
end Go.Can
namespace Go.Can
variable {β : Type}

/-- what is good comes about -/
theorem Good.exists {P : Program} {r : Result Next} {R : Value → World → Prop} (h : Good P r R) : ∃ v w, R v w := by
  have h := h none 0 (default : Oper) { tmps := #[], defers := [] } (fun _ _ => ∃ v w, R v w) (fun _ _ _ => ∃ v w, R v w) fun v w hv => ⟨v, w, hv⟩
  cases r with
  | ok n w =>
    cases n <;> simp only [Oper.uponIn] at h
    all_goals first
      | exact h
      | exact h.elim
      | (obtain ⟨_, _, h⟩ := h
         obtain ⟨e, w', _, h, _⟩ := h [] (room_wide _)
         cases e <;> first | exact h | (obtain ⟨_, _, h⟩ := h; exact h))
      | (obtain ⟨_, h⟩ := h
         obtain ⟨v, w', h, _⟩ := h default [] (room_wide _)
         exact h)
      | (obtain ⟨_, _, h⟩ := h
         obtain ⟨e, w', h, _⟩ := h default [] (room_wide _)
         cases e <;> first | exact h | (obtain ⟨_, _, h⟩ := h; exact h))
  | halt x w => cases x <;> simp only [Oper.uponIn] at h <;> first | exact h | exact h.elim

def Sg.below (σ : Sg) (n : Nat) : Prop := ∀ c L, σ c = some L → c < n

mutual
theorem VRel.cut {σ τ : Sg} {n : Nat} (hτ : τ.below n) : ∀ (c : CV) {v u : Value}, VRel τ c u → VRel σ c v → VRel (σ.cut n) c v
  | .bool b, v, u, _, r => r
  | .int k m, v, u, _, r => r
  | .ptr b o, v, u, ⟨M, hM, _⟩, ⟨L, hL, e⟩ => ⟨L, Sg.cut_of (hτ _ _ hM) hL, e⟩
  | .nilptr, v, u, _, r => r
  | .slice b o len cap, v, u, ⟨M, _, hM, _⟩, ⟨L, c, hL, e⟩ => ⟨L, c, Sg.cut_of (hτ _ _ hM) hL, e⟩
  | .nilslice, v, u, _, r => r
  | .mapv b, v, u, ⟨M, hM, _⟩, ⟨L, hL, e⟩ => ⟨L, Sg.cut_of (hτ _ _ hM) hL, e⟩
  | .nilmap, v, u, _, r => r
  | .fn f a b, v, u, ⟨_, _, _, ma, mb⟩, ⟨a', b', e, ha, hb⟩ => ⟨a', b', e, VRels.cut hτ a ma ha, VRels.cut hτ b mb hb⟩
  | .nilfn, v, u, _, r => r
  | .yield l, v, u, ⟨M, hM, _⟩, ⟨L, hL, e⟩ => ⟨L, Sg.cut_of (hτ _ _ hM) hL, e⟩
  | .iter b, v, u, ⟨M, hM, _⟩, ⟨L, hL, e⟩ => ⟨L, Sg.cut_of (hτ _ _ hM) hL, e⟩
  | .iface t x, v, u, ⟨_, _, mx⟩, ⟨x', e, hx⟩ => ⟨x', e, VRel.cut hτ x mx hx⟩
  | .niliface, v, u, _, r => r
  | .agg cs, v, u, ⟨_, _, mv⟩, ⟨vs, e, hv⟩ => ⟨vs, e, VRels.cut hτ cs mv hv⟩
  | .tup cs, v, u, ⟨_, _, mv⟩, ⟨vs, e, hv⟩ => ⟨vs, e, VRels.cut hτ cs mv hv⟩
  | .str s, v, u, _, r => r
theorem VRels.cut {σ τ : Sg} {n : Nat} (hτ : τ.below n) : ∀ (cs : List CV) {l m : List Value}, VRels τ cs m → VRels σ cs l → VRels (σ.cut n) cs l
  | [], l, m, _, r => r
  | c :: cs, l, m, ⟨_, _, _, mc, ms⟩, ⟨v, vs, e, hc, hs⟩ => ⟨v, vs, e, VRel.cut hτ c mc hc, VRels.cut hτ cs ms hs⟩
end

theorem TRel.cut {σ τ : Sg} {n : Nat} (hτ : τ.below n) {t : T CV} {a b : Array Value} (h : TRel τ t b) (r : TRel σ t a) : TRel (σ.cut n) t a := fun i c e =>
  let ⟨v, hv, hr⟩ := r i c e
  let ⟨u, _, hu⟩ := h i c e
  ⟨v, hv, VRel.cut hτ c hu hr⟩

theorem MRel.cut {σ τ : Sg} {n : Nat} (hτ : τ.below n) : ∀ {es : List (CV × CV)} {l m : List MapEntry}, MRel τ es m → MRel σ es l → MRel (σ.cut n) es l
  | [], l, m, _, r => r
  | (a, b) :: es, l, m, ⟨_, _, _, ma, mb, ms⟩, ⟨e, l', hl, ha, hb, hr⟩ => ⟨e, l', hl, VRel.cut hτ a ma ha, VRel.cut hτ b mb hb, MRel.cut hτ ms hr⟩

theorem BRel.cut {σ τ : Sg} {n : Nat} (hτ : τ.below n) {L M : Loc} {w w' : World} {B : Blk} (h : BRel τ M w' B) (r : BRel σ L w B) : BRel (σ.cut n) L w B := by
  cases B with
  | cells m cs rw =>
    obtain ⟨arr, e, fz, h1, h2, h3, h4, h5⟩ := r
    obtain ⟨_, _, _, _, _, _, _, k5⟩ := h
    exact ⟨arr, e, fz, h1, h2, h3, h4, fun i c hi => let ⟨a, v, b, d⟩ := h5 i c hi; let ⟨_, _, _, d'⟩ := k5 i c hi; ⟨a, v, b, VRel.cut hτ c d' d⟩⟩
  | map es => obtain ⟨arr, cl, h1, h2⟩ := r; obtain ⟨_, _, _, k2⟩ := h; exact ⟨arr, cl, h1, MRel.cut hτ k2 h2⟩
  | iter m =>
    obtain ⟨mm, s, st, h1, h2⟩ := r
    obtain ⟨_, _, _, _, k2⟩ := h
    refine ⟨mm, s, st, h1, ?_⟩
    cases m with
    | none => exact h2
    | some c => obtain ⟨K, hK, e⟩ := h2; obtain ⟨K', hK', _⟩ := k2; exact ⟨K, Sg.cut_of (hτ _ _ hK') hK, e⟩
  | loop t nt ps a b st pd =>
    obtain ⟨r, h1, h2, h3, h4, h5, h6, h7, h8⟩ := r
    obtain ⟨_, _, _, _, _, _, _, _, k8⟩ := h
    exact ⟨r, h1, h2, h3, h4, h5, h6, h7, TRel.cut hτ k8 h8⟩
  | mark => exact r

section
variable {P : Program} {tab : Tab}

theorem RecOK.le {ops : Array Oper} {b : Inf} {c : Rec} (h : RecOK P tab ops b c) : c.nx ≤ c.nx' := by
  cases hq : c.q with
  | false => rw [(h.off hq).2.2]; exact Nat.le_refl _
  | true =>
    cases hb : b.cls with
    | pure => rw [(h.pure hq hb).1.2]; exact Nat.le_refl _
    | read => rw [(h.read hq hb).1.2]; exact Nat.le_refl _
    | alloc => obtain ⟨B, h1, _⟩ := h.alloc hq hb; rw [h1]; exact Nat.le_succ _
    | write => exact (h.write hq hb).1

theorem TRel.env {G : Nat} {σ : Sg} {t : T CV} {a : Act} {h : T Blk} {nx : Nat} {w : World} (r : TRel σ t a.tmps) (hr : HPart G σ h nx w) : Env G σ t a.eval where
  tmp := fun n c hc => by
    obtain ⟨v, hv, hrel⟩ := r n c hc
    have : a.eval (.tmp n) = v := by simp [Act.eval, Array.getD_eq_getD_getElem?, hv]
    rw [this]; exact hrel
  const := fun v => rfl
  glob := fun g hg => by
    obtain ⟨L, h1, h2, h3⟩ := hr.glob g hg
    exact ⟨L, h1, by simp [Act.eval, h2, h3]⟩
  func := fun f => rfl

/-- IN THE ORDER OF THE TEXT there is a run: what it leaves bounds the numbers that stand in the canonical values. -/
theorem Tr.witness {ops : Array Oper} {fi : FI} {l : List Inf} {rs : List Rec} {t t' : T CV} {h h' : T Blk} {nx nx' : Nat} (tr : Tr P tab ops fi l rs t h nx t' h' nx') :
    ∀ (σ : Sg) (tmps : Array Value) (w : World), TRel σ t tmps → fi.nt ≤ tmps.size → HRel tab.ng σ h nx w →
      (∀ (j : Nat) (c : Rec), rs[j]? = some c → (∃ (τ : Sg) (u : Array Value) (z : World), HRel tab.ng τ c.h c.nx z ∧ TRel τ c.t u) ∧ ∃ (τ : Sg) (v : Value) (z : World), HRel tab.ng τ c.h' c.nx' z ∧ VRel τ c.v v) ∧
      ∃ (τ : Sg) (z : World), HRel tab.ng τ h' nx' z := by
  induction tr with
  | nil t h nx => intro σ tmps w ht hs hr; exact ⟨fun j c hc => by simp at hc, σ, w, hr⟩
  | @cons b c l rs t t₁ t' h' nx' ok looks dst put rest ih =>
    intro σ tmps w ht hs hr
    have htr : TRel σ c.t tmps := fun n v hv => ht n v (looks n v hv).2
    have env : Env tab.ng σ c.t ({ tmps := tmps, defers := [] } : Act).eval := TRel.env (a := { tmps := tmps, defers := [] }) htr hr.toHPart
    have next : ∀ (σ' : Sg) (v : Value) (w' : World), σ.le σ' → VRel σ' c.v v → HRel tab.ng σ' c.h' c.nx' w' →
        (∀ (j : Nat) (c' : Rec), (c :: rs)[j]? = some c' → (∃ (τ : Sg) (u : Array Value) (z : World), HRel tab.ng τ c'.h c'.nx z ∧ TRel τ c'.t u) ∧ ∃ (τ : Sg) (v : Value) (z : World), HRel tab.ng τ c'.h' c'.nx' z ∧ VRel τ c'.v v) ∧
        ∃ (τ : Sg) (z : World), HRel tab.ng τ h' nx' z := by
      intro σ' v w' hle hv hr'
      have ht₁ : TRel σ' t₁ (({ tmps := tmps, defers := [] } : Act).put b.o.dst v).tmps := by
        intro n u hu
        rw [put] at hu
        by_cases hd : b.o.dst = some n
        · rw [if_pos hd] at hu; cases hu
          have hn := dst n hd
          refine ⟨v, ?_, hv⟩
          simp only [Act.put, hd]
          rw [Array.getElem?_setIfInBounds_self_of_lt (Nat.lt_of_lt_of_le hn hs)]
        · rw [if_neg hd] at hu
          obtain ⟨x, h1, h2⟩ := ht n u hu
          refine ⟨x, ?_, h2.mono hle⟩
          cases hdd : b.o.dst with
          | none => simp only [Act.put]; exact h1
          | some d =>
            have hdn : d ≠ n := fun hh => hd (by rw [hdd, hh])
            simp only [Act.put]
            rw [Array.getElem?_setIfInBounds_ne hdn]; exact h1
      obtain ⟨k1, k2⟩ := ih σ' _ w' ht₁ (by rw [Act.put_size]; exact hs) hr'
      refine ⟨fun j c' hc' => ?_, k2⟩
      cases j with
      | zero => simp at hc'; subst hc'; exact ⟨⟨σ, tmps, w, hr, htr⟩, σ', v, w', hr', hv⟩
      | succ j => exact k1 j c' (by simpa using hc')
    cases hq : c.q with
    | false =>
      obtain ⟨h1, h2, h3⟩ := ok.off hq
      exact next σ undef w (Sg.le.refl _) (by rw [h1]; exact ⟨#[], rfl, rfl⟩) (by rw [h2, h3]; exact hr)
    | true =>
      cases hb : b.cls with
      | pure =>
        obtain ⟨⟨h2, h3⟩, hp⟩ := ok.pure hq hb
        obtain ⟨v, hv, _⟩ := hp σ _ w b.o rfl env
        exact next σ v w (Sg.le.refl _) hv (by rw [h2, h3]; exact hr)
      | read =>
        obtain ⟨⟨h2, h3⟩, hp⟩ := ok.read hq hb
        obtain ⟨v, hv, _⟩ := hp σ _ w c.nx b.o rfl env hr.toHPart
        exact next σ v w (Sg.le.refl _) hv (by rw [h2, h3]; exact hr)
      | alloc =>
        obtain ⟨B, h2, h3, hrw, hp⟩ := ok.alloc hq hb
        obtain ⟨v, obj, fin, _, hp⟩ := hp σ _ w b.o rfl env
        obtain ⟨hv, hB⟩ := hp _ (Sg.le_upd hr.fresh) (Sg.upd_same σ c.nx _)
        exact next _ v _ (Sg.le_upd hr.fresh) hv (by rw [h2, h3]; exact (hr.new obj B fin hB).1)
      | write =>
        obtain ⟨v, w', σ', hv, hr', hst⟩ := ((ok.write hq hb).2 σ _ w env hr).exists
        exact next σ' v w' hst.le hv hr'
end
end Go.Can
namespace Go.Can
variable {β : Type}
section
variable {P : Program} {tab : Tab}

def hAt (rs : List Rec) (h' : T Blk) (e : Nat) : T Blk := match rs[e]? with | some c => c.h | none => h'
def nAt (rs : List Rec) (nx' : Nat) (e : Nat) : Nat := match rs[e]? with | some c => c.nx | none => nx'

theorem hAt_some {rs : List Rec} {h' : T Blk} {e : Nat} {c : Rec} (h : rs[e]? = some c) : hAt rs h' e = c.h := by simp [hAt, h]
theorem nAt_some {rs : List Rec} {nx' : Nat} {e : Nat} {c : Rec} (h : rs[e]? = some c) : nAt rs nx' e = c.nx := by simp [nAt, h]

section
variable {ops : Array Oper} {fi : FI} {l : List Inf} {rs : List Rec} {t t' : T CV} {h h' : T Blk} {nx nx' : Nat}

theorem Tr.zero (tr : Tr P tab ops fi l rs t h nx t' h' nx') : hAt rs h' 0 = h ∧ nAt rs nx' 0 = nx := by cases tr <;> exact ⟨rfl, rfl⟩

theorem Tr.length (tr : Tr P tab ops fi l rs t h nx t' h' nx') : rs.length = l.length := by
  induction tr with
  | nil => rfl
  | cons _ _ _ _ _ ih => simp [ih]

theorem Tr.at (tr : Tr P tab ops fi l rs t h nx t' h' nx') : ∀ {j : Nat} {b : Inf}, l[j]? = some b → ∃ c, rs[j]? = some c ∧ RecOK P tab ops b c ∧ (∀ n v, c.t.get n = some v → inL (some n) b.looks = true) ∧
    (∀ d, b.o.dst = some d → d < fi.nt) ∧ c.h' = hAt rs h' (j + 1) ∧ c.nx' = nAt rs nx' (j + 1) := by
  induction tr with
  | nil => intro j b hb; simp at hb
  | @cons b₀ c l rs t t₁ t' h' nx' ok looks dst put rest ih =>
    intro j b hb
    cases j with
    | zero =>
      simp at hb; subst hb
      obtain ⟨z1, z2⟩ := rest.zero
      exact ⟨c, rfl, ok, fun n v hv => (looks n v hv).1, dst, by rw [← z1]; rfl, by rw [← z2]; rfl⟩
    | succ j => obtain ⟨c', h1, h2, h3, h4, h5, h6⟩ := ih (by simpa using hb); exact ⟨c', by simpa using h1, h2, h3, h4, h5, h6⟩

theorem Tr.tmp (tr : Tr P tab ops fi l rs t h nx t' h' nx') : ∀ {j : Nat} {c : Rec}, rs[j]? = some c → ∀ n v, c.t.get n = some v →
    (∃ i b c', i < j ∧ l[i]? = some b ∧ rs[i]? = some c' ∧ b.o.dst = some n ∧ v = c'.v) ∨ (t.get n = some v ∧ ∀ i b, i < j → l[i]? = some b → b.o.dst ≠ some n) := by
  induction tr with
  | nil => intro j b hb; simp at hb
  | @cons b₀ c l rs t t₁ t' h' nx' ok looks dst put rest ih =>
    intro j c' hc n v hv
    cases j with
    | zero => simp at hc; subst hc; exact .inr ⟨(looks n v hv).2, fun i b hi => absurd hi (Nat.not_lt_zero _)⟩
    | succ j =>
      rcases ih (by simpa using hc) n v hv with ⟨i, b, c'', h1, h2, h3, h4, h5⟩ | ⟨h1, h2⟩
      · exact .inl ⟨i + 1, b, c'', by omega, by simpa using h2, by simpa using h3, h4, h5⟩
      · rw [put] at h1
        by_cases hd : b₀.o.dst = some n
        · rw [if_pos hd] at h1; cases h1; exact .inl ⟨0, b₀, c, by omega, rfl, rfl, hd, rfl⟩
        · rw [if_neg hd] at h1
          refine .inr ⟨h1, fun i b hi hb => ?_⟩
          cases i with
          | zero => simp at hb; subst hb; exact hd
          | succ i => exact h2 i b (by omega) (by simpa using hb)

theorem Tr.fin (tr : Tr P tab ops fi l rs t h nx t' h' nx') : ∀ n v, t'.get n = some v →
    (∃ (i : Nat) (b : Inf) (c' : Rec), l[i]? = some b ∧ rs[i]? = some c' ∧ b.o.dst = some n ∧ v = c'.v) ∨ (t.get n = some v ∧ ∀ (i : Nat) (b : Inf), l[i]? = some b → b.o.dst ≠ some n) := by
  induction tr with
  | nil => intro n v hv; exact .inr ⟨hv, fun i b hb => by simp at hb⟩
  | @cons b₀ c l rs t t₁ t' h' nx' ok looks dst put rest ih =>
    intro n v hv
    rcases ih n v hv with ⟨i, b, c'', h2, h3, h4, h5⟩ | ⟨h1, h2⟩
    · exact .inl ⟨i + 1, b, c'', by simpa using h2, by simpa using h3, h4, h5⟩
    · rw [put] at h1
      by_cases hd : b₀.o.dst = some n
      · rw [if_pos hd] at h1; cases h1; exact .inl ⟨0, b₀, c, rfl, rfl, hd, rfl⟩
      · rw [if_neg hd] at h1
        refine .inr ⟨h1, fun i b hb => ?_⟩
        cases i with
        | zero => simp at hb; subst hb; exact hd
        | succ i => exact h2 i b (by simpa using hb)

theorem Tr.mono (tr : Tr P tab ops fi l rs t h nx t' h' nx') : ∀ {i j : Nat}, i ≤ j → nAt rs nx' i ≤ nAt rs nx' j := by
  intro i j hij
  induction hij with
  | refl => exact Nat.le_refl _
  | @step j hij ih =>
    refine Nat.le_trans ih ?_
    cases hl : l[j]? with
    | none =>
      have h1 : rs[j]? = none := by rw [List.getElem?_eq_none_iff, tr.length]; exact List.getElem?_eq_none_iff.1 hl
      have h2 : rs[j + 1]? = none := by rw [List.getElem?_eq_none_iff, tr.length]; have := List.getElem?_eq_none_iff.1 hl; omega
      simp [nAt, h1, h2]
    | some b =>
      obtain ⟨c, h1, h2, _, _, _, h6⟩ := tr.at hl
      rw [nAt_some h1, Nat.succ_eq_add_one, ← h6]
      exact h2.le

/-- between two writers the heap only gains blocks -/
theorem Tr.quiet (tr : Tr P tab ops fi l rs t h nx t' h' nx') (p : Nat) : ∀ (e : Nat), p ≤ e → e ≤ l.length → (∀ i b c, p ≤ i → i < e → l[i]? = some b → rs[i]? = some c → ¬ b.w c) →
    (∀ c, c < nAt rs nx' p → (hAt rs h' e).get c = (hAt rs h' p).get c) ∧
    (∀ m b r, p ≤ m → m < e → l[m]? = some b → rs[m]? = some r → b.al r → (hAt rs h' e).get r.nx = r.h'.get r.nx) ∧
    (∀ c, nAt rs nx' p ≤ c → (hAt rs h' e).get c = (hAt rs h' p).get c ∨ ∃ m b r, p ≤ m ∧ m < e ∧ l[m]? = some b ∧ rs[m]? = some r ∧ b.al r ∧ c = r.nx) := by
  intro e hpe
  induction hpe with
  | refl => intro _ _; exact ⟨fun c _ => rfl, fun m b r h1 h2 => by omega, fun c _ => .inl rfl⟩
  | @step e hpe ih =>
    intro hlen hno
    obtain ⟨i1, i2, i3⟩ := ih (by omega) fun i b c h1 h2 => hno i b c h1 (by omega)
    obtain ⟨b, hb⟩ : ∃ b, l[e]? = some b := ⟨_, List.getElem?_eq_getElem (by omega)⟩
    obtain ⟨c, hc, ok, _, _, h5, h6⟩ := tr.at hb
    have hnw : ¬ b.w c := hno e b c hpe (Nat.lt_succ_self _) hb hc
    have he : hAt rs h' e = c.h := hAt_some hc
    have hmono := tr.mono hpe
    rw [nAt_some hc] at hmono
    have keep : ¬ b.al c → hAt rs h' (e + 1) = hAt rs h' e := by
      intro hal
      rw [he, ← h5]
      cases hq : c.q with
      | false => exact (ok.off hq).2.1
      | true =>
        cases hcl : b.cls with
        | pure => exact (ok.pure hq hcl).1.1
        | read => exact (ok.read hq hcl).1.1
        | alloc => exact absurd ⟨hq, hcl⟩ hal
        | write => exact absurd ⟨hq, hcl⟩ hnw
    by_cases hal : b.al c
    · obtain ⟨B, k1, k2, k3, _⟩ := ok.alloc hal.1 hal.2
      have hget : ∀ x, (hAt rs h' (e + 1)).get x = if x = c.nx then some B else (hAt rs h' e).get x := fun x => by
        rw [← h5, k2, T.get_set, he]
      refine ⟨fun x hx => ?_, fun m b' r h1 h2 hb' hr hal' => ?_, fun x hx => ?_⟩
      · rw [hget, if_neg (by omega)]; exact i1 x hx
      · by_cases hme : m = e
        · subst hme; rw [hb] at hb'; rw [hc] at hr; cases hb'; cases hr
          rw [hget, if_pos rfl, k2, T.get_set, if_pos rfl]
        · have hlt : m < e := by omega
          obtain ⟨r', hr', okr, _, _, _, h6'⟩ := tr.at hb'
          rw [hr] at hr'; cases hr'
          have hm2 := tr.mono (i := m + 1) (j := e) hlt
          rw [← h6', nAt_some hc] at hm2
          obtain ⟨_, q1, _⟩ := okr.alloc hal'.1 hal'.2
          rw [hget, if_neg (by omega)]
          exact i2 m b' r h1 hlt hb' hr hal'
      · by_cases hx' : x = c.nx
        · exact .inr ⟨e, b, c, hpe, Nat.lt_succ_self _, hb, hc, hal, hx'⟩
        · rw [hget, if_neg hx']
          rcases i3 x hx with h1 | ⟨m, b', r, h1, h2, h3⟩
          · exact .inl h1
          · exact .inr ⟨m, b', r, h1, by omega, h3⟩
    · rw [keep hal]
      refine ⟨i1, fun m b' r h1 h2 hb' hr hal' => ?_, fun x hx => ?_⟩
      · by_cases hme : m = e
        · subst hme; rw [hb] at hb'; rw [hc] at hr; cases hb'; cases hr; exact absurd hal' hal
        · exact i2 m b' r h1 (by omega) hb' hr hal'
      · rcases i3 x hx with h1 | ⟨m, b', r, h1, h2, h3⟩
        · exact .inl h1
        · exact .inr ⟨m, b', r, h1, by omega, h3⟩
end

/-! ## the checks -/

mutual
theorem CV.same_ok : ∀ (a b : CV), a.same b = true → a = b
  | .bool a, b, h => by cases b <;> simp [CV.same, eqB_eq] at h; rw [h]
  | .int k a, b, h => by
    cases b <;> simp [CV.same] at h
    rw [kEq_ok h.1]; have := h.2; rw [eqN_eq] at this; simp at this; rw [this]
  | .ptr a b, c, h => by cases c <;> simp [CV.same] at h; rw [h.1, h.2]
  | .nilptr, b, h => by cases b <;> simp [CV.same] at h; rfl
  | .slice a b c d, e, h => by
    cases e with
    | slice a' b' c' d' => cases d <;> cases d' <;> simp [CV.same] at h <;> (obtain ⟨⟨⟨h1, h2⟩, h3⟩, h4⟩ := h; rw [h1, h2, h3, h4])
    | _ => cases d <;> simp [CV.same] at h
  | .nilslice, b, h => by cases b <;> simp [CV.same] at h; rfl
  | .mapv a, b, h => by cases b <;> simp [CV.same] at h; rw [h]
  | .nilmap, b, h => by cases b <;> simp [CV.same] at h; rfl
  | .fn f a b, c, h => by
    cases c <;> simp [CV.same] at h
    rw [h.1.1, CV.sames_ok a _ h.1.2, CV.sames_ok b _ h.2]
  | .nilfn, b, h => by cases b <;> simp [CV.same] at h; rfl
  | .yield l, b, h => by cases b <;> simp [CV.same] at h
  | .iter l, b, h => by cases b <;> simp [CV.same] at h
  | .iface t v, b, h => by cases b <;> simp [CV.same] at h
  | .niliface, b, h => by cases b <;> simp [CV.same] at h
  | .agg a, b, h => by cases b <;> simp [CV.same] at h; rw [CV.sames_ok a _ h]
  | .tup a, b, h => by cases b <;> simp [CV.same] at h; rw [CV.sames_ok a _ h]
  | .str s, b, h => by cases b <;> simp [CV.same] at h
theorem CV.sames_ok : ∀ (a b : List CV), CV.sames a b = true → a = b
  | [], b, h => by cases b <;> simp [CV.sames] at h; rfl
  | a :: as, b, h => by
    cases b with
    | nil => simp [CV.sames] at h
    | cons b bs => simp [CV.sames] at h; rw [CV.same_ok a b h.1, CV.sames_ok as bs h.2]
end

theorem nthK_ok {α : Type} : ∀ (l : List α) (n : Nat) {k : α → Res β} {r : β}, nthK l n k = .ok r → ∃ x, l[n]? = some x ∧ k x = .ok r
  | [], n, k, r, e => (bad_ok e).elim
  | x :: l, 0, k, r, e => ⟨x, rfl, e⟩
  | x :: l, n + 1, k, r, e => by obtain ⟨y, h1, h2⟩ := nthK_ok l n (show nthK l n k = .ok r from e); exact ⟨y, by simpa using h1, h2⟩

theorem again_ok {o : Op} {t : T CV} {h : T Blk} {v : CV} {k : Res β} {r : β} (s : SoundR P tab β o) (e : again o tab t h v k = .ok r) : ReadsAs P tab o t h v ∧ k = .ok r := by
  obtain ⟨v', e, hs⟩ := s _ _ _ _ _ _ e
  obtain ⟨h1, e2⟩ := grd_ok e
  have := CV.same_ok _ _ h1
  subst this
  exact ⟨hs, e2⟩

theorem chkPairs_ok (TO : TabOK P tab) {l : List Inf} {rs : List Rec} : ∀ (ps : List (Nat × Nat × Bool)), (∀ x ∈ ps, ∀ b, l[x.1]? = some b → clsOf b.o.op = .read) → ∀ {k : Res β} {r : β}, chkPairs tab l rs ps k = .ok r →
    k = .ok r ∧ ∀ i j ahead, (i, j, ahead) ∈ ps → ∀ b c w, l[i]? = some b → rs[i]? = some c → rs[j]? = some w → c.q = true → w.q = true → ReadsAs P tab b.o.op c.t (if ahead then w.h else w.h') c.v
  | [], _, k, r, e => ⟨e, fun i j a h => by simp at h⟩
  | (i, j, ahead) :: ps, hps, k, r, e => by
    obtain ⟨b, hb, e⟩ := nthK_ok _ _ (show nthK l i _ = .ok r from e)
    obtain ⟨c, hc, e⟩ := nthK_ok _ _ e
    obtain ⟨w, hw, e⟩ := nthK_ok _ _ e
    have e : Bool.rec (motive := fun _ => Res β) (chkPairs tab l rs ps k) (again b.o.op tab c.t (Bool.rec (motive := fun _ => T Blk) w.h' w.h ahead) c.v (chkPairs tab l rs ps k)) (c.q && w.q) = .ok r := e
    cases hq : c.q && w.q with
    | false =>
      rw [hq] at e
      obtain ⟨h1, h2⟩ := chkPairs_ok TO ps (fun x hx => hps x (by simp [hx])) (show chkPairs tab l rs ps k = .ok r from e)
      refine ⟨h1, fun i' j' a' hm b' c' w' hb' hc' hw' q1 q2 => ?_⟩
      rcases List.mem_cons.1 hm with hm | hm
      · cases hm; rw [hc] at hc'; rw [hw] at hw'; cases hc'; cases hw'; simp [q1, q2] at hq
      · exact h2 i' j' a' hm b' c' w' hb' hc' hw' q1 q2
    | true =>
      rw [hq] at e
      obtain ⟨hR, e⟩ := again_ok (cls_read TO b.o.op (hps (i, j, ahead) (by simp) b hb)) e
      obtain ⟨h1, h2⟩ := chkPairs_ok TO ps (fun x hx => hps x (by simp [hx])) e
      refine ⟨h1, fun i' j' a' hm b' c' w' hb' hc' hw' q1 q2 => ?_⟩
      rcases List.mem_cons.1 hm with hm | hm
      · cases hm; rw [hb] at hb'; rw [hc] at hc'; rw [hw] at hw'; cases hb'; cases hc'; cases hw'
        cases ahead <;> exact hR
      · exact h2 i' j' a' hm b' c' w' hb' hc' hw' q1 q2
end
end Go.Can
namespace Go.Can
variable {β : Type}
section
variable {P : Program} {tab : Tab}

structure Ctx (P : Program) (tab : Tab) (ops : Array Oper) (fi : FI) (rs : List Rec) (t₀ : T CV) (h₀ : T Blk) (nx₀ : Nat) (t' : T CV) (h' : T Blk) (nx' : Nat) : Prop where
  tr : Tr P tab ops fi (infs ops) rs t₀ h₀ nx₀ t' h' nx'
  ok : okAll (infs ops) = true
  reads : ∀ i j ahead, (i, j, ahead) ∈ pairsOf (infs ops) → ∀ b c w, (infs ops)[i]? = some b → rs[i]? = some c → rs[j]? = some w → c.q = true → w.q = true → ReadsAs P tab b.o.op c.t (if ahead then w.h else w.h') c.v
  wit : ∀ (j : Nat) (c : Rec), rs[j]? = some c → (∃ (τ : Sg) (u : Array Value) (z : World), HRel tab.ng τ c.h c.nx z ∧ TRel τ c.t u) ∧ ∃ (τ : Sg) (v : Value) (z : World), HRel tab.ng τ c.h' c.nx' z ∧ VRel τ c.v v

/-- a set of operations in which each has those that it waits for -/
def Down (ops : Array Oper) (D : Nat → Prop) : Prop := ∀ j, D j → ∀ e ∈ aft ops j, Region.binds .any e = true → D e.on
def Free (ops : Array Oper) (D : Nat → Prop) (j : Nat) : Prop := ∀ e ∈ aft ops j, Region.binds .any e = true → D e.on

theorem inL_some {d : Option Tmp} {n : Tmp} {l : List Tmp} (h : d = some n) : inL d l = inL (some n) l := by rw [h]

section
variable {ops : Array Oper} {fi : FI} {rs : List Rec} {t₀ t' : T CV} {h₀ h' : T Blk} {nx₀ nx' : Nat}

theorem Ctx.ord (C : Ctx P tab ops fi rs t₀ h₀ nx₀ t' h' nx') {D : Nat → Prop} (hD : Down ops D) {i j : Nat} (hij : i < j) {a b : Inf} (ha : (infs ops)[i]? = some a) (hb : (infs ops)[j]? = some b) (hj : Free ops D j) :
    sameD a.o.dst b.o.dst = false ∧ (D i ∨ (Nat.testBit b.bef i = false ∧ (a.cls.isW && b.cls.isW) = false ∧ (a.cls.isA && b.cls.isW) = false ∧ inL a.o.dst b.looks = false ∧ inL b.o.dst a.looks = false)) := by
  have h := okAll_pair C.ok ha hb
  have hlt : Nat.blt i j = true := Nat.ble_eq_true_of_le hij
  simp only [okPair, hlt, Bool.and_eq_true, Bool.or_eq_true, Bool.not_eq_true'] at h
  obtain ⟨h1, h2⟩ := h
  refine ⟨h2, ?_⟩
  cases hbit : Nat.testBit b.bef i with
  | true =>
    obtain ⟨_, _, _, _, h5⟩ := infs_get hb
    rw [h5] at hbit
    exact .inl (bits_spec ops D hD j hj i hbit)
  | false =>
    rcases h1 with h1 | h1
    · rw [hbit] at h1; cases h1
    · exact .inr ⟨rfl, h1.1.1.1, h1.1.1.2, h1.1.2, h1.2⟩

theorem Ctx.self (C : Ctx P tab ops fi rs t₀ h₀ nx₀ t' h' nx') {j : Nat} {b : Inf} (hb : (infs ops)[j]? = some b) : inL b.o.dst b.looks = false ∧ isDefer b.o.op = none := by
  have h := okAll_pair C.ok hb hb
  have hlt : Nat.blt j j = false := by
    cases hh : Nat.blt j j with
    | false => rfl
    | true => exact absurd (Nat.le_of_ble_eq_true hh) (by omega)
  have he : Nat.beq j j = true := by simp
  simp only [okPair, hlt, he, Bool.and_eq_true, Bool.not_eq_true', Option.isNone_iff_eq_none] at h
  exact ⟨h.1.1, h.1.2⟩

theorem Ctx.back (C : Ctx P tab ops fi rs t₀ h₀ nx₀ t' h' nx') {j : Nat} {b : Inf} (hb : (infs ops)[j]? = some b) : ∀ e ∈ aft ops j, Region.binds .any e = true → e.on < j := by
  have h := okAll_pair C.ok hb hb
  have hlt : Nat.blt j j = false := by
    cases hh : Nat.blt j j with
    | false => rfl
    | true => exact absurd (Nat.le_of_ble_eq_true hh) (by omega)
  have he : Nat.beq j j = true := by simp
  simp only [okPair, hlt, he, Bool.and_eq_true, List.all_eq_true] at h
  intro e hm hbi
  have hops := (infs_get hb).2.1
  have hm : e ∈ b.o.after.toList := by simpa [aft, hops] using hm
  have := h.2 e hm
  rw [hbi] at this
  simp only [Bool.not_true, Bool.false_or] at this
  exact Nat.le_of_ble_eq_true this

/-- THE INVARIANT: the operations of D are carried out; p: behind the last writer among them. -/
structure Inv (P : Program) (tab : Tab) (ops : Array Oper) (fi : FI) (rs : List Rec) (t₀ : T CV) (h₀ : T Blk) (nx₀ : Nat) (h' : T Blk) (nx' : Nat) (σ₀ : Sg) (a₀ : Act) (w₀ : World)
    (D : Nat → Prop) (p : Nat) (σ : Sg) (HD : T Blk) (a : Act) (w : World) : Prop where
  down : Down ops D
  cutW : ∀ i b c, (infs ops)[i]? = some b → rs[i]? = some c → b.w c → (D i ↔ i < p)
  cutp : p = 0 ∨ ∃ i b c, p = i + 1 ∧ (infs ops)[i]? = some b ∧ rs[i]? = some c ∧ b.w c
  rel : HPart tab.ng σ HD nx' w
  dom : ∀ c L, σ c = some L → c < nx₀ ∨ ∃ i b r, D i ∧ (infs ops)[i]? = some b ∧ rs[i]? = some r ∧ (b.w r ∨ b.al r) ∧ r.nx ≤ c ∧ c < r.nx'
  ag : ∀ e, p ≤ e → e ≤ ops.size → (∀ i b c, p ≤ i → i < e → (infs ops)[i]? = some b → rs[i]? = some c → ¬ b.w c) →
    ∀ c L B, c < nAt rs nx' e → σ c = some L → (hAt rs h' e).get c = some B → HD.get c = some B
  full : ∀ c B, c < nAt rs nx' p → (hAt rs h' p).get c = some B → ∃ L, σ c = some L
  early : ∀ i b r, D i → p ≤ i → (infs ops)[i]? = some b → rs[i]? = some r → b.al r → HD.get r.nx = r.h'.get r.nx ∧ ∃ L, σ r.nx = some L
  erw : ∀ c B, nAt rs nx' p ≤ c → HD.get c = some B → B.rw = true
  done : ∀ i b r d, D i → (infs ops)[i]? = some b → rs[i]? = some r → b.o.dst = some d → ∃ v, a.tmps[d]? = some v ∧ VRel σ r.v v
  old : ∀ n v, t₀.get n = some v → (∀ i b, D i → (infs ops)[i]? = some b → b.o.dst ≠ some n) → ∃ u, a.tmps[n]? = some u ∧ VRel σ v u
  size : a.tmps.size = a₀.tmps.size
  nt : fi.nt ≤ a.tmps.size
  dfr : a.defers = a₀.defers
  step : Step σ₀ h₀ w₀ σ HD w

variable {σ₀ : Sg} {a₀ : Act} {w₀ : World} {D : Nat → Prop} {p : Nat} {σ : Sg} {HD : T Blk} {a : Act} {w : World}

/-- the temporaries that an operation looks at -/
theorem Inv.looks (C : Ctx P tab ops fi rs t₀ h₀ nx₀ t' h' nx') (I : Inv P tab ops fi rs t₀ h₀ nx₀ h' nx' σ₀ a₀ w₀ D p σ HD a w) {j : Nat} {b : Inf} {c : Rec} (hb : (infs ops)[j]? = some b) (hc : rs[j]? = some c)
    (hj : Free ops D j) (hn : ¬ D j) : TRel σ c.t a.tmps := by
  intro n v hv
  obtain ⟨c', hc', _, hlook, _⟩ := C.tr.at hb
  rw [hc] at hc'; cases hc'
  have hl := hlook n v hv
  rcases C.tr.tmp hc n v hv with ⟨i, b', c', hij, hb', hc', hd, rfl⟩ | ⟨h1, h2⟩
  · rcases (C.ord I.down hij hb' hb hj).2 with hDi | ⟨_, _, _, h4, _⟩
    · exact I.done i b' c' n hDi hb' hc' hd
    · rw [inL_some hd, hl] at h4; cases h4
  · refine I.old n v h1 fun i b' hDi hb' hd => ?_
    rcases Nat.lt_trichotomy i j with hlt | rfl | hgt
    · exact h2 i b' hlt hb' hd
    · exact hn hDi
    · rcases (C.ord I.down hgt hb hb' (I.down i hDi)).2 with hDj | ⟨_, _, _, _, h5⟩
      · exact hn hDj
      · rw [inL_some hd, hl] at h5; cases h5

/-- temporaries and what else does not speak of the heap, when an operation has put its value -/
theorem Inv.put (C : Ctx P tab ops fi rs t₀ h₀ nx₀ t' h' nx') (I : Inv P tab ops fi rs t₀ h₀ nx₀ h' nx' σ₀ a₀ w₀ D p σ HD a w) {j : Nat} {b : Inf} {c : Rec} (hb : (infs ops)[j]? = some b) (hc : rs[j]? = some c)
    (hj : Free ops D j) (hn : ¬ D j) {τ : Sg} (hle : σ.le τ) {v : Value} (hv : VRel τ c.v v) :
    (∀ i b' r d, (D i ∨ i = j) → (infs ops)[i]? = some b' → rs[i]? = some r → b'.o.dst = some d → ∃ v', (a.put b.o.dst v).tmps[d]? = some v' ∧ VRel τ r.v v') ∧
    (∀ n u, t₀.get n = some u → (∀ i b', (D i ∨ i = j) → (infs ops)[i]? = some b' → b'.o.dst ≠ some n) → ∃ x, (a.put b.o.dst v).tmps[n]? = some x ∧ VRel τ u x) := by
  obtain ⟨c', hc', _, _, hdst, _⟩ := C.tr.at hb
  have other : ∀ d, b.o.dst ≠ some d → (a.put b.o.dst v).tmps[d]? = a.tmps[d]? := fun d hd => by
    cases hbd : b.o.dst with
    | none => rfl
    | some x =>
      simp only [Act.put]
      rw [Array.getElem?_setIfInBounds_ne (fun hh => hd (by rw [hbd, hh]))]
  refine ⟨fun i b' r d hi hb' hr hd => ?_, fun n u hu hno => ?_⟩
  · by_cases hij : i = j
    · subst hij
      rw [hb] at hb'; rw [hc] at hr; cases hb'; cases hr
      refine ⟨v, ?_, hv⟩
      simp only [Act.put, hd]
      rw [Array.getElem?_setIfInBounds_self_of_lt (Nat.lt_of_lt_of_le (hdst d hd) I.nt)]
    · have hDi : D i := hi.resolve_right hij
      obtain ⟨v', h1, h2⟩ := I.done i b' r d hDi hb' hr hd
      have hne : b.o.dst ≠ some d := fun hbd => by
        have : sameD b'.o.dst b.o.dst = false ∨ sameD b.o.dst b'.o.dst = false := by
          rcases Nat.lt_or_gt_of_ne hij with hlt | hgt
          · exact .inl (C.ord I.down hlt hb' hb hj).1
          · exact .inr (C.ord I.down hgt hb hb' (I.down i hDi)).1
        rcases this with h | h <;> (rw [hd, hbd] at h; simp [sameD] at h)
      exact ⟨v', by rw [other d hne]; exact h1, h2.mono hle⟩
  · obtain ⟨x, h1, h2⟩ := I.old n u hu fun i b' hDi hb' => hno i b' (.inl hDi) hb'
    exact ⟨x, by rw [other n (hno j b (.inr rfl) hb)]; exact h1, h2.mono hle⟩

/-- an operation that leaves the heap alone -/
theorem Inv.still (C : Ctx P tab ops fi rs t₀ h₀ nx₀ t' h' nx') (I : Inv P tab ops fi rs t₀ h₀ nx₀ h' nx' σ₀ a₀ w₀ D p σ HD a w) {j : Nat} {b : Inf} {c : Rec} (hb : (infs ops)[j]? = some b) (hc : rs[j]? = some c)
    (hj : Free ops D j) (hn : ¬ D j) (hw : ¬ b.w c) (hal : ¬ b.al c) {v : Value} (hv : VRel σ c.v v) :
    Inv P tab ops fi rs t₀ h₀ nx₀ h' nx' σ₀ a₀ w₀ (fun i => D i ∨ i = j) p σ HD (a.put b.o.dst v) w := by
  obtain ⟨p1, p2⟩ := I.put C hb hc hj hn (Sg.le.refl σ) hv
  refine ⟨?_, ?_, I.cutp, I.rel, ?_, I.ag, I.full, ?_, I.erw, p1, p2, by rw [Act.put_size]; exact I.size, by rw [Act.put_size]; exact I.nt, by rw [Act.put_defers]; exact I.dfr, I.step⟩
  · rintro i (hi | rfl) e he hbi
    · exact .inl (I.down i hi e he hbi)
    · exact .inl (hj e he hbi)
  · intro i b' c' hb' hc' hw'
    have hij : i ≠ j := fun hh => by subst hh; rw [hb] at hb'; rw [hc] at hc'; cases hb'; cases hc'; exact hw hw'
    rw [← I.cutW i b' c' hb' hc' hw']
    exact ⟨fun h => h.resolve_right hij, .inl⟩
  · intro x L hx
    rcases I.dom x L hx with h | ⟨i, b', r, h1, h2⟩
    · exact .inl h
    · exact .inr ⟨i, b', r, .inl h1, h2⟩
  · rintro i b' r (hi | rfl) hpi hb' hr hal'
    · exact I.early i b' r hi hpi hb' hr hal'
    · rw [hb] at hb'; rw [hc] at hr; cases hb'; cases hr; exact absurd hal' hal
end
end
end Go.Can
namespace Go.Can
variable {β : Type}
section
variable {P : Program} {tab : Tab} {ops : Array Oper} {fi : FI} {rs : List Rec} {t₀ t' : T CV} {h₀ h' : T Blk} {nx₀ nx' : Nat} {σ₀ : Sg} {a₀ : Act} {w₀ : World} {D : Nat → Prop} {p : Nat} {σ : Sg} {HD : T Blk} {a : Act} {w : World}

theorem first_of {W : Nat → Prop} {p j : Nat} : ∀ i, p ≤ i → i < j → W i → ∃ k, p ≤ k ∧ k < j ∧ W k ∧ ∀ i, p ≤ i → i < k → ¬ W i := by
  intro i
  induction i using Nat.strongRecOn with
  | ind i ih =>
    intro h1 h2 h3
    by_cases h : ∃ m, p ≤ m ∧ m < i ∧ W m
    · obtain ⟨m, m1, m2, m3⟩ := h; exact ih m m2 m1 (by omega) m3
    · exact ⟨i, h1, h2, h3, fun m m1 m2 m3 => h ⟨m, m1, m2, m3⟩⟩

theorem HPart.sees (r : HPart tab.ng σ HD nx' w) {g : T Blk} (hs : ∀ c L B, σ c = some L → g.get c = some B → HD.get c = some B) : HPart tab.ng σ g nx' w :=
  r.part (Sg.le.refl σ) hs (fun c L e => (r.dom c L e).1) (fun _ _ _ _ _ h => h) (fun _ _ _ h => h)

theorem Ctx.bound (C : Ctx P tab ops fi rs t₀ h₀ nx₀ t' h' nx') {j : Nat} {c : Rec} (hc : rs[j]? = some c) : (∀ x B, c.h.get x = some B → x < c.nx) ∧ (∀ x B, c.h'.get x = some B → x < c.nx') := by
  obtain ⟨⟨τ, u, z, h1, _⟩, τ', v, z', h2, _⟩ := C.wit j c hc
  exact ⟨fun x B hx => let ⟨L, hL⟩ := h1.full x B hx; (h1.dom x L hL).1, fun x B hx => let ⟨L, hL⟩ := h2.full x B hx; (h2.dom x L hL).1⟩

theorem Inv.readHeap (C : Ctx P tab ops fi rs t₀ h₀ nx₀ t' h' nx') (I : Inv P tab ops fi rs t₀ h₀ nx₀ h' nx' σ₀ a₀ w₀ D p σ HD a w) {j : Nat} {b : Inf} {c : Rec} (hb : (infs ops)[j]? = some b) (hc : rs[j]? = some c)
    (hj : Free ops D j) (hn : ¬ D j) (hq : c.q = true) (hcl : b.cls = .read) : ∃ g, ReadsAs P tab b.o.op c.t g c.v ∧ HPart tab.ng σ g nx' w := by
  obtain ⟨c', hc', ok, _, _, _⟩ := C.tr.at hb
  rw [hc] at hc'; cases hc'
  have hjs : j < ops.size := (infs_get hb).1
  by_cases h1 : p ≤ j
  · by_cases h2 : ∃ i, p ≤ i ∧ i < j ∧ ∃ b c, (infs ops)[i]? = some b ∧ rs[i]? = some c ∧ b.w c
    · obtain ⟨i, i1, i2, i3⟩ := h2
      obtain ⟨k, k1, k2, ⟨bk, rk, kb, kr, kw⟩, kno⟩ := first_of (W := fun i => ∃ b c, (infs ops)[i]? = some b ∧ rs[i]? = some c ∧ b.w c) i i1 i2 i3
      have hDk : ¬ D k := fun h => by have := (I.cutW k bk rk kb kr kw).1 h; omega
      rcases (C.ord I.down k2 kb hb hj).2 with h | ⟨hbit, _⟩
      · exact absurd h hDk
      · have hmem : (j, k, true) ∈ pairsOf (infs ops) := pairs_mem kb hb (by
          have hlt : Nat.blt k j = true := Nat.ble_eq_true_of_le k2
          simp [pairsAt, hlt, hbit, kw.2, hcl, Cls.isW, Cls.isR])
        have hR := C.reads j k true hmem b c rk hb hc kr hq kw.1
        refine ⟨rk.h, hR, I.rel.sees fun x L B hx hg => ?_⟩
        have hk := hAt_some (h' := h') kr
        refine I.ag k k1 (by omega) (fun i b' c' q1 q2 q3 q4 q5 => kno i q1 q2 ⟨b', c', q3, q4, q5⟩) x L B ?_ hx (by rw [hk]; exact hg)
        rw [nAt_some kr]; exact (C.bound kr).1 x B hg
    · refine ⟨c.h, (ok.read hq hcl).2, I.rel.sees fun x L B hx hg => ?_⟩
      have hk := hAt_some (h' := h') hc
      refine I.ag j h1 (by omega) (fun i b' c' q1 q2 q3 q4 q5 => h2 ⟨i, q1, q2, b', c', q3, q4, q5⟩) x L B ?_ hx (by rw [hk]; exact hg)
      rw [nAt_some hc]; exact (C.bound hc).1 x B hg
  · rcases I.cutp with h0 | ⟨i, bi, ri, rfl, ib, ir, iw⟩
    · omega
    · have hDi : D i := (I.cutW i bi ri ib ir iw).2 (Nat.lt_succ_self i)
      have hne : j ≠ i := fun hh => by subst hh; exact hn hDi
      have hlt : j < i := by omega
      rcases (C.ord I.down hlt hb ib (I.down i hDi)).2 with h | ⟨hbit, _⟩
      · exact absurd h hn
      · have hmem : (j, i, false) ∈ pairsOf (infs ops) := pairs_mem hb ib (by
          have hlt' : Nat.blt j i = true := Nat.ble_eq_true_of_le hlt
          simp [pairsAt, hlt', hbit, iw.2, hcl, Cls.isW, Cls.isR])
        have hR := C.reads j i false hmem b c ri hb hc ir hq iw.1
        obtain ⟨ri', ir', _, _, _, q5, q6⟩ := C.tr.at ib
        rw [ir] at ir'; cases ir'
        refine ⟨ri.h', hR, I.rel.sees fun x L B hx hg => ?_⟩
        refine I.ag (i + 1) (Nat.le_refl _) (infs_get ib).1 (fun i' b' c' q1 q2 => by omega) x L B ?_ hx (by rw [← q5]; exact hg)
        rw [← q6]; exact (C.bound ir).2 x B hg

theorem Ctx.nAt_le (C : Ctx P tab ops fi rs t₀ h₀ nx₀ t' h' nx') (e : Nat) : nAt rs nx' e ≤ nx' := by
  have h1 := C.tr.mono (i := e) (j := e + rs.length) (by omega)
  have h2 : rs[e + rs.length]? = none := List.getElem?_eq_none (by omega)
  simpa [nAt, h2] using h1

/-- an allocation -/
theorem Inv.alloc (C : Ctx P tab ops fi rs t₀ h₀ nx₀ t' h' nx') (I : Inv P tab ops fi rs t₀ h₀ nx₀ h' nx' σ₀ a₀ w₀ D p σ HD a w) {j : Nat} {b : Inf} {c : Rec} (hb : (infs ops)[j]? = some b) (hc : rs[j]? = some c)
    (hj : Free ops D j) (hn : ¬ D j) (hal : b.al c) : ∃ v w', (execOp a.eval b.o).run P w = .ok (.value v) w' ∧ ∃ σ' HD', Inv P tab ops fi rs t₀ h₀ nx₀ h' nx' σ₀ a₀ w₀ (fun i => D i ∨ i = j) p σ' HD' (a.put b.o.dst v) w' := by
  obtain ⟨c', hc', ok, _, _, h5, h6⟩ := C.tr.at hb
  rw [hc] at hc'; cases hc'
  obtain ⟨B, k1, k2, k3, k4⟩ := ok.alloc hal.1 hal.2
  have hnj : nAt rs nx' j = c.nx := nAt_some hc
  have hfresh : σ c.nx = none := by
    cases hσ : σ c.nx with
    | none => rfl
    | some L =>
      rcases I.dom _ L hσ with h | ⟨i, bi, ri, hDi, ib, ir, _, q1, q2⟩
      · have := C.tr.mono (Nat.zero_le j); rw [C.tr.zero.2, hnj] at this; omega
      · obtain ⟨ri', ir', _, _, _, _, q6⟩ := C.tr.at ib
        rw [ir] at ir'; cases ir'
        have hne : i ≠ j := fun hh => by subst hh; exact hn hDi
        rcases Nat.lt_or_gt_of_ne hne with hlt | hgt
        · have := C.tr.mono (i := i + 1) (j := j) hlt; rw [← q6, hnj] at this; omega
        · have := C.tr.mono (i := j + 1) (j := i) hgt; rw [← h6, nAt_some ir] at this; omega
  have hlt : c.nx < nx' := by have := C.nAt_le (j + 1); rw [← h6] at this; omega
  have hpj : p ≤ j := by
    rcases I.cutp with h0 | ⟨i, bi, ri, rfl, ib, ir, iw⟩
    · omega
    · have hDi : D i := (I.cutW i bi ri ib ir iw).2 (Nat.lt_succ_self i)
      have hne : j ≠ i := fun hh => by subst hh; exact hn hDi
      by_cases hlt : i < j
      · exact hlt
      · rcases (C.ord I.down (show j < i by omega) hb ib (I.down i hDi)).2 with h | ⟨_, _, h, _⟩
        · exact absurd h hn
        · simp [hal.2, iw.2, Cls.isA, Cls.isW] at h
  obtain ⟨v, obj, fin, hrun, hB⟩ := k4 σ a.eval w b.o rfl (TRel.env (I.looks C hb hc hj hn) I.rel)
  have hle : σ.le (σ.upd c.nx ⟨w.heap.size, 0, fin⟩) := Sg.le_upd hfresh
  obtain ⟨hv, hB⟩ := hB _ hle (Sg.upd_same σ c.nx _)
  obtain ⟨hrel, hst⟩ := I.rel.newAt hfresh hlt obj B fin hB
  obtain ⟨p1, p2⟩ := I.put C hb hc hj hn hle hv
  have get : ∀ x, (HD.set c.nx B).get x = if x = c.nx then some B else HD.get x := fun x => T.get_set _ _ _ _
  refine ⟨v, _, hrun, _, _, ⟨?_, ?_, I.cutp, hrel, ?_, ?_, ?_, ?_, ?_, p1, p2, by rw [Act.put_size]; exact I.size, by rw [Act.put_size]; exact I.nt, by rw [Act.put_defers]; exact I.dfr, I.step.trans hst⟩⟩
  · rintro i (hi | rfl) e he hbi
    · exact .inl (I.down i hi e he hbi)
    · exact .inl (hj e he hbi)
  · intro i b' c' hb' hc' hw'
    have hij : i ≠ j := fun hh => by subst hh; rw [hb] at hb'; rw [hc] at hc'; cases hb'; cases hc'; have := hw'.2; rw [hal.2] at this; cases this
    rw [← I.cutW i b' c' hb' hc' hw']
    exact ⟨fun h => h.resolve_right hij, .inl⟩
  · intro x L hx
    by_cases hxc : x = c.nx
    · subst hxc; exact .inr ⟨j, b, c, .inr rfl, hb, hc, .inr hal, Nat.le_refl _, by omega⟩
    · rw [Sg.upd_ne σ _ hxc] at hx
      rcases I.dom x L hx with h | ⟨i, b', r, h1, h2⟩
      · exact .inl h
      · exact .inr ⟨i, b', r, .inl h1, h2⟩
  · intro e he hes hno x L X hx hσ hg
    rw [get]
    by_cases hxc : x = c.nx
    · subst hxc
      rw [if_pos rfl]
      have hje : j < e := by
        by_cases hje : j < e
        · exact hje
        · have := C.tr.mono (i := e) (j := j) (by omega); rw [hnj] at this; omega
      have := (C.tr.quiet p e he (by rw [infs_length]; exact hes) hno).2.1 j b c hpj hje hb hc hal
      rw [this, k2, T.get_set, if_pos rfl] at hg
      exact hg
    · rw [if_neg hxc]; rw [Sg.upd_ne σ _ hxc] at hσ; exact I.ag e he hes hno x L X hx hσ hg
  · intro x X hx hg
    obtain ⟨L, hL⟩ := I.full x X hx hg
    exact ⟨L, hle _ _ hL⟩
  · rintro i b' r (hi | rfl) hpi hb' hr hal'
    · obtain ⟨e1, L, e2⟩ := I.early i b' r hi hpi hb' hr hal'
      have hne : r.nx ≠ c.nx := fun hh => by rw [hh, hfresh] at e2; cases e2
      exact ⟨by rw [get, if_neg hne]; exact e1, L, hle _ _ e2⟩
    · rw [hb] at hb'; rw [hc] at hr; cases hb'; cases hr
      exact ⟨by rw [get, if_pos rfl, k2, T.get_set, if_pos rfl], _, Sg.upd_same _ _ _⟩
  · intro x X hx hg
    rw [get] at hg
    by_cases hxc : x = c.nx
    · rw [if_pos hxc] at hg; cases hg; exact k3
    · rw [if_neg hxc] at hg; exact I.erw x X hx hg
end
end Go.Can
namespace Go.Can
variable {β : Type}
section
variable {P : Program} {tab : Tab} {ops : Array Oper} {fi : FI} {rs : List Rec} {t₀ t' : T CV} {h₀ h' : T Blk} {nx₀ nx' : Nat} {σ₀ : Sg} {a₀ : Act} {w₀ : World} {D : Nat → Prop} {p : Nat} {σ : Sg} {HD : T Blk} {a : Act} {w : World}

theorem RecOK.moves {b : Inf} {c : Rec} (ok : RecOK P tab ops b c) (h : c.nx < c.nx') : b.w c ∨ b.al c := by
  cases hq : c.q with
  | false => have := (ok.off hq).2.2; omega
  | true =>
    cases hcl : b.cls with
    | pure => have := (ok.pure hq hcl).1.2; omega
    | read => have := (ok.read hq hcl).1.2; omega
    | alloc => exact .inr ⟨hq, hcl⟩
    | write => exact .inl ⟨hq, hcl⟩

theorem Tr.slot (C : Ctx P tab ops fi rs t₀ h₀ nx₀ t' h' nx') : ∀ {j : Nat}, j ≤ ops.size → ∀ {x : Nat}, nx₀ ≤ x → x < nAt rs nx' j → ∃ i b c, i < j ∧ (infs ops)[i]? = some b ∧ rs[i]? = some c ∧ (b.w c ∨ b.al c) ∧ c.nx ≤ x ∧ x < c.nx'
  | 0, _, x, h1, h2 => by rw [C.tr.zero.2] at h2; omega
  | j + 1, hj, x, h1, h2 => by
    by_cases h : x < nAt rs nx' j
    · obtain ⟨i, b, c, q1, q2⟩ := Tr.slot C (by omega) h1 h
      exact ⟨i, b, c, by omega, q2⟩
    · obtain ⟨b, hb⟩ : ∃ b, (infs ops)[j]? = some b := ⟨_, List.getElem?_eq_getElem (by rw [infs_length]; omega)⟩
      obtain ⟨c, hc, ok, _, _, _, h6⟩ := C.tr.at hb
      rw [← h6] at h2
      rw [nAt_some hc] at h
      exact ⟨j, b, c, Nat.lt_succ_self j, hb, hc, ok.moves (by omega), by omega, h2⟩

/-- a writer -/
theorem Inv.write (C : Ctx P tab ops fi rs t₀ h₀ nx₀ t' h' nx') (I : Inv P tab ops fi rs t₀ h₀ nx₀ h' nx' σ₀ a₀ w₀ D p σ HD a w) {j : Nat} {b : Inf} {c : Rec} (hb : (infs ops)[j]? = some b) (hc : rs[j]? = some c)
    (hj : Free ops D j) (hn : ¬ D j) (hw : b.w c) : Good P ((execOp a.eval b.o).run P w) fun v w' => ∃ p' σ' HD', Inv P tab ops fi rs t₀ h₀ nx₀ h' nx' σ₀ a₀ w₀ (fun i => D i ∨ i = j) p' σ' HD' (a.put b.o.dst v) w' := by
  obtain ⟨c', hc', ok, _, _, h5, h6⟩ := C.tr.at hb
  rw [hc] at hc'; cases hc'
  have hjs : j < ops.size := (infs_get hb).1
  have hnj : nAt rs nx' j = c.nx := nAt_some hc
  have hhj : hAt rs h' j = c.h := hAt_some hc
  have hpj : p ≤ j := by
    rcases I.cutp with h0 | ⟨i, bi, ri, rfl, ib, ir, iw⟩
    · omega
    · have hDi : D i := (I.cutW i bi ri ib ir iw).2 (Nat.lt_succ_self i)
      have hne : j ≠ i := fun hh => by subst hh; exact hn hDi
      by_cases hlt : i < j
      · exact hlt
      · rcases (C.ord I.down (show j < i by omega) hb ib (I.down i hDi)).2 with h | ⟨_, h, _⟩
        · exact absurd h hn
        · simp [hw.2, iw.2, Cls.isW] at h
  have hnow : ∀ i b' c', p ≤ i → i < j → (infs ops)[i]? = some b' → rs[i]? = some c' → ¬ b'.w c' := by
    intro i b' c' q1 q2 q3 q4 q5
    rcases (C.ord I.down q2 q3 hb hj).2 with h | ⟨_, h, _⟩
    · have := (I.cutW i b' c' q3 q4 q5).1 h; omega
    · simp [hw.2, q5.2, Cls.isW] at h
  have hall : ∀ i b' c', i < j → (infs ops)[i]? = some b' → rs[i]? = some c' → (b'.w c' ∨ b'.al c') → D i := by
    intro i b' c' q2 q3 q4 q5
    rcases (C.ord I.down q2 q3 hb hj).2 with h | ⟨_, h, h2, _⟩
    · exact h
    · rcases q5 with q5 | q5
      · simp [hw.2, q5.2, Cls.isW] at h
      · simp [hw.2, q5.2, Cls.isW, Cls.isA] at h2
  have hag : ∀ x L B, x < c.nx → σ x = some L → c.h.get x = some B → HD.get x = some B := fun x L B h1 h2 h3 =>
    I.ag j hpj (by omega) hnow x L B (by rw [hnj]; exact h1) h2 (by rw [hhj]; exact h3)
  obtain ⟨⟨τ, u, z, hτ, hu⟩, _⟩ := C.wit j c hc
  have hbelow : τ.below c.nx := fun x L hx => (hτ.dom x L hx).1
  have hpart : HPart tab.ng (σ.cut c.nx) c.h c.nx w := I.rel.part (Sg.cut_le σ _) (fun x L B hx hg => by
      obtain ⟨h1, h2⟩ := Sg.cut_some hx; exact hag x L B h1 h2 hg) (fun x L hx => (Sg.cut_some hx).1)
    (fun x L B hx hg hB => by
      obtain ⟨M, hM⟩ := hτ.full x B hg
      exact BRel.cut hbelow (hτ.blk x M B hM hg) hB)
    (fun g L hg hL => by
      obtain ⟨M, hM, _⟩ := hτ.glob g hg
      exact Sg.cut_of (hbelow g M hM) hL)
  have hrel : HRel tab.ng (σ.cut c.nx) c.h c.nx w := ⟨hpart, fun x B hg => by
    have hx := (C.bound hc).1 x B hg
    have : ∃ L, σ x = some L := by
      obtain ⟨q1, q2, q3⟩ := C.tr.quiet p j hpj (by rw [infs_length]; omega) hnow
      have hg' : (hAt rs h' j).get x = some B := by rw [hhj]; exact hg
      by_cases hxp : x < nAt rs nx' p
      · exact I.full x B hxp (by rw [← q1 x hxp]; exact hg')
      · rcases q3 x (by omega) with h | ⟨m, bm, rm, m1, m2, m3, m4, m5, rfl⟩
        · rw [h] at hg'
          obtain ⟨bp, hbp⟩ : ∃ b, (infs ops)[p]? = some b := ⟨_, List.getElem?_eq_getElem (by rw [infs_length]; omega)⟩
          obtain ⟨rp, hrp, _⟩ := C.tr.at hbp
          rw [hAt_some hrp] at hg'
          have := (C.bound hrp).1 x B hg'
          rw [nAt_some hrp] at hxp; exact absurd this hxp
        · exact (I.early m bm rm (hall m bm rm m2 m3 m4 (.inr m5)) m1 m3 m4 m5).2
    obtain ⟨L, hL⟩ := this
    exact ⟨L, Sg.cut_of hx hL⟩⟩
  have hlooks : TRel (σ.cut c.nx) c.t a.tmps := TRel.cut hbelow hu (I.looks C hb hc hj hn)
  have hgood := (ok.write hw.1 hw.2).2 (σ.cut c.nx) a.eval w (TRel.env hlooks hpart) hrel
  refine hgood.mono fun v w₁ hp => ?_
  obtain ⟨σ₁, hv, hr₁, st₁⟩ := hp
  have hle : c.nx ≤ c.nx' := ok.le
  have hmax : c.nx' ≤ nx' := by rw [h6]; exact C.nAt_le _
  have hnone : ∀ x, c.nx ≤ x → x < c.nx' → σ x = none := by
    intro x q1 q2
    cases hσ : σ x with
    | none => rfl
    | some L =>
      rcases I.dom _ L hσ with h | ⟨i, bi, ri, hDi, ib, ir, _, r1, r2⟩
      · have := C.tr.mono (Nat.zero_le j); rw [C.tr.zero.2, hnj] at this; omega
      · obtain ⟨ri', ir', _, _, _, _, q6⟩ := C.tr.at ib
        rw [ir] at ir'; cases ir'
        have hne : i ≠ j := fun hh => by subst hh; exact hn hDi
        rcases Nat.lt_or_gt_of_ne hne with hlt | hgt
        · have := C.tr.mono (i := i + 1) (j := j) hlt; rw [← q6, hnj] at this; omega
        · have := C.tr.mono (i := j + 1) (j := i) hgt; rw [← h6, nAt_some ir] at this; omega
  have hpn : nAt rs nx' p ≤ c.nx := by rw [← hnj]; exact C.tr.mono hpj
  obtain ⟨τ', H, eτ, eH, relH, stH⟩ := I.rel.within hle hmax hr₁.toHPart st₁ (fun x B h1 h2 h3 => by
    obtain ⟨L, hL⟩ := Option.isSome_iff_exists.1 h2; exact hag x L B h1 hL h3) hnone (fun x B h1 h2 => I.erw x B (by omega) h2)
  have hle1 : σ₁.le τ' := fun x L hx => by rw [eτ, if_pos (hr₁.dom x L hx).1]; exact hx
  obtain ⟨p1, p2⟩ := I.put C hb hc hj hn stH.le (hv.mono hle1)
  refine ⟨j + 1, τ', H, ⟨?_, ?_, .inr ⟨j, b, c, rfl, hb, hc, hw⟩, relH, ?_, ?_, ?_, ?_, ?_, p1, p2, by rw [Act.put_size]; exact I.size, by rw [Act.put_size]; exact I.nt, by rw [Act.put_defers]; exact I.dfr, I.step.trans stH⟩⟩
  · rintro i (hi | rfl) e he hbi
    · exact .inl (I.down i hi e he hbi)
    · exact .inl (hj e he hbi)
  · intro i b' c' hb' hc' hw'
    constructor
    · rintro (h | rfl)
      · have := (I.cutW i b' c' hb' hc' hw').1 h; omega
      · omega
    · intro h
      by_cases hij : i = j
      · exact .inr hij
      · exact .inl (hall i b' c' (by omega) hb' hc' (.inl hw'))
  · intro x L hx
    rw [eτ] at hx
    by_cases hx1 : x < c.nx'
    · by_cases hx2 : c.nx ≤ x
      · exact .inr ⟨j, b, c, .inr rfl, hb, hc, .inl hw, hx2, hx1⟩
      · by_cases hx3 : x < nx₀
        · exact .inl hx3
        · obtain ⟨i, bi, ri, q1, q2, q3, q4, q5⟩ := Tr.slot C (j := j) (by omega) (x := x) (by omega) (by rw [hnj]; omega)
          exact .inr ⟨i, bi, ri, .inl (hall i bi ri q1 q2 q3 q4), q2, q3, q4, q5⟩
    · rw [if_neg hx1] at hx
      rcases I.dom x L hx with h | ⟨i, b', r, h1, h2⟩
      · exact .inl h
      · exact .inr ⟨i, b', r, .inl h1, h2⟩
  · intro e he hes hno x L X hx hσ hg
    obtain ⟨q1, q2, q3⟩ := C.tr.quiet (j + 1) e he (by rw [infs_length]; exact hes) hno
    rw [eH]
    by_cases hx1 : x < c.nx'
    · rw [if_pos hx1, h5, ← q1 x (by rw [← h6]; exact hx1)]; exact hg
    · rw [if_neg hx1, if_pos (Nat.lt_of_lt_of_le hx (C.nAt_le e))]
      rw [eτ, if_neg hx1] at hσ
      rcases I.dom x L hσ with h | ⟨i, bi, ri, hDi, ib, ir, hk, r1, r2⟩
      · have := C.tr.mono (Nat.zero_le (j + 1)); rw [C.tr.zero.2, ← h6] at this; omega
      · obtain ⟨ri', ir', oki, _, _, _, q6⟩ := C.tr.at ib
        rw [ir] at ir'; cases ir'
        have hgt : j < i := by
          by_cases hgt : j < i
          · exact hgt
          · have := C.tr.mono (i := i + 1) (j := j + 1) (by omega); rw [← q6, ← h6] at this; omega
        rcases hk with hk | hk
        · have := (I.cutW i bi ri ib ir hk).1 hDi; omega
        · obtain ⟨B', k1, _⟩ := oki.alloc hk.1 hk.2
          have hxi : x = ri.nx := by omega
          subst hxi
          have hie : i < e := by
            by_cases hie : i < e
            · exact hie
            · have := C.tr.mono (i := e) (j := i) (by omega); rw [nAt_some ir] at this; omega
          rw [(I.early i bi ri hDi (by omega) ib ir hk).1, ← q2 i bi ri hgt hie ib ir hk]
          exact hg
  · intro x X hx hg
    rw [← h5] at hg
    obtain ⟨L, hL⟩ := hr₁.full x X hg
    exact ⟨L, hle1 _ _ hL⟩
  · rintro i b' r (hi | rfl) hpi hb' hr hal'
    · obtain ⟨e1, L, e2⟩ := I.early i b' r hi (by omega) hb' hr hal'
      have hm := C.tr.mono (i := j + 1) (j := i) hpi
      rw [← h6, nAt_some hr] at hm
      have hlt : r.nx < nx' := (I.rel.dom _ L e2).1
      exact ⟨by rw [eH, if_neg (by omega), if_pos hlt]; exact e1, L, by rw [eτ, if_neg (by omega)]; exact e2⟩
    · omega
  · intro x X hx hg
    rw [← h6] at hx
    rw [eH, if_neg (by omega)] at hg
    split at hg
    · exact I.erw x X (by omega) hg
    · cases hg
end
end Go.Can
namespace Go.Can
variable {β : Type}
section
variable {P : Program} {tab : Tab} {ops : Array Oper} {fi : FI} {rs : List Rec} {t₀ t' : T CV} {h₀ h' : T Blk} {nx₀ nx' : Nat} {σ₀ : Sg} {a₀ : Act} {w₀ : World} {D : Nat → Prop} {p : Nat} {σ : Sg} {HD : T Blk} {a : Act} {w : World}

/-- one operation, whichever comes up -/
theorem Inv.op (C : Ctx P tab ops fi rs t₀ h₀ nx₀ t' h' nx') (I : Inv P tab ops fi rs t₀ h₀ nx₀ h' nx' σ₀ a₀ w₀ D p σ HD a w) {j : Nat} (hjs : j < ops.size) (hj : Free ops D j) (hn : ¬ D j)
    (rnd : Option Nat) (n : Nat) (Q : Exit → Act → World → Prop) (K : Act → World → Prop)
    (hK : ∀ p' σ' HD' a' w', Inv P tab ops fi rs t₀ h₀ nx₀ h' nx' σ₀ a₀ w₀ (fun i => D i ∨ i = j) p' σ' HD' a' w' → K a' w') : wpOpIn (FW rnd) n P ops Q j K a w := by
  obtain ⟨b, hb⟩ : ∃ b, (infs ops)[j]? = some b := ⟨_, List.getElem?_eq_getElem (by rw [infs_length]; exact hjs)⟩
  obtain ⟨c, hc, ok, _, _, _⟩ := C.tr.at hb
  obtain ⟨_, hop, hcls, _, _⟩ := infs_get hb
  have hlooks := I.looks C hb hc hj hn
  have hq := ok.want σ a.tmps hlooks
  have hdef := (C.self hb).2
  unfold wpOpIn
  simp only [hop, hq]
  cases hcq : c.q with
  | false =>
    have hv : VRel σ c.v undef := by rw [(ok.off hcq).1]; exact ⟨#[], rfl, rfl⟩
    simp only [Bool.false_eq_true, if_false]
    exact ⟨fun _ _ => trivial, hK _ _ _ _ _ (I.still C hb hc hj hn (fun h => absurd (h.1.symm.trans hcq) (by simp)) (fun h => absurd (h.1.symm.trans hcq) (by simp)) hv)⟩
  | true =>
    simp only [if_true]
    refine ⟨fun _ _ => trivial, ?_⟩
    rw [Oper.semAt_eq _ _ _ (isDefer_none hdef)]
    cases hcl : b.cls with
    | pure =>
      obtain ⟨v, hv, hrun⟩ := (ok.pure hcq hcl).2 σ a.eval w b.o rfl (TRel.env hlooks I.rel)
      rw [hrun, Oper.uponIn_value]
      exact hK _ _ _ _ _ (I.still C hb hc hj hn (fun h => by have := h.2; rw [hcl] at this; cases this) (fun h => by have := h.2; rw [hcl] at this; cases this) hv)
    | read =>
      obtain ⟨g, hR, hg⟩ := I.readHeap C hb hc hj hn hcq hcl
      obtain ⟨v, hv, hrun⟩ := hR σ a.eval w nx' b.o rfl (TRel.env hlooks I.rel) hg
      rw [hrun, Oper.uponIn_value]
      exact hK _ _ _ _ _ (I.still C hb hc hj hn (fun h => by have := h.2; rw [hcl] at this; cases this) (fun h => by have := h.2; rw [hcl] at this; cases this) hv)
    | alloc =>
      obtain ⟨v, w', hrun, σ', HD', I'⟩ := I.alloc C hb hc hj hn ⟨hcq, hcl⟩
      rw [hrun, Oper.uponIn_value]
      exact hK _ _ _ _ _ I'
    | write =>
      exact I.write C hb hc hj hn ⟨hcq, hcl⟩ rnd n b.o a K Q fun v w' ⟨p', σ', HD', I'⟩ => hK _ _ _ _ _ I'
end
end Go.Can
namespace Go.Can
variable {β : Type}
section
variable {P : Program} {tab : Tab} {ops : Array Oper} {fi : FI} {rs : List Rec} {t₀ t' : T CV} {h₀ h' : T Blk} {nx₀ nx' : Nat} {σ₀ : Sg} {a₀ : Act} {w₀ : World} {D : Nat → Prop} {p : Nat} {σ : Sg} {HD : T Blk} {a : Act} {w : World}

/-- all carried out -/
theorem Inv.end (C : Ctx P tab ops fi rs t₀ h₀ nx₀ t' h' nx') (I : Inv P tab ops fi rs t₀ h₀ nx₀ h' nx' σ₀ a₀ w₀ D p σ HD a w) (hall : ∀ j, j < ops.size → D j) (hb' : ∀ x B, h'.get x = some B → x < nx')
    {df : List Df} (hdf : DRel σ₀ df a₀.defers) : After tab.ng fi σ₀ h₀ w₀ a₀ t' df h' nx' a w := by
  have hlen : rs.length = ops.size := by rw [C.tr.length, infs_length]
  have hend : hAt rs h' ops.size = h' ∧ nAt rs nx' ops.size = nx' := by
    have : rs[ops.size]? = none := List.getElem?_eq_none (by omega)
    exact ⟨by simp [hAt, this], by simp [nAt, this]⟩
  have hp : p ≤ ops.size := by
    rcases I.cutp with h0 | ⟨i, bi, ri, rfl, ib, _⟩
    · omega
    · exact (infs_get ib).1
  have hno : ∀ i b c, p ≤ i → i < ops.size → (infs ops)[i]? = some b → rs[i]? = some c → ¬ b.w c := fun i b c q1 q2 q3 q4 q5 => by
    have := (I.cutW i b c q3 q4 q5).1 (hall i q2); omega
  have hsee : ∀ x L B, σ x = some L → h'.get x = some B → HD.get x = some B := fun x L B hx hg =>
    I.ag ops.size hp (Nat.le_refl _) hno x L B (by rw [hend.2]; exact hb' x B hg) hx (by rw [hend.1]; exact hg)
  refine ⟨σ, ⟨fun n v hv => ?_, I.nt, by rw [I.dfr]; exact hdf.mono I.step.le⟩, ⟨I.rel.sees hsee, fun x B hg => ?_⟩, ?_, I.size⟩
  · rcases C.tr.fin n v hv with ⟨i, b, c, q1, q2, q3, rfl⟩ | ⟨q1, q2⟩
    · exact I.done i b c n (hall i (infs_get q1).1) q1 q2 q3
    · exact I.old n v q1 fun i b _ hb => q2 i b hb
  · obtain ⟨q1, q2, q3⟩ := C.tr.quiet p ops.size hp (by rw [infs_length]; exact Nat.le_refl _) hno
    rw [hend.1] at q1 q3
    by_cases hxp : x < nAt rs nx' p
    · exact I.full x B hxp (by rw [← q1 x hxp]; exact hg)
    · rcases q3 x (by omega) with h | ⟨m, bm, rm, m1, m2, m3, m4, m5, rfl⟩
      · rw [h] at hg
        by_cases hps : p < ops.size
        · obtain ⟨bp, hbp⟩ : ∃ b, (infs ops)[p]? = some b := ⟨_, List.getElem?_eq_getElem (by rw [infs_length]; omega)⟩
          obtain ⟨rp, hrp, _⟩ := C.tr.at hbp
          rw [hAt_some hrp] at hg
          have := (C.bound hrp).1 x B hg
          rw [nAt_some hrp] at hxp; exact absurd this hxp
        · have hpe : p = ops.size := by omega
          rw [hpe, hend.1] at hg
          rw [hpe, hend.2] at hxp
          exact absurd (hb' x B hg) hxp
      · exact (I.early m bm rm (hall m m2) m1 m3 m4 m5).2
  · refine I.step.trans ⟨.refl σ, Nat.le_refl _, fun _ _ _ => rfl, ?_, ?_, rfl, rfl, rfl⟩
    · rintro b hb ⟨x, L, B, e, e', h1, rfl⟩; exact ⟨x, L, B, e, hsee x L B e e', h1, rfl⟩
    · rintro b hb ⟨x, L, B, e, e', rfl⟩; exact ⟨x, L, B, e, hsee x L B e e', rfl⟩

/-- nothing carried out -/
theorem Inv.start (C : Ctx P tab ops fi rs t₀ h₀ nx₀ t' h' nx') {df : List Df} (ha : ARel σ₀ fi t₀ df a₀) (hr : HRel tab.ng σ₀ h₀ nx₀ w₀) {w : World} (hw : w.heap = w₀.heap) (ht : w.tape = w₀.tape) (ho : w.os = w₀.os) (hp : w.output = w₀.output) :
    ∃ HD, Inv P tab ops fi rs t₀ h₀ nx₀ h' nx' σ₀ a₀ w₀ (fun _ => False) 0 σ₀ HD a₀ w := by
  obtain ⟨HD, hHD⟩ := exists_T (fun c => h₀.get c) nx₀
  have hsub : ∀ c B, HD.get c = some B → h₀.get c = some B := fun c B e => by
    rw [hHD] at e; split at e
    · exact e
    · cases e
  have hz := C.tr.zero
  have hle : nx₀ ≤ nx' := by rw [← hz.2]; exact C.nAt_le 0
  refine ⟨HD, ⟨fun j h => h.elim, fun i b c _ _ _ => ⟨fun h => h.elim, fun h => absurd h (Nat.not_lt_zero _)⟩, .inl rfl, ((hr.toHPart.world hw).sub hsub).nx_le hle, fun c L e => .inl (hr.dom c L e).1, ?_, ?_, fun i b r h => h.elim, ?_,
    fun i b r d h => h.elim, fun n v hv _ => ha.tmp n v hv, rfl, ha.size, rfl, (Step.world σ₀ h₀ hw ht ho hp).trans (Step.sub σ₀ w hsub)⟩⟩
  · intro e he hes hno c L B hc hσ hg
    have hcn := (hr.dom c L hσ).1
    have := (C.tr.quiet 0 e he (by rw [infs_length]; exact hes) hno).1 c (by rw [hz.2]; exact hcn)
    rw [this, hz.1] at hg
    rw [hHD, if_pos hcn]; exact hg
  · intro c B hc hg
    rw [hz.1] at hg
    exact hr.full c B hg
  · intro c B hc hg
    rw [hz.2] at hc
    rw [hHD, if_neg (by omega)] at hg; cases hg
end
end Go.Can
