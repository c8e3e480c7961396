/- The evaluator and its soundness, part 2: what it says of a call, the program does, whatever the tape. No condition. -/
import Derived.Test.YthdoelcgdgcncaaGreatDoorCan1
import Derived.Lib.AppendZerosOnto
import Derived.Scope
set_option linter.unusedVariables false
set_option linter.unusedSimpArgs false
namespace Go.Can
variable {β : Type}
section
variable {P : Program} {tab : Tab}

theorem MRel.append {σ : Sg} : ∀ {a b : List (CV × CV)} {k l : List MapEntry}, MRel σ a k → MRel σ b l → MRel σ (a ++ b) (k ++ l)
  | [], b, k, l, r, h => by cases r; exact h
  | (x, y) :: cs, b, k, l, ⟨v, vs, e, hc, hd, hs⟩, h => by cases e; exact ⟨v, vs ++ l, rfl, hc, hd, MRel.append hs h⟩

theorem setMap_ok {key v : CV} : ∀ {es : List (CV × CV)} {k : List (CV × CV) → Res β} {r : β}, setMap key v es k = .ok r →
    ∃ es', k es' = .ok r ∧ ∀ (σ : Sg) (qk : IntKind) (kv vv : Value) (l : List MapEntry) (i : Nat), VRel σ key kv → VRel σ v vv → MRel σ es l →
      (Instr.findNow (.int qk) kv l i = some none ∧ ∀ born, MRel σ es' (l ++ [{ key := kv, val := vv, born := born }])) ∨
      (∃ j x e0, Instr.findNow (.int qk) kv l i = some (some (i + j, x)) ∧ l[j]? = some e0 ∧ e0.key = kv ∧ MRel σ es' (l.modify j fun e => { e with key := kv, val := vv }))
  | [], k, r, h => ⟨[(key, v)], h, fun σ qk kv vv l i hk hv hm => by cases hm; exact .inl ⟨rfl, fun born => ⟨_, _, rfl, hk, hv, rfl⟩⟩⟩
  | (a, x) :: es, k, r, h => by
    simp only [setMap] at h
    cases hq : keyEq key a with
    | none => simp only [hq] at h; exact (bad_ok h).elim
    | some q =>
      obtain ⟨kk, m, n, rfl, rfl, hqe⟩ := keyEq_ok hq
      cases q with
      | true =>
        simp only [hq] at h
        refine ⟨_, h, fun σ qk kv vv l i hk hv hm => ?_⟩
        obtain ⟨e, l', rfl, ha, hb, hm⟩ := hm
        have hkv : kv = .int kk m := hk
        have hke : e.key = .int kk n := ha
        subst hkv
        have hmn : m = n := by simpa using hqe.symm
        subst hmn
        refine .inr ⟨0, e.val, e, ?_, rfl, hke, ?_⟩
        · rw [findNow_step hke, if_pos (by simp)]; rfl
        · exact ⟨_, _, rfl, rfl, hv, hm⟩
      | false =>
        simp only [hq] at h
        obtain ⟨es', h, H⟩ := setMap_ok h
        refine ⟨_, h, fun σ qk kv vv l i hk hv hm => ?_⟩
        obtain ⟨e, l', rfl, ha, hb, hm⟩ := hm
        have hkv : kv = .int kk m := hk
        have hke : e.key = .int kk n := ha
        subst hkv
        have hne : ¬ ((m == n) = true) := by rw [← hqe]; simp
        rcases H σ qk _ vv l' (i + 1) hk hv hm with ⟨h1, h2⟩ | ⟨j, x, e0, h1, h2, h3, h4⟩
        · exact .inl ⟨by rw [findNow_step hke, if_neg hne, h1], fun born => ⟨e, _, rfl, ha, hb, h2 born⟩⟩
        · refine .inr ⟨j + 1, x, e0, by rw [findNow_step hke, if_neg hne, h1]; congr 3; omega, by simpa using h2, h3, ?_⟩
          exact ⟨e, _, by simp, ha, hb, h4⟩

theorem delMap_ok {key : CV} : ∀ {es : List (CV × CV)} {k : List (CV × CV) → Res β} {r : β}, delMap key es k = .ok r →
    ∃ es', k es' = .ok r ∧ ∀ (σ : Sg) (qk : IntKind) (kv : Value) (l : List MapEntry) (i : Nat), VRel σ key kv → MRel σ es l →
      (Instr.findNow (.int qk) kv l i = some none ∧ MRel σ es' l) ∨
      (∃ j x, Instr.findNow (.int qk) kv l i = some (some (i + j, x)) ∧ MRel σ es' (l.eraseIdx j))
  | [], k, r, h => ⟨[], h, fun σ qk kv l i hk hm => by cases hm; exact .inl ⟨rfl, rfl⟩⟩
  | (a, x) :: es, k, r, h => by
    simp only [delMap] at h
    cases hq : keyEq key a with
    | none => simp only [hq] at h; exact (bad_ok h).elim
    | some q =>
      obtain ⟨kk, m, n, rfl, rfl, hqe⟩ := keyEq_ok hq
      cases q with
      | true =>
        simp only [hq] at h
        refine ⟨_, h, fun σ qk kv l i hk hm => ?_⟩
        obtain ⟨e, l', rfl, ha, hb, hm⟩ := hm
        have hkv : kv = .int kk m := hk
        have hke : e.key = .int kk n := ha
        subst hkv
        refine .inr ⟨0, e.val, ?_, hm⟩
        rw [findNow_step hke, if_pos hqe.symm]; rfl
      | false =>
        simp only [hq] at h
        obtain ⟨es', h, H⟩ := delMap_ok h
        refine ⟨_, h, fun σ qk kv l i hk hm => ?_⟩
        obtain ⟨e, l', rfl, ha, hb, hm⟩ := hm
        have hkv : kv = .int kk m := hk
        have hke : e.key = .int kk n := ha
        subst hkv
        have hne : ¬ ((m == n) = true) := by rw [← hqe]; simp
        rcases H σ qk _ l' (i + 1) hk hm with ⟨h1, h2⟩ | ⟨j, x, h1, h4⟩
        · exact .inl ⟨by rw [findNow_step hke, if_neg hne, h1], e, _, rfl, ha, hb, h2⟩
        · exact .inr ⟨j + 1, x, by rw [findNow_step hke, if_neg hne, h1]; congr 3; omega, e, _, rfl, ha, hb, h4⟩

theorem isIntV_ok {v : CV} (h : isIntV v = true) : ∃ k n, v = .int k n := by
  cases v with
  | int k n => exact ⟨k, n, rfl⟩
  | _ => exact absurd h (by simp [isIntV])

/-- a map holds something else -/
theorem HRel.putMap {G : Nat} {σ : Sg} {h : T Blk} {nx : Nat} {w : World} (hr : HRel G σ h nx w) {b : Nat} {L : Loc} {es es' : List (CV × CV)} {arr arr' : Array MapEntry} {clock clock' : Nat}
    (hL : σ b = some L) (hb : h.get b = some (.map es)) (hw : w.heap[L.blk]? = some (.map arr clock)) (hm : MRel σ es' arr'.toList) :
    HRel G σ (h.set b (.map es')) nx { w with heap := w.heap.setIfInBounds L.blk (.map arr' clock') } ∧ Step σ h w σ (h.set b (.map es')) { w with heap := w.heap.setIfInBounds L.blk (.map arr' clock') } := by
  refine hr.put hL hb rfl rfl (by simp) (fun x hx => ?_) ⟨arr', clock', ?_, hm⟩ rfl rfl rfl
  · show (w.heap.setIfInBounds L.blk _)[x]? = _
    rw [Array.getElem?_setIfInBounds_ne (Ne.symm hx)]
  · show (w.heap.setIfInBounds L.blk _)[L.blk]? = _
    rw [Array.getElem?_setIfInBounds_self_of_lt (Array.getElem?_eq_some_iff.1 hw).1]

theorem sound_mapUpdate (TO : TabOK P tab) (ty : TypeId) (m i x : Operand) (call : CallT β) : SoundW P tab (.mapUpdate ty m i x) call := by
  intro t h nx k r e
  obtain ⟨ti, hti, e⟩ := tyK_ok (show tyK tab ty _ = .ok r from e)
  have hu := run_under' TO hti
  cases hd : ti.u with
  | map kt el =>
    simp only [hd] at e
    obtain ⟨tk, htk, e⟩ := tyK_ok e
    obtain ⟨hint, e⟩ := grd_ok e
    obtain ⟨qk, hqk⟩ := isIntT_ok hint
    have huk : P.underlying kt = some (.int qk) := by rw [← hqk]; exact (TO.types kt tk htk).1
    obtain ⟨mv, e, hm⟩ := evO_ok e
    obtain ⟨iv, e, hi⟩ := evO_ok e
    obtain ⟨hiv, e⟩ := grd_ok e
    obtain ⟨ki, ni, rfl⟩ := isIntV_ok hiv
    obtain ⟨xv, e, hx⟩ := evO_ok e
    cases mv with
    | mapv b =>
      obtain ⟨es, hb, e⟩ := mapK_ok e
      obtain ⟨es', e, H⟩ := setMap_ok e
      rw [setK_eq] at e
      refine ⟨_, _, nx, e, Nat.le_refl _, fun σ ρ w oper ho he hr => ?_⟩
      obtain ⟨L, hL, hmv⟩ := hm σ ρ he
      obtain ⟨arr, clock, h1, h2⟩ := hr.blk b L _ hL hb
      have hy : ρ i = .int ki ni := hi σ ρ he
      rcases H σ qk (ρ i) (ρ x) arr.toList 0 (hi σ ρ he) (hx σ ρ he) h2 with ⟨h3, h4⟩ | ⟨j, x0, e0, h3, h4, h5, h6⟩
      · have hp := hr.putMap (clock' := clock + 1) (arr' := arr.push { key := ρ i, val := ρ x, born := clock }) hL hb h1 (by simpa using h4 clock)
        have : (execOp ρ oper).run P w = .ok .skip { w with heap := w.heap.setIfInBounds L.blk (.map (arr.push { key := ρ i, val := ρ x, born := clock }) (clock + 1)) } := by
          simp [execOp, ho, Instr.mapUpdate, hu, hd, hmv, run_getMap h1, checkKey_int huk _ _ w ki ni hy, run_findKey huk h3, run_setMap h1]
        rw [this]
        exact Good.skip ⟨σ, ⟨#[], rfl, rfl⟩, hp⟩
      · have hp := hr.putMap (clock' := clock) (arr' := arr.modify j fun e => { e with key := ρ i, val := ρ x }) hL hb h1 (by simpa using h6)
        rw [Nat.zero_add] at h3
        have h4' : arr[j]? = some e0 := by simpa using h4
        have hstay : ∀ w, (Instr.keyThatStays (.int ki ni) (.int ki ni)).run P w = .ok (.int ki ni) w := fun w => by
          simp [Instr.keyThatStays, Instr.sameBits]
        have : (execOp ρ oper).run P w = .ok .skip { w with heap := w.heap.setIfInBounds L.blk (.map (arr.modify j fun e => { e with key := ρ i, val := ρ x }) clock) } := by
          rw [hy] at h3 h5
          simp [execOp, ho, Instr.mapUpdate, hu, hd, hmv, run_getMap h1, hy, checkKey_int huk _ _ w ki ni rfl, run_findKey huk h3, run_setMap h1, h4', h5, hstay]
        rw [this]
        exact Good.skip ⟨σ, ⟨#[], rfl, rfl⟩, hp⟩
    | _ => exact (bad_ok e).elim
  | _ => simp only [hd] at e; exact (bad_ok e).elim

theorem sound_delete (TO : TabOK P tab) (args : Array Operand) (tys : Array TypeId) (call : CallT β) : SoundW P tab (.call { callee := .builtin .delete, args, argTypes := tys }) call := by
  intro t h nx k r e
  obtain ⟨vs, e, hvs⟩ := evOs_ok (show evOs args.toList tab t _ = .ok r from e)
  have e : opBuiltin .delete tys.toList vs tab h nx k = .ok r := e
  simp only [opBuiltin] at e
  split at e
  · rename_i _ _ ty tl b key htl _
    have hty : tys[0]? = some ty := by rw [← Array.getElem?_toList, htl]; rfl
    obtain ⟨ti, hti, e⟩ := tyK_ok e
    have hu := run_under' TO hti
    split at e
    · rename_i kt el hd
      obtain ⟨tk, htk, e⟩ := tyK_ok e
      obtain ⟨hint, e⟩ := grd_ok e
      obtain ⟨qk, hqk⟩ := isIntT_ok hint
      have huk : P.underlying kt = some (.int qk) := by rw [← hqk]; exact (TO.types kt tk htk).1
      obtain ⟨hiv, e⟩ := grd_ok e
      obtain ⟨ki, ni, rfl⟩ := isIntV_ok hiv
      obtain ⟨es, hb, e⟩ := mapK_ok e
      obtain ⟨es', e, H⟩ := delMap_ok e
      rw [setK_eq] at e
      refine ⟨_, _, nx, e, Nat.le_refl _, fun σ ρ w oper ho he hr => ?_⟩
      obtain ⟨v, u, ha, hmv, hkv⟩ := two_args (hvs σ ρ he)
      obtain ⟨L, hL, rfl⟩ := hmv
      obtain ⟨arr, clock, h1, h2⟩ := hr.blk b L _ hL hb
      have hy : u = .int ki ni := hkv
      have hundef : VRel σ (.tup []) (.tuple #[]) := ⟨#[], rfl, rfl⟩
      rcases H σ qk u arr.toList 0 hkv h2 with ⟨h3, h4⟩ | ⟨j, x0, h3, h6⟩
      · have hp := hr.putMap (clock' := clock) (arr' := arr) hL hb h1 h4
        have : (execOp ρ oper).run P w = .ok (.value (.tuple #[])) { w with heap := w.heap.setIfInBounds L.blk (.map arr clock) } := by
          simp [execOp, ho, resolve, invoke, builtin, ha, Builtin.delete_, hty, hu, hd, run_getMap h1, checkKey_int huk _ _ w ki ni hy, run_findKey huk h3, run_setMap h1]
        rw [this]
        exact Good.value ⟨σ, hundef, hp⟩
      · rw [Nat.zero_add] at h3
        have hp := hr.putMap (clock' := clock) (arr' := arr.eraseIdxIfInBounds j) hL hb h1 (by simpa using h6)
        have : (execOp ρ oper).run P w = .ok (.value (.tuple #[])) { w with heap := w.heap.setIfInBounds L.blk (.map (arr.eraseIdxIfInBounds j) clock) } := by
          simp [execOp, ho, resolve, invoke, builtin, ha, Builtin.delete_, hty, hu, hd, run_getMap h1, checkKey_int huk _ _ w ki ni hy, run_findKey huk h3, run_setMap h1]
        rw [this]
        exact Good.value ⟨σ, hundef, hp⟩
    · exact (bad_ok e).elim
  · exact (bad_ok e).elim
end
end Go.Can
namespace Go.Can
variable {β : Type}
section
variable {P : Program} {tab : Tab}

theorem cells_read {G : Nat} {σ : Sg} {h : T Blk} {nx : Nat} {w : World} (hr : HPart G σ h nx w) {b : Nat} {L : Loc} {m : Nat} {cs : T CV} {rw : Bool} (hL : σ b = some L) (hb : h.get b = some (.cells m cs rw))
    {n o : Nat} {l : List CV} (hl : l.length = n) (hg : ∀ i, i < n → cs.get (o + i) = l[i]?) :
    ∃ vs : List Value, VRels σ l vs ∧ vs.length = n ∧ ∀ j v, vs[j]? = some v → w.cell? ((⟨L.blk, L.off + o, none⟩ : Addr).add j) = some v := by
  have hcell : ∀ i (c : CV), l[i]? = some c → ∃ v, w.cell? ⟨L.blk, L.off + (o + i), none⟩ = some v ∧ VRel σ c v := fun i c hi => by
    have : i < n := by rw [← hl]; exact (List.getElem?_eq_some_iff.1 hi).1
    exact (hr.cell hL hb ((hg i this).trans hi)).2
  let vs : List Value := (List.range n).map fun i => (w.cell? ⟨L.blk, L.off + (o + i), none⟩).getD undef
  have hvs : ∀ i, i < n → vs[i]? = some ((w.cell? ⟨L.blk, L.off + (o + i), none⟩).getD undef) := fun i hi => by simp [vs, hi]
  refine ⟨vs, ?_, by simp [vs], ?_⟩
  · refine VRels.of_get (by simp [vs, hl]) fun i c hi => ?_
    obtain ⟨v, hv, hrel⟩ := hcell i c hi
    have : i < n := by rw [← hl]; exact (List.getElem?_eq_some_iff.1 hi).1
    exact ⟨v, by rw [hvs i this, hv]; rfl, hrel⟩
  · intro j v hj
    have hjl : j < n := by have := (List.getElem?_eq_some_iff.1 hj).1; simpa [vs] using this
    rw [hvs j hjl] at hj
    obtain ⟨c, hc⟩ : ∃ c, l[j]? = some c := ⟨_, List.getElem?_eq_getElem (by omega)⟩
    obtain ⟨v', hv', _⟩ := hcell j c hc
    rw [hv'] at hj
    simp at hj; subst hj
    rw [Addr.add_at, ← hv', Nat.add_assoc]

theorem newsK_ok {h : T Blk} {esz : Nat} {x : CV} {k : List CV → Nat → Res β} {r : β} (e : newsK h esz x k = .ok r) :
    ∃ l n, k l n = .ok r ∧ ∀ (G : Nat) (σ : Sg) (nx : Nat) (w : World) (xv : Value), HPart G σ h nx w → VRel σ x xv →
      ∃ news : List Value, VRels σ l news ∧ news.length = n * esz ∧ ((xv = .slice none 0 0 ∧ n = 0) ∨ ∃ a c, xv = .slice (some a) n c ∧ ∀ j v, news[j]? = some v → w.cell? (a.add j) = some v) := by
  cases x with
  | nilslice => exact ⟨[], 0, e, fun G σ nx w xv hr hx => ⟨[], rfl, by simp, .inl ⟨hx, rfl⟩⟩⟩
  | slice b o len cap =>
    obtain ⟨m, cs, rw, hb, e⟩ := blkK_ok e
    obtain ⟨l, e, hl, hg⟩ := readCells_ok _ _ e
    refine ⟨l, len, e, fun G σ nx w xv hr hx => ?_⟩
    obtain ⟨L, c, hL, rfl, _⟩ := hx
    obtain ⟨vs, h1, h2, h3⟩ := cells_read hr hL hb hl hg
    exact ⟨vs, h1, h2, .inr ⟨_, c, rfl, h3⟩⟩
  | _ => exact (bad_ok e).elim

theorem newCells_one {l : List CV} {h : T Blk} {nx : Nat} {k : Nat → T Blk → Nat → Res β} {r : β} (e : newCells l h nx k = .ok r) : ∀ v ∈ l, v.one = true :=
  (writeCells_ok l .nil 0 (show writeCells l .nil 0 _ = .ok r from e)).1

theorem zeroCells_size (z : Array Value) (n : Nat) : (Builtin.zeroCells z n).size = n * z.size := by simp [Builtin.zeroCells]

/-- a row grown: a new block whose cells are the old, the new, and noughts -/
theorem grown_ok {G : Nat} {σ : Sg} {h h' : T Blk} {nx : Nat} {w : World} (hr : HRel G σ h nx w) (hsub : ∀ c B, h'.get c = some B → h.get c = some B) {l : List CV} {cs : T CV} (hg : ∀ i, cs.get i = l[i]?)
    {vs : List Value} (hvs : VRels σ l vs) {z : Array Value} {need cap esz : Nat} (hl : vs.length = need * esz) (hz : z.size = esz) (hc : need ≤ cap) (h0 : 0 < esz) (e : TypeId) :
    ∃ σ', VRel σ' (.slice nx 0 need (.opn esz)) (.slice (some ⟨w.heap.size, 0, none⟩) need cap) ∧
      HRel G σ' (h'.set nx (.cells l.length cs true)) (nx + 1) (w.drew.alloc (.cells (vs.toArray ++ Builtin.zeroCells z (cap - need)) e)) ∧
      Step σ h w σ' (h'.set nx (.cells l.length cs true)) (w.drew.alloc (.cells (vs.toArray ++ Builtin.zeroCells z (cap - need)) e)) := by
  have hr1 : HRel G σ h' nx w.drew := (hr.sub hsub).world rfl
  have hst1 : Step σ h w σ h' w.drew := (Step.sub σ w hsub).trans (Step.world σ h' rfl rfl rfl rfl)
  have hlen := hvs.length
  have hsz : (vs.toArray ++ Builtin.zeroCells z (cap - need)).size = cap * esz := by
    rw [Array.size_append, zeroCells_size, hz, List.size_toArray, hl, ← Nat.add_mul, Nat.add_sub_cancel' hc]
  have hle : need * esz ≤ cap * esz := Nat.mul_le_mul_right _ hc
  obtain ⟨hr2, hst2⟩ := hr1.new (.cells (vs.toArray ++ Builtin.zeroCells z (cap - need)) e) (.cells l.length cs true) (cap * esz) (by
    refine ⟨_, e, (0, 0), alloc_at _ _, ?_, ?_, fun _ => rfl, fun i c hi => ?_⟩
    · simp only [Nat.zero_add]; omega
    · rw [hsz]; exact Nat.le_refl _
    · rw [hg i] at hi
      obtain ⟨v, hv, hrel⟩ := hvs.get hi
      refine ⟨(List.getElem?_eq_some_iff.1 hi).1, v, ?_, hrel.mono (Sg.le_upd hr1.fresh)⟩
      have hil : i < vs.length := (List.getElem?_eq_some_iff.1 hv).1
      simp only [Nat.zero_add]
      rw [Array.getElem?_append_left (by simpa using hil), List.getElem?_toArray]
      exact hv)
  exact ⟨_, ⟨_, cap, Sg.upd_same σ nx _, rfl, hc, h0, by simp⟩, hr2, hst1.trans hst2⟩

theorem sound_clear (TO : TabOK P tab) (args : Array Operand) (tys : Array TypeId) (call : CallT β) : SoundW P tab (.call { callee := .builtin .clear, args, argTypes := tys }) call := by
  intro t h nx k r e0
  obtain ⟨vs, e1, hvs⟩ := evOs_ok (show evOs args.toList tab t _ = .ok r from e0)
  have e : opBuiltin .clear tys.toList vs tab h nx k = .ok r := e1
  clear e0 e1
  simp only [opBuiltin] at e
  split at e
  · rename_i ty htl
    have htys : tys = #[ty] := by apply Array.ext'; simpa using htl
    subst htys
    obtain ⟨ti, hti, e⟩ := tyK_ok e
    have hut := (TO.types ty ti hti).1
    split at e
    · rename_i el hd
      rw [hd] at hut
      refine ⟨_, h, nx, e, Nat.le_refl _, fun σ ρ w oper ho he hr => ?_⟩
      obtain ⟨v, l, h1, h2, h3⟩ := hvs σ ρ he
      cases h3
      have ha : args.map ρ = #[v] := by apply Array.ext'; simpa using h1
      cases h2
      have : (Builtin.clear_ #[ty] oper.type #[.slice none 0 0]).run P w = .ok (.tuple #[]) w := by simp [Builtin.clear_, run_underlying hut]
      simp only [execOp, ho, resolve, invoke, builtin, ha, Sem.run_bind, Sem.run_pure, Result.andThen_ok, List.map_toArray, List.map_cons, List.map_nil, this]
      exact Good.value ⟨σ, ⟨#[], rfl, rfl⟩, hr, Step.refl _ _ _⟩
    · exact (bad_ok e).elim
  · rename_i ty b o len cap htl
    have htys : tys = #[ty] := by apply Array.ext'; simpa using htl
    subst htys
    obtain ⟨ti, hti, e⟩ := tyK_ok e
    have hut := (TO.types ty ti hti).1
    split at e
    · rename_i el hd
      rw [hd] at hut
      obtain ⟨te, hte, e⟩ := tyK_ok e
      obtain ⟨_, i, hi, hsi, hby, ⟨z, hz, hzv, hzs⟩, _⟩ := TO.types el te hte
      cases len with
      | zero =>
        refine ⟨_, h, nx, e, Nat.le_refl _, fun σ ρ w oper ho he hr => ?_⟩
        obtain ⟨v, l, h1, h2, h3⟩ := hvs σ ρ he
        cases h3
        have ha : args.map ρ = #[v] := by apply Array.ext'; simpa using h1
        obtain ⟨L, c, hL, rfl, hr2⟩ := h2
        have : (Builtin.clear_ #[ty] oper.type #[.slice (some ⟨L.blk, L.off + o, none⟩) 0 c]).run P w = .ok (.tuple #[]) w := by simp [Builtin.clear_, run_underlying hut]
        simp only [execOp, ho, resolve, invoke, builtin, ha, Sem.run_bind, Sem.run_pure, Result.andThen_ok, List.map_toArray, List.map_cons, List.map_nil, this]
        exact Good.value ⟨σ, ⟨#[], rfl, rfl⟩, hr, Step.refl _ _ _⟩
      | succ len =>
        obtain ⟨h', e, _, H⟩ := put_ok (P := P) (show putCells (repL te.zero.cells (len + 1)) h b o _ = .ok r from e)
        refine ⟨_, h', nx, e, Nat.le_refl _, fun σ ρ w oper ho he hr => ?_⟩
        obtain ⟨v, l, h1, h2, h3⟩ := hvs σ ρ he
        cases h3
        have ha : args.map ρ = #[v] := by apply Array.ext'; simpa using h1
        obtain ⟨L, c, hL, rfl, hr2⟩ := h2
        have hzr : VRels σ te.zero.cells z.cells.toList := (ofValue_ok (σ := σ) z hzv).cells
        obtain ⟨w', hst, hr', st'⟩ := H tab.ng σ nx w L _ hr hL (repL_rel hzr (len + 1))
        have hzc : (Builtin.zeroCells z.cells (len + 1)) = (Array.range ((len + 1) * z.cells.size)).map fun i => z.cells[i % z.cells.size]! := rfl
        rw [← hzc] at hst
        have : (Builtin.clear_ #[ty] oper.type #[.slice (some ⟨L.blk, L.off + o, none⟩) (len + 1) c]).run P w = .ok (.tuple #[]) w' := by
          simp [Builtin.clear_, run_underlying hut, zeroValue, typeInfo, hi, hz, hst]
        simp only [execOp, ho, resolve, invoke, builtin, ha, Sem.run_bind, Sem.run_pure, Result.andThen_ok, List.map_toArray, List.map_cons, List.map_nil, this]
        exact Good.value ⟨σ, ⟨#[], rfl, rfl⟩, hr', st'⟩
    · exact (bad_ok e).elim
  · exact (bad_ok e).elim

theorem sound_cap (TO : TabOK P tab) (args : Array Operand) (tys : Array TypeId) (call : CallT β) : SoundW P tab (.call { callee := .builtin .cap, args, argTypes := tys }) call := by
  intro t h nx k r e0
  obtain ⟨vs, e1, hvs⟩ := evOs_ok (show evOs args.toList tab t _ = .ok r from e0)
  have e : opBuiltin .cap tys.toList vs tab h nx k = .ok r := e1
  clear e0 e1
  simp only [opBuiltin] at e
  split at e
  · rename_i ty htl
    have htys : tys = #[ty] := by apply Array.ext'; simpa using htl
    subst htys
    obtain ⟨ti, hti, e⟩ := tyK_ok e
    have hut := (TO.types ty ti hti).1
    split at e
    · rename_i el hd
      rw [hd] at hut
      refine ⟨_, h, nx, e, Nat.le_refl _, fun σ ρ w oper ho he hr => ?_⟩
      obtain ⟨v, l, h1, h2, h3⟩ := hvs σ ρ he
      cases h3
      have ha : args.map ρ = #[v] := by apply Array.ext'; simpa using h1
      cases h2
      have : (Builtin.cap_ #[ty] oper.type #[.slice none 0 0]).run P w = .ok (goInt 0) w := by simp [Builtin.cap_, run_underlying hut]
      simp only [execOp, ho, resolve, invoke, builtin, ha, Sem.run_bind, Sem.run_pure, Result.andThen_ok, List.map_toArray, List.map_cons, List.map_nil, this]
      exact Good.value ⟨σ, rfl, hr, Step.refl _ _ _⟩
    · exact (bad_ok e).elim
  · rename_i ty b o len c htl
    have htys : tys = #[ty] := by apply Array.ext'; simpa using htl
    subst htys
    obtain ⟨ti, hti, e⟩ := tyK_ok e
    have hut := (TO.types ty ti hti).1
    split at e
    · rename_i el hd
      rw [hd] at hut
      refine ⟨_, h, nx, e, Nat.le_refl _, fun σ ρ w oper ho he hr => ?_⟩
      obtain ⟨v, l, h1, h2, h3⟩ := hvs σ ρ he
      cases h3
      have ha : args.map ρ = #[v] := by apply Array.ext'; simpa using h1
      obtain ⟨L, c', hL, rfl, _, hcap⟩ := h2
      cases hcap
      have : (Builtin.cap_ #[ty] oper.type #[.slice (some ⟨L.blk, L.off + o, none⟩) len c]).run P w = .ok (goInt c) w := by simp [Builtin.cap_, run_underlying hut]
      simp only [execOp, ho, resolve, invoke, builtin, ha, Sem.run_bind, Sem.run_pure, Result.andThen_ok, List.map_toArray, List.map_cons, List.map_nil, this]
      exact Good.value ⟨σ, rfl, hr, Step.refl _ _ _⟩
    · exact (bad_ok e).elim
  · exact (bad_ok e).elim

theorem sound_copy (TO : TabOK P tab) (args : Array Operand) (tys : Array TypeId) (call : CallT β) : SoundW P tab (.call { callee := .builtin .copy, args, argTypes := tys }) call := by
  intro t h nx k r e0
  obtain ⟨vs, e1, hvs⟩ := evOs_ok (show evOs args.toList tab t _ = .ok r from e0)
  have e : opBuiltin .copy tys.toList vs tab h nx k = .ok r := e1
  clear e0 e1
  simp only [opBuiltin] at e
  split at e
  · rename_i ty tl b o len cap b2 o2 len2 cap2 htl
    have hty : tys[0]? = some ty := by rw [← Array.getElem?_toList, htl]; rfl
    obtain ⟨ti, hti, e⟩ := tyK_ok e
    have hut := (TO.types ty ti hti).1
    split at e
    · rename_i el hd
      rw [hd] at hut
      obtain ⟨te, hte, e⟩ := tyK_ok e
      obtain ⟨_, i, hi, hsi, hby, _, _⟩ := TO.types el te hte
      rw [natK_eq] at e
      have hmin : (Bool.rec len len2 (Nat.ble len2 len) : Nat) = Nat.min len2 len := by
        cases hb : Nat.ble len2 len with
        | true => have := Nat.le_of_ble_eq_true hb; exact (Nat.min_eq_left this).symm
        | false =>
          have : ¬ len2 ≤ len := fun hc => by rw [Nat.ble_eq_true_of_le hc] at hb; cases hb
          show len = Nat.min len2 len
          exact (Nat.min_eq_right (by omega)).symm
      rw [hmin] at e
      obtain ⟨m, cs, rw', hb2, e⟩ := blkK_ok e
      obtain ⟨l, e, hl, hg⟩ := readCells_ok _ _ e
      obtain ⟨h', e, _, H⟩ := put_ok (P := P) e
      refine ⟨_, h', nx, e, Nat.le_refl _, fun σ ρ w oper ho he hr => ?_⟩
      obtain ⟨v, u, ha, hv, hu⟩ := two_args (hvs σ ρ he)
      obtain ⟨L, c, hL, rfl, _⟩ := hv
      obtain ⟨L2, c2, hL2, rfl, _⟩ := hu
      obtain ⟨ws, q1, q2, q3⟩ := cells_read hr.toHPart hL2 hb2 hl hg
      obtain ⟨w', hst, hr', st'⟩ := H tab.ng σ nx w L ws hr hL q1
      have hf := run_firstCells_some (P := P) (w := w) te.size (Nat.min len2 len) ⟨L2.blk, L2.off + o2, none⟩ len2 c2 ws q2 q3
      have : (Builtin.copy_ tys oper.type #[.slice (some ⟨L.blk, L.off + o, none⟩) len c, .slice (some ⟨L2.blk, L2.off + o2, none⟩) len2 c2]).run P w = .ok (goInt (Nat.min len2 len : Nat)) w' := by
        simp [Builtin.copy_, hty, run_underlying hut, Builtin.lenOf, sizeOf, typeInfo, hi, hsi, hf, hst]
      simp only [execOp, ho, resolve, invoke, builtin, ha, Sem.run_bind, Sem.run_pure, Result.andThen_ok, List.map_toArray, List.map_cons, List.map_nil, this]
      exact Good.value ⟨σ, rfl, hr', st'⟩
    · exact (bad_ok e).elim
  · exact (bad_ok e).elim

theorem sound_appendZ (TO : TabOK P tab) (args : Array Operand) (ty ty2 : TypeId) (call : CallT β) {t : T CV} {s x : CV} {h : T Blk} {nx : Nat} {k : K β} {r : β} (e : appendZ ty ty2 s x tab h nx k = .ok r)
    (hvs : ∀ (σ : Sg) (ρ : Operand → Value), Env tab.ng σ t ρ → VRels σ [s, x] (args.toList.map ρ)) :
    ∃ v h' nx', k v h' nx' = .ok r ∧ nx ≤ nx' ∧ ∀ (σ : Sg) (ρ : Operand → Value) (w : World) (oper : Oper), oper.op = .call { callee := .builtin .append, args, argTypes := #[ty, ty2] } → Env tab.ng σ t ρ → HRel tab.ng σ h nx w →
      Good P ((execOp ρ oper).run P w) (Post tab.ng σ h w v h' nx') := by
  obtain ⟨ti, hti, e1⟩ := tyK_ok e
  obtain ⟨t2, ht2, e2⟩ := tyK_ok e1
  obtain ⟨hit, e3⟩ := grd_ok e2
  obtain ⟨kn, hkn⟩ := isIntT_ok hit
  have hut := (TO.types ty ti hti).1
  have hut2 := (TO.types ty2 t2 ht2).1
  rw [hkn] at hut2
  clear e e1 e2
  split at e3
  · rename_i el b o len c kq n hd
    rw [hd] at hut
    obtain ⟨te, hte, e⟩ := tyK_ok e3
    obtain ⟨_, i, hi, hsi, hby, ⟨z, hz, hzv, hzs⟩, _⟩ := TO.types el te hte
    obtain ⟨hn0, e⟩ := grd_ok e
    obtain ⟨he0, e⟩ := grd_ok e
    rw [natK_eq] at e
    obtain ⟨hgr, e⟩ := grd_ok e
    obtain ⟨hlim, e⟩ := grd_ok e
    obtain ⟨hn1, hn2⟩ : len + n ≤ 65536 ∧ te.bytes ≤ 65536 := by simpa using hlim
    have hn0 : 0 < n := Nat.le_of_ble_eq_true hn0
    have he0 : 0 < te.size := Nat.le_of_ble_eq_true he0
    have hgr : c < len + n := Nat.le_of_ble_eq_true hgr
    obtain ⟨m, cs, rw', hb, e⟩ := blkK_ok e
    obtain ⟨old, e, hol, hog⟩ := readCells_ok _ _ e
    have hol : old.length = len * te.size := hol
    obtain ⟨cs', hg, e⟩ := newCells_ok e
    refine ⟨_, _, nx + 1, e, Nat.le_succ _, fun σ ρ w oper ho he hr => ?_⟩
    obtain ⟨sv, xv, ha, hsv, hxv⟩ := two_args (hvs σ ρ he)
    obtain ⟨L, c', hL, rfl, hlc, hcap⟩ := hsv
    cases hcap
    cases hxv
    obtain ⟨olds, ho1, ho2, ho3⟩ := cells_read hr.toHPart hL hb hol hog
    have hbytes : (len + n) * te.bytes ≤ 65536 * 65536 := Nat.mul_le_mul hn1 hn2
    have hnb : n * te.bytes ≤ (len + n) * te.bytes := Nat.mul_le_mul_right _ (by omega)
    have hf := run_firstCells_some (P := P) (w := w.drew) i.size len ⟨L.blk, L.off + o, none⟩ len c olds (by rw [hsi]; exact ho2) ho3
    have hrun := Lib.run_append_grow_zeros (P := P) w ty ty2 oper.type el i z kq kn hut hut2 hi hz (some ⟨L.blk, L.off + o, none⟩) len c olds hf n hn0 (by rw [hsi]; exact he0) hgr (by omega) (by rw [hby]; omega)
      (growslice_fits (by omega) (by rw [hby]; omega))
    have hzr : VRels σ te.zero.cells z.cells.toList := (ofValue_ok (σ := σ) z hzv).cells
    have hzl : VRels σ (repL te.zero.cells n) (Builtin.zeroCells z.cells n).toList := repL_rel hzr n
    have hgo := grown_ok hr (fun _ _ h => h) hg (ho1.append hzl) (z := z.cells) (need := len + n) (cap := grownCap w (len + n) c el) (esz := te.size)
      (by rw [List.length_append, ho2, Array.length_toList, zeroCells_size, hzs, ← Nat.add_mul]) hzs (grownCap_ge w _ _ _) he0 el
    have hval : (olds ++ (Builtin.zeroCells z.cells n).toList).toArray = olds.toArray ++ Builtin.zeroCells z.cells n := by simp
    rw [hval] at hgo
    simp only [execOp, ho, resolve, invoke, builtin, ha, Sem.run_bind, Sem.run_pure, Result.andThen_ok, List.map_toArray, List.map_cons, List.map_nil]
    erw [hrun]
    exact Good.value hgo
  · exact (bad_ok e3).elim

theorem sound_append (TO : TabOK P tab) (args : Array Operand) (tys : Array TypeId) (call : CallT β) : SoundW P tab (.call { callee := .builtin .append, args, argTypes := tys }) call := by
  intro t h nx k r e0
  obtain ⟨vs, e1, hvs⟩ := evOs_ok (show evOs args.toList tab t _ = .ok r from e0)
  have e : opBuiltin .append tys.toList vs tab h nx k = .ok r := e1
  clear e0 e1
  have H : ∃ ty ty2 s x, tys.toList = [ty, ty2] ∧ vs = [s, x] := by
    simp only [opBuiltin] at e
    split at e
    · rename_i h1; exact ⟨_, _, _, _, h1, rfl⟩
    · exact (bad_ok e).elim
  obtain ⟨ty, ty2, s, x, htl, rfl⟩ := H
  rw [htl] at e
  cases hq : Nat.beq ty ty2 with
  | false =>
    have e9 : appendZ ty ty2 s x tab h nx k = .ok r := by
      have e' : Bool.rec (motive := fun _ => Res β) (appendZ ty ty2 s x tab h nx k) _ (Nat.beq ty ty2) = .ok r := e
      rw [hq] at e'
      exact e'
    have htys : tys = #[ty, ty2] := by apply Array.ext'; simpa using htl
    subst htys
    exact sound_appendZ TO args ty ty2 call e9 hvs
  | true =>
  have e9 : (tyK tab ty fun ti => match ti.u with
      | .slice e => tyK tab e fun te => appendOp te.size te.bytes s x h nx k
      | _ => .bad 96) = .ok r := by
    have e' : Bool.rec (motive := fun _ => Res β) (appendZ ty ty2 s x tab h nx k) (tyK tab ty fun ti => match ti.u with
      | .slice e => tyK tab e fun te => appendOp te.size te.bytes s x h nx k
      | _ => .bad 96) (Nat.beq ty ty2) = .ok r := e
    rw [hq] at e'
    exact e'
  have hty2 : ty = ty2 := Nat.eq_of_beq_eq_true hq
  subst hty2
  have htys : tys = #[ty, ty] := by apply Array.ext'; simpa using htl
  subst htys
  obtain ⟨ti, hti, e⟩ := tyK_ok e9
  have hu := run_under' TO hti
  have hut := (TO.types ty ti hti).1
  split at e
  · rename_i el hd
    rw [hd] at hut
    obtain ⟨te, hte, e⟩ := tyK_ok e
    obtain ⟨_, i, hi, hsi, hby, ⟨z, hz, _, hzs⟩, _⟩ := TO.types el te hte
    obtain ⟨new, n, e, hnew⟩ := newsK_ok (show newsK h te.size x _ = .ok r from e)
    rw [natK_eq] at e
    obtain ⟨he0, e⟩ := grd_ok e
    have he0 : 0 < te.size := Nat.le_of_ble_eq_true he0
    have run : ∀ (σ : Sg) (ρ : Operand → Value) (oper : Oper), oper.op = .call { callee := .builtin .append, args, argTypes := #[ty, ty] } → Env tab.ng σ t ρ → ∃ sv xv, VRel σ s sv ∧ VRel σ x xv ∧
        ∀ w, (execOp ρ oper).run P w = ((Builtin.append_ #[ty, ty] oper.type #[sv, xv]).run P w).andThen fun a w => .ok (.value a) w := by
      intro σ ρ oper ho he
      obtain ⟨v, u, ha, h1, h2⟩ := two_args (hvs σ ρ he)
      refine ⟨v, u, h1, h2, fun w => ?_⟩
      simp [execOp, ho, resolve, invoke, builtin, ha]
    cases s with
    | nilslice =>
      obtain ⟨hlim, e⟩ := grd_ok e
      obtain ⟨hn1, hn2⟩ : n ≤ 65536 ∧ te.bytes ≤ 65536 := by simpa using hlim
      cases n with
      | zero =>
        refine ⟨_, h, nx, e, Nat.le_refl _, fun σ ρ w oper ho he hr => ?_⟩
        obtain ⟨sv, xv, hsv, hxv, hrun⟩ := run σ ρ oper ho he
        obtain ⟨news, h1, h2, h3⟩ := hnew tab.ng σ nx w xv hr.toHPart hxv
        cases hsv
        have : (Builtin.append_ #[ty, ty] oper.type #[.slice none 0 0, xv]).run P w = .ok (.slice none 0 0) w := by
          rcases h3 with ⟨rfl, _⟩ | ⟨a, c, rfl, _⟩
          · simp [Builtin.append_, run_underlying hut, sizeOf, typeInfo, hi, Builtin.lenOf, run_firstCells_none]
          · have hf := run_firstCells_some (P := P) w i.size 0 a 0 c [] (by simp) (by simp)
            simp [Builtin.append_, run_underlying hut, sizeOf, typeInfo, hi, Builtin.lenOf, hf]
        rw [hrun, this]
        exact Good.value ⟨σ, rfl, hr, Step.refl _ _ _⟩
      | succ n =>
        obtain ⟨cs, hg, e⟩ := newCells_ok (show newCells new h nx _ = .ok r from e)
        refine ⟨_, _, nx + 1, e, Nat.le_succ _, fun σ ρ w oper ho he hr => ?_⟩
        obtain ⟨sv, xv, hsv, hxv, hrun⟩ := run σ ρ oper ho he
        obtain ⟨news, h1, h2, h3⟩ := hnew tab.ng σ nx w xv hr.toHPart hxv
        cases hsv
        rcases h3 with ⟨_, h3⟩ | ⟨a, c, rfl, h3⟩
        · simp at h3
        · have hb : (n + 1) * te.bytes ≤ 65536 * 65536 := Nat.mul_le_mul hn1 hn2
          have := run_append_nil (P := P) w ty oper.type el i z hut hi hz a (n + 1) c news (by rw [h2, hsi]) h3 (by omega) (by omega) (by rw [hby]; omega)
          rw [hrun, this]
          exact Good.value (grown_ok hr (fun _ _ h => h) hg h1 h2 hzs (grownCap_ge w _ _ _) he0 el)
    | slice b o len cap =>
      simp only [natK_eq] at e
      obtain ⟨hlim, e⟩ := grd_ok e
      obtain ⟨hn1, hn2⟩ : len + n ≤ 65536 ∧ te.bytes ≤ 65536 := by simpa using hlim
      obtain ⟨m, cs, rw, hb, e⟩ := blkK_ok e
      have hbytes : (len + n) * te.bytes ≤ 65536 * 65536 := Nat.mul_le_mul hn1 hn2
      -- appended in place
      have inplace : ∀ (w : World) (a : Addr) (c : Nat) (xv : Value) (news : List Value) (w' : World) (rt : TypeId), news.length = n * te.size → len + n ≤ c →
          ((xv = .slice none 0 0 ∧ n = 0) ∨ ∃ a c, xv = .slice (some a) n c ∧ ∀ j v, news[j]? = some v → w.cell? (a.add j) = some v) →
          (storeCells (a.add (len * te.size)) news).run P w = .ok () w' →
          (Builtin.append_ #[ty, ty] rt #[.slice (some a) len c, xv]).run P w = .ok (.slice (some a) (len + n) c) w' := by
        intro w a c xv news w' rt h2 hc h3 hst
        rcases h3 with ⟨rfl, rfl⟩ | ⟨a', c', rfl, h3⟩
        · have : news = [] := by simpa using h2
          subst this
          have hc' : len ≤ c := by omega
          simp [Builtin.append_, run_underlying hut, sizeOf, typeInfo, hi, Builtin.lenOf, run_firstCells_none, hc', hsi, hst]
        · have hf := run_firstCells_some (P := P) w i.size n a' n c' news (by rw [hsi]; exact h2) h3
          simp [Builtin.append_, run_underlying hut, sizeOf, typeInfo, hi, Builtin.lenOf, hc, hf, hsi] 
          rw [hsi] at hf
          simp [hf, hst]
      -- a new row
      have grow : ∀ (w : World) (a : Addr) (c : Nat) (xv : Value) (news olds : List Value) (rt : TypeId), news.length = n * te.size → ¬ len + n ≤ c → len ≤ c → olds.length = len * te.size →
          (∀ j v, olds[j]? = some v → w.cell? (a.add j) = some v) →
          ((xv = .slice none 0 0 ∧ n = 0) ∨ ∃ a c, xv = .slice (some a) n c ∧ ∀ j v, news[j]? = some v → w.cell? (a.add j) = some v) →
          (Builtin.append_ #[ty, ty] rt #[.slice (some a) len c, xv]).run P w = .ok (.slice (some ⟨w.heap.size, 0, none⟩) (len + n) (grownCap w (len + n) c el))
            (w.drew.alloc (.cells ((olds ++ news).toArray ++ Builtin.zeroCells z.cells (grownCap w (len + n) c el - (len + n))) el)) := by
        intro w a c xv news olds rt h2 hc hlc ho hold h3
        rcases h3 with ⟨rfl, rfl⟩ | ⟨a', c', rfl, h3⟩
        · exact absurd hlc (by simpa using hc)
        · have := run_append_grow (P := P) w ty rt el i z hut hi hz a len c olds (by rw [ho, hsi]) hold a' n c' news (by rw [h2, hsi]) h3 (by omega) (by omega)
            (growslice_fits (by omega) (by rw [hby]; omega))
          rw [this]; simp
      -- what is in place
      have fits : ∀ (σ : Sg) (L : Loc) (c : Nat), len ≤ c → CapRel L o c cap → (∃ w, BRel σ L w (.cells m cs rw)) → (match cap with | .known c => Nat.ble (len + n) c | .opn e => Nat.beq e te.size && Nat.ble (Nat.add o (Nat.mul (len + n) te.size)) m) = true → len + n ≤ c := by
        intro σ L c hlc hc hB hf
        cases cap with
        | known c' => cases hc; exact Nat.le_of_ble_eq_true hf
        | opn e' =>
          obtain ⟨he', hc⟩ := hc
          simp only [Bool.and_eq_true] at hf
          have h1 := Nat.eq_of_beq_eq_true hf.1
          rw [h1] at he' hc
          have h2 : o + (len + n) * te.size ≤ m := Nat.le_of_ble_eq_true hf.2
          obtain ⟨w, arr, el', fz, g1, g2, g3, _⟩ := hB
          have : (len + n) * te.size ≤ c * te.size := by omega
          exact Nat.le_of_mul_le_mul_right this he'
      generalize hF : (match cap with | .known c => Nat.ble (len + n) c | .opn e => Nat.beq e te.size && Nat.ble (Nat.add o (Nat.mul (len + n) te.size)) m) = F at fits
      have e : Bool.rec (motive := fun _ => Res β)
          (readCells cs (Nat.mul len te.size) o fun old => match cap with
            | .known _ => newCells (old ++ new) h nx fun b h nx => k (.slice b 0 (len + n) (.opn te.size)) h nx
            | .opn e => grd 91 rw <| grd 92 (Nat.beq e te.size) <| h.delK b fun h => newCells (old ++ new) h nx fun b h nx => k (.slice b 0 (len + n) (.opn te.size)) h nx)
          (Nat.rec (motive := fun _ => Res β) (k (.slice b o len cap) h nx) (fun _ _ => putCells new h b (Nat.add o (Nat.mul len te.size)) fun h => k (.slice b o (len + n) cap) h nx) n) F = .ok r := by
        rw [← hF]; exact e
      cases F with
      | true =>
        cases n with
        | zero =>
          refine ⟨_, h, nx, e, Nat.le_refl _, fun σ ρ w oper ho he hr => ?_⟩
          obtain ⟨sv, xv, hsv, hxv, hrun⟩ := run σ ρ oper ho he
          obtain ⟨news, h1, h2, h3⟩ := hnew tab.ng σ nx w xv hr.toHPart hxv
          obtain ⟨L, c, hL, rfl, hlc, hcap⟩ := hsv
          have hnil : news = [] := by simpa using h2
          subst hnil
          have hin := inplace w ⟨L.blk, L.off + o, none⟩ c xv [] w oper.type (by simp) hlc h3 (by simp [storeCells])
          rw [hrun, hin]
          exact Good.value ⟨σ, ⟨L, c, hL, rfl, hlc, hcap⟩, hr, Step.refl _ _ _⟩
        | succ n =>
          obtain ⟨h', e, _, hp⟩ := put_ok (P := P) (show putCells new h b (Nat.add o (Nat.mul len te.size)) _ = .ok r from e)
          refine ⟨_, h', nx, e, Nat.le_refl _, fun σ ρ w oper ho he hr => ?_⟩
          obtain ⟨sv, xv, hsv, hxv, hrun⟩ := run σ ρ oper ho he
          obtain ⟨news, h1, h2, h3⟩ := hnew tab.ng σ nx w xv hr.toHPart hxv
          obtain ⟨L, c, hL, rfl, hlc, hcap⟩ := hsv
          have hfc := fits σ L c hlc hcap ⟨w, hr.blk b L _ hL hb⟩ rfl
          obtain ⟨w', hst, hr', hstep⟩ := hp tab.ng σ nx w L news hr hL h1
          have hst' : (storeCells ((⟨L.blk, L.off + o, none⟩ : Addr).add (len * te.size)) news).run P w = .ok () w' := by
            rw [Addr.add_at, Nat.add_assoc]; exact hst
          have hin := inplace w ⟨L.blk, L.off + o, none⟩ c xv news w' oper.type h2 hfc h3 hst'
          rw [hrun, hin]
          exact Good.value ⟨σ, ⟨L, c, hL, rfl, hfc, hcap⟩, hr', hstep⟩
      | false =>
        obtain ⟨old, e, hol, hog⟩ := readCells_ok _ _ (show readCells cs (Nat.mul len te.size) o _ = .ok r from e)
        have hol : old.length = len * te.size := hol
        cases cap with
        | known c0 =>
          obtain ⟨cs', hg, e⟩ := newCells_ok (show newCells (old ++ new) h nx _ = .ok r from e)
          refine ⟨_, _, nx + 1, e, Nat.le_succ _, fun σ ρ w oper ho he hr => ?_⟩
          obtain ⟨sv, xv, hsv, hxv, hrun⟩ := run σ ρ oper ho he
          obtain ⟨news, h1, h2, h3⟩ := hnew tab.ng σ nx w xv hr.toHPart hxv
          obtain ⟨L, c, hL, rfl, hlc, hcap⟩ := hsv
          have hcap : c = c0 := hcap
          subst hcap
          obtain ⟨olds, ho1, ho2, ho3⟩ := cells_read hr.toHPart hL hb hol hog
          have hF : Nat.ble (len + n) c = false := hF
          have hnc : ¬ len + n ≤ c := fun hc => by rw [Nat.ble_eq_true_of_le hc] at hF; cases hF
          rw [hrun, grow w ⟨L.blk, L.off + o, none⟩ c xv news olds oper.type h2 hnc hlc ho2 ho3 h3]
          exact Good.value (grown_ok hr (fun _ _ h => h) hg (ho1.append h1) (by rw [List.length_append, ho2, h2, ← Nat.add_mul]) hzs (grownCap_ge w _ _ _) he0 el)
        | opn e' =>
          obtain ⟨hrw, e⟩ := grd_ok (show grd 91 rw _ = .ok r from e)
          obtain ⟨hee, e2⟩ := grd_ok e
          have hee : e' = te.size := Nat.eq_of_beq_eq_true hee
          rw [delK_eq] at e2
          have hones := newCells_one e2
          obtain ⟨cs', hg, e3⟩ := newCells_ok e2
          refine ⟨_, _, nx + 1, e3, Nat.le_succ _, fun σ ρ w oper ho he hr => ?_⟩
          obtain ⟨sv, xv, hsv, hxv, hrun⟩ := run σ ρ oper ho he
          obtain ⟨news, h1, h2, h3⟩ := hnew tab.ng σ nx w xv hr.toHPart hxv
          obtain ⟨L, c, hL, rfl, hlc, hcap⟩ := hsv
          obtain ⟨_, hcap⟩ := hcap
          rw [hee] at hcap
          obtain ⟨olds, ho1, ho2, ho3⟩ := cells_read hr.toHPart hL hb hol hog
          have hall := ho1.append h1
          have hlen : (olds ++ news).length = (len + n) * te.size := by rw [List.length_append, ho2, h2, ← Nat.add_mul]
          have hsub : ∀ c B, (h.del b).get c = some B → h.get c = some B := fun c B hc => by
            rw [T.get_del] at hc; split at hc
            · cases hc
            · exact hc
          by_cases hnc : len + n ≤ c
          · -- in place
            subst hrw
            have hBR := hr.blk b L _ hL hb
            obtain ⟨arr, el', fz, g1, g2, g3, g4, g5⟩ := hBR
            have hfz := g4 rfl
            subst hfz
            have hmul : (len + n) * te.size ≤ c * te.size := Nat.mul_le_mul_right _ hnc
            have hadd : (len + n) * te.size = len * te.size + n * te.size := Nat.add_mul _ _ _
            have hone : ∀ v ∈ news, v.oneCell' = true := fun v hv => by
              obtain ⟨cv, hcv, hrel⟩ := h1.mem hv
              exact hrel.oneCell (hones cv (List.mem_append_right _ hcv))
            have hst := run_storeCells_at P L.blk (L.off + o + len * te.size) el' news 0 arr w g1 (by omega) hone
            simp only [Nat.add_zero] at hst
            have hin := inplace w ⟨L.blk, L.off + o, none⟩ c xv news _ oper.type h2 hnc h3 (by rw [Addr.add_at]; exact hst)
            rw [hrun, hin]
            have hlenl : (old ++ new).length = (len + n) * te.size := by rw [← hall.length, hlen]
            have hmv := hr.move (L' := ⟨L.blk, L.off + o, L.fin⟩) (B' := .cells (old ++ new).length cs' true) hL hb rfl rfl rfl (w' := w.setRow L.blk (arr.toList.take (L.off + o + len * te.size) ++ news ++ arr.toList.drop (L.off + o + len * te.size + news.length)).toArray) (by simp) (fun x hx => setRow_other _ _ _ _ hx)
              ⟨(arr.toList.take (L.off + o + len * te.size) ++ news ++ arr.toList.drop (L.off + o + len * te.size + news.length)).toArray, el', (0, 0), setRow_heap w L.blk arr _ el' _ g1, by rw [hlenl]; simp only []; omega, ?hA, fun _ => rfl, ?hB⟩ (by simp) (by simp) (by simp)
            case hA =>
              simp only [List.size_toArray, List.length_append, List.length_take, List.length_drop, Array.length_toList]
              omega
            case hB =>
              intro i c hi
              rw [hg i] at hi
              obtain ⟨v, hv, hrel⟩ := hall.get hi
              have hil : i < (len + n) * te.size := by have := (List.getElem?_eq_some_iff.1 hi).1; omega
              refine ⟨by omega, v, ?_, hrel.mono (Sg.le_upd hr.fresh)⟩
              rw [List.getElem?_toArray]
              dsimp only
              by_cases hlt : i < len * te.size
              · rw [List.getElem?_append_left (by omega)] at hv
                have := ho3 i v hv
                rw [Addr.add_at] at this
                simp only [World.cell?, g1] at this
                rw [List.append_assoc, List.getElem?_append_left (by simp; omega), List.getElem?_take, if_pos (by omega)]
                simpa using this
              · rw [List.getElem?_append_right (by omega), ho2] at hv
                rw [List.append_assoc, List.getElem?_append_right (by simp; omega), List.getElem?_append_left (by simp; omega)]
                rw [← hv]; congr 1; simp; omega
            exact Good.value ⟨_, ⟨_, c, Sg.upd_same σ nx _, rfl, hnc, he0, by simpa using hcap⟩, hmv⟩
          · rw [hrun, grow w ⟨L.blk, L.off + o, none⟩ c xv news olds oper.type h2 hnc hlc ho2 ho3 h3]
            exact Good.value (grown_ok hr hsub hg hall hlen hzs (grownCap_ge w _ _ _) he0 el)
    | _ => exact (bad_ok e).elim
  · exact (bad_ok e).elim

theorem sound_range (TO : TabOK P tab) (ty : TypeId) (x : Operand) : SoundA P tab β (.range ty x) := by
  intro call t h nx k r e
  obtain ⟨ti, hti, e⟩ := tyK_ok (show tyK tab ty _ = .ok r from e)
  have hu := run_under' TO hti
  obtain ⟨hm, e⟩ := grd_ok e
  obtain ⟨kt, el, hd⟩ : ∃ kt el, ti.u = .map kt el := by
    cases hd : ti.u with
    | map kt el => exact ⟨kt, el, rfl⟩
    | _ => rw [hd] at hm; cases hm
  obtain ⟨xv, e, hx⟩ := evO_ok e
  cases xv with
  | nilmap =>
    have e : newBlk (.iter none) h nx (fun b h nx => k (.iter b) h nx) = .ok r := e
    rw [newBlk_eq] at e
    refine ⟨_, _, rfl, e, fun σ ρ w m oper ho he hr => ⟨.pointer (some ⟨w.heap.size, 0, none⟩), .mapIter none 0 #[] 0, 0, ?_, fun τ hle hτ => ⟨⟨_, hτ, rfl⟩, none, 0, 0, alloc_at _ _, rfl⟩⟩⟩
    have hxv : ρ x = .map none := hx σ ρ he
    simp [execOp, ho, Instr.range, hu, hd, hxv]
  | mapv b =>
    obtain ⟨es, hb, e⟩ := mapK_ok e
    cases es with
    | cons _ _ => exact (bad_ok e).elim
    | nil =>
      have e : newBlk (.iter (some b)) h nx (fun b h nx => k (.iter b) h nx) = .ok r := e
      rw [newBlk_eq] at e
      refine ⟨_, _, rfl, e, fun σ ρ w m oper ho he hr => ?_⟩
      obtain ⟨L, hL, hxv⟩ := hx σ ρ he
      obtain ⟨arr, clock, h1, h2⟩ := hr.blk b L _ hL hb
      refine ⟨.pointer (some ⟨w.heap.size, 0, none⟩), .mapIter (some L.blk) clock #[] clock, 0, ?_, fun τ hle hτ => ⟨⟨_, hτ, rfl⟩, some L.blk, clock, clock, alloc_at _ _, L, hle _ _ hL, rfl⟩⟩
      simp [execOp, ho, Instr.range, hu, hd, hxv, run_getMap h1]
  | _ => exact (bad_ok e).elim

theorem run_getIter {r : Nat} {w : World} {a : Option Nat} {b : Nat} {c : Array Nat} {d : Nat} (h : w.heap[r]? = some (.mapIter a b c d)) : (getObj r).run P w = .ok (.mapIter a b c d) w := by
  simp [getObj, Sem.run, h]

theorem sound_next (call : CallT β) (it : Operand) (s : Bool) : SoundW P tab (.next it s) call := by
  intro t h nx k r e
  cases s with
  | true => exact (bad_ok e).elim
  | false =>
    obtain ⟨iv, e, hi⟩ := evO_ok (show evO it tab t _ = .ok r from e)
    cases iv with
    | iter b =>
      obtain ⟨B, hB, e⟩ := optK_ok e
      cases B with
      | iter m =>
        cases m with
        | none =>
          refine ⟨_, h, nx, e, Nat.le_refl _, fun σ ρ w oper ho he hr => ?_⟩
          obtain ⟨L, hL, hv⟩ := hi σ ρ he
          obtain ⟨mm, since, st, h1, h2⟩ := hr.blk b L _ hL hB
          cases h2
          have : (execOp ρ oper).run P w = .ok (.value (.tuple #[.bool false])) w := by
            simp [execOp, ho, Instr.next, hv, run_getIter h1]
          rw [this]
          exact Good.value ⟨σ, ⟨_, rfl, _, _, rfl, rfl, rfl⟩, hr, Step.refl _ _ _⟩
        | some m =>
          obtain ⟨es, hm, e⟩ := mapK_ok e
          cases es with
          | cons _ _ => exact (bad_ok e).elim
          | nil =>
            refine ⟨_, h, nx, e, Nat.le_refl _, fun σ ρ w oper ho he hr => ?_⟩
            obtain ⟨L, hL, hv⟩ := hi σ ρ he
            obtain ⟨mm, since, st, h1, M, hM, rfl⟩ := hr.blk b L _ hL hB
            obtain ⟨arr, clock, h2, h3⟩ := hr.blk m M _ hM hm
            have harr : arr = #[] := by apply Array.ext'; simpa [MRel] using h3
            subst harr
            have : ∃ w', (execOp ρ oper).run P w = .ok (.value (.tuple #[.bool false])) w' ∧ w'.heap = w.heap ∧ w'.tape = w.tape ∧ w'.os = w.os ∧ w'.output = w.output := by
              refine ⟨w, ?_, rfl, rfl, rfl, rfl⟩
              simp [execOp, ho, Instr.next, hv, run_getIter h1, run_getMap h2, Question.forced]
            obtain ⟨w', h4, h5, h6, h7, h8⟩ := this
            rw [h4]
            exact Good.value ⟨σ, ⟨_, rfl, _, _, rfl, rfl, rfl⟩, hr.world h5, Step.world σ h h5 h6 h7 h8⟩
      | _ => exact (bad_ok e).elim
    | _ => exact (bad_ok e).elim
end
end Go.Can
namespace Go.Can
variable {β : Type}

/-! ## activations -/

def DRel (σ : Sg) : List Df → List Deferred → Prop
  | [], l => l = []
  | .call f args :: df, l => ∃ (cap dargs : Array Value) (l' : List Deferred), l = { target := .fn (.func f) cap, args := dargs } :: l' ∧ VRels σ args (dargs.toList ++ cap.toList) ∧ DRel σ df l'
  | .mark b :: df, l => ∃ (L : Loc) (l' : List Deferred) (ar : Array Value), l = { target := .collected L.blk, args := ar } :: l' ∧ σ b = some L ∧ DRel σ df l'

theorem DRel.mono {σ τ : Sg} (h : σ.le τ) : ∀ {df : List Df} {l : List Deferred}, DRel σ df l → DRel τ df l
  | [], l, r => r
  | .call f args :: df, l, ⟨cap, dargs, l', e, hv, hr⟩ => ⟨cap, dargs, l', e, VRels.mono h _ hv, DRel.mono h hr⟩
  | .mark b :: df, l, ⟨L, l', ar, e, hL, hr⟩ => ⟨L, l', ar, e, h _ _ hL, DRel.mono h hr⟩

structure ARel (σ : Sg) (fi : FI) (t : T CV) (df : List Df) (a : Act) : Prop where
  tmp : TRel σ t a.tmps
  size : fi.nt ≤ a.tmps.size
  dfr : DRel σ df a.defers

theorem ARel.mono {σ τ : Sg} (h : σ.le τ) {fi : FI} {t : T CV} {df : List Df} {a : Act} (r : ARel σ fi t df a) : ARel τ fi t df a :=
  ⟨r.tmp.mono h, r.size, r.dfr.mono h⟩

theorem ARel.env {G : Nat} {σ : Sg} {fi : FI} {t : T CV} {df : List Df} {a : Act} {h : T Blk} {nx : Nat} {w : World} (r : ARel σ fi t df a) (hr : HRel G σ h nx w) : Env G σ t a.eval where
  tmp := fun n c hc => by
    obtain ⟨v, hv, hrel⟩ := r.tmp n c hc
    have : a.eval (.tmp n) = v := by simp [Act.eval, Array.getD_eq_getD_getElem?, hv]
    rw [this]; exact hrel
  const := fun v => rfl
  glob := fun g hg => by
    obtain ⟨L, h1, h2, h3⟩ := hr.glob g hg
    exact ⟨L, h1, by simp [Act.eval, h2, h3]⟩
  func := fun f => rfl

theorem Act.put_size (a : Act) (d : Option Tmp) (v : Value) : (a.put d v).tmps.size = a.tmps.size := by cases d <;> simp [Act.put]
theorem Act.put_defers (a : Act) (d : Option Tmp) (v : Value) : (a.put d v).defers = a.defers := by cases d <;> simp [Act.put]

theorem TRel.set {σ : Sg} {t : T CV} {tmps : Array Value} {c : CV} {v : Value} {d : Nat} (r : TRel σ t tmps) (hv : VRel σ c v) (hd : d < tmps.size) : TRel σ (t.set d c) (tmps.setIfInBounds d v) := by
  intro n c' hc
  rw [T.get_set] at hc
  by_cases hn : n = d
  · subst hn; rw [if_pos rfl] at hc; cases hc
    exact ⟨v, by rw [Array.getElem?_setIfInBounds_self_of_lt hd], hv⟩
  · rw [if_neg hn] at hc
    obtain ⟨v', h1, h2⟩ := r n c' hc
    exact ⟨v', by rw [Array.getElem?_setIfInBounds_ne (Ne.symm hn)]; exact h1, h2⟩

theorem putT_ok {fi : FI} {d : Option Tmp} {v : CV} {t : T CV} {k : T CV → Res β} {r : β} (e : putT fi d v t k = .ok r) :
    ∃ t', k t' = .ok r ∧ ∀ σ df a v', VRel σ v v' → ARel σ fi t df a → ARel σ fi t' df (a.put d v') := by
  cases d with
  | none => exact ⟨t, e, fun σ df a v' hv ha => ha⟩
  | some d =>
    obtain ⟨hd, e⟩ := grd_ok (show grd 130 (Nat.blt d fi.nt) _ = .ok r from e)
    rw [setK_eq] at e
    have hd : d < fi.nt := Nat.le_of_ble_eq_true hd
    exact ⟨_, e, fun σ df a v' hv ha => ⟨ha.tmp.set hv (Nat.lt_of_lt_of_le hd ha.size), by simpa [Act.put] using ha.size, ha.dfr⟩⟩

theorem VRel.isBool {σ : Sg} {c : CV} {b : Bool} (h : VRel σ c (.bool b)) : c = .bool b := by
  cases c with
  | bool x => cases h; rfl
  | int => cases h
  | nilptr => cases h
  | nilslice => cases h
  | nilmap => cases h
  | nilfn => cases h
  | niliface => cases h
  | str => cases h
  | ptr => obtain ⟨L, hL, h⟩ := h; cases h
  | slice => obtain ⟨L, c, hL, h, hr⟩ := h; cases h
  | mapv => obtain ⟨L, hL, h⟩ := h; cases h
  | fn => obtain ⟨a, b, h, hr⟩ := h; cases h
  | yield => obtain ⟨L, hL, h⟩ := h; cases h
  | iter => obtain ⟨L, hL, h⟩ := h; cases h
  | iface => obtain ⟨x, h, hr⟩ := h; cases h
  | tup => obtain ⟨vs, h, hr⟩ := h; cases h
  | agg => obtain ⟨vs, h, hr⟩ := h; cases h

theorem wantK_ok {ops : Array Oper} {o : Oper} {t : T CV} {k : Bool → Res β} {r : β} (e : wantK ops o t k = .ok r) :
    ∃ q, k q = .ok r ∧ ∀ σ (tmps : Array Value), TRel σ t tmps → Region.wanted o (yielded ops tmps) = q := by
  unfold wantK at e
  unfold Region.wanted
  cases hg : o.guard with
  | none => rw [hg] at e; exact ⟨true, e, fun _ _ _ => rfl⟩
  | some g =>
    obtain ⟨j, want⟩ := g
    rw [hg] at e
    obtain ⟨d, hd, e⟩ := optK_ok (show optK 131 (guardTmp ops j) _ = .ok r from e)
    obtain ⟨v, hv, e⟩ := optK_ok e
    have hd' : (ops[j]?).bind (·.dst) = some d := hd
    have H : ∀ {σ : Sg} {tmps : Array Value}, TRel σ t tmps → ∃ v', VRel σ v v' ∧ yielded ops tmps j = (match some v' with | some (.bool b) => some b | _ => none) := by
      intro σ tmps ha
      obtain ⟨v', h1, h2⟩ := ha d v hv
      refine ⟨v', h2, ?_⟩
      unfold yielded
      rw [hd', Option.bind_some, h1]
      cases v' <;> rfl
    cases v with
    | bool b =>
      have e : boolK (eqB b want) k = .ok r := e
      rw [boolK_eq, eqB_eq] at e
      refine ⟨b == want, e, fun σ tmps ha => ?_⟩
      obtain ⟨v', h1, h2⟩ := H ha
      cases h1
      show (yielded ops tmps j == some want) = _
      rw [h2]; cases b <;> cases want <;> rfl
    | _ =>
      refine ⟨false, e, fun σ tmps ha => ?_⟩
      obtain ⟨v', h1, h2⟩ := H ha
      show (yielded ops tmps j == some want) = _
      rw [h2]
      cases v' with
      | bool b => exact absurd h1.isBool (by simp)
      | _ => rfl

/-! ## calls -/
section
variable {P : Program} {tab : Tab}

def RetPost (R : Value → World → Prop) : Ending → World → Prop
  | .returned v, w => R v w
  | _, _ => False

def CallOK (P : Program) (tab : Tab) (call : CallT β) : Prop :=
  ∀ (cv : CV) (args : List CV) (h : T Blk) (nx : Nat) (k : K β) (r : β), call cv args h nx k = .ok r → ∃ v h' nx', k v h' nx' = .ok r ∧ nx ≤ nx' ∧
    (match cv with
    | .fn f a b => ∀ (σ : Sg) (argvs : Array Value) (w : World), VRels σ (a ++ args ++ b) argvs.toList → HRel tab.ng σ h nx w →
        Good P ((callFunc f argvs).run P w) (Post tab.ng σ h w v h' nx') ∧
        (tab.prims.get f = none → (callFunc f argvs).run P w = .ok (.enter f argvs) w ∧ ∀ n, CallsIn Fence.wide n P f argvs w (RetPost (Post tab.ng σ h w v h' nx')))
    | .yield l => ∀ (σ : Sg) (argvs : Array Value) (w : World) (L : Loc), σ l = some L → VRels σ args argvs.toList → HRel tab.ng σ h nx w → Good P ((Instr.yield L.blk argvs).run P w) (Post tab.ng σ h w v h' nx')
    | .mapv f => ∀ (σ : Sg) (argvs : Array Value) (w : World), VRels σ args argvs.toList → HRel tab.ng σ h nx w →
        (callFunc f argvs).run P w = .ok (.enter f argvs) w ∧ ∀ n, CallsDIn Fence.wide n P f argvs .returning w fun e u w' => u = .returning ∧ RetPost (Post tab.ng σ h w v h' nx') e w'
    | _ => False)

theorem sound_call (call : CallT β) (hc : CallOK P tab call) (f : Operand) (args : Array Operand) (tys : Array TypeId) : SoundW P tab (.call { callee := .value f, args, argTypes := tys }) call := by
  intro t h nx k r e
  obtain ⟨vs, e, hvs⟩ := evOs_ok (show evOs args.toList tab t _ = .ok r from e)
  obtain ⟨fv, e, hf⟩ := evO_ok e
  obtain ⟨hnm, e⟩ := grd_ok e
  obtain ⟨v, h', nx', e, hle, H⟩ := hc _ _ _ _ _ _ e
  refine ⟨v, h', nx', e, hle, fun σ ρ w oper ho he hr => ?_⟩
  have hfv := hf σ ρ he
  have ha := hvs σ ρ he
  cases fv with
  | fn g x y =>
    obtain ⟨a', b', hg, h1, h2⟩ := hfv
    have hall : VRels σ (x ++ vs ++ y) (a' ++ args.map ρ ++ b').toList := by
      simpa using (h1.append ha).append h2
    have := (H σ _ w hall hr).1
    simp only [execOp, ho, resolve, hg, Deferred.ofValue, invoke]
    simpa using this
  | yield l =>
    obtain ⟨L, hL, hg⟩ := hfv
    have := H σ (args.map ρ) w L hL (by simpa using ha) hr
    simp only [execOp, ho, resolve, hg, Deferred.ofValue, invoke]
    simpa using this
  | mapv l =>
    cases hnm
  | _ => exact H.elim
end
end Go.Can
namespace Go.Can
variable {β : Type}
section
variable {P : Program} {tab : Tab}

/-- EVERY OPERATION -/
theorem sound_op (TO : TabOK P tab) {call : CallT β} (hc : CallOK P tab call) (o : Op) (hd : isDefer o = none) : SoundW P tab o call := by
  have none' : ∀ {n : Nat} {o : Op}, (∀ t h nx k, evOp o tab call t h nx k = .bad n) → SoundW P tab o call := fun he t h nx k r e => by rw [he] at e; exact (bad_ok e).elim
  cases o with
  | move x => exact (sound_move x).soundR.sound call
  | assign x => exact (sound_assign x).soundR.sound call
  | pick c a b => exact (sound_pick c a b).soundR.sound call
  | alloc e => exact (sound_alloc TO e).soundA.sound call
  | box e v => exact (sound_box e v).soundA.sound call
  | build t ps => exact (sound_build TO t ps).soundR.sound call
  | buildSlice t l ps => exact (sound_buildSlice TO t l ps).soundA.sound call
  | insert => exact none' fun _ _ _ _ => rfl
  | load t a => exact (sound_load TO t a).sound call
  | store t a x => exact sound_store TO t a x call
  | ready => exact none' fun _ _ _ _ => rfl
  | waits => exact none' fun _ _ _ _ => rfl
  | nilCheck x => exact (sound_nilCheck x).soundR.sound call
  | binOp op t x y u => exact (sound_binOp TO op t x y u).sound call
  | unOp op t x => exact (sound_unOp op t x).soundR.sound call
  | convert s d x => exact (sound_convert TO s d x).sound call
  | sliceToArrayPointer => exact none' fun _ _ _ _ => rfl
  | makeInterface => exact none' fun _ _ _ _ => rfl
  | makeFunc f a c => exact (sound_makeFunc f a c).soundR.sound call
  | makeMap t r => exact (sound_makeMap t r).soundA.sound call
  | makeChan => exact none' fun _ _ _ _ => rfl
  | makeSlice t l c => exact (sound_makeSlice TO t l c).soundA.sound call
  | slice t x lo hi mx => exact (sound_slice TO t x lo hi mx).soundR.sound call
  | fieldAddr t x f => exact (sound_fieldAddr TO t x f).soundR.sound call
  | field t x f => exact (sound_field TO t x f).soundR.sound call
  | indexAddr t x i => exact (sound_indexAddr TO t x i).soundR.sound call
  | index t x i => exact (sound_index TO t x i).soundR.sound call
  | lookup t x i ok => exact (sound_lookup TO t x i ok).sound call
  | mapUpdate t m k x => exact sound_mapUpdate TO t m k x call
  | mapEntry => exact none' fun _ _ _ _ => rfl
  | entryStore => exact none' fun _ _ _ _ => rfl
  | range t x => exact (sound_range TO t x).sound call
  | next it s => exact sound_next call it s
  | entry => exact none' fun _ _ _ _ => rfl
  | typeAssert => exact none' fun _ _ _ _ => rfl
  | extract x i => exact (sound_extract x i).soundR.sound call
  | call c =>
    obtain ⟨callee, args, tys⟩ := c
    cases callee with
    | value f => exact sound_call call hc f args tys
    | invoke r n => intro t h nx k r e; obtain ⟨_, e, _⟩ := evOs_ok (show evOs args.toList tab t _ = .ok r from e); exact (bad_ok e).elim
    | builtin b =>
      cases b with
      | len => exact (sound_len TO args tys).sound call
      | append => exact sound_append TO args tys call
      | max => exact (sound_max args tys).soundR.sound call
      | min => exact (sound_min args tys).soundR.sound call
      | delete => exact sound_delete TO args tys call
      | clear => exact sound_clear TO args tys call
      | cap => exact sound_cap TO args tys call
      | copy => exact sound_copy TO args tys call
      | _ => intro t h nx k r e; obtain ⟨_, e, _⟩ := evOs_ok (show evOs args.toList tab t _ = .ok r from e); exact (bad_ok e).elim
  | go => exact none' fun _ _ _ _ => rfl
  | defer c => simp [isDefer] at hd
  | panic => exact none' fun _ _ _ _ => rfl
  | send => exact none' fun _ _ _ _ => rfl
  | recv => exact none' fun _ _ _ _ => rfl
  | select => exact none' fun _ _ _ _ => rfl

theorem isDefer_some {o : Op} {c : Call} (h : isDefer o = some c) : o = .defer c := by cases o <;> simp [isDefer] at h; rw [h]
theorem isDefer_none {o : Op} (h : isDefer o = none) (c : Call) : o ≠ .defer c := by rintro rfl; simp [isDefer] at h

/-- what is asked of the state behind -/
def After (G : Nat) (fi : FI) (σ : Sg) (h : T Blk) (w : World) (a : Act) (t' : T CV) (df' : List Df) (h' : T Blk) (nx' : Nat) (a' : Act) (w' : World) : Prop :=
  ∃ σ', ARel σ' fi t' df' a' ∧ HRel G σ' h' nx' w' ∧ Step σ h w σ' h' w' ∧ a'.tmps.size = a.tmps.size

theorem After.refl {G : Nat} {fi : FI} {σ : Sg} {h : T Blk} {nx : Nat} {w : World} {a : Act} {t : T CV} {df : List Df} (ha : ARel σ fi t df a) (hr : HRel G σ h nx w) : After G fi σ h w a t df h nx a w :=
  ⟨σ, ha, hr, Step.refl _ _ _, rfl⟩

theorem After.trans {G : Nat} {fi : FI} {σ σ₁ : Sg} {h h₁ h₂ : T Blk} {nx₂ : Nat} {w w₁ w₂ : World} {a a₁ a₂ : Act} {t₂ : T CV} {df₂ : List Df} (st : Step σ h w σ₁ h₁ w₁) (hs : a₁.tmps.size = a.tmps.size)
    (h2 : After G fi σ₁ h₁ w₁ a₁ t₂ df₂ h₂ nx₂ a₂ w₂) : After G fi σ h w a t₂ df₂ h₂ nx₂ a₂ w₂ := by
  obtain ⟨σ₂, h1, h2, h3, h4⟩ := h2
  exact ⟨σ₂, h1, h2, st.trans h3, h4.trans hs⟩

theorem deferK_ok {fi : FI} {c : Call} {t : T CV} {df : List Df} {k : List Df → Res β} {r : β} (e : deferK tab fi c t df k = .ok r) :
    fi.round = none ∧ ∃ d, k (d :: df) = .ok r ∧ ∀ σ ρ (ty : TypeId) w, Env tab.ng σ t ρ → ∃ D, (resolve ρ c ty).run P w = .ok D w ∧ ∀ l, DRel σ df l → DRel σ (d :: df) (D :: l) := by
  unfold deferK at e
  split at e
  · exact (bad_ok e).elim
  · rename_i hround
    refine ⟨hround, ?_⟩
    obtain ⟨callee, args, tys⟩ := c
    cases callee with
    | value f =>
      obtain ⟨vs, e, hvs⟩ := evOs_ok e
      obtain ⟨fv, e, hf⟩ := evO_ok e
      cases fv with
      | fn f a b =>
        refine ⟨_, e, fun σ ρ ty w he => ?_⟩
        obtain ⟨a', b', hg, h1, h2⟩ := hf σ ρ he
        refine ⟨{ target := .fn (.func f) b', args := a' ++ args.map ρ }, by simp [resolve, hg, Deferred.ofValue], fun l hl => ⟨b', a' ++ args.map ρ, l, rfl, ?_, hl⟩⟩
        have := (h1.append (hvs σ ρ he)).append h2
        simpa using this
      | _ => exact (bad_ok e).elim
    | _ => exact (bad_ok e).elim

theorem FW_fn (rnd : Option Nat) (f : FuncId) : (FW rnd).fn f := trivial

/-- THE OPERATIONS IN ORDER -/
theorem runOps_ok (TO : TabOK P tab) {call : CallT β} (hc : CallOK P tab call) (ops : Array Oper) (fi : FI) : ∀ (l : List Oper) (i : Nat), ops.toList.drop i = l →
    ∀ {t : T CV} {df : List Df} {h : T Blk} {nx : Nat} {k : KF β} {r : β}, runOps ops tab call fi l t df h nx k = .ok r →
    ∃ t' df' h' nx', k t' df' h' nx' = .ok r ∧ nx ≤ nx' ∧ ∀ (σ : Sg) (a : Act) (w : World) (n : Nat) (rnd : Option Nat), (fi.round = none → rnd = none) → ARel σ fi t df a → HRel tab.ng σ h nx w →
      ∀ Q : Exit → Act → World → Prop, (∀ a' w', After tab.ng fi σ h w a t' df' h' nx' a' w' → Q .normal a' w') → wpOpsIn (FW rnd) n P ops Q (List.range' i l.length) a w := by
  intro l
  induction l with
  | nil =>
    intro i hi t df h nx k r e
    exact ⟨t, df, h, nx, e, Nat.le_refl _, fun σ a w n rnd hrd ha hr Q hQ => hQ a w (After.refl ha hr)⟩
  | cons o l ih =>
    intro i hi t df h nx k r e
    have hoi : ops[i]? = some o := by
      have : (ops.toList.drop i)[0]? = some o := by rw [hi]; rfl
      simpa using this
    have hl : ops.toList.drop (i + 1) = l := by
      rw [← List.drop_drop, hi]; rfl
    obtain ⟨q, e, hq⟩ := wantK_ok (show wantK ops o t _ = .ok r from e)
    cases q with
    | false =>
      obtain ⟨t₁, e, hput⟩ := putT_ok (show putT fi o.dst (.tup []) t _ = .ok r from e)
      obtain ⟨t', df', h', nx', e, hle, H⟩ := ih (i + 1) hl e
      refine ⟨t', df', h', nx', e, hle, fun σ a w n rnd hrd ha hr Q hQ => ?_⟩
      simp only [List.length_cons, List.range'_succ, wpOpsIn, hoi, hq σ a.tmps ha.tmp]
      refine ⟨fun _ _ => trivial, ?_⟩
      exact H σ _ w n rnd hrd (hput σ df a undef ⟨#[], rfl, rfl⟩ ha) hr Q fun a' w' h' => hQ a' w' (After.trans (Step.refl _ _ _) (Act.put_size _ _ _) h')
    | true =>
      cases hdf : isDefer o.op with
      | none =>
        have e : evOp o.op tab call t h nx (fun v h nx => putT fi o.dst v t fun t => runOps ops tab call fi l t df h nx k) = .ok r := by
          have e' : Option.rec (motive := fun _ => Res β) (evOp o.op tab call t h nx fun v h nx => putT fi o.dst v t fun t => runOps ops tab call fi l t df h nx k)
            (fun c => deferK tab fi c t df fun df => putT fi o.dst (.tup []) t fun t => runOps ops tab call fi l t df h nx k) (isDefer o.op) = .ok r := e
          rw [hdf] at e'; exact e'
        obtain ⟨v, h₁, nx₁, e, hle₁, hs⟩ := sound_op TO hc o.op hdf t h nx _ r e
        obtain ⟨t₁, e, hput⟩ := putT_ok e
        obtain ⟨t', df', h', nx', e, hle, H⟩ := ih (i + 1) hl e
        refine ⟨t', df', h', nx', e, Nat.le_trans hle₁ hle, fun σ a w n rnd hrd ha hr Q hQ => ?_⟩
        simp only [List.length_cons, List.range'_succ, wpOpsIn, hoi, hq σ a.tmps ha.tmp, if_true]
        refine ⟨fun _ _ => trivial, ?_⟩
        rw [Oper.semAt_eq _ _ _ (isDefer_none hdf)]
        refine hs σ a.eval w o rfl (ha.env hr) hr rnd n o a _ Q fun v' w' hp => ?_
        obtain ⟨σ₁, hv, hr₁, hst⟩ := hp
        refine H σ₁ _ w' n rnd hrd (hput σ₁ df a v' hv (ha.mono hst.le)) hr₁ Q fun a' w'' h' => hQ a' w'' (After.trans hst (Act.put_size _ _ _) h')
      | some c =>
        have e : deferK tab fi c t df (fun df => putT fi o.dst (.tup []) t fun t => runOps ops tab call fi l t df h nx k) = .ok r := by
          have e' : Option.rec (motive := fun _ => Res β) (evOp o.op tab call t h nx fun v h nx => putT fi o.dst v t fun t => runOps ops tab call fi l t df h nx k)
            (fun c => deferK tab fi c t df fun df => putT fi o.dst (.tup []) t fun t => runOps ops tab call fi l t df h nx k) (isDefer o.op) = .ok r := e
          rw [hdf] at e'; exact e'
        obtain ⟨hround, d, e, hD⟩ := deferK_ok (P := P) e
        obtain ⟨t₁, e, hput⟩ := putT_ok e
        obtain ⟨t', df', h', nx', e, hle, H⟩ := ih (i + 1) hl e
        refine ⟨t', df', h', nx', e, hle, fun σ a w n rnd hrd ha hr Q hQ => ?_⟩
        simp only [List.length_cons, List.range'_succ, wpOpsIn, hoi, hq σ a.tmps ha.tmp, if_true]
        refine ⟨fun _ _ => trivial, ?_⟩
        cases hrd hround
        obtain ⟨D, hrun, hDR⟩ := hD σ a.eval o.type w (ha.env hr)
        have hex : ((o.semAt (FW none).round a.eval).run P w) = .ok (.defer D) w := by
          show (Oper.semAt none a.eval o).run P w = _
          rw [Oper.semAt_none]
          simp [execOp, isDefer_some hdf, hrun]
        rw [hex, Oper.uponIn_defer]
        have ha' : ARel σ fi t (d :: df) { a with defers := D :: a.defers } := ⟨ha.tmp, ha.size, hDR _ ha.dfr⟩
        exact H σ _ w n none hrd (hput σ (d :: df) _ undef ⟨#[], rfl, rfl⟩ ha') hr Q fun a' w' h' => hQ a' w' (After.trans (Step.refl _ _ _) (Act.put_size { a with defers := D :: a.defers } _ _) h')

theorem region_ok (TO : TabOK P tab) {call : CallT β} (hc : CallOK P tab call) (id : Nat) (ops : Array Oper) (fi : FI)
    {t : T CV} {df : List Df} {h : T Blk} {nx : Nat} {k : KF β} {r : β} (e : runOps ops tab call fi ops.toList t df h nx k = .ok r) :
    ∃ t' df' h' nx', k t' df' h' nx' = .ok r ∧ nx ≤ nx' ∧ ∀ (σ : Sg) (a : Act) (w : World) (n : Nat) (rnd : Option Nat), (fi.round = none → rnd = none) → ARel σ fi t df a → HRel tab.ng σ h nx w →
      ∀ Q : Exit → Act → World → Prop, (∀ a' w', After tab.ng fi σ h w a t' df' h' nx' a' w' → Q .normal a' w') → (Code.region id ops false).wpIn (FW rnd) n P Q a w := by
  obtain ⟨t', df', h', nx', e, hle, H⟩ := runOps_ok TO hc ops fi ops.toList 0 (by simp) e
  refine ⟨t', df', h', nx', e, hle, fun σ a w n rnd hrd ha hr Q hQ => wpIn_region ?_⟩
  have := H σ a w n rnd hrd ha hr Q hQ
  rwa [Array.length_toList, ← List.range_eq_range'] at this
end
end Go.Can
namespace Go.Can
variable {β : Type}

/-! ## a scope that no goto leaves, inside a fence -/
theorem stepR_scope' {P : Program} {b : Frame} {a : Act} {k : List Item} {cs : List Frame} {w : World} {c : Code} :
    step P (lone (b.atR a (.code (.scope c) :: k)) cs w) = .next (lone (b.atR a (.code c :: .inScope c :: k)) cs w) :=
  step_lone_go (by simp [stepG, stepG.exec, Frame.atR])
theorem stepR_inScope' {P : Program} {b : Frame} {a : Act} {k : List Item} {cs : List Frame} {w : World} {c : Code} :
    step P (lone (b.atR a (.inScope c :: k)) cs w) = .next (lone (b.atR a k) cs w) :=
  step_lone_go (by simp [stepG, stepG.exec, Frame.atR])

theorem wpIn_scope_straight {F : Fence} {n : Nat} {P : Program} {Q : Exit → Act → World → Prop} {a : Act} {w : World} {c : Code} (h : c.wpIn F n P (Exit.noGoto Q) a w) : (Code.scope c).wpIn F n P Q a w := by
  intro b k cs hro hb hr
  have h0 : (lone (b.atR a (.code (.scope c) :: k)) cs w).fenced P F := fenced_calm hb hr rfl
  obtain ⟨e, a₁, w₁, hq, harr⟩ := h b (.inScope c :: k) cs hro hb hr
  cases e with
  | normal => exact ⟨.normal, a₁, w₁, hq, .head h0 stepR_scope' (StepsIn.trans harr (.one (fenced_calm hb hr rfl) stepR_inScope'))⟩
  | exit id =>
    have hx : exitTo id (.inScope c :: k) = exitTo id k := by simp [exitTo]
    exact ⟨.exit id, a₁, w₁, hq, fun k' hk => .head h0 stepR_scope' (harr.1 k' (by rw [hx]; exact hk)),
      fun hr' hk => let ⟨k₁, h1, h2⟩ := harr.2 hr' (by rw [hx]; exact hk); ⟨k₁, h1, .head h0 stepR_scope' h2⟩⟩
  | goto l => exact hq.elim
  | ret => exact ⟨_, a₁, w₁, hq, .of_steps (.one h0 stepR_scope') harr⟩
  | panic ch => exact ⟨_, a₁, w₁, hq, .of_steps (.one h0 stepR_scope') harr⟩
  | outgrown => exact ⟨_, a₁, w₁, hq, .of_steps (.one h0 stepR_scope') harr⟩

def exitOf : Ex → Exit
  | .normal => .normal
  | .exit i => .exit i
  | .ret => .ret

section
variable {P : Program} {tab : Tab}

def CodeOK (P : Program) (tab : Tab) (fi : FI) (run : T CV → List Df → T Blk → Nat → KC β → Res β) (c : Code) : Prop :=
  ∀ {t : T CV} {df : List Df} {h : T Blk} {nx : Nat} {k : KC β} {r : β}, run t df h nx k = .ok r →
    ∃ ex t' df' h' nx', k ex t' df' h' nx' = .ok r ∧ nx ≤ nx' ∧ ∀ (σ : Sg) (a : Act) (w : World) (n : Nat) (rnd : Option Nat), (fi.round = none → rnd = none) → ARel σ fi t df a → HRel tab.ng σ h nx w →
      ∀ Q : Exit → Act → World → Prop, (∀ a' w', After tab.ng fi σ h w a t' df' h' nx' a' w' → Q (exitOf ex) a' w') → c.wpIn (FW rnd) n P Q a w

/-- what is asked of a region whose order is drawn -/
def DrawOK (P : Program) (tab : Tab) (call : CallT β) : Prop :=
  ∀ (id : Nat) (ops : Array Oper) (fi : FI), okAll (infs ops) = true → ∀ {t : T CV} {df : List Df} {h : T Blk} {nx : Nat} {k : T CV → T Blk → Nat → Res β} {r : β}, runDraw ops tab call fi (infs ops) t h nx k = .ok r →
    ∃ t' h' nx', k t' h' nx' = .ok r ∧ nx ≤ nx' ∧ ∀ (σ : Sg) (a : Act) (w : World) (n : Nat) (rnd : Option Nat), ARel σ fi t df a → HRel tab.ng σ h nx w →
      ∀ Q : Exit → Act → World → Prop, (∀ a' w', After tab.ng fi σ h w a t' df h' nx' a' w' → Q .normal a' w') → (Code.region id ops true).wpIn (FW rnd) n P Q a w

theorem CodeOK.seq {fi : FI} {x y : Code} {call : CallT β} (h1 : CodeOK P tab fi (runCode x tab call fi) x) (h2 : CodeOK P tab fi (runCode y tab call fi) y) : CodeOK P tab fi (runCode (.seq x y) tab call fi) (.seq x y) := by
  intro t df h nx k r e
  obtain ⟨ex, t₁, df₁, h₁, nx₁, e, hle₁, H₁⟩ := h1 (show runCode x tab call fi t df h nx _ = .ok r from e)
  cases ex with
  | normal =>
    obtain ⟨ex, t₂, df₂, h₂, nx₂, e, hle₂, H₂⟩ := h2 (show runCode y tab call fi t₁ df₁ h₁ nx₁ k = .ok r from e)
    refine ⟨ex, t₂, df₂, h₂, nx₂, e, Nat.le_trans hle₁ hle₂, fun σ a w n rnd hrd ha hr Q hQ => wpIn_seq (H₁ σ a w n rnd hrd ha hr _ fun a' w' hA => ?_)⟩
    obtain ⟨σ₁, ha₁, hr₁, hst, hs⟩ := hA
    exact H₂ σ₁ a' w' n rnd hrd ha₁ hr₁ Q fun a'' w'' hB => hQ a'' w'' (After.trans hst hs hB)
  | exit i => exact ⟨.exit i, t₁, df₁, h₁, nx₁, e, hle₁, fun σ a w n rnd hrd ha hr Q hQ => wpIn_seq (H₁ σ a w n rnd hrd ha hr _ fun a' w' hA => hQ a' w' hA)⟩
  | ret => exact ⟨.ret, t₁, df₁, h₁, nx₁, e, hle₁, fun σ a w n rnd hrd ha hr Q hQ => wpIn_seq (H₁ σ a w n rnd hrd ha hr _ fun a' w' hA => hQ a' w' hA)⟩

theorem loopN_ok {fi : FI} {x : Code} {call : CallT β} (h1 : CodeOK P tab fi (runCode x tab call fi) x) : ∀ (m : Nat) {t : T CV} {df : List Df} {h : T Blk} {nx : Nat} {k : KC β} {r : β}, loopN m (runCode x tab call fi) t df h nx k = .ok r →
    ∃ ex t' df' h' nx', k ex t' df' h' nx' = .ok r ∧ nx ≤ nx' ∧ ∀ (σ : Sg) (a : Act) (w : World) (n : Nat) (rnd : Option Nat), (fi.round = none → rnd = none) → ARel σ fi t df a → HRel tab.ng σ h nx w →
      ∀ Q : Exit → Act → World → Prop, (∀ a' w', After tab.ng fi σ h w a t' df' h' nx' a' w' → Q (exitOf ex) a' w') → Code.roundsIn (FW rnd) n P x Q m a w
  | 0, t, df, h, nx, k, r, e => (bad_ok e).elim
  | m + 1, t, df, h, nx, k, r, e => by
    obtain ⟨ex, t₁, df₁, h₁, nx₁, e, hle₁, H₁⟩ := h1 (show runCode x tab call fi t df h nx _ = .ok r from e)
    cases ex with
    | normal =>
      obtain ⟨ex, t₂, df₂, h₂, nx₂, e, hle₂, H₂⟩ := loopN_ok h1 m (show loopN m (runCode x tab call fi) t₁ df₁ h₁ nx₁ k = .ok r from e)
      refine ⟨ex, t₂, df₂, h₂, nx₂, e, Nat.le_trans hle₁ hle₂, fun σ a w n rnd hrd ha hr Q hQ => H₁ σ a w n rnd hrd ha hr _ fun a' w' hA => ?_⟩
      obtain ⟨σ₁, ha₁, hr₁, hst, hs⟩ := hA
      exact H₂ σ₁ a' w' n rnd hrd ha₁ hr₁ Q fun a'' w'' hB => hQ a'' w'' (After.trans hst hs hB)
    | exit i => exact ⟨.exit i, t₁, df₁, h₁, nx₁, e, hle₁, fun σ a w n rnd hrd ha hr Q hQ => H₁ σ a w n rnd hrd ha hr _ fun a' w' hA => hQ a' w' hA⟩
    | ret => exact ⟨.ret, t₁, df₁, h₁, nx₁, e, hle₁, fun σ a w n rnd hrd ha hr Q hQ => H₁ σ a w n rnd hrd ha hr _ fun a' w' hA => hQ a' w' hA⟩

theorem CodeOK.loop {fi : FI} {x : Code} {call : CallT β} (h1 : CodeOK P tab fi (runCode x tab call fi) x) : CodeOK P tab fi (runCode (.loop x) tab call fi) (.loop x) := by
  intro t df h nx k r e
  obtain ⟨ex, t₁, df₁, h₁, nx₁, e, hle₁, H₁⟩ := loopN_ok h1 4000 (show loopN 4000 (runCode x tab call fi) t df h nx k = .ok r from e)
  exact ⟨ex, t₁, df₁, h₁, nx₁, e, hle₁, fun σ a w n rnd hrd ha hr Q hQ => wpIn_loop_rounds 4000 (H₁ σ a w n rnd hrd ha hr Q hQ)⟩

theorem CodeOK.cond {fi : FI} {c : Operand} {x y : Code} {call : CallT β} (h1 : CodeOK P tab fi (runCode x tab call fi) x) (h2 : CodeOK P tab fi (runCode y tab call fi) y) : CodeOK P tab fi (runCode (.cond c x y) tab call fi) (.cond c x y) := by
  intro t df h nx k r e
  obtain ⟨v, e, hv⟩ := evO_ok (show evO c tab t _ = .ok r from e)
  cases v with
  | bool b =>
    cases b with
    | true =>
      obtain ⟨ex, t₁, df₁, h₁, nx₁, e, hle₁, H₁⟩ := h1 (show runCode x tab call fi t df h nx k = .ok r from e)
      exact ⟨ex, t₁, df₁, h₁, nx₁, e, hle₁, fun σ a w n rnd hrd ha hr Q hQ => wpIn_cond_true (hv σ a.eval (ha.env hr)) (H₁ σ a w n rnd hrd ha hr Q hQ)⟩
    | false =>
      obtain ⟨ex, t₁, df₁, h₁, nx₁, e, hle₁, H₁⟩ := h2 (show runCode y tab call fi t df h nx k = .ok r from e)
      exact ⟨ex, t₁, df₁, h₁, nx₁, e, hle₁, fun σ a w n rnd hrd ha hr Q hQ => wpIn_cond_false (hv σ a.eval (ha.env hr)) (H₁ σ a w n rnd hrd ha hr Q hQ)⟩
  | _ => exact (bad_ok e).elim

theorem CodeOK.block {fi : FI} {id : Nat} {x : Code} {call : CallT β} (h1 : CodeOK P tab fi (runCode x tab call fi) x) : CodeOK P tab fi (runCode (.block id x) tab call fi) (.block id x) := by
  intro t df h nx k r e
  obtain ⟨ex, t₁, df₁, h₁, nx₁, e, hle₁, H₁⟩ := h1 (show runCode x tab call fi t df h nx _ = .ok r from e)
  cases ex with
  | normal => exact ⟨.normal, t₁, df₁, h₁, nx₁, e, hle₁, fun σ a w n rnd hrd ha hr Q hQ => wpIn_block (H₁ σ a w n rnd hrd ha hr _ fun a' w' hA => hQ a' w' hA)⟩
  | exit i =>
    have e : Bool.rec (motive := fun _ => Res β) (k (.exit i) t₁ df₁ h₁ nx₁) (k .normal t₁ df₁ h₁ nx₁) (Nat.beq i id) = .ok r := e
    cases hi : Nat.beq i id with
    | true =>
      rw [hi] at e
      have := Nat.eq_of_beq_eq_true hi
      refine ⟨.normal, t₁, df₁, h₁, nx₁, e, hle₁, fun σ a w n rnd hrd ha hr Q hQ => wpIn_block (H₁ σ a w n rnd hrd ha hr _ fun a' w' hA => ?_)⟩
      simp only [exitOf, Exit.inBlock, if_pos this]
      exact hQ a' w' hA
    | false =>
      rw [hi] at e
      have : ¬ i = id := Nat.ne_of_beq_eq_false hi
      refine ⟨.exit i, t₁, df₁, h₁, nx₁, e, hle₁, fun σ a w n rnd hrd ha hr Q hQ => wpIn_block (H₁ σ a w n rnd hrd ha hr _ fun a' w' hA => ?_)⟩
      simp only [exitOf, Exit.inBlock, if_neg this]
      exact hQ a' w' hA
  | ret => exact ⟨.ret, t₁, df₁, h₁, nx₁, e, hle₁, fun σ a w n rnd hrd ha hr Q hQ => wpIn_block (H₁ σ a w n rnd hrd ha hr _ fun a' w' hA => hQ a' w' hA)⟩

theorem CodeOK.scope {fi : FI} {x : Code} {call : CallT β} (h1 : CodeOK P tab fi (runCode x tab call fi) x) : CodeOK P tab fi (runCode (.scope x) tab call fi) (.scope x) := by
  intro t df h nx k r e
  obtain ⟨ex, t₁, df₁, h₁, nx₁, e, hle₁, H₁⟩ := h1 (show runCode x tab call fi t df h nx k = .ok r from e)
  refine ⟨ex, t₁, df₁, h₁, nx₁, e, hle₁, fun σ a w n rnd hrd ha hr Q hQ => wpIn_scope_straight (H₁ σ a w n rnd hrd ha hr _ fun a' w' hA => ?_)⟩
  cases ex <;> exact hQ a' w' hA
end
end Go.Can
namespace Go.Can
variable {β : Type}
section
variable {P : Program} {tab : Tab}

/-- A BLOCK THAT IS FORGOTTEN may hold whatever. -/
theorem HRel.drop {G : Nat} {σ : Sg} {h : T Blk} {nx : Nat} {w : World} (r : HRel G σ h nx w) {b : Nat} {L : Loc} {B : Blk} {w' : World} (hL : σ b = some L) (hB : h.get b = some B) (hrw : B.rw = true)
    (hs : w'.heap.size = w.heap.size) (ho : ∀ x, x ≠ L.blk → w'.heap[x]? = w.heap[x]?) (ht : w'.tape = w.tape) (hos : w'.os = w.os) (hout : w'.output = w.output) :
    HRel G σ (h.del b) nx w' ∧ Step σ h w σ (h.del b) w' := by
  have hfull : ∀ c X, (h.del b).get c = some X → ∃ L, σ c = some L := fun c X e => by
    rw [T.get_del] at e
    split at e
    · cases e
    · exact r.full c X e
  have get : ∀ {c X}, (h.del b).get c = some X → c ≠ b ∧ h.get c = some X := by
    intro c X e'
    rw [T.get_del] at e'
    by_cases hc : c = b
    · rw [if_pos hc] at e'; cases e'
    · rw [if_neg hc] at e'; exact ⟨hc, e'⟩
  refine ⟨⟨⟨?_, ?_, ?_, r.glob⟩, hfull⟩, ⟨.refl σ, by omega, ?_, ?_, ?_, ht, hos, hout⟩⟩
  · intro c M e; rw [hs]; exact r.dom c M e
  · intro c M X e e'
    obtain ⟨hc, e'⟩ := get e'
    exact (r.blk c M X e e').heap (ho _ fun hb => hc (r.inj c b M L X B e hL e' hB (.inr hrw) hb))
  · intro c c' M M' X X' e₁ e₂ g₁ g₂ hw' hb
    exact r.inj _ _ _ _ _ _ e₁ e₂ (get g₁).2 (get g₂).2 hw' hb
  · intro x hx hn
    exact ho x fun hb => hn ⟨b, L, B, hL, hB, hrw, hb.symm⟩
  · rintro x hx ⟨c, M, X, e, e', h1, rfl⟩
    exact ⟨c, M, X, e, (get e').2, h1, rfl⟩
  · rintro x hx ⟨c, M, X, e, e', rfl⟩
    exact ⟨c, M, X, e, (get e').2, rfl⟩

theorem loopK_ok {h : T Blk} {l : Nat} {k : T CV → Nat → List Tmp → Code → Code → LoopState → Option Code → Res β} {r : β} (e : loopK h l k = .ok r) :
    ∃ t nt ps a b st pd, h.get l = some (.loop t nt ps a b st pd) ∧ k t nt ps a b st pd = .ok r := by
  obtain ⟨B, hB, e⟩ := optK_ok e
  cases B with
  | loop t nt ps a b st pd => exact ⟨t, nt, ps, a, b, st, pd, hB, e⟩
  | _ => exact (bad_ok e).elim

theorem run_getLoop {r : Nat} {w : World} {l : Loop} (h : w.heap[r]? = some (.loop l)) : (Instr.getLoop r).run P w = .ok l w := by
  simp [Instr.getLoop, getObj, Sem.run, h]
theorem run_setLoop {r : Nat} {w : World} {l : Loop} (h : w.heap[r]? = some (.loop l)) (o : Obj) : (setObj r o).run P w = .ok () { w with heap := w.heap.setIfInBounds r o } := by
  simp [setObj, Sem.run, h]

theorem callsIn_FW {n : Nat} {f : FuncId} {args : Array Value} {w : World} {R : Ending → World → Prop} (rnd : Option Nat) (h : CallsIn Fence.wide n P f args w R) : CallsIn (FW rnd) n P f args w R := h

def JumpPost (P : Program) (c : Option Code) (F : Fence) (n : Nat) (Q : Exit → Act → World → Prop) (a : Act) (w : World) : Prop :=
  match c with | none => Q .normal a w | some c => c.wpIn F n P Q a w

theorem exOf_ok {c : Option Code} {k : Ex → Res β} {r : β} (e : exOf c k = .ok r) : ∃ ex, k ex = .ok r ∧ ∀ (F : Fence) (n : Nat) (Q : Exit → Act → World → Prop) (a : Act) (w : World), Q (exitOf ex) a w → JumpPost P c F n Q a w := by
  unfold exOf at e
  split at e
  · exact ⟨.normal, e, fun F n Q a w h => h⟩
  · exact ⟨.ret, e, fun F n Q a w h => wpIn_ret h⟩
  · rename_i i; exact ⟨.exit i, e, fun F n Q a w h => wpIn_exit h⟩
  · exact (bad_ok e).elim

theorem CodeOK.rangeFunc {fi : FI} {f : Operand} {ps : Array Tmp} {x y : Code} {call : CallT β} (hc : CallOK P tab call) : CodeOK P tab fi (runCode (.rangeFunc f ps x y) tab call fi) (.rangeFunc f ps x y) := by
  intro t df h nx k r e
  obtain ⟨fv, e, hf⟩ := evO_ok (show evO f tab t _ = .ok r from e)
  cases hround : fi.round with
  | some l => rw [hround] at e; cases fv <;> exact (bad_ok e).elim
  | none =>
  rw [hround] at e
  cases fv with
  | fn g u v =>
    cases hp : tab.prims.get g with
    | some p =>
      have e : Option.rec (motive := fun _ => Res β) _ (fun _ => Res.bad 157) (tab.prims.get g) = .ok r := e
      rw [hp] at e; exact (bad_ok e).elim
    | none =>
      have e : Option.rec (motive := fun _ => Res β) (newBlk .mark h nx fun b h nx => newBlk (.loop t fi.nt ps.toList x y .ready none) h nx fun l h nx =>
        call (.fn g u v) [.yield l] h nx fun _ h nx => loopK h l fun _ _ _ _ _ st pd => match st with
          | .busy => .bad 156
          | _ => h.delK l fun h => exOf pd fun ex => k ex t (.mark b :: df) h nx) (fun _ => Res.bad 157) (tab.prims.get g) = .ok r := e
      rw [hp] at e
      simp only [newBlk_eq] at e
      obtain ⟨rv, h₃, nx₃, e, hle, H⟩ := hc _ _ _ _ _ _ e
      obtain ⟨t', nt', ps', a', b', st, pd, hget, e⟩ := loopK_ok e
      have hst : st ≠ .busy := by rintro rfl; exact (bad_ok e).elim
      have e : h₃.delK (nx + 1) (fun h => exOf pd fun ex => k ex t (.mark nx :: df) h nx₃) = .ok r := by
        cases st with
        | busy => exact absurd rfl hst
        | _ => exact e
      rw [delK_eq] at e
      obtain ⟨ex, e, hex⟩ := exOf_ok (P := P) e
      refine ⟨ex, t, .mark nx :: df, _, nx₃, e, by omega, fun σ a w n rnd hrd ha hr Q hQ => wpIn_rangeFunc fun fn _ => ?_⟩
      cases hrd rfl
      let w₁ := w.alloc (.deferred (some []))
      let rec' : Loop := { state := .ready, pending := none, fn := fn, tmps := a.tmps, params := ps, assign := x, body := y, defers := w.heap.size }
      let w₂ := w₁.alloc (.loop rec')
      obtain ⟨hr₁, st₁⟩ := hr.new (.deferred (some [])) .mark 0 (alloc_at w _)
      have hle₁ := st₁.le
      obtain ⟨hr₂, st₂⟩ := hr₁.new (.loop rec') (.loop t fi.nt ps.toList x y .ready none) 0
        ⟨rec', alloc_at w₁ _, rfl, rfl, rfl, rfl, rfl, ha.size, (ha.tmp.mono hle₁).mono (Sg.le_upd hr₁.fresh)⟩
      have hle₂ := st₁.le.trans st₂.le
      obtain ⟨a', b', hg, h1, h2⟩ := hf σ a.eval (ha.env hr)
      have hsz : w₁.heap.size = w.heap.size + 1 := by simp [w₁]
      have hyield : VRel ((σ.upd nx ⟨w.heap.size, 0, 0⟩).upd (nx + 1) ⟨w₁.heap.size, 0, 0⟩) (.yield (nx + 1)) (.func (.yield w₁.heap.size) #[] #[]) := ⟨_, Sg.upd_same _ _ _, rfl⟩
      have hargs : VRels ((σ.upd nx ⟨w.heap.size, 0, 0⟩).upd (nx + 1) ⟨w₁.heap.size, 0, 0⟩) (u ++ [.yield (nx + 1)] ++ v) (a' ++ #[Value.func (.yield w₁.heap.size) #[] #[]] ++ b').toList := by
        have := ((h1.mono hle₂).append (VRels.one hyield)).append (h2.mono hle₂)
        simpa [w₁] using this
      obtain ⟨_, H⟩ := H _ _ _ hargs hr₂
      obtain ⟨henter, hcall⟩ := H hp
      refine ⟨w₁.heap.size, [{ target := .collected w.heap.size, args := #[] }], w₂, { target := .fn (.func g) b', args := a' ++ #[Value.func (.yield w₁.heap.size) #[] #[]] }, w₂, g, _, w₂, ?_, ?_, fun _ _ => trivial, henter, fun hd => by simp [FW, Fence.wide] at hd, ?_⟩
      · show (Instr.enterLoop fn a.tmps ps x y none).run P w = _
        simp [Instr.enterLoop, w₁, w₂, rec']
      · have hg' : Act.eval a f = .func (.func g) a' b' := hg
        have hcst : ∀ v, Act.eval a (.const v) = v := fun _ => rfl
        simp [resolve, rangeCall, hg', Deferred.ofValue, hcst]
      · refine callsIn_FW none ((hcall (n - 1)).mono fun en w' hp' => ?_)
        cases en with
        | returned v' =>
          obtain ⟨σ₃, _, hr₃, st₃⟩ := hp'
          have hLl := st₃.le _ _ (Sg.upd_same (σ.upd nx ⟨w.heap.size, 0, 0⟩) (nx + 1) ⟨w₁.heap.size, 0, 0⟩)
          obtain ⟨rc, hb1, hb2, hb3, _⟩ := hr₃.blk _ _ _ hLl hget
          have hb1 : w'.heap[w₁.heap.size]? = some (.loop rc) := hb1
          have hend : (Instr.endLoop w₁.heap.size).run P w' = .ok pd { w' with heap := w'.heap.setIfInBounds w₁.heap.size (.loop { rc with state := .exhausted }) } := by
            have hne : ¬ rc.state = LoopState.busy := by rw [hb2]; exact hst
            simp [Instr.endLoop, run_getLoop hb1, hne, run_setLoop hb1, hb3]
          refine ⟨pd, _, hend, ?_⟩
          refine (fun (H : JumpPost P pd (FW none) n Q _ _) => by cases pd <;> exact H) (hex (FW none) n Q _ _ ?_)
          obtain ⟨hr₄, st₄⟩ := hr₃.drop (w' := { w' with heap := w'.heap.setIfInBounds w₁.heap.size (.loop { rc with state := .exhausted }) }) hLl hget rfl (by simp) (fun x hx => by
            show (w'.heap.setIfInBounds _ _)[x]? = _
            rw [Array.getElem?_setIfInBounds_ne (Ne.symm hx)]) rfl rfl rfl
          have hle₃ := hle₂.trans st₃.le
          refine hQ _ _ ⟨σ₃, ⟨ha.tmp.mono hle₃, ha.size, ⟨_, a.defers, #[], rfl, (st₂.le.trans st₃.le) _ _ (Sg.upd_same σ nx _), ha.dfr.mono hle₃⟩⟩, hr₄, ((st₁.trans st₂).trans st₃).trans st₄, rfl⟩
        | panicked ch => exact hp'.elim
        | outgrown => exact hp'.elim
  | _ => exact (bad_ok e).elim

/-- CODE -/
theorem code_ok (TO : TabOK P tab) {call : CallT β} (hc : CallOK P tab call) (hd : DrawOK P tab call) (fi : FI) (c : Code) : CodeOK P tab fi (runCode c tab call fi) c := by
  induction c with
  | skip => intro t df h nx k r e; exact ⟨.normal, t, df, h, nx, e, Nat.le_refl _, fun σ a w n rnd hrd ha hr Q hQ => wpIn_skip (hQ a w (After.refl ha hr))⟩
  | region id ops draw =>
    intro t df h nx k r e
    cases draw with
    | false =>
      obtain ⟨t', df', h', nx', e, hle, H⟩ := region_ok TO hc id ops fi (show runOps ops tab call fi ops.toList t df h nx _ = .ok r from e)
      exact ⟨.normal, t', df', h', nx', e, hle, fun σ a w n rnd hrd ha hr Q hQ => H σ a w n rnd hrd ha hr Q hQ⟩
    | true =>
      have e : Bool.rec (motive := fun _ => Res β) (.bad 151) (runDraw ops tab call fi (infs ops) t h nx fun t h nx => k .normal t df h nx) (okAll (infs ops)) = .ok r := e
      cases hb : okAll (infs ops) with
      | false => rw [hb] at e; exact (bad_ok e).elim
      | true =>
        rw [hb] at e
        obtain ⟨t', h', nx', e, hle, H⟩ := hd id ops fi hb (df := df) e
        exact ⟨.normal, t', df, h', nx', e, hle, fun σ a w n rnd hrd ha hr Q hQ => H σ a w n rnd ha hr Q hQ⟩
  | seq x y h1 h2 => exact CodeOK.seq h1 h2
  | cond c x y h1 h2 => exact CodeOK.cond h1 h2
  | block id x h1 => exact CodeOK.block h1
  | loop x h1 => exact CodeOK.loop h1
  | rangeFunc f ps x y _ _ => exact CodeOK.rangeFunc hc
  | exit i => intro t df h nx k r e; exact ⟨.exit i, t, df, h, nx, e, Nat.le_refl _, fun σ a w n rnd hrd ha hr Q hQ => wpIn_exit (hQ a w (After.refl ha hr))⟩
  | scope x h1 => exact CodeOK.scope h1
  | label l => intro t df h nx k r e; exact ⟨.normal, t, df, h, nx, e, Nat.le_refl _, fun σ a w n rnd hrd ha hr Q hQ => wpIn_label (hQ a w (After.refl ha hr))⟩
  | goto l => intro t df h nx k r e; exact (bad_ok e).elim
  | ret => intro t df h nx k r e; exact ⟨.ret, t, df, h, nx, e, Nat.le_refl _, fun σ a w n rnd hrd ha hr Q hQ => wpIn_ret (hQ a w (After.refl ha hr))⟩
  | refuse s => intro t df h nx k r e; exact (bad_ok e).elim
end
end Go.Can
