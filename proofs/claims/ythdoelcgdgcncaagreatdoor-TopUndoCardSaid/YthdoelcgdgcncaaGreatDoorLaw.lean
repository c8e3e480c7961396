/- The plain law: what Map, Unmap and Protect come to. -/
import Derived.Test.YthdoelcgdgcncaaGreatDoorWalkD
set_option maxRecDepth 100000
set_option linter.unusedVariables false
set_option linter.unusedSimpArgs false
namespace Go.Proofs.YthdoelcgdgcncaaGreatDoor
open Go Go.Can

theorem valid_of {l : List Rg} (h1 : l.length ≤ 8) (h2 : chain 0 l = true) (h3 : sumC l ≤ 16) : valid l = true := by simp [valid, h1, h2, h3]

theorem findL_nil (page : Int) : findL [] page = none := rfl
theorem findL_cons (x : Rg) (l : List Rg) (page : Int) : findL (x :: l) page = if x.a + x.c ≤ page then findL l page else if x.a ≤ page then some x else none := by
  unfold findL placeN
  rw [List.takeWhile_cons]
  by_cases h : x.a + x.c ≤ page
  · simp [h]
  · simp [h]

theorem findL_iff : ∀ (f : Int) (l : List Rg), chain f l = true → ∀ (page : Int) (r : Rg), findL l page = some r ↔ r ∈ l ∧ r.a ≤ page ∧ page < r.a + r.c
  | f, [], _, page, r => by simp [findL_nil]
  | f, x :: l, h, page, r => by
    simp only [chain, Bool.and_eq_true, decide_eq_true_eq] at h
    have ih := findL_iff _ l h.2 page r
    have hok := okE_iff.1 h.1.1
    have hfr := chain_from _ l h.2
    rw [findL_cons, List.mem_cons]
    by_cases h1 : x.a + x.c ≤ page
    · rw [if_pos h1, ih]
      constructor
      · exact fun ⟨a, b⟩ => ⟨.inr a, b⟩
      · rintro ⟨rfl | a, b⟩
        · omega
        · exact ⟨a, b⟩
    · rw [if_neg h1]
      by_cases h2 : x.a ≤ page
      · rw [if_pos h2]
        constructor
        · intro e; cases e; exact ⟨.inl rfl, h2, by omega⟩
        · rintro ⟨rfl | a, b⟩
          · rfl
          · have := hfr r a; omega
      · rw [if_neg h2]
        constructor
        · intro e; cases e
        · rintro ⟨rfl | a, b⟩
          · omega
          · have := hfr r a; omega

theorem chain_weak {f g : Int} (h : g ≤ f) : ∀ {l : List Rg}, chain f l = true → chain g l = true
  | [], _ => rfl
  | x :: l, hc => by
    simp only [chain, Bool.and_eq_true, decide_eq_true_eq] at hc ⊢
    exact ⟨⟨hc.1.1, by omega⟩, hc.2⟩

theorem chain_app {t : Int} {m : List Rg} (hm : chain t m = true) : ∀ {l : List Rg} {f : Int}, chain f l = true → (∀ r ∈ l, r.a + r.c ≤ t) → f ≤ t → chain f (l ++ m) = true
  | [], f, _, _, hf => chain_weak hf hm
  | x :: l, f, hc, he, hf => by
    simp only [chain, Bool.and_eq_true, decide_eq_true_eq, List.cons_append] at hc ⊢
    exact ⟨hc.1, chain_app hm hc.2 (fun r hr => he r (List.mem_cons_of_mem _ hr)) (he x List.mem_cons_self)⟩

theorem sumC_nil : sumC [] = 0 := rfl
theorem sumC_cons (x : Rg) (l : List Rg) : sumC (x :: l) = x.c + sumC l := by simp [sumC]
theorem sumC_app (l m : List Rg) : sumC (l ++ m) = sumC l + sumC m := by simp [sumC]
theorem sumC_kept : ∀ l : List Rg, sumC (kept l) = sumC l
  | [] => rfl
  | x :: l => by
    have ih := sumC_kept l
    unfold kept at ih ⊢
    rw [List.filter_cons]
    by_cases h : x.c = 0
    · rw [if_neg (by simp [h]), ih, sumC_cons, h]; omega
    · rw [if_pos (by simp [h]), sumC_cons, sumC_cons, ih]
theorem kept_mem {l : List Rg} {r : Rg} : r ∈ kept l ↔ r ∈ l ∧ r.c ≠ 0 := by simp [kept]
theorem kept_cons0 {x : Rg} {l : List Rg} (h : x.c = 0) : kept (x :: l) = kept l := by unfold kept; rw [List.filter_cons, if_neg (by simp [h])]
theorem kept_cons1 {x : Rg} {l : List Rg} (h : x.c ≠ 0) : kept (x :: l) = x :: kept l := by unfold kept; rw [List.filter_cons, if_pos (by simp [h])]
theorem kept_nil' : kept [] = [] := rfl

/-- where the cuts lie -/
theorem cuts {r : Rg} {first c : Int} (h1 : 1 ≤ r.c) (hc : 1 ≤ c) : r.a ≤ pA r first ∧ pA r first ≤ pB r first (first + c) ∧ pB r first (first + c) ≤ r.a + r.c ∧
    (r.a < pA r first → pA r first ≤ first) ∧ (pA r first < pB r first (first + c) → first ≤ pA r first ∧ pB r first (first + c) ≤ first + c) ∧ (pB r first (first + c) < r.a + r.c → first + c ≤ pB r first (first + c)) := by
  have hA : pA r first = if r.a + r.c < (if r.a > first then r.a else first) then r.a + r.c else if r.a > first then r.a else first := rfl
  have hB : pB r first (first + c) = if pA r first > (if r.a + r.c < first + c then r.a + r.c else first + c) then pA r first else if r.a + r.c < first + c then r.a + r.c else first + c := rfl
  generalize pA r first = A at *
  generalize pB r first (first + c) = B at *
  generalize r.a = a at *
  generalize r.c = n at *
  split at hA <;> split at hA <;> split at hB <;> split at hB <;> omega

theorem cutP_chain {r : Rg} {first c : Int} {w : Bool} (hr : okE r.a r.c = true) (hc : 1 ≤ c) : chain r.a (cutP first c w r) = true ∧ ∀ s ∈ cutP first c w r, s.a + s.c ≤ r.a + r.c := by
  have ho := okE_iff.1 hr
  obtain ⟨k1, k2, k3, k4, k5, k6⟩ := cuts (r := r) (first := first) ho.1 hc
  constructor
  · unfold cutP kept pAhead pIn pRest
    simp only [List.filter_cons, List.filter_nil]
    generalize pA r first = A at *
    generalize pB r first (first + c) = B at *
    by_cases e1 : A - r.a = 0 <;> by_cases e2 : B - A = 0 <;> by_cases e3 : r.a + r.c - B = 0 <;> simp [e1, e2, e3, chain, okE] <;> omega
  · intro s hs
    obtain ⟨hs, h0⟩ := kept_mem.1 hs
    simp only [List.mem_cons, List.not_mem_nil, or_false] at hs
    rcases hs with rfl | rfl | rfl <;> simp only [pAhead, pIn, pRest] at * <;> omega

theorem cutP_sum (r : Rg) (first c : Int) (w : Bool) : sumC (cutP first c w r) = r.c := by
  unfold cutP
  rw [sumC_kept]
  simp only [sumC_cons, sumC_nil, pAhead, pIn, pRest]
  omega

theorem cutP_at {r : Rg} {first c : Int} {w : Bool} (hr : 1 ≤ r.c) (hc : 1 ≤ c) (page : Int) (b : Bool) :
    (∃ s ∈ cutP first c w r, s.a ≤ page ∧ page < s.a + s.c ∧ s.w = b) ↔ r.a ≤ page ∧ page < r.a + r.c ∧ b = if first ≤ page ∧ page < first + c then w else r.w := by
  obtain ⟨k1, k2, k3, k4, k5, k6⟩ := cuts (r := r) (first := first) hr hc
  constructor
  · rintro ⟨s, hs, h1, h2, rfl⟩
    obtain ⟨hs, h0⟩ := kept_mem.1 hs
    simp only [List.mem_cons, List.not_mem_nil, or_false] at hs
    rcases hs with rfl | rfl | rfl <;> simp only [pAhead, pIn, pRest] at *
    · refine ⟨h1, by omega, ?_⟩; rw [if_neg (by omega)]
    · refine ⟨by omega, by omega, ?_⟩; rw [if_pos (by omega)]
    · refine ⟨by omega, by omega, ?_⟩; rw [if_neg (by omega)]
  · rintro ⟨h1, h2, rfl⟩
    by_cases hA : page < pA r first
    · refine ⟨pAhead r first (first + c), kept_mem.2 ⟨by simp, ?_⟩, h1, ?_, ?_⟩
      · simp only [pAhead]; omega
      · simp only [pAhead]; omega
      · rw [if_neg (by omega)]; rfl
    · by_cases hB : page < pB r first (first + c)
      · refine ⟨{ pIn r first (first + c) with w := w }, kept_mem.2 ⟨by simp, ?_⟩, ?_, ?_, ?_⟩
        · simp only [pIn]; omega
        · simp only [pIn]; omega
        · simp only [pIn]; omega
        · rw [if_pos (by omega)]
      · refine ⟨pRest r first (first + c), kept_mem.2 ⟨by simp, ?_⟩, ?_, ?_, ?_⟩
        · simp only [pRest]; omega
        · simp only [pRest]; omega
        · simp only [pRest]; omega
        · rw [if_neg (by omega)]; rfl

theorem flat_chain {first c : Int} {w : Bool} (hc : 1 ≤ c) : ∀ {l : List Rg} {f : Int}, chain f l = true → chain f (l.flatMap (cutP first c w)) = true
  | [], _, _ => rfl
  | x :: l, f, h => by
    simp only [chain, Bool.and_eq_true, decide_eq_true_eq] at h
    obtain ⟨h1, h2⟩ := cutP_chain (first := first) (w := w) h.1.1 hc
    have := okE_iff.1 h.1.1
    rw [List.flatMap_cons]
    exact chain_app (flat_chain hc h.2) (chain_weak h.1.2 h1) h2 (by omega)

theorem flat_sum {first c : Int} {w : Bool} : ∀ l : List Rg, sumC (l.flatMap (cutP first c w)) = sumC l
  | [] => rfl
  | x :: l => by rw [List.flatMap_cons, sumC_app, cutP_sum, flat_sum l, sumC_cons]

/-- a page's right -/
def right (l : List Rg) (page : Int) : Option Bool := (findL l page).map (·.w)
theorem right_iff {f : Int} {l : List Rg} (h : chain f l = true) (page : Int) (b : Bool) : right l page = some b ↔ ∃ r ∈ l, r.a ≤ page ∧ page < r.a + r.c ∧ r.w = b := by
  unfold right
  rw [Option.map_eq_some_iff]
  constructor
  · rintro ⟨r, hr, rfl⟩
    obtain ⟨a, b, c⟩ := (findL_iff f l h page r).1 hr
    exact ⟨r, a, b, c, rfl⟩
  · rintro ⟨r, a, b, c, rfl⟩
    exact ⟨r, (findL_iff f l h page r).2 ⟨a, b, c⟩, rfl⟩

theorem right_flat {f first c : Int} {w : Bool} {l : List Rg} (h : chain f l = true) (hc : 1 ≤ c) (page : Int) :
    right (l.flatMap (cutP first c w)) page = (right l page).map fun b => if first ≤ page ∧ page < first + c then w else b := by
  have h' := flat_chain (first := first) (w := w) hc h
  have key : ∀ b, right (l.flatMap (cutP first c w)) page = some b ↔ ((right l page).map fun b => if first ≤ page ∧ page < first + c then w else b) = some b := by
    intro b
    rw [right_iff h', Option.map_eq_some_iff]
    constructor
    · rintro ⟨s, hs, h1, h2, h3⟩
      obtain ⟨r, hr, hs⟩ := List.mem_flatMap.1 hs
      obtain ⟨g1, g2, g3⟩ := (cutP_at (okE_iff.1 (chain_all f l h r hr)).1 hc page b).1 ⟨s, hs, h1, h2, h3⟩
      exact ⟨r.w, (right_iff h page r.w).2 ⟨r, hr, g1, g2, rfl⟩, g3.symm⟩
    · rintro ⟨b', h1, h2⟩
      obtain ⟨r, hr, g1, g2, rfl⟩ := (right_iff h page b').1 h1
      obtain ⟨s, hs, q1, q2, q3⟩ := (cutP_at (okE_iff.1 (chain_all f l h r hr)).1 hc page b).2 ⟨g1, g2, h2.symm⟩
      exact ⟨s, List.mem_flatMap.2 ⟨r, hr, hs⟩, q1, q2, q3⟩
  cases e : right (l.flatMap (cutP first c w)) page with
  | some b => exact ((key b).1 e).symm
  | none =>
    cases e' : (right l page).map fun b => if first ≤ page ∧ page < first + c then w else b with
    | none => rfl
    | some b => rw [(key b).2 e'] at e; cases e

/-- a piece is not cut again -/
theorem cutP_one {r s : Rg} {first c : Int} {w w' : Bool} (hr : 1 ≤ r.c) (hc : 1 ≤ c) (hs : s ∈ cutP first c w r) : (cutP first c w' s).length = 1 := by
  obtain ⟨k1, k2, k3, k4, k5, k6⟩ := cuts (r := r) (first := first) hr hc
  obtain ⟨hs, h0⟩ := kept_mem.1 hs
  have hs1 : 1 ≤ s.c ∧ (s.a + s.c ≤ first ∨ (first ≤ s.a ∧ s.a + s.c ≤ first + c) ∨ first + c ≤ s.a) := by
    simp only [List.mem_cons, List.not_mem_nil, or_false] at hs
    rcases hs with rfl | rfl | rfl <;> simp only [pAhead, pIn, pRest] at * <;> omega
  obtain ⟨q1, q2, q3, q4, q5, q6⟩ := cuts (r := s) (first := first) hs1.1 hc
  have hd : (pA s first = s.a + s.c ∧ pB s first (first + c) = s.a + s.c) ∨ (pA s first = s.a ∧ pB s first (first + c) = s.a + s.c) ∨ (pA s first = s.a ∧ pB s first (first + c) = s.a) := by
    obtain ⟨h1, h2⟩ := hs1
    rcases h2 with h2 | h2 | h2 <;> omega
  have hs1 := hs1.1
  unfold cutP
  rcases hd with ⟨e1, e2⟩ | ⟨e1, e2⟩ | ⟨e1, e2⟩
  · rw [kept_cons1 (by simp only [pAhead]; omega), kept_cons0 (by simp only [pIn]; omega), kept_cons0 (by simp only [pRest]; omega)]; rfl
  · rw [kept_cons0 (by simp only [pAhead]; omega), kept_cons1 (by simp only [pIn]; omega), kept_cons0 (by simp only [pRest]; omega)]; rfl
  · rw [kept_cons0 (by simp only [pAhead]; omega), kept_cons0 (by simp only [pIn]; omega), kept_cons1 (by simp only [pRest]; omega)]; rfl

theorem flat_len1 {pc : Rg → List Rg} : ∀ {l : List Rg}, (∀ s ∈ l, (pc s).length = 1) → (l.flatMap pc).length = l.length
  | [], _ => rfl
  | x :: l, h => by
    rw [List.flatMap_cons, List.length_append, h x List.mem_cons_self, flat_len1 fun s hs => h s (List.mem_cons_of_mem _ hs), List.length_cons]; omega

theorem chg_zero {l a : List Rg} {first c : Int} {pc : Rg → List Rg} (h : chg l first c pc = (0, a)) : valid l = true ∧ wholeL l first c = true ∧ (l.flatMap pc).length ≤ 8 ∧ a = l.flatMap pc := by
  unfold chg at h
  split at h
  · split at h
    · split at h
      · exact ⟨‹_›, ‹_›, ‹_›, by cases h; rfl⟩
      · cases h
    · cases h
  · cases h
theorem chg_of {l : List Rg} {first c : Int} {pc : Rg → List Rg} (h1 : valid l = true) (h2 : wholeL l first c = true) (h3 : (l.flatMap pc).length ≤ 8) : chg l first c pc = (0, l.flatMap pc) := by
  unfold chg; rw [if_pos h1, if_pos h2, if_pos h3]

theorem right_some (l : List Rg) (page : Int) : (right l page).isSome = (findL l page).isSome := by simp [right]

/-- PROTECT, AND THE OTHER ONE BEHIND IT -/
theorem prot_law {l a : List Rg} {first c page : Int} {w : Bool} (h : chg l first c (cutP first c w) = (0, a)) :
    chg a first c (cutP first c (!w)) = (0, a.flatMap (cutP first c (!w))) ∧ (findV a page).isSome = (findV l page).isSome ∧ (findV (a.flatMap (cutP first c (!w))) page).isSome = (findV l page).isSome ∧
    (∀ r s, findV l page = some r → findV a page = some s → ¬ (first ≤ page ∧ page < first + c) → s.w = r.w) ∧
    (∀ r s, findV l page = some r → findV (a.flatMap (cutP first c (!w))) page = some s → s.w = if first ≤ page ∧ page < first + c then !w else r.w) ∧ 1 ≤ c ∧ c ≤ 34359738368 ∧ first + c ≤ 34359738368 ∧
    valid a = true ∧ valid (a.flatMap (cutP first c (!w))) = true := by
  obtain ⟨hv, hw, hl, rfl⟩ := chg_zero h
  have hoo : 1 ≤ c ∧ c ≤ 34359738368 ∧ first + c ≤ 34359738368 := by
    unfold wholeL at hw
    simp only [Bool.and_eq_true] at hw
    exact okE_iff.1 hw.1.1
  have hc := hoo.1
  have hch := valid_chain hv
  have hch' := flat_chain (first := first) (w := w) hc hch
  have hch2 := flat_chain (first := first) (w := !w) hc hch'
  have hva : valid (l.flatMap (cutP first c w)) = true := valid_of hl hch' (by rw [flat_sum]; exact valid_sum hv)
  have hlb : ((l.flatMap (cutP first c w)).flatMap (cutP first c (!w))).length ≤ 8 := by
    rw [flat_len1 (fun s hs => ?_)]
    · exact hl
    · obtain ⟨r, hr, hs⟩ := List.mem_flatMap.1 hs
      exact cutP_one (okE_iff.1 (chain_all _ l hch r hr)).1 hc hs
  have hvb : valid ((l.flatMap (cutP first c w)).flatMap (cutP first c (!w))) = true := valid_of hlb hch2 (by rw [flat_sum, flat_sum]; exact valid_sum hv)
  have fa : ∀ p, findV (l.flatMap (cutP first c w)) p = findL (l.flatMap (cutP first c w)) p := fun p => by unfold findV; rw [if_pos hva]
  have fb : ∀ p, findV ((l.flatMap (cutP first c w)).flatMap (cutP first c (!w))) p = findL ((l.flatMap (cutP first c w)).flatMap (cutP first c (!w))) p := fun p => by unfold findV; rw [if_pos hvb]
  have fl : ∀ p, findV l p = findL l p := fun p => by unfold findV; rw [if_pos hv]
  have ra := fun p => right_flat (first := first) (w := w) hch hc p
  have rb := fun p => right_flat (first := first) (w := !w) hch' hc p
  have sa : ∀ p, (findV (l.flatMap (cutP first c w)) p).isSome = (findV l p).isSome := fun p => by
    rw [fa, fl, ← right_some, ra, ← right_some, Option.isSome_map]
  refine ⟨chg_of hva ?_ hlb, sa page, ?_, ?_, ?_, hoo.1, hoo.2.1, hoo.2.2, hva, hvb⟩
  · unfold wholeL at hw ⊢
    simp only [sa]
    exact hw
  · rw [fb, fl, ← right_some, rb, Option.isSome_map, ra, Option.isSome_map, right_some]
  · intro r s hr hs hn
    rw [fl] at hr
    rw [fa] at hs
    have h1 : right l page = some r.w := by unfold right; rw [hr]; rfl
    have h2 : right (l.flatMap (cutP first c w)) page = some s.w := by unfold right; rw [hs]; rfl
    rw [ra, h1] at h2
    simp only [Option.map_some, if_neg hn, Option.some.injEq] at h2
    exact h2.symm
  · intro r s hr hs
    rw [fl] at hr
    rw [fb] at hs
    have h1 : right l page = some r.w := by unfold right; rw [hr]; rfl
    have h2 : right ((l.flatMap (cutP first c w)).flatMap (cutP first c (!w))) page = some s.w := by unfold right; rw [hs]; rfl
    rw [rb, ra, h1] at h2
    simp only [Option.map_some, Option.some.injEq] at h2
    rw [← h2]
    split <;> rfl

/-- does a region stand where another one would go? -/
def hits (l : List Rg) (r : Rg) : Bool :=
  match l[placeN l r.a]? with
  | some s => decide (s.a < r.a + r.c)
  | none => false
/-- what Map comes to: the error, the regions -/
def mapE (l : List Rg) (r : Rg) : Int × List Rg :=
  if valid l then if okE r.a r.c then if hits l r then (190, []) else
    if sumC l + r.c > 16 ∨ (l.length : Int) + 1 > 8 then (20, []) else (0, l.take (placeN l r.a) ++ r :: l.drop (placeN l r.a)) else (190, []) else (2, [])

theorem place_split : ∀ (f : Int) (l : List Rg), chain f l = true → ∀ (page : Int), (∀ s ∈ l.take (placeN l page), s.a + s.c ≤ page) ∧ (∀ s, l[placeN l page]? = some s → page < s.a + s.c)
  | f, [], _, page => by simp
  | f, x :: l, h, page => by
    simp only [chain, Bool.and_eq_true, decide_eq_true_eq] at h
    obtain ⟨h1, h2⟩ := place_split _ l h.2 page
    unfold placeN at h1 h2 ⊢
    rw [List.takeWhile_cons]
    by_cases hx : x.a + x.c ≤ page
    · rw [if_pos (by simpa using hx)]
      refine ⟨fun s hs => ?_, fun s hs => h2 s (by simpa using hs)⟩
      simp only [List.length_cons, List.take_succ_cons, List.mem_cons] at hs
      rcases hs with rfl | hs
      · exact hx
      · exact h1 s hs
    · rw [if_neg (by simpa using hx)]
      refine ⟨fun s hs => by simp at hs, fun s hs => ?_⟩
      simp at hs
      subst hs
      omega

theorem chain_parts : ∀ {f : Int} {l m : List Rg}, chain f (l ++ m) = true → chain f l = true ∧ ∃ g, f ≤ g ∧ chain g m = true
  | f, [], m, h => ⟨rfl, f, Int.le_refl _, h⟩
  | f, x :: l, m, h => by
    simp only [List.cons_append, chain, Bool.and_eq_true, decide_eq_true_eq] at h ⊢
    obtain ⟨h1, g, h2, h3⟩ := chain_parts h.2
    have := okE_iff.1 h.1.1
    exact ⟨⟨h.1, h1⟩, g, by omega, h3⟩

theorem chain_head {g t : Int} : ∀ {m : List Rg}, chain g m = true → (∀ s, m[0]? = some s → t ≤ s.a) → chain t m = true
  | [], _, _ => rfl
  | x :: m, h, ht => by
    simp only [chain, Bool.and_eq_true, decide_eq_true_eq] at h ⊢
    exact ⟨⟨h.1.1, ht x rfl⟩, h.2⟩

theorem flat_same {pc : Rg → List Rg} : ∀ {l : List Rg}, (∀ s ∈ l, pc s = [s]) → l.flatMap pc = l
  | [], _ => rfl
  | x :: l, h => by rw [List.flatMap_cons, h x List.mem_cons_self, flat_same fun s hs => h s (List.mem_cons_of_mem _ hs)]; rfl

theorem rg_eta {r s : Rg} (h1 : r.a = s.a) (h2 : r.c = s.c) (h3 : r.w = s.w) : r = s := by cases r; cases s; simp_all

theorem cutU_out {r : Rg} {first c : Int} (hr : 1 ≤ r.c) (hc : 1 ≤ c) (h : r.a + r.c ≤ first ∨ first + c ≤ r.a) : cutU first c r = [r] := by
  obtain ⟨k1, k2, k3, k4, k5, k6⟩ := cuts (r := r) (first := first) hr hc
  unfold cutU
  rcases h with h | h
  · rw [kept_cons1 (by simp only [pAhead]; omega), kept_cons0 (by simp only [pRest]; omega), kept_nil']
    congr 1
    exact rg_eta rfl (by simp only [pAhead]; omega) rfl
  · rw [kept_cons0 (by simp only [pAhead]; omega), kept_cons1 (by simp only [pRest]; omega), kept_nil']
    congr 1
    exact rg_eta (by simp only [pRest]; omega) (by simp only [pRest]; omega) rfl
theorem cutU_in {r : Rg} {first c : Int} (hr : 1 ≤ r.c) (hc : 1 ≤ c) (h1 : first ≤ r.a) (h2 : r.a + r.c ≤ first + c) : cutU first c r = [] := by
  obtain ⟨k1, k2, k3, k4, k5, k6⟩ := cuts (r := r) (first := first) hr hc
  unfold cutU
  rw [kept_cons0 (by simp only [pAhead]; omega), kept_cons0 (by simp only [pRest]; omega), kept_nil']

theorem mapE_zero {l a : List Rg} {r : Rg} (h : mapE l r = (0, a)) : valid l = true ∧ okE r.a r.c = true ∧ (∀ s, l[placeN l r.a]? = some s → r.a + r.c ≤ s.a) ∧ sumC l + r.c ≤ 16 ∧ l.length + 1 ≤ 8 ∧
    a = l.take (placeN l r.a) ++ r :: l.drop (placeN l r.a) := by
  unfold mapE at h
  split at h
  · split at h
    · split at h
      · cases h
      · rename_i h1 h2 h3
        split at h
        · cases h
        · rename_i h4
          refine ⟨h1, h2, fun s hs => ?_, by omega, by omega, by cases h; rfl⟩
          unfold hits at h3
          rw [hs] at h3
          simp at h3
          exact h3
    · cases h
  · cases h

/-- WHAT WAS MAPPED MAY BE UNMAPPED, AND ALL IS AS IT WAS -/
theorem map_law {l a : List Rg} {r : Rg} (h0 : 0 ≤ r.a) (h : mapE l r = (0, a)) : chg a r.a r.c (cutU r.a r.c) = (0, l) := by
  obtain ⟨hv, hok, hnext, hsum, hlen, rfl⟩ := mapE_zero h
  have hch := valid_chain hv
  have ho := okE_iff.1 hok
  obtain ⟨hpre, hhead⟩ := place_split 0 l hch r.a
  generalize placeN l r.a = k at *
  have hsp : l.take k ++ l.drop k = l := List.take_append_drop k l
  obtain ⟨c1, g, hg, c2⟩ := chain_parts (l := l.take k) (m := l.drop k) (by rw [hsp]; exact hch)
  have c3 : chain (r.a + r.c) (l.drop k) = true := chain_head c2 fun s hs => hnext s (by simpa using hs)
  have c4 : chain r.a (r :: l.drop k) = true := by
    simp only [chain, Bool.and_eq_true, decide_eq_true_eq]
    exact ⟨⟨hok, Int.le_refl _⟩, c3⟩
  have hcha : chain 0 (l.take k ++ r :: l.drop k) = true := chain_app c4 c1 hpre h0
  have hs : sumC (l.take k ++ r :: l.drop k) = sumC l + r.c := by
    have := sumC_app (l.take k) (l.drop k)
    rw [hsp] at this
    rw [sumC_app, sumC_cons, this]; omega
  have hl : (l.take k ++ r :: l.drop k).length = l.length + 1 := by
    have := congrArg List.length hsp
    simp only [List.length_append, List.length_cons] at this ⊢
    omega
  have hva : valid (l.take k ++ r :: l.drop k) = true := valid_of (by omega) hcha (by omega)
  have hsl : 0 ≤ sumC l := by
    have : ∀ (m : List Rg), (∀ x ∈ m, 1 ≤ x.c) → 0 ≤ sumC m := by
      intro m
      induction m with
      | nil => intro _; simp [sumC]
      | cons x m ih => intro hm; rw [sumC_cons]; have := ih fun y hy => hm y (List.mem_cons_of_mem _ hy); have := hm x List.mem_cons_self; omega
    exact this l fun x hx => (okE_iff.1 (chain_all _ l hch x hx)).1
  have hw : wholeL (l.take k ++ r :: l.drop k) r.a r.c = true := by
    unfold wholeL
    simp only [Bool.and_eq_true, decide_eq_true_eq, List.all_eq_true, List.mem_range]
    refine ⟨⟨hok, by omega⟩, fun i hi => ?_⟩
    unfold findV
    rw [if_pos hva, (findL_iff 0 _ hcha (r.a + i) r).2 ⟨by simp, by omega, by omega⟩]
    rfl
  have hf : (l.take k ++ r :: l.drop k).flatMap (cutU r.a r.c) = l := by
    rw [List.flatMap_append, List.flatMap_cons, cutU_in ho.1 ho.1 (Int.le_refl _) (Int.le_refl _),
      flat_same fun s hs => cutU_out (okE_iff.1 (chain_all _ l hch s (List.mem_of_mem_take hs))).1 ho.1 (.inl (hpre s hs)),
      flat_same fun s hs => cutU_out (okE_iff.1 (chain_all _ l hch s (List.mem_of_mem_drop hs))).1 ho.1 (.inr (chain_from _ _ c3 s hs)), List.nil_append, hsp]
  rw [chg_of hva hw (by rw [hf]; omega), hf]
theorem valid_ok {l : List Rg} (h : valid l = true) : ∀ r ∈ l, r.ok := fun r hr => by
  have h1 := okE_iff.1 (chain_all 0 l (valid_chain h) r hr)
  have h2 := chain_from 0 l (valid_chain h) r hr
  exact ⟨h2, by omega, by omega, by omega⟩
end Go.Proofs.YthdoelcgdgcncaaGreatDoor
