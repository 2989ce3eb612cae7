
/- Files and changes by their paths, in plain Lean: what a batch makes of files, what makes files of others, and parts some of whose files are dead. No program. -/
import Derived.Test.YtmnehdpclnhmbaaFi
namespace Go.Proofs.Ytmnehdpclnhmbaa
open Go.RowKit Sx

abbrev Pa := List UInt8

def RisK {α : Type} (l : List (Pa × α)) : Prop := l.Pairwise fun a b => a.1 < b.1
theorem pa_irr (a : Pa) : ¬ a < a := List.lt_irrefl a
theorem pa_tr {a b c : Pa} (h : a < b) (k : b < c) : a < c := List.lt_trans h k
theorem pa_tri {a b : Pa} (h : ¬ a < b) (h2 : a ≠ b) : b < a := by
  rcases Std.lt_trichotomy a b with h1 | h1 | h1
  · exact absurd h1 h
  · exact absurd h1 h2
  · exact h1
theorem ris_ext {α : Type} : ∀ {l m : List (Pa × α)}, RisK l → RisK m → (∀ x, x ∈ l ↔ x ∈ m) → l = m
  | [], [], _, _, _ => rfl
  | [], b :: m, _, _, h => absurd ((h b).2 (by simp)) (by simp)
  | a :: l, [], _, _, h => absurd ((h a).1 (by simp)) (by simp)
  | a :: l, b :: m, hl, hm, h => by
    obtain ⟨ha, hl'⟩ := List.pairwise_cons.1 hl
    obtain ⟨hb, hm'⟩ := List.pairwise_cons.1 hm
    have hab : a = b := by
      rcases List.mem_cons.1 ((h a).1 (by simp)) with e | e
      · exact e
      · rcases List.mem_cons.1 ((h b).2 (by simp)) with e' | e'
        · exact e'.symm
        · exact absurd (pa_tr (ha b e') (hb a e)) (pa_irr _)
    subst hab
    congr 1
    refine ris_ext hl' hm' fun x => ⟨fun hx => ?_, fun hx => ?_⟩
    · rcases List.mem_cons.1 ((h x).1 (List.mem_cons_of_mem _ hx)) with e | e
      · subst e; exact absurd (ha _ hx) (pa_irr _)
      · exact e
    · rcases List.mem_cons.1 ((h x).2 (List.mem_cons_of_mem _ hx)) with e | e
      · subst e; exact absurd (hb _ hx) (pa_irr _)
      · exact e
/-- A pair more, in its place. -/
def insP {α : Type} : List (Pa × α) → Pa × α → List (Pa × α)
  | [], x => [x]
  | y :: l, x => if y.1 < x.1 then y :: insP l x else x :: y :: l
theorem mem_insP {α : Type} {x y : Pa × α} : ∀ {l : List (Pa × α)}, y ∈ insP l x ↔ y = x ∨ y ∈ l
  | [] => by simp [insP]
  | z :: l => by
    unfold insP
    split
    · rw [List.mem_cons, mem_insP, List.mem_cons]
      constructor
      · rintro (h | h | h)
        · exact .inr (.inl h)
        · exact .inl h
        · exact .inr (.inr h)
      · rintro (h | h | h)
        · exact .inr (.inl h)
        · exact .inl h
        · exact .inr (.inr h)
    · simp
theorem ris_insP {α : Type} {x : Pa × α} : ∀ {l : List (Pa × α)}, RisK l → (∀ y ∈ l, y.1 ≠ x.1) → RisK (insP l x)
  | [], _, _ => by simp [insP, RisK]
  | z :: l, hl, h => by
    obtain ⟨hz, hl'⟩ := List.pairwise_cons.1 hl
    unfold insP
    split
    · rename_i c
      refine List.pairwise_cons.2 ⟨fun y hy => ?_, ris_insP hl' fun y hy => h y (List.mem_cons_of_mem _ hy)⟩
      rcases mem_insP.1 hy with rfl | hy
      · exact c
      · exact hz y hy
    · rename_i c
      have c' := pa_tri c (h z (by simp))
      refine List.pairwise_cons.2 ⟨fun y hy => ?_, hl⟩
      rcases List.mem_cons.1 hy with rfl | hy
      · exact c'
      · exact pa_tr c' (hz y hy)
theorem mem_foldP {α : Type} {y : Pa × α} : ∀ {l m : List (Pa × α)}, y ∈ l.foldl insP m ↔ y ∈ l ∨ y ∈ m
  | [], m => by simp
  | x :: l, m => by
    rw [List.foldl_cons, mem_foldP, mem_insP, List.mem_cons]
    constructor
    · rintro (h | h | h)
      · exact .inl (.inr h)
      · exact .inl (.inl h)
      · exact .inr h
    · rintro ((h | h) | h)
      · exact .inr (.inl h)
      · exact .inl h
      · exact .inr (.inr h)
theorem ris_foldP {α : Type} : ∀ {l m : List (Pa × α)}, RisK m → (l.map (·.1)).Nodup → (∀ x ∈ l, ∀ y ∈ m, y.1 ≠ x.1) → RisK (l.foldl insP m)
  | [], m, hm, _, _ => hm
  | x :: l, m, hm, hn, h => by
    rw [List.map_cons, List.nodup_cons] at hn
    rw [List.foldl_cons]
    refine ris_foldP (ris_insP hm fun y hy => h x (by simp) y hy) hn.2 fun z hz y hy => ?_
    rcases mem_insP.1 hy with rfl | hy
    · intro e
      exact hn.1 (List.mem_map.2 ⟨z, hz, e.symm⟩)
    · exact h z (List.mem_cons_of_mem _ hz) y hy
theorem len_insP {α : Type} {x : Pa × α} : ∀ {l : List (Pa × α)}, (insP l x).length = l.length + 1
  | [] => rfl
  | y :: l => by
    unfold insP
    split
    · rw [List.length_cons, len_insP, List.length_cons]
    · rfl
theorem len_foldP {α : Type} : ∀ {l m : List (Pa × α)}, (l.foldl insP m).length = l.length + m.length
  | [], m => by simp
  | x :: l, m => by rw [List.foldl_cons, len_foldP, len_insP, List.length_cons]; omega
theorem ris_nodup {α : Type} {l : List (Pa × α)} (h : RisK l) : (l.map (·.1)).Nodup := by
  rw [List.Nodup, List.pairwise_map]
  exact h.imp fun {a b} h => fun e : a.1 = b.1 => pa_irr b.1 (e ▸ h)
theorem ris_key {α : Type} : ∀ {l : List (Pa × α)}, RisK l → ∀ {x y : Pa × α}, x ∈ l → y ∈ l → x.1 = y.1 → x = y
  | [], _, _, _, h, _, _ => absurd h (by simp)
  | z :: l, hl, x, y, hx, hy, e => by
    obtain ⟨hz, hl'⟩ := List.pairwise_cons.1 hl
    rcases List.mem_cons.1 hx with e1 | h1
    · rcases List.mem_cons.1 hy with e2 | h2
      · rw [e1, e2]
      · have := hz y h2
        rw [← e, e1] at this
        exact absurd this (pa_irr _)
    · rcases List.mem_cons.1 hy with e2 | h2
      · have := hz x h1
        rw [e, e2] at this
        exact absurd this (pa_irr _)
      · exact ris_key hl' h1 h2 e

/-! Batches. -/
abbrev KeyM := List UInt8 × List UInt8
abbrev ChK := Pa × (Bool × List UInt8)
def hasP {α : Type} (l : List (Pa × α)) (p : Pa) : Bool := l.any fun x => decide (x.1 = p)
theorem hasP_iff {α : Type} {l : List (Pa × α)} {p : Pa} : hasP l p = true ↔ ∃ x ∈ l, x.1 = p := by
  unfold hasP; simp only [List.any_eq_true, decide_eq_true_eq]
theorem hasP_not {α : Type} {l : List (Pa × α)} {p : Pa} : hasP l p = false ↔ ∀ x ∈ l, x.1 ≠ p := by
  rw [← Bool.not_eq_true, hasP_iff]
  constructor
  · exact fun h x hx e => h ⟨x, hx, e⟩
  · rintro h ⟨x, hx, e⟩; exact h x hx e
def putsK (l : List ChK) : List KeyM := l.filterMap fun c => if c.2.1 then none else some (c.1, c.2.2)
theorem mem_puts {l : List ChK} {x : KeyM} : x ∈ putsK l ↔ (x.1, (false, x.2)) ∈ l := by
  unfold putsK
  rw [List.mem_filterMap]
  constructor
  · rintro ⟨⟨p, t, d⟩, hc, e⟩
    cases t
    · simp only [Bool.false_eq_true, if_false, Option.some.injEq] at e
      subst e; exact hc
    · simp at e
  · intro h
    exact ⟨_, h, by simp⟩
theorem puts_nodup {l : List ChK} (h : RisK l) : RisK (putsK l) := by
  unfold RisK putsK
  refine List.Pairwise.filterMap (R := fun (a b : ChK) => a.1 < b.1) _ (fun a b hab x hx y hy => ?_) h
  split at hx
  · cases hx
  · split at hy
    · cases hy
    · simp only [Option.some.injEq] at hx hy
      subst hx; subst hy; exact hab
/-- Files behind a batch, as they are merged. -/
def behindK : List KeyM → List ChK → List KeyM
  | fs, [] => fs
  | fs, c :: cs => fs.filter (fun f => decide (f.1 < c.1)) ++ ((if c.2.1 then [] else [(c.1, c.2.2)]) ++ behindK (fs.filter fun f => decide (c.1 < f.1)) cs)
theorem mem_behind : ∀ {l : List ChK} {fs : List KeyM} {x : KeyM}, RisK l → (x ∈ behindK fs l ↔ (x ∈ fs ∧ hasP l x.1 = false) ∨ x ∈ putsK l)
  | [], fs, x, _ => by simp [behindK, hasP, putsK]
  | c :: cs, fs, x, h => by
    obtain ⟨hc, h'⟩ := List.pairwise_cons.1 h
    unfold behindK
    rw [List.mem_append, List.mem_append, mem_behind h', List.mem_filter, List.mem_filter, decide_eq_true_eq, decide_eq_true_eq]
    have hp : x ∈ putsK (c :: cs) ↔ x ∈ (if c.2.1 then ([] : List KeyM) else [(c.1, c.2.2)]) ∨ x ∈ putsK cs := by
      unfold putsK
      rw [List.filterMap_cons]
      cases c.2.1 <;> simp
    have hh : hasP (c :: cs) x.1 = false ↔ c.1 ≠ x.1 ∧ hasP cs x.1 = false := by
      rw [hasP_not, hasP_not]; simp
    rw [hp, hh]
    constructor
    · rintro (⟨h1, h2⟩ | h | (⟨⟨h1, h2⟩, h3⟩ | h))
      · refine .inl ⟨h1, fun e => pa_irr _ (e ▸ h2), hasP_not.2 fun y hy e => ?_⟩
        exact pa_irr _ (pa_tr (e ▸ hc y hy : c.1 < x.1) h2)
      · exact .inr (.inl h)
      · exact .inl ⟨h1, fun e => pa_irr _ (e ▸ h2), h3⟩
      · exact .inr (.inr h)
    · rintro (⟨h1, h2, h3⟩ | (h | h))
      · by_cases c1 : x.1 < c.1
        · exact .inl ⟨h1, c1⟩
        · exact .inr (.inr (.inl ⟨⟨h1, pa_tri c1 (fun e => h2 e.symm)⟩, h3⟩))
      · exact .inr (.inl h)
      · exact .inr (.inr (.inr h))
theorem ris_filter {α : Type} {l : List (Pa × α)} (h : RisK l) (q : Pa × α → Bool) : RisK (l.filter q) := List.Pairwise.filter q h
theorem ris_behind : ∀ {l : List ChK} {fs : List KeyM}, RisK l → RisK fs → RisK (behindK fs l)
  | [], fs, _, h => h
  | c :: cs, fs, h, hf => by
    obtain ⟨hc, h'⟩ := List.pairwise_cons.1 h
    have hup : ∀ x ∈ behindK (fs.filter fun f => decide (c.1 < f.1)) cs, c.1 < x.1 := fun x hx => by
      rcases (mem_behind h').1 hx with ⟨h1, _⟩ | h1
      · simpa using (List.mem_filter.1 h1).2
      · exact hc _ (mem_puts.1 h1)
    unfold behindK
    refine List.pairwise_append.2 ⟨ris_filter hf _, List.pairwise_append.2 ⟨by cases c.2.1 <;> simp, ris_behind h' (ris_filter hf _), fun x hx y hy => ?_⟩, fun x hx y hy => ?_⟩
    · split at hx
      · simp at hx
      · obtain rfl := List.mem_singleton.1 hx
        exact hup y hy
    · have hxc : x.1 < c.1 := by simpa using (List.mem_filter.1 hx).2
      rcases List.mem_append.1 hy with hy | hy
      · split at hy
        · simp at hy
        · obtain rfl := List.mem_singleton.1 hy
          exact hxc
      · exact pa_tr hxc (hup y hy)
/-! What makes files of others. -/
def takeC (f : KeyM) : ChK := (f.1, (true, []))
def putC (f : KeyM) : ChK := (f.1, (false, f.2))
def diffK : List KeyM → List KeyM → List ChK
  | a, [] => a.map takeC
  | a, f :: b => (a.filter fun x => decide (x.1 < f.1)).map takeC ++ ((if f ∈ a then [] else [putC f]) ++ diffK (a.filter fun x => decide (f.1 < x.1)) b)
def inDiff (a b : List KeyM) (c : ChK) : Prop := (∃ f ∈ a, hasP b f.1 = false ∧ c = takeC f) ∨ ∃ f ∈ b, f ∉ a ∧ c = putC f
theorem mem_diff : ∀ {b a : List KeyM} {c : ChK}, RisK b → (c ∈ diffK a b ↔ inDiff a b c)
  | [], a, c, _ => by
    unfold diffK inDiff
    simp only [List.mem_map, hasP, List.any_nil, true_and, List.not_mem_nil, false_and, exists_false, or_false]
    exact ⟨fun ⟨f, h, e⟩ => ⟨f, h, e.symm⟩, fun ⟨f, h, e⟩ => ⟨f, h, e.symm⟩⟩
  | f :: b, a, c, h => by
    obtain ⟨hf, h'⟩ := List.pairwise_cons.1 h
    have hh : ∀ p, hasP (f :: b) p = false ↔ f.1 ≠ p ∧ hasP b p = false := fun p => by rw [hasP_not, hasP_not]; simp
    unfold diffK
    rw [List.mem_append, List.mem_append, mem_diff h']
    constructor
    · rintro (h1 | h1 | h1)
      · obtain ⟨x, hx, rfl⟩ := List.mem_map.1 h1
        obtain ⟨hx, h2⟩ := List.mem_filter.1 hx
        have h2 : x.1 < f.1 := by simpa using h2
        exact .inl ⟨x, hx, (hh _).2 ⟨fun e => pa_irr _ (e ▸ h2), hasP_not.2 fun y hy e => pa_irr _ (pa_tr (e ▸ hf y hy : f.1 < x.1) h2)⟩, rfl⟩
      · split at h1
        · simp at h1
        · rename_i hn
          obtain rfl := List.mem_singleton.1 h1
          exact .inr ⟨f, by simp, hn, rfl⟩
      · rcases h1 with ⟨x, hx, h2, rfl⟩ | ⟨x, hx, h2, rfl⟩
        · obtain ⟨hx, h3⟩ := List.mem_filter.1 hx
          have h3 : f.1 < x.1 := by simpa using h3
          exact .inl ⟨x, hx, (hh _).2 ⟨fun e => pa_irr _ (e ▸ h3), h2⟩, rfl⟩
        · refine .inr ⟨x, List.mem_cons_of_mem _ hx, fun h3 => h2 (List.mem_filter.2 ⟨h3, by simpa using hf x hx⟩), rfl⟩
    · rintro (⟨x, hx, h2, rfl⟩ | ⟨x, hx, h2, rfl⟩)
      · obtain ⟨h3, h4⟩ := (hh _).1 h2
        by_cases c1 : x.1 < f.1
        · exact .inl (List.mem_map.2 ⟨x, List.mem_filter.2 ⟨hx, by simpa using c1⟩, rfl⟩)
        · exact .inr (.inr (.inl ⟨x, List.mem_filter.2 ⟨hx, by simpa using pa_tri c1 fun e => h3 e.symm⟩, h4, rfl⟩))
      · rcases List.mem_cons.1 hx with rfl | hx
        · exact .inr (.inl (by rw [if_neg h2]; simp))
        · exact .inr (.inr (.inr ⟨x, hx, fun h3 => h2 (List.mem_filter.1 h3).1, rfl⟩))
theorem ris_takes {a : List KeyM} (h : RisK a) : RisK (a.map takeC) := by
  unfold RisK; rw [List.pairwise_map]; exact h
theorem ris_diff : ∀ {b a : List KeyM}, RisK b → RisK a → RisK (diffK a b)
  | [], a, _, h => ris_takes h
  | f :: b, a, h, ha => by
    obtain ⟨hf, h'⟩ := List.pairwise_cons.1 h
    have hup : ∀ c ∈ diffK (a.filter fun x => decide (f.1 < x.1)) b, f.1 < c.1 := fun c hc => by
      rcases (mem_diff h').1 hc with ⟨x, hx, _, rfl⟩ | ⟨x, hx, _, rfl⟩
      · have h3 : f.1 < x.1 := by simpa using (List.mem_filter.1 hx).2
        exact h3
      · exact hf x hx
    unfold diffK
    refine List.pairwise_append.2 ⟨ris_takes (ris_filter ha _), List.pairwise_append.2 ⟨by split <;> simp, ris_diff h' (ris_filter ha _), fun x hx y hy => ?_⟩, fun x hx y hy => ?_⟩
    · split at hx
      · simp at hx
      · obtain rfl := List.mem_singleton.1 hx
        exact hup y hy
    · obtain ⟨z, hz, rfl⟩ := List.mem_map.1 hx
      have hxc : z.1 < f.1 := by simpa using (List.mem_filter.1 hz).2
      rcases List.mem_append.1 hy with hy | hy
      · split at hy
        · simp at hy
        · obtain rfl := List.mem_singleton.1 hy
          exact hxc
      · exact pa_tr hxc (hup y hy)
/-! Parts, some of whose files are dead. -/
structure PartK where
  files : List KeyM
  dead : List Int
deriving Inhabited
def livF (d : List Int) : Nat → List KeyM → List (Nat × KeyM)
  | _, [] => []
  | k, f :: fs => if (k : Int) ∈ d then livF d (k + 1) fs else (k, f) :: livF d (k + 1) fs
def liv (p : PartK) : List KeyM := (livF p.dead 0 p.files).map (·.2)
def risI (n : Nat) : Int → List Int → Bool
  | _, [] => true
  | last, x :: xs => decide (last < x) && decide (x < n) && risI n x xs
def oneOk (p : PartK) : Bool := risI p.files.length (-1) p.dead && filesOkK p.files
def livP (ps : List PartK) : List KeyM := ps.flatMap liv
def partsOk (ps : List PartK) : Bool := ps.all oneOk && decide ((livP ps).map (·.1)).Nodup && decide ((livP ps).length ≤ 4000)
def sortK (l : List KeyM) : List KeyM := l.foldl insP []
def liveK (ps : List PartK) : List KeyM := if partsOk ps then sortK (livP ps) else []
def livesK (p : PartK) : Bool := !(liv p).isEmpty
def bigK (c : ChK) : Bool := !(pathOk c.1) || decide (1048576 < c.2.2.length) || (c.2.1 && !c.2.2.isEmpty)
def risesP : List Pa → Bool
  | [] => true
  | [_] => true
  | a :: b :: l => decide (a < b) && risesP (b :: l)
def batchOk (l : List ChK) : Bool := decide (l.length ≤ 400) && !(l.any bigK) && risesP (l.map (·.1))
/-- The files behind a batch: none where they are too many, or the batch is not right. -/
def applyK (fs : List KeyM) (l : List ChK) : Option (List KeyM) × Nat := if filesOkK fs && batchOk l then (if (behindK fs l).length ≤ 4000 then (some (behindK fs l), 0) else (none, 3)) else (none, 2)
def rowK (p : PartK) (d : List ChK) : List Int := ((List.range p.files.length).filter fun (k : Nat) => decide ((k : Int) ∈ p.dead) || hasP d (p.files.getD k default).1).map Int.ofNat
def allK (p : PartK) : List Int := (List.range p.files.length).map Int.ofNat
def manyK (ps : List PartK) (d : List ChK) : Nat := (ps.countP fun p => decide ((rowK p d).length < p.files.length)) + (if (putsK d).isEmpty then 0 else 1)
/-- What a batch makes of parts: their dead rows, fresh files, the error. -/
def planK (ps : List PartK) (l : List ChK) : Option (List (List Int) × List KeyM) × Nat :=
  if partsOk ps && batchOk l then
    match applyK (liveK ps) l with
    | (none, e) => (none, e)
    | (some b, _) => if manyK ps (diffK (liveK ps) b) ≤ 40 then (some (ps.map fun p => rowK p (diffK (liveK ps) b), putsK (diffK (liveK ps) b)), 0) else (some (ps.map allK, b), 0)
  else (none, 2)
def nextK (ps : List PartK) (rows : List (List Int)) (fresh : List KeyM) : List PartK := (ps.zip rows).map (fun x => ⟨x.1.files, x.2⟩) ++ [⟨fresh, []⟩]

theorem mem_livF {d : List Int} : ∀ {fs : List KeyM} {k j : Nat} {f : KeyM}, (j, f) ∈ livF d k fs ↔ k ≤ j ∧ fs[j - k]? = some f ∧ (j : Int) ∉ d
  | [], k, j, f => by simp [livF]
  | g :: fs, k, j, f => by
    unfold livF
    by_cases e : j = k
    · subst e
      split
      · rename_i c
        rw [mem_livF]
        exact ⟨fun ⟨h, _⟩ => absurd h (by omega), fun ⟨_, _, h⟩ => absurd c h⟩
      · rename_i c
        rw [List.mem_cons, mem_livF]
        simp only [Nat.sub_self, List.getElem?_cons_zero, Option.some.injEq, Prod.mk.injEq, true_and, Nat.le_refl]
        constructor
        · rintro (h | ⟨h, _⟩)
          · exact ⟨h.symm, c⟩
          · omega
        · exact fun h => .inl h.1.symm
    · have hs : ∀ h : k ≤ j, (g :: fs)[j - k]? = fs[j - (k + 1)]? := fun h => by
        rw [show j - k = (j - (k + 1)) + 1 by omega, List.getElem?_cons_succ]
      have hm : (j, f) ∈ livF d (k + 1) fs ↔ k ≤ j ∧ (g :: fs)[j - k]? = some f ∧ (j : Int) ∉ d := by
        rw [mem_livF]
        constructor
        · rintro ⟨h1, h2, h3⟩
          exact ⟨by omega, by rw [hs (by omega)]; exact h2, h3⟩
        · rintro ⟨h1, h2, h3⟩
          exact ⟨by omega, by rw [← hs h1]; exact h2, h3⟩
      split
      · exact hm
      · rw [List.mem_cons, ← hm, Prod.mk.injEq]
        exact ⟨fun h => h.resolve_left fun e' => e e'.1, .inr⟩
theorem mem_liv {p : PartK} {f : KeyM} : f ∈ liv p ↔ ∃ j : Nat, p.files[j]? = some f ∧ (j : Int) ∉ p.dead := by
  unfold liv
  rw [List.mem_map]
  constructor
  · rintro ⟨⟨j, g⟩, h, rfl⟩
    obtain ⟨_, h2, h3⟩ := mem_livF.1 h
    exact ⟨j, h2, h3⟩
  · rintro ⟨j, h1, h2⟩
    exact ⟨(j, f), mem_livF.2 ⟨Nat.zero_le _, h1, h2⟩, rfl⟩
theorem livF_sub (d : List Int) : ∀ (fs : List KeyM) (k : Nat), ((livF d k fs).map (·.2)).Sublist fs
  | [], _ => List.Sublist.refl _
  | f :: fs, k => by
    unfold livF
    split
    · exact (livF_sub d fs (k + 1)).cons f
    · rw [List.map_cons]; exact (livF_sub d fs (k + 1)).cons_cons f
theorem liv_sub (p : PartK) : (liv p).Sublist p.files := livF_sub _ _ _
theorem risesP_pw : ∀ {l : List Pa}, risesP l = true → l.Pairwise (· < ·)
  | [], _ => List.Pairwise.nil
  | [_], _ => by simp
  | a :: b :: l, h => by
    simp only [risesP, Bool.and_eq_true, decide_eq_true_eq] at h
    have ih := risesP_pw h.2
    refine List.pairwise_cons.2 ⟨fun x hx => ?_, ih⟩
    rcases List.mem_cons.1 hx with rfl | hx
    · exact h.1
    · exact pa_tr h.1 ((List.pairwise_cons.1 ih).1 x hx)
theorem batchOk_ris {l : List ChK} (h : batchOk l = true) : RisK l := by
  unfold batchOk at h
  simp only [Bool.and_eq_true] at h
  have := risesP_pw h.2
  rw [List.pairwise_map] at this
  exact this
theorem ordOk_pw : ∀ {l : List Pa} {last : Pa}, ordOk last l = true → (∀ p ∈ l, last < p ∧ pathOk p = true) ∧ l.Pairwise (· < ·)
  | [], _, _ => ⟨by simp, List.Pairwise.nil⟩
  | p :: l, last, h => by
    unfold ordOk at h
    simp only [Bool.and_eq_true, less_not, less_iff] at h
    obtain ⟨⟨h1, h2⟩, h3⟩ := h
    obtain ⟨ih1, ih2⟩ := ordOk_pw h3
    refine ⟨fun q hq => ?_, List.pairwise_cons.2 ⟨fun q hq => (ih1 q hq).1, ih2⟩⟩
    rcases List.mem_cons.1 hq with rfl | hq
    · exact ⟨h2, h1⟩
    · exact ⟨pa_tr h2 (ih1 q hq).1, (ih1 q hq).2⟩
theorem ordOk_of : ∀ {l : List Pa} {last : Pa}, (∀ p ∈ l, last < p ∧ pathOk p = true) → l.Pairwise (· < ·) → ordOk last l = true
  | [], _, _, _ => rfl
  | p :: l, last, h, hp => by
    obtain ⟨h1, h2⟩ := List.pairwise_cons.1 hp
    unfold ordOk
    simp only [Bool.and_eq_true, less_not, less_iff]
    exact ⟨⟨(h p (by simp)).2, (h p (by simp)).1⟩, ordOk_of (fun q hq => ⟨h1 q hq, (h q (List.mem_cons_of_mem _ hq)).2⟩) h2⟩
/-- A file that may stand in a shard. -/
def goodK (f : KeyM) : Prop := pathOk f.1 = true ∧ f.2.length ≤ 1048576
theorem pathOk_pos {p : Pa} (h : pathOk p = true) : [] < p := by
  cases p with
  | nil => exact absurd h (by decide)
  | cons a p => exact List.nil_lt_cons a p
theorem filesOkK_iff {fs : List KeyM} : filesOkK fs = true ↔ fs.length ≤ 4000 ∧ (∀ f ∈ fs, goodK f) ∧ RisK fs := by
  unfold filesOkK
  simp only [Bool.and_eq_true, decide_eq_true_eq, Bool.not_eq_true', List.any_eq_false]
  constructor
  · rintro ⟨⟨h1, h2⟩, h3⟩
    obtain ⟨h4, h5⟩ := ordOk_pw h3
    refine ⟨h1, fun f hf => ⟨(h4 f.1 (List.mem_map_of_mem hf)).2, ?_⟩, ?_⟩
    · have := h2 f hf; omega
    · have := h5; rw [List.pairwise_map] at this; exact this
  · rintro ⟨h1, h2, h3⟩
    refine ⟨⟨h1, fun f hf => ?_⟩, ordOk_of (fun p hp => ?_) ?_⟩
    · have := (h2 f hf).2; omega
    · obtain ⟨f, hf, rfl⟩ := List.mem_map.1 hp
      exact ⟨pathOk_pos (h2 f hf).1, (h2 f hf).1⟩
    · rw [List.pairwise_map]; exact h3

theorem ris_sort {l : List KeyM} (h : (l.map (·.1)).Nodup) : RisK (sortK l) := ris_foldP List.Pairwise.nil h fun x _ y hy => by simp at hy
theorem mem_sortK {l : List KeyM} {x : KeyM} : x ∈ sortK l ↔ x ∈ l := by unfold sortK; rw [mem_foldP]; simp
theorem len_sortK (l : List KeyM) : (sortK l).length = l.length := by unfold sortK; rw [len_foldP]; simp
theorem partsOk_iff {ps : List PartK} : partsOk ps = true ↔ (∀ p ∈ ps, oneOk p = true) ∧ ((livP ps).map (·.1)).Nodup ∧ (livP ps).length ≤ 4000 := by
  unfold partsOk
  simp only [Bool.and_eq_true, List.all_eq_true, decide_eq_true_eq, and_assoc]
theorem mem_livP {ps : List PartK} {x : KeyM} : x ∈ livP ps ↔ ∃ p ∈ ps, x ∈ liv p := by unfold livP; rw [List.mem_flatMap]
theorem liv_good {ps : List PartK} (h : partsOk ps = true) : ∀ x ∈ livP ps, goodK x := fun x hx => by
  obtain ⟨p, hp, hx⟩ := mem_livP.1 hx
  have h1 := (partsOk_iff.1 h).1 p hp
  unfold oneOk at h1
  rw [Bool.and_eq_true] at h1
  exact (filesOkK_iff.1 h1.2).2.1 x ((liv_sub p).subset hx)
theorem live_ok {ps : List PartK} (h : partsOk ps = true) : RisK (liveK ps) ∧ (∀ x, x ∈ liveK ps ↔ x ∈ livP ps) ∧ filesOkK (liveK ps) = true := by
  obtain ⟨h1, h2, h3⟩ := partsOk_iff.1 h
  unfold liveK
  rw [if_pos h]
  refine ⟨ris_sort h2, fun x => mem_sortK, filesOkK_iff.2 ⟨by rw [len_sortK]; exact h3, fun f hf => liv_good h f (mem_sortK.1 hf), ris_sort h2⟩⟩
theorem batch_good {l : List ChK} (h : batchOk l = true) : ∀ x ∈ putsK l, goodK x := fun x hx => by
  unfold batchOk at h
  simp only [Bool.and_eq_true, Bool.not_eq_true', List.any_eq_false] at h
  have := h.1.2 _ (mem_puts.1 hx)
  unfold bigK at this
  simp at this
  exact ⟨this.1, by omega⟩
theorem behind_ok {fs : List KeyM} {l : List ChK} (hf : filesOkK fs = true) (hl : batchOk l = true) (hn : (behindK fs l).length ≤ 4000) : filesOkK (behindK fs l) = true := by
  obtain ⟨h1, h2, h3⟩ := filesOkK_iff.1 hf
  refine filesOkK_iff.2 ⟨hn, fun f h => ?_, ris_behind (batchOk_ris hl) h3⟩
  rcases (mem_behind (batchOk_ris hl)).1 h with h | h
  · exact h2 f h.1
  · exact batch_good hl f h
/-- The files that stay, with the fresh ones, are the files behind. -/
theorem diff_mem {a b : List KeyM} (ha : RisK a) (hb : RisK b) (x : KeyM) : ((x ∈ a ∧ hasP (diffK a b) x.1 = false) ∨ x ∈ putsK (diffK a b)) ↔ x ∈ b := by
  have hd := fun c => mem_diff (a := a) (c := c) hb
  constructor
  · rintro (⟨h1, h2⟩ | h1)
    · refine Classical.byContradiction fun hn => ?_
      have h2 := hasP_not.1 h2
      cases hq : hasP b x.1 with
      | false => exact h2 (takeC x) ((hd _).2 (.inl ⟨x, h1, hq, rfl⟩)) rfl
      | true =>
        obtain ⟨y, hy, e⟩ := hasP_iff.1 hq
        exact h2 (putC y) ((hd _).2 (.inr ⟨y, hy, fun hya => hn (ris_key ha hya h1 e ▸ hy), rfl⟩)) e
    · rcases (hd _).1 (mem_puts.1 h1) with ⟨f, hf, _, e⟩ | ⟨f, hf, _, e⟩
      · cases congrArg (fun c => c.2.1) e
      · have e1 : x.1 = f.1 := congrArg (fun c => c.1) e
        have e2 : x.2 = f.2 := congrArg (fun c => c.2.2) e
        rw [show x = f from Prod.ext e1 e2]; exact hf
  · intro h
    by_cases hx : x ∈ a
    · refine .inl ⟨hx, hasP_not.2 fun c hc e => ?_⟩
      rcases (hd _).1 hc with ⟨f, hf, h1, rfl⟩ | ⟨f, hf, h1, rfl⟩
      · exact hasP_not.1 h1 x h e.symm
      · exact h1 (ris_key hb hf h e ▸ hx)
    · exact .inr (mem_puts.2 ((hd _).2 (.inr ⟨x, h, hx, rfl⟩)))
theorem puts_diff {a b : List KeyM} (ha : RisK a) (hb : RisK b) : putsK (diffK a b) = b.filter fun f => decide (f ∉ a) := by
  refine ris_ext (puts_nodup (ris_diff hb ha)) (ris_filter hb _) fun x => ?_
  rw [mem_puts, mem_diff hb, List.mem_filter, decide_eq_true_eq]
  constructor
  · rintro (⟨f, _, _, e⟩ | ⟨f, hf, h, e⟩)
    · cases congrArg (fun c => c.2.1) e
    · have e1 : x.1 = f.1 := congrArg (fun c => c.1) e
      have e2 : x.2 = f.2 := congrArg (fun c => c.2.2) e
      rw [show x = f from Prod.ext e1 e2]; exact ⟨hf, h⟩
  · exact fun ⟨h1, h2⟩ => .inr ⟨x, h1, h2, rfl⟩
theorem risI_iff {n : Nat} : ∀ {xs : List Int} {last : Int}, risI n last xs = true ↔ (∀ x ∈ xs, last < x ∧ x < n) ∧ xs.Pairwise (· < ·)
  | [], last => by simp [risI]
  | x :: xs, last => by
    unfold risI
    rw [Bool.and_eq_true, Bool.and_eq_true, decide_eq_true_eq, decide_eq_true_eq, risI_iff, List.pairwise_cons]
    constructor
    · rintro ⟨⟨h1, h2⟩, h3, h4⟩
      refine ⟨fun y hy => ?_, fun y hy => (h3 y hy).1, h4⟩
      rcases List.mem_cons.1 hy with rfl | hy
      · exact ⟨h1, h2⟩
      · have := h3 y hy; exact ⟨by omega, this.2⟩
    · rintro ⟨h1, h2, h3⟩
      exact ⟨h1 x (by simp), fun y hy => ⟨h2 y hy, (h1 y (List.mem_cons_of_mem _ hy)).2⟩, h3⟩
theorem range_ris (n : Nat) (q : Nat → Bool) : risI n (-1) (((List.range n).filter q).map Int.ofNat) = true := by
  refine risI_iff.2 ⟨fun x hx => ?_, ?_⟩
  · obtain ⟨k, hk, rfl⟩ := List.mem_map.1 hx
    have := List.mem_range.1 (List.mem_filter.1 hk).1
    constructor
    · show (-1 : Int) < (k : Int); omega
    · show (k : Int) < n; omega
  · rw [List.pairwise_map]
    refine (List.pairwise_lt_range (n := n)).filter q |>.imp fun {a b} h => ?_
    show (a : Int) < b
    omega
theorem mem_row {p : PartK} {d : List ChK} {j : Nat} : (j : Int) ∈ rowK p d ↔ j < p.files.length ∧ ((j : Int) ∈ p.dead ∨ hasP d (p.files.getD j default).1 = true) := by
  unfold rowK
  rw [List.mem_map]
  constructor
  · rintro ⟨k, hk, e⟩
    obtain rfl : k = j := by have e : (k : Int) = j := e; omega
    obtain ⟨h1, h2⟩ := List.mem_filter.1 hk
    rw [Bool.or_eq_true, decide_eq_true_eq] at h2
    exact ⟨List.mem_range.1 h1, h2⟩
  · rintro ⟨h1, h2⟩
    exact ⟨j, List.mem_filter.2 ⟨List.mem_range.2 h1, by rw [Bool.or_eq_true, decide_eq_true_eq]; exact h2⟩, rfl⟩
theorem mem_all {p : PartK} {j : Nat} : (j : Int) ∈ allK p ↔ j < p.files.length := by
  unfold allK
  rw [List.mem_map]
  constructor
  · rintro ⟨k, hk, e⟩
    obtain rfl : k = j := by have e : (k : Int) = j := e; omega
    exact List.mem_range.1 hk
  · exact fun h => ⟨j, List.mem_range.2 h, rfl⟩
theorem livF_filter {d d' : List Int} {q : KeyM → Bool} : ∀ {fs : List KeyM} {k : Nat}, (∀ (j : Nat) (f : KeyM), k ≤ j → fs[j - k]? = some f → ((j : Int) ∈ d' ↔ (j : Int) ∈ d ∨ q f = true)) → livF d' k fs = (livF d k fs).filter fun x => !q x.2
  | [], k, _ => rfl
  | f :: fs, k, h => by
    have h0 := h k f (Nat.le_refl _) (by simp)
    have ih := livF_filter (d := d) (d' := d') (q := q) (fs := fs) (k := k + 1) fun j g hj hg => h j g (by omega) (by rw [show j - k = (j - (k + 1)) + 1 by omega, List.getElem?_cons_succ]; exact hg)
    unfold livF
    by_cases c : (k : Int) ∈ d
    · rw [if_pos c, if_pos (h0.2 (.inl c)), ih]
    · rw [if_neg c]
      cases hq : q f
      · rw [if_neg fun h1 => (h0.1 h1).elim c (by rw [hq]; simp), List.filter_cons, hq, ih]; rfl
      · rw [if_pos (h0.2 (.inr hq)), List.filter_cons, hq, ih]; rfl
theorem filter_map2 (l : List (Nat × KeyM)) (q : KeyM → Bool) : (l.filter fun x => q x.2).map (·.2) = (l.map (·.2)).filter q := by
  rw [List.filter_map]; rfl
theorem liv_row (p : PartK) (d : List ChK) : liv ⟨p.files, rowK p d⟩ = (liv p).filter fun f => !hasP d f.1 := by
  unfold liv
  rw [← filter_map2 _ (fun f => !hasP d f.1)]
  congr 1
  refine livF_filter (q := fun f => hasP d f.1) fun j f _ hf => ?_
  rw [Nat.sub_zero] at hf
  have hj := (List.getElem?_eq_some_iff.1 hf).1
  rw [mem_row]
  rw [show p.files.getD j default = f by rw [List.getD_eq_getElem?_getD]; exact congrArg (·.getD default) hf]
  exact ⟨fun h => h.2, fun h => ⟨hj, h⟩⟩
theorem liv_all (p : PartK) : liv ⟨p.files, allK p⟩ = [] := by
  refine List.eq_nil_iff_forall_not_mem.2 fun f hf => ?_
  obtain ⟨j, h1, h2⟩ := mem_liv.1 hf
  exact h2 (mem_all.2 (List.getElem?_eq_some_iff.1 h1).1)
theorem livF_nil : ∀ (fs : List KeyM) (k : Nat), (livF [] k fs).map (·.2) = fs
  | [], _ => rfl
  | f :: fs, k => by
    unfold livF
    rw [if_neg (by simp), List.map_cons, livF_nil fs (k + 1)]
theorem liv_fresh (fs : List KeyM) : liv ⟨fs, []⟩ = fs := livF_nil fs 0
theorem zip_mapR {α β γ : Type} (f : α → β) (g : α × β → γ) : ∀ l : List α, (l.zip (l.map f)).map g = l.map fun a => g (a, f a)
  | [] => rfl
  | a :: l => by rw [List.map_cons, List.zip_cons_cons, List.map_cons, zip_mapR f g l, List.map_cons]
theorem next_eq (ps : List PartK) (row : PartK → List Int) (fresh : List KeyM) : nextK ps (ps.map row) fresh = ps.map (fun p => ⟨p.files, row p⟩) ++ [⟨fresh, []⟩] := by
  unfold nextK
  rw [zip_mapR]
theorem flat_filter {α β : Type} (f : α → List β) (q : β → Bool) : ∀ l : List α, (l.flatMap fun a => (f a).filter q) = (l.flatMap f).filter q
  | [] => rfl
  | a :: l => by rw [List.flatMap_cons, List.flatMap_cons, List.filter_append, flat_filter f q l]
theorem livP_rows (ps : List PartK) (d : List ChK) (fresh : List KeyM) : livP (nextK ps (ps.map fun p => rowK p d) fresh) = (livP ps).filter (fun f => !hasP d f.1) ++ fresh := by
  rw [next_eq]
  unfold livP
  rw [List.flatMap_append, List.flatMap_map]
  simp only [List.flatMap_cons, List.flatMap_nil, List.append_nil, liv_fresh, liv_row]
  rw [flat_filter]
theorem livP_alls (ps : List PartK) (fresh : List KeyM) : livP (nextK ps (ps.map allK) fresh) = fresh := by
  rw [next_eq]
  unfold livP
  rw [List.flatMap_append, List.flatMap_map]
  simp only [List.flatMap_cons, List.flatMap_nil, List.append_nil, liv_fresh, liv_all]
  rw [List.flatMap_eq_nil_iff.2 (by simp), List.nil_append]
theorem one_files {p : PartK} {row : List Int} (h : oneOk p = true) (hr : risI p.files.length (-1) row = true) : oneOk ⟨p.files, row⟩ = true := by
  unfold oneOk at h ⊢
  rw [Bool.and_eq_true] at h ⊢
  exact ⟨hr, h.2⟩
theorem one_fresh {fs : List KeyM} (h : filesOkK fs = true) : oneOk ⟨fs, []⟩ = true := by
  unfold oneOk
  rw [h]; rfl
/-- Behind a batch: right again, and just the files behind live. -/
theorem next_ok {ps : List PartK} {b : List KeyM} (h : partsOk ps = true) (hb : filesOkK b = true) :
    partsOk (nextK ps (ps.map fun p => rowK p (diffK (liveK ps) b)) (putsK (diffK (liveK ps) b))) = true ∧ liveK (nextK ps (ps.map fun p => rowK p (diffK (liveK ps) b)) (putsK (diffK (liveK ps) b))) = b := by
  obtain ⟨hr, hm, hok⟩ := live_ok h
  obtain ⟨hb1, hb2, hb3⟩ := filesOkK_iff.1 hb
  obtain ⟨h1, h2, h3⟩ := partsOk_iff.1 h
  have hd := diff_mem hr hb3
  have hpd := puts_diff hr hb3
  have hL := livP_rows ps (diffK (liveK ps) b) (putsK (diffK (liveK ps) b))
  have hno : ((livP (nextK ps (ps.map fun p => rowK p (diffK (liveK ps) b)) (putsK (diffK (liveK ps) b)))).map (·.1)).Nodup := by
    rw [hL, List.map_append, List.nodup_append]
    refine ⟨(List.filter_sublist.map _).nodup h2, ris_nodup (puts_nodup (ris_diff hb3 hr)), fun x hx y hy e => ?_⟩
    subst e
    obtain ⟨f, hf, rfl⟩ := List.mem_map.1 hx
    obtain ⟨g, hg, e⟩ := List.mem_map.1 hy
    have h4 := (List.mem_filter.1 hf).2
    rw [Bool.not_eq_true', hasP_not] at h4
    exact h4 _ (mem_puts.1 hg) e
  have hmem : ∀ x, x ∈ sortK (livP (nextK ps (ps.map fun p => rowK p (diffK (liveK ps) b)) (putsK (diffK (liveK ps) b)))) ↔ x ∈ b := fun x => by
    rw [mem_sortK, hL, List.mem_append, List.mem_filter, Bool.not_eq_true', ← hm, hd]
  have hs := ris_ext (ris_sort hno) hb3 hmem
  have hlen := len_sortK (livP (nextK ps (ps.map fun p => rowK p (diffK (liveK ps) b)) (putsK (diffK (liveK ps) b))))
  rw [hs] at hlen
  have hok : partsOk (nextK ps (ps.map fun p => rowK p (diffK (liveK ps) b)) (putsK (diffK (liveK ps) b))) = true := by
    refine partsOk_iff.2 ⟨fun p hp => ?_, hno, by omega⟩
    rw [next_eq] at hp
    rcases List.mem_append.1 hp with hp | hp
    · obtain ⟨p', hp', rfl⟩ := List.mem_map.1 hp
      exact one_files (h1 p' hp') (range_ris _ _)
    · obtain rfl := List.mem_singleton.1 hp
      refine one_fresh (filesOkK_iff.2 ⟨?_, fun f hf => hb2 f ?_, puts_nodup (ris_diff hb3 hr)⟩)
      · rw [hpd]; exact Nat.le_trans (List.length_filter_le _ _) hb1
      · rw [hpd] at hf; exact (List.mem_filter.1 hf).1
  exact ⟨hok, (if_pos hok).trans hs⟩
theorem nextAll_ok {ps : List PartK} {b : List KeyM} (h : partsOk ps = true) (hb : filesOkK b = true) : partsOk (nextK ps (ps.map allK) b) = true ∧ liveK (nextK ps (ps.map allK) b) = b := by
  obtain ⟨hb1, hb2, hb3⟩ := filesOkK_iff.1 hb
  obtain ⟨h1, h2, h3⟩ := partsOk_iff.1 h
  have hL := livP_alls ps b
  have hok : partsOk (nextK ps (ps.map allK) b) = true := by
    refine partsOk_iff.2 ⟨fun p hp => ?_, by rw [hL]; exact ris_nodup hb3, by rw [hL]; exact hb1⟩
    rw [next_eq] at hp
    rcases List.mem_append.1 hp with hp | hp
    · obtain ⟨p', hp', rfl⟩ := List.mem_map.1 hp
      refine one_files (h1 p' hp') ?_
      have := range_ris p'.files.length fun _ => true
      rw [List.filter_eq_self.2 (by simp)] at this
      exact this
    · obtain rfl := List.mem_singleton.1 hp
      exact one_fresh hb
  refine ⟨hok, (if_pos hok).trans ?_⟩
  rw [hL]
  exact ris_ext (ris_sort (ris_nodup hb3)) hb3 fun x => mem_sortK

/-! What the chapter's theorem says of plans. -/
theorem lives_row (p : PartK) (d : List ChK) : livesK ⟨p.files, rowK p d⟩ = decide ((rowK p d).length < p.files.length) := by
  have e : livesK ⟨p.files, rowK p d⟩ = true ↔ (rowK p d).length < p.files.length := by
    unfold livesK
    rw [Bool.not_eq_true', ← Bool.not_eq_true, List.isEmpty_iff]
    have h1 : (rowK p d).length < p.files.length ↔ ∃ j, j < p.files.length ∧ ¬ ((decide ((j : Int) ∈ p.dead) || hasP d (p.files.getD j default).1) = true) := by
      unfold rowK
      rw [List.length_map]
      have h := List.length_filter_lt_length_iff_exists (l := List.range p.files.length) (p := fun (k : Nat) => decide ((k : Int) ∈ p.dead) || hasP d (p.files.getD k default).1)
      rw [List.length_range] at h
      rw [h]
      simp only [List.mem_range]
    rw [h1]
    constructor
    · intro hne
      obtain ⟨f, hf⟩ := List.exists_mem_of_ne_nil _ hne
      obtain ⟨j, h2, h3⟩ := mem_liv.1 hf
      have hj : j < p.files.length := (List.getElem?_eq_some_iff.1 h2).1
      refine ⟨j, hj, fun h4 => h3 (mem_row.2 ⟨hj, ?_⟩)⟩
      rw [Bool.or_eq_true, decide_eq_true_eq] at h4
      exact h4
    · rintro ⟨j, hj, h2⟩ hnil
      have hm : p.files[j] ∈ liv ⟨p.files, rowK p d⟩ := mem_liv.2 ⟨j, List.getElem?_eq_getElem hj, fun h3 => h2 (by rw [Bool.or_eq_true, decide_eq_true_eq]; exact (mem_row.1 h3).2)⟩
      rw [hnil] at hm
      simp at hm
  by_cases c : (rowK p d).length < p.files.length
  · rw [decide_eq_true c]; exact e.2 c
  · rw [decide_eq_false c, ← Bool.not_eq_true]; exact fun h => c (e.1 h)
theorem ris_extI {l m : List Int} (hl : l.Pairwise (· < ·)) (hm : m.Pairwise (· < ·)) (h : ∀ x, x ∈ l ↔ x ∈ m) : l = m := by
  induction l generalizing m with
  | nil =>
    cases m with
    | nil => rfl
    | cons b m => exact absurd ((h b).2 (by simp)) (by simp)
  | cons a l ih =>
    cases m with
    | nil => exact absurd ((h a).1 (by simp)) (by simp)
    | cons b m =>
      obtain ⟨ha, hl'⟩ := List.pairwise_cons.1 hl
      obtain ⟨hb, hm'⟩ := List.pairwise_cons.1 hm
      have hab : a = b := by
        rcases List.mem_cons.1 ((h a).1 (by simp)) with e | e
        · exact e
        · rcases List.mem_cons.1 ((h b).2 (by simp)) with e' | e'
          · exact e'.symm
          · have := ha b e'; have := hb a e; omega
      subst hab
      congr 1
      refine ih hl' hm' fun x => ⟨fun hx => ?_, fun hx => ?_⟩
      · rcases List.mem_cons.1 ((h x).1 (List.mem_cons_of_mem _ hx)) with e | e
        · have := ha x hx; omega
        · exact e
      · rcases List.mem_cons.1 ((h x).2 (List.mem_cons_of_mem _ hx)) with e | e
        · have := hb x hx; omega
        · exact e
theorem one_dead {p : PartK} (h : oneOk p = true) : (∀ x ∈ p.dead, -1 < x ∧ x < p.files.length) ∧ p.dead.Pairwise (· < ·) := by
  unfold oneOk at h
  rw [Bool.and_eq_true] at h
  exact risI_iff.1 h.1
theorem row_ris (p : PartK) (d : List ChK) : (rowK p d).Pairwise (· < ·) := (risI_iff.1 (range_ris p.files.length _)).2
theorem all_ris (p : PartK) : (allK p).Pairwise (· < ·) := by
  have := range_ris p.files.length fun _ => true
  rw [List.filter_eq_self.2 (by simp)] at this
  exact (risI_iff.1 this).2
theorem row_nil {p : PartK} (h : oneOk p = true) : rowK p [] = p.dead := by
  obtain ⟨h1, h2⟩ := one_dead h
  refine ris_extI (row_ris _ _) h2 fun x => ⟨fun hx => ?_, fun hx => ?_⟩
  · obtain ⟨k, hk, rfl⟩ := List.mem_map.1 hx
    have := (List.mem_filter.1 hk).2
    simpa [hasP] using this
  · have := h1 x hx
    obtain ⟨j, rfl⟩ : ∃ j : Nat, x = j := ⟨x.toNat, by omega⟩
    exact mem_row.2 ⟨by omega, .inl hx⟩
/-- Are all numbers of a row in another one? -/
def withinK : List Int → List Int → Bool
  | [], _ => true
  | x :: a, b => match b.dropWhile fun y => decide (y < x) with
    | [] => false
    | y :: b' => decide (y = x) && withinK a (y :: b')
theorem drop_ris {x : Int} : ∀ {b : List Int}, b.Pairwise (· < ·) → x ∈ b → ∃ b', b.dropWhile (fun y => decide (y < x)) = x :: b' ∧ (x :: b').Pairwise (· < ·) ∧ ∀ y, x ≤ y → (y ∈ b ↔ y ∈ x :: b')
  | [], _, h => absurd h (by simp)
  | z :: b, hb, h => by
    obtain ⟨hz, hb'⟩ := List.pairwise_cons.1 hb
    rcases List.mem_cons.1 h with e | h1
    · subst e
      exact ⟨b, by rw [List.dropWhile_cons, if_neg (by simp)], hb, fun _ _ => Iff.rfl⟩
    · have hzx := hz x h1
      obtain ⟨b', e1, e2, e3⟩ := drop_ris hb' h1
      refine ⟨b', by rw [List.dropWhile_cons, if_pos (by simpa using hzx)]; exact e1, e2, fun y hy => ?_⟩
      rw [← e3 y hy, List.mem_cons]
      exact ⟨fun h => h.resolve_left (by omega), .inr⟩
theorem within_ok : ∀ {a b : List Int}, a.Pairwise (· < ·) → b.Pairwise (· < ·) → (∀ x ∈ a, x ∈ b) → withinK a b = true
  | [], _, _, _, _ => rfl
  | x :: a, b, ha, hb, h => by
    obtain ⟨hx, ha'⟩ := List.pairwise_cons.1 ha
    obtain ⟨b', e1, e2, e3⟩ := drop_ris hb (h x (by simp))
    unfold withinK
    rw [e1]
    dsimp only
    rw [decide_eq_true rfl, Bool.true_and]
    exact within_ok ha' e2 fun y hy => (e3 y (by have := hx y hy; omega)).1 (h y (List.mem_cons_of_mem _ hy))
theorem dead_in {p : PartK} (h : oneOk p = true) (d : List ChK) : withinK p.dead (rowK p d) = true := by
  obtain ⟨h1, h2⟩ := one_dead h
  refine within_ok h2 (row_ris p d) fun x hx => ?_
  have := h1 x hx
  obtain ⟨j, rfl⟩ : ∃ j : Nat, x = j := ⟨x.toNat, by omega⟩
  exact mem_row.2 ⟨by omega, .inl hx⟩
theorem dead_all {p : PartK} (h : oneOk p = true) : withinK p.dead (allK p) = true := by
  obtain ⟨h1, h2⟩ := one_dead h
  refine within_ok h2 (all_ris p) fun x hx => ?_
  have := h1 x hx
  obtain ⟨j, rfl⟩ : ∃ j : Nat, x = j := ⟨x.toNat, by omega⟩
  exact mem_all.2 (by omega)
theorem lives_all (p : PartK) : livesK ⟨p.files, allK p⟩ = false := by
  unfold livesK
  rw [liv_all]; rfl
theorem lives_old {p : PartK} (h : oneOk p = true) : livesK p = decide ((rowK p []).length < p.files.length) := by
  rw [← lives_row, row_nil h]
theorem many_nil {ps : List PartK} (h : ∀ p ∈ ps, oneOk p = true) : manyK ps [] = ps.countP livesK := by
  unfold manyK
  rw [show (putsK []).isEmpty = true from rfl, if_pos rfl, Nat.add_zero]
  exact List.countP_congr fun p hp => by rw [lives_old (h p hp)]
/-- A plan that goes through, told whole. -/
theorem plan_some {ps : List PartK} {l : List ChK} {rows : List (List Int)} {fresh : List KeyM} {e : Nat} (h : partsOk ps = true) (hl : batchOk l = true) (hp : planK ps l = (some (rows, fresh), e)) :
    (behindK (liveK ps) l).length ≤ 4000 ∧ e = 0 ∧ ∃ row : PartK → List Int, rows = ps.map row ∧ (∀ p ∈ ps, withinK p.dead (row p) = true) ∧ partsOk (nextK ps rows fresh) = true ∧ liveK (nextK ps rows fresh) = behindK (liveK ps) l ∧
    (ps.countP fun p => livesK ⟨p.files, row p⟩) + (if fresh.isEmpty then 0 else 1) ≤ 40 ∧
    (diffK (liveK ps) (behindK (liveK ps) l) = [] → 40 < ps.countP livesK ∨ (fresh = [] ∧ ∀ p ∈ ps, row p = p.dead)) := by
  obtain ⟨hr, hm, hok⟩ := live_ok h
  have h1 := (partsOk_iff.1 h).1
  unfold planK applyK at hp
  rw [h, hl, hok] at hp
  simp only [Bool.and_self, if_true] at hp
  by_cases hn : (behindK (liveK ps) l).length ≤ 4000
  · rw [if_pos hn] at hp
    dsimp only at hp
    have hb := behind_ok hok hl hn
    refine ⟨hn, ?_⟩
    by_cases hk : manyK ps (diffK (liveK ps) (behindK (liveK ps) l)) ≤ 40
    · rw [if_pos hk] at hp
      simp only [Prod.mk.injEq, Option.some.injEq] at hp
      obtain ⟨⟨rfl, rfl⟩, rfl⟩ := hp
      obtain ⟨h2, h3⟩ := next_ok h hb
      refine ⟨rfl, fun p => rowK p _, rfl, fun p hp => dead_in (h1 p hp) _, h2, h3, ?_, fun hd => .inr ?_⟩
      · unfold manyK at hk
        rw [show (fun p => livesK ⟨p.files, rowK p (diffK (liveK ps) (behindK (liveK ps) l))⟩) = fun p => decide ((rowK p (diffK (liveK ps) (behindK (liveK ps) l))).length < p.files.length) from funext fun p => lives_row p _]
        exact hk
      · rw [hd]
        exact ⟨rfl, fun p hp => row_nil (h1 p hp)⟩
    · rw [if_neg hk] at hp
      simp only [Prod.mk.injEq, Option.some.injEq] at hp
      obtain ⟨⟨rfl, rfl⟩, rfl⟩ := hp
      obtain ⟨h2, h3⟩ := nextAll_ok h hb
      refine ⟨rfl, allK, rfl, fun p hp => dead_all (h1 p hp), h2, h3, ?_, fun hd => .inl ?_⟩
      · rw [show (fun p => livesK ⟨p.files, allK p⟩) = fun _ => false from funext lives_all, List.countP_eq_zero.2 (by simp)]
        split <;> omega
      · rw [hd, many_nil h1] at hk
        omega
  · rw [if_neg hn] at hp
    dsimp only at hp
    cases hp
end Go.Proofs.Ytmnehdpclnhmbaa
