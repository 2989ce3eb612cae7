/- Postings in plain words: which are right, their bytes, what bytes they are read from, and that the two fit. No program is named. -/
import Derived.Test.YtkbajhiahpkgiaaRtn
namespace Go.Proofs.Ytkbajhiahpkgiaa
open Go.RowKit Sx

structure PlaceV where
  doc : Int
  pos : Int
  deriving Inhabited, DecidableEq
theorem PlaceV.ext2 {a b : PlaceV} (h : a.doc = b.doc) (k : a.pos = b.pos) : a = b := by cases a; cases b; simp_all
abbrev PostP := List UInt8 × List PlaceV
def fitsP (a p : PlaceV) : Bool := decide (0 ≤ p.doc) && decide (p.doc < 4000) && decide (0 ≤ p.pos) && decide (p.pos ≤ 1048576) && (decide (a.doc < p.doc) || decide (p.doc = a.doc) && decide (a.pos < p.pos))
def chainP : PlaceV → List PlaceV → Bool
  | _, [] => true
  | a, p :: l => fitsP a p && chainP p l
def postOk (x : PostP) : Bool := decide (x.1.length = 3) && !x.2.isEmpty && chainP ⟨-1, 0⟩ x.2
def postsOk : List UInt8 → List PostP → Bool
  | _, [] => true
  | last, x :: ps => postOk x && !(Op.bytesLess x.1 last || decide (x.1 = last)) && postsOk x.1 ps
/-! Bytes. -/
def blockB : PlaceV → List PlaceV → List UInt8
  | _, [] => []
  | a, p :: l => septs (p.doc - a.doc).toNat ++ (septs (if p.doc = a.doc then p.pos - (a.pos + 1) else p.pos).toNat ++ blockB p l)
def block1 (l : List PlaceV) : List UInt8 := blockB ⟨(l.headD default).doc, -1⟩ l
def chunks (l : List PlaceV) : List (List PlaceV) := if _h : l = [] then [] else l.take 64 :: chunks (l.drop 64)
termination_by l.length
decreasing_by
  have := List.length_pos_iff.2 _h
  rw [List.length_drop]; omega
def headsB : Int → List (List PlaceV) → List UInt8
  | _, [] => []
  | last, c :: cs => septs ((c.headD default).doc - last).toNat ++ (septs (block1 c).length ++ headsB (c.headD default).doc cs)
def postB (x : PostP) : List UInt8 := x.1 ++ ((septs x.2.length ++ headsB 0 (chunks x.2)) ++ (chunks x.2).flatMap block1)
def putB (ps : List PostP) : List UInt8 := septs ps.length ++ ps.flatMap fun x => texts (postB x)
/-! What is read. -/
abbrev Stt := Option (List UInt8)
structure HeadV where
  doc : Nat
  many : Nat
  size : Nat
  deriving Inhabited
def headsR (size : Nat) : Nat → Nat → Nat → Stt → List HeadV × Stt
  | 0, _, _, st => ([], st)
  | k + 1, n, doc, st => if n = 0 ∨ st = none then ([], st) else
      let r := headsR size k (n - 64) (doc + (numR 4000 st).1) (numR size (numR 4000 st).2).2
      (⟨doc + (numR 4000 st).1, min n 64, (numR size (numR 4000 st).2).1⟩ :: r.1, r.2)
def placeR (a : PlaceV) (d t : Nat) : PlaceV := ⟨a.doc + d, if a.doc + d = a.doc then t + (a.pos + 1) else t⟩
def placesR : Nat → PlaceV → Stt → List PlaceV × Stt
  | 0, _, st => ([], st)
  | k + 1, a, st =>
      let p := placeR a (numR 4000 st).1 (numR 1048576 (numR 4000 st).2).1
      let st' := (numR 1048576 (numR 4000 st).2).2
      if st' = none then ([], none) else (p :: (placesR k p st').1, (placesR k p st').2)
def stepB (h : HeadV) : Option (List PlaceV × List UInt8) → Option (List PlaceV × List UInt8)
  | none => none
  | some (acc, l) => match placesR h.many ⟨h.doc, -1⟩ (some l) with
    | (_, none) => none
    | (ps, some x) => if (ps.headD default).doc = h.doc ∧ (l.length : Int) - x.length = h.size then some (acc ++ ps, x) else none
def stepsB (hs : List HeadV) (s : Option (List PlaceV × List UInt8)) : Option (List PlaceV × List UInt8) := hs.foldl (fun s h => stepB h s) s
def readR (b : List UInt8) : Option PostP :=
  if b.length < 3 then none else
    let n := numR b.length (some (b.drop 3))
    let hs := headsR b.length n.1 n.1 0 n.2
    match hs.2 with
    | none => none
    | some l => match stepsB hs.1 (some ([], l)) with
      | some (ps, []) => some (b.take 3, ps)
      | _ => none
def getsR (size : Nat) : Nat → Stt → List PostP × Stt
  | 0, st => ([], st)
  | k + 1, st => match readR (textR size st).1 with
    | none => ([], (textR size st).2)
    | some p => (p :: (getsR size k (textR size st).2).1, (getsR size k (textR size st).2).2)
def getP (b : List UInt8) : Option (List PostP) :=
  let n := numR b.length (some b)
  let g := getsR b.length n.1 n.2
  if g.2 = some [] ∧ g.1.length = n.1 ∧ postsOk [] g.1 = true then some g.1 else none

/-! Read, then put. -/
theorem placesR_inv : ∀ (k : Nat) (a : PlaceV) (st : Stt) (ps : List PlaceV) (x : List UInt8), placesR k a st = (ps, some x) → st = some (blockB a ps ++ x) ∧ ps.length = k
  | 0, a, st, ps, x, h => by
    unfold placesR at h
    injection h with h1 h2
    subst h1; subst h2
    exact ⟨rfl, rfl⟩
  | k + 1, a, st, ps, x, h => by
    unfold placesR at h
    obtain ⟨d, s1, e1⟩ : ∃ d s1, numR 4000 st = (d, s1) := ⟨_, _, rfl⟩
    obtain ⟨t, s2, e2⟩ : ∃ t s2, numR 1048576 s1 = (t, s2) := ⟨_, _, rfl⟩
    simp only [e1, e2] at h
    split at h
    · injection h with _ h2; cases h2
    · rename_i hn
      obtain ⟨y, rfl⟩ : ∃ y, s2 = some y := by cases s2 with | none => exact absurd rfl hn | some y => exact ⟨y, rfl⟩
      injection h with h1 h2
      obtain ⟨ih1, ih2⟩ := placesR_inv k (placeR a d t) (some y) (placesR k (placeR a d t) (some y)).1 x (by rw [← h2])
      obtain ⟨q1, _⟩ := numR_inv (most := 1048576) e2
      subst q1
      obtain ⟨q2, _⟩ := numR_inv (most := 4000) e1
      rw [← h1, q2]
      refine ⟨?_, by simp [ih2]⟩
      injection ih1 with ih1
      simp only [blockB, List.append_assoc]
      rw [← ih1]
      have e3 : ((placeR a d t).doc - a.doc).toNat = d := by simp [placeR]; omega
      have e4 : (if (placeR a d t).doc = a.doc then (placeR a d t).pos - (a.pos + 1) else (placeR a d t).pos).toNat = t := by
        by_cases c : a.doc + (d : Int) = a.doc
        · rw [if_pos (show (placeR a d t).doc = a.doc from c), show (placeR a d t).pos = t + (a.pos + 1) from if_pos c]; omega
        · rw [if_neg (show ¬ (placeR a d t).doc = a.doc from c), show (placeR a d t).pos = t from if_neg c]; omega
      rw [e3, e4]
theorem blockB_head {ps : List PlaceV} {d : Int} (h : (ps.headD default).doc = d) : blockB ⟨d, -1⟩ ps = block1 ps := by unfold block1; rw [h]
theorem stepB_inv {h : HeadV} {acc ps : List PlaceV} {l x : List UInt8} (e : stepB h (some (acc, l)) = some (ps, x)) : ∃ q, ps = acc ++ q ∧ l = block1 q ++ x ∧ q.length = h.many ∧ (q.headD default).doc = h.doc ∧ (block1 q).length = h.size := by
  unfold stepB at e
  simp only at e
  split at e
  · cases e
  · rename_i q y hq
    split at e
    · rename_i c
      injection e with e; injection e with e1 e2
      subst e1; subst e2
      obtain ⟨i1, i2⟩ := placesR_inv _ _ _ _ _ hq
      injection i1 with i1
      rw [blockB_head c.1] at i1
      refine ⟨q, rfl, i1, i2, c.1, ?_⟩
      have := c.2
      rw [i1, List.length_append] at this
      omega
    · cases e
theorem stepsB_inv : ∀ (hs : List HeadV) (acc ps : List PlaceV) (l x : List UInt8), stepsB hs (some (acc, l)) = some (ps, x) → ∃ cs : List (List PlaceV), ps = acc ++ cs.flatten ∧ l = cs.flatMap block1 ++ x ∧ cs.map (fun c => (c.length, ((c.headD default).doc, (block1 c).length))) = hs.map (fun h => (h.many, ((h.doc : Int), h.size)))
  | [], acc, ps, l, x, e => by
    unfold stepsB at e
    injection e with e; injection e with e1 e2
    exact ⟨[], by simp [e1], by simp [e2], rfl⟩
  | h :: hs, acc, ps, l, x, e => by
    unfold stepsB at e
    rw [List.foldl_cons] at e
    cases hm : stepB h (some (acc, l)) with
    | none =>
      exfalso
      rw [hm] at e
      have : ∀ hs : List HeadV, hs.foldl (fun s h => stepB h s) none = none := fun hs => by induction hs with | nil => rfl | cons _ _ ih => exact ih
      rw [this] at e; cases e
    | some y =>
      obtain ⟨a2, l2⟩ := y
      rw [hm] at e
      obtain ⟨q, rfl, rfl, q3, q4, q5⟩ := stepB_inv hm
      obtain ⟨cs, rfl, rfl, c3⟩ := stepsB_inv hs _ _ _ _ e
      exact ⟨q :: cs, by simp, by simp, by rw [List.map_cons, List.map_cons, c3, q3, q4, q5]⟩
/-- The heads' bytes, of heads. -/
def hdB : Int → List HeadV → List UInt8
  | _, [] => []
  | last, h :: hs => septs ((h.doc : Int) - last).toNat ++ (septs h.size ++ hdB h.doc hs)
/-- So many places, in blocks. -/
def manys : Nat → Nat → List Nat
  | 0, _ => []
  | k + 1, n => if n = 0 then [] else min n 64 :: manys k (n - 64)
theorem headsR_inv (size : Nat) : ∀ (k n doc : Nat) (st : Stt) (hs : List HeadV) (x : List UInt8), headsR size k n doc st = (hs, some x) → st = some (hdB doc hs ++ x) ∧ hs.map (·.many) = manys k n
  | 0, n, doc, st, hs, x, h => by
    unfold headsR at h
    injection h with h1 h2
    subst h1; subst h2
    exact ⟨rfl, rfl⟩
  | k + 1, n, doc, st, hs, x, h => by
    unfold headsR at h
    split at h
    · rename_i c
      injection h with h1 h2
      subst h1; subst h2
      rcases c with c | c
      · subst c; exact ⟨rfl, rfl⟩
      · cases c
    · rename_i c
      obtain ⟨d, s1, e1⟩ : ∃ d s1, numR 4000 st = (d, s1) := ⟨_, _, rfl⟩
      obtain ⟨t, s2, e2⟩ : ∃ t s2, numR size s1 = (t, s2) := ⟨_, _, rfl⟩
      simp only [e1, e2] at h
      injection h with h1 h2
      obtain ⟨hs', hh⟩ : ∃ hs', (headsR size k (n - 64) (doc + d) s2).1 = hs' := ⟨_, rfl⟩
      obtain ⟨i1, i2⟩ := headsR_inv size k (n - 64) (doc + d) s2 hs' x (by rw [← h2, ← hh])
      rw [hh] at h1
      subst i1
      obtain ⟨q1, _⟩ := numR_inv e2
      subst q1
      obtain ⟨q2, _⟩ := numR_inv (most := 4000) e1
      rw [← h1, q2]
      refine ⟨?_, ?_⟩
      · simp only [hdB, List.append_assoc]
        rw [show (((doc + d : Nat) : Int) - (doc : Int)).toNat = d by omega]
      · rw [List.map_cons, i2, manys, if_neg (fun e => c (.inl e))]
theorem chunks_of : ∀ (k n : Nat) (cs : List (List PlaceV)), cs.map List.length = manys k n → n ≤ k → chunks cs.flatten = cs ∧ cs.flatten.length = n
  | 0, n, cs, h, hn => by
    obtain rfl : cs = [] := by simpa [manys] using h
    obtain rfl : n = 0 := by omega
    exact ⟨by unfold chunks; simp, rfl⟩
  | k + 1, n, cs, h, hn => by
    unfold manys at h
    split at h
    · rename_i e
      obtain rfl : cs = [] := by simpa using h
      subst e
      exact ⟨by unfold chunks; simp, rfl⟩
    · rename_i e
      cases cs with
      | nil => cases h
      | cons c cs =>
        rw [List.map_cons] at h
        injection h with h1 h2
        obtain ⟨i1, i2⟩ := chunks_of k (n - 64) cs h2 (by omega)
        rw [List.flatten_cons]
        have hc : c ++ cs.flatten ≠ [] := by
          intro e2
          have := congrArg List.length e2
          rw [List.length_append] at this
          simp at this
          have h3 := this.1
          rw [h3] at h1
          simp at h1
          omega
        refine ⟨?_, by rw [List.length_append, i2, h1]; omega⟩
        unfold chunks
        rw [dif_neg hc]
        by_cases h64 : n ≤ 64
        · have e3 : cs.flatten = [] := List.length_eq_zero_iff.1 (by omega)
          have e4 : cs = [] := by
            rw [e3] at i1
            rw [← i1]; unfold chunks; simp
          subst e4
          rw [List.flatten_nil, List.append_nil, List.take_of_length_le (by omega), List.drop_eq_nil_of_le (by omega)]
          unfold chunks; simp
        · rw [List.take_append_of_le_length (by omega), List.take_of_length_le (by omega), List.drop_append_of_le_length (by omega), List.drop_eq_nil_of_le (by omega), List.nil_append, i1]
theorem hdB_heads : ∀ (hs : List HeadV) (cs : List (List PlaceV)) (last : Int), cs.map (fun c => (c.length, ((c.headD default).doc, (block1 c).length))) = hs.map (fun h => (h.many, ((h.doc : Int), h.size))) → hdB last hs = headsB last cs
  | [], cs, last, h => by
    obtain rfl : cs = [] := by simpa using h
    rfl
  | x :: hs, [], last, h => by cases h
  | x :: hs, c :: cs, last, h => by
    rw [List.map_cons, List.map_cons] at h
    injection h with h1 h2
    injection h1 with h3 h4
    injection h4 with h5 h6
    rw [hdB, headsB, hdB_heads hs cs x.doc h2, h5, h6]
theorem readR_inv {b : List UInt8} {p : PostP} (h : readR b = some p) : b = postB p ∧ p.1.length = 3 := by
  unfold readR at h
  split at h
  · cases h
  · rename_i hb
    obtain ⟨n, s1, e1⟩ : ∃ n s1, numR b.length (some (b.drop 3)) = (n, s1) := ⟨_, _, rfl⟩
    simp only [e1] at h
    obtain ⟨hs, s2, e2⟩ : ∃ hs s2, headsR b.length n n 0 s1 = (hs, s2) := ⟨_, _, rfl⟩
    simp only [e2] at h
    split at h
    · cases h
    · rename_i l
      split at h
      · rename_i ps hps
        injection h with h
        obtain ⟨cs, c1, c2, c3⟩ := stepsB_inv _ _ _ _ _ hps
        obtain ⟨i1, i2⟩ := headsR_inv _ _ _ _ _ _ _ e2
        subst i1
        obtain ⟨q1, _⟩ := numR_inv e1
        injection q1 with q1
        have hm : cs.map List.length = manys n n := by
          rw [← i2]
          have := congrArg (List.map (·.1)) c3
          rw [List.map_map, List.map_map] at this
          exact this
        obtain ⟨k1, k2⟩ := chunks_of n n cs hm (Nat.le_refl _)
        rw [List.nil_append] at c1
        rw [← h]
        refine ⟨?_, by simp; omega⟩
        unfold postB
        simp only
        rw [c1, k1, k2, ← hdB_heads hs cs 0 c3]
        have e3 : b.drop 3 = septs n ++ (hdB (0 : Nat) hs ++ (cs.flatMap block1 ++ [])) := by rw [q1, c2]
        rw [List.append_nil] at e3
        have : b = b.take 3 ++ b.drop 3 := (List.take_append_drop 3 b).symm
        rw [e3] at this
        simpa using this
      · cases h
theorem getsR_inv (size : Nat) : ∀ (k : Nat) (st : Stt) (ps : List PostP) (x : List UInt8), getsR size k st = (ps, some x) → ps.length = k → st = some ((ps.flatMap fun p => texts (postB p)) ++ x)
  | 0, st, ps, x, h, _ => by
    unfold getsR at h
    injection h with h1 h2
    subst h1; subst h2
    rfl
  | k + 1, st, ps, x, h, hl => by
    unfold getsR at h
    split at h
    · injection h with h1 _
      subst h1; cases hl
    · rename_i p hp
      injection h with h1 h2
      subst h1
      obtain ⟨qs, hq⟩ : ∃ qs, (getsR size k (textR size st).2).1 = qs := ⟨_, rfl⟩
      have ih := getsR_inv size k (textR size st).2 qs x (Prod.ext hq h2) (by rw [← hq]; simpa using hl)
      rw [hq]
      have := textR_inv (st := st) (p := (textR size st).1) (x := (qs.flatMap fun p => texts (postB p)) ++ x) (Prod.ext rfl ih)
      rw [(readR_inv hp).1] at this
      rw [this]
      simp
theorem getP_inv {b : List UInt8} {ps : List PostP} (h : getP b = some ps) : putB ps = b ∧ postsOk [] ps = true := by
  unfold getP at h
  simp only at h
  split at h
  · rename_i c
    obtain ⟨c1, c2, c3⟩ := c
    injection h with h
    subst h
    have i := getsR_inv _ _ _ _ _ (Prod.ext rfl c1) c2
    have q := (numR_inv (Prod.ext rfl i)).1
    injection q with q
    refine ⟨?_, c3⟩
    unfold putB
    rw [c2, List.append_nil] at *
    exact q.symm
  · cases h
end Go.Proofs.Ytkbajhiahpkgiaa
