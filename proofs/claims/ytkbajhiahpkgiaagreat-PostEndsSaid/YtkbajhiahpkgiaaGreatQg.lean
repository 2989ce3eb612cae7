
/- Qg: what mudlarkref19.places and Get read, in plain words: the places of a posting that the program reads too. No program is named. -/
import Derived.Test.YtkbajhiahpkgiaaGreatPo
namespace Go.Proofs.YtkbajhiahpkgiaaGreat
open Go.RowKit Sx

/-- What a place is told from. -/
def baseP (F : List Nat) (i : Nat) (prev : PlaceV) : PlaceV := if i % 64 = 0 then ⟨(F.getD (i / 64) 0 : Nat), -1⟩ else prev
def pls19 (F : List Nat) : Nat → Nat → PlaceV → Stt → List PlaceV
  | 0, _, _, _ => []
  | _ + 1, _, _, none => []
  | k + 1, i, prev, some l =>
      placeR (baseP F i prev) (numR 4000 (some l)).1 (numR 1048576 (numR 4000 (some l)).2).1 :: pls19 F k (i + 1) (placeR (baseP F i prev) (numR 4000 (some l)).1 (numR 1048576 (numR 4000 (some l)).2).1) (numR 1048576 (numR 4000 (some l)).2).2
theorem pls19_none (F : List Nat) (n i : Nat) (prev : PlaceV) : pls19 F n i prev none = [] := by cases n <;> rfl
theorem pls19_len (F : List Nat) : ∀ (n i : Nat) (prev : PlaceV) (st : Stt), (pls19 F n i prev st).length ≤ n
  | 0, _, _, _ => Nat.le_refl _
  | n + 1, _, _, none => Nat.zero_le _
  | n + 1, i, prev, some l => by
    rw [pls19, List.length_cons]
    have := pls19_len F n (i + 1) (placeR (baseP F i prev) (numR 4000 (some l)).1 (numR 1048576 (numR 4000 (some l)).2).1) (numR 1048576 (numR 4000 (some l)).2).2
    omega
theorem places_pls {F : List Nat} : ∀ (m k i : Nat) (prev a : PlaceV) (l : List UInt8) (ps : List PlaceV) (x : List UInt8), i % 64 + m ≤ 64 → (m = 0 ∨ a = baseP F i prev) → placesR m a (some l) = (ps, some x) → ∃ q, pls19 F (m + k) i prev (some l) = ps ++ pls19 F k (i + m) q (some x)
  | 0, k, i, prev, a, l, ps, x, _, _, h => by
    simp only [placesR, Prod.mk.injEq, Option.some.injEq] at h
    obtain ⟨rfl, rfl⟩ := h
    exact ⟨prev, by rw [Nat.zero_add]; rfl⟩
  | m + 1, k, i, prev, a, l, ps, x, hi, ha, h => by
    rcases ha with ha | rfl
    · omega
    simp only [placesR] at h
    rw [show m + 1 + k = (m + k) + 1 by omega, pls19]
    generalize (numR 4000 (some l)).1 = d at h ⊢
    generalize (numR 4000 (some l)).2 = s1 at h ⊢
    generalize (numR 1048576 s1).1 = t at h ⊢
    generalize (numR 1048576 s1).2 = s2 at h ⊢
    cases s2 with
    | none => simp at h
    | some l2 =>
      rw [if_neg (by simp)] at h
      generalize placeR (baseP F i prev) d t = p at h ⊢
      simp only [Prod.mk.injEq] at h
      obtain ⟨h1, h2⟩ := h
      obtain ⟨q, hq⟩ := places_pls (F := F) m k (i + 1) p p l2 (placesR m p (some l2)).1 x (by omega) (by
        by_cases h0 : m = 0
        · exact .inl h0
        · right; unfold baseP; rw [if_neg (by omega)]) (by rw [← h2])
      refine ⟨q, ?_⟩
      rw [hq, ← h1, show i + 1 + m = i + (m + 1) by omega]
      rfl
def shapeH : Nat → List HeadV → Prop
  | n, [] => n = 0
  | n, h :: hs => 0 < n ∧ h.many = min n 64 ∧ shapeH (n - 64) hs
theorem heads_shape : ∀ (k n size doc : Nat) (st : Stt) (hs : List HeadV) (l : List UInt8), n ≤ k → headsR size k n doc st = (hs, some l) → shapeH n hs
  | 0, n, size, doc, st, hs, l, hk, h => by
    simp only [headsR, Prod.mk.injEq] at h
    obtain ⟨rfl, _⟩ := h
    show n = 0
    omega
  | k + 1, n, size, doc, st, hs, l, hk, h => by
    unfold headsR at h
    split at h
    · rename_i c
      simp only [Prod.mk.injEq] at h
      obtain ⟨rfl, rfl⟩ := h
      rcases c with c | c
      · exact c
      · cases c
    · rename_i c
      simp only [Prod.mk.injEq] at h
      obtain ⟨rfl, h2⟩ := h
      exact ⟨by omega, rfl, heads_shape k (n - 64) size _ _ _ l (by omega) (Prod.ext rfl h2)⟩
theorem stepsB_none : ∀ hs : List HeadV, stepsB hs none = none
  | [] => rfl
  | _ :: hs => stepsB_none hs
theorem steps_pls {F : List Nat} : ∀ (hs : List HeadV) (j n : Nat) (acc : List PlaceV) (l : List UInt8) (ps : List PlaceV) (x : List UInt8) (prev : PlaceV), F.drop j = hs.map (·.doc) → shapeH n hs → stepsB hs (some (acc, l)) = some (ps, x) → ps = acc ++ pls19 F n (64 * j) prev (some l)
  | [], j, n, acc, l, ps, x, prev, _, hn, h => by
    have hn : n = 0 := hn
    subst hn
    simp only [stepsB, List.foldl_nil, Option.some.injEq, Prod.mk.injEq] at h
    rw [h.1]; exact (List.append_nil _).symm
  | e :: hs, j, n, acc, l, ps, x, prev, hF, ⟨hn, hm, hsh⟩, h => by
    rw [show stepsB (e :: hs) (some (acc, l)) = stepsB hs (stepB e (some (acc, l))) from rfl] at h
    have hFj : F.getD j 0 = e.doc := by
      have := congrArg (fun l => l.head?) hF
      simp only [List.head?_drop, List.map_cons, List.head?_cons] at this
      rw [List.getD_eq_getElem?_getD, this]; rfl
    have hF2 : F.drop (j + 1) = hs.map (·.doc) := by
      have := congrArg List.tail hF
      rwa [List.tail_drop, List.map_cons, List.tail_cons] at this
    simp only [stepB] at h
    generalize hp : placesR e.many ⟨(e.doc : Nat), -1⟩ (some l) = pp at h
    obtain ⟨ps1, s1⟩ := pp
    cases s1 with
    | none => dsimp only at h; rw [stepsB_none] at h; cases h
    | some x1 =>
      dsimp only at h
      split at h
      · have hb : (⟨(e.doc : Nat), -1⟩ : PlaceV) = baseP F (64 * j) prev := by
          unfold baseP
          rw [if_pos (by omega), show 64 * j / 64 = j by omega, hFj]
        obtain ⟨q, hq⟩ := places_pls (F := F) e.many (n - e.many) (64 * j) prev _ l ps1 x1 (by omega) (.inr hb) hp
        rw [show e.many + (n - e.many) = n by omega] at hq
        rw [hq]
        have hr : pls19 F (n - e.many) (64 * j + e.many) q (some x1) = pls19 F (n - 64) (64 * (j + 1)) q (some x1) := by
          by_cases h64 : 64 ≤ n
          · rw [show e.many = 64 by omega, show 64 * j + 64 = 64 * (j + 1) by omega]
          · rw [show n - e.many = 0 by omega, show n - 64 = 0 by omega]; rfl
        rw [hr, ← List.append_assoc]
        exact steps_pls hs (j + 1) (n - 64) (acc ++ ps1) x1 ps x q hF2 hsh h
      · rw [stepsB_none] at h; cases h
/-- The places of a posting's bytes, as the document's Get reads them. -/
def read19 (t : List UInt8) : List PlaceV :=
  let n := numR t.length (some (t.drop 3))
  let hs := headsR t.length n.1 n.1 0 n.2
  pls19 (hs.1.map (·.doc)) n.1 0 default hs.2
theorem read19_eq {t : List UInt8} {p : PostP} (h : readR t = some p) : p = (t.take 3, read19 t) := by
  unfold readR at h
  unfold read19
  split at h
  · cases h
  · dsimp only at h ⊢
    generalize numR (t.length : Int) (some (t.drop 3)) = n at h ⊢
    generalize hhs : headsR t.length n.1 n.1 0 n.2 = hs at h ⊢
    obtain ⟨H, s⟩ := hs
    cases s with
    | none => cases h
    | some l =>
      dsimp only at h
      generalize hst : stepsB H (some ([], l)) = w at h
      obtain _ | ⟨ps, x⟩ := w
      · cases h
      · cases x with
        | cons => cases h
        | nil =>
          dsimp only at h
          injection h with h
          rw [← h]
          congr 1
          exact steps_pls (F := H.map (·.doc)) H 0 n.1 [] l ps [] default rfl (heads_shape _ _ _ _ _ _ _ (Nat.le_refl _) hhs) hst
theorem read19_len (t : List UInt8) : (read19 t).length ≤ t.length := by
  unfold read19
  have h1 := numR_most (t.length) (some (t.drop 3))
  have h2 := pls19_len ((headsR t.length (numR t.length (some (t.drop 3))).1 (numR t.length (some (t.drop 3))).1 0 (numR t.length (some (t.drop 3))).2).1.map (·.doc)) (numR t.length (some (t.drop 3))).1 0 default (headsR t.length (numR t.length (some (t.drop 3))).1 (numR t.length (some (t.drop 3))).1 0 (numR t.length (some (t.drop 3))).2).2
  dsimp only
  omega
end Go.Proofs.YtkbajhiahpkgiaaGreat
