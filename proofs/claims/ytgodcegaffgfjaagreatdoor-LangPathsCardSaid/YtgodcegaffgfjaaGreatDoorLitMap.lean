
/- A map literal of strings by strings: its block, its look-up; no program is named. -/
import Derived.Test.YtgodcegaffgfjaaGreatDoorEng
import Derived.MapKept
namespace Go.Proofs.YtgodcegaffgfjaaGreatDoor
open Go.RowKit

/-- The entries of a literal, in the text's order. -/
def ents : List (List UInt8 × List UInt8) → Nat → List MapEntry
  | [], _ => []
  | (k, v) :: l, c => { key := .string (bs k), val := .string (bs v), born := c } :: ents l (c + 1)
def entA (l : List (List UInt8 × List UInt8)) : Array MapEntry := (ents l 0).toArray

def look : List (List UInt8 × List UInt8) → List UInt8 → Option (List UInt8)
  | [], _ => none
  | (k, v) :: l, x => if k = x then some v else look l x

theorem bs_inj {a b : List UInt8} (h : bs a = bs b) : a = b := by
  have := congrArg (fun s : ByteArray => s.data.toList) h
  simpa [bs] using this
theorem bs_beq (a b : List UInt8) : (bs a == bs b) = decide (a = b) := by
  rw [Bool.eq_iff_iff, MapKept.bytes_beq, decide_eq_true_eq]
  exact ⟨bs_inj, fun e => by rw [e]⟩

theorem findNow_ents (x : List UInt8) : ∀ (l : List (List UInt8 × List UInt8)) (c i : Nat),
    (look l x = none ∧ Instr.findNow .string (.string (bs x)) (ents l c) i = some none) ∨ (∃ v j, look l x = some v ∧ Instr.findNow .string (.string (bs x)) (ents l c) i = some (some (j, .string (bs v)))) := by
  intro l
  induction l with
  | nil => intro c i; exact .inl ⟨rfl, rfl⟩
  | cons kv l ih =>
    obtain ⟨k, v⟩ := kv
    intro c i
    unfold ents Instr.findNow
    simp only [Instr.sameNow, bs_beq]
    by_cases h : k = x
    · subst h
      exact .inr ⟨v, i, by simp [look], by simp⟩
    · have h' : ¬ x = k := fun e => h e.symm
      simp only [look, if_neg h, decide_eq_false h']
      exact ih (c + 1) (i + 1)

theorem ents_append (a b : List (List UInt8 × List UInt8)) : ∀ c, ents (a ++ b) c = ents a c ++ ents b (c + a.length) := by
  induction a with
  | nil => intro c; simp [ents]
  | cons x a ih => intro c; simp only [List.cons_append, ents, ih, List.length_cons]; rw [show c + 1 + a.length = c + (a.length + 1) by omega]

theorem entA_push (l : List (List UInt8 × List UInt8)) (k v : List UInt8) : (entA l).push { key := .string (bs k), val := .string (bs v), born := l.length } = entA (l ++ [(k, v)]) := by
  simp [entA, ents_append, ents]

section
variable {P : Program} {t kt et : TypeId}
theorem run_findKey_str (w : World) (hk : P.underlying kt = some .string) (l : List (List UInt8 × List UInt8)) (x : List UInt8) :
    (look l x = none ∧ (Instr.findKey kt (.string (bs x)) (entA l).toList).run P w = .ok none w) ∨ (∃ v j, look l x = some v ∧ (Instr.findKey kt (.string (bs x)) (entA l).toList).run P w = .ok (some (j, .string (bs v))) w) := by
  unfold Instr.findKey
  simp only [Sem.run_bind, run_underlying hk, Result.andThen_ok, entA]
  rcases findNow_ents x l 0 0 with ⟨h1, h2⟩ | ⟨v, j, h1, h2⟩
  · exact .inl ⟨h1, by rw [h2]; rfl⟩
  · exact .inr ⟨v, j, h1, by rw [h2]; rfl⟩

theorem run_checkKey (w : World) (hk : P.underlying kt = some .string) (b : Bool) (s : ByteArray) : (Instr.checkKey b 10000 kt (.string s)).run P w = .ok () w := by
  rw [show (10000 : Nat) = 9999 + 1 from rfl, Instr.checkKey]
  simp [run_underlying hk]

theorem run_insert (ht : P.underlying t = some (.map kt et)) (hk : P.underlying kt = some .string) (l : List (List UInt8 × List UInt8)) (k v : List UInt8) (hn : look l k = none) (w : World) :
    (Instr.mapUpdate t (.map (some w.heap.size)) (.string (bs k)) (.string (bs v))).run P (w.alloc (.map (entA l) l.length)) = .ok () (w.alloc (.map (entA (l ++ [(k, v)])) (l.length + 1))) := by
  have hb := World.alloc_heap_new w (.map (entA l) l.length)
  have hf : ∀ w, (Instr.findKey kt (.string (bs k)) (entA l).toList).run P w = .ok none w := fun w => by
    rcases run_findKey_str (P := P) w hk l k with ⟨_, h⟩ | ⟨v', j, h, _⟩
    · exact h
    · rw [hn] at h; cases h
  unfold Instr.mapUpdate
  simp only [Sem.run_bind, run_underlying ht, Result.andThen_ok, getObj, setObj, Sem.run, hb, run_checkKey _ hk, hf]
  congr 1
  rw [entA_push]
  show World.mk _ _ _ _ _ = World.mk _ _ _ _ _
  congr 1
  show (w.heap.push _).setIfInBounds w.heap.size _ = w.heap.push _
  apply Array.ext_getElem?
  intro i
  rw [Array.getElem?_setIfInBounds, Array.getElem?_push, Array.getElem?_push]
  by_cases hi : i = w.heap.size
  · subst hi; simp
  · rw [if_neg (fun e => hi e.symm), if_neg hi, if_neg hi]

theorem run_lookup (ht : P.underlying t = some (.map kt et)) (hk : P.underlying kt = some .string) (hz : ∀ w, (zeroValue et).run P w = .ok (.string ByteArray.empty) w) (l : List (List UInt8 × List UInt8)) (x : List UInt8) (w : World) {b c : Nat} (hb : w.heap[b]? = some (.map (entA l) c)) :
    (Instr.lookup t (.map (some b)) (.string (bs x)) false).run P w = .ok (.string (bs ((look l x).getD []))) w := by
  unfold Instr.lookup
  rcases run_findKey_str (P := P) w hk l x with ⟨h1, h2⟩ | ⟨v', j, h1, h2⟩
  · simp [Sem.run_bind, run_underlying ht, getObj, Sem.run, hb, run_checkKey _ hk, h2, h1, hz, Result.andThen]
    rfl
  · simp [Sem.run_bind, run_underlying ht, getObj, Sem.run, hb, run_checkKey _ hk, h2, h1, Result.andThen]
end
end Go.Proofs.YtgodcegaffgfjaaGreatDoor
