
/- lang.langs and mudlarkref06.table: their contracts. -/
import Derived.Test.YtohpeoakdgckfaaGreatEng
import Derived.MapKept
import Derived.Test.YtohpeoakdgckfaaGreatRef06
namespace Go.Proofs.YtohpeoakdgckfaaGreat
open Go.RowKit

/-- The entries of a literal, in the text's order. -/
def ents : List (List UInt8 × List UInt8) → Nat → List MapEntry
  | [], _ => []
  | (k, v) :: l, c => { key := .string (bs k), val := .string (bs v), born := c } :: ents l (c + 1)
def entA (l : List (List UInt8 × List UInt8)) : Array MapEntry := (ents l 0).toArray

def look : List (List UInt8 × List UInt8) → List UInt8 → Option (List UInt8)
  | [], _ => none
  | (k, v) :: l, x => if k = x then some v else look l x

theorem bs_inj {a b : List UInt8} (h : bs a = bs b) : a = b := by
  have := congrArg (fun s : ByteArray => s.data.toList) h
  simpa [bs] using this
theorem bs_beq (a b : List UInt8) : (bs a == bs b) = decide (a = b) := by
  rw [Bool.eq_iff_iff, MapKept.bytes_beq, decide_eq_true_eq]
  exact ⟨bs_inj, fun e => by rw [e]⟩

theorem findNow_ents (x : List UInt8) : ∀ (l : List (List UInt8 × List UInt8)) (c i : Nat),
    (look l x = none ∧ Instr.findNow .string (.string (bs x)) (ents l c) i = some none) ∨ (∃ v j, look l x = some v ∧ Instr.findNow .string (.string (bs x)) (ents l c) i = some (some (j, .string (bs v)))) := by
  intro l
  induction l with
  | nil => intro c i; exact .inl ⟨rfl, rfl⟩
  | cons kv l ih =>
    obtain ⟨k, v⟩ := kv
    intro c i
    unfold ents Instr.findNow
    simp only [Instr.sameNow, bs_beq]
    by_cases h : k = x
    · subst h
      exact .inr ⟨v, i, by simp [look], by simp⟩
    · have h' : ¬ x = k := fun e => h e.symm
      simp only [look, if_neg h, decide_eq_false h']
      exact ih (c + 1) (i + 1)

theorem ents_append (a b : List (List UInt8 × List UInt8)) : ∀ c, ents (a ++ b) c = ents a c ++ ents b (c + a.length) := by
  induction a with
  | nil => intro c; simp [ents]
  | cons x a ih => intro c; simp only [List.cons_append, ents, ih, List.length_cons]; rw [show c + 1 + a.length = c + (a.length + 1) by omega]

theorem entA_push (l : List (List UInt8 × List UInt8)) (k v : List UInt8) : (entA l).push { key := .string (bs k), val := .string (bs v), born := l.length } = entA (l ++ [(k, v)]) := by
  simp [entA, ents_append, ents]

section
variable {P : Program} {t kt et : TypeId}
theorem run_findKey_str (w : World) (hk : P.underlying kt = some .string) (l : List (List UInt8 × List UInt8)) (x : List UInt8) :
    (look l x = none ∧ (Instr.findKey kt (.string (bs x)) (entA l).toList).run P w = .ok none w) ∨ (∃ v j, look l x = some v ∧ (Instr.findKey kt (.string (bs x)) (entA l).toList).run P w = .ok (some (j, .string (bs v))) w) := by
  unfold Instr.findKey
  simp only [Sem.run_bind, run_underlying hk, Result.andThen_ok, entA]
  rcases findNow_ents x l 0 0 with ⟨h1, h2⟩ | ⟨v, j, h1, h2⟩
  · exact .inl ⟨h1, by rw [h2]; rfl⟩
  · exact .inr ⟨v, j, h1, by rw [h2]; rfl⟩

theorem run_checkKey (w : World) (hk : P.underlying kt = some .string) (b : Bool) (s : ByteArray) : (Instr.checkKey b 10000 kt (.string s)).run P w = .ok () w := by
  rw [show (10000 : Nat) = 9999 + 1 from rfl, Instr.checkKey]
  simp [run_underlying hk]

theorem run_insert (ht : P.underlying t = some (.map kt et)) (hk : P.underlying kt = some .string) (l : List (List UInt8 × List UInt8)) (k v : List UInt8) (hn : look l k = none) (w : World) :
    (Instr.mapUpdate t (.map (some w.heap.size)) (.string (bs k)) (.string (bs v))).run P (w.alloc (.map (entA l) l.length)) = .ok () (w.alloc (.map (entA (l ++ [(k, v)])) (l.length + 1))) := by
  have hb := World.alloc_heap_new w (.map (entA l) l.length)
  have hf : ∀ w, (Instr.findKey kt (.string (bs k)) (entA l).toList).run P w = .ok none w := fun w => by
    rcases run_findKey_str (P := P) w hk l k with ⟨_, h⟩ | ⟨v', j, h, _⟩
    · exact h
    · rw [hn] at h; cases h
  unfold Instr.mapUpdate
  simp only [Sem.run_bind, run_underlying ht, Result.andThen_ok, getObj, setObj, Sem.run, hb, run_checkKey _ hk, hf]
  congr 1
  rw [entA_push]
  show World.mk _ _ _ _ _ = World.mk _ _ _ _ _
  congr 1
  show (w.heap.push _).setIfInBounds w.heap.size _ = w.heap.push _
  apply Array.ext_getElem?
  intro i
  rw [Array.getElem?_setIfInBounds, Array.getElem?_push, Array.getElem?_push]
  by_cases hi : i = w.heap.size
  · subst hi; simp
  · rw [if_neg (fun e => hi e.symm), if_neg hi, if_neg hi]

theorem run_lookup (ht : P.underlying t = some (.map kt et)) (hk : P.underlying kt = some .string) (hz : ∀ w, (zeroValue et).run P w = .ok (.string ByteArray.empty) w) (l : List (List UInt8 × List UInt8)) (x : List UInt8) (w : World) {b c : Nat} (hb : w.heap[b]? = some (.map (entA l) c)) :
    (Instr.lookup t (.map (some b)) (.string (bs x)) false).run P w = .ok (.string (bs ((look l x).getD []))) w := by
  unfold Instr.lookup
  rcases run_findKey_str (P := P) w hk l x with ⟨h1, h2⟩ | ⟨v', j, h1, h2⟩
  · simp [Sem.run_bind, run_underlying ht, getObj, Sem.run, hb, run_checkKey _ hk, h2, h1, hz, Result.andThen]
    rfl
  · simp [Sem.run_bind, run_underlying ht, getObj, Sem.run, hb, run_checkKey _ hk, h2, h1, Result.andThen]
end
end Go.Proofs.YtohpeoakdgckfaaGreat

namespace Go.Proofs.YtohpeoakdgckfaaGreat
open Go.RowKit Go.Shelf

def tbl : List (List UInt8 × List UInt8) := [([99], [99]), ([104], [99]), ([99, 99], [99, 112, 112]), ([99, 112, 112], [99, 112, 112]), ([104, 112, 112], [99, 112, 112]), ([99, 115, 115], [99, 115, 115]), ([103, 111], [103, 111]), ([104, 116, 109, 108], [104, 116, 109, 108]), ([106, 97, 118, 97], [106, 97, 118, 97]), ([106, 115], [106, 97, 118, 97, 115, 99, 114, 105, 112, 116]), ([109, 106, 115], [106, 97, 118, 97, 115, 99, 114, 105, 112, 116]), ([106, 115, 111, 110], [106, 115, 111, 110]), ([109, 100], [109, 97, 114, 107, 100, 111, 119, 110]), ([112, 121], [112, 121, 116, 104, 111, 110]), ([114, 98], [114, 117, 98, 121]), ([114, 115], [114, 117, 115, 116]), ([115, 104], [115, 104, 101, 108, 108]), ([115, 113, 108], [115, 113, 108]), ([116, 120, 116], [116, 101, 120, 116]), ([116, 115], [116, 121, 112, 101, 115, 99, 114, 105, 112, 116]), ([121, 97, 109, 108], [121, 97, 109, 108]), ([121, 109, 108], [121, 97, 109, 108])]
def E (i : Nat) : Array MapEntry := entA (tbl.take i)

theorem ins_tbl (i : Nat) (k v : List UInt8) (hk : tbl[i]? = some (k, v)) (hn : look (tbl.take i) k = none) (w : World) :
    (Instr.mapUpdate 205 (.map (some w.heap.size)) (.string (bs k)) (.string (bs v))).run Tryz.prog (w.alloc (.map (E i) i)) = .ok () (w.alloc (.map (E (i + 1)) (i + 1))) := by
  have h := run_insert (P := Tryz.prog) Tryz.underlying205 Tryz.underlying9 (tbl.take i) k v hn w
  obtain ⟨hi, hk'⟩ := List.getElem?_eq_some_iff.1 hk
  have h1 : (tbl.take i).length = i := by rw [List.length_take]; omega
  rw [h1] at h
  unfold E
  rw [List.take_succ_eq_append_getElem hi, hk']
  exact h

set_option maxRecDepth 100000 in
set_option maxHeartbeats 1000000 in
theorem langs_any (w : World) : Calls Tryz.prog 137 #[] w fun e w' => e = .returned (.map (some w.heap.size)) ∧ w' = w.alloc (.map (E 22) 22) := by
  refine calls_opq fun R HR => ?_
  have hmm : ∀ w : World, (Instr.makeMap 205 none).run Tryz.prog w = .ok (.map (some w.heap.size)) (w.alloc (.map (E 0) 0)) := fun w => run_makeMap ..
  have h0 : ∀ w : World, (Instr.mapUpdate 205 (.map (some w.heap.size)) (.string ⟨#[99]⟩) (.string ⟨#[99]⟩)).run Tryz.prog (w.alloc (.map (E 0) 0)) = .ok () (w.alloc (.map (E 1) 1)) := fun w => ins_tbl 0 [99] [99] rfl (by decide +kernel) w
  have h1 : ∀ w : World, (Instr.mapUpdate 205 (.map (some w.heap.size)) (.string ⟨#[104]⟩) (.string ⟨#[99]⟩)).run Tryz.prog (w.alloc (.map (E 1) 1)) = .ok () (w.alloc (.map (E 2) 2)) := fun w => ins_tbl 1 [104] [99] rfl (by decide +kernel) w
  have h2 : ∀ w : World, (Instr.mapUpdate 205 (.map (some w.heap.size)) (.string ⟨#[99, 99]⟩) (.string ⟨#[99, 112, 112]⟩)).run Tryz.prog (w.alloc (.map (E 2) 2)) = .ok () (w.alloc (.map (E 3) 3)) := fun w => ins_tbl 2 [99, 99] [99, 112, 112] rfl (by decide +kernel) w
  have h3 : ∀ w : World, (Instr.mapUpdate 205 (.map (some w.heap.size)) (.string ⟨#[99, 112, 112]⟩) (.string ⟨#[99, 112, 112]⟩)).run Tryz.prog (w.alloc (.map (E 3) 3)) = .ok () (w.alloc (.map (E 4) 4)) := fun w => ins_tbl 3 [99, 112, 112] [99, 112, 112] rfl (by decide +kernel) w
  have h4 : ∀ w : World, (Instr.mapUpdate 205 (.map (some w.heap.size)) (.string ⟨#[104, 112, 112]⟩) (.string ⟨#[99, 112, 112]⟩)).run Tryz.prog (w.alloc (.map (E 4) 4)) = .ok () (w.alloc (.map (E 5) 5)) := fun w => ins_tbl 4 [104, 112, 112] [99, 112, 112] rfl (by decide +kernel) w
  have h5 : ∀ w : World, (Instr.mapUpdate 205 (.map (some w.heap.size)) (.string ⟨#[99, 115, 115]⟩) (.string ⟨#[99, 115, 115]⟩)).run Tryz.prog (w.alloc (.map (E 5) 5)) = .ok () (w.alloc (.map (E 6) 6)) := fun w => ins_tbl 5 [99, 115, 115] [99, 115, 115] rfl (by decide +kernel) w
  have h6 : ∀ w : World, (Instr.mapUpdate 205 (.map (some w.heap.size)) (.string ⟨#[103, 111]⟩) (.string ⟨#[103, 111]⟩)).run Tryz.prog (w.alloc (.map (E 6) 6)) = .ok () (w.alloc (.map (E 7) 7)) := fun w => ins_tbl 6 [103, 111] [103, 111] rfl (by decide +kernel) w
  have h7 : ∀ w : World, (Instr.mapUpdate 205 (.map (some w.heap.size)) (.string ⟨#[104, 116, 109, 108]⟩) (.string ⟨#[104, 116, 109, 108]⟩)).run Tryz.prog (w.alloc (.map (E 7) 7)) = .ok () (w.alloc (.map (E 8) 8)) := fun w => ins_tbl 7 [104, 116, 109, 108] [104, 116, 109, 108] rfl (by decide +kernel) w
  have h8 : ∀ w : World, (Instr.mapUpdate 205 (.map (some w.heap.size)) (.string ⟨#[106, 97, 118, 97]⟩) (.string ⟨#[106, 97, 118, 97]⟩)).run Tryz.prog (w.alloc (.map (E 8) 8)) = .ok () (w.alloc (.map (E 9) 9)) := fun w => ins_tbl 8 [106, 97, 118, 97] [106, 97, 118, 97] rfl (by decide +kernel) w
  have h9 : ∀ w : World, (Instr.mapUpdate 205 (.map (some w.heap.size)) (.string ⟨#[106, 115]⟩) (.string ⟨#[106, 97, 118, 97, 115, 99, 114, 105, 112, 116]⟩)).run Tryz.prog (w.alloc (.map (E 9) 9)) = .ok () (w.alloc (.map (E 10) 10)) := fun w => ins_tbl 9 [106, 115] [106, 97, 118, 97, 115, 99, 114, 105, 112, 116] rfl (by decide +kernel) w
  have h10 : ∀ w : World, (Instr.mapUpdate 205 (.map (some w.heap.size)) (.string ⟨#[109, 106, 115]⟩) (.string ⟨#[106, 97, 118, 97, 115, 99, 114, 105, 112, 116]⟩)).run Tryz.prog (w.alloc (.map (E 10) 10)) = .ok () (w.alloc (.map (E 11) 11)) := fun w => ins_tbl 10 [109, 106, 115] [106, 97, 118, 97, 115, 99, 114, 105, 112, 116] rfl (by decide +kernel) w
  have h11 : ∀ w : World, (Instr.mapUpdate 205 (.map (some w.heap.size)) (.string ⟨#[106, 115, 111, 110]⟩) (.string ⟨#[106, 115, 111, 110]⟩)).run Tryz.prog (w.alloc (.map (E 11) 11)) = .ok () (w.alloc (.map (E 12) 12)) := fun w => ins_tbl 11 [106, 115, 111, 110] [106, 115, 111, 110] rfl (by decide +kernel) w
  have h12 : ∀ w : World, (Instr.mapUpdate 205 (.map (some w.heap.size)) (.string ⟨#[109, 100]⟩) (.string ⟨#[109, 97, 114, 107, 100, 111, 119, 110]⟩)).run Tryz.prog (w.alloc (.map (E 12) 12)) = .ok () (w.alloc (.map (E 13) 13)) := fun w => ins_tbl 12 [109, 100] [109, 97, 114, 107, 100, 111, 119, 110] rfl (by decide +kernel) w
  have h13 : ∀ w : World, (Instr.mapUpdate 205 (.map (some w.heap.size)) (.string ⟨#[112, 121]⟩) (.string ⟨#[112, 121, 116, 104, 111, 110]⟩)).run Tryz.prog (w.alloc (.map (E 13) 13)) = .ok () (w.alloc (.map (E 14) 14)) := fun w => ins_tbl 13 [112, 121] [112, 121, 116, 104, 111, 110] rfl (by decide +kernel) w
  have h14 : ∀ w : World, (Instr.mapUpdate 205 (.map (some w.heap.size)) (.string ⟨#[114, 98]⟩) (.string ⟨#[114, 117, 98, 121]⟩)).run Tryz.prog (w.alloc (.map (E 14) 14)) = .ok () (w.alloc (.map (E 15) 15)) := fun w => ins_tbl 14 [114, 98] [114, 117, 98, 121] rfl (by decide +kernel) w
  have h15 : ∀ w : World, (Instr.mapUpdate 205 (.map (some w.heap.size)) (.string ⟨#[114, 115]⟩) (.string ⟨#[114, 117, 115, 116]⟩)).run Tryz.prog (w.alloc (.map (E 15) 15)) = .ok () (w.alloc (.map (E 16) 16)) := fun w => ins_tbl 15 [114, 115] [114, 117, 115, 116] rfl (by decide +kernel) w
  have h16 : ∀ w : World, (Instr.mapUpdate 205 (.map (some w.heap.size)) (.string ⟨#[115, 104]⟩) (.string ⟨#[115, 104, 101, 108, 108]⟩)).run Tryz.prog (w.alloc (.map (E 16) 16)) = .ok () (w.alloc (.map (E 17) 17)) := fun w => ins_tbl 16 [115, 104] [115, 104, 101, 108, 108] rfl (by decide +kernel) w
  have h17 : ∀ w : World, (Instr.mapUpdate 205 (.map (some w.heap.size)) (.string ⟨#[115, 113, 108]⟩) (.string ⟨#[115, 113, 108]⟩)).run Tryz.prog (w.alloc (.map (E 17) 17)) = .ok () (w.alloc (.map (E 18) 18)) := fun w => ins_tbl 17 [115, 113, 108] [115, 113, 108] rfl (by decide +kernel) w
  have h18 : ∀ w : World, (Instr.mapUpdate 205 (.map (some w.heap.size)) (.string ⟨#[116, 120, 116]⟩) (.string ⟨#[116, 101, 120, 116]⟩)).run Tryz.prog (w.alloc (.map (E 18) 18)) = .ok () (w.alloc (.map (E 19) 19)) := fun w => ins_tbl 18 [116, 120, 116] [116, 101, 120, 116] rfl (by decide +kernel) w
  have h19 : ∀ w : World, (Instr.mapUpdate 205 (.map (some w.heap.size)) (.string ⟨#[116, 115]⟩) (.string ⟨#[116, 121, 112, 101, 115, 99, 114, 105, 112, 116]⟩)).run Tryz.prog (w.alloc (.map (E 19) 19)) = .ok () (w.alloc (.map (E 20) 20)) := fun w => ins_tbl 19 [116, 115] [116, 121, 112, 101, 115, 99, 114, 105, 112, 116] rfl (by decide +kernel) w
  have h20 : ∀ w : World, (Instr.mapUpdate 205 (.map (some w.heap.size)) (.string ⟨#[121, 97, 109, 108]⟩) (.string ⟨#[121, 97, 109, 108]⟩)).run Tryz.prog (w.alloc (.map (E 20) 20)) = .ok () (w.alloc (.map (E 21) 21)) := fun w => ins_tbl 20 [121, 97, 109, 108] [121, 97, 109, 108] rfl (by decide +kernel) w
  have h21 : ∀ w : World, (Instr.mapUpdate 205 (.map (some w.heap.size)) (.string ⟨#[121, 109, 108]⟩) (.string ⟨#[121, 97, 109, 108]⟩)).run Tryz.prog (w.alloc (.map (E 21) 21)) = .ok () (w.alloc (.map (E 22) 22)) := fun w => ins_tbl 21 [121, 109, 108] [121, 97, 109, 108] rfl (by decide +kernel) w
  go_enter Tryz.func137, Tryz.ntmps137
  repeat' (first | go_values | go_skip | go_guarded | go_step | go_upon | go_in | go_back | ((with_reducible refine upon_id ?_); go_simp))
  exact HR.out _ _ ⟨rfl, rfl⟩

def tblCells : List Value := tbl.flatMap fun p => [.string (bs p.1), .string (bs p.2)]

set_option maxRecDepth 100000 in
set_option maxHeartbeats 1000000 in
theorem table_any (w : World) : Calls Tryz.prog 157 #[] w fun e w' => e = .returned (.slice (some ⟨w.heap.size, 0, none⟩) 22 22) ∧ w' = w.alloc (.cells tblCells.toArray 230) := by
  refine calls_opq fun R HR => ?_
  go_enter Tryz.func157, Tryz.ntmps157
  repeat' (first | go_values | go_skip | go_guarded | go_step | go_upon | go_in | go_back | ((with_reducible refine upon_id ?_); go_simp))
  exact HR.out _ _ ⟨rfl, rfl⟩
end Go.Proofs.YtohpeoakdgckfaaGreat
