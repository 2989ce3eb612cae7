
/- lang.langs and mudlarkref06.table: their contracts. -/
import Derived.Test.YtgodcegaffgfjaaGreatDoorRef06
import Derived.Test.YtgodcegaffgfjaaGreatDoorLitMap
namespace Go.Proofs.YtgodcegaffgfjaaGreatDoor
open Go.RowKit Go.Shelf

def tbl : List (List UInt8 × List UInt8) := [([99], [99]), ([104], [99]), ([99, 99], [99, 112, 112]), ([99, 112, 112], [99, 112, 112]), ([104, 112, 112], [99, 112, 112]), ([99, 115, 115], [99, 115, 115]), ([103, 111], [103, 111]), ([104, 116, 109, 108], [104, 116, 109, 108]), ([106, 97, 118, 97], [106, 97, 118, 97]), ([106, 115], [106, 97, 118, 97, 115, 99, 114, 105, 112, 116]), ([109, 106, 115], [106, 97, 118, 97, 115, 99, 114, 105, 112, 116]), ([106, 115, 111, 110], [106, 115, 111, 110]), ([109, 100], [109, 97, 114, 107, 100, 111, 119, 110]), ([112, 121], [112, 121, 116, 104, 111, 110]), ([114, 98], [114, 117, 98, 121]), ([114, 115], [114, 117, 115, 116]), ([115, 104], [115, 104, 101, 108, 108]), ([115, 113, 108], [115, 113, 108]), ([116, 120, 116], [116, 101, 120, 116]), ([116, 115], [116, 121, 112, 101, 115, 99, 114, 105, 112, 116]), ([121, 97, 109, 108], [121, 97, 109, 108]), ([121, 109, 108], [121, 97, 109, 108])]
def E (i : Nat) : Array MapEntry := entA (tbl.take i)

theorem ins_tbl (i : Nat) (k v : List UInt8) (hk : tbl[i]? = some (k, v)) (hn : look (tbl.take i) k = none) (w : World) :
    (Instr.mapUpdate 56 (.map (some w.heap.size)) (.string (bs k)) (.string (bs v))).run Tryz.prog (w.alloc (.map (E i) i)) = .ok () (w.alloc (.map (E (i + 1)) (i + 1))) := by
  have h := run_insert (P := Tryz.prog) Tryz.underlying56 Tryz.underlying9 (tbl.take i) k v hn w
  obtain ⟨hi, hk'⟩ := List.getElem?_eq_some_iff.1 hk
  have h1 : (tbl.take i).length = i := by rw [List.length_take]; omega
  rw [h1] at h
  unfold E
  rw [List.take_succ_eq_append_getElem hi, hk']
  exact h

set_option maxRecDepth 100000 in
set_option maxHeartbeats 1000000 in
theorem langs_any (w : World) : Calls Tryz.prog 30 #[] w fun e w' => e = .returned (.map (some w.heap.size)) ∧ w' = w.alloc (.map (E 22) 22) := by
  refine calls_opq fun R HR => ?_
  have hmm : ∀ w : World, (Instr.makeMap 56 none).run Tryz.prog w = .ok (.map (some w.heap.size)) (w.alloc (.map (E 0) 0)) := fun w => run_makeMap ..
  have h0 : ∀ w : World, (Instr.mapUpdate 56 (.map (some w.heap.size)) (.string ⟨#[99]⟩) (.string ⟨#[99]⟩)).run Tryz.prog (w.alloc (.map (E 0) 0)) = .ok () (w.alloc (.map (E 1) 1)) := fun w => ins_tbl 0 [99] [99] rfl (by decide +kernel) w
  have h1 : ∀ w : World, (Instr.mapUpdate 56 (.map (some w.heap.size)) (.string ⟨#[104]⟩) (.string ⟨#[99]⟩)).run Tryz.prog (w.alloc (.map (E 1) 1)) = .ok () (w.alloc (.map (E 2) 2)) := fun w => ins_tbl 1 [104] [99] rfl (by decide +kernel) w
  have h2 : ∀ w : World, (Instr.mapUpdate 56 (.map (some w.heap.size)) (.string ⟨#[99, 99]⟩) (.string ⟨#[99, 112, 112]⟩)).run Tryz.prog (w.alloc (.map (E 2) 2)) = .ok () (w.alloc (.map (E 3) 3)) := fun w => ins_tbl 2 [99, 99] [99, 112, 112] rfl (by decide +kernel) w
  have h3 : ∀ w : World, (Instr.mapUpdate 56 (.map (some w.heap.size)) (.string ⟨#[99, 112, 112]⟩) (.string ⟨#[99, 112, 112]⟩)).run Tryz.prog (w.alloc (.map (E 3) 3)) = .ok () (w.alloc (.map (E 4) 4)) := fun w => ins_tbl 3 [99, 112, 112] [99, 112, 112] rfl (by decide +kernel) w
  have h4 : ∀ w : World, (Instr.mapUpdate 56 (.map (some w.heap.size)) (.string ⟨#[104, 112, 112]⟩) (.string ⟨#[99, 112, 112]⟩)).run Tryz.prog (w.alloc (.map (E 4) 4)) = .ok () (w.alloc (.map (E 5) 5)) := fun w => ins_tbl 4 [104, 112, 112] [99, 112, 112] rfl (by decide +kernel) w
  have h5 : ∀ w : World, (Instr.mapUpdate 56 (.map (some w.heap.size)) (.string ⟨#[99, 115, 115]⟩) (.string ⟨#[99, 115, 115]⟩)).run Tryz.prog (w.alloc (.map (E 5) 5)) = .ok () (w.alloc (.map (E 6) 6)) := fun w => ins_tbl 5 [99, 115, 115] [99, 115, 115] rfl (by decide +kernel) w
  have h6 : ∀ w : World, (Instr.mapUpdate 56 (.map (some w.heap.size)) (.string ⟨#[103, 111]⟩) (.string ⟨#[103, 111]⟩)).run Tryz.prog (w.alloc (.map (E 6) 6)) = .ok () (w.alloc (.map (E 7) 7)) := fun w => ins_tbl 6 [103, 111] [103, 111] rfl (by decide +kernel) w
  have h7 : ∀ w : World, (Instr.mapUpdate 56 (.map (some w.heap.size)) (.string ⟨#[104, 116, 109, 108]⟩) (.string ⟨#[104, 116, 109, 108]⟩)).run Tryz.prog (w.alloc (.map (E 7) 7)) = .ok () (w.alloc (.map (E 8) 8)) := fun w => ins_tbl 7 [104, 116, 109, 108] [104, 116, 109, 108] rfl (by decide +kernel) w
  have h8 : ∀ w : World, (Instr.mapUpdate 56 (.map (some w.heap.size)) (.string ⟨#[106, 97, 118, 97]⟩) (.string ⟨#[106, 97, 118, 97]⟩)).run Tryz.prog (w.alloc (.map (E 8) 8)) = .ok () (w.alloc (.map (E 9) 9)) := fun w => ins_tbl 8 [106, 97, 118, 97] [106, 97, 118, 97] rfl (by decide +kernel) w
  have h9 : ∀ w : World, (Instr.mapUpdate 56 (.map (some w.heap.size)) (.string ⟨#[106, 115]⟩) (.string ⟨#[106, 97, 118, 97, 115, 99, 114, 105, 112, 116]⟩)).run Tryz.prog (w.alloc (.map (E 9) 9)) = .ok () (w.alloc (.map (E 10) 10)) := fun w => ins_tbl 9 [106, 115] [106, 97, 118, 97, 115, 99, 114, 105, 112, 116] rfl (by decide +kernel) w
  have h10 : ∀ w : World, (Instr.mapUpdate 56 (.map (some w.heap.size)) (.string ⟨#[109, 106, 115]⟩) (.string ⟨#[106, 97, 118, 97, 115, 99, 114, 105, 112, 116]⟩)).run Tryz.prog (w.alloc (.map (E 10) 10)) = .ok () (w.alloc (.map (E 11) 11)) := fun w => ins_tbl 10 [109, 106, 115] [106, 97, 118, 97, 115, 99, 114, 105, 112, 116] rfl (by decide +kernel) w
  have h11 : ∀ w : World, (Instr.mapUpdate 56 (.map (some w.heap.size)) (.string ⟨#[106, 115, 111, 110]⟩) (.string ⟨#[106, 115, 111, 110]⟩)).run Tryz.prog (w.alloc (.map (E 11) 11)) = .ok () (w.alloc (.map (E 12) 12)) := fun w => ins_tbl 11 [106, 115, 111, 110] [106, 115, 111, 110] rfl (by decide +kernel) w
  have h12 : ∀ w : World, (Instr.mapUpdate 56 (.map (some w.heap.size)) (.string ⟨#[109, 100]⟩) (.string ⟨#[109, 97, 114, 107, 100, 111, 119, 110]⟩)).run Tryz.prog (w.alloc (.map (E 12) 12)) = .ok () (w.alloc (.map (E 13) 13)) := fun w => ins_tbl 12 [109, 100] [109, 97, 114, 107, 100, 111, 119, 110] rfl (by decide +kernel) w
  have h13 : ∀ w : World, (Instr.mapUpdate 56 (.map (some w.heap.size)) (.string ⟨#[112, 121]⟩) (.string ⟨#[112, 121, 116, 104, 111, 110]⟩)).run Tryz.prog (w.alloc (.map (E 13) 13)) = .ok () (w.alloc (.map (E 14) 14)) := fun w => ins_tbl 13 [112, 121] [112, 121, 116, 104, 111, 110] rfl (by decide +kernel) w
  have h14 : ∀ w : World, (Instr.mapUpdate 56 (.map (some w.heap.size)) (.string ⟨#[114, 98]⟩) (.string ⟨#[114, 117, 98, 121]⟩)).run Tryz.prog (w.alloc (.map (E 14) 14)) = .ok () (w.alloc (.map (E 15) 15)) := fun w => ins_tbl 14 [114, 98] [114, 117, 98, 121] rfl (by decide +kernel) w
  have h15 : ∀ w : World, (Instr.mapUpdate 56 (.map (some w.heap.size)) (.string ⟨#[114, 115]⟩) (.string ⟨#[114, 117, 115, 116]⟩)).run Tryz.prog (w.alloc (.map (E 15) 15)) = .ok () (w.alloc (.map (E 16) 16)) := fun w => ins_tbl 15 [114, 115] [114, 117, 115, 116] rfl (by decide +kernel) w
  have h16 : ∀ w : World, (Instr.mapUpdate 56 (.map (some w.heap.size)) (.string ⟨#[115, 104]⟩) (.string ⟨#[115, 104, 101, 108, 108]⟩)).run Tryz.prog (w.alloc (.map (E 16) 16)) = .ok () (w.alloc (.map (E 17) 17)) := fun w => ins_tbl 16 [115, 104] [115, 104, 101, 108, 108] rfl (by decide +kernel) w
  have h17 : ∀ w : World, (Instr.mapUpdate 56 (.map (some w.heap.size)) (.string ⟨#[115, 113, 108]⟩) (.string ⟨#[115, 113, 108]⟩)).run Tryz.prog (w.alloc (.map (E 17) 17)) = .ok () (w.alloc (.map (E 18) 18)) := fun w => ins_tbl 17 [115, 113, 108] [115, 113, 108] rfl (by decide +kernel) w
  have h18 : ∀ w : World, (Instr.mapUpdate 56 (.map (some w.heap.size)) (.string ⟨#[116, 120, 116]⟩) (.string ⟨#[116, 101, 120, 116]⟩)).run Tryz.prog (w.alloc (.map (E 18) 18)) = .ok () (w.alloc (.map (E 19) 19)) := fun w => ins_tbl 18 [116, 120, 116] [116, 101, 120, 116] rfl (by decide +kernel) w
  have h19 : ∀ w : World, (Instr.mapUpdate 56 (.map (some w.heap.size)) (.string ⟨#[116, 115]⟩) (.string ⟨#[116, 121, 112, 101, 115, 99, 114, 105, 112, 116]⟩)).run Tryz.prog (w.alloc (.map (E 19) 19)) = .ok () (w.alloc (.map (E 20) 20)) := fun w => ins_tbl 19 [116, 115] [116, 121, 112, 101, 115, 99, 114, 105, 112, 116] rfl (by decide +kernel) w
  have h20 : ∀ w : World, (Instr.mapUpdate 56 (.map (some w.heap.size)) (.string ⟨#[121, 97, 109, 108]⟩) (.string ⟨#[121, 97, 109, 108]⟩)).run Tryz.prog (w.alloc (.map (E 20) 20)) = .ok () (w.alloc (.map (E 21) 21)) := fun w => ins_tbl 20 [121, 97, 109, 108] [121, 97, 109, 108] rfl (by decide +kernel) w
  have h21 : ∀ w : World, (Instr.mapUpdate 56 (.map (some w.heap.size)) (.string ⟨#[121, 109, 108]⟩) (.string ⟨#[121, 97, 109, 108]⟩)).run Tryz.prog (w.alloc (.map (E 21) 21)) = .ok () (w.alloc (.map (E 22) 22)) := fun w => ins_tbl 21 [121, 109, 108] [121, 97, 109, 108] rfl (by decide +kernel) w
  go_enter Tryz.func30, Tryz.ntmps30
  repeat' (first | go_values | go_skip | go_guarded | go_step | go_upon | go_in | go_back | ((with_reducible refine upon_id ?_); go_simp))
  exact HR.out _ _ ⟨rfl, rfl⟩
def tblCells : List Value := tbl.flatMap fun p => [.string (bs p.1), .string (bs p.2)]

set_option maxRecDepth 100000 in
set_option maxHeartbeats 1000000 in
theorem table_any (w : World) : Calls Tryz.prog 31 #[] w fun e w' => e = .returned (.slice (some ⟨w.heap.size, 0, none⟩) 22 22) ∧ w' = w.alloc (.cells tblCells.toArray 61) := by
  refine calls_opq fun R HR => ?_
  go_enter Tryz.func31, Tryz.ntmps31
  repeat' (first | go_values | go_skip | go_guarded | go_step | go_upon | go_in | go_back | ((with_reducible refine upon_id ?_); go_simp))
  exact HR.out _ _ ⟨rfl, rfl⟩
end Go.Proofs.YtgodcegaffgfjaaGreatDoor
