
/- lang.Of and mudlarkref06.Of: their contracts. -/
import Derived.Test.YtgodcegaffgfjaaGreatDoorTable06
import Derived.Deep.RegionWith
import Derived.Lib.LastIndexByte
namespace Go.Proofs.YtgodcegaffgfjaaGreatDoor
open Go.RowKit Go.Shelf

attribute [local go_sem] Oper.semAt_some

/-- The last point of l that is not its first byte, among the first k. -/
def refAt (l : List UInt8) : Nat → Int
  | 0 => -1
  | k + 1 => if 1 ≤ k ∧ l[k]? = some 46 then (k : Int) else refAt l k
def extOf (l : List UInt8) : Option (List UInt8) := if refAt l l.length < 1 then none else some (l.drop ((refAt l l.length).toNat + 1))
def lastPart (s : List UInt8) : List UInt8 := (splitL s).getLast (splitL_ne s)
def langOf (s : List UInt8) : List UInt8 := match extOf (lastPart s) with
  | none => []
  | some e => (look tbl e).getD []

theorem langOf_eq (s : List UInt8) : langOf s = if refAt (lastPart s) (lastPart s).length < 1 then [] else (look tbl ((lastPart s).drop ((refAt (lastPart s) (lastPart s).length).toNat + 1))).getD [] := by
  unfold langOf extOf
  by_cases h : refAt (lastPart s) (lastPart s).length < 1
  · simp [h]
  · simp [h]

theorem refAt_bd (l : List UInt8) (k : Nat) : refAt l k = -1 ∨ (1 ≤ refAt l k ∧ refAt l k < k) := by
  induction k with
  | zero => exact .inl rfl
  | succ k ih =>
    unfold refAt
    split
    · rename_i h; exact .inr ⟨by omega, by omega⟩
    · rcases ih with h | h
      · exact .inl h
      · exact .inr ⟨h.1, by omega⟩

theorem lastIdx_refAt (l : List UInt8) (k : Nat) (hk : k ≤ l.length) : (Lib.lastIdx (bs l) 46 k < 1 ∧ refAt l k = -1) ∨ (1 ≤ Lib.lastIdx (bs l) 46 k ∧ refAt l k = Lib.lastIdx (bs l) 46 k) := by
  induction k with
  | zero => exact .inl ⟨by simp [Lib.lastIdx], rfl⟩
  | succ k ih =>
    have hb : ((bs l).data[k]!) = l[k]'(by omega) := by
      simp [bs, show k < l.length by omega]
    unfold Lib.lastIdx refAt
    rw [hb]
    by_cases hc : l[k]'(by omega) = 46
    · rw [if_pos (by simp [hc])]
      by_cases h1 : 1 ≤ k
      · rw [if_pos ⟨h1, by rw [List.getElem?_eq_getElem (by omega), hc]⟩]
        exact .inr ⟨by omega, rfl⟩
      · obtain rfl : k = 0 := by omega
        rw [if_neg (by omega)]
        exact .inl ⟨by simp, rfl⟩
    · rw [if_neg (by intro e; exact hc (UInt8.toNat_inj.1 (by simpa using (by omega : (l[k]'(by omega)).toNat = 46)))), if_neg (by rw [List.getElem?_eq_getElem (by omega)]; simp [hc])]
      exact ih (by omega)

theorem extract_end (l : List UInt8) (a : Nat) : (bs l).extract a (bs l).size = bs (l.drop a) := by
  rw [extract_bs, bs_data, bs_size, List.take_of_length_le (by simp)]

set_option maxRecDepth 100000 in
set_option maxHeartbeats 1000000 in
theorem of_any (s : ByteArray) (w : World) (hs : s.size ≤ 1000000) :
    Calls Tryz.prog 15 #[.string s] w fun e w' => e = .returned (.string (bs (langOf s.data.toList))) ∧ Ext Nil w w' := by
  refine calls_opq fun R' HR' => ?_
  refine calls_of_wp_marks Tryz.func15 rfl ?_
  simp only [Tryz.ntmps15, List.size_toArray, List.length_cons, List.length_nil, Nat.reduceAdd, Nat.reduceSub, Array.replicate_succ, Array.replicate_zero, List.push_toArray, List.append_toArray, List.nil_append, List.cons_append]
  repeat' (first | (go_big_may; (go_at_call 34; refine (parts_any _ _).mono ?_; rintro e w' ⟨rfl, rfl⟩); (try dsimp only); try simp only [World.size_alloc]) | go_values | go_skip | go_guarded | go_step | go_upon | go_back | ((with_reducible refine upon_id ?_); go_simp))

  refine wp_range0 (gf := 74) (lb := #[.pointer (some ⟨w.heap.size + 1, 0, none⟩)]) rfl (enters_of Tryz.func74 (by kernel_rfl) rfl)
    (parts_iter s (by omega) (w.heap.size + 1) _ (by have := box_new (w.alloc (.cells #[.string ⟨#[]⟩] 9)) (.string s) 9; rwa [World.size_alloc] at this)) (fun _ => rfl)
    (fun k W => W.heap[w.heap.size]? = some (.cells #[.string (bs (((splitL s.data.toList).take k).getLast?.getD []))] 9 (0, 0)) ∧ Ext Nil w W)
    (fun c k W => False)
    (fun k A B h hx => ⟨hx.blk h.1 rfl (by simp), h.2.then_c hx (fun k hk e => absurd e (by omega)) (by simp [World.size_alloc]; try omega)⟩)
    (fun c k A B h hx => h)
    (by simp)
    ⟨blk_alloc (box_new _ _ _) _, ((Ext.refl _ _).alloc _).alloc _⟩ ?_ ?_ ?_
  · intro l k hk W hl hL hi
    repeat' (first | go_values | gi_guarded | gi_step | gi_upon | gi_in | gi_back | ((with_reducible refine uponIn_id ?_); go_simp))
    refine ⟨Ext.refl _ _, fun W₂ hx2 hsz hL2 R HR => ?_⟩
    obtain ⟨hb, hx⟩ := hi
    generalize hp : (splitL s.data.toList)[k] = p
    replace hb := hx2.blk hb rfl (fun c => c)
    have hc := box_cell hb
    have hf := box_free hb
    have HB := hid hb
    have HP := hid hp
    have hx2' : Ext Nil w W₂ := hx.then_c hx2 (fun _ _ c => c) (by simp [World.size_alloc]; try omega)
    clear hb hp hsz hL hx hl hL2 hx2
    repeat' (first | go_values | gi_guarded | gi_step | gi_upon | gi_in | gi_back | ((with_reducible refine uponIn_id ?_); go_simp))
    refine HR.out _ _ _ ⟨(Ext.refl _ _).setCell (.inl (by simp)) _, ?_, hx2'.setCell (.inr (Nat.le_refl _)) _⟩
    rw [List.take_succ_eq_append_getElem hk, HP.out]
    simpa using box_set HB.out _
  · intro D W hD hi hd
    obtain ⟨hb, hx⟩ := hi
    have hl : ((splitL s.data.toList).take (splitL s.data.toList).length).getLast?.getD [] = lastPart s.data.toList := by
      rw [List.take_length, List.getLast?_eq_some_getLast (splitL_ne _)]; rfl
    rw [hl] at hb
    have hlang := langOf_eq s.data.toList
    have hpl : (lastPart s.data.toList).length ≤ s.size := by
      have h := List.getLast_mem (splitL_ne s.data.toList)
      obtain ⟨k, hk, he⟩ := List.getElem_of_mem h
      have := splitL_len hk
      rw [he] at this
      unfold lastPart
      simpa using this
    revert hb hlang hpl
    generalize lastPart s.data.toList = p
    intro hb hlang hpl
    have hc := box_cell hb
    have HB := hid hb
    have HL := hid hlang
    have hsz := hx.size
    have hbs : (bs p).size = p.length := bs_size p
    have hw : w.heap.size < W.heap.size := blk_lt HB.out
    have hri : Lib.lastIndexByte (bs p) 46 = Lib.lastIdx (bs p) 46 p.length := by unfold Lib.lastIndexByte; rw [hbs]
    clear hb hlang hl
    have hfin := HL.out
    clear HL
    rcases lastIdx_refAt p p.length (Nat.le_refl _) with ⟨h1, h2⟩ | ⟨h1, h2⟩
    · rw [h2, if_pos (by omega)] at hfin
      have HF := hid hfin
      rw [← hri] at h1
      clear hfin hri hbs h2
      obtain ⟨i, hi⟩ : ∃ i, Lib.lastIndexByte (bs p) 46 = i := ⟨_, rfl⟩
      rw [hi] at h1
      have HI := hid hi
      clear hi
      repeat' (first | (go_big_may; (go_at_call 36; refine (Tryz.strings_LastIndexByte _ _ (by rw [bs_size]; omega) _).mono ?_; rw [HI.out]; rintro e w' ⟨rfl, rfl⟩); (try dsimp only); try simp only [World.size_alloc]) | go_values | go_skip | go_guarded | go_step | go_upon | go_back | ((with_reducible refine upon_id ?_); go_simp))
      exact leave1 rfl hd (results_tmp rfl _ _ _) (HR'.out _ _ ⟨by rw [HF.out]; rfl, hx.putObj_new (by simp [World.size_alloc] at hD; omega) _⟩)
    · rw [h2, if_neg (by omega)] at hfin
      obtain ⟨n, hn⟩ := Int.eq_ofNat_of_zero_le (show 0 ≤ Lib.lastIdx (bs p) 46 p.length by omega)
      rw [hn] at h1 hfin hri
      have hnl : n < p.length := by have := refAt_bd p p.length; rw [h2, hn] at this; omega
      have HF := hid hfin
      have HI := hid hri
      clear hfin hri h2 hn
      have hlk : ∀ W : World, (Instr.lookup 56 (.map (some W.heap.size)) (.string ((bs p).extract (n + 1) p.length)) false).run Tryz.prog (W.alloc (.map (E 22) 22)).drew = .ok (.string (bs ((look tbl (p.drop (n + 1))).getD []))) (W.alloc (.map (E 22) 22)).drew := fun W => by
        rw [← bs_size p, extract_end]
        exact run_lookup (P := Tryz.prog) Tryz.underlying56 Tryz.underlying9 Tryz.zeroValue9 (tbl.take 22) (p.drop (n + 1)) _ (World.alloc_heap_new W _)
      repeat' (first | (go_big_may; (go_at_call 36; refine (Tryz.strings_LastIndexByte _ _ (by rw [bs_size]; omega) _).mono ?_; rw [HI.out]; rintro e w' ⟨rfl, rfl⟩); (try dsimp only); try simp only [World.size_alloc]) | go_values | go_skip | go_guarded | go_step | go_upon | go_back | ((with_reducible refine upon_id ?_); go_simp))
      have hbz : n + 1 ≤ (bs p).size := by rw [bs_size]; omega
      have hbz1 : (n : Int) + 1 ≤ ((bs p).size : Int) := by rw [bs_size]; omega
      have hbz2 : ((bs p).size : Int) ≤ 1000000 := by rw [bs_size]; omega
      have hz0 : (0 : Int) ≤ (n : Int) + 1 := by omega
      have hz1 : IntKind.i64.wrap ((n : Int) + 1) = (n : Int) + 1 := IntWalk.i64_in _ (by rw [bs_size] at *; omega)
      have hz2 : ((n : Int) + 1).toNat = n + 1 := by omega
      go_region_with (go_at_call 30; refine (langs_any _).mono ?_; rintro e w1 ⟨rfl, rfl⟩)
      all_goals repeat' (first | go_values | go_skip | go_guarded | go_step | go_upon | go_in | go_back | ((with_reducible refine upon_id ?_); go_simp))
      all_goals exact leave1 rfl (blk_alloc hd _) (results_tmp rfl _ _ _) (HR'.out _ _ ⟨by rw [HF.out]; rfl, ((hx.alloc _).drew).putObj_new (by simp [World.size_alloc] at hD; omega) _⟩)
  · intro D c k W hD hk hi hd
    exact hi.elim

theorem refParts_ne (s : ByteArray) (w : World) (hs : s.size ≤ 1000000) (p : List UInt8) (hlast : (splitL s.data.toList)[(splitL s.data.toList).length - 1]? = some p) :
    Calls Tryz.prog 35 #[.string s] w fun e w' => ∃ g m cap, e = .returned (.slice (some ⟨g, 0, none⟩) (m + 1) cap) ∧ m ≤ s.size ∧ m + 1 ≤ cap ∧ cap ≤ maxLen ∧
      w'.cell? ⟨g, m, none⟩ = some (.string (bs p)) ∧ Ext Nil w w' := by
  refine (refParts_any s w hs).mono ?_
  rintro e w' ⟨v, rfl, hown, hx⟩
  have hne := splitL_ne s.data.toList
  have hlp : 0 < (splitL s.data.toList).length := List.length_pos_iff.2 hne
  have hln : (splitL s.data.toList).length ≤ s.size + 1 := by
    have := splitL_count s.data.toList; simpa using this
  obtain ⟨g, cap, he, _, hnc, hc⟩ := hown.cell (j := (splitL s.data.toList).length - 1) (by simp [strs]; omega)
  refine ⟨g, (splitL s.data.toList).length - 1, cap, ?_, by omega, by omega, ?_, ?_, hx⟩
  · rw [he, Nat.sub_add_cancel hlp]
  · rcases hown.form with ⟨_, h, _⟩ | ⟨g', cap', cur, he', _, _, _, h, _⟩
    · omega
    · rw [he] at he'; cases he'; exact h
  · rw [hc]
    rw [all_strs _ _ (by omega)]
    rw [List.getElem?_eq_getElem (by omega)] at hlast
    rw [Option.some.inj hlast]
theorem tblCells_at (i : Nat) (hi : i < 22) : tblCells[2 * i]? = some (.string (bs ((tbl.getD i ([], [])).1))) ∧ tblCells[2 * i + 1]? = some (.string (bs ((tbl.getD i ([], [])).2))) := by
  have h : ∀ i, i < 22 → tblCells[2 * i]? = some (.string (bs ((tbl.getD i ([], [])).1))) ∧ tblCells[2 * i + 1]? = some (.string (bs ((tbl.getD i ([], [])).2))) := by
    intro i hi
    have : i = 0 ∨ i = 1 ∨ i = 2 ∨ i = 3 ∨ i = 4 ∨ i = 5 ∨ i = 6 ∨ i = 7 ∨ i = 8 ∨ i = 9 ∨ i = 10 ∨ i = 11 ∨ i = 12 ∨ i = 13 ∨ i = 14 ∨ i = 15 ∨ i = 16 ∨ i = 17 ∨ i = 18 ∨ i = 19 ∨ i = 20 ∨ i = 21 := by omega
    rcases this with h | h | h | h | h | h | h | h | h | h | h | h | h | h | h | h | h | h | h | h | h | h <;> subst h <;> exact ⟨rfl, rfl⟩
  exact h i hi

theorem look_drop (i : Nat) (hi : i < 22) (x : List UInt8) : look (tbl.drop i) x = if (tbl.getD i ([], [])).1 = x then some (tbl.getD i ([], [])).2 else look (tbl.drop (i + 1)) x := by
  have h22 : tbl.length = 22 := rfl
  rw [List.drop_eq_getElem_cons (by omega)]
  have : tbl.getD i ([], []) = tbl[i]'(by omega) := by simp [List.getD, show i < tbl.length by omega]
  rw [this]
  generalize tbl[i]'(by omega) = kv
  obtain ⟨k, v⟩ := kv
  rfl

set_option maxRecDepth 100000 in
set_option maxHeartbeats 1000000 in
theorem refOf_any (s : ByteArray) (w : World) (hs : s.size ≤ 1000000) :
    Calls Tryz.prog 16 #[.string s] w fun e w' => e = .returned (.string (bs (langOf s.data.toList))) ∧ Ext Nil w w' := by
  refine calls_opq fun R HR => ?_
  have hl := langOf_eq s.data.toList
  have hpl : (lastPart s.data.toList).length ≤ s.size := by
    have h := List.getLast_mem (splitL_ne s.data.toList)
    obtain ⟨k, hk, he⟩ := List.getElem_of_mem h
    have := splitL_len hk
    rw [he] at this
    unfold lastPart
    simpa using this
  have hlast : (splitL s.data.toList)[(splitL s.data.toList).length - 1]? = some (lastPart s.data.toList) := by
    unfold lastPart
    rw [List.getLast_eq_getElem, List.getElem?_eq_getElem]
  revert hl hpl hlast
  generalize lastPart s.data.toList = p
  intro hl hpl hlast
  have HL := hid hl
  have HLAST := hid hlast
  clear hl hlast
  go_enter Tryz.func16, Tryz.ntmps16
  repeat' (first | (go_big_may; (go_at_call 35; refine (refParts_ne s _ hs p HLAST.out).mono ?_; rintro e w' ⟨g, m, cap, rfl, hm, hmc, hcm, hc, hx⟩); (try dsimp only); try simp only [World.size_alloc]) | go_values | go_skip | go_guarded | go_step | go_upon | go_back | ((with_reducible refine upon_id ?_); go_simp))
  have hpz : (bs p).size = p.length := bs_size p
  have HPZ := hid hpz
  have hbp : (bs p).size ≤ 1000000 := by rw [hpz]; omega
  clear hpz
  go_loopg [5, 6] ((bs p).size + 1) (fun gk at_ i wr => ∃ k : Nat, i = .int .i64 k ∧ at_ = .int .i64 (refAt p k) ∧ 1 ≤ k ∧ k ≤ max 1 (bs p).size ∧ gk = (bs p).size + 2 - k ∧ wr = w')
  case atStart => exact ⟨1, rfl, by simp [refAt], by omega, by omega, by omega, rfl⟩
  case round =>
    obtain ⟨k, rfl, rfl, hk1, hk, hg, rfl⟩ := hrel
    have HG := hid hg
    clear hg
    by_cases hlt : k < (bs p).size
    · have hkp : k < p.length := by rw [← HPZ.out]; exact hlt
      have hgk : p[k]? = some ((bs p)[k]'hlt) := by rw [List.getElem?_eq_getElem hkp]; simp [bs]; rfl
      have hs1 : refAt p (k + 1) = if (bs p)[k]'hlt = 46 then (k : Int) else refAt p k := by
        rw [refAt, hgk]; simp [hk1]
      have HS1 := hid hs1
      clear hs1 hgk hkp
      by_cases h46 : (bs p)[k]'hlt = 46
      · have d1 : ((((bs p)[k]'hlt).toNat : Int) == 46) = true := byte_is h46
        have H46 := hid h46
        clear h46
        repeat' (first | go_values | go_skip | go_guarded | go_step | go_upon | go_in | go_back | ((with_reducible refine upon_id ?_); go_simp))
        go_roundg ((bs p).size + 2 - (k + 1))
        case measure => have := HG.out; omega
        case rel =>
          refine ⟨k + 1, by go_num, ?_, by omega, by omega, rfl, rfl⟩
          rw [HS1.out, if_pos H46.out]
      · have d1 : ((((bs p)[k]'hlt).toNat : Int) == 46) = false := byte_isnt h46
        have H46 := hid h46
        clear h46
        repeat' (first | go_values | go_skip | go_guarded | go_step | go_upon | go_in | go_back | ((with_reducible refine upon_id ?_); go_simp))
        go_roundg ((bs p).size + 2 - (k + 1))
        case measure => have := HG.out; omega
        case rel =>
          refine ⟨k + 1, by go_num, ?_, by omega, by omega, rfl, rfl⟩
          rw [HS1.out, if_neg H46.out]
    · have hat : refAt p k = refAt p p.length := by
        by_cases h0 : k = p.length
        · rw [h0]
        · have h1 : k = 1 := by rw [← HPZ.out] at h0; omega
          have h2 : p.length = 0 := by rw [← HPZ.out]; rw [← HPZ.out] at h0; omega
          rw [h1, h2]; simp [refAt]
      have hbd := refAt_bd p p.length
      have HL1 := HL.out
      rw [← hat] at HL1 hbd
      have hb1 : refAt p k = -1 ∨ (1 ≤ refAt p k ∧ refAt p k < ((bs p).size : Int)) := by rw [HPZ.out]; exact hbd
      revert HL1 hb1
      generalize refAt p k = at_
      intro HL1 hb1
      have HL' := hid HL1
      clear HL1 HL hat hbd
      rcases hb1 with rfl | ⟨hb1, hb2⟩
      · repeat' (first | (go_big_may; (go_at_call 31; refine (table_any _).mono ?_; rintro e w1 ⟨rfl, rfl⟩); (try dsimp only); try simp only [World.size_alloc]) | go_values | go_skip | go_guarded | go_step | go_upon | go_back | ((with_reducible refine upon_id ?_); go_simp))
        refine wp_loop_rounds 1 ?_
        rw [rounds_succ]
        repeat' (first | go_values | go_skip | go_guarded | go_step | go_upon | go_in | go_back | ((with_reducible refine upon_id ?_); go_simp))
        exact HR.out _ _ ⟨by rw [HL'.out]; rfl, hx.alloc _⟩
      · obtain ⟨n, rfl⟩ := Int.eq_ofNat_of_zero_le (show 0 ≤ at_ by omega)
        have hfin : langOf s.data.toList = (look (tbl.drop 0) (p.drop (n + 1))).getD [] := by
          rw [HL'.out, if_neg (by omega)]; rfl
        have HF := hid hfin
        clear hfin HL'
        repeat' (first | (go_big_may; (go_at_call 31; refine (table_any _).mono ?_; rintro e w1 ⟨rfl, rfl⟩); (try dsimp only); try simp only [World.size_alloc]) | go_values | go_skip | go_guarded | go_step | go_upon | go_back | ((with_reducible refine upon_id ?_); go_simp))
        have hcells : ∀ j, j < 22 → (wr.alloc (.cells tblCells.toArray 61)).cell? ⟨wr.heap.size, j * 2, none⟩ = some (.string (bs (tbl.getD j ([], [])).1)) ∧ (wr.alloc (.cells tblCells.toArray 61)).cell? ⟨wr.heap.size, j * 2 + 1, none⟩ = some (.string (bs (tbl.getD j ([], [])).2)) := by
          intro j hj
          have := tblCells_at j hj
          rw [Nat.mul_comm 2 j] at this
          have hb := World.alloc_heap_new wr (.cells tblCells.toArray 61)
          simp only [World.cell?, hb]
          simpa using this
        have HC := hid hcells
        have hx2 : Ext Nil w (wr.alloc (.cells tblCells.toArray 61)) := hx.alloc _
        clear hcells
        generalize wr.heap.size = bb at *
        generalize wr.alloc (.cells tblCells.toArray 61) = w2 at *
        go_loopg [8] 23 (fun gk i wr => ∃ (j q : Nat), i = .int .i64 j ∧ j ≤ 22 ∧ gk = 23 - j ∧ wr = w2.drewN q ∧ Hid (langOf s.data.toList = (look (tbl.drop j) (p.drop (n + 1))).getD []))
        case atStart => exact ⟨0, 0, rfl, by omega, rfl, rfl, HF⟩
        case round =>
          obtain ⟨j, q, rfl, hj, hg, rfl, HJ⟩ := hrel
          have HG := hid hg
          clear hg
          by_cases hj22 : j < 22
          · obtain ⟨hc1, hc2⟩ := HC.out j hj22
            have hlk := look_drop j hj22 (p.drop (n + 1))
            revert hc1 hc2 hlk
            generalize (tbl.getD j ([], [])).1 = ke
            generalize (tbl.getD j ([], [])).2 = va
            intro hc1 hc2 hlk
            have HLK := hid hlk
            clear hlk
            have hz0 : (0 : Int) ≤ (n : Int) + 1 := by omega
            have hz1 : IntKind.i64.wrap ((n : Int) + 1) = (n : Int) + 1 := IntWalk.i64_in _ (by omega)
            have hz2 : ((n : Int) + 1).toNat = n + 1 := by omega
            have hz3 : (n : Int) + 1 ≤ ((bs p).size : Int) := by omega
            have hz4 : (j : Int) < 22 := by omega
            by_cases he : ke = p.drop (n + 1)
            · have he1 : ((bs ke).toList == ((bs p).extract (n + 1) (bs p).size).toList) = true := by rw [extract_end, bs_toList, bs_toList, he]; simp
              have HE := hid he
              clear he
              repeat' (first | go_values | go_skip | go_guarded | go_step | go_upon | go_in | go_back | ((with_reducible refine upon_id ?_); go_simp))
              go_quiet (fail)
              repeat' (first | go_values | go_skip | go_guarded | go_step | go_upon | go_in | go_back | ((with_reducible refine upon_id ?_); go_simp))
              exact HR.out _ _ ⟨by rw [HJ.out, HLK.out, if_pos HE.out]; rfl, hx2.drewN _⟩
            · have he1 : ((bs ke).toList == ((bs p).extract (n + 1) (bs p).size).toList) = false := by
                rw [extract_end, bs_toList, bs_toList, beq_eq_false_iff_ne]; exact he
              have HE := hid he
              clear he
              repeat' (first | go_values | go_skip | go_guarded | go_step | go_upon | go_in | go_back | ((with_reducible refine upon_id ?_); go_simp))
              go_quiet (fail)
              repeat' (first | go_values | go_skip | go_guarded | go_step | go_upon | go_in | go_back | ((with_reducible refine upon_id ?_); go_simp))
              go_roundg (23 - (j + 1))
              case measure => have := HG.out; omega
              case rel => exact ⟨j + 1, _, by go_num, by omega, rfl, rfl, hid (by rw [HJ.out, HLK.out, if_neg HE.out])⟩
          · obtain rfl : j = 22 := by omega
            repeat' (first | go_values | go_skip | go_guarded | go_step | go_upon | go_in | go_back | ((with_reducible refine upon_id ?_); go_simp))
            exact HR.out _ _ ⟨by rw [HJ.out]; rfl, hx2.drewN _⟩
end Go.Proofs.YtgodcegaffgfjaaGreatDoor
