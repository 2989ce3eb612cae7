
/- mudlarkref06: parts, Right: their contracts. -/
import Derived.Test.YtgodcegaffgfjaaGreatDoorRight
namespace Go.Proofs.YtgodcegaffgfjaaGreatDoor
open Go.RowKit Go.Shelf

theorem splitL_app {a b : List UInt8} (h : (47 : UInt8) ∉ a) : splitL (a ++ 47 :: b) = a :: splitL b := by
  induction a with
  | nil => simp [splitL]
  | cons x a ih =>
    have hx : x ≠ 47 := fun e => h (by simp [e])
    have ha : (47 : UInt8) ∉ a := fun e => h (by simp [e])
    rw [List.cons_append, splitL, if_neg hx, ih ha]
theorem splitL_solid {a : List UInt8} (h : (47 : UInt8) ∉ a) : splitL a = [a] := by
  induction a with
  | nil => rfl
  | cons x a ih =>
    have hx : x ≠ 47 := fun e => h (by simp [e])
    have ha : (47 : UInt8) ∉ a := fun e => h (by simp [e])
    rw [splitL, if_neg hx, ih ha]

theorem info_string : (Tryz.prog.info? 9).map (fun i => (i.zero, i.size, i.bytes)) = some (some (.string ByteArray.empty), 1, 16) := by kernel_rfl

theorem splitL_count (l : List UInt8) : (splitL l).length ≤ l.length + 1 := by
  induction l with
  | nil => simp [splitL]
  | cons b l ih =>
    unfold splitL
    split
    · simp; omega
    · split
      · rename_i h; rw [h] at ih; simp at *; omega
      · simp

/-- After k places: what has been put out, where the piece under way begins. -/
structure PartsAt (s : List UInt8) (k f : Nat) (out : List (List UInt8)) : Prop where
  le : f ≤ k
  len : out.length ≤ k
  eq : splitL s = out ++ splitL (s.drop f)
  solid : (47 : UInt8) ∉ (s.drop f).take (k - f)

theorem PartsAt.zero (s : List UInt8) : PartsAt s 0 0 [] := ⟨Nat.le_refl _, by simp, by simp, by simp⟩
theorem drop_cut {s : List UInt8} {f k : Nat} (hf : f ≤ k) (hk : k < s.length) : s.drop f = (s.drop f).take (k - f) ++ s[k] :: s.drop (k + 1) := by
  have h1 : s.drop f = (s.drop f).take (k - f) ++ (s.drop f).drop (k - f) := (List.take_append_drop _ _).symm
  rw [List.drop_drop, show f + (k - f) = k by omega, List.drop_eq_getElem_cons hk] at h1
  exact h1
theorem PartsAt.cut {s : List UInt8} {k f : Nat} {out : List (List UInt8)} (h : PartsAt s k f out) (hk : k < s.length) (hs : s[k] = 47) : PartsAt s (k + 1) (k + 1) (out ++ [(s.drop f).take (k - f)]) := by
  refine ⟨Nat.le_refl _, by simpa using h.len, ?_, by simp⟩
  have h1 := drop_cut h.le hk
  have h2 : splitL (s.drop f) = (s.drop f).take (k - f) :: splitL (s.drop (k + 1)) := by
    rw [hs] at h1
    conv => lhs; rw [h1]
    exact splitL_app h.solid
  rw [h.eq, h2]; simp
theorem PartsAt.step {s : List UInt8} {k f : Nat} {out : List (List UInt8)} (h : PartsAt s k f out) (hk : k < s.length) (hs : s[k] ≠ 47) : PartsAt s (k + 1) f out := by
  refine ⟨Nat.le_trans h.le (Nat.le_succ _), Nat.le_trans h.len (Nat.le_succ _), h.eq, ?_⟩
  have h1 := drop_cut h.le hk
  have h2 : (s.drop f).take (k + 1 - f) = (s.drop f).take (k - f) ++ [s[k]] := by
    have h3 : k - f < (s.drop f).length := by simp; have := h.le; omega
    have := h.le
    rw [show k + 1 - f = (k - f) + 1 by omega, List.take_succ_eq_append_getElem h3]
    simp [show f + (k - f) = k by omega]
  rw [h2]
  simp only [List.mem_append, List.mem_singleton, not_or]
  exact ⟨h.solid, fun e => hs e.symm⟩
theorem PartsAt.last {s : List UInt8} {f : Nat} {out : List (List UInt8)} (h : PartsAt s s.length f out) : splitL s = out ++ [(s.drop f).take (s.length - f)] := by
  have h1 : (s.drop f).take (s.length - f) = s.drop f := List.take_of_length_le (by simp)
  have h2 := h.solid
  rw [h1] at h2 ⊢
  rw [h.eq, splitL_solid h2]

theorem extract_bs (s : ByteArray) (f k : Nat) : s.extract f k = bs ((s.data.toList.drop f).take (k - f)) := by
  apply ByteArray.ext
  simp [bs]
  apply Array.ext'
  simp [List.extract_eq_take_drop]

def strs (l : List (List UInt8)) : List Value := l.map fun p => .string (bs p)

set_option maxRecDepth 100000 in
set_option maxHeartbeats 1000000 in
theorem refParts_any (s : ByteArray) (w : World) (hs : s.size ≤ 1000000) :
    Calls Tryz.prog 35 #[.string s] w fun e w' => ∃ v, e = .returned v ∧
      Row w' (fun g => w.heap.size ≤ g) 9 1 v (splitL s.data.toList).length (strs (splitL s.data.toList)) ∧ Ext Nil w w' := by
  obtain ⟨i0, hi, hz0, hz1, hz2⟩ := info_parts info_string
  refine calls_opq fun R HR => ?_
  go_enter Tryz.func35, Tryz.ntmps35
  repeat' (first | go_values | go_skip | go_guarded | go_step | go_upon | go_in | go_back | ((with_reducible refine upon_id ?_); go_simp))
  go_loopg [3, 4, 5] (s.size + 2) (fun g out fr i wr => ∃ (k f : Nat) (l : List (List UInt8)), i = .int .i64 k ∧ fr = .int .i64 f ∧ g = s.size + 2 - k ∧ k ≤ s.size + 1 ∧ f ≤ k ∧ l.length ≤ k ∧
      Hid (if k ≤ s.size then PartsAt s.data.toList k f l else splitL s.data.toList = l) ∧ Row wr (fun g => w.heap.size ≤ g) 9 1 out l.length (strs l) ∧ Ext Nil w wr)
  case atStart => exact ⟨0, 0, [], rfl, rfl, rfl, by omega, by omega, by simp, hid (by simpa using PartsAt.zero _), Row.nil _ _ _ _, Ext.refl _ _⟩
  case round =>
    obtain ⟨k, f, l, rfl, rfl, hg, hk, hf, hl, HP, hown, hx⟩ := hrel
    have HG := hid hg
    have hsz := hx.size
    clear hg
    have hlen : s.data.toList.length = s.size := by simp
    have HLEN := hid hlen
    clear hlen
    by_cases hlt : k < s.size
    · have h1 : ((k : Int) == (s.size : Int)) = false := by simp; omega
      have hPA : PartsAt s.data.toList k f l := by have := HP.out; rwa [if_pos (by omega)] at this
      have hgk : s[k] = s.data.toList[k]'(by rw [HLEN.out]; exact hlt) := by simp; rfl
      have HGK := hid hgk
      have HPA := hid hPA
      clear hgk hPA
      by_cases h47 : s[k] = 47
      · have h2 : ((s[k].toNat : Int) == 47) = true := by simp [h47]
        have H47 := hid h47
        clear h47
        go_wp2_with (at_builtin; rw [extract_bs]; refine wpList_push rfl _ _ 24 rfl 9 i0 (.string ByteArray.empty) 1 16 Tryz.underlying24 hi hz0 hz1 hz2 rfl (by decide) rfl hown (fun g hg => by omega) [.string (bs ((s.data.toList.drop f).take (k - f)))] rfl (by simp [Value.oneCell']) rfl (by omega) ?_; intro v' w1 hown' hx1)
        go_roundg (s.size + 2 - (k + 1))
        case measure => have := HG.out; omega
        case rel =>
          refine ⟨k + 1, k + 1, l ++ [(s.data.toList.drop f).take (k - f)], by go_num, by go_num, rfl, by omega, by omega, by simp; omega, ?_, ?_, ?_⟩
          · refine hid ?_
            rw [if_pos (by omega)]
            exact HPA.out.cut _ (by rw [← HGK.out]; exact H47.out)
          · simpa [strs] using hown'
          · exact hx.trans' hx1 (fun k hk h => absurd h (by omega))
      · have h2 : ((s[k].toNat : Int) == 47) = false := by
          rw [beq_eq_false_iff_ne]; intro h; exact h47 (UInt8.toNat_inj.1 (by simpa using (by omega : s[k].toNat = 47)))
        have H47 := hid h47
        clear h47
        repeat' (first | go_values | go_skip | go_guarded | go_step | go_upon | go_in | go_back | ((with_reducible refine upon_id ?_); go_simp))
        go_roundg (s.size + 2 - (k + 1))
        case measure => have := HG.out; omega
        case rel =>
          refine ⟨k + 1, f, l, by go_num, rfl, rfl, by omega, by omega, by omega, ?_, hown, hx⟩
          refine hid ?_
          rw [if_pos (by omega)]
          exact HPA.out.step _ (by rw [← HGK.out]; exact H47.out)
    · by_cases he : k = s.size
      · subst he
        have h1 : ((s.size : Int) == (s.size : Int)) = true := by simp
        have hPA : PartsAt s.data.toList s.data.toList.length f l := by have := HP.out; rw [if_pos (by omega)] at this; rwa [HLEN.out]
        have HPA := hid hPA
        clear hPA hlt hk
        go_wp2_with (at_builtin; rw [extract_bs]; refine wpList_push rfl _ _ 24 rfl 9 i0 (.string ByteArray.empty) 1 16 Tryz.underlying24 hi hz0 hz1 hz2 rfl (by decide) rfl hown (fun g hg => by omega) [.string (bs ((s.data.toList.drop f).take (s.size - f)))] rfl (by simp [Value.oneCell']) rfl (by omega) ?_; intro v' w1 hown' hx1)
        go_roundg (s.size + 2 - (s.size + 1))
        case measure => have := HG.out; omega
        case rel =>
          refine ⟨s.size + 1, s.size + 1, l ++ [(s.data.toList.drop f).take (s.size - f)], by go_num, by go_num, rfl, by omega, by omega, by simp; omega, ?_, ?_, ?_⟩
          · refine hid ?_
            rw [if_neg (by omega)]
            have := HPA.out.last
            rw [HLEN.out] at this
            exact this
          · simpa [strs] using hown'
          · exact hx.trans' hx1 (fun k hk h => absurd h (by omega))
      · have hk2 : k = s.size + 1 := by omega
        subst hk2
        have he : splitL s.data.toList = l := by have := HP.out; rwa [if_neg (by omega)] at this
        have HE := hid he
        clear he hlt hk
        repeat' (first | go_values | go_skip | go_guarded | go_step | go_upon | go_in | go_back | ((with_reducible refine upon_id ?_); go_simp))
        refine HR.out _ _ ⟨_, rfl, ?_, hx⟩
        rw [HE.out]
        exact hown
theorem all_strs (l : List (List UInt8)) (j : Nat) (h : j < l.length) : (strs l)[j]'(by simpa [strs] using h) = .string (bs l[j]) := by simp [strs]

theorem take_all_snoc {α : Type} {l : List α} {p : α → Bool} {k : Nat} (h : k < l.length) : (l.take (k + 1)).all p = ((l.take k).all p && p l[k]) := by
  rw [List.take_succ_eq_append_getElem h, List.all_append]; simp

theorem take_all_snoc' {α : Type} {l : List α} {p : α → Bool} {k : Nat} {x : α} (h : l[k]? = some x) : (l.take (k + 1)).all p = ((l.take k).all p && p x) := by
  obtain ⟨hk, rfl⟩ := List.getElem?_eq_some_iff.1 h
  exact take_all_snoc hk


def refOk (s : List UInt8) : Bool := decide (0 < s.length) && decide (s.length ≤ 200) && s.all byteOk && (splitL s).all nameOk
theorem refOk_bytes {s : List UInt8} {k : Nat} (hk : k < s.length) (h : byteOk s[k] = false) : refOk s = false := by
  have : s.all byteOk = false := by rw [List.all_eq_false]; exact ⟨s[k], List.getElem_mem hk, by simp [h]⟩
  simp [refOk, this]
theorem refOk_names {s p : List UInt8} {k : Nat} (hk : (splitL s)[k]? = some p) (h : nameOk p = false) : refOk s = false := by
  have : (splitL s).all nameOk = false := by rw [List.all_eq_false]; exact ⟨p, List.mem_of_getElem? hk, by simp [h]⟩
  simp [refOk, this]

set_option maxRecDepth 100000 in
set_option maxHeartbeats 1000000 in
theorem refRight_any (s : ByteArray) (w : World) (hs : s.size ≤ 1000000) :
    Calls Tryz.prog 14 #[.string s] w fun e w' => e = .returned (.bool (refOk s.data.toList)) ∧ Ext Nil w w' := by
  refine calls_opq fun R HR => ?_
  have hlen : s.data.toList.length = s.size := by simp
  have HLEN := hid hlen
  clear hlen
  go_enter Tryz.func14, Tryz.ntmps14
  by_cases h0 : s.size < 1
  · go_wp2
    refine HR.out _ _ ⟨?_, Ext.refl _ _⟩
    simp [refOk, HLEN.out, show ¬ 0 < s.size by omega]
  · by_cases h2 : s.size > 200
    · go_wp2
      refine HR.out _ _ ⟨?_, Ext.refl _ _⟩
      simp [refOk, HLEN.out, show ¬ s.size ≤ 200 by omega]
    · go_wp2
      go_loopg [3] (s.size + 1) (fun g i wr => ∃ k : Nat, i = .int .i64 k ∧ k ≤ s.size ∧ g = s.size + 1 - k ∧ Hid ((s.data.toList.take k).all byteOk = true) ∧ wr = w)
      case atStart => exact ⟨0, rfl, by omega, by omega, rfl, rfl⟩
      case round =>
        obtain ⟨k, rfl, hk, hg, HA, rfl⟩ := hrel
        have HG := hid hg
        clear hg
        by_cases hlt : k < s.size
        · have hgk : s[k] = s.data.toList[k]'(by rw [HLEN.out]; exact hlt) := by simp; rfl
          have HGK := hid hgk
          clear hgk
          cases hbo : byteOk s[k]
          · have hfin : refOk s.data.toList = false := refOk_bytes (k := k) (by rw [HLEN.out]; exact hlt) (by rw [← HGK.out]; exact hbo)
            have HF := hid hfin
            clear hfin
            by_cases h1 : s[k] < 32
            · have d1 := byte_lt h1
              clear h1 hbo
              repeat' (first | go_values | go_skip | go_guarded | go_step | go_upon | go_in | go_back | ((with_reducible refine upon_id ?_); go_simp))
              exact HR.out _ _ ⟨by rw [HF.out] <;> rfl, Ext.refl _ _⟩
            · have d1 := byte_ge h1
              have d2 := byte_bad hbo h1
              clear h1 hbo
              repeat' (first | go_values | go_skip | go_guarded | go_step | go_upon | go_in | go_back | ((with_reducible refine upon_id ?_); go_simp))
              exact HR.out _ _ ⟨by rw [HF.out] <;> rfl, Ext.refl _ _⟩
          · obtain ⟨d1, d2⟩ := byte_good hbo
            have HBO := hid hbo
            clear hbo
            repeat' (first | go_values | go_skip | go_guarded | go_step | go_upon | go_in | go_back | ((with_reducible refine upon_id ?_); go_simp))
            go_roundg (s.size + 1 - (k + 1))
            case measure => have := HG.out; omega
            case rel =>
              refine ⟨k + 1, by go_num, by omega, rfl, hid ?_, rfl⟩
              rw [take_all_snoc (by rw [HLEN.out]; exact hlt), HA.out, ← HGK.out, HBO.out]; rfl
        · have hks : k = s.size := by omega
          subst hks
          have hall : s.data.toList.all byteOk = true := by
            have := HA.out; rwa [List.take_of_length_le (by rw [HLEN.out]; exact Nat.le_refl _)] at this
          have HALL := hid hall
          clear hall hlt
          go_wp2_with (go_at_call 35; refine (refParts_any s _ hs).mono ?_; rintro e w' ⟨v, rfl, hown, hx⟩)
          have hln : (splitL s.data.toList).length ≤ s.size + 1 := by
            have := splitL_count s.data.toList; rw [HLEN.out] at this; exact this
          rcases hown.form with ⟨rfl, hz, _⟩ | ⟨g, cap, cur, rfl, hgg, hh, hnc, hcm, hcs, ht⟩
          · exact absurd (List.eq_nil_of_length_eq_zero hz) (splitL_ne _)
          · have HOWN := hid hown
            clear hown hh ht hcs
            generalize hn : (splitL s.data.toList).length = n at *
            have HN := hid hn
            clear hn
            go_loopg [5] (n + 1) (fun g i wr => ∃ k : Nat, i = .int .i64 k ∧ k ≤ n ∧ g = n + 1 - k ∧ Hid (((splitL s.data.toList).take k).all nameOk = true) ∧ wr = w')
            case atStart => exact ⟨0, rfl, by omega, by omega, rfl, rfl⟩
            case round =>
              obtain ⟨k, rfl, hk, hg, HA, rfl⟩ := hrel
              have HG := hid hg
              clear hg
              by_cases hlt : k < n
              · have hlt' : k < (splitL s.data.toList).length := by rw [HN.out]; exact hlt
                obtain ⟨g', cap', he, _, _, hc⟩ := HOWN.out.cell (j := k) (by simpa [strs] using hlt')
                simp only [Value.slice.injEq, Option.some.injEq, Addr.mk.injEq] at he
                obtain ⟨⟨rfl, _⟩, _, rfl⟩ := he
                rw [all_strs _ _ hlt'] at hc
                have HP := hid (List.getElem?_eq_getElem hlt')
                generalize (splitL s.data.toList)[k] = p at *
                clear hlt'
                cases hno : nameOk p
                · have hfin : refOk s.data.toList = false := refOk_names HP.out hno
                  have HF := hid hfin
                  clear hfin
                  by_cases e1 : p = []
                  · have t1 : (bs p).toList.isEmpty = true := by rw [bs_toList, e1]; rfl
                    clear e1 hno
                    repeat' (first | go_values | go_skip | go_guarded | go_step | go_upon | go_in | go_back | ((with_reducible refine upon_id ?_); go_simp))
                    exact HR.out _ _ ⟨by rw [HF.out] <;> rfl, hx⟩
                  · have t1 := nm1 e1
                    by_cases e2 : p = [46]
                    · have t2 : ((bs p).toList == [46]) = true := by rw [bs_toList, e2]; rfl
                      clear e1 e2 hno
                      repeat' (first | go_values | go_skip | go_guarded | go_step | go_upon | go_in | go_back | ((with_reducible refine upon_id ?_); go_simp))
                      exact HR.out _ _ ⟨by rw [HF.out] <;> rfl, hx⟩
                    · have t2 := nm2 e2
                      have t3 := nm3 hno e1 e2
                      clear e1 e2 hno
                      repeat' (first | go_values | go_skip | go_guarded | go_step | go_upon | go_in | go_back | ((with_reducible refine upon_id ?_); go_simp))
                      exact HR.out _ _ ⟨by rw [HF.out] <;> rfl, hx⟩
                · obtain ⟨t1, t2, t3⟩ := nmt hno
                  have HNO := hid hno
                  clear hno
                  repeat' (first | go_values | go_skip | go_guarded | go_step | go_upon | go_in | go_back | ((with_reducible refine upon_id ?_); go_simp))
                  go_roundg (n + 1 - (k + 1))
                  case measure => have := HG.out; omega
                  case rel =>
                    refine ⟨k + 1, by go_num, by omega, rfl, hid ?_, rfl⟩
                    rw [take_all_snoc' HP.out, HA.out, HNO.out]; rfl
              · have hks : k = n := by omega
                subst hks
                have hfin : refOk s.data.toList = true := by
                  have h1 := HA.out
                  rw [List.take_of_length_le (by rw [HN.out]; exact Nat.le_refl _)] at h1
                  simp only [refOk, HALL.out, h1, HLEN.out, show 0 < s.size by omega, show s.size ≤ 200 by omega, decide_true, Bool.and_self]
                have HF := hid hfin
                clear hfin hlt
                repeat' (first | go_values | go_skip | go_guarded | go_step | go_upon | go_in | go_back | ((with_reducible refine upon_id ?_); go_simp))
                exact HR.out _ _ ⟨by rw [HF.out] <;> rfl, hx⟩
end Go.Proofs.YtgodcegaffgfjaaGreatDoor
