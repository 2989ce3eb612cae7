
/- lang.parts: an iterator over a path's parts; its contract. -/
import Derived.Test.YtgodcegaffgfjaaGreatDoorCut
namespace Go.Proofs.YtgodcegaffgfjaaGreatDoor
open Go.RowKit Go.Shelf

attribute [local go_sem] Oper.semAt_some

/-- The parts of a path, given as a list of bytes. -/
def splitL : List UInt8 → List (List UInt8)
  | [] => [[]]
  | b :: l => if b = 47 then [] :: splitL l else match splitL l with
    | p :: ps => (b :: p) :: ps
    | [] => [[b]]

theorem splitL_ne (l : List UInt8) : splitL l ≠ [] := by
  cases l with
  | nil => simp [splitL]
  | cons b l =>
    unfold splitL
    split
    · simp
    · split <;> simp


theorem splitL_none {l : List UInt8} (h : Lib.indexByte l 47 < 0) : splitL l = [l] := by
  induction l with
  | nil => rfl
  | cons b l ih =>
    unfold Lib.indexByte at h
    split at h
    · simp at h
    · rename_i hb
      have hl : Lib.indexByte l 47 < 0 := by
        split at h
        · rename_i h2; simp at h2; omega
        · have := Lib.indexByte_ge l 47; rename_i h2; simp at h2; omega
      unfold splitL
      rw [if_neg (by simpa using hb), ih hl]

theorem splitL_some {l : List UInt8} {n : Nat} (h : Lib.indexByte l 47 = n) : splitL l = l.take n :: splitL (l.drop (n + 1)) := by
  induction l generalizing n with
  | nil => simp [Lib.indexByte] at h
  | cons b l ih =>
    unfold Lib.indexByte at h
    split at h
    · rename_i hb
      obtain rfl : n = 0 := by omega
      show splitL (b :: l) = [] :: splitL l
      rw [splitL, if_pos (by simpa using hb)]
    · rename_i hb
      split at h
      · omega
      · obtain ⟨m, rfl⟩ : ∃ m, n = m + 1 := ⟨n - 1, by have := Lib.indexByte_ge l 47; rename_i h2; simp at h2; omega⟩
        have := ih (n := m) (by omega)
        rw [splitL, if_neg (by simpa using hb), this]
        simp

theorem cut1_rest {s : ByteArray} (h : (cut1 47 s).2.2 = true) : splitL s.data.toList = (cut1 47 s).1.data.toList :: splitL (cut1 47 s).2.1.data.toList := by
  unfold cut1 at h ⊢
  split
  · rename_i h0; simp [h0] at h
  · rename_i h0
    obtain ⟨n, hn⟩ := Int.eq_ofNat_of_zero_le (show 0 ≤ Lib.indexByte s.data.toList 47 by omega)
    rw [splitL_some hn, hn]
    simp only [Int.toNat_natCast, ByteArray.data_extract, Array.toList_extract, List.extract_eq_take_drop, List.drop_zero, Nat.sub_zero]
    rw [List.take_of_length_le (l := List.drop (n + 1) s.data.toList) (by simp)]
theorem cut1_last {s : ByteArray} (h : (cut1 47 s).2.2 = false) : splitL s.data.toList = [(cut1 47 s).1.data.toList] := by
  unfold cut1 at h ⊢
  split
  · rename_i h0; rw [splitL_none h0]
  · rename_i h0; simp [h0] at h
theorem cut1_le {s : ByteArray} : (cut1 47 s).2.1.size ≤ s.size := by
  unfold cut1
  split
  · simp
  · simp [ByteArray.size_extract]


set_option maxRecDepth 100000 in
set_option maxHeartbeats 1000000 in
theorem parts_iter (s : ByteArray) (hs : s.size ≤ 4611686018427387904) (Bx : Nat) (w : World) (hB : w.heap[Bx]? = some (.cells #[.string s] 9 (0, 0))) :
    Iter Tryz.prog 74 #[.pointer (some ⟨Bx, 0, none⟩)] (fun x : List UInt8 => #[Value.string (bs x)]) (splitL s.data.toList) (· = Bx) (· = Bx) w := by
  intro l J Jx W hW hJ hJx hY h0
  have hBx : W.heap[Bx]? = some (.cells #[.string s] 9 (0, 0)) := hW.blk hB rfl (fun c => c)
  refine callsIn_of_wp Tryz.func74 rfl trivial ?_ rfl
  simp only [Tryz.ntmps74, List.size_toArray, List.length_cons, List.length_nil, Nat.reduceAdd, Nat.reduceSub, Array.replicate_succ, Array.replicate_zero, List.push_toArray, List.append_toArray, List.nil_append, List.cons_append]
  gi_wp2
  gi_loopg [3] ((splitL s.data.toList).length + 1) (fun g m wr => (∃ k r, k < (splitL s.data.toList).length ∧ m = .bool true ∧ r.size ≤ s.size ∧ g = (splitL s.data.toList).length - k + 1 ∧ Hid (splitL r.data.toList = (splitL s.data.toList).drop k) ∧ wr.heap[Bx]? = some (.cells #[.string r] 9 (0, 0)) ∧ J k wr) ∨
      (m = .bool false ∧ J (splitL s.data.toList).length wr))
  case atStart =>
    exact .inl ⟨0, s, by have := splitL_ne s.data.toList; cases h : splitL s.data.toList <;> simp_all, rfl, Nat.le_refl _, rfl, rfl, hBx, h0⟩
  case round =>
    rcases hrel with ⟨k, r, hk, rfl, hr, hg, HS, hb, hj⟩ | ⟨rfl, hj⟩
    · have hc := box_cell hb
      have hf := box_free hb
      have HG := hid hg
      have HB := hid hb
      have HJ := hid hj
      have HY := hid hY
      have HJJ := hid hJ
      clear hb hj hY hJ hJx hg
      cases hm : (cut1 47 r).2.2
      all_goals
        gi_wp2_with fail
        refine ⟨trivial, rfl, (in9 (strCut_any r 47 _ (by omega))).mono ?_⟩
        rintro e w1 ⟨rfl, n, rfl⟩
        gi_wp2_with fail
        have hx0 : ExtC (· = Bx) W.heap.size wr ((wr.drewN n).setCell ⟨Bx, 0, none⟩ (.string (cut1 47 r).2.1)) := (((Ext.refl (· = Bx) wr).drewN n).setCell (p := ⟨Bx, 0, none⟩) (.inl rfl) _).c _
        have hxk : (splitL s.data.toList)[k] = (cut1 47 r).1.data.toList := by
          have h1 : (splitL r.data.toList)[0]? = (splitL s.data.toList)[k]? := by rw [HS.out]; simp
          rw [List.getElem?_eq_getElem hk] at h1
          first
          | (rw [cut1_rest hm] at h1; simpa using h1.symm)
          | (rw [cut1_last hm] at h1; simpa using h1.symm)
        obtain ⟨fn, tmps, assign, body, hy, hR⟩ := HY.out k hk _ (HJJ.out _ _ _ HJ.out hx0)
        rw [hxk, bs_eta] at hy
        rw [hy, Oper.uponIn_round]
        have HM := hid hm
        clear hm hy hxk
        refine ⟨by simp [Fence.wide], hR.mono ?_⟩
        have hb1 : ((wr.drewN n).setCell ⟨Bx, 0, none⟩ (.string (cut1 47 r).2.1)).heap[Bx]? = some (.cells #[.string (cut1 47 r).2.1] 9 (0, 0)) := box_set (W := wr.drewN n) HB.out _
        rintro e W' (⟨rfl, hj', hx'⟩ | ⟨rfl, hj'⟩)
        · have hb' := hx'.blk hb1 (fun c => c rfl)
          have HJ' := hid hj'
          have HB' := hid hb'
          clear hj' hx' hb' hb1 hx0
          gi_wp2
          gi_roundg ((splitL s.data.toList).length - k)
          case measure => have := HG.out; omega
          case rel =>
            first
            | (refine .inr ⟨rfl, ?_⟩
               have h1 : (splitL s.data.toList).drop k = [(cut1 47 r).1.data.toList] := by rw [← HS.out, cut1_last HM.out]
               have h2 := congrArg List.length h1
               simp at h2
               rw [show (splitL s.data.toList).length = k + 1 by omega]
               exact HJ'.out)
            | (have h1 : (splitL s.data.toList).drop k = (cut1 47 r).1.data.toList :: splitL (cut1 47 r).2.1.data.toList := by rw [← HS.out, cut1_rest HM.out]
               have h2 := congrArg List.length h1
               have h3 := splitL_ne (cut1 47 r).2.1.data.toList
               have h4 : 0 < (splitL (cut1 47 r).2.1.data.toList).length := List.length_pos_iff.2 h3
               simp at h2
               refine .inl ⟨k + 1, _, by omega, rfl, Nat.le_trans cut1_le hr, by omega, ?_, HB'.out, HJ'.out⟩
               have h5 := congrArg List.tail h1
               exact hid (by simpa using h5.symm))
        · have HJ' := hid hj'
          clear hj' hb1 hx0
          gi_wp2
          refine bodyPost_ret (results_none rfl _ _ _) rfl ⟨⟨_, rfl⟩, .inr ⟨k, hk, HJ'.out⟩⟩
    · have HJ := hid hj
      clear hj hY hJ hJx
      gi_wp2
      go_end0
      exact ⟨⟨_, rfl⟩, .inl HJ.out⟩
end Go.Proofs.YtgodcegaffgfjaaGreatDoor
