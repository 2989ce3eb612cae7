
/- What files a shard's file has, in plain Lean: what is made is opened; cut or with bytes more it is not. No program. -/
import Derived.Test.YtohpeoakdgckfaaGreatCu
import Derived.Test.YtohpeoakdgckfaaGreatShc
import Derived.Test.YtohpeoakdgckfaaGreatShb
namespace Go.Proofs.YtohpeoakdgckfaaGreat
open Go.RowKit Sx

abbrev KeyF := List UInt8 × List UInt8
def unK (k : KeyF) : FileV := ⟨k.1, .slice none 0 0, k.2⟩
theorem unK_key (ks : List KeyF) : (ks.map unK).map FileV.key = ks := by
  rw [List.map_map, show FileV.key ∘ unK = id from rfl, List.map_id]
theorem data_key (fs : List FileV) : fs.map (·.data) = (fs.map FileV.key).map (·.2) := by rw [List.map_map]; rfl
theorem shardB_key {fs gs : List FileV} (h : fs.map FileV.key = gs.map FileV.key) : shardB fs = shardB gs := by
  have h1 : ∀ x : List FileV, shardP x = [(1, putBytes ((x.map FileV.key).map docOfK)), (2, (x.map FileV.key).flatMap (·.2)), (3, (x.map FileV.key).flatMap fun k => risingB (linesOf k.2)), (4, putB (makeP ((x.map FileV.key).map (·.2))))] := fun x => by
    unfold shardP contB risesB
    rw [docOf_key, data_key, List.flatMap_map, List.flatMap_map]
  unfold shardB
  rw [h1, h1, h]
theorem sizeF_key : ∀ fs : List FileV, sizeF fs = sizeF ((fs.map FileV.key).map unK)
  | [] => rfl
  | f :: fs => by
    have h := sizeF_key fs
    simp only [List.map_cons, sizeF, unK]
    omega
theorem pX_inv : ∀ l : List UInt8, (pX l).all (·.2) = true → bodyB ((pX l).map (·.1)) = l
  | [], _ => by rw [pX_nil]; rfl
  | t :: l, h => by
    obtain ⟨d, st, e⟩ : ∃ d st, textR 67108864 (some l) = (d, st) := ⟨_, _, rfl⟩
    cases st with
    | none => rw [pX_bad e] at h; simp at h
    | some rest =>
      have h1 := textR_inv (most := 67108864) e
      have h2 : l = texts d ++ rest := by injection h1
      rw [pX_ok e] at h ⊢
      simp only [List.all_cons, Bool.true_and] at h
      have ih := pX_inv rest h
      rw [List.map_cons, show bodyB ((t, d) :: (pX rest).map (·.1)) = t :: (texts d ++ bodyB ((pX rest).map (·.1))) from rfl, ih, ← h2]
termination_by l => l.length
decreasing_by
  rw [h2, List.length_cons, List.length_append]
  omega
theorem partsF_inv {b : List UInt8} {ps : List PartP} (h : partsF b = some ps) : okF b = true ∧ bodyB ps = midF b := by
  unfold partsF at h
  split at h
  · rename_i hc
    simp only [Bool.and_eq_true] at hc
    injection h with h
    exact ⟨hc.1, by rw [← h]; exact pX_inv _ hc.2⟩
  · cases h
theorem midF_len (b : List UInt8) : (midF b).length ≤ b.length := by unfold midF; rw [List.length_take, List.length_drop]; omega
theorem texts_ge (l : List UInt8) : l.length ≤ (texts l).length := by unfold texts; rw [List.length_append]; omega
theorem parts4_len {b : List UInt8} {p0 p1 p2 p3 : PartP} (h : partsF b = some [p0, p1, p2, p3]) : p0.2.length + p1.2.length + p2.2.length + p3.2.length ≤ b.length := by
  have h1 := (partsF_inv h).2
  have h2 := midF_len b
  rw [← h1] at h2
  have e : bodyB [p0, p1, p2, p3] = partB p0 ++ (partB p1 ++ (partB p2 ++ partB p3)) := by simp [bodyB]
  rw [e] at h2
  simp only [List.length_append, partB, List.length_cons] at h2
  have g0 := texts_ge p0.2
  have g1 := texts_ge p1.2
  have g2 := texts_ge p2.2
  have g3 := texts_ge p3.2
  omega
/-- The files that a shard's file has. -/
def cutsK (l m : List UInt8) : List KeyF := (cutX (getDocs l).1 m).map (·.1)
def wholeK (l m : List UInt8) : Bool := (cutX (getDocs l).1 m).all (·.2)
def openK (b : List UInt8) : Option (List KeyF) := match partsF b with
  | some [p0, p1, _, _] => if getOk p0.2 && wholeK p0.2 p1.2 && filesOkK (cutsK p0.2 p1.2) && decide (shardB ((cutsK p0.2 p1.2).map unK) = b) then some (cutsK p0.2 p1.2) else none
  | _ => none
theorem openK_four {b : List UInt8} {p0 p1 p2 p3 : PartP} (h : partsF b = some [p0, p1, p2, p3]) : openK b = if getOk p0.2 && wholeK p0.2 p1.2 && filesOkK (cutsK p0.2 p1.2) && decide (shardB ((cutsK p0.2 p1.2).map unK) = b) then some (cutsK p0.2 p1.2) else none := by
  unfold openK
  rw [h]
theorem openK_not {b : List UInt8} (h : ∀ p0 p1 p2 p3, partsF b ≠ some [p0, p1, p2, p3]) : openK b = none := by
  unfold openK
  split
  · rename_i e; exact absurd e (h _ _ _ _)
  · rfl
theorem openK_inv {b : List UInt8} {ks : List KeyF} (h : openK b = some ks) : ∃ p0 p1 p2 p3, partsF b = some [p0, p1, p2, p3] ∧ getOk p0.2 = true ∧ wholeK p0.2 p1.2 = true ∧ ks = cutsK p0.2 p1.2 ∧ filesOkK ks = true ∧ shardB (ks.map unK) = b := by
  unfold openK at h
  split at h
  · rename_i p0 p1 p2 p3 e
    split at h
    · rename_i hc
      simp only [Bool.and_eq_true, decide_eq_true_eq] at hc
      injection h with h
      subst h
      exact ⟨p0, p1, p2, p3, e, hc.1.1.1, hc.1.1.2, rfl, hc.1.2, hc.2⟩
    · cases h
  · cases h
theorem shardP_len1 {fs : List FileV} (h : sizeF fs ≤ 2000) : ∀ p ∈ shardP fs, p.2.length ≤ 1000000 := fun p hp => by
  have h1 := shardP_len h
  obtain ⟨A, B, e⟩ := List.append_of_mem hp
  rw [e, bodyB, List.flatMap_append, List.flatMap_cons] at h1
  have := texts_ge p.2
  simp only [List.length_append, partB, List.length_cons] at h1
  omega
theorem partsF_shard {fs : List FileV} (h : sizeF fs ≤ 2000) : partsF (shardB fs) = some (shardP fs) := partsF_frame (shardP_len h) (shardP_len1 h)
theorem cutX_docs : ∀ (fs : List FileV) (x : List UInt8), cutX (fs.map docOf) (contB fs ++ x) = fs.map fun f => (f.key, true)
  | [], _ => rfl
  | f :: fs, x => by
    have h1 : min (docOf f).size.toNat (contB (f :: fs) ++ x).length = f.data.length := by
      rw [show contB (f :: fs) = f.data ++ contB fs from rfl, List.length_append, List.length_append]
      show min ((f.data.length : Int)).toNat _ = _
      rw [Int.toNat_natCast]
      omega
    have h2 : (contB (f :: fs) ++ x) = f.data ++ (contB fs ++ x) := by rw [show contB (f :: fs) = f.data ++ contB fs from rfl, List.append_assoc]
    rw [List.map_cons, cutX, h1, h2, List.take_left, List.drop_left, cutX_docs fs x, List.map_cons, show (docOf f).size = (f.data.length : Int) from rfl, decide_eq_true rfl]
    rfl
theorem getOk_put {fs : List FileV} (h : filesOk fs = true) : getDocs (putBytes (fs.map docOf)) = (fs.map docOf, some []) ∧ getOk (putBytes (fs.map docOf)) = true := by
  obtain ⟨h1, h2⟩ := docs_of_files h
  have h3 := put_get h1 h2
  refine ⟨h3, ?_⟩
  unfold getOk
  rw [h3, h1]
  rfl
theorem cutsK_put {fs : List FileV} (h : filesOk fs = true) : cutsK (putBytes (fs.map docOf)) (contB fs) = fs.map FileV.key ∧ wholeK (putBytes (fs.map docOf)) (contB fs) = true := by
  have h1 := (getOk_put h).1
  have h2 := cutX_docs fs []
  rw [List.append_nil] at h2
  unfold cutsK wholeK
  rw [h1]
  dsimp only
  rw [h2, List.map_map, List.all_map]
  refine ⟨rfl, ?_⟩
  rw [List.all_eq_true]
  intro _ _
  rfl
/-- What was made is opened. -/
theorem openK_shard {fs : List FileV} (h : filesOk fs = true) (hs : sizeF fs ≤ 2000) : openK (shardB fs) = some (fs.map FileV.key) := by
  have h1 := partsF_shard hs
  have h2 := (getOk_put h).2
  obtain ⟨h3, h4⟩ := cutsK_put h
  rw [openK_four h1]
  dsimp only
  rw [h2, h3, h4, ← filesOk_key, h, decide_eq_true (shardB_key (unK_key _))]
  rfl
theorem openK_parts {b : List UInt8} {ks : List KeyF} {p0 p1 p2 p3 : PartP} (h : openK b = some ks) (hs : sizeF (ks.map unK) ≤ 2000) (e : partsF b = some [p0, p1, p2, p3]) : (getDocs p0.2).1 = ks.map docOfK ∧ getP p3.2 = some (makeP (ks.map (·.2))) := by
  obtain ⟨_, _, _, _, _, _, _, _, h3, h4⟩ := openK_inv h
  have h5 := partsF_shard (fs := ks.map unK) (by omega)
  rw [h4, e] at h5
  have h6 : filesOk (ks.map unK) = true := by rw [filesOk_key, unK_key]; exact h3
  have h7 := (getOk_put h6).1
  have h8 := made_ok (fs := ks.map unK) (by omega)
  have e0 : p0 = (1, putBytes ((ks.map unK).map docOf)) := by
    injection h5 with h5; unfold shardP at h5; injection h5
  have e3 : p3 = (4, putB (makeP ((ks.map unK).map (·.data)))) := by
    injection h5 with h5; unfold shardP at h5; injection h5 with _ h5; injection h5 with _ h5; injection h5 with _ h5; injection h5
  rw [e0, e3]
  refine ⟨?_, ?_⟩
  · dsimp only
    rw [h7, docOf_key, unK_key]
  · dsimp only
    rw [getP_put h8.2.1 (by have := h8.2.2.2.2; unfold maxNum; omega), data_key, unK_key]
/-- The length stands at a file's head. -/
theorem okF_len {x : List UInt8} (h : okF x = true) : 8 ≤ x.length ∧ (fixR (some x)).1 = x.length := by
  unfold okF at h
  simp only [Bool.and_eq_true, decide_eq_true_eq] at h
  exact ⟨h.1.1, h.1.2⟩
theorem openK_ok {b : List UInt8} (h : okF b = false) : openK b = none := openK_not fun p0 p1 p2 p3 e => by
  have := (partsF_inv e).1
  rw [h] at this
  cases this
theorem shardB_head {fs : List FileV} (h : sizeF fs ≤ 2000) : ∃ y, shardB fs = fixed (shardB fs).length ++ y ∧ (shardB fs).length < 4294967296 := by
  have h1 := shardP_len h
  have h2 := frameB_len (shardP fs)
  refine ⟨bodyB (shardP fs) ++ fixed (crcB (headB (shardP fs))), ?_, by unfold shardB; omega⟩
  rw [show (shardB fs).length = (bodyB (shardP fs)).length + 8 from h2]
  show headB _ ++ _ = _
  unfold headB
  rw [List.append_assoc]
theorem okF_cut {fs : List FileV} (h : sizeF fs ≤ 2000) {k : Nat} (hk : k < (shardB fs).length) : okF ((shardB fs).take k) = false := by
  cases e : okF ((shardB fs).take k)
  · rfl
  · obtain ⟨h1, h2⟩ := okF_len e
    obtain ⟨y, hy, hl⟩ := shardB_head h
    rw [List.length_take] at h1 h2
    have h3 : (shardB fs).take k = fixed (shardB fs).length ++ y.take (k - 4) := by
      conv => lhs; rw [hy]
      rw [List.take_append, show (fixed (shardB fs).length).length = 4 from rfl, List.take_of_length_le (by show 4 ≤ k; omega)]
    rw [h3, fixR_put hl] at h2
    omega
theorem okF_more {fs : List FileV} (h : sizeF fs ≤ 2000) {m : List UInt8} (hm : m ≠ []) : okF (shardB fs ++ m) = false := by
  cases e : okF (shardB fs ++ m)
  · rfl
  · obtain ⟨h1, h2⟩ := okF_len e
    obtain ⟨y, hy, hl⟩ := shardB_head h
    have h4 := List.length_pos_iff.2 hm
    have h3 : shardB fs ++ m = fixed (shardB fs).length ++ (y ++ m) := by
      conv => lhs; rw [hy]
      rw [List.append_assoc]
    rw [List.length_append, h3, fixR_put hl] at h2
    omega
theorem putB_16 {fs : List FileV} (h : sizeF fs ≤ 1600) : (putB (makeP (fs.map (·.data)))).length ≤ 192006 := by
  have hl := sizeF_len fs
  have hs := sumD_le fs
  have hm := made_ok (fs := fs) (by omega)
  have h1 := sizeQ_all _ (postsOk_mem hm.2.1)
  rw [all_many] at h1
  have h2 := manyD_sum (fs.map (·.data))
  have h3 := putB_24 _ fun x hx => ⟨postsOk_mem hm.2.1 x hx, Nat.le_trans (hm.2.2.2.1 x hx) (by omega)⟩
  have h4 := septs6 (n := (makeP (fs.map (·.data))).length) (by have := hm.2.2.1; omega)
  unfold putB
  rw [List.length_append]
  omega
theorem shardP_len16 {fs : List FileV} (h : sizeF fs ≤ 1600) : (bodyB (shardP fs)).length ≤ 300000 := by
  have h1 := contB_len fs
  have h2 := risesB_len fs (by omega)
  have h3 := putDocs16 fs (by omega)
  have h4 := putB_16 h
  have h5 := septs6 (n := fs.length) (by have := sizeF_len fs; omega)
  have h6 : (putBytes (fs.map docOf)).length ≤ 6 + 16 * sizeF fs := by
    unfold putBytes
    rw [List.length_append, List.length_map]
    omega
  have e : bodyB (shardP fs) = partB (1, putBytes (fs.map docOf)) ++ (partB (2, contB fs) ++ (partB (3, risesB fs) ++ partB (4, putB (makeP (fs.map (·.data)))))) := by simp [bodyB, shardP]
  have h7 := texts6 (putBytes (fs.map docOf)) (by omega)
  have h8 := texts6 (contB fs) (by omega)
  have h9 := texts6 (risesB fs) (by omega)
  have h10 := texts6 (putB (makeP (fs.map (·.data)))) (by omega)
  rw [e]
  simp only [List.length_append, partB, List.length_cons]
  omega
/-- A file that is small enough to be gone through. -/
def Small (b : List UInt8) : Prop := b.length ≤ 1000000 ∧ ∀ p0 p1 p2 p3, partsF b = some [p0, p1, p2, p3] → p3.2.length ≤ 200000 ∧ (getOk p0.2 = true → sizeF ((cutsK p0.2 p1.2).map unK) ≤ 2000)
theorem small_none {b : List UInt8} (h : b.length ≤ 1000000) (hn : partsF b = none) : Small b := ⟨h, fun _ _ _ _ e => by rw [hn] at e; cases e⟩
theorem shardB_len {fs : List FileV} (h : sizeF fs ≤ 1600) : (shardB fs).length ≤ 300008 := by
  have := shardP_len16 h
  have := frameB_len (shardP fs)
  unfold shardB
  omega
theorem frame_none {b : List UInt8} (h : okF b = false) : partsF b = none := by
  unfold partsF
  rw [h]
  rfl
theorem okF_shard {fs : List FileV} (h : sizeF fs ≤ 2000) : okF (shardB fs) = true := (partsF_inv (partsF_shard h)).1
theorem small_size {b : List UInt8} {ks : List KeyF} (hb : Small b) (h : openK b = some ks) : sizeF (ks.map unK) ≤ 2000 := by
  obtain ⟨p0, p1, p2, p3, e, h1, h2, rfl, h3, h4⟩ := openK_inv h
  exact (hb.2 _ _ _ _ e).2 h1
theorem small_shard {fs : List FileV} (hok : filesOk fs = true) (h : sizeF fs ≤ 1600) : Small (shardB fs) := ⟨by have := shardB_len h; omega, fun p0 p1 p2 p3 e => by
  rw [partsF_shard (by omega)] at e
  unfold shardP at e
  injection e with e
  injection e with e0 e
  injection e with e1 e
  injection e with e2 e
  injection e with e3 e
  subst e0
  subst e1
  subst e3
  dsimp only
  refine ⟨by have := putB_16 h; omega, fun _ => ?_⟩
  rw [(cutsK_put hok).1, ← sizeF_key]
  omega⟩
end Go.Proofs.YtohpeoakdgckfaaGreat
