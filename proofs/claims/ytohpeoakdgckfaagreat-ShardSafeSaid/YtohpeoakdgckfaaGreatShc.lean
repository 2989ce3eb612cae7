
/- The frame in plain Lean: what was put is got. No program. -/
import Derived.Test.YtohpeoakdgckfaaGreatDb
import Derived.Sort.Walk0
import Derived.Test.YtohpeoakdgckfaaGreatDc
import Derived.Test.YtohpeoakdgckfaaGreatLo
import Derived.Test.YtohpeoakdgckfaaGreatRc
import Derived.Test.YtohpeoakdgckfaaGreatCl
import Derived.Test.YtohpeoakdgckfaaGreatPo
import Derived.Test.YtohpeoakdgckfaaGreatSf
import Derived.Test.YtohpeoakdgckfaaGreatFw
namespace Go.Proofs.YtohpeoakdgckfaaGreat
open Go.RowKit Sx

attribute [local go_sem] Oper.semAt_some

/-- A cell of an element. -/
theorem Sx.Els.cell {α : Type} {r : Hp} {sz n cap : Nat} {enc : α → List Value} {a : Option Addr} {xs : List α} (h : Els r sz enc (.slice a n cap) xs) {k : Nat} (hk : k < xs.length) (hn : xs.length = n) :
    ∃ b off, a = some ⟨b, off, none⟩ ∧ ∀ j u, (enc xs[k])[j]? = some u → ∀ r' H, sub r r' → Rd1 r' H ⟨b, off + k * sz + j, none⟩ u := by
  obtain ⟨b, off, e, hc⟩ := h.at hk hn
  refine ⟨b, off, e, fun j u hu r' H hr => ?_⟩
  obtain ⟨hj, rfl⟩ := List.getElem?_eq_some_iff.1 hu
  have := hc r' H hr j (by simpa using hj)
  rw [add_none] at this
  simpa using this
end Go.Proofs.YtohpeoakdgckfaaGreat

namespace Go.Proofs.YtohpeoakdgckfaaGreat
open Go.RowKit Sx

def filesOkK (ks : List (List UInt8 × List UInt8)) : Bool := decide (ks.length ≤ 4000) && !(ks.any fun k => decide (1048576 < k.2.length)) && ordOk [] (ks.map Prod.fst)
theorem filesOk_key (fs : List FileV) : filesOk fs = filesOkK (fs.map FileV.key) := by
  unfold filesOk filesOkK
  rw [List.length_map, List.any_map, List.map_map]
  rfl
def docOfK (k : List UInt8 × List UInt8) : DocV := ⟨k.1, langOf k.1, inv32 (crcAll 4294967295 k.2), k.2.length⟩
theorem docOf_key (fs : List FileV) : fs.map docOf = (fs.map FileV.key).map docOfK := by rw [List.map_map]; rfl
theorem LentFs.mono {r r' : Hp} {v : Value} {fs : List FileV} (h : LentFs r v fs) (hr : sub r r') : LentFs r' v fs := by
  obtain ⟨a, c, fs', e, hc, hm, hs, hw⟩ := h
  exact ⟨a, c, fs', e, hc, hm, hs.mono hr, fun f hf => (hw f hf).mono hr⟩
theorem LentFs.files {r : Hp} {v : Value} {fs : List FileV} (h : LentFs r v fs) : ∃ fs' : List FileV, fs'.map FileV.key = fs.map FileV.key ∧ Files r v fs' := by
  obtain ⟨a, c, fs', rfl, hc, hm, hs, hw⟩ := h
  have hlen : fs'.length = fs.length := by have := congrArg List.length hm; simpa using this
  refine ⟨fs', hm, ⟨hs.1, ?_⟩, fun f hf => (hw f hf).sl⟩
  have h1 := hs.2
  rw [show (fs' ++ marksFn 12).length = fs.length + 12 by rw [List.length_append, hlen]; simp [marksFn]] at h1
  have h2 := Sl.narrow h1 (m := fs.length) (by omega)
  rw [List.flatMap_append, show fs.length * 2 = (fs'.flatMap encF).length by rw [flat_len hs.1 fs', hlen], List.take_left] at h2
  rw [hlen]
  exact h2
end Go.Proofs.YtohpeoakdgckfaaGreat

namespace Go.Proofs.YtohpeoakdgckfaaGreat
open Go.RowKit Sx

def goodDoc (d : DocV) : Prop := d.path.length ≤ 200 ∧ d.sum < 4294967296 ∧ 0 ≤ d.size ∧ d.size ≤ 1048576 ∧ d.lang = langOf d.path
theorem docR_put {d : DocV} (x : List UInt8) (h : goodDoc d) : docR (some (putDoc d ++ x)) = (d, some x) := by
  obtain ⟨h1, h2, h3, h4, h5⟩ := h
  obtain ⟨p, l, s, n⟩ := d
  obtain ⟨m, rfl⟩ : ∃ m : Nat, n = m := ⟨n.toNat, by simp at h3 ⊢; omega⟩
  dsimp only at *
  subst h5
  have e := numR_septs (most := 1048576) (n := m) x (by omega) (by unfold maxNum; omega)
  have e1 := textR_texts (most := 200) (fixed s ++ (septs m ++ x)) h1 (by unfold maxNum; omega)
  have e2 := fixR_fixed (septs m ++ x) h2
  rw [show ((1048576 : Nat) : Int) = 1048576 from rfl] at e
  rw [show ((200 : Nat) : Int) = 200 from rfl] at e1
  simp only [docR, putDoc, List.append_assoc, Int.toNat_natCast, e1, e2, e]
theorem docsR_put : ∀ (ds : List DocV) (x : List UInt8), (∀ d ∈ ds, goodDoc d) → docsR ds.length (some (ds.flatMap putDoc ++ x)) = (ds, some x)
  | [], x, _ => by simp [docsR]
  | d :: ds, x, h => by
    have e := docR_put (ds.flatMap putDoc ++ x) (h d List.mem_cons_self)
    have ih := docsR_put ds x fun y hy => h y (List.mem_cons_of_mem _ hy)
    rw [List.length_cons, List.flatMap_cons, List.append_assoc, docsR_succ, e]
    simp [ih]
theorem pathOk_len {p : List UInt8} (h : pathOk p = true) : p.length ≤ 200 := by
  unfold pathOk at h
  simp only [Bool.and_eq_true, decide_eq_true_eq] at h
  exact h.1.2
theorem ordOk_mem : ∀ {ps : List (List UInt8)} {e p : List UInt8}, ordOk e ps = true → p ∈ ps → pathOk p = true
  | [], _, _, _, h => by cases h
  | q :: ps, e, p, h, hp => by
    unfold ordOk at h
    simp only [Bool.and_eq_true] at h
    rcases List.mem_cons.1 hp with rfl | hp
    · exact h.1.1
    · exact ordOk_mem h.2 hp
/-- Documents that are right are got from their bytes. -/
theorem put_get {ds : List DocV} (h : docsOk ds = true) (hs : ∀ d ∈ ds, d.sum < 4294967296) : getDocs (putBytes ds) = (ds, some []) := by
  unfold docsOk at h
  simp only [Bool.and_eq_true, decide_eq_true_eq] at h
  obtain ⟨⟨h1, h2⟩, h3⟩ := h
  have e := numR_septs (most := 4000) (n := ds.length) (ds.flatMap putDoc) h1 (by unfold maxNum; omega)
  rw [show ((4000 : Nat) : Int) = 4000 from rfl] at e
  unfold getDocs putBytes
  simp only [e]
  have := docsR_put ds [] fun d hd => ⟨pathOk_len (ordOk_mem h3 (List.mem_map.2 ⟨d, hd, rfl⟩)), hs d hd, ?_⟩
  · simpa using this
  · simp only [Bool.not_eq_true', List.any_eq_false] at h2
    have := h2 d hd
    simp [docBad] at this
    exact ⟨this.1.2, this.2, this.1.1⟩
end Go.Proofs.YtohpeoakdgckfaaGreat

namespace Go.Proofs.YtohpeoakdgckfaaGreat
open Go.RowKit Sx

theorem Sx.RowC.form {E : TypeId} {sz n : Nat} {v : Value} {xs : List Value} {g : Hp} (h : RowC E sz v n xs g) : ∃ a c, v = .slice a n c := (h.sl (r := g) (fun _ _ h => h)).form
end Go.Proofs.YtohpeoakdgckfaaGreat

namespace Go.Proofs.YtohpeoakdgckfaaGreat
open Go.RowKit Sx

theorem docs_of_files {fs : List FileV} (h : filesOk fs = true) : docsOk (fs.map docOf) = true ∧ ∀ d ∈ fs.map docOf, d.sum < 4294967296 := by
  unfold filesOk at h
  simp only [Bool.and_eq_true, decide_eq_true_eq, Bool.not_eq_true', List.any_eq_false] at h
  obtain ⟨⟨h1, h2⟩, h3⟩ := h
  refine ⟨?_, fun d hd => ?_⟩
  · unfold docsOk
    simp only [Bool.and_eq_true, decide_eq_true_eq, Bool.not_eq_true', List.any_eq_false, List.length_map]
    refine ⟨⟨h1, fun d hd => ?_⟩, by rw [List.map_map]; exact h3⟩
    obtain ⟨f, hf, rfl⟩ := List.mem_map.1 hd
    have := h2 f hf
    simp only [bigF, decide_eq_true_eq] at this
    have e1 : decide ((docOf f).lang ≠ langOf (docOf f).path) = false := by simp [docOf]
    have e2 : decide ((docOf f).size < 0) = false := decide_eq_false (show ¬ ((f.data.length : Int) < 0) by omega)
    have e3 : decide (1048576 < (docOf f).size) = false := decide_eq_false (show ¬ ((1048576 : Int) < (f.data.length : Int)) by omega)
    unfold docBad
    rw [e1, e2, e3]
    simp
  · obtain ⟨f, hf, rfl⟩ := List.mem_map.1 hd
    exact inv32_lt (crcAll_lt _ _ (by omega))
end Go.Proofs.YtohpeoakdgckfaaGreat

namespace Go.Proofs.YtohpeoakdgckfaaGreat
open Go.RowKit Sx

theorem pX_body : ∀ ps : List PartP, (∀ p ∈ ps, p.2.length ≤ 1000000) → pX (bodyB ps) = ps.map fun p => (p, true)
  | [], _ => by rw [show bodyB [] = [] from rfl, pX_nil]; rfl
  | (t, d) :: ps, h => by
    have h1 := textR_texts (most := 67108864) (bodyB ps) (Nat.le_trans (h _ List.mem_cons_self) (by decide) : d.length ≤ 67108864) (by unfold maxNum; decide)
    rw [show bodyB ((t, d) :: ps) = t :: (texts d ++ bodyB ps) from rfl, pX_ok h1, pX_body ps fun p hp => h p (List.mem_cons_of_mem _ hp)]
    rfl
theorem fixR_put {n : Nat} (h : n < 4294967296) (x : List UInt8) : (fixR (some (fixed n ++ x))).1 = n := by rw [fixR_fixed x h]
theorem partsF_frame {ps : List PartP} (h : (bodyB ps).length ≤ 1000000) (hp : ∀ p ∈ ps, p.2.length ≤ 1000000) : partsF (frameB ps) = some ps := by
  have h4 : ∀ n, (fixed n).length = 4 := fun _ => rfl
  have hl := frameB_len ps
  have hhd : (headB ps).length = (bodyB ps).length + 4 := by unfold headB; rw [List.length_append, h4]; omega
  have e1 : (frameB ps).take ((frameB ps).length - 4) = headB ps := by
    rw [hl, show (bodyB ps).length + 8 - 4 = (headB ps).length by omega]
    exact List.take_left
  have e2 : (frameB ps).drop ((frameB ps).length - 4) = fixed (crcB (headB ps)) ++ [] := by
    rw [hl, show (bodyB ps).length + 8 - 4 = (headB ps).length by omega, List.append_nil]
    exact List.drop_left
  have e3 : midF (frameB ps) = bodyB ps := by
    unfold midF
    rw [show frameB ps = fixed ((bodyB ps).length + 8) ++ (bodyB ps ++ fixed (crcB (headB ps))) by unfold frameB; rw [headB, List.append_assoc], show (4 : Nat) = (fixed ((bodyB ps).length + 8)).length from rfl, List.drop_left]
    rw [List.length_append, List.length_append, h4, h4, show 4 + ((bodyB ps).length + 4) - 8 = (bodyB ps).length by omega]
    exact List.take_left
  have hok : okF (frameB ps) = true := by
    unfold okF
    rw [e1, e2, fixR_put (crcB_lt _), decide_eq_true rfl, decide_eq_true (by omega : 8 ≤ (frameB ps).length)]
    rw [show (fixR (some (frameB ps))).1 = (frameB ps).length by
      rw [hl]
      show (fixR (some ((fixed ((bodyB ps).length + 8) ++ bodyB ps) ++ fixed (crcB (headB ps))))).1 = _
      rw [List.append_assoc]
      exact fixR_put (by omega) _]
    simp
  unfold partsF
  rw [hok, e3, pX_body ps hp, List.map_map, show ((fun x : PartP × Bool => x.1) ∘ fun p => (p, true)) = id from rfl, List.map_id]
  simp
end Go.Proofs.YtohpeoakdgckfaaGreat
