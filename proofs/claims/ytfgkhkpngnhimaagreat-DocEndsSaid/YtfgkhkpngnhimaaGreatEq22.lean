/- The reference of chapter 22 says the same: plain facts. -/
import Derived.Test.YtfgkhkpngnhimaaGreatKa
import Derived.Test.YtfgkhkpngnhimaaGreatDc
import Derived.Test.YtfgkhkpngnhimaaGreatKb
namespace Go.Proofs.YtfgkhkpngnhimaaGreat
open Go.RowKit

theorem splitL_all (q : UInt8 → Bool) (h47 : q 47 = true) (l : List UInt8) : (splitL l).all (fun p => p.all q) = l.all q := by
  induction l with
  | nil => rfl
  | cons b l ih =>
    unfold splitL
    split
    · rename_i h; subst h; simp [ih, h47]
    · rename_i h
      split
      · rename_i p ps hs; rw [hs] at ih; rw [List.all_cons] at ih; rw [List.all_cons, List.all_cons, List.all_cons, ← ih, Bool.and_assoc]
      · rename_i hs; exact absurd hs (splitL_ne l)

theorem all_and {α : Type} (p q : α → Bool) (l : List α) : l.all (fun x => p x && q x) = (l.all p && l.all q) := by
  induction l with
  | nil => rfl
  | cons a l ih => simp only [List.all_cons, ih]; cases p a <;> cases q a <;> simp

theorem pathOk_ref (s : List UInt8) : pathOk s = refOk s := by
  have h : (splitL s).all partOk = ((splitL s).all nameOk && s.all byteOk) := by
    rw [← splitL_all byteOk rfl s, ← all_and]; rfl
  rw [pathOk, refOk, h]
  cases (splitL s).all nameOk <;> cases s.all byteOk <;> simp


theorem less_not (p last : List UInt8) : (!(Op.bytesLess p last || p == last)) = Op.bytesLess last p := by
  rw [bytesLess_eq, bytesLess_eq, Bool.eq_iff_iff]
  simp only [Bool.not_eq_true', Bool.or_eq_false_iff, decide_eq_false_iff_not, beq_eq_false_iff_ne, decide_eq_true_eq]
  constructor
  · rintro ⟨h1, h2⟩
    exact Std.lt_of_le_of_ne (List.not_lt.1 h1) (fun e => h2 e.symm)
  · intro h
    refine ⟨fun h2 => List.lt_asymm h h2, fun e => ?_⟩
    subst e; exact List.lt_irrefl _ h

def refGo : Option (List UInt8) → List FileV → Bool
  | _, [] => true
  | o, f :: fs => refOk f.path && !(bigF f) && (match o with | none => true | some e => Op.bytesLess e f.path) && refGo (some f.path) fs
theorem good_go : ∀ (fs pre : List FileV), (List.range fs.length).all (fun j => goodAt (pre ++ fs) (pre.length + j)) = refGo (pre.getLast?.map (·.path)) fs
  | [], pre => rfl
  | f :: fs, pre => by
    have ih := good_go fs (pre ++ [f])
    rw [List.length_cons, List.range_succ_eq_map, List.all_cons, List.all_map]
    have e : (fun j => goodAt (pre ++ f :: fs) (pre.length + j)) ∘ Nat.succ = fun j => goodAt ((pre ++ [f]) ++ fs) ((pre ++ [f]).length + j) := by
      funext j
      simp only [Function.comp, List.append_assoc, List.singleton_append, List.length_append, List.length_cons, List.length_nil]
      congr 1; omega
    rw [e, ih, show refGo (pre.getLast?.map (·.path)) (f :: fs) = (refOk f.path && !(bigF f) && (match pre.getLast?.map (·.path) with | none => true | some e => Op.bytesLess e f.path) && refGo (some f.path) fs) from rfl]
    have h0 : goodAt (pre ++ f :: fs) (pre.length + 0) = (refOk f.path && !(bigF f) && (match pre.getLast?.map (·.path) with | none => true | some e => Op.bytesLess e f.path)) := by
      unfold goodAt
      rw [Nat.add_zero, List.getElem?_append_right (Nat.le_refl _), Nat.sub_self]
      simp only [List.getElem?_cons_zero, bigF]
      congr 1
      rcases List.eq_nil_or_concat pre with rfl | ⟨q, g, rfl⟩
      · simp
      · simp []
    rw [h0]
    simp
theorem go_ord : ∀ (fs : List FileV) (e : List UInt8), refGo (some e) fs = (!(fs.any bigF) && ordOk e (fs.map (·.path)))
  | [], e => rfl
  | f :: fs, e => by
    unfold refGo
    rw [go_ord fs f.path, List.map_cons, show ordOk e (f.path :: fs.map (·.path)) = (pathOk f.path && !(Op.bytesLess f.path e || f.path == e) && ordOk f.path (fs.map (·.path))) from rfl, less_not, pathOk_ref, List.any_cons]
    dsimp only
    cases refOk f.path <;> cases bigF f <;> cases Op.bytesLess e f.path <;> cases fs.any bigF <;> simp
theorem refFiles_eq (fs : List FileV) : refFiles fs = filesOk fs := by
  have h := good_go fs []
  simp only [List.nil_append, List.length_nil, Nat.zero_add] at h
  unfold refFiles filesOk
  rw [h]
  cases fs with
  | nil => rfl
  | cons f fs =>
    have h2 : refGo (Option.map (·.path) ([] : List FileV).getLast?) (f :: fs) = (refOk f.path && !(bigF f) && true && refGo (some f.path) fs) := rfl
    rw [h2, go_ord fs f.path, List.map_cons, show ordOk [] (f.path :: fs.map (·.path)) = (pathOk f.path && !(Op.bytesLess f.path [] || f.path == []) && ordOk f.path (fs.map (·.path))) from rfl, less_not, pathOk_ref, List.any_cons]
    have h3 : refOk f.path = true → Op.bytesLess [] f.path = true := fun h => by
      cases hp : f.path with
      | nil => rw [hp] at h; simp [refOk] at h
      | cons x l => rfl
    cases hr : refOk f.path
    · simp
    · rw [h3 hr]
      cases bigF f <;> cases fs.any bigF <;> cases ordOk f.path (fs.map (·.path)) <;> simp
end Go.Proofs.YtfgkhkpngnhimaaGreat

/- The reference of chapter 22 says the same of documents: plain facts. -/
namespace Go.Proofs.YtfgkhkpngnhimaaGreat
open Go.RowKit

def refGoD : Option (List UInt8) → List DocV → Bool
  | _, [] => true
  | o, d :: ds => refOk d.path && !(docBad d) && (match o with | none => true | some e => Op.bytesLess e d.path) && refGoD (some d.path) ds
theorem good_goD : ∀ (ds pre : List DocV), (List.range ds.length).all (fun j => gD (pre ++ ds) (pre.length + j)) = refGoD (pre.getLast?.map (·.path)) ds
  | [], pre => rfl
  | d :: ds, pre => by
    have ih := good_goD ds (pre ++ [d])
    rw [List.length_cons, List.range_succ_eq_map, List.all_cons, List.all_map]
    have e : (fun j => gD (pre ++ d :: ds) (pre.length + j)) ∘ Nat.succ = fun j => gD ((pre ++ [d]) ++ ds) ((pre ++ [d]).length + j) := by
      funext j
      simp only [Function.comp, List.append_assoc, List.singleton_append, List.length_append, List.length_cons, List.length_nil]
      congr 1; omega
    rw [e, ih]
    have h0 : gD (pre ++ d :: ds) (pre.length + 0) = (refOk d.path && !(docBad d) && (match pre.getLast?.map (·.path) with | none => true | some e => Op.bytesLess e d.path)) := by
      have hd : (pre ++ d :: ds).getD pre.length default = d := by simp [List.getD_eq_getElem?_getD]
      rw [Bool.eq_iff_iff, Nat.add_zero, gD_iff, hd]
      simp only [Bool.and_eq_true, docBad, Bool.not_eq_true', Bool.or_eq_false_iff, decide_eq_false_iff_not, ne_eq, Decidable.not_not, and_assoc, Int.not_lt]
      rcases List.eq_nil_or_concat pre with rfl | ⟨q, g, rfl⟩
      · simp
      · have e2 : (q.concat g ++ d :: ds).getD ((q.concat g).length - 1) default = g := by
          simp [List.getD_eq_getElem?_getD, List.concat_eq_append]
        rw [e2]
        simp [List.concat_eq_append]
    rw [h0]
    simp [refGoD]
theorem go_ordD : ∀ (ds : List DocV) (e : List UInt8), refGoD (some e) ds = (!(ds.any docBad) && ordOk e (ds.map (·.path)))
  | [], e => rfl
  | f :: fs, e => by
    unfold refGoD
    rw [go_ordD fs f.path, List.map_cons, show ordOk e (f.path :: fs.map (·.path)) = (pathOk f.path && !(Op.bytesLess f.path e || f.path == e) && ordOk f.path (fs.map (·.path))) from rfl, less_not, pathOk_ref, List.any_cons]
    dsimp only
    cases refOk f.path <;> cases docBad f <;> cases Op.bytesLess e f.path <;> cases fs.any docBad <;> simp
theorem refDocs_eq (ds : List DocV) : refDocs ds = docsOk ds := by
  have h := good_goD ds []
  simp only [List.nil_append, List.length_nil, Nat.zero_add] at h
  unfold refDocs docsOk
  rw [h]
  cases ds with
  | nil => rfl
  | cons f fs =>
    have h2 : refGoD (Option.map (·.path) ([] : List DocV).getLast?) (f :: fs) = (refOk f.path && !(docBad f) && true && refGoD (some f.path) fs) := rfl
    rw [h2, go_ordD fs f.path, List.map_cons, show ordOk [] (f.path :: fs.map (·.path)) = (pathOk f.path && !(Op.bytesLess f.path [] || f.path == []) && ordOk f.path (fs.map (·.path))) from rfl, less_not, pathOk_ref, List.any_cons]
    have h3 : refOk f.path = true → Op.bytesLess [] f.path = true := fun h => by
      cases hp : f.path with
      | nil => rw [hp] at h; simp [refOk] at h
      | cons x l => rfl
    cases hr : refOk f.path
    · simp
    · rw [h3 hr]
      cases docBad f <;> cases fs.any docBad <;> cases ordOk f.path (fs.map (·.path)) <;> simp
theorem refGetOk_eq (l : List UInt8) : refGetOk l = getOk l := by unfold refGetOk getOk; rw [refDocs_eq]
end Go.Proofs.YtfgkhkpngnhimaaGreat
