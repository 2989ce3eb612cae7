
/- mudlarkref22.Put, Find: their contracts. -/
import Derived.Test.YtohpeoakdgckfaaGreatKj
import Derived.Test.YtohpeoakdgckfaaGreatRc
import Derived.Test.YtohpeoakdgckfaaGreatCl
import Derived.Test.YtohpeoakdgckfaaGreatDc
import Derived.Test.YtohpeoakdgckfaaGreatKa
import Derived.Test.YtohpeoakdgckfaaGreatPo
import Derived.Test.YtohpeoakdgckfaaGreatFw
import Derived.Test.YtohpeoakdgckfaaGreatRx
namespace Go.Proofs.YtohpeoakdgckfaaGreat
open Go.RowKit Sx

def gD (ds : List DocV) (j : Nat) : Bool := refOk (ds.getD j default).path && decide ((ds.getD j default).lang = langOf (ds.getD j default).path) && decide (0 ≤ (ds.getD j default).size) && decide ((ds.getD j default).size ≤ 1048576) && (decide (j = 0) || Op.bytesLess (ds.getD (j - 1) default).path (ds.getD j default).path)
theorem gD_iff (ds : List DocV) (j : Nat) : gD ds j = true ↔ refOk (ds.getD j default).path = true ∧ (ds.getD j default).lang = langOf (ds.getD j default).path ∧ 0 ≤ (ds.getD j default).size ∧ (ds.getD j default).size ≤ 1048576 ∧ (j = 0 ∨ Op.bytesLess (ds.getD (j - 1) default).path (ds.getD j default).path = true) := by
  unfold gD; simp only [Bool.and_eq_true, Bool.or_eq_true, decide_eq_true_eq, and_assoc]
def refDocs (ds : List DocV) : Bool := (List.range ds.length).all (gD ds) && decide (ds.length ≤ 4000)
theorem rrB_any (r : Hp) (p : List UInt8) (hp : p.length ≤ 1000000) : Tri Tryz.prog r 155 [.string (bs p)] [] fun w H => w = .bool (refOk p) ∧ H = [] := by
  have := rright_any r (bs p) (by rw [bs_size]; exact hp)
  rwa [show (bs p).data.toList = p from rfl] at this
theorem roB_any (r : Hp) (p : List UInt8) (hp : p.length ≤ 1000000) : Tri Tryz.prog r 95 [.string (bs p)] [] fun w H => w = .string (bs (langOf p)) ∧ H = [] := by
  have := rof_any r (bs p) (by rw [bs_size]; exact hp)
  rwa [show (bs p).data.toList = p from rfl] at this
set_option maxRecDepth 10000 in
set_option maxHeartbeats 4000000 in
theorem rdocs_any (r : Hp) (v : Value) (ds : List DocV) (hv : Docs r v ds) (hl : ∀ x ∈ ds, x.path.length ≤ 1000000) : Tri Tryz.prog r 96 [v] [] fun w H => w = .bool (refDocs ds) ∧ H = [] := by
  refine Tri.free2 fun R HR => ?_
  have hlm := maxI hv.2.2.1
  refine fn_of_sw Tryz.func96 rfl _ rfl ?_; refine aen Tryz.ntmps96 ?_
  repeat' (first | refine aw0m ?_ | (refine ap2 ?_ ?_ <;> try intro h) | refine aw1m ?_ | (refine abx ?_; intro bb) | (refine abz ?_; intro bz) | (refine ahv ?_; intro v' hv') | (refine aac ?_; intro ac cc) | refine aw2 ?_ | (refine ap4 ?_ ?_ <;> try intro h) | apply True.intro)
  refine sw_loop (fun gm t H' => ∃ k : Nat, gm = ds.length + 1 - k ∧ (k ≤ ds.length) ∧ ((List.range k).all (gD ds) = true) ∧ (∃ G, Takes [] H' G) ∧ Sls t 68 [(0, v), (3, .int .i64 k)]) _ ⟨0, rfl, Nat.zero_le _, rfl, ⟨[], atks⟩, asls⟩ ?_
  rintro gm t H' ⟨k, rfl, hk, ha, ⟨G, hp⟩, hs'⟩
  revert t; refine sls_all ?_; iterate 66 intro uu'
  refine sw_takeG hp ?_; clear hp
  by_cases hlt : k < ds.length
  · have hpl := hl (ds.getD k default) (by simp [hlt])
    have e1 : ((k : Int) - 1).toNat = k - 1 := by omega
    repeat' (first | refine aw0m ?_ | (refine ap2 ?_ ?_ <;> try intro h) | (first | ((with_reducible apply sw_draw (id := 4) 55 [(0, true), (1, true), (2, true), (3, true), (4, true), (5, false), (6, true), (7, true), (8, true), (9, true), (10, true), (11, true), (12, true), (13, true), (14, true), (15, true), (16, true), (17, true), (18, false), (19, true), (20, true), (21, true), (22, true), (23, true), (24, true), (25, true), (26, true), (27, true), (28, true), (29, true), (30, true), (31, true), (32, true), (33, true), (34, true), (35, true), (36, true), (37, true), (38, true), (39, true), (40, true), (41, true), (42, true), (43, true), (44, true), (45, true), (46, true), (47, true), (48, true), (49, true), (50, true), (51, true), (52, true), (53, true), (54, true)] [] []); kernel_rfl; (exact atks); kernel_rfl; intro r' hl')) | (refine acl Tryz.func155 ?_; refine acr (rrB_any _ _ hpl) ?_; rintro v' H' ⟨rfl, rfl⟩; all_goals refine apl ?_) | (refine acl Tryz.func95 ?_; refine acr (roB_any _ _ hpl) ?_; rintro v' H' ⟨rfl, rfl⟩; all_goals refine apl ?_) | refine aw1m ?_ | (refine abx ?_; intro bb) | (refine abz ?_; intro bz) | (refine ahv ?_; intro v' hv') | (refine aac ?_; intro ac cc) | refine aw2 ?_ | (refine ap4 ?_ ?_ <;> try intro h) | apply True.intro)
    all_goals first
    | (have hF : gD ds k = false := by
        rw [← Bool.not_eq_true, gD_iff]
        rintro ⟨g1, g2, g3, g4, g5⟩
        first
        | omega
        | exact h g2
        | (rw [h] at g1; cases g1)
        | (rw [e1] at h; rcases g5 with g5 | g5; omega; rw [h] at g5; cases g5)
       ((with_reducible apply fp_ret); exact res_1 rfl rfl)
       exact HR.out _ _ _ [] (by (exact atks)) ⟨by unfold refDocs; rw [bad_all hlt hF]; rfl, rfl⟩)
    | (have hT : gD ds k = true := by
        rw [gD_iff]
        refine ⟨by assumption, by assumption, by omega, by omega, ?_⟩
        first
        | exact .inl (by omega)
        | (rw [e1] at h; exact .inr h)
       exact ⟨_, by omega, k + 1, rfl, by omega, next_all ha hT, ⟨_, atks⟩, asls⟩)
  · obtain rfl : k = ds.length := by omega
    repeat' (first | refine aw0m ?_ | (refine ap2 ?_ ?_ <;> try intro h) | refine aw1m ?_ | (refine abx ?_; intro bb) | (refine abz ?_; intro bz) | (refine ahv ?_; intro v' hv') | (refine aac ?_; intro ac cc) | refine aw2 ?_ | (refine ap4 ?_ ?_ <;> try intro h) | apply True.intro)
    ((with_reducible apply fp_ret); exact res_1 rfl rfl)
    exact HR.out _ _ _ [] (by (exact atks)) ⟨by unfold refDocs; rw [ha, Bool.true_and]; congr 2; simp; omega, rfl⟩
end Go.Proofs.YtohpeoakdgckfaaGreat

namespace Go.Proofs.YtohpeoakdgckfaaGreat
open Go.RowKit

theorem splitL_all (q : UInt8 → Bool) (h47 : q 47 = true) (l : List UInt8) : (splitL l).all (fun p => p.all q) = l.all q := by
  induction l with
  | nil => rfl
  | cons b l ih =>
    unfold splitL
    split
    · rename_i h; subst h; simp [ih, h47]
    · rename_i h
      split
      · rename_i p ps hs; rw [hs] at ih; rw [List.all_cons] at ih; rw [List.all_cons, List.all_cons, List.all_cons, ← ih, Bool.and_assoc]
      · rename_i hs; exact absurd hs (splitL_ne l)

theorem all_and {α : Type} (p q : α → Bool) (l : List α) : l.all (fun x => p x && q x) = (l.all p && l.all q) := by
  induction l with
  | nil => rfl
  | cons a l ih => simp only [List.all_cons, ih]; cases p a <;> cases q a <;> simp

theorem pathOk_ref (s : List UInt8) : pathOk s = refOk s := by
  have h : (splitL s).all partOk = ((splitL s).all nameOk && s.all byteOk) := by
    rw [← splitL_all byteOk rfl s, ← all_and]; rfl
  rw [pathOk, refOk, h]
  cases (splitL s).all nameOk <;> cases s.all byteOk <;> simp


theorem less_not (p last : List UInt8) : (!(Op.bytesLess p last || p == last)) = Op.bytesLess last p := by
  rw [bytesLess_eq, bytesLess_eq, Bool.eq_iff_iff]
  simp only [Bool.not_eq_true', Bool.or_eq_false_iff, decide_eq_false_iff_not, beq_eq_false_iff_ne, decide_eq_true_eq]
  constructor
  · rintro ⟨h1, h2⟩
    exact Std.lt_of_le_of_ne (List.not_lt.1 h1) (fun e => h2 e.symm)
  · intro h
    refine ⟨fun h2 => List.lt_asymm h h2, fun e => ?_⟩
    subst e; exact List.lt_irrefl _ h

def refGo : Option (List UInt8) → List FileV → Bool
  | _, [] => true
  | o, f :: fs => refOk f.path && !(bigF f) && (match o with | none => true | some e => Op.bytesLess e f.path) && refGo (some f.path) fs
theorem good_go : ∀ (fs pre : List FileV), (List.range fs.length).all (fun j => goodAt (pre ++ fs) (pre.length + j)) = refGo (pre.getLast?.map (·.path)) fs
  | [], pre => rfl
  | f :: fs, pre => by
    have ih := good_go fs (pre ++ [f])
    rw [List.length_cons, List.range_succ_eq_map, List.all_cons, List.all_map]
    have e : (fun j => goodAt (pre ++ f :: fs) (pre.length + j)) ∘ Nat.succ = fun j => goodAt ((pre ++ [f]) ++ fs) ((pre ++ [f]).length + j) := by
      funext j
      simp only [Function.comp, List.append_assoc, List.singleton_append, List.length_append, List.length_cons, List.length_nil]
      congr 1; omega
    rw [e, ih, show refGo (pre.getLast?.map (·.path)) (f :: fs) = (refOk f.path && !(bigF f) && (match pre.getLast?.map (·.path) with | none => true | some e => Op.bytesLess e f.path) && refGo (some f.path) fs) from rfl]
    have h0 : goodAt (pre ++ f :: fs) (pre.length + 0) = (refOk f.path && !(bigF f) && (match pre.getLast?.map (·.path) with | none => true | some e => Op.bytesLess e f.path)) := by
      unfold goodAt
      rw [Nat.add_zero, List.getElem?_append_right (Nat.le_refl _), Nat.sub_self]
      simp only [List.getElem?_cons_zero, bigF]
      congr 1
      rcases List.eq_nil_or_concat pre with rfl | ⟨q, g, rfl⟩
      · simp
      · simp []
    rw [h0]
    simp
theorem go_ord : ∀ (fs : List FileV) (e : List UInt8), refGo (some e) fs = (!(fs.any bigF) && ordOk e (fs.map (·.path)))
  | [], e => rfl
  | f :: fs, e => by
    unfold refGo
    rw [go_ord fs f.path, List.map_cons, show ordOk e (f.path :: fs.map (·.path)) = (pathOk f.path && !(Op.bytesLess f.path e || f.path == e) && ordOk f.path (fs.map (·.path))) from rfl, less_not, pathOk_ref, List.any_cons]
    dsimp only
    cases refOk f.path <;> cases bigF f <;> cases Op.bytesLess e f.path <;> cases fs.any bigF <;> simp
theorem refFiles_eq (fs : List FileV) : refFiles fs = filesOk fs := by
  have h := good_go fs []
  simp only [List.nil_append, List.length_nil, Nat.zero_add] at h
  unfold refFiles filesOk
  rw [h]
  cases fs with
  | nil => rfl
  | cons f fs =>
    have h2 : refGo (Option.map (·.path) ([] : List FileV).getLast?) (f :: fs) = (refOk f.path && !(bigF f) && true && refGo (some f.path) fs) := rfl
    rw [h2, go_ord fs f.path, List.map_cons, show ordOk [] (f.path :: fs.map (·.path)) = (pathOk f.path && !(Op.bytesLess f.path [] || f.path == []) && ordOk f.path (fs.map (·.path))) from rfl, less_not, pathOk_ref, List.any_cons]
    have h3 : refOk f.path = true → Op.bytesLess [] f.path = true := fun h => by
      cases hp : f.path with
      | nil => rw [hp] at h; simp [refOk] at h
      | cons x l => rfl
    cases hr : refOk f.path
    · simp
    · rw [h3 hr]
      cases bigF f <;> cases fs.any bigF <;> cases ordOk f.path (fs.map (·.path)) <;> simp
end Go.Proofs.YtohpeoakdgckfaaGreat

/- The reference of chapter 22 says the same of documents: plain facts. -/
namespace Go.Proofs.YtohpeoakdgckfaaGreat
open Go.RowKit

def refGoD : Option (List UInt8) → List DocV → Bool
  | _, [] => true
  | o, d :: ds => refOk d.path && !(docBad d) && (match o with | none => true | some e => Op.bytesLess e d.path) && refGoD (some d.path) ds
theorem good_goD : ∀ (ds pre : List DocV), (List.range ds.length).all (fun j => gD (pre ++ ds) (pre.length + j)) = refGoD (pre.getLast?.map (·.path)) ds
  | [], pre => rfl
  | d :: ds, pre => by
    have ih := good_goD ds (pre ++ [d])
    rw [List.length_cons, List.range_succ_eq_map, List.all_cons, List.all_map]
    have e : (fun j => gD (pre ++ d :: ds) (pre.length + j)) ∘ Nat.succ = fun j => gD ((pre ++ [d]) ++ ds) ((pre ++ [d]).length + j) := by
      funext j
      simp only [Function.comp, List.append_assoc, List.singleton_append, List.length_append, List.length_cons, List.length_nil]
      congr 1; omega
    rw [e, ih]
    have h0 : gD (pre ++ d :: ds) (pre.length + 0) = (refOk d.path && !(docBad d) && (match pre.getLast?.map (·.path) with | none => true | some e => Op.bytesLess e d.path)) := by
      have hd : (pre ++ d :: ds).getD pre.length default = d := by simp [List.getD_eq_getElem?_getD]
      rw [Bool.eq_iff_iff, Nat.add_zero, gD_iff, hd]
      simp only [Bool.and_eq_true, docBad, Bool.not_eq_true', Bool.or_eq_false_iff, decide_eq_false_iff_not, ne_eq, Decidable.not_not, and_assoc, Int.not_lt]
      rcases List.eq_nil_or_concat pre with rfl | ⟨q, g, rfl⟩
      · simp
      · have e2 : (q.concat g ++ d :: ds).getD ((q.concat g).length - 1) default = g := by
          simp [List.getD_eq_getElem?_getD, List.concat_eq_append]
        rw [e2]
        simp [List.concat_eq_append]
    rw [h0]
    simp [refGoD]
theorem go_ordD : ∀ (ds : List DocV) (e : List UInt8), refGoD (some e) ds = (!(ds.any docBad) && ordOk e (ds.map (·.path)))
  | [], e => rfl
  | f :: fs, e => by
    unfold refGoD
    rw [go_ordD fs f.path, List.map_cons, show ordOk e (f.path :: fs.map (·.path)) = (pathOk f.path && !(Op.bytesLess f.path e || f.path == e) && ordOk f.path (fs.map (·.path))) from rfl, less_not, pathOk_ref, List.any_cons]
    dsimp only
    cases refOk f.path <;> cases docBad f <;> cases Op.bytesLess e f.path <;> cases fs.any docBad <;> simp
theorem refDocs_eq (ds : List DocV) : refDocs ds = docsOk ds := by
  have h := good_goD ds []
  simp only [List.nil_append, List.length_nil, Nat.zero_add] at h
  unfold refDocs docsOk
  rw [h]
  cases ds with
  | nil => rfl
  | cons f fs =>
    have h2 : refGoD (Option.map (·.path) ([] : List DocV).getLast?) (f :: fs) = (refOk f.path && !(docBad f) && true && refGoD (some f.path) fs) := rfl
    rw [h2, go_ordD fs f.path, List.map_cons, show ordOk [] (f.path :: fs.map (·.path)) = (pathOk f.path && !(Op.bytesLess f.path [] || f.path == []) && ordOk f.path (fs.map (·.path))) from rfl, less_not, pathOk_ref, List.any_cons]
    have h3 : refOk f.path = true → Op.bytesLess [] f.path = true := fun h => by
      cases hp : f.path with
      | nil => rw [hp] at h; simp [refOk] at h
      | cons x l => rfl
    cases hr : refOk f.path
    · simp
    · rw [h3 hr]
      cases docBad f <;> cases fs.any docBad <;> cases ordOk f.path (fs.map (·.path)) <;> simp
end Go.Proofs.YtohpeoakdgckfaaGreat

namespace Go.Proofs.YtohpeoakdgckfaaGreat
open Go.RowKit Sx

def filesOkK (ks : List (List UInt8 × List UInt8)) : Bool := decide (ks.length ≤ 4000) && !(ks.any fun k => decide (1048576 < k.2.length)) && ordOk [] (ks.map Prod.fst)
theorem filesOk_key (fs : List FileV) : filesOk fs = filesOkK (fs.map FileV.key) := by
  unfold filesOk filesOkK
  rw [List.length_map, List.any_map, List.map_map]
  rfl
def docOfK (k : List UInt8 × List UInt8) : DocV := ⟨k.1, langOf k.1, inv32 (crcAll 4294967295 k.2), k.2.length⟩
theorem docOf_key (fs : List FileV) : fs.map docOf = (fs.map FileV.key).map docOfK := by rw [List.map_map]; rfl
theorem LentFs.mono {r r' : Hp} {v : Value} {fs : List FileV} (h : LentFs r v fs) (hr : sub r r') : LentFs r' v fs := by
  obtain ⟨a, c, fs', e, hc, hm, hs, hw⟩ := h
  exact ⟨a, c, fs', e, hc, hm, hs.mono hr, fun f hf => (hw f hf).mono hr⟩
theorem LentFs.files {r : Hp} {v : Value} {fs : List FileV} (h : LentFs r v fs) : ∃ fs' : List FileV, fs'.map FileV.key = fs.map FileV.key ∧ Files r v fs' := by
  obtain ⟨a, c, fs', rfl, hc, hm, hs, hw⟩ := h
  have hlen : fs'.length = fs.length := by have := congrArg List.length hm; simpa using this
  refine ⟨fs', hm, ⟨hs.1, ?_⟩, fun f hf => (hw f hf).sl⟩
  have h1 := hs.2
  rw [show (fs' ++ marksFn 12).length = fs.length + 12 by rw [List.length_append, hlen]; simp [marksFn]] at h1
  have h2 := Sl.narrow h1 (m := fs.length) (by omega)
  rw [List.flatMap_append, show fs.length * 2 = (fs'.flatMap encF).length by rw [flat_len hs.1 fs', hlen], List.take_left] at h2
  rw [hlen]
  exact h2
end Go.Proofs.YtohpeoakdgckfaaGreat

namespace Go.Proofs.YtohpeoakdgckfaaGreat
open Go.RowKit Sx

def goodDoc (d : DocV) : Prop := d.path.length ≤ 200 ∧ d.sum < 4294967296 ∧ 0 ≤ d.size ∧ d.size ≤ 1048576 ∧ d.lang = langOf d.path
theorem docR_put {d : DocV} (x : List UInt8) (h : goodDoc d) : docR (some (putDoc d ++ x)) = (d, some x) := by
  obtain ⟨h1, h2, h3, h4, h5⟩ := h
  obtain ⟨p, l, s, n⟩ := d
  obtain ⟨m, rfl⟩ : ∃ m : Nat, n = m := ⟨n.toNat, by simp at h3 ⊢; omega⟩
  dsimp only at *
  subst h5
  have e := numR_septs (most := 1048576) (n := m) x (by omega) (by unfold maxNum; omega)
  have e1 := textR_texts (most := 200) (fixed s ++ (septs m ++ x)) h1 (by unfold maxNum; omega)
  have e2 := fixR_fixed (septs m ++ x) h2
  rw [show ((1048576 : Nat) : Int) = 1048576 from rfl] at e
  rw [show ((200 : Nat) : Int) = 200 from rfl] at e1
  simp only [docR, putDoc, List.append_assoc, Int.toNat_natCast, e1, e2, e]
theorem docsR_put : ∀ (ds : List DocV) (x : List UInt8), (∀ d ∈ ds, goodDoc d) → docsR ds.length (some (ds.flatMap putDoc ++ x)) = (ds, some x)
  | [], x, _ => by simp [docsR]
  | d :: ds, x, h => by
    have e := docR_put (ds.flatMap putDoc ++ x) (h d List.mem_cons_self)
    have ih := docsR_put ds x fun y hy => h y (List.mem_cons_of_mem _ hy)
    rw [List.length_cons, List.flatMap_cons, List.append_assoc, docsR_succ, e]
    simp [ih]
theorem pathOk_len {p : List UInt8} (h : pathOk p = true) : p.length ≤ 200 := by
  unfold pathOk at h
  simp only [Bool.and_eq_true, decide_eq_true_eq] at h
  exact h.1.2
theorem ordOk_mem : ∀ {ps : List (List UInt8)} {e p : List UInt8}, ordOk e ps = true → p ∈ ps → pathOk p = true
  | [], _, _, _, h => by cases h
  | q :: ps, e, p, h, hp => by
    unfold ordOk at h
    simp only [Bool.and_eq_true] at h
    rcases List.mem_cons.1 hp with rfl | hp
    · exact h.1.1
    · exact ordOk_mem h.2 hp
/-- Documents that are right are got from their bytes. -/
theorem put_get {ds : List DocV} (h : docsOk ds = true) (hs : ∀ d ∈ ds, d.sum < 4294967296) : getDocs (putBytes ds) = (ds, some []) := by
  unfold docsOk at h
  simp only [Bool.and_eq_true, decide_eq_true_eq] at h
  obtain ⟨⟨h1, h2⟩, h3⟩ := h
  have e := numR_septs (most := 4000) (n := ds.length) (ds.flatMap putDoc) h1 (by unfold maxNum; omega)
  rw [show ((4000 : Nat) : Int) = 4000 from rfl] at e
  unfold getDocs putBytes
  simp only [e]
  have := docsR_put ds [] fun d hd => ⟨pathOk_len (ordOk_mem h3 (List.mem_map.2 ⟨d, hd, rfl⟩)), hs d hd, ?_⟩
  · simpa using this
  · simp only [Bool.not_eq_true', List.any_eq_false] at h2
    have := h2 d hd
    simp [docBad] at this
    exact ⟨this.1.2, this.2, this.1.1⟩
end Go.Proofs.YtohpeoakdgckfaaGreat

namespace Go.Proofs.YtohpeoakdgckfaaGreat
open Go.RowKit Sx

theorem docs_of_files {fs : List FileV} (h : filesOk fs = true) : docsOk (fs.map docOf) = true ∧ ∀ d ∈ fs.map docOf, d.sum < 4294967296 := by
  unfold filesOk at h
  simp only [Bool.and_eq_true, decide_eq_true_eq, Bool.not_eq_true', List.any_eq_false] at h
  obtain ⟨⟨h1, h2⟩, h3⟩ := h
  refine ⟨?_, fun d hd => ?_⟩
  · unfold docsOk
    simp only [Bool.and_eq_true, decide_eq_true_eq, Bool.not_eq_true', List.any_eq_false, List.length_map]
    refine ⟨⟨h1, fun d hd => ?_⟩, by rw [List.map_map]; exact h3⟩
    obtain ⟨f, hf, rfl⟩ := List.mem_map.1 hd
    have := h2 f hf
    simp only [bigF, decide_eq_true_eq] at this
    have e1 : decide ((docOf f).lang ≠ langOf (docOf f).path) = false := by simp [docOf]
    have e2 : decide ((docOf f).size < 0) = false := decide_eq_false (show ¬ ((f.data.length : Int) < 0) by omega)
    have e3 : decide (1048576 < (docOf f).size) = false := decide_eq_false (show ¬ ((1048576 : Int) < (f.data.length : Int)) by omega)
    unfold docBad
    rw [e1, e2, e3]
    simp
  · obtain ⟨f, hf, rfl⟩ := List.mem_map.1 hd
    exact inv32_lt (crcAll_lt _ _ (by omega))
end Go.Proofs.YtohpeoakdgckfaaGreat

namespace Go.Proofs.YtohpeoakdgckfaaGreat
open Go.RowKit Sx

theorem pX_body : ∀ ps : List PartP, (∀ p ∈ ps, p.2.length ≤ 1000000) → pX (bodyB ps) = ps.map fun p => (p, true)
  | [], _ => by rw [show bodyB [] = [] from rfl, pX_nil]; rfl
  | (t, d) :: ps, h => by
    have h1 := textR_texts (most := 67108864) (bodyB ps) (Nat.le_trans (h _ List.mem_cons_self) (by decide) : d.length ≤ 67108864) (by unfold maxNum; decide)
    rw [show bodyB ((t, d) :: ps) = t :: (texts d ++ bodyB ps) from rfl, pX_ok h1, pX_body ps fun p hp => h p (List.mem_cons_of_mem _ hp)]
    rfl
theorem fixR_put {n : Nat} (h : n < 4294967296) (x : List UInt8) : (fixR (some (fixed n ++ x))).1 = n := by rw [fixR_fixed x h]
theorem partsF_frame {ps : List PartP} (h : (bodyB ps).length ≤ 1000000) (hp : ∀ p ∈ ps, p.2.length ≤ 1000000) : partsF (frameB ps) = some ps := by
  have h4 : ∀ n, (fixed n).length = 4 := fun _ => rfl
  have hl := frameB_len ps
  have hhd : (headB ps).length = (bodyB ps).length + 4 := by unfold headB; rw [List.length_append, h4]; omega
  have e1 : (frameB ps).take ((frameB ps).length - 4) = headB ps := by
    rw [hl, show (bodyB ps).length + 8 - 4 = (headB ps).length by omega]
    exact List.take_left
  have e2 : (frameB ps).drop ((frameB ps).length - 4) = fixed (crcB (headB ps)) ++ [] := by
    rw [hl, show (bodyB ps).length + 8 - 4 = (headB ps).length by omega, List.append_nil]
    exact List.drop_left
  have e3 : midF (frameB ps) = bodyB ps := by
    unfold midF
    rw [show frameB ps = fixed ((bodyB ps).length + 8) ++ (bodyB ps ++ fixed (crcB (headB ps))) by unfold frameB; rw [headB, List.append_assoc], show (4 : Nat) = (fixed ((bodyB ps).length + 8)).length from rfl, List.drop_left]
    rw [List.length_append, List.length_append, h4, h4, show 4 + ((bodyB ps).length + 4) - 8 = (bodyB ps).length by omega]
    exact List.take_left
  have hok : okF (frameB ps) = true := by
    unfold okF
    rw [e1, e2, fixR_put (crcB_lt _), decide_eq_true rfl, decide_eq_true (by omega : 8 ≤ (frameB ps).length)]
    rw [show (fixR (some (frameB ps))).1 = (frameB ps).length by
      rw [hl]
      show (fixR (some ((fixed ((bodyB ps).length + 8) ++ bodyB ps) ++ fixed (crcB (headB ps))))).1 = _
      rw [List.append_assoc]
      exact fixR_put (by omega) _]
    simp
  unfold partsF
  rw [hok, e3, pX_body ps hp, List.map_map, show ((fun x : PartP × Bool => x.1) ∘ fun p => (p, true)) = id from rfl, List.map_id]
  simp
end Go.Proofs.YtohpeoakdgckfaaGreat

namespace Go.Proofs.YtohpeoakdgckfaaGreat
open Go.RowKit Sx

theorem Sx.RowC.form {E : TypeId} {sz n : Nat} {v : Value} {xs : List Value} {g : Hp} (h : RowC E sz v n xs g) : ∃ a c, v = .slice a n c := (h.sl (r := g) (fun _ _ h => h)).form
theorem docsOk_each {ds : List DocV} (h : docsOk ds = true) : ds.length ≤ 4000 ∧ ∀ d ∈ ds, d.path.length ≤ 200 ∧ 0 ≤ d.size ∧ d.size ≤ 1048576 := by
  unfold docsOk at h
  simp only [Bool.and_eq_true, decide_eq_true_eq] at h
  obtain ⟨⟨h1, h2⟩, h3⟩ := h
  refine ⟨h1, fun d hd => ⟨pathOk_len (ordOk_mem h3 (List.mem_map.2 ⟨d, hd, rfl⟩)), ?_⟩⟩
  simp only [Bool.not_eq_true', List.any_eq_false] at h2
  have := h2 d hd
  simp [docBad] at this
  exact ⟨this.1.2, this.2⟩
set_option maxRecDepth 10000 in
set_option maxHeartbeats 2000000 in
theorem rput_any (r : Hp) (v : Value) (ds : List DocV) (hv : Docs r v ds) (hl : ∀ x ∈ ds, x.path.length ≤ 1000000) (hsum : ∀ x ∈ ds, x.sum < 4294967296) : Tri Tryz.prog r 41 [v] [] fun w H =>
    if docsOk ds then ∃ a c, w = .tuple #[.slice a (putBytes ds).length c, .int .i64 0] ∧ H = [U8R (.slice a (putBytes ds).length c) (putBytes ds)] else w = .tuple #[.slice none 0 0, .int .i64 2] ∧ H = [] := by
  refine Tri.free2 fun R HR => ?_
  have hlm := maxI hv.2.2.1
  have hrd := rdocs_any r v ds hv hl
  rw [refDocs_eq] at hrd
  cases hok : docsOk ds
  · rw [hok] at hrd HR
    refine fn_of_sw Tryz.func41 rfl _ rfl ?_; refine aen Tryz.ntmps41 ?_
    repeat' (first | refine aw0m ?_ | (refine ap2 ?_ ?_ <;> try intro h) | (refine acl Tryz.func96 ?_; refine acr (hrd) ?_; rintro v' H' ⟨rfl, rfl⟩; all_goals refine apl ?_) | refine aw1m ?_ | (refine abx ?_; intro bb) | (refine abz ?_; intro bz) | (refine ahv ?_; intro v' hv') | (refine aac ?_; intro ac cc) | refine aw2 ?_ | (refine ap4 ?_ ?_ <;> try intro h) | apply True.intro)
    ((with_reducible apply fp_ret); exact res_2 rfl rfl rfl)
    exact HR.out _ _ _ [] (by (exact atks)) ⟨rfl, rfl⟩
  · rw [hok] at hrd HR
    obtain ⟨hn4, heach⟩ := docsOk_each hok
    refine fn_of_sw Tryz.func41 rfl _ rfl ?_; refine aen Tryz.ntmps41 ?_
    refine sw_put (A := U8R (.slice none 0 0) []) (RowC.nil _ _) ?_
    repeat' (first | (refine acl Tryz.func96 ?_; refine acr (hrd) ?_; rintro v' H' ⟨rfl, rfl⟩; all_goals refine apl ?_) | ((with_reducible apply kx_box); rfl; exact cells_agg; intro bw; (refine apk ?_)) | (refine acl Tryz.func97 ?_; refine acr (rwnum_any r bw (.slice none 0 0) [] ds.length (by unfold maxNum; omega) (by simp)) ?_; rintro v' H' ⟨v1, rfl⟩; all_goals refine apl ?_) | refine aw0 ?_ | (refine ap2 ?_ ?_ <;> try intro h) | refine aw1 ?_ | (refine abx ?_; intro bb) | (refine abz ?_; intro bz) | (refine ahv ?_; intro v' hv') | (refine aac ?_; intro ac cc) | refine aw2 ?_ | (refine ap4 ?_ ?_ <;> try intro h) | apply True.intro)
    refine sw_loop (fun gm t H' => ∃ (k : Nat) (w : Value), gm = ds.length + 1 - k ∧ (k ≤ ds.length) ∧ (∃ G, Takes [pt bw (rwr w false), U8R w (septs ds.length ++ (ds.take k).flatMap putDoc)] H' G) ∧ Sls t 47 [(0, v), (4, .pointer (some ⟨bw, 0, none⟩)), (5, .int .i64 k)]) _ ⟨0, v1, rfl, Nat.zero_le _, ⟨[], by rw [show (ds.take 0).flatMap putDoc = [] from rfl, List.append_nil]; (exact atks)⟩, asls⟩ ?_
    rintro gm t H' ⟨k, w, rfl, hk, ⟨G, hp⟩, hs'⟩
    revert t; refine sls_all ?_; iterate 44 intro uu'
    refine sw_takeG hp ?_; clear hp
    by_cases hlt : k < ds.length
    · have hmem : ds.getD k default ∈ ds := by simp [hlt]
      obtain ⟨hp2, hz1, hz2⟩ := heach _ hmem
      have hs1 := hsum _ hmem
      have hsz : (ds.getD k default).size = ((ds.getD k default).size.toNat : Nat) := by omega
      have hnext : septs ds.length ++ (ds.take k).flatMap putDoc ++ texts (ds.getD k default).path ++ fixed (ds.getD k default).sum ++ septs (ds.getD k default).size.toNat = septs ds.length ++ (ds.take (k + 1)).flatMap putDoc := by
        rw [take_getD (d := default) hlt, List.flatMap_append]
        simp [putDoc]
      have h6 := septs_len6 (n := ds.length) (by unfold maxNum; omega)
      have h7 := putDocs_len (ds := ds.take k) fun d hd => by
        have := heach d (List.mem_of_mem_take hd)
        exact ⟨by omega, this.2.2⟩
      have h8 : (texts (ds.getD k default).path).length ≤ 206 := by
        have := septs_len6 (n := (ds.getD k default).path.length) (by unfold maxNum; omega)
        simp only [texts, List.length_append]; omega
      have h9 : (ds.take k).length ≤ 4000 := by rw [List.length_take]; omega
      have hL : (septs ds.length ++ (ds.take k).flatMap putDoc).length ≤ 5000000000 := by rw [List.length_append]; omega
      generalize septs ds.length ++ (ds.take k).flatMap putDoc = L at hnext hL
      repeat' (first | ((with_reducible apply kx_lendC (A := RdC (.slice ac (ds.getD k default).path.length cc) (ds.getD k default).path)); (exact atk); intro r1 g1 hr1 hg1 hA1; (refine acl Tryz.func65 ?_; refine acr (rwtext_any r1 bw w L _ (ds.getD k default).path (Sl.mono hA1 hg1) (by omega) (by omega)) ?_; rintro v' H' ⟨v2, rfl⟩; all_goals refine apl ?_)) | (refine acl Tryz.func66 ?_; refine acr (rwfixed_any r bw v2 (L ++ texts (ds.getD k default).path) (ds.getD k default).sum hs1 (by rw [List.length_append]; omega)) ?_; rintro v' H' ⟨v3, rfl⟩; all_goals refine apl ?_) | (refine acl Tryz.func97 ?_; refine acr (by rw [hsz]; exact rwnum_any r bw v3 (L ++ texts (ds.getD k default).path ++ fixed (ds.getD k default).sum) (ds.getD k default).size.toNat (by unfold maxNum; omega) (by rw [List.length_append, List.length_append]; simp only [fixed, List.length_cons, List.length_nil]; omega)) ?_; rintro v' H' ⟨v4, rfl⟩; all_goals refine apl ?_) | refine aw0 ?_ | (refine ap2 ?_ ?_ <;> try intro h) | refine aw1 ?_ | (refine abx ?_; intro bb) | (refine abz ?_; intro bz) | (refine ahv ?_; intro v' hv') | (refine aac ?_; intro ac cc) | refine aw2 ?_ | (refine ap4 ?_ ?_ <;> try intro h) | apply True.intro)
      exact ⟨_, by omega, k + 1, v4, rfl, by omega, ⟨_, by rw [← hnext]; (exact atks)⟩, asls⟩
    · obtain rfl : k = ds.length := by omega
      rw [List.take_length]
      refine sw_fact (A := U8R w (septs ds.length ++ ds.flatMap putDoc)) (by (exact atk)) (fun g h => RowC.form h) ?_
      rintro ⟨a5, c5, rfl⟩
      repeat' (first | refine aw0m ?_ | (refine ap2 ?_ ?_ <;> try intro h) | refine aw1m ?_ | (refine abx ?_; intro bb) | (refine abz ?_; intro bz) | (refine ahv ?_; intro v' hv') | (refine aac ?_; intro ac cc) | refine aw2 ?_ | (refine ap4 ?_ ?_ <;> try intro h) | apply True.intro)
      ((with_reducible apply fp_ret); exact res_2 rfl rfl rfl)
      exact HR.out _ _ _ [RowC 5 1 _ _ _] (by (exact atks)) ⟨a5, c5, rfl, rfl⟩
end Go.Proofs.YtohpeoakdgckfaaGreat
