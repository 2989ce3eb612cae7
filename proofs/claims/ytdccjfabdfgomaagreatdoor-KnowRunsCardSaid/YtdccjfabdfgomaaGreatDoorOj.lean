
/- gram.places, Grams: their contracts. -/
import Derived.Test.YtdccjfabdfgomaaGreatDoorOk
import Derived.Test.YtdccjfabdfgomaaGreatDoorOb
import Derived.Test.YtdccjfabdfgomaaGreatDoorMp
namespace Go.Proofs.YtdccjfabdfgomaaGreatDoor
open Go.RowKit Sx

namespace Sx
section
variable {P : Program} {l : Option Nat} {r : Hp} {K : St} {t : List Value} {H : List Ch} {d : Option Tmp} {ty : TypeId} {pos : String} {af : Array Edge} {gd : Option (Nat × Bool)} {u : Value}
/-- A slice as a pointer to an array. -/
theorem pu_s2a {T E : TypeId} {x : Operand} {sz n k : Nat} {xs : List Value} (hT : P.underlying T = some (.array k E)) (hx : evO t x = some u) (hu : Sl r sz u n xs) (hk : k ≤ n) (h0 : 0 < n) :
    Pur P r t ⟨d, .sliceToArrayPointer T x, ty, pos, af, gd⟩ (.pointer (some ⟨blkV u, offV u, none⟩)) := by
  refine ⟨rfl, fun w _ => ?_⟩
  rcases hu.2.2 with ⟨_, e⟩ | ⟨b, off, cap, c, E', fz, rfl, _⟩
  · omega
  · simp only [execOp, ev_of hx, Instr.arrayAt, Sem.run_bind, run_underlying hT, Result.andThen]
    rw [if_neg (by omega)]
    simp [Sem.run_pure, blkV, offV]
theorem Sl.rdN {n sz : Nat} {xs : List Value} (h : Sl r sz u n xs) (H : List Ch) : RdN r H ⟨blkV u, offV u, none⟩ xs.toArray := fun j hj => by
  have h1 := h.cellAt (j := j) (by simpa using hj) H
  have e : (⟨blkV u, offV u, none⟩ : Addr).add j = ⟨blkV u, offV u + j, none⟩ := by unfold Addr.add; split <;> simp_all
  rw [e]
  simpa using h1
end
end Sx
open Sx
def gramAt (l : List UInt8) (i : Nat) : G3 := (l.getD i 0, l.getD (i + 1) 0, l.getD (i + 2) 0)
def gramsAt (l : List UInt8) : List (Nat × G3) := (List.range (l.length - 2)).map fun i => (i, gramAt l i)
theorem gramsAt_get {l : List UInt8} {i : Nat} (h : i < (gramsAt l).length) : (gramsAt l)[i] = (i, gramAt l i) := by
  simp only [gramsAt, List.getElem_map, List.getElem_range]
theorem gramsAt_len (l : List UInt8) : (gramsAt l).length = l.length - 2 := by unfold gramsAt; rw [List.length_map, List.length_range]
theorem partsN_len : ∀ s : Tx, (partsT s).length = s.length - 2
  | [] => rfl
  | [_] => rfl
  | [_, _] => rfl
  | a :: b :: c :: l => by
    have := partsN_len (b :: c :: l)
    simp only [partsT, List.length_cons] at this ⊢
    omega
theorem partsN_get : ∀ (s : Tx) (m : Nat) (h : m < (partsT s).length), (partsT s)[m] = txG (gramAt s m)
  | [], m, h => absurd h (by simp [partsT])
  | [_], m, h => absurd h (by simp [partsT])
  | [_, _], m, h => absurd h (by simp [partsT])
  | a :: b :: c :: l, 0, h => rfl
  | a :: b :: c :: l, m + 1, h => by
    have := partsN_get (b :: c :: l) m (by simpa [partsT] using h)
    simp only [partsT, List.getElem_cons_succ]
    rw [this]; rfl
theorem gramsAt_parts (l : List UInt8) : (gramsAt l).map (fun x => txG x.2) = partsT l := by
  apply List.ext_getElem
  · rw [List.length_map, gramsAt_len, partsN_len]
  · intro i h1 h2
    rw [List.getElem_map, partsN_get l i h2, gramsAt_get (by simpa using h1)]
theorem cut3_eq {l : List UInt8} {i : Nat} (h : i + 3 ≤ l.length) : ((u8s l).drop (i * 1)).take ((i + 3 - i) * 1) = encG3 (gramAt l i) := by
  apply List.ext_getElem?
  intro j
  rw [Nat.mul_one, Nat.mul_one, show i + 3 - i = 3 by omega]
  by_cases hj : j < 3
  · rw [List.getElem?_take_of_lt hj, List.getElem?_drop]
    unfold u8s
    rw [List.getElem?_map, List.getElem?_eq_getElem (by omega)]
    have e : ∀ k, k < l.length → l.getD k 0 = l[k]! := fun k hk => by rw [List.getD_eq_getElem?_getD, List.getElem?_eq_getElem hk, getElem!_pos l k hk]; rfl
    match j, hj with
    | 0, _ => simp [encG3, gramAt, List.getD_eq_getElem?_getD, List.getElem?_eq_getElem (show i < l.length by omega)]
    | 1, _ => simp [encG3, gramAt, List.getD_eq_getElem?_getD, List.getElem?_eq_getElem (show i + 1 < l.length by omega)]
    | 2, _ => simp [encG3, gramAt, List.getD_eq_getElem?_getD, List.getElem?_eq_getElem (show i + 2 < l.length by omega)]
    | n + 3, h => omega
  · rw [List.getElem?_eq_none (by simp; omega), List.getElem?_eq_none (by simp [encG3]; omega)]
def tellG (x : Nat × G3) : List Value := [.int .i64 (x.1 : Int), .agg (encG3 x.2).toArray]
set_option maxRecDepth 10000 in
set_option maxHeartbeats 2000000 in
theorem gall_any (r : Hp) (v : Value) (l : List UInt8) (hv : U8S r v l) : Tri Tryz.prog r 39 [v] [] fun w H => ∃ B, w = .func (.func 68) #[] #[.pointer (some ⟨B, 0, none⟩)] ∧ H = [pt B (.cells [v].toArray 42 (0, 0))] := by
  obtain ⟨a0, c0, rfl⟩ := hv.form
  refine Tri.free2 fun R HR => ?_
  refine fn_of_sw Tryz.func39 rfl _ rfl ?_; refine aen Tryz.ntmps39 ?_
  repeat' (first | ((with_reducible apply kx_box); rfl; (exact qcl); intro b1; (refine apk ?_)) | (exfalso; first | contradiction | omega) | refine aw0 ?_ | (refine ap2 ?_ ?_ <;> try intro h) | refine aw1 ?_ | (refine abx ?_; intro bb) | (refine abz ?_; intro bz) | (refine ahv ?_; intro v' hv') | (refine aac ?_; intro ac cc) | refine aw2 ?_ | (refine ap4 ?_ ?_ <;> try intro h) | apply True.intro)
  ((with_reducible apply fp_ret); exact res_1 rfl rfl)
  exact HR.out _ _ _ [_] (by (exact atks)) ⟨b1, rfl, rfl⟩
set_option maxRecDepth 10000 in
set_option maxHeartbeats 4000000 in
theorem gall_seq (r : Hp) (B : Nat) (v : Value) (l : List UInt8) (hv : U8S r v l) : Seq Tryz.prog r 68 [.pointer (some ⟨B, 0, none⟩)] tellG (gramsAt l) [pt B (.cells [v].toArray 42 (0, 0))] [] := by
  intro k J Jx hy
  have hlm := maxI hv.2.1
  obtain ⟨X, hX⟩ : ∃ X, gramsAt l = X := ⟨_, rfl⟩
  have hXl : X.length = l.length - 2 := by rw [← hX, gramsAt_len]
  have hXg : ∀ (m : Nat) (h : m < X.length), X[m] = (m, gramAt l m) := by
    subst hX
    exact fun m h => gramsAt_get h
  rw [hX] at hy ⊢
  refine Tri.free2 fun R HR => ?_
  refine fn_of_sw Tryz.func68 rfl _ rfl ?_; refine aen Tryz.ntmps68 ?_
  by_cases hl : 2 ≤ l.length
  · have hmx : max ((l.length : Int) - 2) 0 = (X.length : Int) := by omega
    repeat' (first | (rw [hmx]) | (exfalso; first | contradiction | omega) | refine aw0 ?_ | (refine ap2 ?_ ?_ <;> try intro h) | refine aw1 ?_ | (refine abx ?_; intro bb) | (refine abz ?_; intro bz) | (refine ahv ?_; intro v' hv') | (refine aac ?_; intro ac cc) | refine aw2 ?_ | (refine ap4 ?_ ?_ <;> try intro h) | apply True.intro)
    refine sw_loop (fun gm t H' => ∃ (m : Nat), gm = X.length + 1 - m ∧ (m ≤ X.length) ∧ (∃ G, Takes [J m, pt B (.cells [v].toArray 42 (0, 0))] H' G) ∧ Sls t 23 [(0, .func (.yield k) #[] #[]), (1, .pointer (some ⟨B, 0, none⟩)), (7, .int .i64 X.length), (8, .int .i64 m)]) _ ⟨0, rfl, Nat.zero_le _, ⟨_, atks⟩, asls⟩ ?_
    rintro gm t H' ⟨m, rfl, hm, ⟨G, hp⟩, hs'⟩
    revert t; refine sls_all ?_; iterate 19 intro uu'
    refine sw_takeG hp ?_; clear hp
    by_cases hlt : m < X.length
    · have hyp := hy m hlt
      rw [hXg m hlt] at hyp
      have hcv : ∀ v', Sl r 1 v' (List.take ((((m : Nat) : Int) + 3).toNat - (((m : Nat) : Int)).toNat) (List.drop (((m : Nat) : Int)).toNat l)).length (u8s (List.take ((((m : Nat) : Int) + 3).toNat - (((m : Nat) : Int)).toNat) (List.drop (((m : Nat) : Int)).toNat l))) → Sl r 1 v' 3 (encG3 (gramAt l m)) := fun v' h => by
        rw [show (((m : Nat) : Int)).toNat = m by omega, show (((m : Nat) : Int) + 3).toNat = m + 3 by omega, show m + 3 - m = 3 by omega] at h
        have e := cut3_eq (l := l) (i := m) (by omega)
        rw [Nat.mul_one, Nat.mul_one, show m + 3 - m = 3 by omega] at e
        rw [show u8s (List.take 3 (List.drop m l)) = List.take 3 (List.drop m (u8s l)) by unfold u8s; rw [List.map_take, List.map_drop], e, show (List.take 3 (List.drop m l)).length = 3 by rw [List.length_take, List.length_drop]; omega] at h
        exact h
      rw [show tellG (m, gramAt l m) = [.int .i64 (m : Int), .agg [.int .u8 (gramAt l m).1.toNat, .int .u8 (gramAt l m).2.1.toNat, .int .u8 (gramAt l m).2.2.toNat].toArray] from rfl] at hyp
      rw [show encG3 (gramAt l m) = [.int .u8 (gramAt l m).1.toNat, .int .u8 (gramAt l m).2.1.toNat, .int .u8 (gramAt l m).2.2.toNat] from rfl] at hcv
      obtain ⟨g, hg⟩ : ∃ g, gramAt l m = g := ⟨_, rfl⟩
      rw [hg] at hyp hcv
      repeat' (first | ((with_reducible apply swo_pur); (with_reducible apply pu_s2a); exact Tryz.underlying64; rfl; exact hcv _ hv'; omega; omega; (refine apk ?_)) | ((with_reducible apply kx_loadN (a := ⟨blkV v', offV v', none⟩) (vs := [.int .u8 g.1.toNat, .int .u8 g.2.1.toNat, .int .u8 g.2.2.toNat])); exact ty_agg; exact ty_size; rfl; exact (hcv _ hv').rdN _; rfl; (refine apk ?_)) | ((with_reducible apply kx_yield); rfl; exact (hyp); rfl; (exact atk); all_goals (refine apk ?_)) | (exfalso; first | contradiction | omega) | refine aw0 ?_ | (refine ap2 ?_ ?_ <;> try intro h) | refine aw1 ?_ | (refine abx ?_; intro bb) | (refine abz ?_; intro bz) | (refine ahv ?_; intro v' hv') | (refine aac ?_; intro ac cc) | refine aw2 ?_ | (refine ap4 ?_ ?_ <;> try intro h) | apply True.intro)
      · exact ⟨_, by omega, m + 1, rfl, by omega, ⟨_, atks⟩, asls⟩
      · ((with_reducible apply fp_ret); exact res_0 rfl)
        exact HR.out _ _ _ [Jx (m + 1)] (by (exact atks)) (.inr ⟨m, [], hlt, rfl⟩)
    · obtain rfl : m = X.length := by omega
      repeat' (first | (exfalso; first | contradiction | omega) | refine aw0 ?_ | (refine ap2 ?_ ?_ <;> try intro h) | refine aw1 ?_ | (refine abx ?_; intro bb) | (refine abz ?_; intro bz) | (refine ahv ?_; intro v' hv') | (refine aac ?_; intro ac cc) | refine aw2 ?_ | (refine ap4 ?_ ?_ <;> try intro h) | apply True.intro)
      ((with_reducible apply fp_end); exact res_0 rfl)
      exact HR.out _ _ _ [J X.length] (by (exact atks)) (.inl rfl)
  · have hmx : max ((l.length : Int) - 2) 0 = (X.length : Int) := by omega
    have hX0 : X.length = 0 := by omega
    repeat' (first | (rw [hmx]) | (exfalso; first | contradiction | omega) | refine aw0 ?_ | (refine ap2 ?_ ?_ <;> try intro h) | refine aw1 ?_ | (refine abx ?_; intro bb) | (refine abz ?_; intro bz) | (refine ahv ?_; intro v' hv') | (refine aac ?_; intro ac cc) | refine aw2 ?_ | (refine ap4 ?_ ?_ <;> try intro h) | apply True.intro)
    refine sw_loop (fun gm t H' => gm = 1 ∧ (∃ G, Takes [J 0] H' G) ∧ Sls t 23 [(0, .func (.yield k) #[] #[]), (1, .pointer (some ⟨B, 0, none⟩)), (7, .int .i64 X.length), (8, .int .i64 0)]) _ ⟨rfl, ⟨_, atks⟩, asls⟩ ?_
    rintro gm t H' ⟨rfl, ⟨G, hp⟩, hs'⟩
    revert t; refine sls_all ?_; iterate 19 intro uu'
    refine sw_takeG hp ?_; clear hp
    rw [hX0] at HR ⊢
    repeat' (first | (exfalso; first | contradiction | omega) | refine aw0 ?_ | (refine ap2 ?_ ?_ <;> try intro h) | refine aw1 ?_ | (refine abx ?_; intro bb) | (refine abz ?_; intro bz) | (refine ahv ?_; intro v' hv') | (refine aac ?_; intro ac cc) | refine aw2 ?_ | (refine ap4 ?_ ?_ <;> try intro h) | apply True.intro)
    ((with_reducible apply fp_end); exact res_0 rfl)
    exact HR.out _ _ _ [J 0] (by (exact atks)) (.inl rfl)
end Go.Proofs.YtdccjfabdfgomaaGreatDoor

namespace Go.Proofs.YtdccjfabdfgomaaGreatDoor
open Go.RowKit Go.Maps Sx

/-- Rows of places that a map holds. -/
structure PlB where
  a : Option Addr
  n : Nat
  c : Nat
  xs : List Value
def PlB.val (p : PlB) : Value := .slice p.a p.n p.c
abbrev PlR (p : PlB) : Ch := RowC 85 2 (.slice p.a p.n p.c) p.n p.xs
abbrev PlP (A : List (G3 × PlB)) : Ch := all (A.map fun x => PlR x.2)
def lookG (A : List (G3 × PlB)) : Lit → Option Value
  | .string k => (A.find? fun x => decide (txG x.1 = k)).map fun x => x.2.val
  | _ => none
theorem lookG_s (A : List (G3 × PlB)) (k : List UInt8) : lookG A (.string k) = (A.find? fun x => decide (txG x.1 = k)).map fun x => x.2.val := rfl
/-- Grams, each once, in the order in which they come. -/
def onceG : List G3 → List G3 → List G3
  | acc, [] => acc
  | acc, g :: l => onceG (if g ∈ acc then acc else acc ++ [g]) l
theorem onceG_snoc : ∀ (l acc : List G3) (g : G3), onceG acc (l ++ [g]) = if g ∈ onceG acc l then onceG acc l else onceG acc l ++ [g]
  | [], acc, g => rfl
  | x :: l, acc, g => by simp only [List.cons_append, onceG]; exact onceG_snoc l _ g
theorem onceG_nodup : ∀ (l acc : List G3), acc.Nodup → (onceG acc l).Nodup
  | [], _, h => h
  | x :: l, acc, h => by
    unfold onceG
    split
    · exact onceG_nodup l _ h
    · rename_i hx
      refine onceG_nodup l _ (List.nodup_append.2 ⟨h, by simp, fun a ha b hb e => ?_⟩)
      rw [List.mem_singleton.1 hb] at e
      exact hx (e ▸ ha)
theorem onceG_mem : ∀ (l acc : List G3) (g : G3), g ∈ onceG acc l ↔ g ∈ acc ∨ g ∈ l
  | [], acc, g => by simp [onceG]
  | x :: l, acc, g => by
    unfold onceG
    split
    · rename_i hx
      rw [onceG_mem l, List.mem_cons]
      constructor
      · rintro (h | h)
        · exact .inl h
        · exact .inr (.inr h)
      · rintro (h | rfl | h)
        · exact .inl h
        · exact .inl hx
        · exact .inr h
    · rw [onceG_mem l, List.mem_append, List.mem_singleton, List.mem_cons, or_assoc]
theorem onceG_len : ∀ (l acc : List G3), (onceG acc l).length ≤ acc.length + l.length
  | [], _ => by simp [onceG]
  | x :: l, acc => by
    unfold onceG
    split
    · have := onceG_len l acc; simp only [List.length_cons]; omega
    · have := onceG_len l (acc ++ [x]); simp only [List.length_append, List.length_cons, List.length_nil] at this ⊢; omega
/-- The grams of bytes: sorted, each once. -/
theorem sorted_grams {gs : List G3} {X : List G3} (hp : gs.Perm (onceG [] X)) (hs : gs.Pairwise fun x y => txG x < txG y) : gs.map txG = sortBy id (X.map txG) := by
  refine risBy_ext (key := id) ?_ (ris_sortBy _) fun t => ?_
  · unfold RisBy
    rw [List.pairwise_map]
    exact hs
  · rw [mem_sortBy (told_id _), List.mem_map, List.mem_map]
    constructor
    · rintro ⟨g, hg, rfl⟩
      exact ⟨g, by simpa using (onceG_mem X [] g).1 (hp.mem_iff.1 hg), rfl⟩
    · rintro ⟨g, hg, rfl⟩
      exact ⟨g, hp.mem_iff.2 ((onceG_mem X [] g).2 (.inr hg)), rfl⟩
theorem look_new {A : List (G3 × PlB)} {g : G3} (h : g ∉ A.map (·.1)) : lookG A (.string (txG g)) = none := by
  rw [lookG_s, Option.map_eq_none_iff, List.find?_eq_none]
  intro x hx e
  exact h (List.mem_map.2 ⟨x, hx, txG_inj (of_decide_eq_true e)⟩)
theorem look_at {A1 A2 : List (G3 × PlB)} {g : G3} {p : PlB} (h : g ∉ A1.map (·.1)) : lookG (A1 ++ (g, p) :: A2) (.string (txG g)) = some p.val := by
  have h1 := look_new h
  rw [lookG_s, Option.map_eq_none_iff] at h1
  rw [lookG_s, List.find?_append, h1]
  simp
theorem look_upd_new {A : List (G3 × PlB)} {g : G3} {p : PlB} (h : g ∉ A.map (·.1)) : upd (lookG A) (.string (txG g)) p.val = lookG (A ++ [(g, p)]) := by
  funext x
  unfold upd
  cases x with
  | string k =>
    by_cases e : txG g = k
    · subst e
      rw [look_at h]
      simp [Lit.sameKey]
    · have h2 : (Lit.string k).sameKey (.string (txG g)) = false := by
        simp only [Lit.sameKey, beq_eq_false_iff_ne, ne_eq]
        exact fun c => e c.symm
      rw [h2, lookG_s, lookG_s, List.find?_append]
      simp [e]
  | _ => rfl
theorem look_upd_at {A1 A2 : List (G3 × PlB)} {g : G3} {p q : PlB} (h : g ∉ A1.map (·.1)) : upd (lookG (A1 ++ (g, p) :: A2)) (.string (txG g)) q.val = lookG (A1 ++ (g, q) :: A2) := by
  funext x
  unfold upd
  cases x with
  | string k =>
    by_cases e : txG g = k
    · subst e
      rw [look_at (p := q) h]
      simp [Lit.sameKey]
    · have h2 : (Lit.string k).sameKey (.string (txG g)) = false := by
        simp only [Lit.sameKey, beq_eq_false_iff_ne, ne_eq]
        exact fun c => e c.symm
      rw [h2, lookG_s, lookG_s, List.find?_append, List.find?_append]
      simp [e]
  | _ => rfl
theorem plP_mid {A1 A2 : List (G3 × PlB)} {x : G3 × PlB} : ∀ h, PlP (A1 ++ x :: A2) h ↔ all [PlR x.2, PlP A1, PlP A2] h := fun h => by
  unfold PlP
  rw [List.map_append, List.map_cons]
  constructor
  · intro e
    have e := all_perm List.perm_middle e
    obtain ⟨g1, k, d, rfl, h1, h2⟩ := e
    obtain ⟨g2, g3, d2, rfl, h3, h4⟩ := all_app.1 h2
    exact ⟨g1, _, d, rfl, h1, g2, _, d2, rfl, h3, all_one.2 h4⟩
  · rintro ⟨g1, k, d, rfl, h1, g2, k2, d2, rfl, h3, h4⟩
    exact all_perm List.perm_middle.symm ⟨g1, _, d, rfl, h1, all_app.2 ⟨g2, _, d2, rfl, h3, all_one.1 h4⟩⟩
theorem splitG_at {A : List (G3 × PlB)} {g : G3} (h : g ∈ A.map (·.1)) (hn : (A.map (·.1)).Nodup) : ∃ A1 p A2, A = A1 ++ (g, p) :: A2 ∧ g ∉ A1.map (·.1) := by
  obtain ⟨⟨g', p⟩, hx, rfl⟩ := List.mem_map.1 h
  obtain ⟨A1, A2, rfl⟩ := List.append_of_mem hx
  refine ⟨A1, p, A2, rfl, fun hm => ?_⟩
  rw [List.map_append, List.map_cons, List.nodup_append] at hn
  exact hn.2.2 _ hm _ List.mem_cons_self rfl
end Go.Proofs.YtdccjfabdfgomaaGreatDoor
