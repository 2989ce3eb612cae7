
/- Texts and queries compared (mudlarkkit), query.lone: their contracts. -/
import Derived.Test.YtdccjfabdfgomaaGreatDoorUa
import Derived.Test.YtdccjfabdfgomaaGreatDoorRo
namespace Go.Proofs.YtdccjfabdfgomaaGreatDoor
open Go.RowKit Sx

inductive QuV where
  | mk (kind : Int) (gv : Value) (grams : List Tx) (sv : Value) (subs : List QuV)
namespace QuV
def kind : QuV → Int | .mk k _ _ _ _ => k
def gv : QuV → Value | .mk _ v _ _ _ => v
def grams : QuV → List Tx | .mk _ _ g _ _ => g
def sv : QuV → Value | .mk _ _ _ v _ => v
def subs : QuV → List QuV | .mk _ _ _ _ s => s
mutual
def key : QuV → Qu
  | .mk k _ gs _ ss => .mk k gs (keys ss)
def keys : List QuV → List Qu
  | [] => []
  | q :: l => key q :: keys l
end
end QuV
instance : Inhabited QuV := ⟨.mk 0 (.slice none 0 0) [] (.slice none 0 0) []⟩
theorem keys_map : ∀ l : List QuV, QuV.keys l = l.map QuV.key
  | [] => by simp [QuV.keys]
  | q :: l => by simp [QuV.keys, keys_map l]
theorem key_mk (k : Int) (gv : Value) (gs : List Tx) (sv : Value) (ss : List QuV) : (QuV.mk k gv gs sv ss).key = .mk k gs (ss.map QuV.key) := by simp [QuV.key, keys_map]
theorem key_kind (q : QuV) : q.key.kind = q.kind := by cases q; rw [key_mk]; rfl
theorem key_grams (q : QuV) : q.key.grams = q.grams := by cases q; rw [key_mk]; rfl
theorem key_subs (q : QuV) : q.key.subs = q.subs.map QuV.key := by cases q; rw [key_mk]; rfl
def encTx (s : Tx) : List Value := [.string (bs s)]
def encQ (q : QuV) : List Value := [.int .i64 q.kind, q.gv, q.sv]
def KindR (k : Int) : Prop := -9223372036854775808 ≤ k ∧ k ≤ 9223372036854775807
mutual
def QuR (r : Hp) : QuV → Prop
  | .mk k gv gs sv ss => (Els r 1 encTx gv gs ∧ Els r 3 encQ sv ss ∧ QuL r ss) ∧ KindR k
def QuL (r : Hp) : List QuV → Prop
  | [] => True
  | q :: l => QuR r q ∧ QuL r l
end
theorem quL_iff {r : Hp} : ∀ {l : List QuV}, QuL r l ↔ ∀ q ∈ l, QuR r q
  | [] => by simp [QuL]
  | q :: l => by simp [QuL, quL_iff (l := l)]
theorem quR_iff {r : Hp} {q : QuV} : (QuR r q → Els r 1 encTx q.gv q.grams ∧ Els r 3 encQ q.sv q.subs ∧ ∀ s ∈ q.subs, QuR r s) ∧ (KindR q.kind → (Els r 1 encTx q.gv q.grams ∧ Els r 3 encQ q.sv q.subs ∧ ∀ s ∈ q.subs, QuR r s) → QuR r q) := by
  cases q
  simp only [QuR, quL_iff]
  exact ⟨fun h => h.1, fun h1 h2 => ⟨h2, h1⟩⟩
theorem quR_kind {r : Hp} {q : QuV} (h : QuR r q) : KindR q.kind := by
  cases q
  simp only [QuR] at h
  exact h.2
theorem QuR.mono {r r' : Hp} (hr : sub r r') : ∀ {q : QuV}, QuR r q → QuR r' q
  | .mk k gv gs sv ss, h => by
    obtain ⟨h1, h2, h3⟩ := quR_iff.1 h
    exact quR_iff.2 (quR_kind h) ⟨h1.mono hr, h2.mono hr, fun s _h => QuR.mono hr (h3 s _h)⟩
termination_by q => SizeOf.sizeOf q
decreasing_by
  have := List.sizeOf_lt_of_mem _h
  simp only [QuV.mk.sizeOf_spec, QuV.subs] at *
  omega
-- How much a query holds. -/
def sizeT : List Tx → Nat
  | [] => 0
  | s :: l => s.length + 1 + sizeT l
mutual
def sizeQ : Qu → Nat
  | .mk _ gs ss => 1 + sizeT gs + sizeQs ss
def sizeQs : List Qu → Nat
  | [] => 0
  | q :: l => sizeQ q + sizeQs l
end
theorem sizeT_mem {s : Tx} : ∀ {l : List Tx}, s ∈ l → s.length + 1 ≤ sizeT l
  | x :: l, h => by
    rcases List.mem_cons.1 h with rfl | h
    · simp only [sizeT]; omega
    · have := sizeT_mem h; simp only [sizeT]; omega
theorem sizeT_len : ∀ l : List Tx, l.length ≤ sizeT l
  | [] => Nat.le_refl _
  | x :: l => by have := sizeT_len l; simp only [sizeT, List.length_cons]; omega
theorem sizeT_app : ∀ l m : List Tx, sizeT (l ++ m) = sizeT l + sizeT m
  | [], m => by simp [sizeT]
  | x :: l, m => by simp only [List.cons_append, sizeT, sizeT_app l m]; omega
theorem sizeQ_pos (q : Qu) : 1 ≤ sizeQ q := by cases q; simp only [sizeQ]; omega
theorem sizeQs_mem {q : Qu} : ∀ {l : List Qu}, q ∈ l → sizeQ q ≤ sizeQs l
  | x :: l, h => by
    rcases List.mem_cons.1 h with rfl | h
    · simp only [sizeQs]; omega
    · have := sizeQs_mem h; simp only [sizeQs]; omega
theorem sizeQs_len : ∀ l : List Qu, l.length ≤ sizeQs l
  | [] => Nat.le_refl _
  | x :: l => by have := sizeQs_len l; have := sizeQ_pos x; simp only [sizeQs, List.length_cons]; omega
theorem sizeQs_app : ∀ l m : List Qu, sizeQs (l ++ m) = sizeQs l + sizeQs m
  | [], m => by simp [sizeQs]
  | x :: l, m => by simp only [List.cons_append, sizeQs, sizeQs_app l m]; omega
theorem size_parts (q : Qu) : sizeQ q = 1 + sizeT q.grams + sizeQs q.subs := by cases q; simp [sizeQ, Qu.grams, Qu.subs]
theorem gramsT_len : ∀ l : List Tx, ((l.map gramT).flatMap fun t => 0 :: t).length ≤ 2 * sizeT l
  | [] => by simp [sizeT]
  | s :: l => by
    have := gramsT_len l
    rw [List.map_cons, List.flatMap_cons, List.length_append, List.length_cons, gramT_len]
    simp only [sizeT]; omega
theorem joinB_len (s : UInt8) (l : List Tx) : (joinB s l).length ≤ (l.flatMap fun t => 0 :: t).length := by
  cases l with
  | nil => simp [joinB]
  | cons a l =>
    have h : ∀ l : List Tx, (l.flatMap (s :: ·)).length = (l.flatMap fun t => 0 :: t).length := fun l => by
      induction l with
      | nil => rfl
      | cons x l ih => rw [List.flatMap_cons, List.flatMap_cons, List.length_append, List.length_append, ih]; rfl
    simp only [joinB, List.length_append, List.flatMap_cons, h, List.length_cons]; omega
theorem textQ_len : ∀ q : Qu, (textQ q).length + 1 ≤ 4 * sizeQ q
  | .mk k gs ss => by
    have hs : ∀ l : List Qu, (∀ s ∈ l, (textQ s).length + 1 ≤ 4 * sizeQ s) → ((textL l).flatMap fun t => 0 :: t).length ≤ 4 * sizeQs l := fun l h => by
      induction l with
      | nil => simp [textL]
      | cons x l ih =>
        have h1 := h x (by simp)
        have h2 := ih fun s hs => h s (by simp [hs])
        simp only [textL, List.flatMap_cons, List.length_append, List.length_cons, sizeQs]; omega
    have h1 := hs ss fun s _h => textQ_len s
    have h2 := gramsT_len gs
    have h3 := fun c => joinB_len c (gs.map gramT ++ textL ss)
    simp only [List.flatMap_append, List.length_append] at h3
    have h4 := h3 38
    have h5 := h3 124
    unfold textQ sizeQ
    split
    · simp only [List.length_singleton]; omega
    · split
      · simp only [List.length_singleton]; omega
      · split
        · simp only [List.length_cons, List.length_append, List.length_nil]; omega
        · split
          · simp only [List.length_cons, List.length_append, List.length_nil]; omega
          · simp only [List.length_singleton]; omega
termination_by q => SizeOf.sizeOf q
decreasing_by
  have := List.sizeOf_lt_of_mem _h
  simp only [Qu.mk.sizeOf_spec]
  omega
-- A query that is owned, whole.
mutual
def OwnQ : QuV → Ch
  | .mk k gv gs sv ss => fun h => KindR k ∧ all [RowC 9 1 gv gs.length (gs.flatMap encTx), RowC 27 3 sv ss.length (ss.flatMap encQ), OwnL ss] h
def OwnL : List QuV → Ch
  | [] => all []
  | q :: l => all [OwnQ q, OwnL l]
end
theorem ownL_all : ∀ {l : List QuV} {h : Hp}, OwnL l h ↔ all (l.map OwnQ) h
  | [], h => by simp only [OwnL, List.map_nil]
  | q :: l, h => by
    simp only [OwnL, List.map_cons]
    constructor
    · rintro ⟨x, y, dd, rfl, hx, hy⟩
      exact ⟨x, y, dd, rfl, hx, ownL_all.1 (all_one.1 hy)⟩
    · rintro ⟨x, y, dd, rfl, hx, hy⟩
      exact ⟨x, y, dd, rfl, hx, all_one.2 (ownL_all.2 hy)⟩
theorem own_read : ∀ {q : QuV} {r h : Hp}, OwnQ q h → sub h r → QuR r q
  | .mk k gv gs sv ss, r, h, e, hs => by
    simp only [OwnQ] at e
    obtain ⟨hk, g1, g2, dd, rfl, h1, g3, g4, d2, rfl, h2, h3⟩ := e
    have h3 := ownL_all.1 (all_one.1 h3)
    have s1 : sub g1 r := fun b o e => hs b o (un_left e)
    have s3 : sub g3 r := fun b o e => hs b o (un_right dd (un_left e))
    have s4 : sub g4 r := fun b o e => hs b o (un_right dd (un_right d2 e))
    have hl : ∀ (l : List QuV) (g : Hp), (∀ q ∈ l, ∀ g', OwnQ q g' → sub g' r → QuR r q) → all (l.map OwnQ) g → sub g r → ∀ q ∈ l, QuR r q := fun l => by
      induction l with
      | nil => intro g _ _ _ q hq; cases hq
      | cons x l ih =>
        rintro g hx ⟨x1, y1, d3, rfl, e1, e2⟩ hg q hq
        rcases List.mem_cons.1 hq with rfl | hq
        · exact hx q (by simp) x1 e1 fun b o e => hg b o (un_left e)
        · exact ih y1 (fun q h => hx q (by simp [h])) e2 (fun b o e => hg b o (un_right d3 e)) q hq
    exact quR_iff.2 hk ⟨⟨fun _ => rfl, h1.sl s1⟩, ⟨fun _ => rfl, h2.sl s3⟩, hl ss g4 (fun q _h g' e1 e2 => own_read e1 e2) h3 s4⟩
termination_by q => SizeOf.sizeOf q
decreasing_by
  have := List.sizeOf_lt_of_mem _h
  simp only [QuV.mk.sizeOf_spec]
  omega
end Go.Proofs.YtdccjfabdfgomaaGreatDoor

namespace Go.Proofs.YtdccjfabdfgomaaGreatDoor
open Go.RowKit Sx

theorem getD_memU {α : Type} [Inhabited α] {l : List α} {k : Nat} (h : k < l.length) : l.getD k default ∈ l := by
  rw [List.getD_eq_getElem?_getD, List.getElem?_eq_getElem h]
  exact List.getElem_mem h
end Go.Proofs.YtdccjfabdfgomaaGreatDoor

namespace Go.Proofs.YtdccjfabdfgomaaGreatDoor
open Go.RowKit Sx

theorem take_eqU {α : Type} [Inhabited α] {l m : List α} {k : Nat} (h1 : k < l.length) (h2 : k < m.length) (ht : l.take k = m.take k) (h : l.getD k default = m.getD k default) : l.take (k + 1) = m.take (k + 1) := by
  rw [take_getD (d := default) h1, take_getD (d := default) h2, ht, h]
set_option maxRecDepth 10000 in
set_option maxHeartbeats 2000000 in
theorem sameTexts_any (r : Hp) (v w : Value) (l m : List Tx) (hv : Els r 1 encTx v l) (hw : Els r 1 encTx w m) : Tri Tryz.prog r 8 [v, w] [] fun u H => u = .bool (decide (l = m)) ∧ H = [] := by
  refine Tri.free2 fun R HR => ?_
  have hlm := maxI hv.2.2.1
  by_cases hl : l.length = m.length
  · refine fn_of_sw Tryz.func8 rfl _ rfl ?_; refine aen Tryz.ntmps8 ?_
    repeat' (first | (exfalso; first | contradiction | omega) | refine aw0 ?_ | (refine ap2 ?_ ?_ <;> try intro h) | refine aw1 ?_ | (refine abx ?_; intro bb) | (refine abz ?_; intro bz) | (refine ahv ?_; intro v' hv') | (refine aac ?_; intro ac cc) | refine aw2 ?_ | (refine ap4 ?_ ?_ <;> try intro h) | apply True.intro)
    refine sw_loop (fun gm t H' => ∃ k : Nat, gm = l.length + 1 - k ∧ (k ≤ l.length) ∧ (l.take k = m.take k) ∧ (∃ G, Takes [] H' G) ∧ Sls t 26 [(0, v), (1, w), (5, .int .i64 k)]) _ ⟨0, rfl, Nat.zero_le _, rfl, ⟨[], by (exact atks)⟩, asls⟩ ?_
    rintro gm t H' ⟨k, rfl, hk, ht, ⟨G, hp⟩, hs'⟩
    revert t; refine sls_all ?_; iterate 23 intro uu'
    refine sw_takeG hp ?_; clear hp
    by_cases hlt : k < l.length
    · by_cases he : l.getD k default = m.getD k default
      · repeat' (first | (first | ((with_reducible apply sw_draw (id := 6) 9 [(0, true), (1, true), (2, true), (3, true), (4, true), (5, true), (6, true), (7, true), (8, true)] [] []); kernel_rfl; (exact atks); kernel_rfl; intro r' hl')) | (exfalso; first | contradiction | omega) | refine aw0 ?_ | (refine ap2 ?_ ?_ <;> try intro h) | refine aw1 ?_ | (refine abx ?_; intro bb) | (refine abz ?_; intro bz) | (refine ahv ?_; intro v' hv') | (refine aac ?_; intro ac cc) | refine aw2 ?_ | (refine ap4 ?_ ?_ <;> try intro h) | apply True.intro)
        exact ⟨_, by omega, k + 1, rfl, by omega, take_eqU hlt (by omega) ht he, ⟨[], by (exact atks)⟩, asls⟩
      · repeat' (first | (first | ((with_reducible apply sw_draw (id := 6) 9 [(0, true), (1, true), (2, true), (3, true), (4, true), (5, true), (6, true), (7, true), (8, true)] [] []); kernel_rfl; (exact atks); kernel_rfl; intro r' hl')) | (exfalso; first | contradiction | omega) | refine aw0 ?_ | (refine ap2 ?_ ?_ <;> try intro h) | refine aw1 ?_ | (refine abx ?_; intro bb) | (refine abz ?_; intro bz) | (refine ahv ?_; intro v' hv') | (refine aac ?_; intro ac cc) | refine aw2 ?_ | (refine ap4 ?_ ?_ <;> try intro h) | apply True.intro)
        ((with_reducible apply fp_ret); exact res_1 rfl rfl)
        exact HR.out _ _ _ [] (by (exact atks)) ⟨by rw [decide_eq_false]; exact fun e => he (by rw [e]), rfl⟩
    · obtain rfl : k = l.length := by omega
      rw [List.take_length, hl, List.take_length] at ht
      repeat' (first | (exfalso; first | contradiction | omega) | refine aw0 ?_ | (refine ap2 ?_ ?_ <;> try intro h) | refine aw1 ?_ | (refine abx ?_; intro bb) | (refine abz ?_; intro bz) | (refine ahv ?_; intro v' hv') | (refine aac ?_; intro ac cc) | refine aw2 ?_ | (refine ap4 ?_ ?_ <;> try intro h) | apply True.intro)
      ((with_reducible apply fp_ret); exact res_1 rfl rfl)
      exact HR.out _ _ _ [] (by (exact atks)) ⟨by rw [decide_eq_true ht], rfl⟩
  · refine fn_of_sw Tryz.func8 rfl _ rfl ?_; refine aen Tryz.ntmps8 ?_
    repeat' (first | (exfalso; first | contradiction | omega) | refine aw0 ?_ | (refine ap2 ?_ ?_ <;> try intro h) | refine aw1 ?_ | (refine abx ?_; intro bb) | (refine abz ?_; intro bz) | (refine ahv ?_; intro v' hv') | (refine aac ?_; intro ac cc) | refine aw2 ?_ | (refine ap4 ?_ ?_ <;> try intro h) | apply True.intro)
    ((with_reducible apply fp_ret); exact res_1 rfl rfl)
    exact HR.out _ _ _ [] (by (exact atks)) ⟨by rw [decide_eq_false]; exact fun e => hl (by rw [e]), rfl⟩
set_option maxRecDepth 10000 in
set_option maxHeartbeats 2000000 in
theorem lone_any (r : Hp) (q : QuV) (hq : QuR r q) : Tri Tryz.prog r 63 [.agg (encQ q).toArray] [] fun w H => w = .bool (loneQ q.key) ∧ H = [] := by
  obtain ⟨k, gv, gs, sv, ss⟩ := q
  obtain ⟨h1, h2, h3⟩ := quR_iff.1 hq
  have h1 : Els r 1 encTx gv gs := h1
  have h2 : Els r 3 encQ sv ss := h2
  rw [key_mk]
  refine Tri.free2 fun R HR => ?_
  have hq : loneQ (.mk k gs (ss.map QuV.key)) = (decide (k = 3) && decide (gs.length = 1) && decide (ss.length = 0)) := by
    show (decide (k = 3) && decide (gs.length = 1) && decide ((ss.map QuV.key).length = 0)) = _
    congr 1
    rw [decide_eq_decide, List.length_map]
  rw [hq] at HR
  show Tri _ _ _ [.agg [.int .i64 k, gv, sv].toArray] _ _
  by_cases h3 : k = 3 <;> by_cases h4 : gs.length = 1 <;> by_cases h5 : ss.length = 0
  all_goals
    refine fn_of_sw Tryz.func63 rfl _ rfl ?_; refine aen Tryz.ntmps63 ?_
    repeat' (first | (exfalso; first | contradiction | omega) | refine aw0 ?_ | (refine ap2 ?_ ?_ <;> try intro h) | refine aw1 ?_ | (refine abx ?_; intro bb) | (refine abz ?_; intro bz) | (refine ahv ?_; intro v' hv') | (refine aac ?_; intro ac cc) | refine aw2 ?_ | (refine ap4 ?_ ?_ <;> try intro h) | apply True.intro)
    ((with_reducible apply fp_ret); exact res_1 rfl rfl)
    exact HR.out _ _ _ [] Takes.all ⟨by simp [h3, h4, h5], rfl⟩
end Go.Proofs.YtdccjfabdfgomaaGreatDoor
