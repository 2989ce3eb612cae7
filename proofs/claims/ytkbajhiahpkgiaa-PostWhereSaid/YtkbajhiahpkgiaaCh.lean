/- Slices cut with a bound on their room; slices.Chunk at places: its contract. -/
import Derived.Test.YtkbajhiahpkgiaaPf
namespace Go.Proofs.Ytkbajhiahpkgiaa
open Go.RowKit
namespace Sx
section
variable {P : Program} {l : Option Nat} {r : Hp} {Q : Exit → St} {K : St} {t : List Value} {H : List Ch} {d : Option Tmp} {ty : TypeId} {pos : String} {af : Array Edge} {gd : Option (Nat × Bool)} {v : Value}
def cut3V (v : Value) (lo hi mx sz : Nat) : Value := match v with
  | .slice a _ _ => .slice (if mx = lo then a else a.map (·.add (lo * sz))) (hi - lo) (mx - lo)
  | v => v
theorem Sl.cap {n c c' sz : Nat} {a : Option Addr} {xs : List Value} (h : Sl r sz (.slice a n c) n xs) (hn : 0 < n) (h1 : n ≤ c') : Sl r sz (.slice a n c') n xs := by
  refine ⟨h.1, h.2.1, ?_⟩
  rcases h.2.2 with ⟨_, h0⟩ | ⟨b, off, cap, cc, E, fz, e, h3, h4, h5⟩
  · omega
  · injection e with e1 e2 e3
    exact .inr ⟨b, off, c', cc, E, fz, by rw [e1], h1, h4, h5⟩
theorem Sl.cut3 {n sz : Nat} {xs : List Value} (h : Sl r sz v n xs) {i j m : Nat} (h1 : i < j) (h2 : j ≤ m) (h3 : m ≤ n) : Sl r sz (cut3V v i j m sz) (j - i) ((xs.drop (i * sz)).take ((j - i) * sz)) := by
  have hc := h.cut (Nat.le_of_lt h1) (Nat.le_trans h2 h3)
  obtain ⟨a, cap, rfl⟩ := h.form
  have hcap : n ≤ cap := by
    rcases h.2.2 with ⟨e, rfl⟩ | ⟨b, off, cap', c, E', fz, e, h1, _⟩
    · omega
    · injection e with _ _ e; omega
  have hne : ¬ cap = i := by omega
  have hm : ¬ m = i := by omega
  have e : cutV (.slice a n cap) i j sz = .slice (a.map (·.add (i * sz))) (j - i) (cap - i) := by simp only [cutV]; rw [if_neg hne]
  rw [e] at hc
  have := hc.cap (c' := m - i) (by omega) (by omega)
  simp only [cut3V]
  rw [if_neg hm]
  exact this
theorem flat_drop {α : Type} {sz : Nat} {enc : α → List Value} (h : ∀ x, (enc x).length = sz) : ∀ (xs : List α) (i : Nat), (xs.flatMap enc).drop (i * sz) = (xs.drop i).flatMap enc
  | [], i => by simp
  | x :: xs, 0 => by simp
  | x :: xs, i + 1 => by
    rw [List.flatMap_cons, List.drop_succ_cons, ← flat_drop h xs i, show (i + 1) * sz = (enc x).length + i * sz by rw [h x, Nat.succ_mul]; omega, List.drop_append]
    rw [List.drop_eq_nil_of_le (by omega), List.nil_append]
    congr 1
    omega
theorem flat_take {α : Type} {sz : Nat} {enc : α → List Value} (h : ∀ x, (enc x).length = sz) : ∀ (xs : List α) (i : Nat), (xs.flatMap enc).take (i * sz) = (xs.take i).flatMap enc
  | [], i => by simp
  | x :: xs, 0 => by simp
  | x :: xs, i + 1 => by
    rw [List.flatMap_cons, List.take_succ_cons, List.flatMap_cons, ← flat_take h xs i, show (i + 1) * sz = (enc x).length + i * sz by rw [h x, Nat.succ_mul]; omega, List.take_append]
    rw [List.take_of_length_le (by omega)]
    congr 2
    omega
theorem Els.cut3 {α : Type} {sz : Nat} {enc : α → List Value} {xs : List α} (h : Els r sz enc v xs) {i j m : Nat} (h1 : i < j) (h2 : j ≤ m) (h3 : m ≤ xs.length) : Els r sz enc (cut3V v i j m sz) ((xs.drop i).take (j - i)) := by
  refine ⟨h.1, ?_⟩
  have := h.2.cut3 h1 h2 h3
  rw [flat_drop h.1, flat_take h.1] at this
  rw [show ((xs.drop i).take (j - i)).length = j - i by rw [List.length_take, List.length_drop]; omega]
  exact this
theorem pu_sl3 {T E : TypeId} {x lo hi mx : Operand} {sz n : Nat} {xs : List Value} {i j m : Int} {g : Bool} {k1 k2 k3 : IntKind} [hT : TyE P T E] [hE : TyF P E g sz] (hx : evO t x = some v) (hv : Sl r sz v n xs) (hl : evO t lo = some (.int k1 i)) (hh : evO t hi = some (.int k2 j)) (hm : evO t mx = some (.int k3 m)) (h0 : 0 ≤ i ∧ i ≤ j ∧ j ≤ m ∧ m ≤ n) :
    Pur P r t ⟨d, .slice T x (some lo) (some hi) (some mx), ty, pos, af, gd⟩ (cut3V v i.toNat j.toNat m.toNat sz) := by
  refine ⟨rfl, fun w _ => ?_⟩
  obtain ⟨a, cap, rfl⟩ := hv.form
  have hcap : n ≤ cap := by
    rcases hv.2.2 with ⟨e, rfl⟩ | ⟨b, off, cap', c, E', fz, e, h1, _⟩
    · omega
    · injection e with _ _ e; omega
  simp only [execOp, ev_of hx, ev_of hl, ev_of hh, ev_of hm, Option.map_some, Instr.sliceAt, Sem.run_bind, run_underlying (elB_s hT.el), Result.andThen, Instr.slice, Instr.sliceBounds]
  rw [run_sb (by omega) (by omega)]
  simp only []
  rw [run_sb (by omega) (by omega)]
  simp only []
  rw [run_sb (by omega) (by omega)]
  simp [Sem.run_pure, run_sizeOf (P := P) (T := E) hE.size, cut3V]
end
end Sx
open Sx
abbrev ChV := Value × List PlaceV
def chunkV (v : Value) (ls : List PlaceV) (q : Nat) : ChV := (cut3V v (64 * q) (64 * q + min 64 (ls.length - 64 * q)) (64 * q + min 64 (ls.length - 64 * q)) 2, (ls.drop (64 * q)).take 64)
def chunkVs (v : Value) (ls : List PlaceV) : List ChV := (List.range ((ls.length + 63) / 64)).map (chunkV v ls)
def encC (y : ChV) : List Value := [y.1]
theorem chunk_any (r : Hp) (a : Option Addr) (n c : Nat) : Tri Try.prog r 59 [.slice a n c, .int .i64 64] [] fun w H => ∃ b1 b2, w = .func (.func 79) #[] #[.pointer (some ⟨b1, 0, none⟩), .pointer (some ⟨b2, 0, none⟩)] ∧ H = [pt b1 (.cells [.slice a n c].toArray 38 (0, 0)), pt b2 (.cells [.int .i64 64].toArray 3 (0, 0))] := by
  refine Tri.free2 fun R HR => ?_
  refine fn_of_sw Try.func59 rfl _ rfl ?_; simp only [Try.ntmps59, List.length_cons, List.length_nil, Nat.reduceAdd, Nat.reduceSub, List.replicate_succ, List.replicate_zero, List.nil_append, List.cons_append]
  repeat' (first | (refine aw0m ?_) | (refine ap2 ?_ ?_ <;> first | exact True.intro | intro h) | (refine aw1m ?_) | (refine abx ?_; intro bb) | (refine abz ?_; intro bz) | (refine ahv ?_; intro v' hv') | (refine aac ?_; intro ac cc) | (refine aw2 ?_) | (refine ap4 ?_ ?_ <;> first | exact True.intro | intro h) | (with_reducible refine tr_two ?_ ?_))
  ((with_reducible apply fp_ret); exact res_1 rfl rfl)
  exact HR.out _ _ _ [_, _] (by (exact atks)) ⟨_, _, rfl, rfl⟩
set_option maxRecDepth 10000 in
set_option maxHeartbeats 1000000 in
theorem chunk_seq (r : Hp) (a : Option Addr) (c : Nat) (ls : List PlaceV) (hv : Els r 2 encPl (.slice a ls.length c) ls) (hn : ls.length ≤ 10000000) (b1 b2 : Nat) : Seq Try.prog r 79 [.pointer (some ⟨b1, 0, none⟩), .pointer (some ⟨b2, 0, none⟩)] encC (chunkVs (.slice a ls.length c) ls)
    [pt b1 (.cells [.slice a ls.length c].toArray 38 (0, 0)), pt b2 (.cells [.int .i64 64].toArray 3 (0, 0))] [] := by
  intro k J Jx hY
  refine Tri.free2 fun R HR => ?_
  have hm : (chunkVs (.slice a ls.length c) ls).length = (ls.length + 63) / 64 := by simp [chunkVs]
  rw [hm] at HR
  generalize hM : (ls.length + 63) / 64 = m at HR hm
  refine fn_of_sw Try.func79 rfl _ rfl ?_; simp only [Try.ntmps79, List.length_cons, List.length_nil, Nat.reduceAdd, Nat.reduceSub, List.replicate_succ, List.replicate_zero, List.nil_append, List.cons_append]
  repeat' (first | (refine aw0m ?_) | (refine ap2 ?_ ?_ <;> first | exact True.intro | intro h) | (refine aw1m ?_) | (refine abx ?_; intro bb) | (refine abz ?_; intro bz) | (refine ahv ?_; intro v' hv') | (refine aac ?_; intro ac cc) | (refine aw2 ?_) | (refine ap4 ?_ ?_ <;> first | exact True.intro | intro h) | (with_reducible refine tr_two ?_ ?_))
  refine sw_loop (fun gm t H' => ∃ q : Nat, gm = m + 1 - q ∧ (q ≤ m) ∧ (∃ G, Takes [J q, pt b1 (.cells [.slice a ls.length c].toArray 38 (0, 0)), pt b2 (.cells [.int .i64 64].toArray 3 (0, 0))] H' G) ∧ (t.length = 31 ∧ t[0]? = some (.func (.yield k) #[] #[]) ∧ t[1]? = some (.pointer (some ⟨b1, 0, none⟩)) ∧ t[2]? = some (.pointer (some ⟨b2, 0, none⟩)) ∧ t[4]? = some (.int .i64 (64 * (q : Int))))) _ ⟨0, rfl, Nat.zero_le _, ⟨[], by (exact atks)⟩, rfl, (by first | rfl | exact congrArg some (congrArg (Value.int _) (by omega)) | (congr 2 <;> omega)), (by first | rfl | exact congrArg some (congrArg (Value.int _) (by omega)) | (congr 2 <;> omega)), (by first | rfl | exact congrArg some (congrArg (Value.int _) (by omega)) | (congr 2 <;> omega)), (by first | rfl | exact congrArg some (congrArg (Value.int _) (by omega)) | (congr 2 <;> omega))⟩ ?_
  rintro gm t H' ⟨q, rfl, hq, ⟨G, hp⟩, hlen, e0, e1, e2, e4⟩
  revert e0 e1 e2 e4; revert t; refine all_len (n := 31) ?_; iterate 31 intro uu'
  intro e0 e1 e2 e4; cases e0; cases e1; cases e2; cases e4
  refine sw_takeG hp ?_
  clear hp
  by_cases hlt : q < m
  · have hy := hY q (by rw [hm]; exact hlt)
    rw [show (chunkVs (.slice a ls.length c) ls)[q]'(by rw [hm]; exact hlt) = chunkV (.slice a ls.length c) ls q by simp [chunkVs]] at hy
    repeat' (first | (refine aw0m ?_) | (refine ap2 ?_ ?_ <;> first | exact True.intro | intro h) | (first | ((with_reducible apply sw_draw (id := 3) 6 [(0, true), (1, true), (2, true), (3, true), (4, true), (5, true)] [(6, false)] [(b1, .cells [.slice a ls.length c].toArray 38 (0, 0)), (b2, .cells [.int .i64 64].toArray 3 (0, 0))]); kernel_rfl; (exact atks); kernel_rfl; intro r' hl')) | (refine aw1m ?_) | (refine abx ?_; intro bb) | (refine abz ?_; intro bz) | (refine ahv ?_; intro v' hv') | (refine aac ?_; intro ac cc) | (refine aw2 ?_) | (refine ap4 ?_ ?_ <;> first | exact True.intro | intro h) | (with_reducible refine tr_two ?_ ?_))
    have hE : (List.take ((ls.length : Int).toNat - (64 * (q : Int)).toNat) (List.drop (64 * (q : Int)).toNat ls)).length = ls.length - 64 * q := by rw [List.length_take, List.length_drop]; omega
    rw [hE]
    have e1 : (64 * (q : Int)).toNat = 64 * q := by omega
    have e2 : (64 * (q : Int) + min 64 ((ls.length - 64 * q : Nat) : Int)).toNat = 64 * q + min 64 (ls.length - 64 * q) := by omega
    have hy' : Yld Try.prog r k [cut3V (.slice a ls.length c) (64 * (q : Int)).toNat (64 * (q : Int) + min 64 ((ls.length - 64 * q : Nat) : Int)).toNat (64 * (q : Int) + min 64 ((ls.length - 64 * q : Nat) : Int)).toNat 2] (J q) (J (q + 1)) (Jx (q + 1)) := by rw [e1, e2]; exact hy
    clear hy hE
    repeat' (first | (refine aw0m ?_) | (refine ap2 ?_ ?_ <;> first | exact True.intro | intro h) | ((with_reducible apply swo_pur); (with_reducible apply pu_sl3 (sz := 2)); rfl; exact hv.2; rfl; rfl; rfl; omega; (refine apk ?_)) | ((with_reducible apply kx_yield); rfl; exact (hy'); rfl; (exact atk); all_goals (refine apk ?_)) | (refine aw1m ?_) | (refine abx ?_; intro bb) | (refine abz ?_; intro bz) | (refine ahv ?_; intro v' hv') | (refine aac ?_; intro ac cc) | (refine aw2 ?_) | (refine ap4 ?_ ?_ <;> first | exact True.intro | intro h) | (with_reducible refine tr_two ?_ ?_))
    · exact ⟨_, (by omega), q + 1, rfl, by omega, ⟨_, by (exact atks)⟩, rfl, (by first | rfl | exact congrArg some (congrArg (Value.int _) (by omega)) | (congr 2 <;> omega)), (by first | rfl | exact congrArg some (congrArg (Value.int _) (by omega)) | (congr 2 <;> omega)), (by first | rfl | exact congrArg some (congrArg (Value.int _) (by omega)) | (congr 2 <;> omega)), (by first | rfl | exact congrArg some (congrArg (Value.int _) (by omega)) | (congr 2 <;> omega))⟩
    · ((with_reducible apply fp_ret); exact res_0 rfl)
      exact HR.out _ _ _ [Jx (q + 1)] (by (exact atks)) (.inr ⟨q, [], hlt, rfl⟩)
  · obtain rfl : q = m := by omega
    repeat' (first | (refine aw0m ?_) | (refine ap2 ?_ ?_ <;> first | exact True.intro | intro h) | (refine aw1m ?_) | (refine abx ?_; intro bb) | (refine abz ?_; intro bz) | (refine ahv ?_; intro v' hv') | (refine aac ?_; intro ac cc) | (refine aw2 ?_) | (refine ap4 ?_ ?_ <;> first | exact True.intro | intro h) | (with_reducible refine tr_two ?_ ?_))
    ((with_reducible apply fp_end); exact res_0 rfl)
    exact HR.out _ _ _ [J q] (by (exact atks)) (.inl rfl)
end Go.Proofs.Ytkbajhiahpkgiaa
