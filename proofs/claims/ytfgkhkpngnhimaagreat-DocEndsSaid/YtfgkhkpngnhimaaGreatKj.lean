/- mudlarkkit: Same, Lent, Kept of files; SameDocs; FilesOf: their contracts. -/
import Derived.Test.YtfgkhkpngnhimaaGreatKi
namespace Go.Proofs.YtfgkhkpngnhimaaGreat
open Go.RowKit Sx

/-- A lent row of bytes: its marks behind it. -/
def Wide (r : Hp) (v : Value) (l : List UInt8) : Prop := ∃ a c, v = .slice a l.length c ∧ l.length + 12 ≤ c ∧ Sl r 1 (.slice a (l.length + 12) c) (l.length + 12) (u8s (l ++ marksL 12))
theorem Sl.narrow {r : Hp} {sz n m c : Nat} {a : Option Addr} {xs : List Value} (h : Sl r sz (.slice a n c) n xs) (hm : m ≤ n) : Sl r sz (.slice a m c) m (xs.take (m * sz)) := by
  have h1 := h.1
  have h2 := h.2.1
  have hms : m * sz ≤ n * sz := Nat.mul_le_mul_right _ hm
  refine ⟨by simp; omega, by omega, ?_⟩
  rcases h.2.2 with ⟨e, rfl⟩ | ⟨b, off, cap, cc, E, fz, e, h3, h4, h5⟩
  · obtain ⟨a', e⟩ := e
    injection e with e1 e2 e3; subst e1; subst e3
    left; obtain rfl : m = 0 := by omega
    exact ⟨⟨a, rfl⟩, rfl⟩
  · injection e with e1 e2 e3; subst e1; subst e3
    refine .inr ⟨b, off, _, cc, E, fz, rfl, by omega, h4, fun j hj => ?_⟩
    simp only [List.length_take] at hj
    rw [h5 j (by omega)]; simp
theorem Wide.sl {r : Hp} {v : Value} {l : List UInt8} (h : Wide r v l) : U8S r v l := by
  obtain ⟨a, c, rfl, hc, hs⟩ := h
  have := Sl.narrow (m := l.length) hs (by omega)
  unfold U8S; rw [show (u8s (l ++ marksL 12)).take (l.length * 1) = u8s l by simp [u8s]] at this; exact this
theorem Wide.mono {r r' : Hp} {v : Value} {l : List UInt8} (h : Wide r v l) (hr : sub r r') : Wide r' v l := by
  obtain ⟨a, c, e, hc, hs⟩ := h; exact ⟨a, c, e, hc, hs.mono hr⟩
theorem Wide.of {l : List UInt8} {a : Option Addr} {c : Nat} {g r : Hp} (h : RowC 5 1 (.slice a (l.length + 12) c) (l.length + 12) (u8s (l ++ marksL 12)) g) (hs : sub g r) : Wide r (.slice a l.length c) l :=
  ⟨a, c, rfl, (RowC.cap h).1, h.sl hs⟩
theorem keptW_any (r : Hp) (v w : Value) (l : List UInt8) (hv : Wide r v l) (hw : U8S r w l) : Tri Tryz.prog r 52 [v, w] [] fun u H => u = .bool true ∧ H = [] := by
  obtain ⟨a, c, rfl, hc, hs⟩ := hv
  exact keptBytes_any r a c w l hc (by unfold U8S; rw [show (l ++ marksL 12).length = l.length + 12 by simp [marksL]]; exact hs) hw
set_option maxHeartbeats 1000000 in
theorem sameFile_any (r : Hp) (f g : FileV) (hf : U8S r f.val f.data) (hg : U8S r g.val g.data) : Tri Tryz.prog r 95 [.agg (encF f).toArray, .agg (encF g).toArray] [] fun u H => u = .bool (decide (f.path = g.path) && decide (f.data = g.data)) ∧ H = [] := by
  refine Tri.free2 fun R HR => ?_
  unfold encF
  refine fn_of_sw Tryz.func95 rfl _ rfl ?_; simp only [Tryz.ntmps95, List.length_cons, List.length_nil, Nat.reduceAdd, Nat.reduceSub, List.replicate_succ, List.replicate_zero, List.nil_append, List.cons_append]
  repeat' (first | (refine aw0m ?_) | (refine ap2 ?_ ?_ <;> first | exact True.intro | intro h) | ((with_reducible apply kx_call (f := 12) (cap := [])); exact goesOf Tryz.func12 (by kernel_rfl) rfl; rfl; rfl; exact (sameBytes_any r f.val g.val f.data g.data hf hg); (exact atks); rintro v' H' ⟨rfl, rfl⟩; all_goals ((try simp only [List.nil_append]); (refine apk ?_))) | (refine aw1m ?_) | (refine abx ?_; intro bb) | (refine abz ?_; intro bz) | (refine ahv ?_; intro v' hv') | (refine aac ?_; intro ac cc) | (refine aw2 ?_) | (refine ap4 ?_ ?_ <;> first | exact True.intro | intro h) | (with_reducible refine tr_two ?_ ?_))
  · ((with_reducible apply fp_ret); exact res_1 rfl rfl)
    exact HR.out _ _ _ [] (by (exact atks)) ⟨by rw [decide_eq_true h]; simp, rfl⟩
  · ((with_reducible apply fp_ret); exact res_1 rfl rfl)
    exact HR.out _ _ _ [] (by (exact atks)) ⟨by rw [decide_eq_false h]; simp, rfl⟩
set_option maxHeartbeats 1000000 in
theorem lentFile_any (r : Hp) (f : FileV) (hf : U8S r f.val f.data) (hl : f.data.length ≤ 1000000) : Tri Tryz.prog r 92 [.agg (encF f).toArray] [] fun u H => ∃ a c, u = .agg (encF ⟨f.path, .slice a f.data.length c, f.data⟩).toArray ∧ H = [RowC 5 1 (.slice a (f.data.length + 12) c) (f.data.length + 12) (u8s (f.data ++ marksL 12))] := by
  refine Tri.free2 fun R HR => ?_
  unfold encF
  refine fn_of_sw Tryz.func92 rfl _ rfl ?_; simp only [Tryz.ntmps92, List.length_cons, List.length_nil, Nat.reduceAdd, Nat.reduceSub, List.replicate_succ, List.replicate_zero, List.nil_append, List.cons_append]
  repeat' (first | (refine aw0m ?_) | (refine ap2 ?_ ?_ <;> first | exact True.intro | intro h) | ((with_reducible apply kx_call (f := 49) (cap := [])); exact goesOf Tryz.func49 (by kernel_rfl) rfl; rfl; rfl; exact (lentBytes_any r f.val f.data hf hl); (exact atks); rintro v' H' ⟨a, c, rfl, rfl⟩; all_goals ((try simp only [List.cons_append, List.nil_append]); (refine apk ?_))) | (refine aw1m ?_) | (refine abx ?_; intro bb) | (refine abz ?_; intro bz) | (refine ahv ?_; intro v' hv') | (refine aac ?_; intro ac cc) | (refine aw2 ?_) | (refine ap4 ?_ ?_ <;> first | exact True.intro | intro h) | (with_reducible refine tr_two ?_ ?_))
  ((with_reducible apply fp_ret); exact res_W rfl rfl (by (exact atk)) ty_agg ty_size rfl)
  exact HR.out _ _ _ [RowC _ _ _ _ _] (by (exact atks)) ⟨a, c, rfl, rfl⟩
set_option maxHeartbeats 1000000 in
theorem keptFile_any (r : Hp) (f g : FileV) (hf : Wide r f.val f.data) (hg : U8S r g.val g.data) (hp : f.path = g.path) (hd : f.data = g.data) : Tri Tryz.prog r 94 [.agg (encF f).toArray, .agg (encF g).toArray] [] fun u H => u = .bool true ∧ H = [] := by
  refine Tri.free2 fun R HR => ?_
  have h1 := sameFile_any r f g hf.sl hg
  rw [decide_eq_true hp, decide_eq_true hd] at h1
  have h2 := keptW_any r f.val g.val f.data hf (hd ▸ hg)
  unfold encF at h1 ⊢
  refine fn_of_sw Tryz.func94 rfl _ rfl ?_; simp only [Tryz.ntmps94, List.length_cons, List.length_nil, Nat.reduceAdd, Nat.reduceSub, List.replicate_succ, List.replicate_zero, List.nil_append, List.cons_append]
  repeat' (first | (refine aw0m ?_) | (refine ap2 ?_ ?_ <;> first | exact True.intro | intro h) | ((with_reducible apply kx_call (f := 95) (cap := [])); exact goesOf Tryz.func95 (by kernel_rfl) rfl; rfl; rfl; exact (h1); (exact atks); rintro v' H' ⟨rfl, rfl⟩; all_goals ((try simp only [List.nil_append]); (refine apk ?_))) | ((with_reducible apply kx_call (f := 52) (cap := [])); exact goesOf Tryz.func52 (by kernel_rfl) rfl; rfl; rfl; exact (h2); (exact atks); rintro v' H' ⟨rfl, rfl⟩; all_goals ((try simp only [List.nil_append]); (refine apk ?_))) | (refine aw1m ?_) | (refine abx ?_; intro bb) | (refine abz ?_; intro bz) | (refine ahv ?_; intro v' hv') | (refine aac ?_; intro ac cc) | (refine aw2 ?_) | (refine ap4 ?_ ?_ <;> first | exact True.intro | intro h) | (with_reducible refine tr_two ?_ ?_))
  all_goals
    ((with_reducible apply fp_ret); exact res_1 rfl rfl)
    exact HR.out _ _ _ [] (by (exact atks)) ⟨rfl, rfl⟩
theorem DocV.ext' {a b : DocV} (h1 : a.path = b.path) (h2 : a.lang = b.lang) (h3 : a.sum = b.sum) (h4 : a.size = b.size) : a = b := by
  cases a; cases b; simp_all
set_option maxRecDepth 10000 in
set_option maxHeartbeats 1000000 in
theorem sameDocs_any (r : Hp) (v w : Value) (l m : List DocV) (hv : Docs r v l) (hw : Docs r w m) : Tri Tryz.prog r 47 [v, w] [] fun u H => u = .bool (decide (l = m)) ∧ H = [] := by
  refine Tri.free2 fun R HR => ?_
  have hlm := maxI hv.2.2.1
  refine fn_of_sw Tryz.func47 rfl _ rfl ?_; simp only [Tryz.ntmps47, List.length_cons, List.length_nil, Nat.reduceAdd, Nat.reduceSub, List.replicate_succ, List.replicate_zero, List.nil_append, List.cons_append]
  repeat' (first | (refine aw0m ?_) | (refine ap2 ?_ ?_ <;> first | exact True.intro | intro h) | (refine aw1m ?_) | (refine abx ?_; intro bb) | (refine abz ?_; intro bz) | (refine ahv ?_; intro v' hv') | (refine aac ?_; intro ac cc) | (refine aw2 ?_) | (refine ap4 ?_ ?_ <;> first | exact True.intro | intro h) | (with_reducible refine tr_two ?_ ?_))
  · ((with_reducible apply fp_ret); exact res_1 rfl rfl)
    exact HR.out _ _ _ [] (by (exact atks)) ⟨by rw [decide_eq_false]; rintro rfl; exact h rfl, rfl⟩
  · refine sw_loop (fun gm t H' => ∃ k : Nat, gm = l.length + 1 - k ∧ (k ≤ l.length) ∧ (l.take k = m.take k) ∧ (∃ G, Takes [] H' G) ∧ (t.length = 26 ∧ t[0]? = some (v) ∧ t[1]? = some (w) ∧ t[5]? = some (.int .i64 k))) _ ⟨0, rfl, Nat.zero_le _, by simp, ⟨[], by (exact atks)⟩, rfl, (by first | rfl | exact congrArg some (congrArg (Value.int _) (by omega)) | (congr 2 <;> omega)), (by first | rfl | exact congrArg some (congrArg (Value.int _) (by omega)) | (congr 2 <;> omega)), (by first | rfl | exact congrArg some (congrArg (Value.int _) (by omega)) | (congr 2 <;> omega))⟩ ?_
    rintro gm t H' ⟨k, rfl, hk, ht, ⟨G, hp⟩, hlen, e0, e1, e5⟩
    revert e0 e1 e5; revert t; refine all_len (n := 26) ?_; iterate 26 intro uu'
    intro e0 e1 e5; cases e0; cases e1; cases e5
    refine sw_takeG hp ?_
    clear hp
    repeat' (first | (refine aw0m ?_) | (refine ap2 ?_ ?_ <;> first | exact True.intro | intro h) | (first | ((with_reducible apply sw_draw (id := 6) 9 [(0, true), (1, true), (2, true), (3, true), (4, true), (5, true), (6, true), (7, true), (8, true)] [] []); kernel_rfl; (exact atks); kernel_rfl; intro r' hl')) | (refine aw1m ?_) | (refine abx ?_; intro bb) | (refine abz ?_; intro bz) | (refine ahv ?_; intro v' hv') | (refine aac ?_; intro ac cc) | (refine aw2 ?_) | (refine ap4 ?_ ?_ <;> first | exact True.intro | intro h) | (with_reducible refine tr_two ?_ ?_))
    · ((with_reducible apply fp_ret); exact res_1 rfl rfl)
      exact HR.out _ _ _ [] (by (exact atks)) ⟨by rw [decide_eq_false]; rintro rfl; simp at h, rfl⟩
    · exact ⟨_, (by omega), k + 1, rfl, by omega, take_eqD (d := default) ht (by omega) (by omega) (DocV.ext' h.1 h.2.1 (by omega) h.2.2.2), ⟨_, by (exact atks)⟩, rfl, (by first | rfl | exact congrArg some (congrArg (Value.int _) (by omega)) | (congr 2 <;> omega)), (by first | rfl | exact congrArg some (congrArg (Value.int _) (by omega)) | (congr 2 <;> omega)), (by first | rfl | exact congrArg some (congrArg (Value.int _) (by omega)) | (congr 2 <;> omega))⟩
    · ((with_reducible apply fp_ret); exact res_1 rfl rfl)
      exact HR.out _ _ _ [] (by (exact atks)) ⟨by rw [decide_eq_true (take_all2 ht (by omega) (by omega))], rfl⟩
end Go.Proofs.YtfgkhkpngnhimaaGreat
