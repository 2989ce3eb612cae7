
/- mudlarkkit.ChangesOf: its contract. -/
import Derived.Test.YtmnehdpclnhmbaaSg
import Derived.Test.YtmnehdpclnhmbaaNi
namespace Go.Proofs.Ytmnehdpclnhmbaa
open Go.RowKit Sx

/-- What ChangesOf counts. -/
def sizeC : List ChV → Nat
  | [] => 0
  | f :: fs => 1 + f.path.length + f.data.length + sizeC fs
theorem sizeC_app (l m : List ChV) : sizeC (l ++ m) = sizeC l + sizeC m := by
  induction l with
  | nil => simp [sizeC]
  | cons f l ih => simp only [List.cons_append, sizeC, ih]; omega
theorem sizeC_mem {fs : List ChV} {f : ChV} (h : f ∈ fs) : 1 + f.path.length + f.data.length ≤ sizeC fs := by
  induction fs with
  | nil => cases h
  | cons g fs ih =>
    rcases List.mem_cons.1 h with rfl | h
    · simp only [sizeC]; omega
    · have := ih h; simp only [sizeC]; omega
theorem sizeC_len (fs : List ChV) : fs.length ≤ sizeC fs := by
  induction fs with
  | nil => simp
  | cons g fs ih => simp only [sizeC, List.length_cons]; omega
set_option maxRecDepth 10000 in
set_option maxHeartbeats 2000000 in
theorem changesOf_any (r : Hp) (v : Value) (fs : List ChV) (most : Nat) (hv : Chs r v fs) (hl : ∀ f ∈ fs, f.path.length ≤ 140737488351232 ∧ f.data.length ≤ 140737488351232) (hm : most ≤ 1000000) : Tri Try.prog r 5 [v, .int .i64 most] [] fun w H => (∃ s : Nat, w = .int .i64 s ∧ (s = sizeC fs ∨ most < s ∧ most < sizeC fs) ∧ s ≤ most + 281474976702465) ∧ H = [] := by
  refine Tri.free2 fun R HR => ?_
  obtain ⟨hv, hb⟩ := hv
  have hlm := maxI hv.2.2.1
  refine fn_of_sw Try.func5 rfl _ rfl ?_; refine aen Try.ntmps5 ?_
  repeat' (first | refine aw0m ?_ | (refine ap2 ?_ ?_ <;> try intro h) | refine aw1m ?_ | (refine abx ?_; intro bb) | (refine abz ?_; intro bz) | (refine ahv ?_; intro v' hv') | (refine aac ?_; intro ac cc) | refine aw2 ?_ | (refine ap4 ?_ ?_ <;> try intro h) | apply True.intro)
  refine sw_loop (fun gm t H' => ∃ (k : Nat), gm = fs.length + 1 - k ∧ (k ≤ fs.length) ∧ (sizeC (fs.take k) ≤ most + 281474976702465) ∧ (∃ G, Takes [] H' G) ∧ Sls t 35 [(0, v), (1, .int .i64 most), (5, .int .i64 (sizeC (fs.take k) : Nat)), (6, .int .i64 k)]) _ ⟨0, rfl, Nat.zero_le _, by simp [sizeC], ⟨[], by (exact atks)⟩, asls⟩ ?_
  rintro gm t H' ⟨k, rfl, hk, hs, ⟨G, hp⟩, hs'⟩
  revert t; refine sls_all ?_; iterate 31 intro uu'
  refine sw_takeG hp ?_; clear hp
  have hsa := sizeC_app (fs.take k) (fs.drop k)
  rw [List.take_append_drop] at hsa
  by_cases hlt : k < fs.length
  · have hmem : fs.getD k default ∈ fs := getD_memS hlt
    obtain ⟨hl1, hl2⟩ := hl _ hmem
    have hst : sizeC (fs.take (k + 1)) = sizeC (fs.take k) + (1 + (fs.getD k default).path.length + (fs.getD k default).data.length) := by
      rw [take_getD (d := default) hlt, sizeC_app]; simp [sizeC]
    have hb1 := hb _ hmem
    repeat' (first | refine aw0m ?_ | (refine ap2 ?_ ?_ <;> try intro h) | (first | ((with_reducible apply sw_draw (id := 5) 16 [(0, true), (1, true), (2, true), (3, true), (4, true), (5, true), (6, true), (7, true), (8, true), (9, true), (10, true), (11, true), (12, true), (13, true), (14, true), (15, true)] [(16, false)] []); kernel_rfl; (exact atks); kernel_rfl; intro r' hl')) | refine aw1m ?_ | (refine abx ?_; intro bb) | (refine abz ?_; intro bz) | (refine ahv ?_; intro v' hv') | (refine aac ?_; intro ac cc) | refine aw2 ?_ | (refine ap4 ?_ ?_ <;> try intro h) | apply True.intro)
    · exact ⟨_, by omega, k + 1, rfl, by omega, by omega, ⟨_, atks⟩, asls⟩
    · ((with_reducible apply fp_ret); exact res_1 rfl rfl)
      exact HR.out _ _ _ [] (by (exact atks)) ⟨⟨_, rfl, .inr ⟨by omega, by omega⟩, by omega⟩, rfl⟩
  · obtain rfl : k = fs.length := by omega
    rw [List.take_length] at *
    repeat' (first | refine aw0m ?_ | (refine ap2 ?_ ?_ <;> try intro h) | refine aw1m ?_ | (refine abx ?_; intro bb) | (refine abz ?_; intro bz) | (refine ahv ?_; intro v' hv') | (refine aac ?_; intro ac cc) | refine aw2 ?_ | (refine ap4 ?_ ?_ <;> try intro h) | apply True.intro)
    ((with_reducible apply fp_ret); exact res_1 rfl rfl)
    exact HR.out _ _ _ [] (by (exact atks)) ⟨⟨_, rfl, .inl rfl, by omega⟩, rfl⟩
end Go.Proofs.Ytmnehdpclnhmbaa
