
/- mudlarkkit: LentFiles, KeptFiles, FilesOf: their contracts. -/
import Derived.Test.YtmnehdpclnhmbaaGreatKj
namespace Go.Proofs.YtmnehdpclnhmbaaGreat
open Go.RowKit Sx

namespace Sx
section
variable {P : Program} {l : Option Nat} {r : Hp} {K : St} {t : List Value} {H : List Ch} {o : Oper}
end
end Sx

/-- What FilesOf counts. -/
def sizeF : List FileV → Nat
  | [] => 0
  | f :: fs => 1 + f.path.length + f.data.length + sizeF fs
theorem sizeF_app (l m : List FileV) : sizeF (l ++ m) = sizeF l + sizeF m := by
  induction l with
  | nil => simp [sizeF]
  | cons f l ih => simp only [List.cons_append, sizeF, ih]; omega
theorem sizeF_mem {fs : List FileV} {f : FileV} (h : f ∈ fs) : 1 + f.path.length + f.data.length ≤ sizeF fs := by
  induction fs with
  | nil => cases h
  | cons g fs ih =>
    rcases List.mem_cons.1 h with rfl | h
    · simp only [sizeF]; omega
    · have := ih h; simp only [sizeF]; omega
set_option maxRecDepth 10000 in
set_option maxHeartbeats 2000000 in
theorem filesOfB_any (r : Hp) (v : Value) (fs : List FileV) (most : Nat) (hv : Files r v fs) (hl : ∀ f ∈ fs, f.path.length ≤ 140737488351232 ∧ f.data.length ≤ 140737488351232) (hm : most ≤ 1000000) : Tri Tryz.prog r 16 [v, .int .i64 most] [] fun w H => (∃ s : Nat, w = .int .i64 s ∧ (s = sizeF fs ∨ most < s ∧ most < sizeF fs) ∧ s ≤ most + 281474976702465) ∧ H = [] := by
  refine Tri.free2 fun R HR => ?_
  obtain ⟨hv, hb⟩ := hv
  have hlm := maxI hv.2.2.1
  refine fn_of_sw Tryz.func16 rfl _ rfl ?_; refine aen Tryz.ntmps16 ?_
  repeat' (first | refine aw0m ?_ | (refine ap2 ?_ ?_ <;> try intro h) | refine aw1m ?_ | (refine abx ?_; intro bb) | (refine abz ?_; intro bz) | (refine ahv ?_; intro v' hv') | (refine aac ?_; intro ac cc) | refine aw2 ?_ | (refine ap4 ?_ ?_ <;> try intro h) | apply True.intro)
  refine sw_loop (fun gm t H' => ∃ (k : Nat), gm = fs.length + 1 - k ∧ (k ≤ fs.length) ∧ (sizeF (fs.take k) ≤ most + 281474976702465) ∧ (∃ G, Takes [] H' G) ∧ Sls t 35 [(0, v), (1, .int .i64 most), (5, .int .i64 (sizeF (fs.take k) : Nat)), (6, .int .i64 k)]) _ ⟨0, rfl, Nat.zero_le _, by simp [sizeF], ⟨[], by (exact atks)⟩, asls⟩ ?_
  rintro gm t H' ⟨k, rfl, hk, hs, ⟨G, hp⟩, hs'⟩
  revert t; refine sls_all ?_; iterate 31 intro uu'
  refine sw_takeG hp ?_; clear hp
  have hsa := sizeF_app (fs.take k) (fs.drop k)
  rw [List.take_append_drop] at hsa
  by_cases hlt : k < fs.length
  · have hmem : fs.getD k default ∈ fs := by simp [hlt]
    obtain ⟨hl1, hl2⟩ := hl _ hmem
    have hst : sizeF (fs.take (k + 1)) = sizeF (fs.take k) + (1 + (fs.getD k default).path.length + (fs.getD k default).data.length) := by
      rw [take_getD (d := default) hlt, sizeF_app]; simp [sizeF]
    have hb1 := hb _ hmem
    repeat' (first | refine aw0m ?_ | (refine ap2 ?_ ?_ <;> try intro h) | (first | ((with_reducible apply sw_draw (id := 5) 16 [(0, true), (1, true), (2, true), (3, true), (4, true), (5, true), (6, true), (7, true), (8, true), (9, true), (10, true), (11, true), (12, true), (13, true), (14, true), (15, true)] [(16, false)] []); kernel_rfl; (exact atks); kernel_rfl; intro r' hl')) | refine aw1m ?_ | (refine abx ?_; intro bb) | (refine abz ?_; intro bz) | (refine ahv ?_; intro v' hv') | (refine aac ?_; intro ac cc) | refine aw2 ?_ | (refine ap4 ?_ ?_ <;> try intro h) | apply True.intro)
    · exact ⟨_, by omega, k + 1, rfl, by omega, by omega, ⟨_, atks⟩, asls⟩
    · ((with_reducible apply fp_ret); exact res_1 rfl rfl)
      exact HR.out _ _ _ [] (by (exact atks)) ⟨⟨_, rfl, .inr ⟨by omega, by omega⟩, by omega⟩, rfl⟩
  · obtain rfl : k = fs.length := by omega
    rw [List.take_length] at *
    repeat' (first | refine aw0m ?_ | (refine ap2 ?_ ?_ <;> try intro h) | refine aw1m ?_ | (refine abx ?_; intro bb) | (refine abz ?_; intro bz) | (refine ahv ?_; intro v' hv') | (refine aac ?_; intro ac cc) | refine aw2 ?_ | (refine ap4 ?_ ?_ <;> try intro h) | apply True.intro)
    ((with_reducible apply fp_ret); exact res_1 rfl rfl)
    exact HR.out _ _ _ [] (by (exact atks)) ⟨⟨_, rfl, .inl rfl, by omega⟩, rfl⟩
end Go.Proofs.YtmnehdpclnhmbaaGreat
