
/- slices.Clone of documents, of places; slices.Equal of bytes: their contracts. -/
import Derived.Test.YtohpeoakdgckfaaGreatLo
namespace Go.Proofs.YtohpeoakdgckfaaGreat
open Go.RowKit Sx

namespace Sx
section
variable {P : Program} {l : Option Nat} {r : Hp} {K : St} {t : List Value} {H : List Ch} {o : Oper}
end
end Sx

abbrev FileV.key (f : FileV) : List UInt8 × List UInt8 := (f.path, f.data)
def marksFn (n : Nat) : List FileV := (List.range n).map fun i => ⟨markT 1 i, .slice none 0 0, []⟩
/-- What LentFiles hands out. -/
def LentFs (g : Hp) (v : Value) (fs : List FileV) : Prop := ∃ a c, ∃ fs' : List FileV, v = .slice a fs.length c ∧ fs.length + 12 ≤ c ∧ fs'.map FileV.key = fs.map FileV.key ∧ Els g 2 encF (.slice a (fs.length + 12) c) (fs' ++ marksFn 12) ∧ ∀ f ∈ fs', Wide g f.val f.data
/-- What FilesOf counts. -/
def sizeF : List FileV → Nat
  | [] => 0
  | f :: fs => 1 + f.path.length + f.data.length + sizeF fs
theorem sizeF_app (l m : List FileV) : sizeF (l ++ m) = sizeF l + sizeF m := by
  induction l with
  | nil => simp [sizeF]
  | cons f l ih => simp only [List.cons_append, sizeF, ih]; omega
theorem sizeF_mem {fs : List FileV} {f : FileV} (h : f ∈ fs) : 1 + f.path.length + f.data.length ≤ sizeF fs := by
  induction fs with
  | nil => cases h
  | cons g fs ih =>
    rcases List.mem_cons.1 h with rfl | h
    · simp only [sizeF]; omega
    · have := ih h; simp only [sizeF]; omega
theorem sizeF_len (fs : List FileV) : fs.length ≤ sizeF fs := by
  induction fs with
  | nil => simp
  | cons g fs ih => simp only [sizeF, List.length_cons]; omega
set_option maxRecDepth 10000 in
set_option maxHeartbeats 2000000 in
theorem filesOf_any (r : Hp) (v : Value) (fs : List FileV) (most : Nat) (hv : Files r v fs) (hl : ∀ f ∈ fs, f.path.length ≤ 140737488351232 ∧ f.data.length ≤ 140737488351232) (hm : most ≤ 1000000) : Tri Tryz.prog r 7 [v, .int .i64 most] [] fun w H => (∃ s : Nat, w = .int .i64 s ∧ (s = sizeF fs ∨ most < s ∧ most < sizeF fs)) ∧ H = [] := by
  refine Tri.free2 fun R HR => ?_
  obtain ⟨hv, hb⟩ := hv
  have hlm := maxI hv.2.2.1
  refine fn_of_sw Tryz.func7 rfl _ rfl ?_; refine aen Tryz.ntmps7 ?_
  repeat' (first | refine aw0m ?_ | (refine ap2 ?_ ?_ <;> try intro h) | refine aw1m ?_ | (refine abx ?_; intro bb) | (refine abz ?_; intro bz) | (refine ahv ?_; intro v' hv') | (refine aac ?_; intro ac cc) | refine aw2 ?_ | (refine ap4 ?_ ?_ <;> try intro h) | apply True.intro)
  refine sw_loop (fun gm t H' => ∃ (k : Nat), gm = fs.length + 1 - k ∧ (k ≤ fs.length) ∧ (sizeF (fs.take k) ≤ most + 281474976702465) ∧ (∃ G, Takes [] H' G) ∧ Sls t 35 [(0, v), (1, .int .i64 most), (5, .int .i64 (sizeF (fs.take k) : Nat)), (6, .int .i64 k)]) _ ⟨0, rfl, Nat.zero_le _, by simp [sizeF], ⟨[], by (exact atks)⟩, asls⟩ ?_
  rintro gm t H' ⟨k, rfl, hk, hs, ⟨G, hp⟩, hs'⟩
  revert t; refine sls_all ?_; iterate 31 intro uu'
  refine sw_takeG hp ?_; clear hp
  have hsa := sizeF_app (fs.take k) (fs.drop k)
  rw [List.take_append_drop] at hsa
  by_cases hlt : k < fs.length
  · have hmem : fs.getD k default ∈ fs := by simp [hlt]
    obtain ⟨hl1, hl2⟩ := hl _ hmem
    have hst : sizeF (fs.take (k + 1)) = sizeF (fs.take k) + (1 + (fs.getD k default).path.length + (fs.getD k default).data.length) := by
      rw [take_getD (d := default) hlt, sizeF_app]; simp [sizeF]
    have hb1 := hb _ hmem
    repeat' (first | refine aw0m ?_ | (refine ap2 ?_ ?_ <;> try intro h) | (first | ((with_reducible apply sw_draw (id := 5) 16 [(0, true), (1, true), (2, true), (3, true), (4, true), (5, true), (6, true), (7, true), (8, true), (9, true), (10, true), (11, true), (12, true), (13, true), (14, true), (15, true)] [(16, false)] []); kernel_rfl; (exact atks); kernel_rfl; intro r' hl')) | refine aw1m ?_ | (refine abx ?_; intro bb) | (refine abz ?_; intro bz) | (refine ahv ?_; intro v' hv') | (refine aac ?_; intro ac cc) | refine aw2 ?_ | (refine ap4 ?_ ?_ <;> try intro h) | apply True.intro)
    · exact ⟨_, by omega, k + 1, rfl, by omega, by omega, ⟨_, atks⟩, asls⟩
    · ((with_reducible apply fp_ret); exact res_1 rfl rfl)
      exact HR.out _ _ _ [] (by (exact atks)) ⟨⟨_, rfl, .inr ⟨by omega, by omega⟩⟩, rfl⟩
  · obtain rfl : k = fs.length := by omega
    rw [List.take_length] at *
    repeat' (first | refine aw0m ?_ | (refine ap2 ?_ ?_ <;> try intro h) | refine aw1m ?_ | (refine abx ?_; intro bb) | (refine abz ?_; intro bz) | (refine ahv ?_; intro v' hv') | (refine aac ?_; intro ac cc) | refine aw2 ?_ | (refine ap4 ?_ ?_ <;> try intro h) | apply True.intro)
    ((with_reducible apply fp_ret); exact res_1 rfl rfl)
    exact HR.out _ _ _ [] (by (exact atks)) ⟨⟨_, rfl, .inl rfl⟩, rfl⟩
end Go.Proofs.YtohpeoakdgckfaaGreat

namespace Go.Proofs.YtohpeoakdgckfaaGreat
open Go.RowKit Sx

set_option maxRecDepth 10000 in
set_option maxHeartbeats 1000000 in
theorem clonePlaceV_any (r : Hp) (v : Value) (xs : List PlaceV) (hv : Els r 2 encPl v xs) (hl : xs.length ≤ 1000000) : Tri Tryz.prog r 77 [v] [] fun w H => ∃ a c, w = .slice a xs.length c ∧ H = [RowC 149 2 w xs.length (xs.flatMap encPl)] := by
  have hn := fun (a : Option Addr) (n c : Nat) (w : World) => Lib.run_eql_slice_nil (P := Tryz.prog) w 62 _ a n c 0 0 Tryz.underlying62
  refine Tri.free2 fun R HR => ?_
  obtain ⟨a, c, rfl⟩ := hv.form
  cases a with
  | none =>
    have hx : xs = [] := by
      rcases hv.2.2.2 with ⟨_, h0⟩ | ⟨b, off, cap, c, E, fz, h, _⟩
      · exact List.length_eq_zero_iff.1 h0
      · cases h
    subst hx
    refine fn_of_sw Tryz.func77 rfl _ rfl ?_; refine aen Tryz.ntmps77 ?_
    refine sw_put (A := RowC 149 2 (.slice none 0 0) 0 []) (RowC.nil _ _) ?_
    repeat' (first | ((with_reducible refine swo_kit ?_ ?_); rfl; intro w ds K' hK; gi_big_op; (with_reducible refine hK _ ?_); clear hK K' ds w) | refine aw0 ?_ | (refine ap2 ?_ ?_ <;> try intro h) | refine aw1 ?_ | (refine abx ?_; intro bb) | (refine abz ?_; intro bz) | (refine ahv ?_; intro v' hv') | (refine aac ?_; intro ac cc) | refine aw2 ?_ | (refine ap4 ?_ ?_ <;> try intro h) | apply True.intro)
    ((with_reducible apply fp_ret); exact res_1 rfl rfl)
    exact HR.out _ _ _ [RowC 149 2 (.slice none 0 0) 0 []] (by (exact atks)) ⟨_, _, rfl, rfl⟩
  | some ad =>
    have hone := encPl_one xs
    refine fn_of_sw Tryz.func77 rfl _ rfl ?_; refine aen Tryz.ntmps77 ?_
    repeat' (first | ((with_reducible apply kx_bs0R); exact ty_el; exact ty_inf; intro bz; (refine apk ?_)) | ((with_reducible refine swo_isApp ?_); (with_reducible apply kx_appS (news := xs.flatMap encPl)); exact ty_el; exact ty_inf; rfl; rfl; rfl; rfl; exact hv.2; (exact atk); exact hone; (unfold maxLen; omega); (omega); intro a' c'; refine apm ?_) | ((with_reducible refine swo_kit ?_ ?_); rfl; intro w ds K' hK; gi_big_op; (with_reducible refine hK _ ?_); clear hK K' ds w) | refine aw0 ?_ | (refine ap2 ?_ ?_ <;> try intro h) | refine aw1 ?_ | (refine abx ?_; intro bb) | (refine abz ?_; intro bz) | (refine ahv ?_; intro v' hv') | (refine aac ?_; intro ac cc) | refine aw2 ?_ | (refine ap4 ?_ ?_ <;> try intro h) | apply True.intro)
    simp only [Nat.zero_add]
    ((with_reducible apply fp_ret); exact res_1 rfl rfl)
    exact HR.out _ _ _ [RowC 149 2 _ _ _] (by (exact atks)) ⟨a', c', rfl, rfl⟩
set_option maxRecDepth 10000 in
set_option maxHeartbeats 1000000 in
theorem sequal_any (r : Hp) (v w : Value) (l m : List UInt8) (hv : U8S r v l) (hw : U8S r w m) : Tri Tryz.prog r 53 [v, w] [] fun u H => u = .bool (decide (l = m)) ∧ H = [] := by
  refine Tri.free2 fun R HR => ?_
  have hlm := maxI hv.2.1
  refine fn_of_sw Tryz.func53 rfl _ rfl ?_; refine aen Tryz.ntmps53 ?_
  repeat' (first | refine aw0m ?_ | (refine ap2 ?_ ?_ <;> try intro h) | refine aw1m ?_ | (refine abx ?_; intro bb) | (refine abz ?_; intro bz) | (refine ahv ?_; intro v' hv') | (refine aac ?_; intro ac cc) | refine aw2 ?_ | (refine ap4 ?_ ?_ <;> try intro h) | apply True.intro)
  · ((with_reducible apply fp_ret); exact res_1 rfl rfl)
    exact HR.out _ _ _ [] (by (exact atks)) ⟨by rw [decide_eq_false]; rintro rfl; exact h rfl, rfl⟩
  · refine sw_loop (fun gm t H' => ∃ k : Nat, gm = l.length + 1 - k ∧ (k ≤ l.length) ∧ (l.take k = m.take k) ∧ (∃ G, Takes [] H' G) ∧ Sls t 26 [(0, v), (1, w), (12, .int .i64 l.length), (13, .int .i64 k)]) _ ⟨0, rfl, Nat.zero_le _, by simp, ⟨[], atks⟩, asls⟩ ?_
    rintro gm t H' ⟨k, rfl, hk, ht, ⟨G, hp⟩, hs'⟩
    revert t; refine sls_all ?_; iterate 22 intro uu'
    refine sw_takeG hp ?_; clear hp
    repeat' (first | refine aw0m ?_ | (refine ap2 ?_ ?_ <;> try intro h) | (first | ((with_reducible apply sw_draw (id := 6) 9 [(0, true), (1, true), (2, true), (3, true), (4, true), (5, true), (6, true), (7, true), (8, true)] [] []); kernel_rfl; (exact atks); kernel_rfl; intro r' hl')) | refine aw1m ?_ | (refine abx ?_; intro bb) | (refine abz ?_; intro bz) | (refine ahv ?_; intro v' hv') | (refine aac ?_; intro ac cc) | refine aw2 ?_ | (refine ap4 ?_ ?_ <;> try intro h) | apply True.intro)
    · ((with_reducible apply fp_ret); exact res_1 rfl rfl)
      exact HR.out _ _ _ [] (by (exact atks)) ⟨by rw [decide_eq_false]; rintro rfl; simp at h, rfl⟩
    · exact ⟨_, by omega, k + 1, rfl, by omega, take_eqD (d := 0) ht (by omega) (by omega) (UInt8.toNat_inj.1 (by omega)), ⟨_, atks⟩, asls⟩
    · ((with_reducible apply fp_ret); exact res_1 rfl rfl)
      exact HR.out _ _ _ [] (by (exact atks)) ⟨by rw [decide_eq_true (take_all2 ht (by omega) (by omega))], rfl⟩
end Go.Proofs.YtohpeoakdgckfaaGreat
