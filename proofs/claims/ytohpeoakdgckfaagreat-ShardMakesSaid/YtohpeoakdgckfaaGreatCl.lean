
/- slices.Clone of documents, of places; slices.Equal of bytes: their contracts. -/
import Derived.Test.YtohpeoakdgckfaaGreatKj
import Derived.Test.YtohpeoakdgckfaaGreatPf
import Derived.Test.YtohpeoakdgckfaaGreatEm
import Derived.Test.YtohpeoakdgckfaaGreatTw
namespace Go.Proofs.YtohpeoakdgckfaaGreat
open Go.RowKit Sx

namespace Sx
section
variable {P : Program} {l : Option Nat} {r : Hp} {K : St} {t : List Value} {H : List Ch} {o : Oper}
theorem swo_join {A B C : Ch} {H' : List Ch} (ht : Takes [A, B] H H') (hab : ∀ g k, dj g k → A g → B k → C (un g k)) (h : SWo P l r o K t (C :: H')) : SWo P l r o K t H :=
  fun w g ds ok a => h w g ds ok (by
    obtain ⟨x, y, d1, e1, hA, z, u, d2, e2, hB, hu⟩ := all_perm ht a
    subst e2
    obtain ⟨d3, d4⟩ := dj_un.1 d1
    exact ⟨un x z, u, un_dj.2 ⟨d4, d2⟩, by rw [e1, un_assoc], hab _ _ d3 hA hB, hu⟩)
theorem Tri.join2 {f : FuncId} {args : List Value} {R : Rt} (h : Tri P r f args H fun v H' => ∃ A B C, H' = [A, B] ∧ (∀ g k, dj g k → A g → B k → C (un g k)) ∧ R v [C]) : Tri P r f args H R := by
  rw [tri_iff] at h ⊢
  intro w g o a
  refine (h w g o a).mono ?_
  rintro e w' ⟨v, H', h', rfl, ⟨A, B, C, rfl, hab, hR⟩, al, to⟩
  obtain ⟨x, y, d1, e1, hA, z, u, d2, e2, hB, hu⟩ := al
  obtain rfl : u = emp := hu
  subst e2
  rw [un_emp] at e1 d1
  exact ⟨v, [C], h', rfl, hR, ⟨h', emp, dj_emp, un_emp.symm, by rw [e1]; exact hab _ _ d1 hA hB, rfl⟩, to⟩
end
end Sx

abbrev FileV.key (f : FileV) : List UInt8 × List UInt8 := (f.path, f.data)
def marksFn (n : Nat) : List FileV := (List.range n).map fun i => ⟨markT 1 i, .slice none 0 0, []⟩
theorem marksFn_succ (n : Nat) : marksFn (n + 1) = marksFn n ++ [⟨markT 1 n, .slice none 0 0, []⟩] := by simp [marksFn, List.range_succ]
def AccF (fs : List FileV) : Ch := fun g => ∀ f ∈ fs, Wide g f.val f.data
/-- What LentFiles hands out. -/
def LentFs (g : Hp) (v : Value) (fs : List FileV) : Prop := ∃ a c, ∃ fs' : List FileV, v = .slice a fs.length c ∧ fs.length + 12 ≤ c ∧ fs'.map FileV.key = fs.map FileV.key ∧ Els g 2 encF (.slice a (fs.length + 12) c) (fs' ++ marksFn 12) ∧ ∀ f ∈ fs', Wide g f.val f.data
theorem encF_len (f : FileV) : (encF f).length = 2 := rfl
theorem Sx.swo_accF {P : Program} {l : Option Nat} {r : Hp} {K : St} {t : List Value} {H H' : List Ch} {o : Oper} {a : Option Addr} {c : Nat} (f : FileV) (fs : List FileV) (ht : Takes [RowC 5 1 (.slice a (f.data.length + 12) c) (f.data.length + 12) (u8s (f.data ++ marksL 12)), AccF fs] H H')
    (h : SWo P l r o K t (AccF (fs ++ [⟨f.path, .slice a f.data.length c, f.data⟩]) :: H')) : SWo P l r o K t H :=
  swo_join ht (fun g k d hA hB => by
    intro x hx
    rcases List.mem_append.1 hx with hx | hx
    · exact (hB x hx).mono (fun b o h => un_right d h)
    · obtain rfl := List.mem_singleton.1 hx
      exact Wide.of hA (fun b o h => un_left h)) h
set_option maxRecDepth 10000 in
set_option maxHeartbeats 2000000 in
theorem lentFiles_any (r : Hp) (v : Value) (fs : List FileV) (hv : Files r v fs) (hn : fs.length ≤ 1048576) (hl : ∀ f ∈ fs, f.data.length ≤ 1000000) : Tri Tryz.prog r 9 [v] [] fun w H => H = [fun g => LentFs g w fs] := by
  refine Tri.join2 ?_
  refine Tri.free2 fun R HR => ?_
  obtain ⟨hv, hb⟩ := hv
  refine fn_of_sw Tryz.func9 rfl _ rfl ?_; refine aen Tryz.ntmps9 ?_
  repeat' (first | ((with_reducible apply kx_make0 (c := fs.length + 12)); exact ty_el; exact ty_inf; rfl; rfl; (omega); (omega); intro bm; (refine apk ?_)) | refine aw0 ?_ | (refine ap2 ?_ ?_ <;> try intro h) | refine aw1 ?_ | (refine abx ?_; intro bb) | (refine abz ?_; intro bz) | (refine ahv ?_; intro v' hv') | (refine aac ?_; intro ac cc) | refine aw2 ?_ | (refine ap4 ?_ ?_ <;> try intro h) | apply True.intro)
  refine sw_put (A := AccF []) (fun f hf => by cases hf) ?_
  refine sw_loop (fun gm t H' => ∃ (k : Nat) (a : Option Addr) (c : Nat) (fs' : List FileV), gm = fs.length + 1 - k ∧ (k ≤ fs.length) ∧ (fs'.map FileV.key = (fs.take k).map FileV.key) ∧ (∃ G, Takes [RowC 45 2 (.slice a k c) k (fs'.flatMap encF), AccF fs'] H' G) ∧ Sls t 39 [(0, v), (3, .slice a k c), (4, .int .i64 k)]) _ ⟨0, _, _, [], rfl, Nat.zero_le _, rfl, ⟨[], atks⟩, asls⟩ ?_
  rintro gm t H' ⟨k, a, c, fs', rfl, hk, hm, ⟨G, hp⟩, hs'⟩
  revert t; refine sls_all ?_; iterate 36 intro uu'
  refine sw_takeG hp ?_; clear hp
  by_cases hlt : k < fs.length
  · have hmem : fs.getD k default ∈ fs := by simp [hlt]
    repeat' (first | (refine acl Tryz.func29 ?_; refine acr (lentFile_any r (fs.getD k default) (hb _ hmem) (hl _ hmem)) ?_; rintro v' H' ⟨a1, c1, rfl, rfl⟩; all_goals refine apl ?_) | ((with_reducible apply swo_accF (fs.getD k default) fs'); ((with_reducible apply Takes.cons); (with_reducible (exact atk)); (with_reducible apply Takes.cons); (with_reducible (exact atk)); exact Takes.nil)) | (first | ((with_reducible apply kx_bs1); exact ty_el; exact ty_inf; rfl; rfl; rfl; intro bz; (refine apk ?_)) | ((with_reducible apply kx_bsN); exact ty_el; exact ty_inf; rfl; rfl; rfl; intro bz; (refine apk ?_))) | (first | ((with_reducible apply kx_append1); exact ty_el; exact ty_inf; rfl; rfl; rfl; (exact atk); (exact atk); rfl; (omega); intro a' c'; (refine apk ?_)) | ((with_reducible apply kx_appendN); exact ty_el; exact ty_inf; rfl; rfl; rfl; rfl; (exact atk); (exact atk); rfl; rfl; (omega); intro a' c'; (refine apk ?_))) | refine aw0 ?_ | (refine ap2 ?_ ?_ <;> try intro h) | refine aw1 ?_ | (refine abx ?_; intro bb) | (refine abz ?_; intro bz) | (refine ahv ?_; intro v' hv') | (refine aac ?_; intro ac cc) | refine aw2 ?_ | (refine ap4 ?_ ?_ <;> try intro h) | apply True.intro)
    exact ⟨_, by omega, k + 1, a', c', fs' ++ [⟨(fs.getD k default).path, .slice a1 (fs.getD k default).data.length c1, (fs.getD k default).data⟩], rfl, by omega, by rw [take_getD (d := default) hlt]; simp [hm], ⟨_, by rw [List.flatMap_append]; (exact atks)⟩, asls⟩
  · obtain rfl : k = fs.length := by omega
    rw [List.take_length] at hm
    repeat' (first | refine aw0m ?_ | (refine ap2 ?_ ?_ <;> try intro h) | refine aw1m ?_ | (refine abx ?_; intro bb) | (refine abz ?_; intro bz) | (refine ahv ?_; intro v' hv') | (refine aac ?_; intro ac cc) | refine aw2 ?_ | (refine ap4 ?_ ?_ <;> try intro h) | apply True.intro)
    refine sw_loop (fun gm t H' => ∃ (k : Nat) (a : Option Addr) (c : Nat), gm = 13 - k ∧ (k ≤ 12) ∧ (∃ G, Takes [RowC 45 2 (.slice a (fs.length + k) c) (fs.length + k) ((fs' ++ marksFn k).flatMap encF), AccF fs'] H' G) ∧ Sls t 39 [(0, v), (3, .slice a (fs.length + k) c), (6, .int .i64 k)]) _ ⟨0, _, _, rfl, Nat.zero_le _, ⟨_, by rw [show marksFn 0 = [] from rfl, List.append_nil]; (exact atks)⟩, asls⟩ ?_
    rintro gm t H' ⟨k, a, c, rfl, hk, ⟨G, hp⟩, hs'⟩
    revert t; refine sls_all ?_; iterate 36 intro uu'
    refine sw_takeG hp ?_; clear hp
    refine sw_fact (A := RowC 45 2 (.slice a (fs.length + k) c) (fs.length + k) ((fs' ++ marksFn k).flatMap encF)) (by (exact atk)) (fun g h => RowC.cap h) ?_
    rintro ⟨hcap, hcm⟩
    repeat' (first | (refine acl Tryz.func30 ?_; refine acr (markFile_any r 1 k) ?_; rintro v' H' ⟨rfl, rfl⟩; all_goals refine apl ?_) | (first | ((with_reducible apply kx_bs1); exact ty_el; exact ty_inf; rfl; rfl; rfl; intro bz; (refine apk ?_)) | ((with_reducible apply kx_bsN); exact ty_el; exact ty_inf; rfl; rfl; rfl; intro bz; (refine apk ?_))) | (first | ((with_reducible apply kx_append1); exact ty_el; exact ty_inf; rfl; rfl; rfl; (exact atk); (exact atk); rfl; (omega); intro a' c'; (refine apk ?_)) | ((with_reducible apply kx_appendN); exact ty_el; exact ty_inf; rfl; rfl; rfl; rfl; (exact atk); (exact atk); rfl; rfl; (omega); intro a' c'; (refine apk ?_))) | refine aw0 ?_ | (refine ap2 ?_ ?_ <;> try intro h) | refine aw1 ?_ | (refine abx ?_; intro bb) | (refine abz ?_; intro bz) | (refine ahv ?_; intro v' hv') | (refine aac ?_; intro ac cc) | refine aw2 ?_ | (refine ap4 ?_ ?_ <;> try intro h) | apply True.intro)
    · exact ⟨_, by omega, k + 1, a', c', rfl, by omega, ⟨_, by rw [marksFn_succ, ← List.append_assoc, List.flatMap_append]; (exact atks)⟩, asls⟩
    · obtain rfl : k = 12 := by omega
      ((with_reducible apply fp_ret); exact res_1 rfl rfl)
      refine HR.out _ _ _ [RowC 45 2 (.slice a (fs.length + 12) c) (fs.length + 12) ((fs' ++ marksFn 12).flatMap encF), AccF fs'] (by (exact atks)) ⟨_, _, _, rfl, fun g k d hA hB => ?_, rfl⟩
      refine ⟨a, c, fs', rfl, hcap, hm, ⟨encF_len, ?_⟩, fun f hf => (hB f hf).mono (fun b o h => un_right d h)⟩
      have hlen : fs'.length = fs.length := by have := congrArg List.length hm; simpa using this
      have := hA.sl (r := un g k) (fun b o h => un_left h)
      rw [show (fs' ++ marksFn 12).length = fs.length + 12 by rw [List.length_append, hlen]; simp [marksFn]]
      exact this
set_option maxRecDepth 10000 in
set_option maxHeartbeats 2000000 in
theorem keptFiles_any (r : Hp) (v w : Value) (fs : List FileV) (hv : LentFs r v fs) (hw : Files r w fs) (hn : fs.length ≤ 1048576) : Tri Tryz.prog r 13 [v, w] [] fun u H => u = .bool true ∧ H = [] := by
  refine Tri.free2 fun R HR => ?_
  obtain ⟨a, c, fs', rfl, hc, hm, hs, hW⟩ := hv
  obtain ⟨hw, hb⟩ := hw
  have hlen : fs'.length = fs.length := by have := congrArg List.length hm; simpa using this
  have hll : (fs' ++ marksFn 12).length = fs.length + 12 := by rw [List.length_append, hlen]; simp [marksFn]
  refine fn_of_sw Tryz.func13 rfl _ rfl ?_; refine aen Tryz.ntmps13 ?_
  repeat' (first | refine aw0m ?_ | (refine ap2 ?_ ?_ <;> try intro h) | refine aw1m ?_ | (refine abx ?_; intro bb) | (refine abz ?_; intro bz) | (refine ahv ?_; intro v' hv') | (refine aac ?_; intro ac cc) | refine aw2 ?_ | (refine ap4 ?_ ?_ <;> try intro h) | apply True.intro)
  refine sw_loop (fun gm t H' => ∃ k : Nat, gm = fs.length + 13 - k ∧ (k ≤ fs.length + 12) ∧ (∃ G, Takes [] H' G) ∧ Sls t 58 [(1, w), (5, .slice a (fs.length + 12) c), (6, .int .i64 k)]) _ ⟨0, rfl, Nat.zero_le _, ⟨[], atks⟩, asls⟩ ?_
  rintro gm t H' ⟨k, rfl, hk, ⟨G, hp⟩, hs'⟩
  revert t; refine sls_all ?_; iterate 55 intro uu'
  refine sw_takeG hp ?_; clear hp
  by_cases hkl : k < fs.length
  · have he : (fs' ++ marksFn 12).getD k default = fs'.getD k default := by simp [List.getElem?_append_left (show k < fs'.length by omega)]
    have hkey : (fs'.getD k default).key = (fs.getD k default).key := by
      have := congrArg (fun l => l[k]?) hm
      simp only [List.getElem?_map] at this
      simp only [List.getD_eq_getElem?_getD]
      rw [List.getElem?_eq_getElem hkl, List.getElem?_eq_getElem (show k < fs'.length by omega)] at *
      simpa using this
    have h1 : (fs'.getD k default).path = (fs.getD k default).path := congrArg Prod.fst hkey
    have h2 : (fs'.getD k default).data = (fs.getD k default).data := congrArg Prod.snd hkey
    have hW1 := hW (fs'.getD k default) (by simp [show k < fs'.length by omega])
    have hb1 := hb (fs.getD k default) (by simp [hkl])
    repeat' (first | refine aw0m ?_ | (refine ap2 ?_ ?_ <;> try intro h) | (first | ((with_reducible apply sw_draw (id := 7) 35 [(0, true), (1, true), (2, true), (3, true), (4, true), (5, true), (6, true), (7, true), (8, true), (9, true), (10, true), (11, true), (12, true), (13, false), (14, true), (15, true), (16, true), (17, true), (18, true), (19, true), (20, true), (21, true), (22, true), (23, true), (24, true), (25, true), (26, true), (27, true), (28, true), (29, true), (30, false), (31, false), (32, true), (33, true), (34, true)] [] []); kernel_rfl; (exact atks); kernel_rfl; intro r' hl')) | (refine acl Tryz.func47 ?_; refine acr (by rw [he]; exact keptFile_any _ _ _ (hW1.mono hl'.1) (hb1.mono hl'.1) h1 h2) ?_; rintro v' H' ⟨rfl, rfl⟩; all_goals refine apl ?_) | refine aw1m ?_ | (refine abx ?_; intro bb) | (refine abz ?_; intro bz) | (refine ahv ?_; intro v' hv') | (refine aac ?_; intro ac cc) | refine aw2 ?_ | (refine ap4 ?_ ?_ <;> try intro h) | apply True.intro)
    exact ⟨_, by omega, k + 1, rfl, by omega, ⟨_, atks⟩, asls⟩
  · by_cases hk2 : k < fs.length + 12
    · obtain ⟨j, rfl⟩ : ∃ j, k = fs.length + j := ⟨k - fs.length, by omega⟩
      have he : (fs' ++ marksFn 12).getD (fs.length + j) default = ⟨markT 1 j, .slice none 0 0, []⟩ := by
        simp only [List.getD_eq_getElem?_getD]
        rw [List.getElem?_append_right (by omega), hlen]
        simp [marksFn, show j < 12 by omega]
      repeat' (first | refine aw0m ?_ | (refine ap2 ?_ ?_ <;> try intro h) | (first | ((with_reducible apply sw_draw (id := 7) 35 [(0, true), (1, true), (2, true), (3, true), (4, true), (5, true), (6, true), (7, true), (8, true), (9, true), (10, true), (11, true), (12, true), (13, false), (14, true), (15, true), (16, true), (17, true), (18, true), (19, true), (20, true), (21, true), (22, true), (23, true), (24, true), (25, true), (26, true), (27, true), (28, true), (29, true), (30, false), (31, false), (32, true), (33, true), (34, true)] [] []); kernel_rfl; (exact atks); kernel_rfl; intro r' hl')) | (refine acl Tryz.func30 ?_; refine acr (by rw [show (((fs.length + j : Nat) : Int) - (fs.length : Nat)) = ((j : Nat) : Int) by omega]; exact markFile_any _ 1 j) ?_; rintro v' H' ⟨rfl, rfl⟩; all_goals refine apl ?_) | (refine acl Tryz.func48 ?_; refine acr (by rw [he]; exact sameFile_any _ _ _ (Sl.nil _ _) (Sl.nil _ _)) ?_; rintro v' H' ⟨rfl, rfl⟩; all_goals refine apl ?_) | refine aw1m ?_ | (refine abx ?_; intro bb) | (refine abz ?_; intro bz) | (refine ahv ?_; intro v' hv') | (refine aac ?_; intro ac cc) | refine aw2 ?_ | (refine ap4 ?_ ?_ <;> try intro h) | apply True.intro)
      exact ⟨_, by omega, fs.length + j + 1, rfl, by omega, ⟨_, atks⟩, asls⟩
    · repeat' (first | refine aw0m ?_ | (refine ap2 ?_ ?_ <;> try intro h) | refine aw1m ?_ | (refine abx ?_; intro bb) | (refine abz ?_; intro bz) | (refine ahv ?_; intro v' hv') | (refine aac ?_; intro ac cc) | refine aw2 ?_ | (refine ap4 ?_ ?_ <;> try intro h) | apply True.intro)
      ((with_reducible apply fp_ret); exact res_1 rfl rfl)
      exact HR.out _ _ _ [] (by (exact atks)) ⟨rfl, rfl⟩
/-- What FilesOf counts. -/
def sizeF : List FileV → Nat
  | [] => 0
  | f :: fs => 1 + f.path.length + f.data.length + sizeF fs
theorem sizeF_app (l m : List FileV) : sizeF (l ++ m) = sizeF l + sizeF m := by
  induction l with
  | nil => simp [sizeF]
  | cons f l ih => simp only [List.cons_append, sizeF, ih]; omega
theorem sizeF_mem {fs : List FileV} {f : FileV} (h : f ∈ fs) : 1 + f.path.length + f.data.length ≤ sizeF fs := by
  induction fs with
  | nil => cases h
  | cons g fs ih =>
    rcases List.mem_cons.1 h with rfl | h
    · simp only [sizeF]; omega
    · have := ih h; simp only [sizeF]; omega
theorem sizeF_len (fs : List FileV) : fs.length ≤ sizeF fs := by
  induction fs with
  | nil => simp
  | cons g fs ih => simp only [sizeF, List.length_cons]; omega
set_option maxRecDepth 10000 in
set_option maxHeartbeats 2000000 in
theorem filesOf_any (r : Hp) (v : Value) (fs : List FileV) (most : Nat) (hv : Files r v fs) (hl : ∀ f ∈ fs, f.path.length ≤ 140737488351232 ∧ f.data.length ≤ 140737488351232) (hm : most ≤ 1000000) : Tri Tryz.prog r 7 [v, .int .i64 most] [] fun w H => (∃ s : Nat, w = .int .i64 s ∧ (s = sizeF fs ∨ most < s ∧ most < sizeF fs)) ∧ H = [] := by
  refine Tri.free2 fun R HR => ?_
  obtain ⟨hv, hb⟩ := hv
  have hlm := maxI hv.2.2.1
  refine fn_of_sw Tryz.func7 rfl _ rfl ?_; refine aen Tryz.ntmps7 ?_
  repeat' (first | refine aw0m ?_ | (refine ap2 ?_ ?_ <;> try intro h) | refine aw1m ?_ | (refine abx ?_; intro bb) | (refine abz ?_; intro bz) | (refine ahv ?_; intro v' hv') | (refine aac ?_; intro ac cc) | refine aw2 ?_ | (refine ap4 ?_ ?_ <;> try intro h) | apply True.intro)
  refine sw_loop (fun gm t H' => ∃ (k : Nat), gm = fs.length + 1 - k ∧ (k ≤ fs.length) ∧ (sizeF (fs.take k) ≤ most + 281474976702465) ∧ (∃ G, Takes [] H' G) ∧ Sls t 35 [(0, v), (1, .int .i64 most), (5, .int .i64 (sizeF (fs.take k) : Nat)), (6, .int .i64 k)]) _ ⟨0, rfl, Nat.zero_le _, by simp [sizeF], ⟨[], by (exact atks)⟩, asls⟩ ?_
  rintro gm t H' ⟨k, rfl, hk, hs, ⟨G, hp⟩, hs'⟩
  revert t; refine sls_all ?_; iterate 31 intro uu'
  refine sw_takeG hp ?_; clear hp
  have hsa := sizeF_app (fs.take k) (fs.drop k)
  rw [List.take_append_drop] at hsa
  by_cases hlt : k < fs.length
  · have hmem : fs.getD k default ∈ fs := by simp [hlt]
    obtain ⟨hl1, hl2⟩ := hl _ hmem
    have hst : sizeF (fs.take (k + 1)) = sizeF (fs.take k) + (1 + (fs.getD k default).path.length + (fs.getD k default).data.length) := by
      rw [take_getD (d := default) hlt, sizeF_app]; simp [sizeF]
    have hb1 := hb _ hmem
    repeat' (first | refine aw0m ?_ | (refine ap2 ?_ ?_ <;> try intro h) | (first | ((with_reducible apply sw_draw (id := 5) 16 [(0, true), (1, true), (2, true), (3, true), (4, true), (5, true), (6, true), (7, true), (8, true), (9, true), (10, true), (11, true), (12, true), (13, true), (14, true), (15, true)] [(16, false)] []); kernel_rfl; (exact atks); kernel_rfl; intro r' hl')) | refine aw1m ?_ | (refine abx ?_; intro bb) | (refine abz ?_; intro bz) | (refine ahv ?_; intro v' hv') | (refine aac ?_; intro ac cc) | refine aw2 ?_ | (refine ap4 ?_ ?_ <;> try intro h) | apply True.intro)
    · exact ⟨_, by omega, k + 1, rfl, by omega, by omega, ⟨_, atks⟩, asls⟩
    · ((with_reducible apply fp_ret); exact res_1 rfl rfl)
      exact HR.out _ _ _ [] (by (exact atks)) ⟨⟨_, rfl, .inr ⟨by omega, by omega⟩⟩, rfl⟩
  · obtain rfl : k = fs.length := by omega
    rw [List.take_length] at *
    repeat' (first | refine aw0m ?_ | (refine ap2 ?_ ?_ <;> try intro h) | refine aw1m ?_ | (refine abx ?_; intro bb) | (refine abz ?_; intro bz) | (refine ahv ?_; intro v' hv') | (refine aac ?_; intro ac cc) | refine aw2 ?_ | (refine ap4 ?_ ?_ <;> try intro h) | apply True.intro)
    ((with_reducible apply fp_ret); exact res_1 rfl rfl)
    exact HR.out _ _ _ [] (by (exact atks)) ⟨⟨_, rfl, .inl rfl⟩, rfl⟩
end Go.Proofs.YtohpeoakdgckfaaGreat

namespace Go.Proofs.YtohpeoakdgckfaaGreat
open Go.RowKit Sx

theorem encPl_one (l : List PlaceV) : (l.flatMap encPl).all one? = true := by
  rw [List.all_eq_true]
  intro v hv
  obtain ⟨p, _, hp⟩ := List.mem_flatMap.1 hv
  simp only [encPl, List.mem_cons, List.not_mem_nil, or_false] at hp
  rcases hp with rfl | rfl <;> rfl
end Go.Proofs.YtohpeoakdgckfaaGreat

namespace Go.Proofs.YtohpeoakdgckfaaGreat
open Go.RowKit Sx

end Go.Proofs.YtohpeoakdgckfaaGreat

namespace Go.Proofs.YtohpeoakdgckfaaGreat
open Go.RowKit Sx

theorem map_getD {xs : List PostV} {k : Nat} (h : k < xs.length) : (xs.map unP).getD k default = unP (xs.getD k default) := by
  rw [List.getD_eq_getElem?_getD, List.getD_eq_getElem?_getD, List.getElem?_map, List.getElem?_eq_getElem h]; rfl
end Go.Proofs.YtohpeoakdgckfaaGreat

namespace Go.Proofs.YtohpeoakdgckfaaGreat
open Go.RowKit Sx

end Go.Proofs.YtohpeoakdgckfaaGreat

namespace Go.Proofs.YtohpeoakdgckfaaGreat
open Go.RowKit Sx

set_option maxRecDepth 10000 in
set_option maxHeartbeats 1000000 in
theorem clonePlaceV_any (r : Hp) (v : Value) (xs : List PlaceV) (hv : Els r 2 encPl v xs) (hl : xs.length ≤ 1000000) : Tri Tryz.prog r 77 [v] [] fun w H => ∃ a c, w = .slice a xs.length c ∧ H = [RowC 149 2 w xs.length (xs.flatMap encPl)] := by
  have hn := fun (a : Option Addr) (n c : Nat) (w : World) => Lib.run_eql_slice_nil (P := Tryz.prog) w 62 _ a n c 0 0 Tryz.underlying62
  refine Tri.free2 fun R HR => ?_
  obtain ⟨a, c, rfl⟩ := hv.form
  cases a with
  | none =>
    have hx : xs = [] := by
      rcases hv.2.2.2 with ⟨_, h0⟩ | ⟨b, off, cap, c, E, fz, h, _⟩
      · exact List.length_eq_zero_iff.1 h0
      · cases h
    subst hx
    refine fn_of_sw Tryz.func77 rfl _ rfl ?_; refine aen Tryz.ntmps77 ?_
    refine sw_put (A := RowC 149 2 (.slice none 0 0) 0 []) (RowC.nil _ _) ?_
    repeat' (first | ((with_reducible refine swo_kit ?_ ?_); rfl; intro w ds K' hK; gi_big_op; (with_reducible refine hK _ ?_); clear hK K' ds w) | refine aw0 ?_ | (refine ap2 ?_ ?_ <;> try intro h) | refine aw1 ?_ | (refine abx ?_; intro bb) | (refine abz ?_; intro bz) | (refine ahv ?_; intro v' hv') | (refine aac ?_; intro ac cc) | refine aw2 ?_ | (refine ap4 ?_ ?_ <;> try intro h) | apply True.intro)
    ((with_reducible apply fp_ret); exact res_1 rfl rfl)
    exact HR.out _ _ _ [RowC 149 2 (.slice none 0 0) 0 []] (by (exact atks)) ⟨_, _, rfl, rfl⟩
  | some ad =>
    have hone := encPl_one xs
    refine fn_of_sw Tryz.func77 rfl _ rfl ?_; refine aen Tryz.ntmps77 ?_
    repeat' (first | ((with_reducible apply kx_bs0R); exact ty_el; exact ty_inf; intro bz; (refine apk ?_)) | ((with_reducible refine swo_isApp ?_); (with_reducible apply kx_appS (news := xs.flatMap encPl)); exact ty_el; exact ty_inf; rfl; rfl; rfl; rfl; exact hv.2; (exact atk); exact hone; (unfold maxLen; omega); (omega); intro a' c'; refine apm ?_) | ((with_reducible refine swo_kit ?_ ?_); rfl; intro w ds K' hK; gi_big_op; (with_reducible refine hK _ ?_); clear hK K' ds w) | refine aw0 ?_ | (refine ap2 ?_ ?_ <;> try intro h) | refine aw1 ?_ | (refine abx ?_; intro bb) | (refine abz ?_; intro bz) | (refine ahv ?_; intro v' hv') | (refine aac ?_; intro ac cc) | refine aw2 ?_ | (refine ap4 ?_ ?_ <;> try intro h) | apply True.intro)
    simp only [Nat.zero_add]
    ((with_reducible apply fp_ret); exact res_1 rfl rfl)
    exact HR.out _ _ _ [RowC 149 2 _ _ _] (by (exact atks)) ⟨a', c', rfl, rfl⟩
set_option maxRecDepth 10000 in
set_option maxHeartbeats 1000000 in
theorem sequal_any (r : Hp) (v w : Value) (l m : List UInt8) (hv : U8S r v l) (hw : U8S r w m) : Tri Tryz.prog r 53 [v, w] [] fun u H => u = .bool (decide (l = m)) ∧ H = [] := by
  refine Tri.free2 fun R HR => ?_
  have hlm := maxI hv.2.1
  refine fn_of_sw Tryz.func53 rfl _ rfl ?_; refine aen Tryz.ntmps53 ?_
  repeat' (first | refine aw0m ?_ | (refine ap2 ?_ ?_ <;> try intro h) | refine aw1m ?_ | (refine abx ?_; intro bb) | (refine abz ?_; intro bz) | (refine ahv ?_; intro v' hv') | (refine aac ?_; intro ac cc) | refine aw2 ?_ | (refine ap4 ?_ ?_ <;> try intro h) | apply True.intro)
  · ((with_reducible apply fp_ret); exact res_1 rfl rfl)
    exact HR.out _ _ _ [] (by (exact atks)) ⟨by rw [decide_eq_false]; rintro rfl; exact h rfl, rfl⟩
  · refine sw_loop (fun gm t H' => ∃ k : Nat, gm = l.length + 1 - k ∧ (k ≤ l.length) ∧ (l.take k = m.take k) ∧ (∃ G, Takes [] H' G) ∧ Sls t 26 [(0, v), (1, w), (12, .int .i64 l.length), (13, .int .i64 k)]) _ ⟨0, rfl, Nat.zero_le _, by simp, ⟨[], atks⟩, asls⟩ ?_
    rintro gm t H' ⟨k, rfl, hk, ht, ⟨G, hp⟩, hs'⟩
    revert t; refine sls_all ?_; iterate 22 intro uu'
    refine sw_takeG hp ?_; clear hp
    repeat' (first | refine aw0m ?_ | (refine ap2 ?_ ?_ <;> try intro h) | (first | ((with_reducible apply sw_draw (id := 6) 9 [(0, true), (1, true), (2, true), (3, true), (4, true), (5, true), (6, true), (7, true), (8, true)] [] []); kernel_rfl; (exact atks); kernel_rfl; intro r' hl')) | refine aw1m ?_ | (refine abx ?_; intro bb) | (refine abz ?_; intro bz) | (refine ahv ?_; intro v' hv') | (refine aac ?_; intro ac cc) | refine aw2 ?_ | (refine ap4 ?_ ?_ <;> try intro h) | apply True.intro)
    · ((with_reducible apply fp_ret); exact res_1 rfl rfl)
      exact HR.out _ _ _ [] (by (exact atks)) ⟨by rw [decide_eq_false]; rintro rfl; simp at h, rfl⟩
    · exact ⟨_, by omega, k + 1, rfl, by omega, take_eqD (d := 0) ht (by omega) (by omega) (UInt8.toNat_inj.1 (by omega)), ⟨_, atks⟩, asls⟩
    · ((with_reducible apply fp_ret); exact res_1 rfl rfl)
      exact HR.out _ _ _ [] (by (exact atks)) ⟨by rw [decide_eq_true (take_all2 ht (by omega) (by omega))], rfl⟩
end Go.Proofs.YtohpeoakdgckfaaGreat
