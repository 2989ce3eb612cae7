
/- query.Sat: its contract; awake. -/
import Derived.Test.YtgodcegaffgfjaaDoorVn
namespace Go.Proofs.YtgodcegaffgfjaaDoor
open Go.RowKit Go.Maps Sx

theorem sat_all2 (there : Tx → Bool) : ∀ q : QuV, sizeQ q.key ≤ 9000000 → SatT there q
  | .mk k gv gs sv ss => fun h r b hM hq => sat_of r b there hM _ hq h fun s _h => sat_all2 there s (by
      have h1 : sizeQ s.key ≤ sizeQs (ss.map QuV.key) := sizeQs_mem (List.mem_map_of_mem _h)
      rw [key_mk] at h
      simp only [sizeQ] at h
      omega)
termination_by q => SizeOf.sizeOf q
decreasing_by
  have := List.sizeOf_lt_of_mem _h
  simp only [QuV.mk.sizeOf_spec, QuV.subs] at *
  omega
def hasT (gs : List Tx) (s : Tx) : Bool := decide (s ∈ gs) && decide (s.length = 3)
set_option maxRecDepth 10000 in
set_option maxHeartbeats 4000000 in
theorem sat_any (r : Hp) (v : Value) (q : QuV) (gs : List Tx) (hq : QuR r q) (hv : Els r 1 encTx v gs) (hs : sizeQ q.key ≤ 9000000) (hg : sizeT gs ≤ 9000000) : Tri Tryd.prog r 9 [.agg (encQ q).toArray, v] [] fun w H => w = .bool (satQ (hasT gs) q.key) ∧ H = [] := by
  have hlm := maxI hv.2.2.1
  have hgl := sizeT_len gs
  have hsa := fun r' b (h : sub r r') (hM : SaysR Tryd.prog 9 r' b (hasT gs)) => sat_all2 (hasT gs) q hs r' b hM (hq.mono h)
  rw [show encQ q = [.int .i64 q.kind, q.gv, q.sv] from rfl] at hsa ⊢
  generalize satQ (hasT gs) q.key = res at *
  have h1 := (quR_iff.1 hq).1
  have h2 := (quR_iff.1 hq).2.1
  refine Tri.free2 fun R HR => ?_
  refine fn_of_sw Tryd.func9 rfl _ rfl ?_; refine aen Tryd.ntmps9 ?_
  repeat' (first | ((with_reducible apply kx_box); rfl; (exact qcl); intro b2; (refine apk ?_)) | ((with_reducible apply kx_mmake 9); intro bm; (refine apk ?_)) | (exfalso; first | contradiction | omega) | refine aw0 ?_ | (refine ap2 ?_ ?_ <;> try intro h) | refine aw1 ?_ | (refine abx ?_; intro bb) | (refine abz ?_; intro bz) | (refine ahv ?_; intro v' hv') | (refine aac ?_; intro ac cc) | refine aw2 ?_ | (refine ap4 ?_ ?_ <;> try intro h) | apply True.intro)
  refine sw_loop (fun gm t H' => ∃ (i : Nat) (M : Lit → Option Value), gm = gs.length + 1 - i ∧ (i ≤ gs.length) ∧ (∀ s : Tx, (M (.string s)).getD (.bool false) = .bool (hasT (gs.take i) s)) ∧ (∃ G, Takes [pt b2 (.cells [.int .i64 q.kind, q.gv, q.sv].toArray 30 (0, 0)), MapC Tryd.prog 9 bm i M] H' G) ∧ Sls t 23 [(2, .pointer (some ⟨b2, 0, none⟩)), (5, .map (some bm)), (9, v), (10, .int .i64 gs.length), (11, .int .i64 i)]) _ ⟨0, (fun _ => none), rfl, Nat.zero_le _, (fun s => by simp [hasT]), ⟨_, atks⟩, asls⟩ ?_
  rintro gm t H' ⟨i, M, rfl, hi, hM, ⟨G, hp⟩, hs'⟩
  revert t; refine sls_all ?_; iterate 18 intro uu'
  refine sw_takeG hp ?_; clear hp
  by_cases hlt : i < gs.length
  · obtain ⟨g, hx⟩ : ∃ g, gs.getD i default = g := ⟨_, rfl⟩
    have hgm := sizeT_mem (hx ▸ getD_memU hlt)
    have htk : gs.take (i + 1) = gs.take i ++ [g] := by rw [take_getD (d := default) hlt, hx]
    have hgr := gram_any r g
    repeat' (first | (rw [hx]) | (refine acl Tryd.func19 ?_; refine acr (hgr) ?_; rintro v' H' ⟨rfl, rfl⟩; all_goals refine apl ?_) | ((with_reducible apply kx_mputS (kt := 9) (et := 4) (g := g)); kernel_rfl; exact Tryd.underlying9; rfl; rfl; rfl; (unfold maxLen; omega); (exact atk); (unfold maxLen; omega); intro M2 hM2; (refine apk ?_)) | (exfalso; first | contradiction | omega) | refine aw0 ?_ | (refine ap2 ?_ ?_ <;> try intro h) | refine aw1 ?_ | (refine abx ?_; intro bb) | (refine abz ?_; intro bz) | (refine ahv ?_; intro v' hv') | (refine aac ?_; intro ac cc) | refine aw2 ?_ | (refine ap4 ?_ ?_ <;> try intro h) | apply True.intro)
    exact ⟨_, by omega, i + 1, M2, rfl, by omega, (fun s => by
      rw [hM2, htk]
      by_cases e : s = g
      · rw [if_pos e]; simp [hasT, e]
      · rw [if_neg e, hM]; simp [hasT, e]), ⟨_, atks⟩, asls⟩
  · obtain rfl : i = gs.length := by omega
    rw [List.take_length] at hM
    repeat' (first | ((with_reducible apply kx_lendC (A := MapC Tryd.prog 9 bm gs.length M)); (with_reducible (exact atk)); intro r1 g1 hr1 hg1 hA1; (refine acl Tryd.func21 ?_; refine acr (hsa r1 bm hr1 ⟨_, M, g1, hA1, hg1, hM⟩) ?_; rintro v' H' ⟨rfl, rfl⟩; all_goals refine apl ?_)) | (exfalso; first | contradiction | omega) | refine aw0 ?_ | (refine ap2 ?_ ?_ <;> try intro h) | refine aw1 ?_ | (refine abx ?_; intro bb) | (refine abz ?_; intro bz) | (refine ahv ?_; intro v' hv') | (refine aac ?_; intro ac cc) | refine aw2 ?_ | (refine ap4 ?_ ?_ <;> try intro h) | apply True.intro)
    ((with_reducible apply fp_ret); exact res_1 rfl rfl)
    exact HR.out _ _ _ [] Takes.all ⟨rfl, rfl⟩
end Go.Proofs.YtgodcegaffgfjaaDoor
