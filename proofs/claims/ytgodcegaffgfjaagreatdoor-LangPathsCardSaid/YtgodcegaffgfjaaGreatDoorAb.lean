
/- mudlarkkit: flat.. of no list: their contracts. mudlarkkit.ApartBytes: its contract. -/
import Derived.Test.YtgodcegaffgfjaaGreatDoorKi
import Derived.Test.YtgodcegaffgfjaaGreatDoorFb
namespace Go.Proofs.YtgodcegaffgfjaaGreatDoor
open Go.RowKit Sx

set_option maxRecDepth 10000 in
set_option maxHeartbeats 1000000 in
theorem flatNilLimbs {f : FuncId} {fn : Func} (hf : Tryz.prog.funcs[f]? = some fn) (en : fn.ntmps = 200) (r : Hp) (h : Tryz.prog.funcs[f]? = some fn → fn.ntmps = 200 → ∀ r, Tri Tryz.prog r f [.slice none 0 0] [] fun w H => w = .bool true ∧ H = [] := by
  intro hf en r
  refine Tri.free2 fun R HR => ?_
  refine fn_of_sw hf rfl _ rfl ?_; refine aen en ?_
  repeat' (first | refine aw0m ?_ | (refine ap2 ?_ ?_ <;> try intro h) | refine aw1m ?_ | (refine abx ?_; intro bb) | (refine abz ?_; intro bz) | (refine ahv ?_; intro v' hv') | (refine aac ?_; intro ac cc) | refine aw2 ?_ | (refine ap4 ?_ ?_ <;> try intro h) | apply True.intro)
  refine sw_loop (fun gm t H' => gm = 1 ∧ (∃ G, Takes [] H' G) ∧ Sls t 200 [(0, .slice none 0 0), (3, .int .i64 0)]) _ ⟨rfl, ⟨[], atks⟩, asls⟩ ?_
  rintro gm t H' ⟨rfl, ⟨G, hp⟩, hs'⟩
  revert t; refine sls_all ?_; iterate 198 intro uu'
  refine sw_takeG hp ?_; clear hp
  repeat' (first | ((with_reducible apply kx_make0 (c := 0)); exact ty_el; exact ty_inf; rfl; rfl; (omega); (omega); intro bm; (refine apk ?_)) | refine aw0 ?_ | (refine ap2 ?_ ?_ <;> try intro h) | refine aw1 ?_ | (refine abx ?_; intro bb) | (refine abz ?_; intro bz) | (refine ahv ?_; intro v' hv') | (refine aac ?_; intro ac cc) | refine aw2 ?_ | (refine ap4 ?_ ?_ <;> try intro h) | apply True.intro)
  refine sw_loop (fun gm t H' => gm = 1 ∧ (∃ G, Takes [] H' G) ∧ Sls t 200 [(0, .slice none 0 0), (5, .slice (some ⟨bm, 0, none⟩) 0 0), (6, .int .i64 0)]) _ ⟨rfl, ⟨_, atks⟩, asls⟩ ?_
  rintro gm t H' ⟨rfl, ⟨G, hp⟩, hs'⟩
  revert t; refine sls_all ?_; iterate 197 intro uu'
  refine sw_takeG hp ?_; clear hp
  repeat' (first | refine aw0m ?_ | (refine ap2 ?_ ?_ <;> try intro h) | refine aw1m ?_ | (refine abx ?_; intro bb) | (refine abz ?_; intro bz) | (refine ahv ?_; intro v' hv') | (refine aac ?_; intro ac cc) | refine aw2 ?_ | (refine ap4 ?_ ?_ <;> try intro h) | apply True.intro)
  refine sw_loop (fun gm t H' => gm = 1 ∧ (∃ G, Takes [] H' G) ∧ Sls t 200 [(0, .slice none 0 0), (5, .slice (some ⟨bm, 0, none⟩) 0 0), (9, .int .i64 0)]) _ ⟨rfl, ⟨_, atks⟩, asls⟩ ?_
  rintro gm t H' ⟨rfl, ⟨G, hp⟩, hs'⟩
  revert t; refine sls_all ?_; iterate 197 intro uu'
  refine sw_takeG hp ?_; clear hp
  repeat' (first | refine aw0m ?_ | (refine ap2 ?_ ?_ <;> try intro h) | refine aw1m ?_ | (refine abx ?_; intro bb) | (refine abz ?_; intro bz) | (refine ahv ?_; intro v' hv') | (refine aac ?_; intro ac cc) | refine aw2 ?_ | (refine ap4 ?_ ?_ <;> try intro h) | apply True.intro)
  refine sw_loop (fun gm t H' => gm = 1 ∧ (∃ G, Takes [] H' G) ∧ Sls t 200 [(0, .slice none 0 0), (5, .slice (some ⟨bm, 0, none⟩) 0 0), (11, .int .i64 0)]) _ ⟨rfl, ⟨_, atks⟩, asls⟩ ?_
  rintro gm t H' ⟨rfl, ⟨G, hp⟩, hs'⟩
  revert t; refine sls_all ?_; iterate 197 intro uu'
  refine sw_takeG hp ?_; clear hp
  repeat' (first | refine aw0m ?_ | (refine ap2 ?_ ?_ <;> try intro h) | refine aw1m ?_ | (refine abx ?_; intro bb) | (refine abz ?_; intro bz) | (refine ahv ?_; intro v' hv') | (refine aac ?_; intro ac cc) | refine aw2 ?_ | (refine ap4 ?_ ?_ <;> try intro h) | apply True.intro)
  refine sw_loop (fun gm t H' => gm = 1 ∧ (∃ G, Takes [] H' G) ∧ Sls t 200 [(0, .slice none 0 0), (5, .slice (some ⟨bm, 0, none⟩) 0 0), (14, .int .i64 0)]) _ ⟨rfl, ⟨_, atks⟩, asls⟩ ?_
  rintro gm t H' ⟨rfl, ⟨G, hp⟩, hs'⟩
  revert t; refine sls_all ?_; iterate 197 intro uu'
  refine sw_takeG hp ?_; clear hp
  repeat' (first | refine aw0m ?_ | (refine ap2 ?_ ?_ <;> try intro h) | refine aw1m ?_ | (refine abx ?_; intro bb) | (refine abz ?_; intro bz) | (refine ahv ?_; intro v' hv') | (refine aac ?_; intro ac cc) | refine aw2 ?_ | (refine ap4 ?_ ?_ <;> try intro h) | apply True.intro)
  ((with_reducible apply fp_ret); exact res_1 rfl rfl)
  exact HR.out _ _ _ [] atks ⟨rfl, rfl⟩) : Tri Tryz.prog r f [.slice none 0 0] [] fun w H => w = .bool true ∧ H = [] := h hf en r
set_option maxRecDepth 10000 in
set_option maxHeartbeats 1000000 in
theorem flatNilInts {f : FuncId} {fn : Func} (hf : Tryz.prog.funcs[f]? = some fn) (en : fn.ntmps = 193) (r : Hp) (h : Tryz.prog.funcs[f]? = some fn → fn.ntmps = 193 → ∀ r, Tri Tryz.prog r f [.slice none 0 0] [] fun w H => w = .bool true ∧ H = [] := by
  intro hf en r
  refine Tri.free2 fun R HR => ?_
  refine fn_of_sw hf rfl _ rfl ?_; refine aen en ?_
  repeat' (first | refine aw0m ?_ | (refine ap2 ?_ ?_ <;> try intro h) | refine aw1m ?_ | (refine abx ?_; intro bb) | (refine abz ?_; intro bz) | (refine ahv ?_; intro v' hv') | (refine aac ?_; intro ac cc) | refine aw2 ?_ | (refine ap4 ?_ ?_ <;> try intro h) | apply True.intro)
  refine sw_loop (fun gm t H' => gm = 1 ∧ (∃ G, Takes [] H' G) ∧ Sls t 193 [(0, .slice none 0 0), (3, .int .i64 0)]) _ ⟨rfl, ⟨[], atks⟩, asls⟩ ?_
  rintro gm t H' ⟨rfl, ⟨G, hp⟩, hs'⟩
  revert t; refine sls_all ?_; iterate 191 intro uu'
  refine sw_takeG hp ?_; clear hp
  repeat' (first | ((with_reducible apply kx_make0 (c := 0)); exact ty_el; exact ty_inf; rfl; rfl; (omega); (omega); intro bm; (refine apk ?_)) | refine aw0 ?_ | (refine ap2 ?_ ?_ <;> try intro h) | refine aw1 ?_ | (refine abx ?_; intro bb) | (refine abz ?_; intro bz) | (refine ahv ?_; intro v' hv') | (refine aac ?_; intro ac cc) | refine aw2 ?_ | (refine ap4 ?_ ?_ <;> try intro h) | apply True.intro)
  refine sw_loop (fun gm t H' => gm = 1 ∧ (∃ G, Takes [] H' G) ∧ Sls t 193 [(0, .slice none 0 0), (5, .slice (some ⟨bm, 0, none⟩) 0 0), (6, .int .i64 0)]) _ ⟨rfl, ⟨_, atks⟩, asls⟩ ?_
  rintro gm t H' ⟨rfl, ⟨G, hp⟩, hs'⟩
  revert t; refine sls_all ?_; iterate 190 intro uu'
  refine sw_takeG hp ?_; clear hp
  repeat' (first | refine aw0m ?_ | (refine ap2 ?_ ?_ <;> try intro h) | refine aw1m ?_ | (refine abx ?_; intro bb) | (refine abz ?_; intro bz) | (refine ahv ?_; intro v' hv') | (refine aac ?_; intro ac cc) | refine aw2 ?_ | (refine ap4 ?_ ?_ <;> try intro h) | apply True.intro)
  refine sw_loop (fun gm t H' => gm = 1 ∧ (∃ G, Takes [] H' G) ∧ Sls t 193 [(0, .slice none 0 0), (5, .slice (some ⟨bm, 0, none⟩) 0 0), (9, .int .i64 0)]) _ ⟨rfl, ⟨_, atks⟩, asls⟩ ?_
  rintro gm t H' ⟨rfl, ⟨G, hp⟩, hs'⟩
  revert t; refine sls_all ?_; iterate 190 intro uu'
  refine sw_takeG hp ?_; clear hp
  repeat' (first | refine aw0m ?_ | (refine ap2 ?_ ?_ <;> try intro h) | refine aw1m ?_ | (refine abx ?_; intro bb) | (refine abz ?_; intro bz) | (refine ahv ?_; intro v' hv') | (refine aac ?_; intro ac cc) | refine aw2 ?_ | (refine ap4 ?_ ?_ <;> try intro h) | apply True.intro)
  refine sw_loop (fun gm t H' => gm = 1 ∧ (∃ G, Takes [] H' G) ∧ Sls t 193 [(0, .slice none 0 0), (5, .slice (some ⟨bm, 0, none⟩) 0 0), (11, .int .i64 0)]) _ ⟨rfl, ⟨_, atks⟩, asls⟩ ?_
  rintro gm t H' ⟨rfl, ⟨G, hp⟩, hs'⟩
  revert t; refine sls_all ?_; iterate 190 intro uu'
  refine sw_takeG hp ?_; clear hp
  repeat' (first | refine aw0m ?_ | (refine ap2 ?_ ?_ <;> try intro h) | refine aw1m ?_ | (refine abx ?_; intro bb) | (refine abz ?_; intro bz) | (refine ahv ?_; intro v' hv') | (refine aac ?_; intro ac cc) | refine aw2 ?_ | (refine ap4 ?_ ?_ <;> try intro h) | apply True.intro)
  refine sw_loop (fun gm t H' => gm = 1 ∧ (∃ G, Takes [] H' G) ∧ Sls t 193 [(0, .slice none 0 0), (5, .slice (some ⟨bm, 0, none⟩) 0 0), (14, .int .i64 0)]) _ ⟨rfl, ⟨_, atks⟩, asls⟩ ?_
  rintro gm t H' ⟨rfl, ⟨G, hp⟩, hs'⟩
  revert t; refine sls_all ?_; iterate 190 intro uu'
  refine sw_takeG hp ?_; clear hp
  repeat' (first | refine aw0m ?_ | (refine ap2 ?_ ?_ <;> try intro h) | refine aw1m ?_ | (refine abx ?_; intro bb) | (refine abz ?_; intro bz) | (refine ahv ?_; intro v' hv') | (refine aac ?_; intro ac cc) | refine aw2 ?_ | (refine ap4 ?_ ?_ <;> try intro h) | apply True.intro)
  ((with_reducible apply fp_ret); exact res_1 rfl rfl)
  exact HR.out _ _ _ [] atks ⟨rfl, rfl⟩) : Tri Tryz.prog r f [.slice none 0 0] [] fun w H => w = .bool true ∧ H = [] := h hf en r
set_option maxRecDepth 10000 in
set_option maxHeartbeats 1000000 in
theorem flatNilTruths {f : FuncId} {fn : Func} (hf : Tryz.prog.funcs[f]? = some fn) (en : fn.ntmps = 207) (r : Hp) (h : Tryz.prog.funcs[f]? = some fn → fn.ntmps = 207 → ∀ r, Tri Tryz.prog r f [.slice none 0 0] [] fun w H => w = .bool true ∧ H = [] := by
  intro hf en r
  refine Tri.free2 fun R HR => ?_
  refine fn_of_sw hf rfl _ rfl ?_; refine aen en ?_
  repeat' (first | refine aw0m ?_ | (refine ap2 ?_ ?_ <;> try intro h) | refine aw1m ?_ | (refine abx ?_; intro bb) | (refine abz ?_; intro bz) | (refine ahv ?_; intro v' hv') | (refine aac ?_; intro ac cc) | refine aw2 ?_ | (refine ap4 ?_ ?_ <;> try intro h) | apply True.intro)
  refine sw_loop (fun gm t H' => gm = 1 ∧ (∃ G, Takes [] H' G) ∧ Sls t 207 [(0, .slice none 0 0), (3, .int .i64 0)]) _ ⟨rfl, ⟨[], atks⟩, asls⟩ ?_
  rintro gm t H' ⟨rfl, ⟨G, hp⟩, hs'⟩
  revert t; refine sls_all ?_; iterate 205 intro uu'
  refine sw_takeG hp ?_; clear hp
  repeat' (first | ((with_reducible apply kx_make0 (c := 0)); exact ty_el; exact ty_inf; rfl; rfl; (omega); (omega); intro bm; (refine apk ?_)) | refine aw0 ?_ | (refine ap2 ?_ ?_ <;> try intro h) | refine aw1 ?_ | (refine abx ?_; intro bb) | (refine abz ?_; intro bz) | (refine ahv ?_; intro v' hv') | (refine aac ?_; intro ac cc) | refine aw2 ?_ | (refine ap4 ?_ ?_ <;> try intro h) | apply True.intro)
  refine sw_loop (fun gm t H' => gm = 1 ∧ (∃ G, Takes [] H' G) ∧ Sls t 207 [(0, .slice none 0 0), (5, .slice (some ⟨bm, 0, none⟩) 0 0), (6, .int .i64 0)]) _ ⟨rfl, ⟨_, atks⟩, asls⟩ ?_
  rintro gm t H' ⟨rfl, ⟨G, hp⟩, hs'⟩
  revert t; refine sls_all ?_; iterate 204 intro uu'
  refine sw_takeG hp ?_; clear hp
  repeat' (first | refine aw0m ?_ | (refine ap2 ?_ ?_ <;> try intro h) | refine aw1m ?_ | (refine abx ?_; intro bb) | (refine abz ?_; intro bz) | (refine ahv ?_; intro v' hv') | (refine aac ?_; intro ac cc) | refine aw2 ?_ | (refine ap4 ?_ ?_ <;> try intro h) | apply True.intro)
  refine sw_loop (fun gm t H' => gm = 1 ∧ (∃ G, Takes [] H' G) ∧ Sls t 207 [(0, .slice none 0 0), (5, .slice (some ⟨bm, 0, none⟩) 0 0), (9, .int .i64 0)]) _ ⟨rfl, ⟨_, atks⟩, asls⟩ ?_
  rintro gm t H' ⟨rfl, ⟨G, hp⟩, hs'⟩
  revert t; refine sls_all ?_; iterate 204 intro uu'
  refine sw_takeG hp ?_; clear hp
  repeat' (first | refine aw0m ?_ | (refine ap2 ?_ ?_ <;> try intro h) | refine aw1m ?_ | (refine abx ?_; intro bb) | (refine abz ?_; intro bz) | (refine ahv ?_; intro v' hv') | (refine aac ?_; intro ac cc) | refine aw2 ?_ | (refine ap4 ?_ ?_ <;> try intro h) | apply True.intro)
  refine sw_loop (fun gm t H' => gm = 1 ∧ (∃ G, Takes [] H' G) ∧ Sls t 207 [(0, .slice none 0 0), (5, .slice (some ⟨bm, 0, none⟩) 0 0), (11, .int .i64 0)]) _ ⟨rfl, ⟨_, atks⟩, asls⟩ ?_
  rintro gm t H' ⟨rfl, ⟨G, hp⟩, hs'⟩
  revert t; refine sls_all ?_; iterate 204 intro uu'
  refine sw_takeG hp ?_; clear hp
  repeat' (first | refine aw0m ?_ | (refine ap2 ?_ ?_ <;> try intro h) | refine aw1m ?_ | (refine abx ?_; intro bb) | (refine abz ?_; intro bz) | (refine ahv ?_; intro v' hv') | (refine aac ?_; intro ac cc) | refine aw2 ?_ | (refine ap4 ?_ ?_ <;> try intro h) | apply True.intro)
  refine sw_loop (fun gm t H' => gm = 1 ∧ (∃ G, Takes [] H' G) ∧ Sls t 207 [(0, .slice none 0 0), (5, .slice (some ⟨bm, 0, none⟩) 0 0), (14, .int .i64 0)]) _ ⟨rfl, ⟨_, atks⟩, asls⟩ ?_
  rintro gm t H' ⟨rfl, ⟨G, hp⟩, hs'⟩
  revert t; refine sls_all ?_; iterate 204 intro uu'
  refine sw_takeG hp ?_; clear hp
  repeat' (first | refine aw0m ?_ | (refine ap2 ?_ ?_ <;> try intro h) | refine aw1m ?_ | (refine abx ?_; intro bb) | (refine abz ?_; intro bz) | (refine ahv ?_; intro v' hv') | (refine aac ?_; intro ac cc) | refine aw2 ?_ | (refine ap4 ?_ ?_ <;> try intro h) | apply True.intro)
  ((with_reducible apply fp_ret); exact res_1 rfl rfl)
  exact HR.out _ _ _ [] atks ⟨rfl, rfl⟩) : Tri Tryz.prog r f [.slice none 0 0] [] fun w H => w = .bool true ∧ H = [] := h hf en r
set_option maxRecDepth 10000 in
set_option maxHeartbeats 1000000 in
theorem flatLimbs_nil (r : Hp) : Tri Tryz.prog r 53 [.slice none 0 0] [] fun w H => w = .bool true ∧ H = [] := flatNilLimbs Tryz.func53 Tryz.ntmps53 r
set_option maxRecDepth 10000 in
set_option maxHeartbeats 1000000 in
theorem flatWords_nil (r : Hp) : Tri Tryz.prog r 54 [.slice none 0 0] [] fun w H => w = .bool true ∧ H = [] := flatNilLimbs Tryz.func54 Tryz.ntmps54 r
set_option maxRecDepth 10000 in
set_option maxHeartbeats 1000000 in
theorem flatInts_nil (r : Hp) : Tri Tryz.prog r 55 [.slice none 0 0] [] fun w H => w = .bool true ∧ H = [] := flatNilInts Tryz.func55 Tryz.ntmps55 r
set_option maxRecDepth 10000 in
set_option maxHeartbeats 1000000 in
theorem flatLongs_nil (r : Hp) : Tri Tryz.prog r 56 [.slice none 0 0] [] fun w H => w = .bool true ∧ H = [] := flatNilInts Tryz.func56 Tryz.ntmps56 r
set_option maxRecDepth 10000 in
set_option maxHeartbeats 1000000 in
theorem flatTexts_nil (r : Hp) : Tri Tryz.prog r 57 [.slice none 0 0] [] fun w H => w = .bool true ∧ H = [] := flatNilInts Tryz.func57 Tryz.ntmps57 r
set_option maxRecDepth 10000 in
set_option maxHeartbeats 1000000 in
theorem flatTruths_nil (r : Hp) : Tri Tryz.prog r 59 [.slice none 0 0] [] fun w H => w = .bool true ∧ H = [] := flatNilTruths Tryz.func59 Tryz.ntmps59 r
set_option maxRecDepth 10000 in
set_option maxHeartbeats 1000000 in
theorem flatNodes_nil (r : Hp) : Tri Tryz.prog r 60 [.slice none 0 0] [] fun w H => w = .bool true ∧ H = [] := flatNilInts Tryz.func60 Tryz.ntmps60 r
set_option maxRecDepth 10000 in
set_option maxHeartbeats 1000000 in
theorem flatInsts_nil (r : Hp) : Tri Tryz.prog r 61 [.slice none 0 0] [] fun w H => w = .bool true ∧ H = [] := flatNilInts Tryz.func61 Tryz.ntmps61 r
set_option maxRecDepth 10000 in
set_option maxHeartbeats 1000000 in
theorem flatQueries_nil (r : Hp) : Tri Tryz.prog r 62 [.slice none 0 0] [] fun w H => w = .bool true ∧ H = [] := flatNilInts Tryz.func62 Tryz.ntmps62 r
set_option maxRecDepth 10000 in
set_option maxHeartbeats 1000000 in
theorem flatFiles_nil (r : Hp) : Tri Tryz.prog r 63 [.slice none 0 0] [] fun w H => w = .bool true ∧ H = [] := flatNilInts Tryz.func63 Tryz.ntmps63 r
set_option maxRecDepth 10000 in
set_option maxHeartbeats 1000000 in
theorem flatDocs_nil (r : Hp) : Tri Tryz.prog r 64 [.slice none 0 0] [] fun w H => w = .bool true ∧ H = [] := flatNilInts Tryz.func64 Tryz.ntmps64 r
set_option maxRecDepth 10000 in
set_option maxHeartbeats 1000000 in
theorem flatPlaces_nil (r : Hp) : Tri Tryz.prog r 65 [.slice none 0 0] [] fun w H => w = .bool true ∧ H = [] := flatNilInts Tryz.func65 Tryz.ntmps65 r
set_option maxRecDepth 10000 in
set_option maxHeartbeats 1000000 in
theorem flatPostings_nil (r : Hp) : Tri Tryz.prog r 66 [.slice none 0 0] [] fun w H => w = .bool true ∧ H = [] := flatNilInts Tryz.func66 Tryz.ntmps66 r
set_option maxRecDepth 10000 in
set_option maxHeartbeats 1000000 in
theorem flatShardRefs_nil (r : Hp) : Tri Tryz.prog r 67 [.slice none 0 0] [] fun w H => w = .bool true ∧ H = [] := flatNilInts Tryz.func67 Tryz.ntmps67 r
set_option maxRecDepth 10000 in
set_option maxHeartbeats 1000000 in
theorem flatManifests_nil (r : Hp) : Tri Tryz.prog r 68 [.slice none 0 0] [] fun w H => w = .bool true ∧ H = [] := flatNilInts Tryz.func68 Tryz.ntmps68 r
set_option maxRecDepth 10000 in
set_option maxHeartbeats 1000000 in
theorem flatAsks_nil (r : Hp) : Tri Tryz.prog r 69 [.slice none 0 0] [] fun w H => w = .bool true ∧ H = [] := flatNilInts Tryz.func69 Tryz.ntmps69 r
set_option maxRecDepth 10000 in
set_option maxHeartbeats 1000000 in
theorem flatHits_nil (r : Hp) : Tri Tryz.prog r 70 [.slice none 0 0] [] fun w H => w = .bool true ∧ H = [] := flatNilInts Tryz.func70 Tryz.ntmps70 r
set_option maxRecDepth 10000 in
set_option maxHeartbeats 1000000 in
theorem flatAnswers_nil (r : Hp) : Tri Tryz.prog r 71 [.slice none 0 0] [] fun w H => w = .bool true ∧ H = [] := flatNilInts Tryz.func71 Tryz.ntmps71 r
set_option maxRecDepth 10000 in
set_option maxHeartbeats 1000000 in
theorem flatParts_nil (r : Hp) : Tri Tryz.prog r 72 [.slice none 0 0] [] fun w H => w = .bool true ∧ H = [] := flatNilInts Tryz.func72 Tryz.ntmps72 r
set_option maxRecDepth 10000 in
set_option maxHeartbeats 1000000 in
theorem flatChanges_nil (r : Hp) : Tri Tryz.prog r 73 [.slice none 0 0] [] fun w H => w = .bool true ∧ H = [] := flatNilInts Tryz.func73 Tryz.ntmps73 r
end Go.Proofs.YtgodcegaffgfjaaGreatDoor

namespace Go.Proofs.YtgodcegaffgfjaaGreatDoor
open Go.RowKit Sx

/-- A bag that holds but rows of bytes. -/
abbrev bagO (w : Value) : Obj := .cells [.slice none 0 0, .slice none 0 0, .slice none 0 0, .slice none 0 0, .slice none 0 0, w, .slice none 0 0, .slice none 0 0, .slice none 0 0, .slice none 0 0, .slice none 0 0, .slice none 0 0, .slice none 0 0, .slice none 0 0, .slice none 0 0, .slice none 0 0, .slice none 0 0, .slice none 0 0, .slice none 0 0, .slice none 0 0, .slice none 0 0].toArray 84 (0, 0)
set_option maxRecDepth 10000 in
set_option maxHeartbeats 4000000 in
theorem apart_any (r : Hp) (g : Nat) (w : Value) (rows : List RowV) (hn : rows.length ≤ 1000000) (hl : ∀ x ∈ rows, x.l.length ≤ 100000000) : Tri Tryz.prog r 33 [.pointer (some ⟨g, 0, none⟩)] [pt g (bagO w), RowC 22 1 w rows.length (rows.flatMap encS), Fam rows.length (fb1 rows) (fb0 rows) 0] fun w H => w = .bool true ∧ H = [] := by
  refine Tri.free2 fun R HR => ?_
  refine fn_of_sw Tryz.func33 rfl _ rfl ?_; refine aen Tryz.ntmps33 ?_
  repeat' (first | refine aw0m ?_ | (refine ap2 ?_ ?_ <;> try intro h) | refine aw1m ?_ | (refine abx ?_; intro bb) | (refine abz ?_; intro bz) | (refine ahv ?_; intro v' hv') | (refine aac ?_; intro ac cc) | refine aw2 ?_ | (refine ap4 ?_ ?_ <;> try intro h) | apply True.intro)
  simp only [List.append_eq, List.cons_append, List.nil_append]
  repeat' (first | ((with_reducible apply kx_lendC (A := RowC 22 1 w rows.length (rows.flatMap encS))); (exact atk); intro r1 g1 hr1 hg1 hA1; (refine acl Tryz.func58 ?_; refine acr (flatBytes_any r1 w rows ⟨fun _ => rfl, hA1.sl hg1⟩ hn hl) ?_; rintro v' H' ⟨rfl, rfl⟩; all_goals refine apl ?_)) | (refine acl Tryz.func53 ?_; refine acr (flatLimbs_nil _) ?_; rintro v' H' ⟨rfl, rfl⟩; all_goals refine apl ?_) | (refine acl Tryz.func54 ?_; refine acr (flatWords_nil _) ?_; rintro v' H' ⟨rfl, rfl⟩; all_goals refine apl ?_) | (refine acl Tryz.func55 ?_; refine acr (flatInts_nil _) ?_; rintro v' H' ⟨rfl, rfl⟩; all_goals refine apl ?_) | (refine acl Tryz.func56 ?_; refine acr (flatLongs_nil _) ?_; rintro v' H' ⟨rfl, rfl⟩; all_goals refine apl ?_) | (refine acl Tryz.func57 ?_; refine acr (flatTexts_nil _) ?_; rintro v' H' ⟨rfl, rfl⟩; all_goals refine apl ?_) | (refine acl Tryz.func59 ?_; refine acr (flatTruths_nil _) ?_; rintro v' H' ⟨rfl, rfl⟩; all_goals refine apl ?_) | (refine acl Tryz.func60 ?_; refine acr (flatNodes_nil _) ?_; rintro v' H' ⟨rfl, rfl⟩; all_goals refine apl ?_) | (refine acl Tryz.func61 ?_; refine acr (flatInsts_nil _) ?_; rintro v' H' ⟨rfl, rfl⟩; all_goals refine apl ?_) | (refine acl Tryz.func62 ?_; refine acr (flatQueries_nil _) ?_; rintro v' H' ⟨rfl, rfl⟩; all_goals refine apl ?_) | (refine acl Tryz.func63 ?_; refine acr (flatFiles_nil _) ?_; rintro v' H' ⟨rfl, rfl⟩; all_goals refine apl ?_) | (refine acl Tryz.func64 ?_; refine acr (flatDocs_nil _) ?_; rintro v' H' ⟨rfl, rfl⟩; all_goals refine apl ?_) | (refine acl Tryz.func65 ?_; refine acr (flatPlaces_nil _) ?_; rintro v' H' ⟨rfl, rfl⟩; all_goals refine apl ?_) | (refine acl Tryz.func66 ?_; refine acr (flatPostings_nil _) ?_; rintro v' H' ⟨rfl, rfl⟩; all_goals refine apl ?_) | (refine acl Tryz.func67 ?_; refine acr (flatShardRefs_nil _) ?_; rintro v' H' ⟨rfl, rfl⟩; all_goals refine apl ?_) | (refine acl Tryz.func68 ?_; refine acr (flatManifests_nil _) ?_; rintro v' H' ⟨rfl, rfl⟩; all_goals refine apl ?_) | (refine acl Tryz.func69 ?_; refine acr (flatAsks_nil _) ?_; rintro v' H' ⟨rfl, rfl⟩; all_goals refine apl ?_) | (refine acl Tryz.func70 ?_; refine acr (flatHits_nil _) ?_; rintro v' H' ⟨rfl, rfl⟩; all_goals refine apl ?_) | (refine acl Tryz.func71 ?_; refine acr (flatAnswers_nil _) ?_; rintro v' H' ⟨rfl, rfl⟩; all_goals refine apl ?_) | (refine acl Tryz.func72 ?_; refine acr (flatParts_nil _) ?_; rintro v' H' ⟨rfl, rfl⟩; all_goals refine apl ?_) | (refine acl Tryz.func73 ?_; refine acr (flatChanges_nil _) ?_; rintro v' H' ⟨rfl, rfl⟩; all_goals refine apl ?_) | refine aw0 ?_ | (refine ap2 ?_ ?_ <;> try intro h) | refine aw1 ?_ | (refine abx ?_; intro bb) | (refine abz ?_; intro bz) | (refine ahv ?_; intro v' hv') | (refine aac ?_; intro ac cc) | refine aw2 ?_ | (refine ap4 ?_ ?_ <;> try intro h) | apply True.intro)
  ((with_reducible apply fp_ret); exact res_1 rfl rfl)
  exact HR.out _ _ _ [] (by (exact atks)) ⟨rfl, rfl⟩
end Go.Proofs.YtgodcegaffgfjaaGreatDoor
