
/- mudlarkkit: flat.. of no list: their contracts. mudlarkkit.ApartBytes: its contract. -/
import Derived.Test.YtkbajhiahpkgiaaGreatKi
import Derived.Test.YtkbajhiahpkgiaaGreatFb
namespace Go.Proofs.YtkbajhiahpkgiaaGreat
open Go.RowKit Sx

set_option maxRecDepth 10000 in
set_option maxHeartbeats 1000000 in
theorem flatNilLimbs {f : FuncId} {fn : Func} (hf : Tryz.prog.funcs[f]? = some fn) (en : fn.ntmps = 200) (r : Hp) (h : Tryz.prog.funcs[f]? = some fn → fn.ntmps = 200 → ∀ r, Tri Tryz.prog r f [.slice none 0 0] [] fun w H => w = .bool true ∧ H = [] := by
  intro hf en r
  refine Tri.free2 fun R HR => ?_
  refine fn_of_sw hf rfl _ rfl ?_; refine aen en ?_
  repeat' (first | refine aw0m ?_ | (refine ap2 ?_ ?_ <;> try intro h) | refine aw1m ?_ | (refine abx ?_; intro bb) | (refine abz ?_; intro bz) | (refine ahv ?_; intro v' hv') | (refine aac ?_; intro ac cc) | refine aw2 ?_ | (refine ap4 ?_ ?_ <;> try intro h) | apply True.intro)
  refine sw_loop (fun gm t H' => gm = 1 ∧ (∃ G, Takes [] H' G) ∧ Sls t 200 [(0, .slice none 0 0), (3, .int .i64 0)]) _ ⟨rfl, ⟨[], atks⟩, asls⟩ ?_
  rintro gm t H' ⟨rfl, ⟨G, hp⟩, hs'⟩
  revert t; refine sls_all ?_; iterate 198 intro uu'
  refine sw_takeG hp ?_; clear hp
  repeat' (first | ((with_reducible apply kx_make0 (c := 0)); exact ty_el; exact ty_inf; rfl; rfl; (omega); (omega); intro bm; (refine apk ?_)) | refine aw0 ?_ | (refine ap2 ?_ ?_ <;> try intro h) | refine aw1 ?_ | (refine abx ?_; intro bb) | (refine abz ?_; intro bz) | (refine ahv ?_; intro v' hv') | (refine aac ?_; intro ac cc) | refine aw2 ?_ | (refine ap4 ?_ ?_ <;> try intro h) | apply True.intro)
  refine sw_loop (fun gm t H' => gm = 1 ∧ (∃ G, Takes [] H' G) ∧ Sls t 200 [(0, .slice none 0 0), (5, .slice (some ⟨bm, 0, none⟩) 0 0), (6, .int .i64 0)]) _ ⟨rfl, ⟨_, atks⟩, asls⟩ ?_
  rintro gm t H' ⟨rfl, ⟨G, hp⟩, hs'⟩
  revert t; refine sls_all ?_; iterate 197 intro uu'
  refine sw_takeG hp ?_; clear hp
  repeat' (first | refine aw0m ?_ | (refine ap2 ?_ ?_ <;> try intro h) | refine aw1m ?_ | (refine abx ?_; intro bb) | (refine abz ?_; intro bz) | (refine ahv ?_; intro v' hv') | (refine aac ?_; intro ac cc) | refine aw2 ?_ | (refine ap4 ?_ ?_ <;> try intro h) | apply True.intro)
  refine sw_loop (fun gm t H' => gm = 1 ∧ (∃ G, Takes [] H' G) ∧ Sls t 200 [(0, .slice none 0 0), (5, .slice (some ⟨bm, 0, none⟩) 0 0), (9, .int .i64 0)]) _ ⟨rfl, ⟨_, atks⟩, asls⟩ ?_
  rintro gm t H' ⟨rfl, ⟨G, hp⟩, hs'⟩
  revert t; refine sls_all ?_; iterate 197 intro uu'
  refine sw_takeG hp ?_; clear hp
  repeat' (first | refine aw0m ?_ | (refine ap2 ?_ ?_ <;> try intro h) | refine aw1m ?_ | (refine abx ?_; intro bb) | (refine abz ?_; intro bz) | (refine ahv ?_; intro v' hv') | (refine aac ?_; intro ac cc) | refine aw2 ?_ | (refine ap4 ?_ ?_ <;> try intro h) | apply True.intro)
  refine sw_loop (fun gm t H' => gm = 1 ∧ (∃ G, Takes [] H' G) ∧ Sls t 200 [(0, .slice none 0 0), (5, .slice (some ⟨bm, 0, none⟩) 0 0), (11, .int .i64 0)]) _ ⟨rfl, ⟨_, atks⟩, asls⟩ ?_
  rintro gm t H' ⟨rfl, ⟨G, hp⟩, hs'⟩
  revert t; refine sls_all ?_; iterate 197 intro uu'
  refine sw_takeG hp ?_; clear hp
  repeat' (first | refine aw0m ?_ | (refine ap2 ?_ ?_ <;> try intro h) | refine aw1m ?_ | (refine abx ?_; intro bb) | (refine abz ?_; intro bz) | (refine ahv ?_; intro v' hv') | (refine aac ?_; intro ac cc) | refine aw2 ?_ | (refine ap4 ?_ ?_ <;> try intro h) | apply True.intro)
  refine sw_loop (fun gm t H' => gm = 1 ∧ (∃ G, Takes [] H' G) ∧ Sls t 200 [(0, .slice none 0 0), (5, .slice (some ⟨bm, 0, none⟩) 0 0), (14, .int .i64 0)]) _ ⟨rfl, ⟨_, atks⟩, asls⟩ ?_
  rintro gm t H' ⟨rfl, ⟨G, hp⟩, hs'⟩
  revert t; refine sls_all ?_; iterate 197 intro uu'
  refine sw_takeG hp ?_; clear hp
  repeat' (first | refine aw0m ?_ | (refine ap2 ?_ ?_ <;> try intro h) | refine aw1m ?_ | (refine abx ?_; intro bb) | (refine abz ?_; intro bz) | (refine ahv ?_; intro v' hv') | (refine aac ?_; intro ac cc) | refine aw2 ?_ | (refine ap4 ?_ ?_ <;> try intro h) | apply True.intro)
  ((with_reducible apply fp_ret); exact res_1 rfl rfl)
  exact HR.out _ _ _ [] atks ⟨rfl, rfl⟩) : Tri Tryz.prog r f [.slice none 0 0] [] fun w H => w = .bool true ∧ H = [] := h hf en r
set_option maxRecDepth 10000 in
set_option maxHeartbeats 1000000 in
theorem flatNilInts {f : FuncId} {fn : Func} (hf : Tryz.prog.funcs[f]? = some fn) (en : fn.ntmps = 193) (r : Hp) (h : Tryz.prog.funcs[f]? = some fn → fn.ntmps = 193 → ∀ r, Tri Tryz.prog r f [.slice none 0 0] [] fun w H => w = .bool true ∧ H = [] := by
  intro hf en r
  refine Tri.free2 fun R HR => ?_
  refine fn_of_sw hf rfl _ rfl ?_; refine aen en ?_
  repeat' (first | refine aw0m ?_ | (refine ap2 ?_ ?_ <;> try intro h) | refine aw1m ?_ | (refine abx ?_; intro bb) | (refine abz ?_; intro bz) | (refine ahv ?_; intro v' hv') | (refine aac ?_; intro ac cc) | refine aw2 ?_ | (refine ap4 ?_ ?_ <;> try intro h) | apply True.intro)
  refine sw_loop (fun gm t H' => gm = 1 ∧ (∃ G, Takes [] H' G) ∧ Sls t 193 [(0, .slice none 0 0), (3, .int .i64 0)]) _ ⟨rfl, ⟨[], atks⟩, asls⟩ ?_
  rintro gm t H' ⟨rfl, ⟨G, hp⟩, hs'⟩
  revert t; refine sls_all ?_; iterate 191 intro uu'
  refine sw_takeG hp ?_; clear hp
  repeat' (first | ((with_reducible apply kx_make0 (c := 0)); exact ty_el; exact ty_inf; rfl; rfl; (omega); (omega); intro bm; (refine apk ?_)) | refine aw0 ?_ | (refine ap2 ?_ ?_ <;> try intro h) | refine aw1 ?_ | (refine abx ?_; intro bb) | (refine abz ?_; intro bz) | (refine ahv ?_; intro v' hv') | (refine aac ?_; intro ac cc) | refine aw2 ?_ | (refine ap4 ?_ ?_ <;> try intro h) | apply True.intro)
  refine sw_loop (fun gm t H' => gm = 1 ∧ (∃ G, Takes [] H' G) ∧ Sls t 193 [(0, .slice none 0 0), (5, .slice (some ⟨bm, 0, none⟩) 0 0), (6, .int .i64 0)]) _ ⟨rfl, ⟨_, atks⟩, asls⟩ ?_
  rintro gm t H' ⟨rfl, ⟨G, hp⟩, hs'⟩
  revert t; refine sls_all ?_; iterate 190 intro uu'
  refine sw_takeG hp ?_; clear hp
  repeat' (first | refine aw0m ?_ | (refine ap2 ?_ ?_ <;> try intro h) | refine aw1m ?_ | (refine abx ?_; intro bb) | (refine abz ?_; intro bz) | (refine ahv ?_; intro v' hv') | (refine aac ?_; intro ac cc) | refine aw2 ?_ | (refine ap4 ?_ ?_ <;> try intro h) | apply True.intro)
  refine sw_loop (fun gm t H' => gm = 1 ∧ (∃ G, Takes [] H' G) ∧ Sls t 193 [(0, .slice none 0 0), (5, .slice (some ⟨bm, 0, none⟩) 0 0), (9, .int .i64 0)]) _ ⟨rfl, ⟨_, atks⟩, asls⟩ ?_
  rintro gm t H' ⟨rfl, ⟨G, hp⟩, hs'⟩
  revert t; refine sls_all ?_; iterate 190 intro uu'
  refine sw_takeG hp ?_; clear hp
  repeat' (first | refine aw0m ?_ | (refine ap2 ?_ ?_ <;> try intro h) | refine aw1m ?_ | (refine abx ?_; intro bb) | (refine abz ?_; intro bz) | (refine ahv ?_; intro v' hv') | (refine aac ?_; intro ac cc) | refine aw2 ?_ | (refine ap4 ?_ ?_ <;> try intro h) | apply True.intro)
  refine sw_loop (fun gm t H' => gm = 1 ∧ (∃ G, Takes [] H' G) ∧ Sls t 193 [(0, .slice none 0 0), (5, .slice (some ⟨bm, 0, none⟩) 0 0), (11, .int .i64 0)]) _ ⟨rfl, ⟨_, atks⟩, asls⟩ ?_
  rintro gm t H' ⟨rfl, ⟨G, hp⟩, hs'⟩
  revert t; refine sls_all ?_; iterate 190 intro uu'
  refine sw_takeG hp ?_; clear hp
  repeat' (first | refine aw0m ?_ | (refine ap2 ?_ ?_ <;> try intro h) | refine aw1m ?_ | (refine abx ?_; intro bb) | (refine abz ?_; intro bz) | (refine ahv ?_; intro v' hv') | (refine aac ?_; intro ac cc) | refine aw2 ?_ | (refine ap4 ?_ ?_ <;> try intro h) | apply True.intro)
  refine sw_loop (fun gm t H' => gm = 1 ∧ (∃ G, Takes [] H' G) ∧ Sls t 193 [(0, .slice none 0 0), (5, .slice (some ⟨bm, 0, none⟩) 0 0), (14, .int .i64 0)]) _ ⟨rfl, ⟨_, atks⟩, asls⟩ ?_
  rintro gm t H' ⟨rfl, ⟨G, hp⟩, hs'⟩
  revert t; refine sls_all ?_; iterate 190 intro uu'
  refine sw_takeG hp ?_; clear hp
  repeat' (first | refine aw0m ?_ | (refine ap2 ?_ ?_ <;> try intro h) | refine aw1m ?_ | (refine abx ?_; intro bb) | (refine abz ?_; intro bz) | (refine ahv ?_; intro v' hv') | (refine aac ?_; intro ac cc) | refine aw2 ?_ | (refine ap4 ?_ ?_ <;> try intro h) | apply True.intro)
  ((with_reducible apply fp_ret); exact res_1 rfl rfl)
  exact HR.out _ _ _ [] atks ⟨rfl, rfl⟩) : Tri Tryz.prog r f [.slice none 0 0] [] fun w H => w = .bool true ∧ H = [] := h hf en r
set_option maxRecDepth 10000 in
set_option maxHeartbeats 1000000 in
theorem flatNilTruths {f : FuncId} {fn : Func} (hf : Tryz.prog.funcs[f]? = some fn) (en : fn.ntmps = 207) (r : Hp) (h : Tryz.prog.funcs[f]? = some fn → fn.ntmps = 207 → ∀ r, Tri Tryz.prog r f [.slice none 0 0] [] fun w H => w = .bool true ∧ H = [] := by
  intro hf en r
  refine Tri.free2 fun R HR => ?_
  refine fn_of_sw hf rfl _ rfl ?_; refine aen en ?_
  repeat' (first | refine aw0m ?_ | (refine ap2 ?_ ?_ <;> try intro h) | refine aw1m ?_ | (refine abx ?_; intro bb) | (refine abz ?_; intro bz) | (refine ahv ?_; intro v' hv') | (refine aac ?_; intro ac cc) | refine aw2 ?_ | (refine ap4 ?_ ?_ <;> try intro h) | apply True.intro)
  refine sw_loop (fun gm t H' => gm = 1 ∧ (∃ G, Takes [] H' G) ∧ Sls t 207 [(0, .slice none 0 0), (3, .int .i64 0)]) _ ⟨rfl, ⟨[], atks⟩, asls⟩ ?_
  rintro gm t H' ⟨rfl, ⟨G, hp⟩, hs'⟩
  revert t; refine sls_all ?_; iterate 205 intro uu'
  refine sw_takeG hp ?_; clear hp
  repeat' (first | ((with_reducible apply kx_make0 (c := 0)); exact ty_el; exact ty_inf; rfl; rfl; (omega); (omega); intro bm; (refine apk ?_)) | refine aw0 ?_ | (refine ap2 ?_ ?_ <;> try intro h) | refine aw1 ?_ | (refine abx ?_; intro bb) | (refine abz ?_; intro bz) | (refine ahv ?_; intro v' hv') | (refine aac ?_; intro ac cc) | refine aw2 ?_ | (refine ap4 ?_ ?_ <;> try intro h) | apply True.intro)
  refine sw_loop (fun gm t H' => gm = 1 ∧ (∃ G, Takes [] H' G) ∧ Sls t 207 [(0, .slice none 0 0), (5, .slice (some ⟨bm, 0, none⟩) 0 0), (6, .int .i64 0)]) _ ⟨rfl, ⟨_, atks⟩, asls⟩ ?_
  rintro gm t H' ⟨rfl, ⟨G, hp⟩, hs'⟩
  revert t; refine sls_all ?_; iterate 204 intro uu'
  refine sw_takeG hp ?_; clear hp
  repeat' (first | refine aw0m ?_ | (refine ap2 ?_ ?_ <;> try intro h) | refine aw1m ?_ | (refine abx ?_; intro bb) | (refine abz ?_; intro bz) | (refine ahv ?_; intro v' hv') | (refine aac ?_; intro ac cc) | refine aw2 ?_ | (refine ap4 ?_ ?_ <;> try intro h) | apply True.intro)
  refine sw_loop (fun gm t H' => gm = 1 ∧ (∃ G, Takes [] H' G) ∧ Sls t 207 [(0, .slice none 0 0), (5, .slice (some ⟨bm, 0, none⟩) 0 0), (9, .int .i64 0)]) _ ⟨rfl, ⟨_, atks⟩, asls⟩ ?_
  rintro gm t H' ⟨rfl, ⟨G, hp⟩, hs'⟩
  revert t; refine sls_all ?_; iterate 204 intro uu'
  refine sw_takeG hp ?_; clear hp
  repeat' (first | refine aw0m ?_ | (refine ap2 ?_ ?_ <;> try intro h) | refine aw1m ?_ | (refine abx ?_; intro bb) | (refine abz ?_; intro bz) | (refine ahv ?_; intro v' hv') | (refine aac ?_; intro ac cc) | refine aw2 ?_ | (refine ap4 ?_ ?_ <;> try intro h) | apply True.intro)
  refine sw_loop (fun gm t H' => gm = 1 ∧ (∃ G, Takes [] H' G) ∧ Sls t 207 [(0, .slice none 0 0), (5, .slice (some ⟨bm, 0, none⟩) 0 0), (11, .int .i64 0)]) _ ⟨rfl, ⟨_, atks⟩, asls⟩ ?_
  rintro gm t H' ⟨rfl, ⟨G, hp⟩, hs'⟩
  revert t; refine sls_all ?_; iterate 204 intro uu'
  refine sw_takeG hp ?_; clear hp
  repeat' (first | refine aw0m ?_ | (refine ap2 ?_ ?_ <;> try intro h) | refine aw1m ?_ | (refine abx ?_; intro bb) | (refine abz ?_; intro bz) | (refine ahv ?_; intro v' hv') | (refine aac ?_; intro ac cc) | refine aw2 ?_ | (refine ap4 ?_ ?_ <;> try intro h) | apply True.intro)
  refine sw_loop (fun gm t H' => gm = 1 ∧ (∃ G, Takes [] H' G) ∧ Sls t 207 [(0, .slice none 0 0), (5, .slice (some ⟨bm, 0, none⟩) 0 0), (14, .int .i64 0)]) _ ⟨rfl, ⟨_, atks⟩, asls⟩ ?_
  rintro gm t H' ⟨rfl, ⟨G, hp⟩, hs'⟩
  revert t; refine sls_all ?_; iterate 204 intro uu'
  refine sw_takeG hp ?_; clear hp
  repeat' (first | refine aw0m ?_ | (refine ap2 ?_ ?_ <;> try intro h) | refine aw1m ?_ | (refine abx ?_; intro bb) | (refine abz ?_; intro bz) | (refine ahv ?_; intro v' hv') | (refine aac ?_; intro ac cc) | refine aw2 ?_ | (refine ap4 ?_ ?_ <;> try intro h) | apply True.intro)
  ((with_reducible apply fp_ret); exact res_1 rfl rfl)
  exact HR.out _ _ _ [] atks ⟨rfl, rfl⟩) : Tri Tryz.prog r f [.slice none 0 0] [] fun w H => w = .bool true ∧ H = [] := h hf en r
set_option maxRecDepth 10000 in
set_option maxHeartbeats 1000000 in
theorem flatLimbs_nil (r : Hp) : Tri Tryz.prog r 74 [.slice none 0 0] [] fun w H => w = .bool true ∧ H = [] := flatNilLimbs Tryz.func74 Tryz.ntmps74 r
set_option maxRecDepth 10000 in
set_option maxHeartbeats 1000000 in
theorem flatWords_nil (r : Hp) : Tri Tryz.prog r 75 [.slice none 0 0] [] fun w H => w = .bool true ∧ H = [] := flatNilLimbs Tryz.func75 Tryz.ntmps75 r
set_option maxRecDepth 10000 in
set_option maxHeartbeats 1000000 in
theorem flatInts_nil (r : Hp) : Tri Tryz.prog r 76 [.slice none 0 0] [] fun w H => w = .bool true ∧ H = [] := flatNilInts Tryz.func76 Tryz.ntmps76 r
set_option maxRecDepth 10000 in
set_option maxHeartbeats 1000000 in
theorem flatLongs_nil (r : Hp) : Tri Tryz.prog r 77 [.slice none 0 0] [] fun w H => w = .bool true ∧ H = [] := flatNilInts Tryz.func77 Tryz.ntmps77 r
set_option maxRecDepth 10000 in
set_option maxHeartbeats 1000000 in
theorem flatTexts_nil (r : Hp) : Tri Tryz.prog r 78 [.slice none 0 0] [] fun w H => w = .bool true ∧ H = [] := flatNilInts Tryz.func78 Tryz.ntmps78 r
set_option maxRecDepth 10000 in
set_option maxHeartbeats 1000000 in
theorem flatTruths_nil (r : Hp) : Tri Tryz.prog r 80 [.slice none 0 0] [] fun w H => w = .bool true ∧ H = [] := flatNilTruths Tryz.func80 Tryz.ntmps80 r
set_option maxRecDepth 10000 in
set_option maxHeartbeats 1000000 in
theorem flatNodes_nil (r : Hp) : Tri Tryz.prog r 81 [.slice none 0 0] [] fun w H => w = .bool true ∧ H = [] := flatNilInts Tryz.func81 Tryz.ntmps81 r
set_option maxRecDepth 10000 in
set_option maxHeartbeats 1000000 in
theorem flatInsts_nil (r : Hp) : Tri Tryz.prog r 82 [.slice none 0 0] [] fun w H => w = .bool true ∧ H = [] := flatNilInts Tryz.func82 Tryz.ntmps82 r
set_option maxRecDepth 10000 in
set_option maxHeartbeats 1000000 in
theorem flatQueries_nil (r : Hp) : Tri Tryz.prog r 83 [.slice none 0 0] [] fun w H => w = .bool true ∧ H = [] := flatNilInts Tryz.func83 Tryz.ntmps83 r
set_option maxRecDepth 10000 in
set_option maxHeartbeats 1000000 in
theorem flatFiles_nil (r : Hp) : Tri Tryz.prog r 84 [.slice none 0 0] [] fun w H => w = .bool true ∧ H = [] := flatNilInts Tryz.func84 Tryz.ntmps84 r
set_option maxRecDepth 10000 in
set_option maxHeartbeats 1000000 in
theorem flatDocs_nil (r : Hp) : Tri Tryz.prog r 85 [.slice none 0 0] [] fun w H => w = .bool true ∧ H = [] := flatNilInts Tryz.func85 Tryz.ntmps85 r
set_option maxRecDepth 10000 in
set_option maxHeartbeats 1000000 in
theorem flatShardRefs_nil (r : Hp) : Tri Tryz.prog r 88 [.slice none 0 0] [] fun w H => w = .bool true ∧ H = [] := flatNilInts Tryz.func88 Tryz.ntmps88 r
set_option maxRecDepth 10000 in
set_option maxHeartbeats 1000000 in
theorem flatManifests_nil (r : Hp) : Tri Tryz.prog r 89 [.slice none 0 0] [] fun w H => w = .bool true ∧ H = [] := flatNilInts Tryz.func89 Tryz.ntmps89 r
set_option maxRecDepth 10000 in
set_option maxHeartbeats 1000000 in
theorem flatAsks_nil (r : Hp) : Tri Tryz.prog r 90 [.slice none 0 0] [] fun w H => w = .bool true ∧ H = [] := flatNilInts Tryz.func90 Tryz.ntmps90 r
set_option maxRecDepth 10000 in
set_option maxHeartbeats 1000000 in
theorem flatHits_nil (r : Hp) : Tri Tryz.prog r 91 [.slice none 0 0] [] fun w H => w = .bool true ∧ H = [] := flatNilInts Tryz.func91 Tryz.ntmps91 r
set_option maxRecDepth 10000 in
set_option maxHeartbeats 1000000 in
theorem flatAnswers_nil (r : Hp) : Tri Tryz.prog r 92 [.slice none 0 0] [] fun w H => w = .bool true ∧ H = [] := flatNilInts Tryz.func92 Tryz.ntmps92 r
set_option maxRecDepth 10000 in
set_option maxHeartbeats 1000000 in
theorem flatParts_nil (r : Hp) : Tri Tryz.prog r 93 [.slice none 0 0] [] fun w H => w = .bool true ∧ H = [] := flatNilInts Tryz.func93 Tryz.ntmps93 r
set_option maxRecDepth 10000 in
set_option maxHeartbeats 1000000 in
theorem flatChanges_nil (r : Hp) : Tri Tryz.prog r 94 [.slice none 0 0] [] fun w H => w = .bool true ∧ H = [] := flatNilInts Tryz.func94 Tryz.ntmps94 r
end Go.Proofs.YtkbajhiahpkgiaaGreat

namespace Go.Proofs.YtkbajhiahpkgiaaGreat
open Go.RowKit Sx

end Go.Proofs.YtkbajhiahpkgiaaGreat
