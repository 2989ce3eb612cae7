/- mudlarkkit: flat.. of no list: their contracts. mudlarkkit.ApartBytes: its contract. -/
import Derived.Test.YtohpeoakdgckfaaGreatRx
import Derived.Test.YtohpeoakdgckfaaGreatFb
set_option maxHeartbeats 4000000
set_option maxRecDepth 10000
namespace Go.Proofs.YtohpeoakdgckfaaGreat
open Go.RowKit Sx
theorem flatNilLimbs {f:FuncId} {fn:Func} (hf:Tryz.prog.funcs[f]?=some fn) (en:fn.ntmps=200) (r:Hp) (h:Tryz.prog.funcs[f]?=some fn->fn.ntmps=200 -> ∀ r,Tri Tryz.prog r f [.slice none 0 0] [] fun w H=>w = .bool true/\H=[]:=by
 intro hf en r
 refine Tri.free2 fun R HR=>?_
 refine fn_of_sw hf rfl _ rfl ?_;refine aen en ?_
 repeat' (first|refine aw0m ?_|(refine ap2 ?_ ?_<;>try intro h)|refine aw1m ?_|(refine abx ?_;intro bb)|(refine abz ?_;intro bz)|(refine ahv ?_;intro v' hv')|(refine aac ?_;intro ac cc)|refine aw2 ?_|(refine ap4 ?_ ?_<;>try intro h)|apply True.intro)
 refine sw_loop (fun gm t H'=>gm=1/\(∃ G,Takes [] H' G)/\Sls t 200 [(0,.slice none 0 0),(3,.int .i64 0)]) _ ⟨rfl,⟨[],atks⟩,asls⟩ ?_
 rintro gm t H' ⟨rfl,⟨G,hp⟩,hs'⟩
 revert t;refine sls_all ?_;iterate 198 intro uu'
 refine sw_takeG hp ?_;clear hp
 repeat' (first|((with_reducible apply kx_make0 (c:=0));exact ty_el;exact ty_inf;rfl;rfl;(omega);(omega);intro bm;(refine apk ?_))|refine aw0 ?_|(refine ap2 ?_ ?_<;>try intro h)|refine aw1 ?_|(refine abx ?_;intro bb)|(refine abz ?_;intro bz)|(refine ahv ?_;intro v' hv')|(refine aac ?_;intro ac cc)|refine aw2 ?_|(refine ap4 ?_ ?_<;>try intro h)|apply True.intro)
 refine sw_loop (fun gm t H'=>gm=1/\(∃ G,Takes [] H' G)/\Sls t 200 [(0,.slice none 0 0),(5,.slice (some ⟨bm,0,none⟩) 0 0),(6,.int .i64 0)]) _ ⟨rfl,⟨_,atks⟩,asls⟩ ?_
 rintro gm t H' ⟨rfl,⟨G,hp⟩,hs'⟩
 revert t;refine sls_all ?_;iterate 197 intro uu'
 refine sw_takeG hp ?_;clear hp
 repeat' (first|refine aw0m ?_|(refine ap2 ?_ ?_<;>try intro h)|refine aw1m ?_|(refine abx ?_;intro bb)|(refine abz ?_;intro bz)|(refine ahv ?_;intro v' hv')|(refine aac ?_;intro ac cc)|refine aw2 ?_|(refine ap4 ?_ ?_<;>try intro h)|apply True.intro)
 refine sw_loop (fun gm t H'=>gm=1/\(∃ G,Takes [] H' G)/\Sls t 200 [(0,.slice none 0 0),(5,.slice (some ⟨bm,0,none⟩) 0 0),(9,.int .i64 0)]) _ ⟨rfl,⟨_,atks⟩,asls⟩ ?_
 rintro gm t H' ⟨rfl,⟨G,hp⟩,hs'⟩
 revert t;refine sls_all ?_;iterate 197 intro uu'
 refine sw_takeG hp ?_;clear hp
 repeat' (first|refine aw0m ?_|(refine ap2 ?_ ?_<;>try intro h)|refine aw1m ?_|(refine abx ?_;intro bb)|(refine abz ?_;intro bz)|(refine ahv ?_;intro v' hv')|(refine aac ?_;intro ac cc)|refine aw2 ?_|(refine ap4 ?_ ?_<;>try intro h)|apply True.intro)
 refine sw_loop (fun gm t H'=>gm=1/\(∃ G,Takes [] H' G)/\Sls t 200 [(0,.slice none 0 0),(5,.slice (some ⟨bm,0,none⟩) 0 0),(11,.int .i64 0)]) _ ⟨rfl,⟨_,atks⟩,asls⟩ ?_
 rintro gm t H' ⟨rfl,⟨G,hp⟩,hs'⟩
 revert t;refine sls_all ?_;iterate 197 intro uu'
 refine sw_takeG hp ?_;clear hp
 repeat' (first|refine aw0m ?_|(refine ap2 ?_ ?_<;>try intro h)|refine aw1m ?_|(refine abx ?_;intro bb)|(refine abz ?_;intro bz)|(refine ahv ?_;intro v' hv')|(refine aac ?_;intro ac cc)|refine aw2 ?_|(refine ap4 ?_ ?_<;>try intro h)|apply True.intro)
 refine sw_loop (fun gm t H'=>gm=1/\(∃ G,Takes [] H' G)/\Sls t 200 [(0,.slice none 0 0),(5,.slice (some ⟨bm,0,none⟩) 0 0),(14,.int .i64 0)]) _ ⟨rfl,⟨_,atks⟩,asls⟩ ?_
 rintro gm t H' ⟨rfl,⟨G,hp⟩,hs'⟩
 revert t;refine sls_all ?_;iterate 197 intro uu'
 refine sw_takeG hp ?_;clear hp
 repeat' (first|refine aw0m ?_|(refine ap2 ?_ ?_<;>try intro h)|refine aw1m ?_|(refine abx ?_;intro bb)|(refine abz ?_;intro bz)|(refine ahv ?_;intro v' hv')|(refine aac ?_;intro ac cc)|refine aw2 ?_|(refine ap4 ?_ ?_<;>try intro h)|apply True.intro)
 ((with_reducible apply fp_ret);exact res_1 rfl rfl)
 exact HR.out _ _ _ [] atks ⟨rfl,rfl⟩):Tri Tryz.prog r f [.slice none 0 0] [] fun w H=>w = .bool true/\H=[]:=h hf en r
theorem flatNilInts {f:FuncId} {fn:Func} (hf:Tryz.prog.funcs[f]?=some fn) (en:fn.ntmps=193) (r:Hp) (h:Tryz.prog.funcs[f]?=some fn->fn.ntmps=193 -> ∀ r,Tri Tryz.prog r f [.slice none 0 0] [] fun w H=>w = .bool true/\H=[]:=by
 intro hf en r
 refine Tri.free2 fun R HR=>?_
 refine fn_of_sw hf rfl _ rfl ?_;refine aen en ?_
 repeat' (first|refine aw0m ?_|(refine ap2 ?_ ?_<;>try intro h)|refine aw1m ?_|(refine abx ?_;intro bb)|(refine abz ?_;intro bz)|(refine ahv ?_;intro v' hv')|(refine aac ?_;intro ac cc)|refine aw2 ?_|(refine ap4 ?_ ?_<;>try intro h)|apply True.intro)
 refine sw_loop (fun gm t H'=>gm=1/\(∃ G,Takes [] H' G)/\Sls t 193 [(0,.slice none 0 0),(3,.int .i64 0)]) _ ⟨rfl,⟨[],atks⟩,asls⟩ ?_
 rintro gm t H' ⟨rfl,⟨G,hp⟩,hs'⟩
 revert t;refine sls_all ?_;iterate 191 intro uu'
 refine sw_takeG hp ?_;clear hp
 repeat' (first|((with_reducible apply kx_make0 (c:=0));exact ty_el;exact ty_inf;rfl;rfl;(omega);(omega);intro bm;(refine apk ?_))|refine aw0 ?_|(refine ap2 ?_ ?_<;>try intro h)|refine aw1 ?_|(refine abx ?_;intro bb)|(refine abz ?_;intro bz)|(refine ahv ?_;intro v' hv')|(refine aac ?_;intro ac cc)|refine aw2 ?_|(refine ap4 ?_ ?_<;>try intro h)|apply True.intro)
 refine sw_loop (fun gm t H'=>gm=1/\(∃ G,Takes [] H' G)/\Sls t 193 [(0,.slice none 0 0),(5,.slice (some ⟨bm,0,none⟩) 0 0),(6,.int .i64 0)]) _ ⟨rfl,⟨_,atks⟩,asls⟩ ?_
 rintro gm t H' ⟨rfl,⟨G,hp⟩,hs'⟩
 revert t;refine sls_all ?_;iterate 190 intro uu'
 refine sw_takeG hp ?_;clear hp
 repeat' (first|refine aw0m ?_|(refine ap2 ?_ ?_<;>try intro h)|refine aw1m ?_|(refine abx ?_;intro bb)|(refine abz ?_;intro bz)|(refine ahv ?_;intro v' hv')|(refine aac ?_;intro ac cc)|refine aw2 ?_|(refine ap4 ?_ ?_<;>try intro h)|apply True.intro)
 refine sw_loop (fun gm t H'=>gm=1/\(∃ G,Takes [] H' G)/\Sls t 193 [(0,.slice none 0 0),(5,.slice (some ⟨bm,0,none⟩) 0 0),(9,.int .i64 0)]) _ ⟨rfl,⟨_,atks⟩,asls⟩ ?_
 rintro gm t H' ⟨rfl,⟨G,hp⟩,hs'⟩
 revert t;refine sls_all ?_;iterate 190 intro uu'
 refine sw_takeG hp ?_;clear hp
 repeat' (first|refine aw0m ?_|(refine ap2 ?_ ?_<;>try intro h)|refine aw1m ?_|(refine abx ?_;intro bb)|(refine abz ?_;intro bz)|(refine ahv ?_;intro v' hv')|(refine aac ?_;intro ac cc)|refine aw2 ?_|(refine ap4 ?_ ?_<;>try intro h)|apply True.intro)
 refine sw_loop (fun gm t H'=>gm=1/\(∃ G,Takes [] H' G)/\Sls t 193 [(0,.slice none 0 0),(5,.slice (some ⟨bm,0,none⟩) 0 0),(11,.int .i64 0)]) _ ⟨rfl,⟨_,atks⟩,asls⟩ ?_
 rintro gm t H' ⟨rfl,⟨G,hp⟩,hs'⟩
 revert t;refine sls_all ?_;iterate 190 intro uu'
 refine sw_takeG hp ?_;clear hp
 repeat' (first|refine aw0m ?_|(refine ap2 ?_ ?_<;>try intro h)|refine aw1m ?_|(refine abx ?_;intro bb)|(refine abz ?_;intro bz)|(refine ahv ?_;intro v' hv')|(refine aac ?_;intro ac cc)|refine aw2 ?_|(refine ap4 ?_ ?_<;>try intro h)|apply True.intro)
 refine sw_loop (fun gm t H'=>gm=1/\(∃ G,Takes [] H' G)/\Sls t 193 [(0,.slice none 0 0),(5,.slice (some ⟨bm,0,none⟩) 0 0),(14,.int .i64 0)]) _ ⟨rfl,⟨_,atks⟩,asls⟩ ?_
 rintro gm t H' ⟨rfl,⟨G,hp⟩,hs'⟩
 revert t;refine sls_all ?_;iterate 190 intro uu'
 refine sw_takeG hp ?_;clear hp
 repeat' (first|refine aw0m ?_|(refine ap2 ?_ ?_<;>try intro h)|refine aw1m ?_|(refine abx ?_;intro bb)|(refine abz ?_;intro bz)|(refine ahv ?_;intro v' hv')|(refine aac ?_;intro ac cc)|refine aw2 ?_|(refine ap4 ?_ ?_<;>try intro h)|apply True.intro)
 ((with_reducible apply fp_ret);exact res_1 rfl rfl)
 exact HR.out _ _ _ [] atks ⟨rfl,rfl⟩):Tri Tryz.prog r f [.slice none 0 0] [] fun w H=>w = .bool true/\H=[]:=h hf en r
theorem flatNilTruths {f:FuncId} {fn:Func} (hf:Tryz.prog.funcs[f]?=some fn) (en:fn.ntmps=207) (r:Hp) (h:Tryz.prog.funcs[f]?=some fn->fn.ntmps=207 -> ∀ r,Tri Tryz.prog r f [.slice none 0 0] [] fun w H=>w = .bool true/\H=[]:=by
 intro hf en r
 refine Tri.free2 fun R HR=>?_
 refine fn_of_sw hf rfl _ rfl ?_;refine aen en ?_
 repeat' (first|refine aw0m ?_|(refine ap2 ?_ ?_<;>try intro h)|refine aw1m ?_|(refine abx ?_;intro bb)|(refine abz ?_;intro bz)|(refine ahv ?_;intro v' hv')|(refine aac ?_;intro ac cc)|refine aw2 ?_|(refine ap4 ?_ ?_<;>try intro h)|apply True.intro)
 refine sw_loop (fun gm t H'=>gm=1/\(∃ G,Takes [] H' G)/\Sls t 207 [(0,.slice none 0 0),(3,.int .i64 0)]) _ ⟨rfl,⟨[],atks⟩,asls⟩ ?_
 rintro gm t H' ⟨rfl,⟨G,hp⟩,hs'⟩
 revert t;refine sls_all ?_;iterate 205 intro uu'
 refine sw_takeG hp ?_;clear hp
 repeat' (first|((with_reducible apply kx_make0 (c:=0));exact ty_el;exact ty_inf;rfl;rfl;(omega);(omega);intro bm;(refine apk ?_))|refine aw0 ?_|(refine ap2 ?_ ?_<;>try intro h)|refine aw1 ?_|(refine abx ?_;intro bb)|(refine abz ?_;intro bz)|(refine ahv ?_;intro v' hv')|(refine aac ?_;intro ac cc)|refine aw2 ?_|(refine ap4 ?_ ?_<;>try intro h)|apply True.intro)
 refine sw_loop (fun gm t H'=>gm=1/\(∃ G,Takes [] H' G)/\Sls t 207 [(0,.slice none 0 0),(5,.slice (some ⟨bm,0,none⟩) 0 0),(6,.int .i64 0)]) _ ⟨rfl,⟨_,atks⟩,asls⟩ ?_
 rintro gm t H' ⟨rfl,⟨G,hp⟩,hs'⟩
 revert t;refine sls_all ?_;iterate 204 intro uu'
 refine sw_takeG hp ?_;clear hp
 repeat' (first|refine aw0m ?_|(refine ap2 ?_ ?_<;>try intro h)|refine aw1m ?_|(refine abx ?_;intro bb)|(refine abz ?_;intro bz)|(refine ahv ?_;intro v' hv')|(refine aac ?_;intro ac cc)|refine aw2 ?_|(refine ap4 ?_ ?_<;>try intro h)|apply True.intro)
 refine sw_loop (fun gm t H'=>gm=1/\(∃ G,Takes [] H' G)/\Sls t 207 [(0,.slice none 0 0),(5,.slice (some ⟨bm,0,none⟩) 0 0),(9,.int .i64 0)]) _ ⟨rfl,⟨_,atks⟩,asls⟩ ?_
 rintro gm t H' ⟨rfl,⟨G,hp⟩,hs'⟩
 revert t;refine sls_all ?_;iterate 204 intro uu'
 refine sw_takeG hp ?_;clear hp
 repeat' (first|refine aw0m ?_|(refine ap2 ?_ ?_<;>try intro h)|refine aw1m ?_|(refine abx ?_;intro bb)|(refine abz ?_;intro bz)|(refine ahv ?_;intro v' hv')|(refine aac ?_;intro ac cc)|refine aw2 ?_|(refine ap4 ?_ ?_<;>try intro h)|apply True.intro)
 refine sw_loop (fun gm t H'=>gm=1/\(∃ G,Takes [] H' G)/\Sls t 207 [(0,.slice none 0 0),(5,.slice (some ⟨bm,0,none⟩) 0 0),(11,.int .i64 0)]) _ ⟨rfl,⟨_,atks⟩,asls⟩ ?_
 rintro gm t H' ⟨rfl,⟨G,hp⟩,hs'⟩
 revert t;refine sls_all ?_;iterate 204 intro uu'
 refine sw_takeG hp ?_;clear hp
 repeat' (first|refine aw0m ?_|(refine ap2 ?_ ?_<;>try intro h)|refine aw1m ?_|(refine abx ?_;intro bb)|(refine abz ?_;intro bz)|(refine ahv ?_;intro v' hv')|(refine aac ?_;intro ac cc)|refine aw2 ?_|(refine ap4 ?_ ?_<;>try intro h)|apply True.intro)
 refine sw_loop (fun gm t H'=>gm=1/\(∃ G,Takes [] H' G)/\Sls t 207 [(0,.slice none 0 0),(5,.slice (some ⟨bm,0,none⟩) 0 0),(14,.int .i64 0)]) _ ⟨rfl,⟨_,atks⟩,asls⟩ ?_
 rintro gm t H' ⟨rfl,⟨G,hp⟩,hs'⟩
 revert t;refine sls_all ?_;iterate 204 intro uu'
 refine sw_takeG hp ?_;clear hp
 repeat' (first|refine aw0m ?_|(refine ap2 ?_ ?_<;>try intro h)|refine aw1m ?_|(refine abx ?_;intro bb)|(refine abz ?_;intro bz)|(refine ahv ?_;intro v' hv')|(refine aac ?_;intro ac cc)|refine aw2 ?_|(refine ap4 ?_ ?_<;>try intro h)|apply True.intro)
 ((with_reducible apply fp_ret);exact res_1 rfl rfl)
 exact HR.out _ _ _ [] atks ⟨rfl,rfl⟩):Tri Tryz.prog r f [.slice none 0 0] [] fun w H=>w = .bool true/\H=[]:=h hf en r
theorem flatLimbs_nil (r:Hp):Tri Tryz.prog r 100 [.slice none 0 0] [] fun w H=>w = .bool true/\H=[]:=flatNilLimbs Tryz.func100 Tryz.ntmps100 r
theorem flatWords_nil (r:Hp):Tri Tryz.prog r 101 [.slice none 0 0] [] fun w H=>w = .bool true/\H=[]:=flatNilLimbs Tryz.func101 Tryz.ntmps101 r
theorem flatInts_nil (r:Hp):Tri Tryz.prog r 102 [.slice none 0 0] [] fun w H=>w = .bool true/\H=[]:=flatNilInts Tryz.func102 Tryz.ntmps102 r
theorem flatLongs_nil (r:Hp):Tri Tryz.prog r 103 [.slice none 0 0] [] fun w H=>w = .bool true/\H=[]:=flatNilInts Tryz.func103 Tryz.ntmps103 r
theorem flatTexts_nil (r:Hp):Tri Tryz.prog r 104 [.slice none 0 0] [] fun w H=>w = .bool true/\H=[]:=flatNilInts Tryz.func104 Tryz.ntmps104 r
theorem flatTruths_nil (r:Hp):Tri Tryz.prog r 106 [.slice none 0 0] [] fun w H=>w = .bool true/\H=[]:=flatNilTruths Tryz.func106 Tryz.ntmps106 r
theorem flatNodes_nil (r:Hp):Tri Tryz.prog r 107 [.slice none 0 0] [] fun w H=>w = .bool true/\H=[]:=flatNilInts Tryz.func107 Tryz.ntmps107 r
theorem flatInsts_nil (r:Hp):Tri Tryz.prog r 108 [.slice none 0 0] [] fun w H=>w = .bool true/\H=[]:=flatNilInts Tryz.func108 Tryz.ntmps108 r
theorem flatQueries_nil (r:Hp):Tri Tryz.prog r 109 [.slice none 0 0] [] fun w H=>w = .bool true/\H=[]:=flatNilInts Tryz.func109 Tryz.ntmps109 r
theorem flatFiles_nil (r:Hp):Tri Tryz.prog r 110 [.slice none 0 0] [] fun w H=>w = .bool true/\H=[]:=flatNilInts Tryz.func110 Tryz.ntmps110 r
theorem flatDocs_nil (r:Hp):Tri Tryz.prog r 111 [.slice none 0 0] [] fun w H=>w = .bool true/\H=[]:=flatNilInts Tryz.func111 Tryz.ntmps111 r
theorem flatPlaces_nil (r:Hp):Tri Tryz.prog r 112 [.slice none 0 0] [] fun w H=>w = .bool true/\H=[]:=flatNilInts Tryz.func112 Tryz.ntmps112 r
theorem flatPostings_nil (r:Hp):Tri Tryz.prog r 113 [.slice none 0 0] [] fun w H=>w = .bool true/\H=[]:=flatNilInts Tryz.func113 Tryz.ntmps113 r
theorem flatShardRefs_nil (r:Hp):Tri Tryz.prog r 114 [.slice none 0 0] [] fun w H=>w = .bool true/\H=[]:=flatNilInts Tryz.func114 Tryz.ntmps114 r
theorem flatManifests_nil (r:Hp):Tri Tryz.prog r 115 [.slice none 0 0] [] fun w H=>w = .bool true/\H=[]:=flatNilInts Tryz.func115 Tryz.ntmps115 r
theorem flatAsks_nil (r:Hp):Tri Tryz.prog r 116 [.slice none 0 0] [] fun w H=>w = .bool true/\H=[]:=flatNilInts Tryz.func116 Tryz.ntmps116 r
theorem flatHits_nil (r:Hp):Tri Tryz.prog r 117 [.slice none 0 0] [] fun w H=>w = .bool true/\H=[]:=flatNilInts Tryz.func117 Tryz.ntmps117 r
theorem flatAnswers_nil (r:Hp):Tri Tryz.prog r 118 [.slice none 0 0] [] fun w H=>w = .bool true/\H=[]:=flatNilInts Tryz.func118 Tryz.ntmps118 r
theorem flatParts_nil (r:Hp):Tri Tryz.prog r 119 [.slice none 0 0] [] fun w H=>w = .bool true/\H=[]:=flatNilInts Tryz.func119 Tryz.ntmps119 r
theorem flatChanges_nil (r:Hp):Tri Tryz.prog r 120 [.slice none 0 0] [] fun w H=>w = .bool true/\H=[]:=flatNilInts Tryz.func120 Tryz.ntmps120 r
end Go.Proofs.YtohpeoakdgckfaaGreat
namespace Go.Proofs.YtohpeoakdgckfaaGreat
open Go.RowKit Sx
abbrev bagO (w:Value):Obj:= .cells [.slice none 0 0,.slice none 0 0,.slice none 0 0,.slice none 0 0,.slice none 0 0,w,.slice none 0 0,.slice none 0 0,.slice none 0 0,.slice none 0 0,.slice none 0 0,.slice none 0 0,.slice none 0 0,.slice none 0 0,.slice none 0 0,.slice none 0 0,.slice none 0 0,.slice none 0 0,.slice none 0 0,.slice none 0 0,.slice none 0 0].toArray 110 (0,0)
theorem putBytes_any (r:Hp) (g:Nat) (w:Value) (n:Nat) (xs:List Value) (a:Option Addr) (m c:Nat) (hn:n<=1000000):Tri Tryz.prog r 49 [.pointer (some ⟨g,0,none⟩),.slice a m c] [pt g (bagO w),RowC 26 1 w n xs] fun _ H => ∃ a' c',H=[pt g (bagO (.slice a' (n+1) c')),RowC 26 1 (.slice a' (n+1) c') (n+1) (xs++[.slice a m c])]:=by
 refine Tri.free2 fun R HR=>?_
 refine ae Tryz.func49 Tryz.ntmps49 ?_
 repeat' (first|(first|((with_reducible apply kx_bs1);exact ty_el;exact ty_inf;rfl;rfl;rfl;intro bz;(refine apk ?_))|((with_reducible apply kx_bsN);exact ty_el;exact ty_inf;rfl;rfl;rfl;intro bz;(refine apk ?_)))|(first|((with_reducible apply kx_append1);exact ty_el;exact ty_inf;rfl;rfl;rfl;(exact atk);(exact atk);rfl;(omega);intro a' c';(refine apk ?_))|((with_reducible apply kx_appendN);exact ty_el;exact ty_inf;rfl;rfl;rfl;rfl;(exact atk);(exact atk);rfl;rfl;(omega);intro a' c';(refine apk ?_)))|refine aw0 ?_|(refine ap2 ?_ ?_<;>try intro h)|refine aw1 ?_|(refine abx ?_;intro bb)|(refine abz ?_;intro bz)|(refine ahv ?_;intro v' hv')|(refine aac ?_;intro ac cc)|refine aw2 ?_|(refine ap4 ?_ ?_<;>try intro h)|apply True.intro)
 ((with_reducible apply fp_end);exact res_0 rfl)
 exact HR.out _ _ _ [pt g _,RowC 26 1 _ _ _] atks ⟨_,_,rfl⟩
theorem apart_any (r:Hp) (g:Nat) (w:Value) (rows:List RowV) (hn:rows.length<=1000000) (hl : ∀ x∈rows,x.l.length<=100000000):Tri Tryz.prog r 50 [.pointer (some ⟨g,0,none⟩)] [pt g (bagO w),RowC 26 1 w rows.length (rows.flatMap encS),Fam rows.length (fb1 rows) (fb0 rows) 0] fun w H=>w = .bool true/\H=[]:=by
 refine Tri.free2 fun R HR=>?_
 refine ae Tryz.func50 Tryz.ntmps50 ?_
 repeat' (first|refine aw0m ?_|(refine ap2 ?_ ?_<;>try intro h)|refine aw1m ?_|(refine abx ?_;intro bb)|(refine abz ?_;intro bz)|(refine ahv ?_;intro v' hv')|(refine aac ?_;intro ac cc)|refine aw2 ?_|(refine ap4 ?_ ?_<;>try intro h)|apply True.intro)
 simp only [List.append_eq,List.cons_append,List.nil_append]
 repeat' (first|((with_reducible apply kx_lendC (A:=RowC 26 1 w rows.length (rows.flatMap encS)));(exact atk);intro r1 g1 hr1 hg1 hA1;(refine acl Tryz.func105 ?_;refine acr (flatBytes_any r1 w rows ⟨fun _=>rfl,hA1.sl hg1⟩ hn hl) ?_;rintro v' H' ⟨rfl,rfl⟩;refine apl ?_))|(refine acl Tryz.func100 ?_;refine acr (flatLimbs_nil _) ?_;rintro v' H' ⟨rfl,rfl⟩;refine apl ?_)|(refine acl Tryz.func101 ?_;refine acr (flatWords_nil _) ?_;rintro v' H' ⟨rfl,rfl⟩;refine apl ?_)|(refine acl Tryz.func102 ?_;refine acr (flatInts_nil _) ?_;rintro v' H' ⟨rfl,rfl⟩;refine apl ?_)|(refine acl Tryz.func103 ?_;refine acr (flatLongs_nil _) ?_;rintro v' H' ⟨rfl,rfl⟩;refine apl ?_)|(refine acl Tryz.func104 ?_;refine acr (flatTexts_nil _) ?_;rintro v' H' ⟨rfl,rfl⟩;refine apl ?_)|(refine acl Tryz.func106 ?_;refine acr (flatTruths_nil _) ?_;rintro v' H' ⟨rfl,rfl⟩;refine apl ?_)|(refine acl Tryz.func107 ?_;refine acr (flatNodes_nil _) ?_;rintro v' H' ⟨rfl,rfl⟩;refine apl ?_)|(refine acl Tryz.func108 ?_;refine acr (flatInsts_nil _) ?_;rintro v' H' ⟨rfl,rfl⟩;refine apl ?_)|(refine acl Tryz.func109 ?_;refine acr (flatQueries_nil _) ?_;rintro v' H' ⟨rfl,rfl⟩;refine apl ?_)|(refine acl Tryz.func110 ?_;refine acr (flatFiles_nil _) ?_;rintro v' H' ⟨rfl,rfl⟩;refine apl ?_)|(refine acl Tryz.func111 ?_;refine acr (flatDocs_nil _) ?_;rintro v' H' ⟨rfl,rfl⟩;refine apl ?_)|(refine acl Tryz.func112 ?_;refine acr (flatPlaces_nil _) ?_;rintro v' H' ⟨rfl,rfl⟩;refine apl ?_)|(refine acl Tryz.func113 ?_;refine acr (flatPostings_nil _) ?_;rintro v' H' ⟨rfl,rfl⟩;refine apl ?_)|(refine acl Tryz.func114 ?_;refine acr (flatShardRefs_nil _) ?_;rintro v' H' ⟨rfl,rfl⟩;refine apl ?_)|(refine acl Tryz.func115 ?_;refine acr (flatManifests_nil _) ?_;rintro v' H' ⟨rfl,rfl⟩;refine apl ?_)|(refine acl Tryz.func116 ?_;refine acr (flatAsks_nil _) ?_;rintro v' H' ⟨rfl,rfl⟩;refine apl ?_)|(refine acl Tryz.func117 ?_;refine acr (flatHits_nil _) ?_;rintro v' H' ⟨rfl,rfl⟩;refine apl ?_)|(refine acl Tryz.func118 ?_;refine acr (flatAnswers_nil _) ?_;rintro v' H' ⟨rfl,rfl⟩;refine apl ?_)|(refine acl Tryz.func119 ?_;refine acr (flatParts_nil _) ?_;rintro v' H' ⟨rfl,rfl⟩;refine apl ?_)|(refine acl Tryz.func120 ?_;refine acr (flatChanges_nil _) ?_;rintro v' H' ⟨rfl,rfl⟩;refine apl ?_)|refine aw0 ?_|(refine ap2 ?_ ?_<;>try intro h)|refine aw1 ?_|(refine abx ?_;intro bb)|(refine abz ?_;intro bz)|(refine ahv ?_;intro v' hv')|(refine aac ?_;intro ac cc)|refine aw2 ?_|(refine ap4 ?_ ?_<;>try intro h)|apply True.intro)
 ((with_reducible apply fp_ret);exact res_1 rfl rfl)
 exact HR.out _ _ _ [] atks ⟨rfl,rfl⟩
theorem apartBytes_any (r:Hp) (v:Value) (rows:List RowV) (hv:Els r 1 encS v rows) (hn:rows.length<=1000000) (hl : ∀ x∈rows,x.l.length<=100000000):Tri Tryz.prog r 14 [v] (famL rows.length (fb1 rows) (fb0 rows) 0) fun w H=>w = .bool true/\H=[]:=by
 refine tri_pack ?_
 rw [show (fun h=>all (famL rows.length (fb1 rows) (fb0 rows) 0) h)=Fam rows.length (fb1 rows) (fb0 rows) 0 from rfl]
 refine Tri.free2 fun R HR=>?_
 refine ae Tryz.func14 Tryz.ntmps14 ?_
 refine sw_put (A:=RowC 26 1 (.slice none 0 0) 0 []) (RowC.nil _ _) ?_
 repeat' (first|refine aw0m ?_|(refine ap2 ?_ ?_<;>try intro h)|refine aw1m ?_|(refine abx ?_;intro bb)|(refine abz ?_;intro bz)|(refine ahv ?_;intro v' hv')|(refine aac ?_;intro ac cc)|refine aw2 ?_|(refine ap4 ?_ ?_<;>try intro h)|apply True.intro)
 refine sw_loop (fun gm t H' => ∃ (k:Nat) (w:Value),gm=rows.length+1 - k/\(k<=rows.length)/\(∃ G,Takes [pt bb (bagO w),RowC 26 1 w k ((rows.take k).flatMap encS),Fam rows.length (fb1 rows) (fb0 rows) 0] H' G)/\Sls t 21 [(0,v),(3,.pointer (some ⟨bb,0,none⟩)),(4,.int .i64 k)]) _ ⟨0,_,rfl,Nat.zero_le _,⟨[],atks⟩,asls⟩ ?_
 rintro gm t H' ⟨k,w,rfl,hk,⟨G,hp⟩,hs'⟩
 revert t;refine sls_all ?_;iterate 18 intro uu'
 refine sw_takeG hp ?_;clear hp
 by_cases hlt:k<rows.length
 · repeat' (first|(refine acl Tryz.func49 ?_;refine acr (putBytes_any r bb w k ((rows.take k).flatMap encS) (rows.getD k default).a (rows.getD k default).l.length (rows.getD k default).c (by omega)) ?_;rintro v' H' ⟨a1,c1,rfl⟩;refine apl ?_)|refine aw0 ?_|(refine ap2 ?_ ?_<;>try intro h)|refine aw1 ?_|(refine abx ?_;intro bb)|(refine abz ?_;intro bz)|(refine ahv ?_;intro v' hv')|(refine aac ?_;intro ac cc)|refine aw2 ?_|(refine ap4 ?_ ?_<;>try intro h)|apply True.intro)
   exact ⟨_,by omega,k+1,.slice a1 (k+1) c1,rfl,by omega,⟨_,by rw [take_getD (d:=default) hlt,List.flatMap_append];(exact atks)⟩,asls⟩
 · obtain rfl:k=rows.length:=by omega
   rw [List.take_length]
   repeat' (first|(refine acl Tryz.func50 ?_;refine acr (apart_any r bb w rows hn hl) ?_;rintro v' H' ⟨rfl,rfl⟩;refine apl ?_)|refine aw0 ?_|(refine ap2 ?_ ?_<;>try intro h)|refine aw1 ?_|(refine abx ?_;intro bb)|(refine abz ?_;intro bz)|(refine ahv ?_;intro v' hv')|(refine aac ?_;intro ac cc)|refine aw2 ?_|(refine ap4 ?_ ?_<;>try intro h)|apply True.intro)
   ((with_reducible apply fp_ret);exact res_1 rfl rfl)
   exact HR.out _ _ _ [] atks ⟨rfl,rfl⟩
end Go.Proofs.YtohpeoakdgckfaaGreat
