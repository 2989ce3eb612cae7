/- mudlarkkit: flat.. of no list: their contracts. mudlarkkit.ApartBytes: its contract. -/
import Derived.Test.YtohpeoakdgckfaaGreatLt
import Derived.Test.YtohpeoakdgckfaaGreatFb
set_option maxHeartbeats 4000000
set_option maxRecDepth 10000
namespace Go.Proofs.YtohpeoakdgckfaaGreat
open Go.RowKit Sx
theorem z8g {f:FuncId} {fn:Func} (hf:Tryz.prog.funcs[f]?=some fn) (en:fn.ntmps=200) (r:Hp) (h:Tryz.prog.funcs[f]?=some fn->fn.ntmps=200 -> ∀ r,Tri Tryz.prog r f [.slice none 0 0] [] fun w H=>w = .bool true/\H=[]:=by
 intro hf en r
 refine Tri.free2 fun R HR=>?_
 refine z96 hf rfl _ rfl ?_;refine aen en ?_
 repeat' (first|refine aw0m ?_|(refine ap2 ?_ ?_<;>try intro h)|refine aw1m ?_|(refine abx ?_;intro bb)|(refine abz ?_;intro bz)|(refine ahv ?_;intro v' hv')|(refine aac ?_;intro ac cc)|refine aw2 ?_|(refine ap4 ?_ ?_<;>try intro h)|apply True.intro)
 refine z04 (fun gm t H'=>gm=1/\(∃ G,Takes [] H' G)/\Sls t 200 [(0,.slice none 0 0),(3,.int .i64 0)]) _ ⟨rfl,⟨[],atks⟩,asls⟩ ?_
 rintro gm t H' ⟨rfl,⟨G,hp⟩,hs'⟩
 revert t;refine z06 ?_;iterate 198 intro uu'
 refine z01 hp ?_;clear hp
 repeat' (first|((with_reducible apply z6k (c:=0));exact ty_el;exact z03;rfl;rfl;(omega);(omega);intro bm;(refine apk ?_))|refine aw0 ?_|(refine ap2 ?_ ?_<;>try intro h)|refine aw1 ?_|(refine abx ?_;intro bb)|(refine abz ?_;intro bz)|(refine ahv ?_;intro v' hv')|(refine aac ?_;intro ac cc)|refine aw2 ?_|(refine ap4 ?_ ?_<;>try intro h)|apply True.intro)
 refine z04 (fun gm t H'=>gm=1/\(∃ G,Takes [] H' G)/\Sls t 200 [(0,.slice none 0 0),(5,.slice (some ⟨bm,0,none⟩) 0 0),(6,.int .i64 0)]) _ ⟨rfl,⟨_,atks⟩,asls⟩ ?_
 rintro gm t H' ⟨rfl,⟨G,hp⟩,hs'⟩
 revert t;refine z06 ?_;iterate 197 intro uu'
 refine z01 hp ?_;clear hp
 repeat' (first|refine aw0m ?_|(refine ap2 ?_ ?_<;>try intro h)|refine aw1m ?_|(refine abx ?_;intro bb)|(refine abz ?_;intro bz)|(refine ahv ?_;intro v' hv')|(refine aac ?_;intro ac cc)|refine aw2 ?_|(refine ap4 ?_ ?_<;>try intro h)|apply True.intro)
 refine z04 (fun gm t H'=>gm=1/\(∃ G,Takes [] H' G)/\Sls t 200 [(0,.slice none 0 0),(5,.slice (some ⟨bm,0,none⟩) 0 0),(9,.int .i64 0)]) _ ⟨rfl,⟨_,atks⟩,asls⟩ ?_
 rintro gm t H' ⟨rfl,⟨G,hp⟩,hs'⟩
 revert t;refine z06 ?_;iterate 197 intro uu'
 refine z01 hp ?_;clear hp
 repeat' (first|refine aw0m ?_|(refine ap2 ?_ ?_<;>try intro h)|refine aw1m ?_|(refine abx ?_;intro bb)|(refine abz ?_;intro bz)|(refine ahv ?_;intro v' hv')|(refine aac ?_;intro ac cc)|refine aw2 ?_|(refine ap4 ?_ ?_<;>try intro h)|apply True.intro)
 refine z04 (fun gm t H'=>gm=1/\(∃ G,Takes [] H' G)/\Sls t 200 [(0,.slice none 0 0),(5,.slice (some ⟨bm,0,none⟩) 0 0),(11,.int .i64 0)]) _ ⟨rfl,⟨_,atks⟩,asls⟩ ?_
 rintro gm t H' ⟨rfl,⟨G,hp⟩,hs'⟩
 revert t;refine z06 ?_;iterate 197 intro uu'
 refine z01 hp ?_;clear hp
 repeat' (first|refine aw0m ?_|(refine ap2 ?_ ?_<;>try intro h)|refine aw1m ?_|(refine abx ?_;intro bb)|(refine abz ?_;intro bz)|(refine ahv ?_;intro v' hv')|(refine aac ?_;intro ac cc)|refine aw2 ?_|(refine ap4 ?_ ?_<;>try intro h)|apply True.intro)
 refine z04 (fun gm t H'=>gm=1/\(∃ G,Takes [] H' G)/\Sls t 200 [(0,.slice none 0 0),(5,.slice (some ⟨bm,0,none⟩) 0 0),(14,.int .i64 0)]) _ ⟨rfl,⟨_,atks⟩,asls⟩ ?_
 rintro gm t H' ⟨rfl,⟨G,hp⟩,hs'⟩
 revert t;refine z06 ?_;iterate 197 intro uu'
 refine z01 hp ?_;clear hp
 repeat' (first|refine aw0m ?_|(refine ap2 ?_ ?_<;>try intro h)|refine aw1m ?_|(refine abx ?_;intro bb)|(refine abz ?_;intro bz)|(refine ahv ?_;intro v' hv')|(refine aac ?_;intro ac cc)|refine aw2 ?_|(refine ap4 ?_ ?_<;>try intro h)|apply True.intro)
 ((with_reducible apply z00);exact res_1 rfl rfl)
 exact HR.out _ _ _ [] atks ⟨rfl,rfl⟩):Tri Tryz.prog r f [.slice none 0 0] [] fun w H=>w = .bool true/\H=[]:=h hf en r
theorem z0o {f:FuncId} {fn:Func} (hf:Tryz.prog.funcs[f]?=some fn) (en:fn.ntmps=193) (r:Hp) (h:Tryz.prog.funcs[f]?=some fn->fn.ntmps=193 -> ∀ r,Tri Tryz.prog r f [.slice none 0 0] [] fun w H=>w = .bool true/\H=[]:=by
 intro hf en r
 refine Tri.free2 fun R HR=>?_
 refine z96 hf rfl _ rfl ?_;refine aen en ?_
 repeat' (first|refine aw0m ?_|(refine ap2 ?_ ?_<;>try intro h)|refine aw1m ?_|(refine abx ?_;intro bb)|(refine abz ?_;intro bz)|(refine ahv ?_;intro v' hv')|(refine aac ?_;intro ac cc)|refine aw2 ?_|(refine ap4 ?_ ?_<;>try intro h)|apply True.intro)
 refine z04 (fun gm t H'=>gm=1/\(∃ G,Takes [] H' G)/\Sls t 193 [(0,.slice none 0 0),(3,.int .i64 0)]) _ ⟨rfl,⟨[],atks⟩,asls⟩ ?_
 rintro gm t H' ⟨rfl,⟨G,hp⟩,hs'⟩
 revert t;refine z06 ?_;iterate 191 intro uu'
 refine z01 hp ?_;clear hp
 repeat' (first|((with_reducible apply z6k (c:=0));exact ty_el;exact z03;rfl;rfl;(omega);(omega);intro bm;(refine apk ?_))|refine aw0 ?_|(refine ap2 ?_ ?_<;>try intro h)|refine aw1 ?_|(refine abx ?_;intro bb)|(refine abz ?_;intro bz)|(refine ahv ?_;intro v' hv')|(refine aac ?_;intro ac cc)|refine aw2 ?_|(refine ap4 ?_ ?_<;>try intro h)|apply True.intro)
 refine z04 (fun gm t H'=>gm=1/\(∃ G,Takes [] H' G)/\Sls t 193 [(0,.slice none 0 0),(5,.slice (some ⟨bm,0,none⟩) 0 0),(6,.int .i64 0)]) _ ⟨rfl,⟨_,atks⟩,asls⟩ ?_
 rintro gm t H' ⟨rfl,⟨G,hp⟩,hs'⟩
 revert t;refine z06 ?_;iterate 190 intro uu'
 refine z01 hp ?_;clear hp
 repeat' (first|refine aw0m ?_|(refine ap2 ?_ ?_<;>try intro h)|refine aw1m ?_|(refine abx ?_;intro bb)|(refine abz ?_;intro bz)|(refine ahv ?_;intro v' hv')|(refine aac ?_;intro ac cc)|refine aw2 ?_|(refine ap4 ?_ ?_<;>try intro h)|apply True.intro)
 refine z04 (fun gm t H'=>gm=1/\(∃ G,Takes [] H' G)/\Sls t 193 [(0,.slice none 0 0),(5,.slice (some ⟨bm,0,none⟩) 0 0),(9,.int .i64 0)]) _ ⟨rfl,⟨_,atks⟩,asls⟩ ?_
 rintro gm t H' ⟨rfl,⟨G,hp⟩,hs'⟩
 revert t;refine z06 ?_;iterate 190 intro uu'
 refine z01 hp ?_;clear hp
 repeat' (first|refine aw0m ?_|(refine ap2 ?_ ?_<;>try intro h)|refine aw1m ?_|(refine abx ?_;intro bb)|(refine abz ?_;intro bz)|(refine ahv ?_;intro v' hv')|(refine aac ?_;intro ac cc)|refine aw2 ?_|(refine ap4 ?_ ?_<;>try intro h)|apply True.intro)
 refine z04 (fun gm t H'=>gm=1/\(∃ G,Takes [] H' G)/\Sls t 193 [(0,.slice none 0 0),(5,.slice (some ⟨bm,0,none⟩) 0 0),(11,.int .i64 0)]) _ ⟨rfl,⟨_,atks⟩,asls⟩ ?_
 rintro gm t H' ⟨rfl,⟨G,hp⟩,hs'⟩
 revert t;refine z06 ?_;iterate 190 intro uu'
 refine z01 hp ?_;clear hp
 repeat' (first|refine aw0m ?_|(refine ap2 ?_ ?_<;>try intro h)|refine aw1m ?_|(refine abx ?_;intro bb)|(refine abz ?_;intro bz)|(refine ahv ?_;intro v' hv')|(refine aac ?_;intro ac cc)|refine aw2 ?_|(refine ap4 ?_ ?_<;>try intro h)|apply True.intro)
 refine z04 (fun gm t H'=>gm=1/\(∃ G,Takes [] H' G)/\Sls t 193 [(0,.slice none 0 0),(5,.slice (some ⟨bm,0,none⟩) 0 0),(14,.int .i64 0)]) _ ⟨rfl,⟨_,atks⟩,asls⟩ ?_
 rintro gm t H' ⟨rfl,⟨G,hp⟩,hs'⟩
 revert t;refine z06 ?_;iterate 190 intro uu'
 refine z01 hp ?_;clear hp
 repeat' (first|refine aw0m ?_|(refine ap2 ?_ ?_<;>try intro h)|refine aw1m ?_|(refine abx ?_;intro bb)|(refine abz ?_;intro bz)|(refine ahv ?_;intro v' hv')|(refine aac ?_;intro ac cc)|refine aw2 ?_|(refine ap4 ?_ ?_<;>try intro h)|apply True.intro)
 ((with_reducible apply z00);exact res_1 rfl rfl)
 exact HR.out _ _ _ [] atks ⟨rfl,rfl⟩):Tri Tryz.prog r f [.slice none 0 0] [] fun w H=>w = .bool true/\H=[]:=h hf en r
theorem zcx {f:FuncId} {fn:Func} (hf:Tryz.prog.funcs[f]?=some fn) (en:fn.ntmps=207) (r:Hp) (h:Tryz.prog.funcs[f]?=some fn->fn.ntmps=207 -> ∀ r,Tri Tryz.prog r f [.slice none 0 0] [] fun w H=>w = .bool true/\H=[]:=by
 intro hf en r
 refine Tri.free2 fun R HR=>?_
 refine z96 hf rfl _ rfl ?_;refine aen en ?_
 repeat' (first|refine aw0m ?_|(refine ap2 ?_ ?_<;>try intro h)|refine aw1m ?_|(refine abx ?_;intro bb)|(refine abz ?_;intro bz)|(refine ahv ?_;intro v' hv')|(refine aac ?_;intro ac cc)|refine aw2 ?_|(refine ap4 ?_ ?_<;>try intro h)|apply True.intro)
 refine z04 (fun gm t H'=>gm=1/\(∃ G,Takes [] H' G)/\Sls t 207 [(0,.slice none 0 0),(3,.int .i64 0)]) _ ⟨rfl,⟨[],atks⟩,asls⟩ ?_
 rintro gm t H' ⟨rfl,⟨G,hp⟩,hs'⟩
 revert t;refine z06 ?_;iterate 205 intro uu'
 refine z01 hp ?_;clear hp
 repeat' (first|((with_reducible apply z6k (c:=0));exact ty_el;exact z03;rfl;rfl;(omega);(omega);intro bm;(refine apk ?_))|refine aw0 ?_|(refine ap2 ?_ ?_<;>try intro h)|refine aw1 ?_|(refine abx ?_;intro bb)|(refine abz ?_;intro bz)|(refine ahv ?_;intro v' hv')|(refine aac ?_;intro ac cc)|refine aw2 ?_|(refine ap4 ?_ ?_<;>try intro h)|apply True.intro)
 refine z04 (fun gm t H'=>gm=1/\(∃ G,Takes [] H' G)/\Sls t 207 [(0,.slice none 0 0),(5,.slice (some ⟨bm,0,none⟩) 0 0),(6,.int .i64 0)]) _ ⟨rfl,⟨_,atks⟩,asls⟩ ?_
 rintro gm t H' ⟨rfl,⟨G,hp⟩,hs'⟩
 revert t;refine z06 ?_;iterate 204 intro uu'
 refine z01 hp ?_;clear hp
 repeat' (first|refine aw0m ?_|(refine ap2 ?_ ?_<;>try intro h)|refine aw1m ?_|(refine abx ?_;intro bb)|(refine abz ?_;intro bz)|(refine ahv ?_;intro v' hv')|(refine aac ?_;intro ac cc)|refine aw2 ?_|(refine ap4 ?_ ?_<;>try intro h)|apply True.intro)
 refine z04 (fun gm t H'=>gm=1/\(∃ G,Takes [] H' G)/\Sls t 207 [(0,.slice none 0 0),(5,.slice (some ⟨bm,0,none⟩) 0 0),(9,.int .i64 0)]) _ ⟨rfl,⟨_,atks⟩,asls⟩ ?_
 rintro gm t H' ⟨rfl,⟨G,hp⟩,hs'⟩
 revert t;refine z06 ?_;iterate 204 intro uu'
 refine z01 hp ?_;clear hp
 repeat' (first|refine aw0m ?_|(refine ap2 ?_ ?_<;>try intro h)|refine aw1m ?_|(refine abx ?_;intro bb)|(refine abz ?_;intro bz)|(refine ahv ?_;intro v' hv')|(refine aac ?_;intro ac cc)|refine aw2 ?_|(refine ap4 ?_ ?_<;>try intro h)|apply True.intro)
 refine z04 (fun gm t H'=>gm=1/\(∃ G,Takes [] H' G)/\Sls t 207 [(0,.slice none 0 0),(5,.slice (some ⟨bm,0,none⟩) 0 0),(11,.int .i64 0)]) _ ⟨rfl,⟨_,atks⟩,asls⟩ ?_
 rintro gm t H' ⟨rfl,⟨G,hp⟩,hs'⟩
 revert t;refine z06 ?_;iterate 204 intro uu'
 refine z01 hp ?_;clear hp
 repeat' (first|refine aw0m ?_|(refine ap2 ?_ ?_<;>try intro h)|refine aw1m ?_|(refine abx ?_;intro bb)|(refine abz ?_;intro bz)|(refine ahv ?_;intro v' hv')|(refine aac ?_;intro ac cc)|refine aw2 ?_|(refine ap4 ?_ ?_<;>try intro h)|apply True.intro)
 refine z04 (fun gm t H'=>gm=1/\(∃ G,Takes [] H' G)/\Sls t 207 [(0,.slice none 0 0),(5,.slice (some ⟨bm,0,none⟩) 0 0),(14,.int .i64 0)]) _ ⟨rfl,⟨_,atks⟩,asls⟩ ?_
 rintro gm t H' ⟨rfl,⟨G,hp⟩,hs'⟩
 revert t;refine z06 ?_;iterate 204 intro uu'
 refine z01 hp ?_;clear hp
 repeat' (first|refine aw0m ?_|(refine ap2 ?_ ?_<;>try intro h)|refine aw1m ?_|(refine abx ?_;intro bb)|(refine abz ?_;intro bz)|(refine ahv ?_;intro v' hv')|(refine aac ?_;intro ac cc)|refine aw2 ?_|(refine ap4 ?_ ?_<;>try intro h)|apply True.intro)
 ((with_reducible apply z00);exact res_1 rfl rfl)
 exact HR.out _ _ _ [] atks ⟨rfl,rfl⟩):Tri Tryz.prog r f [.slice none 0 0] [] fun w H=>w = .bool true/\H=[]:=h hf en r
theorem z6y (r:Hp):Tri Tryz.prog r 100 [.slice none 0 0] [] fun w H=>w = .bool true/\H=[]:=z8g Tryz.func100 Tryz.ntmps100 r
theorem z6z (r:Hp):Tri Tryz.prog r 101 [.slice none 0 0] [] fun w H=>w = .bool true/\H=[]:=z8g Tryz.func101 Tryz.ntmps101 r
theorem z8h (r:Hp):Tri Tryz.prog r 102 [.slice none 0 0] [] fun w H=>w = .bool true/\H=[]:=z0o Tryz.func102 Tryz.ntmps102 r
theorem z70 (r:Hp):Tri Tryz.prog r 103 [.slice none 0 0] [] fun w H=>w = .bool true/\H=[]:=z0o Tryz.func103 Tryz.ntmps103 r
theorem z71 (r:Hp):Tri Tryz.prog r 104 [.slice none 0 0] [] fun w H=>w = .bool true/\H=[]:=z0o Tryz.func104 Tryz.ntmps104 r
theorem z5z (r:Hp):Tri Tryz.prog r 106 [.slice none 0 0] [] fun w H=>w = .bool true/\H=[]:=zcx Tryz.func106 Tryz.ntmps106 r
theorem z72 (r:Hp):Tri Tryz.prog r 107 [.slice none 0 0] [] fun w H=>w = .bool true/\H=[]:=z0o Tryz.func107 Tryz.ntmps107 r
theorem z73 (r:Hp):Tri Tryz.prog r 108 [.slice none 0 0] [] fun w H=>w = .bool true/\H=[]:=z0o Tryz.func108 Tryz.ntmps108 r
theorem z52 (r:Hp):Tri Tryz.prog r 109 [.slice none 0 0] [] fun w H=>w = .bool true/\H=[]:=z0o Tryz.func109 Tryz.ntmps109 r
theorem z74 (r:Hp):Tri Tryz.prog r 110 [.slice none 0 0] [] fun w H=>w = .bool true/\H=[]:=z0o Tryz.func110 Tryz.ntmps110 r
theorem z8i (r:Hp):Tri Tryz.prog r 111 [.slice none 0 0] [] fun w H=>w = .bool true/\H=[]:=z0o Tryz.func111 Tryz.ntmps111 r
theorem zat (r:Hp):Tri Tryz.prog r 112 [.slice none 0 0] [] fun w H=>w = .bool true/\H=[]:=z0o Tryz.func112 Tryz.ntmps112 r
theorem z4t (r:Hp):Tri Tryz.prog r 113 [.slice none 0 0] [] fun w H=>w = .bool true/\H=[]:=z0o Tryz.func113 Tryz.ntmps113 r
theorem z43 (r:Hp):Tri Tryz.prog r 114 [.slice none 0 0] [] fun w H=>w = .bool true/\H=[]:=z0o Tryz.func114 Tryz.ntmps114 r
theorem z45 (r:Hp):Tri Tryz.prog r 115 [.slice none 0 0] [] fun w H=>w = .bool true/\H=[]:=z0o Tryz.func115 Tryz.ntmps115 r
theorem z8j (r:Hp):Tri Tryz.prog r 116 [.slice none 0 0] [] fun w H=>w = .bool true/\H=[]:=z0o Tryz.func116 Tryz.ntmps116 r
theorem z8k (r:Hp):Tri Tryz.prog r 117 [.slice none 0 0] [] fun w H=>w = .bool true/\H=[]:=z0o Tryz.func117 Tryz.ntmps117 r
theorem z54 (r:Hp):Tri Tryz.prog r 118 [.slice none 0 0] [] fun w H=>w = .bool true/\H=[]:=z0o Tryz.func118 Tryz.ntmps118 r
theorem z75 (r:Hp):Tri Tryz.prog r 119 [.slice none 0 0] [] fun w H=>w = .bool true/\H=[]:=z0o Tryz.func119 Tryz.ntmps119 r
theorem z55 (r:Hp):Tri Tryz.prog r 120 [.slice none 0 0] [] fun w H=>w = .bool true/\H=[]:=z0o Tryz.func120 Tryz.ntmps120 r
abbrev bagO (w:Value):Obj:= .cells [.slice none 0 0,.slice none 0 0,.slice none 0 0,.slice none 0 0,.slice none 0 0,w,.slice none 0 0,.slice none 0 0,.slice none 0 0,.slice none 0 0,.slice none 0 0,.slice none 0 0,.slice none 0 0,.slice none 0 0,.slice none 0 0,.slice none 0 0,.slice none 0 0,.slice none 0 0,.slice none 0 0,.slice none 0 0,.slice none 0 0].toArray 110 (0,0)
theorem zew (r:Hp) (g:Nat) (w:Value) (n:Nat) (xs:List Value) (a:Option Addr) (m c:Nat) (hn:n<=1000000):Tri Tryz.prog r 49 [.pointer (some ⟨g,0,none⟩),.slice a m c] [pt g (bagO w),RowC 26 1 w n xs] fun _ H => ∃ a' c',H=[pt g (bagO (.slice a' (n+1) c')),RowC 26 1 (.slice a' (n+1) c') (n+1) (xs++[.slice a m c])]:=by
 refine Tri.free2 fun R HR=>?_
 refine ae Tryz.func49 Tryz.ntmps49 ?_
 repeat' (first|(first|((with_reducible apply z0t);exact ty_el;exact z03;rfl;rfl;rfl;intro bz;(refine apk ?_))|((with_reducible apply z0y);exact ty_el;exact z03;rfl;rfl;rfl;intro bz;(refine apk ?_)))|(first|((with_reducible apply z0d);exact ty_el;exact z03;rfl;rfl;rfl;(exact atk);(exact atk);rfl;(omega);intro a' c';(refine apk ?_))|((with_reducible apply z0m);exact ty_el;exact z03;rfl;rfl;rfl;rfl;(exact atk);(exact atk);rfl;rfl;(omega);intro a' c';(refine apk ?_)))|refine aw0 ?_|(refine ap2 ?_ ?_<;>try intro h)|refine aw1 ?_|(refine abx ?_;intro bb)|(refine abz ?_;intro bz)|(refine ahv ?_;intro v' hv')|(refine aac ?_;intro ac cc)|refine aw2 ?_|(refine ap4 ?_ ?_<;>try intro h)|apply True.intro)
 ((with_reducible apply z1k);exact res_0 rfl)
 exact HR.out _ _ _ [pt g _,RowC 26 1 _ _ _] atks ⟨_,_,rfl⟩
theorem zm1 (r:Hp) (g:Nat) (w:Value) (rows:List RowV) (hn:rows.length<=1000000) (hl : ∀ x∈rows,x.l.length<=100000000):Tri Tryz.prog r 50 [.pointer (some ⟨g,0,none⟩)] [pt g (bagO w),RowC 26 1 w rows.length (rows.flatMap encS),Fam rows.length (fb1 rows) (fb0 rows) 0] fun w H=>w = .bool true/\H=[]:=by
 refine Tri.free2 fun R HR=>?_
 refine ae Tryz.func50 Tryz.ntmps50 ?_
 repeat' (first|refine aw0m ?_|(refine ap2 ?_ ?_<;>try intro h)|refine aw1m ?_|(refine abx ?_;intro bb)|(refine abz ?_;intro bz)|(refine ahv ?_;intro v' hv')|(refine aac ?_;intro ac cc)|refine aw2 ?_|(refine ap4 ?_ ?_<;>try intro h)|apply True.intro)
 simp only [List.append_eq,List.cons_append,List.nil_append]
 repeat' (first|((with_reducible apply z05 (A:=RowC 26 1 w rows.length (rows.flatMap encS)));(exact atk);intro r1 g1 hr1 hg1 hA1;(refine acl Tryz.func105 ?_;refine acr (z6l r1 w rows ⟨fun _=>rfl,hA1.sl hg1⟩ hn hl) ?_;rintro v' H' ⟨rfl,rfl⟩;refine apl ?_))|(refine acl Tryz.func100 ?_;refine acr (z6y _) ?_;rintro v' H' ⟨rfl,rfl⟩;refine apl ?_)|(refine acl Tryz.func101 ?_;refine acr (z6z _) ?_;rintro v' H' ⟨rfl,rfl⟩;refine apl ?_)|(refine acl Tryz.func102 ?_;refine acr (z8h _) ?_;rintro v' H' ⟨rfl,rfl⟩;refine apl ?_)|(refine acl Tryz.func103 ?_;refine acr (z70 _) ?_;rintro v' H' ⟨rfl,rfl⟩;refine apl ?_)|(refine acl Tryz.func104 ?_;refine acr (z71 _) ?_;rintro v' H' ⟨rfl,rfl⟩;refine apl ?_)|(refine acl Tryz.func106 ?_;refine acr (z5z _) ?_;rintro v' H' ⟨rfl,rfl⟩;refine apl ?_)|(refine acl Tryz.func107 ?_;refine acr (z72 _) ?_;rintro v' H' ⟨rfl,rfl⟩;refine apl ?_)|(refine acl Tryz.func108 ?_;refine acr (z73 _) ?_;rintro v' H' ⟨rfl,rfl⟩;refine apl ?_)|(refine acl Tryz.func109 ?_;refine acr (z52 _) ?_;rintro v' H' ⟨rfl,rfl⟩;refine apl ?_)|(refine acl Tryz.func110 ?_;refine acr (z74 _) ?_;rintro v' H' ⟨rfl,rfl⟩;refine apl ?_)|(refine acl Tryz.func111 ?_;refine acr (z8i _) ?_;rintro v' H' ⟨rfl,rfl⟩;refine apl ?_)|(refine acl Tryz.func112 ?_;refine acr (zat _) ?_;rintro v' H' ⟨rfl,rfl⟩;refine apl ?_)|(refine acl Tryz.func113 ?_;refine acr (z4t _) ?_;rintro v' H' ⟨rfl,rfl⟩;refine apl ?_)|(refine acl Tryz.func114 ?_;refine acr (z43 _) ?_;rintro v' H' ⟨rfl,rfl⟩;refine apl ?_)|(refine acl Tryz.func115 ?_;refine acr (z45 _) ?_;rintro v' H' ⟨rfl,rfl⟩;refine apl ?_)|(refine acl Tryz.func116 ?_;refine acr (z8j _) ?_;rintro v' H' ⟨rfl,rfl⟩;refine apl ?_)|(refine acl Tryz.func117 ?_;refine acr (z8k _) ?_;rintro v' H' ⟨rfl,rfl⟩;refine apl ?_)|(refine acl Tryz.func118 ?_;refine acr (z54 _) ?_;rintro v' H' ⟨rfl,rfl⟩;refine apl ?_)|(refine acl Tryz.func119 ?_;refine acr (z75 _) ?_;rintro v' H' ⟨rfl,rfl⟩;refine apl ?_)|(refine acl Tryz.func120 ?_;refine acr (z55 _) ?_;rintro v' H' ⟨rfl,rfl⟩;refine apl ?_)|refine aw0 ?_|(refine ap2 ?_ ?_<;>try intro h)|refine aw1 ?_|(refine abx ?_;intro bb)|(refine abz ?_;intro bz)|(refine ahv ?_;intro v' hv')|(refine aac ?_;intro ac cc)|refine aw2 ?_|(refine ap4 ?_ ?_<;>try intro h)|apply True.intro)
 ((with_reducible apply z00);exact res_1 rfl rfl)
 exact HR.out _ _ _ [] atks ⟨rfl,rfl⟩
theorem z3r (r:Hp) (v:Value) (rows:List RowV) (hv:Els r 1 encS v rows) (hn:rows.length<=1000000) (hl : ∀ x∈rows,x.l.length<=100000000):Tri Tryz.prog r 14 [v] (famL rows.length (fb1 rows) (fb0 rows) 0) fun w H=>w = .bool true/\H=[]:=by
 refine tri_pack ?_
 rw [show (fun h=>all (famL rows.length (fb1 rows) (fb0 rows) 0) h)=Fam rows.length (fb1 rows) (fb0 rows) 0 from rfl]
 refine Tri.free2 fun R HR=>?_
 refine ae Tryz.func14 Tryz.ntmps14 ?_
 refine z0f (A:=RowC 26 1 (.slice none 0 0) 0 []) (RowC.nil _ _) ?_
 repeat' (first|refine aw0m ?_|(refine ap2 ?_ ?_<;>try intro h)|refine aw1m ?_|(refine abx ?_;intro bb)|(refine abz ?_;intro bz)|(refine ahv ?_;intro v' hv')|(refine aac ?_;intro ac cc)|refine aw2 ?_|(refine ap4 ?_ ?_<;>try intro h)|apply True.intro)
 refine z04 (fun gm t H' => ∃ (k:Nat) (w:Value),gm=rows.length+1 - k/\(k<=rows.length)/\(∃ G,Takes [pt bb (bagO w),RowC 26 1 w k ((rows.take k).flatMap encS),Fam rows.length (fb1 rows) (fb0 rows) 0] H' G)/\Sls t 21 [(0,v),(3,.pointer (some ⟨bb,0,none⟩)),(4,.int .i64 k)]) _ ⟨0,_,rfl,Nat.zero_le _,⟨[],atks⟩,asls⟩ ?_
 rintro gm t H' ⟨k,w,rfl,hk,⟨G,hp⟩,hs'⟩
 revert t;refine z06 ?_;iterate 18 intro uu'
 refine z01 hp ?_;clear hp
 by_cases hlt:k<rows.length
 · repeat' (first|(refine acl Tryz.func49 ?_;refine acr (zew r bb w k ((rows.take k).flatMap encS) (rows.getD k default).a (rows.getD k default).l.length (rows.getD k default).c (by omega)) ?_;rintro v' H' ⟨a1,c1,rfl⟩;refine apl ?_)|refine aw0 ?_|(refine ap2 ?_ ?_<;>try intro h)|refine aw1 ?_|(refine abx ?_;intro bb)|(refine abz ?_;intro bz)|(refine ahv ?_;intro v' hv')|(refine aac ?_;intro ac cc)|refine aw2 ?_|(refine ap4 ?_ ?_<;>try intro h)|apply True.intro)
   exact ⟨_,by omega,k+1,.slice a1 (k+1) c1,rfl,by omega,⟨_,by rw [z10 (d:=default) hlt,List.flatMap_append];(exact atks)⟩,asls⟩
 · obtain rfl:k=rows.length:=by omega
   rw [List.take_length]
   repeat' (first|(refine acl Tryz.func50 ?_;refine acr (zm1 r bb w rows hn hl) ?_;rintro v' H' ⟨rfl,rfl⟩;refine apl ?_)|refine aw0 ?_|(refine ap2 ?_ ?_<;>try intro h)|refine aw1 ?_|(refine abx ?_;intro bb)|(refine abz ?_;intro bz)|(refine ahv ?_;intro v' hv')|(refine aac ?_;intro ac cc)|refine aw2 ?_|(refine ap4 ?_ ?_<;>try intro h)|apply True.intro)
   ((with_reducible apply z00);exact res_1 rfl rfl)
   exact HR.out _ _ _ [] atks ⟨rfl,rfl⟩
end Go.Proofs.YtohpeoakdgckfaaGreat
