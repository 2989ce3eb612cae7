/- mudlarkkit.SameFiles, ApartPlaces: their contracts. -/
import Derived.Test.YtohpeoakdgckfaaGreatRx
import Derived.Test.YtohpeoakdgckfaaGreatFb
import Derived.Test.YtohpeoakdgckfaaGreatTw
import Derived.Test.YtohpeoakdgckfaaGreatFp
import Derived.Test.YtohpeoakdgckfaaGreatAb
import Derived.Test.YtohpeoakdgckfaaGreatGp
import Derived.Test.YtohpeoakdgckfaaGreatIn
set_option maxHeartbeats 4000000
set_option maxRecDepth 10000
namespace Go.Proofs.YtohpeoakdgckfaaGreat
open Go.RowKit Sx
def Wide (r:Hp) (v:Value) (l:List UInt8):Prop := ∃ a c,v = .slice a l.length c/\l.length+12<=c/\Sl r 1 (.slice a (l.length+12) c) (l.length+12) (u8s (l++marksL 12))
theorem Sl.narrow {r:Hp} {sz n m c:Nat} {a:Option Addr} {xs:List Value} (h:Sl r sz (.slice a n c) n xs) (hm:m<=n):Sl r sz (.slice a m c) m (xs.take (m*sz)):=by
 have h1:=h.1
 have h2:=h.2.1
 have hms:m*sz<=n*sz:=Nat.mul_le_mul_right _ hm
 refine ⟨by simp;omega,by omega,?_⟩
 rcases h.2.2 with ⟨e,rfl⟩ | ⟨b,off,cap,cc,E,fz,e,h3,h4,h5⟩
 · obtain ⟨a',e⟩:=e
   injection e with e1 e2 e3;subst e1;subst e3
   left;obtain rfl:m=0:=by omega
   exact ⟨⟨a,rfl⟩,rfl⟩
 · injection e with e1 e2 e3;subst e1;subst e3
   refine .inr ⟨b,off,_,cc,E,fz,rfl,by omega,h4,fun j hj=>?_⟩
   simp only [List.length_take] at hj
   rw [h5 j (by omega)];simp
theorem Wide.sl {r:Hp} {v:Value} {l:List UInt8} (h:Wide r v l):U8S r v l:=by
 obtain ⟨a,c,rfl,hc,hs⟩:=h
 have:=Sl.narrow (m:=l.length) hs (by omega)
 unfold U8S;rw [show (u8s (l++marksL 12)).take (l.length*1)=u8s l by simp [u8s]] at this;exact this
theorem Wide.mono {r r':Hp} {v:Value} {l:List UInt8} (h:Wide r v l) (hr:sub r r'):Wide r' v l:=by
 obtain ⟨a,c,e,hc,hs⟩:=h;exact ⟨a,c,e,hc,hs.mono hr⟩
theorem Wide.of {l:List UInt8} {a:Option Addr} {c:Nat} {g r:Hp} (h:RowC 5 1 (.slice a (l.length+12) c) (l.length+12) (u8s (l++marksL 12)) g) (hs:sub g r):Wide r (.slice a l.length c) l :=
 ⟨a,c,rfl,(RowC.cap h).1,h.sl hs⟩
theorem keptW_any (r:Hp) (v w:Value) (l:List UInt8) (hv:Wide r v l) (hw:U8S r w l):Tri Tryz.prog r 19 [v,w] [] fun u H=>u = .bool true/\H=[]:=by
 obtain ⟨a,c,rfl,hc,hs⟩:=hv
 exact keptBytes_any r a c w l hc (by unfold U8S;rw [show (l++marksL 12).length=l.length+12 by simp [marksL]];exact hs) hw
end Go.Proofs.YtohpeoakdgckfaaGreat
namespace Go.Proofs.YtohpeoakdgckfaaGreat
open Go.RowKit Sx
structure LpV where
 gram:List UInt8
 a:Option Addr
 c:Nat
 pl:List PlaceV
 deriving Inhabited
def wideP (x:LpV):Ch:=RowC 149 2 (.slice x.a (x.pl.length+12) x.c) (x.pl.length+12) ((x.pl++marksPl 12).flatMap encPl)
def WideP (r:Hp) (x:LpV):Prop:=x.pl.length+12<=x.c/\Els r 2 encPl (.slice x.a (x.pl.length+12) x.c) (x.pl++marksPl 12)
theorem WideP.of {x:LpV} {g r:Hp} (h:wideP x g) (hs:sub g r):WideP r x :=
 ⟨(RowC.cap h).1,⟨fun _=>rfl,by rw [List.length_append,marksPl_len];exact h.sl hs⟩⟩
theorem WideP.mono {r r':Hp} {x:LpV} (h:WideP r x) (hr:sub r r'):WideP r' x:=⟨h.1,h.2.mono hr⟩
end Go.Proofs.YtohpeoakdgckfaaGreat
namespace Go.Proofs.YtohpeoakdgckfaaGreat
open Go.RowKit Sx
abbrev bagP (w u:Value):Obj:= .cells [.slice none 0 0,.slice none 0 0,.slice none 0 0,.slice none 0 0,.slice none 0 0,.slice none 0 0,.slice none 0 0,.slice none 0 0,.slice none 0 0,.slice none 0 0,.slice none 0 0,.slice none 0 0,w,u,.slice none 0 0,.slice none 0 0,.slice none 0 0,.slice none 0 0,.slice none 0 0,.slice none 0 0,.slice none 0 0].toArray 110 (0,0)
theorem flatBytes_nil (r:Hp):Tri Tryz.prog r 105 [.slice none 0 0] [] fun w H=>w = .bool true/\H=[] :=
 tri_put (A:=Fam 0 (fb1 []) (fb0 []) 0) rfl (flatBytes_any r _ [] ⟨fun _=>rfl,Sl.nil _ _⟩ (Nat.zero_le _) (fun x hx=>by cases hx))
theorem putPlaces_any (r:Hp) (g:Nat) (w u:Value) (n:Nat) (xs:List Value) (a:Option Addr) (m c:Nat) (hn:n<=1000000):Tri Tryz.prog r 129 [.pointer (some ⟨g,0,none⟩),.slice a m c] [pt g (bagP w u),RowC 62 1 w n xs] fun _ H => ∃ a' c',H=[pt g (bagP (.slice a' (n+1) c') u),RowC 62 1 (.slice a' (n+1) c') (n+1) (xs++[.slice a m c])]:=by
 refine Tri.free2 fun R HR=>?_
 refine ae Tryz.func129 Tryz.ntmps129 ?_
 repeat' (first|(first|((with_reducible apply kx_bs1);exact ty_el;exact ty_inf;rfl;rfl;rfl;intro bz;(refine apk ?_))|((with_reducible apply kx_bsN);exact ty_el;exact ty_inf;rfl;rfl;rfl;intro bz;(refine apk ?_)))|(first|((with_reducible apply kx_append1);exact ty_el;exact ty_inf;rfl;rfl;rfl;(exact atk);(exact atk);rfl;(omega);intro a' c';(refine apk ?_))|((with_reducible apply kx_appendN);exact ty_el;exact ty_inf;rfl;rfl;rfl;rfl;(exact atk);(exact atk);rfl;rfl;(omega);intro a' c';(refine apk ?_)))|refine aw0 ?_|(refine ap2 ?_ ?_<;>try intro h)|refine aw1 ?_|(refine abx ?_;intro bb)|(refine abz ?_;intro bz)|(refine ahv ?_;intro v' hv')|(refine aac ?_;intro ac cc)|refine aw2 ?_|(refine ap4 ?_ ?_<;>try intro h)|apply True.intro)
 ((with_reducible apply fp_end);exact res_0 rfl)
 exact HR.out _ _ _ [pt g _,RowC 62 1 _ _ _] atks ⟨_,_,rfl⟩
theorem famL_all {α:Type} [Inhabited α] (xs:List α) (A B:Nat->Ch) (F:α->Ch) (hF : ∀ j,j<xs.length->B j=F (xs.getD j default)):famL xs.length A B 0=xs.map F:=by
 apply List.ext_getElem?
 intro j
 by_cases hj:j<xs.length
 · rw [List.getElem?_eq_getElem (by rw [famL_len];exact hj),famL_at hj,if_neg (by omega),hF j hj,List.getElem?_map,List.getElem?_eq_getElem hj,List.getD_eq_getElem?_getD,List.getElem?_eq_getElem hj]
   rfl
 · rw [List.getElem?_eq_none (by rw [famL_len];omega),List.getElem?_map,List.getElem?_eq_none (by omega)]
   rfl
end Go.Proofs.YtohpeoakdgckfaaGreat
namespace Go.Proofs.YtohpeoakdgckfaaGreat
open Go.RowKit Sx
theorem sameFile_any (r:Hp) (f g:FileV) (hf:U8S r f.val f.data) (hg:U8S r g.val g.data):Tri Tryz.prog r 48 [.agg (encF f).toArray,.agg (encF g).toArray] [] fun u H=>u = .bool (decide (f.path=g.path) && decide (f.data=g.data))/\H=[]:=by
 refine Tri.free2 fun R HR=>?_
 unfold encF
 refine ae Tryz.func48 Tryz.ntmps48 ?_
 repeat' (first|refine aw0m ?_|(refine ap2 ?_ ?_<;>try intro h)|(refine acl Tryz.func12 ?_;refine acr (sameBytes_any r f.val g.val f.data g.data hf hg) ?_;rintro v' H' ⟨rfl,rfl⟩;refine apl ?_)|refine aw1m ?_|(refine abx ?_;intro bb)|(refine abz ?_;intro bz)|(refine ahv ?_;intro v' hv')|(refine aac ?_;intro ac cc)|refine aw2 ?_|(refine ap4 ?_ ?_<;>try intro h)|apply True.intro)
 · ((with_reducible apply fp_ret);exact res_1 rfl rfl)
   exact HR.out _ _ _ [] atks ⟨by rw [decide_eq_true h];simp,rfl⟩
 · ((with_reducible apply fp_ret);exact res_1 rfl rfl)
   exact HR.out _ _ _ [] atks ⟨by rw [decide_eq_false h];simp,rfl⟩
theorem DocV.ext' {a b:DocV} (h1:a.path=b.path) (h2:a.lang=b.lang) (h3:a.sum=b.sum) (h4:a.size=b.size):a=b:=by
 cases a;cases b;simp_all
theorem sameDocs_any (r:Hp) (v w:Value) (l m:List DocV) (hv:Docs r v l) (hw:Docs r w m):Tri Tryz.prog r 55 [v,w] [] fun u H=>u = .bool (decide (l=m))/\H=[]:=by
 refine Tri.free2 fun R HR=>?_
 have hlm:=maxI hv.2.2.1
 refine ae Tryz.func55 Tryz.ntmps55 ?_
 repeat' (first|refine aw0m ?_|(refine ap2 ?_ ?_<;>try intro h)|refine aw1m ?_|(refine abx ?_;intro bb)|(refine abz ?_;intro bz)|(refine ahv ?_;intro v' hv')|(refine aac ?_;intro ac cc)|refine aw2 ?_|(refine ap4 ?_ ?_<;>try intro h)|apply True.intro)
 · ((with_reducible apply fp_ret);exact res_1 rfl rfl)
   exact HR.out _ _ _ [] atks ⟨by rw [decide_eq_false];rintro rfl;exact h rfl,rfl⟩
 · refine sw_loop (fun gm t H' => ∃ k:Nat,gm=l.length+1 - k/\(k<=l.length)/\(l.take k=m.take k)/\(∃ G,Takes [] H' G)/\Sls t 26 [(0,v),(1,w),(5,.int .i64 k)]) _ ⟨0,rfl,Nat.zero_le _,by simp,⟨[],atks⟩,asls⟩ ?_
   rintro gm t H' ⟨k,rfl,hk,ht,⟨G,hp⟩,hs'⟩
   revert t;refine sls_all ?_;iterate 23 intro uu'
   refine sw_takeG hp ?_;clear hp
   repeat' (first|refine aw0m ?_|(refine ap2 ?_ ?_<;>try intro h)|(first|((with_reducible apply sw_draw (id:=6) 9 [(0,true),(1,true),(2,true),(3,true),(4,true),(5,true),(6,true),(7,true),(8,true)] [] []);kernel_rfl;(exact atks);kernel_rfl;intro r' hl'))|refine aw1m ?_|(refine abx ?_;intro bb)|(refine abz ?_;intro bz)|(refine ahv ?_;intro v' hv')|(refine aac ?_;intro ac cc)|refine aw2 ?_|(refine ap4 ?_ ?_<;>try intro h)|apply True.intro)
   · ((with_reducible apply fp_ret);exact res_1 rfl rfl)
     exact HR.out _ _ _ [] atks ⟨by rw [decide_eq_false];rintro rfl;simp at h,rfl⟩
   · exact ⟨_,by omega,k+1,rfl,by omega,take_eqD (d:=default) ht (by omega) (by omega) (DocV.ext' h.1 h.2.1 (by omega) h.2.2.2),⟨_,atks⟩,asls⟩
   · ((with_reducible apply fp_ret);exact res_1 rfl rfl)
     exact HR.out _ _ _ [] atks ⟨by rw [decide_eq_true (take_all2 ht (by omega) (by omega))],rfl⟩
end Go.Proofs.YtohpeoakdgckfaaGreat
namespace Go.Proofs.YtohpeoakdgckfaaGreat
open Go.RowKit Sx
namespace Sx
section
variable {P : Program} {l : Option Nat} {r : Hp} {K : St} {t : List Value} {H : List Ch} {o : Oper}
end
end Sx
abbrev FileV.key (f:FileV):List UInt8 × List UInt8:=(f.path,f.data)
def marksFn (n:Nat):List FileV:=(List.range n).map fun i=>⟨markT 1 i,.slice none 0 0,[]⟩
def LentFs (g:Hp) (v:Value) (fs:List FileV):Prop := ∃ a c,∃ fs':List FileV,v = .slice a fs.length c/\fs.length+12<=c/\fs'.map FileV.key=fs.map FileV.key/\Els g 2 encF (.slice a (fs.length+12) c) (fs'++marksFn 12) /\ ∀ f∈fs',Wide g f.val f.data
def sizeF:List FileV->Nat
 | []=>0
 | f::fs=>1+f.path.length+f.data.length+sizeF fs
theorem sizeF_mem {fs:List FileV} {f:FileV} (h:f∈fs):1+f.path.length+f.data.length<=sizeF fs:=by
 induction fs with
 | nil=>cases h
 | cons g fs ih =>
  rcases List.mem_cons.1 h with rfl|h
  · simp only [sizeF];omega
  · have:=ih h;simp only [sizeF];omega
theorem sizeF_len (fs:List FileV):fs.length<=sizeF fs:=by
 induction fs with
 | nil=>simp
 | cons g fs ih=>simp only [sizeF,List.length_cons];omega
end Go.Proofs.YtohpeoakdgckfaaGreat
namespace Go.Proofs.YtohpeoakdgckfaaGreat
open Go.RowKit Sx
theorem encD_one (ds:List DocV):(ds.flatMap encD).all one?=true:=by
 induction ds with
 | nil=>rfl
 | cons d ds ih=>simp only [List.flatMap_cons,List.all_append,ih];rfl
end Go.Proofs.YtohpeoakdgckfaaGreat
namespace Go.Proofs.YtohpeoakdgckfaaGreat
open Go.RowKit Sx
theorem cloneDocV_any (r:Hp) (v:Value) (xs:List DocV) (hv:Els r 4 encD v xs) (hl:xs.length<=1000000):Tri Tryz.prog r 128 [v] [] fun w H => ∃ a c,w = .slice a xs.length c/\H=[RowC 119 4 w xs.length (xs.flatMap encD)]:=by
 have hn:=fun (a:Option Addr) (n c:Nat) (w:World)=>Lib.run_eql_slice_nil (P:=Tryz.prog) w 66 _ a n c 0 0 Tryz.underlying66
 refine Tri.free2 fun R HR=>?_
 obtain ⟨a,c,rfl⟩:=hv.form
 cases a with
 | none =>
  have hx:xs=[]:=by
   rcases hv.2.2.2 with ⟨_,h0⟩ | ⟨b,off,cap,c,E,fz,h,_⟩
   · exact List.length_eq_zero_iff.1 h0
   · cases h
  subst hx
  refine ae Tryz.func128 Tryz.ntmps128 ?_
  refine sw_put (A:=RowC 119 4 (.slice none 0 0) 0 []) (RowC.nil _ _) ?_
  repeat' (first|((with_reducible refine swo_kit ?_ ?_);rfl;intro w ds K' hK;gi_big_op;(with_reducible refine hK _ ?_);clear hK K' ds w)|refine aw0 ?_|(refine ap2 ?_ ?_<;>try intro h)|refine aw1 ?_|(refine abx ?_;intro bb)|(refine abz ?_;intro bz)|(refine ahv ?_;intro v' hv')|(refine aac ?_;intro ac cc)|refine aw2 ?_|(refine ap4 ?_ ?_<;>try intro h)|apply True.intro)
  ((with_reducible apply fp_ret);exact res_1 rfl rfl)
  exact HR.out _ _ _ [RowC 119 4 (.slice none 0 0) 0 []] atks ⟨_,_,rfl,rfl⟩
 | some ad =>
  have hone:=encD_one xs
  refine ae Tryz.func128 Tryz.ntmps128 ?_
  repeat' (first|((with_reducible apply kx_bs0R);exact ty_el;exact ty_inf;intro bz;(refine apk ?_))|((with_reducible refine swo_isApp ?_);(with_reducible apply kx_appS (news:=xs.flatMap encD));exact ty_el;exact ty_inf;rfl;rfl;rfl;rfl;exact hv.2;(exact atk);exact hone;(unfold maxLen;omega);(omega);intro a' c';refine apm ?_)|((with_reducible refine swo_kit ?_ ?_);rfl;intro w ds K' hK;gi_big_op;(with_reducible refine hK _ ?_);clear hK K' ds w)|refine aw0 ?_|(refine ap2 ?_ ?_<;>try intro h)|refine aw1 ?_|(refine abx ?_;intro bb)|(refine abz ?_;intro bz)|(refine ahv ?_;intro v' hv')|(refine aac ?_;intro ac cc)|refine aw2 ?_|(refine ap4 ?_ ?_<;>try intro h)|apply True.intro)
  simp only [Nat.zero_add]
  ((with_reducible apply fp_ret);exact res_1 rfl rfl)
  exact HR.out _ _ _ [RowC 119 4 _ _ _] atks ⟨a',c',rfl,rfl⟩
theorem clonePlaceV_any (r:Hp) (v:Value) (xs:List PlaceV) (hv:Els r 2 encPl v xs) (hl:xs.length<=1000000):Tri Tryz.prog r 77 [v] [] fun w H => ∃ a c,w = .slice a xs.length c/\H=[RowC 149 2 w xs.length (xs.flatMap encPl)]:=by
 have hn:=fun (a:Option Addr) (n c:Nat) (w:World)=>Lib.run_eql_slice_nil (P:=Tryz.prog) w 62 _ a n c 0 0 Tryz.underlying62
 refine Tri.free2 fun R HR=>?_
 obtain ⟨a,c,rfl⟩:=hv.form
 cases a with
 | none =>
  have hx:xs=[]:=by
   rcases hv.2.2.2 with ⟨_,h0⟩ | ⟨b,off,cap,c,E,fz,h,_⟩
   · exact List.length_eq_zero_iff.1 h0
   · cases h
  subst hx
  refine ae Tryz.func77 Tryz.ntmps77 ?_
  refine sw_put (A:=RowC 149 2 (.slice none 0 0) 0 []) (RowC.nil _ _) ?_
  repeat' (first|((with_reducible refine swo_kit ?_ ?_);rfl;intro w ds K' hK;gi_big_op;(with_reducible refine hK _ ?_);clear hK K' ds w)|refine aw0 ?_|(refine ap2 ?_ ?_<;>try intro h)|refine aw1 ?_|(refine abx ?_;intro bb)|(refine abz ?_;intro bz)|(refine ahv ?_;intro v' hv')|(refine aac ?_;intro ac cc)|refine aw2 ?_|(refine ap4 ?_ ?_<;>try intro h)|apply True.intro)
  ((with_reducible apply fp_ret);exact res_1 rfl rfl)
  exact HR.out _ _ _ [RowC 149 2 (.slice none 0 0) 0 []] atks ⟨_,_,rfl,rfl⟩
 | some ad =>
  have hone:=encPl_one xs
  refine ae Tryz.func77 Tryz.ntmps77 ?_
  repeat' (first|((with_reducible apply kx_bs0R);exact ty_el;exact ty_inf;intro bz;(refine apk ?_))|((with_reducible refine swo_isApp ?_);(with_reducible apply kx_appS (news:=xs.flatMap encPl));exact ty_el;exact ty_inf;rfl;rfl;rfl;rfl;exact hv.2;(exact atk);exact hone;(unfold maxLen;omega);(omega);intro a' c';refine apm ?_)|((with_reducible refine swo_kit ?_ ?_);rfl;intro w ds K' hK;gi_big_op;(with_reducible refine hK _ ?_);clear hK K' ds w)|refine aw0 ?_|(refine ap2 ?_ ?_<;>try intro h)|refine aw1 ?_|(refine abx ?_;intro bb)|(refine abz ?_;intro bz)|(refine ahv ?_;intro v' hv')|(refine aac ?_;intro ac cc)|refine aw2 ?_|(refine ap4 ?_ ?_<;>try intro h)|apply True.intro)
  simp only [Nat.zero_add]
  ((with_reducible apply fp_ret);exact res_1 rfl rfl)
  exact HR.out _ _ _ [RowC 149 2 _ _ _] atks ⟨a',c',rfl,rfl⟩
theorem sequal_any (r:Hp) (v w:Value) (l m:List UInt8) (hv:U8S r v l) (hw:U8S r w m):Tri Tryz.prog r 53 [v,w] [] fun u H=>u = .bool (decide (l=m))/\H=[]:=by
 refine Tri.free2 fun R HR=>?_
 have hlm:=maxI hv.2.1
 refine ae Tryz.func53 Tryz.ntmps53 ?_
 repeat' (first|refine aw0m ?_|(refine ap2 ?_ ?_<;>try intro h)|refine aw1m ?_|(refine abx ?_;intro bb)|(refine abz ?_;intro bz)|(refine ahv ?_;intro v' hv')|(refine aac ?_;intro ac cc)|refine aw2 ?_|(refine ap4 ?_ ?_<;>try intro h)|apply True.intro)
 · ((with_reducible apply fp_ret);exact res_1 rfl rfl)
   exact HR.out _ _ _ [] atks ⟨by rw [decide_eq_false];rintro rfl;exact h rfl,rfl⟩
 · refine sw_loop (fun gm t H' => ∃ k:Nat,gm=l.length+1 - k/\(k<=l.length)/\(l.take k=m.take k)/\(∃ G,Takes [] H' G)/\Sls t 26 [(0,v),(1,w),(12,.int .i64 l.length),(13,.int .i64 k)]) _ ⟨0,rfl,Nat.zero_le _,by simp,⟨[],atks⟩,asls⟩ ?_
   rintro gm t H' ⟨k,rfl,hk,ht,⟨G,hp⟩,hs'⟩
   revert t;refine sls_all ?_;iterate 22 intro uu'
   refine sw_takeG hp ?_;clear hp
   repeat' (first|refine aw0m ?_|(refine ap2 ?_ ?_<;>try intro h)|(first|((with_reducible apply sw_draw (id:=6) 9 [(0,true),(1,true),(2,true),(3,true),(4,true),(5,true),(6,true),(7,true),(8,true)] [] []);kernel_rfl;(exact atks);kernel_rfl;intro r' hl'))|refine aw1m ?_|(refine abx ?_;intro bb)|(refine abz ?_;intro bz)|(refine ahv ?_;intro v' hv')|(refine aac ?_;intro ac cc)|refine aw2 ?_|(refine ap4 ?_ ?_<;>try intro h)|apply True.intro)
   · ((with_reducible apply fp_ret);exact res_1 rfl rfl)
     exact HR.out _ _ _ [] atks ⟨by rw [decide_eq_false];rintro rfl;simp at h,rfl⟩
   · exact ⟨_,by omega,k+1,rfl,by omega,take_eqD (d:=0) ht (by omega) (by omega) (UInt8.toNat_inj.1 (by omega)),⟨_,atks⟩,asls⟩
   · ((with_reducible apply fp_ret);exact res_1 rfl rfl)
     exact HR.out _ _ _ [] atks ⟨by rw [decide_eq_true (take_all2 ht (by omega) (by omega))],rfl⟩
end Go.Proofs.YtohpeoakdgckfaaGreat
namespace Go.Proofs.YtohpeoakdgckfaaGreat
open Go.RowKit Sx
theorem key_eqD {fs gs:List FileV} {k:Nat} (ht:(fs.take k).map FileV.key=(gs.take k).map FileV.key) (h1:k<fs.length) (h2:k<gs.length) (hp:(fs.getD k default).path=(gs.getD k default).path) (hd:(fs.getD k default).data=(gs.getD k default).data):(fs.take (k+1)).map FileV.key=(gs.take (k+1)).map FileV.key:=by
 rw [take_getD (d:=default) h1,take_getD (d:=default) h2,List.map_append,List.map_append,ht]
 rw [List.map_singleton,List.map_singleton,FileV.key,FileV.key,hp,hd]
theorem key_at {fs gs:List FileV} (h:fs.map FileV.key=gs.map FileV.key) {k:Nat} (h1:k<fs.length):(fs.getD k default).path=(gs.getD k default).path/\(fs.getD k default).data=(gs.getD k default).data:=by
 have hl:fs.length=gs.length:=by have:=congrArg List.length h;simpa using this
 have e:=congrArg (fun l=>l[k]?) h
 simp only [List.getElem?_map] at e
 rw [List.getElem?_eq_getElem h1,List.getElem?_eq_getElem (by omega)] at e
 simp only [Option.map_some,Option.some.injEq] at e
 simp only [List.getD_eq_getElem?_getD]
 rw [List.getElem?_eq_getElem h1,List.getElem?_eq_getElem (show k<gs.length by omega)]
 exact ⟨congrArg Prod.fst e,congrArg Prod.snd e⟩
theorem sameFiles_any (r:Hp) (v w:Value) (fs gs:List FileV) (hv:Files r v fs) (hw:Files r w gs):Tri Tryz.prog r 23 [v,w] [] fun u H=>u = .bool (decide (fs.map FileV.key=gs.map FileV.key))/\H=[]:=by
 refine Tri.free2 fun R HR=>?_
 obtain ⟨hv,hb⟩:=hv
 obtain ⟨hw,hc⟩:=hw
 have hlm:=maxI hv.2.2.1
 have hkl:=fun h:fs.map FileV.key=gs.map FileV.key=>(by have:=congrArg List.length h;simpa using this:fs.length=gs.length)
 refine ae Tryz.func23 Tryz.ntmps23 ?_
 repeat' (first|refine aw0m ?_|(refine ap2 ?_ ?_<;>try intro h)|refine aw1m ?_|(refine abx ?_;intro bb)|(refine abz ?_;intro bz)|(refine ahv ?_;intro v' hv')|(refine aac ?_;intro ac cc)|refine aw2 ?_|(refine ap4 ?_ ?_<;>try intro h)|apply True.intro)
 · ((with_reducible apply fp_ret);exact res_1 rfl rfl)
   exact HR.out _ _ _ [] atks ⟨by rw [decide_eq_false];intro e;have:=hkl e;omega,rfl⟩
 · refine sw_loop (fun gm t H' => ∃ k:Nat,gm=fs.length+1 - k/\(k<=fs.length)/\((fs.take k).map FileV.key=(gs.take k).map FileV.key)/\(∃ G,Takes [] H' G)/\Sls t 27 [(0,v),(1,w),(5,.int .i64 k)]) _ ⟨0,rfl,Nat.zero_le _,by simp,⟨[],atks⟩,asls⟩ ?_
   rintro gm t H' ⟨k,rfl,hk,ht,⟨G,hp⟩,hs'⟩
   revert t;refine sls_all ?_;iterate 24 intro uu'
   refine sw_takeG hp ?_;clear hp
   by_cases hlt:k<fs.length
   · have hb1:=hb (fs.getD k default) (getD_mem hlt)
     have hc1:=hc (gs.getD k default) (getD_mem (by omega))
     repeat' (first|refine aw0m ?_|(refine ap2 ?_ ?_<;>try intro h)|(first|((with_reducible apply sw_draw (id:=6) 10 [(0,true),(1,true),(2,true),(3,true),(4,true),(5,true),(6,true),(7,true),(8,false),(9,true)] [] []);kernel_rfl;(exact atks);kernel_rfl;intro r' hl'))|(refine acl Tryz.func48 ?_;refine acr (sameFile_any _ _ _ (hb1.mono hl'.1) (hc1.mono hl'.1)) ?_;rintro v' H' ⟨rfl,rfl⟩;refine apl ?_)|(refine acl Tryz.func48 ?_;refine acr (sameFile_any _ _ _ hb1 hc1) ?_;rintro v' H' ⟨rfl,rfl⟩;refine apl ?_)|refine aw1m ?_|(refine abx ?_;intro bb)|(refine abz ?_;intro bz)|(refine ahv ?_;intro v' hv')|(refine aac ?_;intro ac cc)|refine aw2 ?_|(refine ap4 ?_ ?_<;>try intro h)|apply True.intro)
     all_goals first
      | (exact ⟨_,by omega,k+1,rfl,by omega,key_eqD ht hlt (by omega) h.1 h.2,⟨_,atks⟩,asls⟩)
      | (((with_reducible apply fp_ret);exact res_1 rfl rfl)
         exact HR.out _ _ _ [] atks ⟨by rw [decide_eq_false];intro e;have h3:=key_at e hlt;rcases h with h|h;exact h h3.1;exact h h3.2,rfl⟩)
   · repeat' (first|refine aw0m ?_|(refine ap2 ?_ ?_<;>try intro h)|exact xf|refine aw1m ?_|(refine abx ?_;intro bb)|(refine abz ?_;intro bz)|(refine ahv ?_;intro v' hv')|(refine aac ?_;intro ac cc)|refine aw2 ?_|(refine ap4 ?_ ?_<;>try intro h)|apply True.intro)
     ((with_reducible apply fp_ret);exact res_1 rfl rfl)
     exact HR.out _ _ _ [] atks ⟨by rw [decide_eq_true];rwa [List.take_of_length_le (by omega),List.take_of_length_le (by omega)] at ht,rfl⟩
theorem apartPl_any (r:Hp) (g:Nat) (w:Value) (P:List Rowpl) (hn:P.length<=1000000) (hl : ∀ x∈P,x.l.length<=100000000):Tri Tryz.prog r 50 [.pointer (some ⟨g,0,none⟩)] [pt g (bagP w (.slice none 0 0)),RowC 62 1 w P.length (P.flatMap encRpl),Fam P.length (fpl1 P) (fpl0 P) 0] fun w H=>w = .bool true/\H=[]:=by
 refine Tri.free2 fun R HR=>?_
 refine ae Tryz.func50 Tryz.ntmps50 ?_
 repeat' (first|refine aw0m ?_|(refine ap2 ?_ ?_<;>try intro h)|refine aw1m ?_|(refine abx ?_;intro bb)|(refine abz ?_;intro bz)|(refine ahv ?_;intro v' hv')|(refine aac ?_;intro ac cc)|refine aw2 ?_|(refine ap4 ?_ ?_<;>try intro h)|apply True.intro)
 simp only [List.append_eq,List.cons_append,List.nil_append]
 repeat' (first|((with_reducible apply kx_lendC (A:=RowC 62 1 w P.length (P.flatMap encRpl)));(exact atk);intro r1 g1 hr1 hg1 hA1;(refine acl Tryz.func112 ?_;refine acr (flatPlaces_any r1 w P ⟨fun _=>rfl,hA1.sl hg1⟩ hn hl) ?_;rintro v' H' ⟨rfl,rfl⟩;refine apl ?_))|(refine acl Tryz.func100 ?_;refine acr (flatLimbs_nil _) ?_;rintro v' H' ⟨rfl,rfl⟩;refine apl ?_)|(refine acl Tryz.func101 ?_;refine acr (flatWords_nil _) ?_;rintro v' H' ⟨rfl,rfl⟩;refine apl ?_)|(refine acl Tryz.func102 ?_;refine acr (flatInts_nil _) ?_;rintro v' H' ⟨rfl,rfl⟩;refine apl ?_)|(refine acl Tryz.func103 ?_;refine acr (flatLongs_nil _) ?_;rintro v' H' ⟨rfl,rfl⟩;refine apl ?_)|(refine acl Tryz.func104 ?_;refine acr (flatTexts_nil _) ?_;rintro v' H' ⟨rfl,rfl⟩;refine apl ?_)|(refine acl Tryz.func105 ?_;refine acr (flatBytes_nil _) ?_;rintro v' H' ⟨rfl,rfl⟩;refine apl ?_)|(refine acl Tryz.func106 ?_;refine acr (flatTruths_nil _) ?_;rintro v' H' ⟨rfl,rfl⟩;refine apl ?_)|(refine acl Tryz.func107 ?_;refine acr (flatNodes_nil _) ?_;rintro v' H' ⟨rfl,rfl⟩;refine apl ?_)|(refine acl Tryz.func108 ?_;refine acr (flatInsts_nil _) ?_;rintro v' H' ⟨rfl,rfl⟩;refine apl ?_)|(refine acl Tryz.func109 ?_;refine acr (flatQueries_nil _) ?_;rintro v' H' ⟨rfl,rfl⟩;refine apl ?_)|(refine acl Tryz.func110 ?_;refine acr (flatFiles_nil _) ?_;rintro v' H' ⟨rfl,rfl⟩;refine apl ?_)|(refine acl Tryz.func111 ?_;refine acr (flatDocs_nil _) ?_;rintro v' H' ⟨rfl,rfl⟩;refine apl ?_)|(refine acl Tryz.func113 ?_;refine acr (flatPostings_nil _) ?_;rintro v' H' ⟨rfl,rfl⟩;refine apl ?_)|(refine acl Tryz.func114 ?_;refine acr (flatShardRefs_nil _) ?_;rintro v' H' ⟨rfl,rfl⟩;refine apl ?_)|(refine acl Tryz.func115 ?_;refine acr (flatManifests_nil _) ?_;rintro v' H' ⟨rfl,rfl⟩;refine apl ?_)|(refine acl Tryz.func116 ?_;refine acr (flatAsks_nil _) ?_;rintro v' H' ⟨rfl,rfl⟩;refine apl ?_)|(refine acl Tryz.func117 ?_;refine acr (flatHits_nil _) ?_;rintro v' H' ⟨rfl,rfl⟩;refine apl ?_)|(refine acl Tryz.func118 ?_;refine acr (flatAnswers_nil _) ?_;rintro v' H' ⟨rfl,rfl⟩;refine apl ?_)|(refine acl Tryz.func119 ?_;refine acr (flatParts_nil _) ?_;rintro v' H' ⟨rfl,rfl⟩;refine apl ?_)|(refine acl Tryz.func120 ?_;refine acr (flatChanges_nil _) ?_;rintro v' H' ⟨rfl,rfl⟩;refine apl ?_)|refine aw0 ?_|(refine ap2 ?_ ?_<;>try intro h)|refine aw1 ?_|(refine abx ?_;intro bb)|(refine abz ?_;intro bz)|(refine ahv ?_;intro v' hv')|(refine aac ?_;intro ac cc)|refine aw2 ?_|(refine ap4 ?_ ?_<;>try intro h)|apply True.intro)
 ((with_reducible apply fp_ret);exact res_1 rfl rfl)
 exact HR.out _ _ _ [] atks ⟨rfl,rfl⟩
theorem apartPlacesN (r:Hp) (v:Value) (P:List Rowpl) (hv:Els r 1 encRpl v P) (hn:P.length<=1000000) (hl : ∀ x∈P,x.l.length<=100000000):Tri Tryz.prog r 59 [v] (famL P.length (fpl1 P) (fpl0 P) 0) fun w H=>w = .bool true/\H=[]:=by
 refine tri_pack ?_
 rw [show (fun h=>all (famL P.length (fpl1 P) (fpl0 P) 0) h)=Fam P.length (fpl1 P) (fpl0 P) 0 from rfl]
 refine Tri.free2 fun R HR=>?_
 refine ae Tryz.func59 Tryz.ntmps59 ?_
 refine sw_put (A:=RowC 62 1 (.slice none 0 0) 0 []) (RowC.nil _ _) ?_
 repeat' (first|refine aw0m ?_|(refine ap2 ?_ ?_<;>try intro h)|refine aw1m ?_|(refine abx ?_;intro bb)|(refine abz ?_;intro bz)|(refine ahv ?_;intro v' hv')|(refine aac ?_;intro ac cc)|refine aw2 ?_|(refine ap4 ?_ ?_<;>try intro h)|apply True.intro)
 refine sw_loop (fun gm t H' => ∃ (k:Nat) (w:Value),gm=P.length+1 - k/\(k<=P.length)/\(∃ G,Takes [pt bb (bagP w (.slice none 0 0)),RowC 62 1 w k ((P.take k).flatMap encRpl),Fam P.length (fpl1 P) (fpl0 P) 0] H' G)/\Sls t 21 [(0,v),(3,.pointer (some ⟨bb,0,none⟩)),(4,.int .i64 k)]) _ ⟨0,_,rfl,Nat.zero_le _,⟨[],atks⟩,asls⟩ ?_
 rintro gm t H' ⟨k,w,rfl,hk,⟨G,hp⟩,hs'⟩
 revert t;refine sls_all ?_;iterate 18 intro uu'
 refine sw_takeG hp ?_;clear hp
 by_cases hlt:k<P.length
 · repeat' (first|(refine acl Tryz.func129 ?_;refine acr (putPlaces_any r bb w (.slice none 0 0) k ((P.take k).flatMap encRpl) (P.getD k default).a (P.getD k default).l.length (P.getD k default).c (by omega)) ?_;rintro v' H' ⟨a1,c1,rfl⟩;refine apl ?_)|refine aw0 ?_|(refine ap2 ?_ ?_<;>try intro h)|refine aw1 ?_|(refine abx ?_;intro bb)|(refine abz ?_;intro bz)|(refine ahv ?_;intro v' hv')|(refine aac ?_;intro ac cc)|refine aw2 ?_|(refine ap4 ?_ ?_<;>try intro h)|apply True.intro)
   exact ⟨_,by omega,k+1,.slice a1 (k+1) c1,rfl,by omega,⟨_,by rw [take_getD (d:=default) hlt,List.flatMap_append];(exact atks)⟩,asls⟩
 · obtain rfl:k=P.length:=by omega
   rw [List.take_length]
   repeat' (first|(refine acl Tryz.func50 ?_;refine acr (apartPl_any r bb w P hn hl) ?_;rintro v' H' ⟨rfl,rfl⟩;refine apl ?_)|refine aw0 ?_|(refine ap2 ?_ ?_<;>try intro h)|refine aw1 ?_|(refine abx ?_;intro bb)|(refine abz ?_;intro bz)|(refine ahv ?_;intro v' hv')|(refine aac ?_;intro ac cc)|refine aw2 ?_|(refine ap4 ?_ ?_<;>try intro h)|apply True.intro)
   ((with_reducible apply fp_ret);exact res_1 rfl rfl)
   exact HR.out _ _ _ [] atks ⟨rfl,rfl⟩
theorem apartPlaces_any (r:Hp) (v:Value) (a b:Option Addr) (c d:Nat) (l m:List PlaceV) (hv:Sl r 1 v 2 [.slice a l.length c,.slice b m.length d]) (hl:l.length<=100000000) (hm:m.length<=100000000):Tri Tryz.prog r 59 [v] [RowC 149 2 (.slice a l.length c) l.length (l.flatMap encPl),RowC 149 2 (.slice b m.length d) m.length (m.flatMap encPl)] fun w H=>w = .bool true/\H=[]:=by
 have h:=apartPlacesN r v [⟨a,c,l⟩,⟨b,d,m⟩] ⟨fun _=>rfl,hv⟩ (by simp) (fun x hx=>by
  rcases List.mem_cons.1 hx with rfl|hx
  · exact hl
  · obtain rfl:=List.mem_singleton.1 hx;exact hm)
 have hF:=famL_all ([⟨a,c,l⟩,⟨b,d,m⟩]:List Rowpl) (fpl1 [⟨a,c,l⟩,⟨b,d,m⟩]) (fpl0 [⟨a,c,l⟩,⟨b,d,m⟩]) (fun x=>RowC 149 2 (.slice x.a x.l.length x.c) x.l.length (x.l.flatMap encPl)) (fun j hj=>by unfold fpl0;rw [halfpl_start])
 rw [hF] at h
 exact h
end Go.Proofs.YtohpeoakdgckfaaGreat
