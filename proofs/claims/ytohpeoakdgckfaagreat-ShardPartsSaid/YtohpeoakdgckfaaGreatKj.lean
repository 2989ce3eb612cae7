/- mudlarkkit: Same, Lent, Kept of files; SameDocs; FilesOf: their contracts. -/
import Derived.Test.YtohpeoakdgckfaaGreatLt
import Derived.Test.YtohpeoakdgckfaaGreatDb
import Derived.Test.YtohpeoakdgckfaaGreatTw
import Derived.Test.YtohpeoakdgckfaaGreatFb
import Derived.Test.YtohpeoakdgckfaaGreatFp
import Derived.Test.YtohpeoakdgckfaaGreatAb
import Derived.Test.YtohpeoakdgckfaaGreatGp
import Derived.Test.YtohpeoakdgckfaaGreatIn
set_option maxHeartbeats 2000000
set_option maxRecDepth 10000
namespace Go.Proofs.YtohpeoakdgckfaaGreat
open Go.RowKit Sx
abbrev rwr (v:Value) (bad:Bool):Obj:= .cells [v,.bool bad].toArray 85 (0,0)
theorem zii (a:Option Addr) (c:Nat) (l:List UInt8) (b:UInt8) (i:Int) (hi:i=(b.toNat:Nat)):U8R (.slice a (l.length+1) c) (l++[b])=RowC 5 1 (.slice a (l.length+1) c) (l.length+1) (u8s l++[.int .u8 i]):=by
 subst hi
 unfold U8R
 rw [List.length_append]
 simp [u8s]
theorem zlp (a:Option Addr) (c:Nat) (l p:List UInt8):U8R (.slice a (l.length+p.length) c) (l++p)=RowC 5 1 (.slice a (l.length+p.length) c) (l.length+p.length) (u8s l++u8s p):=by
 unfold U8R
 rw [List.length_append]
 simp [u8s]
theorem u8_lt {n:Nat} (h:n<256):((UInt8.ofNat n).toNat:Nat)=n:=by simp;omega
theorem z2r (r:Hp) (g:Nat) (v:Value) (l:List UInt8) (n:Nat) (hn:n<=maxNum) (hl:l.length<=60000000000000):Tri Tryz.prog r 97 [.pointer (some ⟨g,0,none⟩),.int .i64 n] [pt g (rwr v false),U8R v l] fun _ H => ∃ v',H=[pt g (rwr v' false),U8R v' (l++septs n)]:=by
 refine Tri.free2 fun R HR=>?_
 have h6:=z09 hn
 unfold maxNum at hn
 refine ae Tryz.func97 Tryz.ntmps97 ?_
 repeat' (first|refine aw0m ?_|(refine ap2 ?_ ?_<;>try intro h)|refine aw1m ?_|(refine abx ?_;intro bb)|(refine abz ?_;intro bz)|(refine ahv ?_;intro v' hv')|(refine aac ?_;intro ac cc)|refine aw2 ?_|(refine ap4 ?_ ?_<;>try intro h)|apply True.intro)
 refine z04 (fun gm t H' => ∃ (m:Nat) (p:List UInt8) (w:Value),gm=m+1/\(m<=1099511627776)/\(septs n=p++septs m)/\(∃ G,Takes [pt g (rwr w false),U8R w (l++p)] H' G)/\Sls t 41 [(0,.pointer (some ⟨g,0,none⟩)),(1,.int .i64 m)]) _ ⟨n,[],v,rfl,hn,rfl,⟨[],by rw [List.append_nil];(exact atks)⟩,asls⟩ ?_
 rintro gm t H' ⟨m,p,w,rfl,hm,hp1,⟨G,hp⟩,hs'⟩
 revert t;refine z06 ?_;iterate 39 intro uu'
 refine z01 hp ?_;clear hp
 have h7:(l++p).length<=60000000000006:=by
  have:=congrArg List.length hp1
  rw [List.length_append] at this ⊢
  omega
 by_cases hlt:m<128
 · repeat' (first|(first|((with_reducible apply z0t);exact ty_el;exact z03;rfl;rfl;rfl;intro bz;(refine apk ?_))|((with_reducible apply z0y);exact ty_el;exact z03;rfl;rfl;rfl;intro bz;(refine apk ?_)))|(first|((with_reducible apply z0d);exact ty_el;exact z03;rfl;rfl;rfl;(exact atk);(exact atk);rfl;(omega);intro a' c';(refine apk ?_))|((with_reducible apply z0m);exact ty_el;exact z03;rfl;rfl;rfl;rfl;(exact atk);(exact atk);rfl;rfl;(omega);intro a' c';(refine apk ?_)))|refine aw0 ?_|(refine ap2 ?_ ?_<;>try intro h)|refine aw1 ?_|(refine abx ?_;intro bb)|(refine abz ?_;intro bz)|(refine ahv ?_;intro v' hv')|(refine aac ?_;intro ac cc)|refine aw2 ?_|(refine ap4 ?_ ?_<;>try intro h)|apply True.intro)
   ((with_reducible apply z1k);exact res_0 rfl)
   exact HR.out _ _ _ [pt g _,RowC 5 1 _ _ _] atks ⟨_,by rw [hp1,z1e hlt,← List.append_assoc,zii _ _ (l++p) _ _ (by rw [u8_lt (by omega)])]⟩
 · repeat' (first|(first|((with_reducible apply z0t);exact ty_el;exact z03;rfl;rfl;rfl;intro bz;(refine apk ?_))|((with_reducible apply z0y);exact ty_el;exact z03;rfl;rfl;rfl;intro bz;(refine apk ?_)))|(first|((with_reducible apply z0d);exact ty_el;exact z03;rfl;rfl;rfl;(exact atk);(exact atk);rfl;(omega);intro a' c';(refine apk ?_))|((with_reducible apply z0m);exact ty_el;exact z03;rfl;rfl;rfl;rfl;(exact atk);(exact atk);rfl;rfl;(omega);intro a' c';(refine apk ?_)))|refine aw0 ?_|(refine ap2 ?_ ?_<;>try intro h)|refine aw1 ?_|(refine abx ?_;intro bb)|(refine abz ?_;intro bz)|(refine ahv ?_;intro v' hv')|(refine aac ?_;intro ac cc)|refine aw2 ?_|(refine ap4 ?_ ?_<;>try intro h)|apply True.intro)
   exact ⟨_,by omega,m / 128,p++[UInt8.ofNat (m % 128+128)],.slice a' ((l++p).length+1) c',rfl,by omega,by rw [hp1,z3w hlt];simp,⟨_,by rw [← List.append_assoc,zii _ _ (l++p) _ (↑m % 128+128) (by rw [u8_lt (by omega)];omega)];(exact atks)⟩,asls⟩
theorem z7s (r:Hp) (g:Nat) (v:Value) (l:List UInt8) (pv:Value) (p:List UInt8) (hp:U8S r pv p) (hpl:p.length<=1000000) (hl:l.length<=50000000000000):Tri Tryz.prog r 65 [.pointer (some ⟨g,0,none⟩),pv] [pt g (rwr v false),U8R v l] fun _ H => ∃ v',H=[pt g (rwr v' false),U8R v' (l++texts p)]:=by
 refine Tri.free2 fun R HR=>?_
 have h6:=z09 (n:=p.length) (by unfold maxNum;omega)
 refine ae Tryz.func65 Tryz.ntmps65 ?_
 repeat' (first|(refine acl Tryz.func97 ?_;refine acr (z2r r g v l p.length (by unfold maxNum;omega) (by omega)) ?_;rintro v' H' ⟨v1,rfl⟩;refine apl ?_)|((with_reducible apply z0v (news:=u8s p));exact ty_el;exact z03;rfl;rfl;rfl;rfl;exact hp;(exact atk);exact z1y p;(unfold maxLen;rw [List.length_append];omega);(rw [List.length_append];omega);intro a' c';(refine apk ?_))|refine aw0 ?_|(refine ap2 ?_ ?_<;>try intro h)|refine aw1 ?_|(refine abx ?_;intro bb)|(refine abz ?_;intro bz)|(refine ahv ?_;intro v' hv')|(refine aac ?_;intro ac cc)|refine aw2 ?_|(refine ap4 ?_ ?_<;>try intro h)|apply True.intro)
 ((with_reducible apply z1k);exact res_0 rfl)
 exact HR.out _ _ _ [pt g _,RowC 5 1 _ _ _] atks ⟨_,by unfold texts;rw [← List.append_assoc,zlp]⟩
theorem z68 (r:Hp) (g:Nat) (v:Value) (l:List UInt8) (n:Nat) (_hn:n<4294967296) (hl:l.length<=50000000000000):Tri Tryz.prog r 66 [.pointer (some ⟨g,0,none⟩),.int .u32 n] [pt g (rwr v false),U8R v l] fun _ H => ∃ v',H=[pt g (rwr v' false),U8R v' (l++fixed n)]:=by
 refine Tri.free2 fun R HR=>?_
 have hfx:([.int .u8 (IntKind.u8.wrap n),.int .u8 (IntKind.u8.wrap (n / 2 ^ Int.toNat 8)),.int .u8 (IntKind.u8.wrap (n / 2 ^ Int.toNat 16)),.int .u8 (IntKind.u8.wrap (n / 2 ^ Int.toNat 24))]:List Value)=u8s (fixed n):=by
  simp [u8s,fixed,IntKind.wrap,IntKind.bits,IntKind.signed]
 refine ae Tryz.func66 Tryz.ntmps66 ?_
 repeat' (first|((with_reducible apply z0k [(bz,.cells [.int .u8 (IntKind.u8.wrap n),.int .u8 (IntKind.u8.wrap (n / 2 ^ Int.toNat 8)),.int .u8 (IntKind.u8.wrap (n / 2 ^ Int.toNat 16)),.int .u8 (IntKind.u8.wrap (n / 2 ^ Int.toNat 24))].toArray 5 (0,0))]);(exact atks);intro r' hl';(with_reducible apply z0v (news:=[.int .u8 (IntKind.u8.wrap n),.int .u8 (IntKind.u8.wrap (n / 2 ^ Int.toNat 8)),.int .u8 (IntKind.u8.wrap (n / 2 ^ Int.toNat 16)),.int .u8 (IntKind.u8.wrap (n / 2 ^ Int.toNat 24))]));exact ty_el;exact z03;rfl;rfl;rfl;rfl;exact (Sl.lit (n:=4) (Lent.h1 hl') rfl (by simp [maxLen]));(exact atk);rfl;(unfold maxLen;omega);(omega);intro a' c';(refine apk ?_))|refine aw0 ?_|(refine ap2 ?_ ?_<;>try intro h)|refine aw1 ?_|(refine abx ?_;intro bb)|(refine abz ?_;intro bz)|(refine ahv ?_;intro v' hv')|(refine aac ?_;intro ac cc)|refine aw2 ?_|(refine ap4 ?_ ?_<;>try intro h)|apply True.intro)
 ((with_reducible apply z1k);exact res_0 rfl)
 exact HR.out _ _ _ [pt g _,RowC 5 1 _ _ _] atks ⟨_,by rw [hfx];exact congrArg (fun x=>[pt g (rwr _ false),x]) (zlp _ _ l (fixed n)).symm⟩
end Go.Proofs.YtohpeoakdgckfaaGreat
namespace Go.Proofs.YtohpeoakdgckfaaGreat
open Go.RowKit
namespace Sx
section
variable {P : Program} {l : Option Nat} {r : Hp} {Q : Exit → St} {t : List Value} {H : List Ch}
theorem zlq {c:Code} {E:TypeId} {sz n:Nat} {v:Value} {xs:List Value} {H1:List Ch} (ht:Take (RowC E sz v n xs) H H1) (h:(∃ a cap,v = .slice a n cap)->SW P l r c Q t H):SW P l r c Q t H:=fun w g ds ok al=>by
 refine h ?_ w g ds ok al
 obtain ⟨x,y,dd,e,hx,hy⟩:=ht.all al
 rcases hx.2 with ⟨rfl,rfl,_⟩ | ⟨_,_,_,rfl,_⟩<;>exact ⟨_,_,rfl⟩
theorem zoh {c:Code} {E:TypeId} {sz n:Nat} {v:Value} {xs:List Value} {H1:List Ch} (ht:Take (RowM E sz v n xs) H H1) (h:(∃ a cap,v = .slice a n cap)->SW P l r c Q t H):SW P l r c Q t H:=fun w g ds ok al=>by
 refine h ?_ w g ds ok al
 obtain ⟨x,y,dd,e,hx,hy⟩:=ht.all al
 rcases hx.2 with ⟨rfl,rfl,_⟩ | ⟨_,_,_,_,rfl,_⟩<;>exact ⟨_,_,rfl⟩
end
end Sx
open Sx
abbrev U8M (v:Value) (l:List UInt8):Ch:=RowM 5 1 v l.length (u8s l)
theorem zij (a:Option Addr) (c:Nat) (l:List UInt8) (b:UInt8) (i:Int) (hi:i=(b.toNat:Nat)):U8M (.slice a (l.length+1) c) (l++[b])=RowM 5 1 (.slice a (l.length+1) c) (l.length+1) (u8s l++[.int .u8 i]):=by
 subst hi
 unfold U8M
 rw [List.length_append]
 simp [u8s]
theorem zr5 (a:Option Addr) (c:Nat) (l p:List UInt8):U8M (.slice a (l.length+p.length) c) (l++p)=RowM 5 1 (.slice a (l.length+p.length) c) (l.length+p.length) (u8s l++u8s p):=by
 unfold U8M
 rw [List.length_append]
 simp [u8s]
theorem z7t (r:Hp) (g:Nat) (v:Value) (l:List UInt8) (n:Nat) (hn:n<=maxNum) (hl:l.length<=60000000000000):Tri Tryz.prog r 97 [.pointer (some ⟨g,0,none⟩),.int .i64 n] [pt g (rwr v false),U8M v l] fun _ H => ∃ v',H=[pt g (rwr v' false),U8M v' (l++septs n)]:=by
 refine Tri.free2 fun R HR=>?_
 have h6:=z09 hn
 unfold maxNum at hn
 refine ae Tryz.func97 Tryz.ntmps97 ?_
 repeat' (first|refine aw0m ?_|(refine ap2 ?_ ?_<;>try intro h)|refine aw1m ?_|(refine abx ?_;intro bb)|(refine abz ?_;intro bz)|(refine ahv ?_;intro v' hv')|(refine aac ?_;intro ac cc)|refine aw2 ?_|(refine ap4 ?_ ?_<;>try intro h)|apply True.intro)
 refine z04 (fun gm t H' => ∃ (m:Nat) (p:List UInt8) (w:Value),gm=m+1/\(m<=1099511627776)/\(septs n=p++septs m)/\(∃ G,Takes [pt g (rwr w false),U8M w (l++p)] H' G)/\Sls t 41 [(0,.pointer (some ⟨g,0,none⟩)),(1,.int .i64 m)]) _ ⟨n,[],v,rfl,hn,rfl,⟨[],by rw [List.append_nil];(exact atks)⟩,asls⟩ ?_
 rintro gm t H' ⟨m,p,w,rfl,hm,hp1,⟨G,hp⟩,hs'⟩
 revert t;refine z06 ?_;iterate 39 intro uu'
 refine z01 hp ?_;clear hp
 have h7:(l++p).length<=60000000000006:=by
  have:=congrArg List.length hp1
  rw [List.length_append] at this ⊢
  omega
 by_cases hlt:m<128
 · repeat' (first|(first|((with_reducible apply z0t);exact ty_el;exact z03;rfl;rfl;rfl;intro bz;(refine apk ?_))|((with_reducible apply z0y);exact ty_el;exact z03;rfl;rfl;rfl;intro bz;(refine apk ?_)))|((with_reducible apply z0k [(bz,.cells [.int .u8 (m:Nat)].toArray 5 (0,0))]);(exact atks);intro r' hl';(with_reducible apply zhv (news:=[.int .u8 (m:Nat)]));exact ty_el;exact z03;rfl;rfl;rfl;rfl;exact (Sl.lit (n:=1) (Lent.h1 hl') rfl (by simp [maxLen]));(exact atk);rfl;omega;(unfold maxLen;omega);(omega);intro a' c';(refine apk ?_))|refine aw0 ?_|(refine ap2 ?_ ?_<;>try intro h)|refine aw1 ?_|(refine abx ?_;intro bb)|(refine abz ?_;intro bz)|(refine ahv ?_;intro v' hv')|(refine aac ?_;intro ac cc)|refine aw2 ?_|(refine ap4 ?_ ?_<;>try intro h)|apply True.intro)
   ((with_reducible apply z1k);exact res_0 rfl)
   exact HR.out _ _ _ [pt g _,RowM 5 1 _ _ _] atks ⟨_,by rw [hp1,z1e hlt,← List.append_assoc,zij _ _ (l++p) _ _ (by rw [u8_lt (by omega)])]⟩
 · repeat' (first|(first|((with_reducible apply z0t);exact ty_el;exact z03;rfl;rfl;rfl;intro bz;(refine apk ?_))|((with_reducible apply z0y);exact ty_el;exact z03;rfl;rfl;rfl;intro bz;(refine apk ?_)))|((with_reducible apply z0k [(bz,.cells [.int .u8 ((m:Int) % 128+128)].toArray 5 (0,0))]);(exact atks);intro r' hl';(with_reducible apply zhv (news:=[.int .u8 ((m:Int) % 128+128)]));exact ty_el;exact z03;rfl;rfl;rfl;rfl;exact (Sl.lit (n:=1) (Lent.h1 hl') rfl (by simp [maxLen]));(exact atk);rfl;omega;(unfold maxLen;omega);(omega);intro a' c';(refine apk ?_))|refine aw0 ?_|(refine ap2 ?_ ?_<;>try intro h)|refine aw1 ?_|(refine abx ?_;intro bb)|(refine abz ?_;intro bz)|(refine ahv ?_;intro v' hv')|(refine aac ?_;intro ac cc)|refine aw2 ?_|(refine ap4 ?_ ?_<;>try intro h)|apply True.intro)
   exact ⟨_,by omega,m / 128,p++[UInt8.ofNat (m % 128+128)],.slice a' ((l++p).length+1) c',rfl,by omega,by rw [hp1,z3w hlt];simp,⟨_,by rw [← List.append_assoc,zij _ _ (l++p) _ (↑m % 128+128) (by rw [u8_lt (by omega)];omega)];(exact atks)⟩,asls⟩
end Go.Proofs.YtohpeoakdgckfaaGreat
namespace Go.Proofs.YtohpeoakdgckfaaGreat
open Go.RowKit Sx
def Wide (r:Hp) (v:Value) (l:List UInt8):Prop := ∃ a c,v = .slice a l.length c/\l.length+12<=c/\Sl r 1 (.slice a (l.length+12) c) (l.length+12) (u8s (l++marksL 12))
theorem Sl.narrow {r:Hp} {sz n m c:Nat} {a:Option Addr} {xs:List Value} (h:Sl r sz (.slice a n c) n xs) (hm:m<=n):Sl r sz (.slice a m c) m (xs.take (m*sz)):=by
 have h1:=h.1
 have h2:=h.2.1
 have hms:m*sz<=n*sz:=Nat.mul_le_mul_right _ hm
 refine ⟨by simp;omega,by omega,?_⟩
 rcases h.2.2 with ⟨e,rfl⟩ | ⟨b,off,cap,cc,E,fz,e,h3,h4,h5⟩
 · obtain ⟨a',e⟩:=e
   injection e with e1 e2 e3;subst e1;subst e3
   left;obtain rfl:m=0:=by omega
   exact ⟨⟨a,rfl⟩,rfl⟩
 · injection e with e1 e2 e3;subst e1;subst e3
   refine .inr ⟨b,off,_,cc,E,fz,rfl,by omega,h4,fun j hj=>?_⟩
   simp only [List.length_take] at hj
   rw [h5 j (by omega)];simp
theorem Wide.sl {r:Hp} {v:Value} {l:List UInt8} (h:Wide r v l):U8S r v l:=by
 obtain ⟨a,c,rfl,hc,hs⟩:=h
 have:=Sl.narrow (m:=l.length) hs (by omega)
 unfold U8S;rw [show (u8s (l++marksL 12)).take (l.length*1)=u8s l by simp [u8s]] at this;exact this
theorem Wide.mono {r r':Hp} {v:Value} {l:List UInt8} (h:Wide r v l) (hr:sub r r'):Wide r' v l:=by
 obtain ⟨a,c,e,hc,hs⟩:=h;exact ⟨a,c,e,hc,hs.mono hr⟩
theorem Wide.of {l:List UInt8} {a:Option Addr} {c:Nat} {g r:Hp} (h:RowC 5 1 (.slice a (l.length+12) c) (l.length+12) (u8s (l++marksL 12)) g) (hs:sub g r):Wide r (.slice a l.length c) l :=
 ⟨a,c,rfl,(RowC.cap h).1,h.sl hs⟩
theorem zek (r:Hp) (v w:Value) (l:List UInt8) (hv:Wide r v l) (hw:U8S r w l):Tri Tryz.prog r 19 [v,w] [] fun u H=>u = .bool true/\H=[]:=by
 obtain ⟨a,c,rfl,hc,hs⟩:=hv
 exact zct r a c w l hc (by unfold U8S;rw [show (l++marksL 12).length=l.length+12 by simp [marksL]];exact hs) hw
structure LpV where
 gram:List UInt8
 a:Option Addr
 c:Nat
 pl:List PlaceV
 deriving Inhabited
def wideP (x:LpV):Ch:=RowC 149 2 (.slice x.a (x.pl.length+12) x.c) (x.pl.length+12) ((x.pl++marksPl 12).flatMap encPl)
def WideP (r:Hp) (x:LpV):Prop:=x.pl.length+12<=x.c/\Els r 2 encPl (.slice x.a (x.pl.length+12) x.c) (x.pl++marksPl 12)
theorem WideP.of {x:LpV} {g r:Hp} (h:wideP x g) (hs:sub g r):WideP r x :=
 ⟨(RowC.cap h).1,⟨fun _=>rfl,by rw [List.length_append,zh1];exact h.sl hs⟩⟩
theorem WideP.mono {r r':Hp} {x:LpV} (h:WideP r x) (hr:sub r r'):WideP r' x:=⟨h.1,h.2.mono hr⟩
abbrev bagP (w u:Value):Obj:= .cells [.slice none 0 0,.slice none 0 0,.slice none 0 0,.slice none 0 0,.slice none 0 0,.slice none 0 0,.slice none 0 0,.slice none 0 0,.slice none 0 0,.slice none 0 0,.slice none 0 0,.slice none 0 0,w,u,.slice none 0 0,.slice none 0 0,.slice none 0 0,.slice none 0 0,.slice none 0 0,.slice none 0 0,.slice none 0 0].toArray 110 (0,0)
theorem zcq (r:Hp):Tri Tryz.prog r 105 [.slice none 0 0] [] fun w H=>w = .bool true/\H=[] :=
 zc7 (A:=Fam 0 (fb1 []) (fb0 []) 0) rfl (z6l r _ [] ⟨fun _=>rfl,Sl.nil _ _⟩ (Nat.zero_le _) (fun x hx=>by cases hx))
theorem zcr (r:Hp) (g:Nat) (w u:Value) (n:Nat) (xs:List Value) (a:Option Addr) (m c:Nat) (hn:n<=1000000):Tri Tryz.prog r 129 [.pointer (some ⟨g,0,none⟩),.slice a m c] [pt g (bagP w u),RowC 62 1 w n xs] fun _ H => ∃ a' c',H=[pt g (bagP (.slice a' (n+1) c') u),RowC 62 1 (.slice a' (n+1) c') (n+1) (xs++[.slice a m c])]:=by
 refine Tri.free2 fun R HR=>?_
 refine ae Tryz.func129 Tryz.ntmps129 ?_
 repeat' (first|(first|((with_reducible apply z0t);exact ty_el;exact z03;rfl;rfl;rfl;intro bz;(refine apk ?_))|((with_reducible apply z0y);exact ty_el;exact z03;rfl;rfl;rfl;intro bz;(refine apk ?_)))|(first|((with_reducible apply z0d);exact ty_el;exact z03;rfl;rfl;rfl;(exact atk);(exact atk);rfl;(omega);intro a' c';(refine apk ?_))|((with_reducible apply z0m);exact ty_el;exact z03;rfl;rfl;rfl;rfl;(exact atk);(exact atk);rfl;rfl;(omega);intro a' c';(refine apk ?_)))|refine aw0 ?_|(refine ap2 ?_ ?_<;>try intro h)|refine aw1 ?_|(refine abx ?_;intro bb)|(refine abz ?_;intro bz)|(refine ahv ?_;intro v' hv')|(refine aac ?_;intro ac cc)|refine aw2 ?_|(refine ap4 ?_ ?_<;>try intro h)|apply True.intro)
 ((with_reducible apply z1k);exact res_0 rfl)
 exact HR.out _ _ _ [pt g _,RowC 62 1 _ _ _] atks ⟨_,_,rfl⟩
theorem zik {α:Type} [Inhabited α] (xs:List α) (A B:Nat->Ch) (F:α->Ch) (hF : ∀ j,j<xs.length->B j=F (xs.getD j default)):famL xs.length A B 0=xs.map F:=by
 apply List.ext_getElem?
 intro j
 by_cases hj:j<xs.length
 · rw [List.getElem?_eq_getElem (by rw [z2p];exact hj),z8c hj,if_neg (by omega),hF j hj,List.getElem?_map,List.getElem?_eq_getElem hj,List.getD_eq_getElem?_getD,List.getElem?_eq_getElem hj]
   rfl
 · rw [List.getElem?_eq_none (by rw [z2p];omega),List.getElem?_map,List.getElem?_eq_none (by omega)]
   rfl
theorem z3m (r:Hp) (f g:FileV) (hf:U8S r f.val f.data) (hg:U8S r g.val g.data):Tri Tryz.prog r 48 [.agg (encF f).toArray,.agg (encF g).toArray] [] fun u H=>u = .bool (decide (f.path=g.path) && decide (f.data=g.data))/\H=[]:=by
 refine Tri.free2 fun R HR=>?_
 unfold encF
 refine ae Tryz.func48 Tryz.ntmps48 ?_
 repeat' (first|refine aw0m ?_|(refine ap2 ?_ ?_<;>try intro h)|(refine acl Tryz.func12 ?_;refine acr (z21 r f.val g.val f.data g.data hf hg) ?_;rintro v' H' ⟨rfl,rfl⟩;refine apl ?_)|refine aw1m ?_|(refine abx ?_;intro bb)|(refine abz ?_;intro bz)|(refine ahv ?_;intro v' hv')|(refine aac ?_;intro ac cc)|refine aw2 ?_|(refine ap4 ?_ ?_<;>try intro h)|apply True.intro)
 · ((with_reducible apply z00);exact res_1 rfl rfl)
   exact HR.out _ _ _ [] atks ⟨by rw [decide_eq_true h];simp,rfl⟩
 · ((with_reducible apply z00);exact res_1 rfl rfl)
   exact HR.out _ _ _ [] atks ⟨by rw [decide_eq_false h];simp,rfl⟩
theorem zel (r:Hp) (f:FileV) (hf:U8S r f.val f.data) (hl:f.data.length<=1000000):Tri Tryz.prog r 29 [.agg (encF f).toArray] [] fun u H => ∃ a c,u = .agg (encF ⟨f.path,.slice a f.data.length c,f.data⟩).toArray/\H=[RowC 5 1 (.slice a (f.data.length+12) c) (f.data.length+12) (u8s (f.data++marksL 12))]:=by
 refine Tri.free2 fun R HR=>?_
 unfold encF
 refine ae Tryz.func29 Tryz.ntmps29 ?_
 repeat' (first|refine aw0m ?_|(refine ap2 ?_ ?_<;>try intro h)|(refine acl Tryz.func15 ?_;refine acr (z6x r f.val f.data hf hl) ?_;rintro v' H' ⟨a,c,rfl,rfl⟩;refine apl ?_)|refine aw1m ?_|(refine abx ?_;intro bb)|(refine abz ?_;intro bz)|(refine ahv ?_;intro v' hv')|(refine aac ?_;intro ac cc)|refine aw2 ?_|(refine ap4 ?_ ?_<;>try intro h)|apply True.intro)
 ((with_reducible apply z00);exact res_W rfl rfl atk z0a z08 rfl)
 exact HR.out _ _ _ [RowC _ _ _ _ _] atks ⟨a,c,rfl,rfl⟩
theorem zem (r:Hp) (f g:FileV) (hf:Wide r f.val f.data) (hg:U8S r g.val g.data) (hp:f.path=g.path) (hd:f.data=g.data):Tri Tryz.prog r 47 [.agg (encF f).toArray,.agg (encF g).toArray] [] fun u H=>u = .bool true/\H=[]:=by
 refine Tri.free2 fun R HR=>?_
 have h1:=z3m r f g hf.sl hg
 rw [decide_eq_true hp,decide_eq_true hd] at h1
 have h2:=zek r f.val g.val f.data hf (hd ▸ hg)
 unfold encF at h1 ⊢
 refine ae Tryz.func47 Tryz.ntmps47 ?_
 repeat' (first|refine aw0m ?_|(refine ap2 ?_ ?_<;>try intro h)|(refine acl Tryz.func48 ?_;refine acr (h1) ?_;rintro v' H' ⟨rfl,rfl⟩;refine apl ?_)|(refine acl Tryz.func19 ?_;refine acr (h2) ?_;rintro v' H' ⟨rfl,rfl⟩;refine apl ?_)|refine aw1m ?_|(refine abx ?_;intro bb)|(refine abz ?_;intro bz)|(refine ahv ?_;intro v' hv')|(refine aac ?_;intro ac cc)|refine aw2 ?_|(refine ap4 ?_ ?_<;>try intro h)|apply True.intro)
 all_goals
  ((with_reducible apply z00);exact res_1 rfl rfl)
  exact HR.out _ _ _ [] atks ⟨rfl,rfl⟩
theorem DocV.ext' {a b:DocV} (h1:a.path=b.path) (h2:a.lang=b.lang) (h3:a.sum=b.sum) (h4:a.size=b.size):a=b:=by
 cases a;cases b;simp_all
theorem zen (r:Hp) (v w:Value) (l m:List DocV) (hv:Docs r v l) (hw:Docs r w m):Tri Tryz.prog r 55 [v,w] [] fun u H=>u = .bool (decide (l=m))/\H=[]:=by
 refine Tri.free2 fun R HR=>?_
 have hlm:=maxI hv.2.2.1
 refine ae Tryz.func55 Tryz.ntmps55 ?_
 repeat' (first|refine aw0m ?_|(refine ap2 ?_ ?_<;>try intro h)|refine aw1m ?_|(refine abx ?_;intro bb)|(refine abz ?_;intro bz)|(refine ahv ?_;intro v' hv')|(refine aac ?_;intro ac cc)|refine aw2 ?_|(refine ap4 ?_ ?_<;>try intro h)|apply True.intro)
 · ((with_reducible apply z00);exact res_1 rfl rfl)
   exact HR.out _ _ _ [] atks ⟨by rw [decide_eq_false];rintro rfl;exact h rfl,rfl⟩
 · refine z04 (fun gm t H' => ∃ k:Nat,gm=l.length+1 - k/\(k<=l.length)/\(l.take k=m.take k)/\(∃ G,Takes [] H' G)/\Sls t 26 [(0,v),(1,w),(5,.int .i64 k)]) _ ⟨0,rfl,Nat.zero_le _,by simp,⟨[],atks⟩,asls⟩ ?_
   rintro gm t H' ⟨k,rfl,hk,ht,⟨G,hp⟩,hs'⟩
   revert t;refine z06 ?_;iterate 23 intro uu'
   refine z01 hp ?_;clear hp
   repeat' (first|refine aw0m ?_|(refine ap2 ?_ ?_<;>try intro h)|(first|((with_reducible apply z02 (id:=6) 9 [(0,true),(1,true),(2,true),(3,true),(4,true),(5,true),(6,true),(7,true),(8,true)] [] []);kernel_rfl;(exact atks);kernel_rfl;intro r' hl'))|refine aw1m ?_|(refine abx ?_;intro bb)|(refine abz ?_;intro bz)|(refine ahv ?_;intro v' hv')|(refine aac ?_;intro ac cc)|refine aw2 ?_|(refine ap4 ?_ ?_<;>try intro h)|apply True.intro)
   · ((with_reducible apply z00);exact res_1 rfl rfl)
     exact HR.out _ _ _ [] atks ⟨by rw [decide_eq_false];rintro rfl;simp at h,rfl⟩
   · exact ⟨_,by omega,k+1,rfl,by omega,z8t (d:=default) ht (by omega) (by omega) (DocV.ext' h.1 h.2.1 (by omega) h.2.2.2),⟨_,atks⟩,asls⟩
   · ((with_reducible apply z00);exact res_1 rfl rfl)
     exact HR.out _ _ _ [] atks ⟨by rw [decide_eq_true (z6j ht (by omega) (by omega))],rfl⟩
end Go.Proofs.YtohpeoakdgckfaaGreat
