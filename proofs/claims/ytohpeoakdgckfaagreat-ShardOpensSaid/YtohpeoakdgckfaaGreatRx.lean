/- mudlarkref02.Writer: Number, Text, Fixed: their contracts. mudlarkref02.Writer.Number at bytes that may be marked: its contract. -/
import Derived.Test.YtohpeoakdgckfaaGreatEm
import Derived.Test.YtohpeoakdgckfaaGreatPu
import Derived.Test.YtohpeoakdgckfaaGreatSx
import Derived.Test.YtohpeoakdgckfaaGreatPf
import Derived.Test.YtohpeoakdgckfaaGreatDb
import Derived.Test.YtohpeoakdgckfaaGreatTw
set_option maxHeartbeats 2000000
set_option maxRecDepth 10000
namespace Go.Proofs.YtohpeoakdgckfaaGreat
open Go.RowKit Sx
def markN (k i:Nat):Nat:=1000003*(k+7)+i
def markB (k i:Nat):UInt8:=UInt8.ofNat (markN k i*11400714819323198485 % 18446744073709551616 / 72057594037927936)
def markT (k i:Nat):List UInt8:=[35,UInt8.ofNat k,UInt8.ofNat (k / 256),UInt8.ofNat (k / 65536),47,UInt8.ofNat i,UInt8.ofNat (i / 256),UInt8.ofNat (i / 65536)]
def marksL (n:Nat):List UInt8:=(List.range n).map (markB 1)
theorem marksL_succ (n:Nat):marksL (n+1)=marksL n++[markB 1 n]:=by simp [marksL,List.range_succ]
theorem mark_any (r:Hp) (k i:Nat) (hk:k<=100000000:=by omega) (hi:i<=1000000000:=by omega):Tri Tryz.prog r 121 [.int .i64 k,.int .i64 i] [] fun w H=>w = .int .i64 (markN k i)/\H=[]:=by
 refine Tri.free fun R HR=>?_
 refine ae Tryz.func121 Tryz.ntmps121 ?_
 repeat' (first|refine aw0m ?_|(refine ap2 ?_ ?_<;>try intro h)|refine aw1m ?_|(refine abx ?_;intro bb)|(refine abz ?_;intro bz)|(refine ahv ?_;intro v' hv')|(refine aac ?_;intro ac cc)|refine aw2 ?_|(refine ap4 ?_ ?_<;>try intro h)|apply True.intro)
 ((with_reducible apply fp_ret);exact res_1 rfl rfl)
 exact HR.out _ [] _ _ atks ⟨by unfold markN;congr 1,rfl⟩
theorem markByte_any (r:Hp) (k i:Nat) (hk:k<=100000000:=by omega) (hi:i<=1000000000:=by omega):Tri Tryz.prog r 51 [.int .i64 k,.int .i64 i] [] fun w H=>w = .int .u8 (markB k i).toNat/\H=[]:=by
 refine Tri.free fun R HR=>?_
 have hm:markN k i<=200000000000000:=by unfold markN;omega
 refine ae Tryz.func51 Tryz.ntmps51 ?_
 repeat' (first|refine aw0m ?_|(refine ap2 ?_ ?_<;>try intro h)|(refine acl Tryz.func121 ?_;refine acr (mark_any r k i) ?_;rintro v' H' ⟨rfl,rfl⟩;refine apl ?_)|refine aw1m ?_|(refine abx ?_;intro bb)|(refine abz ?_;intro bz)|(refine ahv ?_;intro v' hv')|(refine aac ?_;intro ac cc)|refine aw2 ?_|(refine ap4 ?_ ?_<;>try intro h)|apply True.intro)
 ((with_reducible apply fp_ret);exact res_1 rfl rfl)
 refine HR.out _ [] _ _ atks ⟨?_,rfl⟩
 unfold markB
 generalize markN k i=m at *
 have h1:m*11400714819323198485 % 18446744073709551616 / 72057594037927936<256:=by
  have:m*11400714819323198485 % 18446744073709551616<18446744073709551616:=Nat.mod_lt _ (by omega)
  omega
 have h2:IntKind.u64.wrap ((m:Int)*11400714819323198485)=((m*11400714819323198485 % 18446744073709551616:Nat):Int):=by
  simp [IntKind.wrap,IntKind.signed,IntKind.bits]
 rw [h2,show (2:Int) ^ (56:Int).toNat=((72057594037927936:Nat):Int) from rfl,← Int.natCast_ediv,UInt8.toNat_ofNat',Nat.mod_eq_of_lt h1]
 simp only [IntKind.wrap,IntKind.signed,IntKind.bits]
 congr 1
 simp;omega
theorem lentBytes_any (r:Hp) (v:Value) (l:List UInt8) (hv:U8S r v l) (hl:l.length<=1000000):Tri Tryz.prog r 15 [v] [] fun w H => ∃ a c,w = .slice a l.length c/\H=[RowC 5 1 (.slice a (l.length+12) c) (l.length+12) (u8s (l++marksL 12))]:=by
 refine Tri.free fun R HR=>?_
 have hlm:=maxI hv.2.1
 refine ae Tryz.func15 Tryz.ntmps15 ?_
 repeat' (first|((with_reducible apply kx_make0 (c:=l.length+12));exact ty_el;exact ty_inf;rfl;rfl;(omega);(omega);intro bm;(refine apk ?_))|((with_reducible apply kx_appS (news:=u8s l));exact ty_el;exact ty_inf;rfl;rfl;rfl;rfl;exact hv;(exact atk);exact u8s_one l;(unfold maxLen;omega);(omega);intro a' c';(refine apk ?_))|refine aw0 ?_|(refine ap2 ?_ ?_<;>try intro h)|refine aw1 ?_|(refine abx ?_;intro bb)|(refine abz ?_;intro bz)|(refine ahv ?_;intro v' hv')|(refine aac ?_;intro ac cc)|refine aw2 ?_|(refine ap4 ?_ ?_<;>try intro h)|apply True.intro)
 simp only [Nat.zero_add,List.nil_append]
 refine sw_loop (fun gm t H' => ∃ (k:Nat) (a:Option Addr) (c:Nat),gm=13 - k/\(k<=12)/\(∃ G,Takes [RowC 5 1 (.slice a (l.length+k) c) (l.length+k) (u8s (l++marksL k))] H' G)/\Sls t 25 [(0,v),(3,.slice a (l.length+k) c),(4,.int .i64 k)]) _ ⟨0,a',c',rfl,Nat.zero_le _,⟨[],by rw [show marksL 0=[] from rfl,List.append_nil];(exact atks)⟩,asls⟩ ?_
 rintro gm t H' ⟨k,a,c,rfl,hk,⟨G,hp⟩,hs'⟩
 revert t;refine sls_all ?_;iterate 22 intro uu'
 refine sw_takeG hp ?_;clear hp
 refine sw_fact atk (fun g h=>RowC.cap h) ?_
 rintro ⟨hcap,hcm⟩
 have hcm:=maxI hcm
 repeat' (first|refine aw0m ?_|(refine ap2 ?_ ?_<;>try intro h)|(refine acl Tryz.func51 ?_;refine acr (markByte_any r 1 k) ?_;rintro v' H' ⟨rfl,rfl⟩;refine apl ?_)|(first|((with_reducible apply kx_bs1);exact ty_el;exact ty_inf;rfl;rfl;rfl;intro bz;(refine apk ?_))|((with_reducible apply kx_bsN);exact ty_el;exact ty_inf;rfl;rfl;rfl;intro bz;(refine apk ?_)))|(first|((with_reducible apply kx_append1);exact ty_el;exact ty_inf;rfl;rfl;rfl;(exact atk);(exact atk);rfl;(omega);intro a' c';(refine apk ?_))|((with_reducible apply kx_appendN);exact ty_el;exact ty_inf;rfl;rfl;rfl;rfl;(exact atk);(exact atk);rfl;rfl;(omega);intro a' c';(refine apk ?_)))|refine aw1m ?_|(refine abx ?_;intro bb)|(refine abz ?_;intro bz)|(refine ahv ?_;intro v' hv')|(refine aac ?_;intro ac cc)|refine aw2 ?_|(refine ap4 ?_ ?_<;>try intro h)|apply True.intro)
 · exact ⟨_,by omega,k+1,a',c',rfl,by omega,⟨_,by rw [marksL_succ];simp only [u8s,List.map_append,List.map_cons,List.map_nil,List.append_assoc];(exact atks)⟩,asls⟩
 · obtain rfl:k=12:=by omega
   ((with_reducible apply fp_ret);exact res_1 rfl rfl)
   exact HR.out _ [] _ _ atks ⟨_,_,rfl,rfl⟩
theorem keptBytes_any (r:Hp) (a:Option Addr) (c:Nat) (w:Value) (l:List UInt8) (hc:l.length+12<=c) (hv:U8S r (.slice a (l.length+12) c) (l++marksL 12)) (hw:U8S r w l):Tri Tryz.prog r 19 [.slice a l.length c,w] [] fun u H=>u = .bool true/\H=[]:=by
 refine Tri.free fun R HR=>?_
 have hlen:(l++marksL 12).length=l.length+12:=by simp [marksL]
 have hlm:l.length+12<=9223372036854775807:=by have:=maxI hv.2.1;omega
 refine ae Tryz.func19 Tryz.ntmps19 ?_
 repeat' (first|refine aw0m ?_|(refine ap2 ?_ ?_<;>try intro h)|refine aw1m ?_|(refine abx ?_;intro bb)|(refine abz ?_;intro bz)|(refine ahv ?_;intro v' hv')|(refine aac ?_;intro ac cc)|refine aw2 ?_|(refine ap4 ?_ ?_<;>try intro h)|apply True.intro)
 refine sw_loop (fun gm t H' => ∃ k:Nat,gm=l.length+13 - k/\(k<=l.length+12)/\(∃ G,Takes [] H' G)/\Sls t 58 [(1,w),(5,.slice a (l.length+12) c),(6,.int .i64 k)]) _ ⟨0,rfl,Nat.zero_le _,⟨[],atks⟩,asls⟩ ?_
 rintro gm t H' ⟨k,rfl,hk,⟨G,hp⟩,hs'⟩
 revert t;refine sls_all ?_;iterate 55 intro uu'
 refine sw_takeG hp ?_;clear hp
 by_cases hkl:k<l.length
 · have he:(l++marksL 12).getD k 0=l.getD k 0:=by simp [List.getElem?_append_left hkl]
   repeat' (first|refine aw0m ?_|(refine ap2 ?_ ?_<;>try intro h)|(first|((with_reducible apply sw_draw (id:=7) 35 [(0,true),(1,true),(2,true),(3,true),(4,true),(5,true),(6,true),(7,true),(8,true),(9,true),(10,true),(11,true),(12,true),(13,true),(14,true),(15,true),(16,true),(17,true),(18,true),(19,true),(20,true),(21,true),(22,true),(23,true),(24,true),(25,true),(26,true),(27,true),(28,true),(29,true),(30,false),(31,true),(32,true),(33,true),(34,true)] [] []);kernel_rfl;(exact atks);kernel_rfl;intro r' hl'))|refine aw1m ?_|(refine abx ?_;intro bb)|(refine abz ?_;intro bz)|(refine ahv ?_;intro v' hv')|(refine aac ?_;intro ac cc)|refine aw2 ?_|(refine ap4 ?_ ?_<;>try intro h)|apply True.intro)
   all_goals first|(rw [he] at h;exact absurd rfl h)|exact ⟨_,by omega,k+1,rfl,by omega,⟨_,atks⟩,asls⟩
 · by_cases hk2:k<l.length+12
   · obtain ⟨j,rfl⟩ : ∃ j,k=l.length+j:=⟨k - l.length,by omega⟩
     have he:(l++marksL 12).getD (l.length+j) 0=markB 1 j:=by
      simp only [List.getD_eq_getElem?_getD]
      rw [List.getElem?_append_right (by omega)]
      simp [marksL,show j<12 by omega]
     repeat' (first|refine aw0m ?_|(refine ap2 ?_ ?_<;>try intro h)|(first|((with_reducible apply sw_draw (id:=7) 35 [(0,true),(1,true),(2,true),(3,true),(4,true),(5,true),(6,true),(7,true),(8,true),(9,true),(10,true),(11,true),(12,true),(13,true),(14,true),(15,true),(16,true),(17,true),(18,true),(19,true),(20,true),(21,true),(22,true),(23,true),(24,true),(25,true),(26,true),(27,true),(28,true),(29,true),(30,false),(31,true),(32,true),(33,true),(34,true)] [] []);kernel_rfl;(exact atks);kernel_rfl;intro r' hl'))|(refine acl Tryz.func51 ?_;refine acr (by rw [show (((l.length+j:Nat):Int) - (l.length:Nat))=((j:Nat):Int) by omega];exact markByte_any _ 1 j) ?_;rintro v' H' ⟨rfl,rfl⟩;refine apl ?_)|refine aw1m ?_|(refine abx ?_;intro bb)|(refine abz ?_;intro bz)|(refine ahv ?_;intro v' hv')|(refine aac ?_;intro ac cc)|refine aw2 ?_|(refine ap4 ?_ ?_<;>try intro h)|apply True.intro)
     all_goals first|(rw [he] at h;exact absurd rfl h)|exact ⟨_,by omega,l.length+j+1,rfl,by omega,⟨_,atks⟩,asls⟩
   · repeat' (first|refine aw0m ?_|(refine ap2 ?_ ?_<;>try intro h)|refine aw1m ?_|(refine abx ?_;intro bb)|(refine abz ?_;intro bz)|(refine ahv ?_;intro v' hv')|(refine aac ?_;intro ac cc)|refine aw2 ?_|(refine ap4 ?_ ?_<;>try intro h)|apply True.intro)
     ((with_reducible apply fp_ret);exact res_1 rfl rfl)
     exact HR.out _ [] _ _ atks ⟨rfl,rfl⟩
end Go.Proofs.YtohpeoakdgckfaaGreat
namespace Go.Proofs.YtohpeoakdgckfaaGreat
open Go.RowKit Sx
def markPl (k i:Nat):PlaceV:=⟨0,markN k i⟩
def marksPl (n:Nat):List PlaceV:=(List.range n).map (markPl 1)
theorem encPl_one (l:List PlaceV):(l.flatMap encPl).all one?=true:=by
 rw [List.all_eq_true]
 intro v hv
 obtain ⟨p,_,hp⟩:=List.mem_flatMap.1 hv
 simp only [encPl,List.mem_cons,List.not_mem_nil,or_false] at hp
 rcases hp with rfl|rfl<;>rfl
theorem markPlace_any (r:Hp) (k i:Nat) (hk:k<=100000000:=by omega) (hi:i<=1000000000:=by omega):Tri Tryz.prog r 166 [.int .i64 k,.int .i64 i] [] fun w H=>w = .agg [.int .i64 (0:Int),.int .i64 (markN k i:Nat)].toArray/\H=[]:=by
 refine Tri.free2 fun R HR=>?_
 refine ae Tryz.func166 Tryz.ntmps166 ?_
 repeat' (first|(refine acl Tryz.func121 ?_;refine acr (mark_any r k i) ?_;rintro v' H' ⟨rfl,rfl⟩;refine apl ?_)|refine aw0 ?_|(refine ap2 ?_ ?_<;>try intro h)|refine aw1 ?_|(refine abx ?_;intro bb)|(refine abz ?_;intro bz)|(refine ahv ?_;intro v' hv')|(refine aac ?_;intro ac cc)|refine aw2 ?_|(refine ap4 ?_ ?_<;>try intro h)|apply True.intro)
 ((with_reducible apply fp_ret);exact res_W rfl rfl atk ty_agg ty_size rfl)
 exact HR.out _ _ _ [] Takes.all ⟨rfl,rfl⟩
end Go.Proofs.YtohpeoakdgckfaaGreat
namespace Go.Proofs.YtohpeoakdgckfaaGreat
open Go.RowKit Sx
end Go.Proofs.YtohpeoakdgckfaaGreat
namespace Go.Proofs.YtohpeoakdgckfaaGreat
open Go.RowKit Sx
theorem samePlaces_any (r:Hp) (v w:Value) (l m:List PlaceV) (hv:Els r 2 encPl v l) (hw:Els r 2 encPl w m):Tri Tryz.prog r 57 [v,w] [] fun u H=>u = .bool (decide (l=m))/\H=[]:=by
 refine Tri.free2 fun R HR=>?_
 have hlm:=maxI hv.2.2.1
 refine ae Tryz.func57 Tryz.ntmps57 ?_
 repeat' (first|refine aw0m ?_|(refine ap2 ?_ ?_<;>try intro h)|refine aw1m ?_|(refine abx ?_;intro bb)|(refine abz ?_;intro bz)|(refine ahv ?_;intro v' hv')|(refine aac ?_;intro ac cc)|refine aw2 ?_|(refine ap4 ?_ ?_<;>try intro h)|apply True.intro)
 · ((with_reducible apply fp_ret);exact res_1 rfl rfl)
   exact HR.out _ _ _ [] atks ⟨by rw [decide_eq_false];rintro rfl;exact h rfl,rfl⟩
 · refine sw_loop (fun gm t H' => ∃ k:Nat,gm=l.length+1 - k/\(k<=l.length)/\(l.take k=m.take k)/\(∃ G,Takes [] H' G)/\Sls t 26 [(0,v),(1,w),(5,.int .i64 k)]) _ ⟨0,rfl,Nat.zero_le _,by simp,⟨[],atks⟩,asls⟩ ?_
   rintro gm t H' ⟨k,rfl,hk,ht,⟨G,hp⟩,hs'⟩
   revert t;refine sls_all ?_;iterate 23 intro uu'
   refine sw_takeG hp ?_;clear hp
   repeat' (first|refine aw0m ?_|(refine ap2 ?_ ?_<;>try intro h)|(first|((with_reducible apply sw_draw (id:=6) 9 [(0,true),(1,true),(2,true),(3,true),(4,true),(5,true),(6,true),(7,true),(8,true)] [] []);kernel_rfl;(exact atks);kernel_rfl;intro r' hl'))|refine aw1m ?_|(refine abx ?_;intro bb)|(refine abz ?_;intro bz)|(refine ahv ?_;intro v' hv')|(refine aac ?_;intro ac cc)|refine aw2 ?_|(refine ap4 ?_ ?_<;>try intro h)|apply True.intro)
   · ((with_reducible apply fp_ret);exact res_1 rfl rfl)
     exact HR.out _ _ _ [] atks ⟨by rw [decide_eq_false];rintro rfl;simp at h,rfl⟩
   · exact ⟨_,by omega,k+1,rfl,by omega,take_eqD (d:=default) ht (by omega) (by omega) (PlaceV.ext2 h.1 h.2),⟨_,atks⟩,asls⟩
   · ((with_reducible apply fp_ret);exact res_1 rfl rfl)
     exact HR.out _ _ _ [] atks ⟨by rw [decide_eq_true (take_all2 ht (by omega) (by omega))],rfl⟩
theorem map_getD {xs:List PostV} {k:Nat} (h:k<xs.length):(xs.map unP).getD k default=unP (xs.getD k default):=by
 rw [List.getD_eq_getElem?_getD,List.getD_eq_getElem?_getD,List.getElem?_map,List.getElem?_eq_getElem h];rfl
end Go.Proofs.YtohpeoakdgckfaaGreat
namespace Go.Proofs.YtohpeoakdgckfaaGreat
open Go.RowKit Sx
theorem marksPl_len (n:Nat):(marksPl n).length=n:=by simp [marksPl]
end Go.Proofs.YtohpeoakdgckfaaGreat
namespace Go.Proofs.YtohpeoakdgckfaaGreat
open Go.RowKit Sx
abbrev rwr (v:Value) (bad:Bool):Obj:= .cells [v,.bool bad].toArray 85 (0,0)
theorem u8r_snoc (a:Option Addr) (c:Nat) (l:List UInt8) (b:UInt8) (i:Int) (hi:i=(b.toNat:Nat)):U8R (.slice a (l.length+1) c) (l++[b])=RowC 5 1 (.slice a (l.length+1) c) (l.length+1) (u8s l++[.int .u8 i]):=by
 subst hi
 unfold U8R
 rw [List.length_append]
 simp [u8s]
theorem u8r_app (a:Option Addr) (c:Nat) (l p:List UInt8):U8R (.slice a (l.length+p.length) c) (l++p)=RowC 5 1 (.slice a (l.length+p.length) c) (l.length+p.length) (u8s l++u8s p):=by
 unfold U8R
 rw [List.length_append]
 simp [u8s]
theorem u8_lt {n:Nat} (h:n<256):((UInt8.ofNat n).toNat:Nat)=n:=by simp;omega
theorem rwnum_any (r:Hp) (g:Nat) (v:Value) (l:List UInt8) (n:Nat) (hn:n<=maxNum) (hl:l.length<=60000000000000):Tri Tryz.prog r 97 [.pointer (some ⟨g,0,none⟩),.int .i64 n] [pt g (rwr v false),U8R v l] fun _ H => ∃ v',H=[pt g (rwr v' false),U8R v' (l++septs n)]:=by
 refine Tri.free2 fun R HR=>?_
 have h6:=septs_len6 hn
 unfold maxNum at hn
 refine ae Tryz.func97 Tryz.ntmps97 ?_
 repeat' (first|refine aw0m ?_|(refine ap2 ?_ ?_<;>try intro h)|refine aw1m ?_|(refine abx ?_;intro bb)|(refine abz ?_;intro bz)|(refine ahv ?_;intro v' hv')|(refine aac ?_;intro ac cc)|refine aw2 ?_|(refine ap4 ?_ ?_<;>try intro h)|apply True.intro)
 refine sw_loop (fun gm t H' => ∃ (m:Nat) (p:List UInt8) (w:Value),gm=m+1/\(m<=1099511627776)/\(septs n=p++septs m)/\(∃ G,Takes [pt g (rwr w false),U8R w (l++p)] H' G)/\Sls t 41 [(0,.pointer (some ⟨g,0,none⟩)),(1,.int .i64 m)]) _ ⟨n,[],v,rfl,hn,rfl,⟨[],by rw [List.append_nil];(exact atks)⟩,asls⟩ ?_
 rintro gm t H' ⟨m,p,w,rfl,hm,hp1,⟨G,hp⟩,hs'⟩
 revert t;refine sls_all ?_;iterate 39 intro uu'
 refine sw_takeG hp ?_;clear hp
 have h7:(l++p).length<=60000000000006:=by
  have:=congrArg List.length hp1
  rw [List.length_append] at this ⊢
  omega
 by_cases hlt:m<128
 · repeat' (first|(first|((with_reducible apply kx_bs1);exact ty_el;exact ty_inf;rfl;rfl;rfl;intro bz;(refine apk ?_))|((with_reducible apply kx_bsN);exact ty_el;exact ty_inf;rfl;rfl;rfl;intro bz;(refine apk ?_)))|(first|((with_reducible apply kx_append1);exact ty_el;exact ty_inf;rfl;rfl;rfl;(exact atk);(exact atk);rfl;(omega);intro a' c';(refine apk ?_))|((with_reducible apply kx_appendN);exact ty_el;exact ty_inf;rfl;rfl;rfl;rfl;(exact atk);(exact atk);rfl;rfl;(omega);intro a' c';(refine apk ?_)))|refine aw0 ?_|(refine ap2 ?_ ?_<;>try intro h)|refine aw1 ?_|(refine abx ?_;intro bb)|(refine abz ?_;intro bz)|(refine ahv ?_;intro v' hv')|(refine aac ?_;intro ac cc)|refine aw2 ?_|(refine ap4 ?_ ?_<;>try intro h)|apply True.intro)
   ((with_reducible apply fp_end);exact res_0 rfl)
   exact HR.out _ _ _ [pt g _,RowC 5 1 _ _ _] atks ⟨_,by rw [hp1,septs_small hlt,← List.append_assoc,u8r_snoc _ _ (l++p) _ _ (by rw [u8_lt (by omega)])]⟩
 · repeat' (first|(first|((with_reducible apply kx_bs1);exact ty_el;exact ty_inf;rfl;rfl;rfl;intro bz;(refine apk ?_))|((with_reducible apply kx_bsN);exact ty_el;exact ty_inf;rfl;rfl;rfl;intro bz;(refine apk ?_)))|(first|((with_reducible apply kx_append1);exact ty_el;exact ty_inf;rfl;rfl;rfl;(exact atk);(exact atk);rfl;(omega);intro a' c';(refine apk ?_))|((with_reducible apply kx_appendN);exact ty_el;exact ty_inf;rfl;rfl;rfl;rfl;(exact atk);(exact atk);rfl;rfl;(omega);intro a' c';(refine apk ?_)))|refine aw0 ?_|(refine ap2 ?_ ?_<;>try intro h)|refine aw1 ?_|(refine abx ?_;intro bb)|(refine abz ?_;intro bz)|(refine ahv ?_;intro v' hv')|(refine aac ?_;intro ac cc)|refine aw2 ?_|(refine ap4 ?_ ?_<;>try intro h)|apply True.intro)
   exact ⟨_,by omega,m / 128,p++[UInt8.ofNat (m % 128+128)],.slice a' ((l++p).length+1) c',rfl,by omega,by rw [hp1,septs_big hlt];simp,⟨_,by rw [← List.append_assoc,u8r_snoc _ _ (l++p) _ (↑m % 128+128) (by rw [u8_lt (by omega)];omega)];(exact atks)⟩,asls⟩
theorem rwtext_any (r:Hp) (g:Nat) (v:Value) (l:List UInt8) (pv:Value) (p:List UInt8) (hp:U8S r pv p) (hpl:p.length<=1000000) (hl:l.length<=50000000000000):Tri Tryz.prog r 65 [.pointer (some ⟨g,0,none⟩),pv] [pt g (rwr v false),U8R v l] fun _ H => ∃ v',H=[pt g (rwr v' false),U8R v' (l++texts p)]:=by
 refine Tri.free2 fun R HR=>?_
 have h6:=septs_len6 (n:=p.length) (by unfold maxNum;omega)
 refine ae Tryz.func65 Tryz.ntmps65 ?_
 repeat' (first|(refine acl Tryz.func97 ?_;refine acr (rwnum_any r g v l p.length (by unfold maxNum;omega) (by omega)) ?_;rintro v' H' ⟨v1,rfl⟩;refine apl ?_)|((with_reducible apply kx_appS (news:=u8s p));exact ty_el;exact ty_inf;rfl;rfl;rfl;rfl;exact hp;(exact atk);exact u8s_one p;(unfold maxLen;rw [List.length_append];omega);(rw [List.length_append];omega);intro a' c';(refine apk ?_))|refine aw0 ?_|(refine ap2 ?_ ?_<;>try intro h)|refine aw1 ?_|(refine abx ?_;intro bb)|(refine abz ?_;intro bz)|(refine ahv ?_;intro v' hv')|(refine aac ?_;intro ac cc)|refine aw2 ?_|(refine ap4 ?_ ?_<;>try intro h)|apply True.intro)
 ((with_reducible apply fp_end);exact res_0 rfl)
 exact HR.out _ _ _ [pt g _,RowC 5 1 _ _ _] atks ⟨_,by unfold texts;rw [← List.append_assoc,u8r_app]⟩
theorem rwfixed_any (r:Hp) (g:Nat) (v:Value) (l:List UInt8) (n:Nat) (_hn:n<4294967296) (hl:l.length<=50000000000000):Tri Tryz.prog r 66 [.pointer (some ⟨g,0,none⟩),.int .u32 n] [pt g (rwr v false),U8R v l] fun _ H => ∃ v',H=[pt g (rwr v' false),U8R v' (l++fixed n)]:=by
 refine Tri.free2 fun R HR=>?_
 have hfx:([.int .u8 (IntKind.u8.wrap n),.int .u8 (IntKind.u8.wrap (n / 2 ^ Int.toNat 8)),.int .u8 (IntKind.u8.wrap (n / 2 ^ Int.toNat 16)),.int .u8 (IntKind.u8.wrap (n / 2 ^ Int.toNat 24))]:List Value)=u8s (fixed n):=by
  simp [u8s,fixed,IntKind.wrap,IntKind.bits,IntKind.signed]
 refine ae Tryz.func66 Tryz.ntmps66 ?_
 repeat' (first|((with_reducible apply kx_lend [(bz,.cells [.int .u8 (IntKind.u8.wrap n),.int .u8 (IntKind.u8.wrap (n / 2 ^ Int.toNat 8)),.int .u8 (IntKind.u8.wrap (n / 2 ^ Int.toNat 16)),.int .u8 (IntKind.u8.wrap (n / 2 ^ Int.toNat 24))].toArray 5 (0,0))]);(exact atks);intro r' hl';(with_reducible apply kx_appS (news:=[.int .u8 (IntKind.u8.wrap n),.int .u8 (IntKind.u8.wrap (n / 2 ^ Int.toNat 8)),.int .u8 (IntKind.u8.wrap (n / 2 ^ Int.toNat 16)),.int .u8 (IntKind.u8.wrap (n / 2 ^ Int.toNat 24))]));exact ty_el;exact ty_inf;rfl;rfl;rfl;rfl;exact (Sl.lit (n:=4) (Lent.h1 hl') rfl (by simp [maxLen]));(exact atk);rfl;(unfold maxLen;omega);(omega);intro a' c';(refine apk ?_))|refine aw0 ?_|(refine ap2 ?_ ?_<;>try intro h)|refine aw1 ?_|(refine abx ?_;intro bb)|(refine abz ?_;intro bz)|(refine ahv ?_;intro v' hv')|(refine aac ?_;intro ac cc)|refine aw2 ?_|(refine ap4 ?_ ?_<;>try intro h)|apply True.intro)
 ((with_reducible apply fp_end);exact res_0 rfl)
 exact HR.out _ _ _ [pt g _,RowC 5 1 _ _ _] atks ⟨_,by rw [hfx];exact congrArg (fun x=>[pt g (rwr _ false),x]) (u8r_app _ _ l (fixed n)).symm⟩
end Go.Proofs.YtohpeoakdgckfaaGreat
namespace Go.Proofs.YtohpeoakdgckfaaGreat
open Go.RowKit
namespace Sx
section
variable {P : Program} {l : Option Nat} {r : Hp} {Q : Exit → St} {t : List Value} {H : List Ch}
theorem sw_form {c:Code} {E:TypeId} {sz n:Nat} {v:Value} {xs:List Value} {H1:List Ch} (ht:Take (RowC E sz v n xs) H H1) (h:(∃ a cap,v = .slice a n cap)->SW P l r c Q t H):SW P l r c Q t H:=fun w g ds ok al=>by
 refine h ?_ w g ds ok al
 obtain ⟨x,y,dd,e,hx,hy⟩:=ht.all al
 rcases hx.2 with ⟨rfl,rfl,_⟩ | ⟨_,_,_,rfl,_⟩<;>exact ⟨_,_,rfl⟩
theorem sw_formM {c:Code} {E:TypeId} {sz n:Nat} {v:Value} {xs:List Value} {H1:List Ch} (ht:Take (RowM E sz v n xs) H H1) (h:(∃ a cap,v = .slice a n cap)->SW P l r c Q t H):SW P l r c Q t H:=fun w g ds ok al=>by
 refine h ?_ w g ds ok al
 obtain ⟨x,y,dd,e,hx,hy⟩:=ht.all al
 rcases hx.2 with ⟨rfl,rfl,_⟩ | ⟨_,_,_,_,rfl,_⟩<;>exact ⟨_,_,rfl⟩
end
end Sx
open Sx
abbrev U8M (v:Value) (l:List UInt8):Ch:=RowM 5 1 v l.length (u8s l)
theorem u8m_snoc (a:Option Addr) (c:Nat) (l:List UInt8) (b:UInt8) (i:Int) (hi:i=(b.toNat:Nat)):U8M (.slice a (l.length+1) c) (l++[b])=RowM 5 1 (.slice a (l.length+1) c) (l.length+1) (u8s l++[.int .u8 i]):=by
 subst hi
 unfold U8M
 rw [List.length_append]
 simp [u8s]
theorem u8m_app (a:Option Addr) (c:Nat) (l p:List UInt8):U8M (.slice a (l.length+p.length) c) (l++p)=RowM 5 1 (.slice a (l.length+p.length) c) (l.length+p.length) (u8s l++u8s p):=by
 unfold U8M
 rw [List.length_append]
 simp [u8s]
theorem rwnumM_any (r:Hp) (g:Nat) (v:Value) (l:List UInt8) (n:Nat) (hn:n<=maxNum) (hl:l.length<=60000000000000):Tri Tryz.prog r 97 [.pointer (some ⟨g,0,none⟩),.int .i64 n] [pt g (rwr v false),U8M v l] fun _ H => ∃ v',H=[pt g (rwr v' false),U8M v' (l++septs n)]:=by
 refine Tri.free2 fun R HR=>?_
 have h6:=septs_len6 hn
 unfold maxNum at hn
 refine ae Tryz.func97 Tryz.ntmps97 ?_
 repeat' (first|refine aw0m ?_|(refine ap2 ?_ ?_<;>try intro h)|refine aw1m ?_|(refine abx ?_;intro bb)|(refine abz ?_;intro bz)|(refine ahv ?_;intro v' hv')|(refine aac ?_;intro ac cc)|refine aw2 ?_|(refine ap4 ?_ ?_<;>try intro h)|apply True.intro)
 refine sw_loop (fun gm t H' => ∃ (m:Nat) (p:List UInt8) (w:Value),gm=m+1/\(m<=1099511627776)/\(septs n=p++septs m)/\(∃ G,Takes [pt g (rwr w false),U8M w (l++p)] H' G)/\Sls t 41 [(0,.pointer (some ⟨g,0,none⟩)),(1,.int .i64 m)]) _ ⟨n,[],v,rfl,hn,rfl,⟨[],by rw [List.append_nil];(exact atks)⟩,asls⟩ ?_
 rintro gm t H' ⟨m,p,w,rfl,hm,hp1,⟨G,hp⟩,hs'⟩
 revert t;refine sls_all ?_;iterate 39 intro uu'
 refine sw_takeG hp ?_;clear hp
 have h7:(l++p).length<=60000000000006:=by
  have:=congrArg List.length hp1
  rw [List.length_append] at this ⊢
  omega
 by_cases hlt:m<128
 · repeat' (first|(first|((with_reducible apply kx_bs1);exact ty_el;exact ty_inf;rfl;rfl;rfl;intro bz;(refine apk ?_))|((with_reducible apply kx_bsN);exact ty_el;exact ty_inf;rfl;rfl;rfl;intro bz;(refine apk ?_)))|((with_reducible apply kx_lend [(bz,.cells [.int .u8 (m:Nat)].toArray 5 (0,0))]);(exact atks);intro r' hl';(with_reducible apply kx_appM (news:=[.int .u8 (m:Nat)]));exact ty_el;exact ty_inf;rfl;rfl;rfl;rfl;exact (Sl.lit (n:=1) (Lent.h1 hl') rfl (by simp [maxLen]));(exact atk);rfl;omega;(unfold maxLen;omega);(omega);intro a' c';(refine apk ?_))|refine aw0 ?_|(refine ap2 ?_ ?_<;>try intro h)|refine aw1 ?_|(refine abx ?_;intro bb)|(refine abz ?_;intro bz)|(refine ahv ?_;intro v' hv')|(refine aac ?_;intro ac cc)|refine aw2 ?_|(refine ap4 ?_ ?_<;>try intro h)|apply True.intro)
   ((with_reducible apply fp_end);exact res_0 rfl)
   exact HR.out _ _ _ [pt g _,RowM 5 1 _ _ _] atks ⟨_,by rw [hp1,septs_small hlt,← List.append_assoc,u8m_snoc _ _ (l++p) _ _ (by rw [u8_lt (by omega)])]⟩
 · repeat' (first|(first|((with_reducible apply kx_bs1);exact ty_el;exact ty_inf;rfl;rfl;rfl;intro bz;(refine apk ?_))|((with_reducible apply kx_bsN);exact ty_el;exact ty_inf;rfl;rfl;rfl;intro bz;(refine apk ?_)))|((with_reducible apply kx_lend [(bz,.cells [.int .u8 ((m:Int) % 128+128)].toArray 5 (0,0))]);(exact atks);intro r' hl';(with_reducible apply kx_appM (news:=[.int .u8 ((m:Int) % 128+128)]));exact ty_el;exact ty_inf;rfl;rfl;rfl;rfl;exact (Sl.lit (n:=1) (Lent.h1 hl') rfl (by simp [maxLen]));(exact atk);rfl;omega;(unfold maxLen;omega);(omega);intro a' c';(refine apk ?_))|refine aw0 ?_|(refine ap2 ?_ ?_<;>try intro h)|refine aw1 ?_|(refine abx ?_;intro bb)|(refine abz ?_;intro bz)|(refine ahv ?_;intro v' hv')|(refine aac ?_;intro ac cc)|refine aw2 ?_|(refine ap4 ?_ ?_<;>try intro h)|apply True.intro)
   exact ⟨_,by omega,m / 128,p++[UInt8.ofNat (m % 128+128)],.slice a' ((l++p).length+1) c',rfl,by omega,by rw [hp1,septs_big hlt];simp,⟨_,by rw [← List.append_assoc,u8m_snoc _ _ (l++p) _ (↑m % 128+128) (by rw [u8_lt (by omega)];omega)];(exact atks)⟩,asls⟩
end Go.Proofs.YtohpeoakdgckfaaGreat
