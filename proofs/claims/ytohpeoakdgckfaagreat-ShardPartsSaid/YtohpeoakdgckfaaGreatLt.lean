/- mudlarkkit.markPlace, LentPlaces: their contracts. mudlarkkit.markPosting, LentPosting: their contracts. mudlarkkit: SamePlaces, SamePosting, SamePostings, PostingsOf; post.From's comparisons: their contracts. mudlarkkit.KeptPlaces, KeptPosting: their contracts. -/
import Derived.Test.YtohpeoakdgckfaaGreatEm
import Derived.Test.YtohpeoakdgckfaaGreatPu
import Derived.Test.YtohpeoakdgckfaaGreatSx
import Derived.Test.YtohpeoakdgckfaaGreatPf
set_option maxHeartbeats 2000000
set_option maxRecDepth 10000
namespace Go.Proofs.YtohpeoakdgckfaaGreat
open Go.RowKit Sx
def markN (k i:Nat):Nat:=1000003*(k+7)+i
def markB (k i:Nat):UInt8:=UInt8.ofNat (markN k i*11400714819323198485 % 18446744073709551616 / 72057594037927936)
def markT (k i:Nat):List UInt8:=[35,UInt8.ofNat k,UInt8.ofNat (k / 256),UInt8.ofNat (k / 65536),47,UInt8.ofNat i,UInt8.ofNat (i / 256),UInt8.ofNat (i / 65536)]
def marksL (n:Nat):List UInt8:=(List.range n).map (markB 1)
theorem zh0 (n:Nat):marksL (n+1)=marksL n++[markB 1 n]:=by simp [marksL,List.range_succ]
theorem zim (r:Hp) (k i:Nat) (hk:k<=100000000:=by omega) (hi:i<=1000000000:=by omega):Tri Tryz.prog r 121 [.int .i64 k,.int .i64 i] [] fun w H=>w = .int .i64 (markN k i)/\H=[]:=by
 refine Tri.free fun R HR=>?_
 refine ae Tryz.func121 Tryz.ntmps121 ?_
 repeat' (first|refine aw0m ?_|(refine ap2 ?_ ?_<;>try intro h)|refine aw1m ?_|(refine abx ?_;intro bb)|(refine abz ?_;intro bz)|(refine ahv ?_;intro v' hv')|(refine aac ?_;intro ac cc)|refine aw2 ?_|(refine ap4 ?_ ?_<;>try intro h)|apply True.intro)
 ((with_reducible apply z00);exact res_1 rfl rfl)
 exact HR.out _ [] _ _ atks ⟨by unfold markN;congr 1,rfl⟩
theorem z1d (r:Hp) (k i:Nat) (hk:k<=100000000:=by omega) (hi:i<=1000000000:=by omega):Tri Tryz.prog r 51 [.int .i64 k,.int .i64 i] [] fun w H=>w = .int .u8 (markB k i).toNat/\H=[]:=by
 refine Tri.free fun R HR=>?_
 have hm:markN k i<=200000000000000:=by unfold markN;omega
 refine ae Tryz.func51 Tryz.ntmps51 ?_
 repeat' (first|refine aw0m ?_|(refine ap2 ?_ ?_<;>try intro h)|(refine acl Tryz.func121 ?_;refine acr (zim r k i) ?_;rintro v' H' ⟨rfl,rfl⟩;refine apl ?_)|refine aw1m ?_|(refine abx ?_;intro bb)|(refine abz ?_;intro bz)|(refine ahv ?_;intro v' hv')|(refine aac ?_;intro ac cc)|refine aw2 ?_|(refine ap4 ?_ ?_<;>try intro h)|apply True.intro)
 ((with_reducible apply z00);exact res_1 rfl rfl)
 refine HR.out _ [] _ _ atks ⟨?_,rfl⟩
 unfold markB
 generalize markN k i=m at *
 have h1:m*11400714819323198485 % 18446744073709551616 / 72057594037927936<256:=by
  have:m*11400714819323198485 % 18446744073709551616<18446744073709551616:=Nat.mod_lt _ (by omega)
  omega
 have h2:IntKind.u64.wrap ((m:Int)*11400714819323198485)=((m*11400714819323198485 % 18446744073709551616:Nat):Int):=by
  simp [IntKind.wrap,IntKind.signed,IntKind.bits]
 rw [h2,show (2:Int) ^ (56:Int).toNat=((72057594037927936:Nat):Int) from rfl,← Int.natCast_ediv,UInt8.toNat_ofNat',Nat.mod_eq_of_lt h1]
 simp only [IntKind.wrap,IntKind.signed,IntKind.bits]
 congr 1
 simp;omega
theorem zeu (r:Hp) (k i:Nat) (_hk:k<=100000000:=by omega) (_hi:i<=1000000000:=by omega):Tri Tryz.prog r 78 [.int .i64 k,.int .i64 i] [] fun w H=>w = .string (bs (markT k i))/\H=[]:=by
 refine Tri.free fun R HR=>?_
 refine ae Tryz.func78 Tryz.ntmps78 ?_
 repeat' (first|refine aw0m ?_|(refine ap2 ?_ ?_<;>try intro h)|refine aw1m ?_|(refine abx ?_;intro bb)|(refine abz ?_;intro bz)|(refine ahv ?_;intro v' hv')|(refine aac ?_;intro ac cc)|refine aw2 ?_|(refine ap4 ?_ ?_<;>try intro h)|apply True.intro)
 ((with_reducible apply z00);exact res_1 rfl rfl)
 refine HR.out _ _ _ [] (Takes.all) ⟨?_,rfl⟩
 congr 2
 have h0 : ∀ x:Nat,UInt8.ofNat ((x:Int) % 256).toNat=UInt8.ofNat x:=fun x=>by
  apply UInt8.toNat_inj.1
  rw [UInt8.toNat_ofNat',UInt8.toNat_ofNat'];omega
 have h1 : ∀ x:Nat,(x:Int) / 2 ^ Int.toNat 8=((x / 256:Nat):Int):=fun x=>rfl
 have h2 : ∀ x:Nat,(x:Int) / 2 ^ Int.toNat 16=((x / 65536:Nat):Int):=fun x=>rfl
 simp only [h1,h2,h0]
 rfl
theorem z8f (r:Hp) (k i:Nat) (hk:k<=100000000:=by omega) (hi:i<=1000000000:=by omega):Tri Tryz.prog r 30 [.int .i64 k,.int .i64 i] [] fun w H=>w = .agg (encF ⟨markT k i,.slice none 0 0,[]⟩).toArray/\H=[]:=by
 refine Tri.free fun R HR=>?_
 refine ae Tryz.func30 Tryz.ntmps30 ?_
 repeat' (first|refine aw0m ?_|(refine ap2 ?_ ?_<;>try intro h)|(refine acl Tryz.func78 ?_;refine acr (zeu r k i) ?_;rintro v' H' ⟨rfl,rfl⟩;refine apl ?_)|refine aw1m ?_|(refine abx ?_;intro bb)|(refine abz ?_;intro bz)|(refine ahv ?_;intro v' hv')|(refine aac ?_;intro ac cc)|refine aw2 ?_|(refine ap4 ?_ ?_<;>try intro h)|apply True.intro)
 ((with_reducible apply z00);exact res_W rfl rfl atk z0a z08 rfl)
 exact HR.out _ _ _ [] Takes.all ⟨rfl,rfl⟩
theorem z6x (r:Hp) (v:Value) (l:List UInt8) (hv:U8S r v l) (hl:l.length<=1000000):Tri Tryz.prog r 15 [v] [] fun w H => ∃ a c,w = .slice a l.length c/\H=[RowC 5 1 (.slice a (l.length+12) c) (l.length+12) (u8s (l++marksL 12))]:=by
 refine Tri.free fun R HR=>?_
 have hlm:=maxI hv.2.1
 refine ae Tryz.func15 Tryz.ntmps15 ?_
 repeat' (first|((with_reducible apply z6k (c:=l.length+12));exact ty_el;exact z03;rfl;rfl;(omega);(omega);intro bm;(refine apk ?_))|((with_reducible apply z0v (news:=u8s l));exact ty_el;exact z03;rfl;rfl;rfl;rfl;exact hv;(exact atk);exact z1y l;(unfold maxLen;omega);(omega);intro a' c';(refine apk ?_))|refine aw0 ?_|(refine ap2 ?_ ?_<;>try intro h)|refine aw1 ?_|(refine abx ?_;intro bb)|(refine abz ?_;intro bz)|(refine ahv ?_;intro v' hv')|(refine aac ?_;intro ac cc)|refine aw2 ?_|(refine ap4 ?_ ?_<;>try intro h)|apply True.intro)
 simp only [Nat.zero_add,List.nil_append]
 refine z04 (fun gm t H' => ∃ (k:Nat) (a:Option Addr) (c:Nat),gm=13 - k/\(k<=12)/\(∃ G,Takes [RowC 5 1 (.slice a (l.length+k) c) (l.length+k) (u8s (l++marksL k))] H' G)/\Sls t 25 [(0,v),(3,.slice a (l.length+k) c),(4,.int .i64 k)]) _ ⟨0,a',c',rfl,Nat.zero_le _,⟨[],by rw [show marksL 0=[] from rfl,List.append_nil];(exact atks)⟩,asls⟩ ?_
 rintro gm t H' ⟨k,a,c,rfl,hk,⟨G,hp⟩,hs'⟩
 revert t;refine z06 ?_;iterate 22 intro uu'
 refine z01 hp ?_;clear hp
 refine zcb atk (fun g h=>RowC.cap h) ?_
 rintro ⟨hcap,hcm⟩
 have hcm:=maxI hcm
 repeat' (first|refine aw0m ?_|(refine ap2 ?_ ?_<;>try intro h)|(refine acl Tryz.func51 ?_;refine acr (z1d r 1 k) ?_;rintro v' H' ⟨rfl,rfl⟩;refine apl ?_)|(first|((with_reducible apply z0t);exact ty_el;exact z03;rfl;rfl;rfl;intro bz;(refine apk ?_))|((with_reducible apply z0y);exact ty_el;exact z03;rfl;rfl;rfl;intro bz;(refine apk ?_)))|(first|((with_reducible apply z0d);exact ty_el;exact z03;rfl;rfl;rfl;(exact atk);(exact atk);rfl;(omega);intro a' c';(refine apk ?_))|((with_reducible apply z0m);exact ty_el;exact z03;rfl;rfl;rfl;rfl;(exact atk);(exact atk);rfl;rfl;(omega);intro a' c';(refine apk ?_)))|refine aw1m ?_|(refine abx ?_;intro bb)|(refine abz ?_;intro bz)|(refine ahv ?_;intro v' hv')|(refine aac ?_;intro ac cc)|refine aw2 ?_|(refine ap4 ?_ ?_<;>try intro h)|apply True.intro)
 · exact ⟨_,by omega,k+1,a',c',rfl,by omega,⟨_,by rw [zh0];simp only [u8s,List.map_append,List.map_cons,List.map_nil,List.append_assoc];(exact atks)⟩,asls⟩
 · obtain rfl:k=12:=by omega
   ((with_reducible apply z00);exact res_1 rfl rfl)
   exact HR.out _ [] _ _ atks ⟨_,_,rfl,rfl⟩
theorem zct (r:Hp) (a:Option Addr) (c:Nat) (w:Value) (l:List UInt8) (hc:l.length+12<=c) (hv:U8S r (.slice a (l.length+12) c) (l++marksL 12)) (hw:U8S r w l):Tri Tryz.prog r 19 [.slice a l.length c,w] [] fun u H=>u = .bool true/\H=[]:=by
 refine Tri.free fun R HR=>?_
 have hlen:(l++marksL 12).length=l.length+12:=by simp [marksL]
 have hlm:l.length+12<=9223372036854775807:=by have:=maxI hv.2.1;omega
 refine ae Tryz.func19 Tryz.ntmps19 ?_
 repeat' (first|refine aw0m ?_|(refine ap2 ?_ ?_<;>try intro h)|refine aw1m ?_|(refine abx ?_;intro bb)|(refine abz ?_;intro bz)|(refine ahv ?_;intro v' hv')|(refine aac ?_;intro ac cc)|refine aw2 ?_|(refine ap4 ?_ ?_<;>try intro h)|apply True.intro)
 refine z04 (fun gm t H' => ∃ k:Nat,gm=l.length+13 - k/\(k<=l.length+12)/\(∃ G,Takes [] H' G)/\Sls t 58 [(1,w),(5,.slice a (l.length+12) c),(6,.int .i64 k)]) _ ⟨0,rfl,Nat.zero_le _,⟨[],atks⟩,asls⟩ ?_
 rintro gm t H' ⟨k,rfl,hk,⟨G,hp⟩,hs'⟩
 revert t;refine z06 ?_;iterate 55 intro uu'
 refine z01 hp ?_;clear hp
 by_cases hkl:k<l.length
 · have he:(l++marksL 12).getD k 0=l.getD k 0:=by simp [List.getElem?_append_left hkl]
   repeat' (first|refine aw0m ?_|(refine ap2 ?_ ?_<;>try intro h)|(first|((with_reducible apply z02 (id:=7) 35 [(0,true),(1,true),(2,true),(3,true),(4,true),(5,true),(6,true),(7,true),(8,true),(9,true),(10,true),(11,true),(12,true),(13,true),(14,true),(15,true),(16,true),(17,true),(18,true),(19,true),(20,true),(21,true),(22,true),(23,true),(24,true),(25,true),(26,true),(27,true),(28,true),(29,true),(30,false),(31,true),(32,true),(33,true),(34,true)] [] []);kernel_rfl;(exact atks);kernel_rfl;intro r' hl'))|refine aw1m ?_|(refine abx ?_;intro bb)|(refine abz ?_;intro bz)|(refine ahv ?_;intro v' hv')|(refine aac ?_;intro ac cc)|refine aw2 ?_|(refine ap4 ?_ ?_<;>try intro h)|apply True.intro)
   all_goals first|(rw [he] at h;exact absurd rfl h)|exact ⟨_,by omega,k+1,rfl,by omega,⟨_,atks⟩,asls⟩
 · by_cases hk2:k<l.length+12
   · obtain ⟨j,rfl⟩ : ∃ j,k=l.length+j:=⟨k - l.length,by omega⟩
     have he:(l++marksL 12).getD (l.length+j) 0=markB 1 j:=by
      simp only [List.getD_eq_getElem?_getD]
      rw [List.getElem?_append_right (by omega)]
      simp [marksL,show j<12 by omega]
     repeat' (first|refine aw0m ?_|(refine ap2 ?_ ?_<;>try intro h)|(first|((with_reducible apply z02 (id:=7) 35 [(0,true),(1,true),(2,true),(3,true),(4,true),(5,true),(6,true),(7,true),(8,true),(9,true),(10,true),(11,true),(12,true),(13,true),(14,true),(15,true),(16,true),(17,true),(18,true),(19,true),(20,true),(21,true),(22,true),(23,true),(24,true),(25,true),(26,true),(27,true),(28,true),(29,true),(30,false),(31,true),(32,true),(33,true),(34,true)] [] []);kernel_rfl;(exact atks);kernel_rfl;intro r' hl'))|(refine acl Tryz.func51 ?_;refine acr (by rw [show (((l.length+j:Nat):Int) - (l.length:Nat))=((j:Nat):Int) by omega];exact z1d _ 1 j) ?_;rintro v' H' ⟨rfl,rfl⟩;refine apl ?_)|refine aw1m ?_|(refine abx ?_;intro bb)|(refine abz ?_;intro bz)|(refine ahv ?_;intro v' hv')|(refine aac ?_;intro ac cc)|refine aw2 ?_|(refine ap4 ?_ ?_<;>try intro h)|apply True.intro)
     all_goals first|(rw [he] at h;exact absurd rfl h)|exact ⟨_,by omega,l.length+j+1,rfl,by omega,⟨_,atks⟩,asls⟩
   · repeat' (first|refine aw0m ?_|(refine ap2 ?_ ?_<;>try intro h)|refine aw1m ?_|(refine abx ?_;intro bb)|(refine abz ?_;intro bz)|(refine ahv ?_;intro v' hv')|(refine aac ?_;intro ac cc)|refine aw2 ?_|(refine ap4 ?_ ?_<;>try intro h)|apply True.intro)
     ((with_reducible apply z00);exact res_1 rfl rfl)
     exact HR.out _ [] _ _ atks ⟨rfl,rfl⟩
def markPl (k i:Nat):PlaceV:=⟨0,markN k i⟩
def marksPl (n:Nat):List PlaceV:=(List.range n).map (markPl 1)
theorem zly (l:List PlaceV):(l.flatMap encPl).all one?=true:=by
 rw [List.all_eq_true]
 intro v hv
 obtain ⟨p,_,hp⟩:=List.mem_flatMap.1 hv
 simp only [encPl,List.mem_cons,List.not_mem_nil,or_false] at hp
 rcases hp with rfl|rfl<;>rfl
theorem z1l (r:Hp) (k i:Nat) (hk:k<=100000000:=by omega) (hi:i<=1000000000:=by omega):Tri Tryz.prog r 166 [.int .i64 k,.int .i64 i] [] fun w H=>w = .agg [.int .i64 (0:Int),.int .i64 (markN k i:Nat)].toArray/\H=[]:=by
 refine Tri.free2 fun R HR=>?_
 refine ae Tryz.func166 Tryz.ntmps166 ?_
 repeat' (first|(refine acl Tryz.func121 ?_;refine acr (zim r k i) ?_;rintro v' H' ⟨rfl,rfl⟩;refine apl ?_)|refine aw0 ?_|(refine ap2 ?_ ?_<;>try intro h)|refine aw1 ?_|(refine abx ?_;intro bb)|(refine abz ?_;intro bz)|(refine ahv ?_;intro v' hv')|(refine aac ?_;intro ac cc)|refine aw2 ?_|(refine ap4 ?_ ?_<;>try intro h)|apply True.intro)
 ((with_reducible apply z00);exact res_W rfl rfl atk z0a z08 rfl)
 exact HR.out _ _ _ [] Takes.all ⟨rfl,rfl⟩
theorem zar (r:Hp) (v w:Value) (l m:List PlaceV) (hv:Els r 2 encPl v l) (hw:Els r 2 encPl w m):Tri Tryz.prog r 57 [v,w] [] fun u H=>u = .bool (decide (l=m))/\H=[]:=by
 refine Tri.free2 fun R HR=>?_
 have hlm:=maxI hv.2.2.1
 refine ae Tryz.func57 Tryz.ntmps57 ?_
 repeat' (first|refine aw0m ?_|(refine ap2 ?_ ?_<;>try intro h)|refine aw1m ?_|(refine abx ?_;intro bb)|(refine abz ?_;intro bz)|(refine ahv ?_;intro v' hv')|(refine aac ?_;intro ac cc)|refine aw2 ?_|(refine ap4 ?_ ?_<;>try intro h)|apply True.intro)
 · ((with_reducible apply z00);exact res_1 rfl rfl)
   exact HR.out _ _ _ [] atks ⟨by rw [decide_eq_false];rintro rfl;exact h rfl,rfl⟩
 · refine z04 (fun gm t H' => ∃ k:Nat,gm=l.length+1 - k/\(k<=l.length)/\(l.take k=m.take k)/\(∃ G,Takes [] H' G)/\Sls t 26 [(0,v),(1,w),(5,.int .i64 k)]) _ ⟨0,rfl,Nat.zero_le _,by simp,⟨[],atks⟩,asls⟩ ?_
   rintro gm t H' ⟨k,rfl,hk,ht,⟨G,hp⟩,hs'⟩
   revert t;refine z06 ?_;iterate 23 intro uu'
   refine z01 hp ?_;clear hp
   repeat' (first|refine aw0m ?_|(refine ap2 ?_ ?_<;>try intro h)|(first|((with_reducible apply z02 (id:=6) 9 [(0,true),(1,true),(2,true),(3,true),(4,true),(5,true),(6,true),(7,true),(8,true)] [] []);kernel_rfl;(exact atks);kernel_rfl;intro r' hl'))|refine aw1m ?_|(refine abx ?_;intro bb)|(refine abz ?_;intro bz)|(refine ahv ?_;intro v' hv')|(refine aac ?_;intro ac cc)|refine aw2 ?_|(refine ap4 ?_ ?_<;>try intro h)|apply True.intro)
   · ((with_reducible apply z00);exact res_1 rfl rfl)
     exact HR.out _ _ _ [] atks ⟨by rw [decide_eq_false];rintro rfl;simp at h,rfl⟩
   · exact ⟨_,by omega,k+1,rfl,by omega,z8t (d:=default) ht (by omega) (by omega) (PlaceV.ext2 h.1 h.2),⟨_,atks⟩,asls⟩
   · ((with_reducible apply z00);exact res_1 rfl rfl)
     exact HR.out _ _ _ [] atks ⟨by rw [decide_eq_true (z6j ht (by omega) (by omega))],rfl⟩
theorem zin {xs:List PostV} {k:Nat} (h:k<xs.length):(xs.map unP).getD k default=unP (xs.getD k default):=by
 rw [List.getD_eq_getElem?_getD,List.getD_eq_getElem?_getD,List.getElem?_map,List.getElem?_eq_getElem h];rfl
theorem zh1 (n:Nat):(marksPl n).length=n:=by simp [marksPl]
end Go.Proofs.YtohpeoakdgckfaaGreat
