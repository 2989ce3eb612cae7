/- mudlarkref19.Right: its contract. -/
import Derived.Test.YtohpeoakdgckfaaGreatIn
set_option maxHeartbeats 4000000
set_option maxRecDepth 10000
namespace Go.Proofs.YtohpeoakdgckfaaGreat
open Go.RowKit Sx
theorem zo3 {a b:List UInt8}:(!(Op.bytesLess a b || decide (a=b)))=Op.bytesLess b a:=by
 rw [Bool.eq_iff_iff,zm6,z79]
namespace Sx
section
variable {P : Program} {l : Option Nat} {r : Hp} {Q : Exit → St} {t : List Value} {H : List Ch}
theorem zso {c1 c2:Code} (I:St) (h1:SW P l r c1 (Then I Q) t H) (h2 : ∀ t' H',I t' H'->SW P l r c2 Q t' H'):SW P l r (.seq c1 c2) Q t H :=
 z5f (zn4 h1 fun e t' H' h=>by cases e<;>first|exact h|exact h2 _ _ h)
end
end Sx
open Sx
theorem ze2 (r:Hp) (v:Value) (xs:List PostV) (hv:Posts r v xs):Tri Tryz.prog r 98 [v] [] fun w H=>w = .bool (postsOk [] (xs.map unP))/\H=[]:=by
 refine Tri.free2 fun R HR=>?_
 have hve:=hv.1
 have hvn:xs.length<=maxLen:=hve.2.2.1
 unfold maxLen at hvn
 refine ae Tryz.func98 Tryz.ntmps98 ?_
 repeat' (first|refine aw0m ?_|(refine ap2 ?_ ?_<;>try intro h)|refine aw1m ?_|(refine abx ?_;intro bb)|(refine abz ?_;intro bz)|(refine ahv ?_;intro v' hv')|(refine aac ?_;intro ac cc)|refine aw2 ?_|(refine ap4 ?_ ?_<;>try intro h)|apply True.intro)
 refine z04 (fun gm t H' => ∃ (k:Nat) (last:List UInt8),gm=xs.length+1 - k/\(k<=xs.length)/\(postsOk [] (xs.map unP)=postsOk last ((xs.drop k).map unP))/\((k=0->last=[])/\(¬ k=0->(xs.getD (k - 1) default).gram=last))/\(∃ G,Takes [] H' G)/\Sls t 100 [(0,v),(3,.int .i64 k)]) _ ⟨0,[],rfl,Nat.zero_le _,rfl,⟨fun _=>rfl,fun h=>absurd rfl h⟩,⟨_,by (exact atks)⟩,asls⟩ ?_
 rintro gm t H' ⟨k,last,rfl,hk,hs,hla,⟨G,hp⟩,hs'⟩
 revert t;refine z06 ?_;iterate 98 intro uu'
 refine z01 hp ?_;clear hp
 by_cases hlt:k<xs.length
 · rw [z2t hlt,List.map_cons,postsOk,zo3] at hs
   have hx:=hv.2 _ (z0g hlt)
   have hxn:(xs.getD k default).pl.length<=maxLen:=hx.2.2.1
   unfold maxLen at hxn
   have hk1:((k:Int) - 1).toNat=k - 1:=by omega
   have hpo:postOk (unP (xs.getD k default))=(decide ((xs.getD k default).gram.length=3) && !(xs.getD k default).pl.isEmpty && chainP ⟨-1,0⟩ (xs.getD k default).pl):=rfl
   have hnx:((k+1=0->(xs.getD k default).gram=[])/\(¬ k+1=0->(xs.getD (k+1 - 1) default).gram=(xs.getD k default).gram)):=⟨fun h=>absurd h (by omega),fun _=>by rw [Nat.add_sub_cancel]⟩
   have hg0:(unP (xs.getD k default)).1=(xs.getD k default).gram:=rfl
   rw [hg0] at hs
   by_cases c1:(xs.getD k default).gram.length=3
   · by_cases c4:(xs.getD k default).pl.length=0
     · have hs2:postsOk [] (xs.map unP)=false:=by rw [hs,hpo,List.length_eq_zero_iff.1 c4];simp
       rw [hs2] at HR
       repeat' (first|refine aw0m ?_|(refine ap2 ?_ ?_<;>try intro h)|(first|((with_reducible apply z02 (id:=5) 30 [(0,true),(1,true),(2,true),(3,true),(4,true),(5,true),(6,true),(7,true),(8,true),(9,true),(10,true),(11,true),(12,true),(13,true),(14,true),(15,true),(16,true),(17,true),(18,true),(19,true),(20,true),(21,true),(22,true),(23,true),(24,true),(25,true),(26,true),(27,true),(28,true),(29,true)] [] []);kernel_rfl;(exact atks);kernel_rfl;intro r' hl')|((with_reducible apply z02 (id:=10) 47 [(0,true),(1,true),(2,true),(3,true),(4,true),(5,true),(6,true),(7,true),(8,true),(9,true),(10,true),(11,true),(12,true),(13,true),(14,true),(15,true),(16,true),(17,true),(18,true),(19,true),(20,true),(21,true),(22,true),(23,true),(24,true),(25,true),(26,true),(27,true),(28,true),(29,true),(30,true),(31,true),(32,true),(33,true),(34,true),(35,true),(36,true),(37,true),(38,true),(39,true),(40,true),(41,true),(42,true),(43,false),(44,true),(45,true),(46,true)] [] []);kernel_rfl;(exact atks);kernel_rfl;intro r' hl'))|exact xf|refine aw1m ?_|(refine abx ?_;intro bb)|(refine abz ?_;intro bz)|(refine ahv ?_;intro v' hv')|(refine aac ?_;intro ac cc)|refine aw2 ?_|(refine ap4 ?_ ?_<;>try intro h)|apply True.intro)
       all_goals (((with_reducible apply z00);exact res_1 rfl rfl);exact HR.out _ _ _ [] Takes.all ⟨rfl,rfl⟩)
     · have he:(xs.getD k default).pl.isEmpty=false:=by
        cases hp:(xs.getD k default).pl with
        | nil=>rw [hp] at c4;exact absurd rfl c4
        | cons=>rfl
       rw [hpo,decide_eq_true c1,he] at hs
       by_cases c3:Op.bytesLess last (xs.getD k default).gram=true
       · rw [c3] at hs
         have hc3:¬ k=0->Op.bytesLess (xs.getD (k - 1) default).gram (xs.getD k default).gram=true:=fun h=>by rw [hla.2 h];exact c3
         repeat' (first|((with_reducible apply zso (c1:= .region 5 _ _) (I:=fun t' H' => ∃ G,Takes [] H' G/\(t'.length=100/\t'[0]?=some (v)/\t'[3]?=some (.int .i64 k)/\t'[4]?=some ((xs.getD k default).val)/\t'[46]?=some (.bool false)))))|(first|((with_reducible apply z02 (id:=5) 30 [(0,true),(1,true),(2,true),(3,true),(4,true),(5,true),(6,true),(7,true),(8,true),(9,true),(10,true),(11,true),(12,true),(13,true),(14,true),(15,true),(16,true),(17,true),(18,true),(19,true),(20,true),(21,true),(22,true),(23,true),(24,true),(25,true),(26,true),(27,true),(28,true),(29,true)] [] []);kernel_rfl;(exact atks);kernel_rfl;intro r' hl')|((with_reducible apply z02 (id:=10) 47 [(0,true),(1,true),(2,true),(3,true),(4,true),(5,true),(6,true),(7,true),(8,true),(9,true),(10,true),(11,true),(12,true),(13,true),(14,true),(15,true),(16,true),(17,true),(18,true),(19,true),(20,true),(21,true),(22,true),(23,true),(24,true),(25,true),(26,true),(27,true),(28,true),(29,true),(30,true),(31,true),(32,true),(33,true),(34,true),(35,true),(36,true),(37,true),(38,true),(39,true),(40,true),(41,true),(42,true),(43,false),(44,true),(45,true),(46,true)] [] []);kernel_rfl;(exact atks);kernel_rfl;intro r' hl'))|(rw [hk1])|(rw [hc3 (by omega)])|exact xf|refine aw0 ?_|(refine ap2 ?_ ?_<;>try intro h)|refine aw1 ?_|(refine abx ?_;intro bb)|(refine abz ?_;intro bz)|(refine ahv ?_;intro v' hv')|(refine aac ?_;intro ac cc)|refine aw2 ?_|(refine ap4 ?_ ?_<;>try intro h)|apply True.intro)
         · exact ⟨[],Takes.all,rfl,rfl,rfl,rfl,rfl⟩
         · exact ⟨[],Takes.all,rfl,rfl,rfl,rfl,rfl⟩
         rintro t H' ⟨G,hp,hlen,e0,e3,e4,e46⟩
         revert e0 e3 e4 e46;revert t;refine z0s (n:=100) ?_;intro u0 u1 u2 u3 u4 u5 u6 u7 u8 u9 u10 u11 u12 u13 u14 u15 u16 u17 u18 u19 u20 u21 u22 u23 u24 u25 u26 u27 u28 u29 u30 u31 u32 u33 u34 u35 u36 u37 u38 u39 u40 u41 u42 u43 u44 u45 u46 u47 u48 u49 u50 u51 u52 u53 u54 u55 u56 u57 u58 u59 u60 u61 u62 u63 u64 u65 u66 u67 u68 u69 u70 u71 u72 u73 u74 u75 u76 u77 u78 u79 u80 u81 u82 u83 u84 u85 u86 u87 u88 u89 u90 u91 u92 u93 u94 u95 u96 u97 u98 u99 e0 e3 e4 e46;cases e0;cases e3;cases e4;cases e46
         refine z01 hp ?_
         clear hp hc3
         repeat' (first|exact xf|refine aw0 ?_|(refine ap2 ?_ ?_<;>try intro h)|refine aw1 ?_|(refine abx ?_;intro bb)|(refine abz ?_;intro bz)|(refine ahv ?_;intro v' hv')|(refine aac ?_;intro ac cc)|refine aw2 ?_|(refine ap4 ?_ ?_<;>try intro h)|apply True.intro)
         generalize xs.getD k default=x at hs hx hxn hnx ⊢
         simp only [Bool.not_false,Bool.true_and,Bool.and_true] at hs
         refine z04 (fun gm t H' => ∃ (i:Nat) (a:PlaceV),gm=x.pl.length+1 - i/\(i<=x.pl.length)/\(chainP ⟨-1,0⟩ x.pl=chainP a (x.pl.drop i))/\((i=0->a=⟨-1,0⟩)/\(¬ i=0->x.pl.getD (i - 1) default=a))/\(∃ G,Takes [] H' G)/\Sls t 100 [(0,v),(3,.int .i64 k),(4,x.val),(5,.int .i64 i)]) _ ⟨0,⟨-1,0⟩,rfl,Nat.zero_le _,rfl,⟨fun _=>rfl,fun h=>absurd rfl h⟩,⟨_,by (exact atks)⟩,asls⟩ ?_
         rintro gm t H' ⟨i,a,rfl,hi,hc,hpa,⟨G,hp⟩,hs'⟩
         revert t;refine z06 ?_;iterate 96 intro uu'
         refine z01 hp ?_;clear hp
         by_cases hlt1:i<x.pl.length
         · rw [z2t hlt1,chainP] at hc
           have hnp:((i+1=0->x.pl.getD i default=⟨-1,0⟩)/\(¬ i+1=0->x.pl.getD (i+1 - 1) default=x.pl.getD i default)):=⟨fun h=>absurd h (by omega),fun _=>by rw [Nat.add_sub_cancel]⟩
           obtain ⟨p,hp⟩ : ∃ p,x.pl.getD i default=p:=⟨_,rfl⟩
           have hi1:((i:Int) - 1).toNat=i - 1:=by omega
           rw [hp] at hc hnp
           have hbad:¬ (0<=p.doc/\p.doc<4000/\0<=p.pos/\p.pos<=1048576)->fitsP a p=false:=fun hb=>by
            rw [zf8];unfold placeOk
            rw [Bool.and_eq_false_iff];left
            rw [← Bool.not_eq_true]
            simp only [Bool.and_eq_true,decide_eq_true_eq]
            intro h;exact hb ⟨h.1.1.1,h.1.1.2,h.1.2,h.2⟩
           by_cases hb1:0<=p.doc
           · by_cases hb2:p.doc<4000
             · by_cases hb3:0<=p.pos
               · by_cases hb4:p.pos<=1048576
                 · by_cases hi0:i=0
                   · have hf:fitsP a p=true:=by
                      rw [hpa.1 hi0,zke];unfold placeOk;simp [hb1,hb2,hb3,hb4]
                     rw [hf,Bool.true_and] at hc
                     repeat' (first|(first|((with_reducible apply z02 (id:=5) 30 [(0,true),(1,true),(2,true),(3,true),(4,true),(5,true),(6,true),(7,true),(8,true),(9,true),(10,true),(11,true),(12,true),(13,true),(14,true),(15,true),(16,true),(17,true),(18,true),(19,true),(20,true),(21,true),(22,true),(23,true),(24,true),(25,true),(26,true),(27,true),(28,true),(29,true)] [] []);kernel_rfl;(exact atks);kernel_rfl;intro r' hl')|((with_reducible apply z02 (id:=10) 47 [(0,true),(1,true),(2,true),(3,true),(4,true),(5,true),(6,true),(7,true),(8,true),(9,true),(10,true),(11,true),(12,true),(13,true),(14,true),(15,true),(16,true),(17,true),(18,true),(19,true),(20,true),(21,true),(22,true),(23,true),(24,true),(25,true),(26,true),(27,true),(28,true),(29,true),(30,true),(31,true),(32,true),(33,true),(34,true),(35,true),(36,true),(37,true),(38,true),(39,true),(40,true),(41,true),(42,true),(43,false),(44,true),(45,true),(46,true)] [] []);kernel_rfl;(exact atks);kernel_rfl;intro r' hl'))|(rw [hp])|exact xf|refine aw0 ?_|(refine ap2 ?_ ?_<;>try intro h)|refine aw1 ?_|(refine abx ?_;intro bb)|(refine abz ?_;intro bz)|(refine ahv ?_;intro v' hv')|(refine aac ?_;intro ac cc)|refine aw2 ?_|(refine ap4 ?_ ?_<;>try intro h)|apply True.intro)
                     all_goals exact ⟨_,by omega,i+1,p,rfl,by omega,hc,hnp,⟨_,by (exact atks)⟩,asls⟩
                   · have ha:=hpa.2 hi0
                     have hf:fitsP a p=behP p a:=by
                      rw [zf8];unfold placeOk;simp [hb1,hb2,hb3,hb4]
                     have hbe:=fun r=>zkd r p a
                     rw [hf] at hc
                     cases hq:behP p a
                     · rw [hq] at hc hbe
                       rw [hc] at hs
                       simp only [Bool.false_and] at hs
                       rw [hs] at HR
                       repeat' (first|(first|((with_reducible apply z02 (id:=5) 30 [(0,true),(1,true),(2,true),(3,true),(4,true),(5,true),(6,true),(7,true),(8,true),(9,true),(10,true),(11,true),(12,true),(13,true),(14,true),(15,true),(16,true),(17,true),(18,true),(19,true),(20,true),(21,true),(22,true),(23,true),(24,true),(25,true),(26,true),(27,true),(28,true),(29,true)] [] []);kernel_rfl;(exact atks);kernel_rfl;intro r' hl')|((with_reducible apply z02 (id:=10) 47 [(0,true),(1,true),(2,true),(3,true),(4,true),(5,true),(6,true),(7,true),(8,true),(9,true),(10,true),(11,true),(12,true),(13,true),(14,true),(15,true),(16,true),(17,true),(18,true),(19,true),(20,true),(21,true),(22,true),(23,true),(24,true),(25,true),(26,true),(27,true),(28,true),(29,true),(30,true),(31,true),(32,true),(33,true),(34,true),(35,true),(36,true),(37,true),(38,true),(39,true),(40,true),(41,true),(42,true),(43,false),(44,true),(45,true),(46,true)] [] []);kernel_rfl;(exact atks);kernel_rfl;intro r' hl'))|(rw [hp])|(rw [hi1])|(rw [ha])|(refine acl Tryz.func158 ?_;refine acr (hbe _) ?_;rintro v' H' ⟨rfl,rfl⟩;refine apl ?_)|exact xf|refine aw0 ?_|(refine ap2 ?_ ?_<;>try intro h)|refine aw1 ?_|(refine abx ?_;intro bb)|(refine abz ?_;intro bz)|(refine ahv ?_;intro v' hv')|(refine aac ?_;intro ac cc)|refine aw2 ?_|(refine ap4 ?_ ?_<;>try intro h)|apply True.intro)
                       all_goals (((with_reducible apply z00);exact res_1 rfl rfl);exact HR.out _ _ _ [] Takes.all ⟨rfl,rfl⟩)
                     · rw [hq] at hbe
                       rw [hq,Bool.true_and] at hc
                       repeat' (first|(first|((with_reducible apply z02 (id:=5) 30 [(0,true),(1,true),(2,true),(3,true),(4,true),(5,true),(6,true),(7,true),(8,true),(9,true),(10,true),(11,true),(12,true),(13,true),(14,true),(15,true),(16,true),(17,true),(18,true),(19,true),(20,true),(21,true),(22,true),(23,true),(24,true),(25,true),(26,true),(27,true),(28,true),(29,true)] [] []);kernel_rfl;(exact atks);kernel_rfl;intro r' hl')|((with_reducible apply z02 (id:=10) 47 [(0,true),(1,true),(2,true),(3,true),(4,true),(5,true),(6,true),(7,true),(8,true),(9,true),(10,true),(11,true),(12,true),(13,true),(14,true),(15,true),(16,true),(17,true),(18,true),(19,true),(20,true),(21,true),(22,true),(23,true),(24,true),(25,true),(26,true),(27,true),(28,true),(29,true),(30,true),(31,true),(32,true),(33,true),(34,true),(35,true),(36,true),(37,true),(38,true),(39,true),(40,true),(41,true),(42,true),(43,false),(44,true),(45,true),(46,true)] [] []);kernel_rfl;(exact atks);kernel_rfl;intro r' hl'))|(rw [hp])|(rw [hi1])|(rw [ha])|(refine acl Tryz.func158 ?_;refine acr (hbe _) ?_;rintro v' H' ⟨rfl,rfl⟩;refine apl ?_)|exact xf|refine aw0 ?_|(refine ap2 ?_ ?_<;>try intro h)|refine aw1 ?_|(refine abx ?_;intro bb)|(refine abz ?_;intro bz)|(refine ahv ?_;intro v' hv')|(refine aac ?_;intro ac cc)|refine aw2 ?_|(refine ap4 ?_ ?_<;>try intro h)|apply True.intro)
                       all_goals exact ⟨_,by omega,i+1,p,rfl,by omega,hc,hnp,⟨_,by (exact atks)⟩,asls⟩
                 · have hf:=hbad (by omega)
                   clear hbad
                   rw [hf] at hc
                   rw [hc] at hs
                   simp only [Bool.false_and] at hs
                   rw [hs] at HR
                   repeat' (first|(first|((with_reducible apply z02 (id:=5) 30 [(0,true),(1,true),(2,true),(3,true),(4,true),(5,true),(6,true),(7,true),(8,true),(9,true),(10,true),(11,true),(12,true),(13,true),(14,true),(15,true),(16,true),(17,true),(18,true),(19,true),(20,true),(21,true),(22,true),(23,true),(24,true),(25,true),(26,true),(27,true),(28,true),(29,true)] [] []);kernel_rfl;(exact atks);kernel_rfl;intro r' hl')|((with_reducible apply z02 (id:=10) 47 [(0,true),(1,true),(2,true),(3,true),(4,true),(5,true),(6,true),(7,true),(8,true),(9,true),(10,true),(11,true),(12,true),(13,true),(14,true),(15,true),(16,true),(17,true),(18,true),(19,true),(20,true),(21,true),(22,true),(23,true),(24,true),(25,true),(26,true),(27,true),(28,true),(29,true),(30,true),(31,true),(32,true),(33,true),(34,true),(35,true),(36,true),(37,true),(38,true),(39,true),(40,true),(41,true),(42,true),(43,false),(44,true),(45,true),(46,true)] [] []);kernel_rfl;(exact atks);kernel_rfl;intro r' hl'))|(rw [hp])|exact xf|refine aw0 ?_|(refine ap2 ?_ ?_<;>try intro h)|refine aw1 ?_|(refine abx ?_;intro bb)|(refine abz ?_;intro bz)|(refine ahv ?_;intro v' hv')|(refine aac ?_;intro ac cc)|refine aw2 ?_|(refine ap4 ?_ ?_<;>try intro h)|apply True.intro)
                   all_goals (((with_reducible apply z00);exact res_1 rfl rfl);exact HR.out _ _ _ [] Takes.all ⟨rfl,rfl⟩)
               · have hf:=hbad (by omega)
                 clear hbad
                 rw [hf] at hc
                 rw [hc] at hs
                 simp only [Bool.false_and] at hs
                 rw [hs] at HR
                 repeat' (first|(first|((with_reducible apply z02 (id:=5) 30 [(0,true),(1,true),(2,true),(3,true),(4,true),(5,true),(6,true),(7,true),(8,true),(9,true),(10,true),(11,true),(12,true),(13,true),(14,true),(15,true),(16,true),(17,true),(18,true),(19,true),(20,true),(21,true),(22,true),(23,true),(24,true),(25,true),(26,true),(27,true),(28,true),(29,true)] [] []);kernel_rfl;(exact atks);kernel_rfl;intro r' hl')|((with_reducible apply z02 (id:=10) 47 [(0,true),(1,true),(2,true),(3,true),(4,true),(5,true),(6,true),(7,true),(8,true),(9,true),(10,true),(11,true),(12,true),(13,true),(14,true),(15,true),(16,true),(17,true),(18,true),(19,true),(20,true),(21,true),(22,true),(23,true),(24,true),(25,true),(26,true),(27,true),(28,true),(29,true),(30,true),(31,true),(32,true),(33,true),(34,true),(35,true),(36,true),(37,true),(38,true),(39,true),(40,true),(41,true),(42,true),(43,false),(44,true),(45,true),(46,true)] [] []);kernel_rfl;(exact atks);kernel_rfl;intro r' hl'))|(rw [hp])|exact xf|refine aw0 ?_|(refine ap2 ?_ ?_<;>try intro h)|refine aw1 ?_|(refine abx ?_;intro bb)|(refine abz ?_;intro bz)|(refine ahv ?_;intro v' hv')|(refine aac ?_;intro ac cc)|refine aw2 ?_|(refine ap4 ?_ ?_<;>try intro h)|apply True.intro)
                 all_goals (((with_reducible apply z00);exact res_1 rfl rfl);exact HR.out _ _ _ [] Takes.all ⟨rfl,rfl⟩)
             · have hf:=hbad (by omega)
               clear hbad
               rw [hf] at hc
               rw [hc] at hs
               simp only [Bool.false_and] at hs
               rw [hs] at HR
               repeat' (first|(first|((with_reducible apply z02 (id:=5) 30 [(0,true),(1,true),(2,true),(3,true),(4,true),(5,true),(6,true),(7,true),(8,true),(9,true),(10,true),(11,true),(12,true),(13,true),(14,true),(15,true),(16,true),(17,true),(18,true),(19,true),(20,true),(21,true),(22,true),(23,true),(24,true),(25,true),(26,true),(27,true),(28,true),(29,true)] [] []);kernel_rfl;(exact atks);kernel_rfl;intro r' hl')|((with_reducible apply z02 (id:=10) 47 [(0,true),(1,true),(2,true),(3,true),(4,true),(5,true),(6,true),(7,true),(8,true),(9,true),(10,true),(11,true),(12,true),(13,true),(14,true),(15,true),(16,true),(17,true),(18,true),(19,true),(20,true),(21,true),(22,true),(23,true),(24,true),(25,true),(26,true),(27,true),(28,true),(29,true),(30,true),(31,true),(32,true),(33,true),(34,true),(35,true),(36,true),(37,true),(38,true),(39,true),(40,true),(41,true),(42,true),(43,false),(44,true),(45,true),(46,true)] [] []);kernel_rfl;(exact atks);kernel_rfl;intro r' hl'))|(rw [hp])|exact xf|refine aw0 ?_|(refine ap2 ?_ ?_<;>try intro h)|refine aw1 ?_|(refine abx ?_;intro bb)|(refine abz ?_;intro bz)|(refine ahv ?_;intro v' hv')|(refine aac ?_;intro ac cc)|refine aw2 ?_|(refine ap4 ?_ ?_<;>try intro h)|apply True.intro)
               all_goals (((with_reducible apply z00);exact res_1 rfl rfl);exact HR.out _ _ _ [] Takes.all ⟨rfl,rfl⟩)
           · have hf:=hbad (by omega)
             clear hbad
             rw [hf] at hc
             rw [hc] at hs
             simp only [Bool.false_and] at hs
             rw [hs] at HR
             repeat' (first|(first|((with_reducible apply z02 (id:=5) 30 [(0,true),(1,true),(2,true),(3,true),(4,true),(5,true),(6,true),(7,true),(8,true),(9,true),(10,true),(11,true),(12,true),(13,true),(14,true),(15,true),(16,true),(17,true),(18,true),(19,true),(20,true),(21,true),(22,true),(23,true),(24,true),(25,true),(26,true),(27,true),(28,true),(29,true)] [] []);kernel_rfl;(exact atks);kernel_rfl;intro r' hl')|((with_reducible apply z02 (id:=10) 47 [(0,true),(1,true),(2,true),(3,true),(4,true),(5,true),(6,true),(7,true),(8,true),(9,true),(10,true),(11,true),(12,true),(13,true),(14,true),(15,true),(16,true),(17,true),(18,true),(19,true),(20,true),(21,true),(22,true),(23,true),(24,true),(25,true),(26,true),(27,true),(28,true),(29,true),(30,true),(31,true),(32,true),(33,true),(34,true),(35,true),(36,true),(37,true),(38,true),(39,true),(40,true),(41,true),(42,true),(43,false),(44,true),(45,true),(46,true)] [] []);kernel_rfl;(exact atks);kernel_rfl;intro r' hl'))|(rw [hp])|exact xf|refine aw0 ?_|(refine ap2 ?_ ?_<;>try intro h)|refine aw1 ?_|(refine abx ?_;intro bb)|(refine abz ?_;intro bz)|(refine ahv ?_;intro v' hv')|(refine aac ?_;intro ac cc)|refine aw2 ?_|(refine ap4 ?_ ?_<;>try intro h)|apply True.intro)
             all_goals (((with_reducible apply z00);exact res_1 rfl rfl);exact HR.out _ _ _ [] Takes.all ⟨rfl,rfl⟩)
         · obtain rfl:i=x.pl.length:=by omega
           rw [List.drop_length,chainP] at hc
           rw [hc] at hs
           repeat' (first|exact xf|refine aw0 ?_|(refine ap2 ?_ ?_<;>try intro h)|refine aw1 ?_|(refine abx ?_;intro bb)|(refine abz ?_;intro bz)|(refine ahv ?_;intro v' hv')|(refine aac ?_;intro ac cc)|refine aw2 ?_|(refine ap4 ?_ ?_<;>try intro h)|apply True.intro)
           exact ⟨_,by omega,k+1,x.gram,rfl,by omega,by rw [hs];rfl,hnx,⟨_,by (exact atks)⟩,asls⟩
       · have hk0:¬ k=0:=fun h=>by
          rw [hla.1 h,z79] at c3
          cases hg:(xs.getD k default).gram with
          | nil=>rw [hg] at c1;cases c1
          | cons a t=>rw [hg] at c3;exact c3 (List.nil_lt_cons a t)
         have hs2:postsOk [] (xs.map unP)=false:=by
          rw [hs,Bool.not_eq_true _ |>.mp c3];simp
         rw [← hla.2 hk0] at c3
         rw [hs2] at HR
         repeat' (first|(first|((with_reducible apply z02 (id:=5) 30 [(0,true),(1,true),(2,true),(3,true),(4,true),(5,true),(6,true),(7,true),(8,true),(9,true),(10,true),(11,true),(12,true),(13,true),(14,true),(15,true),(16,true),(17,true),(18,true),(19,true),(20,true),(21,true),(22,true),(23,true),(24,true),(25,true),(26,true),(27,true),(28,true),(29,true)] [] []);kernel_rfl;(exact atks);kernel_rfl;intro r' hl')|((with_reducible apply z02 (id:=10) 47 [(0,true),(1,true),(2,true),(3,true),(4,true),(5,true),(6,true),(7,true),(8,true),(9,true),(10,true),(11,true),(12,true),(13,true),(14,true),(15,true),(16,true),(17,true),(18,true),(19,true),(20,true),(21,true),(22,true),(23,true),(24,true),(25,true),(26,true),(27,true),(28,true),(29,true),(30,true),(31,true),(32,true),(33,true),(34,true),(35,true),(36,true),(37,true),(38,true),(39,true),(40,true),(41,true),(42,true),(43,false),(44,true),(45,true),(46,true)] [] []);kernel_rfl;(exact atks);kernel_rfl;intro r' hl'))|(rw [hk1])|exact xf|refine aw0 ?_|(refine ap2 ?_ ?_<;>try intro h)|refine aw1 ?_|(refine abx ?_;intro bb)|(refine abz ?_;intro bz)|(refine ahv ?_;intro v' hv')|(refine aac ?_;intro ac cc)|refine aw2 ?_|(refine ap4 ?_ ?_<;>try intro h)|apply True.intro)
         all_goals (((with_reducible apply z00);exact res_1 rfl rfl);exact HR.out _ _ _ [] Takes.all ⟨rfl,rfl⟩)
   · have hs2:postsOk [] (xs.map unP)=false:=by rw [hs,hpo,decide_eq_false c1];simp
     rw [hs2] at HR
     repeat' (first|refine aw0m ?_|(refine ap2 ?_ ?_<;>try intro h)|(first|((with_reducible apply z02 (id:=5) 30 [(0,true),(1,true),(2,true),(3,true),(4,true),(5,true),(6,true),(7,true),(8,true),(9,true),(10,true),(11,true),(12,true),(13,true),(14,true),(15,true),(16,true),(17,true),(18,true),(19,true),(20,true),(21,true),(22,true),(23,true),(24,true),(25,true),(26,true),(27,true),(28,true),(29,true)] [] []);kernel_rfl;(exact atks);kernel_rfl;intro r' hl')|((with_reducible apply z02 (id:=10) 47 [(0,true),(1,true),(2,true),(3,true),(4,true),(5,true),(6,true),(7,true),(8,true),(9,true),(10,true),(11,true),(12,true),(13,true),(14,true),(15,true),(16,true),(17,true),(18,true),(19,true),(20,true),(21,true),(22,true),(23,true),(24,true),(25,true),(26,true),(27,true),(28,true),(29,true),(30,true),(31,true),(32,true),(33,true),(34,true),(35,true),(36,true),(37,true),(38,true),(39,true),(40,true),(41,true),(42,true),(43,false),(44,true),(45,true),(46,true)] [] []);kernel_rfl;(exact atks);kernel_rfl;intro r' hl'))|exact xf|refine aw1m ?_|(refine abx ?_;intro bb)|(refine abz ?_;intro bz)|(refine ahv ?_;intro v' hv')|(refine aac ?_;intro ac cc)|refine aw2 ?_|(refine ap4 ?_ ?_<;>try intro h)|apply True.intro)
     all_goals (((with_reducible apply z00);exact res_1 rfl rfl);exact HR.out _ _ _ [] Takes.all ⟨rfl,rfl⟩)
 · obtain rfl:k=xs.length:=by omega
   rw [List.drop_length,List.map_nil,postsOk] at hs
   rw [hs] at HR
   repeat' (first|exact xf|refine aw0 ?_|(refine ap2 ?_ ?_<;>try intro h)|refine aw1 ?_|(refine abx ?_;intro bb)|(refine abz ?_;intro bz)|(refine ahv ?_;intro v' hv')|(refine aac ?_;intro ac cc)|refine aw2 ?_|(refine ap4 ?_ ?_<;>try intro h)|apply True.intro)
   ((with_reducible apply z00);exact res_1 rfl rfl)
   exact HR.out _ _ _ [] Takes.all ⟨rfl,rfl⟩
end Go.Proofs.YtohpeoakdgckfaaGreat
