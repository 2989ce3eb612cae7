/- What LentFiles hands out is files that have the same paths and bytes: doc.Of and doc.Files of it. -/
import Derived.Test.YtohpeoakdgckfaaGreatRl
import Derived.Test.YtohpeoakdgckfaaGreatSf
import Derived.Test.YtohpeoakdgckfaaGreatDc
import Derived.Test.YtohpeoakdgckfaaGreatKa
set_option maxHeartbeats 4000000
set_option maxRecDepth 10000
namespace Go.Proofs.YtohpeoakdgckfaaGreat
open Go.RowKit Sx
def gD (ds:List DocV) (j:Nat):Bool:=refOk (ds.getD j default).path && decide ((ds.getD j default).lang=langOf (ds.getD j default).path) && decide (0<=(ds.getD j default).size) && decide ((ds.getD j default).size<=1048576) && (decide (j=0) || Op.bytesLess (ds.getD (j - 1) default).path (ds.getD j default).path)
theorem zmm (ds:List DocV) (j:Nat):gD ds j=true↔refOk (ds.getD j default).path=true/\(ds.getD j default).lang=langOf (ds.getD j default).path/\0<=(ds.getD j default).size/\(ds.getD j default).size<=1048576/\(j=0\/Op.bytesLess (ds.getD (j - 1) default).path (ds.getD j default).path=true):=by
 unfold gD;simp only [Bool.and_eq_true,Bool.or_eq_true,decide_eq_true_eq,and_assoc]
def refDocs (ds:List DocV):Bool:=(List.range ds.length).all (gD ds) && decide (ds.length<=4000)
theorem zrr (r:Hp) (p:List UInt8) (hp:p.length<=1000000):Tri Tryz.prog r 155 [.string (bs p)] [] fun w H=>w = .bool (refOk p)/\H=[]:=by
 have:=zbl r (bs p) (by rw [z0x];exact hp)
 rwa [show (bs p).data.toList=p from rfl] at this
theorem zmn (r:Hp) (p:List UInt8) (hp:p.length<=1000000):Tri Tryz.prog r 95 [.string (bs p)] [] fun w H=>w = .string (bs (langOf p))/\H=[]:=by
 have:=zml r (bs p) (by rw [z0x];exact hp)
 rwa [show (bs p).data.toList=p from rfl] at this
theorem zfi (r:Hp) (v:Value) (ds:List DocV) (hv:Docs r v ds) (hl : ∀ x∈ds,x.path.length<=1000000):Tri Tryz.prog r 96 [v] [] fun w H=>w = .bool (refDocs ds)/\H=[]:=by
 refine Tri.free2 fun R HR=>?_
 have hlm:=maxI hv.2.2.1
 refine ae Tryz.func96 Tryz.ntmps96 ?_
 repeat' (first|refine aw0m ?_|(refine ap2 ?_ ?_<;>try intro h)|refine aw1m ?_|(refine abx ?_;intro bb)|(refine abz ?_;intro bz)|(refine ahv ?_;intro v' hv')|(refine aac ?_;intro ac cc)|refine aw2 ?_|(refine ap4 ?_ ?_<;>try intro h)|apply True.intro)
 refine z04 (fun gm t H' => ∃ k:Nat,gm=ds.length+1 - k/\(k<=ds.length)/\((List.range k).all (gD ds)=true)/\(∃ G,Takes [] H' G)/\Sls t 68 [(0,v),(3,.int .i64 k)]) _ ⟨0,rfl,Nat.zero_le _,rfl,⟨[],atks⟩,asls⟩ ?_
 rintro gm t H' ⟨k,rfl,hk,ha,⟨G,hp⟩,hs'⟩
 revert t;refine z06 ?_;iterate 66 intro uu'
 refine z01 hp ?_;clear hp
 by_cases hlt:k<ds.length
 · have hpl:=hl (ds.getD k default) (by simp [hlt])
   have e1:((k:Int) - 1).toNat=k - 1:=by omega
   repeat' (first|refine aw0m ?_|(refine ap2 ?_ ?_<;>try intro h)|(first|((with_reducible apply z02 (id:=4) 55 [(0,true),(1,true),(2,true),(3,true),(4,true),(5,false),(6,true),(7,true),(8,true),(9,true),(10,true),(11,true),(12,true),(13,true),(14,true),(15,true),(16,true),(17,true),(18,false),(19,true),(20,true),(21,true),(22,true),(23,true),(24,true),(25,true),(26,true),(27,true),(28,true),(29,true),(30,true),(31,true),(32,true),(33,true),(34,true),(35,true),(36,true),(37,true),(38,true),(39,true),(40,true),(41,true),(42,true),(43,true),(44,true),(45,true),(46,true),(47,true),(48,true),(49,true),(50,true),(51,true),(52,true),(53,true),(54,true)] [] []);kernel_rfl;(exact atks);kernel_rfl;intro r' hl'))|(refine acl Tryz.func155 ?_;refine acr (zrr _ _ hpl) ?_;rintro v' H' ⟨rfl,rfl⟩;refine apl ?_)|(refine acl Tryz.func95 ?_;refine acr (zmn _ _ hpl) ?_;rintro v' H' ⟨rfl,rfl⟩;refine apl ?_)|refine aw1m ?_|(refine abx ?_;intro bb)|(refine abz ?_;intro bz)|(refine ahv ?_;intro v' hv')|(refine aac ?_;intro ac cc)|refine aw2 ?_|(refine ap4 ?_ ?_<;>try intro h)|apply True.intro)
   all_goals first
   | (have hF:gD ds k=false:=by
       rw [← Bool.not_eq_true,zmm]
       rintro ⟨g1,g2,g3,g4,g5⟩
       first
       | omega
       | exact h g2
       | (rw [h] at g1;cases g1)
       | (rw [e1] at h;rcases g5 with g5|g5;omega;rw [h] at g5;cases g5)
      ((with_reducible apply z00);exact res_1 rfl rfl)
      exact HR.out _ _ _ [] atks ⟨by unfold refDocs;rw [zd0 hlt hF];rfl,rfl⟩)
   | (have hT:gD ds k=true:=by
       rw [zmm]
       refine ⟨by assumption,by assumption,by omega,by omega,?_⟩
       first
       | exact .inl (by omega)
       | (rw [e1] at h;exact .inr h)
      exact ⟨_,by omega,k+1,rfl,by omega,zd1 ha hT,⟨_,atks⟩,asls⟩)
 · obtain rfl:k=ds.length:=by omega
   repeat' (first|refine aw0m ?_|(refine ap2 ?_ ?_<;>try intro h)|refine aw1m ?_|(refine abx ?_;intro bb)|(refine abz ?_;intro bz)|(refine ahv ?_;intro v' hv')|(refine aac ?_;intro ac cc)|refine aw2 ?_|(refine ap4 ?_ ?_<;>try intro h)|apply True.intro)
   ((with_reducible apply z00);exact res_1 rfl rfl)
   exact HR.out _ _ _ [] atks ⟨by unfold refDocs;rw [ha,Bool.true_and];congr 2;simp;omega,rfl⟩
theorem zp5 {most:Int} {st:Option (List UInt8)} (h:(numR most st).2=none):(numR most st).1=0:=by
 cases st with
 | none=>rfl
 | some l =>
  cases e:getN most l with
  | none=>simp [numR,e]
  | some p=>obtain ⟨n,x⟩:=p;simp [numR,e] at h
def refGetOk (l:List UInt8):Bool:=decide ((getDocs l).2=some []) && refDocs (getDocs l).1
theorem zp6 (r:Hp) (v:Value) (b:List UInt8) (hv:U8S r v b) (hl:b.length<=100000000):Tri Tryz.prog r 54 [v] [] fun w H =>
 if refGetOk b then ∃ a c,w = .tuple #[.slice a (getDocs b).1.length c,.int .i64 0]/\H=[DocR (.slice a (getDocs b).1.length c) (getDocs b).1] else w = .tuple #[.slice none 0 0,.int .i64 9]/\H=[]:=by
 refine Tri.free2 fun R HR=>?_
 have hgd:getDocs b=docsR (numR 4000 (some b)).1 (numR 4000 (some b)).2:=rfl
 have hn4:=z18 4000 (some b)
 have hc:=fun g=>z9u r g v b 0 false 4000 hv hl (Nat.zero_le _)
 simp only [refSt,Bool.false_eq_true,if_false,List.drop_zero] at hc
 have hn0:=zp5 (most:=4000) (st:=some b)
 rw [show ((4000:Nat):Int)=4000 from rfl] at hn4
 unfold refGetOk at HR
 generalize getDocs b=GD at hgd HR
 generalize numR 4000 (some b)=N at hgd hn4 hc hn0
 obtain ⟨n,st1⟩:=N
 dsimp only at hgd hn4 hc hn0
 refine ae Tryz.func54 Tryz.ntmps54 ?_
 repeat' (first|(refine acl Tryz.func126 ?_;refine acr (hc _) ?_;rintro v' H' ⟨rfl,at1,bad1,hat1,hst1,rfl⟩;refine apl ?_)|refine aw0 ?_|(refine ap2 ?_ ?_<;>try intro h)|refine aw1 ?_|(refine abx ?_;intro bb)|(refine abz ?_;intro bz)|(refine ahv ?_;intro v' hv')|(refine aac ?_;intro ac cc)|refine aw2 ?_|(refine ap4 ?_ ?_<;>try intro h)|apply True.intro)
 subst hst1
 replace hgd:GD=docsR n (refSt b at1 bad1):=hgd
 have hd0:GD=if bad1 then ([],none) else ([]++(docsR (n - 0) (refSt b at1 bad1)).1,(docsR (n - 0) (refSt b at1 bad1)).2):=by
  rw [hgd]
  cases bad1
  · simp
  · rw [hn0 rfl];rfl
 have hbd:=z6n n (refSt b at1 bad1)
 rw [← hgd] at hbd
 clear hgd hn0 hc
 refine z0f (A:=RowC 119 4 (.slice none 0 0) 0 []) (RowC.nil _ _) ?_
 refine z04 (fun gm t H' => ∃ (k:Nat) (a:Option Addr) (c at_:Nat) (bad:Bool) (ds:List DocV),gm=n+1 - k/\(k<=n)/\(at_<=b.length)/\(ds.length=k)/\(GD=if bad then (ds,none) else (ds++(docsR (n - k) (refSt b at_ bad)).1,(docsR (n - k) (refSt b at_ bad)).2))/\(∃ G,Takes [pt bb (rrd v at_ bad),RowC 119 4 (.slice a k c) k (ds.flatMap encD)] H' G)/\Sls t 59 [(4,.pointer (some ⟨bb,0,none⟩)),(5,.int .i64 n),(6,.slice a k c),(7,.int .i64 k)]) _ ⟨0,_,_,at1,bad1,[],rfl,Nat.zero_le _,hat1,rfl,hd0,⟨[],atks⟩,asls⟩ ?_
 rintro gm t H' ⟨k,a,c,at_,bad,ds,rfl,hk,hat,hdl,hds,⟨G,hp⟩,hs'⟩
 revert t;refine z06 ?_;iterate 55 intro uu'
 refine z01 hp ?_;clear hp
 cases bad
 · by_cases hlt:k<n
   · have hdR:docR (refSt b at_ false)=(⟨(textR 200 (refSt b at_ false)).1,langOf (textR 200 (refSt b at_ false)).1,(fixR (textR 200 (refSt b at_ false)).2).1,(numR 1048576 (fixR (textR 200 (refSt b at_ false)).2).2).1⟩,(numR 1048576 (fixR (textR 200 (refSt b at_ false)).2).2).2):=rfl
     have htl:=z6m 200 (refSt b at_ false)
     have hct:=zb8 r bb v b at_ false 200 hv hl hat
     have hfx:=fun at2 bad2 h=>z9v r bb v b at2 bad2 hv hl h
     have hnu:=fun at2 bad2 h=>z9u r bb v b at2 bad2 1048576 hv hl h
     generalize hT:textR 200 (refSt b at_ false)=T at hdR htl hct
     obtain ⟨p,st2⟩:=T
     dsimp only at hdR htl hct
     repeat' (first|(refine acl Tryz.func64 ?_;refine acr (hct) ?_;rintro v' H' ⟨a1,c1,at2,bad2,rfl,hat2,hst2,rfl⟩;refine apl ?_)|refine aw0 ?_|(refine ap2 ?_ ?_<;>try intro h)|refine aw1 ?_|(refine abx ?_;intro bb)|(refine abz ?_;intro bz)|(refine ahv ?_;intro v' hv')|(refine aac ?_;intro ac cc)|refine aw2 ?_|(refine ap4 ?_ ?_<;>try intro h)|apply True.intro)
     subst hst2
     have hcf:=hfx at2 bad2 hat2
     generalize hF:fixR (refSt b at2 bad2)=F at hdR hcf
     obtain ⟨cs,st3⟩:=F
     dsimp only at hdR hcf
     have hco:=zmn r p (by omega)
     repeat' (first|(refine acl Tryz.func95 ?_;refine acr (hco) ?_;rintro v' H' ⟨rfl,rfl⟩;refine apl ?_)|(refine acl Tryz.func62 ?_;refine acr (hcf) ?_;rintro v' H' ⟨rfl,at3,bad3,hat3,hst3,rfl⟩;refine apl ?_)|refine aw0 ?_|(refine ap2 ?_ ?_<;>try intro h)|refine aw1 ?_|(refine abx ?_;intro bb)|(refine abz ?_;intro bz)|(refine ahv ?_;intro v' hv')|(refine aac ?_;intro ac cc)|refine aw2 ?_|(refine ap4 ?_ ?_<;>try intro h)|apply True.intro)
     subst hst3
     have hcn:=hnu at3 bad3 hat3
     generalize hN2:numR 1048576 (refSt b at3 bad3)=N2 at hdR hcn
     obtain ⟨z,st4⟩:=N2
     dsimp only at hdR hcn
     repeat' (first|(refine acl Tryz.func126 ?_;refine acr (hcn) ?_;rintro v' H' ⟨rfl,at4,bad4,hat4,hst4,rfl⟩;refine apl ?_)|(first|((with_reducible apply z0t);exact ty_el;exact z03;rfl;rfl;rfl;intro bz;(refine apk ?_))|((with_reducible apply z0y);exact ty_el;exact z03;rfl;rfl;rfl;intro bz;(refine apk ?_)))|(first|((with_reducible apply z0d);exact ty_el;exact z03;rfl;rfl;rfl;(exact atk);(exact atk);rfl;(omega);intro a' c';(refine apk ?_))|((with_reducible apply z0m);exact ty_el;exact z03;rfl;rfl;rfl;rfl;(exact atk);(exact atk);rfl;rfl;(omega);intro a' c';(refine apk ?_)))|refine aw0 ?_|(refine ap2 ?_ ?_<;>try intro h)|refine aw1 ?_|(refine abx ?_;intro bb)|(refine abz ?_;intro bz)|(refine ahv ?_;intro v' hv')|(refine aac ?_;intro ac cc)|refine aw2 ?_|(refine ap4 ?_ ?_<;>try intro h)|apply True.intro)
     subst hst4
     have hds':GD=if bad4 then (ds++[⟨p,langOf p,cs,z⟩],none) else ((ds++[⟨p,langOf p,cs,z⟩])++(docsR (n - (k+1)) (refSt b at4 bad4)).1,(docsR (n - (k+1)) (refSt b at4 bad4)).2):=by
      rw [hds,if_neg (by simp),show n - k=(n - (k+1))+1 by omega,z5l,hdR]
      cases bad4<;>simp [refSt]
     exact ⟨_,by omega,k+1,a',c',at4,bad4,ds++[⟨p,langOf p,cs,z⟩],rfl,by omega,hat4,by simp;omega,hds',⟨_,by rw [List.flatMap_append];(exact atks)⟩,asls⟩
   · obtain rfl:k=n:=by omega
     rw [if_neg (by simp),Nat.sub_self] at hds
     simp only [docsR,List.append_nil] at hds
     subst hds
     dsimp only at HR hbd
     have hrd:=fun r2 g2 (hg2:sub g2 r2) (hA:RowC 119 4 (.slice a k c) k (ds.flatMap encD) g2)=>zfi r2 (.slice a k c) ds ⟨fun _=>rfl,by rw [hdl];exact hA.sl hg2⟩ (fun x hx=>Nat.le_trans (hbd.2 x hx).1 (by omega))
     have hlf : ∀ r':Hp,sub r r'->Tri Tryz.prog r' 127 [.pointer (some ⟨bb,0,none⟩)] [pt bb (rrd v at_ false)] fun w H=>w = .int .i64 ((b.length - at_:Nat):Int)/\H=[pt bb (rrd v at_ false)]:=fun r' hr=>(zk7 r' bb v b at_ false (hv.mono hr) hl hat).mono fun w H h=>⟨h.1.trans (by simp [refSt]),h.2⟩
     have e1:decide (refSt b at_ false=some [])=decide (b.length - at_=0):=by
      simp [refSt,Nat.sub_eq_zero_iff_le]
     rw [e1] at HR
     repeat' (first|(refine acl Tryz.func127 ?_;refine acr (hlf _ (fun _ _ h=>h)) ?_;rintro v' H' ⟨rfl,rfl⟩;refine apl ?_)|((with_reducible apply z05 (A:=RowC 119 4 (.slice a k c) k (ds.flatMap encD)));(with_reducible (exact atk));intro r2 g2 hr2 hg2 hA2;(refine acl Tryz.func96 ?_;refine acr (hrd r2 g2 hg2 hA2) ?_;rintro v' H' ⟨rfl,rfl⟩;refine apl ?_))|refine aw0 ?_|(refine ap2 ?_ ?_<;>try intro h)|refine aw1 ?_|(refine abx ?_;intro bb)|(refine abz ?_;intro bz)|(refine ahv ?_;intro v' hv')|(refine aac ?_;intro ac cc)|refine aw2 ?_|(refine ap4 ?_ ?_<;>try intro h)|apply True.intro)
     all_goals first
     | (((with_reducible apply z00);exact res_2 rfl rfl rfl)
        exact HR.out _ _ _ [] atks (by rw [if_neg (by simp only [Bool.and_eq_true,decide_eq_true_eq];rintro ⟨g1,g2⟩;first|omega|(rw [h] at g2;cases g2))];exact ⟨rfl,rfl⟩))
     | (((with_reducible apply z00);exact res_2 rfl rfl rfl)
        exact HR.out _ _ _ [RowC _ _ _ _ _] atks (by rw [if_pos (by simp only [Bool.and_eq_true,decide_eq_true_eq];exact ⟨by omega,h⟩)];exact ⟨a,c,by rw [hdl],by unfold DocR;rw [hdl]⟩))
 · rw [if_pos rfl] at hds
   subst hds
   repeat' (first|refine aw0m ?_|(refine ap2 ?_ ?_<;>try intro h)|refine aw1m ?_|(refine abx ?_;intro bb)|(refine abz ?_;intro bz)|(refine ahv ?_;intro v' hv')|(refine aac ?_;intro ac cc)|refine aw2 ?_|(refine ap4 ?_ ?_<;>try intro h)|apply True.intro)
   all_goals
    ((with_reducible apply z00);exact res_2 rfl rfl rfl)
    exact HR.out _ _ _ [] atks (by rw [if_neg (by simp)];exact ⟨rfl,rfl⟩)
end Go.Proofs.YtohpeoakdgckfaaGreat
namespace Go.Proofs.YtohpeoakdgckfaaGreat
open Go.RowKit
theorem zkk (q:UInt8->Bool) (h47:q 47=true) (l:List UInt8):(splitL l).all (fun p=>p.all q)=l.all q:=by
 induction l with
 | nil=>rfl
 | cons b l ih =>
  unfold splitL
  split
  · rename_i h;subst h;simp [ih,h47]
  · rename_i h
    split
    · rename_i p ps hs;rw [hs] at ih;rw [List.all_cons] at ih;rw [List.all_cons,List.all_cons,List.all_cons,← ih,Bool.and_assoc]
    · rename_i hs;exact absurd hs (z2c l)
theorem zrs {α:Type} (p q:α->Bool) (l:List α):l.all (fun x=>p x && q x)=(l.all p && l.all q):=by
 induction l with
 | nil=>rfl
 | cons a l ih=>simp only [List.all_cons,ih];cases p a<;>cases q a<;>simp
theorem z5w (s:List UInt8):pathOk s=refOk s:=by
 have h:(splitL s).all partOk=((splitL s).all nameOk && s.all byteOk):=by
  rw [← zkk byteOk rfl s,← zrs];rfl
 rw [pathOk,refOk,h]
 cases (splitL s).all nameOk<;>cases s.all byteOk<;>simp
theorem z94 (p last:List UInt8):(!(Op.bytesLess p last || p == last))=Op.bytesLess last p:=by
 rw [bytesLess_eq,bytesLess_eq,Bool.eq_iff_iff]
 simp only [Bool.not_eq_true',Bool.or_eq_false_iff,decide_eq_false_iff_not,beq_eq_false_iff_ne,decide_eq_true_eq]
 constructor
 · rintro ⟨h1,h2⟩
   exact Std.lt_of_le_of_ne (List.not_lt.1 h1) (fun e=>h2 e.symm)
 · intro h
   refine ⟨fun h2=>List.lt_asymm h h2,fun e=>?_⟩
   subst e;exact List.lt_irrefl _ h
def refGo:Option (List UInt8)->List FileV->Bool
 | _,[]=>true
 | o,f::fs=>refOk f.path && !(bigF f) && (match o with|none=>true|some e=>Op.bytesLess e f.path) && refGo (some f.path) fs
theorem zmo : ∀ (fs pre:List FileV),(List.range fs.length).all (fun j=>goodAt (pre++fs) (pre.length+j))=refGo (pre.getLast?.map (·.path)) fs
 | [],pre=>rfl
 | f::fs,pre=>by
  have ih:=zmo fs (pre++[f])
  rw [List.length_cons,List.range_succ_eq_map,List.all_cons,List.all_map]
  have e:(fun j=>goodAt (pre++f::fs) (pre.length+j)) ∘ Nat.succ=fun j=>goodAt ((pre++[f])++fs) ((pre++[f]).length+j):=by
   funext j
   simp only [Function.comp,List.append_assoc,List.singleton_append,List.length_append,List.length_cons,List.length_nil]
   congr 1;omega
  rw [e,ih,show refGo (pre.getLast?.map (·.path)) (f::fs)=(refOk f.path && !(bigF f) && (match pre.getLast?.map (·.path) with|none=>true|some e=>Op.bytesLess e f.path) && refGo (some f.path) fs) from rfl]
  have h0:goodAt (pre++f::fs) (pre.length+0)=(refOk f.path && !(bigF f) && (match pre.getLast?.map (·.path) with|none=>true|some e=>Op.bytesLess e f.path)):=by
   unfold goodAt
   rw [Nat.add_zero,List.getElem?_append_right (Nat.le_refl _),Nat.sub_self]
   simp only [List.getElem?_cons_zero,bigF]
   congr 1
   rcases List.eq_nil_or_concat pre with rfl | ⟨q,g,rfl⟩
   · simp
   · simp []
  rw [h0]
  simp
theorem zq5 : ∀ (fs:List FileV) (e:List UInt8),refGo (some e) fs=(!(fs.any bigF) && ordOk e (fs.map (·.path)))
 | [],e=>rfl
 | f::fs,e=>by
  unfold refGo
  rw [zq5 fs f.path,List.map_cons,show ordOk e (f.path::fs.map (·.path))=(pathOk f.path && !(Op.bytesLess f.path e || f.path == e) && ordOk f.path (fs.map (·.path))) from rfl,z94,z5w,List.any_cons]
  dsimp only
  cases refOk f.path<;>cases bigF f<;>cases Op.bytesLess e f.path<;>cases fs.any bigF<;>simp
theorem za8 (fs:List FileV):refFiles fs=filesOk fs:=by
 have h:=zmo fs []
 simp only [List.nil_append,List.length_nil,Nat.zero_add] at h
 unfold refFiles filesOk
 rw [h]
 cases fs with
 | nil=>rfl
 | cons f fs =>
  have h2:refGo (Option.map (·.path) ([]:List FileV).getLast?) (f::fs)=(refOk f.path && !(bigF f) && true && refGo (some f.path) fs):=rfl
  rw [h2,zq5 fs f.path,List.map_cons,show ordOk [] (f.path::fs.map (·.path))=(pathOk f.path && !(Op.bytesLess f.path [] || f.path == []) && ordOk f.path (fs.map (·.path))) from rfl,z94,z5w,List.any_cons]
  have h3:refOk f.path=true->Op.bytesLess [] f.path=true:=fun h=>by
   cases hp:f.path with
   | nil=>rw [hp] at h;simp [refOk] at h
   | cons x l=>rfl
  cases hr:refOk f.path
  · simp
  · rw [h3 hr]
    cases bigF f<;>cases fs.any bigF<;>cases ordOk f.path (fs.map (·.path))<;>simp
def refGoD:Option (List UInt8)->List DocV->Bool
 | _,[]=>true
 | o,d::ds=>refOk d.path && !(docBad d) && (match o with|none=>true|some e=>Op.bytesLess e d.path) && refGoD (some d.path) ds
theorem zj5 : ∀ (ds pre:List DocV),(List.range ds.length).all (fun j=>gD (pre++ds) (pre.length+j))=refGoD (pre.getLast?.map (·.path)) ds
 | [],pre=>rfl
 | d::ds,pre=>by
  have ih:=zj5 ds (pre++[d])
  rw [List.length_cons,List.range_succ_eq_map,List.all_cons,List.all_map]
  have e:(fun j=>gD (pre++d::ds) (pre.length+j)) ∘ Nat.succ=fun j=>gD ((pre++[d])++ds) ((pre++[d]).length+j):=by
   funext j
   simp only [Function.comp,List.append_assoc,List.singleton_append,List.length_append,List.length_cons,List.length_nil]
   congr 1;omega
  rw [e,ih]
  have h0:gD (pre++d::ds) (pre.length+0)=(refOk d.path && !(docBad d) && (match pre.getLast?.map (·.path) with|none=>true|some e=>Op.bytesLess e d.path)):=by
   have hd:(pre++d::ds).getD pre.length default=d:=by simp [List.getD_eq_getElem?_getD]
   rw [Bool.eq_iff_iff,Nat.add_zero,zmm,hd]
   simp only [Bool.and_eq_true,docBad,Bool.not_eq_true',Bool.or_eq_false_iff,decide_eq_false_iff_not,ne_eq,Decidable.not_not,and_assoc,Int.not_lt]
   rcases List.eq_nil_or_concat pre with rfl | ⟨q,g,rfl⟩
   · simp
   · have e2:(q.concat g++d::ds).getD ((q.concat g).length - 1) default=g:=by
      simp [List.getD_eq_getElem?_getD,List.concat_eq_append]
     rw [e2]
     simp [List.concat_eq_append]
  rw [h0]
  simp [refGoD]
theorem zmp : ∀ (ds:List DocV) (e:List UInt8),refGoD (some e) ds=(!(ds.any docBad) && ordOk e (ds.map (·.path)))
 | [],e=>rfl
 | f::fs,e=>by
  unfold refGoD
  rw [zmp fs f.path,List.map_cons,show ordOk e (f.path::fs.map (·.path))=(pathOk f.path && !(Op.bytesLess f.path e || f.path == e) && ordOk f.path (fs.map (·.path))) from rfl,z94,z5w,List.any_cons]
  dsimp only
  cases refOk f.path<;>cases docBad f<;>cases Op.bytesLess e f.path<;>cases fs.any docBad<;>simp
theorem zbo (ds:List DocV):refDocs ds=docsOk ds:=by
 have h:=zj5 ds []
 simp only [List.nil_append,List.length_nil,Nat.zero_add] at h
 unfold refDocs docsOk
 rw [h]
 cases ds with
 | nil=>rfl
 | cons f fs =>
  have h2:refGoD (Option.map (·.path) ([]:List DocV).getLast?) (f::fs)=(refOk f.path && !(docBad f) && true && refGoD (some f.path) fs):=rfl
  rw [h2,zmp fs f.path,List.map_cons,show ordOk [] (f.path::fs.map (·.path))=(pathOk f.path && !(Op.bytesLess f.path [] || f.path == []) && ordOk f.path (fs.map (·.path))) from rfl,z94,z5w,List.any_cons]
  have h3:refOk f.path=true->Op.bytesLess [] f.path=true:=fun h=>by
   cases hp:f.path with
   | nil=>rw [hp] at h;simp [refOk] at h
   | cons x l=>rfl
  cases hr:refOk f.path
  · simp
  · rw [h3 hr]
    cases docBad f<;>cases fs.any docBad<;>cases ordOk f.path (fs.map (·.path))<;>simp
theorem zhd (l:List UInt8):refGetOk l=getOk l:=by unfold refGetOk getOk;rw [zbo]
end Go.Proofs.YtohpeoakdgckfaaGreat
namespace Go.Proofs.YtohpeoakdgckfaaGreat
open Go.RowKit Sx
def filesOkK (ks:List (List UInt8 × List UInt8)):Bool:=decide (ks.length<=4000) && !(ks.any fun k=>decide (1048576<k.2.length)) && ordOk [] (ks.map Prod.fst)
theorem z2l (fs:List FileV):filesOk fs=filesOkK (fs.map FileV.key):=by
 unfold filesOk filesOkK
 rw [List.length_map,List.any_map,List.map_map]
 rfl
def docOfK (k:List UInt8 × List UInt8):DocV:=⟨k.1,langOf k.1,inv32 (crcAll 4294967295 k.2),k.2.length⟩
theorem za9 (fs:List FileV):fs.map docOf=(fs.map FileV.key).map docOfK:=by rw [List.map_map];rfl
theorem LentFs.mono {r r':Hp} {v:Value} {fs:List FileV} (h:LentFs r v fs) (hr:sub r r'):LentFs r' v fs:=by
 obtain ⟨a,c,fs',e,hc,hm,hs,hw⟩:=h
 exact ⟨a,c,fs',e,hc,hm,hs.mono hr,fun f hf=>(hw f hf).mono hr⟩
theorem LentFs.files {r:Hp} {v:Value} {fs:List FileV} (h:LentFs r v fs) : ∃ fs':List FileV,fs'.map FileV.key=fs.map FileV.key/\Files r v fs':=by
 obtain ⟨a,c,fs',rfl,hc,hm,hs,hw⟩:=h
 have hlen:fs'.length=fs.length:=by have:=congrArg List.length hm;simpa using this
 refine ⟨fs',hm,⟨hs.1,?_⟩,fun f hf=>(hw f hf).sl⟩
 have h1:=hs.2
 rw [show (fs'++marksFn 12).length=fs.length+12 by rw [List.length_append,hlen];simp [marksFn]] at h1
 have h2:=Sl.narrow h1 (m:=fs.length) (by omega)
 rw [List.flatMap_append,show fs.length*2=(fs'.flatMap encF).length by rw [z2b hs.1 fs',hlen],List.take_left] at h2
 rw [hlen]
 exact h2
end Go.Proofs.YtohpeoakdgckfaaGreat
