/- post.posting: its contract. post.Put: its contract. -/
import Derived.Test.YtohpeoakdgckfaaGreatGr
import Derived.Test.YtohpeoakdgckfaaGreatPo
import Derived.Test.YtohpeoakdgckfaaGreatDb
set_option maxHeartbeats 2000000
set_option maxRecDepth 10000
namespace Go.Proofs.YtohpeoakdgckfaaGreat
open Go.RowKit Sx
def lastD (cs:List (List PlaceV)):Int:=((cs.getLastD []).headD ⟨0,0⟩).doc
theorem z5q (cs:List (List PlaceV)) (c:List PlaceV):lastD (cs++[c])=(c.headD ⟨0,0⟩).doc:=by unfold lastD;simp
theorem z67 : ∀ (cs:List (List PlaceV)) (last:Int) (c:List PlaceV),(∀ c∈cs,c≠[])->c≠[]->headsB last (cs++[c])=headsB last cs++(septs ((c.headD default).doc - (if cs=[] then last else lastD cs)).toNat++septs (block1 c).length)
 | [],last,c,_,_=>by simp [headsB]
 | d::cs,last,c,h,hc=>by
  have ih:=z67 cs (d.headD default).doc c (fun c hc=>h c (List.mem_cons_of_mem _ hc)) hc
  have hd:d≠[]:=h d List.mem_cons_self
  rw [List.cons_append,headsB,headsB,ih,if_neg (List.cons_ne_nil _ _)]
  have e:(if cs=[] then (d.headD default).doc else lastD cs)=lastD (d::cs):=by
   unfold lastD
   cases cs with
   | nil=>cases d with|nil=>exact absurd rfl hd|cons=>rfl
   | cons=>rw [if_neg (List.cons_ne_nil _ _)];rfl
  rw [e]
  simp only [List.append_assoc]
theorem z6t : ∀ (l:List PlaceV) (a:PlaceV),(∀ p∈l,0<=p.doc/\p.doc<4000/\0<=p.pos/\p.pos<=1048576)->0<=a.doc -> -1<=a.pos->(blockB a l).length<=12*l.length
 | [],_,_,_,_=>by simp [blockB]
 | p::l,a,h,h1,h2=>by
  have hp:=h p List.mem_cons_self
  have ih:=z6t l p (fun q hq=>h q (List.mem_cons_of_mem _ hq)) hp.1 (by omega)
  have e1:=z09 (n:=(p.doc - a.doc).toNat) (by unfold maxNum;omega)
  have e2:=z09 (n:=(if p.doc=a.doc then p.pos - (a.pos+1) else p.pos).toNat) (by unfold maxNum;split<;>omega)
  rw [blockB,List.length_append,List.length_append,List.length_cons]
  omega
theorem z40 : ∀ (cs:List (List PlaceV)) (last:Int),(∀ c∈cs,(c.headD default).doc<4000/\0<=(c.headD default).doc/\(block1 c).length<=1000)->0<=last->(headsB last cs).length<=12*cs.length
 | [],_,_,_=>by simp [headsB]
 | c::cs,last,h,h1=>by
  have hc:=h c List.mem_cons_self
  have ih:=z40 cs (c.headD default).doc (fun q hq=>h q (List.mem_cons_of_mem _ hq)) hc.2.1
  have e1:=z09 (n:=((c.headD default).doc - last).toNat) (by unfold maxNum;omega)
  have e2:=z09 (n:=(block1 c).length) (by unfold maxNum;omega)
  rw [headsB]
  simp only [List.length_append,List.length_cons]
  omega
abbrev ByC (Z:List BytV):Ch:=all (Z.map fun z=>U8R z.val z.data)
theorem z38 {Z:List BytV} {v:Value} {b:List UInt8} (h:Hp) (e:all [ByC Z,U8R v b] h):ByC (Z++[⟨v,b⟩]) h:=by
 have h1:=z0j (List.Perm.swap _ _ _) e
 have h2:=(z1u (L1:=[U8R v b])).1 h1
 refine z0j ?_ h2
 rw [List.map_append]
 exact List.perm_append_comm (l₁:=[_])
theorem zei {r:Hp} : ∀ {Z:List BytV} {g:Hp},ByC Z g->sub g r -> ∀ z∈Z,U8S r z.val z.data
 | [],_,_,_,_,hz=>by cases hz
 | y::Z,g,h,hs,z,hz=>by
  obtain ⟨g1,g2,dd,rfl,h1,h2⟩:=h
  rcases List.mem_cons.1 hz with rfl|hz
  · exact h1.sl (fun b o e=>hs b o (z0e e))
  · exact zei h2 (fun b o e=>hs b o (z0n dd e)) z hz
section
variable {P : Program} {l : Option Nat} {r : Hp} {K : St} {t : List Value} {H : List Ch}
end
theorem zb3 {a0:PlaceV} {l:List PlaceV} (h:chainP a0 l=true) {j k:Nat} (hjk:j<k) (hk:k<l.length):(l.getD j default).doc<=(l.getD k default).doc:=by
 have hj:j<l.length:=by omega
 have e:l.take j++(l.getD j default::l.drop (j+1))=l:=by
  rw [List.getD_eq_getElem?_getD,List.getElem?_eq_getElem hj,Option.getD_some,← List.drop_eq_getElem_cons hj,List.take_append_drop]
 rw [← e,z4f,Bool.and_eq_true,chainP,Bool.and_eq_true] at h
 refine (z2g _ _ h.2.2 _ ?_).1
 rw [List.getD_eq_getElem?_getD,List.getElem?_eq_getElem hk,Option.getD_some]
 rw [List.mem_iff_getElem]
 exact ⟨k - (j+1),by rw [List.length_drop];omega,by rw [List.getElem_drop];congr 1;omega⟩
theorem z50 : ∀ (n:Nat) (l:List PlaceV),l.length<=n->chunks l=(List.range ((l.length+63) / 64)).map (fun q=>(l.drop (64*q)).take 64)
 | 0,l,h=>by
  obtain rfl:l=[]:=List.length_eq_zero_iff.1 (by omega)
  unfold chunks;simp
 | n+1,l,h=>by
  by_cases h0:l=[]
  · subst h0;unfold chunks;simp
  · have hp:=List.length_pos_iff.2 h0
    unfold chunks
    rw [dif_neg h0,z50 n (l.drop 64) (by rw [List.length_drop];omega),show (l.length+63) / 64=((l.drop 64).length+63) / 64+1 by rw [List.length_drop];omega,List.range_succ_eq_map,List.map_cons,List.map_map]
    congr 1
    refine List.map_congr_left fun q _=>?_
    show ((l.drop 64).drop (64*q)).take 64=(l.drop (64*(q+1))).take 64
    rw [List.drop_drop,show 64+64*q=64*(q+1) by omega]
theorem zgw (r:Hp) (bz:Nat) (v1 v2 v3:Value) (l1 l2 l3:List UInt8) (T:TypeId) (hl:(l1++(l2++l3)).length<=1000000000):Tri Tryz.prog r 38 [.slice (some ⟨bz,0,none⟩) 3 3] [RdC v1 l1,U8R v2 l2,U8R v3 l3,pt bz (.cells [v1,v2,v3].toArray T (0,0))] fun w H => ∃ a c,w = .slice a (l1++(l2++l3)).length c/\H=[U8R w (l1++(l2++l3))]:=by
 refine Tri.frz fun r1 g1 _ hg1 h1=>Tri.frz fun r2 g2 hr2 hg2 h2=>Tri.frz fun r3 g3 hr3 hg3 h3=>Tri.frz fun r4 g4 hr4 hg4 h4=>?_
 have hb:r4 bz=some (.cells [v1,v2,v3].toArray T (0,0)):=by
  refine hg4 _ _ ?_
  rw [h4];exact z0h
 have e1:U8S r4 v1 l1:=((((Sl.mono h1 hg1).mono hr2).mono hr3).mono hr4)
 have e2:U8S r4 v2 l2:=(((h2.sl hg2).mono hr3).mono hr4)
 have e3:U8S r4 v3 l3:=((h3.sl hg3).mono hr4)
 have hz:Rowz r4 (.slice (some ⟨bz,0,none⟩) 3 3) [⟨v1,l1⟩,⟨v2,l2⟩,⟨v3,l3⟩]:=by
  refine ⟨⟨fun _=>rfl,Sl.lit (n:=3) hb rfl (by simp [maxLen])⟩,fun z hz=>?_⟩
  simp only [List.mem_cons,List.not_mem_nil,or_false] at hz
  rcases hz with rfl|rfl|rfl
  · exact e1
  · exact e2
  · exact e3
 have h:=z3y r4 (.slice (some ⟨bz,0,none⟩) 3 3) _ hz (by simpa [flatB] using hl) (by simp)
 rw [show flatB [(⟨v1,l1⟩:BytV),⟨v2,l2⟩,⟨v3,l3⟩]=l1++(l2++l3) by simp [flatB]] at h
 exact h
theorem zgx (r:Hp) (x:PostV) (a0:PlaceV) (hx:Els r 2 encPl x.val x.pl) (hc:chainP a0 x.pl=true) (hl:x.pl.length<=1000000) (hg:x.gram.length<=1000000):Tri Tryz.prog r 88 [.agg (encPo x).toArray] [] fun w H => ∃ a c,w = .slice a (postB (unP x)).length c/\H=[U8R w (postB (unP x))]:=by
 obtain ⟨g,v,l⟩:=x
 dsimp only at hx hc hl hg ⊢
 obtain ⟨a,c,rfl⟩:=hx.2.form
 show Tri Tryz.prog r 88 [.agg [.string (bs g),.slice a l.length c].toArray] [] _
 refine Tri.free2 fun R HR=>?_
 refine ae Tryz.func88 Tryz.ntmps88 ?_
 refine z0f (A:=RowC 5 1 (.slice none 0 0) 0 []) (RowC.nil _ _) ?_
 repeat' (first|refine aw0m ?_|(refine ap2 ?_ ?_<;>try intro h)|((with_reducible apply z0k [(bz,.cells [.int .i64 l.length].toArray 3 (0,0))]);(exact atks);intro r' hl';refine acl Tryz.func81 ?_;refine acr (z1i _ bb (.slice none 0 0) [] _ l.length (Sl.lit (n:=1) (Lent.h1 hl') rfl (by simp [maxLen])) (by unfold maxNum;omega) (by simp)) ?_;rintro v' H' ⟨w',rfl⟩;all_goals refine apm ?_)|(refine acl Tryz.func150 ?_;refine acr (zlk _ a l.length c) ?_;rintro v' H' ⟨b1,b2,rfl,rfl⟩;refine apl ?_)|refine aw1m ?_|(refine abx ?_;intro bb)|(refine abz ?_;intro bz)|(refine ahv ?_;intro v' hv')|(refine aac ?_;intro ac cc)|refine aw2 ?_|(refine ap4 ?_ ?_<;>try intro h)|apply True.intro)
 rename_i b0 bw b4
 obtain ⟨Cs,hCs⟩ : ∃ Cs,chunkVs (.slice a l.length c) l=Cs:=⟨_,rfl⟩
 have hseq:=zll r a c l hx (by omega) b1 b2
 rw [hCs] at hseq
 have hcv : ∀ y∈Cs,Els r 2 encPl y.1 y.2/\y.2≠[]/\(∃ a,chainP a y.2=true)/\y.2.length<=64:=by
  intro y hy
  rw [← hCs] at hy
  obtain ⟨q,hq,rfl⟩:=List.mem_map.1 hy
  have hq':=List.mem_range.1 hq
  have hlt:64*q<l.length:=by omega
  refine ⟨?_,?_,?_,?_⟩
  · have h1:=hx.cut3 (i:=64*q) (j:=64*q+min 64 (l.length - 64*q)) (m:=64*q+min 64 (l.length - 64*q)) (by omega) (Nat.le_refl _) (by omega)
    have h2:(l.drop (64*q)).take (64*q+min 64 (l.length - 64*q) - 64*q)=(l.drop (64*q)).take 64:=by
     rw [show 64*q+min 64 (l.length - 64*q) - 64*q=min 64 (l.drop (64*q)).length by rw [List.length_drop];omega,← List.take_take,List.take_length]
    rw [h2] at h1
    exact h1
  · intro h
    have h1:=congrArg List.length h
    simp only [chunkV,List.length_take,List.length_drop,List.length_nil] at h1
    omega
  · have h1:=hc
    rw [← List.take_append_drop (64*q) l,z4f,Bool.and_eq_true] at h1
    have h2:=h1.2
    rw [← List.take_append_drop 64 (l.drop (64*q)),z4f,Bool.and_eq_true] at h2
    exact ⟨_,h2.1⟩
  · simp only [chunkV,List.length_take];omega
 have hall : ∀ y∈Cs,(y.2.headD default).doc<4000/\0<=(y.2.headD default).doc/\(block1 y.2).length<=1000:=by
  intro y hy
  obtain ⟨hye,hyn,⟨ya,hyc⟩,hy64⟩:=hcv y hy
  have h1:=z2g y.2 ya hyc
  obtain ⟨p,q,hpq⟩:=List.exists_cons_of_ne_nil hyn
  have hp:0<=(y.2.headD default).doc/\(y.2.headD default).doc<4000:=by rw [hpq] at h1 ⊢;exact ⟨(h1 p List.mem_cons_self).2.1,(h1 p List.mem_cons_self).2.2.1⟩
  have h2:=z6t y.2 ⟨(y.2.headD default).doc,-1⟩ (fun p hp=>(h1 p hp).2) hp.1 (Int.le_refl _)
  refine ⟨hp.2,hp.1,?_⟩
  unfold block1;omega
 have hCl:Cs.length=(l.length+63) / 64:=by rw [← hCs,chunkVs,List.length_map,List.length_range]
 have hchk:chunks l=Cs.map (·.2):=by
  rw [z50 _ l (Nat.le_refl _),← hCs,chunkVs,List.map_map];rfl
 refine z0f (A:=RowC 26 1 (.slice none 0 0) 0 []) (RowC.nil _ _) ?_
 refine z0f (A:=ByC []) rfl ?_
 refine z5x rfl (z2h Tryz.func202 (by kernel_rfl) rfl) hseq atks (fun _=>rfl)
  (fun i H => ∃ (wv:Value) (a4:Option Addr) (c4:Nat) (Z:List BytV) (G:List Ch),Z.map (·.data)=(Cs.take i).map (fun y=>block1 y.2)/\Takes [pt bb (.cells [.int .i64 (if i=0 then 0 else lastD ((Cs.take i).map (·.2)))].toArray 3 (0,0)),pt bw (wri wv false),U8R wv (septs l.length++headsB 0 ((Cs.take i).map (·.2))),pt b4 (.cells [.slice a4 i c4].toArray 34 (0,0)),RowC 26 1 (.slice a4 i c4) i (Z.flatMap encBy),ByC Z,pt b0 (.cells [.string (bs g),.slice a l.length c].toArray 145 (0,0))] H G)
  (fun _ _ _=>False) ?_ ?_ ?_ (fun _ _ _ _ h=>h.elim)
 · refine ⟨w',none,0,[],?_⟩
   apply Exists.intro
   apply And.intro
   · rfl
   · rw [show septs l.length++headsB 0 ((Cs.take 0).map (·.2))=septs l.length by simp [headsB],if_pos rfl,show ([]:List BytV).flatMap encBy=[] from rfl]
     (exact atks)
 · rintro k i hi H ⟨wv,a4,c4,Z,G,hZ,hp⟩
   obtain ⟨y,hy⟩ : ∃ y,Cs[i]=y:=⟨_,rfl⟩
   rw [hy,show encC y=[y.1] from rfl,pars1]
   refine z01 hp ?_
   clear hp
   obtain ⟨hye,hyn,⟨ya,hyc⟩,hy64⟩:=hcv y (by rw [← hy];exact List.getElem_mem hi)
   have hy0:0<y.2.length:=List.length_pos_iff.2 hyn
   obtain ⟨lv,hlv⟩ : ∃ lv,(if i=0 then 0 else lastD ((Cs.take i).map (·.2)))=lv:=⟨_,rfl⟩
   obtain ⟨W,hW⟩ : ∃ W,septs l.length++headsB 0 ((Cs.take i).map (·.2))=W:=⟨_,rfl⟩
   rw [hlv,hW]
   have hlo:lv<=(y.2.getD 0 default).doc/\(y.2.getD 0 default).doc<4000/\0<=lv:=by
    have hyd:y.2.getD 0 default=y.2.headD default:=by cases y.2<;>rfl
    have h1:=hall y (by rw [← hy];exact List.getElem_mem hi)
    rw [hyd]
    refine ⟨?_,h1.1,?_⟩
    · rw [← hlv]
      by_cases h0:i=0
      · rw [if_pos h0];exact h1.2.1
      · rw [if_neg h0]
        have hz:(Cs.take i).map (·.2)=(Cs.take (i - 1)).map (·.2)++[(Cs[i - 1]'(by omega)).2]:=by
         have h2:Cs.take i=Cs.take (i - 1)++[Cs[i - 1]'(by omega)]:=by
          have h3:=List.take_succ_eq_append_getElem (l:=Cs) (i:=i - 1) (by omega)
          rwa [show i - 1+1=i by omega] at h3
         rw [h2,List.map_append];rfl
        rw [hz,z5q]
        have hg : ∀ (q:Nat) (hq:q<Cs.length),(Cs[q].2.headD default)=l.getD (64*q) default:=by
         intro q hq
         subst hCs
         simp only [chunkVs,List.getElem_map,List.getElem_range,chunkV]
         have hlt:64*q<l.length:=by omega
         rw [List.headD_eq_head?_getD,List.head?_take,List.head?_drop,List.getD_eq_getElem?_getD]
         simp
        have hd:(Cs[i - 1]'(by omega)).2.headD ⟨0,0⟩=(Cs[i - 1]'(by omega)).2.headD default:=by
         have hn:=(hcv _ (List.getElem_mem (by omega:i - 1<Cs.length))).2.1
         generalize (Cs[i - 1]'(by omega)).2=u at hn
         cases u with|nil=>exact absurd rfl hn|cons=>rfl
        rw [hd,hg (i - 1) (by omega),← hy,hg i hi]
        exact zb3 hc (by omega) (by omega)
    · rw [← hlv]
      by_cases h0:i=0
      · rw [if_pos h0];exact Int.le_refl _
      · rw [if_neg h0]
        have hz:(Cs.take i).map (·.2)=(Cs.take (i - 1)).map (·.2)++[(Cs[i - 1]'(by omega)).2]:=by
         have h2:Cs.take i=Cs.take (i - 1)++[Cs[i - 1]'(by omega)]:=by
          have h3:=List.take_succ_eq_append_getElem (l:=Cs) (i:=i - 1) (by omega)
          rwa [show i - 1+1=i by omega] at h3
         rw [h2,List.map_append];rfl
        rw [hz,z5q]
        have h2:=hall _ (List.getElem_mem (by omega:i - 1<Cs.length))
        have hn:=(hcv _ (List.getElem_mem (by omega:i - 1<Cs.length))).2.1
        generalize (Cs[i - 1]'(by omega)).2=u at hn h2
        cases u with|nil=>exact absurd rfl hn|cons=>exact h2.2.1
   have hWl:W.length<=100000000:=by
    have h1:=z40 ((Cs.take i).map (·.2)) 0 (fun c hc=>by
     obtain ⟨z,hz,rfl⟩:=List.mem_map.1 hc
     exact hall z (List.mem_of_mem_take hz)) (Int.le_refl _)
    rw [List.length_map,List.length_take] at h1
    have h2:=z09 (n:=l.length) (by unfold maxNum;omega)
    rw [← hW,List.length_append]
    omega
   have hil:i<=1000000:=by
    have h1:Cs.length=(l.length+63) / 64:=by rw [← hCs,chunkVs,List.length_map,List.length_range]
    omega
   have hbl:(block1 y.2).length<=1000:=(hall y (by rw [← hy];exact List.getElem_mem hi)).2.2
   have hwr:IntKind.i64.wrap ((y.2.getD 0 default).doc - lv)=(y.2.getD 0 default).doc - lv:=z3b (by apply z86<;>omega)
   have hbk:=zgp r y.1 y.2 ya hye hy0 hyc (by omega)
   (refine apk ?_)
   repeat' (first|(rw [hwr])|(refine acl Tryz.func151 ?_;refine acr (hbk) ?_;rintro v' H' ⟨ab,cb,rfl,rfl⟩;refine apl ?_)|(first|((with_reducible apply z02 (id:=8) 10 [(0,true),(1,true),(2,true),(3,true),(4,true),(5,true),(6,true),(7,true),(8,false),(9,false)] [] [(bb,.cells [.int .i64 lv].toArray 3 (0,0))]);kernel_rfl;(exact atks);kernel_rfl;intro r' hl'))|((with_reducible apply z0k [(bz,.cells [.int .i64 ((y.2.getD 0 default).doc - lv),.int .i64 (block1 y.2).length].toArray 3 (0,0))]);(exact atks);intro r' hl';refine acl Tryz.func81 ?_;refine acr (z66 _ bw wv W _ ((y.2.getD 0 default).doc - lv) (block1 y.2).length (Sl.lit (n:=2) (Lent.h1 hl') rfl (by simp [maxLen])) (by omega) (by omega) (by omega)) ?_;rintro v' H' ⟨w2,rfl⟩;all_goals refine apm ?_)|((with_reducible apply z0b (c:= .region 10 _ _) (As:=[ByC Z,U8R (.slice ab (block1 y.2).length cb) (block1 y.2)]) (D:=ByC (Z++[⟨.slice ab (block1 y.2).length cb,block1 y.2⟩])) (hj:=fun h e=>z38 h e));(with_reducible apply Takes.cons);(with_reducible (exact atk));(with_reducible apply Takes.cons);(with_reducible (exact atk));exact Takes.nil)|(first|((with_reducible apply z0d);exact ty_el;exact z03;rfl;rfl;rfl;(exact atk);(exact atk);rfl;omega;intro a' c';(refine apk ?_))|((with_reducible apply z0m);exact ty_el;exact z03;rfl;rfl;rfl;rfl;(exact atk);(exact atk);rfl;rfl;omega;intro a' c';(refine apk ?_)))|refine aw0 ?_|(refine ap2 ?_ ?_<;>try intro h)|refine aw1 ?_|(refine abx ?_;intro bb)|(refine abz ?_;intro bz)|(refine ahv ?_;intro v' hv')|(refine aac ?_;intro ac cc)|refine aw2 ?_|(refine ap4 ?_ ?_<;>try intro h)|apply True.intro)
   have htk:Cs.take (i+1)=Cs.take i++[y]:=by rw [List.take_succ_eq_append_getElem hi,hy]
   refine ⟨w2,a',c',Z++[⟨.slice ab (block1 y.2).length cb,block1 y.2⟩],?_⟩
   apply Exists.intro
   apply And.intro
   · rw [htk,List.map_append,List.map_append,hZ];rfl
   · rw [show (Z++[(⟨.slice ab (block1 y.2).length cb,block1 y.2⟩:BytV)]).flatMap encBy=Z.flatMap encBy++[.slice ab (block1 y.2).length cb] by simp [encBy]]
     rw [show (if i+1=0 then 0 else lastD ((Cs.take (i+1)).map (·.2)))=(y.2.getD 0 default).doc by
      rw [if_neg (by omega),htk,List.map_append,List.map_cons,List.map_nil,z5q]
      obtain ⟨p,q,hpq⟩:=List.exists_cons_of_ne_nil hyn
      rw [hpq];rfl]
     rw [show septs l.length++headsB 0 ((Cs.take (i+1)).map (·.2))=W++(septs ((y.2.getD 0 default).doc - lv).toNat++septs ((block1 y.2).length:Int).toNat) by
      rw [htk,List.map_append,List.map_cons,List.map_nil,z67 _ _ _ (by
       intro c hc
       obtain ⟨z,hz,rfl⟩:=List.mem_map.1 hc
       exact (hcv z (List.mem_of_mem_take hz)).2.1) hyn,← hW,List.append_assoc,← hlv]
      congr 2
      have e1:(y.2.headD default)=y.2.getD 0 default:=by cases y.2<;>rfl
      rw [e1]
      have e2:(if (Cs.take i).map (·.2)=[] then (0:Int) else lastD ((Cs.take i).map (·.2)))=(if i=0 then 0 else lastD ((Cs.take i).map (·.2))):=by
       by_cases h0:i=0
       · subst h0;simp
       · rw [if_neg h0,if_neg (fun h=>by have h1:=congrArg List.length h;rw [List.length_map,List.length_take,List.length_nil] at h1;omega)]
      rw [e2];rfl]
     (exact atks)
 · rintro H ⟨wv,a4,c4,Z,G,hZ,hp⟩
   refine z01 hp ?_
   clear hp
   rw [List.take_length] at hZ ⊢
   have hZl:Z.length=Cs.length:=by have h1:=congrArg List.length hZ;rwa [List.length_map,List.length_map] at h1
   with_reducible apply z12 (A:=ByC Z)
   · (with_reducible (exact atk))
   intro r1 g1 hr1 hg1 hA1
   with_reducible apply z12 (A:=RowC 26 1 (.slice a4 Cs.length c4) Cs.length (Z.flatMap encBy))
   · (with_reducible (exact atk))
   intro r2 g2 hr2 hg2 hA2
   have hrow:Rowz r2 (.slice a4 Cs.length c4) Z:=by
    refine ⟨?_,fun z hz=>zei hA1 (fun b o e=>hr2 b o (hg1 b o e)) z hz⟩
    have h1:=hA2.sl hg2
    rw [← hZl] at h1 ⊢
    exact ⟨fun _=>rfl,h1⟩
   have hdat:flatB Z=(chunks l).flatMap block1:=by
    have h1:flatB Z=(Z.map (·.data)).flatten:=by unfold flatB;rw [List.flatMap_def]
    rw [h1,hZ,hchk,List.flatMap_def,List.map_map];rfl
   have hWl:(septs l.length++headsB 0 (Cs.map (·.2))).length<=100000000:=by
    have h1:=z40 (Cs.map (·.2)) 0 (fun c hc=>by
     obtain ⟨z,hz,rfl⟩:=List.mem_map.1 hc
     exact hall z hz) (Int.le_refl _)
    rw [List.length_map] at h1
    have h2:=z09 (n:=l.length) (by unfold maxNum;omega)
    rw [List.length_append]
    omega
   have hfl:(flatB Z).length<=100000000:=by
    have h1 : ∀ z∈Z.map (·.data),z.length<=1000:=by
     rw [hZ]
     intro z hz
     obtain ⟨y,hy,rfl⟩:=List.mem_map.1 hz
     exact (hall y hy).2.2
    have h2 : ∀ L:List (List UInt8),(∀ z∈L,z.length<=1000)->L.flatten.length<=1000*L.length:=by
     intro L
     induction L with
     | nil=>intro _;simp
     | cons a L ih =>
      intro h
      have:=h a List.mem_cons_self
      have:=ih fun z hz=>h z (List.mem_cons_of_mem _ hz)
      rw [List.flatten_cons,List.length_append,List.length_cons];omega
    have h3:=h2 _ h1
    rw [List.length_map,hZl] at h3
    have h4:flatB Z=(Z.map (·.data)).flatten:=by unfold flatB;rw [List.flatMap_def]
    rw [h4];omega
   have hpB:postB (unP ⟨g,.slice a l.length c,l⟩)=g++((septs l.length++headsB 0 (Cs.map (·.2)))++flatB Z):=by
    rw [hdat,← hchk];rfl
   rw [hpB] at HR
   obtain ⟨W,hW⟩ : ∃ W,septs l.length++headsB 0 (Cs.map (·.2))=W:=⟨_,rfl⟩
   rw [hW] at hWl HR ⊢
   obtain ⟨D,hD⟩ : ∃ D,flatB Z=D:=⟨_,rfl⟩
   have hsum:(g++(W++flatB Z)).length<=1000000000:=by rw [List.length_append,List.length_append];omega
   have hcat:=fun rr (hrr:Rowz rr (.slice a4 Cs.length c4) Z)=>z3y rr _ Z hrr (by omega) (by omega)
   rw [hD] at hcat hfl HR hsum
   repeat' (first|((with_reducible apply z1h (id:=11) 8 (Pl.seg [(0,true),(1,true),(4,true)] (Pl.two 2 3 (Pl.seg [(3,false),(5,false),(6,false),(7,false)] Pl.leaf) (Pl.seg [] (Pl.two 2 5 (Pl.seg [(5,false),(6,false),(7,false)] Pl.leaf) (Pl.seg [(2,false),(6,false),(7,false)] Pl.leaf))))) (List.replicate 8 true++List.replicate 1 false).toArray [(8,false)] [(b0,.cells [.string (bs g),.slice a l.length c].toArray 145 (0,0)),(b4,.cells [.slice a4 Cs.length c4].toArray 34 (0,0))]);kernel_rfl;(exact atks);kernel_rfl;intro r' hl')|(refine acl Tryz.func39 ?_;refine acr (z3h _ bw wv W (by omega)) ?_;rintro v' H' ⟨a5,c5,rfl,rfl⟩;refine apl ?_)|(refine acl Tryz.func38 ?_;refine acr (hcat _ ⟨hrow.1.mono hl'.1,fun z hz=>(hrow.2 z hz).mono hl'.1⟩) ?_;rintro v' H' ⟨a6,c6,rfl,rfl⟩;refine apl ?_)|(refine acl Tryz.func38 ?_;refine acr (zgw _ _ (.slice ac g.length cc) (.slice a5 W.length c5) (.slice a6 D.length c6) g W D 26 hsum) ?_;rintro v' H' ⟨a7,c7,rfl,rfl⟩;refine apl ?_)|refine aw0 ?_|(refine ap2 ?_ ?_<;>try intro h)|refine aw1 ?_|(refine abx ?_;intro bb)|(refine abz ?_;intro bz)|(refine ahv ?_;intro v' hv')|(refine aac ?_;intro ac cc)|refine aw2 ?_|(refine ap4 ?_ ?_<;>try intro h)|apply True.intro)
   all_goals ((with_reducible apply z00);exact res_1 rfl rfl)
   all_goals exact HR.out _ _ _ [_] atks ⟨_,_,rfl,rfl⟩
def putE (ps:List PostP):List UInt8 × Int:=if postsOk [] ps then (putB ps,0) else ([],2)
theorem z1w : ∀ {ps:List PostP} {last:List UInt8},postsOk last ps=true -> ∀ x∈ps,postOk x=true
 | [],_,_,_,hx=>by cases hx
 | p::ps,last,h,x,hx=>by
  rw [postsOk,Bool.and_eq_true,Bool.and_eq_true] at h
  rcases List.mem_cons.1 hx with rfl|hx
  · exact h.1.1
  · exact z1w h.2 x hx
theorem z19 {x:PostP} (h:postOk x=true):chainP ⟨-1,0⟩ x.2=true/\x.1.length=3/\x.2≠[]:=by
 unfold postOk at h
 rw [Bool.and_eq_true,Bool.and_eq_true,decide_eq_true_eq] at h
 exact ⟨h.2,h.1.1,by intro e;have:=h.1.2;rw [e] at this;cases this⟩
theorem z6u {a0:PlaceV} {l:List PlaceV} (h:chainP a0 l=true) : ∀ c∈chunks l,(c.headD default).doc<4000/\0<=(c.headD default).doc/\(block1 c).length<=1000:=by
 intro c hc
 obtain ⟨hn,a,ha⟩:=(z20 _ l a0 (Nat.le_refl _) h).2 c hc
 have h64:c.length<=64:=by
  rw [z50 _ l (Nat.le_refl _)] at hc
  obtain ⟨q,_,rfl⟩:=List.mem_map.1 hc
  simp only [List.length_take];omega
 have h1:=z2g c a ha
 have hp:0<=(c.headD default).doc/\(c.headD default).doc<4000:=by
  cases c with
  | nil=>exact absurd rfl hn
  | cons p q=>exact ⟨(h1 p List.mem_cons_self).2.1,(h1 p List.mem_cons_self).2.2.1⟩
 have h2:=z6t c ⟨(c.headD default).doc,-1⟩ (fun p hp=>(h1 p hp).2) hp.1 (Int.le_refl _)
 exact ⟨hp.2,hp.1,by unfold block1;omega⟩
theorem z42 {l:List PlaceV}:(chunks l).length=(l.length+63) / 64:=by
 rw [z50 _ l (Nat.le_refl _),List.length_map,List.length_range]
theorem zco : ∀ L:List (List PlaceV),(∀ c∈L,(block1 c).length<=1000)->(L.flatMap block1).length<=1000*L.length
 | [],_=>by simp
 | a::L,h=>by
  have h1:=h a List.mem_cons_self
  have h2:=zco L fun z hz=>h z (List.mem_cons_of_mem _ hz)
  rw [List.flatMap_cons,List.length_append,List.length_cons];omega
theorem zig {x:PostP} (h:postOk x=true) (hl:x.2.length<=10000):(postB x).length<=200000:=by
 obtain ⟨hc,h3,_⟩:=z19 h
 have h1:=z40 (chunks x.2) 0 (z6u hc) (Int.le_refl _)
 have h2:=zco (chunks x.2) (fun c hc'=>(z6u hc c hc').2.2)
 have h4:=z09 (n:=x.2.length) (by unfold maxNum;omega)
 have h5:(chunks x.2).length=(x.2.length+63) / 64:=z42
 unfold postB
 rw [List.length_append,List.length_append,List.length_append]
 omega
theorem zih {p:List UInt8} (h:p.length<=200000):(texts p).length<=200006:=by
 have:=z09 (n:=p.length) (by unfold maxNum;omega)
 unfold texts;rw [List.length_append];omega
theorem zcp : ∀ ps:List PostP,(∀ x∈ps,(postB x).length<=200000)->(ps.flatMap fun x=>texts (postB x)).length<=200006*ps.length
 | [],_=>by simp
 | a::L,h=>by
  have h1:=zih (h a List.mem_cons_self)
  have h2:=zcp L fun z hz=>h z (List.mem_cons_of_mem _ hz)
  rw [List.flatMap_cons,List.length_append,List.length_cons];omega
theorem zej (r:Hp) (v:Value) (xs:List PostV) (hv:Posts r v xs) (hb : ∀ x∈xs,x.pl.length<=10000) (hn:xs.length<=10000):Tri Tryz.prog r 35 [v] [] fun w H => ∃ a c,w = .tuple #[.slice a (putE (xs.map unP)).1.length c,.int .i64 (putE (xs.map unP)).2]/\H=[U8R (.slice a (putE (xs.map unP)).1.length c) (putE (xs.map unP)).1]:=by
 refine Tri.free2 fun R HR=>?_
 have hrt:=z3s r v xs hv
 have hve:=hv.1
 cases hok:postsOk [] (xs.map unP)
 · rw [hok] at hrt
   rw [show putE (xs.map unP)=([],2) by unfold putE;rw [hok];rfl] at HR
   refine ae Tryz.func35 Tryz.ntmps35 ?_
   refine z0f (A:=U8R (.slice none 0 0) []) (RowC.nil _ _) ?_
   repeat' (first|refine aw0m ?_|(refine ap2 ?_ ?_<;>try intro h)|(refine acl Tryz.func87 ?_;refine acr (hrt) ?_;rintro v' H' ⟨rfl,rfl⟩;refine apl ?_)|(exfalso;contradiction)|refine aw1m ?_|(refine abx ?_;intro bb)|(refine abz ?_;intro bz)|(refine ahv ?_;intro v' hv')|(refine aac ?_;intro ac cc)|refine aw2 ?_|(refine ap4 ?_ ?_<;>try intro h)|apply True.intro)
   ((with_reducible apply z00);exact res_2 rfl rfl rfl)
   exact HR.out _ _ _ [_] atks ⟨none,0,rfl,rfl⟩
 · rw [hok] at hrt
   rw [show putE (xs.map unP)=(putB (xs.map unP),0) by unfold putE;rw [hok];rfl] at HR
   have hpo : ∀ x∈xs,postOk (unP x)=true:=fun x hx=>z1w hok _ (List.mem_map_of_mem hx)
   have hpl : ∀ x∈xs,(postB (unP x)).length<=200000:=fun x hx=>zig (hpo x hx) (hb x hx)
   clear hok
   refine ae Tryz.func35 Tryz.ntmps35 ?_
   refine z0f (A:=U8R (.slice none 0 0) []) (RowC.nil _ _) ?_
   repeat' (first|refine aw0m ?_|(refine ap2 ?_ ?_<;>try intro h)|(refine acl Tryz.func87 ?_;refine acr (hrt) ?_;rintro v' H' ⟨rfl,rfl⟩;refine apl ?_)|(exfalso;contradiction)|((with_reducible apply z0k [(bz,.cells [.int .i64 xs.length].toArray 3 (0,0))]);(exact atks);intro r' hl';refine acl Tryz.func81 ?_;refine acr (z1i _ bb (.slice none 0 0) [] _ xs.length (Sl.lit (n:=1) (Lent.h1 hl') rfl (by simp [maxLen])) (by unfold maxNum;omega) (by simp)) ?_;rintro v' H' ⟨w',rfl⟩;all_goals refine apm ?_)|refine aw1m ?_|(refine abx ?_;intro bb)|(refine abz ?_;intro bz)|(refine ahv ?_;intro v' hv')|(refine aac ?_;intro ac cc)|refine aw2 ?_|(refine ap4 ?_ ?_<;>try intro h)|apply True.intro)
   revert bb;intro bw
   refine z04 (fun gm t H' => ∃ (k:Nat) (wv:Value),gm=xs.length+1 - k/\(k<=xs.length)/\(∃ G,Takes [pt bw (wri wv false),U8R wv (septs xs.length++((xs.take k).map unP).flatMap fun x=>texts (postB x))] H' G)/\Sls t 26 [(4,.pointer (some ⟨bw,0,none⟩)),(14,v),(15,.int .i64 xs.length),(16,.int .i64 k)]) _ ⟨0,w',rfl,Nat.zero_le _,⟨_,by simp only [List.take_zero,List.map_nil,List.flatMap_nil,List.append_nil];(exact atks)⟩,asls⟩ ?_
   rintro gm t H' ⟨k,wv,rfl,hk,⟨G,hp⟩,hs'⟩
   revert t;refine z06 ?_;iterate 22 intro uu'
   refine z01 hp ?_;clear hp
   by_cases hlt:k<xs.length
   · have hx:=hv.2 _ (z0g hlt)
     have hm:=z0g hlt
     have hch:=(z19 (hpo _ hm)).1
     have hbl:=hb _ hm
     have hg3:(xs.getD k default).gram.length=3:=(z19 (hpo _ hm)).2.1
     have hpst:=zgx r (xs.getD k default) ⟨-1,0⟩ hx hch (by omega) (by omega)
     have hpl1:=hpl _ hm
     have htk:xs.take (k+1)=xs.take k++[xs.getD k default]:=by
      rw [List.take_succ_eq_append_getElem hlt,List.getD_eq_getElem?_getD,List.getElem?_eq_getElem hlt];rfl
     have hlen:(septs xs.length++((xs.take k).map unP).flatMap fun x=>texts (postB x)).length<=6+200006*k:=by
      have h1:=zcp ((xs.take k).map unP) (fun x hx=>by
       obtain ⟨z,hz,rfl⟩:=List.mem_map.1 hx
       exact hpl z (List.mem_of_mem_take hz))
      rw [List.length_map,List.length_take] at h1
      have h2:=z09 (n:=xs.length) (by unfold maxNum;omega)
      rw [List.length_append];omega
     have htx:=zih hpl1
     have hnx:(septs xs.length++((xs.take (k+1)).map unP).flatMap fun x=>texts (postB x))=(septs xs.length++((xs.take k).map unP).flatMap fun x=>texts (postB x))++texts (postB (unP (xs.getD k default))):=by
      rw [htk,List.map_append,List.flatMap_append,List.append_assoc];simp
     generalize (septs xs.length++((xs.take k).map unP).flatMap fun x=>texts (postB x))=W at *
     generalize postB (unP (xs.getD k default))=B at *
     repeat' (first|refine aw0m ?_|(refine ap2 ?_ ?_<;>try intro h)|(refine acl Tryz.func88 ?_;refine acr (hpst) ?_;rintro v' H' ⟨a,c,rfl,rfl⟩;refine apl ?_)|((with_reducible apply z05 (A:=U8R (.slice a B.length c) B));(exact atk);intro r1 g1 hr1 hg1 hA1;((with_reducible apply z0k [(bz,.cells [.slice a B.length c].toArray 26 (0,0))]);(exact atks);intro r' hl';refine acl Tryz.func85 ?_;refine acr (zbp _ bw wv W _ _ B (Sl.lit (n:=1) (Lent.h1 hl') rfl (by simp [maxLen])) ((hA1.sl hg1).mono hl'.1) (by omega) (by omega)) ?_;rintro v' H' ⟨w2,rfl⟩;all_goals refine apm ?_))|refine aw1m ?_|(refine abx ?_;intro bb)|(refine abz ?_;intro bz)|(refine ahv ?_;intro v' hv')|(refine aac ?_;intro ac cc)|refine aw2 ?_|(refine ap4 ?_ ?_<;>try intro h)|apply True.intro)
     exact ⟨_,by omega,k+1,w2,rfl,by omega,⟨_,by rw [hnx];(exact atks)⟩,asls⟩
   · obtain rfl:k=xs.length:=by omega
     rw [List.take_length]
     have hlen:(septs xs.length++(xs.map unP).flatMap fun x=>texts (postB x)).length<=60000000000000:=by
      have h1:=zcp (xs.map unP) (fun x hx=>by
       obtain ⟨z,hz,rfl⟩:=List.mem_map.1 hx
       exact hpl z hz)
      rw [List.length_map] at h1
      have h2:=z09 (n:=xs.length) (by unfold maxNum;omega)
      rw [List.length_append];omega
     have hB:putB (xs.map unP)=septs xs.length++(xs.map unP).flatMap fun x=>texts (postB x):=by unfold putB;rw [List.length_map]
     rw [hB] at HR
     generalize (septs xs.length++(xs.map unP).flatMap fun x=>texts (postB x))=W at *
     repeat' (first|refine aw0m ?_|(refine ap2 ?_ ?_<;>try intro h)|(refine acl Tryz.func39 ?_;refine acr (z3h _ bw wv W hlen) ?_;rintro v' H' ⟨a,c,rfl,rfl⟩;refine apl ?_)|refine aw1m ?_|(refine abx ?_;intro bb)|(refine abz ?_;intro bz)|(refine ahv ?_;intro v' hv')|(refine aac ?_;intro ac cc)|refine aw2 ?_|(refine ap4 ?_ ?_<;>try intro h)|apply True.intro)
     ((with_reducible apply z00);exact res_2 rfl rfl rfl)
     exact HR.out _ _ _ [_] atks ⟨_,_,rfl,rfl⟩
end Go.Proofs.YtohpeoakdgckfaaGreat
