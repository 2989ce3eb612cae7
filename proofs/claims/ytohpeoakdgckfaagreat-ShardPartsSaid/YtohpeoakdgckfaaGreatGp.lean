/- post.read: its contract. post.Get: its contract. -/
import Derived.Test.YtohpeoakdgckfaaGreatRe
import Derived.Test.YtohpeoakdgckfaaGreatPf
import Derived.Test.YtohpeoakdgckfaaGreatPq
set_option maxHeartbeats 4000000
set_option maxRecDepth 10000
namespace Go.Proofs.YtohpeoakdgckfaaGreat
open Go.RowKit
namespace Sx
section
variable {P : Program} {r : Hp} {t : List Value} {H : List Ch}
theorem zeo {fn:Func} {d e:Tmp} {T:TypeId} {b n:Nat} {c:Array Value} {E:TypeId} {fz:Nat × Nat} {H':List Ch} {v:Value} (hr:fn.results = #[.cell d T,.tmp e]) (hv:t[d]?=some (.pointer (some ⟨b,0,none⟩))) (hu:t[e]?=some v) (ht:Take (pt b (.cells c E fz)) H H') (hT:aggB P T=some true) (hn:sizeB P T=some n) (hl:c.size=n):Res P r fn t H (.tuple #[.agg c,v]):=by
 subst hl
 intro w g e e' al
 have hc : ∀ j (h:j<c.size),w.cell? (Addr.add ⟨b,0,none⟩ (0+j))=some c[j]:=fun j hj=>by
  rw [Nat.zero_add]
  exact zjb (off:=0) ht (fun j hj=>by rw [Nat.zero_add];exact Array.getElem?_eq_getElem hj) j hj w g e' e al
 have h1:=z1m (P:=P) (a:=⟨b,0,none⟩) (w:=w) c.size 0 #[] c rfl hc
 have h2:t.toArray.getD d undef = .pointer (some ⟨b,0,none⟩):=by simp [hv,Array.getD_eq_getD_getElem?]
 simp [results,hr,hv,hu,asAddr,loadVar,loadCells,Sem.run_bind,z1a hT,z14 hn,Result.andThen,h1,Array.getD_eq_getD_getElem?]
end
end Sx
open Sx
theorem zep (size:Nat) : ∀ (k n doc:Nat) (st:Stt),(∀ h∈(headsR size k n doc st).1,1<=h.many/\h.many<=64/\h.doc<=doc+4000*k)/\(headsR size k n doc st).1.length<=k
 | 0,n,doc,st=>by simp [headsR]
 | k+1,n,doc,st=>by
  unfold headsR
  split
  · simp
  · rename_i c
    have h4:(numR 4000 st).1<=4000:=z18 4000 st
    have h0:n≠0:=fun e=>c (.inl e)
    obtain ⟨h1,h2⟩:=zep size k (n - 64) (doc+(numR 4000 st).1) (numR size (numR 4000 st).2).2
    refine ⟨fun h hh=>?_,by simpa using h2⟩
    rcases List.mem_cons.1 hh with rfl|hh
    · refine ⟨?_,?_,?_⟩<;>dsimp only<;>omega
    · have:=h1 h hh
      omega
theorem zeq {k:Nat} {a:PlaceV} (h:1<=k):placesR k a none=([],none):=by
 obtain ⟨k,rfl⟩ : ∃ n,k=n+1:=⟨k - 1,by omega⟩
 simp [placesR,numR]
theorem z9p : ∀ (k:Nat) (a:PlaceV) (st:Stt),(placesR k a st).1.length<=k
 | 0,_,_=>by simp [placesR]
 | k+1,a,st=>by
  simp only [placesR]
  split
  · simp
  · simpa using z9p k _ _
def nilSt:Stt->Bool|some y=>decide ((y.length:Int)=0)|none=>false
def RdInv (T:Option (List PlaceV × List UInt8)) (acc:List PlaceV) (s:Stt) (bq:Bool):Prop:=match T with
 | none=>bq=true\/s=none
 | some (a,l)=>bq=false/\s=some l/\acc=a
theorem zk0 {T:Option (List PlaceV × List UInt8)} {acc xs:List PlaceV} {s s9:Stt} {bq bd':Bool} {h:HeadV} (hi:RdInv T acc s bq) (hm:1<=h.many) (hp:placesR h.many ⟨h.doc,-1⟩ s=(xs,s9))
 (hb : ∀ l x,s=some l->s9=some x->bd'=(bq || !decide ((xs.headD default).doc=h.doc) || !decide ((l.length:Int) - x.length=h.size))):RdInv (stepB h T) (acc++xs) s9 bd':=by
 cases T with
 | none =>
  show bd'=true\/s9=none
  cases hs:s with
  | none =>
   rw [hs,zeq hm] at hp
   injection hp with _ e
   exact .inr e.symm
  | some l =>
   rcases hi with hi|hi
   · cases h9:s9 with
     | none=>exact .inr rfl
     | some x=>left;rw [hb l x hs h9,hi];rfl
   · rw [hs] at hi;cases hi
 | some q =>
  obtain ⟨a,l⟩:=q
  obtain ⟨h1,h2,h3⟩:=hi
  subst h1;subst h2;subst h3
  unfold stepB
  simp only [hp]
  cases s9 with
  | none=>exact .inr rfl
  | some x =>
   have hb':=hb l x rfl rfl
   by_cases c1:(xs.headD default).doc=h.doc
   · by_cases c2:(l.length:Int) - x.length=h.size
     · simp only [c1,c2,and_self,if_true]
       exact ⟨by rw [hb',decide_eq_true c1,decide_eq_true c2];rfl,rfl,rfl⟩
     · simp only [c2,and_false,if_false]
       exact .inl (by rw [hb',decide_eq_false c2];simp)
   · simp only [c1,false_and,if_false]
     exact .inl (by rw [hb',decide_eq_false c1];simp)
theorem zk1 (r:Hp) (b3 b2 p g:Nat) (d0 m z:Nat) (v:Value) (bad bd:Bool) (st:Stt) (hv:RdOk r v bad st) (hm:1<=m/\m<=64) (hd:d0<=1000000000) (xs:List PlaceV) (s9:Stt) (hP:placesR m ⟨d0,-1⟩ st=(xs,s9)) :
 Seq Tryz.prog r 231 [.pointer (some ⟨b3,0,none⟩),.pointer (some ⟨b2,0,none⟩)] (fun x=>[.agg (encPl x).toArray]) xs [pt b3 (hdO d0 m z),pt b2 (ppO p),pt p (rdp g bd),pt g (rdr v bad)]
  [fun g1 => ∃ v' bad' bd',RdOk r v' bad' s9/\(∀ l x,st=some l->s9=some x->bd'=(bd || !decide ((xs.headD default).doc=d0) || !decide ((l.length:Int) - x.length=z)))/\all [pt p (rdp g bd'),pt g (rdr v' bad')] g1]:=by
 intro k J Jx hY
 refine z60 (zk9 r b3 b2 p g d0 m z v bad bd st hv hm hd xs s9 hP k J Jx hY) fun w H1 h=>?_
 rcases h with ⟨v',bad',bd',h1,h2,rfl⟩ | ⟨i,Hx,h1,rfl⟩
 · refine ⟨_,.inl rfl,?_⟩
   rintro g1 ⟨x,y,dd,rfl,hx,hy⟩
   exact ⟨x,y,dd,rfl,hx,y,emp,z4u,z30.symm,⟨v',bad',bd',h1,h2,hy⟩,rfl⟩
 · exact ⟨_,.inr ⟨i,Hx,h1,rfl⟩,fun g e=>e⟩
theorem z7u (r:Hp) (g:Nat) (a:Option Addr) (n c:Nat) (bad:Bool):Tri Tryz.prog r 188 [.pointer (some ⟨g,0,none⟩)] [pt g (rdr (.slice a n c) bad)] fun w H=>w = .int .i64 (if bad then 0 else n:Nat)/\H=[pt g (rdr (.slice a n c) bad)]:=by
 cases bad
 all_goals
  refine ae Tryz.func188 Tryz.ntmps188 ?_
  repeat' (first|refine ax0m ?_|(refine abb ?_;intro b)|refine ax1m ?_|(refine aac ?_;intro ac cc)|refine ax2m ?_|(refine ap3 ?_ ?_<;>try intro h)|apply True.intro)
  ((with_reducible apply z00);exact res_1 rfl rfl)
  exact ⟨by simp,rfl⟩
theorem zcs (r:Hp) (v:Value) (l:List UInt8) (hv:U8S r v l) (hl:l.length<=200000):Tri Tryz.prog r 190 [v] [] fun w H => ∃ a c ok,∃ q:PostP,w = .tuple #[.agg #[.string (bs q.1),.slice a q.2.length c],.bool ok]/\H=[RowC 149 2 (.slice a q.2.length c) q.2.length (q.2.flatMap encPl)]/\(readR l=if ok then some q else none):=by
 refine Tri.free2 fun R HR=>?_
 by_cases h3:l.length<3
 · have hr:readR l=none:=by unfold readR;rw [if_pos h3]
   rw [hr] at HR
   refine ae Tryz.func190 Tryz.ntmps190 ?_
   refine z0f (A:=RowC 149 2 (.slice none 0 0) 0 []) (RowC.nil _ _) ?_
   repeat' (first|refine aw0m ?_|(refine ap2 ?_ ?_<;>try intro h)|(exfalso;contradiction)|refine aw1m ?_|(refine abx ?_;intro bb)|(refine abz ?_;intro bz)|(refine ahv ?_;intro v' hv')|(refine aac ?_;intro ac cc)|refine aw2 ?_|(refine ap4 ?_ ?_<;>try intro h)|apply True.intro)
   (with_reducible apply z00)
   exact zeo rfl rfl rfl atk z0a z08 rfl
   exact HR.out _ _ _ [RowC 149 2 (.slice none 0 0) 0 []] atks ⟨none,0,false,([],[]),rfl,rfl,rfl⟩
 · refine ae Tryz.func190 Tryz.ntmps190 ?_
   refine z0f (A:=RowC 149 2 (.slice none 0 0) 0 []) (RowC.nil _ _) ?_
   have htk:List.take ((l.length:Int).toNat - Int.toNat 3) (List.drop (Int.toNat 3) l)=l.drop 3:=List.take_of_length_le (by rw [List.length_drop];exact Nat.le_refl _)
   have htk0:List.take (Int.toNat 3 - Int.toNat 0) (List.drop (Int.toNat 0) l)=l.take 3:=rfl
   have hrd:=fun v' (h:Sl r 1 v' (List.take ((l.length:Int).toNat - Int.toNat 3) (List.drop (Int.toNat 3) l)).length (u8s (List.take ((l.length:Int).toNat - Int.toNat 3) (List.drop (Int.toNat 3) l))))=>z8r r v' (l.drop 3) (by rw [htk] at h;exact h) (by rw [List.length_drop];omega)
   obtain ⟨hs,s0,hHS⟩ : ∃ hs s0,headsR l.length (numR l.length (some (l.drop 3))).1 (numR l.length (some (l.drop 3))).1 0 (numR l.length (some (l.drop 3))).2=(hs,s0):=⟨_,_,rfl⟩
   have hN:(numR l.length (some (l.drop 3))).1<=l.length:=z18 l.length _
   have hbd:=zep l.length (numR l.length (some (l.drop 3))).1 (numR l.length (some (l.drop 3))).1 0 (numR l.length (some (l.drop 3))).2
   have hhd:=fun r1 p g v0 (h:U8S r1 v0 (l.drop 3))=>zlx r1 p g v0 false false (some (l.drop 3)) l.length (.inl ⟨rfl,_,rfl,h⟩) (by omega)
   rw [hHS] at hbd
   dsimp only at hbd
   simp only [hHS] at hhd
   have hrr:readR l=match stepsB hs (s0.map fun y=>([],y)) with|some (ps,[])=>some (l.take 3,ps) | _=>none:=by
    unfold readR
    rw [if_neg h3]
    simp only [hHS]
    cases s0 with
    | none=>rw [show stepsB hs (Option.map (fun y=>(([]:List PlaceV),y)) none)=none by
     unfold stepsB
     clear hHS hbd hhd
     induction hs with|nil=>rfl|cons _ _ ih=>exact ih]
    | some y=>rfl
   clear hHS
   rw [show RowC 149 2 (.slice none 0 0) 0 []=RowC 149 2 (.slice none ([]:List PlaceV).length 0) ([]:List PlaceV).length (([]:List PlaceV).flatMap encPl) from rfl]
   repeat' (first|(exfalso;contradiction)|((with_reducible apply z0c);exact z0l;(exact qcl);intro bt;(refine apk ?_))|((with_reducible apply z2w);rfl;(exact qcl);intro p;(refine apk ?_))|(refine acl Tryz.func182 ?_;refine acr (hrd _ hv') ?_;rintro v' H' ⟨g,v0,rfl,rfl⟩;refine apl ?_)|((with_reducible apply z12 (c:= .seq (.region 5 _ _) _) (A:=U8R v0 (l.drop 3)));(with_reducible (exact atk));intro r1 g1 hr1 hg1 hA1;have hv1:=hv.mono hr1)|(refine acl Tryz.func215 ?_;refine acr (hhd r1 _ g v0 (hA1.sl hg1)) ?_;rintro v' H' ⟨a1,c1,v1,b1,rfl,hv1',rfl⟩;refine apl ?_)|refine aw0 ?_|(refine ap2 ?_ ?_<;>try intro h)|refine aw1 ?_|(refine abx ?_;intro bb)|(refine abz ?_;intro bz)|(refine ahv ?_;intro v' hv')|(refine aac ?_;intro ac cc)|refine aw2 ?_|(refine ap4 ?_ ?_<;>try intro h)|apply True.intro)
   with_reducible apply z12 (A:=RowC 338 3 (.slice a1 hs.length c1) hs.length (hs.flatMap encH))
   · (exact atk)
   intro r2 g2 hr2 hg2 hA2
   have hels:Els r2 3 encH (.slice a1 hs.length c1) hs:=⟨fun _=>rfl,hA2.sl hg2⟩
   obtain ⟨T0,hT0⟩ : ∃ T0,s0.map (fun y=>(([]:List PlaceV),y))=T0:=⟨_,rfl⟩
   rw [hT0] at hrr
   have hi0:RdInv T0 [] s0 false:=by
    rw [← hT0]
    cases s0 with
    | none=>exact .inr rfl
    | some y=>exact ⟨rfl,rfl,rfl⟩
   obtain ⟨gr,hgr⟩ : ∃ gr,l.take 3=gr:=⟨_,rfl⟩
   rw [hgr] at hrr
   rw [htk0,hgr]
   refine z04 (fun gm t H' => ∃ (k:Nat) (acc:List PlaceV) (s:Stt) (v2:Value) (b2 bq:Bool) (a:Option Addr) (c:Nat) (x7 x33:Value),gm=hs.length+1 - k/\(k<=hs.length)/\(RdInv (stepsB (hs.take k) T0) acc s bq)/\(RdOk r2 v2 b2 s)/\(acc.length<=64*k)/\(∃ G,Takes [pt bt (.cells [.string (bs gr),.slice a acc.length c].toArray 145 (0,0)),RowC 149 2 (.slice a acc.length c) acc.length (acc.flatMap encPl),pt p (rdp g bq),pt g (rdr v2 b2)] H' G)/\Sls t 62 [(2,.pointer (some ⟨bt,0,none⟩)),(4,.pointer (some ⟨p,0,none⟩)),(7,x7),(24,.slice a1 hs.length c1),(25,.int .i64 hs.length),(26,.int .i64 k),(33,x33)]) _ ⟨0,[],s0,v1,b1,false,none,0,_,_,rfl,Nat.zero_le _,hi0,hv1'.mono hr2,Nat.le_refl _,⟨_,by (exact atks)⟩,asls⟩ ?_
   rintro gm t H' ⟨k,acc,s,v2,b2,bq,a,c,x7,x33,rfl,hk,hi,hv2,hacc,⟨G,hp⟩,hs'⟩
   revert t;refine z06 ?_;iterate 55 intro uu'
   refine z01 hp ?_;clear hp
   by_cases hlt:k<hs.length
   · have hb:=hbd.1 _ (z0g hlt)
     have hT:stepsB (hs.take (k+1)) T0=stepB (hs.getD k default) (stepsB (hs.take k) T0):=by
      have e:hs.take (k+1)=hs.take k++[hs.getD k default]:=by
       rw [List.take_succ_eq_append_getElem hlt,List.getD_eq_getElem?_getD,List.getElem?_eq_getElem hlt];rfl
      rw [e];unfold stepsB;rw [List.foldl_append];rfl
     obtain ⟨hh,hhh⟩ : ∃ hh,hs.getD k default=hh:=⟨_,rfl⟩
     rw [hhh] at hb hT
     obtain ⟨xs,s9,hP⟩ : ∃ xs s9,placesR hh.many ⟨hh.doc,-1⟩ s=(xs,s9):=⟨_,_,rfl⟩
     have hxl:xs.length<=64:=by
      have h1:=z9p hh.many ⟨hh.doc,-1⟩ s
      rw [hP] at h1;exact Nat.le_trans h1 hb.2.1
     have hpa:=fun r=>zk8 r p hh.doc hh.many hh.size
     repeat' (first|(rw [hhh])|(refine acl Tryz.func216 ?_;refine acr (hpa r2) ?_;rintro v' H' ⟨b3,bp,rfl,rfl⟩;refine apl ?_)|refine aw0 ?_|(refine ap2 ?_ ?_<;>try intro h)|refine aw1 ?_|(refine abx ?_;intro bb)|(refine abz ?_;intro bz)|(refine ahv ?_;intro v' hv')|(refine aac ?_;intro ac cc)|refine aw2 ?_|(refine ap4 ?_ ?_<;>try intro h)|apply True.intro)
     refine z5x rfl (z2h Tryz.func231 (by kernel_rfl) rfl) (zk1 r2 b3 bp p g hh.doc hh.many hh.size v2 b2 bq s hv2 ⟨hb.1,hb.2.1⟩ (by omega) xs s9 hP) atks (fun _=>rfl)
      (fun i H => ∃ (a:Option Addr) (c:Nat) (G:List Ch),Takes [pt bt (.cells [.string (bs gr),.slice a (acc++xs.take i).length c].toArray 145 (0,0)),RowC 149 2 (.slice a (acc++xs.take i).length c) (acc++xs.take i).length ((acc++xs.take i).flatMap encPl)] H G)
      (fun _ _ _=>False) ?_ ?_ ?_ (fun _ _ _ _ h=>h.elim)
     · exact ⟨a,c,_,by rw [List.take_zero,List.append_nil];(exact atks)⟩
     · rintro kk i hi2 H ⟨a2,c2,G,hp⟩
       obtain ⟨y,hy⟩ : ∃ y,xs[i]=y:=⟨_,rfl⟩
       rw [hy,pars1]
       refine z01 hp ?_
       clear hp
       have htk:xs.take (i+1)=xs.take i++[y]:=by rw [List.take_succ_eq_append_getElem hi2,hy]
       have hacl:(acc++xs.take i).length<=20000000:=by
        have h2:=hbd.2
        rw [List.length_append,List.length_take];omega
       obtain ⟨ac,hac⟩ : ∃ ac,acc++xs.take i=ac:=⟨_,rfl⟩
       have hnx:acc++xs.take (i+1)=ac++[y]:=by rw [htk,← List.append_assoc,hac]
       rw [hac] at hacl ⊢
       have hyE:encPl y=[.int .i64 y.doc,.int .i64 y.pos]:=rfl
       rw [hyE]
       (refine apk ?_)
       repeat' (first|(first|((with_reducible apply z0d);exact ty_el;exact z03;rfl;rfl;rfl;(exact atk);(exact atk);rfl;omega;intro a' c';(refine apk ?_))|((with_reducible apply z0m);exact ty_el;exact z03;rfl;rfl;rfl;rfl;(exact atk);(exact atk);rfl;rfl;omega;intro a' c';(refine apk ?_)))|refine aw0 ?_|(refine ap2 ?_ ?_<;>try intro h)|refine aw1 ?_|(refine abx ?_;intro bb)|(refine abz ?_;intro bz)|(refine ahv ?_;intro v' hv')|(refine aac ?_;intro ac cc)|refine aw2 ?_|(refine ap4 ?_ ?_<;>try intro h)|apply True.intro)
       refine ⟨a',c',?_⟩
       apply Exists.intro
       rw [hnx,List.flatMap_append,List.length_append,show [y].flatMap encPl=[.int .i64 y.doc,.int .i64 y.pos] by rw [← hyE];simp]
       (exact atks)
     · rintro H ⟨a2,c2,G,hp⟩
       rw [List.take_length] at hp
       have hp2:=Takes.cons (Take.here (A:=fun g1 => ∃ v' bad' bd',RdOk r2 v' bad' s9/\(∀ l x,s=some l->s9=some x->bd'=(bq || !decide ((xs.headD default).doc=hh.doc) || !decide ((l.length:Int) - x.length=hh.size)))/\all [pt p (rdp g bd'),pt g (rdr v' bad')] g1) (H:=H)) hp
       refine z01 hp2 ?_
       clear hp hp2
       refine z1x (ι:=Value × Bool × Bool) (B:=fun i=>[pt p (rdp g i.2.2),pt g (rdr i.1 i.2.1)]) (φ:=fun i=>RdOk r2 i.1 i.2.1 s9/\(∀ l x,s=some l->s9=some x->i.2.2=(bq || !decide ((xs.headD default).doc=hh.doc) || !decide ((l.length:Int) - x.length=hh.size)))) Take.here (fun h ⟨v',bad',bd',h1,h2,h3⟩=>⟨(v',bad',bd'),⟨h1,h2⟩,h3⟩) ?_
       rintro ⟨v3,b3',bq3⟩ ⟨hv3,hb3⟩
       dsimp only at hv3 hb3 ⊢
       have hi3:=zk0 hi hb.1 hP hb3
       rw [← hT] at hi3
       repeat' (first|fail|refine aw0 ?_|(refine ap2 ?_ ?_<;>try intro h)|refine aw1 ?_|(refine abx ?_;intro bb)|(refine abz ?_;intro bz)|(refine ahv ?_;intro v' hv')|(refine aac ?_;intro ac cc)|refine aw2 ?_|(refine ap4 ?_ ?_<;>try intro h)|apply True.intro)
       exact ⟨_,by omega,k+1,acc++xs,s9,v3,b3',bq3,a2,c2,_,_,rfl,by omega,hi3,hv3,by rw [List.length_append];omega,⟨_,atks⟩,asls⟩
   · obtain rfl:k=hs.length:=by omega
     rw [List.take_length] at hi
     have hrt : ∀ ok:Bool,(ok=(!bq && nilSt s))->readR l=if ok then some (gr,acc) else none:=by
      intro ok hok
      rw [hrr,hok]
      clear hok hrr
      revert hi
      generalize stepsB hs T0=T
      intro hi
      cases T with
      | none =>
       rcases hi with hi|hi
       · rw [hi];rfl
       · rw [hi];show none=if (!bq && false)=true then some (gr,acc) else none;rw [Bool.and_false];rfl
      | some q =>
       obtain ⟨a',y⟩:=q
       obtain ⟨h1,h2,h3⟩:=hi
       subst h1;subst h2;subst h3
       cases y with
       | nil=>rfl
       | cons x y =>
        have h0:¬ (((x::y).length:Int)=0):=by rw [List.length_cons];omega
        rw [show nilSt (some (x::y))=false from decide_eq_false h0];rfl
     have hvf:b2=s.isNone /\ ∃ a y c,v2 = .slice a (y:List UInt8).length c /\ ∀ l,s=some l->l=y:=by
      rcases hv2 with ⟨rfl,y,rfl,hy⟩ | ⟨rfl,rfl,y,hy⟩
      · obtain ⟨a,c,rfl⟩:=hy.form
        exact ⟨rfl,a,y,c,rfl,fun l e=>by injection e with e;exact e.symm⟩
      · obtain ⟨a,c,rfl⟩:=hy.form
        exact ⟨rfl,a,y,c,rfl,fun l e=>by cases e⟩
     clear hv2
     obtain ⟨hb2,ay,y,cy,rfl,hyl⟩:=hvf
     have hlf:=fun r=>z7u r g ay y.length cy b2
     have hok:=fun r=>z3q r g (.slice ay y.length cy) b2
     subst hb2
     cases s with
     | none =>
      rw [show (none:Stt).isNone=true from rfl] at hlf hok ⊢
      cases bq
      · repeat' (first|refine aw0m ?_|(refine ap2 ?_ ?_<;>try intro h)|((with_reducible apply z1h (id:=12) 22 (Pl.seg [(1,true),(2,true),(3,true),(4,true)] (Pl.two 0 5 (Pl.seg [(5,false),(6,true),(7,true),(8,true),(9,true),(10,true),(11,true),(12,true),(13,true),(14,true),(15,true),(16,true),(17,true),(18,false),(19,true),(20,true),(21,false)] Pl.leaf) (Pl.seg [(6,true),(7,true),(8,true),(9,true),(10,true),(11,true),(12,true),(13,true),(14,true),(15,true),(16,true),(17,true)] (Pl.two 0 18 (Pl.seg [(18,false),(19,true),(20,true),(21,false)] Pl.leaf) (Pl.seg [(19,true),(20,true),(0,false),(21,false)] Pl.leaf))))) (List.replicate 22 true++List.replicate 1 false).toArray [(22,false)] [(p,rdp g false)]);kernel_rfl;(exact atks);kernel_rfl;intro r' hl')|(refine acl Tryz.func188 ?_;refine acr (hlf _) ?_;rintro v' H' ⟨rfl,rfl⟩;refine apl ?_)|(refine acl Tryz.func187 ?_;refine acr (hok _) ?_;rintro v' H' ⟨rfl,rfl⟩;refine apl ?_)|refine aw1m ?_|(refine abx ?_;intro bb)|(refine abz ?_;intro bz)|(refine ahv ?_;intro v' hv')|(refine aac ?_;intro ac cc)|refine aw2 ?_|(refine ap4 ?_ ?_<;>try intro h)|apply True.intro)
        all_goals ((with_reducible apply z00);exact zeo rfl rfl rfl atk z0a z08 rfl;exact HR.out _ _ _ [RowC 149 2 (.slice a acc.length c) acc.length (acc.flatMap encPl)] atks ⟨a,c,_,(gr,acc),rfl,rfl,hrt _ (by first|rfl|simp [nilSt])⟩)
      · repeat' (first|refine aw0m ?_|(refine ap2 ?_ ?_<;>try intro h)|((with_reducible apply z1h (id:=12) 22 (Pl.seg [(1,true),(2,true),(3,true),(4,true)] (Pl.two 0 5 (Pl.seg [(5,false),(6,true),(7,true),(8,true),(9,true),(10,true),(11,true),(12,true),(13,true),(14,true),(15,true),(16,true),(17,true),(18,false),(19,true),(20,true),(21,false)] Pl.leaf) (Pl.seg [(6,true),(7,true),(8,true),(9,true),(10,true),(11,true),(12,true),(13,true),(14,true),(15,true),(16,true),(17,true)] (Pl.two 0 18 (Pl.seg [(18,false),(19,true),(20,true),(21,false)] Pl.leaf) (Pl.seg [(19,true),(20,true),(0,false),(21,false)] Pl.leaf))))) (List.replicate 22 true++List.replicate 1 false).toArray [(22,false)] [(p,rdp g true)]);kernel_rfl;(exact atks);kernel_rfl;intro r' hl')|(refine acl Tryz.func188 ?_;refine acr (hlf _) ?_;rintro v' H' ⟨rfl,rfl⟩;refine apl ?_)|(refine acl Tryz.func187 ?_;refine acr (hok _) ?_;rintro v' H' ⟨rfl,rfl⟩;refine apl ?_)|refine aw1m ?_|(refine abx ?_;intro bb)|(refine abz ?_;intro bz)|(refine ahv ?_;intro v' hv')|(refine aac ?_;intro ac cc)|refine aw2 ?_|(refine ap4 ?_ ?_<;>try intro h)|apply True.intro)
        all_goals ((with_reducible apply z00);exact zeo rfl rfl rfl atk z0a z08 rfl;exact HR.out _ _ _ [RowC 149 2 (.slice a acc.length c) acc.length (acc.flatMap encPl)] atks ⟨a,c,_,(gr,acc),rfl,rfl,hrt _ (by first|rfl|simp [nilSt])⟩)
     | some y2 =>
      obtain rfl:=hyl y2 rfl
      rw [show (some y2:Stt).isNone=false from rfl] at hlf hok ⊢
      cases bq
      · repeat' (first|refine aw0m ?_|(refine ap2 ?_ ?_<;>try intro h)|((with_reducible apply z1h (id:=12) 22 (Pl.seg [(1,true),(2,true),(3,true),(4,true)] (Pl.two 0 5 (Pl.seg [(5,false),(6,true),(7,true),(8,true),(9,true),(10,true),(11,true),(12,true),(13,true),(14,true),(15,true),(16,true),(17,true),(18,false),(19,true),(20,true),(21,false)] Pl.leaf) (Pl.seg [(6,true),(7,true),(8,true),(9,true),(10,true),(11,true),(12,true),(13,true),(14,true),(15,true),(16,true),(17,true)] (Pl.two 0 18 (Pl.seg [(18,false),(19,true),(20,true),(21,false)] Pl.leaf) (Pl.seg [(19,true),(20,true),(0,false),(21,false)] Pl.leaf))))) (List.replicate 22 true++List.replicate 1 false).toArray [(22,false)] [(p,rdp g false)]);kernel_rfl;(exact atks);kernel_rfl;intro r' hl')|(refine acl Tryz.func188 ?_;refine acr (hlf _) ?_;rintro v' H' ⟨rfl,rfl⟩;refine apl ?_)|(refine acl Tryz.func187 ?_;refine acr (hok _) ?_;rintro v' H' ⟨rfl,rfl⟩;refine apl ?_)|refine aw1m ?_|(refine abx ?_;intro bb)|(refine abz ?_;intro bz)|(refine ahv ?_;intro v' hv')|(refine aac ?_;intro ac cc)|refine aw2 ?_|(refine ap4 ?_ ?_<;>try intro h)|apply True.intro)
        all_goals ((with_reducible apply z00);exact zeo rfl rfl rfl atk z0a z08 rfl;exact HR.out _ _ _ [RowC 149 2 (.slice a acc.length c) acc.length (acc.flatMap encPl)] atks ⟨a,c,_,(gr,acc),rfl,rfl,hrt _ (by first|rfl|simp [nilSt])⟩)
      · repeat' (first|refine aw0m ?_|(refine ap2 ?_ ?_<;>try intro h)|((with_reducible apply z1h (id:=12) 22 (Pl.seg [(1,true),(2,true),(3,true),(4,true)] (Pl.two 0 5 (Pl.seg [(5,false),(6,true),(7,true),(8,true),(9,true),(10,true),(11,true),(12,true),(13,true),(14,true),(15,true),(16,true),(17,true),(18,false),(19,true),(20,true),(21,false)] Pl.leaf) (Pl.seg [(6,true),(7,true),(8,true),(9,true),(10,true),(11,true),(12,true),(13,true),(14,true),(15,true),(16,true),(17,true)] (Pl.two 0 18 (Pl.seg [(18,false),(19,true),(20,true),(21,false)] Pl.leaf) (Pl.seg [(19,true),(20,true),(0,false),(21,false)] Pl.leaf))))) (List.replicate 22 true++List.replicate 1 false).toArray [(22,false)] [(p,rdp g true)]);kernel_rfl;(exact atks);kernel_rfl;intro r' hl')|(refine acl Tryz.func188 ?_;refine acr (hlf _) ?_;rintro v' H' ⟨rfl,rfl⟩;refine apl ?_)|(refine acl Tryz.func187 ?_;refine acr (hok _) ?_;rintro v' H' ⟨rfl,rfl⟩;refine apl ?_)|refine aw1m ?_|(refine abx ?_;intro bb)|(refine abz ?_;intro bz)|(refine ahv ?_;intro v' hv')|(refine aac ?_;intro ac cc)|refine aw2 ?_|(refine ap4 ?_ ?_<;>try intro h)|apply True.intro)
        all_goals ((with_reducible apply z00);exact zeo rfl rfl rfl atk z0a z08 rfl;exact HR.out _ _ _ [RowC 149 2 (.slice a acc.length c) acc.length (acc.flatMap encPl)] atks ⟨a,c,_,(gr,acc),rfl,rfl,hrt _ (by first|rfl|simp [nilSt])⟩)
end Go.Proofs.YtohpeoakdgckfaaGreat
namespace Go.Proofs.YtohpeoakdgckfaaGreat
open Go.RowKit Sx
def PZC (E T:TypeId) (v:Value) (Z:List PZ):Ch:=all (RowC E 2 v Z.length (Z.flatMap encZ)::rowsC T Z)
def pvZ (z:PZ):PostV:=⟨z.1.1,z.2,z.1.2⟩
theorem zil {T:TypeId} {r:Hp} : ∀ {Z:List PZ} {g:Hp},all (rowsC T Z) g->sub g r -> ∀ z∈Z,Els r 2 encPl z.2 z.1.2
 | [],_,_,_,_,hz=>by cases hz
 | y::Z,g,h,hs,z,hz=>by
  obtain ⟨g1,g2,dd,rfl,h1,h2⟩:=h
  rcases List.mem_cons.1 hz with rfl|hz
  · exact ⟨fun _=>rfl,h1.sl (fun b o e=>hs b o (z0e e))⟩
  · exact zil h2 (fun b o e=>hs b o (z0n dd e)) z hz
theorem zsu (Z:List PZ):(Z.map pvZ).map unP=Z.map (·.1):=by rw [List.map_map];rfl
theorem z25 {E T:TypeId} {r g:Hp} {a:Option Addr} {c k:Nat} {Z:List PZ} (h:PZC E T (.slice a k c) Z g) (hs:sub g r) (_hk:Z.length=k):(Z.map pvZ).map unP=Z.map (·.1)/\Posts r (.slice a k c) (Z.map pvZ):=by
 obtain ⟨g1,g2,dd,rfl,h1,h2⟩:=h
 refine ⟨zsu Z,⟨fun _=>rfl,?_⟩,fun x hx=>?_⟩
 · have h3:=h1.sl (fun b o e=>hs b o (z0e e))
   rw [List.length_map,show (Z.map pvZ).flatMap encPo=Z.flatMap encZ by rw [List.flatMap_map];rfl]
   exact h3
 · obtain ⟨z,hz,rfl⟩:=List.mem_map.1 hx
   exact zil h2 (fun b o e=>hs b o (z0n dd e)) z hz
theorem zlr {T:TypeId} {Z:List PZ} {z:PZ} (h:Hp) (e:all [all (rowsC T Z),RowC T 2 z.2 z.1.2.length (z.1.2.flatMap encPl)] h):all (rowsC T (Z++[z])) h:=by
 have h1:=z0j (List.Perm.swap _ _ _) e
 have h2:=(z1u (L1:=[_]) (L2:=rowsC T Z)).1 h1
 refine z0j ?_ h2
 unfold rowsC
 rw [List.map_append]
 exact List.perm_append_comm (l₁:=[_])
theorem zer (r:Hp) (v:Value) (b:List UInt8) (hv:U8S r v b) (hb:b.length<=200000):Tri Tryz.prog r 125 [v] [] fun w H => ∃ a c,w = .tuple #[.slice a ((getP b).getD []).length c,.int .i64 (if (getP b).isSome then 0 else 9)]/\H=[PostC 145 149 (.slice a ((getP b).getD []).length c) ((getP b).getD [])]:=by
 refine Tri.free2 fun R HR=>?_
 obtain ⟨N,s0,hNs⟩ : ∃ N s0,numR b.length (some b)=(N,s0):=⟨_,_,rfl⟩
 have hN:N<=b.length:=by have h:=z18 b.length (some b);rw [hNs] at h;exact h
 have hnum:=fun r g v (h:U8S r v b)=>z4g r g v false (some b) b.length (.inl ⟨rfl,b,rfl,h⟩)
 have hgp:getP b=if (getsR b.length N s0).2=some []/\(getsR b.length N s0).1.length=N/\postsOk [] (getsR b.length N s0).1=true then some (getsR b.length N s0).1 else none:=by
  unfold getP;rw [hNs]
 rw [hNs] at hnum
 dsimp only at hnum
 clear hNs
 refine ae Tryz.func125 Tryz.ntmps125 ?_
 refine z0f (A:=PostC 145 149 (.slice none 0 0) []) ⟨[],rfl,z11.2 (RowC.nil _ _)⟩ ?_
 refine z0f (A:=RowC 145 2 (.slice none 0 0) 0 []) (RowC.nil _ _) ?_
 refine z0f (A:=all (rowsC 149 [])) rfl ?_
 repeat' (first|(refine acl Tryz.func182 ?_;refine acr (z8r r v b hv (by omega)) ?_;rintro v' H' ⟨g,v0,rfl,rfl⟩;refine apl ?_)|((with_reducible apply z12 (A:=U8R v0 b));(with_reducible (exact atk));intro r1 g1 hr1 hg1 hA1;have hv1:=hv.mono hr1)|(refine acl Tryz.func185 ?_;refine acr (hnum r1 g v0 (hA1.sl hg1)) ?_;rintro v' H' ⟨rfl,v1,b1,hv1',rfl⟩;refine apl ?_)|refine aw0 ?_|(refine ap2 ?_ ?_<;>try intro h)|refine aw1 ?_|(refine abx ?_;intro bb)|(refine abz ?_;intro bz)|(refine ahv ?_;intro v' hv')|(refine aac ?_;intro ac cc)|refine aw2 ?_|(refine ap4 ?_ ?_<;>try intro h)|apply True.intro)
 refine z04 (fun gm t H' => ∃ (k:Nat) (Z:List PZ) (s:Stt) (v2:Value) (b2:Bool) (a:Option Addr) (c:Nat),gm=N+1 - k/\(k<=N)/\(Z.length=k)/\(getsR b.length N s0=(Z.map (·.1)++(getsR b.length (N - k) s).1,(getsR b.length (N - k) s).2))/\(RdOk r1 v2 b2 s)/\(∃ G,Takes [pt g (rdr v2 b2),RowC 145 2 (.slice a k c) k (Z.flatMap encZ),all (rowsC 149 Z),PostC 145 149 (.slice none 0 0) []] H' G)/\Sls t 52 [(0,v),(2,.slice a k c),(4,.pointer (some ⟨g,0,none⟩)),(5,.int .i64 N),(14,.int .i64 N),(15,.int .i64 k)]) _ ⟨0,[],s0,v1,b1,none,0,rfl,Nat.zero_le _,rfl,rfl,hv1',⟨_,by (exact atks)⟩,asls⟩ ?_
 rintro gm t H' ⟨k,Z,s,v2,b2,a,c,rfl,hk,hZ,hg,hv2,⟨G,hp⟩,hs'⟩
 revert t;refine z06 ?_;iterate 46 intro uu'
 refine z01 hp ?_;clear hp
 have hjoin : ∀ h',all [RowC 145 2 (.slice a k c) k (Z.flatMap encZ),all (rowsC 149 Z)] h'->PZC 145 149 (.slice a k c) Z h':=fun h' e=>by
  rw [← hZ] at e ⊢
  exact (z1u (L1:=[_]) (L2:=rowsC 149 Z)).1 e
 by_cases hlt:k<N
 · obtain ⟨n,hn⟩ : ∃ n,N - k=n+1:=⟨N - k - 1,by omega⟩
   rw [hn] at hg
   have htx:=zci r1 g v2 b2 s b.length hv2
   have htl:=z6m b.length s
   have hge:getsR b.length (n+1) s=match readR (textR b.length s).1 with|none=>([],(textR b.length s).2)|some p=>(p::(getsR b.length n (textR b.length s).2).1,(getsR b.length n (textR b.length s).2).2):=rfl
   generalize (textR b.length s).1=X at htx htl hge
   generalize (textR b.length s).2=s3 at htx hge
   have hrd:=fun r v (h:U8S r v X)=>zcs r v X h (by omega)
   cases hX:readR X with
   | none =>
    have hrd2:=fun r v h=>(hrd r v h).mono (R':=fun w H => ∃ a c,∃ q:PostP,w = .tuple #[.agg #[.string (bs q.1),.slice a q.2.length c],.bool false]/\H=[RowC 149 2 (.slice a q.2.length c) q.2.length (q.2.flatMap encPl)]) (fun w H ⟨a,c,ok,q,e1,e2,e3⟩=>by
     rw [hX] at e3
     cases ok with
     | false=>exact ⟨a,c,q,e1,e2⟩
     | true=>cases e3)
    clear hrd
    rw [hX] at hge
    rw [hge] at hg
    have hg3:getsR b.length N s0=(Z.map (·.1),s3):=by rw [hg];simp
    repeat' (first|(refine acl Tryz.func191 ?_;refine acr (htx) ?_;rintro v' H' ⟨a3,c3,v3,b3,rfl,hv3,rfl⟩;refine apl ?_)|((with_reducible apply z05 (A:=U8R (.slice a3 X.length c3) X));(exact atk);intro rx gx hrx hgx hAx;(refine acl Tryz.func190 ?_;refine acr (hrd2 rx _ (hAx.sl hgx)) ?_;rintro v' H' ⟨a4,c4,q,rfl,rfl⟩;refine apl ?_))|((with_reducible apply z0b (c:= .region 9 _ _) (As:=[RowC 145 2 (.slice a k c) k (Z.flatMap encZ),all (rowsC 149 Z)]) (D:=PZC 145 149 (.slice a k c) Z));(with_reducible (exact atks));(intro h' e;exact hjoin h' e))|(exfalso;contradiction)|refine aw0 ?_|(refine ap2 ?_ ?_<;>try intro h)|refine aw1 ?_|(refine abx ?_;intro bb)|(refine abz ?_;intro bz)|(refine ahv ?_;intro v' hv')|(refine aac ?_;intro ac cc)|refine aw2 ?_|(refine ap4 ?_ ?_<;>try intro h)|apply True.intro)
    clear hv2
    have hvf:b3=s3.isNone /\ ∃ a y c,v3 = .slice a (y:List UInt8).length c /\ ∀ l,s3=some l->l=y:=by
     rcases hv3 with ⟨rfl,y,rfl,hy⟩ | ⟨rfl,rfl,y,hy⟩
     · obtain ⟨a,c,rfl⟩:=hy.form
       exact ⟨rfl,a,y,c,rfl,fun l e=>by injection e with e;exact e.symm⟩
     · obtain ⟨a,c,rfl⟩:=hy.form
       exact ⟨rfl,a,y,c,rfl,fun l e=>by cases e⟩
    clear hv3
    obtain ⟨hb3,ay,y,cy,rfl,hyl⟩:=hvf
    have hlf:=fun r=>z7u r g ay y.length cy b3
    have hok:=fun r=>z3q r g (.slice ay y.length cy) b3
    have hpc : ∀ h',all [PZC 145 149 (.slice a k c) Z] h'->PostC 145 149 (.slice a k c) (Z.map (·.1)) h':=fun h' e=>⟨Z,rfl,z11.1 e⟩
    have hrt:=fun (rx gx:Hp) (hA:PZC 145 149 (.slice a k c) Z gx) (hs:sub gx rx)=>(z25 hA hs hZ).1 ▸ z3s rx (.slice a k c) _ (z25 hA hs hZ).2
    subst hb3
    cases s3 with
    | none =>
     have hgb:getP b=none:=by rw [hgp];simp [hg3]
     rw [hgb] at HR
     rw [show (none:Stt).isNone=true from rfl] at hlf hok ⊢
     repeat' (first|((with_reducible apply z0b (c:= .region 9 _ _) (As:=[RowC 145 2 (.slice a k c) k (Z.flatMap encZ),all (rowsC 149 Z)]) (D:=PZC 145 149 (.slice a k c) Z));(with_reducible (exact atks));(intro h' e;exact hjoin h' e))|(refine acl Tryz.func187 ?_;refine acr (hok _) ?_;rintro v' H' ⟨rfl,rfl⟩;refine apl ?_)|(refine acl Tryz.func188 ?_;refine acr (hlf _) ?_;rintro v' H' ⟨rfl,rfl⟩;refine apl ?_)|((with_reducible apply z05 (A:=PZC 145 149 (.slice a k c) Z));(exact atk);intro rx gx hrx hgx hAx;(refine acl Tryz.func87 ?_;refine acr (hrt rx gx hAx hgx) ?_;rintro v' H' ⟨rfl,rfl⟩;refine apl ?_))|((with_reducible apply z0b (c:= .region 11 _ _) (As:=[PZC 145 149 (.slice a k c) Z]) (D:=PostC 145 149 (.slice a k c) (Z.map (·.1))));(with_reducible (exact atks));(intro h' e;exact hpc h' e))|exact xf|refine aw0 ?_|(refine ap2 ?_ ?_<;>try intro h)|refine aw1 ?_|(refine abx ?_;intro bb)|(refine abz ?_;intro bz)|(refine ahv ?_;intro v' hv')|(refine aac ?_;intro ac cc)|refine aw2 ?_|(refine ap4 ?_ ?_<;>try intro h)|apply True.intro)
     all_goals (((with_reducible apply z00);exact res_2 rfl rfl rfl);exact HR.out _ _ _ [PostC 145 149 (.slice none 0 0) []] atks ⟨none,0,rfl,rfl⟩)
    | some y2 =>
     obtain rfl:=hyl y2 rfl
     rw [show (some y2:Stt).isNone=false from rfl] at hlf hok ⊢
     simp only [Bool.false_eq_true,if_false] at hlf
     by_cases c1:y2.length=0
     · obtain rfl:y2=[]:=List.length_eq_zero_iff.1 c1
       by_cases c2:k=N
       · cases c3:postsOk [] (Z.map (·.1))
         · have hgb:getP b=none:=by rw [hgp];simp [hg3,c3]
           rw [hgb] at HR
           rw [c3] at hrt
           repeat' (first|((with_reducible apply z0b (c:= .region 9 _ _) (As:=[RowC 145 2 (.slice a k c) k (Z.flatMap encZ),all (rowsC 149 Z)]) (D:=PZC 145 149 (.slice a k c) Z));(with_reducible (exact atks));(intro h' e;exact hjoin h' e))|(refine acl Tryz.func187 ?_;refine acr (hok _) ?_;rintro v' H' ⟨rfl,rfl⟩;refine apl ?_)|(refine acl Tryz.func188 ?_;refine acr (hlf _) ?_;rintro v' H' ⟨rfl,rfl⟩;refine apl ?_)|((with_reducible apply z05 (A:=PZC 145 149 (.slice a k c) Z));(exact atk);intro rx gx hrx hgx hAx;(refine acl Tryz.func87 ?_;refine acr (hrt rx gx hAx hgx) ?_;rintro v' H' ⟨rfl,rfl⟩;refine apl ?_))|((with_reducible apply z0b (c:= .region 11 _ _) (As:=[PZC 145 149 (.slice a k c) Z]) (D:=PostC 145 149 (.slice a k c) (Z.map (·.1))));(with_reducible (exact atks));(intro h' e;exact hpc h' e))|exact xf|refine aw0 ?_|(refine ap2 ?_ ?_<;>try intro h)|refine aw1 ?_|(refine abx ?_;intro bb)|(refine abz ?_;intro bz)|(refine ahv ?_;intro v' hv')|(refine aac ?_;intro ac cc)|refine aw2 ?_|(refine ap4 ?_ ?_<;>try intro h)|apply True.intro)
           all_goals (((with_reducible apply z00);exact res_2 rfl rfl rfl);exact HR.out _ _ _ [PostC 145 149 (.slice none 0 0) []] atks ⟨none,0,rfl,rfl⟩)
         · have hgb:getP b=some (Z.map (·.1)):=by rw [hgp];simp [hg3,c3,hZ,c2]
           rw [hgb] at HR
           rw [c3] at hrt
           repeat' (first|((with_reducible apply z0b (c:= .region 9 _ _) (As:=[RowC 145 2 (.slice a k c) k (Z.flatMap encZ),all (rowsC 149 Z)]) (D:=PZC 145 149 (.slice a k c) Z));(with_reducible (exact atks));(intro h' e;exact hjoin h' e))|(refine acl Tryz.func187 ?_;refine acr (hok _) ?_;rintro v' H' ⟨rfl,rfl⟩;refine apl ?_)|(refine acl Tryz.func188 ?_;refine acr (hlf _) ?_;rintro v' H' ⟨rfl,rfl⟩;refine apl ?_)|((with_reducible apply z05 (A:=PZC 145 149 (.slice a k c) Z));(exact atk);intro rx gx hrx hgx hAx;(refine acl Tryz.func87 ?_;refine acr (hrt rx gx hAx hgx) ?_;rintro v' H' ⟨rfl,rfl⟩;refine apl ?_))|((with_reducible apply z0b (c:= .region 11 _ _) (As:=[PZC 145 149 (.slice a k c) Z]) (D:=PostC 145 149 (.slice a k c) (Z.map (·.1))));(with_reducible (exact atks));(intro h' e;exact hpc h' e))|exact xf|refine aw0 ?_|(refine ap2 ?_ ?_<;>try intro h)|refine aw1 ?_|(refine abx ?_;intro bb)|(refine abz ?_;intro bz)|(refine ahv ?_;intro v' hv')|(refine aac ?_;intro ac cc)|refine aw2 ?_|(refine ap4 ?_ ?_<;>try intro h)|apply True.intro)
           all_goals (((with_reducible apply z00);exact res_2 rfl rfl rfl);exact HR.out _ _ _ [PostC 145 149 (.slice a k c) (Z.map (·.1))] atks ⟨a,c,(by show Value.tuple #[.slice a k c,.int .i64 0]=Value.tuple #[.slice a (Z.map (·.1)).length c,.int .i64 0];rw [List.length_map,hZ]),(by show [PostC 145 149 (.slice a k c) (Z.map (·.1))]=[PostC 145 149 (.slice a (Z.map (·.1)).length c) (Z.map (·.1))];rw [List.length_map,hZ])⟩)
       · have hgb:getP b=none:=by rw [hgp];simp [hg3,hZ,c2]
         rw [hgb] at HR
         repeat' (first|((with_reducible apply z0b (c:= .region 9 _ _) (As:=[RowC 145 2 (.slice a k c) k (Z.flatMap encZ),all (rowsC 149 Z)]) (D:=PZC 145 149 (.slice a k c) Z));(with_reducible (exact atks));(intro h' e;exact hjoin h' e))|(refine acl Tryz.func187 ?_;refine acr (hok _) ?_;rintro v' H' ⟨rfl,rfl⟩;refine apl ?_)|(refine acl Tryz.func188 ?_;refine acr (hlf _) ?_;rintro v' H' ⟨rfl,rfl⟩;refine apl ?_)|((with_reducible apply z05 (A:=PZC 145 149 (.slice a k c) Z));(exact atk);intro rx gx hrx hgx hAx;(refine acl Tryz.func87 ?_;refine acr (hrt rx gx hAx hgx) ?_;rintro v' H' ⟨rfl,rfl⟩;refine apl ?_))|((with_reducible apply z0b (c:= .region 11 _ _) (As:=[PZC 145 149 (.slice a k c) Z]) (D:=PostC 145 149 (.slice a k c) (Z.map (·.1))));(with_reducible (exact atks));(intro h' e;exact hpc h' e))|exact xf|refine aw0 ?_|(refine ap2 ?_ ?_<;>try intro h)|refine aw1 ?_|(refine abx ?_;intro bb)|(refine abz ?_;intro bz)|(refine ahv ?_;intro v' hv')|(refine aac ?_;intro ac cc)|refine aw2 ?_|(refine ap4 ?_ ?_<;>try intro h)|apply True.intro)
         all_goals (((with_reducible apply z00);exact res_2 rfl rfl rfl);exact HR.out _ _ _ [PostC 145 149 (.slice none 0 0) []] atks ⟨none,0,rfl,rfl⟩)
     · have hgb:getP b=none:=by
        rw [hgp,hg3]
        rw [if_neg]
        rintro ⟨h,_⟩
        injection h with h
        rw [h] at c1;exact c1 rfl
       rw [hgb] at HR
       repeat' (first|((with_reducible apply z0b (c:= .region 9 _ _) (As:=[RowC 145 2 (.slice a k c) k (Z.flatMap encZ),all (rowsC 149 Z)]) (D:=PZC 145 149 (.slice a k c) Z));(with_reducible (exact atks));(intro h' e;exact hjoin h' e))|(refine acl Tryz.func187 ?_;refine acr (hok _) ?_;rintro v' H' ⟨rfl,rfl⟩;refine apl ?_)|(refine acl Tryz.func188 ?_;refine acr (hlf _) ?_;rintro v' H' ⟨rfl,rfl⟩;refine apl ?_)|((with_reducible apply z05 (A:=PZC 145 149 (.slice a k c) Z));(exact atk);intro rx gx hrx hgx hAx;(refine acl Tryz.func87 ?_;refine acr (hrt rx gx hAx hgx) ?_;rintro v' H' ⟨rfl,rfl⟩;refine apl ?_))|((with_reducible apply z0b (c:= .region 11 _ _) (As:=[PZC 145 149 (.slice a k c) Z]) (D:=PostC 145 149 (.slice a k c) (Z.map (·.1))));(with_reducible (exact atks));(intro h' e;exact hpc h' e))|exact xf|refine aw0 ?_|(refine ap2 ?_ ?_<;>try intro h)|refine aw1 ?_|(refine abx ?_;intro bb)|(refine abz ?_;intro bz)|(refine ahv ?_;intro v' hv')|(refine aac ?_;intro ac cc)|refine aw2 ?_|(refine ap4 ?_ ?_<;>try intro h)|apply True.intro)
       all_goals (((with_reducible apply z00);exact res_2 rfl rfl rfl);exact HR.out _ _ _ [PostC 145 149 (.slice none 0 0) []] atks ⟨none,0,rfl,rfl⟩)
   | some p =>
    have hrd2:=fun r v h=>(hrd r v h).mono (R':=fun w H => ∃ a c,w = .tuple #[.agg #[.string (bs p.1),.slice a p.2.length c],.bool true]/\H=[RowC 149 2 (.slice a p.2.length c) p.2.length (p.2.flatMap encPl)]) (fun w H ⟨a,c,ok,q,e1,e2,e3⟩=>by
     rw [hX] at e3
     cases ok with
     | false=>cases e3
     | true =>
      rw [if_pos rfl] at e3
      injection e3 with e3
      subst e3
      exact ⟨a,c,e1,e2⟩)
    clear hrd
    rw [hX] at hge
    rw [hge] at hg
    dsimp only at hg
    have hkb:k<=200000:=by omega
    repeat' (first|(refine acl Tryz.func191 ?_;refine acr (htx) ?_;rintro v' H' ⟨a3,c3,v3,b3,rfl,hv3,rfl⟩;refine apl ?_)|((with_reducible apply z05 (A:=U8R (.slice a3 X.length c3) X));(exact atk);intro rx gx hrx hgx hAx;(refine acl Tryz.func190 ?_;refine acr (hrd2 rx _ (hAx.sl hgx)) ?_;rintro v' H' ⟨a4,c4,rfl,rfl⟩;refine apl ?_))|(first|((with_reducible apply z0d);exact ty_el;exact z03;rfl;rfl;rfl;(exact atk);(exact atk);rfl;omega;intro a' c';(refine apk ?_))|((with_reducible apply z0m);exact ty_el;exact z03;rfl;rfl;rfl;rfl;(exact atk);(exact atk);rfl;rfl;omega;intro a' c';(refine apk ?_)))|((with_reducible apply z0b (c:= .region 8 _ _) (As:=[all (rowsC 149 Z),RowC 149 2 (.slice a4 p.2.length c4) p.2.length (p.2.flatMap encPl)]) (D:=all (rowsC 149 (Z++[(p,.slice a4 p.2.length c4)]))));(with_reducible (exact atks));(intro h' e;exact zlr (z:=(p,.slice a4 p.2.length c4)) h' e))|(exfalso;contradiction)|refine aw0 ?_|(refine ap2 ?_ ?_<;>try intro h)|refine aw1 ?_|(refine abx ?_;intro bb)|(refine abz ?_;intro bz)|(refine ahv ?_;intro v' hv')|(refine aac ?_;intro ac cc)|refine aw2 ?_|(refine ap4 ?_ ?_<;>try intro h)|apply True.intro)
    exact ⟨_,by omega,k+1,Z++[(p,.slice a4 p.2.length c4)],s3,v3,b3,a',c',rfl,by omega,by simp [hZ],by rw [hg,show N - (k+1)=n by omega];simp,hv3,⟨_,by rw [List.flatMap_append,show [((p,.slice a4 p.2.length c4):PZ)].flatMap encZ=[.string (bs p.1),.slice a4 p.2.length c4] from rfl];(exact atks)⟩,asls⟩
 · obtain rfl:k=N:=by omega
   rw [Nat.sub_self] at hg
   have hg3:getsR b.length k s0=(Z.map (·.1),s):=by rw [hg];simp [getsR]
   have hvf:b2=s.isNone /\ ∃ a y c,v2 = .slice a (y:List UInt8).length c /\ ∀ l,s=some l->l=y:=by
    rcases hv2 with ⟨rfl,y,rfl,hy⟩ | ⟨rfl,rfl,y,hy⟩
    · obtain ⟨a,c,rfl⟩:=hy.form
      exact ⟨rfl,a,y,c,rfl,fun l e=>by injection e with e;exact e.symm⟩
    · obtain ⟨a,c,rfl⟩:=hy.form
      exact ⟨rfl,a,y,c,rfl,fun l e=>by cases e⟩
   clear hv2
   obtain ⟨hb2,ay,y,cy,rfl,hyl⟩:=hvf
   have hlf:=fun r=>z7u r g ay y.length cy b2
   have hok:=fun r=>z3q r g (.slice ay y.length cy) b2
   have hpc : ∀ h',all [PZC 145 149 (.slice a k c) Z] h'->PostC 145 149 (.slice a k c) (Z.map (·.1)) h':=fun h' e=>⟨Z,rfl,z11.1 e⟩
   have hrt:=fun (rx gx:Hp) (hA:PZC 145 149 (.slice a k c) Z gx) (hs:sub gx rx)=>(z25 hA hs hZ).1 ▸ z3s rx (.slice a k c) _ (z25 hA hs hZ).2
   subst hb2
   cases s with
   | none =>
    have hgb:getP b=none:=by rw [hgp];simp [hg3]
    rw [hgb] at HR
    rw [show (none:Stt).isNone=true from rfl] at hlf hok ⊢
    repeat' (first|((with_reducible apply z0b (c:= .region 9 _ _) (As:=[RowC 145 2 (.slice a k c) k (Z.flatMap encZ),all (rowsC 149 Z)]) (D:=PZC 145 149 (.slice a k c) Z));(with_reducible (exact atks));(intro h' e;exact hjoin h' e))|(refine acl Tryz.func187 ?_;refine acr (hok _) ?_;rintro v' H' ⟨rfl,rfl⟩;refine apl ?_)|(refine acl Tryz.func188 ?_;refine acr (hlf _) ?_;rintro v' H' ⟨rfl,rfl⟩;refine apl ?_)|((with_reducible apply z05 (A:=PZC 145 149 (.slice a k c) Z));(exact atk);intro rx gx hrx hgx hAx;(refine acl Tryz.func87 ?_;refine acr (hrt rx gx hAx hgx) ?_;rintro v' H' ⟨rfl,rfl⟩;refine apl ?_))|((with_reducible apply z0b (c:= .region 11 _ _) (As:=[PZC 145 149 (.slice a k c) Z]) (D:=PostC 145 149 (.slice a k c) (Z.map (·.1))));(with_reducible (exact atks));(intro h' e;exact hpc h' e))|exact xf|refine aw0 ?_|(refine ap2 ?_ ?_<;>try intro h)|refine aw1 ?_|(refine abx ?_;intro bb)|(refine abz ?_;intro bz)|(refine ahv ?_;intro v' hv')|(refine aac ?_;intro ac cc)|refine aw2 ?_|(refine ap4 ?_ ?_<;>try intro h)|apply True.intro)
    all_goals (((with_reducible apply z00);exact res_2 rfl rfl rfl);exact HR.out _ _ _ [PostC 145 149 (.slice none 0 0) []] atks ⟨none,0,rfl,rfl⟩)
   | some y2 =>
    obtain rfl:=hyl y2 rfl
    rw [show (some y2:Stt).isNone=false from rfl] at hlf hok ⊢
    simp only [Bool.false_eq_true,if_false] at hlf
    by_cases c1:y2.length=0
    · obtain rfl:y2=[]:=List.length_eq_zero_iff.1 c1
      skip
      · cases c3:postsOk [] (Z.map (·.1))
        · have hgb:getP b=none:=by rw [hgp];simp [hg3,c3]
          rw [hgb] at HR
          rw [c3] at hrt
          repeat' (first|((with_reducible apply z0b (c:= .region 9 _ _) (As:=[RowC 145 2 (.slice a k c) k (Z.flatMap encZ),all (rowsC 149 Z)]) (D:=PZC 145 149 (.slice a k c) Z));(with_reducible (exact atks));(intro h' e;exact hjoin h' e))|(refine acl Tryz.func187 ?_;refine acr (hok _) ?_;rintro v' H' ⟨rfl,rfl⟩;refine apl ?_)|(refine acl Tryz.func188 ?_;refine acr (hlf _) ?_;rintro v' H' ⟨rfl,rfl⟩;refine apl ?_)|((with_reducible apply z05 (A:=PZC 145 149 (.slice a k c) Z));(exact atk);intro rx gx hrx hgx hAx;(refine acl Tryz.func87 ?_;refine acr (hrt rx gx hAx hgx) ?_;rintro v' H' ⟨rfl,rfl⟩;refine apl ?_))|((with_reducible apply z0b (c:= .region 11 _ _) (As:=[PZC 145 149 (.slice a k c) Z]) (D:=PostC 145 149 (.slice a k c) (Z.map (·.1))));(with_reducible (exact atks));(intro h' e;exact hpc h' e))|exact xf|refine aw0 ?_|(refine ap2 ?_ ?_<;>try intro h)|refine aw1 ?_|(refine abx ?_;intro bb)|(refine abz ?_;intro bz)|(refine ahv ?_;intro v' hv')|(refine aac ?_;intro ac cc)|refine aw2 ?_|(refine ap4 ?_ ?_<;>try intro h)|apply True.intro)
          all_goals (((with_reducible apply z00);exact res_2 rfl rfl rfl);exact HR.out _ _ _ [PostC 145 149 (.slice none 0 0) []] atks ⟨none,0,rfl,rfl⟩)
        · have hgb:getP b=some (Z.map (·.1)):=by rw [hgp];simp [hg3,c3,hZ]
          rw [hgb] at HR
          rw [c3] at hrt
          repeat' (first|((with_reducible apply z0b (c:= .region 9 _ _) (As:=[RowC 145 2 (.slice a k c) k (Z.flatMap encZ),all (rowsC 149 Z)]) (D:=PZC 145 149 (.slice a k c) Z));(with_reducible (exact atks));(intro h' e;exact hjoin h' e))|(refine acl Tryz.func187 ?_;refine acr (hok _) ?_;rintro v' H' ⟨rfl,rfl⟩;refine apl ?_)|(refine acl Tryz.func188 ?_;refine acr (hlf _) ?_;rintro v' H' ⟨rfl,rfl⟩;refine apl ?_)|((with_reducible apply z05 (A:=PZC 145 149 (.slice a k c) Z));(exact atk);intro rx gx hrx hgx hAx;(refine acl Tryz.func87 ?_;refine acr (hrt rx gx hAx hgx) ?_;rintro v' H' ⟨rfl,rfl⟩;refine apl ?_))|((with_reducible apply z0b (c:= .region 11 _ _) (As:=[PZC 145 149 (.slice a k c) Z]) (D:=PostC 145 149 (.slice a k c) (Z.map (·.1))));(with_reducible (exact atks));(intro h' e;exact hpc h' e))|exact xf|refine aw0 ?_|(refine ap2 ?_ ?_<;>try intro h)|refine aw1 ?_|(refine abx ?_;intro bb)|(refine abz ?_;intro bz)|(refine ahv ?_;intro v' hv')|(refine aac ?_;intro ac cc)|refine aw2 ?_|(refine ap4 ?_ ?_<;>try intro h)|apply True.intro)
          all_goals (((with_reducible apply z00);exact res_2 rfl rfl rfl);exact HR.out _ _ _ [PostC 145 149 (.slice a k c) (Z.map (·.1))] atks ⟨a,c,(by show Value.tuple #[.slice a k c,.int .i64 0]=Value.tuple #[.slice a (Z.map (·.1)).length c,.int .i64 0];rw [List.length_map,hZ]),(by show [PostC 145 149 (.slice a k c) (Z.map (·.1))]=[PostC 145 149 (.slice a (Z.map (·.1)).length c) (Z.map (·.1))];rw [List.length_map,hZ])⟩)
    · have hgb:getP b=none:=by
       rw [hgp,hg3]
       rw [if_neg]
       rintro ⟨h,_⟩
       injection h with h
       rw [h] at c1;exact c1 rfl
      rw [hgb] at HR
      repeat' (first|((with_reducible apply z0b (c:= .region 9 _ _) (As:=[RowC 145 2 (.slice a k c) k (Z.flatMap encZ),all (rowsC 149 Z)]) (D:=PZC 145 149 (.slice a k c) Z));(with_reducible (exact atks));(intro h' e;exact hjoin h' e))|(refine acl Tryz.func187 ?_;refine acr (hok _) ?_;rintro v' H' ⟨rfl,rfl⟩;refine apl ?_)|(refine acl Tryz.func188 ?_;refine acr (hlf _) ?_;rintro v' H' ⟨rfl,rfl⟩;refine apl ?_)|((with_reducible apply z05 (A:=PZC 145 149 (.slice a k c) Z));(exact atk);intro rx gx hrx hgx hAx;(refine acl Tryz.func87 ?_;refine acr (hrt rx gx hAx hgx) ?_;rintro v' H' ⟨rfl,rfl⟩;refine apl ?_))|((with_reducible apply z0b (c:= .region 11 _ _) (As:=[PZC 145 149 (.slice a k c) Z]) (D:=PostC 145 149 (.slice a k c) (Z.map (·.1))));(with_reducible (exact atks));(intro h' e;exact hpc h' e))|exact xf|refine aw0 ?_|(refine ap2 ?_ ?_<;>try intro h)|refine aw1 ?_|(refine abx ?_;intro bb)|(refine abz ?_;intro bz)|(refine ahv ?_;intro v' hv')|(refine aac ?_;intro ac cc)|refine aw2 ?_|(refine ap4 ?_ ?_<;>try intro h)|apply True.intro)
      all_goals (((with_reducible apply z00);exact res_2 rfl rfl rfl);exact HR.out _ _ _ [PostC 145 149 (.slice none 0 0) []] atks ⟨none,0,rfl,rfl⟩)
end Go.Proofs.YtohpeoakdgckfaaGreat
