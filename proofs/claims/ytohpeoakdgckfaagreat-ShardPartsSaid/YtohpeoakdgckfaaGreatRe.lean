/- (*post.reader).heads: its contract. (*post.reader).places: its contract. -/
import Derived.Test.YtohpeoakdgckfaaGreatPf
import Derived.Test.YtohpeoakdgckfaaGreatPo
import Derived.Test.YtohpeoakdgckfaaGreatMp
set_option maxHeartbeats 2000000
set_option maxRecDepth 10000
namespace Go.Proofs.YtohpeoakdgckfaaGreat
open Go.RowKit Sx
def encH (h:HeadV):List Value:=[.int .i64 h.doc,.int .i64 h.many,.int .i64 h.size]
abbrev rdp (g:Nat) (bd:Bool):Obj:= .cells [.pointer (some ⟨g,0,none⟩),.bool bd].toArray 334 (0,0)
theorem zlx (r:Hp) (p g:Nat) (v:Value) (bad bd:Bool) (st:Option (List UInt8)) (size:Nat) (hv:RdOk r v bad st) (hs:size<=100000000):Tri Tryz.prog r 215 [.pointer (some ⟨p,0,none⟩),.int .i64 size] [pt p (rdp g bd),pt g (rdr v bad)] fun w H =>
 ∃ a c v' bad',w = .slice a (headsR size (numR size st).1 (numR size st).1 0 (numR size st).2).1.length c/\RdOk r v' bad' (headsR size (numR size st).1 (numR size st).1 0 (numR size st).2).2 /\
  H=[pt p (rdp g bd),pt g (rdr v' bad'),RowC 338 3 w (headsR size (numR size st).1 (numR size st).1 0 (numR size st).2).1.length ((headsR size (numR size st).1 (numR size st).1 0 (numR size st).2).1.flatMap encH)]:=by
 refine Tri.free2 fun R HR=>?_
 have hn:=z4g r g v bad st size hv
 have hN:(numR size st).1<=size:=z18 size st
 generalize (numR size st).1=N at HR hn hN
 generalize (numR size st).2=s0 at HR hn
 refine ae Tryz.func215 Tryz.ntmps215 ?_
 repeat' (first|refine aw0m ?_|(refine ap2 ?_ ?_<;>try intro h)|(refine acl Tryz.func185 ?_;refine acr (hn) ?_;rintro v' H' ⟨rfl,v0,b0,h0,rfl⟩;refine apl ?_)|refine aw1m ?_|(refine abx ?_;intro bb)|(refine abz ?_;intro bz)|(refine ahv ?_;intro v' hv')|(refine aac ?_;intro ac cc)|refine aw2 ?_|(refine ap4 ?_ ?_<;>try intro h)|apply True.intro)
 refine z0f (A:=RowC 338 3 (.slice none 0 0) 0 []) (RowC.nil _ _) ?_
 refine z04 (fun gm t H' => ∃ (k n doc:Nat) (z:Int) (D:List HeadV) (s:Stt) (v1:Value) (b1:Bool) (a:Option Addr) (c:Nat),gm=k+1/\(headsR size N N 0 s0=(D++(headsR size k n doc s).1,(headsR size k n doc s).2))/\(n<=k)/\(z.toNat=n /\ -64<=z/\z<=100000000)/\(doc+4000*k<=4000*N)/\(D.length+k<=N)/\(RdOk r v1 b1 s)/\(∃ G,Takes [pt p (rdp g bd),pt g (rdr v1 b1),RowC 338 3 (.slice a D.length c) D.length (D.flatMap encH)] H' G)/\Sls t 45 [(0,.pointer (some ⟨p,0,none⟩)),(1,.int .i64 size),(4,.slice a D.length c),(5,.int .i64 doc),(6,.int .i64 z)]) _ ⟨N,N,0,N,[],s0,v0,b0,none,0,rfl,rfl,Nat.le_refl _,by omega,by omega,by simp,h0,⟨_,by (exact atks)⟩,asls⟩ ?_
 rintro gm t H' ⟨k,n,doc,z,D,s,v1,b1,a,c,rfl,hR,hk,hz,hd,hDl,hv1,⟨G,hp⟩,hs'⟩
 revert t;refine z06 ?_;iterate 40 intro uu'
 refine z01 hp ?_;clear hp
 have hok:=z3q r g v1 b1
 by_cases hz0:0<z
 · obtain ⟨k,rfl⟩ : ∃ k',k=k'+1:=⟨k - 1,by omega⟩
   rcases hv1 with ⟨rfl,l,rfl,hl⟩ | ⟨rfl,rfl,x,hx⟩
   · obtain rfl:z=n:=by omega
     have hr1:headsR size (k+1) n doc (some l)=(⟨doc+(numR 4000 (some l)).1,min n 64,(numR size (numR 4000 (some l)).2).1⟩::(headsR size k (n - 64) (doc+(numR 4000 (some l)).1) (numR size (numR 4000 (some l)).2).2).1,(headsR size k (n - 64) (doc+(numR 4000 (some l)).1) (numR size (numR 4000 (some l)).2).2).2):=by
      rw [headsR,if_neg (by simp;omega)]
     rw [hr1] at hR
     clear hr1
     have h1:=z4g r g v1 false (some l) 4000 (.inl ⟨rfl,l,rfl,hl⟩)
     have hd1:(numR 4000 (some l)).1<=4000:=z18 4000 _
     generalize hd0:(numR 4000 (some l)).1=d at hR h1 hd1
     generalize hs1:(numR 4000 (some l)).2=s1 at hR h1
     have h2:=fun v2 b2 (h:RdOk r v2 b2 s1)=>z4g r g v2 b2 s1 size h
     have hd2:(numR size s1).1<=size:=z18 size _
     generalize (numR size s1).1=t at hR h2 hd2
     generalize (numR size s1).2=s2 at hR h2
     have hX:([⟨doc+d,min n 64,t⟩]:List HeadV).flatMap encH=[.int .i64 ((doc:Int)+d),.int .i64 (min (n:Int) 64),.int .i64 t]:=by
      simp only [List.flatMap_cons,List.flatMap_nil,encH,List.append_nil]
      rw [show ((min n 64:Nat):Int)=min (n:Int) 64 by omega]
      rfl
     repeat' (first|refine aw0m ?_|(refine ap2 ?_ ?_<;>try intro h)|(refine acl Tryz.func187 ?_;refine acr (hok) ?_;rintro v' H' ⟨rfl,rfl⟩;refine apl ?_)|(refine acl Tryz.func185 ?_;refine acr (h1) ?_;rintro v' H' ⟨rfl,v2,b2,hv2,rfl⟩;refine apl ?_)|(refine acl Tryz.func185 ?_;refine acr (h2 _ _ hv2) ?_;rintro v' H' ⟨rfl,v3,b3,hv3,rfl⟩;refine apl ?_)|(first|((with_reducible apply z0d);exact ty_el;exact z03;rfl;rfl;rfl;(exact atk);(exact atk);rfl;omega;intro a' c';(refine apk ?_))|((with_reducible apply z0m);exact ty_el;exact z03;rfl;rfl;rfl;rfl;(exact atk);(exact atk);rfl;rfl;omega;intro a' c';(refine apk ?_)))|refine aw1m ?_|(refine abx ?_;intro bb)|(refine abz ?_;intro bz)|(refine ahv ?_;intro v' hv')|(refine aac ?_;intro ac cc)|refine aw2 ?_|(refine ap4 ?_ ?_<;>try intro h)|apply True.intro)
     rw [show D.length+1=(D++[(⟨doc+d,min n 64,t⟩:HeadV)]).length by simp]
     exact ⟨_,by omega,k,n - 64,doc+d,(n:Int) - 64,D++[⟨doc+d,min n 64,t⟩],s2,v3,b3,a',c',rfl,by rw [hR];simp,by omega,by omega,by omega,by rw [List.length_append];simp;omega,hv3,⟨_,by rw [List.flatMap_append,hX];(exact atks)⟩,asls⟩
   · have hr1:headsR size (k+1) n doc none=([],none):=by rw [headsR,if_pos (.inr rfl)]
     rw [hr1,List.append_nil] at hR
     rw [hR] at HR
     repeat' (first|refine aw0m ?_|(refine ap2 ?_ ?_<;>try intro h)|(refine acl Tryz.func187 ?_;refine acr (hok) ?_;rintro v' H' ⟨rfl,rfl⟩;refine apl ?_)|refine aw1m ?_|(refine abx ?_;intro bb)|(refine abz ?_;intro bz)|(refine ahv ?_;intro v' hv')|(refine aac ?_;intro ac cc)|refine aw2 ?_|(refine ap4 ?_ ?_<;>try intro h)|apply True.intro)
     ((with_reducible apply z00);exact res_1 rfl rfl)
     exact HR.out _ _ _ [_,_,_] atks ⟨_,_,_,_,rfl,.inr ⟨rfl,rfl,x,hx⟩,rfl⟩
 · have hr1:headsR size k n doc s=([],s):=by
    obtain rfl:n=0:=by omega
    cases k with
    | zero=>rfl
    | succ k=>rw [headsR,if_pos (.inl rfl)]
   rw [hr1,List.append_nil] at hR
   rw [hR] at HR
   repeat' (first|refine aw0m ?_|(refine ap2 ?_ ?_<;>try intro h)|(refine acl Tryz.func187 ?_;refine acr (hok) ?_;rintro v' H' ⟨rfl,rfl⟩;refine apl ?_)|refine aw1m ?_|(refine abx ?_;intro bb)|(refine abz ?_;intro bz)|(refine ahv ?_;intro v' hv')|(refine aac ?_;intro ac cc)|refine aw2 ?_|(refine ap4 ?_ ?_<;>try intro h)|apply True.intro)
   ((with_reducible apply z00);exact res_1 rfl rfl)
   exact HR.out _ _ _ [_,_,_] atks ⟨_,_,_,_,rfl,hv1,rfl⟩
abbrev hdO (d m z:Nat):Obj:= .cells [.int .i64 d,.int .i64 m,.int .i64 z].toArray 338 (0,0)
abbrev ppO (p:Nat):Obj:= .cells [.pointer (some ⟨p,0,none⟩)].toArray 332 (0,0)
theorem zk8 (r:Hp) (p:Nat) (d m z:Nat):Tri Tryz.prog r 216 [.pointer (some ⟨p,0,none⟩),.agg [.int .i64 d,.int .i64 m,.int .i64 z].toArray] [] fun w H => ∃ b3 b2,w = .func (.func 231) #[] #[.pointer (some ⟨b3,0,none⟩),.pointer (some ⟨b2,0,none⟩)]/\H=[pt b3 (hdO d m z),pt b2 (ppO p)]:=by
 refine Tri.free2 fun R HR=>?_
 refine ae Tryz.func216 Tryz.ntmps216 ?_
 repeat' (first|refine aw0m ?_|(refine ap2 ?_ ?_<;>try intro h)|refine aw1m ?_|(refine abx ?_;intro bb)|(refine abz ?_;intro bz)|(refine ahv ?_;intro v' hv')|(refine aac ?_;intro ac cc)|refine aw2 ?_|(refine ap4 ?_ ?_<;>try intro h)|apply True.intro)
 ((with_reducible apply z00);exact res_1 rfl rfl)
 exact HR.out _ _ _ [_,_] atks ⟨_,_,rfl,rfl⟩
theorem zk9 (r:Hp) (b3 b2 p g:Nat) (d0 m z:Nat) (v:Value) (bad bd:Bool) (st:Stt) (hv:RdOk r v bad st) (hm:1<=m/\m<=64) (hd:d0<=1000000000) (xs:List PlaceV) (s9:Stt) (hP:placesR m ⟨d0,-1⟩ st=(xs,s9)) (k:Nat) (J Jx:Nat->Ch)
 (hY : ∀ i (hi:i<xs.length),Yld Tryz.prog r k [.agg (encPl xs[i]).toArray] (J i) (J (i+1)) (Jx (i+1))) :
 Tri Tryz.prog r 231 [.func (.yield k) #[] #[],.pointer (some ⟨b3,0,none⟩),.pointer (some ⟨b2,0,none⟩)] [J 0,pt b3 (hdO d0 m z),pt b2 (ppO p),pt p (rdp g bd),pt g (rdr v bad)] fun _ H' =>
  (∃ v' bad' bd',RdOk r v' bad' s9/\(∀ l x,st=some l->s9=some x->bd'=(bd || !decide ((xs.headD default).doc=d0) || !decide ((l.length:Int) - x.length=z)))/\H'=[J xs.length,pt p (rdp g bd'),pt g (rdr v' bad')]) \/ ∃ i Hx,i<xs.length/\H'=Jx (i+1)::Hx:=by
 refine Tri.free2 fun R HR=>?_
 obtain ⟨L,hlf,hL,hLm⟩ : ∃ L:Nat,(Tri Tryz.prog r 188 [.pointer (some ⟨g,0,none⟩)] [pt g (rdr v bad)] fun w H=>w = .int .i64 L/\H=[pt g (rdr v bad)])/\(∀ l,st=some l->L=l.length)/\L<=maxLen:=by
  rcases hv with ⟨rfl,l,rfl,hl⟩ | ⟨rfl,rfl,y,hy⟩
  · exact ⟨_,z3v r g v false l hl,fun l' e=>by injection e with e;subst e;rfl,hl.2.1⟩
  · exact ⟨_,z3v r g v true y hy,fun l' e=>(by cases e),Nat.zero_le _⟩
 unfold maxLen at hLm
 refine ae Tryz.func231 Tryz.ntmps231 ?_
 repeat' (first|refine aw0m ?_|(refine ap2 ?_ ?_<;>try intro h)|(refine acl Tryz.func188 ?_;refine acr (hlf) ?_;rintro v' H' ⟨rfl,rfl⟩;refine apl ?_)|refine aw1m ?_|(refine abx ?_;intro bb)|(refine abz ?_;intro bz)|(refine ahv ?_;intro v' hv')|(refine aac ?_;intro ac cc)|refine aw2 ?_|(refine ap4 ?_ ?_<;>try intro h)|apply True.intro)
 revert bb;intro b4
 refine z04 (fun gm t H' => ∃ (q:Nat) (a:PlaceV) (s:Stt) (D:List PlaceV) (v1:Value) (b1 bq:Bool),gm=m+1 - q/\(xs=D++(placesR (m - q) a s).1)/\(s9=(placesR (m - q) a s).2)/\(q<=m)/\(D.length=q)/\(RdOk r v1 b1 s)/\(0<=a.doc/\a.doc<=1000000000+4000*q /\ -1<=a.pos/\a.pos<=1048577*q)/\(bq=Bool.or bd (!D.isEmpty && !decide ((D.headD default).doc=d0)))/\(∃ G,Takes [J q,pt b3 (hdO d0 m z),pt b2 (ppO p),pt p (rdp g bq),pt g (rdr v1 b1),pt b4 (.cells [.int .i64 a.doc,.int .i64 a.pos].toArray 149 (0,0))] H' G)/\Sls t 99 [(0,.func (.yield k) #[] #[]),(1,.pointer (some ⟨b3,0,none⟩)),(2,.pointer (some ⟨b2,0,none⟩)),(4,.pointer (some ⟨b4,0,none⟩)),(5,.int .i64 L),(17,.int .i64 m),(18,.int .i64 q)]) _ ⟨0,⟨d0,-1⟩,st,[],v,bad,bd,rfl,by rw [Nat.sub_zero,hP];rfl,by rw [Nat.sub_zero,hP],Nat.zero_le _,rfl,hv,by simp;omega,by simp,⟨_,by (exact atks)⟩,asls⟩ ?_
 rintro gm t H' ⟨q,a,s,D,v1,b1,bq,rfl,hx,h9,hq,hD,hv1,ha,hbq,⟨G,hp⟩,hs'⟩
 revert t;refine z06 ?_;iterate 92 intro uu'
 refine z01 hp ?_;clear hp
 by_cases hlt:q<m
 · obtain ⟨n,hn⟩ : ∃ n,m - q=n+1:=⟨m - q - 1,by omega⟩
   rw [hn] at hx h9
   simp only [placesR] at hx h9
   have h1:=z4g r g v1 b1 s 4000 hv1
   have hd1:(numR 4000 s).1<=4000:=z18 4000 s
   generalize (numR 4000 s).1=d at hx h9 h1 hd1
   generalize (numR 4000 s).2=s1 at hx h9 h1
   have h2:=fun v2 b2 (h:RdOk r v2 b2 s1)=>z4g r g v2 b2 s1 1048576 h
   have hd2:(numR 1048576 s1).1<=1048576:=z18 1048576 s1
   generalize (numR 1048576 s1).1=t at hx h9 h2 hd2
   generalize (numR 1048576 s1).2=s2 at hx h9 h2
   have hyi : ∀ l3,s2=some l3->q<xs.length/\Yld Tryz.prog r k [.agg (encPl (placeR a d t)).toArray] (J q) (J (q+1)) (Jx (q+1)):=by
    intro l3 h3
    rw [h3,if_neg (by simp)] at hx
    have hi:q<xs.length:=by rw [hx];simp;omega
    have h4:=hY q hi
    rw [List.getElem_of_append hx hD] at h4
    exact ⟨hi,h4⟩
   have hok:=z3q r g
   by_cases hd0:a.doc+(d:Int)=a.doc
   · have hpl:placeR a d t=⟨a.doc+d,t+(a.pos+1)⟩:=by unfold placeR;rw [if_pos hd0]
     rw [hpl] at hyi hx h9
     obtain ⟨P,hPd⟩ : ∃ P,P=(⟨a.doc+d,(t+(a.pos+1))⟩:PlaceV):=⟨_,rfl⟩
     rw [← hPd] at hyi hx h9
     have hnx : ∀ l3,s2=some l3->xs=(D++[P])++(placesR (m - (q+1)) P (some l3)).1/\s9=(placesR (m - (q+1)) P (some l3)).2:=by
      intro l3 h3
      rw [h3,if_neg (by simp)] at hx h9
      rw [show m - (q+1)=n by omega]
      exact ⟨by rw [hx];simp,h9⟩
     have hX0:q=0->bq=false->Bool.or bd (!(D++[P]).isEmpty && !decide (((D++[P]).headD default).doc=d0)) = !decide (a.doc+(d:Int)=d0):=by
      intro h0 hb
      obtain rfl:D=[]:=List.length_eq_zero_iff.1 (by omega)
      have hb':bd=false:=by rw [hbq] at hb;simpa using hb
      rw [hb',hPd];rfl
     have hX1:¬ q=0->Bool.or bd (!(D++[P]).isEmpty && !decide (((D++[P]).headD default).doc=d0))=bq:=by
      intro h0
      rw [hbq]
      cases hDc:D with
      | nil=>rw [hDc] at hD;exact absurd hD.symm h0
      | cons y ys=>rfl
     have hXt:bq=true->Bool.or bd (!(D++[P]).isEmpty && !decide (((D++[P]).headD default).doc=d0))=true:=by
      intro hb
      by_cases h0:q=0
      · obtain rfl:D=[]:=List.length_eq_zero_iff.1 (by omega)
        have hb':bd=true:=by rw [hbq] at hb;simpa using hb
        rw [hb'];rfl
      · rw [hX1 h0,hb]
     have hPa:0<=P.doc/\P.doc<=1000000000+4000*((q+1:Nat):Int) /\ -1<=P.pos/\P.pos<=1048577*((q+1:Nat):Int):=by rw [hPd];dsimp only;omega
     have hPe:encPl P=[.int .i64 (a.doc+d),.int .i64 (t+(a.pos+1))]:=by rw [hPd];rfl
     have hPo:[Value.int .i64 P.doc,.int .i64 P.pos]=[.int .i64 (a.doc+d),.int .i64 (t+(a.pos+1))]:=by rw [hPd]
     rw [hPe] at hyi
     clear hPd hPe
     repeat' (first|refine aw0m ?_|(refine ap2 ?_ ?_<;>try intro h)|((with_reducible apply z1h (id:=5) 10 (Pl.seg [(0,true),(1,true),(2,true),(3,true),(4,true),(5,true)] (Pl.two 6 9 (Pl.seg [(7,true),(8,true),(9,false)] Pl.leaf) (Pl.seg [(6,false),(7,true),(8,true)] Pl.leaf))) (List.replicate 10 true++List.replicate 1 false).toArray [(10,false)] [(b4,.cells [.int .i64 a.doc,.int .i64 a.pos].toArray 149 (0,0)),(b2,ppO p),(p,rdp g bq)]);kernel_rfl;(exact atks);kernel_rfl;intro r' hl')|(((with_reducible apply z02 (id:=11) 16 [(0,true),(1,true),(2,true),(3,true),(4,true),(5,true),(6,true),(7,true),(8,true),(9,true),(10,true),(11,true),(12,true),(13,true),(14,true),(15,true)] [(16,false),(17,false),(18,false)] [(b2,ppO p),(p,rdp g bq),(bb,.cells [.int .i64 (a.doc+d),.int .i64 (t+(a.pos+1))].toArray 149 (0,0)),(b3,hdO d0 m z)]);kernel_rfl;(exact atks);kernel_rfl;intro r' hl');have hb5:=hl'.2 _ (List.mem_cons_of_mem _ (List.mem_cons_of_mem _ (List.mem_cons_of_mem _ List.mem_cons_self))))|(refine acl Tryz.func185 ?_;refine acr (h1.up hl'.1) ?_;rintro v' H' ⟨rfl,v2,b2',hv2,rfl⟩;refine apl ?_)|(refine acl Tryz.func185 ?_;refine acr (h2 _ _ hv2) ?_;rintro v' H' ⟨rfl,v3,b3',⟨rfl,l3,h3,hl3⟩ | ⟨rfl,h3,y3,hy3⟩,rfl⟩;all_goals refine apl ?_)|(refine acl Tryz.func187 ?_;refine acr (hok v3 false) ?_;rintro v' H' ⟨rfl,rfl⟩;refine apl ?_)|(refine acl Tryz.func187 ?_;refine acr (hok v3 true) ?_;rintro v' H' ⟨rfl,rfl⟩;refine apl ?_)|((with_reducible apply z2o);rfl;exact ((hyi _ h3).2);rfl;(exact atk);all_goals (refine apk ?_))|(exfalso;contradiction)|refine aw1m ?_|(refine abx ?_;intro bb)|(refine abz ?_;intro bz)|(refine ahv ?_;intro v' hv')|(refine aac ?_;intro ac cc)|refine aw2 ?_|(refine ap4 ?_ ?_<;>try intro h)|apply True.intro)
     all_goals first
      | exact ⟨_,by omega,q+1,P,some l3,D++[P],v3,false,Bool.or bd (!(D++[P]).isEmpty && !decide (((D++[P]).headD default).doc=d0)),rfl,(hnx _ h3).1,(hnx _ h3).2,by omega,by simp [hD],.inl ⟨rfl,l3,rfl,hl3⟩,hPa,rfl,⟨_,by rw [hPo];first|(rw [hXt (by assumption)];(exact atks))|(rw [hX0 (by omega) (by assumption)];(exact atks))|(rw [hX1 (by omega),(by assumption:bq=false)];(exact atks))⟩,asls⟩
      | (((with_reducible apply z00);exact res_0 rfl);exact HR.out _ _ _ [Jx (q+1)] atks (.inr ⟨q,[],(hyi _ h3).1,rfl⟩))
      | (((with_reducible apply z00);exact res_0 rfl);exact HR.out _ _ _ [J q,pt p (rdp g bq),pt g (rdr v3 true)] atks (.inl ⟨v3,true,bq,.inr ⟨rfl,by rw [h9,h3];rfl,y3,hy3⟩,fun l x _ e=>(by rw [h9,h3] at e;cases e),by rw [show xs=D by rw [hx,h3];simp,hD]⟩))
   · have hpl:placeR a d t=⟨a.doc+d,t⟩:=by unfold placeR;rw [if_neg hd0]
     rw [hpl] at hyi hx h9
     obtain ⟨P,hPd⟩ : ∃ P,P=(⟨a.doc+d,t⟩:PlaceV):=⟨_,rfl⟩
     rw [← hPd] at hyi hx h9
     have hnx : ∀ l3,s2=some l3->xs=(D++[P])++(placesR (m - (q+1)) P (some l3)).1/\s9=(placesR (m - (q+1)) P (some l3)).2:=by
      intro l3 h3
      rw [h3,if_neg (by simp)] at hx h9
      rw [show m - (q+1)=n by omega]
      exact ⟨by rw [hx];simp,h9⟩
     have hX0:q=0->bq=false->Bool.or bd (!(D++[P]).isEmpty && !decide (((D++[P]).headD default).doc=d0)) = !decide (a.doc+(d:Int)=d0):=by
      intro h0 hb
      obtain rfl:D=[]:=List.length_eq_zero_iff.1 (by omega)
      have hb':bd=false:=by rw [hbq] at hb;simpa using hb
      rw [hb',hPd];rfl
     have hX1:¬ q=0->Bool.or bd (!(D++[P]).isEmpty && !decide (((D++[P]).headD default).doc=d0))=bq:=by
      intro h0
      rw [hbq]
      cases hDc:D with
      | nil=>rw [hDc] at hD;exact absurd hD.symm h0
      | cons y ys=>rfl
     have hXt:bq=true->Bool.or bd (!(D++[P]).isEmpty && !decide (((D++[P]).headD default).doc=d0))=true:=by
      intro hb
      by_cases h0:q=0
      · obtain rfl:D=[]:=List.length_eq_zero_iff.1 (by omega)
        have hb':bd=true:=by rw [hbq] at hb;simpa using hb
        rw [hb'];rfl
      · rw [hX1 h0,hb]
     have hPa:0<=P.doc/\P.doc<=1000000000+4000*((q+1:Nat):Int) /\ -1<=P.pos/\P.pos<=1048577*((q+1:Nat):Int):=by rw [hPd];dsimp only;omega
     have hPe:encPl P=[.int .i64 (a.doc+d),.int .i64 t]:=by rw [hPd];rfl
     have hPo:[Value.int .i64 P.doc,.int .i64 P.pos]=[.int .i64 (a.doc+d),.int .i64 t]:=by rw [hPd]
     rw [hPe] at hyi
     clear hPd hPe
     repeat' (first|refine aw0m ?_|(refine ap2 ?_ ?_<;>try intro h)|((with_reducible apply z1h (id:=5) 10 (Pl.seg [(0,true),(1,true),(2,true),(3,true),(4,true),(5,true)] (Pl.two 6 9 (Pl.seg [(7,true),(8,true),(9,false)] Pl.leaf) (Pl.seg [(6,false),(7,true),(8,true)] Pl.leaf))) (List.replicate 10 true++List.replicate 1 false).toArray [(10,false)] [(b4,.cells [.int .i64 a.doc,.int .i64 a.pos].toArray 149 (0,0)),(b2,ppO p),(p,rdp g bq)]);kernel_rfl;(exact atks);kernel_rfl;intro r' hl')|(((with_reducible apply z02 (id:=11) 16 [(0,true),(1,true),(2,true),(3,true),(4,true),(5,true),(6,true),(7,true),(8,true),(9,true),(10,true),(11,true),(12,true),(13,true),(14,true),(15,true)] [(16,false),(17,false),(18,false)] [(b2,ppO p),(p,rdp g bq),(bb,.cells [.int .i64 (a.doc+d),.int .i64 t].toArray 149 (0,0)),(b3,hdO d0 m z)]);kernel_rfl;(exact atks);kernel_rfl;intro r' hl');have hb5:=hl'.2 _ (List.mem_cons_of_mem _ (List.mem_cons_of_mem _ (List.mem_cons_of_mem _ List.mem_cons_self))))|(refine acl Tryz.func185 ?_;refine acr (h1.up hl'.1) ?_;rintro v' H' ⟨rfl,v2,b2',hv2,rfl⟩;refine apl ?_)|(refine acl Tryz.func185 ?_;refine acr (h2 _ _ hv2) ?_;rintro v' H' ⟨rfl,v3,b3',⟨rfl,l3,h3,hl3⟩ | ⟨rfl,h3,y3,hy3⟩,rfl⟩;all_goals refine apl ?_)|(refine acl Tryz.func187 ?_;refine acr (hok v3 false) ?_;rintro v' H' ⟨rfl,rfl⟩;refine apl ?_)|(refine acl Tryz.func187 ?_;refine acr (hok v3 true) ?_;rintro v' H' ⟨rfl,rfl⟩;refine apl ?_)|((with_reducible apply z2o);rfl;exact ((hyi _ h3).2);rfl;(exact atk);all_goals (refine apk ?_))|(exfalso;contradiction)|refine aw1m ?_|(refine abx ?_;intro bb)|(refine abz ?_;intro bz)|(refine ahv ?_;intro v' hv')|(refine aac ?_;intro ac cc)|refine aw2 ?_|(refine ap4 ?_ ?_<;>try intro h)|apply True.intro)
     all_goals first
      | exact ⟨_,by omega,q+1,P,some l3,D++[P],v3,false,Bool.or bd (!(D++[P]).isEmpty && !decide (((D++[P]).headD default).doc=d0)),rfl,(hnx _ h3).1,(hnx _ h3).2,by omega,by simp [hD],.inl ⟨rfl,l3,rfl,hl3⟩,hPa,rfl,⟨_,by rw [hPo];first|(rw [hXt (by assumption)];(exact atks))|(rw [hX0 (by omega) (by assumption)];(exact atks))|(rw [hX1 (by omega),(by assumption:bq=false)];(exact atks))⟩,asls⟩
      | (((with_reducible apply z00);exact res_0 rfl);exact HR.out _ _ _ [Jx (q+1)] atks (.inr ⟨q,[],(hyi _ h3).1,rfl⟩))
      | (((with_reducible apply z00);exact res_0 rfl);exact HR.out _ _ _ [J q,pt p (rdp g bq),pt g (rdr v3 true)] atks (.inl ⟨v3,true,bq,.inr ⟨rfl,by rw [h9,h3];rfl,y3,hy3⟩,fun l x _ e=>(by rw [h9,h3] at e;cases e),by rw [show xs=D by rw [hx,h3];simp,hD]⟩))
 · obtain rfl:q=m:=by omega
   rw [Nat.sub_self] at hx h9
   have hxD:xs=D:=by rw [hx];exact List.append_nil _
   have h9s:s9=s:=h9
   subst hxD;subst h9s
   have hxe:xs.isEmpty=false:=by cases xs with|nil=>simp at hD;omega|cons=>rfl
   rw [hxe] at hbq
   have hlf2 : ∃ l1:List UInt8,(∀ x,s9=some x->x=l1)/\l1.length<=9223372036854775807/\Tri Tryz.prog r 188 [.pointer (some ⟨g,0,none⟩)] [pt g (rdr v1 b1)] fun w H=>w = .int .i64 l1.length/\H=[pt g (rdr v1 b1)]:=by
    rcases hv1 with ⟨rfl,l,rfl,hl⟩ | ⟨rfl,rfl,y,hy⟩
    · exact ⟨l,fun x e=>by injection e with e;exact e.symm,by have:=hl.2.1;unfold maxLen at this;omega,z3v r g v1 false l hl⟩
    · exact ⟨[],fun x e=>(by cases e),Nat.zero_le _,z3v r g v1 true y hy⟩
   obtain ⟨l1,hl1,hl1m,hlf2⟩:=hlf2
   repeat' (first|refine aw0m ?_|(refine ap2 ?_ ?_<;>try intro h)|((with_reducible apply z02 (id:=13) 17 [(0,true),(1,true),(2,true),(3,true),(4,true),(5,true),(6,true),(7,true),(8,true),(9,true),(10,true),(13,true),(14,true),(11,false),(12,true),(15,true),(16,true)] [(17,false),(18,false),(19,false)] [(b2,ppO p),(p,rdp g bq),(b3,hdO d0 q z)]);kernel_rfl;(exact atks);kernel_rfl;intro r' hl')|(refine acl Tryz.func188 ?_;refine acr (hlf2.up hl'.1) ?_;rintro v' H' ⟨rfl,rfl⟩;refine apl ?_)|refine aw1m ?_|(refine abx ?_;intro bb)|(refine abz ?_;intro bz)|(refine ahv ?_;intro v' hv')|(refine aac ?_;intro ac cc)|refine aw2 ?_|(refine ap4 ?_ ?_<;>try intro h)|apply True.intro)
   all_goals ((with_reducible apply z1k);exact res_0 rfl)
   · exact HR.out _ _ _ [J xs.length,pt p (rdp g true),pt g (rdr v1 b1)] (by rw [hD];(exact atks)) (.inl ⟨v1,b1,true,hv1,fun l x e1 e2=>(by
      have hb:(bd || !decide ((xs.headD default).doc=d0))=true:=by
       have h1:bq=true:=by assumption
       rw [hbq] at h1;simpa using h1
      rw [hb];rfl),rfl⟩)
   · exact HR.out _ _ _ [J xs.length,pt p (rdp g (!decide ((L:Int) - l1.length=z))),pt g (rdr v1 b1)] (by rw [hD];(exact atks)) (.inl ⟨v1,b1,_,hv1,fun l x e1 e2=>(by
      rw [hl1 x e2,← hL l e1]
      have hb:bd=false/\decide ((xs.headD default).doc=d0)=true:=by
       have:bq=false:=by assumption
       rw [hbq] at this;simpa using this
      rw [hb.1,hb.2];rfl),rfl⟩)
end Go.Proofs.YtohpeoakdgckfaaGreat
