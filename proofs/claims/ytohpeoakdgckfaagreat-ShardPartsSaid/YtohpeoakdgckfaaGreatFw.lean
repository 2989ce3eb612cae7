/- A reader that owns its bytes: pieces. frame's reader: next, all: their contracts. -/
import Derived.Test.YtohpeoakdgckfaaGreatFm
import Derived.Test.YtohpeoakdgckfaaGreatDc
import Derived.Test.YtohpeoakdgckfaaGreatMp
import Derived.Test.YtohpeoakdgckfaaGreatIn
set_option maxHeartbeats 4000000
set_option maxRecDepth 10000
namespace Go.Proofs.YtohpeoakdgckfaaGreat
open Go.RowKit Sx
namespace Sx
theorem Tri.lendX {P:Program} {r:Hp} {f:FuncId} {args:List Value} {A:Ch} {H:List Ch} {R:Hp->Rt} (h : ∀ g,A g->Tri P g f args H (R g)):Tri P r f args (A::H) fun w H' => ∃ g H'',A g/\R g w H''/\H'=(fun x=>x=g)::H'' :=
 z1c.2 fun w h0 ok al=>by
  obtain ⟨g,k,d,rfl,hg,hk⟩:=al
  refine (z1c.1 ((h g hg).up (fun b o e=>z0n (dj_un.1 ok.dj).1 e:sub g (un r g))) w k (ok.lend d) hk).mono ?_
  rintro e w' ⟨v,H',h',rfl,hR,al',to'⟩
  obtain ⟨d',tb⟩:=To.back ok d to'
  exact ⟨v,_,_,rfl,⟨g,H',hg,hR,rfl⟩,⟨g,h',d',rfl,rfl,al'⟩,tb⟩
theorem Tri.opn {P:Program} {r:Hp} {f:FuncId} {args:List Value} {ι:Type} {A:Ch} {B:ι->List Ch} {H:List Ch} {R:Rt} (hA : ∀ h,A h -> ∃ i,all (B i) h) (h : ∀ i,Tri P r f args (B i++H) R):Tri P r f args (A::H) R :=
 z1c.2 fun w h0 ok al=>by
  obtain ⟨x,y,d,e,hx,hy⟩:=al
  obtain ⟨i,hi⟩:=hA x hx
  exact z1c.1 (h i) w h0 ok (z17.2 ⟨x,y,d,e,hi,hy⟩)
end Sx
def Then2 (q:Tmp) (u:Value) (K:St):St:=fun t H=>K (putL t (some q) u) H
theorem Sx.sw_pars2 {P:Program} {l:Option Nat} {r:Hp} {Q:Exit->St} {t:List Value} {H:List Ch} {c:Code} {p q:Tmp} {v u:Value} (h:Then2 q u (SW P l r c Q) (putL t (some p) v) H):SW P l r c Q (pars t [p,q] [v,u]) H:=h
theorem Sx.then2_mk {K:St} {q:Tmp} {u:Value} {t:List Value} {H:List Ch} (h:K (putL t (some q) u) H):Then2 q u K t H:=h
def WRd (w:Nat) (st:Stt):Ch:=fun h => ∃ i:Value × Bool,all [fun g=>RdOk g i.1 i.2 st,pt w (rdr i.1 i.2)] h
theorem Sx.Tri.wrd {r:Hp} {f:FuncId} {args:List Value} {w:Nat} {st:Stt} {H:List Ch} {R:Rt} (h : ∀ v bad,Tri Tryz.prog r f args ((fun g=>RdOk g v bad st)::pt w (rdr v bad)::H) R):Tri Tryz.prog r f args (WRd w st::H) R :=
 Tri.opn (ι:=Value × Bool) (A:=WRd w st) (B:=fun i=>[fun g=>RdOk g i.1 i.2 st,pt w (rdr i.1 i.2)]) (fun _ h=>h) fun i=>h i.1 i.2
theorem z90 {w:Nat} {st:Stt} {g:Hp} {v:Value} {bad:Bool} (h:RdOk g v bad st) (k:Hp) (e:all [fun x=>x=g,pt w (rdr v bad)] k):WRd w st k:=by
 obtain ⟨x,y,d,e1,rfl,hy⟩:=e
 exact ⟨(v,bad),x,y,d,e1,h,hy⟩
theorem z39 (r:Hp) (v:Value) (l:List UInt8) (hv:U8S r v l) (hl:l.length<=1000000000):Tri Tryz.prog r 182 [v] [] fun w H => ∃ g,w = .pointer (some ⟨g,0,none⟩)/\H=[WRd g (some l)]:=by
 refine z60 (z8r r v l hv hl) ?_
 rintro w H ⟨g,v',rfl,rfl⟩
 refine ⟨_,⟨g,rfl,rfl⟩,fun h e=>?_⟩
 obtain ⟨x,y,d,rfl,h1,h2⟩:=e
 refine z11.2 ⟨(v',false),y,x,d.symm,z6f d,.inl ⟨rfl,l,rfl,?_⟩,z11.2 h1⟩
 exact RowC.sl (z11.1 h2) (fun _ _ h=>h)
theorem zit (r:Hp) (w:Nat) (l:List UInt8):Tri Tryz.prog r 188 [.pointer (some ⟨w,0,none⟩)] [WRd w (some l)] fun u H=>u = .int .i64 l.length/\H=[WRd w (some l)]:=by
 refine Tri.wrd fun v bad=>?_
 refine z60 (Tri.lendX fun g hg=>?_) (R:=fun u H => ∃ g H'',RdOk g v bad (some l)/\(u = .int .i64 l.length/\H''=[pt w (rdr v bad)])/\H=(fun x=>x=g)::H'') ?_
 · rcases hg with ⟨h1,x,h2,h3⟩ | ⟨_,h2,_⟩
   · cases h2
     rw [h1]
     exact z3v g w v false l h3
   · cases h2
 · rintro u H ⟨g,H'',hg,⟨rfl,rfl⟩,rfl⟩
   exact ⟨_,⟨rfl,rfl⟩,fun h e=>z11.2 (z90 hg h e)⟩
theorem zq2 (r:Hp) (w:Nat) (st:Stt):Tri Tryz.prog r 187 [.pointer (some ⟨w,0,none⟩)] [WRd w st] fun u H=>u = .bool st.isSome/\H=[WRd w st]:=by
 refine Tri.wrd fun v bad=>?_
 refine z60 (Tri.lendX fun g hg=>?_) (R:=fun u H => ∃ g H'',RdOk g v bad st/\(u = .bool st.isSome/\H''=[pt w (rdr v bad)])/\H=(fun x=>x=g)::H'') ?_
 · have h:=z3q g w v bad
   rwa [show (!bad)=st.isSome by rcases hg with ⟨h1,x,h2,_⟩ | ⟨h1,h2,_⟩<;>rw [h1,h2]<;>rfl] at h
 · rintro u H ⟨g,H'',hg,⟨rfl,rfl⟩,rfl⟩
   exact ⟨_,⟨rfl,rfl⟩,fun h e=>z11.2 (z90 hg h e)⟩
theorem zos (r:Hp) (w:Nat) (st:Stt) (most:Int):Tri Tryz.prog r 191 [.pointer (some ⟨w,0,none⟩),.int .i64 most] [WRd w st] fun u H => ∃ a c,u = .slice a (textR most st).1.length c/\H=[U8R u (textR most st).1,WRd w (textR most st).2]:=by
 refine Tri.wrd fun v bad=>?_
 refine z60 (Tri.lendX fun g hg=>zci g w v bad st most hg) ?_
 rintro u H ⟨g,H'',hg,⟨a,c,v',bad',rfl,hok,rfl⟩,rfl⟩
 refine ⟨_,⟨a,c,rfl,rfl⟩,fun h e=>?_⟩
 have h1:=z0j (List.Perm.swap _ _ _) e
 obtain ⟨x,y,d,rfl,h2,h3⟩:=h1
 exact ⟨x,y,d,rfl,h2,z11.2 (z90 hok y h3)⟩
abbrev frr (w:Nat) (v:Value):Obj:= .cells [.pointer (some ⟨w,0,none⟩),v].toArray 295 (0,0)
theorem zot (r:Hp) (p w:Nat) (v:Value) (b:List UInt8) (hv:U8S r v b) (hb:b.length<=100000000) (t:UInt8) (l:List UInt8) (k:Nat) (hk:b.drop k=t::l):Tri Tryz.prog r 213 [.pointer (some ⟨p,0,none⟩)] [pt p (frr w v),WRd w (some (t::l))] fun u H => ∃ a c w',u = .agg #[.int .u8 t.toNat,.slice a (textR 67108864 (some l)).1.length c]/\H=[U8R (.slice a (textR 67108864 (some l)).1.length c) (textR 67108864 (some l)).1,pt p (frr w' v),WRd w' (textR 67108864 (some l)).2]:=by
 refine Tri.free2 fun R HR=>?_
 have hkl:k<b.length:=by
  rcases Nat.lt_or_ge k b.length with h|h
  · exact h
  · rw [List.drop_eq_nil_of_le h] at hk;cases hk
 have hll:(t::l).length=b.length - k:=by rw [← hk,List.length_drop]
 have hbk:b.getD k 0=t:=by
  rw [List.drop_eq_getElem_cons hkl] at hk
  injection hk with h1 h2
  rw [List.getD_eq_getElem?_getD,List.getElem?_eq_getElem hkl];exact h1
 have hbl:b.drop (k+1)=l:=by
  rw [List.drop_eq_getElem_cons hkl] at hk
  injection hk
 have htx:=fun w'=>zos r w' (some l) 67108864
 generalize textR 67108864 (some l)=T at htx HR
 refine ae Tryz.func213 Tryz.ntmps213 ?_
 have hkk:((b.length:Nat):Int) - ((t::l).length:Nat)=(k:Int):=by rw [hll];omega
 have hbk':b.getD ((k:Int)).toNat 0=t:=by rw [Int.toNat_natCast];exact hbk
 have hlb:l.length+(k+1)=b.length:=by rw [← hbl,List.length_drop];omega
 have hcut:List.take ((b.length:Int).toNat - ((k:Int)+1).toNat) (List.drop ((k:Int)+1).toNat b)=l:=by
  rw [show ((k:Int)+1).toNat=k+1 by omega,Int.toNat_natCast,hbl]
  exact List.take_of_length_le (by omega)
 repeat' (first|(rw [hkk])|(rw [hbk'])|((with_reducible apply z02 (id:=1) 11 [(0,true),(1,true),(2,true),(3,true),(4,true),(5,true),(6,true),(7,true),(8,true),(9,false),(10,true)] [(11,false)] [(p,frr w v)]);kernel_rfl;(exact atks);kernel_rfl;intro r' hl')|(refine acl Tryz.func188 ?_;refine acr (zit _ w (t::l)) ?_;rintro v' H' ⟨rfl,rfl⟩;refine apl ?_)|(refine acl Tryz.func182 ?_;refine acr (z39 _ _ l (by have h:=hv';rw [hcut] at h;exact h) (by omega)) ?_;rintro v' H' ⟨w',rfl,rfl⟩;refine apl ?_)|(refine acl Tryz.func191 ?_;refine acr (htx w') ?_;rintro v' H' ⟨a,c,rfl,rfl⟩;refine apl ?_)|refine aw0 ?_|(refine ap2 ?_ ?_<;>try intro h)|refine aw1 ?_|(refine abx ?_;intro bb)|(refine abz ?_;intro bz)|(refine ahv ?_;intro v' hv')|(refine aac ?_;intro ac cc)|refine aw2 ?_|(refine ap4 ?_ ?_<;>try intro h)|apply True.intro)
 ((with_reducible apply z00);exact res_W rfl rfl atk z0a z08 rfl)
 exact HR.out _ _ _ [U8R _ _,pt p _,WRd w' _] atks ⟨_,_,_,by rw [hbk],rfl⟩
def pX:List UInt8->List (PartP × Bool)
 | []=>[]
 | t::l=>match _h:textR 67108864 (some l) with
  | (b,some rest)=>((t,b),true)::pX rest
  | (b,none)=>[((t,b),false)]
termination_by l=>l.length
decreasing_by
 have h1:=z4e (most:=67108864) _h
 have h2:l=texts b++rest:=by injection h1
 rw [h2,List.length_cons,List.length_append]
 omega
theorem zf3:pX []=[]:=by rw [pX]
theorem pX_ok {t:UInt8} {l b rest:List UInt8} (h:textR 67108864 (some l)=(b,some rest)):pX (t::l)=((t,b),true)::pX rest:=by
 rw [pX]
 split
 · rename_i h2;rw [h] at h2;cases h2;rfl
 · rename_i h2;rw [h] at h2;cases h2
theorem zf4 {t:UInt8} {l b:List UInt8} (h:textR 67108864 (some l)=(b,none)):pX (t::l)=[((t,b),false)]:=by
 rw [pX]
 split
 · rename_i h2;rw [h] at h2;cases h2
 · rename_i h2;rw [h] at h2;cases h2;rfl
theorem zq3 : ∀ l:List UInt8,(pX l).length<=l.length
 | []=>by rw [zf3];exact Nat.le_refl _
 | t::l=>by
  obtain ⟨⟨b,st⟩,hT⟩ : ∃ T,textR 67108864 (some l)=T:=⟨_,rfl⟩
  cases st with
  | none=>rw [zf4 hT];simp
  | some rest =>
   have h1:=z4e (most:=67108864) hT
   have h2:l=texts b++rest:=by injection h1
   have h3:=zq3 rest
   rw [pX_ok hT,h2,List.length_cons,List.length_cons,List.length_append]
   omega
termination_by l=>l.length
decreasing_by
 rw [h2,List.length_cons,List.length_append]
 omega
def argX (x:PartP × Bool) (args:List Value) (C:List Ch):Prop := ∃ a c,args=[.agg [.int .u8 x.1.1.toNat,.slice a x.1.2.length c].toArray,.bool x.2]/\C=[U8R (.slice a x.1.2.length c) x.1.2]
theorem zrj (r:Hp) (p bo w0:Nat) (v:Value) (b l0:List UInt8) (hv:U8S r v b) (hb:b.length<=100000000) (hk0 : ∃ k,b.drop k=l0):SeqG Tryz.prog r 212 [.pointer (some ⟨bo,0,none⟩)] argX (pX l0) [pt bo (.cells [.pointer (some ⟨p,0,none⟩)].toArray 293 (0,0)),pt p (frr w0 v),WRd w0 (some l0)] []:=by
 intro k J Jx hY
 refine Tri.free2 fun R HR=>?_
 refine ae Tryz.func212 Tryz.ntmps212 ?_
 repeat' (first|refine aw0m ?_|(refine ap2 ?_ ?_<;>try intro h)|refine aw1m ?_|(refine abx ?_;intro bb)|(refine abz ?_;intro bz)|(refine ahv ?_;intro v' hv')|(refine aac ?_;intro ac cc)|refine aw2 ?_|(refine ap4 ?_ ?_<;>try intro h)|apply True.intro)
 refine z04 (fun gm t H' => ∃ (j:Nat) (l:List UInt8) (w:Nat),gm=l.length+1/\(j<=(pX l0).length)/\((pX l0).drop j=pX l)/\(∃ k,b.drop k=l)/\(∃ G,Takes [J j,pt bo (.cells [.pointer (some ⟨p,0,none⟩)].toArray 293 (0,0)),pt p (frr w v),WRd w (some l)] H' G)/\Sls t 27 [(0,.func (.yield k) #[] #[]),(1,.pointer (some ⟨bo,0,none⟩))]) _ ⟨0,l0,w0,rfl,Nat.zero_le _,rfl,hk0,⟨_,atks⟩,asls⟩ ?_
 rintro gm t H' ⟨j,l,w,rfl,hj,hd,hk,⟨G,hp⟩,hs'⟩
 revert t;refine z06 ?_;iterate 25 intro uu'
 refine z01 hp ?_;clear hp
 have hlf:=zit r w l
 cases l with
 | nil =>
  rw [zf3] at hd
  have hjn:j=(pX l0).length:=by have:=List.drop_eq_nil_iff.1 hd;omega
  repeat' (first|(refine acl Tryz.func188 ?_;refine acr (hlf) ?_;rintro v' H' ⟨rfl,rfl⟩;refine apl ?_)|exact xf|refine aw0 ?_|(refine ap2 ?_ ?_<;>try intro h)|refine aw1 ?_|(refine abx ?_;intro bb)|(refine abz ?_;intro bz)|(refine ahv ?_;intro v' hv')|(refine aac ?_;intro ac cc)|refine aw2 ?_|(refine ap4 ?_ ?_<;>try intro h)|apply True.intro)
  ((with_reducible apply z1k);exact res_0 rfl)
  exact HR.out _ _ _ [J j] atks (.inl (by rw [hjn]))
 | cons t l =>
  obtain ⟨kk,hkk⟩:=hk
  have hnx:=zot r p w v b hv hb t l kk hkk
  have hlc:(t::l).length=l.length+1:=rfl
  obtain ⟨⟨bx,st⟩,hT⟩ : ∃ T,textR 67108864 (some l)=T:=⟨_,rfl⟩
  rw [hT] at hnx
  dsimp only at hnx
  have hjlt:j<(pX l0).length:=by
   rcases Nat.lt_or_ge j (pX l0).length with h|h
   · exact h
   · rw [List.drop_eq_nil_of_le h] at hd
     cases st with
     | none=>rw [zf4 hT] at hd;cases hd
     | some x=>rw [pX_ok hT] at hd;cases hd
  rw [List.drop_eq_getElem_cons hjlt] at hd
  cases st with
  | none =>
   rw [zf4 hT] at hd
   injection hd with hx hd2
   have hjn:j+1=(pX l0).length:=by have:=List.drop_eq_nil_iff.1 hd2;omega
   have hy:=fun a c=>hY j hjlt _ _ ⟨a,c,rfl,rfl⟩
   rw [hx] at hy
   dsimp only at hy
   repeat' (first|(refine acl Tryz.func188 ?_;refine acr (hlf) ?_;rintro v' H' ⟨rfl,rfl⟩;refine apl ?_)|(refine acl Tryz.func213 ?_;refine acr (hnx) ?_;rintro v' H' ⟨a,c,w',rfl,rfl⟩;refine apl ?_)|(refine acl Tryz.func187 ?_;refine acr (zq2 r w' none) ?_;rintro v' H' ⟨rfl,rfl⟩;refine apl ?_)|((with_reducible apply zag);rfl;exact (hy a c);rfl;(exact atks);all_goals (refine apk ?_))|exact xf|refine aw0 ?_|(refine ap2 ?_ ?_<;>try intro h)|refine aw1 ?_|(refine abx ?_;intro bb)|(refine abz ?_;intro bz)|(refine ahv ?_;intro v' hv')|(refine aac ?_;intro ac cc)|refine aw2 ?_|(refine ap4 ?_ ?_<;>try intro h)|apply True.intro)
   · ((with_reducible apply z00);exact res_0 rfl)
     exact HR.out _ _ _ [J (j+1)] atks (.inl (by rw [hjn]))
   · ((with_reducible apply z00);exact res_0 rfl)
     exact HR.out _ _ _ [Jx (j+1)] atks (.inr ⟨j,[],hjlt,rfl⟩)
  | some rest =>
   rw [pX_ok hT] at hd
   injection hd with hx hd2
   have hy:=fun a c=>hY j hjlt _ _ ⟨a,c,rfl,rfl⟩
   rw [hx] at hy
   dsimp only at hy
   repeat' (first|(refine acl Tryz.func188 ?_;refine acr (hlf) ?_;rintro v' H' ⟨rfl,rfl⟩;refine apl ?_)|(refine acl Tryz.func213 ?_;refine acr (hnx) ?_;rintro v' H' ⟨a,c,w',rfl,rfl⟩;refine apl ?_)|(refine acl Tryz.func187 ?_;refine acr (zq2 r w' (some rest)) ?_;rintro v' H' ⟨rfl,rfl⟩;refine apl ?_)|((with_reducible apply zag);rfl;exact (hy a c);rfl;(exact atks);all_goals (refine apk ?_))|exact xf|refine aw0 ?_|(refine ap2 ?_ ?_<;>try intro h)|refine aw1 ?_|(refine abx ?_;intro bb)|(refine abz ?_;intro bz)|(refine ahv ?_;intro v' hv')|(refine aac ?_;intro ac cc)|refine aw2 ?_|(refine ap4 ?_ ?_<;>try intro h)|apply True.intro)
   · have hinv:=z4e (most:=67108864) hT
     have hl2:l=texts bx++rest:=by injection hinv
     have hrl:rest.length<=l.length:=by rw [hl2,List.length_append];omega
     have hdr:b.drop (kk+(1+(texts bx).length))=rest:=by
      rw [← List.drop_drop,hkk,hl2,show 1+(texts bx).length=(texts bx).length+1 by omega,List.drop_succ_cons,List.drop_left]
     exact ⟨_,by omega,j+1,rest,w',rfl,by omega,hd2,⟨_,hdr⟩,⟨_,atks⟩,asls⟩
   · ((with_reducible apply z00);exact res_0 rfl)
     exact HR.out _ _ _ [Jx (j+1)] atks (.inr ⟨j,[],hjlt,rfl⟩)
theorem Sx.res_cc {P:Program} {r:Hp} {t:List Value} {H:List Ch} {fn:Func} {d e:Tmp} {T U:TypeId} {a b:Addr} {v u:Value} (hr:fn.results = #[.cell d T,.cell e U]) (hv:t[d]?=some (.pointer (some a))) (hu:t[e]?=some (.pointer (some b))) (hT:aggB P T=some false) (hU:aggB P U=some false) (hc:Rd1 r H a v) (hd:Rd1 r H b u):Res P r fn t H (.tuple #[v,u]):=by
 intro w g e' e'' al
 have h1:=hc w g e'' e' al
 have h2:=hd w g e'' e' al
 have h3:t.toArray.getD d undef = .pointer (some a):=by simp [hv,Array.getD_eq_getD_getElem?]
 have h4:t.toArray.getD e undef = .pointer (some b):=by simp [hu,Array.getD_eq_getD_getElem?]
 simp [results,hr,asAddr,loadVar,Sem.run_bind,z1a hT,z1a hU,Result.andThen,z4n h1,z4n h2,hv,hu]
theorem z7z (r:Hp) (w:Nat) (st:Stt):Tri Tryz.prog r 183 [.pointer (some ⟨w,0,none⟩)] [WRd w st] fun u H=>u = .int .u32 (fixR st).1/\H=[WRd w (fixR st).2]:=by
 refine Tri.wrd fun v bad=>?_
 refine z60 (Tri.lendX fun g hg=>ze0 g w v bad st hg) ?_
 rintro u H ⟨g,H'',hg,⟨rfl,v',bad',hok,rfl⟩,rfl⟩
 exact ⟨_,⟨rfl,rfl⟩,fun h e=>z11.2 (z90 hok h e)⟩
theorem z80 (r':Hp) (bz:Nat) (v:Value) (D:List UInt8) (h:r' bz=some (.cells [v].toArray 26 (0,0))) (h2:U8S r' v D):Tri Tryz.prog r' 80 [.slice (some ⟨bz,0,none⟩) 1 1] [] fun w H=>w = .int .u32 (crcB D:Nat)/\H=[]:=by
 have h3:=zgj r' (.slice (some ⟨bz,0,none⟩) 1 1) [(v,D)] ⟨Sl.lit (n:=1) h rfl (by simp [maxLen]),fun x hx=>by obtain rfl:=List.mem_singleton.1 hx;exact h2⟩
 rw [show flat [(v,D)]=D by simp [flat]] at h3
 exact h3
def okF (b:List UInt8):Bool:=decide (8<=b.length) && decide ((fixR (some b)).1=b.length) && decide ((fixR (some (b.drop (b.length - 4)))).1=crcB (b.take (b.length - 4)))
def midF (b:List UInt8):List UInt8:=(b.drop 4).take (b.length - 8)
def partsF (b:List UInt8):Option (List PartP):=if okF b && (pX (midF b)).all (·.2) then some ((pX (midF b)).map (·.1)) else none
def bytP (x:PartV):BytV:=⟨x.val,x.data⟩
def PrtC (v:Value) (ps:List PartP):Ch:=fun h => ∃ Z:List PartV,Z.map pOf=ps/\all [RowC 50 2 v Z.length (Z.flatMap encPa),ByC (Z.map bytP)] h
theorem zrk (r:Hp) (p:Nat):Tri Tryz.prog r 184 [.pointer (some ⟨p,0,none⟩)] [] fun w H => ∃ bo,w = .func (.func 212) #[] #[.pointer (some ⟨bo,0,none⟩)]/\H=[pt bo (.cells [.pointer (some ⟨p,0,none⟩)].toArray 293 (0,0))]:=by
 refine Tri.free2 fun R HR=>?_
 refine ae Tryz.func184 Tryz.ntmps184 ?_
 repeat' (first|refine aw0m ?_|(refine ap2 ?_ ?_<;>try intro h)|refine aw1m ?_|(refine abx ?_;intro bb)|(refine abz ?_;intro bz)|(refine ahv ?_;intro v' hv')|(refine aac ?_;intro ac cc)|refine aw2 ?_|(refine ap4 ?_ ?_<;>try intro h)|apply True.intro)
 ((with_reducible apply z00);exact res_1 rfl rfl)
 exact HR.out _ _ _ [_] atks ⟨_,rfl,rfl⟩
theorem zou (r:Hp) (v:Value) (b:List UInt8) (hv:U8S r v b) (hb:b.length<=1000000):Tri Tryz.prog r 122 [v] [] fun w H=>match partsF b with
 | some ps => ∃ a c,w = .tuple #[.slice a ps.length c,.int .i64 0]/\H=[PrtC (.slice a ps.length c) ps]
 | none=>w = .tuple #[.slice none 0 0,.int .i64 9]/\H=[]:=by
 refine Tri.free2 fun R HR=>?_
 have hr1:=z39 r v b hv (by omega)
 have hcut2:List.take ((b.length:Int).toNat - ((b.length:Int) - 4).toNat) (List.drop ((b.length:Int) - 4).toNat b)=b.drop (b.length - 4):=by
  rw [show ((b.length:Int) - 4).toNat=b.length - 4 by omega,Int.toNat_natCast]
  exact List.take_of_length_le (by rw [List.length_drop];omega)
 have hcut3:List.take (((b.length:Int) - 4).toNat - Int.toNat 0) (List.drop (Int.toNat 0) b)=b.take (b.length - 4):=by
  rw [show ((b.length:Int) - 4).toNat=b.length - 4 by omega];rfl
 have hx1:=z9f (some b)
 have hx2:=z9f (some (b.drop (b.length - 4)))
 by_cases h8:8<=b.length
 · refine ae Tryz.func122 Tryz.ntmps122 ?_
   repeat' (first|((with_reducible apply z0c (E:=46));exact z0l;(exact qcl);intro bo;(refine apk ?_))|((with_reducible apply z0c (E:=27));exact z0l;(exact qcl);intro be;(refine apk ?_))|((with_reducible apply sw_midM (c1:= .region 2 _ _) (I:=fun t' H'=>(∃ G,Takes [pt bo (.cells [.slice none 0 0].toArray 46 (0,0)),pt be (.cells [.int .i64 0].toArray 27 (0,0))] H' G)/\(t'.length=64/\t'[0]?=some (v)/\t'[2]?=some (.pointer (some ⟨bo,0,none⟩))/\t'[3]?=some (.pointer (some ⟨be,0,none⟩))/\t'[4]?=some (.int .i64 b.length)/\t'[38]?=some (.bool (!okF b))))))|refine aw0 ?_|(refine ap2 ?_ ?_<;>try intro h)|refine aw1 ?_|(refine abx ?_;intro bb)|(refine abz ?_;intro bz)|(refine ahv ?_;intro v' hv')|(refine aac ?_;intro ac cc)|refine aw2 ?_|(refine ap4 ?_ ?_<;>try intro h)|apply True.intro)
   · by_cases hq1:(fixR (some b)).1=b.length
     · have hd1:decide (((fixR (some b)).1:Int)=(b.length:Int))=true:=decide_eq_true (by omega)
       by_cases hq2:(fixR (some (b.drop (b.length - 4)))).1=crcB (b.take (b.length - 4))
       · have hd2:decide (((fixR (some (b.drop (b.length - 4)))).1:Int)=((crcB (b.take (b.length - 4)):Nat):Int))=true:=decide_eq_true (by omega)
         have hokf:okF b=true:=by unfold okF;rw [decide_eq_true h8,decide_eq_true hq1,decide_eq_true hq2];rfl
         repeat' (first|(rw [hcut2] at hv')|(rw [hcut3] at hv')|(rw [hd1])|(rw [hd2])|(first|((with_reducible apply z1h (id:=2) 29 (Pl.seg [(0,true),(1,true),(2,true),(3,true),(4,true),(5,true),(6,true),(7,true),(11,true),(8,false),(9,false),(10,true),(12,true),(13,true),(14,true),(15,true),(16,true),(17,true),(18,true),(21,true),(22,true),(23,true),(24,true)] (Pl.two 19 25 (Pl.seg [] (Pl.two 20 25 (Pl.seg [(25,false),(26,false),(27,true),(28,true)] Pl.leaf) (Pl.seg [(20,false),(26,false),(27,true),(28,true)] Pl.leaf))) (Pl.seg [(19,false),(20,false),(26,false),(27,true),(28,true)] Pl.leaf))) (List.replicate 29 true++List.replicate 0 false).toArray [] []);kernel_rfl;(exact atks);kernel_rfl;intro r' hl')|((with_reducible apply z02 (id:=4) 11 [(0,true),(1,true),(2,true),(3,true),(5,true),(6,true),(7,true),(8,true),(4,false),(9,true),(10,false)] [(11,false)] []);kernel_rfl;(exact atks);kernel_rfl;intro r' hl')|((with_reducible apply z02 (id:=12) 2 [(0,true),(1,false)] [(2,false)] []);kernel_rfl;(exact atks);kernel_rfl;intro r' hl'))|(refine acl Tryz.func182 ?_;refine acr (z39 _ v b (hv.mono hl'.1) (by omega)) ?_;rintro v' H' ⟨w1,rfl,rfl⟩;refine apl ?_)|(refine acl Tryz.func183 ?_;refine acr (z7z _ w1 (some b)) ?_;rintro v' H' ⟨rfl,rfl⟩;refine apl ?_)|(refine acl Tryz.func182 ?_;refine acr (z39 _ _ (b.drop (b.length - 4)) (by assumption) (by rw [List.length_drop];omega)) ?_;rintro v' H' ⟨w2,rfl,rfl⟩;refine apl ?_)|(refine acl Tryz.func183 ?_;refine acr (z7z _ w2 (some (b.drop (b.length - 4)))) ?_;rintro v' H' ⟨rfl,rfl⟩;refine apl ?_)|((with_reducible apply z0k [(bz,.cells [v'].toArray 26 (0,0))]);(exact atks);intro r' hl';refine acl Tryz.func80 ?_;refine acr (z80 _ bz v' (b.take (b.length - 4)) (Lent.h1 hl') (hv'.mono hl'.1)) ?_;rintro v' H' ⟨rfl,rfl⟩;all_goals refine apm ?_)|(first|((with_reducible apply z0t);exact ty_el;exact z03;rfl;rfl;rfl;intro bz;(refine apk ?_))|((with_reducible apply z0y);exact ty_el;exact z03;rfl;rfl;rfl;intro bz;(refine apk ?_)))|exact xf|refine aw0 ?_|(refine ap2 ?_ ?_<;>try intro h)|refine aw1 ?_|(refine abx ?_;intro bb)|(refine abz ?_;intro bz)|(refine ahv ?_;intro v' hv')|(refine aac ?_;intro ac cc)|refine aw2 ?_|(refine ap4 ?_ ?_<;>try intro h)|apply True.intro)
         all_goals exact ⟨⟨_,atks⟩,rfl,rfl,rfl,rfl,rfl,by rw [hokf];rfl⟩
       · have hd2:decide (((fixR (some (b.drop (b.length - 4)))).1:Int)=((crcB (b.take (b.length - 4)):Nat):Int))=false:=decide_eq_false (by omega)
         have hokf:okF b=false:=by unfold okF;rw [decide_eq_false hq2];simp
         repeat' (first|(rw [hcut2] at hv')|(rw [hcut3] at hv')|(rw [hd1])|(rw [hd2])|(first|((with_reducible apply z1h (id:=2) 29 (Pl.seg [(0,true),(1,true),(2,true),(3,true),(4,true),(5,true),(6,true),(7,true),(11,true),(8,false),(9,false),(10,true),(12,true),(13,true),(14,true),(15,true),(16,true),(17,true),(18,true),(21,true),(22,true),(23,true),(24,true)] (Pl.two 19 25 (Pl.seg [] (Pl.two 20 25 (Pl.seg [(25,false),(26,false),(27,true),(28,true)] Pl.leaf) (Pl.seg [(20,false),(26,false),(27,true),(28,true)] Pl.leaf))) (Pl.seg [(19,false),(20,false),(26,false),(27,true),(28,true)] Pl.leaf))) (List.replicate 29 true++List.replicate 0 false).toArray [] []);kernel_rfl;(exact atks);kernel_rfl;intro r' hl')|((with_reducible apply z02 (id:=4) 11 [(0,true),(1,true),(2,true),(3,true),(5,true),(6,true),(7,true),(8,true),(4,false),(9,true),(10,false)] [(11,false)] []);kernel_rfl;(exact atks);kernel_rfl;intro r' hl')|((with_reducible apply z02 (id:=12) 2 [(0,true),(1,false)] [(2,false)] []);kernel_rfl;(exact atks);kernel_rfl;intro r' hl'))|(refine acl Tryz.func182 ?_;refine acr (z39 _ v b (hv.mono hl'.1) (by omega)) ?_;rintro v' H' ⟨w1,rfl,rfl⟩;refine apl ?_)|(refine acl Tryz.func183 ?_;refine acr (z7z _ w1 (some b)) ?_;rintro v' H' ⟨rfl,rfl⟩;refine apl ?_)|(refine acl Tryz.func182 ?_;refine acr (z39 _ _ (b.drop (b.length - 4)) (by assumption) (by rw [List.length_drop];omega)) ?_;rintro v' H' ⟨w2,rfl,rfl⟩;refine apl ?_)|(refine acl Tryz.func183 ?_;refine acr (z7z _ w2 (some (b.drop (b.length - 4)))) ?_;rintro v' H' ⟨rfl,rfl⟩;refine apl ?_)|((with_reducible apply z0k [(bz,.cells [v'].toArray 26 (0,0))]);(exact atks);intro r' hl';refine acl Tryz.func80 ?_;refine acr (z80 _ bz v' (b.take (b.length - 4)) (Lent.h1 hl') (hv'.mono hl'.1)) ?_;rintro v' H' ⟨rfl,rfl⟩;all_goals refine apm ?_)|(first|((with_reducible apply z0t);exact ty_el;exact z03;rfl;rfl;rfl;intro bz;(refine apk ?_))|((with_reducible apply z0y);exact ty_el;exact z03;rfl;rfl;rfl;intro bz;(refine apk ?_)))|exact xf|refine aw0 ?_|(refine ap2 ?_ ?_<;>try intro h)|refine aw1 ?_|(refine abx ?_;intro bb)|(refine abz ?_;intro bz)|(refine ahv ?_;intro v' hv')|(refine aac ?_;intro ac cc)|refine aw2 ?_|(refine ap4 ?_ ?_<;>try intro h)|apply True.intro)
         all_goals exact ⟨⟨_,atks⟩,rfl,rfl,rfl,rfl,rfl,by rw [hokf];rfl⟩
     · have hokf:okF b=false:=by unfold okF;rw [decide_eq_false hq1];simp
       have hd1:decide (((fixR (some b)).1:Int)=(b.length:Int))=false:=decide_eq_false (by omega)
       repeat' (first|(rw [hd1])|(first|((with_reducible apply z1h (id:=2) 29 (Pl.seg [(0,true),(1,true),(2,true),(3,true),(4,true),(5,true),(6,true),(7,true),(11,true),(8,false),(9,false),(10,true),(12,true),(13,true),(14,true),(15,true),(16,true),(17,true),(18,true),(21,true),(22,true),(23,true),(24,true)] (Pl.two 19 25 (Pl.seg [] (Pl.two 20 25 (Pl.seg [(25,false),(26,false),(27,true),(28,true)] Pl.leaf) (Pl.seg [(20,false),(26,false),(27,true),(28,true)] Pl.leaf))) (Pl.seg [(19,false),(20,false),(26,false),(27,true),(28,true)] Pl.leaf))) (List.replicate 29 true++List.replicate 0 false).toArray [] []);kernel_rfl;(exact atks);kernel_rfl;intro r' hl')|((with_reducible apply z02 (id:=4) 11 [(0,true),(1,true),(2,true),(3,true),(5,true),(6,true),(7,true),(8,true),(4,false),(9,true),(10,false)] [(11,false)] []);kernel_rfl;(exact atks);kernel_rfl;intro r' hl')|((with_reducible apply z02 (id:=12) 2 [(0,true),(1,false)] [(2,false)] []);kernel_rfl;(exact atks);kernel_rfl;intro r' hl'))|(refine acl Tryz.func182 ?_;refine acr (z39 _ v b (hv.mono hl'.1) (by omega)) ?_;rintro v' H' ⟨w1,rfl,rfl⟩;refine apl ?_)|(refine acl Tryz.func183 ?_;refine acr (z7z _ w1 (some b)) ?_;rintro v' H' ⟨rfl,rfl⟩;refine apl ?_)|(refine acl Tryz.func182 ?_;refine acr (z39 _ _ (b.drop (b.length - 4)) (by assumption) (by rw [List.length_drop];omega)) ?_;rintro v' H' ⟨w2,rfl,rfl⟩;refine apl ?_)|(refine acl Tryz.func183 ?_;refine acr (z7z _ w2 (some (b.drop (b.length - 4)))) ?_;rintro v' H' ⟨rfl,rfl⟩;refine apl ?_)|((with_reducible apply z0k [(bz,.cells [v'].toArray 26 (0,0))]);(exact atks);intro r' hl';refine acl Tryz.func80 ?_;refine acr (z80 _ bz v' (b.take (b.length - 4)) (Lent.h1 hl') (hv'.mono hl'.1)) ?_;rintro v' H' ⟨rfl,rfl⟩;all_goals refine apm ?_)|(first|((with_reducible apply z0t);exact ty_el;exact z03;rfl;rfl;rfl;intro bz;(refine apk ?_))|((with_reducible apply z0y);exact ty_el;exact z03;rfl;rfl;rfl;intro bz;(refine apk ?_)))|exact xf|refine aw0 ?_|(refine ap2 ?_ ?_<;>try intro h)|refine aw1 ?_|(refine abx ?_;intro bb)|(refine abz ?_;intro bz)|(refine ahv ?_;intro v' hv')|(refine aac ?_;intro ac cc)|refine aw2 ?_|(refine ap4 ?_ ?_<;>try intro h)|apply True.intro)
       all_goals exact ⟨⟨_,atks⟩,rfl,rfl,rfl,rfl,rfl,by rw [hokf];rfl⟩
   · rintro t H' ⟨⟨G,hp⟩,hlen,e0,e2,e3,e4,e38⟩
     revert e0 e2 e3 e4 e38;revert t;refine z0s (n:=64) ?_;intro u0 u1 u2 u3 u4 u5 u6 u7 u8 u9 u10 u11 u12 u13 u14 u15 u16 u17 u18 u19 u20 u21 u22 u23 u24 u25 u26 u27 u28 u29 u30 u31 u32 u33 u34 u35 u36 u37 u38 u39 u40 u41 u42 u43 u44 u45 u46 u47 u48 u49 u50 u51 u52 u53 u54 u55 u56 u57 u58 u59 u60 u61 u62 u63 e0 e2 e3 e4 e38;cases e0;cases e2;cases e3;cases e4;cases e38
     refine z01 hp ?_
     clear hp
     cases hok:okF b
     · have hpn:partsF b=none:=by unfold partsF;rw [hok];rfl
       rw [hpn] at HR
       repeat' (first|fail|refine aw0 ?_|(refine ap2 ?_ ?_<;>try intro h)|refine aw1 ?_|(refine abx ?_;intro bb)|(refine abz ?_;intro bz)|(refine ahv ?_;intro v' hv')|(refine aac ?_;intro ac cc)|refine aw2 ?_|(refine ap4 ?_ ?_<;>try intro h)|apply True.intro)
       ((with_reducible apply z00);exact res_cc rfl rfl rfl z0a z0a (by (exact ard)) (by (exact ard)))
       exact HR.out _ _ _ [] atks ⟨rfl,rfl⟩
     · have hmid:U8S r (cutV v 4 (b.length - 4) 1) (midF b):=by
        have h:=zhk (i:=4) (j:=b.length - 4) hv (by omega) (by omega)
        rw [show b.length - 4 - 4=b.length - 8 by omega] at h
        exact h
       have hml:(midF b).length<=100000000:=by unfold midF;rw [List.length_take,List.length_drop];omega
       have hpf:partsF b=if (pX (midF b)).all (·.2) then some ((pX (midF b)).map (·.1)) else none:=by unfold partsF;rw [hok];rfl
       have hcv:cutV v (Int.toNat 4) ((b.length:Int) - 4).toNat 1=cutV v 4 (b.length - 4) 1:=by congr 1;omega
       generalize cutV v 4 (b.length - 4) 1=V at hmid hcv
       generalize midF b=M at hmid hpf hml
       have hV1:=hmid.one
       repeat' (first|((with_reducible apply zj8);rfl;(exact qwt);(with_reducible apply zj9);exact ty_el;exact z08;rfl;exact (hv.mono hl'.1);(exact qbd);(omega);(refine apk ?_))|(rw [hcv])|((with_reducible apply z02 (id:=4) 11 [(0,true),(1,true),(2,true),(3,true),(5,true),(6,true),(7,true),(8,true),(4,false),(9,true),(10,false)] [(11,false)] []);kernel_rfl;(exact atks);kernel_rfl;intro r' hl')|(refine acl Tryz.func182 ?_;refine acr (z39 _ V M (hmid.mono hl'.1) (by omega)) ?_;rintro v' H' ⟨w3,rfl,rfl⟩;refine apl ?_)|((with_reducible apply z2w);rfl;(exact qcl);intro bp;(refine apk ?_))|(refine acl Tryz.func184 ?_;refine acr (zrk _ bp) ?_;rintro v' H' ⟨bf,rfl,rfl⟩;refine apl ?_)|refine aw0 ?_|(refine ap2 ?_ ?_<;>try intro h)|refine aw1 ?_|(refine abx ?_;intro bb)|(refine abz ?_;intro bz)|(refine ahv ?_;intro v' hv')|(refine aac ?_;intro ac cc)|refine aw2 ?_|(refine ap4 ?_ ?_<;>try intro h)|apply True.intro)
       refine z0f (A:=RowC 50 2 (.slice none 0 0) 0 []) (RowC.nil _ _) ?_
       refine z0f (A:=ByC []) rfl ?_
       refine zaf rfl (z2h Tryz.func212 (by kernel_rfl) rfl) (zrj r bp bf w3 V M M hmid hml ⟨0,rfl⟩) atks (fun x args C ⟨a,c,h,_⟩=>by rw [h];rfl)
        (fun j H=>(∀ x∈(pX M).take j,x.2=true) /\ ∃ (Z:List PartV) (a:Option Addr) (c:Nat),Z.map pOf=((pX M).take j).map (·.1) /\ ∃ G,Takes [pt bo (.cells [.slice a Z.length c].toArray 46 (0,0)),pt be (.cells [.int .i64 0].toArray 27 (0,0)),RowC 50 2 (.slice a Z.length c) Z.length (Z.flatMap encPa),ByC (Z.map bytP)] H G)
        (fun cd j H=>cd = .exit 0/\(∃ x∈pX M,x.2=false) /\ ∃ y G,Takes [pt bo (.cells [y].toArray 46 (0,0)),pt be (.cells [.int .i64 9].toArray 27 (0,0))] H G) ?_ ?_ ?_ ?_
       · exact ⟨fun x hx=>by simp at hx,[],none,0,rfl,_,by (exact atks)⟩
       · rintro kk i hi args C H ⟨a1,c1,rfl,rfl⟩ ⟨hall,Z,a,c,hZ,G,hp⟩
         have hzl:=congrArg List.length hZ
         rw [List.length_map,List.length_map,List.length_take] at hzl
         obtain ⟨⟨⟨tg,d⟩,ok⟩,hx⟩ : ∃ x,(pX M)[i]=x:=⟨_,rfl⟩
         have hxm:(pX M)[i]∈pX M:=List.getElem_mem hi
         have htk:(pX M).take (i+1)=(pX M).take i++[((tg,d),ok)]:=by rw [List.take_succ_eq_append_getElem hi,hx]
         rw [hx] at hxm ⊢
         dsimp only
         have hp':=Takes.cons (Take.here (A:=U8R (.slice a1 d.length c1) d) (H:=H)) hp
         refine z01 hp' ?_
         clear hp hp'
         cases ok
         · refine sw_pars2 ?_
           (refine apk ?_)
           refine then2_mk ?_
           (refine apk ?_)
           repeat' (first|((with_reducible apply z0c (E:=50));exact z0l;(exact qcl);intro b6;(refine apk ?_))|refine aw0 ?_|(refine ap2 ?_ ?_<;>try intro h)|refine aw1 ?_|(refine abx ?_;intro bb)|(refine abz ?_;intro bz)|(refine ahv ?_;intro v' hv')|(refine aac ?_;intro ac cc)|refine aw2 ?_|(refine ap4 ?_ ?_<;>try intro h)|apply True.intro)
           exact ⟨rfl,⟨_,hxm,rfl⟩,_,_,by (exact atks)⟩
         · refine z0b (As:=[ByC (Z.map bytP),U8R (.slice a1 d.length c1) d]) (D:=ByC ((Z++[(⟨tg,.slice a1 d.length c1,d⟩:PartV)]).map bytP)) atks (fun h e=>by rw [List.map_append];exact z38 h e) ?_
           have hpl:(pX M).length<=M.length:=zq3 M
           refine sw_pars2 ?_
           (refine apk ?_)
           refine then2_mk ?_
           (refine apk ?_)
           repeat' (first|((with_reducible apply z0c (E:=50));exact z0l;(exact qcl);intro b6;(refine apk ?_))|(first|((with_reducible apply z0t);exact ty_el;exact z03;rfl;rfl;rfl;intro bz;(refine apk ?_))|((with_reducible apply z0y);exact ty_el;exact z03;rfl;rfl;rfl;intro bz;(refine apk ?_)))|((with_reducible refine z0u ?_);(with_reducible apply z0k [(bz,.cells [.int .u8 tg.toNat,.slice a1 d.length c1].toArray 50 (0,0))]);(exact atks);intro r' hl';(with_reducible apply z0v (news:=[.int .u8 tg.toNat,.slice a1 d.length c1]));exact ty_el;exact z03;rfl;rfl;rfl;rfl;exact (Sl.lit (n:=1) (Lent.h1 hl') rfl (by simp [maxLen]));(exact atk);rfl;(unfold maxLen;omega);(omega);intro a' c';refine apm ?_)|refine aw0 ?_|(refine ap2 ?_ ?_<;>try intro h)|refine aw1 ?_|(refine abx ?_;intro bb)|(refine abz ?_;intro bz)|(refine ahv ?_;intro v' hv')|(refine aac ?_;intro ac cc)|refine aw2 ?_|(refine ap4 ?_ ?_<;>try intro h)|apply True.intro)
           refine ⟨fun x hx2=>?_,Z++[⟨tg,.slice a1 d.length c1,d⟩],a',c',by rw [htk,List.map_append,List.map_append,hZ];rfl,?_⟩
           · rw [htk] at hx2
             rcases List.mem_append.1 hx2 with h|h
             · exact hall x h
             · obtain rfl:=List.mem_singleton.1 h;rfl
           · apply Exists.intro
             rw [List.length_append,List.length_singleton,List.flatMap_append,show [(⟨tg,.slice a1 d.length c1,d⟩:PartV)].flatMap encPa=[.int .u8 tg.toNat,.slice a1 d.length c1] from rfl]
             (exact atks)
       · rintro H ⟨hall,Z,a,c,hZ,G,hp⟩
         rw [List.take_length] at hall hZ
         rw [hpf,if_pos (List.all_eq_true.2 hall),← hZ] at HR
         refine z01 hp ?_
         clear hp
         refine z0b (As:=[RowC 50 2 (.slice a Z.length c) Z.length (Z.flatMap encPa),ByC (Z.map bytP)]) (D:=PrtC (.slice a (Z.map pOf).length c) (Z.map pOf)) atks (fun h e=>⟨Z,rfl,by rw [List.length_map];exact e⟩) ?_
         repeat' (first|fail|refine aw0 ?_|(refine ap2 ?_ ?_<;>try intro h)|refine aw1 ?_|(refine abx ?_;intro bb)|(refine abz ?_;intro bz)|(refine ahv ?_;intro v' hv')|(refine aac ?_;intro ac cc)|refine aw2 ?_|(refine ap4 ?_ ?_<;>try intro h)|apply True.intro)
         all_goals ((with_reducible apply z00);exact res_cc rfl rfl rfl z0a z0a (by (exact ard)) (by (exact ard)))
         all_goals exact HR.out _ _ _ [PrtC _ _] atks ⟨a,c,by rw [List.length_map],rfl⟩
       · rintro cd i H hi ⟨rfl,⟨x,hx,hxf⟩,y,G,hp⟩
         rw [hpf,if_neg (fun h=>by have:=List.all_eq_true.1 h x hx;rw [hxf] at this;cases this)] at HR
         refine z01 hp ?_
         clear hp
         repeat' (first|((with_reducible apply z02 (id:=12) 2 [(0,true),(1,false)] [(2,false)] [(be,.cells [.int .i64 9].toArray 27 (0,0))]);kernel_rfl;(exact atks);kernel_rfl;intro r' hl')|refine aw0 ?_|(refine ap2 ?_ ?_<;>try intro h)|refine aw1 ?_|(refine abx ?_;intro bb)|(refine abz ?_;intro bz)|(refine ahv ?_;intro v' hv')|(refine aac ?_;intro ac cc)|refine aw2 ?_|(refine ap4 ?_ ?_<;>try intro h)|apply True.intro)
         all_goals ((with_reducible apply z00);exact res_cc rfl rfl rfl z0a z0a (by (exact ard)) (by (exact ard)))
         all_goals exact HR.out _ _ _ [] atks ⟨rfl,rfl⟩
 · have hpn:partsF b=none:=by unfold partsF okF;rw [decide_eq_false h8];rfl
   rw [hpn] at HR
   refine ae Tryz.func122 Tryz.ntmps122 ?_
   repeat' (first|((with_reducible apply z0c (E:=46));exact z0l;(exact qcl);intro bo;(refine apk ?_))|((with_reducible apply z0c (E:=27));exact z0l;(exact qcl);intro be;(refine apk ?_))|(first|((with_reducible apply z1h (id:=2) 29 (Pl.seg [(0,true),(1,true),(2,true),(3,true),(4,true),(5,true),(6,true),(7,true),(11,true),(8,false),(9,false),(10,true),(12,true),(13,true),(14,true),(15,true),(16,true),(17,true),(18,true),(21,true),(22,true),(23,true),(24,true)] (Pl.two 19 25 (Pl.seg [] (Pl.two 20 25 (Pl.seg [(25,false),(26,false),(27,true),(28,true)] Pl.leaf) (Pl.seg [(20,false),(26,false),(27,true),(28,true)] Pl.leaf))) (Pl.seg [(19,false),(20,false),(26,false),(27,true),(28,true)] Pl.leaf))) (List.replicate 29 true++List.replicate 0 false).toArray [] []);kernel_rfl;(exact atks);kernel_rfl;intro r' hl')|((with_reducible apply z02 (id:=4) 11 [(0,true),(1,true),(2,true),(3,true),(5,true),(6,true),(7,true),(8,true),(4,false),(9,true),(10,false)] [(11,false)] []);kernel_rfl;(exact atks);kernel_rfl;intro r' hl')|((with_reducible apply z02 (id:=12) 2 [(0,true),(1,false)] [(2,false)] []);kernel_rfl;(exact atks);kernel_rfl;intro r' hl'))|exact xf|refine aw0 ?_|(refine ap2 ?_ ?_<;>try intro h)|refine aw1 ?_|(refine abx ?_;intro bb)|(refine abz ?_;intro bz)|(refine ahv ?_;intro v' hv')|(refine aac ?_;intro ac cc)|refine aw2 ?_|(refine ap4 ?_ ?_<;>try intro h)|apply True.intro)
   all_goals ((with_reducible apply z00);exact res_cc rfl rfl rfl z0a z0a (by (exact ard)) (by (exact ard)))
   all_goals exact HR.out _ _ _ [] atks ⟨rfl,rfl⟩
end Go.Proofs.YtohpeoakdgckfaaGreat
