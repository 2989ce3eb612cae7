/- query.Text: its contract. -/
import Derived.Test.YteknekiclhnkiaaGreatDoorUg
import Derived.Test.YteknekiclhnkiaaGreatDoorMp
set_option maxHeartbeats 8000000
set_option maxRecDepth 10000
namespace Go.Proofs.YteknekiclhnkiaaGreatDoor
open Go.RowKit Go.Maps Sx
def tellT (s:Tx):List Value:=[.string (bs s)]
def thingsT (q:QuV):List Tx:=q.grams.map gramT++q.subs.map fun s=>textQ s.key
def TextT (q:QuV):Prop := ∀ r:Hp,TabR r->QuR r q->Tri Tryz.prog r 40 [.agg (encQ q).toArray] [] fun w H=>w = .string (bs (textQ q.key))/\H=[]
abbrev qbox (b:Nat) (q:QuV):Ch:=pt b (.cells [.int .i64 q.kind,q.gv,q.sv].toArray 38 (0,0))
theorem gramT_take {g:Tx} {j:Nat} (h:j<g.length):gramT (g.take (j+1))=gramT (g.take j)++hex2 (g.getD j 0):=by
 rw [take_getD (d:=0) h]
 unfold gramT
 rw [List.flatMap_append];simp
theorem nil_u8:U8R (.slice none 0 0) [] emp:=RowC.nil _ _
theorem things_seq (r:Hp) (hT:TabR r) (B:Nat) (q:QuV) (hq:QuR r q) (hs:sizeQ q.key<=9000000) (ih : ∀ s∈q.subs,TextT s):Seq Tryz.prog r 115 [.pointer (some ⟨B,0,none⟩)] tellT (thingsT q) [qbox B q] []:=by
 intro k J Jx hy
 obtain ⟨X,hX⟩ : ∃ X,thingsT q=X:=⟨_,rfl⟩
 rw [hX] at hy ⊢
 refine Tri.free2 fun R HR=>?_
 obtain ⟨h1,h2,h3⟩:=quR_iff.1 hq
 have hl1:=maxI h1.2.2.1
 have hl2:=maxI h2.2.2.1
 have hsz:=size_parts q.key
 rw [key_grams,key_subs] at hsz
 have hXl:X.length=q.grams.length+q.subs.length:=by rw [← hX];unfold thingsT;rw [List.length_append,List.length_map,List.length_map]
 refine ae Tryz.func115 Tryz.ntmps115 ?_
 repeat' (first|exact xf|refine aw0 ?_|(refine ap2 ?_ ?_<;>try intro h)|refine aw1 ?_|(refine abx ?_;intro bb)|(refine abz ?_;intro bz)|(refine ahv ?_;intro v' hv')|(refine aac ?_;intro ac cc)|refine aw2 ?_|(refine ap4 ?_ ?_<;>try intro h)|apply True.intro)
 refine sw_loop (fun gm t H' => ∃ (m:Nat),gm=q.grams.length+1 - m/\(m<=q.grams.length)/\(∃ G,Takes [qbox B q,J m] H' G)/\Sls t 49 [(0,.func (.yield k) #[] #[]),(1,.pointer (some ⟨B,0,none⟩)),(11,q.gv),(12,.int .i64 q.grams.length),(13,.int .i64 m)]) _ ⟨0,rfl,Nat.zero_le _,⟨_,atks⟩,asls⟩ ?_
 rintro gm t H' ⟨m,rfl,hm,⟨G,hp⟩,hs'⟩
 revert t;refine sls_all ?_;iterate 44 intro uu'
 refine sw_takeG hp ?_;clear hp
 by_cases hlt:m<q.grams.length
 · obtain ⟨g,hg⟩ : ∃ g,q.grams.getD m default=g:=⟨_,rfl⟩
   have hgm:g∈q.grams:=hg ▸ getD_memU hlt
   have hgl:=sizeT_mem hgm
   have hXm : ∃ h:m<X.length,X[m]=gramT g:=⟨by omega,by
    have h4:X[m]?=some (gramT g):=by
     rw [← hX]
     unfold thingsT
     rw [List.getElem?_append_left (by rw [List.length_map];exact hlt),List.getElem?_map,List.getElem?_eq_getElem hlt,← hg,List.getD_eq_getElem?_getD,List.getElem?_eq_getElem hlt];rfl
    exact (List.getElem?_eq_some_iff.1 h4).2⟩
   obtain ⟨hmx,hXm⟩:=hXm
   have hyp:=hy m hmx
   rw [hXm,show tellT (gramT g)=[.string (bs (gramT g))] from rfl] at hyp
   have hgml:g.length<=maxLen:=by unfold maxLen;omega
   repeat' (first|(rw [hg])|((with_reducible apply kx_alloc (E:=163));exact ty_zero;(exact qcl);intro b5;(refine apk ?_))|exact xf|refine aw0 ?_|(refine ap2 ?_ ?_<;>try intro h)|refine aw1 ?_|(refine abx ?_;intro bb)|(refine abz ?_;intro bz)|(refine ahv ?_;intro v' hv')|(refine aac ?_;intro ac cc)|refine aw2 ?_|(refine ap4 ?_ ?_<;>try intro h)|apply True.intro)
   refine sw_put (A:=U8R (.slice none 0 0) []) nil_u8 ?_
   refine sw_lendQ (A:=RdC (.slice ac g.length cc) g) atk fun r2 g2 hr2 hg2 hA2=>?_
   have hgr:U8S r2 (.slice ac g.length cc) g:=Sl.mono hA2 hg2
   refine sw_loop (fun gm t H' => ∃ (j:Nat) (p a:Option Addr) (c':Nat),gm=g.length+1 - j/\(j<=g.length)/\(p=none\/p=some ⟨b5,0,none⟩)/\(j=0->a=none/\c'=0)/\(∃ G,Takes [qbox B q,J m,bldC b5 p (.slice a (gramT (g.take j)).length c'),U8R (.slice a (gramT (g.take j)).length c') (gramT (g.take j))] H' G)/\Sls t 49 [(0,.func (.yield k) #[] #[]),(1,.pointer (some ⟨B,0,none⟩)),(5,.pointer (some ⟨b5,0,none⟩)),(11,q.gv),(12,.int .i64 q.grams.length),(13,.int .i64 m),(18,.slice ac g.length cc),(19,.int .i64 g.length),(20,.int .i64 j)]) _ ⟨0,none,none,0,rfl,Nat.zero_le _,.inl rfl,fun _=>⟨rfl,rfl⟩,⟨_,atks⟩,asls⟩ ?_
   rintro gm t H' ⟨j,p,a,c',rfl,hj,hp1,hj0,⟨G,hp⟩,hs'⟩
   revert t;refine sls_all ?_;iterate 40 intro uu'
   refine sw_takeG hp ?_;clear hp
   by_cases hlt2:j<g.length
   · obtain ⟨c,hc⟩ : ∃ c,g.getD j 0=c:=⟨_,rfl⟩
     have hct:=c.toNat_lt
     have hgt:=gramT_take hlt2
     rw [hc] at hgt
     have htl:(gramT (g.take j)).length<=2*g.length:=by rw [gramT_len,List.length_take];omega
     have hf:=fmt_any r2 (hT.mono hr2) c
     have hx2:(hex2 c).length=2:=rfl
     have hx3:(49::hex2 c).length=3:=rfl
     have hsl:(List.drop (Int.toNat 1) (49::hex2 c)).take (((49::hex2 c).length:Int).toNat - Int.toNat 1)=hex2 c:=rfl
     have hw:=wstrU_any r2 b5 c' p a (hex2 c) (gramT (g.take j)) hp1 (by omega)
     repeat' (first|(rw [hc])|(rw [hsl])|(refine acl Tryz.func117 ?_;refine acr (hf) ?_;rintro v' H' ⟨rfl,rfl⟩;refine apl ?_)|(refine acl Tryz.func116 ?_;refine acr (hw) ?_;rintro v' H' ⟨a3,c3,rfl⟩;refine apl ?_)|exact xf|refine aw0 ?_|(refine ap2 ?_ ?_<;>try intro h)|refine aw1 ?_|(refine abx ?_;intro bb)|(refine abz ?_;intro bz)|(refine ahv ?_;intro v' hv')|(refine aac ?_;intro ac cc)|refine aw2 ?_|(refine ap4 ?_ ?_<;>try intro h)|apply True.intro)
     exact ⟨_,by omega,j+1,some ⟨b5,0,none⟩,a3,c3,rfl,by omega,.inr rfl,fun h=>(by omega),⟨_,by rw [hgt];exact atks⟩,asls⟩
   · obtain rfl:j=g.length:=by omega
     rw [List.take_length]
     by_cases hg0:g=[]
     · obtain ⟨rfl,rfl⟩:=hj0 (by rw [hg0];rfl)
       subst hg0
       have hst:=bstr0_any r b5 p
       repeat' (first|(refine acl Tryz.func118 ?_;refine acr (hst) ?_;rintro v' H' ⟨rfl,rfl⟩;refine apl ?_)|((with_reducible apply kx_yield);rfl;exact (hyp);rfl;(exact atk);all_goals (refine apk ?_))|exact xf|refine aw0 ?_|(refine ap2 ?_ ?_<;>try intro h)|refine aw1 ?_|(refine abx ?_;intro bb)|(refine abz ?_;intro bz)|(refine ahv ?_;intro v' hv')|(refine aac ?_;intro ac cc)|refine aw2 ?_|(refine ap4 ?_ ?_<;>try intro h)|apply True.intro)
       · exact ⟨_,by omega,m+1,rfl,by omega,⟨_,atks⟩,asls⟩
       · ((with_reducible apply fp_ret);exact res_0 rfl)
         exact HR.out _ _ _ [Jx (m+1)] atks (.inr ⟨m,[],hmx,rfl⟩)
     · have hgp:0<g.length:=List.length_pos_iff.2 hg0
       have hgq:=gramT_len g
       have hst:=bstr_any r b5 c' p a (gramT g) (fun e=>by rw [e] at hgq;simp at hgq;omega) (by omega)
       repeat' (first|(refine acl Tryz.func118 ?_;refine acr (hst) ?_;rintro v' H' ⟨rfl,rfl⟩;refine apl ?_)|((with_reducible apply kx_yield);rfl;exact (hyp);rfl;(exact atk);all_goals (refine apk ?_))|exact xf|refine aw0 ?_|(refine ap2 ?_ ?_<;>try intro h)|refine aw1 ?_|(refine abx ?_;intro bb)|(refine abz ?_;intro bz)|(refine ahv ?_;intro v' hv')|(refine aac ?_;intro ac cc)|refine aw2 ?_|(refine ap4 ?_ ?_<;>try intro h)|apply True.intro)
       · exact ⟨_,by omega,m+1,rfl,by omega,⟨_,atks⟩,asls⟩
       · ((with_reducible apply fp_ret);exact res_0 rfl)
         exact HR.out _ _ _ [Jx (m+1)] atks (.inr ⟨m,[],hmx,rfl⟩)
 · obtain rfl:m=q.grams.length:=by omega
   repeat' (first|exact xf|refine aw0 ?_|(refine ap2 ?_ ?_<;>try intro h)|refine aw1 ?_|(refine abx ?_;intro bb)|(refine abz ?_;intro bz)|(refine ahv ?_;intro v' hv')|(refine aac ?_;intro ac cc)|refine aw2 ?_|(refine ap4 ?_ ?_<;>try intro h)|apply True.intro)
   refine sw_loop (fun gm t H' => ∃ (m:Nat),gm=q.subs.length+1 - m/\(m<=q.subs.length)/\(∃ G,Takes [qbox B q,J (q.grams.length+m)] H' G)/\Sls t 49 [(0,.func (.yield k) #[] #[]),(37,q.sv),(38,.int .i64 q.subs.length),(39,.int .i64 m)]) _ ⟨0,rfl,Nat.zero_le _,⟨_,atks⟩,asls⟩ ?_
   rintro gm t H' ⟨m,rfl,hm,⟨G,hp⟩,hs'⟩
   revert t;refine sls_all ?_;iterate 45 intro uu'
   refine sw_takeG hp ?_;clear hp
   by_cases hlt:m<q.subs.length
   · obtain ⟨s,hg⟩ : ∃ s,q.subs.getD m default=s:=⟨_,rfl⟩
     have hgm:s∈q.subs:=hg ▸ getD_memU hlt
     have hsr:=h3 s hgm
     have hse:encQ s=[.int .i64 s.kind,s.gv,s.sv]:=rfl
     have hsg:=(quR_iff.1 hsr).1
     have hsq:=(quR_iff.1 hsr).2.1
     have htx:=ih s hgm r hT hsr
     rw [hse] at htx
     have hXm : ∃ h:q.grams.length+m<X.length,X[q.grams.length+m]=textQ s.key:=⟨by omega,by
      have h4:X[q.grams.length+m]?=some (textQ s.key):=by
       rw [← hX]
       unfold thingsT
       rw [List.getElem?_append_right (by rw [List.length_map];omega),List.length_map,Nat.add_sub_cancel_left,List.getElem?_map,List.getElem?_eq_getElem hlt,← hg,List.getD_eq_getElem?_getD,List.getElem?_eq_getElem hlt];rfl
      exact (List.getElem?_eq_some_iff.1 h4).2⟩
     obtain ⟨hmx,hXm⟩:=hXm
     have hyp:=hy _ hmx
     rw [hXm,show tellT (textQ s.key)=[.string (bs (textQ s.key))] from rfl] at hyp
     repeat' (first|(rw [hg])|(rw [hse])|((with_reducible apply kx_alloc (E:=38));exact ty_zero;(exact qcl);intro b9;(refine apk ?_))|(refine acl Tryz.func40 ?_;refine acr (htx) ?_;rintro v' H' ⟨rfl,rfl⟩;refine apl ?_)|((with_reducible apply kx_yield);rfl;exact (hyp);rfl;(exact atk);all_goals (refine apk ?_))|exact xf|refine aw0 ?_|(refine ap2 ?_ ?_<;>try intro h)|refine aw1 ?_|(refine abx ?_;intro bb)|(refine abz ?_;intro bz)|(refine ahv ?_;intro v' hv')|(refine aac ?_;intro ac cc)|refine aw2 ?_|(refine ap4 ?_ ?_<;>try intro h)|apply True.intro)
     · exact ⟨_,by omega,m+1,rfl,by omega,⟨_,atks⟩,asls⟩
     · ((with_reducible apply fp_ret);exact res_0 rfl)
       exact HR.out _ _ _ [Jx (q.grams.length+m+1)] atks (.inr ⟨q.grams.length+m,[],hmx,rfl⟩)
   · obtain rfl:m=q.subs.length:=by omega
     rw [← hXl]
     repeat' (first|exact xf|refine aw0 ?_|(refine ap2 ?_ ?_<;>try intro h)|refine aw1 ?_|(refine abx ?_;intro bb)|(refine abz ?_;intro bz)|(refine ahv ?_;intro v' hv')|(refine aac ?_;intro ac cc)|refine aw2 ?_|(refine ap4 ?_ ?_<;>try intro h)|apply True.intro)
     ((with_reducible apply fp_end);exact res_0 rfl)
     exact HR.out _ _ _ [J X.length] atks (.inl rfl)
theorem thingsF_any (r:Hp) (q:QuV):Tri Tryz.prog r 73 [.agg (encQ q).toArray] [] fun w H => ∃ B,w = .func (.func 115) #[] #[.pointer (some ⟨B,0,none⟩)]/\H=[qbox B q]:=by
 refine Tri.free2 fun R HR=>?_
 show Tri _ _ _ [.agg [.int .i64 q.kind,q.gv,q.sv].toArray] _ _
 refine ae Tryz.func73 Tryz.ntmps73 ?_
 repeat' (first|((with_reducible apply kx_box);rfl;(exact qcl);intro b1;(refine apk ?_))|exact xf|refine aw0 ?_|(refine ap2 ?_ ?_<;>try intro h)|refine aw1 ?_|(refine abx ?_;intro bb)|(refine abz ?_;intro bz)|(refine ahv ?_;intro v' hv')|(refine aac ?_;intro ac cc)|refine aw2 ?_|(refine ap4 ?_ ?_<;>try intro h)|apply True.intro)
 ((with_reducible apply fp_ret);exact res_1 rfl rfl)
 exact HR.out _ _ _ [_] atks ⟨b1,rfl,rfl⟩
end Go.Proofs.YteknekiclhnkiaaGreatDoor
namespace Go.Proofs.YteknekiclhnkiaaGreatDoor
open Go.RowKit Go.Maps Go.MapKept
open Go.WideElems (Fit rg)
open Go.ChangeMaps (setBlock)
namespace Sx
section
variable {P : Program} {l : Option Nat} {r : Hp} {K : St} {t : List Value} {H : List Ch} {d : Option Tmp} {ty : TypeId} {pos : String} {af : Array Edge} {gd : Option (Nat × Bool)}
theorem kx_mins {T kt et:TypeId} {x y u:Operand} {b n:Nat} {M:Lit->Option Value} {kv v:Value} {kl:Lit} {H1:List Ch} (hT:mapB P T=some (kt,et)) (hK:Keyed P kt)
 (hx:evO t x=some (.map (some b))) (hy:evO t y=some kv) (hu:evO t u=some v) (hkl:keyOf P kt kv=some kl) (ht:Take (MapC P kt b n M) H H1) (hn:n<maxLen)
 (hk:K (putL t d undef) (MapC P kt b (n+1) (upd M kl v)::H1)):SWo P l r ⟨d,.insert T x y u,ty,pos,af,gd⟩ K t H :=
 swo_run0 (by intro c hc;cases hc) fun w g ds ok al=>by
  obtain ⟨g1,g2,dd,rfl,hM,al'⟩:=ht.all al
  obtain ⟨es,clock,rfl,F,hs,hr⟩:=hM
  have hb:w.heap[b]?=some (.map es clock):=ok.emb.left b _ one_same
  have e1:evalL t x = .map (some b):=ev_of hx
  have e2:evalL t y=kv:=ev_of hy
  have e3:evalL t u=v:=ev_of hu
  obtain ⟨es',clock',hrun,F',hput,_⟩:=fit_store (R':=rdV) hK (mapB_s hT) hb F (Nat.lt_of_le_of_lt hs hn) (fun _ _ _ _ hz=>hz) hkl (rfl:rdV v=some _)
  obtain ⟨d',to⟩:=map_to (o':= .map es' clock') dd ok
  refine ⟨_,_,_,by simp [execOp,e1,e2,e3,hrun,Result.andThen],hk,⟨_,_,d',rfl,⟨es',clock',rfl,F',?_,?_⟩,al'⟩,to⟩
  · have e1:es'.size=((es'.toList.map (rg P kt rdV)).foldr DataW.insert []).length:=by rw [length_sorted];simp
    rw [e1,hput]
    unfold Go.ChangeMaps.putKey
    rw [length_insert]
    have e2:=List.length_filter_le (Go.ChangeMaps.notKey kl) ((es.toList.map (rg P kt rdV)).foldr DataW.insert [])
    rw [length_sorted] at e2
    simp at e2
    omega
  · have h1:=hr.put (v:=v) ⟨_,rfl⟩ (hK.key hkl)
    unfold datE at h1 ⊢
    rw [hput]
    exact h1
theorem kx_mgetS {T kt et:TypeId} {x y:Operand} {b n:Nat} {M:Lit->Option Value} {kv z v:Value} {kl:Lit} {H1:List Ch} (hT:mapB P T=some (kt,et)) (hK:Keyed P kt) (hz:zeroB P et=some z)
 (hx:evO t x=some (.map (some b))) (hy:evO t y=some kv) (hkl:keyOf P kt kv=some kl) (ht:Take (MapC P kt b n M) H H1) (hv:M kl=some v)
 (hk:K (putL t d (.tuple #[v,.bool true])) H):SWo P l r ⟨d,.lookup T x y true,ty,pos,af,gd⟩ K t H :=
 kx_mget hT hK hz hx hy hkl ht (by rw [if_pos rfl,hv];exact hk)
theorem kx_mgetN {T kt et:TypeId} {x y:Operand} {b n:Nat} {M:Lit->Option Value} {kv z:Value} {kl:Lit} {H1:List Ch} (hT:mapB P T=some (kt,et)) (hK:Keyed P kt) (hz:zeroB P et=some z)
 (hx:evO t x=some (.map (some b))) (hy:evO t y=some kv) (hkl:keyOf P kt kv=some kl) (ht:Take (MapC P kt b n M) H H1) (hv:M kl=none)
 (hk:K (putL t d (.tuple #[z,.bool false])) H):SWo P l r ⟨d,.lookup T x y true,ty,pos,af,gd⟩ K t H :=
 kx_mget hT hK hz hx hy hkl ht (by rw [if_pos rfl,hv];exact hk)
end
end Sx
open Sx
def joinsM:Lit->Option Value:=upd (upd (upd (upd (fun _=>none) (.int .i64 1) (.string (bs [43]))) (.int .i64 2) (.string (bs [45]))) (.int .i64 3) (.string (bs [38]))) (.int .i64 4) (.string (bs [124]))
theorem joinsM_get (k:Int):joinsM (.int .i64 k)=if k=1 then some (.string (bs [43])) else if k=2 then some (.string (bs [45])) else if k=3 then some (.string (bs [38])) else if k=4 then some (.string (bs [124])) else none:=by
 have hne : ∀ a b:Int,a≠b->(Lit.int .i64 a)≠(Lit.int .i64 b):=fun a b h e=>h (by injection e)
 unfold joinsM
 by_cases h1:k=1
 · subst h1;have hs:=fun (M:Lit->Option Value) v=>upd_same (M:=M) (k:=Lit.int .i64 1) (v:=v) trivial;rw [upd_other (hne _ _ (by omega)),upd_other (hne _ _ (by omega)),upd_other (hne _ _ (by omega)),hs];rfl
 by_cases h2:k=2
 · subst h2;have hs:=fun (M:Lit->Option Value) v=>upd_same (M:=M) (k:=Lit.int .i64 2) (v:=v) trivial;rw [upd_other (hne _ _ (by omega)),upd_other (hne _ _ (by omega)),hs];rfl
 by_cases h3:k=3
 · subst h3;have hs:=fun (M:Lit->Option Value) v=>upd_same (M:=M) (k:=Lit.int .i64 3) (v:=v) trivial;rw [upd_other (hne _ _ (by omega)),hs];rfl
 by_cases h4:k=4
 · subst h4;have hs:=fun (M:Lit->Option Value) v=>upd_same (M:=M) (k:=Lit.int .i64 4) (v:=v) trivial;rw [hs];rfl
 rw [upd_other (hne _ _ h4),upd_other (hne _ _ h3),upd_other (hne _ _ h2),upd_other (hne _ _ h1),if_neg h1,if_neg h2,if_neg h3,if_neg h4]
theorem textQ_v (q:QuV):textQ q.key=if q.kind=1 then [43] else if q.kind=2 then [45] else if q.kind=3 then 40::(joinB 38 (thingsT q)++[41]) else if q.kind=4 then 40::(joinB 124 (thingsT q)++[41]) else [63]:=by
 obtain ⟨k,gv,gs,sv,ss⟩:=q
 rw [key_mk]
 unfold textQ thingsT
 rw [textL_map,List.map_map];rfl
theorem things_len (q:QuV):lensT (thingsT q)+(thingsT q).length<=4*sizeQ q.key:=by
 have hs : ∀ l:List QuV,((l.map fun s=>textQ s.key).flatMap fun t=>0::t).length<=4*sizeQs (l.map QuV.key):=fun l=>by
  induction l with
  | nil=>simp
  | cons x l ih =>
   have h1:=textQ_len x.key
   simp only [List.map_cons,List.flatMap_cons,List.length_append,List.length_cons,sizeQs];omega
 have h1:=hs q.subs
 have h2:=gramsT_len q.grams
 have h3:=size_parts q.key
 rw [key_grams,key_subs] at h3
 rw [← flat_sep 0 (thingsT q)]
 unfold thingsT
 rw [List.flatMap_append,List.length_append]
 omega
theorem text_of (r:Hp) (hT:TabR r) (q:QuV) (hq:QuR r q) (hs:sizeQ q.key<=9000000) (ih : ∀ s∈q.subs,TextT s):Tri Tryz.prog r 40 [.agg (encQ q).toArray] [] fun w H=>w = .string (bs (textQ q.key))/\H=[]:=by
 have hk:=quR_kind hq
 unfold KindR at hk
 have hkey:keyOf Tryz.prog 35 (.int .i64 q.kind)=some (.int .i64 q.kind):=keyOf_int_mk Tryz.underlying35 (by simp [Lit.wf,IntKind.min,IntKind.max,IntKind.signed,IntKind.bits];omega)
 have hkn : ∀ k:Int,1<=k/\k<=4->keyOf Tryz.prog 35 (.int .i64 k)=some (.int .i64 k):=fun k h=>keyOf_int_mk Tryz.underlying35 (by simp [Lit.wf,IntKind.min,IntKind.max,IntKind.signed,IntKind.bits];omega)
 have hk1:=hkn 1 (by omega)
 have hk2:=hkn 2 (by omega)
 have hk3:=hkn 3 (by omega)
 have hk4:=hkn 4 (by omega)
 clear hkn
 have hget:=joinsM_get q.kind
 have htx:=textQ_v q
 have hlen:=things_len q
 refine Tri.free2 fun R HR=>?_
 show Tri _ _ _ [.agg [.int .i64 q.kind,q.gv,q.sv].toArray] _ _
 by_cases h1:q.kind=1
 · rw [if_pos h1] at hget htx
   rw [htx] at HR
   refine ae Tryz.func40 Tryz.ntmps40 ?_
   repeat' (first|((with_reducible apply kx_mmake 35);intro bm;(refine apk ?_))|((with_reducible apply kx_mins (kt:=35) (et:=9) (kv:= .int .i64 1));kernel_rfl;exact (int_keyed Tryz.underlying35);rfl;rfl;rfl;exact hk1;(exact atk);(unfold maxLen;omega);(refine apk ?_))|((with_reducible apply kx_mins (kt:=35) (et:=9) (kv:= .int .i64 2));kernel_rfl;exact (int_keyed Tryz.underlying35);rfl;rfl;rfl;exact hk2;(exact atk);(unfold maxLen;omega);(refine apk ?_))|((with_reducible apply kx_mins (kt:=35) (et:=9) (kv:= .int .i64 3));kernel_rfl;exact (int_keyed Tryz.underlying35);rfl;rfl;rfl;exact hk3;(exact atk);(unfold maxLen;omega);(refine apk ?_))|((with_reducible apply kx_mins (kt:=35) (et:=9) (kv:= .int .i64 4));kernel_rfl;exact (int_keyed Tryz.underlying35);rfl;rfl;rfl;exact hk4;(exact atk);(unfold maxLen;omega);(refine apk ?_))|((with_reducible apply kx_mgetS (kt:=35) (et:=9));kernel_rfl;exact (int_keyed Tryz.underlying35);exact ty_zero;rfl;rfl;exact hkey;(exact atk);exact hget;(refine apk ?_))|((with_reducible apply kx_mgetN (kt:=35) (et:=9));kernel_rfl;exact (int_keyed Tryz.underlying35);exact ty_zero;rfl;rfl;exact hkey;(exact atk);exact hget;(refine apk ?_))|((with_reducible apply kx_box);rfl;(exact qcl);intro b1;(refine apk ?_))|exact xf|refine aw0 ?_|(refine ap2 ?_ ?_<;>try intro h)|refine aw1 ?_|(refine abx ?_;intro bb)|(refine abz ?_;intro bz)|(refine ahv ?_;intro v' hv')|(refine aac ?_;intro ac cc)|refine aw2 ?_|(refine ap4 ?_ ?_<;>try intro h)|apply True.intro)
   ((with_reducible apply fp_ret);exact res_1 rfl rfl)
   exact HR.out _ _ _ [] Takes.all ⟨rfl,rfl⟩
 rw [if_neg h1] at hget htx
 by_cases h2:q.kind=2
 · rw [if_pos h2] at hget htx
   rw [htx] at HR
   refine ae Tryz.func40 Tryz.ntmps40 ?_
   repeat' (first|((with_reducible apply kx_mmake 35);intro bm;(refine apk ?_))|((with_reducible apply kx_mins (kt:=35) (et:=9) (kv:= .int .i64 1));kernel_rfl;exact (int_keyed Tryz.underlying35);rfl;rfl;rfl;exact hk1;(exact atk);(unfold maxLen;omega);(refine apk ?_))|((with_reducible apply kx_mins (kt:=35) (et:=9) (kv:= .int .i64 2));kernel_rfl;exact (int_keyed Tryz.underlying35);rfl;rfl;rfl;exact hk2;(exact atk);(unfold maxLen;omega);(refine apk ?_))|((with_reducible apply kx_mins (kt:=35) (et:=9) (kv:= .int .i64 3));kernel_rfl;exact (int_keyed Tryz.underlying35);rfl;rfl;rfl;exact hk3;(exact atk);(unfold maxLen;omega);(refine apk ?_))|((with_reducible apply kx_mins (kt:=35) (et:=9) (kv:= .int .i64 4));kernel_rfl;exact (int_keyed Tryz.underlying35);rfl;rfl;rfl;exact hk4;(exact atk);(unfold maxLen;omega);(refine apk ?_))|((with_reducible apply kx_mgetS (kt:=35) (et:=9));kernel_rfl;exact (int_keyed Tryz.underlying35);exact ty_zero;rfl;rfl;exact hkey;(exact atk);exact hget;(refine apk ?_))|((with_reducible apply kx_mgetN (kt:=35) (et:=9));kernel_rfl;exact (int_keyed Tryz.underlying35);exact ty_zero;rfl;rfl;exact hkey;(exact atk);exact hget;(refine apk ?_))|((with_reducible apply kx_box);rfl;(exact qcl);intro b1;(refine apk ?_))|exact xf|refine aw0 ?_|(refine ap2 ?_ ?_<;>try intro h)|refine aw1 ?_|(refine abx ?_;intro bb)|(refine abz ?_;intro bz)|(refine ahv ?_;intro v' hv')|(refine aac ?_;intro ac cc)|refine aw2 ?_|(refine ap4 ?_ ?_<;>try intro h)|apply True.intro)
   ((with_reducible apply fp_ret);exact res_1 rfl rfl)
   exact HR.out _ _ _ [] Takes.all ⟨rfl,rfl⟩
 rw [if_neg h2] at hget htx
 by_cases h34:q.kind=3\/q.kind=4
 · obtain ⟨c,hgc,htc⟩ : ∃ c:UInt8,joinsM (.int .i64 q.kind)=some (.string (bs [c]))/\textQ q.key=40::(joinB c (thingsT q)++[41]):=by
    rcases h34 with h|h
    · exact ⟨38,by rw [hget,if_pos h],by rw [htx,if_pos h]⟩
    · exact ⟨124,by rw [hget,if_neg (by omega),if_pos h],by rw [htx,if_neg (by omega),if_pos h]⟩
   clear hget htx
   have hget:=hgc
   rw [htc] at HR
   have hseq:=fun B=>things_seq r hT B q hq hs ih
   obtain ⟨X,hX⟩ : ∃ X,thingsT q=X:=⟨_,rfl⟩
   rw [hX] at HR hseq hlen
   have hth:=thingsF_any r q
   rw [show encQ q=[.int .i64 q.kind,q.gv,q.sv] from rfl] at hth
   have hjb:=joinB_len c X
   have hjs:=flat_sep 0 X
   clear hgc htc hX
   refine ae Tryz.func40 Tryz.ntmps40 ?_
   repeat' (first|((with_reducible apply kx_mmake 35);intro bm;(refine apk ?_))|((with_reducible apply kx_mins (kt:=35) (et:=9) (kv:= .int .i64 1));kernel_rfl;exact (int_keyed Tryz.underlying35);rfl;rfl;rfl;exact hk1;(exact atk);(unfold maxLen;omega);(refine apk ?_))|((with_reducible apply kx_mins (kt:=35) (et:=9) (kv:= .int .i64 2));kernel_rfl;exact (int_keyed Tryz.underlying35);rfl;rfl;rfl;exact hk2;(exact atk);(unfold maxLen;omega);(refine apk ?_))|((with_reducible apply kx_mins (kt:=35) (et:=9) (kv:= .int .i64 3));kernel_rfl;exact (int_keyed Tryz.underlying35);rfl;rfl;rfl;exact hk3;(exact atk);(unfold maxLen;omega);(refine apk ?_))|((with_reducible apply kx_mins (kt:=35) (et:=9) (kv:= .int .i64 4));kernel_rfl;exact (int_keyed Tryz.underlying35);rfl;rfl;rfl;exact hk4;(exact atk);(unfold maxLen;omega);(refine apk ?_))|((with_reducible apply kx_mgetS (kt:=35) (et:=9));kernel_rfl;exact (int_keyed Tryz.underlying35);exact ty_zero;rfl;rfl;exact hkey;(exact atk);exact hget;(refine apk ?_))|((with_reducible apply kx_mgetN (kt:=35) (et:=9));kernel_rfl;exact (int_keyed Tryz.underlying35);exact ty_zero;rfl;rfl;exact hkey;(exact atk);exact hget;(refine apk ?_))|((with_reducible apply kx_box);rfl;(exact qcl);intro b1;(refine apk ?_))|((with_reducible apply kx_alloc (E:=34));exact ty_zero;(exact qcl);intro b6;(refine apk ?_))|(refine acl Tryz.func73 ?_;refine acr (hth) ?_;rintro v' H' ⟨B,rfl,rfl⟩;refine apl ?_)|exact xf|refine aw0 ?_|(refine ap2 ?_ ?_<;>try intro h)|refine aw1 ?_|(refine abx ?_;intro bb)|(refine abz ?_;intro bz)|(refine ahv ?_;intro v' hv')|(refine aac ?_;intro ac cc)|refine aw2 ?_|(refine ap4 ?_ ?_<;>try intro h)|apply True.intro)
   refine sw_put (A:=RowC 9 1 (.slice none 0 0) 0 []) (RowC.nil _ _) ?_
   refine sw_range rfl (goesOf Tryz.func115 (by kernel_rfl) rfl) (hseq B) atks (fun _=>rfl)
    (fun j H => ∃ (a:Option Addr) (c':Nat),∃ G,Takes [pt b6 (.cells [.slice a (X.take j).length c'].toArray 34 (0,0)),RowC 9 1 (.slice a (X.take j).length c') (X.take j).length ((X.take j).flatMap encTx)] H G)
    (fun _ _ _=>False) ?_ ?_ ?_ (fun _ _ _ _ h=>h.elim)
   · exact ⟨none,0,_,by (exact atks)⟩
   · rintro kk i hi H ⟨a,c',G,hp⟩
     obtain ⟨s,hx⟩ : ∃ s,X[i]=s:=⟨_,rfl⟩
     have htk:X.take (i+1)=X.take i++[s]:=by rw [List.take_succ_eq_append_getElem hi,hx]
     have htl:(X.take i).length<=X.length:=by rw [List.length_take];omega
     rw [hx,show tellT s=[.string (bs s)] from rfl,pars1]
     refine sw_takeG hp ?_
     clear hp
     obtain ⟨Y,hY⟩ : ∃ Y,X.take i=Y:=⟨_,rfl⟩
     rw [hY] at htl htk ⊢
     clear hY
     (refine apk ?_)
     repeat' (first|(first|((with_reducible apply kx_append1);exact ty_el;exact ty_inf;rfl;rfl;rfl;(exact atk);(exact atk);rfl;omega;intro a' c';(refine apk ?_))|((with_reducible apply kx_appendN);exact ty_el;exact ty_inf;rfl;rfl;rfl;rfl;(exact atk);(exact atk);rfl;rfl;omega;intro a' c';(refine apk ?_)))|exact xf|refine aw0 ?_|(refine ap2 ?_ ?_<;>try intro h)|refine aw1 ?_|(refine abx ?_;intro bb)|(refine abz ?_;intro bz)|(refine ahv ?_;intro v' hv')|(refine aac ?_;intro ac cc)|refine aw2 ?_|(refine ap4 ?_ ?_<;>try intro h)|apply True.intro)
     refine ⟨a',c',?_⟩
     apply Exists.intro
     rw [htk,List.length_append,List.length_singleton,List.flatMap_append,show [s].flatMap encTx=[.string (bs s)] from rfl]
     (exact atks)
   · rintro H ⟨a,c',G,hp⟩
     rw [List.take_length] at hp
     refine sw_takeG hp ?_
     clear hp
     refine sw_lendQ (A:=RowC 9 1 (.slice a X.length c') X.length (X.flatMap encTx)) atk fun r2 g2 hr2 hg2 hA2=>?_
     have hj:=join_any r2 (.slice a X.length c') c X ⟨fun _=>rfl,hA2.sl hg2⟩ (by omega) (by omega)
     repeat' (first|(refine acl Tryz.func74 ?_;refine acr (hj) ?_;rintro v' H' ⟨rfl,rfl⟩;refine apl ?_)|((with_reducible apply swo_pur);(with_reducible apply pu_cat);rfl;rfl;(simp only [List.length_append,List.length_cons,List.length_nil];omega);(refine apk ?_))|exact xf|refine aw0 ?_|(refine ap2 ?_ ?_<;>try intro h)|refine aw1 ?_|(refine abx ?_;intro bb)|(refine abz ?_;intro bz)|(refine ahv ?_;intro v' hv')|(refine aac ?_;intro ac cc)|refine aw2 ?_|(refine ap4 ?_ ?_<;>try intro h)|apply True.intro)
     ((with_reducible apply fp_ret);exact res_1 rfl rfl)
     exact HR.out _ _ _ [] Takes.all ⟨rfl,rfl⟩
 · rw [if_neg (by omega),if_neg (by omega)] at hget htx
   rw [htx] at HR
   refine ae Tryz.func40 Tryz.ntmps40 ?_
   repeat' (first|((with_reducible apply kx_mmake 35);intro bm;(refine apk ?_))|((with_reducible apply kx_mins (kt:=35) (et:=9) (kv:= .int .i64 1));kernel_rfl;exact (int_keyed Tryz.underlying35);rfl;rfl;rfl;exact hk1;(exact atk);(unfold maxLen;omega);(refine apk ?_))|((with_reducible apply kx_mins (kt:=35) (et:=9) (kv:= .int .i64 2));kernel_rfl;exact (int_keyed Tryz.underlying35);rfl;rfl;rfl;exact hk2;(exact atk);(unfold maxLen;omega);(refine apk ?_))|((with_reducible apply kx_mins (kt:=35) (et:=9) (kv:= .int .i64 3));kernel_rfl;exact (int_keyed Tryz.underlying35);rfl;rfl;rfl;exact hk3;(exact atk);(unfold maxLen;omega);(refine apk ?_))|((with_reducible apply kx_mins (kt:=35) (et:=9) (kv:= .int .i64 4));kernel_rfl;exact (int_keyed Tryz.underlying35);rfl;rfl;rfl;exact hk4;(exact atk);(unfold maxLen;omega);(refine apk ?_))|((with_reducible apply kx_mgetS (kt:=35) (et:=9));kernel_rfl;exact (int_keyed Tryz.underlying35);exact ty_zero;rfl;rfl;exact hkey;(exact atk);exact hget;(refine apk ?_))|((with_reducible apply kx_mgetN (kt:=35) (et:=9));kernel_rfl;exact (int_keyed Tryz.underlying35);exact ty_zero;rfl;rfl;exact hkey;(exact atk);exact hget;(refine apk ?_))|((with_reducible apply kx_box);rfl;(exact qcl);intro b1;(refine apk ?_))|exact xf|refine aw0 ?_|(refine ap2 ?_ ?_<;>try intro h)|refine aw1 ?_|(refine abx ?_;intro bb)|(refine abz ?_;intro bz)|(refine ahv ?_;intro v' hv')|(refine aac ?_;intro ac cc)|refine aw2 ?_|(refine ap4 ?_ ?_<;>try intro h)|apply True.intro)
   ((with_reducible apply fp_ret);exact res_1 rfl rfl)
   exact HR.out _ _ _ [] Takes.all ⟨rfl,rfl⟩
theorem text_any : ∀ q:QuV,sizeQ q.key<=9000000->TextT q
 | .mk k gv gs sv ss=>fun h r hT hq=>text_of r hT _ hq h fun s _h=>text_any s (by
  have h1:sizeQ s.key<=sizeQs (ss.map QuV.key):=sizeQs_mem (List.mem_map_of_mem _h)
  rw [key_mk] at h
  simp only [sizeQ] at h
  omega)
termination_by q=>SizeOf.sizeOf q
decreasing_by
 have:=List.sizeOf_lt_of_mem _h
 simp only [QuV.mk.sizeOf_spec,QuV.subs] at *
 omega
end Go.Proofs.YteknekiclhnkiaaGreatDoor
