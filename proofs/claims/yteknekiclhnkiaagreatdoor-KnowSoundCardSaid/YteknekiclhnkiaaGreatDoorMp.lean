/- Maps as owned pieces: made, read, written. No program is named. -/
import Derived.Test.YteknekiclhnkiaaGreatDoorPu
import Derived.Maps.Own
import Derived.Sort.KeysCollected
namespace Go.Proofs.YteknekiclhnkiaaGreatDoor
open Go.RowKit
namespace Sx
open Go.Maps Go.MapKept
open Go.WideElems (Fit rg)
open Go.ChangeMaps (setBlock)
def rdV (v:Value):Option (DataW Value × List MemPlace):=some (.held v,[])
def datE (P:Program) (kt:TypeId) (es:Array MapEntry):DataW Value:= .map ((es.toList.map (rg P kt rdV)).foldr DataW.insert [])
def Reads (D:DataW Value) (M:Lit->Option Value):Prop := ∀ kl,WideAt.IsKeyLit kl->has D kl=(M kl).isSome /\ ∀ z,D.atKey kl z=match M kl with|some v=> .held v|none=>z
def upd (M:Lit->Option Value) (k:Lit) (v:Value):Lit->Option Value:=fun x=>if x.sameKey k then some v else M x
theorem upd_same {M:Lit->Option Value} {k:Lit} {v:Value} (hk:WideAt.IsKeyLit k):upd M k v k=some v:=by unfold upd;rw [WideAt.sameKey_self hk];rfl
theorem upd_other {M:Lit->Option Value} {k x:Lit} {v:Value} (h:x≠k):upd M k v x=M x:=by unfold upd;rw [sameKey_ne h];rfl
theorem Reads.put {D:DataW Value} {M:Lit->Option Value} {k:Lit} {v:Value} (h:Reads D M) (hD:IsMap D) (hk:WideAt.IsKeyLit k):Reads (D.put k (.held v)) (upd M k v):=fun x hx=>by
 by_cases e:x=k
 · subst e
   rw [upd_same hk]
   exact ⟨has_put_same hD hk _,fun z=>atKey_put_same hD hk _ _⟩
 · rw [upd_other e,has_put_other e]
   exact ⟨(h x hx).1,fun z=>by rw [atKey_put_other e];exact (h x hx).2 z⟩
def MapC (P:Program) (kt:TypeId) (b n:Nat) (M:Lit->Option Value):Ch:=fun h => ∃ es clock,h=one b (.map es clock)/\Fit P kt rdV es clock/\es.size<=n/\Reads (datE P kt es) M
def mapB (P:Program) (t:TypeId):Option (TypeId × TypeId):=match P.underlying t with|some (.map k e)=>some (k,e) | _=>none
theorem mapB_s {P:Program} {t kt et:TypeId} (h:mapB P t=some (kt,et)):P.underlying t=some (.map kt et):=by
 unfold mapB at h
 split at h
 · rename_i k e h';rw [h'];simp at h;rw [h.1,h.2]
 · cases h
section
variable {P : Program} {l : Option Nat} {r : Hp} {Q : Exit → St} {K : St} {t : List Value} {H : List Ch} {d : Option Tmp} {ty : TypeId} {pos : String} {af : Array Edge} {gd : Option (Nat × Bool)}
theorem kx_mmake {T:TypeId} (kt:TypeId) (hk : ∀ b,K (putL t d (.map (some b))) (MapC P kt b 0 (fun _=>none)::H)):SWo P l r ⟨d,.makeMap T none,ty,pos,af,gd⟩ K t H :=
 swo_run (by intro c hc;cases hc) fun w g ds ok al=>by
  obtain ⟨dd,to⟩:=alloc_to ok (.map #[] 0)
  refine ⟨_,_,_,_,by simp [execOp,Instr.makeMap,Result.andThen],hk w.heap.size,⟨_,_,dd,rfl,?_,al⟩,to⟩
  exact ⟨#[],0,rfl,⟨by simp,stamped_empty 0,by simp⟩,Nat.le_refl _,fun kl _=>⟨rfl,fun z=>rfl⟩⟩
theorem MapC.own {kt:TypeId} {b n:Nat} {M:Lit->Option Value} {g:Hp} {w:World} (h:MapC P kt b n M g) (e:Emb g w) : ∃ D,w.ownsMap P kt rdV b n D/\Reads D M:=by
 obtain ⟨es,clock,rfl,F,hs,hr⟩:=h
 exact ⟨_,⟨es,clock,e b _ one_same,F,hs,rfl⟩,hr⟩
theorem mget_run {T kt et:TypeId} {c:Bool} {x y:Operand} {b:Nat} {M:Lit->Option Value} {kv z:Value} {kl:Lit} {w:World} {es:Array MapEntry} {clock:Nat} (hT:mapB P T=some (kt,et)) (hK:Keyed P kt) (hz:zeroB P et=some z)
 (e1:evalL t x = .map (some b)) (e2:evalL t y=kv) (hkl:keyOf P kt kv=some kl) (hb:w.heap[b]?=some (.map es clock)) (F:Fit P kt rdV es clock) (hr:Reads (datE P kt es) M) :
 (execOp (evalL t) ⟨d,.lookup T x y c,ty,pos,af,gd⟩).run P w = .ok (.value (if c then .tuple #[(M kl).getD z,.bool (M kl).isSome] else (M kl).getD z)) w:=by
 have hr':=hr kl (hK.key hkl)
 simp only [execOp,Sem.run_bind,e1,e2]
 rcases fit_look c hK (mapB_s hT) (run_zeroValue hz w) hb F hkl with ⟨hrun,_,hat⟩ | ⟨e0,y,_,_,hrun,hv,hat,_⟩
 · have hn:M kl=none:=by
    have h2:=hat .nil
    have h4:=hr'.2 .nil
    cases hm:M kl with
    | none=>rfl
    | some u=>exfalso;rw [hm] at h4;unfold datE at h4;rw [h2] at h4;cases h4
   rw [hrun,hn]
   cases c<;>rfl
 · obtain rfl:y=(.held e0.val,[]):=by injection hv with e;exact e.symm
   have hn:M kl=some e0.val:=by
    have h1:=hat .nil
    have h3:=hr'.2 .nil
    unfold datE at h3
    rw [h1] at h3
    cases hm:M kl with
    | none=>rw [hm] at h3;cases h3
    | some u=>rw [hm] at h3;injection h3 with e;rw [e]
   rw [hrun,hn]
   cases c<;>rfl
theorem kx_mget {T kt et:TypeId} {c:Bool} {x y:Operand} {b n:Nat} {M:Lit->Option Value} {kv z:Value} {kl:Lit} {H1:List Ch} (hT:mapB P T=some (kt,et)) (hK:Keyed P kt) (hz:zeroB P et=some z)
 (hx:evO t x=some (.map (some b))) (hy:evO t y=some kv) (hkl:keyOf P kt kv=some kl) (ht:Take (MapC P kt b n M) H H1)
 (hk:K (putL t d (if c then .tuple #[(M kl).getD z,.bool (M kl).isSome] else (M kl).getD z)) H):SWo P l r ⟨d,.lookup T x y c,ty,pos,af,gd⟩ K t H :=
 swo_run (by intro c hc;cases hc) fun w g ds ok al=>by
  obtain ⟨g1,g2,dd,rfl,hM,al'⟩:=ht.all al
  obtain ⟨es,clock,rfl,F,hs,hr⟩:=hM
  exact ⟨_,w,_,_,mget_run hT hK hz (ev_of hx) (ev_of hy) hkl (ok.emb.left b _ one_same) F hr,hk,al,To.refl ok⟩
theorem map_to {ds:List Deferred} {w:World} {b c:Nat} {es:Array MapEntry} {o':Obj} {y:Hp} (d:dj (one b (.map es c)) y) (ok:Ok l r ds w (un (one b (.map es c)) y)) :
 dj (one b o') y/\To l r ds w (un (one b (.map es c)) y) ds (setBlock w b o') (un (one b o') y):=by
 have d':dj (one b o') y:=fun k=>by
  rcases d k with e|e
  · left;unfold one at *;split at e<;>simp_all
  · exact .inr e
 have hb:w.heap[b]?=some (.map es c):=ok.emb b _ (un_left one_same)
 refine ⟨d',To.step ok rfl rfl rfl (by simp [setBlock]) ?_ ?_ ?_⟩
 · intro k hk hn
   refine Go.ChangeMaps.heap_setBlock_other hb _ (fun e=>?_)
   subst e
   rw [un_left one_same] at hn;cases hn
 · intro k u hk
   by_cases e:k=b
   · subst e
     rw [un_left one_same] at hk
     rw [Go.ChangeMaps.heap_setBlock_same hb _];exact hk
   · have h1:y k=some u:=by
      have h2:one b o' k=none:=by unfold one;rw [if_neg e]
      rcases un_some hk with c|c
      · rw [h2] at c;cases c
      · exact c
     rw [Go.ChangeMaps.heap_setBlock_other hb _ e]
     exact ok.emb.right d k u h1
 · intro k hk
   left
   rcases un_ne.1 hk with c|c
   · rw [one_ne c];exact un_ne.2 (.inl (by rw [one_same];simp))
   · exact un_ne.2 (.inr c)
theorem kx_mput {T kt et:TypeId} {x y u:Operand} {b n:Nat} {M:Lit->Option Value} {kv v:Value} {kl:Lit} {H1:List Ch} (hT:mapB P T=some (kt,et)) (hK:Keyed P kt)
 (hx:evO t x=some (.map (some b))) (hy:evO t y=some kv) (hu:evO t u=some v) (hkl:keyOf P kt kv=some kl) (ht:Take (MapC P kt b n M) H H1) (hn:n<maxLen)
 (hk:K (putL t d undef) (MapC P kt b (n+1) (upd M kl v)::H1)):SWo P l r ⟨d,.mapUpdate T x y u,ty,pos,af,gd⟩ K t H :=
 swo_run0 (by intro c hc;cases hc) fun w g ds ok al=>by
  obtain ⟨g1,g2,dd,rfl,hM,al'⟩:=ht.all al
  obtain ⟨es,clock,rfl,F,hs,hr⟩:=hM
  have hb:w.heap[b]?=some (.map es clock):=ok.emb.left b _ one_same
  have e1:evalL t x = .map (some b):=ev_of hx
  have e2:evalL t y=kv:=ev_of hy
  have e3:evalL t u=v:=ev_of hu
  obtain ⟨es',clock',hrun,F',hput,_⟩:=fit_store (R':=rdV) hK (mapB_s hT) hb F (Nat.lt_of_le_of_lt hs hn) (fun _ _ _ _ hz=>hz) hkl (rfl:rdV v=some _)
  obtain ⟨d',to⟩:=map_to (o':= .map es' clock') dd ok
  refine ⟨_,_,_,by simp [execOp,e1,e2,e3,hrun,Result.andThen],hk,⟨_,_,d',rfl,⟨es',clock',rfl,F',?_,?_⟩,al'⟩,to⟩
  · have e1:es'.size=((es'.toList.map (rg P kt rdV)).foldr DataW.insert []).length:=by rw [length_sorted];simp
    rw [e1,hput]
    unfold Go.ChangeMaps.putKey
    rw [length_insert]
    have e2:=List.length_filter_le (Go.ChangeMaps.notKey kl) ((es.toList.map (rg P kt rdV)).foldr DataW.insert [])
    rw [length_sorted] at e2
    simp at e2
    omega
  · have h1:=hr.put (v:=v) ⟨_,rfl⟩ (hK.key hkl)
    unfold datE at h1 ⊢
    rw [hput]
    exact h1
theorem Reads.keys {D:DataW Value} {M:Lit->Option Value} {kt:TypeId} {b n:Nat} {w:World} (h:Reads D M) (ho:w.ownsMap P kt rdV b n D) (hs:P.underlying kt=some .string) {ks:List (List UInt8)} (hd:ks.Nodup) (hm : ∀ k,k∈ks↔(M (.string k)).isSome=true):ks.Perm (strKeys D):=by
 obtain ⟨es,hD,hpw,_⟩:=ho.entries (string_keyed hs)
 obtain ⟨es',hD',hko⟩:=ho.keysOf
 obtain rfl:es=es':=by rw [hD] at hD';simpa using hD'
 subst hD
 exact perm_strKeys hpw (fun p hp=>by obtain ⟨v,hv⟩:=hko p hp;obtain ⟨x,_,hx,_⟩:=Maps.keyOf_str hs hv;exact ⟨x,hx⟩) hd (fun x=>by rw [hm x,(h (.string x) trivial).1])
theorem tri_inplace {f:FuncId} {args:List Value} {E:TypeId} {b:Nat} {cur:Array Value} {R:Value->Array Value->Prop}
 (h : ∀ w,Emb r w->w.heap[b]?=some (.cells cur E (0,0))->Calls P f args.toArray w fun e w' => ∃ v cur',e = .returned v/\w'.heap[b]?=some (.cells cur' E (0,0))/\w.grownBy w' (some b)/\R v cur') :
 Tri P r f args [pt b (.cells cur E (0,0))] fun v H => ∃ cur',H=[pt b (.cells cur' E (0,0))]/\R v cur' :=
 tri_iff.2 fun w g ok al=>by
  obtain ⟨g1,g2,dd,rfl,h1,rfl⟩:=al
  obtain rfl:g1=one b (.cells cur E (0,0)):=h1
  rw [un_emp] at ok ⊢
  refine (h w ok.ro (ok.emb b _ one_same)).mono fun e w' ⟨v,cur',he,h2,hg,hR⟩=>?_
  refine ⟨_,_,one b (.cells cur' E (0,0)),he,⟨cur',rfl,hR⟩,⟨_,emp,dj_emp,un_emp.symm,rfl,rfl⟩,?_⟩
  refine To.step ok hg.os hg.tape hg.output hg.size (fun k hk hn=>hg.block k hk (fun e=>?_)) (fun k u hk=>by obtain ⟨rfl,rfl⟩:=one_some hk;exact h2) (fun k hk=> .inl (by rw [one_ne hk,one_same];simp))
  injection e with e;subst e;rw [one_same] at hn;cases hn
theorem tri_cv {P:Program} {r:Hp} {f:FuncId} {args:List Value} {H:List Ch} {R R':Rt} (h:Tri P r f args H R) (hr : ∀ v H1,R v H1 -> ∃ H2,R' v H2 /\ ∀ g,all H1 g->all H2 g):Tri P r f args H R' :=
 tri_iff.2 fun w g o a=>(tri_iff.1 h w g o a).mono fun e w' ⟨v,H1,h',he,hR,al,to⟩=>by
  obtain ⟨H2,h2,h3⟩:=hr v H1 hR
  exact ⟨v,H2,h',he,h2,h3 _ al,to⟩
theorem Tri.frz {P:Program} {r:Hp} {f:FuncId} {args:List Value} {A:Ch} {H:List Ch} {R:Rt} (h : ∀ r' g,sub r r'->sub g r'->A g->Tri P r' f args H R):Tri P r f args (A::H) R:=by
 rw [tri_iff]
 rintro w h' o ⟨g,k,d,rfl,hA,a⟩
 have dr:=dj_un.1 o.dj
 have hr:Sx.dj (un r g) k:=un_dj.2 ⟨dr.2,d⟩
 have ok':Ok none (un r g) [] w k:=⟨o.emb.right d,o.ro.un o.emb.left,hr,trivial,fun _ c=>by cases c⟩
 refine (tri_iff.1 (h (un r g) g (fun b u e=>un_left e) (fun b u e=>un_right dr.1 e) hA) w k ok' a).mono ?_
 rintro e w' ⟨v,H',h1,rfl,hR,al,to⟩
 exact ⟨v,H',h1,rfl,hR,al,⟨⟨to.ok.emb,fun b u e=>to.ok.ro b u (un_left e),(un_dj.1 to.ok.dj).1,trivial,fun _ c=>by cases c⟩,to.os,to.tape,to.output,to.size,fun b hb hn=>to.keep b hb (un_none.1 hn).2,fun b hb=>(to.dom b hb).imp_left fun c=>un_ne.2 (.inr c),to.grew⟩⟩
end
end Sx
end Go.Proofs.YteknekiclhnkiaaGreatDoor
namespace Go.Proofs.YteknekiclhnkiaaGreatDoor
open Go.RowKit
namespace Sx
open Go.Maps
section
variable {P : Program} {l : Option Nat} {r : Hp} {Q : Exit → St} {K : St} {t : List Value} {H H1 : List Ch} {d : Option Tmp} {ty : TypeId} {pos : String} {af : Array Edge} {gd : Option (Nat × Bool)}
theorem kx_mgetr {T kt et:TypeId} {c:Bool} {x y:Operand} {b n:Nat} {M:Lit->Option Value} {kv z:Value} {kl:Lit} {g:Hp} (hT:mapB P T=some (kt,et)) (hK:Keyed P kt) (hz:zeroB P et=some z)
 (hx:evO t x=some (.map (some b))) (hy:evO t y=some kv) (hkl:keyOf P kt kv=some kl) (hm:MapC P kt b n M g) (hs:sub g r)
 (hk:K (putL t d (if c then .tuple #[(M kl).getD z,.bool (M kl).isSome] else (M kl).getD z)) H):SWo P l r ⟨d,.lookup T x y c,ty,pos,af,gd⟩ K t H:=by
 intro w h ds ok al
 obtain ⟨es,clock,rfl,F,hsz,hr⟩:=hm
 have hb:w.heap[b]?=some (.map es clock):=ok.ro b _ (hs b _ one_same)
 refine swo_run (K:=K) (by intro c hc;cases hc) (fun w g ds ok al=>?_) w h ds ok al
 have hb:w.heap[b]?=some (.map es clock):=ok.ro b _ (hs b _ one_same)
 exact ⟨_,w,_,_,mget_run hT hK hz (ev_of hx) (ev_of hy) hkl hb F hr,hk,al,To.refl ok⟩
theorem keyOf_bs {kt:TypeId} (hk:P.underlying kt=some .string) {g:List UInt8} (hg:g.length<=maxLen):keyOf P kt (.string (bs g))=some (.string g):=by
 have e1:(bs g).size<=maxLen:=by rw [bs_size];exact hg
 simp [keyOf,hk,mapKey,e1,bs_data]
theorem kx_mgetR {T kt et:TypeId} {x y:Operand} {b n:Nat} {M:Lit->Option Value} {g:List UInt8} {v z:Value} {gg:Hp} (hT:mapB P T=some (kt,et)) (hs:P.underlying kt=some .string) (hz:zeroB P et=some z)
 (hx:evO t x=some (.map (some b))) (hy:evO t y=some (.string (bs g))) (hg:g.length<=maxLen) (hm:MapC P kt b n M gg) (hsb:sub gg r) (hv:(M (.string g)).getD z=v)
 (hk:K (putL t d v) H):SWo P l r ⟨d,.lookup T x y false,ty,pos,af,gd⟩ K t H :=
 kx_mgetr hT (string_keyed hs) hz hx hy (keyOf_bs hs hg) hm hsb (by rw [if_neg (by simp),hv];exact hk)
theorem kx_mputS {T kt et:TypeId} {x y u:Operand} {b n:Nat} {M:Lit->Option Value} {g:List UInt8} {v:Value} {H1:List Ch} (hT:mapB P T=some (kt,et)) (hs:P.underlying kt=some .string)
 (hx:evO t x=some (.map (some b))) (hy:evO t y=some (.string (bs g))) (hu:evO t u=some v) (hg:g.length<=maxLen) (ht:Take (MapC P kt b n M) H H1) (hn:n<maxLen)
 (hk : ∀ M',(∀ x,M' (.string x)=if x=g then some v else M (.string x))->K (putL t d undef) (MapC P kt b (n+1) M'::H1)):SWo P l r ⟨d,.mapUpdate T x y u,ty,pos,af,gd⟩ K t H :=
 kx_mput hT (string_keyed hs) hx hy hu (keyOf_bs hs hg) ht hn (hk _ fun x=>by
  by_cases e:x=g
  · subst e;rw [if_pos rfl];exact upd_same trivial
  · rw [if_neg e];exact upd_other (fun h=>e (by injection h)))
end
end Sx
end Go.Proofs.YteknekiclhnkiaaGreatDoor
namespace Go.Proofs.YteknekiclhnkiaaGreatDoor
open Go.RowKit Sx
def Then2 (q:Tmp) (u:Value) (K:St):St:=fun t H=>K (putL t (some q) u) H
theorem Sx.sw_pars2 {P:Program} {l:Option Nat} {r:Hp} {Q:Exit->St} {t:List Value} {H:List Ch} {c:Code} {p q:Tmp} {v u:Value} (h:Then2 q u (SW P l r c Q) (putL t (some p) v) H):SW P l r c Q (pars t [p,q] [v,u]) H:=h
theorem Sx.then2_mk {K:St} {q:Tmp} {u:Value} {t:List Value} {H:List Ch} (h:K (putL t (some q) u) H):Then2 q u K t H:=h
end Go.Proofs.YteknekiclhnkiaaGreatDoor
