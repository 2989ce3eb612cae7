/- Maps as owned pieces: made, read, written. No program is named. -/
import Derived.Test.YtohpeoakdgckfaaGreatPu
import Derived.Maps.Own
import Derived.Sort.KeysCollected
namespace Go.Proofs.YtohpeoakdgckfaaGreat
open Go.RowKit
namespace Sx
open Go.Maps Go.MapKept
open Go.WideElems (Fit rg)
open Go.ChangeMaps (setBlock)
def rdV (v:Value):Option (DataW Value × List MemPlace):=some (.held v,[])
def datE (P:Program) (kt:TypeId) (es:Array MapEntry):DataW Value:= .map ((es.toList.map (rg P kt rdV)).foldr DataW.insert [])
def Reads (D:DataW Value) (M:Lit->Option Value):Prop := ∀ kl,WideAt.IsKeyLit kl->has D kl=(M kl).isSome /\ ∀ z,D.atKey kl z=match M kl with|some v=> .held v|none=>z
def upd (M:Lit->Option Value) (k:Lit) (v:Value):Lit->Option Value:=fun x=>if x.sameKey k then some v else M x
theorem zir {M:Lit->Option Value} {k:Lit} {v:Value} (hk:WideAt.IsKeyLit k):upd M k v k=some v:=by unfold upd;rw [WideAt.sameKey_self hk];rfl
theorem zf2 {M:Lit->Option Value} {k x:Lit} {v:Value} (h:x≠k):upd M k v x=M x:=by unfold upd;rw [sameKey_ne h];rfl
theorem Reads.put {D:DataW Value} {M:Lit->Option Value} {k:Lit} {v:Value} (h:Reads D M) (hD:IsMap D) (hk:WideAt.IsKeyLit k):Reads (D.put k (.held v)) (upd M k v):=fun x hx=>by
 by_cases e:x=k
 · subst e
   rw [zir hk]
   exact ⟨has_put_same hD hk _,fun z=>atKey_put_same hD hk _ _⟩
 · rw [zf2 e,has_put_other e]
   exact ⟨(h x hx).1,fun z=>by rw [atKey_put_other e];exact (h x hx).2 z⟩
def MapC (P:Program) (kt:TypeId) (b n:Nat) (M:Lit->Option Value):Ch:=fun h => ∃ es clock,h=one b (.map es clock)/\Fit P kt rdV es clock/\es.size<=n/\Reads (datE P kt es) M
def mapB (P:Program) (t:TypeId):Option (TypeId × TypeId):=match P.underlying t with|some (.map k e)=>some (k,e) | _=>none
theorem zq1 {P:Program} {t kt et:TypeId} (h:mapB P t=some (kt,et)):P.underlying t=some (.map kt et):=by
 unfold mapB at h
 split at h
 · rename_i k e h';rw [h'];simp at h;rw [h.1,h.2]
 · cases h
section
variable {P : Program} {l : Option Nat} {r : Hp} {Q : Exit → St} {K : St} {t : List Value} {H : List Ch} {d : Option Tmp} {ty : TypeId} {pos : String} {af : Array Edge} {gd : Option (Nat × Bool)}
theorem zor {T:TypeId} (kt:TypeId) (hk : ∀ b,K (putL t d (.map (some b))) (MapC P kt b 0 (fun _=>none)::H)):SWo P l r ⟨d,.makeMap T none,ty,pos,af,gd⟩ K t H :=
 z15 (by intro c hc;cases hc) fun w g ds ok al=>by
  obtain ⟨dd,to⟩:=z1n ok (.map #[] 0)
  refine ⟨_,_,_,_,by simp [execOp,Instr.makeMap,Result.andThen],hk w.heap.size,⟨_,_,dd,rfl,?_,al⟩,to⟩
  exact ⟨#[],0,rfl,⟨by simp,stamped_empty 0,by simp⟩,Nat.le_refl _,fun kl _=>⟨rfl,fun z=>rfl⟩⟩
theorem MapC.own {kt:TypeId} {b n:Nat} {M:Lit->Option Value} {g:Hp} {w:World} (h:MapC P kt b n M g) (e:Emb g w) : ∃ D,w.ownsMap P kt rdV b n D/\Reads D M:=by
 obtain ⟨es,clock,rfl,F,hs,hr⟩:=h
 exact ⟨_,⟨es,clock,e b _ z0h,F,hs,rfl⟩,hr⟩
theorem zis {T kt et:TypeId} {c:Bool} {x y:Operand} {b:Nat} {M:Lit->Option Value} {kv z:Value} {kl:Lit} {w:World} {es:Array MapEntry} {clock:Nat} (hT:mapB P T=some (kt,et)) (hK:Keyed P kt) (hz:zeroB P et=some z)
 (e1:evalL t x = .map (some b)) (e2:evalL t y=kv) (hkl:keyOf P kt kv=some kl) (hb:w.heap[b]?=some (.map es clock)) (F:Fit P kt rdV es clock) (hr:Reads (datE P kt es) M) :
 (execOp (evalL t) ⟨d,.lookup T x y c,ty,pos,af,gd⟩).run P w = .ok (.value (if c then .tuple #[(M kl).getD z,.bool (M kl).isSome] else (M kl).getD z)) w:=by
 have hr':=hr kl (hK.key hkl)
 simp only [execOp,Sem.run_bind,e1,e2]
 rcases fit_look c hK (zq1 hT) (z4m hz w) hb F hkl with ⟨hrun,_,hat⟩ | ⟨e0,y,_,_,hrun,hv,hat,_⟩
 · have hn:M kl=none:=by
    have h2:=hat .nil
    have h4:=hr'.2 .nil
    cases hm:M kl with
    | none=>rfl
    | some u=>exfalso;rw [hm] at h4;unfold datE at h4;rw [h2] at h4;cases h4
   rw [hrun,hn]
   cases c<;>rfl
 · obtain rfl:y=(.held e0.val,[]):=by injection hv with e;exact e.symm
   have hn:M kl=some e0.val:=by
    have h1:=hat .nil
    have h3:=hr'.2 .nil
    unfold datE at h3
    rw [h1] at h3
    cases hm:M kl with
    | none=>rw [hm] at h3;cases h3
    | some u=>rw [hm] at h3;injection h3 with e;rw [e]
   rw [hrun,hn]
   cases c<;>rfl
theorem zrg {T kt et:TypeId} {c:Bool} {x y:Operand} {b n:Nat} {M:Lit->Option Value} {kv z:Value} {kl:Lit} {H1:List Ch} (hT:mapB P T=some (kt,et)) (hK:Keyed P kt) (hz:zeroB P et=some z)
 (hx:evO t x=some (.map (some b))) (hy:evO t y=some kv) (hkl:keyOf P kt kv=some kl) (ht:Take (MapC P kt b n M) H H1)
 (hk:K (putL t d (if c then .tuple #[(M kl).getD z,.bool (M kl).isSome] else (M kl).getD z)) H):SWo P l r ⟨d,.lookup T x y c,ty,pos,af,gd⟩ K t H :=
 z15 (by intro c hc;cases hc) fun w g ds ok al=>by
  obtain ⟨g1,g2,dd,rfl,hM,al'⟩:=ht.all al
  obtain ⟨es,clock,rfl,F,hs,hr⟩:=hM
  exact ⟨_,w,_,_,zis hT hK hz (ev_of hx) (ev_of hy) hkl (ok.emb.left b _ z0h) F hr,hk,al,To.refl ok⟩
theorem zsw {ds:List Deferred} {w:World} {b c:Nat} {es:Array MapEntry} {o':Obj} {y:Hp} (d:dj (one b (.map es c)) y) (ok:Ok l r ds w (un (one b (.map es c)) y)) :
 dj (one b o') y/\To l r ds w (un (one b (.map es c)) y) ds (setBlock w b o') (un (one b o') y):=by
 have d':dj (one b o') y:=fun k=>by
  rcases d k with e|e
  · left;unfold one at *;split at e<;>simp_all
  · exact .inr e
 have hb:w.heap[b]?=some (.map es c):=ok.emb b _ (z0e z0h)
 refine ⟨d',To.step ok rfl rfl rfl (by simp [setBlock]) ?_ ?_ ?_⟩
 · intro k hk hn
   refine Go.ChangeMaps.heap_setBlock_other hb _ (fun e=>?_)
   subst e
   rw [z0e z0h] at hn;cases hn
 · intro k u hk
   by_cases e:k=b
   · subst e
     rw [z0e z0h] at hk
     rw [Go.ChangeMaps.heap_setBlock_same hb _];exact hk
   · have h1:y k=some u:=by
      have h2:one b o' k=none:=by unfold one;rw [if_neg e]
      rcases z88 hk with c|c
      · rw [h2] at c;cases c
      · exact c
     rw [Go.ChangeMaps.heap_setBlock_other hb _ e]
     exact ok.emb.right d k u h1
 · intro k hk
   left
   rcases un_ne.1 hk with c|c
   · rw [z8p c];exact un_ne.2 (.inl (by rw [z0h];simp))
   · exact un_ne.2 (.inr c)
theorem zrh {T kt et:TypeId} {x y u:Operand} {b n:Nat} {M:Lit->Option Value} {kv v:Value} {kl:Lit} {H1:List Ch} (hT:mapB P T=some (kt,et)) (hK:Keyed P kt)
 (hx:evO t x=some (.map (some b))) (hy:evO t y=some kv) (hu:evO t u=some v) (hkl:keyOf P kt kv=some kl) (ht:Take (MapC P kt b n M) H H1) (hn:n<maxLen)
 (hk:K (putL t d undef) (MapC P kt b (n+1) (upd M kl v)::H1)):SWo P l r ⟨d,.mapUpdate T x y u,ty,pos,af,gd⟩ K t H :=
 zdb (by intro c hc;cases hc) fun w g ds ok al=>by
  obtain ⟨g1,g2,dd,rfl,hM,al'⟩:=ht.all al
  obtain ⟨es,clock,rfl,F,hs,hr⟩:=hM
  have hb:w.heap[b]?=some (.map es clock):=ok.emb.left b _ z0h
  have e1:evalL t x = .map (some b):=ev_of hx
  have e2:evalL t y=kv:=ev_of hy
  have e3:evalL t u=v:=ev_of hu
  obtain ⟨es',clock',hrun,F',hput,_⟩:=fit_store (R':=rdV) hK (zq1 hT) hb F (Nat.lt_of_le_of_lt hs hn) (fun _ _ _ _ hz=>hz) hkl (rfl:rdV v=some _)
  obtain ⟨d',to⟩:=zsw (o':= .map es' clock') dd ok
  refine ⟨_,_,_,by simp [execOp,e1,e2,e3,hrun,Result.andThen],hk,⟨_,_,d',rfl,⟨es',clock',rfl,F',?_,?_⟩,al'⟩,to⟩
  · have e1:es'.size=((es'.toList.map (rg P kt rdV)).foldr DataW.insert []).length:=by rw [length_sorted];simp
    rw [e1,hput]
    unfold Go.ChangeMaps.putKey
    rw [length_insert]
    have e2:=List.length_filter_le (Go.ChangeMaps.notKey kl) ((es.toList.map (rg P kt rdV)).foldr DataW.insert [])
    rw [length_sorted] at e2
    simp at e2
    omega
  · have h1:=hr.put (v:=v) ⟨_,rfl⟩ (hK.key hkl)
    unfold datE at h1 ⊢
    rw [hput]
    exact h1
theorem Reads.keys {D:DataW Value} {M:Lit->Option Value} {kt:TypeId} {b n:Nat} {w:World} (h:Reads D M) (ho:w.ownsMap P kt rdV b n D) (hs:P.underlying kt=some .string) {ks:List (List UInt8)} (hd:ks.Nodup) (hm : ∀ k,k∈ks↔(M (.string k)).isSome=true):ks.Perm (strKeys D):=by
 obtain ⟨es,hD,hpw,_⟩:=ho.entries (string_keyed hs)
 obtain ⟨es',hD',hko⟩:=ho.keysOf
 obtain rfl:es=es':=by rw [hD] at hD';simpa using hD'
 subst hD
 exact perm_strKeys hpw (fun p hp=>by obtain ⟨v,hv⟩:=hko p hp;obtain ⟨x,_,hx,_⟩:=Maps.keyOf_str hs hv;exact ⟨x,hx⟩) hd (fun x=>by rw [hm x,(h (.string x) trivial).1])
theorem zri {f:FuncId} {args:List Value} {E:TypeId} {sz:Nat} {R:Value->Nat->List Value->Prop}
 (h : ∀ w,Emb r w->Calls P f args.toArray w fun e w' => ∃ v n xs,e = .returned v/\w'.ownsRow w.heap.size E sz v n xs/\Below w.heap.size w w'/\R v n xs):Tri P r f args [] fun v H => ∃ n xs,H=[RowC E sz v n xs]/\R v n xs :=
 z1c.2 fun w g ok al=>(h w ok.ro).mono fun e w' ⟨v,n,xs,he,ho,hb,hR⟩=>by
  obtain rfl:g=emp:=al
  rcases ho.2 with ⟨rfl,rfl⟩ | ⟨b,cap,cur,rfl,h1,h2,h3,h4,h5,h6⟩
  · refine ⟨_,_,emp,he,⟨0,xs,rfl,hR⟩,⟨emp,emp,z4u,z30.symm,⟨ho.1,.inl ⟨rfl,rfl,rfl⟩⟩,rfl⟩,?_⟩
    exact To.step ok hb.os hb.tape hb.output hb.size (fun k hk _=>hb.block k hk) (fun _ _ c=>by cases c) (fun _ c=>absurd rfl c)
  · refine ⟨_,_,one b (.cells cur E (0,0)),he,⟨n,xs,rfl,hR⟩,⟨_,emp,z4u,z30.symm,⟨ho.1,.inr ⟨b,cap,cur,rfl,rfl,h3,h4,h5,h6⟩⟩,rfl⟩,?_⟩
    exact To.step ok hb.os hb.tape hb.output hb.size (fun k hk _=>hb.block k hk) (fun k u hk=>by obtain ⟨rfl,rfl⟩:=z2d hk;exact h2) (fun k hk=> .inr (by rw [z8p hk];exact h1))
theorem z60 {P:Program} {r:Hp} {f:FuncId} {args:List Value} {H:List Ch} {R R':Rt} (h:Tri P r f args H R) (hr : ∀ v H1,R v H1 -> ∃ H2,R' v H2 /\ ∀ g,all H1 g->all H2 g):Tri P r f args H R' :=
 z1c.2 fun w g o a=>(z1c.1 h w g o a).mono fun e w' ⟨v,H1,h',he,hR,al,to⟩=>by
  obtain ⟨H2,h2,h3⟩:=hr v H1 hR
  exact ⟨v,H2,h',he,h2,h3 _ al,to⟩
theorem Tri.frz {P:Program} {r:Hp} {f:FuncId} {args:List Value} {A:Ch} {H:List Ch} {R:Rt} (h : ∀ r' g,sub r r'->sub g r'->A g->Tri P r' f args H R):Tri P r f args (A::H) R:=by
 rw [z1c]
 rintro w h' o ⟨g,k,d,rfl,hA,a⟩
 have dr:=dj_un.1 o.dj
 have hr:Sx.dj (un r g) k:=un_dj.2 ⟨dr.2,d⟩
 have ok':Ok none (un r g) [] w k:=⟨o.emb.right d,o.ro.un o.emb.left,hr,trivial,fun _ c=>by cases c⟩
 refine (z1c.1 (h (un r g) g (fun b u e=>z0e e) (fun b u e=>z0n dr.1 e) hA) w k ok' a).mono ?_
 rintro e w' ⟨v,H',h1,rfl,hR,al,to⟩
 exact ⟨v,H',h1,rfl,hR,al,⟨⟨to.ok.emb,fun b u e=>to.ok.ro b u (z0e e),(un_dj.1 to.ok.dj).1,trivial,fun _ c=>by cases c⟩,to.os,to.tape,to.output,to.size,fun b hb hn=>to.keep b hb (z0i.1 hn).2,fun b hb=>(to.dom b hb).imp_left fun c=>un_ne.2 (.inr c),to.grew⟩⟩
end
end Sx
end Go.Proofs.YtohpeoakdgckfaaGreat
