/- Sx: walks over owned pieces of memory. A state is the frame's slots (a list) and a list of pieces (each a predicate on a part of the heap); what is read alone lies in 'r'. The world, its tape and its counters are out of sight. No program is named. -/
import Derived.Test.YteknekiclhnkiaaGreatDoorEng
import Derived.Sort.LoopGhostIn
import Derived.OrdersIn
namespace Go.Proofs.YteknekiclhnkiaaGreatDoor
open Go.RowKit
namespace Sx
abbrev Hp:=Nat->Option Obj
abbrev Ch:=Hp->Prop
def sub (g h:Hp):Prop := ∀ b o,g b=some o->h b=some o
def dj (g h:Hp):Prop := ∀ b,g b=none\/h b=none
def un (g h:Hp):Hp:=fun b=>(g b).or (h b)
def emp:Hp:=fun _=>none
def one (b:Nat) (o:Obj):Hp:=fun k=>if k=b then some o else none
def Emb (h:Hp) (w:World):Prop := ∀ b o,h b=some o->w.heap[b]?=some o
def pt (b:Nat) (o:Obj):Ch:=fun h=>h=one b o
def all:List Ch->Hp->Prop
 | [],h=>h=emp
 | A::H,h => ∃ g k,dj g k/\h=un g k/\A g/\all H k
section
variable {g h k : Hp} {w : World}
theorem dj.symm (d:dj g h):dj h g:=fun b=>(d b).symm
theorem un_none {b:Nat}:un g h b=none↔g b=none/\h b=none:=by unfold un;cases g b<;>simp
theorem un_ne {b:Nat}:un g h b≠none↔g b≠none\/h b≠none:=by unfold un;cases g b<;>simp
theorem un_left {b:Nat} {o:Obj} (e:g b=some o):un g h b=some o:=by simp [un,e]
theorem un_right {b:Nat} {o:Obj} (d:dj g h) (e:h b=some o):un g h b=some o:=by
 rcases d b with c|c
 · simp [un,c,e]
 · rw [c] at e;cases e
theorem un_some {b:Nat} {o:Obj} (e:un g h b=some o):g b=some o\/h b=some o:=by
 unfold un at e;cases hg:g b<;>simp_all
theorem un_comm (d:dj g h):un g h=un h g:=by
 funext b;unfold un;rcases d b with c|c<;>rw [c]<;>simp
theorem un_assoc:un (un g h) k=un g (un h k):=by funext b;simp [un,Option.or_assoc]
theorem un_emp:un g emp=g:=by funext b;simp [un,emp]
theorem emp_un:un emp g=g:=by funext b;simp [un,emp]
theorem dj_emp:dj g emp:=fun _=> .inr rfl
theorem emp_dj:dj emp g:=fun _=> .inl rfl
theorem dj_un:dj g (un h k)↔dj g h/\dj g k:=by
 constructor
 · intro d;exact ⟨fun b=>(d b).imp_right fun c=>(un_none.1 c).1,fun b=>(d b).imp_right fun c=>(un_none.1 c).2⟩
 · rintro ⟨d,e⟩ b
   rcases d b with c|c
   · exact .inl c
   · rcases e b with c'|c'
     · exact .inl c'
     · exact .inr (un_none.2 ⟨c,c'⟩)
theorem un_dj:dj (un g h) k↔dj g k/\dj h k:=⟨fun d=>let ⟨a,b⟩:=dj_un.1 d.symm;⟨a.symm,b.symm⟩,fun ⟨a,b⟩=>(dj_un.2 ⟨a.symm,b.symm⟩).symm⟩
theorem Emb.lt (e:Emb h w) {b:Nat} (hb:h b≠none):b<w.heap.size:=by
 cases hh:h b with
 | none=>exact absurd hh hb
 | some o=>exact (Array.getElem?_eq_some_iff.1 (e b o hh)).1
theorem Emb.un (d:Emb g w) (e:Emb h w):Emb (un g h) w:=fun b o hb=>(un_some hb).elim (d b o) (e b o)
theorem Emb.left (e:Emb (Sx.un g h) w):Emb g w:=fun b o hb=>e b o (un_left hb)
theorem Emb.right (d:dj g h) (e:Emb (Sx.un g h) w):Emb h w:=fun b o hb=>e b o (un_right d hb)
theorem one_same {b:Nat} {o:Obj}:one b o b=some o:=by simp [one]
theorem one_some {b k:Nat} {o u:Obj} (e:one b o k=some u):k=b/\u=o:=by unfold one at e;split at e<;>simp_all
theorem one_ne {b k:Nat} {o:Obj} (e:one b o k≠none):k=b:=by unfold one at e;split at e<;>simp_all
theorem all_app {H K:List Ch} : ∀ {h:Hp},all (H++K) h ↔ ∃ a b,dj a b/\h=un a b/\all H a/\all K b:=by
 induction H with
 | nil =>
  intro h
  constructor
  · intro e;exact ⟨emp,h,emp_dj,emp_un.symm,rfl,e⟩
  · rintro ⟨a,b,_,rfl,rfl,e⟩;rw [emp_un];exact e
 | cons A H ih =>
  intro h
  constructor
  · rintro ⟨g,k,d,rfl,hA,hk⟩
    obtain ⟨a,b,d',rfl,ha,hb⟩:=ih.1 hk
    obtain ⟨d1,d2⟩:=dj_un.1 d
    exact ⟨un g a,b,un_dj.2 ⟨d2,d'⟩,un_assoc.symm,⟨g,a,d1,rfl,hA,ha⟩,hb⟩
  · rintro ⟨a,b,d,rfl,⟨g,a',d',rfl,hA,ha⟩,hb⟩
    obtain ⟨d1,d2⟩:=un_dj.1 d
    exact ⟨g,un a' b,dj_un.2 ⟨d',d1⟩,un_assoc,hA,ih.2 ⟨a',b,d2,rfl,ha,hb⟩⟩
theorem all_perm {H K:List Ch} (p:H.Perm K) : ∀ {h:Hp},all H h->all K h:=by
 induction p with
 | nil=>exact id
 | cons A _ ih=>rintro h ⟨g,k,d,rfl,hA,hk⟩;exact ⟨g,k,d,rfl,hA,ih hk⟩
 | swap A B L =>
  rintro h ⟨g,k,d,rfl,hA,g',k',d',rfl,hB,hk⟩
  obtain ⟨d1,d2⟩:=dj_un.1 d
  refine ⟨g',un g k',dj_un.2 ⟨d1.symm,d'⟩,?_,hB,g,k',d2,rfl,hA,hk⟩
  rw [← un_assoc,← un_assoc,un_comm d1]
 | trans _ _ ih1 ih2=>exact fun h=>ih2 (ih1 h)
end
def FW (l:Option Nat):Fence:={ fn:=fun _=>True,depth:=none,alive:=false,round:=l }
abbrev mark (D:Nat):Deferred:={ target:= .collected D,args := #[] }
def Mk (r h:Hp) (w:World):List Deferred->Prop
 | []=>True
 | d::ds => ∃ D,d=mark D/\w.heap[D]?=some (.deferred (some []))/\h D=none/\r D=none/\d ∉ ds/\Mk r h w ds
structure Ok (l:Option Nat) (r:Hp) (ds:List Deferred) (w:World) (h:Hp):Prop where
 emb:Emb h w
 ro:Emb r w
 dj:dj r h
 marks:Mk r h w ds
 loop : ∀ k,l=some k -> ∃ rec,w.heap[k]?=some (.loop rec)/\h k=none/\r k=none
structure To (l:Option Nat) (r:Hp) (ds:List Deferred) (w:World) (h:Hp) (ds':List Deferred) (w':World) (h':Hp):Prop where
 ok:Ok l r ds' w' h'
 os:w'.os=w.os
 tape:w'.tape=w.tape
 output:w'.output=w.output
 size:w.heap.size<=w'.heap.size
 keep : ∀ b,b<w.heap.size->h b=none->w'.heap[b]?=w.heap[b]?
 dom : ∀ b,h' b≠none->h b≠none\/w.heap.size<=b
 grew : ∀ d∈ds',d∈ds \/ ∃ D,w.heap.size<=D/\d=mark D
section
variable {l : Option Nat} {r h h' h1 h1' hf : Hp} {ds ds' : List Deferred} {w w' : World}
theorem Mk.mono {h':Hp} {w':World} : ∀ {ds:List Deferred},Mk r h w ds->(∀ D,w.heap[D]?=some (.deferred (some []))->h D=none->r D=none->w'.heap[D]?=some (.deferred (some []))/\h' D=none)->Mk r h' w' ds
 | [],_,_=>trivial
 | _::_,⟨D,e,a,b,c,n,m⟩,f=>⟨D,e,(f D a b c).1,(f D a b c).2,c,n,m.mono f⟩
theorem Ok.less (o:Ok l r ds w h) (s : ∀ b,h1 b≠none->h b=h1 b):Ok l r ds w h1 where
 emb:=fun b u e=>o.emb b u (by rw [s b (by simp [e]),e])
 ro:=o.ro
 dj:=fun b=>by
  rcases o.dj b with c|c
  · exact .inl c
  · right
    cases e:h1 b with
    | none=>rfl
    | some u=>have:=s b (by simp [e]);rw [c,e] at this;cases this
 marks:=o.marks.mono fun D a b _=>⟨a,by
  cases e:h1 D with
  | none=>rfl
  | some u=>have:=s D (by simp [e]);rw [b,e] at this;cases this⟩
 loop:=fun k e=>by
  obtain ⟨rec,a,b,c⟩:=o.loop k e
  refine ⟨rec,a,?_,c⟩
  cases e:h1 k with
  | none=>rfl
  | some u=>have:=s k (by simp [e]);rw [b,e] at this;cases this
theorem Ok.left (o:Ok l r ds w (un h1 hf)):Ok l r ds w h1:=o.less fun b hb=>by
 cases e:h1 b with
 | none=>exact absurd e hb
 | some u=>exact un_left e
theorem Ok.right (d:Sx.dj h1 hf) (o:Ok l r ds w (un h1 hf)):Ok l r ds w hf:=o.less fun b hb=>by
 cases e:hf b with
 | none=>exact absurd e hb
 | some u=>exact un_right d e
theorem Ok.bare (o:Ok l r ds w h):Ok none r [] w h:=⟨o.emb,o.ro,o.dj,trivial,fun _ e=>by cases e⟩
theorem To.refl (o:Ok l r ds w h):To l r ds w h ds w h:=⟨o,rfl,rfl,rfl,Nat.le_refl _,fun _ _ _=>rfl,fun _ hb=> .inl hb,fun _ hd=> .inl hd⟩
theorem To.trans {ds'':List Deferred} {w'':World} {h'':Hp} (a:To l r ds w h ds' w' h') (b:To l r ds' w' h' ds'' w'' h''):To l r ds w h ds'' w'' h'' where
 ok:=b.ok
 os:=b.os.trans a.os
 tape:=b.tape.trans a.tape
 output:=b.output.trans a.output
 size:=Nat.le_trans a.size b.size
 keep:=fun k hk hn=>by
  have hn':h' k=none:=by
   cases e:h' k with
   | none=>rfl
   | some u=>rcases a.dom k (by simp [e]) with c|c;exact absurd hn c;omega
  rw [b.keep k (Nat.lt_of_lt_of_le hk a.size) hn',a.keep k hk hn]
 dom:=fun k hk=>by
  rcases b.dom k hk with c|c
  · exact a.dom k c
  · exact .inr (Nat.le_trans a.size c)
 grew:=fun d hd=>by
  rcases b.grew d hd with c | ⟨D,c,e⟩
  · exact a.grew d c
  · exact .inr ⟨D,Nat.le_trans a.size c,e⟩
theorem To.step (o:Ok l r ds w h) (os:w'.os=w.os) (tape:w'.tape=w.tape) (output:w'.output=w.output) (size:w.heap.size<=w'.heap.size)
 (keep : ∀ b,b<w.heap.size->h b=none->w'.heap[b]?=w.heap[b]?) (emb:Emb h' w') (dom : ∀ b,h' b≠none->h b≠none\/w.heap.size<=b):To l r ds w h ds w' h':=by
 have no : ∀ k,k<w.heap.size->h k=none->h' k=none:=fun k hk hn=>by
  cases e:h' k with
  | none=>rfl
  | some u=>rcases dom k (by simp [e]) with c|c;exact absurd hn c;omega
 refine ⟨⟨emb,?_,?_,?_,?_⟩,os,tape,output,size,keep,dom,fun _ hd=> .inl hd⟩
 · intro b u hb
   have hlt:=o.ro.lt (b:=b) (by simp [hb])
   rw [keep b hlt ((o.dj b).resolve_left (by simp [hb]))]
   exact o.ro b u hb
 · intro b
   cases e:r b with
   | none=>exact .inl rfl
   | some u=>exact .inr (no b (o.ro.lt (by simp [e])) ((o.dj b).resolve_left (by simp [e])))
 · refine o.marks.mono fun D a b c=>?_
   have hlt:D<w.heap.size:=(Array.getElem?_eq_some_iff.1 a).1
   exact ⟨by rw [keep D hlt b];exact a,no D hlt b⟩
 · intro k hk
   obtain ⟨rec,a,b,c⟩:=o.loop k hk
   have hlt:k<w.heap.size:=(Array.getElem?_eq_some_iff.1 a).1
   exact ⟨rec,by rw [keep k hlt b];exact a,no k hlt b,c⟩
theorem To.lift (o:Ok l r ds w h) (t:To none r [] w h [] w' h'):To l r ds w h ds w' h' :=
 To.step o t.os t.tape t.output t.size t.keep t.ok.emb t.dom
theorem To.frame (o:Ok l r ds w (un h1 hf)) (d:dj h1 hf) (t:To l r ds w h1 ds' w' h1'):dj h1' hf/\To l r ds w (un h1 hf) ds' w' (un h1' hf):=by
 have ef:Emb hf w:=o.emb.right d
 have d':dj h1' hf:=fun b=>by
  cases e:h1' b with
  | none=>exact .inl rfl
  | some u =>
   right
   rcases t.dom b (by simp [e]) with c|c
   · exact (d b).resolve_left c
   · cases e':hf b with
     | none=>rfl
     | some v=>have:=ef.lt (b:=b) (by simp [e']);omega
 have ef':Emb hf w':=fun b u hb=>by
  rw [t.keep b (ef.lt (by simp [hb])) ((d b).resolve_right (by simp [hb]))];exact ef b u hb
 refine ⟨d',⟨t.ok.emb.un ef',t.ok.ro,?_,?_,?_⟩,t.os,t.tape,t.output,t.size,?_,?_,t.grew⟩
 · exact dj_un.2 ⟨t.ok.dj,fun b=>by
    cases e:r b with
    | none=>exact .inl rfl
    | some u=>exact .inr (un_none.1 ((o.dj b).resolve_left (by simp [e]))).2⟩
 · have key : ∀ L:List Deferred,(∀ x∈L,x∈ds \/ ∃ D,w.heap.size<=D/\x=mark D)->Mk r h1' w' L->Mk r (un h1' hf) w' L:=by
    intro L
    induction L with
    | nil=>exact fun _ _=>trivial
    | cons x L ih =>
     rintro hg ⟨D,e,a,b,c,n,m⟩
     refine ⟨D,e,a,un_none.2 ⟨b,?_⟩,c,n,ih (fun y hy=>hg y (List.mem_cons_of_mem _ hy)) m⟩
     cases e':hf D with
     | none=>rfl
     | some v =>
      exfalso
      have hlt:=ef.lt (b:=D) (by simp [e'])
      rcases hg x List.mem_cons_self with hx | ⟨D',hD',hx⟩
      · have : ∀ L:List Deferred,Mk r (un h1 hf) w L->x∈L->un h1 hf D=none:=by
         intro L
         induction L with
         | nil=>intro _ hm;cases hm
         | cons y L ih =>
          rintro ⟨D2,e2,_,b2,_,_,m2⟩ hm
          rcases List.mem_cons.1 hm with hm|hm
          · rw [← hm,e] at e2
            have:D=D2:=by injection e2 with e3 _;injection e3
            rw [this];exact b2
          · exact ih m2 hm
        have h0:=(un_none.1 (this ds o.marks hx)).2
        rw [h0] at e';cases e'
      · rw [e] at hx
        have:D=D':=by injection hx with e3 _;injection e3
        omega
   exact key ds' t.grew t.ok.marks
 · intro k hk
   obtain ⟨rec,a,b,c⟩:=t.ok.loop k hk
   obtain ⟨_,a',b',c'⟩:=o.loop k hk
   exact ⟨rec,a,un_none.2 ⟨b,(un_none.1 b').2⟩,c⟩
 · intro b hb hn;exact t.keep b hb (un_none.1 hn).1
 · intro b hb
   rcases un_ne.1 hb with c|c
   · exact (t.dom b c).imp_left fun c=>un_ne.2 (.inl c)
   · exact .inl (un_ne.2 (.inr c))
end
end Sx
end Go.Proofs.YteknekiclhnkiaaGreatDoor
namespace Go.Proofs.YteknekiclhnkiaaGreatDoor
open Go.RowKit
namespace Sx
abbrev St:=List Value->List Ch->Prop
def putL (t:List Value):Option Tmp->Value->List Value
 | some d,v=>t.set d v
 | none,_=>t
def evalL (t:List Value):Operand->Value
 | .tmp n=>t.getD n undef
 | .const v=>v
 | .global g=> .pointer (some ⟨g,0,none⟩)
 | .func f=> .func (.func f) #[] #[]
theorem eval_L (t:List Value) (ds:List Deferred) (x:Operand):(Act.mk t.toArray ds).eval x=evalL t x:=by
 cases x<;>simp [Act.eval,evalL,Array.getD_eq_getD_getElem?,List.getD_eq_getElem?_getD]
theorem put_L (t:List Value) (ds:List Deferred) (d:Option Tmp) (v:Value):(Act.mk t.toArray ds).put d v=⟨(putL t d v).toArray,ds⟩:=by
 cases d<;>simp [Act.put,putL]
def Post (l:Option Nat) (r:Hp) (ds:List Deferred) (w:World) (h:Hp) (Q:Exit->St):Exit->Act->World->Prop
 | .panic _,_,_=>False
 | .outgrown,_,_=>False
 | e,a',w' => ∃ t' H' h',a'.tmps=t'.toArray/\Q e t' H'/\all H' h'/\To l r ds w h a'.defers w' h'
def SW (P:Program) (l:Option Nat) (r:Hp) (c:Code) (Q:Exit->St) (t:List Value) (H:List Ch):Prop :=
 ∀ (w:World) (h:Hp) (ds:List Deferred),Ok l r ds w h->all H h->c.wpIn (FW l) 0 P (Post l r ds w h Q) ⟨t.toArray,ds⟩ w
def Then (K:St) (Q:Exit->St):Exit->St
 | .normal,t,H=>K t H
 | e,t,H=>Q e t H
def Blk (id:Nat) (Q:Exit->St):Exit->St
 | .exit i,t,H=>if i=id then Q .normal t H else Q (.exit i) t H
 | e,t,H=>Q e t H
section
variable {P : Program} {l : Option Nat} {r : Hp} {Q : Exit → St} {t : List Value} {H : List Ch}
theorem Post.mk' {ds:List Deferred} {w:World} {h:Hp} {e:Exit} {t':List Value} {H':List Ch} {h':Hp} {ds':List Deferred} {w':World}
 (hc:match e with | .panic _=>False | .outgrown=>False | _=>True) (q:Q e t' H') (a:all H' h') (to:To l r ds w h ds' w' h'):Post l r ds w h Q e ⟨t'.toArray,ds'⟩ w':=by
 cases e<;>first|exact hc.elim|exact ⟨_,_,_,rfl,q,a,to⟩
theorem Post.trans {Q':Exit->St} {ds ds1:List Deferred} {w w1:World} {h h1:Hp} (a:To l r ds w h ds1 w1 h1) {e:Exit} {b:Act} {w':World} (p:Post l r ds1 w1 h1 Q e b w') (hq : ∀ t H,Q e t H->Q' e t H):Post l r ds w h Q' e b w':=by
 cases e with
 | panic _=>exact p.elim
 | outgrown=>exact p.elim
 | _=>obtain ⟨t',H',h',e1,q,al,to⟩:=p;exact ⟨t',H',h',e1,hq _ _ q,al,a.trans to⟩
theorem Post.act {ds:List Deferred} {w:World} {h:Hp} {e:Exit} {b:Act} {w':World} (p:Post l r ds w h Q e b w') :
 ∃ t' H' h' ds',b=⟨t'.toArray,ds'⟩/\Q e t' H'/\all H' h'/\To l r ds w h ds' w' h':=by
 cases e with
 | panic _=>exact p.elim
 | outgrown=>exact p.elim
 | _=>obtain ⟨t',H',h',e1,q,al,to⟩:=p;exact ⟨t',H',h',b.defers,by cases b;simp_all,q,al,to⟩
theorem sw_mono {c:Code} {Q':Exit->St} (h:SW P l r c Q t H) (hq : ∀ e t H,Q e t H->Q' e t H):SW P l r c Q' t H :=
 fun w h' ds o a=>wpIn_mono (h w h' ds o a) fun e _b _w' p=>p.trans (To.refl o) (hq e)
theorem sw_skip (h:Q .normal t H):SW P l r .skip Q t H:=fun _ _ _ o a=>wpIn_skip (Post.mk' trivial h a (To.refl o))
theorem sw_label {i:Nat} (h:Q .normal t H):SW P l r (.label i) Q t H:=fun _ _ _ o a=>wpIn_label (Post.mk' trivial h a (To.refl o))
theorem sw_exit {i:Nat} (h:Q (.exit i) t H):SW P l r (.exit i) Q t H:=fun _ _ _ o a=>wpIn_exit (Post.mk' trivial h a (To.refl o))
theorem sw_ret (h:Q .ret t H):SW P l r .ret Q t H:=fun _ _ _ o a=>wpIn_ret (Post.mk' trivial h a (To.refl o))
theorem sw_seq {x y:Code} (h:SW P l r x (Then (SW P l r y Q) Q) t H):SW P l r (.seq x y) Q t H:=by
 intro w h' ds o a
 refine wpIn_seq (wpIn_mono (h w h' ds o a) ?_)
 intro e b w' p
 obtain ⟨t',H',h1,ds',rfl,q,al,to⟩:=p.act
 cases e with
 | normal=>exact wpIn_mono (q w' h1 ds' to.ok al) fun e b w2 p=>p.trans to (fun _ _ q=>q)
 | panic _=>exact p.elim
 | outgrown=>exact p.elim
 | _=>exact Post.mk' trivial q al to
theorem sw_cond {c:Operand} {x y:Code} {b:Bool} (hc:evalL t c = .bool b) (ht:b=true->SW P l r x Q t H) (hf:b=false->SW P l r y Q t H):SW P l r (.cond c x y) Q t H:=by
 intro w h' ds o a
 refine wpIn_cond_split (t:=b) (by rw [eval_L,hc]) (fun e=>ht e w h' ds o a) (fun e=>hf e w h' ds o a)
theorem sw_block {id:Nat} {c:Code} (h:SW P l r c (Blk id Q) t H):SW P l r (.block id c) Q t H:=by
 intro w h' ds o a
 refine wpIn_block (wpIn_mono (h w h' ds o a) ?_)
 intro e b w' p
 obtain ⟨t',H',h1,ds',rfl,q,al,to⟩:=p.act
 cases e with
 | panic _=>exact p.elim
 | outgrown=>exact p.elim
 | exit i =>
  unfold Exit.inBlock
  unfold Blk at q
  by_cases e:i=id
  · simp only [e,if_true] at q ⊢;exact Post.mk' trivial q al to
  · simp only [e,if_false] at q ⊢;exact Post.mk' trivial q al to
 | _=>exact Post.mk' trivial q al to
theorem sw_loop {c:Code} (I:Nat->St) (n0:Nat) (h0:I n0 t H) (round : ∀ n t H,I n t H->SW P l r c (Then (fun t' H' => ∃ m,m<n/\I m t' H') Q) t H):SW P l r (.loop c) Q t H:=by
 intro w h' ds o a
 refine wpIn_loop_ghost (fun n b w1 => ∃ t1 H1 h1 ds1,b=⟨t1.toArray,ds1⟩/\I n t1 H1/\all H1 h1/\To l r ds w h' ds1 w1 h1) n0 ⟨t,H,h',ds,rfl,h0,a,To.refl o⟩ ?_
 rintro n b w1 ⟨t1,H1,h1,ds1,rfl,hi,al,to⟩
 refine wpIn_mono (round n t1 H1 hi w1 h1 ds1 to.ok al) ?_
 intro e b w2 p
 obtain ⟨t2,H2,h2,ds2,rfl,q,al2,to2⟩:=p.act
 cases e with
 | normal=>obtain ⟨m,hm,hi2⟩:=q;exact ⟨m,hm,t2,H2,h2,ds2,rfl,hi2,al2,to.trans to2⟩
 | panic _=>exact p.elim
 | outgrown=>exact p.elim
 | _=>exact Post.mk' trivial q al2 (to.trans to2)
end
abbrev Rt:=Value->List Ch->Prop
def Tri (P:Program) (r:Hp) (f:FuncId) (args:List Value) (H:List Ch) (R:Rt):Prop :=
 ∀ (w:World) (h:Hp),Ok none r [] w h->all H h->Calls P f args.toArray w fun e w' => ∃ v H' h',e = .returned v/\R v H'/\all H' h'/\To none r [] w h [] w' h'
section
variable {P : Program} {l : Option Nat} {r : Hp} {f : FuncId} {args : List Value} {H : List Ch} {R : Rt}
theorem Tri.mono {R':Rt} (h:Tri P r f args H R) (hr : ∀ v H,R v H->R' v H):Tri P r f args H R' :=
 fun w g o a=>(h w g o a).mono fun _ _ ⟨v,H',h',e,q,al,to⟩=>⟨v,H',h',e,hr _ _ q,al,to⟩
def FnPost (_P:Program) (_fn:Func) (res:List Value->List Ch->Value->Prop) (R:Rt):Exit->St
 | .normal,t,H | .ret,t,H => ∃ v,res t H v/\R v H
 | _,_,_=>False
def Res (P:Program) (r:Hp) (fn:Func) (t:List Value) (H:List Ch) (v:Value):Prop :=
 ∀ (w:World) (h:Hp),Emb h w->Emb r w->all H h->(results fn t.toArray).run P w = .ok v w
theorem Mk.leave {fn:Func} {tmps:Array Value} {h:Hp} {v:Value} {R:Ending->World->Prop}
 (hr : ∀ w':World,Emb h w'->Emb r w'->(results fn tmps).run P w' = .ok v w') :
 ∀ (ds:List Deferred) (w:World),Emb h w->Emb r w->Mk r h w ds ->
  (∀ w',Emb h w'->Emb r w'->w'.os=w.os->w'.tape=w.tape->w'.output=w.output->w'.heap.size=w.heap.size->(∀ b,mark b ∉ ds->w'.heap[b]?=w.heap[b]?)->R (.returned v) w') ->
  LeavesInM W9 0 P fn tmps R ds .returning w
 | [],w,e,e',_,k=>⟨v,hr w e e',k w e e' rfl rfl rfl rfl fun _ _=>rfl⟩
 | _::ds,w,e,e',⟨D,hd,a,b,c,n,m⟩,k=>by
  subst hd
  have put : ∀ i,i≠D->(w.putObj D (.deferred none)).heap[i]?=w.heap[i]?:=fun i hi=>World.putObj_heap_other hi
  have e1:Emb h (w.putObj D (.deferred none)):=fun i u hi=>by rw [put i (by rintro rfl;rw [b] at hi;cases hi)];exact e i u hi
  have e2:Emb r (w.putObj D (.deferred none)):=fun i u hi=>by rw [put i (by rintro rfl;rw [c] at hi;cases hi)];exact e' i u hi
  refine ⟨by simp,.inl ⟨D,_,rfl,run_takeDeferred a,?_⟩⟩
  refine Mk.leave hr ds _ e1 e2 ?_ ?_
  · clear k
    have key : ∀ L:List Deferred,mark D ∉ L->Mk r h w L->Mk r h (w.putObj D (.deferred none)) L:=by
     intro L
     induction L with
     | nil=>exact fun _ _=>trivial
     | cons x L ih =>
      rintro hn ⟨D',q1,q2,q3,q4,q5,q6⟩
      refine ⟨D',q1,?_,q3,q4,q5,ih (fun c=>hn (List.mem_cons_of_mem _ c)) q6⟩
      rw [put D' (by rintro rfl;exact hn (by rw [q1];exact List.mem_cons_self))]
      exact q2
    exact key ds n m
  · intro w' a1 a2 a3 a4 a5 a6 a7
    refine k w' a1 a2 a3 a4 a5 (by rw [a6];simp [World.putObj]) fun i hi=>?_
    rw [a7 i (fun c=>hi (List.mem_cons_of_mem _ c)),put i (by rintro rfl;exact hi List.mem_cons_self)]
theorem fn_of_sw {fn:Func} {c:Code} (hf:P.funcs[f]?=some fn) (hb:fn.body=some c) (t:List Value) (ht:t=args++List.replicate (fn.ntmps - args.length) undef)
 (h:SW P none r c (FnPost P fn (Res P r fn) R) t H):Tri P r f args H R:=by
 intro w h0 o a
 refine callsIn_wide.1 (callsIn_of_wp_marks (n:=0) hf hb trivial ?_)
 have ht':(args.toArray++Array.replicate (fn.ntmps - args.toArray.size) undef)=t.toArray:=by rw [ht];simp
 rw [ht']
 refine wpIn_mono (h w h0 [] o a) ?_
 intro e b w' p
 have fin : ∀ (t':List Value) (H':List Ch) (h':Hp) (ds':List Deferred),(∃ v,Res P r fn t' H' v/\R v H')->all H' h'->To none r [] w h0 ds' w' h' ->
  LeavesInM W9 0 P fn t'.toArray (fun e w' => ∃ v H' h',e = .returned v/\R v H'/\all H' h'/\To none r [] w h0 [] w' h') ds' .returning w':=by
  rintro t' H' h' ds' ⟨v,hres,hv⟩ al to
  refine Mk.leave (r:=r) (h:=h') (v:=v) (fun w2 e1 e2=>hres w2 h' e1 e2 al) ds' w' to.ok.emb to.ok.ro to.ok.marks ?_
  intro w2 e1 e2 a3 a4 a5 a6 a7
  refine ⟨v,H',h',rfl,hv,al,⟨⟨e1,e2,to.ok.dj,trivial,fun _ c=>by cases c⟩,a3.trans to.os,a4.trans to.tape,a5.trans to.output,by rw [a6];exact to.size,?_,to.dom,fun _ c=>by cases c⟩⟩
  intro i hi hn
  rw [a7 i ?_]
  · exact to.keep i hi hn
  · intro hm
    rcases to.grew _ hm with c | ⟨D,c,e⟩
    · cases c
    · have:i=D:=by injection e with e3 _;injection e3
      omega
 cases e with
 | panic _=>exact p.elim
 | outgrown=>exact p.elim
 | normal=>obtain ⟨t',H',h',ds',rfl,q,al,to⟩:=p.act;exact fin t' H' h' ds' q al to
 | ret=>obtain ⟨t',H',h',ds',rfl,q,al,to⟩:=p.act;exact fin t' H' h' ds' q al to
 | exit _=>obtain ⟨t',H',h',ds',rfl,q,al,to⟩:=p.act;exact q.elim
 | goto _=>obtain ⟨t',H',h',ds',rfl,q,al,to⟩:=p.act;exact q.elim
end
end Sx
end Go.Proofs.YteknekiclhnkiaaGreatDoor
namespace Go.Proofs.YteknekiclhnkiaaGreatDoor
open Go.RowKit
namespace Sx
def After (l:Option Nat) (r:Hp) (ds:List Deferred) (w:World) (h:Hp) (K:St) (a':Act) (w':World):Prop :=
 ∃ t' H' h',a'=⟨t'.toArray,ds⟩/\K t' H'/\all H' h'/\To l r ds w h ds w' h'
abbrev noQ:Exit->Act->World->Prop:=fun _ _ _=>False
def SWo (P:Program) (l:Option Nat) (r:Hp) (o:Oper) (K:St) (t:List Value) (H:List Ch):Prop :=
 ∀ (w:World) (h:Hp) (ds:List Deferred),Ok l r ds w h->all H h->o.wpIn (FW l) 0 P ⟨t.toArray,ds⟩ w (After l r ds w h K) noQ
def SWl (P:Program) (l:Option Nat) (r:Hp) (ops:Array Oper) (K:St):List Oper->St
 | [],t,H=>K t H
 | o::rest,t,H=>if Region.wanted o (yielded ops t.toArray) then SWo P l r o (SWl P l r ops K rest) t H else SWl P l r ops K rest (putL t o.dst undef) H
theorem wpIn_noQ {F:Fence} {n:Nat} {P:Program} {o:Oper} {a:Act} {w:World} {K K':Act->World->Prop} {Q:Exit->Act->World->Prop} (h : ∀ a w,K a w->K' a w) (hh:o.wpIn F n P a w K noQ):o.wpIn F n P a w K' Q:=by
 unfold Oper.wpIn at *
 refine ⟨hh.1,?_⟩
 have hh:=hh.2
 generalize (o.semAt F.round a.eval).run P w=r at *
 cases r with
 | ok x w' =>
  cases x<;>simp only [Oper.uponIn] at hh ⊢ <;>
   first
    | exact h _ _ hh
    | exact ⟨hh.1,CallsIn.mono hh.2 (fun e w'' he=>by cases e<;>first|exact h _ _ he|exact he.elim|(obtain ⟨_,_,c⟩:=he;exact c.elim))⟩
    | exact ⟨hh.1,RowsIn.mono hh.2 (fun _ _ he=>h _ _ he)⟩
    | exact ⟨hh.1,RoundIn.mono hh.2 (fun e w'' he=>by cases e<;>first|exact h _ _ he|exact he.elim|(obtain ⟨_,_,c⟩:=he;exact c.elim))⟩
 | halt x w'=>cases x<;>simp only [Oper.uponIn] at hh ⊢ <;> exact hh.elim
section
variable {P : Program} {l : Option Nat} {r : Hp} {Q : Exit → St} {K : St} {t : List Value} {H : List Ch} {o : Oper}
theorem swo_mono {K':St} (h:SWo P l r o K t H) (hk : ∀ t H,K t H->K' t H):SWo P l r o K' t H :=
 fun w g ds ok a=>wpIn_noQ (fun _ _ ⟨t',H',h',e,k,al,to⟩=>⟨t',H',h',e,hk _ _ k,al,to⟩) (h w g ds ok a)
theorem swl_sound {ops:Array Oper} {K:St} : ∀ (L:List Oper) (t:List Value) (H:List Ch),SWl P l r ops K L t H ->
 ∀ (w0:World) (h0:Hp) (ds:List Deferred) (w:World) (h:Hp),To l r ds w0 h0 ds w h->all H h -> ∀ Q,(∀ t H a w' h',K t H->all H h'->To l r ds w0 h0 ds w' h'->a=⟨t.toArray,ds⟩->Q .normal a w') ->
  wpListIn (FW l) 0 P ops Q L ⟨t.toArray,ds⟩ w
 | [],t,H,hk,w0,h0,ds,w,h,to,al,Q,hq=>wpListIn_nil (hq t H _ w h hk al to rfl)
 | o::L,t,H,hk,w0,h0,ds,w,h,to,al,Q,hq=>by
  unfold SWl at hk
  unfold wpListIn
  split
  · rename_i c
    rw [if_pos c] at hk
    refine wpIn_noQ ?_ (hk w h ds to.ok al)
    rintro a' w' ⟨t',H',h',rfl,k,al',to'⟩
    exact swl_sound L t' H' k w0 h0 ds w' h' (to.trans to') al' Q hq
  · rename_i c
    rw [if_neg c] at hk
    refine ⟨fun _ _=>trivial,?_⟩
    rw [put_L]
    exact swl_sound L _ H hk w0 h0 ds w h to al Q hq
theorem sw_region {id:Nat} {L:List Oper} (h:SWl P l r L.toArray (Q .normal) L t H):SW P l r (.region id L.toArray false) Q t H:=by
 intro w h0 ds ok a
 refine wpIn_region_lit (swl_sound L t H h w h0 ds w h0 (To.refl ok) a _ ?_)
 rintro t' H' _ w' h' k al to rfl
 exact Post.mk' trivial k al to
theorem swl_nil {ops:Array Oper} (h:K t H):SWl P l r ops K [] t H:=h
theorem swl_cons {ops:Array Oper} {L:List Oper} (hg:o.guard=none) (h:SWo P l r o (SWl P l r ops K L) t H):SWl P l r ops K (o::L) t H:=by
 unfold SWl;rw [if_pos (by simp [Region.wanted,hg])];exact h
theorem swl_want {ops:Array Oper} {L:List Oper} (hw:Region.wanted o (yielded ops t.toArray)=true) (h:SWo P l r o (SWl P l r ops K L) t H):SWl P l r ops K (o::L) t H:=by
 unfold SWl;rw [if_pos hw];exact h
theorem swl_skip {ops:Array Oper} {L:List Oper} (hw:Region.wanted o (yielded ops t.toArray)=false) (h:SWl P l r ops K L (putL t o.dst undef) H):SWl P l r ops K (o::L) t H:=by
 unfold SWl;rw [if_neg (by rw [hw];simp)];exact h
theorem sem_plain {ρ:Operand->Value} (hd : ∀ c,o.op ≠ .defer c):o.semAt l ρ=execOp ρ o:=Oper.semAt_plain (FW l) ρ o hd
theorem eval_fun (t:List Value) (ds:List Deferred):(Act.mk t.toArray ds).eval=evalL t:=funext fun x=>eval_L t ds x
theorem swo_val {v:Value} (hd : ∀ c,o.op ≠ .defer c) (h : ∀ w:World,Emb r w->(execOp (evalL t) o).run P w = .ok (.value v) w) (hk:K (putL t o.dst v) H):SWo P l r o K t H:=by
 intro w h0 ds ok a
 refine ⟨fun _ _=>trivial,?_⟩
 rw [show (FW l).round=l from rfl,sem_plain hd,eval_fun,h w ok.ro,Oper.uponIn_value,put_L]
 exact ⟨_,H,h0,rfl,hk,a,To.refl ok⟩
def isDefer:Op->Bool
 | .defer _=>true
 | _=>false
theorem swo_kit (hd:isDefer o.op=false) (h : ∀ (w:World) (ds:List Deferred) (K':Act->World->Prop),(∀ t',K t' H->K' ⟨t'.toArray,ds⟩ w)->o.wpIn Fence.wide 0 P ⟨t.toArray,ds⟩ w K' noQ):SWo P l r o K t H:=by
 intro w h0 ds ok a
 have hh:=h w ds (After l r ds w h0 K) fun t' k=>⟨t',H,h0,rfl,k,a,To.refl ok⟩
 have hp : ∀ c,o.op ≠ .defer c:=by intro c hc;rw [hc] at hd;cases hd
 refine ⟨fun _ _=>trivial,?_⟩
 have h2:=hh.2
 rw [show Fence.wide.round=none from rfl,sem_plain hp] at h2
 rw [show (FW l).round=l from rfl,sem_plain hp]
 generalize (execOp (Act.eval ⟨t.toArray,ds⟩) o).run P w=rr at h2 ⊢
 cases rr with
 | ok x w'=>cases x<;>exact h2
 | halt x w'=>cases x<;>exact h2
theorem swo_run (hd : ∀ c,o.op ≠ .defer c) (h : ∀ (w:World) (g:Hp) (ds:List Deferred),Ok l r ds w g->all H g -> ∃ v w' H' h',(execOp (evalL t) o).run P w = .ok (.value v) w'/\K (putL t o.dst v) H'/\all H' h'/\To l r ds w g ds w' h'):SWo P l r o K t H:=by
 intro w g ds ok a
 obtain ⟨v,w',H',h',hr,k,al,to⟩:=h w g ds ok a
 refine ⟨fun _ _=>trivial,?_⟩
 rw [show (FW l).round=l from rfl,sem_plain hd,eval_fun,hr,Oper.uponIn_value,put_L]
 exact ⟨_,H',h',rfl,k,al,to⟩
theorem swo_run0 (hd : ∀ c,o.op ≠ .defer c) (h : ∀ (w:World) (g:Hp) (ds:List Deferred),Ok l r ds w g->all H g -> ∃ w' H' h',(execOp (evalL t) o).run P w = .ok .skip w'/\K (putL t o.dst undef) H'/\all H' h'/\To l r ds w g ds w' h'):SWo P l r o K t H:=by
 intro w g ds ok a
 obtain ⟨w',H',h',hr,k,al,to⟩:=h w g ds ok a
 refine ⟨fun _ _=>trivial,?_⟩
 rw [show (FW l).round=l from rfl,sem_plain hd,eval_fun,hr,Oper.uponIn_skip,put_L]
 exact ⟨_,H',h',rfl,k,al,to⟩
def Take (A:Ch) (H H':List Ch):Prop:=H.Perm (A::H')
theorem Take.here {A:Ch} {H:List Ch}:Take A (A::H) H:=List.Perm.refl _
theorem Take.there {A B:Ch} {H H':List Ch} (h:Take A H H'):Take A (B::H) (B::H'):=(List.Perm.cons B h).trans (List.Perm.swap A B H')
def Takes (As H H':List Ch):Prop:=H.Perm (As++H')
theorem Takes.nil {H:List Ch}:Takes [] H H:=List.Perm.refl _
theorem Takes.cons {A:Ch} {As H H1 H':List Ch} (h:Take A H H1) (k:Takes As H1 H'):Takes (A::As) H H':=h.trans (List.Perm.cons A k)
theorem Take.all {A:Ch} {H':List Ch} (h:Take A H H') {g:Hp} (a:all H g) : ∃ x y,dj x y/\g=un x y/\A x/\Sx.all H' y:=all_perm h a
def Rd1 (r:Hp) (H:List Ch) (a:Addr) (v:Value):Prop := ∀ (w:World) (g:Hp),Emb r w->Emb g w->all H g->w.cell? a=some v
theorem rd_r {b:Nat} {c:Array Value} {E:TypeId} {fz:Nat × Nat} {off:Nat} {v:Value} (h:r b=some (.cells c E fz)) (hc:c[off]?=some v):Rd1 r H ⟨b,off,none⟩ v :=
 fun w _ e _ _=>by unfold World.cell?;rw [e b _ h];simp [hc]
theorem rd_pt {b:Nat} {c:Array Value} {E:TypeId} {fz:Nat × Nat} {off:Nat} {v:Value} {H':List Ch} (h:Take (pt b (.cells c E fz)) H H') (hc:c[off]?=some v):Rd1 r H ⟨b,off,none⟩ v:=by
 intro w g _ e a
 obtain ⟨x,y,_,rfl,hx,_⟩:=h.all a
 have:w.heap[b]?=some (.cells c E fz):=e b _ (un_left (by rw [hx];exact one_same))
 unfold World.cell?;rw [this];simp [hc]
def aggB (P:Program) (T:TypeId):Option Bool:=match P.underlying T with|some (.struct _)=>some true|some (.array _ _)=>some true|some _=>some false|none=>none
def sizeB (P:Program) (T:TypeId):Option Nat:=(P.info? T).map (·.size)
def zeroB (P:Program) (T:TypeId):Option Value:=(P.info? T).bind (·.zero)
theorem run_isAgg {T:TypeId} {b:Bool} (h:aggB P T=some b) (w:World):(isAgg T).run P w = .ok b w:=by
 unfold aggB at h
 unfold isAgg underlying program
 cases hu:P.underlying T with
 | none=>simp [hu] at h
 | some d=>cases d<;>simp_all [Sem.run_bind,Sem.run,Result.andThen,Sem.run_pure]
theorem run_sizeOf {T:TypeId} {n:Nat} (h:sizeB P T=some n) (w:World):(sizeOf T).run P w = .ok n w:=by
 unfold sizeB at h
 unfold sizeOf typeInfo program
 cases hu:P.info? T with
 | none=>simp [hu] at h
 | some d=>simp_all [Sem.run_bind,Sem.run,Result.andThen,Sem.run_pure]
theorem run_zeroValue {T:TypeId} {z:Value} (h:zeroB P T=some z) (w:World):(zeroValue T).run P w = .ok z w:=by
 unfold zeroB at h
 unfold zeroValue typeInfo program
 cases hu:P.info? T with
 | none=>simp [hu] at h
 | some d =>
  simp only [hu,Option.bind_some] at h
  simp [Sem.run_bind,Sem.run,Result.andThen,Sem.run_pure,hu,h]
theorem run_load {a:Addr} {v:Value} {w:World} (h:w.cell? a=some v):(load a).run P w = .ok v w:=by
 simp [load,Sem.run,h]
theorem swo_load {T:TypeId} {x:Operand} {a:Addr} {v:Value} (ho:o.op = .load T x) (hT:aggB P T=some false) (hx:evalL t x = .pointer (some a)) (hc:Rd1 r H a v) (hk:K (putL t o.dst v) H):SWo P l r o K t H :=
 swo_run (by rw [ho];intro c hc;cases hc) fun w g ds ok al=>⟨v,w,H,g,by
  simp [execOp,ho,Instr.loadAt,Instr.sureAddr,hx,loadVar,Sem.run_bind,run_isAgg hT,Result.andThen,run_load (hc w g ok.ro ok.emb al)],hk,al,To.refl ok⟩
theorem run_loadCells {a:Addr} {w:World} : ∀ (n i:Nat) (acc vs:Array Value),vs.size=n->(∀ j (h:j<vs.size),w.cell? (a.add (i+j))=some vs[j])->(loadCellsFrom a i n acc).run P w = .ok (acc++vs) w
 | 0,i,acc,vs,hn,_=>by
  have:vs = #[]:=Array.eq_empty_of_size_eq_zero hn
  subst this;simp [loadCellsFrom,Sem.run_pure]
 | n+1,i,acc,vs,hn,h=>by
  have h0:=h 0 (by omega)
  simp only [Nat.add_zero] at h0
  have ih:=run_loadCells (a:=a) (w:=w) n (i+1) (acc.push vs[0]) (vs.extract 1 vs.size) (by simp;omega) (fun j hj=>by
   have:=h (1+j) (by simp at hj;omega)
   rw [show i+1+j=i+(1+j) by omega,this];simp)
  simp only [loadCellsFrom,Sem.run_bind,run_load h0,Result.andThen]
  rw [ih]
  congr 1
  apply Array.ext
  · simp;omega
  · intro k h1 h2
    simp only [Array.getElem_append,Array.size_push,Array.getElem_push]
    by_cases c:k<acc.size
    · simp [c,show k<acc.size+1 by omega]
    · by_cases c':k=acc.size
      · subst c';simp
      · simp only [show ¬ k<acc.size+1 by omega,c,dif_neg,not_false_eq_true,Array.getElem_extract]
        congr 1;omega
def RdN (r:Hp) (H:List Ch) (a:Addr) (vs:Array Value):Prop := ∀ j (h:j<vs.size),Rd1 r H (a.add j) vs[j]
theorem swo_loadN {T:TypeId} {x:Operand} {a:Addr} {vs:Array Value} (ho:o.op = .load T x) (hT:aggB P T=some true) (hn:sizeB P T=some vs.size) (hx:evalL t x = .pointer (some a)) (hc:RdN r H a vs) (hk:K (putL t o.dst (.agg vs)) H):SWo P l r o K t H :=
 swo_run (by rw [ho];intro c hc;cases hc) fun w g ds ok al=>⟨.agg vs,w,H,g,by
  have:=run_loadCells (P:=P) (a:=a) (w:=w) vs.size 0 #[] vs rfl (fun j hj=>by rw [Nat.zero_add];exact hc j hj w g ok.ro ok.emb al)
  simp [execOp,ho,Instr.loadAt,Instr.sureAddr,hx,loadVar,loadCells,Sem.run_bind,run_isAgg hT,run_sizeOf hn,Result.andThen,this],hk,al,To.refl ok⟩
theorem add_none (b off j:Nat):Addr.add ⟨b,off,none⟩ j=⟨b,off+j,none⟩:=by unfold Addr.add;split<;>simp_all
theorem rdN_pt {b:Nat} {c:Array Value} {E:TypeId} {fz:Nat × Nat} {off:Nat} {vs:Array Value} {H':List Ch} (h:Take (pt b (.cells c E fz)) H H') (hc : ∀ j (h:j<vs.size),c[off+j]?=some vs[j]):RdN r H ⟨b,off,none⟩ vs :=
 fun j hj=>by rw [add_none];exact rd_pt h (hc j hj)
theorem rdN_r {b:Nat} {c:Array Value} {E:TypeId} {fz:Nat × Nat} {off:Nat} {vs:Array Value} (h:r b=some (.cells c E fz)) (hc : ∀ j (h:j<vs.size),c[off+j]?=some vs[j]):RdN r H ⟨b,off,none⟩ vs :=
 fun j hj=>by rw [add_none];exact rd_r h (hc j hj)
theorem alloc_to {ds:List Deferred} {w:World} {g:Hp} (ok:Ok l r ds w g) (ob:Obj):dj (one w.heap.size ob) g/\To l r ds w g ds (w.alloc ob) (un (one w.heap.size ob) g):=by
 have d:dj (one w.heap.size ob) g:=fun b=>by
  by_cases e:b=w.heap.size
  · right
    cases hg:g b with
    | none=>rfl
    | some u=>have:=ok.emb.lt (b:=b) (by simp [hg]);omega
  · left;simp [one,e]
 refine ⟨d,To.step ok rfl rfl rfl (by simp) (fun b hb _=>Below.heap_alloc w ob b hb) ?_ ?_⟩
 · intro b u hb
   rcases un_some hb with hb|hb
   · obtain ⟨rfl,rfl⟩:=one_some hb;exact World.alloc_heap_new w _
   · rw [Below.heap_alloc w ob b (ok.emb.lt (by simp [hb]))];exact ok.emb b u hb
 · intro b hb
   rcases un_ne.1 hb with hb|hb
   · exact .inr (by rw [one_ne hb];exact Nat.le_refl _)
   · exact .inl hb
theorem swo_box {E:TypeId} {x:Operand} {v:Value} (ho:o.op = .box E x) (hx:evalL t x=v) (hk : ∀ b,K (putL t o.dst (.pointer (some ⟨b,0,none⟩))) (pt b (.cells v.cells E (0,0))::H)):SWo P l r o K t H :=
 swo_run (by rw [ho];intro c hc;cases hc) fun w g ds ok al=>by
  obtain ⟨d,to⟩:=alloc_to ok (.cells v.cells E (0,0))
  exact ⟨_,_,_,_,by simp [execOp,ho,Instr.box,newVar,newRow,Result.andThen,hx],hk w.heap.size,⟨_,_,d,rfl,rfl,al⟩,to⟩
theorem swo_alloc {E:TypeId} {z:Value} (ho:o.op = .alloc E) (hz:zeroB P E=some z) (hk : ∀ b,K (putL t o.dst (.pointer (some ⟨b,0,none⟩))) (pt b (.cells z.cells E (0,0))::H)):SWo P l r o K t H :=
 swo_run (by rw [ho];intro c hc;cases hc) fun w g ds ok al=>by
  obtain ⟨d,to⟩:=alloc_to ok (.cells z.cells E (0,0))
  exact ⟨_,_,_,_,by simp [execOp,ho,Instr.alloc,newVar,newRow,Sem.run_bind,run_zeroValue hz,Result.andThen],hk w.heap.size,⟨_,_,d,rfl,rfl,al⟩,to⟩
def one? (v:Value):Bool:=match v with | .agg _=>false | .tuple _=>false | _=>true
theorem set_to {ds:List Deferred} {w:World} {b off:Nat} {c:Array Value} {E:TypeId} {fz:Nat × Nat} {y:Hp} (d:dj (one b (.cells c E fz)) y) (ok:Ok l r ds w (un (one b (.cells c E fz)) y)) (v:Value) :
 dj (one b (.cells (c.setIfInBounds off v) E fz)) y/\To l r ds w (un (one b (.cells c E fz)) y) ds (w.setCell ⟨b,off,none⟩ v) (un (one b (.cells (c.setIfInBounds off v) E fz)) y):=by
 have d':dj (one b (.cells (c.setIfInBounds off v) E fz)) y:=fun k=>by
  rcases d k with e|e
  · left;unfold one at *;split at e<;>simp_all
  · exact .inr e
 have hb:w.heap[b]?=some (.cells c E fz):=ok.emb b _ (un_left one_same)
 refine ⟨d',To.step ok rfl rfl rfl (by simp [World.setCell]) ?_ ?_ ?_⟩
 · intro k hk hn
   refine Below.heap_setCell w _ v k ?_
   rintro rfl
   have:=(un_none.1 hn).1
   simp [one] at this
 · intro k u hk
   rcases un_some hk with hz|hz
   · obtain ⟨rfl,rfl⟩:=one_some hz;simp [World.setCell,Array.getElem?_modify,hb]
   · refine (Below.heap_setCell w _ v k ?_).trans (ok.emb k u (un_right d hz))
     intro e
     have h1:=(d k).resolve_left (by rw [show k=b from e];simp [one])
     rw [h1] at hz;cases hz
 · intro k hk
   rcases un_ne.1 hk with hk|hk
   · left;exact un_ne.2 (.inl (by rw [one_ne hk];simp [one]))
   · exact .inl (un_ne.2 (.inr hk))
theorem run_store1 {w:World} {b off:Nat} {c:Array Value} {E:TypeId} {v:Value} (hb:w.heap[b]?=some (.cells c E (0,0))) (ho:off<c.size) (hv:one? v=true):(store ⟨b,off,none⟩ v).run P w = .ok () (w.setCell ⟨b,off,none⟩ v):=by
 have h1:w.cell? ⟨b,off,none⟩=some c[off]:=by simp [World.cell?,hb,ho]
 have h2:w.frozen? ⟨b,off,none⟩=false:=by simp [World.frozen?,hb]
 unfold store
 cases v<;>simp_all [Sem.run,one?]
theorem swo_store {T:TypeId} {x y:Operand} {b off:Nat} {c:Array Value} {E:TypeId} {v:Value} {H':List Ch} (ho:o.op = .store T x y) (hT:sizeB P T=some 1) (hx:evalL t x = .pointer (some ⟨b,off,none⟩)) (hy:evalL t y=v) (hv:one? v=true)
 (hm:Take (pt b (.cells c E (0,0))) H H') (hoff:off<c.size) (hk:K (putL t o.dst undef) (pt b (.cells (c.setIfInBounds off v) E (0,0))::H')):SWo P l r o K t H :=
 swo_run0 (by rw [ho];intro c hc;cases hc) fun w g ds ok al=>by
  obtain ⟨x1,y1,d,rfl,hx1,al'⟩:=hm.all al
  obtain rfl:x1=one b (.cells c E (0,0)):=hx1
  obtain ⟨d',to⟩:=set_to (off:=off) d ok v
  have hb:w.heap[b]?=some (.cells c E (0,0)):=ok.emb b _ (un_left one_same)
  have hvc:v.cells = #[v]:=by cases v<;>simp_all [one?,Value.cells]
  refine ⟨_,_,_,?_,hk,⟨_,_,d',rfl,rfl,al'⟩,to⟩
  simp [execOp,ho,Instr.storeAt,Instr.sureAddr,hx,hy,storeVar,hvc,storeCells,Sem.run_bind,run_sizeOf hT,Result.andThen,add_none,run_store1 hb hoff hv]
def setN (c:Array Value) (off:Nat):List Value->Array Value
 | []=>c
 | v::vs=>setN (c.setIfInBounds off v) (off+1) vs
theorem run_storeN {b off:Nat} {E:TypeId} : ∀ (vs:List Value) (i:Nat) (c:Array Value) (y:Hp) (ds:List Deferred) (w:World),dj (one b (.cells c E (0,0))) y->Ok l r ds w (un (one b (.cells c E (0,0))) y)->off+i+vs.length<=c.size->(∀ v∈vs,one? v=true) ->
 ∃ w',(storeCells ⟨b,off,none⟩ vs i).run P w = .ok () w'/\dj (one b (.cells (setN c (off+i) vs) E (0,0))) y/\To l r ds w (un (one b (.cells c E (0,0))) y) ds w' (un (one b (.cells (setN c (off+i) vs) E (0,0))) y)
 | [],i,c,y,ds,w,d,ok,_,_=>⟨w,by simp [storeCells,Sem.run_pure],d,To.refl ok⟩
 | v::vs,i,c,y,ds,w,d,ok,hl,hv=>by
  have hb:w.heap[b]?=some (.cells c E (0,0)):=ok.emb b _ (un_left one_same)
  simp only [List.length_cons] at hl
  obtain ⟨d',to⟩:=set_to (off:=off+i) d ok v
  obtain ⟨w',hr,d2,to2⟩:=run_storeN (off:=off) vs (i+1) (c.setIfInBounds (off+i) v) y ds (w.setCell ⟨b,off+i,none⟩ v) d' to.ok (by rw [Array.size_setIfInBounds];omega) (fun u hu=>hv u (List.mem_cons_of_mem _ hu))
  refine ⟨w',?_,d2,to.trans to2⟩
  simp [storeCells,Sem.run_bind,Result.andThen,add_none,run_store1 hb (show off+i<c.size by omega) (hv v List.mem_cons_self),hr]
theorem swo_storeN {T:TypeId} {x y:Operand} {b off:Nat} {c:Array Value} {E:TypeId} {vs:List Value} {H':List Ch} (ho:o.op = .store T x y) (hT:sizeB P T=some vs.length) (hx:evalL t x = .pointer (some ⟨b,off,none⟩)) (hy:evalL t y = .agg vs.toArray) (hv : ∀ v∈vs,one? v=true)
 (hm:Take (pt b (.cells c E (0,0))) H H') (hoff:off+vs.length<=c.size) (hk:K (putL t o.dst undef) (pt b (.cells (setN c off vs) E (0,0))::H')):SWo P l r o K t H :=
 swo_run0 (by rw [ho];intro c hc;cases hc) fun w g ds ok al=>by
  obtain ⟨x1,y1,d,rfl,hx1,al'⟩:=hm.all al
  obtain rfl:x1=one b (.cells c E (0,0)):=hx1
  obtain ⟨w',hr,d',to⟩:=run_storeN (P:=P) (off:=off) vs 0 c y1 ds w d ok (by omega) hv
  refine ⟨_,_,_,?_,hk,⟨_,_,d',rfl,rfl,al'⟩,to⟩
  simp [execOp,ho,Instr.storeAt,Instr.sureAddr,hx,hy,storeVar,Value.cells,Sem.run_bind,run_sizeOf hT,Result.andThen,hr]
theorem Tri.in {f:FuncId} {args:List Value} {Hc Hf:List Ch} {R:Rt} (hc:Tri P r f args Hc R) (hp:Takes Hc H Hf) {w:World} {g:Hp} {ds:List Deferred} (ok:Ok l r ds w g) (al:all H g) :
 Calls P f args.toArray w fun e w' => ∃ v H' h',e = .returned v/\R v H'/\all (H'++Hf) h'/\To l r ds w g ds w' h':=by
 obtain ⟨a,b,d,rfl,ha,hb⟩:=all_app.1 (all_perm hp al)
 refine (hc w a ok.left.bare ha).mono ?_
 rintro e w' ⟨v,H',h',rfl,hR,al',to⟩
 obtain ⟨d',to'⟩:=To.frame ok d (To.lift ok.left to)
 exact ⟨v,H',_,rfl,hR,all_app.2 ⟨_,_,d',rfl,al',hb⟩,to'⟩
theorem swo_call {fo:Operand} {as:List Operand} {tys:Array TypeId} {f:FuncId} {cap:List Value} {args:List Value} {Hc Hf:List Ch} {R:Rt} (ho:o.op = .call { callee:= .value fo,args:=as.toArray,argTypes:=tys })
 (hg:GoesTo P f) (hf:evalL t fo = .func (.func f) #[] cap.toArray) (ha:as.map (evalL t)++cap=args) (hc:Tri P r f args Hc R) (hp:Takes Hc H Hf)
 (hk : ∀ v H',R v H'->K (putL t o.dst v) (H'++Hf)):SWo P l r o K t H:=by
 intro w g ds ok al
 refine ⟨fun _ _=>trivial,?_⟩
 rw [show (FW l).round=l from rfl,sem_plain (by rw [ho];intro c hc;cases hc),eval_fun]
 have hrun:(execOp (evalL t) o).run P w = .ok (.enter f args.toArray) w:=by
  have e1:(List.map (evalL t) as).toArray++cap.toArray=args.toArray:=by rw [← ha];simp
  have e2:(execOp (evalL t) o).run P w=(callFunc f ((List.map (evalL t) as).toArray++cap.toArray)).run P w:=by
   simp [execOp,ho,resolve,hf,Deferred.ofValue,invoke]
  rw [e2,e1];exact hg _ w
 rw [hrun,Oper.uponIn_enter]
 refine ⟨fun c=>(by cases c),?_⟩
 have h1:CallsIn (FW l) 0 P f args.toArray w fun e w' => ∃ v H' h',e = .returned v/\R v H'/\all (H'++Hf) h'/\To l r ds w g ds w' h':=by
  have:=callsIn_wide (n:=0).2 (hc.in hp ok al)
  cases l with
  | none=>exact this
  | some k=>exact CallsIn.inRound k this
 refine h1.mono ?_
 rintro e w' ⟨v,H',h',rfl,hR,al',to⟩
 refine ⟨_,_,_,put_L _ _ _ _,hk v H' hR,al',to⟩
end
end Sx
end Go.Proofs.YteknekiclhnkiaaGreatDoor
namespace Go.Proofs.YteknekiclhnkiaaGreatDoor
open Go.RowKit
namespace Sx
section
variable {P : Program} {l : Option Nat} {r : Hp} {Q : Exit → St} {K : St} {t : List Value} {H : List Ch} {d : Option Tmp} {ty : TypeId} {pos : String} {af : Array Edge} {gd : Option (Nat × Bool)} {o : Oper}
theorem goesOf {f : FuncId} {fn : Func} {c : Code} (hf : P.funcs[f]? = some fn) (hname : (fn.name == "runtime.NumGoroutine") = false) (hb : fn.body = some c) : GoesTo P f := by
 intro args w
 have hn:fn.body.isNone=false:=by rw [hb];rfl
 simp only [callFunc,program,Sem.run_bind,Sem.run,Result.andThen,hf,hname,hn,Bool.false_eq_true,if_false,Sem.run_pure]
theorem putK {v : Value} (h : ∀ (w : World) (K' : Act → World → Prop), (∀ t', K t' H → K' ⟨t'.toArray, []⟩ w) → (Oper.mk d (.assign (.const v)) 0 "" #[] none).wpIn Fence.wide 0 P ⟨t.toArray, []⟩ w K' noQ) : K (putL t d v) H := by
 have h1:=h default (fun a _ => ∃ t',a=⟨t'.toArray,[]⟩/\K t' H) (fun t' k=>⟨t',rfl,k⟩)
 have h2:=h1.2
 rw [show Fence.wide.round = none from rfl, sem_plain (o := Oper.mk d (.assign (.const v)) 0 "" #[] none) (fun c hc => by cases hc)] at h2
 simp only [execOp,Sem.run_pure,Oper.uponIn_value,Act.eval,put_L] at h2
 obtain ⟨t',e,k⟩:=h2
 have:putL t d v=t':=by injection e with e1 _;simpa using e1
 rw [this];exact k
def evO (t:List Value):Operand->Option Value
 | .tmp n=>t[n]?
 | .const v=>some v
 | .global g=>some (.pointer (some ⟨g,0,none⟩))
 | .func f=>some (.func (.func f) #[] #[])
theorem ev_of {x:Operand} {v:Value} (h:evO t x=some v):evalL t x=v:=by
 cases x<;>simp_all [evO,evalL,List.getD_eq_getElem?_getD]
inductive SetAt:List Value->Nat->Value->List Value->Prop
 | here {a v:Value} {as:List Value}:SetAt (a::as) 0 v (v::as)
 | there {a v:Value} {as as':List Value} {n:Nat} (h:SetAt as n v as'):SetAt (a::as) (n+1) v (a::as')
theorem SetAt.set {as as':List Value} {n:Nat} {v:Value} (h:SetAt as n v as'):as.set n v=as'/\n<as.length:=by
 induction h with
 | here=>exact ⟨rfl,by simp⟩
 | there _ ih=>exact ⟨by rw [List.set_cons_succ,ih.1],by simp;exact ih.2⟩
theorem cells_agg {cs:Array Value}:(Value.agg cs).cells=cs:=rfl
theorem cells_one {v:Value} (h:one? v=true):v.cells = #[v]:=by cases v<;>simp_all [one?,Value.cells]
theorem rl_pt {b:Nat} {c:List Value} {E:TypeId} {fz:Nat × Nat} {off:Nat} {v:Value} {H':List Ch} (h:Take (pt b (.cells c.toArray E fz)) H H') (hc:c[off]?=some v):Rd1 r H ⟨b,off,none⟩ v:=rd_pt h (by simpa using hc)
theorem rl_r {b:Nat} {c:List Value} {E:TypeId} {fz:Nat × Nat} {off:Nat} {v:Value} (h:r b=some (.cells c.toArray E fz)) (hc:c[off]?=some v):Rd1 r H ⟨b,off,none⟩ v:=rd_r h (by simpa using hc)
def cut (c:List Value) (off n:Nat):List Value:=(c.drop off).take n
theorem rlN_pt {b:Nat} {c vs:List Value} {E:TypeId} {fz:Nat × Nat} {off n:Nat} {H':List Ch} (h:Take (pt b (.cells c.toArray E fz)) H H') (hc:cut c off n=vs):RdN r H ⟨b,off,none⟩ vs.toArray :=
 rdN_pt h fun j hj=>by
  subst hc
  simp only [cut,List.size_toArray,List.length_take,List.length_drop,List.getElem_toArray,List.getElem_take,List.getElem_drop,List.getElem?_toArray] at hj ⊢
  exact List.getElem?_eq_getElem (by omega)
theorem rlN_r {b:Nat} {c vs:List Value} {E:TypeId} {fz:Nat × Nat} {off n:Nat} (h:r b=some (.cells c.toArray E fz)) (hc:cut c off n=vs):RdN r H ⟨b,off,none⟩ vs.toArray :=
 rdN_r h fun j hj=>by
  subst hc
  simp only [cut,List.size_toArray,List.length_take,List.length_drop,List.getElem_toArray,List.getElem_take,List.getElem_drop,List.getElem?_toArray] at hj ⊢
  exact List.getElem?_eq_getElem (by omega)
theorem kx_load {T:TypeId} {x:Operand} {a:Addr} {v:Value} (hT:aggB P T=some false) (hx:evO t x=some (.pointer (some a))) (hc:Rd1 r H a v) (hk:K (putL t d v) H):SWo P l r ⟨d,.load T x,ty,pos,af,gd⟩ K t H:=swo_load rfl hT (ev_of hx) hc hk
theorem kx_loadN {T:TypeId} {x:Operand} {a:Addr} {vs:List Value} {n:Nat} (hT:aggB P T=some true) (hn:sizeB P T=some n) (hx:evO t x=some (.pointer (some a))) (hc:RdN r H a vs.toArray) (hl:vs.length=n) (hk:K (putL t d (.agg vs.toArray)) H):SWo P l r ⟨d,.load T x,ty,pos,af,gd⟩ K t H:=swo_loadN rfl hT (by simpa [hl] using hn) (ev_of hx) hc hk
theorem kx_box {E:TypeId} {x:Operand} {v:Value} {cs:Array Value} (hx:evO t x=some v) (hcs:v.cells=cs) (hk : ∀ b,K (putL t d (.pointer (some ⟨b,0,none⟩))) (pt b (.cells cs E (0,0))::H)):SWo P l r ⟨d,.box E x,ty,pos,af,gd⟩ K t H:=swo_box rfl (ev_of hx) (hcs ▸ hk)
theorem kx_alloc {E:TypeId} {z:Value} {cs:Array Value} (hz:zeroB P E=some z) (hcs:z.cells=cs) (hk : ∀ b,K (putL t d (.pointer (some ⟨b,0,none⟩))) (pt b (.cells cs E (0,0))::H)):SWo P l r ⟨d,.alloc E,ty,pos,af,gd⟩ K t H:=swo_alloc rfl hz (hcs ▸ hk)
def Swp (A B:Ch) (H H1:List Ch):Prop := ∃ X,Take A H X/\Take B H1 X
theorem Swp.here {A B:Ch} {H:List Ch}:Swp A B (A::H) (B::H):=⟨H,Take.here,Take.here⟩
theorem Swp.there {A B C:Ch} {H H1:List Ch} (h:Swp A B H H1):Swp A B (C::H) (C::H1):=by
 obtain ⟨X,a,b⟩:=h;exact ⟨C::X,a.there,b.there⟩
theorem swo_permK (h:SWo P l r o (fun t' H' => ∃ H1,H1.Perm H'/\K t' H1) t H):SWo P l r o K t H:=by
 intro w h0 ds ok al
 refine wpIn_noQ ?_ (h w h0 ds ok al)
 rintro a' w' ⟨t',H',k',rfl,⟨H1,hp,hk⟩,al',tb⟩
 exact ⟨t',H1,k',rfl,hk,all_perm hp.symm al',tb⟩
theorem sw_takeG {c:Code} {As G:List Ch} (hp:Takes As H G) (h:SW P l r c Q t As):SW P l r c Q t H:=by
 intro w h' ds o a
 obtain ⟨x,y,d,rfl,hx,_⟩:=all_app.1 (all_perm hp a)
 refine wpIn_mono (h w x ds o.left hx) ?_
 intro e b w' p
 obtain ⟨t',H',h1,ds',rfl,q,al,to⟩:=p.act
 have to':To l r ds w (un x y) ds' w' h1:=⟨to.ok,to.os,to.tape,to.output,to.size,fun b hb hn=>to.keep b hb (un_none.1 hn).1,fun b hb=>(to.dom b hb).imp_left fun c=>un_ne.2 (.inl c),to.grew⟩
 cases e with
 | panic _=>exact p.elim
 | outgrown=>exact p.elim
 | _=>exact Post.mk' trivial q al to'
theorem kx_store {T:TypeId} {x y:Operand} {b off:Nat} {c c':List Value} {E:TypeId} {v:Value} {H1:List Ch} (hT:sizeB P T=some 1) (hx:evO t x=some (.pointer (some ⟨b,off,none⟩))) (hy:evO t y=some v) (hm:Swp (pt b (.cells c.toArray E (0,0))) (pt b (.cells c'.toArray E (0,0))) H H1) (hv:one? v=true)
 (hs:SetAt c off v c') (hk:K (putL t d undef) H1):SWo P l r ⟨d,.store T x y,ty,pos,af,gd⟩ K t H:=by
 obtain ⟨rfl,h2⟩:=hs.set
 obtain ⟨X,m1,m2⟩:=hm
 refine swo_permK (swo_store rfl hT (ev_of hx) (ev_of hy) hv m1 (by simpa using h2) ⟨H1,?_,hk⟩)
 rw [List.setIfInBounds_toArray];exact m2
theorem kx_storeA {T:TypeId} {x y:Operand} {b off:Nat} {c:Array Value} {E:TypeId} {v:Value} {H':List Ch} (hT:sizeB P T=some 1) (hx:evO t x=some (.pointer (some ⟨b,off,none⟩))) (hy:evO t y=some v) (hm:Take (pt b (.cells c E (0,0))) H H') (hv:one? v=true)
 (hoff:off<c.size) (hk:K (putL t d undef) (pt b (.cells (c.setIfInBounds off v) E (0,0))::H')):SWo P l r ⟨d,.store T x y,ty,pos,af,gd⟩ K t H :=
 swo_store rfl hT (ev_of hx) (ev_of hy) hv hm hoff hk
inductive SetsAt:List Value->Nat->List Value->List Value->Prop
 | nil {c:List Value} {n:Nat}:SetsAt c n [] c
 | cons {c c1 c2:List Value} {n:Nat} {v:Value} {vs:List Value} (h:SetAt c n v c1) (k:SetsAt c1 (n+1) vs c2):SetsAt c n (v::vs) c2
theorem SetsAt.set {c c2 vs:List Value} {n:Nat} (h:SetsAt c n vs c2):setN c.toArray n vs=c2.toArray/\(vs=[]\/n+vs.length<=c.length):=by
 induction h with
 | nil=>exact ⟨rfl,.inl rfl⟩
 | cons h _ ih =>
  obtain ⟨rfl,h2⟩:=h.set
  refine ⟨by simp only [setN,List.setIfInBounds_toArray];exact ih.1,.inr ?_⟩
  rcases ih.2 with rfl|h3
  · simp;omega
  · simp at h3 ⊢;omega
theorem kx_storeN {T:TypeId} {x y:Operand} {b off n:Nat} {c c':List Value} {E:TypeId} {v:Value} {vs:List Value} {H':List Ch} (hT:sizeB P T=some n) (hx:evO t x=some (.pointer (some ⟨b,off,none⟩))) (hy:evO t y=some (.agg (v::vs).toArray)) (hl:(v::vs).length=n) (hm:Swp (pt b (.cells c.toArray E (0,0))) (pt b (.cells c'.toArray E (0,0))) H H') (hv:(v::vs).all one?=true)
 (hs:SetsAt c off (v::vs) c') (hk:K (putL t d undef) H'):SWo P l r ⟨d,.store T x y,ty,pos,af,gd⟩ K t H:=by
 obtain ⟨h1,h2⟩:=hs.set
 rcases h2 with h2|h2
 · cases h2
 · obtain ⟨X,m1,m2⟩:=hm
   exact swo_permK (swo_storeN rfl (by rw [hl];exact hT) (ev_of hx) (ev_of hy) (by simpa using hv) m1 (by simpa using h2) ⟨H',h1 ▸ m2,hk⟩)
def evs (t:List Value):List Operand->Option (List Value)
 | []=>some []
 | x::xs=>match evO t x,evs t xs with
  | some v,some vs=>some (v::vs)
  | _,_=>none
theorem evs_of : ∀ {as:List Operand} {xs:List Value},evs t as=some xs->as.map (evalL t)=xs
 | [],xs,h=>by cases h;rfl
 | x::as,xs,h=>by
  unfold evs at h
  cases h1:evO t x with
  | none=>simp [h1] at h
  | some v =>
   cases h2:evs t as with
   | none=>simp [h1,h2] at h
   | some vs =>
    simp only [h1,h2,Option.some.injEq] at h
    rw [← h,List.map_cons,ev_of h1,evs_of h2]
theorem kx_call {fo:Operand} {as:List Operand} {tys:Array TypeId} {f:FuncId} {cap:List Value} {xs:List Value} {Hc Hf:List Ch} {R:Rt} (hg:GoesTo P f) (hf:evO t fo=some (.func (.func f) #[] cap.toArray)) (ha:evs t as=some xs) (hc:Tri P r f (xs++cap) Hc R) (hp:Takes Hc H Hf)
 (hk : ∀ v H',R v H'->K (putL t d v) (H'++Hf)):SWo P l r ⟨d,.call { callee:= .value fo,args:=as.toArray,argTypes:=tys },ty,pos,af,gd⟩ K t H:=swo_call rfl hg (ev_of hf) (by rw [evs_of ha]) hc hp hk
theorem kx_skip {ops:Array Oper} {L:List Oper} {op:Op} (hw:Region.wanted ⟨d,op,ty,pos,af,gd⟩ (yielded ops t.toArray)=false) (h:SWl P l r ops K L (putL t d undef) H):SWl P l r ops K (⟨d,op,ty,pos,af,gd⟩::L) t H:=swl_skip hw h
theorem then_n {M:St} (h:M t H):Then M Q .normal t H:=h
theorem then_e {M:St} {i:Nat} (h:Q (.exit i) t H):Then M Q (.exit i) t H:=h
theorem then_r {M:St} (h:Q .ret t H):Then M Q .ret t H:=h
theorem blk_n {id:Nat} (h:Q .normal t H):Blk id Q .normal t H:=h
theorem blk_r {id:Nat} (h:Q .ret t H):Blk id Q .ret t H:=h
theorem blk_e {id:Nat} (h:Q .normal t H):Blk id Q (.exit id) t H:=by simp only [Blk,if_true];exact h
theorem blk_x {id i:Nat} (hi:(i == id)=false) (h:Q (.exit i) t H):Blk id Q (.exit i) t H:=by simp only [Blk];rw [if_neg (by simpa using hi)];exact h
def AllN:Nat->(List Value->Prop)->Prop
 | 0,P=>P []
 | n+1,P => ∀ u,AllN n fun l=>P (u::l)
theorem all_len : ∀ {n:Nat} {P:List Value->Prop},AllN n P -> ∀ us:List Value,us.length=n->P us
 | 0,P,h,us,e=>by cases us with
  | nil=>exact h
  | cons _ _=>cases e
 | n+1,P,h,us,e=>by cases us with
  | nil=>cases e
  | cons u us=>exact all_len (P:=fun l=>P (u::l)) (h u) us (by simpa using e)
theorem res_1 {fn:Func} {d:Tmp} {v:Value} (hr:fn.results = #[.tmp d]) (hv:t[d]?=some v):Res P r fn t H v:=by
 intro w g _ _ _
 have:=results_tmp (P:=P) hr t.toArray w
 rw [this]
 simp [hv,Array.getD_eq_getD_getElem?]
theorem res_2 {fn:Func} {d e:Tmp} {v u:Value} (hr:fn.results = #[.tmp d,.tmp e]) (hv:t[d]?=some v) (hu:t[e]?=some u):Res P r fn t H (.tuple #[v,u]):=by
 intro w g _ _ _
 rw [results_tmp2 (P:=P) hr t.toArray w]
 simp [hv,hu,Array.getD_eq_getD_getElem?]
theorem res_c {fn:Func} {d:Tmp} {T:TypeId} {a:Addr} {v:Value} (hr:fn.results = #[.cell d T]) (hT:aggB P T=some false) (hv:t[d]?=some (.pointer (some a))) (hc:Rd1 r H a v):Res P r fn t H v:=by
 intro w g e e' al
 have h1:=hc w g e' e al
 have h2:t.toArray.getD d undef = .pointer (some a):=by simp [hv,Array.getD_eq_getD_getElem?]
 simp [results,hr,hv,asAddr,load,Sem.run,h1,loadVar,Sem.run_bind,run_isAgg hT,Result.andThen]
theorem res_0 {fn:Func} (hr:fn.results = #[]):Res P r fn t H (.tuple #[]):=fun _w _g _ _ _=>results_none hr _ _ _
theorem fp_ret {fn:Func} {res:List Value->List Ch->Value->Prop} {R:Rt} {v:Value} (h:res t H v) (hR:R v H):FnPost P fn res R .ret t H:=⟨v,h,hR⟩
theorem fp_end {fn:Func} {res:List Value->List Ch->Value->Prop} {R:Rt} {v:Value} (h:res t H v) (hR:R v H):FnPost P fn res R .normal t H:=⟨v,h,hR⟩
end
end Sx
end Go.Proofs.YteknekiclhnkiaaGreatDoor
namespace Go.Proofs.YteknekiclhnkiaaGreatDoor
open Go.RowKit
namespace Sx
def Yld (P:Program) (r:Hp) (k:Nat) (args:List Value) (J J1 Jx:Ch):Prop :=
 ∀ (w:World) (h:Hp),Ok none r [] w h->J h -> ∃ fn tmps assign body,(Instr.yield k args.toArray).run P w = .ok (.round k fn tmps assign body) w /\
  RoundIn Fence.wide 0 P k fn tmps assign body w fun e w' => ∃ b h',e = .returned (.bool b)/\(if b then J1 h' else Jx h')/\To none r [] w h [] w' h'
def Seq {α:Type} (P:Program) (r:Hp) (g:FuncId) (lb:List Value) (encs:α->List Value) (xs:List α) (H0 Hend:List Ch):Prop :=
 ∀ (k:Nat) (J Jx:Nat->Ch),(∀ i (hi:i<xs.length),Yld P r k (encs xs[i]) (J i) (J (i+1)) (Jx (i+1))) ->
  Tri P r g (.func (.yield k) #[] #[]::lb) (J 0::H0) fun _ H'=>H'=J xs.length::Hend \/ ∃ i Hx,i<xs.length/\H'=Jx (i+1)::Hx
def SeqG {α:Type} (P:Program) (r:Hp) (g:FuncId) (lb:List Value) (A:α->List Value->List Ch->Prop) (xs:List α) (H0 Hend:List Ch):Prop :=
 ∀ (k:Nat) (J Jx:Nat->Ch),(∀ i (hi:i<xs.length) args C,A xs[i] args C->Yld P r k args (all (J i::C)) (J (i+1)) (Jx (i+1))) ->
  Tri P r g (.func (.yield k) #[] #[]::lb) (J 0::H0) fun _ H'=>H'=J xs.length::Hend \/ ∃ i Hx,i<xs.length/\H'=Jx (i+1)::Hx
theorem Yld.pre {P:Program} {r:Hp} {k:Nat} {args:List Value} {J J' J1 Jx:Ch} (h:Yld P r k args J J1 Jx) (hj : ∀ g,J' g->J g):Yld P r k args J' J1 Jx:=fun w g ok hg=>h w g ok (hj g hg)
theorem Seq.toG {α:Type} {P:Program} {r:Hp} {g:FuncId} {lb:List Value} {encs:α->List Value} {xs:List α} {H0 Hend:List Ch} (h:Seq P r g lb encs xs H0 Hend):SeqG P r g lb (fun x args C=>args=encs x/\C=[]) xs H0 Hend :=
 fun k J Jx hy=>h k J Jx fun i hi=>(hy i hi _ [] ⟨rfl,rfl⟩).pre fun g hg=>⟨g,emp,dj_emp,un_emp.symm,hg,rfl⟩
section
variable {P : Program} {l : Option Nat} {r : Hp} {Q : Exit → St} {K : St} {t : List Value} {H : List Ch} {d : Option Tmp} {ty : TypeId} {pos : String} {af : Array Edge} {gd : Option (Nat × Bool)}
theorem kx_yield {fo:Operand} {as:List Operand} {tys:Array TypeId} {k:Nat} {args:List Value} {J J1 Jx:Ch} {H':List Ch} (hf:evO t fo=some (.func (.yield k) #[] #[])) (hy:Yld P r k args J J1 Jx) (ha:as.map (evalL t)=args) (hp:Take J H H')
 (h1:K (putL t d (.bool true)) (J1::H')) (h2:K (putL t d (.bool false)) (Jx::H')):SWo P l r ⟨d,.call { callee:= .value fo,args:=as.toArray,argTypes:=tys },ty,pos,af,gd⟩ K t H:=by
 intro w g ds ok al
 refine ⟨fun _ _=>trivial,?_⟩
 rw [show (FW l).round=l from rfl,sem_plain (by intro c hc;cases hc),eval_fun]
 obtain ⟨x,y,dd,rfl,hx,hy'⟩:=hp.all al
 obtain ⟨fn,tmps,assign,body,hrun,hR⟩:=hy w x ok.left.bare hx
 have e2:(execOp (evalL t) ⟨d,.call { callee:= .value fo,args:=as.toArray,argTypes:=tys },ty,pos,af,gd⟩).run P w = .ok (.round k fn tmps assign body) w:=by
  rw [← hrun,← ha]
  simp [execOp,resolve,ev_of hf,Deferred.ofValue,invoke]
 rw [e2,Oper.uponIn_round]
 refine ⟨fun c=>(by cases c),?_⟩
 have h3:RoundIn (FW l) 0 P k fn tmps assign body w fun e w' => ∃ b h',e = .returned (.bool b)/\(if b then J1 h' else Jx h')/\To none r [] w x [] w' h':=hR
 refine h3.mono ?_
 rintro e w' ⟨b,h',rfl,hj,to⟩
 obtain ⟨d',to'⟩:=To.frame ok dd (To.lift ok.left to)
 cases b
 · exact ⟨_,_,_,put_L _ _ _ _,h2,⟨_,_,d',rfl,by simpa using hj,hy'⟩,to'⟩
 · exact ⟨_,_,_,put_L _ _ _ _,h1,⟨_,_,d',rfl,by simpa using hj,hy'⟩,to'⟩
def pars (t:List Value) (ps:List Tmp) (args:List Value):List Value:=(ps.zip args).foldl (fun t (p,v)=>t.set p v) t
theorem pars_arr (ps:List Tmp) : ∀ (args:List Value) (t:List Value),(ps.toArray.zip args.toArray).foldl (fun t (p,v)=>t.setIfInBounds p v) t.toArray=(pars t ps args).toArray:=by
 intro args t
 simp only [pars,List.zip_toArray,List.foldl_toArray]
 generalize ps.zip args=z
 induction z generalizing t with
 | nil=>rfl
 | cons x z ih=>simp only [List.foldl_cons,List.setIfInBounds_toArray];exact ih _
def RQ (I:Nat->List Ch->Prop) (Ix:Code->Nat->List Ch->Prop) (k:Nat):Exit->St
 | .normal,_,H=>I k H
 | .ret,_,H=>Ix .ret k H
 | .exit i,_,H=>Ix (.exit i) k H
 | .goto i,_,H=>Ix (.goto i) k H
 | _,_,_=>False
theorem rq_n {I:Nat->List Ch->Prop} {Ix:Code->Nat->List Ch->Prop} {k:Nat} {t:List Value} {H:List Ch} (h:I k H):RQ I Ix k .normal t H:=h
theorem rq_r {I:Nat->List Ch->Prop} {Ix:Code->Nat->List Ch->Prop} {k:Nat} {t:List Value} {H:List Ch} (h:Ix .ret k H):RQ I Ix k .ret t H:=h
theorem pars1 {t:List Value} {p:Tmp} {v:Value}:pars t [p] [v]=putL t (some p) v:=rfl
abbrev noS:Exit->St:=fun _ _ _=>False
theorem Ok.put {l:Option Nat} {ds:List Deferred} {w:World} {h:Hp} {k:Nat} {rec rec':Loop} (o:Ok l r ds w h) (hk:w.heap[k]?=some (.loop rec)) (h1:h k=none) (h2:r k=none):Ok l r ds (w.putObj k (.loop rec')) h where
 emb:=fun b u e=>by rw [World.putObj_heap_other (by rintro rfl;rw [h1] at e;cases e)];exact o.emb b u e
 ro:=fun b u e=>by rw [World.putObj_heap_other (by rintro rfl;rw [h2] at e;cases e)];exact o.ro b u e
 dj:=o.dj
 marks:=o.marks.mono fun D a b c=>⟨by rw [World.putObj_heap_other (by rintro rfl;rw [hk] at a;cases a)];exact a,b⟩
 loop:=fun j e=>by
  obtain ⟨rc,a,b,c⟩:=o.loop j e
  by_cases ej:j=k
  · subst ej;exact ⟨rec',World.putObj_heap_same (Array.getElem?_eq_some_iff.1 hk).1,b,c⟩
  · exact ⟨rc,by rw [World.putObj_heap_other ej];exact a,b,c⟩
theorem yld_of {fn D i:Nat} {ps:List Tmp} {assign body:Code} {args:List Value} {C:List Ch} {k:Nat} (hps:args.length=ps.length)
 (I:Nat->List Ch->Prop) (Ix:Code->Nat->List Ch->Prop)
 (hround : ∀ (H:List Ch),I i H->SW P (some k) r assign (Then (SW P (some k) r body (RQ I Ix (i+1))) noS) (pars t ps args) (C++H)) :
 Yld P r k args
  (fun g => ∃ y,dj (one k (.loop ⟨.ready,none,fn,t.toArray,ps.toArray,assign,body,D⟩)) y/\g=un (one k (.loop ⟨.ready,none,fn,t.toArray,ps.toArray,assign,body,D⟩)) y /\ ∃ H,I i H/\all (C++H) y)
  (fun g => ∃ y,dj (one k (.loop ⟨.ready,none,fn,t.toArray,ps.toArray,assign,body,D⟩)) y/\g=un (one k (.loop ⟨.ready,none,fn,t.toArray,ps.toArray,assign,body,D⟩)) y /\ ∃ H,I (i+1) H/\all H y)
  (fun g => ∃ c y,dj (one k (.loop ⟨.done,some c,fn,t.toArray,ps.toArray,assign,body,D⟩)) y/\g=un (one k (.loop ⟨.done,some c,fn,t.toArray,ps.toArray,assign,body,D⟩)) y /\ ∃ H,Ix c (i+1) H/\all H y):=by
 obtain ⟨rec,hrec⟩ : ∃ rec:LoopState->Option Code->Loop,rec=fun st pe=>⟨st,pe,fn,t.toArray,ps.toArray,assign,body,D⟩:=⟨_,rfl⟩
 rintro w g ok ⟨y,d,rfl,H,hI,al⟩
 have hl:w.heap[k]?=some (.loop (rec .ready none)):=by rw [hrec];exact ok.emb k _ (un_left one_same)
 have hy:=run_yield (P:=P) (args:=args.toArray) hl (by rw [hrec];simpa using hps)
 have hyk:y k=none:=(d k).resolve_left (by simp [one])
 have hrk:r k=none:=(ok.dj k).resolve_right (by simp [un,one])
 have ok1:Ok (some k) r [] w y:=⟨ok.emb.right d,ok.ro,(dj_un.1 ok.dj).2,trivial,fun j e=>by cases e;exact ⟨_,hl,hyk,hrk⟩⟩
 rw [hrec] at hy
 rw [show (ps.toArray.zip args.toArray).foldl (fun t (p,v)=>t.setIfInBounds p v) t.toArray=(pars t ps args).toArray from pars_arr _ _ _] at hy
 refine ⟨fn,_,assign,body,hy,roundIn_of_wpIn trivial ?_⟩
 refine wpIn_mono (hround H hI w y [] ok1 al) ?_
 intro e a3 w3 p
 obtain ⟨t',H',y',ds',rfl,q,al',to⟩:=p.act
 cases e with
 | normal =>
  have hl3:w3.heap[k]?=some (.loop (rec .ready none)):=by rw [to.keep k (Array.getElem?_eq_some_iff.1 hl).1 hyk];exact hl
  have hyk3:y' k=none:=by
   cases e:y' k with
   | none=>rfl
   | some u=>rcases to.dom k (by simp [e]) with c|c;exact absurd hyk c;have:=(Array.getElem?_eq_some_iff.1 hl).1;omega
  refine ⟨_,run_beginRound hl3 (by rw [hrec]),?_⟩
  have ok4:Ok (some k) r ds' (w3.putObj k (.loop { rec .ready none with state:= .busy })) y':=to.ok.put hl3 hyk3 hrk
  have hl4:(w3.putObj k (.loop { rec .ready none with state:= .busy })).heap[k]?=some (.loop { rec .ready none with state:= .busy }):=World.putObj_heap_same (Array.getElem?_eq_some_iff.1 hl3).1
  refine wpIn_mono (q _ y' ds' ok4 al') ?_
  intro e a5 w5 p
  obtain ⟨t'',H'',y'',ds'',rfl,q,al'',to2⟩:=p.act
  have fin : ∀ (jump:Option Code),∃ v w6,(Instr.endRound k jump).run P w5 = .ok v w6/\v = .bool jump.isNone /\
   dj (one k (.loop (rec (if jump.isNone then .ready else .done) jump))) y''/\To none r [] w (un (one k (.loop (rec .ready none))) y) [] w6 (un (one k (.loop (rec (if jump.isNone then .ready else .done) jump))) y''):=by
   intro jump
   have hl5:w5.heap[k]?=some (.loop { rec .ready none with state:= .busy }):=by rw [to2.keep k (Array.getElem?_eq_some_iff.1 hl4).1 hyk3];exact hl4
   have hyk5:y'' k=none:=by
    cases e:y'' k with
    | none=>rfl
    | some u=>rcases to2.dom k (by simp [e]) with c|c;exact absurd hyk3 c;have:=(Array.getElem?_eq_some_iff.1 hl3).1;rw [World.putObj_size] at c;omega
   have hr:=run_endRound (P:=P) jump hl5
   refine ⟨_,_,hr,rfl,?_,?_⟩
   · intro b
     by_cases e:b=k
     · subst e;exact .inr hyk5
     · left;simp [one,e]
   · have e1:({ ({ rec .ready none with state:= .busy }:Loop) with state:=if jump.isNone then .ready else .done,pending:=jump }:Loop)=rec (if jump.isNone then .ready else .done) jump:=by rw [hrec]
     rw [e1]
     have ok0:Ok none r [] w (un (one k (.loop (rec .ready none))) y):=by rw [hrec];exact ok
     refine To.step ok0 (to2.os.trans to.os) (to2.tape.trans to.tape) (to2.output.trans to.output) ?_ ?_ ?_ ?_
     · have h1:=to.size;have h2:=to2.size;simp [World.putObj] at *;omega
     · intro b hb hn
       obtain ⟨hn1,hn2⟩:=un_none.1 hn
       have hbk:b≠k:=by rintro rfl;simp [one] at hn1
       have hb':y' b=none:=by
        cases e:y' b with
        | none=>rfl
        | some u=>rcases to.dom b (by simp [e]) with c|c;exact absurd hn2 c;omega
       rw [World.putObj_heap_other hbk,to2.keep b (by have:=to.size;simp [World.putObj];omega) hb',World.putObj_heap_other hbk,to.keep b hb hn2]
     · intro b u hb
       rcases un_some hb with hz|hz
       · obtain ⟨rfl,rfl⟩:=one_some hz;exact World.putObj_heap_same (Array.getElem?_eq_some_iff.1 hl5).1
       · rw [World.putObj_heap_other (by intro e;rw [e,hyk5] at hz;cases hz)];exact to2.ok.emb b u hz
     · intro b hb
       rcases un_ne.1 hb with hb|hb
       · left;exact un_ne.2 (.inl (by rw [one_ne hb];simp [one]))
       · rcases to2.dom b hb with c|c
         · rcases to.dom b c with c|c
           · exact .inl (un_ne.2 (.inr c))
           · exact .inr c
         · right;have:=to.size;simp [World.putObj] at c;omega
  cases e with
  | panic _=>exact p.elim
  | outgrown=>exact p.elim
  | normal =>
   obtain ⟨v,w6,hr,rfl,d6,to6⟩:=fin none
   rw [hrec] at to6 d6
   exact ⟨_,w6,hr,true,_,rfl,⟨y'',d6,rfl,H'',q,al''⟩,to6⟩
  | ret =>
   obtain ⟨v,w6,hr,rfl,d6,to6⟩:=fin (some .ret)
   rw [hrec] at to6 d6
   exact ⟨_,w6,hr,false,_,rfl,⟨.ret,y'',d6,rfl,H'',q,al''⟩,to6⟩
  | exit j =>
   obtain ⟨v,w6,hr,rfl,d6,to6⟩:=fin (some (.exit j))
   rw [hrec] at to6 d6
   exact ⟨_,w6,hr,false,_,rfl,⟨.exit j,y'',d6,rfl,H'',q,al''⟩,to6⟩
  | goto j =>
   obtain ⟨v,w6,hr,rfl,d6,to6⟩:=fin (some (.goto j))
   rw [hrec] at to6 d6
   exact ⟨_,w6,hr,false,_,rfl,⟨.goto j,y'',d6,rfl,H'',q,al''⟩,to6⟩
 | panic _=>exact p.elim
 | outgrown=>exact p.elim
 | _=>exact q.elim
theorem sw_rangeG {α:Type} {g:Operand} {ps:List Tmp} {assign body:Code} {gf:FuncId} {lb:List Value} {A:α->List Value->List Ch->Prop} {xs:List α} {H0 Hend Hf:List Ch}
 (hg:evO t g=some (.func (.func gf) #[] lb.toArray)) (eg:GoesTo P gf) (hs:SeqG P r gf lb A xs H0 Hend) (hp:Takes H0 H Hf) (hps : ∀ x args C,A x args C->args.length=ps.length)
 (I:Nat->List Ch->Prop) (Ix:Code->Nat->List Ch->Prop) (h0:I 0 Hf)
 (hround : ∀ k i (hi:i<xs.length) (args:List Value) (C H:List Ch),A xs[i] args C->I i H->SW P (some k) r assign (Then (SW P (some k) r body (RQ I Ix (i+1))) noS) (pars t ps args) (C++H))
 (hdone : ∀ H,I xs.length H->Q .normal t (Hend++H)) (hstop : ∀ c i H,i<=xs.length->Ix c i H->SW P l r c Q t H):SW P l r (.rangeFunc g ps.toArray assign body) Q t H:=by
 intro w h ds ok al
 obtain ⟨ha,hb,dab,rfl,al0,alf⟩:=all_app.1 (all_perm hp al)
 refine wpIn_rangeFunc ?_
 intro fn _
 rw [show (FW l).round=l from rfl]
 -- the record is laid
 have key : ∀ (D:Nat) (ds1:List Deferred) (w1:World),Ok l r ds1 w1 (un ha hb)->To l r ds w (un ha hb) ds1 w1 (un ha hb) ->
  Calls P gf (#[.func (.yield w1.heap.size) #[] #[]]++lb.toArray) (w1.alloc (.loop ⟨.ready,none,fn,t.toArray,ps.toArray,assign,body,D⟩))
   (rangePost (FW l) 0 P w1.heap.size (Post l r ds w (un ha hb) Q) ⟨t.toArray,ds1⟩):=by
  intro D ds1 w1 ok1 to1
  obtain ⟨k,hk⟩ : ∃ k,w1.heap.size=k:=⟨_,rfl⟩
  obtain ⟨rc,hrc⟩ : ∃ rc:Obj,rc = .loop ⟨.ready,none,fn,t.toArray,ps.toArray,assign,body,D⟩:=⟨_,rfl⟩
  obtain ⟨dk,tok⟩:=alloc_to ok1 (.loop ⟨.ready,none,fn,t.toArray,ps.toArray,assign,body,D⟩)
  rw [hk] at dk tok
  obtain ⟨dka,dkb⟩:=dj_un.1 dk
  have hcall:=hs k (fun i g => ∃ y,dj (one k (.loop ⟨.ready,none,fn,t.toArray,ps.toArray,assign,body,D⟩)) y/\g=un (one k (.loop ⟨.ready,none,fn,t.toArray,ps.toArray,assign,body,D⟩)) y /\ ∃ H,I i H/\all H y) (fun i g => ∃ c y,dj (one k (.loop ⟨.done,some c,fn,t.toArray,ps.toArray,assign,body,D⟩)) y/\g=un (one k (.loop ⟨.done,some c,fn,t.toArray,ps.toArray,assign,body,D⟩)) y /\ ∃ H,Ix c i H/\all H y) (fun i hi args C hA=>(yld_of (P:=P) (r:=r) (t:=t) (fn:=fn) (D:=D) (k:=k) (hps _ _ _ hA) I Ix fun H=>hround k i hi args C H hA).pre fun h ⟨x,z,d,e,⟨y,d1,e1,H,hI,al⟩,hC⟩=>by
   subst e1;subst e
   obtain ⟨d2,d3⟩:=un_dj.1 d
   exact ⟨un z y,dj_un.2 ⟨d2,d1⟩,by rw [un_assoc,un_comm d3],H,hI,all_app.2 ⟨z,y,d3.symm,rfl,hC,al⟩⟩) (w1.alloc (.loop ⟨.ready,none,fn,t.toArray,ps.toArray,assign,body,D⟩)) (un (one k (.loop ⟨.ready,none,fn,t.toArray,ps.toArray,assign,body,D⟩)) (un ha hb)) tok.ok.bare
   ⟨un (one k (.loop ⟨.ready,none,fn,t.toArray,ps.toArray,assign,body,D⟩)) hb,ha,un_dj.2 ⟨dka,dab.symm⟩,by rw [un_assoc,un_comm dab],⟨hb,dkb,rfl,Hf,h0,alf⟩,al0⟩
  rw [hk]
  have e1:(#[Value.func (.yield k) #[] #[]]++lb.toArray)=(Value.func (.yield k) #[] #[]::lb).toArray:=by simp
  rw [e1]
  refine hcall.mono ?_
  rintro e w2 ⟨v,H',h',rfl,hR,al',to2⟩
  have to3:To l r ds w (un ha hb) ds1 w2 h'->True:=fun _=>trivial
  have to2':=To.lift tok.ok to2
  have fin : ∀ (st:LoopState) (pe:Option Code) (y hx:Hp),st ≠ .busy->dj (un (one k (.loop ⟨st,pe,fn,t.toArray,ps.toArray,assign,body,D⟩)) y) hx->dj (one k (.loop ⟨st,pe,fn,t.toArray,ps.toArray,assign,body,D⟩)) y ->
   h'=un (un (one k (.loop ⟨st,pe,fn,t.toArray,ps.toArray,assign,body,D⟩)) y) hx ->
   (Instr.endLoop k).run P w2 = .ok pe (w2.putObj k (.loop ⟨.exhausted,pe,fn,t.toArray,ps.toArray,assign,body,D⟩)) /\
   To l r ds w (un ha hb) ds1 (w2.putObj k (.loop ⟨.exhausted,pe,fn,t.toArray,ps.toArray,assign,body,D⟩)) (un y hx):=by
   rintro st pe y hx hb' d1 d2 rfl
   obtain ⟨d3,d4⟩:=un_dj.1 d1
   have hl2:w2.heap[k]?=some (.loop ⟨st,pe,fn,t.toArray,ps.toArray,assign,body,D⟩):=to2.ok.emb k _ (un_left (un_left one_same))
   refine ⟨run_endLoop hl2 hb',?_⟩
   have hyk:un y hx k=none:=un_none.2 ⟨(d2 k).resolve_left (by simp [one]),(d3 k).resolve_left (by simp [one])⟩
   have hrk:r k=none:=(to2.ok.dj k).resolve_right (by simp [un,one])
   have ok2:Ok l r ds1 w2 (un y hx):=to2'.ok.less fun b hbn=>by
    rw [un_assoc]
    cases e:un y hx b with
    | none=>exact absurd e hbn
    | some u=>exact un_right (dj_un.2 ⟨d2,d3⟩) e
   have size2:=to2'.size
   refine to1.trans ⟨ok2.put hl2 hyk hrk,to2.os,to2.tape,to2.output,?_,?_,?_,fun _ h=> .inl h⟩
   · simp [World.putObj] at size2 ⊢;omega
   · intro b hb hn
     have hbk:b≠k:=by omega
     rw [World.putObj_heap_other hbk,to2'.keep b (by simp;omega) (un_none.2 ⟨by simp [one,hbk],hn⟩),Below.heap_alloc _ _ _ hb]
   · intro b hb
     rcases to2'.dom b (by rw [un_assoc];exact un_ne.2 (.inr hb)) with c|c
     · rcases un_ne.1 c with c|c
       · exact absurd (by rw [one_ne c];exact hyk) hb
       · exact .inl c
     · right;simp at c;omega
  rcases hR with rfl | ⟨i,Hx,hi,rfl⟩
  · obtain ⟨gj,hx,dgx,rfl,⟨y,dy,rfl,HH,hII,aly⟩,alx⟩:=al'
    obtain ⟨hr,to4⟩:=fin .ready none y hx (by simp) dgx dy rfl
    refine ⟨none,_,hr,?_⟩
    have dyx:=(un_dj.1 dgx).2
    exact Post.mk' trivial (hdone HH hII) (all_app.2 ⟨hx,y,dyx.symm,un_comm dyx,alx,aly⟩) to4
  · obtain ⟨gj,hx,dgx,rfl,⟨c,y,dy,rfl,HH,hII,aly⟩,alx⟩:=al'
    obtain ⟨hr,to4⟩:=fin .done (some c) y hx (by simp) dgx dy rfl
    refine ⟨some c,_,hr,?_⟩
    have hsw:=hstop c (i+1) HH (by omega) hII
    have dyx:=(un_dj.1 dgx).2
    -- what the iterator leaves behind is dropped
    have to5:To l r ds w (un ha hb) ds1 (w2.putObj k (.loop ⟨.exhausted,some c,fn,t.toArray,ps.toArray,assign,body,D⟩)) y :=
     ⟨to4.ok.left,to4.os,to4.tape,to4.output,to4.size,to4.keep,fun b hb=>to4.dom b (un_ne.2 (.inl hb)),to4.grew⟩
    exact wpIn_mono (hsw _ y ds1 to5.ok aly) fun e b w' p=>p.trans to5 (fun _ _ q=>q)
 have hinv : ∀ (j:Nat) (W:World),(resolve (Act.eval ⟨t.toArray,ds⟩) (rangeCall g j) 0).run P W = .ok ({ target:= .fn (.func gf) lb.toArray,args := #[.func (.yield j) #[] #[]] }:Deferred) W:=by
  intro j W
  rw [eval_fun]
  have e3:evalL t (.const (.func (.yield j) #[] #[])) = .func (.yield j) #[] #[]:=rfl
  simp [resolve,ev_of hg,Deferred.ofValue,Sem.run_pure,e3]
 cases l with
 | none =>
  have hnew:=alloc_to ok (.deferred (some []))
  have ok1:Ok none r (mark w.heap.size::ds) (w.alloc (.deferred (some []))) (un ha hb):=by
   have o:=hnew.2.ok.right hnew.1
   refine ⟨o.emb,o.ro,o.dj,⟨w.heap.size,rfl,World.alloc_heap_new _ _,?_,?_,?_,o.marks⟩,fun _ c=>by cases c⟩
   · cases e:un ha hb w.heap.size with
     | none=>rfl
     | some u=>have:=ok.emb.lt (b:=w.heap.size) (by simp [e]);omega
   · cases e:r w.heap.size with
     | none=>rfl
     | some u=>have:=ok.ro.lt (b:=w.heap.size) (by simp [e]);omega
   · intro hm
     have : ∀ L:List Deferred,Mk r (un ha hb) w L->mark w.heap.size∈L->False:=by
      intro L
      induction L with
      | nil=>intro _ hm;cases hm
      | cons y L ih =>
       rintro ⟨D2,e2,a2,_,_,_,m2⟩ hm
       rcases List.mem_cons.1 hm with hm|hm
       · rw [e2] at hm
         have:w.heap.size=D2:=by injection hm with e3 _;injection e3
         have:=(Array.getElem?_eq_some_iff.1 a2).1
         omega
       · exact ih m2 hm
     exact this ds ok.marks hm
  have to1:To none r ds w (un ha hb) (mark w.heap.size::ds) (w.alloc (.deferred (some []))) (un ha hb) :=
   ⟨ok1,rfl,rfl,rfl,by simp,fun b hb _=>Below.heap_alloc _ _ _ hb,fun b hb=> .inl hb,fun d hd=>by
    rcases List.mem_cons.1 hd with rfl|hd
    · exact .inr ⟨_,Nat.le_refl _,rfl⟩
    · exact .inl hd⟩
  have hkey:=key w.heap.size _ _ ok1 to1
  rw [World.size_alloc] at hkey
  refine ⟨w.heap.size+1,[mark w.heap.size],_,_,_,gf,#[.func (.yield (w.heap.size+1)) #[] #[]]++lb.toArray,(w.alloc (.deferred (some []))).alloc (.loop ⟨.ready,none,fn,t.toArray,ps.toArray,assign,body,w.heap.size⟩),run_enterLoop_outer _ _ _ _ _,hinv _ _,fun _ _=>trivial,?_,(fun c=>by cases c),?_⟩
  · simp [invoke,eg _ _]
  · exact callsIn_wide.2 hkey
 | some l0 =>
  obtain ⟨rec0,hl0,_,_⟩:=ok.loop l0 rfl
  have hkey:=key rec0.defers ds w ok (To.refl ok)
  refine ⟨w.heap.size,[],_,_,_,gf,#[.func (.yield w.heap.size) #[] #[]]++lb.toArray,w.alloc (.loop ⟨.ready,none,fn,t.toArray,ps.toArray,assign,body,rec0.defers⟩),run_enterLoop_inner hl0 _ _ _ _ _,hinv _ _,fun _ _=>trivial,?_,(fun c=>by cases c),?_⟩
  · simp [invoke,eg _ _]
  · exact CallsIn.inRound l0 (callsIn_wide.2 hkey)
theorem sw_range {α:Type} {g:Operand} {ps:List Tmp} {assign body:Code} {gf:FuncId} {lb:List Value} {encs:α->List Value} {xs:List α} {H0 Hend Hf:List Ch}
 (hg:evO t g=some (.func (.func gf) #[] lb.toArray)) (eg:GoesTo P gf) (hs:Seq P r gf lb encs xs H0 Hend) (hp:Takes H0 H Hf) (hps : ∀ x,(encs x).length=ps.length)
 (I:Nat->List Ch->Prop) (Ix:Code->Nat->List Ch->Prop) (h0:I 0 Hf)
 (hround : ∀ k i (hi:i<xs.length) (H:List Ch),I i H->SW P (some k) r assign (Then (SW P (some k) r body (RQ I Ix (i+1))) noS) (pars t ps (encs xs[i])) H)
 (hdone : ∀ H,I xs.length H->Q .normal t (Hend++H)) (hstop : ∀ c i H,i<=xs.length->Ix c i H->SW P l r c Q t H):SW P l r (.rangeFunc g ps.toArray assign body) Q t H :=
 sw_rangeG hg eg hs.toG hp (fun x args C h=>by rw [h.1];exact hps x) I Ix h0 (fun k i hi args C H h hI=>by obtain ⟨rfl,rfl⟩:=h;exact hround k i hi H hI) hdone hstop
end
end Sx
end Go.Proofs.YteknekiclhnkiaaGreatDoor
namespace Go.Proofs.YteknekiclhnkiaaGreatDoor
open Go.RowKit
namespace Sx
section
variable {P : Program} {l : Option Nat} {r : Hp} {Q : Exit → St} {K : St} {t : List Value} {H : List Ch} {ops : Array Oper} {m : Nat}
def SWop (P:Program) (l:Option Nat) (r:Hp) (ops:Array Oper) (K:St) (i:Nat) (t:List Value) (H:List Ch):Prop :=
 match ops[i]? with
 | none=>K t H
 | some o=>if Region.wanted o (yielded ops t.toArray) then SWo P l r o K t H else K (putL t o.dst undef) H
def rdy (ops:Array Oper) (m:Nat) (li:Array Bool):List Nat:=(Region.ready .any ops li).filter fun i=>decide (i<m)
def SWany (P:Program) (l:Option Nat) (r:Hp) (ops:Array Oper) (m:Nat) (K:Array Bool->St):Nat->Array Bool->St
 | 0,li,t,H=>rdy ops m li=[]/\K li t H
 | n+1,li,t,H=>(rdy ops m li=[]->K li t H) /\ ∀ i∈rdy ops m li,SWop P l r ops (SWany P l r ops m K n (li.setIfInBounds i true)) i t H
def Sta (P:Program) (r:Hp) (ops:Array Oper) (o:Oper) (v:Value) (t:List Value):Prop :=
 (Region.wanted o (yielded ops t.toArray)=true /\ ∀ w:World,Emb r w->(execOp (evalL t) o).run P w = .ok (.value v) w)\/(Region.wanted o (yielded ops t.toArray)=false/\v=undef)
theorem exec_put {o:Oper} (hs : ∀ cs b,o.op ≠ .select cs b) {d:Option Tmp} {v:Value} (h : ∀ x,d=some x->x ∉ o.looksAt ops):execOp (evalL (putL t d v)) o=execOp (evalL t) o:=by
 have:=execOp_put (ops:=ops) o hs (Act.mk t.toArray []) d v h
 rw [put_L,eval_fun,eval_fun] at this
 exact this
theorem want_put {o:Oper} {d:Option Tmp} {v:Value} (h : ∀ x,d=some x->x ∉ o.looksAt ops):Region.wanted o (yielded ops (putL t d v).toArray)=Region.wanted o (yielded ops t.toArray):=by
 have:=wanted_put (ops:=ops) o (Act.mk t.toArray []) d v h
 rw [put_L] at this
 exact this
theorem putL_comm {x y:Option Tmp} (v u:Value) (h : ∀ d,x=some d->y≠some d):putL (putL t x v) y u=putL (putL t y u) x v:=by
 cases x with
 | none=>rfl
 | some a =>
  cases y with
  | none=>rfl
  | some b=>exact List.set_comm _ _ (fun e=>h a rfl (by rw [e]))
theorem Sta.put {o:Oper} {v u:Value} {d:Option Tmp} (hs : ∀ cs b,o.op ≠ .select cs b) (hy:Sta P r ops o v t) (h : ∀ x,d=some x->x ∉ o.looksAt ops):Sta P r ops o v (putL t d u):=by
 rcases hy with ⟨h1,h2⟩ | ⟨h1,h2⟩
 · exact .inl ⟨by rw [want_put h];exact h1,fun w e=>by rw [exec_put hs h];exact h2 w e⟩
 · exact .inr ⟨by rw [want_put h];exact h1,h2⟩
theorem swop_mono {K K':St} {i:Nat} (h:SWop P l r ops K i t H) (hk : ∀ t H,K t H->K' t H):SWop P l r ops K' i t H:=by
 unfold SWop at *
 split
 · rename_i e;rw [e] at h;exact hk _ _ h
 · rename_i o e
   rw [e] at h
   simp only at h
   split
   · rename_i c;rw [if_pos c] at h;exact swo_mono h hk
   · rename_i c;rw [if_neg c] at h;exact hk _ _ h
theorem Sta.op {i:Nat} {o:Oper} {v:Value} (hi:ops[i]?=some o) (hd:isDefer o.op=false) (hy:Sta P r ops o v t) (h:K (putL t o.dst v) H):SWop P l r ops K i t H:=by
 unfold SWop
 simp only [hi]
 rcases hy with ⟨h1,h2⟩ | ⟨h1,rfl⟩
 · rw [if_pos h1];exact swo_val (by intro c hc;rw [hc] at hd;cases hd) h2 h
 · rw [if_neg (by rw [h1];simp)];exact h
theorem swop_put {j:Nat} {oi oj:Oper} {v:Value} (hj:ops[j]?=some oj) (hap:oi.apart ops oj=true) (hsi : ∀ cs b,oi.op ≠ .select cs b) (hsj : ∀ cs b,oj.op ≠ .select cs b) (hdj:isDefer oj.op=false)
 (hy:Sta P r ops oi v t) (h:SWop P l r ops K j (putL t oi.dst v) H):SWop P l r ops (fun t' H'=>Sta P r ops oi v t'/\K (putL t' oi.dst v) H') j t H:=by
 obtain ⟨h1,h2,h3⟩:=Oper.apart_spec hap
 have keep : ∀ u,Sta P r ops oi v (putL t oj.dst u):=fun u=>hy.put hsi h3
 have hp : ∀ c,oj.op ≠ .defer c:=by intro c hc;rw [hc] at hdj;cases hdj
 unfold SWop at *
 simp only [hj] at *
 rw [want_put h1] at h
 split
 · rename_i c
   rw [if_pos c] at h
   intro w g ds ok al
   have hh:=(h w g ds ok al).2
   refine ⟨fun _ _=>trivial,?_⟩
   rw [show (FW l).round=l from rfl,sem_plain hp,eval_fun,exec_put hsj h1] at hh
   rw [show (FW l).round=l from rfl,sem_plain hp,eval_fun]
   have conv : ∀ (u:Value) (w':World),After l r ds w g K ((⟨(putL t oi.dst v).toArray,ds⟩:Act).put oj.dst u) w'->After l r ds w g (fun t' H'=>Sta P r ops oi v t'/\K (putL t' oi.dst v) H') ((⟨t.toArray,ds⟩:Act).put oj.dst u) w':=by
    rintro u w' ⟨t',H',h',e,k,al',to⟩
    rw [put_L] at e
    have e1:putL (putL t oi.dst v) oj.dst u=t':=by injection e with e1 _;simpa using e1
    refine ⟨putL t oj.dst u,H',h',put_L _ _ _ _,⟨keep u,?_⟩,al',to⟩
    rw [← putL_comm v u h2,e1];exact k
   generalize (execOp (evalL t) oj).run P w=rr at hh ⊢
   cases rr with
   | ok x w' =>
    cases x<;>simp only [Oper.uponIn] at hh ⊢
    case value u=>exact conv u w' hh
    case skip=>exact conv undef w' hh
    case defer d =>
     obtain ⟨t',H',h',e,_⟩:=hh
     have e2:=congrArg Act.defers e
     rw [show (Act.put { tmps:=(putL t oi.dst v).toArray,defers:=d::ds } oj.dst undef).defers=d::ds by cases oj.dst<;>rfl] at e2
     exact absurd e2 (by simp)
    case enter f args =>
     refine ⟨hh.1,CallsIn.mono hh.2 fun e w'' he=>?_⟩
     cases e with
     | returned u=>exact conv u w'' he
     | panicked c=>exact he
     | outgrown=>exact he
    case row row args=>exact ⟨hh.1,RowsIn.mono hh.2 fun u w'' he=>conv u w'' he⟩
    case round k f tmps assign body =>
     refine ⟨hh.1,RoundIn.mono hh.2 fun e w'' he=>?_⟩
     cases e with
     | returned u=>exact conv u w'' he
     | panicked c=>exact he
     | outgrown=>exact he
   | halt x w'=>cases x<;>exact hh
 · rename_i c
   rw [if_neg c] at h
   exact ⟨keep undef,by rw [← putL_comm v undef h2];exact h⟩
def okOps (ops:Array Oper):Bool:=Region.noSelect ops && ops.all fun o => !isDefer o.op
theorem okOps_s (h:okOps ops=true) {j:Nat} {o:Oper} (ho:ops[j]?=some o):(∀ cs b,o.op ≠ .select cs b)/\isDefer o.op=false:=by
 unfold okOps at h
 rw [Bool.and_eq_true] at h
 refine ⟨fun cs b=>Region.noSelect_spec h.1 j o cs b ho,?_⟩
 have:=Array.all_eq_true_iff_forall_mem.1 h.2 o (Array.mem_of_getElem? ho)
 simpa using this
theorem mem_rdy {i:Nat} {li:Array Bool}:i∈rdy ops m li↔i∈Region.ready .any ops li/\i<m:=by simp [rdy]
theorem rdy_mono {i j:Nat} {li:Array Bool} (h:j∈rdy ops m li) (hne:j≠i):j∈rdy ops m (li.setIfInBounds i true):=mem_rdy.2 ⟨ready_mono (mem_rdy.1 h).1 hne,(mem_rdy.1 h).2⟩
theorem swany_first {K:Array Bool->St} {i:Nat} {oi:Oper} {v:Value} (hok:okOps ops=true) (hi:ops[i]?=some oi) :
 ∀ (fuel:Nat) (li:Array Bool) (t:List Value) (H:List Ch),
  (∀ j oj,ops[j]?=some oj->j≠i->li.getD j true=false->(∀ e∈oj.after,Region.binds .any e=true->e.on≠i)->oi.apart ops oj=true) ->
  i∈rdy ops m li->Sta P r ops oi v t->SWany P l r ops m K fuel (li.setIfInBounds i true) (putL t oi.dst v) H->SWany P l r ops m K (fuel+1) li t H:=by
 intro fuel
 induction fuel with
 | zero =>
  intro li t H _ hr hy h
  refine ⟨fun c=>(by rw [c] at hr;cases hr),fun j hj=>?_⟩
  by_cases e:j=i
  · subst e;exact hy.op hi (okOps_s hok hi).2 h
  · have:=rdy_mono hj e
    rw [h.1] at this;cases this
 | succ fuel ih =>
  intro li t H hfree hr hy h
  refine ⟨fun c=>(by rw [c] at hr;cases hr),fun j hj=>?_⟩
  by_cases e:j=i
  · subst e;exact hy.op hi (okOps_s hok hi).2 h
  · have h1:=h.2 j (rdy_mono hj e)
    obtain ⟨hjun,oj,hoj,hall⟩:=mem_ready.1 (mem_rdy.1 hj).1
    have hnot : ∀ e∈oj.after,Region.binds .any e=true->e.on≠i:=fun e he hb heq=>by
     have h1:=hall e he hb
     have h0:=(mem_ready.1 (mem_rdy.1 hr).1).1
     rw [heq] at h1
     rcases Nat.lt_or_ge i li.size with h'|h'
     · simp [h'] at h0 h1;rw [h0] at h1;cases h1
     · simp [Array.getElem?_eq_none h'] at h1
    have h2:=swop_put hoj (hfree j oj hoj e hjun hnot) (okOps_s hok hi).1 (okOps_s hok hoj).1 (okOps_s hok hoj).2 hy h1
    have hfree' : ∀ k ok,ops[k]?=some ok->k≠i->(li.setIfInBounds j true).getD k true=false->(∀ e∈ok.after,Region.binds .any e=true->e.on≠i)->oi.apart ops ok=true:=fun k ok hk hki hun hno=>by
     refine hfree k ok hk hki ?_ hno
     by_cases hjk:j=k
     · subst hjk;exact hjun
     · rw [getD_set_ne true hjk] at hun;exact hun
    refine swop_mono h2 fun t' H' h3=>ih (li.setIfInBounds j true) t' H' hfree' (rdy_mono hr (Ne.symm e)) h3.1 ?_
    rw [Array.setIfInBounds_comm _ _ e]
    exact h3.2
def SWpi (P:Program) (l:Option Nat) (r:Hp) (ops:Array Oper) (K:St):List (Nat × Bool)->St
 | [],t,H=>K t H
 | (i,true)::π,t,H => ∃ o v,ops[i]?=some o/\Sta P r ops o v t/\SWpi P l r ops K π (putL t o.dst v) H
 | (i,false)::π,t,H=>SWop P l r ops (SWpi P l r ops K π) i t H
def chk (ops:Array Oper) (m:Nat):List (Nat × Bool)->Array Bool->Bool
 | [],li=>rdy ops m li == []
 | (i,true)::π,li=>Region.free .any ops li i && (rdy ops m li).contains i && chk ops m π (li.setIfInBounds i true)
 | (i,false)::π,li=>rdy ops m li == [i] && chk ops m π (li.setIfInBounds i true)
def lend:List (Nat × Bool)->Array Bool->Array Bool
 | [],li=>li
 | (i,_)::π,li=>lend π (li.setIfInBounds i true)
theorem swany_of_pi {K:Array Bool->St} (hok:okOps ops=true) : ∀ (π:List (Nat × Bool)) (li:Array Bool) (t:List Value) (H:List Ch),chk ops m π li=true->SWpi P l r ops (K (lend π li)) π t H->SWany P l r ops m K π.length li t H
 | [],li,t,H,hc,h=>⟨by simpa [chk] using hc,h⟩
 | (i,true)::π,li,t,H,hc,h=>by
  unfold chk at hc
  simp only [Bool.and_eq_true] at hc
  obtain ⟨o,v,ho,hy,h2⟩:=h
  exact swany_first hok ho π.length li t H (Region.free_spec ho hc.1.1) (by simpa using hc.1.2) hy (swany_of_pi hok π _ _ _ hc.2 h2)
 | (i,false)::π,li,t,H,hc,h=>by
  unfold chk at hc
  simp only [Bool.and_eq_true,beq_iff_eq] at hc
  refine ⟨fun c=>(by rw [hc.1] at c;cases c),fun j hj=>?_⟩
  rw [hc.1] at hj
  obtain rfl:j=i:=by simpa using hj
  exact swop_mono h fun t' H' h3=>swany_of_pi hok π _ _ _ hc.2 h3
def pts (bs:List (Nat × Obj)):List Ch:=bs.map fun x=>pt x.1 x.2
def Lent (r r':Hp) (bs:List (Nat × Obj)):Prop:=sub r r' /\ ∀ x∈bs,r' x.1=some x.2
theorem Ok.lend {ds:List Deferred} {w:World} {g k:Hp} (o:Ok l r ds w (un g k)) (d:Sx.dj g k):Ok l (un r g) ds w k:=by
 have dr:=dj_un.1 o.dj
 refine ⟨o.emb.right d,o.ro.un o.emb.left,un_dj.2 ⟨dr.2,d⟩,?_,?_⟩
 · have key : ∀ L:List Deferred,Mk r (un g k) w L->Mk (un r g) k w L:=by
    intro L
    induction L with
    | nil=>exact fun _=>trivial
    | cons x L ih=>rintro ⟨D,e,a,b,c,n,m⟩;exact ⟨D,e,a,(un_none.1 b).2,un_none.2 ⟨c,(un_none.1 b).1⟩,n,ih m⟩
   exact key _ o.marks
 · intro i hi
   obtain ⟨rec,a,b,c⟩:=o.loop i hi
   exact ⟨rec,a,(un_none.1 b).2,un_none.2 ⟨c,(un_none.1 b).1⟩⟩
theorem To.back {ds ds':List Deferred} {w w':World} {g k k':Hp} (o:Ok l r ds w (un g k)) (_d:Sx.dj g k) (to:To l (un r g) ds w k ds' w' k'):Sx.dj g k'/\To l r ds w (un g k) ds' w' (un g k'):=by
 have hg:Sx.dj g k':=(un_dj.1 to.ok.dj).2
 have hr:Sx.dj r k':=(un_dj.1 to.ok.dj).1
 refine ⟨hg,⟨⟨?_,fun b u e=>to.ok.ro b u (un_left e),dj_un.2 ⟨(dj_un.1 o.dj).1,hr⟩,?_,?_⟩,to.os,to.tape,to.output,to.size,fun b hb hn=>to.keep b hb (un_none.1 hn).2,?_,to.grew⟩⟩
 · have:Emb g w':=fun b u e=>to.ok.ro b u (un_right (dj_un.1 o.dj).1 e)
   exact this.un to.ok.emb
 · have key : ∀ L:List Deferred,Mk (un r g) k' w' L->Mk r (un g k') w' L:=by
    intro L
    induction L with
    | nil=>exact fun _=>trivial
    | cons x L ih=>rintro ⟨D,e,a,b,c,n,m⟩;exact ⟨D,e,a,un_none.2 ⟨(un_none.1 c).2,b⟩,(un_none.1 c).1,n,ih m⟩
   exact key _ to.ok.marks
 · intro i hi
   obtain ⟨rec,a,b,c⟩:=to.ok.loop i hi
   exact ⟨rec,a,un_none.2 ⟨(un_none.1 c).2,b⟩,(un_none.1 c).1⟩
 · intro b hb
   rcases un_ne.1 hb with c|c
   · exact .inl (un_ne.2 (.inl c))
   · exact (to.dom b c).imp_left fun c=>un_ne.2 (.inr c)
theorem pts_all {bs:List (Nat × Obj)} : ∀ {g:Hp},all (pts bs) g -> ∀ x∈bs,g x.1=some x.2:=by
 induction bs with
 | nil=>intro g _ x hx;cases hx
 | cons y bs ih =>
  rintro g ⟨a,b,d,rfl,ha,hb⟩ x hx
  rcases List.mem_cons.1 hx with rfl|hx
  · obtain rfl:a=one x.1 x.2:=ha;exact un_left one_same
  · exact un_right d (ih hb x hx)
def phase (ops:Array Oper) (m:Nat):Bool:=(List.range ops.size).all fun j=>decide (j<m) || match ops[j]? with
 | some o=>(List.range m).all fun i=>o.after.any fun e=>Region.binds .any e && e.on == i
 | none=>true
theorem phase_s (h:phase ops m=true) {li:Array Bool} (hr:rdy ops m li≠[]) : ∀ i,i∈Region.ready .any ops li->i∈rdy ops m li:=by
 intro j hj
 refine mem_rdy.2 ⟨hj,?_⟩
 rcases Nat.lt_or_ge j m with c|c
 · exact c
 exfalso
 obtain ⟨i,hi⟩:=List.exists_mem_of_ne_nil _ hr
 obtain ⟨hi1,hi2⟩:=mem_rdy.1 hi
 obtain ⟨_,o,ho,hall⟩:=mem_ready.1 hj
 have hjs:j<ops.size:=(Array.getElem?_eq_some_iff.1 ho).1
 unfold phase at h
 rw [List.all_eq_true] at h
 have h1:=h j (by simpa using hjs)
 simp only [ho,show ¬ j<m by omega,decide_false,Bool.false_or,List.all_eq_true] at h1
 have h2:=h1 i (by simpa using hi2)
 obtain ⟨e,he,hb⟩:=Array.any_eq_true'.1 h2
 simp only [Bool.and_eq_true,beq_iff_eq] at hb
 have h3:=hall e he hb.1
 rw [hb.2] at h3
 have h4:=(mem_ready.1 hi1).1
 rcases Nat.lt_or_ge i li.size with h'|h'
 · simp [h'] at h3 h4;rw [h3] at h4;cases h4
 · simp [Array.getElem?_eq_none h'] at h3
theorem any_sound {As:List Ch} {K:Array Bool->St} {g:Hp} {Qw:Exit->Act->World->Prop} (_hA:all As g) (hph:phase ops m=true) (ds:List Deferred) (w0:World) (h0:Hp) (f2:Nat)
 (hK : ∀ (li:Array Bool) (t:List Value) (H:List Ch) (w:World) (k:Hp),K li t H->rdy ops m li=[]->Sx.dj g k->To l r ds w0 h0 ds w (un g k)->all H k -> ∀ f,f2<=f->wpAnyIn (FW l) 0 P .any ops Qw f li ⟨t.toArray,ds⟩ w) :
 ∀ (fuel:Nat) (li:Array Bool) (t:List Value) (H:List Ch),SWany P l (un r g) ops m K fuel li t H -> ∀ (w:World) (k:Hp),Sx.dj g k->To l r ds w0 h0 ds w (un g k)->all H k -> ∀ f,fuel+f2<=f->wpAnyIn (FW l) 0 P .any ops Qw f li ⟨t.toArray,ds⟩ w:=by
 intro fuel
 induction fuel with
 | zero=>intro li t H h w k d to al f hf;exact hK li t H w k h.2 h.1 d to al f (by omega)
 | succ n ih =>
  intro li t H h w k d to al f hf
  by_cases hr:rdy ops m li=[]
  · exact hK li t H w k (h.1 hr) hr d to al f (by omega)
  · obtain ⟨f',rfl⟩ : ∃ f',f=f'+1:=⟨f - 1,by omega⟩
    refine ⟨fun c=>?_,fun i hi=>?_⟩
    · exact absurd (by unfold rdy;rw [c];rfl) hr
    · have h1:=h.2 i (phase_s hph hr i hi)
      unfold wpOpIn
      unfold SWop at h1
      split
      · rename_i e;rw [e] at h1;exact ih _ _ _ h1 w k d to al f' (by omega)
      · rename_i o e
        rw [e] at h1
        simp only at h1
        split
        · rename_i c
          rw [if_pos c] at h1
          refine wpIn_noQ ?_ (h1 w k ds (to.ok.lend d) al)
          rintro a' w' ⟨t',H',k',rfl,h2,al',to'⟩
          obtain ⟨d',tb⟩:=To.back to.ok d to'
          exact ih _ _ _ h2 w' k' d' (to.trans tb) al' f' (by omega)
        · rename_i c
          rw [if_neg c] at h1
          refine ⟨fun _ _=>trivial,?_⟩
          rw [put_L]
          exact ih _ _ _ h1 w k d to al f' (by omega)
inductive Pl
 | leaf:Pl
 | seg (π:List (Nat × Bool)) (next:Pl):Pl
 | two (i j:Nat) (a b:Pl):Pl
def SWtr (P:Program) (l:Option Nat) (r:Hp) (ops:Array Oper) (K:St):Pl->St
 | .leaf,t,H=>K t H
 | .seg π p,t,H=>SWpi P l r ops (SWtr P l r ops K p) π t H
 | .two i j a b,t,H=>SWpi P l r ops (SWtr P l r ops K a) [(i,false)] t H/\SWpi P l r ops (SWtr P l r ops K b) [(j,false)] t H
def chkP (ops:Array Oper) (m:Nat):List (Nat × Bool)->Array Bool->Bool
 | [],_=>true
 | (i,true)::π,li=>Region.free .any ops li i && (rdy ops m li).contains i && chkP ops m π (li.setIfInBounds i true)
 | (i,false)::π,li=>rdy ops m li == [i] && chkP ops m π (li.setIfInBounds i true)
def Pl.dep:Pl->Nat
 | .leaf=>0
 | .seg π p=>π.length+p.dep
 | .two _ _ a _=>a.dep+1
def chkT (ops:Array Oper) (m:Nat) (fin:Array Bool):Pl->Array Bool->Bool
 | .leaf,li=>rdy ops m li == [] && li == fin
 | .seg π p,li=>chkP ops m π li && chkT ops m fin p (lend π li)
 | .two i j a b,li=>rdy ops m li == [i,j] && a.dep == b.dep && chkT ops m fin a (li.setIfInBounds i true) && chkT ops m fin b (li.setIfInBounds j true)
theorem swpi_mono : ∀ (π:List (Nat × Bool)) {K K':St},(∀ t H,K t H->K' t H) -> ∀ t H,SWpi P l r ops K π t H->SWpi P l r ops K' π t H
 | [],_,_,hk,_,_,h=>hk _ _ h
 | (_,true)::π,_,_,hk,_,_,h=>let ⟨o,v,a,b,c⟩:=h;⟨o,v,a,b,swpi_mono π hk _ _ c⟩
 | (_,false)::π,_,_,hk,_,_,h=>swop_mono h fun _t _H h=>swpi_mono π hk _ _ h
theorem swany_pre {K:Array Bool->St} {n:Nat} (hok:okOps ops=true) : ∀ (π:List (Nat × Bool)) (li:Array Bool) (t:List Value) (H:List Ch),chkP ops m π li=true->SWpi P l r ops (fun t H=>SWany P l r ops m K n (lend π li) t H) π t H->SWany P l r ops m K (π.length+n) li t H
 | [],li,t,H,_,h=>by rw [List.length_nil,Nat.zero_add];exact h
 | (i,true)::π,li,t,H,hc,h=>by
  unfold chkP at hc
  simp only [Bool.and_eq_true] at hc
  obtain ⟨o,v,ho,hy,h2⟩:=h
  rw [List.length_cons,Nat.add_right_comm]
  exact swany_first hok ho (π.length+n) li t H (Region.free_spec ho hc.1.1) (by simpa using hc.1.2) hy (swany_pre hok π _ _ _ hc.2 h2)
 | (i,false)::π,li,t,H,hc,h=>by
  unfold chkP at hc
  simp only [Bool.and_eq_true,beq_iff_eq] at hc
  rw [List.length_cons,Nat.add_right_comm]
  refine ⟨fun c=>(by rw [hc.1] at c;cases c),fun j hj=>?_⟩
  rw [hc.1] at hj
  obtain rfl:j=i:=by simpa using hj
  exact swop_mono h fun t' H' h3=>swany_pre hok π _ _ _ hc.2 h3
theorem swany_of_tr {K:Array Bool->St} {fin:Array Bool} (hok:okOps ops=true) : ∀ (p:Pl) (li:Array Bool) (t:List Value) (H:List Ch),chkT ops m fin p li=true->SWtr P l r ops (K fin) p t H->SWany P l r ops m K p.dep li t H
 | .leaf,li,t,H,hc,h=>by
  unfold chkT at hc
  simp only [Bool.and_eq_true,beq_iff_eq] at hc
  rw [← hc.2] at h
  exact ⟨hc.1,h⟩
 | .seg π p,li,t,H,hc,h=>by
  unfold chkT at hc
  rw [Bool.and_eq_true] at hc
  exact swany_pre hok π li t H hc.1 (swpi_mono π (fun t H h=>swany_of_tr hok p _ t H hc.2 h) _ _ h)
 | .two i j a b,li,t,H,hc,h=>by
  unfold chkT at hc
  simp only [Bool.and_eq_true,beq_iff_eq] at hc
  obtain ⟨⟨⟨h1,h2⟩,h3⟩,h4⟩:=hc
  refine ⟨fun c=>(by rw [h1] at c;cases c),fun x hx=>?_⟩
  rw [h1] at hx
  have hx':x=i\/x=j:=by simpa using hx
  rcases hx' with rfl|rfl
  · exact swop_mono h.1 fun t' H' h5=>swany_of_tr hok a _ _ _ h3 h5
  · rw [h2];exact swop_mono h.2 fun t' H' h5=>swany_of_tr hok b _ _ _ h4 h5
theorem sw_draw0 {id:Nat} {H':List Ch} (m n:Nat) (fin:Array Bool) (π2:List (Nat × Bool)) (bs:List (Nat × Obj)) (hm:P.follows .mixedOrders=true) (hp:Takes (pts bs) H H')
 (h1:okOps ops=true) (h2:phase ops m=true) (h3:phase ops ops.size=true) (h5:chk ops ops.size π2 fin=true)
 (h : ∀ r',Lent r r' bs->SWany P l r' ops m (fun li t' H''=>li=fin/\SWpi P l r ops (Q .normal) π2 t' (pts bs++H'')) n (Array.replicate ops.size false) t H'):SW P l r (.region id ops true) Q t H:=by
 intro w h0 ds ok al
 obtain ⟨g,k,d,rfl,hg,hk⟩:=all_app.1 (all_perm hp al)
 have okd:Ok l r ds { w with drawn:=w.drawn+1 } (un g k):=⟨ok.emb,ok.ro,ok.dj,ok.marks.mono (fun D a b _=>⟨a,b⟩),ok.loop⟩
 have tod:To l r ds w (un g k) ds { w with drawn:=w.drawn+1 } (un g k):=⟨okd,rfl,rfl,rfl,Nat.le_refl _,fun _ _ _=>rfl,fun _ hb=> .inl hb,fun _ hd=> .inl hd⟩
 refine wpIn_region_any hm ?_
 have hany:=h (un r g) ⟨fun b o e=>un_left e,fun x hx=>un_right (dj_un.1 ok.dj).1 (pts_all hg x hx)⟩
 -- fuel is the number of operations;more does no harm
 have more : ∀ (f:Nat) (li:Array Bool) (a:Act) (w':World),li.toList.count false<=f -> ∀ f',f<=f'->wpAnyIn (FW l) 0 P .any ops (Post l r ds w (un g k) Q) f' li a w'->wpAnyIn (FW l) 0 P .any ops (Post l r ds w (un g k) Q) f li a w':=by
  intro f
  induction f with
  | zero =>
   intro li a w' hcnt f' _ hw
   have hr0:Region.ready .any ops li=[]:=by
    rw [List.eq_nil_iff_forall_not_mem]
    intro i hi
    have h1:=(mem_ready.1 hi).1
    rcases Nat.lt_or_ge i li.size with c|c
    · have h2:li[i]=false:=by simpa [c] using h1
      have h3:false∈li.toList:=by rw [← h2];exact Array.getElem_mem_toList c
      have:=List.count_pos_iff.2 h3;omega
    · simp [Array.getElem?_eq_none c] at h1
   cases f' with
   | zero=>exact hw
   | succ n=>exact ⟨hr0,hw.1 hr0⟩
  | succ n ih =>
   intro li a w' hcnt f' hf hw
   obtain ⟨f'',rfl⟩ : ∃ f'',f'=f''+1:=⟨f' - 1,by omega⟩
   refine ⟨hw.1,fun i hi=>wpOpIn_mono (fun a' w'' hh=>ih _ a' w'' ?_ f'' (by omega) hh) (hw.2 i hi)⟩
   have h1:=(mem_ready.1 hi).1
   rcases Nat.lt_or_ge i li.size with c|c
   · have h2:li[i]=false:=by simpa [c] using h1
     have h3:(li.setIfInBounds i true).toList=li.toList.set i true:=by simp
     rw [h3,List.count_set (by simpa using c)]
     have h4:li.toList[i]'(by simpa using c)=false:=by simpa using h2
     rw [h4]
     have:0<li.toList.count false:=List.count_pos_iff.2 (by rw [← h2];exact Array.getElem_mem_toList c)
     simp only [beq_self_eq_true,if_true,show (true == false)=false from rfl,Bool.false_eq_true,if_false]
     omega
   · simp [Array.getElem?_eq_none c] at h1
 refine more ops.size _ _ _ (by simp) (n+π2.length+ops.size) (by omega) ?_
 refine any_sound (As:=pts bs) hg h2 ds w (un g k) π2.length ?_ n _ t H' hany _ k d tod hk _ (by omega)
 rintro li t1 H1 w1 k1 ⟨rfl,hpi2⟩ _ d1 to1 al1 f hf
 have hany2:=swany_of_pi (K:=fun _=>Q .normal) h1 π2 _ t1 _ h5 hpi2
 rw [show r=un r emp from un_emp.symm] at hany2
 refine any_sound (As:=[]) (K:=fun _=>Q .normal) (g:=emp) rfl h3 ds w (un g k) 0 ?_ π2.length _ t1 _ hany2 w1 (un g k1) emp_dj (by rw [emp_un];exact to1) (all_app.2 ⟨g,k1,d1,rfl,hg,al1⟩) f (by omega)
 intro li2 t2 H2 w2 k2 hq hr _ to2 al2 f3 _
 have hr2:Region.ready .any ops li2=[]:=by
  rw [List.eq_nil_iff_forall_not_mem]
  intro i hi
  have:i∈rdy ops ops.size li2:=mem_rdy.2 ⟨hi,by obtain ⟨_,o,ho,_⟩:=mem_ready.1 hi;exact (Array.getElem?_eq_some_iff.1 ho).1⟩
  rw [hr] at this;cases this
 rw [emp_un] at to2
 exact wpAnyIn_done hr2 (Post.mk' trivial hq al2 to2) f3
theorem sw_draw {id:Nat} {H':List Ch} (m:Nat) (π π2:List (Nat × Bool)) (bs:List (Nat × Obj)) (hm:P.follows .mixedOrders=true) (hp:Takes (pts bs) H H')
 (hc:(okOps ops && phase ops m && phase ops ops.size && chk ops m π (Array.replicate ops.size false) && chk ops ops.size π2 (lend π (Array.replicate ops.size false)))=true)
 (h : ∀ r',Lent r r' bs->SWpi P l r' ops (fun t' H''=>SWpi P l r ops (Q .normal) π2 t' (pts bs++H'')) π t H'):SW P l r (.region id ops true) Q t H:=by
 simp only [Bool.and_eq_true] at hc
 obtain ⟨⟨⟨⟨h1,h2⟩,h3⟩,h4⟩,h5⟩:=hc
 exact sw_draw0 m π.length _ π2 bs hm hp h1 h2 h3 h5 fun r' hl=>swany_of_pi h1 π _ t H' h4 (swpi_mono π (fun t H h=>⟨rfl,h⟩) _ _ (h r' hl))
theorem sw_drawT {id:Nat} {H':List Ch} (m:Nat) (p:Pl) (fin:Array Bool) (π2:List (Nat × Bool)) (bs:List (Nat × Obj)) (hm:P.follows .mixedOrders=true) (hp:Takes (pts bs) H H')
 (hc:(okOps ops && phase ops m && phase ops ops.size && chkT ops m fin p (Array.replicate ops.size false) && chk ops ops.size π2 fin)=true)
 (h : ∀ r',Lent r r' bs->SWtr P l r' ops (fun t' H''=>SWpi P l r ops (Q .normal) π2 t' (pts bs++H'')) p t H'):SW P l r (.region id ops true) Q t H:=by
 simp only [Bool.and_eq_true] at hc
 obtain ⟨⟨⟨⟨h1,h2⟩,h3⟩,h4⟩,h5⟩:=hc
 refine sw_draw0 m p.dep fin π2 bs hm hp h1 h2 h3 h5 fun r' hl=>swany_of_tr (K:=fun li t' H''=>li=fin/\SWpi P l r ops (Q .normal) π2 t' (pts bs++H'')) h1 p _ t H' h4 ?_
 have conv : ∀ (p:Pl) {K K':St},(∀ t H,K t H->K' t H) -> ∀ t H,SWtr P l r' ops K p t H->SWtr P l r' ops K' p t H:=by
  intro p
  induction p with
  | leaf=>intro K K' hk t H h;exact hk _ _ h
  | seg π p ih=>intro K K' hk t H h;exact swpi_mono π (ih hk) _ _ h
  | two i j a b iha ihb=>intro K K' hk t H h;exact ⟨swpi_mono _ (iha hk) _ _ h.1,swpi_mono _ (ihb hk) _ _ h.2⟩
 exact conv p (fun t H h=>⟨rfl,h⟩) _ _ (h r' hl)
theorem tr_leaf (h:K t H):SWtr P l r ops K .leaf t H:=h
theorem tr_seg {π:List (Nat × Bool)} {p:Pl} (h:SWpi P l r ops (SWtr P l r ops K p) π t H):SWtr P l r ops K (.seg π p) t H:=h
theorem tr_two {i j:Nat} {a b:Pl} (h1:SWpi P l r ops (SWtr P l r ops K a) [(i,false)] t H) (h2:SWpi P l r ops (SWtr P l r ops K b) [(j,false)] t H):SWtr P l r ops K (.two i j a b) t H:=⟨h1,h2⟩
theorem pi_nil (h:K t H):SWpi P l r ops K [] t H:=h
theorem pi_no {i:Nat} {π:List (Nat × Bool)} {d:Option Tmp} {op:Op} {ty:TypeId} {pos:String} {af:Array Edge} {gd:Option (Nat × Bool)} (ho:ops[i]?=some ⟨d,op,ty,pos,af,gd⟩) (hw:Region.wanted ⟨d,op,ty,pos,af,gd⟩ (yielded ops t.toArray)=true) (h:SWo P l r ⟨d,op,ty,pos,af,gd⟩ (SWpi P l r ops K π) t H):SWpi P l r ops K ((i,false)::π) t H:=by
 show SWop _ _ _ _ _ _ _ _;unfold SWop;simp only [ho];rw [if_pos hw];exact h
theorem pi_noskip {i:Nat} {π:List (Nat × Bool)} {d:Option Tmp} {op:Op} {ty:TypeId} {pos:String} {af:Array Edge} {gd:Option (Nat × Bool)} (ho:ops[i]?=some ⟨d,op,ty,pos,af,gd⟩) (hw:Region.wanted ⟨d,op,ty,pos,af,gd⟩ (yielded ops t.toArray)=false) (h:SWpi P l r ops K π (putL t d undef) H):SWpi P l r ops K ((i,false)::π) t H:=by
 show SWop _ _ _ _ _ _ _ _;unfold SWop;simp only [ho];rw [if_neg (by rw [hw];simp)];exact h
theorem pi_skip {i:Nat} {π:List (Nat × Bool)} {d:Option Tmp} {op:Op} {ty:TypeId} {pos:String} {af:Array Edge} {gd:Option (Nat × Bool)} (ho:ops[i]?=some ⟨d,op,ty,pos,af,gd⟩) (hw:Region.wanted ⟨d,op,ty,pos,af,gd⟩ (yielded ops t.toArray)=false) (h:SWpi P l r ops K π (putL t d undef) H):SWpi P l r ops K ((i,true)::π) t H :=
 ⟨_,undef,ho,.inr ⟨hw,rfl⟩,h⟩
end
end Sx
end Go.Proofs.YteknekiclhnkiaaGreatDoor
namespace Go.Proofs.YteknekiclhnkiaaGreatDoor
open Go.RowKit
namespace Sx
theorem Tri.weak {P:Program} {r:Hp} {f:FuncId} {args:List Value} {H:List Ch} {R:Rt} (h:Tri P r f args H fun v H' => ∃ G H2,Takes G H' H2/\R v H2):Tri P r f args H R:=by
 intro w g o a
 refine (h w g o a).mono ?_
 rintro e w' ⟨v,H',h',rfl,⟨G,H2,ht,hR⟩,al,to⟩
 obtain ⟨x,y,d,rfl,_,hy⟩:=all_app.1 (all_perm ht al)
 exact ⟨v,H2,y,rfl,hR,hy,⟨to.ok.right d,to.os,to.tape,to.output,to.size,to.keep,fun b hb=>to.dom b (un_ne.2 (.inr hb)),to.grew⟩⟩
theorem Tri.free {P:Program} {r:Hp} {f:FuncId} {args:List Value} {H:List Ch} {R:Rt} (h : ∀ R':Rt,Hid (∀ v G H' H2,Takes G H' H2->R v H2->R' v H')->Tri P r f args H R'):Tri P r f args H R :=
 Tri.weak (h _ (hid fun _ G _ H2 ht hr=>⟨G,H2,ht,hr⟩))
def Sl (r:Hp) (sz:Nat) (v:Value) (n:Nat) (xs:List Value):Prop :=
 xs.length=n*sz/\n<=maxLen/\(((∃ a,v = .slice a 0 0)/\n=0) \/ ∃ b off cap c E fz,v = .slice (some ⟨b,off,none⟩) n cap/\n<=cap/\r b=some (.cells c E fz) /\ ∀ j (h:j<xs.length),c[off+j]?=some xs[j])
theorem Takes.all {H:List Ch}:Takes H H []:=by unfold Takes;rw [List.append_nil]
theorem sub.trans {r r' r'':Hp} (a:sub r r') (b:sub r' r''):sub r r'':=fun k o h=>b k o (a k o h)
theorem Sl.mono {r r':Hp} {sz n:Nat} {v:Value} {xs:List Value} (h:Sl r sz v n xs) (hr:sub r r'):Sl r' sz v n xs :=
 ⟨h.1,h.2.1,h.2.2.imp id fun ⟨b,off,cap,c,E,fz,h1,h2,h3,h4⟩=>⟨b,off,cap,c,E,fz,h1,h2,hr _ _ h3,h4⟩⟩
theorem Sl.nil (r:Hp) (sz:Nat):Sl r sz (.slice none 0 0) 0 []:=⟨by simp,by simp [maxLen],.inl ⟨⟨none,rfl⟩,rfl⟩⟩
theorem Sl.lit {r:Hp} {sz n b:Nat} {c:List Value} {E:TypeId} {fz:Nat × Nat} (h:r b=some (.cells c.toArray E fz)) (hl:c.length=n*sz) (hn:n<=maxLen):Sl r sz (.slice (some ⟨b,0,none⟩) n n) n c :=
 ⟨hl,hn,.inr ⟨b,0,n,_,E,fz,rfl,Nat.le_refl _,h,fun j hj=>by simp [hj]⟩⟩
theorem Sl.form {r:Hp} {sz n:Nat} {v:Value} {xs:List Value} (h:Sl r sz v n xs) : ∃ a cap,v = .slice a n cap:=by
 rcases h.2.2 with ⟨⟨a,rfl⟩,rfl⟩ | ⟨b,off,cap,c,E,fz,rfl,_⟩<;>exact ⟨_,_,rfl⟩
theorem Sl.at {r:Hp} {sz n cap:Nat} {a:Option Addr} {xs:List Value} (h:Sl r sz (.slice a n cap) n xs) {k:Nat} (hk:k<n) :
 ∃ b off,a=some ⟨b,off,none⟩ /\ ∀ j,j<sz -> ∃ u,xs[k*sz+j]?=some u /\ ∀ H,Rd1 r H ⟨b,off+(k*sz+j),none⟩ u:=by
 rcases h.2.2 with ⟨_,rfl⟩ | ⟨b,off,cap',c,E,fz,e,_,hr,hc⟩
 · omega
 · injection e with e1 e2 e3
   refine ⟨b,off,e1,fun j hj=>?_⟩
   have hlt:k*sz+j<xs.length:=by
    rw [h.1]
    have:(k+1)*sz<=n*sz:=Nat.mul_le_mul_right _ hk
    rw [Nat.succ_mul] at this
    omega
   exact ⟨xs[k*sz+j],List.getElem?_eq_getElem hlt,fun H=>rd_r hr (hc _ hlt)⟩
theorem Sl.at1 {r:Hp} {n cap:Nat} {a:Option Addr} {xs:List Value} (h:Sl r 1 (.slice a n cap) n xs) {k:Nat} (hk:k<n) :
 ∃ b off u,a=some ⟨b,off,none⟩/\xs[k]?=some u /\ ∀ H,Rd1 r H ⟨b,off+k,none⟩ u:=by
 obtain ⟨b,off,e,hj⟩:=h.at hk
 obtain ⟨u,h1,h2⟩:=hj 0 (by omega)
 simp only [Nat.mul_one,Nat.add_zero] at h1 h2
 exact ⟨b,off,u,e,h1,h2⟩
theorem Sl.atN {r:Hp} {sz n cap:Nat} {a:Option Addr} {xs:List Value} (h:Sl r sz (.slice a n cap) n xs) {k:Nat} (hk:k<n) :
 ∃ b off,a=some ⟨b,off,none⟩/\((xs.drop (k*sz)).take sz).length=sz /\ ∀ H,RdN r H ⟨b,off+k*sz,none⟩ ((xs.drop (k*sz)).take sz).toArray:=by
 obtain ⟨b,off,e,hj⟩:=h.at hk
 have hlen:k*sz+sz<=xs.length:=by
  rw [h.1]
  have:(k+1)*sz<=n*sz:=Nat.mul_le_mul_right _ hk
  rw [Nat.succ_mul] at this
  omega
 have hl:((xs.drop (k*sz)).take sz).length=sz:=by simp;omega
 refine ⟨b,off,e,hl,fun H j hj'=>?_⟩
 rw [add_none]
 have hjs:j<sz:=by rw [← hl];simpa using hj'
 obtain ⟨u,h1,h2⟩:=hj j hjs
 have hu:((xs.drop (k*sz)).take sz).toArray[j]=u:=by
  rw [List.getElem?_eq_getElem (by omega)] at h1
  simpa using h1
 rw [hu,Nat.add_assoc]
 exact h2 H
end Sx
end Go.Proofs.YteknekiclhnkiaaGreatDoor
namespace Go.Proofs.YteknekiclhnkiaaGreatDoor
open Go.RowKit
namespace Sx
theorem tri_iff {P:Program} {r:Hp} {f:FuncId} {args:List Value} {H:List Ch} {R:Rt}:Tri P r f args H R ↔ ∀ (w:World) (h:Hp),Ok none r [] w h->all H h->Calls P f args.toArray w fun e w' => ∃ v H' h',e = .returned v/\R v H'/\all H' h'/\To none r [] w h [] w' h':=Iff.rfl
attribute [irreducible] Tri SWl SWop
end Sx
end Go.Proofs.YteknekiclhnkiaaGreatDoor
