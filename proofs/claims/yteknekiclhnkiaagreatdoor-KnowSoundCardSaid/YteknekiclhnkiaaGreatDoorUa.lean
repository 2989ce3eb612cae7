/- Queries of trigrams in plain Lean: texts, which are right, what satisfies them, And and Or. No program. -/
namespace Go.Proofs.YteknekiclhnkiaaGreatDoor
abbrev Tx:=List UInt8
theorem tx_irr (a:Tx):¬ a<a:=List.lt_irrefl a
theorem tx_tr {a b c:Tx} (h:a<b) (k:b<c):a<c:=List.lt_trans h k
theorem tx_tri {a b:Tx} (h:¬ a<b) (h2:a≠b):b<a:=by
 rcases Std.lt_trichotomy a b with h1|h1|h1
 · exact absurd h1 h
 · exact absurd h1 h2
 · exact h1
section
variable {α : Type} {key : α → Tx}
def RisBy (key:α->Tx) (l:List α):Prop:=l.Pairwise fun a b=>key a<key b
theorem risBy_ext : ∀ {l m:List α},RisBy key l->RisBy key m->(∀ x,x∈l↔x∈m)->l=m
 | [],[],_,_,_=>rfl
 | [],b::m,_,_,h=>absurd ((h b).2 (by simp)) (by simp)
 | a::l,[],_,_,h=>absurd ((h a).1 (by simp)) (by simp)
 | a::l,b::m,hl,hm,h=>by
  obtain ⟨ha,hl'⟩:=List.pairwise_cons.1 hl
  obtain ⟨hb,hm'⟩:=List.pairwise_cons.1 hm
  have hab:a=b:=by
   rcases List.mem_cons.1 ((h a).1 (by simp)) with e|e
   · exact e
   · rcases List.mem_cons.1 ((h b).2 (by simp)) with e'|e'
     · exact e'.symm
     · exact absurd (tx_tr (ha b e') (hb a e)) (tx_irr _)
  subst hab
  congr 1
  refine risBy_ext hl' hm' fun x=>⟨fun hx=>?_,fun hx=>?_⟩
  · rcases List.mem_cons.1 ((h x).1 (List.mem_cons_of_mem _ hx)) with e|e
    · subst e;exact absurd (ha _ hx) (tx_irr _)
    · exact e
  · rcases List.mem_cons.1 ((h x).2 (List.mem_cons_of_mem _ hx)) with e|e
    · subst e;exact absurd (hb _ hx) (tx_irr _)
    · exact e
def insBy (key:α->Tx):List α->α->List α
 | [],x=>[x]
 | y::l,x=>if key y<key x then y::insBy key l x else if key y=key x then y::l else x::y::l
theorem mem_insBy {x z:α} : ∀ {l:List α},z∈insBy key l x->z=x\/z∈l
 | [],h=> .inl (List.mem_singleton.1 h)
 | y::l,h=>by
  unfold insBy at h
  split at h
  · rcases List.mem_cons.1 h with h|h
    · exact .inr (by simp [h])
    · rcases mem_insBy h with h|h
      · exact .inl h
      · exact .inr (List.mem_cons_of_mem _ h)
  · split at h
    · exact .inr h
    · rcases List.mem_cons.1 h with h|h
      · exact .inl h
      · exact .inr h
theorem insBy_old {x z:α} : ∀ {l:List α},z∈l->z∈insBy key l x
 | y::l,h=>by
  unfold insBy
  split
  · rcases List.mem_cons.1 h with h|h
    · simp [h]
    · exact List.mem_cons_of_mem _ (insBy_old h)
  · split
    · exact h
    · exact List.mem_cons_of_mem _ h
theorem insBy_new {x:α} : ∀ {l:List α},∃ z∈insBy key l x,key z=key x
 | []=>⟨x,by simp [insBy],rfl⟩
 | y::l=>by
  unfold insBy
  split
  · obtain ⟨z,h,e⟩:=insBy_new (x:=x) (l:=l)
    exact ⟨z,List.mem_cons_of_mem _ h,e⟩
  · split
    · rename_i h;exact ⟨y,by simp,h⟩
    · exact ⟨x,by simp,rfl⟩
theorem ris_insBy {x:α} : ∀ {l:List α},RisBy key l->RisBy key (insBy key l x)
 | [],_=>by simp [insBy,RisBy]
 | y::l,h=>by
  obtain ⟨hy,hl⟩:=List.pairwise_cons.1 h
  unfold insBy
  split
  · rename_i c
    refine List.pairwise_cons.2 ⟨fun z hz=>?_,ris_insBy hl⟩
    rcases mem_insBy hz with rfl|hz
    · exact c
    · exact hy z hz
  · split
    · exact h
    · rename_i c1 c2
      have c3:=tx_tri c1 c2
      refine List.pairwise_cons.2 ⟨fun z hz=>?_,h⟩
      rcases List.mem_cons.1 hz with rfl|hz
      · exact c3
      · exact tx_tr c3 (hy z hz)
def sortBy (key:α->Tx) (l:List α):List α:=l.foldl (insBy key) []
theorem ris_fold : ∀ {l m:List α},RisBy key m->RisBy key (l.foldl (insBy key) m)
 | [],_,h=>h
 | _::l,_,h=>ris_fold (l:=l) (ris_insBy h)
theorem mem_fold {z:α} : ∀ {l m:List α},z∈l.foldl (insBy key) m->z∈l\/z∈m
 | [],_,h=> .inr h
 | x::l,m,h=>by
  rcases mem_fold (l:=l) h with h|h
  · exact .inl (List.mem_cons_of_mem _ h)
  · rcases mem_insBy h with h|h
    · exact .inl (by simp [h])
    · exact .inr h
theorem fold_old {z:α} : ∀ {l m:List α},z∈m->z∈l.foldl (insBy key) m
 | [],_,h=>h
 | _::l,_,h=>fold_old (l:=l) (insBy_old h)
theorem fold_new {x:α} : ∀ {l m:List α},x∈l -> ∃ z∈l.foldl (insBy key) m,key z=key x
 | y::l,m,h=>by
  rcases List.mem_cons.1 h with rfl|h
  · obtain ⟨z,h1,e⟩:=insBy_new (key:=key) (x:=x) (l:=m)
    exact ⟨z,fold_old (l:=l) h1,e⟩
  · exact fold_new (l:=l) h
theorem ris_sortBy (l:List α):RisBy key (sortBy key l):=ris_fold List.Pairwise.nil
theorem sortBy_mem {l:List α} {x:α} (h:x∈sortBy key l):x∈l:=by
 rcases mem_fold h with h|h
 · exact h
 · cases h
theorem sortBy_new {l:List α} {x:α} (h:x∈l) : ∃ z∈sortBy key l,key z=key x:=fold_new h
def Told (key:α->Tx) (l:List α):Prop := ∀ x∈l,∀ y∈l,key x=key y->x=y
theorem mem_sortBy {l:List α} (hl:Told key l) {x:α}:x∈sortBy key l↔x∈l:=by
 constructor
 · exact sortBy_mem
 · intro h
   obtain ⟨z,h1,e⟩:=sortBy_new (key:=key) h
   rw [← hl z (sortBy_mem h1) x h e];exact h1
theorem sortBy_set {l m:List α} (hl:Told key l) (hm:Told key m) (h : ∀ x,x∈l↔x∈m):sortBy key l=sortBy key m :=
 risBy_ext (ris_sortBy l) (ris_sortBy m) fun x=>by rw [mem_sortBy hl,mem_sortBy hm,h]
theorem told_id (l:List Tx):Told id l:=fun _ _ _ _ e=>e
end
inductive Qu where
 | mk (kind:Int) (grams:List Tx) (subs:List Qu)
namespace Qu
def kind:Qu->Int | .mk k _ _=>k
def grams:Qu->List Tx | .mk _ g _=>g
def subs:Qu->List Qu | .mk _ _ s=>s
end Qu
instance:Inhabited Qu:=⟨.mk 0 [] []⟩
def hexD (n:Nat):UInt8:=UInt8.ofNat (if n<10 then 48+n else 87+n)
def hex2 (c:UInt8):Tx:=[hexD (c.toNat / 16),hexD (c.toNat % 16)]
def gramT (g:Tx):Tx:=g.flatMap hex2
def joinB (sep:UInt8):List Tx->Tx
 | []=>[]
 | a::l=>a++l.flatMap (sep :: ·)
mutual
def textQ:Qu->Tx
 | .mk k gs ss=>if k=1 then [43] else if k=2 then [45] else if k=3 then 40::(joinB 38 (gs.map gramT++textL ss)++[41]) else if k=4 then 40::(joinB 124 (gs.map gramT++textL ss)++[41]) else [63]
def textL:List Qu->List Tx
 | []=>[]
 | q::l=>textQ q::textL l
end
theorem textL_map : ∀ l:List Qu,textL l=l.map textQ
 | []=>by simp [textL]
 | q::l=>by simp [textL,textL_map l]
def loneQ (q:Qu):Bool:=decide (q.kind=3) && decide (q.grams.length=1) && decide (q.subs.length=0)
def risT:List Tx->Bool
 | []=>true
 | [_]=>true
 | a::b::l=>decide (a<b) && risT (b::l)
theorem risT_iff : ∀ {l:List Tx},risT l=true↔RisBy id l
 | []=>by simp [risT,RisBy]
 | [_]=>by simp [risT,RisBy]
 | a::b::l=>by
  have ih:=risT_iff (l:=b::l)
  simp only [risT,Bool.and_eq_true,decide_eq_true_eq,ih]
  constructor
  · rintro ⟨h1,h2⟩
    refine List.pairwise_cons.2 ⟨fun x hx=>?_,h2⟩
    rcases List.mem_cons.1 hx with rfl|hx
    · exact h1
    · exact tx_tr h1 ((List.pairwise_cons.1 h2).1 x hx)
  · intro h
    exact ⟨(List.pairwise_cons.1 h).1 b (by simp),(List.pairwise_cons.1 h).2⟩
mutual
def rightQ:Qu->Bool
 | .mk k gs ss =>
  if k=1\/k=2 then decide (gs.length+ss.length=0)
  else if k=3 then rightL 4 ss && decide ((if gs.length=0 then 2 else 1)<=gs.length+ss.length) && gs.all (fun g=>decide (g.length=3)) && risT gs && risT (textL ss)
  else if k=4 then rightL 3 ss && decide (2<=gs.length+ss.length) && gs.all (fun g=>decide (g.length=3)) && risT gs && risT (textL ss)
  else false
def rightL (other:Int):List Qu->Bool
 | []=>true
 | s::l=>decide (s.kind=other) && !loneQ s && rightQ s && rightL other l
end
theorem rightL_iff (o:Int) : ∀ {l:List Qu},rightL o l=true ↔ ∀ s∈l,s.kind=o/\loneQ s=false/\rightQ s=true
 | []=>by simp [rightL]
 | s::l=>by
  simp only [rightL,Bool.and_eq_true,decide_eq_true_eq,Bool.not_eq_true',rightL_iff o (l:=l),List.forall_mem_cons,and_assoc]
theorem risT_texts {ss:List Qu}:risT (textL ss)=true↔RisBy textQ ss:=by
 rw [risT_iff,textL_map]
 unfold RisBy
 rw [List.pairwise_map];rfl
inductive RightK:Qu->Prop
 | all:RightK (.mk 1 [] [])
 | none:RightK (.mk 2 [] [])
 | and {gs ss} (hs : ∀ s∈ss,s.kind=4/\loneQ s=false/\rightQ s=true) (hn:(if gs.length=0 then 2 else 1)<=gs.length+ss.length) (hg : ∀ g∈gs,g.length=3) (h1:RisBy id gs) (h2:RisBy textQ ss):RightK (.mk 3 gs ss)
 | or {gs ss} (hs : ∀ s∈ss,s.kind=3/\loneQ s=false/\rightQ s=true) (hn:2<=gs.length+ss.length) (hg : ∀ g∈gs,g.length=3) (h1:RisBy id gs) (h2:RisBy textQ ss):RightK (.mk 4 gs ss)
theorem right_iff {q:Qu}:rightQ q=true↔RightK q:=by
 obtain ⟨k,gs,ss⟩:=q
 constructor
 · intro h
   unfold rightQ at h
   split at h
   · rename_i hk
     have h0:gs.length+ss.length=0:=by simpa using h
     obtain rfl:gs=[]:=List.length_eq_zero_iff.1 (by omega)
     obtain rfl:ss=[]:=List.length_eq_zero_iff.1 (by omega)
     rcases hk with rfl|rfl
     · exact .all
     · exact .none
   · split at h
     · rename_i hk;subst hk
       simp only [Bool.and_eq_true,decide_eq_true_eq,List.all_eq_true,rightL_iff,risT_iff (l:=gs),risT_texts] at h
       exact .and h.1.1.1.1 h.1.1.1.2 h.1.1.2 h.1.2 h.2
     · split at h
       · rename_i hk;subst hk
         simp only [Bool.and_eq_true,decide_eq_true_eq,List.all_eq_true,rightL_iff,risT_iff (l:=gs),risT_texts] at h
         exact .or h.1.1.1.1 h.1.1.1.2 h.1.1.2 h.1.2 h.2
       · cases h
 · intro h
   cases h with
   | all=>simp [rightQ]
   | none=>simp [rightQ]
   | and hs hn hg h1 h2 =>
    unfold rightQ
    rw [if_neg (by omega),if_pos rfl]
    simp only [Bool.and_eq_true,decide_eq_true_eq,List.all_eq_true,rightL_iff,risT_iff (l:=gs),risT_texts]
    exact ⟨⟨⟨⟨hs,hn⟩,hg⟩,h1⟩,h2⟩
   | or hs hn hg h1 h2 =>
    unfold rightQ
    rw [if_neg (by omega),if_neg (by omega),if_pos rfl]
    simp only [Bool.and_eq_true,decide_eq_true_eq,List.all_eq_true,rightL_iff,risT_iff (l:=gs),risT_texts]
    exact ⟨⟨⟨⟨hs,hn⟩,hg⟩,h1⟩,h2⟩
theorem hexD_inj : ∀ n<16,∀ m<16,hexD n=hexD m->n=m:=by decide
theorem hexD_ne : ∀ n<16,hexD n≠40:=by decide
theorem hex2_inj {c d:UInt8} (h:hex2 c=hex2 d):c=d:=by
 unfold hex2 at h
 simp only [List.cons.injEq,and_true] at h
 have hc:=c.toNat_lt
 have hd:=d.toNat_lt
 have h1:=hexD_inj _ (by omega) _ (by omega) h.1
 have h2:=hexD_inj _ (by omega) _ (by omega) h.2
 exact UInt8.toNat_inj.1 (by omega)
theorem gramT_cons (c:UInt8) (g:Tx):gramT (c::g)=hex2 c++gramT g:=rfl
theorem gramT_inj : ∀ {g g':Tx},gramT g=gramT g'->g=g'
 | [],[],_=>rfl
 | [],d::g',h=>by rw [gramT_cons] at h;simp [gramT,hex2] at h
 | c::g,[],h=>by rw [gramT_cons] at h;simp [gramT,hex2] at h
 | c::g,d::g',h=>by
  rw [gramT_cons,gramT_cons] at h
  obtain ⟨h1,h2⟩:=List.append_inj h rfl
  rw [hex2_inj h1,gramT_inj h2]
theorem gramT_len : ∀ g:Tx,(gramT g).length=2*g.length
 | []=>rfl
 | c::g=>by rw [gramT_cons,List.length_append,gramT_len g];simp [hex2];omega
abbrev Th:=Tx ⊕ Qu
def thT:Th->Tx
 | .inl g=>gramT g
 | .inr q=>textQ q
def thingsQ (gs:List Tx) (ss:List Qu):List Th:=gs.map .inl++ss.map .inr
theorem things_text (gs:List Tx) (ss:List Qu):gs.map gramT++textL ss=(thingsQ gs ss).map thT:=by
 unfold thingsQ
 rw [List.map_append,List.map_map,List.map_map,textL_map];rfl
theorem things_inj {gs gs':List Tx} {ss ss':List Qu} (h:thingsQ gs ss=thingsQ gs' ss'):gs=gs'/\ss=ss':=by
 have l1 : ∀ (gs:List Tx) (ss:List Qu),(thingsQ gs ss).filterMap (fun t=>match t with | .inl g=>some g | .inr _=>none)=gs:=fun gs ss=>by
  unfold thingsQ
  rw [List.filterMap_append,List.filterMap_map,List.filterMap_map]
  simp [Function.comp_def]
 have l2 : ∀ (gs:List Tx) (ss:List Qu),(thingsQ gs ss).filterMap (fun t=>match t with | .inl _=>none | .inr q=>some q)=ss:=fun gs ss=>by
  unfold thingsQ
  rw [List.filterMap_append,List.filterMap_map,List.filterMap_map]
  simp [Function.comp_def]
 exact ⟨by rw [← l1 gs ss,h,l1],by rw [← l2 gs ss,h,l2]⟩
def Comp (q:Qu):Prop:=q.kind=3\/q.kind=4
def Readable (q:Qu):Prop := ∀ q' x y,rightQ q'=true->Comp q'->textQ q++x=textQ q'++y->q=q'/\x=y
theorem comp_head {q:Qu} (h:Comp q) : ∃ t,textQ q=40::t:=by
 obtain ⟨k,gs,ss⟩:=q
 rcases h with h|h
 · have h:k=3:=h
   subst h
   exact ⟨_,by unfold textQ;rw [if_neg (by omega),if_neg (by omega),if_pos rfl]⟩
 · have h:k=4:=h
   subst h
   exact ⟨_,by unfold textQ;rw [if_neg (by omega),if_neg (by omega),if_neg (by omega),if_pos rfl]⟩
theorem gram_head {g:Tx} (h:g.length=3) (t u:Tx):gramT g++t≠40::u:=by
 match g,h with
 | c::g,_ =>
  rw [gramT_cons]
  unfold hex2
  intro e
  rw [List.append_assoc,List.cons_append,List.cons.injEq] at e
  exact hexD_ne _ (by have:=c.toNat_lt;omega) e.1
def GoodTh:Th->Prop
 | .inl g=>g.length=3
 | .inr q=>rightQ q=true/\Comp q
theorem head_read {a b:Th} (ha:GoodTh a) (hb:GoodTh b) (hr : ∀ q,a = .inr q->Readable q) {x y:Tx} (h:thT a++x=thT b++y):a=b/\x=y:=by
 cases a with
 | inl g =>
  cases b with
  | inl g' =>
   obtain ⟨h1,h2⟩:=List.append_inj h (by
    show (gramT g).length=(gramT g').length
    have ha:g.length=3:=ha
    have hb:g'.length=3:=hb
    rw [gramT_len,gramT_len,ha,hb])
   exact ⟨by rw [gramT_inj h1],h2⟩
  | inr q =>
   obtain ⟨t,ht⟩:=comp_head hb.2
   exact absurd (h.trans (by show textQ q++y=40::(t++y);rw [ht];rfl)) (gram_head ha _ _)
 | inr q =>
  cases b with
  | inl g =>
   obtain ⟨t,ht⟩:=comp_head ha.2
   exact absurd (h.symm.trans (by show textQ q++x=40::(t++x);rw [ht];rfl)) (gram_head hb _ _)
  | inr q' =>
   obtain ⟨h1,h2⟩:=hr q rfl q' x y hb.1 hb.2 h
   exact ⟨by rw [h1],h2⟩
theorem tail_read {s s':UInt8} (hs:s≠41) (hs':s'≠41) {x y:Tx} : ∀ {l m:List Th},(∀ a∈l,GoodTh a)->(∀ b∈m,GoodTh b)->(∀ q,Sum.inr q∈l->Readable q)->(l.map thT).flatMap (s :: ·)++41::x=(m.map thT).flatMap (s' :: ·)++41::y->l=m/\x=y/\(l≠[]->s=s')
 | [],[],_,_,_,h=>by
  simp only [List.map_nil,List.flatMap_nil,List.nil_append,List.cons.injEq,true_and] at h
  exact ⟨rfl,h,fun h=>absurd rfl h⟩
 | [],b::m,_,_,_,h=>by
  simp only [List.map_nil,List.flatMap_nil,List.nil_append,List.map_cons,List.flatMap_cons,List.cons_append,List.cons.injEq] at h
  exact absurd h.1.symm hs'
 | a::l,[],_,_,_,h=>by
  simp only [List.map_nil,List.flatMap_nil,List.nil_append,List.map_cons,List.flatMap_cons,List.cons_append,List.cons.injEq] at h
  exact absurd h.1 hs
 | a::l,b::m,ha,hb,hr,h=>by
  simp only [List.map_cons,List.flatMap_cons,List.cons_append,List.append_assoc,List.cons.injEq] at h
  obtain ⟨h1,h2⟩:=h
  obtain ⟨e1,h3⟩:=head_read (ha a (by simp)) (hb b (by simp)) (fun q e=>hr q (by simp [e])) h2
  obtain ⟨e2,e3,_⟩:=tail_read hs hs' (l:=l) (m:=m) (fun a h=>ha a (by simp [h])) (fun b h=>hb b (by simp [h])) (fun q h=>hr q (by simp [h])) h3
  exact ⟨by rw [e1,e2],e3,fun _=>h1⟩
theorem join_read {s s':UInt8} (hs:s≠41) (hs':s'≠41) {x y:Tx} {l m:List Th} (hl:l≠[]) (hm:m≠[]) (ha : ∀ a∈l,GoodTh a) (hb : ∀ b∈m,GoodTh b) (hr : ∀ q,Sum.inr q∈l->Readable q) (h:joinB s (l.map thT)++41::x=joinB s' (m.map thT)++41::y):l=m/\x=y/\(1<l.length->s=s'):=by
 match l,m,hl,hm with
 | a::l,b::m,_,_ =>
  simp only [List.map_cons,joinB,List.append_assoc] at h
  obtain ⟨e1,h3⟩:=head_read (ha a (by simp)) (hb b (by simp)) (fun q e=>hr q (by simp [e])) h
  obtain ⟨e2,e3,e4⟩:=tail_read hs hs' (l:=l) (m:=m) (fun a h=>ha a (by simp [h])) (fun b h=>hb b (by simp [h])) (fun q h=>hr q (by simp [h])) h3
  refine ⟨by rw [e1,e2],e3,fun hn=>e4 fun e=>?_⟩
  subst e
  simp at hn
def sepQ (q:Qu):UInt8:=if q.kind=3 then 38 else 124
theorem text_comp {q:Qu} (h:Comp q):textQ q=40::(joinB (sepQ q) ((thingsQ q.grams q.subs).map thT)++[41]):=by
 obtain ⟨k,gs,ss⟩:=q
 rcases h with h|h
 · have h:k=3:=h
   subst h
   unfold textQ
   rw [if_neg (by omega),if_neg (by omega),if_pos rfl,things_text];rfl
 · have h:k=4:=h
   subst h
   unfold textQ
   rw [if_neg (by omega),if_neg (by omega),if_neg (by omega),if_pos rfl,things_text];rfl
theorem sepQ_ne (q:Qu):sepQ q≠41:=by unfold sepQ;split<;>decide
theorem right_things {q:Qu} (h:rightQ q=true) (hc:Comp q):thingsQ q.grams q.subs≠[]/\(∀ a∈thingsQ q.grams q.subs,GoodTh a)/\((thingsQ q.grams q.subs).length=1->q.kind=3):=by
 have hlen : ∀ (gs:List Tx) (ss:List Qu),(thingsQ gs ss).length=gs.length+ss.length:=fun gs ss=>by unfold thingsQ;simp
 have hgood : ∀ (gs:List Tx) (ss:List Qu),(∀ g∈gs,g.length=3)->(∀ s∈ss,rightQ s=true/\Comp s) -> ∀ a∈thingsQ gs ss,GoodTh a:=fun gs ss h1 h2 a ha=>by
  unfold thingsQ at ha
  rcases List.mem_append.1 ha with ha|ha
  · obtain ⟨g,hg,rfl⟩:=List.mem_map.1 ha
    exact h1 g hg
  · obtain ⟨s,hs,rfl⟩:=List.mem_map.1 ha
    exact h2 s hs
 cases right_iff.1 h with
 | all=>rcases hc with h|h<;>cases h
 | none=>rcases hc with h|h<;>cases h
 | @and gs ss hs hn hg h1 h2 =>
  refine ⟨fun e=>?_,hgood _ _ hg fun s h=>⟨(hs s h).2.2,.inr (hs s h).1⟩,fun _=>rfl⟩
  have:=hlen gs ss
  have e:thingsQ gs ss=[]:=e
  rw [e] at this
  simp only [List.length_nil] at this
  split at hn<;>omega
 | @or gs ss hs hn hg h1 h2 =>
  refine ⟨fun e=>?_,hgood _ _ hg fun s h=>⟨(hs s h).2.2,.inl (hs s h).1⟩,fun e=>?_⟩
  · have:=hlen gs ss
    have e:thingsQ gs ss=[]:=e
    rw [e] at this
    simp only [List.length_nil] at this
    omega
  · have:=hlen gs ss
    have e:(thingsQ gs ss).length=1:=e
    omega
theorem right_subs {q:Qu} (h:rightQ q=true) : ∀ s∈q.subs,rightQ s=true/\Comp s:=by
 cases right_iff.1 h with
 | all=>intro s hs;cases hs
 | none=>intro s hs;cases hs
 | and hs hn hg h1 h2=>exact fun s h=>⟨(hs s h).2.2,.inr (hs s h).1⟩
 | or hs hn hg h1 h2=>exact fun s h=>⟨(hs s h).2.2,.inl (hs s h).1⟩
theorem qu_eta (q:Qu):q = .mk q.kind q.grams q.subs:=by cases q;rfl
theorem readable : ∀ q:Qu,rightQ q=true->Comp q->Readable q
 | .mk k gs ss,h,hc=>by
  have ih : ∀ s∈ss,Readable s:=fun s _h=>readable s (right_subs h s _h).1 (right_subs h s _h).2
  intro q' x y h' hc' e
  rw [text_comp hc,text_comp hc'] at e
  simp only [List.cons_append,List.append_assoc,List.nil_append,List.cons.injEq,true_and] at e
  obtain ⟨n1,g1,k1⟩:=right_things h hc
  obtain ⟨n2,g2,k2⟩:=right_things h' hc'
  obtain ⟨e1,e2,e3⟩:=join_read (sepQ_ne _) (sepQ_ne _) n1 n2 g1 g2 (fun q hq=>by
   unfold thingsQ at hq
   rcases List.mem_append.1 hq with hq|hq
   · obtain ⟨g,_,e⟩:=List.mem_map.1 hq
     cases e
   · obtain ⟨s,hs,e⟩:=List.mem_map.1 hq
     cases e
     exact ih _ hs) e
  obtain ⟨e4,e5⟩:=things_inj e1
  refine ⟨?_,e2⟩
  rw [qu_eta q',← e4,← e5]
  show Qu.mk k gs ss=Qu.mk q'.kind gs ss
  congr 1
  rcases Nat.lt_or_ge 1 (thingsQ gs ss).length with hl|hl
  · have hsep:=e3 hl
    unfold sepQ at hsep
    have hc1:k=3\/k=4:=hc
    have hk:(Qu.mk k gs ss).kind=k:=rfl
    rw [hk] at hsep
    rcases hc1 with rfl|rfl<;>rcases hc' with h3|h3<;>rw [h3] at hsep ⊢ <;> first|rfl|(exact absurd hsep (by decide))
  · have hpos:0<(thingsQ gs ss).length:=List.length_pos_iff.2 n1
    have hone:(thingsQ gs ss).length=1:=by omega
    have h1:k=3:=k1 hone
    have e6:thingsQ gs ss=thingsQ q'.grams q'.subs:=e1
    rw [h1,k2 (by rw [← e6];exact hone)]
termination_by q=>sizeOf q
decreasing_by
 have:=List.sizeOf_lt_of_mem _h
 simp only [Qu.mk.sizeOf_spec]
 omega
theorem text_inj {a b:Qu} (ha:rightQ a=true) (hb:rightQ b=true) (h:textQ a=textQ b):a=b:=by
 have l1:textQ (.mk 1 [] [])=[43]:=by simp [textQ]
 have l2:textQ (.mk 2 [] [])=[45]:=by simp [textQ]
 have hca:Comp a\/a = .mk 1 [] []\/a = .mk 2 [] []:=by
  cases right_iff.1 ha with
  | all=>exact .inr (.inl rfl)
  | none=>exact .inr (.inr rfl)
  | and=>exact .inl (.inl rfl)
  | or=>exact .inl (.inr rfl)
 have hcb:Comp b\/b = .mk 1 [] []\/b = .mk 2 [] []:=by
  cases right_iff.1 hb with
  | all=>exact .inr (.inl rfl)
  | none=>exact .inr (.inr rfl)
  | and=>exact .inl (.inl rfl)
  | or=>exact .inl (.inr rfl)
 rcases hca with hca|rfl|rfl
 · rcases hcb with hcb|rfl|rfl
   · exact (readable a ha hca b [] [] hb hcb (by rw [h])).1
   · obtain ⟨t,ht⟩:=comp_head hca
     rw [ht,l1] at h
     exact absurd h (by simp)
   · obtain ⟨t,ht⟩:=comp_head hca
     rw [ht,l2] at h
     exact absurd h (by simp)
 · rcases hcb with hcb|rfl|rfl
   · obtain ⟨t,ht⟩:=comp_head hcb
     rw [ht,l1] at h
     exact absurd h (by simp)
   · rfl
   · rw [l1,l2] at h;exact absurd h (by decide)
 · rcases hcb with hcb|rfl|rfl
   · obtain ⟨t,ht⟩:=comp_head hcb
     rw [ht,l2] at h
     exact absurd h (by simp)
   · rw [l1,l2] at h;exact absurd h (by decide)
   · rfl
mutual
def satQ (there:Tx->Bool):Qu->Bool
 | .mk k gs ss=>if k=1 then true else if k=3 then gs.all there && satAll there ss else if k=4 then gs.any there || satAny there ss else false
def satAll (there:Tx->Bool):List Qu->Bool
 | []=>true
 | q::l=>satQ there q && satAll there l
def satAny (there:Tx->Bool):List Qu->Bool
 | []=>false
 | q::l=>satQ there q || satAny there l
end
theorem satAll_eq (there:Tx->Bool) : ∀ l:List Qu,satAll there l=l.all (satQ there)
 | []=>by simp [satAll]
 | q::l=>by simp [satAll,satAll_eq there l]
theorem satAny_eq (there:Tx->Bool) : ∀ l:List Qu,satAny there l=l.any (satQ there)
 | []=>by simp [satAny]
 | q::l=>by simp [satAny,satAny_eq there l]
theorem sat_and (there:Tx->Bool) (gs:List Tx) (ss:List Qu):satQ there (.mk 3 gs ss)=(gs.all there && ss.all (satQ there)):=by
 unfold satQ;rw [if_neg (by omega),if_pos rfl,satAll_eq]
theorem sat_or (there:Tx->Bool) (gs:List Tx) (ss:List Qu):satQ there (.mk 4 gs ss)=(gs.any there || ss.any (satQ there)):=by
 unfold satQ;rw [if_neg (by omega),if_neg (by omega),if_pos rfl,satAny_eq]
theorem sat_all (there:Tx->Bool) (gs:List Tx) (ss:List Qu):satQ there (.mk 1 gs ss)=true:=by
 unfold satQ;rw [if_pos rfl]
theorem sat_none (there:Tx->Bool) (gs:List Tx) (ss:List Qu):satQ there (.mk 2 gs ss)=false:=by
 unfold satQ;rw [if_neg (by omega),if_neg (by omega),if_neg (by omega)]
def mkQ (k none:Int) (G:List Tx) (S:List Qu):Qu :=
 if 1<(sortBy id G).length+(sortBy textQ S).length then .mk k (sortBy id G) (sortBy textQ S)
 else if (sortBy id G).length=1 then .mk 3 (sortBy id G) (sortBy textQ S)
 else match sortBy textQ S with
  | q::_=>q
  | []=> .mk none [] []
def gA (q:Qu):List Tx:=if q.kind=3 then q.grams else []
def sA (q:Qu):List Qu:=if q.kind=3 then q.subs else if q.kind=4 then [q] else []
def badA (q:Qu):Bool := !(decide (q.kind=1) || decide (q.kind=3) || decide (q.kind=4))
def andQ (l:List Qu):Qu:=if l.any badA then .mk 2 [] [] else mkQ 3 1 (l.flatMap gA) (l.flatMap sA)
def gO (q:Qu):List Tx:=if (decide (q.kind=4) || loneQ q)=true then q.grams else []
def sO (q:Qu):List Qu:=if (decide (q.kind=4) || loneQ q)=true then q.subs else if q.kind=3 then [q] else []
def orQ (l:List Qu):Qu:=if l.any (fun q=>decide (q.kind=1)) then .mk 1 [] [] else mkQ 4 2 (l.flatMap gO) (l.flatMap sO)
theorem mkQ_cases (k n:Int) (G:List Tx) (S:List Qu):(1<(sortBy id G).length+(sortBy textQ S).length/\mkQ k n G S = .mk k (sortBy id G) (sortBy textQ S))\/(∃ g,sortBy id G=[g]/\sortBy textQ S=[]/\mkQ k n G S = .mk 3 [g] [])\/(∃ q,sortBy id G=[]/\sortBy textQ S=[q]/\mkQ k n G S=q)\/(sortBy id G=[]/\sortBy textQ S=[]/\mkQ k n G S = .mk n [] []):=by
 unfold mkQ
 by_cases h:1<(sortBy id G).length+(sortBy textQ S).length
 · exact .inl ⟨h,if_pos h⟩
 · rw [if_neg h]
   generalize sortBy id G=g at h ⊢
   generalize sortBy textQ S=s at h ⊢
   match g,s with
   | [],[]=>exact .inr (.inr (.inr ⟨rfl,rfl,rfl⟩))
   | [],[q]=>exact .inr (.inr (.inl ⟨q,rfl,rfl,rfl⟩))
   | [g],[]=>exact .inr (.inl ⟨g,rfl,rfl,rfl⟩)
   | _::_::_,_=>simp at h;omega
   | _,_::_::_=>simp at h;omega
   | [_],[_]=>simp at h
theorem mkQ_set {k n:Int} {G G':List Tx} {S S':List Qu} (hS:Told textQ S) (hS':Told textQ S') (h1 : ∀ x,x∈G↔x∈G') (h2 : ∀ x,x∈S↔x∈S'):mkQ k n G S=mkQ k n G' S':=by
 unfold mkQ
 rw [sortBy_set (told_id G) (told_id G') h1,sortBy_set hS hS' h2]
def Right (l:List Qu):Prop := ∀ q∈l,rightQ q=true
theorem told_right {l:List Qu} (h:Right l):Told textQ l:=fun x hx y hy e=>text_inj (h x hx) (h y hy) e
theorem partA {q:Qu} (h:rightQ q=true):(∀ g∈gA q,g.length=3) /\ ∀ s∈sA q,s.kind=4/\loneQ s=false/\rightQ s=true:=by
 cases right_iff.1 h with
 | all=>exact ⟨fun g hg=>by simp [gA,Qu.kind] at hg,fun s hs=>by simp [sA,Qu.kind] at hs⟩
 | none=>exact ⟨fun g hg=>by simp [gA,Qu.kind] at hg,fun s hs=>by simp [sA,Qu.kind] at hs⟩
 | and hs hn hg h1 h2=>exact ⟨fun g hg'=>hg g (by simpa [gA,Qu.kind,Qu.grams] using hg'),fun s hs'=>hs s (by simpa [sA,Qu.kind,Qu.subs] using hs')⟩
 | or hs hn hg h1 h2 =>
  refine ⟨fun g hg=>by simp [gA,Qu.kind] at hg,fun s hs'=>?_⟩
  obtain rfl:s = .mk 4 _ _:=by simpa [sA,Qu.kind] using hs'
  exact ⟨rfl,by simp [loneQ,Qu.kind],h⟩
theorem partO {q:Qu} (h:rightQ q=true):(∀ g∈gO q,g.length=3) /\ ∀ s∈sO q,s.kind=3/\loneQ s=false/\rightQ s=true:=by
 cases right_iff.1 h with
 | all=>exact ⟨fun g hg=>by simp [gO,Qu.kind,loneQ] at hg,fun s hs=>by simp [sO,Qu.kind,loneQ] at hs⟩
 | none=>exact ⟨fun g hg=>by simp [gO,Qu.kind,loneQ] at hg,fun s hs=>by simp [sO,Qu.kind,loneQ] at hs⟩
 | or hs hn hg h1 h2=>exact ⟨fun g hg'=>hg g (by simpa [gO,Qu.kind,Qu.grams] using hg'),fun s hs'=>hs s (by simpa [sO,Qu.kind,Qu.subs] using hs')⟩
 | @and gs ss hs hn hg h1 h2 =>
  cases hl:loneQ (.mk 3 gs ss) with
  | true =>
   refine ⟨fun g hg'=>hg g (by simpa [gO,hl,Qu.grams] using hg'),fun s hs'=>?_⟩
   have:ss=[]:=by
    simp only [loneQ,Bool.and_eq_true,decide_eq_true_eq,Qu.subs] at hl
    exact List.length_eq_zero_iff.1 (of_decide_eq_true hl.2)
   subst this
   simp [sO,hl,Qu.subs] at hs'
  | false =>
   refine ⟨fun g hg'=>by simp [gO,hl,Qu.kind] at hg',fun s hs'=>?_⟩
   obtain rfl:s = .mk 3 _ _:=by simpa [sO,hl,Qu.kind] using hs'
   exact ⟨rfl,hl,h⟩
theorem flat_part {α:Type} {f:Qu->List α} {p:α->Prop} {l:List Qu} (hl:Right l) (h : ∀ {q},rightQ q=true -> ∀ x∈f q,p x) : ∀ x∈l.flatMap f,p x:=fun x hx=>by
 obtain ⟨q,hq,hx⟩:=List.mem_flatMap.1 hx
 exact h (hl q hq) x hx
theorem mk_right3 {G:List Tx} {S:List Qu} (hG : ∀ g∈G,g.length=3) (hS : ∀ s∈S,s.kind=4/\loneQ s=false/\rightQ s=true):rightQ (mkQ 3 1 G S)=true:=by
 have hS' : ∀ s∈sortBy textQ S,s.kind=4/\loneQ s=false/\rightQ s=true:=fun s h=>hS s (sortBy_mem h)
 have hG' : ∀ g∈sortBy id G,g.length=3:=fun s h=>hG s (sortBy_mem h)
 rcases mkQ_cases 3 1 G S with ⟨h,e⟩ | ⟨g,h1,h2,e⟩ | ⟨q,h1,h2,e⟩ | ⟨_,_,e⟩
 · rw [e]
   exact right_iff.2 (.and hS' (by split<;>omega) hG' (ris_sortBy G) (ris_sortBy S))
 · rw [e]
   exact right_iff.2 (.and (fun s h=>by cases h) (by simp) (by rw [← h1];exact hG') (by rw [← h1];exact ris_sortBy G) List.Pairwise.nil)
 · rw [e]
   exact (hS' q (by rw [h2];simp)).2.2
 · rw [e]
   exact right_iff.2 .all
theorem mk_right4 {G:List Tx} {S:List Qu} (hG : ∀ g∈G,g.length=3) (hS : ∀ s∈S,s.kind=3/\loneQ s=false/\rightQ s=true):rightQ (mkQ 4 2 G S)=true:=by
 have hS' : ∀ s∈sortBy textQ S,s.kind=3/\loneQ s=false/\rightQ s=true:=fun s h=>hS s (sortBy_mem h)
 have hG' : ∀ g∈sortBy id G,g.length=3:=fun s h=>hG s (sortBy_mem h)
 rcases mkQ_cases 4 2 G S with ⟨h,e⟩ | ⟨g,h1,h2,e⟩ | ⟨q,h1,h2,e⟩ | ⟨_,_,e⟩
 · rw [e]
   exact right_iff.2 (.or hS' (by omega) hG' (ris_sortBy G) (ris_sortBy S))
 · rw [e]
   exact right_iff.2 (.and (fun s h=>by cases h) (by simp) (by rw [← h1];exact hG') (by rw [← h1];exact ris_sortBy G) List.Pairwise.nil)
 · rw [e]
   exact (hS' q (by rw [h2];simp)).2.2
 · rw [e]
   exact right_iff.2 .none
theorem right_andQ {l:List Qu} (h:Right l):rightQ (andQ l)=true:=by
 unfold andQ
 split
 · exact right_iff.2 .none
 · exact mk_right3 (flat_part h fun hq=>(partA hq).1) (flat_part h fun hq=>(partA hq).2)
theorem right_orQ {l:List Qu} (h:Right l):rightQ (orQ l)=true:=by
 unfold orQ
 split
 · exact right_iff.2 .all
 · exact mk_right4 (flat_part h fun hq=>(partO hq).1) (flat_part h fun hq=>(partO hq).2)
theorem right_sA {l:List Qu} (h:Right l):Right (l.flatMap sA):=flat_part h fun hq s hs=>((partA hq).2 s hs).2.2
theorem right_sO {l:List Qu} (h:Right l):Right (l.flatMap sO):=flat_part h fun hq s hs=>((partO hq).2 s hs).2.2
theorem all_set {α:Type} {l m:List α} {p:α->Bool} (h : ∀ x,x∈l↔x∈m):l.all p=m.all p:=by
 rw [Bool.eq_iff_iff,List.all_eq_true,List.all_eq_true]
 exact ⟨fun k x hx=>k x ((h x).2 hx),fun k x hx=>k x ((h x).1 hx)⟩
theorem any_set {α:Type} {l m:List α} {p:α->Bool} (h : ∀ x,x∈l↔x∈m):l.any p=m.any p:=by
 rw [Bool.eq_iff_iff,List.any_eq_true,List.any_eq_true]
 exact ⟨fun ⟨x,hx,k⟩=>⟨x,(h x).1 hx,k⟩,fun ⟨x,hx,k⟩=>⟨x,(h x).2 hx,k⟩⟩
theorem sat_mk3 (there:Tx->Bool) {G:List Tx} {S:List Qu} (hS:Told textQ S):satQ there (mkQ 3 1 G S)=(G.all there && S.all (satQ there)):=by
 rw [← all_set (fun _=>mem_sortBy (key:=id) (told_id G)),← all_set (fun _=>mem_sortBy hS)]
 rcases mkQ_cases 3 1 G S with ⟨h,e⟩ | ⟨g,h1,h2,e⟩ | ⟨q,h1,h2,e⟩ | ⟨h1,h2,e⟩
 · rw [e,sat_and]
 · rw [e,h1,h2,sat_and]
 · rw [e,h1,h2];simp
 · rw [e,h1,h2,sat_all];rfl
theorem sat_mk4 (there:Tx->Bool) {G:List Tx} {S:List Qu} (hS:Told textQ S):satQ there (mkQ 4 2 G S)=(G.any there || S.any (satQ there)):=by
 rw [← any_set (fun _=>mem_sortBy (key:=id) (told_id G)),← any_set (fun _=>mem_sortBy hS)]
 rcases mkQ_cases 4 2 G S with ⟨h,e⟩ | ⟨g,h1,h2,e⟩ | ⟨q,h1,h2,e⟩ | ⟨h1,h2,e⟩
 · rw [e,sat_or]
 · rw [e,h1,h2,sat_and];simp
 · rw [e,h1,h2];simp
 · rw [e,h1,h2,sat_none];rfl
theorem satA (there:Tx->Bool) {q:Qu} (h:rightQ q=true) (hb:badA q=false):((gA q).all there && (sA q).all (satQ there))=satQ there q:=by
 cases right_iff.1 h with
 | all=>rw [sat_all];simp [gA,sA,Qu.kind]
 | none=>simp [badA,Qu.kind] at hb
 | and=>rw [sat_and];simp [gA,sA,Qu.kind,Qu.grams,Qu.subs]
 | or=>simp [gA,sA,Qu.kind]
theorem satO (there:Tx->Bool) {q:Qu} (h:rightQ q=true) (hb:¬ q.kind=1):((gO q).any there || (sO q).any (satQ there))=satQ there q:=by
 cases right_iff.1 h with
 | all=>exact absurd rfl hb
 | none=>rw [sat_none];simp [gO,sO,Qu.kind,loneQ]
 | or=>rw [sat_or];simp [gO,sO,Qu.kind,Qu.grams,Qu.subs]
 | @and gs ss hs hn hg h1 h2 =>
  cases hl:loneQ (.mk 3 gs ss) with
  | false=>simp [gO,sO,hl,Qu.kind]
  | true =>
   simp only [loneQ,Bool.and_eq_true,decide_eq_true_eq,Qu.subs,Qu.grams] at hl
   obtain ⟨⟨_,h1⟩,h2⟩:=hl
   obtain rfl:ss=[]:=List.length_eq_zero_iff.1 (of_decide_eq_true h2)
   match gs,of_decide_eq_true h1 with
   | [g],_=>rw [sat_and];simp [gO,sO,Qu.kind,loneQ,Qu.grams,Qu.subs]
theorem sat_andQ (there:Tx->Bool) {l:List Qu} (h:Right l):satQ there (andQ l)=l.all (satQ there):=by
 unfold andQ
 by_cases hb:l.any badA=true
 · rw [if_pos hb,sat_none]
   symm
   rw [← Bool.not_eq_true,List.all_eq_true]
   obtain ⟨q,hq,e⟩:=List.any_eq_true.1 hb
   intro k
   have h1:=k q hq
   cases right_iff.1 (h q hq) with
   | none=>rw [sat_none] at h1;cases h1
   | all=>simp [badA,Qu.kind] at e
   | and=>simp [badA,Qu.kind] at e
   | or=>simp [badA,Qu.kind] at e
 · rw [if_neg hb,sat_mk3 there (told_right (right_sA h))]
   have hb' : ∀ q∈l,badA q=false:=fun q hq=>by
    rw [← Bool.not_eq_true]
    exact fun e=>hb (List.any_eq_true.2 ⟨q,hq,e⟩)
   clear hb
   induction l with
   | nil=>rfl
   | cons q l ih =>
    have h1:=satA there (h q (by simp)) (hb' q (by simp))
    have h2:=ih (fun x hx=>h x (by simp [hx])) (fun x hx=>hb' x (by simp [hx]))
    rw [List.flatMap_cons,List.flatMap_cons,List.all_append,List.all_append,List.all_cons,← h1,← h2]
    generalize (gA q).all there=b1
    generalize (sA q).all (satQ there)=b2
    generalize (l.flatMap gA).all there=b3
    generalize (l.flatMap sA).all (satQ there)=b4
    cases b1<;>cases b2<;>cases b3<;>cases b4<;>rfl
theorem sat_orQ (there:Tx->Bool) {l:List Qu} (h:Right l):satQ there (orQ l)=l.any (satQ there):=by
 unfold orQ
 by_cases hb:l.any (fun q=>decide (q.kind=1))=true
 · rw [if_pos hb,sat_all]
   symm
   rw [List.any_eq_true]
   obtain ⟨q,hq,e⟩:=List.any_eq_true.1 hb
   refine ⟨q,hq,?_⟩
   rw [qu_eta q,of_decide_eq_true e,sat_all]
 · rw [if_neg hb,sat_mk4 there (told_right (right_sO h))]
   have hb' : ∀ q∈l,¬ q.kind=1:=fun q hq e=>hb (List.any_eq_true.2 ⟨q,hq,decide_eq_true e⟩)
   clear hb
   induction l with
   | nil=>rfl
   | cons q l ih =>
    have h1:=satO there (h q (by simp)) (hb' q (by simp))
    have h2:=ih (fun x hx=>h x (by simp [hx])) (fun x hx=>hb' x (by simp [hx]))
    rw [List.flatMap_cons,List.flatMap_cons,List.any_append,List.any_append,List.any_cons,← h1,← h2]
    generalize (gO q).any there=b1
    generalize (sO q).any (satQ there)=b2
    generalize (l.flatMap gO).any there=b3
    generalize (l.flatMap sO).any (satQ there)=b4
    cases b1<;>cases b2<;>cases b3<;>cases b4<;>rfl
def gramsQ (gs:List Tx):Qu:=if gs.any (fun g => !decide (g.length=3)) then .mk 2 [] [] else andQ [.mk 3 gs []]
end Go.Proofs.YteknekiclhnkiaaGreatDoor
