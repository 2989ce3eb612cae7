/- KnowSound in plain Lean: what a tree matches, as a relation of places; what is known of a tree holds of each such text. No program. -/
import Derived.Test.YteknekiclhnkiaaGreatDoorOa
namespace Go.Proofs.YteknekiclhnkiaaGreatDoor
def Infx (t s:Tx):Prop := ∃ u v,s=u++(t++v)
def thereS (s:Tx):Tx->Bool:=fun g=>decide (g∈partsT s)
theorem Infx.trans {a b c:Tx} (h:Infx a b) (k:Infx b c):Infx a c:=by
 obtain ⟨u,v,rfl⟩:=h
 obtain ⟨x,y,rfl⟩:=k
 exact ⟨x++u,v++y,by simp⟩
theorem partsT_cons (a:UInt8) (s:Tx) {g:Tx} (h:g∈partsT s):g∈partsT (a::s):=by
 match s,h with
 | [],h=>simp [partsT] at h
 | [_],h=>simp [partsT] at h
 | b::c::l,h=>rw [partsT];exact List.mem_cons_of_mem _ h
theorem partsT_pre {g:Tx} : ∀ (u:Tx) {s:Tx},g∈partsT s->g∈partsT (u++s)
 | [],_,h=>h
 | a::u,_,h=>partsT_cons a _ (partsT_pre u h)
theorem partsT_suf {g:Tx} : ∀ {s:Tx} (v:Tx),g∈partsT s->g∈partsT (s++v)
 | [],_,h=>by simp [partsT] at h
 | [_],_,h=>by simp [partsT] at h
 | [_,_],_,h=>by simp [partsT] at h
 | a::b::c::l,v,h=>by
  rw [partsT] at h
  rcases List.mem_cons.1 h with rfl|h
  · simp [partsT]
  · have:=partsT_suf v h
    rw [show a::b::c::l++v=a::(b::c::l++v) from rfl]
    exact partsT_cons a _ this
theorem parts_infx {t s g:Tx} (h:Infx t s) (hg:g∈partsT t):g∈partsT s:=by
 obtain ⟨u,v,rfl⟩:=h
 exact partsT_pre u (partsT_suf v hg)
theorem sd_all:rightQ allQ=true:=right_iff.2 .all
theorem sd_none:rightQ (.mk 2 [] [])=true:=right_iff.2 .none
theorem sd_conj {G:List Tx} (h : ∀ g∈G,g.length=3):rightQ (conj G)=true:=mk_right3 h fun s hs=>by cases hs
theorem sd_two {a b:Qu} (ha:rightQ a=true) (hb:rightQ b=true):Right [a,b]:=fun q hq=>by
 rcases List.mem_cons.1 hq with rfl|hq
 · exact ha
 · rw [List.mem_singleton.1 hq];exact hb
theorem sd_three {a b c:Qu} (ha:rightQ a=true) (hb:rightQ b=true) (hc:rightQ c=true):Right [a,b,c]:=fun q hq=>by
 rcases List.mem_cons.1 hq with rfl|hq
 · exact ha
 · exact sd_two hb hc q hq
theorem sd_gramsQ (t:Tx):rightQ (gramsQ (partsT t))=true:=by rw [gramsQ_conj partsT_len3];exact sd_conj partsT_len3
theorem sd_fold : ∀ (row:List Tx) {q:Qu},rightQ q=true->rightQ (row.foldl (fun q s=>orQ [q,gramsQ (partsT s)]) q)=true
 | [],_,h=>h
 | s::row,_,h=>sd_fold row (right_orQ (sd_two h (sd_gramsQ s)))
theorem sd_gramsRow (row:List Tx):rightQ (gramsRow row)=true:=by
 unfold gramsRow
 split
 · exact sd_all
 · exact sd_fold row sd_none
theorem sat_and2 (th:Tx->Bool) {a b:Qu} (ha:rightQ a=true) (hb:rightQ b=true) (h1:satQ th a=true) (h2:satQ th b=true):satQ th (andQ [a,b])=true:=by
 rw [sat_andQ th (sd_two ha hb)];simp [h1,h2]
theorem sat_and3 (th:Tx->Bool) {a b c:Qu} (ha:rightQ a=true) (hb:rightQ b=true) (hc:rightQ c=true) (h1:satQ th a=true) (h2:satQ th b=true) (h3:satQ th c=true):satQ th (andQ [a,b,c])=true:=by
 rw [sat_andQ th (sd_three ha hb hc)];simp [h1,h2,h3]
theorem sat_conj (th:Tx->Bool) (G:List Tx):satQ th (conj G)=G.all th:=by
 unfold conj
 rw [sat_mk3 th (told_right fun q hq=>by cases hq)];simp
theorem sat_gramsT {t s:Tx} (h:Infx t s):satQ (thereS s) (gramsQ (partsT t))=true:=by
 rw [gramsQ_conj partsT_len3,sat_conj,List.all_eq_true]
 exact fun g hg=>decide_eq_true (parts_infx h hg)
theorem sat_fold (th:Tx->Bool) : ∀ (row:List Tx) {q:Qu},rightQ q=true->(satQ th q=true \/ ∃ t∈row,satQ th (gramsQ (partsT t))=true)->satQ th (row.foldl (fun q s=>orQ [q,gramsQ (partsT s)]) q)=true
 | [],_,_,h=>by
  rcases h with h | ⟨t,ht,_⟩
  · exact h
  · cases ht
 | x::row,q,hq,h=>by
  have hr:=right_orQ (sd_two hq (sd_gramsQ x))
  refine sat_fold th row hr ?_
  rw [sat_orQ th (sd_two hq (sd_gramsQ x))]
  rcases h with h | ⟨t,ht,h⟩
  · exact .inl (by simp [h])
  · rcases List.mem_cons.1 ht with rfl|ht
    · exact .inl (by simp [h])
    · exact .inr ⟨t,ht,h⟩
theorem sat_gramsRow {row:List Tx} {t s:Tx} (ht:t∈row) (h:Infx t s):satQ (thereS s) (gramsRow row)=true:=by
 unfold gramsRow
 split
 · exact sat_all _ _ _
 · exact sat_fold _ row sd_none (.inr ⟨t,ht,sat_gramsT h⟩)
structure Snd (s:Tx) (i:InfK) (x:Tx):Prop where
 ex:i.known=true->x∈i.ex
 pre:i.known=false -> ∃ p∈i.pre,p <+: x
 suf:i.known=false -> ∃ p∈i.suf,p <:+ x
 m:satQ (thereS s) i.m=true
 rt:rightQ i.m=true
theorem mem_row {l:List Tx} {x:Tx}:x∈rowT l↔x∈l:=mem_sortBy (told_id l)
theorem infx_of_pre {p x s:Tx} (h:p <+: x) (hx:Infx x s):Infx p s:=by
 obtain ⟨v,rfl⟩:=h
 exact Infx.trans ⟨[],v,by simp⟩ hx
theorem infx_of_suf {p x s:Tx} (h:p <:+ x) (hx:Infx x s):Infx p s:=by
 obtain ⟨u,rfl⟩:=h
 exact Infx.trans ⟨u,[],by simp⟩ hx
theorem loose_snd {s x:Tx} {i:InfK} (h:Snd s i x) (hx:Infx x s):Snd s (looseK i) x:=by
 unfold looseK
 cases hk:i.known
 · simp only [Bool.false_eq_true,if_false]
   obtain ⟨p,hp,h1⟩:=h.pre hk
   obtain ⟨q,hq,h2⟩:=h.suf hk
   exact ⟨fun e=>(by cases e),fun _=>⟨p,mem_row.2 hp,h1⟩,fun _=>⟨q,mem_row.2 hq,h2⟩,h.m,h.rt⟩
 · simp only [if_true]
   have hm:=h.ex hk
   exact ⟨fun e=>(by cases e),fun _=>⟨x,mem_row.2 hm,List.prefix_refl x⟩,fun _=>⟨x,mem_row.2 hm,List.suffix_refl x⟩,sat_and2 _ h.rt (sd_gramsRow _) h.m (sat_gramsRow hm hx),right_andQ (sd_two h.rt (sd_gramsRow _))⟩
theorem closed_snd {s x:Tx} {i:InfK} (h:Snd s i x) (hx:Infx x s):satQ (thereS s) (closedK i)=true/\rightQ (closedK i)=true:=by
 have hl:=loose_snd h hx
 have hk:(looseK i).known=false:=by unfold looseK;split<;>rfl
 obtain ⟨p,hp,h1⟩:=hl.pre hk
 obtain ⟨q,hq,h2⟩:=hl.suf hk
 unfold closedK
 exact ⟨sat_and3 _ hl.rt (sd_gramsRow _) (sd_gramsRow _) hl.m (sat_gramsRow hp (infx_of_pre h1 hx)) (sat_gramsRow hq (infx_of_suf h2 hx)),right_andQ (sd_three hl.rt (sd_gramsRow _) (sd_gramsRow _))⟩
theorem fixed_mem (cut:Nat->Tx->Tx) {l:List Tx} {p:Tx} (h:p∈l):[]∈fixedK cut l\/cut 2 p∈fixedK cut l\/cut 1 (cut 2 p)∈fixedK cut l:=by
 have h2:cut 2 p∈rowT (l.map (cut 2)):=mem_row.2 (List.mem_map_of_mem h)
 have h1:cut 1 (cut 2 p)∈rowT ((rowT (l.map (cut 2))).map (cut 1)):=mem_row.2 (List.mem_map_of_mem h2)
 have key : ∀ k:List Tx,(cut 2 p∈k\/cut 1 (cut 2 p)∈k)->([]∈(if 8<k.length\/[]∈k then [[]] else k)\/cut 2 p∈(if 8<k.length\/[]∈k then [[]] else k)\/cut 1 (cut 2 p)∈(if 8<k.length\/[]∈k then [[]] else k)):=fun k hk=>by
  split
  · exact .inl (by simp)
  · exact .inr hk
 exact key (if 8<(rowT (l.map (cut 2))).length then rowT ((rowT (l.map (cut 2))).map (cut 1)) else rowT (l.map (cut 2))) (by split;exact .inr h1;exact .inl h2)
theorem front_pre (n:Nat) (p:Tx):frontT n p <+: p:=List.take_prefix n p
theorem back_suf (n:Nat) (p:Tx):backT n p <:+ p:=List.drop_suffix _ p
theorem fixed_pre {l:List Tx} {x:Tx} (h : ∃ p∈l,p <+: x) : ∃ p∈fixedK frontT l,p <+: x:=by
 obtain ⟨p,hp,h1⟩:=h
 rcases fixed_mem frontT hp with h|h|h
 · exact ⟨_,h,List.nil_prefix⟩
 · exact ⟨_,h,(front_pre 2 p).trans h1⟩
 · exact ⟨_,h,((front_pre 1 _).trans (front_pre 2 p)).trans h1⟩
theorem fixed_suf {l:List Tx} {x:Tx} (h : ∃ p∈l,p <:+ x) : ∃ p∈fixedK backT l,p <:+ x:=by
 obtain ⟨p,hp,h1⟩:=h
 rcases fixed_mem backT hp with h|h|h
 · exact ⟨_,h,List.nil_suffix⟩
 · exact ⟨_,h,(back_suf 2 p).trans h1⟩
 · exact ⟨_,h,((back_suf 1 _).trans (back_suf 2 p)).trans h1⟩
theorem settled_snd {s x:Tx} {i:InfK} (h:Snd s i x) (hx:Infx x s):Snd s (settledK i) x:=by
 unfold settledK
 split
 · rename_i hc
   exact ⟨fun _=>mem_row.2 (h.ex hc.1),fun e=>(by cases e),fun e=>(by cases e),h.m,h.rt⟩
 · have h1:Snd s ⟨i.known,rowT i.ex,i.pre,i.suf,i.m⟩ x:=⟨fun e=>mem_row.2 (h.ex e),h.pre,h.suf,h.m,h.rt⟩
   have hl:=loose_snd h1 hx
   have hk : ∀ j:InfK,(looseK j).known=false:=fun j=>by unfold looseK;split<;>rfl
   have hc:=closed_snd hl hx
   unfold openK
   exact ⟨fun e=>(by cases e),fun _=>fixed_pre (hl.pre (hk _)),fun _=>fixed_suf (hl.suf (hk _)),hc.1,hc.2⟩
theorem mem_cross {a b:List Tx} {x y:Tx} (hx:x∈a) (hy:y∈b):x++y∈crossT a b:=mem_row.2 (List.mem_flatMap.2 ⟨x,hx,List.mem_map_of_mem hy⟩)
theorem behind_snd {s x y:Tx} {a b:InfK} (ha:Snd s a x) (hb:Snd s b y) (hxy:Infx (x++y) s):Snd s (behindI a b) (x++y):=by
 have hbt:satQ (thereS s) (betweenK a b)=true/\rightQ (betweenK a b)=true:=by
  unfold betweenK
  split
  · rename_i hc
    obtain ⟨q,hq,u,hu⟩:=ha.suf hc.1
    obtain ⟨p,hp,v,hv⟩:=hb.pre hc.2
    refine ⟨sat_gramsRow (mem_cross hq hp) (Infx.trans ⟨u,v,?_⟩ hxy),sd_gramsRow _⟩
    rw [← hu,← hv];simp
  · exact ⟨sat_all _ _ _,sd_all⟩
 have hm:=sat_and3 _ ha.rt hb.rt hbt.2 ha.m hb.m hbt.1
 have hr:=right_andQ (sd_three ha.rt hb.rt hbt.2)
 unfold behindI
 split
 · rename_i hc
   refine settled_snd ⟨fun _=>?_,fun e=>(by cases e),fun e=>(by cases e),hm,hr⟩ hxy
   unfold frontK
   rw [hc.1,hc.2]
   exact mem_cross (ha.ex hc.1) (hb.ex hc.2)
 · rename_i hc
   refine settled_snd ⟨fun e=>(by cases e),fun _=>?_,fun _=>?_,hm,hr⟩ hxy
   · unfold frontK
     cases hk:a.known
     · obtain ⟨p,hp,h1⟩:=ha.pre hk
       exact ⟨p,mem_row.2 hp,h1.trans (List.prefix_append x y)⟩
     · have hkb:b.known=false:=by rw [← Bool.not_eq_true];exact fun e=>hc ⟨hk,e⟩
       rw [hkb]
       obtain ⟨p,hp,h1⟩:=hb.pre hkb
       exact ⟨x++p,mem_cross (ha.ex hk) hp,(List.prefix_append_right_inj x).2 h1⟩
   · unfold backK
     cases hk:b.known
     · obtain ⟨p,hp,h1⟩:=hb.suf hk
       exact ⟨p,mem_row.2 hp,h1.trans (List.suffix_append x y)⟩
     · have hka:a.known=false:=by rw [← Bool.not_eq_true];exact fun e=>hc ⟨e,hk⟩
       obtain ⟨p,hp,u,hu⟩:=ha.suf hka
       exact ⟨p++y,mem_cross hp (hb.ex hk),u,by rw [← hu];simp⟩
theorem or_snd {s x:Tx} {a b:InfK} (h:Snd s a x\/Snd s b x) (ra:rightQ a.m=true) (rb:rightQ b.m=true) (hx:Infx x s):Snd s (orI a b) x:=by
 have rl : ∀ i:InfK,rightQ i.m=true->rightQ (looseK i).m=true:=fun i hi=>by
  unfold looseK
  split
  · exact right_andQ (sd_two hi (sd_gramsRow _))
  · exact hi
 unfold orI
 split
 · rename_i hc
   refine settled_snd ⟨fun _=>?_,fun e=>(by cases e),fun e=>(by cases e),?_,right_orQ (sd_two ra rb)⟩ hx
   · rcases h with h|h
     · exact List.mem_append_left _ (h.ex hc.1)
     · exact List.mem_append_right _ (h.ex hc.2)
   · rw [sat_orQ _ (sd_two ra rb)]
     rcases h with h|h<;>simp [h.m]
 · have hk : ∀ j:InfK,(looseK j).known=false:=fun j=>by unfold looseK;split<;>rfl
   refine settled_snd ⟨fun e=>(by cases e),fun _=>?_,fun _=>?_,?_,right_orQ (sd_two (rl a ra) (rl b rb))⟩ hx
   · rcases h with h|h
     · obtain ⟨p,hp,h1⟩:=(loose_snd h hx).pre (hk a)
       exact ⟨p,List.mem_append_left _ hp,h1⟩
     · obtain ⟨p,hp,h1⟩:=(loose_snd h hx).pre (hk b)
       exact ⟨p,List.mem_append_right _ hp,h1⟩
   · rcases h with h|h
     · obtain ⟨p,hp,h1⟩:=(loose_snd h hx).suf (hk a)
       exact ⟨p,List.mem_append_left _ hp,h1⟩
     · obtain ⟨p,hp,h1⟩:=(loose_snd h hx).suf (hk b)
       exact ⟨p,List.mem_append_right _ hp,h1⟩
   · rw [sat_orQ _ (sd_two (rl a ra) (rl b rb))]
     rcases h with h|h
     · simp [(loose_snd h hx).m]
     · simp [(loose_snd h hx).m]
theorem exact_snd {s x:Tx} {l:List Tx} (h:x∈l):Snd s (exactI l) x:=⟨fun _=>mem_row.2 h,fun e=>(by cases e),fun e=>(by cases e),sat_all _ _ _,sd_all⟩
theorem open_snd (s x:Tx):Snd s openI x:=⟨fun e=>(by cases e),fun _=>⟨[],by simp [openI],List.nil_prefix⟩,fun _=>⟨[],by simp [openI],List.nil_suffix⟩,sat_all _ _ _,sd_all⟩
end Go.Proofs.YteknekiclhnkiaaGreatDoor
namespace Go.Proofs.YteknekiclhnkiaaGreatDoor
abbrev Rel:=Nat->Nat->Prop
def sliceT (s:Tx) (a b:Nat):Tx:=(s.drop a).take (b - a)
def stillR (s:Tx):Rel:=fun a b=>a=b/\b<=s.length
def noR:Rel:=fun _ _=>False
def compR (r q:Rel):Rel:=fun a b => ∃ k,r a k/\q k b
def powR (s:Tx) (r:Rel):Nat->Rel
 | 0=>stillR s
 | n+1=>compR (powR s r n) r
def hasS (set:List Nat) (c:Nat):Bool:=(set.getD (c / 64) 0).testBit (c % 64)
mutual
def matN (P:Int->Nat->Bool) (s:Tx):Nd->Rel
 | .mk k set kids mn mx _ _ =>
  if k=1 then stillR s
  else if k=3 then fun a b=>b=a+1/\b<=s.length/\hasS set (s.getD a 0).toNat=true
  else if k=4 then (matNs P s kids).foldl compR (stillR s)
  else if k=5 then fun a b => ∃ r∈matNs P s kids,r a b
  else if k=6 then fun a b => ∃ c:Nat,mn<=(c:Int)/\(mx<0\/(c:Int)<=mx)/\powR s ((matNs P s kids).headD noR) c a b
  else if k=7 then (matNs P s kids).headD noR
  else if 8<=k/\k<=13 then fun a b=>stillR s a b/\P k a=true
  else noR
def matNs (P:Int->Nat->Bool) (s:Tx):List Nd->List Rel
 | []=>[]
 | n::l=>matN P s n::matNs P s l
end
theorem slice_app (s:Tx) {a k b:Nat} (h1:a<=k) (h2:k<=b):sliceT s a b=sliceT s a k++sliceT s k b:=by
 unfold sliceT
 rw [show b - a=(k - a)+(b - k) by omega,List.take_add,List.drop_drop,show a+(k - a)=k by omega]
theorem slice_infx (s:Tx) (a b:Nat):Infx (sliceT s a b) s:=⟨s.take a,(s.drop a).drop (b - a),by unfold sliceT;rw [List.take_append_drop,List.take_append_drop]⟩
theorem slice_nil (s:Tx) (a:Nat):sliceT s a a=[]:=by simp [sliceT]
theorem slice_one (s:Tx) {a:Nat} (h:a+1<=s.length):sliceT s a (a+1)=[s.getD a 0]:=by
 unfold sliceT
 have e:s.getD a 0=s[a]'(by omega):=by simp [List.getD,List.getElem?_eq_getElem (show a<s.length by omega)]
 rw [e,show a+1 - a=1 by omega,List.drop_eq_getElem_cons (by omega)]
 rfl
theorem right_loose {i:InfK} (h:rightQ i.m=true):rightQ (looseK i).m=true:=by
 unfold looseK
 split
 · exact right_andQ (sd_two h (sd_gramsRow _))
 · exact h
theorem right_closed {i:InfK} (h:rightQ i.m=true):rightQ (closedK i)=true:=by
 unfold closedK
 exact right_andQ (sd_three (right_loose h) (sd_gramsRow _) (sd_gramsRow _))
theorem right_settled {i:InfK} (h:rightQ i.m=true):rightQ (settledK i).m=true:=by
 unfold settledK
 split
 · exact h
 · unfold openK
   exact right_closed (right_loose (i:=⟨i.known,rowT i.ex,i.pre,i.suf,i.m⟩) h)
theorem right_between (a b:InfK):rightQ (betweenK a b)=true:=by
 unfold betweenK
 split
 · exact sd_gramsRow _
 · exact sd_all
theorem right_behind {a b:InfK} (ha:rightQ a.m=true) (hb:rightQ b.m=true):rightQ (behindI a b).m=true:=by
 have h:=right_andQ (sd_three ha hb (right_between a b))
 unfold behindI
 split<;>exact right_settled h
theorem right_or {a b:InfK} (ha:rightQ a.m=true) (hb:rightQ b.m=true):rightQ (orI a b).m=true:=by
 unfold orI
 split
 · exact right_settled (right_orQ (sd_two ha hb))
 · exact right_settled (right_orQ (sd_two (right_loose ha) (right_loose hb)))
structure GoodR (s:Tx) (r:Rel) (i:InfK):Prop where
 rt:rightQ i.m=true
 le : ∀ a b,r a b->a<=b/\b<=s.length
 ok : ∀ a b,r a b->Snd s i (sliceT s a b)
theorem good_none (s:Tx):GoodR s noR (exactI []):=⟨sd_all,fun _ _ h=>h.elim,fun _ _ h=>h.elim⟩
theorem good_still (s:Tx) {r:Rel} (h : ∀ a b,r a b->stillR s a b):GoodR s r (exactI [[]]) :=
 ⟨sd_all,fun a b k=>by have:=h a b k;unfold stillR at this;omega,fun a b k=>by
  have e:=(h a b k).1
  subst e
  rw [slice_nil]
  exact exact_snd (by simp)⟩
theorem good_comp {s:Tx} {r q:Rel} {i j:InfK} (h:GoodR s r i) (k:GoodR s q j):GoodR s (compR r q) (behindI i j):=by
 refine ⟨right_behind h.rt k.rt,fun a b ⟨c,h1,h2⟩=>?_,fun a b ⟨c,h1,h2⟩=>?_⟩
 · have:=h.le _ _ h1;have:=k.le _ _ h2;omega
 · have e1:=h.le _ _ h1
   have e2:=k.le _ _ h2
   have e:=slice_app s e1.1 e2.1
   rw [e]
   exact behind_snd (h.ok _ _ h1) (k.ok _ _ h2) (by rw [← e];exact slice_infx s a b)
theorem good_or {s:Tx} {r q t:Rel} {i j:InfK} (h:GoodR s r i) (k:GoodR s q j) (ht : ∀ a b,t a b->r a b\/q a b):GoodR s t (orI i j):=by
 refine ⟨right_or h.rt k.rt,fun a b h1=>?_,fun a b h1=>?_⟩
 · rcases ht a b h1 with h2|h2
   · exact h.le _ _ h2
   · exact k.le _ _ h2
 · refine or_snd ?_ h.rt k.rt (slice_infx s a b)
   rcases ht a b h1 with h2|h2
   · exact .inl (h.ok _ _ h2)
   · exact .inr (k.ok _ _ h2)
theorem GoodR.sub {s:Tx} {r q:Rel} {i:InfK} (h:GoodR s r i) (k : ∀ a b,q a b->r a b):GoodR s q i:=⟨h.rt,fun a b e=>h.le _ _ (k a b e),fun a b e=>h.ok _ _ (k a b e)⟩
theorem good_open {s:Tx} {r:Rel} (h : ∀ a b,r a b->a<=b/\b<=s.length):GoodR s r openI:=⟨sd_all,h,fun _ _ _=>open_snd s _⟩
def GoodsR (s:Tx):List Rel->List InfK->Prop
 | [],[]=>True
 | r::l,i::k=>GoodR s r i/\GoodsR s l k
 | _,_=>False
theorem good_cats {s:Tx} : ∀ {l:List Rel} {k:List InfK} {r:Rel} {i:InfK},GoodR s r i->GoodsR s l k->GoodR s (l.foldl compR r) (k.foldl behindI i)
 | [],[],_,_,h,_=>h
 | [],_::_,_,_,_,g=>g.elim
 | _::_,[],_,_,_,g=>g.elim
 | x::l,j::k,r,i,h,g=>good_cats (l:=l) (k:=k) (r:=compR r x) (i:=behindI i j) (good_comp h g.1) g.2
theorem comp_mono {r q:Rel} (h : ∀ a b,r a b->q a b) : ∀ (l:List Rel) a b,l.foldl compR r a b->l.foldl compR q a b
 | [],a,b,k=>h a b k
 | x::l,a,b,k=>comp_mono (r:=compR r x) (q:=compR q x) (fun a _ ⟨c,h1,h2⟩=>⟨c,h a c h1,h2⟩) l a b k
theorem good_cat {s:Tx} {l:List Rel} {k:List InfK} (g:GoodsR s l k):GoodR s (l.foldl compR (stillR s)) (joinI (exactI [[]]) behindI k):=by
 match l,k,g with
 | [],[],_=>exact good_still s fun _ _ h=>h
 | r::l,i::k,g =>
  unfold joinI
  refine (good_cats g.1 g.2).sub fun a b h=>?_
  refine comp_mono (fun a b h=>?_) l a b h
  obtain ⟨c,⟨rfl,_⟩,h2⟩:=h
  exact h2
theorem good_alts {s:Tx} : ∀ {l:List Rel} {k:List InfK} {r:Rel} {i:InfK},GoodR s r i->GoodsR s l k->GoodR s (fun a b=>r a b \/ ∃ q∈l,q a b) (k.foldl orI i)
 | [],[],_,_,h,_=>h.sub fun a b e=>by
  rcases e with e | ⟨q,hq,_⟩
  · exact e
  · cases hq
 | [],_::_,_,_,_,g=>g.elim
 | _::_,[],_,_,_,g=>g.elim
 | x::l,j::k,r,i,h,g=>by
  refine (good_alts (r:=fun a b=>r a b\/x a b) (good_or h g.1 fun a b e=>e) g.2).sub fun a b e=>?_
  rcases e with e | ⟨q,hq,e⟩
  · exact .inl (.inl e)
  · rcases List.mem_cons.1 hq with rfl|hq
    · exact .inl (.inr e)
    · exact .inr ⟨q,hq,e⟩
theorem good_alt {s:Tx} {l:List Rel} {k:List InfK} (g:GoodsR s l k):GoodR s (fun a b => ∃ r∈l,r a b) (joinI (exactI []) orI k):=by
 match l,k,g with
 | [],[],_=>exact (good_none s).sub fun a b ⟨r,hr,_⟩=>by cases hr
 | r::l,i::k,g =>
  unfold joinI
  refine (good_alts g.1 g.2).sub fun a b h=>?_
  obtain ⟨q,hq,h⟩:=h
  rcases List.mem_cons.1 hq with rfl|hq
  · exact .inl h
  · exact .inr ⟨q,hq,h⟩
theorem good_head {s:Tx} {l:List Rel} {k:List InfK} (g:GoodsR s l k):GoodR s (l.headD noR) (k.headD (exactI [])):=by
 match l,k,g with
 | [],[],_=>exact good_none s
 | _::_,_::_,g=>exact g.1
theorem pow_le {s:Tx} {r:Rel} (h : ∀ a b,r a b->a<=b/\b<=s.length) : ∀ (n:Nat) a b,powR s r n a b->a<=b/\b<=s.length
 | 0,a,b,k=>by unfold powR stillR at k;omega
 | n+1,a,b,⟨c,h1,h2⟩=>by have:=pow_le h n a c h1;have:=h _ _ h2;omega
theorem pow_first {s:Tx} {r:Rel} (h : ∀ a b,r a b->a<=b/\b<=s.length) : ∀ (n:Nat) a b,powR s r (n+1) a b -> ∃ c,r a c/\c<=b
 | 0,a,b,⟨c,⟨e,_⟩,h2⟩=>⟨b,by rw [e];exact h2,Nat.le_refl b⟩
 | n+1,a,b,⟨c,h1,h2⟩=>by
  obtain ⟨d,h3,h4⟩:=pow_first h n a c h1
  exact ⟨d,h3,by have:=h _ _ h2;omega⟩
theorem good_times {s:Tx} {r:Rel} {i:InfK} (g:GoodR s r i) (n:Nat) {a b:Nat} (h:powR s r (n+1) a b):Snd s (looseK i) (sliceT s a b):=by
 have hle:=pow_le g.le (n+1) a b h
 obtain ⟨c,h1,h2⟩:=pow_first g.le n a b h
 obtain ⟨d,h3,h4⟩:=h
 have k1:=g.le _ _ h1
 have k3:=g.le _ _ h4
 have k4:=pow_le g.le n a d h3
 have s1:=loose_snd (g.ok _ _ h1) (slice_infx s a c)
 have s2:=loose_snd (g.ok _ _ h4) (slice_infx s d b)
 have hk:(looseK i).known=false:=by unfold looseK;split<;>rfl
 refine ⟨fun e=>(by rw [hk] at e;cases e),fun _=>?_,fun _=>?_,s1.m,s1.rt⟩
 · obtain ⟨p,hp,h5⟩:=s1.pre hk
   exact ⟨p,hp,h5.trans (by rw [slice_app s k1.1 h2];exact List.prefix_append _ _)⟩
 · obtain ⟨p,hp,h5⟩:=s2.suf hk
   exact ⟨p,hp,h5.trans (by rw [slice_app s k4.1 k3.1];exact List.suffix_append _ _)⟩
theorem good_repeat {s:Tx} {r:Rel} {i:InfK} (g:GoodR s r i) (mn mx:Int):GoodR s (fun a b => ∃ c:Nat,mn<=(c:Int)/\(mx<0\/(c:Int)<=mx)/\powR s r c a b) (repeatI mn mx i):=by
 have one : ∀ a b,powR s r 1 a b->r a b:=fun a b ⟨c,⟨e,_⟩,h2⟩=>by rw [e];exact h2
 unfold repeatI
 split
 · refine good_still s fun a b ⟨c,_,h2,h3⟩=>?_
   have e:c=0:=by omega
   subst e
   exact h3
 · split
   · refine g.sub fun a b ⟨c,h1,h2,h3⟩=>?_
     have e:c=1:=by omega
     subst e
     exact one a b h3
   · split
     · refine good_or (good_still s (r:=stillR s) fun _ _ h=>h) g fun a b ⟨c,h1,h2,h3⟩=>?_
       have e:c=0\/c=1:=by omega
       rcases e with rfl|rfl
       · exact .inl h3
       · exact .inr (one a b h3)
     · split
       · exact good_open fun a b ⟨c,_,_,h3⟩=>pow_le g.le c a b h3
       · refine ⟨right_settled (right_loose g.rt),fun a b ⟨c,_,_,h3⟩=>pow_le g.le c a b h3,fun a b ⟨c,h1,_,h3⟩=>?_⟩
         obtain ⟨n,rfl⟩ : ∃ n,c=n+1:=⟨c - 1,by omega⟩
         exact settled_snd (good_times g n h3) (slice_infx s a b)
theorem mem_bytes {set:List Nat} {c:UInt8} (h:hasS set c.toNat=true):[c]∈bytesOf set:=by
 unfold bytesOf
 refine List.mem_map.2 ⟨c.toNat,List.mem_filter.2 ⟨List.mem_range.2 c.toNat_lt,h⟩,?_⟩
 rw [UInt8.ofNat_toNat]
theorem good_set {s:Tx} (set:List Nat):GoodR s (fun a b=>b=a+1/\b<=s.length/\hasS set (s.getD a 0).toNat=true) (setI set):=by
 have hle : ∀ a b,(b=a+1/\b<=s.length/\hasS set (s.getD a 0).toNat=true)->a<=b/\b<=s.length:=fun a b h=>by omega
 unfold setI
 split
 · exact good_open hle
 · refine ⟨sd_all,hle,fun a b ⟨h1,h2,h3⟩=>?_⟩
   subst h1
   rw [slice_one s h2]
   exact exact_snd (mem_bytes h3)
mutual
theorem of_good (P:Int->Nat->Bool) (s:Tx) : ∀ n:Nd,GoodR s (matN P s n) (ofI n)
 | .mk k set kids mn mx lz gr=>by
  have g:=ofs_good P s kids
  unfold matN ofI
  by_cases h1:k=1
  · rw [if_pos h1,if_pos (.inl h1)]
    exact good_still s fun _ _ h=>h
  · rw [if_neg h1]
    by_cases h8:8<=k/\k<=13
    · rw [if_neg (show ¬ k=3 by omega),if_neg (show ¬ k=4 by omega),if_neg (show ¬ k=5 by omega),if_neg (show ¬ k=6 by omega),if_neg (show ¬ k=7 by omega),if_pos h8,if_pos (show k=1\/(8<=k/\k<=13) from .inr h8)]
      exact good_still s fun _ _ h=>h.1
    · rw [if_neg (by omega:¬ (k=1\/(8<=k/\k<=13)))]
      by_cases h3:k=3
      · rw [if_pos h3,if_pos h3]
        exact good_set set
      · rw [if_neg h3,if_neg h3]
        by_cases h4:k=4
        · rw [if_pos h4,if_pos h4]
          exact good_cat g
        · rw [if_neg h4,if_neg h4]
          by_cases h5:k=5
          · rw [if_pos h5,if_pos h5]
            exact good_alt g
          · rw [if_neg h5,if_neg h5]
            by_cases h6:k=6
            · rw [if_pos h6,if_pos h6]
              exact good_repeat (good_head g) mn mx
            · rw [if_neg h6,if_neg h6]
              by_cases h7:k=7
              · rw [if_pos h7,if_pos h7]
                exact good_head g
              · rw [if_neg h7,if_neg h7,if_neg h8]
                exact good_none s
theorem ofs_good (P:Int->Nat->Bool) (s:Tx) : ∀ l:List Nd,GoodsR s (matNs P s l) (ofIs l)
 | []=>by unfold matNs ofIs;trivial
 | n::l=>by unfold matNs ofIs;exact ⟨of_good P s n,ofs_good P s l⟩
end
theorem sound_law (P:Int->Nat->Bool) (s:Tx) (n:Nd) {a b:Nat} (h:matN P s n a b):Snd s (ofI n) (sliceT s a b)/\satQ (thereS s) (closedK (ofI n))=true:=by
 have g:=(of_good P s n).ok a b h
 exact ⟨g,(closed_snd g (slice_infx s a b)).1⟩
end Go.Proofs.YteknekiclhnkiaaGreatDoor
