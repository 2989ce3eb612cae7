/- In: postings by insertion: what it makes of the trigrams is what makeP tells. -/
import Derived.Test.YtohpeoakdgckfaaGreatQc
namespace Go.Proofs.YtohpeoakdgckfaaGreat
open Go.RowKit Sx
def befP (a p:PlaceV):Prop:=a.doc<p.doc\/(a.doc=p.doc/\a.pos<p.pos)
theorem chain_of : ∀ {l:List PlaceV} {a:PlaceV},l.Pairwise befP->(∀ p∈l,befP a p/\0<=p.doc/\p.doc<4000/\0<=p.pos/\p.pos<=1048576)->chainP a l=true
 | [],_,_,_=>rfl
 | p::l,a,hp,h=>by
  rw [List.pairwise_cons] at hp
  have h0:=h p List.mem_cons_self
  rw [chainP,Bool.and_eq_true]
  refine ⟨?_,chain_of hp.2 fun q hq=>⟨hp.1 q hq,(h q (List.mem_cons_of_mem _ hq)).2⟩⟩
  unfold fitsP
  unfold befP at h0
  simp only [Bool.and_eq_true,Bool.or_eq_true,decide_eq_true_eq]
  omega
theorem occD_pw (d:Nat) (b:List UInt8) : ∀ n,(occD d b n).Pairwise (fun x y=>befP x.2 y.2)
 | 0=>List.Pairwise.nil
 | n+1=>by
  unfold occD
  rw [List.pairwise_append]
  refine ⟨occD_pw d b n,by split<;>simp,fun x hx y hy=>?_⟩
  obtain ⟨k,h1,_,rfl⟩:=occD_mem.1 hx
  split at hy
  · rw [List.mem_singleton] at hy
    subst hy
    exact .inr ⟨rfl,by dsimp only;omega⟩
  · cases hy
theorem occs_pw (ds:List (List UInt8)) : ∀ n,(occs ds n).Pairwise (fun x y=>befP x.2 y.2)
 | 0=>List.Pairwise.nil
 | n+1=>by
  unfold occs
  rw [List.pairwise_append]
  refine ⟨occs_pw ds n,occD_pw n _ _,fun x hx y hy=>?_⟩
  obtain ⟨d,k,h1,_,_,rfl⟩:=occs_mem.1 hx
  obtain ⟨k2,_,_,rfl⟩:=occD_mem.1 hy
  exact .inl (by dsimp only;omega)
theorem tot_sum (ds:List (List UInt8)) : ∀ k,k<=ds.length->tot ds k=((ds.take k).map List.length).sum
 | 0,_=>by simp [tot]
 | k+1,h=>by
  have hk:k<ds.length:=by omega
  rw [tot,tot_sum ds k (by omega),List.take_succ_eq_append_getElem hk,List.map_append,List.sum_append,List.getD_eq_getElem?_getD,List.getElem?_eq_getElem hk]
  simp
theorem makeP_mem {ds:List (List UInt8)} {x:PostP} (h:x∈makeP ds):(x.1∈(grams (occs ds ds.length)).map (·.1))/\x.2=((occs ds ds.length).filter fun o=>decide (o.1=x.1)).map (·.2):=by
 unfold makeP at h
 obtain ⟨g,hg,rfl⟩:=List.mem_map.1 h
 exact ⟨(List.mergeSort_perm _ _).mem_iff.1 hg,grams_get _ _⟩
theorem makeP_place {ds:List (List UInt8)} {x:PostP} {p:PlaceV} (h:x∈makeP ds) (hp:p∈x.2) : ∃ d k:Nat,d<ds.length/\k<(ds.getD d []).length/\gramAt (ds.getD d []) k=true/\x.1=((ds.getD d []).drop k).take 3/\p=⟨d,k⟩:=by
 rw [(makeP_mem h).2] at hp
 obtain ⟨o,ho,rfl⟩:=List.mem_map.1 hp
 obtain ⟨ho1,ho2⟩:=List.mem_filter.1 ho
 have ho2':=of_decide_eq_true ho2
 obtain ⟨d,k,h1,h2,h3,rfl⟩:=occs_mem.1 ho1
 exact ⟨d,k,h1,h2,h3,ho2'.symm,rfl⟩
theorem nil_lt {g:List UInt8} (h:g≠[]):([]:List UInt8)<g:=by
 cases g with
 | nil=>exact absurd rfl h
 | cons a l=>exact List.nil_lt_cons a l
theorem makeP_keys (ds:List (List UInt8)):(makeP ds).map (·.1)=((grams (occs ds ds.length)).map (·.1)).mergeSort leB:=by
 unfold makeP
 rw [List.map_map]
 exact (List.map_congr_left fun x _=>rfl).trans (List.map_id _)
theorem keys_rise (ds:List (List UInt8)):((makeP ds).map (·.1)).Pairwise (· < ·):=by
 rw [makeP_keys]
 obtain ⟨hn,_⟩:=grams_keys (occs ds ds.length)
 have h1:(((grams (occs ds ds.length)).map (·.1)).mergeSort leB).Nodup:=(List.mergeSort_perm _ _).nodup_iff.2 hn
 have h2:(((grams (occs ds ds.length)).map (·.1)).mergeSort leB).Pairwise (fun a b=>leB a b=true):=List.pairwise_mergeSort (fun a b c h k=>by
  unfold leB at *
  rw [decide_eq_true_eq] at *
  exact List.le_trans h k) (fun a b=>by
  unfold leB
  rw [Bool.or_eq_true,decide_eq_true_eq,decide_eq_true_eq]
  exact List.le_total a b) _
 refine (h1.and h2).imp fun {a b} ⟨hne,hle⟩=>?_
 unfold leB at hle
 rcases List.le_iff_lt_or_eq.1 (of_decide_eq_true hle) with h|h
 · exact h
 · exact absurd h hne
theorem makeP_ok {ds:List (List UInt8)} (hn:ds.length<=4000) (ht:tot ds ds.length<=1048576):postsOk [] (makeP ds)=true:=by
 have hgl : ∀ x∈makeP ds,x.1.length=3:=by
  intro x hx
  have h1:=((grams_keys (occs ds ds.length)).2 x.1).1 (makeP_mem hx).1
  obtain ⟨o,ho,e⟩:=List.mem_map.1 h1
  rw [← e];exact occs_gram ho
 refine postsOk_of (fun x hx=>?_) (keys_rise ds) (fun x hx=>nil_lt fun e=>by have:=hgl x hx;rw [e] at this;cases this)
 have h1:=((grams_keys (occs ds ds.length)).2 x.1).1 (makeP_mem hx).1
 obtain ⟨o,ho,e⟩:=List.mem_map.1 h1
 have h2:=(makeP_mem hx).2
 have hne:x.2≠[]:=by
  intro e2
  rw [h2] at e2
  have h3:=List.map_eq_nil_iff.1 e2
  rw [List.filter_eq_nil_iff] at h3
  exact h3 o ho (decide_eq_true e)
 have hc:chainP ⟨-1,0⟩ x.2=true:=by
  refine chain_of ?_ ?_
  · rw [h2,List.pairwise_map]
    exact List.Pairwise.filter _ (occs_pw ds ds.length)
  · intro p hp
    obtain ⟨d,k,h3,h4,h5,_,rfl⟩:=makeP_place hx hp
    have h6:(ds.getD d []).length<=tot ds ds.length:=by
     have:=tot_mono ds (n:=ds.length) (k:=d+1) (by omega)
     rw [tot] at this
     omega
    refine ⟨.inl (by dsimp only;omega),by dsimp only;omega,by dsimp only;omega,by dsimp only;omega,by dsimp only;omega⟩
 unfold postOk
 rw [hc,decide_eq_true (hgl x hx)]
 cases h:x.2 with
 | nil=>exact absurd h hne
 | cons=>rfl
theorem filt_sum (ks:List (List UInt8)) (hn:ks.Nodup) : ∀ O:List (List UInt8 × PlaceV),(∀ o∈O,o.1∈ks)->(ks.map fun g=>(O.filter fun o=>decide (o.1=g)).length).sum=O.length
 | [],_=>by
  clear hn
  induction ks with
  | nil=>rfl
  | cons k ks ih=>rw [List.map_cons,List.sum_cons,ih fun o h=>by cases h];rfl
 | o::O,h=>by
  have ih:=filt_sum ks hn O fun x hx=>h x (List.mem_cons_of_mem _ hx)
  have ho:=h o List.mem_cons_self
  have e : ∀ L:List (List UInt8),(L.map fun g=>((o::O).filter fun o=>decide (o.1=g)).length).sum=(L.map fun g=>(O.filter fun o=>decide (o.1=g)).length).sum+L.count o.1:=by
   intro L
   induction L with
   | nil=>rfl
   | cons g L ih2 =>
    rw [List.map_cons,List.sum_cons,ih2,List.map_cons,List.sum_cons,List.count_cons,List.filter_cons]
    by_cases c:o.1=g
    · subst c;simp;omega
    · have c2:¬ g=o.1:=fun e=>c e.symm
      simp [c,c2];omega
  rw [e,ih,List.Nodup.count hn,if_pos ho,List.length_cons]
def allP (ps:List PostP):Nat:=(ps.map fun x=>x.2.length).sum
def manyD (ds:List (List UInt8)):Nat:=(ds.map fun b=>b.length - 2).sum
theorem occD_many (d:Nat) (b:List UInt8) : ∀ n,n<=b.length->(occD d b n).length=min n (b.length - 2)
 | 0,_=>by simp [occD]
 | n+1,h=>by
  unfold occD
  rw [List.length_append,occD_many d b n (by omega)]
  by_cases c:gramAt b n=true
  · rw [if_pos c]
    simp only [gramAt,Bool.and_eq_true,decide_eq_true_eq] at c
    simp only [List.length_cons,List.length_nil]
    omega
  · rw [if_neg c]
    simp only [gramAt,Bool.and_eq_true,decide_eq_true_eq] at c
    simp only [List.length_nil]
    omega
theorem occs_many (ds:List (List UInt8)) : ∀ k,k<=ds.length->(occs ds k).length=manyD (ds.take k)
 | 0,_=>by simp [occs,manyD]
 | k+1,h=>by
  have hk:k<ds.length:=by omega
  have h1:=occD_many k (ds.getD k []) (ds.getD k []).length (Nat.le_refl _)
  unfold occs
  rw [List.length_append,occs_many ds k (by omega),h1]
  unfold manyD
  rw [List.take_succ_eq_append_getElem hk,List.map_append,List.sum_append,List.getD_eq_getElem?_getD,List.getElem?_eq_getElem hk]
  simp
theorem all_many (ds:List (List UInt8)):allP (makeP ds)=manyD ds:=by
 have h1:=occs_many ds ds.length (Nat.le_refl _)
 rw [List.take_length] at h1
 rw [← h1]
 obtain ⟨hn,hm⟩:=grams_keys (occs ds ds.length)
 have h2:(((grams (occs ds ds.length)).map (·.1)).mergeSort leB).Nodup:=(List.mergeSort_perm _ _).nodup_iff.2 hn
 have h3:=filt_sum _ h2 (occs ds ds.length) fun o ho=>(List.mergeSort_perm _ _).mem_iff.2 ((hm o.1).2 (List.mem_map_of_mem ho))
 rw [← h3]
 unfold allP makeP
 rw [List.map_map]
 congr 1
 refine List.map_congr_left fun g _=>?_
 show (getG (grams (occs ds ds.length)) g).length=_
 rw [grams_get,List.length_map]
end Go.Proofs.YtohpeoakdgckfaaGreat
namespace Go.Proofs.YtohpeoakdgckfaaGreat
open Go.RowKit Sx
theorem Sx.sw_midM {P:Program} {l:Option Nat} {r:Hp} {Q:Exit->St} {t:List Value} {H:List Ch} {c1 c2:Code} (I:St) (h1:SW P l r c1 (Then I Q) t H) (h2 : ∀ t' H',I t' H'->SW P l r c2 Q t' H'):SW P l r (.seq c1 c2) Q t H :=
 sw_seq (sw_mono h1 fun e t' H' h=>by cases e<;>first|exact h|exact h2 _ _ h)
theorem Sx.sw_joinC {P:Program} {l:Option Nat} {r:Hp} {Q:Exit->St} {t:List Value} {H H1:List Ch} {c:Code} {As Ds:List Ch} (ht:Takes As H H1) (hj : ∀ h,all As h->all Ds h) (h:SW P l r c Q t (Ds++H1)):SW P l r c Q t H:=fun w g ds ok a=>by
 obtain ⟨x,y,dd,e,hx,hy⟩:=all_app.1 (all_perm ht a)
 exact h w g ds ok (all_app.2 ⟨x,y,dd,e,hj x hx,hy⟩)
def sortP (O:List (List UInt8 × PlaceV)):List PostP:=(((grams O).map (·.1)).mergeSort leB).map fun g=>(g,getG (grams O) g)
theorem makeP_sort (ds:List (List UInt8)):makeP ds=sortP (occs ds ds.length):=rfl
theorem sortP_keys (O:List (List UInt8 × PlaceV)):(sortP O).map (·.1)=((grams O).map (·.1)).mergeSort leB:=by
 unfold sortP
 rw [List.map_map]
 exact (List.map_congr_left fun x _=>rfl).trans (List.map_id _)
theorem sortP_rise (O:List (List UInt8 × PlaceV)):((sortP O).map (·.1)).Pairwise (· < ·):=by
 rw [sortP_keys]
 obtain ⟨hn,_⟩:=grams_keys O
 have h1:(((grams O).map (·.1)).mergeSort leB).Nodup:=(List.mergeSort_perm _ _).nodup_iff.2 hn
 have h2:(((grams O).map (·.1)).mergeSort leB).Pairwise (fun a b=>leB a b=true):=List.pairwise_mergeSort (fun a b c h k=>by
  unfold leB at *
  rw [decide_eq_true_eq] at *
  exact List.le_trans h k) (fun a b=>by
  unfold leB
  rw [Bool.or_eq_true,decide_eq_true_eq,decide_eq_true_eq]
  exact List.le_total a b) _
 refine (h1.and h2).imp fun {a b} ⟨hne,hle⟩=>?_
 unfold leB at hle
 rcases List.le_iff_lt_or_eq.1 (of_decide_eq_true hle) with h|h
 · exact h
 · exact absurd h hne
theorem sortP_mem (O:List (List UInt8 × PlaceV)) (g:List UInt8):g∈(sortP O).map (·.1)↔g∈O.map (·.1):=by
 rw [sortP_keys,(List.mergeSort_perm _ _).mem_iff]
 exact (grams_keys O).2 g
theorem sortP_val {O:List (List UInt8 × PlaceV)} {x:PostP} (h:x∈sortP O):x.2=getG (grams O) x.1:=by
 unfold sortP at h
 obtain ⟨g,_,rfl⟩:=List.mem_map.1 h
 rfl
theorem rise_irr (a:List UInt8):¬ a<a:=List.lt_irrefl a
theorem rise_eq : ∀ {l m:List (List UInt8)},l.Pairwise (· < ·)->m.Pairwise (· < ·)->(∀ g,g∈l↔g∈m)->l=m
 | [],[],_,_,_=>rfl
 | [],b::m,_,_,h=>absurd ((h b).2 List.mem_cons_self) (by simp)
 | a::l,[],_,_,h=>absurd ((h a).1 List.mem_cons_self) (by simp)
 | a::l,b::m,h1,h2,h=>by
  obtain ⟨ha,hl⟩:=List.pairwise_cons.1 h1
  obtain ⟨hb,hm⟩:=List.pairwise_cons.1 h2
  have e:a=b:=by
   rcases List.mem_cons.1 ((h a).1 List.mem_cons_self) with e|e
   · exact e
   · rcases List.mem_cons.1 ((h b).2 List.mem_cons_self) with e2|e2
     · exact e2.symm
     · exact absurd (List.lt_trans (ha _ e2) (hb _ e)) (rise_irr a)
  subst e
  congr 1
  refine rise_eq hl hm fun g=>⟨fun hg=>?_,fun hg=>?_⟩
  · rcases List.mem_cons.1 ((h g).1 (List.mem_cons_of_mem _ hg)) with e|e
    · subst e;exact absurd (ha _ hg) (rise_irr _)
    · exact e
  · rcases List.mem_cons.1 ((h g).2 (List.mem_cons_of_mem _ hg)) with e|e
    · subst e;exact absurd (hb _ hg) (rise_irr _)
    · exact e
theorem sortP_eq {O:List (List UInt8 × PlaceV)} {L:List PostP} (h1:(L.map (·.1)).Pairwise (· < ·)) (h2 : ∀ g,g∈L.map (·.1)↔g∈O.map (·.1)) (h3 : ∀ x∈L,x.2=getG (grams O) x.1):L=sortP O:=by
 have e:L.map (·.1)=(sortP O).map (·.1):=rise_eq h1 (sortP_rise O) fun g=>by rw [h2,sortP_mem]
 have e2 : ∀ M:List PostP,(∀ x∈M,x.2=getG (grams O) x.1)->M=(M.map (·.1)).map fun g=>(g,getG (grams O) g):=fun M hM=>by
  rw [List.map_map]
  refine ((List.map_congr_left fun x hx=>?_).trans (List.map_id M)).symm
  rw [Function.comp_apply,← hM x hx];rfl
 rw [e2 L h3,e2 (sortP O) fun x hx=>sortP_val hx,e]
theorem grams_snoc_get (O:List (List UInt8 × PlaceV)) (g:List UInt8) (p:PlaceV) (x:List UInt8):getG (grams (O++[(g,p)])) x=if g=x then getG (grams O) g++[p] else getG (grams O) x:=by
 rw [grams_snoc,getG_put]
theorem sortP_hit {O:List (List UInt8 × PlaceV)} {g:List UInt8} {p:PlaceV} {l:List PlaceV} {S1 S2:List PostP} (h:sortP O=S1++(g,l)::S2):S1++(g,l++[p])::S2=sortP (O++[(g,p)]):=by
 have hr:=sortP_rise O
 have hm:=sortP_mem O
 have hv : ∀ x∈sortP O,x.2=getG (grams O) x.1:=fun x hx=>sortP_val hx
 rw [h] at hr hm hv
 have hk:(S1++(g,l++[p])::S2).map (·.1)=(S1++(g,l)::S2).map (·.1):=by simp
 have hl:l=getG (grams O) g:=hv (g,l) (by simp)
 rw [List.map_append,List.map_cons] at hr
 obtain ⟨_,hr2,hr3⟩:=List.pairwise_append.1 hr
 obtain ⟨hr4,_⟩:=List.pairwise_cons.1 hr2
 refine sortP_eq (by rw [hk,List.map_append,List.map_cons];exact hr) (fun x=>?_) fun x hx=>?_
 · rw [hk,hm,List.map_append,List.mem_append]
   refine ⟨.inl,fun e=>e.elim id fun e=>?_⟩
   rw [List.map_cons,List.map_nil,List.mem_singleton] at e
   subst e
   exact (hm _).1 (by simp)
 · rw [grams_snoc_get]
   rcases List.mem_append.1 hx with hx|hx
   · have hne:¬ g=x.1:=fun e=>rise_irr g (by have:=hr3 _ (List.mem_map_of_mem hx) g (by simp);rwa [← e] at this)
     rw [if_neg hne];exact hv x (by simp [hx])
   · rcases List.mem_cons.1 hx with rfl|hx
     · rw [if_pos rfl,hl]
     · have hne:¬ g=x.1:=fun e=>rise_irr g (by have:=hr4 _ (List.mem_map_of_mem hx);rwa [← e] at this)
       rw [if_neg hne];exact hv x (by simp [hx])
theorem sortP_new {O:List (List UInt8 × PlaceV)} {g:List UInt8} {p:PlaceV} {S1 S2:List PostP} (h:sortP O=S1++S2) (h1 : ∀ x∈S1,x.1<g) (h2 : ∀ x∈S2,g<x.1):S1++(g,[p])::S2=sortP (O++[(g,p)]):=by
 have hr:=sortP_rise O
 have hm:=sortP_mem O
 have hv : ∀ x∈sortP O,x.2=getG (grams O) x.1:=fun x hx=>sortP_val hx
 rw [h] at hr hm hv
 rw [List.map_append] at hr
 obtain ⟨hr1,hr2,hr3⟩:=List.pairwise_append.1 hr
 have hno:g ∉ O.map (·.1):=fun e=>by
  obtain ⟨x,hx,e2⟩:=List.mem_map.1 ((hm g).2 e)
  rcases List.mem_append.1 hx with hx|hx
  · have:=h1 x hx;rw [e2] at this;exact rise_irr _ this
  · have:=h2 x hx;rw [e2] at this;exact rise_irr _ this
 have hg0:getG (grams O) g=[]:=by
  rw [grams_get,List.filter_eq_nil_iff.2 fun o ho=>?_]
  · rfl
  · rw [decide_eq_true_eq];exact fun e=>hno (e ▸ List.mem_map_of_mem ho)
 refine sortP_eq ?_ (fun x=>?_) fun x hx=>?_
 · rw [List.map_append,List.map_cons]
   refine List.pairwise_append.2 ⟨hr1,List.pairwise_cons.2 ⟨fun x hx=>?_,hr2⟩,fun x hx y hy=>?_⟩
   · obtain ⟨z,hz,rfl⟩:=List.mem_map.1 hx;exact h2 z hz
   · obtain ⟨z,hz,rfl⟩:=List.mem_map.1 hx
     rcases List.mem_cons.1 hy with rfl|hy
     · exact h1 z hz
     · exact hr3 _ (List.mem_map_of_mem hz) _ hy
 · have e:=hm x
   simp only [List.map_append,List.map_cons,List.map_nil,List.mem_append,List.mem_cons,List.not_mem_nil,or_false] at e ⊢
   rw [← e]
   constructor
   · rintro (h|h|h)
     · exact .inl (.inl h)
     · exact .inr h
     · exact .inl (.inr h)
   · rintro ((h|h)|h)
     · exact .inl h
     · exact .inr (.inr h)
     · exact .inr (.inl h)
 · rw [grams_snoc_get]
   rcases List.mem_append.1 hx with hx|hx
   · have hne:¬ g=x.1:=fun e=>rise_irr g (by have:=h1 x hx;rwa [← e] at this)
     rw [if_neg hne];exact hv x (by simp [hx])
   · rcases List.mem_cons.1 hx with rfl|hx
     · rw [if_pos rfl,hg0];rfl
     · have hne:¬ g=x.1:=fun e=>rise_irr g (by have:=h2 x hx;rwa [← e] at this)
       rw [if_neg hne];exact hv x (by simp [hx])
theorem sortP_len (O:List (List UInt8 × PlaceV)):(sortP O).length<=O.length:=by
 have h:=congrArg List.length (sortP_keys O)
 rw [List.length_map,List.length_mergeSort,List.length_map] at h
 rw [h]
 exact grams_len O
theorem makeP_bds {ds:List (List UInt8)} {n:Nat} (h:tot ds ds.length<=n):(makeP ds).length<=n /\ ∀ x∈makeP ds,x.2.length<=n:=by
 have h1:=occs_len ds ds.length
 rw [makeP_sort]
 refine ⟨Nat.le_trans (sortP_len _) (by omega),fun x hx=>?_⟩
 rw [sortP_val hx]
 exact Nat.le_trans (grams_getlen _ _) (by omega)
end Go.Proofs.YtohpeoakdgckfaaGreat
