/- span in plain Lean: tables of places as numbers of bits, and what they say of matN. No program. -/
import Derived.Test.YteknekiclhnkiaaGreatDoorPe
import Derived.Lib.TrailingZeros
namespace Go.Proofs.YteknekiclhnkiaaGreatDoor
structure TabOk (n:Nat) (T:List Nat):Prop where
 len:T.length=n+1
 lt : ∀ e∈T,e<2 ^ (n+1)
def SubT (T:List Nat) (r:Rel):Prop := ∀ i j,i<T.length->(T.getD i 0).testBit j=true->r i j
theorem SubT.mono {T:List Nat} {r q:Rel} (h:SubT T r) (k : ∀ a b,r a b->q a b):SubT T q:=fun i j h1 h2=>k _ _ (h i j h1 h2)
theorem TabOk.get {n:Nat} {T:List Nat} (h:TabOk n T) (i:Nat):T.getD i 0<2 ^ (n+1):=by
 by_cases hi:i<T.length
 · rw [List.getD_eq_getElem?_getD,List.getElem?_eq_getElem hi]
   exact h.lt _ (List.getElem_mem hi)
 · rw [List.getD_eq_getElem?_getD,List.getElem?_eq_none (by omega)]
   exact Nat.pow_pos (by omega)
theorem bit_lt {x n j:Nat} (h:x<2 ^ (n+1)) (hj:x.testBit j=true):j<=n:=by
 by_cases h1:j<=n
 · exact h1
 · have h2:x<2 ^ j:=Nat.lt_of_lt_of_le h (Nat.pow_le_pow_right (by omega) (by omega))
   rw [Nat.testBit_lt_two_pow h2] at hj
   cases hj
theorem low_bit {x n:Nat} (h0:x≠0) (h:x<2 ^ (n+1)) (hn:n<64):x.testBit (Lib.ctz 64 x)=true/\Lib.ctz 64 x<=n:=by
 have h64:x<2 ^ 64:=Nat.lt_of_lt_of_le h (Nat.pow_le_pow_right (by omega) (by omega))
 obtain ⟨h1,_⟩:=Lib.lowest_bit 64 x h0 h64
 have h2:x.testBit (Lib.ctz 64 x)=true:=by
  have h3:=congrArg (fun y=>Nat.testBit y (Lib.ctz 64 x)) h1
  simp only [Nat.testBit_and,Nat.testBit_two_pow_self,Bool.and_eq_true] at h3
  exact h3.1
 exact ⟨h2,bit_lt h h2⟩
def bitsW:Nat->Nat->List Nat
 | 0,_=>[]
 | f+1,x=>if x=0 then [] else Lib.ctz 64 x::bitsW f (x &&& (x - 1))
def bitsX (x:Nat):List Nat:=bitsW x x
theorem and_dec {x:Nat} (h0:x≠0):x &&& (x - 1)<x:=Nat.lt_of_le_of_lt Nat.and_le_right (by omega)
theorem bitsW_fuel : ∀ (f g x:Nat),x<=f->x<=g->bitsW f x=bitsW g x
 | 0,0,_,_,_=>rfl
 | 0,g+1,x,h,_=>by
  obtain rfl:x=0:=by omega
  rfl
 | f+1,0,x,_,h=>by
  obtain rfl:x=0:=by omega
  rfl
 | f+1,g+1,x,h1,h2=>by
  unfold bitsW
  split
  · rfl
  · rename_i h0
    have:=and_dec h0
    rw [bitsW_fuel f g (x &&& (x - 1)) (by omega) (by omega)]
theorem bitsX_zero:bitsX 0=[]:=rfl
theorem bitsX_cons {x:Nat} (h0:x≠0):bitsX x=Lib.ctz 64 x::bitsX (x &&& (x - 1)):=by
 have hd:=and_dec h0
 obtain ⟨f,rfl⟩ : ∃ f,x=f+1:=⟨x - 1,by omega⟩
 unfold bitsX
 rw [show bitsW (f+1) (f+1)=Lib.ctz 64 (f+1)::bitsW f ((f+1) &&& (f+1 - 1)) by rw [bitsW,if_neg h0]]
 rw [bitsW_fuel f ((f+1) &&& (f+1 - 1)) _ (by omega) (Nat.le_refl _)]
theorem bitsW_sub {n:Nat} (hn:n<64) : ∀ (f x:Nat),x<2 ^ (n+1) -> ∀ j∈bitsW f x,x.testBit j=true/\j<=n
 | 0,_,_,j,hj=>by cases hj
 | f+1,x,h,j,hj=>by
  unfold bitsW at hj
  split at hj
  · cases hj
  · rename_i h0
    rcases List.mem_cons.1 hj with rfl|hj
    · exact low_bit h0 h hn
    · have:=and_dec h0
      obtain ⟨h1,h2⟩:=bitsW_sub hn f (x &&& (x - 1)) (by omega) j hj
      rw [Nat.testBit_and,Bool.and_eq_true] at h1
      exact ⟨h1.1,h2⟩
theorem bitsX_sub {n x:Nat} (hn:n<64) (h:x<2 ^ (n+1)) : ∀ j∈bitsX x,x.testBit j=true/\j<=n:=bitsW_sub hn x x h
def orAll (T:List Nat) (l:List Nat):Nat:=l.foldl (fun e j=>e ||| T.getD j 0) 0
theorem orAll_snoc (T l:List Nat) (j:Nat):orAll T (l++[j])=orAll T l ||| T.getD j 0:=by unfold orAll;rw [List.foldl_append];rfl
theorem orAll_lt {n:Nat} {T:List Nat} (h:TabOk n T) : ∀ l:List Nat,orAll T l<2 ^ (n+1):=by
 have : ∀ (l:List Nat) (e:Nat),e<2 ^ (n+1)->l.foldl (fun e j=>e ||| T.getD j 0) e<2 ^ (n+1):=by
  intro l
  induction l with
  | nil=>exact fun e he=>he
  | cons j l ih=>exact fun e he=>ih _ (Nat.or_lt_two_pow he (h.get j))
 exact fun l=>this l 0 (Nat.pow_pos (by omega))
theorem orAll_bit {T:List Nat} {b:Nat} : ∀ {l:List Nat},(orAll T l).testBit b=true -> ∃ j∈l,(T.getD j 0).testBit b=true:=by
 have : ∀ (l:List Nat) (e:Nat),(l.foldl (fun e j=>e ||| T.getD j 0) e).testBit b=true->e.testBit b=true \/ ∃ j∈l,(T.getD j 0).testBit b=true:=by
  intro l
  induction l with
  | nil=>exact fun e he=> .inl he
  | cons j l ih =>
   intro e he
   rcases ih _ he with h | ⟨k,hk,h⟩
   · rw [Nat.testBit_or,Bool.or_eq_true] at h
     rcases h with h|h
     · exact .inl h
     · exact .inr ⟨j,List.mem_cons_self ..,h⟩
   · exact .inr ⟨k,List.mem_cons_of_mem _ hk,h⟩
 intro l h
 rcases this l 0 h with h|h
 · rw [Nat.zero_testBit] at h;cases h
 · exact h
def tabM (n:Nat) (f:Nat->Nat):List Nat:=(List.range (n+1)).map f
theorem tabM_len (n:Nat) (f:Nat->Nat):(tabM n f).length=n+1:=by unfold tabM;rw [List.length_map,List.length_range]
theorem tabM_get {n:Nat} {f:Nat->Nat} {i:Nat} (h:i<n+1):(tabM n f).getD i 0=f i:=by
 unfold tabM
 rw [List.getD_eq_getElem?_getD,List.getElem?_map,List.getElem?_range h];rfl
theorem tabM_ok {n:Nat} {f:Nat->Nat} (h : ∀ i,i<n+1->f i<2 ^ (n+1)):TabOk n (tabM n f):=by
 refine ⟨tabM_len n f,fun e he=>?_⟩
 obtain ⟨i,hi,rfl⟩:=List.mem_map.1 he
 exact h i (List.mem_range.1 hi)
theorem tabM_sub {n:Nat} {f:Nat->Nat} {r:Rel} (h : ∀ i j,i<n+1->(f i).testBit j=true->r i j):SubT (tabM n f) r:=fun i j hi hj=>by
 rw [tabM_len] at hi
 rw [tabM_get hi] at hj
 exact h i j hi hj
def stillT (n:Nat):List Nat:=tabM n fun i=>2 ^ i
theorem stillT_ok (n:Nat):TabOk n (stillT n):=tabM_ok fun i hi=>Nat.pow_lt_pow_right (by omega) hi
theorem two_bit {i j:Nat} (h:(2 ^ i).testBit j=true):i=j:=by
 rw [Nat.testBit_two_pow] at h
 exact of_decide_eq_true h
theorem stillT_sub (s:Tx):SubT (stillT s.length) (stillR s):=tabM_sub fun i j hi hj=>⟨two_bit hj,by have:=two_bit hj;omega⟩
def behT (n:Nat) (A B:List Nat):List Nat:=tabM n fun i=>orAll B (bitsX (A.getD i 0))
theorem behT_ok {n:Nat} {B:List Nat} (A:List Nat) (h:TabOk n B):TabOk n (behT n A B):=tabM_ok fun _i _=>orAll_lt h _
theorem behT_sub {n:Nat} (hn:n<64) {A B:List Nat} {r q:Rel} (ha:TabOk n A) (hb:TabOk n B) (h:SubT A r) (k:SubT B q):SubT (behT n A B) (compR r q):=tabM_sub fun i j hi hj=>by
 obtain ⟨m,hm,hj⟩:=orAll_bit hj
 obtain ⟨h1,h2⟩:=bitsX_sub hn (ha.get i) m hm
 exact ⟨m,h i m (by rw [ha.len];exact hi) h1,k m j (by rw [hb.len];omega) hj⟩
def behL (n:Nat) (l:List (List Nat)):List Nat:=l.foldl (behT n) (stillT n)
theorem behL_snoc (n:Nat) (l:List (List Nat)) (B:List Nat):behL n (l++[B])=behT n (behL n l) B:=by unfold behL;rw [List.foldl_append];rfl
theorem behF_ok {n:Nat} : ∀ (l:List (List Nat)) (A:List Nat),TabOk n A->(∀ B∈l,TabOk n B)->TabOk n (l.foldl (behT n) A)
 | [],_,h,_=>h
 | B::l,A,_h,k=>behF_ok l _ (behT_ok A (k B (List.mem_cons_self ..))) fun C hC=>k C (List.mem_cons_of_mem _ hC)
theorem behL_ok {n:Nat} {l:List (List Nat)} (k : ∀ B∈l,TabOk n B):TabOk n (behL n l):=behF_ok l _ (stillT_ok n) k
def SubsT (n:Nat):List (List Nat)->List Rel->Prop
 | [],[]=>True
 | T::l,r::k=>TabOk n T/\SubT T r/\SubsT n l k
 | _,_=>False
theorem SubsT.ok {n:Nat} : ∀ {l:List (List Nat)} {k:List Rel},SubsT n l k -> ∀ B∈l,TabOk n B
 | [],_,_,B,hB=>by cases hB
 | _::_,[],h,_,_=>h.elim
 | T::l,r::k,h,B,hB=>by
  rcases List.mem_cons.1 hB with rfl|hB
  · exact h.1
  · exact SubsT.ok h.2.2 B hB
theorem behF_sub {n:Nat} (hn:n<64) : ∀ {l:List (List Nat)} {k:List Rel} {A:List Nat} {r:Rel},TabOk n A->SubT A r->SubsT n l k->SubT (l.foldl (behT n) A) (k.foldl compR r)
 | [],[],_,_,_,h,_=>h
 | [],_::_,_,_,_,_,g=>g.elim
 | _::_,[],_,_,_,_,g=>g.elim
 | _B::l,_q::k,A,_r,ho,h,g=>behF_sub hn (l:=l) (k:=k) (behT_ok A g.1) (behT_sub hn ho g.1 h g.2.1) g.2.2
theorem behL_sub {s:Tx} (hn:s.length<64) {l:List (List Nat)} {k:List Rel} (g:SubsT s.length l k):SubT (behL s.length l) (k.foldl compR (stillR s)):=behF_sub hn (stillT_ok _) (stillT_sub s) g
def orT (n:Nat) (A B:List Nat):List Nat:=tabM n fun i=>A.getD i 0 ||| B.getD i 0
theorem orT_ok {n:Nat} {A B:List Nat} (ha:TabOk n A) (hb:TabOk n B):TabOk n (orT n A B):=tabM_ok fun i _=>Nat.or_lt_two_pow (ha.get i) (hb.get i)
theorem orT_sub {n:Nat} {A B:List Nat} {r:Rel} (ha:TabOk n A) (hb:TabOk n B) (h:SubT A r) (k:SubT B r):SubT (orT n A B) r:=tabM_sub fun i j hi hj=>by
 rw [Nat.testBit_or,Bool.or_eq_true] at hj
 rcases hj with hj|hj
 · exact h i j (by rw [ha.len];exact hi) hj
 · exact k i j (by rw [hb.len];exact hi) hj
def noT (n:Nat):List Nat:=tabM n fun _=>0
theorem noT_ok (n:Nat):TabOk n (noT n):=tabM_ok fun _ _=>Nat.pow_pos (by omega)
theorem noT_sub (n:Nat) (r:Rel):SubT (noT n) r:=tabM_sub fun i j _ hj=>by rw [Nat.zero_testBit] at hj;cases hj
def altT (n:Nat) (l:List (List Nat)):List Nat:=l.foldl (orT n) (noT n)
theorem altT_snoc (n:Nat) (l:List (List Nat)) (B:List Nat):altT n (l++[B])=orT n (altT n l) B:=by unfold altT;rw [List.foldl_append];rfl
theorem altF_ok {n:Nat} : ∀ (l:List (List Nat)) (A:List Nat),TabOk n A->(∀ B∈l,TabOk n B)->TabOk n (l.foldl (orT n) A)
 | [],_,h,_=>h
 | B::l,_A,h,k=>altF_ok l _ (orT_ok h (k B (List.mem_cons_self ..))) fun C hC=>k C (List.mem_cons_of_mem _ hC)
theorem altT_ok {n:Nat} {l:List (List Nat)} (k : ∀ B∈l,TabOk n B):TabOk n (altT n l):=altF_ok l _ (noT_ok n) k
theorem altF_sub {n:Nat} : ∀ {l:List (List Nat)} {k:List Rel} {A:List Nat} {r:Rel},TabOk n A->SubT A r->SubsT n l k->SubT (l.foldl (orT n) A) fun a b=>r a b \/ ∃ q∈k,q a b
 | [],[],_,_,_,h,_=>h.mono fun _ _ e=> .inl e
 | [],_::_,_,_,_,_,g=>g.elim
 | _::_,[],_,_,_,_,g=>g.elim
 | B::l,q::k,A,r,ho,h,g=>by
  refine (altF_sub (l:=l) (k:=k) (orT_ok ho g.1) (orT_sub (r:=fun a b=>r a b\/q a b) ho g.1 (h.mono fun _ _ e=> .inl e) (g.2.1.mono fun _ _ e=> .inr e)) g.2.2).mono fun a b e=>?_
  rcases e with (e|e) | ⟨p,hp,e⟩
  · exact .inl e
  · exact .inr ⟨q,List.mem_cons_self ..,e⟩
  · exact .inr ⟨p,List.mem_cons_of_mem _ hp,e⟩
theorem altT_sub {n:Nat} {l:List (List Nat)} {k:List Rel} (g:SubsT n l k):SubT (altT n l) fun a b => ∃ q∈k,q a b :=
 (altF_sub (r:=noR) (noT_ok n) (noT_sub n _) g).mono fun _ _ e=>e.elim (fun h=>h.elim) id
def setT (set:List Nat) (s:Tx):List Nat:=tabM s.length fun i=>if i<s.length/\hasS set (s.getD i 0).toNat=true then 2 ^ (i+1) else 0
theorem setT_ok (set:List Nat) (s:Tx):TabOk s.length (setT set s):=tabM_ok fun i hi=>by
 split
 · exact Nat.pow_lt_pow_right (by omega) (by omega)
 · exact Nat.pow_pos (by omega)
theorem setT_sub (set:List Nat) (s:Tx):SubT (setT set s) fun a b=>b=a+1/\b<=s.length/\hasS set (s.getD a 0).toNat=true:=tabM_sub fun i j hi hj=>by
 split at hj
 · rename_i h
   have:=two_bit hj
   exact ⟨by omega,by omega,h.2⟩
 · rw [Nat.zero_testBit] at hj;cases hj
def hereT (n:Nat) (p:Nat->Bool):List Nat:=tabM n fun i=>if p i=true then 2 ^ i else 0
theorem hereT_ok (n:Nat) (p:Nat->Bool):TabOk n (hereT n p):=tabM_ok fun i hi=>by
 split
 · exact Nat.pow_lt_pow_right (by omega) hi
 · exact Nat.pow_pos (by omega)
theorem hereT_sub (s:Tx) (p:Nat->Bool):SubT (hereT s.length p) (stillR s):=tabM_sub fun i j hi hj=>by
 split at hj
 · exact ⟨two_bit hj,by have:=two_bit hj;omega⟩
 · rw [Nat.zero_testBit] at hj;cases hj
def powT (n:Nat) (K:List Nat):Nat->List Nat
 | 0=>stillT n
 | m+1=>behL n [powT n K m,K]
theorem powT_ok {n:Nat} {K:List Nat} (h:TabOk n K) : ∀ m,TabOk n (powT n K m)
 | 0=>stillT_ok n
 | m+1=>behL_ok fun B hB=>by
  rcases List.mem_cons.1 hB with rfl|hB
  · exact powT_ok h m
  · obtain rfl:=List.mem_singleton.1 hB
    exact h
theorem beh2_sub {s:Tx} (hn:s.length<64) {A B:List Nat} {r q:Rel} (ha:TabOk s.length A) (hb:TabOk s.length B) (h:SubT A r) (k:SubT B q):SubT (behL s.length [A,B]) (compR r q) :=
 (behL_sub hn (l:=[A,B]) (k:=[r,q]) ⟨ha,h,hb,k,trivial⟩).mono fun a b e=>by
  obtain ⟨c,⟨d,⟨rfl,_⟩,h1⟩,h2⟩:=e
  exact ⟨c,h1,h2⟩
theorem powT_sub {s:Tx} (hn:s.length<64) {K:List Nat} {r:Rel} (ho:TabOk s.length K) (h:SubT K r) : ∀ m,SubT (powT s.length K m) (powR s r m)
 | 0=>stillT_sub s
 | m+1=>beh2_sub hn (powT_ok ho m) ho (powT_sub hn ho h m) h
theorem sum_range_le {f g:Nat->Nat} : ∀ (n:Nat),(∀ i,i<n->f i<=g i)->((List.range n).map f).sum<=((List.range n).map g).sum
 | 0,_=>by simp
 | n+1,h=>by
  have h1:=sum_range_le n fun i hi=>h i (by omega)
  have h2:=h n (by omega)
  rw [List.range_succ,List.map_append,List.map_append,List.sum_append,List.sum_append]
  simp only [List.map_cons,List.map_nil,List.sum_cons,List.sum_nil]
  omega
theorem sum_range_lt {f g:Nat->Nat} : ∀ (n:Nat),(∀ i,i<n->f i<=g i)->(∃ i,i<n/\f i≠g i)->((List.range n).map f).sum<((List.range n).map g).sum
 | 0,_,⟨i,hi,_⟩=>by omega
 | n+1,h,⟨i,hi,hne⟩=>by
  have h1:=sum_range_le n fun i hi=>h i (by omega)
  have h2:=h n (by omega)
  rw [List.range_succ,List.map_append,List.map_append,List.sum_append,List.sum_append]
  simp only [List.map_cons,List.map_nil,List.sum_cons,List.sum_nil]
  by_cases e:i=n
  · subst e;omega
  · have h3:=sum_range_lt n (fun i hi=>h i (by omega)) ⟨i,by omega,hne⟩
    omega
theorem tab_eq {n:Nat} {T:List Nat} (h:TabOk n T):T=tabM n fun i=>T.getD i 0:=by
 apply List.ext_getElem
 · rw [tabM_len,h.len]
 · intro i h1 h2
   have h3:i<n+1:=by rw [h.len] at h1;exact h1
   have h4:=tabM_get (f:=fun i=>T.getD i 0) h3
   rw [List.getD_eq_getElem?_getD,List.getElem?_eq_getElem h2] at h4
   rw [List.getD_eq_getElem?_getD,List.getElem?_eq_getElem h1] at h4
   exact h4.symm
theorem sum_le {n:Nat} {T:List Nat} (h:TabOk n T):T.sum<=(n+1)*2 ^ (n+1):=by
 rw [tab_eq h]
 have:=sum_range_le (f:=fun i=>T.getD i 0) (g:=fun _=>2 ^ (n+1)) (n+1) fun i _=>Nat.le_of_lt (h.get i)
 unfold tabM
 refine Nat.le_trans this ?_
 rw [List.map_const',List.length_range,List.sum_replicate_nat]
 exact Nat.le_refl _
theorem sum_more {n:Nat} {A B:List Nat} (ha:TabOk n A) (h : ∃ i,i<n+1/\(orT n A B).getD i 0≠A.getD i 0):A.sum<(orT n A B).sum:=by
 obtain ⟨i,hi,hne⟩:=h
 unfold orT at hne
 rw [tabM_get hi] at hne
 have e:=tab_eq ha
 generalize hS:A.sum=S
 rw [e] at hS
 rw [← hS]
 exact sum_range_lt (n+1) (fun i _=>Nat.left_le_or) ⟨i,hi,fun e=>hne e.symm⟩
end Go.Proofs.YteknekiclhnkiaaGreatDoor
