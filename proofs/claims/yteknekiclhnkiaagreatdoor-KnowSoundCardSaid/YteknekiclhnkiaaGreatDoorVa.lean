/- Stable sorting of lists by a key, in place: swaps, rotations, merges. No program. -/
import Derived.Test.YteknekiclhnkiaaGreatDoorUa
namespace Go.Proofs.YteknekiclhnkiaaGreatDoor
section
variable {α : Type} (key : α → Tx)
def SameK (l m:List α):Prop:=l.Perm m /\ ∀ k,l.filter (fun x=>decide (key x=k))=m.filter fun x=>decide (key x=k)
def Part (a b:Nat) (xs zs:List α):Prop := ∃ A X Z B,xs=A++(X++B)/\zs=A++(Z++B)/\A.length=a/\A.length+X.length=b/\SameK key Z X
variable {key}
theorem SameK.refl (l:List α):SameK key l l:=⟨List.Perm.refl _,fun _=>rfl⟩
theorem SameK.trans {l m n:List α} (h:SameK key l m) (k:SameK key m n):SameK key l n:=⟨h.1.trans k.1,fun x=>(h.2 x).trans (k.2 x)⟩
theorem SameK.symm {l m:List α} (h:SameK key l m):SameK key m l:=⟨h.1.symm,fun x=>(h.2 x).symm⟩
theorem SameK.app {l m l' m':List α} (h:SameK key l m) (h':SameK key l' m'):SameK key (l++l') (m++m') :=
 ⟨h.1.append h'.1,fun k=>by rw [List.filter_append,List.filter_append,h.2 k,h'.2 k]⟩
theorem SameK.comm {l m:List α} (h : ∀ x∈l,∀ y∈m,key x≠key y):SameK key (m++l) (l++m):=by
 refine ⟨List.perm_append_comm,fun k=>?_⟩
 rw [List.filter_append,List.filter_append]
 by_cases c : ∃ x∈l,key x=k
 · obtain ⟨x,hx,e⟩:=c
   have:m.filter (fun x=>decide (key x=k))=[]:=List.filter_eq_nil_iff.2 fun y hy hd=>h x hx y hy (by rw [e,of_decide_eq_true hd])
   rw [this,List.append_nil,List.nil_append]
 · have:l.filter (fun x=>decide (key x=k))=[]:=List.filter_eq_nil_iff.2 fun y hy hd=>c ⟨y,hy,of_decide_eq_true hd⟩
   rw [this,List.append_nil,List.nil_append]
theorem split_at {a b:Nat} {xs:List α} (h1:a<=b) (h2:b<=xs.length) : ∃ A X B,xs=A++(X++B)/\A.length=a/\A.length+X.length=b :=
 ⟨xs.take a,(xs.drop a).take (b - a),(xs.drop a).drop (b - a),by rw [List.take_append_drop,List.take_append_drop],by rw [List.length_take];omega,by rw [List.length_take,List.length_take,List.length_drop];omega⟩
theorem Part.refl {a b:Nat} {xs:List α} (h1:a<=b) (h2:b<=xs.length):Part key a b xs xs:=by
 obtain ⟨A,X,B,e,l1,l2⟩:=split_at h1 h2
 exact ⟨A,X,X,B,e,e,l1,l2,SameK.refl _⟩
theorem Part.len {a b:Nat} {xs zs:List α} (h:Part key a b xs zs):zs.length=xs.length:=by
 obtain ⟨A,X,Z,B,rfl,rfl,_,_,h⟩:=h
 have:=h.1.length_eq
 simp only [List.length_append];omega
theorem Part.trans {a b:Nat} {xs ys zs:List α} (h:Part key a b xs ys) (k:Part key a b ys zs):Part key a b xs zs:=by
 obtain ⟨A,X,Z,B,rfl,rfl,l1,l2,h⟩:=h
 obtain ⟨A',X',Z',B',e,rfl,l1',l2',h'⟩:=k
 obtain ⟨e1,e⟩:=List.append_inj e (by omega)
 have:=h.1.length_eq
 obtain ⟨e2,e3⟩:=List.append_inj e (by omega)
 subst e1 e2 e3
 exact ⟨A,X,Z',B,rfl,rfl,l1,l2,h'.trans h⟩
theorem Part.wide {a b a' b':Nat} {xs zs:List α} (h:Part key a b xs zs) (ha:a'<=a) (hb:b<=b') (hl:b'<=xs.length):Part key a' b' xs zs:=by
 obtain ⟨A,X,Z,B,rfl,rfl,l1,l2,h⟩:=h
 have hz:=h.1.length_eq
 simp only [List.length_append] at hl
 refine ⟨A.take a',A.drop a'++(X++B.take (b' - b)),A.drop a'++(Z++B.take (b' - b)),B.drop (b' - b),?_,?_,?_,?_,(SameK.refl _).app (h.app (SameK.refl _))⟩
 · rw [List.append_assoc,List.append_assoc,List.take_append_drop,← List.append_assoc (A.take a'),List.take_append_drop]
 · rw [List.append_assoc,List.append_assoc,List.take_append_drop,← List.append_assoc (A.take a'),List.take_append_drop]
 · rw [List.length_take];omega
 · simp only [List.length_append,List.length_take,List.length_drop];omega
theorem Part.mem {a b:Nat} {xs zs:List α} (h:Part key a b xs zs) {x:α}:x∈zs↔x∈xs:=by
 obtain ⟨A,X,Z,B,rfl,rfl,l1,l2,h⟩:=h
 simp only [List.mem_append,h.1.mem_iff]
theorem Part.same {a b:Nat} {xs zs:List α} (h:Part key a b xs zs):SameK key zs xs:=by
 obtain ⟨A,X,Z,B,rfl,rfl,l1,l2,h⟩:=h
 exact (SameK.refl _).app (h.app (SameK.refl _))
def rot (s m e:Nat) (xs:List α):List α:=xs.take s++((xs.take e).drop m++((xs.take m).drop s++xs.drop e))
theorem rot_len {s m e:Nat} {xs:List α} (h1:s<=m) (h2:m<=e) (h3:e<=xs.length):(rot s m e xs).length=xs.length:=by
 unfold rot
 simp only [List.length_append,List.length_take,List.length_drop];omega
theorem split_rot {s m e:Nat} {xs:List α} (h1:s<=m) (h2:m<=e):xs=xs.take s++(((xs.take m).drop s++(xs.take e).drop m)++xs.drop e):=by
 have e1:xs.take m=xs.take s++(xs.take m).drop s:=by
  conv=>lhs;rw [← List.take_append_drop s (xs.take m)]
  rw [List.take_take,Nat.min_eq_left h1]
 have e2:xs.take e=xs.take m++(xs.take e).drop m:=by
  conv=>lhs;rw [← List.take_append_drop m (xs.take e)]
  rw [List.take_take,Nat.min_eq_left h2]
 conv=>lhs;rw [← List.take_append_drop e xs,e2,e1]
 simp only [List.append_assoc]
variable (key) [Inhabited α]
def UpIn (a b:Nat) (xs:List α):Prop := ∀ p q,a<=p->p<q->q<b->q<xs.length->¬ key (xs.getD q default)<key (xs.getD p default)
variable {key}
theorem getD_app1 {A B:List α} {k:Nat} (h:k<A.length):(A++B).getD k default=A.getD k default:=by
 rw [List.getD_eq_getElem?_getD,List.getD_eq_getElem?_getD,List.getElem?_append_left h]
theorem getD_app2 {A B:List α} {k:Nat} (h:A.length<=k):(A++B).getD k default=B.getD (k - A.length) default:=by
 rw [List.getD_eq_getElem?_getD,List.getD_eq_getElem?_getD,List.getElem?_append_right h]
theorem Part.out {a b:Nat} {xs zs:List α} (h:Part key a b xs zs) {k:Nat} (hk:k<a\/b<=k):zs.getD k default=xs.getD k default:=by
 obtain ⟨A,X,Z,B,rfl,rfl,l1,l2,h⟩:=h
 have hz:=h.1.length_eq
 rcases hk with hk|hk
 · rw [getD_app1 (by omega),getD_app1 (by omega)]
 · rw [getD_app2 (by omega),getD_app2 (by omega),getD_app2 (by omega),getD_app2 (by omega)]
   congr 1;omega
theorem getD_over {l:List α} {k:Nat} (h:l.length<=k):l.getD k default=default:=by
 rw [List.getD_eq_getElem?_getD,List.getElem?_eq_none h];rfl
theorem getD_memV {l:List α} {k:Nat} (h:k<l.length):l.getD k default∈l:=by
 rw [List.getD_eq_getElem?_getD,List.getElem?_eq_getElem h]
 exact List.getElem_mem h
theorem mem_getD {l:List α} {x:α} (h:x∈l) : ∃ k,k<l.length/\l.getD k default=x:=by
 obtain ⟨k,hk,e⟩:=List.mem_iff_getElem.1 h
 exact ⟨k,hk,by rw [List.getD_eq_getElem?_getD,List.getElem?_eq_getElem hk];exact e⟩
theorem Part.inn {a b:Nat} {xs zs:List α} (h:Part key a b xs zs) {k:Nat} (h1:a<=k) (h2:k<b) : ∃ j,a<=j/\j<b/\zs.getD k default=xs.getD j default:=by
 obtain ⟨A,X,Z,B,rfl,rfl,l1,l2,h⟩:=h
 have hz:=h.1.length_eq
 rw [getD_app2 (by omega),getD_app1 (by omega)]
 obtain ⟨j,hj,e⟩:=mem_getD (h.1.mem_iff.1 (getD_memV (l:=Z) (k:=k - A.length) (by omega)))
 refine ⟨A.length+j,by omega,by omega,?_⟩
 rw [getD_app2 (by omega),getD_app1 (by omega),← e]
 congr 1;omega
theorem UpIn.of_out {a b a' b':Nat} {xs zs:List α} (h:UpIn key a b xs) (k:Part key a' b' xs zs) (hd:b<=a'\/b'<=a):UpIn key a b zs:=fun p q h1 h2 h3 h4=>by
 rw [k.out (by omega),k.out (by omega)]
 exact h p q h1 h2 h3 (by rw [← k.len];exact h4)
theorem UpIn.sub {a b a' b':Nat} {xs:List α} (h:UpIn key a b xs) (h1:a<=a') (h2:b'<=b):UpIn key a' b' xs:=fun p q g1 g2 g3 g4=>h p q (by omega) g2 (by omega) g4
theorem UpIn.one {a b:Nat} {xs:List α} (h:b<=a+1):UpIn key a b xs:=fun p q g1 g2 g3 g4=>absurd g2 (by omega)
def swap (xs:List α) (i j:Nat):List α:=(xs.set i (xs.getD j default)).set j (xs.getD i default)
theorem swap_len (xs:List α) (i j:Nat):(swap xs i j).length=xs.length:=by unfold swap;simp
theorem getD_set {xs:List α} {i k:Nat} {v:α} (h:k<xs.length):(xs.set i v).getD k default=if k=i then v else xs.getD k default:=by
 rw [List.getD_eq_getElem?_getD,List.getElem?_set,List.getD_eq_getElem?_getD]
 by_cases c:i=k
 · subst c;rw [if_pos rfl,if_pos h,if_pos rfl];rfl
 · rw [if_neg c,if_neg (fun e=>c e.symm)]
theorem swap_get {xs:List α} {i j k:Nat} (h:k<xs.length):(swap xs i j).getD k default=if k=j then xs.getD i default else if k=i then xs.getD j default else xs.getD k default:=by
 unfold swap
 rw [getD_set (by simpa using h),getD_set h]
theorem list_extD {l m:List α} (h:l.length=m.length) (k : ∀ i,i<l.length->l.getD i default=m.getD i default):l=m:=by
 refine List.ext_getElem h fun i h1 h2=>?_
 have:=k i h1
 rwa [List.getD_eq_getElem?_getD,List.getD_eq_getElem?_getD,List.getElem?_eq_getElem h1,List.getElem?_eq_getElem h2] at this
theorem part_swap {a b j:Nat} {xs:List α} (h1:a<=j) (h2:j+1<b) (h3:b<=xs.length) (h:key (xs.getD (j+1) default)<key (xs.getD j default)):Part key a b xs (swap xs j (j+1)):=by
 obtain ⟨A,X,B,e,l1,l2⟩:=split_at (a:=j) (b:=j+2) (xs:=xs) (by omega) (by omega)
 obtain ⟨x,y,rfl⟩ : ∃ x y,X=[x,y]:=by
  match X,l2 with
  | [x,y],_=>exact ⟨x,y,rfl⟩
  | [],l2=>simp at l2;omega
  | [_],l2=>simp at l2;omega
  | _::_::_::_,l2=>simp at l2;omega
 have ex:xs.getD j default=x:=by rw [e,getD_app2 (by omega),show j - A.length=0 by omega];rfl
 have ey:xs.getD (j+1) default=y:=by rw [e,getD_app2 (by omega),show j+1 - A.length=1 by omega];rfl
 have hs:Part key j (j+2) xs (swap xs j (j+1)):=by
  refine ⟨A,[x,y],[y,x],B,e,?_,l1,l2,?_⟩
  · refine list_extD (by rw [swap_len,e];simp) fun i hi=>?_
    rw [swap_len] at hi
    rw [swap_get hi,ex,ey]
    split
    · rename_i c;subst c
      rw [getD_app2 (by omega),show j+1 - A.length=1 by omega];rfl
    · split
      · rename_i c;subst c
        rw [getD_app2 (by omega),show i - A.length=0 by omega];rfl
      · rename_i c1 c2
        rw [e]
        by_cases c:i<A.length
        · rw [getD_app1 c,getD_app1 c]
        · rw [getD_app2 (A:=A) (B:=[x,y]++B) (by omega),getD_app2 (A:=A) (B:=[y,x]++B) (by omega)]
          obtain ⟨t,ht⟩ : ∃ t,i - A.length=t+2:=⟨i - A.length - 2,by omega⟩
          rw [ht];rfl
  · exact SameK.comm (l:=[x]) (m:=[y]) fun u hu v hv e9=>by
     rw [List.mem_singleton.1 hu,List.mem_singleton.1 hv] at e9
     rw [ex,ey,e9] at h
     exact tx_irr _ h
 exact hs.wide h1 (by omega) h3
def swr (a b:Nat):Nat->List α->List α
 | 0,xs=>xs
 | n+1,xs=>swap (swr a b n xs) (a+n) (b+n)
theorem swr_len (a b:Nat) : ∀ (n:Nat) (xs:List α),(swr a b n xs).length=xs.length
 | 0,_=>rfl
 | n+1,xs=>by unfold swr;rw [swap_len,swr_len a b n xs]
theorem swr_get {a b k:Nat} {xs:List α} : ∀ {n:Nat},a+n<=b->b+n<=xs.length->k<xs.length->(swr a b n xs).getD k default=if a<=k/\k<a+n then xs.getD (b+(k - a)) default else if b<=k/\k<b+n then xs.getD (a+(k - b)) default else xs.getD k default
 | 0,_,_,_=>by rw [if_neg (by omega),if_neg (by omega)];rfl
 | n+1,h1,h2,h3=>by
  have ih:=fun {k} (h:k<xs.length)=>swr_get (k:=k) (n:=n) (a:=a) (b:=b) (xs:=xs) (by omega) (by omega) h
  unfold swr
  rw [swap_get (by rw [swr_len];exact h3),ih (by omega),ih (by omega),ih h3]
  by_cases c1:k=b+n
  · rw [if_pos c1,if_neg (by omega),if_neg (by omega),if_neg (by omega),if_pos (by omega)]
    congr 1;omega
  · rw [if_neg c1]
    by_cases c2:k=a+n
    · rw [if_pos c2,if_neg (by omega),if_neg (by omega),if_pos (by omega)]
      congr 1;omega
    · rw [if_neg c2]
      by_cases c3:a<=k/\k<a+n
      · rw [if_pos c3,if_pos (by omega)]
      · rw [if_neg c3,if_neg (c:=a<=k/\k<a+(n+1)) (by omega)]
        by_cases c4:b<=k/\k<b+n
        · rw [if_pos c4,if_pos (c:=b<=k/\k<b+(n+1)) (by omega)]
        · rw [if_neg c4,if_neg (c:=b<=k/\k<b+(n+1)) (by omega)]
theorem getD_take {xs:List α} {n k:Nat} (h:k<n):(xs.take n).getD k default=xs.getD k default:=by
 rw [List.getD_eq_getElem?_getD,List.getD_eq_getElem?_getD,List.getElem?_take_of_lt h]
theorem getD_drop {xs:List α} {n k:Nat}:(xs.drop n).getD k default=xs.getD (n+k) default:=by
 rw [List.getD_eq_getElem?_getD,List.getD_eq_getElem?_getD,List.getElem?_drop]
theorem rot_get {s m e k:Nat} {xs:List α} (h1:s<=m) (h2:m<=e) (h3:e<=xs.length):(rot s m e xs).getD k default=if k<s then xs.getD k default else if k<s+(e - m) then xs.getD (m+(k - s)) default else if k<e then xs.getD (k - (e - m)) default else xs.getD k default:=by
 unfold rot
 have l1:(xs.take s).length=s:=by rw [List.length_take];omega
 have l2:((xs.take e).drop m).length=e - m:=by rw [List.length_drop,List.length_take];omega
 have l3:((xs.take m).drop s).length=m - s:=by rw [List.length_drop,List.length_take];omega
 split
 · rw [getD_app1 (by omega),getD_take (by omega)]
 · split
   · rw [getD_app2 (by omega),getD_app1 (by omega),getD_drop,getD_take (by omega),l1]
   · split
     · rw [getD_app2 (by omega),getD_app2 (by omega),getD_app1 (by omega),getD_drop,getD_take (by omega),l1,l2]
       congr 1;omega
     · rw [getD_app2 (by omega),getD_app2 (by omega),getD_app2 (by omega),getD_drop,l1,l2,l3]
       congr 1;omega
theorem rot_a {s m e k:Nat} {xs:List α} (h1:s<=m) (h2:m<=e) (h3:e<=xs.length) (h:k<s):(rot s m e xs).getD k default=xs.getD k default:=by
 rw [rot_get h1 h2 h3,if_pos h]
theorem rot_b {s m e k:Nat} {xs:List α} (h1:s<=m) (h2:m<=e) (h3:e<=xs.length) (h:s<=k/\k<s+(e - m)):(rot s m e xs).getD k default=xs.getD (m+(k - s)) default:=by
 rw [rot_get h1 h2 h3,if_neg (by omega),if_pos h.2]
theorem rot_c {s m e k:Nat} {xs:List α} (h1:s<=m) (h2:m<=e) (h3:e<=xs.length) (h:s+(e - m)<=k/\k<e):(rot s m e xs).getD k default=xs.getD (k - (e - m)) default:=by
 rw [rot_get h1 h2 h3,if_neg (by omega),if_neg (by omega),if_pos h.2]
theorem rot_d {s m e k:Nat} {xs:List α} (h1:s<=m) (h2:m<=e) (h3:e<=xs.length) (h:e<=k):(rot s m e xs).getD k default=xs.getD k default:=by
 rw [rot_get h1 h2 h3,if_neg (by omega),if_neg (by omega),if_neg (by omega)]
theorem swr_b {a b n k:Nat} {xs:List α} (h1:a+n<=b) (h2:b+n<=xs.length) (h:a<=k/\k<a+n):(swr a b n xs).getD k default=xs.getD (b+(k - a)) default:=by
 rw [swr_get h1 h2 (by omega),if_pos h]
theorem swr_c {a b n k:Nat} {xs:List α} (h1:a+n<=b) (h2:b+n<=xs.length) (h:b<=k/\k<b+n):(swr a b n xs).getD k default=xs.getD (a+(k - b)) default:=by
 rw [swr_get h1 h2 (by omega),if_neg (by omega),if_pos h]
theorem swr_o {a b n k:Nat} {xs:List α} (h1:a+n<=b) (h2:b+n<=xs.length) (hk:k<xs.length) (h:k<a\/a+n<=k/\k<b\/b+n<=k):(swr a b n xs).getD k default=xs.getD k default:=by
 rw [swr_get h1 h2 hk,if_neg (by omega),if_neg (by omega)]
theorem mem_midD {s m:Nat} {xs:List α} {x:α} (h:x∈(xs.take m).drop s) : ∃ k,s<=k/\k<m/\xs.getD k default=x:=by
 obtain ⟨k,hk,e⟩:=mem_getD h
 rw [List.length_drop,List.length_take] at hk
 rw [getD_drop,getD_take (by omega)] at e
 exact ⟨s+k,by omega,by omega,e⟩
theorem part_rot {s m e:Nat} {xs:List α} (h1:s<=m) (h2:m<=e) (h3:e<=xs.length) (h : ∀ i j,s<=i->i<m->m<=j->j<e->key (xs.getD j default)<key (xs.getD i default)):Part key s e xs (rot s m e xs):=by
 refine ⟨xs.take s,(xs.take m).drop s++(xs.take e).drop m,(xs.take e).drop m++(xs.take m).drop s,xs.drop e,split_rot h1 h2,?_,?_,?_,SameK.comm fun x hx y hy e=>?_⟩
 · unfold rot;rw [List.append_assoc]
 · rw [List.length_take];omega
 · simp only [List.length_append,List.length_take,List.length_drop];omega
 · obtain ⟨i,i1,i2,rfl⟩:=mem_midD hx
   obtain ⟨j,j1,j2,rfl⟩:=mem_midD hy
   have:=h i j i1 i2 j1 j2
   rw [e] at this
   exact tx_irr _ this
theorem rot_nil1 {m e:Nat} {xs:List α} (h:m<=e) (h3:e<=xs.length):rot m m e xs=xs :=
 list_extD (rot_len (Nat.le_refl _) h h3) fun i hi=>by
  rw [rot_get (Nat.le_refl _) h h3]
  split
  · rfl
  · split
    · congr 1;omega
    · split
      · exfalso;omega
      · rfl
theorem rot_nil2 {s m:Nat} {xs:List α} (h:s<=m) (h3:m<=xs.length):rot s m m xs=xs :=
 list_extD (rot_len h (Nat.le_refl _) h3) fun i hi=>by
  rw [rot_get h (Nat.le_refl _) h3]
  split
  · rfl
  · split
    · exfalso;omega
    · split
      · congr 1;omega
      · rfl
theorem le_trK {x y z:Tx} (h1:¬ y<x) (h2:¬ z<y):¬ z<x:=fun h=>h1 (by
 by_cases c:y=z
 · rw [c];exact h
 · exact tx_tr (tx_tri h2 (fun e=>c e.symm)) h)
theorem lt_of_leK {x y z:Tx} (h1:x<y) (h2:¬ z<y):x<z:=by
 by_cases c:y=z
 · rw [← c];exact h1
 · exact tx_tr h1 (tx_tri h2 (fun e=>c e.symm))
theorem lt_of_leK' {x y z:Tx} (h1:¬ y<x) (h2:y<z):x<z:=by
 by_cases c:x=y
 · rw [c];exact h2
 · exact tx_tr (tx_tri h1 (fun e=>c e.symm)) h2
theorem le_of_ltK {x y:Tx} (h:x<y):¬ y<x:=fun k=>tx_irr _ (tx_tr h k)
structure Found (key:α->Tx) (a m b mid start:Nat) (xs:List α):Prop where
 hmid:a<mid/\mid<b/\a<m/\m<b
 hs:a<=start/\start<=m/\start<=mid/\mid+m<=start+b
 up1:UpIn key a m xs
 up2:UpIn key m b xs
 lo : ∀ c,a<=c->c<start->mid+m - 1 - c<b->¬ key (xs.getD (mid+m - 1 - c) default)<key (xs.getD c default)
 hi : ∀ c,start<=c->c<m->c<mid->key (xs.getD (mid+m - 1 - c) default)<key (xs.getD c default)
theorem Found.part {a m b mid start:Nat} {xs:List α} (f:Found key a m b mid start xs) (hb:b<=xs.length):Part key a b xs (rot start m (mid+m - start) xs):=by
 obtain ⟨⟨g1,g2,g3,g4⟩,⟨g5,g6,g7,g8⟩,u1,u2,lo,hi⟩:=f
 have hp:=part_rot (key:=key) (s:=start) (m:=m) (e:=mid+m - start) (xs:=xs) g6 (by omega) (by omega) fun i j i1 i2 j1 j2=>by
  have h1:=hi start (Nat.le_refl _) (by omega) (by omega)
  have h2:¬ key (xs.getD i default)<key (xs.getD start default):=by
   by_cases c:i=start
   · rw [c];exact tx_irr _
   · exact u1 start i g5 (by omega) i2 (by omega)
  have h3:¬ key (xs.getD (mid+m - 1 - start) default)<key (xs.getD j default):=by
   by_cases c:j=mid+m - 1 - start
   · rw [c];exact tx_irr _
   · exact u2 j (mid+m - 1 - start) j1 (by omega) (by omega) (by omega)
  refine lt_of_leK ?_ h2
  by_cases c:key (xs.getD j default)=key (xs.getD (mid+m - 1 - start) default)
  · rw [c];exact h1
  · exact tx_tr (tx_tri h3 fun e=>c e.symm) h1
 exact hp.wide g5 (by omega) hb
theorem Found.ups {a m b mid start:Nat} {xs:List α} (f:Found key a m b mid start xs) (hb:b<=xs.length):UpIn key a start (rot start m (mid+m - start) xs)/\UpIn key start mid (rot start m (mid+m - start) xs)/\UpIn key mid (mid+m - start) (rot start m (mid+m - start) xs)/\UpIn key (mid+m - start) b (rot start m (mid+m - start) xs):=by
 obtain ⟨⟨g1,g2,g3,g4⟩,⟨g5,g6,g7,g8⟩,u1,u2,lo,hi⟩:=f
 have e1:m<=mid+m - start:=by omega
 have e2:mid+m - start<=xs.length:=by omega
 have hl:(rot start m (mid+m - start) xs).length=xs.length:=rot_len g6 e1 e2
 refine ⟨fun p q h1 h2 h3 h4=>?_,fun p q h1 h2 h3 h4=>?_,fun p q h1 h2 h3 h4=>?_,fun p q h1 h2 h3 h4=>?_⟩
 · rw [rot_a (k:=q) g6 e1 e2 h3,rot_a (k:=p) g6 e1 e2 (by omega)]
   exact u1 p q h1 h2 (by omega) (by omega)
 · rw [rot_b (k:=q) g6 e1 e2 (by omega),rot_b (k:=p) g6 e1 e2 (by omega)]
   exact u2 _ _ (by omega) (by omega) (by omega) (by omega)
 · rw [rot_c (k:=q) g6 e1 e2 (by omega),rot_c (k:=p) g6 e1 e2 (by omega)]
   exact u1 _ _ (by omega) (by omega) (by omega) (by omega)
 · rw [rot_d (k:=q) g6 e1 e2 (by omega),rot_d (k:=p) g6 e1 e2 (by omega)]
   exact u2 _ _ (by omega) (by omega) (by omega) (by omega)
def Cross (key:α->Tx) (a mid b:Nat) (xs:List α):Prop := ∀ p q,a<=p->p<mid->mid<=q->q<b->¬ key (xs.getD q default)<key (xs.getD p default)
theorem Found.cross {a m b mid start:Nat} {xs:List α} (f:Found key a m b mid start xs) (hb:b<=xs.length):Cross key a mid b (rot start m (mid+m - start) xs):=by
 obtain ⟨⟨g1,g2,g3,g4⟩,⟨g5,g6,g7,g8⟩,u1,u2,lo,hi⟩:=f
 have e1:m<=mid+m - start:=by omega
 have e2:mid+m - start<=xs.length:=by omega
 intro p q h1 h2 h3 h4
 have le1 : ∀ i j,a<=i->i<=j->j<m->¬ key (xs.getD j default)<key (xs.getD i default):=fun i j i1 i2 i3=>by
  by_cases c:i=j
  · rw [c];exact tx_irr _
  · exact u1 i j i1 (by omega) i3 (by omega)
 have le2 : ∀ i j,m<=i->i<=j->j<b->¬ key (xs.getD j default)<key (xs.getD i default):=fun i j i1 i2 i3=>by
  by_cases c:i=j
  · rw [c];exact tx_irr _
  · exact u2 i j i1 (by omega) i3 (by omega)
 by_cases c1:p<start
 · rw [rot_a (k:=p) g6 e1 e2 c1]
   by_cases c2:q<mid+m - start
   · rw [rot_c (k:=q) g6 e1 e2 (by omega)]
     exact le1 _ _ h1 (by omega) (by omega)
   · rw [rot_d (k:=q) g6 e1 e2 (by omega)]
     have h5:=lo (start - 1) (by omega) (by omega) (by omega)
     rw [show mid+m - 1 - (start - 1)=mid+m - start by omega] at h5
     exact le_trK (le1 p (start - 1) h1 (by omega) (by omega)) (le_trK h5 (le2 _ q (by omega) (by omega) h4))
 · rw [rot_b (k:=p) g6 e1 e2 (by omega)]
   by_cases c2:q<mid+m - start
   · rw [rot_c (k:=q) g6 e1 e2 (by omega)]
     have h5:=hi start (Nat.le_refl _) (by omega) (by omega)
     exact le_trK (le2 _ (mid+m - 1 - start) (by omega) (by omega) (by omega)) (le_trK (le_of_ltK h5) (le1 start _ g5 (by omega) (by omega)))
   · rw [rot_d (k:=q) g6 e1 e2 (by omega)]
     exact le2 _ q (by omega) (by omega) h4
theorem Cross.left {a mid b:Nat} {xs zs:List α} (h:Cross key a mid b xs) (k:Part key a mid xs zs):Cross key a mid b zs:=fun p q h1 h2 h3 h4=>by
 obtain ⟨j,j1,j2,e⟩:=k.inn h1 h2
 rw [e,k.out (by omega)]
 exact h j q j1 j2 h3 h4
theorem Cross.right {a mid b:Nat} {xs zs:List α} (h:Cross key a mid b xs) (k:Part key mid b xs zs):Cross key a mid b zs:=fun p q h1 h2 h3 h4=>by
 obtain ⟨j,j1,j2,e⟩:=k.inn h3 h4
 rw [e,k.out (by omega)]
 exact h p j h1 h2 j1 j2
theorem Cross.up {a mid b:Nat} {xs:List α} (h:Cross key a mid b xs) (h1:UpIn key a mid xs) (h2:UpIn key mid b xs):UpIn key a b xs:=fun p q g1 g2 g3 g4=>by
 by_cases c1:q<mid
 · exact h1 p q g1 g2 c1 g4
 · by_cases c2:p<mid
   · exact h p q g1 c2 (by omega) g3
   · exact h2 p q (by omega) g2 g3 g4
def UpBut (key:α->Tx) (a b j:Nat) (xs:List α):Prop := ∀ p q,a<=p->p<q->q<b->q≠j->¬ key (xs.getD q default)<key (xs.getD p default)
theorem UpBut.start {a j:Nat} {xs:List α} (h:UpIn key a j xs) (hj:j<xs.length):UpBut key a (j+1) j xs:=fun p q h1 h2 h3 h4=>h p q h1 h2 (by omega) (by omega)
theorem UpBut.step {a b j:Nat} {xs:List α} (h:UpBut key a b (j+1) xs) (ha:a<=j) (hj:j+1<b) (hb:b<=xs.length) (hl:key (xs.getD (j+1) default)<key (xs.getD j default)):UpBut key a b j (swap xs j (j+1)):=fun p q h1 h2 h3 h4=>by
 rw [swap_get (by omega),swap_get (by omega)]
 by_cases c1:q=j+1
 · rw [if_pos c1,if_neg (by omega)]
   by_cases c2:p=j
   · rw [if_pos c2];exact le_of_ltK hl
   · rw [if_neg c2];exact h p j h1 (by omega) (by omega) (by omega)
 · rw [if_neg c1,if_neg h4]
   split
   · exact h j q ha (by omega) h3 c1
   · split
     · exact h (j+1) q (by omega) (by omega) h3 c1
     · exact h p q h1 h2 h3 c1
theorem UpBut.stop {a b j:Nat} {xs:List α} (h:UpBut key a b j xs) (hl:j=a\/a<j/\¬ key (xs.getD j default)<key (xs.getD (j - 1) default)):UpIn key a b xs:=fun p q h1 h2 h3 _=>by
 by_cases c:q=j
 · subst c
   rcases hl with hl | ⟨h5,hl⟩
   · exact absurd h2 (by omega)
   · by_cases c2:p=q - 1
     · rw [c2];exact hl
     · exact le_trK (h p (q - 1) h1 (by omega) (by omega) (by omega)) hl
 · exact h p q h1 h2 h3 c
def UpBut' (key:α->Tx) (a b j:Nat) (xs:List α):Prop := ∀ p q,a<=p->p<q->q<b->p≠j->¬ key (xs.getD q default)<key (xs.getD p default)
theorem UpBut'.step {a b j:Nat} {xs:List α} (h:UpBut' key a b j xs) (ha:a<=j) (hj:j+1<b) (hb:b<=xs.length) (hl:key (xs.getD (j+1) default)<key (xs.getD j default)):UpBut' key a b (j+1) (swap xs j (j+1)):=fun p q h1 h2 h3 h4=>by
 rw [swap_get (by omega),swap_get (by omega),if_neg h4]
 by_cases c1:p=j
 · rw [if_pos c1]
   split
   · exact le_of_ltK hl
   · rw [if_neg (by omega)];exact h (j+1) q (by omega) (by omega) h3 (by omega)
 · rw [if_neg c1]
   split
   · exact h p j h1 (by omega) (by omega) c1
   · split
     · exact h p (j+1) h1 (by omega) (by omega) c1
     · exact h p q h1 h2 h3 c1
theorem UpBut'.stop {a b j:Nat} {xs:List α} (h:UpBut' key a b j xs) (hl : ∀ q,j<q->q<b->¬ key (xs.getD q default)<key (xs.getD j default)):UpIn key a b xs:=fun p q h1 h2 h3 _=>by
 by_cases c:p=j
 · subst c;exact hl q h2 h3
 · exact h p q h1 h2 h3 c
theorem rot_step1 {i j m:Nat} {xs:List α} (h1:j<i) (h2:i<=m) (h3:m+j<=xs.length):rot (m - (i - j)) m (m+j) (swr (m - i) m j xs)=rot (m - i) m (m+j) xs:=by
 have hl:=swr_len (m - i) m j xs
 have a1:m - (i - j)<=m:=by omega
 have a2:m<=m+j:=by omega
 have a3:m+j<=(swr (m - i) m j xs).length:=by omega
 have a4:m - i<=m:=by omega
 have b1:m - i+j<=m:=by omega
 refine list_extD (by rw [rot_len a1 a2 a3,rot_len a4 a2 h3,hl]) fun k hk=>?_
 rw [rot_len a1 a2 a3,hl] at hk
 by_cases c1:k<m - i
 · rw [rot_a a1 a2 a3 (by omega),rot_a a4 a2 h3 c1,swr_o b1 h3 hk (by omega)]
 · by_cases c2:k<m - i+j
   · rw [rot_a a1 a2 a3 (by omega),rot_b a4 a2 h3 (by omega),swr_b b1 h3 (by omega)]
   · by_cases c3:k<m - (i - j)+j
     · rw [rot_b a1 a2 a3 (by omega),rot_c a4 a2 h3 (by omega),swr_c b1 h3 (by omega)]
       congr 1;omega
     · by_cases c4:k<m+j
       · rw [rot_c a1 a2 a3 (by omega),rot_c a4 a2 h3 (by omega),swr_o b1 h3 (by omega) (by omega)]
       · rw [rot_d a1 a2 a3 (by omega),rot_d a4 a2 h3 (by omega),swr_o b1 h3 (by omega) (by omega)]
theorem rot_step2 {i j m:Nat} {xs:List α} (h1:i<j) (h2:i<=m) (h3:m+j<=xs.length):rot (m - i) m (m+(j - i)) (swr (m - i) (m+j - i) i xs)=rot (m - i) m (m+j) xs:=by
 have hl:=swr_len (m - i) (m+j - i) i xs
 have a1:m - i<=m:=by omega
 have a2:m<=m+(j - i):=by omega
 have a3:m+(j - i)<=(swr (m - i) (m+j - i) i xs).length:=by omega
 have a4:m<=m+j:=by omega
 have b1:m - i+i<=m+j - i:=by omega
 have b2:m+j - i+i<=xs.length:=by omega
 refine list_extD (by rw [rot_len a1 a2 a3,rot_len a1 a4 h3,hl]) fun k hk=>?_
 rw [rot_len a1 a2 a3,hl] at hk
 by_cases c1:k<m - i
 · rw [rot_a a1 a2 a3 c1,rot_a a1 a4 h3 c1,swr_o b1 b2 hk (by omega)]
 · by_cases c2:k<m - i+(j - i)
   · rw [rot_b a1 a2 a3 (by omega),rot_b a1 a4 h3 (by omega),swr_o b1 b2 (by omega) (by omega)]
   · by_cases c3:k<m+(j - i)
     · rw [rot_c a1 a2 a3 (by omega),swr_b b1 b2 (by omega)]
       by_cases c4:k<m - i+j
       · rw [rot_b a1 a4 h3 (by omega)]
         congr 1;omega
       · exfalso;omega
     · rw [rot_d a1 a2 a3 (by omega)]
       by_cases c4:k<m+j
       · rw [rot_c a1 a4 h3 (by omega),swr_c b1 b2 (by omega)]
         congr 1;omega
       · rw [rot_d a1 a4 h3 (by omega),swr_o b1 b2 (by omega) (by omega)]
theorem rot_last {i m:Nat} {xs:List α} (h2:i<=m) (h3:m+i<=xs.length):swr (m - i) m i xs=rot (m - i) m (m+i) xs:=by
 have a1:m - i<=m:=by omega
 have a2:m<=m+i:=by omega
 have b1:m - i+i<=m:=by omega
 refine list_extD (by rw [rot_len a1 a2 h3,swr_len]) fun k hk=>?_
 rw [swr_len] at hk
 by_cases c1:k<m - i
 · rw [rot_a a1 a2 h3 c1,swr_o b1 h3 hk (by omega)]
 · by_cases c2:k<m
   · rw [rot_b a1 a2 h3 (by omega),swr_b b1 h3 (by omega)]
   · by_cases c3:k<m+i
     · rw [rot_c a1 a2 h3 (by omega),swr_c b1 h3 (by omega)]
       congr 1;omega
     · rw [rot_d a1 a2 h3 (by omega),swr_o b1 h3 (by omega) (by omega)]
def keepTo (key:α->Tx) (xs:List α) (n:Nat):List α:=((List.range n).filter fun i=>decide (i=0) || !decide (key (xs.getD i default)=key (xs.getD (i - 1) default))).map fun i=>xs.getD i default
theorem keepTo_same {xs:List α} {n:Nat} (h0:0<n) (h:key (xs.getD n default)=key (xs.getD (n - 1) default)):keepTo key xs (n+1)=keepTo key xs n:=by
 unfold keepTo
 rw [List.range_succ,List.filter_append,List.map_append,List.filter_cons_of_neg (by rw [decide_eq_false (show ¬ n=0 by omega),decide_eq_true h];decide)]
 simp
theorem keepTo_new {xs:List α} {n:Nat} (h:0<n->key (xs.getD n default)≠key (xs.getD (n - 1) default)):keepTo key xs (n+1)=keepTo key xs n++[xs.getD n default]:=by
 unfold keepTo
 have e:(decide (n=0) || !decide (key (xs.getD n default)=key (xs.getD (n - 1) default)))=true:=by
  by_cases c:n=0
  · rw [decide_eq_true c];rfl
  · rw [decide_eq_false (h (by omega)),decide_eq_false c];rfl
 rw [List.range_succ,List.filter_append,List.map_append,List.filter_cons_of_pos (p:=fun i=>decide (i=0) || !decide (key (xs.getD i default)=key (xs.getD (i - 1) default))) e]
 rfl
theorem keepTo_all {xs:List α} : ∀ {n:Nat},n<=xs.length->(∀ i,i+1<n->key (xs.getD (i+1) default)≠key (xs.getD i default))->keepTo key xs n=xs.take n
 | 0,_,_=>by simp [keepTo]
 | n+1,hn,h=>by
  rw [keepTo_new fun h0=>by have:=h (n - 1) (by omega);rwa [show n - 1+1=n by omega] at this,keepTo_all (n:=n) (by omega) fun i hi=>h i (by omega)]
  have hx:xs.getD n default=xs[n]:=by rw [List.getD_eq_getElem?_getD,List.getElem?_eq_getElem (by omega)];rfl
  rw [List.take_succ_eq_append_getElem (by omega),hx]
theorem keepTo_ris {xs:List α} (hu:UpIn key 0 xs.length xs) : ∀ {n:Nat},n<=xs.length->RisBy key (keepTo key xs n)/\(∀ x∈keepTo key xs n,x∈xs /\ ∀ p,p<n->n<=p+1->¬ key (xs.getD p default)<key x) /\ ∀ p,p<n -> ∃ z∈keepTo key xs n,key z=key (xs.getD p default)
 | 0,_=>⟨by simp [keepTo,RisBy],by simp [keepTo],fun p h=>absurd h (by omega)⟩
 | n+1,hn=>by
  obtain ⟨i1,i2,i3⟩:=keepTo_ris hu (n:=n) (by omega)
  by_cases c:0<n/\key (xs.getD n default)=key (xs.getD (n - 1) default)
  · rw [keepTo_same c.1 c.2]
    refine ⟨i1,fun x hx=>⟨(i2 x hx).1,fun p p1 p2=>?_⟩,fun p hp=>?_⟩
    · obtain rfl:p=n:=by omega
      rw [c.2]
      exact (i2 x hx).2 (p - 1) (by omega) (by omega)
    · by_cases e:p=n
      · rw [e,c.2];exact i3 (n - 1) (by omega)
      · exact i3 p (by omega)
  · have hne:0<n->key (xs.getD n default)≠key (xs.getD (n - 1) default):=fun h0 e=>c ⟨h0,e⟩
    have hlt : ∀ x∈keepTo key xs n,key x<key (xs.getD n default):=fun x hx=>by
     have h0:0<n:=by
      rcases Nat.eq_zero_or_pos n with h|h
      · subst h;simp [keepTo] at hx
      · exact h
     have h1:=(i2 x hx).2 (n - 1) (by omega) (by omega)
     have h2:=tx_tri (hu (n - 1) n (by omega) (by omega) (by omega) (by omega)) (hne h0)
     by_cases e:key x=key (xs.getD (n - 1) default)
     · rw [e];exact h2
     · exact tx_tr (tx_tri h1 fun e'=>e e'.symm) h2
    rw [keepTo_new hne]
    refine ⟨?_,fun x hx=>?_,fun p hp=>?_⟩
    · unfold RisBy
      rw [List.pairwise_append]
      refine ⟨i1,List.pairwise_singleton _ _,fun x hx y hy=>?_⟩
      obtain rfl:=List.mem_singleton.1 hy
      exact hlt x hx
    · rcases List.mem_append.1 hx with hx|hx
      · refine ⟨(i2 x hx).1,fun p p1 p2=>?_⟩
        obtain rfl:p=n:=by omega
        exact le_of_ltK (hlt x hx)
      · obtain rfl:=List.mem_singleton.1 hx
        refine ⟨getD_memV (by omega),fun p p1 p2=>?_⟩
        obtain rfl:p=n:=by omega
        exact tx_irr _
    · by_cases e:p=n
      · exact ⟨xs.getD n default,List.mem_append_right _ List.mem_cons_self,by rw [e]⟩
      · obtain ⟨z,hz,e2⟩:=i3 p (by omega)
        exact ⟨z,List.mem_append_left _ hz,e2⟩
def Blocks (key:α->Tx) (n:Nat) (xs:List α):Prop := ∀ t,UpIn key (t*n) (t*n+n) xs
def Mixed (key:α->Tx) (n m k:Nat) (xs:List α):Prop:=(∀ t,t<k->UpIn key (t*n) (t*n+n) xs) /\ ∀ t,k*n<=t*m->UpIn key (t*m) (t*m+m) xs
theorem mixed_next {n m k:Nat} {xs zs:List α} (h:Mixed key n m k xs) (hm:0<m) (hn:m<=n) (hp:Part key (k*n) (k*n+n) xs zs) (hu:UpIn key (k*n) (k*n+n) zs):Mixed key n m (k+1) zs:=by
 refine ⟨fun t ht=>?_,fun t ht=>?_⟩
 · by_cases e:t=k
   · subst e;exact hu
   · have h1:t*n+n<=k*n:=by
      have:=Nat.mul_le_mul_right n (show t+1<=k by omega)
      rwa [Nat.add_mul,Nat.one_mul] at this
     exact (h.1 t (by omega)).of_out hp (.inl h1)
 · rw [Nat.add_mul,Nat.one_mul] at ht
   exact (h.2 t (by omega)).of_out hp (.inr ht)
theorem mixed_last {n m k:Nat} {xs zs:List α} {b:Nat} (h:Mixed key n m k xs) (_hb:b<=k*n+n) (hl:xs.length<=b) (hp:Part key (k*n) b xs zs) (hu:UpIn key (k*n) b zs):Blocks key n zs:=fun t=>by
 have hzl:=hp.len
 by_cases c:t<k
 · have h1:t*n+n<=k*n:=by
    have:=Nat.mul_le_mul_right n (show t+1<=k by omega)
    rwa [Nat.add_mul,Nat.one_mul] at this
   exact (h.1 t c).of_out hp (.inl h1)
 · have h1:k*n<=t*n:=Nat.mul_le_mul_right n (by omega)
   exact fun p q g1 g2 g3 g4=>hu p q (by omega) g2 (by omega) g4
theorem blocks_all {n:Nat} {xs:List α} (h:Blocks key n xs) (hn:xs.length<=n):UpIn key 0 xs.length xs:=fun p q g1 g2 g3 g4=>h 0 p q (by omega) g2 (by omega) g4
theorem mixed_start {n m:Nat} {xs:List α} (h:Blocks key m xs):Mixed key n m 0 xs:=⟨fun t ht=>absurd ht (by omega),fun t _=>h t⟩
theorem blocks_one {xs:List α}:Blocks key 1 xs:=fun _t=>UpIn.one (Nat.le_refl _)
theorem mixed_two {m k:Nat} {xs:List α} (h:Mixed key (2*m) m k xs):UpIn key (k*(2*m)) (k*(2*m)+m) xs/\UpIn key (k*(2*m)+m) (k*(2*m)+2*m) xs:=by
 have e1:k*(2*m)=(2*k)*m:=by rw [← Nat.mul_assoc,Nat.mul_comm k 2]
 have e2:k*(2*m)+m=(2*k+1)*m:=by rw [e1,Nat.add_mul,Nat.one_mul]
 have h1:=h.2 (2*k) (by rw [e1];exact Nat.le_refl _)
 have h2:=h.2 (2*k+1) (by rw [← e2];omega)
 rw [← e1] at h1
 rw [← e2] at h2
 exact ⟨h1,h2.sub (Nat.le_refl _) (by omega)⟩
theorem swap_mem {xs:List α} {i j:Nat} (hi:i<xs.length) (hj:j<xs.length) {x:α} (h:x∈swap xs i j):x∈xs:=by
 unfold swap at h
 rcases List.mem_or_eq_of_mem_set h with h|h
 · rcases List.mem_or_eq_of_mem_set h with h|h
   · exact h
   · rw [h];exact getD_memV hj
 · rw [h];exact getD_memV hi
theorem swr_mem {a b:Nat} {xs:List α} {x:α} : ∀ {n:Nat},a+n<=b->b+n<=xs.length->x∈swr a b n xs->x∈xs
 | 0,_,_,h=>h
 | n+1,h1,h2,h=>swr_mem (n:=n) (by omega) (by omega) (swap_mem (by rw [swr_len];omega) (by rw [swr_len];omega) h)
theorem swap_comm (xs:List α) {i j:Nat} (hi:i<xs.length) (hj:j<xs.length):swap xs i j=swap xs j i :=
 list_extD (by rw [swap_len,swap_len]) fun k hk=>by
  rw [swap_len] at hk
  rw [swap_get hk,swap_get hk]
  by_cases c1:k=j
  · subst c1
    by_cases c2:k=i
    · subst c2;rw [if_pos rfl]
    · rw [if_pos rfl,if_neg c2,if_pos rfl]
  · rw [if_neg c1]
    by_cases c2:k=i
    · rw [if_pos c2,if_pos c2]
    · rw [if_neg c2,if_neg c2,if_neg c1]
end
end Go.Proofs.YteknekiclhnkiaaGreatDoor
