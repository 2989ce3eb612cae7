/- What each text that a tree matches must have, in plain Lean: rows, infos, what is known of a tree; a literal's query is the And of its trigrams. No program. -/
import Derived.Test.YteknekiclhnkiaaGreatDoorUa
namespace Go.Proofs.YteknekiclhnkiaaGreatDoor
abbrev rowT (l:List Tx):List Tx:=sortBy id l
def pairsT (a b:List Tx):List Tx:=a.flatMap fun x=>b.map (x ++ ·)
def crossT (a b:List Tx):List Tx:=rowT (pairsT a b)
def partsT:Tx->List Tx
 | a::b::c::l=>[a,b,c]::partsT (b::c::l)
 | _=>[]
def allQ:Qu:= .mk 1 [] []
def gramsRow (row:List Tx):Qu:=if row.any (fun s=>decide (s.length<3)) then allQ else row.foldl (fun q s=>orQ [q,gramsQ (partsT s)]) (.mk 2 [] [])
structure InfK where
 known:Bool
 ex:List Tx
 pre:List Tx
 suf:List Tx
 m:Qu
 deriving Inhabited
def looseK (i:InfK):InfK:=if i.known then ⟨false,[],rowT i.ex,rowT i.ex,andQ [i.m,gramsRow i.ex]⟩ else ⟨false,[],rowT i.pre,rowT i.suf,i.m⟩
def closedK (i:InfK):Qu:=andQ [(looseK i).m,gramsRow (looseK i).pre,gramsRow (looseK i).suf]
def smallK (l:List Tx):Bool:=decide (l.length<=8) && l.all fun s=>decide (s.length<=40)
def frontT (n:Nat) (s:Tx):Tx:=s.take n
def backT (n:Nat) (s:Tx):Tx:=s.drop (s.length - n)
def fixedK (cut:Nat->Tx->Tx) (l:List Tx):List Tx :=
 let l2:=rowT (l.map (cut 2))
 let l1:=if 8<l2.length then rowT (l2.map (cut 1)) else l2
 if 8<l1.length\/[]∈l1 then [[]] else l1
def openK (i:InfK):InfK:=⟨false,[],fixedK frontT (looseK i).pre,fixedK backT (looseK i).suf,closedK (looseK i)⟩
def settledK (i:InfK):InfK:=if i.known=true/\smallK (rowT i.ex)=true then ⟨true,rowT i.ex,[],[],i.m⟩ else openK ⟨i.known,rowT i.ex,i.pre,i.suf,i.m⟩
def frontK (i b:InfK):List Tx:=if i.known then (if b.known then crossT i.ex b.ex else crossT i.ex b.pre) else rowT i.pre
def backK (i a:InfK):List Tx:=if i.known then crossT a.suf i.ex else rowT i.suf
def betweenK (a b:InfK):Qu:=if a.known=false/\b.known=false then gramsRow (crossT a.suf b.pre) else allQ
def behindI (a b:InfK):InfK:=if a.known=true/\b.known=true then settledK ⟨true,frontK a b,[],[],andQ [a.m,b.m,betweenK a b]⟩ else settledK ⟨false,[],frontK a b,backK b a,andQ [a.m,b.m,betweenK a b]⟩
def orI (a b:InfK):InfK:=if a.known=true/\b.known=true then settledK ⟨true,a.ex++b.ex,[],[],orQ [a.m,b.m]⟩ else settledK ⟨false,[],(looseK a).pre++(looseK b).pre,(looseK a).suf++(looseK b).suf,orQ [(looseK a).m,(looseK b).m]⟩
def exactI (l:List Tx):InfK:=⟨true,rowT l,[],[],allQ⟩
def openI:InfK:=⟨false,[],[[]],[[]],allQ⟩
inductive Nd where
 | mk (kind:Int) (set:List Nat) (kids:List Nd) (min max:Int) (lazy:Bool) (group:Int)
namespace Nd
def kind:Nd->Int | .mk k _ _ _ _ _ _=>k
def set:Nd->List Nat | .mk _ s _ _ _ _ _=>s
def kids:Nd->List Nd | .mk _ _ l _ _ _ _=>l
def min:Nd->Int | .mk _ _ _ m _ _ _=>m
def max:Nd->Int | .mk _ _ _ _ m _ _=>m
end Nd
def bytesOf (set:List Nat):List Tx:=((List.range 256).filter fun b=>(set.getD (b / 64) 0).testBit (b % 64)).map fun b=>[UInt8.ofNat b]
def setI (set:List Nat):InfK:=if 8<(bytesOf set).length then openI else exactI (bytesOf set)
def joinI (out:InfK) (f:InfK->InfK->InfK):List InfK->InfK
 | []=>out
 | x::l=>l.foldl f x
def repeatI (mn mx:Int) (g:InfK):InfK :=
 if mx=0 then exactI [[]]
 else if mn=1/\mx=1 then g
 else if mn<1/\mx=1 then orI (exactI [[]]) g
 else if mn<1 then openI
 else settledK (looseK g)
mutual
def ofI:Nd->InfK
 | .mk k set kids mn mx _ _ =>
  if k=1\/(8<=k/\k<=13) then exactI [[]]
  else if k=3 then setI set
  else if k=4 then joinI (exactI [[]]) behindI (ofIs kids)
  else if k=5 then joinI (exactI []) orI (ofIs kids)
  else if k=6 then repeatI mn mx ((ofIs kids).headD (exactI []))
  else if k=7 then (ofIs kids).headD (exactI [])
  else exactI []
def ofIs:List Nd->List InfK
 | []=>[]
 | n::l=>ofI n::ofIs l
end
theorem ofIs_map : ∀ l:List Nd,ofIs l=l.map ofI
 | []=>by simp [ofIs]
 | q::l=>by simp [ofIs,ofIs_map l]
def oneN (b:UInt8):Nd:= .mk 3 ((List.range 4).map fun k=>if b.toNat / 64=k then 2 ^ (b.toNat % 64) else 0) [] 0 0 false 0
def textN (s:Tx):Nd:= .mk 4 [0,0,0,0] (s.map oneN) 0 0 false 0
theorem rowT_one (s:Tx):rowT [s]=[s]:=by simp [rowT,sortBy,insBy]
theorem bytes_one : ∀ b:UInt8,bytesOf (oneN b).set=[[b]]:=by
 intro b
 have h : ∀ n<256,bytesOf ((List.range 4).map fun k=>if n / 64=k then 2 ^ (n % 64) else 0)=[[UInt8.ofNat n]]:=by decide +kernel
 have h1:=h b.toNat b.toNat_lt
 rw [UInt8.ofNat_toNat] at h1
 exact h1
theorem of_one (b:UInt8):ofI (oneN b)=exactI [[b]]:=by
 have h:=bytes_one b
 unfold oneN ofI
 rw [if_neg (by omega),if_pos rfl]
 unfold setI
 rw [show bytesOf ((List.range 4).map fun k=>if b.toNat / 64=k then 2 ^ (b.toNat % 64) else 0)=[[b]] from h]
 rfl
theorem partsT_len3 : ∀ {s:Tx},∀ g∈partsT s,g.length=3
 | a::b::c::l,g,h=>by
  unfold partsT at h
  rcases List.mem_cons.1 h with rfl|h
  · rfl
  · exact partsT_len3 g h
 | [],g,h=>by simp [partsT] at h
 | [_],g,h=>by simp [partsT] at h
 | [_,_],g,h=>by simp [partsT] at h
theorem partsT_few {s:Tx} (h:s.length<3):partsT s=[]:=by
 match s,h with
 | [],_=>rfl
 | [_],_=>rfl
 | [_,_],_=>rfl
 | _::_::_::_,h=>simp at h;omega
theorem backT_app {s t:Tx} {n:Nat} (h:n<=t.length):backT n (s++t)=backT n t:=by
 unfold backT
 rw [List.length_append,List.drop_append]
 rw [List.drop_of_length_le (by omega),List.nil_append,show s.length+t.length - n - s.length=t.length - n by omega]
theorem partsT_snoc : ∀ {s:Tx} (c:UInt8),2<=s.length->partsT (s++[c])=partsT s++[backT 2 s++[c]]
 | [],_,h=>by simp at h
 | [_],_,h=>by simp at h
 | [a,b],c,_=>by simp [partsT,backT]
 | a::b::d::l,c,_=>by
  have ih:=partsT_snoc (s:=b::d::l) c (by simp)
  have h1:partsT (a::b::d::l++[c])=[a,b,d]::partsT (b::d::l++[c]):=by simp [partsT]
  rw [h1,ih,show a::b::d::l=[a]++(b::d::l) from rfl,backT_app (n:=2) (by simp)]
  simp [partsT]
def conj (G:List Tx):Qu:=mkQ 3 1 G []
theorem sort_len {G:List Tx} (h:G≠[]):1<=(sortBy id G).length:=by
 obtain ⟨x,l,rfl⟩:=List.exists_cons_of_ne_nil h
 obtain ⟨z,hz,_⟩:=sortBy_new (key:=(id:Tx->Tx)) (l:=x::l) (x:=x) (by simp)
 exact List.length_pos_of_mem hz
theorem conj_eq {G:List Tx} (h:G≠[]):conj G = .mk 3 (sortBy id G) []:=by
 have:=sort_len h
 unfold conj mkQ
 by_cases h1:1<(sortBy id G).length+(sortBy textQ []).length
 · rw [if_pos h1];rfl
 · have:(sortBy textQ ([]:List Qu)).length=0:=rfl
   rw [if_neg h1,if_pos (by omega)];rfl
theorem conj_parts (G:List Tx):badA (conj G)=false/\sA (conj G)=[] /\ ∀ x,x∈gA (conj G)↔x∈G:=by
 by_cases h:G=[]
 · subst h;exact ⟨rfl,rfl,fun x=>Iff.rfl⟩
 · rw [conj_eq h]
   exact ⟨rfl,rfl,fun x=>mem_sortBy (told_id G)⟩
theorem conj_set {G G':List Tx} (h : ∀ x,x∈G↔x∈G'):conj G=conj G':=mkQ_set (told_right fun q hq=>by cases hq) (told_right fun q hq=>by cases hq) h fun _=>Iff.rfl
theorem and_conj (Gs:List (List Tx)):andQ (Gs.map conj)=conj Gs.flatten:=by
 unfold andQ
 rw [if_neg (by
  rw [Bool.not_eq_true,List.any_eq_false]
  intro q hq
  obtain ⟨G,_,rfl⟩:=List.mem_map.1 hq
  rw [(conj_parts G).1];decide)]
 have h1:(Gs.map conj).flatMap sA=[]:=by
  induction Gs with
  | nil=>rfl
  | cons G Gs ih=>rw [List.map_cons,List.flatMap_cons,ih,(conj_parts G).2.1];rfl
 rw [h1]
 refine conj_set fun x=>?_
 rw [List.mem_flatMap,List.mem_flatten]
 constructor
 · rintro ⟨q,hq,hx⟩
   obtain ⟨G,hG,rfl⟩:=List.mem_map.1 hq
   exact ⟨G,hG,((conj_parts G).2.2 x).1 hx⟩
 · rintro ⟨G,hG,hx⟩
   exact ⟨_,List.mem_map_of_mem hG,((conj_parts G).2.2 x).2 hx⟩
theorem and2 (A B:List Tx):andQ [conj A,conj B]=conj (A++B):=by
 have h:=and_conj [A,B]
 rw [show [A,B].flatten=A++B by simp] at h
 exact h
theorem and3 (A B C:List Tx):andQ [conj A,conj B,conj C]=conj (A++(B++C)):=by
 have h:=and_conj [A,B,C]
 rw [show [A,B,C].flatten=A++(B++C) by simp] at h
 exact h
theorem gramsQ_conj {G:List Tx} (h : ∀ g∈G,g.length=3):gramsQ G=conj G:=by
 unfold gramsQ
 rw [if_neg (by
  rw [Bool.not_eq_true,List.any_eq_false]
  intro g hg
  rw [h g hg];decide)]
 unfold andQ
 rw [if_neg (by simp [badA,Qu.kind])]
 simp [gA,sA,Qu.kind,Qu.grams,Qu.subs,conj]
theorem or_none {G:List Tx} (h:G≠[]):orQ [.mk 2 [] [],conj G]=conj G:=by
 rw [conj_eq h]
 unfold orQ
 rw [if_neg (by simp [Qu.kind])]
 have hl:=sort_len h
 by_cases h1:(sortBy id G).length=1
 · obtain ⟨g,hs⟩:=List.length_eq_one_iff.1 h1
   rw [hs]
   rfl
 · have e1:loneQ (.mk 3 (sortBy id G) [])=false:=by simp [loneQ,Qu.kind,Qu.grams,Qu.subs,h1]
   have e2:[Qu.mk 2 [] [],.mk 3 (sortBy id G) []].flatMap gO=[]:=by
    simp only [List.flatMap_cons,List.flatMap_nil,List.append_nil]
    unfold gO
    rw [e1];rfl
   have e3:[Qu.mk 2 [] [],.mk 3 (sortBy id G) []].flatMap sO=[.mk 3 (sortBy id G) []]:=by
    simp only [List.flatMap_cons,List.flatMap_nil,List.append_nil]
    unfold sO
    rw [e1];rfl
   rw [e2,e3];rfl
theorem gramsRow_one (s:Tx):gramsRow [s]=conj (partsT s):=by
 unfold gramsRow
 by_cases h:s.length<3
 · rw [if_pos (by simp [h]),partsT_few h];rfl
 · rw [if_neg (by simp [h])]
   show orQ [.mk 2 [] [],gramsQ (partsT s)]=_
   rw [gramsQ_conj partsT_len3]
   refine or_none fun e=>?_
   match s,h with
   | [],h=>simp at h
   | [_],h=>simp at h
   | [_,_],h=>simp at h
   | _::_::_::_,_=>simp [partsT] at e
theorem frontT_len (n:Nat) (s:Tx):(frontT n s).length<=n:=by unfold frontT;rw [List.length_take];omega
theorem backT_len (n:Nat) (s:Tx):(backT n s).length<=n:=by unfold backT;rw [List.length_drop];omega
theorem fixed_one (cut:Nat->Tx->Tx) {s:Tx} (h:cut 2 s≠[]):fixedK cut [s]=[cut 2 s]:=by
 unfold fixedK
 simp only [List.map_cons,List.map_nil,rowT_one,List.length_singleton]
 rw [if_neg (show ¬ (8:Nat)<1 by omega),if_neg]
 simp only [List.length_singleton,List.mem_singleton,not_or]
 exact ⟨by omega,fun e=>h e.symm⟩
def litI (s:Tx):InfK:=if s.length<=40 then ⟨true,[s],[],[],allQ⟩ else ⟨false,[],[frontT 2 s],[backT 2 s],conj (partsT s)⟩
theorem allC:allQ=conj []:=rfl
theorem loose_ex (s:Tx) (G:List Tx):looseK ⟨true,[s],[],[],conj G⟩=⟨false,[],[s],[s],conj (G++partsT s)⟩:=by
 unfold looseK
 simp only [if_true,rowT_one,gramsRow_one,and2]
theorem loose_op (a b:Tx) (G:List Tx):looseK ⟨false,[],[a],[b],conj G⟩=⟨false,[],[a],[b],conj G⟩:=by
 unfold looseK
 simp only [Bool.false_eq_true,if_false,rowT_one]
theorem closed_op (a b:Tx) (G:List Tx):closedK ⟨false,[],[a],[b],conj G⟩=conj (G++(partsT a++partsT b)):=by
 unfold closedK
 rw [loose_op]
 simp only [gramsRow_one,and3]
theorem settled_op {a b:Tx} (G:List Tx) (ha:frontT 2 a≠[]) (hb:backT 2 b≠[]):settledK ⟨false,[],[a],[b],conj G⟩=⟨false,[],[frontT 2 a],[backT 2 b],conj (G++(partsT a++partsT b))⟩:=by
 unfold settledK
 rw [if_neg (by simp)]
 unfold openK
 rw [show rowT ([]:List Tx)=[] from rfl,loose_op,closed_op]
 simp only [fixed_one _ ha,fixed_one _ hb]
theorem settled_long {s:Tx} (G:List Tx) (h:40<s.length):settledK ⟨true,[s],[],[],conj G⟩=⟨false,[],[frontT 2 s],[backT 2 s],conj (G++partsT s++(partsT s++partsT s))⟩:=by
 have h1:frontT 2 s≠[]:=fun e=>by
  have:(frontT 2 s).length=0:=by rw [e];rfl
  unfold frontT at this
  rw [List.length_take] at this;omega
 have h2:backT 2 s≠[]:=fun e=>by
  have:(backT 2 s).length=0:=by rw [e];rfl
  unfold backT at this
  rw [List.length_drop] at this;omega
 unfold settledK
 rw [if_neg (by simp only [rowT_one];unfold smallK;simp;omega)]
 unfold openK
 rw [rowT_one,loose_ex,closed_op]
 simp only [fixed_one _ h1,fixed_one _ h2]
theorem settled_few {s:Tx} (G:List Tx) (h:s.length<=40):settledK ⟨true,[s],[],[],conj G⟩=⟨true,[s],[],[],conj G⟩:=by
 unfold settledK
 rw [rowT_one,if_pos ⟨rfl,by unfold smallK;simp;omega⟩]
theorem cross_one (a b:Tx):crossT [a] [b]=[a++b]:=by unfold crossT pairsT;simp only [List.flatMap_cons,List.flatMap_nil,List.map_cons,List.map_nil,List.append_nil];exact rowT_one _
theorem exactI_one (c:UInt8):exactI [[c]]=⟨true,[[c]],[],[],conj []⟩:=by unfold exactI;rw [rowT_one,allC]
theorem lit_step {s:Tx} (_h:s≠[]) (c:UInt8):behindI (litI s) (exactI [[c]])=litI (s++[c]):=by
 rw [exactI_one]
 by_cases h1:s.length<=40
 · have e:litI s=⟨true,[s],[],[],conj []⟩:=by unfold litI;rw [if_pos h1];rfl
   rw [e]
   show settledK ⟨true,crossT [s] [[c]],[],[],andQ [conj [],conj [],conj []]⟩=_
   rw [cross_one,and3]
   by_cases h2:(s++[c]).length<=40
   · rw [show []++([]++[])=([]:List Tx) from rfl,settled_few _ h2]
     unfold litI
     rw [if_pos h2];rfl
   · rw [settled_long _ (by omega)]
     unfold litI
     rw [if_neg h2]
     congr 1
     exact conj_set fun x=>by simp
 · have e:litI s=⟨false,[],[frontT 2 s],[backT 2 s],conj (partsT s)⟩:=by unfold litI;rw [if_neg h1]
   rw [e]
   show settledK ⟨false,[],rowT [frontT 2 s],crossT [backT 2 s] [[c]],andQ [conj (partsT s),conj [],conj []]⟩=_
   rw [cross_one,and3,rowT_one]
   have hf:frontT 2 (frontT 2 s)=frontT 2 s:=by unfold frontT;rw [List.take_take,Nat.min_self]
   have hb2:(backT 2 s).length=2:=by unfold backT;rw [List.length_drop];omega
   have hf2:(frontT 2 s).length=2:=by unfold frontT;rw [List.length_take];omega
   have hb:backT 2 (backT 2 s++[c])=backT 2 (s++[c]):=by
    have:s=s.take (s.length - 2)++backT 2 s:=by unfold backT;rw [List.take_append_drop]
    have h3:=backT_app (s:=s.take (s.length - 2)) (t:=backT 2 s++[c]) (n:=2) (by rw [List.length_append,hb2];simp)
    rw [← List.append_assoc,← this] at h3
    exact h3.symm
   have hfc:frontT 2 (s++[c])=frontT 2 s:=by unfold frontT;rw [List.take_append_of_le_length (by omega)]
   rw [settled_op _ (by rw [hf];intro e;rw [e] at hf2;cases hf2) (by
    rw [hb];intro e
    have:(backT 2 (s++[c])).length=0:=by rw [e];rfl
    unfold backT at this
    rw [List.length_drop,List.length_append] at this;simp at this;omega)]
   unfold litI
   have h4:partsT (s++[c])=partsT s++[backT 2 s++[c]]:=partsT_snoc c (by omega)
   have h5:partsT (backT 2 s++[c])=[backT 2 s++[c]]:=by
    have h6:backT 2 (backT 2 s)=backT 2 s:=by
     unfold backT at hb2 ⊢
     rw [hb2];rfl
    rw [partsT_snoc c (by omega),partsT_few (by omega),h6];rfl
   rw [if_neg (by rw [List.length_append];simp;omega),hf,hb,hfc,partsT_few (s:=frontT 2 s) (by omega),h4,h5]
   congr 1
   exact conj_set fun x=>by simp
theorem lit_fold : ∀ (t s:Tx),s≠[]->(t.map fun b=>exactI [[b]]).foldl behindI (litI s)=litI (s++t)
 | [],s,_=>by simp
 | c::t,s,h=>by
  rw [List.map_cons,List.foldl_cons,lit_step h,lit_fold t _ (by simp),List.append_assoc];rfl
theorem of_text (s:Tx):ofI (textN s)=litI s:=by
 unfold textN ofI
 rw [if_neg (by omega),if_neg (by omega),if_pos rfl,ofIs_map,List.map_map]
 have e:s.map (ofI ∘ oneN)=s.map fun b=>exactI [[b]]:=List.map_congr_left fun b _=>of_one b
 rw [e]
 cases s with
 | nil=>rfl
 | cons b t =>
  show (t.map fun b=>exactI [[b]]).foldl behindI (exactI [[b]])=_
  rw [exactI_one,show (⟨true,[[b]],[],[],conj []⟩:InfK)=litI [b] from rfl,lit_fold t [b] (by simp)];rfl
end Go.Proofs.YteknekiclhnkiaaGreatDoor
