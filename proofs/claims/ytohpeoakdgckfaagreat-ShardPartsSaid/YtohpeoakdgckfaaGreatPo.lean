/- Numbers, texts, fixed numbers that were put are read again, and what is read was put; no program is named. Postings in plain words: which are right, their bytes, what bytes they are read from, and that the two fit. No program is named. Postings that are put are got again. No program is named. -/
import Derived.Test.YtohpeoakdgckfaaGreatDc
import Derived.Test.YtohpeoakdgckfaaGreatDb
namespace Go.Proofs.YtohpeoakdgckfaaGreat
open Go.RowKit Sx
theorem u8_of {n:Nat} (h:n<256):(UInt8.ofNat n).toNat=n:=by simp;omega
theorem zby : ∀ (k i n acc:Nat) (x:List UInt8),i+k=6->n<128 ^ k->0<k->(i=0\/n≠0)->getS i acc (septs n++x)=some (acc+n*128 ^ i,x)
 | 0,_,_,_,_,_,_,h,_=>absurd h (by omega)
 | k+1,i,n,acc,x,hik,hn,_,h0=>by
  by_cases hs:n<128
  · rw [z1e hs,List.singleton_append,getS,u8_of (by omega),if_pos ⟨by omega,by omega⟩,if_pos hs]
  · rw [z3w hs,List.cons_append,getS,u8_of (by omega),if_pos ⟨by omega,by omega⟩,if_neg (by omega)]
    have hk:0<k:=by
     rcases Nat.eq_zero_or_pos k with rfl|h
     · simp at hn;omega
     · exact h
    rw [zby k (i+1) (n / 128) _ x (by omega) (by rw [Nat.div_lt_iff_lt_mul (by omega)];rw [Nat.pow_succ] at hn;exact hn) hk (.inr (by omega))]
    congr 2
    have e:n=n / 128*128+n % 128:=by omega
    rw [Nat.pow_succ,show n % 128+128 - 128=n % 128 by omega]
    have e2:n*128 ^ i=n / 128*(128 ^ i*128)+n % 128*128 ^ i:=by
     rw [Nat.mul_comm (128 ^ i) 128,← Nat.mul_assoc,← Nat.add_mul,← e]
    rw [e2];omega
theorem zjf : ∀ (l:List UInt8) (i acc m:Nat) (x:List UInt8),getS i acc l=some (m,x) -> ∃ n,m=acc+n*128 ^ i/\l=septs n++x/\(0<i->n≠0)
 | [],_,_,_,_,h=>by rw [getS] at h;cases h
 | b::l,i,acc,m,x,h=>by
  have hb:=b.toNat_lt
  rw [getS] at h
  split at h
  · rename_i hc
    split at h
    · rename_i hs
      simp only [Option.some.injEq,Prod.mk.injEq] at h
      refine ⟨b.toNat,h.1.symm,?_,fun hi=>?_⟩
      · rw [z1e hs,← h.2];simp
      · rcases hc.2 with h|h
        · omega
        · exact h
    · rename_i hs
      obtain ⟨n,rfl,rfl,hn⟩:=zjf l (i+1) _ m x h
      have hn0:=hn (by omega)
      refine ⟨n*128+(b.toNat - 128),?_,?_,fun _=>by omega⟩
      · rw [Nat.pow_succ,Nat.add_mul,Nat.mul_assoc,Nat.mul_comm 128 (128 ^ i)];omega
      · have e1:(n*128+(b.toNat - 128)) / 128=n:=by omega
        have e2:(n*128+(b.toNat - 128)) % 128+128=b.toNat:=by omega
        rw [z3w (n:=n*128+(b.toNat - 128)) (by omega),List.cons_append,e1,e2]
        simp
  · cases h
theorem z1o {most n:Nat} (x:List UInt8) (h:n<=most) (hm:most<=maxNum):numR most (some (septs n++x))=(n,some x):=by
 have e:getS 0 0 (septs n++x)=some (n,x):=by
  rw [zby 6 0 n 0 x rfl (by unfold maxNum at hm;omega) (by omega) (.inl rfl)];simp
 simp only [numR,getN,e]
 rw [if_pos ⟨by omega,by omega⟩]
theorem zdg {most n:Nat} {st:Option (List UInt8)} {x:List UInt8} (h:numR most st=(n,some x)):st=some (septs n++x)/\n<=most:=by
 have hm:=z18 most st
 rw [h] at hm
 refine ⟨?_,hm⟩
 cases st with
 | none=>simp [numR] at h
 | some l =>
  simp only [numR,getN] at h
  cases e:getS 0 0 l with
  | none=>rw [e] at h;simp at h
  | some p =>
   obtain ⟨m,y⟩:=p
   rw [e] at h
   simp only at h
   split at h
   · rename_i o heq
     split at heq
     · simp only [Option.some.injEq,Prod.mk.injEq] at heq h
       obtain ⟨n',h1,h2,_⟩:=zjf l 0 0 m y e
       obtain ⟨rfl,rfl⟩:=heq
       obtain ⟨rfl,rfl⟩:=h
       simp at h1
       rw [h2,h1]
     · cases heq
   · simp at h
theorem z6h {most:Nat} {p:List UInt8} (x:List UInt8) (h:p.length<=most) (hm:most<=maxNum):textR most (some (texts p++x))=(p,some x):=by
 unfold textR texts
 rw [List.append_assoc,z1o _ h hm]
 simp only [takeR]
 rw [if_neg (by simp)]
 simp
theorem z4e {most:Nat} {p x:List UInt8} {st:Option (List UInt8)} (h:textR most st=(p,some x)):st=some (texts p++x):=by
 unfold textR at h
 obtain ⟨n,y,e⟩ : ∃ n y,numR most st=(n,y):=⟨_,_,rfl⟩
 rw [e] at h
 cases y with
 | none=>simp [takeR] at h
 | some y =>
  simp only [takeR] at h
  split at h
  · simp at h
  · rename_i hl
    simp only [Prod.mk.injEq,Option.some.injEq] at h
    obtain ⟨rfl,rfl⟩:=h
    rw [(zdg e).1,texts,List.length_take,Nat.min_eq_left (by omega),List.append_assoc,List.take_append_drop]
theorem zbz {n:Nat} (x:List UInt8) (h:n<4294967296):fixR (some (fixed n++x))=(n,some x):=by
 simp only [fixed,List.cons_append,List.nil_append,fixR,ofBytes]
 congr 1
 simp
 omega
theorem zpo {n:Nat} {st:Option (List UInt8)} {x:List UInt8} (h:fixR st=(n,some x)):st=some (fixed n++x):=by
 unfold fixR at h
 split at h
 · rename_i a b c d l
   simp only [Prod.mk.injEq,Option.some.injEq,ofBytes] at h
   obtain ⟨rfl,rfl⟩:=h
   have:=a.toNat_lt;have:=b.toNat_lt;have:=c.toNat_lt;have:=d.toNat_lt
   simp only [fixed,List.cons_append,List.nil_append,Option.some.injEq,List.cons.injEq,and_true]
   refine ⟨?_,?_,?_,?_⟩<;>apply UInt8.toNat_inj.1<;>simp<;>omega
 · simp at h
structure PlaceV where
 doc:Int
 pos:Int
 deriving Inhabited,DecidableEq
theorem PlaceV.ext2 {a b:PlaceV} (h:a.doc=b.doc) (k:a.pos=b.pos):a=b:=by cases a;cases b;simp_all
abbrev PostP:=List UInt8 × List PlaceV
def fitsP (a p:PlaceV):Bool:=decide (0<=p.doc) && decide (p.doc<4000) && decide (0<=p.pos) && decide (p.pos<=1048576) && (decide (a.doc<p.doc) || decide (p.doc=a.doc) && decide (a.pos<p.pos))
def chainP:PlaceV->List PlaceV->Bool
 | _,[]=>true
 | a,p::l=>fitsP a p && chainP p l
def postOk (x:PostP):Bool:=decide (x.1.length=3) && !x.2.isEmpty && chainP ⟨-1,0⟩ x.2
def postsOk:List UInt8->List PostP->Bool
 | _,[]=>true
 | last,x::ps=>postOk x && !(Op.bytesLess x.1 last || decide (x.1=last)) && postsOk x.1 ps
def blockB:PlaceV->List PlaceV->List UInt8
 | _,[]=>[]
 | a,p::l=>septs (p.doc - a.doc).toNat++(septs (if p.doc=a.doc then p.pos - (a.pos+1) else p.pos).toNat++blockB p l)
def block1 (l:List PlaceV):List UInt8:=blockB ⟨(l.headD default).doc,-1⟩ l
def chunks (l:List PlaceV):List (List PlaceV):=if _h:l=[] then [] else l.take 64::chunks (l.drop 64)
termination_by l.length
decreasing_by
 have:=List.length_pos_iff.2 _h
 rw [List.length_drop];omega
def headsB:Int->List (List PlaceV)->List UInt8
 | _,[]=>[]
 | last,c::cs=>septs ((c.headD default).doc - last).toNat++(septs (block1 c).length++headsB (c.headD default).doc cs)
def postB (x:PostP):List UInt8:=x.1++((septs x.2.length++headsB 0 (chunks x.2))++(chunks x.2).flatMap block1)
def putB (ps:List PostP):List UInt8:=septs ps.length++ps.flatMap fun x=>texts (postB x)
abbrev Stt:=Option (List UInt8)
structure HeadV where
 doc:Nat
 many:Nat
 size:Nat
 deriving Inhabited
def headsR (size:Nat):Nat->Nat->Nat->Stt->List HeadV × Stt
 | 0,_,_,st=>([],st)
 | k+1,n,doc,st=>if n=0\/st=none then ([],st) else
  let r:=headsR size k (n - 64) (doc+(numR 4000 st).1) (numR size (numR 4000 st).2).2
  (⟨doc+(numR 4000 st).1,min n 64,(numR size (numR 4000 st).2).1⟩::r.1,r.2)
def placeR (a:PlaceV) (d t:Nat):PlaceV:=⟨a.doc+d,if a.doc+d=a.doc then t+(a.pos+1) else t⟩
def placesR:Nat->PlaceV->Stt->List PlaceV × Stt
 | 0,_,st=>([],st)
 | k+1,a,st =>
  let p:=placeR a (numR 4000 st).1 (numR 1048576 (numR 4000 st).2).1
  let st':=(numR 1048576 (numR 4000 st).2).2
  if st'=none then ([],none) else (p::(placesR k p st').1,(placesR k p st').2)
def stepB (h:HeadV):Option (List PlaceV × List UInt8)->Option (List PlaceV × List UInt8)
 | none=>none
 | some (acc,l)=>match placesR h.many ⟨h.doc,-1⟩ (some l) with
  | (_,none)=>none
  | (ps,some x)=>if (ps.headD default).doc=h.doc/\(l.length:Int) - x.length=h.size then some (acc++ps,x) else none
def stepsB (hs:List HeadV) (s:Option (List PlaceV × List UInt8)):Option (List PlaceV × List UInt8):=hs.foldl (fun s h=>stepB h s) s
def readR (b:List UInt8):Option PostP :=
 if b.length<3 then none else
  let n:=numR b.length (some (b.drop 3))
  let hs:=headsR b.length n.1 n.1 0 n.2
  match hs.2 with
  | none=>none
  | some l=>match stepsB hs.1 (some ([],l)) with
   | some (ps,[])=>some (b.take 3,ps)
   | _=>none
def getsR (size:Nat):Nat->Stt->List PostP × Stt
 | 0,st=>([],st)
 | k+1,st=>match readR (textR size st).1 with
  | none=>([],(textR size st).2)
  | some p=>(p::(getsR size k (textR size st).2).1,(getsR size k (textR size st).2).2)
def getP (b:List UInt8):Option (List PostP) :=
 let n:=numR b.length (some b)
 let g:=getsR b.length n.1 n.2
 if g.2=some []/\g.1.length=n.1/\postsOk [] g.1=true then some g.1 else none
theorem z4f : ∀ (l1:List PlaceV) (a:PlaceV) (l2:List PlaceV),chainP a (l1++l2)=(chainP a l1 && chainP (l1.getLastD a) l2)
 | [],a,l2=>by simp [chainP]
 | p::l1,a,l2=>by rw [List.cons_append,chainP,chainP,z4f l1 p l2,Bool.and_assoc,List.getLastD_cons]
theorem z2g : ∀ (l:List PlaceV) (a:PlaceV),chainP a l=true -> ∀ p∈l,a.doc<=p.doc/\0<=p.doc/\p.doc<4000/\0<=p.pos/\p.pos<=1048576
 | [],_,_,_,hp=>by cases hp
 | q::l,a,h,p,hp=>by
  rw [chainP,Bool.and_eq_true] at h
  have hf:=h.1
  simp only [fitsP,Bool.and_eq_true,Bool.or_eq_true,decide_eq_true_eq] at hf
  rcases List.mem_cons.1 hp with rfl|hp
  · omega
  · have:=z2g l q h.2 p hp
    omega
theorem zks {l:List PlaceV} {a:PlaceV} (h:chainP a l=true):chainP ⟨(l.headD default).doc,-1⟩ l=true:=by
 cases l with
 | nil=>rfl
 | cons p l =>
  rw [chainP,Bool.and_eq_true] at h
  have hf:=h.1
  simp only [fitsP,Bool.and_eq_true,Bool.or_eq_true,decide_eq_true_eq] at hf
  rw [chainP,h.2]
  simp only [fitsP,List.headD_cons,Bool.and_true,Bool.and_eq_true,Bool.or_eq_true,decide_eq_true_eq]
  refine ⟨hf.1,.inr ⟨trivial,?_⟩⟩
  have:=hf.1.1.2
  omega
theorem zc0 : ∀ (ps:List PlaceV) (a:PlaceV) (x:List UInt8),chainP a ps=true->0<=a.doc -> -1<=a.pos->placesR ps.length a (some (blockB a ps++x))=(ps,some x)
 | [],_,_,_,_,_=>rfl
 | p::ps,a,x,h,h1,h2=>by
  rw [chainP,Bool.and_eq_true] at h
  have hf:=h.1
  simp only [fitsP,Bool.and_eq_true,Bool.or_eq_true,decide_eq_true_eq] at hf
  have e1:=z1o (most:=4000) (n:=(p.doc - a.doc).toNat) (septs (if p.doc=a.doc then p.pos - (a.pos+1) else p.pos).toNat++(blockB p ps++x)) (by omega) (by unfold maxNum;omega)
  have e2:=z1o (most:=1048576) (n:=(if p.doc=a.doc then p.pos - (a.pos+1) else p.pos).toNat) (blockB p ps++x) (by split<;>omega) (by unfold maxNum;omega)
  have ih:=zc0 ps p x h.2 (by omega) (by omega)
  have ep:placeR a (p.doc - a.doc).toNat (if p.doc=a.doc then p.pos - (a.pos+1) else p.pos).toNat=p:=by
   unfold placeR
   have hd:a.doc+((p.doc - a.doc).toNat:Int)=p.doc:=by omega
   rw [hd]
   by_cases c:p.doc=a.doc
   · rw [if_pos c,if_pos c,show ((p.pos - (a.pos+1)).toNat:Int)+(a.pos+1)=p.pos by omega]
   · rw [if_neg c,if_neg c,show ((p.pos).toNat:Int)=p.pos by omega]
  rw [List.length_cons,placesR,blockB]
  simp only [List.append_assoc]
  rw [show ((4000:Nat):Int)=4000 from rfl] at e1
  rw [show ((1048576:Nat):Int)=1048576 from rfl] at e2
  rw [e1]
  dsimp only
  rw [e2]
  dsimp only
  rw [ep,ih]
  rfl
def hdOf (c:List PlaceV):HeadV:=⟨(c.headD default).doc.toNat,c.length,(block1 c).length⟩
theorem zpp {c acc:List PlaceV} {a:PlaceV} {x:List UInt8} (h:chainP a c=true) (hne:c≠[]):stepB (hdOf c) (some (acc,block1 c++x))=some (acc++c,x):=by
 have hb:0<=(c.headD default).doc:=by
  cases c with
  | nil=>exact absurd rfl hne
  | cons p c=>exact (z2g _ _ h p List.mem_cons_self).2.1
 have e:(((c.headD default).doc.toNat:Nat):Int)=(c.headD default).doc:=by omega
 have hp:=zc0 c ⟨(c.headD default).doc,-1⟩ x (zks h) hb (by simp)
 unfold stepB hdOf
 simp only
 rw [show blockB ⟨(c.headD default).doc,-1⟩ c=block1 c from rfl] at hp
 rw [e,hp]
 simp only
 rw [if_pos ⟨trivial,by rw [List.length_append];omega⟩]
theorem zg4 : ∀ (cs:List (List PlaceV)) (acc:List PlaceV) (x:List UInt8),(∀ c∈cs,c≠[] /\ ∃ a,chainP a c=true)->stepsB (cs.map hdOf) (some (acc,cs.flatMap block1++x))=some (acc++cs.flatten,x)
 | [],acc,x,_=>by simp [stepsB]
 | c::cs,acc,x,h=>by
  obtain ⟨h1,a,h2⟩:=h c List.mem_cons_self
  unfold stepsB
  rw [List.map_cons,List.foldl_cons,List.flatMap_cons,List.append_assoc,zpp h2 h1]
  have:=zg4 cs (acc++c) x fun c hc=>h c (List.mem_cons_of_mem _ hc)
  unfold stepsB at this
  rw [this]
  simp
theorem zam {l:List PlaceV} (h:l≠[]):chunks l=l.take 64::chunks (l.drop 64):=by
 rw [chunks,dif_neg h]
theorem z20 : ∀ (n:Nat) (l:List PlaceV) (a:PlaceV),l.length<=n->chainP a l=true->(chunks l).flatten=l /\ ∀ c∈chunks l,c≠[] /\ ∃ a,chainP a c=true
 | 0,l,a,hn,h=>by
  obtain rfl:l=[]:=List.length_eq_zero_iff.1 (by omega)
  rw [chunks];simp
 | n+1,l,a,hn,h=>by
  by_cases hl:l=[]
  · subst hl;rw [chunks];simp
  · have h0:=List.length_pos_iff.2 hl
    have e:=List.take_append_drop 64 l
    rw [← e,z4f,Bool.and_eq_true] at h
    obtain ⟨i1,i2⟩:=z20 n (l.drop 64) _ (by rw [List.length_drop];omega) h.2
    rw [zam hl]
    refine ⟨by rw [List.flatten_cons,i1,e],fun c hc=>?_⟩
    rcases List.mem_cons.1 hc with rfl|hc
    · exact ⟨fun e=>by have:=congrArg List.length e;rw [List.length_take,List.length_nil] at this;omega,a,h.1⟩
    · exact i2 c hc
theorem zg5 (size:Nat) (hs:size<=maxNum) : ∀ (k:Nat) (l:List PlaceV) (a:PlaceV) (doc:Nat) (x:List UInt8),l.length<=k->chainP a l=true->(∀ p∈l,(doc:Int)<=p.doc)->(∀ c∈chunks l,(block1 c).length<=size) ->
 headsR size k l.length doc (some (headsB doc (chunks l)++x))=((chunks l).map hdOf,some x)
 | 0,l,a,doc,x,hn,h,hd,hb=>by
  obtain rfl:l=[]:=List.length_eq_zero_iff.1 (by omega)
  rw [chunks];simp [headsR,headsB]
 | k+1,l,a,doc,x,hn,h,hd,hb=>by
  by_cases hl:l=[]
  · subst hl;rw [chunks];simp [headsR,headsB]
  · have h0:=List.length_pos_iff.2 hl
    have ec:=zam hl
    rw [ec] at hb ⊢
    have hh:((l.take 64).headD default)=l.headD default:=by cases l with|nil=>exact absurd rfl hl|cons p l=>rfl
    have hm:l.headD default∈l:=by cases l with|nil=>exact absurd rfl hl|cons p l=>exact List.mem_cons_self
    have hg:=z2g _ _ h _ hm
    have hdm:=hd _ hm
    have hb1:=hb _ List.mem_cons_self
    have e1:=z1o (most:=4000) (n:=((l.headD default).doc - doc).toNat) (septs (block1 (l.take 64)).length++(headsB (l.headD default).doc (chunks (l.drop 64))++x)) (by omega) (by unfold maxNum;omega)
    have e2:=z1o (most:=size) (n:=(block1 (l.take 64)).length) (headsB (l.headD default).doc (chunks (l.drop 64))++x) hb1 hs
    have et:=List.take_append_drop 64 l
    have h':=h
    rw [← et,z4f,Bool.and_eq_true] at h'
    have ed:(((doc+((l.headD default).doc - doc).toNat:Nat)):Int)=(l.headD default).doc:=by omega
    have hdd : ∀ p∈l.drop 64,(((doc+((l.headD default).doc - doc).toNat:Nat)):Int)<=p.doc:=fun p hp=>by
     rw [ed]
     cases l with
     | nil=>exact absurd rfl hl
     | cons q l =>
      rw [chainP,Bool.and_eq_true] at h
      exact (z2g l q h.2 p (List.mem_of_mem_drop (i:=63) (by simpa using hp))).1
    have ih:=zg5 size hs k (l.drop 64) _ (doc+((l.headD default).doc - doc).toNat) x (by rw [List.length_drop];omega) h'.2 hdd fun c hc=>hb c (List.mem_cons_of_mem _ hc)
    rw [List.length_drop,ed] at ih
    rw [headsR,if_neg (by simp;omega),headsB,hh]
    simp only [List.append_assoc]
    rw [show ((4000:Nat):Int)=4000 from rfl] at e1
    rw [e1]
    dsimp only
    rw [e2]
    dsimp only
    rw [ih,List.map_cons]
    have ehd:hdOf (l.take 64)=⟨doc+((l.headD default).doc - doc).toNat,min l.length 64,(block1 (l.take 64)).length⟩:=by
     unfold hdOf
     rw [hh,List.length_take,Nat.min_comm]
     congr 1
     omega
    rw [ehd]
theorem zjg : ∀ (l:List PlaceV) (a:PlaceV),l.length<=(blockB a l).length
 | [],_=>Nat.zero_le _
 | p::l,a=>by
  have:=zjg l p
  have h1:=List.length_pos_iff.2 (z8u (p.doc - a.doc).toNat)
  simp only [blockB,List.length_append,List.length_cons]
  omega
theorem zan : ∀ cs:List (List PlaceV),cs.flatten.length<=(cs.flatMap block1).length
 | []=>Nat.le_refl _
 | c::cs=>by
  have h1:=zan cs
  have h2:=zjg c ⟨(c.headD default).doc,-1⟩
  rw [show blockB ⟨(c.headD default).doc,-1⟩ c=block1 c from rfl] at h2
  rw [List.flatten_cons,List.flatMap_cons,List.length_append,List.length_append]
  omega
theorem zjh {α:Type} {f:List PlaceV->List α} : ∀ {cs:List (List PlaceV)} {c:List PlaceV},c∈cs->(f c).length<=(cs.flatMap f).length
 | d::cs,c,h=>by
  rw [List.flatMap_cons,List.length_append]
  rcases List.mem_cons.1 h with rfl|h
  · omega
  · have:=zjh (f:=f) h;omega
theorem zpq {x:PostP} (h:postOk x=true) (hl:(postB x).length<=maxNum):readR (postB x)=some x:=by
 obtain ⟨g,l⟩:=x
 unfold postOk at h
 simp only [Bool.and_eq_true,decide_eq_true_eq] at h
 obtain ⟨⟨h3,hne⟩,hc⟩:=h
 obtain ⟨c1,c2⟩:=z20 l.length l _ (Nat.le_refl _) hc
 have hge:=zan (chunks l)
 rw [c1] at hge
 have hlen:(postB (g,l)).length=3+((septs l.length).length+(headsB 0 (chunks l)).length+((chunks l).flatMap block1).length):=by
  unfold postB;simp only [List.length_append,h3]
 have ed:(postB (g,l)).drop 3=septs l.length++(headsB 0 (chunks l)++(chunks l).flatMap block1):=by
  unfold postB
  simp only [List.append_assoc]
  rw [← h3,List.drop_left]
 have et:(postB (g,l)).take 3=g:=by
  unfold postB
  rw [← h3,List.take_left]
 have e1:=z1o (most:=(postB (g,l)).length) (n:=l.length) (headsB 0 (chunks l)++(chunks l).flatMap block1) (by omega) hl
 have e2:=zg5 (postB (g,l)).length hl l.length l _ 0 ((chunks l).flatMap block1) (Nat.le_refl _) hc (fun p hp=>(z2g _ _ hc p hp).2.1) (fun c hc=>by have:=zjh (f:=block1) hc;omega)
 rw [show ((0:Nat):Int)=0 from rfl] at e2
 have e3:=zg4 (chunks l) [] [] c2
 rw [List.append_nil,List.nil_append,c1] at e3
 unfold readR
 rw [if_neg (by omega)]
 simp only [ed,e1,e2,e3,et]
theorem zji (size:Nat) (hs:size<=maxNum) : ∀ (ps:List PostP) (x:List UInt8),(∀ p∈ps,postOk p=true/\(postB p).length<=size)->getsR size ps.length (some ((ps.flatMap fun p=>texts (postB p))++x))=(ps,some x)
 | [],_,_=>rfl
 | p::ps,x,h=>by
  obtain ⟨h1,h2⟩:=h p List.mem_cons_self
  have ih:=zji size hs ps x fun q hq=>h q (List.mem_cons_of_mem _ hq)
  have e1:=z6h (most:=size) (p:=postB p) ((ps.flatMap fun p=>texts (postB p))++x) h2 hs
  rw [List.length_cons,getsR,List.flatMap_cons,List.append_assoc,e1]
  dsimp only
  rw [zpq h1 (Nat.le_trans h2 hs)]
  dsimp only
  rw [ih]
theorem zc1 : ∀ (ps:List PostP) (last:List UInt8),postsOk last ps=true -> ∀ p∈ps,postOk p=true
 | q::ps,last,h,p,hp=>by
  rw [postsOk,Bool.and_eq_true,Bool.and_eq_true] at h
  rcases List.mem_cons.1 hp with rfl|hp
  · exact h.1.1
  · exact zc1 ps q.1 h.2 p hp
theorem zjj : ∀ {ps:List PostP} {p:PostP},p∈ps->(postB p).length<=(ps.flatMap fun p=>texts (postB p)).length
 | q::ps,p,h=>by
  rw [List.flatMap_cons,List.length_append]
  rcases List.mem_cons.1 h with rfl|h
  · unfold texts;rw [List.length_append];omega
  · have:=zjj h;omega
theorem zg6 : ∀ (ps:List PostP),ps.length<=(ps.flatMap fun p=>texts (postB p)).length
 | []=>Nat.zero_le _
 | q::ps=>by
  have:=zg6 ps
  have h1:=List.length_pos_iff.2 (z8u (postB q).length)
  have e:(texts (postB q)).length=(septs (postB q).length).length+(postB q).length:=by unfold texts;rw [List.length_append]
  rw [List.flatMap_cons,List.length_append,List.length_cons,e]
  omega
theorem zpr {ps:List PostP} (h:postsOk [] ps=true) (hl:(putB ps).length<=maxNum):getP (putB ps)=some ps:=by
 have hm:=zg6 ps
 have hlen:(putB ps).length=(septs ps.length).length+(ps.flatMap fun p=>texts (postB p)).length:=by unfold putB;rw [List.length_append]
 have e1:=z1o (most:=(putB ps).length) (n:=ps.length) (ps.flatMap fun p=>texts (postB p)) (by omega) hl
 have e2:=zji (putB ps).length hl ps [] fun p hp=>⟨zc1 ps [] h p hp,by have:=zjj hp;omega⟩
 rw [List.append_nil] at e2
 unfold getP
 rw [show putB ps=septs ps.length++ps.flatMap fun p=>texts (postB p) from rfl] at e1 e2 ⊢
 simp only [e1,e2]
 rw [if_pos ⟨trivial,trivial,h⟩]
end Go.Proofs.YtohpeoakdgckfaaGreat
