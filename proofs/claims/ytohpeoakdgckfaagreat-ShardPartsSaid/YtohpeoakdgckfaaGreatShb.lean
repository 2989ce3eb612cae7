/- The shard's file in plain Lean: how long it is. No program. -/
import Derived.Test.YtohpeoakdgckfaaGreatPf
import Derived.Test.YtohpeoakdgckfaaGreatDb
import Derived.Test.YtohpeoakdgckfaaGreatPo
import Derived.Test.YtohpeoakdgckfaaGreatPq
import Derived.Test.YtohpeoakdgckfaaGreatIn
import Derived.Test.YtohpeoakdgckfaaGreatSf
namespace Go.Proofs.YtohpeoakdgckfaaGreat
open Go.RowKit Sx
def feedsF:Nat->List UInt8->List Nat
 | _,[]=>[]
 | k,x::l=>if x=10 then k::feedsF (k+1) l else feedsF (k+1) l
def linesOf (b:List UInt8):List Nat:=0::(feedsF 0 b).map (· + 1)
theorem z5r : ∀ (l:List UInt8) (k:Nat),(feedsF k l).length<=l.length
 | [],_=>Nat.le_refl _
 | x::l,k=>by
  have:=z5r l (k+1)
  rw [feedsF]
  split<;>simp only [List.length_cons]<;>omega
theorem zbd : ∀ (l:List UInt8) (k:Nat),∀ n∈feedsF k l,n<k+l.length
 | [],_,_,h=>by cases h
 | x::l,k,n,h=>by
  have ih:=zbd l (k+1)
  rw [List.length_cons]
  rw [feedsF] at h
  split at h
  · rcases List.mem_cons.1 h with rfl|h
    · omega
    · have:=ih n h;omega
  · have:=ih n h;omega
theorem z6a (b:List UInt8):(linesOf b).length<=b.length+1:=by
 have:=z5r b 0
 unfold linesOf
 rw [List.length_cons,List.length_map]
 omega
theorem z7w : ∀ (l m:List UInt8) (k:Nat),feedsF k (l++m)=feedsF k l++feedsF (k+l.length) m
 | [],_,_=>rfl
 | x::l,m,k=>by
  rw [List.cons_append,feedsF,feedsF,z7w l m (k+1),List.length_cons,show k+(l.length+1)=k+1+l.length by omega]
  split<;>rfl
theorem z6b {b:List UInt8} {q:Nat} (h:q<b.length):feedsF 0 (b.take (q+1))=feedsF 0 (b.take q)++(if b.getD q 0=10 then [q] else []):=by
 rw [z10 (d:=0) h,z7w,List.length_take,Nat.min_eq_left (by omega),Nat.zero_add]
 rfl
theorem zm3 {b:List UInt8} {q:Nat} (h:q<b.length) (h10:b.getD q 0=10) : ∃ hi:(feedsF 0 (b.take q)).length<(feedsF 0 b).length,(feedsF 0 b)[(feedsF 0 (b.take q)).length]=q:=by
 have e:feedsF 0 b=feedsF 0 (b.take q)++(q::feedsF (q+1) (b.drop (q+1))):=by
  have h1:=z7w (b.take (q+1)) (b.drop (q+1)) 0
  rw [List.take_append_drop,z6b h,if_pos h10,List.length_take,Nat.min_eq_left (by omega),Nat.zero_add,List.append_assoc] at h1
  exact h1
 have h1:(feedsF 0 b)[(feedsF 0 (b.take q)).length]?=some q:=by
  rw [e,List.getElem?_append_right (Nat.le_refl _),Nat.sub_self];rfl
 exact List.getElem?_eq_some_iff.1 h1
def riseOk:Nat->Nat->List Nat->Prop
 | _,_,[]=>True
 | p,m,n::l=>p<=n/\n<=m/\riseOk (n+1) m l
theorem z9z : ∀ (l:List UInt8) (k p:Nat),p<=k+1->riseOk p (k+l.length) ((feedsF k l).map (· + 1))
 | [],_,_,_=>trivial
 | x::l,k,p,h=>by
  rw [feedsF,List.length_cons,show k+(l.length+1)=k+1+l.length by omega]
  split
  · exact ⟨h,show k+1<=k+1+l.length by omega,z9z l (k+1) (k+1+1) (Nat.le_refl _)⟩
  · exact z9z l (k+1) p (by omega)
theorem z7x (b:List UInt8):riseOk 0 b.length (linesOf b):=⟨Nat.le_refl _,Nat.zero_le _,by
 have:=z9z b 0 1 (Nat.le_refl _)
 rwa [Nat.zero_add] at this⟩
def lastP (p:Nat) (l:List Nat):Nat->Nat
 | 0=>p
 | k+1=>l.getD k 0+1
theorem z76 : ∀ {l:List Nat} {p m:Nat},riseOk p m l -> ∀ k,k<l.length->l.getD k 0<=m/\lastP p l k<=l.getD k 0
 | [],_,_,_,k,hk=>by cases hk
 | n::l,p,m,h,0,_=>⟨h.2.1,h.1⟩
 | n::l,p,m,h,k+1,hk=>by
  have ih:=z76 h.2.2 k (by simpa using hk)
  cases k with
  | zero=>exact ih
  | succ k=>exact ih
def riseG:Nat->List Nat->List UInt8
 | _,[]=>[]
 | p,n::l=>septs (n - p)++riseG (n+1) l
def risingB (l:List Nat):List UInt8:=septs l.length++riseG 0 l
theorem z5s : ∀ (l:List Nat) (p k:Nat),k<l.length->riseG p (l.take (k+1))=riseG p (l.take k)++septs (l.getD k 0 - lastP p l k)
 | [],_,_,hk=>by cases hk
 | n::l,p,0,_=>by simp [riseG,lastP]
 | n::l,p,k+1,hk=>by
  have ih:=z5s l (n+1) k (by simpa using hk)
  rw [List.take_succ_cons,List.take_succ_cons,riseG,riseG,ih,List.append_assoc,List.getD_cons_succ]
  cases k with
  | zero=>rfl
  | succ k=>rfl
theorem zcz {l:List Nat} {p m:Nat} (hm:m<=maxNum) (h:riseOk p m l) (k:Nat):(riseG p (l.take k)).length<=6*k:=by
 induction k with
 | zero=>simp [riseG]
 | succ k ih =>
  by_cases hk:k<l.length
  · have h1:=z76 h k hk
    have h2:=z09 (n:=l.getD k 0 - lastP p l k) (by omega)
    rw [z5s l p k hk,List.length_append]
    omega
  · rw [List.take_of_length_le (by omega)] at ih ⊢
    omega
abbrev PartP:=UInt8 × List UInt8
def partB (p:PartP):List UInt8:=p.1::texts p.2
def bodyB (ps:List PartP):List UInt8:=ps.flatMap partB
def headB (ps:List PartP):List UInt8:=fixed ((bodyB ps).length+8)++bodyB ps
def crcB (b:List UInt8):Nat:=inv32 (crcAll 4294967295 b)
def frameB (ps:List PartP):List UInt8:=headB ps++fixed (crcB (headB ps))
theorem z47 (ps:List PartP):(frameB ps).length=(bodyB ps).length+8:=by
 unfold frameB headB
 simp [fixed]
theorem zbe {ps:List PartP} {k:Nat} (h:k<ps.length):bodyB (ps.take (k+1))=bodyB (ps.take k)++partB (ps.getD k default):=by
 unfold bodyB
 rw [z10 (d:=default) h,List.flatMap_append]
 simp
theorem z77 (ps:List PartP) (k:Nat):(bodyB (ps.take k)).length<=(bodyB ps).length:=by
 have e:bodyB ps=bodyB (ps.take k)++bodyB (ps.drop k):=by
  unfold bodyB
  rw [← List.flatMap_append,List.take_append_drop]
 rw [e,List.length_append]
 omega
def risesB (fs:List FileV):List UInt8:=fs.flatMap fun f=>risingB (linesOf f.data)
def contB (fs:List FileV):List UInt8:=fs.flatMap (·.data)
def shardP (fs:List FileV):List PartP:=[(1,putBytes (fs.map docOf)),(2,contB fs),(3,risesB fs),(4,putB (makeP (fs.map (·.data))))]
def shardB (fs:List FileV):List UInt8:=frameB (shardP fs)
theorem zq0 : ∀ L:List (List PlaceV),(∀ c∈L,(block1 c).length<=12*c.length)->(L.flatMap block1).length<=12*L.flatten.length
 | [],_=>by simp
 | a::L,h=>by
  have h1:=h a List.mem_cons_self
  have h2:=zq0 L fun z hz=>h z (List.mem_cons_of_mem _ hz)
  rw [List.flatMap_cons,List.flatten_cons,List.length_append,List.length_append];omega
theorem zre {a0:PlaceV} {l:List PlaceV} (h:chainP a0 l=true) : ∀ c∈chunks l,(block1 c).length<=12*c.length:=by
 intro c hc
 obtain ⟨hn,a,ha⟩:=(z20 _ l a0 (Nat.le_refl _) h).2 c hc
 have h1:=z2g c a ha
 have hp:0<=(c.headD default).doc:=(z6u h c hc).2.1
 exact z6t c ⟨(c.headD default).doc,-1⟩ (fun p hp=>(h1 p hp).2) hp (Int.le_refl _)
theorem zop {x:PostP} (h:postOk x=true) (hl:x.2.length<=10000):(postB x).length<=9+24*x.2.length:=by
 obtain ⟨hc,h3,hne⟩:=z19 h
 have h1:=z40 (chunks x.2) 0 (z6u hc) (Int.le_refl _)
 have h2:=zq0 (chunks x.2) (zre hc)
 rw [(z20 _ x.2 _ (Nat.le_refl _) hc).1] at h2
 have h4:=z09 (n:=x.2.length) (by unfold maxNum;omega)
 have h5:(chunks x.2).length=(x.2.length+63) / 64:=z42
 have h6:=List.length_pos_iff.2 hne
 unfold postB
 rw [List.length_append,List.length_append,List.length_append]
 omega
def sizeQ (ps:List PostP):Nat:=(ps.map fun x=>1+x.1.length+x.2.length).sum
theorem zh3 : ∀ ps:List PostP,(∀ x∈ps,postOk x=true/\x.2.length<=10000)->(ps.flatMap fun x=>texts (postB x)).length<=24*sizeQ ps
 | [],_=>by simp [sizeQ]
 | x::ps,h=>by
  obtain ⟨h1,h2⟩:=h x List.mem_cons_self
  have ih:=zh3 ps fun y hy=>h y (List.mem_cons_of_mem _ hy)
  have h3:=zop h1 h2
  have h4:=(z19 h1).2.1
  have h5:=z09 (n:=(postB x).length) (by unfold maxNum;omega)
  rw [List.flatMap_cons,List.length_append]
  unfold sizeQ at ih ⊢
  rw [List.map_cons,List.sum_cons]
  unfold texts at ih ⊢
  rw [List.length_append]
  omega
theorem z8l {n:Nat} (h:n<=1000000):(septs n).length<=6:=z09 (by unfold maxNum;omega)
theorem zh4 : ∀ fs:List FileV,((fs.map (·.data)).map List.length).sum<=sizeF fs
 | []=>Nat.le_refl _
 | f::fs=>by
  have:=zh4 fs
  simp only [List.map_cons,List.sum_cons,sizeF]
  omega
theorem z56 : ∀ fs:List FileV,(contB fs).length<=sizeF fs
 | []=>Nat.le_refl _
 | f::fs=>by
  have h:=z56 fs
  rw [show contB (f::fs)=f.data++contB fs from rfl,List.length_append]
  simp only [sizeF]
  omega
theorem z48 : ∀ fs:List FileV,sizeF fs<=2000->(risesB fs).length<=12*sizeF fs
 | [],_=>Nat.le_refl _
 | f::fs,h=>by
  simp only [sizeF] at h ⊢
  have ih:=z48 fs (by omega)
  have h1:=z6a f.data
  have h2:=zcz (m:=f.data.length) (by unfold maxNum;omega) (z7x f.data) (linesOf f.data).length
  rw [List.take_length] at h2
  have h3:=z8l (n:=(linesOf f.data).length) (by omega)
  rw [show risesB (f::fs)=risingB (linesOf f.data)++risesB fs from rfl,List.length_append,risingB,List.length_append]
  omega
theorem za0 : ∀ fs:List FileV,sizeF fs<=2000->((fs.map docOf).flatMap putDoc).length<=16*sizeF fs
 | [],_=>Nat.le_refl _
 | f::fs,h=>by
  simp only [sizeF] at h ⊢
  have ih:=za0 fs (by omega)
  have h1:=z8l (n:=f.path.length) (by omega)
  have h2:=z8l (n:=f.data.length) (by omega)
  rw [List.map_cons,List.flatMap_cons,List.length_append,show putDoc (docOf f)=texts f.path++fixed (docOf f).sum++septs f.data.length by simp [putDoc,docOf]]
  have h3 : ∀ n,(fixed n).length=4:=fun _=>rfl
  simp only [texts,List.length_append,h3]
  omega
theorem zf0 (ps:List PostP) (h : ∀ x∈ps,postOk x=true):sizeQ ps<=5*allP ps:=by
 induction ps with
 | nil=>simp [sizeQ,allP]
 | cons x ps ih =>
  have h1:=ih fun y hy=>h y (List.mem_cons_of_mem _ hy)
  obtain ⟨_,h2,h3⟩:=z19 (h x List.mem_cons_self)
  have h4:=List.length_pos_iff.2 h3
  unfold sizeQ allP at h1 ⊢
  simp only [List.map_cons,List.sum_cons]
  omega
theorem za1 : ∀ ds:List (List UInt8),manyD ds<=(ds.map List.length).sum
 | []=>Nat.le_refl _
 | d::ds=>by
  have:=za1 ds
  unfold manyD at this ⊢
  simp only [List.map_cons,List.sum_cons]
  omega
theorem z58 {fs:List FileV} (h:sizeF fs<=2000):tot (fs.map (·.data)) (fs.map (·.data)).length<=2000/\postsOk [] (makeP (fs.map (·.data)))=true/\(makeP (fs.map (·.data))).length<=2000/\(∀ x∈makeP (fs.map (·.data)),x.2.length<=2000)/\(putB (makeP (fs.map (·.data)))).length<=240006:=by
 have hl:=z22 fs
 have hs:=zh4 fs
 have ht:tot (fs.map (·.data)) (fs.map (·.data)).length<=2000:=by
  rw [zma _ _ (Nat.le_refl _),List.take_length];omega
 have hok:=zox (ds:=fs.map (·.data)) (by rw [List.length_map];omega) (by omega)
 have hb:=zmf ht
 have h1:=zf0 _ (z1w hok)
 rw [zix] at h1
 have h2:=za1 (fs.map (·.data))
 have h3:=zh3 _ fun x hx=>⟨z1w hok x hx,Nat.le_trans (hb.2 x hx) (by omega)⟩
 have h4:=z8l (n:=(makeP (fs.map (·.data))).length) (by have:=hb.1;omega)
 refine ⟨ht,hok,hb.1,hb.2,?_⟩
 unfold putB
 rw [List.length_append]
 omega
theorem z78 (l:List UInt8) (h:l.length<=1000000):(texts l).length<=l.length+6:=by
 have:=z8l h
 unfold texts
 rw [List.length_append]
 omega
theorem z49 {fs:List FileV} (h:sizeF fs<=2000):(bodyB (shardP fs)).length<=1000000:=by
 have h1:=z56 fs
 have h2:=z48 fs h
 have h3:=za0 fs h
 have h4:=(z58 h).2.2.2.2
 have h5:=z8l (n:=fs.length) (by have:=z22 fs;omega)
 have h6:(putBytes (fs.map docOf)).length<=6+16*sizeF fs:=by
  unfold putBytes
  rw [List.length_append,List.length_map]
  omega
 have e:bodyB (shardP fs)=partB (1,putBytes (fs.map docOf))++(partB (2,contB fs)++(partB (3,risesB fs)++partB (4,putB (makeP (fs.map (·.data)))))):=by simp [bodyB,shardP]
 have h7:=z78 (putBytes (fs.map docOf)) (by omega)
 have h8:=z78 (contB fs) (by omega)
 have h9:=z78 (risesB fs) (by omega)
 have h10:=z78 (putB (makeP (fs.map (·.data)))) (by omega)
 rw [e]
 simp only [List.length_append,partB,List.length_cons]
 omega
end Go.Proofs.YtohpeoakdgckfaaGreat
