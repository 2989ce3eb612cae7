/- A map that holds a slice of places for each gram, and the slices' rows, as one owned piece. No program is named. post.fits: its contract; postings as arguments. post.Right: its contract. -/
import Derived.Test.YtohpeoakdgckfaaGreatMp
import Derived.Test.YtohpeoakdgckfaaGreatPo
import Derived.Test.YtohpeoakdgckfaaGreatIdx
import Derived.Test.YtohpeoakdgckfaaGreatGo
import Derived.Test.YtohpeoakdgckfaaGreatWd
set_option maxHeartbeats 16000000
set_option maxRecDepth 10000
namespace Go.Proofs.YtohpeoakdgckfaaGreat
open Go.RowKit
def encPl (p:PlaceV):List Value:=[.int .i64 p.doc,.int .i64 p.pos]
def getG:List PostP->List UInt8->List PlaceV
 | [],_=>[]
 | (k,l)::S,g=>if k=g then l else getG S g
def putG:List PostP->List UInt8->List PlaceV->List PostP
 | [],g,l=>[(g,l)]
 | (k,x)::S,g,l=>if k=g then (k,l)::S else (k,x)::putG S g l
theorem ziz (S:List PostP) (g x:List UInt8) (l:List PlaceV):getG (putG S g l) x=if g=x then l else getG S x:=by
 induction S with
 | nil=>simp [putG,getG]
 | cons p S ih =>
  obtain ⟨k,y⟩:=p
  unfold putG
  by_cases h:k=g
  · subst h
    rw [if_pos rfl,getG,getG]
    by_cases e:k=x
    · rw [if_pos e,if_pos e]
    · rw [if_neg e,if_neg e,if_neg e]
  · rw [if_neg h,getG,ih,getG]
    by_cases e:k=x
    · subst e;rw [if_pos rfl,if_pos rfl,if_neg (fun e=>h e.symm)]
    · rw [if_neg e,if_neg e]
theorem zfc (S:List PostP) (g:List UInt8) (l:List PlaceV):(putG S g l).map (·.1)=if g∈S.map (·.1) then S.map (·.1) else S.map (·.1)++[g]:=by
 induction S with
 | nil=>simp [putG]
 | cons p S ih =>
  obtain ⟨k,y⟩:=p
  unfold putG
  by_cases h:k=g
  · subst h;simp
  · have h':¬ g=k:=fun e=>h e.symm
    rw [if_neg h,List.map_cons,ih]
    simp only [List.map_cons,List.mem_cons,h',false_or]
    split<;>simp
def addP (S:List PostP) (o:List UInt8 × PlaceV):List PostP:=putG S o.1 (getG S o.1++[o.2])
theorem zj0 : ∀ (O:List (List UInt8 × PlaceV)) (S:List PostP) (g:List UInt8),getG (O.foldl addP S) g=getG S g++(O.filter fun o=>decide (o.1=g)).map (·.2)
 | [],S,g=>by simp
 | o::O,S,g=>by
  rw [List.foldl_cons,zj0 O,addP,ziz]
  by_cases h:o.1=g
  · subst h;simp
  · simp [h]
theorem zfd : ∀ (O:List (List UInt8 × PlaceV)) (S:List PostP),(S.map (·.1)).Nodup->((O.foldl addP S).map (·.1)).Nodup /\ ∀ g,g∈(O.foldl addP S).map (·.1)↔g∈S.map (·.1)\/g∈O.map (·.1)
 | [],S,h=>⟨h,fun g=>by simp⟩
 | o::O,S,h=>by
  have hn:((addP S o).map (·.1)).Nodup:=by
   rw [addP,zfc]
   split
   · exact h
   · rename_i c
     refine List.nodup_append.2 ⟨h,by simp,fun a ha b hb e=>?_⟩
     rw [List.mem_singleton] at hb
     subst hb;subst e;exact c ha
  obtain ⟨i1,i2⟩:=zfd O (addP S o) hn
  refine ⟨i1,fun g=>?_⟩
  rw [List.foldl_cons,i2 g,addP,zfc]
  by_cases c:o.1∈S.map (·.1)
  · rw [if_pos c]
    constructor
    · rintro (h|h)
      · exact .inl h
      · exact .inr (by simp only [List.map_cons,List.mem_cons];exact .inr h)
    · rintro (h|h)
      · exact .inl h
      · simp only [List.map_cons,List.mem_cons] at h
        rcases h with rfl|h
        · exact .inl c
        · exact .inr h
  · rw [if_neg c]
    simp only [List.mem_append,List.map_cons,List.mem_cons,List.not_mem_nil,or_false]
    constructor
    · rintro ((h|h)|h)
      · exact .inl h
      · exact .inr (.inl h)
      · exact .inr (.inr h)
    · rintro (h|h|h)
      · exact .inl (.inl h)
      · exact .inl (.inr h)
      · exact .inr h
namespace Sx
open Go.Maps
section
variable {P : Program} {l : Option Nat} {r : Hp} {Q : Exit → St} {K : St} {t : List Value} {H H1 : List Ch} {d : Option Tmp} {ty : TypeId} {pos : String} {af : Array Edge} {gd : Option (Nat × Bool)}
theorem z0b {c:Code} {As:List Ch} {D:Ch} (ht:Takes As H H1) (hj : ∀ h,all As h->D h) (h:SW P l r c Q t (D::H1)):SW P l r c Q t H:=fun w g ds ok a=>by
 have a':=z0j ht a
 obtain ⟨x,y,dd,e,hx,hy⟩:=z17.1 a'
 exact h w g ds ok ⟨x,y,dd,e,hj x hx,hy⟩
theorem z1x {c:Code} {ι:Type} {A:Ch} {B:ι->List Ch} {φ:ι->Prop} (ht:Take A H H1) (hA : ∀ h,A h -> ∃ i,φ i/\all (B i) h) (h : ∀ i,φ i->SW P l r c Q t (B i++H1)):SW P l r c Q t H:=fun w g ds ok a=>by
 obtain ⟨x,y,dd,e,hx,hy⟩:=z0j ht a
 obtain ⟨i,hi,hb⟩:=hA x hx
 exact h i hi w g ds ok (z17.2 ⟨x,y,dd,e,hb,hy⟩)
theorem zmg {o:Oper} {ι:Type} {A:Ch} {B:ι->List Ch} {φ:ι->Prop} (ht:Take A H H1) (hA : ∀ h,A h -> ∃ i,φ i/\all (B i) h) (h : ∀ i,φ i->SWo P l r o K t (B i++H1)):SWo P l r o K t H:=fun w g ds ok a=>by
 obtain ⟨x,y,dd,e,hx,hy⟩:=z0j ht a
 obtain ⟨i,hi,hb⟩:=hA x hx
 exact h i hi w g ds ok (z17.2 ⟨x,y,dd,e,hb,hy⟩)
theorem z11 {A:Ch} {h:Hp}:all [A] h↔A h:=by
 constructor
 · rintro ⟨x,y,_,rfl,hx,rfl⟩;rw [z30];exact hx
 · intro e;exact ⟨h,emp,z4u,z30.symm,e,rfl⟩
theorem z1u {L1 L2:List Ch} {h:Hp}:all (L1++[all L2]) h↔all (L1++L2) h:=by
 constructor
 · intro e;obtain ⟨a,b,d,e,h1,h2⟩:=z17.1 e;exact z17.2 ⟨a,b,d,e,h1,z11.1 h2⟩
 · intro e;obtain ⟨a,b,d,e,h1,h2⟩:=z17.1 e;exact z17.2 ⟨a,b,d,e,h1,z11.2 h2⟩
theorem zoy {T kt et:TypeId} {c:Bool} {x y:Operand} {b n:Nat} {M:Lit->Option Value} {kv z:Value} {kl:Lit} {g:Hp} (hT:mapB P T=some (kt,et)) (hK:Keyed P kt) (hz:zeroB P et=some z)
 (hx:evO t x=some (.map (some b))) (hy:evO t y=some kv) (hkl:keyOf P kt kv=some kl) (hm:MapC P kt b n M g) (hs:sub g r)
 (hk:K (putL t d (if c then .tuple #[(M kl).getD z,.bool (M kl).isSome] else (M kl).getD z)) H):SWo P l r ⟨d,.lookup T x y c,ty,pos,af,gd⟩ K t H:=by
 intro w h ds ok al
 obtain ⟨es,clock,rfl,F,hsz,hr⟩:=hm
 have hb:w.heap[b]?=some (.map es clock):=ok.ro b _ (hs b _ z0h)
 refine z15 (K:=K) (by intro c hc;cases hc) (fun w g ds ok al=>?_) w h ds ok al
 have hb:w.heap[b]?=some (.map es clock):=ok.ro b _ (hs b _ z0h)
 exact ⟨_,w,_,_,zis hT hK hz (ev_of hx) (ev_of hy) hkl hb F hr,hk,al,To.refl ok⟩
theorem zd3 {kt:TypeId} (hk:P.underlying kt=some .string) {g:List UInt8} (hg:g.length<=maxLen):keyOf P kt (.string (bs g))=some (.string g):=by
 have e1:(bs g).size<=maxLen:=by rw [z0x];exact hg
 simp [keyOf,hk,mapKey,e1,z6c]
theorem zoz {T kt et:TypeId} {x y:Operand} {b n:Nat} {M:Lit->Option Value} {g:List UInt8} {v z:Value} {H1:List Ch} (hT:mapB P T=some (kt,et)) (hs:P.underlying kt=some .string) (hz:zeroB P et=some z)
 (hx:evO t x=some (.map (some b))) (hy:evO t y=some (.string (bs g))) (hg:g.length<=maxLen) (ht:Take (MapC P kt b n M) H H1) (hv:(M (.string g)).getD z=v)
 (hk:K (putL t d v) H):SWo P l r ⟨d,.lookup T x y false,ty,pos,af,gd⟩ K t H :=
 zrg hT (string_keyed hs) hz hx hy (zd3 hs hg) ht (by rw [if_neg (by simp),hv];exact hk)
theorem zp0 {T kt et:TypeId} {x y:Operand} {b n:Nat} {M:Lit->Option Value} {g:List UInt8} {v z:Value} {gg:Hp} (hT:mapB P T=some (kt,et)) (hs:P.underlying kt=some .string) (hz:zeroB P et=some z)
 (hx:evO t x=some (.map (some b))) (hy:evO t y=some (.string (bs g))) (hg:g.length<=maxLen) (hm:MapC P kt b n M gg) (hsb:sub gg r) (hv:(M (.string g)).getD z=v)
 (hk:K (putL t d v) H):SWo P l r ⟨d,.lookup T x y false,ty,pos,af,gd⟩ K t H :=
 zoy hT (string_keyed hs) hz hx hy (zd3 hs hg) hm hsb (by rw [if_neg (by simp),hv];exact hk)
theorem zp1 {T kt et:TypeId} {x y u:Operand} {b n:Nat} {M:Lit->Option Value} {g:List UInt8} {v:Value} {H1:List Ch} (hT:mapB P T=some (kt,et)) (hs:P.underlying kt=some .string)
 (hx:evO t x=some (.map (some b))) (hy:evO t y=some (.string (bs g))) (hu:evO t u=some v) (hg:g.length<=maxLen) (ht:Take (MapC P kt b n M) H H1) (hn:n<maxLen)
 (hk : ∀ M',(∀ x,M' (.string x)=if x=g then some v else M (.string x))->K (putL t d undef) (MapC P kt b (n+1) M'::H1)):SWo P l r ⟨d,.mapUpdate T x y u,ty,pos,af,gd⟩ K t H :=
 zrh hT (string_keyed hs) hx hy hu (zd3 hs hg) ht hn (hk _ fun x=>by
  by_cases e:x=g
  · subst e;rw [if_pos rfl];exact zir trivial
  · rw [if_neg e];exact zf2 (fun h=>e (by injection h)))
abbrev PZ:=PostP × Value
def rowsC (T:TypeId) (Z:List PZ):List Ch:=Z.map fun z=>RowC T 2 z.2 z.1.2.length (z.1.2.flatMap encPl)
def valZ:List PZ->List UInt8->Option Value
 | [],_=>none
 | z::Z,g=>if z.1.1=g then some z.2 else valZ Z g
def PlC (P:Program) (kt T:TypeId) (b n:Nat) (S:List PostP):Ch:=fun h => ∃ (Z:List PZ) (M:Lit->Option Value),Z.map (·.1)=S/\(∀ g,M (.string g)=valZ Z g)/\all (MapC P kt b n M::rowsC T Z) h
theorem zq4 (g:List UInt8) : ∀ Z:List PZ,(valZ Z g=none/\getG (Z.map (·.1)) g=[] /\ ∀ l v,(Z++[((g,l),v)]).map (·.1)=putG (Z.map (·.1)) g l /\ ∀ x,valZ (Z++[((g,l),v)]) x=if x=g then some v else valZ Z x) \/
 ∃ Z1 l0 v0 Z2,Z=Z1++((g,l0),v0)::Z2/\valZ Z g=some v0/\getG (Z.map (·.1)) g=l0 /\ ∀ l v,(Z1++((g,l),v)::Z2).map (·.1)=putG (Z.map (·.1)) g l /\ ∀ x,valZ (Z1++((g,l),v)::Z2) x=if x=g then some v else valZ Z x
 | []=> .inl ⟨rfl,rfl,fun l v=>⟨rfl,fun x=>by
  by_cases e:x=g
  · subst e;simp [valZ]
  · have:¬ g=x:=fun h=>e h.symm
    simp [valZ,e,this]⟩⟩
 | ((k,y),u)::Z=>by
  by_cases h:k=g
  · subst h
    refine .inr ⟨[],y,u,Z,rfl,by simp [valZ],by simp [getG],fun l v=>⟨by simp [putG],fun x=>?_⟩⟩
    by_cases e:x=k
    · subst e;simp [valZ]
    · have:¬ k=x:=fun h=>e h.symm
      simp [valZ,e,this]
  · have step : ∀ (Z':List PZ) (v:Value),(∀ x,valZ Z' x=if x=g then some v else valZ Z x) -> ∀ x,valZ (((k,y),u)::Z') x=if x=g then some v else valZ (((k,y),u)::Z) x:=fun Z' v hv x=>by
     rw [valZ,valZ,hv]
     by_cases e:k=x
     · subst e;simp [h]
     · simp [e]
    rcases zq4 g Z with ⟨h1,h2,h3⟩ | ⟨Z1,l0,v0,Z2,rfl,h1,h2,h3⟩
    · exact .inl ⟨by rw [valZ,if_neg h];exact h1,by rw [List.map_cons,getG,if_neg h];exact h2,fun l v=>⟨by rw [List.cons_append,List.map_cons,List.map_cons,putG,if_neg h,(h3 l v).1],step _ v (h3 l v).2⟩⟩
    · exact .inr ⟨((k,y),u)::Z1,l0,v0,Z2,rfl,by rw [valZ,if_neg h];exact h1,by rw [List.map_cons,getG,if_neg h];exact h2,fun l v=>⟨by rw [List.cons_append,List.map_cons,List.map_cons,putG,if_neg h,(h3 l v).1],step _ v (h3 l v).2⟩⟩
structure PlO where
 v:Value
 M:Lit->Option Value
 F:Ch
theorem PlC.out {kt T:TypeId} {b n:Nat} {S:List PostP} (g:List UInt8) : ∀ h,PlC P kt T b n S h -> ∃ o:PlO,((o.M (.string g)).getD (.slice none 0 0)=o.v /\ ∀ v' l' k M',(∀ x,M' (.string x)=if x=g then some v' else o.M (.string x)) -> ∀ h',all [MapC P kt b k M',RowC T 2 v' l'.length (l'.flatMap encPl),o.F] h'->PlC P kt T b k (putG S g l') h') /\
 all [MapC P kt b n o.M,RowC T 2 o.v (getG S g).length ((getG S g).flatMap encPl),o.F] h:=by
 rintro h ⟨Z,M,rfl,hM,ha⟩
 rcases zq4 g Z with ⟨h1,h2,h3⟩ | ⟨Z1,l0,v0,Z2,rfl,h1,h2,h3⟩
 · refine ⟨⟨.slice none 0 0,M,all (rowsC T Z)⟩,⟨by show (M (.string g)).getD _=_;rw [hM,h1];rfl,fun v' l' k M' hM' h' ha'=>?_⟩,?_⟩
   · refine ⟨Z++[((g,l'),v')],M',(h3 l' v').1,fun x=>by rw [(h3 l' v').2 x,← hM x];exact hM' x,?_⟩
     have:=(z1u (L1:=[MapC P kt b k M',RowC T 2 v' l'.length (l'.flatMap encPl)])).1 ha'
     refine z0j ?_ this
     unfold rowsC
     rw [List.map_append]
     exact List.Perm.cons _ (List.perm_append_comm (l₁:=[_]))
   · rw [h2]
     refine (z1u (L1:=[MapC P kt b n M,RowC T 2 (.slice none 0 0) ([]:List PlaceV).length (([]:List PlaceV).flatMap encPl)])).2 ?_
     exact z0j (List.Perm.swap _ _ _) (z99 (RowC.nil T 2) ha)
 · have hp : ∀ l v,(rowsC T (Z1++((g,l),v)::Z2)).Perm (RowC T 2 v l.length (l.flatMap encPl)::rowsC T (Z1++Z2)):=fun l v=>by
    unfold rowsC
    rw [List.map_append,List.map_append,List.map_cons]
    exact List.perm_middle
   refine ⟨⟨v0,M,all (rowsC T (Z1++Z2))⟩,⟨by show (M (.string g)).getD _=_;rw [hM,h1];rfl,fun v' l' k M' hM' h' ha'=>?_⟩,?_⟩
   · refine ⟨Z1++((g,l'),v')::Z2,M',(h3 l' v').1,fun x=>by rw [(h3 l' v').2 x,← hM x];exact hM' x,?_⟩
     have:=(z1u (L1:=[MapC P kt b k M',RowC T 2 v' l'.length (l'.flatMap encPl)])).1 ha'
     exact z0j (List.Perm.cons _ (hp l' v').symm) this
   · rw [h2]
     refine (z1u (L1:=[MapC P kt b n M,RowC T 2 v0 l0.length (l0.flatMap encPl)])).2 ?_
     exact z0j (List.Perm.cons _ (hp l0 v0)) ha
theorem PlC.nil {kt T:TypeId} {b:Nat} : ∀ h,MapC P kt b 0 (fun _=>none) h->PlC P kt T b 0 [] h:=fun _h e=>⟨[],fun _=>none,rfl,fun _=>rfl,z11.2 e⟩
def zOf (Z:List PZ) (g:List UInt8):PZ:=((g,getG (Z.map (·.1)) g),(valZ Z g).getD (.slice none 0 0))
theorem zs_eq : ∀ Z:List PZ,(Z.map (·.1.1)).Nodup->(Z.map (·.1.1)).map (zOf Z)=Z
 | [],_=>rfl
 | ((k,y),u)::Z,h=>by
  rw [List.map_cons,List.nodup_cons] at h
  have ih:=zs_eq Z h.2
  rw [List.map_cons,List.map_cons]
  congr 1
  · simp [zOf,getG,valZ]
  · refine Eq.trans (List.map_congr_left fun g hg=>?_) ih
    have hne:¬ k=g:=fun e=>h.1 (e ▸ hg)
    simp [zOf,getG,valZ,hne]
theorem zro {Z:List PZ} {gs:List (List UInt8)} (h:(Z.map (·.1.1)).Nodup) (hp:gs.Perm (Z.map (·.1.1))):(gs.map (zOf Z)).Perm Z:=(hp.map (zOf Z)).trans (List.Perm.of_eq (zs_eq Z h))
theorem zj1 (g:List UInt8) : ∀ Z:List PZ,g∈Z.map (·.1.1)↔(valZ Z g).isSome=true
 | []=>by simp [valZ]
 | z::Z=>by
  rw [List.map_cons,List.mem_cons,zj1 g Z,valZ]
  by_cases h:z.1.1=g
  · simp [h]
  · have h':¬ g=z.1.1:=fun e=>h e.symm
    simp [h,h']
theorem zbj {T:TypeId} : ∀ {Z:List PZ} {h:Hp},all (rowsC T Z) h -> ∀ z∈Z,∃ a n c,z.2 = .slice a n c
 | [],_,_,_,hz=>by cases hz
 | y::Z,h,e,z,hz=>by
  obtain ⟨g,k,_,_,hR,hk⟩:=e
  rcases List.mem_cons.1 hz with rfl|hz
  · rcases hR.2 with ⟨e,_⟩ | ⟨_,_,_,e,_⟩
    · exact ⟨_,_,_,e⟩
    · exact ⟨_,_,_,e⟩
  · exact zbj hk z hz
theorem zkg {Z:List PZ} (h : ∀ z∈Z,∃ a n c,z.2 = .slice a n c) (g:List UInt8) : ∃ a n c,(valZ Z g).getD (.slice none 0 0) = .slice a n c:=by
 induction Z with
 | nil=>exact ⟨none,0,0,rfl⟩
 | cons z Z ih =>
  rw [valZ]
  split
  · exact h z List.mem_cons_self
  · exact ih fun y hy=>h y (List.mem_cons_of_mem _ hy)
def encZ (z:PZ):List Value:=[.string (bs z.1.1),z.2]
def PostC (E T:TypeId) (v:Value) (ps:List PostP):Ch:=fun h => ∃ Z:List PZ,Z.map (·.1)=ps/\all (RowC E 2 v Z.length (Z.flatMap encZ)::rowsC T Z) h
end
end Sx
def gramAt (l:List UInt8) (i:Int):Bool:=decide (0<=i) && decide (i<=(l.length:Int) - 3)
def occD (d:Nat) (b:List UInt8):Nat->List (List UInt8 × PlaceV)
 | 0=>[]
 | k+1=>occD d b k++(if gramAt b k then [((b.drop k).take 3,⟨d,k⟩)] else [])
def occs (ds:List (List UInt8)):Nat->List (List UInt8 × PlaceV)
 | 0=>[]
 | k+1=>occs ds k++occD k (ds.getD k []) (ds.getD k []).length
def tot (ds:List (List UInt8)):Nat->Nat
 | 0=>0
 | k+1=>tot ds k+(ds.getD k []).length
theorem z7b (d:Nat) (b:List UInt8) : ∀ k,(occD d b k).length<=k
 | 0=>Nat.le_refl _
 | k+1=>by
  have:=z7b d b k
  unfold occD
  rw [List.length_append]
  split<;>simp<;>omega
theorem z7c (ds:List (List UInt8)) : ∀ k,(occs ds k).length<=tot ds k
 | 0=>Nat.le_refl _
 | k+1=>by
  have h1:=z7c ds k
  have h2:=z7b k (ds.getD k []) (ds.getD k []).length
  unfold occs tot
  rw [List.length_append];omega
theorem z91 (ds:List (List UInt8)) : ∀ {n k:Nat},k<=n->tot ds k<=tot ds n
 | 0,k,h=>by
  obtain rfl:k=0:=by omega
  exact Nat.le_refl _
 | n+1,k,h=>by
  by_cases e:k=n+1
  · rw [e];exact Nat.le_refl _
  · have:=z91 ds (n:=n) (k:=k) (by omega)
    show tot ds k<=tot ds n+(ds.getD n []).length
    omega
def grams (O:List (List UInt8 × PlaceV)):List PostP:=O.foldl addP []
theorem zbk (O:List (List UInt8 × PlaceV)) (o:List UInt8 × PlaceV):grams (O++[o])=putG (grams O) o.1 (getG (grams O) o.1++[o.2]):=by
 unfold grams;rw [List.foldl_append];rfl
theorem z7d (O:List (List UInt8 × PlaceV)) (g:List UInt8):getG (grams O) g=(O.filter fun o=>decide (o.1=g)).map (·.2):=by
 unfold grams;rw [zj0];rfl
theorem z5b (O:List (List UInt8 × PlaceV)) (g:List UInt8):(getG (grams O) g).length<=O.length:=by
 rw [z7d,List.length_map];exact List.length_filter_le _ _
theorem z2k (O:List (List UInt8 × PlaceV)):((grams O).map (·.1)).Nodup /\ ∀ g,g∈(grams O).map (·.1)↔g∈O.map (·.1):=by
 have:=zfd O [] (by simp)
 exact ⟨this.1,fun g=>by rw [show grams O=O.foldl addP [] from rfl,this.2 g];simp⟩
theorem zp2 (S:List PostP) (g:List UInt8) (l:List PlaceV):(putG S g l).length<=S.length+1:=by
 induction S with
 | nil=>simp [putG]
 | cons p S ih =>
  obtain ⟨k,y⟩:=p
  unfold putG
  split<;>simp<;>omega
theorem zj2 : ∀ (O:List (List UInt8 × PlaceV)) (S:List PostP),(O.foldl addP S).length<=S.length+O.length
 | [],S=>Nat.le_refl _
 | o::O,S=>by
  have h1:=zj2 O (addP S o)
  have h2:=zp2 S o.1 (getG S o.1++[o.2])
  rw [List.foldl_cons,List.length_cons]
  unfold addP at h1 ⊢
  omega
theorem zfe (O:List (List UInt8 × PlaceV)):(grams O).length<=O.length:=by
 have:=zj2 O []
 simpa [grams] using this
theorem z92 {d:Nat} {b:List UInt8} {o:List UInt8 × PlaceV} : ∀ {n:Nat},o∈occD d b n ↔ ∃ k,k<n/\gramAt b k=true/\o=((b.drop k).take 3,⟨d,k⟩)
 | 0=>by simp [occD]
 | n+1=>by
  unfold occD
  rw [List.mem_append,z92 (n:=n)]
  constructor
  · rintro (⟨k,h1,h2,h3⟩|h)
    · exact ⟨k,by omega,h2,h3⟩
    · split at h
      · rename_i c
        exact ⟨n,by omega,c,by simpa using h⟩
      · cases h
  · rintro ⟨k,h1,h2,h3⟩
    by_cases e:k=n
    · subst e;right;rw [if_pos h2,h3];simp
    · exact .inl ⟨k,by omega,h2,h3⟩
theorem z93 {ds:List (List UInt8)} {o:List UInt8 × PlaceV} : ∀ {n:Nat},o∈occs ds n ↔ ∃ d k:Nat,d<n/\k<(ds.getD d []).length/\gramAt (ds.getD d []) k=true/\o=(((ds.getD d []).drop k).take 3,⟨d,k⟩)
 | 0=>by simp [occs]
 | n+1=>by
  unfold occs
  rw [List.mem_append,z93 (n:=n),z92]
  constructor
  · rintro (⟨d,k,h1,h2,h3,h4⟩ | ⟨k,h1,h2,h3⟩)
    · exact ⟨d,k,by omega,h2,h3,h4⟩
    · exact ⟨n,k,by omega,h1,h2,h3⟩
  · rintro ⟨d,k,h1,h2,h3,h4⟩
    by_cases e:d=n
    · subst e;exact .inr ⟨k,h2,h3,h4⟩
    · exact .inl ⟨d,k,by omega,h2,h3,h4⟩
theorem zff {ds:List (List UInt8)} {n:Nat} {o:List UInt8 × PlaceV} (h:o∈occs ds n):o.1.length=3:=by
 obtain ⟨d,k,_,h2,h3,rfl⟩:=z93.1 h
 simp only [gramAt,Bool.and_eq_true,decide_eq_true_eq] at h3
 rw [List.length_take,List.length_drop]
 omega
def makeP (ds:List (List UInt8)):List PostP:=(((grams (occs ds ds.length)).map (·.1)).mergeSort leB).map fun g=>(g,getG (grams (occs ds ds.length)) g)
end Go.Proofs.YtohpeoakdgckfaaGreat
namespace Go.Proofs.YtohpeoakdgckfaaGreat
open Go.RowKit Sx
structure PostV where
 gram:List UInt8
 val:Value
 pl:List PlaceV
 deriving Inhabited
def encPo (x:PostV):List Value:=[.string (bs x.gram),x.val]
def unP (x:PostV):PostP:=(x.gram,x.pl)
abbrev Posts (r:Hp) (v:Value) (xs:List PostV):Prop:=Els r 2 encPo v xs /\ ∀ x∈xs,Els r 2 encPl x.val x.pl
theorem Posts.mono {r r':Hp} {v:Value} {xs:List PostV} (h:Posts r v xs) (hr:sub r r'):Posts r' v xs:=⟨h.1.mono hr,fun x hx=>(h.2 x hx).mono hr⟩
theorem zd4 (r:Hp) (a p:PlaceV):Tri Tryz.prog r 149 [.agg (encPl a).toArray,.agg (encPl p).toArray] [] fun w H=>w = .bool (fitsP a p)/\H=[]:=by
 obtain ⟨ad,ap⟩:=a
 obtain ⟨pd,pp⟩:=p
 show Tri Tryz.prog r 149 [.agg [.int .i64 ad,.int .i64 ap].toArray,.agg [.int .i64 pd,.int .i64 pp].toArray] [] _
 refine Tri.free2 fun R HR=>?_
 have hf:fitsP ⟨ad,ap⟩ ⟨pd,pp⟩=(decide (0<=pd) && decide (pd<4000) && decide (0<=pp) && decide (pp<=1048576) && (decide (ad<pd) || decide (pd=ad) && decide (ap<pp))):=rfl
 rw [hf] at HR
 clear hf
 by_cases h1:0<=pd
 · by_cases h2:pd<4000
   · by_cases h3:0<=pp
     · by_cases h4:pp<=1048576
       · by_cases h5:ad<pd
         · rw [decide_eq_true h1,decide_eq_true h2,decide_eq_true h3,decide_eq_true h4,decide_eq_true h5] at HR
           refine ae Tryz.func149 Tryz.ntmps149 ?_
           repeat' (first|refine aw0m ?_|(refine ap2 ?_ ?_<;>try intro h)|refine aw1m ?_|(refine abx ?_;intro bb)|(refine abz ?_;intro bz)|(refine ahv ?_;intro v' hv')|(refine aac ?_;intro ac cc)|refine aw2 ?_|(refine ap4 ?_ ?_<;>try intro h)|apply True.intro)
           ((with_reducible apply z00);exact res_1 rfl rfl)
           exact HR.out _ _ _ [] Takes.all ⟨rfl,rfl⟩
         · by_cases h6:pd=ad
           · rw [decide_eq_true h1,decide_eq_true h2,decide_eq_true h3,decide_eq_true h4,decide_eq_false h5,decide_eq_true h6] at HR
             refine ae Tryz.func149 Tryz.ntmps149 ?_
             repeat' (first|refine aw0m ?_|(refine ap2 ?_ ?_<;>try intro h)|refine aw1m ?_|(refine abx ?_;intro bb)|(refine abz ?_;intro bz)|(refine ahv ?_;intro v' hv')|(refine aac ?_;intro ac cc)|refine aw2 ?_|(refine ap4 ?_ ?_<;>try intro h)|apply True.intro)
             ((with_reducible apply z00);exact res_1 rfl rfl)
             exact HR.out _ _ _ [] Takes.all ⟨rfl,rfl⟩
           · rw [decide_eq_true h1,decide_eq_true h2,decide_eq_true h3,decide_eq_true h4,decide_eq_false h5,decide_eq_false h6] at HR
             refine ae Tryz.func149 Tryz.ntmps149 ?_
             repeat' (first|refine aw0m ?_|(refine ap2 ?_ ?_<;>try intro h)|refine aw1m ?_|(refine abx ?_;intro bb)|(refine abz ?_;intro bz)|(refine ahv ?_;intro v' hv')|(refine aac ?_;intro ac cc)|refine aw2 ?_|(refine ap4 ?_ ?_<;>try intro h)|apply True.intro)
             ((with_reducible apply z00);exact res_1 rfl rfl)
             exact HR.out _ _ _ [] Takes.all ⟨rfl,rfl⟩
       · rw [decide_eq_true h1,decide_eq_true h2,decide_eq_true h3,decide_eq_false h4] at HR
         refine ae Tryz.func149 Tryz.ntmps149 ?_
         repeat' (first|refine aw0m ?_|(refine ap2 ?_ ?_<;>try intro h)|refine aw1m ?_|(refine abx ?_;intro bb)|(refine abz ?_;intro bz)|(refine ahv ?_;intro v' hv')|(refine aac ?_;intro ac cc)|refine aw2 ?_|(refine ap4 ?_ ?_<;>try intro h)|apply True.intro)
         ((with_reducible apply z00);exact res_1 rfl rfl)
         exact HR.out _ _ _ [] Takes.all ⟨rfl,rfl⟩
     · rw [decide_eq_true h1,decide_eq_true h2,decide_eq_false h3] at HR
       refine ae Tryz.func149 Tryz.ntmps149 ?_
       repeat' (first|refine aw0m ?_|(refine ap2 ?_ ?_<;>try intro h)|refine aw1m ?_|(refine abx ?_;intro bb)|(refine abz ?_;intro bz)|(refine ahv ?_;intro v' hv')|(refine aac ?_;intro ac cc)|refine aw2 ?_|(refine ap4 ?_ ?_<;>try intro h)|apply True.intro)
       ((with_reducible apply z00);exact res_1 rfl rfl)
       exact HR.out _ _ _ [] Takes.all ⟨rfl,rfl⟩
   · rw [decide_eq_true h1,decide_eq_false h2] at HR
     refine ae Tryz.func149 Tryz.ntmps149 ?_
     repeat' (first|refine aw0m ?_|(refine ap2 ?_ ?_<;>try intro h)|refine aw1m ?_|(refine abx ?_;intro bb)|(refine abz ?_;intro bz)|(refine ahv ?_;intro v' hv')|(refine aac ?_;intro ac cc)|refine aw2 ?_|(refine ap4 ?_ ?_<;>try intro h)|apply True.intro)
     ((with_reducible apply z00);exact res_1 rfl rfl)
     exact HR.out _ _ _ [] Takes.all ⟨rfl,rfl⟩
 · rw [decide_eq_false h1] at HR
   refine ae Tryz.func149 Tryz.ntmps149 ?_
   repeat' (first|refine aw0m ?_|(refine ap2 ?_ ?_<;>try intro h)|refine aw1m ?_|(refine abx ?_;intro bb)|(refine abz ?_;intro bz)|(refine ahv ?_;intro v' hv')|(refine aac ?_;intro ac cc)|refine aw2 ?_|(refine ap4 ?_ ?_<;>try intro h)|apply True.intro)
   ((with_reducible apply z00);exact res_1 rfl rfl)
   exact HR.out _ _ _ [] Takes.all ⟨rfl,rfl⟩
theorem z2t {α:Type} [Inhabited α] {l:List α} {k:Nat} (h:k<l.length):l.drop k=l.getD k default::l.drop (k+1):=by
 rw [List.drop_eq_getElem_cons h,List.getD_eq_getElem?_getD,List.getElem?_eq_getElem h];rfl
theorem z0g {α:Type} [Inhabited α] {l:List α} {k:Nat} (h:k<l.length):l.getD k default∈l:=by
 rw [List.getD_eq_getElem?_getD,List.getElem?_eq_getElem h];exact List.getElem_mem h
theorem z3s (r:Hp) (v:Value) (xs:List PostV) (hv:Posts r v xs):Tri Tryz.prog r 87 [v] [] fun w H=>w = .bool (postsOk [] (xs.map unP))/\H=[]:=by
 refine Tri.free2 fun R HR=>?_
 have hve:=hv.1
 have hvn:xs.length<=maxLen:=hve.2.2.1
 unfold maxLen at hvn
 refine ae Tryz.func87 Tryz.ntmps87 ?_
 repeat' (first|refine aw0m ?_|(refine ap2 ?_ ?_<;>try intro h)|refine aw1m ?_|(refine abx ?_;intro bb)|(refine abz ?_;intro bz)|(refine ahv ?_;intro v' hv')|(refine aac ?_;intro ac cc)|refine aw2 ?_|(refine ap4 ?_ ?_<;>try intro h)|apply True.intro)
 refine z04 (fun gm t H' => ∃ (k:Nat) (last:List UInt8),gm=xs.length+1 - k/\(k<=xs.length)/\(postsOk [] (xs.map unP)=postsOk last ((xs.drop k).map unP))/\(∃ G,Takes [] H' G)/\Sls t 52 [(3,.string (bs last)),(9,v),(10,.int .i64 xs.length),(11,.int .i64 k)]) _ ⟨0,[],rfl,Nat.zero_le _,rfl,⟨_,by (exact atks)⟩,asls⟩ ?_
 rintro gm t H' ⟨k,last,rfl,hk,hs,⟨G,hp⟩,hs'⟩
 revert t;refine z06 ?_;iterate 48 intro uu'
 refine z01 hp ?_;clear hp
 by_cases hlt:k<xs.length
 · rw [z2t hlt,List.map_cons,postsOk] at hs
   have hx:=hv.2 _ (z0g hlt)
   have hpo:postOk (unP (xs.getD k default))=(decide ((xs.getD k default).gram.length=3) && !(xs.getD k default).pl.isEmpty && chainP ⟨-1,0⟩ (xs.getD k default).pl):=rfl
   by_cases c1:(xs.getD k default).gram.length=3
   · by_cases c3:Op.bytesLess (xs.getD k default).gram last=true\/(xs.getD k default).gram=last
     · have c2:¬ last=[]:=by
        rintro rfl
        rcases c3 with c|c
        · cases hg:(xs.getD k default).gram<;>rw [hg] at c<;>cases c
        · rw [c] at c1;cases c1
       have hs2:postsOk [] (xs.map unP)=false:=by
        rw [hs,show (unP (xs.getD k default)).1=(xs.getD k default).gram from rfl]
        rcases c3 with c|c
        · rw [c];simp
        · rw [decide_eq_true c];simp
       rw [hs2] at HR
       repeat' (first|refine aw0m ?_|(refine ap2 ?_ ?_<;>try intro h)|(exfalso;first|contradiction|exact h.2 (c3.resolve_left (by rw [h.1];simp)))|refine aw1m ?_|(refine abx ?_;intro bb)|(refine abz ?_;intro bz)|(refine ahv ?_;intro v' hv')|(refine aac ?_;intro ac cc)|refine aw2 ?_|(refine ap4 ?_ ?_<;>try intro h)|apply True.intro)
       ((with_reducible apply z00);exact res_1 rfl rfl);exact HR.out _ _ _ [] Takes.all ⟨rfl,rfl⟩
     · have hn:(Op.bytesLess (unP (xs.getD k default)).1 last || decide ((unP (xs.getD k default)).1=last))=false:=by
        rw [show (unP (xs.getD k default)).1=(xs.getD k default).gram from rfl]
        cases h1:Op.bytesLess (xs.getD k default).gram last
        · rw [decide_eq_false (fun e=>c3 (.inr e))];rfl
        · exact absurd (.inl h1) c3
       rw [hn] at hs
       by_cases c4:(xs.getD k default).pl.length=0
       · have hs2:postsOk [] (xs.map unP)=false:=by
          rw [hs,hpo,List.length_eq_zero_iff.1 c4];simp
         rw [hs2] at HR
         repeat' (first|refine aw0m ?_|(refine ap2 ?_ ?_<;>try intro h)|(exfalso;contradiction)|refine aw1m ?_|(refine abx ?_;intro bb)|(refine abz ?_;intro bz)|(refine ahv ?_;intro v' hv')|(refine aac ?_;intro ac cc)|refine aw2 ?_|(refine ap4 ?_ ?_<;>try intro h)|apply True.intro)
         ((with_reducible apply z00);exact res_1 rfl rfl);exact HR.out _ _ _ [] Takes.all ⟨rfl,rfl⟩
       · have he:(xs.getD k default).pl.isEmpty=false:=by
          cases hp:(xs.getD k default).pl with
          | nil=>rw [hp] at c4;exact absurd rfl c4
          | cons=>rfl
         rw [hpo,decide_eq_true c1,he] at hs
         repeat' (first|refine aw0m ?_|(refine ap2 ?_ ?_<;>try intro h)|(exfalso;contradiction)|refine aw1m ?_|(refine abx ?_;intro bb)|(refine abz ?_;intro bz)|(refine ahv ?_;intro v' hv')|(refine aac ?_;intro ac cc)|refine aw2 ?_|(refine ap4 ?_ ?_<;>try intro h)|apply True.intro)
         have hg0:(unP (xs.getD k default)).1=(xs.getD k default).gram:=rfl
         rw [hg0] at hs
         have hxn:(xs.getD k default).pl.length<=maxLen:=hx.2.2.1
         unfold maxLen at hxn
         generalize xs.getD k default=x at hs hx hxn ⊢
         simp only [Bool.not_false,Bool.true_and,Bool.and_true] at hs
         refine z04 (fun gm t H' => ∃ (i b6:Nat) (a:PlaceV),gm=x.pl.length+1 - i/\(i<=x.pl.length)/\(chainP ⟨-1,0⟩ x.pl=chainP a (x.pl.drop i))/\(∃ G,Takes [pt b6 (.cells (encPl a).toArray 149 (0,0))] H' G)/\Sls t 52 [(3,.string (bs x.gram)),(6,.pointer (some ⟨b6,0,none⟩)),(9,v),(10,.int .i64 xs.length),(11,.int .i64 k),(39,x.val),(40,.int .i64 x.pl.length),(41,.int .i64 i)]) _ ⟨0,_,⟨-1,0⟩,rfl,Nat.zero_le _,rfl,⟨_,by (exact atks)⟩,asls⟩ ?_
         rintro gm t H' ⟨i,b6,a,rfl,hi,hc,⟨G,hp⟩,hs'⟩
         revert t;refine z06 ?_;iterate 44 intro uu'
         refine z01 hp ?_;clear hp
         by_cases hlt1:i<x.pl.length
         · rw [z2t hlt1,chainP] at hc
           have hff:=fun r'=>zd4 r' a (x.pl.getD i default)
           cases hfp:fitsP a (x.pl.getD i default)
           · rw [hfp] at hc hff
             rw [hc] at hs
             rw [hs] at HR
             repeat' (first|refine aw0m ?_|(refine ap2 ?_ ?_<;>try intro h)|(refine acl Tryz.func149 ?_;refine acr (hff _) ?_;rintro v' H' ⟨rfl,rfl⟩;refine apl ?_)|(exfalso;contradiction)|refine aw1m ?_|(refine abx ?_;intro bb)|(refine abz ?_;intro bz)|(refine ahv ?_;intro v' hv')|(refine aac ?_;intro ac cc)|refine aw2 ?_|(refine ap4 ?_ ?_<;>try intro h)|apply True.intro)
             ((with_reducible apply z00);exact res_1 rfl rfl);exact HR.out _ _ _ [] Takes.all ⟨rfl,rfl⟩
           · rw [hfp,Bool.true_and] at hc
             rw [hfp] at hff
             repeat' (first|refine aw0m ?_|(refine ap2 ?_ ?_<;>try intro h)|(refine acl Tryz.func149 ?_;refine acr (hff _) ?_;rintro v' H' ⟨rfl,rfl⟩;refine apl ?_)|(exfalso;contradiction)|refine aw1m ?_|(refine abx ?_;intro bb)|(refine abz ?_;intro bz)|(refine ahv ?_;intro v' hv')|(refine aac ?_;intro ac cc)|refine aw2 ?_|(refine ap4 ?_ ?_<;>try intro h)|apply True.intro)
             exact ⟨_,by omega,i+1,b6,x.pl.getD i default,rfl,by omega,hc,⟨_,by (exact atks)⟩,asls⟩
         · obtain rfl:i=x.pl.length:=by omega
           rw [List.drop_length,chainP] at hc
           rw [hc] at hs
           repeat' (first|refine aw0m ?_|(refine ap2 ?_ ?_<;>try intro h)|refine aw1m ?_|(refine abx ?_;intro bb)|(refine abz ?_;intro bz)|(refine ahv ?_;intro v' hv')|(refine aac ?_;intro ac cc)|refine aw2 ?_|(refine ap4 ?_ ?_<;>try intro h)|apply True.intro)
           exact ⟨_,by omega,k+1,x.gram,rfl,by omega,by rw [hs];rfl,⟨_,by (exact atks)⟩,asls⟩
   · have hs2:postsOk [] (xs.map unP)=false:=by
      rw [hs,hpo,decide_eq_false c1];simp
     rw [hs2] at HR
     repeat' (first|refine aw0m ?_|(refine ap2 ?_ ?_<;>try intro h)|(exfalso;contradiction)|refine aw1m ?_|(refine abx ?_;intro bb)|(refine abz ?_;intro bz)|(refine ahv ?_;intro v' hv')|(refine aac ?_;intro ac cc)|refine aw2 ?_|(refine ap4 ?_ ?_<;>try intro h)|apply True.intro)
     ((with_reducible apply z00);exact res_1 rfl rfl);exact HR.out _ _ _ [] Takes.all ⟨rfl,rfl⟩
 · obtain rfl:k=xs.length:=by omega
   rw [List.drop_length,List.map_nil,postsOk] at hs
   repeat' (first|refine aw0m ?_|(refine ap2 ?_ ?_<;>try intro h)|refine aw1m ?_|(refine abx ?_;intro bb)|(refine abz ?_;intro bz)|(refine ahv ?_;intro v' hv')|(refine aac ?_;intro ac cc)|refine aw2 ?_|(refine ap4 ?_ ?_<;>try intro h)|apply True.intro)
   ((with_reducible apply z00);exact res_1 rfl rfl)
   exact HR.out _ _ _ [] Takes.all ⟨by rw [hs],rfl⟩
end Go.Proofs.YtohpeoakdgckfaaGreat
