/- What is known of a tree is small: FitI of each tree of few nodes, FitB of two of them. (Behind XOr: sizes; no program.) -/
import Derived.Test.YteknekiclhnkiaaGreatDoorOr
import Derived.Test.YteknekiclhnkiaaGreatDoorPe
namespace Go.Proofs.YteknekiclhnkiaaGreatDoor
def Few (n k:Nat) (l:List Tx):Prop:=l.length<=n /\ ∀ x∈l,x.length<=k
theorem sizeT_few {k:Nat} : ∀ {l:List Tx},(∀ x∈l,x.length<=k)->sizeT l<=l.length*(k+1)
 | [],_=>by simp [sizeT]
 | x::l,h=>by
  have h1:=sizeT_few (l:=l) fun y hy=>h y (List.mem_cons_of_mem _ hy)
  have h2:=h x List.mem_cons_self
  simp only [sizeT,List.length_cons,Nat.add_mul]
  omega
theorem Few.size {n k:Nat} {l:List Tx} (h:Few n k l):sizeT l<=n*(k+1):=Nat.le_trans (sizeT_few h.2) (Nat.mul_le_mul_right _ h.1)
theorem Few.row {n k:Nat} {l:List Tx} (h:Few n k l):Few n k (rowT l):=⟨Nat.le_trans (row_len l) h.1,fun x hx=>h.2 x (mem_row.1 hx)⟩
theorem Few.mono {n k n' k':Nat} {l:List Tx} (h:Few n k l) (hn:n<=n') (hk:k<=k'):Few n' k' l:=⟨Nat.le_trans h.1 hn,fun x hx=>Nat.le_trans (h.2 x hx) hk⟩
theorem few_nil (n k:Nat):Few n k []:=⟨Nat.zero_le _,fun _ h=>by cases h⟩
theorem few_one (n k:Nat) (h:1<=n):Few n k [[]]:=⟨h,fun x hx=>by rw [List.mem_singleton.1 hx];exact Nat.zero_le _⟩
theorem Few.app {n k m:Nat} {a b:List Tx} (h:Few n k a) (g:Few m k b):Few (n+m) k (a++b):=⟨by rw [List.length_append];exact Nat.add_le_add h.1 g.1,fun x hx=>by
 rcases List.mem_append.1 hx with hx|hx
 · exact h.2 x hx
 · exact g.2 x hx⟩
theorem Few.cross {n k m l:Nat} {a b:List Tx} (h:Few n k a) (g:Few m l b):Few (n*m) (k+l) (crossT a b):=by
 refine Few.row ⟨by rw [pairs_len];exact Nat.mul_le_mul h.1 g.1,fun x hx=>?_⟩
 obtain ⟨y,hy,hx⟩:=List.mem_flatMap.1 hx
 obtain ⟨z,hz,rfl⟩:=List.mem_map.1 hx
 rw [List.length_append]
 exact Nat.add_le_add (h.2 y hy) (g.2 z hz)
structure SmallI (n k:Nat) (i:InfK):Prop where
 ex:Few n k i.ex
 pre:Few n k i.pre
 suf:Few n k i.suf
theorem few_small {l:List Tx} (h:smallK l=true):Few 8 40 l:=by
 unfold smallK at h
 rw [Bool.and_eq_true,decide_eq_true_eq,List.all_eq_true] at h
 exact ⟨h.1,fun x hx=>of_decide_eq_true (h.2 x hx)⟩
theorem few_fixed {cut:Nat->Tx->Tx} (hc : ∀ n x,(cut n x).length<=n) (l:List Tx):Few 8 40 (fixedK cut l):=by
 have h2 : ∀ x∈rowT (l.map (cut 2)),x.length<=40:=fun x hx=>by
  obtain ⟨y,_,rfl⟩:=List.mem_map.1 (mem_row.1 hx)
  have:=hc 2 y;omega
 have h1 : ∀ x∈rowT ((rowT (l.map (cut 2))).map (cut 1)),x.length<=40:=fun x hx=>by
  obtain ⟨y,_,rfl⟩:=List.mem_map.1 (mem_row.1 hx)
  have:=hc 1 y;omega
 have key : ∀ k:List Tx,(∀ x∈k,x.length<=40)->Few 8 40 (if 8<k.length\/[]∈k then [[]] else k):=fun k hk=>by
  split
  · exact few_one 8 40 (by omega)
  · exact ⟨by omega,hk⟩
 exact key (if 8<(rowT (l.map (cut 2))).length then rowT ((rowT (l.map (cut 2))).map (cut 1)) else rowT (l.map (cut 2))) (by split;exact h1;exact h2)
theorem front_len (n:Nat) (x:Tx):(frontT n x).length<=n:=by unfold frontT;rw [List.length_take];omega
theorem back_len (n:Nat) (x:Tx):(backT n x).length<=n:=by unfold backT;rw [List.length_drop];omega
theorem settled_small (i:InfK):SmallI 8 40 (settledK i):=by
 unfold settledK
 split
 · rename_i h
   exact ⟨few_small h.2,few_nil _ _,few_nil _ _⟩
 · exact ⟨few_nil _ _,few_fixed front_len _,few_fixed back_len _⟩
theorem exact_small {l:List Tx} (h:Few 8 40 l):SmallI 8 40 (exactI l):=⟨h.row,few_nil _ _,few_nil _ _⟩
theorem open_small:SmallI 8 40 openI:=⟨few_nil _ _,few_one _ _ (by omega),few_one _ _ (by omega)⟩
theorem set_small (set:List Nat):SmallI 8 40 (setI set):=by
 unfold setI
 split
 · exact open_small
 · refine exact_small ⟨by omega,fun x hx=>?_⟩
   obtain ⟨b,_,rfl⟩:=List.mem_map.1 hx
   simp
theorem size_loose {n k:Nat} {i:InfK} (h:SmallI n k i):sizeQ (looseK i).m<=sizeQ i.m+2+4*(n*(k+1))/\SmallI n k (looseK i)/\(looseK i).known=false:=by
 cases hk:i.known
 · rw [loose_unk hk]
   exact ⟨by dsimp only;omega,⟨few_nil _ _,h.pre.row,h.suf.row⟩,rfl⟩
 · rw [loose_kn hk]
   have h1:=size_andQ [i.m,gramsRow i.ex]
   have h2:=size_gramsRow i.ex
   have h3:=h.ex.size
   simp only [sizeQs] at h1
   exact ⟨by dsimp only;omega,⟨few_nil _ _,h.ex.row,h.ex.row⟩,rfl⟩
theorem size_settled {n k:Nat} {i:InfK} (h:SmallI n k i):sizeQ (settledK i).m<=sizeQ i.m+5+12*(n*(k+1)):=by
 unfold settledK
 split
 · dsimp only;omega
 · unfold openK
   obtain ⟨h1,h2,h3⟩:=size_loose (i:=⟨i.known,rowT i.ex,i.pre,i.suf,i.m⟩) ⟨h.ex.row,h.pre,h.suf⟩
   have h4:sizeQ (closedK (looseK ⟨i.known,rowT i.ex,i.pre,i.suf,i.m⟩))<=sizeQ (looseK ⟨i.known,rowT i.ex,i.pre,i.suf,i.m⟩).m+3+8*(n*(k+1)):=by
    generalize looseK ⟨i.known,rowT i.ex,i.pre,i.suf,i.m⟩=j at h2 h3 ⊢
    unfold closedK
    rw [loose_unk h3]
    dsimp only
    have e1:=size_andQ [j.m,gramsRow (rowT j.pre),gramsRow (rowT j.suf)]
    have e2:=size_gramsRow (rowT j.pre)
    have e3:=size_gramsRow (rowT j.suf)
    have e4:=h2.pre.row.size
    have e5:=h2.suf.row.size
    simp only [sizeQs] at e1
    omega
   dsimp only at h1 ⊢
   omega
theorem outI_small {a b:InfK} (ha:SmallI 8 40 a) (hb:SmallI 8 40 b):SmallI 64 80 (outI a b)/\sizeQ (outI a b).m<=sizeQ a.m+sizeQ b.m+20740:=by
 have hf:Few 64 80 (frontK a b):=by
  unfold frontK
  split
  · split
    · exact ha.ex.cross hb.ex
    · exact ha.ex.cross hb.pre
  · exact ha.pre.row.mono (by omega) (by omega)
 have hk:Few 64 80 (backK b a):=by
  unfold backK
  split
  · exact ha.suf.cross hb.ex
  · exact hb.suf.row.mono (by omega) (by omega)
 have hm:sizeQ (andQ [a.m,b.m,betweenK a b])<=sizeQ a.m+sizeQ b.m+20740:=by
  have h1:=size_andQ [a.m,b.m,betweenK a b]
  have h2:sizeQ (betweenK a b)<=1+4*(64*81):=by
   unfold betweenK
   split
   · have e1:=size_gramsRow (crossT a.suf b.pre)
     have e2:=(ha.suf.cross hb.pre).size
     omega
   · simp [allQ,sizeQ,sizeT,sizeQs]
  simp only [sizeQs] at h1
  omega
 unfold outI
 split
 · exact ⟨⟨hf,few_nil _ _,few_nil _ _⟩,hm⟩
 · exact ⟨⟨few_nil _ _,hf,hk⟩,hm⟩
theorem size_behind {a b:InfK} (ha:SmallI 8 40 a) (hb:SmallI 8 40 b):sizeQ (behindI a b).m<=sizeQ a.m+sizeQ b.m+84000:=by
 rw [behind_out]
 obtain ⟨h1,h2⟩:=outI_small ha hb
 have:=size_settled h1
 omega
theorem behind_small (a b:InfK):SmallI 8 40 (behindI a b):=by rw [behind_out];exact settled_small _
theorem or_small (a b:InfK):SmallI 8 40 (orI a b):=by unfold orI;split<;>exact settled_small _
theorem size_orI {a b:InfK} (ha:SmallI 8 40 a) (hb:SmallI 8 40 b):sizeQ (orI a b).m<=sizeQ a.m+sizeQ b.m+84000:=by
 obtain ⟨la,sa,_⟩:=size_loose ha
 obtain ⟨lb,sb,_⟩:=size_loose hb
 unfold orI
 split
 · have h1:=size_settled (n:=16) (k:=40) (i:=⟨true,a.ex++b.ex,[],[],orQ [a.m,b.m]⟩) ⟨ha.ex.app hb.ex,few_nil _ _,few_nil _ _⟩
   have h2:=size_orQ [a.m,b.m]
   simp only [sizeQs] at h2
   dsimp only at h1
   omega
 · have h1:=size_settled (n:=16) (k:=40) (i:=⟨false,[],(looseK a).pre++(looseK b).pre,(looseK a).suf++(looseK b).suf,orQ [(looseK a).m,(looseK b).m]⟩) ⟨few_nil _ _,sa.pre.app sb.pre,sa.suf.app sb.suf⟩
   have h2:=size_orQ [(looseK a).m,(looseK b).m]
   simp only [sizeQs] at h2
   dsimp only at h1
   omega
theorem size_all:sizeQ allQ=1:=by simp [allQ,sizeQ,sizeT,sizeQs]
theorem repeat_small {mn mx:Int} {g:InfK} (h:SmallI 8 40 g):SmallI 8 40 (repeatI mn mx g)/\sizeQ (repeatI mn mx g).m<=sizeQ g.m+84001:=by
 have he:SmallI 8 40 (exactI [[]]):=exact_small (few_one _ _ (by omega))
 have hq:sizeQ (exactI [[]]).m=1:=size_all
 have ho:sizeQ openI.m=1:=size_all
 unfold repeatI
 split
 · exact ⟨he,by omega⟩
 · split
   · exact ⟨h,by omega⟩
   · split
     · exact ⟨or_small _ _,by have:=size_orI he h;omega⟩
     · split
       · exact ⟨open_small,by omega⟩
       · obtain ⟨h1,h2,_⟩:=size_loose h
         exact ⟨settled_small _,by have:=size_settled h2;omega⟩
theorem repeat_none (mn mx:Int):sizeQ (repeatI mn mx (exactI [])).m<=100:=by
 have hN:SmallI 0 0 (exactI []):=⟨few_nil _ _,few_nil _ _,few_nil _ _⟩
 have h1:sizeQ (exactI []).m=1:=size_all
 have h2:sizeQ (exactI [[]]).m=1:=size_all
 have h3:sizeQ openI.m=1:=size_all
 unfold repeatI
 split
 · omega
 · split
   · omega
   · split
     · have h4:=size_settled (n:=1) (k:=0) (i:=⟨true,(exactI [[]]).ex++(exactI []).ex,[],[],orQ [(exactI [[]]).m,(exactI []).m]⟩) ⟨few_one _ _ (by omega),few_nil _ _,few_nil _ _⟩
       have h5:=size_orQ [(exactI [[]]).m,(exactI []).m]
       simp only [sizeQs] at h5
       dsimp only at h4
       have e:orI (exactI [[]]) (exactI [])=settledK ⟨true,(exactI [[]]).ex++(exactI []).ex,[],[],orQ [(exactI [[]]).m,(exactI []).m]⟩:=rfl
       rw [e]
       omega
     · split
       · omega
       · obtain ⟨h4,h5,_⟩:=size_loose hN
         have:=size_settled h5
         omega
mutual
def sizN:Nd->Nat
 | .mk _ _ kids _ _ _ _=>1+sizNs kids
def sizNs:List Nd->Nat
 | []=>0
 | n::l=>sizN n+sizNs l
end
theorem sizN_pos (n:Nd):1<=sizN n:=by cases n;unfold sizN;omega
structure OkI (w:Nat) (i:InfK):Prop where
 small:SmallI 8 40 i
 size:sizeQ i.m+84000<=84100*w
def OksI:List Nd->List InfK->Prop
 | [],[]=>True
 | n::l,i::k=>OkI (sizN n) i/\OksI l k
 | _,_=>False
theorem ok_fold {f:InfK->InfK->InfK} (hs : ∀ a b,SmallI 8 40 (f a b)) (hf : ∀ a b,SmallI 8 40 a->SmallI 8 40 b->sizeQ (f a b).m<=sizeQ a.m+sizeQ b.m+84000) : ∀ {l:List Nd} {k:List InfK} {w:Nat} {i:InfK},OkI w i->OksI l k->OkI (w+sizNs l) (k.foldl f i)
 | [],[],w,i,h,_=>by unfold sizNs;exact h
 | [],_::_,_,_,_,g=>g.elim
 | _::_,[],_,_,_,g=>g.elim
 | n::l,j::k,w,i,h,g=>by
  have h1:=hf i j h.small g.1.small
  have h2:=h.size
  have h3:=g.1.size
  have:=ok_fold hs hf (l:=l) (k:=k) (w:=w+sizN n) (i:=f i j) ⟨hs i j,by omega⟩ g.2
  unfold sizNs
  rw [← Nat.add_assoc]
  exact this
theorem ok_join {f:InfK->InfK->InfK} (hs : ∀ a b,SmallI 8 40 (f a b)) (hf : ∀ a b,SmallI 8 40 a->SmallI 8 40 b->sizeQ (f a b).m<=sizeQ a.m+sizeQ b.m+84000) {o:InfK} (ho:OkI 1 o) {l:List Nd} {k:List InfK} (g:OksI l k):OkI (1+sizNs l) (joinI o f k):=by
 match l,k,g with
 | [],[],_=>exact ho
 | n::l,j::k,g =>
  have h:=ok_fold hs hf g.1 g.2
  exact ⟨h.small,by have:=h.size;show sizeQ (k.foldl f j).m+_<=_;unfold sizNs;omega⟩
theorem ok_exact {l:List Tx} (h:Few 8 40 l):OkI 1 (exactI l):=⟨exact_small h,by have:sizeQ (exactI l).m=1:=size_all;omega⟩
theorem ok_head {l:List Nd} {k:List InfK} (g:OksI l k):SmallI 8 40 (k.headD (exactI []))/\sizeQ (k.headD (exactI [])).m<=1+84100*sizNs l/\(l≠[]->sizeQ (k.headD (exactI [])).m+84000<=84100*sizNs l):=by
 match l,k,g with
 | [],[],_=>exact ⟨(ok_exact (few_nil _ _)).small,by show sizeQ allQ<=_;rw [size_all];omega,fun h=>absurd rfl h⟩
 | n::l,j::k,g =>
  have h:=g.1.size
  refine ⟨g.1.small,?_,fun _=>?_⟩
  · show sizeQ j.m<=_
    unfold sizNs
    omega
  · show sizeQ j.m+_<=_
    unfold sizNs
    omega
mutual
theorem of_okI : ∀ n:Nd,OkI (sizN n) (ofI n)
 | .mk k set kids mn mx lz gr=>by
  have g:=ofs_okI kids
  have one : ∀ {i:InfK},OkI 1 i->OkI (1+sizNs kids) i:=fun h=>⟨h.small,by have:=h.size;omega⟩
  have hE:OkI 1 (exactI [[]]):=ok_exact (few_one _ _ (by omega))
  have hN:OkI 1 (exactI []):=ok_exact (few_nil _ _)
  unfold ofI sizN
  split
  · exact one hE
  · split
    · refine one ⟨set_small set,?_⟩
      have:sizeQ (setI set).m=1:=by unfold setI;split<;>exact size_all
      omega
    · split
      · exact ok_join behind_small (fun _ _=>size_behind) hE g
      · split
        · exact ok_join or_small (fun _ _=>size_orI) hN g
        · obtain ⟨h1,h2,h3⟩:=ok_head g
          split
          · obtain ⟨h4,h5⟩:=repeat_small (mn:=mn) (mx:=mx) h1
            refine ⟨h4,?_⟩
            by_cases hk:kids=[]
            · subst hk
              have e:=repeat_none mn mx
              show sizeQ (repeatI mn mx (exactI [])).m+_<=_
              unfold sizNs
              omega
            · have:=h3 hk
              omega
          · split
            · refine ⟨h1,?_⟩
              by_cases hk:kids=[]
              · subst hk
                show sizeQ allQ+_<=_
                rw [size_all];omega
              · have:=h3 hk
                omega
            · exact one hN
theorem ofs_okI : ∀ l:List Nd,OksI l (ofIs l)
 | []=>by unfold ofIs;trivial
 | n::l=>by unfold ofIs;exact ⟨of_okI n,ofs_okI l⟩
end
theorem fit_ok {w:Nat} {i:InfK} (h:OkI w i) (hw:w<=60) (hr:rightQ i.m=true):FitI i:=by
 have h1:=h.small.ex.size
 have h2:=h.small.pre.size
 have h3:=h.small.suf.size
 have h4:=h.size
 exact ⟨by omega,by omega,by omega,by omega,hr⟩
theorem fitB_ok {w v:Nat} {a b:InfK} (ha:OkI w a) (hb:OkI v b) (hw:w+v<=60) (ra:rightQ a.m=true) (rb:rightQ b.m=true):FitB a b:=by
 obtain ⟨h1,h2⟩:=outI_small ha.small hb.small
 have e1:=h1.ex.size
 have e2:=h1.pre.size
 have e3:=h1.suf.size
 have e4:=ha.size
 have e5:=hb.size
 have e6:=(ha.small.suf.cross hb.small.pre).size
 have sm : ∀ {i:InfK},SmallI 8 40 i->SmI i:=fun h=>⟨by have:=h.ex.1;omega,by have:=h.pre.1;omega,by have:=h.suf.1;omega⟩
 have hr:rightQ (outI a b).m=true:=by
  have h:=right_andQ (sd_three ra rb (right_between a b))
  unfold outI
  split<;>exact h
 exact ⟨fit_ok ha (by omega) ra,fit_ok hb (by omega) rb,sm ha.small,sm hb.small,⟨by omega,by omega,by omega,by omega,hr⟩,by omega,by omega,by omega⟩
def OksR:List Nd->List InfK->Prop
 | [],[]=>True
 | n::l,i::k=>(OkI (sizN n) i/\rightQ i.m=true)/\OksR l k
 | _,_=>False
theorem foldB {l:List Nd} : ∀ {k:List InfK} {w:Nat} {i:InfK},OkI w i->rightQ i.m=true->OksR l k->w+sizNs l<=60 -> ∀ j,j<k.length->FitB ((k.take j).foldl behindI i) (k.getD j default):=by
 induction l with
 | nil =>
  intro k w i _ _ g _ j hj
  match k,g with
  | [],_=>simp at hj
 | cons n l ih =>
  intro k w i h hr g hw j hj
  match k,g with
  | x::k,g =>
   unfold sizNs at hw
   have hb:=fitB_ok h g.1.1 (by omega) hr g.1.2
   match j,hj with
   | 0,_=>exact hb
   | j+1,hj =>
    have h1:=size_behind h.small g.1.1.small
    have h2:=h.size
    have h3:=g.1.1.size
    exact ih (k:=k) (w:=w+sizN n) (i:=behindI i x) ⟨behind_small _ _,by omega⟩ (right_behind hr g.1.2) g.2 (by omega) j (by simpa using hj)
theorem ofs_okR (l:List Nd):OksR l (ofIs l):=by
 induction l with
 | nil=>unfold ofIs;trivial
 | cons n l ih=>unfold ofIs;exact ⟨⟨of_okI n,(of_good (fun _ _=>true) [] n).rt⟩,ih⟩
theorem foldB_kids {l:List Nd} (h:sizNs l<=60) (o:InfK) : ∀ j,1<=j->j<(ofIs l).length->FitB (joinI o behindI ((ofIs l).take j)) ((ofIs l).getD j default):=by
 intro j h1 h2
 match l,j,h1,h2 with
 | [],j,_,h2=>unfold ofIs at h2;simp at h2
 | n::l,j+1,_,h2 =>
  unfold ofIs at h2 ⊢
  unfold sizNs at h
  exact foldB (of_okI n) (of_good (fun _ _=>true) [] n).rt (ofs_okR l) h j (by simpa using h2)
theorem of_fit {n:Nd} (h:sizN n<=60):FitI (ofI n):=fit_ok (of_okI n) h (of_good (fun _ _=>true) [] n).rt
end Go.Proofs.YteknekiclhnkiaaGreatDoor
