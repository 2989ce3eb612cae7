/- tree.within's rounds, tree.Size: their contracts. -/
import Derived.Test.YteknekiclhnkiaaGreatDoorYd
import Derived.Test.YteknekiclhnkiaaGreatDoorYt
set_option maxHeartbeats 8000000
set_option maxRecDepth 10000
namespace Go.Proofs.YteknekiclhnkiaaGreatDoor
open Go.RowKit Sx
theorem maxN (a b:Nat):max (a:Int) (b:Int)=((max a b:Nat):Int):=by omega
theorem noR_kids {r:Hp} {k:Int} {s0 s1 s2 s3:Nat} {kv:Value} {l:List NoV} {mn mx:Int} {lz:Bool} {g:Int} (h:NoR r (.mk k s0 s1 s2 s3 kv l mn mx lz g)):Els r 10 encN kv l/\(∀ x∈l,NoR r x)/\one? kv=true:=by
 simp only [NoR,noL_iff] at h
 exact ⟨h.1,h.2.1,h.2.2.2.2.2.2.2⟩
def sizL (l:List NoV):Nat:=sizNs (l.map NoV.key)
theorem sizL_snoc (l:List NoV) (x:NoV):sizL (l++[x])=sizL l+sizN x.key:=by
 unfold sizL
 induction l with
 | nil=>simp [sizNs]
 | cons y l ih=>simp only [List.cons_append,List.map_cons,sizNs] at ih ⊢;omega
theorem sizL_app (l m:List NoV):sizL (l++m)=sizL l+sizL m:=by
 unfold sizL
 induction l with
 | nil=>simp [sizNs]
 | cons y l ih=>simp only [List.cons_append,List.map_cons,sizNs] at ih ⊢;omega
theorem sizL_take (l:List NoV) (i:Nat):sizL (l.take i)<=sizL l:=by
 have:=sizL_app (l.take i) (l.drop i)
 rw [List.take_append_drop] at this
 omega
theorem sizN_mk (k:Int) (s0 s1 s2 s3:Nat) (kv:Value) (l:List NoV) (mn mx:Int) (lz:Bool) (g:Int):sizN (NoV.key (.mk k s0 s1 s2 s3 kv l mn mx lz g))=1+sizL l:=by
 rw [nkeyM];unfold sizN;rfl
def bfsN:Nat->List NoV->Nat->List (NoV × Nat)
 | 0,_,_=>[]
 | f+1,row,d=>if row=[] then [] else row.map (fun x=>(x,d))++bfsN f (row.flatMap NoV.kids) (d+1)
theorem sizL_kids : ∀ l:List NoV,sizL (l.flatMap NoV.kids)+l.length=sizL l
 | []=>rfl
 | x::l=>by
  have ih:=sizL_kids l
  rw [List.flatMap_cons,sizL_app,List.length_cons]
  obtain ⟨k,s0,s1,s2,s3,kv,m,mn,mx,lz,g⟩:=x
  have h1:=sizN_mk k s0 s1 s2 s3 kv m mn mx lz g
  have h2:sizL (NoV.mk k s0 s1 s2 s3 kv m mn mx lz g::l)=sizN (NoV.key (.mk k s0 s1 s2 s3 kv m mn mx lz g))+sizL l:=rfl
  show sizL m+_+_=_
  omega
theorem bfs_len : ∀ (f:Nat) (row:List NoV) (d:Nat),sizL row<=f->(bfsN f row d).length=sizL row
 | 0,row,d,h=>by unfold bfsN;rw [List.length_nil];omega
 | f+1,row,d,h=>by
  unfold bfsN
  by_cases e:row=[]
  · subst e;rfl
  · have h1:=sizL_kids row
    have h2:=List.length_pos_iff.2 e
    rw [if_neg e,List.length_append,List.length_map,bfs_len f _ _ (by omega)]
    omega
theorem bfs_all {p:Nd->Prop} : ∀ (f:Nat) (row:List NoV) (d:Nat),sizL row<=f->(∀ y∈bfsN f row d,p y.1.key) -> ∀ x∈row,AllN p x.key
 | 0,row,d,h=>fun _ x hx=>by
  have:=sizNs_mem (List.mem_map_of_mem (f:=NoV.key) hx)
  have:=sizN_pos x.key
  unfold sizL at h
  omega
 | f+1,row,d,h=>fun hp x hx=>by
  have hne:row≠[]:=List.ne_nil_of_mem hx
  unfold bfsN at hp
  rw [if_neg hne] at hp
  have h1:=sizL_kids row
  have h2:=List.length_pos_iff.2 hne
  have ih:=bfs_all (p:=p) f (row.flatMap NoV.kids) (d+1) (by omega) fun y hy=>hp y (List.mem_append_right _ hy)
  have hpx:=hp (x,d) (List.mem_append_left _ (List.mem_map_of_mem hx))
  have hk : ∀ y∈x.kids,AllN p y.key:=fun y hy=>ih y (List.mem_flatMap.2 ⟨x,hx,hy⟩)
  obtain ⟨k,s0,s1,s2,s3,kv,m,mn,mx,lz,g⟩:=x
  rw [nkeyM] at hpx ⊢
  unfold AllN
  refine ⟨hpx,allNs_iff.2 fun n hn=>?_⟩
  obtain ⟨y,hy,rfl⟩:=List.mem_map.1 hn
  exact hk y hy
theorem bfs_read {r:Hp} : ∀ (f:Nat) (row:List NoV) (d:Nat),(∀ x∈row,NoR r x) -> ∀ y∈bfsN f row d,NoR r y.1
 | 0,row,d=>fun _ y hy=>by cases hy
 | f+1,row,d=>fun hp y hy=>by
  unfold bfsN at hy
  split at hy
  · cases hy
  · rcases List.mem_append.1 hy with h|h
    · obtain ⟨x,hx,rfl⟩:=List.mem_map.1 h
      exact hp x hx
    · refine bfs_read f _ _ (fun z hz=>?_) y h
      obtain ⟨x,hx,hzx⟩:=List.mem_flatMap.1 hz
      obtain ⟨k,s0,s1,s2,s3,kv,m,mn,mx,lz,g⟩:=x
      exact (noR_kids (hp _ hx)).2.1 z hzx
def tellN (y:NoV × Nat):List Value:=[.agg (encN y.1).toArray,.int .i64 (y.2:Nat)]
abbrev NdC (a:Option Addr) (c:Nat) (l:List NoV):Ch:=RowC 28 10 (.slice a l.length c) l.length (l.flatMap encN)
theorem within_any (r:Hp) (k:Int) (s0 s1 s2 s3:Nat) (kv:Value) (mn mx:Int) (lz:Bool) (gr:Int) (_hk1:one? kv=true):Tri Tryz.prog r 23 [.agg [.int .i64 k,.int .u64 s0,.int .u64 s1,.int .u64 s2,.int .u64 s3,kv,.int .i64 mn,.int .i64 mx,.bool lz,.int .i64 gr].toArray] [] fun w H => ∃ B,w = .func (.func 41) #[] #[.pointer (some ⟨B,0,none⟩)]/\H=[pt B (.cells [.int .i64 k,.int .u64 s0,.int .u64 s1,.int .u64 s2,.int .u64 s3,kv,.int .i64 mn,.int .i64 mx,.bool lz,.int .i64 gr].toArray 28 (0,0))]:=by
 refine Tri.free2 fun R HR=>?_
 refine ae Tryz.func23 Tryz.ntmps23 ?_
 repeat' (first|((with_reducible apply kx_box);rfl;(exact qcl);intro b1;(refine apk ?_))|exact xf|refine aw0 ?_|(refine ap2 ?_ ?_<;>try intro h)|refine aw1 ?_|(refine abx ?_;intro bb)|(refine abz ?_;intro bz)|(refine ahv ?_;intro v' hv')|(refine aac ?_;intro ac cc)|refine aw2 ?_|(refine ap4 ?_ ?_<;>try intro h)|apply True.intro)
 ((with_reducible apply fp_ret);exact res_1 rfl rfl)
 exact HR.out _ _ _ [_] atks ⟨b1,rfl,rfl⟩
mutual
def hgtN:Nd->Nat
 | .mk _ _ l _ _ _ _=>1+hgtNs l
def hgtNs:List Nd->Nat
 | []=>0
 | n::l=>max (hgtN n) (hgtNs l)
end
def hgtL (l:List NoV):Nat:=hgtNs (l.map NoV.key)
theorem hgtL_snoc (l:List NoV) (x:NoV):hgtL (l++[x])=max (hgtL l) (hgtN x.key):=by
 unfold hgtL
 induction l with
 | nil=>simp [hgtNs]
 | cons y l ih=>simp only [List.cons_append,List.map_cons,hgtNs] at ih ⊢;omega
theorem hgtL_mem {x:NoV} : ∀ {l:List NoV},x∈l->hgtN x.key<=hgtL l
 | [],h=>by cases h
 | n::l,h=>by
  show _<=max (hgtN n.key) (hgtL l)
  rcases List.mem_cons.1 h with rfl|h
  · omega
  · have:=hgtL_mem h;omega
theorem hgtN_mk (k:Int) (s0 s1 s2 s3:Nat) (kv:Value) (l:List NoV) (mn mx:Int) (lz:Bool) (g:Int):hgtN (NoV.key (.mk k s0 s1 s2 s3 kv l mn mx lz g))=1+hgtL l:=by
 rw [nkeyM];unfold hgtN;rfl
theorem deepH_of (r:Hp) (k:Int) (s0 s1 s2 s3:Nat) (kv:Value) (l:List NoV) (mn mx:Int) (lz:Bool) (gr:Int) (hl:Els r 10 encN kv l) (_hk1:one? kv=true) (m:Nat) (hm:m<=1000) (ih : ∀ x∈l,0<m->Tri Tryz.prog r 5 [.agg (encN x).toArray,.int .i64 (m - 1:Nat)] [] fun w H=>(∃ d:Nat,w = .int .i64 (d:Nat)/\d<=m/\(d<=m - 1->hgtN x.key<=d))/\H=[]):Tri Tryz.prog r 5 [.agg [.int .i64 k,.int .u64 s0,.int .u64 s1,.int .u64 s2,.int .u64 s3,kv,.int .i64 mn,.int .i64 mx,.bool lz,.int .i64 gr].toArray,.int .i64 (m:Nat)] [] fun w H=>(∃ d:Nat,w = .int .i64 (d:Nat)/\d<=m+1/\(d<=m->1+hgtL l<=d))/\H=[]:=by
 have hlm:=maxI hl.2.2.1
 have hmx:=maxN
 refine Tri.free2 fun R HR=>?_
 refine ae Tryz.func5 Tryz.ntmps5 ?_
 repeat' (first|((with_reducible apply kx_box);rfl;(exact qcl);intro b2;(refine apk ?_))|exact xf|refine aw0 ?_|(refine ap2 ?_ ?_<;>try intro h)|refine aw1 ?_|(refine abx ?_;intro bb)|(refine abz ?_;intro bz)|(refine ahv ?_;intro v' hv')|(refine aac ?_;intro ac cc)|refine aw2 ?_|(refine ap4 ?_ ?_<;>try intro h)|apply True.intro)
 refine sw_loop (fun gm t H' => ∃ (i d:Nat),gm=l.length+1 - i/\(i<=l.length)/\(d<=m)/\(d+1<=m->hgtL (l.take i)<=d)/\(∃ G,Takes [pt b2 (.cells [.int .i64 k,.int .u64 s0,.int .u64 s1,.int .u64 s2,.int .u64 s3,kv,.int .i64 mn,.int .i64 mx,.bool lz,.int .i64 gr].toArray 28 (0,0))] H' G)/\Sls t 30 [(1,.int .i64 (m:Nat)),(2,.pointer (some ⟨b2,0,none⟩)),(5,.int .i64 (d:Nat)),(6,.int .i64 (i:Nat))]) _ ⟨0,0,rfl,Nat.zero_le _,Nat.zero_le _,(fun _=>Nat.le_refl _),⟨_,atks⟩,asls⟩ ?_
 rintro gm t H' ⟨i,d,rfl,hi,hd,hdh,⟨G,hp⟩,hs'⟩
 revert t;refine sls_all ?_;iterate 26 intro uu'
 refine sw_takeG hp ?_;clear hp
 by_cases hlt:i<l.length/\0<m
 · obtain ⟨hlt,hm0⟩:=hlt
   obtain ⟨x,hx⟩ : ∃ x,l.getD i default=x:=⟨_,rfl⟩
   have hxm:x∈l:=hx ▸ getD_memU hlt
   have hof:=ih x hxm hm0
   have htk:l.take (i+1)=l.take i++[x]:=by rw [take_getD (d:=default) hlt,hx]
   have hth:=hgtL_snoc (l.take i) x
   rw [← htk] at hth
   rw [show ((m - 1:Nat):Int)=(m:Int) - 1 by omega] at hof
   repeat' (first|(rw [hx])|(rw [hmx])|(refine acl Tryz.func5 ?_;refine acr (hof) ?_;rintro v' H' ⟨⟨e,rfl,he,hee⟩,rfl⟩;refine apl ?_)|exact xf|refine aw0 ?_|(refine ap2 ?_ ?_<;>try intro h)|refine aw1 ?_|(refine abx ?_;intro bb)|(refine abz ?_;intro bz)|(refine ahv ?_;intro v' hv')|(refine aac ?_;intro ac cc)|refine aw2 ?_|(refine ap4 ?_ ?_<;>try intro h)|apply True.intro)
   exact ⟨_,by omega,i+1,max d e,rfl,by omega,by omega,(fun h=>by have h1:=hdh (by omega);have h2:=hee (by omega);omega),⟨_,atks⟩,asls⟩
 · have hfin:d+1<=m->1+hgtL l<=d+1:=fun h=>by
    have h1:=hdh h
    have h2:i=l.length:=by omega
    rw [h2,List.take_length] at h1
    omega
   repeat' (first|exact xf|refine aw0 ?_|(refine ap2 ?_ ?_<;>try intro h)|refine aw1 ?_|(refine abx ?_;intro bb)|(refine abz ?_;intro bz)|(refine ahv ?_;intro v' hv')|(refine aac ?_;intro ac cc)|refine aw2 ?_|(refine ap4 ?_ ?_<;>try intro h)|apply True.intro)
   all_goals
    ((with_reducible apply fp_ret);exact res_1 rfl rfl)
    exact HR.out _ _ _ [] atks ⟨⟨d+1,by first|rfl|(congr 1),by omega,hfin⟩,rfl⟩
theorem deepH_any : ∀ (x:NoV) (m:Nat),m<=1000 -> ∀ r:Hp,NoR r x->Tri Tryz.prog r 5 [.agg (encN x).toArray,.int .i64 (m:Nat)] [] fun w H=>(∃ d:Nat,w = .int .i64 (d:Nat)/\d<=m+1/\(d<=m->hgtN x.key<=d))/\H=[]
 | .mk k s0 s1 s2 s3 kv l mn mx lz g,m=>fun hm r hn=>by
  have ih : ∀ x∈l,∀ m,m<=1000 -> ∀ r:Hp,NoR r x->Tri Tryz.prog r 5 [.agg (encN x).toArray,.int .i64 (m:Nat)] [] fun w H=>(∃ d:Nat,w = .int .i64 (d:Nat)/\d<=m+1/\(d<=m->hgtN x.key<=d))/\H=[]:=fun x _h=>deepH_any x
  obtain ⟨hl,hr,hk1⟩:=noR_kids hn
  rw [hgtN_mk]
  refine deepH_of r k s0 s1 s2 s3 kv l mn mx lz g hl hk1 m hm fun x hx h0=>?_
  have h:=ih x hx (m - 1) (by omega) r (hr x hx)
  rw [show m - 1+1=m by omega] at h
  exact h
termination_by x=>SizeOf.sizeOf x
decreasing_by
 have:=List.sizeOf_lt_of_mem _h
 simp only [NoV.mk.sizeOf_spec]
 omega
def NhT (r:Hp) (x:NoV):Prop := ∀ m:Nat,m<=1000->Tri Tryz.prog r 6 [.agg (encN x).toArray,.int .i64 (m:Nat)] [] fun w H=>(∃ c:Nat,w = .int .i64 (c:Nat)/\c<=m+hgtN x.key+1/\(c<=m->c=sizN x.key))/\H=[]
theorem nodesH_of (r:Hp) (kv:Value) (l:List NoV) (hl:Els r 10 encN kv l) (hz:hgtL l<=1000) (ih : ∀ x∈l,NhT r x) (m:Nat) (hm:m<=1000):Tri Tryz.prog r 22 [kv,.int .i64 (m:Nat)] [] fun w H=>(∃ c:Nat,w = .int .i64 (c:Nat)/\c<=m+hgtL l+1/\(c<=m->c=sizL l))/\H=[]:=by
 have hlm:=maxI hl.2.2.1
 refine Tri.free2 fun R HR=>?_
 refine ae Tryz.func22 Tryz.ntmps22 ?_
 repeat' (first|exact xf|refine aw0 ?_|(refine ap2 ?_ ?_<;>try intro h)|refine aw1 ?_|(refine abx ?_;intro bb)|(refine abz ?_;intro bz)|(refine ahv ?_;intro v' hv')|(refine aac ?_;intro ac cc)|refine aw2 ?_|(refine ap4 ?_ ?_<;>try intro h)|apply True.intro)
 refine sw_loop (fun gm t H' => ∃ (i c:Nat),gm=l.length+1 - i/\(i<=l.length)/\(c<=m+hgtL l+1)/\(c<=m->c=sizL (l.take i))/\(∃ G,Takes [] H' G)/\Sls t 29 [(0,kv),(1,.int .i64 (m:Nat)),(5,.int .i64 (c:Nat)),(6,.int .i64 (i:Nat))]) _ ⟨0,0,rfl,Nat.zero_le _,Nat.zero_le _,(fun _=>rfl),⟨_,atks⟩,asls⟩ ?_
 rintro gm t H' ⟨i,c,rfl,hi,hc,hce,⟨G,hp⟩,hs'⟩
 revert t;refine sls_all ?_;iterate 25 intro uu'
 refine sw_takeG hp ?_;clear hp
 by_cases hlt:i<l.length/\c<=m
 · obtain ⟨hlt,hcm⟩:=hlt
   obtain ⟨x,hx⟩ : ∃ x,l.getD i default=x:=⟨_,rfl⟩
   have hxm:x∈l:=hx ▸ getD_memU hlt
   have hxh:=hgtL_mem hxm
   have hof:=ih x hxm (m - c) (by omega)
   have htk:l.take (i+1)=l.take i++[x]:=by rw [take_getD (d:=default) hlt,hx]
   have htz:=sizL_snoc (l.take i) x
   rw [← htk] at htz
   rw [show ((m - c:Nat):Int)=(m:Int) - (c:Int) by omega] at hof
   repeat' (first|(rw [hx])|(refine acl Tryz.func6 ?_;refine acr (hof) ?_;rintro v' H' ⟨⟨e,rfl,he,hee⟩,rfl⟩;refine apl ?_)|exact xf|refine aw0 ?_|(refine ap2 ?_ ?_<;>try intro h)|refine aw1 ?_|(refine abx ?_;intro bb)|(refine abz ?_;intro bz)|(refine ahv ?_;intro v' hv')|(refine aac ?_;intro ac cc)|refine aw2 ?_|(refine ap4 ?_ ?_<;>try intro h)|apply True.intro)
   exact ⟨_,by omega,i+1,c+e,rfl,by omega,by omega,(fun h=>by have:=hce hcm;have:=hee (by omega);omega),⟨_,atks⟩,asls⟩
 · repeat' (first|exact xf|refine aw0 ?_|(refine ap2 ?_ ?_<;>try intro h)|refine aw1 ?_|(refine abx ?_;intro bb)|(refine abz ?_;intro bz)|(refine ahv ?_;intro v' hv')|(refine aac ?_;intro ac cc)|refine aw2 ?_|(refine ap4 ?_ ?_<;>try intro h)|apply True.intro)
   all_goals
    ((with_reducible apply fp_ret);exact res_1 rfl rfl)
    exact HR.out _ _ _ [] atks ⟨⟨c,rfl,by omega,fun h=>by
     have h1:=hce h
     have h2:i=l.length:=by omega
     rw [h2,List.take_length] at h1
     exact h1⟩,rfl⟩
theorem nodeH_of (r:Hp) (k:Int) (s0 s1 s2 s3:Nat) (kv:Value) (l:List NoV) (mn mx:Int) (lz:Bool) (gr:Int) (hl:Els r 10 encN kv l) (_hk1:one? kv=true) (hz:hgtL l<=1000) (ih : ∀ x∈l,NhT r x) (m:Nat) (hm:m<=1000):Tri Tryz.prog r 6 [.agg [.int .i64 k,.int .u64 s0,.int .u64 s1,.int .u64 s2,.int .u64 s3,kv,.int .i64 mn,.int .i64 mx,.bool lz,.int .i64 gr].toArray,.int .i64 (m:Nat)] [] fun w H=>(∃ c:Nat,w = .int .i64 (c:Nat)/\c<=m+(1+hgtL l)+1/\(c<=m->c=1+sizL l))/\H=[]:=by
 have hns:=nodesH_of r kv l hl hz ih m hm
 refine Tri.free2 fun R HR=>?_
 refine ae Tryz.func6 Tryz.ntmps6 ?_
 repeat' (first|((with_reducible apply kx_box);rfl;(exact qcl);intro b2;(refine apk ?_))|(refine acl Tryz.func22 ?_;refine acr (hns) ?_;rintro v' H' ⟨⟨e,rfl,he,hee⟩,rfl⟩;refine apl ?_)|exact xf|refine aw0 ?_|(refine ap2 ?_ ?_<;>try intro h)|refine aw1 ?_|(refine abx ?_;intro bb)|(refine abz ?_;intro bz)|(refine ahv ?_;intro v' hv')|(refine aac ?_;intro ac cc)|refine aw2 ?_|(refine ap4 ?_ ?_<;>try intro h)|apply True.intro)
 ((with_reducible apply fp_ret);exact res_1 rfl rfl)
 exact HR.out _ _ _ [] atks ⟨⟨1+e,by first|rfl|(congr 1),by omega,fun h=>by have:=hee (by omega);omega⟩,rfl⟩
theorem nodeH_any : ∀ (x:NoV),hgtN x.key<=1000 -> ∀ r:Hp,NoR r x->NhT r x
 | .mk k s0 s1 s2 s3 kv l mn mx lz g=>fun hz r hn=>by
  have ih : ∀ x∈l,hgtN x.key<=1000 -> ∀ r:Hp,NoR r x->NhT r x:=fun x _h=>nodeH_any x
  obtain ⟨hl,hr,hk1⟩:=noR_kids hn
  rw [hgtN_mk] at hz
  intro m hm
  rw [sizN_mk,hgtN_mk]
  exact nodeH_of r k s0 s1 s2 s3 kv l mn mx lz g hl hk1 (by omega) (fun x hx=>ih x hx (by have:=hgtL_mem hx;omega) r (hr x hx)) m hm
termination_by x=>SizeOf.sizeOf x
decreasing_by
 have:=List.sizeOf_lt_of_mem _h
 simp only [NoV.mk.sizeOf_spec]
 omega
theorem Sx.Yld.up {P:Program} {r r':Hp} {k:Nat} {args:List Value} {J J1 Jx:Ch} (h:Yld P r k args J J1 Jx) (hs:sub r r'):Yld P r' k args J J1 Jx:=by
 intro w g o hj
 have hdj:dj r g:=fun b=>(o.dj b).imp_left fun c=>by
  cases e:r b with
  | none=>rfl
  | some u=>rw [hs b u e] at c;cases c
 have o':Ok none r [] w g:=⟨o.emb,fun b u e=>o.ro b u (hs b u e),hdj,trivial,fun _ c=>by cases c⟩
 obtain ⟨fn,tmps,assign,body,hrun,hR⟩:=h w g o' hj
 refine ⟨fn,tmps,assign,body,hrun,hR.mono ?_⟩
 rintro e w' ⟨bb,h',rfl,hJ,to⟩
 refine ⟨bb,h',rfl,hJ,⟨⟨to.ok.emb,fun b u e=>?_,fun b=>?_,trivial,fun _ c=>by cases c⟩,to.os,to.tape,to.output,to.size,to.keep,to.dom,to.grew⟩⟩
 · rw [to.keep b (o.ro.lt (by simp [e])) ((o.dj b).resolve_left (by simp [e]))];exact o.ro b u e
 · cases e:h' b with
   | none=>exact .inr rfl
   | some u =>
    left
    rcases to.dom b (by simp [e]) with c|c
    · exact (o.dj b).resolve_right c
    · cases e':r' b with
      | none=>rfl
      | some u'=>have:=o.ro.lt (b:=b) (by simp [e']);omega
theorem ndC_els {a:Option Addr} {c:Nat} {l:List NoV} {g r:Hp} (h:NdC a c l g) (hs:sub g r):Els r 10 encN (.slice a l.length c) l:=⟨encN_len,h.sl hs⟩
theorem ndC_app {a:Option Addr} {c:Nat} {l p:List NoV}:NdC a c (l++p)=RowC 28 10 (.slice a (l.length+p.length) c) (l.length+p.length) (l.flatMap encN++p.flatMap encN):=by
 unfold NdC
 rw [List.length_append,List.flatMap_append]
theorem len_sizL : ∀ l:List NoV,l.length<=sizL l:=fun l=>by have:=sizL_kids l;omega
theorem bfs_go {f:Nat} {row:List NoV} {d:Nat} (h:sizL row<=f) (hne:row≠[]) : ∃ g,f=g+1/\bfsN f row d=row.map (fun x=>(x,d))++bfsN g (row.flatMap NoV.kids) (d+1)/\sizL (row.flatMap NoV.kids)<=g:=by
 have h1:=sizL_kids row
 have h2:=List.length_pos_iff.2 hne
 obtain ⟨g,rfl⟩ : ∃ g,f=g+1:=⟨f - 1,by omega⟩
 exact ⟨g,rfl,by rw [bfsN,if_neg hne],by omega⟩
theorem bfs_nil (f d:Nat):bfsN f [] d=[]:=by cases f<;>simp [bfsN]
theorem kids_one {r:Hp} {l:List NoV} (h : ∀ x∈l,NoR r x) (_hz:sizL l<=1000):(l.flatMap encN).all one?=true:=by
 rw [List.all_eq_true]
 intro v hv
 obtain ⟨x,hx,hv⟩:=List.mem_flatMap.1 hv
 have h1:=h x hx
 obtain ⟨k,s0,s1,s2,s3,kv,m,mn,mx,lz,g⟩:=x
 have h2:=(noR_kids h1).2.2
 have h3:(encN (.mk k s0 s1 s2 s3 kv m mn mx lz g)).all one?=true:=by unfold encN;simp only [List.all_cons,List.all_nil,h2,Bool.and_true];rfl
 exact List.all_eq_true.1 h3 v hv
theorem within_seq (r:Hp) (B:Nat) (k:Int) (s0 s1 s2 s3:Nat) (kv:Value) (l:List NoV) (mn mx:Int) (lz:Bool) (gr:Int) (hn:NoR r (.mk k s0 s1 s2 s3 kv l mn mx lz gr)) (F:Nat) (hF:sizL [NoV.mk k s0 s1 s2 s3 kv l mn mx lz gr]=F) (hF2:F<=1000):Seq Tryz.prog r 41 [.pointer (some ⟨B,0,none⟩)] tellN (bfsN F [NoV.mk k s0 s1 s2 s3 kv l mn mx lz gr] 1) [pt B (.cells [.int .i64 k,.int .u64 s0,.int .u64 s1,.int .u64 s2,.int .u64 s3,kv,.int .i64 mn,.int .i64 mx,.bool lz,.int .i64 gr].toArray 28 (0,0))] []:=by
 intro kk J Jx hy
 have hkv1:=(noR_kids hn).2.2
 have hNl:(NoV.mk k s0 s1 s2 s3 kv l mn mx lz gr::[]).length=1:=rfl
 have hall : ∀ x∈[NoV.mk k s0 s1 s2 s3 kv l mn mx lz gr],NoR r x:=fun x hx=>by obtain rfl:=List.mem_singleton.1 hx;exact hn
 obtain ⟨X,hX⟩ : ∃ X,bfsN F [NoV.mk k s0 s1 s2 s3 kv l mn mx lz gr] 1=X:=⟨_,rfl⟩
 have hXl:X.length<=1000:=by rw [← hX,bfs_len _ _ _ (by omega)];omega
 rw [hX] at hy ⊢
 refine Tri.free2 fun R HR=>?_
 refine ae Tryz.func41 Tryz.ntmps41 ?_
 repeat' (first|(first|((with_reducible apply kx_bs1);exact ty_el;exact ty_inf;rfl;rfl;rfl;intro bz;(refine apk ?_))|((with_reducible apply kx_bsN);exact ty_el;exact ty_inf;rfl;rfl;rfl;intro bz;(refine apk ?_)))|exact xf|refine aw0 ?_|(refine ap2 ?_ ?_<;>try intro h)|refine aw1 ?_|(refine abx ?_;intro bb)|(refine abz ?_;intro bz)|(refine ahv ?_;intro v' hv')|(refine aac ?_;intro ac cc)|refine aw2 ?_|(refine ap4 ?_ ?_<;>try intro h)|apply True.intro)
 refine sw_imp (A:=pt bz (.cells [.int .i64 k,.int .u64 s0,.int .u64 s1,.int .u64 s2,.int .u64 s3,kv,.int .i64 mn,.int .i64 mx,.bool lz,.int .i64 gr].toArray 28 (0,0))) (B:=NdC (some ⟨bz,0,none⟩) 1 [NoV.mk k s0 s1 s2 s3 kv l mn mx lz gr]) atk (fun h e=>RowC.of_pt (E:=28) (g:=bz) (cur:=([.int .i64 k,.int .u64 s0,.int .u64 s1,.int .u64 s2,.int .u64 s3,kv,.int .i64 mn,.int .i64 mx,.bool lz,.int .i64 gr]:List Value).toArray) (n:=1) (cap:=1) (sz:=10) (Nat.le_refl _) (by simp [maxLen]) rfl h e) ?_
 refine sw_loop (fun gm t H' => ∃ (f d m:Nat) (row:List NoV) (a:Option Addr) (c:Nat),gm=f+1/\(d+f=F+1)/\(1<=d)/\(sizL row<=f)/\(m<=X.length)/\(X.drop m=bfsN f row d)/\(∀ x∈row,NoR r x)/\(∃ G,Takes [J m,NdC a c row] H' G)/\Sls t 32 [(0,.func (.yield kk) #[] #[]),(3,.slice a row.length c),(4,.int .i64 (d:Nat))]) _ ⟨F,1,0,[NoV.mk k s0 s1 s2 s3 kv l mn mx lz gr],some ⟨bz,0,none⟩,1,rfl,by omega,Nat.le_refl _,Nat.le_of_eq hF,Nat.zero_le _,hX.symm,hall,⟨_,atks⟩,asls⟩ ?_
 rintro gm t H' ⟨f,d,m,row,a,c,rfl,hdf,hd1,hz,hm,hXd,hrow,⟨G,hp⟩,hs'⟩
 revert t;refine sls_all ?_;iterate 29 intro uu'
 refine sw_takeG hp ?_;clear hp
 have hrl:=len_sizL row
 by_cases hne:row=[]
 · subst hne
   rw [bfs_nil] at hXd
   have hml:m=X.length:=by
    have:=congrArg List.length hXd
    rw [List.length_drop,List.length_nil] at this
    omega
   subst hml
   have hl0:([]:List NoV).length=0:=rfl
   repeat' (first|exact xf|refine aw0 ?_|(refine ap2 ?_ ?_<;>try intro h)|refine aw1 ?_|(refine abx ?_;intro bb)|(refine abz ?_;intro bz)|(refine ahv ?_;intro v' hv')|(refine aac ?_;intro ac cc)|refine aw2 ?_|(refine ap4 ?_ ?_<;>try intro h)|apply True.intro)
   ((with_reducible apply fp_end);exact res_0 rfl)
   exact HR.out _ _ _ [J X.length] atks (.inl rfl)
 · obtain ⟨g,rfl,hgo,hzg⟩:=bfs_go (d:=d) hz hne
   have hpos:=List.length_pos_iff.2 hne
   rw [hgo] at hXd
   clear hgo
   repeat' (first|exact xf|refine aw0 ?_|(refine ap2 ?_ ?_<;>try intro h)|refine aw1 ?_|(refine abx ?_;intro bb)|(refine abz ?_;intro bz)|(refine ahv ?_;intro v' hv')|(refine aac ?_;intro ac cc)|refine aw2 ?_|(refine ap4 ?_ ?_<;>try intro h)|apply True.intro)
   refine sw_put (A:=NdC none 0 []) (RowC.nil _ _) ?_
   refine sw_lendQ (A:=NdC a c row) atk fun r2 g2 hr2 hg2 hA2=>?_
   have hE:=ndC_els hA2 hg2
   have hlm:=maxI hE.2.2.1
   refine sw_loop (fun gm t H' => ∃ (i:Nat) (a2:Option Addr) (c2:Nat),gm=row.length+1 - i/\(i<=row.length)/\(m+i<=X.length)/\(X.drop (m+i)=(row.drop i).map (fun x=>(x,d))++bfsN g (row.flatMap NoV.kids) (d+1))/\(∃ G,Takes [J (m+i),NdC a2 c2 ((row.take i).flatMap NoV.kids)] H' G)/\Sls t 32 [(0,.func (.yield kk) #[] #[]),(4,.int .i64 (d:Nat)),(5,.slice a2 ((row.take i).flatMap NoV.kids).length c2),(15,.slice a row.length c),(16,.int .i64 row.length),(17,.int .i64 (i:Nat))]) _ ⟨0,none,0,rfl,Nat.zero_le _,hm,hXd,⟨_,atks⟩,asls⟩ ?_
   rintro gm t H' ⟨i,a2,c2,rfl,hi,hmi,hXi,⟨G,hp⟩,hs'⟩
   revert t;refine sls_all ?_;iterate 26 intro uu'
   refine sw_takeG hp ?_;clear hp
   have htz:sizL ((row.take i).flatMap NoV.kids)<=1000:=by
    have h1:=sizL_kids (row.take i)
    have h2:=sizL_take row i
    omega
   have htl:=len_sizL ((row.take i).flatMap NoV.kids)
   by_cases hlt:i<row.length
   · obtain ⟨x,hx⟩ : ∃ x,row.getD i default=x:=⟨_,rfl⟩
     have hxm:x∈row:=hx ▸ getD_memU hlt
     have hxr:=hrow x hxm
     have htk:(row.take (i+1)).flatMap NoV.kids=(row.take i).flatMap NoV.kids++x.kids:=by rw [take_getD (d:=default) hlt,hx,List.flatMap_append];simp
     have hdi:row.drop i=x::row.drop (i+1):=by
      rw [List.drop_eq_getElem_cons hlt,← hx,List.getD_eq_getElem?_getD,List.getElem?_eq_getElem hlt];rfl
     rw [hdi,List.map_cons,List.cons_append] at hXi
     obtain ⟨hmx,hXm,hXi2⟩:=drop_split hXi
     have hyp:=(hy (m+i) hmx).up hr2
     rw [hXm] at hyp
     have hzk:sizL x.kids<=1000:=by
      have h1:=sizL_kids (row.take (i+1))
      have h2:=sizL_take row (i+1)
      rw [htk,sizL_app] at h1
      omega
     obtain ⟨xk,x0,x1,x2,x3,xv,xl,xmn,xmx,xlz,xg⟩:=x
     have hse:encN (.mk xk x0 x1 x2 x3 xv xl xmn xmx xlz xg)=[.int .i64 xk,.int .u64 x0,.int .u64 x1,.int .u64 x2,.int .u64 x3,xv,.int .i64 xmn,.int .i64 xmx,.bool xlz,.int .i64 xg]:=rfl
     obtain ⟨hkl,hkr,hx1⟩:=noR_kids hxr
     have hkl2:=hkl.mono hr2
     have hN:([.int .i64 xk,.int .u64 x0,.int .u64 x1,.int .u64 x2,.int .u64 x3,xv,.int .i64 xmn,.int .i64 xmx,.bool xlz,.int .i64 xg]:List Value).all one?=true:=by
      simp only [List.all_cons,List.all_nil,hx1,Bool.and_true];rfl
     rw [show NoV.kids (.mk xk x0 x1 x2 x3 xv xl xmn xmx xlz xg)=xl from rfl] at htk hzk
     have hko:=kids_one hkr hzk
     have hkn:=len_sizL xl
     rw [show tellN (NoV.mk xk x0 x1 x2 x3 xv xl xmn xmx xlz xg,d)=[.agg [.int .i64 xk,.int .u64 x0,.int .u64 x1,.int .u64 x2,.int .u64 x3,xv,.int .i64 xmn,.int .i64 xmx,.bool xlz,.int .i64 xg].toArray,.int .i64 (d:Nat)] from rfl] at hyp
     obtain ⟨Y,hY⟩ : ∃ Y,(row.take i).flatMap NoV.kids=Y:=⟨_,rfl⟩
     rw [hY] at htk htz htl
     rw [hY]
     clear hxr hxm hXi hdi
     repeat' (first|(rw [hx])|(rw [hse])|((with_reducible apply kx_alloc (E:=28));exact ty_zero;(exact qcl);intro b7;(refine apk ?_))|((with_reducible apply kx_storeN);exact ty_size;rfl;rfl;rfl;(exact qsw);exact hN;(exact qst);(refine apk ?_))|((with_reducible apply kx_yield);rfl;exact (hyp);rfl;(exact atk);all_goals (refine apk ?_))|((with_reducible refine swo_isApp ?_);(with_reducible apply kx_appS (news:=xl.flatMap encN));exact ty_el;exact ty_inf;rfl;rfl;rfl;rfl;exact hkl2.2;(exact atk);exact hko;(unfold maxLen;omega);(omega);intro a' c';refine apm ?_)|exact xf|refine aw0 ?_|(refine ap2 ?_ ?_<;>try intro h)|refine aw1 ?_|(refine abx ?_;intro bb)|(refine abz ?_;intro bz)|(refine ahv ?_;intro v' hv')|(refine aac ?_;intro ac cc)|refine aw2 ?_|(refine ap4 ?_ ?_<;>try intro h)|apply True.intro)
     · have hln:((row.take (i+1)).flatMap NoV.kids).length=Y.length+xl.length:=by rw [htk,List.length_append]
       exact ⟨_,by omega,i+1,a',c',rfl,by omega,by omega,hXi2,⟨_,by rw [htk,ndC_app];exact atks⟩,asls⟩
     · ((with_reducible apply fp_end);exact res_0 rfl)
       exact HR.out _ _ _ [Jx (m+i+1)] atks (.inr ⟨m+i,[],hmx,rfl⟩)
   · obtain rfl:i=row.length:=by omega
     rw [List.take_length] at htz htl ⊢
     rw [List.drop_length,List.map_nil,List.nil_append] at hXi
     have hkr : ∀ x∈row.flatMap NoV.kids,NoR r x:=fun z hz=>by
      obtain ⟨x,hx,hzx⟩:=List.mem_flatMap.1 hz
      have h1:=hrow _ hx
      obtain ⟨k,s0,s1,s2,s3,kv,m,mn,mx,lz,g⟩:=x
      exact (noR_kids h1).2.1 z hzx
     repeat' (first|exact xf|refine aw0 ?_|(refine ap2 ?_ ?_<;>try intro h)|refine aw1 ?_|(refine abx ?_;intro bb)|(refine abz ?_;intro bz)|(refine ahv ?_;intro v' hv')|(refine aac ?_;intro ac cc)|refine aw2 ?_|(refine ap4 ?_ ?_<;>try intro h)|apply True.intro)
     exact ⟨_,by omega,g,d+1,m+row.length,row.flatMap NoV.kids,a2,c2,rfl,by omega,by omega,hzg,hmi,hXi,hkr,⟨_,atks⟩,asls⟩
end Go.Proofs.YteknekiclhnkiaaGreatDoor
