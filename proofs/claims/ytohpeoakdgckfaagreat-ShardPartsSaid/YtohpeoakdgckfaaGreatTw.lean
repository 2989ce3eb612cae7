/- Tw: two slices that share a block or do not: what an append to the one leaves of the other. No program is named. Rm: rows that may be marked behind their end (what a string was turned into): read, appended to. No program is named. Tn: rows whose elements have several cells: an element is stored; rows of zeros are made. No program is named. -/
import Derived.Test.YtohpeoakdgckfaaGreatPu
import Derived.ArgAppend
import Derived.Deep.Upon
namespace Go.Proofs.YtohpeoakdgckfaaGreat
open Go.RowKit
namespace Sx
def Two (E:TypeId) (sz:Nat) (v:Value) (n:Nat) (xs:List Value) (u:Value) (m:Nat) (ys:List Value):Ch:=fun h =>
 (∃ b cap cur,v = .slice (some ⟨b,0,none⟩) n cap/\u = .slice (some ⟨b,0,none⟩) m cap/\n<=m/\m<=cap/\cap<=maxLen/\h=one b (.cells cur E (0,0))/\cur.size=cap*sz/\cur.toList.take (n*sz)=xs/\cur.toList.take (m*sz)=ys) \/
 all [RowC E sz v n xs,RowC E sz u m ys] h
variable {P : Program} {l : Option Nat} {r : Hp} {Q : Exit → St} {K : St} {t : List Value} {H : List Ch} {d : Option Tmp} {ty : TypeId} {pos : String} {af : Array Edge} {gd : Option (Nat × Bool)}
theorem Two.start {E:TypeId} {sz n:Nat} {v:Value} {xs:List Value} {h:Hp} (hR:RowC E sz v n xs h):Two E sz v n xs v n xs h:=by
 rcases hR.2 with ⟨rfl,rfl,rfl⟩ | ⟨b,cap,cur,rfl,rfl,h1,h2,h3,h4⟩
 · exact .inr ⟨emp,emp,zfw,zab.symm,hR,emp,emp,zfw,zab.symm,hR,rfl⟩
 · exact .inl ⟨b,cap,cur,rfl,rfl,Nat.le_refl _,h1,h2,rfl,h3,h4,h4⟩
theorem Two.first {E:TypeId} {sz n m:Nat} {v u:Value} {xs ys:List Value} {h:Hp} (hT:Two E sz v n xs u m ys h) : ∃ g k,dj g k/\h=un g k/\RowC E sz v n xs g:=by
 rcases hT with ⟨b,cap,cur,rfl,rfl,h0,h1,h2,rfl,h3,h4,h5⟩ | ⟨g,k,d,rfl,hA,_⟩
 · refine ⟨_,emp,z4u,z30.symm,?_,.inr ⟨b,cap,cur,rfl,rfl,by omega,h2,h3,h4⟩⟩
   rw [← h4,List.length_take,Array.length_toList,h3]
   exact Nat.min_eq_left (Nat.mul_le_mul_right _ (by omega))
 · exact ⟨g,k,d,rfl,hA⟩
theorem Two.slv {E:TypeId} {sz n m:Nat} {v u:Value} {xs ys:List Value} {h r:Hp} (hT:Two E sz v n xs u m ys h) (hs:sub h r):Sl r sz v n xs:=by
 obtain ⟨g,k,dd,rfl,hR⟩:=hT.first
 exact hR.sl fun b o c=>hs b o (z0e c)
theorem Two.slu {E:TypeId} {sz n m:Nat} {v u:Value} {xs ys:List Value} {h r:Hp} (hT:Two E sz v n xs u m ys h) (hs:sub h r):Sl r sz u m ys:=by
 rcases hT with ⟨b,cap,cur,rfl,rfl,h0,h1,h2,rfl,h3,h4,h5⟩ | ⟨g,k,d,rfl,_,g2,k2,d2,rfl,hB,_⟩
 · have hR:RowC E sz (.slice (some ⟨b,0,none⟩) m cap) m ys (one b (.cells cur E (0,0))):=by
    refine ⟨?_,.inr ⟨b,cap,cur,rfl,rfl,h1,h2,h3,h5⟩⟩
    rw [← h5,List.length_take,Array.length_toList,h3]
    exact Nat.min_eq_left (Nat.mul_le_mul_right _ h1)
   exact hR.sl hs
 · exact hB.sl fun b o c=>hs b o (z0n d (z0e c))
theorem zje {o:Oper} (h:SWo P l r o (fun t' H' => ∃ H2,(∀ g,all H' g->all H2 g)/\K t' H2) t H):SWo P l r o K t H:=by
 intro w h0 ds ok al
 refine z2n ?_ (h w h0 ds ok al)
 rintro a' w' ⟨t',H',k',rfl,⟨H2,hc,hk⟩,al',tb⟩
 exact ⟨t',H2,k',rfl,hk,hc _ al',tb⟩
theorem z7j {T E:TypeId} {z:Value} {sz by_ n m q:Nat} {x y:Operand} {v u s:Value} {xs ys news:List Value} {H':List Ch}
 (hT:elB P T=some E) (hi:infB P E=some (some z,sz,by_)) (hzs:decide (z.cells.size=sz)=true) (hsz:decide (0<sz)=true) (hx:evO t x=some u) (hy:evO t y=some s) (hs:Sl r sz s q news)
 (ht:Take (Two E sz v n xs u m ys) H H') (h1:news.all one?=true) (hq:0<q) (hn:m+q<=maxLen) (hb:(m+q)*by_<=140737488355328)
 (hk : ∀ a' c',K (putL t d (.slice a' (m+q) c')) (Two E sz v n xs (.slice a' (m+q) c') (m+q) (ys++news)::H')):SWo P l r ⟨d,.call { callee:= .builtin .append,args := #[x,y],argTypes := #[T,T] },ty,pos,af,gd⟩ K t H:=by
 intro w g0 ds ok al
 obtain ⟨g,k,dd,hg0,hTw,al'⟩:=ht.all al
 rcases hTw with ⟨b,cap,cur,rfl,rfl,h0,hm,h2,rfl,h3,h4,h5⟩ | ⟨gv,gw,dv,rfl,hV,gu,ge,du,rfl,hU,he⟩
 · have hzs':z.cells.size=sz:=by simpa using hzs
   have hsz':0<sz:=by simpa using hsz
   obtain ⟨i,hi1,hi2,hi3,hi4⟩:=z4s hi
   subst hi3;subst hi4
   refine (z15 (K:=K) (H:=pt b (.cells cur E (0,0))::H') (fun c hc=>by cases hc) fun w g0 ds ok al=>?_) w g0 ds ok ⟨_,k,dd,hg0,rfl,al'⟩
   clear hg0 al' dd
   obtain ⟨g,k,dd,rfl,rfl,al'⟩:=al
   have hgb:w.heap[b]?=some (.cells cur E (0,0)):=ok.emb.left b _ z0h
   have hblt:b<w.heap.size:=(Array.getElem?_eq_some_iff.1 hgb).1
   have hxl:xs.length=n*i.size:=by rw [← h4,List.length_take,Array.length_toList,h3];exact Nat.min_eq_left (Nat.mul_le_mul_right _ (by omega))
   have hyl:ys.length=m*i.size:=by rw [← h5,List.length_take,Array.length_toList,h3];exact Nat.min_eq_left (Nat.mul_le_mul_right _ hm)
   have hnm:n*i.size<=m*i.size:=Nat.mul_le_mul_right _ h0
   rcases hs.2.2 with ⟨_,e⟩ | ⟨b2,off,cap2,c2,E2,fz,rfl,_,hr2,hc2⟩
   · omega
   have hnews : ∀ j u,news[j]?=some u->w.cell? ((⟨b2,off,none⟩:Addr).add j)=some u:=fun j u hu=>by
    obtain ⟨hj,rfl⟩:=List.getElem?_eq_some_iff.1 hu
    rw [Addr.add_lit]
    exact (rd_r (H:=H') hr2 (hc2 j hj)) w k ok.ro (ok.emb.right dd) al'
   have hone : ∀ u∈news,u.oneCell'=true:=fun u hu=>one_cell' (List.all_eq_true.1 h1 u hu)
   have hkb:k b=none:=(dd b).resolve_left (by simp [one])
   have hexec : ∀ {v' w'},(Builtin.append_ #[T,T] ty #[.slice (some ⟨b,0,none⟩) m cap,.slice (some ⟨b2,off,none⟩) q cap2]).run P w = .ok v' w'->(execOp (evalL t) ⟨d,.call { callee:= .builtin .append,args := #[x,y],argTypes := #[T,T] },ty,pos,af,gd⟩).run P w = .ok (.value v') w':=fun hrun=>by
    have e1:evalL t x=_:=ev_of hx
    have e2:evalL t y=_:=ev_of hy
    simp [execOp,resolve,Result.andThen,invoke,BigFrame.builtin_append,e1,e2,hrun]
   by_cases hroom:m+q<=cap
   · have hfit:m*i.size+news.length<=cur.size:=by rw [hs.1,h3,← Nat.add_mul];exact Nat.mul_le_mul_right _ hroom
     have hr:=run_append_room (P:=P) w T ty E i (elB_s hT) hi1 b m cap cur hgb ⟨b2,off,none⟩ q cap2 news hs.1 hnews hone hroom hfit
     refine ⟨_,_,_,un (one b (.cells (cur.toList.take (m*i.size)++news++cur.toList.drop (m*i.size+news.length)).toArray E (0,0))) k,hexec hr,hk _ _,⟨_,k,?_,rfl,.inl ⟨b,cap,_,rfl,rfl,by omega,hroom,h2,rfl,?_,?_,?_⟩,al'⟩,To.step ok rfl rfl rfl (by simp [World.setRow]) (fun j hj hn=>?_) (Emb.un ?_ ?_) (fun j hj=>?_)⟩
     · intro j
       by_cases e:j=b
       · subst e;exact .inr hkb
       · exact .inl (by simp [one,e])
     · simp only [List.size_toArray,List.length_append,List.length_take,List.length_drop,Array.length_toList]
       omega
     · rw [List.take_append_of_le_length (by simp only [List.length_append,List.length_take,Array.length_toList];omega),List.take_append_of_le_length (by simp only [List.length_take,Array.length_toList];omega),List.take_take,Nat.min_eq_left hnm]
       exact h4
     · rw [h5]
       show ((ys++news)++_).take _=_
       rw [show (m+q)*i.size=(ys++news).length by rw [List.length_append,hyl,hs.1,Nat.add_mul]]
       exact List.take_left
     · exact setRow_other w b j _ (fun e=>by subst e;have:=(z0i.1 hn).1;simp [one] at this)
     · intro j o ho
       obtain ⟨rfl,rfl⟩:=z2d ho
       exact setRow_heap w j cur _ E _ hgb
     · intro j o ho
       rw [setRow_other w b j _ (fun e=>by subst e;rw [hkb] at ho;cases ho)]
       exact ok.emb.right dd j o ho
     · left
       rcases un_ne.1 hj with h|h
       · exact un_ne.2 (.inl (by by_cases e:j=b<;>simp_all [one]))
       · exact un_ne.2 (.inr h)
   · have holds : ∀ j u,ys[j]?=some u->w.cell? ((⟨b,0,none⟩:Addr).add j)=some u:=fun j u hu=>by
      rw [Addr.add_lit]
      unfold World.cell?
      rw [hgb]
      simp only [Option.isSome_none,Bool.false_eq_true,if_false,Nat.zero_add]
      rw [← h5,List.getElem?_take] at hu
      split at hu
      · rw [← Array.getElem?_toList];exact hu
      · cases hu
     have hr:=run_append_grow (P:=P) w T ty E i z (elB_s hT) hi1 hi2 ⟨b,0,none⟩ m cap ys hyl holds ⟨b2,off,none⟩ q cap2 news hs.1 hnews (by omega) (by simp only [maxLen] at hn;omega) (growslice_fits (by omega) hb)
     have hge:=grownCap_ge w (m+q) cap E
     have hgm:grownCap w (m+q) cap E<=maxLen:=grownCap_le_maxLen w (m+q) cap E hn
     have hlen:(ys++news).length=(m+q)*i.size:=by rw [List.length_append,hyl,hs.1,Nat.add_mul]
     have hkB:k w.heap.size=none:=by
      cases e:k w.heap.size with
      | none=>rfl
      | some o=>have:=(ok.emb.right dd).lt (b:=w.heap.size) (by simp [e]);omega
     have hbB:b≠w.heap.size:=by omega
     refine ⟨_,_,_,un (un (one b (.cells cur E (0,0))) (one w.heap.size (.cells (ys.toArray++news.toArray++Builtin.zeroCells z.cells (grownCap w (m+q) cap E - (m+q))) E))) k,hexec hr,hk _ _,⟨_,k,?_,rfl,.inr ⟨_,one w.heap.size _,?_,rfl,⟨hxl,.inr ⟨b,cap,cur,rfl,rfl,by omega,h2,h3,h4⟩⟩,one w.heap.size _,emp,z4u,z30.symm,⟨hlen,.inr ⟨w.heap.size,_,_,rfl,rfl,hge,hgm,?_,?_⟩⟩,rfl⟩,al'⟩,To.step ok rfl rfl rfl (by simp) (fun j hj hn=>heap_alloc_old w.drew _ j hj) (Emb.un (Emb.un ?_ ?_) ?_) (fun j hj=>?_)⟩
     · refine un_dj.2 ⟨fun j=>?_,fun j=>?_⟩
       · by_cases e:j=b
         · subst e;exact .inr hkb
         · exact .inl (by simp [one,e])
       · by_cases e:j=w.heap.size
         · subst e;exact .inr hkB
         · exact .inl (by simp [one,e])
     · intro j
       by_cases e:j=b
       · subst e;exact .inr (by simp [one,hbB])
       · exact .inl (by simp [one,e])
     · simp only [Array.size_append,List.size_toArray,size_zeroCells,hzs',hyl,hs.1,← Nat.add_mul]
       congr 1
       omega
     · simp only [Array.toList_append,List.append_assoc]
       rw [← List.append_assoc,← hlen]
       exact List.take_left
     · intro j o ho
       obtain ⟨rfl,rfl⟩:=z2d ho
       rw [heap_alloc_old w.drew _ j hblt]
       exact hgb
     · intro j o ho
       obtain ⟨rfl,rfl⟩:=z2d ho
       exact heap_alloc_new w.drew _
     · intro j o ho
       rw [heap_alloc_old w.drew _ j ((ok.emb.right dd).lt (b:=j) (by simp [ho]))]
       exact ok.emb.right dd j o ho
     · rcases un_ne.1 hj with h|h
       · rcases un_ne.1 h with h|h
         · exact .inl (un_ne.2 (.inl h))
         · right
           by_cases e:j=w.heap.size
           · omega
           · exact absurd (by simp [one,e]) h
       · exact .inl (un_ne.2 (.inr h))
 · obtain rfl:ge=emp:=he
   rw [z30] at *
   obtain ⟨d1,d2⟩:=un_dj.1 dd
   refine zje (z0v hT hi hzs hsz hx hy hs (H:=RowC E sz u m ys::RowC E sz v n xs::H') Take.here h1 hn hb fun a' c'=>⟨_,?_,hk a' c'⟩) w g0 ds ok ⟨gu,un gv k,dj_un.2 ⟨dv.symm,d2⟩,by rw [hg0,z6f dv,z1b],hU,gv,k,d1,rfl,hV,al'⟩
   rintro g ⟨x1,y1,e1,rfl,hA,x2,y2,e2,rfl,hB,hr⟩
   obtain ⟨e3,e4⟩:=dj_un.1 e1
   exact ⟨un x2 x1,y2,un_dj.2 ⟨e2,e4⟩,by rw [← z1b,z6f e3],.inr ⟨x2,x1,e3.symm,rfl,hB,x1,emp,z4u,z30.symm,hA,rfl⟩,hr⟩
theorem z07 {P:Program} {l:Option Nat} {r:Hp} {K:St} {t:List Value} {H:List Ch} {d:Option Tmp} {ty:TypeId} {pos:String} {af:Array Edge} {gd:Option (Nat × Bool)} {a:Array Operand} {b:Array TypeId} (f:FuncId) (h:SWo P l r ⟨d,.call { callee:= .value (.func f),args:=a,argTypes:=b },ty,pos,af,gd⟩ K t H):SWo P l r ⟨d,.call { callee:= .value (.func f),args:=a,argTypes:=b },ty,pos,af,gd⟩ K t H:=h
theorem z0u {P:Program} {l:Option Nat} {r:Hp} {K:St} {t:List Value} {H:List Ch} {d:Option Tmp} {ty:TypeId} {pos:String} {af:Array Edge} {gd:Option (Nat × Bool)} {a:Array Operand} {b:Array TypeId} (h:SWo P l r ⟨d,.call { callee:= .builtin .append,args:=a,argTypes:=b },ty,pos,af,gd⟩ K t H):SWo P l r ⟨d,.call { callee:= .builtin .append,args:=a,argTypes:=b },ty,pos,af,gd⟩ K t H:=h
theorem z3p {c:Code} {A:Ch} {H1:List Ch} (ht:Take A H H1) (h : ∀ r' g,sub r r'->sub g r'->A g->SW P l r' c (fun e t' H'=>Q e t' (A::H')) t H1):SW P l r c Q t H:=by
 intro w h0 ds ok al
 obtain ⟨g,k,d,rfl,hg,hk⟩:=ht.all al
 refine wpIn_mono (h (un r g) g (fun b o e=>z0e e) (fun b o e=>z0n (dj_un.1 ok.dj).1 e) hg w k ds (ok.lend d) hk) ?_
 intro e a' w' p
 cases e with
 | panic _=>exact p.elim
 | outgrown=>exact p.elim
 | _ =>
  obtain ⟨t',H',k',e1,h2,al',to'⟩:=p
  obtain ⟨d',tb⟩:=To.back ok d to'
  exact ⟨t',_,_,e1,h2,⟨g,k',d',rfl,hg,al'⟩,tb⟩
def famL (n:Nat) (A B:Nat->Ch) (k:Nat):List Ch:=(List.range n).map fun j=>if j<k then A j else B j
def Fam (n:Nat) (A B:Nat->Ch) (k:Nat):Ch:=all (famL n A B k)
def FamR (n:Nat) (A B:Nat->Ch) (k:Nat):Ch:=all ((famL n A B k).eraseIdx k)
theorem z2p (n:Nat) (A B:Nat->Ch) (k:Nat):(famL n A B k).length=n:=by simp [famL]
theorem z8c {n:Nat} {A B:Nat->Ch} {k j:Nat} (hj:j<n):(famL n A B k)[j]'(by rw [z2p];exact hj)=if j<k then A j else B j:=by simp [famL]
theorem z2m {n:Nat} {A B A' B':Nat->Ch} {k k':Nat} (h : ∀ j,j<n->(if j<k then A j else B j)=(if j<k' then A' j else B' j)):famL n A B k=famL n A' B' k' :=
 List.map_congr_left fun j hj=>h j (List.mem_range.1 hj)
theorem z4d {n:Nat} {A B A' B':Nat->Ch} {k k' i:Nat} (h : ∀ j,j<n->j≠i->(if j<k then A j else B j)=(if j<k' then A' j else B' j)):(famL n A B k).eraseIdx i=(famL n A' B' k').eraseIdx i:=by
 apply List.ext_getElem?
 intro j
 rw [List.getElem?_eraseIdx,List.getElem?_eraseIdx]
 have key : ∀ j,j≠i->(famL n A B k)[j]?=(famL n A' B' k')[j]?:=fun j hj=>by
  by_cases hn:j<n
  · rw [List.getElem?_eq_getElem (by rw [z2p];exact hn),List.getElem?_eq_getElem (by rw [z2p];exact hn),z8c hn,z8c hn,h j hn hj]
  · rw [List.getElem?_eq_none (by rw [z2p];omega),List.getElem?_eq_none (by rw [z2p];omega)]
 split
 · exact key j (by omega)
 · exact key (j+1) (by omega)
theorem z8d : ∀ (c:List Ch) (k:Nat) (hk:k<c.length),c.Perm (c[k]::c.eraseIdx k)
 | a::c,0,_=> .refl _
 | a::c,k+1,hk=>((z8d c k (by simpa using hk)).cons a).trans (.swap _ _ _)
theorem zhu {c:List Ch} {k:Nat} (hk:k<c.length) {g:Hp}:all c g ↔ ∃ x y,dj x y/\g=un x y/\c[k] x/\all (c.eraseIdx k) y :=
 ⟨fun h=>z0j (z8d c k hk) h,fun h=>z0j (z8d c k hk).symm (show all (c[k]::c.eraseIdx k) g from h)⟩
theorem Fam.open {n:Nat} {A B:Nat->Ch} {k:Nat} (hk:k<n) {g:Hp} (h:Fam n A B k g) : ∃ x y,dj x y/\g=un x y/\B k x/\FamR n A B k y:=by
 obtain ⟨x,y,d,e,hx,hy⟩:=(zhu (by rw [z2p];exact hk)).1 h
 rw [z8c hk,if_neg (by omega)] at hx
 exact ⟨x,y,d,e,hx,hy⟩
theorem Fam.shut {n:Nat} {A B:Nat->Ch} {k:Nat} (hk:k<n) {x y:Hp} (d:dj x y) (hx:A k x) (hy:FamR n A B k y):Fam n A B (k+1) (un x y):=by
 refine (zhu (by rw [z2p];exact hk)).2 ⟨x,y,d,rfl,?_,?_⟩
 · rw [z8c hk,if_pos (by omega)];exact hx
 · rw [← z4d (A:=A) (B:=B) (k:=k) (fun j _ hj=>by by_cases h:j<k<;>by_cases h2:j<k+1<;>first|omega|simp [h,h2])]
   exact hy
theorem z3i {c:Code} {n:Nat} {A B:Nat->Ch} {k:Nat} {H':List Ch} (ht:Take (Fam n A B k) H H') (hk:k<n) (h:SW P l r c Q t (B k::FamR n A B k::H')):SW P l r c Q t H:=fun w g ds ok a=>h w g ds ok (by
 obtain ⟨x,y,d,rfl,hx,hy⟩:=ht.all a
 obtain ⟨x1,x2,d1,rfl,h1,h2⟩:=Fam.open hk hx
 obtain ⟨d2,d3⟩:=un_dj.1 d
 exact ⟨x1,un x2 y,dj_un.2 ⟨d1,d2⟩,z1b,h1,x2,y,d3,rfl,h2,hy⟩)
theorem z5y {c:Code} {n:Nat} {A B:Nat->Ch} {k:Nat} {X:Ch} {H1 H2:List Ch} (h1:Take X H H1) (h2:Take (FamR n A B k) H1 H2) (hk:k<n) (hX : ∀ g,X g->A k g) (h:SW P l r c Q t (Fam n A B (k+1)::H2)):SW P l r c Q t H:=fun w g ds ok a=>h w g ds ok (by
 obtain ⟨x,y,d,rfl,hx,hy⟩:=h1.all a
 obtain ⟨x2,y2,d2,rfl,hx2,hy2⟩:=h2.all hy
 obtain ⟨d3,d4⟩:=dj_un.1 d
 exact ⟨un x x2,y2,un_dj.2 ⟨d4,d2⟩,z1b.symm,Fam.shut hk d3 (hX _ hx) hx2,hy2⟩)
theorem zak {o:Oper} {n:Nat} {A0 A B:Nat->Ch} {k:Nat} {X:Ch} {H1 H2:List Ch} (h1:Take X H H1) (h2:Take (FamR n A0 B k) H1 H2) (hk:k<n) (hR:FamR n A0 B k=FamR n A B k) (hX : ∀ g,X g->A k g) (h:SWo P l r o K t (Fam n A B (k+1)::H2)):SWo P l r o K t H:=fun w g ds ok a=>h w g ds ok (by
 obtain ⟨x,y,d,rfl,hx,hy⟩:=h1.all a
 obtain ⟨x2,y2,d2,rfl,hx2,hy2⟩:=h2.all hy
 obtain ⟨d3,d4⟩:=dj_un.1 d
 rw [hR] at hx2
 exact ⟨un x x2,y2,un_dj.2 ⟨d4,d2⟩,z1b.symm,Fam.shut hk d3 (hX _ hx) hx2,hy2⟩)
theorem z97 {c:Code} {A B C:Ch} {H':List Ch} (ht:Take A H H') (hab : ∀ h,A h -> ∃ x y,dj x y/\h=un x y/\B x/\C y) (h:SW P l r c Q t (B::C::H')):SW P l r c Q t H:=fun w g ds ok a=>h w g ds ok (by
 obtain ⟨x,y,d,rfl,hx,hy⟩:=ht.all a
 obtain ⟨x1,x2,d1,rfl,h1,h2⟩:=hab _ hx
 obtain ⟨d2,d3⟩:=un_dj.1 d
 exact ⟨x1,un x2 y,dj_un.2 ⟨d1,d2⟩,z1b,h1,x2,y,d3,rfl,h2,hy⟩)
theorem Fam.get {n:Nat} {A:Nat->Ch} {k:Nat} (hk:k<n) {g:Hp} (h:Fam n A A 0 g) : ∃ x,sub x g/\A k x:=by
 obtain ⟨x,y,_,rfl,hx,_⟩:=(zhu (by rw [z2p];exact hk)).1 h
 rw [z8c hk] at hx
 exact ⟨x,fun b o c=>z0e c,by simpa using hx⟩
theorem Fam.turn {n:Nat} {A B C:Nat->Ch} {g:Hp} (h:Fam n A B n g):Fam n C A 0 g:=by
 unfold Fam
 rw [← z2m (A:=A) (B:=B) (k:=n) (fun j hj=>by simp [hj])]
 exact h
theorem zpm (z:Value) (n:Nat):(madeCells #[z] n).toList=List.replicate n z:=by
 apply List.ext_getElem?
 intro j
 by_cases h:j<n<;>simp [madeCells,h,Nat.mod_one]
theorem zde {T E:TypeId} {z:Value} {by_ n:Nat} {x y:Operand} {kl kc:IntKind} {li ci:Int} (hT:elB P T=some E) (hi:infB P E=some (some z,1,by_)) (hz:z.cells = #[z]) (hx:evO t x=some (.int kl li)) (hy:evO t y=some (.int kc ci)) (hli:li=(n:Int)) (hci:ci=(n:Int)) (hb:n*(by_+1)<=140737488355328)
 (hk : ∀ b,K (putL t d (.slice (some ⟨b,0,none⟩) n n)) (RowC E 1 (.slice (some ⟨b,0,none⟩) n n) n (List.replicate n z)::H)):SWo P l r ⟨d,.makeSlice T x y,ty,pos,af,gd⟩ K t H :=
 z15 (fun c hc=>by cases hc) fun w g ds ok al=>by
  subst hli;subst hci
  obtain ⟨i,h1,h2,h3,h4⟩:=z4s hi
  have hb1:n*by_<=n*(by_+1):=Nat.mul_le_mul_left _ (by omega)
  have hb2:n*1<=n*(by_+1):=Nat.mul_le_mul_left _ (by omega)
  have hcm:n<=maxLen:=by unfold maxLen;omega
  have hbi:(i.bytes:Int)*(n:Int)<=281474976710656:=by
   have h:((i.bytes*n:Nat):Int)<=281474976710656:=by rw [h4,Nat.mul_comm];omega
   rwa [Int.natCast_mul] at h
  have hr:=run_make (P:=P) w T E i z (elB_s hT) h1 h2 kl kc n n (by omega) (by omega) hbi (by unfold maxLen at hcm;omega)
  simp only [Int.toNat_natCast] at hr
  obtain ⟨dd,to⟩:=z1n ok (.cells (madeCells z.cells (n*i.size)) E (0,0))
  refine ⟨.slice (some ⟨w.heap.size,0,none⟩) n n,_,_,_,by simp only [execOp,Sem.run_bind,ev_of hx,ev_of hy,hr,Result.andThen,Sem.run_pure],hk _,⟨_,_,dd,rfl,?_,al⟩,to⟩
  exact ⟨by simp,.inr ⟨_,n,_,rfl,rfl,Nat.le_refl _,hcm,by rw [size_madeCells,h3],by rw [h3,Nat.mul_one,hz,zpm];simp⟩⟩
end Sx
end Go.Proofs.YtohpeoakdgckfaaGreat
namespace Go.Proofs.YtohpeoakdgckfaaGreat
open Go.RowKit
namespace Sx
def RowM (E:TypeId) (sz:Nat) (v:Value) (n:Nat) (xs:List Value):Ch:=fun h =>
 xs.length=n*sz/\((v = .slice none 0 0/\n=0/\h=emp) \/ ∃ g cap cur fz,v = .slice (some ⟨g,0,none⟩) n cap/\h=one g (.cells cur E fz)/\n<=cap/\cap<=maxLen/\cur.size=cap*sz/\cur.toList.take (n*sz)=xs /\ ∀ j,j<cur.size->¬ (fz.1<=j/\j<fz.2))
theorem RowM.of {E:TypeId} {sz n:Nat} {v:Value} {xs:List Value} {h:Hp} (e:RowC E sz v n xs h):RowM E sz v n xs h:=by
 refine ⟨e.1,?_⟩
 rcases e.2 with h1 | ⟨g,cap,cur,h1,h2,h3,h4,h5,h6⟩
 · exact .inl h1
 · exact .inr ⟨g,cap,cur,(0,0),h1,h2,h3,h4,h5,h6,fun j _ h=>by have:=h.2;omega⟩
theorem RowM.sl {E:TypeId} {sz n:Nat} {v:Value} {xs:List Value} {g r:Hp} (h:RowM E sz v n xs g) (hs:sub g r):Sl r sz v n xs:=by
 rcases h.2 with ⟨rfl,rfl,rfl⟩ | ⟨b,cap,cur,fz,rfl,rfl,h1,h2,h3,h4,_⟩
 · exact ⟨h.1,Nat.zero_le _,.inl ⟨⟨none,rfl⟩,rfl⟩⟩
 · refine ⟨h.1,Nat.le_trans h1 h2,.inr ⟨b,0,cap,cur,E,fz,rfl,h1,hs _ _ z0h,fun j hj=>?_⟩⟩
   rw [Nat.zero_add,← Array.getElem?_toList]
   have e:(cur.toList.take (n*sz))[j]?=some xs[j]:=by rw [h4];exact List.getElem?_eq_getElem hj
   rw [List.getElem?_take] at e
   split at e
   · exact e
   · cases e
theorem zbw (b:Nat) : ∀ (vs:List Value) (o:Nat) (w:World),(w.setCells b o vs).os=w.os/\(w.setCells b o vs).tape=w.tape/\(w.setCells b o vs).output=w.output/\(w.setCells b o vs).heap.size=w.heap.size
 | [],_,_=>⟨rfl,rfl,rfl,rfl⟩
 | v::r,o,w=>by
  obtain ⟨h1,h2,h3,h4⟩:=zbw b r (o+1) (w.setCell ⟨b,o,none⟩ v)
  rw [World.setCells]
  exact ⟨h1,h2,h3,h4.trans (by simp [World.setCell])⟩
theorem zal (b:Nat) : ∀ (vs:List Value) (o:Nat) (w:World) (c:Array Value) (E:TypeId) (fz:Nat × Nat),w.heap[b]?=some (.cells c E fz)->(w.setCells b o vs).heap[b]?=some (.cells (setN c o vs) E fz)
 | [],_,_,_,_,_,h=>h
 | v::r,o,w,c,E,fz,h=>by
  rw [World.setCells]
  refine zal b r (o+1) (w.setCell ⟨b,o,none⟩ v) (c.setIfInBounds o v) E fz ?_
  simp [World.setCell,Array.getElem?_modify,h]
theorem znb {c:Array Value} {k:Nat} {vs:List Value} (h:k+vs.length<=c.size):(setN c k vs).toList.take (k+vs.length)=c.toList.take k++vs:=by
 apply List.ext_getElem?
 intro i
 rw [List.getElem?_take,Array.getElem?_toList,z8w vs c k i h]
 have hl:(c.toList.take k).length=k:=by rw [List.length_take,Array.length_toList];omega
 by_cases h1:i<k
 · rw [if_pos (by omega),if_neg (by omega),List.getElem?_append_left (by rw [hl];exact h1),List.getElem?_take,if_pos h1,Array.getElem?_toList]
 · rw [List.getElem?_append_right (by rw [hl];omega),hl]
   by_cases h2:i<k+vs.length
   · rw [if_pos h2,if_pos ⟨by omega,h2⟩]
   · rw [if_neg h2,List.getElem?_eq_none (by omega)]
section
variable {P : Program} {l : Option Nat} {r : Hp} {Q : Exit → St} {K : St} {t : List Value} {H : List Ch} {d : Option Tmp} {ty : TypeId} {pos : String} {af : Array Edge} {gd : Option (Nat × Bool)}
theorem zhv {T E:TypeId} {z:Value} {sz by_ n q:Nat} {x y:Operand} {u s:Value} {xs news:List Value} {H':List Ch}
 (hT:elB P T=some E) (hi:infB P E=some (some z,sz,by_)) (hzs:decide (z.cells.size=sz)=true) (hsz:decide (0<sz)=true) (hx:evO t x=some u) (hy:evO t y=some s) (hs:Sl r sz s q news)
 (ht:Take (RowM E sz u n xs) H H') (h1:news.all one?=true) (hq:0<q) (hn:n+q<=maxLen) (hb:(n+q)*by_<=140737488355328)
 (hk : ∀ a' c',K (putL t d (.slice a' (n+q) c')) (RowM E sz (.slice a' (n+q) c') (n+q) (xs++news)::H')):SWo P l r ⟨d,.call { callee:= .builtin .append,args := #[x,y],argTypes := #[T,T] },ty,pos,af,gd⟩ K t H:=by
 intro w g0 ds ok al
 obtain ⟨g,k,dd,hg0,hR,al'⟩:=ht.all al
 rcases hR.2 with ⟨rfl,rfl,rfl⟩ | ⟨b,cap,cur,fz,rfl,rfl,hm,h2,h3,h5,hfz⟩
 · have hxs:xs=[]:=by have:=hR.1;simpa using this
   subst hxs
   refine zje (z0v hT hi hzs hsz hx hy hs (H:=RowC E sz (.slice none 0 0) 0 []::H') Take.here h1 hn hb fun a' c'=>⟨_,?_,hk a' c'⟩) w g0 ds ok ⟨emp,k,dd,hg0,RowC.nil _ _,al'⟩
   rintro g ⟨x1,y1,e1,rfl,hA,hB⟩
   exact ⟨x1,y1,e1,rfl,RowM.of hA,hB⟩
 · have hzs':z.cells.size=sz:=by simpa using hzs
   have hsz':0<sz:=by simpa using hsz
   obtain ⟨i,hi1,hi2,hi3,hi4⟩:=z4s hi
   subst hi3;subst hi4
   refine (z15 (K:=K) (H:=pt b (.cells cur E fz)::H') (fun c hc=>by cases hc) fun w g0 ds ok al=>?_) w g0 ds ok ⟨_,k,dd,hg0,rfl,al'⟩
   clear hg0 al' dd
   obtain ⟨g,k,dd,rfl,rfl,al'⟩:=al
   have hgb:w.heap[b]?=some (.cells cur E fz):=ok.emb.left b _ z0h
   have hblt:b<w.heap.size:=(Array.getElem?_eq_some_iff.1 hgb).1
   have hxl:xs.length=n*i.size:=hR.1
   rcases hs.2.2 with ⟨_,e⟩ | ⟨b2,off,cap2,c2,E2,fz2,rfl,_,hr2,hc2⟩
   · omega
   have hnews : ∀ j u,news[j]?=some u->w.cell? ((⟨b2,off,none⟩:Addr).add j)=some u:=fun j u hu=>by
    obtain ⟨hj,rfl⟩:=List.getElem?_eq_some_iff.1 hu
    rw [Addr.add_lit]
    exact (rd_r (H:=H') hr2 (hc2 j hj)) w k ok.ro (ok.emb.right dd) al'
   have hone : ∀ u∈news,u.oneCell'=true:=fun u hu=>one_cell' (List.all_eq_true.1 h1 u hu)
   have hkb:k b=none:=(dd b).resolve_left (by simp [one])
   have hexec : ∀ {v' w'},(Builtin.append_ #[T,T] ty #[.slice (some ⟨b,0,none⟩) n cap,.slice (some ⟨b2,off,none⟩) q cap2]).run P w = .ok v' w'->(execOp (evalL t) ⟨d,.call { callee:= .builtin .append,args := #[x,y],argTypes := #[T,T] },ty,pos,af,gd⟩).run P w = .ok (.value v') w':=fun hrun=>by
    have e1:evalL t x=_:=ev_of hx
    have e2:evalL t y=_:=ev_of hy
    simp [execOp,resolve,Result.andThen,invoke,BigFrame.builtin_append,e1,e2,hrun]
   by_cases hroom:n+q<=cap
   · have hfit:n*i.size+news.length<=cur.size:=by rw [hs.1,h3,← Nat.add_mul];exact Nat.mul_le_mul_right _ hroom
     have hr:=run_append_room_cells (P:=P) (w:=w) T ty E i (elB_s hT) hi1 b 0 n cap ⟨b2,off,none⟩ q cap2 news hs.1 hnews hone hroom (fun j hj=>by
      unfold World.cell?
      rw [hgb]
      simp only [Option.isSome_none,Bool.false_eq_true,if_false,Nat.zero_add]
      rw [Array.getElem?_eq_getElem (by omega)];rfl) (fun j hj=>by
      unfold World.frozen?
      rw [hgb]
      simp only [Nat.zero_add,Bool.and_eq_false_imp,decide_eq_true_eq,decide_eq_false_iff_not]
      intro h6 h7
      exact hfz _ (by omega) ⟨h6,h7⟩)
     rw [Nat.zero_add] at hr
     obtain ⟨f1,f2,f3,f4⟩:=zbw b news (n*i.size) w
     refine ⟨_,_,_,un (one b (.cells (setN cur (n*i.size) news) E fz)) k,hexec hr,hk _ _,⟨_,k,?_,rfl,⟨by rw [List.length_append,hxl,hs.1,Nat.add_mul],.inr ⟨b,cap,_,fz,rfl,rfl,hroom,h2,by rw [z4w];exact h3,?_,by rw [z4w];exact hfz⟩⟩,al'⟩,To.step ok f1 f2 f3 (by rw [f4];exact Nat.le_refl _) (fun j hj hn=>?_) (Emb.un ?_ ?_) (fun j hj=>?_)⟩
     · intro j
       by_cases e:j=b
       · subst e;exact .inr hkb
       · exact .inl (by simp [one,e])
     · have h6:=znb (c:=cur) (k:=n*i.size) (vs:=news) hfit
       rw [h5] at h6
       rw [Nat.add_mul,← hs.1]
       exact h6
     · exact World.heap_setCells_other w b _ news hj (fun e=>by subst e;have:=(z0i.1 hn).1;simp [one] at this)
     · intro j o ho
       obtain ⟨rfl,rfl⟩:=z2d ho
       exact zal j news _ w cur E fz hgb
     · intro j o ho
       have hjl:=(ok.emb.right dd).lt (b:=j) (by simp [ho])
       rw [World.heap_setCells_other w b _ news hjl (fun e=>by subst e;rw [hkb] at ho;cases ho)]
       exact ok.emb.right dd j o ho
     · left
       rcases un_ne.1 hj with h|h
       · exact un_ne.2 (.inl (by by_cases e:j=b<;>simp_all [one]))
       · exact un_ne.2 (.inr h)
   · have holds : ∀ j u,xs[j]?=some u->w.cell? ((⟨b,0,none⟩:Addr).add j)=some u:=fun j u hu=>by
      rw [Addr.add_lit]
      unfold World.cell?
      rw [hgb]
      simp only [Option.isSome_none,Bool.false_eq_true,if_false,Nat.zero_add]
      rw [← h5,List.getElem?_take] at hu
      split at hu
      · rw [← Array.getElem?_toList];exact hu
      · cases hu
     have hr:=run_append_grow (P:=P) w T ty E i z (elB_s hT) hi1 hi2 ⟨b,0,none⟩ n cap xs hxl holds ⟨b2,off,none⟩ q cap2 news hs.1 hnews (by omega) (by simp only [maxLen] at hn;omega) (growslice_fits (by omega) hb)
     have hge:=grownCap_ge w (n+q) cap E
     have hgm:grownCap w (n+q) cap E<=maxLen:=grownCap_le_maxLen w (n+q) cap E hn
     have hlen:(xs++news).length=(n+q)*i.size:=by rw [List.length_append,hxl,hs.1,Nat.add_mul]
     have hkB:k w.heap.size=none:=by
      cases e:k w.heap.size with
      | none=>rfl
      | some o=>have:=(ok.emb.right dd).lt (b:=w.heap.size) (by simp [e]);omega
     refine ⟨_,_,_,un (one w.heap.size (.cells (xs.toArray++news.toArray++Builtin.zeroCells z.cells (grownCap w (n+q) cap E - (n+q))) E)) k,hexec hr,hk _ _,⟨_,k,?_,rfl,RowM.of ⟨hlen,.inr ⟨w.heap.size,_,_,rfl,rfl,hge,hgm,?_,?_⟩⟩,al'⟩,To.step ok rfl rfl rfl (by simp) (fun j hj hn=>heap_alloc_old w.drew _ j hj) (Emb.un ?_ ?_) (fun j hj=>?_)⟩
     · intro j
       by_cases e:j=w.heap.size
       · subst e;exact .inr hkB
       · exact .inl (by simp [one,e])
     · simp only [Array.size_append,List.size_toArray,size_zeroCells,hzs',hxl,hs.1,← Nat.add_mul]
       congr 1
       omega
     · simp only [Array.toList_append,List.append_assoc]
       rw [← List.append_assoc,← hlen]
       exact List.take_left
     · intro j o ho
       obtain ⟨rfl,rfl⟩:=z2d ho
       exact heap_alloc_new w.drew _
     · intro j o ho
       rw [heap_alloc_old w.drew _ j ((ok.emb.right dd).lt (b:=j) (by simp [ho]))]
       exact ok.emb.right dd j o ho
     · rcases un_ne.1 hj with h|h
       · right
         by_cases e:j=w.heap.size
         · omega
         · exact absurd (by simp [one,e]) h
       · exact .inl (un_ne.2 (.inr h))
theorem zsb {src dst e:TypeId} {x:Operand} {bl:List UInt8} (hs:strB P src=true) (hT:elB P dst=some e) (h8:u8B P e=true) (hx:evO t x=some (.string (bs bl))) (hn:bl.length<=maxLen)
 (hk : ∀ a c,K (putL t d (.slice a bl.length c)) (RowM e 1 (.slice a bl.length c) bl.length (u8s bl)::H)):SWo P l r ⟨d,.convert src dst x,ty,pos,af,gd⟩ K t H :=
 z15 (fun c hc=>by cases hc) fun w g ds ok al=>by
  have hr:=run_bytes_of_string (P:=P) w src dst e (bs bl) (zdn hs) (elB_s hT) (u8B_s h8)
  obtain ⟨cap,hcap⟩ : ∃ cap,grownCap w (bs bl).size 0 e=cap:=⟨_,rfl⟩
  rw [hcap] at hr
  have okd:Ok l r ds w.drew g:=⟨ok.emb,ok.ro,ok.dj,ok.marks.mono (fun D a b _=>⟨a,b⟩),ok.loop⟩
  have tod:To l r ds w g ds w.drew g:=⟨okd,rfl,rfl,rfl,Nat.le_refl _,fun _ _ _=>rfl,fun _ hb=> .inl hb,fun _ hd=> .inl hd⟩
  obtain ⟨dd,to⟩:=z1n okd (.cells (bytesRow (bs bl) cap) e ((bytesRow (bs bl) cap).size,(bytesRow (bs bl) cap).size+1))
  rw [z0x] at hr
  refine ⟨.slice (some ⟨w.heap.size,0,none⟩) bl.length cap,_,_,_,by simp only [execOp,Sem.run_bind,ev_of hx,hr,Result.andThen,Sem.run_pure],hk _ _,⟨_,_,dd,rfl,?_,al⟩,tod.trans to⟩
  have hle:bl.length<=cap:=by rw [← hcap,← z0x bl];exact grownCap_ge w _ 0 e
  have hcm:cap<=maxLen:=by rw [← hcap,z0x];exact grownCap_le_maxLen w _ 0 e hn
  have hsz:(bytesRow (bs bl) cap).size=cap:=by
   have e1:(bs bl).data.size=bl.length:=by simp [bs]
   unfold bytesRow
   rw [Array.size_append,Array.size_map,Array.size_replicate,z0x,e1]
   omega
  refine ⟨by simp [u8s],.inr ⟨_,cap,_,_,rfl,rfl,hle,hcm,by rw [hsz,Nat.mul_one],?_,fun j hj h=>by have:=h.1;dsimp only at this;omega⟩⟩
  apply List.ext_getElem?
  intro j
  rw [Nat.mul_one,List.getElem?_take,Array.getElem?_toList]
  by_cases hj:j<bl.length
  · rw [if_pos hj]
    refine (bytesRow_at (bs bl) cap j (show j<(bs bl).data.size from by simpa [bs] using hj)).trans ?_
    simp [u8s,hj]
    rfl
  · rw [if_neg hj,List.getElem?_eq_none (by simp [u8s];omega)]
end
end Sx
end Go.Proofs.YtohpeoakdgckfaaGreat
namespace Go.Proofs.YtohpeoakdgckfaaGreat
open Go.RowKit
namespace Sx
section
variable {P : Program} {l : Option Nat} {r : Hp} {Q : Exit → St} {K : St} {t : List Value} {H : List Ch} {d : Option Tmp} {ty : TypeId} {pos : String} {af : Array Edge} {gd : Option (Nat × Bool)}
theorem znc : ∀ (vs:List Value) (c:Array Value) (k:Nat),(setN c k vs).size=c.size
 | [],_,_=>rfl
 | v::vs,c,k=>by rw [setN,znc vs,Array.size_setIfInBounds]
theorem zpn {c:Array Value} {xs vs:List Value} {j m:Nat} (hm:m<=c.size) (hx:c.toList.take m=xs) (hj:j+vs.length<=xs.length):(setN c j vs).toList.take m=xs.take j++(vs++xs.drop (j+vs.length)):=by
 have hxl:xs.length=m:=by rw [← hx,List.length_take,Array.length_toList];omega
 apply List.ext_getElem?
 intro i
 have hl:(xs.take j).length=j:=by rw [List.length_take];omega
 have hxi : ∀ i,i<m->xs[i]?=c[i]?:=fun i hi=>by rw [← hx,List.getElem?_take,if_pos hi,Array.getElem?_toList]
 by_cases hi:i<m
 · rw [List.getElem?_take,if_pos hi,Array.getElem?_toList,z8w vs c j i (by omega)]
   by_cases h1:i<j
   · rw [if_neg (by omega),List.getElem?_append_left (by rw [hl];exact h1),List.getElem?_take,if_pos h1,hxi i hi]
   · rw [List.getElem?_append_right (by rw [hl];omega),hl]
     by_cases h2:i<j+vs.length
     · rw [if_pos ⟨by omega,h2⟩,List.getElem?_append_left (by omega)]
     · rw [if_neg (by omega),List.getElem?_append_right (by omega),List.getElem?_drop,show j+vs.length+(i - j - vs.length)=i by omega,hxi i hi]
 · rw [List.getElem?_take,if_neg hi,List.getElem?_eq_none (by simp only [List.length_append,List.length_take,List.length_drop];omega)]
theorem zhw {T E:TypeId} {x y:Operand} {u:Value} {vs:List Value} {sz n m j:Nat} {xs:List Value} {H':List Ch} (hT:sizeB P T=some m) (hx:evO t x=some (.pointer (some ⟨blkV u,offV u+j,none⟩))) (hy:evO t y=some (.agg vs.toArray)) (hl:vs.length=m) (ht:Take (RowC E sz u n xs) H H') (hv:vs.all one?=true) (h0:decide (0<m)=true) (hj:j+m<=xs.length)
 (hk:K (putL t d undef) (RowC E sz u n (xs.take j++(vs++xs.drop (j+m)))::H')):SWo P l r ⟨d,.store T x y,ty,pos,af,gd⟩ K t H:=by
 intro w g0 ds ok al
 subst hl
 have h0':0<vs.length:=by simpa using h0
 obtain ⟨a,k,dd,rfl,hR,al'⟩:=ht.all al
 rcases hR.2 with ⟨rfl,rfl,_⟩ | ⟨b,cap,cur,rfl,rfl,h1,h2,h3,h4⟩
 · have:=hR.1;simp at this;subst this;simp only [List.length_nil] at hj;omega
 · have hcap:n*sz<=cap*sz:=Nat.mul_le_mul_right _ h1
   have hxl:=hR.1
   have hk2 : ∀ h,pt b (.cells (setN cur j vs) E (0,0)) h->RowC E sz (.slice (some ⟨b,0,none⟩) n cap) n (xs.take j++(vs++xs.drop (j+vs.length))) h:=fun h e=>by
    refine ⟨by simp only [List.length_append,List.length_take,List.length_drop];omega,.inr ⟨b,cap,_,rfl,e,h1,h2,by rw [znc,h3],?_⟩⟩
    exact zpn (by omega) h4 hj
   simp only [blkV,offV,Nat.zero_add] at hx
   exact zd9 (z89 (P:=P) (l:=l) (r:=r) (t:=t) (o:=⟨d,.store T x y,ty,pos,af,gd⟩) (E:=E) (vs:=vs) rfl hT (ev_of hx) (ev_of hy) (fun v h=>List.all_eq_true.1 hv v h) (Take.here (H:=H')) (by omega) ⟨_,_,_,Take.here,hk2,hk⟩) w _ ds ok ⟨_,_,dd,rfl,rfl,al'⟩
theorem zbx (zs:List Value) (h0:0<zs.length) : ∀ n,(madeCells zs.toArray (n*zs.length)).toList=(List.replicate n zs).flatten
 | 0=>by simp [madeCells]
 | n+1=>by
  have ih:=zbx zs h0 n
  have e : ∀ m,(madeCells zs.toArray m).toList=(List.range m).map fun k=>zs.toArray[k % zs.toArray.size]!:=fun m=>by
   simp [madeCells,← Array.toList_range]
  rw [e] at ih ⊢
  rw [show List.replicate (n+1) zs=List.replicate n zs++[zs] by rw [List.replicate_succ',],List.flatten_append,← ih,Nat.succ_mul,List.range_add,List.map_append,List.map_map]
  congr 1
  rw [List.flatten_cons,List.flatten_nil,List.append_nil]
  apply List.ext_getElem?
  intro j
  by_cases hj:j<zs.length
  · have hm:(n*zs.length+j) % zs.length=j:=by rw [Nat.mul_comm,Nat.mul_add_mod,Nat.mod_eq_of_lt hj]
    simp [hj,hm]
  · simp [hj]
theorem znd {T E:TypeId} {z:Value} {zs:List Value} {sz by_ n:Nat} {x y:Operand} {kl kc:IntKind} {li ci:Int} (hT:elB P T=some E) (hi:infB P E=some (some z,sz,by_)) (hz:z.cells=zs.toArray) (hzs:decide (zs.length=sz/\0<sz/\sz<=64)=true) (hx:evO t x=some (.int kl li)) (hy:evO t y=some (.int kc ci)) (hli:li=(n:Int)) (hci:ci=(n:Int)) (hb:n*(by_+64)<=140737488355328)
 (hk : ∀ b,K (putL t d (.slice (some ⟨b,0,none⟩) n n)) (RowC E sz (.slice (some ⟨b,0,none⟩) n n) n (List.replicate n zs).flatten::H)):SWo P l r ⟨d,.makeSlice T x y,ty,pos,af,gd⟩ K t H :=
 z15 (fun c hc=>by cases hc) fun w g ds ok al=>by
  subst hli;subst hci
  obtain ⟨hz1,hz2,hz3⟩:zs.length=sz/\0<sz/\sz<=64:=by simpa using hzs
  obtain ⟨i,h1,h2,h3,h4⟩:=z4s hi
  have hb1:n*by_<=n*(by_+64):=Nat.mul_le_mul_left _ (by omega)
  have hb2:n*64<=n*(by_+64):=Nat.mul_le_mul_left _ (by omega)
  have hcm:n<=maxLen:=by unfold maxLen;omega
  have hbi:(i.bytes:Int)*(n:Int)<=281474976710656:=by
   have h:((i.bytes*n:Nat):Int)<=281474976710656:=by rw [h4,Nat.mul_comm];omega
   rwa [Int.natCast_mul] at h
  have hr:=run_make (P:=P) w T E i z (elB_s hT) h1 h2 kl kc n n (by omega) (by omega) hbi (by unfold maxLen at hcm;omega)
  simp only [Int.toNat_natCast] at hr
  obtain ⟨dd,to⟩:=z1n ok (.cells (madeCells z.cells (n*i.size)) E (0,0))
  refine ⟨.slice (some ⟨w.heap.size,0,none⟩) n n,_,_,_,by simp only [execOp,Sem.run_bind,ev_of hx,ev_of hy,hr,Result.andThen,Sem.run_pure],hk _,⟨_,_,dd,rfl,?_,al⟩,to⟩
  refine ⟨by rw [List.length_flatten,List.map_replicate,List.sum_replicate_nat,hz1],.inr ⟨_,n,_,rfl,rfl,Nat.le_refl _,hcm,by rw [size_madeCells,h3],?_⟩⟩
  rw [h3,hz,← hz1,zbx zs (by omega),List.take_of_length_le]
  rw [List.length_flatten,List.map_replicate,List.sum_replicate_nat];omega
theorem zdf {α:Type} (ia:Inhabited α) {T E:TypeId} {x:Operand} {u v:Value} {sz n m i j:Nat} {enc:α->List Value} {xs:List α} {H':List Ch} (he : ∀ x,(enc x).length=sz) [TyF P T false m] (hx:evO t x=some (.pointer (some ⟨blkV u,offV u+i*sz+j,none⟩))) (ht:Take (RowC E sz u n (xs.flatMap enc)) H H') (h0:i<xs.length) (hj:(enc (xs.getD i default))[j]?=some v) (hk:K (putL t d v) H):SWo P l r ⟨d,.load T x,ty,pos,af,gd⟩ K t H:=by
 refine zfo (j:=i*sz+j) (by rw [← Nat.add_assoc];exact hx) ht ?_ hk
 have hle:=z85 he xs i h0
 have hx2:xs.getD i default=xs[i]:=by simp [h0]
 rw [hx2,← hle,List.getElem?_take] at hj
 split at hj
 · rw [List.getElem?_drop] at hj;exact hj
 · cases hj
theorem zhx {T E:TypeId} {x y:Operand} {u v:Value} {sz n i j:Nat} {xs:List Value} {H':List Ch} (hT:sizeB P T=some 1) (hx:evO t x=some (.pointer (some ⟨blkV u,offV u+i*sz+j,none⟩))) (hy:evO t y=some v) (ht:Take (RowC E sz u n xs) H H') (hv:one? v=true) (hj:i*sz+j<xs.length) (hk:K (putL t d undef) (RowC E sz u n (xs.set (i*sz+j) v)::H')):SWo P l r ⟨d,.store T x y,ty,pos,af,gd⟩ K t H :=
 z7f (j:=i*sz+j) hT (by rw [← Nat.add_assoc];exact hx) hy ht hv hj hk
end
end Sx
end Go.Proofs.YtohpeoakdgckfaaGreat
