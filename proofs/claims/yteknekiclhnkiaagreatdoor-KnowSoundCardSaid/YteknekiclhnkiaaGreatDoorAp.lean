/- Slices that are read: 'Rd'; rows of bytes; no program is named. -/
import Derived.Test.YteknekiclhnkiaaGreatDoorEng
import Derived.Test.YteknekiclhnkiaaGreatDoorSx
import Derived.Great.BuildSlice
import Derived.Laws.IdiomStrings
import Derived.Laws.BytesArg
import Derived.Laws.MakeOwn
namespace Go.Proofs.YteknekiclhnkiaaGreatDoor
open Go.RowKit
def Rd (w:World) (A:Option Addr) (n c:Nat) (size:Nat) (xs:List Value):Prop :=
 n<=c/\c<=maxLen/\xs.length=n*size/\(0<n -> ∃ b o,A=some ⟨b,o,none⟩ /\ ∀ j (h:j<xs.length),w.cell? ⟨b,o+j,none⟩=some xs[j])
section
variable {w w' : World} {A : Option Addr} {n c size : Nat} {xs : List Value} {S : Nat → Prop}
theorem Rd.nil (w:World) (A:Option Addr) (c size:Nat) (hc:c<=maxLen):Rd w A 0 c size []:=⟨Nat.zero_le _,hc,by simp,fun h=>absurd h (Nat.lt_irrefl _)⟩
theorem Rd.keep (h:Rd w A n c size xs) (hk : ∀ p v,w.cell? p=some v->w'.cell? p=some v):Rd w' A n c size xs :=
 ⟨h.1,h.2.1,h.2.2.1,fun hn=>by
  obtain ⟨b,o,e,hc⟩:=h.2.2.2 hn
  exact ⟨b,o,e,fun j hj=>hk _ _ (hc j hj)⟩⟩
theorem Rd.ext (h:Rd w A n c size xs) (hx:Ext Nil w w'):Rd w' A n c size xs:=h.keep fun _ _ hc=>hx.cell hc (fun d=>d)
theorem Rd.at1 (h:Rd w A n c 1 xs) {k:Nat} (hk:k<n) : ∃ b o u,A=some ⟨b,o,none⟩/\xs[k]?=some u/\w.cell? ⟨b,o+k,none⟩=some u:=by
 obtain ⟨b,o,e,hc⟩:=h.2.2.2 (by omega)
 have hl:=h.2.2.1
 exact ⟨b,o,xs[k]'(by omega),e,List.getElem?_eq_getElem _,hc k (by omega)⟩
theorem Rd.blk {g:Nat} {cur:Array Value} {e:TypeId} {fr:Nat × Nat} (hh:w.heap[g]?=some (.cells cur e fr)) (hnc:n<=c) (hcm:c<=maxLen) (hs:n*size<=cur.size):Rd w (some ⟨g,0,none⟩) n c size (cur.toList.take (n*size)) :=
 ⟨hnc,hcm,by simp;exact Nat.min_eq_left hs,fun _=>⟨g,0,rfl,fun j hj=>by
  have hj':j<cur.size:=by simp at hj;omega
  simp [World.cell?,hh,hj']⟩⟩
end
def u8s (l:List UInt8):List Value:=l.map fun b=> .int .u8 b.toNat
abbrev Bytes (w:World) (A:Option Addr) (n c:Nat) (l:List UInt8):Prop:=n=l.length/\Rd w A n c 1 (u8s l)
namespace Sx
def RowC (E:TypeId) (sz:Nat) (v:Value) (n:Nat) (xs:List Value):Ch:=fun h =>
 xs.length=n*sz/\((v = .slice none 0 0/\n=0/\h=emp) \/ ∃ g cap cur,v = .slice (some ⟨g,0,none⟩) n cap/\h=one g (.cells cur E (0,0))/\n<=cap/\cap<=maxLen/\cur.size=cap*sz/\cur.toList.take (n*sz)=xs)
theorem RowC.of_pt {E:TypeId} {sz n cap g:Nat} {cur:Array Value} (h1:n<=cap) (h2:cap<=maxLen) (h3:cur.size=cap*sz) : ∀ h,pt g (.cells cur E (0,0)) h->RowC E sz (.slice (some ⟨g,0,none⟩) n cap) n (cur.toList.take (n*sz)) h :=
 fun h e=>⟨by rw [List.length_take,Array.length_toList,h3];exact Nat.min_eq_left (Nat.mul_le_mul_right _ h1),.inr ⟨g,cap,cur,rfl,e,h1,h2,h3,rfl⟩⟩
theorem RowC.nil (E:TypeId) (sz:Nat):RowC E sz (.slice none 0 0) 0 [] emp:=⟨by simp,.inl ⟨rfl,rfl,rfl⟩⟩
theorem RowC.sl {E:TypeId} {sz n:Nat} {v:Value} {xs:List Value} {g r:Hp} (h:RowC E sz v n xs g) (hs:sub g r):Sl r sz v n xs:=by
 refine ⟨h.1,?_,?_⟩
 · rcases h.2 with ⟨_,rfl,_⟩ | ⟨_,cap,_,_,_,h1,h2,_⟩
   · simp [maxLen]
   · exact Nat.le_trans h1 h2
 · rcases h.2 with ⟨rfl,rfl,_⟩ | ⟨b,cap,cur,rfl,rfl,h1,h2,h3,h4⟩
   · exact .inl ⟨⟨none,rfl⟩,rfl⟩
   · refine .inr ⟨b,0,cap,cur,E,(0,0),rfl,h1,hs _ _ one_same,fun j hj=>?_⟩
     subst h4
     simp at hj
     simp [List.getElem_take]
section
variable {P : Program} {l : Option Nat} {r : Hp} {Q : Exit → St} {K : St} {t : List Value} {H : List Ch} {d : Option Tmp} {ty : TypeId} {pos : String} {af : Array Edge} {gd : Option (Nat × Bool)}
theorem all_imp {A B:Ch} {H:List Ch} (hab : ∀ h,A h->B h) {g:Hp} (a:all (A::H) g):all (B::H) g:=by
 obtain ⟨x,y,d,e,hx,hy⟩:=a;exact ⟨x,y,d,e,hab _ hx,hy⟩
theorem sw_imp {c:Code} {A B:Ch} {H':List Ch} (ht:Take A H H') (hab : ∀ h,A h->B h) (h:SW P l r c Q t (B::H')):SW P l r c Q t H :=
 fun w g ds ok a=>h w g ds ok (all_imp hab (all_perm ht a))
theorem all_emp {A:Ch} {H:List Ch} (hA:A emp) {g:Hp} (a:all H g):all (A::H) g:=⟨emp,g,emp_dj,emp_un.symm,hA,a⟩
theorem sw_put {c:Code} {A:Ch} (hA:A emp) (h:SW P l r c Q t (A::H)):SW P l r c Q t H:=fun w g ds ok a=>h w g ds ok (all_emp hA a)
theorem swo_put {o:Oper} {A:Ch} (hA:A emp) (h:SWo P l r o K t (A::H)):SWo P l r o K t H:=fun w g ds ok a=>h w g ds ok (all_emp hA a)
theorem kx_lend {o:Oper} {H1:List Ch} (bs:List (Nat × Obj)) (hp:Takes (pts bs) H H1) (h : ∀ r',Lent r r' bs->SWo P l r' o (fun t' H'=>K t' (pts bs++H')) t H1):SWo P l r o K t H:=by
 intro w h0 ds ok al
 obtain ⟨g,k,d,rfl,hg,hk⟩:=all_app.1 (all_perm hp al)
 refine wpIn_noQ ?_ (h (un r g) ⟨fun b o e=>un_left e,fun x hx=>un_right (dj_un.1 ok.dj).1 (pts_all hg x hx)⟩ w k ds (ok.lend d) hk)
 rintro a' w' ⟨t',H',k',rfl,h2,al',to'⟩
 obtain ⟨d',tb⟩:=To.back ok d to'
 exact ⟨t',_,_,rfl,h2,all_app.2 ⟨g,k',d',rfl,hg,al'⟩,tb⟩
def elB (P:Program) (T:TypeId):Option TypeId:=match P.underlying T with|some (.slice E)=>some E | _=>none
def infB (P:Program) (E:TypeId):Option (Option Value × Nat × Nat):=(P.info? E).map fun i=>(i.zero,i.size,i.bytes)
theorem elB_s {T E:TypeId} (h:elB P T=some E):P.underlying T=some (.slice E):=by
 unfold elB at h
 cases hu:P.underlying T with
 | none=>simp [hu] at h
 | some d=>cases d<;>simp_all
theorem infB_s {E:TypeId} {z:Value} {sz by_:Nat} (h:infB P E=some (some z,sz,by_)) : ∃ i,P.info? E=some i/\i.zero=some z/\i.size=sz/\i.bytes=by_:=by
 unfold infB at h
 cases hi:P.info? E with
 | none=>simp [hi] at h
 | some i=>simp [hi] at h;exact ⟨i,rfl,h.1,h.2.1,h.2.2⟩
theorem one_cell' {v:Value} (h:one? v=true):v.oneCell'=true:=by cases v<;>simp_all [one?,Value.oneCell']
theorem kx_append {T E:TypeId} {z:Value} {sz by_ n m c:Nat} {x y:Operand} {v:Value} {xs news:List Value} {ad:Addr} {H':List Ch}
 (hT:elB P T=some E) (hi:infB P E=some (some z,sz,by_)) (hzs:z.cells.size=sz) (hsz:decide (0<sz)=true) (hx:evO t x=some v) (hy:evO t y=some (.slice (some ad) m c))
 (ht:Take (RowC E sz v n xs) H H') (hl:news.length=m*sz) (hc : ∀ j u,news[j]?=some u->Rd1 r H' (ad.add j) u) (h1:news.all one?=true) (hn:n+m<=maxLen) (hb:(n+m)*by_<=140737488355328)
 (hk : ∀ a' c',K (putL t d (.slice a' (n+m) c')) (RowC E sz (.slice a' (n+m) c') (n+m) (xs++news)::H')):SWo P l r ⟨d,.call { callee:= .builtin .append,args := #[x,y],argTypes := #[T,T] },ty,pos,af,gd⟩ K t H :=
 swo_run (fun c hc=>by cases hc) fun w g0 ds ok al=>by
  obtain ⟨g,k,dd,rfl,hR,al'⟩:=ht.all al
  obtain ⟨i,hi1,hi2,hi3,hi4⟩:=infB_s hi
  have eg:Emb g w:=ok.emb.left
  have hown:w.ownsRow 0 E sz v n xs:=by
   refine ⟨hR.1,?_⟩
   rcases hR.2 with ⟨a,b,_⟩ | ⟨b,cap,cur,a1,a2,a3,a4,a5,a6⟩
   · exact .inl ⟨a,b⟩
   · exact .inr ⟨b,cap,cur,a1,Nat.zero_le _,eg b _ (by rw [a2];exact one_same),a3,a4,a5,a6⟩
  obtain ⟨v',w',hrun,ho',hg,_,hob⟩:=run_append_own_at (P:=P) w 0 T ty E i z sz by_ (elB_s hT) hi1 hi2 hi3 hi4 hzs (by simpa using hsz) v n xs hown ad m c news hl
   (fun j u hu=>hc j u hu w k ok.ro (ok.emb.right dd) al') (fun u hu=>one_cell' (List.all_eq_true.1 h1 u hu)) hn hb (Nat.zero_le _)
  -- what is owned behind it
  have own : ∃ g',RowC E sz v' (n+m) (xs++news) g'/\Emb g' w' /\ ∀ b,g' b≠none->g b≠none\/w.heap.size<=b:=by
   rcases ho'.2 with ⟨a,b⟩ | ⟨b,cap,cur,a1,_,a2,a3,a4,a5,a6⟩
   · exact ⟨emp,⟨ho'.1,.inl ⟨a,b,rfl⟩⟩,fun _ _ c=>(by cases c),fun _ c=>absurd rfl c⟩
   · refine ⟨one b (.cells cur E (0,0)),⟨ho'.1,.inr ⟨b,cap,cur,a1,rfl,a3,a4,a5,a6⟩⟩,fun k u hk=>by obtain ⟨rfl,rfl⟩:=one_some hk;exact a2,fun k hk=>?_⟩
     rw [one_ne hk]
     subst a1
     rcases hob with h|h
     · left
       rcases hR.2 with ⟨e1,_⟩ | ⟨b',cap',cur',e1,e2,_⟩
       · rw [e1] at h;simp [Value.ownBlock] at h
       · rw [e1] at h;simp [Value.ownBlock] at h;rw [e2,h];simp [one]
     · right;simp [Value.ownBlock] at h;omega
  obtain ⟨g',hR',eg',dg'⟩:=own
  have hkeep : ∀ b,b<w.heap.size->un g k b=none->w'.heap[b]?=w.heap[b]?:=fun b hb hn=>by
   refine hg.block b hb fun e=>?_
   rcases hR.2 with ⟨e1,_⟩ | ⟨b',cap',cur',e1,e2,_⟩
   · rw [e1] at e;simp [Value.ownBlock] at e
   · rw [e1] at e;simp [Value.ownBlock] at e
     have:=(un_none.1 hn).1
     rw [e2,e] at this;simp [one] at this
  have hgk : ∀ b,k b≠none->v.ownBlock≠some b:=fun b hb e=>by
   rcases hR.2 with ⟨e1,_⟩ | ⟨b',cap',cur',e1,e2,_⟩
   · rw [e1] at e;simp [Value.ownBlock] at e
   · rw [e1] at e;simp [Value.ownBlock] at e
     have:=(dd b).resolve_right hb
     rw [e2,e] at this;simp [one] at this
  have ek:Emb k w':=fun b u hb=>by
   have hlt:=(ok.emb.right dd).lt (b:=b) (by simp [hb])
   rw [hg.block b hlt (fun e=>hgk b (by simp [hb]) e.symm)];exact ok.emb.right dd b u hb
  have dgk:dj g' k:=fun b=>by
   cases e:g' b with
   | none=>exact .inl rfl
   | some u =>
    right
    rcases dg' b (by simp [e]) with c|c
    · exact (dd b).resolve_left c
    · cases e':k b with
      | none=>rfl
      | some u'=>have:=(ok.emb.right dd).lt (b:=b) (by simp [e']);omega
  obtain ⟨a',c',rfl⟩ : ∃ a' c',v' = .slice a' (n+m) c':=by
   rcases hR'.2 with ⟨e1,e2,_⟩ | ⟨_,_,_,e1,_⟩
   · exact ⟨none,0,by rw [e1,e2]⟩
   · exact ⟨_,_,e1⟩
  refine ⟨_,w',_,un g' k,?_,hk a' c',⟨g',k,dgk,rfl,hR',al'⟩,To.step ok hg.os hg.tape hg.output hg.size hkeep (eg'.un ek) ?_⟩
  · have e1:evalL t x=v:=ev_of hx
    have e2:evalL t y = .slice (some ad) m c:=ev_of hy
    simp [execOp,resolve,Result.andThen,invoke,BigFrame.builtin_append,e1,e2,hrun]
  · intro b hb
    rcases un_ne.1 hb with h|h
    · exact (dg' b h).imp_left fun c=>un_ne.2 (.inl c)
    · exact .inl (un_ne.2 (.inr h))
theorem kx_append0 {T E:TypeId} {z:Value} {sz by_ n c:Nat} {x y:Operand} {v:Value} {xs:List Value} {ad:Option Addr} {H':List Ch}
 (hT:elB P T=some E) (hi:infB P E=some (some z,sz,by_)) (hx:evO t x=some v) (hy:evO t y=some (.slice ad 0 c))
 (ht:Take (RowC E sz v n xs) H H') (hk : ∀ a' c',v = .slice a' n c'->K (putL t d v) (RowC E sz v n xs::H')):SWo P l r ⟨d,.call { callee:= .builtin .append,args := #[x,y],argTypes := #[T,T] },ty,pos,af,gd⟩ K t H :=
 swo_run (fun c hc=>by cases hc) fun w g0 ds ok al=>by
  have al2:=all_perm ht al
  obtain ⟨g,k,dd,rfl,hR,al'⟩:=al2
  obtain ⟨i,hi1,hi2,hi3,hi4⟩:=infB_s hi
  obtain ⟨a',c',e9⟩ : ∃ a' c',v = .slice a' n c':=by
   rcases hR.2 with ⟨e1,e2,_⟩ | ⟨_,_,_,e1,_⟩
   · exact ⟨none,0,by rw [e1,e2]⟩
   · exact ⟨_,_,e1⟩
  refine ⟨v,w,_,un g k,?_,hk a' c' e9,⟨g,k,dd,rfl,hR,al'⟩,To.refl ok⟩
  have e1:evalL t x=v:=ev_of hx
  have e2:evalL t y = .slice ad 0 c:=ev_of hy
  have hu:=elB_s hT
  have hfc : ∀ w:World,(Builtin.firstCells i.size 0 (.slice ad 0 c)).run P w = .ok #[] w:=fun w=>by cases ad<;>simp [Builtin.firstCells,loadCells,loadCellsFrom]
  have hgo:(Builtin.append_ #[T,T] ty #[v,.slice ad 0 c]).run P w = .ok v w:=by
   rcases hR.2 with ⟨rfl,rfl,_⟩ | ⟨b,cap,cur,rfl,_,h3,_⟩
   · simp [Builtin.append_,run_underlying hu,sizeOf,typeInfo,hi1,Builtin.lenOf,hfc]
   · simp [Builtin.append_,run_underlying hu,sizeOf,typeInfo,hi1,Builtin.lenOf,hfc,h3,storeCells]
  simp [execOp,resolve,Result.andThen,invoke,BigFrame.builtin_append,e1,e2,hgo]
theorem kx_bs {T E:TypeId} {vs:List Value} {n:Nat} {parts:Array (Nat × Operand)}
 (hrun : ∀ w:World,(Instr.buildSlice T n (parts.map fun (i,x)=>(i,evalL t x))).run P w = .ok (.slice (some ⟨w.heap.size,0,none⟩) n n) (w.alloc (.cells vs.toArray E)))
 (hk : ∀ b,K (putL t d (.slice (some ⟨b,0,none⟩) n n)) (pt b (.cells vs.toArray E (0,0))::H)):SWo P l r ⟨d,.buildSlice T n parts,ty,pos,af,gd⟩ K t H :=
 swo_run (fun c hc=>by cases hc) fun w g ds ok al=>by
  obtain ⟨dd,to⟩:=alloc_to ok (.cells vs.toArray E)
  exact ⟨_,_,_,_,by simp only [execOp,Sem.run_bind,hrun w,Result.andThen,Sem.run_pure],hk w.heap.size,⟨_,_,dd,rfl,rfl,al⟩,to⟩
theorem infB_sz {E:TypeId} {z:Value} {sz by_:Nat} (h:infB P E=some (some z,sz,by_)):sizeB P E=some sz/\zeroB P E=some z:=by
 obtain ⟨i,h1,h2,h3,_⟩:=infB_s h
 unfold sizeB zeroB
 rw [h1];simp [h2,h3]
theorem kx_bs0 {T E:TypeId} {z:Value} {sz by_:Nat} (hT:elB P T=some E) (hi:infB P E=some (some z,sz,by_)) (hk : ∀ b,K (putL t d (.slice (some ⟨b,0,none⟩) 0 0)) (pt b (.cells [].toArray E (0,0))::H)):SWo P l r ⟨d,.buildSlice T 0 #[],ty,pos,af,gd⟩ K t H :=
 kx_bs (fun w=>by
  simp [Instr.buildSlice,run_underlying (elB_s hT),Sem.run_bind,run_sizeOf (infB_sz hi).1,Result.andThen,Instr.fill,newRow]
  simp [← List.toArray_range]) hk
theorem kx_bs1 {T E:TypeId} {z v:Value} {by_:Nat} {x:Operand} (hT:elB P T=some E) (hi:infB P E=some (some z,1,by_)) (hz:one? z=true) (hx:evO t x=some v) (hv:one? v=true) (hk : ∀ b,K (putL t d (.slice (some ⟨b,0,none⟩) 1 1)) (pt b (.cells [v].toArray E (0,0))::H)):SWo P l r ⟨d,.buildSlice T 1 #[(0,x)],ty,pos,af,gd⟩ K t H :=
 kx_bs (fun w=>by
  have hzc:z.cells = #[z]:=cells_one hz
  have hvc:v.cells = #[v]:=cells_one hv
  simp [Instr.buildSlice,run_underlying (elB_s hT),Sem.run_bind,run_sizeOf (infB_sz hi).1,run_zeroValue (infB_sz hi).2,Result.andThen,Instr.fill,newRow,hzc,ev_of hx,hvc]
  simp [← List.toArray_range,List.range_succ]) hk
theorem swo_weak {o:Oper} (h:SWo P l r o (fun t' H' => ∃ B H2,Take B H' H2/\K t' H2) t H):SWo P l r o K t H:=by
 intro w h0 ds ok al
 refine wpIn_noQ ?_ (h w h0 ds ok al)
 rintro a' w' ⟨t',H',k',rfl,⟨B,H2,ht,hk⟩,al',tb⟩
 obtain ⟨x,y,d,rfl,_,hy⟩:=ht.all al'
 exact ⟨t',H2,y,rfl,hk,hy,⟨tb.ok.right d,tb.os,tb.tape,tb.output,tb.size,tb.keep,fun b hb=>tb.dom b (un_ne.2 (.inr hb)),tb.grew⟩⟩
theorem kx_append1 {T E E':TypeId} {fz:Nat × Nat} {z u:Value} {by_ n b:Nat} {x y:Operand} {v:Value} {xs:List Value} {H1 H2:List Ch}
 (hT:elB P T=some E) (hi:infB P E=some (some z,1,by_)) (hz:one? z=true) (hx:evO t x=some v) (hy:evO t y=some (.slice (some ⟨b,0,none⟩) 1 1))
 (ht:Take (RowC E 1 v n xs) H H1) (hp:Take (pt b (.cells [u].toArray E' fz)) H1 H2) (hu:one? u=true) (hb:(n+1)*(by_+1)<=140737488355328)
 (hk : ∀ a' c',K (putL t d (.slice a' (n+1) c')) (RowC E 1 (.slice a' (n+1) c') (n+1) (xs++[u])::H2)):SWo P l r ⟨d,.call { callee:= .builtin .append,args := #[x,y],argTypes := #[T,T] },ty,pos,af,gd⟩ K t H:=by
 have hb1:(n+1)*by_<=(n+1)*(by_+1):=Nat.mul_le_mul_left _ (by omega)
 have hb2:(n+1)*1<=(n+1)*(by_+1):=Nat.mul_le_mul_left _ (by omega)
 refine swo_weak (kx_append (m:=1) (news:=[u]) hT hi (by rw [cells_one hz];rfl) rfl hx hy ht rfl ?_ (by simpa using hu) (by unfold maxLen;omega) (by omega) fun a' c'=>⟨_,_,hp.there,hk a' c'⟩)
 intro j w hw
 obtain ⟨hj,rfl⟩:=List.getElem?_eq_some_iff.1 hw
 have:j=0:=by simpa using hj
 subst this
 rw [add_none]
 exact rl_pt hp rfl
end
end Sx
end Go.Proofs.YteknekiclhnkiaaGreatDoor
namespace Go.Proofs.YteknekiclhnkiaaGreatDoor
open Go.RowKit
namespace Sx
class TyF (P:Program) (T:TypeId) (b:outParam Bool) (n:outParam Nat):Prop where
 agg:aggB P T=some b
 size:sizeB P T=some n
class TyZ (P:Program) (T:TypeId) (z:outParam Value) (sz:outParam Nat) (b:outParam Nat):Prop where
 inf:infB P T=some (some z,sz,b)
class TyE (P:Program) (T:TypeId) (E:outParam TypeId):Prop where
 el:elB P T=some E
theorem ty_agg {P:Program} {T:TypeId} {b:Bool} {n:Nat} [h:TyF P T b n]:aggB P T=some b:=h.agg
theorem ty_size {P:Program} {T:TypeId} {b:Bool} {n:Nat} [h:TyF P T b n]:sizeB P T=some n:=h.size
theorem ty_inf {P:Program} {T:TypeId} {z:Value} {n b:Nat} [h:TyZ P T z n b]:infB P T=some (some z,n,b):=h.inf
theorem ty_el {P:Program} {T E:TypeId} [h:TyE P T E]:elB P T=some E:=h.el
theorem ty_zero {P:Program} {T:TypeId} {z:Value} {n b:Nat} [h:TyZ P T z n b]:zeroB P T=some z:=(infB_sz h.inf).2
section
variable {F : Fence} {n : Nat} {P : Program} {b : Frame} {a : Act} {k : List Item} {cs : List Frame} {w : World} {Q : Exit → Act → World → Prop}
theorem stepR_scope {c:Code}:step P (lone (b.atR a (.code (.scope c)::k)) cs w) = .next (lone (b.atR a (.code c :: .inScope c::k)) cs w) :=
 step_lone_go (by simp [stepG,stepG.exec,Frame.atR])
theorem stepR_inScope {c:Code}:step P (lone (b.atR a (.inScope c::k)) cs w) = .next (lone (b.atR a k) cs w) :=
 step_lone_go (by simp [stepG,stepG.exec,Frame.atR])
theorem wpIn_scope {c:Code} (h:c.wpIn F n P (Exit.noGoto Q) a w):(Code.scope c).wpIn F n P Q a w:=by
 intro b k cs hro hb hr
 have h0:(lone (b.atR a (.code (.scope c)::k)) cs w).fenced P F:=fenced_calm hb hr rfl
 obtain ⟨e,a₁,w₁,hq,harr⟩:=h b (.inScope c::k) cs hro hb hr
 cases e with
 | normal=>exact ⟨.normal,a₁,w₁,hq,.head h0 stepR_scope (StepsIn.trans harr (.one (fenced_calm hb hr rfl) stepR_inScope))⟩
 | exit id =>
  have hx:exitTo id (.inScope c::k)=exitTo id k:=by simp [exitTo]
  exact ⟨.exit id,a₁,w₁,hq,fun k' hk=> .head h0 stepR_scope (harr.1 k' (by rw [hx];exact hk)),
   fun hr' hk=>let ⟨k₁,h1,h2⟩:=harr.2 hr' (by rw [hx];exact hk);⟨k₁,h1,.head h0 stepR_scope h2⟩⟩
 | goto l=>exact hq.elim
 | ret=>exact ⟨_,a₁,w₁,hq,.of_steps (.one h0 stepR_scope) harr⟩
 | panic ch=>exact ⟨_,a₁,w₁,hq,.of_steps (.one h0 stepR_scope) harr⟩
 | outgrown=>exact ⟨_,a₁,w₁,hq,.of_steps (.one h0 stepR_scope) harr⟩
end
def NoG (Q:Exit->St):Exit->St
 | .goto _,_,_=>False
 | e,t,H=>Q e t H
section
variable {P : Program} {l : Option Nat} {r : Hp} {Q : Exit → St} {K : St} {t : List Value} {H : List Ch} {d : Option Tmp} {ty : TypeId} {pos : String} {af : Array Edge} {gd : Option (Nat × Bool)}
theorem sw_scope {c:Code} (h:SW P l r c (NoG Q) t H):SW P l r (.scope c) Q t H:=by
 intro w h' ds o a
 refine wpIn_scope (wpIn_mono (h w h' ds o a) ?_)
 intro e b w' p
 obtain ⟨t',H',h1,ds',rfl,q,al,to⟩:=p.act
 cases e with
 | panic _=>exact p.elim
 | outgrown=>exact p.elim
 | goto _=>exact q.elim
 | _=>exact Post.mk' trivial q al to
theorem nog_n (h:Q .normal t H):NoG Q .normal t H:=h
theorem nog_r (h:Q .ret t H):NoG Q .ret t H:=h
theorem setN_size : ∀ (vs:List Value) (c:Array Value) (off:Nat),(setN c off vs).size=c.size
 | [],_,_=>rfl
 | v::vs,c,off=>by show (setN (c.setIfInBounds off v) (off+1) vs).size=_;rw [setN_size vs];simp
theorem setN_get : ∀ (vs:List Value) (c:Array Value) (off i:Nat),off+vs.length<=c.size->(setN c off vs)[i]?=if off<=i/\i<off+vs.length then vs[i - off]? else c[i]?
 | [],c,off,i,_=>by simp [setN];intro h1 h2;omega
 | v::vs,c,off,i,h=>by
  simp only [List.length_cons] at h
  show (setN (c.setIfInBounds off v) (off+1) vs)[i]?=_
  rw [setN_get vs _ _ _ (by simp;omega),Array.getElem?_setIfInBounds]
  by_cases h1:off+1<=i/\i<off+1+vs.length
  · rw [if_pos h1,if_pos (by simp;omega),show i - off=(i - (off+1))+1 by omega];simp
  · rw [if_neg h1]
    by_cases h2:off=i
    · subst h2;rw [if_pos rfl,if_pos (by omega),if_pos (by simp),Nat.sub_self];rfl
    · rw [if_neg h2,if_neg (by simp;omega)]
theorem setN_all {c:Array Value} {vs:List Value} (h:c.size=vs.length):setN c 0 vs=vs.toArray:=by
 apply Array.ext
 · rw [setN_size];simpa using h
 · intro i h1 h2
   have:=setN_get vs c 0 i (by omega)
   rw [if_pos ⟨Nat.zero_le _,by rw [setN_size] at h1;omega⟩] at this
   simp only [Nat.sub_zero] at this
   rw [Array.getElem?_eq_getElem h1,List.getElem?_eq_getElem (by simpa using h2)] at this
   simpa using Option.some.inj this
theorem kx_loadW {T:TypeId} {x:Operand} {b:Nat} {c:Array Value} {E:TypeId} {fz:Nat × Nat} {H':List Ch} (hT:aggB P T=some true) (hx:evO t x=some (.pointer (some ⟨b,0,none⟩))) (ht:Take (pt b (.cells c E fz)) H H') (hn:sizeB P T=some c.size) (hk:K (putL t d (.agg c)) H):SWo P l r ⟨d,.load T x,ty,pos,af,gd⟩ K t H :=
 swo_loadN rfl hT hn (ev_of hx) (rdN_pt ht fun j hj=>by rw [Nat.zero_add];exact Array.getElem?_eq_getElem hj) hk
theorem res_cW {fn:Func} {d:Tmp} {T:TypeId} {b:Nat} {c:Array Value} {E:TypeId} {fz:Nat × Nat} {H':List Ch} (hr:fn.results = #[.cell d T]) (hT:aggB P T=some true) (hn:sizeB P T=some c.size) (hv:t[d]?=some (.pointer (some ⟨b,0,none⟩))) (ht:Take (pt b (.cells c E fz)) H H'):Res P r fn t H (.agg c):=by
 intro w g e e' al
 have hc : ∀ j (h:j<c.size),w.cell? (Addr.add ⟨b,0,none⟩ (0+j))=some c[j]:=fun j hj=>by
  rw [Nat.zero_add]
  exact rdN_pt (off:=0) ht (fun j hj=>by rw [Nat.zero_add];exact Array.getElem?_eq_getElem hj) j hj w g e' e al
 have h1:=run_loadCells (P:=P) (a:=⟨b,0,none⟩) (w:=w) c.size 0 #[] c rfl hc
 have h2:t.toArray.getD d undef = .pointer (some ⟨b,0,none⟩):=by simp [hv,Array.getD_eq_getD_getElem?]
 simp [results,hr,hv,asAddr,loadVar,loadCells,Sem.run_bind,run_isAgg hT,run_sizeOf hn,Result.andThen,h1]
end
end Sx
end Go.Proofs.YteknekiclhnkiaaGreatDoor
namespace Go.Proofs.YteknekiclhnkiaaGreatDoor
open Go.RowKit
namespace Sx
theorem fold_setN : ∀ (cs:List Value) (k off:Nat) (c:Array Value),(cs.zipIdx k).foldl (fun a (x:Value × Nat)=>a.setIfInBounds (off+x.2) x.1) c=setN c (off+k) cs
 | [],_,_,_=>rfl
 | v::cs,k,off,c=>by
  rw [List.zipIdx_cons,List.foldl_cons,fold_setN cs (k+1)]
  rfl
theorem fill_one {place:Nat->Option (Nat × Nat)} {base:Array Value} {cs:List Value} {sz:Nat} (hp:place 0=some (0,sz)) (hb:base.size=sz) (hl:cs.length=sz):Instr.fill place base [(0,.agg cs.toArray)]=some cs.toArray:=by
 have hc:(Value.agg cs.toArray).cells=cs.toArray:=rfl
 have h0:¬ (((Value.agg cs.toArray).cells.size≠sz)\/0+(Value.agg cs.toArray).cells.size > base.size):=by rw [hc];simp [hl,hb]
 unfold Instr.fill
 simp only [hp]
 rw [if_neg (by simpa using h0)]
 unfold Instr.fill
 rw [hc,← Array.foldl_toList,Array.toList_zipIdx]
 have:=fold_setN cs 0 0 base
 rw [setN_all (by rw [hb,hl])] at this
 exact congrArg some this
section
variable {P : Program} {l : Option Nat} {r : Hp} {Q : Exit → St} {K : St} {t : List Value} {H : List Ch} {d : Option Tmp} {ty : TypeId} {pos : String} {af : Array Edge} {gd : Option (Nat × Bool)}
theorem kx_bsN {T E:TypeId} {z:Value} {cs:List Value} {sz by_:Nat} {x:Operand} (hT:elB P T=some E) (hi:infB P E=some (some z,sz,by_)) (hx:evO t x=some (.agg cs.toArray)) (hl:cs.length=sz) (hs:decide (0<sz/\sz<=1000)=true)
 (hk : ∀ b,K (putL t d (.slice (some ⟨b,0,none⟩) 1 1)) (pt b (.cells cs.toArray E (0,0))::H)):SWo P l r ⟨d,.buildSlice T 1 #[(0,x)],ty,pos,af,gd⟩ K t H :=
 kx_bs (fun w=>by
  obtain ⟨i,h1,h2,h3,h4⟩:=infB_s hi
  have hs':0<sz/\sz<=1000:=by simpa using hs
  refine run_buildSlice (P:=P) w T E 1 _ cs.toArray i z (elB_s hT) h1 h2 (by rw [h3];omega) (by rw [h3];omega) ?_
  simp only [List.map_toArray,List.map_cons,List.map_nil,ev_of hx]
  exact fill_one (by simp [h3]) (by simp [h3]) hl) hk
theorem kx_appendN {T E E':TypeId} {fz:Nat × Nat} {z:Value} {sz by_ n b:Nat} {x y:Operand} {v:Value} {xs cs:List Value} {H1 H2:List Ch}
 (hT:elB P T=some E) (hi:infB P E=some (some z,sz,by_)) (hzs:z.cells.size=sz) (hs:decide (0<sz)=true) (hx:evO t x=some v) (hy:evO t y=some (.slice (some ⟨b,0,none⟩) 1 1))
 (ht:Take (RowC E sz v n xs) H H1) (hp:Take (pt b (.cells cs.toArray E' fz)) H1 H2) (hl:cs.length=sz) (h1:cs.all one?=true) (hb:(n+1)*(by_+1)<=140737488355328)
 (hk : ∀ a' c',K (putL t d (.slice a' (n+1) c')) (RowC E sz (.slice a' (n+1) c') (n+1) (xs++cs)::H2)):SWo P l r ⟨d,.call { callee:= .builtin .append,args := #[x,y],argTypes := #[T,T] },ty,pos,af,gd⟩ K t H:=by
 have hb1:(n+1)*by_<=(n+1)*(by_+1):=Nat.mul_le_mul_left _ (by omega)
 have hb2:(n+1)*1<=(n+1)*(by_+1):=Nat.mul_le_mul_left _ (by omega)
 refine swo_weak (kx_append (m:=1) (news:=cs) hT hi hzs hs hx hy ht (by rw [hl,Nat.one_mul]) ?_ h1 (by unfold maxLen;omega) (by omega) fun a' c'=>⟨_,_,hp.there,hk a' c'⟩)
 intro j w hw
 rw [add_none]
 exact rl_pt hp (by rw [Nat.zero_add];exact hw)
theorem kx_lendC {o:Oper} {A:Ch} {H1:List Ch} (ht:Take A H H1) (h : ∀ r' g,sub r r'->sub g r'->A g->SWo P l r' o (fun t' H'=>K t' (A::H')) t H1):SWo P l r o K t H:=by
 intro w h0 ds ok al
 obtain ⟨g,k,d,rfl,hg,hk⟩:=ht.all al
 refine wpIn_noQ ?_ (h (un r g) g (fun b o e=>un_left e) (fun b o e=>un_right (dj_un.1 ok.dj).1 e) hg w k ds (ok.lend d) hk)
 rintro a' w' ⟨t',H',k',rfl,h2,al',to'⟩
 obtain ⟨d',tb⟩:=To.back ok d to'
 exact ⟨t',_,_,rfl,h2,⟨g,k',d',rfl,hg,al'⟩,tb⟩
end
theorem Tri.up {P:Program} {r r':Hp} {f:FuncId} {args:List Value} {H:List Ch} {R:Rt} (h:Tri P r f args H R) (hs:sub r r'):Tri P r' f args H R:=by
 rw [tri_iff] at h ⊢
 intro w g o al
 have hdj:dj r g:=fun b=>(o.dj b).imp_left fun c=>by
  cases e:r b with
  | none=>rfl
  | some u=>rw [hs b u e] at c;cases c
 have o':Ok none r [] w g:=⟨o.emb,fun b u e=>o.ro b u (hs b u e),hdj,trivial,fun _ c=>by cases c⟩
 refine (h w g o' al).mono ?_
 rintro e w' ⟨v,H',h',rfl,hR,al',to⟩
 refine ⟨v,H',h',rfl,hR,al',⟨⟨to.ok.emb,fun b u e=>?_,fun b=>?_,trivial,fun _ c=>by cases c⟩,to.os,to.tape,to.output,to.size,to.keep,to.dom,to.grew⟩⟩
 · rw [to.keep b (o.ro.lt (by simp [e])) ((o.dj b).resolve_left (by simp [e]))];exact o.ro b u e
 · cases e:h' b with
   | none=>exact .inr rfl
   | some u =>
    left
    rcases to.dom b (by simp [e]) with c|c
    · exact (o.dj b).resolve_right c
    · cases e':r' b with
      | none=>rfl
      | some u'=>have:=o.ro.lt (b:=b) (by simp [e']);omega
end Sx
end Go.Proofs.YteknekiclhnkiaaGreatDoor
namespace Go.Proofs.YteknekiclhnkiaaGreatDoor
open Go.RowKit
namespace Sx
def RdC (v:Value) (l:List UInt8):Ch:=fun g=>Sl g 1 v l.length (u8s l)
def strB (P:Program) (T:TypeId):Bool:=match P.underlying T with|some .string=>true | _=>false
def u8B (P:Program) (T:TypeId):Bool:=match P.underlying T with|some (.int .u8)=>true | _=>false
theorem strB_s {P:Program} {T:TypeId} (h:strB P T=true):P.underlying T=some .string:=by
 unfold strB at h;split at h
 · assumption
 · cases h
theorem u8B_s {P:Program} {T:TypeId} (h:u8B P T=true):P.underlying T=some (.int .u8):=by
 unfold u8B at h;split at h
 · assumption
 · cases h
theorem run_b2s {P:Program} {src dst e:TypeId} {n:Nat} {v:Value} {l:List UInt8} {g:Hp} {w:World} (hT:elB P src=some e) (h8:u8B P e=true) (hd:strB P dst=true) (hv:Sl g 1 v n (u8s l)) (hg:Emb g w) :
 (convert src dst v).run P w = .ok (.string (bs l)) w:=by
 rcases hv.2.2 with ⟨⟨a,rfl⟩,h0⟩ | ⟨b,off,cap,c,E,fz,rfl,h1,h2,h3⟩
 · have hl:l=[]:=by have:=hv.1;rw [h0] at this;simpa [u8s] using this
   subst hl
   cases a with
   | none=>exact run_convert_bytes_nil w src e (elB_s hT) (u8B_s h8) 0 0 dst (strB_s hd)
   | some a=>exact run_convert_bytes_back (P:=P) w src dst e a 0 [] (elB_s hT) (u8B_s h8) (strB_s hd) (fun j hj=>by cases hj)
 · have hl:l.length=n:=by have:=hv.1;simpa [u8s] using this
   have hh:=run_convert_bytes_arg (P:=P) w src e (elB_s hT) (u8B_s h8) b off n cap (l.map fun b=>(b.toNat:Int)) (by simpa using hl) (fun i hi=>by
    have hi':i<(u8s l).length:=by simp [u8s];omega
    have h5:=rd_r (r:=g) (H:=[]) h2 (h3 i hi') w emp hg (fun b o c=>by cases c) rfl
    rw [h5]
    have hil:i<l.length:=by omega
    simp [u8s,List.getD,hil]) dst (strB_s hd)
   rw [hh]
   congr 2
   have:(l.map fun b=>(b.toNat:Int)).map (fun n=>UInt8.ofNat n.toNat)=l:=by
    rw [List.map_map]
    conv=>rhs;rw [← List.map_id l]
    apply List.map_congr_left
    intro b _
    simp
   simp only [strOfNums,bs,this]
section
variable {P : Program} {l : Option Nat} {r : Hp} {Q : Exit → St} {K : St} {t : List Value} {H : List Ch} {d : Option Tmp} {ty : TypeId} {pos : String} {af : Array Edge} {gd : Option (Nat × Bool)}
theorem kx_b2sr {src dst e:TypeId} {n:Nat} {v:Value} {x:Operand} {bl:List UInt8} (hT:elB P src=some e) (h8:u8B P e=true) (hd:strB P dst=true) (hx:evO t x=some v) (hv:Sl r 1 v n (u8s bl)) (hk:K (putL t d (.string (bs bl))) H):SWo P l r ⟨d,.convert src dst x,ty,pos,af,gd⟩ K t H :=
 swo_run (fun c hc=>by cases hc) fun w g ds ok al=>by
  refine ⟨_,w,H,g,?_,hk,al,To.refl ok⟩
  have:=run_b2s (w:=w) hT h8 hd hv ok.ro
  simp only [execOp,Sem.run_bind,ev_of hx,this,Result.andThen,Sem.run_pure]
theorem kx_s2b {src dst e:TypeId} {x:Operand} {bl:List UInt8} (hs:strB P src=true) (hT:elB P dst=some e) (h8:u8B P e=true) (hx:evO t x=some (.string (bs bl))) (hn:bl.length<=maxLen)
 (hk : ∀ a c,K (putL t d (.slice a bl.length c)) (RdC (.slice a bl.length c) bl::H)):SWo P l r ⟨d,.convert src dst x,ty,pos,af,gd⟩ K t H :=
 swo_run (fun c hc=>by cases hc) fun w g ds ok al=>by
  have hr:=run_bytes_of_string (P:=P) w src dst e (bs bl) (strB_s hs) (elB_s hT) (u8B_s h8)
  obtain ⟨cap,hcap⟩ : ∃ cap,grownCap w (bs bl).size 0 e=cap:=⟨_,rfl⟩
  rw [hcap] at hr
  have okd:Ok l r ds w.drew g:=⟨ok.emb,ok.ro,ok.dj,ok.marks.mono (fun D a b _=>⟨a,b⟩),ok.loop⟩
  have tod:To l r ds w g ds w.drew g:=⟨okd,rfl,rfl,rfl,Nat.le_refl _,fun _ _ _=>rfl,fun _ hb=> .inl hb,fun _ hd=> .inl hd⟩
  obtain ⟨dd,to⟩:=alloc_to okd (.cells (bytesRow (bs bl) cap) e ((bytesRow (bs bl) cap).size,(bytesRow (bs bl) cap).size+1))
  rw [bs_size] at hr
  refine ⟨.slice (some ⟨w.heap.size,0,none⟩) bl.length cap,_,_,_,by simp only [execOp,Sem.run_bind,ev_of hx,hr,Result.andThen,Sem.run_pure],hk _ _,⟨_,_,dd,rfl,?_,al⟩,tod.trans to⟩
  have hle:bl.length<=cap:=by rw [← hcap,← bs_size bl];exact grownCap_ge w _ 0 e
  refine ⟨by simp [u8s],hn,.inr ⟨_,0,cap,_,_,_,rfl,hle,one_same,fun j hj=>?_⟩⟩
  have hj':j<bl.length:=by simpa [u8s] using hj
  rw [Nat.zero_add]
  refine (bytesRow_at (bs bl) cap j (show j<(bs bl).data.size from by simpa [bs] using hj')).trans ?_
  simp [u8s]
  rfl
end
end Sx
end Go.Proofs.YteknekiclhnkiaaGreatDoor
namespace Go.Proofs.YteknekiclhnkiaaGreatDoor
open Go.RowKit
namespace Sx
section
variable {P : Program} {l : Option Nat} {r : Hp} {Q : Exit → St} {K : St} {t : List Value} {H : List Ch} {d : Option Tmp} {ty : TypeId} {pos : String} {af : Array Edge} {gd : Option (Nat × Bool)}
theorem RowC.cap {E:TypeId} {sz n m c:Nat} {a:Option Addr} {xs:List Value} {g:Hp} (h:RowC E sz (.slice a m c) n xs g):n<=c/\c<=maxLen:=by
 rcases h.2 with ⟨e,e2,_⟩ | ⟨g,cap,cur,e,_,h3,h4,_⟩
 · injection e with _ _ e3;subst e2;subst e3;exact ⟨Nat.le_refl _,by simp [maxLen]⟩
 · injection e with _ _ e3;subst e3;exact ⟨h3,h4⟩
end
end Sx
end Go.Proofs.YteknekiclhnkiaaGreatDoor
