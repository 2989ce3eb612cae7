/- The frame words 'Ext' and 'ExtC' (what a step may turn), iterators with state in cells ('Iter'), and the law of a range over such an iterator; no program is named. -/
import Derived.RangeFuncNested
import Derived.RangeFuncBound
import Derived.RangeFuncCalls
import Derived.RangeFuncLeaves
import Derived.WalkKit
import Derived.OwnWalkIn
import Derived.TacticsInMore
import Derived.LoopNIn
import Derived.LoopIn
import Derived.Deep.Draws
import Derived.Lib.ConvBytes
import Derived.Maps.AppendAt
import Derived.Deep.LoopGhost
import Derived.Sort.LoopGhostIn
namespace Go.Proofs.YteknekiclhnkiaaGreatDoor
open Go.RowKit
theorem hid {p:Prop} (h:p):Hid p:=h
def isData:Obj->Bool
 | .cells .. => true
 | .map .. => true
 | _=>false
structure Ext (S:Nat->Prop) (A B:World):Prop where
 os:B.os=A.os
 tape:B.tape=A.tape
 output:B.output=A.output
 size:A.heap.size<=B.heap.size
 keep : ∀ (k:Nat),k<A.heap.size->¬ S k->B.heap[k]?=A.heap[k]?
 book : ∀ (k:Nat) (o:Obj),A.heap[k]?=some o->isData o=false->B.heap[k]?=some o
structure ExtC (S:Nat->Prop) (n:Nat) (A B:World):Prop where
 os:B.os=A.os
 tape:B.tape=A.tape
 output:B.output=A.output
 size:A.heap.size<=B.heap.size
 keep : ∀ (k:Nat) (o:Obj),A.heap[k]?=some o->(isData o=true/\¬ S k)\/(isData o=false/\k<n)->B.heap[k]?=some o
def Nil:Nat->Prop:=fun _=>False
section
variable {S S' : Nat → Prop} {A B C : World}
theorem Ext.refl (S) (A:World):Ext S A A:=⟨rfl,rfl,rfl,Nat.le_refl _,fun _ _ _=>rfl,fun _ _ h _=>h⟩
theorem Ext.trans (h:Ext S A B) (k:Ext S B C):Ext S A C :=
 ⟨k.os.trans h.os,k.tape.trans h.tape,k.output.trans h.output,Nat.le_trans h.size k.size,fun i hi hs=>(k.keep i (Nat.lt_of_lt_of_le hi h.size) hs).trans (h.keep i hi hs),fun i o hi ho=>k.book i o (h.book i o hi ho) ho⟩
theorem Ext.mono (h:Ext S A B) (hs : ∀ k,k<A.heap.size->S k->S' k):Ext S' A B :=
 ⟨h.os,h.tape,h.output,h.size,fun k hk hn=>h.keep k hk (fun c=>hn (hs k hk c)),h.book⟩
theorem Ext.nil (h:Ext Nil A B):Ext S A B:=h.mono (fun _ _ c=>c.elim)
theorem Ext.drew (h:Ext S A B):Ext S A B.drew:=⟨h.os,h.tape,h.output,h.size,h.keep,h.book⟩
theorem Ext.drewN (h:Ext S A B) (n:Nat):Ext S A (B.drewN n):=⟨h.os,h.tape,h.output,h.size,h.keep,h.book⟩
theorem Ext.alloc (h:Ext S A B) (o:Obj):Ext S A (B.alloc o) :=
 h.trans ⟨rfl,rfl,rfl,by simp,fun k hk _=>Below.heap_alloc _ _ _ hk,fun k o' hk _=>(Below.heap_alloc B o k (Array.getElem?_eq_some_iff.1 hk).1).trans hk⟩
theorem setCell_book (W:World) (a:Addr) (v:Value) (k:Nat) (o:Obj) (hk:W.heap[k]?=some o) (ho:isData o=false):(W.setCell a v).heap[k]?=some o :=
 (KeepsOthers.setCell W a v).same k o hk (by cases o<;>simp_all [isData,Obj.isCells])
theorem Ext.setCell (h:Ext S A B) {p:Addr} (hp:S p.block\/A.heap.size<=p.block) (v:Value):Ext S A (B.setCell p v) :=
 ⟨h.os,h.tape,h.output,by simpa [World.setCell] using h.size,
  fun k hk hs=>(Below.heap_setCell B p v k (by rintro rfl;rcases hp with hp|hp;exact hs hp;omega)).trans (h.keep k hk hs),
  fun k o hk ho=>setCell_book _ _ _ _ _ (h.book k o hk ho) ho⟩
theorem Ext.grown (h:Ext S A B) {row:Option Nat} (hg:B.grownBy C row) (hr : ∀ k,row=some k->(S k\/A.heap.size<=k) /\ ∀ o,B.heap[k]?=some o->isData o=true):Ext S A C :=
 ⟨hg.os.trans h.os,hg.tape.trans h.tape,hg.output.trans h.output,Nat.le_trans h.size hg.size,
  fun k hk hs=>(hg.block k (Nat.lt_of_lt_of_le hk h.size) (fun e=>by rcases (hr k e.symm).1 with c|c;exact hs c;omega)).trans (h.keep k hk hs),
  fun k o hk ho=>by
   have hb:=h.book k o hk ho
   refine (hg.block k (Array.getElem?_eq_some_iff.1 hb).1 (fun e=>?_)).trans hb
   have:=(hr k e.symm).2 o hb
   rw [ho] at this;cases this⟩
theorem Ext.below {n:Nat} (h:Ext S A B) (hn:n<=A.heap.size) (hs : ∀ k,k<n->¬ S k):Below n A B :=
 ⟨h.os,h.tape,h.output,h.size,fun k hk=>h.keep k (by omega) (hs k hk)⟩
theorem Ext.c (h:Ext S A B) (n:Nat):ExtC S n A B :=
 ⟨h.os,h.tape,h.output,h.size,fun k o hk hs=>by
  rcases hs with ⟨_,hs⟩ | ⟨hs,_⟩
  · exact (h.keep k (Array.getElem?_eq_some_iff.1 hk).1 hs).trans hk
  · exact h.book k o hk hs⟩
theorem Ext.blk (h:Ext S A B) {k:Nat} {o:Obj} (hk:A.heap[k]?=some o) (hs:¬ S k):B.heap[k]?=some o :=
 (h.keep k (Array.getElem?_eq_some_iff.1 hk).1 hs).trans hk
theorem Ext.cell (h:Ext S A B) {p:Addr} {v:Value} (hk:A.cell? p=some v) (hs:¬ S p.block):B.cell? p=some v:=by
 have hlt:p.block<A.heap.size:=by
  rcases Nat.lt_or_ge p.block A.heap.size with c|c
  · exact c
  · simp [World.cell?,Array.getElem?_eq_none c] at hk
 exact (World.cell?_of_block (h.keep p.block hlt hs)).trans hk
theorem Ext.frozen (h:Ext S A B) {p:Addr} (hp:p.block<A.heap.size) (hs:¬ S p.block):B.frozen? p=A.frozen? p:=World.frozen?_of_block (h.keep p.block hp hs)
variable {n n' : Nat}
theorem ExtC.refl (S) (n:Nat) (A:World):ExtC S n A A:=(Ext.refl S A).c n
theorem ExtC.trans (h:ExtC S n A B) (k:ExtC S n B C):ExtC S n A C :=
 ⟨k.os.trans h.os,k.tape.trans h.tape,k.output.trans h.output,Nat.le_trans h.size k.size,fun i o hi ho=>k.keep i o (h.keep i o hi ho) ho⟩
theorem ExtC.mono (h:ExtC S n A B) (hs : ∀ k,k<A.heap.size->S k->S' k) (hn:n'<=n):ExtC S' n' A B :=
 ⟨h.os,h.tape,h.output,h.size,fun k o hk ho=>h.keep k o hk (ho.imp (fun c=>⟨c.1,fun d=>c.2 (hs k (Array.getElem?_eq_some_iff.1 hk).1 d)⟩) (fun c=>⟨c.1,by omega⟩))⟩
theorem ExtC.nil (h:ExtC Nil n A B):ExtC S n A B:=h.mono (fun _ _ c=>c.elim) (Nat.le_refl _)
theorem ExtC.blk (h:ExtC S n A B) {k:Nat} {o:Obj} (hk:A.heap[k]?=some o) (ho:isData o=true) (hs:¬ S k):B.heap[k]?=some o:=h.keep k o hk (.inl ⟨ho,hs⟩)
theorem data_of_cell {W:World} {p:Addr} {v:Value} (hk:W.cell? p=some v) : ∃ o,W.heap[p.block]?=some o/\isData o=true:=by
 unfold World.cell? at hk
 cases ho:W.heap[p.block]? with
 | none=>simp [ho] at hk
 | some o=>exact ⟨o,rfl,by cases o<;>simp_all [isData]⟩
theorem ExtC.cell (h:ExtC S n A B) {p:Addr} {v:Value} (hk:A.cell? p=some v) (hs:¬ S p.block):B.cell? p=some v:=by
 obtain ⟨o,ho,hd⟩:=data_of_cell hk
 exact (World.cell?_of_block ((h.keep _ _ ho (.inl ⟨hd,hs⟩)).trans ho.symm)).trans hk
theorem ExtC.frozen (h:ExtC S n A B) {p:Addr} {v:Value} (hk:A.cell? p=some v) (hs:¬ S p.block):B.frozen? p=A.frozen? p:=by
 obtain ⟨o,ho,hd⟩:=data_of_cell hk
 exact World.frozen?_of_block ((h.keep _ _ ho (.inl ⟨hd,hs⟩)).trans ho.symm)
theorem ExtC.alloc (h:ExtC S n A B) (o:Obj):ExtC S n A (B.alloc o):=h.trans (((Ext.refl S B).alloc o).c n)
theorem ExtC.drew (h:ExtC S n A B):ExtC S n A B.drew:=h.trans (((Ext.refl S B).drew).c n)
theorem ExtC.setCell (h:ExtC S n A B) {p:Addr} (hp:S p.block\/B.heap.size<=p.block) (v:Value):ExtC S n A (B.setCell p v):=h.trans (((Ext.refl S B).setCell hp v).c n)
theorem ExtC.putObj (h:ExtC S n A B) {k:Nat} {o:Obj} (o':Obj) (hk:B.heap[k]?=some o) (ho:isData o=false) (hn:n<=k):ExtC S n A (B.putObj k o') :=
 h.trans ⟨rfl,rfl,rfl,by simp,fun i u hi hu=>by
  by_cases e:i=k
  · subst e;rw [hk] at hi;cases hi;rcases hu with ⟨hu,_⟩ | ⟨_,hu⟩
    · rw [ho] at hu;cases hu
    · omega
  · exact (World.putObj_heap_other e).trans hi⟩
end
abbrev W9:Fence:=Fence.wide
abbrev WR (l:Nat):Fence:=Fence.wide.inRound l
theorem inR {P:Program} {f:FuncId} {args:Array Value} {w:World} {R:Ending->World->Prop} (l:Nat) (h:Calls P f args w R):CallsIn (WR l) 0 P f args w R:=CallsIn.inRound l (callsIn_wide.2 h)
section
variable {P : Program}
def GoesTo (P:Program) (gf:Nat):Prop := ∀ args w,(callFunc gf args).run P w = .ok (.enter gf args) w
end
section
variable {W : World} {b : Nat} {v : Value} {t : TypeId}
end
def bs (l:List UInt8):ByteArray:=⟨l.toArray⟩
theorem bs_data (l:List UInt8):(bs l).data.toList=l:=rfl
theorem bs_size (l:List UInt8):(bs l).size=l.length:=by simp [bs,ByteArray.size]
def Row (w:World) (ok:Nat->Prop) (e:TypeId) (size:Nat) (v:Value) (n:Nat) (xs:List Value):Prop :=
 w.ownsRow 0 e size v n xs /\ ∀ g,v.ownBlock=some g->ok g
section
variable {w w' : World} {ok ok' : Nat → Prop} {e : TypeId} {size n : Nat} {v : Value} {xs : List Value}
theorem Row.nil (w:World) (ok:Nat->Prop) (e:TypeId) (size:Nat):Row w ok e size (.slice none 0 0) 0 []:=⟨World.ownsRow_nil _ _ _ _,fun _ h=>by simp [Value.ownBlock] at h⟩
theorem Row.mono (h:Row w ok e size v n xs) (hk : ∀ g,ok g->ok' g):Row w ok' e size v n xs:=⟨h.1,fun g hg=>hk g (h.2 g hg)⟩
theorem Row.form (h:Row w ok e size v n xs):(v = .slice none 0 0/\n=0/\xs=[]) \/ ∃ g cap cur,v = .slice (some ⟨g,0,none⟩) n cap/\ok g/\w.heap[g]?=some (.cells cur e (0,0))/\n<=cap/\cap<=maxLen/\cur.size=cap*size/\cur.toList.take (n*size)=xs:=by
 obtain ⟨⟨h1,h2⟩,h3⟩:=h
 rcases h2 with ⟨rfl,rfl⟩ | ⟨g,cap,cur,rfl,_,hh,hnc,hcm,hcs,ht⟩
 · exact .inl ⟨rfl,rfl,by simpa using h1⟩
 · exact .inr ⟨g,cap,cur,rfl,h3 g rfl,hh,hnc,hcm,hcs,ht⟩
theorem Row.of_form {g cap:Nat} {cur:Array Value} (hg:ok g) (hh:w.heap[g]?=some (.cells cur e (0,0))) (hnc:n<=cap) (hcm:cap<=maxLen) (hcs:cur.size=cap*size) (ht:cur.toList.take (n*size)=xs):Row w ok e size (.slice (some ⟨g,0,none⟩) n cap) n xs :=
 ⟨⟨by rw [← ht,List.length_take,Array.length_toList,hcs];exact Nat.min_eq_left (Nat.mul_le_mul_right _ hnc),.inr ⟨g,cap,cur,rfl,Nat.zero_le _,hh,hnc,hcm,hcs,ht⟩⟩,fun g' hg'=>by simp [Value.ownBlock] at hg';subst hg';exact hg⟩
theorem Row.keep (h:Row w ok e size v n xs) (hk : ∀ g o,ok g->w.heap[g]?=some o->isData o=true->w'.heap[g]?=some o):Row w' ok e size v n xs:=by
 rcases h.form with ⟨rfl,rfl,rfl⟩ | ⟨g,cap,cur,rfl,hg,hh,hnc,hcm,hcs,ht⟩
 · exact Row.nil _ _ _ _
 · exact Row.of_form hg (hk g _ hg hh rfl) hnc hcm hcs ht
theorem Row.ext {S:Nat->Prop} (h:Row w ok e size v n xs) (hx:Ext S w w') (hs : ∀ g,ok g->¬ S g):Row w' ok e size v n xs:=h.keep fun g _ hg hh _=>hx.blk hh (hs g hg)
theorem Row.alloc (h:Row w ok e size v n xs) (o:Obj):Row (w.alloc o) ok e size v n xs:=⟨h.1.alloc o,h.2⟩
theorem Row.drew (h:Row w ok e size v n xs):Row w.drew ok e size v n xs:=h
theorem Row.drewN (h:Row w ok e size v n xs) (k:Nat):Row (w.drewN k) ok e size v n xs:=h
theorem Row.len (h:Row w ok e size v n xs):xs.length=n*size:=h.1.1
theorem Row.cell (h:Row w ok e 1 v n xs) {j:Nat} (hj:j<xs.length) : ∃ g cap,v = .slice (some ⟨g,0,none⟩) n cap/\ok g/\n<=cap/\w.cell? ⟨g,j,none⟩=some xs[j]:=by
 rcases h.form with ⟨rfl,rfl,rfl⟩ | ⟨g,cap,cur,rfl,hg,hh,hnc,hcm,hcs,ht⟩
 · simp at hj
 · refine ⟨g,cap,rfl,hg,hnc,?_⟩
   subst ht
   have hj':j<cur.size:=by simp at hj;omega
   simp [World.cell?,hh]
end
section
variable {P : Program}
end
end Go.Proofs.YteknekiclhnkiaaGreatDoor
