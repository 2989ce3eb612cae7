/- gram.places, Grams: their contracts. -/
import Derived.Test.YteknekiclhnkiaaGreatDoorVi
import Derived.Test.YteknekiclhnkiaaGreatDoorOa
import Derived.Lib.BytesEntry
import Derived.Shelf.SlSortCmp.NoneTotal
import Derived.Shelf.Lay
import Derived.Ground.SlsfProg
import Derived.Sort.Walk0
import Derived.Deep.QuietTactic
import Derived.BigQuiet
import Derived.Test.YteknekiclhnkiaaGreatDoorMp
import Derived.DeepKeys4
import Derived.Test.YteknekiclhnkiaaGreatDoorOb
set_option maxHeartbeats 4000000
set_option maxRecDepth 100000
namespace Go.Proofs
open Go.Shelf
shelf_lay_g SlLaysF0.n6 Slsf 6 at Tryz 70 as Tryz.gSort
end Go.Proofs
namespace Go.Proofs.YteknekiclhnkiaaGreatDoor
open Go.RowKit Go.Sort Sx
abbrev G3:=UInt8 × UInt8 × UInt8
def txG (g:G3):Tx:=[g.1,g.2.1,g.2.2]
def encG3 (g:G3):List Value:=[.int .u8 g.1.toNat,.int .u8 g.2.1.toNat,.int .u8 g.2.2.toNat]
theorem txG_inj {a b:G3} (h:txG a=txG b):a=b:=by
 obtain ⟨a1,a2,a3⟩:=a
 obtain ⟨b1,b2,b3⟩:=b
 simp only [txG,List.cons.injEq,and_true] at h
 rw [h.1,h.2.1,h.2.2]
def cmpL3:List UInt8->List UInt8->Int:=Lib.compareBytes
theorem cmpL3_neg : ∀ a b:List UInt8,cmpL3 a b<0↔a<b
 | [],[]=>by simp [cmpL3,Lib.compareBytes]
 | [],_::_=>by simp [cmpL3,Lib.compareBytes]
 | _::_,[]=>by simp [cmpL3,Lib.compareBytes]
 | a::l,b::m=>by
  have ih:=cmpL3_neg l m
  unfold cmpL3 at ih ⊢
  unfold Lib.compareBytes
  rw [List.cons_lt_cons_iff]
  by_cases h1:a<b
  · rw [if_pos h1];simp [h1]
  · rw [if_neg h1]
    by_cases h2:b<a
    · rw [if_pos h2]
      have:¬ a=b:=fun e=>by rw [e] at h2;exact absurd h2 (UInt8.lt_irrefl b)
      simp [h1,this]
    · rw [if_neg h2,ih]
      have:a=b:=UInt8.le_antisymm (UInt8.not_lt.1 h2) (UInt8.not_lt.1 h1)
      simp [this]
theorem bcmp_w (b c:Nat) (x y:G3) (W:World) (E1 E2:TypeId) (f1 f2:Nat × Nat) (h1:W.heap[b]?=some (.cells (encG3 x).toArray E1 f1)) (h2:W.heap[c]?=some (.cells (encG3 y).toArray E2 f2)):Calls Tryz.prog 72 #[.slice (some ⟨b,0,none⟩) 3 3,.slice (some ⟨c,0,none⟩) 3 3] W fun e w'=>e = .returned (.int .i64 (cmpL3 (txG x) (txG y)))/\w'=W:=by
 have hr : ∀ (d:Nat) (z:G3) (E:TypeId) (f:Nat × Nat),W.heap[d]?=some (.cells (encG3 z).toArray E f)->(Extern.Bytes.bytesOf (.slice (some ⟨d,0,none⟩) 3 3)).run Tryz.prog W = .ok ⟨(txG z).toArray⟩ W:=fun d z E f h=>by
  have hl:=Lib.run_loadBytesX (P:=Tryz.prog) W [z.1.toNat,z.2.1.toNat,z.2.2.toNat] ⟨d,0,none⟩ .empty (fun j u hj=>by
   unfold World.cell?
   have e:(⟨d,0,none⟩:Addr).add j=⟨d,j,none⟩:=by unfold Addr.add;split<;>simp_all
   rw [e]
   simp only [h]
   match j,hj with
   | 0,hj=>simp at hj;subst hj;rfl
   | 1,hj=>simp at hj;subst hj;rfl
   | 2,hj=>simp at hj;subst hj;rfl
   | _+3,hj=>simp at hj)
  show (Extern.Bytes.loadBytes ⟨d,0,none⟩ 3 .empty).run Tryz.prog W=_
  rw [show (3:Nat)=[(z.1.toNat:Int),z.2.1.toNat,z.2.2.toNat].length from rfl,hl]
  congr 1
  apply ByteArray.ext
  simp [Lib.bytesOf,txG]
 have hx:=hr b x E1 f1 h1
 have hy:=hr c y E2 f2 h2
 have hc:(Extern.BytealgCompare.compare #[.slice (some ⟨b,0,none⟩) 3 3,.slice (some ⟨c,0,none⟩) 3 3]).run Tryz.prog W = .ok (.int .i64 (cmpL3 (txG x) (txG y))) W:=by
  change Sem.run Tryz.prog (do pure (goInt (Extern.BytealgCompare.cmp (← Extern.Bytes.bytesOf (.slice (some ⟨b,0,none⟩) 3 3)) (← Extern.Bytes.bytesOf (.slice (some ⟨c,0,none⟩) 3 3))))) W=_
  simp only [Sem.run_bind,hx,hy,Sem.run_pure,Result.andThen]
  rw [Lib.cmp_eq]
  rfl
 go_enter Tryz.func72,Tryz.ntmps72
 go_wp2
 rw [run_callFunc_extern Tryz.func114 (by kernel_rfl) (by kernel_rfl) (by kernel_rfl) (e:=Extern.BytealgCompare.compare) (by kernel_rfl),hc]
 simp only [Result.andThen]
 rw [Oper.upon_value]
 go_wp2
 go_ret
 exact ⟨rfl,rfl⟩
theorem alloc2_a (W:World) (o1 o2:Obj) (n:Nat):(((W.alloc o1).alloc o2).drewN n).heap[W.heap.size]?=some o1:=by
 show ((W.heap.push o1).push o2)[W.heap.size]?=_
 rw [Array.getElem?_push_lt (by simp),Array.getElem_push_eq]
theorem alloc2_b (W:World) (o1 o2:Obj) (n:Nat):(((W.alloc o1).alloc o2).drewN n).heap[W.heap.size+1]?=some o2:=by
 show ((W.heap.push o1).push o2)[W.heap.size+1]?=_
 rw [show W.heap.size+1=(W.heap.push o1).size by simp,Array.getElem?_push_size]
theorem places1_w (x y:G3) (W:World):Calls Tryz.prog 71 #[.agg (encG3 x).toArray,.agg (encG3 y).toArray] W fun e w'=>e = .returned (.int .i64 (cmpL3 (txG x) (txG y))) /\ ∃ q os',w'=grow (W.drewN q) os':=by
 have hcon:=fun b c W' E1 E2 f1 f2 h1 h2=>bcmp_w b c x y W' E1 E2 f1 f2 h1 h2
 generalize cmpL3 (txG x) (txG y)=z at hcon ⊢
 go_enter Tryz.func71,Tryz.ntmps71
 go_wp2
 go_quiet (first|(go_at_call 72;refine Calls.quiet_of_same (hcon _ _ _ _ _ _ _ (alloc2_a _ _ _ _) (alloc2_b _ _ _ _))))
 go_wp2
 go_ret
 exact ⟨rfl,_,_,by rw [alloc_eq_grow,alloc_eq_grow,grow_grow];rfl⟩
theorem flat_get3 {α:Type} (enc:α->List Value) (h : ∀ x,(enc x).length=3) : ∀ (l:List α) (t:Nat),(l.flatMap enc)[t]?=l[t / 3]?.bind fun x=>(enc x)[t % 3]?
 | [],t=>by simp
 | x::l,t=>by
  rw [List.flatMap_cons,List.getElem?_append,h]
  by_cases c:t<3
  · rw [if_pos c,show t / 3=0 by omega,show t % 3=t by omega];rfl
  · rw [if_neg c,flat_get3 enc h l (t - 3),show t / 3=(t - 3) / 3+1 by omega,show t % 3=(t - 3) % 3 by omega];rfl
theorem flatK3 (l:List G3):(flatK encG3 3 l.toArray).toList=l.flatMap encG3:=by
 apply List.ext_getElem?
 intro t
 rw [flat_get3 encG3 (fun _=>rfl),Array.getElem?_toList]
 by_cases c:t<l.length*3
 · have h1:t<(flatK encG3 3 l.toArray).size:=by simpa using c
   have h2:=get_flatK encG3 3 l.toArray t (by simpa using c)
   have h3:t / 3<l.length:=by omega
   rw [getElem!_pos _ t h1,getElem!_pos l.toArray (t / 3) (by simpa using h3)] at h2
   rw [Array.getElem?_eq_getElem h1,h2,List.getElem?_eq_getElem h3,Option.bind_some]
   have h4:t % 3<(encG3 l[t / 3]).length:=by show t % 3<3;omega
   rw [List.getElem?_eq_getElem h4,List.getElem_toArray,getElem!_pos (encG3 l[t / 3]) (t % 3) h4]
 · rw [Array.getElem?_eq_none (by simp;omega),List.getElem?_eq_none (by omega)];rfl
theorem holdsG {w:World} {g:Nat} {cur:Array Value} {e:TypeId} {vs:Array Value} (hb:w.heap[g]?=some (.cells cur e (0,0))) (ht:cur.toList.take vs.size=vs.toList):Holds id w g 0 vs:=by
 intro j hj
 refine ⟨?_,by simp [World.frozen?,hb]⟩
 have h1:(cur.toList.take vs.size)[j]?=vs.toList[j]?:=by rw [ht]
 rw [List.getElem?_take_of_lt hj] at h1
 simp only [World.cell?,hb,Nat.zero_add]
 simp only [Option.isSome_none,Bool.false_eq_true,if_false]
 rw [← Array.getElem?_toList,h1]
 simp [hj]
theorem takePutG (cur vs:Array Value) (h:vs.size<=cur.size):(putCells id 0 vs cur).toList.take vs.size=vs.toList:=by
 apply List.ext_getElem?
 intro j
 by_cases hj:j<vs.size
 · rw [List.getElem?_take_of_lt hj,Array.getElem?_toList]
   simp [putCells,hj,show j<cur.size by omega]
 · rw [List.getElem?_take_eq_none (by omega),List.getElem?_eq_none (by simp;omega)]
theorem ltG (x y:G3):ltOf (fun x y:G3=>cmpL3 (txG x) (txG y)) x y=decide (txG x<txG y):=by
 show decide _=_
 rw [decide_eq_decide]
 exact cmpL3_neg _ _
theorem swoG:SWO (ltOf fun x y:G3=>cmpL3 (txG x) (txG y)) where
 irrefl x:=by rw [ltG];simp
 trans x y z h1 h2:=by
  rw [ltG,decide_eq_true_eq] at *
  exact List.lt_trans h1 h2
 ntrans x y z h1 h2:=by
  rw [ltG,decide_eq_false_iff_not] at *
  exact List.not_lt.2 (List.le_trans (List.not_lt.1 h2) (List.not_lt.1 h1))
theorem sortG_tri (r:Hp) (a:Option Addr) (c:Nat) (fs:List G3) (hn:fs.Nodup) (hl:fs.length<=10000000) :
 Tri Tryz.prog r 70 [.slice a fs.length c,.func (.func 71) #[] #[]] [RowC 88 3 (.slice a fs.length c) fs.length (fs.flatMap encG3)] fun _ H => ∃ gs:List G3,gs.Perm fs/\gs.Pairwise (fun x y=>txG x<txG y)/\H=[RowC 88 3 (.slice a fs.length c) fs.length (gs.flatMap encG3)]:=by
 by_cases h0:fs=[]
 · subst h0
   refine tri_iff.2 fun w g ok al=>?_
   refine (AnyF.slices_SortFunc_none Tryz.gSort a c _ w).mono fun e w' h=>?_
   obtain ⟨he,hw⟩:=h
   subst hw
   exact ⟨_,_,g,he,⟨[],List.Perm.refl _,List.Pairwise.nil,rfl⟩,al,To.refl ok⟩
 have hpos:0<fs.length:=List.length_pos_iff.2 h0
 refine tri_rowS hpos fun b cur ha h1 h2 h3 h4=>?_
 subst ha
 have eg : ∀ args w,(callFunc 71 args).run Tryz.prog w = .ok (.enter 71 args) w:=enters_of Tryz.func71 (by kernel_rfl) rfl
 refine tri_cv (tri_inplace (R:=fun _ cur' => ∃ gs:List G3,gs.Perm fs/\gs.Pairwise (fun x y=>txG x<txG y)/\cur'.size=c*3/\cur'.toList.take (fs.length*3)=gs.flatMap encG3) fun w ro hb=>?_) fun v H ⟨cur',hH,gs,hp,hq,hs,ht⟩=>?_
 · have hbs:b<w.heap.size:=(Array.getElem?_eq_some_iff.1 hb).1
   have hH:HoldsK encG3 3 w b 0 fs.toArray:=holdsG hb (by rw [flatK3,size_flatK];exact h4)
   have hcmp:CmpLays Tryz.prog 71 #[] encG3 3 (fun x y:G3=>cmpL3 (txG x) (txG y)) b 0 fs.toArray.size w:=fun m os dk _ x y=>by
    rw [Array.append_empty]
    exact places1_w x y _
   refine (AnyQ.slices_SortFunc Tryz.gSort 3 Tryz.isAgg88 Tryz.sizeOf88 encG3 (fun _=>rfl) (fun x v hv=>by
    simp only [encG3,List.mem_cons,List.not_mem_nil,or_false] at hv
    rcases hv with rfl|rfl|rfl<;>rfl) (fun x y:G3=>cmpL3 (txG x) (txG y)) swoG 71 #[] b 0 c fs.toArray w eg hcmp hH hbs (by show fs.length<_;omega)).mono fun e w' ⟨he,d',n,os,hp,hs,hw⟩=>?_
   obtain ⟨gs,rfl⟩ : ∃ gs:List G3,gs.toArray=d':=⟨d'.toList,by simp⟩
   have hsz:gs.length=fs.length:=hp.1
   have hpf:gs.Perm fs:=by
    have h:=hp.2.2
    have e1:(gs.toArray.extract 0 fs.toArray.size).toList=gs:=by simp [← hsz]
    have e2:(fs.toArray.extract 0 fs.toArray.size).toList=fs:=by simp
    rwa [e1,e2] at h
   have hgn:gs.Nodup:=hpf.nodup_iff.2 hn
   refine ⟨_,putCells id 0 (flatK encG3 3 gs.toArray) cur,he,?_,?_,gs,hpf,?_,?_,?_⟩
   · rw [hw]
     show ((putRow id (Sort.ahead w n) b 0 (flatK encG3 3 gs.toArray)).heap++os)[b]?=_
     rw [Array.getElem?_append_left (by simpa [putRow,mapBlock,Sort.ahead] using hbs)]
     simp [putRow,mapBlock,Sort.ahead,Array.getElem?_modify,hb,onCells]
   · rw [hw]
     refine ⟨rfl,rfl,rfl,by simp [sortWorldK,putRowK,grow,putRow,mapBlock,Sort.ahead],fun k hk hne=>?_⟩
     have:b≠k:=fun e=>hne (by rw [e])
     show ((putRow id (Sort.ahead w n) b 0 (flatK encG3 3 gs.toArray)).heap++os)[k]?=_
     rw [Array.getElem?_append_left (by simpa [putRow,mapBlock,Sort.ahead] using hk)]
     simp [putRow,mapBlock,Sort.ahead,Array.getElem?_modify,this]
   · refine List.pairwise_iff_getElem.2 fun i j hi hj hij=>?_
     have h:=hs i j (Nat.zero_le _) hij (by show j<fs.length;omega)
     rw [ltG,decide_eq_false_iff_not,getElem!_pos gs.toArray i (by simpa using hi),getElem!_pos gs.toArray j (by simpa using hj)] at h
     simp only [List.getElem_toArray] at h
     refine tx_tri h fun e=>?_
     exact List.pairwise_iff_getElem.1 hgn i j (by simpa using hi) (by simpa using hj) hij (txG_inj e).symm
   · simp [putCells,h3]
   · have h5:=takePutG cur (flatK encG3 3 gs.toArray) (by rw [size_flatK,h3];show gs.length*3<=_;rw [hsz];exact Nat.mul_le_mul_right 3 h1)
     rw [flatK3,size_flatK] at h5
     rw [← hsz]
     exact h5
 · refine ⟨[RowC 88 3 (.slice (some ⟨b,0,none⟩) fs.length c) fs.length (gs.flatMap encG3)],⟨gs,hp,hq,rfl⟩,fun g hg=>?_⟩
   subst hH
   refine all_imp (fun h e=>?_) hg
   have:=RowC.of_pt (E:=88) (sz:=3) (n:=fs.length) h1 h2 hs h e
   rwa [ht] at this
end Go.Proofs.YteknekiclhnkiaaGreatDoor
namespace Go.Proofs.YteknekiclhnkiaaGreatDoor
open Go.RowKit Go.Maps Sx
theorem gramK_law:Keyed Tryz.prog 88 :=
 Keyed.of_law (deep_law_laid (by kernel_rfl) (m:=2) (by omega) (of_decide_eq_true (by kernel_rfl)) (by kernel_rfl) (by rw [Tryz.underlying88]))
theorem byteBE (n:UInt8):bytesBE (IntKind.u8.bits / 8) (((n.toNat:Int)) % 2 ^ IntKind.u8.bits).toNat=[n]:=by
 have h:=n.toNat_lt
 have e:(((n.toNat:Int)) % 2 ^ IntKind.u8.bits).toNat=n.toNat:=by
  show (((n.toNat:Int)) % 256).toNat=n.toNat
  omega
 rw [e]
 show (bytesLE 1 n.toNat).reverse=[n]
 simp [bytesLE,Nat.mod_eq_of_lt h]
theorem gram_key (g:G3):keyOf Tryz.prog 88 (.agg (encG3 g).toArray)=some (.string (txG g)):=by
 obtain ⟨a,b,c⟩:=g
 have hkt:Tryz.prog.keyType 88=true:=by kernel_rfl
 have hcl:Tryz.prog.cellsOf 88=3:=by kernel_rfl
 have hc1:Tryz.prog.cellsOf 5=1:=by kernel_rfl
 have hfm:(Value.agg (encG3 (a,b,c)).toArray).formed Tryz.prog 88=true:=by simp [Value.formed,Tryz.underlying88,hcl,encG3]
 have hpos:0<Tryz.prog.types.size:=of_decide_eq_true (by kernel_rfl)
 obtain ⟨m,hm⟩ : ∃ m,Tryz.prog.types.size=m+1:=⟨Tryz.prog.types.size - 1,by omega⟩
 have h1 : ∀ n:UInt8,Tryz.prog.keyLits (m+1) 5 [.int .u8 n.toNat]=some [.int .u8 n.toNat]:=fun n=>by
  have h:=n.toNat_lt
  unfold Program.keyLits
  rw [Tryz.underlying5]
  simp [Lit.wf,IntKind.min,IntKind.max,IntKind.signed,IntKind.bits]
  omega
 unfold keyOf
 rw [Tryz.underlying88]
 simp only [hkt,hfm,Bool.and_self,if_true]
 unfold Program.keyLits
 rw [Tryz.underlying88,hm]
 simp only [Value.cells,encG3,List.length_cons,List.length_nil,hcl,if_true,hc1]
 simp only [List.range_succ,List.range_zero,List.nil_append,List.cons_append,List.mapM_cons,List.mapM_nil,Nat.zero_mul,Nat.one_mul,List.drop_zero,List.drop_succ_cons,List.take_succ_cons,List.take_zero]
 simp only [h1]
 simp [keyBytes,Lit.keyBytes,byteBE,txG]
end Go.Proofs.YteknekiclhnkiaaGreatDoor
namespace Go.Proofs.YteknekiclhnkiaaGreatDoor
open Go.RowKit Sx
namespace Sx
section
variable {P : Program} {l : Option Nat} {r : Hp} {K : St} {t : List Value} {H : List Ch} {d : Option Tmp} {ty : TypeId} {pos : String} {af : Array Edge} {gd : Option (Nat × Bool)} {u : Value}
theorem pu_s2a {T E:TypeId} {x:Operand} {sz n k:Nat} {xs:List Value} (hT:P.underlying T=some (.array k E)) (hx:evO t x=some u) (hu:Sl r sz u n xs) (hk:k<=n) (h0:0<n) :
 Pur P r t ⟨d,.sliceToArrayPointer T x,ty,pos,af,gd⟩ (.pointer (some ⟨blkV u,offV u,none⟩)):=by
 refine ⟨rfl,fun w _=>?_⟩
 rcases hu.2.2 with ⟨_,e⟩ | ⟨b,off,cap,c,E',fz,rfl,_⟩
 · omega
 · simp only [execOp,ev_of hx,Instr.arrayAt,Sem.run_bind,run_underlying hT,Result.andThen]
   rw [if_neg (by omega)]
   simp [Sem.run_pure,blkV,offV]
theorem Sl.rdN {n sz:Nat} {xs:List Value} (h:Sl r sz u n xs) (H:List Ch):RdN r H ⟨blkV u,offV u,none⟩ xs.toArray:=fun j hj=>by
 have h1:=h.cellAt (j:=j) (by simpa using hj) H
 have e:(⟨blkV u,offV u,none⟩:Addr).add j=⟨blkV u,offV u+j,none⟩:=by unfold Addr.add;split<;>simp_all
 rw [e]
 simpa using h1
end
end Sx
open Sx
def gramAt (l:List UInt8) (i:Nat):G3:=(l.getD i 0,l.getD (i+1) 0,l.getD (i+2) 0)
def gramsAt (l:List UInt8):List (Nat × G3):=(List.range (l.length - 2)).map fun i=>(i,gramAt l i)
theorem gramsAt_get {l:List UInt8} {i:Nat} (h:i<(gramsAt l).length):(gramsAt l)[i]=(i,gramAt l i):=by
 simp only [gramsAt,List.getElem_map,List.getElem_range]
theorem gramsAt_len (l:List UInt8):(gramsAt l).length=l.length - 2:=by unfold gramsAt;rw [List.length_map,List.length_range]
theorem partsN_len : ∀ s:Tx,(partsT s).length=s.length - 2
 | []=>rfl
 | [_]=>rfl
 | [_,_]=>rfl
 | a::b::c::l=>by
  have:=partsN_len (b::c::l)
  simp only [partsT,List.length_cons] at this ⊢
  omega
theorem partsN_get : ∀ (s:Tx) (m:Nat) (h:m<(partsT s).length),(partsT s)[m]=txG (gramAt s m)
 | [],m,h=>absurd h (by simp [partsT])
 | [_],m,h=>absurd h (by simp [partsT])
 | [_,_],m,h=>absurd h (by simp [partsT])
 | a::b::c::l,0,h=>rfl
 | a::b::c::l,m+1,h=>by
  have:=partsN_get (b::c::l) m (by simpa [partsT] using h)
  simp only [partsT,List.getElem_cons_succ]
  rw [this];rfl
theorem gramsAt_parts (l:List UInt8):(gramsAt l).map (fun x=>txG x.2)=partsT l:=by
 apply List.ext_getElem
 · rw [List.length_map,gramsAt_len,partsN_len]
 · intro i h1 h2
   rw [List.getElem_map,partsN_get l i h2,gramsAt_get (by simpa using h1)]
theorem cut3_eq {l:List UInt8} {i:Nat} (h:i+3<=l.length):((u8s l).drop (i*1)).take ((i+3 - i)*1)=encG3 (gramAt l i):=by
 apply List.ext_getElem?
 intro j
 rw [Nat.mul_one,Nat.mul_one,show i+3 - i=3 by omega]
 by_cases hj:j<3
 · rw [List.getElem?_take_of_lt hj,List.getElem?_drop]
   unfold u8s
   rw [List.getElem?_map,List.getElem?_eq_getElem (by omega)]
   have e : ∀ k,k<l.length->l.getD k 0=l[k]!:=fun k hk=>by rw [List.getD_eq_getElem?_getD,List.getElem?_eq_getElem hk,getElem!_pos l k hk];rfl
   match j,hj with
   | 0,_=>simp [encG3,gramAt,List.getD_eq_getElem?_getD,List.getElem?_eq_getElem (show i<l.length by omega)]
   | 1,_=>simp [encG3,gramAt,List.getD_eq_getElem?_getD,List.getElem?_eq_getElem (show i+1<l.length by omega)]
   | 2,_=>simp [encG3,gramAt,List.getD_eq_getElem?_getD,List.getElem?_eq_getElem (show i+2<l.length by omega)]
   | n+3,h=>omega
 · rw [List.getElem?_eq_none (by simp;omega),List.getElem?_eq_none (by simp [encG3];omega)]
def tellG (x:Nat × G3):List Value:=[.int .i64 (x.1:Int),.agg (encG3 x.2).toArray]
theorem gall_any (r:Hp) (v:Value) (l:List UInt8) (hv:U8S r v l):Tri Tryz.prog r 69 [v] [] fun w H => ∃ B,w = .func (.func 111) #[] #[.pointer (some ⟨B,0,none⟩)]/\H=[pt B (.cells [v].toArray 29 (0,0))]:=by
 obtain ⟨a0,c0,rfl⟩:=hv.form
 refine Tri.free2 fun R HR=>?_
 refine ae Tryz.func69 Tryz.ntmps69 ?_
 repeat' (first|((with_reducible apply kx_box);rfl;(exact qcl);intro b1;(refine apk ?_))|exact xf|refine aw0 ?_|(refine ap2 ?_ ?_<;>try intro h)|refine aw1 ?_|(refine abx ?_;intro bb)|(refine abz ?_;intro bz)|(refine ahv ?_;intro v' hv')|(refine aac ?_;intro ac cc)|refine aw2 ?_|(refine ap4 ?_ ?_<;>try intro h)|apply True.intro)
 ((with_reducible apply fp_ret);exact res_1 rfl rfl)
 exact HR.out _ _ _ [_] atks ⟨b1,rfl,rfl⟩
theorem gall_seq (r:Hp) (B:Nat) (v:Value) (l:List UInt8) (hv:U8S r v l):Seq Tryz.prog r 111 [.pointer (some ⟨B,0,none⟩)] tellG (gramsAt l) [pt B (.cells [v].toArray 29 (0,0))] []:=by
 intro k J Jx hy
 have hlm:=maxI hv.2.1
 obtain ⟨X,hX⟩ : ∃ X,gramsAt l=X:=⟨_,rfl⟩
 have hXl:X.length=l.length - 2:=by rw [← hX,gramsAt_len]
 have hXg : ∀ (m:Nat) (h:m<X.length),X[m]=(m,gramAt l m):=by
  subst hX
  exact fun m h=>gramsAt_get h
 rw [hX] at hy ⊢
 refine Tri.free2 fun R HR=>?_
 refine ae Tryz.func111 Tryz.ntmps111 ?_
 by_cases hl:2<=l.length
 · have hmx:max ((l.length:Int) - 2) 0=(X.length:Int):=by omega
   repeat' (first|(rw [hmx])|exact xf|refine aw0 ?_|(refine ap2 ?_ ?_<;>try intro h)|refine aw1 ?_|(refine abx ?_;intro bb)|(refine abz ?_;intro bz)|(refine ahv ?_;intro v' hv')|(refine aac ?_;intro ac cc)|refine aw2 ?_|(refine ap4 ?_ ?_<;>try intro h)|apply True.intro)
   refine sw_loop (fun gm t H' => ∃ (m:Nat),gm=X.length+1 - m/\(m<=X.length)/\(∃ G,Takes [J m,pt B (.cells [v].toArray 29 (0,0))] H' G)/\Sls t 23 [(0,.func (.yield k) #[] #[]),(1,.pointer (some ⟨B,0,none⟩)),(7,.int .i64 X.length),(8,.int .i64 m)]) _ ⟨0,rfl,Nat.zero_le _,⟨_,atks⟩,asls⟩ ?_
   rintro gm t H' ⟨m,rfl,hm,⟨G,hp⟩,hs'⟩
   revert t;refine sls_all ?_;iterate 19 intro uu'
   refine sw_takeG hp ?_;clear hp
   by_cases hlt:m<X.length
   · have hyp:=hy m hlt
     rw [hXg m hlt] at hyp
     have hcv : ∀ v',Sl r 1 v' (List.take ((((m:Nat):Int)+3).toNat - (((m:Nat):Int)).toNat) (List.drop (((m:Nat):Int)).toNat l)).length (u8s (List.take ((((m:Nat):Int)+3).toNat - (((m:Nat):Int)).toNat) (List.drop (((m:Nat):Int)).toNat l)))->Sl r 1 v' 3 (encG3 (gramAt l m)):=fun v' h=>by
      rw [show (((m:Nat):Int)).toNat=m by omega,show (((m:Nat):Int)+3).toNat=m+3 by omega,show m+3 - m=3 by omega] at h
      have e:=cut3_eq (l:=l) (i:=m) (by omega)
      rw [Nat.mul_one,Nat.mul_one,show m+3 - m=3 by omega] at e
      rw [show u8s (List.take 3 (List.drop m l))=List.take 3 (List.drop m (u8s l)) by unfold u8s;rw [List.map_take,List.map_drop],e,show (List.take 3 (List.drop m l)).length=3 by rw [List.length_take,List.length_drop];omega] at h
      exact h
     rw [show tellG (m,gramAt l m)=[.int .i64 (m:Int),.agg [.int .u8 (gramAt l m).1.toNat,.int .u8 (gramAt l m).2.1.toNat,.int .u8 (gramAt l m).2.2.toNat].toArray] from rfl] at hyp
     rw [show encG3 (gramAt l m)=[.int .u8 (gramAt l m).1.toNat,.int .u8 (gramAt l m).2.1.toNat,.int .u8 (gramAt l m).2.2.toNat] from rfl] at hcv
     obtain ⟨g,hg⟩ : ∃ g,gramAt l m=g:=⟨_,rfl⟩
     rw [hg] at hyp hcv
     repeat' (first|((with_reducible apply swo_pur);(with_reducible apply pu_s2a);exact Tryz.underlying88;rfl;exact hcv _ hv';omega;omega;(refine apk ?_))|((with_reducible apply kx_loadN (a:=⟨blkV v',offV v',none⟩) (vs:=[.int .u8 g.1.toNat,.int .u8 g.2.1.toNat,.int .u8 g.2.2.toNat]));exact ty_agg;exact ty_size;rfl;exact (hcv _ hv').rdN _;rfl;(refine apk ?_))|((with_reducible apply kx_yield);rfl;exact (hyp);rfl;(exact atk);all_goals (refine apk ?_))|exact xf|refine aw0 ?_|(refine ap2 ?_ ?_<;>try intro h)|refine aw1 ?_|(refine abx ?_;intro bb)|(refine abz ?_;intro bz)|(refine ahv ?_;intro v' hv')|(refine aac ?_;intro ac cc)|refine aw2 ?_|(refine ap4 ?_ ?_<;>try intro h)|apply True.intro)
     · exact ⟨_,by omega,m+1,rfl,by omega,⟨_,atks⟩,asls⟩
     · ((with_reducible apply fp_ret);exact res_0 rfl)
       exact HR.out _ _ _ [Jx (m+1)] atks (.inr ⟨m,[],hlt,rfl⟩)
   · obtain rfl:m=X.length:=by omega
     repeat' (first|exact xf|refine aw0 ?_|(refine ap2 ?_ ?_<;>try intro h)|refine aw1 ?_|(refine abx ?_;intro bb)|(refine abz ?_;intro bz)|(refine ahv ?_;intro v' hv')|(refine aac ?_;intro ac cc)|refine aw2 ?_|(refine ap4 ?_ ?_<;>try intro h)|apply True.intro)
     ((with_reducible apply fp_end);exact res_0 rfl)
     exact HR.out _ _ _ [J X.length] atks (.inl rfl)
 · have hmx:max ((l.length:Int) - 2) 0=(X.length:Int):=by omega
   have hX0:X.length=0:=by omega
   repeat' (first|(rw [hmx])|exact xf|refine aw0 ?_|(refine ap2 ?_ ?_<;>try intro h)|refine aw1 ?_|(refine abx ?_;intro bb)|(refine abz ?_;intro bz)|(refine ahv ?_;intro v' hv')|(refine aac ?_;intro ac cc)|refine aw2 ?_|(refine ap4 ?_ ?_<;>try intro h)|apply True.intro)
   refine sw_loop (fun gm t H'=>gm=1/\(∃ G,Takes [J 0] H' G)/\Sls t 23 [(0,.func (.yield k) #[] #[]),(1,.pointer (some ⟨B,0,none⟩)),(7,.int .i64 X.length),(8,.int .i64 0)]) _ ⟨rfl,⟨_,atks⟩,asls⟩ ?_
   rintro gm t H' ⟨rfl,⟨G,hp⟩,hs'⟩
   revert t;refine sls_all ?_;iterate 19 intro uu'
   refine sw_takeG hp ?_;clear hp
   rw [hX0] at HR ⊢
   repeat' (first|exact xf|refine aw0 ?_|(refine ap2 ?_ ?_<;>try intro h)|refine aw1 ?_|(refine abx ?_;intro bb)|(refine abz ?_;intro bz)|(refine ahv ?_;intro v' hv')|(refine aac ?_;intro ac cc)|refine aw2 ?_|(refine ap4 ?_ ?_<;>try intro h)|apply True.intro)
   ((with_reducible apply fp_end);exact res_0 rfl)
   exact HR.out _ _ _ [J 0] atks (.inl rfl)
end Go.Proofs.YteknekiclhnkiaaGreatDoor
namespace Go.Proofs.YteknekiclhnkiaaGreatDoor
open Go.RowKit Go.Maps Sx
structure PlB where
 a:Option Addr
 n:Nat
 c:Nat
 xs:List Value
def PlB.val (p:PlB):Value:= .slice p.a p.n p.c
abbrev PlR (p:PlB):Ch:=RowC 117 2 (.slice p.a p.n p.c) p.n p.xs
abbrev PlP (A:List (G3 × PlB)):Ch:=all (A.map fun x=>PlR x.2)
def lookG (A:List (G3 × PlB)):Lit->Option Value
 | .string k=>(A.find? fun x=>decide (txG x.1=k)).map fun x=>x.2.val
 | _=>none
theorem lookG_s (A:List (G3 × PlB)) (k:List UInt8):lookG A (.string k)=(A.find? fun x=>decide (txG x.1=k)).map fun x=>x.2.val:=rfl
def onceG:List G3->List G3->List G3
 | acc,[]=>acc
 | acc,g::l=>onceG (if g∈acc then acc else acc++[g]) l
theorem onceG_snoc : ∀ (l acc:List G3) (g:G3),onceG acc (l++[g])=if g∈onceG acc l then onceG acc l else onceG acc l++[g]
 | [],acc,g=>rfl
 | x::l,acc,g=>by simp only [List.cons_append,onceG];exact onceG_snoc l _ g
theorem onceG_nodup : ∀ (l acc:List G3),acc.Nodup->(onceG acc l).Nodup
 | [],_,h=>h
 | x::l,acc,h=>by
  unfold onceG
  split
  · exact onceG_nodup l _ h
  · rename_i hx
    refine onceG_nodup l _ (List.nodup_append.2 ⟨h,by simp,fun a ha b hb e=>?_⟩)
    rw [List.mem_singleton.1 hb] at e
    exact hx (e ▸ ha)
theorem onceG_mem : ∀ (l acc:List G3) (g:G3),g∈onceG acc l↔g∈acc\/g∈l
 | [],acc,g=>by simp [onceG]
 | x::l,acc,g=>by
  unfold onceG
  split
  · rename_i hx
    rw [onceG_mem l,List.mem_cons]
    constructor
    · rintro (h|h)
      · exact .inl h
      · exact .inr (.inr h)
    · rintro (h|rfl|h)
      · exact .inl h
      · exact .inl hx
      · exact .inr h
  · rw [onceG_mem l,List.mem_append,List.mem_singleton,List.mem_cons,or_assoc]
theorem onceG_len : ∀ (l acc:List G3),(onceG acc l).length<=acc.length+l.length
 | [],_=>by simp [onceG]
 | x::l,acc=>by
  unfold onceG
  split
  · have:=onceG_len l acc;simp only [List.length_cons];omega
  · have:=onceG_len l (acc++[x]);simp only [List.length_append,List.length_cons,List.length_nil] at this ⊢;omega
theorem sorted_grams {gs:List G3} {X:List G3} (hp:gs.Perm (onceG [] X)) (hs:gs.Pairwise fun x y=>txG x<txG y):gs.map txG=sortBy id (X.map txG):=by
 refine risBy_ext (key:=id) ?_ (ris_sortBy _) fun t=>?_
 · unfold RisBy
   rw [List.pairwise_map]
   exact hs
 · rw [mem_sortBy (told_id _),List.mem_map,List.mem_map]
   constructor
   · rintro ⟨g,hg,rfl⟩
     exact ⟨g,by simpa using (onceG_mem X [] g).1 (hp.mem_iff.1 hg),rfl⟩
   · rintro ⟨g,hg,rfl⟩
     exact ⟨g,hp.mem_iff.2 ((onceG_mem X [] g).2 (.inr hg)),rfl⟩
theorem look_new {A:List (G3 × PlB)} {g:G3} (h:g ∉ A.map (·.1)):lookG A (.string (txG g))=none:=by
 rw [lookG_s,Option.map_eq_none_iff,List.find?_eq_none]
 intro x hx e
 exact h (List.mem_map.2 ⟨x,hx,txG_inj (of_decide_eq_true e)⟩)
theorem look_at {A1 A2:List (G3 × PlB)} {g:G3} {p:PlB} (h:g ∉ A1.map (·.1)):lookG (A1++(g,p)::A2) (.string (txG g))=some p.val:=by
 have h1:=look_new h
 rw [lookG_s,Option.map_eq_none_iff] at h1
 rw [lookG_s,List.find?_append,h1]
 simp
theorem look_upd_new {A:List (G3 × PlB)} {g:G3} {p:PlB} (h:g ∉ A.map (·.1)):upd (lookG A) (.string (txG g)) p.val=lookG (A++[(g,p)]):=by
 funext x
 unfold upd
 cases x with
 | string k =>
  by_cases e:txG g=k
  · subst e
    rw [look_at h]
    simp [Lit.sameKey]
  · have h2:(Lit.string k).sameKey (.string (txG g))=false:=by
     simp only [Lit.sameKey,beq_eq_false_iff_ne,ne_eq]
     exact fun c=>e c.symm
    rw [h2,lookG_s,lookG_s,List.find?_append]
    simp [e]
 | _=>rfl
theorem look_upd_at {A1 A2:List (G3 × PlB)} {g:G3} {p q:PlB} (h:g ∉ A1.map (·.1)):upd (lookG (A1++(g,p)::A2)) (.string (txG g)) q.val=lookG (A1++(g,q)::A2):=by
 funext x
 unfold upd
 cases x with
 | string k =>
  by_cases e:txG g=k
  · subst e
    rw [look_at (p:=q) h]
    simp [Lit.sameKey]
  · have h2:(Lit.string k).sameKey (.string (txG g))=false:=by
     simp only [Lit.sameKey,beq_eq_false_iff_ne,ne_eq]
     exact fun c=>e c.symm
    rw [h2,lookG_s,lookG_s,List.find?_append,List.find?_append]
    simp [e]
 | _=>rfl
theorem plP_mid {A1 A2:List (G3 × PlB)} {x:G3 × PlB} : ∀ h,PlP (A1++x::A2) h↔all [PlR x.2,PlP A1,PlP A2] h:=fun h=>by
 unfold PlP
 rw [List.map_append,List.map_cons]
 constructor
 · intro e
   have e:=all_perm List.perm_middle e
   obtain ⟨g1,k,d,rfl,h1,h2⟩:=e
   obtain ⟨g2,g3,d2,rfl,h3,h4⟩:=all_app.1 h2
   exact ⟨g1,_,d,rfl,h1,g2,_,d2,rfl,h3,all_one.2 h4⟩
 · rintro ⟨g1,k,d,rfl,h1,g2,k2,d2,rfl,h3,h4⟩
   exact all_perm List.perm_middle.symm ⟨g1,_,d,rfl,h1,all_app.2 ⟨g2,_,d2,rfl,h3,all_one.1 h4⟩⟩
theorem splitG_at {A:List (G3 × PlB)} {g:G3} (h:g∈A.map (·.1)) (hn:(A.map (·.1)).Nodup) : ∃ A1 p A2,A=A1++(g,p)::A2/\g ∉ A1.map (·.1):=by
 obtain ⟨⟨g',p⟩,hx,rfl⟩:=List.mem_map.1 h
 obtain ⟨A1,A2,rfl⟩:=List.append_of_mem hx
 refine ⟨A1,p,A2,rfl,fun hm=>?_⟩
 rw [List.map_append,List.map_cons,List.nodup_append] at hn
 exact hn.2.2 _ hm _ List.mem_cons_self rfl
end Go.Proofs.YteknekiclhnkiaaGreatDoor
