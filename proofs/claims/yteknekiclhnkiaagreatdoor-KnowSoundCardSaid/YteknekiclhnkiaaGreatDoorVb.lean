/- In place: addresses of a row's elements, stores of whole elements, swaps. No program is named. -/
import Derived.Test.YteknekiclhnkiaaGreatDoorPu
import Derived.ArgAppend
import Derived.Deep.Upon
import Derived.Test.YteknekiclhnkiaaGreatDoorGo
import Derived.Test.YteknekiclhnkiaaGreatDoorProg
import Derived.Test.YteknekiclhnkiaaGreatDoorAp
import Derived.Laws.BitsLemmas
import Derived.Laws.Bits64b
import Derived.WalkKit
import Derived.Laws.BitsAllLaws
import Derived.Test.YteknekiclhnkiaaGreatDoorSx
import Derived.WalkSpells
import Derived.WalkLawsBesides
import Derived.ProofKit
import Derived.Test.YteknekiclhnkiaaGreatDoorVa
namespace Go.Proofs.YteknekiclhnkiaaGreatDoor
open Go.RowKit
namespace Sx
def Two (E:TypeId) (sz:Nat) (v:Value) (n:Nat) (xs:List Value) (u:Value) (m:Nat) (ys:List Value):Ch:=fun h =>
 (∃ b cap cur,v = .slice (some ⟨b,0,none⟩) n cap/\u = .slice (some ⟨b,0,none⟩) m cap/\n<=m/\m<=cap/\cap<=maxLen/\h=one b (.cells cur E (0,0))/\cur.size=cap*sz/\cur.toList.take (n*sz)=xs/\cur.toList.take (m*sz)=ys) \/
 all [RowC E sz v n xs,RowC E sz u m ys] h
variable {P : Program} {l : Option Nat} {r : Hp} {Q : Exit → St} {K : St} {t : List Value} {H : List Ch} {d : Option Tmp} {ty : TypeId} {pos : String} {af : Array Edge} {gd : Option (Nat × Bool)}
theorem Two.start {E:TypeId} {sz n:Nat} {v:Value} {xs:List Value} {h:Hp} (hR:RowC E sz v n xs h):Two E sz v n xs v n xs h:=by
 rcases hR.2 with ⟨rfl,rfl,rfl⟩ | ⟨b,cap,cur,rfl,rfl,h1,h2,h3,h4⟩
 · exact .inr ⟨emp,emp,emp_dj,emp_un.symm,hR,emp,emp,emp_dj,emp_un.symm,hR,rfl⟩
 · exact .inl ⟨b,cap,cur,rfl,rfl,Nat.le_refl _,h1,h2,rfl,h3,h4,h4⟩
theorem Two.first {E:TypeId} {sz n m:Nat} {v u:Value} {xs ys:List Value} {h:Hp} (hT:Two E sz v n xs u m ys h) : ∃ g k,dj g k/\h=un g k/\RowC E sz v n xs g:=by
 rcases hT with ⟨b,cap,cur,rfl,rfl,h0,h1,h2,rfl,h3,h4,h5⟩ | ⟨g,k,d,rfl,hA,_⟩
 · refine ⟨_,emp,dj_emp,un_emp.symm,?_,.inr ⟨b,cap,cur,rfl,rfl,by omega,h2,h3,h4⟩⟩
   rw [← h4,List.length_take,Array.length_toList,h3]
   exact Nat.min_eq_left (Nat.mul_le_mul_right _ (by omega))
 · exact ⟨g,k,d,rfl,hA⟩
theorem swo_isCall {P:Program} {l:Option Nat} {r:Hp} {K:St} {t:List Value} {H:List Ch} {d:Option Tmp} {ty:TypeId} {pos:String} {af:Array Edge} {gd:Option (Nat × Bool)} {a:Array Operand} {b:Array TypeId} (f:FuncId) (h:SWo P l r ⟨d,.call { callee:= .value (.func f),args:=a,argTypes:=b },ty,pos,af,gd⟩ K t H):SWo P l r ⟨d,.call { callee:= .value (.func f),args:=a,argTypes:=b },ty,pos,af,gd⟩ K t H:=h
theorem swo_isApp {P:Program} {l:Option Nat} {r:Hp} {K:St} {t:List Value} {H:List Ch} {d:Option Tmp} {ty:TypeId} {pos:String} {af:Array Edge} {gd:Option (Nat × Bool)} {a:Array Operand} {b:Array TypeId} (h:SWo P l r ⟨d,.call { callee:= .builtin .append,args:=a,argTypes:=b },ty,pos,af,gd⟩ K t H):SWo P l r ⟨d,.call { callee:= .builtin .append,args:=a,argTypes:=b },ty,pos,af,gd⟩ K t H:=h
def famL (n:Nat) (A B:Nat->Ch) (k:Nat):List Ch:=(List.range n).map fun j=>if j<k then A j else B j
def Fam (n:Nat) (A B:Nat->Ch) (k:Nat):Ch:=all (famL n A B k)
theorem famL_len (n:Nat) (A B:Nat->Ch) (k:Nat):(famL n A B k).length=n:=by simp [famL]
theorem famL_at {n:Nat} {A B:Nat->Ch} {k j:Nat} (hj:j<n):(famL n A B k)[j]'(by rw [famL_len];exact hj)=if j<k then A j else B j:=by simp [famL]
theorem erase_perm : ∀ (c:List Ch) (k:Nat) (hk:k<c.length),c.Perm (c[k]::c.eraseIdx k)
 | a::c,0,_=> .refl _
 | a::c,k+1,hk=>((erase_perm c k (by simpa using hk)).cons a).trans (.swap _ _ _)
theorem all_mem {c:List Ch} {k:Nat} (hk:k<c.length) {g:Hp}:all c g ↔ ∃ x y,dj x y/\g=un x y/\c[k] x/\all (c.eraseIdx k) y :=
 ⟨fun h=>all_perm (erase_perm c k hk) h,fun h=>all_perm (erase_perm c k hk).symm (show all (c[k]::c.eraseIdx k) g from h)⟩
theorem Fam.get {n:Nat} {A:Nat->Ch} {k:Nat} (hk:k<n) {g:Hp} (h:Fam n A A 0 g) : ∃ x,sub x g/\A k x:=by
 obtain ⟨x,y,_,rfl,hx,_⟩:=(all_mem (by rw [famL_len];exact hk)).1 h
 rw [famL_at hk] at hx
 exact ⟨x,fun b o c=>un_left c,by simpa using hx⟩
end Sx
end Go.Proofs.YteknekiclhnkiaaGreatDoor
namespace Go.Proofs.YteknekiclhnkiaaGreatDoor
open Go.RowKit
namespace Sx
def RowM (E:TypeId) (sz:Nat) (v:Value) (n:Nat) (xs:List Value):Ch:=fun h =>
 xs.length=n*sz/\((v = .slice none 0 0/\n=0/\h=emp) \/ ∃ g cap cur fz,v = .slice (some ⟨g,0,none⟩) n cap/\h=one g (.cells cur E fz)/\n<=cap/\cap<=maxLen/\cur.size=cap*sz/\cur.toList.take (n*sz)=xs /\ ∀ j,j<cur.size->¬ (fz.1<=j/\j<fz.2))
theorem RowM.of {E:TypeId} {sz n:Nat} {v:Value} {xs:List Value} {h:Hp} (e:RowC E sz v n xs h):RowM E sz v n xs h:=by
 refine ⟨e.1,?_⟩
 rcases e.2 with h1 | ⟨g,cap,cur,h1,h2,h3,h4,h5,h6⟩
 · exact .inl h1
 · exact .inr ⟨g,cap,cur,(0,0),h1,h2,h3,h4,h5,h6,fun j _ h=>by have:=h.2;omega⟩
theorem RowM.sl {E:TypeId} {sz n:Nat} {v:Value} {xs:List Value} {g r:Hp} (h:RowM E sz v n xs g) (hs:sub g r):Sl r sz v n xs:=by
 rcases h.2 with ⟨rfl,rfl,rfl⟩ | ⟨b,cap,cur,fz,rfl,rfl,h1,h2,h3,h4,_⟩
 · exact ⟨h.1,Nat.zero_le _,.inl ⟨⟨none,rfl⟩,rfl⟩⟩
 · refine ⟨h.1,Nat.le_trans h1 h2,.inr ⟨b,0,cap,cur,E,fz,rfl,h1,hs _ _ one_same,fun j hj=>?_⟩⟩
   rw [Nat.zero_add,← Array.getElem?_toList]
   have e:(cur.toList.take (n*sz))[j]?=some xs[j]:=by rw [h4];exact List.getElem?_eq_getElem hj
   rw [List.getElem?_take] at e
   split at e
   · exact e
   · cases e
section
variable {P : Program} {l : Option Nat} {r : Hp} {Q : Exit → St} {K : St} {t : List Value} {H : List Ch} {d : Option Tmp} {ty : TypeId} {pos : String} {af : Array Edge} {gd : Option (Nat × Bool)}
end
end Sx
end Go.Proofs.YteknekiclhnkiaaGreatDoor
namespace Go.Proofs.YteknekiclhnkiaaGreatDoor
open Go.RowKit
namespace Sx
section
variable {P : Program} {l : Option Nat} {r : Hp} {Q : Exit → St} {K : St} {t : List Value} {H : List Ch} {d : Option Tmp} {ty : TypeId} {pos : String} {af : Array Edge} {gd : Option (Nat × Bool)}
theorem setN_sz : ∀ (vs:List Value) (c:Array Value) (k:Nat),(setN c k vs).size=c.size
 | [],_,_=>rfl
 | v::vs,c,k=>by rw [setN,setN_sz vs,Array.size_setIfInBounds]
theorem setN_put {c:Array Value} {xs vs:List Value} {j m:Nat} (hm:m<=c.size) (hx:c.toList.take m=xs) (hj:j+vs.length<=xs.length):(setN c j vs).toList.take m=xs.take j++(vs++xs.drop (j+vs.length)):=by
 have hxl:xs.length=m:=by rw [← hx,List.length_take,Array.length_toList];omega
 apply List.ext_getElem?
 intro i
 have hl:(xs.take j).length=j:=by rw [List.length_take];omega
 have hxi : ∀ i,i<m->xs[i]?=c[i]?:=fun i hi=>by rw [← hx,List.getElem?_take,if_pos hi,Array.getElem?_toList]
 by_cases hi:i<m
 · rw [List.getElem?_take,if_pos hi,Array.getElem?_toList,setN_get vs c j i (by omega)]
   by_cases h1:i<j
   · rw [if_neg (by omega),List.getElem?_append_left (by rw [hl];exact h1),List.getElem?_take,if_pos h1,hxi i hi]
   · rw [List.getElem?_append_right (by rw [hl];omega),hl]
     by_cases h2:i<j+vs.length
     · rw [if_pos ⟨by omega,h2⟩,List.getElem?_append_left (by omega)]
     · rw [if_neg (by omega),List.getElem?_append_right (by omega),List.getElem?_drop,show j+vs.length+(i - j - vs.length)=i by omega,hxi i hi]
 · rw [List.getElem?_take,if_neg hi,List.getElem?_eq_none (by simp only [List.length_append,List.length_take,List.length_drop];omega)]
theorem kx_stCN {T E:TypeId} {x y:Operand} {u:Value} {vs:List Value} {sz n m j:Nat} {xs:List Value} {H':List Ch} (hT:sizeB P T=some m) (hx:evO t x=some (.pointer (some ⟨blkV u,offV u+j,none⟩))) (hy:evO t y=some (.agg vs.toArray)) (hl:vs.length=m) (ht:Take (RowC E sz u n xs) H H') (hv:vs.all one?=true) (h0:decide (0<m)=true) (hj:j+m<=xs.length)
 (hk:K (putL t d undef) (RowC E sz u n (xs.take j++(vs++xs.drop (j+m)))::H')):SWo P l r ⟨d,.store T x y,ty,pos,af,gd⟩ K t H:=by
 intro w g0 ds ok al
 subst hl
 have h0':0<vs.length:=by simpa using h0
 obtain ⟨a,k,dd,rfl,hR,al'⟩:=ht.all al
 rcases hR.2 with ⟨rfl,rfl,_⟩ | ⟨b,cap,cur,rfl,rfl,h1,h2,h3,h4⟩
 · have:=hR.1;simp at this;subst this;simp only [List.length_nil] at hj;omega
 · have hcap:n*sz<=cap*sz:=Nat.mul_le_mul_right _ h1
   have hxl:=hR.1
   have hk2 : ∀ h,pt b (.cells (setN cur j vs) E (0,0)) h->RowC E sz (.slice (some ⟨b,0,none⟩) n cap) n (xs.take j++(vs++xs.drop (j+vs.length))) h:=fun h e=>by
    refine ⟨by simp only [List.length_append,List.length_take,List.length_drop];omega,.inr ⟨b,cap,_,rfl,e,h1,h2,by rw [setN_sz,h3],?_⟩⟩
    exact setN_put (by omega) h4 hj
   simp only [blkV,offV,Nat.zero_add] at hx
   exact swo_post (swo_storeN (P:=P) (l:=l) (r:=r) (t:=t) (o:=⟨d,.store T x y,ty,pos,af,gd⟩) (E:=E) (vs:=vs) rfl hT (ev_of hx) (ev_of hy) (fun v h=>List.all_eq_true.1 hv v h) (Take.here (H:=H')) (by omega) ⟨_,_,_,Take.here,hk2,hk⟩) w _ ds ok ⟨_,_,dd,rfl,rfl,al'⟩
theorem made_cells (zs:List Value) (h0:0<zs.length) : ∀ n,(madeCells zs.toArray (n*zs.length)).toList=(List.replicate n zs).flatten
 | 0=>by simp [madeCells]
 | n+1=>by
  have ih:=made_cells zs h0 n
  have e : ∀ m,(madeCells zs.toArray m).toList=(List.range m).map fun k=>zs.toArray[k % zs.toArray.size]!:=fun m=>by
   simp [madeCells,← Array.toList_range]
  rw [e] at ih ⊢
  rw [show List.replicate (n+1) zs=List.replicate n zs++[zs] by rw [List.replicate_succ',],List.flatten_append,← ih,Nat.succ_mul,List.range_add,List.map_append,List.map_map]
  congr 1
  rw [List.flatten_cons,List.flatten_nil,List.append_nil]
  apply List.ext_getElem?
  intro j
  by_cases hj:j<zs.length
  · have hm:(n*zs.length+j) % zs.length=j:=by rw [Nat.mul_comm,Nat.mul_add_mod,Nat.mod_eq_of_lt hj]
    simp [hj,hm]
  · simp [hj]
theorem kx_makeNN {T E:TypeId} {z:Value} {zs:List Value} {sz by_ n:Nat} {x y:Operand} {kl kc:IntKind} {li ci:Int} (hT:elB P T=some E) (hi:infB P E=some (some z,sz,by_)) (hz:z.cells=zs.toArray) (hzs:decide (zs.length=sz/\0<sz/\sz<=64)=true) (hx:evO t x=some (.int kl li)) (hy:evO t y=some (.int kc ci)) (hli:li=(n:Int)) (hci:ci=(n:Int)) (hb:n*(by_+64)<=140737488355328)
 (hk : ∀ b,K (putL t d (.slice (some ⟨b,0,none⟩) n n)) (RowC E sz (.slice (some ⟨b,0,none⟩) n n) n (List.replicate n zs).flatten::H)):SWo P l r ⟨d,.makeSlice T x y,ty,pos,af,gd⟩ K t H :=
 swo_run (fun c hc=>by cases hc) fun w g ds ok al=>by
  subst hli;subst hci
  obtain ⟨hz1,hz2,hz3⟩:zs.length=sz/\0<sz/\sz<=64:=by simpa using hzs
  obtain ⟨i,h1,h2,h3,h4⟩:=infB_s hi
  have hb1:n*by_<=n*(by_+64):=Nat.mul_le_mul_left _ (by omega)
  have hb2:n*64<=n*(by_+64):=Nat.mul_le_mul_left _ (by omega)
  have hcm:n<=maxLen:=by unfold maxLen;omega
  have hbi:(i.bytes:Int)*(n:Int)<=281474976710656:=by
   have h:((i.bytes*n:Nat):Int)<=281474976710656:=by rw [h4,Nat.mul_comm];omega
   rwa [Int.natCast_mul] at h
  have hr:=run_make (P:=P) w T E i z (elB_s hT) h1 h2 kl kc n n (by omega) (by omega) hbi (by unfold maxLen at hcm;omega)
  simp only [Int.toNat_natCast] at hr
  obtain ⟨dd,to⟩:=alloc_to ok (.cells (madeCells z.cells (n*i.size)) E (0,0))
  refine ⟨.slice (some ⟨w.heap.size,0,none⟩) n n,_,_,_,by simp only [execOp,Sem.run_bind,ev_of hx,ev_of hy,hr,Result.andThen,Sem.run_pure],hk _,⟨_,_,dd,rfl,?_,al⟩,to⟩
  refine ⟨by rw [List.length_flatten,List.map_replicate,List.sum_replicate_nat,hz1],.inr ⟨_,n,_,rfl,rfl,Nat.le_refl _,hcm,by rw [size_madeCells,h3],?_⟩⟩
  rw [h3,hz,← hz1,made_cells zs (by omega),List.take_of_length_le]
  rw [List.length_flatten,List.map_replicate,List.sum_replicate_nat];omega
end
end Sx
end Go.Proofs.YteknekiclhnkiaaGreatDoor
namespace Go.Proofs.YteknekiclhnkiaaGreatDoor
open Go.RowKit
instance:Sx.TyPl Tryz.prog 28 [(0,1),(1,4),(5,1),(6,1),(7,1),(8,1),(9,1)]:=⟨Sx.pl_s (by kernel_rfl)⟩
instance:Sx.TyPl Tryz.prog 38 [(0,1),(1,1),(2,1)]:=⟨Sx.pl_s (by kernel_rfl)⟩
instance:Sx.TyPl Tryz.prog 40 [(0,1),(1,1),(2,1),(3,1),(4,3)]:=⟨Sx.pl_s (by kernel_rfl)⟩
instance:Sx.TyPl Tryz.prog 63 [(0,10)]:=⟨Sx.pl_s (by kernel_rfl)⟩
instance:Sx.TyPl Tryz.prog 65 [(0,10)]:=⟨Sx.pl_s (by kernel_rfl)⟩
instance:Sx.TyPl Tryz.prog 72 [(0,1)]:=⟨Sx.pl_s (by kernel_rfl)⟩
instance:Sx.TyPl Tryz.prog 117 [(0,1),(1,1)]:=⟨Sx.pl_s (by kernel_rfl)⟩
instance:Sx.TyKd Tryz.prog 2 (.int .i64):=⟨by kernel_rfl⟩
instance:Sx.TyF Tryz.prog 3 false 1:=⟨by kernel_rfl,by kernel_rfl⟩
instance:Sx.TyZ Tryz.prog 3 (.int .i64 0) 1 8:=⟨by kernel_rfl⟩
instance:Sx.TyKd Tryz.prog 3 (.int .i64):=⟨by kernel_rfl⟩
instance:Sx.TyF Tryz.prog 4 false 1:=⟨by kernel_rfl,by kernel_rfl⟩
instance:Sx.TyZ Tryz.prog 4 (.bool false) 1 1:=⟨by kernel_rfl⟩
instance:Sx.TyKd Tryz.prog 4 .bool:=⟨by kernel_rfl⟩
instance:Sx.TyF Tryz.prog 5 false 1:=⟨by kernel_rfl,by kernel_rfl⟩
instance:Sx.TyZ Tryz.prog 5 (.int .u8 0) 1 1:=⟨by kernel_rfl⟩
instance:Sx.TyKd Tryz.prog 5 (.int .u8):=⟨by kernel_rfl⟩
instance:Sx.TyF Tryz.prog 9 false 1:=⟨by kernel_rfl,by kernel_rfl⟩
instance:Sx.TyZ Tryz.prog 9 (.string ⟨#[]⟩) 1 16:=⟨by kernel_rfl⟩
instance:Sx.TyKd Tryz.prog 9 .str:=⟨by kernel_rfl⟩
instance:Sx.TyF Tryz.prog 22 false 1:=⟨by kernel_rfl,by kernel_rfl⟩
instance:Sx.TyF Tryz.prog 23 false 1:=⟨by kernel_rfl,by kernel_rfl⟩
instance:Sx.TyKd Tryz.prog 23 (.int .u64):=⟨by kernel_rfl⟩
instance:Sx.TyF Tryz.prog 25 true 4:=⟨by kernel_rfl,by kernel_rfl⟩
instance:Sx.TyZ Tryz.prog 25 (.agg ((.int .u64 0)::(.int .u64 0)::(.int .u64 0)::(.int .u64 0)::[]).toArray) 4 32:=⟨by kernel_rfl⟩
instance:Sx.TyF Tryz.prog 26 false 1:=⟨by kernel_rfl,by kernel_rfl⟩
instance:Sx.TyE Tryz.prog 26 28:=⟨by kernel_rfl⟩
instance:Sx.TyF Tryz.prog 28 true 10:=⟨by kernel_rfl,by kernel_rfl⟩
instance:Sx.TyZ Tryz.prog 28 (.agg ((.int .i64 0)::(.int .u64 0)::(.int .u64 0)::(.int .u64 0)::(.int .u64 0)::(.slice none 0 0)::(.int .i64 0)::(.int .i64 0)::(.bool false)::(.int .i64 0)::[]).toArray) 10 96:=⟨by kernel_rfl⟩
instance:Sx.TyFld Tryz.prog 28 0 0 22:=⟨Sx.fld_s (by kernel_rfl)⟩
instance:Sx.TyFld Tryz.prog 28 1 1 25:=⟨Sx.fld_s (by kernel_rfl)⟩
instance:Sx.TyFld Tryz.prog 28 2 5 26:=⟨Sx.fld_s (by kernel_rfl)⟩
instance:Sx.TyFld Tryz.prog 28 3 6 3:=⟨Sx.fld_s (by kernel_rfl)⟩
instance:Sx.TyFld Tryz.prog 28 4 7 3:=⟨Sx.fld_s (by kernel_rfl)⟩
instance:Sx.TyFld Tryz.prog 28 5 8 4:=⟨Sx.fld_s (by kernel_rfl)⟩
instance:Sx.TyFld Tryz.prog 28 6 9 3:=⟨Sx.fld_s (by kernel_rfl)⟩
instance:Sx.TyF Tryz.prog 29 false 1:=⟨by kernel_rfl,by kernel_rfl⟩
instance:Sx.TyE Tryz.prog 29 5:=⟨by kernel_rfl⟩
instance:Sx.TyF Tryz.prog 34 false 1:=⟨by kernel_rfl,by kernel_rfl⟩
instance:Sx.TyZ Tryz.prog 34 (.slice none 0 0) 1 24:=⟨by kernel_rfl⟩
instance:Sx.TyE Tryz.prog 34 9:=⟨by kernel_rfl⟩
instance:Sx.TyF Tryz.prog 35 false 1:=⟨by kernel_rfl,by kernel_rfl⟩
instance:Sx.TyF Tryz.prog 36 false 1:=⟨by kernel_rfl,by kernel_rfl⟩
instance:Sx.TyE Tryz.prog 36 38:=⟨by kernel_rfl⟩
instance:Sx.TyF Tryz.prog 38 true 3:=⟨by kernel_rfl,by kernel_rfl⟩
instance:Sx.TyZ Tryz.prog 38 (.agg ((.int .i64 0)::(.slice none 0 0)::(.slice none 0 0)::[]).toArray) 3 56:=⟨by kernel_rfl⟩
instance:Sx.TyFld Tryz.prog 38 0 0 35:=⟨Sx.fld_s (by kernel_rfl)⟩
instance:Sx.TyFld Tryz.prog 38 1 1 34:=⟨Sx.fld_s (by kernel_rfl)⟩
instance:Sx.TyFld Tryz.prog 38 2 2 36:=⟨Sx.fld_s (by kernel_rfl)⟩
instance:Sx.TyF Tryz.prog 40 true 7:=⟨by kernel_rfl,by kernel_rfl⟩
instance:Sx.TyZ Tryz.prog 40 (.agg ((.bool false)::(.slice none 0 0)::(.slice none 0 0)::(.slice none 0 0)::(.int .i64 0)::(.slice none 0 0)::(.slice none 0 0)::[]).toArray) 7 136:=⟨by kernel_rfl⟩
instance:Sx.TyFld Tryz.prog 40 0 0 4:=⟨Sx.fld_s (by kernel_rfl)⟩
instance:Sx.TyFld Tryz.prog 40 1 1 34:=⟨Sx.fld_s (by kernel_rfl)⟩
instance:Sx.TyFld Tryz.prog 40 2 2 34:=⟨Sx.fld_s (by kernel_rfl)⟩
instance:Sx.TyFld Tryz.prog 40 3 3 34:=⟨Sx.fld_s (by kernel_rfl)⟩
instance:Sx.TyFld Tryz.prog 40 4 4 38:=⟨Sx.fld_s (by kernel_rfl)⟩
instance:Sx.TyF Tryz.prog 42 false 1:=⟨by kernel_rfl,by kernel_rfl⟩
instance:Sx.TyZ Tryz.prog 42 (.slice none 0 0) 1 24:=⟨by kernel_rfl⟩
instance:Sx.TyE Tryz.prog 42 44:=⟨by kernel_rfl⟩
instance:Sx.TyF Tryz.prog 44 true 2:=⟨by kernel_rfl,by kernel_rfl⟩
instance:Sx.TyZ Tryz.prog 44 (.agg ((.int .i64 0)::(.int .i64 0)::[]).toArray) 2 16:=⟨by kernel_rfl⟩
instance:Sx.TyZ Tryz.prog 59 (.nilFunc) 1 8:=⟨by kernel_rfl⟩
instance:Sx.TyF Tryz.prog 63 true 10:=⟨by kernel_rfl,by kernel_rfl⟩
instance:Sx.TyZ Tryz.prog 63 (.agg ((.int .i64 0)::(.int .u64 0)::(.int .u64 0)::(.int .u64 0)::(.int .u64 0)::(.slice none 0 0)::(.int .i64 0)::(.int .i64 0)::(.bool false)::(.int .i64 0)::[]).toArray) 10 96:=⟨by kernel_rfl⟩
instance:Sx.TyFld Tryz.prog 63 0 0 28:=⟨Sx.fld_s (by kernel_rfl)⟩
instance:Sx.TyF Tryz.prog 65 true 10:=⟨by kernel_rfl,by kernel_rfl⟩
instance:Sx.TyZ Tryz.prog 65 (.agg ((.int .i64 0)::(.int .u64 0)::(.int .u64 0)::(.int .u64 0)::(.int .u64 0)::(.slice none 0 0)::(.int .i64 0)::(.int .i64 0)::(.bool false)::(.int .i64 0)::[]).toArray) 10 96:=⟨by kernel_rfl⟩
instance:Sx.TyFld Tryz.prog 65 0 0 63:=⟨Sx.fld_s (by kernel_rfl)⟩
instance:Sx.TyF Tryz.prog 69 false 1:=⟨by kernel_rfl,by kernel_rfl⟩
instance:Sx.TyZ Tryz.prog 69 (.slice none 0 0) 1 24:=⟨by kernel_rfl⟩
instance:Sx.TyE Tryz.prog 69 74:=⟨by kernel_rfl⟩
instance:Sx.TyF Tryz.prog 70 false 1:=⟨by kernel_rfl,by kernel_rfl⟩
instance:Sx.TyE Tryz.prog 70 5:=⟨by kernel_rfl⟩
instance:Sx.TyF Tryz.prog 72 true 1:=⟨by kernel_rfl,by kernel_rfl⟩
instance:Sx.TyZ Tryz.prog 72 (.agg ((.slice none 0 0)::[]).toArray) 1 24:=⟨by kernel_rfl⟩
instance:Sx.TyFld Tryz.prog 72 0 0 70:=⟨Sx.fld_s (by kernel_rfl)⟩
instance:Sx.TyZ Tryz.prog 73 (.nilFunc) 1 8:=⟨by kernel_rfl⟩
instance:Sx.TyF Tryz.prog 74 true 4:=⟨by kernel_rfl,by kernel_rfl⟩
instance:Sx.TyZ Tryz.prog 74 (.agg ((.int .u64 0)::(.int .u64 0)::(.int .u64 0)::(.int .u64 0)::[]).toArray) 4 32:=⟨by kernel_rfl⟩
instance:Sx.TyF Tryz.prog 78 false 1:=⟨by kernel_rfl,by kernel_rfl⟩
instance:Sx.TyF Tryz.prog 83 false 1:=⟨by kernel_rfl,by kernel_rfl⟩
instance:Sx.TyZ Tryz.prog 83 (.map none) 1 8:=⟨by kernel_rfl⟩
instance:Sx.TyF Tryz.prog 84 false 1:=⟨by kernel_rfl,by kernel_rfl⟩
instance:Sx.TyZ Tryz.prog 84 (.slice none 0 0) 1 24:=⟨by kernel_rfl⟩
instance:Sx.TyE Tryz.prog 84 88:=⟨by kernel_rfl⟩
instance:Sx.TyF Tryz.prog 88 true 3:=⟨by kernel_rfl,by kernel_rfl⟩
instance:Sx.TyZ Tryz.prog 88 (.agg ((.int .u8 0)::(.int .u8 0)::(.int .u8 0)::[]).toArray) 3 3:=⟨by kernel_rfl⟩
instance:Sx.TyF Tryz.prog 104 true 2:=⟨by kernel_rfl,by kernel_rfl⟩
instance:Sx.TyFld Tryz.prog 104 0 0 34:=⟨Sx.fld_s (by kernel_rfl)⟩
instance:Sx.TyFld Tryz.prog 104 1 1 36:=⟨Sx.fld_s (by kernel_rfl)⟩
instance:Sx.TyZ Tryz.prog 106 (.agg ((.slice none 0 0)::(.slice none 0 0)::[]).toArray) 2 48:=⟨by kernel_rfl⟩
instance:Sx.TyFld Tryz.prog 106 0 0 104:=⟨Sx.fld_s (by kernel_rfl)⟩
instance:Sx.TyF Tryz.prog 117 true 2:=⟨by kernel_rfl,by kernel_rfl⟩
instance:Sx.TyZ Tryz.prog 117 (.agg ((.int .i64 0)::(.int .i64 0)::[]).toArray) 2 16:=⟨by kernel_rfl⟩
instance:Sx.TyZ Tryz.prog 118 (.slice none 0 0) 1 24:=⟨by kernel_rfl⟩
instance:Sx.TyE Tryz.prog 118 117:=⟨by kernel_rfl⟩
instance:Sx.TyE Tryz.prog 142 69:=⟨by kernel_rfl⟩
instance:Sx.TyKd Tryz.prog 147 (.int .u64):=⟨by kernel_rfl⟩
instance:Sx.TyF Tryz.prog 161 false 1:=⟨by kernel_rfl,by kernel_rfl⟩
instance:Sx.TyKd Tryz.prog 161 .ptr:=⟨by kernel_rfl⟩
instance:Sx.TyF Tryz.prog 163 true 2:=⟨by kernel_rfl,by kernel_rfl⟩
instance:Sx.TyZ Tryz.prog 163 (.agg ((.pointer none)::(.slice none 0 0)::[]).toArray) 2 32:=⟨by kernel_rfl⟩
instance:Sx.TyFld Tryz.prog 163 1 1 29:=⟨Sx.fld_s (by kernel_rfl)⟩
instance:Sx.TyE Tryz.prog 171 34:=⟨by kernel_rfl⟩
instance:Sx.TyE Tryz.prog 174 3:=⟨by kernel_rfl⟩
end Go.Proofs.YteknekiclhnkiaaGreatDoor
namespace Go.Proofs.YteknekiclhnkiaaGreatDoor
def septs (n:Nat):List UInt8:=if h:n<128 then [UInt8.ofNat n] else UInt8.ofNat (n % 128+128)::septs (n / 128)
termination_by n
decreasing_by omega
def texts (l:List UInt8):List UInt8:=septs l.length++l
end Go.Proofs.YteknekiclhnkiaaGreatDoor
namespace Go.Proofs.YteknekiclhnkiaaGreatDoor
open Go.RowKit
end Go.Proofs.YteknekiclhnkiaaGreatDoor
namespace Go.Proofs.YteknekiclhnkiaaGreatDoor
open Go.RowKit
end Go.Proofs.YteknekiclhnkiaaGreatDoor
namespace Go.Proofs.YteknekiclhnkiaaGreatDoor
def poly:Nat:=3988292384
def crcBit (s:Nat) (b:Bool):Nat:=if ((s % 2 == 1) != b) then s / 2 ^^^ poly else s / 2
def st (x:Nat):Nat:=crcBit x false
end Go.Proofs.YteknekiclhnkiaaGreatDoor
namespace Go.Proofs.YteknekiclhnkiaaGreatDoor
open Go.RowKit Sx
attribute [local go_sem] Oper.semAt_some
attribute [local go_sem] Oper.semAt_some
attribute [local go_sem] Oper.semAt_some
abbrev U8R (v:Value) (l:List UInt8):Ch:=RowC 5 1 v l.length (u8s l)
abbrev U8S (r:Hp) (v:Value) (l:List UInt8):Prop:=Sl r 1 v l.length (u8s l)
theorem Sl.news {r:Hp} {n c:Nat} {a:Addr} {xs:List Value} (h:Sl r 1 (.slice (some a) n c) n xs) (H:List Ch) : ∀ j u,xs[j]?=some u->Rd1 r H (a.add j) u:=by
 intro j u hu
 obtain ⟨hj,rfl⟩:=List.getElem?_eq_some_iff.1 hu
 have hjn:j<n:=by have:=h.1;omega
 obtain ⟨b,off,u',e,h1,h2⟩:=h.at1 hjn
 cases e
 rw [add_none]
 rw [List.getElem?_eq_getElem hj] at h1
 cases h1
 exact h2 H
def kk:Nat->Int
 | 0=>24
 | 1=>16
 | 2=>8
 | 3=>0
 | _ => -8
structure FileV where
 path:List UInt8
 val:Value
 data:List UInt8
 deriving Inhabited
abbrev FileV.key (f:FileV):List UInt8 × List UInt8:=(f.path,f.data)
def idx (o:Option Nat):Int:=match o with|some k=>k|none => -1
theorem find_app {α:Type} {q:α->Bool} {xs:List α} {k:Nat} (hk:k<xs.length) (h:(xs.take k).findIdx? q=none):(xs.take (k+1)).findIdx? q=if q xs[k] then some k else none:=by
 rw [List.take_succ_eq_append_getElem hk,List.findIdx?_append,h]
 simp only [List.findIdx?_cons,List.findIdx?_nil,List.length_take,Nat.min_eq_left (Nat.le_of_lt hk)]
 cases q xs[k]<;>simp
theorem find_fst {α:Type} {q:α->Bool} {xs:List α} {k:Nat} (hk:k<xs.length) (h:(xs.take k).findIdx? q=none) (hq:q xs[k]=true):xs.findIdx? q=some k:=by
 have h1:=find_app hk h
 rw [hq] at h1
 conv=>lhs;rw [← List.take_append_drop (k+1) xs]
 rw [List.findIdx?_append,h1];rfl
theorem take_getD {α:Type} {k:Nat} {l:List α} {d:α} (h:k<l.length):l.take (k+1)=l.take k++[l.getD k d]:=by
 rw [List.take_succ_eq_append_getElem h];simp [h]
theorem maxI {n:Nat} (h:n<=maxLen):n<=9223372036854775807:=by unfold maxLen at h;omega
end Go.Proofs.YteknekiclhnkiaaGreatDoor
namespace Go.Proofs.YteknekiclhnkiaaGreatDoor
open Go.RowKit
namespace Sx
section
variable {P : Program} {l : Option Nat} {r : Hp} {Q : Exit → St} {K : St} {t : List Value} {H : List Ch} {d : Option Tmp} {ty : TypeId} {pos : String} {af : Array Edge} {gd : Option (Nat × Bool)}
end
end Sx
end Go.Proofs.YteknekiclhnkiaaGreatDoor
namespace Go.Proofs.YteknekiclhnkiaaGreatDoor
open Go.RowKit Sx
namespace Sx
section
variable {P : Program} {l : Option Nat} {r : Hp} {Q : Exit → St} {K : St} {t : List Value} {H H1 : List Ch} {d : Option Tmp} {ty : TypeId} {pos : String} {af : Array Edge} {gd : Option (Nat × Bool)}
theorem sw_joinA {c:Code} {As:List Ch} {D:Ch} (ht:Takes As H H1) (hj : ∀ h,all As h->D h) (h:SW P l r c Q t (D::H1)):SW P l r c Q t H:=fun w g ds ok a=>by
 have a':=all_perm ht a
 obtain ⟨x,y,dd,e,hx,hy⟩:=all_app.1 a'
 exact h w g ds ok ⟨x,y,dd,e,hj x hx,hy⟩
theorem sw_open {c:Code} {ι:Type} {A:Ch} {B:ι->List Ch} {φ:ι->Prop} (ht:Take A H H1) (hA : ∀ h,A h -> ∃ i,φ i/\all (B i) h) (h : ∀ i,φ i->SW P l r c Q t (B i++H1)):SW P l r c Q t H:=fun w g ds ok a=>by
 obtain ⟨x,y,dd,e,hx,hy⟩:=all_perm ht a
 obtain ⟨i,hi,hb⟩:=hA x hx
 exact h i hi w g ds ok (all_app.2 ⟨x,y,dd,e,hb,hy⟩)
theorem all_one {A:Ch} {h:Hp}:all [A] h↔A h:=by
 constructor
 · rintro ⟨x,y,_,rfl,hx,rfl⟩;rw [un_emp];exact hx
 · intro e;exact ⟨h,emp,dj_emp,un_emp.symm,e,rfl⟩
theorem all_fold {L1 L2:List Ch} {h:Hp}:all (L1++[all L2]) h↔all (L1++L2) h:=by
 constructor
 · intro e;obtain ⟨a,b,d,e,h1,h2⟩:=all_app.1 e;exact all_app.2 ⟨a,b,d,e,h1,all_one.1 h2⟩
 · intro e;obtain ⟨a,b,d,e,h1,h2⟩:=all_app.1 e;exact all_app.2 ⟨a,b,d,e,h1,all_one.2 h2⟩
end
end Sx
section
variable {P : Program} {l : Option Nat} {r : Hp} {K : St} {t : List Value} {H : List Ch}
theorem swo_joinA {H1:List Ch} {o:Oper} {As:List Ch} {D:Ch} (ht:Takes As H H1) (hj : ∀ h,all As h->D h) (h:SWo P l r o K t (D::H1)):SWo P l r o K t H:=fun w g ds ok a=>by
 have a':=all_perm ht a
 obtain ⟨x,y,dd,e,hx,hy⟩:=all_app.1 a'
 exact h w g ds ok ⟨x,y,dd,e,hj x hx,hy⟩
end
namespace Sx
section
variable {P : Program} {l : Option Nat} {r : Hp} {Q : Exit → St} {K : St} {t : List Value} {H : List Ch}
theorem sw_lendQ {c:Code} {A:Ch} {H1:List Ch} (ht:Take A H H1) (h : ∀ r' g,sub r r'->sub g r'->A g->SW P l r' c (fun e t' H'=>Q e t' (A::H')) t H1):SW P l r c Q t H:=by
 intro w h0 ds ok al
 obtain ⟨g,k,d,rfl,hg,hk⟩:=ht.all al
 refine wpIn_mono (h (un r g) g (fun b o e=>un_left e) (fun b o e=>un_right (dj_un.1 ok.dj).1 e) hg w k ds (ok.lend d) hk) ?_
 intro e a' w' p
 cases e with
 | panic _=>exact p.elim
 | outgrown=>exact p.elim
 | _ =>
  obtain ⟨t',H',k',e1,h2,al',to'⟩:=p
  obtain ⟨d',tb⟩:=To.back ok d to'
  exact ⟨t',_,_,e1,h2,⟨g,k',d',rfl,hg,al'⟩,tb⟩
end
end Sx
end Go.Proofs.YteknekiclhnkiaaGreatDoor
namespace Go.Proofs.YteknekiclhnkiaaGreatDoor
open Go.RowKit
namespace Sx
section
variable {P : Program} {l : Option Nat} {r : Hp} {K : St} {t : List Value} {H : List Ch} {d : Option Tmp} {ty : TypeId} {pos : String} {af : Array Edge} {gd : Option (Nat × Bool)}
theorem pu_ixF {sz n c:Nat} {B off:Nat} {T E:TypeId} {x y:Operand} {k:IntKind} {i:Int} {g:Bool} [TyE P T E] [hE:TyF P E g sz] (hx:evO t x=some (.slice (some ⟨B,off,none⟩) n c)) (hy:evO t y=some (.int k i)) (h0:0<=i/\i<n) :
 Pur P r t ⟨d,.indexAddr T x y,ty,pos,af,gd⟩ (.pointer (some ⟨blkV (.slice (some ⟨B,off,none⟩) n c),offV (.slice (some ⟨B,off,none⟩) n c)+i.toNat*sz,none⟩)):=by
 refine ⟨rfl,fun w _=>?_⟩
 simp [execOp,Instr.indexAt,asIntOf,ev_of hx,ev_of hy,Sem.run_bind,Result.andThen,run_underlying (ty_slc (P:=P) (T:=T)),run_sizeOf (P:=P) (T:=E) hE.size,h0.1,h0.2,add_none,blkV,offV]
theorem kx_stE {α:Type} {T E:TypeId} {x y:Operand} {u:Value} {sz n i:Nat} {enc:α->List Value} {xs:List α} {z:α} {H':List Ch} (he : ∀ x,(enc x).length=sz) (h0:decide (0<sz)=true) (hT:sizeB P T=some sz) (hx:evO t x=some (.pointer (some ⟨blkV u,offV u+i*sz,none⟩))) (hy:evO t y=some (.agg (enc z).toArray)) (ht:Take (RowC E sz u n (xs.flatMap enc)) H H') (hv:(enc z).all one?=true) (hi:i<xs.length)
 (hk:K (putL t d undef) (RowC E sz u n ((xs.set i z).flatMap enc)::H')):SWo P l r ⟨d,.store T x y,ty,pos,af,gd⟩ K t H:=by
 refine kx_stCN (j:=i*sz) hT hx hy (he z) ht hv h0 ?_ ?_
 · rw [flat_len he]
   have:(i+1)*sz<=xs.length*sz:=Nat.mul_le_mul_right _ hi
   rw [Nat.succ_mul] at this;omega
 · have e:(xs.flatMap enc).take (i*sz)++(enc z++(xs.flatMap enc).drop (i*sz+sz))=(xs.set i z).flatMap enc:=by
    clear hk ht hx
    induction xs generalizing i with
    | nil=>simp at hi
    | cons y xs ih =>
     cases i with
     | zero=>rw [Nat.zero_mul,Nat.zero_add,List.take_zero,List.nil_append,List.flatMap_cons,List.set_cons_zero,List.flatMap_cons,← he y,List.drop_left]
     | succ i =>
      have ih:=ih (i:=i) (by simpa using hi)
      rw [List.set_cons_succ,List.flatMap_cons,List.flatMap_cons,← ih,Nat.add_mul,Nat.one_mul,show i*sz+sz=(enc y).length+i*sz by rw [he];omega,List.take_length_add_append,show (enc y).length+i*sz+sz=(enc y).length+(i*sz+sz) by omega,List.drop_length_add_append,List.append_assoc,he,Nat.add_comm sz]
   rw [e];exact hk
end
theorem tri_rowF {P:Program} {r:Hp} {f:FuncId} {args:Option Addr->Nat->List Value} {R:Rt} {E:TypeId} {sz n:Nat} {xs:List Value} {H:List Ch} {a:Option Addr} {c:Nat} (hn:0<n) (h : ∀ b,a=some ⟨b,0,none⟩->Tri P r f (args a c) (RowC E sz (.slice a n c) n xs::H) R):Tri P r f (args a c) (RowC E sz (.slice a n c) n xs::H) R :=
 tri_iff.2 fun w g ok al=>by
  obtain ⟨g1,g2,dd,rfl,hR,hH⟩:=al
  rcases hR.2 with ⟨_,h0,_⟩ | ⟨b,cap,cur,hv,_⟩
  · omega
  · injection hv with e1 e2 e3
    exact tri_iff.1 (h b e1) w _ ok ⟨_,_,dd,rfl,hR,hH⟩
def CmpBy {α:Type} (P:Program) (r:Hp) (gf:FuncId) (enc:α->List Value) (key:α->Tx) (xs:List α):Prop := ∀ x∈xs,∀ y∈xs,Tri P r gf [.agg (enc x).toArray,.agg (enc y).toArray] [] fun w H=>(∃ c:Int,w = .int .i64 c/\(c<0↔key x<key y))/\H=[]
theorem CmpBy.up {α:Type} {P:Program} {r r':Hp} {gf:FuncId} {enc:α->List Value} {key:α->Tx} {xs:List α} (h:CmpBy P r gf enc key xs) (hr:sub r r'):CmpBy P r' gf enc key xs:=fun x hx y hy=>(h x hx y hy).up hr
theorem CmpBy.of {α:Type} {P:Program} {r:Hp} {gf:FuncId} {enc:α->List Value} {key:α->Tx} {xs ys:List α} (h:CmpBy P r gf enc key xs) (hm : ∀ y∈ys,y∈xs):CmpBy P r gf enc key ys:=fun x hx y hy=>h x (hm x hx) y (hm y hy)
end Sx
end Go.Proofs.YteknekiclhnkiaaGreatDoor
