/- Pu: operations that ask no memory, or ask what is read alone: a rule for each, and no hypothesis is looked at but by its form. No program is named. -/
import Derived.Test.YteknekiclhnkiaaGreatDoorAp
import Derived.Laws.Tables
import Derived.Laws.StructEq
namespace Go.Proofs.YteknekiclhnkiaaGreatDoor
open Go.RowKit
namespace Sx
def Els {α:Type} (r:Hp) (sz:Nat) (enc:α->List Value) (v:Value) (xs:List α):Prop:=(∀ x,(enc x).length=sz)/\Sl r sz v xs.length (xs.flatMap enc)
theorem flat_len {α:Type} {sz:Nat} {enc:α->List Value} (h : ∀ x,(enc x).length=sz) : ∀ xs:List α,(xs.flatMap enc).length=xs.length*sz
 | []=>by simp
 | x::xs=>by simp [flat_len h xs,h x,Nat.succ_mul];omega
theorem flat_at {α:Type} {sz:Nat} {enc:α->List Value} (h : ∀ x,(enc x).length=sz) : ∀ (xs:List α) (k:Nat) (hk:k<xs.length),((xs.flatMap enc).drop (k*sz)).take sz=enc xs[k]
 | x::xs,0,_=>by simp [← h x]
 | x::xs,k+1,hk=>by
  have h2:(k+1)*sz=(enc x).length+k*sz:=by rw [h x,Nat.succ_mul];omega
  rw [List.flatMap_cons,h2,List.drop_append]
  simp only [List.length_cons] at hk
  rw [show (enc x).length+k*sz - (enc x).length=k*sz by omega,List.drop_eq_nil_of_le (by omega),List.nil_append]
  exact flat_at h xs k (by omega)
theorem Els.mono {α:Type} {r r':Hp} {sz:Nat} {enc:α->List Value} {v:Value} {xs:List α} (h:Els r sz enc v xs) (hr:sub r r'):Els r' sz enc v xs:=⟨h.1,h.2.mono hr⟩
theorem Els.form {α:Type} {r:Hp} {sz:Nat} {enc:α->List Value} {v:Value} {xs:List α} (h:Els r sz enc v xs) : ∃ a cap,v = .slice a xs.length cap:=h.2.form
theorem Els.at {α:Type} {r:Hp} {sz n cap:Nat} {enc:α->List Value} {a:Option Addr} {xs:List α} (h:Els r sz enc (.slice a n cap) xs) {k:Nat} (hk:k<xs.length) (hn:xs.length=n) :
 ∃ b off,a=some ⟨b,off,none⟩ /\ ∀ r' H,sub r r'->RdN r' H ⟨b,off+k*sz,none⟩ (enc xs[k]).toArray:=by
 subst hn
 obtain ⟨b,off,e,_,hc⟩:=h.2.atN hk
 rw [flat_at h.1 xs k hk] at hc
 exact ⟨b,off,e,fun r' H hr j hj w g e1 e2 al=>hc [] j hj w emp (fun b o hb=>e1 b o (hr b o hb)) (fun b o hb=>(by cases hb)) rfl⟩
class TyFld (P:Program) (S:TypeId) (f:Nat) (off:outParam Nat) (F:outParam TypeId):Prop where
 fld : ∃ fs x,P.underlying S=some (.struct fs)/\fs[f]?=some x/\x.offset=off/\x.type=F
def fldB (P:Program) (S:TypeId) (f:Nat):Option (Nat × TypeId):=match P.underlying S with|some (.struct fs)=>(fs[f]?).map fun x=>(x.offset,x.type) | _=>none
theorem fld_s {P:Program} {S:TypeId} {f off:Nat} {F:TypeId} (h:fldB P S f=some (off,F)) : ∃ fs x,P.underlying S=some (.struct fs)/\fs[f]?=some x/\x.offset=off/\x.type=F:=by
 unfold fldB at h
 split at h
 · rename_i fs e
   cases hx:fs[f]? with
   | none=>rw [hx] at h;cases h
   | some x=>rw [hx] at h;simp at h;exact ⟨fs,x,e,hx,h.1,h.2⟩
 · cases h
inductive Kd|int (k:IntKind)|str|bool|sl|ptr|other
def kdB (P:Program) (T:TypeId):Option Kd:=match P.underlying T with|some (.int k)=>some (.int k)|some .string=>some .str|some .bool=>some .bool|some (.slice _)=>some .sl|some (.pointer _)=>some .ptr | _=>none
class TyKd (P:Program) (T:TypeId) (k:outParam Kd):Prop where
 kd:kdB P T=some k
theorem kd_int {P:Program} {T:TypeId} {k:IntKind} (h:kdB P T=some (.int k)):P.underlying T=some (.int k):=by
 unfold kdB at h;split at h<;>simp_all
theorem kd_str {P:Program} {T:TypeId} (h:kdB P T=some .str):P.underlying T=some .string:=by
 unfold kdB at h;split at h<;>simp_all
theorem kd_bool {P:Program} {T:TypeId} (h:kdB P T=some .bool):P.underlying T=some .bool:=by
 unfold kdB at h;split at h<;>simp_all
theorem kd_some {P:Program} {T:TypeId} {k:Kd} (h:kdB P T=some k) : ∃ u,P.underlying T=some u:=by
 unfold kdB at h;split at h<;>first|exact ⟨_,by assumption⟩|cases h
theorem ty_int {P:Program} {T:TypeId} {k:IntKind} [h:TyKd P T (.int k)]:P.underlying T=some (.int k):=kd_int h.kd
theorem ty_str {P:Program} {T:TypeId} [h:TyKd P T .str]:P.underlying T=some .string:=kd_str h.kd
theorem ty_bool {P:Program} {T:TypeId} [h:TyKd P T .bool]:P.underlying T=some .bool:=kd_bool h.kd
theorem ty_slc {P:Program} {T E:TypeId} [h:TyE P T E]:P.underlying T=some (.slice E):=elB_s h.el
def inR (k:IntKind) (n:Int):Prop:=k.min<=n/\n<=k.max
theorem inR_i64 {n:Int} (h1 : -9223372036854775808<=n) (h2:n<=9223372036854775807):inR .i64 n:=⟨by simpa [IntKind.min,IntKind.signed,IntKind.bits] using h1,by simp [IntKind.max,IntKind.signed,IntKind.bits];omega⟩
theorem inR_i32 {n:Int} (h1 : -2147483648<=n) (h2:n<=2147483647):inR .i32 n:=⟨by simpa [IntKind.min,IntKind.signed,IntKind.bits] using h1,by simp [IntKind.max,IntKind.signed,IntKind.bits];omega⟩
theorem inR_u8 {n:Int} (h1:0<=n) (h2:n<=255):inR .u8 n:=⟨by simpa [IntKind.min,IntKind.signed,IntKind.bits] using h1,by simp [IntKind.max,IntKind.signed,IntKind.bits];omega⟩
theorem inR_u16 {n:Int} (h1:0<=n) (h2:n<=65535):inR .u16 n:=⟨by simpa [IntKind.min,IntKind.signed,IntKind.bits] using h1,by simp [IntKind.max,IntKind.signed,IntKind.bits];omega⟩
theorem inR_u32 {n:Int} (h1:0<=n) (h2:n<=4294967295):inR .u32 n:=⟨by simpa [IntKind.min,IntKind.signed,IntKind.bits] using h1,by simp [IntKind.max,IntKind.signed,IntKind.bits];omega⟩
theorem inR_u64 {n:Int} (h1:0<=n) (h2:n<=18446744073709551615):inR .u64 n:=⟨by simpa [IntKind.min,IntKind.signed,IntKind.bits] using h1,by simp [IntKind.max,IntKind.signed,IntKind.bits];omega⟩
theorem inR_wrap {k:IntKind} {n:Int} (h:inR k n):k.wrap n=n:=by
 obtain ⟨h1,h2⟩:=h
 cases k<;>simp [IntKind.wrap,IntKind.min,IntKind.max,IntKind.signed,IntKind.bits] at * <;> omega
def Pur (P:Program) (r:Hp) (t:List Value) (o:Oper) (v:Value):Prop:=isDefer o.op=false /\ ∀ w:World,Emb r w->(execOp (evalL t) o).run P w = .ok (.value v) w
section
variable {P : Program} {l : Option Nat} {r : Hp} {Q : Exit → St} {K : St} {t : List Value} {H : List Ch} {d : Option Tmp} {ty : TypeId} {pos : String} {af : Array Edge} {gd : Option (Nat × Bool)} {o : Oper} {v : Value}
theorem swo_pur {op:Op} (h:Pur P r t ⟨d,op,ty,pos,af,gd⟩ v) (hk:K (putL t d v) H):SWo P l r ⟨d,op,ty,pos,af,gd⟩ K t H:=swo_val (o:=⟨d,op,ty,pos,af,gd⟩) (by intro c hc;have:=h.1;simp only at hc;rw [hc] at this;cases this) h.2 hk
theorem pi_pur {ops:Array Oper} {i:Nat} {π:List (Nat × Bool)} {op:Op} (ho:ops[i]?=some ⟨d,op,ty,pos,af,gd⟩) (hw:Region.wanted ⟨d,op,ty,pos,af,gd⟩ (yielded ops t.toArray)=true) (h:Pur P r t ⟨d,op,ty,pos,af,gd⟩ v) (hk:SWpi P l r ops K π (putL t d v) H):SWpi P l r ops K ((i,true)::π) t H :=
 ⟨_,v,ho,.inl ⟨hw,h.2⟩,hk⟩
theorem set_same {t:List Value} {j:Nat} {u:Value} (h:t[j]?=some u):t=putL t (some j) u:=by
 unfold putL
 obtain ⟨hj,rfl⟩:=List.getElem?_eq_some_iff.1 h
 exact (List.set_getElem_self hj).symm
theorem swl_part {ops:Array Oper} {L:List Oper} {j dj:Nat} {want b:Bool} {op:Op} (_hg:gd=some (j,want)) (_hd:(ops[j]?).bind (·.dst)=some dj) (hv:t[dj]?=some (.bool b))
 (h1:b=true->SWl P l r ops K (⟨d,op,ty,pos,af,gd⟩::L) (putL t (some dj) (.bool true)) H) (h2:b=false->SWl P l r ops K (⟨d,op,ty,pos,af,gd⟩::L) (putL t (some dj) (.bool false)) H):SWl P l r ops K (⟨d,op,ty,pos,af,gd⟩::L) t H:=by
 cases b
 · rw [set_same hv];exact h2 rfl
 · rw [set_same hv];exact h1 rfl
theorem pi_part {ops:Array Oper} {i j dj:Nat} {s:Bool} {π:List (Nat × Bool)} {op:Op} {want b:Bool} (_ho:ops[i]?=some ⟨d,op,ty,pos,af,some (j,want)⟩) (_hd:(ops[j]?).bind (·.dst)=some dj) (hv:t[dj]?=some (.bool b))
 (h1:b=true->SWpi P l r ops K ((i,s)::π) (putL t (some dj) (.bool true)) H) (h2:b=false->SWpi P l r ops K ((i,s)::π) (putL t (some dj) (.bool false)) H):SWpi P l r ops K ((i,s)::π) t H:=by
 cases b
 · rw [set_same hv];exact h2 rfl
 · rw [set_same hv];exact h1 rfl
theorem sw_condT {c:Operand} {x y:Code} {u:Value} (hc:evO t c=some u) (hu:u = .bool true) (h:SW P l r x Q t H):SW P l r (.cond c x y) Q t H:=by subst hu;exact sw_cond (ev_of hc) (fun _=>h) (fun e=>by cases e)
theorem sw_condF {c:Operand} {x y:Code} {u:Value} (hc:evO t c=some u) (hu:u = .bool false) (h:SW P l r y Q t H):SW P l r (.cond c x y) Q t H:=by subst hu;exact sw_cond (ev_of hc) (fun e=>by cases e) (fun _=>h)
theorem wtN {op:Op} {y:Nat->Option Bool} (hg:gd=none):Region.wanted ⟨d,op,ty,pos,af,gd⟩ y=true:=by subst hg;rfl
theorem wt_at {ops:Array Oper} {op:Op} {j dj:Nat} {w b:Bool} (hg:gd=some (j,w)) (hd:(ops[j]?).bind (·.dst)=some dj) (hv:t[dj]?=some (.bool b)):Region.wanted ⟨d,op,ty,pos,af,gd⟩ (yielded ops t.toArray)=(b == w):=by
 subst hg;simp [Region.wanted,yielded,hd,hv]
theorem wtT {ops:Array Oper} {op:Op} {j dj:Nat} {u:Value} (hg:gd=some (j,true)) (hd:(ops[j]?).bind (·.dst)=some dj) (hv:t[dj]?=some u) (hu:u = .bool true):Region.wanted ⟨d,op,ty,pos,af,gd⟩ (yielded ops t.toArray)=true:=by subst hu;exact wt_at hg hd hv
theorem wtF {ops:Array Oper} {op:Op} {j dj:Nat} {u:Value} (hg:gd=some (j,false)) (hd:(ops[j]?).bind (·.dst)=some dj) (hv:t[dj]?=some u) (hu:u = .bool false):Region.wanted ⟨d,op,ty,pos,af,gd⟩ (yielded ops t.toArray)=true:=by subst hu;exact wt_at hg hd hv
theorem skT {ops:Array Oper} {op:Op} {j dj:Nat} {u:Value} (hg:gd=some (j,true)) (hd:(ops[j]?).bind (·.dst)=some dj) (hv:t[dj]?=some u) (hu:u = .bool false):Region.wanted ⟨d,op,ty,pos,af,gd⟩ (yielded ops t.toArray)=false:=by subst hu;exact wt_at hg hd hv
theorem skF {ops:Array Oper} {op:Op} {j dj:Nat} {u:Value} (hg:gd=some (j,false)) (hd:(ops[j]?).bind (·.dst)=some dj) (hv:t[dj]?=some u) (hu:u = .bool true):Region.wanted ⟨d,op,ty,pos,af,gd⟩ (yielded ops t.toArray)=false:=by subst hu;exact wt_at hg hd hv
theorem sw_condS {c:Operand} {x y:Code} {b:Bool} (hc:evO t c=some (.bool b)) (ht:b=true->SW P l r x Q t H) (hf:b=false->SW P l r y Q t H):SW P l r (.cond c x y) Q t H:=sw_cond (ev_of hc) ht hf
theorem skU {ops:Array Oper} {op:Op} {j dj:Nat} {w:Bool} {u:Value} (hg:gd=some (j,w)) (hd:(ops[j]?).bind (·.dst)=some dj) (hv:t[dj]?=some u) (hu:u=undef):Region.wanted ⟨d,op,ty,pos,af,gd⟩ (yielded ops t.toArray)=false:=by
 subst hg;subst hu;simp [Region.wanted,yielded,hd,hv,undef]
theorem pu_move {x:Operand} (hx:evO t x=some v):Pur P r t ⟨d,.move x,ty,pos,af,gd⟩ v:=⟨rfl,fun w _=>by simp [execOp,ev_of hx,Sem.run_pure]⟩
theorem pu_assign {x:Operand} (hx:evO t x=some v):Pur P r t ⟨d,.assign x,ty,pos,af,gd⟩ v:=⟨rfl,fun w _=>by simp [execOp,ev_of hx,Sem.run_pure]⟩
theorem pu_pickT {c x y:Operand} {u:Value} (hc:evO t c=some u) (hu:u = .bool true) (hx:evO t x=some v):Pur P r t ⟨d,.pick c x y,ty,pos,af,gd⟩ v:=⟨rfl,fun w _=>by subst hu;simp [execOp,ev_of hx,ev_of hc,asBool,Sem.run_pure]⟩
theorem pu_pickF {c x y:Operand} {u:Value} (hc:evO t c=some u) (hu:u = .bool false) (hx:evO t y=some v):Pur P r t ⟨d,.pick c x y,ty,pos,af,gd⟩ v:=⟨rfl,fun w _=>by subst hu;simp [execOp,ev_of hx,ev_of hc,asBool,Sem.run_pure]⟩
theorem pu_nil {x:Operand} {a:Addr} (hx:evO t x=some (.pointer (some a))):Pur P r t ⟨d,.nilCheck x,ty,pos,af,gd⟩ (.pointer (some a)):=⟨rfl,fun w _=>by simp [execOp,ev_of hx,Sem.run_pure]⟩
theorem pu_not {x:Operand} {b:Bool} {T:TypeId} (hx:evO t x=some (.bool b)):Pur P r t ⟨d,.unOp .not T x,ty,pos,af,gd⟩ (.bool (!b)):=⟨rfl,fun w _=>by simp [execOp,ev_of hx,Op.unary,Sem.run_pure]⟩
theorem pu_fn {fn:Fn} {first cap:Array Operand} {fl cl:List Value} {xs ys:List Operand} (h1:first=xs.toArray) (h2:cap=ys.toArray) (hx:evs t xs=some fl) (hy:evs t ys=some cl):Pur P r t ⟨d,.makeFunc fn first cap,ty,pos,af,gd⟩ (.func fn fl.toArray cl.toArray) :=
 ⟨rfl,fun w _=>by subst h1;subst h2;simp [execOp,Instr.makeFunc,Sem.run_pure,evs_of hx,evs_of hy]⟩
theorem pu_ext {x:Operand} {i:Nat} {vs:List Value} (hx:evO t x=some (.tuple vs.toArray)) (hv:vs[i]?=some v):Pur P r t ⟨d,.extract x i,ty,pos,af,gd⟩ v:=⟨rfl,fun w _=>by simp [execOp,ev_of hx,Instr.extract,hv,Sem.run_pure]⟩
def binI:BinOp->IntKind->Int->Int->Option (Value × Prop)
 | .add,k,a,b=>some (.int k (a+b),inR k (a+b))
 | .sub,k,a,b=>some (.int k (a - b),inR k (a - b))
 | .mul,k,a,b=>some (.int k (a*b),inR k (a*b))
 | .quo,k,a,b=>some (.int k (a / b),0<=a/\0<b/\inR k (a / b))
 | .rem,k,a,b=>some (.int k (a % b),0<=a/\0<b)
 | .eql,_,a,b=>some (.bool (decide (a=b)),True)
 | .neq,_,a,b=>some (.bool (!decide (a=b)),True)
 | .lss,_,a,b=>some (.bool (decide (a<b)),True)
 | .leq,_,a,b=>some (.bool (decide (a<=b)),True)
 | .gtr,_,a,b=>some (.bool (decide (b<a)),True)
 | .geq,_,a,b=>some (.bool (decide (b<=a)),True)
 | _,_,_,_=>none
theorem pu_bin {op:BinOp} {T T':TypeId} {x y:Operand} {k:IntKind} {a b:Int} {p:Prop} (hx:evO t x=some (.int k a)) (hy:evO t y=some (.int k b)) (hv:binI op k a b=some (v,p)) (hp:p):Pur P r t ⟨d,.binOp op T x y T',ty,pos,af,gd⟩ v:=by
 refine ⟨rfl,fun w _=>?_⟩
 unfold binI at hv
 split at hv
 all_goals first|cases hv|(simp only [Option.some.injEq,Prod.mk.injEq] at hv;obtain ⟨rfl,rfl⟩:=hv)
 all_goals simp only [execOp,ev_of hx,ev_of hy]
 · simp [eqGuard,binOp,Op.intArith,Sem.run_pure,inR_wrap hp]
 · simp [eqGuard,binOp,Op.intArith,Sem.run_pure,inR_wrap hp]
 · simp [eqGuard,binOp,Op.intArith,Sem.run_pure,inR_wrap hp]
 · obtain ⟨h1,h2,h3⟩:=hp
   have e:a.tdiv b=a / b:=Int.tdiv_eq_ediv_of_nonneg h1
   simp [eqGuard,binOp,Op.intDiv,Sem.run_pure,e,inR_wrap h3,show b≠0 by omega]
 · obtain ⟨h1,h2⟩:=hp
   have e:a.tmod b=a % b:=Int.tmod_eq_emod_of_nonneg h1
   simp [eqGuard,binOp,Op.intDiv,Sem.run_pure,e,show b≠0 by omega]
 · simp [eqGuard,binOp,Op.intCmp,Sem.run_pure];rfl
 · simp [eqGuard,binOp,Op.intCmp,Sem.run_pure];rfl
 · simp [eqGuard,binOp,Op.intCmp,Sem.run_pure]
 · simp [eqGuard,binOp,Op.intCmp,Sem.run_pure]
 · simp [eqGuard,binOp,Op.intCmp,Sem.run_pure]
 · simp [eqGuard,binOp,Op.intCmp,Sem.run_pure]
theorem pu_shl {T T':TypeId} {x y:Operand} {k k':IntKind} {a b:Int} (hx:evO t x=some (.int k a)) (hy:evO t y=some (.int k' b)) (hb:0<=b/\b<=k.bits):Pur P r t ⟨d,.binOp .shl T x y T',ty,pos,af,gd⟩ (.int k (k.wrap (a*2 ^ b.toNat))):=by
 refine ⟨rfl,fun w _=>?_⟩
 have h1:min b.toNat k.bits=b.toNat:=Nat.min_eq_left (by omega)
 simp [execOp,ev_of hx,ev_of hy,eqGuard,binOp,Op.shift,Sem.run_pure,show ¬ b<0 by omega,h1]
theorem pu_shr {T T':TypeId} {x y:Operand} {k k':IntKind} {a b:Int} (hx:evO t x=some (.int k a)) (hy:evO t y=some (.int k' b)) (hb:0<=b/\b<=k.bits):Pur P r t ⟨d,.binOp .shr T x y T',ty,pos,af,gd⟩ (.int k (a / 2 ^ b.toNat)):=by
 refine ⟨rfl,fun w _=>?_⟩
 have h1:min b.toNat k.bits=b.toNat:=Nat.min_eq_left (by omega)
 have h2:a.fdiv (2 ^ b.toNat)=a / 2 ^ b.toNat:=Int.fdiv_eq_ediv_of_nonneg _ (by have:(0:Int)<=((2 ^ b.toNat:Nat):Int):=Int.natCast_nonneg _;simpa using this)
 simp [execOp,ev_of hx,ev_of hy,eqGuard,binOp,Op.shift,Sem.run_pure,show ¬ b<0 by omega,h1,h2]
def bitI (op:BinOp) (k:IntKind) (a b:Int):Int :=
 let x:=BitVec.ofInt k.bits a;let y:=BitVec.ofInt k.bits b
 k.wrap ((match op with | .and=>x &&& y | .or=>x ||| y | .xor=>x ^^^ y | _=>x &&& ~~~ y).toNat)
theorem pu_bit {op:BinOp} {T T':TypeId} {x y:Operand} {k:IntKind} {a b:Int} (hx:evO t x=some (.int k a)) (hy:evO t y=some (.int k b)) (hop:(match op with | .and | .or | .xor | .andNot=>true | _=>false)=true):Pur P r t ⟨d,.binOp op T x y T',ty,pos,af,gd⟩ (.int k (bitI op k a b)):=by
 refine ⟨rfl,fun w _=>?_⟩
 cases op<;>simp at hop
 all_goals simp [execOp,ev_of hx,ev_of hy,eqGuard,binOp,Op.intBits,bitI,Sem.run_pure]
theorem pu_conv {S T:TypeId} {x:Operand} {k k':IntKind} {a:Int} {ks:Kd} [TyKd P T (.int k)] [hS0:TyKd P S ks] (hx:evO t x=some (.int k' a)) (hp:inR k a):Pur P r t ⟨d,.convert S T x,ty,pos,af,gd⟩ (.int k a):=by
 refine ⟨rfl,fun w _=>?_⟩
 obtain ⟨u,hS⟩:=kd_some hS0.kd
 simp [execOp,ev_of hx,convert,Sem.run_bind,run_underlying hS,run_underlying (ty_int (P:=P) (T:=T)),Sem.run_pure,Result.andThen,Conv.intToInt,inR_wrap hp]
theorem pu_convW {S T:TypeId} {x:Operand} {k k':IntKind} {a:Int} {ks:Kd} [TyKd P T (.int k)] [hS0:TyKd P S ks] (hx:evO t x=some (.int k' a)):Pur P r t ⟨d,.convert S T x,ty,pos,af,gd⟩ (.int k (k.wrap a)):=by
 refine ⟨rfl,fun w _=>?_⟩
 obtain ⟨u,hS⟩:=kd_some hS0.kd
 simp [execOp,ev_of hx,convert,Sem.run_bind,run_underlying hS,run_underlying (ty_int (P:=P) (T:=T)),Sem.run_pure,Result.andThen,Conv.intToInt]
theorem pu_min {T:Array TypeId} {x y:Operand} {k:IntKind} {a b:Int} (hx:evO t x=some (.int k a)) (hy:evO t y=some (.int k b)):Pur P r t ⟨d,.call { callee:= .builtin .min,args := #[x,y],argTypes:=T },ty,pos,af,gd⟩ (.int k (min a b)):=by
 refine ⟨rfl,fun w _=>?_⟩
 have:(if b<a then b else a)=min a b:=by omega
 simp [execOp,resolve,invoke,builtin,Builtin.min_,Builtin.min2,ev_of hx,ev_of hy,Sem.run_pure,this]
theorem pu_max {T:Array TypeId} {x y:Operand} {k:IntKind} {a b:Int} (hx:evO t x=some (.int k a)) (hy:evO t y=some (.int k b)):Pur P r t ⟨d,.call { callee:= .builtin .max,args := #[x,y],argTypes:=T },ty,pos,af,gd⟩ (.int k (max a b)):=by
 refine ⟨rfl,fun w _=>?_⟩
 have:(if a<b then b else a)=max a b:=by omega
 simp [execOp,resolve,invoke,builtin,Builtin.max_,Builtin.max2,ev_of hx,ev_of hy,Sem.run_pure,this]
def binS:BinOp->ByteArray->ByteArray->Option Value
 | .eql,x,y=>some (.bool (decide (x.data.toList=y.data.toList)))
 | .neq,x,y=>some (.bool (!decide (x.data.toList=y.data.toList)))
 | .lss,x,y=>some (.bool (Op.bytesLess x.data.toList y.data.toList))
 | .leq,x,y=>some (.bool (Op.bytesLess x.data.toList y.data.toList || decide (x.data.toList=y.data.toList)))
 | .gtr,x,y=>some (.bool (!(Op.bytesLess x.data.toList y.data.toList || decide (x.data.toList=y.data.toList))))
 | .geq,x,y=>some (.bool (!Op.bytesLess x.data.toList y.data.toList))
 | _,_,_=>none
theorem beq_dec (x y:List UInt8):(x == y)=decide (x=y):=by rw [Bool.eq_iff_iff];simp
theorem pu_str {op:BinOp} {T T':TypeId} {x y:Operand} {a b:ByteArray} (hx:evO t x=some (.string a)) (hy:evO t y=some (.string b)) (hv:binS op a b=some v):Pur P r t ⟨d,.binOp op T x y T',ty,pos,af,gd⟩ v:=by
 refine ⟨rfl,fun w _=>?_⟩
 unfold binS at hv
 split at hv
 all_goals first|cases hv|(simp only [Option.some.injEq] at hv;subst hv)
 all_goals simp [execOp,ev_of hx,ev_of hy,eqGuard,binOp,Op.stringOp,Sem.run_pure,ByteArray.toList_eq]
 all_goals (try (rw [Bool.eq_iff_iff];simp))
theorem pu_cat {T T':TypeId} {x y:Operand} {a b:List UInt8} (hx:evO t x=some (.string (bs a))) (hy:evO t y=some (.string (bs b))) (hl:a.length+b.length<=9223372036854775807):Pur P r t ⟨d,.binOp .add T x y T',ty,pos,af,gd⟩ (.string (bs (a++b))):=by
 refine ⟨rfl,fun w _=>?_⟩
 have h1:¬ (((bs a).size+(bs b).size:Nat):Int) > IntKind.i64.max:=by rw [bs_size,bs_size];simp [IntKind.max,IntKind.signed,IntKind.bits];omega
 have h2:bs a++bs b=bs (a++b):=by unfold bs;apply ByteArray.ext;simp
 simp only [execOp,ev_of hx,ev_of hy,binOp,Op.stringOp]
 rw [if_neg h1]
 simp [eqGuard,Sem.run_pure,h2]
def binB:BinOp->Bool->Bool->Option Value
 | .eql,x,y=>some (.bool (x == y))
 | .neq,x,y=>some (.bool (!(x == y)))
 | _,_,_=>none
theorem pu_bool {op:BinOp} {T T':TypeId} {x y:Operand} {a b:Bool} [TyKd P T .bool] (hx:evO t x=some (.bool a)) (hy:evO t y=some (.bool b)) (hv:binB op a b=some v):Pur P r t ⟨d,.binOp op T x y T',ty,pos,af,gd⟩ v:=by
 refine ⟨rfl,fun w _=>?_⟩
 unfold binB at hv
 split at hv
 all_goals first|cases hv|(simp only [Option.some.injEq] at hv;subst hv)
 all_goals
  have he:(Op.equal T (.bool a) (.bool b)).run P w = .ok (a == b) w:=by
   show (Op.equalIn (9999+1) T (.bool a) (.bool b)).run P w=_
   unfold Op.equalIn
   simp [Sem.run_bind,Sem.run_pure,Result.andThen,run_underlying (ty_bool (P:=P) (T:=T))]
  simp [execOp,ev_of hx,ev_of hy,eqGuard,binOp,Result.andThen,he]
theorem pu_lenS {T:TypeId} {x:Operand} {l:List UInt8} [TyKd P T .str] (hx:evO t x=some (.string (bs l))):Pur P r t ⟨d,.call { callee:= .builtin .len,args := #[x],argTypes := #[T] },ty,pos,af,gd⟩ (.int .i64 (l.length:Nat)):=by
 refine ⟨rfl,fun w _=>?_⟩
 simp [execOp,resolve,invoke,builtin,Builtin.len_,ev_of hx,Sem.run_bind,Sem.run_pure,Result.andThen,run_underlying (ty_str (P:=P) (T:=T)),goInt,bs_size]
theorem pu_ixS {T:TypeId} {x y:Operand} {l:List UInt8} {k:IntKind} {i:Int} [TyKd P T .str] (hx:evO t x=some (.string (bs l))) (hy:evO t y=some (.int k i)) (h0:0<=i/\i<l.length):Pur P r t ⟨d,.index T x y,ty,pos,af,gd⟩ (.int .u8 ((l.getD i.toNat 0).toNat:Nat)):=by
 refine ⟨rfl,fun w _=>?_⟩
 have h1:i.toNat<(bs l).size:=by rw [bs_size];omega
 have h2:(bs l)[i.toNat]?=some (l.getD i.toNat 0):=by
  have h3:i.toNat<l.length:=by omega
  rw [getElem?_pos (bs l) i.toNat h1]
  simp [bs,h3,ByteArray.getElem_eq_getElem_data]
 simp [execOp,Instr.index,ev_of hx,ev_of hy,asIntOf,Sem.run_bind,Sem.run_pure,Result.andThen,run_underlying (ty_str (P:=P) (T:=T)),h0.1,h2]
theorem pu_ixSN {T:TypeId} {x y:Operand} {l:List UInt8} {k:IntKind} {i:Nat} [TyKd P T .str] (hx:evO t x=some (.string (bs l))) (hy:evO t y=some (.int k (i:Int))) (h0:i<l.length):Pur P r t ⟨d,.index T x y,ty,pos,af,gd⟩ (.int .u8 ((l.getD i 0).toNat:Nat)):=by
 have:=pu_ixS (P:=P) (r:=r) (d:=d) (T:=T) (ty:=ty) (pos:=pos) (af:=af) (gd:=gd) hx hy ⟨by omega,by omega⟩
 simpa using this
theorem run_sb {k:IntKind} {i:Int} {y:Nat} {code:BoundsCode} {w:World} (h0:0<=i) (h1:i<=y):(Instr.sliceBound (.int k i) y code).run P w = .ok i.toNat w:=by
 simp [Instr.sliceBound,asIntOf,Sem.run_pure,h0,h1]
def Bds (t:List Value) (lo hi:Option Operand) (n:Nat) (i j:Int):Prop :=
 (lo=none/\i=0 \/ ∃ x k,lo=some x/\evO t x=some (.int k i))/\(hi=none/\j=n \/ ∃ x k,hi=some x/\evO t x=some (.int k j))
theorem bds_ss {x y:Operand} {k k':IntKind} {n:Nat} {i j:Int} (hx:evO t x=some (.int k i)) (hy:evO t y=some (.int k' j)):Bds t (some x) (some y) n i j:=⟨.inr ⟨x,k,rfl,hx⟩,.inr ⟨y,k',rfl,hy⟩⟩
theorem bds_sn {x:Operand} {k:IntKind} {n:Nat} {i:Int} (hx:evO t x=some (.int k i)):Bds t (some x) none n i n:=⟨.inr ⟨x,k,rfl,hx⟩,.inl ⟨rfl,rfl⟩⟩
theorem bds_ns {y:Operand} {k':IntKind} {n:Nat} {j:Int} (hy:evO t y=some (.int k' j)):Bds t none (some y) n 0 j:=⟨.inl ⟨rfl,rfl⟩,.inr ⟨y,k',rfl,hy⟩⟩
theorem run_bds {lo hi:Option Operand} {n cap:Nat} {i j:Int} {b:Bool} {w:World} (h:Bds t lo hi n i j) (h0:0<=i/\i<=j/\j<=cap):(Instr.sliceBounds b n cap (lo.map (evalL t)) (hi.map (evalL t)) none).run P w = .ok (i.toNat,j.toNat,cap) w:=by
 obtain ⟨h1,h2⟩:=h
 obtain ⟨a1,a2,a3⟩:=h0
 have a4:i<=(j.toNat:Nat):=by omega
 rcases h1 with ⟨rfl,rfl⟩ | ⟨x,k,rfl,hx⟩<;>rcases h2 with ⟨rfl,rfl⟩ | ⟨y,k',rfl,hy⟩
 · simp [Instr.sliceBounds,Sem.run_pure]
 · simp only [Option.map_none,Option.map_some,ev_of hy,Instr.sliceBounds,Sem.run_bind,Sem.run_pure,Result.andThen]
   rw [run_sb (by omega) a3];simp []
 · simp only [Option.map_none,Option.map_some,ev_of hx,Instr.sliceBounds,Sem.run_bind,Sem.run_pure,Result.andThen]
   rw [run_sb a1 a2];simp
 · simp only [Option.map_some,ev_of hx,ev_of hy,Instr.sliceBounds,Sem.run_bind,Sem.run_pure,Result.andThen]
   rw [run_sb (by omega) a3]
   simp only []
   rw [run_sb a1 a4]
theorem pu_slS {T:TypeId} {x:Operand} {lo hi:Option Operand} {l:List UInt8} {i j:Int} [TyKd P T .str] (hx:evO t x=some (.string (bs l))) (hb:Bds t lo hi l.length i j) (h0:0<=i/\i<=j/\j<=l.length) :
 Pur P r t ⟨d,.slice T x lo hi none,ty,pos,af,gd⟩ (.string (bs ((l.drop i.toNat).take (j.toNat - i.toNat)))):=by
 refine ⟨rfl,fun w _=>?_⟩
 have e3:(bs l).extract i.toNat j.toNat=bs ((l.drop i.toNat).take (j.toNat - i.toNat)):=by
  apply ByteArray.ext;simp [bs,ByteArray.data_extract]
 have e4:=run_bds (P:=P) (b:=false) (cap:=(bs l).size) (w:=w) hb (by rw [bs_size];exact h0)
 have e5:=bs_size l
 simp only [execOp,ev_of hx,Option.map_none,Instr.sliceAt,Sem.run_bind,run_underlying (ty_str (P:=P) (T:=T)),Result.andThen,Instr.slice]
 rw [← e5] at e4 hb
 have e6:=run_bds (P:=P) (b:=false) (cap:=(bs l).size) (w:=w) hb (by rw [bs_size];exact h0)
 simp [e6,Sem.run_pure,e3]
theorem pu_fa {S F:TypeId} {x:Operand} {f off n b o:Nat} {g:Bool} [hf:TyFld P S f off F] [TyF P F g (n+1)] (hx:evO t x=some (.pointer (some ⟨b,o,none⟩))):Pur P r t ⟨d,.fieldAddr S x f,ty,pos,af,gd⟩ (.pointer (some ⟨b,o+off,none⟩)):=by
 refine ⟨rfl,fun w _=>?_⟩
 obtain ⟨fs,y,h1,h2,h3,h4⟩:=hf.fld
 subst h3;subst h4
 simp [execOp,ev_of hx,Instr.fieldAt,Instr.sureAddr,Sem.run_bind,run_underlying h1,h2,fieldPlace,run_sizeOf (P:=P) (T:=y.type) ty_size,Sem.run_pure,Result.andThen,add_none]
theorem pu_fa0 {S F:TypeId} {x:Operand} {f n b o:Nat} {g:Bool} [hf:TyFld P S f 0 F] [TyF P F g (n+1)] (hx:evO t x=some (.pointer (some ⟨b,o,none⟩))):Pur P r t ⟨d,.fieldAddr S x f,ty,pos,af,gd⟩ (.pointer (some ⟨b,o,none⟩)):=by simpa using pu_fa (P:=P) (r:=r) (S:=S) (F:=F) (f:=f) (off:=0) (n:=n) (g:=g) (d:=d) (ty:=ty) (pos:=pos) (af:=af) (gd:=gd) hx
class TyPl (P:Program) (T:TypeId) (pl:outParam (List (Nat × Nat))):Prop where
 pl : ∃ fs,P.underlying T=some (.struct fs)/\fs.toList.mapM (fun f=>(P.info? f.type).map fun i=>(f.offset,i.size))=some pl
def plB (P:Program) (T:TypeId):Option (List (Nat × Nat)):=match P.underlying T with|some (.struct fs)=>fs.toList.mapM (fun f=>(P.info? f.type).map fun i=>(f.offset,i.size)) | _=>none
theorem pl_s {T:TypeId} {pl:List (Nat × Nat)} (h:plB P T=some pl) : ∃ fs,P.underlying T=some (.struct fs)/\fs.toList.mapM (fun f=>(P.info? f.type).map fun i=>(f.offset,i.size))=some pl:=by
 unfold plB at h
 split at h
 · rename_i fs e;exact ⟨fs,e,h⟩
 · cases h
theorem cells_aggL {cs:List Value}:(Value.agg cs.toArray).cells=cs.toArray:=rfl
theorem cells_oneL {v:Value} (h:one? v=true):v.cells=[v].toArray:=cells_one h
inductive Bld (t:List Value) (pl:List (Nat × Nat)):List Value->List (Nat × Operand)->List Value->Prop
 | nil {c:List Value}:Bld t pl c [] c
 | cons {i off n:Nat} {x:Operand} {v u:Value} {vs c c1 c2:List Value} {rest:List (Nat × Operand)} (hx:evO t x=some v) (hp:pl[i]?=some (off,n)) (hv:v.cells=(u::vs).toArray) (hl:(u::vs).length=n) (hs:SetsAt c off (u::vs) c1) (k:Bld t pl c1 rest c2):Bld t pl c ((i,x)::rest) c2
theorem Bld.fill {pl:List (Nat × Nat)} {c c':List Value} {L:List (Nat × Operand)} (h:Bld t pl c L c'):Instr.fill (pl.toArray[·]?) c.toArray (L.map fun (i,x)=>(i,evalL t x))=some c'.toArray:=by
 induction h with
 | nil=>rfl
 | @cons i off n x v u vs c c1 c2 rest hx hp hv hl hs k ih =>
  obtain ⟨e1,e2⟩:=hs.set
  simp only [List.map_cons,ev_of hx]
  unfold Instr.fill
  simp only [List.getElem?_toArray,hp,hv]
  have h3:off+(vs.length+1)<=c.length:=by
   rcases e2 with e2|e2
   · cases e2
   · simpa using e2
  have h4:n=vs.length+1:=by rw [← hl];rfl
  rw [if_neg (by simp [h4];omega),← Array.foldl_toList,Array.toList_zipIdx]
  have:=fold_setN (u::vs) 0 off c.toArray
  rw [Nat.add_zero,e1] at this
  rw [show (u::vs).toArray.toList=u::vs from rfl,this]
  simp only [List.getElem?_toArray] at ih
  exact ih
theorem pu_build {T:TypeId} {L:List (Nat × Operand)} {z c':List Value} {n b:Nat} {pl:List (Nat × Nat)} [hz:TyZ P T (.agg z.toArray) n b] [hp:TyPl P T pl] (hb:Bld t pl z L c'):Pur P r t ⟨d,.build T L.toArray,ty,pos,af,gd⟩ (.agg c'.toArray):=by
 refine ⟨rfl,fun w _=>?_⟩
 obtain ⟨fs,h1,h2⟩:=hp.pl
 obtain ⟨i,h3,h4,_⟩:=infB_s hz.inf
 have:=run_build (P:=P) w T ((L.map fun (i,x)=>(i,evalL t x)).toArray) c'.toArray (by
  unfold Program.built
  simp only [h3,h1,h4,h2]
  exact hb.fill)
 simp only [execOp,Sem.run_bind,List.map_toArray,this,Result.andThen,Sem.run_pure]
def eqV:Kd->Value->Value->Option Bool
 | .int _,.int k a,.int k' b=>if k=k' then some (decide (a=b)) else none
 | .str,.string a,.string b=>some (decide (a.data.toList=b.data.toList))
 | .bool,.bool a,.bool b=>some (a == b)
 | _,_,_=>none
theorem eqV_run {T:TypeId} {k:Kd} {a b:Value} {p:Bool} {dd:Nat} {w:World} (hk:kdB P T=some k) (h:eqV k a b=some p):(Op.equalIn (dd+1) T a b).run P w = .ok p w:=by
 unfold eqV at h
 split at h
 · split at h
   · rename_i e;subst e;cases h
     rw [run_equalIn_int w dd T _ _ _ _ (kd_int hk)];rfl
   · cases h
 · cases h
   rw [run_equalIn_string w dd T _ _ (kd_str hk),ByteArray.toList_eq,ByteArray.toList_eq,beq_dec]
 · cases h
   rw [run_equalIn_bool w dd T _ _ (kd_bool hk)]
 · cases h
def Kd.flat:Kd->Bool | .int _ | .str | .bool=>true | _=>false
theorem kd_flat {T:TypeId} {k:Kd} (hk:kdB P T=some k) (_h:k.flat=true):aggB P T=some false:=by
 unfold kdB at hk
 unfold aggB
 split at hk<;>simp_all [Kd.flat]
 all_goals (subst hk;cases h)
def blkV:Value->Nat | .slice (some a) _ _=>a.block | _=>0
def offV:Value->Nat | .slice (some a) _ _=>a.off | _=>0
theorem Sl.cellAt {n sz:Nat} {xs:List Value} (h:Sl r sz v n xs) {j:Nat} (hj:j<xs.length) (H:List Ch):Rd1 r H ⟨blkV v,offV v+j,none⟩ xs[j]:=by
 rcases h.2.2 with ⟨_,rfl⟩ | ⟨b,off,cap,c,E,fz,rfl,h1,h2,h3⟩
 · have:=h.1;simp at this;subst this;cases hj
 · exact rd_r h2 (h3 j hj)
theorem pu_len {sz n:Nat} {xs:List Value} {T E:TypeId} {x:Operand} [TyE P T E] (hx:evO t x=some v) (hv:Sl r sz v n xs):Pur P r t ⟨d,.call { callee:= .builtin .len,args := #[x],argTypes := #[T] },ty,pos,af,gd⟩ (.int .i64 n):=by
 refine ⟨rfl,fun w _=>?_⟩
 obtain ⟨a,c,rfl⟩:=hv.form
 simp [execOp,resolve,invoke,builtin,Builtin.len_,ev_of hx,Sem.run_bind,Sem.run_pure,Result.andThen,run_underlying (ty_slc (P:=P) (T:=T)),goInt]
theorem pu_lenA {n c:Nat} {a:Option Addr} {T E:TypeId} {x:Operand} [TyE P T E] (hx:evO t x=some (.slice a n c)):Pur P r t ⟨d,.call { callee:= .builtin .len,args := #[x],argTypes := #[T] },ty,pos,af,gd⟩ (.int .i64 n):=by
 refine ⟨rfl,fun w _=>?_⟩
 simp [execOp,resolve,invoke,builtin,Builtin.len_,ev_of hx,Sem.run_bind,Sem.run_pure,Result.andThen,run_underlying (ty_slc (P:=P) (T:=T)),goInt]
theorem pu_capA {n c:Nat} {a:Option Addr} {T E:TypeId} {x:Operand} [TyE P T E] (hx:evO t x=some (.slice a n c)):Pur P r t ⟨d,.call { callee:= .builtin .cap,args := #[x],argTypes := #[T] },ty,pos,af,gd⟩ (.int .i64 c):=by
 refine ⟨rfl,fun w _=>?_⟩
 simp [execOp,resolve,invoke,builtin,Builtin.cap_,ev_of hx,Sem.run_bind,Sem.run_pure,Result.andThen,run_underlying (ty_slc (P:=P) (T:=T)),goInt]
theorem pu_ix {sz n:Nat} {xs:List Value} {T E:TypeId} {x y:Operand} {k:IntKind} {i:Int} {g:Bool} [TyE P T E] [hE:TyF P E g sz] (hx:evO t x=some v) (hv:Sl r sz v n xs) (hy:evO t y=some (.int k i)) (h0:0<=i/\i<n) :
 Pur P r t ⟨d,.indexAddr T x y,ty,pos,af,gd⟩ (.pointer (some ⟨blkV v,offV v+i.toNat*sz,none⟩)):=by
 refine ⟨rfl,fun w _=>?_⟩
 rcases hv.2.2 with ⟨_,rfl⟩ | ⟨b,off,cap,c,E',fz,rfl,h1,h2,h3⟩
 · omega
 · simp [execOp,Instr.indexAt,asIntOf,ev_of hx,ev_of hy,Sem.run_bind,Result.andThen,run_underlying (ty_slc (P:=P) (T:=T)),run_sizeOf (P:=P) (T:=E) hE.size,h0.1,h0.2,add_none,blkV,offV]
theorem pu_ixN {sz n:Nat} {xs:List Value} {T E:TypeId} {x y:Operand} {k:IntKind} {i:Nat} {g:Bool} [TyE P T E] [hE:TyF P E g sz] (hx:evO t x=some v) (hv:Sl r sz v n xs) (hy:evO t y=some (.int k (i:Int))) (h0:i<n) :
 Pur P r t ⟨d,.indexAddr T x y,ty,pos,af,gd⟩ (.pointer (some ⟨blkV v,offV v+i*sz,none⟩)):=by
 have:=pu_ix (P:=P) (d:=d) (ty:=ty) (pos:=pos) (af:=af) (gd:=gd) (g:=g) (T:=T) hx hv hy ⟨by omega,by omega⟩
 simpa using this
theorem pu_ld {T:TypeId} {x:Operand} {a:Addr} {n:Nat} [TyF P T false n] (hx:evO t x=some (.pointer (some a))) (hc:Rd1 r [] a v):Pur P r t ⟨d,.load T x,ty,pos,af,gd⟩ v :=
 ⟨rfl,fun w e=>by
  have hc':=hc w emp e (fun b o c=>by cases c) rfl
  simp [execOp,Instr.loadAt,Instr.sureAddr,ev_of hx,loadVar,Sem.run_bind,run_isAgg (P:=P) (T:=T) ty_agg,Result.andThen,run_load hc']⟩
theorem pu_ldN {T:TypeId} {x:Operand} {a:Addr} {n:Nat} {vs:List Value} [TyF P T true n] (hx:evO t x=some (.pointer (some a))) (hc:RdN r [] a vs.toArray) (hl:vs.length=n):Pur P r t ⟨d,.load T x,ty,pos,af,gd⟩ (.agg vs.toArray) :=
 ⟨rfl,fun w e=>by
  have:=run_loadCells (P:=P) (a:=a) (w:=w) vs.length 0 #[] vs.toArray (by simp) (fun j hj=>by rw [Nat.zero_add];exact hc j hj w emp e (fun b o c=>by cases c) rfl)
  subst hl
  simp [execOp,Instr.loadAt,Instr.sureAddr,ev_of hx,loadVar,loadCells,Sem.run_bind,run_isAgg (P:=P) (T:=T) ty_agg,run_sizeOf (P:=P) (T:=T) ty_size,Result.andThen,this]⟩
theorem pu_ldB {T:TypeId} {x:Operand} {u:Value} {l:List UInt8} {n i:Nat} [TyF P T false n] (hx:evO t x=some (.pointer (some ⟨blkV u,offV u+i*1,none⟩))) (hv:Sl r 1 u l.length (u8s l)) (h0:i<l.length):Pur P r t ⟨d,.load T x,ty,pos,af,gd⟩ (.int .u8 ((l.getD i 0).toNat:Nat)):=by
 refine pu_ld hx ?_
 have:=hv.cellAt (j:=i) (by simp [u8s];exact h0) []
 rw [Nat.mul_one]
 simpa [u8s,h0] using this
theorem Els.sl {α:Type} {sz:Nat} {enc:α->List Value} {u:Value} {xs:List α} (h:Els r sz enc u xs):Sl r sz u xs.length (xs.flatMap enc):=h.2
theorem Els.cellD {α:Type} (ia:Inhabited α) {sz:Nat} {enc:α->List Value} {u:Value} {xs:List α} (h:Els r sz enc u xs) {i j:Nat} (hi:i<xs.length) (hj:(enc (xs.getD i default))[j]?=some v) (H:List Ch):Rd1 r H ⟨blkV u,offV u+(i*sz+j),none⟩ v:=by
 obtain ⟨hjl,e⟩:=List.getElem?_eq_some_iff.1 hj
 have hx:xs.getD i default=xs[i]:=by simp [hi]
 have hl:j<sz:=by rw [← h.1 (xs.getD i default)];exact hjl
 have hle:=flat_at h.1 xs i hi
 have hk:i*sz+j<(xs.flatMap enc).length:=by
  rw [flat_len h.1]
  have:(i+1)*sz<=xs.length*sz:=Nat.mul_le_mul_right _ hi
  rw [Nat.succ_mul] at this;omega
 have hc:=h.2.cellAt hk H
 have e2:(xs.flatMap enc)[i*sz+j]=v:=by
  have h1:(enc xs[i])[j]?=some v:=by rw [← hx];exact hj
  rw [← hle,List.getElem?_take,if_pos hl,List.getElem?_drop,List.getElem?_eq_getElem hk] at h1
  exact Option.some.inj h1
 rw [e2] at hc
 exact hc
theorem pu_ldE {α:Type} {T:TypeId} {x:Operand} {u:Value} {enc:α->List Value} {xs:List α} {sz i:Nat} [TyF P T true sz] (hx:evO t x=some (.pointer (some ⟨blkV u,offV u+i*sz,none⟩))) (hv:Els r sz enc u xs) (h0:i<xs.length) (ia:Inhabited α):Pur P r t ⟨d,.load T x,ty,pos,af,gd⟩ (.agg (enc (xs.getD i default)).toArray):=by
 refine pu_ldN hx ?_ (hv.1 _)
 intro j hj
 rw [add_none,Nat.add_assoc]
 exact hv.cellD ia h0 (by simp at hj;simp [hj]) []
theorem pu_ldF {α:Type} (ia:Inhabited α) {T:TypeId} {x:Operand} {u:Value} {enc:α->List Value} {xs:List α} {sz i j n:Nat} [TyF P T false n] (hx:evO t x=some (.pointer (some ⟨blkV u,offV u+i*sz+j,none⟩))) (hv:Els r sz enc u xs) (h0:i<xs.length) (hj:(enc (xs.getD i default))[j]?=some v):Pur P r t ⟨d,.load T x,ty,pos,af,gd⟩ v:=by
 refine pu_ld hx ?_
 rw [Nat.add_assoc]
 exact hv.cellD ia h0 hj []
theorem pu_ldF0 {α:Type} (ia:Inhabited α) {T:TypeId} {x:Operand} {u:Value} {enc:α->List Value} {xs:List α} {sz i n:Nat} [TyF P T false n] (hx:evO t x=some (.pointer (some ⟨blkV u,offV u+i*sz,none⟩))) (hv:Els r sz enc u xs) (h0:i<xs.length) (hj:(enc (xs.getD i default))[0]?=some v):Pur P r t ⟨d,.load T x,ty,pos,af,gd⟩ v:=by
 refine pu_ld hx ?_
 exact hv.cellD ia h0 hj []
def cutV (v:Value) (lo hi sz:Nat):Value:=match v with
 | .slice a _ cap=> .slice (if cap=lo then a else a.map (·.add (lo*sz))) (hi - lo) (cap - lo)
 | v=>v
theorem pu_sl0 {T E:TypeId} {x:Operand} {lo hi:Option Operand} {sz n:Nat} {xs:List Value} {i j:Int} (hT:elB P T=some E) (hE:sizeB P E=some sz) (hx:evO t x=some v) (hv:Sl r sz v n xs) (hb:Bds t lo hi n i j) (h0:0<=i/\i<=j/\j<=n) :
 Pur P r t ⟨d,.slice T x lo hi none,ty,pos,af,gd⟩ (cutV v i.toNat j.toNat sz):=by
 refine ⟨rfl,fun w _=>?_⟩
 obtain ⟨a,cap,rfl⟩:=hv.form
 have hcap:n<=cap:=by
  rcases hv.2.2 with ⟨e,rfl⟩ | ⟨b,off,cap',c,E',fz,e,h1,_⟩
  · omega
  · injection e with _ _ e;omega
 have e4:=run_bds (P:=P) (b:=true) (cap:=cap) (w:=w) hb (by omega)
 simp only [execOp,ev_of hx,Option.map_none,Instr.sliceAt,Sem.run_bind,run_underlying (elB_s hT),Result.andThen,Instr.slice]
 simp [e4,Sem.run_pure,run_sizeOf (P:=P) (T:=E) hE,cutV]
theorem pu_sl {T E:TypeId} {x:Operand} {lo hi:Option Operand} {sz n:Nat} {xs:List Value} {i j:Int} {g:Bool} [hT:TyE P T E] [hE:TyF P E g sz] (hx:evO t x=some v) (hv:Sl r sz v n xs) (hb:Bds t lo hi n i j) (h0:0<=i/\i<=j/\j<=n) :
 Pur P r t ⟨d,.slice T x lo hi none,ty,pos,af,gd⟩ (cutV v i.toNat j.toNat sz):=pu_sl0 hT.el hE.size hx hv hb h0
theorem Sl.cut {n sz:Nat} {xs:List Value} (h:Sl r sz v n xs) {i j:Nat} (h1:i<=j) (h2:j<=n):Sl r sz (cutV v i j sz) (j - i) ((xs.drop (i*sz)).take ((j - i)*sz)):=by
 have hm:(j - i)*sz+i*sz=j*sz:=by rw [← Nat.add_mul];congr 1;omega
 have hl:((xs.drop (i*sz)).take ((j - i)*sz)).length=(j - i)*sz:=by
  have h3:j*sz<=n*sz:=Nat.mul_le_mul_right _ h2
  have:=h.1
  simp;omega
 have hmx:=h.2.1
 refine ⟨hl,by omega,?_⟩
 rcases h.2.2 with ⟨⟨a,rfl⟩,rfl⟩ | ⟨b,off,cap,c,E,fz,rfl,h3,h4,h5⟩
 · left
   have e1:i=0:=by omega
   have e2:j=0:=by omega
   subst e1;subst e2;exact ⟨⟨a,rfl⟩,rfl⟩
 · right
   by_cases hc:cap=i
   · have hz:j - i=0:=by omega
     refine ⟨b,off,cap - i,c,E,fz,by simp only [cutV];rw [if_pos hc],by omega,h4,fun k hk=>?_⟩
     rw [hl,hz] at hk;simp at hk
   · refine ⟨b,off+i*sz,cap - i,c,E,fz,by simp only [cutV];rw [if_neg hc];simp [add_none],by omega,h4,fun k hk=>?_⟩
     have hk2:i*sz+k<xs.length:=by
      have h3:j*sz<=n*sz:=Nat.mul_le_mul_right _ h2
      have:=h.1
      rw [hl] at hk;omega
     rw [Nat.add_assoc,h5 _ hk2]
     simp
theorem Els.cut {α:Type} {sz:Nat} {enc:α->List Value} {xs:List α} (h:Els r sz enc v xs) {i j:Nat} (h1:i<=j) (h2:j<=xs.length):Els r sz enc (cutV v i j sz) ((xs.drop i).take (j - i)):=by
 refine ⟨h.1,?_⟩
 have:=h.2.cut h1 h2
 have e : ∀ (xs:List α) (i:Nat),(xs.flatMap enc).drop (i*sz)=(xs.drop i).flatMap enc:=by
  intro xs
  induction xs with
  | nil=>simp
  | cons x xs ih =>
   intro i
   cases i with
   | zero=>simp
   | succ i =>
    have h2:(i+1)*sz=(enc x).length+i*sz:=by rw [h.1 x,Nat.succ_mul];omega
    rw [List.flatMap_cons,h2,List.drop_append]
    rw [show (enc x).length+i*sz - (enc x).length=i*sz by omega,List.drop_eq_nil_of_le (by omega),List.nil_append,ih];simp
 have e2 : ∀ (xs:List α) (i:Nat),(xs.flatMap enc).take (i*sz)=(xs.take i).flatMap enc:=by
  intro xs
  induction xs with
  | nil=>simp
  | cons x xs ih =>
   intro i
   cases i with
   | zero=>simp
   | succ i =>
    have h2:(i+1)*sz=(enc x).length+i*sz:=by rw [h.1 x,Nat.succ_mul];omega
    rw [List.flatMap_cons,h2,List.take_append]
    rw [show (enc x).length+i*sz - (enc x).length=i*sz by omega,List.take_of_length_le (by omega),ih];simp
 rw [e,e2] at this
 rw [show ((xs.drop i).take (j - i)).length=j - i by simp;omega]
 exact this
theorem u8s_cut {l:List UInt8} {n i j:Nat} (h:Sl r 1 v n (u8s l)) (h1:i<=j) (h2:j<=n):Sl r 1 (cutV v i j 1) ((l.drop i).take (j - i)).length (u8s ((l.drop i).take (j - i))):=by
 have:=h.cut h1 h2
 have hl:=h.1
 simp only [u8s,List.length_map,Nat.mul_one] at hl this ⊢
 rw [List.length_take,List.length_drop,Nat.min_eq_left (by omega)]
 simpa [List.map_take,List.map_drop] using this
theorem kx_slE {α:Type} {T E:TypeId} {x:Operand} {lo hi:Option Operand} {sz:Nat} {enc:α->List Value} {xs:List α} {i j:Int} {g:Bool} [TyE P T E] [hE:TyF P E g sz] (hx:evO t x=some v) (hv:Els r sz enc v xs) (hb:Bds t lo hi xs.length i j) (h0:0<=i/\i<=j/\j<=xs.length)
 (hk : ∀ v',Els r sz enc v' ((xs.drop i.toNat).take (j.toNat - i.toNat))->K (putL t d v') H):SWo P l r ⟨d,.slice T x lo hi none,ty,pos,af,gd⟩ K t H :=
 swo_pur (pu_sl (g:=g) hx hv.2 hb h0) (hk _ (hv.cut (by omega) (by omega)))
theorem kx_slB {T E:TypeId} {x:Operand} {lo hi:Option Operand} {bl:List UInt8} {i j:Int} {g:Bool} [TyE P T E] [hE:TyF P E g 1] (hx:evO t x=some v) (hv:Sl r 1 v bl.length (u8s bl)) (hb:Bds t lo hi bl.length i j) (h0:0<=i/\i<=j/\j<=bl.length)
 (hk : ∀ v',Sl r 1 v' ((bl.drop i.toNat).take (j.toNat - i.toNat)).length (u8s ((bl.drop i.toNat).take (j.toNat - i.toNat)))->K (putL t d v') H):SWo P l r ⟨d,.slice T x lo hi none,ty,pos,af,gd⟩ K t H :=
 swo_pur (pu_sl (g:=g) hx hv hb h0) (hk _ (u8s_cut hv (by omega) (by omega)))
theorem pi_slB {ops:Array Oper} {q:Nat} {π:List (Nat × Bool)} {T E:TypeId} {x:Operand} {lo hi:Option Operand} {bl:List UInt8} {i j:Int} (ho:ops[q]?=some ⟨d,.slice T x lo hi none,ty,pos,af,gd⟩) (hw:Region.wanted ⟨d,.slice T x lo hi none,ty,pos,af,gd⟩ (yielded ops t.toArray)=true) (hT:elB P T=some E) (hE:sizeB P E=some 1) (hx:evO t x=some v) (hv:Sl r 1 v bl.length (u8s bl)) (hb:Bds t lo hi bl.length i j) (h0:0<=i/\i<=j/\j<=bl.length)
 (hk : ∀ v',Sl r 1 v' ((bl.drop i.toNat).take (j.toNat - i.toNat)).length (u8s ((bl.drop i.toNat).take (j.toNat - i.toNat)))->SWpi P l r ops K π (putL t d v') H):SWpi P l r ops K ((q,true)::π) t H :=
 pi_pur ho hw (pu_sl0 hT hE hx hv hb h0) (hk _ (u8s_cut hv (by omega) (by omega)))
theorem RowC.cellAt {E:TypeId} {sz n:Nat} {xs:List Value} {H':List Ch} (ht:Take (RowC E sz v n xs) H H') {j:Nat} (hj:j<xs.length):Rd1 r H ⟨blkV v,offV v+j,none⟩ xs[j]:=by
 intro w g e1 e2 al
 obtain ⟨x,y,dd,rfl,hR,_⟩:=ht.all al
 have:=(RowC.sl (r:=x) hR (fun _ _ h=>h)).cellAt hj []
 exact this w emp e2.left (fun b o c=>by cases c) rfl
theorem kx_ixC {sz n:Nat} {xs:List Value} {T E E':TypeId} {x y:Operand} {k:IntKind} {i:Int} {g:Bool} {H':List Ch} [TyE P T E] [hE:TyF P E g sz] (hx:evO t x=some v) (ht:Take (RowC E' sz v n xs) H H') (hy:evO t y=some (.int k i)) (h0:0<=i/\i<n)
 (hk:K (putL t d (.pointer (some ⟨blkV v,offV v+i.toNat*sz,none⟩))) H):SWo P l r ⟨d,.indexAddr T x y,ty,pos,af,gd⟩ K t H :=
 swo_run (fun c hc=>by cases hc) fun w g0 ds ok al=>by
  obtain ⟨u,y,dd,rfl,hR,_⟩:=ht.all al
  have:=(pu_ix (P:=P) (r:=u) (d:=d) (ty:=ty) (pos:=pos) (af:=af) (gd:=gd) (g:=g) (T:=T) hx (RowC.sl (r:=u) hR (fun _ _ h=>h)) hy h0).2 w ok.emb.left
  exact ⟨_,w,H,_,this,hk,al,To.refl ok⟩
theorem kx_ldCE {α:Type} (ia:Inhabited α) {T E:TypeId} {x:Operand} {u:Value} {sz n i:Nat} {enc:α->List Value} {xs:List α} {H':List Ch} (he : ∀ x,(enc x).length=sz) [TyF P T true sz] (hx:evO t x=some (.pointer (some ⟨blkV u,offV u+i*sz,none⟩))) (ht:Take (RowC E sz u n (xs.flatMap enc)) H H') (h0:i<xs.length) (hk:K (putL t d (.agg (enc (xs.getD i default)).toArray)) H):SWo P l r ⟨d,.load T x,ty,pos,af,gd⟩ K t H:=by
 refine kx_loadN ty_agg ty_size hx ?_ (he _) hk
 have hx:xs.getD i default=xs[i]:=by simp [h0]
 intro j hj
 rw [add_none]
 simp only [List.size_toArray] at hj
 have hl:j<sz:=by rw [← he (xs.getD i default)];exact hj
 have hle:=flat_at he xs i h0
 have hkk:i*sz+j<(xs.flatMap enc).length:=by
  rw [flat_len he]
  have:(i+1)*sz<=xs.length*sz:=Nat.mul_le_mul_right _ h0
  rw [Nat.succ_mul] at this;omega
 have:=RowC.cellAt (r:=r) ht hkk
 have e2:(xs.flatMap enc)[i*sz+j]=(enc (xs.getD i default)).toArray[j]:=by
  have h1:(enc xs[i])[j]?=some ((enc (xs.getD i default))[j]):=by rw [← hx];exact List.getElem?_eq_getElem hj
  rw [← hle,List.getElem?_take,if_pos hl,List.getElem?_drop,List.getElem?_eq_getElem hkk] at h1
  simpa using Option.some.inj h1
 rw [e2] at this
 rw [Nat.add_assoc];exact this
theorem swo_post {o:Oper} (h:SWo P l r o (fun t' H' => ∃ A B H2,Take A H' H2/\(∀ h,A h->B h)/\K t' (B::H2)) t H):SWo P l r o K t H:=by
 intro w h0 ds ok al
 refine wpIn_noQ ?_ (h w h0 ds ok al)
 rintro a' w' ⟨t',H',k',rfl,⟨A,B,H2,ht,hab,hk⟩,al',tb⟩
 exact ⟨t',_,_,rfl,hk,all_imp hab (all_perm ht al'),tb⟩
inductive Cls (sz:Nat):List Value->List Value->Prop
 | nil:Cls sz [] []
 | one {v:Value} {vs cs:List Value} (hs:sz=1) (h:one? v=true) (k:Cls sz vs cs):Cls sz (v::vs) (v::cs)
 | agg {l vs cs cs':List Value} (hs:l.length=sz) (k:Cls sz vs cs) (e:l++cs=cs'):Cls sz (.agg l.toArray::vs) cs'
theorem Cls.spec {sz:Nat} {vs cs:List Value} (h:Cls sz vs cs):(∀ v∈vs,v.cells.size=sz)/\cs.length=vs.length*sz /\ ∀ k:Nat,0<sz->cs[k]?=(vs[k / sz]?).bind fun v=>v.cells[k % sz]?:=by
 induction h with
 | nil=>exact ⟨fun v hv=>(by cases hv),by simp,fun k _=>by simp⟩
 | @one v vs cs hs h k ih =>
  subst hs
  obtain ⟨h1,h2,h3⟩:=ih
  have hc:v.cells = #[v]:=cells_one h
  refine ⟨fun u hu=>?_,by simp [h2],fun k hk=>?_⟩
  · rcases List.mem_cons.1 hu with rfl|hu
    · rw [hc];rfl
    · exact h1 u hu
  · cases k with
    | zero=>simp [hc]
    | succ k=>have:=h3 k hk;simp [Nat.mod_one] at this ⊢;exact this
 | @agg l vs cs cs' hs k e ih =>
  obtain ⟨h1,h2,h3⟩:=ih
  have hc:(Value.agg l.toArray).cells=l.toArray:=rfl
  refine ⟨fun u hu=>?_,by rw [← e];simp [h2,hs,Nat.succ_mul];omega,fun k hk=>?_⟩
  · rcases List.mem_cons.1 hu with rfl|hu
    · rw [hc];simpa using hs
    · exact h1 u hu
  · rw [← e]
    by_cases hlt:k<sz
    · rw [List.getElem?_append_left (by omega),Nat.div_eq_of_lt hlt,Nat.mod_eq_of_lt hlt]
      simp [hc]
    · rw [List.getElem?_append_right (by omega),hs,h3 (k - sz) hk]
      have e1:k / sz=(k - sz) / sz+1:=by rw [Nat.div_eq_sub_div hk (by omega)]
      have e2:k % sz=(k - sz) % sz:=by rw [Nat.mod_eq_sub_mod (by omega)]
      rw [e1,e2,List.getElem?_cons_succ]
theorem kx_bsL {T E:TypeId} {z:Value} {by_ sz n:Nat} {L:List (Nat × Operand)} {vs cs:List Value} (hT:elB P T=some E) (hi:infB P E=some (some z,sz,by_)) (hp:L=((L.map (·.2)).zipIdx 0).map fun x=>(x.2,x.1)) (hx:evs t (L.map (·.2))=some vs) (hn:vs.length=n) (hc:Cls sz vs cs) (hz:decide (z.cells.size=sz/\0<n*sz/\n*sz<=16777216)=true)
 (hk : ∀ b,K (putL t d (.slice (some ⟨b,0,none⟩) n n)) (pt b (.cells cs.toArray E (0,0))::H)):SWo P l r ⟨d,.buildSlice T n L.toArray,ty,pos,af,gd⟩ K t H :=
 kx_bs (fun w=>by
  obtain ⟨i,h1,h2,h3,h4⟩:=infB_s hi
  obtain ⟨z1,z2,z3⟩:z.cells.size=sz/\0<n*sz/\n*sz<=16777216:=by simpa using hz
  obtain ⟨c1,c2,c3⟩:=hc.spec
  have hsz:0<sz:=by
   rcases Nat.eq_zero_or_pos sz with e|e
   · rw [e] at z2;simp at z2
   · exact e
  refine run_buildSlice (P:=P) w T E n _ cs.toArray i z (elB_s hT) h1 h2 (by rw [h3];omega) (by rw [h3];omega) ?_
  have e1:(L.toArray.map fun (i,x)=>(i,evalL t x)).toList=(vs.zipIdx 0).map fun x=>(x.2,x.1):=by
   have e2:=evs_of hx
   rw [← e2]
   conv=>lhs;rw [hp]
   simp [List.zipIdx_map]
  rw [e1,h3]
  obtain ⟨r,hr,hrs,hrk⟩:=Great.fill_dense hsz vs 0 ((Array.range (n*sz)).map (z.cells[· % z.cells.size]!)) c1 (by simp [hn])
  rw [hr]
  congr 1
  apply Array.ext'
  apply List.ext_getElem?
  intro k
  have:=hrk k
  rw [← Array.getElem?_toList] at this
  rw [this,Nat.zero_mul,Nat.zero_add,hn]
  by_cases hkk:k<n*sz
  · rw [if_pos ⟨Nat.zero_le _,hkk⟩,Nat.sub_zero,← c3 k hsz]
  · rw [if_neg (by omega)]
    rw [List.getElem?_eq_none (by rw [c2,hn];omega)]
    simp;omega) hk
theorem pu_slX {T E:TypeId} {x y:Operand} {k:IntKind} {n c m:Nat} {j:Int} {a:Option Addr} {sz:Nat} {g:Bool} [TyE P T E] [hE:TyF P E g sz] (hx:evO t x=some (.slice a n c)) (hy:evO t y=some (.int k j)) (hj:j=(m:Int)) (hm:m<=c):Pur P r t ⟨d,.slice T x none (some y) none,ty,pos,af,gd⟩ (.slice a m c):=by
 refine ⟨rfl,fun w _=>?_⟩
 subst hj
 have e4:=run_bds (P:=P) (b:=true) (n:=n) (cap:=c) (w:=w) (bds_ns hy) ⟨Int.le_refl _,by omega,by omega⟩
 simp only [execOp,ev_of hx,Option.map_none,Instr.sliceAt,Sem.run_bind,run_underlying (ty_slc (P:=P) (T:=T)),Result.andThen,Instr.slice]
 have e5:(if c=(0:Int).toNat then a else a.map (·.add ((0:Int).toNat*sz)))=a:=by
  split
  · rfl
  · cases a with
    | none=>rfl
    | some a=>simp [Addr.add]
 simp only [Option.map_none] at e4
 simp only [e4,Sem.run_pure,run_sizeOf (P:=P) (T:=E) hE.size]
 rw [e5];simp
inductive Byts:List Value->List UInt8->Prop
 | nil:Byts [] []
 | cons {n:Int} {cs:List Value} {bl:List UInt8} (h:0<=n/\n<=255) (k:Byts cs bl):Byts (.int .u8 n::cs) (UInt8.ofNat n.toNat::bl)
 | consW {n:Int} {cs:List Value} {bl:List UInt8} (k:Byts cs bl):Byts (.int .u8 (IntKind.u8.wrap n)::cs) (UInt8.ofNat (n % 256).toNat::bl)
theorem Byts.spec {cs:List Value} {bl:List UInt8} (h:Byts cs bl):cs=u8s bl:=by
 induction h with
 | nil=>rfl
 | @cons n cs bl h k ih =>
  rw [ih]
  have:((UInt8.ofNat n.toNat).toNat:Int)=n:=by
   rw [UInt8.toNat_ofNat'];omega
  simp only [u8s,List.map_cons,this]
 | @consW n cs bl k ih =>
  rw [ih]
  have:((UInt8.ofNat (n % 256).toNat).toNat:Int)=IntKind.u8.wrap n:=by
   rw [UInt8.toNat_ofNat']
   simp [IntKind.wrap,IntKind.signed,IntKind.bits];omega
  simp only [u8s,List.map_cons,this]
theorem kx_b2sp {src dst e E:TypeId} {n b:Nat} {fz:Nat × Nat} {x:Operand} {cs:List Value} {bl:List UInt8} {H':List Ch} (hT:elB P src=some e) (h8:u8B P e=true) (hd:strB P dst=true) (hx:evO t x=some (.slice (some ⟨b,0,none⟩) n n)) (ht:Take (pt b (.cells cs.toArray E fz)) H H') (hb:Byts cs bl) (hl:decide (bl.length=n/\n<=1000000)=true) (hk:K (putL t d (.string (bs bl))) H):SWo P l r ⟨d,.convert src dst x,ty,pos,af,gd⟩ K t H :=
 swo_run (fun c hc=>by cases hc) fun w g ds ok al=>by
  obtain ⟨g1,k,dd,rfl,hR,al'⟩:=ht.all al
  refine ⟨_,w,H,_,?_,hk,al,To.refl ok⟩
  obtain ⟨l1,l2⟩:bl.length=n/\n<=1000000:=by simpa using hl
  have hs:Sl g1 1 (.slice (some ⟨b,0,none⟩) n n) n (u8s bl):=by
   have hg:g1 b=some (.cells cs.toArray E fz):=by rw [hR];exact one_same
   rw [hb.spec] at hg
   exact Sl.lit hg (by simp [u8s,l1]) (by simp [maxLen];omega)
  have:=run_b2s (w:=w) hT h8 hd (hs.mono (r':=un g1 k) (fun b o h=>un_left h)) ok.emb
  simp only [execOp,Sem.run_bind,ev_of hx,this,Result.andThen,Sem.run_pure]
end
end Sx
end Go.Proofs.YteknekiclhnkiaaGreatDoor
namespace Go.Proofs.YteknekiclhnkiaaGreatDoor
open Go.RowKit
namespace Sx
section
variable {P : Program} {l : Option Nat} {r : Hp} {Q : Exit → St} {K : St} {t : List Value} {H : List Ch} {d : Option Tmp} {ty : TypeId} {pos : String} {af : Array Edge} {gd : Option (Nat × Bool)} {o : Oper} {v : Value}
theorem kx_appS {T E:TypeId} {z:Value} {sz by_ n m:Nat} {x y:Operand} {v u:Value} {xs news:List Value} {H':List Ch}
 (hT:elB P T=some E) (hi:infB P E=some (some z,sz,by_)) (hzs:decide (z.cells.size=sz)=true) (hsz:decide (0<sz)=true) (hx:evO t x=some v) (hy:evO t y=some u) (hu:Sl r sz u m news)
 (ht:Take (RowC E sz v n xs) H H') (h1:news.all one?=true) (hn:n+m<=maxLen) (hb:(n+m)*by_<=140737488355328)
 (hk : ∀ a' c',K (putL t d (.slice a' (n+m) c')) (RowC E sz (.slice a' (n+m) c') (n+m) (xs++news)::H')):SWo P l r ⟨d,.call { callee:= .builtin .append,args := #[x,y],argTypes := #[T,T] },ty,pos,af,gd⟩ K t H:=by
 have hzs':z.cells.size=sz:=by simpa using hzs
 by_cases hm:m=0
 · subst hm
   have hnil:news=[]:=by have:=hu.1;simpa using this
   subst hnil
   obtain ⟨a,c,rfl⟩:=hu.form
   refine kx_append0 hT hi hx hy ht fun a' c' e=>?_
   have:=hk a' c'
   rw [List.append_nil] at this
   rw [e]
   exact this
 · rcases hu.2.2 with ⟨_,e⟩ | ⟨b,off,cap,c,E',fz,rfl,h2,h3,h4⟩
   · exact absurd e hm
   · refine kx_append hT hi hzs' hsz hx hy ht hu.1 (fun j w hw=>?_) h1 hn hb hk
     obtain ⟨hj,rfl⟩:=List.getElem?_eq_some_iff.1 hw
     rw [add_none]
     exact rd_r h3 (h4 j hj)
theorem res_W {fn:Func} {d:Tmp} {T:TypeId} {b n:Nat} {c:Array Value} {E:TypeId} {fz:Nat × Nat} {H':List Ch} (hr:fn.results = #[.cell d T]) (hv:t[d]?=some (.pointer (some ⟨b,0,none⟩))) (ht:Take (pt b (.cells c E fz)) H H') (hT:aggB P T=some true) (hn:sizeB P T=some n) (hl:c.size=n):Res P r fn t H (.agg c) :=
 res_cW hr hT (hl ▸ hn) hv ht
theorem Tri.free2 {f:FuncId} {args:List Value} {R:Rt} (h : ∀ R':Rt,Hid (∀ v G H' H2,Takes H2 H' G->R v H2->R' v H')->Tri P r f args H R'):Tri P r f args H R :=
 Tri.free fun R' HR=>h R' (hid fun v G H' H2 ht hr=>HR.out v G H' H2 (List.Perm.trans ht List.perm_append_comm) hr)
def binL:BinOp->List UInt8->List UInt8->Option Value
 | .eql,x,y=>some (.bool (decide (x=y)))
 | .neq,x,y=>some (.bool (!decide (x=y)))
 | .lss,x,y=>some (.bool (Op.bytesLess x y))
 | .leq,x,y=>some (.bool (Op.bytesLess x y || decide (x=y)))
 | .gtr,x,y=>some (.bool (!(Op.bytesLess x y || decide (x=y))))
 | .geq,x,y=>some (.bool (!Op.bytesLess x y))
 | _,_,_=>none
theorem pu_strB {op:BinOp} {T T':TypeId} {x y:Operand} {a b:List UInt8} (hx:evO t x=some (.string (bs a))) (hy:evO t y=some (.string (bs b))) (hv:binL op a b=some v):Pur P r t ⟨d,.binOp op T x y T',ty,pos,af,gd⟩ v:=by
 refine pu_str hx hy ?_
 unfold binL at hv
 unfold binS
 split at hv
 all_goals first|(simp only [Option.some.injEq] at hv;subst hv;rfl)|cases hv
theorem Lent.h1 {r r':Hp} {b:Nat} {o:Obj} {bs:List (Nat × Obj)} (h:Lent r r' ((b,o)::bs)):r' b=some o:=h.2 _ List.mem_cons_self
theorem Lent.h2 {r r':Hp} {b:Nat} {o:Obj} {x:Nat × Obj} {bs:List (Nat × Obj)} (h:Lent r r' (x::(b,o)::bs)):r' b=some o:=h.2 _ (List.mem_cons_of_mem _ List.mem_cons_self)
theorem Lent.h3 {r r':Hp} {b:Nat} {o:Obj} {x y:Nat × Obj} {bs:List (Nat × Obj)} (h:Lent r r' (x::y::(b,o)::bs)):r' b=some o:=h.2 _ (List.mem_cons_of_mem _ (List.mem_cons_of_mem _ List.mem_cons_self))
theorem pu_conv8 {S T:TypeId} {x:Operand} {k:IntKind} {u:UInt8} {a:Int} {ks:Kd} [TyKd P T (.int k)] [hS0:TyKd P S ks] (hx:evO t x=some (.int .u8 a)) (ha:a=(u.toNat:Nat)) (hk:decide (k ≠ .i8)=true):Pur P r t ⟨d,.convert S T x,ty,pos,af,gd⟩ (.int k (u.toNat:Nat)):=by
 subst ha
 refine pu_conv (ks:=ks) hx ?_
 have:=u.toNat_lt
 have hk':k ≠ .i8:=by simpa using hk
 cases k<;>first|exact absurd rfl hk'|(apply inR_i64<;>omega)|(apply inR_i32<;>omega)|(apply inR_u8<;>omega)|(apply inR_u16<;>omega)|(apply inR_u32<;>omega)|(apply inR_u64<;>omega)|(constructor<;>simp [IntKind.min,IntKind.max,IntKind.signed,IntKind.bits]<;>omega)
theorem kx_bs0R {T E:TypeId} {z:Value} {sz by_:Nat} (hT:elB P T=some E) (hi:infB P E=some (some z,sz,by_)) (hk : ∀ b,K (putL t d (.slice (some ⟨b,0,none⟩) 0 0)) (RowC E sz (.slice (some ⟨b,0,none⟩) 0 0) 0 []::H)):SWo P l r ⟨d,.buildSlice T 0 #[],ty,pos,af,gd⟩ K t H :=
 swo_post (kx_bs0 hT hi fun b=>⟨_,_,_,Take.here,fun h e=>by
  have:=RowC.of_pt (E:=E) (sz:=sz) (n:=0) (cap:=0) (g:=b) (cur := #[]) (Nat.le_refl _) (by simp [maxLen]) (by simp) h e
  simpa using this,hk b⟩)
theorem Sl.one {sz n:Nat} {xs:List Value} (h:Sl r sz v n xs):one? v=true:=by obtain ⟨a,c,rfl⟩:=h.form;rfl
theorem Els.one {α:Type} {sz:Nat} {enc:α->List Value} {xs:List α} (h:Els r sz enc v xs):one? v=true:=h.2.one
end
end Sx
end Go.Proofs.YteknekiclhnkiaaGreatDoor
