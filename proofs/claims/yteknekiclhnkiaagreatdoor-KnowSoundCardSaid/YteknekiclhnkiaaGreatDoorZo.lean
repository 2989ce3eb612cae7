/- Trees as arguments, opened. -/
import Derived.Test.YteknekiclhnkiaaGreatDoorPu
import Derived.ProofKit
import Derived.OpenShut
import Derived.ShutString
import Derived.ChangeSame
import Derived.Carry
import Derived.SizedLaws
import Derived.Deep.Slices
import Derived.Test.YteknekiclhnkiaaGreatDoorVb
import Derived.Test.YteknekiclhnkiaaGreatDoorOr
import Derived.Test.YteknekiclhnkiaaGreatDoorRows
import Derived.Test.YteknekiclhnkiaaGreatDoorUe
set_option maxHeartbeats 2000000
set_option maxRecDepth 10000
namespace Go.Proofs.YteknekiclhnkiaaGreatDoor
open Go.RowKit Go.WideShapes Go.ChangeShapes
namespace Sx
def hpOf (w:World):Hp:=fun b=>w.heap[b]?
theorem Tri.below {P:Program} {f:FuncId} {args:List Value} {R:Rt} {W:World} (h:Tri P (hpOf W) f args [] R):Calls P f args.toArray W fun e W' => ∃ v H,e = .returned v/\R v H/\Below W.heap.size W W':=by
 have ok:Ok none (hpOf W) [] W emp:=⟨fun b o c=>(by cases c),fun b o c=>c,fun b=>Or.inr rfl,trivial,fun k hk=>(by cases hk)⟩
 refine (tri_iff.1 h W emp ok rfl).mono ?_
 rintro e w' ⟨v,H',h',rfl,hR,_,to⟩
 exact ⟨v,H',rfl,hR,to.os,to.tape,to.output,to.size,fun k hk=>to.keep k hk rfl⟩
section
variable {H : Type} {enc : TypeId × Value → H} {P : Program}
theorem trodAll_stays (hl:laidOutB P=true) {W W':World} {sp:Nat->Bool} : ∀ {ts:List TypeId} {vs:List Value} {ds:List (DataW H)} {ps:List MemPlace},
 (ts.all fun t=>P.readableRec t && decide (t<P.types.size))=true->DataW.TrodAll enc P W 0 (fun _=>true) true ts vs ds ps->(∀ p∈ps,W.sameAt W' p)->(∀ p∈ps,sp p.block=true) ->
 DataW.TrodAll enc P W' 0 sp true ts vs ds ps
 | [],[],[],_,_,h,_,_=>h
 | t::ts,v::vs,d::ds,ps,ht,h,h1,h2=>by
  obtain ⟨p,q,ha,hb,rfl⟩:=h
  simp only [List.all_cons,Bool.and_eq_true,decide_eq_true_eq] at ht
  exact ⟨p,q,WideElems.Trod_stays hl ht.1.1 ht.1.2 ha (fun x hx=>h1 x (List.mem_append_left _ hx)) (fun x hx=>h2 x (List.mem_append_left _ hx)),
   trodAll_stays hl ht.2 hb (fun x hx=>h1 x (List.mem_append_right _ hx)) (fun x hx=>h2 x (List.mem_append_right _ hx)),rfl⟩
theorem trodAll_len {w:World} {base:Nat} {sp:Nat->Bool} {hd:Bool} : ∀ {ts:List TypeId} {vs:List Value} {ds:List (DataW H)} {ps:List MemPlace},DataW.TrodAll enc P w base sp hd ts vs ds ps->ds.length=ts.length
 | [],[],[],_,_=>rfl
 | _::ts,_::vs,_::ds,_,h=>by
  obtain ⟨p,q,_,hb,_⟩:=h
  simp [trodAll_len hb]
theorem post_true {fn:Func} {s:ChangeSpec} {W W':World} {args:Array Value} {ds gs:List (DataW H)} {before:List MemPlace} {tb:TypeId} {fresh handsOn:Bool}
 (hl:laidOutB P=true) (hv:s.vars=[]) (hp:(fn.params.toList.all fun t=>P.readableRec t && decide (t<P.types.size))=true)
 (hs : ∀ l:List (DataW H),l.length=fn.params.size->s.fn H l={ results:=[.lit (.bool true)],args:=l }) (hr:fn.resultTypes = #[tb]) (htb:P.underlying tb=some .bool)
 (hW:DataW.Whole enc P fn.params.toList s.vars false W args.toList ds gs before) (hb:Below W.heap.size W W'):s.post enc P fn false fresh handsOn false W args (.bool true) W':=by
 have hW':=hW
 obtain ⟨p,q,hA,hV,rfl,hz,hn⟩:=hW
 rw [hv] at hV
 obtain ⟨rfl,rfl⟩:=trodVars_none hV
 have hlt : ∀ x∈p++[],x.block<W.heap.size:=fun x hx=>hW'.lt x hx
 have hlen:ds.length=fn.params.size:=by rw [trodAll_len hA];simp
 have hs':=hs (ds++[]) (by simpa using hlen)
 refine ⟨ds,[],p++[],[],p,[],hW',?_,?_,?_,World.keptBut_mono (fun x hx=>⟨hx,?_⟩) (hb.frame (· ∈ p++[])),fun c=>by cases c⟩
 · rw [hs',hr]
   exact trodAll_cons_mk (shut_bool htb _) trodAll_mk0
 · rw [hs',List.append_nil]
   exact trodAll_stays hl hp hA (fun x hx=>hb.same (hlt x (by simpa using hx))) (fun x hx=>by simpa using hlt x (by simpa using hx))
 · rw [hs',hv]
   rfl
 · rw [List.append_nil] at hx
   exact .inr (.inl hx)
variable {W : World}
def Wt (P:Program) (t:TypeId) (d:DataW H):Prop := ∀ k∈d.weights P t,k<=reachBytes
theorem wt_all {e:TypeId} : ∀ {l:List (DataW H)} {d:DataW H},d∈l -> ∀ n∈d.weights P e,n∈DataW.weightsAll P e l
 | x::l,d,hd,n,hn=>by
  simp only [DataW.weightsAll]
  rcases List.mem_cons.1 hd with rfl|hd
  · exact List.mem_append_left _ hn
  · exact List.mem_append_right _ (wt_all hd n hn)
theorem wt_each {ts:List TypeId} {ds:List (DataW H)} (h:(DataW.weightsEach P ts ds).all (· <= reachBytes)=true) {j:Nat} {t:TypeId} {d:DataW H} (ht:ts[j]?=some t) (hd:ds[j]?=some d):Wt P t d:=fun k hk=>by
 have:=List.all_eq_true.1 h _ (DataW.weights_mem_each ht hd k hk)
 simpa using this
theorem open_els {α:Type} [Inhabited α] {c':α->List Value} {sz:Nat} {Q:α->Prop} {t e:TypeId} {n:Nat} {cs:List Value} {x:DataW H × List MemPlace} (ht:P.underlying t=some (.slice e)) (hc:P.cellsOf e=sz) (hsz:0<sz) (henc : ∀ a,(c' a).length=sz)
 (hel : ∀ m cs y,DataW.trod enc P W 0 (fun _=>true) true m e cs=some y->Wt P e y.1 -> ∃ a,cs=c' a/\Q a) (h:DataW.trod enc P W 0 (fun _=>true) true n t cs=some x) (hw:Wt P t x.1) :
 ∃ v,∃ xs:List α,cs=[v]/\Els (hpOf W) sz c' v xs/\(∀ a∈xs,Q a)/\xs.length*P.bytesOf e<=reachBytes:=by
 rcases Deep.open_slice ht h with ⟨rfl,rfl⟩ | ⟨a,len,cap,m,k,D,Pl,rfl,_,hl,hm,hme,rfl,hx⟩
 · exact ⟨_,[],rfl,⟨henc,Sl.nil _ _⟩,(fun a ha=>(by cases ha)),by simp⟩
 · simp only [if_true] at hme
   obtain rfl:cap=m:=hme.symm
   have hwt : ∀ i,i<len->Wt P e (D i):=fun i hi k hk=>hw k (by
    simp only [DataW.weights,ht,List.mem_cons,List.mem_append]
    exact .inr (.inl (wt_all (List.mem_map.2 ⟨i,List.mem_range.2 hi,rfl⟩) k hk)))
   obtain ⟨f,hf⟩:=Deep.choose_lt (α:=α) (n:=len) (p:=fun i u=>W.cells? 0 (a.add (i*P.cellsOf e)) (P.cellsOf e)=some (c' u)/\Q u) (fun i hi=>by
    obtain ⟨cs',h1,h2⟩:=hx i (by omega)
    obtain ⟨u,rfl,hq⟩:=hel _ _ _ h2 (hwt i hi)
    exact ⟨u,h1,hq⟩)
   rw [hc] at hf hx
   have hbulk:len*P.bytesOf e<=reachBytes:=by
    have:=hw ((((List.range len).map D).length+((List.range (cap - len)).map fun j=>D (len+j)).length)*P.bytesOf e) (by simp [DataW.weights,ht])
    simp only [List.length_map,List.length_range] at this
    exact Nat.le_trans (Nat.mul_le_mul_right _ (by omega)) this
   have hxl:((List.range len).map f).length=len:=by simp
   refine ⟨_,(List.range len).map f,rfl,⟨henc,?_,?_,?_⟩,fun u hu=>?_,by rw [hxl];exact hbulk⟩
   · rw [flat_len henc]
   · rw [hxl];omega
   · rw [hxl]
     by_cases h0:cap=0
     · have hl0:len=0:=by omega
       subst h0;subst hl0
       exact .inl ⟨⟨_,rfl⟩,rfl⟩
     · obtain ⟨cs',h1,_⟩:=hx 0 (by omega)
       obtain ⟨_,h2,h3⟩:=World.cells?_some h1
       have h4:=h3 0 hsz
       rw [List.getElem?_eq_getElem (by omega)] at h4
       obtain ⟨b,off,spot⟩:=a
       have hsp:spot=none:=by simpa [Addr.add] using World.cell?_spot h4
       subst hsp
       rw [Addr.add_lit,Addr.add_lit] at h4
       obtain ⟨cc,E,fz,hb⟩ : ∃ cc E fz,W.heap[b]?=some (.cells cc E fz):=by
        unfold World.cell? at h4
        split at h4
        · rename_i cc E fz hb;exact ⟨cc,E,fz,hb⟩
        · cases h4
       refine .inr ⟨b,off,cap,cc,E,fz,rfl,hl,hb,fun j hj=>?_⟩
       rw [flat_len henc,hxl] at hj
       have hi:j / sz<len:=by rw [Nat.div_lt_iff_lt_mul hsz];exact hj
       obtain ⟨g1,_⟩:=hf (j / sz) hi
       obtain ⟨_,_,g3⟩:=World.cells?_some g1
       have g4:=g3 (j % sz) (Nat.mod_lt _ hsz)
       rw [Addr.add_lit,Addr.add_lit] at g4
       have hj2:off+j / sz*sz+j % sz=off+j:=by rw [Nat.add_assoc,Nat.div_add_mod']
       rw [hj2] at g4
       unfold World.cell? at g4
       rw [hb] at g4
       simp only [Option.isSome_none,Bool.false_eq_true,if_false] at g4
       rw [g4]
       have e1:=flat_at henc ((List.range len).map f) (j / sz) (by rw [hxl];exact hi)
       have e2:(((List.range len).map f).flatMap c')[j]?=(c' (f (j / sz)))[j % sz]?:=by
        have e3:((List.range len).map f)[j / sz]'(by rw [hxl];exact hi)=f (j / sz):=by simp
        rw [e3] at e1
        rw [← e1,List.getElem?_take_of_lt (Nat.mod_lt _ hsz),List.getElem?_drop,Nat.div_add_mod']
       rw [← e2]
       exact List.getElem?_eq_getElem _
   · obtain ⟨i,hi,rfl⟩:=List.mem_map.1 hu
     exact (hf i (List.mem_range.1 hi)).2
theorem open_num {t:TypeId} {k:IntKind} {n:Nat} {cs:List Value} {x:DataW H × List MemPlace} {w:World} {b:Nat} {sp:Nat->Bool} {hd:Bool} (ht:P.underlying t=some (.int k)) (h:DataW.trod enc P w b sp hd n t cs=some x) : ∃ i:Int,cs=[.int k i]/\(Lit.int k i).wf=true:=by
 obtain ⟨i,rfl,_,hi⟩:=DataW.trod_int ht h
 exact ⟨i,rfl,hi⟩
theorem wf_u8 {i:Int} (h:(Lit.int .u8 i).wf=true) : ∃ b:UInt8,i=(b.toNat:Nat):=by
 refine ⟨UInt8.ofNat i.toNat,?_⟩
 simp [Lit.wf,IntKind.bits,IntKind.signed,IntKind.min,IntKind.max] at h
 simp
 omega
theorem wf_i64 {i:Int} (h:(Lit.int .i64 i).wf=true) : -9223372036854775808<=i/\i<=9223372036854775807:=by
 simp [Lit.wf,IntKind.bits,IntKind.signed,IntKind.min,IntKind.max] at h
 omega
theorem flat_u8 : ∀ xs:List UInt8,xs.flatMap (fun b:UInt8=>[Value.int .u8 b.toNat])=u8s xs
 | []=>rfl
 | a::l=>by rw [List.flatMap_cons,flat_u8 l];rfl
theorem open_bytes {t e:TypeId} {n:Nat} {cs:List Value} {x:DataW H × List MemPlace} (ht:P.underlying t=some (.slice e)) (he:P.underlying e=some (.int .u8)) (hc:P.cellsOf e=1) (hby:P.bytesOf e=1) (h:DataW.trod enc P W 0 (fun _=>true) true n t cs=some x) (hw:Wt P t x.1) :
 ∃ v,∃ l:List UInt8,cs=[v]/\Sl (hpOf W) 1 v l.length (u8s l)/\l.length<=reachBytes:=by
 obtain ⟨v,xs,rfl,hv,_,hl⟩:=open_els (c':=fun b:UInt8=>[.int .u8 b.toNat]) (Q:=fun _=>True) ht hc (by omega) (fun _=>rfl) (fun m cs y hy _=>by
  obtain ⟨i,rfl,hi⟩:=open_num he hy
  obtain ⟨b,rfl⟩:=wf_u8 hi
  exact ⟨b,rfl,trivial⟩) h hw
 have hv2:=hv.2
 rw [flat_u8] at hv2
 exact ⟨v,xs,rfl,hv2,by rw [hby,Nat.mul_one] at hl;exact hl⟩
end
end Sx
end Go.Proofs.YteknekiclhnkiaaGreatDoor
namespace Go.Proofs.YteknekiclhnkiaaGreatDoor
open Go.RowKit Sx
theorem op_bytes {H:Type} {enc:TypeId × Value->H} {W:World} {n:Nat} {cs:List Value} {x:DataW H × List MemPlace} (h:DataW.trod enc Tryz.prog W 0 (fun _=>true) true n 29 cs=some x) (hw:Wt Tryz.prog 29 x.1) :
 ∃ v,∃ l:List UInt8,cs=[v]/\U8S (hpOf W) v l/\l.length<=140737488351232 :=
 open_bytes Tryz.underlying29 Tryz.underlying5 (by kernel_rfl) (by kernel_rfl) h hw
end Go.Proofs.YteknekiclhnkiaaGreatDoor
namespace Go.Proofs.YteknekiclhnkiaaGreatDoor
open Go.RowKit Go.Maps Sx
inductive NoV where
 | mk (kind:Int) (s0 s1 s2 s3:Nat) (kv:Value) (kids:List NoV) (min max:Int) (lazy:Bool) (group:Int)
namespace NoV
def kids:NoV->List NoV | .mk _ _ _ _ _ _ l _ _ _ _=>l
mutual
def key:NoV->Nd
 | .mk k s0 s1 s2 s3 _ l mn mx lz g=> .mk k [s0,s1,s2,s3] (keys l) mn mx lz g
def keys:List NoV->List Nd
 | []=>[]
 | n::l=>key n::keys l
end
end NoV
instance:Inhabited NoV:=⟨.mk 0 0 0 0 0 (.slice none 0 0) [] 0 0 false 0⟩
theorem nkeys_map : ∀ l:List NoV,NoV.keys l=l.map NoV.key
 | []=>by simp [NoV.keys]
 | q::l=>by simp [NoV.keys,nkeys_map l]
def encN:NoV->List Value
 | .mk k s0 s1 s2 s3 kv _ mn mx lz g=>[.int .i64 k,.int .u64 s0,.int .u64 s1,.int .u64 s2,.int .u64 s3,kv,.int .i64 mn,.int .i64 mx,.bool lz,.int .i64 g]
theorem encN_len (n:NoV):(encN n).length=10:=by cases n;rfl
mutual
def NoR (r:Hp):NoV->Prop
 | .mk k s0 s1 s2 s3 kv l _ _ _ _=>Els r 10 encN kv l/\NoL r l/\KindR k/\s0<2 ^ 64/\s1<2 ^ 64/\s2<2 ^ 64/\s3<2 ^ 64/\one? kv=true
def NoL (r:Hp):List NoV->Prop
 | []=>True
 | n::l=>NoR r n/\NoL r l
end
theorem noL_iff {r:Hp} : ∀ {l:List NoV},NoL r l ↔ ∀ n∈l,NoR r n
 | []=>by simp [NoL]
 | q::l=>by simp [NoL,noL_iff (l:=l)]
theorem h7_one : ∀ k a1 n1 c1 a2 n2 c2 a3 n3 c3 (q:QuV),(encQ q).all one?=true->([.bool k,.slice a1 n1 c1,.slice a2 n2 c2,.slice a3 n3 c3,.int .i64 q.kind,q.gv,q.sv]:List Value).all one?=true:=fun k a1 n1 c1 a2 n2 c2 a3 n3 c3 q ho=>by
 have h':=one3 ho
 simp only [List.all_cons,Bool.and_eq_true] at h' ⊢
 exact ⟨rfl,rfl,rfl,rfl,h'⟩
theorem exact_any (r:Hp) (hT:TabR r) (v:Value) (l:List Tx) (hv:Els r 1 encTx v l) (hl:l.length<=10000000):Tri Tryz.prog r 31 [v] [] fun w H => ∃ u:InfV,u.key=exactI l/\(encQ u.q).all one?=true/\w = .agg [.bool u.known,.slice u.ea u.ex.length u.ec,.slice u.pa u.pre.length u.pc,.slice u.sa u.suf.length u.sc,.int .i64 u.q.kind,u.q.gv,u.q.sv].toArray/\H=[OwnI u]:=by
 have hr:=row_any r v l hv hl
 have hall:=kall_any r hT
 have hk:exactI l=⟨true,rowT l,[],[],allQ⟩:=rfl
 obtain ⟨X,hX⟩ : ∃ X,rowT l=X:=⟨_,rfl⟩
 rw [hX] at hr hk
 rw [hk]
 refine Tri.freeI fun R HR=>?_
 refine ae Tryz.func31 Tryz.ntmps31 ?_
 repeat' (first|((with_reducible apply kx_alloc (E:=40));exact ty_zero;(exact qcl);intro b2;(refine apk ?_))|(refine acl Tryz.func48 ?_;refine acr (hr) ?_;rintro v' H' ⟨a,c,rfl,rfl⟩;refine apl ?_)|(refine acl Tryz.func49 ?_;refine acr (hall) ?_;rintro v' H' ⟨q,hq1,hq2,rfl,rfl⟩;refine apl ?_)|((with_reducible apply kx_storeN);exact ty_size;rfl;rfl;rfl;(exact qsw);exact h7_one _ _ _ _ _ _ _ _ _ _ _ hq2;(exact qst);(refine apk ?_))|exact xf|refine aw0 ?_|(refine ap2 ?_ ?_<;>try intro h)|refine aw1 ?_|(refine abx ?_;intro bb)|(refine abz ?_;intro bz)|(refine ahv ?_;intro v' hv')|(refine aac ?_;intro ac cc)|refine aw2 ?_|(refine ap4 ?_ ?_<;>try intro h)|apply True.intro)
 ((with_reducible apply fp_ret);exact res_W rfl rfl atk ty_agg ty_size rfl)
 exact HR.out _ _ _ [OwnI ⟨true,a,c,X,none,0,[],none,0,[],q⟩] (takesI (As:=[TxC a c X,OwnQ q]) (G2:=[]) atks fun h e=>all_one.2 (own_two h e)) ⟨⟨true,a,c,X,none,0,[],none,0,[],q⟩,by show InfK.mk _ _ _ _ _=_;rw [hq1],hq2,rfl,rfl⟩
theorem open_any (r:Hp) (hT:TabR r):Tri Tryz.prog r 42 [] [] fun w H => ∃ u:InfV,u.key=openI/\(encQ u.q).all one?=true/\w = .agg [.bool u.known,.slice u.ea u.ex.length u.ec,.slice u.pa u.pre.length u.pc,.slice u.sa u.suf.length u.sc,.int .i64 u.q.kind,u.q.gv,u.q.sv].toArray/\H=[OwnI u]:=by
 have hall:=kall_any r hT
 refine Tri.freeI fun R HR=>?_
 refine ae Tryz.func42 Tryz.ntmps42 ?_
 repeat' (first|((with_reducible apply kx_alloc (E:=40));exact ty_zero;(exact qcl);intro b0;(refine apk ?_))|((with_reducible apply kx_bsL (d:=some 1));exact ty_el;exact ty_inf;rfl;rfl;rfl;(exact qcs);rfl;intro b1;(refine apk ?_))|((with_reducible apply kx_bsL (d:=some 2));exact ty_el;exact ty_inf;rfl;rfl;rfl;(exact qcs);rfl;intro b2;(refine apk ?_))|(refine acl Tryz.func49 ?_;refine acr (hall) ?_;rintro v' H' ⟨q,hq1,hq2,rfl,rfl⟩;refine apl ?_)|((with_reducible apply kx_storeN);exact ty_size;rfl;rfl;rfl;(exact qsw);exact h7_one _ _ _ _ _ _ _ _ _ _ _ hq2;(exact qst);(refine apk ?_))|exact xf|refine aw0 ?_|(refine ap2 ?_ ?_<;>try intro h)|refine aw1 ?_|(refine abx ?_;intro bb)|(refine abz ?_;intro bz)|(refine ahv ?_;intro v' hv')|(refine aac ?_;intro ac cc)|refine aw2 ?_|(refine ap4 ?_ ?_<;>try intro h)|apply True.intro)
 ((with_reducible apply fp_ret);exact res_W rfl rfl atk ty_agg ty_size rfl)
 exact HR.out _ _ _ [OwnI ⟨false,none,0,[],some ⟨b1,0,none⟩,1,[[]],some ⟨b2,0,none⟩,1,[[]],q⟩] (takesI (As:=[pt b1 (.cells [.string (bs [])].toArray 9 (0,0)),pt b2 (.cells [.string (bs [])].toArray 9 (0,0)),OwnQ q]) (G2:=[]) atks fun h e=>all_one.2 (own_three h (by
  obtain ⟨x1,y1,d1,rfl,h1,x2,y2,d2,rfl,h2,h3⟩:=e
  exact ⟨x1,_,d1,rfl,lit1_row x1 h1,x2,_,d2,rfl,lit1_row x2 h2,h3⟩))) ⟨_,by show InfK.mk _ _ _ _ _=_;rw [hq1];rfl,hq2,rfl,rfl⟩
theorem none_any (r:Hp) (hT:TabR r) (n:NoV):Tri Tryz.prog r 25 [.agg (encN n).toArray] [] fun w H => ∃ u:InfV,u.key=exactI [[]]/\(encQ u.q).all one?=true/\w = .agg [.bool u.known,.slice u.ea u.ex.length u.ec,.slice u.pa u.pre.length u.pc,.slice u.sa u.suf.length u.sc,.int .i64 u.q.kind,u.q.gv,u.q.sv].toArray/\H=[OwnI u]:=by
 have hex : ∀ r' b,sub r r'->r' b=some (.cells [.string (bs [])].toArray 9 (0,0))->Tri Tryz.prog r' 31 [.slice (some ⟨b,0,none⟩) 1 1] [] fun w H => ∃ u:InfV,u.key=exactI [[]]/\(encQ u.q).all one?=true/\w = .agg [.bool u.known,.slice u.ea u.ex.length u.ec,.slice u.pa u.pre.length u.pc,.slice u.sa u.suf.length u.sc,.int .i64 u.q.kind,u.q.gv,u.q.sv].toArray/\H=[OwnI u]:=fun r' b s1 h=>exact_any r' (hT.mono s1) _ [[]] (lit_txs (n:=1) h rfl rfl (by omega)) (by simp)
 obtain ⟨k,s0,s1,s2,s3,kv,l,mn,mx,lz,g⟩:=n
 refine Tri.free2 fun R HR=>?_
 show Tri _ _ _ [.agg [.int .i64 k,.int .u64 s0,.int .u64 s1,.int .u64 s2,.int .u64 s3,kv,.int .i64 mn,.int .i64 mx,.bool lz,.int .i64 g].toArray] _ _
 refine ae Tryz.func25 Tryz.ntmps25 ?_
 repeat' (first|((with_reducible apply kx_box);rfl;(exact qcl);intro b1;(refine apk ?_))|((with_reducible apply kx_alloc (E:=40));exact ty_zero;(exact qcl);intro b2;(refine apk ?_))|(first|((with_reducible apply kx_bs1);exact ty_el;exact ty_inf;rfl;rfl;rfl;intro bz;(refine apk ?_))|((with_reducible apply kx_bsN);exact ty_el;exact ty_inf;rfl;rfl;rfl;intro bz;(refine apk ?_)))|((with_reducible apply kx_lend [(bz,.cells [.string (bs [])].toArray 9 (0,0))]);(exact atks);intro r' hl';refine acl Tryz.func31 ?_;refine acr (hex _ bz hl'.1 (Lent.h1 hl')) ?_;rintro v' H' ⟨u,hu1,hu2,rfl,rfl⟩;all_goals refine apm ?_)|((with_reducible apply kx_storeN);exact ty_size;rfl;rfl;rfl;(exact qsw);exact encI_one hu2;(exact qst);(refine apk ?_))|exact xf|refine aw0 ?_|(refine ap2 ?_ ?_<;>try intro h)|refine aw1 ?_|(refine abx ?_;intro bb)|(refine abz ?_;intro bz)|(refine ahv ?_;intro v' hv')|(refine aac ?_;intro ac cc)|refine aw2 ?_|(refine ap4 ?_ ?_<;>try intro h)|apply True.intro)
 ((with_reducible apply fp_ret);exact res_W rfl rfl atk ty_agg ty_size rfl)
 exact HR.out _ _ _ [OwnI u] atks ⟨u,hu1,hu2,rfl,rfl⟩
end Go.Proofs.YteknekiclhnkiaaGreatDoor
namespace Go.Proofs.YteknekiclhnkiaaGreatDoor
open Go.RowKit Go.WideShapes Go.ChangeShapes Sx
section
variable {H : Type} {enc : TypeId × Value → H} {P : Program} {W : World}
theorem bulk_pos (d:DataW H):1<=Rows.uptoBulk d:=by
 cases d with
 | lit l=>cases l<;>simp [Rows.uptoBulk]
 | nil=>simp [Rows.uptoBulk]
 | ptr d=>simp [Rows.uptoBulk]
 | slice elems spare=>simp [Rows.uptoBulk]
 | agg parts=>simp [Rows.uptoBulk]
 | iface t d=>simp [Rows.uptoBulk]
 | map entries=>simp [Rows.uptoBulk]
 | held h=>simp [Rows.uptoBulk]
theorem bulk_mem {d:DataW H} {l:List (DataW H)} (h:d∈l):Rows.uptoBulk d<=Rows.uptoBulkAll l:=by
 induction l with
 | nil=>cases h
 | cons x r ih =>
  simp only [Rows.uptoBulkAll]
  rcases List.mem_cons.1 h with rfl|h
  · omega
  · have:=ih h;omega
def sumN {α:Type} (f:α->Nat):List α->Nat
 | []=>0
 | x::l=>f x+sumN f l
theorem bulk_range {α:Type} {f:α->Nat} {D:Nat->DataW H} {g:Nat->α} : ∀ (l:List Nat),(∀ i∈l,f (g i)<=Rows.uptoBulk (D i))->sumN f (l.map g)<=Rows.uptoBulkAll (l.map D)
 | [],_=>Nat.le_refl _
 | i::l,h=>by
  have h1:=h i (by simp)
  have h2:=bulk_range l fun j hj=>h j (by simp [hj])
  simp only [List.map_cons,sumN,Rows.uptoBulkAll];omega
theorem open_elsB {α:Type} [Inhabited α] {c':α->List Value} {sz:Nat} {Q:α->Prop} {f:α->Nat} {t e:TypeId} {n:Nat} {cs:List Value} {x:DataW H × List MemPlace} (ht:P.underlying t=some (.slice e)) (hc:P.cellsOf e=sz) (hsz:0<sz) (henc : ∀ a,(c' a).length=sz)
 (hel : ∀ m cs y,DataW.trod enc P W 0 (fun _=>true) true m e cs=some y->Rows.uptoBulk y.1<Rows.uptoBulk x.1 -> ∃ a,cs=c' a/\Q a/\f a<=Rows.uptoBulk y.1) (h:DataW.trod enc P W 0 (fun _=>true) true n t cs=some x) :
 ∃ v,∃ xs:List α,cs=[v]/\Els (hpOf W) sz c' v xs/\(∀ a∈xs,Q a)/\sumN f xs+1<=Rows.uptoBulk x.1:=by
 rcases Deep.open_slice ht h with ⟨rfl,rfl⟩ | ⟨a,len,cap,m,k,D,Pl,rfl,_,hl,hm,hme,rfl,hx⟩
 · exact ⟨_,[],rfl,⟨henc,Sl.nil _ _⟩,(fun a ha=>(by cases ha)),by simp [sumN,Rows.uptoBulk]⟩
 · simp only [if_true] at hme
   obtain rfl:cap=m:=hme.symm
   have hbk : ∀ i,i<len->Rows.uptoBulk (D i)<Rows.uptoBulk (DataW.slice ((List.range len).map D) ((List.range (cap - len)).map fun j=>D (len+j))):=fun i hi=>by
    have:=bulk_mem (List.mem_map_of_mem (f:=D) (List.mem_range.2 hi))
    simp only [Rows.uptoBulk];omega
   obtain ⟨g,hf⟩:=Deep.choose_lt (α:=α) (n:=len) (p:=fun i u=>W.cells? 0 (a.add (i*P.cellsOf e)) (P.cellsOf e)=some (c' u)/\Q u/\f u<=Rows.uptoBulk (D i)) (fun i hi=>by
    obtain ⟨cs',h1,h2⟩:=hx i (by omega)
    obtain ⟨u,rfl,hq,hfu⟩:=hel _ _ _ h2 (hbk i hi)
    exact ⟨u,h1,hq,hfu⟩)
   rw [hc] at hf hx
   have hxl:((List.range len).map g).length=len:=by simp
   have hsum:sumN f ((List.range len).map g)+1<=Rows.uptoBulk (DataW.slice ((List.range len).map D) ((List.range (cap - len)).map fun j=>D (len+j))):=by
    have:=bulk_range (f:=f) (D:=D) (g:=g) (List.range len) fun i hi=>(hf i (List.mem_range.1 hi)).2.2
    simp only [Rows.uptoBulk];omega
   refine ⟨_,(List.range len).map g,rfl,⟨henc,?_,?_,?_⟩,fun u hu=>?_,hsum⟩
   · rw [flat_len henc]
   · rw [hxl];omega
   · rw [hxl]
     by_cases h0:cap=0
     · have hl0:len=0:=by omega
       subst h0;subst hl0
       exact .inl ⟨⟨_,rfl⟩,rfl⟩
     · obtain ⟨cs',h1,_⟩:=hx 0 (by omega)
       obtain ⟨_,h2,h3⟩:=World.cells?_some h1
       have h4:=h3 0 hsz
       rw [List.getElem?_eq_getElem (by omega)] at h4
       obtain ⟨b,off,spot⟩:=a
       have hsp:spot=none:=by simpa [Addr.add] using World.cell?_spot h4
       subst hsp
       rw [Addr.add_lit,Addr.add_lit] at h4
       obtain ⟨cc,E,fz,hb⟩ : ∃ cc E fz,W.heap[b]?=some (.cells cc E fz):=by
        unfold World.cell? at h4
        split at h4
        · rename_i cc E fz hb;exact ⟨cc,E,fz,hb⟩
        · cases h4
       refine .inr ⟨b,off,cap,cc,E,fz,rfl,hl,hb,fun j hj=>?_⟩
       rw [flat_len henc,hxl] at hj
       have hi:j / sz<len:=by rw [Nat.div_lt_iff_lt_mul hsz];exact hj
       obtain ⟨g1,_⟩:=hf (j / sz) hi
       obtain ⟨_,_,g3⟩:=World.cells?_some g1
       have g4:=g3 (j % sz) (Nat.mod_lt _ hsz)
       rw [Addr.add_lit,Addr.add_lit] at g4
       have hj2:off+j / sz*sz+j % sz=off+j:=by rw [Nat.add_assoc,Nat.div_add_mod']
       rw [hj2] at g4
       unfold World.cell? at g4
       rw [hb] at g4
       simp only [Option.isSome_none,Bool.false_eq_true,if_false] at g4
       rw [g4]
       have e1:=flat_at henc ((List.range len).map g) (j / sz) (by rw [hxl];exact hi)
       have e2:(((List.range len).map g).flatMap c')[j]?=(c' (g (j / sz)))[j % sz]?:=by
        have e3:((List.range len).map g)[j / sz]'(by rw [hxl];exact hi)=g (j / sz):=by simp
        rw [e3] at e1
        rw [← e1,List.getElem?_take_of_lt (Nat.mod_lt _ hsz),List.getElem?_drop,Nat.div_add_mod']
       rw [← e2]
       exact List.getElem?_eq_getElem _
   · obtain ⟨i,hi,rfl⟩:=List.mem_map.1 hu
     exact (hf i (List.mem_range.1 hi)).2.1
theorem open_structB {t:TypeId} {fs:Array Field} {pl:List (TypeId × Nat × Nat)} {n c:Nat} {cs:List Value} {x:DataW H × List MemPlace} {w:World} {b:Nat} {sp:Nat->Bool} {hd:Bool} (ht:P.underlying t=some (.struct fs)) (hc:P.cellsOf t=c)
 (hpl:fs.toList.map (fun f=>(f.type,f.offset,P.cellsOf f.type))=pl) (h:DataW.trod enc P w b sp hd n t cs=some x) :
 ∃ m,∃ ys:List (DataW H × List MemPlace),cs.length=c/\ys.length=pl.length/\Rows.uptoBulk x.1=Rows.uptoBulkAll (ys.map (·.1))+1 /\ ∀ (i:Nat) (T:TypeId) (o s:Nat),pl[i]?=some (T,o,s)->DataW.trod enc P w b sp hd m T ((cs.drop o).take s)=ys[i]?:=by
 obtain ⟨xs,m,_,rfl,hl,hlen,hf⟩:=DataW.trod_struct ht h
 refine ⟨m,xs,hl.trans hc,by rw [← hpl];simp [hlen],by simp only [Rows.uptoBulk],fun i T o s hi=>?_⟩
 subst hpl
 rw [List.getElem?_map] at hi
 have hlt:i<fs.size:=by
  rcases Nat.lt_or_ge i fs.size with h|h
  · exact h
  · rw [List.getElem?_eq_none (by simpa using h)] at hi;cases hi
 rw [List.getElem?_eq_getElem (by simpa using hlt)] at hi
 simp only [Option.map_some,Option.some.injEq,Prod.mk.injEq,Array.getElem_toList] at hi
 obtain ⟨rfl,rfl,rfl⟩:=hi
 exact hf i _ (by simp [hlt])
end
theorem wf_u64 {i:Int} (h:(Lit.int .u64 i).wf=true) : ∃ b:Nat,i=b/\b<2 ^ 64:=by
 refine ⟨i.toNat,?_⟩
 simp [Lit.wf,IntKind.bits,IntKind.signed,IntKind.min,IntKind.max] at h
 omega
theorem op_setB {H:Type} {enc:TypeId × Value->H} {W:World} {n:Nat} {cs:List Value} {x:DataW H × List MemPlace} (h:DataW.trod enc Tryz.prog W 0 (fun _=>true) true n 25 cs=some x) :
 ∃ s0 s1 s2 s3:Nat,cs=[.int .u64 s0,.int .u64 s1,.int .u64 s2,.int .u64 s3]/\s0<2 ^ 64/\s1<2 ^ 64/\s2<2 ^ 64/\s3<2 ^ 64:=by
 obtain ⟨ys,m,_,rfl,hl,hyl,hf⟩:=DataW.trod_array Tryz.underlying25 h
 rw [show Tryz.prog.cellsOf 25=4 by kernel_rfl] at hl
 rw [show Tryz.prog.cellsOf 23=1 by kernel_rfl] at hf
 match cs,hl,ys,hyl with
 | [c0,c1,c2,c3],_,[y0,y1,y2,y3],_ =>
  have h0:=hf 0 (by omega)
  have h1:=hf 1 (by omega)
  have h2:=hf 2 (by omega)
  have h3:=hf 3 (by omega)
  simp only [Nat.mul_one,List.drop_zero,List.drop_succ_cons,List.take_succ_cons,List.take_zero,List.getElem?_cons_zero,List.getElem?_cons_succ] at h0 h1 h2 h3
  obtain ⟨i0,e0,w0⟩:=open_num Tryz.underlying23 h0
  obtain ⟨i1,e1,w1⟩:=open_num Tryz.underlying23 h1
  obtain ⟨i2,e2,w2⟩:=open_num Tryz.underlying23 h2
  obtain ⟨i3,e3,w3⟩:=open_num Tryz.underlying23 h3
  obtain ⟨s0,rfl,b0⟩:=wf_u64 w0
  obtain ⟨s1,rfl,b1⟩:=wf_u64 w1
  obtain ⟨s2,rfl,b2⟩:=wf_u64 w2
  obtain ⟨s3,rfl,b3⟩:=wf_u64 w3
  injection e0 with e0;injection e1 with e1;injection e2 with e2;injection e3 with e3
  subst e0 e1 e2 e3
  exact ⟨s0,s1,s2,s3,rfl,b0,b1,b2,b3⟩
theorem op_nodeB {H:Type} {enc:TypeId × Value->H} {W:World} : ∀ (N:Nat) {n:Nat} {cs:List Value} {x:DataW H × List MemPlace},DataW.trod enc Tryz.prog W 0 (fun _=>true) true n 28 cs=some x->Rows.uptoBulk x.1<=N -> ∃ q:NoV,cs=encN q/\NoR (hpOf W) q
 | 0,_,_,x,_,hb=>absurd (bulk_pos x.1) (by omega)
 | N+1,n,cs,x,h,hb=>by
  obtain ⟨m,ys,hlen,hyl,hbk,hf⟩:=open_structB (pl:=[(22,0,1),(25,1,4),(26,5,1),(3,6,1),(3,7,1),(4,8,1),(3,9,1)]) (c:=10) Tryz.underlying28 (by kernel_rfl) (by kernel_rfl) h
  match cs,hlen,ys,hyl with
  | [c0,c1,c2,c3,c4,c5,c6,c7,c8,c9],_,[y0,y1,y2,y3,y4,y5,y6],_ =>
   have h0:=hf 0 _ _ _ rfl
   have h1:=hf 1 _ _ _ rfl
   have h2:=hf 2 _ _ _ rfl
   have h3:=hf 3 _ _ _ rfl
   have h4:=hf 4 _ _ _ rfl
   have h5:=hf 5 _ _ _ rfl
   have h6:=hf 6 _ _ _ rfl
   simp only [List.drop_zero,List.drop_succ_cons,List.take_succ_cons,List.take_zero,List.getElem?_cons_zero,List.getElem?_cons_succ] at h0 h1 h2 h3 h4 h5 h6
   simp only [List.map_cons,List.map_nil,Rows.uptoBulkAll] at hbk
   have hp0:=bulk_pos y0.1
   obtain ⟨k,e0,hk⟩:=open_num Tryz.underlying22 h0
   obtain ⟨s0,s1,s2,s3,e1,b0,b1,b2,b3⟩:=op_setB h1
   obtain ⟨kv,l,e2,hs,hq,_⟩:=open_elsB (c':=encN) (sz:=10) (Q:=fun q=>NoR (hpOf W) q) (f:=fun _:NoV=>0) Tryz.underlying26 (by kernel_rfl) (by omega) encN_len (fun m' cs' y' hy' hlt=>by
    obtain ⟨q,e,h3⟩:=op_nodeB N hy' (by omega)
    exact ⟨q,e,h3,Nat.zero_le _⟩) h2
   obtain ⟨mn,e3,_⟩:=open_num Tryz.underlying3 h3
   obtain ⟨mx,e4,_⟩:=open_num Tryz.underlying3 h4
   obtain ⟨gr,e6,_⟩:=open_num Tryz.underlying3 h6
   obtain ⟨lz,e5,_⟩:=DataW.trod_bool Tryz.underlying4 h5
   injection e0 with e0;injection e2 with e2;injection e3 with e3;injection e4 with e4;injection e5 with e5;injection e6 with e6
   injection e1 with e10 e1;injection e1 with e11 e1;injection e1 with e12 e1;injection e1 with e13 e1
   subst e0 e10 e11 e12 e13 e2 e3 e4 e5 e6
   refine ⟨.mk k s0 s1 s2 s3 _ l mn mx lz gr,rfl,?_⟩
   obtain ⟨a0,c0,ho⟩:=hs.2.form
   simp only [NoR,noL_iff]
   exact ⟨hs,hq,wf_i64 hk,b0,b1,b2,b3,by rw [ho];rfl⟩
end Go.Proofs.YteknekiclhnkiaaGreatDoor
