/- span.Spans: its contract, given tree.Right's. -/
import Derived.Test.YteknekiclhnkiaaGreatDoorZa
import Derived.Test.YteknekiclhnkiaaGreatDoorYd
import Derived.Test.YteknekiclhnkiaaGreatDoorZd
set_option maxHeartbeats 8000000
set_option maxRecDepth 10000
namespace Go.Proofs.YteknekiclhnkiaaGreatDoor
open Go.RowKit Go.Maps Sx
def askS (w:Value):Lit->Option Value:=upd (upd (upd (upd (upd (upd (upd (fun _=>none) (.int .i64 1) (.func (.func 50) #[w] #[])) (.int .i64 2) (.func (.func 51) #[w] #[])) (.int .i64 3) (.func (.func 52) #[w] #[])) (.int .i64 4) (.func (.func 53) #[w] #[])) (.int .i64 5) (.func (.func 54) #[w] #[])) (.int .i64 7) (.func (.func 55) #[w] #[])) (.int .i64 6) (.func (.func 56) #[w] #[])
theorem spBy_any (r:Hp) (v:Value) (_s:Tx) (Q:List Nat->Prop) (F:FuncId) (hg:GoesTo Tryz.prog F) (_hv1:one? v=true) (k:Int) (s0 s1 s2 s3:Nat) (kv:Value) (mn mx:Int) (lz:Bool) (gr:Int) (_hk1:one? kv=true) (hk:1<=k/\k<=7) (hget:askS (.agg [v].toArray) (.int .i64 k)=some (.func (.func F) #[.agg [v].toArray] #[])) (hcall:Tri Tryz.prog r F [.agg [v].toArray,.agg [.int .i64 k,.int .u64 s0,.int .u64 s1,.int .u64 s2,.int .u64 s3,kv,.int .i64 mn,.int .i64 mx,.bool lz,.int .i64 gr].toArray] [] fun w H => ∃ T a c,Q T/\w = .slice a T.length c/\H=[TbC a c T]):Tri Tryz.prog r 32 [.agg [v].toArray,.agg [.int .i64 k,.int .u64 s0,.int .u64 s1,.int .u64 s2,.int .u64 s3,kv,.int .i64 mn,.int .i64 mx,.bool lz,.int .i64 gr].toArray] [] fun w H => ∃ T a c,Q T/\w = .slice a T.length c/\H=[TbC a c T]:=by
 have hkn:=nk_key
 refine Tri.free2 fun R HR=>?_
 refine ae Tryz.func32 Tryz.ntmps32 ?_
 repeat' (first|((with_reducible apply kx_box (v:= .agg [v].toArray));rfl;(exact qcl);intro b2;(refine apk ?_))|((with_reducible apply kx_box (v:= .agg [.int .i64 k,.int .u64 s0,.int .u64 s1,.int .u64 s2,.int .u64 s3,kv,.int .i64 mn,.int .i64 mx,.bool lz,.int .i64 gr].toArray));rfl;(exact qcl);intro b3;(refine apk ?_))|((with_reducible apply kx_mmake 22);intro bm;(refine apk ?_))|((with_reducible apply kx_mins (kt:=22) (et:=73));kernel_rfl;exact (int_keyed Tryz.underlying22);rfl;rfl;rfl;exact hkn _ (by omega);(exact atk);(unfold maxLen;omega);(refine apk ?_))|((with_reducible apply kx_mgetS (kt:=22) (et:=73));kernel_rfl;exact (int_keyed Tryz.underlying22);exact ty_zero;rfl;rfl;exact hkn _ (by omega);(exact atk);exact hget;(refine apk ?_))|((with_reducible apply kx_callF (f:=F) (fst:=[.agg [v].toArray]) (cap:=[]));exact hg;rfl;rfl;exact hcall;(exact atks);rintro v' H' ⟨T,a,c,hQ,rfl,rfl⟩;all_goals ((try simp only [List.cons_append,List.nil_append]);(refine apk ?_)))|exact xf|refine aw0 ?_|(refine ap2 ?_ ?_<;>try intro h)|refine aw1 ?_|(refine abx ?_;intro bb)|(refine abz ?_;intro bz)|(refine ahv ?_;intro v' hv')|(refine aac ?_;intro ac cc)|refine aw2 ?_|(refine ap4 ?_ ?_<;>try intro h)|apply True.intro)
 ((with_reducible apply fp_ret);exact res_1 rfl rfl)
 exact HR.out _ _ _ [TbC a c T] atks ⟨T,a,c,hQ,rfl,rfl⟩
theorem spHere_any (r:Hp) (v:Value) (s:Tx) (hv:U8S r v s) (hs:s.length<=62) (hv1:one? v=true) (k:Int) (s0 s1 s2 s3:Nat) (kv:Value) (mn mx:Int) (lz:Bool) (gr:Int) (hk1:one? kv=true) (hk:8<=k/\k<=13):Tri Tryz.prog r 32 [.agg [v].toArray,.agg [.int .i64 k,.int .u64 s0,.int .u64 s1,.int .u64 s2,.int .u64 s3,kv,.int .i64 mn,.int .i64 mx,.bool lz,.int .i64 gr].toArray] [] fun w H => ∃ T a c,(TabOk s.length T/\SubT T (stillR s))/\w = .slice a T.length c/\H=[TbC a c T]:=by
 have hkn:=nk_key
 have hget:askS (.agg [v].toArray) (.int .i64 k)=none:=by
  have:k=8\/k=9\/k=10\/k=11\/k=12\/k=13:=by omega
  rcases this with rfl|rfl|rfl|rfl|rfl|rfl<;>simp [askS,upd,Lit.sameKey]
 have hg:=goesOf Tryz.func57 (by kernel_rfl) rfl
 have hcall:=here_sp r v s hv hs hv1 k s0 s1 s2 s3 kv mn mx lz gr hk1
 refine Tri.free2 fun R HR=>?_
 refine ae Tryz.func32 Tryz.ntmps32 ?_
 repeat' (first|((with_reducible apply kx_box (v:= .agg [v].toArray));rfl;(exact qcl);intro b2;(refine apk ?_))|((with_reducible apply kx_box (v:= .agg [.int .i64 k,.int .u64 s0,.int .u64 s1,.int .u64 s2,.int .u64 s3,kv,.int .i64 mn,.int .i64 mx,.bool lz,.int .i64 gr].toArray));rfl;(exact qcl);intro b3;(refine apk ?_))|((with_reducible apply kx_mmake 22);intro bm;(refine apk ?_))|((with_reducible apply kx_mins (kt:=22) (et:=73));kernel_rfl;exact (int_keyed Tryz.underlying22);rfl;rfl;rfl;exact hkn _ (by omega);(exact atk);(unfold maxLen;omega);(refine apk ?_))|((with_reducible apply kx_mgetN (kt:=22) (et:=73));kernel_rfl;exact (int_keyed Tryz.underlying22);exact ty_zero;rfl;rfl;exact hkn _ (by omega);(exact atk);exact hget;(refine apk ?_))|((with_reducible apply kx_callF (f:=57) (fst:=[.agg [v].toArray]) (cap:=[]));exact hg;rfl;rfl;exact hcall;(exact atks);rintro v' H' ⟨p,a,c,rfl,rfl⟩;all_goals ((try simp only [List.cons_append,List.nil_append]);(refine apk ?_)))|exact xf|refine aw0 ?_|(refine ap2 ?_ ?_<;>try intro h)|refine aw1 ?_|(refine abx ?_;intro bb)|(refine abz ?_;intro bz)|(refine ahv ?_;intro v' hv')|(refine aac ?_;intro ac cc)|refine aw2 ?_|(refine ap4 ?_ ?_<;>try intro h)|apply True.intro)
 ((with_reducible apply fp_ret);exact res_1 rfl rfl)
 exact HR.out _ _ _ [TbC a c (hereT s.length p)] atks ⟨_,a,c,⟨hereT_ok _ _,hereT_sub s p⟩,rfl,rfl⟩
theorem askS1 (w:Value):askS w (.int .i64 1)=some (.func (.func 50) #[w] #[]):=by simp [askS,upd,Lit.sameKey]
theorem askS2 (w:Value):askS w (.int .i64 2)=some (.func (.func 51) #[w] #[]):=by simp [askS,upd,Lit.sameKey]
theorem askS3 (w:Value):askS w (.int .i64 3)=some (.func (.func 52) #[w] #[]):=by simp [askS,upd,Lit.sameKey]
theorem askS4 (w:Value):askS w (.int .i64 4)=some (.func (.func 53) #[w] #[]):=by simp [askS,upd,Lit.sameKey]
theorem askS5 (w:Value):askS w (.int .i64 5)=some (.func (.func 54) #[w] #[]):=by simp [askS,upd,Lit.sameKey]
theorem askS7 (w:Value):askS w (.int .i64 7)=some (.func (.func 55) #[w] #[]):=by simp [askS,upd,Lit.sameKey]
theorem askS6 (w:Value):askS w (.int .i64 6)=some (.func (.func 56) #[w] #[]):=by simp [askS,upd,Lit.sameKey]
theorem sizNs_len : ∀ l:List Nd,l.length<=sizNs l
 | []=>Nat.zero_le _
 | n::l=>by
  have:=sizNs_len l
  have:=sizN_pos n
  unfold sizNs
  rw [List.length_cons]
  omega
theorem sp_all (s:Tx) (hs24:s.length<=24) : ∀ n:NoV,AllN nodeOk n.key->sizN n.key<=60->SpT s n
 | .mk k s0 s1 s2 s3 kv l mn mx lz g=>fun h hz r v hT hn hv hv1=>by
  have hs:s.length<=62:=by omega
  have ih : ∀ x∈l,AllN nodeOk x.key->sizN x.key<=60->SpT s x:=fun x _h=>sp_all s hs24 x
  rw [nkeyM] at h hz ⊢
  unfold AllN at h
  unfold nodeOk at h
  unfold sizN at hz
  obtain ⟨⟨hk,hl1,hrp⟩,hA⟩:=h
  rw [List.length_map] at hl1
  rw [allNs_iff] at hA
  have ih2 : ∀ x∈l,SpT s x:=fun x hx=>ih x hx (hA _ (List.mem_map_of_mem hx)) (by have:=sizNs_mem (List.mem_map_of_mem (f:=NoV.key) hx);omega)
  have hn':=hn
  simp only [NoR,noL_iff] at hn'
  obtain ⟨hl,hr,_,h0,h1,h2,h3,hk1⟩:=hn'
  have hll:l.length<=1000:=by
   have:=sizNs_len (l.map NoV.key)
   rw [List.length_map] at this
   omega
  have fin : ∀ {Q:List Nat->Prop} {M:Rel},(∀ T,Q T->TabOk s.length T/\SubT T M)->Tri Tryz.prog r 32 [.agg [v].toArray,.agg (encN (.mk k s0 s1 s2 s3 kv l mn mx lz g)).toArray] [] (fun w H => ∃ T a c,Q T/\w = .slice a T.length c/\H=[TbC a c T])->Tri Tryz.prog r 32 [.agg [v].toArray,.agg (encN (.mk k s0 s1 s2 s3 kv l mn mx lz g)).toArray] [] fun w H => ∃ T a c,TabOk s.length T/\SubT T M/\w = .slice a T.length c/\H=[TbC a c T]:=fun hQ h=>h.mono fun w H ⟨T,a,c,h1,h2,h3⟩=>⟨T,a,c,(hQ T h1).1,(hQ T h1).2,h2,h3⟩
  unfold matN
  by_cases k1:k=1
  · rw [if_pos k1]
    subst k1
    refine fin (Q:=fun T=>T=stillT s.length) (fun T e=>e ▸ ⟨stillT_ok _,stillT_sub s⟩) ?_
    exact spBy_any r v s _ _ (goesOf Tryz.func50 (by kernel_rfl) rfl) hv1 1 s0 s1 s2 s3 kv mn mx lz g hk1 (by omega) (askS1 _) ((empty_sp r v s hv hs hv1 1 s0 s1 s2 s3 kv mn mx lz g hk1).mono fun w H ⟨a,c,h1,h2⟩=>⟨_,a,c,rfl,h1,h2⟩)
  rw [if_neg k1]
  by_cases k3:k=3
  · rw [if_pos k3]
    subst k3
    refine fin (Q:=fun T=>T=setT [s0,s1,s2,s3] s) (fun T e=>e ▸ ⟨setT_ok _ s,setT_sub _ s⟩) ?_
    exact spBy_any r v s _ _ (goesOf Tryz.func52 (by kernel_rfl) rfl) hv1 3 s0 s1 s2 s3 kv mn mx lz g hk1 (by omega) (askS3 _) ((bytes_sp r v s hv hs hv1 3 s0 s1 s2 s3 kv mn mx lz g hk1 h0 h1 h2 h3).mono fun w H ⟨a,c,h1,h2⟩=>⟨_,a,c,rfl,h1,h2⟩)
  rw [if_neg k3]
  by_cases k4:k=4
  · rw [if_pos k4]
    subst k4
    refine fin (fun T e=>e) ?_
    exact spBy_any r v s _ _ (goesOf Tryz.func53 (by kernel_rfl) rfl) hv1 4 s0 s1 s2 s3 kv mn mx lz g hk1 (by omega) (askS4 _) (cat_sp r hT v s hv hs hv1 4 s0 s1 s2 s3 kv mn mx lz g l hll hl hk1 hr ih2)
  rw [if_neg k4]
  by_cases k5:k=5
  · rw [if_pos k5]
    subst k5
    refine fin (fun T e=>e) ?_
    exact spBy_any r v s _ _ (goesOf Tryz.func54 (by kernel_rfl) rfl) hv1 5 s0 s1 s2 s3 kv mn mx lz g hk1 (by omega) (askS5 _) (alt_sp r hT v s hv hs hv1 5 s0 s1 s2 s3 kv mn mx lz g l hll hl hk1 hr ih2)
  rw [if_neg k5]
  by_cases k6:k=6
  · rw [if_pos k6]
    obtain ⟨x,rfl⟩:=List.length_eq_one_iff.1 (hl1 (.inl k6))
    obtain ⟨m1,m2,m3,m4⟩:=hrp k6
    subst k6
    obtain ⟨m0,rfl⟩ : ∃ m0:Nat,mn=m0:=⟨mn.toNat,by omega⟩
    refine fin (fun T e=>e) ?_
    exact spBy_any r v s _ _ (goesOf Tryz.func56 (by kernel_rfl) rfl) hv1 6 s0 s1 s2 s3 kv m0 mx lz g hk1 (by omega) (askS6 _) (repeat_sp r hT v s hv hs24 hv1 6 s0 s1 s2 s3 kv m0 mx lz g x hl hk1 (hr x (List.mem_singleton_self _)) (ih2 x (List.mem_singleton_self _)) (by omega) m3 m4)
  rw [if_neg k6]
  by_cases k7:k=7
  · rw [if_pos k7]
    obtain ⟨x,rfl⟩:=List.length_eq_one_iff.1 (hl1 (.inr k7))
    subst k7
    refine fin (Q:=fun T=>TabOk s.length T/\SubT T (matN PT s x.key)) (fun T e=>e) ?_
    exact spBy_any r v s _ _ (goesOf Tryz.func55 (by kernel_rfl) rfl) hv1 7 s0 s1 s2 s3 kv mn mx lz g hk1 (by omega) (askS7 _) ((group_sp r hT v s hv hv1 7 s0 s1 s2 s3 kv mn mx lz g x [] hl hk1 (hr x (List.mem_singleton_self _)) (ih2 x (List.mem_singleton_self _))).mono fun w H ⟨T,a,c,h1,h2,h3⟩=>⟨T,a,c,⟨h1,h2⟩,h3⟩)
  rw [if_neg k7]
  by_cases k8:8<=k/\k<=13
  · rw [if_pos k8]
    refine fin (Q:=fun T=>TabOk s.length T/\SubT T (stillR s)) (fun T e=>⟨e.1,e.2.mono fun a b h=>⟨h,rfl⟩⟩) ?_
    exact spHere_any r v s hv hs hv1 k s0 s1 s2 s3 kv mn mx lz g hk1 k8
  · rw [if_neg k8]
    obtain rfl:k=2:=by omega
    refine fin (Q:=fun T=>T=noT s.length) (fun T e=>e ▸ ⟨noT_ok _,noT_sub _ _⟩) ?_
    exact spBy_any r v s _ _ (goesOf Tryz.func51 (by kernel_rfl) rfl) hv1 2 s0 s1 s2 s3 kv mn mx lz g hk1 (by omega) (askS2 _) ((none_sp r v s hv hs hv1 2 s0 s1 s2 s3 kv mn mx lz g hk1).mono fun w H ⟨a,c,h1,h2⟩=>⟨_,a,c,rfl,h1,h2⟩)
termination_by n=>SizeOf.sizeOf n
decreasing_by
 have:=List.sizeOf_lt_of_mem _h
 simp only [NoV.mk.sizeOf_spec]
 omega
end Go.Proofs.YteknekiclhnkiaaGreatDoor
namespace Go.Proofs.YteknekiclhnkiaaGreatDoor
open Go.RowKit Sx
def TrRtT (x:NoV):Prop := ∀ r:Hp,NoR r x->Tri Tryz.prog r 7 [.agg (encN x).toArray] [] fun w H=>(∃ b,w = .bool b/\(b=true->AllN nodeOk x.key))/\H=[]
abbrev PrL:=List (Nat × Nat)
def encP (p:Nat × Nat):List Value:=[.int .i64 (p.1:Nat),.int .i64 (p.2:Nat)]
theorem encP_len (p:Nat × Nat):(encP p).length=2:=rfl
abbrev PrC (a:Option Addr) (c:Nat) (L:List (Nat × Nat)):Ch:=RowC 44 2 (.slice a L.length c) L.length (L.flatMap encP)
theorem bitsW_len : ∀ f x:Nat,(bitsW f x).length<=f
 | 0,_=>Nat.le_refl _
 | f+1,x=>by
  unfold bitsW
  split
  · exact Nat.zero_le _
  · have:=bitsW_len f (x &&& (x - 1))
    rw [List.length_cons];omega
theorem spans_any (r:Hp) (hT:TabF r) (v:Value) (s:Tx) (hv:U8S r v s) (hs:s.length<=24) (hv1:one? v=true) (k:Int) (s0 s1 s2 s3:Nat) (kv:Value) (l:List NoV) (mn mx:Int) (lz:Bool) (gr:Int) (hn:NoR r (.mk k s0 s1 s2 s3 kv l mn mx lz gr)) (hR:TrRtT (.mk k s0 s1 s2 s3 kv l mn mx lz gr)) (hz:sizN (NoV.key (.mk k s0 s1 s2 s3 kv l mn mx lz gr))<=60):Tri Tryz.prog r 10 [.agg [.int .i64 k,.int .u64 s0,.int .u64 s1,.int .u64 s2,.int .u64 s3,kv,.int .i64 mn,.int .i64 mx,.bool lz,.int .i64 gr].toArray,v] [] fun w H => ∃ (L:List (Nat × Nat)) (a:Option Addr) (c:Nat),(L.length<=25*33554432 /\ ∀ p∈L,matN PT s (NoV.key (.mk k s0 s1 s2 s3 kv l mn mx lz gr)) p.1 p.2)/\w = .slice a L.length c/\H=[PrC a c L]:=by
 have hk1:=(noR_kids hn).2.2
 have hri:=hR r hn
 have hsp:=fun h=>sp_all s hs (.mk k s0 s1 s2 s3 kv l mn mx lz gr) h hz r v hT hn hv hv1
 rw [show encN (.mk k s0 s1 s2 s3 kv l mn mx lz gr)=[.int .i64 k,.int .u64 s0,.int .u64 s1,.int .u64 s2,.int .u64 s3,kv,.int .i64 mn,.int .i64 mx,.bool lz,.int .i64 gr] from rfl] at hri hsp
 obtain ⟨M,hM⟩ : ∃ M,matN PT s (NoV.key (.mk k s0 s1 s2 s3 kv l mn mx lz gr))=M:=⟨_,rfl⟩
 rw [hM] at hsp ⊢
 clear hM hR hz hn
 refine Tri.free2 fun R HR=>?_
 refine ae Tryz.func10 Tryz.ntmps10 ?_
 refine sw_put (A:=PrC none 0 []) (RowC.nil _ _) ?_
 repeat' (first|((with_reducible apply kx_box);rfl;(exact qcl);intro b2;(refine apk ?_))|((with_reducible apply kx_alloc (E:=42));exact ty_zero;(exact qcl);intro b4;(refine apk ?_))|(refine acl Tryz.func7 ?_;refine acr (hri) ?_;rintro v' H' ⟨⟨p,rfl,hp⟩,rfl⟩;cases p;all_goals refine apl ?_)|exact xf|refine aw0 ?_|(refine ap2 ?_ ?_<;>try intro h)|refine aw1 ?_|(refine abx ?_;intro bb)|(refine abz ?_;intro bz)|(refine ahv ?_;intro v' hv')|(refine aac ?_;intro ac cc)|refine aw2 ?_|(refine ap4 ?_ ?_<;>try intro h)|apply True.intro)
 · ((with_reducible apply fp_ret);exact res_c rfl ty_agg rfl (by (exact ard)))
   exact HR.out _ _ _ [PrC none 0 []] atks ⟨[],none,0,⟨by simp,fun p hp=>by cases hp⟩,rfl,rfl⟩
 · have hof:=hsp (hp rfl)
   repeat' (first|(refine acl Tryz.func32 ?_;refine acr (hof) ?_;rintro v' H' ⟨T,a,c,hTo,hTs,rfl,rfl⟩;refine apl ?_)|exact xf|refine aw0 ?_|(refine ap2 ?_ ?_<;>try intro h)|refine aw1 ?_|(refine abx ?_;intro bb)|(refine abz ?_;intro bz)|(refine ahv ?_;intro v' hv')|(refine aac ?_;intro ac cc)|refine aw2 ?_|(refine ap4 ?_ ?_<;>try intro h)|apply True.intro)
   have hTl:=hTo.len
   have h2:2 ^ (s.length+1)<=33554432:=Nat.pow_le_pow_right (n:=2) (by omega) (show s.length+1<=25 by omega)
   refine sw_lendQ (A:=TbC a c T) atk fun r2 g2 hr2 hg2 hA2=>?_
   have hE:=tbC_els hA2 hg2
   refine sw_loop (fun gm t H' => ∃ (i:Nat) (L:PrL) (aL:Option Addr) (cL:Nat),gm=T.length+1 - i/\(i<=T.length)/\(L.length<=i*33554432)/\(∀ p∈L,M p.1 p.2)/\(∃ G,Takes [pt b4 (.cells [.slice aL L.length cL].toArray 42 (0,0)),PrC aL cL L] H' G)/\Sls t 37 [(4,.pointer (some ⟨b4,0,none⟩)),(7,undef),(19,.slice a T.length c),(20,.int .i64 T.length),(21,.int .i64 (i:Nat)),(28,undef)]) _ ⟨0,[],none,0,rfl,Nat.zero_le _,Nat.zero_le _,(fun p hp=>by cases hp),⟨_,atks⟩,asls⟩ ?_
   rintro gm t H' ⟨i,L,aL,cL,rfl,hi,hLl,hLm,⟨G,hp⟩,hs'⟩
   revert t;refine sls_all ?_;iterate 31 intro uu'
   refine sw_takeG hp ?_;clear hp
   by_cases hlt:i<T.length
   · obtain ⟨x,hx⟩ : ∃ x,T.getD i 0=x:=⟨_,rfl⟩
     have hxl:=hTo.get i
     rw [hx] at hxl
     have hx64:x<2 ^ 64:=Nat.lt_of_lt_of_le hxl (Nat.pow_le_pow_right (by omega) (by omega))
     have hal:=eall_any r2 x
     have hbs:=bitsX_sub (by omega) hxl
     have hbl:=bitsW_len x x
     have hseq:=fun Bk=>eall_seq r2 (hT.mono hr2) Bk x hx64
     obtain ⟨X,hX⟩ : ∃ X,bitsX x=X:=⟨_,rfl⟩
     rw [show bitsW x x=X from hX] at hbl
     rw [hX] at hseq hbs
     repeat' (first|(rw [getD_def,hx])|((with_reducible apply kx_alloc (E:=3));exact ty_zero;(exact qcl);intro b5;(refine apk ?_))|((with_reducible apply kx_alloc (E:=74));exact ty_zero;(exact qcl);intro b6;(refine apk ?_))|((with_reducible apply kx_storeN);exact ty_size;rfl;rfl;rfl;(exact qsw);exact encE_one _;(exact qst);(refine apk ?_))|(refine acl Tryz.func33 ?_;refine acr (hal) ?_;rintro v' H' ⟨Bk,rfl,rfl⟩;refine apl ?_)|exact xf|refine aw0 ?_|(refine ap2 ?_ ?_<;>try intro h)|refine aw1 ?_|(refine abx ?_;intro bb)|(refine abz ?_;intro bz)|(refine ahv ?_;intro v' hv')|(refine aac ?_;intro ac cc)|refine aw2 ?_|(refine ap4 ?_ ?_<;>try intro h)|apply True.intro)
     refine sw_range rfl (goesOf Tryz.func58 (by kernel_rfl) rfl) (hseq Bk) atks (fun _=>rfl)
      (fun j H => ∃ (aJ:Option Addr) (cJ:Nat),∃ G,Takes [pt b4 (.cells [.slice aJ (L++(X.take j).map fun m=>(i,m)).length cJ].toArray 42 (0,0)),pt b5 (.cells [.int .i64 (i:Nat)].toArray 3 (0,0)),PrC aJ cJ (L++(X.take j).map fun m=>(i,m))] H G)
      (fun _ _ _=>False) ?_ ?_ ?_ (fun _ _ _ _ h=>h.elim)
     · refine ⟨aL,cL,?_⟩
       rw [List.take_zero,List.map_nil,List.append_nil]
       exact ⟨_,by (exact atks)⟩
     · rintro kk j hj H ⟨aJ,cJ,G,hp2⟩
       obtain ⟨m,hm⟩ : ∃ m,X[j]=m:=⟨_,rfl⟩
       have htk:(L++(X.take (j+1)).map fun m=>(i,m))=(L++(X.take j).map fun m=>(i,m))++[(i,m)]:=by rw [List.take_succ_eq_append_getElem hj,hm,List.map_append,List.append_assoc];rfl
       have htl:(L++(X.take j).map fun m=>(i,m)).length<=L.length+X.length:=by rw [List.length_append,List.length_map,List.length_take];omega
       rw [hm,show encJ m=[.int .i64 (m:Nat)] from rfl,pars1]
       refine sw_takeG hp2 ?_
       clear hp2
       obtain ⟨Y,hY⟩ : ∃ Y,(L++(X.take j).map fun m=>(i,m))=Y:=⟨_,rfl⟩
       rw [hY] at htk htl
       rw [hY]
       (refine apk ?_)
       repeat' (first|(first|((with_reducible apply kx_bs1);exact ty_el;exact ty_inf;rfl;rfl;rfl;intro bz;(refine apk ?_))|((with_reducible apply kx_bsN);exact ty_el;exact ty_inf;rfl;rfl;rfl;intro bz;(refine apk ?_)))|(first|((with_reducible apply kx_append1);exact ty_el;exact ty_inf;rfl;rfl;rfl;(exact atk);(exact atk);rfl;omega;intro a' c';(refine apk ?_))|((with_reducible apply kx_appendN);exact ty_el;exact ty_inf;rfl;rfl;rfl;rfl;(exact atk);(exact atk);rfl;rfl;omega;intro a' c';(refine apk ?_)))|((with_reducible refine swo_kit ?_ ?_);rfl;intro w ds K' hK;gi_big_op;(with_reducible refine hK _ ?_);clear hK K' ds w)|exact xf|refine aw0 ?_|(refine ap2 ?_ ?_<;>try intro h)|refine aw1 ?_|(refine abx ?_;intro bb)|(refine abz ?_;intro bz)|(refine ahv ?_;intro v' hv')|(refine aac ?_;intro ac cc)|refine aw2 ?_|(refine ap4 ?_ ?_<;>try intro h)|apply True.intro)
       refine ⟨a',c',?_⟩
       have hln:(Y++[(i,m)]).length=Y.length+1:=by rw [List.length_append];rfl
       have hfl:(Y++[(i,m)]).flatMap encP=Y.flatMap encP++[.int .i64 (i:Nat),.int .i64 (m:Nat)]:=by rw [List.flatMap_append];rfl
       apply Exists.intro
       rw [htk]
       unfold PrC
       rw [hln,hfl]
       (exact atks)
     · rintro H ⟨aJ,cJ,G,hp2⟩
       rw [List.take_length] at hp2
       refine sw_takeG hp2 ?_
       clear hp2
       have hXl:(L++X.map fun m=>(i,m)).length<=(i+1)*33554432:=by rw [List.length_append,List.length_map];omega
       have hXm : ∀ p∈(L++X.map fun m=>(i,m)),M p.1 p.2:=fun p hp=>by
        rcases List.mem_append.1 hp with h|h
        · exact hLm p h
        · obtain ⟨m,hm,rfl⟩:=List.mem_map.1 h
          exact hTs i m hlt (by rw [hx];exact (hbs m hm).1)
       obtain ⟨Y,hY⟩ : ∃ Y,(L++X.map fun m=>(i,m))=Y:=⟨_,rfl⟩
       rw [hY] at hXl hXm
       rw [hY]
       repeat' (first|exact xf|refine aw0 ?_|(refine ap2 ?_ ?_<;>try intro h)|refine aw1 ?_|(refine abx ?_;intro bb)|(refine abz ?_;intro bz)|(refine ahv ?_;intro v' hv')|(refine aac ?_;intro ac cc)|refine aw2 ?_|(refine ap4 ?_ ?_<;>try intro h)|apply True.intro)
       exact ⟨_,by omega,i+1,Y,aJ,cJ,rfl,by omega,hXl,hXm,⟨_,atks⟩,asls⟩
   · obtain rfl:i=T.length:=by omega
     repeat' (first|exact xf|refine aw0 ?_|(refine ap2 ?_ ?_<;>try intro h)|refine aw1 ?_|(refine abx ?_;intro bb)|(refine abz ?_;intro bz)|(refine ahv ?_;intro v' hv')|(refine aac ?_;intro ac cc)|refine aw2 ?_|(refine ap4 ?_ ?_<;>try intro h)|apply True.intro)
     ((with_reducible apply fp_ret);exact res_c rfl ty_agg rfl (by (exact ard)))
     exact HR.out _ _ _ [PrC aL cL L] atks ⟨L,aL,cL,⟨Nat.le_trans hLl (Nat.mul_le_mul_right _ (by omega)),hLm⟩,rfl,rfl⟩
end Go.Proofs.YteknekiclhnkiaaGreatDoor
