/- know.Of at every right tree of at most 60 nodes: its contract. -/
import Derived.Test.YteknekiclhnkiaaGreatDoorYb
import Derived.Test.YteknekiclhnkiaaGreatDoorOx
set_option maxHeartbeats 8000000
set_option maxRecDepth 10000
namespace Go.Proofs.YteknekiclhnkiaaGreatDoor
open Go.RowKit Go.Maps Sx
theorem alt_of (r:Hp) (hT:TabR r) (k:Int) (s0 s1 s2 s3:Nat) (kv:Value) (l:List NoV) (mn mx:Int) (lz:Bool) (gr:Int) (hl:Els r 10 encN kv l) (hk1:one? kv=true) (hr : ∀ x∈l,NoR r x) (ih : ∀ x∈l,OfT x) (hfo:FoldO (exactI []) (l.map fun x=>ofI x.key)):Tri Tryz.prog r 28 [.agg [.int .i64 k,.int .u64 s0,.int .u64 s1,.int .u64 s2,.int .u64 s3,kv,.int .i64 mn,.int .i64 mx,.bool lz,.int .i64 gr].toArray] [] fun w H => ∃ u:InfV,u.key=joinI (exactI []) orI (l.map fun x=>ofI x.key)/\(encQ u.q).all one?=true/\w = .agg [.bool u.known,.slice u.ea u.ex.length u.ec,.slice u.pa u.pre.length u.pc,.slice u.sa u.suf.length u.sc,.int .i64 u.q.kind,u.q.gv,u.q.sv].toArray/\H=[OwnI u]:=by
 have hex:=exact_any r hT (.slice none 0 0) [] (els_nilT r) (by simp)
 have hjo2 : ∀ (o:InfV),o.key=exactI []->(encQ o.q).all one?=true->Tri Tryz.prog r 43 [.agg [.int .i64 k,.int .u64 s0,.int .u64 s1,.int .u64 s2,.int .u64 s3,kv,.int .i64 mn,.int .i64 mx,.bool lz,.int .i64 gr].toArray,.agg [.bool o.known,.slice o.ea o.ex.length o.ec,.slice o.pa o.pre.length o.pc,.slice o.sa o.suf.length o.sc,.int .i64 o.q.kind,o.q.gv,o.q.sv].toArray,.func (.func 45) #[] #[]] [OwnI o] fun w H => ∃ u:InfV,u.key=joinI (exactI []) orI (l.map fun x=>ofI x.key)/\(encQ u.q).all one?=true/\w = .agg [.bool u.known,.slice u.ea u.ex.length u.ec,.slice u.pa u.pre.length u.pc,.slice u.sa u.suf.length u.sc,.int .i64 u.q.kind,u.q.gv,u.q.sv].toArray/\H=[OwnI u]:=fun o h1 h2=>by
  have h:=joinedO_of orO_any r hT k s0 s1 s2 s3 kv l mn mx lz gr hl hk1 hr ih o h2 (by rw [h1];exact hfo)
  rw [h1] at h
  exact h
 obtain ⟨Z,hZ⟩ : ∃ Z,joinI (exactI []) orI (l.map fun x=>ofI x.key)=Z:=⟨_,rfl⟩
 obtain ⟨E,hE⟩ : ∃ E,exactI []=E:=⟨_,rfl⟩
 rw [hZ] at hjo2 ⊢
 rw [hE] at hjo2 hex
 clear hZ hE hfo hl hr ih
 refine Tri.free2 fun R HR=>?_
 refine ae Tryz.func28 Tryz.ntmps28 ?_
 repeat' (first|((with_reducible apply kx_box);rfl;(exact qcl);intro b1;(refine apk ?_))|((with_reducible apply kx_alloc (E:=40));exact ty_zero;(exact qcl);intro b2;(refine apk ?_))|((with_reducible apply sw_draw (id:=1) 2 [(0,true),(1,false)] [(2,false),(3,false)] [(b1,.cells [.int .i64 k,.int .u64 s0,.int .u64 s1,.int .u64 s2,.int .u64 s3,kv,.int .i64 mn,.int .i64 mx,.bool lz,.int .i64 gr].toArray 65 (0,0))]);kernel_rfl;(exact atks);kernel_rfl;intro r' hl')|((with_reducible apply pi_pur);rfl;(exact qwt);(with_reducible apply pu_ldP);rfl;(first|assumption|exact Lent.h1 hl'|exact Lent.h2 hl'|exact Lent.h3 hl');(simp only [cut,List.drop_zero,List.take_succ_cons,List.take_zero];rfl);rfl;(refine apk ?_))|(refine acl Tryz.func31 ?_;refine acr (hex.up hl'.1) ?_;rintro v' H' ⟨o,ho1,ho2,rfl,rfl⟩;refine apl ?_)|(refine acl Tryz.func43 ?_;refine acr (hjo2 o ho1 ho2) ?_;rintro v' H' ⟨u,hu1,hu2,rfl,rfl⟩;refine apl ?_)|((with_reducible apply kx_storeN);exact ty_size;rfl;rfl;rfl;(exact qsw);exact encI_one hu2;(exact qst);(refine apk ?_))|exact xf|refine aw0 ?_|(refine ap2 ?_ ?_<;>try intro h)|refine aw1 ?_|(refine abx ?_;intro bb)|(refine abz ?_;intro bz)|(refine ahv ?_;intro v' hv')|(refine aac ?_;intro ac cc)|refine aw2 ?_|(refine ap4 ?_ ?_<;>try intro h)|apply True.intro)
 all_goals
  ((with_reducible apply fp_ret);exact res_W rfl rfl atk ty_agg ty_size rfl)
  exact HR.out _ _ _ [OwnI u] atks ⟨u,hu1,hu2,rfl,rfl⟩
theorem repeat01_of (r:Hp) (hT:TabR r) (k:Int) (s0 s1 s2 s3:Nat) (kv:Value) (l:List NoV) (mn:Int) (lz:Bool) (gr:Int) (x:NoV) (hl:Els r 10 encN kv (x::l)) (hk1:one? kv=true) (hr:NoR r x) (ih:OfT x) (hm:mn<1) (hfo:FitO (exactI [[]]) (ofI x.key)):Tri Tryz.prog r 29 [.agg [.int .i64 k,.int .u64 s0,.int .u64 s1,.int .u64 s2,.int .u64 s3,kv,.int .i64 mn,.int .i64 1,.bool lz,.int .i64 gr].toArray] [] fun w H => ∃ u:InfV,u.key=orI (exactI [[]]) (ofI x.key)/\(encQ u.q).all one?=true/\w = .agg [.bool u.known,.slice u.ea u.ex.length u.ec,.slice u.pa u.pre.length u.pc,.slice u.sa u.suf.length u.sc,.int .i64 u.q.kind,u.q.gv,u.q.sv].toArray/\H=[OwnI u]:=by
 have hgr:=group_of r hT k s0 s1 s2 s3 kv l mn 1 lz gr x hl hk1 hr ih
 have hno:=none_any r hT (.mk k s0 s1 s2 s3 kv l mn 1 lz gr)
 rw [show encN (.mk k s0 s1 s2 s3 kv l mn 1 lz gr)=[.int .i64 k,.int .u64 s0,.int .u64 s1,.int .u64 s2,.int .u64 s3,kv,.int .i64 mn,.int .i64 1,.bool lz,.int .i64 gr] from rfl] at hno
 have hor : ∀ (o u:InfV),o.key=exactI [[]]->u.key=ofI x.key->(encQ o.q).all one?=true->(encQ u.q).all one?=true->Tri Tryz.prog r 45 [.agg [.bool o.known,.slice o.ea o.ex.length o.ec,.slice o.pa o.pre.length o.pc,.slice o.sa o.suf.length o.sc,.int .i64 o.q.kind,o.q.gv,o.q.sv].toArray,.agg [.bool u.known,.slice u.ea u.ex.length u.ec,.slice u.pa u.pre.length u.pc,.slice u.sa u.suf.length u.sc,.int .i64 u.q.kind,u.q.gv,u.q.sv].toArray] [OwnI o,OwnI u] fun w H => ∃ z:InfV,z.key=orI (exactI [[]]) (ofI x.key)/\(encQ z.q).all one?=true/\w = .agg [.bool z.known,.slice z.ea z.ex.length z.ec,.slice z.pa z.pre.length z.pc,.slice z.sa z.suf.length z.sc,.int .i64 z.q.kind,z.q.gv,z.q.sv].toArray/\H=[OwnI z]:=fun o u e1 e2 o1 o2=>by
  have h:=orO_any r hT o u o1 o2 (by rw [e1,e2];exact hfo)
  rw [e1,e2] at h
  exact h
 obtain ⟨Z,hZ⟩ : ∃ Z,orI (exactI [[]]) (ofI x.key)=Z:=⟨_,rfl⟩
 obtain ⟨E,hE⟩ : ∃ E,exactI [[]]=E:=⟨_,rfl⟩
 obtain ⟨U,hU⟩ : ∃ U,ofI x.key=U:=⟨_,rfl⟩
 rw [hZ] at hor ⊢
 rw [hE] at hno hor
 rw [hU] at hgr hor
 have h4:¬ mn=1:=by omega
 clear hZ hE hU hfo hl hr ih
 refine Tri.free2 fun R HR=>?_
 refine ae Tryz.func29 Tryz.ntmps29 ?_
 repeat' (first|((with_reducible apply kx_box);rfl;(exact qcl);intro b1;(refine apk ?_))|((with_reducible apply kx_alloc (E:=40));exact ty_zero;(exact qcl);intro b2;(refine apk ?_))|((with_reducible apply sw_draw (id:=6) 5 [(0,true),(2,true),(1,false),(3,false),(4,false)] [(5,false)] [(b1,.cells [.int .i64 k,.int .u64 s0,.int .u64 s1,.int .u64 s2,.int .u64 s3,kv,.int .i64 mn,.int .i64 1,.bool lz,.int .i64 gr].toArray 65 (0,0))]);kernel_rfl;(exact atks);kernel_rfl;intro r' hl')|((with_reducible apply pi_pur);rfl;(exact qwt);(with_reducible apply pu_ldP);rfl;(first|assumption|exact Lent.h1 hl'|exact Lent.h2 hl'|exact Lent.h3 hl');(simp only [cut,List.drop_zero,List.take_succ_cons,List.take_zero];rfl);rfl;(refine apk ?_))|(refine acl Tryz.func25 ?_;refine acr (hno.up hl'.1) ?_;rintro v' H' ⟨o,ho1,ho2,rfl,rfl⟩;refine apl ?_)|(refine acl Tryz.func30 ?_;refine acr (hgr.up hl'.1) ?_;rintro v' H' ⟨u,hu1,hu2,rfl,rfl⟩;refine apl ?_)|(refine acl Tryz.func45 ?_;refine acr ((hor o u ho1 hu1 ho2 hu2).up hl'.1) ?_;rintro v' H' ⟨z,hz1,hz2,rfl,rfl⟩;refine apl ?_)|((with_reducible apply kx_storeN);exact ty_size;rfl;rfl;rfl;(exact qsw);exact encI_one hz2;(exact qst);(refine apk ?_))|exact xf|refine aw0 ?_|(refine ap2 ?_ ?_<;>try intro h)|refine aw1 ?_|(refine abx ?_;intro bb)|(refine abz ?_;intro bz)|(refine ahv ?_;intro v' hv')|(refine aac ?_;intro ac cc)|refine aw2 ?_|(refine ap4 ?_ ?_<;>try intro h)|apply True.intro)
 all_goals
  ((with_reducible apply fp_ret);exact res_W rfl rfl atk ty_agg ty_size rfl)
  exact HR.out _ _ _ [OwnI z] atks ⟨z,hz1,hz2,rfl,rfl⟩
mutual
def AllN (p:Nd->Prop):Nd->Prop
 | .mk k s l mn mx lz g=>p (.mk k s l mn mx lz g)/\AllNs p l
def AllNs (p:Nd->Prop):List Nd->Prop
 | []=>True
 | n::l=>AllN p n/\AllNs p l
end
theorem allNs_iff {p:Nd->Prop} : ∀ {l:List Nd},AllNs p l ↔ ∀ n∈l,AllN p n
 | []=>by simp [AllNs]
 | n::l=>by simp [AllNs,allNs_iff (l:=l)]
def nodeOk:Nd->Prop
 | .mk k _ l mn mx _ _=>(1<=k/\k<=13)/\(k=6\/k=7->l.length=1)/\(k=6->0<=mn/\mn<=100/\mx<=100/\(mx = -1\/mn<=mx))
theorem sizNs_mem {x:Nd} : ∀ {l:List Nd},x∈l->sizN x<=sizNs l
 | [],h=>by cases h
 | n::l,h=>by
  unfold sizNs
  rcases List.mem_cons.1 h with rfl|h
  · omega
  · have:=sizNs_mem h;omega
theorem askM_none (k:Int) (h:k=2):askM (.int .i64 k)=none:=by subst h;simp [askM,upd,Lit.sameKey]
theorem ofBy_any (r:Hp) (F:FuncId) (hg:GoesTo Tryz.prog F) (K:InfK) (k:Int) (s0 s1 s2 s3:Nat) (kv:Value) (mn mx:Int) (lz:Bool) (gr:Int) (hk:1<=k/\k<=13) (hget:askM (.int .i64 k)=some (.func (.func F) #[] #[])) (hcall:Tri Tryz.prog r F [.agg [.int .i64 k,.int .u64 s0,.int .u64 s1,.int .u64 s2,.int .u64 s3,kv,.int .i64 mn,.int .i64 mx,.bool lz,.int .i64 gr].toArray] [] fun w H => ∃ u:InfV,u.key=K/\(encQ u.q).all one?=true/\w = .agg [.bool u.known,.slice u.ea u.ex.length u.ec,.slice u.pa u.pre.length u.pc,.slice u.sa u.suf.length u.sc,.int .i64 u.q.kind,u.q.gv,u.q.sv].toArray/\H=[OwnI u]):Tri Tryz.prog r 9 [.agg [.int .i64 k,.int .u64 s0,.int .u64 s1,.int .u64 s2,.int .u64 s3,kv,.int .i64 mn,.int .i64 mx,.bool lz,.int .i64 gr].toArray] [] fun w H => ∃ u:InfV,u.key=K/\(encQ u.q).all one?=true/\w = .agg [.bool u.known,.slice u.ea u.ex.length u.ec,.slice u.pa u.pre.length u.pc,.slice u.sa u.suf.length u.sc,.int .i64 u.q.kind,u.q.gv,u.q.sv].toArray/\H=[OwnI u]:=by
 have hkn:=nk_key
 refine Tri.free2 fun R HR=>?_
 refine ae Tryz.func9 Tryz.ntmps9 ?_
 repeat' (first|((with_reducible apply kx_box);rfl;(exact qcl);intro b1;(refine apk ?_))|((with_reducible apply kx_alloc (E:=40));exact ty_zero;(exact qcl);intro b2;(refine apk ?_))|((with_reducible apply kx_mmake 22);intro bm;(refine apk ?_))|((with_reducible apply kx_mins (kt:=22) (et:=59));kernel_rfl;exact (int_keyed Tryz.underlying22);rfl;rfl;rfl;exact hkn _ (by omega);(exact atk);(unfold maxLen;omega);(refine apk ?_))|((with_reducible apply kx_mgetS (kt:=22) (et:=59));kernel_rfl;exact (int_keyed Tryz.underlying22);exact ty_zero;rfl;rfl;exact hkn _ (by omega);(exact atk);exact hget;(refine apk ?_))|((with_reducible apply kx_call (f:=F) (cap:=[]));exact hg;rfl;rfl;exact hcall;(exact atks);rintro v' H' ⟨u,hu1,hu2,rfl,rfl⟩;all_goals ((try simp only [List.cons_append,List.nil_append]);(refine apk ?_)))|((with_reducible apply kx_storeN);exact ty_size;rfl;rfl;rfl;(exact qsw);exact encI_one hu2;(exact qst);(refine apk ?_))|exact xf|refine aw0 ?_|(refine ap2 ?_ ?_<;>try intro h)|refine aw1 ?_|(refine abx ?_;intro bb)|(refine abz ?_;intro bz)|(refine ahv ?_;intro v' hv')|(refine aac ?_;intro ac cc)|refine aw2 ?_|(refine ap4 ?_ ?_<;>try intro h)|apply True.intro)
 ((with_reducible apply fp_ret);exact res_W rfl rfl atk ty_agg ty_size rfl)
 exact HR.out _ _ _ [OwnI u] atks ⟨u,hu1,hu2,rfl,rfl⟩
theorem ofNo_any (r:Hp) (hT:TabR r) (k:Int) (s0 s1 s2 s3:Nat) (kv:Value) (mn mx:Int) (lz:Bool) (gr:Int) (hk:k=2):Tri Tryz.prog r 9 [.agg [.int .i64 k,.int .u64 s0,.int .u64 s1,.int .u64 s2,.int .u64 s3,kv,.int .i64 mn,.int .i64 mx,.bool lz,.int .i64 gr].toArray] [] fun w H => ∃ u:InfV,u.key=exactI []/\(encQ u.q).all one?=true/\w = .agg [.bool u.known,.slice u.ea u.ex.length u.ec,.slice u.pa u.pre.length u.pc,.slice u.sa u.suf.length u.sc,.int .i64 u.q.kind,u.q.gv,u.q.sv].toArray/\H=[OwnI u]:=by
 have hex:=exact_any r hT (.slice none 0 0) [] (els_nilT r) (by simp)
 obtain ⟨E,hE⟩ : ∃ E,exactI []=E:=⟨_,rfl⟩
 rw [hE] at hex ⊢
 have hkn:=nk_key
 have hget:=askM_none k hk
 refine Tri.free2 fun R HR=>?_
 refine ae Tryz.func9 Tryz.ntmps9 ?_
 repeat' (first|((with_reducible apply kx_box);rfl;(exact qcl);intro b1;(refine apk ?_))|((with_reducible apply kx_alloc (E:=40));exact ty_zero;(exact qcl);intro b2;(refine apk ?_))|((with_reducible apply kx_mmake 22);intro bm;(refine apk ?_))|((with_reducible apply kx_mins (kt:=22) (et:=59));kernel_rfl;exact (int_keyed Tryz.underlying22);rfl;rfl;rfl;exact hkn _ (by omega);(exact atk);(unfold maxLen;omega);(refine apk ?_))|((with_reducible apply kx_mgetN (kt:=22) (et:=59));kernel_rfl;exact (int_keyed Tryz.underlying22);exact ty_zero;rfl;rfl;exact hkn _ (by omega);(exact atk);exact hget;(refine apk ?_))|(refine acl Tryz.func31 ?_;refine acr (hex) ?_;rintro v' H' ⟨u,hu1,hu2,rfl,rfl⟩;refine apl ?_)|((with_reducible apply kx_storeN);exact ty_size;rfl;rfl;rfl;(exact qsw);exact encI_one hu2;(exact qst);(refine apk ?_))|exact xf|refine aw0 ?_|(refine ap2 ?_ ?_<;>try intro h)|refine aw1 ?_|(refine abx ?_;intro bb)|(refine abz ?_;intro bz)|(refine ahv ?_;intro v' hv')|(refine aac ?_;intro ac cc)|refine aw2 ?_|(refine ap4 ?_ ?_<;>try intro h)|apply True.intro)
 ((with_reducible apply fp_ret);exact res_W rfl rfl atk ty_agg ty_size rfl)
 exact HR.out _ _ _ [OwnI u] atks ⟨u,hu1,hu2,rfl,rfl⟩
theorem askM_no {k:Int} (h:k=1\/8<=k/\k<=13):askM (.int .i64 k)=some (.func (.func 25) #[] #[]):=by
 have:k=1\/k=8\/k=9\/k=10\/k=11\/k=12\/k=13:=by omega
 rcases this with rfl|rfl|rfl|rfl|rfl|rfl|rfl<;>simp [askM,upd,Lit.sameKey]
theorem askM5:askM (.int .i64 5)=some (.func (.func 28) #[] #[]):=by simp [askM,upd,Lit.sameKey]
theorem askM7:askM (.int .i64 7)=some (.func (.func 30) #[] #[]):=by simp [askM,upd,Lit.sameKey]
theorem nkeyM (k:Int) (s0 s1 s2 s3:Nat) (kv:Value) (l:List NoV) (mn mx:Int) (lz:Bool) (g:Int):(NoV.mk k s0 s1 s2 s3 kv l mn mx lz g).key = .mk k [s0,s1,s2,s3] (l.map NoV.key) mn mx lz g:=by simp [NoV.key,nkeys_map]
theorem right_ofI (n:Nd):rightQ (ofI n).m=true:=(of_good (fun _ _=>true) [] n).rt
theorem of_all : ∀ n:NoV,AllN nodeOk n.key->sizN n.key<=60->OfT n
 | .mk k s0 s1 s2 s3 kv l mn mx lz g=>fun h hz r hT hn=>by
  have ih : ∀ x∈l,AllN nodeOk x.key->sizN x.key<=60->OfT x:=fun x _h=>of_all x
  rw [nkeyM] at h hz ⊢
  unfold AllN at h
  unfold nodeOk at h
  unfold sizN at hz
  obtain ⟨⟨hk,hl1,_⟩,hA⟩:=h
  rw [List.length_map] at hl1
  rw [allNs_iff] at hA
  have ih2 : ∀ x∈l,OfT x:=fun x hx=>ih x hx (hA _ (List.mem_map_of_mem hx)) (by have:=sizNs_mem (List.mem_map_of_mem (f:=NoV.key) hx);omega)
  have hn':=hn
  simp only [NoR,noL_iff] at hn'
  obtain ⟨hl,hr,_,_,_,_,_,hk1⟩:=hn'
  have hmm:(l.map NoV.key).map ofI=l.map fun x=>ofI x.key:=by rw [List.map_map];rfl
  unfold ofI
  rw [ofIs_map,hmm]
  by_cases h1:k=1\/(8<=k/\k<=13)
  · rw [if_pos h1]
    exact ofBy_any r _ (goesOf Tryz.func25 (by kernel_rfl) rfl) _ k s0 s1 s2 s3 kv mn mx lz g hk (askM_no h1) (none_any r hT (.mk k s0 s1 s2 s3 kv l mn mx lz g))
  rw [if_neg h1]
  by_cases h3:k=3
  · rw [if_pos h3]
    subst h3
    exact ofSet_any r hT s0 s1 s2 s3 kv l mn mx lz g hn
  rw [if_neg h3]
  by_cases h4:k=4
  · rw [if_pos h4]
    subst h4
    refine ofCat_any r hT s0 s1 s2 s3 kv l mn mx lz g hl hk1 hr ih2 ?_
    have hf:=foldB_kids (l:=l.map NoV.key) (by omega) (exactI [[]])
    rw [ofIs_map,hmm] at hf
    exact hf
  rw [if_neg h4]
  by_cases h5:k=5
  · rw [if_pos h5]
    subst h5
    have hf:=foldO_kids (l:=l.map NoV.key) (by omega) (exactI [])
    rw [ofIs_map,hmm] at hf
    exact ofBy_any r _ (goesOf Tryz.func28 (by kernel_rfl) rfl) _ 5 s0 s1 s2 s3 kv mn mx lz g hk askM5 (alt_of r hT 5 s0 s1 s2 s3 kv l mn mx lz g hl hk1 hr ih2 hf)
  rw [if_neg h5]
  by_cases h67:k=6\/k=7
  · obtain ⟨x,rfl⟩:=List.length_eq_one_iff.1 (hl1 h67)
    have hx:=ih2 x (List.mem_singleton_self _)
    have hxr:=hr x (List.mem_singleton_self _)
    have hzx:sizN x.key<=59:=by
     simp only [List.map_cons,List.map_nil] at hz
     unfold sizNs at hz
     omega
    have hxo:=of_okI x.key
    have hxq:=right_ofI x.key
    show Tri _ _ _ _ _ fun w H => ∃ u:InfV,u.key=(if k=6 then repeatI mn mx (ofI x.key) else if k=7 then ofI x.key else exactI [])/\_
    by_cases h6:k=6
    · rw [if_pos h6]
      subst h6
      have hR : ∀ K,Tri Tryz.prog r 29 [.agg [.int .i64 6,.int .u64 s0,.int .u64 s1,.int .u64 s2,.int .u64 s3,kv,.int .i64 mn,.int .i64 mx,.bool lz,.int .i64 g].toArray] [] (fun w H => ∃ u:InfV,u.key=K/\(encQ u.q).all one?=true/\w = .agg [.bool u.known,.slice u.ea u.ex.length u.ec,.slice u.pa u.pre.length u.pc,.slice u.sa u.suf.length u.sc,.int .i64 u.q.kind,u.q.gv,u.q.sv].toArray/\H=[OwnI u])->Tri Tryz.prog r 9 [.agg [.int .i64 6,.int .u64 s0,.int .u64 s1,.int .u64 s2,.int .u64 s3,kv,.int .i64 mn,.int .i64 mx,.bool lz,.int .i64 g].toArray] [] fun w H => ∃ u:InfV,u.key=K/\(encQ u.q).all one?=true/\w = .agg [.bool u.known,.slice u.ea u.ex.length u.ec,.slice u.pa u.pre.length u.pc,.slice u.sa u.suf.length u.sc,.int .i64 u.q.kind,u.q.gv,u.q.sv].toArray/\H=[OwnI u]:=fun K h=>ofBy_any r _ (goesOf Tryz.func29 (by kernel_rfl) rfl) K 6 s0 s1 s2 s3 kv mn mx lz g hk askM6 h
      refine hR _ ?_
      unfold repeatI
      by_cases m0:mx=0
      · rw [if_pos m0]
        subst m0
        exact repeat0_of r hT 6 s0 s1 s2 s3 kv [x] mn lz g hk1
      rw [if_neg m0]
      by_cases m1:mn=1/\mx=1
      · rw [if_pos m1]
        obtain ⟨rfl,rfl⟩:=m1
        exact repeat1_of r hT 6 s0 s1 s2 s3 kv [] lz g x hl hk1 hxr hx
      rw [if_neg m1]
      by_cases m2:mn<1/\mx=1
      · rw [if_pos m2]
        obtain ⟨m2,rfl⟩:=m2
        exact repeat01_of r hT 6 s0 s1 s2 s3 kv [] mn lz g x hl hk1 hxr hx m2 (fitO_ok (ok_exact (few_one _ _ (by omega))) hxo (by omega) right_all hxq)
      rw [if_neg m2]
      by_cases m3:mn<1
      · rw [if_pos m3]
        exact repeat_of r hT 6 s0 s1 s2 s3 kv mn mx lz g m3 m0 (fun e=>m2 ⟨m3,e⟩)
      rw [if_neg m3]
      obtain ⟨f1,f2⟩:=fit_loose hxo hzx hxq
      exact repeatN_of r hT 6 s0 s1 s2 s3 kv [] mn mx lz g x hl hk1 hxr hx (by omega) m0 m1 (of_fit (by omega)) f1 f2
    · obtain rfl:k=7:=by omega
      rw [if_neg h6,if_pos rfl]
      exact ofBy_any r _ (goesOf Tryz.func30 (by kernel_rfl) rfl) _ 7 s0 s1 s2 s3 kv mn mx lz g hk askM7 (group_of r hT 7 s0 s1 s2 s3 kv [] mn mx lz g x hl hk1 hxr hx)
  · rw [if_neg (by omega),if_neg (by omega)]
    exact ofNo_any r hT k s0 s1 s2 s3 kv mn mx lz g (by omega)
termination_by n=>SizeOf.sizeOf n
decreasing_by
 have:=List.sizeOf_lt_of_mem _h
 simp only [NoV.mk.sizeOf_spec]
 omega
end Go.Proofs.YteknekiclhnkiaaGreatDoor
