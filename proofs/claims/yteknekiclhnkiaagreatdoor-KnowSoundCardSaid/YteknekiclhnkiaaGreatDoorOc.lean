/- know.all, parts, Grams: their contracts. -/
import Derived.Test.YteknekiclhnkiaaGreatDoorVm
import Derived.Test.YteknekiclhnkiaaGreatDoorOb
set_option maxHeartbeats 8000000
set_option maxRecDepth 10000
namespace Go.Proofs.YteknekiclhnkiaaGreatDoor
open Go.RowKit Sx
theorem size_mk (k n:Int) (Gs:List Tx) (S:List Qu):sizeQ (mkQ k n Gs S)<=1+sizeT Gs+sizeQs S:=by
 obtain ⟨h1,h2⟩:=size_sort Gs S
 rcases mkQ_cases k n Gs S with ⟨h,e⟩ | ⟨g,e1,e2,e⟩ | ⟨q,e1,e2,e⟩ | ⟨_,_,e⟩
 · rw [e];simp only [sizeQ];omega
 · rw [e];rw [e1] at h1;simp only [sizeQ,sizeQs];omega
 · rw [e];rw [e2] at h2;simp only [sizeQs] at h2;omega
 · rw [e];simp only [sizeQ,sizeQs,sizeT];omega
theorem size_andQ (l:List Qu):sizeQ (andQ l)<=1+sizeQs l:=by
 have h:=size_flat size_gA l
 unfold andQ
 split
 · simp only [sizeQ,sizeQs,sizeT];omega
 · have:=size_mk 3 1 (l.flatMap gA) (l.flatMap sA);omega
theorem size_orQ (l:List Qu):sizeQ (orQ l)<=1+sizeQs l:=by
 have h:=size_flat size_gO l
 unfold orQ
 split
 · simp only [sizeQ,sizeQs,sizeT];omega
 · have:=size_mk 4 2 (l.flatMap gO) (l.flatMap sO);omega
theorem lit_els {r:Hp} {b n:Nat} {l:List QuV} {c:List Value} {E:TypeId} {fz:Nat × Nat} (h:r b=some (.cells c.toArray E fz)) (hc:l.flatMap encQ=c) (hn:l.length=n) (hm:n<=1000):Els r 3 encQ (.slice (some ⟨b,0,none⟩) n n) l:=by
 subst hn
 refine ⟨fun _=>rfl,flat_len (sz:=3) (fun _=>rfl) l,by unfold maxLen;omega,.inr ⟨b,0,_,c.toArray,E,fz,rfl,Nat.le_refl _,h,fun j hj=>?_⟩⟩
 subst hc
 rw [Nat.zero_add,List.getElem?_toArray,List.getElem?_eq_getElem hj]
theorem lit_txs {r:Hp} {b n:Nat} {l:List Tx} {c:List Value} {E:TypeId} {fz:Nat × Nat} (h:r b=some (.cells c.toArray E fz)) (hc:l.flatMap encTx=c) (hn:l.length=n) (hm:n<=1000):Els r 1 encTx (.slice (some ⟨b,0,none⟩) n n) l:=by
 subst hn
 refine ⟨fun _=>rfl,flat_len (sz:=1) (fun _=>rfl) l,by unfold maxLen;omega,.inr ⟨b,0,_,c.toArray,E,fz,rfl,Nat.le_refl _,h,fun j hj=>?_⟩⟩
 subst hc
 rw [Nat.zero_add,List.getElem?_toArray,List.getElem?_eq_getElem hj]
theorem andLit_any (r:Hp) (hT:TabR r) {b n:Nat} (l:List QuV) {c:List Value} {E:TypeId} {fz:Nat × Nat} (h:r b=some (.cells c.toArray E fz)) (hc:l.flatMap encQ=c) (hn:l.length=n) (hm:n<=1000) (hl : ∀ q∈l,QuR r q) (hr:Right (l.map QuV.key)) (hs:sizeQs (l.map QuV.key)<=8000000):Tri Tryz.prog r 37 [.slice (some ⟨b,0,none⟩) n n] [] fun w H => ∃ q:QuV,q.key=andQ (l.map QuV.key)/\(encQ q).all one?=true/\w = .agg [.int .i64 q.kind,q.gv,q.sv].toArray/\H=[OwnQ q] :=
 and_any r hT _ l (lit_els h hc hn hm) hl (told_right (right_sA hr)) hs
theorem orLit_any (r:Hp) (hT:TabR r) {b n:Nat} (l:List QuV) {c:List Value} {E:TypeId} {fz:Nat × Nat} (h:r b=some (.cells c.toArray E fz)) (hc:l.flatMap encQ=c) (hn:l.length=n) (hm:n<=1000) (hl : ∀ q∈l,QuR r q) (hr:Right (l.map QuV.key)) (hs:sizeQs (l.map QuV.key)<=8000000):Tri Tryz.prog r 66 [.slice (some ⟨b,0,none⟩) n n] [] fun w H => ∃ q:QuV,q.key=orQ (l.map QuV.key)/\(encQ q).all one?=true/\w = .agg [.int .i64 q.kind,q.gv,q.sv].toArray/\H=[OwnQ q] :=
 or_any r hT _ l (lit_els h hc hn hm) hl (told_right (right_sO hr)) hs
theorem right_n2:rightQ (.mk 2 [] [])=true:=right_iff.2 .none
theorem right_two {a b:Qu} (ha:rightQ a=true) (hb:rightQ b=true):Right [a,b]:=fun q hq=>by
 rcases List.mem_cons.1 hq with rfl|hq
 · exact ha
 · rw [List.mem_singleton.1 hq];exact hb
theorem two_read {r:Hp} {a b:QuV} (ha:QuR r a) (hb:QuR r b) : ∀ q∈[a,b],QuR r q:=fun q hq=>by
 rcases List.mem_cons.1 hq with rfl|hq
 · exact ha
 · rw [List.mem_singleton.1 hq];exact hb
theorem els_nilQ (r:Hp):Els r 3 encQ (.slice none 0 0) ([]:List QuV):=⟨fun _=>rfl,rfl,Nat.zero_le _,.inl ⟨⟨none,rfl⟩,rfl⟩⟩
theorem right_all:rightQ allQ=true:=right_iff.2 .all
theorem right_conj {G:List Tx} (h : ∀ g∈G,g.length=3):rightQ (conj G)=true:=mk_right3 h fun s hs=>by cases hs
theorem right_gramsQ (G:List Tx):rightQ (gramsQ G)=true:=by
 by_cases h : ∀ g∈G,g.length=3
 · rw [gramsQ_conj h];exact right_conj h
 · unfold gramsQ
   rw [if_pos]
   · exact right_n2
   · rw [List.any_eq_true]
     refine Classical.byContradiction fun hn=>h fun g hg=>Classical.byContradiction fun h3=>hn ⟨g,hg,by simp [h3]⟩
theorem right_or2 {a b:Qu} (ha:rightQ a=true) (hb:rightQ b=true):rightQ (orQ [a,b])=true:=right_orQ (right_two ha hb)
theorem right_rowF : ∀ (row:List Tx) {q:Qu},rightQ q=true->rightQ (row.foldl (fun q s=>orQ [q,gramsQ (partsT s)]) q)=true
 | [],_,h=>h
 | _s::row,_,h=>right_rowF row (right_or2 h (right_gramsQ _))
theorem right_gramsRow (row:List Tx):rightQ (gramsRow row)=true:=by
 unfold gramsRow
 split
 · exact right_all
 · exact right_rowF row right_n2
theorem size_gramsQ (G:List Tx):sizeQ (gramsQ G)<=2+sizeT G:=by
 unfold gramsQ
 split
 · simp only [sizeQ,sizeT,sizeQs];omega
 · have:=size_andQ [.mk 3 G []]
   simp only [sizeQs,sizeQ] at this
   omega
theorem partsT_lenN : ∀ s:Tx,(partsT s).length=s.length - 2
 | []=>rfl
 | [_]=>rfl
 | [_,_]=>rfl
 | a::b::c::l=>by
  have:=partsT_lenN (b::c::l)
  simp only [partsT,List.length_cons] at this ⊢
  omega
theorem partsT_get : ∀ (s:Tx) (m:Nat) (h:m<(partsT s).length),(partsT s)[m]=(s.drop m).take 3
 | [],m,h=>absurd h (by simp [partsT])
 | [_],m,h=>absurd h (by simp [partsT])
 | [_,_],m,h=>absurd h (by simp [partsT])
 | a::b::c::l,0,h=>rfl
 | a::b::c::l,m+1,h=>by
  have:=partsT_get (b::c::l) m (by simpa [partsT] using h)
  simp only [partsT,List.getElem_cons_succ,List.drop_succ_cons]
  exact this
theorem size_lenT : ∀ {G:List Tx},(∀ g∈G,g.length=3)->sizeT G=4*G.length
 | [],_=>rfl
 | g::G,h=>by
  have:=size_lenT (G:=G) fun x hx=>h x (List.mem_cons_of_mem _ hx)
  simp only [sizeT,List.length_cons,h g (by simp),this];omega
theorem size_parts3 (s:Tx):sizeT (partsT s)=4*(s.length - 2):=by rw [size_lenT partsT_len3,partsT_lenN]
theorem size_or2 (a b:Qu):sizeQ (orQ [a,b])<=1+(sizeQ a+sizeQ b):=by
 have:=size_orQ [a,b]
 simp only [sizeQs] at this;omega
theorem size_step (q:Qu) {s:Tx} (h:3<=s.length):sizeQ (orQ [q,gramsQ (partsT s)])<=sizeQ q+4*(s.length+1):=by
 have h1:=size_or2 q (gramsQ (partsT s))
 have h2:=size_gramsQ (partsT s)
 rw [size_parts3] at h2
 omega
theorem size_rowF : ∀ (row:List Tx) (q:Qu),(∀ s∈row,3<=s.length)->sizeQ (row.foldl (fun q s=>orQ [q,gramsQ (partsT s)]) q)<=sizeQ q+4*sizeT row
 | [],q,_=>by simp [sizeT]
 | s::row,q,h=>by
  have h1:=size_rowF row (orQ [q,gramsQ (partsT s)]) fun x hx=>h x (List.mem_cons_of_mem _ hx)
  have h2:=size_step q (h s (by simp))
  simp only [List.foldl_cons,sizeT]
  omega
theorem size_gramsRow (row:List Tx):sizeQ (gramsRow row)<=1+4*sizeT row:=by
 unfold gramsRow
 split
 · simp [allQ,sizeQ,sizeT,sizeQs]
 · rename_i h
   rw [Bool.not_eq_true,List.any_eq_false] at h
   have:=size_rowF row (.mk 2 [] []) fun s hs=>by have:=h s hs;simp at this;omega
   simp only [sizeQ,sizeT,sizeQs] at this
   omega
theorem kall_any (r:Hp) (hT:TabR r):Tri Tryz.prog r 49 [] [] fun w H => ∃ q:QuV,q.key=allQ/\(encQ q).all one?=true/\w = .agg [.int .i64 q.kind,q.gv,q.sv].toArray/\H=[OwnQ q]:=by
 have ha:=and_any r hT (.slice none 0 0) [] (els_nilQ r) (fun q hq=>by cases hq) (fun x hx=>by cases hx) (by decide)
 rw [show andQ (([]:List QuV).map QuV.key)=allQ from rfl] at ha
 refine Tri.free2 fun R HR=>?_
 refine ae Tryz.func49 Tryz.ntmps49 ?_
 repeat' (first|((with_reducible apply kx_alloc (E:=38));exact ty_zero;(exact qcl);intro b2;(refine apk ?_))|(refine acl Tryz.func37 ?_;refine acr (ha) ?_;rintro v' H' ⟨q',hq1,hq2,rfl,rfl⟩;refine apl ?_)|((with_reducible apply kx_storeN);exact ty_size;rfl;rfl;rfl;(exact qsw);exact hq2;(exact qst);(refine apk ?_))|exact xf|refine aw0 ?_|(refine ap2 ?_ ?_<;>try intro h)|refine aw1 ?_|(refine abx ?_;intro bb)|(refine abz ?_;intro bz)|(refine ahv ?_;intro v' hv')|(refine aac ?_;intro ac cc)|refine aw2 ?_|(refine ap4 ?_ ?_<;>try intro h)|apply True.intro)
 ((with_reducible apply fp_ret);exact res_W rfl rfl atk ty_agg ty_size rfl)
 exact HR.out _ _ _ [OwnQ q'] atks ⟨q',hq1,hq2,rfl,rfl⟩
theorem kparts_any (r:Hp) (s:Tx):Tri Tryz.prog r 67 [.string (bs s)] [] fun w H => ∃ B,w = .func (.func 109) #[] #[.pointer (some ⟨B,0,none⟩)]/\H=[pt B (.cells [.string (bs s)].toArray 9 (0,0))]:=by
 refine Tri.free2 fun R HR=>?_
 refine ae Tryz.func67 Tryz.ntmps67 ?_
 repeat' (first|((with_reducible apply kx_box);rfl;(exact qcl);intro b1;(refine apk ?_))|exact xf|refine aw0 ?_|(refine ap2 ?_ ?_<;>try intro h)|refine aw1 ?_|(refine abx ?_;intro bb)|(refine abz ?_;intro bz)|(refine ahv ?_;intro v' hv')|(refine aac ?_;intro ac cc)|refine aw2 ?_|(refine ap4 ?_ ?_<;>try intro h)|apply True.intro)
 ((with_reducible apply fp_ret);exact res_1 rfl rfl)
 exact HR.out _ _ _ [_] atks ⟨b1,rfl,rfl⟩
theorem kparts_seq (r:Hp) (B:Nat) (s:Tx) (hs:s.length<=100000000):Seq Tryz.prog r 109 [.pointer (some ⟨B,0,none⟩)] tellT (partsT s) [pt B (.cells [.string (bs s)].toArray 9 (0,0))] []:=by
 intro k J Jx hy
 obtain ⟨X,hX⟩ : ∃ X,partsT s=X:=⟨_,rfl⟩
 have hXl:X.length=s.length - 2:=by rw [← hX,partsT_lenN]
 have hXg : ∀ (m:Nat) (h:m<X.length),X[m]=(s.drop m).take 3:=by
  subst hX
  exact partsT_get s
 rw [hX] at hy ⊢
 refine Tri.free2 fun R HR=>?_
 refine ae Tryz.func109 Tryz.ntmps109 ?_
 repeat' (first|exact xf|refine aw0 ?_|(refine ap2 ?_ ?_<;>try intro h)|refine aw1 ?_|(refine abx ?_;intro bb)|(refine abz ?_;intro bz)|(refine ahv ?_;intro v' hv')|(refine aac ?_;intro ac cc)|refine aw2 ?_|(refine ap4 ?_ ?_<;>try intro h)|apply True.intro)
 refine sw_loop (fun gm t H' => ∃ (m:Nat),gm=X.length+1 - m/\(m<=X.length)/\(∃ G,Takes [J m,pt B (.cells [.string (bs (s.drop m))].toArray 9 (0,0))] H' G)/\Sls t 13 [(0,.func (.yield k) #[] #[]),(1,.pointer (some ⟨B,0,none⟩))]) _ ⟨0,rfl,Nat.zero_le _,⟨_,by rw [List.drop_zero];exact atks⟩,asls⟩ ?_
 rintro gm t H' ⟨m,rfl,hm,⟨G,hp⟩,hs'⟩
 revert t;refine sls_all ?_;iterate 11 intro uu'
 refine sw_takeG hp ?_;clear hp
 have hdl:(s.drop m).length=s.length - m:=List.length_drop
 by_cases hlt:m<X.length
 · have hyp:=hy m hlt
   rw [hXg m hlt,show tellT ((s.drop m).take 3)=[.string (bs ((s.drop m).take 3))] from rfl] at hyp
   have hdd:(s.drop m).drop 1=s.drop (m+1):=by rw [List.drop_drop]
   obtain ⟨D,hD⟩ : ∃ D,s.drop m=D:=⟨_,rfl⟩
   rw [hD] at hdl hyp hdd
   rw [hD]
   have hsl:List.take ((D.length:Int).toNat - Int.toNat 1) (List.drop (Int.toNat 1) D)=D.drop 1:=by
    show List.take (D.length - 1) (D.drop 1)=_
    rw [List.take_of_length_le (by simp)]
   repeat' (first|(rw [hsl])|((with_reducible apply kx_yield);rfl;exact (hyp);rfl;(exact atk);all_goals (refine apk ?_))|exact xf|refine aw0 ?_|(refine ap2 ?_ ?_<;>try intro h)|refine aw1 ?_|(refine abx ?_;intro bb)|(refine abz ?_;intro bz)|(refine ahv ?_;intro v' hv')|(refine aac ?_;intro ac cc)|refine aw2 ?_|(refine ap4 ?_ ?_<;>try intro h)|apply True.intro)
   · exact ⟨_,by omega,m+1,rfl,by omega,⟨_,by rw [← hdd];exact atks⟩,asls⟩
   · ((with_reducible apply fp_ret);exact res_0 rfl)
     exact HR.out _ _ _ [Jx (m+1)] atks (.inr ⟨m,[],hlt,rfl⟩)
 · obtain rfl:m=X.length:=by omega
   repeat' (first|exact xf|refine aw0 ?_|(refine ap2 ?_ ?_<;>try intro h)|refine aw1 ?_|(refine abx ?_;intro bb)|(refine abz ?_;intro bz)|(refine ahv ?_;intro v' hv')|(refine aac ?_;intro ac cc)|refine aw2 ?_|(refine ap4 ?_ ?_<;>try intro h)|apply True.intro)
   ((with_reducible apply fp_end);exact res_0 rfl)
   exact HR.out _ _ _ [J X.length] atks (.inl rfl)
theorem or2_any (r:Hp) (hT:TabR r) (bz:Nat) (p q:QuV) (hp:QuR r p) (hq:QuR r q) (h:r bz=some (.cells [.int .i64 p.kind,p.gv,p.sv,.int .i64 q.kind,q.gv,q.sv].toArray 38 (0,0))) (h1:rightQ p.key=true) (h2:rightQ q.key=true) (hs:sizeQ p.key+sizeQ q.key<=8000000):Tri Tryz.prog r 66 [.slice (some ⟨bz,0,none⟩) 2 2] [] fun w H => ∃ u:QuV,u.key=orQ [p.key,q.key]/\(encQ u).all one?=true/\w = .agg [.int .i64 u.kind,u.gv,u.sv].toArray/\H=[OwnQ u]:=by
 have hc:=orLit_any r hT (n:=2) [p,q] h rfl rfl (by omega) (two_read hp hq) (by rw [List.map_cons,List.map_singleton];exact right_two h1 h2) (by rw [List.map_cons,List.map_singleton];simp only [sizeQs];omega)
 exact hc
theorem or0_any (r:Hp) (hT:TabR r):Tri Tryz.prog r 66 [.slice none 0 0] [] fun w H => ∃ u:QuV,u.key = .mk 2 [] []/\(encQ u).all one?=true/\w = .agg [.int .i64 u.kind,u.gv,u.sv].toArray/\H=[OwnQ u]:=by
 have ha:=or_any r hT (.slice none 0 0) [] (els_nilQ r) (fun q hq=>by cases hq) (fun x hx=>by cases hx) (by decide)
 rw [show orQ (([]:List QuV).map QuV.key) = .mk 2 [] [] from rfl] at ha
 exact ha
theorem qgrams_any (r:Hp) (hT:TabR r) (v:Value) (G:List Tx) (hv:Els r 1 encTx v G) (hs:sizeT G<=7000000):Tri Tryz.prog r 68 [v] [] fun w H => ∃ q:QuV,q.key=gramsQ G/\(encQ q).all one?=true/\w = .agg [.int .i64 q.kind,q.gv,q.sv].toArray/\H=[OwnQ q]:=grams_any r hT v G hv hs
theorem one3 {q:QuV} (h:(encQ q).all one?=true):([.int .i64 q.kind,q.gv,q.sv]:List Value).all one?=true:=h
theorem take_any3 {row:List Tx} (h:row.any (fun s=>decide (s.length<3))=false) : ∀ s∈row,3<=s.length:=fun s hs=>by
 rw [List.any_eq_false] at h
 have:=h s hs
 simp at this;omega
def rowF (row:List Tx):Qu:=row.foldl (fun q s=>orQ [q,gramsQ (partsT s)]) (.mk 2 [] [])
theorem rowF_snoc (A:List Tx) (s:Tx):rowF (A++[s])=orQ [rowF A,gramsQ (partsT s)]:=by unfold rowF;rw [List.foldl_append];rfl
theorem rowF_right (A:List Tx):rightQ (rowF A)=true:=right_rowF A right_n2
theorem rowF_size {A:List Tx} (h : ∀ s∈A,3<=s.length):sizeQ (rowF A)<=1+4*sizeT A:=by
 have:=size_rowF A (.mk 2 [] []) h
 simp only [sizeQ,sizeT,sizeQs] at this
 unfold rowF;omega
theorem sizeT_takeS (l:List Tx) (n:Nat):sizeT (l.take n)<=sizeT l:=by
 have:=sizeT_app (l.take n) (l.drop n)
 rw [List.take_append_drop] at this;omega
theorem kgrams_any (r:Hp) (hT:TabR r) (v:Value) (row:List Tx) (hv:Els r 1 encTx v row) (hs:sizeT row<=1500000):Tri Tryz.prog r 38 [v] [] fun w H => ∃ q:QuV,q.key=gramsRow row/\(encQ q).all one?=true/\w = .agg [.int .i64 q.kind,q.gv,q.sv].toArray/\H=[OwnQ q]:=by
 have hlm:=maxI hv.2.2.1
 have hrl:=sizeT_len row
 have ho0:=or0_any r hT
 have hall:=kall_any r hT
 have hgr : ∀ r' g (a:Option Addr) (c:Nat) (G:List Tx),sub r r'->sub g r'->TxC a c G g->sizeT G<=7000000->Tri Tryz.prog r' 68 [.slice a G.length c] [] fun w H => ∃ q:QuV,q.key=gramsQ G/\(encQ q).all one?=true/\w = .agg [.int .i64 q.kind,q.gv,q.sv].toArray/\H=[OwnQ q]:=fun r' g a c G h1 h2 h3 h4=>qgrams_any r' (hT.mono h1) _ G (txC_els h3 h2) h4
 refine Tri.free2 fun R HR=>?_
 refine ae Tryz.func38 Tryz.ntmps38 ?_
 repeat' (first|((with_reducible apply kx_alloc (E:=38));exact ty_zero;(exact qcl);intro b2;(refine apk ?_))|exact xf|refine aw0 ?_|(refine ap2 ?_ ?_<;>try intro h)|refine aw1 ?_|(refine abx ?_;intro bb)|(refine abz ?_;intro bz)|(refine ahv ?_;intro v' hv')|(refine aac ?_;intro ac cc)|refine aw2 ?_|(refine ap4 ?_ ?_<;>try intro h)|apply True.intro)
 repeat' (first|(refine acl Tryz.func66 ?_;refine acr (ho0) ?_;rintro v' H' ⟨q0,hq1,hq2,rfl,rfl⟩;refine apl ?_)|((with_reducible apply kx_alloc (E:=38));exact ty_zero;(exact qcl);intro b3;(refine apk ?_))|((with_reducible apply kx_storeN);exact ty_size;rfl;rfl;rfl;(exact qsw);exact hq2;(exact qst);(refine apk ?_))|exact xf|refine aw0 ?_|(refine ap2 ?_ ?_<;>try intro h)|refine aw1 ?_|(refine abx ?_;intro bb)|(refine abz ?_;intro bz)|(refine ahv ?_;intro v' hv')|(refine aac ?_;intro ac cc)|refine aw2 ?_|(refine ap4 ?_ ?_<;>try intro h)|apply True.intro)
 refine sw_loop (fun gm t H' => ∃ (i:Nat) (q:QuV) (u7 u21:Value),gm=row.length+1 - i/\(i<=row.length)/\((row.take i).any (fun s=>decide (s.length<3))=false)/\(q.key=rowF (row.take i))/\((encQ q).all one?=true)/\(∃ G,Takes [pt b2 (.cells [.int .i64 0,.slice none 0 0,.slice none 0 0].toArray 38 (0,0)),pt b3 (.cells [.int .i64 q.kind,q.gv,q.sv].toArray 38 (0,0)),OwnQ q] H' G)/\Sls t 33 [(2,.pointer (some ⟨b2,0,none⟩)),(3,.pointer (some ⟨b3,0,none⟩)),(7,u7),(9,v),(10,.int .i64 row.length),(11,.int .i64 i),(21,u21)]) _ ⟨0,q0,_,_,rfl,Nat.zero_le _,rfl,hq1,hq2,⟨_,atks⟩,asls⟩ ?_
 rintro gm t H' ⟨i,q,u7,u21,rfl,hi,h3,hqk,hqo,⟨G,hp⟩,hs'⟩
 revert t;refine sls_all ?_;iterate 26 intro uu'
 refine sw_takeG hp ?_;clear hp
 by_cases hlt:i<row.length
 · obtain ⟨s,hx⟩ : ∃ s,row.getD i default=s:=⟨_,rfl⟩
   have hsm:s∈row:=hx ▸ getD_memU hlt
   have hsl:=sizeT_mem hsm
   have htk:row.take (i+1)=row.take i++[s]:=by rw [take_getD (d:=default) hlt,hx]
   have hts:=sizeT_takeS row (i+1)
   rw [htk,sizeT_app] at hts
   simp only [sizeT] at hts
   by_cases h4:s.length<3
   · have hrow:gramsRow row=allQ:=by
      unfold gramsRow
      rw [if_pos]
      exact List.any_eq_true.2 ⟨s,hsm,by simp [h4]⟩
     rw [hrow] at HR
     repeat' (first|(rw [hx])|(refine acl Tryz.func49 ?_;refine acr (hall) ?_;rintro v' H' ⟨q5,hq51,hq52,rfl,rfl⟩;refine apl ?_)|((with_reducible apply kx_storeN);exact ty_size;rfl;rfl;rfl;(exact qsw);exact hq52;(exact qst);(refine apk ?_))|exact xf|refine aw0 ?_|(refine ap2 ?_ ?_<;>try intro h)|refine aw1 ?_|(refine abx ?_;intro bb)|(refine abz ?_;intro bz)|(refine ahv ?_;intro v' hv')|(refine aac ?_;intro ac cc)|refine aw2 ?_|(refine ap4 ?_ ?_<;>try intro h)|apply True.intro)
     ((with_reducible apply fp_ret);exact res_W rfl rfl atk ty_agg ty_size rfl)
     exact HR.out _ _ _ [OwnQ q5] atks ⟨q5,hq51,hq52,rfl,rfl⟩
   · have hpa:=kparts_any r s
     have hseq:=fun B=>kparts_seq r B s (by omega)
     have hps:=size_parts3 s
     have hpl:=partsT_lenN s
     have hgq:=size_gramsQ (partsT s)
     have hrs:=rowF_size (take_any3 h3)
     have hor : ∀ r' bz g1 g2 (q2:QuV),sub r r'->q2.key=gramsQ (partsT s)->OwnQ q g1->sub g1 r'->OwnQ q2 g2->sub g2 r'->r' bz=some (.cells [.int .i64 q.kind,q.gv,q.sv,.int .i64 q2.kind,q2.gv,q2.sv].toArray 38 (0,0))->Tri Tryz.prog r' 66 [.slice (some ⟨bz,0,none⟩) 2 2] [] fun w H => ∃ u:QuV,u.key=rowF (row.take (i+1))/\(encQ u).all one?=true/\w = .agg [.int .i64 u.kind,u.gv,u.sv].toArray/\H=[OwnQ u]:=fun r' bz g1 g2 q2 h1 hk2 h5 h6 h7 h8 h9=>by
      have h:=or2_any r' (hT.mono h1) bz q q2 (own_read h5 h6) (own_read h7 h8) h9 (by rw [hqk];exact rowF_right _) (by rw [hk2];exact right_gramsQ _) (by rw [hqk,hk2];omega)
      rw [hqk,hk2,← rowF_snoc,← htk] at h
      exact h
     have h5:(row.take (i+1)).any (fun s=>decide (s.length<3))=false:=by rw [htk,List.any_append,h3];simp;omega
     obtain ⟨X,hX⟩ : ∃ X,partsT s=X:=⟨_,rfl⟩
     rw [hX] at hseq hps hpl hgq hor
     repeat' (first|(rw [hx])|((with_reducible apply kx_alloc (E:=34));exact ty_zero;(exact qcl);intro b6;(refine apk ?_))|(refine acl Tryz.func67 ?_;refine acr (hpa) ?_;rintro v' H' ⟨B,rfl,rfl⟩;refine apl ?_)|exact xf|refine aw0 ?_|(refine ap2 ?_ ?_<;>try intro h)|refine aw1 ?_|(refine abx ?_;intro bb)|(refine abz ?_;intro bz)|(refine ahv ?_;intro v' hv')|(refine aac ?_;intro ac cc)|refine aw2 ?_|(refine ap4 ?_ ?_<;>try intro h)|apply True.intro)
     refine sw_put (A:=TxC none 0 []) (RowC.nil _ _) ?_
     refine sw_range rfl (goesOf Tryz.func109 (by kernel_rfl) rfl) (hseq B) atks (fun _=>rfl)
      (fun j H => ∃ (a:Option Addr) (c':Nat),∃ G,Takes [pt b6 (.cells [.slice a (X.take j).length c'].toArray 34 (0,0)),TxC a c' (X.take j),pt b2 (.cells [.int .i64 0,.slice none 0 0,.slice none 0 0].toArray 38 (0,0)),pt b3 (.cells [.int .i64 q.kind,q.gv,q.sv].toArray 38 (0,0)),OwnQ q] H G)
      (fun _ _ _=>False) ?_ ?_ ?_ (fun _ _ _ _ h=>h.elim)
     · exact ⟨none,0,_,by (exact atks)⟩
     · rintro kk j hi H ⟨a,c',G,hp⟩
       obtain ⟨y,hy⟩ : ∃ y,X[j]=y:=⟨_,rfl⟩
       have htk:X.take (j+1)=X.take j++[y]:=by rw [List.take_succ_eq_append_getElem hi,hy]
       have htl:(X.take j).length<=X.length:=by rw [List.length_take];omega
       rw [hy,show tellT y=[.string (bs y)] from rfl,pars1]
       refine sw_takeG hp ?_
       clear hp
       obtain ⟨Y,hY⟩ : ∃ Y,X.take j=Y:=⟨_,rfl⟩
       rw [hY] at htl htk ⊢
       clear hY
       (refine apk ?_)
       repeat' (first|(first|((with_reducible apply kx_append1);exact ty_el;exact ty_inf;rfl;rfl;rfl;(exact atk);(exact atk);rfl;omega;intro a' c';(refine apk ?_))|((with_reducible apply kx_appendN);exact ty_el;exact ty_inf;rfl;rfl;rfl;rfl;(exact atk);(exact atk);rfl;rfl;omega;intro a' c';(refine apk ?_)))|exact xf|refine aw0 ?_|(refine ap2 ?_ ?_<;>try intro h)|refine aw1 ?_|(refine abx ?_;intro bb)|(refine abz ?_;intro bz)|(refine ahv ?_;intro v' hv')|(refine aac ?_;intro ac cc)|refine aw2 ?_|(refine ap4 ?_ ?_<;>try intro h)|apply True.intro)
       refine ⟨a',c',?_⟩
       apply Exists.intro
       rw [htk,txC_snoc,List.length_append,List.length_singleton]
       (exact atks)
     · rintro H ⟨a,c',G,hp⟩
       rw [List.take_length] at hp
       refine sw_takeG hp ?_
       clear hp
       repeat' (first|((with_reducible apply sw_draw (id:=11) 5 [(0,true),(1,true),(2,false),(3,false),(4,false)] [(5,false)] [(b3,.cells [.int .i64 q.kind,q.gv,q.sv].toArray 38 (0,0)),(b6,.cells [.slice a X.length c'].toArray 34 (0,0))]);kernel_rfl;(exact atks);kernel_rfl;intro r' hl')|((with_reducible apply pi_pur);rfl;(exact qwt);(with_reducible apply pu_ldP);rfl;(first|assumption|exact Lent.h1 hl'|exact Lent.h2 hl'|exact Lent.h3 hl');(simp only [cut,List.drop_zero,List.take_succ_cons,List.take_zero];rfl);rfl;(refine apk ?_))|((with_reducible refine swo_isCall 68 ?_);(with_reducible apply kx_lendC (A:=TxC a c' X));(exact atk);intro r1 g1 hr1 hg1 hA1;(refine acl Tryz.func68 ?_;refine acr (hgr r1 g1 a c' X (Sx.sub.trans hl'.1 hr1) hg1 hA1 (by omega)) ?_;rintro v' H' ⟨q2,hq21,hq22,rfl,rfl⟩;refine apl ?_))|(first|((with_reducible apply kx_bs1);exact ty_el;exact ty_inf;rfl;rfl;rfl;intro bz;(refine apk ?_))|((with_reducible apply kx_bsN);exact ty_el;exact ty_inf;rfl;rfl;rfl;intro bz;(refine apk ?_)))|((with_reducible refine swo_isCall 66 ?_);(with_reducible apply kx_lendC (A:=OwnQ q));(exact atk);intro r1 g1 hr1 hg1 hA1;(with_reducible apply kx_lendC (A:=OwnQ q2));(exact atk);intro r2 g2 hr2 hg2 hA2;(with_reducible apply kx_lend [(bz,.cells [.int .i64 q.kind,q.gv,q.sv,.int .i64 q2.kind,q2.gv,q2.sv].toArray 38 (0,0))]);(exact atks);intro r5 hl5;(refine acl Tryz.func66 ?_;refine acr (hor r5 bz g1 g2 q2 (Sx.sub.trans hl'.1 (Sx.sub.trans hr1 (Sx.sub.trans hr2 hl5.1))) hq21 hA1 (fun b o e=>hl5.1 b o (hr2 b o (hg1 b o e))) hA2 (fun b o e=>hl5.1 b o (hg2 b o e)) (Lent.h1 hl5)) ?_;rintro v' H' ⟨q3,hq31,hq32,rfl,rfl⟩;refine apl ?_))|((with_reducible apply kx_storeN);exact ty_size;rfl;rfl;rfl;(exact qsw);exact hq32;(exact qst);(refine apk ?_))|exact xf|refine aw0 ?_|(refine ap2 ?_ ?_<;>try intro h)|refine aw1 ?_|(refine abx ?_;intro bb)|(refine abz ?_;intro bz)|(refine ahv ?_;intro v' hv')|(refine aac ?_;intro ac cc)|refine aw2 ?_|(refine ap4 ?_ ?_<;>try intro h)|apply True.intro)
       exact ⟨_,by omega,i+1,q3,_,_,rfl,by omega,h5,hq31,hq32,⟨_,atks⟩,asls⟩
 · obtain rfl:i=row.length:=by omega
   rw [List.take_length] at hqk h3
   have hrow:gramsRow row=rowF row:=by unfold gramsRow;rw [h3];rfl
   rw [hrow] at HR
   repeat' (first|((with_reducible apply kx_storeN);exact ty_size;rfl;rfl;rfl;(exact qsw);exact hqo;(exact qst);(refine apk ?_))|exact xf|refine aw0 ?_|(refine ap2 ?_ ?_<;>try intro h)|refine aw1 ?_|(refine abx ?_;intro bb)|(refine abz ?_;intro bz)|(refine ahv ?_;intro v' hv')|(refine aac ?_;intro ac cc)|refine aw2 ?_|(refine ap4 ?_ ?_<;>try intro h)|apply True.intro)
   ((with_reducible apply fp_ret);exact res_W rfl rfl atk ty_agg ty_size rfl)
   exact HR.out _ _ _ [OwnQ q] atks ⟨q,hqk,hqo,rfl,rfl⟩
end Go.Proofs.YteknekiclhnkiaaGreatDoor
