/- (*query.gathering).query: its contract. -/
import Derived.Test.YteknekiclhnkiaaGreatDoorVi
set_option maxHeartbeats 8000000
set_option maxRecDepth 10000
namespace Go.Proofs.YteknekiclhnkiaaGreatDoor
open Go.RowKit Sx
theorem encQ_one {r:Hp} {q:QuV} (h:QuR r q):(encQ q).all one?=true:=by
 obtain ⟨h1,h2,_⟩:=quR_iff.1 h
 simp only [encQ,List.all_cons,List.all_nil,h1.one,h2.one,Bool.and_true];rfl
theorem encQ_ones {r:Hp} : ∀ {l:List QuV},(∀ q∈l,QuR r q)->(l.flatMap encQ).all one?=true
 | [],_=>rfl
 | q::l,h=>by rw [List.flatMap_cons,List.all_append,encQ_one (h q (by simp)),encQ_ones fun x hx=>h x (by simp [hx])];rfl
theorem ownL_nil:OwnL [] emp:=ownL_all.2 rfl
theorem ownL_snoc {Z:List QuV} {z:QuV} : ∀ h,all [OwnL Z,OwnQ z] h->OwnL (Z++[z]) h:=fun h e=>by
 obtain ⟨x,y,dd,rfl,h1,h2⟩:=e
 refine ownL_all.2 ?_
 rw [List.map_append]
 exact all_app.2 ⟨x,y,dd,rfl,ownL_all.1 h1,h2⟩
theorem own_mk {k:Int} {gv sv:Value} {gs:List Tx} {Z:List QuV} (hk:KindR k) : ∀ h,all [RowC 9 1 gv gs.length (gs.flatMap encTx),RowC 38 3 sv Z.length (Z.flatMap encQ),OwnL Z] h->OwnQ (.mk k gv gs sv Z) h:=fun h e=>by
 simp only [OwnQ]
 exact ⟨hk,e⟩
def CopyT (q:QuV):Prop := ∀ r:Hp,QuR r q->Tri Tryz.prog r 105 [.agg (encQ q).toArray] [] fun w H => ∃ q':QuV,q'.key=q.key/\(encQ q').all one?=true/\w = .agg (encQ q').toArray/\H=[OwnQ q']
theorem copied_of (r:Hp) (q:QuV) (hq:QuR r q) (hs:sizeQ q.key<=9000000) (ih : ∀ s∈q.subs,CopyT s):Tri Tryz.prog r 105 [.agg (encQ q).toArray] [] fun w H => ∃ q':QuV,q'.key=q.key/\(encQ q').all one?=true/\w = .agg (encQ q').toArray/\H=[OwnQ q']:=by
 have hk:=quR_kind hq
 obtain ⟨h1,h2,h3⟩:=quR_iff.1 hq
 have hkey:=key_mk q.kind q.gv q.grams q.sv q.subs
 rw [show QuV.mk q.kind q.gv q.grams q.sv q.subs=q by cases q;rfl] at hkey
 rw [show encQ q=[.int .i64 q.kind,q.gv,q.sv] from rfl,hkey]
 have hsz:=size_parts q.key
 rw [key_grams,key_subs] at hsz
 have hgl:=sizeT_len q.grams
 have hsl:=sizeQs_len (q.subs.map QuV.key)
 rw [List.length_map] at hsl
 have h4:=encQ_ones h3
 generalize q.kind=k at *
 generalize q.gv=gv at *
 generalize q.sv=sv at *
 generalize q.grams=gs at *
 generalize q.subs=ss at *
 have hcg:=cloneT_any r gv gs h1 (encTx_one gs) (by omega)
 have hcs:=cloneQ_any r sv ss h2 h4 (by omega)
 refine Tri.free2 fun R HR=>?_
 refine ae Tryz.func105 Tryz.ntmps105 ?_
 repeat' (first|((with_reducible apply kx_box);rfl;(exact qcl);intro b1;(refine apk ?_))|((with_reducible apply kx_alloc (E:=38));exact ty_zero;(exact qcl);intro b2;(refine apk ?_))|((with_reducible apply sw_midW (c1:= .region 1 _ _) (I:=fun t' H' => ∃ (a1 a2:Option Addr) (c1 c2:Nat),(∃ G,Takes [pt b1 (.cells [.int .i64 k,.slice a1 gs.length c1,.slice a2 ss.length c2].toArray 38 (0,0)),pt b2 (.cells [.int .i64 0,.slice none 0 0,.slice none 0 0].toArray 38 (0,0)),RowC 9 1 (.slice a1 gs.length c1) gs.length (gs.flatMap encTx),RowC 38 3 (.slice a2 ss.length c2) ss.length (ss.flatMap encQ)] H' G)/\Sls t' 29 [(1,.pointer (some ⟨b1,0,none⟩)),(2,.pointer (some ⟨b2,0,none⟩))])))|refine aw0 ?_|(refine ap2 ?_ ?_<;>try intro h)|refine aw1 ?_|(refine abx ?_;intro bb)|(refine abz ?_;intro bz)|(refine ahv ?_;intro v' hv')|(refine aac ?_;intro ac cc)|refine aw2 ?_|(refine ap4 ?_ ?_<;>try intro h)|apply True.intro)
 · repeat' (first|((with_reducible apply sw_drawT (id:=1) 10 (Pl.seg [(0,true),(3,true)] (Pl.two 1 4 (Pl.seg [] (Pl.two 2 4 (Pl.seg [(4,false),(6,true),(5,false),(7,false),(8,true),(9,false)] Pl.leaf) (Pl.seg [(2,false),(6,true),(5,false),(7,false),(8,true),(9,false)] Pl.leaf))) (Pl.seg [(1,false),(2,false),(6,true),(5,false),(7,false),(8,true),(9,false)] Pl.leaf))) (List.replicate 10 true++List.replicate 0 false).toArray [] []);kernel_rfl;(exact atks);kernel_rfl;intro r' hl')|(refine acl Tryz.func132 ?_;refine acr (hcg.up hl'.1) ?_;rintro v' H' ⟨a1,c1,rfl,rfl⟩;refine apl ?_)|(refine acl Tryz.func133 ?_;refine acr (hcs.up hl'.1) ?_;rintro v' H' ⟨a2,c2,rfl,rfl⟩;refine apl ?_)|exact xf|refine aw0 ?_|(refine ap2 ?_ ?_<;>try intro h)|refine aw1 ?_|(refine abx ?_;intro bb)|(refine abz ?_;intro bz)|(refine ahv ?_;intro v' hv')|(refine aac ?_;intro ac cc)|refine aw2 ?_|(refine ap4 ?_ ?_<;>try intro h)|apply True.intro)
   all_goals exact ⟨a1,a2,c1,c2,⟨_,atks⟩,asls⟩
 · rintro t' H' ⟨a1,a2,c1,c2,⟨G,hp⟩,hs'⟩
   revert t';refine sls_all ?_;iterate 27 intro uu'
   refine sw_takeG hp ?_;clear hp
   refine sw_put (A:=OwnL []) ownL_nil ?_
   repeat' (first|exact xf|refine aw0 ?_|(refine ap2 ?_ ?_<;>try intro h)|refine aw1 ?_|(refine abx ?_;intro bb)|(refine abz ?_;intro bz)|(refine ahv ?_;intro v' hv')|(refine aac ?_;intro ac cc)|refine aw2 ?_|(refine ap4 ?_ ?_<;>try intro h)|apply True.intro)
   refine sw_loop (fun gm t H' => ∃ (i:Nat) (Z:List QuV),gm=ss.length+1 - i/\(i<=ss.length)/\(Z.map QuV.key=(ss.take i).map QuV.key)/\(∃ G,Takes [pt b1 (.cells [.int .i64 k,.slice a1 gs.length c1,.slice a2 ss.length c2].toArray 38 (0,0)),pt b2 (.cells [.int .i64 0,.slice none 0 0,.slice none 0 0].toArray 38 (0,0)),RowC 9 1 (.slice a1 gs.length c1) gs.length (gs.flatMap encTx),RowC 38 3 (.slice a2 ss.length c2) ss.length ((Z++ss.drop i).flatMap encQ),OwnL Z] H' G)/\Sls t 29 [(1,.pointer (some ⟨b1,0,none⟩)),(2,.pointer (some ⟨b2,0,none⟩)),(14,.slice a2 ss.length c2),(15,.int .i64 ss.length),(16,.int .i64 i)]) _ ⟨0,[],rfl,Nat.zero_le _,rfl,⟨_,atks⟩,asls⟩ ?_
   rintro gm t H' ⟨i,Z,rfl,hi,hZ,⟨G,hp⟩,hs'⟩
   revert t;refine sls_all ?_;iterate 24 intro uu'
   refine sw_takeG hp ?_;clear hp
   have hZl:Z.length=i:=by
    have:=congrArg List.length hZ
    rw [List.length_map,List.length_map,List.length_take] at this;omega
   by_cases hlt:i<ss.length
   · obtain ⟨s,hx⟩ : ∃ s,ss.getD i default=s:=⟨_,rfl⟩
     have hsm:s∈ss:=hx ▸ getD_memU hlt
     have hdr:ss.drop i=s::ss.drop (i+1):=by
      rw [List.drop_eq_getElem_cons hlt,← hx,List.getD_eq_getElem?_getD,List.getElem?_eq_getElem hlt];rfl
     have htk:(ss.take (i+1)).map QuV.key=(ss.take i).map QuV.key++[s.key]:=by rw [take_getD (d:=default) hlt,hx,List.map_append];rfl
     have hget:(Z++ss.drop i).getD (i:Int).toNat default=s:=by
      rw [Int.toNat_natCast,hdr,getD_app2 (by omega),show i - Z.length=0 by omega];rfl
     have hset : ∀ z,(Z++ss.drop i).set i z=Z++[z]++ss.drop (i+1):=fun z=>by
      rw [hdr,List.set_append_right _ _ (by omega),show i - Z.length=0 by omega,List.set_cons_zero,List.append_assoc];rfl
     have hLl:(Z++ss.drop i).length=ss.length:=by rw [List.length_append,List.length_drop];omega
     have hse:encQ s=[.int .i64 s.kind,s.gv,s.sv]:=rfl
     have hci:=ih s hsm r (h3 s hsm)
     rw [hse] at hci
     have hs1:=(quR_iff.1 (h3 s hsm)).1
     have hs2:=(quR_iff.1 (h3 s hsm)).2.1
     repeat' (first|(rw [hget])|(rw [hse])|((with_reducible apply kx_ldCE (ia:=inferInstance) (enc:=encQ));exact fun _=>rfl;rfl;(exact atk);(omega);(refine apk ?_))|((with_reducible apply kx_alloc (E:=38));exact ty_zero;(exact qcl);intro b4;(refine apk ?_))|((with_reducible apply pi_pur);rfl;(exact qwt);(with_reducible apply pu_ldW);rfl;(first|assumption|exact Lent.h1 hl'|exact Lent.h2 hl'|exact Lent.h3 hl');rfl;(refine apk ?_))|((with_reducible apply sw_draw (id:=5) 5 [(0,true),(1,true),(2,true),(3,true),(4,false)] [(5,false),(6,false)] [(b1,.cells [.int .i64 k,.slice a1 gs.length c1,.slice a2 ss.length c2].toArray 38 (0,0)),(b4,.cells [.int .i64 s.kind,s.gv,s.sv].toArray 38 (0,0))]);kernel_rfl;(exact atks);kernel_rfl;intro r' hl')|(refine acl Tryz.func105 ?_;refine acr (hci.up hl'.1) ?_;rintro v' H' ⟨s',hks,hos,rfl,rfl⟩;refine apl ?_)|((with_reducible apply kx_stE (sz:=3) (enc:=encQ));exact fun _=>rfl;rfl;exact ty_size;rfl;rfl;(exact atk);exact hos;(omega);(refine apk ?_))|((with_reducible apply sw_joinA (c:= .region 6 _ _) (As:=[OwnL Z,OwnQ s']) (D:=OwnL (Z++[s'])));((with_reducible apply Takes.cons);(with_reducible (exact atk));(with_reducible apply Takes.cons);(with_reducible (exact atk));exact Takes.nil);exact ownL_snoc)|exact xf|refine aw0 ?_|(refine ap2 ?_ ?_<;>try intro h)|refine aw1 ?_|(refine abx ?_;intro bb)|(refine abz ?_;intro bz)|(refine ahv ?_;intro v' hv')|(refine aac ?_;intro ac cc)|refine aw2 ?_|(refine ap4 ?_ ?_<;>try intro h)|apply True.intro)
     rw [Int.toNat_natCast,hset]
     exact ⟨_,by omega,i+1,Z++[s'],rfl,by omega,by rw [List.map_append,hZ,htk,List.map_singleton,hks],⟨_,atks⟩,asls⟩
   · obtain rfl:i=ss.length:=by omega
     rw [List.drop_length,List.append_nil]
     rw [List.take_length] at hZ
     have hj:=own_mk (gv:= .slice a1 gs.length c1) (sv:= .slice a2 ss.length c2) (gs:=gs) (Z:=Z) hk
     rw [hZl] at hj
     repeat' (first|((with_reducible apply sw_joinA (c:= .region 7 _ _) (As:=[RowC 9 1 (.slice a1 gs.length c1) gs.length (gs.flatMap encTx),RowC 38 3 (.slice a2 ss.length c2) ss.length (Z.flatMap encQ),OwnL Z]) (D:=OwnQ (.mk k (.slice a1 gs.length c1) gs (.slice a2 ss.length c2) Z)));((with_reducible apply Takes.cons);(with_reducible (exact atk));(with_reducible apply Takes.cons);(with_reducible (exact atk));(with_reducible apply Takes.cons);(with_reducible (exact atk));exact Takes.nil);exact hj)|exact xf|refine aw0 ?_|(refine ap2 ?_ ?_<;>try intro h)|refine aw1 ?_|(refine abx ?_;intro bb)|(refine abz ?_;intro bz)|(refine ahv ?_;intro v' hv')|(refine aac ?_;intro ac cc)|refine aw2 ?_|(refine ap4 ?_ ?_<;>try intro h)|apply True.intro)
     ((with_reducible apply fp_ret);exact res_W rfl rfl atk ty_agg ty_size rfl)
     exact HR.out _ _ _ [_] atks ⟨.mk k (.slice a1 gs.length c1) gs (.slice a2 ss.length c2) Z,by rw [key_mk,hZ],rfl,rfl,rfl⟩
theorem copied_any : ∀ q:QuV,sizeQ q.key<=9000000->CopyT q
 | .mk k gv gs sv ss=>fun h r hq=>copied_of r _ hq h fun s _h=>copied_any s (by
  have h1:sizeQ s.key<=sizeQs (ss.map QuV.key):=sizeQs_mem (List.mem_map_of_mem _h)
  rw [key_mk] at h
  simp only [sizeQ] at h
  omega)
termination_by q=>SizeOf.sizeOf q
decreasing_by
 have:=List.sizeOf_lt_of_mem _h
 simp only [QuV.mk.sizeOf_spec,QuV.subs] at *
 omega
abbrev wbox (b:Nat) (gv sv:Value):Ch:=pt b (.cells [gv,sv].toArray 106 (0,0))
abbrev gatC (b:Nat) (a1:Option Addr) (c1:Nat) (a2:Option Addr) (c2:Nat) (G:List Tx) (S:List QuV):List Ch:=[wbox b (.slice a1 G.length c1) (.slice a2 S.length c2),RowC 9 1 (.slice a1 G.length c1) G.length (G.flatMap encTx),RowC 38 3 (.slice a2 S.length c2) S.length (S.flatMap encQ)]
theorem take_any (r:Hp) (b:Nat) (a1:Option Addr) (c1:Nat) (a2:Option Addr) (c2:Nat) (G:List Tx) (S:List QuV) (q:QuV) (hq:QuR r q) (hG:G.length+q.grams.length<=10000000) (hS:S.length+q.subs.length<=10000000):Tri Tryz.prog r 64 [.pointer (some ⟨b,0,none⟩),.agg (encQ q).toArray] (gatC b a1 c1 a2 c2 G S) fun _ H => ∃ a1' c1' a2' c2',H=gatC b a1' c1' a2' c2' (G++q.grams) (S++q.subs):=by
 obtain ⟨h1,h2,h3⟩:=quR_iff.1 hq
 have h4:=encQ_ones h3
 have h5:=encTx_one q.grams
 refine Tri.free2 fun R HR=>?_
 show Tri _ _ _ [_,.agg [.int .i64 q.kind,q.gv,q.sv].toArray] _ _
 refine ae Tryz.func64 Tryz.ntmps64 ?_
 repeat' (first|((with_reducible apply kx_box);rfl;(exact qcl);intro b3;(refine apk ?_))|((with_reducible apply sw_draw (id:=1) 8 [(0,true),(1,true),(2,true),(3,true),(4,true),(5,true),(6,true),(7,false)] [(8,false),(9,false),(10,false)] [(b,.cells [.slice a1 G.length c1,.slice a2 S.length c2].toArray 106 (0,0)),(b3,.cells [.int .i64 q.kind,q.gv,q.sv].toArray 38 (0,0))]);kernel_rfl;(exact atks);kernel_rfl;intro r' hl')|((with_reducible apply sw_draw (id:=2) 8 [(0,true),(1,true),(2,true),(3,true),(4,true),(5,true),(6,true),(7,false)] [(8,false),(9,false),(10,false)] [(b,.cells [.slice a1' (G.length+q.grams.length) c1',.slice a2 S.length c2].toArray 106 (0,0)),(b3,.cells [.int .i64 q.kind,q.gv,q.sv].toArray 38 (0,0))]);kernel_rfl;(exact atks);kernel_rfl;intro r' hl')|((with_reducible refine swo_isApp ?_);(with_reducible apply kx_appS (news:=q.grams.flatMap encTx));exact ty_el;exact ty_inf;rfl;rfl;rfl;rfl;exact (h1.mono hl'.1).2;(exact atk);exact h5;(unfold maxLen;omega);(omega);intro a1' c1';refine apm ?_)|((with_reducible refine swo_isApp ?_);(with_reducible apply kx_appS (news:=q.subs.flatMap encQ));exact ty_el;exact ty_inf;rfl;rfl;rfl;rfl;exact (h2.mono hl'.1).2;(exact atk);exact h4;(unfold maxLen;omega);(omega);intro a2' c2';refine apm ?_)|exact xf|refine aw0 ?_|(refine ap2 ?_ ?_<;>try intro h)|refine aw1 ?_|(refine abx ?_;intro bb)|(refine abz ?_;intro bz)|(refine ahv ?_;intro v' hv')|(refine aac ?_;intro ac cc)|refine aw2 ?_|(refine ap4 ?_ ?_<;>try intro h)|apply True.intro)
 ((with_reducible apply fp_end);exact res_0 rfl)
 exact HR.out _ _ _ [wbox b _ _,RowC 9 1 _ _ _,RowC 38 3 _ _ _] atks ⟨a1',c1',a2',c2',by unfold gatC;rw [List.length_append,List.length_append,List.flatMap_append,List.flatMap_append]⟩
theorem compact_keep (gs:List Tx):Lib.compact gs=keepTo id gs gs.length:=by
 have e : ∀ j,j<gs.length->gs.toArray[j]! = gs.getD j default:=fun j hj=>by simp [hj]
 unfold Lib.compact Lib.compactUpTo keepTo
 rw [List.filter_congr (q:=fun i=>decide (i=0) || !decide (id (gs.getD i default)=id (gs.getD (i - 1) default))) fun k hk=>?_]
 · refine List.map_congr_left fun k hk=>?_
   exact e k (List.mem_range.1 (List.mem_filter.1 hk).1)
 · have hk:=List.mem_range.1 hk
   unfold Lib.keeps
   cases k with
   | zero=>simp
   | succ i =>
    rw [e _ hk,Nat.add_sub_cancel,e _ (by omega)]
    simp
theorem sortT_up (G:List Tx):UpIn id 0 (sortT G).length (sortT G):=fun p q _ h2 _ h4=>by
 have h:=List.pairwise_mergeSort (le:=fun x y:Tx=>decide (x<=y)) (fun a b c h1 h2=>by
  rw [decide_eq_true_eq] at *;exact List.le_trans h1 h2) (fun a b=>by
  rw [Bool.or_eq_true,decide_eq_true_eq,decide_eq_true_eq];exact List.le_total a b) G
 have h5:=List.pairwise_iff_getElem.1 h p q (by unfold sortT at h4;omega) h4 h2
 rw [decide_eq_true_eq] at h5
 have e1:(sortT G).getD q default=(sortT G)[q]:=by rw [List.getD_eq_getElem?_getD,List.getElem?_eq_getElem h4];rfl
 have e2:(sortT G).getD p default=(sortT G)[p]'(by omega):=by rw [List.getD_eq_getElem?_getD,List.getElem?_eq_getElem (by omega)];rfl
 rw [e1,e2]
 exact List.not_lt.2 h5
theorem sort_grams (G:List Tx):Lib.compact (sortT G)=sortBy id G:=by
 rw [compact_keep]
 obtain ⟨h1,h2,h3⟩:=keepTo_ris (sortT_up G) (Nat.le_refl _)
 have hp:(sortT G).Perm G:=List.mergeSort_perm _ _
 refine risBy_ext h1 (ris_sortBy G) fun x=>?_
 rw [mem_sortBy (told_id G)]
 constructor
 · exact fun h=>hp.mem_iff.1 (h2 x h).1
 · intro h
   obtain ⟨k,hk,rfl⟩:=mem_getD (hp.mem_iff.2 h)
   obtain ⟨z,hz,e⟩:=h3 k hk
   rw [show (sortT G).getD k default=z from e.symm];exact hz
theorem sort_subs {S zs:List QuV} (hS:Told textQ (S.map QuV.key)) (hs:SameK keyT zs S) (hu:UpIn keyT 0 zs.length zs):(keepTo keyT zs zs.length).map QuV.key=sortBy textQ (S.map QuV.key):=by
 obtain ⟨h1,h2,h3⟩:=keepTo_ris hu (Nat.le_refl _)
 refine risBy_ext ?_ (ris_sortBy _) fun x=>?_
 · exact List.pairwise_map.2 h1
 · rw [mem_sortBy hS]
   constructor
   · intro h
     obtain ⟨z,hz,rfl⟩:=List.mem_map.1 h
     exact List.mem_map_of_mem (hs.1.mem_iff.1 (h2 z hz).1)
   · intro h
     obtain ⟨s,hsm,rfl⟩:=List.mem_map.1 h
     obtain ⟨k,hk,e⟩:=mem_getD (hs.1.mem_iff.2 hsm)
     obtain ⟨z,hz,e2⟩:=h3 k hk
     rw [e] at e2
     exact List.mem_map.2 ⟨z,hz,hS _ (List.mem_map_of_mem (hs.1.mem_iff.1 (h2 z hz).1)) _ h e2⟩
theorem keepTo_mem {α:Type} [Inhabited α] {key:α->Tx} {xs:List α} {n:Nat} (hn:n<=xs.length) {x:α} (h:x∈keepTo key xs n):x∈xs:=by
 unfold keepTo at h
 obtain ⟨i,hi,rfl⟩:=List.mem_map.1 h
 exact getD_memV (Nat.lt_of_lt_of_le (List.mem_range.1 (List.mem_filter.1 hi).1) hn)
theorem own_ones : ∀ {q:QuV} {h:Hp},OwnQ q h->(encQ q).all one?=true
 | .mk k gv gs sv ss,h,e=>by
  simp only [OwnQ] at e
  obtain ⟨hk,g1,g2,dd,rfl,h1,g3,g4,d2,rfl,h2,h3⟩:=e
  have e1 : ∀ {E sz v n xs h},RowC E sz v n xs h->one? v=true:=fun h=>by
   rcases h.2 with ⟨rfl,_⟩ | ⟨b,cap,cur,rfl,_⟩<;>rfl
  have e2:=e1 h1
  have e3:=e1 h2
  simp only [encQ,QuV.kind,QuV.gv,QuV.sv,List.all_cons,List.all_nil,e2,e3,Bool.and_true];rfl
theorem rowC_form {E:TypeId} {sz n:Nat} {v:Value} {xs:List Value} {h:Hp} (e:RowC E sz v n xs h) : ∃ a c,v = .slice a n c:=by
 rcases e.2 with ⟨rfl,rfl,_⟩ | ⟨b,cap,cur,rfl,_⟩
 · exact ⟨_,_,rfl⟩
 · exact ⟨_,_,rfl⟩
theorem own_form {k:Int} {gv sv:Value} {gs:List Tx} {Z:List QuV} : ∀ h,OwnQ (.mk k gv gs sv Z) h -> ∃ i:(Option Addr × Nat) × (Option Addr × Nat),(KindR k/\gv = .slice i.1.1 gs.length i.1.2/\sv = .slice i.2.1 Z.length i.2.2)/\all [OwnQ (.mk k gv gs sv Z)] h:=fun h e=>by
 have e':=e
 simp only [OwnQ] at e
 obtain ⟨hk,g1,g2,dd,rfl,h1,g3,g4,d2,rfl,h2,h3⟩:=e
 obtain ⟨a,c,e1⟩:=rowC_form h1
 obtain ⟨a',c',e2⟩:=rowC_form h2
 exact ⟨((a,c),(a',c')),⟨hk,e1,e2⟩,all_one.2 e'⟩
theorem own_kind {k k':Int} {gv sv:Value} {gs:List Tx} {Z:List QuV} (hk:KindR k') : ∀ h,OwnQ (.mk k gv gs sv Z) h->OwnQ (.mk k' gv gs sv Z) h:=fun h e=>by
 simp only [OwnQ] at e ⊢
 exact ⟨hk,e.2⟩
theorem own_nil {k:Int} (hk:KindR k):OwnQ (.mk k (.slice none 0 0) [] (.slice none 0 0) []) emp:=by
 simp only [OwnQ]
 exact ⟨hk,emp,emp,emp_dj,un_emp.symm,RowC.nil _ _,emp,emp,emp_dj,un_emp.symm,RowC.nil _ _,emp,emp,emp_dj,un_emp.symm,ownL_nil,rfl⟩
theorem own_sub {k:Int} {gv sv:Value} {gs:List Tx} {s:QuV} : ∀ h,OwnQ (.mk k gv gs sv [s]) h -> ∃ _:Unit,(encQ s).all one?=true/\all [RowC 38 3 sv 1 (encQ s),OwnQ s,RowC 9 1 gv gs.length (gs.flatMap encTx)] h:=fun h e=>by
 simp only [OwnQ] at e
 obtain ⟨_,g1,g2,dd,rfl,h1,g3,g4,d2,rfl,h2,h3⟩:=e
 have h4:=all_one.1 (ownL_all.1 (all_one.1 h3))
 have h5:=own_ones h4
 rw [List.flatMap_cons,List.flatMap_nil,List.append_nil] at h2
 refine ⟨(),h5,?_⟩
 refine all_perm (List.perm_append_comm (l₁:=[RowC 9 1 gv gs.length (gs.flatMap encTx)]) (l₂:=[RowC 38 3 sv 1 (encQ s),OwnQ s])) ?_
 exact ⟨g1,_,dd,rfl,h1,g3,g4,d2,rfl,h2,all_one.2 h4⟩
theorem sizeT_ins (x:Tx) : ∀ l:List Tx,sizeT (insBy id l x)<=sizeT l+(x.length+1)
 | []=>by simp [insBy,sizeT]
 | y::l=>by
  have:=sizeT_ins x l
  unfold insBy
  split
  · simp only [sizeT];omega
  · split
    · simp only [sizeT];omega
    · simp only [sizeT];omega
theorem sizeT_fold : ∀ (l m:List Tx),sizeT (l.foldl (insBy id) m)<=sizeT m+sizeT l
 | [],m=>by simp [sizeT]
 | x::l,m=>by
  have h1:=sizeT_fold l (insBy id m x)
  have h2:=sizeT_ins x m
  simp only [List.foldl_cons,sizeT];omega
theorem sizeQs_ins (x:Qu) : ∀ l:List Qu,sizeQs (insBy textQ l x)<=sizeQs l+sizeQ x
 | []=>by simp [insBy,sizeQs]
 | y::l=>by
  have:=sizeQs_ins x l
  unfold insBy
  split
  · simp only [sizeQs];omega
  · split
    · simp only [sizeQs];omega
    · simp only [sizeQs];omega
theorem sizeQs_fold : ∀ (l m:List Qu),sizeQs (l.foldl (insBy textQ) m)<=sizeQs m+sizeQs l
 | [],m=>by simp [sizeQs]
 | x::l,m=>by
  have h1:=sizeQs_fold l (insBy textQ m x)
  have h2:=sizeQs_ins x m
  simp only [List.foldl_cons,sizeQs];omega
theorem size_sort (G:List Tx) (S:List Qu):sizeT (sortBy id G)<=sizeT G/\sizeQs (sortBy textQ S)<=sizeQs S:=by
 have h1:=sizeT_fold G []
 have h2:=sizeQs_fold S []
 simp only [sizeT,sizeQs] at h1 h2
 unfold sortBy
 omega
theorem qu_cases (G:List Tx) (S:List QuV):(1<G.length+S.length)\/(G.length=1/\S=[])\/(G=[] /\ ∃ s,S=[s])\/(G=[]/\S=[]):=by
 match G,S with
 | [],[]=>exact .inr (.inr (.inr ⟨rfl,rfl⟩))
 | [],[s]=>exact .inr (.inr (.inl ⟨rfl,s,rfl⟩))
 | [g],[]=>exact .inr (.inl ⟨rfl,rfl⟩)
 | _::_::_,_=>exact .inl (by simp;omega)
 | _,_::_::_=>exact .inl (by simp;omega)
 | [_],[_]=>exact .inl (by simp)
theorem gquery_any (r:Hp) (hT:TabR r) (b:Nat) (a1:Option Addr) (c1:Nat) (a2:Option Addr) (c2:Nat) (G:List Tx) (S:List QuV) (k no:Int) (hk:KindR k) (hno:KindR no) (hS : ∀ s∈S,QuR r s) (hTo:Told textQ (S.map QuV.key)) (hs:sizeT G+sizeQs (S.map QuV.key)<=8000000):Tri Tryz.prog r 65 [.pointer (some ⟨b,0,none⟩),.int .i64 k,.int .i64 no] (gatC b a1 c1 a2 c2 G S) fun w H => ∃ q:QuV,q.key=mkQ k no G (S.map QuV.key)/\(encQ q).all one?=true/\w = .agg (encQ q).toArray/\H=[OwnQ q]:=by
 have hgl:=sizeT_len G
 have hsl:=sizeQs_len (S.map QuV.key)
 rw [List.length_map] at hsl
 have hsz : ∀ s∈S,sizeQ s.key<=8000000:=fun s h=>by have:=sizeQs_mem (List.mem_map_of_mem (f:=QuV.key) h);omega
 have hso:=sortT_tri r a1 c1 G (by omega)
 have hcp:=compactT_tri r a1 c1 (sortT G) (by rw [sortT_len];omega)
 rw [sort_grams,sortT_len] at hcp
 have hst:=sortStableQ_tri r a2 c2 103 keyT S (by omega) (goesOf Tryz.func103 (by kernel_rfl) rfl) (fun x hx=>encQ_one (hS x hx)) (fun x hx y hy=>query1_any r hT x y (hS x hx) (hS y hy) (by have:=hsz x hx;omega) (by have:=hsz y hy;omega))
 have hcf:=fun (zs:List QuV) (hz:SameK keyT zs S) (hu:UpIn keyT 0 S.length zs)=>compactFQ_tri r a2 c2 107 keyT zs (by have:=hz.1.length_eq;omega) (goesOf Tryz.func107 (by kernel_rfl) rfl) (fun x hx=>encQ_one (hS x (hz.1.mem_iff.1 hx))) (fun x hx y hy=>query2_any r hT x y (hS x (hz.1.mem_iff.1 hx)) (hS y (hz.1.mem_iff.1 hy)) (by have:=hsz x (hz.1.mem_iff.1 hx);omega) (by have:=hsz y (hz.1.mem_iff.1 hy);omega))
 have hco : ∀ (GG:List Tx) (Z:List QuV),GG=sortBy id G->Z.map QuV.key=sortBy textQ (S.map QuV.key)->(∀ z∈Z,QuR r z) -> ∀ r1 g1 r2 g2,sub r r1->sub g1 r1->sub r1 r2->sub g2 r2->RowC 9 1 (.slice a1 GG.length c1) GG.length (GG.flatMap encTx) g1->RowC 38 3 (.slice a2 Z.length c2) Z.length (Z.flatMap encQ) g2->Tri Tryz.prog r2 105 [.agg [.int .i64 k,.slice a1 GG.length c1,.slice a2 Z.length c2].toArray] [] fun w H => ∃ q':QuV,q'.key = .mk k GG (Z.map QuV.key)/\(encQ q').all one?=true/\w = .agg (encQ q').toArray/\H=[OwnQ q']:=by
  intro GG Z hGG hZ hZr r1 g1 r2 g2 s1 s2 s3 s4 hA1 hA2
  have hz:=size_sort G (S.map QuV.key)
  have h:=copied_any (.mk k (.slice a1 GG.length c1) GG (.slice a2 Z.length c2) Z) (by rw [key_mk,hZ,hGG];simp only [sizeQ];omega) r2 (quR_iff.2 hk ⟨⟨fun _=>rfl,hA1.sl (Sx.sub.trans s2 s3)⟩,⟨fun _=>rfl,hA2.sl s4⟩,fun z hz=>(hZr z hz).mono (Sx.sub.trans s1 s3)⟩)
  rw [key_mk] at h
  exact h
 have hmk:mkQ k no G (S.map QuV.key)=if 1<(sortBy id G).length+(sortBy textQ (S.map QuV.key)).length then .mk k (sortBy id G) (sortBy textQ (S.map QuV.key)) else if (sortBy id G).length=1 then .mk 3 (sortBy id G) (sortBy textQ (S.map QuV.key)) else match sortBy textQ (S.map QuV.key) with|q::_=>q | []=> .mk no [] []:=rfl
 have hss:=fun (zs:List QuV) (hz:SameK keyT zs S) (hu:UpIn keyT 0 zs.length zs)=>sort_subs hTo hz hu
 have hsl2:=size_sort G (S.map QuV.key)
 have hgl2:=sizeT_len (sortBy id G)
 have hsl3:=sizeQs_len (sortBy textQ (S.map QuV.key))
 obtain ⟨GG,hGG⟩ : ∃ GG,sortBy id G=GG:=⟨_,rfl⟩
 obtain ⟨TT,hTT⟩ : ∃ TT,sortBy textQ (S.map QuV.key)=TT:=⟨_,rfl⟩
 rw [hGG] at hcp hmk hgl2 hsl2
 rw [hTT] at hmk hsl3 hss hco hsl2
 have hco':=fun Z=>hco GG Z hGG.symm
 clear hco
 refine Tri.free2 fun R HR=>?_
 refine ae Tryz.func65 Tryz.ntmps65 ?_
 repeat' (first|((with_reducible apply kx_alloc (E:=38));exact ty_zero;(exact qcl);intro b6;(refine apk ?_))|(refine acl Tryz.func101 ?_;refine acr (hso) ?_;rintro v' H' rfl;all_goals refine apl ?_)|(refine acl Tryz.func102 ?_;refine acr (hst) ?_;rintro v' H' ⟨zs,⟨hz,hzu⟩,rfl⟩;refine apl ?_)|((with_reducible apply sw_midW (c1:= .region 3 _ _) (I:=fun t' H' => ∃ (b7:Nat) (q:QuV),(q.key = .mk k GG TT)/\((encQ q).all one?=true)/\(∃ G,Takes [pt b6 (.cells [.int .i64 0,.slice none 0 0,.slice none 0 0].toArray 38 (0,0)),pt b7 (.cells [.int .i64 q.kind,q.gv,q.sv].toArray 38 (0,0)),OwnQ q] H' G)/\Sls t' 59 [(2,.int .i64 no),(6,.pointer (some ⟨b6,0,none⟩)),(7,.pointer (some ⟨b7,0,none⟩))])))|exact xf|refine aw0 ?_|(refine ap2 ?_ ?_<;>try intro h)|refine aw1 ?_|(refine abx ?_;intro bb)|(refine abz ?_;intro bz)|(refine ahv ?_;intro v' hv')|(refine aac ?_;intro ac cc)|refine aw2 ?_|(refine ap4 ?_ ?_<;>try intro h)|apply True.intro)
 · have hzl:=hz.1.length_eq
   have hcf2:=hcf zs hz hzu
   have hzs:=hss zs hz (by rw [hzl];exact hzu)
   rw [hzl] at hcf2 hzs
   have hco2:=fun Z (e:Z=keepTo keyT zs S.length)=>hco' Z (by rw [e];exact hzs) (fun z hz2=>by rw [e] at hz2;exact hS z (hz.1.mem_iff.1 (keepTo_mem (Nat.le_of_eq hzl.symm) hz2)))
   repeat' (first|((with_reducible apply sw_drawT (id:=3) 14 (Pl.seg [(0,true),(1,true),(2,true),(3,true),(4,true),(6,true),(7,true),(8,true),(9,true)] (Pl.two 5 13 (Pl.seg [] (Pl.two 10 13 (Pl.seg [(11,true)] (Pl.two 12 13 (Pl.seg [(13,false)] Pl.leaf) (Pl.seg [(12,false)] Pl.leaf))) (Pl.seg [(10,false),(11,true),(12,false)] Pl.leaf))) (Pl.seg [(5,false),(10,false),(11,true),(12,false)] Pl.leaf))) (List.replicate 14 true++List.replicate 1 false).toArray [(14,false)] [(b,.cells [.slice a1 G.length c1,.slice a2 S.length c2].toArray 106 (0,0))]);kernel_rfl;(exact atks);kernel_rfl;intro r' hl')|((with_reducible apply kx_alloc (E:=38));exact ty_zero;(exact qcl);intro b7;(refine apk ?_))|(refine acl Tryz.func85 ?_;refine acr (hcp.up hl'.1) ?_;rintro v' H' ⟨rfl,rfl⟩;refine apl ?_)|(refine acl Tryz.func106 ?_;refine acr (hcf2.up hl'.1) ?_;rintro v' H' ⟨Z,hZ,rfl,rfl⟩;refine apl ?_)|((with_reducible apply kx_lendC (A:=RowC 9 1 (.slice a1 GG.length c1) GG.length (GG.flatMap encTx)));(with_reducible (exact atk));intro r1 g1 hr1 hg1 hA1;(with_reducible apply kx_lendC (A:=RowC 38 3 (.slice a2 Z.length c2) Z.length (Z.flatMap encQ)));(with_reducible (exact atk));intro r2 g2 hr2 hg2 hA2;(refine acl Tryz.func105 ?_;refine acr (hco2 Z hZ r1 g1 r2 g2 (Sx.sub.trans hl'.1 hr1) hg1 hr2 hg2 hA1 hA2) ?_;rintro v' H' ⟨q',hq1,hq2,rfl,rfl⟩;refine apl ?_))|((with_reducible apply kx_storeN);exact ty_size;rfl;rfl;rfl;(exact qsw);exact hq2;(exact qst);(refine apk ?_))|exact xf|refine aw0 ?_|(refine ap2 ?_ ?_<;>try intro h)|refine aw1 ?_|(refine abx ?_;intro bb)|(refine abz ?_;intro bz)|(refine ahv ?_;intro v' hv')|(refine aac ?_;intro ac cc)|refine aw2 ?_|(refine ap4 ?_ ?_<;>try intro h)|apply True.intro)
   all_goals exact ⟨b7,q',by rw [hq1,show Z.map QuV.key=TT by rw [hZ];exact hzs],hq2,⟨_,atks⟩,asls⟩
 · rintro t' H' ⟨b7,q,hqk,hqo,⟨G,hp⟩,hs'⟩
   revert t';refine sls_all ?_;iterate 56 intro uu'
   refine sw_takeG hp ?_;clear hp
   clear hso hcp hst hcf hss hco' hz hzu
   obtain ⟨k',gv,gs,sv,ss⟩:=q
   rw [key_mk] at hqk
   injection hqk with e1 e2 e3
   subst e1 e2
   have hssl:ss.length=TT.length:=by rw [← e3,List.length_map]
   simp only [QuV.kind,QuV.gv,QuV.sv]
   refine sw_open (A:=OwnQ (.mk k' gv gs sv ss)) atk own_form ?_
   rintro ⟨⟨x1,d1⟩,⟨x2,d2⟩⟩ ⟨hk',h1,h2⟩
   dsimp only at h1 h2
   subst h1 h2
   dsimp only [List.cons_append,List.nil_append]
   rcases qu_cases gs ss with hc | ⟨hc,rfl⟩ | ⟨rfl,s,rfl⟩ | ⟨rfl,rfl⟩
   · rw [if_pos (by omega)] at hmk
     repeat' (first|exact xf|refine aw0 ?_|(refine ap2 ?_ ?_<;>try intro h)|refine aw1 ?_|(refine abx ?_;intro bb)|(refine abz ?_;intro bz)|(refine ahv ?_;intro v' hv')|(refine aac ?_;intro ac cc)|refine aw2 ?_|(refine ap4 ?_ ?_<;>try intro h)|apply True.intro)
     ((with_reducible apply fp_ret);exact res_W rfl rfl atk ty_agg ty_size rfl)
     exact HR.out _ _ _ [_] atks ⟨.mk k' (.slice x1 gs.length d1) gs (.slice x2 ss.length d2) ss,by rw [hmk,key_mk,e3],rfl,rfl,rfl⟩
   · have e3:([]:List Qu)=TT:=by rw [← e3];rfl
     subst e3
     rw [if_neg (by rw [List.length_nil];omega),if_pos hc] at hmk
     refine sw_imp (A:=OwnQ (.mk k' (.slice x1 gs.length d1) gs (.slice x2 ([]:List QuV).length d2) [])) atk (own_kind (k':=3) (by unfold KindR;omega)) ?_
     have hn0:([]:List QuV).length=0:=rfl
     repeat' (first|exact xf|refine aw0 ?_|(refine ap2 ?_ ?_<;>try intro h)|refine aw1 ?_|(refine abx ?_;intro bb)|(refine abz ?_;intro bz)|(refine ahv ?_;intro v' hv')|(refine aac ?_;intro ac cc)|refine aw2 ?_|(refine ap4 ?_ ?_<;>try intro h)|apply True.intro)
     ((with_reducible apply fp_ret);exact res_W rfl rfl atk ty_agg ty_size rfl)
     exact HR.out _ _ _ [_] atks ⟨.mk 3 (.slice x1 gs.length d1) gs (.slice x2 ([]:List QuV).length d2) [],by rw [hmk,key_mk];rfl,rfl,rfl,rfl⟩
   · have e3:[s.key]=TT:=by rw [← e3];rfl
     subst e3
     rw [if_neg (by simp),if_neg (by simp)] at hmk
     refine sw_open (A:=OwnQ (.mk k' (.slice x1 ([]:List Tx).length d1) [] (.slice x2 [s].length d2) [s])) atk own_sub ?_
     rintro ⟨⟩ hos
     dsimp only [List.cons_append,List.nil_append]
     have hn0:([]:List Tx).length=0:=rfl
     have hn1:[s].length=1:=rfl
     have hgs:([s]:List QuV).getD (Int.toNat 0) default=s:=rfl
     have hse:encQ s=[.int .i64 s.kind,s.gv,s.sv]:=rfl
     repeat' (first|(rw [hgs])|(rw [hse])|((with_reducible apply kx_storeN);exact ty_size;rfl;rfl;rfl;(exact qsw);exact hos;(exact qst);(refine apk ?_))|((with_reducible apply kx_ixC);rfl;(exact atk);rfl;(omega);(refine apk ?_))|((with_reducible apply kx_ldCE (ia:=inferInstance) (enc:=encQ) (xs:=[s]));exact fun _=>rfl;rfl;(exact atk);(simp);(refine apk ?_))|exact xf|refine aw0 ?_|(refine ap2 ?_ ?_<;>try intro h)|refine aw1 ?_|(refine abx ?_;intro bb)|(refine abz ?_;intro bz)|(refine ahv ?_;intro v' hv')|(refine aac ?_;intro ac cc)|refine aw2 ?_|(refine ap4 ?_ ?_<;>try intro h)|apply True.intro)
     ((with_reducible apply fp_ret);exact res_W rfl rfl atk ty_agg ty_size rfl)
     exact HR.out _ _ _ [OwnQ s] atks ⟨s,by rw [hmk],hos,rfl,rfl⟩
   · have e3:([]:List Qu)=TT:=by rw [← e3];rfl
     subst e3
     rw [if_neg (by simp),if_neg (by simp)] at hmk
     have hn0:([]:List Tx).length=0:=rfl
     have hn1:([]:List QuV).length=0:=rfl
     refine sw_put (A:=OwnQ (.mk no (.slice none 0 0) [] (.slice none 0 0) [])) (own_nil hno) ?_
     repeat' (first|exact xf|refine aw0 ?_|(refine ap2 ?_ ?_<;>try intro h)|refine aw1 ?_|(refine abx ?_;intro bb)|(refine abz ?_;intro bz)|(refine ahv ?_;intro v' hv')|(refine aac ?_;intro ac cc)|refine aw2 ?_|(refine ap4 ?_ ?_<;>try intro h)|apply True.intro)
     ((with_reducible apply fp_ret);exact res_W rfl rfl atk ty_agg ty_size rfl)
     exact HR.out _ _ _ [OwnQ (.mk no (.slice none 0 0) [] (.slice none 0 0) [])] atks ⟨.mk no (.slice none 0 0) [] (.slice none 0 0) [],by rw [hmk,key_mk];rfl,rfl,rfl,rfl⟩
end Go.Proofs.YteknekiclhnkiaaGreatDoor
