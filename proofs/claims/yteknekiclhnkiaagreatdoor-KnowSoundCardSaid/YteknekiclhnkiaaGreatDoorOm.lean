/- gram.Grams: its contract. -/
import Derived.Test.YteknekiclhnkiaaGreatDoorOj
set_option maxHeartbeats 8000000
set_option maxRecDepth 10000
namespace Go.Proofs.YteknekiclhnkiaaGreatDoor
open Go.RowKit Go.Maps Sx
theorem Sx.sw_takeI {P:Program} {l:Option Nat} {r:Hp} {Q:Exit->St} {t:List Value} {H:List Ch} {c:Code} {As G:List Ch} (hp : ∀ h,all H h->all (As++G) h) (h:SW P l r c Q t As):SW P l r c Q t H:=by
 intro w h' ds o a
 obtain ⟨x,y,d,rfl,hx,_⟩:=all_app.1 (hp _ a)
 refine wpIn_mono (h w x ds o.left hx) ?_
 intro e b w' p
 obtain ⟨t',H',h1,ds',rfl,q,al,to⟩:=p.act
 have to':To l r ds w (un x y) ds' w' h1:=⟨to.ok,to.os,to.tape,to.output,to.size,fun b hb hn=>to.keep b hb (un_none.1 hn).1,fun b hb=>(to.dom b hb).imp_left fun c=>un_ne.2 (.inl c),to.grew⟩
 cases e with
 | panic _=>exact p.elim
 | outgrown=>exact p.elim
 | _=>exact Post.mk' trivial q al to'
abbrev GrC (b4 b5 bm j:Nat) (a:Option Addr) (c:Nat) (A:List (G3 × PlB)) (F:List G3):List Ch:=[pt b4 (.cells [.map (some bm)].toArray 83 (0,0)),pt b5 (.cells [.slice a F.length c].toArray 84 (0,0)),MapC Tryz.prog 88 bm j (lookG A),RowC 88 3 (.slice a F.length c) F.length (F.flatMap encG3),PlP A]
theorem grc_join {b4 b5 bm j:Nat} {a:Option Addr} {c:Nat} {F:List G3} {A1 A2:List (G3 × PlB)} {x:G3 × PlB} : ∀ h,all [pt b4 (.cells [.map (some bm)].toArray 83 (0,0)),pt b5 (.cells [.slice a F.length c].toArray 84 (0,0)),MapC Tryz.prog 88 bm j (lookG (A1++x::A2)),RowC 88 3 (.slice a F.length c) F.length (F.flatMap encG3),PlR x.2,PlP A1,PlP A2] h->all (GrC b4 b5 bm j a c (A1++x::A2) F++[]) h:=fun h e=>by
 obtain ⟨x1,y1,d1,rfl,h1,x2,y2,d2,rfl,h2,x3,y3,d3,rfl,h3,x4,y4,d4,rfl,h4,h5⟩:=e
 exact ⟨x1,_,d1,rfl,h1,x2,_,d2,rfl,h2,x3,_,d3,rfl,h3,x4,_,d4,rfl,h4,all_one.2 ((plP_mid y4).2 h5)⟩
theorem plR_lit {b:Nat} {u v:Value} : ∀ h,pt b (.cells [u,v].toArray 117 (0,0)) h->PlR ⟨some ⟨b,0,none⟩,1,1,[u,v]⟩ h:=fun h e=>RowC.of_pt (sz:=2) (n:=1) (cap:=1) (Nat.le_refl _) (by unfold maxLen;omega) rfl h e
theorem places_any (r:Hp) (v:Value) (l:List UInt8) (hv:U8S r v l) (hl:l.length<=1000000):Tri Tryz.prog r 39 [v] [] fun w H => ∃ bm a c,∃ gs:List G3,gs.map txG=sortBy id (partsT l)/\w = .tuple #[.map (some bm),.slice a gs.length c]/\H=[RowC 88 3 (.slice a gs.length c) gs.length (gs.flatMap encG3)]:=by
 have hal:=gall_any r v l hv
 have hseq:=fun B=>gall_seq r B v l hv
 have hgp:=gramsAt_parts l
 have hgl:=gramsAt_len l
 have hgg:=fun i (h:i<(gramsAt l).length)=>gramsAt_get h
 obtain ⟨X,hX⟩ : ∃ X,gramsAt l=X:=⟨_,rfl⟩
 rw [hX] at hseq hgp hgl
 have hgx : ∀ i (h:i<X.length),X[i]=(i,gramAt l i):=by subst hX;exact hgg
 clear hgg
 refine Tri.free2 fun R HR=>?_
 refine ae Tryz.func39 Tryz.ntmps39 ?_
 repeat' (first|((with_reducible apply kx_mmake 88);intro bm;(refine apk ?_))|((with_reducible apply kx_alloc (E:=83));exact ty_zero;(exact qcl);intro b4;(refine apk ?_))|((with_reducible apply kx_alloc (E:=84));exact ty_zero;(exact qcl);intro b5;(refine apk ?_))|(refine acl Tryz.func69 ?_;refine acr (hal) ?_;rintro v' H' ⟨B,rfl,rfl⟩;refine apl ?_)|exact xf|refine aw0 ?_|(refine ap2 ?_ ?_<;>try intro h)|refine aw1 ?_|(refine abx ?_;intro bb)|(refine abz ?_;intro bz)|(refine ahv ?_;intro v' hv')|(refine aac ?_;intro ac cc)|refine aw2 ?_|(refine ap4 ?_ ?_<;>try intro h)|apply True.intro)
 have hd0:(([]:List (G3 × PlB)).map (·.1))=onceG [] ((X.take 0).map (·.2)):=rfl
 refine sw_put (A:=RowC 88 3 (.slice none 0 0) 0 []) (RowC.nil _ _) ?_
 refine sw_put (A:=PlP []) rfl ?_
 refine sw_range rfl (goesOf Tryz.func111 (by kernel_rfl) rfl) (hseq B) atks (fun _=>rfl)
  (fun j H => ∃ (A:List (G3 × PlB)) (F:List G3) (a:Option Addr) (c:Nat),A.map (·.1)=F/\F=onceG [] ((X.take j).map (·.2))/\(∀ x∈A,x.2.n<=j) /\ ∃ G,∀ h,all H h->all (GrC b4 b5 bm j a c A F++G) h)
  (fun _ _ _=>False) ?_ ?_ ?_ (fun _ _ _ _ h=>h.elim)
 · refine ⟨[],[],none,0,rfl,hd0,(fun x hx=>by cases hx),_,takesI (As:=[pt b4 (.cells [.map (some bm)].toArray 83 (0,0)),pt b5 (.cells [.slice none 0 0].toArray 84 (0,0)),MapC Tryz.prog 88 bm 0 (fun _=>none),RowC 88 3 (.slice none 0 0) 0 [],PlP []]) (G2:=[]) atks fun h e=>?_⟩
   rw [List.append_nil]
   show all [_,_,MapC _ _ _ _ (lookG []),_,_] h
   rw [show lookG []=fun _=>none by funext x;cases x<;>rfl]
   exact e
 · rintro kk i hi H ⟨A,F,a,c,hAF,hF,hAn,G,hp⟩
   obtain ⟨g,hg⟩ : ∃ g,gramAt l i=g:=⟨_,rfl⟩
   have hXi:X[i]=(i,g):=by rw [hgx i hi,hg]
   have htk:(X.take (i+1)).map (·.2)=(X.take i).map (·.2)++[g]:=by rw [List.take_succ_eq_append_getElem hi,List.map_append,hXi];rfl
   have hsn:=onceG_snoc ((X.take i).map (·.2)) [] g
   rw [← htk,← hF] at hsn
   have hnd:F.Nodup:=hF ▸ onceG_nodup _ _ List.nodup_nil
   have hFl:F.length<=i:=by
    have:=onceG_len ((X.take i).map (·.2)) []
    rw [← hF,List.length_map,List.length_take] at this
    simp at this;omega
   have hil:i<1000000:=by omega
   have hk:=gram_key g
   rw [hXi,show tellG (i,g)=[.int .i64 (i:Int),.agg [.int .u8 g.1.toNat,.int .u8 g.2.1.toNat,.int .u8 g.2.2.toNat].toArray] from rfl]
   rw [show encG3 g=[.int .u8 g.1.toNat,.int .u8 g.2.1.toNat,.int .u8 g.2.2.toNat] from rfl] at hk
   refine sw_takeI hp ?_
   clear hp htk hF hgp hgx hseq hal
   by_cases hm:g∈F
   · rw [if_pos hm] at hsn
     obtain ⟨A1,p,A2,rfl,hg1⟩:=splitG_at (hAF ▸ hm) (hAF ▸ hnd)
     have hget:=look_at (A2:=A2) (p:=p) hg1
     have hpn:=hAn (g,p) (List.mem_append_right _ List.mem_cons_self)
     dsimp only at hpn
     refine sw_open (A:=PlP (A1++(g,p)::A2)) (B:=fun _:Unit=>[PlR p,PlP A1,PlP A2]) (φ:=fun _=>True) atk (fun h e=>⟨(),trivial,(plP_mid h).1 e⟩) fun _ _=>?_
     dsimp only [List.cons_append,List.nil_append]
     refine sw_pars2 ?_
     (refine apk ?_)
     refine then2_mk ?_
     (refine apk ?_)
     repeat' (first|((with_reducible apply kx_alloc (E:=88));exact ty_zero;(exact qcl);intro b7;(refine apk ?_))|((with_reducible apply kx_alloc (E:=117));exact ty_zero;(exact qcl);intro b8;(refine apk ?_))|((with_reducible apply kx_mgetS (kt:=88) (et:=118));kernel_rfl;exact gramK_law;exact ty_zero;rfl;rfl;exact hk;(exact atk);exact hget;(refine apk ?_))|((with_reducible apply sw_draw (id:=8) 6 [(0,true),(1,true),(2,true),(3,true),(4,false),(5,false)] [(6,false)] [(b4,.cells [.map (some bm)].toArray 83 (0,0)),(b7,.cells [.int .u8 g.1.toNat,.int .u8 g.2.1.toNat,.int .u8 g.2.2.toNat].toArray 88 (0,0)),(b8,.cells [.int .i64 0,.int .i64 (i:Int)].toArray 117 (0,0))]);kernel_rfl;(exact atks);kernel_rfl;intro r' hl')|((with_reducible apply pi_pur);rfl;(exact qwt);(with_reducible apply pu_ldP);rfl;(first|assumption|exact Lent.h1 hl'|exact Lent.h2 hl'|exact Lent.h3 hl');(simp only [cut,List.drop_zero,List.take_succ_cons,List.take_zero];rfl);rfl;(refine apk ?_))|(first|((with_reducible apply kx_bs1);exact ty_el;exact ty_inf;rfl;rfl;rfl;intro bz;(refine apk ?_))|((with_reducible apply kx_bsN);exact ty_el;exact ty_inf;rfl;rfl;rfl;intro bz;(refine apk ?_)))|(first|((with_reducible apply kx_append1);exact ty_el;exact ty_inf;rfl;rfl;rfl;(exact atk);(exact atk);rfl;omega;intro a' c';(refine apk ?_))|((with_reducible apply kx_appendN);exact ty_el;exact ty_inf;rfl;rfl;rfl;rfl;(exact atk);(exact atk);rfl;rfl;omega;intro a' c';(refine apk ?_)))|((with_reducible apply kx_mput (kt:=88) (et:=118));kernel_rfl;exact gramK_law;rfl;rfl;rfl;exact hk;(exact atk);(unfold maxLen;omega);(refine apk ?_))|exact xf|refine aw0 ?_|(refine ap2 ?_ ?_<;>try intro h)|refine aw1 ?_|(refine abx ?_;intro bb)|(refine abz ?_;intro bz)|(refine ahv ?_;intro v' hv')|(refine aac ?_;intro ac cc)|refine aw2 ?_|(refine ap4 ?_ ?_<;>try intro h)|apply True.intro)
     rw [show upd (lookG (A1++(g,p)::A2)) (.string (txG g)) (.slice a' (p.n+1) c')=lookG (A1++(g,⟨a',p.n+1,c',p.xs++[.int .i64 0,.int .i64 (i:Int)]⟩)::A2) from look_upd_at (q:=⟨a',p.n+1,c',p.xs++[.int .i64 0,.int .i64 (i:Int)]⟩) hg1]
     refine ⟨A1++(g,⟨a',p.n+1,c',p.xs++[.int .i64 0,.int .i64 (i:Int)]⟩)::A2,F,a,c,by rw [← hAF];simp,hsn.symm,fun x hx=>?_,_,takesI (As:=[pt b4 (.cells [.map (some bm)].toArray 83 (0,0)),pt b5 (.cells [.slice a F.length c].toArray 84 (0,0)),MapC Tryz.prog 88 bm (i+1) (lookG (A1++(g,⟨a',p.n+1,c',p.xs++[.int .i64 0,.int .i64 (i:Int)]⟩)::A2)),RowC 88 3 (.slice a F.length c) F.length (F.flatMap encG3),RowC 117 2 (.slice a' (p.n+1) c') (p.n+1) (p.xs++[.int .i64 0,.int .i64 (i:Int)]),PlP A1,PlP A2]) (G2:=[]) atks grc_join⟩
     rcases List.mem_append.1 hx with hx|hx
     · have:=hAn x (List.mem_append_left _ hx);omega
     · rcases List.mem_cons.1 hx with rfl|hx
       · dsimp only;omega
       · have:=hAn x (List.mem_append_right _ (List.mem_cons_of_mem _ hx));omega
   · rw [if_neg hm] at hsn
     have hm2:g ∉ A.map (·.1):=hAF ▸ hm
     have hget:=look_new hm2
     refine sw_pars2 ?_
     (refine apk ?_)
     refine then2_mk ?_
     (refine apk ?_)
     repeat' (first|((with_reducible apply kx_alloc (E:=88));exact ty_zero;(exact qcl);intro b7;(refine apk ?_))|((with_reducible apply kx_alloc (E:=117));exact ty_zero;(exact qcl);intro b8;(refine apk ?_))|((with_reducible apply kx_mgetN (kt:=88) (et:=118));kernel_rfl;exact gramK_law;exact ty_zero;rfl;rfl;exact hk;(exact atk);exact hget;(refine apk ?_))|((with_reducible apply kx_bsL (d:=some 34));exact ty_el;exact ty_inf;rfl;rfl;rfl;(exact qcs);rfl;intro bp;(refine apk ?_))|((with_reducible apply kx_bsL (d:=some 37));exact ty_el;exact ty_inf;rfl;rfl;rfl;(exact qcs);rfl;intro bg;(refine apk ?_))|(first|((with_reducible apply kx_append1);exact ty_el;exact ty_inf;rfl;rfl;rfl;(exact atk);(exact atk);rfl;omega;intro a' c';(refine apk ?_))|((with_reducible apply kx_appendN);exact ty_el;exact ty_inf;rfl;rfl;rfl;rfl;(exact atk);(exact atk);rfl;rfl;omega;intro a' c';(refine apk ?_)))|((with_reducible apply kx_mput (kt:=88) (et:=118));kernel_rfl;exact gramK_law;rfl;rfl;rfl;exact hk;(exact atk);(unfold maxLen;omega);(refine apk ?_))|exact xf|refine aw0 ?_|(refine ap2 ?_ ?_<;>try intro h)|refine aw1 ?_|(refine abx ?_;intro bb)|(refine abz ?_;intro bz)|(refine ahv ?_;intro v' hv')|(refine aac ?_;intro ac cc)|refine aw2 ?_|(refine ap4 ?_ ?_<;>try intro h)|apply True.intro)
     rw [show upd (lookG A) (.string (txG g)) (.slice (some ⟨bp,0,none⟩) 1 1)=lookG (A++(g,⟨some ⟨bp,0,none⟩,1,1,[.int .i64 0,.int .i64 (i:Int)]⟩)::[]) from look_upd_new (p:=⟨some ⟨bp,0,none⟩,1,1,[.int .i64 0,.int .i64 (i:Int)]⟩) hm2]
     refine ⟨A++(g,⟨some ⟨bp,0,none⟩,1,1,[.int .i64 0,.int .i64 (i:Int)]⟩)::[],F++[g],a',c',by rw [← hAF];simp,hsn.symm,fun x hx=>?_,_,takesI (As:=[pt b4 (.cells [.map (some bm)].toArray 83 (0,0)),pt b5 (.cells [.slice a' (F.length+1) c'].toArray 84 (0,0)),MapC Tryz.prog 88 bm (i+1) (lookG (A++(g,⟨some ⟨bp,0,none⟩,1,1,[.int .i64 0,.int .i64 (i:Int)]⟩)::[])),RowC 88 3 (.slice a' (F.length+1) c') (F.length+1) (F.flatMap encG3++[.int .u8 g.1.toNat,.int .u8 g.2.1.toNat,.int .u8 g.2.2.toNat]),pt bp (.cells [.int .i64 0,.int .i64 (i:Int)].toArray 117 (0,0)),PlP A]) (G2:=[]) atks fun h e=>?_⟩
     · rcases List.mem_append.1 hx with hx|hx
       · have:=hAn x hx;omega
       · rw [List.mem_singleton.1 hx];dsimp only;omega
     · refine grc_join h ?_
       obtain ⟨x1,y1,d1,rfl,h1,x2,y2,d2,rfl,h2,x3,y3,d3,rfl,h3,x4,y4,d4,rfl,h4,x5,y5,d5,rfl,h5,h6⟩:=e
       have hfl:(F++[g]).flatMap encG3=F.flatMap encG3++[.int .u8 g.1.toNat,.int .u8 g.2.1.toNat,.int .u8 g.2.2.toNat]:=by rw [List.flatMap_append];rfl
       rw [hfl,List.length_append,List.length_singleton]
       exact ⟨x1,_,d1,rfl,h1,x2,_,d2,rfl,h2,x3,_,d3,rfl,h3,x4,_,d4,rfl,h4,x5,_,d5,rfl,plR_lit x5 h5,y5,emp,dj_emp,un_emp.symm,all_one.1 h6,emp,emp,emp_dj,un_emp.symm,rfl,rfl⟩
 · rintro H ⟨A,F,a,c,hAF,hF,hAn,G,hp⟩
   rw [List.take_length] at hF
   have hnd:F.Nodup:=hF ▸ onceG_nodup _ _ List.nodup_nil
   have hFl:F.length<=X.length:=by
    have:=onceG_len (X.map (·.2)) []
    rw [← hF,List.length_map] at this
    simpa using this
   have hso:=sortG_tri r a c F hnd (by omega)
   refine sw_takeI hp ?_
   clear hp hgx hseq hal
   repeat' (first|(refine acl Tryz.func70 ?_;refine acr (hso) ?_;rintro v' H' ⟨gs,hgp1,hgs1,rfl⟩;refine apl ?_)|((with_reducible apply sw_draw (id:=12) 3 [(0,true),(1,true),(2,true)] [(3,false)] [(b4,.cells [.map (some bm)].toArray 83 (0,0)),(b5,.cells [.slice a F.length c].toArray 84 (0,0))]);kernel_rfl;(exact atks);kernel_rfl;intro r' hl')|exact xf|refine aw0 ?_|(refine ap2 ?_ ?_<;>try intro h)|refine aw1 ?_|(refine abx ?_;intro bb)|(refine abz ?_;intro bz)|(refine ahv ?_;intro v' hv')|(refine aac ?_;intro ac cc)|refine aw2 ?_|(refine ap4 ?_ ?_<;>try intro h)|apply True.intro)
   ((with_reducible apply fp_ret);exact res_2 rfl rfl rfl)
   have hgn:=hgp1.length_eq
   rw [← hgn]
   exact HR.out _ _ _ [RowC 88 3 (.slice a gs.length c) gs.length (gs.flatMap encG3)] atks ⟨bm,a,c,gs,by rw [sorted_grams (X:=X.map (·.2)) (by rw [← hF];exact hgp1) hgs1,← hgp,List.map_map];rfl,rfl,rfl⟩
theorem Sx.pu_slAll {P:Program} {r:Hp} {t:List Value} {d:Option Tmp} {ty:TypeId} {pos:String} {af:Array Edge} {gd:Option (Nat × Bool)} {T E:TypeId} {m sz:Nat} {x:Operand} {b:Nat} (hu:P.underlying T=some (.array m E)) (hs:sizeB P E=some sz) (hx:evO t x=some (.pointer (some ⟨b,0,none⟩))) (h0:0<m) :
 Pur P r t ⟨d,.slice T x none none none,ty,pos,af,gd⟩ (.slice (some ⟨b,0,none⟩) m m) :=
 ⟨rfl,fun w _=>by
  have h1:¬ m=0:=by omega
  simp [execOp,Instr.sliceAt,Instr.sureAddr,Instr.sliceBounds,ev_of hx,Sem.run_bind,Result.andThen,run_underlying hu,run_sizeOf hs,Addr.add]⟩
theorem row_lenG (l:List Tx):(sortBy id l).length<=l.length:=by
 have h : ∀ (l m:List Tx),(l.foldl (insBy id) m).length<=m.length+l.length:=fun l=>by
  induction l with
  | nil=>intro m;simp
  | cons x l ih =>
   intro m
   have h1:=ih (insBy id m x)
   have h2:(insBy id m x).length<=m.length+1:=by
    clear h1 ih
    induction m with
    | nil=>simp [insBy]
    | cons y m ihm =>
     unfold insBy
     split
     · simp only [List.length_cons];omega
     · split
       · simp
       · simp
   simp only [List.foldl_cons,List.length_cons];omega
 have:=h l []
 simpa [sortBy] using this
theorem byts_u8s : ∀ l:List UInt8,Byts (u8s l) l
 | []=> .nil
 | a::l=>by
  have h:=Byts.cons (n:=(a.toNat:Int)) (cs:=u8s l) (bl:=l) (by have:=a.toNat_lt;omega) (byts_u8s l)
  rw [show UInt8.ofNat ((a.toNat:Int)).toNat=a by simp] at h
  exact h
theorem ggrams_any (r:Hp) (v:Value) (l:List UInt8) (hv:U8S r v l) (hl:l.length<=1000000):Tri Tryz.prog r 16 [v] [] fun w H => ∃ a c,w = .slice a (sortBy id (partsT l)).length c/\H=[TxC a c (sortBy id (partsT l))]:=by
 have hpl:=places_any r v l hv hl
 have hsl:(sortBy id (partsT l)).length<=1000000:=by
  have h2:=partsN_len l
  have h3:=row_lenG (partsT l)
  omega
 obtain ⟨S,hS⟩ : ∃ S,sortBy id (partsT l)=S:=⟨_,rfl⟩
 rw [hS] at hpl hsl ⊢
 refine Tri.free2 fun R HR=>?_
 refine ae Tryz.func16 Tryz.ntmps16 ?_
 repeat' (first|(refine acl Tryz.func39 ?_;refine acr (hpl) ?_;rintro v' H' ⟨bm,a0,c0,gs,hgs,rfl,rfl⟩;refine apl ?_)|exact xf|refine aw0 ?_|(refine ap2 ?_ ?_<;>try intro h)|refine aw1 ?_|(refine abx ?_;intro bb)|(refine abz ?_;intro bz)|(refine ahv ?_;intro v' hv')|(refine aac ?_;intro ac cc)|refine aw2 ?_|(refine ap4 ?_ ?_<;>try intro h)|apply True.intro)
 have hgl:gs.length=S.length:=by rw [← hgs,List.length_map]
 refine sw_put (A:=TxC none 0 []) (RowC.nil _ _) ?_
 refine sw_lendQ (A:=RowC 88 3 (.slice a0 gs.length c0) gs.length (gs.flatMap encG3)) atk fun r2 g2 hr2 hg2 hA2=>?_
 have hE:Els r2 3 encG3 (.slice a0 gs.length c0) gs:=⟨fun _=>rfl,hA2.sl hg2⟩
 refine sw_loop (fun gm t H' => ∃ (k:Nat) (a:Option Addr) (c:Nat),gm=gs.length+1 - k/\(k<=gs.length)/\(∃ G,Takes [TxC a c ((gs.take k).map txG)] H' G)/\Sls t 25 [(2,.slice a ((gs.take k).map txG).length c),(12,.slice a0 gs.length c0),(13,.int .i64 gs.length),(14,.int .i64 k)]) _ ⟨0,none,0,rfl,Nat.zero_le _,⟨_,atks⟩,asls⟩ ?_
 rintro gm t H' ⟨k,a,c,rfl,hk,⟨G,hp⟩,hs'⟩
 revert t;refine sls_all ?_;iterate 21 intro uu'
 refine sw_takeG hp ?_;clear hp
 by_cases hlt:k<gs.length
 · obtain ⟨g,hx⟩ : ∃ g,gs.getD k default=g:=⟨_,rfl⟩
   have hse:encG3 g=[.int .u8 g.1.toNat,.int .u8 g.2.1.toNat,.int .u8 g.2.2.toNat]:=rfl
   have htk:(gs.take (k+1)).map txG=(gs.take k).map txG++[txG g]:=by rw [take_getD (d:=default) hlt,hx,List.map_append];rfl
   have htl:((gs.take k).map txG).length<=gs.length:=by rw [List.length_map,List.length_take];omega
   obtain ⟨Y,hY⟩ : ∃ Y,(gs.take k).map txG=Y:=⟨_,rfl⟩
   rw [hY] at htk htl
   rw [hY]
   have hln2:((gs.take (k+1)).map txG).length=Y.length+1:=by rw [htk,List.length_append];rfl
   repeat' (first|(rw [hx])|(rw [hse])|((with_reducible apply kx_alloc (E:=88));exact ty_zero;(exact qcl);intro b6;(refine apk ?_))|((with_reducible apply swo_pur);(with_reducible apply pu_slAll);exact Tryz.underlying88;exact ty_size;rfl;omega;(refine apk ?_))|((with_reducible apply kx_b2sp (b:=b6) (bl:=txG g) (cs:=[.int .u8 g.1.toNat,.int .u8 g.2.1.toNat,.int .u8 g.2.2.toNat]));exact ty_el;kernel_rfl;kernel_rfl;rfl;(exact atk);exact byts_u8s (txG g);rfl;(refine apk ?_))|(first|((with_reducible apply kx_append1);exact ty_el;exact ty_inf;rfl;rfl;rfl;(exact atk);(exact atk);rfl;omega;intro a' c';(refine apk ?_))|((with_reducible apply kx_appendN);exact ty_el;exact ty_inf;rfl;rfl;rfl;rfl;(exact atk);(exact atk);rfl;rfl;omega;intro a' c';(refine apk ?_)))|exact xf|refine aw0 ?_|(refine ap2 ?_ ?_<;>try intro h)|refine aw1 ?_|(refine abx ?_;intro bb)|(refine abz ?_;intro bz)|(refine ahv ?_;intro v' hv')|(refine aac ?_;intro ac cc)|refine aw2 ?_|(refine ap4 ?_ ?_<;>try intro h)|apply True.intro)
   exact ⟨_,by omega,k+1,a',c',rfl,by omega,⟨_,by rw [htk,txC_snoc];exact atks⟩,asls⟩
 · obtain rfl:k=gs.length:=by omega
   rw [List.take_length,hgs]
   repeat' (first|exact xf|refine aw0 ?_|(refine ap2 ?_ ?_<;>try intro h)|refine aw1 ?_|(refine abx ?_;intro bb)|(refine abz ?_;intro bz)|(refine ahv ?_;intro v' hv')|(refine aac ?_;intro ac cc)|refine aw2 ?_|(refine ap4 ?_ ?_<;>try intro h)|apply True.intro)
   ((with_reducible apply fp_ret);exact res_1 rfl rfl)
   exact HR.out _ _ _ [TxC a c S] atks ⟨a,c,rfl,rfl⟩
end Go.Proofs.YteknekiclhnkiaaGreatDoor
