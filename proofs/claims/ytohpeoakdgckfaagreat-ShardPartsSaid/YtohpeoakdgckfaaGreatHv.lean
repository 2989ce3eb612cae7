/- shard: have, Files, Docs, Bytes, at, Lines, Places: their contracts. -/
import Derived.Test.YtohpeoakdgckfaaGreatPu
import Derived.Test.YtohpeoakdgckfaaGreatGo
import Derived.Test.YtohpeoakdgckfaaGreatSv
import Derived.Test.YtohpeoakdgckfaaGreatSf
import Derived.Test.YtohpeoakdgckfaaGreatLi
set_option maxHeartbeats 2000000
set_option maxRecDepth 10000
namespace Go.Proofs.YtohpeoakdgckfaaGreat
open Go.RowKit Sx
namespace Sx
section
variable {P : Program} {r : Hp} {t : List Value} {d : Option Tmp} {ty : TypeId} {pos : String} {af : Array Edge} {gd : Option (Nat × Bool)}
theorem zsv {T:TypeId} (h:kdB P T=some .ptr) : ∃ u,P.underlying T=some (.pointer u):=by
 unfold kdB at h
 split at h<;>first|(cases h;done)|exact ⟨_,by assumption⟩
theorem zcu {T:TypeId} {x:Option Addr} {w:World} [h:TyKd P T .ptr]:(Op.equal T (.pointer x) (.pointer none)).run P w = .ok x.isNone w:=by
 obtain ⟨u,hu⟩:=zsv h.kd
 show (Op.equalIn (9999+1) T (.pointer x) (.pointer none)).run P w=_
 unfold Op.equalIn
 cases x<;>simp [Sem.run_bind,Sem.run_pure,Result.andThen,run_underlying hu]
theorem z1p {T T':TypeId} {x y:Operand} [TyKd P T .ptr] (hx:evO t x=some (.pointer none)) (hy:evO t y=some (.pointer none)):Pur P r t ⟨d,.binOp .eql T x y T',ty,pos,af,gd⟩ (.bool true):=by
 refine ⟨rfl,fun w _=>?_⟩
 simp [execOp,ev_of hx,ev_of hy,eqGuard,binOp,Result.andThen,zcu]
theorem z1q {T T':TypeId} {x y:Operand} {a:Addr} [TyKd P T .ptr] (hx:evO t x=some (.pointer (some a))) (hy:evO t y=some (.pointer none)):Pur P r t ⟨d,.binOp .eql T x y T',ty,pos,af,gd⟩ (.bool false):=by
 refine ⟨rfl,fun w _=>?_⟩
 simp [execOp,ev_of hx,ev_of hy,eqGuard,binOp,Result.andThen,zcu]
theorem z1r {T T':TypeId} {x y:Operand} [TyKd P T .ptr] (hx:evO t x=some (.pointer none)) (hy:evO t y=some (.pointer none)):Pur P r t ⟨d,.binOp .neq T x y T',ty,pos,af,gd⟩ (.bool false):=by
 refine ⟨rfl,fun w _=>?_⟩
 simp [execOp,ev_of hx,ev_of hy,eqGuard,binOp,Result.andThen,zcu]
theorem z1s {T T':TypeId} {x y:Operand} {a:Addr} [TyKd P T .ptr] (hx:evO t x=some (.pointer (some a))) (hy:evO t y=some (.pointer none)):Pur P r t ⟨d,.binOp .neq T x y T',ty,pos,af,gd⟩ (.bool true):=by
 refine ⟨rfl,fun w _=>?_⟩
 simp [execOp,ev_of hx,ev_of hy,eqGuard,binOp,Result.andThen,zcu]
end
end Sx
end Go.Proofs.YtohpeoakdgckfaaGreat
namespace Go.Proofs.YtohpeoakdgckfaaGreat
open Go.RowKit Sx
def Cont (r:Hp) (vd vf vp:Value) (ks:List KeyF):Prop:=Docs r vd (ks.map docOfK)/\(∃ Z,Files r vf Z/\Z.map FileV.key=ks) /\ ∃ Y,Posts r vp Y/\Y.map unP=makeP (ks.map (·.2))
theorem zev:makeP []=[]:=by unfold makeP;simp [occs,grams]
theorem zio (r:Hp):Cont r (.slice none 0 0) (.slice none 0 0) (.slice none 0 0) [] :=
 ⟨⟨fun _=>rfl,Sl.nil _ _⟩,⟨[],⟨⟨fun _=>rfl,Sl.nil _ _⟩,fun f hf=>by cases hf⟩,rfl⟩,[],⟨⟨fun _=>rfl,Sl.nil _ _⟩,fun f hf=>by cases hf⟩,zev.symm⟩
theorem zcv (r:Hp) (v:Value) (ks:List KeyF) (h:ShR r v ks):Tri Tryz.prog r 72 [v] [] fun w H => ∃ vd vf vp,w = .agg [vd,vf,vp].toArray/\H=[]/\Cont r vd vf vp ks:=by
 refine Tri.free2 fun R HR=>?_
 rcases h with ⟨rfl,rfl⟩ | ⟨p,rfl,h1,rfl⟩ | ⟨p,q,vd,vf,vp,Z,Y,rfl,h1,h2,h4,h5,h6,h7,h8⟩
 · refine ae Tryz.func72 Tryz.ntmps72 ?_
   repeat' (first|((with_reducible apply z0z);(first|((with_reducible apply z1p);rfl;rfl)|((with_reducible apply z1q);rfl;rfl)|((with_reducible apply z1r);rfl;rfl)|((with_reducible apply z1s);rfl;rfl));(refine apk ?_))|((with_reducible apply z0c (E:=114));exact z0l;(exact qcl);intro b2;(refine apk ?_))|refine aw0 ?_|(refine ap2 ?_ ?_<;>try intro h)|refine aw1 ?_|(refine abx ?_;intro bb)|(refine abz ?_;intro bz)|(refine ahv ?_;intro v' hv')|(refine aac ?_;intro ac cc)|refine aw2 ?_|(refine ap4 ?_ ?_<;>try intro h)|apply True.intro)
   ((with_reducible apply z00);exact res_W rfl rfl atk z0a z08 rfl)
   exact HR.out _ _ _ [] Takes.all ⟨_,_,_,rfl,rfl,zio r⟩
 · refine ae Tryz.func72 Tryz.ntmps72 ?_
   repeat' (first|((with_reducible apply z0z);(first|((with_reducible apply z1p);rfl;rfl)|((with_reducible apply z1q);rfl;rfl)|((with_reducible apply z1r);rfl;rfl)|((with_reducible apply z1s);rfl;rfl));(refine apk ?_))|((with_reducible apply z0c (E:=114));exact z0l;(exact qcl);intro b2;(refine apk ?_))|refine aw0 ?_|(refine ap2 ?_ ?_<;>try intro h)|refine aw1 ?_|(refine abx ?_;intro bb)|(refine abz ?_;intro bz)|(refine ahv ?_;intro v' hv')|(refine aac ?_;intro ac cc)|refine aw2 ?_|(refine ap4 ?_ ?_<;>try intro h)|apply True.intro)
   ((with_reducible apply z00);exact res_W rfl rfl atk z0a z08 rfl)
   exact HR.out _ _ _ [] Takes.all ⟨_,_,_,rfl,rfl,zio r⟩
 · have h5e:=h5.1
   have h7e:=h7.1
   refine ae Tryz.func72 Tryz.ntmps72 ?_
   repeat' (first|((with_reducible apply z0z);(first|((with_reducible apply z1p);rfl;rfl)|((with_reducible apply z1q);rfl;rfl)|((with_reducible apply z1r);rfl;rfl)|((with_reducible apply z1s);rfl;rfl));(refine apk ?_))|((with_reducible apply z0c (E:=114));exact z0l;(exact qcl);intro b2;(refine apk ?_))|refine aw0 ?_|(refine ap2 ?_ ?_<;>try intro h)|refine aw1 ?_|(refine abx ?_;intro bb)|(refine abz ?_;intro bz)|(refine ahv ?_;intro v' hv')|(refine aac ?_;intro ac cc)|refine aw2 ?_|(refine ap4 ?_ ?_<;>try intro h)|apply True.intro)
   ((with_reducible apply z00);exact res_W rfl rfl atk z0a z08 rfl)
   exact HR.out _ _ _ [] Takes.all ⟨_,_,_,rfl,rfl,h4,⟨Z,h5,h6⟩,Y,h7,h8⟩
theorem zlz (r:Hp) (v:Value) (ks:List KeyF) (h:ShR r v ks) (hn:ks.length<=1000000):Tri Tryz.prog r 56 [v] [] fun w H => ∃ a c,w = .slice a ks.length c/\H=[DocR w (ks.map docOfK)]:=by
 refine Tri.free2 fun R HR=>?_
 have hh:=zcv r v ks h
 refine ae Tryz.func56 Tryz.ntmps56 ?_
 repeat' (first|(refine acl Tryz.func72 ?_;refine acr (hh) ?_;rintro v' H' ⟨vd,vf,vp,rfl,rfl,hd,hf,hp⟩;refine apl ?_)|(refine acl Tryz.func128 ?_;refine acr (zcg r vd _ hd (by rw [List.length_map];exact hn)) ?_;rintro v' H' ⟨a,c,rfl,rfl⟩;refine apl ?_)|refine aw0 ?_|(refine ap2 ?_ ?_<;>try intro h)|refine aw1 ?_|(refine abx ?_;intro bb)|(refine abz ?_;intro bz)|(refine ahv ?_;intro v' hv')|(refine aac ?_;intro ac cc)|refine aw2 ?_|(refine ap4 ?_ ?_<;>try intro h)|apply True.intro)
 ((with_reducible apply z00);exact res_1 rfl rfl)
 exact HR.out _ _ _ [DocR _ _] atks ⟨a,c,by rw [List.length_map],rfl⟩
theorem zka (r:Hp) (v:Value) (ks:List KeyF) (h:ShR r v ks) (hn:ks.length<=1000000) (hl : ∀ k∈ks,k.2.length<=1000000):Tri Tryz.prog r 24 [v] [] fun w H => ∃ a c,w = .slice a ks.length c/\H=[FilC w ks]:=by
 refine Tri.free2 fun R HR=>?_
 have hh:=zcv r v ks h
 refine ae Tryz.func24 Tryz.ntmps24 ?_
 refine z0f (A:=RowC 45 2 (.slice none 0 0) 0 []) (RowC.nil _ _) ?_
 refine z0f (A:=ByC []) rfl ?_
 repeat' (first|(refine acl Tryz.func72 ?_;refine acr (hh) ?_;rintro v' H' ⟨vd,vf,vp,rfl,rfl,hd,hf,hp⟩;refine apl ?_)|(obtain ⟨Z,hf,hZ⟩:=hf;obtain ⟨hfe,hfb⟩:=hf;have hZl:Z.length=ks.length:=(by rw [← hZ,List.length_map]))|refine aw0 ?_|(refine ap2 ?_ ?_<;>try intro h)|refine aw1 ?_|(refine abx ?_;intro bb)|(refine abz ?_;intro bz)|(refine ahv ?_;intro v' hv')|(refine aac ?_;intro ac cc)|refine aw2 ?_|(refine ap4 ?_ ?_<;>try intro h)|apply True.intro)
 refine z04 (fun gm t H' => ∃ (k:Nat) (W:List FileV) (a:Option Addr) (c:Nat),gm=Z.length+1 - k/\(k<=Z.length)/\(W.map FileV.key=ks.take k)/\(∃ G,Takes [RowC 45 2 (.slice a k c) k (W.flatMap encF),ByC (W.map bytF)] H' G)/\Sls t 24 [(2,.slice a k c),(7,vf),(8,.int .i64 Z.length),(9,.int .i64 k)]) _ ⟨0,[],none,0,rfl,Nat.zero_le _,rfl,⟨_,atks⟩,asls⟩ ?_
 rintro gm t H' ⟨k,W,a,c,rfl,hk,hW,⟨G,hp⟩,hs'⟩
 revert t;refine z06 ?_;iterate 20 intro uu'
 refine z01 hp ?_;clear hp
 have hWl:W.length=k:=by have h:=congrArg List.length hW;rw [List.length_map,List.length_take] at h;omega
 by_cases hlt:k<Z.length
 · have hm:=z0g hlt
   have hb:=hfb _ hm
   have hks:ks.take (k+1)=ks.take k++[(Z.getD k default).key]:=by
    rw [← hZ,← List.map_take,← List.map_take,z10 (d:=default) hlt,List.map_append];rfl
   have hbl:(Z.getD k default).data.length<=1000000:=hl _ (by rw [← hZ];exact List.mem_map_of_mem hm)
   obtain ⟨⟨fp,fv,fd⟩,hx⟩ : ∃ x,Z.getD k default=x:=⟨_,rfl⟩
   rw [hx] at hb hks hbl
   dsimp only at hb hbl
   have hfe2:encF ⟨fp,fv,fd⟩=[.string (bs fp),fv]:=rfl
   have hcl:=fun r' (hr:sub r r')=>z2u r' fv fd (hb.mono hr) (by omega)
   repeat' (first|(rw [hx,hfe2])|((with_reducible apply z0c (E:=45));exact z0l;(exact qcl);intro b4;(refine apk ?_))|((with_reducible apply z02 (id:=4) 9 [(0,true),(1,true),(2,true),(3,true),(4,true),(5,false),(6,true),(7,false),(8,false)] [(9,false)] [(b4,.cells [.string (bs fp),fv].toArray 45 (0,0))]);kernel_rfl;(exact atks);kernel_rfl;intro r' hl')|(refine acl Tryz.func73 ?_;refine acr (hcl _ hl'.1) ?_;rintro v' H' ⟨a1,c1,rfl,rfl⟩;refine apl ?_)|(first|((with_reducible apply z0t);exact ty_el;exact z03;rfl;rfl;rfl;intro bz;(refine apk ?_))|((with_reducible apply z0y);exact ty_el;exact z03;rfl;rfl;rfl;intro bz;(refine apk ?_)))|((with_reducible refine z0u ?_);(with_reducible apply z0k [(bz,.cells [.string (bs fp),.slice a1 fd.length c1].toArray 45 (0,0))]);(exact atks);intro r2 hl2;(with_reducible apply z0v (news:=[.string (bs fp),.slice a1 fd.length c1]));exact ty_el;exact z03;rfl;rfl;rfl;rfl;exact (Sl.lit (n:=1) (Lent.h1 hl2) rfl (by simp [maxLen]));(exact atk);rfl;(unfold maxLen;omega);(omega);intro a' c';refine apm ?_)|((with_reducible apply z0b (c:= .region 5 _ _) (As:=[ByC (W.map bytF),U8R (.slice a1 fd.length c1) fd]) (D:=ByC ((W++[(⟨fp,.slice a1 fd.length c1,fd⟩:FileV)]).map bytF)));((exact atks));(exact fun h e=>by rw [List.map_append];exact z38 h e))|exact xf|refine aw0 ?_|(refine ap2 ?_ ?_<;>try intro h)|refine aw1 ?_|(refine abx ?_;intro bb)|(refine abz ?_;intro bz)|(refine ahv ?_;intro v' hv')|(refine aac ?_;intro ac cc)|refine aw2 ?_|(refine ap4 ?_ ?_<;>try intro h)|apply True.intro)
   exact ⟨_,by omega,k+1,W++[(⟨fp,.slice a1 fd.length c1,fd⟩:FileV)],a',c',rfl,by omega,by rw [List.map_append,hW,hks];rfl,⟨_,by rw [List.flatMap_append];exact atks⟩,asls⟩
 · obtain rfl:k=Z.length:=by omega
   refine z0b (As:=[RowC 45 2 (.slice a Z.length c) Z.length (W.flatMap encF),ByC (W.map bytF)]) (D:=FilC (.slice a Z.length c) ks) atks (fun h e=>⟨W,by rw [hW,hZl,List.take_length],by rw [hWl];exact e⟩) ?_
   repeat' (first|exact xf|refine aw0 ?_|(refine ap2 ?_ ?_<;>try intro h)|refine aw1 ?_|(refine abx ?_;intro bb)|(refine abz ?_;intro bz)|(refine ahv ?_;intro v' hv')|(refine aac ?_;intro ac cc)|refine aw2 ?_|(refine ap4 ?_ ?_<;>try intro h)|apply True.intro)
   ((with_reducible apply z00);exact res_1 rfl rfl)
   exact HR.out _ _ _ [FilC _ _] atks ⟨a,c,by rw [hZl],rfl⟩
theorem ziq (r:Hp) (q:Nat) (vd vf vp:Value) (n:Nat) (xs:List Value) (i:Int) (hq:r q=some (.cells [vd,vf,vp].toArray 114 (0,0))) (hf:Sl r 2 vf n xs):Tri Tryz.prog r 74 [.pointer (some ⟨q,0,none⟩),.int .i64 i] [] fun w H=>w = .bool (decide (0<=i) && decide (i<n))/\H=[]:=by
 refine Tri.free2 fun R HR=>?_
 by_cases h0:0<=i
 · rw [decide_eq_true h0,Bool.true_and] at HR
   refine ae Tryz.func74 Tryz.ntmps74 ?_
   repeat' (first|((with_reducible apply z0z);(first|((with_reducible apply z1p);rfl;rfl)|((with_reducible apply z1q);rfl;rfl)|((with_reducible apply z1r);rfl;rfl)|((with_reducible apply z1s);rfl;rfl));(refine apk ?_))|exact xf|refine aw0 ?_|(refine ap2 ?_ ?_<;>try intro h)|refine aw1 ?_|(refine abx ?_;intro bb)|(refine abz ?_;intro bz)|(refine ahv ?_;intro v' hv')|(refine aac ?_;intro ac cc)|refine aw2 ?_|(refine ap4 ?_ ?_<;>try intro h)|apply True.intro)
   ((with_reducible apply z00);exact res_1 rfl rfl)
   exact HR.out _ _ _ [] atks ⟨rfl,rfl⟩
 · rw [decide_eq_false h0,Bool.false_and] at HR
   refine ae Tryz.func74 Tryz.ntmps74 ?_
   repeat' (first|((with_reducible apply z0z);(first|((with_reducible apply z1p);rfl;rfl)|((with_reducible apply z1q);rfl;rfl)|((with_reducible apply z1r);rfl;rfl)|((with_reducible apply z1s);rfl;rfl));(refine apk ?_))|exact xf|refine aw0 ?_|(refine ap2 ?_ ?_<;>try intro h)|refine aw1 ?_|(refine abx ?_;intro bb)|(refine abz ?_;intro bz)|(refine ahv ?_;intro v' hv')|(refine aac ?_;intro ac cc)|refine aw2 ?_|(refine ap4 ?_ ?_<;>try intro h)|apply True.intro)
   ((with_reducible apply z00);exact res_1 rfl rfl)
   exact HR.out _ _ _ [] atks ⟨rfl,rfl⟩
theorem zpz (r:Hp) (i:Int):Tri Tryz.prog r 74 [.pointer none,.int .i64 i] [] fun w H=>w = .bool false/\H=[]:=by
 refine Tri.free2 fun R HR=>?_
 refine ae Tryz.func74 Tryz.ntmps74 ?_
 repeat' (first|((with_reducible apply z0z);(first|((with_reducible apply z1p);rfl;rfl)|((with_reducible apply z1q);rfl;rfl)|((with_reducible apply z1r);rfl;rfl)|((with_reducible apply z1s);rfl;rfl));(refine apk ?_))|exact xf|refine aw0 ?_|(refine ap2 ?_ ?_<;>try intro h)|refine aw1 ?_|(refine abx ?_;intro bb)|(refine abz ?_;intro bz)|(refine ahv ?_;intro v' hv')|(refine aac ?_;intro ac cc)|refine aw2 ?_|(refine ap4 ?_ ?_<;>try intro h)|apply True.intro)
 ((with_reducible apply z00);exact res_1 rfl rfl)
 exact HR.out _ _ _ [] atks ⟨rfl,rfl⟩
def dataAt (ks:List KeyF) (i:Int):List UInt8:=if 0<=i/\i<ks.length then (ks.getD i.toNat default).2 else []
theorem zb9 (r:Hp) (v:Value) (ks:List KeyF) (i:Int) (h:ShR r v ks) (hl : ∀ k∈ks,k.2.length<=1000000):Tri Tryz.prog r 60 [v,.int .i64 i] [] fun w H => ∃ a c,w = .slice a (dataAt ks i).length c/\H=[U8R w (dataAt ks i)]:=by
 refine Tri.free2 fun R HR=>?_
 rcases h with ⟨rfl,rfl⟩ | ⟨p,rfl,h1,rfl⟩ | ⟨p,q,vd,vf,vp,Z,Y,rfl,h1,h2,h4,h5,h6,h7,h8⟩
 · rw [show dataAt [] i=[] by unfold dataAt;rw [if_neg (by simp)]] at HR
   refine ae Tryz.func60 Tryz.ntmps60 ?_
   refine z0f (A:=U8R (.slice none 0 0) []) (RowC.nil _ _) ?_
   repeat' (first|((with_reducible apply z0z);(first|((with_reducible apply z1p);rfl;rfl)|((with_reducible apply z1q);rfl;rfl)|((with_reducible apply z1r);rfl;rfl)|((with_reducible apply z1s);rfl;rfl));(refine apk ?_))|exact xf|refine aw0 ?_|(refine ap2 ?_ ?_<;>try intro h)|refine aw1 ?_|(refine abx ?_;intro bb)|(refine abz ?_;intro bz)|(refine ahv ?_;intro v' hv')|(refine aac ?_;intro ac cc)|refine aw2 ?_|(refine ap4 ?_ ?_<;>try intro h)|apply True.intro)
   ((with_reducible apply z00);exact res_1 rfl rfl)
   exact HR.out _ _ _ [U8R (.slice none 0 0) []] atks ⟨_,_,rfl,rfl⟩
 · rw [show dataAt [] i=[] by unfold dataAt;rw [if_neg (by simp)]] at HR
   refine ae Tryz.func60 Tryz.ntmps60 ?_
   refine z0f (A:=U8R (.slice none 0 0) []) (RowC.nil _ _) ?_
   repeat' (first|((with_reducible apply z0z);(first|((with_reducible apply z1p);rfl;rfl)|((with_reducible apply z1q);rfl;rfl)|((with_reducible apply z1r);rfl;rfl)|((with_reducible apply z1s);rfl;rfl));(refine apk ?_))|(refine acl Tryz.func74 ?_;refine acr (zpz r i) ?_;rintro v' H' ⟨rfl,rfl⟩;refine apl ?_)|exact xf|refine aw0 ?_|(refine ap2 ?_ ?_<;>try intro h)|refine aw1 ?_|(refine abx ?_;intro bb)|(refine abz ?_;intro bz)|(refine ahv ?_;intro v' hv')|(refine aac ?_;intro ac cc)|refine aw2 ?_|(refine ap4 ?_ ?_<;>try intro h)|apply True.intro)
   ((with_reducible apply z00);exact res_1 rfl rfl)
   exact HR.out _ _ _ [U8R (.slice none 0 0) []] atks ⟨_,_,rfl,rfl⟩
 · obtain ⟨hfe,hfb⟩:=h5
   have hZl:Z.length=ks.length:=by rw [← h6,List.length_map]
   have hat:=ziq r q vd vf vp Z.length _ i h2 hfe.2
   by_cases hi:0<=i/\i<ks.length
   · obtain ⟨j,rfl⟩ : ∃ j:Nat,i=j:=⟨i.toNat,by omega⟩
     have hlt:j<Z.length:=by omega
     have hm:=z0g hlt
     have hkd:ks.getD j default=(Z.getD j default).key:=by
      rw [← h6,List.getD_eq_getElem?_getD,List.getElem?_map,List.getElem?_eq_getElem hlt,List.getD_eq_getElem?_getD,List.getElem?_eq_getElem hlt];rfl
     have hb:=hfb _ hm
     have hbl:(Z.getD j default).data.length<=1000000:=hl _ (by rw [← h6];exact List.mem_map_of_mem hm)
     rw [show dataAt ks j=(Z.getD j default).data by unfold dataAt;rw [if_pos hi,Int.toNat_natCast,hkd]] at HR
     have hcl:=z2u r _ _ hb (by omega)
     rw [decide_eq_true hi.1,decide_eq_true (show (j:Int)<Z.length by omega)] at hat
     refine ae Tryz.func60 Tryz.ntmps60 ?_
     repeat' (first|((with_reducible apply z0z);(first|((with_reducible apply z1p);rfl;rfl)|((with_reducible apply z1q);rfl;rfl)|((with_reducible apply z1r);rfl;rfl)|((with_reducible apply z1s);rfl;rfl));(refine apk ?_))|(refine acl Tryz.func74 ?_;refine acr (hat) ?_;rintro v' H' ⟨rfl,rfl⟩;refine apl ?_)|(refine acl Tryz.func73 ?_;refine acr (hcl) ?_;rintro v' H' ⟨a,c,rfl,rfl⟩;refine apl ?_)|exact xf|refine aw0 ?_|(refine ap2 ?_ ?_<;>try intro h)|refine aw1 ?_|(refine abx ?_;intro bb)|(refine abz ?_;intro bz)|(refine ahv ?_;intro v' hv')|(refine aac ?_;intro ac cc)|refine aw2 ?_|(refine ap4 ?_ ?_<;>try intro h)|apply True.intro)
     ((with_reducible apply z00);exact res_1 rfl rfl)
     exact HR.out _ _ _ [U8R _ _] atks ⟨_,_,rfl,rfl⟩
   · rw [show dataAt ks i=[] by unfold dataAt;rw [if_neg hi]] at HR
     rw [show (decide (0<=i) && decide (i<(Z.length:Int)))=false by rw [← Bool.decide_and];exact decide_eq_false (by omega)] at hat
     refine ae Tryz.func60 Tryz.ntmps60 ?_
     refine z0f (A:=U8R (.slice none 0 0) []) (RowC.nil _ _) ?_
     repeat' (first|((with_reducible apply z0z);(first|((with_reducible apply z1p);rfl;rfl)|((with_reducible apply z1q);rfl;rfl)|((with_reducible apply z1r);rfl;rfl)|((with_reducible apply z1s);rfl;rfl));(refine apk ?_))|(refine acl Tryz.func74 ?_;refine acr (hat) ?_;rintro v' H' ⟨rfl,rfl⟩;refine apl ?_)|exact xf|refine aw0 ?_|(refine ap2 ?_ ?_<;>try intro h)|refine aw1 ?_|(refine abx ?_;intro bb)|(refine abz ?_;intro bz)|(refine ahv ?_;intro v' hv')|(refine aac ?_;intro ac cc)|refine aw2 ?_|(refine ap4 ?_ ?_<;>try intro h)|apply True.intro)
     ((with_reducible apply z00);exact res_1 rfl rfl)
     exact HR.out _ _ _ [U8R (.slice none 0 0) []] atks ⟨_,_,rfl,rfl⟩
theorem z7v (r:Hp) (v:Value) (ks:List KeyF) (i:Int) (h:ShR r v ks) (hl : ∀ k∈ks,k.2.length<=1000000):Tri Tryz.prog r 27 [v,.int .i64 i] [] fun w H => ∃ a c,w = .slice a (if 0<=i/\i<ks.length then linesOf (dataAt ks i) else []).length c/\H=[NatR w (if 0<=i/\i<ks.length then linesOf (dataAt ks i) else [])]:=by
 refine Tri.free2 fun R HR=>?_
 rcases h with ⟨rfl,rfl⟩ | ⟨p,rfl,h1,rfl⟩ | ⟨p,q,vd,vf,vp,Z,Y,rfl,h1,h2,h4,h5,h6,h7,h8⟩
 · rw [if_neg (by simp)] at HR
   refine ae Tryz.func27 Tryz.ntmps27 ?_
   refine z0f (A:=NatR (.slice none 0 0) []) (RowC.nil _ _) ?_
   repeat' (first|((with_reducible apply z0z);(first|((with_reducible apply z1p);rfl;rfl)|((with_reducible apply z1q);rfl;rfl)|((with_reducible apply z1r);rfl;rfl)|((with_reducible apply z1s);rfl;rfl));(refine apk ?_))|exact xf|refine aw0 ?_|(refine ap2 ?_ ?_<;>try intro h)|refine aw1 ?_|(refine abx ?_;intro bb)|(refine abz ?_;intro bz)|(refine ahv ?_;intro v' hv')|(refine aac ?_;intro ac cc)|refine aw2 ?_|(refine ap4 ?_ ?_<;>try intro h)|apply True.intro)
   ((with_reducible apply z00);exact res_1 rfl rfl)
   exact HR.out _ _ _ [NatR (.slice none 0 0) []] atks ⟨_,_,rfl,rfl⟩
 · rw [if_neg (by simp)] at HR
   refine ae Tryz.func27 Tryz.ntmps27 ?_
   refine z0f (A:=NatR (.slice none 0 0) []) (RowC.nil _ _) ?_
   repeat' (first|((with_reducible apply z0z);(first|((with_reducible apply z1p);rfl;rfl)|((with_reducible apply z1q);rfl;rfl)|((with_reducible apply z1r);rfl;rfl)|((with_reducible apply z1s);rfl;rfl));(refine apk ?_))|(refine acl Tryz.func74 ?_;refine acr (zpz r i) ?_;rintro v' H' ⟨rfl,rfl⟩;refine apl ?_)|exact xf|refine aw0 ?_|(refine ap2 ?_ ?_<;>try intro h)|refine aw1 ?_|(refine abx ?_;intro bb)|(refine abz ?_;intro bz)|(refine ahv ?_;intro v' hv')|(refine aac ?_;intro ac cc)|refine aw2 ?_|(refine ap4 ?_ ?_<;>try intro h)|apply True.intro)
   ((with_reducible apply z00);exact res_1 rfl rfl)
   exact HR.out _ _ _ [NatR (.slice none 0 0) []] atks ⟨_,_,rfl,rfl⟩
 · obtain ⟨hfe,hfb⟩:=h5
   have hZl:Z.length=ks.length:=by rw [← h6,List.length_map]
   have hat:=ziq r q vd vf vp Z.length _ i h2 hfe.2
   by_cases hi:0<=i/\i<ks.length
   · obtain ⟨j,rfl⟩ : ∃ j:Nat,i=j:=⟨i.toNat,by omega⟩
     have hlt:j<Z.length:=by omega
     have hm:=z0g hlt
     have hkd:ks.getD j default=(Z.getD j default).key:=by
      rw [← h6,List.getD_eq_getElem?_getD,List.getElem?_map,List.getElem?_eq_getElem hlt,List.getD_eq_getElem?_getD,List.getElem?_eq_getElem hlt];rfl
     have hb:=hfb _ hm
     have hbl:(Z.getD j default).data.length<=1000000:=hl _ (by rw [← h6];exact List.mem_map_of_mem hm)
     rw [if_pos hi,show dataAt ks j=(Z.getD j default).data by unfold dataAt;rw [if_pos hi,Int.toNat_natCast,hkd]] at HR
     have hcl:=ze4 r _ _ hb (by omega)
     rw [decide_eq_true hi.1,decide_eq_true (show (j:Int)<Z.length by omega)] at hat
     refine ae Tryz.func27 Tryz.ntmps27 ?_
     repeat' (first|((with_reducible apply z0z);(first|((with_reducible apply z1p);rfl;rfl)|((with_reducible apply z1q);rfl;rfl)|((with_reducible apply z1r);rfl;rfl)|((with_reducible apply z1s);rfl;rfl));(refine apk ?_))|(refine acl Tryz.func74 ?_;refine acr (hat) ?_;rintro v' H' ⟨rfl,rfl⟩;refine apl ?_)|(refine acl Tryz.func33 ?_;refine acr (hcl) ?_;rintro v' H' ⟨a,c,rfl,rfl⟩;refine apl ?_)|exact xf|refine aw0 ?_|(refine ap2 ?_ ?_<;>try intro h)|refine aw1 ?_|(refine abx ?_;intro bb)|(refine abz ?_;intro bz)|(refine ahv ?_;intro v' hv')|(refine aac ?_;intro ac cc)|refine aw2 ?_|(refine ap4 ?_ ?_<;>try intro h)|apply True.intro)
     ((with_reducible apply z00);exact res_1 rfl rfl)
     exact HR.out _ _ _ [NatR _ _] atks ⟨_,_,rfl,rfl⟩
   · rw [if_neg hi] at HR
     rw [show (decide (0<=i) && decide (i<(Z.length:Int)))=false by rw [← Bool.decide_and];exact decide_eq_false (by omega)] at hat
     refine ae Tryz.func27 Tryz.ntmps27 ?_
     refine z0f (A:=NatR (.slice none 0 0) []) (RowC.nil _ _) ?_
     repeat' (first|((with_reducible apply z0z);(first|((with_reducible apply z1p);rfl;rfl)|((with_reducible apply z1q);rfl;rfl)|((with_reducible apply z1r);rfl;rfl)|((with_reducible apply z1s);rfl;rfl));(refine apk ?_))|(refine acl Tryz.func74 ?_;refine acr (hat) ?_;rintro v' H' ⟨rfl,rfl⟩;refine apl ?_)|exact xf|refine aw0 ?_|(refine ap2 ?_ ?_<;>try intro h)|refine aw1 ?_|(refine abx ?_;intro bb)|(refine abz ?_;intro bz)|(refine ahv ?_;intro v' hv')|(refine aac ?_;intro ac cc)|refine aw2 ?_|(refine ap4 ?_ ?_<;>try intro h)|apply True.intro)
     ((with_reducible apply z00);exact res_1 rfl rfl)
     exact HR.out _ _ _ [NatR (.slice none 0 0) []] atks ⟨_,_,rfl,rfl⟩
theorem zcw (r:Hp) (v:Value) (xs:List PostV) (fv:Value) (gf:FuncId) (cap:List Value) (H:List Ch) (q:PostV->Bool) (hv:Els r 2 encPo v xs) (hfv:fv = .func (.func gf) #[] cap.toArray) (hg:GoesTo Tryz.prog gf)
 (hp : ∀ k (hk:k<xs.length),Tri Tryz.prog r gf (.agg (encPo xs[k]).toArray::cap) H fun w H'=>w = .bool (q xs[k])/\H'=H) :
 Tri Tryz.prog r 75 [v,fv] H fun w H'=>w = .int .i64 (idx (xs.findIdx? q))/\H'=H:=by
 obtain ⟨a,c,rfl⟩:=hv.form
 have hn:=hv.2.2.1
 unfold maxLen at hn
 obtain ⟨n,hln⟩ : ∃ n,xs.length=n:=⟨_,rfl⟩
 rw [hln] at hn hv ⊢
 have HLN:=hid hln
 clear hln
 refine ae Tryz.func75 Tryz.ntmps75 ?_
 repeat' (first|refine ax0m ?_|(refine abb ?_;intro b)|refine ax1m ?_|(refine aac ?_;intro ac cc)|refine ax2m ?_|(refine ap3 ?_ ?_<;>try intro h)|apply True.intro)
 refine z04 (fun g t H' => ∃ k:Nat,g=n+1 - k/\k<=n/\(xs.take k).findIdx? q=none/\H'=H/\(t.length=19/\t[0]?=some (.slice a n c)/\t[1]?=some (fv)/\t[6]?=some (.slice a n c)/\t[7]?=some (.int .i64 n)/\t[8]?=some (.int .i64 k))) (n+1) ⟨0,rfl,Nat.zero_le _,by simp,rfl,rfl,rfl,rfl,rfl,rfl,rfl⟩ ?_
 rintro g t H' ⟨k,rfl,hk,hall,rfl,hlen,e0,e1,e6,e7,e8⟩
 revert e0 e1 e6 e7 e8;revert t;refine z0s (n:=19) ?_;intro u0 u1 u2 u3 u4 u5 u6 u7 u8 u9 u10 u11 u12 u13 u14 u15 u16 u17 u18 e0 e1 e6 e7 e8;cases e0;cases e1;cases e6;cases e7;cases e8
 have HA:=hid hall
 clear hall
 by_cases hlt:k<n
 · have hkx:k<xs.length:=by rw [HLN.out];exact hlt
   obtain ⟨b,off,rfl,hc⟩:=hv.at hkx HLN.out
   obtain ⟨x,hx⟩ : ∃ x,xs[k]=x:=⟨_,rfl⟩
   have hq:=hp k hkx
   rw [hx] at hq hc
   have hc':=hc r H' (fun _ _ h=>h)
   obtain ⟨y,hy⟩ : ∃ y,q x=y:=⟨_,rfl⟩
   rw [hy] at hq
   have HC:=hid hq
   have HX:=hid hx
   have HY:=hid hy
   clear hc hp hq hx hy
   subst hfv
   unfold encPo at hc' HC
   cases y
   · repeat' (first|refine ax0m ?_|(refine abb ?_;intro b)|(with_reducible apply z2y (f:=gf) (cap:=cap));exact hg;rfl;rfl;exact HC.out;exact Takes.all;rintro v' H1 ⟨rfl,rfl⟩;rw [List.append_nil];(refine apk ?_)|refine ax1m ?_|(refine aac ?_;intro ac cc)|refine ax2m ?_|(refine ap3 ?_ ?_<;>try intro h)|apply True.intro)
     refine ⟨_,by omega,k+1,rfl,by omega,?_,rfl,rfl,rfl,rfl,rfl,rfl,rfl⟩
     rw [z6i hkx HA.out,HX.out,HY.out];rfl
   · repeat' (first|refine ax0m ?_|(refine abb ?_;intro b)|(with_reducible apply z2y (f:=gf) (cap:=cap));exact hg;rfl;rfl;exact HC.out;exact Takes.all;rintro v' H1 ⟨rfl,rfl⟩;rw [List.append_nil];(refine apk ?_)|refine ax1m ?_|(refine aac ?_;intro ac cc)|refine ax2m ?_|(refine ap3 ?_ ?_<;>try intro h)|apply True.intro)
     ((with_reducible apply z00);exact res_1 rfl rfl)
     exact ⟨by rw [z8s hkx HA.out (by rw [HX.out];exact HY.out)];rfl,rfl⟩
 · rw [List.take_of_length_le (by rw [HLN.out];omega)] at HA
   repeat' (first|refine ax0m ?_|(refine abb ?_;intro b)|refine ax1m ?_|(refine aac ?_;intro ac cc)|refine ax2m ?_|(refine ap3 ?_ ?_<;>try intro h)|apply True.intro)
   ((with_reducible apply z00);exact res_1 rfl rfl)
   exact ⟨by rw [HA.out];rfl,rfl⟩
theorem zm0 (r:Hp) (s:List UInt8) (B:Nat) (d:PostV):Tri Tryz.prog r 76 [.agg (encPo d).toArray,.pointer (some ⟨B,0,none⟩)] [pt B (.cells [.string (bs s)].toArray 9 (0,0))] fun w H=>w = .bool (decide (d.gram=s))/\H=[pt B (.cells [.string (bs s)].toArray 9 (0,0))]:=by
 refine Tri.free2 fun R HR=>?_
 obtain ⟨g,u,l⟩:=d
 show Tri _ _ _ [.agg [.string (bs g),u].toArray,_] _ _
 refine ae Tryz.func76 Tryz.ntmps76 ?_
 repeat' (first|((with_reducible apply z2w);rfl;(exact qcl);intro b;(refine apk ?_))|refine aw0 ?_|(refine ap2 ?_ ?_<;>try intro h)|refine aw1 ?_|(refine abx ?_;intro bb)|(refine abz ?_;intro bz)|(refine ahv ?_;intro v' hv')|(refine aac ?_;intro ac cc)|refine aw2 ?_|(refine ap4 ?_ ?_<;>try intro h)|apply True.intro)
 ((with_reducible apply z00);exact res_1 rfl rfl)
 exact HR.out _ _ _ [_] atks ⟨rfl,rfl⟩
def placesG (ps:List PostP) (s:List UInt8):List PlaceV:=match ps.findIdx? (fun p=>decide (p.1=s)) with|some k=>(ps.getD k default).2|none=>[]
theorem z9w (r:Hp) (v:Value) (ks:List KeyF) (s:List UInt8) (h:ShR r v ks) (hl : ∀ p∈makeP (ks.map (·.2)),p.2.length<=1000000):Tri Tryz.prog r 28 [v,.string (bs s)] [] fun w H => ∃ a c,w = .slice a (placesG (makeP (ks.map (·.2))) s).length c/\H=[RowC 149 2 w (placesG (makeP (ks.map (·.2))) s).length ((placesG (makeP (ks.map (·.2))) s).flatMap encPl)]:=by
 refine Tri.free2 fun R HR=>?_
 have hh:=zcv r v ks h
 refine ae Tryz.func28 Tryz.ntmps28 ?_
 repeat' (first|(refine acl Tryz.func72 ?_;refine acr (hh) ?_;rintro v' H' ⟨vd,vf,vp,rfl,rfl,hd,hf,hp⟩;refine apl ?_)|((with_reducible apply z2w);rfl;(exact qcl);intro b;(refine apk ?_))|(obtain ⟨Y,hp,hY⟩:=hp;obtain ⟨hpe,hpb⟩:=hp)|refine aw0 ?_|(refine ap2 ?_ ?_<;>try intro h)|refine aw1 ?_|(refine abx ?_;intro bb)|(refine abz ?_;intro bz)|(refine ahv ?_;intro v' hv')|(refine aac ?_;intro ac cc)|refine aw2 ?_|(refine ap4 ?_ ?_<;>try intro h)|apply True.intro)
 have hix:=zcw r vp Y _ 76 [.pointer (some ⟨b,0,none⟩)] [pt b (.cells [.string (bs s)].toArray 9 (0,0))] (fun d=>decide (d.gram=s)) hpe rfl (z2h Tryz.func76 (by kernel_rfl) rfl) (fun k hk=>zm0 r s b _)
 have hpg:placesG (makeP (ks.map (·.2))) s=match Y.findIdx? (fun d=>decide (d.gram=s)) with|some k=>(Y.getD k default).pl|none=>[]:=by
  rw [← hY]
  unfold placesG
  rw [List.findIdx?_map]
  show (match Y.findIdx? (fun d=>decide (d.gram=s)) with|some k=>((Y.map unP).getD k default).2|none=>[])=_
  cases e:Y.findIdx? (fun d=>decide (d.gram=s)) with
  | none=>rfl
  | some k =>
   have hk:=(List.findIdx?_eq_some_iff_getElem.1 e).1
   dsimp only
   rw [zin hk]
   rfl
 rw [hpg] at HR
 cases e:Y.findIdx? (fun d=>decide (d.gram=s)) with
 | none =>
  rw [e] at hix HR
  dsimp only at HR
  unfold idx at hix
  dsimp only at hix
  refine zgc (A:=RowC 149 2 (.slice none 0 0) 0 []) (RowC.nil _ _) ?_
  repeat' (first|(refine acl Tryz.func75 ?_;refine acr (hix) ?_;rintro v' H' ⟨rfl,rfl⟩;refine apl ?_)|exact xf|refine aw0 ?_|(refine ap2 ?_ ?_<;>try intro h)|refine aw1 ?_|(refine abx ?_;intro bb)|(refine abz ?_;intro bz)|(refine ahv ?_;intro v' hv')|(refine aac ?_;intro ac cc)|refine aw2 ?_|(refine ap4 ?_ ?_<;>try intro h)|apply True.intro)
  ((with_reducible apply z00);exact res_1 rfl rfl)
  exact HR.out _ _ _ [RowC 149 2 (.slice none 0 0) 0 []] atks ⟨_,_,rfl,rfl⟩
 | some k =>
  rw [e] at hix HR
  have hk:=(List.findIdx?_eq_some_iff_getElem.1 e).1
  have hm:=z0g hk
  have hb:=hpb _ hm
  have hbl:(Y.getD k default).pl.length<=1000000:=hl (unP (Y.getD k default)) (by rw [← hY];exact List.mem_map_of_mem hm)
  dsimp only at HR
  unfold idx at hix
  dsimp only at hix
  have hcl:=z9d r _ _ hb hbl
  repeat' (first|(refine acl Tryz.func75 ?_;refine acr (hix) ?_;rintro v' H' ⟨rfl,rfl⟩;refine apl ?_)|(refine acl Tryz.func77 ?_;refine acr (hcl) ?_;rintro v' H' ⟨a,c,rfl,rfl⟩;refine apl ?_)|exact xf|refine aw0 ?_|(refine ap2 ?_ ?_<;>try intro h)|refine aw1 ?_|(refine abx ?_;intro bb)|(refine abz ?_;intro bz)|(refine ahv ?_;intro v' hv')|(refine aac ?_;intro ac cc)|refine aw2 ?_|(refine ap4 ?_ ?_<;>try intro h)|apply True.intro)
  ((with_reducible apply z00);exact res_1 rfl rfl)
  exact HR.out _ _ _ [RowC 149 2 _ _ _] atks ⟨_,_,rfl,rfl⟩
end Go.Proofs.YtohpeoakdgckfaaGreat
