/- mudlarkkit.SameFiles, ApartPlaces: their contracts. -/
import Derived.Test.YtohpeoakdgckfaaGreatKj
import Derived.Test.YtohpeoakdgckfaaGreatLt
import Derived.Test.YtohpeoakdgckfaaGreatTw
set_option maxHeartbeats 4000000
set_option maxRecDepth 10000
namespace Go.Proofs.YtohpeoakdgckfaaGreat
open Go.RowKit Sx
namespace Sx
section
variable {P : Program} {l : Option Nat} {r : Hp} {K : St} {t : List Value} {H : List Ch} {o : Oper}
theorem zns {A B C:Ch} {H':List Ch} (ht:Takes [A,B] H H') (hab : ∀ g k,dj g k->A g->B k->C (un g k)) (h:SWo P l r o K t (C::H')):SWo P l r o K t H :=
 fun w g ds ok a=>h w g ds ok (by
  obtain ⟨x,y,d1,e1,hA,z,u,d2,e2,hB,hu⟩:=z0j ht a
  subst e2
  obtain ⟨d3,d4⟩:=dj_un.1 d1
  exact ⟨un x z,u,un_dj.2 ⟨d4,d2⟩,by rw [e1,z1b],hab _ _ d3 hA hB,hu⟩)
theorem Tri.join2 {f:FuncId} {args:List Value} {R:Rt} (h:Tri P r f args H fun v H' => ∃ A B C,H'=[A,B]/\(∀ g k,dj g k->A g->B k->C (un g k))/\R v [C]):Tri P r f args H R:=by
 rw [z1c] at h ⊢
 intro w g o a
 refine (h w g o a).mono ?_
 rintro e w' ⟨v,H',h',rfl,⟨A,B,C,rfl,hab,hR⟩,al,to⟩
 obtain ⟨x,y,d1,e1,hA,z,u,d2,e2,hB,hu⟩:=al
 obtain rfl:u=emp:=hu
 subst e2
 rw [z30] at e1 d1
 exact ⟨v,[C],h',rfl,hR,⟨h',emp,z4u,z30.symm,by rw [e1];exact hab _ _ d1 hA hB,rfl⟩,to⟩
end
end Sx
abbrev FileV.key (f:FileV):List UInt8 × List UInt8:=(f.path,f.data)
def marksFn (n:Nat):List FileV:=(List.range n).map fun i=>⟨markT 1 i,.slice none 0 0,[]⟩
theorem zdv (n:Nat):marksFn (n+1)=marksFn n++[⟨markT 1 n,.slice none 0 0,[]⟩]:=by simp [marksFn,List.range_succ]
def AccF (fs:List FileV):Ch:=fun g => ∀ f∈fs,Wide g f.val f.data
def LentFs (g:Hp) (v:Value) (fs:List FileV):Prop := ∃ a c,∃ fs':List FileV,v = .slice a fs.length c/\fs.length+12<=c/\fs'.map FileV.key=fs.map FileV.key/\Els g 2 encF (.slice a (fs.length+12) c) (fs'++marksFn 12) /\ ∀ f∈fs',Wide g f.val f.data
theorem znt (f:FileV):(encF f).length=2:=rfl
theorem Sx.swo_accF {P:Program} {l:Option Nat} {r:Hp} {K:St} {t:List Value} {H H':List Ch} {o:Oper} {a:Option Addr} {c:Nat} (f:FileV) (fs:List FileV) (ht:Takes [RowC 5 1 (.slice a (f.data.length+12) c) (f.data.length+12) (u8s (f.data++marksL 12)),AccF fs] H H')
 (h:SWo P l r o K t (AccF (fs++[⟨f.path,.slice a f.data.length c,f.data⟩])::H')):SWo P l r o K t H :=
 zns ht (fun g k d hA hB=>by
  intro x hx
  rcases List.mem_append.1 hx with hx|hx
  · exact (hB x hx).mono (fun b o h=>z0n d h)
  · obtain rfl:=List.mem_singleton.1 hx
    exact Wide.of hA (fun b o h=>z0e h)) h
theorem zce (r:Hp) (v:Value) (fs:List FileV) (hv:Files r v fs) (hn:fs.length<=1048576) (hl : ∀ f∈fs,f.data.length<=1000000):Tri Tryz.prog r 9 [v] [] fun w H=>H=[fun g=>LentFs g w fs]:=by
 refine Tri.join2 ?_
 refine Tri.free2 fun R HR=>?_
 obtain ⟨hv,hb⟩:=hv
 refine ae Tryz.func9 Tryz.ntmps9 ?_
 repeat' (first|((with_reducible apply z6k (c:=fs.length+12));exact ty_el;exact z03;rfl;rfl;(omega);(omega);intro bm;(refine apk ?_))|refine aw0 ?_|(refine ap2 ?_ ?_<;>try intro h)|refine aw1 ?_|(refine abx ?_;intro bb)|(refine abz ?_;intro bz)|(refine ahv ?_;intro v' hv')|(refine aac ?_;intro ac cc)|refine aw2 ?_|(refine ap4 ?_ ?_<;>try intro h)|apply True.intro)
 refine z0f (A:=AccF []) (fun f hf=>by cases hf) ?_
 refine z04 (fun gm t H' => ∃ (k:Nat) (a:Option Addr) (c:Nat) (fs':List FileV),gm=fs.length+1 - k/\(k<=fs.length)/\(fs'.map FileV.key=(fs.take k).map FileV.key)/\(∃ G,Takes [RowC 45 2 (.slice a k c) k (fs'.flatMap encF),AccF fs'] H' G)/\Sls t 39 [(0,v),(3,.slice a k c),(4,.int .i64 k)]) _ ⟨0,_,_,[],rfl,Nat.zero_le _,rfl,⟨[],atks⟩,asls⟩ ?_
 rintro gm t H' ⟨k,a,c,fs',rfl,hk,hm,⟨G,hp⟩,hs'⟩
 revert t;refine z06 ?_;iterate 36 intro uu'
 refine z01 hp ?_;clear hp
 by_cases hlt:k<fs.length
 · have hmem:fs.getD k default∈fs:=by simp [hlt]
   repeat' (first|(refine acl Tryz.func29 ?_;refine acr (zel r (fs.getD k default) (hb _ hmem) (hl _ hmem)) ?_;rintro v' H' ⟨a1,c1,rfl,rfl⟩;refine apl ?_)|((with_reducible apply swo_accF (fs.getD k default) fs');((with_reducible apply Takes.cons);(with_reducible (exact atk));(with_reducible apply Takes.cons);(with_reducible (exact atk));exact Takes.nil))|(first|((with_reducible apply z0t);exact ty_el;exact z03;rfl;rfl;rfl;intro bz;(refine apk ?_))|((with_reducible apply z0y);exact ty_el;exact z03;rfl;rfl;rfl;intro bz;(refine apk ?_)))|(first|((with_reducible apply z0d);exact ty_el;exact z03;rfl;rfl;rfl;(exact atk);(exact atk);rfl;(omega);intro a' c';(refine apk ?_))|((with_reducible apply z0m);exact ty_el;exact z03;rfl;rfl;rfl;rfl;(exact atk);(exact atk);rfl;rfl;(omega);intro a' c';(refine apk ?_)))|refine aw0 ?_|(refine ap2 ?_ ?_<;>try intro h)|refine aw1 ?_|(refine abx ?_;intro bb)|(refine abz ?_;intro bz)|(refine ahv ?_;intro v' hv')|(refine aac ?_;intro ac cc)|refine aw2 ?_|(refine ap4 ?_ ?_<;>try intro h)|apply True.intro)
   exact ⟨_,by omega,k+1,a',c',fs'++[⟨(fs.getD k default).path,.slice a1 (fs.getD k default).data.length c1,(fs.getD k default).data⟩],rfl,by omega,by rw [z10 (d:=default) hlt];simp [hm],⟨_,by rw [List.flatMap_append];(exact atks)⟩,asls⟩
 · obtain rfl:k=fs.length:=by omega
   rw [List.take_length] at hm
   repeat' (first|refine aw0m ?_|(refine ap2 ?_ ?_<;>try intro h)|refine aw1m ?_|(refine abx ?_;intro bb)|(refine abz ?_;intro bz)|(refine ahv ?_;intro v' hv')|(refine aac ?_;intro ac cc)|refine aw2 ?_|(refine ap4 ?_ ?_<;>try intro h)|apply True.intro)
   refine z04 (fun gm t H' => ∃ (k:Nat) (a:Option Addr) (c:Nat),gm=13 - k/\(k<=12)/\(∃ G,Takes [RowC 45 2 (.slice a (fs.length+k) c) (fs.length+k) ((fs'++marksFn k).flatMap encF),AccF fs'] H' G)/\Sls t 39 [(0,v),(3,.slice a (fs.length+k) c),(6,.int .i64 k)]) _ ⟨0,_,_,rfl,Nat.zero_le _,⟨_,by rw [show marksFn 0=[] from rfl,List.append_nil];(exact atks)⟩,asls⟩ ?_
   rintro gm t H' ⟨k,a,c,rfl,hk,⟨G,hp⟩,hs'⟩
   revert t;refine z06 ?_;iterate 36 intro uu'
   refine z01 hp ?_;clear hp
   refine zcb (A:=RowC 45 2 (.slice a (fs.length+k) c) (fs.length+k) ((fs'++marksFn k).flatMap encF)) atk (fun g h=>RowC.cap h) ?_
   rintro ⟨hcap,hcm⟩
   repeat' (first|(refine acl Tryz.func30 ?_;refine acr (z8f r 1 k) ?_;rintro v' H' ⟨rfl,rfl⟩;refine apl ?_)|(first|((with_reducible apply z0t);exact ty_el;exact z03;rfl;rfl;rfl;intro bz;(refine apk ?_))|((with_reducible apply z0y);exact ty_el;exact z03;rfl;rfl;rfl;intro bz;(refine apk ?_)))|(first|((with_reducible apply z0d);exact ty_el;exact z03;rfl;rfl;rfl;(exact atk);(exact atk);rfl;(omega);intro a' c';(refine apk ?_))|((with_reducible apply z0m);exact ty_el;exact z03;rfl;rfl;rfl;rfl;(exact atk);(exact atk);rfl;rfl;(omega);intro a' c';(refine apk ?_)))|refine aw0 ?_|(refine ap2 ?_ ?_<;>try intro h)|refine aw1 ?_|(refine abx ?_;intro bb)|(refine abz ?_;intro bz)|(refine ahv ?_;intro v' hv')|(refine aac ?_;intro ac cc)|refine aw2 ?_|(refine ap4 ?_ ?_<;>try intro h)|apply True.intro)
   · exact ⟨_,by omega,k+1,a',c',rfl,by omega,⟨_,by rw [zdv,← List.append_assoc,List.flatMap_append];(exact atks)⟩,asls⟩
   · obtain rfl:k=12:=by omega
     ((with_reducible apply z00);exact res_1 rfl rfl)
     refine HR.out _ _ _ [RowC 45 2 (.slice a (fs.length+12) c) (fs.length+12) ((fs'++marksFn 12).flatMap encF),AccF fs'] atks ⟨_,_,_,rfl,fun g k d hA hB=>?_,rfl⟩
     refine ⟨a,c,fs',rfl,hcap,hm,⟨znt,?_⟩,fun f hf=>(hB f hf).mono (fun b o h=>z0n d h)⟩
     have hlen:fs'.length=fs.length:=by have:=congrArg List.length hm;simpa using this
     have:=hA.sl (r:=un g k) (fun b o h=>z0e h)
     rw [show (fs'++marksFn 12).length=fs.length+12 by rw [List.length_append,hlen];simp [marksFn]]
     exact this
theorem zcf (r:Hp) (v w:Value) (fs:List FileV) (hv:LentFs r v fs) (hw:Files r w fs) (hn:fs.length<=1048576):Tri Tryz.prog r 13 [v,w] [] fun u H=>u = .bool true/\H=[]:=by
 refine Tri.free2 fun R HR=>?_
 obtain ⟨a,c,fs',rfl,hc,hm,hs,hW⟩:=hv
 obtain ⟨hw,hb⟩:=hw
 have hlen:fs'.length=fs.length:=by have:=congrArg List.length hm;simpa using this
 have hll:(fs'++marksFn 12).length=fs.length+12:=by rw [List.length_append,hlen];simp [marksFn]
 refine ae Tryz.func13 Tryz.ntmps13 ?_
 repeat' (first|refine aw0m ?_|(refine ap2 ?_ ?_<;>try intro h)|refine aw1m ?_|(refine abx ?_;intro bb)|(refine abz ?_;intro bz)|(refine ahv ?_;intro v' hv')|(refine aac ?_;intro ac cc)|refine aw2 ?_|(refine ap4 ?_ ?_<;>try intro h)|apply True.intro)
 refine z04 (fun gm t H' => ∃ k:Nat,gm=fs.length+13 - k/\(k<=fs.length+12)/\(∃ G,Takes [] H' G)/\Sls t 58 [(1,w),(5,.slice a (fs.length+12) c),(6,.int .i64 k)]) _ ⟨0,rfl,Nat.zero_le _,⟨[],atks⟩,asls⟩ ?_
 rintro gm t H' ⟨k,rfl,hk,⟨G,hp⟩,hs'⟩
 revert t;refine z06 ?_;iterate 55 intro uu'
 refine z01 hp ?_;clear hp
 by_cases hkl:k<fs.length
 · have he:(fs'++marksFn 12).getD k default=fs'.getD k default:=by simp [List.getElem?_append_left (show k<fs'.length by omega)]
   have hkey:(fs'.getD k default).key=(fs.getD k default).key:=by
    have:=congrArg (fun l=>l[k]?) hm
    simp only [List.getElem?_map] at this
    simp only [List.getD_eq_getElem?_getD]
    rw [List.getElem?_eq_getElem hkl,List.getElem?_eq_getElem (show k<fs'.length by omega)] at *
    simpa using this
   have h1:(fs'.getD k default).path=(fs.getD k default).path:=congrArg Prod.fst hkey
   have h2:(fs'.getD k default).data=(fs.getD k default).data:=congrArg Prod.snd hkey
   have hW1:=hW (fs'.getD k default) (by simp [show k<fs'.length by omega])
   have hb1:=hb (fs.getD k default) (by simp [hkl])
   repeat' (first|refine aw0m ?_|(refine ap2 ?_ ?_<;>try intro h)|(first|((with_reducible apply z02 (id:=7) 35 [(0,true),(1,true),(2,true),(3,true),(4,true),(5,true),(6,true),(7,true),(8,true),(9,true),(10,true),(11,true),(12,true),(13,false),(14,true),(15,true),(16,true),(17,true),(18,true),(19,true),(20,true),(21,true),(22,true),(23,true),(24,true),(25,true),(26,true),(27,true),(28,true),(29,true),(30,false),(31,false),(32,true),(33,true),(34,true)] [] []);kernel_rfl;(exact atks);kernel_rfl;intro r' hl'))|(refine acl Tryz.func47 ?_;refine acr (by rw [he];exact zem _ _ _ (hW1.mono hl'.1) (hb1.mono hl'.1) h1 h2) ?_;rintro v' H' ⟨rfl,rfl⟩;refine apl ?_)|refine aw1m ?_|(refine abx ?_;intro bb)|(refine abz ?_;intro bz)|(refine ahv ?_;intro v' hv')|(refine aac ?_;intro ac cc)|refine aw2 ?_|(refine ap4 ?_ ?_<;>try intro h)|apply True.intro)
   exact ⟨_,by omega,k+1,rfl,by omega,⟨_,atks⟩,asls⟩
 · by_cases hk2:k<fs.length+12
   · obtain ⟨j,rfl⟩ : ∃ j,k=fs.length+j:=⟨k - fs.length,by omega⟩
     have he:(fs'++marksFn 12).getD (fs.length+j) default=⟨markT 1 j,.slice none 0 0,[]⟩:=by
      simp only [List.getD_eq_getElem?_getD]
      rw [List.getElem?_append_right (by omega),hlen]
      simp [marksFn,show j<12 by omega]
     repeat' (first|refine aw0m ?_|(refine ap2 ?_ ?_<;>try intro h)|(first|((with_reducible apply z02 (id:=7) 35 [(0,true),(1,true),(2,true),(3,true),(4,true),(5,true),(6,true),(7,true),(8,true),(9,true),(10,true),(11,true),(12,true),(13,false),(14,true),(15,true),(16,true),(17,true),(18,true),(19,true),(20,true),(21,true),(22,true),(23,true),(24,true),(25,true),(26,true),(27,true),(28,true),(29,true),(30,false),(31,false),(32,true),(33,true),(34,true)] [] []);kernel_rfl;(exact atks);kernel_rfl;intro r' hl'))|(refine acl Tryz.func30 ?_;refine acr (by rw [show (((fs.length+j:Nat):Int) - (fs.length:Nat))=((j:Nat):Int) by omega];exact z8f _ 1 j) ?_;rintro v' H' ⟨rfl,rfl⟩;refine apl ?_)|(refine acl Tryz.func48 ?_;refine acr (by rw [he];exact z3m _ _ _ (Sl.nil _ _) (Sl.nil _ _)) ?_;rintro v' H' ⟨rfl,rfl⟩;refine apl ?_)|refine aw1m ?_|(refine abx ?_;intro bb)|(refine abz ?_;intro bz)|(refine ahv ?_;intro v' hv')|(refine aac ?_;intro ac cc)|refine aw2 ?_|(refine ap4 ?_ ?_<;>try intro h)|apply True.intro)
     exact ⟨_,by omega,fs.length+j+1,rfl,by omega,⟨_,atks⟩,asls⟩
   · repeat' (first|refine aw0m ?_|(refine ap2 ?_ ?_<;>try intro h)|refine aw1m ?_|(refine abx ?_;intro bb)|(refine abz ?_;intro bz)|(refine ahv ?_;intro v' hv')|(refine aac ?_;intro ac cc)|refine aw2 ?_|(refine ap4 ?_ ?_<;>try intro h)|apply True.intro)
     ((with_reducible apply z00);exact res_1 rfl rfl)
     exact HR.out _ _ _ [] atks ⟨rfl,rfl⟩
def sizeF:List FileV->Nat
 | []=>0
 | f::fs=>1+f.path.length+f.data.length+sizeF fs
theorem zdw (l m:List FileV):sizeF (l++m)=sizeF l+sizeF m:=by
 induction l with
 | nil=>simp [sizeF]
 | cons f l ih=>simp only [List.cons_append,sizeF,ih];omega
theorem z4x {fs:List FileV} {f:FileV} (h:f∈fs):1+f.path.length+f.data.length<=sizeF fs:=by
 induction fs with
 | nil=>cases h
 | cons g fs ih =>
  rcases List.mem_cons.1 h with rfl|h
  · simp only [sizeF];omega
  · have:=ih h;simp only [sizeF];omega
theorem z22 (fs:List FileV):fs.length<=sizeF fs:=by
 induction fs with
 | nil=>simp
 | cons g fs ih=>simp only [sizeF,List.length_cons];omega
theorem zgd (r:Hp) (v:Value) (fs:List FileV) (most:Nat) (hv:Files r v fs) (hl : ∀ f∈fs,f.path.length<=140737488351232/\f.data.length<=140737488351232) (hm:most<=1000000):Tri Tryz.prog r 7 [v,.int .i64 most] [] fun w H=>(∃ s:Nat,w = .int .i64 s/\(s=sizeF fs\/most<s/\most<sizeF fs))/\H=[]:=by
 refine Tri.free2 fun R HR=>?_
 obtain ⟨hv,hb⟩:=hv
 have hlm:=maxI hv.2.2.1
 refine ae Tryz.func7 Tryz.ntmps7 ?_
 repeat' (first|refine aw0m ?_|(refine ap2 ?_ ?_<;>try intro h)|refine aw1m ?_|(refine abx ?_;intro bb)|(refine abz ?_;intro bz)|(refine ahv ?_;intro v' hv')|(refine aac ?_;intro ac cc)|refine aw2 ?_|(refine ap4 ?_ ?_<;>try intro h)|apply True.intro)
 refine z04 (fun gm t H' => ∃ (k:Nat),gm=fs.length+1 - k/\(k<=fs.length)/\(sizeF (fs.take k)<=most+281474976702465)/\(∃ G,Takes [] H' G)/\Sls t 35 [(0,v),(1,.int .i64 most),(5,.int .i64 (sizeF (fs.take k):Nat)),(6,.int .i64 k)]) _ ⟨0,rfl,Nat.zero_le _,by simp [sizeF],⟨[],by (exact atks)⟩,asls⟩ ?_
 rintro gm t H' ⟨k,rfl,hk,hs,⟨G,hp⟩,hs'⟩
 revert t;refine z06 ?_;iterate 31 intro uu'
 refine z01 hp ?_;clear hp
 have hsa:=zdw (fs.take k) (fs.drop k)
 rw [List.take_append_drop] at hsa
 by_cases hlt:k<fs.length
 · have hmem:fs.getD k default∈fs:=by simp [hlt]
   obtain ⟨hl1,hl2⟩:=hl _ hmem
   have hst:sizeF (fs.take (k+1))=sizeF (fs.take k)+(1+(fs.getD k default).path.length+(fs.getD k default).data.length):=by
    rw [z10 (d:=default) hlt,zdw];simp [sizeF]
   have hb1:=hb _ hmem
   repeat' (first|refine aw0m ?_|(refine ap2 ?_ ?_<;>try intro h)|(first|((with_reducible apply z02 (id:=5) 16 [(0,true),(1,true),(2,true),(3,true),(4,true),(5,true),(6,true),(7,true),(8,true),(9,true),(10,true),(11,true),(12,true),(13,true),(14,true),(15,true)] [(16,false)] []);kernel_rfl;(exact atks);kernel_rfl;intro r' hl'))|refine aw1m ?_|(refine abx ?_;intro bb)|(refine abz ?_;intro bz)|(refine ahv ?_;intro v' hv')|(refine aac ?_;intro ac cc)|refine aw2 ?_|(refine ap4 ?_ ?_<;>try intro h)|apply True.intro)
   · exact ⟨_,by omega,k+1,rfl,by omega,by omega,⟨_,atks⟩,asls⟩
   · ((with_reducible apply z00);exact res_1 rfl rfl)
     exact HR.out _ _ _ [] atks ⟨⟨_,rfl,.inr ⟨by omega,by omega⟩⟩,rfl⟩
 · obtain rfl:k=fs.length:=by omega
   rw [List.take_length] at *
   repeat' (first|refine aw0m ?_|(refine ap2 ?_ ?_<;>try intro h)|refine aw1m ?_|(refine abx ?_;intro bb)|(refine abz ?_;intro bz)|(refine ahv ?_;intro v' hv')|(refine aac ?_;intro ac cc)|refine aw2 ?_|(refine ap4 ?_ ?_<;>try intro h)|apply True.intro)
   ((with_reducible apply z00);exact res_1 rfl rfl)
   exact HR.out _ _ _ [] atks ⟨⟨_,rfl,.inl rfl⟩,rfl⟩
end Go.Proofs.YtohpeoakdgckfaaGreat
namespace Go.Proofs.YtohpeoakdgckfaaGreat
open Go.RowKit Sx
theorem znu (ds:List DocV):(ds.flatMap encD).all one?=true:=by
 induction ds with
 | nil=>rfl
 | cons d ds ih=>simp only [List.flatMap_cons,List.all_append,ih];rfl
theorem zcg (r:Hp) (v:Value) (xs:List DocV) (hv:Els r 4 encD v xs) (hl:xs.length<=1000000):Tri Tryz.prog r 128 [v] [] fun w H => ∃ a c,w = .slice a xs.length c/\H=[RowC 119 4 w xs.length (xs.flatMap encD)]:=by
 have hn:=fun (a:Option Addr) (n c:Nat) (w:World)=>Lib.run_eql_slice_nil (P:=Tryz.prog) w 66 _ a n c 0 0 Tryz.underlying66
 refine Tri.free2 fun R HR=>?_
 obtain ⟨a,c,rfl⟩:=hv.form
 cases a with
 | none =>
  have hx:xs=[]:=by
   rcases hv.2.2.2 with ⟨_,h0⟩ | ⟨b,off,cap,c,E,fz,h,_⟩
   · exact List.length_eq_zero_iff.1 h0
   · cases h
  subst hx
  refine ae Tryz.func128 Tryz.ntmps128 ?_
  refine z0f (A:=RowC 119 4 (.slice none 0 0) 0 []) (RowC.nil _ _) ?_
  repeat' (first|((with_reducible refine z5g ?_ ?_);rfl;intro w ds K' hK;gi_big_op;(with_reducible refine hK _ ?_);clear hK K' ds w)|refine aw0 ?_|(refine ap2 ?_ ?_<;>try intro h)|refine aw1 ?_|(refine abx ?_;intro bb)|(refine abz ?_;intro bz)|(refine ahv ?_;intro v' hv')|(refine aac ?_;intro ac cc)|refine aw2 ?_|(refine ap4 ?_ ?_<;>try intro h)|apply True.intro)
  ((with_reducible apply z00);exact res_1 rfl rfl)
  exact HR.out _ _ _ [RowC 119 4 (.slice none 0 0) 0 []] atks ⟨_,_,rfl,rfl⟩
 | some ad =>
  have hone:=znu xs
  refine ae Tryz.func128 Tryz.ntmps128 ?_
  repeat' (first|((with_reducible apply z3t);exact ty_el;exact z03;intro bz;(refine apk ?_))|((with_reducible refine z0u ?_);(with_reducible apply z0v (news:=xs.flatMap encD));exact ty_el;exact z03;rfl;rfl;rfl;rfl;exact hv.2;(exact atk);exact hone;(unfold maxLen;omega);(omega);intro a' c';refine apm ?_)|((with_reducible refine z5g ?_ ?_);rfl;intro w ds K' hK;gi_big_op;(with_reducible refine hK _ ?_);clear hK K' ds w)|refine aw0 ?_|(refine ap2 ?_ ?_<;>try intro h)|refine aw1 ?_|(refine abx ?_;intro bb)|(refine abz ?_;intro bz)|(refine ahv ?_;intro v' hv')|(refine aac ?_;intro ac cc)|refine aw2 ?_|(refine ap4 ?_ ?_<;>try intro h)|apply True.intro)
  simp only [Nat.zero_add]
  ((with_reducible apply z00);exact res_1 rfl rfl)
  exact HR.out _ _ _ [RowC 119 4 _ _ _] atks ⟨a',c',rfl,rfl⟩
theorem z9d (r:Hp) (v:Value) (xs:List PlaceV) (hv:Els r 2 encPl v xs) (hl:xs.length<=1000000):Tri Tryz.prog r 77 [v] [] fun w H => ∃ a c,w = .slice a xs.length c/\H=[RowC 149 2 w xs.length (xs.flatMap encPl)]:=by
 have hn:=fun (a:Option Addr) (n c:Nat) (w:World)=>Lib.run_eql_slice_nil (P:=Tryz.prog) w 62 _ a n c 0 0 Tryz.underlying62
 refine Tri.free2 fun R HR=>?_
 obtain ⟨a,c,rfl⟩:=hv.form
 cases a with
 | none =>
  have hx:xs=[]:=by
   rcases hv.2.2.2 with ⟨_,h0⟩ | ⟨b,off,cap,c,E,fz,h,_⟩
   · exact List.length_eq_zero_iff.1 h0
   · cases h
  subst hx
  refine ae Tryz.func77 Tryz.ntmps77 ?_
  refine z0f (A:=RowC 149 2 (.slice none 0 0) 0 []) (RowC.nil _ _) ?_
  repeat' (first|((with_reducible refine z5g ?_ ?_);rfl;intro w ds K' hK;gi_big_op;(with_reducible refine hK _ ?_);clear hK K' ds w)|refine aw0 ?_|(refine ap2 ?_ ?_<;>try intro h)|refine aw1 ?_|(refine abx ?_;intro bb)|(refine abz ?_;intro bz)|(refine ahv ?_;intro v' hv')|(refine aac ?_;intro ac cc)|refine aw2 ?_|(refine ap4 ?_ ?_<;>try intro h)|apply True.intro)
  ((with_reducible apply z00);exact res_1 rfl rfl)
  exact HR.out _ _ _ [RowC 149 2 (.slice none 0 0) 0 []] atks ⟨_,_,rfl,rfl⟩
 | some ad =>
  have hone:=zly xs
  refine ae Tryz.func77 Tryz.ntmps77 ?_
  repeat' (first|((with_reducible apply z3t);exact ty_el;exact z03;intro bz;(refine apk ?_))|((with_reducible refine z0u ?_);(with_reducible apply z0v (news:=xs.flatMap encPl));exact ty_el;exact z03;rfl;rfl;rfl;rfl;exact hv.2;(exact atk);exact hone;(unfold maxLen;omega);(omega);intro a' c';refine apm ?_)|((with_reducible refine z5g ?_ ?_);rfl;intro w ds K' hK;gi_big_op;(with_reducible refine hK _ ?_);clear hK K' ds w)|refine aw0 ?_|(refine ap2 ?_ ?_<;>try intro h)|refine aw1 ?_|(refine abx ?_;intro bb)|(refine abz ?_;intro bz)|(refine ahv ?_;intro v' hv')|(refine aac ?_;intro ac cc)|refine aw2 ?_|(refine ap4 ?_ ?_<;>try intro h)|apply True.intro)
  simp only [Nat.zero_add]
  ((with_reducible apply z00);exact res_1 rfl rfl)
  exact HR.out _ _ _ [RowC 149 2 _ _ _] atks ⟨a',c',rfl,rfl⟩
theorem zaw (r:Hp) (v w:Value) (l m:List UInt8) (hv:U8S r v l) (hw:U8S r w m):Tri Tryz.prog r 53 [v,w] [] fun u H=>u = .bool (decide (l=m))/\H=[]:=by
 refine Tri.free2 fun R HR=>?_
 have hlm:=maxI hv.2.1
 refine ae Tryz.func53 Tryz.ntmps53 ?_
 repeat' (first|refine aw0m ?_|(refine ap2 ?_ ?_<;>try intro h)|refine aw1m ?_|(refine abx ?_;intro bb)|(refine abz ?_;intro bz)|(refine ahv ?_;intro v' hv')|(refine aac ?_;intro ac cc)|refine aw2 ?_|(refine ap4 ?_ ?_<;>try intro h)|apply True.intro)
 · ((with_reducible apply z00);exact res_1 rfl rfl)
   exact HR.out _ _ _ [] atks ⟨by rw [decide_eq_false];rintro rfl;exact h rfl,rfl⟩
 · refine z04 (fun gm t H' => ∃ k:Nat,gm=l.length+1 - k/\(k<=l.length)/\(l.take k=m.take k)/\(∃ G,Takes [] H' G)/\Sls t 26 [(0,v),(1,w),(12,.int .i64 l.length),(13,.int .i64 k)]) _ ⟨0,rfl,Nat.zero_le _,by simp,⟨[],atks⟩,asls⟩ ?_
   rintro gm t H' ⟨k,rfl,hk,ht,⟨G,hp⟩,hs'⟩
   revert t;refine z06 ?_;iterate 22 intro uu'
   refine z01 hp ?_;clear hp
   repeat' (first|refine aw0m ?_|(refine ap2 ?_ ?_<;>try intro h)|(first|((with_reducible apply z02 (id:=6) 9 [(0,true),(1,true),(2,true),(3,true),(4,true),(5,true),(6,true),(7,true),(8,true)] [] []);kernel_rfl;(exact atks);kernel_rfl;intro r' hl'))|refine aw1m ?_|(refine abx ?_;intro bb)|(refine abz ?_;intro bz)|(refine ahv ?_;intro v' hv')|(refine aac ?_;intro ac cc)|refine aw2 ?_|(refine ap4 ?_ ?_<;>try intro h)|apply True.intro)
   · ((with_reducible apply z00);exact res_1 rfl rfl)
     exact HR.out _ _ _ [] atks ⟨by rw [decide_eq_false];rintro rfl;simp at h,rfl⟩
   · exact ⟨_,by omega,k+1,rfl,by omega,z8t (d:=0) ht (by omega) (by omega) (UInt8.toNat_inj.1 (by omega)),⟨_,atks⟩,asls⟩
   · ((with_reducible apply z00);exact res_1 rfl rfl)
     exact HR.out _ _ _ [] atks ⟨by rw [decide_eq_true (z6j ht (by omega) (by omega))],rfl⟩
theorem zqn {fs gs:List FileV} {k:Nat} (ht:(fs.take k).map FileV.key=(gs.take k).map FileV.key) (h1:k<fs.length) (h2:k<gs.length) (hp:(fs.getD k default).path=(gs.getD k default).path) (hd:(fs.getD k default).data=(gs.getD k default).data):(fs.take (k+1)).map FileV.key=(gs.take (k+1)).map FileV.key:=by
 rw [z10 (d:=default) h1,z10 (d:=default) h2,List.map_append,List.map_append,ht]
 rw [List.map_singleton,List.map_singleton,FileV.key,FileV.key,hp,hd]
theorem zl6 {fs gs:List FileV} (h:fs.map FileV.key=gs.map FileV.key) {k:Nat} (h1:k<fs.length):(fs.getD k default).path=(gs.getD k default).path/\(fs.getD k default).data=(gs.getD k default).data:=by
 have hl:fs.length=gs.length:=by have:=congrArg List.length h;simpa using this
 have e:=congrArg (fun l=>l[k]?) h
 simp only [List.getElem?_map] at e
 rw [List.getElem?_eq_getElem h1,List.getElem?_eq_getElem (by omega)] at e
 simp only [Option.map_some,Option.some.injEq] at e
 simp only [List.getD_eq_getElem?_getD]
 rw [List.getElem?_eq_getElem h1,List.getElem?_eq_getElem (show k<gs.length by omega)]
 exact ⟨congrArg Prod.fst e,congrArg Prod.snd e⟩
theorem zch (r:Hp) (v w:Value) (fs gs:List FileV) (hv:Files r v fs) (hw:Files r w gs):Tri Tryz.prog r 23 [v,w] [] fun u H=>u = .bool (decide (fs.map FileV.key=gs.map FileV.key))/\H=[]:=by
 refine Tri.free2 fun R HR=>?_
 obtain ⟨hv,hb⟩:=hv
 obtain ⟨hw,hc⟩:=hw
 have hlm:=maxI hv.2.2.1
 have hkl:=fun h:fs.map FileV.key=gs.map FileV.key=>(by have:=congrArg List.length h;simpa using this:fs.length=gs.length)
 refine ae Tryz.func23 Tryz.ntmps23 ?_
 repeat' (first|refine aw0m ?_|(refine ap2 ?_ ?_<;>try intro h)|refine aw1m ?_|(refine abx ?_;intro bb)|(refine abz ?_;intro bz)|(refine ahv ?_;intro v' hv')|(refine aac ?_;intro ac cc)|refine aw2 ?_|(refine ap4 ?_ ?_<;>try intro h)|apply True.intro)
 · ((with_reducible apply z00);exact res_1 rfl rfl)
   exact HR.out _ _ _ [] atks ⟨by rw [decide_eq_false];intro e;have:=hkl e;omega,rfl⟩
 · refine z04 (fun gm t H' => ∃ k:Nat,gm=fs.length+1 - k/\(k<=fs.length)/\((fs.take k).map FileV.key=(gs.take k).map FileV.key)/\(∃ G,Takes [] H' G)/\Sls t 27 [(0,v),(1,w),(5,.int .i64 k)]) _ ⟨0,rfl,Nat.zero_le _,by simp,⟨[],atks⟩,asls⟩ ?_
   rintro gm t H' ⟨k,rfl,hk,ht,⟨G,hp⟩,hs'⟩
   revert t;refine z06 ?_;iterate 24 intro uu'
   refine z01 hp ?_;clear hp
   by_cases hlt:k<fs.length
   · have hb1:=hb (fs.getD k default) (z0g hlt)
     have hc1:=hc (gs.getD k default) (z0g (by omega))
     repeat' (first|refine aw0m ?_|(refine ap2 ?_ ?_<;>try intro h)|(first|((with_reducible apply z02 (id:=6) 10 [(0,true),(1,true),(2,true),(3,true),(4,true),(5,true),(6,true),(7,true),(8,false),(9,true)] [] []);kernel_rfl;(exact atks);kernel_rfl;intro r' hl'))|(refine acl Tryz.func48 ?_;refine acr (z3m _ _ _ (hb1.mono hl'.1) (hc1.mono hl'.1)) ?_;rintro v' H' ⟨rfl,rfl⟩;refine apl ?_)|(refine acl Tryz.func48 ?_;refine acr (z3m _ _ _ hb1 hc1) ?_;rintro v' H' ⟨rfl,rfl⟩;refine apl ?_)|refine aw1m ?_|(refine abx ?_;intro bb)|(refine abz ?_;intro bz)|(refine ahv ?_;intro v' hv')|(refine aac ?_;intro ac cc)|refine aw2 ?_|(refine ap4 ?_ ?_<;>try intro h)|apply True.intro)
     all_goals first
      | (exact ⟨_,by omega,k+1,rfl,by omega,zqn ht hlt (by omega) h.1 h.2,⟨_,atks⟩,asls⟩)
      | (((with_reducible apply z00);exact res_1 rfl rfl)
         exact HR.out _ _ _ [] atks ⟨by rw [decide_eq_false];intro e;have h3:=zl6 e hlt;rcases h with h|h;exact h h3.1;exact h h3.2,rfl⟩)
   · repeat' (first|refine aw0m ?_|(refine ap2 ?_ ?_<;>try intro h)|exact xf|refine aw1m ?_|(refine abx ?_;intro bb)|(refine abz ?_;intro bz)|(refine ahv ?_;intro v' hv')|(refine aac ?_;intro ac cc)|refine aw2 ?_|(refine ap4 ?_ ?_<;>try intro h)|apply True.intro)
     ((with_reducible apply z00);exact res_1 rfl rfl)
     exact HR.out _ _ _ [] atks ⟨by rw [decide_eq_true];rwa [List.take_of_length_le (by omega),List.take_of_length_le (by omega)] at ht,rfl⟩
theorem zge (r:Hp) (g:Nat) (w:Value) (P:List Rowpl) (hn:P.length<=1000000) (hl : ∀ x∈P,x.l.length<=100000000):Tri Tryz.prog r 50 [.pointer (some ⟨g,0,none⟩)] [pt g (bagP w (.slice none 0 0)),RowC 62 1 w P.length (P.flatMap encRpl),Fam P.length (fpl1 P) (fpl0 P) 0] fun w H=>w = .bool true/\H=[]:=by
 refine Tri.free2 fun R HR=>?_
 refine ae Tryz.func50 Tryz.ntmps50 ?_
 repeat' (first|refine aw0m ?_|(refine ap2 ?_ ?_<;>try intro h)|refine aw1m ?_|(refine abx ?_;intro bb)|(refine abz ?_;intro bz)|(refine ahv ?_;intro v' hv')|(refine aac ?_;intro ac cc)|refine aw2 ?_|(refine ap4 ?_ ?_<;>try intro h)|apply True.intro)
 simp only [List.append_eq,List.cons_append,List.nil_append]
 repeat' (first|((with_reducible apply z05 (A:=RowC 62 1 w P.length (P.flatMap encRpl)));(exact atk);intro r1 g1 hr1 hg1 hA1;(refine acl Tryz.func112 ?_;refine acr (zaq r1 w P ⟨fun _=>rfl,hA1.sl hg1⟩ hn hl) ?_;rintro v' H' ⟨rfl,rfl⟩;refine apl ?_))|(refine acl Tryz.func100 ?_;refine acr (z6y _) ?_;rintro v' H' ⟨rfl,rfl⟩;refine apl ?_)|(refine acl Tryz.func101 ?_;refine acr (z6z _) ?_;rintro v' H' ⟨rfl,rfl⟩;refine apl ?_)|(refine acl Tryz.func102 ?_;refine acr (z8h _) ?_;rintro v' H' ⟨rfl,rfl⟩;refine apl ?_)|(refine acl Tryz.func103 ?_;refine acr (z70 _) ?_;rintro v' H' ⟨rfl,rfl⟩;refine apl ?_)|(refine acl Tryz.func104 ?_;refine acr (z71 _) ?_;rintro v' H' ⟨rfl,rfl⟩;refine apl ?_)|(refine acl Tryz.func105 ?_;refine acr (zcq _) ?_;rintro v' H' ⟨rfl,rfl⟩;refine apl ?_)|(refine acl Tryz.func106 ?_;refine acr (z5z _) ?_;rintro v' H' ⟨rfl,rfl⟩;refine apl ?_)|(refine acl Tryz.func107 ?_;refine acr (z72 _) ?_;rintro v' H' ⟨rfl,rfl⟩;refine apl ?_)|(refine acl Tryz.func108 ?_;refine acr (z73 _) ?_;rintro v' H' ⟨rfl,rfl⟩;refine apl ?_)|(refine acl Tryz.func109 ?_;refine acr (z52 _) ?_;rintro v' H' ⟨rfl,rfl⟩;refine apl ?_)|(refine acl Tryz.func110 ?_;refine acr (z74 _) ?_;rintro v' H' ⟨rfl,rfl⟩;refine apl ?_)|(refine acl Tryz.func111 ?_;refine acr (z8i _) ?_;rintro v' H' ⟨rfl,rfl⟩;refine apl ?_)|(refine acl Tryz.func113 ?_;refine acr (z4t _) ?_;rintro v' H' ⟨rfl,rfl⟩;refine apl ?_)|(refine acl Tryz.func114 ?_;refine acr (z43 _) ?_;rintro v' H' ⟨rfl,rfl⟩;refine apl ?_)|(refine acl Tryz.func115 ?_;refine acr (z45 _) ?_;rintro v' H' ⟨rfl,rfl⟩;refine apl ?_)|(refine acl Tryz.func116 ?_;refine acr (z8j _) ?_;rintro v' H' ⟨rfl,rfl⟩;refine apl ?_)|(refine acl Tryz.func117 ?_;refine acr (z8k _) ?_;rintro v' H' ⟨rfl,rfl⟩;refine apl ?_)|(refine acl Tryz.func118 ?_;refine acr (z54 _) ?_;rintro v' H' ⟨rfl,rfl⟩;refine apl ?_)|(refine acl Tryz.func119 ?_;refine acr (z75 _) ?_;rintro v' H' ⟨rfl,rfl⟩;refine apl ?_)|(refine acl Tryz.func120 ?_;refine acr (z55 _) ?_;rintro v' H' ⟨rfl,rfl⟩;refine apl ?_)|refine aw0 ?_|(refine ap2 ?_ ?_<;>try intro h)|refine aw1 ?_|(refine abx ?_;intro bb)|(refine abz ?_;intro bz)|(refine ahv ?_;intro v' hv')|(refine aac ?_;intro ac cc)|refine aw2 ?_|(refine ap4 ?_ ?_<;>try intro h)|apply True.intro)
 ((with_reducible apply z00);exact res_1 rfl rfl)
 exact HR.out _ _ _ [] atks ⟨rfl,rfl⟩
theorem zdx (r:Hp) (v:Value) (P:List Rowpl) (hv:Els r 1 encRpl v P) (hn:P.length<=1000000) (hl : ∀ x∈P,x.l.length<=100000000):Tri Tryz.prog r 59 [v] (famL P.length (fpl1 P) (fpl0 P) 0) fun w H=>w = .bool true/\H=[]:=by
 refine tri_pack ?_
 rw [show (fun h=>all (famL P.length (fpl1 P) (fpl0 P) 0) h)=Fam P.length (fpl1 P) (fpl0 P) 0 from rfl]
 refine Tri.free2 fun R HR=>?_
 refine ae Tryz.func59 Tryz.ntmps59 ?_
 refine z0f (A:=RowC 62 1 (.slice none 0 0) 0 []) (RowC.nil _ _) ?_
 repeat' (first|refine aw0m ?_|(refine ap2 ?_ ?_<;>try intro h)|refine aw1m ?_|(refine abx ?_;intro bb)|(refine abz ?_;intro bz)|(refine ahv ?_;intro v' hv')|(refine aac ?_;intro ac cc)|refine aw2 ?_|(refine ap4 ?_ ?_<;>try intro h)|apply True.intro)
 refine z04 (fun gm t H' => ∃ (k:Nat) (w:Value),gm=P.length+1 - k/\(k<=P.length)/\(∃ G,Takes [pt bb (bagP w (.slice none 0 0)),RowC 62 1 w k ((P.take k).flatMap encRpl),Fam P.length (fpl1 P) (fpl0 P) 0] H' G)/\Sls t 21 [(0,v),(3,.pointer (some ⟨bb,0,none⟩)),(4,.int .i64 k)]) _ ⟨0,_,rfl,Nat.zero_le _,⟨[],atks⟩,asls⟩ ?_
 rintro gm t H' ⟨k,w,rfl,hk,⟨G,hp⟩,hs'⟩
 revert t;refine z06 ?_;iterate 18 intro uu'
 refine z01 hp ?_;clear hp
 by_cases hlt:k<P.length
 · repeat' (first|(refine acl Tryz.func129 ?_;refine acr (zcr r bb w (.slice none 0 0) k ((P.take k).flatMap encRpl) (P.getD k default).a (P.getD k default).l.length (P.getD k default).c (by omega)) ?_;rintro v' H' ⟨a1,c1,rfl⟩;refine apl ?_)|refine aw0 ?_|(refine ap2 ?_ ?_<;>try intro h)|refine aw1 ?_|(refine abx ?_;intro bb)|(refine abz ?_;intro bz)|(refine ahv ?_;intro v' hv')|(refine aac ?_;intro ac cc)|refine aw2 ?_|(refine ap4 ?_ ?_<;>try intro h)|apply True.intro)
   exact ⟨_,by omega,k+1,.slice a1 (k+1) c1,rfl,by omega,⟨_,by rw [z10 (d:=default) hlt,List.flatMap_append];(exact atks)⟩,asls⟩
 · obtain rfl:k=P.length:=by omega
   rw [List.take_length]
   repeat' (first|(refine acl Tryz.func50 ?_;refine acr (zge r bb w P hn hl) ?_;rintro v' H' ⟨rfl,rfl⟩;refine apl ?_)|refine aw0 ?_|(refine ap2 ?_ ?_<;>try intro h)|refine aw1 ?_|(refine abx ?_;intro bb)|(refine abz ?_;intro bz)|(refine ahv ?_;intro v' hv')|(refine aac ?_;intro ac cc)|refine aw2 ?_|(refine ap4 ?_ ?_<;>try intro h)|apply True.intro)
   ((with_reducible apply z00);exact res_1 rfl rfl)
   exact HR.out _ _ _ [] atks ⟨rfl,rfl⟩
theorem z9e (r:Hp) (v:Value) (a b:Option Addr) (c d:Nat) (l m:List PlaceV) (hv:Sl r 1 v 2 [.slice a l.length c,.slice b m.length d]) (hl:l.length<=100000000) (hm:m.length<=100000000):Tri Tryz.prog r 59 [v] [RowC 149 2 (.slice a l.length c) l.length (l.flatMap encPl),RowC 149 2 (.slice b m.length d) m.length (m.flatMap encPl)] fun w H=>w = .bool true/\H=[]:=by
 have h:=zdx r v [⟨a,c,l⟩,⟨b,d,m⟩] ⟨fun _=>rfl,hv⟩ (by simp) (fun x hx=>by
  rcases List.mem_cons.1 hx with rfl|hx
  · exact hl
  · obtain rfl:=List.mem_singleton.1 hx;exact hm)
 have hF:=zik ([⟨a,c,l⟩,⟨b,d,m⟩]:List Rowpl) (fpl1 [⟨a,c,l⟩,⟨b,d,m⟩]) (fpl0 [⟨a,c,l⟩,⟨b,d,m⟩]) (fun x=>RowC 149 2 (.slice x.a x.l.length x.c) x.l.length (x.l.flatMap encPl)) (fun j hj=>by unfold fpl0;rw [z8e])
 rw [hF] at h
 exact h
end Go.Proofs.YtohpeoakdgckfaaGreat
