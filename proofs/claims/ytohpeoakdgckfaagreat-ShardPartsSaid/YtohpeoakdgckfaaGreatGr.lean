/- post.blocked: its contract. Slices cut with a bound on their room; slices.Chunk at places: its contract. gram.At, maps.Keys, slices.Sorted at grams, post.Make: their contracts. Append of so many zero elements to no slice; slices.Grow, Concat at bytes: their contracts. -/
import Derived.Test.YtohpeoakdgckfaaGreatPf
import Derived.Test.YtohpeoakdgckfaaGreatDb
import Derived.Test.YtohpeoakdgckfaaGreatMs
import Derived.Test.YtohpeoakdgckfaaGreatIdx
import Derived.Test.YtohpeoakdgckfaaGreatGo
import Derived.Test.YtohpeoakdgckfaaGreatWd
import Derived.Test.YtohpeoakdgckfaaGreatParts
set_option maxHeartbeats 2000000
set_option maxRecDepth 10000
namespace Go.Proofs.YtohpeoakdgckfaaGreat
open Go.RowKit Sx
theorem z66 (r:Hp) (g:Nat) (v:Value) (l:List UInt8) (nv:Value) (a b:Int) (hs:Sl r 1 nv 2 [.int .i64 a,.int .i64 b]) (ha:0<=a/\a<=1099511627776) (hb:0<=b/\b<=1099511627776) (hl:l.length<=60000000000000) :
 Tri Tryz.prog r 81 [.pointer (some ⟨g,0,none⟩),nv] [pt g (wri v false),U8R v l] fun _ H => ∃ v',H=[pt g (wri v' false),U8R v' (l++(septs a.toNat++septs b.toNat))]:=by
 refine (zbm r g v false l nv 2 [a,b] hs (by omega)).mono ?_
 rintro w H ⟨v',l',rfl,rfl⟩
 have h1:badNum a=false:=by unfold badNum;simp;omega
 have h2:badNum b=false:=by unfold badNum;simp;omega
 have hb:[a,b].any badNum=false:=by simp [h1,h2]
 rw [hb]
 exact ⟨v',by simp [numsOf,U8R]⟩
theorem z7o : ∀ (ls:List PlaceV) (a:PlaceV),chainP a ls=true->0<=a.doc -> -1<=a.pos->(blockB a ls).length<=ls.length*12
 | [],_,_,_,_=>by simp [blockB]
 | p::ls,a,h,h1,h2=>by
  rw [chainP,Bool.and_eq_true] at h
  have hf:=h.1
  simp only [fitsP,Bool.and_eq_true,Bool.or_eq_true,decide_eq_true_eq] at hf
  have ih:=z7o ls p h.2 (by omega) (by omega)
  have e1:=z09 (n:=(p.doc - a.doc).toNat) (by unfold maxNum;omega)
  have e2:=z09 (n:=(if p.doc=a.doc then p.pos - (a.pos+1) else p.pos).toNat) (by unfold maxNum;split<;>omega)
  simp only [blockB,List.length_append,List.length_cons]
  omega
theorem zgp (r:Hp) (v:Value) (ls:List PlaceV) (a0:PlaceV) (hv:Els r 2 encPl v ls) (hne:0<ls.length) (hc0:chainP a0 ls=true) (hl:ls.length<=1000000):Tri Tryz.prog r 151 [v] [] fun w H => ∃ a c,w = .slice a (block1 ls).length c/\H=[U8R w (block1 ls)]:=by
 refine Tri.free2 fun R HR=>?_
 have h0:chainP ⟨(ls.getD 0 default).doc,-1⟩ ls=true/\0<=(ls.getD 0 default).doc/\(ls.getD 0 default).doc<4000:=by
  cases ls with
  | nil=>simp at hne
  | cons p ls =>
   rw [chainP,Bool.and_eq_true] at hc0
   have hf:=hc0.1
   simp only [fitsP,Bool.and_eq_true,Bool.or_eq_true,decide_eq_true_eq] at hf
   refine ⟨?_,hf.1.1.1.1,hf.1.1.1.2⟩
   rw [chainP,hc0.2]
   simp only [fitsP,List.getD_cons_zero,Bool.and_true,Bool.and_eq_true,Bool.or_eq_true,decide_eq_true_eq]
   refine ⟨hf.1,.inr ⟨trivial,?_⟩⟩
   have:=hf.1.1.2
   omega
 have hb1:block1 ls=blockB ⟨(ls.getD 0 default).doc,-1⟩ ls:=by cases ls<;>rfl
 have hbl:=z7o ls _ h0.1 h0.2.1 (by simp)
 rw [← hb1] at hbl
 refine ae Tryz.func151 Tryz.ntmps151 ?_
 repeat' (first|refine aw0m ?_|(refine ap2 ?_ ?_<;>try intro h)|refine aw1m ?_|(refine abx ?_;intro bb)|(refine abz ?_;intro bz)|(refine ahv ?_;intro v' hv')|(refine aac ?_;intro ac cc)|refine aw2 ?_|(refine ap4 ?_ ?_<;>try intro h)|apply True.intro)
 refine z0f (A:=RowC 5 1 (.slice none 0 0) 0 []) (RowC.nil _ _) ?_
 refine z04 (fun gm t H' => ∃ (k bw ba:Nat) (wv:Value) (W:List UInt8) (a:PlaceV),gm=ls.length+1 - k/\(k<=ls.length)/\(block1 ls=W++blockB a (ls.drop k))/\(chainP a (ls.drop k)=true)/\(0<=a.doc/\a.doc<4000)/\(-1<=a.pos/\a.pos<=1048576)/\(∃ G,Takes [pt bw (wri wv false),pt ba (.cells (encPl a).toArray 149 (0,0)),U8R wv W] H' G)/\Sls t 42 [(3,.pointer (some ⟨bw,0,none⟩)),(4,.pointer (some ⟨ba,0,none⟩)),(13,v),(14,.int .i64 ls.length),(15,.int .i64 k)]) _ ⟨0,_,_,.slice none 0 0,[],⟨(ls.getD 0 default).doc,-1⟩,rfl,Nat.zero_le _,hb1,h0.1,h0.2,by simp,⟨_,by (exact atks)⟩,asls⟩ ?_
 rintro gm t H' ⟨k,bw,ba,wv,W,a,rfl,hk,hW,hc,had,hap,⟨G,hp⟩,hs'⟩
 revert t;refine z06 ?_;iterate 37 intro uu'
 refine z01 hp ?_;clear hp
 by_cases hlt:k<ls.length
 · rw [z2t hlt,chainP,Bool.and_eq_true] at hc
   have hf:=hc.1
   simp only [fitsP,Bool.and_eq_true,Bool.or_eq_true,decide_eq_true_eq] at hf
   rw [z2t hlt,blockB] at hW
   have hWl:W.length<=12000000:=by
    have:=congrArg List.length hW
    rw [List.length_append] at this
    omega
   by_cases hd:(ls.getD k default).doc=a.doc
   · rw [if_pos hd] at hW
     repeat' (first|refine aw0m ?_|(refine ap2 ?_ ?_<;>try intro h)|refine aw1m ?_|(refine abx ?_;intro bb)|(refine abz ?_;intro bz)|(refine ahv ?_;intro v' hv')|(refine aac ?_;intro ac cc)|refine aw2 ?_|(refine ap4 ?_ ?_<;>try intro h)|apply True.intro)
     generalize ls.getD k default=p at hc hf hW hd ⊢
     repeat' (first|refine aw0m ?_|(refine ap2 ?_ ?_<;>try intro h)|((with_reducible apply z0k [(bz,.cells [.int .i64 (p.doc - a.doc),.int .i64 (p.pos - (a.pos+1))].toArray 3 (0,0))]);(exact atks);intro r' hl';refine acl Tryz.func81 ?_;refine acr (z66 _ bw wv W _ (p.doc - a.doc) (p.pos - (a.pos+1)) (Sl.lit (n:=2) (Lent.h1 hl') rfl (by simp [maxLen])) (by omega) (by omega) (by omega)) ?_;rintro v' H' ⟨w',rfl⟩;all_goals refine apm ?_)|refine aw1m ?_|(refine abx ?_;intro bb)|(refine abz ?_;intro bz)|(refine ahv ?_;intro v' hv')|(refine aac ?_;intro ac cc)|refine aw2 ?_|(refine ap4 ?_ ?_<;>try intro h)|apply True.intro)
     exact ⟨_,by omega,k+1,bw,ba,w',W++(septs (p.doc - a.doc).toNat++septs (p.pos - (a.pos+1)).toNat),p,rfl,by omega,by rw [hW];simp only [List.append_assoc],hc.2,by omega,by omega,⟨_,atks⟩,asls⟩
   · rw [if_neg hd] at hW
     repeat' (first|refine aw0m ?_|(refine ap2 ?_ ?_<;>try intro h)|refine aw1m ?_|(refine abx ?_;intro bb)|(refine abz ?_;intro bz)|(refine ahv ?_;intro v' hv')|(refine aac ?_;intro ac cc)|refine aw2 ?_|(refine ap4 ?_ ?_<;>try intro h)|apply True.intro)
     generalize ls.getD k default=p at hc hf hW hd ⊢
     repeat' (first|refine aw0m ?_|(refine ap2 ?_ ?_<;>try intro h)|((with_reducible apply z0k [(bz,.cells [.int .i64 (p.doc - a.doc),.int .i64 p.pos].toArray 3 (0,0))]);(exact atks);intro r' hl';refine acl Tryz.func81 ?_;refine acr (z66 _ bw wv W _ (p.doc - a.doc) p.pos (Sl.lit (n:=2) (Lent.h1 hl') rfl (by simp [maxLen])) (by omega) (by omega) (by omega)) ?_;rintro v' H' ⟨w',rfl⟩;all_goals refine apm ?_)|refine aw1m ?_|(refine abx ?_;intro bb)|(refine abz ?_;intro bz)|(refine ahv ?_;intro v' hv')|(refine aac ?_;intro ac cc)|refine aw2 ?_|(refine ap4 ?_ ?_<;>try intro h)|apply True.intro)
     exact ⟨_,by omega,k+1,bw,ba,w',W++(septs (p.doc - a.doc).toNat++septs (p.pos).toNat),p,rfl,by omega,by rw [hW];simp only [List.append_assoc],hc.2,by omega,by omega,⟨_,atks⟩,asls⟩
 · obtain rfl:k=ls.length:=by omega
   rw [List.drop_length,blockB,List.append_nil] at hW
   subst hW
   repeat' (first|refine aw0m ?_|(refine ap2 ?_ ?_<;>try intro h)|(refine acl Tryz.func39 ?_;refine acr (z3h _ bw wv (block1 ls) (by omega)) ?_;rintro v' H' ⟨a,c,rfl,rfl⟩;refine apl ?_)|refine aw1m ?_|(refine abx ?_;intro bb)|(refine abz ?_;intro bz)|(refine ahv ?_;intro v' hv')|(refine aac ?_;intro ac cc)|refine aw2 ?_|(refine ap4 ?_ ?_<;>try intro h)|apply True.intro)
   ((with_reducible apply z00);exact res_1 rfl rfl)
   exact HR.out _ _ _ [_] atks ⟨_,_,rfl,rfl⟩
end Go.Proofs.YtohpeoakdgckfaaGreat
namespace Go.Proofs.YtohpeoakdgckfaaGreat
open Go.RowKit
namespace Sx
section
variable {P : Program} {l : Option Nat} {r : Hp} {Q : Exit → St} {K : St} {t : List Value} {H : List Ch} {d : Option Tmp} {ty : TypeId} {pos : String} {af : Array Edge} {gd : Option (Nat × Bool)} {v : Value}
def cut3V (v:Value) (lo hi mx sz:Nat):Value:=match v with
 | .slice a _ _=> .slice (if mx=lo then a else a.map (·.add (lo*sz))) (hi - lo) (mx - lo)
 | v=>v
theorem Sl.cap {n c c' sz:Nat} {a:Option Addr} {xs:List Value} (h:Sl r sz (.slice a n c) n xs) (hn:0<n) (h1:n<=c'):Sl r sz (.slice a n c') n xs:=by
 refine ⟨h.1,h.2.1,?_⟩
 rcases h.2.2 with ⟨_,h0⟩ | ⟨b,off,cap,cc,E,fz,e,h3,h4,h5⟩
 · omega
 · injection e with e1 e2 e3
   exact .inr ⟨b,off,c',cc,E,fz,by rw [e1],h1,h4,h5⟩
theorem Sl.cut3 {n sz:Nat} {xs:List Value} (h:Sl r sz v n xs) {i j m:Nat} (h1:i<j) (h2:j<=m) (h3:m<=n):Sl r sz (cut3V v i j m sz) (j - i) ((xs.drop (i*sz)).take ((j - i)*sz)):=by
 have hc:=h.cut (Nat.le_of_lt h1) (Nat.le_trans h2 h3)
 obtain ⟨a,cap,rfl⟩:=h.form
 have hcap:n<=cap:=by
  rcases h.2.2 with ⟨e,rfl⟩ | ⟨b,off,cap',c,E',fz,e,h1,_⟩
  · omega
  · injection e with _ _ e;omega
 have hne:¬ cap=i:=by omega
 have hm:¬ m=i:=by omega
 have e:cutV (.slice a n cap) i j sz = .slice (a.map (·.add (i*sz))) (j - i) (cap - i):=by simp only [cutV];rw [if_neg hne]
 rw [e] at hc
 have:=hc.cap (c':=m - i) (by omega) (by omega)
 simp only [cut3V]
 rw [if_neg hm]
 exact this
theorem zec {α:Type} {sz:Nat} {enc:α->List Value} (h : ∀ x,(enc x).length=sz) : ∀ (xs:List α) (i:Nat),(xs.flatMap enc).drop (i*sz)=(xs.drop i).flatMap enc
 | [],i=>by simp
 | x::xs,0=>by simp
 | x::xs,i+1=>by
  rw [List.flatMap_cons,List.drop_succ_cons,← zec h xs i,show (i+1)*sz=(enc x).length+i*sz by rw [h x,Nat.succ_mul];omega,List.drop_append]
  rw [List.drop_eq_nil_of_le (by omega),List.nil_append]
  congr 1
  omega
theorem zed {α:Type} {sz:Nat} {enc:α->List Value} (h : ∀ x,(enc x).length=sz) : ∀ (xs:List α) (i:Nat),(xs.flatMap enc).take (i*sz)=(xs.take i).flatMap enc
 | [],i=>by simp
 | x::xs,0=>by simp
 | x::xs,i+1=>by
  rw [List.flatMap_cons,List.take_succ_cons,List.flatMap_cons,← zed h xs i,show (i+1)*sz=(enc x).length+i*sz by rw [h x,Nat.succ_mul];omega,List.take_append]
  rw [List.take_of_length_le (by omega)]
  congr 2
  omega
theorem Els.cut3 {α:Type} {sz:Nat} {enc:α->List Value} {xs:List α} (h:Els r sz enc v xs) {i j m:Nat} (h1:i<j) (h2:j<=m) (h3:m<=xs.length):Els r sz enc (cut3V v i j m sz) ((xs.drop i).take (j - i)):=by
 refine ⟨h.1,?_⟩
 have:=h.2.cut3 h1 h2 h3
 rw [zec h.1,zed h.1] at this
 rw [show ((xs.drop i).take (j - i)).length=j - i by rw [List.length_take,List.length_drop];omega]
 exact this
theorem zss {T E:TypeId} {x lo hi mx:Operand} {sz n:Nat} {xs:List Value} {i j m:Int} {g:Bool} {k1 k2 k3:IntKind} [hT:TyE P T E] [hE:TyF P E g sz] (hx:evO t x=some v) (hv:Sl r sz v n xs) (hl:evO t lo=some (.int k1 i)) (hh:evO t hi=some (.int k2 j)) (hm:evO t mx=some (.int k3 m)) (h0:0<=i/\i<=j/\j<=m/\m<=n) :
 Pur P r t ⟨d,.slice T x (some lo) (some hi) (some mx),ty,pos,af,gd⟩ (cut3V v i.toNat j.toNat m.toNat sz):=by
 refine ⟨rfl,fun w _=>?_⟩
 obtain ⟨a,cap,rfl⟩:=hv.form
 have hcap:n<=cap:=by
  rcases hv.2.2 with ⟨e,rfl⟩ | ⟨b,off,cap',c,E',fz,e,h1,_⟩
  · omega
  · injection e with _ _ e;omega
 simp only [execOp,ev_of hx,ev_of hl,ev_of hh,ev_of hm,Option.map_some,Instr.sliceAt,Sem.run_bind,run_underlying (elB_s hT.el),Result.andThen,Instr.slice,Instr.sliceBounds]
 rw [zaa (by omega) (by omega)]
 simp only []
 rw [zaa (by omega) (by omega)]
 simp only []
 rw [zaa (by omega) (by omega)]
 simp [Sem.run_pure,z14 (P:=P) (T:=E) hE.size,cut3V]
end
end Sx
open Sx
abbrev ChV:=Value × List PlaceV
def chunkV (v:Value) (ls:List PlaceV) (q:Nat):ChV:=(cut3V v (64*q) (64*q+min 64 (ls.length - 64*q)) (64*q+min 64 (ls.length - 64*q)) 2,(ls.drop (64*q)).take 64)
def chunkVs (v:Value) (ls:List PlaceV):List ChV:=(List.range ((ls.length+63) / 64)).map (chunkV v ls)
def encC (y:ChV):List Value:=[y.1]
theorem zlk (r:Hp) (a:Option Addr) (n c:Nat):Tri Tryz.prog r 150 [.slice a n c,.int .i64 64] [] fun w H => ∃ b1 b2,w = .func (.func 202) #[] #[.pointer (some ⟨b1,0,none⟩),.pointer (some ⟨b2,0,none⟩)]/\H=[pt b1 (.cells [.slice a n c].toArray 62 (0,0)),pt b2 (.cells [.int .i64 64].toArray 3 (0,0))]:=by
 refine Tri.free2 fun R HR=>?_
 refine ae Tryz.func150 Tryz.ntmps150 ?_
 repeat' (first|refine aw0m ?_|(refine ap2 ?_ ?_<;>try intro h)|refine aw1m ?_|(refine abx ?_;intro bb)|(refine abz ?_;intro bz)|(refine ahv ?_;intro v' hv')|(refine aac ?_;intro ac cc)|refine aw2 ?_|(refine ap4 ?_ ?_<;>try intro h)|apply True.intro)
 ((with_reducible apply z00);exact res_1 rfl rfl)
 exact HR.out _ _ _ [_,_] atks ⟨_,_,rfl,rfl⟩
theorem zll (r:Hp) (a:Option Addr) (c:Nat) (ls:List PlaceV) (hv:Els r 2 encPl (.slice a ls.length c) ls) (hn:ls.length<=10000000) (b1 b2:Nat):Seq Tryz.prog r 202 [.pointer (some ⟨b1,0,none⟩),.pointer (some ⟨b2,0,none⟩)] encC (chunkVs (.slice a ls.length c) ls)
 [pt b1 (.cells [.slice a ls.length c].toArray 62 (0,0)),pt b2 (.cells [.int .i64 64].toArray 3 (0,0))] []:=by
 intro k J Jx hY
 refine Tri.free2 fun R HR=>?_
 have hm:(chunkVs (.slice a ls.length c) ls).length=(ls.length+63) / 64:=by simp [chunkVs]
 rw [hm] at HR
 generalize hM:(ls.length+63) / 64=m at HR hm
 refine ae Tryz.func202 Tryz.ntmps202 ?_
 repeat' (first|refine aw0m ?_|(refine ap2 ?_ ?_<;>try intro h)|refine aw1m ?_|(refine abx ?_;intro bb)|(refine abz ?_;intro bz)|(refine ahv ?_;intro v' hv')|(refine aac ?_;intro ac cc)|refine aw2 ?_|(refine ap4 ?_ ?_<;>try intro h)|apply True.intro)
 refine z04 (fun gm t H' => ∃ q:Nat,gm=m+1 - q/\(q<=m)/\(∃ G,Takes [J q,pt b1 (.cells [.slice a ls.length c].toArray 62 (0,0)),pt b2 (.cells [.int .i64 64].toArray 3 (0,0))] H' G)/\Sls t 31 [(0,.func (.yield k) #[] #[]),(1,.pointer (some ⟨b1,0,none⟩)),(2,.pointer (some ⟨b2,0,none⟩)),(4,.int .i64 (64*(q:Int)))]) _ ⟨0,rfl,Nat.zero_le _,⟨[],atks⟩,asls⟩ ?_
 rintro gm t H' ⟨q,rfl,hq,⟨G,hp⟩,hs'⟩
 revert t;refine z06 ?_;iterate 27 intro uu'
 refine z01 hp ?_;clear hp
 by_cases hlt:q<m
 · have hy:=hY q (by rw [hm];exact hlt)
   rw [show (chunkVs (.slice a ls.length c) ls)[q]'(by rw [hm];exact hlt)=chunkV (.slice a ls.length c) ls q by simp [chunkVs]] at hy
   repeat' (first|refine aw0m ?_|(refine ap2 ?_ ?_<;>try intro h)|(first|((with_reducible apply z02 (id:=3) 6 [(0,true),(1,true),(2,true),(3,true),(4,true),(5,true)] [(6,false)] [(b1,.cells [.slice a ls.length c].toArray 62 (0,0)),(b2,.cells [.int .i64 64].toArray 3 (0,0))]);kernel_rfl;(exact atks);kernel_rfl;intro r' hl'))|refine aw1m ?_|(refine abx ?_;intro bb)|(refine abz ?_;intro bz)|(refine ahv ?_;intro v' hv')|(refine aac ?_;intro ac cc)|refine aw2 ?_|(refine ap4 ?_ ?_<;>try intro h)|apply True.intro)
   have hE:(List.take ((ls.length:Int).toNat - (64*(q:Int)).toNat) (List.drop (64*(q:Int)).toNat ls)).length=ls.length - 64*q:=by rw [List.length_take,List.length_drop];omega
   rw [hE]
   have e1:(64*(q:Int)).toNat=64*q:=by omega
   have e2:(64*(q:Int)+min 64 ((ls.length - 64*q:Nat):Int)).toNat=64*q+min 64 (ls.length - 64*q):=by omega
   have hy':Yld Tryz.prog r k [cut3V (.slice a ls.length c) (64*(q:Int)).toNat (64*(q:Int)+min 64 ((ls.length - 64*q:Nat):Int)).toNat (64*(q:Int)+min 64 ((ls.length - 64*q:Nat):Int)).toNat 2] (J q) (J (q+1)) (Jx (q+1)):=by rw [e1,e2];exact hy
   clear hy hE
   repeat' (first|refine aw0m ?_|(refine ap2 ?_ ?_<;>try intro h)|((with_reducible apply z0z);(with_reducible apply zss (sz:=2));rfl;exact hv.2;rfl;rfl;rfl;omega;(refine apk ?_))|((with_reducible apply z2o);rfl;exact (hy');rfl;(exact atk);all_goals (refine apk ?_))|refine aw1m ?_|(refine abx ?_;intro bb)|(refine abz ?_;intro bz)|(refine ahv ?_;intro v' hv')|(refine aac ?_;intro ac cc)|refine aw2 ?_|(refine ap4 ?_ ?_<;>try intro h)|apply True.intro)
   · exact ⟨_,by omega,q+1,rfl,by omega,⟨_,atks⟩,asls⟩
   · ((with_reducible apply z00);exact res_0 rfl)
     exact HR.out _ _ _ [Jx (q+1)] atks (.inr ⟨q,[],hlt,rfl⟩)
 · obtain rfl:q=m:=by omega
   repeat' (first|refine aw0m ?_|(refine ap2 ?_ ?_<;>try intro h)|refine aw1m ?_|(refine abx ?_;intro bb)|(refine abz ?_;intro bz)|(refine ahv ?_;intro v' hv')|(refine aac ?_;intro ac cc)|refine aw2 ?_|(refine ap4 ?_ ?_<;>try intro h)|apply True.intro)
   ((with_reducible apply z1k);exact res_0 rfl)
   exact HR.out _ _ _ [J q] atks (.inl rfl)
end Go.Proofs.YtohpeoakdgckfaaGreat
namespace Go.Proofs.YtohpeoakdgckfaaGreat
open Go.RowKit Go.Maps Go.Sort Sx
structure BytV where
 val:Value
 data:List UInt8
 deriving Inhabited
def encBy (b:BytV):List Value:=[b.val]
abbrev Rowz (r:Hp) (v:Value) (bs:List BytV):Prop:=Els r 1 encBy v bs /\ ∀ b∈bs,U8S r b.val b.data
theorem zst (r:Hp) (v:Value) (l:List UInt8) (i:Int) (hv:U8S r v l) (hl:l.length<=140737488351232):Tri Tryz.prog r 89 [v,.int .i64 i] [] fun w H =>
 w=(if gramAt l i then .tuple #[.string (bs ((l.drop i.toNat).take 3)),.bool true] else .tuple #[.string (bs []),.bool false])/\H=[]:=by
 refine Tri.free2 fun R HR=>?_
 by_cases h0:0<=i/\i<=(l.length:Int) - 3
 · obtain ⟨h1,h2⟩:=h0
   obtain ⟨k,rfl⟩ : ∃ k:Nat,i=k:=⟨i.toNat,by omega⟩
   have hg:gramAt l k=true:=by unfold gramAt;rw [decide_eq_true h1,decide_eq_true h2];rfl
   rw [hg,if_pos rfl] at HR
   refine ae Tryz.func89 Tryz.ntmps89 ?_
   repeat' (first|((with_reducible apply z0z);(with_reducible apply zpt);exact ty_el;kernel_rfl;kernel_rfl;rfl;(with_reducible assumption);(refine apk ?_))|refine aw0 ?_|(refine ap2 ?_ ?_<;>try intro h)|refine aw1 ?_|(refine abx ?_;intro bb)|(refine abz ?_;intro bz)|(refine ahv ?_;intro v' hv')|(refine aac ?_;intro ac cc)|refine aw2 ?_|(refine ap4 ?_ ?_<;>try intro h)|apply True.intro)
   ((with_reducible apply z00);exact res_2 rfl rfl rfl)
   rw [show ((k:Int)+3).toNat - (k:Int).toNat=3 by omega]
   exact HR.out _ _ _ [] atks ⟨rfl,rfl⟩
 · have hg:gramAt l i=false:=by
    unfold gramAt
    by_cases h1:0<=i
    · rw [decide_eq_true h1,decide_eq_false (fun h2=>h0 ⟨h1,h2⟩)];rfl
    · rw [decide_eq_false h1];rfl
   rw [hg,if_neg (by simp)] at HR
   refine ae Tryz.func89 Tryz.ntmps89 ?_
   repeat' (first|refine aw0m ?_|(refine ap2 ?_ ?_<;>try intro h)|refine aw1m ?_|(refine abx ?_;intro bb)|(refine abz ?_;intro bz)|(refine ahv ?_;intro v' hv')|(refine aac ?_;intro ac cc)|refine aw2 ?_|(refine ap4 ?_ ?_<;>try intro h)|apply True.intro)
   all_goals (((with_reducible apply z00);exact res_2 rfl rfl rfl);exact HR.out _ _ _ [] atks ⟨rfl,rfl⟩)
theorem zod (r:Hp) (b:Nat):Tri Tryz.prog r 91 [.map (some b)] [] fun w H => ∃ bm,w = .func (.func 154) #[] #[.pointer (some ⟨bm,0,none⟩)]/\H=[pt bm (.cells #[.map (some b)] 162 (0,0))] :=
 z1c.2 fun w g ok al=>(callsIn_wide.1 (AnyZ.keys_in Tryz.keysL Fence.wide 5 trivial rfl (some b) w)).mono fun e w' ⟨he,hw⟩=>by
  subst hw
  obtain ⟨dd,to⟩:=z1n ok (.cells #[.map (some b)] 162)
  exact ⟨_,_,_,he,⟨_,rfl,rfl⟩,⟨_,_,dd,rfl,rfl,al⟩,to⟩
theorem zjv (m:Nat):AnyZ.SortsIn Tryz.prog Tryz.sortedL_ren Fence.wide m :=
 ⟨fun blk off cap ss W hH hblk hsz=>callsIn_wide.2 (AnyM.slices_Sort_string Tryz.sortL blk off cap ss W hH hblk hsz),
  fun p cap W=>callsIn_wide.2 (AnyM.slices_Sort_string_none Tryz.sortL p cap W)⟩
theorem sizeK {D:DataW Value} {ks:List (List UInt8)} (h:ks.Perm (strKeys D)):Maps.size D=ks.length\/ks=[]:=by
 cases D with
 | map es=>left;rw [h.length_eq];simp [strKeys,Maps.size]
 | _=>right;exact List.Perm.eq_nil h
theorem zgq (r:Hp) (bm b n:Nat) (M:Lit->Option Value) (g:Hp) (hbm:r bm=some (.cells #[.map (some b)] 162 (0,0))) (hm:MapC Tryz.prog 9 b n M g) (hs:sub g r)
 (ks:List (List UInt8)) (hd:ks.Nodup) (hk : ∀ x,x∈ks↔(M (.string x)).isSome=true) (hl:ks.length<=10000000) :
 Tri Tryz.prog r 90 [.func (.func 154) #[] #[.pointer (some ⟨bm,0,none⟩)]] [] fun w H => ∃ a c,w = .slice a ks.length c/\H=[RowC 9 1 w ks.length ((ks.mergeSort leB).map Go.Proofs.encStr)]:=by
 refine (zri (E:=9) (sz:=1) (R:=fun v n xs => ∃ a c,v = .slice a ks.length c/\n=ks.length/\xs=(ks.mergeSort leB).map Go.Proofs.encStr) fun w ro=>?_).mono fun v H ⟨n,xs,hH,a,c,hv,hn,hx⟩=>⟨a,c,hv,by rw [hH,hn,hx]⟩
 have hbmw:=ro bm _ hbm
 have hlt:bm<w.heap.size:=(Array.getElem?_eq_some_iff.1 hbmw).1
 obtain ⟨D,hown,hrd⟩:=hm.own (w:=w) (fun b u e=>ro b u (hs b u e))
 have hp:=hrd.keys hown Tryz.underlying9 hd hk
 have hm':w.cell? ⟨bm,0,none⟩=some (.map (some b)):=by simp [World.cell?,hbmw]
 have hst:=AnyZ.keys_gives (ρ:=Tryz.keysL_ren) { Tryz.keysL with } Fence.wide 2 trivial rfl (by omega) bm b n D w hlt hm' hown
 have hsz:Maps.size D<=10000000:=by
  rcases sizeK hp with h|h
  · omega
  · obtain ⟨es,clock,_,_,_,rfl⟩:=hown
    subst h
    have:=hp.length_eq
    simp [strKeys] at this
    simp [Maps.size,← this]
 refine (callsIn_wide.1 (AnyZ.sorted_in Tryz.sortedL Fence.wide 5 trivial trivial trivial trivial rfl (by omega) (zjv _) (enters_of Tryz.func153 (by kernel_rfl) rfl) 154 #[.pointer (some ⟨bm,0,none⟩)] trivial (enters_of Tryz.func154 (by kernel_rfl) rfl) _ _ (by unfold maxLen;omega) (by omega) w hst)).mono ?_
 rintro e w' ⟨v,ss,he,hss,ho,hn,hbl⟩
 have hp2:=hss.trans hp.symm
 rw [show (ss.mergeSort fun x y=>decide (x<=y))=ks.mergeSort leB from mergeSort_of_perm hp2,hp2.length_eq] at ho
 refine ⟨v,_,_,he,ho,hbl,?_⟩
 rcases ho.2 with ⟨rfl,h0⟩ | ⟨b,cap,_,rfl,_⟩
 · exact ⟨none,0,by rw [h0],rfl,rfl⟩
 · exact ⟨_,_,rfl,rfl,rfl⟩
end Go.Proofs.YtohpeoakdgckfaaGreat
namespace Go.Proofs.YtohpeoakdgckfaaGreat
open Go.RowKit
namespace Sx
section
variable {P : Program} {l : Option Nat} {r : Hp} {Q : Exit → St} {K : St} {t : List Value} {H : List Ch} {d : Option Tmp} {ty : TypeId} {pos : String} {af : Array Edge} {gd : Option (Nat × Bool)} {v : Value}
theorem zap {w:World} (T u ty e:TypeId) (i:TypeInfo) (z:Value) (ht:P.underlying T=some (.slice e)) (hu:P.underlying u=some (.int .i64)) (hi:P.info? e=some i) (hz:i.zero=some z) (hs:0<i.size)
 (n:Nat) (h0:0<n) (h63:(n:Int)<=9223372036854775807) (h48:n*i.bytes<=140737488355328) :
 (Builtin.append_ #[T,u] ty #[.slice none 0 0,.int .i64 n]).run P w =
  .ok (.slice (some ⟨w.heap.size,0,none⟩) n (grownCap w n 0 e)) (w.drew.alloc (.cells (Builtin.zeroCells z.cells n++Builtin.zeroCells z.cells (grownCap w n 0 e - n)) e)):=by
 have hn:n≠0:=by omega
 have h63':¬ (9223372036854775807<(n:Int)):=by omega
 have h48':¬ (281474976710656<Builtin.nextslicecap n 0*i.bytes):=by rw [nextslicecap_zero h0];omega
 have h48i:¬ (281474976710656<(n:Int)*(i.bytes:Int)):=by
  have:(n:Int)*(i.bytes:Int)=((n*i.bytes:Nat):Int):=by simp
  omega
 have hns:n*i.size≠0:=Nat.mul_ne_zero hn (by omega)
 have hw:IntKind.i64.wrap (n:Int)=n:=by simp [IntKind.wrap,IntKind.bits,IntKind.signed];omega
 have ha : ∀ w,(asIntOf (Value.int .i64 (n:Int))).run P w = .ok (.i64,(n:Int)) w:=fun w=>by simp [asIntOf,Sem.run_pure]
 have k1:¬ (n:Int)<0:=by omega
 have k2:¬ (n:Int)<=0:=by omega
 have k3:¬ 9223372036854775807<max (n:Int) 0:=by omega
 have k4:¬ (n=0\/i.size=0):=by omega
 have k5:¬ i.size=0:=by omega
 simp [Builtin.append_,ha,k1,Result.andThen,run_underlying ht,run_underlying hu,sizeOf,typeInfo,zeroValue,hi,hz,asInt,hw,hn,h63',h48',h48i,Question.forced,run_firstCells_none,newRow,grownCap]
 rw [if_neg hns]
 rfl
theorem zr0 {ds:List Deferred} {w:World} {g:Hp} (ok:Ok l r ds w g):To l r ds w g ds w.drew g :=
 To.step ok rfl rfl rfl (Nat.le_refl _) (fun _ _ _=>rfl) (fun b u hb=>ok.emb b u hb) (fun _ hb=> .inl hb)
theorem zr1 {T u E:TypeId} {z:Value} {sz by_ n:Nat} {x y:Operand} (hT:elB P T=some E) (hi:infB P E=some (some z,sz,by_)) (hu:P.underlying u=some (.int .i64)) (hzs:z.cells.size=sz) (hsz:decide (0<sz)=true)
 (hx:evO t x=some (.slice none 0 0)) (hy:evO t y=some (.int .i64 (n:Nat))) (h0:0<n) (hn:n<=maxLen) (hb:n*by_<=140737488355328)
 (hk : ∀ b c xs,n<=c->K (putL t d (.slice (some ⟨b,0,none⟩) n c)) (RowC E sz (.slice (some ⟨b,0,none⟩) n c) n xs::H)):SWo P l r ⟨d,.call { callee:= .builtin .append,args := #[x,y],argTypes := #[T,u] },ty,pos,af,gd⟩ K t H :=
 z15 (fun c hc=>by cases hc) fun w g ds ok al=>by
  obtain ⟨i,hi1,hi2,hi3,hi4⟩:=z4s hi
  have hrun:=zap (P:=P) (w:=w) T u ty E i z (elB_s hT) hu hi1 hi2 (by rw [hi3];exact of_decide_eq_true hsz) n h0 (by unfold maxLen at hn;omega) (by rw [hi4];exact hb)
  have to1:=zr0 ok
  obtain ⟨dd,to2⟩:=z1n to1.ok (.cells (Builtin.zeroCells z.cells n++Builtin.zeroCells z.cells (grownCap w n 0 E - n)) E)
  have e1:evalL t x = .slice none 0 0:=ev_of hx
  have e2:evalL t y = .int .i64 (n:Nat):=ev_of hy
  have hge:=grownCap_ge w n 0 E
  have hzc : ∀ m,(Builtin.zeroCells z.cells m).size=m*sz:=fun m=>by simp [Builtin.zeroCells,hzs]
  refine ⟨_,_,_,_,?_,hk w.heap.size (grownCap w n 0 E) ((Builtin.zeroCells z.cells n++Builtin.zeroCells z.cells (grownCap w n 0 E - n)).toList.take (n*sz)) hge,⟨_,_,dd,rfl,?_,al⟩,to1.trans to2⟩
  · simp [execOp,resolve,Result.andThen,invoke,BigFrame.builtin_append,e1,e2,hrun]
  · refine RowC.of_pt hge (grownCap_le_maxLen w n 0 E hn) ?_ _ rfl
    rw [Array.size_append,hzc,hzc,← Nat.add_mul]
    congr 1
    omega
end
end Sx
open Sx
theorem zlm {E:TypeId} {sz n c:Nat} {a:Option Addr} {xs:List Value} {h:Hp} (e:RowC E sz (.slice a n c) n xs h):RowC E sz (.slice a 0 c) 0 [] h:=by
 refine ⟨by simp,?_⟩
 rcases e.2 with ⟨h1,h2,h3⟩ | ⟨g,cap,cur,h1,h2,h3,h4,h5,h6⟩
 · injection h1 with e1 e2 e3
   subst e1;subst e3
   exact .inl ⟨rfl,rfl,h3⟩
 · injection h1 with e1 e2 e3
   subst e1;subst e3
   exact .inr ⟨g,c,cur,rfl,h2,Nat.zero_le _,h4,h5,by simp⟩
theorem grow0 (r:Hp):Tri Tryz.prog r 93 [.slice none 0 0,.int .i64 (0:Nat)] [] fun w H=>w = .slice none 0 0/\H=[]:=by
 refine Tri.free2 fun R HR=>?_
 refine ae Tryz.func93 Tryz.ntmps93 ?_
 repeat' (first|refine aw0m ?_|(refine ap2 ?_ ?_<;>try intro h)|(exfalso;contradiction)|refine aw1m ?_|(refine abx ?_;intro bb)|(refine abz ?_;intro bz)|(refine ahv ?_;intro v' hv')|(refine aac ?_;intro ac cc)|refine aw2 ?_|(refine ap4 ?_ ?_<;>try intro h)|apply True.intro)
 ((with_reducible apply z00);exact res_1 rfl rfl)
 exact HR.out _ _ _ [] atks ⟨rfl,rfl⟩
theorem grow1 (r:Hp) (n:Nat) (h0:¬ n=0) (hn:n<=1000000000):Tri Tryz.prog r 93 [.slice none 0 0,.int .i64 n] [] fun w H => ∃ b c xs,w = .slice (some ⟨b,0,none⟩) 0 c/\H=[RowC 5 1 (.slice (some ⟨b,0,none⟩) n c) n xs]:=by
 refine Tri.free2 fun R HR=>?_
 refine ae Tryz.func93 Tryz.ntmps93 ?_
 repeat' (first|((with_reducible apply z0z);(with_reducible apply zqd (m:=0));rfl;rfl;rfl;omega;(refine apk ?_))|((with_reducible apply zr1 (n:=n));exact ty_el;exact z03;exact Tryz.underlying3;rfl;rfl;rfl;rfl;omega;(unfold maxLen;omega);omega;intro b c xs hc;(refine apk ?_))|refine aw0 ?_|(refine ap2 ?_ ?_<;>try intro h)|refine aw1 ?_|(refine abx ?_;intro bb)|(refine abz ?_;intro bz)|(refine ahv ?_;intro v' hv')|(refine aac ?_;intro ac cc)|refine aw2 ?_|(refine ap4 ?_ ?_<;>try intro h)|apply True.intro)
 ((with_reducible apply z00);exact res_1 rfl rfl)
 exact HR.out _ _ _ [_] atks ⟨_,_,_,rfl,rfl⟩
theorem zoe (r:Hp) (n:Nat) (hn:n<=1000000000):Tri Tryz.prog r 93 [.slice none 0 0,.int .i64 n] [] fun w H => ∃ a c,w = .slice a 0 c/\H=[RowC 5 1 w 0 []]:=by
 by_cases h0:n=0
 · subst h0
   refine z60 (grow0 r) fun v H ⟨hv,hH⟩=>⟨_,⟨none,0,hv,rfl⟩,fun g e=>?_⟩
   subst hv;subst hH
   exact z99 (RowC.nil _ _) e
 · refine z60 (grow1 r n h0 hn) fun v H ⟨b,c,xs,hv,hH⟩=>⟨_,⟨_,c,hv,rfl⟩,fun g e=>?_⟩
   subst hv;subst hH
   exact zc5 (fun h e=>zlm e) e
def flatB (bv:List BytV):List UInt8:=bv.flatMap (·.data)
theorem zb0 {bv:List BytV} {k:Nat} (h:k<bv.length):flatB (bv.take (k+1))=flatB (bv.take k)++(bv.getD k default).data:=by
 unfold flatB
 rw [List.take_succ_eq_append_getElem h,List.flatMap_append,List.getD_eq_getElem?_getD,List.getElem?_eq_getElem h]
 simp
theorem zid (bv:List BytV) (k:Nat):(flatB (bv.take k)).length<=(flatB bv).length:=by
 have e:flatB bv=flatB (bv.take k)++flatB (bv.drop k):=by unfold flatB;rw [← List.flatMap_append,List.take_append_drop]
 rw [e,List.length_append];omega
theorem zie (a:Option Addr) (c:Nat) (l p:List UInt8):U8R (.slice a (l++p).length c) (l++p)=RowC 5 1 (.slice a (l.length+p.length) c) (l.length+p.length) (u8s l++u8s p):=by
 unfold U8R
 rw [List.length_append]
 simp [u8s]
theorem z3y (r:Hp) (v:Value) (bv:List BytV) (hv:Rowz r v bv) (hl:(flatB bv).length<=1000000000) (hbn:bv.length<=1000000000):Tri Tryz.prog r 38 [v] [] fun w H => ∃ a c,w = .slice a (flatB bv).length c/\H=[U8R w (flatB bv)]:=by
 refine Tri.free2 fun R HR=>?_
 have hve:=hv.1
 refine ae Tryz.func38 Tryz.ntmps38 ?_
 repeat' (first|refine aw0m ?_|(refine ap2 ?_ ?_<;>try intro h)|refine aw1m ?_|(refine abx ?_;intro bb)|(refine abz ?_;intro bz)|(refine ahv ?_;intro v' hv')|(refine aac ?_;intro ac cc)|refine aw2 ?_|(refine ap4 ?_ ?_<;>try intro h)|apply True.intro)
 refine z04 (fun gm t H' => ∃ k:Nat,gm=bv.length+1 - k/\(k<=bv.length)/\(∃ G,Takes [] H' G)/\Sls t 36 [(0,v),(3,.int .i64 ((flatB (bv.take k)).length:Nat)),(9,v),(10,.int .i64 bv.length),(11,.int .i64 k)]) _ ⟨0,rfl,Nat.zero_le _,⟨_,by (exact atks)⟩,asls⟩ ?_
 rintro gm t H' ⟨k,rfl,hk,⟨G,hp⟩,hs'⟩
 revert t;refine z06 ?_;iterate 31 intro uu'
 refine z01 hp ?_;clear hp
 by_cases hlt:k<bv.length
 · have hb:=hv.2 _ (z0g hlt)
   have hft:=zb0 hlt
   have hle:=zid bv (k+1)
   have hlen:=congrArg List.length hft
   rw [List.length_append] at hlen
   repeat' (first|refine aw0m ?_|(refine ap2 ?_ ?_<;>try intro h)|(exfalso;omega)|refine aw1m ?_|(refine abx ?_;intro bb)|(refine abz ?_;intro bz)|(refine ahv ?_;intro v' hv')|(refine aac ?_;intro ac cc)|refine aw2 ?_|(refine ap4 ?_ ?_<;>try intro h)|apply True.intro)
   exact ⟨_,by omega,k+1,rfl,by omega,⟨_,atks⟩,asls⟩
 · obtain rfl:k=bv.length:=by omega
   have htl:bv.take bv.length=bv:=List.take_length
   rw [htl]
   repeat' (first|refine aw0m ?_|(refine ap2 ?_ ?_<;>try intro h)|(refine acl Tryz.func93 ?_;refine acr (zoe _ (flatB bv).length hl) ?_;rintro v' H' ⟨a,c,rfl,rfl⟩;refine apl ?_)|refine aw1m ?_|(refine abx ?_;intro bb)|(refine abz ?_;intro bz)|(refine ahv ?_;intro v' hv')|(refine aac ?_;intro ac cc)|refine aw2 ?_|(refine ap4 ?_ ?_<;>try intro h)|apply True.intro)
   refine z04 (fun gm t H' => ∃ (k:Nat) (a:Option Addr) (c:Nat),gm=bv.length+1 - k/\(k<=bv.length)/\(∃ G,Takes [U8R (.slice a (flatB (bv.take k)).length c) (flatB (bv.take k))] H' G)/\Sls t 36 [(6,.slice a (flatB (bv.take k)).length c),(25,v),(26,.int .i64 bv.length),(27,.int .i64 k)]) _ ⟨0,a,c,rfl,Nat.zero_le _,⟨_,by (exact atks)⟩,asls⟩ ?_
   rintro gm t H' ⟨k,a,c,rfl,hk,⟨G,hp⟩,hs'⟩
   revert t;refine z06 ?_;iterate 32 intro uu'
   refine z01 hp ?_;clear hp
   by_cases hlt:k<bv.length
   · have hb:=hv.2 _ (z0g hlt)
     have hft:=zb0 hlt
     have hle:=zid bv (k+1)
     have hlen:=congrArg List.length hft
     rw [List.length_append] at hlen
     repeat' (first|refine aw0m ?_|(refine ap2 ?_ ?_<;>try intro h)|((with_reducible apply z0v (news:=u8s (bv.getD k default).data));exact ty_el;exact z03;rfl;rfl;rfl;rfl;exact hb;(exact atk);exact (z1y _);(unfold maxLen;omega);(omega);intro a2 c2;(refine apk ?_))|refine aw1m ?_|(refine abx ?_;intro bb)|(refine abz ?_;intro bz)|(refine ahv ?_;intro v' hv')|(refine aac ?_;intro ac cc)|refine aw2 ?_|(refine ap4 ?_ ?_<;>try intro h)|apply True.intro)
     have hU:U8R (.slice a2 (flatB (bv.take (k+1))).length c2) (flatB (bv.take (k+1)))=RowC 5 1 (.slice a2 ((flatB (bv.take k)).length+(bv.getD k default).data.length) c2) ((flatB (bv.take k)).length+(bv.getD k default).data.length) (u8s (flatB (bv.take k))++u8s (bv.getD k default).data):=by rw [hft,zie]
     rw [← hU,← hlen]
     exact ⟨_,by omega,k+1,a2,c2,rfl,by omega,⟨_,atks⟩,asls⟩
   · obtain rfl:k=bv.length:=by omega
     rw [htl]
     repeat' (first|refine aw0m ?_|(refine ap2 ?_ ?_<;>try intro h)|refine aw1m ?_|(refine abx ?_;intro bb)|(refine abz ?_;intro bz)|(refine ahv ?_;intro v' hv')|(refine aac ?_;intro ac cc)|refine aw2 ?_|(refine ap4 ?_ ?_<;>try intro h)|apply True.intro)
     ((with_reducible apply z00);exact res_1 rfl rfl)
     exact HR.out _ _ _ [_] atks ⟨_,_,rfl,rfl⟩
end Go.Proofs.YtohpeoakdgckfaaGreat
