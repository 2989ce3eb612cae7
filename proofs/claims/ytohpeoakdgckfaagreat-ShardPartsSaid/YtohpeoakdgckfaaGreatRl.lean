/- mudlarkref02.Reader: next, Number, Text, Fixed, Left: their contracts. mudlarkref02.Reader in any state: Number, Text, Fixed, Left: their contracts. -/
import Derived.Test.YtohpeoakdgckfaaGreatLt
import Derived.Test.YtohpeoakdgckfaaGreatDc
set_option maxHeartbeats 2000000
set_option maxRecDepth 10000
namespace Go.Proofs.YtohpeoakdgckfaaGreat
open Go.RowKit Sx
abbrev rrd (v:Value) (at_:Nat) (bad:Bool):Obj:= .cells [v,.int .i64 at_,.bool bad].toArray 129 (0,0)
def refSt (b:List UInt8) (at_:Nat) (bad:Bool):Option (List UInt8):=if bad then none else some (b.drop at_)
theorem zet (r:Hp) (g:Nat) (v:Value) (at_:Nat):Tri Tryz.prog r 130 [.pointer (some ⟨g,0,none⟩)] [pt g (rrd v at_ true)] fun w H=>w = .int .i64 0/\H=[pt g (rrd v at_ true)]:=by
 refine Tri.free2 fun R HR=>?_
 refine ae Tryz.func130 Tryz.ntmps130 ?_
 repeat' (first|refine aw0m ?_|(refine ap2 ?_ ?_<;>try intro h)|(first|((with_reducible apply z02 (id:=1) 16 [(0,true),(1,true),(2,true),(3,true),(4,true),(5,true),(6,true),(7,true),(8,true),(9,true),(10,true),(11,true),(12,true),(13,true),(14,true),(15,true)] [] [(g,rrd v at_ true)]);kernel_rfl;(exact atks);kernel_rfl;intro r' hl'))|refine aw1m ?_|(refine abx ?_;intro bb)|(refine abz ?_;intro bz)|(refine ahv ?_;intro v' hv')|(refine aac ?_;intro ac cc)|refine aw2 ?_|(refine ap4 ?_ ?_<;>try intro h)|apply True.intro)
 ((with_reducible apply z00);exact res_1 rfl rfl)
 exact HR.out _ _ _ [_] atks ⟨rfl,rfl⟩
theorem z9t (r:Hp) (g:Nat) (v:Value) (b:List UInt8) (at_:Nat) (hv:U8S r v b) (hl:b.length<=100000000) (ha:at_<=b.length):Tri Tryz.prog r 130 [.pointer (some ⟨g,0,none⟩)] [pt g (rrd v at_ false)] fun w H =>
 (at_<b.length/\w = .int .i64 (b.getD at_ 0).toNat/\H=[pt g (rrd v (at_+1) false)])\/(at_=b.length/\w = .int .i64 0/\H=[pt g (rrd v at_ true)]):=by
 refine Tri.free2 fun R HR=>?_
 have hb:=(b.getD at_ 0).toNat_lt
 refine ae Tryz.func130 Tryz.ntmps130 ?_
 repeat' (first|refine aw0m ?_|(refine ap2 ?_ ?_<;>try intro h)|(first|((with_reducible apply z02 (id:=1) 16 [(0,true),(1,true),(2,true),(3,true),(4,true),(5,true),(6,true),(7,true),(8,true),(9,true),(10,true),(11,true),(12,true),(13,true),(14,true),(15,true)] [] [(g,rrd v at_ false)]);kernel_rfl;(exact atks);kernel_rfl;intro r' hl')|((with_reducible apply z02 (id:=5) 12 [(0,true),(1,true),(2,true),(3,true),(4,true),(5,true),(6,true),(7,true),(8,true),(9,true),(10,true),(11,true)] [(12,false)] [(g,rrd v (at_+1) false)]);kernel_rfl;(exact atks);kernel_rfl;intro r' hl'))|refine aw1m ?_|(refine abx ?_;intro bb)|(refine abz ?_;intro bz)|(refine ahv ?_;intro v' hv')|(refine aac ?_;intro ac cc)|refine aw2 ?_|(refine ap4 ?_ ?_<;>try intro h)|apply True.intro)
 · ((with_reducible apply z00);exact res_1 rfl rfl)
   exact HR.out _ _ _ [_] atks (.inr ⟨by omega,rfl,rfl⟩)
 · ((with_reducible apply z00);exact res_1 rfl rfl)
   have e:(((at_+1:Nat):Int) - 1).toNat=at_:=by omega
   rw [e]
   exact HR.out _ _ _ [_] atks (.inl ⟨by omega,rfl,rfl⟩)
theorem zk6 {b:List UInt8} {at_:Nat} (h:at_<b.length):b.drop at_=b.getD at_ 0::b.drop (at_+1):=by
 rw [List.drop_eq_getElem_cons h];simp [h]
theorem zlu (r:Hp) (g:Nat) (v:Value) (at_:Nat) (most:Int):Tri Tryz.prog r 126 [.pointer (some ⟨g,0,none⟩),.int .i64 most] [pt g (rrd v at_ true)] fun w H=>w = .int .i64 0/\H=[pt g (rrd v at_ true)]:=by
 refine Tri.free2 fun R HR=>?_
 refine ae Tryz.func126 Tryz.ntmps126 ?_
 repeat' (first|refine aw0m ?_|(refine ap2 ?_ ?_<;>try intro h)|refine aw1m ?_|(refine abx ?_;intro bb)|(refine abz ?_;intro bz)|(refine ahv ?_;intro v' hv')|(refine aac ?_;intro ac cc)|refine aw2 ?_|(refine ap4 ?_ ?_<;>try intro h)|apply True.intro)
 refine z04 (fun gm t H'=>gm=1/\(∃ G,Takes [pt g (rrd v at_ true)] H' G)/\Sls t 50 [(0,.pointer (some ⟨g,0,none⟩)),(1,.int .i64 most),(5,.int .i64 0),(6,.int .i64 0)]) _ ⟨rfl,⟨[],atks⟩,asls⟩ ?_
 rintro gm t H' ⟨rfl,⟨G,hp⟩,hs'⟩
 revert t;refine z06 ?_;iterate 46 intro uu'
 refine z01 hp ?_;clear hp
 repeat' (first|refine aw0m ?_|(refine ap2 ?_ ?_<;>try intro h)|(refine acl Tryz.func130 ?_;refine acr (zet r g v at_) ?_;rintro v' H' ⟨rfl,rfl⟩;refine apl ?_)|refine aw1m ?_|(refine abx ?_;intro bb)|(refine abz ?_;intro bz)|(refine ahv ?_;intro v' hv')|(refine aac ?_;intro ac cc)|refine aw2 ?_|(refine ap4 ?_ ?_<;>try intro h)|apply True.intro)
 ((with_reducible apply z00);exact res_1 rfl rfl)
 exact HR.out _ _ _ [_] atks ⟨rfl,rfl⟩
theorem z2s {most:Int} {l:List UInt8} (h:getS 0 0 l=none):numR most (some l)=(0,none):=by simp [numR,getN,h]
theorem z6w {most:Int} {l x:List UInt8} {n:Nat} (h:getS 0 0 l=some (n,x)):numR most (some l)=if (n:Int)<=most/\n<=maxNum then (n,some x) else (0,none):=by
 simp only [numR,getN,h]
 by_cases hc:(n:Int)<=most/\n<=maxNum
 · rw [if_pos hc,if_pos hc]
 · rw [if_neg hc,if_neg hc]
theorem zlv (r:Hp) (g:Nat) (v:Value) (b:List UInt8) (at0:Nat) (most:Int) (hv:U8S r v b) (hl:b.length<=100000000) (ha:at0<=b.length):Tri Tryz.prog r 126 [.pointer (some ⟨g,0,none⟩),.int .i64 most] [pt g (rrd v at0 false)] fun w H=>w = .int .i64 (numR most (some (b.drop at0))).1 /\ ∃ at_ bad,at_<=b.length/\(numR most (some (b.drop at0))).2=refSt b at_ bad/\H=[pt g (rrd v at_ bad)]:=by
 refine Tri.free2 fun R HR=>?_
 refine ae Tryz.func126 Tryz.ntmps126 ?_
 repeat' (first|refine aw0m ?_|(refine ap2 ?_ ?_<;>try intro h)|refine aw1m ?_|(refine abx ?_;intro bb)|(refine abz ?_;intro bz)|(refine ahv ?_;intro v' hv')|(refine aac ?_;intro ac cc)|refine aw2 ?_|(refine ap4 ?_ ?_<;>try intro h)|apply True.intro)
 refine z04 (fun gm t H' => ∃ (i acc at_:Nat),gm=8 - i/\(i<=6)/\(at_<=b.length)/\(acc<128 ^ i)/\(getS 0 0 (b.drop at0)=getS i acc (b.drop at_))/\(∃ G,Takes [pt g (rrd v at_ false)] H' G)/\Sls t 50 [(0,.pointer (some ⟨g,0,none⟩)),(1,.int .i64 most),(5,.int .i64 acc),(6,.int .i64 (7*i:Nat))]) _ ⟨0,0,at0,rfl,by omega,ha,by simp,rfl,⟨[],atks⟩,asls⟩ ?_
 rintro gm t H' ⟨i,acc,at_,rfl,hi,hat,hacc,hg,⟨G,hp⟩,hs'⟩
 revert t;refine z06 ?_;iterate 46 intro uu'
 refine z01 hp ?_;clear hp
 have hx:=(b.getD at_ 0).toNat_lt
 by_cases h5:i<=5
 · obtain ⟨X,hX⟩ : ∃ X,(b.getD at_ 0).toNat % 128*128 ^ i=X:=⟨_,rfl⟩
   have hp5:128 ^ i<=128 ^ 5:=Nat.pow_le_pow_right (by omega) h5
   have hXb:X<=127*128 ^ i:=by rw [← hX];exact Nat.mul_le_mul_right _ (by omega)
   have hX2:acc+X<128 ^ (i+1):=by rw [Nat.pow_succ];omega
   have hsh:IntKind.i64.wrap ((((b.getD at_ 0).toNat:Nat):Int) % 128*2 ^ ((7*i:Nat):Int).toNat)=((X:Nat):Int):=by
    have e1:((((b.getD at_ 0).toNat:Nat):Int) % 128*2 ^ ((7*i:Nat):Int).toNat)=((X:Nat):Int):=by
     rw [← hX,Int.toNat_natCast,show (2:Int) ^ (7*i)=((128 ^ i:Nat):Int) by rw [Int.pow_mul];simp];simp
    rw [e1]
    exact z3b (z86 (by omega) (by omega))
   have hst:at_<b.length->getS 0 0 (b.drop at0)=if i=0\/(b.getD at_ 0).toNat≠0 then (if (b.getD at_ 0).toNat<128 then some (acc+X,b.drop (at_+1)) else getS (i+1) (acc+X) (b.drop (at_+1))) else none:=fun hlt=>by
    rw [hg,zk6 hlt,getS]
    by_cases h0:i=0\/(b.getD at_ 0).toNat≠0
    · rw [if_pos ⟨by omega,h0⟩,if_pos h0]
      by_cases h1:(b.getD at_ 0).toNat<128
      · rw [if_pos h1,if_pos h1,← hX,Nat.mod_eq_of_lt h1]
      · rw [if_neg h1,if_neg h1,← hX,show (b.getD at_ 0).toNat % 128=(b.getD at_ 0).toNat - 128 by omega]
    · rw [if_neg (fun h=>h0 h.2),if_neg h0]
   have hno:at_=b.length->getS 0 0 (b.drop at0)=none:=fun e=>by rw [hg,e,List.drop_length,getS]
   clear hg
   repeat' (first|((with_reducible apply z0z);((with_reducible apply zn2 (c:=((X:Nat):Int)));rfl;rfl;(first|omega|(constructor<;>(try simp only [IntKind.bits])<;>omega));exact hsh);(refine apk ?_))|(refine acl Tryz.func130 ?_;refine acr (z9t r g v b at_ hv hl hat) ?_;rintro v' H' (⟨hlt,rfl,rfl⟩ | ⟨hge,rfl,rfl⟩);all_goals refine apl ?_)|refine aw0 ?_|(refine ap2 ?_ ?_<;>try intro h)|refine aw1 ?_|(refine abx ?_;intro bb)|(refine abz ?_;intro bz)|(refine ahv ?_;intro v' hv')|(refine aac ?_;intro ac cc)|refine aw2 ?_|(refine ap4 ?_ ?_<;>try intro h)|apply True.intro)
   all_goals first
   | exact ⟨_,by omega,i+1,acc+X,at_+1,rfl,by omega,by omega,hX2,by rw [hst hlt,if_pos (by omega),if_neg (by omega)],⟨_,atks⟩,asls⟩
   | (((with_reducible apply z00);exact res_1 rfl rfl);exact HR.out _ _ _ [_] atks ⟨by rw [z2s (by rw [hst hlt,if_neg (by omega)])];rfl,at_+1,true,by omega,by rw [z2s (by rw [hst hlt,if_neg (by omega)])];rfl,rfl⟩)
   | (((with_reducible apply z00);exact res_1 rfl rfl);exact HR.out _ _ _ [_] atks ⟨by rw [z6w (by rw [hst hlt,if_pos (by omega),if_pos (by omega)]),if_neg (by unfold maxNum;omega)];rfl,at_+1,true,by omega,by rw [z6w (by rw [hst hlt,if_pos (by omega),if_pos (by omega)]),if_neg (by unfold maxNum;omega)];rfl,rfl⟩)
   | (((with_reducible apply z00);exact res_1 rfl rfl);exact HR.out _ _ _ [_] atks ⟨by rw [z6w (by rw [hst hlt,if_pos (by omega),if_pos (by omega)]),if_pos (by unfold maxNum;omega)];rfl,at_+1,false,by omega,by rw [z6w (by rw [hst hlt,if_pos (by omega),if_pos (by omega)]),if_pos (by unfold maxNum;omega)];rfl,rfl⟩)
   | (((with_reducible apply z00);exact res_1 rfl rfl);exact HR.out _ _ _ [_] atks ⟨by rw [z2s (hno hge)];rfl,at_,true,by omega,by rw [z2s (hno hge)];rfl,rfl⟩)
   | trace_state
 · obtain rfl:i=6:=by omega
   have hno:getS 0 0 (b.drop at0)=none:=by
    rw [hg]
    cases b.drop at_ with
    | nil=>rw [getS]
    | cons x l=>rw [getS,if_neg (by omega)]
   clear hg
   repeat' (first|(refine acl Tryz.func130 ?_;refine acr (z9t r g v b at_ hv hl hat) ?_;rintro v' H' (⟨hlt,rfl,rfl⟩ | ⟨hge,rfl,rfl⟩);all_goals refine apl ?_)|refine aw0 ?_|(refine ap2 ?_ ?_<;>try intro h)|refine aw1 ?_|(refine abx ?_;intro bb)|(refine abz ?_;intro bz)|(refine ahv ?_;intro v' hv')|(refine aac ?_;intro ac cc)|refine aw2 ?_|(refine ap4 ?_ ?_<;>try intro h)|apply True.intro)
   · ((with_reducible apply z00);exact res_1 rfl rfl)
     exact HR.out _ _ _ [_] atks ⟨by rw [z2s hno];rfl,at_+1,true,by omega,by rw [z2s hno];rfl,rfl⟩
   · ((with_reducible apply z00);exact res_1 rfl rfl)
     exact HR.out _ _ _ [_] atks ⟨by rw [z2s hno];rfl,at_,true,by omega,by rw [z2s hno];rfl,rfl⟩
theorem z9u (r:Hp) (g:Nat) (v:Value) (b:List UInt8) (at_:Nat) (bad:Bool) (most:Int) (hv:U8S r v b) (hl:b.length<=100000000) (ha:at_<=b.length):Tri Tryz.prog r 126 [.pointer (some ⟨g,0,none⟩),.int .i64 most] [pt g (rrd v at_ bad)] fun w H =>
 w = .int .i64 (numR most (refSt b at_ bad)).1 /\ ∃ at2 bad2,at2<=b.length/\(numR most (refSt b at_ bad)).2=refSt b at2 bad2/\H=[pt g (rrd v at2 bad2)]:=by
 cases bad
 · exact zlv r g v b at_ most hv hl ha
 · refine (zlu r g v at_ most).mono fun w H h=>?_
   obtain ⟨rfl,rfl⟩:=h
   exact ⟨rfl,at_,true,ha,rfl,rfl⟩
theorem zk7 (r:Hp) (g:Nat) (v:Value) (b:List UInt8) (at_:Nat) (bad:Bool) (hv:U8S r v b) (hl:b.length<=100000000) (ha:at_<=b.length):Tri Tryz.prog r 127 [.pointer (some ⟨g,0,none⟩)] [pt g (rrd v at_ bad)] fun w H =>
 w = .int .i64 (match refSt b at_ bad with|none=>0|some l=>l.length:Nat)/\H=[pt g (rrd v at_ bad)]:=by
 refine Tri.free2 fun R HR=>?_
 refine ae Tryz.func127 Tryz.ntmps127 ?_
 cases bad
 all_goals
  repeat' (first|refine aw0m ?_|(refine ap2 ?_ ?_<;>try intro h)|(first|((with_reducible apply z02 (id:=3) 10 [(0,true),(1,true),(2,true),(3,true),(4,true),(5,true),(6,true),(7,true),(8,true),(9,true)] [(10,false)] [(g,rrd v at_ false)]);kernel_rfl;(exact atks);kernel_rfl;intro r' hl'))|refine aw1m ?_|(refine abx ?_;intro bb)|(refine abz ?_;intro bz)|(refine ahv ?_;intro v' hv')|(refine aac ?_;intro ac cc)|refine aw2 ?_|(refine ap4 ?_ ?_<;>try intro h)|apply True.intro)
  ((with_reducible apply z00);exact res_1 rfl rfl)
  exact HR.out _ _ _ [_] atks ⟨by first|rfl|(congr 1;simp [refSt];omega),rfl⟩
theorem zb8 (r:Hp) (g:Nat) (v:Value) (b:List UInt8) (at_:Nat) (bad:Bool) (most:Int) (hv:U8S r v b) (hl:b.length<=100000000) (ha:at_<=b.length):Tri Tryz.prog r 64 [.pointer (some ⟨g,0,none⟩),.int .i64 most] [pt g (rrd v at_ bad)] fun w H =>
 ∃ a c at2 bad2,w = .slice a (textR most (refSt b at_ bad)).1.length c/\at2<=b.length/\(textR most (refSt b at_ bad)).2=refSt b at2 bad2/\H=[U8R w (textR most (refSt b at_ bad)).1,pt g (rrd v at2 bad2)]:=by
 refine Tri.free2 fun R HR=>?_
 have hc:=z9u r g v b at_ bad most hv hl ha
 have hle:=zl7 most (refSt b at_ bad)
 unfold textR at HR
 generalize numR most (refSt b at_ bad)=p at hc hle HR
 obtain ⟨n,st⟩:=p
 dsimp only at hc hle HR
 unfold maxNum at hle
 refine ae Tryz.func64 Tryz.ntmps64 ?_
 repeat' (first|refine aw0m ?_|(refine ap2 ?_ ?_<;>try intro h)|(refine acl Tryz.func126 ?_;refine acr (hc) ?_;rintro v' H' ⟨rfl,at2,bad2,ha2,rfl,rfl⟩;refine apl ?_)|refine aw1m ?_|(refine abx ?_;intro bb)|(refine abz ?_;intro bz)|(refine ahv ?_;intro v' hv')|(refine aac ?_;intro ac cc)|refine aw2 ?_|(refine ap4 ?_ ?_<;>try intro h)|apply True.intro)
 cases bad2
 · by_cases hn:at2+n<=b.length
   · have e:takeR n (refSt b at2 false)=((b.drop at2).take n,some (b.drop (at2+n))):=by
      simp only [refSt,Bool.false_eq_true,if_false,takeR];rw [if_neg (by simp;omega),List.drop_drop]
     rw [e] at HR
     repeat' (first|(first|((with_reducible apply z02 (id:=2) 18 [(0,true),(1,true),(2,true),(3,true),(4,true),(5,true),(6,true),(7,true),(8,true),(9,true),(10,true),(11,true),(12,true),(13,true),(14,true),(15,true),(16,true),(17,true)] [] [(g,rrd v at2 false)]);kernel_rfl;(exact atks);kernel_rfl;intro r' hl')|((with_reducible apply z02 (id:=6) 17 [(1,true),(2,true),(3,true),(4,true),(5,true),(6,true),(7,true),(8,true),(9,true),(10,true),(11,true),(12,true),(13,true),(14,true),(15,true),(0,false),(16,false)] [(17,false)] [(g,rrd v (at2+n) false)]);kernel_rfl;(exact atks);kernel_rfl;intro r' hl'))|((with_reducible apply z0v);exact ty_el;exact z03;rfl;rfl;rfl;rfl;assumption;(exact atk);exact z1y _;(simp [maxLen];omega);(simp;omega);intro a' c';(refine apk ?_))|refine aw0 ?_|(refine ap2 ?_ ?_<;>try intro h)|refine aw1 ?_|(refine abx ?_;intro bb)|(refine abz ?_;intro bz)|(refine ahv ?_;intro v' hv')|(refine aac ?_;intro ac cc)|refine aw2 ?_|(refine ap4 ?_ ?_<;>try intro h)|apply True.intro)
     have hlen:((b.drop at2).take n).length=n:=by simp;omega
     have e1:(((at2+n:Nat):Int) - (n:Nat)).toNat=at2:=by omega
     simp only [e1,Int.toNat_natCast,Nat.add_sub_cancel_left,hlen,Nat.zero_add]
     ((with_reducible apply z00);exact res_1 rfl rfl)
     exact HR.out _ _ _ [RowC _ _ _ _ _,pt g _] atks ⟨_,_,at2+n,false,by rw [hlen],by omega,rfl,by unfold U8R;rw [hlen]⟩
   · have e:takeR n (refSt b at2 false)=([],none):=by
      simp only [refSt,Bool.false_eq_true,if_false,takeR];rw [if_pos (by simp;omega)]
     rw [e] at HR
     refine z0f (A:=U8R (.slice none 0 0) []) (RowC.nil _ _) ?_
     repeat' (first|refine aw0m ?_|(refine ap2 ?_ ?_<;>try intro h)|(first|((with_reducible apply z02 (id:=2) 18 [(0,true),(1,true),(2,true),(3,true),(4,true),(5,true),(6,true),(7,true),(8,true),(9,true),(10,true),(11,true),(12,true),(13,true),(14,true),(15,true),(16,true),(17,true)] [] [(g,rrd v at2 false)]);kernel_rfl;(exact atks);kernel_rfl;intro r' hl'))|refine aw1m ?_|(refine abx ?_;intro bb)|(refine abz ?_;intro bz)|(refine ahv ?_;intro v' hv')|(refine aac ?_;intro ac cc)|refine aw2 ?_|(refine ap4 ?_ ?_<;>try intro h)|apply True.intro)
     ((with_reducible apply z00);exact res_1 rfl rfl)
     exact HR.out _ _ _ [U8R _ _,pt g _] atks ⟨_,_,at2,true,rfl,by omega,rfl,rfl⟩
 · refine z0f (A:=U8R (.slice none 0 0) []) (RowC.nil _ _) ?_
   repeat' (first|refine aw0m ?_|(refine ap2 ?_ ?_<;>try intro h)|(first|((with_reducible apply z02 (id:=2) 18 [(0,true),(1,true),(2,true),(3,true),(4,true),(5,true),(6,true),(7,true),(8,true),(9,true),(10,true),(11,true),(12,true),(13,true),(14,true),(15,true),(16,true),(17,true)] [] [(g,rrd v at2 true)]);kernel_rfl;(exact atks);kernel_rfl;intro r' hl'))|refine aw1m ?_|(refine abx ?_;intro bb)|(refine abz ?_;intro bz)|(refine ahv ?_;intro v' hv')|(refine aac ?_;intro ac cc)|refine aw2 ?_|(refine ap4 ?_ ?_<;>try intro h)|apply True.intro)
   ((with_reducible apply z00);exact res_1 rfl rfl)
   exact HR.out _ _ _ [U8R _ _,pt g _] atks ⟨_,_,at2,true,rfl,by omega,rfl,rfl⟩
def fixAcc (l:List UInt8):Nat->Nat
 | 0=>0
 | k+1=>fixAcc l k+(l.getD k 0).toNat*256 ^ k
theorem zlw (l:List UInt8) (k:Nat):fixAcc l k<256 ^ k:=by
 induction k with
 | zero=>simp [fixAcc]
 | succ k ih =>
  have h1:=(l.getD k 0).toNat_lt
  have h2:(l.getD k 0).toNat*256 ^ k<=255*256 ^ k:=Nat.mul_le_mul_right _ (by omega)
  simp only [fixAcc,Nat.pow_succ];omega
theorem or_sum' (q x k:Nat) (hk:k<=3) (hq:q<256 ^ k) (hx:x<256):bitI .or .u32 (q:Int) ((x*256 ^ k:Nat):Int)=((q+x*256 ^ k:Nat):Int):=by
 have h1:256 ^ k=2 ^ (8*k):=by rw [Nat.pow_mul]
 have h3:x*256 ^ k<=255*256 ^ k:=Nat.mul_le_mul_right _ (by omega)
 have h4:256 ^ k<=256 ^ 3:=Nat.pow_le_pow_right (by omega) hk
 have h2:=zdy q x (8*k) (by rw [← h1];exact hq) (by rw [← h1];omega)
 rw [← h1] at h2
 rw [Int.natCast_mul]
 exact h2
theorem z9v (r:Hp) (g:Nat) (v:Value) (b:List UInt8) (at_:Nat) (bad:Bool) (hv:U8S r v b) (hl:b.length<=100000000) (ha:at_<=b.length):Tri Tryz.prog r 62 [.pointer (some ⟨g,0,none⟩)] [pt g (rrd v at_ bad)] fun w H =>
 w = .int .u32 (fixR (refSt b at_ bad)).1 /\ ∃ at2 bad2,at2<=b.length/\(fixR (refSt b at_ bad)).2=refSt b at2 bad2/\H=[pt g (rrd v at2 bad2)]:=by
 refine Tri.free2 fun R HR=>?_
 refine ae Tryz.func62 Tryz.ntmps62 ?_
 repeat' (first|refine aw0m ?_|(refine ap2 ?_ ?_<;>try intro h)|refine aw1m ?_|(refine abx ?_;intro bb)|(refine abz ?_;intro bz)|(refine ahv ?_;intro v' hv')|(refine aac ?_;intro ac cc)|refine aw2 ?_|(refine ap4 ?_ ?_<;>try intro h)|apply True.intro)
 refine z04 (fun gm t H' => ∃ (k at2:Nat) (av:Int) (bad2:Bool),gm=5 - k/\(k<=4)/\(at2<=b.length)/\(bad2=true->fixR (refSt b at_ bad)=(0,none))/\(bad2=false->bad=false/\at2=at_+k/\av=(fixAcc (b.drop at_) k:Nat))/\(∃ G,Takes [pt g (rrd v at2 bad2)] H' G)/\Sls t 22 [(0,.pointer (some ⟨g,0,none⟩)),(3,.int .u32 av),(4,.int .i64 k)]) _ ⟨0,at_,0,bad,rfl,by omega,ha,by rintro rfl;rfl,by rintro rfl;exact ⟨rfl,rfl,rfl⟩,⟨_,by (exact atks)⟩,asls⟩ ?_
 rintro gm t H' ⟨k,at2,av,bad2,rfl,hk,hat,hb1,hb2,⟨G,hp⟩,hs'⟩
 revert t;refine z06 ?_;iterate 19 intro uu'
 refine z01 hp ?_;clear hp
 by_cases hk4:k<4
 · cases bad2
   · obtain ⟨rfl,rfl,rfl⟩:=hb2 rfl
     have hq:=zlw (b.drop at_) k
     have hx:=(b.getD (at_+k) 0).toNat_lt
     have hd:(b.drop at_).getD k 0=b.getD (at_+k) 0:=by simp [List.getD_eq_getElem?_getD]
     have hor:=or_sum' (fixAcc (b.drop at_) k) (b.getD (at_+k) 0).toNat k (by omega) hq (by omega)
     have h4:256 ^ k<=256 ^ 3:=Nat.pow_le_pow_right (by omega) (by omega)
     have h3:(b.getD (at_+k) 0).toNat*256 ^ k<=255*256 ^ k:=Nat.mul_le_mul_right _ (by omega)
     have hsh:IntKind.u32.wrap ((((b.getD (at_+k) 0).toNat:Nat):Int)*2 ^ (8*(k:Int)).toNat)=(((b.getD (at_+k) 0).toNat*256 ^ k:Nat):Int):=by
      rw [show (8*(k:Int)).toNat=8*k by omega,show (2:Int) ^ (8*k)=((256 ^ k:Nat):Int) by rw [Int.pow_mul];simp,← Int.natCast_mul]
      exact z3b (zd8 (by omega) (by omega))
     have hfn:at_+k=b.length->fixR (refSt b at_ false)=(0,none):=fun e=>by
      have hl2:(b.drop at_).length=k:=by simp;omega
      simp only [refSt,Bool.false_eq_true,if_false]
      generalize b.drop at_=m at hl2
      match m,hl2 with
      | [],_=>rfl
      | [_],_=>rfl
      | [_,_],_=>rfl
      | [_,_,_],_=>rfl
      | _::_::_::_::_,h=>simp at h;omega
     repeat' (first|((with_reducible apply z0z);((with_reducible apply zn2 (c:=(((b.getD (at_+k) 0).toNat*256 ^ k:Nat):Int)));rfl;rfl;(first|omega|(constructor<;>(try simp only [IntKind.bits])<;>omega));exact hsh);(refine apk ?_))|(refine acl Tryz.func130 ?_;refine acr (z9t r g v b (at_+k) hv hl hat) ?_;rintro v' H' (⟨hlt,rfl,rfl⟩ | ⟨hge,rfl,rfl⟩);all_goals refine apl ?_)|refine aw0 ?_|(refine ap2 ?_ ?_<;>try intro h)|refine aw1 ?_|(refine abx ?_;intro bb)|(refine abz ?_;intro bz)|(refine ahv ?_;intro v' hv')|(refine aac ?_;intro ac cc)|refine aw2 ?_|(refine ap4 ?_ ?_<;>try intro h)|apply True.intro)
     · exact ⟨_,by omega,k+1,at_+k+1,bitI .or .u32 (fixAcc (b.drop at_) k:Nat) (((b.getD (at_+k) 0).toNat*256 ^ k:Nat):Int),false,rfl,by omega,by omega,(fun h=>by cases h),fun _=>⟨by simp,by omega,by rw [hor,fixAcc,hd]⟩,⟨_,atks⟩,asls⟩
     · exact ⟨_,by omega,k+1,at_+k,_,true,rfl,by omega,by omega,(fun _=>hfn hge),(fun h=>by cases h),⟨_,atks⟩,asls⟩
   · repeat' (first|refine aw0m ?_|(refine ap2 ?_ ?_<;>try intro h)|(refine acl Tryz.func130 ?_;refine acr (zet r g v at2) ?_;rintro v' H' ⟨rfl,rfl⟩;refine apl ?_)|refine aw1m ?_|(refine abx ?_;intro bb)|(refine abz ?_;intro bz)|(refine ahv ?_;intro v' hv')|(refine aac ?_;intro ac cc)|refine aw2 ?_|(refine ap4 ?_ ?_<;>try intro h)|apply True.intro)
     exact ⟨_,by omega,k+1,at2,_,true,rfl,by omega,by omega,hb1,(fun h=>by cases h),⟨_,atks⟩,asls⟩
 · obtain rfl:k=4:=by omega
   cases bad2
   · obtain ⟨rfl,rfl,rfl⟩:=hb2 rfl
     have hf:fixR (refSt b at_ false)=(fixAcc (b.drop at_) 4,some (b.drop (at_+4))):=by
      have hl2:4<=(b.drop at_).length:=by simp;omega
      have e:b.drop (at_+4)=(b.drop at_).drop 4:=by rw [List.drop_drop]
      rw [e]
      simp only [refSt,Bool.false_eq_true,if_false]
      generalize b.drop at_=m at hl2
      match m,hl2 with
      | a::b::c::d::l,_=>simp [fixR,fixAcc,ofBytes];omega
      | [],h=>simp at h
      | [_],h=>simp at h
      | [_,_],h=>simp at h
      | [_,_,_],h=>simp at h
     repeat' (first|refine aw0m ?_|(refine ap2 ?_ ?_<;>try intro h)|refine aw1m ?_|(refine abx ?_;intro bb)|(refine abz ?_;intro bz)|(refine ahv ?_;intro v' hv')|(refine aac ?_;intro ac cc)|refine aw2 ?_|(refine ap4 ?_ ?_<;>try intro h)|apply True.intro)
     ((with_reducible apply z00);exact res_1 rfl rfl)
     exact HR.out _ _ _ [_] atks ⟨by rw [hf],at_+4,false,by omega,by rw [hf];rfl,rfl⟩
   · repeat' (first|refine aw0m ?_|(refine ap2 ?_ ?_<;>try intro h)|refine aw1m ?_|(refine abx ?_;intro bb)|(refine abz ?_;intro bz)|(refine ahv ?_;intro v' hv')|(refine aac ?_;intro ac cc)|refine aw2 ?_|(refine ap4 ?_ ?_<;>try intro h)|apply True.intro)
     ((with_reducible apply z00);exact res_1 rfl rfl)
     exact HR.out _ _ _ [_] atks ⟨by rw [hb1 rfl];rfl,at2,true,by omega,by rw [hb1 rfl];rfl,rfl⟩
end Go.Proofs.YtohpeoakdgckfaaGreat
