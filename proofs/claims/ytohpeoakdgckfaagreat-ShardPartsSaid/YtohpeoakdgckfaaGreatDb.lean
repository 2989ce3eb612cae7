/- doc.Of, Put: their contracts. -/
import Derived.Test.YtohpeoakdgckfaaGreatWd
import Derived.Test.YtohpeoakdgckfaaGreatDa
import Derived.Test.YtohpeoakdgckfaaGreatAp
import Derived.Test.YtohpeoakdgckfaaGreatCb
set_option maxHeartbeats 1000000
set_option maxRecDepth 10000
namespace Go.Proofs.YtohpeoakdgckfaaGreat
open Go.RowKit Sx
attribute [local go_sem] Oper.semAt_some
def textsOf (ts:List (List UInt8)):List UInt8:=ts.flatMap texts
theorem z1i (r:Hp) (g:Nat) (v:Value) (l:List UInt8) (nv:Value) (m:Nat) (hs:Sl r 1 nv 1 [.int .i64 m]) (hm:m<=maxNum) (hl:l.length<=60000000000000) :
 Tri Tryz.prog r 81 [.pointer (some ⟨g,0,none⟩),nv] [pt g (wri v false),U8R v l] fun _ H => ∃ v',H=[pt g (wri v' false),U8R v' (l++septs m)]:=by
 refine (zbm r g v false l nv 1 [(m:Int)] hs (by omega)).mono ?_
 rintro w H ⟨v',l',rfl,rfl⟩
 have hb:[(m:Int)].any badNum=false:=by unfold maxNum at hm;simp [badNum];omega
 rw [hb]
 exact ⟨v',by simp [numsOf,U8R]⟩
theorem zms (r:Hp) (g:Nat) (v:Value) (l:List UInt8) (tv:Value) (ts:List (Value × List UInt8)) (hs:Sl r 1 tv ts.length (ts.map (·.1))) (ht : ∀ x∈ts,U8S r x.1 x.2/\x.2.length<=1000000) (hl:l.length+(textsOf (ts.map (·.2))).length<=60000000000000) :
 Tri Tryz.prog r 85 [.pointer (some ⟨g,0,none⟩),tv] [pt g (wri v false),U8R v l] fun _ H => ∃ v',H=[pt g (wri v' false),U8R v' (l++textsOf (ts.map (·.2)))]:=by
 refine Tri.free fun R HR=>?_
 obtain ⟨n,hn⟩ : ∃ n,ts.length=n:=⟨_,rfl⟩
 rw [hn] at hs
 have HL:=hid hl
 have HS:=hid hs
 have HT:=hid ht
 have HN:=hid hn
 obtain ⟨a,c,rfl⟩:=hs.form
 have hnm:=hs.2.1
 unfold maxLen at hnm
 clear hl hs ht hn
 unfold wri at HR ⊢
 refine ae Tryz.func85 Tryz.ntmps85 ?_
 repeat' (first|refine ax0m ?_|(refine abb ?_;intro b)|refine ax1m ?_|(refine aac ?_;intro ac cc)|refine ax2m ?_|(refine ap3 ?_ ?_<;>try intro h)|apply True.intro)
 refine z04 (fun gg t H' => ∃ (k:Nat) (v':Value),gg=n+1 - k/\k<=n/\(∃ G,Takes [pt g (.cells [v',.bool false].toArray 70 (0,0)),U8R v' (l++textsOf ((ts.take k).map (·.2)))] H' G) /\
  (t.length=29/\t[0]?=some (.pointer (some ⟨g,0,none⟩))/\t[6]?=some (.slice a n c)/\t[7]?=some (.int .i64 n)/\t[8]?=some (.int .i64 k))) (n+1)
  ⟨0,v,rfl,Nat.zero_le _,⟨[],by simp [textsOf];(exact atks)⟩,rfl,rfl,rfl,rfl,rfl⟩ ?_
 rintro gg t H' ⟨k,v',rfl,hk,⟨G,hp⟩,hlen,e0,e6,e7,e8⟩
 revert e0 e6 e7 e8;revert t;refine z0s (n:=29) ?_;intro u0 u1 u2 u3 u4 u5 u6 u7 u8 u9 u10 u11 u12 u13 u14 u15 u16 u17 u18 u19 u20 u21 u22 u23 u24 u25 u26 u27 u28 e0 e6 e7 e8;cases e0;cases e6;cases e7;cases e8
 refine z01 hp ?_
 clear hp
 by_cases hlt:k<n
 · have hkx:k<ts.length:=by rw [HN.out];exact hlt
   obtain ⟨b2,off,u,rfl,hu,hc⟩:=HS.out.at1 hlt
   obtain ⟨⟨xv,xl⟩,hx⟩ : ∃ x,ts[k]=x:=⟨_,rfl⟩
   obtain rfl:xv=u:=by rw [List.getElem?_map,List.getElem?_eq_getElem hkx,hx] at hu;simpa using hu
   obtain ⟨hxs,hxl⟩:=HT.out (xv,xl) (hx ▸ List.getElem_mem hkx)
   dsimp only at hxs hxl
   have htk:textsOf ((ts.take (k+1)).map (·.2))=textsOf ((ts.take k).map (·.2))++texts xl:=by rw [List.take_succ_eq_append_getElem hkx,hx];simp [textsOf]
   have hle:(l++textsOf ((ts.take k).map (·.2))).length<=60000000000000:=by
    have h1:=HL.out
    have h2:(textsOf ((ts.take k).map (·.2))).length<=(textsOf (ts.map (·.2))).length:=by
     have h3:textsOf (ts.map (·.2))=textsOf ((ts.take k).map (·.2))++textsOf ((ts.drop k).map (·.2)):=by
      unfold textsOf;rw [← List.flatMap_append,← List.map_append,List.take_append_drop]
     rw [h3,List.length_append];omega
    rw [List.length_append];omega
   have HTK:=hid htk
   have HLE:=hid hle
   have HX:=hid hxs
   have HXL:=hid hxl
   clear htk hle hxs hu hx
   obtain ⟨ax,cx,rfl⟩:=HX.out.form
   obtain ⟨l2,hl2⟩ : ∃ l2,l++textsOf ((ts.take k).map (·.2))=l2:=⟨_,rfl⟩
   rw [hl2] at HLE ⊢
   have HL2:=hid hl2
   clear hl2
   have hc:=hc [pt g (.cells [v',.bool false].toArray 70 (0,0)),U8R v' l2]
   repeat' (first|refine ax0m ?_|(refine abb ?_;intro b)|((with_reducible apply z0t (E:=3) (z:= .int .i64 0) (by_:=8));kernel_rfl;kernel_rfl;rfl;rfl;rfl;intro bz;(refine apk ?_))|((with_reducible apply z0k [(bz,.cells [.int .i64 xl.length].toArray 3 (0,0))]);(exact atks);intro r' hl';refine acl Tryz.func81 ?_;refine acr (z1i r' g v' l2 _ xl.length (Sl.lit (hl'.2 _ List.mem_cons_self) rfl (by simp [maxLen])) (Nat.le_trans HXL.out (by simp [maxNum])) HLE.out) ?_;rintro v' H' ⟨v5,rfl⟩;all_goals refine apm ?_)|refine ax1m ?_|(refine aac ?_;intro ac cc)|refine ax2m ?_|(refine ap3 ?_ ?_<;>try intro h)|apply True.intro)
   have hu6:=z09 (n:=xl.length) (Nat.le_trans HXL.out (by simp [maxNum]))
   by_cases h0:xl=[]
   · subst h0
     repeat' (first|refine ax0m ?_|(refine abb ?_;intro b)|((with_reducible apply z7k (E:=5) (z:= .int .u8 0) (sz:=1) (by_:=1));kernel_rfl;kernel_rfl;rfl;rfl;(exact atk);intro a' c' e;subst e;(refine apk ?_))|refine ax1m ?_|(refine aac ?_;intro ac cc)|refine ax2m ?_|(refine ap3 ?_ ?_<;>try intro h)|apply True.intro)
     exact ⟨_,by omega,k+1,_,rfl,by omega,⟨_,by rw [HTK.out,← List.append_assoc,HL2.out];simp only [texts,List.append_nil];(exact atks)⟩,rfl,rfl,rfl,rfl,rfl⟩
   · obtain ⟨b6,off6,_,rfl,_,_⟩:=Sl.at1 HX.out (k:=0) (List.length_pos_iff.2 h0)
     repeat' (first|refine ax0m ?_|(refine abb ?_;intro b)|((with_reducible apply z4v (E:=5) (z:= .int .u8 0) (sz:=1) (by_:=1) (news:=u8s xl));kernel_rfl;kernel_rfl;rfl;rfl;rfl;rfl;(exact atk);exact (by simp [u8s]);exact Sl.news HX.out _;exact z1y _;(have:=HLE.out;have:=HXL.out;unfold maxLen;simp;omega);(have:=HLE.out;have:=HXL.out;simp;omega);intro a' c';(refine apk ?_))|refine ax1m ?_|(refine aac ?_;intro ac cc)|refine ax2m ?_|(refine ap3 ?_ ?_<;>try intro h)|apply True.intro)
     exact ⟨_,by omega,k+1,_,rfl,by omega,⟨_,by rw [HTK.out,← List.append_assoc,HL2.out];simp only [texts,U8R,u8s,List.map_append,List.length_append,List.append_assoc,Nat.add_assoc];(exact atks)⟩,rfl,rfl,rfl,rfl,rfl⟩
 · rw [List.take_of_length_le (by rw [HN.out];omega)]
   repeat' (first|refine ax0m ?_|(refine abb ?_;intro b)|refine ax1m ?_|(refine aac ?_;intro ac cc)|refine ax2m ?_|(refine ap3 ?_ ?_<;>try intro h)|apply True.intro)
   ((with_reducible apply z1k);exact res_0 rfl)
   exact HR.out _ [] _ _ atks ⟨_,rfl⟩
theorem z3h (r:Hp) (g:Nat) (v:Value) (l:List UInt8) (hl:l.length<=60000000000000) :
 Tri Tryz.prog r 39 [.pointer (some ⟨g,0,none⟩)] [pt g (wri v false),U8R v l] fun w H => ∃ a c,w = .slice a l.length c/\H=[U8R w l]:=by
 refine Tri.free fun R HR=>?_
 unfold wri
 refine ae Tryz.func39 Tryz.ntmps39 ?_
 repeat' (first|refine ax0m ?_|(refine abb ?_;intro b)|((with_reducible apply zkz (A:=U8R v l));(exact atk);intro r' gg hr hgr hgg;(with_reducible apply z2y (f:=73) (cap:=[]));exact z2h Tryz.func73 (by kernel_rfl) rfl;rfl;rfl;exact (z2u r' v l (RowC.sl hgg hgr) (by omega));(exact atks);rintro v' H' ⟨a',c',rfl,rfl⟩;all_goals ((try simp only [List.cons_append,List.nil_append]);(refine apk ?_)))|refine ax1m ?_|(refine aac ?_;intro ac cc)|refine ax2m ?_|(refine ap3 ?_ ?_<;>try intro h)|apply True.intro)
 ((with_reducible apply z00);exact res_1 rfl rfl)
 exact HR.out _ [pt g _] _ _ atks ⟨_,_,rfl,rfl⟩
theorem zbp (r:Hp) (g:Nat) (v:Value) (l:List UInt8) (tv pv:Value) (p:List UInt8) (hs:Sl r 1 tv 1 [pv]) (ht:U8S r pv p) (hp:p.length<=1000000) (hl:l.length+(texts p).length<=60000000000000) :
 Tri Tryz.prog r 85 [.pointer (some ⟨g,0,none⟩),tv] [pt g (wri v false),U8R v l] fun _ H => ∃ v',H=[pt g (wri v' false),U8R v' (l++texts p)]:=by
 refine (zms r g v l tv [(pv,p)] hs (by simp;exact ⟨ht,hp⟩) (by simpa [textsOf] using hl)).mono ?_
 rintro w H ⟨v',rfl⟩
 exact ⟨v',by simp [textsOf]⟩
attribute [local go_sem] Oper.semAt_some
def docOf (f:FileV):DocV:=⟨f.path,langOf f.path,inv32 (crcAll 4294967295 f.data),f.data.length⟩
abbrev DocR (v:Value) (ds:List DocV):Ch:=RowC 119 4 v ds.length (ds.flatMap encD)
theorem of_any' (r:Hp) (v:Value) (fs:List FileV) (hv:Files r v fs) (hl : ∀ x∈fs,x.path.length<=1000000):Tri Tryz.prog r 31 [v] [] fun w H =>
 if filesOk fs then ∃ a c,w = .tuple #[.slice a fs.length c,.int .i64 0]/\H=[DocR (.slice a fs.length c) (fs.map docOf)] else w = .tuple #[.slice none 0 0,.int .i64 2]/\H=[]:=by
 refine Tri.free fun R HR=>?_
 have hok:=zhq r v fs hv hl
 obtain ⟨a,c,rfl⟩:=hv.1.form
 obtain ⟨q,hq⟩ : ∃ q,filesOk fs=q:=⟨_,rfl⟩
 rw [hq] at hok HR
 have HQ:=hid hq
 have HV:=hid hv
 have HL:=hid hl
 have HOK:=hid hok
 clear hok hq hl hv
 cases q
 · refine ae Tryz.func31 Tryz.ntmps31 ?_
   repeat' (first|refine ax0m ?_|(refine abb ?_;intro b)|(refine acl Tryz.func22 ?_;refine acr (HOK.out) ?_;rintro v' H' ⟨rfl,rfl⟩;refine apl ?_)|refine ax1m ?_|(refine aac ?_;intro ac cc)|refine ax2m ?_|(refine ap3 ?_ ?_<;>try intro h)|apply True.intro)
   ((with_reducible apply z00);exact res_2 rfl rfl rfl)
   exact HR.out _ [] _ _ atks ⟨rfl,rfl⟩
 · obtain ⟨n,hn⟩ : ∃ n,fs.length=n:=⟨_,rfl⟩
   have hn4:n<=4000:=by
    have:=HQ.out
    unfold filesOk at this
    rw [← hn]
    simp only [Bool.and_eq_true,decide_eq_true_eq] at this
    exact this.1.1
   rw [hn] at HR HOK HV ⊢
   have HN:=hid hn
   clear hn
   refine ae Tryz.func31 Tryz.ntmps31 ?_
   repeat' (first|refine ax0m ?_|(refine abb ?_;intro b)|(refine acl Tryz.func22 ?_;refine acr (HOK.out) ?_;rintro v' H' ⟨rfl,rfl⟩;refine apl ?_)|refine ax1m ?_|(refine aac ?_;intro ac cc)|refine ax2m ?_|(refine ap3 ?_ ?_<;>try intro h)|apply True.intro)
   refine z0f (A:=RowC 119 4 (.slice none 0 0) 0 []) (RowC.nil _ _) ?_
   refine z04 (fun g t H' => ∃ (k:Nat) (a':Option Addr) (c':Nat),g=n+1 - k/\k<=n/\(∃ G,Takes [RowC 119 4 (.slice a' k c') k (((fs.take k).map docOf).flatMap encD)] H' G)/\(t.length=33/\t[2]?=some (.slice a' k c')/\t[9]?=some (.slice a n c)/\t[10]?=some (.int .i64 n)/\t[11]?=some (.int .i64 k))) (n+1)
    ⟨0,none,0,rfl,Nat.zero_le _,⟨[],by (exact atks)⟩,rfl,rfl,rfl,rfl,rfl⟩ ?_
   rintro g t H' ⟨k,a1,c1,rfl,hk,⟨G,hp⟩,hlen,e2,e9,e10,e11⟩
   revert e2 e9 e10 e11;revert t;refine z0s (n:=33) ?_;intro u0 u1 u2 u3 u4 u5 u6 u7 u8 u9 u10 u11 u12 u13 u14 u15 u16 u17 u18 u19 u20 u21 u22 u23 u24 u25 u26 u27 u28 u29 u30 u31 u32 e2 e9 e10 e11;cases e2;cases e9;cases e10;cases e11
   refine z01 hp ?_
   clear hp
   by_cases hlt:k<n
   · have hkx:k<fs.length:=by rw [HN.out];exact hlt
     obtain ⟨b,off,rfl,hc⟩:=HV.out.1.at hkx HN.out
     have hs:=HV.out.2 _ (List.getElem_mem hkx)
     have hpl:=HL.out _ (List.getElem_mem hkx)
     obtain ⟨x,hx⟩ : ∃ x,fs[k]=x:=⟨_,rfl⟩
     rw [hx] at hc hs hpl
     obtain ⟨p,w,l⟩:=x
     dsimp only at hs hpl
     obtain ⟨aw,cw,rfl⟩:=hs.form
     have hc':=fun H=>hc r H (fun _ _ h=>h)
     unfold encF at hc'
     have hlof:=fun r'=>zha r' (bs p) (by rw [z0x];exact hpl)
     rw [show (bs p).data.toList=p from rfl] at hlof
     have HLOF:=hid hlof
     have HS:=hid hs
     have HX:=hid hx
     have htk:((fs.take (k+1)).map docOf).flatMap encD=((fs.take k).map docOf).flatMap encD++[.string (bs p),.string (bs (langOf p)),.int .u32 (inv32 (crcAll 4294967295 l):Nat),.int .i64 l.length]:=by
      rw [List.take_succ_eq_append_getElem hkx,hx];simp [docOf,encD]
     have HTK:=hid htk
     clear htk
     obtain ⟨xs,hxs⟩ : ∃ xs,((fs.take k).map docOf).flatMap encD=xs:=⟨_,rfl⟩
     rw [hxs] at HTK ⊢
     have hc:=hc' [RowC 119 4 (.slice a1 k c1) k xs]
     dsimp only at hc
     clear hc' hlof hs hx hxs
     repeat' (first|((with_reducible apply z0c);exact z0l;(exact qcl);intro b5;(refine apk ?_))|refine ax0 ?_|(refine abb ?_;intro b)|refine ax1 ?_|(refine aac ?_;intro ac cc)|refine ax2 ?_|(refine ap3 ?_ ?_<;>try intro h)|apply True.intro)
     clear hc
     ((with_reducible apply z1h (id:=6) 16 (Pl.seg [(0,true),(1,true),(2,true),(3,true),(4,true),(6,true),(7,true),(10,true),(11,true),(12,true)] (Pl.two 5 8 (Pl.seg [(8,false),(9,false),(13,false),(14,false),(15,false)] Pl.leaf) (Pl.seg [(5,false),(9,false),(13,false),(14,false),(15,false)] Pl.leaf))) (List.replicate 16 true++List.replicate 1 false).toArray [(16,false)] [(b5,.cells [.string (bs p),.slice aw l.length cw].toArray 45 (0,0))]);kernel_rfl;(exact atks);kernel_rfl;intro r' hl')
     all_goals (have hb0:=hl'.2 _ List.mem_cons_self)
     all_goals (have hs1:=HS.out.mono hl'.1)
     repeat' (first|(first|((with_reducible apply z0t);exact ty_el;exact z03;rfl;rfl;rfl;intro bz;(refine apk ?_))|((with_reducible apply z0y);exact ty_el;exact z03;rfl;rfl;rfl;intro bz;(refine apk ?_)))|(refine acl Tryz.func79 ?_;refine acr (HLOF.out r') ?_;rintro v' H' ⟨rfl,rfl⟩;refine apl ?_)|((with_reducible apply z0k [(bz,.cells [.slice aw l.length cw].toArray 26 (0,0))]);(exact atks);intro r' hl';refine acl Tryz.func80 ?_;refine acr (zgj r' _ [(.slice aw l.length cw,l)] ⟨Sl.lit (hl'.2 _ List.mem_cons_self) rfl (by simp [maxLen]),by simp;exact hs1.mono hl'.1⟩) ?_;rintro v' H' ⟨rfl,rfl⟩;all_goals refine apm ?_)|(first|((with_reducible apply z0d);exact ty_el;exact z03;rfl;rfl;rfl;(exact atk);(exact atk);rfl;(simp;omega);intro a' c';(refine apk ?_))|((with_reducible apply z0m);exact ty_el;exact z03;rfl;rfl;rfl;rfl;(exact atk);(exact atk);rfl;rfl;(simp;omega);intro a' c';(refine apk ?_)))|refine ax0 ?_|(refine abb ?_;intro b)|refine ax1 ?_|(refine aac ?_;intro ac cc)|refine ax2 ?_|(refine ap3 ?_ ?_<;>try intro h)|apply True.intro)
     all_goals exact ⟨_,by omega,k+1,a',c',rfl,by omega,⟨_,by rw [HTK.out];simp only [flat,List.flatMap_cons,List.flatMap_nil,List.append_nil];(exact atks)⟩,rfl,rfl,rfl,rfl,rfl⟩
   · obtain rfl:k=n:=by omega
     rw [List.take_of_length_le (by rw [HN.out];omega)]
     repeat' (first|refine ax0m ?_|(refine abb ?_;intro b)|refine ax1m ?_|(refine aac ?_;intro ac cc)|refine ax2m ?_|(refine ap3 ?_ ?_<;>try intro h)|apply True.intro)
     ((with_reducible apply z00);exact res_2 rfl rfl rfl)
     exact HR.out _ [] _ _ atks ⟨a1,c1,rfl,by unfold DocR;rw [List.length_map,HN.out]⟩
def putDoc (d:DocV):List UInt8:=texts d.path++fixed d.sum++septs d.size.toNat
def putBytes (ds:List DocV):List UInt8:=septs ds.length++ds.flatMap putDoc
theorem zko {d:DocV} (h:d.path.length<=1000000) (hs:d.size<=1048576):(putDoc d).length<=1000020:=by
 have h1:=z09 (n:=d.path.length) (by unfold maxNum;omega)
 have h2:=z09 (n:=d.size.toNat) (by unfold maxNum;omega)
 simp [putDoc,texts,fixed];omega
theorem z6e : ∀ {ds:List DocV},(∀ d∈ds,d.path.length<=1000000/\d.size<=1048576)->(ds.flatMap putDoc).length<=ds.length*1000020
 | [],_=>by simp
 | d::ds,h=>by
  have h1:=h d List.mem_cons_self
  have:=zko h1.1 h1.2
  have:=z6e (ds:=ds) fun x hx=>h x (List.mem_cons_of_mem _ hx)
  simp only [List.flatMap_cons,List.length_append,List.length_cons,Nat.succ_mul];omega
theorem zrt (r:Hp) (v:Value) (ds:List DocV) (hv:Docs r v ds) (hl : ∀ x∈ds,x.path.length<=1000000) (hsum : ∀ x∈ds,x.sum<4294967296):Tri Tryz.prog r 34 [v] [] fun w H =>
 if docsOk ds then ∃ a c,w = .tuple #[.slice a (putBytes ds).length c,.int .i64 0]/\H=[U8R (.slice a (putBytes ds).length c) (putBytes ds)] else w = .tuple #[.slice none 0 0,.int .i64 2]/\H=[]:=by
 refine Tri.free fun R HR=>?_
 have hok:=zbr r v ds hv hl
 obtain ⟨a,c,rfl⟩:=hv.form
 obtain ⟨q,hq⟩ : ∃ q,docsOk ds=q:=⟨_,rfl⟩
 rw [hq] at hok HR
 have HQ:=hid hq
 have HV:=hid hv
 have HL:=hid hl
 have HS:=hid hsum
 have HOK:=hid hok
 clear hok hq hl hv hsum
 cases q
 · refine ae Tryz.func34 Tryz.ntmps34 ?_
   repeat' (first|refine ax0m ?_|(refine abb ?_;intro b)|(refine acl Tryz.func84 ?_;refine acr (HOK.out) ?_;rintro v' H' ⟨rfl,rfl⟩;refine apl ?_)|refine ax1m ?_|(refine aac ?_;intro ac cc)|refine ax2m ?_|(refine ap3 ?_ ?_<;>try intro h)|apply True.intro)
   ((with_reducible apply z00);exact res_2 rfl rfl rfl)
   exact HR.out _ [] _ _ atks ⟨rfl,rfl⟩
 · have hg:=HQ.out
   unfold docsOk at hg
   simp only [Bool.and_eq_true,decide_eq_true_eq] at hg
   have hsz : ∀ x∈ds,0<=x.size/\x.size<=1048576:=fun x hx=>by
    have h1:=hg.1.2
    simp only [Bool.not_eq_true',List.any_eq_false] at h1
    have h2:=h1 x hx
    simp [docBad] at h2
    omega
   have hn4:=hg.1.1
   obtain ⟨n,hn⟩ : ∃ n,ds.length=n:=⟨_,rfl⟩
   have hlen : ∀ k,(septs n++(ds.take k).flatMap putDoc).length<=5000000000:=fun k=>by
    have h1:=z09 (n:=n) (by unfold maxNum;omega)
    have h2:=z6e (ds:=ds.take k) fun d hd=>⟨HL.out d (List.mem_of_mem_take hd),(hsz d (List.mem_of_mem_take hd)).2⟩
    have h3:(ds.take k).length<=4000:=by rw [List.length_take];omega
    rw [List.length_append]
    have:=Nat.mul_le_mul_right 1000020 h3
    omega
   have HLEN:=hid hlen
   have HSZ:=hid hsz
   clear hg hlen hsz
   rw [hn] at hn4 HOK HV ⊢
   have HN:=hid hn
   clear hn
   have h0:=HLEN.out 0
   simp only [List.take_zero,List.flatMap_nil,List.append_nil] at h0
   have hsx:=z09 (n:=n) (by unfold maxNum;omega)
   have hall:=HLEN.out ds.length
   rw [List.take_length] at hall
   have HALL:=hid hall
   clear hall
   refine ae Tryz.func34 Tryz.ntmps34 ?_
   refine z0f (A:=U8R (.slice none 0 0) []) (RowC.nil _ _) ?_
   repeat' (first|((with_reducible apply z0c);exact z0l;(exact qcl);intro b4;(refine apk ?_))|(refine acl Tryz.func84 ?_;refine acr (HOK.out) ?_;rintro v' H' ⟨rfl,rfl⟩;refine apl ?_)|(first|((with_reducible apply z0t);exact ty_el;exact z03;rfl;rfl;rfl;intro bz;(refine apk ?_))|((with_reducible apply z0y);exact ty_el;exact z03;rfl;rfl;rfl;intro bz;(refine apk ?_)))|((with_reducible apply z0k [(bz,.cells [.int .i64 n].toArray 3 (0,0))]);(exact atks);intro r' hl';refine acl Tryz.func81 ?_;refine acr (z1i r' b4 (.slice none 0 0) [] _ n (Sl.lit (hl'.2 _ List.mem_cons_self) rfl (by simp [maxLen])) (by unfold maxNum;omega) (by simp)) ?_;rintro v' H' ⟨v5,rfl⟩;all_goals refine apm ?_)|refine ax0 ?_|(refine abb ?_;intro b)|refine ax1 ?_|(refine aac ?_;intro ac cc)|refine ax2 ?_|(refine ap3 ?_ ?_<;>try intro h)|apply True.intro)
   refine z04 (fun g t H' => ∃ (k:Nat) (v':Value),g=n+1 - k/\k<=n/\(∃ G,Takes [pt b4 (wri v' false),U8R v' (septs n++(ds.take k).flatMap putDoc)] H' G)/\(t.length=34/\t[4]?=some (.pointer (some ⟨b4,0,none⟩))/\t[14]?=some (.slice a n c)/\t[15]?=some (.int .i64 n)/\t[16]?=some (.int .i64 k))) (n+1)
    ⟨0,v5,rfl,Nat.zero_le _,⟨_,by simp only [List.take_zero,List.flatMap_nil,List.append_nil];(exact atks)⟩,rfl,rfl,rfl,rfl,rfl⟩ ?_
   rintro g t H' ⟨k,v',rfl,hk,⟨G,hp⟩,hlen,e4,e14,e15,e16⟩
   revert e4 e14 e15 e16;revert t;refine z0s (n:=34) ?_;intro u0 u1 u2 u3 u4 u5 u6 u7 u8 u9 u10 u11 u12 u13 u14 u15 u16 u17 u18 u19 u20 u21 u22 u23 u24 u25 u26 u27 u28 u29 u30 u31 u32 u33 e4 e14 e15 e16;cases e4;cases e14;cases e15;cases e16
   refine z01 hp ?_
   clear hp
   by_cases hlt:k<n
   · have hkx:k<ds.length:=by rw [HN.out];exact hlt
     obtain ⟨b,off,rfl,hc⟩:=HV.out.at hkx HN.out
     have hpl:=HL.out _ (List.getElem_mem hkx)
     have hcs:=HS.out _ (List.getElem_mem hkx)
     have hsz:=HSZ.out _ (List.getElem_mem hkx)
     obtain ⟨x,hx⟩ : ∃ x,ds[k]=x:=⟨_,rfl⟩
     rw [hx] at hc hpl hcs hsz
     obtain ⟨p,la,cs,z⟩:=x
     dsimp only at hpl hcs hsz
     obtain ⟨m,rfl⟩:=Int.eq_ofNat_of_zero_le hsz.1
     have hm:m<=1048576:=by omega
     have htk:septs n++(ds.take (k+1)).flatMap putDoc=((septs n++(ds.take k).flatMap putDoc)++texts p++fixed cs)++septs m:=by
      rw [List.take_succ_eq_append_getElem hkx,hx];simp [putDoc]
     have HTK:=hid htk
     have hle:=HLEN.out k
     obtain ⟨l0,hl0⟩ : ∃ l0,septs n++(ds.take k).flatMap putDoc=l0:=⟨_,rfl⟩
     rw [hl0] at HTK hle ⊢
     have htx:(texts p).length<=1000006:=by
      have h1:=z09 (n:=p.length) (by unfold maxNum;omega)
      simp [texts];omega
     have hc':=fun H=>hc r H (fun _ _ h=>h)
     unfold encD at hc'
     have hc:=hc' [pt b4 (wri v' false),U8R v' l0]
     dsimp only at hc
     clear hc' hx hl0 htk hsz
     repeat' (first|((with_reducible apply z0c);exact z0l;(exact qcl);intro b6;(refine apk ?_))|(first|((with_reducible apply z0t);exact ty_el;exact z03;rfl;rfl;rfl;intro bz;(refine apk ?_))|((with_reducible apply z0y);exact ty_el;exact z03;rfl;rfl;rfl;intro bz;(refine apk ?_)))|((with_reducible apply zkz (A:=RdC (.slice ac p.length cc) p));(exact atk);intro r1 g1 hr1 hg1 hA1;((with_reducible apply z0k [(bz,.cells [.slice ac p.length cc].toArray 26 (0,0))]);(exact atks);intro r' hl';refine acl Tryz.func85 ?_;refine acr (zbp r' b4 v' l0 _ _ p (Sl.lit (hl'.2 _ List.mem_cons_self) rfl (by simp [maxLen])) ((hA1.mono hg1).mono hl'.1) hpl (by omega)) ?_;rintro v' H' ⟨v6,rfl⟩;all_goals refine apm ?_))|(refine acl Tryz.func86 ?_;refine acr (zbn _ b4 v6 false (l0++texts p) cs hcs (by simp;omega)) ?_;rintro v' H' ⟨v7,rfl⟩;refine apl ?_)|((with_reducible apply z0k [(bz,.cells [.int .i64 m].toArray 3 (0,0))]);(exact atks);intro r' hl';refine acl Tryz.func81 ?_;refine acr (z1i r' b4 v7 (l0++texts p++fixed cs) _ m (Sl.lit (hl'.2 _ List.mem_cons_self) rfl (by simp [maxLen])) (by unfold maxNum;omega) (by simp [fixed];omega)) ?_;rintro v' H' ⟨v8,rfl⟩;all_goals refine apm ?_)|refine ax0 ?_|(refine abb ?_;intro b)|refine ax1 ?_|(refine aac ?_;intro ac cc)|refine ax2 ?_|(refine ap3 ?_ ?_<;>try intro h)|apply True.intro)
     exact ⟨_,by omega,k+1,v8,rfl,by omega,⟨_,by rw [HTK.out];(exact atks)⟩,rfl,rfl,rfl,rfl,rfl⟩
   · obtain rfl:k=n:=by omega
     rw [List.take_of_length_le (by rw [HN.out];omega)]
     have e:putBytes ds=septs k++ds.flatMap putDoc:=by unfold putBytes;rw [HN.out]
     rw [← e] at HALL ⊢
     clear e
     repeat' (first|(refine acl Tryz.func39 ?_;refine acr (z3h _ b4 v' (putBytes ds) (by have:=HALL.out;omega)) ?_;rintro v' H' ⟨a9,c9,rfl,rfl⟩;refine apl ?_)|refine ax0 ?_|(refine abb ?_;intro b)|refine ax1 ?_|(refine aac ?_;intro ac cc)|refine ax2 ?_|(refine ap3 ?_ ?_<;>try intro h)|apply True.intro)
     ((with_reducible apply z00);exact res_2 rfl rfl rfl)
     exact HR.out _ [] _ _ atks ⟨a9,c9,rfl,rfl⟩
end Go.Proofs.YtohpeoakdgckfaaGreat
