/- doc: the small functions, each, paths, Files, Right, Find: their contracts. -/
import Derived.Test.YtohpeoakdgckfaaGreatEm
import Derived.Test.YtohpeoakdgckfaaGreatLa
set_option maxHeartbeats 1000000
set_option maxRecDepth 10000
namespace Go.Proofs.YtohpeoakdgckfaaGreat
open Go.RowKit Sx
attribute [local go_sem] Oper.semAt_some
theorem zhm (r:Hp) (f:FileV) (hf:U8S r f.val f.data):Tri Tryz.prog r 67 [.agg (encF f).toArray] [] fun w H=>w = .bool (decide (1048576<f.data.length))/\H=[]:=by
 refine Tri.free fun R HR=>?_
 obtain ⟨p,v,l⟩:=f
 dsimp only at hf HR
 obtain ⟨a,c,rfl⟩:=hf.form
 unfold encF
 clear hf
 dsimp only
 refine ae Tryz.func67 Tryz.ntmps67 ?_
 repeat' (first|refine ax0m ?_|(refine abb ?_;intro b)|refine ax1m ?_|(refine aac ?_;intro ac cc)|refine ax2m ?_|(refine ap3 ?_ ?_<;>try intro h)|apply True.intro)
 ((with_reducible apply z00);exact res_1 rfl rfl)
 exact HR.out _ [_] _ [] atks ⟨by congr 1;simp;omega,rfl⟩
theorem zfp (r:Hp) (f:FileV):Tri Tryz.prog r 71 [.agg (encF f).toArray] [] fun w H=>w = .string (bs f.path)/\H=[]:=by
 refine Tri.free fun R HR=>?_
 unfold encF
 refine ae Tryz.func71 Tryz.ntmps71 ?_
 repeat' (first|refine ax0m ?_|(refine abb ?_;intro b)|refine ax1m ?_|(refine aac ?_;intro ac cc)|refine ax2m ?_|(refine ap3 ?_ ?_<;>try intro h)|apply True.intro)
 ((with_reducible apply z00);exact res_1 rfl rfl)
 exact HR.out _ [_] _ [] atks ⟨rfl,rfl⟩
theorem zhn (r:Hp) (f:DocV):Tri Tryz.prog r 147 [.agg (encD f).toArray] [] fun w H=>w = .string (bs f.path)/\H=[]:=by
 refine Tri.free fun R HR=>?_
 unfold encD
 refine ae Tryz.func147 Tryz.ntmps147 ?_
 repeat' (first|refine ax0m ?_|(refine abb ?_;intro b)|refine ax1m ?_|(refine aac ?_;intro ac cc)|refine ax2m ?_|(refine ap3 ?_ ?_<;>try intro h)|apply True.intro)
 ((with_reducible apply z00);exact res_1 rfl rfl)
 exact HR.out _ [_] _ [] atks ⟨rfl,rfl⟩
def docBad (d:DocV):Bool:=decide (d.lang≠langOf d.path) || decide (d.size<0) || decide (1048576<d.size)
theorem zkq (r:Hp) (d:DocV) (hp:d.path.length<=1000000):Tri Tryz.prog r 144 [.agg (encD d).toArray] [] fun w H=>w = .bool (docBad d)/\H=[]:=by
 refine Tri.free fun R HR=>?_
 obtain ⟨p,l,c,n⟩:=d
 unfold encD
 unfold docBad at HR
 dsimp only at HR hp ⊢
 have hlf:=fun r'=>zha r' (bs p) (by rw [z0x];exact hp)
 rw [show (bs p).data.toList=p from rfl] at hlf
 obtain ⟨q1,h1⟩ : ∃ q1,((bs l).toList == (bs (langOf p)).toList)=q1:=⟨_,rfl⟩
 obtain ⟨q2,h2⟩ : ∃ q2,decide (n<0)=q2:=⟨_,rfl⟩
 obtain ⟨q3,h3⟩ : ∃ q3,decide (n > 1048576)=q3:=⟨_,rfl⟩
 have h1':decide (l=langOf p)=q1:=by rw [← h1,z0r,z0r,Bool.eq_iff_iff];simp
 have hq:(decide (l≠langOf p) || decide (n<0) || decide (1048576<n))=(!q1 || q2 || q3):=by rw [← h1',← h2,← h3];simp
 rw [hq] at HR
 have HLF:=hid hlf
 clear hlf h1' hq
 cases q1<;>cases q2<;>cases q3
 all_goals
  refine ae Tryz.func144 Tryz.ntmps144 ?_
  repeat' (first|refine ax0m ?_|(refine abb ?_;intro b)|refine ax1m ?_|(refine aac ?_;intro ac cc)|refine ax2m ?_|(refine ap3 ?_ ?_<;>try intro h)|apply True.intro)
  ((with_reducible apply z02 (id:=1) 16 [(0,true),(1,true),(2,true),(3,true),(4,false),(5,true),(6,true),(7,true),(8,true),(9,true),(10,true),(11,true),(12,true),(13,true),(14,true),(15,true)] [(16,false)] [(b,.cells [.string (bs p),.string (bs l),.int .u32 c,.int .i64 n].toArray 119 (0,0))]);kernel_rfl;(exact atks);kernel_rfl;intro r' hl')
  have hb0:=hl'.2 _ List.mem_cons_self
  repeat' (first|refine ax0m ?_|(refine abb ?_;intro b)|(refine acl Tryz.func79 ?_;refine acr (HLF.out r') ?_;rintro v' H' ⟨rfl,rfl⟩;refine apl ?_)|refine ax1m ?_|(refine aac ?_;intro ac cc)|refine ax2m ?_|(refine ap3 ?_ ?_<;>try intro h)|apply True.intro)
  ((with_reducible apply z00);exact res_1 rfl rfl)
  exact HR.out _ [_] _ [] atks ⟨rfl,rfl⟩
def tell1 (s:List UInt8):List Value:=[.string (bs s)]
def GoodFile (f:FileV):Prop := ∃ a n c,f.val = .slice a n c
def GoodDoc (_:DocV):Prop:=True
theorem zfq (r:Hp) (v:Value) (xs:List FileV) (hv:Els r 2 encF v xs) (hgd : ∀ x∈xs,GoodFile x) (B1 B2:Nat):Seq Tryz.prog r 134 [.pointer (some ⟨B1,0,none⟩),.pointer (some ⟨B2,0,none⟩)] tell1 (xs.map (·.path))
 [pt B1 (.cells [v].toArray 22 (0,0)),pt B2 (.cells [.func (.func 71) #[] #[]].toArray 139 (0,0))] []:=by
 intro k J Jx hY
 refine Tri.free fun R HR=>?_
 obtain ⟨a,c,rfl⟩:=hv.form
 have hn:=hv.2.2.1
 unfold maxLen at hn
 obtain ⟨n,hln⟩ : ∃ n,xs.length=n:=⟨_,rfl⟩
 rw [hln] at hn hv ⊢
 have HLN:=hid hln
 have HY:=hid hY
 clear hln hY
 refine ae Tryz.func134 Tryz.ntmps134 ?_
 repeat' (first|refine ax0m ?_|(refine abb ?_;intro b)|refine ax1m ?_|(refine aac ?_;intro ac cc)|refine ax2m ?_|(refine ap3 ?_ ?_<;>try intro h)|apply True.intro)
 refine z04 (fun g t H' => ∃ i:Nat,g=n+1 - i/\i<=n/\(∃ G,Takes [J i,pt B1 (.cells [.slice a n c].toArray 22 (0,0)),pt B2 (.cells [.func (.func 71) #[] #[]].toArray 139 (0,0))] H' G)/\(t.length=19/\t[0]?=some (.func (.yield k) #[] #[])/\t[1]?=some (.pointer (some ⟨B1,0,none⟩))/\t[2]?=some (.pointer (some ⟨B2,0,none⟩))/\t[6]?=some (.slice a n c)/\t[7]?=some (.int .i64 n)/\t[8]?=some (.int .i64 i))) (n+1)
  ⟨0,rfl,Nat.zero_le _,⟨[],by (exact atks)⟩,rfl,rfl,rfl,rfl,rfl,rfl,rfl⟩ ?_
 rintro g t H' ⟨i,rfl,hi,⟨G,hp⟩,hlen,e0,e1,e2,e6,e7,e8⟩
 revert e0 e1 e2 e6 e7 e8;revert t;refine z0s (n:=19) ?_;intro u0 u1 u2 u3 u4 u5 u6 u7 u8 u9 u10 u11 u12 u13 u14 u15 u16 u17 u18 e0 e1 e2 e6 e7 e8;cases e0;cases e1;cases e2;cases e6;cases e7;cases e8
 refine z01 hp ?_
 clear hp
 by_cases hlt:i<n
 · have hix:i<xs.length:=by rw [HLN.out];exact hlt
   obtain ⟨b,off,rfl,hc⟩:=hv.at hix HLN.out
   have hy:=HY.out i (by simpa using hix)
   have hw:=hgd xs[i] (List.getElem_mem hix)
   obtain ⟨x,hx⟩ : ∃ x,xs[i]=x:=⟨_,rfl⟩
   simp only [List.getElem_map] at hy
   rw [hx] at hy hc hw
   (obtain ⟨ax,nx,cx,hvx⟩:=hw;obtain ⟨px,vx,lx⟩:=x;dsimp only at hvx;subst hvx;have hw:=trivial)
   have HY1:=hid hy
   have hc':=fun H=>hc r H (fun _ _ h=>h)
   unfold encF at hc'
   have hc:=hc' [J i,pt B1 (.cells [.slice (some ⟨b,off,none⟩) n c].toArray 22 (0,0)),pt B2 (.cells [.func (.func 71) #[] #[]].toArray 139 (0,0))]
   clear hy hc' hx hw
   repeat' (first|refine ax0m ?_|(refine abb ?_;intro b)|(refine acl Tryz.func71 ?_;refine acr (zfp _ _) ?_;rintro v' H' ⟨rfl,rfl⟩;refine apl ?_)|((with_reducible apply z2o);rfl;exact (HY1.out);rfl;(exact atk);all_goals (refine apk ?_))|refine ax1m ?_|(refine aac ?_;intro ac cc)|refine ax2m ?_|(refine ap3 ?_ ?_<;>try intro h)|apply True.intro)
   · exact ⟨_,by omega,i+1,rfl,by omega,⟨_,by (exact atks)⟩,rfl,rfl,rfl,rfl,rfl,rfl,rfl⟩
   · ((with_reducible apply z00);exact res_0 rfl)
     exact HR.out _ [pt _ _,pt B1 _,pt B2 _] _ [Jx (i+1)] atks (.inr ⟨i,[],by rw [List.length_map,HLN.out];exact hlt,rfl⟩)
 · obtain rfl:i=n:=by omega
   repeat' (first|refine ax0m ?_|(refine abb ?_;intro b)|refine ax1m ?_|(refine aac ?_;intro ac cc)|refine ax2m ?_|(refine ap3 ?_ ?_<;>try intro h)|apply True.intro)
   ((with_reducible apply z1k);exact res_0 rfl)
   exact HR.out _ [pt B1 _,pt B2 _] _ [J i] atks (.inl (by rw [List.length_map,HLN.out]))
theorem zfr (r:Hp) (a:Option Addr) (n c:Nat):Tri Tryz.prog r 70 [.slice a n c,.func (.func 71) #[] #[]] [] fun w H => ∃ B1 B2,w = .func (.func 134) #[] #[.pointer (some ⟨B1,0,none⟩),.pointer (some ⟨B2,0,none⟩)] /\
 H=[pt B2 (.cells [.func (.func 71) #[] #[]].toArray 139 (0,0)),pt B1 (.cells [.slice a n c].toArray 22 (0,0))]:=by
 refine ae Tryz.func70 Tryz.ntmps70 ?_
 repeat' (first|refine ax0m ?_|(refine abb ?_;intro b)|refine ax1m ?_|(refine aac ?_;intro ac cc)|refine ax2m ?_|(refine ap3 ?_ ?_<;>try intro h)|apply True.intro)
 ((with_reducible apply z00);exact res_1 rfl rfl)
 exact ⟨_,_,rfl,rfl⟩
theorem zho (r:Hp) (v:Value) (xs:List DocV) (hv:Els r 4 encD v xs) (hgd : ∀ x∈xs,GoodDoc x) (B1 B2:Nat):Seq Tryz.prog r 201 [.pointer (some ⟨B1,0,none⟩),.pointer (some ⟨B2,0,none⟩)] tell1 (xs.map (·.path))
 [pt B1 (.cells [v].toArray 66 (0,0)),pt B2 (.cells [.func (.func 147) #[] #[]].toArray 218 (0,0))] []:=by
 intro k J Jx hY
 refine Tri.free fun R HR=>?_
 obtain ⟨a,c,rfl⟩:=hv.form
 have hn:=hv.2.2.1
 unfold maxLen at hn
 obtain ⟨n,hln⟩ : ∃ n,xs.length=n:=⟨_,rfl⟩
 rw [hln] at hn hv ⊢
 have HLN:=hid hln
 have HY:=hid hY
 clear hln hY
 refine ae Tryz.func201 Tryz.ntmps201 ?_
 repeat' (first|refine ax0m ?_|(refine abb ?_;intro b)|refine ax1m ?_|(refine aac ?_;intro ac cc)|refine ax2m ?_|(refine ap3 ?_ ?_<;>try intro h)|apply True.intro)
 refine z04 (fun g t H' => ∃ i:Nat,g=n+1 - i/\i<=n/\(∃ G,Takes [J i,pt B1 (.cells [.slice a n c].toArray 66 (0,0)),pt B2 (.cells [.func (.func 147) #[] #[]].toArray 218 (0,0))] H' G)/\(t.length=19/\t[0]?=some (.func (.yield k) #[] #[])/\t[1]?=some (.pointer (some ⟨B1,0,none⟩))/\t[2]?=some (.pointer (some ⟨B2,0,none⟩))/\t[6]?=some (.slice a n c)/\t[7]?=some (.int .i64 n)/\t[8]?=some (.int .i64 i))) (n+1)
  ⟨0,rfl,Nat.zero_le _,⟨[],by (exact atks)⟩,rfl,rfl,rfl,rfl,rfl,rfl,rfl⟩ ?_
 rintro g t H' ⟨i,rfl,hi,⟨G,hp⟩,hlen,e0,e1,e2,e6,e7,e8⟩
 revert e0 e1 e2 e6 e7 e8;revert t;refine z0s (n:=19) ?_;intro u0 u1 u2 u3 u4 u5 u6 u7 u8 u9 u10 u11 u12 u13 u14 u15 u16 u17 u18 e0 e1 e2 e6 e7 e8;cases e0;cases e1;cases e2;cases e6;cases e7;cases e8
 refine z01 hp ?_
 clear hp
 by_cases hlt:i<n
 · have hix:i<xs.length:=by rw [HLN.out];exact hlt
   obtain ⟨b,off,rfl,hc⟩:=hv.at hix HLN.out
   have hy:=HY.out i (by simpa using hix)
   have hw:=hgd xs[i] (List.getElem_mem hix)
   obtain ⟨x,hx⟩ : ∃ x,xs[i]=x:=⟨_,rfl⟩
   simp only [List.getElem_map] at hy
   rw [hx] at hy hc hw
   skip
   have HY1:=hid hy
   have hc':=fun H=>hc r H (fun _ _ h=>h)
   unfold encD at hc'
   have hc:=hc' [J i,pt B1 (.cells [.slice (some ⟨b,off,none⟩) n c].toArray 66 (0,0)),pt B2 (.cells [.func (.func 147) #[] #[]].toArray 218 (0,0))]
   clear hy hc' hx hw
   repeat' (first|refine ax0m ?_|(refine abb ?_;intro b)|(refine acl Tryz.func147 ?_;refine acr (zhn _ _) ?_;rintro v' H' ⟨rfl,rfl⟩;refine apl ?_)|((with_reducible apply z2o);rfl;exact (HY1.out);rfl;(exact atk);all_goals (refine apk ?_))|refine ax1m ?_|(refine aac ?_;intro ac cc)|refine ax2m ?_|(refine ap3 ?_ ?_<;>try intro h)|apply True.intro)
   · exact ⟨_,by omega,i+1,rfl,by omega,⟨_,by (exact atks)⟩,rfl,rfl,rfl,rfl,rfl,rfl,rfl⟩
   · ((with_reducible apply z00);exact res_0 rfl)
     exact HR.out _ [pt _ _,pt B1 _,pt B2 _] _ [Jx (i+1)] atks (.inr ⟨i,[],by rw [List.length_map,HLN.out];exact hlt,rfl⟩)
 · obtain rfl:i=n:=by omega
   repeat' (first|refine ax0m ?_|(refine abb ?_;intro b)|refine ax1m ?_|(refine aac ?_;intro ac cc)|refine ax2m ?_|(refine ap3 ?_ ?_<;>try intro h)|apply True.intro)
   ((with_reducible apply z1k);exact res_0 rfl)
   exact HR.out _ [pt B1 _,pt B2 _] _ [J i] atks (.inl (by rw [List.length_map,HLN.out]))
theorem zhp (r:Hp) (a:Option Addr) (n c:Nat):Tri Tryz.prog r 146 [.slice a n c,.func (.func 147) #[] #[]] [] fun w H => ∃ B1 B2,w = .func (.func 201) #[] #[.pointer (some ⟨B1,0,none⟩),.pointer (some ⟨B2,0,none⟩)] /\
 H=[pt B2 (.cells [.func (.func 147) #[] #[]].toArray 218 (0,0)),pt B1 (.cells [.slice a n c].toArray 66 (0,0))]:=by
 refine ae Tryz.func146 Tryz.ntmps146 ?_
 repeat' (first|refine ax0m ?_|(refine abb ?_;intro b)|refine ax1m ?_|(refine aac ?_;intro ac cc)|refine ax2m ?_|(refine ap3 ?_ ?_<;>try intro h)|apply True.intro)
 ((with_reducible apply z00);exact res_1 rfl rfl)
 exact ⟨_,_,rfl,rfl⟩
def ordOk:List UInt8->List (List UInt8)->Bool
 | _,[]=>true
 | last,p::ps=>pathOk p && !(Op.bytesLess p last || p == last) && ordOk p ps
theorem zfs (r:Hp) (gf:FuncId) (lb:List Value) (hg:GoesTo Tryz.prog gf) (ps:List (List UInt8)) (H0:List Ch) (hs:Seq Tryz.prog r gf lb tell1 ps H0 []) (hl : ∀ p∈ps,p.length<=1000000) :
 Tri Tryz.prog r 69 [.func (.func gf) #[] lb.toArray] H0 fun w H=>w = .bool (ordOk [] ps)/\H=[]:=by
 refine Tri.free fun R HR=>?_
 have HL:=hid hl
 have HS:=hid hs
 clear hl hs
 refine ae Tryz.func69 Tryz.ntmps69 ?_
 repeat' (first|((with_reducible apply z0c (z:= .bool false));exact z0l;(exact qcl);intro b2;(refine apk ?_))|((with_reducible apply z0c (z:= .string ⟨#[]⟩));exact z0l;(exact qcl);intro b3;(refine apk ?_))|refine ax0 ?_|(refine abb ?_;intro b)|refine ax1 ?_|(refine aac ?_;intro ac cc)|refine ax2 ?_|(refine ap3 ?_ ?_<;>try intro h)|apply True.intro)
 refine z5x rfl hg HS.out (show Takes H0 ([_,_]++H0) [_,_] from List.perm_append_comm) (fun _=>rfl)
  (fun k H => ∃ last,ordOk [] ps=ordOk last (ps.drop k)/\Takes [pt b3 (.cells [.string (bs last)].toArray 9 (0,0)),pt b2 (.cells [.bool false].toArray 4 (0,0))] H [])
  (fun c k H=>c = .ret/\ordOk [] ps=false /\ ∃ G,Takes [pt b2 (.cells [.bool false].toArray 4 (0,0))] H G) ⟨[],rfl,by (exact atks)⟩ ?_ ?_ ?_
 · rintro k3 k hk H ⟨last,ho,hp⟩
   refine z6g hp ?_
   clear hp
   obtain ⟨x,hx⟩ : ∃ x,ps[k]=x:=⟨_,rfl⟩
   have hd:ps.drop k=x::ps.drop (k+1):=by rw [← hx];exact List.drop_eq_getElem_cons hk
   rw [hd] at ho
   rw [show ordOk last (x::ps.drop (k+1))=(pathOk x && !(Op.bytesLess x last || x == last) && ordOk x (ps.drop (k+1))) from rfl] at ho
   have hxl:=HL.out x (hx ▸ List.getElem_mem hk)
   have hlr:=zkh r (bs x) (by rw [z0x];exact hxl)
   rw [show (bs x).data.toList=x from rfl] at hlr
   rw [hx,show tell1 x=[.string (bs x)] from rfl,pars1]
   obtain ⟨q1,h1⟩ : ∃ q1,pathOk x=q1:=⟨_,rfl⟩
   rw [h1] at hlr ho
   have HLR:=hid hlr
   have HO:=hid ho
   clear hlr ho hx hd h1
   (refine apk ?_)
   cases q1
   · repeat' (first|refine ax0m ?_|(refine abb ?_;intro b)|(refine acl Tryz.func133 ?_;refine acr (HLR.out) ?_;rintro v' H' ⟨rfl,rfl⟩;refine apl ?_)|refine ax1m ?_|(refine aac ?_;intro ac cc)|refine ax2m ?_|(refine ap3 ?_ ?_<;>try intro h)|apply True.intro)
     exact ⟨rfl,by rw [HO.out];rfl,_,by (exact atks)⟩
   · repeat' (first|refine ax0m ?_|(refine abb ?_;intro b)|(refine acl Tryz.func133 ?_;refine acr (HLR.out) ?_;rintro v' H' ⟨rfl,rfl⟩;refine apl ?_)|refine ax1m ?_|(refine aac ?_;intro ac cc)|refine ax2m ?_|(refine ap3 ?_ ?_<;>try intro h)|apply True.intro)
     · rw [z0r,z0r] at h
       exact ⟨rfl,by rw [HO.out];rcases h with h|h<;>simp [h],_,by (exact atks)⟩
     · rw [z0r,z0r] at h
       exact ⟨x,by rw [HO.out,h.1,h.2];rfl,by (exact atks)⟩
 · rintro H ⟨last,ho,hp⟩
   rw [List.drop_length] at ho
   have HO:=hid ho
   refine z6g (show Takes _ _ [] from hp) ?_
   clear hp ho
   repeat' (first|refine ax0m ?_|(refine abb ?_;intro b)|refine ax1m ?_|(refine aac ?_;intro ac cc)|refine ax2m ?_|(refine ap3 ?_ ?_<;>try intro h)|apply True.intro)
   ((with_reducible apply z00);exact res_c rfl z0a rfl (by (exact ard)))
   exact HR.out _ [pt b3 _,pt b2 _] _ [] atks ⟨by rw [HO.out];rfl,rfl⟩
 · rintro c i H hi ⟨rfl,ho,G,hp⟩
   refine z01 hp ?_
   have HO:=hid ho
   clear hp ho
   repeat' (first|refine ax0m ?_|(refine abb ?_;intro b)|refine ax1m ?_|(refine aac ?_;intro ac cc)|refine ax2m ?_|(refine ap3 ?_ ?_<;>try intro h)|apply True.intro)
   ((with_reducible apply z00);exact res_c rfl z0a rfl (by (exact ard)))
   exact HR.out _ [pt b2 _] _ [] atks ⟨by rw [HO.out],rfl⟩
def bigF (f:FileV):Bool:=decide (1048576<f.data.length)
def filesOk (fs:List FileV):Bool:=decide (fs.length<=4000) && !(fs.any bigF) && ordOk [] (fs.map (·.path))
def docsOk (ds:List DocV):Bool:=decide (ds.length<=4000) && !(ds.any docBad) && ordOk [] (ds.map (·.path))
theorem Files.good {r:Hp} {v:Value} {fs:List FileV} (h:Files r v fs) : ∀ f∈fs,GoodFile f:=fun f hf=>by
 obtain ⟨a,c,e⟩:=(h.2 f hf).form
 exact ⟨a,_,c,e⟩
theorem zhq (r:Hp) (v:Value) (xs:List FileV) (hv:Files r v xs) (hl : ∀ x∈xs,x.path.length<=1000000):Tri Tryz.prog r 22 [v] [] fun w H=>w = .bool (filesOk xs)/\H=[]:=by
 refine Tri.free fun R HR=>?_
 have hct:=zdi r v xs 67 [] [] bigF (by first|exact hv.1|exact hv) (z2h Tryz.func67 (by kernel_rfl) rfl) (fun k hk=>zhm r _ (hv.2 _ (List.getElem_mem hk)))
 have hpt:=fun B1 B2=>zfs r _ [.pointer (some ⟨B1,0,none⟩),.pointer (some ⟨B2,0,none⟩)] (z2h Tryz.func134 (by kernel_rfl) rfl) _ _ (zfq r v xs (by first|exact hv.1|exact hv) hv.good B1 B2) (fun p hp=>by
  obtain ⟨x,hx,rfl⟩:=List.mem_map.1 hp
  exact hl x hx)
 obtain ⟨a,c,rfl⟩ : ∃ a c,v = .slice a xs.length c:=by first|exact hv.1.form|exact hv.form
 unfold filesOk at HR
 obtain ⟨n,hn⟩ : ∃ n,xs.length=n:=⟨_,rfl⟩
 obtain ⟨q1,h1⟩ : ∃ q1,decide ((n:Int)<=4000)=q1:=⟨_,rfl⟩
 obtain ⟨q2,h2⟩ : ∃ q2,xs.any bigF=q2:=⟨_,rfl⟩
 have h1':decide (n<=4000)=q1:=by rw [← h1];congr 1;simp;omega
 rw [hn] at HR hct hpt ⊢
 rw [h2] at hct HR
 rw [h1'] at HR
 have HCT:=hid hct
 have HPT:=hid hpt
 clear hct hpt hv hl h1' h2 hn
 cases q1
 · refine ae Tryz.func22 Tryz.ntmps22 ?_
   repeat' (first|refine ax0m ?_|(refine abb ?_;intro b)|refine ax1m ?_|(refine aac ?_;intro ac cc)|refine ax2m ?_|(refine ap3 ?_ ?_<;>try intro h)|apply True.intro)
   ((with_reducible apply z00);exact res_1 rfl rfl)
   exact HR.out _ [] _ _ atks ⟨rfl,rfl⟩
 · cases q2
   all_goals
    refine ae Tryz.func22 Tryz.ntmps22 ?_
    repeat' (first|refine ax0m ?_|(refine abb ?_;intro b)|(refine acl Tryz.func68 ?_;refine acr (HCT.out) ?_;rintro v' H' ⟨rfl,rfl⟩;refine apl ?_)|(refine acl Tryz.func70 ?_;refine acr (zfr _ _ _ _) ?_;rintro v' H' ⟨B1,B2,rfl,rfl⟩;refine apl ?_)|(refine acl Tryz.func69 ?_;refine acr (HPT.out B1 B2) ?_;rintro v' H' ⟨rfl,rfl⟩;refine apl ?_)|refine ax1m ?_|(refine aac ?_;intro ac cc)|refine ax2m ?_|(refine ap3 ?_ ?_<;>try intro h)|apply True.intro)
    ((with_reducible apply z00);exact res_1 rfl rfl)
    exact HR.out _ [] _ _ atks ⟨rfl,rfl⟩
theorem zbr (r:Hp) (v:Value) (xs:List DocV) (hv:Docs r v xs) (hl : ∀ x∈xs,x.path.length<=1000000):Tri Tryz.prog r 84 [v] [] fun w H=>w = .bool (docsOk xs)/\H=[]:=by
 refine Tri.free fun R HR=>?_
 have hct:=zg8 r v xs 144 [] [] docBad (by first|exact hv.1|exact hv) (z2h Tryz.func144 (by kernel_rfl) rfl) (fun k hk=>zkq r _ (hl _ (List.getElem_mem hk)))
 have hpt:=fun B1 B2=>zfs r _ [.pointer (some ⟨B1,0,none⟩),.pointer (some ⟨B2,0,none⟩)] (z2h Tryz.func201 (by kernel_rfl) rfl) _ _ (zho r v xs (by first|exact hv.1|exact hv) (fun _ _=>trivial) B1 B2) (fun p hp=>by
  obtain ⟨x,hx,rfl⟩:=List.mem_map.1 hp
  exact hl x hx)
 obtain ⟨a,c,rfl⟩ : ∃ a c,v = .slice a xs.length c:=by first|exact hv.1.form|exact hv.form
 unfold docsOk at HR
 obtain ⟨n,hn⟩ : ∃ n,xs.length=n:=⟨_,rfl⟩
 obtain ⟨q1,h1⟩ : ∃ q1,decide ((n:Int)<=4000)=q1:=⟨_,rfl⟩
 obtain ⟨q2,h2⟩ : ∃ q2,xs.any docBad=q2:=⟨_,rfl⟩
 have h1':decide (n<=4000)=q1:=by rw [← h1];congr 1;simp;omega
 rw [hn] at HR hct hpt ⊢
 rw [h2] at hct HR
 rw [h1'] at HR
 have HCT:=hid hct
 have HPT:=hid hpt
 clear hct hpt hv hl h1' h2 hn
 cases q1
 · refine ae Tryz.func84 Tryz.ntmps84 ?_
   repeat' (first|refine ax0m ?_|(refine abb ?_;intro b)|refine ax1m ?_|(refine aac ?_;intro ac cc)|refine ax2m ?_|(refine ap3 ?_ ?_<;>try intro h)|apply True.intro)
   ((with_reducible apply z00);exact res_1 rfl rfl)
   exact HR.out _ [] _ _ atks ⟨rfl,rfl⟩
 · cases q2
   all_goals
    refine ae Tryz.func84 Tryz.ntmps84 ?_
    repeat' (first|refine ax0m ?_|(refine abb ?_;intro b)|(refine acl Tryz.func145 ?_;refine acr (HCT.out) ?_;rintro v' H' ⟨rfl,rfl⟩;refine apl ?_)|(refine acl Tryz.func146 ?_;refine acr (zhp _ _ _ _) ?_;rintro v' H' ⟨B1,B2,rfl,rfl⟩;refine apl ?_)|(refine acl Tryz.func69 ?_;refine acr (HPT.out B1 B2) ?_;rintro v' H' ⟨rfl,rfl⟩;refine apl ?_)|refine ax1m ?_|(refine aac ?_;intro ac cc)|refine ax2m ?_|(refine ap3 ?_ ?_<;>try intro h)|apply True.intro)
    ((with_reducible apply z00);exact res_1 rfl rfl)
    exact HR.out _ [] _ _ atks ⟨rfl,rfl⟩
end Go.Proofs.YtohpeoakdgckfaaGreat
