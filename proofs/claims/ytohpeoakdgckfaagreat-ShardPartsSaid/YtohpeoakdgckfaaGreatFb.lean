/- mudlarkkit.flatBytes: its contract. -/
import Derived.Test.YtohpeoakdgckfaaGreatLt
import Derived.Test.YtohpeoakdgckfaaGreatTw
set_option maxHeartbeats 4000000
set_option maxRecDepth 10000
namespace Go.Proofs.YtohpeoakdgckfaaGreat
open Go.RowKit Sx
structure RowV where
 a:Option Addr
 c:Nat
 l:List UInt8
instance:Inhabited RowV:=⟨⟨none,0,[]⟩⟩
def RowV.val (x:RowV):Value:= .slice x.a x.l.length x.c
def encS (x:RowV):List Value:=[.slice x.a x.l.length x.c]
def mrow (k m:Nat):List UInt8:=(List.range m).map (markB k)
theorem z5k (k m:Nat):(mrow k m).length=m:=by simp [mrow]
theorem zcc {k m i:Nat} (h:i<m):(mrow k m).getD i 0=markB k i:=by simp [mrow,h]
theorem zds (k m:Nat):mrow k (m+1)=mrow k m++[markB k m]:=by simp [mrow,List.range_succ]
theorem Sx.tri_pack {P:Program} {r:Hp} {f:FuncId} {args:List Value} {c:List Ch} {R:Rt} (h:Tri P r f args [fun h=>all c h] R):Tri P r f args c R :=
 z1c.2 fun w g ok a=>z1c.1 h w g ok ⟨g,emp,z4u,z30.symm,a,rfl⟩
def half (k i:Nat) (l:List UInt8):List Value:=u8s (mrow k i++l.drop i)
theorem zi4 {k i:Nat} {l:List UInt8} (h:i<l.length):(half k i l).set i (.int .u8 (markB k i).toNat)=half k (i+1) l:=by
 have e:(u8s (mrow k i)).length=i:=by simp [u8s,mrow]
 unfold half
 rw [zds,List.drop_eq_getElem_cons h,show u8s (mrow k i++(l[i]::l.drop (i+1)))=u8s (mrow k i)++(.int .u8 l[i].toNat::u8s (l.drop (i+1))) by (unfold u8s;rw [List.map_append,List.map_cons]),List.set_append_right _ _ (by omega),e,Nat.sub_self]
 simp [u8s]
theorem zi5 {k i:Nat} {l:List UInt8} (h:i<=l.length):(half k i l).length=l.length:=by
 simp [half,u8s,mrow];omega
theorem zi6 (k:Nat) (l:List UInt8):half k l.length l=u8s (mrow k l.length):=by simp [half]
def gsL (n k:Nat) (gf:Nat->Value):List Value:=(List.range n).map fun j=>if j<k then gf j else .slice none 0 0
theorem zcd (n k:Nat) (gf:Nat->Value):(gsL n k gf).length=n:=by simp [gsL]
theorem zi7 (n:Nat) (gf:Nat->Value):gsL n 0 gf=List.replicate n (.slice none 0 0):=by
 apply List.ext_getElem?
 intro j
 by_cases h:j<n<;>simp [gsL,h]
def turn (gf:Nat->Value) (k:Nat) (g:Value):Nat->Value:=fun j=>if j=k then g else gf j
theorem zl2 {n k:Nat} {gf:Nat->Value} {g:Value}:(gsL n k gf).set k g=gsL n (k+1) (turn gf k g):=by
 apply List.ext_getElem?
 intro j
 by_cases h:j<n
 · by_cases e:k=j
   · subst e
     simp [gsL,turn,h]
   · rw [List.getElem?_set_ne e]
     by_cases h2:j<k
     · simp [gsL,turn,h,h2,show j<k+1 by omega,show j≠k by omega]
     · simp [gsL,turn,h,h2,show ¬ j<k+1 by omega]
 · rw [List.getElem?_eq_none (by rw [List.length_set,zcd];omega),List.getElem?_eq_none (by rw [zcd];omega)]
abbrev fb2 (rows:List RowV) (gf:Nat->Value) (j:Nat):Ch:=Two 5 1 (.slice (rows.getD j default).a (rows.getD j default).l.length (rows.getD j default).c) (rows.getD j default).l.length (u8s (mrow j (rows.getD j default).l.length)) (gf j) ((rows.getD j default).l.length+64) (u8s (mrow j ((rows.getD j default).l.length+64)))
theorem znn {n:Nat} {rows:List RowV} {gf:Nat->Value} {B:Nat->Ch} {k:Nat} {g:Value}:FamR n (fb2 rows gf) B k=FamR n (fb2 rows (turn gf k g)) B k:=by
 unfold FamR
 rw [z4d (A':=fb2 rows (turn gf k g)) (B':=B) (k':=k) fun j _ hj=>by
  have e:fb2 rows (turn gf k g) j=fb2 rows gf j:=by unfold fb2;rw [show turn gf k g j=gf j from if_neg hj]
  rw [e]]
theorem zsk {rows:List RowV} {gf:Nat->Value} {k:Nat} {g:Value}:fb2 rows (turn gf k g) k=Two 5 1 (.slice (rows.getD k default).a (rows.getD k default).l.length (rows.getD k default).c) (rows.getD k default).l.length (u8s (mrow k (rows.getD k default).l.length)) g ((rows.getD k default).l.length+64) (u8s (mrow k ((rows.getD k default).l.length+64))):=by
 unfold fb2;rw [show turn gf k g k=g from if_pos rfl]
def gval (rows:List RowV) (ga:Nat->Option Addr × Nat) (j:Nat):Value:= .slice (ga j).1 ((rows.getD j default).l.length+64) (ga j).2
def turnA (ga:Nat->Option Addr × Nat) (k:Nat) (g:Option Addr × Nat):Nat->Option Addr × Nat:=fun j=>if j=k then g else ga j
theorem zdt (rows:List RowV) (ga:Nat->Option Addr × Nat) (k:Nat) (a:Option Addr) (c:Nat):gval rows (turnA ga k (a,c))=turn (gval rows ga) k (.slice a ((rows.getD k default).l.length+64) c):=by
 funext j
 by_cases h:j=k
 · subst h;simp [gval,turnA,turn]
 · simp [gval,turnA,turn,h]
def rowsG (rows:List RowV) (ga:Nat->Option Addr × Nat):List RowV:=(List.range rows.length).map fun j=>⟨(ga j).1,(ga j).2,mrow j ((rows.getD j default).l.length+64)⟩
theorem zl3 (rows:List RowV) (ga:Nat->Option Addr × Nat):(rowsG rows ga).length=rows.length:=by simp [rowsG]
theorem zi8 {rows:List RowV} {ga:Nat->Option Addr × Nat} {k:Nat} (h:k<rows.length):(rowsG rows ga).getD k default=⟨(ga k).1,(ga k).2,mrow k ((rows.getD k default).l.length+64)⟩:=by simp [rowsG,h]
theorem zno (rows:List RowV) (ga:Nat->Option Addr × Nat):gsL rows.length rows.length (gval rows ga)=(rowsG rows ga).flatMap encS:=by
 unfold rowsG gsL
 rw [List.flatMap_map]
 rw [List.map_eq_flatMap]
 unfold List.flatMap
 congr 1
 apply List.map_congr_left
 intro j hj
 have:=List.mem_range.1 hj
 simp only [encS,gval,z5k,if_pos this]
abbrev fb3 (rows G:List RowV) (j:Nat):Ch:=Two 5 1 (.slice (rows.getD j default).a (rows.getD j default).l.length (rows.getD j default).c) (rows.getD j default).l.length (u8s (mrow j (rows.getD j default).l.length)) (.slice (G.getD j default).a (G.getD j default).l.length (G.getD j default).c) (G.getD j default).l.length (u8s (G.getD j default).l)
theorem zsl {rows:List RowV} {ga:Nat->Option Addr × Nat} {j:Nat} (h:j<rows.length):fb2 rows (gval rows ga) j=fb3 rows (rowsG rows ga) j:=by
 unfold fb2 fb3
 rw [zi8 h]
 simp only [gval,z5k]
def gsM (n k:Nat) (f g:Nat->Value):List Value:=(List.range n).map fun j=>if j<k then f j else g j
theorem z7l (n k:Nat) (f g:Nat->Value):(gsM n k f g).length=n:=by simp [gsM]
theorem zl4 {n k:Nat} {f g:Nat->Value} {x:Value}:(gsM n k f g).set k x=gsM n (k+1) (turn f k x) g:=by
 apply List.ext_getElem?
 intro j
 by_cases h:j<n
 · by_cases e:k=j
   · subst e
     simp [gsM,turn,h]
   · rw [List.getElem?_set_ne e]
     by_cases h2:j<k
     · simp [gsM,turn,h,h2,show j<k+1 by omega,show j≠k by omega]
     · simp [gsM,turn,h,h2,show ¬ j<k+1 by omega]
 · rw [List.getElem?_eq_none (by rw [List.length_set,z7l];omega),List.getElem?_eq_none (by rw [z7l];omega)]
def oldV (G:List RowV) (j:Nat):Value:= .slice (G.getD j default).a (G.getD j default).l.length (G.getD j default).c
theorem znp {G:List RowV} (f:Nat->Value):gsM G.length 0 f (oldV G)=G.flatMap encS:=by
 apply List.ext_getElem?
 intro j
 have e:=z2b (sz:=1) (enc:=encS) (fun _=>rfl) G
 by_cases h:j<G.length
 · have h1:=z85 (sz:=1) (enc:=encS) (fun _=>rfl) G j h
   rw [Nat.mul_one] at h1
   have h2:(G.flatMap encS)[j]?=(encS G[j])[0]?:=by rw [← h1];simp []
   rw [h2]
   simp [gsM,oldV,h,encS]
 · rw [List.getElem?_eq_none (by rw [z7l];omega),List.getElem?_eq_none (by omega)]
def mrow5 (n j m:Nat):List UInt8:=mrow j m++mrow (j+n) 64
theorem z9c (n j m:Nat):(mrow5 n j m).length=m+64:=by simp [mrow5,mrow]
theorem znq {n j m i:Nat} (h:i<m):(mrow5 n j m).getD i 0=markB j i:=by
 have:=zcc (k:=j) h
 unfold mrow5
 rw [List.getD_eq_getElem?_getD,List.getElem?_append_left (by rw [z5k];exact h),← List.getD_eq_getElem?_getD]
 exact this
abbrev fb4 (rows:List RowV) (gf:Nat->Value) (j:Nat):Ch:=Two 5 1 (.slice (rows.getD j default).a (rows.getD j default).l.length (rows.getD j default).c) (rows.getD j default).l.length (u8s (mrow j (rows.getD j default).l.length)) (gf j) ((rows.getD j default).l.length+64) (u8s (mrow5 rows.length j (rows.getD j default).l.length))
theorem znr {n:Nat} {rows:List RowV} {gf:Nat->Value} {B:Nat->Ch} {k:Nat} {g:Value}:FamR n (fb4 rows gf) B k=FamR n (fb4 rows (turn gf k g)) B k:=by
 unfold FamR
 rw [z4d (A':=fb4 rows (turn gf k g)) (B':=B) (k':=k) fun j _ hj=>by
  have e:fb4 rows (turn gf k g) j=fb4 rows gf j:=by unfold fb4;rw [show turn gf k g j=gf j from if_neg hj]
  rw [e]]
theorem zsm {rows:List RowV} {gf:Nat->Value} {k:Nat} {g:Value}:fb4 rows (turn gf k g) k=Two 5 1 (.slice (rows.getD k default).a (rows.getD k default).l.length (rows.getD k default).c) (rows.getD k default).l.length (u8s (mrow k (rows.getD k default).l.length)) g ((rows.getD k default).l.length+64) (u8s (mrow k (rows.getD k default).l.length)++u8s (mrow (k+rows.length) 64)):=by
 unfold fb4;rw [show turn gf k g k=g from if_pos rfl,mrow5];simp only [u8s,List.map_append]
theorem zsn (k:Nat):half k 64 (List.replicate 64 0)=u8s (mrow k 64):=by
 have:=zi6 k (List.replicate 64 0)
 rwa [List.length_replicate] at this
def rowsG5 (rows:List RowV) (ga:Nat->Option Addr × Nat):List RowV:=(List.range rows.length).map fun j=>⟨(ga j).1,(ga j).2,mrow5 rows.length j (rows.getD j default).l.length⟩
theorem zjn (rows:List RowV) (ga:Nat->Option Addr × Nat):(rowsG5 rows ga).length=rows.length:=by simp [rowsG5]
theorem zdu {rows:List RowV} {ga:Nat->Option Addr × Nat} {k:Nat} (h:k<rows.length):(rowsG5 rows ga).getD k default=⟨(ga k).1,(ga k).2,mrow5 rows.length k (rows.getD k default).l.length⟩:=by simp [rowsG5,h]
theorem zl5 (rows:List RowV) (ga:Nat->Option Addr × Nat) (g:Nat->Value):gsM rows.length rows.length (gval rows ga) g=(rowsG5 rows ga).flatMap encS:=by
 unfold rowsG5 gsM
 rw [List.flatMap_map]
 rw [List.map_eq_flatMap]
 unfold List.flatMap
 congr 1
 apply List.map_congr_left
 intro j hj
 have:=List.mem_range.1 hj
 simp only [encS,gval,z9c,if_pos this]
theorem zqm {rows:List RowV} {ga:Nat->Option Addr × Nat} {j:Nat} (h:j<rows.length):fb4 rows (gval rows ga) j=fb3 rows (rowsG5 rows ga) j:=by
 unfold fb4 fb3
 rw [zdu h]
 simp only [gval,z9c]
theorem mrow8 (k m:Nat):u8s (mrow k (m+1))=u8s (mrow k m)++[.int .u8 (markB k m).toNat]:=by rw [zds];simp [u8s]
abbrev fb0 (rows:List RowV) (j:Nat):Ch:=RowC 5 1 (.slice (rows.getD j default).a (rows.getD j default).l.length (rows.getD j default).c) (rows.getD j default).l.length (half j 0 (rows.getD j default).l)
abbrev fb1 (rows:List RowV) (j:Nat):Ch:=RowC 5 1 (.slice (rows.getD j default).a (rows.getD j default).l.length (rows.getD j default).c) (rows.getD j default).l.length (half j (rows.getD j default).l.length (rows.getD j default).l)
theorem z6l (r:Hp) (v:Value) (rows:List RowV) (hv:Els r 1 encS v rows) (hn:rows.length<=1000000) (hl : ∀ x∈rows,x.l.length<=100000000):Tri Tryz.prog r 105 [v] [Fam rows.length (fb1 rows) (fb0 rows) 0] fun w H=>w = .bool true/\H=[]:=by
 refine Tri.free2 fun R HR=>?_
 refine ae Tryz.func105 Tryz.ntmps105 ?_
 repeat' (first|refine aw0m ?_|(refine ap2 ?_ ?_<;>try intro h)|refine aw1m ?_|(refine abx ?_;intro bb)|(refine abz ?_;intro bz)|(refine ahv ?_;intro v' hv')|(refine aac ?_;intro ac cc)|refine aw2 ?_|(refine ap4 ?_ ?_<;>try intro h)|apply True.intro)
 refine z04 (fun gm t H' => ∃ k:Nat,gm=rows.length+1 - k/\(k<=rows.length)/\(∃ G,Takes [Fam rows.length (fb1 rows) (fb0 rows) k] H' G)/\Sls t 193 [(0,v),(3,.int .i64 k)]) _ ⟨0,rfl,Nat.zero_le _,⟨[],atks⟩,asls⟩ ?_
 rintro gm t H' ⟨k,rfl,hk,⟨G,hp⟩,hs'⟩
 revert t;refine z06 ?_;iterate 191 intro uu'
 refine z01 hp ?_;clear hp
 by_cases hlt:k<rows.length
 · refine z3i (n:=rows.length) (A:=fb1 rows) (B:=fb0 rows) (k:=k) atk hlt ?_
   have hmem:rows.getD k default∈rows:=by simp [hlt]
   have hl1:=hl _ hmem
   repeat' (first|refine aw0m ?_|(refine ap2 ?_ ?_<;>try intro h)|refine aw1m ?_|(refine abx ?_;intro bb)|(refine abz ?_;intro bz)|(refine ahv ?_;intro v' hv')|(refine aac ?_;intro ac cc)|refine aw2 ?_|(refine ap4 ?_ ?_<;>try intro h)|apply True.intro)
   refine z04 (fun gm t H' => ∃ i:Nat,gm=(rows.getD k default).l.length+1 - i/\(i<=(rows.getD k default).l.length)/\(∃ G,Takes [RowC 5 1 (.slice (rows.getD k default).a (rows.getD k default).l.length (rows.getD k default).c) (rows.getD k default).l.length (half k i (rows.getD k default).l),FamR rows.length (fb1 rows) (fb0 rows) k] H' G)/\Sls t 193 [(0,v),(3,.int .i64 k),(4,.int .i64 i)]) _ ⟨0,rfl,Nat.zero_le _,⟨[],atks⟩,asls⟩ ?_
   rintro gm t H' ⟨i,rfl,hi,⟨G,hp⟩,hs'⟩
   revert t;refine z06 ?_;iterate 190 intro uu'
   refine z01 hp ?_;clear hp
   by_cases hi2:i<(rows.getD k default).l.length
   · have hlen2:=zi5 (k:=k) (Nat.le_of_lt hi2)
     repeat' (first|refine aw0m ?_|(refine ap2 ?_ ?_<;>try intro h)|(first|((with_reducible apply z02 (id:=7) 8 [(0,true),(1,true),(2,true),(3,true),(4,true),(5,true),(6,true),(7,false)] [(8,false),(9,false)] []);kernel_rfl;(exact atks);kernel_rfl;intro r' hl')|((with_reducible apply z02 (id:=24) 35 [(0,true),(1,true),(2,true),(3,true),(4,true),(5,true),(6,true),(7,true),(8,true),(9,false),(10,true),(11,true),(12,true),(13,true),(14,true),(15,true),(16,true),(17,true),(18,true),(19,true),(20,true),(21,true),(22,true),(23,true),(24,true),(25,true),(26,true),(27,true),(28,true),(29,true),(30,false),(31,true),(32,true),(33,true),(34,true)] [] []);kernel_rfl;(exact atks);kernel_rfl;intro r' hl')|((with_reducible apply z02 (id:=41) 26 [(0,true),(1,true),(2,true),(3,true),(4,true),(5,true),(6,true),(7,true),(8,true),(9,false),(10,true),(11,true),(12,true),(13,true),(14,true),(15,true),(16,true),(17,true),(18,true),(19,true),(20,true),(21,true),(22,false),(23,true),(24,true),(25,true)] [] []);kernel_rfl;(exact atks);kernel_rfl;intro r' hl'))|(refine acl Tryz.func51 ?_;refine acr (z1d _ k i) ?_;rintro v' H' ⟨rfl,rfl⟩;refine apl ?_)|((with_reducible apply z7f);exact z08;rfl;rfl;(exact atk);rfl;(omega);(refine apk ?_))|refine aw1m ?_|(refine abx ?_;intro bb)|(refine abz ?_;intro bz)|(refine ahv ?_;intro v' hv')|(refine aac ?_;intro ac cc)|refine aw2 ?_|(refine ap4 ?_ ?_<;>try intro h)|apply True.intro)
     exact ⟨_,by omega,i+1,rfl,by omega,⟨_,by rw [← zi4 hi2,show ((i:Int).toNat*1)=i by simp];(exact atks)⟩,asls⟩
   · obtain rfl:i=(rows.getD k default).l.length:=by omega
     refine z5y (n:=rows.length) (A:=fb1 rows) (B:=fb0 rows) (k:=k) (X:=fb1 rows k) atk atk hlt (fun g h=>h) ?_
     repeat' (first|refine aw0m ?_|(refine ap2 ?_ ?_<;>try intro h)|refine aw1m ?_|(refine abx ?_;intro bb)|(refine abz ?_;intro bz)|(refine ahv ?_;intro v' hv')|(refine aac ?_;intro ac cc)|refine aw2 ?_|(refine ap4 ?_ ?_<;>try intro h)|apply True.intro)
     exact ⟨_,by omega,k+1,rfl,by omega,⟨_,atks⟩,asls⟩
 · obtain rfl:k=rows.length:=by omega
   refine z2z (A:=Fam rows.length (fb1 rows) (fb0 rows) rows.length) (B:=Fam rows.length (fb2 rows (gval rows fun _=>(none,0))) (fb1 rows) 0) atk (fun g h=>Fam.turn h) ?_
   repeat' (first|((with_reducible apply zde (n:=rows.length));exact ty_el;exact z03;rfl;rfl;rfl;rfl;rfl;(omega);intro bm;(refine apk ?_))|refine aw0 ?_|(refine ap2 ?_ ?_<;>try intro h)|refine aw1 ?_|(refine abx ?_;intro bb)|(refine abz ?_;intro bz)|(refine ahv ?_;intro v' hv')|(refine aac ?_;intro ac cc)|refine aw2 ?_|(refine ap4 ?_ ?_<;>try intro h)|apply True.intro)
   rw [← zi7 rows.length (gval rows fun _=>(none,0))]
   refine z04 (fun gm t H' => ∃ (k:Nat) (ga:Nat->Option Addr × Nat),gm=rows.length+1 - k/\(k<=rows.length)/\(∃ G,Takes [RowC 26 1 (.slice (some ⟨bm,0,none⟩) rows.length rows.length) rows.length (gsL rows.length k (gval rows ga)),Fam rows.length (fb2 rows (gval rows ga)) (fb1 rows) k] H' G)/\Sls t 193 [(0,v),(5,.slice (some ⟨bm,0,none⟩) rows.length rows.length),(6,.int .i64 k)]) _ ⟨0,fun _=>(none,0),rfl,Nat.zero_le _,⟨[],atks⟩,asls⟩ ?_
   rintro gm t H' ⟨k,ga,rfl,hk,⟨G,hp⟩,hs'⟩
   revert t;refine z06 ?_;iterate 190 intro uu'
   refine z01 hp ?_;clear hp
   generalize hgf:gval rows ga=gf
   have hgl:=zcd rows.length k gf
   by_cases hlt:k<rows.length
   · refine z3i (n:=rows.length) (A:=fb2 rows gf) (B:=fb1 rows) (k:=k) atk hlt ?_
     have hmem:rows.getD k default∈rows:=by simp [hlt]
     have hl1:=hl _ hmem
     refine z2z (A:=fb1 rows k) (B:=Two 5 1 (.slice (rows.getD k default).a (rows.getD k default).l.length (rows.getD k default).c) (rows.getD k default).l.length (u8s (mrow k (rows.getD k default).l.length)) (.slice (rows.getD k default).a (rows.getD k default).l.length (rows.getD k default).c) (rows.getD k default).l.length (u8s (mrow k (rows.getD k default).l.length))) atk (fun g h=>by rw [← zi6];exact Two.start h) ?_
     repeat' (first|refine aw0m ?_|(refine ap2 ?_ ?_<;>try intro h)|refine aw1m ?_|(refine abx ?_;intro bb)|(refine abz ?_;intro bz)|(refine ahv ?_;intro v' hv')|(refine aac ?_;intro ac cc)|refine aw2 ?_|(refine ap4 ?_ ?_<;>try intro h)|apply True.intro)
     refine z04 (fun gm t H' => ∃ (i:Nat) (a:Option Addr) (c:Nat),gm=65 - i/\(i<=64)/\(∃ G,Takes [Two 5 1 (.slice (rows.getD k default).a (rows.getD k default).l.length (rows.getD k default).c) (rows.getD k default).l.length (u8s (mrow k (rows.getD k default).l.length)) (.slice a ((rows.getD k default).l.length+i) c) ((rows.getD k default).l.length+i) (u8s (mrow k ((rows.getD k default).l.length+i))),RowC 26 1 (.slice (some ⟨bm,0,none⟩) rows.length rows.length) rows.length (gsL rows.length k gf),FamR rows.length (fb2 rows gf) (fb1 rows) k] H' G)/\Sls t 193 [(0,v),(5,.slice (some ⟨bm,0,none⟩) rows.length rows.length),(6,.int .i64 k),(7,.slice a ((rows.getD k default).l.length+i) c),(8,.int .i64 i)]) _ ⟨0,_,_,rfl,Nat.zero_le _,⟨[],atks⟩,asls⟩ ?_
     rintro gm t H' ⟨i,a,c,rfl,hi,⟨G,hp⟩,hs'⟩
     revert t;refine z06 ?_;iterate 188 intro uu'
     refine z01 hp ?_;clear hp
     by_cases hi2:i<64
     · repeat' (first|(refine acl Tryz.func51 ?_;refine acr (by rw [show (((rows.getD k default).l.length:Int)+(i:Nat))=(((rows.getD k default).l.length+i:Nat):Int) by omega];exact z1d _ k ((rows.getD k default).l.length+i)) ?_;rintro v' H' ⟨rfl,rfl⟩;refine apl ?_)|(first|((with_reducible apply z0t);exact ty_el;exact z03;rfl;rfl;rfl;intro bz;(refine apk ?_))|((with_reducible apply z0y);exact ty_el;exact z03;rfl;rfl;rfl;intro bz;(refine apk ?_)))|((with_reducible apply z0k [(bz,.cells [.int .u8 (markB k ((rows.getD k default).l.length+i)).toNat].toArray 5 (0,0))]);(exact atks);intro r' hl';(with_reducible apply z7j (q:=1) (news:=[.int .u8 (markB k ((rows.getD k default).l.length+i)).toNat]));exact ty_el;exact z03;rfl;rfl;rfl;rfl;exact (Sl.lit (n:=1) (Lent.h1 hl') rfl (by simp [maxLen]));(exact atk);rfl;(omega);(unfold maxLen;omega);(omega);intro a' c';(refine apk ?_))|refine aw0 ?_|(refine ap2 ?_ ?_<;>try intro h)|refine aw1 ?_|(refine abx ?_;intro bb)|(refine abz ?_;intro bz)|(refine ahv ?_;intro v' hv')|(refine aac ?_;intro ac cc)|refine aw2 ?_|(refine ap4 ?_ ?_<;>try intro h)|apply True.intro)
       exact ⟨_,by omega,i+1,a',c',rfl,by omega,⟨_,by simp only [pts,List.map_cons,List.map_nil,List.cons_append,List.nil_append];rw [← Nat.add_assoc,mrow8];(exact atks)⟩,asls⟩
     · obtain rfl:i=64:=by omega
       refine z2z (A:=FamR rows.length (fb2 rows gf) (fb1 rows) k) (B:=FamR rows.length (fb2 rows (turn gf k (.slice a ((rows.getD k default).l.length+64) c))) (fb1 rows) k) atk (fun g h=>by rw [← znn];exact h) ?_
       refine z5y (n:=rows.length) (A:=fb2 rows (turn gf k (.slice a ((rows.getD k default).l.length+64) c))) (B:=fb1 rows) (k:=k) (X:=Two 5 1 (.slice (rows.getD k default).a (rows.getD k default).l.length (rows.getD k default).c) (rows.getD k default).l.length (u8s (mrow k (rows.getD k default).l.length)) (.slice a ((rows.getD k default).l.length+64) c) ((rows.getD k default).l.length+64) (u8s (mrow k ((rows.getD k default).l.length+64)))) atk atk hlt (fun g h=>by rw [zsk];exact h) ?_
       repeat' (first|((with_reducible apply z7f);exact z08;rfl;rfl;(exact atk);rfl;(omega);(refine apk ?_))|refine aw0 ?_|(refine ap2 ?_ ?_<;>try intro h)|refine aw1 ?_|(refine abx ?_;intro bb)|(refine abz ?_;intro bz)|(refine ahv ?_;intro v' hv')|(refine aac ?_;intro ac cc)|refine aw2 ?_|(refine ap4 ?_ ?_<;>try intro h)|apply True.intro)
       exact ⟨_,by omega,k+1,turnA ga k (a,c),rfl,by omega,⟨_,by rw [zdt,hgf,← zl2,show ((k:Int).toNat*1)=k by simp];(exact atks)⟩,asls⟩
   · obtain rfl:k=rows.length:=by omega
     subst hgf
     have hGl:=zl3 rows ga
     have hGm : ∀ k,k<rows.length->((rowsG rows ga).getD k default).l=mrow k ((rows.getD k default).l.length+64):=fun k hk=>by rw [zi8 hk]
     rw [zno]
     refine z2z (A:=Fam rows.length (fb2 rows (gval rows ga)) (fb1 rows) rows.length) (B:=Fam rows.length (fb3 rows (rowsG rows ga)) (fb3 rows (rowsG rows ga)) 0) atk (fun g h=>by
      have:=Fam.turn (C:=fb2 rows (gval rows ga)) h
      unfold Fam at this ⊢
      rw [z2m (A':=fb2 rows (gval rows ga)) (B':=fb2 rows (gval rows ga)) (k':=0) fun j hj=>by simp [zsl hj]]
      exact this) ?_
     generalize rowsG rows ga=gs3 at hGl hGm
     repeat' (first|refine aw0m ?_|(refine ap2 ?_ ?_<;>try intro h)|refine aw1m ?_|(refine abx ?_;intro bb)|(refine abz ?_;intro bz)|(refine ahv ?_;intro v' hv')|(refine aac ?_;intro ac cc)|refine aw2 ?_|(refine ap4 ?_ ?_<;>try intro h)|apply True.intro)
     refine z04 (fun gm t H' => ∃ (k:Nat),gm=rows.length+1 - k/\(k<=rows.length)/\(∃ G,Takes [RowC 26 1 (.slice (some ⟨bm,0,none⟩) rows.length rows.length) rows.length (gs3.flatMap encS),Fam rows.length (fb3 rows gs3) (fb3 rows gs3) 0] H' G)/\Sls t 193 [(0,v),(5,.slice (some ⟨bm,0,none⟩) rows.length rows.length),(9,.int .i64 k)]) _ ⟨0,rfl,Nat.zero_le _,⟨[],atks⟩,asls⟩ ?_
     rintro gm t H' ⟨k,rfl,hk,⟨G,hp⟩,hs'⟩
     revert t;refine z06 ?_;iterate 190 intro uu'
     refine z01 hp ?_;clear hp
     by_cases hlt:k<rows.length
     · have hmem:rows.getD k default∈rows:=by simp [hlt]
       have hl1:=hl _ hmem
       have hx:=hGm k hlt
       have hxl:(gs3.getD k default).l.length=(rows.getD k default).l.length+64:=by rw [hx,z5k]
       have hm0:=z5k k (rows.getD k default).l.length
       refine z3p (A:=Fam rows.length (fb3 rows gs3) (fb3 rows gs3) 0) atk fun r1 g1 hr1 hg1 hA1=>?_
       refine z3p (A:=RowC 26 1 (.slice (some ⟨bm,0,none⟩) rows.length rows.length) rows.length (gs3.flatMap encS)) atk fun r2 g2 hr2 hg2 hA2=>?_
       obtain ⟨g3,hg3,hA3⟩:=Fam.get hlt hA1
       have hs1:Sl r2 1 (.slice (gs3.getD k default).a (gs3.getD k default).l.length (gs3.getD k default).c) (gs3.getD k default).l.length (u8s (gs3.getD k default).l):=(hA3.slu (hg3.trans hg1)).mono hr2
       have hs0:Sl r2 1 (.slice (rows.getD k default).a (rows.getD k default).l.length (rows.getD k default).c) (mrow k (rows.getD k default).l.length).length (u8s (mrow k (rows.getD k default).l.length)):=by rw [hm0];exact (hA3.slv (hg3.trans hg1)).mono hr2
       have hs2:Els r2 1 encS (.slice (some ⟨bm,0,none⟩) rows.length rows.length) gs3:=⟨fun _=>rfl,by rw [hGl];exact hA2.sl hg2⟩
       have hv2:=(hv.mono hr1).mono hr2
       clear hA1 hA2 hA3
       repeat' (first|refine aw0m ?_|(refine ap2 ?_ ?_<;>try intro h)|refine aw1m ?_|(refine abx ?_;intro bb)|(refine abz ?_;intro bz)|(refine ahv ?_;intro v' hv')|(refine aac ?_;intro ac cc)|refine aw2 ?_|(refine ap4 ?_ ?_<;>try intro h)|apply True.intro)
       refine z04 (fun gm t H' => ∃ i:Nat,gm=(rows.getD k default).l.length+65 - i/\(i<=(rows.getD k default).l.length+64)/\(∃ G,Takes [] H' G)/\Sls t 193 [(0,v),(5,.slice (some ⟨bm,0,none⟩) rows.length rows.length),(9,.int .i64 k),(10,.int .i64 i)]) _ ⟨0,rfl,Nat.zero_le _,⟨[],atks⟩,asls⟩ ?_
       rintro gm t H' ⟨i,rfl,hi,⟨G,hp⟩,hs'⟩
       revert t;refine z06 ?_;iterate 189 intro uu'
       refine z01 hp ?_;clear hp
       by_cases hi2:i<(rows.getD k default).l.length+64
       · have hge:(gs3.getD k default).l.getD i 0=markB k i:=by rw [hx];exact zcc hi2
         by_cases hi3:i<(rows.getD k default).l.length
         · have hge0:(mrow k (rows.getD k default).l.length).getD i 0=markB k i:=zcc hi3
           repeat' (first|refine aw0m ?_|(refine ap2 ?_ ?_<;>try intro h)|(first|((with_reducible apply z02 (id:=7) 8 [(0,true),(1,true),(2,true),(3,true),(4,true),(5,true),(6,true),(7,false)] [(8,false),(9,false)] []);kernel_rfl;(exact atks);kernel_rfl;intro r' hl')|((with_reducible apply z02 (id:=24) 35 [(0,true),(1,true),(2,true),(3,true),(4,true),(5,true),(6,true),(7,true),(8,true),(9,false),(10,true),(11,true),(12,true),(13,true),(14,true),(15,true),(16,true),(17,true),(18,true),(19,true),(20,true),(21,true),(22,true),(23,true),(24,true),(25,true),(26,true),(27,true),(28,true),(29,true),(30,false),(31,true),(32,true),(33,true),(34,true)] [] []);kernel_rfl;(exact atks);kernel_rfl;intro r' hl')|((with_reducible apply z02 (id:=41) 26 [(0,true),(1,true),(2,true),(3,true),(4,true),(5,true),(6,true),(7,true),(8,true),(9,false),(10,true),(11,true),(12,true),(13,true),(14,true),(15,true),(16,true),(17,true),(18,true),(19,true),(20,true),(21,true),(22,false),(23,true),(24,true),(25,true)] [] []);kernel_rfl;(exact atks);kernel_rfl;intro r' hl'))|(refine acl Tryz.func51 ?_;refine acr (z1d _ k i) ?_;rintro v' H' ⟨rfl,rfl⟩;refine apl ?_)|refine aw1m ?_|(refine abx ?_;intro bb)|(refine abz ?_;intro bz)|(refine ahv ?_;intro v' hv')|(refine aac ?_;intro ac cc)|refine aw2 ?_|(refine ap4 ?_ ?_<;>try intro h)|apply True.intro)
           all_goals first|(rw [hge] at h;exact absurd rfl h)|(rw [hge0] at h;exact absurd rfl h)|exact ⟨_,by omega,i+1,rfl,by omega,⟨_,atks⟩,asls⟩
         · repeat' (first|refine aw0m ?_|(refine ap2 ?_ ?_<;>try intro h)|(first|((with_reducible apply z02 (id:=7) 8 [(0,true),(1,true),(2,true),(3,true),(4,true),(5,true),(6,true),(7,false)] [(8,false),(9,false)] []);kernel_rfl;(exact atks);kernel_rfl;intro r' hl')|((with_reducible apply z02 (id:=24) 35 [(0,true),(1,true),(2,true),(3,true),(4,true),(5,true),(6,true),(7,true),(8,true),(9,false),(10,true),(11,true),(12,true),(13,true),(14,true),(15,true),(16,true),(17,true),(18,true),(19,true),(20,true),(21,true),(22,true),(23,true),(24,true),(25,true),(26,true),(27,true),(28,true),(29,true),(30,false),(31,true),(32,true),(33,true),(34,true)] [] []);kernel_rfl;(exact atks);kernel_rfl;intro r' hl')|((with_reducible apply z02 (id:=41) 26 [(0,true),(1,true),(2,true),(3,true),(4,true),(5,true),(6,true),(7,true),(8,true),(9,false),(10,true),(11,true),(12,true),(13,true),(14,true),(15,true),(16,true),(17,true),(18,true),(19,true),(20,true),(21,true),(22,false),(23,true),(24,true),(25,true)] [] []);kernel_rfl;(exact atks);kernel_rfl;intro r' hl'))|(refine acl Tryz.func51 ?_;refine acr (z1d _ k i) ?_;rintro v' H' ⟨rfl,rfl⟩;refine apl ?_)|refine aw1m ?_|(refine abx ?_;intro bb)|(refine abz ?_;intro bz)|(refine ahv ?_;intro v' hv')|(refine aac ?_;intro ac cc)|refine aw2 ?_|(refine ap4 ?_ ?_<;>try intro h)|apply True.intro)
           all_goals first|(rw [hge] at h;exact absurd rfl h)|exact ⟨_,by omega,i+1,rfl,by omega,⟨_,atks⟩,asls⟩
       · repeat' (first|refine aw0m ?_|(refine ap2 ?_ ?_<;>try intro h)|refine aw1m ?_|(refine abx ?_;intro bb)|(refine abz ?_;intro bz)|(refine ahv ?_;intro v' hv')|(refine aac ?_;intro ac cc)|refine aw2 ?_|(refine ap4 ?_ ?_<;>try intro h)|apply True.intro)
         exact ⟨_,by omega,k+1,rfl,by omega,⟨_,atks⟩,asls⟩
     · obtain rfl:k=rows.length:=by omega
       refine z2z (A:=Fam rows.length (fb3 rows gs3) (fb3 rows gs3) 0) (B:=Fam rows.length (fb4 rows (gval rows fun _=>(none,0))) (fb3 rows gs3) 0) atk (fun g h=>by unfold Fam at h ⊢;rw [z2m (A':=fb3 rows gs3) (B':=fb3 rows gs3) (k':=0) fun j _=>by simp];exact h) ?_
       rw [← znp (gval rows fun _=>(none,0)),hGl]
       repeat' (first|refine aw0m ?_|(refine ap2 ?_ ?_<;>try intro h)|refine aw1m ?_|(refine abx ?_;intro bb)|(refine abz ?_;intro bz)|(refine ahv ?_;intro v' hv')|(refine aac ?_;intro ac cc)|refine aw2 ?_|(refine ap4 ?_ ?_<;>try intro h)|apply True.intro)
       refine z04 (fun gm t H' => ∃ (k:Nat) (gb:Nat->Option Addr × Nat),gm=rows.length+1 - k/\(k<=rows.length)/\(∃ G,Takes [RowC 26 1 (.slice (some ⟨bm,0,none⟩) rows.length rows.length) rows.length (gsM rows.length k (gval rows gb) (oldV gs3)),Fam rows.length (fb4 rows (gval rows gb)) (fb3 rows gs3) k] H' G)/\Sls t 193 [(0,v),(5,.slice (some ⟨bm,0,none⟩) rows.length rows.length),(11,.int .i64 k)]) _ ⟨0,fun _=>(none,0),rfl,Nat.zero_le _,⟨[],atks⟩,asls⟩ ?_
       rintro gm t H' ⟨k,gb,rfl,hk,⟨G,hp⟩,hs'⟩
       revert t;refine z06 ?_;iterate 190 intro uu'
       refine z01 hp ?_;clear hp
       have hgl:=z7l rows.length k (gval rows gb) (oldV gs3)
       by_cases hlt:k<rows.length
       · refine z3i (n:=rows.length) (A:=fb4 rows (gval rows gb)) (B:=fb3 rows gs3) (k:=k) atk hlt ?_
         have hmem:rows.getD k default∈rows:=by simp [hlt]
         have hl1:=hl _ hmem
         refine z97 (A:=fb3 rows gs3 k) (B:=RowC 5 1 (.slice (rows.getD k default).a (rows.getD k default).l.length (rows.getD k default).c) (rows.getD k default).l.length (u8s (mrow k (rows.getD k default).l.length))) (C:=fun _=>True) atk (fun h hT=>by obtain ⟨x,y,d,e,hR⟩:=Two.first hT;exact ⟨x,y,d,e,hR,trivial⟩) ?_
         refine z2z (A:=RowC 5 1 (.slice (rows.getD k default).a (rows.getD k default).l.length (rows.getD k default).c) (rows.getD k default).l.length (u8s (mrow k (rows.getD k default).l.length))) (B:=Two 5 1 (.slice (rows.getD k default).a (rows.getD k default).l.length (rows.getD k default).c) (rows.getD k default).l.length (u8s (mrow k (rows.getD k default).l.length)) (.slice (rows.getD k default).a (rows.getD k default).l.length (rows.getD k default).c) (rows.getD k default).l.length (u8s (mrow k (rows.getD k default).l.length))) atk (fun g h=>Two.start h) ?_
         repeat' (first|((with_reducible apply zde (n:=64));exact ty_el;exact z03;rfl;rfl;rfl;rfl;rfl;(omega);intro bq;(refine apk ?_))|refine aw0 ?_|(refine ap2 ?_ ?_<;>try intro h)|refine aw1 ?_|(refine abx ?_;intro bb)|(refine abz ?_;intro bz)|(refine ahv ?_;intro v' hv')|(refine aac ?_;intro ac cc)|refine aw2 ?_|(refine ap4 ?_ ?_<;>try intro h)|apply True.intro)
         rw [show (List.replicate 64 (Value.int .u8 0))=half (k+rows.length) 0 (List.replicate 64 0) from rfl]
         refine z04 (fun gm t H' => ∃ i:Nat,gm=65 - i/\(i<=64)/\(∃ G,Takes [RowC 5 1 (.slice (some ⟨bq,0,none⟩) 64 64) 64 (half (k+rows.length) i (List.replicate 64 0)),Two 5 1 (.slice (rows.getD k default).a (rows.getD k default).l.length (rows.getD k default).c) (rows.getD k default).l.length (u8s (mrow k (rows.getD k default).l.length)) (.slice (rows.getD k default).a (rows.getD k default).l.length (rows.getD k default).c) (rows.getD k default).l.length (u8s (mrow k (rows.getD k default).l.length)),RowC 26 1 (.slice (some ⟨bm,0,none⟩) rows.length rows.length) rows.length (gsM rows.length k (gval rows gb) (oldV gs3)),FamR rows.length (fb4 rows (gval rows gb)) (fb3 rows gs3) k] H' G)/\Sls t 193 [(0,v),(5,.slice (some ⟨bm,0,none⟩) rows.length rows.length),(11,.int .i64 k),(12,.slice (some ⟨bq,0,none⟩) 64 64),(13,.int .i64 i)]) _ ⟨0,rfl,Nat.zero_le _,⟨_,by (exact atks)⟩,asls⟩ ?_
         rintro gm t H' ⟨i,rfl,hi,⟨G,hp⟩,hs'⟩
         revert t;refine z06 ?_;iterate 188 intro uu'
         refine z01 hp ?_;clear hp
         by_cases hi2:i<64
         · have hlen2:=zi5 (k:=k+rows.length) (i:=i) (l:=List.replicate 64 0) (by simp;omega)
           rw [List.length_replicate] at hlen2
           repeat' (first|(refine acl Tryz.func51 ?_;refine acr (by rw [show ((k:Int)+(rows.length:Nat))=((k+rows.length:Nat):Int) by omega];exact z1d _ (k+rows.length) i) ?_;rintro v' H' ⟨rfl,rfl⟩;refine apl ?_)|((with_reducible apply z7f);exact z08;rfl;rfl;(exact atk);rfl;(omega);(refine apk ?_))|refine aw0 ?_|(refine ap2 ?_ ?_<;>try intro h)|refine aw1 ?_|(refine abx ?_;intro bb)|(refine abz ?_;intro bz)|(refine ahv ?_;intro v' hv')|(refine aac ?_;intro ac cc)|refine aw2 ?_|(refine ap4 ?_ ?_<;>try intro h)|apply True.intro)
           exact ⟨_,by omega,i+1,rfl,by omega,⟨_,by rw [← zi4 (k:=k+rows.length) (i:=i) (l:=List.replicate 64 0) (by simp;omega),show ((i:Int).toNat*1)=i by simp];(exact atks)⟩,asls⟩
         · obtain rfl:i=64:=by omega
           rw [zsn]
           repeat' (first|((with_reducible apply z05 (A:=RowC 5 1 (.slice (some ⟨bq,0,none⟩) 64 64) 64 (u8s (mrow (k+rows.length) 64))));(exact atk);intro r1 g1 hr1 hg1 hA1;(with_reducible apply z7j (q:=64) (news:=u8s (mrow (k+rows.length) 64)));exact ty_el;exact z03;rfl;rfl;rfl;rfl;exact (hA1.sl hg1);(exact atk);exact (z1y _);(omega);(unfold maxLen;omega);(omega);intro a' c';(refine apk ?_))|((with_reducible apply zak (n:=rows.length) (A0:=fb4 rows (gval rows gb)) (A:=fb4 rows (turn (gval rows gb) k (.slice a' ((rows.getD k default).l.length+64) c'))) (B:=fb3 rows gs3) (k:=k) (X:=Two 5 1 (.slice (rows.getD k default).a (rows.getD k default).l.length (rows.getD k default).c) (rows.getD k default).l.length (u8s (mrow k (rows.getD k default).l.length)) (.slice a' ((rows.getD k default).l.length+64) c') ((rows.getD k default).l.length+64) (u8s (mrow k (rows.getD k default).l.length)++u8s (mrow (k+rows.length) 64))));(exact atk);(exact atk);exact hlt;exact znr;(intro g h;rw [zsm];exact h))|((with_reducible apply z7f);exact z08;rfl;rfl;(exact atk);rfl;(omega);(refine apk ?_))|refine aw0 ?_|(refine ap2 ?_ ?_<;>try intro h)|refine aw1 ?_|(refine abx ?_;intro bb)|(refine abz ?_;intro bz)|(refine ahv ?_;intro v' hv')|(refine aac ?_;intro ac cc)|refine aw2 ?_|(refine ap4 ?_ ?_<;>try intro h)|apply True.intro)
           exact ⟨_,by omega,k+1,turnA gb k (a',c'),rfl,by omega,⟨_,by rw [zdt,← zl4,show ((k:Int).toNat*1)=k by simp];(exact atks)⟩,asls⟩
       · obtain rfl:k=rows.length:=by omega
         have hGl5:=zjn rows gb
         have hGm5 : ∀ k,k<rows.length->((rowsG5 rows gb).getD k default).l=mrow5 rows.length k (rows.getD k default).l.length:=fun k hk=>by rw [zdu hk]
         rw [zl5]
         refine z2z (A:=Fam rows.length (fb4 rows (gval rows gb)) (fb3 rows gs3) rows.length) (B:=Fam rows.length (fb3 rows (rowsG5 rows gb)) (fb3 rows (rowsG5 rows gb)) 0) atk (fun g h=>by
          have:=Fam.turn (C:=fb4 rows (gval rows gb)) h
          unfold Fam at this ⊢
          rw [z2m (A':=fb4 rows (gval rows gb)) (B':=fb4 rows (gval rows gb)) (k':=0) fun j hj=>by simp [zqm hj]]
          exact this) ?_
         generalize rowsG5 rows gb=gs5 at hGl5 hGm5
         repeat' (first|refine aw0m ?_|(refine ap2 ?_ ?_<;>try intro h)|refine aw1m ?_|(refine abx ?_;intro bb)|(refine abz ?_;intro bz)|(refine ahv ?_;intro v' hv')|(refine aac ?_;intro ac cc)|refine aw2 ?_|(refine ap4 ?_ ?_<;>try intro h)|apply True.intro)
         refine z04 (fun gm t H' => ∃ (k:Nat),gm=rows.length+1 - k/\(k<=rows.length)/\(∃ G,Takes [RowC 26 1 (.slice (some ⟨bm,0,none⟩) rows.length rows.length) rows.length (gs5.flatMap encS),Fam rows.length (fb3 rows gs5) (fb3 rows gs5) 0] H' G)/\Sls t 193 [(0,v),(5,.slice (some ⟨bm,0,none⟩) rows.length rows.length),(14,.int .i64 k)]) _ ⟨0,rfl,Nat.zero_le _,⟨[],atks⟩,asls⟩ ?_
         rintro gm t H' ⟨k,rfl,hk,⟨G,hp⟩,hs'⟩
         revert t;refine z06 ?_;iterate 190 intro uu'
         refine z01 hp ?_;clear hp
         by_cases hlt:k<rows.length
         · have hmem:rows.getD k default∈rows:=by simp [hlt]
           have hl1:=hl _ hmem
           have hx:=hGm5 k hlt
           have hxl:(gs5.getD k default).l.length=(rows.getD k default).l.length+64:=by rw [hx,z9c]
           have hm0:=z5k k (rows.getD k default).l.length
           refine z3p (A:=Fam rows.length (fb3 rows gs5) (fb3 rows gs5) 0) atk fun r1 g1 hr1 hg1 hA1=>?_
           refine z3p (A:=RowC 26 1 (.slice (some ⟨bm,0,none⟩) rows.length rows.length) rows.length (gs5.flatMap encS)) atk fun r2 g2 hr2 hg2 hA2=>?_
           obtain ⟨g3,hg3,hA3⟩:=Fam.get hlt hA1
           have hs1:Sl r2 1 (.slice (gs5.getD k default).a (gs5.getD k default).l.length (gs5.getD k default).c) (gs5.getD k default).l.length (u8s (gs5.getD k default).l):=(hA3.slu (hg3.trans hg1)).mono hr2
           have hs0:Sl r2 1 (.slice (rows.getD k default).a (rows.getD k default).l.length (rows.getD k default).c) (mrow k (rows.getD k default).l.length).length (u8s (mrow k (rows.getD k default).l.length)):=by rw [hm0];exact (hA3.slv (hg3.trans hg1)).mono hr2
           have hs2:Els r2 1 encS (.slice (some ⟨bm,0,none⟩) rows.length rows.length) gs5:=⟨fun _=>rfl,by rw [hGl5];exact hA2.sl hg2⟩
           have hv2:=(hv.mono hr1).mono hr2
           clear hA1 hA2 hA3
           repeat' (first|refine aw0m ?_|(refine ap2 ?_ ?_<;>try intro h)|refine aw1m ?_|(refine abx ?_;intro bb)|(refine abz ?_;intro bz)|(refine ahv ?_;intro v' hv')|(refine aac ?_;intro ac cc)|refine aw2 ?_|(refine ap4 ?_ ?_<;>try intro h)|apply True.intro)
           refine z04 (fun gm t H' => ∃ i:Nat,gm=(rows.getD k default).l.length+1 - i/\(i<=(rows.getD k default).l.length)/\(∃ G,Takes [] H' G)/\Sls t 193 [(0,v),(5,.slice (some ⟨bm,0,none⟩) rows.length rows.length),(14,.int .i64 k),(15,.int .i64 i)]) _ ⟨0,rfl,Nat.zero_le _,⟨[],atks⟩,asls⟩ ?_
           rintro gm t H' ⟨i,rfl,hi,⟨G,hp⟩,hs'⟩
           revert t;refine z06 ?_;iterate 189 intro uu'
           refine z01 hp ?_;clear hp
           by_cases hi3:i<(rows.getD k default).l.length
           · have hge:(gs5.getD k default).l.getD i 0=markB k i:=by rw [hx];exact znq hi3
             have hge0:(mrow k (rows.getD k default).l.length).getD i 0=markB k i:=zcc hi3
             repeat' (first|refine aw0m ?_|(refine ap2 ?_ ?_<;>try intro h)|(first|((with_reducible apply z02 (id:=7) 8 [(0,true),(1,true),(2,true),(3,true),(4,true),(5,true),(6,true),(7,false)] [(8,false),(9,false)] []);kernel_rfl;(exact atks);kernel_rfl;intro r' hl')|((with_reducible apply z02 (id:=24) 35 [(0,true),(1,true),(2,true),(3,true),(4,true),(5,true),(6,true),(7,true),(8,true),(9,false),(10,true),(11,true),(12,true),(13,true),(14,true),(15,true),(16,true),(17,true),(18,true),(19,true),(20,true),(21,true),(22,true),(23,true),(24,true),(25,true),(26,true),(27,true),(28,true),(29,true),(30,false),(31,true),(32,true),(33,true),(34,true)] [] []);kernel_rfl;(exact atks);kernel_rfl;intro r' hl')|((with_reducible apply z02 (id:=41) 26 [(0,true),(1,true),(2,true),(3,true),(4,true),(5,true),(6,true),(7,true),(8,true),(9,false),(10,true),(11,true),(12,true),(13,true),(14,true),(15,true),(16,true),(17,true),(18,true),(19,true),(20,true),(21,true),(22,false),(23,true),(24,true),(25,true)] [] []);kernel_rfl;(exact atks);kernel_rfl;intro r' hl'))|(refine acl Tryz.func51 ?_;refine acr (z1d _ k i) ?_;rintro v' H' ⟨rfl,rfl⟩;refine apl ?_)|refine aw1m ?_|(refine abx ?_;intro bb)|(refine abz ?_;intro bz)|(refine ahv ?_;intro v' hv')|(refine aac ?_;intro ac cc)|refine aw2 ?_|(refine ap4 ?_ ?_<;>try intro h)|apply True.intro)
             all_goals first|(rw [hge] at h;exact absurd rfl h)|(rw [hge0] at h;exact absurd rfl h)|exact ⟨_,by omega,i+1,rfl,by omega,⟨_,atks⟩,asls⟩
           · repeat' (first|refine aw0m ?_|(refine ap2 ?_ ?_<;>try intro h)|refine aw1m ?_|(refine abx ?_;intro bb)|(refine abz ?_;intro bz)|(refine ahv ?_;intro v' hv')|(refine aac ?_;intro ac cc)|refine aw2 ?_|(refine ap4 ?_ ?_<;>try intro h)|apply True.intro)
             exact ⟨_,by omega,k+1,rfl,by omega,⟨_,atks⟩,asls⟩
         · repeat' (first|refine aw0m ?_|(refine ap2 ?_ ?_<;>try intro h)|refine aw1m ?_|(refine abx ?_;intro bb)|(refine abz ?_;intro bz)|(refine ahv ?_;intro v' hv')|(refine aac ?_;intro ac cc)|refine aw2 ?_|(refine ap4 ?_ ?_<;>try intro h)|apply True.intro)
           ((with_reducible apply z00);exact res_1 rfl rfl)
           exact HR.out _ _ _ [] atks ⟨rfl,rfl⟩
end Go.Proofs.YtohpeoakdgckfaaGreat
