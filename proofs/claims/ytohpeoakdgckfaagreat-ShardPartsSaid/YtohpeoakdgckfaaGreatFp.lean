/- mudlarkkit.flatPlaces: its contract. -/
import Derived.Test.YtohpeoakdgckfaaGreatFb
import Derived.Test.YtohpeoakdgckfaaGreatTw
import Derived.Test.YtohpeoakdgckfaaGreatLt
set_option maxHeartbeats 4000000
set_option maxRecDepth 10000
namespace Go.Proofs.YtohpeoakdgckfaaGreat
open Go.RowKit Sx
structure Rowpl where
 a:Option Addr
 c:Nat
 l:List PlaceV
instance:Inhabited Rowpl:=⟨⟨none,0,[]⟩⟩
def encRpl (x:Rowpl):List Value:=[.slice x.a x.l.length x.c]
def mrowpl (k m:Nat):List PlaceV:=(List.range m).map (markPl k)
theorem z1z (k m:Nat):(mrowpl k m).length=m:=by simp [mrowpl]
theorem z6v {k m i:Nat} (h:i<m):(mrowpl k m).getD i default=markPl k i:=by simp [mrowpl,h]
theorem z9q (k m:Nat):mrowpl k (m+1)=mrowpl k m++[markPl k m]:=by simp [mrowpl,List.range_succ]
theorem zk2 (k m:Nat):((mrowpl k m).flatMap encPl).all one?=true:=by
 rw [List.all_eq_true]
 intro v hv
 obtain ⟨p,hp1,hp⟩:=List.mem_flatMap.1 hv
 obtain ⟨i,_,rfl⟩:=List.mem_map.1 hp1
 simp only [encPl,List.mem_cons,List.not_mem_nil,or_false] at hp
 rcases hp with rfl|rfl<;>rfl
def halfpl (k i:Nat) (l:List PlaceV):List Value:=(mrowpl k i++l.drop i).flatMap encPl
theorem zb4 {k i:Nat} {l:List PlaceV} (h:i<=l.length):(halfpl k i l).length=l.length*2:=by
 unfold halfpl
 rw [z2b (sz:=2) (fun _=>rfl),List.length_append,z1z,List.length_drop]
 omega
theorem zb5 {k i:Nat} {l:List PlaceV} (h:i<l.length):(halfpl k i l).take (i*2)++(encPl (markPl k i)++(halfpl k i l).drop (i*2+2))=halfpl k (i+1) l:=by
 have e:((mrowpl k i).flatMap encPl).length=i*2:=by rw [z2b (sz:=2) (fun _=>rfl),z1z]
 have e1:halfpl k i l=(mrowpl k i).flatMap encPl++(encPl l[i]++(l.drop (i+1)).flatMap encPl):=by
  unfold halfpl
  rw [List.drop_eq_getElem_cons h,List.flatMap_append,List.flatMap_cons]
 have e2:halfpl k (i+1) l=(mrowpl k i).flatMap encPl++(encPl (markPl k i)++(l.drop (i+1)).flatMap encPl):=by
  unfold halfpl
  rw [z9q,List.append_assoc,List.flatMap_append,List.flatMap_append,List.flatMap_cons,List.flatMap_nil,List.append_nil]
 rw [e1,e2,← e,List.take_left,List.drop_append,List.drop_eq_nil_of_le (by omega),List.nil_append,show ((mrowpl k i).flatMap encPl).length+2 - ((mrowpl k i).flatMap encPl).length=(encPl l[i]).length by simp [encPl],List.drop_left]
theorem zb6 (k:Nat) (l:List PlaceV):halfpl k l.length l=(mrowpl k l.length).flatMap encPl:=by simp [halfpl]
theorem z8e (k:Nat) (l:List PlaceV):halfpl k 0 l=l.flatMap encPl:=by simp [halfpl,mrowpl]
abbrev fpl2 (rows:List Rowpl) (gf:Nat->Value) (j:Nat):Ch:=Two 149 2 (.slice (rows.getD j default).a (rows.getD j default).l.length (rows.getD j default).c) (rows.getD j default).l.length ((mrowpl j (rows.getD j default).l.length).flatMap encPl) (gf j) ((rows.getD j default).l.length+64) ((mrowpl j ((rows.getD j default).l.length+64)).flatMap encPl)
theorem zls {n:Nat} {rows:List Rowpl} {gf:Nat->Value} {B:Nat->Ch} {k:Nat} {g:Value}:FamR n (fpl2 rows gf) B k=FamR n (fpl2 rows (turn gf k g)) B k:=by
 unfold FamR
 rw [z4d (A':=fpl2 rows (turn gf k g)) (B':=B) (k':=k) fun j _ hj=>by
  have e:fpl2 rows (turn gf k g) j=fpl2 rows gf j:=by unfold fpl2;rw [show turn gf k g j=gf j from if_neg hj]
  rw [e]]
theorem zr6 {rows:List Rowpl} {gf:Nat->Value} {k:Nat} {g:Value}:fpl2 rows (turn gf k g) k=Two 149 2 (.slice (rows.getD k default).a (rows.getD k default).l.length (rows.getD k default).c) (rows.getD k default).l.length ((mrowpl k (rows.getD k default).l.length).flatMap encPl) g ((rows.getD k default).l.length+64) ((mrowpl k ((rows.getD k default).l.length+64)).flatMap encPl):=by
 unfold fpl2;rw [show turn gf k g k=g from if_pos rfl]
def gvalpl (rows:List Rowpl) (ga:Nat->Option Addr × Nat) (j:Nat):Value:= .slice (ga j).1 ((rows.getD j default).l.length+64) (ga j).2
theorem z9r (rows:List Rowpl) (ga:Nat->Option Addr × Nat) (k:Nat) (a:Option Addr) (c:Nat):gvalpl rows (turnA ga k (a,c))=turn (gvalpl rows ga) k (.slice a ((rows.getD k default).l.length+64) c):=by
 funext j
 by_cases h:j=k
 · subst h;simp [gvalpl,turnA,turn]
 · simp [gvalpl,turnA,turn,h]
def rowsGpl (rows:List Rowpl) (ga:Nat->Option Addr × Nat):List Rowpl:=(List.range rows.length).map fun j=>⟨(ga j).1,(ga j).2,mrowpl j ((rows.getD j default).l.length+64)⟩
theorem zgy (rows:List Rowpl) (ga:Nat->Option Addr × Nat):(rowsGpl rows ga).length=rows.length:=by simp [rowsGpl]
theorem zb7 {rows:List Rowpl} {ga:Nat->Option Addr × Nat} {k:Nat} (h:k<rows.length):(rowsGpl rows ga).getD k default=⟨(ga k).1,(ga k).2,mrowpl k ((rows.getD k default).l.length+64)⟩:=by simp [rowsGpl,h]
theorem zk3 (rows:List Rowpl) (ga:Nat->Option Addr × Nat):gsL rows.length rows.length (gvalpl rows ga)=(rowsGpl rows ga).flatMap encRpl:=by
 unfold rowsGpl gsL
 rw [List.flatMap_map]
 rw [List.map_eq_flatMap]
 unfold List.flatMap
 congr 1
 apply List.map_congr_left
 intro j hj
 have:=List.mem_range.1 hj
 simp only [encRpl,gvalpl,z1z,if_pos this]
abbrev fpl3 (rows G:List Rowpl) (j:Nat):Ch:=Two 149 2 (.slice (rows.getD j default).a (rows.getD j default).l.length (rows.getD j default).c) (rows.getD j default).l.length ((mrowpl j (rows.getD j default).l.length).flatMap encPl) (.slice (G.getD j default).a (G.getD j default).l.length (G.getD j default).c) (G.getD j default).l.length ((G.getD j default).l.flatMap encPl)
theorem zr7 {rows:List Rowpl} {ga:Nat->Option Addr × Nat} {j:Nat} (h:j<rows.length):fpl2 rows (gvalpl rows ga) j=fpl3 rows (rowsGpl rows ga) j:=by
 unfold fpl2 fpl3
 rw [zb7 h]
 simp only [gvalpl,z1z]
def oldVpl (G:List Rowpl) (j:Nat):Value:= .slice (G.getD j default).a (G.getD j default).l.length (G.getD j default).c
theorem zk4 {G:List Rowpl} (f:Nat->Value):gsM G.length 0 f (oldVpl G)=G.flatMap encRpl:=by
 apply List.ext_getElem?
 intro j
 have e:=z2b (sz:=1) (enc:=encRpl) (fun _=>rfl) G
 by_cases h:j<G.length
 · have h1:=z85 (sz:=1) (enc:=encRpl) (fun _=>rfl) G j h
   rw [Nat.mul_one] at h1
   have h2:(G.flatMap encRpl)[j]?=(encRpl G[j])[0]?:=by rw [← h1];simp []
   rw [h2]
   simp [gsM,oldVpl,h,encRpl]
 · rw [List.getElem?_eq_none (by rw [z7l];omega),List.getElem?_eq_none (by omega)]
def mrowpl5 (n j m:Nat):List PlaceV:=mrowpl j m++mrowpl (j+n) 64
theorem z69 (n j m:Nat):(mrowpl5 n j m).length=m+64:=by simp [mrowpl5,mrowpl]
theorem zk5 {n j m i:Nat} (h:i<m):(mrowpl5 n j m).getD i default=markPl j i:=by
 have:=z6v (k:=j) h
 unfold mrowpl5
 rw [List.getD_eq_getElem?_getD,List.getElem?_append_left (by rw [z1z];exact h),← List.getD_eq_getElem?_getD]
 exact this
abbrev fpl4 (rows:List Rowpl) (gf:Nat->Value) (j:Nat):Ch:=Two 149 2 (.slice (rows.getD j default).a (rows.getD j default).l.length (rows.getD j default).c) (rows.getD j default).l.length ((mrowpl j (rows.getD j default).l.length).flatMap encPl) (gf j) ((rows.getD j default).l.length+64) ((mrowpl5 rows.length j (rows.getD j default).l.length).flatMap encPl)
theorem zlt {n:Nat} {rows:List Rowpl} {gf:Nat->Value} {B:Nat->Ch} {k:Nat} {g:Value}:FamR n (fpl4 rows gf) B k=FamR n (fpl4 rows (turn gf k g)) B k:=by
 unfold FamR
 rw [z4d (A':=fpl4 rows (turn gf k g)) (B':=B) (k':=k) fun j _ hj=>by
  have e:fpl4 rows (turn gf k g) j=fpl4 rows gf j:=by unfold fpl4;rw [show turn gf k g j=gf j from if_neg hj]
  rw [e]]
theorem zr8 {rows:List Rowpl} {gf:Nat->Value} {k:Nat} {g:Value}:fpl4 rows (turn gf k g) k=Two 149 2 (.slice (rows.getD k default).a (rows.getD k default).l.length (rows.getD k default).c) (rows.getD k default).l.length ((mrowpl k (rows.getD k default).l.length).flatMap encPl) g ((rows.getD k default).l.length+64) ((mrowpl k (rows.getD k default).l.length).flatMap encPl++(mrowpl (k+rows.length) 64).flatMap encPl):=by
 unfold fpl4;rw [show turn gf k g k=g from if_pos rfl,mrowpl5,List.flatMap_append]
theorem zoi (k:Nat) (z:PlaceV):halfpl k 64 (List.replicate 64 z)=(mrowpl k 64).flatMap encPl:=by
 have:=zb6 k (List.replicate 64 z)
 rwa [List.length_replicate] at this
def rowsGpl5 (rows:List Rowpl) (ga:Nat->Option Addr × Nat):List Rowpl:=(List.range rows.length).map fun j=>⟨(ga j).1,(ga j).2,mrowpl5 rows.length j (rows.getD j default).l.length⟩
theorem zes (rows:List Rowpl) (ga:Nat->Option Addr × Nat):(rowsGpl5 rows ga).length=rows.length:=by simp [rowsGpl5]
theorem z9s {rows:List Rowpl} {ga:Nat->Option Addr × Nat} {k:Nat} (h:k<rows.length):(rowsGpl5 rows ga).getD k default=⟨(ga k).1,(ga k).2,mrowpl5 rows.length k (rows.getD k default).l.length⟩:=by simp [rowsGpl5,h]
theorem zgz (rows:List Rowpl) (ga:Nat->Option Addr × Nat) (g:Nat->Value):gsM rows.length rows.length (gvalpl rows ga) g=(rowsGpl5 rows ga).flatMap encRpl:=by
 unfold rowsGpl5 gsM
 rw [List.flatMap_map]
 rw [List.map_eq_flatMap]
 unfold List.flatMap
 congr 1
 apply List.map_congr_left
 intro j hj
 have:=List.mem_range.1 hj
 simp only [encRpl,gvalpl,z69,if_pos this]
theorem zoj {rows:List Rowpl} {ga:Nat->Option Addr × Nat} {j:Nat} (h:j<rows.length):fpl4 rows (gvalpl rows ga) j=fpl3 rows (rowsGpl5 rows ga) j:=by
 unfold fpl4 fpl3
 rw [z9s h]
 simp only [gvalpl,z69]
theorem zr9 (k m:Nat):(mrowpl k (m+1)).flatMap encPl=(mrowpl k m).flatMap encPl++[.int .i64 (0:Int),.int .i64 (markN k m:Nat)]:=by rw [z9q,List.flatMap_append];rfl
abbrev fpl0 (rows:List Rowpl) (j:Nat):Ch:=RowC 149 2 (.slice (rows.getD j default).a (rows.getD j default).l.length (rows.getD j default).c) (rows.getD j default).l.length (halfpl j 0 (rows.getD j default).l)
abbrev fpl1 (rows:List Rowpl) (j:Nat):Ch:=RowC 149 2 (.slice (rows.getD j default).a (rows.getD j default).l.length (rows.getD j default).c) (rows.getD j default).l.length (halfpl j (rows.getD j default).l.length (rows.getD j default).l)
theorem zra (k:Nat):(List.replicate 64 [.int .i64 0,.int .i64 0]).flatten=halfpl k 0 (List.replicate 64 (⟨0,0⟩:PlaceV)):=by rw [z8e];rfl
theorem zaq (r:Hp) (v:Value) (rows:List Rowpl) (hv:Els r 1 encRpl v rows) (hn:rows.length<=1000000) (hl : ∀ x∈rows,x.l.length<=100000000):Tri Tryz.prog r 112 [v] [Fam rows.length (fpl1 rows) (fpl0 rows) 0] fun w H=>w = .bool true/\H=[]:=by
 refine Tri.free2 fun R HR=>?_
 refine ae Tryz.func112 Tryz.ntmps112 ?_
 repeat' (first|refine aw0m ?_|(refine ap2 ?_ ?_<;>try intro h)|refine aw1m ?_|(refine abx ?_;intro bb)|(refine abz ?_;intro bz)|(refine ahv ?_;intro v' hv')|(refine aac ?_;intro ac cc)|refine aw2 ?_|(refine ap4 ?_ ?_<;>try intro h)|apply True.intro)
 refine z04 (fun gm t H' => ∃ k:Nat,gm=rows.length+1 - k/\(k<=rows.length)/\(∃ G,Takes [Fam rows.length (fpl1 rows) (fpl0 rows) k] H' G)/\Sls t 193 [(0,v),(3,.int .i64 k)]) _ ⟨0,rfl,Nat.zero_le _,⟨[],atks⟩,asls⟩ ?_
 rintro gm t H' ⟨k,rfl,hk,⟨G,hp⟩,hs'⟩
 revert t;refine z06 ?_;iterate 191 intro uu'
 refine z01 hp ?_;clear hp
 by_cases hlt:k<rows.length
 · refine z3i (n:=rows.length) (A:=fpl1 rows) (B:=fpl0 rows) (k:=k) atk hlt ?_
   have hmem:rows.getD k default∈rows:=by simp [hlt]
   have hl1:=hl _ hmem
   repeat' (first|refine aw0m ?_|(refine ap2 ?_ ?_<;>try intro h)|refine aw1m ?_|(refine abx ?_;intro bb)|(refine abz ?_;intro bz)|(refine ahv ?_;intro v' hv')|(refine aac ?_;intro ac cc)|refine aw2 ?_|(refine ap4 ?_ ?_<;>try intro h)|apply True.intro)
   refine z04 (fun gm t H' => ∃ i:Nat,gm=(rows.getD k default).l.length+1 - i/\(i<=(rows.getD k default).l.length)/\(∃ G,Takes [RowC 149 2 (.slice (rows.getD k default).a (rows.getD k default).l.length (rows.getD k default).c) (rows.getD k default).l.length (halfpl k i (rows.getD k default).l),FamR rows.length (fpl1 rows) (fpl0 rows) k] H' G)/\Sls t 193 [(0,v),(3,.int .i64 k),(4,.int .i64 i)]) _ ⟨0,rfl,Nat.zero_le _,⟨[],atks⟩,asls⟩ ?_
   rintro gm t H' ⟨i,rfl,hi,⟨G,hp⟩,hs'⟩
   revert t;refine z06 ?_;iterate 190 intro uu'
   refine z01 hp ?_;clear hp
   by_cases hi2:i<(rows.getD k default).l.length
   · have hlen2:=zb4 (k:=k) (Nat.le_of_lt hi2)
     repeat' (first|refine aw0m ?_|(refine ap2 ?_ ?_<;>try intro h)|(first|((with_reducible apply z02 (id:=7) 8 [(0,true),(1,true),(2,true),(3,true),(4,true),(5,true),(6,true),(7,false)] [(8,false),(9,false)] []);kernel_rfl;(exact atks);kernel_rfl;intro r' hl')|((with_reducible apply z02 (id:=24) 35 [(0,true),(1,true),(2,true),(3,true),(4,true),(5,true),(6,true),(7,true),(8,true),(9,false),(10,true),(11,true),(12,true),(13,true),(14,true),(15,true),(16,true),(17,true),(18,true),(19,true),(20,true),(21,true),(22,true),(23,true),(24,true),(25,true),(26,true),(27,true),(28,true),(29,true),(30,false),(31,true),(32,true),(33,true),(34,true)] [] []);kernel_rfl;(exact atks);kernel_rfl;intro r' hl')|((with_reducible apply z02 (id:=41) 26 [(0,true),(1,true),(2,true),(3,true),(4,true),(5,true),(6,true),(7,true),(8,true),(9,false),(10,true),(11,true),(12,true),(13,true),(14,true),(15,true),(16,true),(17,true),(18,true),(19,true),(20,true),(21,true),(22,false),(23,true),(24,true),(25,true)] [] []);kernel_rfl;(exact atks);kernel_rfl;intro r' hl'))|(refine acl Tryz.func166 ?_;refine acr (z1l _ k i) ?_;rintro v' H' ⟨rfl,rfl⟩;refine apl ?_)|((with_reducible apply zhw);exact z08;rfl;rfl;rfl;(exact atk);rfl;rfl;(omega);(refine apk ?_))|refine aw1m ?_|(refine abx ?_;intro bb)|(refine abz ?_;intro bz)|(refine ahv ?_;intro v' hv')|(refine aac ?_;intro ac cc)|refine aw2 ?_|(refine ap4 ?_ ?_<;>try intro h)|apply True.intro)
     exact ⟨_,by omega,i+1,rfl,by omega,⟨_,by rw [← zb5 hi2];(exact atks)⟩,asls⟩
   · obtain rfl:i=(rows.getD k default).l.length:=by omega
     refine z5y (n:=rows.length) (A:=fpl1 rows) (B:=fpl0 rows) (k:=k) (X:=fpl1 rows k) atk atk hlt (fun g h=>h) ?_
     repeat' (first|refine aw0m ?_|(refine ap2 ?_ ?_<;>try intro h)|refine aw1m ?_|(refine abx ?_;intro bb)|(refine abz ?_;intro bz)|(refine ahv ?_;intro v' hv')|(refine aac ?_;intro ac cc)|refine aw2 ?_|(refine ap4 ?_ ?_<;>try intro h)|apply True.intro)
     exact ⟨_,by omega,k+1,rfl,by omega,⟨_,atks⟩,asls⟩
 · obtain rfl:k=rows.length:=by omega
   refine z2z (A:=Fam rows.length (fpl1 rows) (fpl0 rows) rows.length) (B:=Fam rows.length (fpl2 rows (gvalpl rows fun _=>(none,0))) (fpl1 rows) 0) atk (fun g h=>Fam.turn h) ?_
   repeat' (first|((with_reducible apply zde (n:=rows.length));exact ty_el;exact z03;rfl;rfl;rfl;rfl;rfl;(omega);intro bm;(refine apk ?_))|refine aw0 ?_|(refine ap2 ?_ ?_<;>try intro h)|refine aw1 ?_|(refine abx ?_;intro bb)|(refine abz ?_;intro bz)|(refine ahv ?_;intro v' hv')|(refine aac ?_;intro ac cc)|refine aw2 ?_|(refine ap4 ?_ ?_<;>try intro h)|apply True.intro)
   rw [← zi7 rows.length (gvalpl rows fun _=>(none,0))]
   refine z04 (fun gm t H' => ∃ (k:Nat) (ga:Nat->Option Addr × Nat),gm=rows.length+1 - k/\(k<=rows.length)/\(∃ G,Takes [RowC 62 1 (.slice (some ⟨bm,0,none⟩) rows.length rows.length) rows.length (gsL rows.length k (gvalpl rows ga)),Fam rows.length (fpl2 rows (gvalpl rows ga)) (fpl1 rows) k] H' G)/\Sls t 193 [(0,v),(5,.slice (some ⟨bm,0,none⟩) rows.length rows.length),(6,.int .i64 k)]) _ ⟨0,fun _=>(none,0),rfl,Nat.zero_le _,⟨[],atks⟩,asls⟩ ?_
   rintro gm t H' ⟨k,ga,rfl,hk,⟨G,hp⟩,hs'⟩
   revert t;refine z06 ?_;iterate 190 intro uu'
   refine z01 hp ?_;clear hp
   generalize hgf:gvalpl rows ga=gf
   have hgl:=zcd rows.length k gf
   by_cases hlt:k<rows.length
   · refine z3i (n:=rows.length) (A:=fpl2 rows gf) (B:=fpl1 rows) (k:=k) atk hlt ?_
     have hmem:rows.getD k default∈rows:=by simp [hlt]
     have hl1:=hl _ hmem
     refine z2z (A:=fpl1 rows k) (B:=Two 149 2 (.slice (rows.getD k default).a (rows.getD k default).l.length (rows.getD k default).c) (rows.getD k default).l.length (((mrowpl k (rows.getD k default).l.length).flatMap encPl)) (.slice (rows.getD k default).a (rows.getD k default).l.length (rows.getD k default).c) (rows.getD k default).l.length (((mrowpl k (rows.getD k default).l.length).flatMap encPl))) atk (fun g h=>by rw [← zb6];exact Two.start h) ?_
     repeat' (first|refine aw0m ?_|(refine ap2 ?_ ?_<;>try intro h)|refine aw1m ?_|(refine abx ?_;intro bb)|(refine abz ?_;intro bz)|(refine ahv ?_;intro v' hv')|(refine aac ?_;intro ac cc)|refine aw2 ?_|(refine ap4 ?_ ?_<;>try intro h)|apply True.intro)
     refine z04 (fun gm t H' => ∃ (i:Nat) (a:Option Addr) (c:Nat),gm=65 - i/\(i<=64)/\(∃ G,Takes [Two 149 2 (.slice (rows.getD k default).a (rows.getD k default).l.length (rows.getD k default).c) (rows.getD k default).l.length (((mrowpl k (rows.getD k default).l.length).flatMap encPl)) (.slice a ((rows.getD k default).l.length+i) c) ((rows.getD k default).l.length+i) (((mrowpl k ((rows.getD k default).l.length+i)).flatMap encPl)),RowC 62 1 (.slice (some ⟨bm,0,none⟩) rows.length rows.length) rows.length (gsL rows.length k gf),FamR rows.length (fpl2 rows gf) (fpl1 rows) k] H' G)/\Sls t 193 [(0,v),(5,.slice (some ⟨bm,0,none⟩) rows.length rows.length),(6,.int .i64 k),(7,.slice a ((rows.getD k default).l.length+i) c),(8,.int .i64 i)]) _ ⟨0,_,_,rfl,Nat.zero_le _,⟨[],atks⟩,asls⟩ ?_
     rintro gm t H' ⟨i,a,c,rfl,hi,⟨G,hp⟩,hs'⟩
     revert t;refine z06 ?_;iterate 188 intro uu'
     refine z01 hp ?_;clear hp
     by_cases hi2:i<64
     · repeat' (first|(refine acl Tryz.func166 ?_;refine acr (by rw [show (((rows.getD k default).l.length:Int)+(i:Nat))=(((rows.getD k default).l.length+i:Nat):Int) by omega];exact z1l _ k ((rows.getD k default).l.length+i)) ?_;rintro v' H' ⟨rfl,rfl⟩;refine apl ?_)|(first|((with_reducible apply z0t);exact ty_el;exact z03;rfl;rfl;rfl;intro bz;(refine apk ?_))|((with_reducible apply z0y);exact ty_el;exact z03;rfl;rfl;rfl;intro bz;(refine apk ?_)))|((with_reducible apply z0k [(bz,.cells [.int .i64 (0:Int),.int .i64 (markN k ((rows.getD k default).l.length+i):Nat)].toArray 149 (0,0))]);(exact atks);intro r' hl';(with_reducible apply z7j (q:=1) (news:=[.int .i64 (0:Int),.int .i64 (markN k ((rows.getD k default).l.length+i):Nat)]));exact ty_el;exact z03;rfl;rfl;rfl;rfl;exact (Sl.lit (n:=1) (Lent.h1 hl') rfl (by simp [maxLen]));(exact atk);rfl;(omega);(unfold maxLen;omega);(omega);intro a' c';(refine apk ?_))|refine aw0 ?_|(refine ap2 ?_ ?_<;>try intro h)|refine aw1 ?_|(refine abx ?_;intro bb)|(refine abz ?_;intro bz)|(refine ahv ?_;intro v' hv')|(refine aac ?_;intro ac cc)|refine aw2 ?_|(refine ap4 ?_ ?_<;>try intro h)|apply True.intro)
       exact ⟨_,by omega,i+1,a',c',rfl,by omega,⟨_,by simp only [pts,List.map_cons,List.map_nil,List.cons_append,List.nil_append];rw [← Nat.add_assoc,zr9];(exact atks)⟩,asls⟩
     · obtain rfl:i=64:=by omega
       refine z2z (A:=FamR rows.length (fpl2 rows gf) (fpl1 rows) k) (B:=FamR rows.length (fpl2 rows (turn gf k (.slice a ((rows.getD k default).l.length+64) c))) (fpl1 rows) k) atk (fun g h=>by rw [← zls];exact h) ?_
       refine z5y (n:=rows.length) (A:=fpl2 rows (turn gf k (.slice a ((rows.getD k default).l.length+64) c))) (B:=fpl1 rows) (k:=k) (X:=Two 149 2 (.slice (rows.getD k default).a (rows.getD k default).l.length (rows.getD k default).c) (rows.getD k default).l.length (((mrowpl k (rows.getD k default).l.length).flatMap encPl)) (.slice a ((rows.getD k default).l.length+64) c) ((rows.getD k default).l.length+64) (((mrowpl k ((rows.getD k default).l.length+64)).flatMap encPl))) atk atk hlt (fun g h=>by rw [zr6];exact h) ?_
       repeat' (first|((with_reducible apply z7f);exact z08;rfl;rfl;(exact atk);rfl;(omega);(refine apk ?_))|refine aw0 ?_|(refine ap2 ?_ ?_<;>try intro h)|refine aw1 ?_|(refine abx ?_;intro bb)|(refine abz ?_;intro bz)|(refine ahv ?_;intro v' hv')|(refine aac ?_;intro ac cc)|refine aw2 ?_|(refine ap4 ?_ ?_<;>try intro h)|apply True.intro)
       exact ⟨_,by omega,k+1,turnA ga k (a,c),rfl,by omega,⟨_,by rw [z9r,hgf,← zl2,show ((k:Int).toNat*1)=k by simp];(exact atks)⟩,asls⟩
   · obtain rfl:k=rows.length:=by omega
     subst hgf
     have hGl:=zgy rows ga
     have hGm : ∀ k,k<rows.length->((rowsGpl rows ga).getD k default).l=mrowpl k ((rows.getD k default).l.length+64):=fun k hk=>by rw [zb7 hk]
     rw [zk3]
     refine z2z (A:=Fam rows.length (fpl2 rows (gvalpl rows ga)) (fpl1 rows) rows.length) (B:=Fam rows.length (fpl3 rows (rowsGpl rows ga)) (fpl3 rows (rowsGpl rows ga)) 0) atk (fun g h=>by
      have:=Fam.turn (C:=fpl2 rows (gvalpl rows ga)) h
      unfold Fam at this ⊢
      rw [z2m (A':=fpl2 rows (gvalpl rows ga)) (B':=fpl2 rows (gvalpl rows ga)) (k':=0) fun j hj=>by simp [zr7 hj]]
      exact this) ?_
     generalize rowsGpl rows ga=gs3 at hGl hGm
     repeat' (first|refine aw0m ?_|(refine ap2 ?_ ?_<;>try intro h)|refine aw1m ?_|(refine abx ?_;intro bb)|(refine abz ?_;intro bz)|(refine ahv ?_;intro v' hv')|(refine aac ?_;intro ac cc)|refine aw2 ?_|(refine ap4 ?_ ?_<;>try intro h)|apply True.intro)
     refine z04 (fun gm t H' => ∃ (k:Nat),gm=rows.length+1 - k/\(k<=rows.length)/\(∃ G,Takes [RowC 62 1 (.slice (some ⟨bm,0,none⟩) rows.length rows.length) rows.length (gs3.flatMap encRpl),Fam rows.length (fpl3 rows gs3) (fpl3 rows gs3) 0] H' G)/\Sls t 193 [(0,v),(5,.slice (some ⟨bm,0,none⟩) rows.length rows.length),(9,.int .i64 k)]) _ ⟨0,rfl,Nat.zero_le _,⟨[],atks⟩,asls⟩ ?_
     rintro gm t H' ⟨k,rfl,hk,⟨G,hp⟩,hs'⟩
     revert t;refine z06 ?_;iterate 190 intro uu'
     refine z01 hp ?_;clear hp
     by_cases hlt:k<rows.length
     · have hmem:rows.getD k default∈rows:=by simp [hlt]
       have hl1:=hl _ hmem
       have hx:=hGm k hlt
       have hxl:(gs3.getD k default).l.length=(rows.getD k default).l.length+64:=by rw [hx,z1z]
       have hm0:=z1z k (rows.getD k default).l.length
       refine z3p (A:=Fam rows.length (fpl3 rows gs3) (fpl3 rows gs3) 0) atk fun r1 g1 hr1 hg1 hA1=>?_
       refine z3p (A:=RowC 62 1 (.slice (some ⟨bm,0,none⟩) rows.length rows.length) rows.length (gs3.flatMap encRpl)) atk fun r2 g2 hr2 hg2 hA2=>?_
       obtain ⟨g3,hg3,hA3⟩:=Fam.get hlt hA1
       have hs1:Els r2 2 encPl (.slice (gs3.getD k default).a (gs3.getD k default).l.length (gs3.getD k default).c) (gs3.getD k default).l:=⟨fun _=>rfl,(hA3.slu (hg3.trans hg1)).mono hr2⟩
       have hs0:Els r2 2 encPl (.slice (rows.getD k default).a (rows.getD k default).l.length (rows.getD k default).c) (mrowpl k (rows.getD k default).l.length):=⟨fun _=>rfl,by rw [hm0];exact (hA3.slv (hg3.trans hg1)).mono hr2⟩
       have hs2:Els r2 1 encRpl (.slice (some ⟨bm,0,none⟩) rows.length rows.length) gs3:=⟨fun _=>rfl,by rw [hGl];exact hA2.sl hg2⟩
       have hv2:=(hv.mono hr1).mono hr2
       clear hA1 hA2 hA3
       repeat' (first|refine aw0m ?_|(refine ap2 ?_ ?_<;>try intro h)|refine aw1m ?_|(refine abx ?_;intro bb)|(refine abz ?_;intro bz)|(refine ahv ?_;intro v' hv')|(refine aac ?_;intro ac cc)|refine aw2 ?_|(refine ap4 ?_ ?_<;>try intro h)|apply True.intro)
       refine z04 (fun gm t H' => ∃ i:Nat,gm=(rows.getD k default).l.length+65 - i/\(i<=(rows.getD k default).l.length+64)/\(∃ G,Takes [] H' G)/\Sls t 193 [(0,v),(5,.slice (some ⟨bm,0,none⟩) rows.length rows.length),(9,.int .i64 k),(10,.int .i64 i)]) _ ⟨0,rfl,Nat.zero_le _,⟨[],atks⟩,asls⟩ ?_
       rintro gm t H' ⟨i,rfl,hi,⟨G,hp⟩,hs'⟩
       revert t;refine z06 ?_;iterate 189 intro uu'
       refine z01 hp ?_;clear hp
       by_cases hi2:i<(rows.getD k default).l.length+64
       · have hge:(gs3.getD k default).l.getD i default=markPl k i:=by rw [hx];exact z6v hi2
         by_cases hi3:i<(rows.getD k default).l.length
         · have hge0:(mrowpl k (rows.getD k default).l.length).getD i default=markPl k i:=z6v hi3
           repeat' (first|(first|((with_reducible apply z02 (id:=7) 8 [(0,true),(1,true),(2,true),(3,true),(4,true),(5,true),(6,true),(7,false)] [(8,false),(9,false)] []);kernel_rfl;(exact atks);kernel_rfl;intro r' hl')|((with_reducible apply z02 (id:=24) 35 [(0,true),(1,true),(2,true),(3,true),(4,true),(5,true),(6,true),(7,true),(8,true),(9,false),(10,true),(11,true),(12,true),(13,true),(14,true),(15,true),(16,true),(17,true),(18,true),(19,true),(20,true),(21,true),(22,true),(23,true),(24,true),(25,true),(26,true),(27,true),(28,true),(29,true),(30,false),(31,true),(32,true),(33,true),(34,true)] [] []);kernel_rfl;(exact atks);kernel_rfl;intro r' hl')|((with_reducible apply z02 (id:=41) 26 [(0,true),(1,true),(2,true),(3,true),(4,true),(5,true),(6,true),(7,true),(8,true),(9,false),(10,true),(11,true),(12,true),(13,true),(14,true),(15,true),(16,true),(17,true),(18,true),(19,true),(20,true),(21,true),(22,false),(23,true),(24,true),(25,true)] [] []);kernel_rfl;(exact atks);kernel_rfl;intro r' hl'))|(rw [hge,show encPl (markPl k i)=[.int .i64 (0:Int),.int .i64 (markN k i:Nat)] from rfl])|(rw [hge0,show encPl (markPl k i)=[.int .i64 (0:Int),.int .i64 (markN k i:Nat)] from rfl])|(refine acl Tryz.func166 ?_;refine acr (z1l _ k i) ?_;rintro v' H' ⟨rfl,rfl⟩;refine apl ?_)|exact xf|refine aw0 ?_|(refine ap2 ?_ ?_<;>try intro h)|refine aw1 ?_|(refine abx ?_;intro bb)|(refine abz ?_;intro bz)|(refine ahv ?_;intro v' hv')|(refine aac ?_;intro ac cc)|refine aw2 ?_|(refine ap4 ?_ ?_<;>try intro h)|apply True.intro)
           all_goals first|(rw [hge] at h;exact absurd rfl h)|(rw [hge0] at h;exact absurd rfl h)|exact ⟨_,by omega,i+1,rfl,by omega,⟨_,atks⟩,asls⟩
         · repeat' (first|(first|((with_reducible apply z02 (id:=7) 8 [(0,true),(1,true),(2,true),(3,true),(4,true),(5,true),(6,true),(7,false)] [(8,false),(9,false)] []);kernel_rfl;(exact atks);kernel_rfl;intro r' hl')|((with_reducible apply z02 (id:=24) 35 [(0,true),(1,true),(2,true),(3,true),(4,true),(5,true),(6,true),(7,true),(8,true),(9,false),(10,true),(11,true),(12,true),(13,true),(14,true),(15,true),(16,true),(17,true),(18,true),(19,true),(20,true),(21,true),(22,true),(23,true),(24,true),(25,true),(26,true),(27,true),(28,true),(29,true),(30,false),(31,true),(32,true),(33,true),(34,true)] [] []);kernel_rfl;(exact atks);kernel_rfl;intro r' hl')|((with_reducible apply z02 (id:=41) 26 [(0,true),(1,true),(2,true),(3,true),(4,true),(5,true),(6,true),(7,true),(8,true),(9,false),(10,true),(11,true),(12,true),(13,true),(14,true),(15,true),(16,true),(17,true),(18,true),(19,true),(20,true),(21,true),(22,false),(23,true),(24,true),(25,true)] [] []);kernel_rfl;(exact atks);kernel_rfl;intro r' hl'))|(rw [hge,show encPl (markPl k i)=[.int .i64 (0:Int),.int .i64 (markN k i:Nat)] from rfl])|(rw [hge0,show encPl (markPl k i)=[.int .i64 (0:Int),.int .i64 (markN k i:Nat)] from rfl])|(refine acl Tryz.func166 ?_;refine acr (z1l _ k i) ?_;rintro v' H' ⟨rfl,rfl⟩;refine apl ?_)|exact xf|refine aw0 ?_|(refine ap2 ?_ ?_<;>try intro h)|refine aw1 ?_|(refine abx ?_;intro bb)|(refine abz ?_;intro bz)|(refine ahv ?_;intro v' hv')|(refine aac ?_;intro ac cc)|refine aw2 ?_|(refine ap4 ?_ ?_<;>try intro h)|apply True.intro)
           all_goals first|(rw [hge] at h;exact absurd rfl h)|exact ⟨_,by omega,i+1,rfl,by omega,⟨_,atks⟩,asls⟩
       · repeat' (first|refine aw0m ?_|(refine ap2 ?_ ?_<;>try intro h)|refine aw1m ?_|(refine abx ?_;intro bb)|(refine abz ?_;intro bz)|(refine ahv ?_;intro v' hv')|(refine aac ?_;intro ac cc)|refine aw2 ?_|(refine ap4 ?_ ?_<;>try intro h)|apply True.intro)
         exact ⟨_,by omega,k+1,rfl,by omega,⟨_,atks⟩,asls⟩
     · obtain rfl:k=rows.length:=by omega
       refine z2z (A:=Fam rows.length (fpl3 rows gs3) (fpl3 rows gs3) 0) (B:=Fam rows.length (fpl4 rows (gvalpl rows fun _=>(none,0))) (fpl3 rows gs3) 0) atk (fun g h=>by unfold Fam at h ⊢;rw [z2m (A':=fpl3 rows gs3) (B':=fpl3 rows gs3) (k':=0) fun j _=>by simp];exact h) ?_
       rw [← zk4 (gvalpl rows fun _=>(none,0)),hGl]
       repeat' (first|refine aw0m ?_|(refine ap2 ?_ ?_<;>try intro h)|refine aw1m ?_|(refine abx ?_;intro bb)|(refine abz ?_;intro bz)|(refine ahv ?_;intro v' hv')|(refine aac ?_;intro ac cc)|refine aw2 ?_|(refine ap4 ?_ ?_<;>try intro h)|apply True.intro)
       refine z04 (fun gm t H' => ∃ (k:Nat) (gb:Nat->Option Addr × Nat),gm=rows.length+1 - k/\(k<=rows.length)/\(∃ G,Takes [RowC 62 1 (.slice (some ⟨bm,0,none⟩) rows.length rows.length) rows.length (gsM rows.length k (gvalpl rows gb) (oldVpl gs3)),Fam rows.length (fpl4 rows (gvalpl rows gb)) (fpl3 rows gs3) k] H' G)/\Sls t 193 [(0,v),(5,.slice (some ⟨bm,0,none⟩) rows.length rows.length),(11,.int .i64 k)]) _ ⟨0,fun _=>(none,0),rfl,Nat.zero_le _,⟨[],atks⟩,asls⟩ ?_
       rintro gm t H' ⟨k,gb,rfl,hk,⟨G,hp⟩,hs'⟩
       revert t;refine z06 ?_;iterate 190 intro uu'
       refine z01 hp ?_;clear hp
       have hgl:=z7l rows.length k (gvalpl rows gb) (oldVpl gs3)
       by_cases hlt:k<rows.length
       · refine z3i (n:=rows.length) (A:=fpl4 rows (gvalpl rows gb)) (B:=fpl3 rows gs3) (k:=k) atk hlt ?_
         have hmem:rows.getD k default∈rows:=by simp [hlt]
         have hl1:=hl _ hmem
         refine z97 (A:=fpl3 rows gs3 k) (B:=RowC 149 2 (.slice (rows.getD k default).a (rows.getD k default).l.length (rows.getD k default).c) (rows.getD k default).l.length (((mrowpl k (rows.getD k default).l.length).flatMap encPl))) (C:=fun _=>True) atk (fun h hT=>by obtain ⟨x,y,d,e,hR⟩:=Two.first hT;exact ⟨x,y,d,e,hR,trivial⟩) ?_
         refine z2z (A:=RowC 149 2 (.slice (rows.getD k default).a (rows.getD k default).l.length (rows.getD k default).c) (rows.getD k default).l.length (((mrowpl k (rows.getD k default).l.length).flatMap encPl))) (B:=Two 149 2 (.slice (rows.getD k default).a (rows.getD k default).l.length (rows.getD k default).c) (rows.getD k default).l.length (((mrowpl k (rows.getD k default).l.length).flatMap encPl)) (.slice (rows.getD k default).a (rows.getD k default).l.length (rows.getD k default).c) (rows.getD k default).l.length (((mrowpl k (rows.getD k default).l.length).flatMap encPl))) atk (fun g h=>Two.start h) ?_
         repeat' (first|((with_reducible apply znd (n:=64) (zs:=[.int .i64 0,.int .i64 0]));exact ty_el;exact z03;rfl;rfl;rfl;rfl;rfl;rfl;(omega);intro bq;(refine apk ?_))|refine aw0 ?_|(refine ap2 ?_ ?_<;>try intro h)|refine aw1 ?_|(refine abx ?_;intro bb)|(refine abz ?_;intro bz)|(refine ahv ?_;intro v' hv')|(refine aac ?_;intro ac cc)|refine aw2 ?_|(refine ap4 ?_ ?_<;>try intro h)|apply True.intro)
         rw [zra (k+rows.length)]
         refine z04 (fun gm t H' => ∃ i:Nat,gm=65 - i/\(i<=64)/\(∃ G,Takes [RowC 149 2 (.slice (some ⟨bq,0,none⟩) 64 64) 64 (halfpl (k+rows.length) i (List.replicate 64 (⟨0,0⟩:PlaceV))),Two 149 2 (.slice (rows.getD k default).a (rows.getD k default).l.length (rows.getD k default).c) (rows.getD k default).l.length (((mrowpl k (rows.getD k default).l.length).flatMap encPl)) (.slice (rows.getD k default).a (rows.getD k default).l.length (rows.getD k default).c) (rows.getD k default).l.length (((mrowpl k (rows.getD k default).l.length).flatMap encPl)),RowC 62 1 (.slice (some ⟨bm,0,none⟩) rows.length rows.length) rows.length (gsM rows.length k (gvalpl rows gb) (oldVpl gs3)),FamR rows.length (fpl4 rows (gvalpl rows gb)) (fpl3 rows gs3) k] H' G)/\Sls t 193 [(0,v),(5,.slice (some ⟨bm,0,none⟩) rows.length rows.length),(11,.int .i64 k),(12,.slice (some ⟨bq,0,none⟩) 64 64),(13,.int .i64 i)]) _ ⟨0,rfl,Nat.zero_le _,⟨_,by (exact atks)⟩,asls⟩ ?_
         rintro gm t H' ⟨i,rfl,hi,⟨G,hp⟩,hs'⟩
         revert t;refine z06 ?_;iterate 188 intro uu'
         refine z01 hp ?_;clear hp
         by_cases hi2:i<64
         · have hlen2:=zb4 (k:=k+rows.length) (i:=i) (l:=List.replicate 64 (⟨0,0⟩:PlaceV)) (by simp;omega)
           rw [List.length_replicate] at hlen2
           repeat' (first|(refine acl Tryz.func166 ?_;refine acr (by rw [show ((k:Int)+(rows.length:Nat))=((k+rows.length:Nat):Int) by omega];exact z1l _ (k+rows.length) i) ?_;rintro v' H' ⟨rfl,rfl⟩;refine apl ?_)|((with_reducible apply zhw);exact z08;rfl;rfl;rfl;(exact atk);rfl;rfl;(omega);(refine apk ?_))|refine aw0 ?_|(refine ap2 ?_ ?_<;>try intro h)|refine aw1 ?_|(refine abx ?_;intro bb)|(refine abz ?_;intro bz)|(refine ahv ?_;intro v' hv')|(refine aac ?_;intro ac cc)|refine aw2 ?_|(refine ap4 ?_ ?_<;>try intro h)|apply True.intro)
           exact ⟨_,by omega,i+1,rfl,by omega,⟨_,by rw [← zb5 (k:=k+rows.length) (i:=i) (l:=List.replicate 64 (⟨0,0⟩:PlaceV)) (by simp;omega)];(exact atks)⟩,asls⟩
         · obtain rfl:i=64:=by omega
           rw [zoi]
           repeat' (first|((with_reducible apply z05 (A:=RowC 149 2 (.slice (some ⟨bq,0,none⟩) 64 64) 64 (((mrowpl (k+rows.length) 64).flatMap encPl))));(exact atk);intro r1 g1 hr1 hg1 hA1;(with_reducible apply z7j (q:=64) (news:=((mrowpl (k+rows.length) 64).flatMap encPl)));exact ty_el;exact z03;rfl;rfl;rfl;rfl;exact (hA1.sl hg1);(exact atk);exact (zk2 _ _);(omega);(unfold maxLen;omega);(omega);intro a' c';(refine apk ?_))|((with_reducible apply zak (n:=rows.length) (A0:=fpl4 rows (gvalpl rows gb)) (A:=fpl4 rows (turn (gvalpl rows gb) k (.slice a' ((rows.getD k default).l.length+64) c'))) (B:=fpl3 rows gs3) (k:=k) (X:=Two 149 2 (.slice (rows.getD k default).a (rows.getD k default).l.length (rows.getD k default).c) (rows.getD k default).l.length (((mrowpl k (rows.getD k default).l.length).flatMap encPl)) (.slice a' ((rows.getD k default).l.length+64) c') ((rows.getD k default).l.length+64) (((mrowpl k (rows.getD k default).l.length).flatMap encPl)++((mrowpl (k+rows.length) 64).flatMap encPl))));(exact atk);(exact atk);exact hlt;exact zlt;(intro g h;rw [zr8];exact h))|((with_reducible apply z7f);exact z08;rfl;rfl;(exact atk);rfl;(omega);(refine apk ?_))|refine aw0 ?_|(refine ap2 ?_ ?_<;>try intro h)|refine aw1 ?_|(refine abx ?_;intro bb)|(refine abz ?_;intro bz)|(refine ahv ?_;intro v' hv')|(refine aac ?_;intro ac cc)|refine aw2 ?_|(refine ap4 ?_ ?_<;>try intro h)|apply True.intro)
           exact ⟨_,by omega,k+1,turnA gb k (a',c'),rfl,by omega,⟨_,by rw [z9r,← zl4,show ((k:Int).toNat*1)=k by simp];(exact atks)⟩,asls⟩
       · obtain rfl:k=rows.length:=by omega
         have hGl5:=zes rows gb
         have hGm5 : ∀ k,k<rows.length->((rowsGpl5 rows gb).getD k default).l=mrowpl5 rows.length k (rows.getD k default).l.length:=fun k hk=>by rw [z9s hk]
         rw [zgz]
         refine z2z (A:=Fam rows.length (fpl4 rows (gvalpl rows gb)) (fpl3 rows gs3) rows.length) (B:=Fam rows.length (fpl3 rows (rowsGpl5 rows gb)) (fpl3 rows (rowsGpl5 rows gb)) 0) atk (fun g h=>by
          have:=Fam.turn (C:=fpl4 rows (gvalpl rows gb)) h
          unfold Fam at this ⊢
          rw [z2m (A':=fpl4 rows (gvalpl rows gb)) (B':=fpl4 rows (gvalpl rows gb)) (k':=0) fun j hj=>by simp [zoj hj]]
          exact this) ?_
         generalize rowsGpl5 rows gb=gs5 at hGl5 hGm5
         repeat' (first|refine aw0m ?_|(refine ap2 ?_ ?_<;>try intro h)|refine aw1m ?_|(refine abx ?_;intro bb)|(refine abz ?_;intro bz)|(refine ahv ?_;intro v' hv')|(refine aac ?_;intro ac cc)|refine aw2 ?_|(refine ap4 ?_ ?_<;>try intro h)|apply True.intro)
         refine z04 (fun gm t H' => ∃ (k:Nat),gm=rows.length+1 - k/\(k<=rows.length)/\(∃ G,Takes [RowC 62 1 (.slice (some ⟨bm,0,none⟩) rows.length rows.length) rows.length (gs5.flatMap encRpl),Fam rows.length (fpl3 rows gs5) (fpl3 rows gs5) 0] H' G)/\Sls t 193 [(0,v),(5,.slice (some ⟨bm,0,none⟩) rows.length rows.length),(14,.int .i64 k)]) _ ⟨0,rfl,Nat.zero_le _,⟨[],atks⟩,asls⟩ ?_
         rintro gm t H' ⟨k,rfl,hk,⟨G,hp⟩,hs'⟩
         revert t;refine z06 ?_;iterate 190 intro uu'
         refine z01 hp ?_;clear hp
         by_cases hlt:k<rows.length
         · have hmem:rows.getD k default∈rows:=by simp [hlt]
           have hl1:=hl _ hmem
           have hx:=hGm5 k hlt
           have hxl:(gs5.getD k default).l.length=(rows.getD k default).l.length+64:=by rw [hx,z69]
           have hm0:=z1z k (rows.getD k default).l.length
           refine z3p (A:=Fam rows.length (fpl3 rows gs5) (fpl3 rows gs5) 0) atk fun r1 g1 hr1 hg1 hA1=>?_
           refine z3p (A:=RowC 62 1 (.slice (some ⟨bm,0,none⟩) rows.length rows.length) rows.length (gs5.flatMap encRpl)) atk fun r2 g2 hr2 hg2 hA2=>?_
           obtain ⟨g3,hg3,hA3⟩:=Fam.get hlt hA1
           have hs1:Els r2 2 encPl (.slice (gs5.getD k default).a (gs5.getD k default).l.length (gs5.getD k default).c) (gs5.getD k default).l:=⟨fun _=>rfl,(hA3.slu (hg3.trans hg1)).mono hr2⟩
           have hs0:Els r2 2 encPl (.slice (rows.getD k default).a (rows.getD k default).l.length (rows.getD k default).c) (mrowpl k (rows.getD k default).l.length):=⟨fun _=>rfl,by rw [hm0];exact (hA3.slv (hg3.trans hg1)).mono hr2⟩
           have hs2:Els r2 1 encRpl (.slice (some ⟨bm,0,none⟩) rows.length rows.length) gs5:=⟨fun _=>rfl,by rw [hGl5];exact hA2.sl hg2⟩
           have hv2:=(hv.mono hr1).mono hr2
           clear hA1 hA2 hA3
           repeat' (first|refine aw0m ?_|(refine ap2 ?_ ?_<;>try intro h)|refine aw1m ?_|(refine abx ?_;intro bb)|(refine abz ?_;intro bz)|(refine ahv ?_;intro v' hv')|(refine aac ?_;intro ac cc)|refine aw2 ?_|(refine ap4 ?_ ?_<;>try intro h)|apply True.intro)
           refine z04 (fun gm t H' => ∃ i:Nat,gm=(rows.getD k default).l.length+1 - i/\(i<=(rows.getD k default).l.length)/\(∃ G,Takes [] H' G)/\Sls t 193 [(0,v),(5,.slice (some ⟨bm,0,none⟩) rows.length rows.length),(14,.int .i64 k),(15,.int .i64 i)]) _ ⟨0,rfl,Nat.zero_le _,⟨[],atks⟩,asls⟩ ?_
           rintro gm t H' ⟨i,rfl,hi,⟨G,hp⟩,hs'⟩
           revert t;refine z06 ?_;iterate 189 intro uu'
           refine z01 hp ?_;clear hp
           by_cases hi3:i<(rows.getD k default).l.length
           · have hge:(gs5.getD k default).l.getD i default=markPl k i:=by rw [hx];exact zk5 hi3
             have hge0:(mrowpl k (rows.getD k default).l.length).getD i default=markPl k i:=z6v hi3
             repeat' (first|(first|((with_reducible apply z02 (id:=7) 8 [(0,true),(1,true),(2,true),(3,true),(4,true),(5,true),(6,true),(7,false)] [(8,false),(9,false)] []);kernel_rfl;(exact atks);kernel_rfl;intro r' hl')|((with_reducible apply z02 (id:=24) 35 [(0,true),(1,true),(2,true),(3,true),(4,true),(5,true),(6,true),(7,true),(8,true),(9,false),(10,true),(11,true),(12,true),(13,true),(14,true),(15,true),(16,true),(17,true),(18,true),(19,true),(20,true),(21,true),(22,true),(23,true),(24,true),(25,true),(26,true),(27,true),(28,true),(29,true),(30,false),(31,true),(32,true),(33,true),(34,true)] [] []);kernel_rfl;(exact atks);kernel_rfl;intro r' hl')|((with_reducible apply z02 (id:=41) 26 [(0,true),(1,true),(2,true),(3,true),(4,true),(5,true),(6,true),(7,true),(8,true),(9,false),(10,true),(11,true),(12,true),(13,true),(14,true),(15,true),(16,true),(17,true),(18,true),(19,true),(20,true),(21,true),(22,false),(23,true),(24,true),(25,true)] [] []);kernel_rfl;(exact atks);kernel_rfl;intro r' hl'))|(rw [hge,show encPl (markPl k i)=[.int .i64 (0:Int),.int .i64 (markN k i:Nat)] from rfl])|(rw [hge0,show encPl (markPl k i)=[.int .i64 (0:Int),.int .i64 (markN k i:Nat)] from rfl])|(refine acl Tryz.func166 ?_;refine acr (z1l _ k i) ?_;rintro v' H' ⟨rfl,rfl⟩;refine apl ?_)|exact xf|refine aw0 ?_|(refine ap2 ?_ ?_<;>try intro h)|refine aw1 ?_|(refine abx ?_;intro bb)|(refine abz ?_;intro bz)|(refine ahv ?_;intro v' hv')|(refine aac ?_;intro ac cc)|refine aw2 ?_|(refine ap4 ?_ ?_<;>try intro h)|apply True.intro)
             all_goals first|(rw [hge] at h;exact absurd rfl h)|(rw [hge0] at h;exact absurd rfl h)|exact ⟨_,by omega,i+1,rfl,by omega,⟨_,atks⟩,asls⟩
           · repeat' (first|refine aw0m ?_|(refine ap2 ?_ ?_<;>try intro h)|refine aw1m ?_|(refine abx ?_;intro bb)|(refine abz ?_;intro bz)|(refine ahv ?_;intro v' hv')|(refine aac ?_;intro ac cc)|refine aw2 ?_|(refine ap4 ?_ ?_<;>try intro h)|apply True.intro)
             exact ⟨_,by omega,k+1,rfl,by omega,⟨_,atks⟩,asls⟩
         · repeat' (first|refine aw0m ?_|(refine ap2 ?_ ?_<;>try intro h)|refine aw1m ?_|(refine abx ?_;intro bb)|(refine abz ?_;intro bz)|(refine ahv ?_;intro v' hv')|(refine aac ?_;intro ac cc)|refine aw2 ?_|(refine ap4 ?_ ?_<;>try intro h)|apply True.intro)
           ((with_reducible apply z00);exact res_1 rfl rfl)
           exact HR.out _ _ _ [] atks ⟨rfl,rfl⟩
end Go.Proofs.YtohpeoakdgckfaaGreat
