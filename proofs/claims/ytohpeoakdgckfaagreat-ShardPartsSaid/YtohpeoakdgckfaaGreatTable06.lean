/- lang.langs and mudlarkref06.table: their contracts. -/
import Derived.Test.YtohpeoakdgckfaaGreatRight
import Derived.Test.YtohpeoakdgckfaaGreatEng
import Derived.MapKept
set_option maxHeartbeats 1000000
set_option maxRecDepth 100000
namespace Go.Proofs.YtohpeoakdgckfaaGreat
open Go.RowKit Go.Shelf
theorem zkl {a b:List UInt8} (h:(47:UInt8) ∉ a):splitL (a++47::b)=a::splitL b:=by
 induction a with
 | nil=>simp [splitL]
 | cons x a ih =>
  have hx:x≠47:=fun e=>h (by simp [e])
  have ha:(47:UInt8) ∉ a:=fun e=>h (by simp [e])
  rw [List.cons_append,splitL,if_neg hx,ih ha]
theorem zfj {a:List UInt8} (h:(47:UInt8) ∉ a):splitL a=[a]:=by
 induction a with
 | nil=>rfl
 | cons x a ih =>
  have hx:x≠47:=fun e=>h (by simp [e])
  have ha:(47:UInt8) ∉ a:=fun e=>h (by simp [e])
  rw [splitL,if_neg hx,ih ha]
theorem zhe:(Tryz.prog.info? 9).map (fun i=>(i.zero,i.size,i.bytes))=some (some (.string ByteArray.empty),1,16):=by kernel_rfl
theorem z8n (l:List UInt8):(splitL l).length<=l.length+1:=by
 induction l with
 | nil=>simp [splitL]
 | cons b l ih =>
  unfold splitL
  split
  · simp;omega
  · split
    · rename_i h;rw [h] at ih;simp at *;omega
    · simp
structure PartsAt (s:List UInt8) (k f:Nat) (out:List (List UInt8)):Prop where
 le:f<=k
 len:out.length<=k
 eq:splitL s=out++splitL (s.drop f)
 solid:(47:UInt8) ∉ (s.drop f).take (k - f)
theorem PartsAt.zero (s:List UInt8):PartsAt s 0 0 []:=⟨Nat.le_refl _,by simp,by simp,by simp⟩
theorem zj6 {s:List UInt8} {f k:Nat} (hf:f<=k) (hk:k<s.length):s.drop f=(s.drop f).take (k - f)++s[k]::s.drop (k+1):=by
 have h1:s.drop f=(s.drop f).take (k - f)++(s.drop f).drop (k - f):=(List.take_append_drop _ _).symm
 rw [List.drop_drop,show f+(k - f)=k by omega,List.drop_eq_getElem_cons hk] at h1
 exact h1
theorem PartsAt.cut {s:List UInt8} {k f:Nat} {out:List (List UInt8)} (h:PartsAt s k f out) (hk:k<s.length) (hs:s[k]=47):PartsAt s (k+1) (k+1) (out++[(s.drop f).take (k - f)]):=by
 refine ⟨Nat.le_refl _,by simpa using h.len,?_,by simp⟩
 have h1:=zj6 h.le hk
 have h2:splitL (s.drop f)=(s.drop f).take (k - f)::splitL (s.drop (k+1)):=by
  rw [hs] at h1
  conv=>lhs;rw [h1]
  exact zkl h.solid
 rw [h.eq,h2];simp
theorem PartsAt.step {s:List UInt8} {k f:Nat} {out:List (List UInt8)} (h:PartsAt s k f out) (hk:k<s.length) (hs:s[k]≠47):PartsAt s (k+1) f out:=by
 refine ⟨Nat.le_trans h.le (Nat.le_succ _),Nat.le_trans h.len (Nat.le_succ _),h.eq,?_⟩
 have h1:=zj6 h.le hk
 have h2:(s.drop f).take (k+1 - f)=(s.drop f).take (k - f)++[s[k]]:=by
  have h3:k - f<(s.drop f).length:=by simp;have:=h.le;omega
  have:=h.le
  rw [show k+1 - f=(k - f)+1 by omega,List.take_succ_eq_append_getElem h3]
  simp [show f+(k - f)=k by omega]
 rw [h2]
 simp only [List.mem_append,List.mem_singleton,not_or]
 exact ⟨h.solid,fun e=>hs e.symm⟩
theorem PartsAt.last {s:List UInt8} {f:Nat} {out:List (List UInt8)} (h:PartsAt s s.length f out):splitL s=out++[(s.drop f).take (s.length - f)]:=by
 have h1:(s.drop f).take (s.length - f)=s.drop f:=List.take_of_length_le (by simp)
 have h2:=h.solid
 rw [h1] at h2 ⊢
 rw [h.eq,zfj h2]
theorem z84 (s:ByteArray) (f k:Nat):s.extract f k=bs ((s.data.toList.drop f).take (k - f)):=by
 apply ByteArray.ext
 simp [bs]
 apply Array.ext'
 simp [List.extract_eq_take_drop]
def strs (l:List (List UInt8)):List Value:=l.map fun p=> .string (bs p)
theorem z8o (s:ByteArray) (w:World) (hs:s.size<=1000000) :
 Calls Tryz.prog 156 #[.string s] w fun e w' => ∃ v,e = .returned v /\
  Row w' (fun g=>w.heap.size<=g) 9 1 v (splitL s.data.toList).length (strs (splitL s.data.toList))/\Ext Nil w w':=by
 obtain ⟨i0,hi,hz0,hz1,hz2⟩:=info_parts zhe
 refine z3k fun R HR=>?_
 go_enter Tryz.func156,Tryz.ntmps156
 repeat' (first|go_values|go_skip|go_guarded|go_step|go_upon|go_in|go_back|((with_reducible refine z0q ?_);go_simp))
 go_loopg [3,4,5] (s.size+2) (fun g out fr i wr => ∃ (k f:Nat) (l:List (List UInt8)),i = .int .i64 k/\fr = .int .i64 f/\g=s.size+2 - k/\k<=s.size+1/\f<=k/\l.length<=k /\
  Hid (if k<=s.size then PartsAt s.data.toList k f l else splitL s.data.toList=l)/\Row wr (fun g=>w.heap.size<=g) 9 1 out l.length (strs l)/\Ext Nil w wr)
 case atStart=>exact ⟨0,0,[],rfl,rfl,rfl,by omega,by omega,by simp,hid (by simpa using PartsAt.zero _),Row.nil _ _ _ _,Ext.refl _ _⟩
 case round =>
  obtain ⟨k,f,l,rfl,rfl,hg,hk,hf,hl,HP,hown,hx⟩:=hrel
  have HG:=hid hg
  have hsz:=hx.size
  clear hg
  have hlen:s.data.toList.length=s.size:=by simp
  have HLEN:=hid hlen
  clear hlen
  by_cases hlt:k<s.size
  · have h1:((k:Int) == (s.size:Int))=false:=by simp;omega
    have hPA:PartsAt s.data.toList k f l:=by have:=HP.out;rwa [if_pos (by omega)] at this
    have hgk:s[k]=s.data.toList[k]'(by rw [HLEN.out];exact hlt):=by simp;rfl
    have HGK:=hid hgk
    have HPA:=hid hPA
    clear hgk hPA
    by_cases h47:s[k]=47
    · have h2:((s[k].toNat:Int) == 47)=true:=by simp [h47]
      have H47:=hid h47
      clear h47
      go_wp2_with (at_builtin;rw [z84];refine za5 rfl _ _ 165 rfl 9 i0 (.string ByteArray.empty) 1 16 Tryz.underlying165 hi hz0 hz1 hz2 rfl (by decide) rfl hown (fun g hg=>by omega) [.string (bs ((s.data.toList.drop f).take (k - f)))] rfl (by simp [Value.oneCell']) rfl (by omega) ?_;intro v' w1 hown' hx1)
      go_roundg (s.size+2 - (k+1))
      case measure=>have:=HG.out;omega
      case rel =>
       refine ⟨k+1,k+1,l++[(s.data.toList.drop f).take (k - f)],by go_num,by go_num,rfl,by omega,by omega,by simp;omega,?_,?_,?_⟩
       · refine hid ?_
         rw [if_pos (by omega)]
         exact HPA.out.cut _ (by rw [← HGK.out];exact H47.out)
       · simpa [strs] using hown'
       · exact hx.trans' hx1 (fun k hk h=>absurd h (by omega))
    · have h2:((s[k].toNat:Int) == 47)=false:=by
       rw [beq_eq_false_iff_ne];intro h;exact h47 (UInt8.toNat_inj.1 (by simpa using (by omega:s[k].toNat=47)))
      have H47:=hid h47
      clear h47
      repeat' (first|go_values|go_skip|go_guarded|go_step|go_upon|go_in|go_back|((with_reducible refine z0q ?_);go_simp))
      go_roundg (s.size+2 - (k+1))
      case measure=>have:=HG.out;omega
      case rel =>
       refine ⟨k+1,f,l,by go_num,rfl,rfl,by omega,by omega,by omega,?_,hown,hx⟩
       refine hid ?_
       rw [if_pos (by omega)]
       exact HPA.out.step _ (by rw [← HGK.out];exact H47.out)
  · by_cases he:k=s.size
    · subst he
      have h1:((s.size:Int) == (s.size:Int))=true:=by simp
      have hPA:PartsAt s.data.toList s.data.toList.length f l:=by have:=HP.out;rw [if_pos (by omega)] at this;rwa [HLEN.out]
      have HPA:=hid hPA
      clear hPA hlt hk
      go_wp2_with (at_builtin;rw [z84];refine za5 rfl _ _ 165 rfl 9 i0 (.string ByteArray.empty) 1 16 Tryz.underlying165 hi hz0 hz1 hz2 rfl (by decide) rfl hown (fun g hg=>by omega) [.string (bs ((s.data.toList.drop f).take (s.size - f)))] rfl (by simp [Value.oneCell']) rfl (by omega) ?_;intro v' w1 hown' hx1)
      go_roundg (s.size+2 - (s.size+1))
      case measure=>have:=HG.out;omega
      case rel =>
       refine ⟨s.size+1,s.size+1,l++[(s.data.toList.drop f).take (s.size - f)],by go_num,by go_num,rfl,by omega,by omega,by simp;omega,?_,?_,?_⟩
       · refine hid ?_
         rw [if_neg (by omega)]
         have:=HPA.out.last
         rw [HLEN.out] at this
         exact this
       · simpa [strs] using hown'
       · exact hx.trans' hx1 (fun k hk h=>absurd h (by omega))
    · have hk2:k=s.size+1:=by omega
      subst hk2
      have he:splitL s.data.toList=l:=by have:=HP.out;rwa [if_neg (by omega)] at this
      have HE:=hid he
      clear he hlt hk
      repeat' (first|go_values|go_skip|go_guarded|go_step|go_upon|go_in|go_back|((with_reducible refine z0q ?_);go_simp))
      refine HR.out _ _ ⟨_,rfl,?_,hx⟩
      rw [HE.out]
      exact hown
theorem zj7 (l:List (List UInt8)) (j:Nat) (h:j<l.length):(strs l)[j]'(by simpa [strs] using h) = .string (bs l[j]):=by simp [strs]
theorem z7e {α:Type} {l:List α} {p:α->Bool} {k:Nat} (h:k<l.length):(l.take (k+1)).all p=((l.take k).all p && p l[k]):=by
 rw [List.take_succ_eq_append_getElem h,List.all_append];simp
theorem take_all_snoc' {α:Type} {l:List α} {p:α->Bool} {k:Nat} {x:α} (h:l[k]?=some x):(l.take (k+1)).all p=((l.take k).all p && p x):=by
 obtain ⟨hk,rfl⟩:=List.getElem?_eq_some_iff.1 h
 exact z7e hk
def refOk (s:List UInt8):Bool:=decide (0<s.length) && decide (s.length<=200) && s.all byteOk && (splitL s).all nameOk
theorem zhf {s:List UInt8} {k:Nat} (hk:k<s.length) (h:byteOk s[k]=false):refOk s=false:=by
 have:s.all byteOk=false:=by rw [List.all_eq_false];exact ⟨s[k],List.getElem_mem hk,by simp [h]⟩
 simp [refOk,this]
theorem zhg {s p:List UInt8} {k:Nat} (hk:(splitL s)[k]?=some p) (h:nameOk p=false):refOk s=false:=by
 have:(splitL s).all nameOk=false:=by rw [List.all_eq_false];exact ⟨p,List.mem_of_getElem? hk,by simp [h]⟩
 simp [refOk,this]
theorem zfk (s:ByteArray) (w:World) (hs:s.size<=1000000) :
 Calls Tryz.prog 155 #[.string s] w fun e w'=>e = .returned (.bool (refOk s.data.toList))/\Ext Nil w w':=by
 refine z3k fun R HR=>?_
 have hlen:s.data.toList.length=s.size:=by simp
 have HLEN:=hid hlen
 clear hlen
 go_enter Tryz.func155,Tryz.ntmps155
 by_cases h0:s.size<1
 · go_wp2
   refine HR.out _ _ ⟨?_,Ext.refl _ _⟩
   simp [refOk,HLEN.out,show ¬ 0<s.size by omega]
 · by_cases h2:s.size > 200
   · go_wp2
     refine HR.out _ _ ⟨?_,Ext.refl _ _⟩
     simp [refOk,HLEN.out,show ¬ s.size<=200 by omega]
   · go_wp2
     go_loopg [3] (s.size+1) (fun g i wr => ∃ k:Nat,i = .int .i64 k/\k<=s.size/\g=s.size+1 - k/\Hid ((s.data.toList.take k).all byteOk=true)/\wr=w)
     case atStart=>exact ⟨0,rfl,by omega,by omega,rfl,rfl⟩
     case round =>
      obtain ⟨k,rfl,hk,hg,HA,rfl⟩:=hrel
      have HG:=hid hg
      clear hg
      by_cases hlt:k<s.size
      · have hgk:s[k]=s.data.toList[k]'(by rw [HLEN.out];exact hlt):=by simp;rfl
        have HGK:=hid hgk
        clear hgk
        cases hbo:byteOk s[k]
        · have hfin:refOk s.data.toList=false:=zhf (k:=k) (by rw [HLEN.out];exact hlt) (by rw [← HGK.out];exact hbo)
          have HF:=hid hfin
          clear hfin
          by_cases h1:s[k]<32
          · have d1:=zh6 h1
            clear h1 hbo
            repeat' (first|go_values|go_skip|go_guarded|go_step|go_upon|go_in|go_back|((with_reducible refine z0q ?_);go_simp))
            exact HR.out _ _ ⟨by rw [HF.out]<;>rfl,Ext.refl _ _⟩
          · have d1:=zh7 h1
            have d2:=zd5 hbo h1
            clear h1 hbo
            repeat' (first|go_values|go_skip|go_guarded|go_step|go_upon|go_in|go_back|((with_reducible refine z0q ?_);go_simp))
            exact HR.out _ _ ⟨by rw [HF.out]<;>rfl,Ext.refl _ _⟩
        · obtain ⟨d1,d2⟩:=za7 hbo
          have HBO:=hid hbo
          clear hbo
          repeat' (first|go_values|go_skip|go_guarded|go_step|go_upon|go_in|go_back|((with_reducible refine z0q ?_);go_simp))
          go_roundg (s.size+1 - (k+1))
          case measure=>have:=HG.out;omega
          case rel =>
           refine ⟨k+1,by go_num,by omega,rfl,hid ?_,rfl⟩
           rw [z7e (by rw [HLEN.out];exact hlt),HA.out,← HGK.out,HBO.out];rfl
      · have hks:k=s.size:=by omega
        subst hks
        have hall:s.data.toList.all byteOk=true:=by
         have:=HA.out;rwa [List.take_of_length_le (by rw [HLEN.out];exact Nat.le_refl _)] at this
        have HALL:=hid hall
        clear hall hlt
        go_wp2_with (go_at_call 156;refine (z8o s _ hs).mono ?_;rintro e w' ⟨v,rfl,hown,hx⟩)
        have hln:(splitL s.data.toList).length<=s.size+1:=by
         have:=z8n s.data.toList;rw [HLEN.out] at this;exact this
        rcases hown.form with ⟨rfl,hz,_⟩ | ⟨g,cap,cur,rfl,hgg,hh,hnc,hcm,hcs,ht⟩
        · exact absurd (List.eq_nil_of_length_eq_zero hz) (z2c _)
        · have HOWN:=hid hown
          clear hown hh ht hcs
          generalize hn:(splitL s.data.toList).length=n at *
          have HN:=hid hn
          clear hn
          go_loopg [5] (n+1) (fun g i wr => ∃ k:Nat,i = .int .i64 k/\k<=n/\g=n+1 - k/\Hid (((splitL s.data.toList).take k).all nameOk=true)/\wr=w')
          case atStart=>exact ⟨0,rfl,by omega,by omega,rfl,rfl⟩
          case round =>
           obtain ⟨k,rfl,hk,hg,HA,rfl⟩:=hrel
           have HG:=hid hg
           clear hg
           by_cases hlt:k<n
           · have hlt':k<(splitL s.data.toList).length:=by rw [HN.out];exact hlt
             obtain ⟨g',cap',he,_,_,hc⟩:=HOWN.out.cell (j:=k) (by simpa [strs] using hlt')
             simp only [Value.slice.injEq,Option.some.injEq,Addr.mk.injEq] at he
             obtain ⟨⟨rfl,_⟩,_,rfl⟩:=he
             rw [zj7 _ _ hlt'] at hc
             have HP:=hid (List.getElem?_eq_getElem hlt')
             generalize (splitL s.data.toList)[k]=p at *
             clear hlt'
             cases hno:nameOk p
             · have hfin:refOk s.data.toList=false:=zhg HP.out hno
               have HF:=hid hfin
               clear hfin
               by_cases e1:p=[]
               · have t1:(bs p).toList.isEmpty=true:=by rw [z0r,e1];rfl
                 clear e1 hno
                 repeat' (first|go_values|go_skip|go_guarded|go_step|go_upon|go_in|go_back|((with_reducible refine z0q ?_);go_simp))
                 exact HR.out _ _ ⟨by rw [HF.out]<;>rfl,hx⟩
               · have t1:=nm1 e1
                 by_cases e2:p=[46]
                 · have t2:((bs p).toList == [46])=true:=by rw [z0r,e2];rfl
                   clear e1 e2 hno
                   repeat' (first|go_values|go_skip|go_guarded|go_step|go_upon|go_in|go_back|((with_reducible refine z0q ?_);go_simp))
                   exact HR.out _ _ ⟨by rw [HF.out]<;>rfl,hx⟩
                 · have t2:=nm2 e2
                   have t3:=nm3 hno e1 e2
                   clear e1 e2 hno
                   repeat' (first|go_values|go_skip|go_guarded|go_step|go_upon|go_in|go_back|((with_reducible refine z0q ?_);go_simp))
                   exact HR.out _ _ ⟨by rw [HF.out]<;>rfl,hx⟩
             · obtain ⟨t1,t2,t3⟩:=nmt hno
               have HNO:=hid hno
               clear hno
               repeat' (first|go_values|go_skip|go_guarded|go_step|go_upon|go_in|go_back|((with_reducible refine z0q ?_);go_simp))
               go_roundg (n+1 - (k+1))
               case measure=>have:=HG.out;omega
               case rel =>
                refine ⟨k+1,by go_num,by omega,rfl,hid ?_,rfl⟩
                rw [take_all_snoc' HP.out,HA.out,HNO.out];rfl
           · have hks:k=n:=by omega
             subst hks
             have hfin:refOk s.data.toList=true:=by
              have h1:=HA.out
              rw [List.take_of_length_le (by rw [HN.out];exact Nat.le_refl _)] at h1
              simp only [refOk,HALL.out,h1,HLEN.out,show 0<s.size by omega,show s.size<=200 by omega,decide_true,Bool.and_self]
             have HF:=hid hfin
             clear hfin hlt
             repeat' (first|go_values|go_skip|go_guarded|go_step|go_upon|go_in|go_back|((with_reducible refine z0q ?_);go_simp))
             exact HR.out _ _ ⟨by rw [HF.out]<;>rfl,hx⟩
end Go.Proofs.YtohpeoakdgckfaaGreat
namespace Go.Proofs.YtohpeoakdgckfaaGreat
open Go.RowKit
def ents:List (List UInt8 × List UInt8)->Nat->List MapEntry
 | [],_=>[]
 | (k,v)::l,c=>{ key:= .string (bs k),val:= .string (bs v),born:=c }::ents l (c+1)
def entA (l:List (List UInt8 × List UInt8)):Array MapEntry:=(ents l 0).toArray
def look:List (List UInt8 × List UInt8)->List UInt8->Option (List UInt8)
 | [],_=>none
 | (k,v)::l,x=>if k=x then some v else look l x
theorem zt1 {a b:List UInt8} (h:bs a=bs b):a=b:=by
 have:=congrArg (fun s:ByteArray=>s.data.toList) h
 simpa [bs] using this
theorem zt2 (a b:List UInt8):(bs a == bs b)=decide (a=b):=by
 rw [Bool.eq_iff_iff,MapKept.bytes_beq,decide_eq_true_eq]
 exact ⟨zt1,fun e=>by rw [e]⟩
theorem zfl (x:List UInt8) : ∀ (l:List (List UInt8 × List UInt8)) (c i:Nat),
 (look l x=none/\Instr.findNow .string (.string (bs x)) (ents l c) i=some none)\/(∃ v j,look l x=some v/\Instr.findNow .string (.string (bs x)) (ents l c) i=some (some (j,.string (bs v)))):=by
 intro l
 induction l with
 | nil=>intro c i;exact .inl ⟨rfl,rfl⟩
 | cons kv l ih =>
  obtain ⟨k,v⟩:=kv
  intro c i
  unfold ents Instr.findNow
  simp only [Instr.sameNow,zt2]
  by_cases h:k=x
  · subst h
    exact .inr ⟨v,i,by simp [look],by simp⟩
  · have h':¬ x=k:=fun e=>h e.symm
    simp only [look,if_neg h,decide_eq_false h']
    exact ih (c+1) (i+1)
theorem zhh (a b:List (List UInt8 × List UInt8)) : ∀ c,ents (a++b) c=ents a c++ents b (c+a.length):=by
 induction a with
 | nil=>intro c;simp [ents]
 | cons x a ih=>intro c;simp only [List.cons_append,ents,ih,List.length_cons];rw [show c+1+a.length=c+(a.length+1) by omega]
theorem zmq (l:List (List UInt8 × List UInt8)) (k v:List UInt8):(entA l).push { key:= .string (bs k),val:= .string (bs v),born:=l.length }=entA (l++[(k,v)]):=by
 simp [entA,zhh,ents]
section
variable {P : Program} {t kt et : TypeId}
theorem z5c (w:World) (hk:P.underlying kt=some .string) (l:List (List UInt8 × List UInt8)) (x:List UInt8) :
 (look l x=none/\(Instr.findKey kt (.string (bs x)) (entA l).toList).run P w = .ok none w)\/(∃ v j,look l x=some v/\(Instr.findKey kt (.string (bs x)) (entA l).toList).run P w = .ok (some (j,.string (bs v))) w):=by
 unfold Instr.findKey
 simp only [Sem.run_bind,run_underlying hk,Result.andThen_ok,entA]
 rcases zfl x l 0 0 with ⟨h1,h2⟩ | ⟨v,j,h1,h2⟩
 · exact .inl ⟨h1,by rw [h2];rfl⟩
 · exact .inr ⟨v,j,h1,by rw [h2];rfl⟩
theorem z5d (w:World) (hk:P.underlying kt=some .string) (b:Bool) (s:ByteArray):(Instr.checkKey b 10000 kt (.string s)).run P w = .ok () w:=by
 rw [show (10000:Nat)=9999+1 from rfl,Instr.checkKey]
 simp [run_underlying hk]
theorem zkm (ht:P.underlying t=some (.map kt et)) (hk:P.underlying kt=some .string) (l:List (List UInt8 × List UInt8)) (k v:List UInt8) (hn:look l k=none) (w:World) :
 (Instr.mapUpdate t (.map (some w.heap.size)) (.string (bs k)) (.string (bs v))).run P (w.alloc (.map (entA l) l.length)) = .ok () (w.alloc (.map (entA (l++[(k,v)])) (l.length+1))):=by
 have hb:=World.alloc_heap_new w (.map (entA l) l.length)
 have hf : ∀ w,(Instr.findKey kt (.string (bs k)) (entA l).toList).run P w = .ok none w:=fun w=>by
  rcases z5c (P:=P) w hk l k with ⟨_,h⟩ | ⟨v',j,h,_⟩
  · exact h
  · rw [hn] at h;cases h
 unfold Instr.mapUpdate
 simp only [Sem.run_bind,run_underlying ht,Result.andThen_ok,getObj,setObj,Sem.run,hb,z5d _ hk,hf]
 congr 1
 rw [zmq]
 show World.mk _ _ _ _ _=World.mk _ _ _ _ _
 congr 1
 show (w.heap.push _).setIfInBounds w.heap.size _=w.heap.push _
 apply Array.ext_getElem?
 intro i
 rw [Array.getElem?_setIfInBounds,Array.getElem?_push,Array.getElem?_push]
 by_cases hi:i=w.heap.size
 · subst hi;simp
 · rw [if_neg (fun e=>hi e.symm),if_neg hi,if_neg hi]
theorem zkn (ht:P.underlying t=some (.map kt et)) (hk:P.underlying kt=some .string) (hz : ∀ w,(zeroValue et).run P w = .ok (.string ByteArray.empty) w) (l:List (List UInt8 × List UInt8)) (x:List UInt8) (w:World) {b c:Nat} (hb:w.heap[b]?=some (.map (entA l) c)) :
 (Instr.lookup t (.map (some b)) (.string (bs x)) false).run P w = .ok (.string (bs ((look l x).getD []))) w:=by
 unfold Instr.lookup
 rcases z5c (P:=P) w hk l x with ⟨h1,h2⟩ | ⟨v',j,h1,h2⟩
 · simp [Sem.run_bind,run_underlying ht,getObj,Sem.run,hb,z5d _ hk,h2,h1,hz,Result.andThen]
   rfl
 · simp [Sem.run_bind,run_underlying ht,getObj,Sem.run,hb,z5d _ hk,h2,h1,Result.andThen]
end
end Go.Proofs.YtohpeoakdgckfaaGreat
namespace Go.Proofs.YtohpeoakdgckfaaGreat
open Go.RowKit Go.Shelf
def tbl:List (List UInt8 × List UInt8):=[([99],[99]),([104],[99]),([99,99],[99,112,112]),([99,112,112],[99,112,112]),([104,112,112],[99,112,112]),([99,115,115],[99,115,115]),([103,111],[103,111]),([104,116,109,108],[104,116,109,108]),([106,97,118,97],[106,97,118,97]),([106,115],[106,97,118,97,115,99,114,105,112,116]),([109,106,115],[106,97,118,97,115,99,114,105,112,116]),([106,115,111,110],[106,115,111,110]),([109,100],[109,97,114,107,100,111,119,110]),([112,121],[112,121,116,104,111,110]),([114,98],[114,117,98,121]),([114,115],[114,117,115,116]),([115,104],[115,104,101,108,108]),([115,113,108],[115,113,108]),([116,120,116],[116,101,120,116]),([116,115],[116,121,112,101,115,99,114,105,112,116]),([121,97,109,108],[121,97,109,108]),([121,109,108],[121,97,109,108])]
def E (i:Nat):Array MapEntry:=entA (tbl.take i)
theorem z16 (i:Nat) (k v:List UInt8) (hk:tbl[i]?=some (k,v)) (hn:look (tbl.take i) k=none) (w:World) :
 (Instr.mapUpdate 205 (.map (some w.heap.size)) (.string (bs k)) (.string (bs v))).run Tryz.prog (w.alloc (.map (E i) i)) = .ok () (w.alloc (.map (E (i+1)) (i+1))):=by
 have h:=zkm (P:=Tryz.prog) Tryz.underlying205 Tryz.underlying9 (tbl.take i) k v hn w
 obtain ⟨hi,hk'⟩:=List.getElem?_eq_some_iff.1 hk
 have h1:(tbl.take i).length=i:=by rw [List.length_take];omega
 rw [h1] at h
 unfold E
 rw [List.take_succ_eq_append_getElem hi,hk']
 exact h
theorem zmr (w:World):Calls Tryz.prog 137 #[] w fun e w'=>e = .returned (.map (some w.heap.size))/\w'=w.alloc (.map (E 22) 22):=by
 refine z3k fun R HR=>?_
 have hmm : ∀ w:World,(Instr.makeMap 205 none).run Tryz.prog w = .ok (.map (some w.heap.size)) (w.alloc (.map (E 0) 0)):=fun w=>run_makeMap ..
 have h0 : ∀ w:World,(Instr.mapUpdate 205 (.map (some w.heap.size)) (.string ⟨#[99]⟩) (.string ⟨#[99]⟩)).run Tryz.prog (w.alloc (.map (E 0) 0)) = .ok () (w.alloc (.map (E 1) 1)):=fun w=>z16 0 [99] [99] rfl (by decide +kernel) w
 have h1 : ∀ w:World,(Instr.mapUpdate 205 (.map (some w.heap.size)) (.string ⟨#[104]⟩) (.string ⟨#[99]⟩)).run Tryz.prog (w.alloc (.map (E 1) 1)) = .ok () (w.alloc (.map (E 2) 2)):=fun w=>z16 1 [104] [99] rfl (by decide +kernel) w
 have h2 : ∀ w:World,(Instr.mapUpdate 205 (.map (some w.heap.size)) (.string ⟨#[99,99]⟩) (.string ⟨#[99,112,112]⟩)).run Tryz.prog (w.alloc (.map (E 2) 2)) = .ok () (w.alloc (.map (E 3) 3)):=fun w=>z16 2 [99,99] [99,112,112] rfl (by decide +kernel) w
 have h3 : ∀ w:World,(Instr.mapUpdate 205 (.map (some w.heap.size)) (.string ⟨#[99,112,112]⟩) (.string ⟨#[99,112,112]⟩)).run Tryz.prog (w.alloc (.map (E 3) 3)) = .ok () (w.alloc (.map (E 4) 4)):=fun w=>z16 3 [99,112,112] [99,112,112] rfl (by decide +kernel) w
 have h4 : ∀ w:World,(Instr.mapUpdate 205 (.map (some w.heap.size)) (.string ⟨#[104,112,112]⟩) (.string ⟨#[99,112,112]⟩)).run Tryz.prog (w.alloc (.map (E 4) 4)) = .ok () (w.alloc (.map (E 5) 5)):=fun w=>z16 4 [104,112,112] [99,112,112] rfl (by decide +kernel) w
 have h5 : ∀ w:World,(Instr.mapUpdate 205 (.map (some w.heap.size)) (.string ⟨#[99,115,115]⟩) (.string ⟨#[99,115,115]⟩)).run Tryz.prog (w.alloc (.map (E 5) 5)) = .ok () (w.alloc (.map (E 6) 6)):=fun w=>z16 5 [99,115,115] [99,115,115] rfl (by decide +kernel) w
 have h6 : ∀ w:World,(Instr.mapUpdate 205 (.map (some w.heap.size)) (.string ⟨#[103,111]⟩) (.string ⟨#[103,111]⟩)).run Tryz.prog (w.alloc (.map (E 6) 6)) = .ok () (w.alloc (.map (E 7) 7)):=fun w=>z16 6 [103,111] [103,111] rfl (by decide +kernel) w
 have h7 : ∀ w:World,(Instr.mapUpdate 205 (.map (some w.heap.size)) (.string ⟨#[104,116,109,108]⟩) (.string ⟨#[104,116,109,108]⟩)).run Tryz.prog (w.alloc (.map (E 7) 7)) = .ok () (w.alloc (.map (E 8) 8)):=fun w=>z16 7 [104,116,109,108] [104,116,109,108] rfl (by decide +kernel) w
 have h8 : ∀ w:World,(Instr.mapUpdate 205 (.map (some w.heap.size)) (.string ⟨#[106,97,118,97]⟩) (.string ⟨#[106,97,118,97]⟩)).run Tryz.prog (w.alloc (.map (E 8) 8)) = .ok () (w.alloc (.map (E 9) 9)):=fun w=>z16 8 [106,97,118,97] [106,97,118,97] rfl (by decide +kernel) w
 have h9 : ∀ w:World,(Instr.mapUpdate 205 (.map (some w.heap.size)) (.string ⟨#[106,115]⟩) (.string ⟨#[106,97,118,97,115,99,114,105,112,116]⟩)).run Tryz.prog (w.alloc (.map (E 9) 9)) = .ok () (w.alloc (.map (E 10) 10)):=fun w=>z16 9 [106,115] [106,97,118,97,115,99,114,105,112,116] rfl (by decide +kernel) w
 have h10 : ∀ w:World,(Instr.mapUpdate 205 (.map (some w.heap.size)) (.string ⟨#[109,106,115]⟩) (.string ⟨#[106,97,118,97,115,99,114,105,112,116]⟩)).run Tryz.prog (w.alloc (.map (E 10) 10)) = .ok () (w.alloc (.map (E 11) 11)):=fun w=>z16 10 [109,106,115] [106,97,118,97,115,99,114,105,112,116] rfl (by decide +kernel) w
 have h11 : ∀ w:World,(Instr.mapUpdate 205 (.map (some w.heap.size)) (.string ⟨#[106,115,111,110]⟩) (.string ⟨#[106,115,111,110]⟩)).run Tryz.prog (w.alloc (.map (E 11) 11)) = .ok () (w.alloc (.map (E 12) 12)):=fun w=>z16 11 [106,115,111,110] [106,115,111,110] rfl (by decide +kernel) w
 have h12 : ∀ w:World,(Instr.mapUpdate 205 (.map (some w.heap.size)) (.string ⟨#[109,100]⟩) (.string ⟨#[109,97,114,107,100,111,119,110]⟩)).run Tryz.prog (w.alloc (.map (E 12) 12)) = .ok () (w.alloc (.map (E 13) 13)):=fun w=>z16 12 [109,100] [109,97,114,107,100,111,119,110] rfl (by decide +kernel) w
 have h13 : ∀ w:World,(Instr.mapUpdate 205 (.map (some w.heap.size)) (.string ⟨#[112,121]⟩) (.string ⟨#[112,121,116,104,111,110]⟩)).run Tryz.prog (w.alloc (.map (E 13) 13)) = .ok () (w.alloc (.map (E 14) 14)):=fun w=>z16 13 [112,121] [112,121,116,104,111,110] rfl (by decide +kernel) w
 have h14 : ∀ w:World,(Instr.mapUpdate 205 (.map (some w.heap.size)) (.string ⟨#[114,98]⟩) (.string ⟨#[114,117,98,121]⟩)).run Tryz.prog (w.alloc (.map (E 14) 14)) = .ok () (w.alloc (.map (E 15) 15)):=fun w=>z16 14 [114,98] [114,117,98,121] rfl (by decide +kernel) w
 have h15 : ∀ w:World,(Instr.mapUpdate 205 (.map (some w.heap.size)) (.string ⟨#[114,115]⟩) (.string ⟨#[114,117,115,116]⟩)).run Tryz.prog (w.alloc (.map (E 15) 15)) = .ok () (w.alloc (.map (E 16) 16)):=fun w=>z16 15 [114,115] [114,117,115,116] rfl (by decide +kernel) w
 have h16 : ∀ w:World,(Instr.mapUpdate 205 (.map (some w.heap.size)) (.string ⟨#[115,104]⟩) (.string ⟨#[115,104,101,108,108]⟩)).run Tryz.prog (w.alloc (.map (E 16) 16)) = .ok () (w.alloc (.map (E 17) 17)):=fun w=>z16 16 [115,104] [115,104,101,108,108] rfl (by decide +kernel) w
 have h17 : ∀ w:World,(Instr.mapUpdate 205 (.map (some w.heap.size)) (.string ⟨#[115,113,108]⟩) (.string ⟨#[115,113,108]⟩)).run Tryz.prog (w.alloc (.map (E 17) 17)) = .ok () (w.alloc (.map (E 18) 18)):=fun w=>z16 17 [115,113,108] [115,113,108] rfl (by decide +kernel) w
 have h18 : ∀ w:World,(Instr.mapUpdate 205 (.map (some w.heap.size)) (.string ⟨#[116,120,116]⟩) (.string ⟨#[116,101,120,116]⟩)).run Tryz.prog (w.alloc (.map (E 18) 18)) = .ok () (w.alloc (.map (E 19) 19)):=fun w=>z16 18 [116,120,116] [116,101,120,116] rfl (by decide +kernel) w
 have h19 : ∀ w:World,(Instr.mapUpdate 205 (.map (some w.heap.size)) (.string ⟨#[116,115]⟩) (.string ⟨#[116,121,112,101,115,99,114,105,112,116]⟩)).run Tryz.prog (w.alloc (.map (E 19) 19)) = .ok () (w.alloc (.map (E 20) 20)):=fun w=>z16 19 [116,115] [116,121,112,101,115,99,114,105,112,116] rfl (by decide +kernel) w
 have h20 : ∀ w:World,(Instr.mapUpdate 205 (.map (some w.heap.size)) (.string ⟨#[121,97,109,108]⟩) (.string ⟨#[121,97,109,108]⟩)).run Tryz.prog (w.alloc (.map (E 20) 20)) = .ok () (w.alloc (.map (E 21) 21)):=fun w=>z16 20 [121,97,109,108] [121,97,109,108] rfl (by decide +kernel) w
 have h21 : ∀ w:World,(Instr.mapUpdate 205 (.map (some w.heap.size)) (.string ⟨#[121,109,108]⟩) (.string ⟨#[121,97,109,108]⟩)).run Tryz.prog (w.alloc (.map (E 21) 21)) = .ok () (w.alloc (.map (E 22) 22)):=fun w=>z16 21 [121,109,108] [121,97,109,108] rfl (by decide +kernel) w
 go_enter Tryz.func137,Tryz.ntmps137
 repeat' (first|go_values|go_skip|go_guarded|go_step|go_upon|go_in|go_back|((with_reducible refine z0q ?_);go_simp))
 exact HR.out _ _ ⟨rfl,rfl⟩
def tblCells:List Value:=tbl.flatMap fun p=>[.string (bs p.1),.string (bs p.2)]
theorem zfm (w:World):Calls Tryz.prog 157 #[] w fun e w'=>e = .returned (.slice (some ⟨w.heap.size,0,none⟩) 22 22)/\w'=w.alloc (.cells tblCells.toArray 230):=by
 refine z3k fun R HR=>?_
 go_enter Tryz.func157,Tryz.ntmps157
 repeat' (first|go_values|go_skip|go_guarded|go_step|go_upon|go_in|go_back|((with_reducible refine z0q ?_);go_simp))
 exact HR.out _ _ ⟨rfl,rfl⟩
end Go.Proofs.YtohpeoakdgckfaaGreat
