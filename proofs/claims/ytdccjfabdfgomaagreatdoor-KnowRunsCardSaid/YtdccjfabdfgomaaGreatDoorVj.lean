
/- query.copied: its contract. -/
import Derived.Test.YtdccjfabdfgomaaGreatDoorVi
namespace Go.Proofs.YtdccjfabdfgomaaGreatDoor
open Go.RowKit Sx

theorem encQ_one {r : Hp} {q : QuV} (h : QuR r q) : (encQ q).all one? = true := by
  obtain ⟨h1, h2, _⟩ := quR_iff.1 h
  simp only [encQ, List.all_cons, List.all_nil, h1.one, h2.one, Bool.and_true]; rfl
theorem encQ_ones {r : Hp} : ∀ {l : List QuV}, (∀ q ∈ l, QuR r q) → (l.flatMap encQ).all one? = true
  | [], _ => rfl
  | q :: l, h => by rw [List.flatMap_cons, List.all_append, encQ_one (h q (by simp)), encQ_ones fun x hx => h x (by simp [hx])]; rfl
theorem ownL_nil : OwnL [] emp := ownL_all.2 rfl
theorem ownL_snoc {Z : List QuV} {z : QuV} : ∀ h, all [OwnL Z, OwnQ z] h → OwnL (Z ++ [z]) h := fun h e => by
  obtain ⟨x, y, dd, rfl, h1, h2⟩ := e
  refine ownL_all.2 ?_
  rw [List.map_append]
  exact all_app.2 ⟨x, y, dd, rfl, ownL_all.1 h1, h2⟩
theorem own_mk {k : Int} {gv sv : Value} {gs : List Tx} {Z : List QuV} (hk : KindR k) : ∀ h, all [RowC 9 1 gv gs.length (gs.flatMap encTx), RowC 27 3 sv Z.length (Z.flatMap encQ), OwnL Z] h → OwnQ (.mk k gv gs sv Z) h := fun h e => by
  simp only [OwnQ]
  exact ⟨hk, e⟩
def CopyT (q : QuV) : Prop := ∀ r : Hp, QuR r q → Tri Tryz.prog r 60 [.agg (encQ q).toArray] [] fun w H => ∃ q' : QuV, q'.key = q.key ∧ (encQ q').all one? = true ∧ w = .agg (encQ q').toArray ∧ H = [OwnQ q']
set_option maxRecDepth 10000 in
set_option maxHeartbeats 8000000 in
theorem copied_of (r : Hp) (q : QuV) (hq : QuR r q) (hs : sizeQ q.key ≤ 9000000) (ih : ∀ s ∈ q.subs, CopyT s) : Tri Tryz.prog r 60 [.agg (encQ q).toArray] [] fun w H => ∃ q' : QuV, q'.key = q.key ∧ (encQ q').all one? = true ∧ w = .agg (encQ q').toArray ∧ H = [OwnQ q'] := by
  have hk := quR_kind hq
  obtain ⟨h1, h2, h3⟩ := quR_iff.1 hq
  have hkey := key_mk q.kind q.gv q.grams q.sv q.subs
  rw [show QuV.mk q.kind q.gv q.grams q.sv q.subs = q by cases q; rfl] at hkey
  rw [show encQ q = [.int .i64 q.kind, q.gv, q.sv] from rfl, hkey]
  have hsz := size_parts q.key
  rw [key_grams, key_subs] at hsz
  have hgl := sizeT_len q.grams
  have hsl := sizeQs_len (q.subs.map QuV.key)
  rw [List.length_map] at hsl
  have h4 := encQ_ones h3
  generalize q.kind = k at *
  generalize q.gv = gv at *
  generalize q.sv = sv at *
  generalize q.grams = gs at *
  generalize q.subs = ss at *
  have hcg := cloneT_any r gv gs h1 (encTx_one gs) (by omega)
  have hcs := cloneQ_any r sv ss h2 h4 (by omega)
  refine Tri.free2 fun R HR => ?_
  refine fn_of_sw Tryz.func60 rfl _ rfl ?_; refine aen Tryz.ntmps60 ?_
  repeat' (first | ((with_reducible apply kx_box); rfl; (exact qcl); intro b1; (refine apk ?_)) | ((with_reducible apply kx_alloc (E := 27)); exact ty_zero; (exact qcl); intro b2; (refine apk ?_)) | ((with_reducible apply sw_midW (c1 := .region 1 _ _) (I := fun t' H' => ∃ (a1 a2 : Option Addr) (c1 c2 : Nat), (∃ G, Takes [pt b1 (.cells [.int .i64 k, .slice a1 gs.length c1, .slice a2 ss.length c2].toArray 27 (0, 0)), pt b2 (.cells [.int .i64 0, .slice none 0 0, .slice none 0 0].toArray 27 (0, 0)), RowC 9 1 (.slice a1 gs.length c1) gs.length (gs.flatMap encTx), RowC 27 3 (.slice a2 ss.length c2) ss.length (ss.flatMap encQ)] H' G) ∧ Sls t' 29 [(1, .pointer (some ⟨b1, 0, none⟩)), (2, .pointer (some ⟨b2, 0, none⟩))]))) | refine aw0 ?_ | (refine ap2 ?_ ?_ <;> try intro h) | refine aw1 ?_ | (refine abx ?_; intro bb) | (refine abz ?_; intro bz) | (refine ahv ?_; intro v' hv') | (refine aac ?_; intro ac cc) | refine aw2 ?_ | (refine ap4 ?_ ?_ <;> try intro h) | apply True.intro)
  · repeat' (first | ((with_reducible apply sw_drawT (id := 1) 10 (Pl.seg [(0, true), (3, true)] (Pl.two 1 4 (Pl.seg [] (Pl.two 2 4 (Pl.seg [(4, false), (6, true), (5, false), (7, false), (8, true), (9, false)] Pl.leaf) (Pl.seg [(2, false), (6, true), (5, false), (7, false), (8, true), (9, false)] Pl.leaf))) (Pl.seg [(1, false), (2, false), (6, true), (5, false), (7, false), (8, true), (9, false)] Pl.leaf))) (List.replicate 10 true ++ List.replicate 0 false).toArray [] []); kernel_rfl; (exact atks); kernel_rfl; intro r' hl') | (refine acl Tryz.func85 ?_; refine acr (hcg.up hl'.1) ?_; rintro v' H' ⟨a1, c1, rfl, rfl⟩; all_goals refine apl ?_) | (refine acl Tryz.func86 ?_; refine acr (hcs.up hl'.1) ?_; rintro v' H' ⟨a2, c2, rfl, rfl⟩; all_goals refine apl ?_) | (exfalso; first | contradiction | omega) | refine aw0 ?_ | (refine ap2 ?_ ?_ <;> try intro h) | refine aw1 ?_ | (refine abx ?_; intro bb) | (refine abz ?_; intro bz) | (refine ahv ?_; intro v' hv') | (refine aac ?_; intro ac cc) | refine aw2 ?_ | (refine ap4 ?_ ?_ <;> try intro h) | apply True.intro)
    all_goals exact ⟨a1, a2, c1, c2, ⟨_, atks⟩, asls⟩
  · rintro t' H' ⟨a1, a2, c1, c2, ⟨G, hp⟩, hs'⟩
    revert t'; refine sls_all ?_; iterate 27 intro uu'
    refine sw_takeG hp ?_; clear hp
    refine sw_put (A := OwnL []) ownL_nil ?_
    repeat' (first | (exfalso; first | contradiction | omega) | refine aw0 ?_ | (refine ap2 ?_ ?_ <;> try intro h) | refine aw1 ?_ | (refine abx ?_; intro bb) | (refine abz ?_; intro bz) | (refine ahv ?_; intro v' hv') | (refine aac ?_; intro ac cc) | refine aw2 ?_ | (refine ap4 ?_ ?_ <;> try intro h) | apply True.intro)
    refine sw_loop (fun gm t H' => ∃ (i : Nat) (Z : List QuV), gm = ss.length + 1 - i ∧ (i ≤ ss.length) ∧ (Z.map QuV.key = (ss.take i).map QuV.key) ∧ (∃ G, Takes [pt b1 (.cells [.int .i64 k, .slice a1 gs.length c1, .slice a2 ss.length c2].toArray 27 (0, 0)), pt b2 (.cells [.int .i64 0, .slice none 0 0, .slice none 0 0].toArray 27 (0, 0)), RowC 9 1 (.slice a1 gs.length c1) gs.length (gs.flatMap encTx), RowC 27 3 (.slice a2 ss.length c2) ss.length ((Z ++ ss.drop i).flatMap encQ), OwnL Z] H' G) ∧ Sls t 29 [(1, .pointer (some ⟨b1, 0, none⟩)), (2, .pointer (some ⟨b2, 0, none⟩)), (14, .slice a2 ss.length c2), (15, .int .i64 ss.length), (16, .int .i64 i)]) _ ⟨0, [], rfl, Nat.zero_le _, rfl, ⟨_, atks⟩, asls⟩ ?_
    rintro gm t H' ⟨i, Z, rfl, hi, hZ, ⟨G, hp⟩, hs'⟩
    revert t; refine sls_all ?_; iterate 24 intro uu'
    refine sw_takeG hp ?_; clear hp
    have hZl : Z.length = i := by
      have := congrArg List.length hZ
      rw [List.length_map, List.length_map, List.length_take] at this; omega
    by_cases hlt : i < ss.length
    · obtain ⟨s, hx⟩ : ∃ s, ss.getD i default = s := ⟨_, rfl⟩
      have hsm : s ∈ ss := hx ▸ getD_memU hlt
      have hdr : ss.drop i = s :: ss.drop (i + 1) := by
        rw [List.drop_eq_getElem_cons hlt, ← hx, List.getD_eq_getElem?_getD, List.getElem?_eq_getElem hlt]; rfl
      have htk : (ss.take (i + 1)).map QuV.key = (ss.take i).map QuV.key ++ [s.key] := by rw [take_getD (d := default) hlt, hx, List.map_append]; rfl
      have hget : (Z ++ ss.drop i).getD (i : Int).toNat default = s := by
        rw [Int.toNat_natCast, hdr, getD_app2 (by omega), show i - Z.length = 0 by omega]; rfl
      have hset : ∀ z, (Z ++ ss.drop i).set i z = Z ++ [z] ++ ss.drop (i + 1) := fun z => by
        rw [hdr, List.set_append_right _ _ (by omega), show i - Z.length = 0 by omega, List.set_cons_zero, List.append_assoc]; rfl
      have hLl : (Z ++ ss.drop i).length = ss.length := by rw [List.length_append, List.length_drop]; omega
      have hse : encQ s = [.int .i64 s.kind, s.gv, s.sv] := rfl
      have hci := ih s hsm r (h3 s hsm)
      rw [hse] at hci
      have hs1 := (quR_iff.1 (h3 s hsm)).1
      have hs2 := (quR_iff.1 (h3 s hsm)).2.1
      repeat' (first | (rw [hget]) | (rw [hse]) | ((with_reducible apply kx_ldCE (ia := inferInstance) (enc := encQ)); exact fun _ => rfl; rfl; (exact atk); (omega); (refine apk ?_)) | ((with_reducible apply kx_alloc (E := 27)); exact ty_zero; (exact qcl); intro b4; (refine apk ?_)) | ((with_reducible apply pi_pur); rfl; (exact qwt); (with_reducible apply pu_ldW); rfl; (first | assumption | exact Lent.h1 hl' | exact Lent.h2 hl' | exact Lent.h3 hl'); rfl; (refine apk ?_)) | ((with_reducible apply sw_draw (id := 5) 5 [(0, true), (1, true), (2, true), (3, true), (4, false)] [(5, false), (6, false)] [(b1, .cells [.int .i64 k, .slice a1 gs.length c1, .slice a2 ss.length c2].toArray 27 (0, 0)), (b4, .cells [.int .i64 s.kind, s.gv, s.sv].toArray 27 (0, 0))]); kernel_rfl; (exact atks); kernel_rfl; intro r' hl') | (refine acl Tryz.func60 ?_; refine acr (hci.up hl'.1) ?_; rintro v' H' ⟨s', hks, hos, rfl, rfl⟩; all_goals refine apl ?_) | ((with_reducible apply kx_stE (sz := 3) (enc := encQ)); exact fun _ => rfl; rfl; exact ty_size; rfl; rfl; (exact atk); exact hos; (omega); (refine apk ?_)) | ((with_reducible apply sw_joinA (c := .region 6 _ _) (As := [OwnL Z, OwnQ s']) (D := OwnL (Z ++ [s']))); ((with_reducible apply Takes.cons); (with_reducible (exact atk)); (with_reducible apply Takes.cons); (with_reducible (exact atk)); exact Takes.nil); exact ownL_snoc) | (exfalso; first | contradiction | omega) | refine aw0 ?_ | (refine ap2 ?_ ?_ <;> try intro h) | refine aw1 ?_ | (refine abx ?_; intro bb) | (refine abz ?_; intro bz) | (refine ahv ?_; intro v' hv') | (refine aac ?_; intro ac cc) | refine aw2 ?_ | (refine ap4 ?_ ?_ <;> try intro h) | apply True.intro)
      rw [Int.toNat_natCast, hset]
      exact ⟨_, by omega, i + 1, Z ++ [s'], rfl, by omega, by rw [List.map_append, hZ, htk, List.map_singleton, hks], ⟨_, atks⟩, asls⟩
    · obtain rfl : i = ss.length := by omega
      rw [List.drop_length, List.append_nil]
      rw [List.take_length] at hZ
      have hj := own_mk (gv := .slice a1 gs.length c1) (sv := .slice a2 ss.length c2) (gs := gs) (Z := Z) hk
      rw [hZl] at hj
      repeat' (first | ((with_reducible apply sw_joinA (c := .region 7 _ _) (As := [RowC 9 1 (.slice a1 gs.length c1) gs.length (gs.flatMap encTx), RowC 27 3 (.slice a2 ss.length c2) ss.length (Z.flatMap encQ), OwnL Z]) (D := OwnQ (.mk k (.slice a1 gs.length c1) gs (.slice a2 ss.length c2) Z))); ((with_reducible apply Takes.cons); (with_reducible (exact atk)); (with_reducible apply Takes.cons); (with_reducible (exact atk)); (with_reducible apply Takes.cons); (with_reducible (exact atk)); exact Takes.nil); exact hj) | (exfalso; first | contradiction | omega) | refine aw0 ?_ | (refine ap2 ?_ ?_ <;> try intro h) | refine aw1 ?_ | (refine abx ?_; intro bb) | (refine abz ?_; intro bz) | (refine ahv ?_; intro v' hv') | (refine aac ?_; intro ac cc) | refine aw2 ?_ | (refine ap4 ?_ ?_ <;> try intro h) | apply True.intro)
      ((with_reducible apply fp_ret); exact res_W rfl rfl (by (exact atk)) ty_agg ty_size rfl)
      exact HR.out _ _ _ [_] (by (exact atks)) ⟨.mk k (.slice a1 gs.length c1) gs (.slice a2 ss.length c2) Z, by rw [key_mk, hZ], rfl, rfl, rfl⟩
theorem copied_any : ∀ q : QuV, sizeQ q.key ≤ 9000000 → CopyT q
  | .mk k gv gs sv ss => fun h r hq => copied_of r _ hq h fun s _h => copied_any s (by
      have h1 : sizeQ s.key ≤ sizeQs (ss.map QuV.key) := sizeQs_mem (List.mem_map_of_mem _h)
      rw [key_mk] at h
      simp only [sizeQ] at h
      omega)
termination_by q => SizeOf.sizeOf q
decreasing_by
  have := List.sizeOf_lt_of_mem _h
  simp only [QuV.mk.sizeOf_spec, QuV.subs] at *
  omega
end Go.Proofs.YtdccjfabdfgomaaGreatDoor
