/- post.Put: its contract. -/
import Derived.Test.YtkbajhiahpkgiaaPt
import Derived.Test.YtkbajhiahpkgiaaWf
namespace Go.Proofs.Ytkbajhiahpkgiaa
open Go.RowKit Sx

/-- What Put tells. -/
def putE (ps : List PostP) : List UInt8 × Int := if postsOk [] ps then (putB ps, 0) else ([], 2)
theorem postsOk_mem : ∀ {ps : List PostP} {last : List UInt8}, postsOk last ps = true → ∀ x ∈ ps, postOk x = true
  | [], _, _, _, hx => by cases hx
  | p :: ps, last, h, x, hx => by
    rw [postsOk, Bool.and_eq_true, Bool.and_eq_true] at h
    rcases List.mem_cons.1 hx with rfl | hx
    · exact h.1.1
    · exact postsOk_mem h.2 x hx
theorem postOk_chain {x : PostP} (h : postOk x = true) : chainP ⟨-1, 0⟩ x.2 = true ∧ x.1.length = 3 ∧ x.2 ≠ [] := by
  unfold postOk at h
  rw [Bool.and_eq_true, Bool.and_eq_true, decide_eq_true_eq] at h
  exact ⟨h.2, h.1.1, by intro e; have := h.1.2; rw [e] at this; cases this⟩
theorem chunk_ok {a0 : PlaceV} {l : List PlaceV} (h : chainP a0 l = true) : ∀ c ∈ chunks l, (c.headD default).doc < 4000 ∧ 0 ≤ (c.headD default).doc ∧ (block1 c).length ≤ 1000 := by
  intro c hc
  obtain ⟨hn, a, ha⟩ := (chunks_all _ l a0 (Nat.le_refl _) h).2 c hc
  have h64 : c.length ≤ 64 := by
    rw [chunks_vs _ l (Nat.le_refl _)] at hc
    obtain ⟨q, _, rfl⟩ := List.mem_map.1 hc
    simp only [List.length_take]; omega
  have h1 := chain_ge c a ha
  have hp : 0 ≤ (c.headD default).doc ∧ (c.headD default).doc < 4000 := by
    cases c with
    | nil => exact absurd rfl hn
    | cons p q => exact ⟨(h1 p List.mem_cons_self).2.1, (h1 p List.mem_cons_self).2.2.1⟩
  have h2 := blockB_le c ⟨(c.headD default).doc, -1⟩ (fun p hp => (h1 p hp).2) hp.1 (Int.le_refl _)
  exact ⟨hp.2, hp.1, by unfold block1; omega⟩
theorem chunks_len {l : List PlaceV} : (chunks l).length = (l.length + 63) / 64 := by
  rw [chunks_vs _ l (Nat.le_refl _), List.length_map, List.length_range]
theorem flat1000 : ∀ L : List (List PlaceV), (∀ c ∈ L, (block1 c).length ≤ 1000) → (L.flatMap block1).length ≤ 1000 * L.length
  | [], _ => by simp
  | a :: L, h => by
    have h1 := h a List.mem_cons_self
    have h2 := flat1000 L fun z hz => h z (List.mem_cons_of_mem _ hz)
    rw [List.flatMap_cons, List.length_append, List.length_cons]; omega
theorem postB_le {x : PostP} (h : postOk x = true) (hl : x.2.length ≤ 10000) : (postB x).length ≤ 200000 := by
  obtain ⟨hc, h3, _⟩ := postOk_chain h
  have h1 := headsB_le (chunks x.2) 0 (chunk_ok hc) (Int.le_refl _)
  have h2 := flat1000 (chunks x.2) (fun c hc' => (chunk_ok hc c hc').2.2)
  have h4 := septs_len6 (n := x.2.length) (by unfold maxNum; omega)
  have h5 : (chunks x.2).length = (x.2.length + 63) / 64 := chunks_len
  unfold postB
  rw [List.length_append, List.length_append, List.length_append]
  omega
theorem texts_le {p : List UInt8} (h : p.length ≤ 200000) : (texts p).length ≤ 200006 := by
  have := septs_len6 (n := p.length) (by unfold maxNum; omega)
  unfold texts; rw [List.length_append]; omega
theorem putB_le : ∀ ps : List PostP, (∀ x ∈ ps, (postB x).length ≤ 200000) → (ps.flatMap fun x => texts (postB x)).length ≤ 200006 * ps.length
  | [], _ => by simp
  | a :: L, h => by
    have h1 := texts_le (h a List.mem_cons_self)
    have h2 := putB_le L fun z hz => h z (List.mem_cons_of_mem _ hz)
    rw [List.flatMap_cons, List.length_append, List.length_cons]; omega
set_option maxRecDepth 10000 in
set_option maxHeartbeats 2000000 in
theorem put_post_any (r : Hp) (v : Value) (xs : List PostV) (hv : Posts r v xs) (hb : ∀ x ∈ xs, x.pl.length ≤ 10000) (hn : xs.length ≤ 10000) : Tri Try.prog r 13 [v] [] fun w H => ∃ a c, w = .tuple #[.slice a (putE (xs.map unP)).1.length c, .int .i64 (putE (xs.map unP)).2] ∧ H = [U8R (.slice a (putE (xs.map unP)).1.length c) (putE (xs.map unP)).1] := by
  refine Tri.free2 fun R HR => ?_
  have hrt := right_post_any r v xs hv
  have hve := hv.1
  cases hok : postsOk [] (xs.map unP)
  · rw [hok] at hrt
    rw [show putE (xs.map unP) = ([], 2) by unfold putE; rw [hok]; rfl] at HR
    refine fn_of_sw Try.func13 rfl _ rfl ?_; simp only [Try.ntmps13, List.length_cons, List.length_nil, Nat.reduceAdd, Nat.reduceSub, List.replicate_succ, List.replicate_zero, List.nil_append, List.cons_append]
    refine sw_put (A := U8R (.slice none 0 0) []) (RowC.nil _ _) ?_
    repeat' (first | (refine aw0m ?_) | (refine ap2 ?_ ?_ <;> first | exact True.intro | intro h) | ((with_reducible apply kx_call (f := 22) (cap := [])); exact goesOf Try.func22 (by kernel_rfl) rfl; rfl; rfl; exact (hrt); (exact atks); rintro v' H' ⟨rfl, rfl⟩; all_goals ((try simp only [List.nil_append]); (refine apk ?_))) | (exfalso; contradiction) | (refine aw1m ?_) | (refine abx ?_; intro bb) | (refine abz ?_; intro bz) | (refine ahv ?_; intro v' hv') | (refine aac ?_; intro ac cc) | (refine aw2 ?_) | (refine ap4 ?_ ?_ <;> first | exact True.intro | intro h) | (with_reducible refine tr_two ?_ ?_))
    ((with_reducible apply fp_ret); exact res_2 rfl rfl rfl)
    exact HR.out _ _ _ [_] (by (exact atks)) ⟨none, 0, rfl, rfl⟩
  · rw [hok] at hrt
    rw [show putE (xs.map unP) = (putB (xs.map unP), 0) by unfold putE; rw [hok]; rfl] at HR
    have hpo : ∀ x ∈ xs, postOk (unP x) = true := fun x hx => postsOk_mem hok _ (List.mem_map_of_mem hx)
    have hpl : ∀ x ∈ xs, (postB (unP x)).length ≤ 200000 := fun x hx => postB_le (hpo x hx) (hb x hx)
    clear hok
    refine fn_of_sw Try.func13 rfl _ rfl ?_; simp only [Try.ntmps13, List.length_cons, List.length_nil, Nat.reduceAdd, Nat.reduceSub, List.replicate_succ, List.replicate_zero, List.nil_append, List.cons_append]
    refine sw_put (A := U8R (.slice none 0 0) []) (RowC.nil _ _) ?_
    repeat' (first | (refine aw0m ?_) | (refine ap2 ?_ ?_ <;> first | exact True.intro | intro h) | ((with_reducible apply kx_call (f := 22) (cap := [])); exact goesOf Try.func22 (by kernel_rfl) rfl; rfl; rfl; exact (hrt); (exact atks); rintro v' H' ⟨rfl, rfl⟩; all_goals ((try simp only [List.nil_append]); (refine apk ?_))) | (exfalso; contradiction) | ((with_reducible apply kx_lend [(bz, .cells [.int .i64 xs.length].toArray 3 (0, 0))]); (exact atks); intro r' hl'; (with_reducible apply kx_call (f := 32) (cap := [])); exact goesOf Try.func32 (by kernel_rfl) rfl; rfl; rfl; exact (number1_any _ bb (.slice none 0 0) [] _ xs.length (Sl.lit (n := 1) (Lent.h1 hl') rfl (by simp [maxLen])) (by unfold maxNum; omega) (by simp)); (exact atks); rintro v' H' ⟨w', rfl⟩; all_goals ((try simp only [pts, List.map_cons, List.map_nil, List.cons_append, List.nil_append]); (refine apk ?_))) | (refine aw1m ?_) | (refine abx ?_; intro bb) | (refine abz ?_; intro bz) | (refine ahv ?_; intro v' hv') | (refine aac ?_; intro ac cc) | (refine aw2 ?_) | (refine ap4 ?_ ?_ <;> first | exact True.intro | intro h) | (with_reducible refine tr_two ?_ ?_))
    revert bb; intro bw
    refine sw_loop (fun gm t H' => ∃ (k : Nat) (wv : Value), gm = xs.length + 1 - k ∧ (k ≤ xs.length) ∧ (∃ G, Takes [pt bw (wri wv false), U8R wv (septs xs.length ++ ((xs.take k).map unP).flatMap fun x => texts (postB x))] H' G) ∧ (t.length = 26 ∧ t[4]? = some (.pointer (some ⟨bw, 0, none⟩)) ∧ t[14]? = some (v) ∧ t[15]? = some (.int .i64 xs.length) ∧ t[16]? = some (.int .i64 k))) _ ⟨0, w', rfl, Nat.zero_le _, ⟨_, by simp only [List.take_zero, List.map_nil, List.flatMap_nil, List.append_nil]; (exact atks)⟩, rfl, (by first | rfl | exact congrArg some (congrArg (Value.int _) (by omega)) | exact congrArg some (congrArg (fun n => Value.slice _ n _) (by omega)) | (congr 2 <;> omega)), (by first | rfl | exact congrArg some (congrArg (Value.int _) (by omega)) | exact congrArg some (congrArg (fun n => Value.slice _ n _) (by omega)) | (congr 2 <;> omega)), (by first | rfl | exact congrArg some (congrArg (Value.int _) (by omega)) | exact congrArg some (congrArg (fun n => Value.slice _ n _) (by omega)) | (congr 2 <;> omega)), (by first | rfl | exact congrArg some (congrArg (Value.int _) (by omega)) | exact congrArg some (congrArg (fun n => Value.slice _ n _) (by omega)) | (congr 2 <;> omega))⟩ ?_
    rintro gm t H' ⟨k, wv, rfl, hk, ⟨G, hp⟩, hlen, e4, e14, e15, e16⟩
    revert e4 e14 e15 e16; revert t; refine all_len (n := 26) ?_; iterate 26 intro uu'
    intro e4 e14 e15 e16; cases e4; cases e14; cases e15; cases e16
    refine sw_takeG hp ?_
    clear hp
    by_cases hlt : k < xs.length
    · have hx := hv.2 _ (getD_mem hlt)
      have hm := getD_mem hlt
      have hch := (postOk_chain (hpo _ hm)).1
      have hbl := hb _ hm
      have hg3 : (xs.getD k default).gram.length = 3 := (postOk_chain (hpo _ hm)).2.1
      have hpst := posting_any r (xs.getD k default) ⟨-1, 0⟩ hx hch (by omega) (by omega)
      have hpl1 := hpl _ hm
      have htk : xs.take (k + 1) = xs.take k ++ [xs.getD k default] := by
        rw [List.take_succ_eq_append_getElem hlt, List.getD_eq_getElem?_getD, List.getElem?_eq_getElem hlt]; rfl
      have hlen : (septs xs.length ++ ((xs.take k).map unP).flatMap fun x => texts (postB x)).length ≤ 6 + 200006 * k := by
        have h1 := putB_le ((xs.take k).map unP) (fun x hx => by
          obtain ⟨z, hz, rfl⟩ := List.mem_map.1 hx
          exact hpl z (List.mem_of_mem_take hz))
        rw [List.length_map, List.length_take] at h1
        have h2 := septs_len6 (n := xs.length) (by unfold maxNum; omega)
        rw [List.length_append]; omega
      have htx := texts_le hpl1
      have hnx : (septs xs.length ++ ((xs.take (k + 1)).map unP).flatMap fun x => texts (postB x)) = (septs xs.length ++ ((xs.take k).map unP).flatMap fun x => texts (postB x)) ++ texts (postB (unP (xs.getD k default))) := by
        rw [htk, List.map_append, List.flatMap_append, List.append_assoc]; simp
      generalize (septs xs.length ++ ((xs.take k).map unP).flatMap fun x => texts (postB x)) = W at *
      generalize postB (unP (xs.getD k default)) = B at *
      repeat' (first | (refine aw0m ?_) | (refine ap2 ?_ ?_ <;> first | exact True.intro | intro h) | ((with_reducible apply kx_call (f := 34) (cap := [])); exact goesOf Try.func34 (by kernel_rfl) rfl; rfl; rfl; exact (hpst); (exact atks); rintro v' H' ⟨a, c, rfl, rfl⟩; all_goals ((try simp only [List.cons_append, List.nil_append]); (refine apk ?_))) | ((with_reducible apply kx_lendC (A := U8R (.slice a B.length c) B)); (exact atk); intro r1 g1 hr1 hg1 hA1; ((with_reducible apply kx_lend [(bz, .cells [.slice a B.length c].toArray 30 (0, 0))]); (exact atks); intro r' hl'; (with_reducible apply kx_call (f := 33) (cap := [])); exact goesOf Try.func33 (by kernel_rfl) rfl; rfl; rfl; exact (wtext1_any _ bw wv W _ _ B (Sl.lit (n := 1) (Lent.h1 hl') rfl (by simp [maxLen])) ((hA1.sl hg1).mono hl'.1) (by omega) (by omega)); (exact atks); rintro v' H' ⟨w2, rfl⟩; all_goals ((try simp only [pts, List.map_cons, List.map_nil, List.cons_append, List.nil_append]); (refine apk ?_)))) | (refine aw1m ?_) | (refine abx ?_; intro bb) | (refine abz ?_; intro bz) | (refine ahv ?_; intro v' hv') | (refine aac ?_; intro ac cc) | (refine aw2 ?_) | (refine ap4 ?_ ?_ <;> first | exact True.intro | intro h) | (with_reducible refine tr_two ?_ ?_))
      exact ⟨_, (by omega), k + 1, w2, rfl, by omega, ⟨_, by rw [hnx]; (exact atks)⟩, rfl, (by first | rfl | exact congrArg some (congrArg (Value.int _) (by omega)) | exact congrArg some (congrArg (fun n => Value.slice _ n _) (by omega)) | (congr 2 <;> omega)), (by first | rfl | exact congrArg some (congrArg (Value.int _) (by omega)) | exact congrArg some (congrArg (fun n => Value.slice _ n _) (by omega)) | (congr 2 <;> omega)), (by first | rfl | exact congrArg some (congrArg (Value.int _) (by omega)) | exact congrArg some (congrArg (fun n => Value.slice _ n _) (by omega)) | (congr 2 <;> omega)), (by first | rfl | exact congrArg some (congrArg (Value.int _) (by omega)) | exact congrArg some (congrArg (fun n => Value.slice _ n _) (by omega)) | (congr 2 <;> omega))⟩
    · obtain rfl : k = xs.length := by omega
      rw [List.take_length]
      have hlen : (septs xs.length ++ (xs.map unP).flatMap fun x => texts (postB x)).length ≤ 60000000000000 := by
        have h1 := putB_le (xs.map unP) (fun x hx => by
          obtain ⟨z, hz, rfl⟩ := List.mem_map.1 hx
          exact hpl z hz)
        rw [List.length_map] at h1
        have h2 := septs_len6 (n := xs.length) (by unfold maxNum; omega)
        rw [List.length_append]; omega
      have hB : putB (xs.map unP) = septs xs.length ++ (xs.map unP).flatMap fun x => texts (postB x) := by unfold putB; rw [List.length_map]
      rw [hB] at HR
      generalize (septs xs.length ++ (xs.map unP).flatMap fun x => texts (postB x)) = W at *
      repeat' (first | (refine aw0m ?_) | (refine ap2 ?_ ?_ <;> first | exact True.intro | intro h) | ((with_reducible apply kx_call (f := 35) (cap := [])); exact goesOf Try.func35 (by kernel_rfl) rfl; rfl; rfl; exact (wbytes_any _ bw wv W hlen); (exact atks); rintro v' H' ⟨a, c, rfl, rfl⟩; all_goals ((try simp only [List.cons_append, List.nil_append]); (refine apk ?_))) | (refine aw1m ?_) | (refine abx ?_; intro bb) | (refine abz ?_; intro bz) | (refine ahv ?_; intro v' hv') | (refine aac ?_; intro ac cc) | (refine aw2 ?_) | (refine ap4 ?_ ?_ <;> first | exact True.intro | intro h) | (with_reducible refine tr_two ?_ ?_))
      ((with_reducible apply fp_ret); exact res_2 rfl rfl rfl)
      exact HR.out _ _ _ [_] (by (exact atks)) ⟨_, _, rfl, rfl⟩
end Go.Proofs.Ytkbajhiahpkgiaa
