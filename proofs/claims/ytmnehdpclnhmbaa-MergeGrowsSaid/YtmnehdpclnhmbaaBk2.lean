
/- batch.Diff: its contract. -/
import Derived.Test.YtmnehdpclnhmbaaBj
namespace Go.Proofs.Ytmnehdpclnhmbaa
open Go.RowKit Sx

theorem bequal_any (r : Hp) (v w : Value) (l m : List UInt8) (hv : U8S r v l) (hw : U8S r w m) (_hl : l.length ≤ 1000000000) (_hm : m.length ≤ 1000000000) : Tri Try.prog r 43 [v, w] [] fun u H => u = .bool (decide (l = m)) ∧ H = [] := by
  refine Tri.free2 fun R HR => ?_
  refine fn_of_sw Try.func43 rfl _ rfl ?_; refine aen Try.ntmps43 ?_
  repeat' (first | refine aw0m ?_ | (refine ap2 ?_ ?_ <;> try intro h) | refine aw1m ?_ | (refine abx ?_; intro bb) | (refine abz ?_; intro bz) | (refine ahv ?_; intro v' hv') | (refine aac ?_; intro ac cc) | refine aw2 ?_ | (refine ap4 ?_ ?_ <;> try intro h) | apply True.intro)
  ((with_reducible apply fp_ret); exact res_1 rfl rfl)
  exact HR.out _ _ _ [] (by (exact atks)) ⟨rfl, rfl⟩
def encTk (f : FileV) : List Value := [.string (bs f.path), .bool true, .slice none 0 0]
set_option maxRecDepth 10000 in
set_option maxHeartbeats 4000000 in
theorem take_any (r : Hp) (b4 : Nat) (v : Value) (ys : List FileV) (a : Option Addr) (n c : Nat) (xs : List Value) (hv : Els r 2 encF v ys) (hvb : ∀ f ∈ ys, U8S r f.val f.data) (hn : n + ys.length ≤ 10000000) : Tri Try.prog r 42 [v, .pointer (some ⟨b4, 0, none⟩)] [pt b4 (.cells [.slice a n c].toArray 25 (0, 0)), RowC 44 3 (.slice a n c) n xs] fun _w H => ∃ a' c', H = [pt b4 (.cells [.slice a' (n + ys.length) c'].toArray 25 (0, 0)), RowC 44 3 (.slice a' (n + ys.length) c') (n + ys.length) (xs ++ ys.flatMap encTk)] := by
  refine Tri.free2 fun R HR => ?_
  refine fn_of_sw Try.func42 rfl _ rfl ?_; refine aen Try.ntmps42 ?_
  repeat' (first | refine aw0m ?_ | (refine ap2 ?_ ?_ <;> try intro h) | refine aw1m ?_ | (refine abx ?_; intro bb) | (refine abz ?_; intro bz) | (refine ahv ?_; intro v' hv') | (refine aac ?_; intro ac cc) | refine aw2 ?_ | (refine ap4 ?_ ?_ <;> try intro h) | apply True.intro)
  refine sw_loop (fun gm t H' => ∃ (k : Nat) (a : Option Addr) (c : Nat), gm = ys.length + 1 - k ∧ (k ≤ ys.length) ∧ (∃ G, Takes [pt b4 (.cells [.slice a (n + k) c].toArray 25 (0, 0)), RowC 44 3 (.slice a (n + k) c) (n + k) (xs ++ (ys.take k).flatMap encTk)] H' G) ∧ Sls t 18 [(1, .pointer (some ⟨b4, 0, none⟩)), (5, v), (6, .int .i64 ys.length), (7, .int .i64 k)]) _ ⟨0, a, c, rfl, Nat.zero_le _, ⟨_, by rw [List.take_zero, List.flatMap_nil, List.append_nil, Nat.add_zero]; exact atks⟩, asls⟩ ?_
  rintro gm t H' ⟨k, a, c, rfl, hk, ⟨G, hp⟩, hs'⟩
  revert t; refine sls_all ?_; iterate 14 intro uu'
  refine sw_takeG hp ?_; clear hp
  by_cases hlt : k < ys.length
  · obtain ⟨f, hf⟩ : ∃ f, ys.getD k default = f := ⟨_, rfl⟩
    have hfm : f ∈ ys := hf ▸ getDm hlt
    have htk : ys.take (k + 1) = ys.take k ++ [f] := by rw [take_getD (d := default) hlt, hf]
    have hfv := hvb f hfm
    obtain ⟨p, fv, fd⟩ := f
    dsimp only at hfv
    have hfe : encF ⟨p, fv, fd⟩ = [.string (bs p), fv] := rfl
    repeat' (first | (rw [hf, hfe]) | ((with_reducible apply kx_alloc (E := 42)); exact ty_zero; (exact qcl); intro b6; (refine apk ?_)) | (first | ((with_reducible apply kx_bs1); exact ty_el; exact ty_inf; rfl; rfl; rfl; intro bz; (refine apk ?_)) | ((with_reducible apply kx_bsN); exact ty_el; exact ty_inf; rfl; rfl; rfl; intro bz; (refine apk ?_))) | ((with_reducible refine swo_isApp ?_); (with_reducible apply kx_lend [(bz, .cells [.string (bs p), .bool true, .slice none 0 0].toArray 44 (0, 0))]); (exact atks); intro r5 hl5; (with_reducible apply kx_appS (news := [.string (bs p), .bool true, .slice none 0 0])); exact ty_el; exact ty_inf; rfl; rfl; rfl; rfl; exact (Sl.lit (n := 1) (Lent.h1 hl5) rfl (by simp [maxLen])); (exact atk); rfl; (unfold maxLen; omega); (omega); intro a' c'; refine apm ?_) | (exfalso; first | contradiction | omega) | refine aw0 ?_ | (refine ap2 ?_ ?_ <;> try intro h) | refine aw1 ?_ | (refine abx ?_; intro bb) | (refine abz ?_; intro bz) | (refine ahv ?_; intro v' hv') | (refine aac ?_; intro ac cc) | refine aw2 ?_ | (refine ap4 ?_ ?_ <;> try intro h) | apply True.intro)
    exact ⟨_, by omega, k + 1, a', c', rfl, by omega, ⟨_, by rw [htk, List.flatMap_append, ← List.append_assoc, show [(⟨p, fv, fd⟩ : FileV)].flatMap encTk = [.string (bs p), .bool true, .slice none 0 0] from rfl, ← Nat.add_assoc]; exact atks⟩, asls⟩
  · obtain rfl : k = ys.length := by omega
    rw [List.take_length]
    repeat' (first | (exfalso; first | contradiction | omega) | refine aw0 ?_ | (refine ap2 ?_ ?_ <;> try intro h) | refine aw1 ?_ | (refine abx ?_; intro bb) | (refine abz ?_; intro bz) | (refine ahv ?_; intro v' hv') | (refine aac ?_; intro ac cc) | refine aw2 ?_ | (refine ap4 ?_ ?_ <;> try intro h) | apply True.intro)
    ((with_reducible apply fp_end); exact res_0 rfl)
    exact HR.out _ _ _ [pt b4 _, RowC 44 3 _ _ _] (by (exact atks)) ⟨a, c, rfl⟩
def takeV (f : FileV) : ChV := ⟨f.path, true, .slice none 0 0, []⟩
def bytCh (x : ChV) : BytV := ⟨x.val, x.data⟩
/-- Changes that are owned, with their bytes. -/
def ChC (v : Value) (ks : List ChK) : Ch := fun h => ∃ W : List ChV, W.map chK = ks ∧ all [RowC 44 3 v W.length (W.flatMap encCh), ByC (W.map bytCh)] h
theorem byC_takes {Z : List BytV} {h : Hp} (e : ByC Z h) : ∀ ys : List FileV, ByC (Z ++ ys.map fun f => bytCh (takeV f)) h
  | [] => by rw [List.map_nil, List.append_nil]; exact e
  | y :: ys => by
    have h1 : ByC (Z ++ [(⟨.slice none 0 0, []⟩ : BytV)]) h := byC_snoc h ⟨h, emp, dj_emp, un_emp.symm, e, emp, emp, dj_emp, un_emp.symm, RowC.nil _ _, rfl⟩
    have h2 := byC_takes h1 ys
    rw [List.append_assoc] at h2
    exact h2
theorem len_diffK : ∀ (b a : List KeyM), (diffK a b).length ≤ a.length + b.length
  | [], a => by simp [diffK]
  | f :: b, a => by
    have ih := len_diffK b (a.filter fun x => decide (f.1 < x.1))
    have h2 : (a.filter fun x => decide (x.1 < f.1)).length + (a.filter fun x => decide (f.1 < x.1)).length ≤ a.length := by
      clear ih
      induction a with
      | nil => simp
      | cons x a ih =>
        rw [List.filter_cons, List.filter_cons]
        by_cases h1 : x.1 < f.1
        · have h2 : ¬ f.1 < x.1 := fun h => pa_irr _ (pa_tr h h1)
          simp only [h1, h2, decide_true, decide_false, if_true, Bool.false_eq_true, if_false, List.length_cons]
          omega
        · by_cases h2 : f.1 < x.1
          · simp only [h1, h2, decide_true, decide_false, if_true, Bool.false_eq_true, if_false, List.length_cons]
            omega
          · simp only [h1, h2, decide_false, Bool.false_eq_true, if_false, List.length_cons]
            omega
    unfold diffK
    rw [List.length_append, List.length_append, List.length_map, List.length_cons]
    split
    · simp only [List.length_nil]; omega
    · simp only [List.length_singleton]; omega
theorem diff_step {fs : List FileV} {g : FileV} {q : Nat} (hR : RisK (fs.map FileV.key)) (hq : atK fs g.path q) (rest : List KeyM) :
    diffK (fs.map FileV.key) (g.key :: rest) = ((fs.take q).map takeV).map chK ++ ((if (q < fs.length ∧ (fs.getD q default).path = g.path) ∧ (fs.getD q default).data = g.data then [] else [putC g.key]) ++ diffK ((if q < fs.length ∧ (fs.getD q default).path = g.path then fs.drop (q + 1) else fs.drop q).map FileV.key) rest) := by
  rw [atK_drop hR hq, atK_take hq]
  have h1 : (fs.filter fun f => decide (f.path < g.path)).map FileV.key = (fs.map FileV.key).filter fun x => decide (x.1 < g.key.1) := by rw [List.filter_map]; rfl
  have h2 : (fs.filter fun f => decide (g.path < f.path)).map FileV.key = (fs.map FileV.key).filter fun x => decide (g.key.1 < x.1) := by rw [List.filter_map]; rfl
  rw [h2, List.map_map, show chK ∘ takeV = takeC ∘ FileV.key from rfl, ← List.map_map, h1]
  have h3 : g.key ∈ fs.map FileV.key ↔ (q < fs.length ∧ (fs.getD q default).path = g.path) ∧ (fs.getD q default).data = g.data := by
    constructor
    · intro h
      obtain ⟨x, hx, e⟩ := List.mem_map.1 h
      obtain ⟨i, hi, rfl⟩ := List.getElem_of_mem hx
      have e1 : fs[i].path = g.path := congrArg Prod.fst e
      have e2 : fs[i].data = g.data := congrArg Prod.snd e
      have hgi : fs.getD i default = fs[i] := by rw [List.getD_eq_getElem?_getD, List.getElem?_eq_getElem hi]; rfl
      have hiq : i = q := by
        rcases Nat.lt_trichotomy i q with c | c | c
        · have := hq.2.1 i c
          rw [hgi, e1] at this
          exact absurd this (pa_irr _)
        · exact c
        · have hq2 := hq.2.2 q (Nat.le_refl _) (by omega)
          have h4 := List.pairwise_iff_getElem.1 hR q i (by rw [List.length_map]; omega) (by rw [List.length_map]; exact hi) c
          rw [List.getElem_map, List.getElem_map] at h4
          have h5 : fs[q].path < fs[i].path := h4
          rw [e1] at h5
          rw [List.getD_eq_getElem?_getD, List.getElem?_eq_getElem (show q < fs.length by omega)] at hq2
          exact absurd h5 hq2
      subst hiq
      rw [hgi]
      exact ⟨⟨hi, e1⟩, e2⟩
    · rintro ⟨⟨h4, h5⟩, h6⟩
      exact List.mem_map.2 ⟨_, getDm h4, Prod.ext h5 h6⟩
  rw [show diffK (fs.map FileV.key) (g.key :: rest) = ((fs.map FileV.key).filter fun x => decide (x.1 < g.key.1)).map takeC ++ ((if g.key ∈ fs.map FileV.key then [] else [putC g.key]) ++ diffK ((fs.map FileV.key).filter fun x => decide (g.key.1 < x.1)) rest) from rfl]
  simp only [h3]
end Go.Proofs.Ytmnehdpclnhmbaa
