
/- gram.Grams: its contract. -/
import Derived.Test.YtdccjfabdfgomaaGreatDoorOl
namespace Go.Proofs.YtdccjfabdfgomaaGreatDoor
open Go.RowKit Go.Maps Sx

/-- An array in a block, sliced whole. -/
theorem Sx.pu_slAll {P : Program} {r : Hp} {t : List Value} {d : Option Tmp} {ty : TypeId} {pos : String} {af : Array Edge} {gd : Option (Nat × Bool)} {T E : TypeId} {m sz : Nat} {x : Operand} {b : Nat} (hu : P.underlying T = some (.array m E)) (hs : sizeB P E = some sz) (hx : evO t x = some (.pointer (some ⟨b, 0, none⟩))) (h0 : 0 < m) :
    Pur P r t ⟨d, .slice T x none none none, ty, pos, af, gd⟩ (.slice (some ⟨b, 0, none⟩) m m) :=
  ⟨rfl, fun w _ => by
    have h1 : ¬ m = 0 := by omega
    simp [execOp, Instr.sliceAt, Instr.sureAddr, Instr.sliceBounds, ev_of hx, Sem.run_bind, Result.andThen, run_underlying hu, run_sizeOf hs, Addr.add]⟩
theorem row_lenG (l : List Tx) : (sortBy id l).length ≤ l.length := by
  have h : ∀ (l m : List Tx), (l.foldl (insBy id) m).length ≤ m.length + l.length := fun l => by
    induction l with
    | nil => intro m; simp
    | cons x l ih =>
      intro m
      have h1 := ih (insBy id m x)
      have h2 : (insBy id m x).length ≤ m.length + 1 := by
        clear h1 ih
        induction m with
        | nil => simp [insBy]
        | cons y m ihm =>
          unfold insBy
          split
          · simp only [List.length_cons]; omega
          · split
            · simp
            · simp
      simp only [List.foldl_cons, List.length_cons]; omega
  have := h l []
  simpa [sortBy] using this
theorem byts_u8s : ∀ l : List UInt8, Byts (u8s l) l
  | [] => .nil
  | a :: l => by
    have h := Byts.cons (n := (a.toNat : Int)) (cs := u8s l) (bl := l) (by have := a.toNat_lt; omega) (byts_u8s l)
    rw [show UInt8.ofNat ((a.toNat : Int)).toNat = a by simp] at h
    exact h
set_option maxRecDepth 10000 in
set_option maxHeartbeats 4000000 in
theorem ggrams_any (r : Hp) (v : Value) (l : List UInt8) (hv : U8S r v l) (hl : l.length ≤ 1000000) : Tri Tryz.prog r 9 [v] [] fun w H => ∃ a c, w = .slice a (sortBy id (partsT l)).length c ∧ H = [TxC a c (sortBy id (partsT l))] := by
  have hpl := places_any r v l hv hl
  have hsl : (sortBy id (partsT l)).length ≤ 1000000 := by
    have h2 := partsN_len l
    have h3 := row_lenG (partsT l)
    omega
  obtain ⟨S, hS⟩ : ∃ S, sortBy id (partsT l) = S := ⟨_, rfl⟩
  rw [hS] at hpl hsl ⊢
  refine Tri.free2 fun R HR => ?_
  refine fn_of_sw Tryz.func9 rfl _ rfl ?_; refine aen Tryz.ntmps9 ?_
  repeat' (first | (refine acl Tryz.func24 ?_; refine acr (hpl) ?_; rintro v' H' ⟨bm, a0, c0, gs, hgs, rfl, rfl⟩; all_goals refine apl ?_) | (exfalso; first | contradiction | omega) | refine aw0 ?_ | (refine ap2 ?_ ?_ <;> try intro h) | refine aw1 ?_ | (refine abx ?_; intro bb) | (refine abz ?_; intro bz) | (refine ahv ?_; intro v' hv') | (refine aac ?_; intro ac cc) | refine aw2 ?_ | (refine ap4 ?_ ?_ <;> try intro h) | apply True.intro)
  have hgl : gs.length = S.length := by rw [← hgs, List.length_map]
  refine sw_put (A := TxC none 0 []) (RowC.nil _ _) ?_
  refine sw_lendQ (A := RowC 64 3 (.slice a0 gs.length c0) gs.length (gs.flatMap encG3)) (by (exact atk)) fun r2 g2 hr2 hg2 hA2 => ?_
  have hE : Els r2 3 encG3 (.slice a0 gs.length c0) gs := ⟨fun _ => rfl, hA2.sl hg2⟩
  refine sw_loop (fun gm t H' => ∃ (k : Nat) (a : Option Addr) (c : Nat), gm = gs.length + 1 - k ∧ (k ≤ gs.length) ∧ (∃ G, Takes [TxC a c ((gs.take k).map txG)] H' G) ∧ Sls t 25 [(2, .slice a ((gs.take k).map txG).length c), (12, .slice a0 gs.length c0), (13, .int .i64 gs.length), (14, .int .i64 k)]) _ ⟨0, none, 0, rfl, Nat.zero_le _, ⟨_, atks⟩, asls⟩ ?_
  rintro gm t H' ⟨k, a, c, rfl, hk, ⟨G, hp⟩, hs'⟩
  revert t; refine sls_all ?_; iterate 21 intro uu'
  refine sw_takeG hp ?_; clear hp
  by_cases hlt : k < gs.length
  · obtain ⟨g, hx⟩ : ∃ g, gs.getD k default = g := ⟨_, rfl⟩
    have hse : encG3 g = [.int .u8 g.1.toNat, .int .u8 g.2.1.toNat, .int .u8 g.2.2.toNat] := rfl
    have htk : (gs.take (k + 1)).map txG = (gs.take k).map txG ++ [txG g] := by rw [take_getD (d := default) hlt, hx, List.map_append]; rfl
    have htl : ((gs.take k).map txG).length ≤ gs.length := by rw [List.length_map, List.length_take]; omega
    obtain ⟨Y, hY⟩ : ∃ Y, (gs.take k).map txG = Y := ⟨_, rfl⟩
    rw [hY] at htk htl
    rw [hY]
    have hln2 : ((gs.take (k + 1)).map txG).length = Y.length + 1 := by rw [htk, List.length_append]; rfl
    repeat' (first | (rw [hx]) | (rw [hse]) | ((with_reducible apply kx_alloc (E := 64)); exact ty_zero; (exact qcl); intro b6; (refine apk ?_)) | ((with_reducible apply swo_pur); (with_reducible apply pu_slAll); exact Tryz.underlying64; exact ty_size; rfl; omega; (refine apk ?_)) | ((with_reducible apply kx_b2sp (b := b6) (bl := txG g) (cs := [.int .u8 g.1.toNat, .int .u8 g.2.1.toNat, .int .u8 g.2.2.toNat])); exact ty_el; kernel_rfl; kernel_rfl; rfl; (exact atk); exact byts_u8s (txG g); rfl; (refine apk ?_)) | (first | ((with_reducible apply kx_append1); exact ty_el; exact ty_inf; rfl; rfl; rfl; (exact atk); (exact atk); rfl; omega; intro a' c'; (refine apk ?_)) | ((with_reducible apply kx_appendN); exact ty_el; exact ty_inf; rfl; rfl; rfl; rfl; (exact atk); (exact atk); rfl; rfl; omega; intro a' c'; (refine apk ?_))) | (exfalso; first | contradiction | omega) | refine aw0 ?_ | (refine ap2 ?_ ?_ <;> try intro h) | refine aw1 ?_ | (refine abx ?_; intro bb) | (refine abz ?_; intro bz) | (refine ahv ?_; intro v' hv') | (refine aac ?_; intro ac cc) | refine aw2 ?_ | (refine ap4 ?_ ?_ <;> try intro h) | apply True.intro)
    exact ⟨_, by omega, k + 1, a', c', rfl, by omega, ⟨_, by rw [htk, txC_snoc]; exact atks⟩, asls⟩
  · obtain rfl : k = gs.length := by omega
    rw [List.take_length, hgs]
    repeat' (first | (exfalso; first | contradiction | omega) | refine aw0 ?_ | (refine ap2 ?_ ?_ <;> try intro h) | refine aw1 ?_ | (refine abx ?_; intro bb) | (refine abz ?_; intro bz) | (refine ahv ?_; intro v' hv') | (refine aac ?_; intro ac cc) | refine aw2 ?_ | (refine ap4 ?_ ?_ <;> try intro h) | apply True.intro)
    ((with_reducible apply fp_ret); exact res_1 rfl rfl)
    exact HR.out _ _ _ [TxC a c S] (by (exact atks)) ⟨a, c, rfl, rfl⟩
end Go.Proofs.YtdccjfabdfgomaaGreatDoor
