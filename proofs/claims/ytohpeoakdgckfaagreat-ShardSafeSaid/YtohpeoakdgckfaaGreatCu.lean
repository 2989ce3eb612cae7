
/- shard.cut: its contract. -/
import Derived.Test.YtohpeoakdgckfaaGreatFw
import Derived.Test.YtohpeoakdgckfaaGreatDb
namespace Go.Proofs.YtohpeoakdgckfaaGreat
open Go.RowKit Sx

theorem Sx.Yld.up {P : Program} {r r' : Hp} {k : Nat} {args : List Value} {J J1 Jx : Ch} (h : Yld P r k args J J1 Jx) (hs : sub r r') : Yld P r' k args J J1 Jx := by
  intro w g o hj
  have hdj : dj r g := fun b => (o.dj b).imp_left fun c => by
    cases e : r b with
    | none => rfl
    | some u => rw [hs b u e] at c; cases c
  have o' : Ok none r [] w g := ⟨o.emb, fun b u e => o.ro b u (hs b u e), hdj, trivial, fun _ c => by cases c⟩
  obtain ⟨fn, tmps, assign, body, hrun, hR⟩ := h w g o' hj
  refine ⟨fn, tmps, assign, body, hrun, hR.mono ?_⟩
  rintro e w' ⟨bb, h', rfl, hJ, to⟩
  refine ⟨bb, h', rfl, hJ, ⟨⟨to.ok.emb, fun b u e => ?_, fun b => ?_, trivial, fun _ c => by cases c⟩, to.os, to.tape, to.output, to.size, to.keep, to.dom, to.grew⟩⟩
  · rw [to.keep b (o.ro.lt (by simp [e])) ((o.dj b).resolve_left (by simp [e]))]; exact o.ro b u e
  · cases e : h' b with
    | none => exact .inr rfl
    | some u =>
      left
      rcases to.dom b (by simp [e]) with c | c
      · exact (o.dj b).resolve_right c
      · cases e' : r' b with
        | none => rfl
        | some u' => have := o.ro.lt (b := b) (by simp [e']); omega
/-- The files that documents cut out of bytes, each with whether it is whole. -/
def cutX : List DocV → List UInt8 → List ((List UInt8 × List UInt8) × Bool)
  | [], _ => []
  | d :: ds, b => ((d.path, b.take (min d.size.toNat b.length)), decide (((min d.size.toNat b.length : Nat) : Int) = d.size)) :: cutX ds (b.drop (min d.size.toNat b.length))
theorem cutX_len : ∀ (ds : List DocV) (b : List UInt8), (cutX ds b).length = ds.length
  | [], _ => rfl
  | d :: ds, b => by rw [cutX, List.length_cons, cutX_len ds, List.length_cons]
def argF (x : (List UInt8 × List UInt8) × Bool) (args : List Value) (C : List Ch) : Prop := ∃ a c, args = [.agg [.string (bs x.1.1), .slice a x.1.2.length c].toArray, .bool x.2] ∧ C = [U8R (.slice a x.1.2.length c) x.1.2]
set_option maxRecDepth 10000 in
set_option maxHeartbeats 2000000 in
theorem cut_seq (r : Hp) (b1 b2 : Nat) (v1 v2 : Value) (ds : List DocV) (b : List UInt8) (hd : Docs r v1 ds) (hb : U8S r v2 b) (hs : ∀ d ∈ ds, 0 ≤ d.size ∧ d.size ≤ 1048576) (hl : b.length ≤ 1000000) (hn : ds.length ≤ 1000000) : SeqG Tryz.prog r 189 [.pointer (some ⟨b1, 0, none⟩), .pointer (some ⟨b2, 0, none⟩)] argF (cutX ds b) [pt b1 (.cells [v1].toArray 66 (0, 0)), pt b2 (.cells [v2].toArray 26 (0, 0))] [] := by
  intro k J Jx hY
  refine Tri.free2 fun R HR => ?_
  rw [cutX_len] at HR
  refine fn_of_sw Tryz.func189 rfl _ rfl ?_; refine aen Tryz.ntmps189 ?_
  repeat' (first | refine aw0m ?_ | (refine ap2 ?_ ?_ <;> try intro h) | refine aw1m ?_ | (refine abx ?_; intro bb) | (refine abz ?_; intro bz) | (refine ahv ?_; intro v' hv') | (refine aac ?_; intro ac cc) | refine aw2 ?_ | (refine ap4 ?_ ?_ <;> try intro h) | apply True.intro)
  refine sw_loop (fun gm t H' => ∃ (j : Nat) (u : Value) (l : List UInt8), gm = ds.length + 1 - j ∧ (j ≤ ds.length) ∧ ((cutX ds b).drop j = cutX (ds.drop j) l) ∧ (U8S r u l) ∧ (l.length ≤ b.length) ∧ (∃ G, Takes [J j, pt b1 (.cells [v1].toArray 66 (0, 0)), pt b2 (.cells [u].toArray 26 (0, 0))] H' G) ∧ Sls t 36 [(0, .func (.yield k) #[] #[]), (2, .pointer (some ⟨b2, 0, none⟩)), (7, v1), (8, .int .i64 ds.length), (9, .int .i64 j)]) _ ⟨0, v2, b, rfl, Nat.zero_le _, rfl, hb, Nat.le_refl _, ⟨_, atks⟩, asls⟩ ?_
  rintro gm t H' ⟨j, u, l, rfl, hj, hX, hu, hll, ⟨G, hp⟩, hs'⟩
  revert t; refine sls_all ?_; iterate 31 intro uu'
  refine sw_takeG hp ?_; clear hp
  by_cases hlt : j < ds.length
  · have hjX : j < (cutX ds b).length := by rw [cutX_len]; exact hlt
    have hds := hs _ (getD_mem hlt)
    rw [List.drop_eq_getElem_cons hjX, List.drop_eq_getElem_cons hlt, show ds[j] = ds.getD j default by rw [List.getD_eq_getElem?_getD, List.getElem?_eq_getElem hlt]; rfl] at hX
    obtain ⟨d, hdd⟩ : ∃ d, ds.getD j default = d := ⟨_, rfl⟩
    rw [hdd] at hds hX
    rw [cutX] at hX
    injection hX with hx hX2
    have hde : encD d = [.string (bs d.path), .string (bs d.lang), .int .u32 d.sum, .int .i64 d.size] := rfl
    have hy := fun a c => hY j hjX _ _ ⟨a, c, rfl, rfl⟩
    rw [hx] at hy
    obtain ⟨m, hm⟩ : ∃ m, min d.size.toNat l.length = m := ⟨_, rfl⟩
    rw [hm] at hy hX2
    have hml : m ≤ l.length := by omega
    have hmin : min d.size ((l.length : Nat) : Int) = (m : Int) := by omega
    dsimp only at hy
    have hc1 : List.take (((m : Nat) : Int).toNat - Int.toNat 0) (List.drop (Int.toNat 0) l) = l.take m := rfl
    have hc2 : List.take (((l.length : Nat) : Int).toNat - ((m : Nat) : Int).toNat) (List.drop ((m : Nat) : Int).toNat l) = l.drop m := by
      rw [Int.toNat_natCast, Int.toNat_natCast]
      exact List.take_of_length_le (by rw [List.length_drop]; omega)
    repeat' (first | (rw [hdd, hde]) | (rw [hmin]) | (rw [hc1] at hv') | (rw [hc2] at hv') | ((with_reducible apply kx_alloc (E := 119)); exact ty_zero; (exact qcl); intro b5; (refine apk ?_)) | ((with_reducible apply sw_draw (id := 4) 14 [(0, true), (1, true), (2, true), (3, true), (4, true), (5, true), (8, true), (9, true), (10, true), (11, true), (6, false), (7, true), (12, false), (13, true)] [] [(b5, .cells [.string (bs d.path), .string (bs d.lang), .int .u32 d.sum, .int .i64 d.size].toArray 119 (0, 0)), (b2, .cells [u].toArray 26 (0, 0))]); kernel_rfl; (exact atks); kernel_rfl; intro r' hl') | (refine acl Tryz.func73 ?_; refine acr (clone_any _ v' (l.take m) hv' (by rw [List.length_take]; omega)) ?_; rintro v' H' ⟨a, c, rfl, rfl⟩; all_goals refine apl ?_) | ((with_reducible apply kx_yieldG); rfl; exact ((hy a c).up hl'.1); rfl; (exact atks); all_goals (refine apk ?_)) | (exfalso; first | contradiction | omega) | refine aw0 ?_ | (refine ap2 ?_ ?_ <;> try intro h) | refine aw1 ?_ | (refine abx ?_; intro bb) | (refine abz ?_; intro bz) | (refine ahv ?_; intro v' hv') | (refine aac ?_; intro ac cc) | refine aw2 ?_ | (refine ap4 ?_ ?_ <;> try intro h) | apply True.intro)
    · exact ⟨_, by omega, j + 1, v', l.drop m, rfl, by omega, hX2, hv', by rw [List.length_drop]; omega, ⟨_, atks⟩, asls⟩
    · ((with_reducible apply fp_ret); exact res_0 rfl)
      exact HR.out _ _ _ [Jx (j + 1)] (by (exact atks)) (.inr ⟨j, [], by first | exact hjX | exact hlt, rfl⟩)
  · obtain rfl : j = ds.length := by omega
    repeat' (first | (exfalso; first | contradiction | omega) | refine aw0 ?_ | (refine ap2 ?_ ?_ <;> try intro h) | refine aw1 ?_ | (refine abx ?_; intro bb) | (refine abz ?_; intro bz) | (refine ahv ?_; intro v' hv') | (refine aac ?_; intro ac cc) | refine aw2 ?_ | (refine ap4 ?_ ?_ <;> try intro h) | apply True.intro)
    ((with_reducible apply fp_end); exact res_0 rfl)
    exact HR.out _ _ _ [J _] (by (exact atks)) (.inl rfl)
end Go.Proofs.YtohpeoakdgckfaaGreat
