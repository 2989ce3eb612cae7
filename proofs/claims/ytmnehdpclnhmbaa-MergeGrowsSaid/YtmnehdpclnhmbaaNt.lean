
/- Rows of numbers that are owned, read; mudlarklaw27.awake: its contract. -/
import Derived.Test.YtmnehdpclnhmbaaNs
import Derived.Test.YtmnehdpclnhmbaaMs
namespace Go.Proofs.Ytmnehdpclnhmbaa
open Go.RowKit Go.Maps Sx

theorem Sx.Lent.h4 {r r' : Hp} {b : Nat} {o : Obj} {x y z : Nat × Obj} {bs : List (Nat × Obj)} (h : Lent r r' (x :: y :: z :: (b, o) :: bs)) : r' b = some o := h.2 _ (List.mem_cons_of_mem _ (List.mem_cons_of_mem _ (List.mem_cons_of_mem _ List.mem_cons_self)))
theorem Sx.pt_at {b : Nat} {o : Obj} {g : Hp} (h : pt b o g) : g b = some o := by
  rw [show g = one b o from h]
  simp [one]
def encRi (z : RowI) : List Value := [z.val]
theorem flat_Ri : ∀ Z : List RowI, Z.flatMap encRi = Z.map (·.val)
  | [] => rfl
  | z :: Z => by rw [List.flatMap_cons, flat_Ri Z]; rfl
theorem rowsP_in {r : Hp} : ∀ {Z : List RowI} {g : Hp}, RowsP Z g → sub g r → ∀ z ∈ Z, Els r 1 encJ z.val z.nums
  | [], _, _, _, _, hz => by cases hz
  | y :: Z, g, h, hs, z, hz => by
    obtain ⟨g1, g2, dd, rfl, h1, h2⟩ := h
    rcases List.mem_cons.1 hz with rfl | hz
    · exact ⟨fun _ => rfl, h1.sl (fun b o e => hs b o (un_left e))⟩
    · exact rowsP_in h2 (fun b o e => hs b o (un_right dd e)) z hz
abbrev RowsR (r : Hp) (v : Value) (Z : List RowI) : Prop := Els r 1 encRi v Z ∧ ∀ z ∈ Z, Els r 1 encJ z.val z.nums
theorem rowsC_read {r g : Hp} {v : Value} {rows : List (List Int)} (h : RowsC v rows g) (hs : sub g r) : ∃ Z : List RowI, Z.map (·.nums) = rows ∧ RowsR r v Z := by
  obtain ⟨Z, hZ, h1⟩ := h
  obtain ⟨g1, g2, dd, rfl, h2, g3, g4, d2, rfl, h3, _⟩ := h1
  refine ⟨Z, hZ, ⟨fun _ => rfl, ?_⟩, rowsP_in h3 fun b o e => hs b o (un_right dd (un_left e))⟩
  rw [flat_Ri]
  exact h2.sl (fun b o e => hs b o (un_left e))
theorem rows1 {Z : List RowI} {l : List Int} (h : Z.map (·.nums) = [l]) : Z.length = 1 ∧ (Z.getD 0 default) ∈ Z ∧ (Z.getD 0 default).nums = l := by
  match Z, h with
  | [⟨u, m⟩], h => exact ⟨rfl, List.mem_cons_self, by simpa using h⟩
theorem files2 {Z : List FileV} {p q : Pa} {d e : List UInt8} (h : Z.map FileV.key = [(p, d), (q, e)]) : Z.length = 2 ∧ (Z.getD 1 default).path = q := by
  match Z, h with
  | [⟨p', u, d'⟩, ⟨q', w, e'⟩], h =>
    simp only [List.map_cons, List.map_nil, FileV.key, List.cons.injEq, Prod.mk.injEq, and_true] at h
    exact ⟨rfl, h.2.1⟩
set_option maxRecDepth 10000 in
set_option maxHeartbeats 4000000 in
theorem awake27_any (r : Hp) : Tri Try.prog r 4 [] [] fun w H => w = .bool true ∧ H = [] := by
  refine Tri.free2 fun R HR => ?_
  have hpl : ∀ (r' : Hp) (b7 b11 b12 b16 : Nat) (h1 : r' b11 = some (.cells [.slice (some ⟨b7, 0, none⟩) 2 2, .slice none 0 0].toArray 36 (0, 0))) (h2 : r' b7 = some (.cells [.string (bs [97]), .slice none 0 0, .string (bs [98]), .slice none 0 0].toArray 42 (0, 0))) (h3 : r' b16 = some (.cells [.string (bs [98]), .bool false, .slice (some ⟨b12, 0, none⟩) 1 1, .string (bs [99]), .bool false, .slice none 0 0].toArray 44 (0, 0))) (h4 : r' b12 = some (.cells [.int .u8 120].toArray 5 (1, 2))),
      Tri Try.prog r' 7 [.slice (some ⟨b11, 0, none⟩) 1 1, .slice (some ⟨b16, 0, none⟩) 2 2] [] fun w H => ∃ a c a2 c2, w = .tuple #[.slice a 1 c, .slice a2 2 c2, .int .i64 0] ∧ H = [RowsC (.slice a 1 c) [[1]], FilC (.slice a2 2 c2) [([98], [120]), ([99], [])]] := fun r' b7 b11 b12 b16 h1 h2 h3 h4 => by
    have h := mplan_any r' (.slice (some ⟨b11, 0, none⟩) 1 1) (.slice (some ⟨b16, 0, none⟩) 2 2) [⟨.slice (some ⟨b7, 0, none⟩) 2 2, .slice none 0 0, [⟨[97], .slice none 0 0, []⟩, ⟨[98], .slice none 0 0, []⟩], []⟩] [⟨[98], false, .slice (some ⟨b12, 0, none⟩) 1 1, [120]⟩, ⟨[99], false, .slice none 0 0, []⟩]
      ⟨⟨fun _ => rfl, Sl.lit h1 rfl (by simp [maxLen])⟩, fun x hx => by
        obtain rfl := List.mem_singleton.1 hx
        exact ⟨⟨⟨fun _ => rfl, Sl.lit h2 rfl (by simp [maxLen])⟩, fun f hf => by
          rcases List.mem_cons.1 hf with rfl | hf
          · exact Sl.nil _ _
          · obtain rfl := List.mem_singleton.1 hf
            exact Sl.nil _ _⟩, fun _ => rfl, Sl.nil _ _⟩⟩
      ⟨⟨fun _ => rfl, Sl.lit h3 rfl (by simp [maxLen])⟩, fun x hx => by
        rcases List.mem_cons.1 hx with rfl | hx
        · exact Sl.lit h4 rfl (by simp [maxLen])
        · obtain rfl := List.mem_singleton.1 hx
          exact Sl.nil _ _⟩ (by simp) (by simp) (by simp) (by simp)
    rw [show planK ([⟨.slice (some ⟨b7, 0, none⟩) 2 2, .slice none 0 0, [⟨[97], .slice none 0 0, []⟩, ⟨[98], .slice none 0 0, []⟩], []⟩].map PartM.key) ([⟨[98], false, .slice (some ⟨b12, 0, none⟩) 1 1, [120]⟩, ⟨[99], false, .slice none 0 0, []⟩].map chK) = _ from plan_ex] at h
    exact h
  have hml : ∀ (r' : Hp) (b7 : Nat) (h2 : r' b7 = some (.cells [.string (bs [97]), .slice none 0 0, .string (bs [98]), .slice none 0 0].toArray 42 (0, 0))), Tri Try.prog r' 10 [.agg [.slice (some ⟨b7, 0, none⟩) 2 2, .slice none 0 0].toArray] [] fun w H => w = .bool true ∧ H = [] := fun r' b7 h2 =>
    mlives_any r' ⟨.slice (some ⟨b7, 0, none⟩) 2 2, .slice none 0 0, [⟨[97], .slice none 0 0, []⟩, ⟨[98], .slice none 0 0, []⟩], []⟩
      ⟨⟨⟨fun _ => rfl, Sl.lit h2 rfl (by simp [maxLen])⟩, fun f hf => by
          rcases List.mem_cons.1 hf with rfl | hf
          · exact Sl.nil _ _
          · obtain rfl := List.mem_singleton.1 hf
            exact Sl.nil _ _⟩, fun _ => rfl, Sl.nil _ _⟩ (by simp)
  refine fn_of_sw Try.func4 rfl _ rfl ?_; refine aen Try.ntmps4 ?_
  repeat' (first | ((with_reducible apply kx_bsL (d := some 7)); exact ty_el; exact ty_inf; rfl; rfl; rfl; (exact qcs); rfl; intro b7; (refine apk ?_)) | ((with_reducible apply kx_bsL (d := some 11)); exact ty_el; exact ty_inf; rfl; rfl; rfl; (exact qcs); rfl; intro b11; (refine apk ?_)) | ((with_reducible apply kx_bsL (d := some 12)); exact ty_el; exact ty_inf; rfl; rfl; rfl; (exact qcs); rfl; intro b12; (refine apk ?_)) | ((with_reducible apply kx_bsL (d := some 16)); exact ty_el; exact ty_inf; rfl; rfl; rfl; (exact qcs); rfl; intro b16; (refine apk ?_)) | ((with_reducible apply kx_mark); exact ty_el; kernel_rfl; rfl; (exact atk); (refine apk ?_)) | ((with_reducible apply kx_alloc (E := 36)); exact ty_zero; (exact qcl); intro b1; (refine apk ?_)) | ((with_reducible apply kx_lend [(b11, .cells [.slice (some ⟨b7, 0, none⟩) 2 2, .slice none 0 0].toArray 36 (0, 0)), (b7, .cells [.string (bs [97]), .slice none 0 0, .string (bs [98]), .slice none 0 0].toArray 42 (0, 0)), (b16, .cells [.string (bs [98]), .bool false, .slice (some ⟨b12, 0, none⟩) 1 1, .string (bs [99]), .bool false, .slice none 0 0].toArray 44 (0, 0)), (b12, .cells [.int .u8 120].toArray 5 (1, 2))]); (exact atks); intro r' hl'; refine acl Try.func7 ?_; refine acr (hpl _ b7 b11 b12 b16 (Lent.h1 hl') (Lent.h2 hl') (Lent.h3 hl') (Lent.h4 hl')) ?_; rintro v' H' ⟨a, c, a2, c2, rfl, rfl⟩; all_goals refine apm ?_) | ((with_reducible apply sw_lendQ (c := .region 3 _ _) (A := RowsC (.slice a 1 c) [[1]])); (with_reducible (exact atk)); intro r1 g1 hr1 hg1 hA1; (refine sw_lendQ (A := FilC (.slice a2 2 c2) [([98], [120]), ([99], [])]) (by (exact atk)) fun r2 g2 hr2 hg2 hA2 => ?_); (refine sw_lendQ (A := pt b7 (.cells [.string (bs [97]), .slice none 0 0, .string (bs [98]), .slice none 0 0].toArray 42 (0, 0))) (by (exact atk)) fun r3 g3 hr3 hg3 hA3 => ?_); obtain ⟨Z, hZ, hZe, hZb⟩ := rowsC_read hA1 fun b o e => hr3 b o (hr2 b o (hg1 b o e)); obtain ⟨hZl, hzm, hzn⟩ := rows1 hZ; have hz1 := hZb _ hzm; (obtain ⟨z, hz0⟩ : ∃ z, Z.getD 0 default = z := ⟨_, rfl⟩); rw [hz0] at hz1 hzn; (have hzl : z.nums.length = 1 := by rw [hzn]; rfl); (have hzv : z.nums.getD 0 default = 1 := by rw [hzn]; rfl); obtain ⟨Y, hY, hYe, hYb⟩ := filC_files hA2 fun b o e => hr3 b o (hg2 b o e); obtain ⟨hYl, hY1⟩ := files2 hY; (obtain ⟨y, hy0⟩ : ∃ y, Y.getD 1 default = y := ⟨_, rfl⟩); rw [hy0] at hY1) | (rw [show Z.getD (Int.toNat 0) default = z from hz0]) | (rw [show z.nums.getD (Int.toNat 0) default = 1 from hzv]) | (rw [show Y.getD (Int.toNat 1) default = y from hy0]) | (rw [hY1]) | (refine acl Try.func10 ?_; refine acr (hml r3 b7 (hg3 _ _ (pt_at hA3))) ?_; rintro v' H' ⟨rfl, rfl⟩; all_goals refine apl ?_) | refine aw0 ?_ | (refine ap2 ?_ ?_ <;> try intro h) | refine aw1 ?_ | (refine abx ?_; intro bb) | (refine abz ?_; intro bz) | (refine ahv ?_; intro v' hv') | (refine aac ?_; intro ac cc) | refine aw2 ?_ | (refine ap4 ?_ ?_ <;> try intro h) | apply True.intro)
  all_goals
    ((with_reducible apply fp_ret); exact res_1 rfl rfl)
    exact HR.out _ _ _ [] Takes.all ⟨rfl, rfl⟩
end Go.Proofs.Ytmnehdpclnhmbaa
