/- gram.At, maps.Keys, slices.Sorted at grams, post.Make: their contracts. -/
import Derived.Test.YtkbajhiahpkgiaaPl
import Derived.Test.YtkbajhiahpkgiaaMs
import Derived.Test.YtkbajhiahpkgiaaTy
import Derived.Test.YtkbajhiahpkgiaaGo
import Derived.Test.YtkbajhiahpkgiaaWd
import Derived.Test.YtkbajhiahpkgiaaShelf
namespace Go.Proofs.Ytkbajhiahpkgiaa
open Go.RowKit Go.Maps Go.Sort Sx

structure BytV where
  val : Value
  data : List UInt8
  deriving Inhabited
def encBy (b : BytV) : List Value := [b.val]
abbrev Rowz (r : Hp) (v : Value) (bs : List BytV) : Prop := Els r 1 encBy v bs ∧ ∀ b ∈ bs, U8S r b.val b.data
theorem at_any (r : Hp) (v : Value) (l : List UInt8) (i : Int) (hv : U8S r v l) (hl : l.length ≤ 140737488351232) : Tri Try.prog r 21 [v, .int .i64 i] [] fun w H =>
    w = (if gramAt l i then .tuple #[.string (bs ((l.drop i.toNat).take 3)), .bool true] else .tuple #[.string (bs []), .bool false]) ∧ H = [] := by
  refine Tri.free2 fun R HR => ?_
  by_cases h0 : 0 ≤ i ∧ i ≤ (l.length : Int) - 3
  · obtain ⟨h1, h2⟩ := h0
    obtain ⟨k, rfl⟩ : ∃ k : Nat, i = k := ⟨i.toNat, by omega⟩
    have hg : gramAt l k = true := by unfold gramAt; rw [decide_eq_true h1, decide_eq_true h2]; rfl
    rw [hg, if_pos rfl] at HR
    refine fn_of_sw Try.func21 rfl _ rfl ?_; simp only [Try.ntmps21, List.length_cons, List.length_nil, Nat.reduceAdd, Nat.reduceSub, List.replicate_succ, List.replicate_zero, List.nil_append, List.cons_append]
    repeat' (first | ((with_reducible apply swo_pur); (with_reducible apply pu_b2s); exact ty_el; kernel_rfl; kernel_rfl; rfl; (with_reducible assumption); (refine apk ?_)) | (refine aw0 ?_) | (refine ap2 ?_ ?_ <;> first | exact True.intro | intro h) | (refine aw1 ?_) | (refine abx ?_; intro bb) | (refine abz ?_; intro bz) | (refine ahv ?_; intro v' hv') | (refine aac ?_; intro ac cc) | (refine aw2 ?_) | (refine ap4 ?_ ?_ <;> first | exact True.intro | intro h) | (with_reducible refine tr_two ?_ ?_))
    ((with_reducible apply fp_ret); exact res_2 rfl rfl rfl)
    rw [show ((k : Int) + 3).toNat - (k : Int).toNat = 3 by omega]
    exact HR.out _ _ _ [] (by (exact atks)) ⟨rfl, rfl⟩
  · have hg : gramAt l i = false := by
      unfold gramAt
      by_cases h1 : 0 ≤ i
      · rw [decide_eq_true h1, decide_eq_false (fun h2 => h0 ⟨h1, h2⟩)]; rfl
      · rw [decide_eq_false h1]; rfl
    rw [hg, if_neg (by simp)] at HR
    refine fn_of_sw Try.func21 rfl _ rfl ?_; simp only [Try.ntmps21, List.length_cons, List.length_nil, Nat.reduceAdd, Nat.reduceSub, List.replicate_succ, List.replicate_zero, List.nil_append, List.cons_append]
    repeat' (first | (refine aw0m ?_) | (refine ap2 ?_ ?_ <;> first | exact True.intro | intro h) | (refine aw1m ?_) | (refine abx ?_; intro bb) | (refine abz ?_; intro bz) | (refine ahv ?_; intro v' hv') | (refine aac ?_; intro ac cc) | (refine aw2 ?_) | (refine ap4 ?_ ?_ <;> first | exact True.intro | intro h) | (with_reducible refine tr_two ?_ ?_))
    all_goals (((with_reducible apply fp_ret); exact res_2 rfl rfl rfl); exact HR.out _ _ _ [] (by (exact atks)) ⟨rfl, rfl⟩)
theorem keys_tri (r : Hp) (b : Nat) : Tri Try.prog r 48 [.map (some b)] [] fun w H => ∃ bm, w = .func (.func 67) #[] #[.pointer (some ⟨bm, 0, none⟩)] ∧ H = [pt bm (.cells #[.map (some b)] 84 (0, 0))] :=
  tri_iff.2 fun w g ok al => (callsIn_wide.1 (AnyZ.keys_in Try.keysL Fence.wide 5 trivial rfl (some b) w)).mono fun e w' ⟨he, hw⟩ => by
    subst hw
    obtain ⟨dd, to⟩ := alloc_to ok (.cells #[.map (some b)] 84)
    exact ⟨_, _, _, he, ⟨_, rfl, rfl⟩, ⟨_, _, dd, rfl, rfl, al⟩, to⟩
theorem sortsK_tri (m : Nat) : AnyZ.SortsIn Try.prog Try.sortedL_ren Fence.wide m :=
  ⟨fun blk off cap ss W hH hblk hsz => callsIn_wide.2 (AnyM.slices_Sort_string Try.sortL blk off cap ss W hH hblk hsz),
   fun p cap W => callsIn_wide.2 (AnyM.slices_Sort_string_none Try.sortL p cap W)⟩
theorem sizeK {D : DataW Value} {ks : List (List UInt8)} (h : ks.Perm (strKeys D)) : Maps.size D = ks.length ∨ ks = [] := by
  cases D with
  | map es => left; rw [h.length_eq]; simp [strKeys, Maps.size]
  | _ => right; exact List.Perm.eq_nil h
set_option maxRecDepth 10000 in
theorem sortedk_tri (r : Hp) (bm b n : Nat) (M : Lit → Option Value) (g : Hp) (hbm : r bm = some (.cells #[.map (some b)] 84 (0, 0))) (hm : MapC Try.prog 9 b n M g) (hs : sub g r)
    (ks : List (List UInt8)) (hd : ks.Nodup) (hk : ∀ x, x ∈ ks ↔ (M (.string x)).isSome = true) (hl : ks.length ≤ 10000000) :
    Tri Try.prog r 25 [.func (.func 67) #[] #[.pointer (some ⟨bm, 0, none⟩)]] [] fun w H => ∃ a c, w = .slice a ks.length c ∧ H = [RowC 9 1 w ks.length ((ks.mergeSort leB).map Go.Proofs.encStr)] := by
  refine (tri_row (E := 9) (sz := 1) (R := fun v n xs => ∃ a c, v = .slice a ks.length c ∧ n = ks.length ∧ xs = (ks.mergeSort leB).map Go.Proofs.encStr) fun w ro => ?_).mono fun v H ⟨n, xs, hH, a, c, hv, hn, hx⟩ => ⟨a, c, hv, by rw [hH, hn, hx]⟩
  have hbmw := ro bm _ hbm
  have hlt : bm < w.heap.size := (Array.getElem?_eq_some_iff.1 hbmw).1
  obtain ⟨D, hown, hrd⟩ := hm.own (w := w) (fun b u e => ro b u (hs b u e))
  have hp := hrd.keys hown Try.underlying9 hd hk
  have hm' : w.cell? ⟨bm, 0, none⟩ = some (.map (some b)) := by simp [World.cell?, hbmw]
  have hst := AnyZ.keys_gives (ρ := Try.keysL_ren) { Try.keysL with } Fence.wide 2 trivial rfl (by omega) bm b n D w hlt hm' hown
  have hsz : Maps.size D ≤ 10000000 := by
    rcases sizeK hp with h | h
    · omega
    · obtain ⟨es, clock, _, _, _, rfl⟩ := hown
      subst h
      have := hp.length_eq
      simp [strKeys] at this
      simp [Maps.size, ← this]
  refine (callsIn_wide.1 (AnyZ.sorted_in Try.sortedL Fence.wide 5 trivial trivial trivial trivial rfl (by omega) (sortsK_tri _) (enters_of Try.func51 (by kernel_rfl) rfl) 67 #[.pointer (some ⟨bm, 0, none⟩)] trivial (enters_of Try.func67 (by kernel_rfl) rfl) _ _ (by unfold maxLen; omega) (by omega) w hst)).mono ?_
  rintro e w' ⟨v, ss, he, hss, ho, hn, hbl⟩
  have hp2 := hss.trans hp.symm
  rw [show (ss.mergeSort fun x y => decide (x ≤ y)) = ks.mergeSort leB from mergeSort_of_perm hp2, hp2.length_eq] at ho
  refine ⟨v, _, _, he, ho, hbl, ?_⟩
  rcases ho.2 with ⟨rfl, h0⟩ | ⟨b, cap, _, rfl, _⟩
  · exact ⟨none, 0, by rw [h0], rfl, rfl⟩
  · exact ⟨_, _, rfl, rfl, rfl⟩
end Go.Proofs.Ytkbajhiahpkgiaa
