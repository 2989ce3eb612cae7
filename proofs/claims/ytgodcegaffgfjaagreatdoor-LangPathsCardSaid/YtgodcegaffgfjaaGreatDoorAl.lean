
/- lang.All, slices.Sorted, slices.Compact, slices.Contains, strings.Contains at strings: their contracts. -/
import Derived.Test.YtgodcegaffgfjaaGreatDoorKn
import Derived.Test.YtgodcegaffgfjaaGreatDoorAlp
import Derived.Test.YtgodcegaffgfjaaGreatDoorMp
import Derived.Test.YtgodcegaffgfjaaGreatDoorLa
import Derived.Test.YtgodcegaffgfjaaGreatDoorTy
import Derived.Test.YtgodcegaffgfjaaGreatDoorGo
import Derived.Test.YtgodcegaffgfjaaGreatDoorShelf
namespace Go.Proofs.YtgodcegaffgfjaaGreatDoor
open Go.RowKit Go.Maps Go.Sort Sx

theorem langs_tri (r : Hp) : Tri Tryz.prog r 30 [] [] fun w H => ∃ b, w = .map (some b) ∧ H = [pt b (.map (entA tbl) 22)] :=
  tri_iff.2 fun w g ok al => (langs_any w).mono fun e w' ⟨he, hw⟩ => by
    subst hw
    obtain ⟨dd, tq⟩ := alloc_to ok (.map (E 22) 22)
    exact ⟨_, _, _, he, ⟨_, rfl, rfl⟩, ⟨_, _, dd, rfl, rfl, al⟩, tq⟩
theorem values_tri (r : Hp) (b : Nat) : Tri Tryz.prog r 29 [.map (some b)] [] fun w H => ∃ bm, w = .func (.func 52) #[] #[.pointer (some ⟨bm, 0, none⟩)] ∧ H = [pt bm (.cells #[.map (some b)] 56 (0, 0))] :=
  tri_iff.2 fun w g ok al => (callsIn_wide.1 (AnyYS.values_in Tryz.valuesL Fence.wide 5 trivial rfl (some b) w)).mono fun e w' ⟨he, hw⟩ => by
    subst hw
    obtain ⟨dd, tq⟩ := alloc_to ok (.cells #[.map (some b)] 56)
    exact ⟨_, _, _, he, ⟨_, rfl, rfl⟩, ⟨_, _, dd, rfl, rfl, al⟩, tq⟩
theorem sorts_tri (m : Nat) : AnyZ.SortsIn Tryz.prog Tryz.sortedL_ren Fence.wide m :=
  ⟨fun blk off cap ss W hH hblk hsz => callsIn_wide.2 (AnyM.slices_Sort_string Tryz.sortL blk off cap ss W hH hblk hsz),
   fun p cap W => callsIn_wide.2 (AnyM.slices_Sort_string_none Tryz.sortL p cap W)⟩
def tblD : DataW Value := datL tbl
theorem tbl_ok : (tbl.all fun p => decide (p.1.length ≤ 100) && decide (p.2.length ≤ 100)) = true := by decide
theorem tbl_at : (tbl.all fun p => match tblD.atKey (.string p.1) .nil with | .lit (.string v) => decide (v = (look tbl p.1).getD []) | _ => false) = true := by kernel_rfl
/-- The values, sorted. -/
def valsL : List (List UInt8) := [[99], [99], [99, 112, 112], [99, 112, 112], [99, 112, 112], [99, 115, 115], [103, 111], [104, 116, 109, 108], [106, 97, 118, 97], [106, 97, 118, 97, 115, 99, 114, 105, 112, 116], [106, 97, 118, 97, 115, 99, 114, 105, 112, 116], [106, 115, 111, 110], [109, 97, 114, 107, 100, 111, 119, 110], [112, 121, 116, 104, 111, 110], [114, 117, 98, 121], [114, 117, 115, 116], [115, 104, 101, 108, 108], [115, 113, 108], [116, 101, 120, 116], [116, 121, 112, 101, 115, 99, 114, 105, 112, 116], [121, 97, 109, 108], [121, 97, 109, 108]]
theorem valsL_sort : valsL.Pairwise (fun a b => leB a b = true) := by decide
theorem valsL_perm : (tbl.map (·.2)).Perm valsL := by decide
theorem sort_vals {ss : List (List UInt8)} (h : ss.Perm (tbl.map (·.2))) : ss.mergeSort leB = valsL := by
  rw [mergeSort_of_perm (h.trans valsL_perm)]
  exact List.mergeSort_of_pairwise valsL_sort
set_option maxRecDepth 10000 in
theorem sortedv_tri (r : Hp) (bm b : Nat) (hbm : r bm = some (.cells #[.map (some b)] 56 (0, 0))) (hb : r b = some (.map (entA tbl) 22)) :
    Tri Tryz.prog r 28 [.func (.func 52) #[] #[.pointer (some ⟨bm, 0, none⟩)]] [] fun w H => ∃ a c, w = .slice a 22 c ∧ H = [RowC 9 1 w 22 (valsL.map encStr)] := by
  refine (tri_row (E := 9) (sz := 1) (R := fun v n xs => ∃ a c, v = .slice a 22 c ∧ n = 22 ∧ xs = valsL.map encStr) fun w ro => ?_).mono fun v H ⟨n, xs, hH, a, c, hv, hn, hx⟩ => ⟨a, c, hv, by rw [hH, hn, hx]⟩
  have hbw := ro b _ hb
  have hbmw := ro bm _ hbm
  have hlt : bm < w.heap.size := (Array.getElem?_eq_some_iff.1 hbmw).1
  have htb := List.all_eq_true.1 tbl_ok
  have hown : w.ownsMap (H := Value) Tryz.prog 9 (plainElem Tryz.prog 9) b 22 tblD := own_lit Tryz.underlying9 Tryz.underlying9 (fun p hp => by have := htb p hp; simp only [Bool.and_eq_true, decide_eq_true_eq] at this; unfold maxLen; omega) (by decide) (by decide) hbw
  have hm : w.cell? ⟨bm, 0, none⟩ = some (.map (some b)) := by simp [World.cell?, hbmw]
  have hst := (AnyYS.values_stops (ρ := Tryz.valuesL_ren) { Tryz.valuesL with } Fence.wide 2 trivial rfl (by omega) bm b 22 tblD w hlt hm hown).gives
  have hs2 : Maps.size tblD = 22 := by kernel_rfl
  rw [hs2] at hst
  refine (callsIn_wide.1 (AnyZ.sorted_in Tryz.sortedL Fence.wide 5 trivial trivial trivial trivial rfl (by omega) (sorts_tri _) (enters_of Tryz.func51 (by kernel_rfl) rfl) 52 #[.pointer (some ⟨bm, 0, none⟩)] trivial (enters_of Tryz.func52 (by kernel_rfl) rfl) _ 22 (by decide) (by decide) w hst)).mono ?_
  rintro e w' ⟨v, ss, he, ⟨ps, hps, rfl⟩, ho, hn, hbl⟩
  have hp := vals_perm (strKeys_lit tbl) (fun p hp => by
    have h1 := List.all_eq_true.1 tbl_at p hp
    refine ⟨.nil, ?_⟩
    split at h1
    · rename_i v hv
      rw [← of_decide_eq_true h1]; exact hv
    · cases h1) (by decide) hps
  have hl : (ps.map (·.2)).length = 22 := by rw [hp.length_eq]; decide
  rw [sort_vals hp] at ho
  rw [hl] at ho
  refine ⟨v, 22, _, he, ho, hbl, ?_⟩
  rcases ho.2 with ⟨_, h0⟩ | ⟨b, cap, _, rfl, _⟩
  · cases h0
  · exact ⟨_, _, rfl, rfl, rfl⟩
theorem tri_rowin {P : Program} {r : Hp} {f : FuncId} {args : List Value} {R : Rt} {E : TypeId} {sz n c : Nat} {a : Option Addr} {xs : List Value} (hn : 0 < n) (h : ∀ b cur, a = some ⟨b, 0, none⟩ → n ≤ c → c ≤ maxLen → cur.size = c * sz → cur.toList.take (n * sz) = xs → Tri P r f args [pt b (.cells cur E (0, 0))] R) :
    Tri P r f args [RowC E sz (.slice a n c) n xs] R :=
  tri_iff.2 fun w g ok al => by
    obtain ⟨g1, g2, dd, rfl, hR, rfl⟩ := al
    rcases hR.2 with ⟨_, h0, _⟩ | ⟨b, cap, cur, hv, rfl, h1, h2, h3, h4⟩
    · omega
    · injection hv with e1 e2 e3
      subst e3
      exact tri_iff.1 (h b cur e1 h1 h2 h3 h4) w _ ok ⟨_, emp, dd, rfl, rfl, rfl⟩
theorem compact_vals : Lib.compact valsL = allL := by kernel_rfl
theorem compactv_tri (r : Hp) (a : Option Addr) (c : Nat) : Tri Tryz.prog r 27 [.slice a 22 c] [RowC 9 1 (.slice a 22 c) 22 (valsL.map encStr)] fun w H => w = .slice a 17 c ∧ H = [RowC 9 1 w 17 (allL.map encStr)] := by
  refine tri_rowin (by omega) fun b cur ha h1 h2 h3 h4 => ?_
  subst ha
  refine tri_cv (tri_inplace (R := fun v cur' => v = .slice (some ⟨b, 0, none⟩) 17 c ∧ cur'.size = c * 1 ∧ cur'.toList.take (17 * 1) = allL.map encStr) fun w ro hb => ?_) fun v H ⟨cur', hH, hv, hs, ht⟩ => ?_
  · have hH : Holds encStr w b 0 valsL.toArray := holds_of_block hb (by rw [show valsL.length = 22 * 1 from rfl]; exact h4)
    refine (Tryz.slices_Compact_string b 0 c valsL w hH (by decide) h1).mono fun e w' ⟨he, q, hw⟩ => ?_
    rw [compact_vals] at he hw
    refine ⟨_, putCells encStr 0 (allL ++ List.replicate (valsL.length - allL.length) []).toArray cur, he, ?_, ?_, rfl, ?_, ?_⟩
    · rw [hw]
      simp [putRow, mapBlock, Sort.ahead, Array.getElem?_modify, hb, onCells]
    · rw [hw]
      refine ⟨rfl, rfl, rfl, by simp [putRow, mapBlock, Sort.ahead], fun k hk hne => ?_⟩
      have : b ≠ k := fun e => hne (by rw [e])
      simp [putRow, mapBlock, Sort.ahead, Array.getElem?_modify, this]
    · simp [putCells, h3]
    · have h5 := take_putCells cur (allL ++ List.replicate (valsL.length - allL.length) []) (by rw [h3]; have : (allL ++ List.replicate (valsL.length - allL.length) []).length = 22 := rfl; omega)
      have h6 := congrArg (List.take 17) h5
      rw [List.take_take] at h6
      exact h6
  · refine ⟨[RowC 9 1 v 17 (allL.map encStr)], ⟨hv, rfl⟩, fun g hg => ?_⟩
    subst hH; subst hv
    refine all_imp (fun h e => ?_) hg
    have := RowC.of_pt (E := 9) (sz := 1) (n := 17) (by omega : 17 ≤ c) h2 hs h e
    rwa [ht] at this
theorem all_tri (r : Hp) : Tri Tryz.prog r 8 [] [] fun w H => ∃ a c, w = .slice a 17 c ∧ H = [RowC 9 1 w 17 (allL.map encStr)] := by
  refine Tri.free2 fun R HR => ?_
  refine fn_of_sw Tryz.func8 rfl _ rfl ?_; refine aen Tryz.ntmps8 ?_
  repeat' (first | refine aw0m ?_ | (refine ap2 ?_ ?_ <;> try intro h) | (refine acl Tryz.func30 ?_; refine acr (langs_tri _) ?_; rintro v' H' ⟨b, rfl, rfl⟩; all_goals refine apl ?_) | (refine acl Tryz.func29 ?_; refine acr (values_tri _ _) ?_; rintro v' H' ⟨bm, rfl, rfl⟩; all_goals refine apl ?_) | refine aw1m ?_ | (refine abx ?_; intro bb) | (refine abz ?_; intro bz) | (refine ahv ?_; intro v' hv') | (refine aac ?_; intro ac cc) | refine aw2 ?_ | (refine ap4 ?_ ?_ <;> try intro h) | apply True.intro)
  repeat' (first | refine aw0m ?_ | (refine ap2 ?_ ?_ <;> try intro h) | ((with_reducible apply kx_lend [(bm, .cells #[.map (some b)] 56 (0, 0)), (b, .map (entA tbl) 22)]); (exact atks); intro r' hl'; refine acl Tryz.func28 ?_; refine acr (sortedv_tri _ bm b (Lent.h1 hl') (Lent.h2 hl')) ?_; rintro v' H' ⟨a, c, rfl, rfl⟩; all_goals refine apm ?_) | (refine acl Tryz.func27 ?_; refine acr (compactv_tri _ a c) ?_; rintro v' H' ⟨rfl, rfl⟩; all_goals refine apl ?_) | refine aw1m ?_ | (refine abx ?_; intro bb) | (refine abz ?_; intro bz) | (refine ahv ?_; intro v' hv') | (refine aac ?_; intro ac cc) | refine aw2 ?_ | (refine ap4 ?_ ?_ <;> try intro h) | apply True.intro)
  ((with_reducible apply fp_ret); exact res_1 rfl rfl)
  exact HR.out _ _ _ [_] (by (exact atks)) ⟨_, _, rfl, rfl⟩
end Go.Proofs.YtgodcegaffgfjaaGreatDoor
