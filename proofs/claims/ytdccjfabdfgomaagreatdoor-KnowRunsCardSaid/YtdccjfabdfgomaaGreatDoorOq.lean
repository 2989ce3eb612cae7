
/- know.front, back, Behind: their contracts. -/
import Derived.Test.YtdccjfabdfgomaaGreatDoorOh
namespace Go.Proofs.YtdccjfabdfgomaaGreatDoor
open Go.RowKit Sx

theorem own_two {a : Option Addr} {c : Nat} {X : List Tx} {q : QuV} : ∀ h, all [TxC a c X, OwnQ q] h → OwnI ⟨true, a, c, X, none, 0, [], none, 0, [], q⟩ h := fun h e => by
  obtain ⟨g1, g2, d, rfl, h1, h2⟩ := e
  exact ⟨g1, g2, d, rfl, h1, emp, g2, emp_dj, emp_un.symm, RowC.nil _ _, emp, g2, emp_dj, emp_un.symm, RowC.nil _ _, h2⟩
theorem own_three {a1 a2 : Option Addr} {c1 c2 : Nat} {X Y : List Tx} {q : QuV} : ∀ h, all [TxC a1 c1 X, TxC a2 c2 Y, OwnQ q] h → OwnI ⟨false, none, 0, [], a1, c1, X, a2, c2, Y, q⟩ h := fun h e => ⟨emp, h, emp_dj, emp_un.symm, RowC.nil _ _, e⟩
/-- An info that is owned, settled. -/
theorem settledO_any (r : Hp) (hT : TabR r) (i : InfV) (hf : FitI i.key) (hz : sizeQ i.key.m ≤ 5000000) (ho : (encQ i.q).all one? = true) : Tri Tryz.prog r 30 [.agg [.bool i.known, .slice i.ea i.ex.length i.ec, .slice i.pa i.pre.length i.pc, .slice i.sa i.suf.length i.sc, .int .i64 i.q.kind, i.q.gv, i.q.sv].toArray] [OwnI i] fun w H => ∃ i' : InfV, i'.key = settledK i.key ∧ (encQ i'.q).all one? = true ∧ w = .agg [.bool i'.known, .slice i'.ea i'.ex.length i'.ec, .slice i'.pa i'.pre.length i'.pc, .slice i'.sa i'.suf.length i'.sc, .int .i64 i'.q.kind, i'.q.gv, i'.q.sv].toArray ∧ H = [OwnI i'] := by
  by_cases hn : i.known = true ∧ smallK (rowT i.ex) = true
  · refine Tri.weak (tri_cv (Tri.lendI (R := fun _ w H => ∃ a c, w = .agg [.bool true, .slice a (rowT i.ex).length c, .slice none 0 0, .slice none 0 0, .int .i64 i.q.kind, i.q.gv, i.q.sv].toArray ∧ H = [TxC a c (rowT i.ex)]) fun r' g s1 s2 _ h1 => settledS_any r' i (ownI_read h1 s2) hf ho hn.1 hn.2) ?_)
    rintro w H ⟨r', g, H'', s1, s2, h1, ⟨a, c, rfl, rfl⟩, rfl⟩
    refine ⟨[OwnI ⟨true, a, c, rowT i.ex, none, 0, [], none, 0, [], i.q⟩, all [TxC i.ea i.ec i.ex, TxC i.pa i.pc i.pre, TxC i.sa i.sc i.suf]], ⟨[all [TxC i.ea i.ec i.ex, TxC i.pa i.pc i.pre, TxC i.sa i.sc i.suf]], [OwnI ⟨true, a, c, rowT i.ex, none, 0, [], none, 0, [], i.q⟩], by (exact atks), ⟨⟨true, a, c, rowT i.ex, none, 0, [], none, 0, [], i.q⟩, ?_, ho, rfl, rfl⟩⟩, fun k hk => ?_⟩
    · unfold settledK
      rw [if_pos (show i.key.known = true ∧ smallK (rowT i.key.ex) = true from hn)]; rfl
    · obtain ⟨g1, g2, d, rfl, rfl, h2⟩ := hk
      have e : all ([TxC i.ea i.ec i.ex, TxC i.pa i.pc i.pre, TxC i.sa i.sc i.suf, OwnQ i.q] ++ [TxC a c (rowT i.ex)]) (un g1 g2) := all_app.2 ⟨g1, g2, d, rfl, h1, h2⟩
      have p : ([TxC i.ea i.ec i.ex, TxC i.pa i.pc i.pre, TxC i.sa i.sc i.suf, OwnQ i.q] ++ [TxC a c (rowT i.ex)]).Perm ([TxC a c (rowT i.ex), OwnQ i.q] ++ [TxC i.ea i.ec i.ex, TxC i.pa i.pc i.pre, TxC i.sa i.sc i.suf]) := by
        refine (List.perm_append_comm (l₁ := [TxC i.ea i.ec i.ex, TxC i.pa i.pc i.pre, TxC i.sa i.sc i.suf]) (l₂ := [OwnQ i.q, TxC a c (rowT i.ex)])).trans ?_
        exact List.Perm.swap _ _ _
      obtain ⟨x, y, d2, e2, hx, hy⟩ := all_app.1 (all_perm p e)
      rw [e2]
      exact ⟨x, y, d2, rfl, own_two x hx, all_one.2 hy⟩
  · refine Tri.weak (tri_cv (Tri.lendI (R := fun _ w H => ∃ i' : InfV, i'.key = settledK i.key ∧ (encQ i'.q).all one? = true ∧ w = .agg [.bool i'.known, .slice i'.ea i'.ex.length i'.ec, .slice i'.pa i'.pre.length i'.pc, .slice i'.sa i'.suf.length i'.sc, .int .i64 i'.q.kind, i'.q.gv, i'.q.sv].toArray ∧ H = [OwnI i']) fun r' g s1 s2 _ h1 => settledL_any r' (hT.mono s1) i (ownI_read h1 s2) hf hz ho hn) ?_)
    rintro w H ⟨r', g, H'', s1, s2, h1, ⟨i', hk, ho', rfl, rfl⟩, rfl⟩
    exact ⟨_, ⟨[fun x => x = g], [OwnI i'], by (exact atks), ⟨i', hk, ho', rfl, rfl⟩⟩, fun k hk => hk⟩
structure SmI (i : InfK) : Prop where
  ex : i.ex.length ≤ 3000
  pre : i.pre.length ≤ 3000
  suf : i.suf.length ≤ 3000
theorem sizeT_le {l : List Tx} (h : sizeT l ≤ 100000) : ∀ x ∈ l, x.length ≤ 1000000 := fun x hx => by have := sizeT_mem hx; omega
set_option maxRecDepth 10000 in
set_option maxHeartbeats 2000000 in
theorem front_any (r : Hp) (i b : InfV) (hi : InfR r i) (hb : InfR r b) (fi : FitI i.key) (fb : FitI b.key) (si : SmI i.key) (sb : SmI b.key) : Tri Tryz.prog r 46 [.agg [.bool i.known, .slice i.ea i.ex.length i.ec, .slice i.pa i.pre.length i.pc, .slice i.sa i.suf.length i.sc, .int .i64 i.q.kind, i.q.gv, i.q.sv].toArray, .agg [.bool b.known, .slice b.ea b.ex.length b.ec, .slice b.pa b.pre.length b.pc, .slice b.sa b.suf.length b.sc, .int .i64 b.q.kind, b.q.gv, b.q.sv].toArray] [] fun w H => ∃ a c, w = .slice a (frontK i.key b.key).length c ∧ H = [TxC a c (frontK i.key b.key)] := by
  have hl := sizeT_len i.pre
  have f1 := fi.pre
  dsimp only [InfV.key] at f1
  have hro := row_any r _ i.pre hi.pre (by omega)
  have hc1 := cross_any r _ _ i.ex b.ex hi.ex hb.ex si.ex sb.ex (sizeT_le fi.ex) (sizeT_le fb.ex)
  have hc2 := cross_any r _ _ i.ex b.pre hi.ex hb.pre si.ex sb.pre (sizeT_le fi.ex) (sizeT_le fb.pre)
  have hfr : frontK i.key b.key = if i.known then (if b.known then crossT i.ex b.ex else crossT i.ex b.pre) else rowT i.pre := rfl
  obtain ⟨known, ea, ec, ex, pa, pc, pre, sa, sc, suf, q⟩ := i
  obtain ⟨known2, ea2, ec2, ex2, pa2, pc2, pre2, sa2, sc2, suf2, q2⟩ := b
  dsimp only at hro hc1 hc2 hfr ⊢
  rw [hfr]
  clear hi hb fi fb si sb hl f1 hfr
  refine Tri.free2 fun R HR => ?_
  cases known
  · simp only [Bool.false_eq_true, if_false] at HR
    refine fn_of_sw Tryz.func46 rfl _ rfl ?_; refine aen Tryz.ntmps46 ?_
    repeat' (first | ((with_reducible apply kx_box); rfl; (exact qcl); intro b1; (refine apk ?_)) | (refine acl Tryz.func32 ?_; refine acr (hro) ?_; rintro v' H' ⟨a, c, rfl, rfl⟩; all_goals refine apl ?_) | (exfalso; first | contradiction | omega) | refine aw0 ?_ | (refine ap2 ?_ ?_ <;> try intro h) | refine aw1 ?_ | (refine abx ?_; intro bb) | (refine abz ?_; intro bz) | (refine ahv ?_; intro v' hv') | (refine aac ?_; intro ac cc) | refine aw2 ?_ | (refine ap4 ?_ ?_ <;> try intro h) | apply True.intro)
    ((with_reducible apply fp_ret); exact res_1 rfl rfl)
    exact HR.out _ _ _ [TxC a c (rowT pre)] (by (exact atks)) ⟨a, c, rfl, rfl⟩
  · cases known2
    · simp only [Bool.false_eq_true, if_false, if_true] at HR
      refine fn_of_sw Tryz.func46 rfl _ rfl ?_; refine aen Tryz.ntmps46 ?_
      repeat' (first | ((with_reducible apply kx_box); rfl; (exact qcl); intro b1; (refine apk ?_)) | (refine acl Tryz.func45 ?_; refine acr (hc2) ?_; rintro v' H' ⟨a, c, rfl, rfl⟩; all_goals refine apl ?_) | (exfalso; first | contradiction | omega) | refine aw0 ?_ | (refine ap2 ?_ ?_ <;> try intro h) | refine aw1 ?_ | (refine abx ?_; intro bb) | (refine abz ?_; intro bz) | (refine ahv ?_; intro v' hv') | (refine aac ?_; intro ac cc) | refine aw2 ?_ | (refine ap4 ?_ ?_ <;> try intro h) | apply True.intro)
      ((with_reducible apply fp_ret); exact res_1 rfl rfl)
      exact HR.out _ _ _ [TxC a c (crossT ex pre2)] (by (exact atks)) ⟨a, c, rfl, rfl⟩
    · simp only [if_true] at HR
      refine fn_of_sw Tryz.func46 rfl _ rfl ?_; refine aen Tryz.ntmps46 ?_
      repeat' (first | ((with_reducible apply kx_box); rfl; (exact qcl); intro b1; (refine apk ?_)) | (refine acl Tryz.func45 ?_; refine acr (hc1) ?_; rintro v' H' ⟨a, c, rfl, rfl⟩; all_goals refine apl ?_) | (exfalso; first | contradiction | omega) | refine aw0 ?_ | (refine ap2 ?_ ?_ <;> try intro h) | refine aw1 ?_ | (refine abx ?_; intro bb) | (refine abz ?_; intro bz) | (refine ahv ?_; intro v' hv') | (refine aac ?_; intro ac cc) | refine aw2 ?_ | (refine ap4 ?_ ?_ <;> try intro h) | apply True.intro)
      ((with_reducible apply fp_ret); exact res_1 rfl rfl)
      exact HR.out _ _ _ [TxC a c (crossT ex ex2)] (by (exact atks)) ⟨a, c, rfl, rfl⟩
set_option maxRecDepth 10000 in
set_option maxHeartbeats 2000000 in
theorem back_any (r : Hp) (i b : InfV) (hi : InfR r i) (hb : InfR r b) (fi : FitI i.key) (fb : FitI b.key) (si : SmI i.key) (sb : SmI b.key) : Tri Tryz.prog r 47 [.agg [.bool i.known, .slice i.ea i.ex.length i.ec, .slice i.pa i.pre.length i.pc, .slice i.sa i.suf.length i.sc, .int .i64 i.q.kind, i.q.gv, i.q.sv].toArray, .agg [.bool b.known, .slice b.ea b.ex.length b.ec, .slice b.pa b.pre.length b.pc, .slice b.sa b.suf.length b.sc, .int .i64 b.q.kind, b.q.gv, b.q.sv].toArray] [] fun w H => ∃ a c, w = .slice a (backK i.key b.key).length c ∧ H = [TxC a c (backK i.key b.key)] := by
  have hl := sizeT_len i.suf
  have f1 := fi.suf
  dsimp only [InfV.key] at f1
  have hro := row_any r _ i.suf hi.suf (by omega)
  have hc1 := cross_any r _ _ b.suf i.ex hb.suf hi.ex sb.suf si.ex (sizeT_le fb.suf) (sizeT_le fi.ex)
  have hfr : backK i.key b.key = if i.known then crossT b.suf i.ex else rowT i.suf := rfl
  obtain ⟨known, ea, ec, ex, pa, pc, pre, sa, sc, suf, q⟩ := i
  obtain ⟨known2, ea2, ec2, ex2, pa2, pc2, pre2, sa2, sc2, suf2, q2⟩ := b
  dsimp only at hro hc1 hfr ⊢
  rw [hfr]
  clear hi hb fi fb si sb hl f1 hfr
  refine Tri.free2 fun R HR => ?_
  cases known
  · simp only [Bool.false_eq_true, if_false] at HR
    refine fn_of_sw Tryz.func47 rfl _ rfl ?_; refine aen Tryz.ntmps47 ?_
    repeat' (first | ((with_reducible apply kx_box); rfl; (exact qcl); intro b1; (refine apk ?_)) | (refine acl Tryz.func32 ?_; refine acr (hro) ?_; rintro v' H' ⟨a, c, rfl, rfl⟩; all_goals refine apl ?_) | (exfalso; first | contradiction | omega) | refine aw0 ?_ | (refine ap2 ?_ ?_ <;> try intro h) | refine aw1 ?_ | (refine abx ?_; intro bb) | (refine abz ?_; intro bz) | (refine ahv ?_; intro v' hv') | (refine aac ?_; intro ac cc) | refine aw2 ?_ | (refine ap4 ?_ ?_ <;> try intro h) | apply True.intro)
    ((with_reducible apply fp_ret); exact res_1 rfl rfl)
    exact HR.out _ _ _ [TxC a c (rowT suf)] (by (exact atks)) ⟨a, c, rfl, rfl⟩
  · simp only [if_true] at HR
    refine fn_of_sw Tryz.func47 rfl _ rfl ?_; refine aen Tryz.ntmps47 ?_
    repeat' (first | ((with_reducible apply kx_box); rfl; (exact qcl); intro b1; (refine apk ?_)) | (refine acl Tryz.func45 ?_; refine acr (hc1) ?_; rintro v' H' ⟨a, c, rfl, rfl⟩; all_goals refine apl ?_) | (exfalso; first | contradiction | omega) | refine aw0 ?_ | (refine ap2 ?_ ?_ <;> try intro h) | refine aw1 ?_ | (refine abx ?_; intro bb) | (refine abz ?_; intro bz) | (refine ahv ?_; intro v' hv') | (refine aac ?_; intro ac cc) | refine aw2 ?_ | (refine ap4 ?_ ?_ <;> try intro h) | apply True.intro)
    ((with_reducible apply fp_ret); exact res_1 rfl rfl)
    exact HR.out _ _ _ [TxC a c (crossT suf2 ex)] (by (exact atks)) ⟨a, c, rfl, rfl⟩
end Go.Proofs.YtdccjfabdfgomaaGreatDoor
