
/- Changes: what they read as; batch.one, order, all: their contracts; slices.IndexFunc, ContainsFunc, IsSortedFunc, Clone over changes. -/
import Derived.Test.YtmnehdpclnhmbaaMg
import Derived.Test.YtmnehdpclnhmbaaTw
import Derived.Test.YtmnehdpclnhmbaaPu
import Derived.Test.YtmnehdpclnhmbaaGo
namespace Go.Proofs.Ytmnehdpclnhmbaa
open Go.RowKit Sx

structure ChV where
  path : List UInt8
  take : Bool
  val : Value
  data : List UInt8
  deriving Inhabited
def encCh (x : ChV) : List Value := [.string (bs x.path), .bool x.take, x.val]
def chK (x : ChV) : ChK := (x.path, (x.take, x.data))
abbrev Chs (r : Hp) (v : Value) (xs : List ChV) : Prop := Els r 3 encCh v xs ∧ ∀ x ∈ xs, U8S r x.val x.data
theorem Chs.mono {r r' : Hp} {v : Value} {xs : List ChV} (h : Chs r v xs) (hr : sub r r') : Chs r' v xs := ⟨h.1.mono hr, fun x hx => (h.2 x hx).mono hr⟩
set_option maxRecDepth 10000 in
set_option maxHeartbeats 1000000 in
theorem bone_any (r : Hp) (p : List UInt8) (t : Bool) (v : Value) (d : List UInt8) (hv : U8S r v d) (hp : p.length ≤ 1000000) : Tri Try.prog r 56 [.agg [.string (bs p), .bool t, v].toArray] [] fun w H => w = .bool (!bigK (p, (t, d))) ∧ H = [] := by
  refine Tri.free2 fun R HR => ?_
  have hlr := lright_any r (bs p) (by rw [bs_size]; exact hp)
  rw [show (bs p).data.toList = p from rfl] at hlr
  have hv1 := hv.one
  have hbig : (!bigK (p, (t, d))) = (pathOk p && decide (d.length ≤ 1048576) && (!t || decide (d.length = 0))) := by
    unfold bigK
    dsimp only
    have e : d.isEmpty = decide (d.length = 0) := by cases d <;> simp
    rw [e]
    cases pathOk p <;> cases t <;> by_cases h1 : d.length ≤ 1048576 <;> by_cases h2 : d.length = 0 <;> simp [h1, h2] <;> omega
  rw [hbig] at HR
  clear hbig
  generalize pathOk p = q at hlr HR
  cases q <;> cases t
  all_goals
    refine fn_of_sw Try.func56 rfl _ rfl ?_; refine aen Try.ntmps56 ?_
    repeat' (first | ((with_reducible apply kx_box); rfl; (exact qcl); intro b; (refine apk ?_)) | (refine acl Try.func52 ?_; refine acr (hlr) ?_; rintro v' H' ⟨rfl, rfl⟩; all_goals refine apl ?_) | (exfalso; first | contradiction | omega) | refine aw0 ?_ | (refine ap2 ?_ ?_ <;> try intro h) | refine aw1 ?_ | (refine abx ?_; intro bb) | (refine abz ?_; intro bz) | (refine ahv ?_; intro v' hv') | (refine aac ?_; intro ac cc) | refine aw2 ?_ | (refine ap4 ?_ ?_ <;> try intro h) | apply True.intro)
  all_goals
    ((with_reducible apply fp_ret); exact res_1 rfl rfl)
    exact HR.out _ _ _ [] Takes.all ⟨by first | rfl | (congr 1; rw [Bool.eq_iff_iff]; simp; omega) | (congr 1; simp; omega), rfl⟩
theorem ball1_any (r : Hp) (x : ChV) (hv : U8S r x.val x.data) (hp : x.path.length ≤ 1000000) : Tri Try.prog r 55 [.agg (encCh x).toArray] [] fun w H => w = .bool (bigK (chK x)) ∧ H = [] := by
  refine Tri.free2 fun R HR => ?_
  obtain ⟨p, t, v, d⟩ := x
  dsimp only at hv hp
  have h1 := bone_any r p t v d hv hp
  show Tri _ _ _ [.agg [.string (bs p), .bool t, v].toArray] _ _
  rw [show bigK (chK ⟨p, t, v, d⟩) = bigK (p, (t, d)) from rfl] at HR
  refine fn_of_sw Try.func55 rfl _ rfl ?_; refine aen Try.ntmps55 ?_
  repeat' (first | ((with_reducible apply kx_box); rfl; (exact qcl); intro b; (refine apk ?_)) | (refine acl Try.func56 ?_; refine acr (h1) ?_; rintro v' H' ⟨rfl, rfl⟩; all_goals refine apl ?_) | refine aw0 ?_ | (refine ap2 ?_ ?_ <;> try intro h) | refine aw1 ?_ | (refine abx ?_; intro bb) | (refine abz ?_; intro bz) | (refine ahv ?_; intro v' hv') | (refine aac ?_; intro ac cc) | refine aw2 ?_ | (refine ap4 ?_ ?_ <;> try intro h) | apply True.intro)
  ((with_reducible apply fp_ret); exact res_1 rfl rfl)
  exact HR.out _ _ _ [] Takes.all ⟨by rw [Bool.not_not], rfl⟩
theorem bsame_any (r : Hp) (x y : ChV) : Tri Try.prog r 33 [.agg (encCh x).toArray, .agg (encCh y).toArray] [] fun w H => w = .bool (decide (x.path = y.path)) ∧ H = [] := by
  refine Tri.free2 fun R HR => ?_
  obtain ⟨p, t, v, d⟩ := x
  obtain ⟨p2, t2, v2, d2⟩ := y
  show Tri _ _ _ [.agg [.string (bs p), .bool t, v].toArray, .agg [.string (bs p2), .bool t2, v2].toArray] _ _
  refine fn_of_sw Try.func33 rfl _ rfl ?_; refine aen Try.ntmps33 ?_
  repeat' (first | ((with_reducible apply kx_box); rfl; (exact qcl); intro b; (refine apk ?_)) | refine aw0 ?_ | (refine ap2 ?_ ?_ <;> try intro h) | refine aw1 ?_ | (refine abx ?_; intro bb) | (refine abz ?_; intro bz) | (refine ahv ?_; intro v' hv') | (refine aac ?_; intro ac cc) | refine aw2 ?_ | (refine ap4 ?_ ?_ <;> try intro h) | apply True.intro)
  ((with_reducible apply fp_ret); exact res_1 rfl rfl)
  exact HR.out _ _ _ [] Takes.all ⟨rfl, rfl⟩
/-- How two texts stand. -/
def cmpP (a b : Pa) : Int := if a < b then -1 else if a = b then 0 else 1
theorem isNaN_any (r : Hp) (a : Pa) : Tri Try.prog r 50 [.string (bs a)] [] fun w H => w = .bool false ∧ H = [] := by
  refine Tri.free2 fun R HR => ?_
  refine fn_of_sw Try.func50 rfl _ rfl ?_; refine aen Try.ntmps50 ?_
  repeat' (first | refine aw0m ?_ | (refine ap2 ?_ ?_ <;> try intro h) | refine aw1m ?_ | (refine abx ?_; intro bb) | (refine abz ?_; intro bz) | (refine ahv ?_; intro v' hv') | (refine aac ?_; intro ac cc) | refine aw2 ?_ | (refine ap4 ?_ ?_ <;> try intro h) | apply True.intro)
  ((with_reducible apply fp_ret); exact res_1 rfl rfl)
  exact HR.out _ _ _ [] (by (exact atks)) ⟨by simp, rfl⟩
set_option maxHeartbeats 1000000 in
theorem cmpP_any (r : Hp) (a b : Pa) : Tri Try.prog r 25 [.string (bs a), .string (bs b)] [] fun w H => w = .int .i64 (cmpP a b) ∧ H = [] := by
  refine Tri.free2 fun R HR => ?_
  have h1 := isNaN_any r a
  have h2 := isNaN_any r b
  refine fn_of_sw Try.func25 rfl _ rfl ?_; refine aen Try.ntmps25 ?_
  repeat' (first | (refine acl Try.func50 ?_; refine acr (h1) ?_; rintro v' H' ⟨rfl, rfl⟩; all_goals refine apl ?_) | refine aw0 ?_ | (refine ap2 ?_ ?_ <;> try intro h) | refine aw1 ?_ | (refine abx ?_; intro bb) | (refine abz ?_; intro bz) | (refine ahv ?_; intro v' hv') | (refine aac ?_; intro ac cc) | refine aw2 ?_ | (refine ap4 ?_ ?_ <;> try intro h) | apply True.intro)
  repeat' (first | (refine acl Try.func50 ?_; refine acr (h2) ?_; rintro v' H' ⟨rfl, rfl⟩; all_goals refine apl ?_) | (exfalso; first | contradiction | omega) | refine aw0 ?_ | (refine ap2 ?_ ?_ <;> try intro h) | refine aw1 ?_ | (refine abx ?_; intro bb) | (refine abz ?_; intro bz) | (refine ahv ?_; intro v' hv') | (refine aac ?_; intro ac cc) | refine aw2 ?_ | (refine ap4 ?_ ?_ <;> try intro h) | apply True.intro)
  all_goals
    ((with_reducible apply fp_ret); exact res_1 rfl rfl)
    exact HR.out _ _ _ [] (by (exact atks)) ⟨by unfold cmpP; simp only [← less_iff]; congr 1; simp_all, rfl⟩
theorem order_any (r : Hp) (x y : ChV) : Tri Try.prog r 35 [.agg (encCh x).toArray, .agg (encCh y).toArray] [] fun w H => w = .int .i64 (cmpP x.path y.path) ∧ H = [] := by
  refine Tri.free2 fun R HR => ?_
  obtain ⟨p, t, v, d⟩ := x
  obtain ⟨p2, t2, v2, d2⟩ := y
  show Tri _ _ _ [.agg [.string (bs p), .bool t, v].toArray, .agg [.string (bs p2), .bool t2, v2].toArray] _ _
  have hc := cmpP_any r p p2
  refine fn_of_sw Try.func35 rfl _ rfl ?_; refine aen Try.ntmps35 ?_
  repeat' (first | ((with_reducible apply kx_box); rfl; (exact qcl); intro b; (refine apk ?_)) | (refine acl Try.func25 ?_; refine acr (hc) ?_; rintro v' H' ⟨rfl, rfl⟩; all_goals refine apl ?_) | refine aw0 ?_ | (refine ap2 ?_ ?_ <;> try intro h) | refine aw1 ?_ | (refine abx ?_; intro bb) | (refine abz ?_; intro bz) | (refine ahv ?_; intro v' hv') | (refine aac ?_; intro ac cc) | refine aw2 ?_ | (refine ap4 ?_ ?_ <;> try intro h) | apply True.intro)
  ((with_reducible apply fp_ret); exact res_1 rfl rfl)
  exact HR.out _ _ _ [] Takes.all ⟨rfl, rfl⟩
end Go.Proofs.Ytmnehdpclnhmbaa
