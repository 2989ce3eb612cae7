/- Ms: a string from bytes that are read alone; bytes marked as a string's. No program is named. mudlarklaw22.many: its contract. mudlarklaw22.DocEnds: its contract. -/
import Derived.Test.YtfgkhkpngnhimaaGreatPu
import Derived.Test.YtfgkhkpngnhimaaGreatLp22
import Derived.Test.YtfgkhkpngnhimaaGreatLf22
import Derived.Test.YtfgkhkpngnhimaaGreatBk
namespace Go.Proofs.YtfgkhkpngnhimaaGreat
open Go.RowKit
namespace Sx
section
variable {P : Program} {l : Option Nat} {r : Hp} {Q : Exit → St} {K : St} {t : List Value} {H : List Ch} {d : Option Tmp} {ty : TypeId} {pos : String} {af : Array Edge} {gd : Option (Nat × Bool)}
theorem pu_b2s {src dst e : TypeId} {n : Nat} {v : Value} {x : Operand} {bl : List UInt8} (hT : elB P src = some e) (h8 : u8B P e = true) (hd : strB P dst = true) (hx : evO t x = some v) (hv : Sl r 1 v n (u8s bl)) : Pur P r t ⟨d, .convert src dst x, ty, pos, af, gd⟩ (.string (bs bl)) :=
  ⟨rfl, fun w e => by
    have := run_b2s (w := w) hT h8 hd hv e
    simp only [execOp, Sem.run_bind, ev_of hx, this, Result.andThen, Sem.run_pure]⟩
theorem freeze_heap (w : World) {b n k : Nat} (h : k ≠ b) : (w.freeze ⟨b, n, none⟩ 1).heap[k]? = w.heap[k]? := by
  unfold World.freeze
  rw [if_neg (by decide)]
  simp [Array.getElem?_modify, Ne.symm h]
theorem freeze_to {ds : List Deferred} {w : World} {b : Nat} {c : Array Value} {E : TypeId} {y : Hp} (d : dj (one b (.cells c E (0, 0))) y) (ok : Ok l r ds w (un (one b (.cells c E (0, 0))) y)) (n : Nat) :
    dj (one b (.cells c E (n, n + 1))) y ∧ To l r ds w (un (one b (.cells c E (0, 0))) y) ds (w.freeze ⟨b, n, none⟩ 1) (un (one b (.cells c E (n, n + 1))) y) := by
  have d' : dj (one b (.cells c E (n, n + 1))) y := fun k => by
    rcases d k with e | e
    · left; unfold one at *; split at e <;> simp_all
    · exact .inr e
  have hb : w.heap[b]? = some (.cells c E (0, 0)) := ok.emb b _ (un_left one_same)
  have hf : w.freeze ⟨b, n, none⟩ 1 = { w with heap := w.heap.modify b fun
      | .cells c elem (lo, hi) => .cells c elem (if lo == hi then (n, n + 1) else (min lo n, max hi (n + 1)))
      | o => o } := by unfold World.freeze; rw [if_neg (by decide)]; rfl
  refine ⟨d', To.step ok (by rw [hf]) (by rw [hf]) (by rw [hf]) (by rw [hf]; simp) ?_ ?_ ?_⟩
  · intro k hk hn
    refine freeze_heap w ?_
    rintro rfl
    have := (un_none.1 hn).1
    simp [one] at this
  · intro k u hk
    rcases un_some hk with hz | hz
    · obtain ⟨rfl, rfl⟩ := one_some hz
      rw [hf]
      simp [Array.getElem?_modify, hb]
    · refine (freeze_heap w ?_).trans (ok.emb k u (un_right d hz))
      intro e
      have h1 := (d k).resolve_left (by rw [show k = b from e]; simp [one])
      rw [h1] at hz; cases hz
  · intro k hk
    rcases un_ne.1 hk with hk | hk
    · left; exact un_ne.2 (.inl (by rw [one_ne hk]; simp [one]))
    · exact .inl (un_ne.2 (.inr hk))
theorem kx_mark {T e E : TypeId} {x : Operand} {b n c : Nat} {cs : List Value} {H' : List Ch} (hT : elB P T = some e) (h8 : u8B P e = true) (hx : evO t x = some (.slice (some ⟨b, 0, none⟩) n c)) (ht : Take (pt b (.cells cs.toArray E (0, 0))) H H')
    (hk : K (putL t d (.slice (some ⟨b, 0, none⟩) n c)) (pt b (.cells cs.toArray E (cs.length, cs.length + 1)) :: H')) : SWo P l r ⟨d, .convert T T x, ty, pos, af, gd⟩ K t H :=
  swo_run (fun c hc => by cases hc) fun w g ds ok al => by
    obtain ⟨x1, y1, dd, rfl, hx1, al'⟩ := ht.all al
    obtain rfl : x1 = one b (.cells cs.toArray E (0, 0)) := hx1
    obtain ⟨d', to⟩ := freeze_to dd ok cs.length
    have hb : w.heap[b]? = some (.cells cs.toArray E (0, 0)) := ok.emb b _ (un_left one_same)
    have hsh : w.shape? b = some (E, cs.length) := by unfold World.shape?; rw [hb]; simp
    refine ⟨.slice (some ⟨b, 0, none⟩) n c, _, _, _, ?_, hk, ⟨_, _, d', rfl, rfl, al'⟩, to⟩
    simp [execOp, ev_of hx, convert, Sem.run_bind, run_underlying (elB_s hT), run_underlying (u8B_s h8), markStringish, hsh, Result.andThen]
end
end Sx
end Go.Proofs.YtfgkhkpngnhimaaGreat

namespace Go.Proofs.YtfgkhkpngnhimaaGreat
open Go.RowKit Sx

def letter (n : Nat) : List UInt8 := [UInt8.ofNat (97 + (n : Int) / 400).toNat, UInt8.ofNat (97 + (n : Int) / 20 % 20).toNat, UInt8.ofNat (97 + (n : Int) % 20).toNat]
def manyD (n : Nat) : DocV := ⟨letter n, [], 0, 0⟩
def manyL (n : Nat) : List DocV := (List.range n).map manyD
theorem manyL_succ (n : Nat) : manyL (n + 1) = manyL n ++ [manyD n] := by simp [manyL, List.range_succ]
theorem manyL_len (n : Nat) : (manyL n).length = n := by simp [manyL]
theorem manyL_take : (manyL 4001).take 4000 = manyL 4000 := by
  rw [show (4001 : Nat) = 4000 + 1 from rfl, manyL_succ, List.take_append_of_le_length (by rw [manyL_len]; exact Nat.le_refl _)]
  exact List.take_of_length_le (by rw [manyL_len]; exact Nat.le_refl _)
theorem manyL_path {n : Nat} : ∀ d ∈ manyL n, d.path.length ≤ 1000000 := fun d hd => by
  obtain ⟨k, _, rfl⟩ := List.mem_map.1 hd
  simp [manyD, letter]
set_option maxRecDepth 100000 in
theorem many_ok : docsOk (manyL 4000) = true := by kernel_rfl
theorem many_no : docsOk (manyL 4001) = false := by
  unfold docsOk
  rw [manyL_len]
  simp
set_option maxRecDepth 10000 in
set_option maxHeartbeats 4000000 in
theorem many_any (r : Hp) : Tri Tryz.prog r 21 [] [] fun w H => w = .bool true ∧ H = [] := by
  refine Tri.free2 fun R HR => ?_
  refine fn_of_sw Tryz.func21 rfl _ rfl ?_; simp only [Tryz.ntmps21, List.length_nil, Nat.reduceSub, List.replicate_succ, List.replicate_zero, List.nil_append]
  refine sw_put (A := RowC 47 4 (.slice none 0 0) 0 []) (RowC.nil _ _) ?_
  repeat' (first | (refine aw0m ?_) | (refine ap2 ?_ ?_ <;> first | exact True.intro | intro h) | (refine aw1m ?_) | (refine abx ?_; intro bb) | (refine abz ?_; intro bz) | (refine ahv ?_; intro v' hv') | (refine aac ?_; intro ac cc) | (refine aw2 ?_) | (refine ap4 ?_ ?_ <;> first | exact True.intro | intro h) | (with_reducible refine tr_two ?_ ?_))
  obtain ⟨N, hN⟩ : ∃ N, N = 4001 := ⟨_, rfl⟩
  refine sw_loop (fun gm t H' => ∃ (k : Nat) (a : Option Addr) (c : Nat), gm = N + 1 - k ∧ (k ≤ N) ∧ (∃ G, Takes [RowC 47 4 (.slice a k c) k ((manyL k).flatMap encD)] H' G) ∧ (t.length = 34 ∧ t[1]? = some (.slice a k c) ∧ t[2]? = some (.int .i64 k))) _ ⟨0, none, 0, rfl, Nat.zero_le _, ⟨[], by (exact atks)⟩, rfl, (by first | rfl | exact congrArg some (congrArg (Value.int _) (by omega)) | (congr 2 <;> omega)), (by first | rfl | exact congrArg some (congrArg (Value.int _) (by omega)) | (congr 2 <;> omega))⟩ ?_
  rintro gm t H' ⟨k, a, c, rfl, hk, ⟨G, hp⟩, hlen, e1, e2⟩
  revert e1 e2; revert t; refine all_len (n := 34) ?_; iterate 34 intro uu'
  intro e1 e2; cases e1; cases e2
  refine sw_takeG hp ?_
  clear hp
  by_cases hlt : k < N
  · have he : ([.string (bs (letter k)), .string ⟨#[]⟩, .int .u32 0, .int .i64 0] : List Value) = encD (manyD k) := rfl
    repeat' (first | ((with_reducible apply sw_condS); rfl; all_goals (intro h; (try simp only [decide_eq_true_eq, decide_eq_false_iff_not, Int.not_lt] at h); (try simp only [bs_data] at h); (try (exfalso; omega)))) | ((with_reducible apply swo_pur); (with_reducible apply pu_bin); rfl; rfl; rfl; (first | (with_reducible exact True.intro) | ((with_reducible apply inR_i64) <;> omega) | ((with_reducible apply inR_u8) <;> omega) | ((with_reducible apply inR_u32) <;> omega) | ((with_reducible apply inR_u64) <;> omega) | ((with_reducible apply inR_i32) <;> omega) | ((with_reducible apply inR_u16) <;> omega) | omega | (refine ⟨?_, ?_, ?_⟩; omega; omega; (first | ((with_reducible apply inR_i64) <;> omega) | ((with_reducible apply inR_u8) <;> omega) | ((with_reducible apply inR_u32) <;> omega) | ((with_reducible apply inR_u64) <;> omega)))); (refine apk ?_)) | ((with_reducible apply swo_pur); (with_reducible apply pu_conv); rfl; (first | (with_reducible exact True.intro) | ((with_reducible apply inR_i64) <;> omega) | ((with_reducible apply inR_u8) <;> omega) | ((with_reducible apply inR_u32) <;> omega) | ((with_reducible apply inR_u64) <;> omega) | ((with_reducible apply inR_i32) <;> omega) | ((with_reducible apply inR_u16) <;> omega) | omega | (refine ⟨?_, ?_, ?_⟩; omega; omega; (first | ((with_reducible apply inR_i64) <;> omega) | ((with_reducible apply inR_u8) <;> omega) | ((with_reducible apply inR_u32) <;> omega) | ((with_reducible apply inR_u64) <;> omega)))); (refine apk ?_)) | (first | ((with_reducible apply kx_bs1); exact ty_el; exact ty_inf; rfl; rfl; rfl; intro bz; (refine apk ?_)) | ((with_reducible apply kx_bsN); exact ty_el; exact ty_inf; rfl; rfl; rfl; intro bz; (refine apk ?_))) | (first | ((with_reducible apply kx_append1); exact ty_el; exact ty_inf; rfl; rfl; rfl; (exact atk); (exact atk); rfl; (omega); intro a' c'; (refine apk ?_)) | ((with_reducible apply kx_appendN); exact ty_el; exact ty_inf; rfl; rfl; rfl; rfl; (exact atk); (exact atk); rfl; rfl; (omega); intro a' c'; (refine apk ?_))) | (refine aw0 ?_) | (refine ap2 ?_ ?_ <;> first | exact True.intro | intro h) | (refine aw1 ?_) | (refine abx ?_; intro bb) | (refine abz ?_; intro bz) | (refine ahv ?_; intro v' hv') | (refine aac ?_; intro ac cc) | (refine aw2 ?_) | (refine ap4 ?_ ?_ <;> first | exact True.intro | intro h) | (with_reducible refine tr_two ?_ ?_))
    exact ⟨_, (by omega), k + 1, a', c', rfl, by omega, ⟨_, by rw [manyL_succ, List.flatMap_append, List.flatMap_cons, List.flatMap_nil, List.append_nil]; (exact atks)⟩, rfl, (by first | rfl | exact congrArg some (congrArg (Value.int _) (by omega)) | (congr 2 <;> omega)), (by first | rfl | exact congrArg some (congrArg (Value.int _) (by omega)) | (congr 2 <;> omega))⟩
  · obtain rfl : k = 4001 := by omega
    clear hN hlt hk
    repeat' (first | ((with_reducible apply sw_condS); rfl; all_goals (intro h; (try simp only [decide_eq_true_eq, decide_eq_false_iff_not, Int.not_lt] at h); (try simp only [bs_data] at h); (try (exfalso; omega)))) | ((with_reducible apply sw_freezeT (c := .region 6 _ _) (A := RowC 47 4 (.slice a 4001 c) 4001 ((manyL 4001).flatMap encD))); (with_reducible (exact atk)); intro r1 g1 hr1 hg1 hA1) | (refine aw0 ?_) | (refine ap2 ?_ ?_ <;> first | exact True.intro | intro h) | (refine aw1 ?_) | (refine abx ?_; intro bb) | (refine abz ?_; intro bz) | (refine ahv ?_; intro v' hv') | (refine aac ?_; intro ac cc) | (refine aw2 ?_) | (refine ap4 ?_ ?_ <;> first | exact True.intro | intro h) | (with_reducible refine tr_two ?_ ?_))
    have hD : Docs r1 (.slice a 4001 c) (manyL 4001) := ⟨fun _ => rfl, by rw [manyL_len]; exact hA1.sl hg1⟩
    have ht := manyL_take
    have hn := docsOk_any r1 _ _ hD manyL_path
    have hm : ∀ v', Docs r1 v' (manyL 4000) → Tri Tryz.prog r1 10 [v'] [] fun w H => w = .bool true ∧ H = [] := fun v' h => by
      have := docsOk_any r1 v' _ h manyL_path
      rwa [many_ok] at this
    have hl := manyL_len 4001
    rw [many_no] at hn
    clear hA1
    generalize manyL 4000 = M at hm ht
    generalize manyL 4001 = L at hD ht hn hl
    have hy : ∀ v', Els r1 4 encD v' ((L.drop (Int.toNat 0)).take (Int.toNat 4000 - Int.toNat 0)) → Tri Tryz.prog r1 10 [v'] [] fun w H => w = .bool true ∧ H = [] := fun v' h => by
      rw [show Int.toNat 0 = 0 from rfl, show Int.toNat 4000 = 4000 from rfl, List.drop_zero, Nat.sub_zero, ht] at h
      exact hm v' h
    clear hm ht
    repeat' (first | ((with_reducible apply kx_call (f := 10) (cap := []) (xs := [.slice a 4001 c])); exact goesOf Tryz.func10 (by kernel_rfl) rfl; rfl; rfl; exact (hn); (exact atks); rintro v' H' ⟨rfl, rfl⟩; all_goals ((try simp only [List.nil_append]); (refine apk ?_))) | ((with_reducible apply kx_call (f := 10) (cap := []) (xs := [v'])); exact goesOf Tryz.func10 (by kernel_rfl) rfl; rfl; rfl; exact (hy _ hv'); (exact atks); rintro v' H' ⟨rfl, rfl⟩; all_goals ((try simp only [List.nil_append]); (refine apk ?_))) | (refine aw0 ?_) | (refine ap2 ?_ ?_ <;> first | exact True.intro | intro h) | (refine aw1 ?_) | (refine abx ?_; intro bb) | (refine abz ?_; intro bz) | (refine ahv ?_; intro v' hv') | (refine aac ?_; intro ac cc) | (refine aw2 ?_) | (refine ap4 ?_ ?_ <;> first | exact True.intro | intro h) | (with_reducible refine tr_two ?_ ?_))
    ((with_reducible apply fp_ret); exact res_1 rfl rfl)
    exact HR.out _ _ _ [] (by (exact atks)) ⟨rfl, rfl⟩
end Go.Proofs.YtfgkhkpngnhimaaGreat

namespace Go.Proofs.YtfgkhkpngnhimaaGreat
open Go.RowKit Sx

theorem Sx.tri_conv {P : Program} {r : Hp} {f : FuncId} {args : List Value} {H : List Ch} {R R' : Rt} (h : Tri P r f args H R) (hr : ∀ v H1, R v H1 → ∃ H2, R' v H2 ∧ ∀ g, all H1 g → all H2 g) : Tri P r f args H R' := by
  rw [tri_iff] at h ⊢
  intro w g o a
  refine (h w g o a).mono ?_
  rintro e w' ⟨v, H1, h', rfl, hR, al, to⟩
  obtain ⟨H2, h2, h3⟩ := hr v H1 hR
  exact ⟨v, H2, h', rfl, h2, h3 _ al, to⟩
theorem look_len {x : List UInt8} : ∀ {t : List (List UInt8 × List UInt8)} {B : Nat}, (t.all fun p => decide (p.2.length ≤ B)) = true → ((look t x).getD []).length ≤ B
  | [], _, _ => by simp [look]
  | (k, v) :: t, B, h => by
    simp only [List.all_cons, Bool.and_eq_true, decide_eq_true_eq] at h
    unfold look
    split
    · simpa using h.1
    · exact look_len h.2
theorem langOf_len (s : List UInt8) : (langOf s).length ≤ 20 := by
  rw [langOf_eq]
  split
  · simp
  · exact look_len (by decide)
def encT (s : List UInt8) : List Value := [.string (bs s)]
def pths : List (List UInt8) := [[], [97], [97, 46, 103, 111], [97, 47, 98, 46, 112, 121], [97, 47], [47, 97], [97, 47, 47, 98], [46], [46, 46], [97, 47, 46, 46, 47, 98], [98, 0], [66], [255], [46, 103, 111], [120, 46], [97, 46, 98, 46, 109, 100]]
def allP : List (List UInt8) := pths ++ [List.replicate 201 112, List.replicate 200 112]
theorem allP_len : allP.length = 18 := by simp [allP, pths]
theorem allP_short {k : Nat} (h : k < 18) : (allP.getD k default).length ≤ 201 := by
  have h2 : ∀ p ∈ allP, p.length ≤ 201 := by
    intro p hp
    unfold allP at hp
    rcases List.mem_append.1 hp with hp | hp
    · have h3 : pths.all (fun p => decide (p.length ≤ 201)) = true := by kernel_rfl
      simpa using List.all_eq_true.1 h3 p hp
    · simp only [List.mem_cons, List.not_mem_nil, or_false] at hp
      rcases hp with rfl | rfl <;> (rw [List.length_replicate]; omega)
  apply h2
  rw [List.getD_eq_getElem?_getD, List.getElem?_eq_getElem (by rw [allP_len]; exact h)]
  exact List.getElem_mem _
/-- What documents these are: short ones. -/
def ShortD (ds : List DocV) : Prop := ds.length ≤ 2 ∧ ∀ d ∈ ds, d.path.length ≤ 201 ∧ d.lang.length ≤ 20 ∧ d.sum < 4294967296
theorem ShortD.app {a b : List DocV} (ha : a.length ≤ 1) (hb : b.length ≤ 1) (h : ShortD a) (k : ShortD b) : ShortD (a ++ b) := ⟨by rw [List.length_append]; omega, fun d hd => (List.mem_append.1 hd).elim (h.2 d) (k.2 d)⟩
theorem rofU (r : Hp) (v : Value) (f : FileV) (hv : Files r v [f]) (hl : f.path.length ≤ 201) : Tri Tryz.prog r 17 [v] [] fun w H =>
    ∃ a c ds e, w = .tuple #[.slice a ds.length c, .int .i64 e] ∧ H = [DocR (.slice a ds.length c) ds] ∧ ds.length ≤ 1 ∧ ShortD ds := by
  have h := rof22_any r v [f] hv (fun x hx => by obtain rfl := List.mem_singleton.1 hx; omega)
  rw [refFiles_eq] at h
  cases hok : filesOk [f]
  · simp only [hok, Bool.false_eq_true, if_false] at h
    refine tri_conv h fun w H ⟨hw, hH⟩ => ?_
    subst hw; subst hH
    exact ⟨_, ⟨none, 0, [], 2, rfl, rfl, by simp, by simp, fun d hd => (by cases hd)⟩, fun g a => by obtain rfl : g = emp := a; exact ⟨emp, emp, dj_emp, un_emp.symm, RowC.nil _ _, rfl⟩⟩
  · simp only [hok, if_true] at h
    obtain ⟨_, hs⟩ := docs_of_files hok
    refine h.mono fun w H ⟨a, c, hw, hH⟩ => ?_
    refine ⟨a, c, [docOf f], 0, hw, hH, by simp, by simp, fun d hd => ?_⟩
    obtain rfl := List.mem_singleton.1 hd
    exact ⟨hl, langOf_len _, hs _ (by simp)⟩
theorem rputU (r : Hp) (v : Value) (ds : List DocV) (hv : Docs r v ds) (hs : ShortD ds) : Tri Tryz.prog r 9 [v] [] fun w H =>
    ∃ a c B e, w = .tuple #[.slice a B.length c, .int .i64 e] ∧ H = [U8R (.slice a B.length c) B] ∧ B.length ≤ 10000 := by
  have h := rput_any r v ds hv (fun x hx => by have := (hs.2 x hx).1; omega) (fun x hx => (hs.2 x hx).2.2)
  cases hok : docsOk ds
  · simp only [hok, Bool.false_eq_true, if_false] at h
    refine tri_conv h fun w H ⟨hw, hH⟩ => ?_
    subst hw; subst hH
    exact ⟨_, ⟨none, 0, [], 2, rfl, rfl, by simp⟩, fun g a => by obtain rfl : g = emp := a; exact ⟨emp, emp, dj_emp, un_emp.symm, RowC.nil _ _, rfl⟩⟩
  · simp only [hok, if_true] at h
    refine h.mono fun w H ⟨a, c, hw, hH⟩ => ⟨a, c, putBytes ds, 0, hw, hH, ?_⟩
    obtain ⟨hn, heach⟩ := docsOk_each hok
    have h1 := putDocs_len200 (ds := ds) fun d h => ⟨(heach d h).1, (heach d h).2.2⟩
    have h2 := septs_len6 (n := ds.length) (by unfold maxNum; omega)
    have h3 := hs.1
    rw [putBytes, List.length_append]
    omega
def fillP (k : Nat) : List UInt8 := List.replicate k 112 ++ List.replicate (201 - k) 0
theorem fillP_set {k : Nat} (h : k < 201) : (u8s (fillP k)).set k (.int .u8 112) = u8s (fillP (k + 1)) := by
  have e : (u8s (List.replicate k (112 : UInt8))).length = k := by simp [u8s]
  unfold fillP
  rw [show 201 - k = (201 - (k + 1)) + 1 by omega, List.replicate_succ (n := 201 - (k + 1)), show u8s (List.replicate k 112 ++ 0 :: List.replicate (201 - (k + 1)) 0) = u8s (List.replicate k 112) ++ (.int .u8 0 :: u8s (List.replicate (201 - (k + 1)) 0)) by simp [u8s], List.set_append_right _ _ (by omega), e, Nat.sub_self, List.set_cons_zero, List.replicate_succ']
  simp [u8s]
theorem fillP_len {k : Nat} (h : k ≤ 201) : (u8s (fillP k)).length = 201 := by simp [u8s, fillP]; omega
theorem u8s_set {l : List UInt8} {n : Nat} (i : Int) : (u8s l).set n (.int .u8 (IntKind.u8.wrap i)) = u8s (l.set n (UInt8.ofNat (i % 256).toNat)) := by
  have : IntKind.u8.wrap i = ((UInt8.ofNat (i % 256).toNat).toNat : Nat) := by simp [IntKind.wrap, IntKind.bits, IntKind.signed]; omega
  rw [this]
  simp [u8s, List.map_set]
theorem pt_at {b : Nat} {o : Obj} {g r : Hp} (h : pt b o g) (hs : sub g r) : r b = some o := by
  have e : g = one b o := h
  subst e
  exact hs b o one_same
theorem two_files {r3 r4 : Hp} {b1 b2 : Nat} {fz : Nat × Nat} {p q : List UInt8} (h3 : r3 b1 = some (.cells [.int .u8 120].toArray 5 fz)) (hr : sub r3 r4) (h4 : r4 b2 = some (.cells [.string (bs p), .slice (some ⟨b1, 0, none⟩) 1 1, .string (bs q), .slice none 0 0].toArray 39 (0, 0))) :
    Files r4 (.slice (some ⟨b2, 0, none⟩) 2 2) [⟨p, .slice (some ⟨b1, 0, none⟩) 1 1, [120]⟩, ⟨q, .slice none 0 0, []⟩] := by
  refine ⟨⟨fun _ => rfl, Sl.lit h4 rfl (by simp [maxLen])⟩, fun f hf => ?_⟩
  simp only [List.mem_cons, List.not_mem_nil, or_false] at hf
  rcases hf with rfl | rfl
  · exact Sl.lit (hr _ _ h3) rfl (by simp [maxLen])
  · exact Sl.nil _ _
def zerosM : List UInt8 := List.replicate 1048576 0
theorem zerosM_len : zerosM.length = 1048576 := by unfold zerosM; rw [List.length_replicate]
theorem zerosM_v : List.replicate 1048576 (Value.int .u8 0) = u8s zerosM := by unfold zerosM u8s; rw [List.map_replicate]; rfl
attribute [irreducible] zerosM
theorem big_ok (v : Value) : filesOk [⟨[97], v, zerosM⟩] = true := by
  unfold filesOk
  have : ([⟨[97], v, zerosM⟩] : List FileV).any bigF = false := by simp [bigF, zerosM_len]
  rw [this]
  show (true && ordOk [] [[97]]) = true
  decide
theorem big_no (v : Value) : filesOk [⟨[97], v, zerosM ++ [0]⟩] = false := by
  unfold filesOk
  have : ([⟨[97], v, zerosM ++ [0]⟩] : List FileV).any bigF = true := by simp [bigF, zerosM_len]
  rw [this]
  simp

theorem bigFiles (r : Hp) (b : Nat) (v : Value) (hb : r b = some (.cells [.string (bs [97]), v].toArray 39 (0, 0))) (hv : Sl r 1 v 1048576 (u8s zerosM)) : Tri Tryz.prog r 20 [.slice (some ⟨b, 0, none⟩) 1 1] [] fun w H => w = .bool true ∧ H = [] := by
  have h := filesOk_any r (.slice (some ⟨b, 0, none⟩) 1 1) [⟨[97], v, zerosM⟩] ⟨⟨fun _ => rfl, Sl.lit hb rfl (by simp [maxLen])⟩, fun f hf => by obtain rfl := List.mem_singleton.1 hf; show Sl r 1 v zerosM.length _; rw [zerosM_len]; exact hv⟩ (fun x hx => by obtain rfl := List.mem_singleton.1 hx; simp)
  rwa [big_ok] at h
theorem bigFiles2 (r : Hp) (b : Nat) (v : Value) (hb : r b = some (.cells [.string (bs [97]), v].toArray 39 (0, 0))) (hv : Sl r 1 v (1048576 + 1) (u8s zerosM ++ [.int .u8 0])) : Tri Tryz.prog r 20 [.slice (some ⟨b, 0, none⟩) 1 1] [] fun w H => w = .bool false ∧ H = [] := by
  have h := filesOk_any r (.slice (some ⟨b, 0, none⟩) 1 1) [⟨[97], v, zerosM ++ [0]⟩] ⟨⟨fun _ => rfl, Sl.lit hb rfl (by simp [maxLen])⟩, fun f hf => by obtain rfl := List.mem_singleton.1 hf; show Sl r 1 v (zerosM ++ [0]).length _; rw [List.length_append, zerosM_len]; rw [show u8s (zerosM ++ [0]) = u8s zerosM ++ [.int .u8 0] by simp [u8s]]; exact hv⟩ (fun x hx => by obtain rfl := List.mem_singleton.1 hx; simp)
  rwa [big_no] at h
/-- The three documents about the size's ends. -/
def endD (j : Int) : List Value := [.string (bs [97]), .string (bs []), .int .u32 0, .int .i64 (1048576 + j), .string (bs [98]), .string (bs []), .int .u32 0, .int .i64 j, .string (bs [99]), .string (bs [103, 111]), .int .u32 0, .int .i64 0]
theorem endPuts (r : Hp) (b : Nat) (j : Int) (m : Nat) (_h1 : -1 ≤ j) (_h2 : j ≤ 2) (hm : m ≤ 3) (hb : r b = some (.cells (endD j).toArray 47 (0, 0))) : Tri Tryz.prog r 3 [.slice (some ⟨b, 0, none⟩) m 3, .string (bs [98])] [] fun w H => w = .bool true ∧ H = [] := by
  have h := Sl.narrow (Sl.lit (sz := 4) (n := 3) hb rfl (by simp [maxLen])) hm
  have e : (endD j).take (m * 4) = (([⟨[97], [], 0, 1048576 + j⟩, ⟨[98], [], 0, j⟩, ⟨[99], [103, 111], 0, 0⟩] : List DocV).take m).flatMap encD := by
    rcases m with _ | _ | _ | _ | m
    · rfl
    · rfl
    · rfl
    · rfl
    · omega
  have hl : (([⟨[97], [], 0, 1048576 + j⟩, ⟨[98], [], 0, j⟩, ⟨[99], [103, 111], 0, 0⟩] : List DocV).take m).length = m := by rw [List.length_take]; simp; omega
  have hall : ∀ d ∈ (([⟨[97], [], 0, 1048576 + j⟩, ⟨[98], [], 0, j⟩, ⟨[99], [103, 111], 0, 0⟩] : List DocV).take m), (d.path.length ≤ 140737488351232 ∧ d.lang.length ≤ 140737488351232) ∧ d.sum < 4294967296 := fun d hd => by
    have := List.mem_of_mem_take hd
    simp only [List.mem_cons, List.not_mem_nil, or_false] at this
    rcases this with rfl | rfl | rfl <;> simp
  rw [e] at h
  exact docPuts_any r _ _ [98] ⟨fun _ => rfl, by rw [hl]; exact h⟩ (fun d hd => (hall d hd).1) (fun d hd => (hall d hd).2) (by simp)
set_option maxRecDepth 10000 in
set_option maxHeartbeats 16000000 in
theorem docEnds_any (r : Hp) : Tri Tryz.prog r 4 [] [] fun w H => w = .bool true ∧ H = [] := by
  refine Tri.free2 fun R HR => ?_
  refine fn_of_sw Tryz.func4 rfl _ rfl ?_; simp only [Tryz.ntmps4, List.length_nil, Nat.reduceSub, List.replicate_succ, List.replicate_zero, List.nil_append]
  repeat' (first | ((with_reducible apply kx_makeN (n := 201)); exact ty_el; exact ty_inf; rfl; rfl; rfl; rfl; rfl; (omega); intro bl; (refine apk ?_)) | (refine aw0 ?_) | (refine ap2 ?_ ?_ <;> first | exact True.intro | intro h) | (refine aw1 ?_) | (refine abx ?_; intro bb) | (refine abz ?_; intro bz) | (refine ahv ?_; intro v' hv') | (refine aac ?_; intro ac cc) | (refine aw2 ?_) | (refine ap4 ?_ ?_ <;> first | exact True.intro | intro h) | (with_reducible refine tr_two ?_ ?_))
  rw [show (List.replicate 201 (Value.int .u8 0)) = u8s (fillP 0) from rfl]
  revert bz; intro bp
  refine sw_imp (A := pt bp (.cells (pths.flatMap encT).toArray 9 (0, 0))) (B := RowC 9 1 (.slice (some ⟨bp, 0, none⟩) 16 16) 16 (pths.flatMap encT)) (by (exact atk)) (fun g h => RowC.of_pt (n := 16) (cap := 16) (by omega) (by simp [maxLen]) (by rfl) g h) ?_
  refine sw_loop (fun gm t H' => ∃ k : Nat, gm = 202 - k ∧ (k ≤ 201) ∧ (∃ G, Takes [RowC 5 1 (.slice (some ⟨bl, 0, none⟩) 201 201) 201 (u8s (fillP k)), RowC 9 1 (.slice (some ⟨bp, 0, none⟩) 16 16) 16 (pths.flatMap encT)] H' G) ∧ (t.length = 185 ∧ t[1]? = some (.slice (some ⟨bp, 0, none⟩) 16 16) ∧ t[2]? = some (.slice (some ⟨bl, 0, none⟩) 201 201) ∧ t[3]? = some (.int .i64 k))) _ ⟨0, rfl, Nat.zero_le _, ⟨[], by (exact atks)⟩, rfl, (by first | rfl | exact congrArg some (congrArg (Value.int _) (by omega)) | (congr 2 <;> omega)), (by first | rfl | exact congrArg some (congrArg (Value.int _) (by omega)) | (congr 2 <;> omega)), (by first | rfl | exact congrArg some (congrArg (Value.int _) (by omega)) | (congr 2 <;> omega))⟩ ?_
  rintro gm t H' ⟨k, rfl, hk, ⟨G, hp⟩, hlen, e1, e2, e3⟩
  revert e1 e2 e3; revert t; refine all_len (n := 185) ?_; iterate 185 intro uu'
  intro e1 e2 e3; cases e1; cases e2; cases e3
  refine sw_takeG hp ?_
  clear hp
  have hfl := fillP_len hk
  by_cases hlt : k < 201
  · repeat' (first | ((with_reducible apply kx_stC); exact ty_size; rfl; rfl; (exact atk); rfl; (omega); (refine apk ?_)) | (refine aw0 ?_) | (refine ap2 ?_ ?_ <;> first | exact True.intro | intro h) | (refine aw1 ?_) | (refine abx ?_; intro bb) | (refine abz ?_; intro bz) | (refine ahv ?_; intro v' hv') | (refine aac ?_; intro ac cc) | (refine aw2 ?_) | (refine ap4 ?_ ?_ <;> first | exact True.intro | intro h) | (with_reducible refine tr_two ?_ ?_))
    exact ⟨_, (by omega), k + 1, rfl, by omega, ⟨_, by rw [← fillP_set hlt, show ((k : Int).toNat * 1) = k by simp]; (exact atks)⟩, rfl, (by first | rfl | exact congrArg some (congrArg (Value.int _) (by omega)) | (congr 2 <;> omega)), (by first | rfl | exact congrArg some (congrArg (Value.int _) (by omega)) | (congr 2 <;> omega)), (by first | rfl | exact congrArg some (congrArg (Value.int _) (by omega)) | (congr 2 <;> omega))⟩
  · obtain rfl : k = 201 := by omega
    repeat' (first | ((with_reducible apply sw_freezeT (c := .seq (.region 7 _ _) _) (A := RowC 5 1 (.slice (some ⟨bl, 0, none⟩) 201 201) 201 (u8s (fillP 201)))); (with_reducible (exact atk)); intro r1 g1 hr1 hg1 hA1) | (refine aw0 ?_) | (refine ap2 ?_ ?_ <;> first | exact True.intro | intro h) | (refine aw1 ?_) | (refine abx ?_; intro bb) | (refine abz ?_; intro bz) | (refine ahv ?_; intro v' hv') | (refine aac ?_; intro ac cc) | (refine aw2 ?_) | (refine ap4 ?_ ?_ <;> first | exact True.intro | intro h) | (with_reducible refine tr_two ?_ ?_))
    have hL : U8S r1 (.slice (some ⟨bl, 0, none⟩) 201 201) (List.replicate 201 112) := hA1.sl hg1
    clear hA1
    generalize hl1 : List.replicate 201 (112 : UInt8) = L1 at hL
    have hl2 : L1.length = 201 := by rw [← hl1, List.length_replicate]
    repeat' (first | (first | ((with_reducible apply sw_draw (id := 7) 8 [(0, true), (1, true), (2, true), (3, true), (4, true), (5, true), (6, false), (7, false)] [(8, false)] []); kernel_rfl; (exact atks); kernel_rfl; intro r' hl') | ((with_reducible apply sw_draw (id := 14) 13 [(0, true), (1, true), (2, true), (3, true), (7, true), (8, true), (9, true), (10, true), (11, true), (4, false), (5, true), (6, true), (12, false)] [(13, false)] []); kernel_rfl; (exact atks); kernel_rfl; intro r' hl')) | ((with_reducible apply pi_pur); rfl; (first | exact wtN rfl | ((with_reducible apply wtT); rfl; rfl; rfl; (with_reducible rfl)) | ((with_reducible apply wtF); rfl; rfl; rfl; (with_reducible rfl))); (with_reducible apply pu_b2s); exact ty_el; kernel_rfl; kernel_rfl; rfl; (first | (with_reducible assumption) | ((apply Sl.mono (hr := hl'.1)); (with_reducible assumption))); (refine apk ?_)) | (refine aw0 ?_) | (refine ap2 ?_ ?_ <;> first | exact True.intro | intro h) | (refine aw1 ?_) | (refine abx ?_; intro bb) | (refine abz ?_; intro bz) | (refine ahv ?_; intro v' hv') | (refine aac ?_; intro ac cc) | (refine aw2 ?_) | (refine ap4 ?_ ?_ <;> first | exact True.intro | intro h) | (with_reducible refine tr_two ?_ ?_))
    rw [show List.take ((L1.length : Int).toNat - Int.toNat 1) (List.drop (Int.toNat 1) L1) = List.replicate 200 112 from by rw [hl2, ← hl1]; rfl]
    generalize hl3 : List.replicate 200 (112 : UInt8) = L2
    repeat' (first | ((with_reducible apply kx_lend [(bz, .cells [.string (bs L1), .string (bs L2)].toArray 9 (0, 0))]); (exact atks); intro r' hl'; (with_reducible apply kx_appS (news := [.string (bs L1), .string (bs L2)])); exact ty_el; exact ty_inf; rfl; rfl; rfl; rfl; exact (Sl.lit (n := 2) (Lent.h1 hl') rfl (by simp [maxLen])); (exact atk); rfl; (unfold maxLen; omega); (omega); intro a2 c2; (refine apk ?_)) | ((with_reducible apply sw_freezeT (A := RowC 9 1 (.slice a2 (16 + 2) c2) (16 + 2) (pths.flatMap encT ++ [.string (bs L1), .string (bs L2)]))); (with_reducible (exact atk)); intro r2 g2 hr2 hg2 hA2) | (refine aw0 ?_) | (refine ap2 ?_ ?_ <;> first | exact True.intro | intro h) | (refine aw1 ?_) | (refine abx ?_; intro bb) | (refine abz ?_; intro bz) | (refine ahv ?_; intro v' hv') | (refine aac ?_; intro ac cc) | (refine aw2 ?_) | (refine ap4 ?_ ?_ <;> first | exact True.intro | intro h) | (with_reducible refine tr_two ?_ ?_))
    have hP : Els r2 1 encT (.slice a2 (16 + 2) c2) allP := by
      refine ⟨fun _ => rfl, ?_⟩
      rw [allP_len]
      unfold allP
      rw [hl1, hl3, List.flatMap_append]
      exact hA2.sl hg2
    have hPl := allP_len
    have hPs := @allP_short
    clear hA2
    generalize allP = AP at hP hPl hPs
    clear hfl hL hl2 hl1 hl3 hlt hk hv'
    repeat' (first | (refine aw0m ?_) | (refine ap2 ?_ ?_ <;> first | exact True.intro | intro h) | (refine aw1m ?_) | (refine abx ?_; intro bb) | (refine abz ?_; intro bz) | (refine ahv ?_; intro v' hv') | (refine aac ?_; intro ac cc) | (refine aw2 ?_) | (refine ap4 ?_ ?_ <;> first | exact True.intro | intro h) | (with_reducible refine tr_two ?_ ?_))
    refine sw_loop (fun gm t H' => ∃ i : Nat, gm = 19 - i ∧ (i ≤ 18) ∧ (∃ G, Takes [] H' G) ∧ (t.length = 185 ∧ t[1]? = some (.slice a2 (16 + 2) c2) ∧ t[4]? = some (.int .i64 i))) _ ⟨0, rfl, Nat.zero_le _, ⟨_, by (exact atks)⟩, rfl, (by first | rfl | exact congrArg some (congrArg (Value.int _) (by omega)) | (congr 2 <;> omega)), (by first | rfl | exact congrArg some (congrArg (Value.int _) (by omega)) | (congr 2 <;> omega))⟩ ?_
    rintro gm t H' ⟨i, rfl, hi, ⟨G, hp⟩, hlen, e1, e4⟩
    revert e1 e4; revert t; refine all_len (n := 185) ?_; iterate 185 intro uu'
    intro e1 e4; cases e1; cases e4
    refine sw_takeG hp ?_
    clear hp
    by_cases hlt1 : i < 18
    · repeat' (first | (refine aw0m ?_) | (refine ap2 ?_ ?_ <;> first | exact True.intro | intro h) | (refine aw1m ?_) | (refine abx ?_; intro bb) | (refine abz ?_; intro bz) | (refine ahv ?_; intro v' hv') | (refine aac ?_; intro ac cc) | (refine aw2 ?_) | (refine ap4 ?_ ?_ <;> first | exact True.intro | intro h) | (with_reducible refine tr_two ?_ ?_))
      refine sw_loop (fun gm t H' => ∃ k : Nat, gm = 19 - k ∧ (k ≤ 18) ∧ (∃ G, Takes [] H' G) ∧ (t.length = 185 ∧ t[1]? = some (.slice a2 (16 + 2) c2) ∧ t[4]? = some (.int .i64 i) ∧ t[5]? = some (.int .i64 k))) _ ⟨0, rfl, Nat.zero_le _, ⟨[], by (exact atks)⟩, rfl, (by first | rfl | exact congrArg some (congrArg (Value.int _) (by omega)) | (congr 2 <;> omega)), (by first | rfl | exact congrArg some (congrArg (Value.int _) (by omega)) | (congr 2 <;> omega)), (by first | rfl | exact congrArg some (congrArg (Value.int _) (by omega)) | (congr 2 <;> omega))⟩ ?_
      rintro gm t H' ⟨k, rfl, hk, ⟨G, hp⟩, hlen, e1, e4, e5⟩
      revert e1 e4 e5; revert t; refine all_len (n := 185) ?_; iterate 185 intro uu'
      intro e1 e4 e5; cases e1; cases e4; cases e5
      refine sw_takeG hp ?_
      clear hp
      by_cases hlt2 : k < 18
      · have hpi := hPs hlt1
        have hpk := hPs hlt2
        repeat' (first | ((with_reducible apply sw_draw (id := 14) 13 [(0, true), (1, true), (2, true), (3, true), (7, true), (8, true), (9, true), (10, true), (11, true), (4, false), (5, false), (6, true), (12, false)] [(13, false)] []); kernel_rfl; (exact atks); kernel_rfl; intro r' hl') | ((with_reducible apply kx_mark); exact ty_el; kernel_rfl; rfl; (exact atk); (refine apk ?_)) | ((with_reducible apply sw_freezeT (c := .seq (.region 15 _ _) _) (A := pt _ (.cells [.int .u8 120].toArray 5 ([Value.int IntKind.u8 120].length, [Value.int IntKind.u8 120].length + 1)))); (with_reducible (exact atk)); intro r3 g3 hr3 hg3 hA3) | ((with_reducible apply sw_freezeT (c := .seq (.region 15 _ _) _) (A := pt _ (.cells [.string (bs (AP.getD i default)), .slice (some ⟨_, 0, none⟩) 1 1, .string (bs (AP.getD k default)), .slice none 0 0].toArray 39 (0, 0)))); (with_reducible (exact atk)); intro r4 g4 hr4 hg4 hA4) | (refine aw0 ?_) | (refine ap2 ?_ ?_ <;> first | exact True.intro | intro h) | (refine aw1 ?_) | (refine abx ?_; intro bb) | (refine abz ?_; intro bz) | (refine ahv ?_; intro v' hv') | (refine aac ?_; intro ac cc) | (refine aw2 ?_) | (refine ap4 ?_ ?_ <;> first | exact True.intro | intro h) | (with_reducible refine tr_two ?_ ?_))
        have hF4 := two_files (pt_at hA3 hg3) hr4 (pt_at hA4 hg4)
        clear hA3 hA4
        generalize hf1 : FileV.mk (AP.getD i default) _ [120] = f1 at hF4
        generalize hf2 : FileV.mk (AP.getD k default) _ [] = f2 at hF4
        have hp1 : f1.path.length ≤ 201 := by rw [← hf1]; exact hpi
        have hp2 : f2.path.length ≤ 201 := by rw [← hf2]; exact hpk
        have hd1 : f1.data.length ≤ 1 := by rw [← hf1]; simp
        have hd2 : f2.data.length ≤ 1 := by rw [← hf2]; simp
        have hE4 := hF4.1
        have hP4 := (hP.mono hr3).mono hr4
        have hU1 := hF4.2 f1 (by simp)
        have hU2 := hF4.2 f2 (by simp)
        repeat' (first | ((with_reducible apply kx_slE); rfl; (first | (with_reducible assumption) | ((apply Els.mono (hr := hl'.1)); (with_reducible assumption))); (first | exact bds_ss rfl rfl | exact bds_sn rfl | exact bds_ns rfl | exact bds_nn); (simp only [List.length_cons, List.length_nil]; omega); intro v' hv'; (refine apk ?_)) | ((with_reducible apply kx_call (f := 17) (cap := [])); exact goesOf Tryz.func17 (by kernel_rfl) rfl; rfl; rfl; exact (rofU _ _ f1 ⟨hv', fun f hf => by obtain rfl := List.mem_singleton.1 hf; exact hU1⟩ hp1); (exact atks); rintro v' H' ⟨a5, c5, d5, e5, rfl, rfl, hn5, hs5⟩; all_goals ((try simp only [List.cons_append, List.nil_append]); (refine apk ?_))) | ((with_reducible apply sw_freezeT (A := DocR (.slice a5 d5.length c5) d5)); (with_reducible (exact atk)); intro r5 g5 hr5 hg5 hA5) | (refine aw0 ?_) | (refine ap2 ?_ ?_ <;> first | exact True.intro | intro h) | (refine aw1 ?_) | (refine abx ?_; intro bb) | (refine abz ?_; intro bz) | (refine ahv ?_; intro v' hv') | (refine aac ?_; intro ac cc) | (refine aw2 ?_) | (refine ap4 ?_ ?_ <;> first | exact True.intro | intro h) | (with_reducible refine tr_two ?_ ?_))
        have hD5 := (DocR.docs hA5 hg5)
        have hF5 := Files.mono hF4 hr5
        have hE5 := hF5.1
        have hW5 := hF5.2 f2 (by simp)
        have hP5 := hP4.mono hr5
        clear hA5
        repeat' (first | ((with_reducible apply kx_slE); rfl; (first | (with_reducible assumption) | ((apply Els.mono (hr := hl'.1)); (with_reducible assumption))); (first | exact bds_ss rfl rfl | exact bds_sn rfl | exact bds_ns rfl | exact bds_nn); (simp only [List.length_cons, List.length_nil]; omega); intro v' hv'; (refine apk ?_)) | ((with_reducible apply kx_call (f := 17) (cap := [])); exact goesOf Tryz.func17 (by kernel_rfl) rfl; rfl; rfl; exact (rofU _ _ f2 ⟨hv', fun f hf => by obtain rfl := List.mem_singleton.1 hf; exact hW5⟩ hp2); (exact atks); rintro v' H' ⟨a6, c6, d6, e6, rfl, rfl, hn6, hs6⟩; all_goals ((try simp only [List.cons_append, List.nil_append]); (refine apk ?_))) | ((with_reducible apply sw_freezeT (A := DocR (.slice a6 d6.length c6) d6)); (with_reducible (exact atk)); intro r6 g6 hr6 hg6 hA6) | (refine aw0 ?_) | (refine ap2 ?_ ?_ <;> first | exact True.intro | intro h) | (refine aw1 ?_) | (refine abx ?_; intro bb) | (refine abz ?_; intro bz) | (refine ahv ?_; intro v' hv') | (refine aac ?_; intro ac cc) | (refine aw2 ?_) | (refine ap4 ?_ ?_ <;> first | exact True.intro | intro h) | (with_reducible refine tr_two ?_ ?_))
        have hD6 := (DocR.docs hA6 hg6)
        have hD56 := hD5.mono hr6
        have hF6 := Files.mono hF5 hr6
        have hP6 := hP5.mono hr6
        clear hA6
        repeat' (first | ((with_reducible apply kx_appS (news := d5.flatMap encD)); exact ty_el; exact ty_inf; rfl; rfl; rfl; rfl; exact hD56.sl; (exact atk); exact (encD_one _); (unfold maxLen; omega); (omega); intro a' c'; (refine apk ?_)) | ((with_reducible apply kx_appS (news := d6.flatMap encD)); exact ty_el; exact ty_inf; rfl; rfl; rfl; rfl; exact hD6.sl; (exact atk); exact (encD_one _); (unfold maxLen; omega); (omega); intro a7 c7; (refine apk ?_)) | ((with_reducible apply sw_freezeT (A := RowC 47 4 (.slice a7 (0 + d5.length + d6.length) c7) (0 + d5.length + d6.length) ([] ++ d5.flatMap encD ++ d6.flatMap encD))); (with_reducible (exact atk)); intro r7 g7 hr7 hg7 hA7) | (refine aw0 ?_) | (refine ap2 ?_ ?_ <;> first | exact True.intro | intro h) | (refine aw1 ?_) | (refine abx ?_; intro bb) | (refine abz ?_; intro bz) | (refine ahv ?_; intro v' hv') | (refine aac ?_; intro ac cc) | (refine aw2 ?_) | (refine ap4 ?_ ?_ <;> first | exact True.intro | intro h) | (with_reducible refine tr_two ?_ ?_))
        have hD7 : Docs r7 (.slice a7 (0 + d5.length + d6.length) c7) (d5 ++ d6) := ⟨fun _ => rfl, by
          have := hA7.sl hg7
          rw [List.length_append, List.flatMap_append]
          simpa using this⟩
        have hs7 := ShortD.app hn5 hn6 hs5 hs6
        have hF7 := Files.mono hF6 hr7
        have hP7 := hP6.mono hr7
        clear hA7 hD56 hD5 hD6
        repeat' (first | ((with_reducible apply kx_call (f := 9) (cap := [])); exact goesOf Tryz.func9 (by kernel_rfl) rfl; rfl; rfl; exact (rputU _ _ (d5 ++ d6) hD7 hs7); (exact atks); rintro v' H' ⟨a8, c8, B, e8, rfl, rfl, hB8⟩; all_goals ((try simp only [List.cons_append, List.nil_append]); (refine apk ?_))) | ((with_reducible apply sw_freezeT (A := U8R (.slice a8 B.length c8) B)); (with_reducible (exact atk)); intro r8 g8 hr8 hg8 hA8) | (refine aw0 ?_) | (refine ap2 ?_ ?_ <;> first | exact True.intro | intro h) | (refine aw1 ?_) | (refine abx ?_; intro bb) | (refine abz ?_; intro bz) | (refine ahv ?_; intro v' hv') | (refine aac ?_; intro ac cc) | (refine aw2 ?_) | (refine ap4 ?_ ?_ <;> first | exact True.intro | intro h) | (with_reducible refine tr_two ?_ ?_))
        have hU8 : U8S r8 (.slice a8 B.length c8) B := hA8.sl hg8
        have hF8 := Files.mono hF7 hr8
        have hD8 := hD7.mono hr8
        have hP8 := hP7.mono hr8
        clear hA8 hD7 hF7 hF6 hF5 hF4 hE4 hE5 hP4 hP5 hP6 hP7
        have hcf := docFiles_any r8 _ _ hF8 (fun f hf => by
          simp only [List.mem_cons, List.not_mem_nil, or_false] at hf
          rcases hf with rfl | rfl <;> constructor <;> omega)
        have hcp := docPuts_any r8 _ _ (AP.getD k default) hD8 (fun d hd => by have := hs7.2 d hd; omega) (fun d hd => (hs7.2 d hd).2.2) (by omega)
        have hcg := docGets_any r8 _ _ hU8
        repeat' (first | ((with_reducible apply kx_call (f := 18) (cap := [])); exact goesOf Tryz.func18 (by kernel_rfl) rfl; rfl; rfl; exact (hcf); (exact atks); rintro v' H' ⟨rfl, rfl⟩; all_goals ((try simp only [List.nil_append]); (refine apk ?_))) | ((with_reducible apply kx_call (f := 3) (cap := [])); exact goesOf Tryz.func3 (by kernel_rfl) rfl; rfl; rfl; exact (hcp); (exact atks); rintro v' H' ⟨rfl, rfl⟩; all_goals ((try simp only [List.nil_append]); (refine apk ?_))) | ((with_reducible apply kx_call (f := 19) (cap := [])); exact goesOf Tryz.func19 (by kernel_rfl) rfl; rfl; rfl; exact (hcg); (exact atks); rintro v' H' ⟨rfl, rfl⟩; all_goals ((try simp only [List.nil_append]); (refine apk ?_))) | (refine aw0 ?_) | (refine ap2 ?_ ?_ <;> first | exact True.intro | intro h) | (refine aw1 ?_) | (refine abx ?_; intro bb) | (refine abz ?_; intro bz) | (refine ahv ?_; intro v' hv') | (refine aac ?_; intro ac cc) | (refine aw2 ?_) | (refine ap4 ?_ ?_ <;> first | exact True.intro | intro h) | (with_reducible refine tr_two ?_ ?_))
        refine sw_loop (fun gm t H' => ∃ n : Nat, gm = 30000 - n ∧ (n ≤ 20000) ∧ (∃ G, Takes [] H' G) ∧ (t.length = 185 ∧ t[1]? = some (.slice a2 (16 + 2) c2) ∧ t[4]? = some (.int .i64 i) ∧ t[5]? = some (.int .i64 k) ∧ t[12]? = some (.slice a8 B.length c8) ∧ t[14]? = some (.int .i64 n))) _ ⟨0, rfl, Nat.zero_le _, ⟨_, by (exact atks)⟩, rfl, (by first | rfl | exact congrArg some (congrArg (Value.int _) (by omega)) | (congr 2 <;> omega)), (by first | rfl | exact congrArg some (congrArg (Value.int _) (by omega)) | (congr 2 <;> omega)), (by first | rfl | exact congrArg some (congrArg (Value.int _) (by omega)) | (congr 2 <;> omega)), (by first | rfl | exact congrArg some (congrArg (Value.int _) (by omega)) | (congr 2 <;> omega)), (by first | rfl | exact congrArg some (congrArg (Value.int _) (by omega)) | (congr 2 <;> omega))⟩ ?_
        rintro gm t H' ⟨n, rfl, hn, ⟨G, hp⟩, hlen, e1, e4, e5, e12, e14⟩
        revert e1 e4 e5 e12 e14; revert t; refine all_len (n := 185) ?_; iterate 185 intro uu'
        intro e1 e4 e5 e12 e14; cases e1; cases e4; cases e5; cases e12; cases e14
        refine sw_takeG hp ?_
        clear hp
        by_cases hlt3 : n < B.length
        · by_cases hk5 : k % 5 = 0
          · repeat' (first | ((with_reducible apply kx_appS (news := u8s B)); exact ty_el; exact ty_inf; rfl; rfl; rfl; rfl; exact hU8; (exact atk); exact (u8s_one _); (unfold maxLen; omega); (omega); intro a9 c9; (refine apk ?_)) | (refine aw0 ?_) | (refine ap2 ?_ ?_ <;> first | exact True.intro | intro h) | (refine aw1 ?_) | (refine abx ?_; intro bb) | (refine abz ?_; intro bz) | (refine ahv ?_; intro v' hv') | (refine aac ?_; intro ac cc) | (refine aw2 ?_) | (refine ap4 ?_ ?_ <;> first | exact True.intro | intro h) | (with_reducible refine tr_two ?_ ?_))
            simp only [Nat.zero_add, List.nil_append]
            have hul : (u8s B).length = B.length := by simp [u8s]
            repeat' (first | ((with_reducible apply kx_lendC (A := RowC 5 1 (.slice a9 B.length c9) B.length (u8s B))); (exact atk); intro rx gx hrx hgx hAx; (with_reducible apply swo_pur); (with_reducible apply pu_ldB (l := B) (i := n)); (simp only [Int.toNat_natCast]; rfl); exact (hAx.sl hgx); omega; (refine apk ?_)) | ((with_reducible apply kx_stC); exact ty_size; rfl; rfl; (exact atk); rfl; (omega); (refine apk ?_)) | ((with_reducible apply sw_freezeT (A := RowC 5 1 (.slice a9 B.length c9) B.length ((u8s B).set ((n : Int).toNat * 1) (.int .u8 (IntKind.u8.wrap (((B.getD n 0).toNat : Nat) + ((k : Int) + 1))))))); (with_reducible (exact atk)); intro r9 g9 hr9 hg9 hA9) | (refine aw0 ?_) | (refine ap2 ?_ ?_ <;> first | exact True.intro | intro h) | (refine aw1 ?_) | (refine abx ?_; intro bb) | (refine abz ?_; intro bz) | (refine ahv ?_; intro v' hv') | (refine aac ?_; intro ac cc) | (refine aw2 ?_) | (refine ap4 ?_ ?_ <;> first | exact True.intro | intro h) | (with_reducible refine tr_two ?_ ?_))
            have hX := hA9.sl hg9
            rw [u8s_set, Int.toNat_natCast, Nat.mul_one] at hX
            clear hA9
            generalize hB9 : B.set n _ = B9 at hX
            have hl9 : B9.length = B.length := by rw [← hB9, List.length_set]
            rw [← hl9] at hX
            have hcx := docGets_any r9 _ _ hX
            rw [hl9] at hcx
            have hU9 := hU8.mono hr9
            clear hU8
            repeat' (first | ((with_reducible apply kx_call (f := 19) (cap := [])); exact goesOf Tryz.func19 (by kernel_rfl) rfl; rfl; rfl; exact (hcx); (exact atks); rintro v' H' ⟨rfl, rfl⟩; all_goals ((try simp only [List.nil_append]); (refine apk ?_))) | ((with_reducible apply kx_call (f := 19) (cap := [])); exact goesOf Tryz.func19 (by kernel_rfl) rfl; rfl; rfl; exact (docGets_any _ _ _ hv'); (exact atks); rintro v' H' ⟨rfl, rfl⟩; all_goals ((try simp only [List.nil_append]); (refine apk ?_))) | (refine aw0 ?_) | (refine ap2 ?_ ?_ <;> first | exact True.intro | intro h) | (refine aw1 ?_) | (refine abx ?_; intro bb) | (refine abz ?_; intro bz) | (refine ahv ?_; intro v' hv') | (refine aac ?_; intro ac cc) | (refine aw2 ?_) | (refine ap4 ?_ ?_ <;> first | exact True.intro | intro h) | (with_reducible refine tr_two ?_ ?_))
            exact ⟨_, (by omega), n + 1 + n / 10, rfl, by omega, ⟨_, by (exact atks)⟩, rfl, (by first | rfl | exact congrArg some (congrArg (Value.int _) (by omega)) | (congr 2 <;> omega)), (by first | rfl | exact congrArg some (congrArg (Value.int _) (by omega)) | (congr 2 <;> omega)), (by first | rfl | exact congrArg some (congrArg (Value.int _) (by omega)) | (congr 2 <;> omega)), (by first | rfl | exact congrArg some (congrArg (Value.int _) (by omega)) | (congr 2 <;> omega)), (by first | rfl | exact congrArg some (congrArg (Value.int _) (by omega)) | (congr 2 <;> omega))⟩
          · repeat' (first | (refine aw0m ?_) | (refine ap2 ?_ ?_ <;> first | exact True.intro | intro h) | (refine aw1m ?_) | (refine abx ?_; intro bb) | (refine abz ?_; intro bz) | (refine ahv ?_; intro v' hv') | (refine aac ?_; intro ac cc) | (refine aw2 ?_) | (refine ap4 ?_ ?_ <;> first | exact True.intro | intro h) | (with_reducible refine tr_two ?_ ?_))
            exact ⟨_, (by omega), k + 1, rfl, by omega, ⟨_, by (exact atks)⟩, rfl, (by first | rfl | exact congrArg some (congrArg (Value.int _) (by omega)) | (congr 2 <;> omega)), (by first | rfl | exact congrArg some (congrArg (Value.int _) (by omega)) | (congr 2 <;> omega)), (by first | rfl | exact congrArg some (congrArg (Value.int _) (by omega)) | (congr 2 <;> omega))⟩
        · repeat' (first | (refine aw0m ?_) | (refine ap2 ?_ ?_ <;> first | exact True.intro | intro h) | (refine aw1m ?_) | (refine abx ?_; intro bb) | (refine abz ?_; intro bz) | (refine ahv ?_; intro v' hv') | (refine aac ?_; intro ac cc) | (refine aw2 ?_) | (refine ap4 ?_ ?_ <;> first | exact True.intro | intro h) | (with_reducible refine tr_two ?_ ?_))
          exact ⟨_, (by omega), k + 1, rfl, by omega, ⟨_, by (exact atks)⟩, rfl, (by first | rfl | exact congrArg some (congrArg (Value.int _) (by omega)) | (congr 2 <;> omega)), (by first | rfl | exact congrArg some (congrArg (Value.int _) (by omega)) | (congr 2 <;> omega)), (by first | rfl | exact congrArg some (congrArg (Value.int _) (by omega)) | (congr 2 <;> omega))⟩
      · repeat' (first | (refine aw0m ?_) | (refine ap2 ?_ ?_ <;> first | exact True.intro | intro h) | (refine aw1m ?_) | (refine abx ?_; intro bb) | (refine abz ?_; intro bz) | (refine ahv ?_; intro v' hv') | (refine aac ?_; intro ac cc) | (refine aw2 ?_) | (refine ap4 ?_ ?_ <;> first | exact True.intro | intro h) | (with_reducible refine tr_two ?_ ?_))
        exact ⟨_, (by omega), i + 1, rfl, by omega, ⟨_, by (exact atks)⟩, rfl, (by first | rfl | exact congrArg some (congrArg (Value.int _) (by omega)) | (congr 2 <;> omega)), (by first | rfl | exact congrArg some (congrArg (Value.int _) (by omega)) | (congr 2 <;> omega))⟩
    · have hmany := many_any r2
      have haw := awake22_any r2
      have hgn := docGets_any r2 (.slice none 0 0) [] (Sl.nil _ _)
      repeat' (first | (refine aw0m ?_) | (refine ap2 ?_ ?_ <;> first | exact True.intro | intro h) | (refine aw1m ?_) | (refine abx ?_; intro bb) | (refine abz ?_; intro bz) | (refine ahv ?_; intro v' hv') | (refine aac ?_; intro ac cc) | (refine aw2 ?_) | (refine ap4 ?_ ?_ <;> first | exact True.intro | intro h) | (with_reducible refine tr_two ?_ ?_))
      refine sw_loop (fun gm t H' => ∃ j : Int, gm = (3 - j).toNat ∧ (-1 ≤ j ∧ j ≤ 2) ∧ (∃ G, Takes [] H' G) ∧ (t.length = 185 ∧ t[16]? = some (.int .i64 j))) _ ⟨-1, rfl, by omega, ⟨_, by (exact atks)⟩, rfl, (by first | rfl | exact congrArg some (congrArg (Value.int _) (by omega)) | (congr 2 <;> omega))⟩ ?_
      rintro gm t H' ⟨j, rfl, hj, ⟨G, hp⟩, hlen, e16⟩
      revert e16; revert t; refine all_len (n := 185) ?_; iterate 185 intro uu'
      intro e16; cases e16
      refine sw_takeG hp ?_
      clear hp
      by_cases hltj : j < 2
      · obtain ⟨m, hm, hm1, hm2⟩ : ∃ m : Nat, 2 + (j + 1) % 2 = (m : Int) ∧ 2 ≤ m ∧ m ≤ 3 := ⟨(2 + (j + 1) % 2).toNat, by omega, by omega, by omega⟩
        have hcp := fun (r' : Hp) (b : Nat) (hb : r' b = some (.cells (endD j).toArray 47 (0, 0))) => endPuts r' b j m hj.1 hj.2 hm2 hb
        repeat' (first | (refine aw0m ?_) | (refine ap2 ?_ ?_ <;> first | exact True.intro | intro h) | ((with_reducible apply swo_pur); (with_reducible apply pu_slX (m := m)); rfl; rfl; exact hm; omega; (refine apk ?_)) | ((with_reducible apply kx_lend [(bz, .cells (endD j).toArray 47 (0, 0))]); (exact atks); intro r' hl'; (with_reducible apply kx_call (f := 3) (cap := [])); exact goesOf Tryz.func3 (by kernel_rfl) rfl; rfl; rfl; exact (hcp _ _ (Lent.h1 hl')); (exact atks); rintro v' H' ⟨rfl, rfl⟩; all_goals ((try simp only [pts, List.map_cons, List.map_nil, List.cons_append, List.nil_append]); (refine apk ?_))) | (refine aw1m ?_) | (refine abx ?_; intro bb) | (refine abz ?_; intro bz) | (refine ahv ?_; intro v' hv') | (refine aac ?_; intro ac cc) | (refine aw2 ?_) | (refine ap4 ?_ ?_ <;> first | exact True.intro | intro h) | (with_reducible refine tr_two ?_ ?_))
        exact ⟨_, (by omega), j + 1, rfl, by omega, ⟨_, by (exact atks)⟩, rfl, (by first | rfl | exact congrArg some (congrArg (Value.int _) (by omega)) | (congr 2 <;> omega))⟩
      · repeat' (first | (refine aw0m ?_) | (refine ap2 ?_ ?_ <;> first | exact True.intro | intro h) | ((with_reducible apply kx_makeN (n := 1048576)); exact ty_el; exact ty_inf; rfl; rfl; rfl; rfl; rfl; (omega); intro bm; rw [zerosM_v]; (refine apk ?_)) | (refine aw1m ?_) | (refine abx ?_; intro bb) | (refine abz ?_; intro bz) | (refine ahv ?_; intro v' hv') | (refine aac ?_; intro ac cc) | (refine aw2 ?_) | (refine ap4 ?_ ?_ <;> first | exact True.intro | intro h) | (with_reducible refine tr_two ?_ ?_))
        repeat' (first | (refine aw0m ?_) | (refine ap2 ?_ ?_ <;> first | exact True.intro | intro h) | ((with_reducible apply kx_lendC (A := RowC 5 1 (.slice (some ⟨bm, 0, none⟩) 1048576 1048576) 1048576 (u8s zerosM))); (with_reducible (exact atk)); intro rx gx hrx hgx hAx; ((with_reducible apply kx_lend [(bz, .cells [.string (bs [97]), .slice (some ⟨bm, 0, none⟩) 1048576 1048576].toArray 39 (0, 0))]); (exact atks); intro r' hl'; (with_reducible apply kx_call (f := 20) (cap := [])); exact goesOf Tryz.func20 (by kernel_rfl) rfl; rfl; rfl; exact (bigFiles _ _ _ (Lent.h1 hl') ((hAx.sl hgx).mono hl'.1)); (exact atks); rintro v' H' ⟨rfl, rfl⟩; all_goals ((try simp only [pts, List.map_cons, List.map_nil, List.cons_append, List.nil_append]); (refine apk ?_)))) | (refine aw1m ?_) | (refine abx ?_; intro bb) | (refine abz ?_; intro bz) | (refine ahv ?_; intro v' hv') | (refine aac ?_; intro ac cc) | (refine aw2 ?_) | (refine ap4 ?_ ?_ <;> first | exact True.intro | intro h) | (with_reducible refine tr_two ?_ ?_))
        repeat' (first | (refine aw0m ?_) | (refine ap2 ?_ ?_ <;> first | exact True.intro | intro h) | (first | ((with_reducible apply kx_append1); exact ty_el; exact ty_inf; rfl; rfl; rfl; (exact atk); (exact atk); rfl; (omega); intro a' c'; (refine apk ?_)) | ((with_reducible apply kx_appendN); exact ty_el; exact ty_inf; rfl; rfl; rfl; rfl; (exact atk); (exact atk); rfl; rfl; (omega); intro a' c'; (refine apk ?_))) | (refine aw1m ?_) | (refine abx ?_; intro bb) | (refine abz ?_; intro bz) | (refine ahv ?_; intro v' hv') | (refine aac ?_; intro ac cc) | (refine aw2 ?_) | (refine ap4 ?_ ?_ <;> first | exact True.intro | intro h) | (with_reducible refine tr_two ?_ ?_))
        try simp only [List.cons_append, List.nil_append]
        repeat' (first | (refine aw0m ?_) | (refine ap2 ?_ ?_ <;> first | exact True.intro | intro h) | ((with_reducible apply kx_lendC (A := RowC 5 1 (.slice a' (1048576 + 1) c') (1048576 + 1) (u8s zerosM ++ [.int .u8 0]))); (with_reducible (exact atk)); intro rx gx hrx hgx hAx; ((with_reducible apply kx_lend [(bz, .cells [.string (bs [97]), .slice a' (1048576 + 1) c'].toArray 39 (0, 0))]); (exact atks); intro r' hl'; (with_reducible apply kx_call (f := 20) (cap := [])); exact goesOf Tryz.func20 (by kernel_rfl) rfl; rfl; rfl; exact (bigFiles2 _ _ _ (Lent.h1 hl') ((hAx.sl hgx).mono hl'.1)); (exact atks); rintro v' H' ⟨rfl, rfl⟩; all_goals ((try simp only [pts, List.map_cons, List.map_nil, List.cons_append, List.nil_append]); (refine apk ?_)))) | ((with_reducible apply kx_call (f := 21) (cap := [])); exact goesOf Tryz.func21 (by kernel_rfl) rfl; rfl; rfl; exact (hmany); (exact atks); rintro v' H' ⟨rfl, rfl⟩; all_goals ((try simp only [List.nil_append]); (refine apk ?_))) | ((with_reducible apply kx_call (f := 6) (cap := [])); exact goesOf Tryz.func6 (by kernel_rfl) rfl; rfl; rfl; exact (haw); (exact atks); rintro v' H' ⟨rfl, rfl⟩; all_goals ((try simp only [List.nil_append]); (refine apk ?_))) | ((with_reducible apply kx_call (f := 19) (cap := [])); exact goesOf Tryz.func19 (by kernel_rfl) rfl; rfl; rfl; exact (hgn); (exact atks); rintro v' H' ⟨rfl, rfl⟩; all_goals ((try simp only [List.nil_append]); (refine apk ?_))) | ((with_reducible apply kx_lend [(bz, .cells [.int .u8 0].toArray 5 (0, 0))]); (exact atks); intro r' hl'; (with_reducible apply kx_call (f := 19) (cap := [])); exact goesOf Tryz.func19 (by kernel_rfl) rfl; rfl; rfl; exact (docGets_any _ (.slice (some ⟨bz, 0, none⟩) 1 1) [0] (Sl.lit (n := 1) (Lent.h1 hl') rfl (by simp [maxLen]))); (exact atks); rintro v' H' ⟨rfl, rfl⟩; all_goals ((try simp only [pts, List.map_cons, List.map_nil, List.cons_append, List.nil_append]); (refine apk ?_))) | (refine aw1m ?_) | (refine abx ?_; intro bb) | (refine abz ?_; intro bz) | (refine ahv ?_; intro v' hv') | (refine aac ?_; intro ac cc) | (refine aw2 ?_) | (refine ap4 ?_ ?_ <;> first | exact True.intro | intro h) | (with_reducible refine tr_two ?_ ?_))
        ((with_reducible apply fp_ret); exact res_1 rfl rfl)
        exact HR.out _ _ _ [] (by (exact atks)) ⟨rfl, rfl⟩

end Go.Proofs.YtfgkhkpngnhimaaGreat
