
/- Tw: two slices that share a block or do not: what an append to the one leaves of the other. No program is named. Rm: rows that may be marked behind their end (what a string was turned into): read, appended to. No program is named. Tn: rows whose elements have several cells: an element is stored; rows of zeros are made. No program is named. -/
import Derived.Test.YtgodcegaffgfjaaGreatDoorPu
import Derived.ArgAppend
import Derived.Deep.Upon
namespace Go.Proofs.YtgodcegaffgfjaaGreatDoor
open Go.RowKit
namespace Sx

/-- u was grown out of v: in v's block, behind v's end, or in one of its own. -/
def Two (E : TypeId) (sz : Nat) (v : Value) (n : Nat) (xs : List Value) (u : Value) (m : Nat) (ys : List Value) : Ch := fun h =>
  (∃ b cap cur, v = .slice (some ⟨b, 0, none⟩) n cap ∧ u = .slice (some ⟨b, 0, none⟩) m cap ∧ n ≤ m ∧ m ≤ cap ∧ cap ≤ maxLen ∧ h = one b (.cells cur E (0, 0)) ∧ cur.size = cap * sz ∧ cur.toList.take (n * sz) = xs ∧ cur.toList.take (m * sz) = ys) ∨
  all [RowC E sz v n xs, RowC E sz u m ys] h
variable {P : Program} {l : Option Nat} {r : Hp} {Q : Exit → St} {K : St} {t : List Value} {H : List Ch} {d : Option Tmp} {ty : TypeId} {pos : String} {af : Array Edge} {gd : Option (Nat × Bool)}
theorem Two.start {E : TypeId} {sz n : Nat} {v : Value} {xs : List Value} {h : Hp} (hR : RowC E sz v n xs h) : Two E sz v n xs v n xs h := by
  rcases hR.2 with ⟨rfl, rfl, rfl⟩ | ⟨b, cap, cur, rfl, rfl, h1, h2, h3, h4⟩
  · exact .inr ⟨emp, emp, emp_dj, emp_un.symm, hR, emp, emp, emp_dj, emp_un.symm, hR, rfl⟩
  · exact .inl ⟨b, cap, cur, rfl, rfl, Nat.le_refl _, h1, h2, rfl, h3, h4, h4⟩
/-- What was grown is let go. -/
theorem Two.first {E : TypeId} {sz n m : Nat} {v u : Value} {xs ys : List Value} {h : Hp} (hT : Two E sz v n xs u m ys h) : ∃ g k, dj g k ∧ h = un g k ∧ RowC E sz v n xs g := by
  rcases hT with ⟨b, cap, cur, rfl, rfl, h0, h1, h2, rfl, h3, h4, h5⟩ | ⟨g, k, d, rfl, hA, _⟩
  · refine ⟨_, emp, dj_emp, un_emp.symm, ?_, .inr ⟨b, cap, cur, rfl, rfl, by omega, h2, h3, h4⟩⟩
    rw [← h4, List.length_take, Array.length_toList, h3]
    exact Nat.min_eq_left (Nat.mul_le_mul_right _ (by omega))
  · exact ⟨g, k, d, rfl, hA⟩
theorem Two.slv {E : TypeId} {sz n m : Nat} {v u : Value} {xs ys : List Value} {h r : Hp} (hT : Two E sz v n xs u m ys h) (hs : sub h r) : Sl r sz v n xs := by
  obtain ⟨g, k, dd, rfl, hR⟩ := hT.first
  exact hR.sl fun b o c => hs b o (un_left c)
theorem Two.slu {E : TypeId} {sz n m : Nat} {v u : Value} {xs ys : List Value} {h r : Hp} (hT : Two E sz v n xs u m ys h) (hs : sub h r) : Sl r sz u m ys := by
  rcases hT with ⟨b, cap, cur, rfl, rfl, h0, h1, h2, rfl, h3, h4, h5⟩ | ⟨g, k, d, rfl, _, g2, k2, d2, rfl, hB, _⟩
  · have hR : RowC E sz (.slice (some ⟨b, 0, none⟩) m cap) m ys (one b (.cells cur E (0, 0))) := by
      refine ⟨?_, .inr ⟨b, cap, cur, rfl, rfl, h1, h2, h3, h5⟩⟩
      rw [← h5, List.length_take, Array.length_toList, h3]
      exact Nat.min_eq_left (Nat.mul_le_mul_right _ h1)
    exact hR.sl hs
  · exact hB.sl fun b o c => hs b o (un_right d (un_left c))
theorem swo_conv {o : Oper} (h : SWo P l r o (fun t' H' => ∃ H2, (∀ g, all H' g → all H2 g) ∧ K t' H2) t H) : SWo P l r o K t H := by
  intro w h0 ds ok al
  refine wpIn_noQ ?_ (h w h0 ds ok al)
  rintro a' w' ⟨t', H', k', rfl, ⟨H2, hc, hk⟩, al', tb⟩
  exact ⟨t', H2, k', rfl, hk, hc _ al', tb⟩
theorem kx_appTwo {T E : TypeId} {z : Value} {sz by_ n m q : Nat} {x y : Operand} {v u s : Value} {xs ys news : List Value} {H' : List Ch}
    (hT : elB P T = some E) (hi : infB P E = some (some z, sz, by_)) (hzs : decide (z.cells.size = sz) = true) (hsz : decide (0 < sz) = true) (hx : evO t x = some u) (hy : evO t y = some s) (hs : Sl r sz s q news)
    (ht : Take (Two E sz v n xs u m ys) H H') (h1 : news.all one? = true) (hq : 0 < q) (hn : m + q ≤ maxLen) (hb : (m + q) * by_ ≤ 140737488355328)
    (hk : ∀ a' c', K (putL t d (.slice a' (m + q) c')) (Two E sz v n xs (.slice a' (m + q) c') (m + q) (ys ++ news) :: H')) : SWo P l r ⟨d, .call { callee := .builtin .append, args := #[x, y], argTypes := #[T, T] }, ty, pos, af, gd⟩ K t H := by
  intro w g0 ds ok al
  obtain ⟨g, k, dd, hg0, hTw, al'⟩ := ht.all al
  rcases hTw with ⟨b, cap, cur, rfl, rfl, h0, hm, h2, rfl, h3, h4, h5⟩ | ⟨gv, gw, dv, rfl, hV, gu, ge, du, rfl, hU, he⟩
  · have hzs' : z.cells.size = sz := by simpa using hzs
    have hsz' : 0 < sz := by simpa using hsz
    obtain ⟨i, hi1, hi2, hi3, hi4⟩ := infB_s hi
    subst hi3; subst hi4
    refine (swo_run (K := K) (H := pt b (.cells cur E (0, 0)) :: H') (fun c hc => by cases hc) fun w g0 ds ok al => ?_) w g0 ds ok ⟨_, k, dd, hg0, rfl, al'⟩
    clear hg0 al' dd
    obtain ⟨g, k, dd, rfl, rfl, al'⟩ := al
    have hgb : w.heap[b]? = some (.cells cur E (0, 0)) := ok.emb.left b _ one_same
    have hblt : b < w.heap.size := (Array.getElem?_eq_some_iff.1 hgb).1
    have hxl : xs.length = n * i.size := by rw [← h4, List.length_take, Array.length_toList, h3]; exact Nat.min_eq_left (Nat.mul_le_mul_right _ (by omega))
    have hyl : ys.length = m * i.size := by rw [← h5, List.length_take, Array.length_toList, h3]; exact Nat.min_eq_left (Nat.mul_le_mul_right _ hm)
    have hnm : n * i.size ≤ m * i.size := Nat.mul_le_mul_right _ h0
    rcases hs.2.2 with ⟨_, e⟩ | ⟨b2, off, cap2, c2, E2, fz, rfl, _, hr2, hc2⟩
    · omega
    have hnews : ∀ j u, news[j]? = some u → w.cell? ((⟨b2, off, none⟩ : Addr).add j) = some u := fun j u hu => by
      obtain ⟨hj, rfl⟩ := List.getElem?_eq_some_iff.1 hu
      rw [Addr.add_lit]
      exact (rd_r (H := H') hr2 (hc2 j hj)) w k ok.ro (ok.emb.right dd) al'
    have hone : ∀ u ∈ news, u.oneCell' = true := fun u hu => one_cell' (List.all_eq_true.1 h1 u hu)
    have hkb : k b = none := (dd b).resolve_left (by simp [one])
    have hexec : ∀ {v' w'}, (Builtin.append_ #[T, T] ty #[.slice (some ⟨b, 0, none⟩) m cap, .slice (some ⟨b2, off, none⟩) q cap2]).run P w = .ok v' w' → (execOp (evalL t) ⟨d, .call { callee := .builtin .append, args := #[x, y], argTypes := #[T, T] }, ty, pos, af, gd⟩).run P w = .ok (.value v') w' := fun hrun => by
      have e1 : evalL t x = _ := ev_of hx
      have e2 : evalL t y = _ := ev_of hy
      simp [execOp, resolve, Result.andThen, invoke, BigFrame.builtin_append, e1, e2, hrun]
    by_cases hroom : m + q ≤ cap
    · have hfit : m * i.size + news.length ≤ cur.size := by rw [hs.1, h3, ← Nat.add_mul]; exact Nat.mul_le_mul_right _ hroom
      have hr := run_append_room (P := P) w T ty E i (elB_s hT) hi1 b m cap cur hgb ⟨b2, off, none⟩ q cap2 news hs.1 hnews hone hroom hfit
      refine ⟨_, _, _, un (one b (.cells (cur.toList.take (m * i.size) ++ news ++ cur.toList.drop (m * i.size + news.length)).toArray E (0, 0))) k, hexec hr, hk _ _, ⟨_, k, ?_, rfl, .inl ⟨b, cap, _, rfl, rfl, by omega, hroom, h2, rfl, ?_, ?_, ?_⟩, al'⟩, To.step ok rfl rfl rfl (by simp [World.setRow]) (fun j hj hn => ?_) (Emb.un ?_ ?_) (fun j hj => ?_)⟩
      · intro j
        by_cases e : j = b
        · subst e; exact .inr hkb
        · exact .inl (by simp [one, e])
      · simp only [List.size_toArray, List.length_append, List.length_take, List.length_drop, Array.length_toList]
        omega
      · rw [List.take_append_of_le_length (by simp only [List.length_append, List.length_take, Array.length_toList]; omega), List.take_append_of_le_length (by simp only [List.length_take, Array.length_toList]; omega), List.take_take, Nat.min_eq_left hnm]
        exact h4
      · rw [h5]
        show ((ys ++ news) ++ _).take _ = _
        rw [show (m + q) * i.size = (ys ++ news).length by rw [List.length_append, hyl, hs.1, Nat.add_mul]]
        exact List.take_left
      · exact setRow_other w b j _ (fun e => by subst e; have := (un_none.1 hn).1; simp [one] at this)
      · intro j o ho
        obtain ⟨rfl, rfl⟩ := one_some ho
        exact setRow_heap w j cur _ E _ hgb
      · intro j o ho
        rw [setRow_other w b j _ (fun e => by subst e; rw [hkb] at ho; cases ho)]
        exact ok.emb.right dd j o ho
      · left
        rcases un_ne.1 hj with h | h
        · exact un_ne.2 (.inl (by by_cases e : j = b <;> simp_all [one]))
        · exact un_ne.2 (.inr h)
    · have holds : ∀ j u, ys[j]? = some u → w.cell? ((⟨b, 0, none⟩ : Addr).add j) = some u := fun j u hu => by
        rw [Addr.add_lit]
        unfold World.cell?
        rw [hgb]
        simp only [Option.isSome_none, Bool.false_eq_true, if_false, Nat.zero_add]
        rw [← h5, List.getElem?_take] at hu
        split at hu
        · rw [← Array.getElem?_toList]; exact hu
        · cases hu
      have hr := run_append_grow (P := P) w T ty E i z (elB_s hT) hi1 hi2 ⟨b, 0, none⟩ m cap ys hyl holds ⟨b2, off, none⟩ q cap2 news hs.1 hnews (by omega) (by simp only [maxLen] at hn; omega) (growslice_fits (by omega) hb)
      have hge := grownCap_ge w (m + q) cap E
      have hgm : grownCap w (m + q) cap E ≤ maxLen := grownCap_le_maxLen w (m + q) cap E hn
      have hlen : (ys ++ news).length = (m + q) * i.size := by rw [List.length_append, hyl, hs.1, Nat.add_mul]
      have hkB : k w.heap.size = none := by
        cases e : k w.heap.size with
        | none => rfl
        | some o => have := (ok.emb.right dd).lt (b := w.heap.size) (by simp [e]); omega
      have hbB : b ≠ w.heap.size := by omega
      refine ⟨_, _, _, un (un (one b (.cells cur E (0, 0))) (one w.heap.size (.cells (ys.toArray ++ news.toArray ++ Builtin.zeroCells z.cells (grownCap w (m + q) cap E - (m + q))) E))) k, hexec hr, hk _ _, ⟨_, k, ?_, rfl, .inr ⟨_, one w.heap.size _, ?_, rfl, ⟨hxl, .inr ⟨b, cap, cur, rfl, rfl, by omega, h2, h3, h4⟩⟩, one w.heap.size _, emp, dj_emp, un_emp.symm, ⟨hlen, .inr ⟨w.heap.size, _, _, rfl, rfl, hge, hgm, ?_, ?_⟩⟩, rfl⟩, al'⟩, To.step ok rfl rfl rfl (by simp) (fun j hj hn => heap_alloc_old w.drew _ j hj) (Emb.un (Emb.un ?_ ?_) ?_) (fun j hj => ?_)⟩
      · refine un_dj.2 ⟨fun j => ?_, fun j => ?_⟩
        · by_cases e : j = b
          · subst e; exact .inr hkb
          · exact .inl (by simp [one, e])
        · by_cases e : j = w.heap.size
          · subst e; exact .inr hkB
          · exact .inl (by simp [one, e])
      · intro j
        by_cases e : j = b
        · subst e; exact .inr (by simp [one, hbB])
        · exact .inl (by simp [one, e])
      · simp only [Array.size_append, List.size_toArray, size_zeroCells, hzs', hyl, hs.1, ← Nat.add_mul]
        congr 1
        omega
      · simp only [Array.toList_append, List.append_assoc]
        rw [← List.append_assoc, ← hlen]
        exact List.take_left
      · intro j o ho
        obtain ⟨rfl, rfl⟩ := one_some ho
        rw [heap_alloc_old w.drew _ j hblt]
        exact hgb
      · intro j o ho
        obtain ⟨rfl, rfl⟩ := one_some ho
        exact heap_alloc_new w.drew _
      · intro j o ho
        rw [heap_alloc_old w.drew _ j ((ok.emb.right dd).lt (b := j) (by simp [ho]))]
        exact ok.emb.right dd j o ho
      · rcases un_ne.1 hj with h | h
        · rcases un_ne.1 h with h | h
          · exact .inl (un_ne.2 (.inl h))
          · right
            by_cases e : j = w.heap.size
            · omega
            · exact absurd (by simp [one, e]) h
        · exact .inl (un_ne.2 (.inr h))
  · obtain rfl : ge = emp := he
    rw [un_emp] at *
    obtain ⟨d1, d2⟩ := un_dj.1 dd
    refine swo_conv (kx_appS hT hi hzs hsz hx hy hs (H := RowC E sz u m ys :: RowC E sz v n xs :: H') Take.here h1 hn hb fun a' c' => ⟨_, ?_, hk a' c'⟩) w g0 ds ok ⟨gu, un gv k, dj_un.2 ⟨dv.symm, d2⟩, by rw [hg0, un_comm dv, un_assoc], hU, gv, k, d1, rfl, hV, al'⟩
    rintro g ⟨x1, y1, e1, rfl, hA, x2, y2, e2, rfl, hB, hr⟩
    obtain ⟨e3, e4⟩ := dj_un.1 e1
    exact ⟨un x2 x1, y2, un_dj.2 ⟨e2, e4⟩, by rw [← un_assoc, un_comm e3], .inr ⟨x2, x1, e3.symm, rfl, hB, x1, emp, dj_emp, un_emp.symm, hA, rfl⟩, hr⟩
/-- A piece is lent to a piece of code. -/
theorem sw_lendC {c : Code} {A : Ch} {H1 : List Ch} (ht : Take A H H1) (h : ∀ r' g, sub r r' → sub g r' → A g → SW P l r' c (fun e t' H' => Q e t' (A :: H')) t H1) : SW P l r c Q t H := by
  intro w h0 ds ok al
  obtain ⟨g, k, d, rfl, hg, hk⟩ := ht.all al
  refine wpIn_mono (h (un r g) g (fun b o e => un_left e) (fun b o e => un_right (dj_un.1 ok.dj).1 e) hg w k ds (ok.lend d) hk) ?_
  intro e a' w' p
  cases e with
  | panic _ => exact p.elim
  | outgrown => exact p.elim
  | _ =>
    obtain ⟨t', H', k', e1, h2, al', to'⟩ := p
    obtain ⟨d', tb⟩ := To.back ok d to'
    exact ⟨t', _, _, e1, h2, ⟨g, k', d', rfl, hg, al'⟩, tb⟩

/-! A family of pieces, of which those below k were turned. -/
def famL (n : Nat) (A B : Nat → Ch) (k : Nat) : List Ch := (List.range n).map fun j => if j < k then A j else B j
def Fam (n : Nat) (A B : Nat → Ch) (k : Nat) : Ch := all (famL n A B k)
def FamR (n : Nat) (A B : Nat → Ch) (k : Nat) : Ch := all ((famL n A B k).eraseIdx k)
theorem famL_len (n : Nat) (A B : Nat → Ch) (k : Nat) : (famL n A B k).length = n := by simp [famL]
theorem famL_at {n : Nat} {A B : Nat → Ch} {k j : Nat} (hj : j < n) : (famL n A B k)[j]'(by rw [famL_len]; exact hj) = if j < k then A j else B j := by simp [famL]
theorem famL_congr {n : Nat} {A B A' B' : Nat → Ch} {k k' : Nat} (h : ∀ j, j < n → (if j < k then A j else B j) = (if j < k' then A' j else B' j)) : famL n A B k = famL n A' B' k' :=
  List.map_congr_left fun j hj => h j (List.mem_range.1 hj)
theorem famL_erase {n : Nat} {A B A' B' : Nat → Ch} {k k' i : Nat} (h : ∀ j, j < n → j ≠ i → (if j < k then A j else B j) = (if j < k' then A' j else B' j)) : (famL n A B k).eraseIdx i = (famL n A' B' k').eraseIdx i := by
  apply List.ext_getElem?
  intro j
  rw [List.getElem?_eraseIdx, List.getElem?_eraseIdx]
  have key : ∀ j, j ≠ i → (famL n A B k)[j]? = (famL n A' B' k')[j]? := fun j hj => by
    by_cases hn : j < n
    · rw [List.getElem?_eq_getElem (by rw [famL_len]; exact hn), List.getElem?_eq_getElem (by rw [famL_len]; exact hn), famL_at hn, famL_at hn, h j hn hj]
    · rw [List.getElem?_eq_none (by rw [famL_len]; omega), List.getElem?_eq_none (by rw [famL_len]; omega)]
  split
  · exact key j (by omega)
  · exact key (j + 1) (by omega)
theorem erase_perm : ∀ (c : List Ch) (k : Nat) (hk : k < c.length), c.Perm (c[k] :: c.eraseIdx k)
  | a :: c, 0, _ => .refl _
  | a :: c, k + 1, hk => ((erase_perm c k (by simpa using hk)).cons a).trans (.swap _ _ _)
theorem all_mem {c : List Ch} {k : Nat} (hk : k < c.length) {g : Hp} : all c g ↔ ∃ x y, dj x y ∧ g = un x y ∧ c[k] x ∧ all (c.eraseIdx k) y :=
  ⟨fun h => all_perm (erase_perm c k hk) h, fun h => all_perm (erase_perm c k hk).symm (show all (c[k] :: c.eraseIdx k) g from h)⟩
theorem Fam.open {n : Nat} {A B : Nat → Ch} {k : Nat} (hk : k < n) {g : Hp} (h : Fam n A B k g) : ∃ x y, dj x y ∧ g = un x y ∧ B k x ∧ FamR n A B k y := by
  obtain ⟨x, y, d, e, hx, hy⟩ := (all_mem (by rw [famL_len]; exact hk)).1 h
  rw [famL_at hk, if_neg (by omega)] at hx
  exact ⟨x, y, d, e, hx, hy⟩
theorem Fam.shut {n : Nat} {A B : Nat → Ch} {k : Nat} (hk : k < n) {x y : Hp} (d : dj x y) (hx : A k x) (hy : FamR n A B k y) : Fam n A B (k + 1) (un x y) := by
  refine (all_mem (by rw [famL_len]; exact hk)).2 ⟨x, y, d, rfl, ?_, ?_⟩
  · rw [famL_at hk, if_pos (by omega)]; exact hx
  · rw [← famL_erase (A := A) (B := B) (k := k) (fun j _ hj => by by_cases h : j < k <;> by_cases h2 : j < k + 1 <;> first | omega | simp [h, h2])]
    exact hy
theorem sw_famOpen {c : Code} {n : Nat} {A B : Nat → Ch} {k : Nat} {H' : List Ch} (ht : Take (Fam n A B k) H H') (hk : k < n) (h : SW P l r c Q t (B k :: FamR n A B k :: H')) : SW P l r c Q t H := fun w g ds ok a => h w g ds ok (by
  obtain ⟨x, y, d, rfl, hx, hy⟩ := ht.all a
  obtain ⟨x1, x2, d1, rfl, h1, h2⟩ := Fam.open hk hx
  obtain ⟨d2, d3⟩ := un_dj.1 d
  exact ⟨x1, un x2 y, dj_un.2 ⟨d1, d2⟩, un_assoc, h1, x2, y, d3, rfl, h2, hy⟩)
theorem sw_famShut {c : Code} {n : Nat} {A B : Nat → Ch} {k : Nat} {X : Ch} {H1 H2 : List Ch} (h1 : Take X H H1) (h2 : Take (FamR n A B k) H1 H2) (hk : k < n) (hX : ∀ g, X g → A k g) (h : SW P l r c Q t (Fam n A B (k + 1) :: H2)) : SW P l r c Q t H := fun w g ds ok a => h w g ds ok (by
  obtain ⟨x, y, d, rfl, hx, hy⟩ := h1.all a
  obtain ⟨x2, y2, d2, rfl, hx2, hy2⟩ := h2.all hy
  obtain ⟨d3, d4⟩ := dj_un.1 d
  exact ⟨un x x2, y2, un_dj.2 ⟨d4, d2⟩, un_assoc.symm, Fam.shut hk d3 (hX _ hx) hx2, hy2⟩)
theorem swo_famShut {o : Oper} {n : Nat} {A0 A B : Nat → Ch} {k : Nat} {X : Ch} {H1 H2 : List Ch} (h1 : Take X H H1) (h2 : Take (FamR n A0 B k) H1 H2) (hk : k < n) (hR : FamR n A0 B k = FamR n A B k) (hX : ∀ g, X g → A k g) (h : SWo P l r o K t (Fam n A B (k + 1) :: H2)) : SWo P l r o K t H := fun w g ds ok a => h w g ds ok (by
  obtain ⟨x, y, d, rfl, hx, hy⟩ := h1.all a
  obtain ⟨x2, y2, d2, rfl, hx2, hy2⟩ := h2.all hy
  obtain ⟨d3, d4⟩ := dj_un.1 d
  rw [hR] at hx2
  exact ⟨un x x2, y2, un_dj.2 ⟨d4, d2⟩, un_assoc.symm, Fam.shut hk d3 (hX _ hx) hx2, hy2⟩)
/-- A piece in two. -/
theorem sw_split {c : Code} {A B C : Ch} {H' : List Ch} (ht : Take A H H') (hab : ∀ h, A h → ∃ x y, dj x y ∧ h = un x y ∧ B x ∧ C y) (h : SW P l r c Q t (B :: C :: H')) : SW P l r c Q t H := fun w g ds ok a => h w g ds ok (by
  obtain ⟨x, y, d, rfl, hx, hy⟩ := ht.all a
  obtain ⟨x1, x2, d1, rfl, h1, h2⟩ := hab _ hx
  obtain ⟨d2, d3⟩ := un_dj.1 d
  exact ⟨x1, un x2 y, dj_un.2 ⟨d1, d2⟩, un_assoc, h1, x2, y, d3, rfl, h2, hy⟩)
theorem Fam.get {n : Nat} {A : Nat → Ch} {k : Nat} (hk : k < n) {g : Hp} (h : Fam n A A 0 g) : ∃ x, sub x g ∧ A k x := by
  obtain ⟨x, y, _, rfl, hx, _⟩ := (all_mem (by rw [famL_len]; exact hk)).1 h
  rw [famL_at hk] at hx
  exact ⟨x, fun b o c => un_left c, by simpa using hx⟩
theorem Fam.turn {n : Nat} {A B C : Nat → Ch} {g : Hp} (h : Fam n A B n g) : Fam n C A 0 g := by
  unfold Fam
  rw [← famL_congr (A := A) (B := B) (k := n) (fun j hj => by simp [hj])]
  exact h
theorem made_one (z : Value) (n : Nat) : (madeCells #[z] n).toList = List.replicate n z := by
  apply List.ext_getElem?
  intro j
  by_cases h : j < n <;> simp [madeCells, h, Nat.mod_one]
/-- A row of zeros of one cell. -/
theorem kx_makeN {T E : TypeId} {z : Value} {by_ n : Nat} {x y : Operand} {kl kc : IntKind} {li ci : Int} (hT : elB P T = some E) (hi : infB P E = some (some z, 1, by_)) (hz : z.cells = #[z]) (hx : evO t x = some (.int kl li)) (hy : evO t y = some (.int kc ci)) (hli : li = (n : Int)) (hci : ci = (n : Int)) (hb : n * (by_ + 1) ≤ 140737488355328)
    (hk : ∀ b, K (putL t d (.slice (some ⟨b, 0, none⟩) n n)) (RowC E 1 (.slice (some ⟨b, 0, none⟩) n n) n (List.replicate n z) :: H)) : SWo P l r ⟨d, .makeSlice T x y, ty, pos, af, gd⟩ K t H :=
  swo_run (fun c hc => by cases hc) fun w g ds ok al => by
    subst hli; subst hci
    obtain ⟨i, h1, h2, h3, h4⟩ := infB_s hi
    have hb1 : n * by_ ≤ n * (by_ + 1) := Nat.mul_le_mul_left _ (by omega)
    have hb2 : n * 1 ≤ n * (by_ + 1) := Nat.mul_le_mul_left _ (by omega)
    have hcm : n ≤ maxLen := by unfold maxLen; omega
    have hbi : (i.bytes : Int) * (n : Int) ≤ 281474976710656 := by
      have h : ((i.bytes * n : Nat) : Int) ≤ 281474976710656 := by rw [h4, Nat.mul_comm]; omega
      rwa [Int.natCast_mul] at h
    have hr := run_make (P := P) w T E i z (elB_s hT) h1 h2 kl kc n n (by omega) (by omega) hbi (by unfold maxLen at hcm; omega)
    simp only [Int.toNat_natCast] at hr
    obtain ⟨dd, to⟩ := alloc_to ok (.cells (madeCells z.cells (n * i.size)) E (0, 0))
    refine ⟨.slice (some ⟨w.heap.size, 0, none⟩) n n, _, _, _, by simp only [execOp, Sem.run_bind, ev_of hx, ev_of hy, hr, Result.andThen, Sem.run_pure], hk _, ⟨_, _, dd, rfl, ?_, al⟩, to⟩
    exact ⟨by simp, .inr ⟨_, n, _, rfl, rfl, Nat.le_refl _, hcm, by rw [size_madeCells, h3], by rw [h3, Nat.mul_one, hz, made_one]; simp⟩⟩
end Sx
end Go.Proofs.YtgodcegaffgfjaaGreatDoor

namespace Go.Proofs.YtgodcegaffgfjaaGreatDoor
open Go.RowKit
namespace Sx

/-- An owned row whose cells can all be written, marked or not. -/
def RowM (E : TypeId) (sz : Nat) (v : Value) (n : Nat) (xs : List Value) : Ch := fun h =>
  xs.length = n * sz ∧ ((v = .slice none 0 0 ∧ n = 0 ∧ h = emp) ∨ ∃ g cap cur fz, v = .slice (some ⟨g, 0, none⟩) n cap ∧ h = one g (.cells cur E fz) ∧ n ≤ cap ∧ cap ≤ maxLen ∧ cur.size = cap * sz ∧ cur.toList.take (n * sz) = xs ∧ ∀ j, j < cur.size → ¬ (fz.1 ≤ j ∧ j < fz.2))
theorem RowM.of {E : TypeId} {sz n : Nat} {v : Value} {xs : List Value} {h : Hp} (e : RowC E sz v n xs h) : RowM E sz v n xs h := by
  refine ⟨e.1, ?_⟩
  rcases e.2 with h1 | ⟨g, cap, cur, h1, h2, h3, h4, h5, h6⟩
  · exact .inl h1
  · exact .inr ⟨g, cap, cur, (0, 0), h1, h2, h3, h4, h5, h6, fun j _ h => by have := h.2; omega⟩
theorem RowM.sl {E : TypeId} {sz n : Nat} {v : Value} {xs : List Value} {g r : Hp} (h : RowM E sz v n xs g) (hs : sub g r) : Sl r sz v n xs := by
  rcases h.2 with ⟨rfl, rfl, rfl⟩ | ⟨b, cap, cur, fz, rfl, rfl, h1, h2, h3, h4, _⟩
  · exact ⟨h.1, Nat.zero_le _, .inl ⟨⟨none, rfl⟩, rfl⟩⟩
  · refine ⟨h.1, Nat.le_trans h1 h2, .inr ⟨b, 0, cap, cur, E, fz, rfl, h1, hs _ _ one_same, fun j hj => ?_⟩⟩
    rw [Nat.zero_add, ← Array.getElem?_toList]
    have e : (cur.toList.take (n * sz))[j]? = some xs[j] := by rw [h4]; exact List.getElem?_eq_getElem hj
    rw [List.getElem?_take] at e
    split at e
    · exact e
    · cases e
section
variable {P : Program} {l : Option Nat} {r : Hp} {Q : Exit → St} {K : St} {t : List Value} {H : List Ch} {d : Option Tmp} {ty : TypeId} {pos : String} {af : Array Edge} {gd : Option (Nat × Bool)}
end
end Sx
end Go.Proofs.YtgodcegaffgfjaaGreatDoor

namespace Go.Proofs.YtgodcegaffgfjaaGreatDoor
open Go.RowKit
namespace Sx

section
variable {P : Program} {l : Option Nat} {r : Hp} {Q : Exit → St} {K : St} {t : List Value} {H : List Ch} {d : Option Tmp} {ty : TypeId} {pos : String} {af : Array Edge} {gd : Option (Nat × Bool)}
end
end Sx
end Go.Proofs.YtgodcegaffgfjaaGreatDoor
