
/- lang.Right: its contract. -/
import Derived.Test.YtgodcegaffgfjaaGreatDoorParts
namespace Go.Proofs.YtgodcegaffgfjaaGreatDoor
open Go.RowKit Go.Shelf

attribute [local go_sem] Oper.semAt_some

set_option maxHeartbeats 400000 in
theorem parts_any (s : ByteArray) (w : World) :
    Calls Tryz.prog 34 #[.string s] w fun e w' => e = .returned (.func (.func 74) #[] #[.pointer (some ⟨w.heap.size, 0, none⟩)]) ∧ w' = w.alloc (.cells #[.string s] 9) := by
  have hmf : ∀ (fn : Fn) (first cap : Array Value) (w : World), (Instr.makeFunc fn first cap).run Tryz.prog w = .ok (.func fn first cap) w := fun _ _ _ _ => rfl
  go_enter Tryz.func34, Tryz.ntmps34
  repeat' (first | go_values | go_skip | go_guarded | go_step | go_upon | go_in | go_back | ((with_reducible refine upon_id ?_); go_simp))
  go_ret
  exact ⟨rfl, rfl⟩

def byteOk (c : UInt8) : Bool := decide (32 ≤ c) && c != 127
def nameOk (p : List UInt8) : Bool := p != [] && p != [46] && p != [46, 46]
theorem nm1 {p : List UInt8} (h : ¬ p = []) : (bs p).toList.isEmpty = false := by rw [bs_toList]; cases p <;> simp_all
theorem nm2 {p : List UInt8} (h : ¬ p = [46]) : ((bs p).toList == [46]) = false := by rw [bs_toList]; simp_all
theorem nm3 {p : List UInt8} (h : nameOk p = false) (h1 : ¬ p = []) (h2 : ¬ p = [46]) : ((bs p).toList == [46, 46]) = true := by rw [bs_toList]; simp_all [nameOk]
theorem nmt {p : List UInt8} (h : nameOk p = true) : (bs p).toList.isEmpty = false ∧ ((bs p).toList == [46]) = false ∧ ((bs p).toList == [46, 46]) = false := by
  rw [bs_toList]; cases p <;> simp_all [nameOk]
theorem byte_bad {c : UInt8} (hbo : byteOk c = false) (h1 : ¬ c < 32) : ((c.toNat : Int) == 127) = true := by
  have : c = 127 := by
    simp only [byteOk, Bool.and_eq_false_iff, decide_eq_false_iff_not, bne_eq_false_iff_eq] at hbo
    rcases hbo with h | h
    · exact absurd (UInt8.not_lt.1 h1) h
    · exact h
  rw [this]; rfl
theorem byte_lt {c : UInt8} (h1 : c < 32) : ((c.toNat : Int)) < 32 := by have := UInt8.lt_iff_toNat_lt.1 h1; simp at this; omega
theorem byte_ge {c : UInt8} (h1 : ¬ c < 32) : ¬ ((c.toNat : Int)) < 32 := by have := mt UInt8.lt_iff_toNat_lt.2 h1; simp at this; omega
theorem byte_good {c : UInt8} (hbo : byteOk c = true) : ¬ ((c.toNat : Int)) < 32 ∧ ((c.toNat : Int) == 127) = false := by
  simp only [byteOk, Bool.and_eq_true, decide_eq_true_eq, bne_iff_ne] at hbo
  refine ⟨?_, ?_⟩
  · have := UInt8.le_iff_toNat_le.1 hbo.1; simp at this; omega
  · rw [beq_eq_false_iff_ne]
    intro h
    exact hbo.2 (UInt8.toNat_inj.1 (by simpa using (by omega : c.toNat = 127)))
theorem byte_is {c d : UInt8} (h : c = d) : ((c.toNat : Int) == (d.toNat : Int)) = true := by simp [h]
theorem byte_isnt {c d : UInt8} (h : ¬ c = d) : ((c.toNat : Int) == (d.toNat : Int)) = false := by
  rw [beq_eq_false_iff_ne]; intro e; exact h (UInt8.toNat_inj.1 (by omega))
def partOk (p : List UInt8) : Bool := nameOk p && p.all byteOk
def pathOk (s : List UInt8) : Bool := decide (0 < s.length) && decide (s.length ≤ 200) && (splitL s).all partOk

theorem splitL_len {l : List UInt8} {k : Nat} (h : k < (splitL l).length) : (splitL l)[k].length ≤ l.length := by
  induction l generalizing k with
  | nil => simp [splitL]
  | cons b l ih =>
    have key : ∀ (q : List (List UInt8)) (k : Nat) (hk : k < q.length), splitL (b :: l) = q → (∀ k (h : k < (splitL l).length), (splitL l)[k].length ≤ l.length) → q[k].length ≤ l.length + 1 := by
      intro q k hk hq ih
      unfold splitL at hq
      split at hq
      · subst hq
        match k, hk with
        | 0, _ => simp
        | k + 1, hk => simp; have := ih k (by simpa using hk); omega
      · split at hq
        · rename_i p ps hs
          subst hq
          match k, hk with
          | 0, _ => have := ih 0 (by rw [hs]; simp); simp [hs] at this; simpa using this
          | k + 1, hk => have := ih (k + 1) (by rw [hs]; simpa using hk); simp [hs] at this; simp; omega
        · subst hq
          match k, hk with
          | 0, _ => simp
    exact key _ k h rfl (fun k h => ih h)

set_option maxRecDepth 100000 in
set_option maxHeartbeats 1000000 in
theorem right_any (s : ByteArray) (w : World) (hs : s.size ≤ 1000000) :
    Calls Tryz.prog 13 #[.string s] w fun e w' => e = .returned (.bool (pathOk s.data.toList)) ∧ Ext Nil w w' := by
  refine calls_opq fun R' HR' => ?_
  refine calls_of_wp_marks Tryz.func13 rfl ?_
  simp only [Tryz.ntmps13, List.size_toArray, List.length_cons, List.length_nil, Nat.reduceAdd, Nat.reduceSub, Array.replicate_succ, Array.replicate_zero, List.push_toArray, List.append_toArray, List.nil_append, List.cons_append]
  repeat' (first | go_values | go_skip | go_guarded | go_step | go_upon | go_in | go_back | ((with_reducible refine upon_id ?_); go_simp))
  go_step3
  by_cases h0 : 0 < s.size
  all_goals go_wp2
  all_goals go_step3
  all_goals go_wp2_with (go_at_call 34; refine (parts_any _ _).mono ?_; rintro e w' ⟨rfl, rfl⟩)
  · have hok : pathOk s.data.toList = (decide ((s.size : Int) ≤ 200) && (splitL s.data.toList).all partOk) := by
      have e1 : decide (0 < s.data.toList.length) = true := by simpa using h0
      have e2 : decide (s.data.toList.length ≤ 200) = decide ((s.size : Int) ≤ 200) := by
        rw [Bool.eq_iff_iff]; simp; omega
      rw [pathOk, e1, e2, Bool.true_and]
    revert hok
    generalize decide ((s.size : Int) ≤ 200) = ok0
    intro hok
    have HOK := hid hok
    clear hok h0
    refine wp_range0 (gf := 74) (lb := #[.pointer (some ⟨w.heap.size + 1, 0, none⟩)]) rfl (enters_of Tryz.func74 (by kernel_rfl) rfl)
      (parts_iter s (by omega) (w.heap.size + 1) _ (by have := box_new (w.alloc (.cells #[.bool ok0] 4)) (.string s) 9; rwa [World.size_alloc] at this)) (fun _ => rfl)
      (fun k W => W.heap[w.heap.size]? = some (.cells #[.bool ok0] 4 (0, 0)) ∧ ((splitL s.data.toList).take k).all partOk = true ∧ Ext Nil w W)
      (fun c k W => c = .exit 0 ∧ W.heap[w.heap.size]? = some (.cells #[.bool false] 4 (0, 0)) ∧ ((splitL s.data.toList).take k).all partOk = false ∧ Ext Nil w W)
      (fun k A B h hx => ⟨hx.blk h.1 rfl (by simp), h.2.1, h.2.2.then_c hx (fun k hk e => absurd e (by omega)) (by simp [World.size_alloc]; try omega)⟩)
      (fun c k A B h hx => ⟨h.1, hx.blk h.2.1 rfl (by simp), h.2.2.1, h.2.2.2.then_c hx (fun k hk e => absurd e (by omega)) (by simp [World.size_alloc]; try omega)⟩)
      (by simp)
      ⟨blk_alloc (box_new _ _ _) _, rfl, ((Ext.refl _ _).alloc _).alloc _⟩ ?_ ?_ ?_
    · intro l k hk W hl hL hi
      repeat' (first | go_values | gi_guarded | gi_step | gi_upon | gi_in | gi_back | ((with_reducible refine uponIn_id ?_); go_simp))
      refine ⟨Ext.refl _ _, fun W₂ hx2 hsz hL2 R HR => ?_⟩
      obtain ⟨hb, hall, hx⟩ := hi
      generalize hp : (splitL s.data.toList)[k] = p
      replace hb := hx2.blk hb rfl (fun c => c)
      have hc := box_cell hb
      have hf := box_free hb
      have HB := hid hb
      have HP := hid hp
      have HA := hid hall
      clear hb hp hall
      have hx2' : Ext Nil w W₂ := hx.then_c hx2 (fun _ _ c => c) (by simp [World.size_alloc]; try omega)
      have hpl : p.length ≤ s.size := by have := splitL_len hk; rw [HP.out] at this; simpa using this
      have hl' : w.heap.size + 2 < l := by simpa [World.size_alloc] using hl
      clear hsz hL hx hl hL2 hx2
      have htk : ((splitL s.data.toList).take (k + 1)).all partOk = partOk p := by
        rw [List.take_succ_eq_append_getElem hk, List.all_append, HA.out, HP.out]; simp
      have HT := hid htk
      clear htk
      have hsz0 := hx2'.size
      cases hpo : nameOk p
      · have hbad : partOk p = false := by simp only [partOk, hpo, Bool.false_and]
        have HBD := hid hbad
        clear hbad
        have hend : ∀ (a : Act) W', W' = W₂.setCell ⟨w.heap.size, 0, none⟩ (.bool false) → R (.exit 0) a W' := by
          rintro a _ rfl
          exact HR.out _ _ _ ⟨(Ext.refl _ _).setCell (.inl trivial) _, rfl, box_set HB.out _, hid (by rw [HT.out]; exact HBD.out), hx2'.setCell (.inr (Nat.le_refl _)) _⟩
        have HE := hid hend
        clear hend
        by_cases e1 : p = []
        · have t1 : (bs p).toList.isEmpty = true := by rw [bs_toList, e1]; rfl
          clear e1 hpo
          repeat' (first | go_values | gi_guarded | gi_step | gi_upon | gi_in | gi_back | ((with_reducible refine uponIn_id ?_); go_simp))
          exact HE.out _ _ rfl
        · have t1 := nm1 e1
          by_cases e2 : p = [46]
          · have t2 : ((bs p).toList == [46]) = true := by rw [bs_toList, e2]; rfl
            clear e1 e2 hpo
            repeat' (first | go_values | gi_guarded | gi_step | gi_upon | gi_in | gi_back | ((with_reducible refine uponIn_id ?_); go_simp))
            exact HE.out _ _ rfl
          · have t2 := nm2 e2
            have t3 := nm3 hpo e1 e2
            clear e1 e2 hpo
            repeat' (first | go_values | gi_guarded | gi_step | gi_upon | gi_in | gi_back | ((with_reducible refine uponIn_id ?_); go_simp))
            exact HE.out _ _ rfl
      · obtain ⟨t1, t2, t3⟩ := nmt hpo
        have HPO := hid hpo
        clear hpo
        have hcv := fun w => Lib.run_convert_string_bytes (P := Tryz.prog) w 9 22 5 (bs p) Tryz.underlying9 Tryz.underlying22 Tryz.underlying5
        repeat' (first | go_values | gi_guarded | gi_step | gi_upon | gi_in | gi_back | ((with_reducible refine uponIn_id ?_); go_simp))
        clear hcv
        have hbx := ext_bytes W₂ 5 (bs p)
        have hcl : ∀ j, j < p.length → (Lib.bytesWorld W₂ 5 (bs p)).cell? ⟨W₂.heap.size, j, none⟩ = some (.int .u8 (p.getD j 0).toNat) := fun j hj => Lib.bytesWorld_cell W₂ 5 (bs p) j (by rw [bs_size]; exact hj)
        have hB1 : (Lib.bytesWorld W₂ 5 (bs p)).heap[w.heap.size]? = some (.cells #[.bool ok0] 4 (0, 0)) := hbx.blk HB.out (fun c => c)
        clear hc hf
        have hc := box_cell hB1
        have hf := box_free hB1
        have hxb : Ext Nil w (Lib.bytesWorld W₂ 5 (bs p)) := hx2'.trans hbx
        have HB1 := hid hB1
        have HCL := hid hcl
        clear hB1 hcl
        have hps : (bs p).size = p.length := bs_size p
        generalize Lib.bytesWorld W₂ 5 (bs p) = Wb at *
        rw [hps]
        clear hps
        gi_loop [26] (fun i => ∃ j : Nat, j ≤ p.length ∧ i = .int .i64 j ∧ Hid ((p.take j).all byteOk = true)) (fun i => p.length - (intOf i).toNat)
        case atStart => exact ⟨0, Nat.zero_le _, rfl, rfl⟩
        case round =>
          obtain ⟨j, hj, rfl, HJ⟩ := hrel
          by_cases hlt : j < p.length
          · have hcj := HCL.out j hlt
            rw [show p.getD j 0 = p[j] from by simp [List.getD, hlt]] at hcj
            have hts : (p.take (j + 1)).all byteOk = byteOk p[j] := by rw [List.take_succ_eq_append_getElem hlt, List.all_append, HJ.out]; simp
            have HTS := hid hts
            clear hts
            cases hbo : byteOk p[j]
            · have hbad : partOk p = false := by
                have : p.all byteOk = false := by
                  rw [List.all_eq_false]; exact ⟨p[j], List.getElem_mem hlt, by simp [hbo]⟩
                simp only [partOk, this, Bool.and_false]
              have HBD := hid hbad
              clear hbad
              have hend : ∀ (a : Act) W', W' = Wb.setCell ⟨w.heap.size, 0, none⟩ (.bool false) → R (.exit 0) a W' := by
                rintro a _ rfl
                exact HR.out _ _ _ ⟨hbx.nil.setCell (.inl trivial) _, rfl, box_set HB1.out _, hid (by rw [HT.out]; exact HBD.out), hxb.setCell (.inr (Nat.le_refl _)) _⟩
              have HE := hid hend
              clear hend
              generalize p[j] = c at *
              by_cases h1 : c < 32
              · have d1 := byte_lt h1
                clear h1 hbo
                repeat' (first | go_values | gi_guarded | gi_step | gi_upon | gi_in | gi_back | ((with_reducible refine uponIn_id ?_); go_simp))
                exact HE.out _ _ rfl
              · have d1 := byte_ge h1
                have d2 := byte_bad hbo h1
                clear h1 hbo
                repeat' (first | go_values | gi_guarded | gi_step | gi_upon | gi_in | gi_back | ((with_reducible refine uponIn_id ?_); go_simp))
                exact HE.out _ _ rfl
            · have HBO := hid hbo
              generalize hcg : p[j] = c at *
              obtain ⟨d1, d2⟩ := byte_good hbo
              clear hbo hcg
              repeat' (first | go_values | gi_guarded | gi_step | gi_upon | gi_in | gi_back | ((with_reducible refine uponIn_id ?_); go_simp))
              go_round
              case rel => exact ⟨j + 1, by omega, by go_num, by rw [HTS.out]; exact HBO.out⟩
              case measure => simp [intOf]; omega
          · have hjj : j = p.length := by omega
            subst hjj
            have hgood : partOk p = true := by
              have h1 := HJ.out
              rw [List.take_length] at h1
              have h2 := HPO.out
              simp only [partOk, h1, h2, Bool.and_self]
            have HGD := hid hgood
            clear hgood
            repeat' (first | go_values | gi_guarded | gi_step | gi_upon | gi_in | gi_back | ((with_reducible refine uponIn_id ?_); go_simp))
            exact HR.out _ _ _ ⟨hbx.nil, HB1.out, hid (by rw [HT.out]; exact HGD.out), hxb⟩
    · intro D W hD hi hd
      obtain ⟨hb, hall, hx⟩ := hi
      have hc := box_cell hb
      have HA := hid hall
      clear hb hall
      repeat' (first | go_values | go_skip | go_guarded | go_step | go_upon | go_in | go_back | ((with_reducible refine upon_id ?_); go_simp))
      rw [Exit.noGoto_ret]
      refine leave1 rfl hd (results_tmp rfl _ _ _) (HR'.out _ _ ⟨?_, hx.putObj_new (by simp [World.size_alloc] at hD; omega) _⟩)
      have h1 := HA.out
      rw [List.take_length] at h1
      rw [HOK.out, h1, Bool.and_true]
      rfl
    · intro D c k W hD hk hi hd
      obtain ⟨rfl, hb, hall, hx⟩ := hi
      have hc := box_cell hb
      have HA := hid hall
      clear hb hall
      repeat' (first | go_values | go_skip | go_guarded | go_step | go_upon | go_in | go_back | ((with_reducible refine upon_id ?_); go_simp))
      rw [Exit.noGoto_ret]
      refine leave1 rfl hd (results_tmp rfl _ _ _) (HR'.out _ _ ⟨?_, hx.putObj_new (by simp [World.size_alloc] at hD; omega) _⟩)
      have h2 : (splitL s.data.toList).all partOk = false := by
        rw [← List.take_append_drop (k + 1) (splitL s.data.toList), List.all_append, HA.out, Bool.false_and]
      rw [HOK.out, h2, Bool.and_false]
      rfl
  · have hok : pathOk s.data.toList = (false && (splitL s.data.toList).all partOk) := by
      have e1 : decide (0 < s.data.toList.length) = false := by simpa using h0
      rw [pathOk, e1, Bool.false_and]
    obtain ⟨ok0, ho⟩ : ∃ b, b = false := ⟨_, rfl⟩
    rw [show w.alloc (.cells #[.bool false] 4) = w.alloc (.cells #[.bool ok0] 4) from by rw [ho]]
    rw [← ho] at hok
    have HOK := hid hok
    clear hok ho h0
    refine wp_range0 (gf := 74) (lb := #[.pointer (some ⟨w.heap.size + 1, 0, none⟩)]) rfl (enters_of Tryz.func74 (by kernel_rfl) rfl)
      (parts_iter s (by omega) (w.heap.size + 1) _ (by have := box_new (w.alloc (.cells #[.bool ok0] 4)) (.string s) 9; rwa [World.size_alloc] at this)) (fun _ => rfl)
      (fun k W => W.heap[w.heap.size]? = some (.cells #[.bool ok0] 4 (0, 0)) ∧ ((splitL s.data.toList).take k).all partOk = true ∧ Ext Nil w W)
      (fun c k W => c = .exit 0 ∧ W.heap[w.heap.size]? = some (.cells #[.bool false] 4 (0, 0)) ∧ ((splitL s.data.toList).take k).all partOk = false ∧ Ext Nil w W)
      (fun k A B h hx => ⟨hx.blk h.1 rfl (by simp), h.2.1, h.2.2.then_c hx (fun k hk e => absurd e (by omega)) (by simp [World.size_alloc]; try omega)⟩)
      (fun c k A B h hx => ⟨h.1, hx.blk h.2.1 rfl (by simp), h.2.2.1, h.2.2.2.then_c hx (fun k hk e => absurd e (by omega)) (by simp [World.size_alloc]; try omega)⟩)
      (by simp)
      ⟨blk_alloc (box_new _ _ _) _, rfl, ((Ext.refl _ _).alloc _).alloc _⟩ ?_ ?_ ?_
    · intro l k hk W hl hL hi
      repeat' (first | go_values | gi_guarded | gi_step | gi_upon | gi_in | gi_back | ((with_reducible refine uponIn_id ?_); go_simp))
      refine ⟨Ext.refl _ _, fun W₂ hx2 hsz hL2 R HR => ?_⟩
      obtain ⟨hb, hall, hx⟩ := hi
      generalize hp : (splitL s.data.toList)[k] = p
      replace hb := hx2.blk hb rfl (fun c => c)
      have hc := box_cell hb
      have hf := box_free hb
      have HB := hid hb
      have HP := hid hp
      have HA := hid hall
      clear hb hp hall
      have hx2' : Ext Nil w W₂ := hx.then_c hx2 (fun _ _ c => c) (by simp [World.size_alloc]; try omega)
      have hpl : p.length ≤ s.size := by have := splitL_len hk; rw [HP.out] at this; simpa using this
      have hl' : w.heap.size + 2 < l := by simpa [World.size_alloc] using hl
      clear hsz hL hx hl hL2 hx2
      have htk : ((splitL s.data.toList).take (k + 1)).all partOk = partOk p := by
        rw [List.take_succ_eq_append_getElem hk, List.all_append, HA.out, HP.out]; simp
      have HT := hid htk
      clear htk
      have hsz0 := hx2'.size
      cases hpo : nameOk p
      · have hbad : partOk p = false := by simp only [partOk, hpo, Bool.false_and]
        have HBD := hid hbad
        clear hbad
        have hend : ∀ (a : Act) W', W' = W₂.setCell ⟨w.heap.size, 0, none⟩ (.bool false) → R (.exit 0) a W' := by
          rintro a _ rfl
          exact HR.out _ _ _ ⟨(Ext.refl _ _).setCell (.inl trivial) _, rfl, box_set HB.out _, hid (by rw [HT.out]; exact HBD.out), hx2'.setCell (.inr (Nat.le_refl _)) _⟩
        have HE := hid hend
        clear hend
        by_cases e1 : p = []
        · have t1 : (bs p).toList.isEmpty = true := by rw [bs_toList, e1]; rfl
          clear e1 hpo
          repeat' (first | go_values | gi_guarded | gi_step | gi_upon | gi_in | gi_back | ((with_reducible refine uponIn_id ?_); go_simp))
          exact HE.out _ _ rfl
        · have t1 := nm1 e1
          by_cases e2 : p = [46]
          · have t2 : ((bs p).toList == [46]) = true := by rw [bs_toList, e2]; rfl
            clear e1 e2 hpo
            repeat' (first | go_values | gi_guarded | gi_step | gi_upon | gi_in | gi_back | ((with_reducible refine uponIn_id ?_); go_simp))
            exact HE.out _ _ rfl
          · have t2 := nm2 e2
            have t3 := nm3 hpo e1 e2
            clear e1 e2 hpo
            repeat' (first | go_values | gi_guarded | gi_step | gi_upon | gi_in | gi_back | ((with_reducible refine uponIn_id ?_); go_simp))
            exact HE.out _ _ rfl
      · obtain ⟨t1, t2, t3⟩ := nmt hpo
        have HPO := hid hpo
        clear hpo
        have hcv := fun w => Lib.run_convert_string_bytes (P := Tryz.prog) w 9 22 5 (bs p) Tryz.underlying9 Tryz.underlying22 Tryz.underlying5
        repeat' (first | go_values | gi_guarded | gi_step | gi_upon | gi_in | gi_back | ((with_reducible refine uponIn_id ?_); go_simp))
        clear hcv
        have hbx := ext_bytes W₂ 5 (bs p)
        have hcl : ∀ j, j < p.length → (Lib.bytesWorld W₂ 5 (bs p)).cell? ⟨W₂.heap.size, j, none⟩ = some (.int .u8 (p.getD j 0).toNat) := fun j hj => Lib.bytesWorld_cell W₂ 5 (bs p) j (by rw [bs_size]; exact hj)
        have hB1 : (Lib.bytesWorld W₂ 5 (bs p)).heap[w.heap.size]? = some (.cells #[.bool ok0] 4 (0, 0)) := hbx.blk HB.out (fun c => c)
        clear hc hf
        have hc := box_cell hB1
        have hf := box_free hB1
        have hxb : Ext Nil w (Lib.bytesWorld W₂ 5 (bs p)) := hx2'.trans hbx
        have HB1 := hid hB1
        have HCL := hid hcl
        clear hB1 hcl
        have hps : (bs p).size = p.length := bs_size p
        generalize Lib.bytesWorld W₂ 5 (bs p) = Wb at *
        rw [hps]
        clear hps
        gi_loop [26] (fun i => ∃ j : Nat, j ≤ p.length ∧ i = .int .i64 j ∧ Hid ((p.take j).all byteOk = true)) (fun i => p.length - (intOf i).toNat)
        case atStart => exact ⟨0, Nat.zero_le _, rfl, rfl⟩
        case round =>
          obtain ⟨j, hj, rfl, HJ⟩ := hrel
          by_cases hlt : j < p.length
          · have hcj := HCL.out j hlt
            rw [show p.getD j 0 = p[j] from by simp [List.getD, hlt]] at hcj
            have hts : (p.take (j + 1)).all byteOk = byteOk p[j] := by rw [List.take_succ_eq_append_getElem hlt, List.all_append, HJ.out]; simp
            have HTS := hid hts
            clear hts
            cases hbo : byteOk p[j]
            · have hbad : partOk p = false := by
                have : p.all byteOk = false := by
                  rw [List.all_eq_false]; exact ⟨p[j], List.getElem_mem hlt, by simp [hbo]⟩
                simp only [partOk, this, Bool.and_false]
              have HBD := hid hbad
              clear hbad
              have hend : ∀ (a : Act) W', W' = Wb.setCell ⟨w.heap.size, 0, none⟩ (.bool false) → R (.exit 0) a W' := by
                rintro a _ rfl
                exact HR.out _ _ _ ⟨hbx.nil.setCell (.inl trivial) _, rfl, box_set HB1.out _, hid (by rw [HT.out]; exact HBD.out), hxb.setCell (.inr (Nat.le_refl _)) _⟩
              have HE := hid hend
              clear hend
              generalize p[j] = c at *
              by_cases h1 : c < 32
              · have d1 := byte_lt h1
                clear h1 hbo
                repeat' (first | go_values | gi_guarded | gi_step | gi_upon | gi_in | gi_back | ((with_reducible refine uponIn_id ?_); go_simp))
                exact HE.out _ _ rfl
              · have d1 := byte_ge h1
                have d2 := byte_bad hbo h1
                clear h1 hbo
                repeat' (first | go_values | gi_guarded | gi_step | gi_upon | gi_in | gi_back | ((with_reducible refine uponIn_id ?_); go_simp))
                exact HE.out _ _ rfl
            · have HBO := hid hbo
              generalize hcg : p[j] = c at *
              obtain ⟨d1, d2⟩ := byte_good hbo
              clear hbo hcg
              repeat' (first | go_values | gi_guarded | gi_step | gi_upon | gi_in | gi_back | ((with_reducible refine uponIn_id ?_); go_simp))
              go_round
              case rel => exact ⟨j + 1, by omega, by go_num, by rw [HTS.out]; exact HBO.out⟩
              case measure => simp [intOf]; omega
          · have hjj : j = p.length := by omega
            subst hjj
            have hgood : partOk p = true := by
              have h1 := HJ.out
              rw [List.take_length] at h1
              have h2 := HPO.out
              simp only [partOk, h1, h2, Bool.and_self]
            have HGD := hid hgood
            clear hgood
            repeat' (first | go_values | gi_guarded | gi_step | gi_upon | gi_in | gi_back | ((with_reducible refine uponIn_id ?_); go_simp))
            exact HR.out _ _ _ ⟨hbx.nil, HB1.out, hid (by rw [HT.out]; exact HGD.out), hxb⟩
    · intro D W hD hi hd
      obtain ⟨hb, hall, hx⟩ := hi
      have hc := box_cell hb
      have HA := hid hall
      clear hb hall
      repeat' (first | go_values | go_skip | go_guarded | go_step | go_upon | go_in | go_back | ((with_reducible refine upon_id ?_); go_simp))
      rw [Exit.noGoto_ret]
      refine leave1 rfl hd (results_tmp rfl _ _ _) (HR'.out _ _ ⟨?_, hx.putObj_new (by simp [World.size_alloc] at hD; omega) _⟩)
      have h1 := HA.out
      rw [List.take_length] at h1
      rw [HOK.out, h1, Bool.and_true]
      rfl
    · intro D c k W hD hk hi hd
      obtain ⟨rfl, hb, hall, hx⟩ := hi
      have hc := box_cell hb
      have HA := hid hall
      clear hb hall
      repeat' (first | go_values | go_skip | go_guarded | go_step | go_upon | go_in | go_back | ((with_reducible refine upon_id ?_); go_simp))
      rw [Exit.noGoto_ret]
      refine leave1 rfl hd (results_tmp rfl _ _ _) (HR'.out _ _ ⟨?_, hx.putObj_new (by simp [World.size_alloc] at hD; omega) _⟩)
      have h2 : (splitL s.data.toList).all partOk = false := by
        rw [← List.take_append_drop (k + 1) (splitL s.data.toList), List.all_append, HA.out, Bool.false_and]
      rw [HOK.out, h2, Bool.and_false]
      rfl
end Go.Proofs.YtgodcegaffgfjaaGreatDoor
