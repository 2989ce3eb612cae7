
/- The frame words 'Ext' and 'ExtC' (what a step may turn), iterators with state in cells ('Iter'), and the law of a range over such an iterator; no program is named. -/
import Derived.RangeFuncNested
import Derived.RangeFuncBound
import Derived.RangeFuncCalls
import Derived.RangeFuncLeaves
import Derived.WalkKit
import Derived.OwnWalkIn
import Derived.TacticsInMore
import Derived.LoopNIn
import Derived.LoopIn
import Derived.Deep.Draws
import Derived.Lib.ConvBytes
import Derived.Maps.AppendAt
import Derived.Deep.LoopGhost
import Derived.Sort.LoopGhostIn
namespace Go.Proofs.YtgodcegaffgfjaaGreatDoor
open Go.RowKit

theorem hid {p : Prop} (h : p) : Hid p := h

/-- Cells and maps: what holds data. -/
def isData : Obj → Bool
  | .cells .. => true
  | .map .. => true
  | _ => false

/-- Only blocks in S (and new ones) have turned; what is no data lies as it lay. -/
structure Ext (S : Nat → Prop) (A B : World) : Prop where
  os : B.os = A.os
  tape : B.tape = A.tape
  output : B.output = A.output
  size : A.heap.size ≤ B.heap.size
  keep : ∀ (k : Nat), k < A.heap.size → ¬ S k → B.heap[k]? = A.heap[k]?
  book : ∀ (k : Nat) (o : Obj), A.heap[k]? = some o → isData o = false → B.heap[k]? = some o

/-- Of the data only blocks in S (and new ones) have turned; what is no data and lies below n lies as it lay. -/
structure ExtC (S : Nat → Prop) (n : Nat) (A B : World) : Prop where
  os : B.os = A.os
  tape : B.tape = A.tape
  output : B.output = A.output
  size : A.heap.size ≤ B.heap.size
  keep : ∀ (k : Nat) (o : Obj), A.heap[k]? = some o → (isData o = true ∧ ¬ S k) ∨ (isData o = false ∧ k < n) → B.heap[k]? = some o

def Nil : Nat → Prop := fun _ => False

section
variable {S S' : Nat → Prop} {A B C : World}
theorem Ext.refl (S) (A : World) : Ext S A A := ⟨rfl, rfl, rfl, Nat.le_refl _, fun _ _ _ => rfl, fun _ _ h _ => h⟩
theorem Ext.trans (h : Ext S A B) (k : Ext S B C) : Ext S A C :=
  ⟨k.os.trans h.os, k.tape.trans h.tape, k.output.trans h.output, Nat.le_trans h.size k.size, fun i hi hs => (k.keep i (Nat.lt_of_lt_of_le hi h.size) hs).trans (h.keep i hi hs), fun i o hi ho => k.book i o (h.book i o hi ho) ho⟩
theorem Ext.mono (h : Ext S A B) (hs : ∀ k, k < A.heap.size → S k → S' k) : Ext S' A B :=
  ⟨h.os, h.tape, h.output, h.size, fun k hk hn => h.keep k hk (fun c => hn (hs k hk c)), h.book⟩
theorem Ext.nil (h : Ext Nil A B) : Ext S A B := h.mono (fun _ _ c => c.elim)
theorem Ext.drew (h : Ext S A B) : Ext S A B.drew := ⟨h.os, h.tape, h.output, h.size, h.keep, h.book⟩
theorem Ext.drewN (h : Ext S A B) (n : Nat) : Ext S A (B.drewN n) := ⟨h.os, h.tape, h.output, h.size, h.keep, h.book⟩
theorem Ext.alloc (h : Ext S A B) (o : Obj) : Ext S A (B.alloc o) :=
  h.trans ⟨rfl, rfl, rfl, by simp, fun k hk _ => Below.heap_alloc _ _ _ hk, fun k o' hk _ => (Below.heap_alloc B o k (Array.getElem?_eq_some_iff.1 hk).1).trans hk⟩
theorem setCell_book (W : World) (a : Addr) (v : Value) (k : Nat) (o : Obj) (hk : W.heap[k]? = some o) (ho : isData o = false) : (W.setCell a v).heap[k]? = some o :=
  (KeepsOthers.setCell W a v).same k o hk (by cases o <;> simp_all [isData, Obj.isCells])
theorem Ext.setCell (h : Ext S A B) {p : Addr} (hp : S p.block ∨ A.heap.size ≤ p.block) (v : Value) : Ext S A (B.setCell p v) :=
  ⟨h.os, h.tape, h.output, by simpa [World.setCell] using h.size,
    fun k hk hs => (Below.heap_setCell B p v k (by rintro rfl; rcases hp with hp | hp; exact hs hp; omega)).trans (h.keep k hk hs),
    fun k o hk ho => setCell_book _ _ _ _ _ (h.book k o hk ho) ho⟩
/-- Behind a law that ends in 'grownBy': the row that may have turned is data. -/
theorem Ext.grown (h : Ext S A B) {row : Option Nat} (hg : B.grownBy C row) (hr : ∀ k, row = some k → (S k ∨ A.heap.size ≤ k) ∧ ∀ o, B.heap[k]? = some o → isData o = true) : Ext S A C :=
  ⟨hg.os.trans h.os, hg.tape.trans h.tape, hg.output.trans h.output, Nat.le_trans h.size hg.size,
    fun k hk hs => (hg.block k (Nat.lt_of_lt_of_le hk h.size) (fun e => by rcases (hr k e.symm).1 with c | c; exact hs c; omega)).trans (h.keep k hk hs),
    fun k o hk ho => by
      have hb := h.book k o hk ho
      refine (hg.block k (Array.getElem?_eq_some_iff.1 hb).1 (fun e => ?_)).trans hb
      have := (hr k e.symm).2 o hb
      rw [ho] at this; cases this⟩
theorem Ext.of_below (h : Below A.heap.size A B) : Ext S A B :=
  ⟨h.os, h.tape, h.output, h.size, fun k hk _ => h.block k hk, fun k _ hk _ => (h.block k (Array.getElem?_eq_some_iff.1 hk).1).trans hk⟩
theorem Ext.below {n : Nat} (h : Ext S A B) (hn : n ≤ A.heap.size) (hs : ∀ k, k < n → ¬ S k) : Below n A B :=
  ⟨h.os, h.tape, h.output, h.size, fun k hk => h.keep k (by omega) (hs k hk)⟩
theorem Ext.c (h : Ext S A B) (n : Nat) : ExtC S n A B :=
  ⟨h.os, h.tape, h.output, h.size, fun k o hk hs => by
    rcases hs with ⟨_, hs⟩ | ⟨hs, _⟩
    · exact (h.keep k (Array.getElem?_eq_some_iff.1 hk).1 hs).trans hk
    · exact h.book k o hk hs⟩
theorem Ext.trans' (h : Ext S A B) (k : Ext S' B C) (hs : ∀ k, k < A.heap.size → S' k → S k) : Ext S A C :=
  ⟨k.os.trans h.os, k.tape.trans h.tape, k.output.trans h.output, Nat.le_trans h.size k.size, fun i hi hn => (k.keep i (Nat.lt_of_lt_of_le hi h.size) (fun c => hn (hs i hi c))).trans (h.keep i hi hn), fun i o hi ho => k.book i o (h.book i o hi ho) ho⟩
/-- A block that is known stays known. -/
theorem Ext.blk (h : Ext S A B) {k : Nat} {o : Obj} (hk : A.heap[k]? = some o) (hs : ¬ S k) : B.heap[k]? = some o :=
  (h.keep k (Array.getElem?_eq_some_iff.1 hk).1 hs).trans hk
theorem Ext.cell (h : Ext S A B) {p : Addr} {v : Value} (hk : A.cell? p = some v) (hs : ¬ S p.block) : B.cell? p = some v := by
  have hlt : p.block < A.heap.size := by
    rcases Nat.lt_or_ge p.block A.heap.size with c | c
    · exact c
    · simp [World.cell?, Array.getElem?_eq_none c] at hk
  exact (World.cell?_of_block (h.keep p.block hlt hs)).trans hk
theorem Ext.frozen (h : Ext S A B) {p : Addr} (hp : p.block < A.heap.size) (hs : ¬ S p.block) : B.frozen? p = A.frozen? p := World.frozen?_of_block (h.keep p.block hp hs)

variable {n n' : Nat}
theorem ExtC.refl (S) (n : Nat) (A : World) : ExtC S n A A := (Ext.refl S A).c n
theorem ExtC.trans (h : ExtC S n A B) (k : ExtC S n B C) : ExtC S n A C :=
  ⟨k.os.trans h.os, k.tape.trans h.tape, k.output.trans h.output, Nat.le_trans h.size k.size, fun i o hi ho => k.keep i o (h.keep i o hi ho) ho⟩
theorem ExtC.mono (h : ExtC S n A B) (hs : ∀ k, k < A.heap.size → S k → S' k) (hn : n' ≤ n) : ExtC S' n' A B :=
  ⟨h.os, h.tape, h.output, h.size, fun k o hk ho => h.keep k o hk (ho.imp (fun c => ⟨c.1, fun d => c.2 (hs k (Array.getElem?_eq_some_iff.1 hk).1 d)⟩) (fun c => ⟨c.1, by omega⟩))⟩
theorem ExtC.nil (h : ExtC Nil n A B) : ExtC S n A B := h.mono (fun _ _ c => c.elim) (Nat.le_refl _)
theorem ExtC.blk (h : ExtC S n A B) {k : Nat} {o : Obj} (hk : A.heap[k]? = some o) (ho : isData o = true) (hs : ¬ S k) : B.heap[k]? = some o := h.keep k o hk (.inl ⟨ho, hs⟩)
theorem ExtC.low (h : ExtC S n A B) {k : Nat} {o : Obj} (hk : A.heap[k]? = some o) (hs : ¬ S k) (hn : k < n) : B.heap[k]? = some o := h.keep k o hk (by
  cases ho : isData o
  · exact .inr ⟨rfl, hn⟩
  · exact .inl ⟨rfl, hs⟩)
theorem data_of_cell {W : World} {p : Addr} {v : Value} (hk : W.cell? p = some v) : ∃ o, W.heap[p.block]? = some o ∧ isData o = true := by
  unfold World.cell? at hk
  cases ho : W.heap[p.block]? with
  | none => simp [ho] at hk
  | some o => exact ⟨o, rfl, by cases o <;> simp_all [isData]⟩
theorem ExtC.cell (h : ExtC S n A B) {p : Addr} {v : Value} (hk : A.cell? p = some v) (hs : ¬ S p.block) : B.cell? p = some v := by
  obtain ⟨o, ho, hd⟩ := data_of_cell hk
  exact (World.cell?_of_block ((h.keep _ _ ho (.inl ⟨hd, hs⟩)).trans ho.symm)).trans hk
theorem ExtC.frozen (h : ExtC S n A B) {p : Addr} {v : Value} (hk : A.cell? p = some v) (hs : ¬ S p.block) : B.frozen? p = A.frozen? p := by
  obtain ⟨o, ho, hd⟩ := data_of_cell hk
  exact World.frozen?_of_block ((h.keep _ _ ho (.inl ⟨hd, hs⟩)).trans ho.symm)
theorem Ext.then_c (h : Ext S A B) (k : ExtC S' n B C) (hs : ∀ k, k < A.heap.size → S' k → S k) (hn : A.heap.size ≤ n) : Ext S A C :=
  ⟨k.os.trans h.os, k.tape.trans h.tape, k.output.trans h.output, Nat.le_trans h.size k.size,
   fun i hi hsi => by
     have h1 := h.keep i hi hsi
     rw [← h1]
     obtain ⟨o, ho⟩ : ∃ o, B.heap[i]? = some o := ⟨_, Array.getElem?_eq_getElem (Nat.lt_of_lt_of_le hi h.size)⟩
     rw [ho]
     exact k.low ho (fun c => hsi (hs i hi c)) (by omega),
   fun i o hi ho => k.keep i o (h.book i o hi ho) (.inr ⟨ho, by have := (Array.getElem?_eq_some_iff.1 hi).1; omega⟩)⟩
theorem ExtC.alloc (h : ExtC S n A B) (o : Obj) : ExtC S n A (B.alloc o) := h.trans (((Ext.refl S B).alloc o).c n)
theorem ExtC.drew (h : ExtC S n A B) : ExtC S n A B.drew := h.trans (((Ext.refl S B).drew).c n)
theorem ExtC.setCell (h : ExtC S n A B) {p : Addr} (hp : S p.block ∨ B.heap.size ≤ p.block) (v : Value) : ExtC S n A (B.setCell p v) := h.trans (((Ext.refl S B).setCell hp v).c n)
theorem ExtC.putObj (h : ExtC S n A B) {k : Nat} {o : Obj} (o' : Obj) (hk : B.heap[k]? = some o) (ho : isData o = false) (hn : n ≤ k) : ExtC S n A (B.putObj k o') :=
  h.trans ⟨rfl, rfl, rfl, by simp, fun i u hi hu => by
    by_cases e : i = k
    · subst e; rw [hk] at hi; cases hi; rcases hu with ⟨hu, _⟩ | ⟨_, hu⟩
      · rw [ho] at hu; cases hu
      · omega
    · exact (World.putObj_heap_other e).trans hi⟩
theorem Ext.putObj_new (h : Ext S A B) {k : Nat} (hk : A.heap.size ≤ k) (o : Obj) : Ext S A (B.putObj k o) :=
  ⟨h.os, h.tape, h.output, by simpa using h.size, fun i hi hs => (World.putObj_heap_other (by omega)).trans (h.keep i hi hs),
   fun i u hi hu => (World.putObj_heap_other (by have := (Array.getElem?_eq_some_iff.1 hi).1; omega)).trans (h.book i u hi hu)⟩
end

abbrev W9 : Fence := Fence.wide
abbrev WR (l : Nat) : Fence := Fence.wide.inRound l

theorem inR {P : Program} {f : FuncId} {args : Array Value} {w : World} {R : Ending → World → Prop} (l : Nat) (h : Calls P f args w R) : CallsIn (WR l) 0 P f args w R := CallsIn.inRound l (callsIn_wide.2 h)
theorem in9 {P : Program} {f : FuncId} {args : Array Value} {w : World} {R : Ending → World → Prop} (h : Calls P f args w R) : CallsIn W9 0 P f args w R := callsIn_wide.2 h

/-- THE CONTRACT OF AN ITERATOR g (captured values lb) that gives xs: T: the blocks of data that it turns; U: those that a round must keep. The caller's J counts the rounds; it abides the iterator's steps. -/
def Iter {α : Type} (P : Program) (g : Nat) (lb : Array Value) (encs : α → Array Value) (xs : List α) (T U : Nat → Prop) (w : World) : Prop :=
  ∀ (l : Nat) (J Jx : Nat → World → Prop) (W : World), ExtC Nil w.heap.size w W →
    (∀ k A B, J k A → ExtC T W.heap.size A B → J k B) → (∀ k A B, Jx k A → ExtC T W.heap.size A B → Jx k B) →
    (∀ k (h : k < xs.length) W1, J k W1 → YieldAt W9 0 P l (encs xs[k]) W1 fun e W' =>
      (e = .returned (.bool true) ∧ J (k + 1) W' ∧ Ext (fun b => ¬ U b) W1 W') ∨ (e = .returned (.bool false) ∧ Jx (k + 1) W')) →
    J 0 W →
    CallsIn W9 0 P g (#[.func (.yield l) #[] #[]] ++ lb) W fun e W' => (∃ v, e = .returned v) ∧ (J xs.length W' ∨ ∃ k, k < xs.length ∧ Jx (k + 1) W')

/-- How a round may be left: k is the count of rounds, this one in. -/
def roundEnd (U : Nat → Prop) (I : Nat → World → Prop) (Ix : Code → Nat → World → Prop) (k : Nat) (W : World) : Exit → Act → World → Prop
  | .normal, _, W' => Ext (fun b => ¬ U b) W W' ∧ I k W'
  | .ret, _, W' => Ext (fun _ => True) W W' ∧ Ix .ret k W'
  | .exit id, _, W' => Ext (fun _ => True) W W' ∧ Ix (.exit id) k W'
  | .goto t, _, W' => Ext (fun _ => True) W W' ∧ Ix (.goto t) k W'
  | .panic _, _, _ => False
  | .outgrown, _, _ => False

section
variable {P : Program}
/-- The heart, for outermost and inner loops at once: the record l lies in W1. -/
theorem range_core {α : Type} {ps : Array Tmp} {assign body : Code} {tmps : Array Value} {fn l D n0 : Nat} {W1 : World}
    {encs : α → Array Value} {xs : List α} {T U : Nat → Prop} {gf : Nat} {lb : Array Value} {w0 : World}
    (hit : Iter P gf lb encs xs T U w0) (hw0 : ExtC Nil w0.heap.size w0 W1) (hps : ∀ x, (encs x).size = ps.size)
    (I : Nat → World → Prop) (Ix : Code → Nat → World → Prop) (hI : ∀ k A B, I k A → ExtC T n0 A B → I k B) (hIx : ∀ c k A B, Ix c k A → ExtC T n0 A B → Ix c k B)
    (hn0 : n0 ≤ l) (hT : ¬ T l)
    (hL : W1.heap[l]? = some (.loop { state := .ready, pending := none, fn, tmps, params := ps, assign, body, defers := D })) (h0 : I 0 W1)
    (hround : ∀ (k : Nat) (hk : k < xs.length) (W : World), (∃ r : Loop, r.defers = D ∧ W.heap[l]? = some (.loop r)) → I k W →
      assign.wpIn (WR l) 0 P (Exit.then (fun a₁ W₁ => Ext (fun b => ¬ U b) W W₁ ∧ ∀ W₂ : World, ExtC Nil n0 W₁ W₂ → W₂.heap.size = W₁.heap.size → (∃ r : Loop, r.defers = D ∧ W₂.heap[l]? = some (.loop r)) →
          body.wpIn (WR l) 0 P (roundEnd U I Ix (k + 1) W₂) a₁ W₂) (fun _ _ _ => False))
        { tmps := (ps.zip (encs xs[k])).foldl (fun t (p, v) => t.setIfInBounds p v) tmps, defers := [] } W) :
    CallsIn W9 0 P gf (#[.func (.yield l) #[] #[]] ++ lb) W1 fun e W' => (∃ v, e = .returned v) ∧
      ((I xs.length W' ∧ W'.heap[l]? = some (.loop { state := .ready, pending := none, fn, tmps, params := ps, assign, body, defers := D })) ∨
       (∃ k c, k < xs.length ∧ Ix c (k + 1) W' ∧ W'.heap[l]? = some (.loop { state := .done, pending := some c, fn, tmps, params := ps, assign, body, defers := D }))) := by
  obtain ⟨rec, hrec⟩ : ∃ rec : LoopState → Option Code → Loop, rec = fun st pe => { state := st, pending := pe, fn, tmps := tmps, params := ps, assign, body, defers := D } := ⟨_, rfl⟩
  have hlt1 : l < W1.heap.size := (Array.getElem?_eq_some_iff.1 hL).1
  refine (hit l (fun k W => I k W ∧ W.heap[l]? = some (.loop (rec .ready none)))
    (fun k W => ∃ c, Ix c k W ∧ W.heap[l]? = some (.loop (rec .done (some c)))) W1 hw0 ?_ ?_ ?_ ⟨h0, by rw [hrec]; exact hL⟩).mono ?_
  · rintro k A B ⟨h1, h2⟩ hx
    exact ⟨hI k A B h1 (hx.mono (fun _ _ c => c) (by omega)), hx.low h2 hT hlt1⟩
  · rintro k A B ⟨c, h1, h2⟩ hx
    exact ⟨c, hIx c k A B h1 (hx.mono (fun _ _ c => c) (by omega)), hx.low h2 hT hlt1⟩
  · rintro k hk W ⟨hi, hl⟩
    have hlt : l < W.heap.size := (Array.getElem?_eq_some_iff.1 hl).1
    have hy := run_yield (P := P) (args := encs xs[k]) hl (by rw [hrec]; exact hps _)
    rw [hrec] at hy
    refine ⟨fn, _, assign, body, hy, roundIn_of_wpIn trivial (wpIn_mono (hround k hk W ⟨_, by rw [hrec], hl⟩ hi) ?_)⟩
    rintro e a₁ W₁ hp
    cases e with
    | normal =>
      obtain ⟨hx, hb⟩ := hp
      have hl1 : W₁.heap[l]? = some (.loop (rec .ready none)) := hx.book _ _ hl rfl
      have hlt1 : l < W₁.heap.size := (Array.getElem?_eq_some_iff.1 hl1).1
      refine ⟨_, run_beginRound hl1 (by rw [hrec]), ?_⟩
      have hl2 : (W₁.putObj l (.loop { rec .ready none with state := .busy })).heap[l]? = some (.loop { rec .ready none with state := .busy }) := World.putObj_heap_same hlt1
      have hx2 : ExtC Nil n0 W₁ (W₁.putObj l (.loop { rec .ready none with state := .busy })) := (ExtC.refl _ _ _).putObj _ hl1 rfl hn0
      refine wpIn_mono (hb _ hx2 (by simp) ⟨_, by rw [hrec], hl2⟩) ?_
      have fin : ∀ (jump : Option Code) (W3 : World) (S : Nat → Prop), Ext S (W₁.putObj l (.loop { rec .ready none with state := .busy })) W3 →
          (Instr.endRound l jump).run P W3 = .ok (.bool jump.isNone) (W3.putObj l (.loop (rec (if jump.isNone then .ready else .done) jump))) ∧
          W3.heap[l]? = some (.loop { rec .ready none with state := .busy }) ∧
          (W3.putObj l (.loop (rec (if jump.isNone then .ready else .done) jump))).heap[l]? = some (.loop (rec (if jump.isNone then .ready else .done) jump)) := fun jump W3 S hk3 => by
        have hl3 := hk3.book _ _ hl2 rfl
        have := run_endRound (P := P) jump hl3
        rw [hrec] at this ⊢
        exact ⟨this, by rw [hrec] at hl3; exact hl3, World.putObj_heap_same (Array.getElem?_eq_some_iff.1 hl3).1⟩
      rintro e a3 W3 hp
      cases e with
      | normal =>
        obtain ⟨hk3, hi3⟩ := hp
        obtain ⟨hr, hl3, hl4⟩ := fin none W3 _ hk3
        refine ⟨_, _, hr, .inl ⟨rfl, ⟨hI _ _ _ hi3 ((ExtC.refl _ _ _).putObj _ hl3 rfl hn0), hl4⟩, ?_⟩⟩
        -- what the round kept: the record itself was ready and is ready
        refine ⟨hk3.os.trans hx.os, hk3.tape.trans hx.tape, hk3.output.trans hx.output, ?_, ?_, ?_⟩
        · have := hk3.size; have := hx.size; simp at *; omega
        · intro i hi' hs
          by_cases e : i = l
          · subst e; rw [hl]; exact hl4
          · rw [World.putObj_heap_other e, hk3.keep i (by have := hx.size; simp; omega) hs, World.putObj_heap_other e, hx.keep i hi' hs]
        · intro i o hi' ho
          by_cases e : i = l
          · subst e; rw [hl] at hi'; cases hi'; exact hl4
          · rw [World.putObj_heap_other e]
            exact hk3.book i o ((World.putObj_heap_other e).trans (hx.book i o hi' ho)) ho
      | ret =>
        obtain ⟨hk3, hi3⟩ := hp
        obtain ⟨hr, hl3, hl4⟩ := fin (some .ret) W3 _ hk3
        exact ⟨_, _, hr, .inr ⟨rfl, .ret, hIx _ _ _ _ hi3 ((ExtC.refl _ _ _).putObj _ hl3 rfl hn0), hl4⟩⟩
      | exit id =>
        obtain ⟨hk3, hi3⟩ := hp
        obtain ⟨hr, hl3, hl4⟩ := fin (some (.exit id)) W3 _ hk3
        exact ⟨_, _, hr, .inr ⟨rfl, .exit id, hIx _ _ _ _ hi3 ((ExtC.refl _ _ _).putObj _ hl3 rfl hn0), hl4⟩⟩
      | goto t =>
        obtain ⟨hk3, hi3⟩ := hp
        obtain ⟨hr, hl3, hl4⟩ := fin (some (.goto t)) W3 _ hk3
        exact ⟨_, _, hr, .inr ⟨rfl, .goto t, hIx _ _ _ _ hi3 ((ExtC.refl _ _ _).putObj _ hl3 rfl hn0), hl4⟩⟩
      | panic ch => exact hp.elim
      | outgrown => exact hp.elim
    | ret => exact hp.elim
    | exit id => exact hp.elim
    | goto t => exact hp.elim
    | panic ch => exact hp.elim
    | outgrown => exact hp.elim
  · rintro e W2 ⟨⟨v, rfl⟩, (⟨hi, hl⟩ | ⟨k, hk, c, hi, hl⟩)⟩
    · exact ⟨⟨_, rfl⟩, .inl ⟨hi, by rw [hrec] at hl; exact hl⟩⟩
    · exact ⟨⟨_, rfl⟩, .inr ⟨k, c, hk, hi, by rw [hrec] at hl; exact hl⟩⟩
/-- The loop's value at a plain function value. -/
def GoesTo (P : Program) (gf : Nat) : Prop := ∀ args w, (callFunc gf args).run P w = .ok (.enter gf args) w

/-- **A RANGE OVER A FUNCTION, OUTERMOST** (the assign code may lay blocks). -/
theorem wp_range0 {α : Type} {g : Operand} {ps : Array Tmp} {assign body : Code} {Q : Exit → Act → World → Prop} {a : Act} {w : World}
    {gf : Nat} {lb : Array Value} (hg : a.eval g = .func (.func gf) #[] lb) (eg : GoesTo P gf)
    {encs : α → Array Value} {xs : List α} {T U : Nat → Prop} (hit : Iter P gf lb encs xs T U w) (hps : ∀ x, (encs x).size = ps.size)
    (I : Nat → World → Prop) (Ix : Code → Nat → World → Prop) (hI : ∀ k A B, I k A → ExtC T w.heap.size A B → I k B) (hIx : ∀ c k A B, Ix c k A → ExtC T w.heap.size A B → Ix c k B)
    (hT : ∀ k, T k → k < w.heap.size) (h0 : I 0 w)
    (hround : ∀ (l k : Nat) (hk : k < xs.length) (W : World), w.heap.size < l → (∃ r : Loop, r.defers = w.heap.size ∧ W.heap[l]? = some (.loop r)) → I k W →
      assign.wpIn (WR l) 0 P (Exit.then (fun a₁ W₁ => Ext (fun b => ¬ U b) W W₁ ∧ ∀ W₂ : World, ExtC Nil w.heap.size W₁ W₂ → W₂.heap.size = W₁.heap.size → (∃ r : Loop, r.defers = w.heap.size ∧ W₂.heap[l]? = some (.loop r)) →
          ∀ R : Exit → Act → World → Prop, Hid (∀ e a W', roundEnd U I Ix (k + 1) W₂ e a W' → R e a W') → body.wpIn (WR l) 0 P R a₁ W₂) (fun _ _ _ => False))
        { tmps := (ps.zip (encs xs[k])).foldl (fun t (p, v) => t.setIfInBounds p v) a.tmps, defers := [] } W)
    (hdone : ∀ (D : Nat) (W : World), w.heap.size ≤ D → I xs.length W → W.heap[D]? = some (.deferred (some [])) → Q .normal { a with defers := { target := .collected D, args := #[] } :: a.defers } W)
    (hstop : ∀ (D : Nat) (c : Code) (k : Nat) (W : World), w.heap.size ≤ D → k < xs.length → Ix c (k + 1) W → W.heap[D]? = some (.deferred (some [])) → c.wp P Q { a with defers := { target := .collected D, args := #[] } :: a.defers } W) :
    (Code.rangeFunc g ps assign body).wp P Q a w := by
  refine (wpIn_wide (n := 0)).1 (wpIn_rangeFunc ?_)
  intro fn _
  rw [show W9.round = none from rfl]
  obtain ⟨W1, hW1⟩ : ∃ W1, (w.alloc (.deferred (some []))).alloc (.loop { state := .ready, pending := none, fn, tmps := a.tmps, params := ps, assign, body, defers := w.heap.size }) = W1 := ⟨_, rfl⟩
  have hx1 : ExtC Nil w.heap.size w W1 := by rw [← hW1]; exact ((ExtC.refl _ _ _).alloc _).alloc _
  have hL1 : W1.heap[w.heap.size + 1]? = some (.loop { state := .ready, pending := none, fn, tmps := a.tmps, params := ps, assign, body, defers := w.heap.size }) := by
    rw [← hW1]; have := World.alloc_heap_new (w.alloc (.deferred (some []))) (.loop { state := .ready, pending := none, fn, tmps := a.tmps, params := ps, assign, body, defers := w.heap.size }); rwa [World.size_alloc] at this
  have hK1 : W1.heap[w.heap.size]? = some (.deferred (some [])) := by
    rw [← hW1]; exact (Below.heap_alloc _ _ _ (by simp)).trans (World.alloc_heap_new w _)
  refine ⟨w.heap.size + 1, [{ target := .collected w.heap.size, args := #[] }], W1, { target := .fn (.func gf) lb, args := #[.func (.yield (w.heap.size + 1)) #[] #[]] }, W1, gf,
    #[.func (.yield (w.heap.size + 1)) #[] #[]] ++ lb, W1, ?_, ?_, ?_, ?_, (by simp [Fence.wide]), ?_⟩
  · rw [← hW1]; exact run_enterLoop_outer _ _ _ _ _
  · simp only [resolve, hg]
    simp [go_sem]
  · intro f' _; trivial
  · simp [invoke, go_sem, eg _ _]
  · refine (range_core (n0 := w.heap.size + 1) hit hx1 hps (fun k W => I k W ∧ W.heap[w.heap.size]? = some (.deferred (some []))) (fun c k W => Ix c k W ∧ W.heap[w.heap.size]? = some (.deferred (some [])))
      (fun k A B h hx => ⟨hI k A B h.1 (hx.mono (fun _ _ c => c) (by omega)), hx.low h.2 (fun c => by have := hT _ c; omega) (by omega)⟩)
      (fun c k A B h hx => ⟨hIx c k A B h.1 (hx.mono (fun _ _ c => c) (by omega)), hx.low h.2 (fun c => by have := hT _ c; omega) (by omega)⟩)
      (Nat.le_refl _) (fun c => by have := hT _ c; omega) hL1 ⟨hI 0 _ _ h0 hx1.nil, hK1⟩ ?_).mono ?_
    · intro k hk W hl hi
      refine wpIn_mono (hround _ k hk W (by omega) hl hi.1) ?_
      rintro e a₁ W₁ hp
      cases e with
      | normal =>
        obtain ⟨hx, hb⟩ := hp
        refine ⟨hx, fun W₂ hx2 hs2 hl2 => ?_⟩
        have hD : W₂.heap[w.heap.size]? = some (.deferred (some [])) := hx2.low (hx.book _ _ hi.2 rfl) (fun c => c) (by omega)
        refine wpIn_mono (hb W₂ (hx2.mono (fun _ _ c => c) (by omega)) hs2 hl2 _ (hid fun _ _ _ h => h)) ?_
        rintro e a₃ W₃ hp
        cases e with
        | normal => exact ⟨hp.1, hp.2, hp.1.book _ _ hD rfl⟩
        | ret => exact ⟨hp.1, hp.2, hp.1.book _ _ hD rfl⟩
        | exit id => exact ⟨hp.1, hp.2, hp.1.book _ _ hD rfl⟩
        | goto t => exact ⟨hp.1, hp.2, hp.1.book _ _ hD rfl⟩
        | panic _ => exact hp.elim
        | outgrown => exact hp.elim
      | ret => exact hp.elim
      | exit id => exact hp.elim
      | goto t => exact hp.elim
      | panic ch => exact hp.elim
      | outgrown => exact hp.elim
    · rintro e W2 ⟨⟨v, rfl⟩, (⟨⟨hi, hD⟩, hl⟩ | ⟨k, c, hk, ⟨hi, hD⟩, hl⟩)⟩
      · exact ⟨none, _, run_endLoop (P := P) hl (by simp), hdone _ _ (Nat.le_refl _) (hI _ _ _ hi ((ExtC.refl _ _ _).putObj _ hl rfl (by omega))) ((World.putObj_heap_other (by omega)).trans hD)⟩
      · exact ⟨some c, _, run_endLoop (P := P) hl (by simp), wpIn_wide.2 (hstop _ c k _ (Nat.le_refl _) hk (hIx _ _ _ _ hi ((ExtC.refl _ _ _).putObj _ hl rfl (by omega))) ((World.putObj_heap_other (by omega)).trans hD))⟩

/-- What a body must achieve that holds ranges over functions and never panics. -/
def bodyPostN (P : Program) (fn : Func) (R : Ending → World → Prop) : Exit → Act → World → Prop
  | .normal, a, w | .ret, a, w => LeavesInM W9 0 P fn a.tmps R a.defers .returning w
  | _, _, _ => False
/-- A function's contract where its body holds ranges over functions. -/
theorem calls_of_wp_marks {f : FuncId} {fn : Func} {c : Code} {args : Array Value} {w : World} {R : Ending → World → Prop}
    (hf : P.funcs[f]? = some fn) (hb : fn.body = some c)
    (h : c.wp P (bodyPostN P fn R) { tmps := args ++ Array.replicate (fn.ntmps - args.size) undef, defers := [] } w) : Calls P f args w R :=
  callsIn_wide.1 (callsIn_of_wp_marks (n := 0) hf hb trivial (wpIn_wide.2 (wp_mono h (fun e a w hq => by cases e <;> first | exact hq | exact hq.elim))))

/-- The way out past one mark. -/
theorem leave1 {fn : Func} {R : Ending → World → Prop} {a : Act} {w : World} {v : Value} {D : Nat} (hd : a.defers = [{ target := .collected D, args := #[] }])
    (hD : w.heap[D]? = some (.deferred (some []))) (hr : (results fn a.tmps).run P (w.putObj D (.deferred none)) = .ok v (w.putObj D (.deferred none)))
    (hR : R (.returned v) (w.putObj D (.deferred none))) : LeavesInM W9 0 P fn a.tmps R a.defers .returning w := by
  rw [hd]
  exact ⟨by simp, .inl ⟨D, _, rfl, run_takeDeferred hD, v, hr, hR⟩⟩
end

/-! Boxes: blocks of one cell. -/
section
variable {W : World} {b : Nat} {v : Value} {t : TypeId}
theorem box_cell (h : W.heap[b]? = some (.cells #[v] t (0, 0))) : W.cell? ⟨b, 0, none⟩ = some v := by simp [World.cell?, h]
theorem box_free (h : W.heap[b]? = some (.cells #[v] t (0, 0))) : W.frozen? ⟨b, 0, none⟩ = false := by simp [World.frozen?, h]
theorem box_set (h : W.heap[b]? = some (.cells #[v] t (0, 0))) (u : Value) : (W.setCell ⟨b, 0, none⟩ u).heap[b]? = some (.cells #[u] t (0, 0)) := by
  simp [World.setCell, Array.getElem?_modify, h]
theorem box_new (W : World) (v : Value) (t : TypeId) : (W.alloc (.cells #[v] t)).heap[W.heap.size]? = some (.cells #[v] t (0, 0)) := World.alloc_heap_new W _
theorem blk_alloc {o : Obj} {b : Nat} {W : World} (h : W.heap[b]? = some o) (o' : Obj) : (W.alloc o').heap[b]? = some o := (Below.heap_alloc W o' b (Array.getElem?_eq_some_iff.1 h).1).trans h
theorem blk_lt {o : Obj} {b : Nat} {W : World} (h : W.heap[b]? = some o) : b < W.heap.size := (Array.getElem?_eq_some_iff.1 h).1
end

def bs (l : List UInt8) : ByteArray := ⟨l.toArray⟩
theorem bs_eta (s : ByteArray) : bs s.data.toList = s := rfl
theorem bs_data (l : List UInt8) : (bs l).data.toList = l := rfl
theorem bs_toList (l : List UInt8) : (bs l).toList = l := by rw [ByteArray.toList_eq]; rfl
theorem bs_size (l : List UInt8) : (bs l).size = l.length := by simp [bs, ByteArray.size]

theorem ext_bytes (w : World) (e : TypeId) (s : ByteArray) : Ext Nil w (Lib.bytesWorld w e s) := by
  refine Ext.of_below ⟨?_, ?_, ?_, by rw [Lib.bytesWorld_size]; omega, fun k hk => Lib.bytesWorld_at_old w e s k hk⟩ <;> simp [Lib.bytesWorld, World.freeze] <;> rfl

/-- The post behind a name that no simp opens. -/
theorem calls_opq {P : Program} {f : FuncId} {args : Array Value} {w : World} {R : Ending → World → Prop} (h : ∀ R' : Ending → World → Prop, Hid (∀ e w', R e w' → R' e w') → Calls P f args w R') : Calls P f args w R := h R (hid fun _ _ h => h)
/-! Rows: a slice of n elements (size cells each) that the call owns, in a block that 'ok' lets. -/
def Row (w : World) (ok : Nat → Prop) (e : TypeId) (size : Nat) (v : Value) (n : Nat) (xs : List Value) : Prop :=
  w.ownsRow 0 e size v n xs ∧ ∀ g, v.ownBlock = some g → ok g

section
variable {w w' : World} {ok ok' : Nat → Prop} {e : TypeId} {size n : Nat} {v : Value} {xs : List Value}
theorem Row.nil (w : World) (ok : Nat → Prop) (e : TypeId) (size : Nat) : Row w ok e size (.slice none 0 0) 0 [] := ⟨World.ownsRow_nil _ _ _ _, fun _ h => by simp [Value.ownBlock] at h⟩
theorem Row.mono (h : Row w ok e size v n xs) (hk : ∀ g, ok g → ok' g) : Row w ok' e size v n xs := ⟨h.1, fun g hg => hk g (h.2 g hg)⟩
theorem Row.form (h : Row w ok e size v n xs) : (v = .slice none 0 0 ∧ n = 0 ∧ xs = []) ∨ ∃ g cap cur, v = .slice (some ⟨g, 0, none⟩) n cap ∧ ok g ∧ w.heap[g]? = some (.cells cur e (0, 0)) ∧ n ≤ cap ∧ cap ≤ maxLen ∧ cur.size = cap * size ∧ cur.toList.take (n * size) = xs := by
  obtain ⟨⟨h1, h2⟩, h3⟩ := h
  rcases h2 with ⟨rfl, rfl⟩ | ⟨g, cap, cur, rfl, _, hh, hnc, hcm, hcs, ht⟩
  · exact .inl ⟨rfl, rfl, by simpa using h1⟩
  · exact .inr ⟨g, cap, cur, rfl, h3 g rfl, hh, hnc, hcm, hcs, ht⟩
theorem Row.of_form {g cap : Nat} {cur : Array Value} (hg : ok g) (hh : w.heap[g]? = some (.cells cur e (0, 0))) (hnc : n ≤ cap) (hcm : cap ≤ maxLen) (hcs : cur.size = cap * size) (ht : cur.toList.take (n * size) = xs) : Row w ok e size (.slice (some ⟨g, 0, none⟩) n cap) n xs :=
  ⟨⟨by rw [← ht, List.length_take, Array.length_toList, hcs]; exact Nat.min_eq_left (Nat.mul_le_mul_right _ hnc), .inr ⟨g, cap, cur, rfl, Nat.zero_le _, hh, hnc, hcm, hcs, ht⟩⟩, fun g' hg' => by simp [Value.ownBlock] at hg'; subst hg'; exact hg⟩
/-- A row lies on where its block does. -/
theorem Row.keep (h : Row w ok e size v n xs) (hk : ∀ g o, ok g → w.heap[g]? = some o → isData o = true → w'.heap[g]? = some o) : Row w' ok e size v n xs := by
  rcases h.form with ⟨rfl, rfl, rfl⟩ | ⟨g, cap, cur, rfl, hg, hh, hnc, hcm, hcs, ht⟩
  · exact Row.nil _ _ _ _
  · exact Row.of_form hg (hk g _ hg hh rfl) hnc hcm hcs ht
theorem Row.ext {S : Nat → Prop} (h : Row w ok e size v n xs) (hx : Ext S w w') (hs : ∀ g, ok g → ¬ S g) : Row w' ok e size v n xs := h.keep fun g _ hg hh _ => hx.blk hh (hs g hg)
theorem Row.alloc (h : Row w ok e size v n xs) (o : Obj) : Row (w.alloc o) ok e size v n xs := ⟨h.1.alloc o, h.2⟩
theorem Row.drew (h : Row w ok e size v n xs) : Row w.drew ok e size v n xs := h
theorem Row.drewN (h : Row w ok e size v n xs) (k : Nat) : Row (w.drewN k) ok e size v n xs := h
theorem Row.len (h : Row w ok e size v n xs) : xs.length = n * size := h.1.1
/-- What a cell of the row holds. -/
theorem Row.cell (h : Row w ok e 1 v n xs) {j : Nat} (hj : j < xs.length) : ∃ g cap, v = .slice (some ⟨g, 0, none⟩) n cap ∧ ok g ∧ n ≤ cap ∧ w.cell? ⟨g, j, none⟩ = some xs[j] := by
  rcases h.form with ⟨rfl, rfl, rfl⟩ | ⟨g, cap, cur, rfl, hg, hh, hnc, hcm, hcs, ht⟩
  · simp at hj
  · refine ⟨g, cap, rfl, hg, hnc, ?_⟩
    subst ht
    have hj' : j < cur.size := by simp at hj; omega
    simp [World.cell?, hh]
end

section
variable {P : Program}
theorem run_push (w : World) {ok : Nat → Prop} (t ty e : TypeId) (i : TypeInfo) (z : Value) (size bytes : Nat) (ht : P.underlying t = some (.slice e)) (hi : P.info? e = some i) (hz : i.zero = some z)
    (hsize : i.size = size) (hby : i.bytes = bytes) (hzs : z.cells.size = size) (hsz : 0 < size)
    {v : Value} {n : Nat} {xs : List Value} (hown : Row w ok e size v n xs) (hnew : ∀ g, w.heap.size ≤ g → ok g) (news : List Value) (hl : news.length = size) (h1 : ∀ u ∈ news, u.oneCell' = true)
    (hn : (n + 1) * (bytes + 1) ≤ 140737488355328) :
    ∃ v' w', (Builtin.append_ #[t, t] ty #[v, .slice (some ⟨w.heap.size, 0, none⟩) 1 1]).run P (w.alloc (.cells news.toArray e)) = .ok v' w' ∧ Row w' ok e size v' (n + 1) (xs ++ news) ∧ Ext ok w w' := by
  have hb : (n + 1) * bytes ≤ (n + 1) * (bytes + 1) := Nat.mul_le_mul_left _ (by omega)
  have hb2 : (n + 1) * 1 ≤ (n + 1) * (bytes + 1) := Nat.mul_le_mul_left _ (by omega)
  obtain ⟨v', w', hrun, h2, h3, _, h5⟩ := run_append_own_at (P := P) (w.alloc (.cells news.toArray e)) 0 t ty e i z size bytes ht hi hz hsize hby hzs hsz v n xs (hown.1.alloc _) ⟨w.heap.size, 0, none⟩ 1 1 news (by omega)
    (by
      intro j u hu
      have hj : ((⟨w.heap.size, 0, none⟩ : Addr).add j) = ⟨w.heap.size, j, none⟩ := by unfold Addr.add; split <;> simp_all
      rw [hj]
      have hb := World.alloc_heap_new w (.cells news.toArray e)
      unfold World.cell?
      rw [hb]
      simpa using hu) h1 (by unfold maxLen; omega) (by omega) (Nat.zero_le _)
  refine ⟨v', w', hrun, ⟨h2, fun g hg => ?_⟩, ?_⟩
  · rcases h5 with h5 | h5
    · exact hown.2 g (by rw [← h5]; exact hg)
    · rw [h5] at hg; simp at hg; exact hnew g (by omega)
  · refine ((Ext.refl ok w).alloc _).grown h3 fun k hk => ⟨.inl (hown.2 k hk), fun o ho => ?_⟩
    rcases hown.form with ⟨rfl, _, _⟩ | ⟨g, cap, cur, rfl, _, hh, _⟩
    · simp [Value.ownBlock] at hk
    · simp [Value.ownBlock] at hk
      subst hk
      rw [blk_alloc hh] at ho
      cases ho; rfl

/-- 'out = append(out, x)' of one element: the law at the operation. -/
theorem wpList_push {w : World} {ok : Nat → Prop} {ops : Array Oper} {rest : List Oper} {o : Oper} {a : Act} {Q : Exit → Act → World → Prop} (hgd : o.guard = none) (s x : Operand) (t : TypeId)
    (ho : o.op = .call { callee := .builtin .append, args := #[s, x], argTypes := #[t, t] }) (e : TypeId) (i : TypeInfo) (z : Value) (size bytes : Nat) (ht : P.underlying t = some (.slice e)) (hi : P.info? e = some i) (hz : i.zero = some z)
    (hsize : i.size = size) (hby : i.bytes = bytes) (hzs : z.cells.size = size) (hsz : 0 < size)
    {v : Value} {n : Nat} {xs : List Value} (hs : a.eval s = v) (hown : Row w ok e size v n xs) (hnew : ∀ g, w.heap.size ≤ g → ok g) (news : List Value) (hl : news.length = size) (h1 : ∀ u ∈ news, u.oneCell' = true)
    (hx : a.eval x = .slice (some ⟨w.heap.size, 0, none⟩) 1 1) (hn : (n + 1) * (bytes + 1) ≤ 140737488355328)
    (h : ∀ v' w', Row w' ok e size v' (n + 1) (xs ++ news) → Ext ok w w' → wpList P ops Q rest (a.put o.dst v') w') : wpList P ops Q (o :: rest) a (w.alloc (.cells news.toArray e)) := by
  refine wpList_plain hgd fun K hK => ?_
  obtain ⟨v', w', hrun, h2, h3⟩ := run_push (P := P) w t o.type e i z size bytes ht hi hz hsize hby hzs hsz hown hnew news hl h1 hn
  unfold Oper.wp execOp
  simp only [ho, resolve, invoke, builtin, Sem.run_bind, Sem.run_pure, Result.andThen_ok, List.map_toArray, List.map_cons, List.map_nil, hs, hx, hrun]
  exact hK _ _ (h v' w' h2 h3)

end

theorem upon_id {P : Program} {o : Oper} {a : Act} {next : Act → World → Prop} {Q : Exit → Act → World → Prop} {r : Result Next} (h : o.upon P a next Q r) : o.upon P a next Q r := h
theorem uponIn_id {F : Fence} {n : Nat} {P : Program} {o : Oper} {a : Act} {next : Act → World → Prop} {Q : Exit → Act → World → Prop} {r : Result Next} (h : o.uponIn F n P a next Q r) : o.uponIn F n P a next Q r := h
end Go.Proofs.YtgodcegaffgfjaaGreatDoor
