
/- Maps as owned pieces: made, read, written. No program is named. -/
import Derived.Test.YtgodcegaffgfjaaGreatDoorPu
import Derived.Maps.Own
import Derived.Sort.KeysCollected
namespace Go.Proofs.YtgodcegaffgfjaaGreatDoor
open Go.RowKit
namespace Sx
open Go.Maps Go.MapKept
open Go.WideElems (Fit rg)
open Go.ChangeMaps (setBlock)

/-- What a value of a map reads as: itself. -/
def rdV (v : Value) : Option (DataW Value × List MemPlace) := some (.held v, [])
def datE (P : Program) (kt : TypeId) (es : Array MapEntry) : DataW Value := .map ((es.toList.map (rg P kt rdV)).foldr DataW.insert [])
/-- The datum has just what M tells. -/
def Reads (D : DataW Value) (M : Lit → Option Value) : Prop := ∀ kl, WideAt.IsKeyLit kl → has D kl = (M kl).isSome ∧ ∀ z, D.atKey kl z = match M kl with | some v => .held v | none => z
def upd (M : Lit → Option Value) (k : Lit) (v : Value) : Lit → Option Value := fun x => if x.sameKey k then some v else M x
theorem upd_same {M : Lit → Option Value} {k : Lit} {v : Value} (hk : WideAt.IsKeyLit k) : upd M k v k = some v := by unfold upd; rw [WideAt.sameKey_self hk]; rfl
theorem upd_other {M : Lit → Option Value} {k x : Lit} {v : Value} (h : x ≠ k) : upd M k v x = M x := by unfold upd; rw [sameKey_ne h]; rfl
theorem Reads.put {D : DataW Value} {M : Lit → Option Value} {k : Lit} {v : Value} (h : Reads D M) (hD : IsMap D) (hk : WideAt.IsKeyLit k) : Reads (D.put k (.held v)) (upd M k v) := fun x hx => by
  by_cases e : x = k
  · subst e
    rw [upd_same hk]
    exact ⟨has_put_same hD hk _, fun z => atKey_put_same hD hk _ _⟩
  · rw [upd_other e, has_put_other e]
    exact ⟨(h x hx).1, fun z => by rw [atKey_put_other e]; exact (h x hx).2 z⟩
/-- A map of at most n entries, in the block b. -/
def MapC (P : Program) (kt : TypeId) (b n : Nat) (M : Lit → Option Value) : Ch := fun h => ∃ es clock, h = one b (.map es clock) ∧ Fit P kt rdV es clock ∧ es.size ≤ n ∧ Reads (datE P kt es) M
section
variable {P : Program} {l : Option Nat} {r : Hp} {Q : Exit → St} {K : St} {t : List Value} {H : List Ch} {d : Option Tmp} {ty : TypeId} {pos : String} {af : Array Edge} {gd : Option (Nat × Bool)}
/-- What a map's piece says of the world. -/
theorem MapC.own {kt : TypeId} {b n : Nat} {M : Lit → Option Value} {g : Hp} {w : World} (h : MapC P kt b n M g) (e : Emb g w) : ∃ D, w.ownsMap P kt rdV b n D ∧ Reads D M := by
  obtain ⟨es, clock, rfl, F, hs, hr⟩ := h
  exact ⟨_, ⟨es, clock, e b _ one_same, F, hs, rfl⟩, hr⟩
/-- The keys of a map whose keys are strings, and any list of these, each once. -/
theorem Reads.keys {D : DataW Value} {M : Lit → Option Value} {kt : TypeId} {b n : Nat} {w : World} (h : Reads D M) (ho : w.ownsMap P kt rdV b n D) (hs : P.underlying kt = some .string) {ks : List (List UInt8)} (hd : ks.Nodup) (hm : ∀ k, k ∈ ks ↔ (M (.string k)).isSome = true) : ks.Perm (strKeys D) := by
  obtain ⟨es, hD, hpw, _⟩ := ho.entries (string_keyed hs)
  obtain ⟨es', hD', hko⟩ := ho.keysOf
  obtain rfl : es = es' := by rw [hD] at hD'; simpa using hD'
  subst hD
  exact perm_strKeys hpw (fun p hp => by obtain ⟨v, hv⟩ := hko p hp; obtain ⟨x, _, hx, _⟩ := Maps.keyOf_str hs hv; exact ⟨x, hx⟩) hd (fun x => by rw [hm x, (h (.string x) trivial).1])
/-- A contract of the kit's that lays a new row, as a contract over pieces. -/
theorem tri_row {f : FuncId} {args : List Value} {E : TypeId} {sz : Nat} {R : Value → Nat → List Value → Prop}
    (h : ∀ w, Emb r w → Calls P f args.toArray w fun e w' => ∃ v n xs, e = .returned v ∧ w'.ownsRow w.heap.size E sz v n xs ∧ Below w.heap.size w w' ∧ R v n xs) : Tri P r f args [] fun v H => ∃ n xs, H = [RowC E sz v n xs] ∧ R v n xs :=
  tri_iff.2 fun w g ok al => (h w ok.ro).mono fun e w' ⟨v, n, xs, he, ho, hb, hR⟩ => by
    obtain rfl : g = emp := al
    rcases ho.2 with ⟨rfl, rfl⟩ | ⟨b, cap, cur, rfl, h1, h2, h3, h4, h5, h6⟩
    · refine ⟨_, _, emp, he, ⟨0, xs, rfl, hR⟩, ⟨emp, emp, dj_emp, un_emp.symm, ⟨ho.1, .inl ⟨rfl, rfl, rfl⟩⟩, rfl⟩, ?_⟩
      exact To.step ok hb.os hb.tape hb.output hb.size (fun k hk _ => hb.block k hk) (fun _ _ c => by cases c) (fun _ c => absurd rfl c)
    · refine ⟨_, _, one b (.cells cur E (0, 0)), he, ⟨n, xs, rfl, hR⟩, ⟨_, emp, dj_emp, un_emp.symm, ⟨ho.1, .inr ⟨b, cap, cur, rfl, rfl, h3, h4, h5, h6⟩⟩, rfl⟩, ?_⟩
      exact To.step ok hb.os hb.tape hb.output hb.size (fun k hk _ => hb.block k hk) (fun k u hk => by obtain ⟨rfl, rfl⟩ := one_some hk; exact h2) (fun k hk => .inr (by rw [one_ne hk]; exact h1))
/-- .. and one that writes a row in its place. -/
theorem tri_inplace {f : FuncId} {args : List Value} {E : TypeId} {b : Nat} {cur : Array Value} {R : Value → Array Value → Prop}
    (h : ∀ w, Emb r w → w.heap[b]? = some (.cells cur E (0, 0)) → Calls P f args.toArray w fun e w' => ∃ v cur', e = .returned v ∧ w'.heap[b]? = some (.cells cur' E (0, 0)) ∧ w.grownBy w' (some b) ∧ R v cur') :
    Tri P r f args [pt b (.cells cur E (0, 0))] fun v H => ∃ cur', H = [pt b (.cells cur' E (0, 0))] ∧ R v cur' :=
  tri_iff.2 fun w g ok al => by
    obtain ⟨g1, g2, dd, rfl, h1, rfl⟩ := al
    obtain rfl : g1 = one b (.cells cur E (0, 0)) := h1
    rw [un_emp] at ok ⊢
    refine (h w ok.ro (ok.emb b _ one_same)).mono fun e w' ⟨v, cur', he, h2, hg, hR⟩ => ?_
    refine ⟨_, _, one b (.cells cur' E (0, 0)), he, ⟨cur', rfl, hR⟩, ⟨_, emp, dj_emp, un_emp.symm, rfl, rfl⟩, ?_⟩
    refine To.step ok hg.os hg.tape hg.output hg.size (fun k hk hn => hg.block k hk (fun e => ?_)) (fun k u hk => by obtain ⟨rfl, rfl⟩ := one_some hk; exact h2) (fun k hk => .inl (by rw [one_ne hk, one_same]; simp))
    injection e with e; subst e; rw [one_same] at hn; cases hn
theorem tri_cv {P : Program} {r : Hp} {f : FuncId} {args : List Value} {H : List Ch} {R R' : Rt} (h : Tri P r f args H R) (hr : ∀ v H1, R v H1 → ∃ H2, R' v H2 ∧ ∀ g, all H1 g → all H2 g) : Tri P r f args H R' :=
  tri_iff.2 fun w g o a => (tri_iff.1 h w g o a).mono fun e w' ⟨v, H1, h', he, hR, al, to⟩ => by
    obtain ⟨H2, h2, h3⟩ := hr v H1 hR
    exact ⟨v, H2, h', he, h2, h3 _ al, to⟩
end
end Sx
end Go.Proofs.YtgodcegaffgfjaaGreatDoor

namespace Go.Proofs.YtgodcegaffgfjaaGreatDoor
open Go.RowKit
namespace Sx
open Go.Maps
section
variable {P : Program} {l : Option Nat} {r : Hp} {Q : Exit → St} {K : St} {t : List Value} {H H1 : List Ch} {d : Option Tmp} {ty : TypeId} {pos : String} {af : Array Edge} {gd : Option (Nat × Bool)}
end
end Sx
end Go.Proofs.YtgodcegaffgfjaaGreatDoor


namespace Go.Proofs.YtgodcegaffgfjaaGreatDoor
open Go.RowKit Sx

end Go.Proofs.YtgodcegaffgfjaaGreatDoor
