
/- strings.Cut at a separator of one byte: its contract. -/
import Derived.Test.YtgodcegaffgfjaaGreatDoorShelf
import Derived.Test.YtgodcegaffgfjaaGreatDoorEng
import Derived.WalkSpells
import Derived.WalkLawsBesides
import Derived.BigQuiet
import Derived.Deep.QuietTactic
namespace Go.Proofs.YtgodcegaffgfjaaGreatDoor
open Go.RowKit

/-- What strings.Cut gives at the separator c: before, after, found. -/
def cut1 (c : UInt8) (s : ByteArray) : ByteArray × ByteArray × Bool :=
  if Lib.indexByte s.data.toList c < 0 then (s, ByteArray.empty, false)
  else (s.extract 0 (Lib.indexByte s.data.toList c).toNat, s.extract ((Lib.indexByte s.data.toList c).toNat + 1) s.size, true)

theorem indexByte_lt (l : List UInt8) (c : UInt8) : Lib.indexByte l c < l.length := by
  induction l with
  | nil => simp [Lib.indexByte]
  | cons x l ih =>
    unfold Lib.indexByte
    split
    · simp <;> omega
    · split
      · simp <;> omega
      · simp <;> omega

set_option maxHeartbeats 400000 in
theorem slCut_any (s : ByteArray) (c : UInt8) (w : World) (hs : s.size ≤ 4611686018427387904) :
    Calls Tryz.prog 115 #[.string s, .string ⟨#[c]⟩] w fun e w' =>
      e = .returned (.tuple #[.string (cut1 c s).1, .string (cut1 c s).2.1, .bool (cut1 c s).2.2]) ∧ ∃ n, w' = w.drewN n := by
  have hb := indexByte_lt s.data.toList c
  have hg := Lib.indexByte_ge s.data.toList c
  have hlen : s.data.toList.length = s.size := by simp
  rw [hlen] at hb
  obtain ⟨i, hi⟩ : ∃ i, Lib.indexByte s.data.toList c = i := ⟨_, rfl⟩
  have HI := hid hi
  rw [hi] at hb hg
  by_cases h0 : i < 0
  · have HC : Hid (cut1 c s = (s, ByteArray.empty, false)) := hid (by simp [cut1, hi, h0])
    clear hi hlen
    go_enter Tryz.func115, Tryz.ntmps115
    go_wp2_with (go_at_call 81; refine (Tryz.stringslite_Index_one _ _ _).mono ?_; rw [HI.out]; rintro e w' ⟨rfl, rfl⟩)
    go_ret3
    rw [HC.out]
    exact ⟨rfl, 0, rfl⟩
  · obtain ⟨n, rfl⟩ := Int.eq_ofNat_of_zero_le (show 0 ≤ i by omega)
    have HC : Hid (cut1 c s = (s.extract 0 n, s.extract (n + 1) s.size, true)) := hid (by simp [cut1, hi])
    clear hi hlen
    go_enter Tryz.func115, Tryz.ntmps115
    go_wp2_with (go_at_call 81; refine (Tryz.stringslite_Index_one _ _ _).mono ?_; rw [HI.out]; rintro e w' ⟨rfl, rfl⟩)
    go_quiet (fail)
    go_wp2
    go_ret3
    rw [HC.out]
    exact ⟨rfl, _, rfl⟩

set_option maxHeartbeats 400000 in
theorem strCut_any (s : ByteArray) (c : UInt8) (w : World) (hs : s.size ≤ 4611686018427387904) :
    Calls Tryz.prog 75 #[.string s, .string ⟨#[c]⟩] w fun e w' =>
      e = .returned (.tuple #[.string (cut1 c s).1, .string (cut1 c s).2.1, .bool (cut1 c s).2.2]) ∧ ∃ n, w' = w.drewN n := by
  go_enter Tryz.func75, Tryz.ntmps75
  go_wp2_with (go_at_call 115; refine (slCut_any _ _ _ hs).mono ?_; rintro e w' ⟨rfl, n, rfl⟩)
  go_ret3
  exact ⟨rfl, _, rfl⟩
end Go.Proofs.YtgodcegaffgfjaaGreatDoor
