/- What LentFiles hands out is files that have the same paths and bytes: doc.Of and doc.Files of it. -/
import Derived.Test.YtfgkhkpngnhimaaGreatEq22
namespace Go.Proofs.YtfgkhkpngnhimaaGreat
open Go.RowKit Sx

def filesOkK (ks : List (List UInt8 × List UInt8)) : Bool := decide (ks.length ≤ 4000) && !(ks.any fun k => decide (1048576 < k.2.length)) && ordOk [] (ks.map Prod.fst)
theorem filesOk_key (fs : List FileV) : filesOk fs = filesOkK (fs.map FileV.key) := by
  unfold filesOk filesOkK
  rw [List.length_map, List.any_map, List.map_map]
  rfl
def docOfK (k : List UInt8 × List UInt8) : DocV := ⟨k.1, langOf k.1, inv32 (crcAll 4294967295 k.2), k.2.length⟩
theorem docOf_key (fs : List FileV) : fs.map docOf = (fs.map FileV.key).map docOfK := by rw [List.map_map]; rfl
theorem key_mem {fs fs' : List FileV} (h : fs'.map FileV.key = fs.map FileV.key) {f : FileV} (hf : f ∈ fs') : ∃ g ∈ fs, g.path = f.path ∧ g.data = f.data := by
  have : f.key ∈ fs.map FileV.key := h ▸ List.mem_map.2 ⟨f, hf, rfl⟩
  obtain ⟨g, hg, e⟩ := List.mem_map.1 this
  exact ⟨g, hg, congrArg Prod.fst e, congrArg Prod.snd e⟩
theorem LentFs.mono {r r' : Hp} {v : Value} {fs : List FileV} (h : LentFs r v fs) (hr : sub r r') : LentFs r' v fs := by
  obtain ⟨a, c, fs', e, hc, hm, hs, hw⟩ := h
  exact ⟨a, c, fs', e, hc, hm, hs.mono hr, fun f hf => (hw f hf).mono hr⟩
theorem LentFs.files {r : Hp} {v : Value} {fs : List FileV} (h : LentFs r v fs) : ∃ fs' : List FileV, fs'.map FileV.key = fs.map FileV.key ∧ Files r v fs' := by
  obtain ⟨a, c, fs', rfl, hc, hm, hs, hw⟩ := h
  have hlen : fs'.length = fs.length := by have := congrArg List.length hm; simpa using this
  refine ⟨fs', hm, ⟨hs.1, ?_⟩, fun f hf => (hw f hf).sl⟩
  have h1 := hs.2
  rw [show (fs' ++ marksFn 12).length = fs.length + 12 by rw [List.length_append, hlen]; simp [marksFn]] at h1
  have h2 := Sl.narrow h1 (m := fs.length) (by omega)
  rw [List.flatMap_append, show fs.length * 2 = (fs'.flatMap encF).length by rw [flat_len hs.1 fs', hlen], List.take_left] at h2
  rw [hlen]
  exact h2
theorem lentOf_any (r : Hp) (v : Value) (fs : List FileV) (hv : LentFs r v fs) (hl : ∀ x ∈ fs, x.path.length ≤ 1000000) : Tri Tryz.prog r 22 [v] [] fun w H =>
    if filesOk fs then ∃ a c, w = .tuple #[.slice a fs.length c, .int .i64 0] ∧ H = [DocR (.slice a fs.length c) (fs.map docOf)] else w = .tuple #[.slice none 0 0, .int .i64 2] ∧ H = [] := by
  obtain ⟨fs', hm, hf⟩ := hv.files
  have hlen : fs'.length = fs.length := by have := congrArg List.length hm; simpa using this
  have h := of_any' r v fs' hf fun x hx => by
    obtain ⟨g, hg, e, _⟩ := key_mem hm hx
    rw [← e]; exact hl g hg
  rw [filesOk_key, docOf_key, hm, ← filesOk_key, ← docOf_key, hlen] at h
  exact h
theorem lentFilesOk_any (r : Hp) (v : Value) (fs : List FileV) (hv : LentFs r v fs) (hl : ∀ x ∈ fs, x.path.length ≤ 1000000) : Tri Tryz.prog r 20 [v] [] fun w H => w = .bool (filesOk fs) ∧ H = [] := by
  obtain ⟨fs', hm, hf⟩ := hv.files
  have h := filesOk_any r v fs' hf fun x hx => by
    obtain ⟨g, hg, e, _⟩ := key_mem hm hx
    rw [← e]; exact hl g hg
  rw [filesOk_key, hm, ← filesOk_key] at h
  exact h
end Go.Proofs.YtfgkhkpngnhimaaGreat
