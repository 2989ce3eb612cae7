
/- A shard as a value: its pieces, what it reads as. -/
import Derived.Test.YtohpeoakdgckfaaGreatOp
import Derived.Test.YtohpeoakdgckfaaGreatGp
import Derived.Test.YtohpeoakdgckfaaGreatSm
import Derived.Test.YtohpeoakdgckfaaGreatFw
namespace Go.Proofs.YtohpeoakdgckfaaGreat
open Go.RowKit Sx

namespace Sx
section
variable {P : Program} {l : Option Nat} {r : Hp} {Q : Exit → St} {K : St} {t : List Value} {H : List Ch}
theorem sw_lendQ {c : Code} {A : Ch} {H1 : List Ch} (ht : Take A H H1) (h : ∀ r' g, sub r r' → sub g r' → A g → SW P l r' c (fun e t' H' => Q e t' (A :: H')) t H1) : SW P l r c Q t H := by
  intro w h0 ds ok al
  obtain ⟨g, k, d, rfl, hg, hk⟩ := ht.all al
  refine wpIn_mono (h (un r g) g (fun b o e => un_left e) (fun b o e => un_right (dj_un.1 ok.dj).1 e) hg w k ds (ok.lend d) hk) ?_
  intro e a' w' p
  cases e with
  | panic _ => exact p.elim
  | outgrown => exact p.elim
  | _ =>
    obtain ⟨t', H', k', e1, h2, al', to'⟩ := p
    obtain ⟨d', tb⟩ := To.back ok d to'
    exact ⟨t', _, _, e1, h2, ⟨g, k', d', rfl, hg, al'⟩, tb⟩

end
end Sx
/-- Files that are owned, with their bytes. -/
def FilC (v : Value) (ks : List KeyF) : Ch := fun h => ∃ Z : List FileV, Z.map FileV.key = ks ∧ all [RowC 45 2 v Z.length (Z.flatMap encF), ByC (Z.map bytF)] h
def FilZ (v : Value) (Z : List FileV) : Ch := all [RowC 45 2 v Z.length (Z.flatMap encF), ByC (Z.map bytF)]
theorem filZ_files {r g : Hp} {v : Value} {Z : List FileV} (h : FilZ v Z g) (hs : sub g r) : Files r v Z := by
  obtain ⟨g1, g2, dd, rfl, h1, g3, g4, dd2, rfl, h2, rfl⟩ := h
  refine ⟨⟨fun _ => rfl, h1.sl (fun b o e => hs b o (un_left e))⟩, fun x hx => ?_⟩
  exact byC_in h2 (fun b o e => hs b o (un_right dd (un_left e))) (bytF x) (List.mem_map_of_mem hx)
def PrtZ (v : Value) (Z : List PartV) : Ch := all [RowC 50 2 v Z.length (Z.flatMap encPa), ByC (Z.map bytP)]
theorem prtZ_parts {r g : Hp} {v : Value} {Z : List PartV} (h : PrtZ v Z g) (hs : sub g r) : Parts r v Z := by
  obtain ⟨g1, g2, dd, rfl, h1, g3, g4, dd2, rfl, h2, rfl⟩ := h
  refine ⟨⟨fun _ => rfl, h1.sl (fun b o e => hs b o (un_left e))⟩, fun x hx => ?_⟩
  exact byC_in h2 (fun b o e => hs b o (un_right dd (un_left e))) (bytP x) (List.mem_map_of_mem hx)
theorem Sx.res_Wc {P : Program} {r : Hp} {t : List Value} {H : List Ch} {fn : Func} {d e : Tmp} {T U : TypeId} {b n : Nat} {c : Array Value} {E : TypeId} {fz : Nat × Nat} {H' : List Ch} {v : Value} {a : Addr} (hr : fn.results = #[.cell d T, .cell e U]) (hv : t[d]? = some (.pointer (some ⟨b, 0, none⟩))) (hu : t[e]? = some (.pointer (some a))) (ht : Take (pt b (.cells c E fz)) H H') (hT : aggB P T = some true) (hn : sizeB P T = some n) (hl : c.size = n) (hU : aggB P U = some false) (hc : Rd1 r H a v) : Res P r fn t H (.tuple #[.agg c, v]) := by
  subst hl
  intro w g e' e'' al
  have h3 := hc w g e'' e' al
  have hc : ∀ j (h : j < c.size), w.cell? (Addr.add ⟨b, 0, none⟩ (0 + j)) = some c[j] := fun j hj => by
    rw [Nat.zero_add]
    exact rdN_pt (off := 0) ht (fun j hj => by rw [Nat.zero_add]; exact Array.getElem?_eq_getElem hj) j hj w g e'' e' al
  have h1 := run_loadCells (P := P) (a := ⟨b, 0, none⟩) (w := w) c.size 0 #[] c rfl hc
  have h2 : t.toArray.getD d undef = .pointer (some ⟨b, 0, none⟩) := by simp [hv, Array.getD_eq_getD_getElem?]
  have h4 : t.toArray.getD e undef = .pointer (some a) := by simp [hu, Array.getD_eq_getD_getElem?]
  simp [results, hr, hv, hu, asAddr, loadVar, loadCells, Sem.run_bind, run_isAgg hT, run_isAgg hU, run_sizeOf hn, Result.andThen, h1, run_load h3, Array.getD_eq_getD_getElem?]
theorem filC_files {r g : Hp} {v : Value} {ks : List KeyF} (h : FilC v ks g) (hs : sub g r) : ∃ Z : List FileV, Z.map FileV.key = ks ∧ Files r v Z := by
  obtain ⟨Z, hZ, h1⟩ := h
  exact ⟨Z, hZ, filZ_files h1 hs⟩
/-- What a shard owns: its block, its content. -/
def ShC (p : Nat) (ks : List KeyF) : Ch := fun h => ∃ (q : Nat) (vd vf vp : Value), all [pt p (.cells [.pointer (some ⟨q, 0, none⟩)].toArray 54 (0, 0)), pt q (.cells [vd, vf, vp].toArray 114 (0, 0)), DocR vd (ks.map docOfK), FilC vf ks, PostC 145 149 vp (makeP (ks.map (·.2)))] h
/-- A shard that is read: none, an empty one, one with files. -/
def ShR (r : Hp) (v : Value) (ks : List KeyF) : Prop :=
  (v = .pointer none ∧ ks = []) ∨ (∃ p, v = .pointer (some ⟨p, 0, none⟩) ∧ r p = some (.cells [.pointer none].toArray 54 (0, 0)) ∧ ks = []) ∨
  ∃ (p q : Nat) (vd vf vp : Value) (Z : List FileV) (Y : List PostV), v = .pointer (some ⟨p, 0, none⟩) ∧ r p = some (.cells [.pointer (some ⟨q, 0, none⟩)].toArray 54 (0, 0)) ∧ r q = some (.cells [vd, vf, vp].toArray 114 (0, 0)) ∧ Docs r vd (ks.map docOfK) ∧ Files r vf Z ∧ Z.map FileV.key = ks ∧ Posts r vp Y ∧ Y.map unP = makeP (ks.map (·.2))
theorem postC_posts {r g : Hp} {v : Value} {ps : List PostP} (h : PostC 145 149 v ps g) (hs : sub g r) : ∃ Y : List PostV, Y.map unP = ps ∧ Posts r v Y := by
  obtain ⟨Z, hZ, hB⟩ := h
  have h0 : ∃ a c, v = .slice a Z.length c := by
    obtain ⟨g1, g2, dd, rfl, h1, h2⟩ := hB
    exact (h1.sl (r := un g1 g2) (fun b o e => un_left e)).form
  obtain ⟨a, c, rfl⟩ := h0
  obtain ⟨h1, h2⟩ := pzc_posts (Z := Z) hB hs rfl
  exact ⟨_, by rw [h1, hZ], h2⟩
theorem shC_read {r g : Hp} {p : Nat} {ks : List KeyF} (h : ShC p ks g) (hs : sub g r) : ShR r (.pointer (some ⟨p, 0, none⟩)) ks := by
  obtain ⟨q, vd, vf, vp, g1, k1, d1, rfl, h1, g2, k2, d2, rfl, h2, g3, k3, d3, rfl, h3, g4, k4, d4, rfl, h4, g5, k5, d5, rfl, h5, rfl⟩ := h
  have s1 : sub g1 r := fun b o e => hs b o (un_left e)
  have t1 : sub (un g2 (un g3 (un g4 (un g5 emp)))) r := fun b o e => hs b o (un_right d1 e)
  have s2 : sub g2 r := fun b o e => t1 b o (un_left e)
  have t2 : sub (un g3 (un g4 (un g5 emp))) r := fun b o e => t1 b o (un_right d2 e)
  have s3 : sub g3 r := fun b o e => t2 b o (un_left e)
  have t3 : sub (un g4 (un g5 emp)) r := fun b o e => t2 b o (un_right d3 e)
  have s4 : sub g4 r := fun b o e => t3 b o (un_left e)
  have t4 : sub (un g5 emp) r := fun b o e => t3 b o (un_right d4 e)
  have s5 : sub g5 r := fun b o e => t4 b o (un_left e)
  obtain ⟨Z, hZ, hF⟩ := filC_files h4 s4
  obtain ⟨Y, hY, hP⟩ := postC_posts h5 s5
  refine .inr (.inr ⟨p, q, vd, vf, vp, Z, Y, rfl, s1 _ _ (by rw [h1]; exact one_same), s2 _ _ (by rw [h2]; exact one_same), ⟨fun _ => rfl, h3.sl s3⟩, hF, hZ, hP, hY⟩)
theorem ShR.mono {r r' : Hp} {v : Value} {ks : List KeyF} (h : ShR r v ks) (hr : sub r r') : ShR r' v ks := by
  rcases h with h | ⟨p, h1, h2, h3⟩ | ⟨p, q, vd, vf, vp, Z, Y, h1, h2, h3, h4, h5, h6, h7, h8⟩
  · exact .inl h
  · exact .inr (.inl ⟨p, h1, hr _ _ h2, h3⟩)
  · exact .inr (.inr ⟨p, q, vd, vf, vp, Z, Y, h1, hr _ _ h2, hr _ _ h3, h4.mono hr, ⟨h5.1.mono hr, fun f hf => (h5.2 f hf).mono hr⟩, h6, ⟨h7.1.mono hr, fun x hx => (h7.2 x hx).mono hr⟩, h8⟩)
end Go.Proofs.YtohpeoakdgckfaaGreat
