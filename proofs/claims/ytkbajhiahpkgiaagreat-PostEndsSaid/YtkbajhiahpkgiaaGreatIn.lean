
/- In: postings by insertion: what it makes of the trigrams is what makeP tells. -/
import Derived.Test.YtkbajhiahpkgiaaGreatWh
namespace Go.Proofs.YtkbajhiahpkgiaaGreat
open Go.RowKit Sx

def sortP (O : List (List UInt8 × PlaceV)) : List PostP := (((grams O).map (·.1)).mergeSort leB).map fun g => (g, getG (grams O) g)
theorem makeP_sort (ds : List (List UInt8)) : makeP ds = sortP (occs ds ds.length) := rfl
theorem sortP_keys (O : List (List UInt8 × PlaceV)) : (sortP O).map (·.1) = ((grams O).map (·.1)).mergeSort leB := by
  unfold sortP
  rw [List.map_map]
  exact (List.map_congr_left fun x _ => rfl).trans (List.map_id _)
theorem sortP_rise (O : List (List UInt8 × PlaceV)) : ((sortP O).map (·.1)).Pairwise (· < ·) := by
  rw [sortP_keys]
  obtain ⟨hn, _⟩ := grams_keys O
  have h1 : (((grams O).map (·.1)).mergeSort leB).Nodup := (List.mergeSort_perm _ _).nodup_iff.2 hn
  have h2 : (((grams O).map (·.1)).mergeSort leB).Pairwise (fun a b => leB a b = true) := List.pairwise_mergeSort (fun a b c h k => by
    unfold leB at *
    rw [decide_eq_true_eq] at *
    exact List.le_trans h k) (fun a b => by
    unfold leB
    rw [Bool.or_eq_true, decide_eq_true_eq, decide_eq_true_eq]
    exact List.le_total a b) _
  refine (h1.and h2).imp fun {a b} ⟨hne, hle⟩ => ?_
  unfold leB at hle
  rcases List.le_iff_lt_or_eq.1 (of_decide_eq_true hle) with h | h
  · exact h
  · exact absurd h hne
theorem sortP_mem (O : List (List UInt8 × PlaceV)) (g : List UInt8) : g ∈ (sortP O).map (·.1) ↔ g ∈ O.map (·.1) := by
  rw [sortP_keys, (List.mergeSort_perm _ _).mem_iff]
  exact (grams_keys O).2 g
theorem sortP_val {O : List (List UInt8 × PlaceV)} {x : PostP} (h : x ∈ sortP O) : x.2 = getG (grams O) x.1 := by
  unfold sortP at h
  obtain ⟨g, _, rfl⟩ := List.mem_map.1 h
  rfl
theorem rise_irr (a : List UInt8) : ¬ a < a := List.lt_irrefl a
theorem rise_eq : ∀ {l m : List (List UInt8)}, l.Pairwise (· < ·) → m.Pairwise (· < ·) → (∀ g, g ∈ l ↔ g ∈ m) → l = m
  | [], [], _, _, _ => rfl
  | [], b :: m, _, _, h => absurd ((h b).2 List.mem_cons_self) (by simp)
  | a :: l, [], _, _, h => absurd ((h a).1 List.mem_cons_self) (by simp)
  | a :: l, b :: m, h1, h2, h => by
    obtain ⟨ha, hl⟩ := List.pairwise_cons.1 h1
    obtain ⟨hb, hm⟩ := List.pairwise_cons.1 h2
    have e : a = b := by
      rcases List.mem_cons.1 ((h a).1 List.mem_cons_self) with e | e
      · exact e
      · rcases List.mem_cons.1 ((h b).2 List.mem_cons_self) with e2 | e2
        · exact e2.symm
        · exact absurd (List.lt_trans (ha _ e2) (hb _ e)) (rise_irr a)
    subst e
    congr 1
    refine rise_eq hl hm fun g => ⟨fun hg => ?_, fun hg => ?_⟩
    · rcases List.mem_cons.1 ((h g).1 (List.mem_cons_of_mem _ hg)) with e | e
      · subst e; exact absurd (ha _ hg) (rise_irr _)
      · exact e
    · rcases List.mem_cons.1 ((h g).2 (List.mem_cons_of_mem _ hg)) with e | e
      · subst e; exact absurd (hb _ hg) (rise_irr _)
      · exact e
theorem sortP_eq {O : List (List UInt8 × PlaceV)} {L : List PostP} (h1 : (L.map (·.1)).Pairwise (· < ·)) (h2 : ∀ g, g ∈ L.map (·.1) ↔ g ∈ O.map (·.1)) (h3 : ∀ x ∈ L, x.2 = getG (grams O) x.1) : L = sortP O := by
  have e : L.map (·.1) = (sortP O).map (·.1) := rise_eq h1 (sortP_rise O) fun g => by rw [h2, sortP_mem]
  have e2 : ∀ M : List PostP, (∀ x ∈ M, x.2 = getG (grams O) x.1) → M = (M.map (·.1)).map fun g => (g, getG (grams O) g) := fun M hM => by
    rw [List.map_map]
    refine ((List.map_congr_left fun x hx => ?_).trans (List.map_id M)).symm
    rw [Function.comp_apply, ← hM x hx]; rfl
  rw [e2 L h3, e2 (sortP O) fun x hx => sortP_val hx, e]
theorem grams_snoc_get (O : List (List UInt8 × PlaceV)) (g : List UInt8) (p : PlaceV) (x : List UInt8) : getG (grams (O ++ [(g, p)])) x = if g = x then getG (grams O) g ++ [p] else getG (grams O) x := by
  rw [grams_snoc, getG_put]
theorem sortP_hit {O : List (List UInt8 × PlaceV)} {g : List UInt8} {p : PlaceV} {l : List PlaceV} {S1 S2 : List PostP} (h : sortP O = S1 ++ (g, l) :: S2) : S1 ++ (g, l ++ [p]) :: S2 = sortP (O ++ [(g, p)]) := by
  have hr := sortP_rise O
  have hm := sortP_mem O
  have hv : ∀ x ∈ sortP O, x.2 = getG (grams O) x.1 := fun x hx => sortP_val hx
  rw [h] at hr hm hv
  have hk : (S1 ++ (g, l ++ [p]) :: S2).map (·.1) = (S1 ++ (g, l) :: S2).map (·.1) := by simp
  have hl : l = getG (grams O) g := hv (g, l) (by simp)
  rw [List.map_append, List.map_cons] at hr
  obtain ⟨_, hr2, hr3⟩ := List.pairwise_append.1 hr
  obtain ⟨hr4, _⟩ := List.pairwise_cons.1 hr2
  refine sortP_eq (by rw [hk, List.map_append, List.map_cons]; exact hr) (fun x => ?_) fun x hx => ?_
  · rw [hk, hm, List.map_append, List.mem_append]
    refine ⟨.inl, fun e => e.elim id fun e => ?_⟩
    rw [List.map_cons, List.map_nil, List.mem_singleton] at e
    subst e
    exact (hm _).1 (by simp)
  · rw [grams_snoc_get]
    rcases List.mem_append.1 hx with hx | hx
    · have hne : ¬ g = x.1 := fun e => rise_irr g (by have := hr3 _ (List.mem_map_of_mem hx) g (by simp); rwa [← e] at this)
      rw [if_neg hne]; exact hv x (by simp [hx])
    · rcases List.mem_cons.1 hx with rfl | hx
      · rw [if_pos rfl, hl]
      · have hne : ¬ g = x.1 := fun e => rise_irr g (by have := hr4 _ (List.mem_map_of_mem hx); rwa [← e] at this)
        rw [if_neg hne]; exact hv x (by simp [hx])
theorem sortP_new {O : List (List UInt8 × PlaceV)} {g : List UInt8} {p : PlaceV} {S1 S2 : List PostP} (h : sortP O = S1 ++ S2) (h1 : ∀ x ∈ S1, x.1 < g) (h2 : ∀ x ∈ S2, g < x.1) : S1 ++ (g, [p]) :: S2 = sortP (O ++ [(g, p)]) := by
  have hr := sortP_rise O
  have hm := sortP_mem O
  have hv : ∀ x ∈ sortP O, x.2 = getG (grams O) x.1 := fun x hx => sortP_val hx
  rw [h] at hr hm hv
  rw [List.map_append] at hr
  obtain ⟨hr1, hr2, hr3⟩ := List.pairwise_append.1 hr
  have hno : g ∉ O.map (·.1) := fun e => by
    obtain ⟨x, hx, e2⟩ := List.mem_map.1 ((hm g).2 e)
    rcases List.mem_append.1 hx with hx | hx
    · have := h1 x hx; rw [e2] at this; exact rise_irr _ this
    · have := h2 x hx; rw [e2] at this; exact rise_irr _ this
  have hg0 : getG (grams O) g = [] := by
    rw [grams_get, List.filter_eq_nil_iff.2 fun o ho => ?_]
    · rfl
    · rw [decide_eq_true_eq]; exact fun e => hno (e ▸ List.mem_map_of_mem ho)
  refine sortP_eq ?_ (fun x => ?_) fun x hx => ?_
  · rw [List.map_append, List.map_cons]
    refine List.pairwise_append.2 ⟨hr1, List.pairwise_cons.2 ⟨fun x hx => ?_, hr2⟩, fun x hx y hy => ?_⟩
    · obtain ⟨z, hz, rfl⟩ := List.mem_map.1 hx; exact h2 z hz
    · obtain ⟨z, hz, rfl⟩ := List.mem_map.1 hx
      rcases List.mem_cons.1 hy with rfl | hy
      · exact h1 z hz
      · exact hr3 _ (List.mem_map_of_mem hz) _ hy
  · have e := hm x
    simp only [List.map_append, List.map_cons, List.map_nil, List.mem_append, List.mem_cons, List.not_mem_nil, or_false] at e ⊢
    rw [← e]
    constructor
    · rintro (h | h | h)
      · exact .inl (.inl h)
      · exact .inr h
      · exact .inl (.inr h)
    · rintro ((h | h) | h)
      · exact .inl h
      · exact .inr (.inr h)
      · exact .inr (.inl h)
  · rw [grams_snoc_get]
    rcases List.mem_append.1 hx with hx | hx
    · have hne : ¬ g = x.1 := fun e => rise_irr g (by have := h1 x hx; rwa [← e] at this)
      rw [if_neg hne]; exact hv x (by simp [hx])
    · rcases List.mem_cons.1 hx with rfl | hx
      · rw [if_pos rfl, hg0]; rfl
      · have hne : ¬ g = x.1 := fun e => rise_irr g (by have := h2 x hx; rwa [← e] at this)
        rw [if_neg hne]; exact hv x (by simp [hx])
theorem sortP_len (O : List (List UInt8 × PlaceV)) : (sortP O).length ≤ O.length := by
  have h := congrArg List.length (sortP_keys O)
  rw [List.length_map, List.length_mergeSort, List.length_map] at h
  rw [h]
  exact grams_len O
end Go.Proofs.YtkbajhiahpkgiaaGreat
