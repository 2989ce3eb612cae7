
/- How many keys a map has; merge.Right: its contract. -/
import Derived.Test.YtmnehdpclnhmbaaNa
namespace Go.Proofs.Ytmnehdpclnhmbaa
open Go.RowKit Go.Maps Sx

namespace Sx
open Go.Maps Go.MapKept
section
variable {P : Program} {l : Option Nat} {r : Hp} {Q : Exit → St} {K : St} {t : List Value} {H : List Ch} {d : Option Tmp} {ty : TypeId} {pos : String} {af : Array Edge} {gd : Option (Nat × Bool)}
theorem kx_mlen {T kt et : TypeId} {x : Operand} {b n : Nat} {M : Lit → Option Value} {H1 : List Ch} {ks : List (List UInt8)} (hT : mapB P T = some (kt, et)) (hs : P.underlying kt = some .string) (hx : evO t x = some (.map (some b))) (ht : Take (MapC P kt b n M) H H1)
    (hd : ks.Nodup) (hm : ∀ k, k ∈ ks ↔ (M (.string k)).isSome = true) (hk : K (putL t d (.int .i64 ks.length)) H) : SWo P l r ⟨d, .call { callee := .builtin .len, args := #[x], argTypes := #[T] }, ty, pos, af, gd⟩ K t H :=
  swo_run (by intro c hc; cases hc) fun w g ds ok al => by
    obtain ⟨g1, g2, dd, rfl, hM, al'⟩ := ht.all al
    obtain ⟨D, hown, hr⟩ := hM.own ok.emb.left
    obtain ⟨es, clock, rfl, F, hes, hre⟩ := hM
    have hb : w.heap[b]? = some (.map es clock) := ok.emb.left b _ one_same
    have hlen : ks.length = es.size := by
      have hown2 : w.ownsMap P kt rdV b n (datE P kt es) := ⟨es, clock, hb, F, hes, rfl⟩
      have hp := (Reads.keys hre hown2 hs hd hm).length_eq
      rw [hp]
      unfold datE strKeys
      rw [List.length_map, length_sorted]
      simp
    exact ⟨_, w, _, _, by simp [execOp, resolve, invoke, builtin, Builtin.len_, ev_of hx, Sem.run_bind, Sem.run_pure, Result.andThen, run_underlying (mapB_s hT), getObj, Sem.run, hb, goInt, hlen], hk, al, To.refl ok⟩
end
end Sx
/-- A row's texts, each once. -/
def onceP : List Pa → List Pa
  | [] => []
  | a :: l => if a ∈ l then onceP l else a :: onceP l
theorem onceP_mem {x : Pa} : ∀ {l : List Pa}, x ∈ onceP l ↔ x ∈ l
  | [] => Iff.rfl
  | a :: l => by
    unfold onceP
    split
    · rename_i h
      rw [onceP_mem, List.mem_cons]
      exact ⟨.inr, fun h2 => h2.elim (fun e => e ▸ h) id⟩
    · rw [List.mem_cons, onceP_mem, List.mem_cons]
theorem onceP_nodup : ∀ l : List Pa, (onceP l).Nodup
  | [] => List.nodup_nil
  | a :: l => by
    unfold onceP
    split
    · exact onceP_nodup l
    · rename_i h
      exact List.nodup_cons.2 ⟨fun h2 => h (onceP_mem.1 h2), onceP_nodup l⟩
theorem onceP_le : ∀ l : List Pa, (onceP l).length ≤ l.length
  | [] => Nat.le_refl _
  | a :: l => by
    have ih := onceP_le l
    unfold onceP
    split
    · rw [List.length_cons]; omega
    · rw [List.length_cons, List.length_cons]; omega
theorem onceP_len : ∀ {l : List Pa}, l.length = (onceP l).length ↔ l.Nodup
  | [] => by simp [onceP]
  | a :: l => by
    have ih := onceP_len (l := l)
    have h1 := onceP_le l
    rw [List.nodup_cons]
    unfold onceP
    split
    · rename_i h
      rw [List.length_cons]
      exact ⟨fun h2 => by omega, fun h2 => absurd h h2.1⟩
    · rename_i h
      rw [List.length_cons, List.length_cons]
      exact ⟨fun h2 => ⟨h, ih.1 (by omega)⟩, fun h2 => by have := ih.2 h2.2; omega⟩
theorem livV_liv (x : PartM) : ((livV x.dead 0 x.files).map (·.2)).map FileV.key = liv x.key := by
  unfold liv
  rw [show x.key.dead = x.dead from rfl, show x.key.files = x.files.map FileV.key from rfl, ← livV_key, List.map_map, List.map_map]
  rfl
/-- The living files of parts. -/
def livX (X : List PartM) : List FileV := X.flatMap fun x => (livV x.dead 0 x.files).map (·.2)
theorem livX_key : ∀ X : List PartM, (livX X).map FileV.key = livP (X.map PartM.key)
  | [] => rfl
  | x :: X => by
    have ih := livX_key X
    unfold livX livP at ih ⊢
    rw [List.flatMap_cons, List.map_append, livV_liv, ih, List.map_cons, List.flatMap_cons]
theorem livV_len (d : List Int) : ∀ (fs : List FileV) (k : Nat), (livV d k fs).length ≤ fs.length
  | [], _ => Nat.le_refl _
  | f :: fs, k => by
    have ih := livV_len d fs (k + 1)
    unfold livV
    split
    · rw [List.length_cons]; omega
    · rw [List.length_cons, List.length_cons]; omega
theorem one_dead' {x : PartM} (h : oneOk x.key = true) : (∀ d ∈ x.dead, 0 ≤ d ∧ d ≤ 1000000000) ∧ x.files.length ≤ 4000 := by
  have h1 := one_dead h
  unfold oneOk at h
  rw [Bool.and_eq_true] at h
  have h2 := (filesOkK_iff.1 h.2).1
  rw [show x.key.files.length = x.files.length from List.length_map ..] at h2
  refine ⟨fun d hd => ?_, h2⟩
  have h3 := h1.1 d hd
  rw [show x.key.files.length = x.files.length from List.length_map ..] at h3
  omega
/-- A map that has just some texts. -/
def Texts (M : Lit → Option Value) (l : List Pa) : Prop := ∀ s, (M (.string s)).isSome = true ↔ s ∈ l
theorem texts_put {M M' : Lit → Option Value} {l : List Pa} {s : Pa} {v : Value} (h : Texts M l) (hM : ∀ x, M' (.string x) = if x = s then some v else M (.string x)) : Texts M' (l ++ [s]) := fun x => by
  rw [hM, List.mem_append, List.mem_singleton]
  by_cases e : x = s
  · rw [if_pos e]; simp [e]
  · rw [if_neg e, h x]
    exact ⟨.inl, fun h2 => h2.resolve_right e⟩
set_option maxRecDepth 10000 in
set_option maxHeartbeats 8000000 in
theorem mright_any (r : Hp) (v : Value) (X : List PartM) (hv : PartsR r v X) (hn : X.length ≤ 1000000) (hp : ∀ x ∈ X, ∀ f ∈ x.files, f.path.length ≤ 1000000) : Tri Try.prog r 16 [v] [] fun w H => w = .bool (partsOk (X.map PartM.key)) ∧ H = [] := by
  refine Tri.free2 fun R HR => ?_
  obtain ⟨hve, hvb⟩ := hv
  refine fn_of_sw Try.func16 rfl _ rfl ?_; refine aen Try.ntmps16 ?_
  repeat' (first | ((with_reducible apply kx_mmake 9); intro bm; (refine apk ?_)) | ((with_reducible apply kx_alloc (E := 59)); exact ty_zero; (exact qcl); intro b3; (refine apk ?_)) | ((with_reducible apply kx_alloc (E := 3)); exact ty_zero; (exact qcl); intro b4; (refine apk ?_)) | refine aw0 ?_ | (refine ap2 ?_ ?_ <;> try intro h) | refine aw1 ?_ | (refine abx ?_; intro bb) | (refine abz ?_; intro bz) | (refine ahv ?_; intro v' hv') | (refine aac ?_; intro ac cc) | refine aw2 ?_ | (refine ap4 ?_ ?_ <;> try intro h) | apply True.intro)
  refine sw_loop (fun gm t H' => ∃ (k : Nat) (M : Lit → Option Value) (u8 u23 : Value), gm = X.length + 1 - k ∧ (k ≤ X.length) ∧ (∀ x ∈ X.take k, oneOk x.key = true) ∧ (Texts M ((livX (X.take k)).map (·.path))) ∧ ((livX (X.take k)).length ≤ 4000 * k) ∧ (∃ G, Takes [pt b3 (.cells [.map (some bm)].toArray 59 (0, 0)), pt b4 (.cells [.int .i64 (livX (X.take k)).length].toArray 3 (0, 0)), MapC Try.prog 9 bm (livX (X.take k)).length M] H' G) ∧ Sls t 38 [(3, .pointer (some ⟨b3, 0, none⟩)), (4, .pointer (some ⟨b4, 0, none⟩)), (8, u8), (10, v), (11, .int .i64 X.length), (12, .int .i64 k), (23, u23)]) _ ⟨0, (fun _ => none), _, _, rfl, Nat.zero_le _, (fun x hx => by simp at hx), (fun s => by simp [livX]), (by simp [livX]), ⟨_, atks⟩, asls⟩ ?_
  rintro gm t H' ⟨k, M, u8, u23, rfl, hk, hO, hM, hml, ⟨G, hp⟩, hs'⟩
  revert t; refine sls_all ?_; iterate 31 intro uu'
  refine sw_takeG hp ?_; clear hp
  by_cases hlt : k < X.length
  · obtain ⟨x, hx⟩ : ∃ x, X.getD k default = x := ⟨_, rfl⟩
    have hxm : x ∈ X := hx ▸ getDm hlt
    obtain ⟨hxf, hxd⟩ := hvb x hxm
    have hxp := hp x hxm
    have htk : X.take (k + 1) = X.take k ++ [x] := by rw [take_getD (d := default) hlt, hx]
    have hdr : X = X.take k ++ x :: X.drop (k + 1) := by
      conv => lhs; rw [← List.take_append_drop k X, List.drop_eq_getElem_cons hlt]
      rw [show X[k] = x by rw [← hx, List.getD_eq_getElem?_getD, List.getElem?_eq_getElem hlt]; rfl]
    have hone := mone_any r x.fv x.dv x.files x.dead hxf hxd hxp
    have hkey1 : oneOk ⟨x.files.map FileV.key, x.dead⟩ = oneOk x.key := rfl
    rw [hkey1] at hone
    have hxe : encMp x = [x.fv, x.dv] := rfl
    have hf1 := hxf.1.one
    have hd1 := hxd.one
    cases ho : oneOk x.key
    · rw [ho] at hone
      have hno : partsOk (X.map PartM.key) = false := by
        rw [← Bool.not_eq_true]
        intro h
        have := (partsOk_iff.1 h).1 x.key (List.mem_map_of_mem hxm)
        rw [ho] at this
        cases this
      rw [hno] at HR
      have hf2 := hxf.1
      repeat' (first | (rw [hx, hxe]) | ((with_reducible apply kx_alloc (E := 36)); exact ty_zero; (exact qcl); intro b6; (refine apk ?_)) | (refine acl Try.func41 ?_; refine acr (hone) ?_; rintro v' H' ⟨rfl, rfl⟩; all_goals refine apl ?_) | (exfalso; first | contradiction | omega) | refine aw0 ?_ | (refine ap2 ?_ ?_ <;> try intro h) | refine aw1 ?_ | (refine abx ?_; intro bb) | (refine abz ?_; intro bz) | (refine ahv ?_; intro v' hv') | (refine aac ?_; intro ac cc) | refine aw2 ?_ | (refine ap4 ?_ ?_ <;> try intro h) | apply True.intro)
      ((with_reducible apply fp_ret); exact res_1 rfl rfl)
      exact HR.out _ _ _ [] Takes.all ⟨rfl, rfl⟩
    · rw [ho] at hone
      have hf2 := hxf.1
      repeat' (first | (rw [hx, hxe]) | ((with_reducible apply kx_alloc (E := 36)); exact ty_zero; (exact qcl); intro b6; (refine apk ?_)) | (refine acl Try.func41 ?_; refine acr (hone) ?_; rintro v' H' ⟨rfl, rfl⟩; all_goals refine apl ?_) | (refine acl Try.func20 ?_; refine acr (mof_any r x.fv x.dv x.dead hxd x.files hxf.1 (one_dead' ho).1) ?_; rintro v' H' ⟨bq, rfl, rfl⟩; all_goals refine apl ?_) | (refine acl Try.func21 ?_; refine acr (mliving_any r x.fv x.dv x.files x.dead bq hxf.1 hxd) ?_; rintro v' H' ⟨bw, rfl, rfl⟩; all_goals refine apl ?_) | (exfalso; first | contradiction | omega) | refine aw0 ?_ | (refine ap2 ?_ ?_ <;> try intro h) | refine aw1 ?_ | (refine abx ?_; intro bb) | (refine abz ?_; intro bz) | (refine ahv ?_; intro v' hv') | (refine aac ?_; intro ac cc) | refine aw2 ?_ | (refine ap4 ?_ ?_ <;> try intro h) | apply True.intro)
      obtain ⟨L, hL⟩ : ∃ L, livX (X.take k) = L := ⟨_, rfl⟩
      obtain ⟨V, hV⟩ : ∃ V, livV x.dead 0 x.files = V := ⟨_, rfl⟩
      have hVl := livV_len x.dead x.files 0
      have hVm := fun y (hy : y ∈ V) => livV_mem (d := x.dead) (fs := x.files) (k := 0) (x := y) (by rw [hV]; exact hy)
      have hsq := living_seq r bw bq x.dead.length x.fv x.dv x.files x.dead hxf
      have hxl := (one_dead' ho).2
      have hLn : livX (X.take (k + 1)) = L ++ V.map (·.2) := by rw [htk, ← hL, ← hV]; unfold livX; rw [List.flatMap_append, List.flatMap_cons, List.flatMap_nil, List.append_nil]
      rw [hL] at hM hml ⊢
      rw [hV] at hVl hsq
      refine sw_range rfl (goesOf Try.func47 (by kernel_rfl) rfl) hsq (by (exact atks)) (fun _ => rfl)
        (fun j H => ∃ M', Texts M' (L.map (·.path) ++ (V.take j).map (·.2.path)) ∧ ∃ G, Takes [pt b3 (.cells [.map (some bm)].toArray 59 (0, 0)), pt b4 (.cells [.int .i64 (L.length + j : Nat)].toArray 3 (0, 0)), MapC Try.prog 9 bm (L.length + j) M'] H G)
        (fun _ _ _ => False) ?_ ?_ ?_ ?_
      · exact ⟨M, by simpa using hM, _, by (exact atks)⟩
      · rintro kk i hi H ⟨M', hM', G, hp⟩
        obtain ⟨⟨q, fp, fv, fd⟩, hxi⟩ : ∃ y, V[i] = y := ⟨_, rfl⟩
        have hym : V[i] ∈ V := List.getElem_mem hi
        have htv : V.take (i + 1) = V.take i ++ [(q, ⟨fp, fv, fd⟩)] := by rw [List.take_succ_eq_append_getElem hi, hxi]
        rw [hxi] at hym
        have hfm := hVm _ hym
        have hfb := hxf.2 _ hfm
        have hfp := hxp _ hfm
        dsimp only at hfb hfp
        refine sw_takeG hp ?_
        clear hp
        rw [hxi, show tellN (q, ⟨fp, fv, fd⟩) = [.int .i64 q, .agg [.string (bs fp), fv].toArray] from rfl]
        refine sw_pars2 ?_
        (refine apk ?_)
        refine then2_mk ?_
        (refine apk ?_)
        repeat' (first | ((with_reducible apply kx_alloc (E := 42)); exact ty_zero; (exact qcl); intro b9; (refine apk ?_)) | ((with_reducible apply kx_mputS (kt := 9) (et := 4) (g := fp)); kernel_rfl; exact Try.underlying9; rfl; rfl; rfl; (unfold maxLen; omega); (exact atk); (unfold maxLen; omega); intro M2 hM2; (refine apk ?_)) | (exfalso; first | contradiction | omega) | refine aw0 ?_ | (refine ap2 ?_ ?_ <;> try intro h) | refine aw1 ?_ | (refine abx ?_; intro bb) | (refine abz ?_; intro bz) | (refine ahv ?_; intro v' hv') | (refine aac ?_; intro ac cc) | refine aw2 ?_ | (refine ap4 ?_ ?_ <;> try intro h) | apply True.intro)
        refine ⟨M2, by rw [htv, List.map_append, ← List.append_assoc]; exact texts_put hM' hM2, ?_⟩
        apply Exists.intro
        rw [show ((L.length + i : Nat) : Int) + 1 = ((L.length + (i + 1) : Nat) : Int) by omega]
        (exact atks)
      · rintro H ⟨M', hM', G, hp⟩
        rw [List.take_length] at hM'
        refine sw_takeG hp ?_
        clear hp
        repeat' (first | (exfalso; first | contradiction | omega) | refine aw0 ?_ | (refine ap2 ?_ ?_ <;> try intro h) | refine aw1 ?_ | (refine abx ?_; intro bb) | (refine abz ?_; intro bz) | (refine ahv ?_; intro v' hv') | (refine aac ?_; intro ac cc) | refine aw2 ?_ | (refine ap4 ?_ ?_ <;> try intro h) | apply True.intro)
        exact ⟨_, by omega, k + 1, M', _, _, rfl, by omega, fun y hy => (by
          rw [htk] at hy
          rcases List.mem_append.1 hy with hy | hy
          · exact hO y hy
          · obtain rfl := List.mem_singleton.1 hy
            exact ho), by rw [hLn, List.map_append, List.map_map]; exact hM', by rw [hLn, List.length_append, List.length_map]; omega, ⟨_, by rw [hLn, List.length_append, List.length_map]; exact atks⟩, asls⟩
      · rintro c i H hi h
        exact h.elim
  · obtain rfl : k = X.length := by omega
    rw [List.take_length] at hO hM hml ⊢
    have hLk := livX_key X
    have hLp : (livX X).map (·.path) = (livP (X.map PartM.key)).map (·.1) := by rw [← hLk, List.map_map]; rfl
    have hLn : (livP (X.map PartM.key)).length = (livX X).length := by rw [← hLk, List.length_map]
    have hall : (X.map PartM.key).all oneOk = true := List.all_eq_true.2 fun y hy => by
      obtain ⟨x, hx, rfl⟩ := List.mem_map.1 hy
      exact hO x hx
    unfold partsOk at HR
    rw [hall, Bool.true_and, ← hLp, hLn] at HR
    have hks : ∀ s, s ∈ onceP ((livX X).map (·.path)) ↔ (M (.string s)).isSome = true := fun s => by rw [onceP_mem, hM s]
    have hlen : ((livX X).map (·.path)).length = (livX X).length := List.length_map ..
    have honl := onceP_len (l := (livX X).map (·.path))
    rw [hlen] at honl
    repeat' (first | ((with_reducible apply kx_mlen (kt := 9) (et := 4) (ks := onceP ((livX X).map (·.path)))); kernel_rfl; exact Try.underlying9; rfl; (exact atk); exact onceP_nodup _; exact hks; (refine apk ?_)) | (exfalso; first | contradiction | omega) | refine aw0 ?_ | (refine ap2 ?_ ?_ <;> try intro h) | refine aw1 ?_ | (refine abx ?_; intro bb) | (refine abz ?_; intro bz) | (refine ahv ?_; intro v' hv') | (refine aac ?_; intro ac cc) | refine aw2 ?_ | (refine ap4 ?_ ?_ <;> try intro h) | apply True.intro)
    · rw [decide_eq_true (honl.1 (by omega)), Bool.true_and] at HR
      ((with_reducible apply fp_ret); exact res_1 rfl rfl)
      exact HR.out _ _ _ [] Takes.all ⟨by congr 1; rw [decide_eq_decide]; omega, rfl⟩
    · rw [decide_eq_false (fun h2 => h (by have := honl.2 h2; omega)), Bool.false_and] at HR
      ((with_reducible apply fp_ret); exact res_1 rfl rfl)
      exact HR.out _ _ _ [] Takes.all ⟨rfl, rfl⟩
end Go.Proofs.Ytmnehdpclnhmbaa
