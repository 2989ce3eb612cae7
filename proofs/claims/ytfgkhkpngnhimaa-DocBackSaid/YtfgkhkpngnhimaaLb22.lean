/- mudlarklaw22.DocBack: its contract. -/
import Derived.Test.YtfgkhkpngnhimaaLf22
import Derived.Test.YtfgkhkpngnhimaaBk
namespace Go.Proofs.Ytfgkhkpngnhimaa
open Go.RowKit Sx

theorem getOk_docs {b : List UInt8} (h : getOk b = true) : docsOk (getDocs b).1 = true ∧ (∀ d ∈ (getDocs b).1, d.path.length ≤ 200 ∧ d.sum < 4294967296) := by
  unfold getOk at h
  simp only [Bool.and_eq_true, decide_eq_true_eq] at h
  exact ⟨h.2, (docsR_bd _ _).2⟩
theorem putDocs_size : ∀ {fs : List FileV}, (∀ f ∈ fs, f.path.length ≤ 4000 ∧ f.data.length ≤ 4000) → ((fs.map docOf).flatMap putDoc).length ≤ 17 * sizeF fs
  | [], _ => by simp
  | f :: fs, h => by
    have ih := putDocs_size (fs := fs) fun x hx => h x (List.mem_cons_of_mem _ hx)
    obtain ⟨h1, h2⟩ := h f List.mem_cons_self
    have h3 := septs_len6 (n := f.path.length) (by unfold maxNum; omega)
    have h4 := septs_len6 (n := f.data.length) (by unfold maxNum; omega)
    have e : (putDoc (docOf f)).length = (septs f.path.length).length + f.path.length + 4 + (septs f.data.length).length := by simp [putDoc, docOf, texts, fixed]; omega
    simp only [List.map_cons, List.flatMap_cons, List.length_append, sizeF, e]
    omega
theorem putBytes_size {fs : List FileV} (h : ∀ f ∈ fs, f.path.length ≤ 4000 ∧ f.data.length ≤ 4000) (hs : sizeF fs ≤ 4000) (hn : fs.length ≤ 4000) : (putBytes (fs.map docOf)).length ≤ 100000 := by
  have h1 := putDocs_size h
  have h2 := septs_len6 (n := (fs.map docOf).length) (by unfold maxNum; rw [List.length_map]; omega)
  rw [putBytes, List.length_append]
  omega
set_option maxRecDepth 10000 in
set_option maxHeartbeats 8000000 in
theorem docBack_any (r : Hp) (v u : Value) (fs : List FileV) (b : List UInt8) (hv : Files r v fs) (hu : U8S r u b) (hl : ∀ f ∈ fs, f.path.length ≤ 140737488351232 ∧ f.data.length ≤ 140737488351232) : Tri Try.prog r 5 [v, u] [] fun w H => w = .bool true ∧ H = [] := by
  refine Tri.free2 fun R HR => ?_
  have hfo := filesOf_any r v fs 4000 hv hl (by omega)
  rw [show ((4000 : Nat) : Int) = 4000 from rfl] at hfo
  by_cases hb : sizeF fs ≤ 4000
  · by_cases hc : b.length ≤ 4000
    · obtain ⟨hn, hs⟩ := sizeF_small hb
      have hs1 : ∀ x ∈ fs, x.path.length ≤ 1000000 := fun f hf => by have := hs f hf; omega
      have hof := of_any' r v fs hv hs1
      have hfl := fun r2 (hr : sub r r2) => filesOk_any r2 v fs (hv.mono hr) hs1
      cases hok : filesOk fs
      · simp only [hok, Bool.false_eq_true, if_false] at hof hfl
        refine fn_of_sw Try.func5 rfl _ rfl ?_; simp only [Try.ntmps5, List.length_cons, List.length_nil, Nat.reduceAdd, Nat.reduceSub, List.replicate_succ, List.replicate_zero, List.nil_append, List.cons_append]
        repeat' (first | (refine aw0m ?_) | (refine ap2 ?_ ?_ <;> first | exact True.intro | intro h) | ((with_reducible apply kx_call (f := 7) (cap := [])); exact goesOf Try.func7 (by kernel_rfl) rfl; rfl; rfl; exact (awake22_any _); (exact atks); rintro v' H' ⟨rfl, rfl⟩; all_goals ((try simp only [List.nil_append]); (refine apk ?_))) | ((with_reducible apply kx_call (f := 6) (cap := [])); exact goesOf Try.func6 (by kernel_rfl) rfl; rfl; rfl; exact (hfo); (exact atks); rintro v' H' ⟨⟨s, rfl, hsz⟩, rfl⟩; all_goals ((try simp only [List.nil_append]); (refine apk ?_))) | ((with_reducible apply kx_call (f := 9) (cap := [])); exact goesOf Try.func9 (by kernel_rfl) rfl; rfl; rfl; exact (hof); (exact atks); rintro v' H' ⟨rfl, rfl⟩; all_goals ((try simp only [List.nil_append]); (refine apk ?_))) | ((with_reducible apply kx_call (f := 11) (cap := [])); exact goesOf Try.func11 (by kernel_rfl) rfl; rfl; rfl; exact (hfl _ (fun _ _ h => h)); (exact atks); rintro v' H' ⟨rfl, rfl⟩; all_goals ((try simp only [List.nil_append]); (refine apk ?_))) | (refine aw1m ?_) | (refine abx ?_; intro bb) | (refine abz ?_; intro bz) | (refine ahv ?_; intro v' hv') | (refine aac ?_; intro ac cc) | (refine aw2 ?_) | (refine ap4 ?_ ?_ <;> first | exact True.intro | intro h) | (with_reducible refine tr_two ?_ ?_))
        have hg := get_any r u b hu (by omega)
        cases hgo : getOk b
        · rw [hgo] at hg
          simp only [Bool.false_eq_true, if_false] at hg
          have hpn := put_any r (.slice none 0 0) [] ⟨fun _ => rfl, Sl.nil _ _⟩ (fun x hx => by cases hx) (fun x hx => by cases hx)
          rw [show docsOk [] = true from rfl] at hpn
          simp only [if_true] at hpn
          repeat' (first | (refine aw0m ?_) | (refine ap2 ?_ ?_ <;> first | exact True.intro | intro h) | ((with_reducible apply kx_call (f := 16) (cap := [])); exact goesOf Try.func16 (by kernel_rfl) rfl; rfl; rfl; exact (hg); (exact atks); rintro v' H' ⟨rfl, rfl⟩; all_goals ((try simp only [List.nil_append]); (refine apk ?_))) | ((with_reducible apply kx_call (f := 19) (cap := [])); exact goesOf Try.func19 (by kernel_rfl) rfl; rfl; rfl; exact (hpn); (exact atks); rintro v' H' ⟨a8, c8, rfl, rfl⟩; all_goals ((try simp only [List.cons_append, List.nil_append]); (refine apk ?_))) | (refine aw1m ?_) | (refine abx ?_; intro bb) | (refine abz ?_; intro bz) | (refine ahv ?_; intro v' hv') | (refine aac ?_; intro ac cc) | (refine aw2 ?_) | (refine ap4 ?_ ?_ <;> first | exact True.intro | intro h) | (with_reducible refine tr_two ?_ ?_))
          ((with_reducible apply fp_ret); exact res_1 rfl rfl)
          exact HR.out _ _ _ [] (by (exact atks)) ⟨rfl, rfl⟩
        · rw [hgo] at hg
          simp only [if_true] at hg
          obtain ⟨hdk, hdb⟩ := getOk_docs hgo
          repeat' (first | ((with_reducible apply kx_call (f := 16) (cap := [])); exact goesOf Try.func16 (by kernel_rfl) rfl; rfl; rfl; exact (hg); (exact atks); rintro v' H' ⟨a8, c8, rfl, rfl⟩; all_goals ((try simp only [List.cons_append, List.nil_append]); (refine apk ?_))) | ((with_reducible apply sw_freezeT (A := DocR (.slice a8 (getDocs b).1.length c8) (getDocs b).1)); (with_reducible (exact atk)); intro r8 g8 hr8 hg8 hA8) | (refine aw0 ?_) | (refine ap2 ?_ ?_ <;> first | exact True.intro | intro h) | (refine aw1 ?_) | (refine abx ?_; intro bb) | (refine abz ?_; intro bz) | (refine ahv ?_; intro v' hv') | (refine aac ?_; intro ac cc) | (refine aw2 ?_) | (refine ap4 ?_ ?_ <;> first | exact True.intro | intro h) | (with_reducible refine tr_two ?_ ?_))
          have hp8 := put_any r8 _ _ (DocR.docs hA8 hg8) (fun x hx => by have := (hdb x hx).1; omega) (fun x hx => (hdb x hx).2)
          rw [hdk, get_put hgo] at hp8
          simp only [if_true] at hp8
          repeat' (first | ((with_reducible apply kx_call (f := 19) (cap := [])); exact goesOf Try.func19 (by kernel_rfl) rfl; rfl; rfl; exact (hp8); (exact atks); rintro v' H' ⟨a9, c9, rfl, rfl⟩; all_goals ((try simp only [List.cons_append, List.nil_append]); (refine apk ?_))) | ((with_reducible apply sw_freezeT (A := U8R (.slice a9 b.length c9) b)); (with_reducible (exact atk)); intro r9 g9 hr9 hg9 hA9) | (refine aw0 ?_) | (refine ap2 ?_ ?_ <;> first | exact True.intro | intro h) | (refine aw1 ?_) | (refine abx ?_; intro bb) | (refine abz ?_; intro bz) | (refine ahv ?_; intro v' hv') | (refine aac ?_; intro ac cc) | (refine aw2 ?_) | (refine ap4 ?_ ?_ <;> first | exact True.intro | intro h) | (with_reducible refine tr_two ?_ ?_))
          have hB9 : U8S r9 (.slice a9 b.length c9) b := hA9.sl hg9
          have hU9 : U8S r9 u b := (hu.mono hr8).mono hr9
          repeat' (first | (refine aw0m ?_) | (refine ap2 ?_ ?_ <;> first | exact True.intro | intro h) | ((with_reducible apply kx_call (f := 24) (cap := [])); exact goesOf Try.func24 (by kernel_rfl) rfl; rfl; rfl; exact (sameBytes_any _ _ _ b b hB9 hU9); (exact atks); rintro v' H' ⟨rfl, rfl⟩; all_goals ((try simp only [List.nil_append]); (refine apk ?_))) | (refine aw1m ?_) | (refine abx ?_; intro bb) | (refine abz ?_; intro bz) | (refine ahv ?_; intro v' hv') | (refine aac ?_; intro ac cc) | (refine aw2 ?_) | (refine ap4 ?_ ?_ <;> first | exact True.intro | intro h) | (with_reducible refine tr_two ?_ ?_))
          ((with_reducible apply fp_ret); exact res_1 rfl rfl)
          exact HR.out _ _ _ [] (by (exact atks)) ⟨rfl, rfl⟩
      · simp only [hok, if_true] at hof hfl
        obtain ⟨hdk0, hsum⟩ := docs_of_files hok
        have hpg := put_get hdk0 hsum
        have hsz0 := putBytes_size hs hb hn
        have hpl : ∀ d ∈ fs.map docOf, d.path.length ≤ 1000000 := fun d hd => by
          obtain ⟨f, hf, rfl⟩ := List.mem_map.1 hd
          exact hs1 f hf
        have hord : ordOk [] ((fs.map docOf).map (·.path)) = true := by
          unfold docsOk at hdk0
          simp only [Bool.and_eq_true] at hdk0
          exact hdk0.2
        have hgo0 : getOk (putBytes (fs.map docOf)) = true := by
          unfold getOk
          rw [hpg]
          simp [hdk0]
        refine fn_of_sw Try.func5 rfl _ rfl ?_; simp only [Try.ntmps5, List.length_cons, List.length_nil, Nat.reduceAdd, Nat.reduceSub, List.replicate_succ, List.replicate_zero, List.nil_append, List.cons_append]
        repeat' (first | ((with_reducible apply kx_call (f := 7) (cap := [])); exact goesOf Try.func7 (by kernel_rfl) rfl; rfl; rfl; exact (awake22_any _); (exact atks); rintro v' H' ⟨rfl, rfl⟩; all_goals ((try simp only [List.nil_append]); (refine apk ?_))) | ((with_reducible apply kx_call (f := 6) (cap := [])); exact goesOf Try.func6 (by kernel_rfl) rfl; rfl; rfl; exact (hfo); (exact atks); rintro v' H' ⟨⟨s, rfl, hsz⟩, rfl⟩; all_goals ((try simp only [List.nil_append]); (refine apk ?_))) | ((with_reducible apply kx_call (f := 9) (cap := [])); exact goesOf Try.func9 (by kernel_rfl) rfl; rfl; rfl; exact (hof); (exact atks); rintro v' H' ⟨a2, c2, rfl, rfl⟩; all_goals ((try simp only [List.cons_append, List.nil_append]); (refine apk ?_))) | ((with_reducible apply sw_freezeT (A := DocR (.slice a2 fs.length c2) (fs.map docOf))); (with_reducible (exact atk)); intro r2 g2 hr2 hg2 hA2) | (refine aw0 ?_) | (refine ap2 ?_ ?_ <;> first | exact True.intro | intro h) | (refine aw1 ?_) | (refine abx ?_; intro bb) | (refine abz ?_; intro bz) | (refine ahv ?_; intro v' hv') | (refine aac ?_; intro ac cc) | (refine aw2 ?_) | (refine ap4 ?_ ?_ <;> first | exact True.intro | intro h) | (with_reducible refine tr_two ?_ ?_))
        have hD2 : Docs r2 (.slice a2 fs.length c2) (fs.map docOf) := ⟨fun _ => rfl, hA2.sl hg2⟩
        have hp2 := put_any r2 _ _ hD2 hpl hsum
        rw [hdk0] at hp2
        simp only [if_true] at hp2
        repeat' (first | ((with_reducible apply kx_call (f := 11) (cap := [])); exact goesOf Try.func11 (by kernel_rfl) rfl; rfl; rfl; exact (hfl _ hr2); (exact atks); rintro v' H' ⟨rfl, rfl⟩; all_goals ((try simp only [List.nil_append]); (refine apk ?_))) | ((with_reducible apply kx_call (f := 19) (cap := [])); exact goesOf Try.func19 (by kernel_rfl) rfl; rfl; rfl; exact (hp2); (exact atks); rintro v' H' ⟨a3, c3, rfl, rfl⟩; all_goals ((try simp only [List.cons_append, List.nil_append]); (refine apk ?_))) | ((with_reducible apply sw_freezeT (A := U8R (.slice a3 (putBytes (fs.map docOf)).length c3) (putBytes (fs.map docOf)))); (with_reducible (exact atk)); intro r3 g3 hr3 hg3 hA3) | (refine aw0 ?_) | (refine ap2 ?_ ?_ <;> first | exact True.intro | intro h) | (refine aw1 ?_) | (refine abx ?_; intro bb) | (refine abz ?_; intro bz) | (refine ahv ?_; intro v' hv') | (refine aac ?_; intro ac cc) | (refine aw2 ?_) | (refine ap4 ?_ ?_ <;> first | exact True.intro | intro h) | (with_reducible refine tr_two ?_ ?_))
        have hB3 : U8S r3 (.slice a3 (putBytes (fs.map docOf)).length c3) (putBytes (fs.map docOf)) := hA3.sl hg3
        have hg3' := get_any r3 _ _ hB3 (by omega)
        rw [hgo0, hpg] at hg3'
        simp only [if_true] at hg3'
        repeat' (first | ((with_reducible apply kx_call (f := 16) (cap := [])); exact goesOf Try.func16 (by kernel_rfl) rfl; rfl; rfl; exact (hg3'); (exact atks); rintro v' H' ⟨a4, c4, rfl, rfl⟩; all_goals ((try simp only [List.cons_append, List.nil_append]); (refine apk ?_))) | ((with_reducible apply sw_freezeT (A := DocR (.slice a4 (fs.map docOf).length c4) (fs.map docOf))); (with_reducible (exact atk)); intro r4 g4 hr4 hg4 hA4) | (refine aw0 ?_) | (refine ap2 ?_ ?_ <;> first | exact True.intro | intro h) | (refine aw1 ?_) | (refine abx ?_; intro bb) | (refine abz ?_; intro bz) | (refine ahv ?_; intro v' hv') | (refine aac ?_; intro ac cc) | (refine aw2 ?_) | (refine ap4 ?_ ?_ <;> first | exact True.intro | intro h) | (with_reducible refine tr_two ?_ ?_))
        have hD4 : Docs r4 (.slice a4 (fs.map docOf).length c4) (fs.map docOf) := DocR.docs hA4 hg4
        have hr24 : sub r2 r4 := hr3.trans hr4
        have hD24 := hD2.mono hr24
        have hv4 : Files r4 v fs := hv.mono (hr2.trans hr24)
        have hu2 : U8S r2 u b := hu.mono hr2
        have hrt := docsOk_any r4 _ _ hD24 hpl
        rw [hdk0] at hrt
        have hml : (fs.map docOf).length = fs.length := List.length_map _
        obtain ⟨hv5, hb5⟩ := hv4
        repeat' (first | (refine aw0m ?_) | (refine ap2 ?_ ?_ <;> first | exact True.intro | intro h) | ((with_reducible apply kx_call (f := 20) (cap := [])); exact goesOf Try.func20 (by kernel_rfl) rfl; rfl; rfl; exact (hrt); (exact atks); rintro v' H' ⟨rfl, rfl⟩; all_goals ((try simp only [List.nil_append]); (refine apk ?_))) | ((with_reducible apply kx_call (f := 13) (cap := [])); exact goesOf Try.func13 (by kernel_rfl) rfl; rfl; rfl; exact (sameDocs_any _ _ _ _ _ hD4 hD24); (exact atks); rintro v' H' ⟨rfl, rfl⟩; all_goals ((try simp only [List.nil_append]); (refine apk ?_))) | (refine aw1m ?_) | (refine abx ?_; intro bb) | (refine abz ?_; intro bz) | (refine ahv ?_; intro v' hv') | (refine aac ?_; intro ac cc) | (refine aw2 ?_) | (refine ap4 ?_ ?_ <;> first | exact True.intro | intro h) | (with_reducible refine tr_two ?_ ?_))
        clear hfo hof hfl hdk0 hsum hpg hsz0 hgo0 hp2 hA2 hg3' hA3 hB3 hA4 hD4 hrt hl hu hv hb hpl hD2 hg2 hg3 hg4
        have hk0 : ∀ k, k < fs.length → (fs.map docOf).getD k default = docOf (fs.getD k default) := fun k hk => by simp [hk]
        generalize fs.map docOf = ds at hD24 hml hord hk0
        refine sw_loop (fun gm t H' => ∃ k : Nat, gm = fs.length + 1 - k ∧ (k ≤ fs.length) ∧ (∃ G, Takes [] H' G) ∧ (t.length = 173 ∧ t[0]? = some (v) ∧ t[1]? = some (u) ∧ t[5]? = some (.slice a2 fs.length c2) ∧ t[11]? = some (.int .i64 k))) _ ⟨0, rfl, Nat.zero_le _, ⟨[], by (exact atks)⟩, rfl, (by first | rfl | exact congrArg some (congrArg (Value.int _) (by omega)) | (congr 2 <;> omega)), (by first | rfl | exact congrArg some (congrArg (Value.int _) (by omega)) | (congr 2 <;> omega)), (by first | rfl | exact congrArg some (congrArg (Value.int _) (by omega)) | (congr 2 <;> omega)), (by first | rfl | exact congrArg some (congrArg (Value.int _) (by omega)) | (congr 2 <;> omega))⟩ ?_
        rintro gm t H' ⟨k, rfl, hk, ⟨G, hp⟩, hlen, e0, e1, e5, e11⟩
        revert e0 e1 e5 e11; revert t; refine all_len (n := 173) ?_; intro u0 u1 u2 u3 u4 u5 u6 u7 u8 u9 u10 u11 u12 u13 u14 u15 u16 u17 u18 u19 u20 u21 u22 u23 u24 u25 u26 u27 u28 u29 u30 u31 u32 u33 u34 u35 u36 u37 u38 u39 u40 u41 u42 u43 u44 u45 u46 u47 u48 u49 u50 u51 u52 u53 u54 u55 u56 u57 u58 u59 u60 u61 u62 u63 u64 u65 u66 u67 u68 u69 u70 u71 u72 u73 u74 u75 u76 u77 u78 u79 u80 u81 u82 u83 u84 u85 u86 u87 u88 u89 u90 u91 u92 u93 u94 u95 u96 u97 u98 u99 u100 u101 u102 u103 u104 u105 u106 u107 u108 u109 u110 u111 u112 u113 u114 u115 u116 u117 u118 u119 u120 u121 u122 u123 u124 u125 u126 u127 u128 u129 u130 u131 u132 u133 u134 u135 u136 u137 u138 u139 u140 u141 u142 u143 u144 u145 u146 u147 u148 u149 u150 u151 u152 u153 u154 u155 u156 u157 u158 u159 u160 u161 u162 u163 u164 u165 u166 u167 u168 u169 u170 u171 u172 e0 e1 e5 e11; cases e0; cases e1; cases e5; cases e11
        refine sw_takeG hp ?_
        clear hp
        by_cases hlt : k < fs.length
        · have hgd := hk0 k hlt
          have hmem : fs.getD k default ∈ fs := by simp [hlt]
          have hb1 := hb5 _ hmem
          have hlf := fun r' => lof_any r' (bs (fs.getD k default).path) (by rw [bs_size]; exact hs1 _ hmem)
          rw [show (bs (fs.getD k default).path).data.toList = (fs.getD k default).path from rfl] at hlf
          have hfi := find_at hord (k := k) (by omega)
          rw [hgd] at hfi
          have hfd := fun r' (hr : sub r4 r') => find_any r' _ _ (hD24.mono hr) (fs.getD k default).path
          rw [show (docOf (fs.getD k default)).path = (fs.getD k default).path from rfl] at hfi
          rw [hfi] at hfd
          have hk1 : (ds.getD k default).path = (fs.getD k default).path := by rw [hgd]; rfl
          have hk2 : (ds.getD k default).lang = langOf (fs.getD k default).path := by rw [hgd]; rfl
          have hk3 : (ds.getD k default).size = (fs.getD k default).data.length := by rw [hgd]; rfl
          have hsm := fun r' bz (hr : sub r4 r') (h : r' bz = some (.cells [(fs.getD k default).val].toArray 34 (0, 0))) => sum_any r' (.slice (some ⟨bz, 0, none⟩) 1 1) [((fs.getD k default).val, (fs.getD k default).data)] ⟨Sl.lit h rfl (by simp [maxLen]), by simp; exact hb1.mono hr⟩
          have hfl1 : flat [((fs.getD k default).val, (fs.getD k default).data)] = (fs.getD k default).data := by simp [flat]
          have hk4 : (ds.getD k default).sum = inv32 (crcAll 4294967295 (fs.getD k default).data) := by rw [hgd]; rfl
          simp only [hfl1] at hsm
          generalize inv32 (crcAll 4294967295 (fs.getD k default).data) = S at hsm hk4
          generalize langOf (fs.getD k default).path = L at hlf hk2
          clear hfl1 hord hs1 hs hgd hk0 hfi
          repeat' (first | (refine aw0m ?_) | (refine ap2 ?_ ?_ <;> first | exact True.intro | intro h) | (first | ((with_reducible apply sw_draw (id := 16) 65 [(0, true), (1, true), (2, true), (3, true), (4, true), (5, true), (6, true), (7, true), (8, true), (9, true), (10, true), (11, true), (12, true), (13, true), (14, true), (15, true), (16, true), (17, true), (18, true), (19, true), (20, true), (21, true), (22, false), (23, true), (24, true), (25, true), (26, true), (27, true), (28, true), (29, true), (30, true), (31, true), (32, true), (33, true), (34, true), (35, true), (36, true), (37, true), (38, true), (39, true), (40, true), (41, true), (42, true), (43, true), (44, true), (45, true), (46, true), (47, true), (48, true), (49, true), (50, false), (51, false), (52, true), (53, true), (54, true), (55, true), (56, true), (57, true), (58, true), (59, true), (60, true), (62, true), (61, false), (63, true), (64, true)] [] []); kernel_rfl; (exact atks); kernel_rfl; intro r' hl')) | (refine aw1m ?_) | (refine abx ?_; intro bb) | (refine abz ?_; intro bz) | (refine ahv ?_; intro v' hv') | (refine aac ?_; intro ac cc) | (refine aw2 ?_) | (refine ap4 ?_ ?_ <;> first | exact True.intro | intro h) | (with_reducible refine tr_two ?_ ?_))
          all_goals try (exact absurd hk1 h)
          have hr5 : sub r4 r' := hl'.1
          have hv6 := hv5.mono hr5
          have hD6 := hD24.mono hr5
          have hb6 := hb1.mono hr5
          repeat' (first | (refine aw0m ?_) | (refine ap2 ?_ ?_ <;> first | exact True.intro | intro h) | ((with_reducible apply kx_call (f := 21) (cap := [])); exact goesOf Try.func21 (by kernel_rfl) rfl; rfl; rfl; exact (hlf _); (exact atks); rintro v' H' ⟨rfl, rfl⟩; all_goals ((try simp only [List.nil_append]); (refine apk ?_))) | ((with_reducible apply kx_lend [(bz, .cells [(fs.getD k default).val].toArray 34 (0, 0))]); (exact atks); intro r' hl'; (with_reducible apply kx_call (f := 22) (cap := [])); exact goesOf Try.func22 (by kernel_rfl) rfl; rfl; rfl; exact (hsm _ _ (hr5.trans hl'.1) (Lent.h1 hl')); (exact atks); rintro v' H' ⟨rfl, rfl⟩; all_goals ((try simp only [pts, List.map_cons, List.map_nil, List.cons_append, List.nil_append]); (refine apk ?_))) | ((with_reducible apply kx_call (f := 23) (cap := [])); exact goesOf Try.func23 (by kernel_rfl) rfl; rfl; rfl; exact (hfd _ hr5); (exact atks); rintro v' H' ⟨rfl, rfl⟩; all_goals ((try simp only [List.nil_append]); (refine apk ?_))) | (refine aw1m ?_) | (refine abx ?_; intro bb) | (refine abz ?_; intro bz) | (refine ahv ?_; intro v' hv') | (refine aac ?_; intro ac cc) | (refine aw2 ?_) | (refine ap4 ?_ ?_ <;> first | exact True.intro | intro h) | (with_reducible refine tr_two ?_ ?_))
          all_goals try (first | exact absurd hk1 h | exact absurd hk2 h | exact absurd hk3 h)
          exact ⟨_, (by omega), k + 1, rfl, by omega, ⟨_, by (exact atks)⟩, rfl, (by first | rfl | exact congrArg some (congrArg (Value.int _) (by omega)) | (congr 2 <;> omega)), (by first | rfl | exact congrArg some (congrArg (Value.int _) (by omega)) | (congr 2 <;> omega)), (by first | rfl | exact congrArg some (congrArg (Value.int _) (by omega)) | (congr 2 <;> omega)), (by first | rfl | exact congrArg some (congrArg (Value.int _) (by omega)) | (congr 2 <;> omega))⟩
        · obtain rfl : k = fs.length := by omega
          have hg := get_any r2 u b hu2 (by omega)
          cases hgo : getOk b
          · rw [hgo] at hg
            simp only [Bool.false_eq_true, if_false] at hg
            have hpn := put_any r2 (.slice none 0 0) [] ⟨fun _ => rfl, Sl.nil _ _⟩ (fun x hx => by cases hx) (fun x hx => by cases hx)
            rw [show docsOk [] = true from rfl] at hpn
            simp only [if_true] at hpn
            repeat' (first | (refine aw0m ?_) | (refine ap2 ?_ ?_ <;> first | exact True.intro | intro h) | ((with_reducible apply kx_call (f := 16) (cap := [])); exact goesOf Try.func16 (by kernel_rfl) rfl; rfl; rfl; exact (hg); (exact atks); rintro v' H' ⟨rfl, rfl⟩; all_goals ((try simp only [List.nil_append]); (refine apk ?_))) | ((with_reducible apply kx_call (f := 19) (cap := [])); exact goesOf Try.func19 (by kernel_rfl) rfl; rfl; rfl; exact (hpn); (exact atks); rintro v' H' ⟨a8, c8, rfl, rfl⟩; all_goals ((try simp only [List.cons_append, List.nil_append]); (refine apk ?_))) | (refine aw1m ?_) | (refine abx ?_; intro bb) | (refine abz ?_; intro bz) | (refine ahv ?_; intro v' hv') | (refine aac ?_; intro ac cc) | (refine aw2 ?_) | (refine ap4 ?_ ?_ <;> first | exact True.intro | intro h) | (with_reducible refine tr_two ?_ ?_))
            ((with_reducible apply fp_ret); exact res_1 rfl rfl)
            exact HR.out _ _ _ [] (by (exact atks)) ⟨rfl, rfl⟩
          · rw [hgo] at hg
            simp only [if_true] at hg
            obtain ⟨hdk, hdb⟩ := getOk_docs hgo
            repeat' (first | ((with_reducible apply kx_call (f := 16) (cap := [])); exact goesOf Try.func16 (by kernel_rfl) rfl; rfl; rfl; exact (hg); (exact atks); rintro v' H' ⟨a8, c8, rfl, rfl⟩; all_goals ((try simp only [List.cons_append, List.nil_append]); (refine apk ?_))) | ((with_reducible apply sw_freezeT (A := DocR (.slice a8 (getDocs b).1.length c8) (getDocs b).1)); (with_reducible (exact atk)); intro r8 g8 hr8 hg8 hA8) | (refine aw0 ?_) | (refine ap2 ?_ ?_ <;> first | exact True.intro | intro h) | (refine aw1 ?_) | (refine abx ?_; intro bb) | (refine abz ?_; intro bz) | (refine ahv ?_; intro v' hv') | (refine aac ?_; intro ac cc) | (refine aw2 ?_) | (refine ap4 ?_ ?_ <;> first | exact True.intro | intro h) | (with_reducible refine tr_two ?_ ?_))
            have hp8 := put_any r8 _ _ (DocR.docs hA8 hg8) (fun x hx => by have := (hdb x hx).1; omega) (fun x hx => (hdb x hx).2)
            rw [hdk, get_put hgo] at hp8
            simp only [if_true] at hp8
            repeat' (first | ((with_reducible apply kx_call (f := 19) (cap := [])); exact goesOf Try.func19 (by kernel_rfl) rfl; rfl; rfl; exact (hp8); (exact atks); rintro v' H' ⟨a9, c9, rfl, rfl⟩; all_goals ((try simp only [List.cons_append, List.nil_append]); (refine apk ?_))) | ((with_reducible apply sw_freezeT (A := U8R (.slice a9 b.length c9) b)); (with_reducible (exact atk)); intro r9 g9 hr9 hg9 hA9) | (refine aw0 ?_) | (refine ap2 ?_ ?_ <;> first | exact True.intro | intro h) | (refine aw1 ?_) | (refine abx ?_; intro bb) | (refine abz ?_; intro bz) | (refine ahv ?_; intro v' hv') | (refine aac ?_; intro ac cc) | (refine aw2 ?_) | (refine ap4 ?_ ?_ <;> first | exact True.intro | intro h) | (with_reducible refine tr_two ?_ ?_))
            have hB9 : U8S r9 (.slice a9 b.length c9) b := hA9.sl hg9
            have hU9 : U8S r9 u b := (hu2.mono hr8).mono hr9
            repeat' (first | (refine aw0m ?_) | (refine ap2 ?_ ?_ <;> first | exact True.intro | intro h) | ((with_reducible apply kx_call (f := 24) (cap := [])); exact goesOf Try.func24 (by kernel_rfl) rfl; rfl; rfl; exact (sameBytes_any _ _ _ b b hB9 hU9); (exact atks); rintro v' H' ⟨rfl, rfl⟩; all_goals ((try simp only [List.nil_append]); (refine apk ?_))) | (refine aw1m ?_) | (refine abx ?_; intro bb) | (refine abz ?_; intro bz) | (refine ahv ?_; intro v' hv') | (refine aac ?_; intro ac cc) | (refine aw2 ?_) | (refine ap4 ?_ ?_ <;> first | exact True.intro | intro h) | (with_reducible refine tr_two ?_ ?_))
            ((with_reducible apply fp_ret); exact res_1 rfl rfl)
            exact HR.out _ _ _ [] (by (exact atks)) ⟨rfl, rfl⟩
    · refine fn_of_sw Try.func5 rfl _ rfl ?_; simp only [Try.ntmps5, List.length_cons, List.length_nil, Nat.reduceAdd, Nat.reduceSub, List.replicate_succ, List.replicate_zero, List.nil_append, List.cons_append]
      repeat' (first | (refine aw0m ?_) | (refine ap2 ?_ ?_ <;> first | exact True.intro | intro h) | ((with_reducible apply kx_call (f := 7) (cap := [])); exact goesOf Try.func7 (by kernel_rfl) rfl; rfl; rfl; exact (awake22_any _); (exact atks); rintro v' H' ⟨rfl, rfl⟩; all_goals ((try simp only [List.nil_append]); (refine apk ?_))) | ((with_reducible apply kx_call (f := 6) (cap := [])); exact goesOf Try.func6 (by kernel_rfl) rfl; rfl; rfl; exact (hfo); (exact atks); rintro v' H' ⟨⟨s, rfl, hsz⟩, rfl⟩; all_goals ((try simp only [List.nil_append]); (refine apk ?_))) | (refine aw1m ?_) | (refine abx ?_; intro bb) | (refine abz ?_; intro bz) | (refine ahv ?_; intro v' hv') | (refine aac ?_; intro ac cc) | (refine aw2 ?_) | (refine ap4 ?_ ?_ <;> first | exact True.intro | intro h) | (with_reducible refine tr_two ?_ ?_))
      all_goals (((with_reducible apply fp_ret); exact res_1 rfl rfl); exact HR.out _ _ _ [] (by (exact atks)) ⟨rfl, rfl⟩)
  · refine fn_of_sw Try.func5 rfl _ rfl ?_; simp only [Try.ntmps5, List.length_cons, List.length_nil, Nat.reduceAdd, Nat.reduceSub, List.replicate_succ, List.replicate_zero, List.nil_append, List.cons_append]
    repeat' (first | (refine aw0m ?_) | (refine ap2 ?_ ?_ <;> first | exact True.intro | intro h) | ((with_reducible apply kx_call (f := 7) (cap := [])); exact goesOf Try.func7 (by kernel_rfl) rfl; rfl; rfl; exact (awake22_any _); (exact atks); rintro v' H' ⟨rfl, rfl⟩; all_goals ((try simp only [List.nil_append]); (refine apk ?_))) | ((with_reducible apply kx_call (f := 6) (cap := [])); exact goesOf Try.func6 (by kernel_rfl) rfl; rfl; rfl; exact (hfo); (exact atks); rintro v' H' ⟨⟨s, rfl, hsz⟩, rfl⟩; all_goals ((try simp only [List.nil_append]); (refine apk ?_))) | (refine aw1m ?_) | (refine abx ?_; intro bb) | (refine abz ?_; intro bz) | (refine ahv ?_; intro v' hv') | (refine aac ?_; intro ac cc) | (refine aw2 ?_) | (refine ap4 ?_ ?_ <;> first | exact True.intro | intro h) | (with_reducible refine tr_two ?_ ?_))
    all_goals (((with_reducible apply fp_ret); exact res_1 rfl rfl); exact HR.out _ _ _ [] (by (exact atks)) ⟨rfl, rfl⟩)
end Go.Proofs.Ytfgkhkpngnhimaa
