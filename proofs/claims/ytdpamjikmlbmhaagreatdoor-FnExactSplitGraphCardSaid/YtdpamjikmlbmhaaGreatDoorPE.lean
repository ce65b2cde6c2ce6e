/- A part of the proof: texts PgP, PgQ, PgR, PgS, PgT, PgU, PgV, PgW, PgX, PgY, PgZ, PhA, PhB, PhC, PhD, PhE, PhF, PhG, PhH, PhI, PhJ, joined. Conditions: none. -/
import Derived.Test.YtdpamjikmlbmhaaGreatDoorPD
namespace Go.PM
open Go.Lib
variable {cf : CallF} {st : St} {mk : PV → St → Fr × St} {A : Fr × St → Prop} {s : Nat}
theorem put6 {a b c d e f : PV} {vs : List PV} (h : vs.length = 6) : putCells [a, b, c, d, e, f] 0 vs = vs := putCells_all (by rw [h]; rfl)
theorem take6 {vs : List PV} (h : vs.length = 6) : vs.take 6 = vs := List.take_of_length_le (by omega)
theorem kindA {v : V} : partP v.ca 0 1 false = some (I v.kind) := by cases v; rfl
theorem kindB {v : V} : partP v.cb 0 1 false = some (I v.kind) := by cases v; rfl
theorem pthing_some {t : List UInt8} {k : Int} {i j : Nat} {v : V} (hi : i ≤ t.length) (h : pthing t k i = some (v, j)) : v.kind = k ∧ i ≤ j ∧ j ≤ t.length := by
  unfold pthing at h
  simp only [Option.map_eq_some_iff, Prod.mk.injEq] at h
  obtain ⟨⟨n, j'⟩, h1, rfl, rfl⟩ := h
  exact ⟨rfl, pid_le hi h1⟩
theorem pthingA_some {t : List UInt8} {i j : Nat} {v : V} (h : pthingA t i = some (v, j)) : (v.kind = 9 ∧ cI t i = 101 ∧ pthing t 9 (i + 1) = some (v, j) ∨ v.kind = 8 ∧ cI t i = 110 ∧ pthing t 8 (i + 1) = some (v, j)) ∧ i < j ∧ j ≤ t.length := by
  unfold pthingA at h
  split at h
  · rename_i hc
    have hlt := cI_in (show cI t i ≠ 0 by rw [hc]; decide)
    obtain ⟨h1, h2, h3⟩ := pthing_some hlt h
    exact ⟨.inl ⟨h1, hc, h⟩, h2, h3⟩
  · split at h
    · rename_i hc
      have hlt := cI_in (show cI t i ≠ 0 by rw [hc]; decide)
      obtain ⟨h1, h2, h3⟩ := pthing_some hlt h
      exact ⟨.inr ⟨h1, hc, h⟩, h2, h3⟩
    · cases h
theorem app_len {vs : List V} {v : V} : (vs ++ [v]).length = vs.length + 1 := by simp
theorem path_in {t : List UInt8} {n j : Nat} {node : Bool} {acc : List V} (hn : 0 < n) : pathGo t n node j acc =
    if cI t j = (if node then 110 else 101) then match pthing t (if node then 8 else 9) (j + 1) with
      | some (v, j) =>
        if node = true ∧ cI t j = 62 then some (.mk 10 0 0 [] [] (acc ++ [v]), j + 1)
        else if cI t j = 32 then pathGo t (n - 1) (!node) (j + 1) (acc ++ [v])
        else none
      | none => none
    else none := by
  obtain ⟨m, rfl⟩ : ∃ m, n = m + 1 := ⟨n - 1, by omega⟩
  rw [pathGo]; rfl
def wantK (node : Bool) : Int := if node then 8 else 9
theorem path_val {acc : List V} {v : V} : PV.agg [I 10, I 0, I 0, S [], .list 0 [] .no, .list (acc.length + 1) (V.cas (acc ++ [v])) .no] = VA (.mk 10 0 0 [] [] (acc ++ [v])) := by
  rw [VA, V.ca, app_len]; rfl
set_option maxHeartbeats 2000000 in
theorem c_path (K : Env cf) {t : List UInt8} {i : Nat} (hs : st.objs s = some [S t, I i]) (hi : i ≤ t.length) (hl : t.length ≤ 2000000) (h60 : cI t i = 60) :
    ∃ r c', OutI t VA (ppath t (i + 1)) is6 r c' ∧ ∃ fl, callP cf 225 [.ptr s 0] [] st = some (r, setF (setO st s c') fl) := by
  refine c_ptrE K.tab (F := F225) rfl rfl rfl (lb rfl) (lb rfl) (by simp) hs (plainVs_rd t i) (t.length + 1) ?_
  unfold F225 qr qd qm qi qc qk ql qf qo qe qN
  have hlt := cI_in (show cI t i ≠ 0 by rw [h60]; decide)
  simp (disch := omega) only [↓pa, ↓pmx, pb, pmy, ↓reduceIte, Nat.reduceEqDiff, Nat.reduceAdd, Nat.reduceLeDiff, reduceCtorEq]
  refine (rt_eat1 K (t := t) (i := i) 60 rfl (by decide) (by simp only [pb, ↓reduceIte, reduceCtorEq]) hi hl).2 ?_
  simp (disch := omega) only [↓pa, pb, ↓reduceIte, h60]
  refine Wp_rounds (fun k fr st => ∃ (j n : Nat) (node : Bool) (acc : List V) (tok : Tok), k = t.length - j ∧ j ≤ t.length ∧ acc.length ≤ j ∧ t.length - j < n ∧ fr 0 = .ptr 0 0 ∧ fr 2 = .ptr 2 0 ∧ fr 4 = .ptr 4 0 ∧ fr 5 = I (wantK node) ∧ st.objs 0 = some [S t, I j] ∧ st.objs 2 = some [I 0, I 0, I 0, S [], .list 0 [] .nil, .list 0 [] .nil] ∧
    st.objs 4 = some [I 10, I 0, I 0, S [], .list 0 [] .nil, .list acc.length (V.cas acc) tok] ∧ Gr 204 st.nx st.cnt acc.length tok ∧ pathGo t n node j acc = ppath t (i + 1)) (t.length - (i + 1)) (by omega)
    ⟨i + 1, t.length + 1 - (i + 1), true, [], .nil, rfl, by omega, Nat.zero_le _, by omega, by simp (disch := omega) only [↓pa, pb, ↓reduceIte, reduceCtorEq], by simp (disch := omega) only [↓pa, pb, ↓reduceIte, Nat.reduceEqDiff], by simp (disch := omega) only [↓pa, ↓reduceIte, Nat.reduceEqDiff], by simp (disch := omega) only [↓pa, ↓reduceIte]; rfl, by simp (disch := omega) only [pb, ↓reduceIte], by simp (disch := omega) only [pb, ↓reduceIte, Nat.reduceEqDiff, reduceCtorEq], by simp (disch := omega) only [pb, ↓reduceIte, reduceCtorEq]; rfl, rfl, rfl⟩ ?_
  rintro k fr st ⟨j, n, node, acc, tok, rfl, hj, hacc, hn, f0, f2, f4, f5, o0, o2, o4, hG, hQ⟩
  rw [path_in (by omega)] at hQ
  simp (disch := omega) only [↓pa, pb, ↓reduceIte, f0]
  refine RunsTo_I (c_thing K (t := t) (i := j) (by simp only [o0]) hj hl) (fun v j1 fl hv hj1 => ?_) (fun p j1 fl hv hp hj1 => ?_)
  rotate_left
  · obtain ⟨cs, rfl, hcs, hcn, hct⟩ := hp
    have hno : ppath t (i + 1) = none := by
      rw [← hQ]
      unfold pthingA at hv
      cases node
      · simp only [Bool.false_eq_true, if_false]
        by_cases hc : cI t j = 101
        · rw [if_pos hc] at hv
          rw [if_pos hc, hv]
        · rw [if_neg hc]
      · simp only [if_true]
        by_cases hc : cI t j = 110
        · rw [if_neg (by omega), if_pos hc] at hv
          rw [if_pos hc, hv]
        · rw [if_neg hc]
    simp (disch := omega) only [↓pa, pb, pmy, pmz, pmV, List.getElem?_cons_zero, List.getElem?_cons_succ, ↓reduceIte, Nat.reduceEqDiff, Nat.reduceAdd, Nat.reduceLeDiff, reduceCtorEq, f2, f4, o2, o4, hcs, put6]
    exact OutI_none hno ⟨_, rfl, rfl, by simp only [pmz, pmV, Bool.and_self], by simp only [pmz, pmV]⟩ rfl rfl hj1
  obtain ⟨hk, hlt1, -⟩ := pthingA_some hv
  have hvl := v.ca_len
  by_cases hw : v.kind = wantK node
  rotate_left
  · have hno : ppath t (i + 1) = none := by
      rw [← hQ, if_neg]
      intro hc
      apply hw
      cases node
      · have hc : cI t j = 101 := hc
        rcases hk with ⟨h1, -⟩ | ⟨-, h2, -⟩
        · exact h1
        · omega
      · have hc : cI t j = 110 := hc
        rcases hk with ⟨-, h2, -⟩ | ⟨h1, -⟩
        · omega
        · exact h1
    simp (disch := omega) only [↓pa, pb, pmy, pmz, pmV, List.getElem?_cons_zero, List.getElem?_cons_succ, ↓reduceIte, Nat.reduceEqDiff, Nat.reduceAdd, Nat.reduceLeDiff, ne_eq, reduceCtorEq, f2, f4, f5, o2, o4, hvl, put6, kindA, hw]
    exact OutI_none hno ⟨_, rfl, rfl, by simp only [pmz, pmV, Bool.and_self], by simp only [pmz, pmV]⟩ rfl rfl hj1
  have hstep : ppath t (i + 1) = if node = true ∧ cI t j1 = 62 then some (.mk 10 0 0 [] [] (acc ++ [v]), j1 + 1) else if cI t j1 = 32 then pathGo t (n - 1) (!node) (j1 + 1) (acc ++ [v]) else none := by
    rw [← hQ]
    cases node
    · rcases hk with ⟨h1, h2, h3⟩ | ⟨h1, h2, h3⟩
      · rw [if_pos (by exact h2)]; simp only [Bool.false_eq_true, if_false]; rw [h3]
      · rw [h1] at hw; exact absurd hw (by decide)
    · rcases hk with ⟨h1, h2, h3⟩ | ⟨h1, h2, h3⟩
      · rw [h1] at hw; exact absurd hw (by decide)
      · rw [if_pos (by exact h2)]; simp only [if_true]; rw [h3]
  clear hQ
  simp (disch := omega) only [↓pa, ↓pmx, pb, pmy, List.getElem?_cons_zero, List.getElem?_cons_succ, ↓reduceIte, Nat.reduceEqDiff, Nat.reduceAdd, Nat.reduceLeDiff, Nat.reduceLT, ne_eq, reduceCtorEq, f4, f5, o4, hvl, put6, take6, kindA, hw]
  refine RunsTo_app (n := acc.length) (m := 1) hG (by rw [V.cas_len]) (by rw [hvl]) (by omega) (by omega) (by decide) ?_
  rw [V.cas_snoc]
  have hw8 : wantK true = 8 := rfl
  have hw9 : wantK false = 9 := rfl
  cases node
  · rw [if_neg (by simp)] at hstep
    simp (disch := omega) only [↓pa, pb, pmy, ↓reduceIte, Nat.reduceEqDiff, Nat.reduceAdd, Nat.reduceLeDiff, Int.reduceEq, reduceCtorEq, f0, f4, f5, o4, hw9]
    refine (rt_eat1 K (t := t) (i := j1) 32 rfl (by decide) (by simp only [pb, pmy, ↓reduceIte, reduceCtorEq]) hj1 hl).2 ?_
    refine Cnd_intro (fun h32 => ?_) (fun h32 => ?_)
    · rw [if_pos h32] at hstep
      have hjl := cI_in (show cI t j1 ≠ 0 by rw [h32]; decide)
      simp (disch := omega) only [↓pa, pb, pmy, ↓reduceIte, Nat.reduceEqDiff, reduceCtorEq, f0, f2, f4, f5, o2, hw9]
      exact ⟨t.length - (j1 + 1), by omega, j1 + 1, n - 1, true, acc ++ [v], _, rfl, by omega, by rw [app_len]; omega, by omega, rfl, rfl, by rw [app_len], by rw [app_len]; exact Gr_app hG, hstep.symm⟩
    · rw [if_neg h32] at hstep
      simp (disch := omega) only [↓pa, pb, pmy, pmz, pmV, ↓reduceIte, Nat.reduceEqDiff, Nat.reduceAdd, Nat.reduceLeDiff, reduceCtorEq, f2, f4, o2]
      exact OutI_none hstep ⟨_, rfl, rfl, by simp only [pmz, pmV, Bool.and_self], by simp only [pmz, pmV]⟩ rfl rfl hj1
  · simp (disch := omega) only [↓pa, pb, pmy, ↓reduceIte, Nat.reduceEqDiff, Nat.reduceAdd, Nat.reduceLeDiff, reduceCtorEq, f0, f4, f5, o4, hw8]
    refine (rt_eat1 K (t := t) (i := j1) 62 rfl (by decide) (by simp only [pb, pmy, ↓reduceIte, reduceCtorEq]) hj1 hl).2 ?_
    refine Cnd_intro (fun h62 => ?_) (fun h62 => ?_)
    · rw [if_pos ⟨rfl, h62⟩] at hstep
      have hjl := cI_in (show cI t j1 ≠ 0 by rw [h62]; decide)
      simp (disch := omega) only [↓pa, pb, pmy, pmz, pmV, ↓reduceIte, Nat.reduceEqDiff, Nat.reduceAdd, Nat.reduceLeDiff, reduceCtorEq, f2, f4, o2]
      rw [path_val]
      exact OutI_val hstep rfl rfl hjl
    rw [if_neg fun h => h62 h.2] at hstep
    simp (disch := omega) only [↓pa, pb, ↓reduceIte, Nat.reduceEqDiff, reduceCtorEq, f0]
    refine (rt_eat1 K (t := t) (i := j1) 32 rfl (by decide) (by simp only [pb, pmy, ↓reduceIte, reduceCtorEq]) hj1 hl).2 ?_
    refine Cnd_intro (fun h32 => ?_) (fun h32 => ?_)
    · rw [if_pos h32] at hstep
      have hjl := cI_in (show cI t j1 ≠ 0 by rw [h32]; decide)
      simp (disch := omega) only [↓pa, pb, pmy, ↓reduceIte, Nat.reduceEqDiff, reduceCtorEq, f0, f2, f4, f5, o2, hw8]
      exact ⟨t.length - (j1 + 1), by omega, j1 + 1, n - 1, false, acc ++ [v], _, rfl, by omega, by rw [app_len]; omega, by omega, rfl, rfl, by rw [app_len], by rw [app_len]; exact Gr_app hG, hstep.symm⟩
    · rw [if_neg h32] at hstep
      simp (disch := omega) only [↓pa, pb, pmy, pmz, pmV, ↓reduceIte, Nat.reduceEqDiff, Nat.reduceAdd, Nat.reduceLeDiff, reduceCtorEq, f2, f4, o2]
      exact OutI_none hstep ⟨_, rfl, rfl, by simp only [pmz, pmV, Bool.and_self], by simp only [pmz, pmV]⟩ rfl rfl hj1
theorem pint_mono {t : List UInt8} {i j : Nat} {n : Int} (h : pint t i = some (n, j)) : i ≤ j := by
  unfold pint at h
  simp only [Option.map_eq_some_iff, Prod.mk.injEq] at h
  obtain ⟨_, _, _, rfl⟩ := h
  split
  · exact Nat.le_of_succ_le (skip_ge _ _ _)
  · exact skip_ge _ _ _
theorem pthing_mono {t : List UInt8} {k : Int} {i j : Nat} {v : V} (h : pthing t k i = some (v, j)) : i ≤ j := by
  unfold pthing pid at h
  simp only [Option.map_eq_some_iff, Prod.mk.injEq] at h
  obtain ⟨⟨n, j'⟩, h1, rfl, rfl⟩ := h
  split at h1
  · rename_i hp
    split at h1
    · cases h1; exact pint_mono hp
    · cases h1
  · cases h1
theorem quotedGo_mono {t : List UInt8} : ∀ (n i : Nat) (acc : List UInt8) {r : List UInt8} {j : Nat}, quotedGo t n i acc = some (r, j) → i ≤ j
  | 0, _, _, _, _, h => by cases h
  | n + 1, i, acc, r, j, h => by
    have ih := fun i acc => quotedGo_mono (t := t) n i acc (r := r) (j := j)
    rw [quotedGo] at h
    repeat' split at h
    all_goals first
      | (cases h; done)
      | (have := ih _ _ h; omega)
      | (cases h; omega)
theorem pathGo_mono {t : List UInt8} : ∀ (n : Nat) (node : Bool) (i : Nat) (acc : List V) {v : V} {j : Nat}, pathGo t n node i acc = some (v, j) → i ≤ j
  | 0, _, _, _, _, _, h => by cases h
  | n + 1, node, i, acc, v, j, h => by
    have ih := fun node i acc => pathGo_mono (t := t) n node i acc (v := v) (j := j)
    rw [pathGo] at h
    by_cases hc : cI t i = (if node then 110 else 101)
    · rw [if_pos hc] at h
      cases hv : pthing t (if node then 8 else 9) (i + 1) with
      | none => rw [hv] at h; cases h
      | some q =>
        obtain ⟨w, j1⟩ := q
        rw [hv] at h
        simp only at h
        have := pthing_mono hv
        split at h
        · cases h; omega
        · split at h
          · have := ih _ _ _ h; omega
          · cases h
    · rw [if_neg hc] at h; cases h
theorem listGo_mono {t : List UInt8} {rd : Nat → Option (V × Nat)} (hr : ∀ i v j, rd i = some (v, j) → i ≤ j) : ∀ (n i : Nat) (acc : List V) {v : V} {j : Nat}, listGo t rd n i acc = some (v, j) → i ≤ j
  | 0, _, _, _, _, h => by cases h
  | n + 1, i, acc, v, j, h => by
    have ih := fun i acc => listGo_mono (t := t) hr n i acc (v := v) (j := j)
    rw [listGo] at h
    split at h
    · rename_i hv
      have := hr _ _ _ hv
      split at h
      · cases h; omega
      · split at h
        · have := ih _ _ h; omega
        · cases h
    · cases h
theorem pname_mono {t : List UInt8} {i j : Nat} {l : List UInt8} (h : pname t i = some (l, j)) : i ≤ j := by
  unfold pname at h
  split at h
  · cases h; exact skip_ge _ _ _
  · cases h
theorem mapGo_mono {t : List UInt8} {rd : Nat → Option (V × Nat)} (hr : ∀ i v j, rd i = some (v, j) → i ≤ j) : ∀ (n i : Nat) (ns : List (List UInt8)) (acc : List V) {v : V} {j : Nat}, mapGo t rd n i ns acc = some (v, j) → i ≤ j
  | 0, _, _, _, _, _, h => by cases h
  | n + 1, i, ns, acc, v, j, h => by
    have ih := fun i ns acc => mapGo_mono (t := t) hr n i ns acc (v := v) (j := j)
    rw [mapGo] at h
    split at h
    · rename_i hn
      have h1 := pname_mono hn
      split at h
      · split at h
        · rename_i hv
          have h2 := hr _ _ _ hv
          split at h
          · split at h
            · cases h; omega
            · cases h
          · split at h
            · have := ih _ _ _ h; omega
            · cases h
        · cases h
      · cases h
    · cases h
theorem pbody_mono {t : List UInt8} {o : Option (Nat → Option (V × Nat))} (hr : ∀ rd, o = some rd → ∀ i v j, rd i = some (v, j) → i ≤ j) {i : Nat} {v : V} {j : Nat} (h : pbody t o i = some (v, j)) : i ≤ j := by
  unfold pbody at h
  by_cases c1 : cI t i = 34
  · rw [if_pos c1] at h
    simp only [Option.map_eq_some_iff, Prod.mk.injEq] at h
    obtain ⟨⟨l, j'⟩, h1, _, rfl⟩ := h
    have := quotedGo_mono _ _ _ h1
    show i ≤ j'
    omega
  rw [if_neg c1] at h
  by_cases c2 : cI t i = 64
  · rw [if_pos c2] at h
    simp only [Option.map_eq_some_iff, Prod.mk.injEq] at h
    obtain ⟨⟨l, j'⟩, h1, _, rfl⟩ := h
    unfold pdate at h1
    split at h1
    · split at h1
      · simp only [Option.map_eq_some_iff, Prod.mk.injEq] at h1
        obtain ⟨_, _, _, h2⟩ := h1
        show i ≤ j'
        omega
      · cases h1
    · cases h1
  rw [if_neg c2] at h
  by_cases c3 : cI t i = 45 ∨ isD (cI t i) = true
  · rw [if_pos c3] at h
    simp only [Option.map_eq_some_iff, Prod.mk.injEq] at h
    obtain ⟨⟨l, j'⟩, h1, _, rfl⟩ := h
    exact pint_mono h1
  rw [if_neg c3] at h
  by_cases c4 : cI t i = 40
  · rw [if_pos c4] at h
    unfold ppoint at h
    split at h
    · rename_i h1
      have := pint_mono h1
      split at h
      · split at h
        · rename_i h2
          have := pint_mono h2
          split at h
          · cases h; omega
          · cases h
        · cases h
      · cases h
    · cases h
  rw [if_neg c4] at h
  by_cases c5 : cI t i = 91
  · rw [if_pos c5] at h
    cases o with
    | none => cases h
    | some rd =>
      change plist t rd (i + 1) = some (v, j) at h
      unfold plist at h
      split at h
      · cases h; omega
      · have := listGo_mono (hr _ rfl) _ _ _ h; omega
  rw [if_neg c5] at h
  by_cases c6 : cI t i = 123
  · rw [if_pos c6] at h
    cases o with
    | none => cases h
    | some rd =>
      change pmap t rd (i + 1) = some (v, j) at h
      unfold pmap at h
      split at h
      · cases h; omega
      · have := mapGo_mono (hr _ rfl) _ _ _ _ h; omega
  rw [if_neg c6] at h
  by_cases c7 : cI t i = 60
  · rw [if_pos c7] at h
    have := pathGo_mono _ _ _ _ h; omega
  rw [if_neg c7] at h
  by_cases c8 : tk t i [110, 117, 108, 108] = true
  · rw [if_pos c8] at h; cases h; omega
  rw [if_neg c8] at h
  by_cases c9 : tk t i [116, 114, 117, 101] = true
  · rw [if_pos c9] at h; cases h; omega
  rw [if_neg c9] at h
  by_cases c10 : tk t i [102, 97, 108, 115, 101] = true
  · rw [if_pos c10] at h; cases h; omega
  rw [if_neg c10] at h
  by_cases c11 : cI t i = 110
  · rw [if_pos c11] at h
    have := pthing_mono h; omega
  rw [if_neg c11] at h
  by_cases c12 : cI t i = 101
  · rw [if_pos c12] at h
    have := pthing_mono h; omega
  rw [if_neg c12] at h
  cases h
theorem pval_mono {t : List UInt8} : ∀ (b i : Nat) (v : V) (j : Nat), pval t b i = some (v, j) → i ≤ j
  | 0, i, v, j, h => pbody_mono (fun rd h => by cases h) (show pbody t none i = some (v, j) from h)
  | b + 1, i, v, j, h => pbody_mono (fun rd h => by cases h; exact pval_mono b) (show pbody t (some (pval t b)) i = some (v, j) from h)
def ValOk (cf : CallF) (t : List UInt8) (b : Nat) : Prop := ∀ (st : St) (s i : Nat), st.objs s = some [S t, I i] → i ≤ t.length →
  ∃ r c', OutI t VA (pval t b i) is6 r c' ∧ ∃ fl, callP cf 201 [.ptr s 0, I (5 - (b : Int))] [] st = some (r, setF (setO st s c') fl)
theorem list_in {t : List UInt8} {rd : Nat → Option (V × Nat)} {n j : Nat} {acc : List V} (hn : 0 < n) : listGo t rd n j acc = match rd j with
    | some (v, j) =>
      if cI t j = 93 then some (.mk 6 0 0 [] [] (acc ++ [v]), j + 1)
      else if cI t j = 44 then listGo t rd (n - 1) (j + 1) (acc ++ [v])
      else none
    | none => none := by
  obtain ⟨m, rfl⟩ : ∃ m, n = m + 1 := ⟨n - 1, by omega⟩
  rw [listGo]; rfl
theorem list_val {acc : List V} {v : V} : PV.agg [I 6, I 0, I 0, S [], .list 0 [] .no, .list (acc.length + 1) (V.cas (acc ++ [v])) .no] = VA (.mk 6 0 0 [] [] (acc ++ [v])) := by
  rw [VA, V.ca, app_len]; rfl
set_option maxHeartbeats 2000000 in
theorem c_list0 (K : Env cf) {t : List UInt8} {i : Nat} (hs : st.objs s = some [S t, I i]) (hi : i ≤ t.length) (hl : t.length ≤ 2000000) (h91 : cI t i = 91) :
    ∃ r c', OutI t VA none is6 r c' ∧ ∃ fl, callP cf 223 [.ptr s 0, I 5] [] st = some (r, setF (setO st s c') fl) := by
  refine c_ptrE K.tab (F := F223) rfl rfl rfl (lb rfl) (lb rfl) (by simp [plainV_int]) hs (plainVs_rd t i) 1 ?_
  unfold F223 qr qd qm qc qk ql qf qo qe qN
  have hlt := cI_in (show cI t i ≠ 0 by rw [h91]; decide)
  simp (disch := omega) only [↓pa, ↓pmx, pb, pmy, ↓reduceIte, Nat.reduceEqDiff, Nat.reduceAdd, Nat.reduceLeDiff, reduceCtorEq]
  refine (rt_eat1 K (t := t) (i := i) 91 rfl (by decide) (by simp only [pb, ↓reduceIte, reduceCtorEq]) hi hl).2 ?_
  simp (disch := omega) only [↓pa, pb, pmy, ↓reduceIte, Nat.reduceEqDiff, Nat.reduceAdd, Nat.reduceLeDiff, reduceCtorEq, h91]
  simp (disch := omega) only [↓pa, pb, pmy, pmz, ↓reduceIte, Nat.reduceEqDiff, Nat.reduceAdd, Nat.reduceLeDiff, reduceCtorEq]
  exact OutI_none rfl ⟨_, rfl, rfl, by simp only [pmz, Bool.and_self], by simp only [pmz]⟩ rfl rfl hlt
set_option maxHeartbeats 2000000 in
theorem c_list (K : Env cf) {t : List UInt8} {i b : Nat} (hs : st.objs s = some [S t, I i]) (hi : i ≤ t.length) (hl : t.length ≤ 2000000) (hb : b < 5) (h91 : cI t i = 91) (ih : ValOk cf t b) :
    ∃ r c', OutI t VA (plist t (pval t b) (i + 1)) is6 r c' ∧ ∃ fl, callP cf 223 [.ptr s 0, I (5 - ((b + 1 : Nat) : Int))] [] st = some (r, setF (setO st s c') fl) := by
  refine c_ptrE K.tab (F := F223) rfl rfl rfl (lb rfl) (lb rfl) (by simp [plainV_int]) hs (plainVs_rd t i) (t.length + 1) ?_
  unfold F223 qr qd qm qc qk ql qf qo qe qN
  have hlt := cI_in (show cI t i ≠ 0 by rw [h91]; decide)
  have hd5 : ¬ (5 - ((b + 1 : Nat) : Int) = 5) := by omega
  have hdd : 5 - ((b + 1 : Nat) : Int) + 1 = 5 - (b : Int) := by omega
  revert hd5 hdd
  generalize hdp : 5 - ((b + 1 : Nat) : Int) = dp
  intro hd5 hdd
  simp (disch := omega) only [↓pa, ↓pmx, pb, pmy, ↓reduceIte, Nat.reduceEqDiff, Nat.reduceAdd, Nat.reduceLeDiff, reduceCtorEq]
  refine (rt_eat1 K (t := t) (i := i) 91 rfl (by decide) (by simp only [pb, ↓reduceIte, reduceCtorEq]) hi hl).2 ?_
  simp (disch := omega) only [↓pa, pb, ↓reduceIte, Nat.reduceEqDiff, reduceCtorEq, h91, hd5]
  refine (rt_eat1 K (t := t) (i := i + 1) 93 rfl (by decide) (by simp only [pb, ↓reduceIte]) hlt hl).2 ?_
  refine Cnd_intro (fun h93 => ?_) (fun h93 => ?_)
  · have hlt2 := cI_in (show cI t (i + 1) ≠ 0 by rw [h93]; decide)
    simp (disch := omega) only [↓pa, pb, pmy, pmz, ↓reduceIte, Nat.reduceEqDiff, Nat.reduceAdd, Nat.reduceLeDiff, reduceCtorEq]
    exact OutI_val (by rw [plist, if_pos h93]) (by rfl) rfl hlt2
  have hP : plist t (pval t b) (i + 1) = listGo t (pval t b) (t.length + 1 - (i + 1)) (i + 1) [] := by rw [plist, if_neg h93]
  simp (disch := omega) only [↓pa, pb, ↓reduceIte]
  refine Wp_rounds (fun k fr st => ∃ (j n : Nat) (acc : List V) (tok : Tok), k = t.length - j ∧ j ≤ t.length ∧ acc.length ≤ j ∧ t.length - j < n ∧ fr 0 = .ptr 0 0 ∧ fr 1 = I dp ∧ fr 4 = .ptr 4 0 ∧ fr 6 = .ptr 6 0 ∧ st.objs 0 = some [S t, I j] ∧ st.objs 4 = some [I 0, I 0, I 0, S [], .list 0 [] .nil, .list 0 [] .nil] ∧
    st.objs 6 = some [I 6, I 0, I 0, S [], .list 0 [] .nil, .list acc.length (V.cas acc) tok] ∧ Gr 204 st.nx st.cnt acc.length tok ∧ listGo t (pval t b) n j acc = plist t (pval t b) (i + 1)) (t.length - (i + 1)) (by omega)
    ⟨i + 1, t.length + 1 - (i + 1), [], .nil, rfl, by omega, Nat.zero_le _, by omega, by simp (disch := omega) only [↓pa, pb, ↓reduceIte, reduceCtorEq], by simp (disch := omega) only [↓pa, pb, ↓reduceIte, Nat.reduceEqDiff], by simp (disch := omega) only [↓pa, pb, ↓reduceIte, Nat.reduceEqDiff], by simp (disch := omega) only [↓pa, ↓reduceIte, Nat.reduceEqDiff], by simp (disch := omega) only [pb, ↓reduceIte], by simp (disch := omega) only [pb, ↓reduceIte, Nat.reduceEqDiff, reduceCtorEq], by simp (disch := omega) only [pb, ↓reduceIte, reduceCtorEq]; rfl, rfl, hP.symm⟩ ?_
  rintro k fr st ⟨j, n, acc, tok, rfl, hj, hacc, hn, f0, f1, f4, f6, o0, o4, o6, hG, hQ⟩
  rw [list_in (by omega)] at hQ
  simp (disch := omega) only [↓pa, pb, ↓reduceIte, Nat.reduceEqDiff, f0, f1, hdd]
  refine RunsTo_I (ih _ 0 j (by simp only [o0]) hj) (fun v j1 fl hv hj1 => ?_) (fun p j1 fl hv hp hj1 => ?_)
  rotate_left
  · obtain ⟨cs, rfl, hcs, hcn, hct⟩ := hp
    rw [hv] at hQ
    simp (disch := omega) only [↓pa, pb, pmy, pmz, pmV, List.getElem?_cons_zero, List.getElem?_cons_succ, ↓reduceIte, Nat.reduceEqDiff, Nat.reduceAdd, Nat.reduceLeDiff, reduceCtorEq, f4, f6, o4, o6, hcs, put6]
    exact OutI_none hQ.symm ⟨_, rfl, rfl, by simp only [pmz, pmV, Bool.and_self], by simp only [pmz, pmV]⟩ rfl rfl hj1
  have hm := pval_mono _ _ _ _ hv
  have hvl := v.ca_len
  rw [hv] at hQ
  simp only at hQ
  simp (disch := omega) only [↓pa, ↓pmx, pb, pmy, List.getElem?_cons_zero, List.getElem?_cons_succ, ↓reduceIte, Nat.reduceEqDiff, Nat.reduceAdd, Nat.reduceLeDiff, Nat.reduceLT, reduceCtorEq, f6, o6, hvl, put6, take6]
  refine RunsTo_app (n := acc.length) (m := 1) hG (by rw [V.cas_len]) (by rw [hvl]) (by omega) (by omega) (by decide) ?_
  rw [V.cas_snoc]
  simp (disch := omega) only [↓pa, pb, pmy, ↓reduceIte, Nat.reduceEqDiff, Nat.reduceAdd, Nat.reduceLeDiff, reduceCtorEq, f0, f6, o6]
  refine (rt_eat1 K (t := t) (i := j1) 93 rfl (by decide) (by simp only [pb, pmy, ↓reduceIte, reduceCtorEq]) hj1 hl).2 ?_
  refine Cnd_intro (fun h1 => ?_) (fun h1 => ?_)
  · rw [if_pos h1] at hQ
    have hjl := cI_in (show cI t j1 ≠ 0 by rw [h1]; decide)
    simp (disch := omega) only [↓pa, pb, pmy, pmz, pmV, ↓reduceIte, Nat.reduceEqDiff, Nat.reduceAdd, Nat.reduceLeDiff, reduceCtorEq, f4, f6, o4]
    rw [list_val]
    exact OutI_val hQ.symm rfl rfl hjl
  rw [if_neg h1] at hQ
  simp (disch := omega) only [↓pa, pb, ↓reduceIte, reduceCtorEq, f0]
  refine (rt_eat1 K (t := t) (i := j1) 44 rfl (by decide) (by simp only [pb, pmy, ↓reduceIte, reduceCtorEq]) hj1 hl).2 ?_
  refine Cnd_intro (fun h2 => ?_) (fun h2 => ?_)
  · rw [if_pos h2] at hQ
    have hjl := cI_in (show cI t j1 ≠ 0 by rw [h2]; decide)
    simp (disch := omega) only [↓pa, pb, pmy, ↓reduceIte, Nat.reduceEqDiff, reduceCtorEq, f0, f1, f4, f6, o4]
    exact ⟨t.length - (j1 + 1), by omega, j1 + 1, n - 1, acc ++ [v], _, rfl, by omega, by rw [app_len]; omega, by omega, rfl, by rw [app_len], by rw [app_len]; exact Gr_app hG, hQ⟩
  · rw [if_neg h2] at hQ
    simp (disch := omega) only [↓pa, pb, pmy, pmz, pmV, ↓reduceIte, Nat.reduceEqDiff, Nat.reduceAdd, Nat.reduceLeDiff, reduceCtorEq, f4, f6, o4]
    exact OutI_none hQ.symm ⟨_, rfl, rfl, by simp only [pmz, pmV, Bool.and_self], by simp only [pmz, pmV]⟩ rfl rfl hj1
theorem tAt_old {ns : List (List UInt8)} {x : List UInt8} {i : Nat} (h : i < ns.length) : tAt (ns ++ [x]) i = tAt ns i := by
  unfold tAt
  rw [List.getD_eq_getElem?_getD, List.getD_eq_getElem?_getD, List.getElem?_append_left h]
theorem tAt_new {ns : List (List UInt8)} {x : List UInt8} : tAt (ns ++ [x]) ns.length = x := by
  unfold tAt
  rw [List.getD_eq_getElem?_getD]; simp
theorem rising_snoc (ns : List (List UInt8)) (x : List UInt8) : rising (ns ++ [x]) = (rising ns && (decide (ns.length = 0) || sLt (tAt ns (ns.length - 1)) x)) := by
  have hlen : (ns ++ [x]).length = ns.length + 1 := by simp
  have hold : ∀ i, i < ns.length → rises (ns ++ [x]) i = rises ns i := fun i hi => by
    unfold rises
    rw [tAt_old hi]
    by_cases h0 : i = 0
    · simp [h0]
    · rw [tAt_old (show i - 1 < ns.length by omega)]
  have hnew : rises (ns ++ [x]) ns.length = (decide (ns.length = 0) || sLt (tAt ns (ns.length - 1)) x) := by
    unfold rises
    rw [tAt_new]
    by_cases h0 : ns.length = 0
    · simp [h0]
    · rw [tAt_old (show ns.length - 1 < ns.length by omega)]
  rw [Bool.eq_iff_iff, Bool.and_eq_true, rising, rising, hlen, alln_iff, alln_iff, ← hnew]
  constructor
  · intro h
    exact ⟨fun j hj => by rw [← hold j hj]; exact h j (by omega), h _ (by omega)⟩
  · rintro ⟨h1, h2⟩ j hj
    by_cases hjn : j = ns.length
    · rw [hjn]; exact h2
    · rw [hold j (by omega)]; exact h1 j (by omega)
theorem rising_part {ns : List (List UInt8)} {x : List UInt8} (h : rising ns = false) : rising (ns ++ [x]) = false := by rw [rising_snoc, h]; rfl
theorem map_in {t : List UInt8} {rd : Nat → Option (V × Nat)} {n j : Nat} {ns : List (List UInt8)} {acc : List V} (hn : 0 < n) : mapGo t rd n j ns acc = match pname t j with
    | some (x, j) => if cI t j = 58 then match rd (j + 1) with
      | some (v, j) =>
        if cI t j = 125 then (if rising (ns ++ [x]) then some (.mk 7 0 0 [] (ns ++ [x]) (acc ++ [v]), j + 1) else none)
        else if cI t j = 44 then mapGo t rd (n - 1) (j + 1) (ns ++ [x]) (acc ++ [v])
        else none
      | none => none
      else none
    | none => none := by
  obtain ⟨m, rfl⟩ : ∃ m, n = m + 1 := ⟨n - 1, by omega⟩
  rw [mapGo]; rfl
theorem map_bad {t : List UInt8} {rd : Nat → Option (V × Nat)} : ∀ (n j : Nat) (ns : List (List UInt8)) (acc : List V), rising ns = false → mapGo t rd n j ns acc = none
  | 0, _, _, _, _ => rfl
  | n + 1, j, ns, acc, h => by
    have ih := fun j acc x => map_bad (t := t) (rd := rd) n j (ns ++ [x]) acc (rising_part h)
    rw [mapGo]
    split
    · split
      · split
        · split
          · rw [if_neg (by rw [rising_part h]; simp)]
          · split
            · exact ih _ _ _
            · rfl
        · rfl
      · rfl
    · rfl
theorem apartT_symm {t u : Tok} (h : apartT t u) : apartT u t := by
  cases t <;> cases u <;> first | exact trivial | exact fun e => h e.symm
theorem tx_snoc (ns : List (List UInt8)) (x : List UInt8) : ns.map S ++ [S x] = (ns ++ [x]).map S := by simp
theorem ns_len {ns : List (List UInt8)} {x : List UInt8} : (ns ++ [x]).length = ns.length + 1 := by simp
theorem map_val {ns : List (List UInt8)} {x : List UInt8} {acc : List V} {v : V} : PV.agg [I 7, I 0, I 0, S [], .list (ns.length + 1) ((ns ++ [x]).map S) .no, .list (acc.length + 1) (V.cas (acc ++ [v])) .no] = VA (.mk 7 0 0 [] (ns ++ [x]) (acc ++ [v])) := by
  rw [VA, V.ca, app_len, ns_len]
theorem RunsTo_app2 {e e2 sz bytes n n2 m : Nat} {cs ds : List PV} {tk u w : Tok} (h : Gr e st.nx st.cnt n tk) (h1 : cs.length = n * sz) (h2 : ds.length = m * sz) (h3 : (n + m) * bytes ≤ 140737488355328) (h4 : n + m ≤ 140737488355328) (h5 : 0 < sz)
    (h' : Gr e2 st.nx st.cnt n2 u) (ha : apartT tk u) (k : ∀ st' t', st'.objs = st.objs → Gr e st'.nx st'.cnt (n + m) t' → Gr e2 st'.nx st'.cnt n2 u → apartT t' u → A (mk (.list (n + m) (cs ++ ds) t') st')) : RunsTo (appP e sz bytes (.list n cs tk) (.list m ds w) st) mk A := by
  rw [appP_ok h h1 h2 h3 h4 h5, RunsTo_some]
  exact k _ _ appS_objs (Gr_app h) (Gr_other h h' ha).1 (Gr_other (m := n + m) h h' ha).2
set_option maxHeartbeats 2000000 in
theorem c_map0 (K : Env cf) {t : List UInt8} {i : Nat} (hs : st.objs s = some [S t, I i]) (hi : i ≤ t.length) (hl : t.length ≤ 2000000) (h123 : cI t i = 123) :
    ∃ r c', OutI t VA none is6 r c' ∧ ∃ fl, callP cf 224 [.ptr s 0, I 5] [] st = some (r, setF (setO st s c') fl) := by
  refine c_ptrE K.tab (F := F224) rfl rfl rfl (lb rfl) (lb rfl) (by simp [plainV_int]) hs (plainVs_rd t i) 1 ?_
  unfold F224 qr qd qm qc qk ql qf qo qe qN
  have hlt := cI_in (show cI t i ≠ 0 by rw [h123]; decide)
  simp (disch := omega) only [↓pa, ↓pmx, pb, pmy, ↓reduceIte, Nat.reduceEqDiff, Nat.reduceAdd, Nat.reduceLeDiff, reduceCtorEq]
  refine (rt_eat1 K (t := t) (i := i) 123 rfl (by decide) (by simp only [pb, ↓reduceIte, reduceCtorEq]) hi hl).2 ?_
  simp (disch := omega) only [↓pa, pb, pmy, ↓reduceIte, Nat.reduceEqDiff, Nat.reduceAdd, Nat.reduceLeDiff, reduceCtorEq, h123]
  simp (disch := omega) only [↓pa, pb, pmy, pmz, ↓reduceIte, Nat.reduceEqDiff, Nat.reduceAdd, Nat.reduceLeDiff, reduceCtorEq]
  exact OutI_none rfl ⟨_, rfl, rfl, by simp only [pmz, Bool.and_self], by simp only [pmz]⟩ rfl rfl hlt
set_option maxHeartbeats 4000000 in
theorem c_map (K : Env cf) {t : List UInt8} {i b : Nat} (hs : st.objs s = some [S t, I i]) (hi : i ≤ t.length) (hl : t.length ≤ 2000000) (hb : b < 5) (h123 : cI t i = 123) (ih : ValOk cf t b) :
    ∃ r c', OutI t VA (pmap t (pval t b) (i + 1)) is6 r c' ∧ ∃ fl, callP cf 224 [.ptr s 0, I (5 - ((b + 1 : Nat) : Int))] [] st = some (r, setF (setO st s c') fl) := by
  refine c_ptrE K.tab (F := F224) rfl rfl rfl (lb rfl) (lb rfl) (by simp [plainV_int]) hs (plainVs_rd t i) (t.length + 1) ?_
  unfold F224 qr qd qm qc qk ql qf qo qe qN
  have hlt := cI_in (show cI t i ≠ 0 by rw [h123]; decide)
  have hd5 : ¬ (5 - ((b + 1 : Nat) : Int) = 5) := by omega
  have hdd : 5 - ((b + 1 : Nat) : Int) + 1 = 5 - (b : Int) := by omega
  revert hd5 hdd
  generalize hdp : 5 - ((b + 1 : Nat) : Int) = dp
  intro hd5 hdd
  simp (disch := omega) only [↓pa, ↓pmx, pb, pmy, ↓reduceIte, Nat.reduceEqDiff, Nat.reduceAdd, Nat.reduceLeDiff, reduceCtorEq]
  refine (rt_eat1 K (t := t) (i := i) 123 rfl (by decide) (by simp only [pb, ↓reduceIte, reduceCtorEq]) hi hl).2 ?_
  simp (disch := omega) only [↓pa, pb, ↓reduceIte, Nat.reduceEqDiff, reduceCtorEq, h123, hd5]
  refine (rt_eat1 K (t := t) (i := i + 1) 125 rfl (by decide) (by simp only [pb, ↓reduceIte]) hlt hl).2 ?_
  refine Cnd_intro (fun h125 => ?_) (fun h125 => ?_)
  · have hlt2 := cI_in (show cI t (i + 1) ≠ 0 by rw [h125]; decide)
    simp (disch := omega) only [↓pa, pb, pmy, pmz, ↓reduceIte, Nat.reduceEqDiff, Nat.reduceAdd, Nat.reduceLeDiff, reduceCtorEq]
    exact OutI_val (by rw [pmap, if_pos h125]) (by rfl) rfl hlt2
  have hP : pmap t (pval t b) (i + 1) = mapGo t (pval t b) (t.length + 1 - (i + 1)) (i + 1) [] [] := by rw [pmap, if_neg h125]
  simp (disch := omega) only [↓pa, pb, ↓reduceIte]
  refine Wp_rounds (fun k fr st => ∃ (j n : Nat) (ns : List (List UInt8)) (acc : List V) (tok tok2 : Tok), k = t.length - j ∧ j ≤ t.length ∧ acc.length ≤ j ∧ ns.length = acc.length ∧ t.length - j < n ∧ rising ns = true ∧ fr 0 = .ptr 0 0 ∧ fr 1 = I dp ∧ fr 4 = .ptr 4 0 ∧ fr 6 = .ptr 6 0 ∧ st.objs 0 = some [S t, I j] ∧ st.objs 4 = some [I 0, I 0, I 0, S [], .list 0 [] .nil, .list 0 [] .nil] ∧
    st.objs 6 = some [I 7, I 0, I 0, S [], .list ns.length (ns.map S) tok, .list acc.length (V.cas acc) tok2] ∧ Gr 9 st.nx st.cnt ns.length tok ∧ Gr 204 st.nx st.cnt acc.length tok2 ∧ apartT tok tok2 ∧ mapGo t (pval t b) n j ns acc = pmap t (pval t b) (i + 1)) (t.length - (i + 1)) (by omega)
    ⟨i + 1, t.length + 1 - (i + 1), [], [], .nil, .nil, rfl, by omega, Nat.zero_le _, rfl, by omega, rfl, by simp (disch := omega) only [↓pa, pb, ↓reduceIte, reduceCtorEq], by simp (disch := omega) only [↓pa, pb, ↓reduceIte, Nat.reduceEqDiff], by simp (disch := omega) only [↓pa, pb, ↓reduceIte, Nat.reduceEqDiff], by simp (disch := omega) only [↓pa, ↓reduceIte, Nat.reduceEqDiff], by simp (disch := omega) only [pb, ↓reduceIte], by simp (disch := omega) only [pb, ↓reduceIte, Nat.reduceEqDiff, reduceCtorEq], by simp (disch := omega) only [pb, ↓reduceIte, reduceCtorEq]; rfl, rfl, rfl, trivial, hP.symm⟩ ?_
  rintro k fr st ⟨j, n, ns, acc, tok, tok2, rfl, hj, hacc, hnl, hn, hris, f0, f1, f4, f6, o0, o4, o6, hG, hG2, hap, hQ⟩
  have hm : (ns.map S).length = ns.length := List.length_map _
  rw [map_in (by omega)] at hQ
  simp (disch := omega) only [↓pa, pb, ↓reduceIte, f0]
  refine RunsTo_I (c_nameR K (t := t) (i := j) (by simp only [o0]) hj hl) (fun x j1 fl hx hj1 => ?_) (fun p j1 fl hx hp hj1 => ?_)
  rotate_left
  · obtain ⟨l, rfl⟩ := hp
    have hno : pmap t (pval t b) (i + 1) = none := by rw [← hQ, hx]
    simp (disch := omega) only [↓pa, pb, pmy, pmz, pmV, List.getElem?_cons_zero, List.getElem?_cons_succ, ↓reduceIte, Nat.reduceEqDiff, Nat.reduceAdd, Nat.reduceLeDiff, reduceCtorEq, f4, f6, o4, o6]
    exact OutI_none hno ⟨_, rfl, rfl, by simp only [pmz, pmV, Bool.and_self], by simp only [pmz, pmV]⟩ rfl rfl (by omega)
  have hm1 := pname_mono hx
  rw [hx] at hQ
  simp only at hQ
  simp (disch := omega) only [↓pa, pb, List.getElem?_cons_zero, List.getElem?_cons_succ, ↓reduceIte, Nat.reduceEqDiff, reduceCtorEq, f0]
  refine (rt_eat1 K (t := t) (i := j1) 58 rfl (by decide) (by simp only [pb, pmy, ↓reduceIte]) hj1 hl).2 ?_
  refine Cnd_intro (fun h58 => ?_) (fun h58 => ?_)
  rotate_left
  · have hno : pmap t (pval t b) (i + 1) = none := by rw [← hQ, if_neg h58]
    simp (disch := omega) only [↓pa, pb, pmy, pmz, pmV, ↓reduceIte, Nat.reduceEqDiff, Nat.reduceAdd, Nat.reduceLeDiff, reduceCtorEq, f4, f6, o4, o6]
    exact OutI_none hno ⟨_, rfl, rfl, by simp only [pmz, pmV, Bool.and_self], by simp only [pmz, pmV]⟩ rfl rfl (by omega)
  rw [if_pos h58] at hQ
  have hj58 := cI_in (show cI t j1 ≠ 0 by rw [h58]; decide)
  have hrs := rising_snoc ns x
  rw [hris, Bool.true_and] at hrs
  simp (disch := omega) only [↓pa, pb, pmy, ↓reduceIte, Nat.reduceEqDiff, Nat.reduceAdd, reduceCtorEq, f6, o6]
  by_cases hup : rising (ns ++ [x]) = true
  rotate_left
  · have hup : rising (ns ++ [x]) = false := by simpa using hup
    have hno : pmap t (pval t b) (i + 1) = none := by
      rw [← hQ]
      split
      · split
        · first | rfl | rw [if_neg (by rw [hup]; simp)]
        · split
          · exact map_bad _ _ _ _ hup
          · rfl
      · rfl
    rw [hup] at hrs
    have hrs := hrs.symm
    rw [Bool.or_eq_false_iff] at hrs
    have hpos : 0 < ns.length := by have := hrs.1; simp only [decide_eq_false_iff_not] at this; omega
    have hpos' : (0 : Int) < (ns.length : Int) := by omega
    have hidx : ((ns.length : Int) - 1).toNat = ns.length - 1 := by omega
    simp (disch := omega) only [↓pa, pb, pmy, ↓reduceIte, Nat.reduceEqDiff, Nat.reduceAdd, Nat.reduceLeDiff, reduceCtorEq, f4, f6, o4, o6, hpos', hidx, Nat.mul_one, partP_tx (show ns.length - 1 < ns.length by omega), hrs.2]
    simp (disch := omega) only [↓pa, pb, pmy, pmz, pmV, ↓reduceIte, Nat.reduceEqDiff, Nat.reduceAdd, Nat.reduceLeDiff, reduceCtorEq, f4]
    exact OutI_none hno ⟨_, rfl, rfl, by simp only [pmz, pmV, Bool.and_self], by simp only [pmz, pmV]⟩ rfl rfl (by omega)
  rw [hup] at hrs
  have hrs := hrs.symm
  by_cases hz : ns.length = 0
  · have hz' : ¬ (0 : Int) < (ns.length : Int) := by omega
    have hz'' : ¬ 0 < ns.length := by omega
    simp (disch := omega) only [↓pa, pb, ↓reduceIte, Nat.reduceEqDiff, reduceCtorEq, f0, f1, hz', hdd]
    refine RunsTo_I (ih _ 0 (j1 + 1) (by simp only [pb, ↓reduceIte]) hj58) (fun v j2 fl hv hj2 => ?_) (fun p j2 fl hv hp hj2 => ?_)
    rotate_left
    · obtain ⟨cs, rfl, hcs, hcn, hct⟩ := hp
      have hno : pmap t (pval t b) (i + 1) = none := by rw [← hQ, hv]
      simp (disch := omega) only [↓pa, pb, pmy, pmz, pmV, List.getElem?_cons_zero, List.getElem?_cons_succ, ↓reduceIte, Nat.reduceEqDiff, Nat.reduceAdd, Nat.reduceLeDiff, reduceCtorEq, f4, f6, o4, o6, hcs, put6]
      exact OutI_none hno ⟨_, rfl, rfl, by simp only [pmz, pmV, Bool.and_self], by simp only [pmz, pmV]⟩ rfl rfl hj2
    have hm2 := pval_mono _ _ _ _ hv
    have hvl := v.ca_len
    rw [hv] at hQ
    simp only at hQ
    simp (disch := omega) only [↓pa, ↓pmx, pb, pmy, List.getElem?_cons_zero, List.getElem?_cons_succ, ↓reduceIte, Nat.reduceEqDiff, Nat.reduceAdd, Nat.reduceLeDiff, Nat.reduceLT, reduceCtorEq, f6, o6, hvl, put6]
    refine RunsTo_app2 (n := ns.length) (m := 1) (e2 := 204) (n2 := acc.length) (u := tok2) hG (by rw [hm]; omega) rfl (by omega) (by omega) (by decide) hG2 hap (fun st1 tok' ho hG' hG2' hap' => ?_)
    rw [tx_snoc]
    simp (disch := omega) only [↓pa, ↓pmx, pb, pmy, ↓reduceIte, Nat.reduceEqDiff, Nat.reduceAdd, Nat.reduceLeDiff, Nat.reduceLT, reduceCtorEq, f6, o6, hvl, put6, take6, ho]
    refine RunsTo_app2 (n := acc.length) (m := 1) (e2 := 9) (n2 := ns.length + 1) (u := tok') hG2' (by rw [V.cas_len]) (by rw [hvl]) (by omega) (by omega) (by decide) hG' (apartT_symm hap') (fun st2 tok2' ho2 hG2'' hG'' hap'' => ?_)
    rw [V.cas_snoc]
    simp (disch := omega) only [↓pa, pb, pmy, ↓reduceIte, Nat.reduceEqDiff, Nat.reduceAdd, Nat.reduceLeDiff, reduceCtorEq, f0, f6, ho2]
    refine (rt_eat1 K (t := t) (i := j2) 125 rfl (by decide) (by simp only [pb, pmy, ↓reduceIte, reduceCtorEq, ho, ho2]) hj2 hl).2 ?_
    refine Cnd_intro (fun k1 => ?_) (fun k1 => ?_)
    · rw [if_pos k1, if_pos hup] at hQ
      have hjl := cI_in (show cI t j2 ≠ 0 by rw [k1]; decide)
      simp (disch := omega) only [↓pa, pb, pmy, pmz, pmV, ↓reduceIte, Nat.reduceEqDiff, Nat.reduceAdd, Nat.reduceLeDiff, reduceCtorEq, f4, f6, o4, ho, ho2]
      rw [map_val]
      exact OutI_val hQ.symm rfl rfl hjl
    rw [if_neg k1] at hQ
    simp (disch := omega) only [↓pa, pb, ↓reduceIte, reduceCtorEq, f0]
    refine (rt_eat1 K (t := t) (i := j2) 44 rfl (by decide) (by simp only [pb, pmy, ↓reduceIte, reduceCtorEq, ho, ho2]) hj2 hl).2 ?_
    refine Cnd_intro (fun k2 => ?_) (fun k2 => ?_)
    · rw [if_pos k2] at hQ
      have hjl := cI_in (show cI t j2 ≠ 0 by rw [k2]; decide)
      simp (disch := omega) only [↓pa, pb, pmy, ↓reduceIte, Nat.reduceEqDiff, reduceCtorEq, f0, f1, f4, f6, o4, ho, ho2]
      exact ⟨t.length - (j2 + 1), by omega, j2 + 1, n - 1, ns ++ [x], acc ++ [v], tok', tok2', rfl, by omega, by rw [app_len]; omega, by rw [app_len, ns_len]; omega, by omega, hup, rfl, by rw [app_len, ns_len], by rw [ns_len]; exact hG'', by rw [app_len]; exact hG2'', apartT_symm hap'', hQ⟩
    · rw [if_neg k2] at hQ
      simp (disch := omega) only [↓pa, pb, pmy, pmz, pmV, ↓reduceIte, Nat.reduceEqDiff, Nat.reduceAdd, Nat.reduceLeDiff, reduceCtorEq, f4, f6, o4, ho, ho2]
      exact OutI_none hQ.symm ⟨_, rfl, rfl, by simp only [pmz, pmV, Bool.and_self], by simp only [pmz, pmV]⟩ rfl rfl hj2
  · have hs1 : sLt (tAt ns (ns.length - 1)) x = true := by simpa [hz] using hrs
    have hpos : 0 < ns.length := by omega
    have hpos' : (0 : Int) < (ns.length : Int) := by omega
    have hidx : ((ns.length : Int) - 1).toNat = ns.length - 1 := by omega
    simp (disch := omega) only [↓pa, pb, pmy, ↓reduceIte, Nat.reduceEqDiff, Nat.reduceAdd, reduceCtorEq, f0, f1, f6, o6, hpos', hidx, hdd, Nat.mul_one, partP_tx (show ns.length - 1 < ns.length by omega), hs1]
    refine RunsTo_I (ih _ 0 (j1 + 1) (by simp only [pb, ↓reduceIte]) hj58) (fun v j2 fl hv hj2 => ?_) (fun p j2 fl hv hp hj2 => ?_)
    rotate_left
    · obtain ⟨cs, rfl, hcs, hcn, hct⟩ := hp
      have hno : pmap t (pval t b) (i + 1) = none := by rw [← hQ, hv]
      simp (disch := omega) only [↓pa, pb, pmy, pmz, pmV, List.getElem?_cons_zero, List.getElem?_cons_succ, ↓reduceIte, Nat.reduceEqDiff, Nat.reduceAdd, Nat.reduceLeDiff, reduceCtorEq, f4, f6, o4, o6, hcs, put6]
      exact OutI_none hno ⟨_, rfl, rfl, by simp only [pmz, pmV, Bool.and_self], by simp only [pmz, pmV]⟩ rfl rfl hj2
    have hm2 := pval_mono _ _ _ _ hv
    have hvl := v.ca_len
    rw [hv] at hQ
    simp only at hQ
    simp (disch := omega) only [↓pa, ↓pmx, pb, pmy, List.getElem?_cons_zero, List.getElem?_cons_succ, ↓reduceIte, Nat.reduceEqDiff, Nat.reduceAdd, Nat.reduceLeDiff, Nat.reduceLT, reduceCtorEq, f6, o6, hvl, put6]
    refine RunsTo_app2 (n := ns.length) (m := 1) (e2 := 204) (n2 := acc.length) (u := tok2) hG (by rw [hm]; omega) rfl (by omega) (by omega) (by decide) hG2 hap (fun st1 tok' ho hG' hG2' hap' => ?_)
    rw [tx_snoc]
    simp (disch := omega) only [↓pa, ↓pmx, pb, pmy, ↓reduceIte, Nat.reduceEqDiff, Nat.reduceAdd, Nat.reduceLeDiff, Nat.reduceLT, reduceCtorEq, f6, o6, hvl, put6, take6, ho]
    refine RunsTo_app2 (n := acc.length) (m := 1) (e2 := 9) (n2 := ns.length + 1) (u := tok') hG2' (by rw [V.cas_len]) (by rw [hvl]) (by omega) (by omega) (by decide) hG' (apartT_symm hap') (fun st2 tok2' ho2 hG2'' hG'' hap'' => ?_)
    rw [V.cas_snoc]
    simp (disch := omega) only [↓pa, pb, pmy, ↓reduceIte, Nat.reduceEqDiff, Nat.reduceAdd, Nat.reduceLeDiff, reduceCtorEq, f0, f6, ho2]
    refine (rt_eat1 K (t := t) (i := j2) 125 rfl (by decide) (by simp only [pb, pmy, ↓reduceIte, reduceCtorEq, ho, ho2]) hj2 hl).2 ?_
    refine Cnd_intro (fun k1 => ?_) (fun k1 => ?_)
    · rw [if_pos k1, if_pos hup] at hQ
      have hjl := cI_in (show cI t j2 ≠ 0 by rw [k1]; decide)
      simp (disch := omega) only [↓pa, pb, pmy, pmz, pmV, ↓reduceIte, Nat.reduceEqDiff, Nat.reduceAdd, Nat.reduceLeDiff, reduceCtorEq, f4, f6, o4, ho, ho2]
      rw [map_val]
      exact OutI_val hQ.symm rfl rfl hjl
    rw [if_neg k1] at hQ
    simp (disch := omega) only [↓pa, pb, ↓reduceIte, reduceCtorEq, f0]
    refine (rt_eat1 K (t := t) (i := j2) 44 rfl (by decide) (by simp only [pb, pmy, ↓reduceIte, reduceCtorEq, ho, ho2]) hj2 hl).2 ?_
    refine Cnd_intro (fun k2 => ?_) (fun k2 => ?_)
    · rw [if_pos k2] at hQ
      have hjl := cI_in (show cI t j2 ≠ 0 by rw [k2]; decide)
      simp (disch := omega) only [↓pa, pb, pmy, ↓reduceIte, Nat.reduceEqDiff, reduceCtorEq, f0, f1, f4, f6, o4, ho, ho2]
      exact ⟨t.length - (j2 + 1), by omega, j2 + 1, n - 1, ns ++ [x], acc ++ [v], tok', tok2', rfl, by omega, by rw [app_len]; omega, by rw [app_len, ns_len]; omega, by omega, hup, rfl, by rw [app_len, ns_len], by rw [ns_len]; exact hG'', by rw [app_len]; exact hG2'', apartT_symm hap'', hQ⟩
    · rw [if_neg k2] at hQ
      simp (disch := omega) only [↓pa, pb, pmy, pmz, pmV, ↓reduceIte, Nat.reduceEqDiff, Nat.reduceAdd, Nat.reduceLeDiff, reduceCtorEq, f4, f6, o4, ho, ho2]
      exact OutI_none hQ.symm ⟨_, rfl, rfl, by simp only [pmz, pmV, Bool.and_self], by simp only [pmz, pmV]⟩ rfl rfl hj2
def plistO (t : List UInt8) (o : Option (Nat → Option (V × Nat))) (i : Nat) : Option (V × Nat) := match o with
  | some rd => plist t rd i
  | none => none
def pmapO (t : List UInt8) (o : Option (Nat → Option (V × Nat))) (i : Nat) : Option (V × Nat) := match o with
  | some rd => pmap t rd i
  | none => none
theorem pbody_eq (t : List UInt8) (o : Option (Nat → Option (V × Nat))) (i : Nat) : pbody t o i =
  if cI t i = 34 then (pquoted t (i + 1)).map fun q => (.mk 3 0 0 q.1 [] [], q.2)
  else if cI t i = 64 then (pdate t (i + 1)).map fun q => (.mk 4 q.1 0 [] [] [], q.2)
  else if cI t i = 45 ∨ isD (cI t i) = true then (pint t i).map fun q => (.mk 2 q.1 0 [] [] [], q.2)
  else if cI t i = 40 then ppoint t (i + 1)
  else if cI t i = 91 then plistO t o (i + 1)
  else if cI t i = 123 then pmapO t o (i + 1)
  else if cI t i = 60 then ppath t (i + 1)
  else if tk t i [110, 117, 108, 108] then some (.mk 0 0 0 [] [] [], i + 4)
  else if tk t i [116, 114, 117, 101] then some (.mk 1 1 0 [] [] [], i + 4)
  else if tk t i [102, 97, 108, 115, 101] then some (.mk 1 0 0 [] [] [], i + 5)
  else if cI t i = 110 then pthing t 8 (i + 1)
  else if cI t i = 101 then pthing t 9 (i + 1)
  else none := by cases o <;> rfl
theorem tk_le {t x : List UInt8} {i : Nat} (hi : i ≤ t.length) (h : tk t i x = true) : i + x.length ≤ t.length := by
  by_cases hx : t.length - i < x.length
  · rw [tk_short hi hx] at h; cases h
  · omega
set_option maxHeartbeats 4000000 in
theorem c_valueStep (K : Env cf) {t : List UInt8} (hl : t.length ≤ 2000000) {b : Nat} {o : Option (Nat → Option (V × Nat))} (hV : ∀ i, pval t b i = pbody t o i)
    (hL : ∀ (st : St) (s i : Nat), st.objs s = some [S t, I i] → i ≤ t.length → cI t i = 91 → ∃ r c', OutI t VA (plistO t o (i + 1)) is6 r c' ∧ ∃ fl, callP cf 223 [.ptr s 0, I (5 - (b : Int))] [] st = some (r, setF (setO st s c') fl))
    (hM : ∀ (st : St) (s i : Nat), st.objs s = some [S t, I i] → i ≤ t.length → cI t i = 123 → ∃ r c', OutI t VA (pmapO t o (i + 1)) is6 r c' ∧ ∃ fl, callP cf 224 [.ptr s 0, I (5 - (b : Int))] [] st = some (r, setF (setO st s c') fl)) : ValOk cf t b := by
  intro st s i hs hi
  revert hL hM
  generalize 5 - (b : Int) = dp
  intro hL hM
  refine c_ptrE K.tab (F := F201) rfl rfl rfl (lb rfl) (lb rfl) (by simp [plainV_int]) hs (plainVs_rd t i) 1 ?_
  unfold F201 qr qd qm qc qo qe qN
  have hp := (hV i).trans (pbody_eq t o i)
  simp (disch := omega) only [↓pa, pb, ↓reduceIte, reduceCtorEq]
  refine (rt_peek K.tab (t := t) (i := i) (by simp only [pb, ↓reduceIte, reduceCtorEq])).2 ?_
  simp (disch := omega) only [↓pa, pb, ↓reduceIte]
  refine Cnd_intro (fun c1 => ?_) (fun c1 => ?_)
  · rw [if_pos c1] at hp
    simp (disch := omega) only [↓pa, pb, ↓reduceIte, reduceCtorEq, c1]
    refine RunsTo_I (c_quoted K (t := t) (i := i) (by simp only [pb, ↓reduceIte, reduceCtorEq]) hi hl c1) (fun v j fl hv hj => ?_) (fun p j fl hv hx hj => ?_)
    · rw [hv] at hp
      simp (disch := omega) only [↓pa, ↓pmx, pb, pmy, pmz, List.getElem?_cons_zero, List.getElem?_cons_succ, ↓reduceIte, Nat.reduceEqDiff, Nat.reduceAdd, Nat.reduceLeDiff, reduceCtorEq]
      exact OutI_val hp rfl rfl hj
    · obtain ⟨l, rfl⟩ := hx
      rw [hv] at hp
      simp (disch := omega) only [↓pa, ↓pmx, pb, pmy, pmz, List.getElem?_cons_zero, List.getElem?_cons_succ, ↓reduceIte, Nat.reduceEqDiff, Nat.reduceAdd, Nat.reduceLeDiff, reduceCtorEq]
      exact OutI_none hp ⟨_, rfl, rfl, by simp only [pmz, Bool.and_self], by simp only [pmz]⟩ rfl rfl hj
  rw [if_neg c1] at hp
  simp (disch := omega) only [↓pa, pb, ↓reduceIte, Nat.reduceEqDiff, c1]
  refine Cnd_intro (fun c2 => ?_) (fun c2 => ?_)
  · rw [if_pos c2] at hp
    simp (disch := omega) only [↓pa, pb, ↓reduceIte, reduceCtorEq, c2]
    refine RunsTo_I (c_date K (t := t) (i := i) (by simp only [pb, ↓reduceIte, reduceCtorEq]) hi hl c2) (fun v j fl hv hj => ?_) (fun p j fl hv hx hj => ?_)
    · rw [hv] at hp
      simp (disch := omega) only [↓pa, ↓pmx, pb, pmy, pmz, List.getElem?_cons_zero, List.getElem?_cons_succ, ↓reduceIte, Nat.reduceEqDiff, Nat.reduceAdd, Nat.reduceLeDiff, reduceCtorEq]
      exact OutI_val hp rfl rfl hj
    · obtain ⟨l, rfl⟩ := hx
      rw [hv] at hp
      simp (disch := omega) only [↓pa, ↓pmx, pb, pmy, pmz, List.getElem?_cons_zero, List.getElem?_cons_succ, ↓reduceIte, Nat.reduceEqDiff, Nat.reduceAdd, Nat.reduceLeDiff, reduceCtorEq]
      exact OutI_none hp ⟨_, rfl, rfl, by simp only [pmz, Bool.and_self], by simp only [pmz]⟩ rfl rfl hj
  rw [if_neg c2] at hp
  by_cases c3 : cI t i = 45 ∨ isD (cI t i) = true
  · rw [if_pos c3] at hp
    have c45 : cI t i = 45 ∨ (¬ cI t i = 45 ∧ isD (cI t i) = true) := by
      by_cases h : cI t i = 45
      · exact .inl h
      · exact .inr ⟨h, c3.resolve_left h⟩
    rcases c45 with c45 | ⟨c45, cd⟩
    · simp (disch := omega) only [↓pa, pb, ↓reduceIte, Nat.reduceEqDiff, Int.reduceEq, reduceCtorEq, c45]
      refine rt_whole K (t := t) (i := i) (by simp only [pb, ↓reduceIte, reduceCtorEq]) hi hl (fun a j fl hv hj => ?_) (fun n j fl hv hj => ?_)
      · rw [hv] at hp
        simp (disch := omega) only [↓pa, ↓pmx, pb, pmy, pmz, List.getElem?_cons_zero, List.getElem?_cons_succ, ↓reduceIte, Nat.reduceEqDiff, Nat.reduceAdd, Nat.reduceLeDiff, reduceCtorEq]
        exact OutI_val hp rfl rfl hj
      · rw [hv] at hp
        simp (disch := omega) only [↓pa, ↓pmx, pb, pmy, pmz, List.getElem?_cons_zero, List.getElem?_cons_succ, ↓reduceIte, Nat.reduceEqDiff, Nat.reduceAdd, Nat.reduceLeDiff, reduceCtorEq]
        exact OutI_none hp ⟨_, rfl, rfl, by simp only [pmz, Bool.and_self], by simp only [pmz]⟩ rfl rfl hj
    · simp (disch := omega) only [↓pa, pb, ↓reduceIte, Nat.reduceEqDiff, reduceCtorEq, c2, c45, c_digit K.tab, cd]
      refine rt_whole K (t := t) (i := i) (by simp only [pb, ↓reduceIte, reduceCtorEq]) hi hl (fun a j fl hv hj => ?_) (fun n j fl hv hj => ?_)
      · rw [hv] at hp
        simp (disch := omega) only [↓pa, ↓pmx, pb, pmy, pmz, List.getElem?_cons_zero, List.getElem?_cons_succ, ↓reduceIte, Nat.reduceEqDiff, Nat.reduceAdd, Nat.reduceLeDiff, reduceCtorEq]
        exact OutI_val hp rfl rfl hj
      · rw [hv] at hp
        simp (disch := omega) only [↓pa, ↓pmx, pb, pmy, pmz, List.getElem?_cons_zero, List.getElem?_cons_succ, ↓reduceIte, Nat.reduceEqDiff, Nat.reduceAdd, Nat.reduceLeDiff, reduceCtorEq]
        exact OutI_none hp ⟨_, rfl, rfl, by simp only [pmz, Bool.and_self], by simp only [pmz]⟩ rfl rfl hj
  rw [if_neg c3] at hp
  have c3a : ¬ cI t i = 45 := fun h => c3 (.inl h)
  have c3b : isD (cI t i) = false := by cases h : isD (cI t i); rfl; exact absurd (.inr h) c3
  simp (disch := omega) only [↓pa, pb, ↓reduceIte, Nat.reduceEqDiff, c2, c3a, c_digit K.tab, c3b]
  refine Cnd_intro (fun c4 => ?_) (fun c4 => ?_)
  · rw [if_pos c4] at hp
    simp (disch := omega) only [↓pa, pb, ↓reduceIte, reduceCtorEq, c4]
    refine RunsTo_I (c_point K (t := t) (i := i) (by simp only [pb, ↓reduceIte, reduceCtorEq]) hi hl c4) (fun v j fl hv hj => ?_) (fun p j fl hv hx hj => ?_)
    · have hvl := v.ca_len
      simp (disch := omega) only [↓pa, pb, pmy, pmz, pmV, List.getElem?_cons_zero, List.getElem?_cons_succ, ↓reduceIte, Nat.reduceEqDiff, Nat.reduceAdd, Nat.reduceLeDiff, reduceCtorEq, hvl, put6, take6]
      exact OutI_val (hp.trans hv) rfl rfl hj
    · obtain ⟨cs, rfl, hcs, hcn, hct⟩ := hx
      simp (disch := omega) only [↓pa, pb, pmy, pmz, List.getElem?_cons_zero, List.getElem?_cons_succ, ↓reduceIte, Nat.reduceEqDiff, Nat.reduceAdd, Nat.reduceLeDiff, reduceCtorEq, hcs, hcn, hct, put6, take6]
      exact OutI_none (hp.trans hv) ⟨_, rfl, hcs, hcn, hct⟩ rfl rfl hj
  rw [if_neg c4] at hp
  simp (disch := omega) only [↓pa, pb, ↓reduceIte, Nat.reduceEqDiff, c4]
  refine Cnd_intro (fun c5 => ?_) (fun c5 => ?_)
  · rw [if_pos c5] at hp
    simp (disch := omega) only [↓pa, pb, ↓reduceIte, Nat.reduceEqDiff, reduceCtorEq, c5]
    refine RunsTo_I (hL _ 0 i (by simp only [pb, ↓reduceIte, reduceCtorEq]) hi c5) (fun v j fl hv hj => ?_) (fun p j fl hv hx hj => ?_)
    · have hvl := v.ca_len
      simp (disch := omega) only [↓pa, pb, pmy, pmz, pmV, List.getElem?_cons_zero, List.getElem?_cons_succ, ↓reduceIte, Nat.reduceEqDiff, Nat.reduceAdd, Nat.reduceLeDiff, reduceCtorEq, hvl, put6, take6]
      exact OutI_val (hp.trans hv) rfl rfl hj
    · obtain ⟨cs, rfl, hcs, hcn, hct⟩ := hx
      simp (disch := omega) only [↓pa, pb, pmy, pmz, List.getElem?_cons_zero, List.getElem?_cons_succ, ↓reduceIte, Nat.reduceEqDiff, Nat.reduceAdd, Nat.reduceLeDiff, reduceCtorEq, hcs, hcn, hct, put6, take6]
      exact OutI_none (hp.trans hv) ⟨_, rfl, hcs, hcn, hct⟩ rfl rfl hj
  rw [if_neg c5] at hp
  simp (disch := omega) only [↓pa, pb, ↓reduceIte, Nat.reduceEqDiff, c5]
  refine Cnd_intro (fun c6 => ?_) (fun c6 => ?_)
  · rw [if_pos c6] at hp
    simp (disch := omega) only [↓pa, pb, ↓reduceIte, Nat.reduceEqDiff, reduceCtorEq, c6]
    refine RunsTo_I (hM _ 0 i (by simp only [pb, ↓reduceIte, reduceCtorEq]) hi c6) (fun v j fl hv hj => ?_) (fun p j fl hv hx hj => ?_)
    · have hvl := v.ca_len
      simp (disch := omega) only [↓pa, pb, pmy, pmz, pmV, List.getElem?_cons_zero, List.getElem?_cons_succ, ↓reduceIte, Nat.reduceEqDiff, Nat.reduceAdd, Nat.reduceLeDiff, reduceCtorEq, hvl, put6, take6]
      exact OutI_val (hp.trans hv) rfl rfl hj
    · obtain ⟨cs, rfl, hcs, hcn, hct⟩ := hx
      simp (disch := omega) only [↓pa, pb, pmy, pmz, List.getElem?_cons_zero, List.getElem?_cons_succ, ↓reduceIte, Nat.reduceEqDiff, Nat.reduceAdd, Nat.reduceLeDiff, reduceCtorEq, hcs, hcn, hct, put6, take6]
      exact OutI_none (hp.trans hv) ⟨_, rfl, hcs, hcn, hct⟩ rfl rfl hj
  rw [if_neg c6] at hp
  simp (disch := omega) only [↓pa, pb, ↓reduceIte, Nat.reduceEqDiff, c6]
  refine Cnd_intro (fun c7 => ?_) (fun c7 => ?_)
  · rw [if_pos c7] at hp
    simp (disch := omega) only [↓pa, pb, ↓reduceIte, reduceCtorEq, c7]
    refine RunsTo_I (c_path K (t := t) (i := i) (by simp only [pb, ↓reduceIte, reduceCtorEq]) hi hl c7) (fun v j fl hv hj => ?_) (fun p j fl hv hx hj => ?_)
    · have hvl := v.ca_len
      simp (disch := omega) only [↓pa, pb, pmy, pmz, pmV, List.getElem?_cons_zero, List.getElem?_cons_succ, ↓reduceIte, Nat.reduceEqDiff, Nat.reduceAdd, Nat.reduceLeDiff, reduceCtorEq, hvl, put6, take6]
      exact OutI_val (hp.trans hv) rfl rfl hj
    · obtain ⟨cs, rfl, hcs, hcn, hct⟩ := hx
      simp (disch := omega) only [↓pa, pb, pmy, pmz, List.getElem?_cons_zero, List.getElem?_cons_succ, ↓reduceIte, Nat.reduceEqDiff, Nat.reduceAdd, Nat.reduceLeDiff, reduceCtorEq, hcs, hcn, hct, put6, take6]
      exact OutI_none (hp.trans hv) ⟨_, rfl, hcs, hcn, hct⟩ rfl rfl hj
  rw [if_neg c7] at hp
  simp (disch := omega) only [↓pa, pb, ↓reduceIte, reduceCtorEq, c7]
  refine (rt_eat K.tab (t := t) (i := i) (x := [110, 117, 108, 108]) (by simp only [pb, ↓reduceIte, reduceCtorEq]) hi hl (by decide)).2 ?_
  refine Cnd_intro (fun c8 => ?_) (fun c8 => ?_)
  · rw [if_pos c8] at hp
    have := tk_le hi c8
    simp (disch := omega) only [↓pa, ↓pmx, pb, pmy, pmz, ↓reduceIte, Nat.reduceEqDiff, Nat.reduceAdd, Nat.reduceLeDiff, reduceCtorEq]
    exact OutI_val hp rfl rfl this
  rw [if_neg c8] at hp
  simp (disch := omega) only [↓pa, pb, ↓reduceIte, reduceCtorEq]
  refine (rt_eat K.tab (t := t) (i := i) (x := [116, 114, 117, 101]) (by simp only [pb, ↓reduceIte, reduceCtorEq]) hi hl (by decide)).2 ?_
  refine Cnd_intro (fun c9 => ?_) (fun c9 => ?_)
  · rw [if_pos c9] at hp
    have := tk_le hi c9
    simp (disch := omega) only [↓pa, ↓pmx, pb, pmy, pmz, ↓reduceIte, Nat.reduceEqDiff, Nat.reduceAdd, Nat.reduceLeDiff, reduceCtorEq]
    exact OutI_val hp rfl rfl this
  rw [if_neg c9] at hp
  simp (disch := omega) only [↓pa, pb, ↓reduceIte, reduceCtorEq]
  refine (rt_eat K.tab (t := t) (i := i) (x := [102, 97, 108, 115, 101]) (by simp only [pb, ↓reduceIte, reduceCtorEq]) hi hl (by decide)).2 ?_
  refine Cnd_intro (fun c10 => ?_) (fun c10 => ?_)
  · rw [if_pos c10] at hp
    have := tk_le hi c10
    simp (disch := omega) only [↓pa, ↓pmx, pb, pmy, pmz, ↓reduceIte, Nat.reduceEqDiff, Nat.reduceAdd, Nat.reduceLeDiff, reduceCtorEq]
    exact OutI_val hp rfl rfl this
  rw [if_neg c10] at hp
  simp (disch := omega) only [↓pa, pb, ↓reduceIte, Nat.reduceEqDiff]
  refine Cnd_intro (fun c11 => ?_) (fun c11 => ?_)
  · rw [if_pos c11] at hp
    have hA : pthingA t i = pthing t 8 (i + 1) := by rw [pthingA, if_neg (by omega), if_pos c11]
    rw [← hA] at hp
    simp (disch := omega) only [↓pa, pb, ↓reduceIte, Nat.reduceEqDiff, reduceCtorEq, c11]
    refine RunsTo_I (c_thing K (t := t) (i := i) (by simp only [pb, ↓reduceIte, reduceCtorEq]) hi hl) (fun v j fl hv hj => ?_) (fun p j fl hv hx hj => ?_)
    · have hvl := v.ca_len
      simp (disch := omega) only [↓pa, pb, pmy, pmz, pmV, List.getElem?_cons_zero, List.getElem?_cons_succ, ↓reduceIte, Nat.reduceEqDiff, Nat.reduceAdd, Nat.reduceLeDiff, reduceCtorEq, hvl, put6, take6]
      exact OutI_val (hp.trans hv) rfl rfl hj
    · obtain ⟨cs, rfl, hcs, hcn, hct⟩ := hx
      simp (disch := omega) only [↓pa, pb, pmy, pmz, List.getElem?_cons_zero, List.getElem?_cons_succ, ↓reduceIte, Nat.reduceEqDiff, Nat.reduceAdd, Nat.reduceLeDiff, reduceCtorEq, hcs, hcn, hct, put6, take6]
      exact OutI_none (hp.trans hv) ⟨_, rfl, hcs, hcn, hct⟩ rfl rfl hj
  rw [if_neg c11] at hp
  simp (disch := omega) only [↓pa, pb, ↓reduceIte, Nat.reduceEqDiff, c11]
  refine Cnd_intro (fun c12 => ?_) (fun c12 => ?_)
  · rw [if_pos c12] at hp
    have hA : pthingA t i = pthing t 9 (i + 1) := by rw [pthingA, if_pos c12]
    rw [← hA] at hp
    simp (disch := omega) only [↓pa, pb, ↓reduceIte, reduceCtorEq, c12]
    refine RunsTo_I (c_thing K (t := t) (i := i) (by simp only [pb, ↓reduceIte, reduceCtorEq]) hi hl) (fun v j fl hv hj => ?_) (fun p j fl hv hx hj => ?_)
    · have hvl := v.ca_len
      simp (disch := omega) only [↓pa, pb, pmy, pmz, pmV, List.getElem?_cons_zero, List.getElem?_cons_succ, ↓reduceIte, Nat.reduceEqDiff, Nat.reduceAdd, Nat.reduceLeDiff, reduceCtorEq, hvl, put6, take6]
      exact OutI_val (hp.trans hv) rfl rfl hj
    · obtain ⟨cs, rfl, hcs, hcn, hct⟩ := hx
      simp (disch := omega) only [↓pa, pb, pmy, pmz, List.getElem?_cons_zero, List.getElem?_cons_succ, ↓reduceIte, Nat.reduceEqDiff, Nat.reduceAdd, Nat.reduceLeDiff, reduceCtorEq, hcs, hcn, hct, put6, take6]
      exact OutI_none (hp.trans hv) ⟨_, rfl, hcs, hcn, hct⟩ rfl rfl hj
  rw [if_neg c12] at hp
  simp (disch := omega) only [↓pa, ↓pmx, pb, pmy, pmz, ↓reduceIte, Nat.reduceEqDiff, Nat.reduceAdd, Nat.reduceLeDiff, reduceCtorEq, c12]
  exact OutI_none hp ⟨_, rfl, rfl, by simp only [pmz, Bool.and_self], by simp only [pmz]⟩ rfl rfl hi
theorem c_value (K : Env cf) {t : List UInt8} (hl : t.length ≤ 2000000) : ∀ b, b ≤ 5 → ValOk cf t b
  | 0, _ => c_valueStep K hl (o := none) (fun _ => rfl) (fun _ _ _ hs hi h => c_list0 K hs hi hl h) (fun _ _ _ hs hi h => c_map0 K hs hi hl h)
  | b + 1, hb => c_valueStep K hl (o := some (pval t b)) (fun _ => rfl) (fun _ _ _ hs hi h => c_list K hs hi hl (by omega) h (c_value K hl b (by omega))) (fun _ _ _ hs hi h => c_map K hs hi hl (by omega) h (c_value K hl b (by omega)))
theorem pmk1 : (∀ {s : Nat}, keysOf [.ptr s 0] = some [s]) ∧ (∀ {s : Nat} {k : IntKind} {n : Int}, keysOf [.ptr s 0, .int k n] = some [s]) ∧ (∀ {s : Nat} {x : ByteArray}, keysOf [.ptr s 0, .str x] = some [s]) := by
  refine ⟨?_, ?_, ?_⟩ <;> intros <;> rfl
theorem is6_dead' : is6 dead := ⟨_, rfl, rfl, by simp only [pmz, Bool.and_self], by simp only [pmz]⟩
theorem path_valS {acc : List V} {v : V} : PV.agg [I 10, I 0, I 0, S [], .list (acc.length + 1) (V.cbs (acc ++ [v])) .no, .list 0 [] .no] = VB (.mk 10 0 0 [] [] (acc ++ [v])) := by
  rw [VB, V.cb, app_len]; rfl
theorem list_valS {acc : List V} {v : V} : PV.agg [I 6, I 0, I 0, S [], .list (acc.length + 1) (V.cbs (acc ++ [v])) .no, .list 0 [] .no] = VB (.mk 6 0 0 [] [] (acc ++ [v])) := by
  rw [VB, V.cb, app_len]; rfl
theorem rt_thingS (K : Env cf) {t : List UInt8} {i : Nat} {k : Int} (hs : st.objs s = some [S t, I i, .bool false]) (hi : i ≤ t.length) (hl : t.length ≤ 2000000)
    (k1 : ∀ v j fl, pthing t k i = some (v, j) → j ≤ t.length → A (mk (VB v) (setF (setO st s [S t, I (j : Nat), .bool false]) fl)))
    (k2 : ∀ cs j fl, pthing t k i = none → cs.length = 6 → nps cs = true → strips cs = cs → j ≤ t.length → A (mk (.agg cs) (setF (setO st s [S t, I (j : Nat), .bool true]) fl))) : RunsTo (callP cf 214 [.ptr s 0, I k] [] st) mk A := by
  refine RunsTo_S (c_thingS K hs hi hl) k1 ?_
  rintro p j fl h1 ⟨cs, rfl, h2, h3, h4⟩ h5
  exact k2 cs j fl h1 h2 h3 h4 h5
set_option maxHeartbeats 4000000 in
theorem c_pathS (K : Env cf) {t : List UInt8} {i : Nat} (hs : st.objs s = some [S t, I i, .bool false]) (hi : i ≤ t.length) (hl : t.length ≤ 2000000) :
    ∃ r c', OutS t VB (ppath t i) is6 r c' ∧ ∃ fl, callP cf 215 [.ptr s 0] [] st = some (r, setF (setO st s c') fl) := by
  refine c_ptrE K.tab (F := F215) rfl rfl rfl (lb rfl) (lb rfl) (by simp) hs (plainVs_rd3 t i _) (t.length + 1) ?_
  unfold F215 qr qd qm qi qc qk ql qf qo qe qN
  simp (disch := omega) only [↓pa, ↓pmx, pb, pmy, ↓reduceIte, Nat.reduceEqDiff, Nat.reduceAdd, Nat.reduceLeDiff]
  refine Wp_rounds (fun k fr st => ∃ (j n : Nat) (node : Bool) (acc : List V) (tok : Tok), k = t.length - j ∧ j ≤ t.length ∧ acc.length ≤ j ∧ t.length - j < n ∧ (acc.length : Int).tmod 2 = (if node then 0 else 1) ∧ fr 0 = .ptr 0 0 ∧ fr 2 = .ptr 2 0 ∧ fr 3 = .ptr 3 0 ∧ st.objs 0 = some [S t, I j, .bool false] ∧ st.objs 2 = some [I 0, I 0, I 0, S [], .list 0 [] .nil, .list 0 [] .nil] ∧
    st.objs 3 = some [I 10, I 0, I 0, S [], .list acc.length (V.cbs acc) tok, .list 0 [] .nil] ∧ Gr 199 st.nx st.cnt acc.length tok ∧ pathGo t n node j acc = ppath t i) (t.length - i) (by omega)
    ⟨i, t.length + 1 - i, true, [], .nil, rfl, by omega, Nat.zero_le _, by omega, rfl, by simp (disch := omega) only [↓pa, pb, ↓reduceIte, reduceCtorEq], by simp (disch := omega) only [↓pa, pb, ↓reduceIte, Nat.reduceEqDiff], by simp (disch := omega) only [↓pa, ↓reduceIte], by simp (disch := omega) only [pb, ↓reduceIte, reduceCtorEq], by simp (disch := omega) only [pb, ↓reduceIte, Nat.reduceEqDiff], by simp (disch := omega) only [pb, ↓reduceIte]; rfl, rfl, rfl⟩ ?_
  rintro k fr st ⟨j, n, node, acc, tok, rfl, hj, hacc, hn, hpar, f0, f2, f3, o0, o2, o3, hG, hQ⟩
  have hrem := b_rem (k := .i64) (a := (acc.length : Int)) (show (2 : Int) ≠ 0 by decide)
  rw [path_in (by omega)] at hQ
  cases node
  · have hpar : (acc.length : Int).tmod 2 = 1 := hpar
    have hpar' : ((acc ++ [V.mk 0 0 0 [] [] []]).length : Int).tmod 2 = 0 := by
      rw [app_len]
      have e : ((acc.length : Nat) : Int).tmod 2 = ((acc.length % 2 : Nat) : Int) := rfl
      have e2 : ((acc.length + 1 : Nat) : Int).tmod 2 = (((acc.length + 1) % 2 : Nat) : Int) := rfl
      rw [e] at hpar
      rw [e2]
      omega
    rw [app_len] at hpar'
    simp only [Bool.false_eq_true, if_false, false_and] at hQ
    simp (disch := omega) only [↓pa, pb, pmy, ↓reduceIte, Nat.reduceEqDiff, Nat.reduceAdd, reduceCtorEq, f0, f3, o0, o3, hrem, hpar]
    refine (rt_takes1 K (t := t) (i := j) 101 rfl (by decide) (by simp only [o0]) hj hl).2 ?_
    refine Cnd_intro (fun hw => ?_) (fun hw => ?_)
    rotate_left
    · rw [if_neg hw] at hQ
      simp (disch := omega) only [↓pa, pb, ↓reduceIte, reduceCtorEq, f0]
      refine rt_fail K (t := t) (i := j) (b := false) (by simp only [o0]) fun fl => ?_
      simp (disch := omega) only [↓pa, pb, pmy, pmz, ↓reduceIte, Nat.reduceEqDiff, Nat.reduceAdd, Nat.reduceLeDiff, reduceCtorEq, f2, o2, dead]
      exact OutS_none (dm := is6) hQ.symm is6_dead' rfl hj
    rw [if_pos hw] at hQ
    have hjl := cI_in (show cI t j ≠ 0 by rw [hw]; decide)
    simp (disch := omega) only [↓pa, ↓pmw, pb, pmy, pmwk, ↓reduceIte, Nat.reduceEqDiff, Nat.reduceAdd, reduceCtorEq, f0, f3, o3]
    refine rt_thingS K (t := t) (i := j + 1) (by simp only [pb, ↓reduceIte]) hjl hl (fun v j1 fl hv hj1 => ?_) (fun cs j1 fl hv hcs hcn hct hj1 => ?_)
    rotate_left
    · rw [hv] at hQ
      simp (disch := omega) only [↓pa, ↓pmx, ↓pmw, pb, pmy, pmwk, ↓reduceIte, Nat.reduceEqDiff, Nat.reduceAdd, Nat.reduceLeDiff, Nat.reduceLT, hcs, put6, pmk1]
      refine RunsTo_app (n := acc.length) (m := 1) hG (by rw [V.cbs_len]) (by rw [hcs]) (by omega) (by omega) (by decide) ?_
      simp (disch := omega) only [↓pa, ↓pmw, pb, pmy, pmwk, pmwa, List.getElem?_cons_zero, List.getElem?_cons_succ, ↓reduceIte, Nat.reduceEqDiff, Nat.reduceAdd, Nat.reduceLeDiff, Int.reduceEq, reduceCtorEq, f0, f3, o3]
      refine (rt_takesB K.tab (t := t) (i := j1) (by simp only [pb, pmy, ↓reduceIte, reduceCtorEq]) hj1 hl).2 ?_
      simp (disch := omega) only [↓pa, pb, ↓reduceIte, reduceCtorEq, f0]
      refine rt_fail K (t := t) (i := j1) (b := true) (by simp only [pb, pmy, ↓reduceIte, reduceCtorEq]) fun fl => ?_
      simp (disch := omega) only [↓pa, pb, pmy, pmz, ↓reduceIte, Nat.reduceEqDiff, Nat.reduceAdd, Nat.reduceLeDiff, reduceCtorEq, f2, o2, dead]
      exact OutS_none (dm := is6) hQ.symm is6_dead' rfl hj1
    have hm := pthing_mono hv
    have hvl := v.cb_len
    rw [hv] at hQ
    simp only at hQ
    simp (disch := omega) only [↓pa, ↓pmx, ↓pmw, pb, pmy, pmwk, ↓reduceIte, Nat.reduceEqDiff, Nat.reduceAdd, Nat.reduceLeDiff, Nat.reduceLT, hvl, put6, pmk1]
    refine RunsTo_app (n := acc.length) (m := 1) hG (by rw [V.cbs_len]) (by rw [hvl]) (by omega) (by omega) (by decide) ?_
    rw [V.cbs_snoc]
    simp (disch := omega) only [↓pa, ↓pmw, pb, pmy, pmwk, pmwa, List.getElem?_cons_zero, List.getElem?_cons_succ, ↓reduceIte, Nat.reduceEqDiff, Nat.reduceAdd, Nat.reduceLeDiff, Int.reduceEq, reduceCtorEq, f0, f3, o3]
    refine (rt_takes1 K (t := t) (i := j1) 32 rfl (by decide) (by simp only [pb, pmy, ↓reduceIte, reduceCtorEq]) hj1 hl).2 ?_
    refine Cnd_intro (fun h32 => ?_) (fun h32 => ?_)
    · rw [if_pos h32] at hQ
      have hjl2 := cI_in (show cI t j1 ≠ 0 by rw [h32]; decide)
      simp (disch := omega) only [↓pa, pb, pmy, ↓reduceIte, Nat.reduceEqDiff, reduceCtorEq, f0, f2, f3, o2]
      exact ⟨t.length - (j1 + 1), by omega, j1 + 1, n - 1, true, acc ++ [v], _, rfl, by omega, by rw [app_len]; omega, by omega, by rw [app_len]; exact hpar', rfl, by rw [app_len], by rw [app_len]; exact Gr_app hG, hQ⟩
    · rw [if_neg h32] at hQ
      simp (disch := omega) only [↓pa, pb, ↓reduceIte, reduceCtorEq, f0]
      refine rt_fail K (t := t) (i := j1) (b := false) (by simp only [pb, pmy, ↓reduceIte, reduceCtorEq]) fun fl => ?_
      simp (disch := omega) only [↓pa, pb, pmy, pmz, ↓reduceIte, Nat.reduceEqDiff, Nat.reduceAdd, Nat.reduceLeDiff, reduceCtorEq, f2, o2, dead]
      exact OutS_none (dm := is6) hQ.symm is6_dead' rfl hj1
  · have hpar : (acc.length : Int).tmod 2 = 0 := hpar
    have hpar' : ((acc.length + 1 : Nat) : Int).tmod 2 = 1 := by
      have e : ((acc.length : Nat) : Int).tmod 2 = ((acc.length % 2 : Nat) : Int) := rfl
      have e2 : ((acc.length + 1 : Nat) : Int).tmod 2 = (((acc.length + 1) % 2 : Nat) : Int) := rfl
      rw [e] at hpar
      rw [e2]
      omega
    simp only [if_true, true_and] at hQ
    simp (disch := omega) only [↓pa, pb, pmy, ↓reduceIte, Nat.reduceEqDiff, Nat.reduceAdd, Int.reduceEq, reduceCtorEq, f0, f3, o0, o3, hrem, hpar]
    refine (rt_takes1 K (t := t) (i := j) 110 rfl (by decide) (by simp only [o0]) hj hl).2 ?_
    refine Cnd_intro (fun hw => ?_) (fun hw => ?_)
    rotate_left
    · rw [if_neg hw] at hQ
      simp (disch := omega) only [↓pa, pb, ↓reduceIte, reduceCtorEq, f0]
      refine rt_fail K (t := t) (i := j) (b := false) (by simp only [o0]) fun fl => ?_
      simp (disch := omega) only [↓pa, pb, pmy, pmz, ↓reduceIte, Nat.reduceEqDiff, Nat.reduceAdd, Nat.reduceLeDiff, reduceCtorEq, f2, o2, dead]
      exact OutS_none (dm := is6) hQ.symm is6_dead' rfl hj
    rw [if_pos hw] at hQ
    have hjl := cI_in (show cI t j ≠ 0 by rw [hw]; decide)
    simp (disch := omega) only [↓pa, ↓pmw, pb, pmy, pmwk, ↓reduceIte, Nat.reduceEqDiff, Nat.reduceAdd, reduceCtorEq, f0, f3, o3]
    refine rt_thingS K (t := t) (i := j + 1) (by simp only [pb, ↓reduceIte]) hjl hl (fun v j1 fl hv hj1 => ?_) (fun cs j1 fl hv hcs hcn hct hj1 => ?_)
    rotate_left
    · rw [hv] at hQ
      simp (disch := omega) only [↓pa, ↓pmx, ↓pmw, pb, pmy, pmwk, ↓reduceIte, Nat.reduceEqDiff, Nat.reduceAdd, Nat.reduceLeDiff, Nat.reduceLT, hcs, put6, pmk1]
      refine RunsTo_app (n := acc.length) (m := 1) hG (by rw [V.cbs_len]) (by rw [hcs]) (by omega) (by omega) (by decide) ?_
      simp (disch := omega) only [↓pa, ↓pmw, pb, pmy, pmwk, pmwa, List.getElem?_cons_zero, List.getElem?_cons_succ, ↓reduceIte, Nat.reduceEqDiff, Nat.reduceAdd, Nat.reduceLeDiff, reduceCtorEq, f0, f3, o3]
      refine (rt_takesB K.tab (t := t) (i := j1) (by simp only [pb, pmy, ↓reduceIte, reduceCtorEq]) hj1 hl).2 ?_
      simp (disch := omega) only [↓pa, pb, ↓reduceIte, Nat.reduceEqDiff, reduceCtorEq, f0]
      refine (rt_takesB K.tab (t := t) (i := j1) (by simp only [pb, pmy, ↓reduceIte, reduceCtorEq]) hj1 hl).2 ?_
      simp (disch := omega) only [↓pa, pb, ↓reduceIte, reduceCtorEq, f0]
      refine rt_fail K (t := t) (i := j1) (b := true) (by simp only [pb, pmy, ↓reduceIte, reduceCtorEq]) fun fl => ?_
      simp (disch := omega) only [↓pa, pb, pmy, pmz, ↓reduceIte, Nat.reduceEqDiff, Nat.reduceAdd, Nat.reduceLeDiff, reduceCtorEq, f2, o2, dead]
      exact OutS_none (dm := is6) hQ.symm is6_dead' rfl hj1
    have hm := pthing_mono hv
    have hvl := v.cb_len
    rw [hv] at hQ
    simp only at hQ
    simp (disch := omega) only [↓pa, ↓pmx, ↓pmw, pb, pmy, pmwk, ↓reduceIte, Nat.reduceEqDiff, Nat.reduceAdd, Nat.reduceLeDiff, Nat.reduceLT, hvl, put6, pmk1]
    refine RunsTo_app (n := acc.length) (m := 1) hG (by rw [V.cbs_len]) (by rw [hvl]) (by omega) (by omega) (by decide) ?_
    rw [V.cbs_snoc]
    simp (disch := omega) only [↓pa, ↓pmw, pb, pmy, pmwk, pmwa, List.getElem?_cons_zero, List.getElem?_cons_succ, ↓reduceIte, Nat.reduceEqDiff, Nat.reduceAdd, Nat.reduceLeDiff, reduceCtorEq, f0, f3, o3]
    refine (rt_takes1 K (t := t) (i := j1) 62 rfl (by decide) (by simp only [pb, pmy, ↓reduceIte, reduceCtorEq]) hj1 hl).2 ?_
    refine Cnd_intro (fun h62 => ?_) (fun h62 => ?_)
    · rw [if_pos h62] at hQ
      have hjl2 := cI_in (show cI t j1 ≠ 0 by rw [h62]; decide)
      simp (disch := omega) only [↓pa, pb, pmy, pmz, pmV, ↓reduceIte, Nat.reduceEqDiff, Nat.reduceAdd, Nat.reduceLeDiff, reduceCtorEq, f2, f3, o2]
      rw [path_valS]
      exact OutS_val hQ.symm rfl rfl hjl2
    rw [if_neg h62] at hQ
    simp (disch := omega) only [↓pa, pb, ↓reduceIte, Nat.reduceEqDiff, reduceCtorEq, f0]
    refine (rt_takes1 K (t := t) (i := j1) 32 rfl (by decide) (by simp only [pb, pmy, ↓reduceIte, reduceCtorEq]) hj1 hl).2 ?_
    refine Cnd_intro (fun h32 => ?_) (fun h32 => ?_)
    · rw [if_pos h32] at hQ
      have hjl2 := cI_in (show cI t j1 ≠ 0 by rw [h32]; decide)
      simp (disch := omega) only [↓pa, pb, pmy, ↓reduceIte, Nat.reduceEqDiff, reduceCtorEq, f0, f2, f3, o2]
      exact ⟨t.length - (j1 + 1), by omega, j1 + 1, n - 1, false, acc ++ [v], _, rfl, by omega, by rw [app_len]; omega, by omega, by rw [app_len]; exact hpar', rfl, by rw [app_len], by rw [app_len]; exact Gr_app hG, hQ⟩
    · rw [if_neg h32] at hQ
      simp (disch := omega) only [↓pa, pb, ↓reduceIte, reduceCtorEq, f0]
      refine rt_fail K (t := t) (i := j1) (b := false) (by simp only [pb, pmy, ↓reduceIte, reduceCtorEq]) fun fl => ?_
      simp (disch := omega) only [↓pa, pb, pmy, pmz, ↓reduceIte, Nat.reduceEqDiff, Nat.reduceAdd, Nat.reduceLeDiff, reduceCtorEq, f2, o2, dead]
      exact OutS_none (dm := is6) hQ.symm is6_dead' rfl hj1
def ValOkS (cf : CallF) (t : List UInt8) (b : Nat) : Prop := ∀ (st : St) (s i : Nat), st.objs s = some [S t, I i, .bool false] → i ≤ t.length →
  ∃ r c', OutS t VB (pval t b i) is6 r c' ∧ ∃ fl, callP cf 200 [.ptr s 0, I (5 - (b : Int))] [] st = some (r, setF (setO st s c') fl)
set_option maxHeartbeats 4000000 in
theorem c_listS (K : Env cf) {t : List UInt8} {i b : Nat} (hs : st.objs s = some [S t, I i, .bool false]) (hi : i ≤ t.length) (hl : t.length ≤ 2000000) (hb : b < 5) (ih : ValOkS cf t b) :
    ∃ r c', OutS t VB (plist t (pval t b) i) is6 r c' ∧ ∃ fl, callP cf 216 [.ptr s 0, I (5 - ((b + 1 : Nat) : Int))] [] st = some (r, setF (setO st s c') fl) := by
  refine c_ptrE K.tab (F := F216) rfl rfl rfl (lb rfl) (lb rfl) (by simp [plainV_int]) hs (plainVs_rd3 t i _) (t.length + 1) ?_
  unfold F216 qr qd qm qk ql qf qo qe qN
  have hdd : 5 - ((b + 1 : Nat) : Int) + 1 = 5 - (b : Int) := by omega
  have hd0 : 0 ≤ 5 - ((b + 1 : Nat) : Int) ∧ 5 - ((b + 1 : Nat) : Int) ≤ 5 := by omega
  revert hdd hd0
  generalize hdp : 5 - ((b + 1 : Nat) : Int) = dp
  intro hdd hd0
  simp (disch := omega) only [↓pa, ↓pmx, pb, pmy, ↓reduceIte, Nat.reduceEqDiff, Nat.reduceAdd, Nat.reduceLeDiff, reduceCtorEq]
  refine (rt_takes1 K (t := t) (i := i) 93 rfl (by decide) (by simp only [pb, ↓reduceIte, reduceCtorEq]) hi hl).2 ?_
  refine Cnd_intro (fun h93 => ?_) (fun h93 => ?_)
  · have hlt2 := cI_in (show cI t i ≠ 0 by rw [h93]; decide)
    simp (disch := omega) only [↓pa, pb, pmy, pmz, ↓reduceIte, Nat.reduceEqDiff, Nat.reduceAdd, Nat.reduceLeDiff, reduceCtorEq]
    exact OutS_val (by rw [plist, if_pos h93]) (by rfl) rfl hlt2
  have hP : plist t (pval t b) i = listGo t (pval t b) (t.length + 1 - i) i [] := by rw [plist, if_neg h93]
  simp (disch := omega) only [↓pa, pb, ↓reduceIte]
  refine Wp_rounds (fun k fr st => ∃ (j n : Nat) (acc : List V) (tok : Tok), k = t.length - j ∧ j ≤ t.length ∧ acc.length ≤ j ∧ t.length - j < n ∧ fr 0 = .ptr 0 0 ∧ fr 1 = I dp ∧ fr 4 = .ptr 4 0 ∧ fr 5 = .ptr 5 0 ∧ st.objs 0 = some [S t, I j, .bool false] ∧ st.objs 4 = some [I 0, I 0, I 0, S [], .list 0 [] .nil, .list 0 [] .nil] ∧
    st.objs 5 = some [I 6, I 0, I 0, S [], .list acc.length (V.cbs acc) tok, .list 0 [] .nil] ∧ Gr 199 st.nx st.cnt acc.length tok ∧ listGo t (pval t b) n j acc = plist t (pval t b) i) (t.length - i) (by omega)
    ⟨i, t.length + 1 - i, [], .nil, rfl, by omega, Nat.zero_le _, by omega, by simp (disch := omega) only [↓pa, pb, ↓reduceIte, reduceCtorEq], by simp (disch := omega) only [↓pa, pb, ↓reduceIte, Nat.reduceEqDiff], by simp (disch := omega) only [↓pa, pb, ↓reduceIte, Nat.reduceEqDiff], by simp (disch := omega) only [↓pa, ↓reduceIte, Nat.reduceEqDiff], by simp (disch := omega) only [pb, ↓reduceIte, reduceCtorEq], by simp (disch := omega) only [pb, ↓reduceIte, Nat.reduceEqDiff], by simp (disch := omega) only [pb, ↓reduceIte]; rfl, rfl, hP.symm⟩ ?_
  rintro k fr st ⟨j, n, acc, tok, rfl, hj, hacc, hn, f0, f1, f4, f5, o0, o4, o5, hG, hQ⟩
  rw [list_in (by omega)] at hQ
  simp (disch := omega) only [↓pa, ↓pmw, pb, pmy, pmwk, ↓reduceIte, Nat.reduceEqDiff, Nat.reduceAdd, reduceCtorEq, f0, f1, f5, o0, o5, hdd]
  refine RunsTo_S (ih _ 0 j (by simp only [o0]) hj) (fun v j1 fl hv hj1 => ?_) (fun p j1 fl hv hp hj1 => ?_)
  rotate_left
  · obtain ⟨cs, rfl, hcs, hcn, hct⟩ := hp
    rw [hv] at hQ
    simp (disch := omega) only [↓pa, ↓pmx, ↓pmw, pb, pmy, pmwk, ↓reduceIte, Nat.reduceEqDiff, Nat.reduceAdd, Nat.reduceLeDiff, Nat.reduceLT, hcs, put6, pmk1]
    refine RunsTo_app (n := acc.length) (m := 1) hG (by rw [V.cbs_len]) (by rw [hcs]) (by omega) (by omega) (by decide) ?_
    simp (disch := omega) only [↓pa, ↓pmw, pb, pmy, pmwk, pmwa, List.getElem?_cons_zero, List.getElem?_cons_succ, ↓reduceIte, Nat.reduceEqDiff, Nat.reduceAdd, Nat.reduceLeDiff, reduceCtorEq, f0, f5, o5]
    refine (rt_takesB K.tab (t := t) (i := j1) (by simp only [pb, pmy, ↓reduceIte, reduceCtorEq]) hj1 hl).2 ?_
    simp (disch := omega) only [↓pa, pb, ↓reduceIte, reduceCtorEq, f0]
    refine (rt_takesB K.tab (t := t) (i := j1) (by simp only [pb, pmy, ↓reduceIte, reduceCtorEq]) hj1 hl).2 ?_
    simp (disch := omega) only [↓pa, pb, ↓reduceIte, reduceCtorEq, f0]
    refine rt_fail K (t := t) (i := j1) (b := true) (by simp only [pb, pmy, ↓reduceIte, reduceCtorEq]) fun fl => ?_
    simp (disch := omega) only [↓pa, pb, pmy, pmz, ↓reduceIte, Nat.reduceEqDiff, Nat.reduceAdd, Nat.reduceLeDiff, reduceCtorEq, f4, o4, dead]
    exact OutS_none (dm := is6) hQ.symm is6_dead' rfl hj1
  have hm := pval_mono _ _ _ _ hv
  have hvl := v.cb_len
  rw [hv] at hQ
  simp only at hQ
  simp (disch := omega) only [↓pa, ↓pmx, ↓pmw, pb, pmy, pmwk, ↓reduceIte, Nat.reduceEqDiff, Nat.reduceAdd, Nat.reduceLeDiff, Nat.reduceLT, hvl, put6, pmk1]
  refine RunsTo_app (n := acc.length) (m := 1) hG (by rw [V.cbs_len]) (by rw [hvl]) (by omega) (by omega) (by decide) ?_
  rw [V.cbs_snoc]
  simp (disch := omega) only [↓pa, ↓pmw, pb, pmy, pmwk, pmwa, List.getElem?_cons_zero, List.getElem?_cons_succ, ↓reduceIte, Nat.reduceEqDiff, Nat.reduceAdd, Nat.reduceLeDiff, reduceCtorEq, f0, f5, o5]
  refine (rt_takes1 K (t := t) (i := j1) 93 rfl (by decide) (by simp only [pb, pmy, ↓reduceIte, reduceCtorEq]) hj1 hl).2 ?_
  refine Cnd_intro (fun h1 => ?_) (fun h1 => ?_)
  · rw [if_pos h1] at hQ
    have hjl := cI_in (show cI t j1 ≠ 0 by rw [h1]; decide)
    simp (disch := omega) only [↓pa, pb, pmy, pmz, pmV, ↓reduceIte, Nat.reduceEqDiff, Nat.reduceAdd, Nat.reduceLeDiff, reduceCtorEq, f4, f5, o4]
    rw [list_valS]
    exact OutS_val hQ.symm rfl rfl hjl
  rw [if_neg h1] at hQ
  simp (disch := omega) only [↓pa, pb, ↓reduceIte, reduceCtorEq, f0]
  refine (rt_takes1 K (t := t) (i := j1) 44 rfl (by decide) (by simp only [pb, pmy, ↓reduceIte, reduceCtorEq]) hj1 hl).2 ?_
  refine Cnd_intro (fun h2 => ?_) (fun h2 => ?_)
  · rw [if_pos h2] at hQ
    have hjl := cI_in (show cI t j1 ≠ 0 by rw [h2]; decide)
    simp (disch := omega) only [↓pa, pb, pmy, ↓reduceIte, Nat.reduceEqDiff, reduceCtorEq, f0, f1, f4, f5, o4]
    exact ⟨t.length - (j1 + 1), by omega, j1 + 1, n - 1, acc ++ [v], _, rfl, by omega, by rw [app_len]; omega, by omega, rfl, by rw [app_len], by rw [app_len]; exact Gr_app hG, hQ⟩
  · rw [if_neg h2] at hQ
    simp (disch := omega) only [↓pa, pb, ↓reduceIte, reduceCtorEq, f0]
    refine rt_fail K (t := t) (i := j1) (b := false) (by simp only [pb, pmy, ↓reduceIte, reduceCtorEq]) fun fl => ?_
    simp (disch := omega) only [↓pa, pb, pmy, pmz, ↓reduceIte, Nat.reduceEqDiff, Nat.reduceAdd, Nat.reduceLeDiff, reduceCtorEq, f4, o4, dead]
    exact OutS_none (dm := is6) hQ.symm is6_dead' rfl hj1
theorem callP_list1 {f n : Nat} {cs : List PV} {t : Tok} (h : plainVs cs) : callP cf f [.list n cs t] [] st = callP cf f [.list n cs .no] [] st := by
  have h1 : [PV.list n cs t].all plainArg = true := by
    have : nps cs = true := h.1
    simp only [List.all_cons, List.all_nil, plainArg, pmz, this, Bool.and_self]
  have h2 : [PV.list n cs .no].all plainArg = true := by
    have : nps cs = true := h.1
    simp only [List.all_cons, List.all_nil, plainArg, pmz, this, Bool.and_self]
  simp only [callP, keysOf_plain h1, keysOf_plain h2, getAll, handOn_plain 0 0 h1, handOn_plain 0 0 h2, List.map_cons, List.map_nil, strip_list]
theorem map_valS {ns : List (List UInt8)} {x : List UInt8} {acc : List V} {v : V} : PV.agg [I 7, I 0, I 0, S [], .list (acc.length + 1) (V.cbs (acc ++ [v])) .no, .list (ns.length + 1) ((ns ++ [x]).map S) .no] = VB (.mk 7 0 0 [] (ns ++ [x]) (acc ++ [v])) := by
  rw [VB, V.cb, app_len, ns_len]
set_option maxHeartbeats 4000000 in
theorem c_mapS (K : Env cf) {t : List UInt8} {i b : Nat} (hs : st.objs s = some [S t, I i, .bool false]) (hi : i ≤ t.length) (hl : t.length ≤ 2000000) (hb : b < 5) (ih : ValOkS cf t b) :
    ∃ r c', OutS t VB (pmap t (pval t b) i) is6 r c' ∧ ∃ fl, callP cf 217 [.ptr s 0, I (5 - ((b + 1 : Nat) : Int))] [] st = some (r, setF (setO st s c') fl) := by
  refine c_ptrE K.tab (F := F217) rfl rfl rfl (lb rfl) (lb rfl) (by simp [plainV_int]) hs (plainVs_rd3 t i _) (t.length + 1) ?_
  unfold F217 qr qd qm qk ql qf qo qe qN
  have hdd : 5 - ((b + 1 : Nat) : Int) + 1 = 5 - (b : Int) := by omega
  have hd0 : 0 ≤ 5 - ((b + 1 : Nat) : Int) ∧ 5 - ((b + 1 : Nat) : Int) ≤ 5 := by omega
  revert hdd hd0
  generalize hdp : 5 - ((b + 1 : Nat) : Int) = dp
  intro hdd hd0
  simp (disch := omega) only [↓pa, ↓pmx, pb, pmy, ↓reduceIte, Nat.reduceEqDiff, Nat.reduceAdd, Nat.reduceLeDiff, reduceCtorEq]
  refine (rt_takes1 K (t := t) (i := i) 125 rfl (by decide) (by simp only [pb, ↓reduceIte, reduceCtorEq]) hi hl).2 ?_
  refine Cnd_intro (fun h125 => ?_) (fun h125 => ?_)
  · have hlt2 := cI_in (show cI t i ≠ 0 by rw [h125]; decide)
    simp (disch := omega) only [↓pa, pb, pmy, pmz, ↓reduceIte, Nat.reduceEqDiff, Nat.reduceAdd, Nat.reduceLeDiff, reduceCtorEq]
    exact OutS_val (by rw [pmap, if_pos h125]) (by rfl) rfl hlt2
  have hP : pmap t (pval t b) i = mapGo t (pval t b) (t.length + 1 - i) i [] [] := by rw [pmap, if_neg h125]
  simp (disch := omega) only [↓pa, pb, ↓reduceIte]
  refine Wp_rounds (fun k fr st => ∃ (j n : Nat) (ns : List (List UInt8)) (acc : List V) (tok tok2 : Tok), k = t.length - j ∧ j ≤ t.length ∧ acc.length ≤ j ∧ ns.length = acc.length ∧ t.length - j < n ∧ fr 0 = .ptr 0 0 ∧ fr 1 = I dp ∧ fr 4 = .ptr 4 0 ∧ fr 5 = .ptr 5 0 ∧ st.objs 0 = some [S t, I j, .bool false] ∧ st.objs 4 = some [I 0, I 0, I 0, S [], .list 0 [] .nil, .list 0 [] .nil] ∧
    st.objs 5 = some [I 7, I 0, I 0, S [], .list acc.length (V.cbs acc) tok2, .list ns.length (ns.map S) tok] ∧ Gr 9 st.nx st.cnt ns.length tok ∧ Gr 199 st.nx st.cnt acc.length tok2 ∧ apartT tok tok2 ∧ mapGo t (pval t b) n j ns acc = pmap t (pval t b) i) (t.length - i) (by omega)
    ⟨i, t.length + 1 - i, [], [], .nil, .nil, rfl, by omega, Nat.zero_le _, rfl, by omega, by simp (disch := omega) only [↓pa, pb, ↓reduceIte, reduceCtorEq], by simp (disch := omega) only [↓pa, pb, ↓reduceIte, Nat.reduceEqDiff], by simp (disch := omega) only [↓pa, pb, ↓reduceIte, Nat.reduceEqDiff], by simp (disch := omega) only [↓pa, ↓reduceIte, Nat.reduceEqDiff], by simp (disch := omega) only [pb, ↓reduceIte, reduceCtorEq], by simp (disch := omega) only [pb, ↓reduceIte, Nat.reduceEqDiff], by simp (disch := omega) only [pb, ↓reduceIte]; rfl, rfl, rfl, trivial, hP.symm⟩ ?_
  rintro k fr st ⟨j, n, ns, acc, tok, tok2, rfl, hj, hacc, hnl, hn, f0, f1, f4, f5, o0, o4, o5, hG, hG2, hap, hQ⟩
  have hm : (ns.map S).length = ns.length := List.length_map _
  rw [map_in (by omega)] at hQ
  simp (disch := omega) only [↓pa, ↓pmw, pb, pmy, pmwk, ↓reduceIte, Nat.reduceEqDiff, Nat.reduceAdd, reduceCtorEq, f0, f5, o0, o5]
  refine RunsTo_S (c_nameRS K (t := t) (i := j) (b := false) (by simp only [o0]) hj hl) (fun x j1 fl hx hj1 => ?_) (fun p j1 fl hx hp hj1 => ?_)
  rotate_left
  · obtain ⟨l, rfl⟩ := hp
    have hx : pname t j = none := hx
    have hno : pmap t (pval t b) i = none := by rw [← hQ, hx]
    simp (disch := omega) only [↓pa, ↓pmx, ↓pmw, pb, pmy, pmwk, ↓reduceIte, Nat.reduceEqDiff, Nat.reduceAdd, Nat.reduceLeDiff, Nat.reduceLT, pmk1]
    refine RunsTo_app2 (n := ns.length) (m := 1) (e2 := 199) (n2 := acc.length) (u := tok2) hG (by rw [hm]; omega) rfl (by omega) (by omega) (by decide) hG2 hap (fun st1 tok' ho hG' hG2' hap' => ?_)
    simp (disch := omega) only [↓pa, ↓pmw, pb, pmy, pmwk, pmwa, List.getElem?_cons_zero, List.getElem?_cons_succ, ↓reduceIte, Nat.reduceEqDiff, Nat.reduceAdd, Nat.reduceLeDiff, reduceCtorEq, f0, f5, o5, ho]
    refine (rt_takesB K.tab (t := t) (i := j1) (by simp only [pb, pmy, ↓reduceIte, reduceCtorEq, ho]) hj1 hl).2 ?_
    simp (disch := omega) only [↓pa, pb, ↓reduceIte, reduceCtorEq, f0]
    refine rt_fail K (t := t) (i := j1) (b := true) (by simp only [pb, pmy, ↓reduceIte, reduceCtorEq, ho]) fun fl => ?_
    simp (disch := omega) only [↓pa, pb, pmy, pmz, ↓reduceIte, Nat.reduceEqDiff, Nat.reduceAdd, Nat.reduceLeDiff, reduceCtorEq, f4, o4, ho, dead]
    exact OutS_none (dm := is6) hno is6_dead' rfl hj1
  have hx : pname t j = some (x, j1) := hx
  have hm1 := pname_mono hx
  rw [hx] at hQ
  simp only at hQ
  simp (disch := omega) only [↓pa, ↓pmx, ↓pmw, pb, pmy, pmwk, ↓reduceIte, Nat.reduceEqDiff, Nat.reduceAdd, Nat.reduceLeDiff, Nat.reduceLT, pmk1]
  refine RunsTo_app2 (n := ns.length) (m := 1) (e2 := 199) (n2 := acc.length) (u := tok2) hG (by rw [hm]; omega) rfl (by omega) (by omega) (by decide) hG2 hap (fun st1 tok' ho hG' hG2' hap' => ?_)
  rw [tx_snoc]
  simp (disch := omega) only [↓pa, ↓pmw, pb, pmy, pmwk, pmwa, List.getElem?_cons_zero, List.getElem?_cons_succ, ↓reduceIte, Nat.reduceEqDiff, Nat.reduceAdd, Nat.reduceLeDiff, reduceCtorEq, f0, f5, o5, ho]
  refine (rt_takes1 K (t := t) (i := j1) 58 rfl (by decide) (by simp only [pb, pmy, ↓reduceIte, reduceCtorEq, ho]) hj1 hl).2 ?_
  refine Cnd_intro (fun h58 => ?_) (fun h58 => ?_)
  rotate_left
  · have hno : pmap t (pval t b) i = none := by rw [← hQ, if_neg h58]
    simp (disch := omega) only [↓pa, pb, ↓reduceIte, reduceCtorEq, f0]
    refine rt_fail K (t := t) (i := j1) (b := false) (by simp only [pb, pmy, ↓reduceIte, reduceCtorEq, ho]) fun fl => ?_
    simp (disch := omega) only [↓pa, pb, pmy, pmz, ↓reduceIte, Nat.reduceEqDiff, Nat.reduceAdd, Nat.reduceLeDiff, reduceCtorEq, f4, o4, ho, dead]
    exact OutS_none (dm := is6) hno is6_dead' rfl hj1
  rw [if_pos h58] at hQ
  have hj58 := cI_in (show cI t j1 ≠ 0 by rw [h58]; decide)
  simp (disch := omega) only [↓pa, ↓pmw, pb, pmy, pmwk, ↓reduceIte, Nat.reduceEqDiff, Nat.reduceAdd, reduceCtorEq, f0, f1, f5, hdd]
  refine RunsTo_S (ih _ 0 (j1 + 1) (by simp only [pb, ↓reduceIte]) hj58) (fun v j2 fl hv hj2 => ?_) (fun p j2 fl hv hp hj2 => ?_)
  rotate_left
  · obtain ⟨cs, rfl, hcs, hcn, hct⟩ := hp
    have hno : pmap t (pval t b) i = none := by rw [← hQ, hv]
    simp (disch := omega) only [↓pa, ↓pmx, ↓pmw, pb, pmy, pmwk, ↓reduceIte, Nat.reduceEqDiff, Nat.reduceAdd, Nat.reduceLeDiff, Nat.reduceLT, hcs, put6, pmk1]
    refine RunsTo_app (n := acc.length) (m := 1) hG2' (by rw [V.cbs_len]) (by rw [hcs]) (by omega) (by omega) (by decide) ?_
    simp (disch := omega) only [↓pa, ↓pmw, pb, pmy, pmwk, pmwa, List.getElem?_cons_zero, List.getElem?_cons_succ, ↓reduceIte, Nat.reduceEqDiff, Nat.reduceAdd, Nat.reduceLeDiff, reduceCtorEq, f0, f5]
    refine (rt_takesB K.tab (t := t) (i := j2) (by simp only [pb, pmy, ↓reduceIte, reduceCtorEq]) hj2 hl).2 ?_
    simp (disch := omega) only [↓pa, pb, ↓reduceIte, reduceCtorEq, f0]
    refine (rt_takesB K.tab (t := t) (i := j2) (by simp only [pb, pmy, ↓reduceIte, reduceCtorEq]) hj2 hl).2 ?_
    simp (disch := omega) only [↓pa, pb, ↓reduceIte, reduceCtorEq, f0]
    refine rt_fail K (t := t) (i := j2) (b := true) (by simp only [pb, pmy, ↓reduceIte, reduceCtorEq]) fun fl => ?_
    simp (disch := omega) only [↓pa, pb, pmy, pmz, ↓reduceIte, Nat.reduceEqDiff, Nat.reduceAdd, Nat.reduceLeDiff, reduceCtorEq, f4, o4, ho, dead]
    exact OutS_none (dm := is6) hno is6_dead' rfl hj2
  have hm2 := pval_mono _ _ _ _ hv
  have hvl := v.cb_len
  rw [hv] at hQ
  simp only at hQ
  simp (disch := omega) only [↓pa, ↓pmx, ↓pmw, pb, pmy, pmwk, ↓reduceIte, Nat.reduceEqDiff, Nat.reduceAdd, Nat.reduceLeDiff, Nat.reduceLT, hvl, put6, pmk1]
  refine RunsTo_app2 (n := acc.length) (m := 1) (e2 := 9) (n2 := ns.length + 1) (u := tok') hG2' (by rw [V.cbs_len]) (by rw [hvl]) (by omega) (by omega) (by decide) hG' (apartT_symm hap') (fun st2 tok2' ho2 hG2'' hG'' hap'' => ?_)
  rw [V.cbs_snoc]
  simp (disch := omega) only [↓pa, ↓pmw, pb, pmy, pmwk, pmwa, List.getElem?_cons_zero, List.getElem?_cons_succ, ↓reduceIte, Nat.reduceEqDiff, Nat.reduceAdd, Nat.reduceLeDiff, reduceCtorEq, f0, f5, ho2]
  refine (rt_takes1 K (t := t) (i := j2) 125 rfl (by decide) (by simp only [pb, pmy, ↓reduceIte, reduceCtorEq, ho2]) hj2 hl).2 ?_
  refine Cnd_intro (fun h1 => ?_) (fun h1 => ?_)
  · rw [if_pos h1] at hQ
    have hjl := cI_in (show cI t j2 ≠ 0 by rw [h1]; decide)
    simp (disch := omega) only [↓pa, pb, pmy, ↓reduceIte, Nat.reduceEqDiff, Nat.reduceAdd, reduceCtorEq, f5]
    rw [callP_list1 (plainVs_tx _), ← ns_len (x := x), c_rising K.tab (ns ++ [x]) (by rw [ns_len]; omega)]
    simp (disch := omega) only [↓pa, pb, ↓reduceIte]
    refine Cnd_intro (fun hr => ?_) (fun hr => ?_)
    · rw [if_pos hr] at hQ
      simp (disch := omega) only [↓pa, pb, pmy, pmz, pmV, ↓reduceIte, Nat.reduceEqDiff, Nat.reduceAdd, Nat.reduceLeDiff, reduceCtorEq, f4, f5, o4, ho, ho2]
      rw [ns_len, map_valS]
      exact OutS_val hQ.symm rfl rfl hjl
    · rw [if_neg hr] at hQ
      simp (disch := omega) only [↓pa, pb, ↓reduceIte, reduceCtorEq, f0]
      refine rt_fail K (t := t) (i := j2 + 1) (b := false) (by simp only [pb, ↓reduceIte]) fun fl => ?_
      simp (disch := omega) only [↓pa, pb, pmy, pmz, ↓reduceIte, Nat.reduceEqDiff, Nat.reduceAdd, Nat.reduceLeDiff, reduceCtorEq, f4, o4, ho, ho2, dead]
      exact OutS_none (dm := is6) hQ.symm is6_dead' rfl hjl
  rw [if_neg h1] at hQ
  simp (disch := omega) only [↓pa, pb, ↓reduceIte, reduceCtorEq, f0]
  refine (rt_takes1 K (t := t) (i := j2) 44 rfl (by decide) (by simp only [pb, pmy, ↓reduceIte, reduceCtorEq, ho2]) hj2 hl).2 ?_
  refine Cnd_intro (fun h2 => ?_) (fun h2 => ?_)
  · rw [if_pos h2] at hQ
    have hjl := cI_in (show cI t j2 ≠ 0 by rw [h2]; decide)
    simp (disch := omega) only [↓pa, pb, pmy, ↓reduceIte, Nat.reduceEqDiff, reduceCtorEq, f0, f1, f4, f5, o4, ho, ho2]
    exact ⟨t.length - (j2 + 1), by omega, j2 + 1, n - 1, ns ++ [x], acc ++ [v], tok', tok2', rfl, by omega, by rw [app_len]; omega, by rw [app_len, ns_len]; omega, by omega, rfl, by rw [app_len, ns_len], by rw [ns_len]; exact hG'', by rw [app_len]; exact hG2'', apartT_symm hap'', hQ⟩
  · rw [if_neg h2] at hQ
    simp (disch := omega) only [↓pa, pb, ↓reduceIte, reduceCtorEq, f0]
    refine rt_fail K (t := t) (i := j2) (b := false) (by simp only [pb, pmy, ↓reduceIte, reduceCtorEq, ho2]) fun fl => ?_
    simp (disch := omega) only [↓pa, pb, pmy, pmz, ↓reduceIte, Nat.reduceEqDiff, Nat.reduceAdd, Nat.reduceLeDiff, reduceCtorEq, f4, o4, ho, ho2, dead]
    exact OutS_none (dm := is6) hQ.symm is6_dead' rfl hj2
theorem tk_head {t : List UInt8} {i : Nat} {c : UInt8} {l : List UInt8} (h : tk t i (c :: l) = true) : cI t i = (c.toNat : Int) := by
  have h : (t.drop i).take (l.length + 1) = c :: l := of_decide_eq_true h
  by_cases hi : i < t.length
  · rw [List.drop_eq_getElem_cons hi, List.take_succ_cons] at h
    rw [cI_get t i hi, (List.cons.inj h).1]
  · rw [List.drop_eq_nil_of_le (by omega)] at h
    cases h
theorem pint_no {t : List UInt8} {i : Nat} (h1 : ¬ cI t i = 45) (h2 : isD (cI t i) = false) : pint t i = none := by
  unfold pint
  rw [if_neg h1, skip_stop fun _ => h2, seg_nil]
  cases hr : rdInt [] with
  | none => rfl
  | some n => exact absurd (rdInt_inv hr).1 (itoa_ne n)
theorem pbody_end {t : List UInt8} {o : Option (Nat → Option (V × Nat))} {i : Nat} (h : t.length ≤ i) : pbody t o i = none := by
  have h0 := cI_end h
  have ht : ∀ c l, (c.toNat : Int) ≠ 0 → tk t i (c :: l) = false := fun c l hc => by
    cases hk : tk t i (c :: l)
    · rfl
    · exact absurd ((tk_head hk).symm.trans h0) hc
  rw [pbody_eq]
  simp [h0, isD, ht]
theorem pbody_eqS (t : List UInt8) (o : Option (Nat → Option (V × Nat))) (i : Nat) : pbody t o i =
  if tk t i [110, 117, 108, 108] = true then some (.mk 0 0 0 [] [] [], i + 4)
  else if tk t i [116, 114, 117, 101] = true then some (.mk 1 1 0 [] [] [], i + 4)
  else if tk t i [102, 97, 108, 115, 101] = true then some (.mk 1 0 0 [] [] [], i + 5)
  else if cI t i = 34 then (pquoted t (i + 1)).map fun q => (.mk 3 0 0 q.1 [] [], q.2)
  else if cI t i = 64 then (pdate t (i + 1)).map fun q => (.mk 4 q.1 0 [] [] [], q.2)
  else if cI t i = 40 then ppoint t (i + 1)
  else if cI t i = 110 then pthing t 8 (i + 1)
  else if cI t i = 101 then pthing t 9 (i + 1)
  else if cI t i = 60 then ppath t (i + 1)
  else if cI t i = 91 then plistO t o (i + 1)
  else if cI t i = 123 then pmapO t o (i + 1)
  else (pint t i).map fun q => (.mk 2 q.1 0 [] [] [], q.2) := by
  rw [pbody_eq]
  by_cases a1 : tk t i [110, 117, 108, 108] = true
  · have c : cI t i = 110 := tk_head a1
    simp [c, isD, a1]
  by_cases a2 : tk t i [116, 114, 117, 101] = true
  · have c : cI t i = 116 := tk_head a2
    simp [c, isD, a1, a2]
  by_cases a3 : tk t i [102, 97, 108, 115, 101] = true
  · have c : cI t i = 102 := tk_head a3
    simp [c, isD, a1, a2, a3]
  by_cases c1 : cI t i = 34
  · simp [c1, a1, a2, a3]
  by_cases c2 : cI t i = 64
  · simp [c2, a1, a2, a3]
  by_cases c3 : cI t i = 40
  · simp [c3, isD, a1, a2, a3]
  by_cases c4 : cI t i = 110
  · simp [c4, isD, a1, a2, a3]
  by_cases c5 : cI t i = 101
  · simp [c5, isD, a1, a2, a3]
  by_cases c6 : cI t i = 60
  · simp [c6, isD, a1, a2, a3]
  by_cases c7 : cI t i = 91
  · simp [c7, isD, a1, a2, a3]
  by_cases c8 : cI t i = 123
  · simp [c8, isD, a1, a2, a3]
  by_cases c9 : cI t i = 45
  · simp [c9, isD, a1, a2, a3]
  by_cases c10 : isD (cI t i) = true
  · simp [c1, c2, c3, c4, c5, c6, c7, c8, c10, a1, a2, a3]
  · have c10' : isD (cI t i) = false := by simpa using c10
    rw [pint_no c9 c10']
    simp [c1, c2, c3, c4, c5, c6, c7, c8, c9, c10, a1, a2, a3]
set_option maxHeartbeats 4000000 in
theorem c_valueStepS (K : Env cf) {t : List UInt8} (hl : t.length ≤ 2000000) {b : Nat} {o : Option (Nat → Option (V × Nat))} (hV : ∀ i, pval t b i = pbody t o i)
    (hd : (5 - (b : Int) < 5 ∧
      (∀ (st : St) (s i : Nat), st.objs s = some [S t, I i, .bool false] → i ≤ t.length → ∃ r c', OutS t VB (plistO t o i) is6 r c' ∧ ∃ fl, callP cf 216 [.ptr s 0, I (5 - (b : Int))] [] st = some (r, setF (setO st s c') fl)) ∧
      (∀ (st : St) (s i : Nat), st.objs s = some [S t, I i, .bool false] → i ≤ t.length → ∃ r c', OutS t VB (pmapO t o i) is6 r c' ∧ ∃ fl, callP cf 217 [.ptr s 0, I (5 - (b : Int))] [] st = some (r, setF (setO st s c') fl))) ∨
      (¬ 5 - (b : Int) < 5 ∧ o = none)) : ValOkS cf t b := by
  intro st s i hs hi
  revert hd
  generalize 5 - (b : Int) = dp
  intro hd
  refine c_ptrE K.tab (F := F200) rfl rfl rfl (lb rfl) (lb rfl) (by simp [plainV_int]) hs (plainVs_rd3 t i _) 1 ?_
  unfold F200 qr qd qm qk ql qf qo qe qN
  simp (disch := omega) only [↓pa, pb, pmy, natP, ↓reduceIte, Nat.reduceEqDiff, Nat.reduceAdd, reduceCtorEq]
  refine Cnd_intro (fun h0 => ?_) (fun h0 => ?_)
  · have hno : pval t b i = none := (hV i).trans (pbody_end h0)
    simp (disch := omega) only [↓pa, pb, ↓reduceIte, reduceCtorEq, h0]
    refine rt_fail K (t := t) (i := i) (b := false) (by simp only [pb, ↓reduceIte, reduceCtorEq]) fun fl => ?_
    simp (disch := omega) only [↓pa, pb, pmy, pmz, ↓reduceIte, Nat.reduceEqDiff, Nat.reduceAdd, Nat.reduceLeDiff, reduceCtorEq, dead]
    exact OutS_none (dm := is6) hno is6_dead' rfl (by omega)
  have hp := (hV i).trans (pbody_eqS t o i)
  simp (disch := omega) only [↓pa, pb, ↓reduceIte, reduceCtorEq, h0]
  refine (rt_takes K.tab (t := t) (i := i) (x := [110, 117, 108, 108]) (by simp only [pb, ↓reduceIte, reduceCtorEq]) hi hl (by decide)).2 ?_
  refine Cnd_intro (fun a1 => ?_) (fun a1 => ?_)
  · rw [if_pos a1] at hp
    have := tk_le hi a1
    simp (disch := omega) only [↓pa, ↓pmx, pb, pmy, pmz, ↓reduceIte, Nat.reduceEqDiff, Nat.reduceAdd, Nat.reduceLeDiff, reduceCtorEq]
    exact OutS_val hp rfl rfl this
  rw [if_neg a1] at hp
  simp (disch := omega) only [↓pa, pb, ↓reduceIte, reduceCtorEq]
  refine (rt_takes K.tab (t := t) (i := i) (x := [116, 114, 117, 101]) (by simp only [pb, ↓reduceIte, reduceCtorEq]) hi hl (by decide)).2 ?_
  refine Cnd_intro (fun a2 => ?_) (fun a2 => ?_)
  · rw [if_pos a2] at hp
    have := tk_le hi a2
    simp (disch := omega) only [↓pa, ↓pmx, pb, pmy, pmz, ↓reduceIte, Nat.reduceEqDiff, Nat.reduceAdd, Nat.reduceLeDiff, reduceCtorEq]
    exact OutS_val hp rfl rfl this
  rw [if_neg a2] at hp
  simp (disch := omega) only [↓pa, pb, ↓reduceIte, reduceCtorEq]
  refine (rt_takes K.tab (t := t) (i := i) (x := [102, 97, 108, 115, 101]) (by simp only [pb, ↓reduceIte, reduceCtorEq]) hi hl (by decide)).2 ?_
  refine Cnd_intro (fun a3 => ?_) (fun a3 => ?_)
  · rw [if_pos a3] at hp
    have := tk_le hi a3
    simp (disch := omega) only [↓pa, ↓pmx, pb, pmy, pmz, ↓reduceIte, Nat.reduceEqDiff, Nat.reduceAdd, Nat.reduceLeDiff, reduceCtorEq]
    exact OutS_val hp rfl rfl this
  rw [if_neg a3] at hp
  simp (disch := omega) only [↓pa, pb, ↓reduceIte, reduceCtorEq]
  refine (rt_takes1 K (t := t) (i := i) 34 rfl (by decide) (by simp only [pb, ↓reduceIte, reduceCtorEq]) hi hl).2 ?_
  refine Cnd_intro (fun c1 => ?_) (fun c1 => ?_)
  · have hlt := cI_in (show cI t i ≠ 0 by rw [c1]; decide)
    rw [if_pos c1] at hp
    simp (disch := omega) only [↓pa, pb, ↓reduceIte, reduceCtorEq]
    refine RunsTo_S (c_quotedS K (t := t) (i := i + 1) (by simp only [pb, ↓reduceIte]) hlt hl) (fun v j fl hv hj => ?_) (fun p j fl hv hx hj => ?_)
    · rw [hv] at hp
      simp (disch := omega) only [↓pa, ↓pmx, pb, pmy, pmz, ↓reduceIte, Nat.reduceEqDiff, Nat.reduceAdd, Nat.reduceLeDiff, reduceCtorEq]
      exact OutS_val hp rfl rfl hj
    · obtain ⟨l, rfl⟩ := hx
      rw [hv] at hp
      simp (disch := omega) only [↓pa, ↓pmx, pb, pmy, pmz, ↓reduceIte, Nat.reduceEqDiff, Nat.reduceAdd, Nat.reduceLeDiff, reduceCtorEq]
      exact OutS_none (dm := is6) hp ⟨_, rfl, rfl, by simp only [pmz, Bool.and_self], by simp only [pmz]⟩ rfl hj
  rw [if_neg c1] at hp
  simp (disch := omega) only [↓pa, pb, ↓reduceIte, reduceCtorEq]
  refine (rt_takes1 K (t := t) (i := i) 64 rfl (by decide) (by simp only [pb, ↓reduceIte, reduceCtorEq]) hi hl).2 ?_
  refine Cnd_intro (fun c2 => ?_) (fun c2 => ?_)
  · have hlt := cI_in (show cI t i ≠ 0 by rw [c2]; decide)
    rw [if_pos c2] at hp
    simp (disch := omega) only [↓pa, pb, ↓reduceIte, reduceCtorEq]
    refine RunsTo_S (c_dateS K (t := t) (i := i + 1) (by simp only [pb, ↓reduceIte]) hlt hl) (fun v j fl hv hj => ?_) (fun p j fl hv hx hj => ?_)
    · have hvl := v.cb_len
      simp (disch := omega) only [↓pa, pb, pmy, pmz, pmV, ↓reduceIte, Nat.reduceEqDiff, Nat.reduceAdd, Nat.reduceLeDiff, reduceCtorEq, hvl, put6, take6]
      exact OutS_val (hp.trans hv) rfl rfl hj
    · obtain ⟨cs, rfl, hcs, hcn, hct⟩ := hx
      simp (disch := omega) only [↓pa, pb, pmy, pmz, ↓reduceIte, Nat.reduceEqDiff, Nat.reduceAdd, Nat.reduceLeDiff, reduceCtorEq, hcs, hcn, hct, put6, take6]
      exact OutS_none (dm := is6) (hp.trans hv) ⟨_, rfl, hcs, hcn, hct⟩ rfl hj
  rw [if_neg c2] at hp
  simp (disch := omega) only [↓pa, pb, ↓reduceIte, reduceCtorEq]
  refine (rt_takes1 K (t := t) (i := i) 40 rfl (by decide) (by simp only [pb, ↓reduceIte, reduceCtorEq]) hi hl).2 ?_
  refine Cnd_intro (fun c3 => ?_) (fun c3 => ?_)
  · have hlt := cI_in (show cI t i ≠ 0 by rw [c3]; decide)
    rw [if_pos c3] at hp
    simp (disch := omega) only [↓pa, pb, ↓reduceIte, reduceCtorEq]
    refine rt_number K (t := t) (i := i + 1) (b := false) (by simp only [pb, ↓reduceIte]) hlt hl (fun a j fl _ ha hj => ?_) (fun n j fl h hj => ?_)
    rotate_left
    · have ha : pint t (i + 1) = none := by rcases h with h | h; cases h; exact h
      have hno : pval t b i = none := by rw [hp, ppoint, ha]
      simp (disch := omega) only [↓pa, pb, pmy, ↓reduceIte, Nat.reduceEqDiff, Nat.reduceAdd, Nat.reduceLeDiff, reduceCtorEq]
      refine rt_number K (t := t) (b := true) (by simp only [pb, ↓reduceIte] <;> rfl) (by assumption) hl (fun _ _ _ h => by cases h) (fun _ _ _ _ _ => ?_)
      simp (disch := omega) only [↓pa, pb, pmy, ↓reduceIte, Nat.reduceEqDiff, Nat.reduceAdd, reduceCtorEq]
      refine rt_fail K (t := t) (by simp only [pb, pmy, ↓reduceIte] <;> rfl) fun fl => ?_
      simp (disch := omega) only [↓pa, pb, pmy, pmz, ↓reduceIte, Nat.reduceEqDiff, Nat.reduceAdd, Nat.reduceLeDiff, reduceCtorEq, dead]
      exact OutS_none (dm := is6) hno is6_dead' rfl (by omega)
    simp (disch := omega) only [↓pa, pb, pmy, ↓reduceIte, Nat.reduceEqDiff, Nat.reduceAdd, reduceCtorEq]
    refine (rt_takes1 K (t := t) (i := j) 32 rfl (by decide) (by simp only [pb, pmy, ↓reduceIte]) hj hl).2 ?_
    refine Cnd_intro (fun h32 => ?_) (fun h32 => ?_)
    rotate_left
    · have hno : pval t b i = none := by rw [hp, ppoint, ha]; simp only; rw [if_neg h32]
      simp (disch := omega) only [↓pa, pb, pmy, ↓reduceIte, Nat.reduceEqDiff, Nat.reduceAdd, Nat.reduceLeDiff, reduceCtorEq]
      refine rt_number K (t := t) (b := true) (by simp only [pb, ↓reduceIte] <;> rfl) (by assumption) hl (fun _ _ _ h => by cases h) (fun _ _ _ _ _ => ?_)
      simp (disch := omega) only [↓pa, pb, pmy, ↓reduceIte, Nat.reduceEqDiff, Nat.reduceAdd, reduceCtorEq]
      refine rt_fail K (t := t) (by simp only [pb, pmy, ↓reduceIte] <;> rfl) fun fl => ?_
      simp (disch := omega) only [↓pa, pb, pmy, pmz, ↓reduceIte, Nat.reduceEqDiff, Nat.reduceAdd, Nat.reduceLeDiff, reduceCtorEq, dead]
      exact OutS_none (dm := is6) hno is6_dead' rfl (by omega)
    have hjl := cI_in (show cI t j ≠ 0 by rw [h32]; decide)
    simp (disch := omega) only [↓pa, pb, pmy, ↓reduceIte, Nat.reduceEqDiff, Nat.reduceAdd, Nat.reduceLeDiff, reduceCtorEq]
    refine rt_number K (t := t) (i := j + 1) (b := false) (by simp only [pb, ↓reduceIte]) hjl hl (fun b' k fl _ hb hk => ?_) (fun n k fl h hk => ?_)
    rotate_left
    · have hb : pint t (j + 1) = none := by rcases h with h | h; cases h; exact h
      have hno : pval t b i = none := by rw [hp, ppoint, ha]; simp only; rw [if_pos h32, hb]
      simp (disch := omega) only [↓pa, pb, pmy, ↓reduceIte, Nat.reduceEqDiff, Nat.reduceAdd, reduceCtorEq]
      refine rt_fail K (t := t) (by simp only [pb, pmy, ↓reduceIte] <;> rfl) fun fl => ?_
      simp (disch := omega) only [↓pa, pb, pmy, pmz, ↓reduceIte, Nat.reduceEqDiff, Nat.reduceAdd, Nat.reduceLeDiff, reduceCtorEq, dead]
      exact OutS_none (dm := is6) hno is6_dead' rfl (by omega)
    have hpp : pval t b i = if cI t k = 41 ∧ big a = false ∧ big b' = false then some (.mk 5 a b' [] [] [], k + 1) else none := by rw [hp, ppoint, ha]; simp only; rw [if_pos h32, hb]
    simp (disch := omega) only [↓pa, pb, pmy, ↓reduceIte, Nat.reduceEqDiff, Nat.reduceAdd, reduceCtorEq]
    refine (rt_takes1 K (t := t) (i := k) 41 rfl (by decide) (by simp only [pb, pmy, ↓reduceIte]) hk hl).2 ?_
    refine Cnd_intro (fun h41 => ?_) (fun h41 => ?_)
    rotate_left
    · have hno : pval t b i = none := by rw [hpp, if_neg fun h => h41 h.1]
      simp (disch := omega) only [↓pa, pb, ↓reduceIte, Nat.reduceEqDiff, reduceCtorEq]
      refine rt_fail K (t := t) (by simp only [pb, pmy, ↓reduceIte] <;> rfl) fun fl => ?_
      simp (disch := omega) only [↓pa, pb, pmy, pmz, ↓reduceIte, Nat.reduceEqDiff, Nat.reduceAdd, Nat.reduceLeDiff, reduceCtorEq, dead]
      exact OutS_none (dm := is6) hno is6_dead' rfl (by omega)
    have hkl := cI_in (show cI t k ≠ 0 by rw [h41]; decide)
    have hbig : ∀ x, big x = true ↔ (x < -1000000 ∨ 1000000 < x) := fun x => by simp [big]
    simp (disch := omega) only [↓pa, pb, ↓reduceIte, Nat.reduceEqDiff]
    refine Cnd_intro (fun b1 => ?_) (fun b1 => ?_)
    · have hno : pval t b i = none := by rw [hpp, if_neg fun h => by rw [(hbig a).2 (.inl b1)] at h; simp at h]
      simp (disch := omega) only [↓pa, pb, ↓reduceIte, Nat.reduceEqDiff, reduceCtorEq, b1]
      refine rt_fail K (t := t) (by simp only [pb, ↓reduceIte] <;> rfl) fun fl => ?_
      simp (disch := omega) only [↓pa, pb, pmy, pmz, ↓reduceIte, Nat.reduceEqDiff, Nat.reduceAdd, Nat.reduceLeDiff, reduceCtorEq, dead]
      exact OutS_none (dm := is6) hno is6_dead' rfl (by omega)
    simp (disch := omega) only [↓pa, pb, ↓reduceIte, Nat.reduceEqDiff, b1]
    refine Cnd_intro (fun b2 => ?_) (fun b2 => ?_)
    · have hno : pval t b i = none := by rw [hpp, if_neg fun h => by rw [(hbig a).2 (.inr b2)] at h; simp at h]
      simp (disch := omega) only [↓pa, pb, ↓reduceIte, Nat.reduceEqDiff, reduceCtorEq, b2]
      refine rt_fail K (t := t) (by simp only [pb, ↓reduceIte] <;> rfl) fun fl => ?_
      simp (disch := omega) only [↓pa, pb, pmy, pmz, ↓reduceIte, Nat.reduceEqDiff, Nat.reduceAdd, Nat.reduceLeDiff, reduceCtorEq, dead]
      exact OutS_none (dm := is6) hno is6_dead' rfl (by omega)
    simp (disch := omega) only [↓pa, pb, ↓reduceIte, Nat.reduceEqDiff, b2]
    refine Cnd_intro (fun b3 => ?_) (fun b3 => ?_)
    · have hno : pval t b i = none := by rw [hpp, if_neg fun h => by rw [(hbig b').2 (.inl b3)] at h; simp at h]
      simp (disch := omega) only [↓pa, pb, ↓reduceIte, Nat.reduceEqDiff, reduceCtorEq, b3]
      refine rt_fail K (t := t) (by simp only [pb, ↓reduceIte] <;> rfl) fun fl => ?_
      simp (disch := omega) only [↓pa, pb, pmy, pmz, ↓reduceIte, Nat.reduceEqDiff, Nat.reduceAdd, Nat.reduceLeDiff, reduceCtorEq, dead]
      exact OutS_none (dm := is6) hno is6_dead' rfl (by omega)
    simp (disch := omega) only [↓pa, pb, ↓reduceIte, Nat.reduceEqDiff, b3]
    refine Cnd_intro (fun b4 => ?_) (fun b4 => ?_)
    · have hno : pval t b i = none := by rw [hpp, if_neg fun h => by rw [(hbig b').2 (.inr b4)] at h; simp at h]
      simp (disch := omega) only [↓pa, pb, ↓reduceIte, reduceCtorEq, b4]
      refine rt_fail K (t := t) (by simp only [pb, ↓reduceIte] <;> rfl) fun fl => ?_
      simp (disch := omega) only [↓pa, pb, pmy, pmz, ↓reduceIte, Nat.reduceEqDiff, Nat.reduceAdd, Nat.reduceLeDiff, reduceCtorEq, dead]
      exact OutS_none (dm := is6) hno is6_dead' rfl (by omega)
    · have ba : big a = false := by cases h : big a; rfl; exact absurd ((hbig a).1 h) (by omega)
      have bb : big b' = false := by cases h : big b'; rfl; exact absurd ((hbig b').1 h) (by omega)
      simp (disch := omega) only [↓pa, ↓pmx, pb, pmy, pmz, ↓reduceIte, Nat.reduceEqDiff, Nat.reduceAdd, Nat.reduceLeDiff, reduceCtorEq, b4]
      exact OutS_val (by rw [hpp, if_pos ⟨h41, ba, bb⟩]) rfl rfl hkl
  rw [if_neg c3] at hp
  simp (disch := omega) only [↓pa, pb, ↓reduceIte, reduceCtorEq]
  refine (rt_takes1 K (t := t) (i := i) 110 rfl (by decide) (by simp only [pb, ↓reduceIte, reduceCtorEq]) hi hl).2 ?_
  refine Cnd_intro (fun c4 => ?_) (fun c4 => ?_)
  · have hlt := cI_in (show cI t i ≠ 0 by rw [c4]; decide)
    rw [if_pos c4] at hp
    simp (disch := omega) only [↓pa, pb, ↓reduceIte, reduceCtorEq]
    refine RunsTo_S (c_thingS K (t := t) (i := i + 1) (b := false) (by simp only [pb, ↓reduceIte]) hlt hl) (fun v j fl hv hj => ?_) (fun p j fl hv hx hj => ?_)
    · have hvl := v.cb_len
      simp (disch := omega) only [↓pa, pb, pmy, pmz, pmV, ↓reduceIte, Nat.reduceEqDiff, Nat.reduceAdd, Nat.reduceLeDiff, reduceCtorEq, hvl, put6, take6]
      exact OutS_val (hp.trans hv) rfl rfl hj
    · obtain ⟨cs, rfl, hcs, hcn, hct⟩ := hx
      simp (disch := omega) only [↓pa, pb, pmy, pmz, ↓reduceIte, Nat.reduceEqDiff, Nat.reduceAdd, Nat.reduceLeDiff, reduceCtorEq, hcs, hcn, hct, put6, take6]
      exact OutS_none (dm := is6) (hp.trans hv) ⟨_, rfl, hcs, hcn, hct⟩ rfl hj
  rw [if_neg c4] at hp
  simp (disch := omega) only [↓pa, pb, ↓reduceIte, reduceCtorEq]
  refine (rt_takes1 K (t := t) (i := i) 101 rfl (by decide) (by simp only [pb, ↓reduceIte, reduceCtorEq]) hi hl).2 ?_
  refine Cnd_intro (fun c5 => ?_) (fun c5 => ?_)
  · have hlt := cI_in (show cI t i ≠ 0 by rw [c5]; decide)
    rw [if_pos c5] at hp
    simp (disch := omega) only [↓pa, pb, ↓reduceIte, reduceCtorEq]
    refine RunsTo_S (c_thingS K (t := t) (i := i + 1) (b := false) (by simp only [pb, ↓reduceIte]) hlt hl) (fun v j fl hv hj => ?_) (fun p j fl hv hx hj => ?_)
    · have hvl := v.cb_len
      simp (disch := omega) only [↓pa, pb, pmy, pmz, pmV, ↓reduceIte, Nat.reduceEqDiff, Nat.reduceAdd, Nat.reduceLeDiff, reduceCtorEq, hvl, put6, take6]
      exact OutS_val (hp.trans hv) rfl rfl hj
    · obtain ⟨cs, rfl, hcs, hcn, hct⟩ := hx
      simp (disch := omega) only [↓pa, pb, pmy, pmz, ↓reduceIte, Nat.reduceEqDiff, Nat.reduceAdd, Nat.reduceLeDiff, reduceCtorEq, hcs, hcn, hct, put6, take6]
      exact OutS_none (dm := is6) (hp.trans hv) ⟨_, rfl, hcs, hcn, hct⟩ rfl hj
  rw [if_neg c5] at hp
  simp (disch := omega) only [↓pa, pb, ↓reduceIte, reduceCtorEq]
  refine (rt_takes1 K (t := t) (i := i) 60 rfl (by decide) (by simp only [pb, ↓reduceIte, reduceCtorEq]) hi hl).2 ?_
  refine Cnd_intro (fun c6 => ?_) (fun c6 => ?_)
  · have hlt := cI_in (show cI t i ≠ 0 by rw [c6]; decide)
    rw [if_pos c6] at hp
    simp (disch := omega) only [↓pa, pb, ↓reduceIte, reduceCtorEq]
    refine RunsTo_S (c_pathS K (t := t) (i := i + 1) (by simp only [pb, ↓reduceIte]) hlt hl) (fun v j fl hv hj => ?_) (fun p j fl hv hx hj => ?_)
    · have hvl := v.cb_len
      simp (disch := omega) only [↓pa, pb, pmy, pmz, pmV, ↓reduceIte, Nat.reduceEqDiff, Nat.reduceAdd, Nat.reduceLeDiff, reduceCtorEq, hvl, put6, take6]
      exact OutS_val (hp.trans hv) rfl rfl hj
    · obtain ⟨cs, rfl, hcs, hcn, hct⟩ := hx
      simp (disch := omega) only [↓pa, pb, pmy, pmz, ↓reduceIte, Nat.reduceEqDiff, Nat.reduceAdd, Nat.reduceLeDiff, reduceCtorEq, hcs, hcn, hct, put6, take6]
      exact OutS_none (dm := is6) (hp.trans hv) ⟨_, rfl, hcs, hcn, hct⟩ rfl hj
  rw [if_neg c6] at hp
  rcases hd with ⟨h5, hL, hM⟩ | ⟨h5, ho⟩
  · simp (disch := omega) only [↓pa, pb, ↓reduceIte, Nat.reduceEqDiff, reduceCtorEq, h5]
    refine (rt_takes1 K (t := t) (i := i) 91 rfl (by decide) (by simp only [pb, ↓reduceIte, reduceCtorEq]) hi hl).2 ?_
    refine Cnd_intro (fun c7 => ?_) (fun c7 => ?_)
    · have hlt := cI_in (show cI t i ≠ 0 by rw [c7]; decide)
      rw [if_pos c7] at hp
      simp (disch := omega) only [↓pa, pb, ↓reduceIte, Nat.reduceEqDiff, reduceCtorEq]
      refine RunsTo_S (hL _ 0 (i + 1) (by simp only [pb, ↓reduceIte]) hlt) (fun v j fl hv hj => ?_) (fun p j fl hv hx hj => ?_)
      · have hvl := v.cb_len
        simp (disch := omega) only [↓pa, pb, pmy, pmz, pmV, ↓reduceIte, Nat.reduceEqDiff, Nat.reduceAdd, Nat.reduceLeDiff, reduceCtorEq, hvl, put6, take6]
        exact OutS_val (hp.trans hv) rfl rfl hj
      · obtain ⟨cs, rfl, hcs, hcn, hct⟩ := hx
        simp (disch := omega) only [↓pa, pb, pmy, pmz, ↓reduceIte, Nat.reduceEqDiff, Nat.reduceAdd, Nat.reduceLeDiff, reduceCtorEq, hcs, hcn, hct, put6, take6]
        exact OutS_none (dm := is6) (hp.trans hv) ⟨_, rfl, hcs, hcn, hct⟩ rfl hj
    rw [if_neg c7] at hp
    simp (disch := omega) only [↓pa, pb, ↓reduceIte, Nat.reduceEqDiff, reduceCtorEq, h5]
    refine (rt_takes1 K (t := t) (i := i) 123 rfl (by decide) (by simp only [pb, ↓reduceIte, reduceCtorEq]) hi hl).2 ?_
    refine Cnd_intro (fun c8 => ?_) (fun c8 => ?_)
    · have hlt := cI_in (show cI t i ≠ 0 by rw [c8]; decide)
      rw [if_pos c8] at hp
      simp (disch := omega) only [↓pa, pb, ↓reduceIte, Nat.reduceEqDiff, reduceCtorEq]
      refine RunsTo_S (hM _ 0 (i + 1) (by simp only [pb, ↓reduceIte]) hlt) (fun v j fl hv hj => ?_) (fun p j fl hv hx hj => ?_)
      · have hvl := v.cb_len
        simp (disch := omega) only [↓pa, pb, pmy, pmz, pmV, ↓reduceIte, Nat.reduceEqDiff, Nat.reduceAdd, Nat.reduceLeDiff, reduceCtorEq, hvl, put6, take6]
        exact OutS_val (hp.trans hv) rfl rfl hj
      · obtain ⟨cs, rfl, hcs, hcn, hct⟩ := hx
        simp (disch := omega) only [↓pa, pb, pmy, pmz, ↓reduceIte, Nat.reduceEqDiff, Nat.reduceAdd, Nat.reduceLeDiff, reduceCtorEq, hcs, hcn, hct, put6, take6]
        exact OutS_none (dm := is6) (hp.trans hv) ⟨_, rfl, hcs, hcn, hct⟩ rfl hj
    rw [if_neg c8] at hp
    simp (disch := omega) only [↓pa, pb, ↓reduceIte, Nat.reduceEqDiff, reduceCtorEq]
    refine rt_number K (t := t) (i := i) (b := false) (by simp only [pb, ↓reduceIte, reduceCtorEq]) hi hl (fun a j fl _ ha hj => ?_) (fun n j fl h hj => ?_)
    · rw [ha] at hp
      simp (disch := omega) only [↓pa, ↓pmx, pb, pmy, pmz, ↓reduceIte, Nat.reduceEqDiff, Nat.reduceAdd, Nat.reduceLeDiff, reduceCtorEq]
      exact OutS_val hp rfl rfl hj
    · have ha : pint t i = none := by rcases h with h | h; cases h; exact h
      rw [ha] at hp
      simp (disch := omega) only [↓pa, ↓pmx, pb, pmy, pmz, ↓reduceIte, Nat.reduceEqDiff, Nat.reduceAdd, Nat.reduceLeDiff, reduceCtorEq]
      exact OutS_none (dm := is6) hp ⟨_, rfl, rfl, by simp only [pmz, Bool.and_self], by simp only [pmz]⟩ rfl hj
  · subst ho
    have hp : pval t b i = (pint t i).map fun q => (.mk 2 q.1 0 [] [] [], q.2) := by
      rw [hp]
      by_cases c7 : cI t i = 91
      · rw [if_pos c7, pint_no (by omega) (by rw [c7]; rfl)]; rfl
      rw [if_neg c7]
      by_cases c8 : cI t i = 123
      · rw [if_pos c8, pint_no (by omega) (by rw [c8]; rfl)]; rfl
      rw [if_neg c8]
    simp (disch := omega) only [↓pa, pb, ↓reduceIte, Nat.reduceEqDiff, reduceCtorEq, h5]
    refine rt_number K (t := t) (i := i) (b := false) (by simp only [pb, ↓reduceIte, reduceCtorEq]) hi hl (fun a j fl _ ha hj => ?_) (fun n j fl h hj => ?_)
    · rw [ha] at hp
      simp (disch := omega) only [↓pa, ↓pmx, pb, pmy, pmz, ↓reduceIte, Nat.reduceEqDiff, Nat.reduceAdd, Nat.reduceLeDiff, reduceCtorEq]
      exact OutS_val hp rfl rfl hj
    · have ha : pint t i = none := by rcases h with h | h; cases h; exact h
      rw [ha] at hp
      simp (disch := omega) only [↓pa, ↓pmx, pb, pmy, pmz, ↓reduceIte, Nat.reduceEqDiff, Nat.reduceAdd, Nat.reduceLeDiff, reduceCtorEq]
      exact OutS_none (dm := is6) hp ⟨_, rfl, rfl, by simp only [pmz, Bool.and_self], by simp only [pmz]⟩ rfl hj
theorem c_valueS (K : Env cf) {t : List UInt8} (hl : t.length ≤ 2000000) : ∀ b, b ≤ 5 → ValOkS cf t b
  | 0, _ => c_valueStepS K hl (o := none) (fun _ => rfl) (.inr ⟨by decide, rfl⟩)
  | b + 1, hb => c_valueStepS K hl (o := some (pval t b)) (fun _ => rfl) (.inl ⟨by omega, fun _ _ _ hs hi => c_listS K hs hi hl (by omega) (c_valueS K hl b (by omega)), fun _ _ _ hs hi => c_mapS K hs hi hl (by omega) (c_valueS K hl b (by omega))⟩)
end Go.PM
namespace Go.PM
mutual
def V.wild : V → Bool
  | .mk k _ _ _ _ vs => decide (8 ≤ k) || V.wilds vs
def V.wilds : List V → Bool
  | [] => false
  | v :: vs => v.wild || V.wilds vs
end
mutual
def V.plain : V → Bool
  | .mk k _ _ _ _ vs => !(decide (k < 0) || decide (8 ≤ k)) && V.plains vs
def V.plains : List V → Bool
  | [] => true
  | v :: vs => (decide (v.kind = 0) || v.plain) && V.plains vs
end
mutual
def V.good : V → Bool
  | .mk k _ _ _ _ vs => decide (0 ≤ k) && (decide (k ≠ 0) || vs.isEmpty) && (decide (vs.length ≤ 2000000) && V.goods vs)
def V.goods : List V → Bool
  | [] => true
  | v :: vs => v.good && V.goods vs
end
mutual
theorem V.plain_wild : ∀ v : V, v.good = true → v.plain = !v.wild
  | .mk k n m s ns vs, h => by
    rw [V.good, Bool.and_eq_true, Bool.and_eq_true] at h
    obtain ⟨⟨h1, h2⟩, h3⟩ := h
    rw [Bool.and_eq_true] at h3
    have h3 := h3.2
    have h1 := of_decide_eq_true h1
    rw [V.plain, V.wild, V.plains_wilds vs h3]
    have : decide (k < 0) = false := decide_eq_false (by omega)
    rw [this]
    cases decide (8 ≤ k) <;> cases V.wilds vs <;> rfl
theorem V.plains_wilds : ∀ vs : List V, V.goods vs = true → V.plains vs = !V.wilds vs
  | [], _ => rfl
  | v :: vs, h => by
    rw [V.goods, Bool.and_eq_true] at h
    have ih := V.plain_wild v h.1
    have hz : v.kind = 0 → v.wild = false := fun hk => by
      match v, h.1, hk with
      | .mk k n m s ns ws, hg, hk =>
        have hk : k = 0 := hk
        subst hk
        rw [V.good, Bool.and_eq_true, Bool.and_eq_true] at hg
        have h2 : (decide ((0 : Int) ≠ 0) || ws.isEmpty) = true := hg.1.2
        have : ws = [] := by simpa using h2
        subst this
        rfl
    rw [V.plains, V.wilds, V.plains_wilds vs h.2, ih]
    by_cases hk : v.kind = 0
    · rw [hz hk]
      simp [hk]
    · simp [hk]
end
theorem V.goods_snoc : ∀ (vs : List V) (v : V), V.goods vs = true → v.good = true → V.goods (vs ++ [v]) = true
  | [], v, _, h => by simp [V.goods, h]
  | w :: vs, v, h, k => by
    rw [V.goods, Bool.and_eq_true] at h
    rw [List.cons_append, V.goods, h.1, V.goods_snoc vs v h.2 k]; rfl
theorem good_one {k n m : Int} {s : List UInt8} (h : 0 ≤ k) : (V.mk k n m s [] []).good = true := by
  rw [V.good, decide_eq_true h]; simp [V.goods]
theorem good_many {k n m : Int} {s : List UInt8} {ns : List (List UInt8)} {vs : List V} (h : 0 < k) (hl : vs.length ≤ 2000000) (g : V.goods vs = true) : (V.mk k n m s ns vs).good = true := by
  rw [V.good, decide_eq_true (show 0 ≤ k by omega), decide_eq_true (show k ≠ 0 by omega), decide_eq_true hl, g]; rfl
theorem pthing_good {t : List UInt8} {k : Int} {i j : Nat} {v : V} (hk : 0 ≤ k) (h : pthing t k i = some (v, j)) : v.good = true := by
  unfold pthing at h
  simp only [Option.map_eq_some_iff, Prod.mk.injEq] at h
  obtain ⟨_, _, rfl, _⟩ := h
  exact good_one hk
theorem pathGo_good {t : List UInt8} : ∀ (n : Nat) (node : Bool) (i : Nat) (acc : List V) {v : V} {j : Nat}, acc.length + n ≤ 2000000 → V.goods acc = true → pathGo t n node i acc = some (v, j) → v.good = true
  | 0, _, _, _, _, _, _, _, h => by cases h
  | n + 1, node, i, acc, v, j, hb, g, h => by
    have ih := fun node i acc hb g => pathGo_good (t := t) n node i acc (v := v) (j := j) hb g
    rw [pathGo] at h
    by_cases hc : cI t i = (if node then 110 else 101)
    · rw [if_pos hc] at h
      cases hv : pthing t (if node then 8 else 9) (i + 1) with
      | none => rw [hv] at h; cases h
      | some q =>
        obtain ⟨w, j1⟩ := q
        rw [hv] at h
        simp only at h
        have hw := pthing_good (by split <;> decide) hv
        split at h
        · cases h; exact good_many (by decide) (by rw [app_len]; omega) (V.goods_snoc _ _ g hw)
        · split at h
          · exact ih _ _ _ (by rw [app_len]; omega) (V.goods_snoc _ _ g hw) h
          · cases h
    · rw [if_neg hc] at h; cases h
theorem listGo_good {t : List UInt8} {rd : Nat → Option (V × Nat)} (hr : ∀ i v j, rd i = some (v, j) → v.good = true) : ∀ (n i : Nat) (acc : List V) {v : V} {j : Nat}, acc.length + n ≤ 2000000 → V.goods acc = true → listGo t rd n i acc = some (v, j) → v.good = true
  | 0, _, _, _, _, _, _, h => by cases h
  | n + 1, i, acc, v, j, hb, g, h => by
    have ih := fun i acc hb g => listGo_good (t := t) hr n i acc (v := v) (j := j) hb g
    rw [listGo] at h
    split at h
    · rename_i hv
      have hw := hr _ _ _ hv
      split at h
      · cases h; exact good_many (by decide) (by rw [app_len]; omega) (V.goods_snoc _ _ g hw)
      · split at h
        · exact ih _ _ (by rw [app_len]; omega) (V.goods_snoc _ _ g hw) h
        · cases h
    · cases h
theorem mapGo_good {t : List UInt8} {rd : Nat → Option (V × Nat)} (hr : ∀ i v j, rd i = some (v, j) → v.good = true) : ∀ (n i : Nat) (ns : List (List UInt8)) (acc : List V) {v : V} {j : Nat}, acc.length + n ≤ 2000000 → V.goods acc = true → mapGo t rd n i ns acc = some (v, j) → v.good = true
  | 0, _, _, _, _, _, _, _, h => by cases h
  | n + 1, i, ns, acc, v, j, hb, g, h => by
    have ih := fun i ns acc hb g => mapGo_good (t := t) hr n i ns acc (v := v) (j := j) hb g
    rw [mapGo] at h
    split at h
    · split at h
      · split at h
        · rename_i hv
          have hw := hr _ _ _ hv
          split at h
          · split at h
            · cases h; exact good_many (by decide) (by rw [app_len]; omega) (V.goods_snoc _ _ g hw)
            · cases h
          · split at h
            · exact ih _ _ _ (by rw [app_len]; omega) (V.goods_snoc _ _ g hw) h
            · cases h
        · cases h
      · cases h
    · cases h
theorem pbody_good {t : List UInt8} (hl : t.length ≤ 999999) {o : Option (Nat → Option (V × Nat))} (hr : ∀ rd, o = some rd → ∀ i v j, rd i = some (v, j) → v.good = true) {i : Nat} {v : V} {j : Nat} (h : pbody t o i = some (v, j)) : v.good = true := by
  rw [pbody_eqS] at h
  have hm : ∀ {α : Type} {q : Option (α × Nat)} {f : α → V}, (∀ a, (f a).good = true) → (q.map fun p => (f p.1, p.2)) = some (v, j) → v.good = true := fun hf h => by
    simp only [Option.map_eq_some_iff, Prod.mk.injEq] at h
    obtain ⟨_, _, rfl, _⟩ := h
    exact hf _
  by_cases a1 : tk t i [110, 117, 108, 108] = true
  · rw [if_pos a1] at h; cases h; rfl
  rw [if_neg a1] at h
  by_cases a2 : tk t i [116, 114, 117, 101] = true
  · rw [if_pos a2] at h; cases h; rfl
  rw [if_neg a2] at h
  by_cases a3 : tk t i [102, 97, 108, 115, 101] = true
  · rw [if_pos a3] at h; cases h; rfl
  rw [if_neg a3] at h
  by_cases c1 : cI t i = 34
  · rw [if_pos c1] at h
    exact hm (f := fun a => V.mk 3 0 0 a [] []) (fun a => good_one (by decide)) h
  rw [if_neg c1] at h
  by_cases c2 : cI t i = 64
  · rw [if_pos c2] at h
    exact hm (f := fun a => V.mk 4 a 0 [] [] []) (fun a => good_one (by decide)) h
  rw [if_neg c2] at h
  by_cases c3 : cI t i = 40
  · rw [if_pos c3] at h
    unfold ppoint at h
    split at h
    · split at h
      · split at h
        · split at h
          · cases h; exact good_one (by decide)
          · cases h
        · cases h
      · cases h
    · cases h
  rw [if_neg c3] at h
  by_cases c4 : cI t i = 110
  · rw [if_pos c4] at h; exact pthing_good (by decide) h
  rw [if_neg c4] at h
  by_cases c5 : cI t i = 101
  · rw [if_pos c5] at h; exact pthing_good (by decide) h
  rw [if_neg c5] at h
  by_cases c6 : cI t i = 60
  · rw [if_pos c6] at h; exact pathGo_good _ _ _ _ (by simp only [List.length_nil]; omega) rfl h
  rw [if_neg c6] at h
  by_cases c7 : cI t i = 91
  · rw [if_pos c7] at h
    cases o with
    | none => cases h
    | some rd =>
      change plist t rd (i + 1) = some (v, j) at h
      unfold plist at h
      split at h
      · cases h; exact good_one (by decide)
      · exact listGo_good (hr _ rfl) _ _ _ (by simp only [List.length_nil]; omega) rfl h
  rw [if_neg c7] at h
  by_cases c8 : cI t i = 123
  · rw [if_pos c8] at h
    cases o with
    | none => cases h
    | some rd =>
      change pmap t rd (i + 1) = some (v, j) at h
      unfold pmap at h
      split at h
      · cases h; exact good_one (by decide)
      · exact mapGo_good (hr _ rfl) _ _ _ _ (by simp only [List.length_nil]; omega) rfl h
  rw [if_neg c8] at h
  exact hm (f := fun a => V.mk 2 a 0 [] [] []) (fun a => good_one (by decide)) h
theorem pval_good {t : List UInt8} (hl : t.length ≤ 999999) : ∀ (b i : Nat) (v : V) (j : Nat), pval t b i = some (v, j) → v.good = true
  | 0, i, v, j, h => pbody_good hl (fun rd h => by cases h) (show pbody t none i = some (v, j) from h)
  | b + 1, i, v, j, h => pbody_good hl (fun rd h => by cases h; exact pval_good hl b) (show pbody t (some (pval t b)) i = some (v, j) from h)
theorem pread_good {t : List UInt8} {v : V} (h : pread t = some v) : v.good = true := by
  unfold pread at h
  split at h
  · rename_i hlen
    split at h
    · rename_i hv
      split at h
      · cases h; exact pval_good (by omega) _ _ _ _ hv
      · cases h
    · cases h
  · cases h
def fieldOk (t : List UInt8) : Bool := match pread t with
  | some v => decide (v.kind ≠ 0) && !v.wild
  | none => false
end Go.PM
namespace Go.PM
open Go.Lib
variable {cf : CallF} {st : St} {mk : PV → St → Fr × St} {A : Fr × St → Prop} {s : Nat}
theorem partP_left {as bs : List PV} {off sz : Nat} {ag : Bool} (h : off + sz ≤ as.length) : partP (as ++ bs) off sz ag = partP as off sz ag := by
  unfold partP
  rw [List.length_append, if_pos (by omega), if_pos h]
  cases ag with
  | true =>
    simp only [if_true]
    rw [List.drop_append_of_le_length (by omega), List.take_append_of_le_length (by rw [List.length_drop]; omega)]
  | false =>
    simp only [Bool.false_eq_true, if_false]
    split
    · rw [List.getElem?_append_left (by omega)]
    · rfl
theorem partP_right {as bs : List PV} {off sz : Nat} {ag : Bool} : partP (as ++ bs) (as.length + off) sz ag = partP bs off sz ag := by
  unfold partP
  have : as.length + off + sz ≤ (as ++ bs).length ↔ off + sz ≤ bs.length := by rw [List.length_append]; omega
  simp only [this]
  split
  · split
    · rw [List.drop_append, List.drop_eq_nil_of_le (by omega), List.nil_append, show as.length + off - as.length = off by omega]
    · split
      · rw [List.getElem?_append_right (by omega), show as.length + off - as.length = off by omega]
      · rfl
  · rfl
theorem partP_flat {α : Type} (enc : α → List PV) (m : Nat) (henc : ∀ a, (enc a).length = m) (off sz : Nat) (ag : Bool) (h : off + sz ≤ m) : ∀ (l : List α) (j : Nat) (hj : j < l.length), partP (l.flatMap enc) (j * m + off) sz ag = partP (enc l[j]) off sz ag
  | a :: l, 0, _ => by
    rw [List.flatMap_cons, Nat.zero_mul, Nat.zero_add, partP_left (by rw [henc]; exact h)]
    rfl
  | a :: l, j + 1, hj => by
    have hj' : j < l.length := by simpa using hj
    rw [List.flatMap_cons, show (j + 1) * m + off = (enc a).length + (j * m + off) by rw [henc, Nat.succ_mul]; omega, partP_right, partP_flat enc m henc off sz ag h l j hj']
    rfl
theorem cas_flat (vs : List V) : V.cas vs = vs.flatMap V.ca := by
  induction vs with
  | nil => rfl
  | cons v vs ih => rw [V.cas, ih]; rfl
theorem cbs_flat (vs : List V) : V.cbs vs = vs.flatMap V.cb := by
  induction vs with
  | nil => rfl
  | cons v vs ih => rw [V.cbs, ih]; rfl
theorem partP_cas {vs : List V} {j : Nat} (h : j < vs.length) : partP (V.cas vs) (j * 6) 6 true = some (VA vs[j]) := by
  have := partP_flat V.ca 6 V.ca_len 0 6 true (by decide) vs j h
  rw [cas_flat, show j * 6 = j * 6 + 0 from rfl, this]
  exact partP_all (V.ca_len _)
theorem partP_cbs {vs : List V} {j : Nat} (h : j < vs.length) : partP (V.cbs vs) (j * 6) 6 true = some (VB vs[j]) := by
  have := partP_flat V.cb 6 V.cb_len 0 6 true (by decide) vs j h
  rw [cbs_flat, show j * 6 = j * 6 + 0 from rfl, this]
  exact partP_all (V.cb_len _)
theorem partP_cbsK {vs : List V} {j : Nat} (h : j < vs.length) : partP (V.cbs vs) (j * 6) 1 false = some (I vs[j].kind) := by
  have := partP_flat V.cb 6 V.cb_len 0 1 false (by decide) vs j h
  rw [cbs_flat, show j * 6 = j * 6 + 0 from rfl, this]
  exact kindB
def ReadI (t : List UInt8) (r : PV) : Prop := match pread t with
  | some v => r = .tup [VA v, .bool true]
  | none => ∃ p, is6 p ∧ r = .tup [p, .bool false]
theorem ReadI_some {t : List UInt8} {r : PV} {v : V} (h : pread t = some v) (k : r = .tup [VA v, .bool true]) : ReadI t r := by
  unfold ReadI; rw [h]; exact k
theorem ReadI_none {t : List UInt8} {r p : PV} (h : pread t = none) (k : is6 p) (e : r = .tup [p, .bool false]) : ReadI t r := by
  unfold ReadI; rw [h]; exact ⟨p, k, e⟩
theorem c_read (K : Env cf) {t : List UInt8} : ∃ r, ReadI t r ∧ ∃ fl, callP cf 188 [S t] [] st = some (r, setF st fl) := by
  refine c_valE K.tab (F := F188) rfl rfl rfl (lb rfl) (by simp [plainV_str]) 1 ?_
  unfold F188 qr qd qm qc qk ql qo qe qN
  simp (disch := omega) only [↓pa, pb, ↓reduceIte, reduceCtorEq]
  refine Cnd_intro (fun h => ?_) (fun h => ?_)
  · simp (disch := omega) only [↓pa, ↓pmx, pb, pmy, pmz, ↓reduceIte, Nat.reduceEqDiff, Nat.reduceAdd, Nat.reduceLeDiff, h]
    exact ReadI_none (by rw [pread, if_neg (by omega)]) ⟨_, rfl, rfl, by simp only [pmz, Bool.and_self], by simp only [pmz]⟩ rfl
  have hr : pread t = match pval t 5 0 with
    | some (v, j) => if j = t.length then some v else none
    | none => none := by rw [pread, if_pos (by omega)]; rfl
  have hv5 := c_value K (t := t) (by omega) 5 (Nat.le_refl 5)
  have e5 : 5 - ((5 : Nat) : Int) = 0 := rfl
  unfold ValOk at hv5
  rw [e5] at hv5
  simp (disch := omega) only [↓pa, ↓pmx, pb, pmy, ↓reduceIte, Nat.reduceAdd, Nat.reduceLeDiff, reduceCtorEq, h]
  refine RunsTo_I (hv5 _ 13 0 (by simp (disch := omega) only [pb, ↓reduceIte]; rfl) (Nat.zero_le _)) (fun v j fl hv hj => ?_) (fun p j fl hv hx hj => ?_)
  · rw [hv] at hr
    have hvl := v.ca_len
    by_cases hjl : j = t.length
    · have hr : pread t = some v := by rw [hr]; exact if_pos hjl
      simp (disch := omega) only [↓pa, ↓pmw, pb, pmy, pmwk, pmwa, pmz, pmV, List.getElem?_cons_zero, List.getElem?_cons_succ, ↓reduceIte, Nat.reduceEqDiff, Nat.reduceAdd, Nat.reduceLeDiff, reduceCtorEq, hvl, put6, take6, hjl]
      exact ReadI_some hr rfl
    · have hr : pread t = none := by rw [hr]; exact if_neg hjl
      simp (disch := omega) only [↓pa, ↓pmw, pb, pmy, pmwk, pmwa, pmz, natP, pmV, List.getElem?_cons_zero, List.getElem?_cons_succ, ↓reduceIte, Nat.reduceEqDiff, Nat.reduceAdd, Nat.reduceLeDiff, reduceCtorEq, hvl, put6, take6, hjl]
      exact ReadI_none hr ⟨_, rfl, hvl, v.ca_plain.1, v.ca_plain.2.1⟩ rfl
  · obtain ⟨cs, rfl, hcs, hcn, hct⟩ := hx
    rw [hv] at hr
    simp (disch := omega) only [↓pa, ↓pmw, pb, pmy, pmwk, pmwa, pmz, List.getElem?_cons_zero, List.getElem?_cons_succ, ↓reduceIte, Nat.reduceEqDiff, Nat.reduceAdd, Nat.reduceLeDiff, hcs, hcn, hct, put6, take6]
    exact ReadI_none hr ⟨_, rfl, hcs, hcn, hct⟩ rfl
def ReadS (t : List UInt8) (r : PV) : Prop := match pread t with
  | some v => r = VB v
  | none => r = dead
theorem ReadS_some {t : List UInt8} {r : PV} {v : V} (h : pread t = some v) (k : r = VB v) : ReadS t r := by
  unfold ReadS; rw [h]; exact k
theorem ReadS_none {t : List UInt8} {r : PV} (h : pread t = none) (e : r = dead) : ReadS t r := by
  unfold ReadS; rw [h]; exact e
theorem c_readS (K : Env cf) {t : List UInt8} : ∃ r, ReadS t r ∧ ∃ fl, callP cf 186 [S t] [] st = some (r, setF st fl) := by
  refine c_valE K.tab (F := F186) rfl rfl rfl (lb rfl) (by simp [plainV_str]) 1 ?_
  unfold F186 qr qd qm qk ql qf qo qe qN
  simp (disch := omega) only [↓pa, pb, ↓reduceIte, reduceCtorEq]
  refine Cnd_intro (fun h => ?_) (fun h => ?_)
  · simp (disch := omega) only [↓pa, ↓pmx, pb, pmy, pmz, ↓reduceIte, Nat.reduceEqDiff, Nat.reduceAdd, Nat.reduceLeDiff, h]
    exact ReadS_none (by rw [pread, if_neg (by omega)]) rfl
  have hr : pread t = match pval t 5 0 with
    | some (v, j) => if j = t.length then some v else none
    | none => none := by rw [pread, if_pos (by omega)]; rfl
  have hv5 := c_valueS K (t := t) (by omega) 5 (Nat.le_refl 5)
  have e5 : 5 - ((5 : Nat) : Int) = 0 := rfl
  unfold ValOkS at hv5
  rw [e5] at hv5
  simp (disch := omega) only [↓pa, ↓pmx, pb, pmy, ↓reduceIte, Nat.reduceAdd, Nat.reduceLeDiff, reduceCtorEq, h]
  refine RunsTo_S (hv5 _ 11 0 (by simp (disch := omega) only [pb, ↓reduceIte]; rfl) (Nat.zero_le _)) (fun v j fl hv hj => ?_) (fun p j fl hv hx hj => ?_)
  · rw [hv] at hr
    have hvl := v.cb_len
    by_cases hjl : j = t.length
    · have hr : pread t = some v := by rw [hr]; exact if_pos hjl
      simp (disch := omega) only [↓pa, pb, pmy, pmz, pmV, ↓reduceIte, Nat.reduceEqDiff, Nat.reduceAdd, Nat.reduceLeDiff, ne_eq, reduceCtorEq, hvl, put6, take6, hjl]
      exact ReadS_some hr rfl
    · have hr : pread t = none := by rw [hr]; exact if_neg hjl
      simp (disch := omega) only [↓pa, ↓pmx, pb, pmy, pmz, natP, ↓reduceIte, Nat.reduceEqDiff, Nat.reduceAdd, Nat.reduceLeDiff, ne_eq, reduceCtorEq, hvl, put6, hjl]
      exact ReadS_none hr rfl
  · obtain ⟨cs, rfl, hcs, hcn, hct⟩ := hx
    rw [hv] at hr
    simp (disch := omega) only [↓pa, ↓pmx, pb, pmy, pmz, ↓reduceIte, Nat.reduceEqDiff, Nat.reduceAdd, Nat.reduceLeDiff, hcs, put6]
    exact ReadS_none hr rfl
theorem plainV_VA (v : V) : plainV (VA v) := plainV_agg v.ca_plain
theorem plainV_VB (v : V) : plainV (VB v) := plainV_agg v.cb_plain
theorem wilds_some {vs : List V} {j : Nat} (h : j < vs.length) (k : vs[j].wild = true) : V.wilds vs = true := by
  induction vs generalizing j with
  | nil => simp at h
  | cons v vs ih =>
    rw [V.wilds]
    cases j with
    | zero => have k : v.wild = true := k; rw [k]; rfl
    | succ j => rw [ih (by simpa using h) (by simpa using k)]; simp
theorem wilds_none {vs : List V} (h : ∀ j, (hj : j < vs.length) → vs[j].wild = false) : V.wilds vs = false := by
  induction vs with
  | nil => rfl
  | cons v vs ih =>
    have h0 : v.wild = false := h 0 (by simp)
    rw [V.wilds, h0, ih fun j hj => h (j + 1) (by simpa using hj)]; rfl
theorem plains_no {vs : List V} {j : Nat} (h : j < vs.length) (k : (decide (vs[j].kind = 0) || vs[j].plain) = false) : V.plains vs = false := by
  induction vs generalizing j with
  | nil => simp at h
  | cons v vs ih =>
    rw [V.plains]
    cases j with
    | zero => have k : (decide (v.kind = 0) || v.plain) = false := k; rw [k]; rfl
    | succ j => rw [ih (by simpa using h) (by simpa using k)]; simp
theorem plains_yes {vs : List V} (h : ∀ j, (hj : j < vs.length) → (decide (vs[j].kind = 0) || vs[j].plain) = true) : V.plains vs = true := by
  induction vs with
  | nil => rfl
  | cons v vs ih =>
    have h0 : (decide (v.kind = 0) || v.plain) = true := h 0 (by simp)
    rw [V.plains, h0, ih fun j hj => h (j + 1) (by simpa using hj)]; rfl
mutual
theorem c_wild (K : Env cf) : ∀ (v : V), v.good = true → ∀ st, callP cf 192 [VA v] [] st = some (.bool v.wild, st)
  | .mk k n m s ns vs, hg => by
    intro st
    rw [V.good, Bool.and_eq_true, Bool.and_eq_true, Bool.and_eq_true] at hg
    have hlen := of_decide_eq_true hg.2.1
    have ih := c_wilds K vs hg.2.2
    have hvl : (V.mk k n m s ns vs).ca.length = 6 := rfl
    refine c_val K.tab (F := F192) (t := 2) rfl rfl rfl (lb rfl) (by simp [plainV_VA]) (bare_bool _) (vs.length + 1) ?_
    unfold F192 qr qd qm qi qc qb qk ql qf qo qe qN
    rw [V.wild]
    have hca : (V.mk k n m s ns vs).ca = [I k, I n, I m, S s, .list ns.length (ns.map S) .no, .list vs.length (V.cas vs) .no] := by rw [V.ca]
    have hcl := V.cas_len vs
    simp (disch := omega) only [↓pa, pb, pmy, ↓reduceIte, Nat.reduceEqDiff, Nat.reduceAdd, VA, hca]
    refine Cnd_intro (fun h8 => ?_) (fun h8 => ?_)
    · simp (disch := omega) only [↓pa, pb, ↓reduceIte, h8]
    simp (disch := omega) only [↓pa, pb, pmy, ↓reduceIte, Nat.reduceEqDiff, Nat.reduceAdd, h8]
    refine Wp_rounds (fun k' fr st => ∃ j : Nat, k' = vs.length - j ∧ j ≤ vs.length ∧ fr 9 = .list vs.length (V.cas vs) .no ∧ fr 10 = I vs.length ∧ fr 11 = I j ∧ ∀ q, q < j → (hq : q < vs.length) → vs[q].wild = false) vs.length (by omega) ⟨0, rfl, by omega, by simp (disch := omega) only [↓pa, ↓reduceIte, Nat.reduceEqDiff], by simp (disch := omega) only [↓pa, ↓reduceIte, Nat.reduceEqDiff], by simp (disch := omega) only [↓pa, ↓reduceIte]; rfl, fun q hq => by omega⟩ ?_
    rintro k' fr st ⟨j, rfl, hj, f9, f10, f11, hall⟩
    simp (disch := omega) only [↓pa, pb, natP, ↓reduceIte, f10, f11]
    refine Cnd_intro (fun h1 => ?_) (fun h1 => ?_)
    · have hw := ih vs[j] (List.getElem_mem h1)
      have hvj := vs[j].ca_len
      simp (disch := omega) only [↓pa, pb, pmy, ↓reduceIte, Nat.reduceEqDiff, Nat.reduceAdd, Nat.reduceLeDiff, f9, f11, h1, partP_cas h1, hvj, put6, take6, hw]
      refine Cnd_intro (fun h2 => ?_) (fun h2 => ?_)
      · simp (disch := omega) only [↓pa, pb, ↓reduceIte, h2]
        rw [wilds_some h1 h2]
      · simp (disch := omega) only [↓pa, pb, natP, ↓reduceIte, Nat.reduceEqDiff, f9, f10, f11, h2]
        refine ⟨vs.length - (j + 1), by omega, j + 1, rfl, by omega, rfl, fun q hq hq' => ?_⟩
        by_cases e : q = j
        · subst e; simpa using h2
        · simpa using hall q (by omega) hq'
    · simp (disch := omega) only [↓pa, pb, ↓reduceIte, h1]
      rw [wilds_none fun q hq => hall q (by omega) hq]
theorem c_wilds (K : Env cf) : ∀ (vs : List V), V.goods vs = true → ∀ w ∈ vs, ∀ st, callP cf 192 [VA w] [] st = some (.bool w.wild, st)
  | [], _, w, hw => by cases hw
  | v :: vs, hg, w, hw => by
    rw [V.goods, Bool.and_eq_true] at hg
    intro st
    rcases List.mem_cons.1 hw with hw | hw
    · rw [hw]; exact c_wild K v hg.1 st
    · exact c_wilds K vs hg.2 w hw st
end
mutual
theorem c_plain (K : Env cf) : ∀ (v : V), v.good = true → ∀ st, callP cf 191 [VB v] [] st = some (.bool v.plain, st)
  | .mk k n m s ns vs, hg => by
    intro st
    rw [V.good, Bool.and_eq_true, Bool.and_eq_true, Bool.and_eq_true] at hg
    have hlen := of_decide_eq_true hg.2.1
    have ih := c_plains K vs hg.2.2
    have hvl : (V.mk k n m s ns vs).cb.length = 6 := rfl
    refine c_val K.tab (F := F191) (t := 2) rfl rfl rfl (lb rfl) (by simp [plainV_VB]) (bare_bool _) (vs.length + 1) ?_
    unfold F191 qr qd qm qi qc qb qk ql qf qo
    rw [V.plain]
    have hcb : (V.mk k n m s ns vs).cb = [I k, I n, I m, S s, .list vs.length (V.cbs vs) .no, .list ns.length (ns.map S) .no] := by rw [V.cb]
    have hcl := V.cbs_len vs
    simp (disch := omega) only [↓pa, pb, pmy, ↓reduceIte, Nat.reduceEqDiff, Nat.reduceAdd, VB, hcb]
    refine Cnd_intro (fun h0 => ?_) (fun h0 => ?_)
    · simp (disch := omega) only [↓pa, pb, ↓reduceIte, Nat.reduceEqDiff, h0]
    simp (disch := omega) only [↓pa, pb, pmy, ↓reduceIte, Nat.reduceEqDiff, Nat.reduceAdd, h0]
    refine Cnd_intro (fun h8 => ?_) (fun h8 => ?_)
    · simp (disch := omega) only [↓pa, pb, ↓reduceIte, h8]
    simp (disch := omega) only [↓pa, pb, h8]
    refine Wp_rounds (fun k' fr st => ∃ j : Nat, k' = vs.length - j ∧ j ≤ vs.length ∧ fr 1 = .ptr 1 0 ∧ st.objs 1 = some [I k, I n, I m, S s, .list vs.length (V.cbs vs) .no, .list ns.length (ns.map S) .no] ∧ fr 3 = I j ∧ ∀ q, q < j → (hq : q < vs.length) → (decide (vs[q].kind = 0) || vs[q].plain) = true) vs.length (by omega) ⟨0, rfl, by omega, by simp (disch := omega) only [↓pa, ↓reduceIte, Nat.reduceEqDiff], by simp (disch := omega) only [pb, ↓reduceIte], by simp (disch := omega) only [↓pa, ↓reduceIte]; rfl, fun q hq => by omega⟩ ?_
    rintro k' fr st ⟨j, rfl, hj, f1, o1, f3, hall⟩
    simp (disch := omega) only [↓pa, pb, pmy, natP, ↓reduceIte, Nat.reduceEqDiff, Nat.reduceAdd, f1, o1, f3]
    refine Cnd_intro (fun h1 => ?_) (fun h1 => ?_)
    · have hw := ih vs[j] (List.getElem_mem h1)
      have hvj := vs[j].cb_len
      have next : (decide (vs[j].kind = 0) || vs[j].plain) = true → ∀ q, q < j + 1 → (hq : q < vs.length) → (decide (vs[q].kind = 0) || vs[q].plain) = true := fun h q hq hq' => by
        by_cases e : q = j
        · subst e; exact h
        · exact hall q (by omega) hq'
      simp (disch := omega) only [↓pa, pb, pmy, ↓reduceIte, Nat.reduceEqDiff, Nat.reduceAdd, ne_eq, f1, o1, f3, h1, partP_cbsK h1, Nat.add_zero]
      refine Cnd_intro (fun h2 => ?_) (fun h2 => ?_)
      · simp (disch := omega) only [↓pa, pb, natP, ↓reduceIte, Nat.reduceEqDiff, f1, o1, f3, h2]
        exact ⟨vs.length - (j + 1), by omega, j + 1, rfl, by omega, rfl, by simpa using next (by rw [h2]; rfl)⟩
      · simp (disch := omega) only [↓pa, pb, pmy, ↓reduceIte, Nat.reduceEqDiff, Nat.reduceAdd, f1, o1, f3, h2, partP_cbs h1, hw]
        refine Cnd_intro (fun h3 => ?_) (fun h3 => ?_)
        · simp (disch := omega) only [↓pa, pb, natP, ↓reduceIte, Nat.reduceEqDiff, f1, o1, f3, h3]
          exact ⟨vs.length - (j + 1), by omega, j + 1, rfl, by omega, rfl, by simpa using next (by rw [h3]; simp)⟩
        · simp (disch := omega) only [↓pa, pb, ↓reduceIte, h3]
          rw [plains_no h1 (by simp [h2]; simpa using h3)]
    · simp (disch := omega) only [↓pa, pb, ↓reduceIte, h1]
      rw [plains_yes fun q hq => hall q (by omega) hq]
theorem c_plains (K : Env cf) : ∀ (vs : List V), V.goods vs = true → ∀ w ∈ vs, ∀ st, callP cf 191 [VB w] [] st = some (.bool w.plain, st)
  | [], _, w, hw => by cases hw
  | v :: vs, hg, w, hw => by
    rw [V.goods, Bool.and_eq_true] at hg
    intro st
    rcases List.mem_cons.1 hw with hw | hw
    · rw [hw]; exact c_plain K v hg.1 st
    · exact c_plains K vs hg.2 w hw st
end
theorem c_fieldValue (K : Env cf) (t : List UInt8) : callP cf 171 [S t] [] st = some (.bool (fieldOk t), st) := by
  refine c_val K.tab (F := F171) (t := 2) rfl rfl rfl (lb rfl) (by simp [plainV_str]) (bare_bool _) 1 ?_
  unfold F171 qr qm qc qo qe qN
  simp (disch := omega) only [↓pa, pb, ↓reduceIte, reduceCtorEq]
  refine RunsTo_EV (c_read K) (fun r fl hr => ?_)
  unfold ReadI at hr
  cases h : pread t with
  | some v =>
    rw [h] at hr
    have hr : r = .tup [VA v, .bool true] := hr
    subst hr
    have hvl := v.ca_len
    have hw := c_wild K v (pread_good h)
    have hf : fieldOk t = (decide (v.kind ≠ 0) && !v.wild) := by rw [fieldOk, h]
    simp (disch := omega) only [↓pa, pb, pmy, List.getElem?_cons_zero, List.getElem?_cons_succ, ↓reduceIte, Nat.reduceEqDiff, Nat.reduceAdd, Nat.reduceLeDiff, ne_eq, hvl, put6, kindA]
    by_cases hk : v.kind = 0
    · simp (disch := omega) only [↓pa, pb, ↓reduceIte, Nat.reduceEqDiff, ne_eq, hk, hf]
    · simp (disch := omega) only [↓pa, pb, pmy, ↓reduceIte, Nat.reduceEqDiff, Nat.reduceLeDiff, ne_eq, hvl, take6, hk, hf, hw]
  | none =>
    rw [h] at hr
    obtain ⟨p, ⟨cs, rfl, hcs, hcn, hct⟩, rfl⟩ := hr
    have hf : fieldOk t = false := by rw [fieldOk, h]
    simp (disch := omega) only [↓pa, pb, pmy, List.getElem?_cons_zero, List.getElem?_cons_succ, ↓reduceIte, Nat.reduceEqDiff, Nat.reduceAdd, Nat.reduceLeDiff, hcs, put6, hf]
theorem c_plainDead (K : Env cf) : callP cf 191 [dead] [] st = some (.bool false, st) := by
  have hd : dead = VB (.mk (-1) 0 0 [] [] []) := by rw [VB, V.cb]; rfl
  refine c_val K.tab (F := F191) (t := 2) rfl rfl rfl (lb rfl) (by rw [hd]; simp [plainV_VB]) (bare_bool _) 1 ?_
  unfold F191 qr qd qm qi qc qb qk ql qf qo
  simp (disch := omega) only [↓pa, pb, pmy, ↓reduceIte, Nat.reduceEqDiff, Nat.reduceAdd, Int.reduceLT, dead]
theorem c_fieldValueS (K : Env cf) (t : List UInt8) : callP cf 167 [S t] [] st = some (.bool (fieldOk t), st) := by
  refine c_val K.tab (F := F167) (t := 2) rfl rfl rfl (lb rfl) (by simp [plainV_str]) (bare_bool _) 1 ?_
  unfold F167 qr qm qc qk ql qf qo qe qN
  simp (disch := omega) only [↓pa, pb, ↓reduceIte, reduceCtorEq]
  refine RunsTo_EV (c_readS K) (fun r fl hr => ?_)
  unfold ReadS at hr
  cases h : pread t with
  | some v =>
    rw [h] at hr
    have hr : r = VB v := hr
    subst hr
    have hvl := v.cb_len
    have hg := pread_good h
    have hw := c_plain K v hg
    have hf : fieldOk t = (decide (v.kind ≠ 0) && v.plain) := by rw [fieldOk, h, V.plain_wild v hg]
    by_cases hk : v.kind = 0
    · simp (disch := omega) only [↓pa, pb, pmy, ↓reduceIte, Nat.reduceEqDiff, Nat.reduceAdd, Nat.reduceLeDiff, ne_eq, hvl, put6, kindB, hk, hf]
    · simp (disch := omega) only [↓pa, pb, pmy, ↓reduceIte, Nat.reduceEqDiff, Nat.reduceAdd, Nat.reduceLeDiff, ne_eq, hvl, put6, take6, kindB, hk, hf, hw]
  | none =>
    rw [h] at hr
    have hr : r = dead := hr
    subst hr
    have hf : fieldOk t = false := by rw [fieldOk, h]
    simp (disch := omega) only [↓pa, pb, pmy, ↓reduceIte, Nat.reduceEqDiff, Nat.reduceAdd, Nat.reduceLeDiff, ne_eq, reduceCtorEq, dead]
    rw [← dead]
    simp (disch := omega) only [↓pa, pb, ↓reduceIte, Nat.reduceEqDiff, c_plainDead K, hf]
abbrev Fd := List UInt8 × List UInt8
def fc (f : Fd) : List PV := [S f.1, S f.2]
@[reducible] def FX (l : List Fd) : PV := .list l.length (l.flatMap fc) .no
theorem fc_len (f : Fd) : (fc f).length = 2 := rfl
theorem fs_len (l : List Fd) : (l.flatMap fc).length = l.length * 2 := by
  induction l with
  | nil => rfl
  | cons f l ih => rw [List.flatMap_cons, List.length_append, ih, fc_len, List.length_cons]; omega
theorem fc_plain (f : Fd) : plainVs (fc f) := plainVs_cons (plainV_str _) (plainVs_cons (plainV_str _) plainVs_nil)
theorem fs_plain (l : List Fd) : plainVs (l.flatMap fc) := by
  induction l with
  | nil => exact plainVs_nil
  | cons f l ih => rw [List.flatMap_cons]; exact plainVs_append (fc_plain f) ih
theorem plainV_FX (l : List Fd) : plainV (FX l) := plainV_list (fs_plain l)
theorem partP_fs {l : List Fd} {j : Nat} (h : j < l.length) : partP (l.flatMap fc) (j * 2) 2 true = some (.agg [S l[j].1, S l[j].2]) := by
  have := partP_flat fc 2 fc_len 0 2 true (by decide) l j h
  rw [show j * 2 = j * 2 + 0 from rfl, this]
  rfl
theorem partP_fn {l : List Fd} {j : Nat} (h : j < l.length) : partP (l.flatMap fc) (j * 2) 1 false = some (S l[j].1) := by
  have := partP_flat fc 2 fc_len 0 1 false (by decide) l j h
  rw [show j * 2 = j * 2 + 0 from rfl, this]
  rfl
theorem partP_fv {l : List Fd} {j : Nat} (h : j < l.length) : partP (l.flatMap fc) (j * 2 + 1) 1 false = some (S l[j].2) := by
  have := partP_flat fc 2 fc_len 1 1 false (by decide) l j h
  rw [this]
  rfl
def fAt (l : List Fd) (i : Nat) : Fd := l.getD i ([], [])
theorem fAt_eq {l : List Fd} {i : Nat} (h : i < l.length) : fAt l i = l[i] := by simp [fAt, h]
def frises (l : List Fd) (i : Nat) : Bool := decide (i = 0) || sLt (fAt l (i - 1)).1 (fAt l i).1
def fieldOkAt (l : List Fd) (i : Nat) : Bool := nameOk (fAt l i).1 && (frises l i && fieldOk (fAt l i).2)
def fieldsOk (l : List Fd) : Bool := decide ((l.length : Int) ≤ 20) && alln l.length (fieldOkAt l)
set_option maxHeartbeats 1000000 in
theorem c_fields (K : Env cf) (l : List Fd) : callP cf 126 [FX l] [] st = some (.bool (fieldsOk l), st) := by
  refine c_val K.tab (F := F126) (t := 2) rfl rfl rfl (lb rfl) (by simp [plainV_FX]) (bare_bool _) (l.length + 1) ?_
  have hm := fs_len l
  unfold F126 qr qd qm qi qc qb qk ql qf qo qe
  simp (disch := omega) only [↓pa, pb, ↓reduceIte, reduceCtorEq]
  refine Cnd_intro (fun h1 => ?_) (fun h1 => ?_)
  · simp (disch := omega) only [↓pa, pb, ↓reduceIte, h1]
    have : ¬ ((l.length : Int) ≤ 20) := by omega
    simp only [fieldsOk, this, decide_false, Bool.false_and]
  have h1' : (l.length : Int) ≤ 20 := by omega
  simp (disch := omega) only [↓pa, pb, ↓reduceIte, reduceCtorEq, h1]
  refine Wp_rounds (fun k fr st => ∃ i : Nat, k = l.length - i ∧ i ≤ l.length ∧ fr 0 = FX l ∧ fr 8 = FX l ∧ fr 9 = I l.length ∧ fr 10 = I i ∧ ∀ j, j < i → fieldOkAt l j = true) l.length (by omega) ⟨0, by simp, by omega, by simp (disch := omega) only [↓pa, ↓reduceIte, reduceCtorEq], by simp (disch := omega) only [↓pa, ↓reduceIte, Nat.reduceEqDiff], by simp (disch := omega) only [↓pa, ↓reduceIte, Nat.reduceEqDiff], by simp (disch := omega) only [↓pa, ↓reduceIte]; rfl, fun j hj => by omega⟩ ?_
  rintro k fr st ⟨i, rfl, hi, f0, f8, f9, f10, hall⟩
  simp (disch := omega) only [↓pa, pb, natP, ↓reduceIte, f9, f10]
  refine Cnd_intro (fun h4 => ?_) (fun h4 => ?_)
  rotate_left
  · simp (disch := omega) only [↓pa, pb, ↓reduceIte, h4]
    have ha : alln l.length (fieldOkAt l) = true := alln_true fun j hj => hall j (by omega)
    simp only [fieldsOk, decide_eq_true h1', ha, Bool.and_self]
  have hlt : i < l.length := h4
  have bad : fieldOkAt l i = false → fieldsOk l = false := fun h => by rw [fieldsOk, alln_false hlt h, Bool.and_false]
  have ea : fAt l i = l[i] := fAt_eq hlt
  simp (disch := omega) only [↓pa, pb, pmy, ↓reduceIte, Nat.reduceEqDiff, Nat.reduceAdd, Nat.reduceLeDiff, f8, f10, partP_fs hlt, c_name K.tab]
  refine Cnd_intro (fun h5 => ?_) (fun h5 => ?_)
  rotate_left
  · simp (disch := omega) only [↓pa, pb, ↓reduceIte, Nat.reduceEqDiff, h5]
    rw [bad (by rw [fieldOkAt, ea]; simp [h5])]
  simp (disch := omega) only [↓pa, pb, ↓reduceIte, Nat.reduceEqDiff, h5]
  refine Cnd_intro (fun h6 => ?_) (fun h6 => ?_)
  · have h6' : 0 < i := by omega
    have hp : ((i : Int) - 1).toNat = i - 1 := by omega
    have eb : fAt l (i - 1) = l[i - 1] := fAt_eq (by omega)
    have er : frises l i = sLt l[i - 1].1 l[i].1 := by rw [frises, ea, eb, decide_eq_false (by omega), Bool.false_or]
    simp (disch := omega) only [↓pa, pb, pmy, ↓reduceIte, Nat.reduceEqDiff, reduceCtorEq, f0, h6, hp, Nat.add_zero, partP_fn (show i - 1 < l.length by omega)]
    refine Cnd_intro (fun h7 => ?_) (fun h7 => ?_)
    rotate_left
    · simp (disch := omega) only [↓pa, pb, ↓reduceIte, Nat.reduceEqDiff, h7]
      rw [bad (by rw [fieldOkAt, er]; simp [h7])]
    simp (disch := omega) only [↓pa, pb, pmy, ↓reduceIte, Nat.reduceEqDiff, Nat.reduceAdd, h7, c_fieldValue K]
    refine Cnd_intro (fun h8 => ?_) (fun h8 => ?_)
    · simp (disch := omega) only [↓pa, pb, natP, ↓reduceIte, Nat.reduceEqDiff, reduceCtorEq, f0, f8, f9, f10, h8]
      have ok : fieldOkAt l i = true := by rw [fieldOkAt, er, ea]; simp [h5, h8]; try exact h7
      exact ⟨l.length - (i + 1), by omega, i + 1, rfl, by omega, rfl, below_next hall ok⟩
    · simp (disch := omega) only [↓pa, pb, ↓reduceIte, h8]
      rw [bad (by rw [fieldOkAt, er, ea]; simp [h8])]
  · have er : frises l i = true := by rw [frises, decide_eq_true (by omega)]; rfl
    simp (disch := omega) only [↓pa, pb, pmy, ↓reduceIte, Nat.reduceEqDiff, Nat.reduceAdd, h6, c_fieldValue K]
    refine Cnd_intro (fun h8 => ?_) (fun h8 => ?_)
    · simp (disch := omega) only [↓pa, pb, natP, ↓reduceIte, Nat.reduceEqDiff, reduceCtorEq, f0, f8, f9, f10, h8]
      have ok : fieldOkAt l i = true := by rw [fieldOkAt, er, ea]; simp [h5, h8]; try exact h7
      exact ⟨l.length - (i + 1), by omega, i + 1, rfl, by omega, rfl, below_next hall ok⟩
    · simp (disch := omega) only [↓pa, pb, ↓reduceIte, h8]
      rw [bad (by rw [fieldOkAt, er, ea]; simp [h8])]
set_option maxHeartbeats 1000000 in
theorem c_fieldsS (K : Env cf) (l : List Fd) : callP cf 120 [FX l] [] st = some (.bool (fieldsOk l), st) := by
  refine c_val K.tab (F := F120) (t := 2) rfl rfl rfl (lb rfl) (by simp [plainV_FX]) (bare_bool _) (l.length + 1) ?_
  have hm := fs_len l
  unfold F120 qr qd qm qi qc qb qk ql qf qo
  simp (disch := omega) only [↓pa, pb, ↓reduceIte, reduceCtorEq]
  refine Cnd_intro (fun h1 => ?_) (fun h1 => ?_)
  · simp (disch := omega) only [↓pa, pb, ↓reduceIte, h1]
    have : ¬ ((l.length : Int) ≤ 20) := by omega
    simp only [fieldsOk, this, decide_false, Bool.false_and]
  have h1' : (l.length : Int) ≤ 20 := by omega
  simp (disch := omega) only [↓pa, pb, h1]
  refine Wp_rounds (fun k fr st => ∃ i : Nat, k = l.length - i ∧ i ≤ l.length ∧ fr 0 = FX l ∧ fr 3 = I i ∧ ∀ j, j < i → fieldOkAt l j = true) l.length (by omega) ⟨0, by simp, by omega, by simp (disch := omega) only [↓pa, ↓reduceIte, reduceCtorEq], by simp (disch := omega) only [↓pa, ↓reduceIte]; rfl, fun j hj => by omega⟩ ?_
  rintro k fr st ⟨i, rfl, hi, f0, f3, hall⟩
  simp (disch := omega) only [↓pa, pb, natP, ↓reduceIte, Nat.reduceEqDiff, reduceCtorEq, f0, f3]
  refine Cnd_intro (fun h4 => ?_) (fun h4 => ?_)
  rotate_left
  · simp (disch := omega) only [↓pa, pb, ↓reduceIte, h4]
    have ha : alln l.length (fieldOkAt l) = true := alln_true fun j hj => hall j (by omega)
    simp only [fieldsOk, decide_eq_true h1', ha, Bool.and_self]
  have hlt : i < l.length := h4
  have bad : fieldOkAt l i = false → fieldsOk l = false := fun h => by rw [fieldsOk, alln_false hlt h, Bool.and_false]
  have ea : fAt l i = l[i] := fAt_eq hlt
  simp (disch := omega) only [↓pa, pb, ↓reduceIte, Nat.reduceEqDiff, reduceCtorEq, f0, f3, Nat.add_zero, partP_fn hlt, c_nameS K.tab]
  refine Cnd_intro (fun h5 => ?_) (fun h5 => ?_)
  rotate_left
  · simp (disch := omega) only [↓pa, pb, ↓reduceIte, Nat.reduceEqDiff, h5]
    rw [bad (by rw [fieldOkAt, ea]; simp [h5])]
  simp (disch := omega) only [↓pa, pb, ↓reduceIte, Nat.reduceEqDiff, f3, h5]
  refine Cnd_intro (fun h6 => ?_) (fun h6 => ?_)
  · have h6' : 0 < i := by omega
    have hp : ((i : Int) - 1).toNat = i - 1 := by omega
    have eb : fAt l (i - 1) = l[i - 1] := fAt_eq (by omega)
    have er : frises l i = sLt l[i - 1].1 l[i].1 := by rw [frises, ea, eb, decide_eq_false (by omega), Bool.false_or]
    simp (disch := omega) only [↓pa, pb, ↓reduceIte, Nat.reduceEqDiff, reduceCtorEq, f0, f3, h6, hp, Nat.add_zero, partP_fn (show i - 1 < l.length by omega), partP_fn hlt]
    refine Cnd_intro (fun h7 => ?_) (fun h7 => ?_)
    rotate_left
    · simp (disch := omega) only [↓pa, pb, ↓reduceIte, Nat.reduceEqDiff, h7]
      rw [bad (by rw [fieldOkAt, er]; simp [h7])]
    simp (disch := omega) only [↓pa, pb, ↓reduceIte, Nat.reduceEqDiff, reduceCtorEq, f0, f3, h7, partP_fv hlt, c_fieldValueS K]
    refine Cnd_intro (fun h8 => ?_) (fun h8 => ?_)
    · simp (disch := omega) only [↓pa, pb, natP, ↓reduceIte, Nat.reduceEqDiff, reduceCtorEq, f0, f3, h8]
      have ok : fieldOkAt l i = true := by rw [fieldOkAt, er, ea]; simp [h5, h8]; try exact h7
      exact ⟨l.length - (i + 1), by omega, i + 1, rfl, by omega, rfl, below_next hall ok⟩
    · simp (disch := omega) only [↓pa, pb, ↓reduceIte, h8]
      rw [bad (by rw [fieldOkAt, er, ea]; simp [h8])]
  · have er : frises l i = true := by rw [frises, decide_eq_true (by omega)]; rfl
    simp (disch := omega) only [↓pa, pb, ↓reduceIte, Nat.reduceEqDiff, reduceCtorEq, f0, f3, h6, partP_fv hlt, c_fieldValueS K]
    refine Cnd_intro (fun h8 => ?_) (fun h8 => ?_)
    · simp (disch := omega) only [↓pa, pb, natP, ↓reduceIte, Nat.reduceEqDiff, reduceCtorEq, f0, f3, h8]
      have ok : fieldOkAt l i = true := by rw [fieldOkAt, er, ea]; simp [h5, h8]; try exact h7
      exact ⟨l.length - (i + 1), by omega, i + 1, rfl, by omega, rfl, below_next hall ok⟩
    · simp (disch := omega) only [↓pa, pb, ↓reduceIte, h8]
      rw [bad (by rw [fieldOkAt, er, ea]; simp [h8])]
structure Nd where
  id : Int
  labels : List (List UInt8)
  fields : List Fd
structure Eg where
  id : Int
  type : List UInt8
  src : Int
  dst : Int
  fields : List Fd
structure Gph where
  nodes : List Nd
  edges : List Eg
def nc (n : Nd) : List PV := [I n.id, TX n.labels, FX n.fields]
def ec (e : Eg) : List PV := [I e.id, S e.type, I e.src, I e.dst, FX e.fields]
@[reducible] def NX (l : List Nd) : PV := .list l.length (l.flatMap nc) .no
@[reducible] def EX (l : List Eg) : PV := .list l.length (l.flatMap ec) .no
def gc (g : Gph) : List PV := [NX g.nodes, EX g.edges]
theorem nc_len (n : Nd) : (nc n).length = 3 := rfl
theorem ec_len (e : Eg) : (ec e).length = 5 := rfl
theorem flat_len {α : Type} (enc : α → List PV) (m : Nat) (h : ∀ a, (enc a).length = m) (l : List α) : (l.flatMap enc).length = l.length * m := by
  induction l with
  | nil => simp
  | cons a l ih => rw [List.flatMap_cons, List.length_append, ih, h, List.length_cons, Nat.succ_mul]; omega
theorem flat_plain {α : Type} (enc : α → List PV) (h : ∀ a, plainVs (enc a)) (l : List α) : plainVs (l.flatMap enc) := by
  induction l with
  | nil => exact plainVs_nil
  | cons a l ih => rw [List.flatMap_cons]; exact plainVs_append (h a) ih
theorem nc_plain (n : Nd) : plainVs (nc n) := plainVs_cons (plainV_int _ _) (plainVs_cons (plainV_tx _) (plainVs_cons (plainV_FX _) plainVs_nil))
theorem ec_plain (e : Eg) : plainVs (ec e) := plainVs_cons (plainV_int _ _) (plainVs_cons (plainV_str _) (plainVs_cons (plainV_int _ _) (plainVs_cons (plainV_int _ _) (plainVs_cons (plainV_FX _) plainVs_nil))))
theorem plainV_NX (l : List Nd) : plainV (NX l) := plainV_list (flat_plain nc nc_plain l)
theorem plainV_EX (l : List Eg) : plainV (EX l) := plainV_list (flat_plain ec ec_plain l)
theorem gc_plain (g : Gph) : plainVs (gc g) := plainVs_cons (plainV_NX _) (plainVs_cons (plainV_EX _) plainVs_nil)
theorem plainV_nd (n : Nd) : plainV (.agg (nc n)) := plainV_agg (nc_plain n)
theorem plainV_eg (e : Eg) : plainV (.agg (ec e)) := plainV_agg (ec_plain e)
theorem plainV_gr (g : Gph) : plainV (.agg (gc g)) := plainV_agg (gc_plain g)
def nodeOk (n : Nd) : Bool := idOk n.id && (labelsOk 10 n.labels && fieldsOk n.fields)
def edgeOk (e : Eg) : Bool := idOk e.id && (nameOk e.type && (idOk e.src && (idOk e.dst && fieldsOk e.fields)))
theorem c_nodeOk (K : Env cf) (n : Nd) : callP cf 88 [.agg (nc n)] [] st = some (.bool (nodeOk n), st) := by
  refine c_val K.tab (F := F88) (t := 2) rfl rfl rfl (lb rfl) (by simp [plainV_nd]) (bare_bool _) 1 ?_
  unfold F88 qr qm qc ql qf qo nodeOk
  simp (disch := omega) only [↓pa, pb, pmy, ↓reduceIte, Nat.reduceEqDiff, Nat.reduceAdd, nc, c_idOk K.tab]
  cases h1 : idOk n.id
  · simp (disch := omega) only [↓pa, pb, ↓reduceIte, Nat.reduceEqDiff]
  simp (disch := omega) only [↓pa, pb, pmy, ↓reduceIte, Nat.reduceEqDiff, Nat.reduceAdd, c_labels K.tab n.labels 10 (by decide)]
  cases h2 : labelsOk 10 n.labels
  · simp (disch := omega) only [↓pa, pb, ↓reduceIte, Nat.reduceEqDiff]
  simp (disch := omega) only [↓pa, pb, pmy, ↓reduceIte, Nat.reduceEqDiff, Nat.reduceAdd, c_fields K n.fields]
theorem c_nodeOkS (K : Env cf) (n : Nd) : callP cf 81 [.agg (nc n)] [] st = some (.bool (nodeOk n), st) := by
  refine c_val K.tab (F := F81) (t := 2) rfl rfl rfl (lb rfl) (by simp [plainV_nd]) (bare_bool _) 1 ?_
  unfold F81 qr qm qc ql qf qo nodeOk
  simp (disch := omega) only [↓pa, pb, pmy, ↓reduceIte, Nat.reduceEqDiff, Nat.reduceAdd, nc, c_idOkS K.tab]
  cases h1 : idOk n.id
  · simp (disch := omega) only [↓pa, pb, ↓reduceIte, Nat.reduceEqDiff]
  simp (disch := omega) only [↓pa, pb, pmy, ↓reduceIte, Nat.reduceEqDiff, Nat.reduceAdd, c_labelsS K.tab n.labels]
  cases h2 : labelsOk 10 n.labels
  · simp (disch := omega) only [↓pa, pb, ↓reduceIte, Nat.reduceEqDiff]
  simp (disch := omega) only [↓pa, pb, pmy, ↓reduceIte, Nat.reduceEqDiff, Nat.reduceAdd, c_fieldsS K n.fields]
theorem c_edgeOk (K : Env cf) (e : Eg) : callP cf 89 [.agg (ec e)] [] st = some (.bool (edgeOk e), st) := by
  refine c_val K.tab (F := F89) (t := 2) rfl rfl rfl (lb rfl) (by simp [plainV_eg]) (bare_bool _) 1 ?_
  unfold F89 qr qm qc ql qf qo edgeOk
  simp (disch := omega) only [↓pa, pb, pmy, ↓reduceIte, Nat.reduceEqDiff, Nat.reduceAdd, ec, c_idOk K.tab]
  cases h1 : idOk e.id
  · simp (disch := omega) only [↓pa, pb, ↓reduceIte, Nat.reduceEqDiff]
  simp (disch := omega) only [↓pa, pb, pmy, ↓reduceIte, Nat.reduceEqDiff, Nat.reduceAdd, c_name K.tab]
  cases h2 : nameOk e.type
  · simp (disch := omega) only [↓pa, pb, ↓reduceIte, Nat.reduceEqDiff]
  simp (disch := omega) only [↓pa, pb, pmy, ↓reduceIte, Nat.reduceEqDiff, Nat.reduceAdd, c_idOk K.tab]
  cases h3 : idOk e.src
  · simp (disch := omega) only [↓pa, pb, ↓reduceIte, Nat.reduceEqDiff]
  simp (disch := omega) only [↓pa, pb, pmy, ↓reduceIte, Nat.reduceEqDiff, Nat.reduceAdd, c_idOk K.tab]
  cases h4 : idOk e.dst
  · simp (disch := omega) only [↓pa, pb, ↓reduceIte, Nat.reduceEqDiff]
  simp (disch := omega) only [↓pa, pb, pmy, ↓reduceIte, Nat.reduceEqDiff, Nat.reduceAdd, c_fields K e.fields]
theorem c_edgeOkS (K : Env cf) (e : Eg) : callP cf 82 [.agg (ec e)] [] st = some (.bool (edgeOk e), st) := by
  refine c_val K.tab (F := F82) (t := 2) rfl rfl rfl (lb rfl) (by simp [plainV_eg]) (bare_bool _) 1 ?_
  unfold F82 qr qm qc ql qf qo edgeOk
  simp (disch := omega) only [↓pa, pb, pmy, ↓reduceIte, Nat.reduceEqDiff, Nat.reduceAdd, ec, c_idOkS K.tab]
  cases h1 : idOk e.id
  · simp (disch := omega) only [↓pa, pb, ↓reduceIte, Nat.reduceEqDiff]
  simp (disch := omega) only [↓pa, pb, pmy, ↓reduceIte, Nat.reduceEqDiff, Nat.reduceAdd, c_nameS K.tab]
  cases h2 : nameOk e.type
  · simp (disch := omega) only [↓pa, pb, ↓reduceIte, Nat.reduceEqDiff]
  simp (disch := omega) only [↓pa, pb, pmy, ↓reduceIte, Nat.reduceEqDiff, Nat.reduceAdd, c_idOkS K.tab]
  cases h3 : idOk e.src
  · simp (disch := omega) only [↓pa, pb, ↓reduceIte, Nat.reduceEqDiff]
  simp (disch := omega) only [↓pa, pb, pmy, ↓reduceIte, Nat.reduceEqDiff, Nat.reduceAdd, c_idOkS K.tab]
  cases h4 : idOk e.dst
  · simp (disch := omega) only [↓pa, pb, ↓reduceIte, Nat.reduceEqDiff]
  simp (disch := omega) only [↓pa, pb, pmy, ↓reduceIte, Nat.reduceEqDiff, Nat.reduceAdd, c_fieldsS K e.fields]
theorem partP_n {l : List Nd} {j : Nat} (h : j < l.length) : partP (l.flatMap nc) (j * 3) 3 true = some (.agg (nc l[j])) := by
  have := partP_flat nc 3 nc_len 0 3 true (by decide) l j h
  rw [show j * 3 = j * 3 + 0 from rfl, this]
  exact partP_all (nc_len _)
theorem partP_nid {l : List Nd} {j : Nat} (h : j < l.length) : partP (l.flatMap nc) (j * 3) 1 false = some (I l[j].id) := by
  have := partP_flat nc 3 nc_len 0 1 false (by decide) l j h
  rw [show j * 3 = j * 3 + 0 from rfl, this]
  rfl
theorem partP_e {l : List Eg} {j : Nat} (h : j < l.length) : partP (l.flatMap ec) (j * 5) 5 true = some (.agg (ec l[j])) := by
  have := partP_flat ec 5 ec_len 0 5 true (by decide) l j h
  rw [show j * 5 = j * 5 + 0 from rfl, this]
  exact partP_all (ec_len _)
theorem partP_eid {l : List Eg} {j : Nat} (h : j < l.length) : partP (l.flatMap ec) (j * 5) 1 false = some (I l[j].id) := by
  have := partP_flat ec 5 ec_len 0 1 false (by decide) l j h
  rw [show j * 5 = j * 5 + 0 from rfl, this]
  rfl
def ixGo (id : Int) : List Nd → Nat → Int
  | [], _ => -1
  | n :: l, k => if n.id = id then (k : Int) else ixGo id l (k + 1)
def nodeIx (l : List Nd) (id : Int) : Int := ixGo id l 0
def hasId (l : List Nd) (id : Int) : Bool := l.any fun n => decide (n.id = id)
theorem ixGo_neg (id : Int) : ∀ (l : List Nd) (k : Nat), (ixGo id l k < 0) = (hasId l id = false)
  | [], _ => by simp [ixGo, hasId]
  | n :: l, k => by
    have ih := ixGo_neg id l (k + 1)
    unfold ixGo hasId
    by_cases h : n.id = id
    · rw [if_pos h]
      simp [h]
    · rw [if_neg h, ih]
      simp [hasId, h]
theorem c_nodeAtS (K : Env cf) (g : Gph) (id : Int) (hl : g.nodes.length ≤ 2000000) : callP cf 83 [.agg (gc g), I id] [] st = some (I (nodeIx g.nodes id), st) := by
  refine c_val K.tab (F := F83) (t := 4) rfl rfl rfl (lb rfl) (by simp [plainV_gr, plainV_int]) (bare_int _ _) (g.nodes.length + 1) ?_
  have hm := flat_len nc 3 nc_len g.nodes
  unfold F83 qr qd qm qi qb qk ql qf qo
  simp (disch := omega) only [↓pa, pmy, ↓reduceIte, Nat.reduceAdd, gc]
  refine Wp_rounds (fun k fr st => ∃ i : Nat, k = g.nodes.length - i ∧ i ≤ g.nodes.length ∧ fr 1 = I id ∧ fr 2 = .ptr 2 0 ∧ st.objs 2 = some [NX g.nodes, EX g.edges] ∧ fr 5 = I i ∧ ixGo id (g.nodes.drop i) i = nodeIx g.nodes id) g.nodes.length (by omega) ⟨0, by simp, by omega, by simp (disch := omega) only [↓pa, pb, ↓reduceIte, Nat.reduceEqDiff], by simp (disch := omega) only [↓pa, ↓reduceIte, Nat.reduceEqDiff], by simp (disch := omega) only [pb, ↓reduceIte], by simp (disch := omega) only [↓pa, ↓reduceIte]; rfl, rfl⟩ ?_
  rintro k fr st ⟨i, rfl, hi, f1, f2, o2, f5, hQ⟩
  simp (disch := omega) only [↓pa, pb, pmy, natP, ↓reduceIte, Nat.reduceEqDiff, Nat.reduceAdd, f2, o2, f5]
  refine Cnd_intro (fun h1 => ?_) (fun h1 => ?_)
  · rw [List.drop_eq_getElem_cons h1, ixGo] at hQ
    simp (disch := omega) only [↓pa, pb, pmy, ↓reduceIte, Nat.reduceEqDiff, f1, f2, o2, f5, Nat.add_zero, partP_nid h1]
    refine Cnd_intro (fun h2 => ?_) (fun h2 => ?_)
    · rw [if_pos h2] at hQ
      simp (disch := omega) only [↓pa, pb, ↓reduceIte, Nat.reduceEqDiff, f5, h2]
      rw [← hQ]
    · rw [if_neg h2] at hQ
      simp (disch := omega) only [↓pa, pb, natP, ↓reduceIte, Nat.reduceEqDiff, f1, f2, o2, f5, h2]
      exact ⟨g.nodes.length - (i + 1), by omega, i + 1, rfl, by omega, rfl, hQ⟩
  · have : i = g.nodes.length := by omega
    rw [this, List.drop_length] at hQ
    simp (disch := omega) only [↓pa, pb, ↓reduceIte, h1]
    rw [← hQ]; rfl
def nAt (l : List Nd) (i : Nat) : Nd := l.getD i ⟨0, [], []⟩
def eAt (l : List Eg) (i : Nat) : Eg := l.getD i ⟨0, [], 0, 0, []⟩
theorem nAt_eq {l : List Nd} {i : Nat} (h : i < l.length) : nAt l i = l[i] := by simp [nAt, h]
theorem eAt_eq {l : List Eg} {i : Nat} (h : i < l.length) : eAt l i = l[i] := by simp [eAt, h]
def nrises (l : List Nd) (i : Nat) : Bool := decide (i = 0) || decide ((nAt l (i - 1)).id < (nAt l i).id)
def erises (l : List Eg) (i : Nat) : Bool := decide (i = 0) || decide ((eAt l (i - 1)).id < (eAt l i).id)
def nodeOkAt (l : List Nd) (i : Nat) : Bool := nodeOk (nAt l i) && nrises l i
def edgeOkAt (g : Gph) (i : Nat) : Bool := edgeOk (eAt g.edges i) && (erises g.edges i && (hasId g.nodes (eAt g.edges i).src && hasId g.nodes (eAt g.edges i).dst))
def graphOk (g : Gph) : Bool := (decide ((g.nodes.length : Int) ≤ 200) && decide ((g.edges.length : Int) ≤ 400)) && (alln g.nodes.length (nodeOkAt g.nodes) && alln g.edges.length (edgeOkAt g))
def fault (g : Gph) : Int := if graphOk g then 0 else 1
theorem fault_bad {g : Gph} (h : graphOk g = false) : fault g = 1 := by rw [fault, h]; rfl
set_option maxHeartbeats 2000000 in
theorem c_fault (K : Env cf) (g : Gph) : callP cf 40 [.agg (gc g)] [] st = some (I (fault g), st) := by
  refine c_val K.tab (F := F40) (t := 2) rfl rfl rfl (lb rfl) (by simp [plainV_gr]) (bare_int _ _) (g.nodes.length + g.edges.length + 1) ?_
  have hm := flat_len nc 3 nc_len g.nodes
  have hm2 := flat_len ec 5 ec_len g.edges
  unfold F40 qr qd qm qi qb qk ql qf qo qe qN
  simp (disch := omega) only [↓pa, pb, pmy, ↓reduceIte, Nat.reduceEqDiff, Nat.reduceAdd, gc]
  refine Cnd_intro (fun l1 => ?_) (fun l1 => ?_)
  · simp (disch := omega) only [↓pa, pb, ↓reduceIte, Nat.reduceEqDiff, l1]
    rw [fault_bad (by rw [graphOk, decide_eq_false (by omega)]; simp)]
  simp (disch := omega) only [↓pa, pb, pmy, ↓reduceIte, Nat.reduceEqDiff, Nat.reduceAdd, l1]
  refine Cnd_intro (fun l2 => ?_) (fun l2 => ?_)
  · simp (disch := omega) only [↓pa, pb, ↓reduceIte, l2]
    rw [fault_bad (by rw [graphOk, decide_eq_false (p := (g.edges.length : Int) ≤ 400) (by omega)]; simp)]
  have l1' : (g.nodes.length : Int) ≤ 200 := by omega
  have l2' : (g.edges.length : Int) ≤ 400 := by omega
  simp (disch := omega) only [↓pa, pb, l2]
  refine Wp_rounds (fun k fr st => ∃ i : Nat, k = g.nodes.length - i ∧ i ≤ g.nodes.length ∧ fr 1 = .ptr 1 0 ∧ st.objs 1 = some [NX g.nodes, EX g.edges] ∧ fr 3 = I i ∧ ∀ j, j < i → nodeOkAt g.nodes j = true) g.nodes.length (by omega) ⟨0, by simp, by omega, by simp (disch := omega) only [↓pa, ↓reduceIte, Nat.reduceEqDiff], by simp (disch := omega) only [pb, ↓reduceIte], by simp (disch := omega) only [↓pa, ↓reduceIte]; rfl, fun j hj => by omega⟩ ?_
  rintro k fr st ⟨i, rfl, hi, f1, o1, f3, hall⟩
  simp (disch := omega) only [↓pa, pb, pmy, natP, ↓reduceIte, Nat.reduceEqDiff, Nat.reduceAdd, f1, o1, f3]
  refine Cnd_intro (fun h1 => ?_) (fun h1 => ?_)
  · have hlt : i < g.nodes.length := h1
    have ea : nAt g.nodes i = g.nodes[i] := nAt_eq hlt
    simp (disch := omega) only [↓pa, pb, pmy, ↓reduceIte, Nat.reduceEqDiff, Nat.reduceAdd, f1, o1, f3, h1, partP_n hlt, c_nodeOkS K]
    refine Cnd_intro (fun h5 => ?_) (fun h5 => ?_)
    rotate_left
    · have nb : nodeOkAt g.nodes i = false := by rw [nodeOkAt, ea]; simp [h5]
      simp (disch := omega) only [↓pa, pb, ↓reduceIte, Nat.reduceEqDiff, h5]
      rw [fault_bad (by rw [graphOk, alln_false hlt nb]; simp)]
    simp (disch := omega) only [↓pa, pb, ↓reduceIte, Nat.reduceEqDiff, f3, h5]
    refine Cnd_intro (fun h6 => ?_) (fun h6 => ?_)
    · have hp : ((i : Int) - 1).toNat = i - 1 := by omega
      have h6' : 0 < i := by omega
      have eb : nAt g.nodes (i - 1) = g.nodes[i - 1] := nAt_eq (by omega)
      simp (disch := omega) only [↓pa, pb, pmy, ↓reduceIte, Nat.reduceEqDiff, f1, o1, f3, h6, hp, Nat.add_zero, partP_nid (show i - 1 < g.nodes.length by omega), partP_nid hlt]
      refine Cnd_intro (fun h7 => ?_) (fun h7 => ?_)
      · have nb : nodeOkAt g.nodes i = false := by rw [nodeOkAt, nrises, ea, eb, decide_eq_false (p := i = 0) (by omega), decide_eq_false (by omega)]; simp
        simp (disch := omega) only [↓pa, pb, ↓reduceIte, h7]
        rw [fault_bad (by rw [graphOk, alln_false hlt nb]; simp)]
      · have ok : nodeOkAt g.nodes i = true := by rw [nodeOkAt, nrises, ea, eb, h5, decide_eq_true (p := g.nodes[i - 1].id < g.nodes[i].id) (by omega)]; simp
        simp (disch := omega) only [↓pa, pb, natP, ↓reduceIte, Nat.reduceEqDiff, f1, o1, f3, h7]
        exact ⟨g.nodes.length - (i + 1), by omega, i + 1, rfl, by omega, rfl, below_next hall ok⟩
    · have ok : nodeOkAt g.nodes i = true := by rw [nodeOkAt, nrises, ea, h5, decide_eq_true (p := i = 0) (by omega)]; rfl
      simp (disch := omega) only [↓pa, pb, natP, ↓reduceIte, Nat.reduceEqDiff, f1, o1, f3, h6]
      exact ⟨g.nodes.length - (i + 1), by omega, i + 1, rfl, by omega, rfl, below_next hall ok⟩
  have hn : alln g.nodes.length (nodeOkAt g.nodes) = true := alln_true fun j hj => hall j (by omega)
  simp (disch := omega) only [↓pa, pb, h1]
  clear hall f3
  revert f1 o1
  generalize hfr : fr = fr0
  intro f1 o1
  refine Wp_rounds (fun k fr st => ∃ i : Nat, k = g.edges.length - i ∧ i ≤ g.edges.length ∧ fr 1 = .ptr 1 0 ∧ st.objs 1 = some [NX g.nodes, EX g.edges] ∧ fr 4 = I i ∧ ∀ j, j < i → edgeOkAt g j = true) g.edges.length (by omega) ⟨0, by simp, by omega, by simp (disch := omega) only [↓pa, ↓reduceIte, Nat.reduceEqDiff, f1], by simp (disch := omega) only [o1], by simp (disch := omega) only [↓pa, ↓reduceIte]; rfl, fun j hj => by omega⟩ ?_
  rintro k fr st ⟨i, rfl, hi, f1, o1, f4, hall⟩
  simp (disch := omega) only [↓pa, pb, pmy, natP, ↓reduceIte, Nat.reduceEqDiff, Nat.reduceAdd, f1, o1, f4]
  refine Cnd_intro (fun k1 => ?_) (fun k1 => ?_)
  rotate_left
  · have he : alln g.edges.length (edgeOkAt g) = true := alln_true fun j hj => hall j (by omega)
    simp (disch := omega) only [↓pa, pb, ↓reduceIte, k1]
    rw [fault, graphOk, hn, he, decide_eq_true l1', decide_eq_true l2']; rfl
  have hlt : i < g.edges.length := k1
  have ea : eAt g.edges i = g.edges[i] := eAt_eq hlt
  have hec : (ec g.edges[i]).length = 5 := rfl
  have hna : ∀ id st, callP cf 83 [.agg [NX g.nodes, EX g.edges], I id] [] st = some (I (nodeIx g.nodes id), st) := fun id st => c_nodeAtS K g id (by omega)
  have heo : ∀ st, callP cf 82 [.agg [I g.edges[i].id, S g.edges[i].type, I g.edges[i].src, I g.edges[i].dst, FX g.edges[i].fields]] [] st = some (.bool (edgeOk g.edges[i]), st) := fun st => c_edgeOkS K g.edges[i]
  simp (disch := omega) only [↓pa, pb, pmy, ↓reduceIte, Nat.reduceEqDiff, Nat.reduceAdd, Nat.reduceLeDiff, f1, o1, f4, k1, partP_e hlt, ec, heo]
  refine Cnd_intro (fun h5 => ?_) (fun h5 => ?_)
  rotate_left
  · have nb : edgeOkAt g i = false := by rw [edgeOkAt, ea]; simp [h5]
    simp (disch := omega) only [↓pa, pb, ↓reduceIte, Nat.reduceEqDiff, h5]
    rw [fault_bad (by rw [graphOk, alln_false hlt nb]; simp)]
  simp (disch := omega) only [↓pa, pb, ↓reduceIte, Nat.reduceEqDiff, f4, h5]
  refine Cnd_intro (fun h6 => ?_) (fun h6 => ?_)
  · have hp : ((i : Int) - 1).toNat = i - 1 := by omega
    have h6' : 0 < i := by omega
    have eb : eAt g.edges (i - 1) = g.edges[i - 1] := eAt_eq (by omega)
    simp (disch := omega) only [↓pa, pb, pmy, ↓reduceIte, Nat.reduceEqDiff, Nat.reduceAdd, f1, o1, f4, h6, hp, Nat.add_zero, partP_eid (show i - 1 < g.edges.length by omega)]
    refine Cnd_intro (fun h7 => ?_) (fun h7 => ?_)
    · have nb : edgeOkAt g i = false := by rw [edgeOkAt, erises, ea, eb, decide_eq_false (p := i = 0) (by omega), decide_eq_false (p := g.edges[i - 1].id < g.edges[i].id) (by omega)]; simp
      simp (disch := omega) only [↓pa, pb, ↓reduceIte, Nat.reduceEqDiff, h7]
      rw [fault_bad (by rw [graphOk, alln_false hlt nb]; simp)]
    · have er : erises g.edges i = true := by rw [erises, ea, eb, decide_eq_true (p := g.edges[i - 1].id < g.edges[i].id) (by omega)]; simp
      simp (disch := omega) only [↓pa, pb, pmy, ↓reduceIte, Nat.reduceEqDiff, Nat.reduceAdd, Nat.reduceLeDiff, f1, o1, h7, hna]
      refine Cnd_intro (fun h8 => ?_) (fun h8 => ?_)
      · have nb : edgeOkAt g i = false := by rw [nodeIx, ixGo_neg] at h8; rw [edgeOkAt, ea, h8]; simp
        simp (disch := omega) only [↓pa, pb, ↓reduceIte, Nat.reduceEqDiff, h8]
        rw [fault_bad (by rw [graphOk, alln_false hlt nb]; simp)]
      simp (disch := omega) only [↓pa, pb, pmy, ↓reduceIte, Nat.reduceEqDiff, Nat.reduceAdd, Nat.reduceLeDiff, f1, o1, h8, hna]
      refine Cnd_intro (fun h9 => ?_) (fun h9 => ?_)
      · have nb : edgeOkAt g i = false := by rw [nodeIx, ixGo_neg] at h9; rw [edgeOkAt, ea, h9]; simp
        simp (disch := omega) only [↓pa, pb, ↓reduceIte, h9]
        rw [fault_bad (by rw [graphOk, alln_false hlt nb]; simp)]
      · have ok : edgeOkAt g i = true := by
          rw [nodeIx, ixGo_neg] at h8 h9
          rw [Bool.not_eq_false] at h8 h9
          rw [edgeOkAt, ea, h5, er, h8, h9]; rfl
        simp (disch := omega) only [↓pa, pb, natP, ↓reduceIte, Nat.reduceEqDiff, f1, o1, f4, h9]
        exact ⟨g.edges.length - (i + 1), by omega, i + 1, rfl, by omega, rfl, below_next hall ok⟩
  · have er : erises g.edges i = true := by rw [erises, decide_eq_true (p := i = 0) (by omega)]; rfl
    simp (disch := omega) only [↓pa, pb, pmy, ↓reduceIte, Nat.reduceEqDiff, Nat.reduceAdd, Nat.reduceLeDiff, f1, o1, h6, hna]
    refine Cnd_intro (fun h8 => ?_) (fun h8 => ?_)
    · have nb : edgeOkAt g i = false := by rw [nodeIx, ixGo_neg] at h8; rw [edgeOkAt, ea, h8]; simp
      simp (disch := omega) only [↓pa, pb, ↓reduceIte, Nat.reduceEqDiff, h8]
      rw [fault_bad (by rw [graphOk, alln_false hlt nb]; simp)]
    simp (disch := omega) only [↓pa, pb, pmy, ↓reduceIte, Nat.reduceEqDiff, Nat.reduceAdd, Nat.reduceLeDiff, f1, o1, h8, hna]
    refine Cnd_intro (fun h9 => ?_) (fun h9 => ?_)
    · have nb : edgeOkAt g i = false := by rw [nodeIx, ixGo_neg] at h9; rw [edgeOkAt, ea, h9]; simp
      simp (disch := omega) only [↓pa, pb, ↓reduceIte, h9]
      rw [fault_bad (by rw [graphOk, alln_false hlt nb]; simp)]
    · have ok : edgeOkAt g i = true := by
        rw [nodeIx, ixGo_neg] at h8 h9
        rw [Bool.not_eq_false] at h8 h9
        rw [edgeOkAt, ea, h5, er, h8, h9]; rfl
      simp (disch := omega) only [↓pa, pb, natP, ↓reduceIte, Nat.reduceEqDiff, f1, o1, f4, h9]
      exact ⟨g.edges.length - (i + 1), by omega, i + 1, rfl, by omega, rfl, below_next hall ok⟩
def setM (st : St) (s : Nat) (es : List (PV × PV)) : St := { st with maps := fun k => if k = s then some es else st.maps k }
def mpsP (kk : Nat) (m k v : PV) (st : St) : Option (PV × St) := match m with
  | .mp s => match st.maps s with
    | some es => if keyKind k = kk ∧ np v = true then match findP k es 0 with
      | some (some (i, _)) => some (.hole, setM st s (es.set i (k, v)))
      | some none => some (.hole, setM st s (es ++ [(k, v)]))
      | none => none
      else none
    | none => none
  | _ => none
def mpgP (ok : Bool) (zero : PV) (kk : Nat) (m k : PV) (st : St) : Option (PV × St) := match m with
  | .mp s => match st.maps s with
    | some es => if keyKind k = kk then match findP k es 0 with
      | some (some (_, v)) => some (if ok then .tup [v, .bool true] else v, st)
      | some none => some (if ok then .tup [zero, .bool false] else zero, st)
      | none => none
      else none
    | none => none
  | _ => none
theorem pmM :
    (∀ {cf : CallF} {fr : Fr} {st : St} {s : Nat}, runOp cf fr st (some s) .mkmap = some (.mp s, setM st s [])) ∧
    (∀ {cf : CallF} {fr : Fr} {st : St} {d : Option Nat} {kk : Nat} {m k v : CX}, runOp cf fr st d (.mpset kk m k v) = mpsP kk (m.ev fr) (k.ev fr) (v.ev fr) st) ∧
    (∀ {cf : CallF} {fr : Fr} {st : St} {d : Option Nat} {ok : Bool} {zero : PV} {kk : Nat} {m k : CX}, runOp cf fr st d (.mpget ok zero kk m k) = mpgP ok zero kk (m.ev fr) (k.ev fr) st) ∧
    (∀ {st : St} {s : Nat} {es : List (PV × PV)}, (setM st s es).objs = st.objs) ∧ (∀ {st : St} {s : Nat} {es : List (PV × PV)} {k : Nat}, (setM st s es).maps k = if k = s then some es else st.maps k) := ⟨rfl, rfl, rfl, rfl, rfl⟩
def one (k : Int) : PV × PV := (I k, I 1)
theorem find_ones (x : Int) : ∀ (ks : List Int) (j : Nat), (x ∈ ks → ∃ i, i < ks.length ∧ ks[i]? = some x ∧ findP (I x) (ks.map one) j = some (some (j + i, I 1))) ∧ (x ∉ ks → findP (I x) (ks.map one) j = some none)
  | [], j => ⟨fun h => by simp at h, fun _ => rfl⟩
  | k :: ks, j => by
    have ih := find_ones x ks (j + 1)
    have hf : findP (I x) ((k :: ks).map one) j = if x = k then some (some (j, I 1)) else findP (I x) (ks.map one) (j + 1) := by
      rw [List.map_cons, findP]
      have : keyEq (I x) (one k).1 = some (x == k) := rfl
      rw [this]
      by_cases h : x = k
      · have hb : (x == k) = true := by simp [h]
        rw [hb, if_pos h]; rfl
      · have hb : (x == k) = false := by simp [h]
        rw [hb, if_neg h]
    constructor
    · intro h
      by_cases hk : x = k
      · exact ⟨0, by simp, by simp [hk], by rw [hf, if_pos hk]; rfl⟩
      · obtain ⟨i, h1, h2, h3⟩ := ih.1 (by simpa [hk] using h)
        exact ⟨i + 1, by simpa using h1, by simpa using h2, by rw [hf, if_neg hk, h3]; congr 3; omega⟩
    · intro h
      simp only [List.mem_cons, not_or] at h
      rw [hf, if_neg h.1]
      exact ih.2 h.2
theorem rt_mpset {ks : List Int} {x : Int} (hs : st.maps s = some (ks.map one)) (k : ∀ ks' : List Int, (∀ y, y ∈ ks' ↔ (y ∈ ks ∨ y = x)) → A (mk .hole (setM st s (ks'.map one)))) : RunsTo (mpsP 0 (.mp s) (I x) (I 1) st) mk A := by
  have h0 : keyKind (I x) = 0 ∧ np (I 1) = true := ⟨rfl, rfl⟩
  by_cases hx : x ∈ ks
  · obtain ⟨i, h1, h2, h3⟩ := (find_ones x ks 0).1 hx
    simp only [mpsP, hs, h0, h3, and_self, if_true]
    rw [RunsTo_some]
    have : (ks.map one).set (0 + i) (I x, I 1) = ks.map one := by
      apply List.ext_getElem?
      intro q
      rw [List.getElem?_set]
      split
      · rename_i e
        subst e
        simp only [List.length_map, Nat.zero_add, h1, if_true, List.getElem?_map, h2, Option.map_some]
        rfl
      · rfl
    rw [this]
    exact k ks fun y => ⟨.inl, fun h => h.elim id fun e => by rw [e]; exact hx⟩
  · have h3 := (find_ones x ks 0).2 hx
    simp only [mpsP, hs, h0, h3, and_self, if_true]
    rw [RunsTo_some]
    have : ks.map one ++ [(I x, I 1)] = (ks ++ [x]).map one := by simp [one]
    rw [this]
    exact k (ks ++ [x]) fun y => by simp
theorem mpget_ones {ks : List Int} {x : Int} (hs : st.maps s = some (ks.map one)) : mpgP false (I 0) 0 (.mp s) (I x) st = some (I (if x ∈ ks then 1 else 0), st) := by
  have h0 : keyKind (I x) = 0 := rfl
  by_cases hx : x ∈ ks
  · obtain ⟨i, h1, h2, h3⟩ := (find_ones x ks 0).1 hx
    simp only [mpgP, hs, h0, h3, if_true, hx, Bool.false_eq_true, if_false]
  · have h3 := (find_ones x ks 0).2 hx
    simp only [mpgP, hs, h0, h3, if_true, hx, Bool.false_eq_true, if_false]
theorem hasId_next {l : List Nd} {i : Nat} (h : i < l.length) (x : Int) : (hasId (l.take (i + 1)) x = true) ↔ (hasId (l.take i) x = true ∨ x = l[i].id) := by
  unfold hasId
  rw [List.take_succ_eq_append_getElem h, List.any_append]
  simp only [List.any_cons, List.any_nil, Bool.or_false, Bool.or_eq_true, decide_eq_true_eq]
  exact ⟨fun h => h.imp id Eq.symm, fun h => h.imp id Eq.symm⟩
theorem graph_bad {g : Gph} {i : Nat} (hlt : i < g.nodes.length) (nb : nodeOkAt g.nodes i = false) : graphOk g = false := by rw [graphOk, alln_false hlt nb]; simp
theorem graph_badE {g : Gph} {i : Nat} (hlt : i < g.edges.length) (nb : edgeOkAt g i = false) : graphOk g = false := by rw [graphOk, alln_false hlt nb]; simp
set_option maxHeartbeats 4000000 in
theorem c_graphOk (K : Env cf) (g : Gph) : callP cf 46 [.agg (gc g)] [] st = some (.bool (graphOk g), st) := by
  refine c_val K.tab (F := F46) (t := 2) rfl rfl rfl (lb rfl) (by simp [plainV_gr]) (bare_bool _) (g.nodes.length + g.edges.length + 1) ?_
  have hm := flat_len nc 3 nc_len g.nodes
  have hm2 := flat_len ec 5 ec_len g.edges
  unfold F46 qr qd qm qi qc qb qk ql qf qo qe qN
  simp (maxSteps := 1000000) (disch := omega) only [↓pa, pb, pmy, ↓reduceIte, Nat.reduceEqDiff, Nat.reduceAdd, gc]
  refine Cnd_intro (fun l1 => ?_) (fun l1 => ?_)
  · simp (maxSteps := 1000000) (disch := omega) only [↓pa, pb, ↓reduceIte, Nat.reduceEqDiff, l1]
    rw [graphOk, decide_eq_false (by omega)]; simp
  simp (maxSteps := 1000000) (disch := omega) only [↓pa, pb, pmy, ↓reduceIte, Nat.reduceEqDiff, Nat.reduceAdd, l1]
  refine Cnd_intro (fun l2 => ?_) (fun l2 => ?_)
  · simp (maxSteps := 1000000) (disch := omega) only [↓pa, pb, ↓reduceIte, l2]
    rw [graphOk, decide_eq_false (p := (g.edges.length : Int) ≤ 400) (by omega)]; simp
  have l1' : (g.nodes.length : Int) ≤ 200 := by omega
  have l2' : (g.edges.length : Int) ≤ 400 := by omega
  simp (maxSteps := 1000000) (disch := omega) only [↓pa, pb, pmy, ↓reduceIte, Nat.reduceEqDiff, Nat.reduceAdd, pmM, l2]
  refine Wp_rounds (fun k fr st => ∃ (i : Nat) (ks : List Int), k = g.nodes.length - i ∧ i ≤ g.nodes.length ∧ fr 1 = .ptr 1 0 ∧ st.objs 1 = some [NX g.nodes, EX g.edges] ∧ fr 3 = .mp 18 ∧ fr 20 = NX g.nodes ∧ fr 21 = I g.nodes.length ∧ fr 22 = I i ∧ st.maps 18 = some (ks.map one) ∧ (∀ x, x ∈ ks ↔ hasId (g.nodes.take i) x = true) ∧ ∀ j, j < i → nodeOkAt g.nodes j = true) g.nodes.length (by omega)
    ⟨0, [], by simp, by omega, by simp (maxSteps := 1000000) (disch := omega) only [↓pa, pb, ↓reduceIte, Nat.reduceEqDiff], by simp (maxSteps := 1000000) (disch := omega) only [pb, ↓reduceIte, pmM], by simp (maxSteps := 1000000) (disch := omega) only [↓pa, ↓reduceIte, Nat.reduceEqDiff], by simp (maxSteps := 1000000) (disch := omega) only [↓pa, ↓reduceIte, Nat.reduceEqDiff], by simp (maxSteps := 1000000) (disch := omega) only [↓pa, ↓reduceIte, Nat.reduceEqDiff], by simp (maxSteps := 1000000) (disch := omega) only [↓pa, ↓reduceIte]; rfl, by simp (maxSteps := 1000000) (disch := omega) only [pb, ↓reduceIte, pmM] <;> rfl, by simp [hasId], fun j hj => by omega⟩ ?_
  rintro k fr st ⟨i, ks, rfl, hi, f1, o1, f3, f20, f21, f22, m18, hks, hall⟩
  simp (maxSteps := 1000000) (disch := omega) only [↓pa, pb, natP, ↓reduceIte, f21, f22]
  refine Cnd_intro (fun h1 => ?_) (fun h1 => ?_)
  · have hlt : i < g.nodes.length := h1
    have ea : nAt g.nodes i = g.nodes[i] := nAt_eq hlt
    have hno : ∀ st, callP cf 88 [.agg [I g.nodes[i].id, TX g.nodes[i].labels, FX g.nodes[i].fields]] [] st = some (.bool (nodeOk g.nodes[i]), st) := fun st => c_nodeOk K g.nodes[i]
    simp (maxSteps := 1000000) (disch := omega) only [↓pa, pb, pmy, ↓reduceIte, Nat.reduceEqDiff, Nat.reduceAdd, Nat.reduceLeDiff, f20, f22, h1, partP_n hlt, nc, hno]
    refine Cnd_intro (fun h5 => ?_) (fun h5 => ?_)
    rotate_left
    · have nb : nodeOkAt g.nodes i = false := by rw [nodeOkAt, ea]; simp [h5]
      simp (maxSteps := 1000000) (disch := omega) only [↓pa, pb, ↓reduceIte, Nat.reduceEqDiff, h5]
      rw [graph_bad hlt nb]
    simp (maxSteps := 1000000) (disch := omega) only [↓pa, pb, ↓reduceIte, Nat.reduceEqDiff, h5]
    refine Cnd_intro (fun h6 => ?_) (fun h6 => ?_)
    · have hp : ((i : Int) - 1).toNat = i - 1 := by omega
      have h6' : 0 < i := by omega
      have eb : nAt g.nodes (i - 1) = g.nodes[i - 1] := nAt_eq (by omega)
      simp (maxSteps := 1000000) (disch := omega) only [↓pa, pb, pmy, ↓reduceIte, Nat.reduceEqDiff, f1, o1, h6, hp, Nat.add_zero, partP_nid (show i - 1 < g.nodes.length by omega)]
      refine Cnd_intro (fun h7 => ?_) (fun h7 => ?_)
      · have nb : nodeOkAt g.nodes i = false := by rw [nodeOkAt, nrises, ea, eb, decide_eq_false (p := i = 0) (by omega), decide_eq_false (p := g.nodes[i - 1].id < g.nodes[i].id) (by omega)]; simp
        simp (maxSteps := 1000000) (disch := omega) only [↓pa, pb, ↓reduceIte, h7]
        rw [graph_bad hlt nb]
      · have ok : nodeOkAt g.nodes i = true := by rw [nodeOkAt, nrises, ea, eb, h5, decide_eq_true (p := g.nodes[i - 1].id < g.nodes[i].id) (by omega)]; simp
        simp (maxSteps := 1000000) (disch := omega) only [↓pa, pb, pmy, ↓reduceIte, Nat.reduceEqDiff, Nat.reduceAdd, pmM, f3, h7]
        refine rt_mpset (ks := ks) (by simp only [pb, m18]) (fun ks' hks' => ?_)
        simp (maxSteps := 1000000) (disch := omega) only [↓pa, pb, natP, ↓reduceIte, Nat.reduceEqDiff, pmM, f1, o1, f3, f20, f21, f22]
        exact ⟨g.nodes.length - (i + 1), by omega, i + 1, ks', rfl, by omega, rfl, rfl, fun x => by rw [hks', hasId_next hlt, hks], below_next hall ok⟩
    · have ok : nodeOkAt g.nodes i = true := by rw [nodeOkAt, nrises, ea, h5, decide_eq_true (p := i = 0) (by omega)]; rfl
      have h7 := h6
      simp (maxSteps := 1000000) (disch := omega) only [↓pa, pb, pmy, ↓reduceIte, Nat.reduceEqDiff, Nat.reduceAdd, pmM, f3, h7]
      refine rt_mpset (ks := ks) (by simp only [pb, m18]) (fun ks' hks' => ?_)
      simp (maxSteps := 1000000) (disch := omega) only [↓pa, pb, natP, ↓reduceIte, Nat.reduceEqDiff, pmM, f1, o1, f3, f20, f21, f22]
      exact ⟨g.nodes.length - (i + 1), by omega, i + 1, ks', rfl, by omega, rfl, rfl, fun x => by rw [hks', hasId_next hlt, hks], below_next hall ok⟩
  have hn : alln g.nodes.length (nodeOkAt g.nodes) = true := alln_true fun j hj => hall j (by omega)
  have hks : ∀ x, x ∈ ks ↔ hasId g.nodes x = true := fun x => by rw [hks x, List.take_of_length_le (by omega)]
  simp (maxSteps := 1000000) (disch := omega) only [↓pa, pb, pmy, ↓reduceIte, Nat.reduceEqDiff, Nat.reduceAdd, f1, o1, h1]
  clear hall f20 f21 f22
  refine Wp_rounds (fun k fr st => ∃ i : Nat, k = g.edges.length - i ∧ i ≤ g.edges.length ∧ fr 1 = .ptr 1 0 ∧ st.objs 1 = some [NX g.nodes, EX g.edges] ∧ fr 3 = .mp 18 ∧ fr 51 = EX g.edges ∧ fr 52 = I g.edges.length ∧ fr 53 = I i ∧ st.maps 18 = some (ks.map one) ∧ ∀ j, j < i → edgeOkAt g j = true) g.edges.length (by omega) ⟨0, by simp, by omega, by simp (maxSteps := 1000000) (disch := omega) only [↓pa, ↓reduceIte, Nat.reduceEqDiff, f1], by simp (maxSteps := 1000000) (disch := omega) only [o1], by simp (maxSteps := 1000000) (disch := omega) only [↓pa, ↓reduceIte, Nat.reduceEqDiff, f3], by simp (maxSteps := 1000000) (disch := omega) only [↓pa, ↓reduceIte, Nat.reduceEqDiff], by simp (maxSteps := 1000000) (disch := omega) only [↓pa, ↓reduceIte, Nat.reduceEqDiff], by simp (maxSteps := 1000000) (disch := omega) only [↓pa, ↓reduceIte]; rfl, by simp (maxSteps := 1000000) (disch := omega) only [m18], fun j hj => by omega⟩ ?_
  rintro k fr st ⟨i, rfl, hi, f1, o1, f3, f51, f52, f53, m18, hall⟩
  simp (maxSteps := 1000000) (disch := omega) only [↓pa, pb, natP, ↓reduceIte, f52, f53]
  refine Cnd_intro (fun k1 => ?_) (fun k1 => ?_)
  rotate_left
  · have he : alln g.edges.length (edgeOkAt g) = true := alln_true fun j hj => hall j (by omega)
    simp (maxSteps := 1000000) (disch := omega) only [↓pa, pb, ↓reduceIte, k1]
    rw [graphOk, hn, he, decide_eq_true l1', decide_eq_true l2']; rfl
  have hlt : i < g.edges.length := k1
  have ea : eAt g.edges i = g.edges[i] := eAt_eq hlt
  have heo : ∀ st, callP cf 89 [.agg [I g.edges[i].id, S g.edges[i].type, I g.edges[i].src, I g.edges[i].dst, FX g.edges[i].fields]] [] st = some (.bool (edgeOk g.edges[i]), st) := fun st => c_edgeOk K g.edges[i]
  have hget : ∀ (x : Int) (st : St), st.maps 18 = some (ks.map one) → mpgP false (I 0) 0 (.mp 18) (I x) st = some (I (if hasId g.nodes x = true then 1 else 0), st) := fun x st h => by
    rw [mpget_ones h]
    simp only [hks x]
  simp (maxSteps := 1000000) (disch := omega) only [↓pa, pb, pmy, ↓reduceIte, Nat.reduceEqDiff, Nat.reduceAdd, Nat.reduceLeDiff, f51, f53, k1, partP_e hlt, ec, heo]
  refine Cnd_intro (fun h5 => ?_) (fun h5 => ?_)
  rotate_left
  · have nb : edgeOkAt g i = false := by rw [edgeOkAt, ea]; simp [h5]
    simp (maxSteps := 1000000) (disch := omega) only [↓pa, pb, ↓reduceIte, Nat.reduceEqDiff, h5]
    rw [graph_badE hlt nb]
  simp (maxSteps := 1000000) (disch := omega) only [↓pa, pb, ↓reduceIte, Nat.reduceEqDiff, h5]
  refine Cnd_intro (fun h6 => ?_) (fun h6 => ?_)
  · have hp : ((i : Int) - 1).toNat = i - 1 := by omega
    have h6' : 0 < i := by omega
    have eb : eAt g.edges (i - 1) = g.edges[i - 1] := eAt_eq (by omega)
    simp (maxSteps := 1000000) (disch := omega) only [↓pa, pb, pmy, ↓reduceIte, Nat.reduceEqDiff, Nat.reduceAdd, f1, o1, h6, hp, Nat.add_zero, partP_eid (show i - 1 < g.edges.length by omega)]
    refine Cnd_intro (fun h7 => ?_) (fun h7 => ?_)
    · have nb : edgeOkAt g i = false := by rw [edgeOkAt, erises, ea, eb, decide_eq_false (p := i = 0) (by omega), decide_eq_false (p := g.edges[i - 1].id < g.edges[i].id) (by omega)]; simp
      simp (maxSteps := 1000000) (disch := omega) only [↓pa, pb, ↓reduceIte, Nat.reduceEqDiff, h7]
      rw [graph_badE hlt nb]
    · have er : erises g.edges i = true := by rw [erises, ea, eb, decide_eq_true (p := g.edges[i - 1].id < g.edges[i].id) (by omega)]; simp
      simp (maxSteps := 1000000) (disch := omega) only [↓pa, pb, pmy, ↓reduceIte, Nat.reduceEqDiff, Nat.reduceAdd, pmM, f3, h7]
      rw [hget _ _ (by simp only [pb, m18])]
      cases h8 : hasId g.nodes g.edges[i].src
      · have nb : edgeOkAt g i = false := by rw [edgeOkAt, ea, h8]; simp
        simp (maxSteps := 1000000) (disch := omega) only [↓pa, pb, ↓reduceIte, Nat.reduceEqDiff]
        rw [graph_badE hlt nb]
      simp (maxSteps := 1000000) (disch := omega) only [↓pa, pb, pmy, ↓reduceIte, Nat.reduceEqDiff, Nat.reduceAdd, Int.reduceEq, pmM, f3]
      rw [hget _ _ (by simp only [pb, m18])]
      cases h9 : hasId g.nodes g.edges[i].dst
      · have nb : edgeOkAt g i = false := by rw [edgeOkAt, ea, h9]; simp
        simp (maxSteps := 1000000) (disch := omega) only [↓pa, pb, ↓reduceIte, Nat.reduceEqDiff]
        rw [graph_badE hlt nb]
      have ok : edgeOkAt g i = true := by rw [edgeOkAt, ea, h5, er, h8, h9]; rfl
      simp (maxSteps := 1000000) (disch := omega) only [↓pa, pb, natP, ↓reduceIte, Nat.reduceEqDiff, Int.reduceEq, f1, o1, f3, f51, f52, f53, m18]
      exact ⟨g.edges.length - (i + 1), by omega, i + 1, rfl, by omega, rfl, below_next hall ok⟩
  · have er : erises g.edges i = true := by rw [erises, decide_eq_true (p := i = 0) (by omega)]; rfl
    simp (maxSteps := 1000000) (disch := omega) only [↓pa, pb, pmy, ↓reduceIte, Nat.reduceEqDiff, Nat.reduceAdd, pmM, f3, h6]
    rw [hget _ _ (by simp only [pb, m18])]
    cases h8 : hasId g.nodes g.edges[i].src
    · have nb : edgeOkAt g i = false := by rw [edgeOkAt, ea, h8]; simp
      simp (maxSteps := 1000000) (disch := omega) only [↓pa, pb, ↓reduceIte, Nat.reduceEqDiff]
      rw [graph_badE hlt nb]
    simp (maxSteps := 1000000) (disch := omega) only [↓pa, pb, pmy, ↓reduceIte, Nat.reduceEqDiff, Nat.reduceAdd, Int.reduceEq, pmM, f3]
    rw [hget _ _ (by simp only [pb, m18])]
    cases h9 : hasId g.nodes g.edges[i].dst
    · have nb : edgeOkAt g i = false := by rw [edgeOkAt, ea, h9]; simp
      simp (maxSteps := 1000000) (disch := omega) only [↓pa, pb, ↓reduceIte, Nat.reduceEqDiff]
      rw [graph_badE hlt nb]
    have ok : edgeOkAt g i = true := by rw [edgeOkAt, ea, h5, er, h8, h9]; rfl
    simp (maxSteps := 1000000) (disch := omega) only [↓pa, pb, natP, ↓reduceIte, Nat.reduceEqDiff, Int.reduceEq, f1, o1, f3, f51, f52, f53, m18]
    exact ⟨g.edges.length - (i + 1), by omega, i + 1, rfl, by omega, rfl, below_next hall ok⟩
theorem RunsTo_EQ {o : Option (PV × St)} {m : Nat → St} {p : PV} (h : ∃ r, r = p ∧ ∃ fl, o = some (r, m fl)) (k : ∀ fl, A (mk p (m fl))) : RunsTo o mk A := by
  obtain ⟨r, rfl, fl, rfl⟩ := h
  exact ⟨_, _, rfl, k fl⟩
theorem pmF : (∀ {l : List Fd}, nps (l.flatMap fc) = true) ∧ (∀ {l : List Fd}, strips (l.flatMap fc) = l.flatMap fc) ∧ (∀ {l : List Nd}, nps (l.flatMap nc) = true) ∧ (∀ {l : List Nd}, strips (l.flatMap nc) = l.flatMap nc) ∧ (∀ {l : List Eg}, nps (l.flatMap ec) = true) ∧ (∀ {l : List Eg}, strips (l.flatMap ec) = l.flatMap ec) :=
  ⟨(fs_plain _).1, (fs_plain _).2.1, (flat_plain nc nc_plain _).1, (flat_plain nc nc_plain _).2.1, (flat_plain ec ec_plain _).1, (flat_plain ec ec_plain _).2.1⟩
theorem c_copyF (K : Env cf) (l : List Fd) (hl : l.length ≤ 2000000) : ∃ r, r = FX l ∧ ∃ fl, callP cf 84 [FX l] [] st = some (r, setF st fl) := by
  refine c_valE K.tab (F := F84) (Q := fun r => r = FX l) rfl rfl rfl (lb rfl) (by simp [plainV_FX]) 1 ?_
  unfold F84 qr qm qc qo qN
  have hm := fs_len l
  simp (disch := omega) only [↓pa, ↓pmx, pb, pmy, ↓reduceIte, Nat.reduceEqDiff, Nat.reduceAdd, Nat.reduceLT, reduceCtorEq, List.replicate_zero, List.flatten_nil]
  refine RunsTo_app (n := 0) Gr_full rfl (by rw [hm]) (by omega) (by omega) (by decide) ?_
  simp (disch := omega) only [↓pa, pb, pmz, ↓reduceIte, pmF, List.nil_append, Nat.zero_add]
theorem c_copyT (K : Env cf) (l : List (List UInt8)) (hl : l.length ≤ 2000000) : ∃ r, r = TX l ∧ ∃ fl, callP cf 85 [TX l] [] st = some (r, setF st fl) := by
  refine c_valE K.tab (F := F85) (Q := fun r => r = TX l) rfl rfl rfl (lb rfl) (by simp [plainV_tx]) 1 ?_
  unfold F85 qr qm qc qo qN
  simp (disch := omega) only [↓pa, ↓pmx, pb, pmy, ↓reduceIte, Nat.reduceEqDiff, Nat.reduceAdd, Nat.reduceLT, reduceCtorEq, List.replicate_zero, List.flatten_nil]
  refine RunsTo_app (n := 0) Gr_full rfl (by rw [List.length_map, Nat.mul_one]) (by omega) (by omega) (by decide) ?_
  simp (disch := omega) only [↓pa, pb, pmz, pmV, ↓reduceIte, List.nil_append, Nat.zero_add]
theorem c_copyE (K : Env cf) (e : Eg) (hl : e.fields.length ≤ 2000000) : ∃ r, r = .agg (ec e) ∧ ∃ fl, callP cf 41 [.agg (ec e)] [] st = some (r, setF st fl) := by
  refine c_valE K.tab (F := F41) (Q := fun r => r = .agg (ec e)) rfl rfl rfl (lb rfl) (by simp [plainV_eg]) 1 ?_
  unfold F41 qr ql qf qo qe qN
  simp (disch := omega) only [↓pa, pb, pmy, ↓reduceIte, Nat.reduceEqDiff, Nat.reduceAdd, ec]
  refine RunsTo_EQ (c_copyF K e.fields hl) (fun fl => ?_)
  simp (disch := omega) only [↓pa, pb, pmy, pmz, ↓reduceIte, Nat.reduceEqDiff, Nat.reduceAdd, Nat.reduceLeDiff, pmF]
theorem keysOf_pl {p : PV} (h : plainV p) : keysOf [p] = some [] := keysOf_plain (plainVs_arg (ps := [p]) (by simpa using h)).1
theorem c_copyN (K : Env cf) (n : Nd) (h1 : n.labels.length ≤ 2000000) (hl : n.fields.length ≤ 2000000) : ∃ r, r = .agg (nc n) ∧ ∃ fl, callP cf 42 [.agg (nc n)] [] st = some (r, setF st fl) := by
  refine c_valE K.tab (F := F42) (Q := fun r => r = .agg (nc n)) rfl rfl rfl (lb rfl) (by simp [plainV_nd]) 1 ?_
  unfold F42 qr ql qf qo qe qN
  simp (disch := omega) only [↓pa, ↓pmw, pb, pmy, pmwk, ↓reduceIte, Nat.reduceEqDiff, Nat.reduceAdd, nc]
  refine RunsTo_EQ (c_copyT K n.labels h1) (fun fl => ?_)
  simp (disch := omega) only [↓pa, ↓pmw, pb, pmy, pmwk, ↓reduceIte, Nat.reduceEqDiff, Nat.reduceAdd]
  refine RunsTo_EQ (c_copyF K n.fields hl) (fun fl => ?_)
  simp (disch := omega) only [↓pa, ↓pmx, ↓pmw, pb, pmy, pmwk, pmwa, pmz, pmV, List.getElem?_cons_zero, List.getElem?_cons_succ, ↓reduceIte, Nat.reduceEqDiff, Nat.reduceAdd, Nat.reduceLeDiff, pmF, keysOf_pl (plainV_tx n.labels), keysOf_pl (plainV_FX n.fields)]
def insOf (l : List Eg) (id : Int) : List Int := (l.filter fun e => decide (e.dst = id)).map Eg.id
@[reducible] def IX (l : List Int) : PV := .list l.length (l.map I) .no
theorem partP_edst {l : List Eg} {j : Nat} (h : j < l.length) : partP (l.flatMap ec) (j * 5 + 3) 1 false = some (I l[j].dst) := by
  have := partP_flat ec 5 ec_len 3 1 false (by decide) l j h
  rw [this]
  rfl
theorem ints_plain (l : List Int) : plainVs (l.map I) := by
  induction l with
  | nil => exact plainVs_nil
  | cons x l ih => exact plainVs_cons (plainV_int _ _) ih
theorem ins_next {l : List Eg} {i : Nat} (h : i < l.length) (id : Int) : insOf (l.take (i + 1)) id = if l[i].dst = id then insOf (l.take i) id ++ [l[i].id] else insOf (l.take i) id := by
  unfold insOf
  rw [List.take_succ_eq_append_getElem h, List.filter_append, List.map_append]
  by_cases hd : l[i].dst = id <;> simp [hd]
theorem ins_len (l : List Eg) (id : Int) : (insOf l id).length ≤ l.length := by
  unfold insOf
  rw [List.length_map]
  exact List.length_filter_le _ _
set_option maxHeartbeats 1000000 in
theorem c_around (K : Env cf) (g : Gph) (id : Int) (hl : g.edges.length ≤ 2000000) : ∃ r, r = IX (insOf g.edges id) ∧ ∃ fl, callP cf 43 [.agg (gc g), I id, .bool false] [] st = some (r, setF st fl) := by
  refine c_valE K.tab (F := F43) (Q := fun r => r = IX (insOf g.edges id)) rfl rfl rfl (lb rfl) (by simp [plainV_gr, plainV_int, plainV_bool]) (g.edges.length + 1) ?_
  have hm := flat_len ec 5 ec_len g.edges
  unfold F43 qr qd qm qi qc qb qk ql qf qo qN
  simp (disch := omega) only [↓pa, ↓pmx, pb, pmy, ↓reduceIte, Nat.reduceAdd, Nat.reduceLT, gc, List.replicate_zero, List.flatten_nil]
  refine Wp_rounds (fun k fr st => ∃ (i : Nat) (tok : Tok), k = g.edges.length - i ∧ i ≤ g.edges.length ∧ fr 1 = I id ∧ fr 2 = .bool false ∧ fr 3 = .ptr 3 0 ∧ st.objs 3 = some [NX g.nodes, EX g.edges] ∧ fr 8 = I i ∧ fr 7 = .list (insOf (g.edges.take i) id).length ((insOf (g.edges.take i) id).map I) tok ∧ Gr 2 st.nx st.cnt (insOf (g.edges.take i) id).length tok) g.edges.length (by omega)
    ⟨0, .full 2, by simp, by omega, by simp (disch := omega) only [↓pa, pb, ↓reduceIte, Nat.reduceEqDiff], by simp (disch := omega) only [↓pa, pb, ↓reduceIte, Nat.reduceEqDiff], by simp (disch := omega) only [↓pa, ↓reduceIte, Nat.reduceEqDiff], by simp (disch := omega) only [pb, ↓reduceIte], by simp (disch := omega) only [↓pa, ↓reduceIte]; rfl, by simp (disch := omega) only [↓pa, ↓reduceIte, Nat.reduceEqDiff]; rfl, Gr_full⟩ ?_
  rintro k fr st ⟨i, tok, rfl, hi, f1, f2, f3, o3, f8, f7, hG⟩
  simp (disch := omega) only [↓pa, pb, pmy, natP, ↓reduceIte, Nat.reduceEqDiff, Nat.reduceAdd, f3, o3, f8]
  refine Cnd_intro (fun h1 => ?_) (fun h1 => ?_)
  rotate_left
  · have hii : i = g.edges.length := by omega
    have ht : g.edges.take i = g.edges := List.take_of_length_le (by omega)
    rw [ht] at f7
    have hpl := ints_plain (insOf g.edges id)
    simp (disch := omega) only [↓pa, pb, pmz, ↓reduceIte, Nat.reduceEqDiff, f7, h1, hpl.1, hpl.2.1]
  have hlt : i < g.edges.length := h1
  have hn := ins_next hlt id
  have hle := ins_len (g.edges.take i) id
  have hle2 : (g.edges.take i).length ≤ g.edges.length := by rw [List.length_take]; omega
  simp (disch := omega) only [↓pa, pb, pmy, ↓reduceIte, Nat.reduceEqDiff, Nat.reduceAdd, f1, f2, f3, o3, f8, h1, partP_edst hlt]
  refine Cnd_intro (fun h2 => ?_) (fun h2 => ?_)
  · rw [if_pos h2] at hn
    simp (disch := omega) only [↓pa, ↓pmx, pb, pmy, ↓reduceIte, Nat.reduceEqDiff, Nat.reduceAdd, Nat.reduceLeDiff, Nat.reduceLT, f3, o3, f8, f7, h2, Nat.add_zero, partP_eid hlt]
    refine RunsTo_app hG (by rw [List.length_map, Nat.mul_one]) rfl (by omega) (by omega) (by decide) ?_
    simp (disch := omega) only [↓pa, pb, pmy, natP, ↓reduceIte, Nat.reduceEqDiff, f1, f2, f3, o3, f8]
    refine ⟨g.edges.length - (i + 1), by omega, i + 1, appT 2 tok st, rfl, by omega, rfl, ?_, ?_⟩
    · rw [hn, List.length_append, List.map_append]; rfl
    · rw [hn, List.length_append]; exact Gr_app hG
  · rw [if_neg h2] at hn
    simp (disch := omega) only [↓pa, pb, natP, ↓reduceIte, Nat.reduceEqDiff, f1, f2, f3, o3, f8, f7, h2]
    refine ⟨g.edges.length - (i + 1), by omega, i + 1, tok, rfl, by omega, rfl, ?_, ?_⟩
    · rw [hn]
    · rw [hn]; exact hG
end Go.PM
namespace Go.PM
def shE (l : List Eg) (n k : Int) : List Eg := l.filter fun e => decide (e.src.tmod n = k)
def shN1 (es : List Eg) (n k : Int) (x : Nd) : List Nd := if x.id.tmod n = k then [x] else if 0 < (insOf es x.id).length then [⟨x.id, [], []⟩] else []
def shN (es : List Eg) (l : List Nd) (n k : Int) : List Nd := l.flatMap (shN1 es n k)
def shard (g : Gph) (n k : Int) : Gph := ⟨shN (shE g.edges n k) g.nodes n k, shE g.edges n k⟩
def shards (g : Gph) (n : Int) : Nat → List Gph
  | 0 => []
  | k + 1 => shards g n k ++ [shard g n k]
def splitG (g : Gph) (n : Int) : List Gph := if graphOk g = true ∧ 1 ≤ n ∧ n ≤ 8 then shards g n n.toNat else []
theorem gc_len (g : Gph) : (gc g).length = 2 := rfl
@[reducible] def GX (l : List Gph) : PV := .list l.length (l.flatMap gc) .no
theorem plainV_GX (l : List Gph) : plainV (GX l) := plainV_list (flat_plain gc gc_plain l)
theorem shE_next {l : List Eg} {i : Nat} (h : i < l.length) (n k : Int) : shE (l.take (i + 1)) n k = if l[i].src.tmod n = k then shE (l.take i) n k ++ [l[i]] else shE (l.take i) n k := by
  unfold shE
  rw [List.take_succ_eq_append_getElem h, List.filter_append]
  by_cases hd : l[i].src.tmod n = k <;> simp [hd]
theorem shN_next {es : List Eg} {l : List Nd} {i : Nat} (h : i < l.length) (n k : Int) : shN es (l.take (i + 1)) n k = shN es (l.take i) n k ++ shN1 es n k l[i] := by
  unfold shN
  rw [List.take_succ_eq_append_getElem h, List.flatMap_append]
  simp
theorem shE_len (l : List Eg) (n k : Int) : (shE l n k).length ≤ l.length := List.length_filter_le _ _
theorem shN1_len (es : List Eg) (n k : Int) (x : Nd) : (shN1 es n k x).length ≤ 1 := by
  unfold shN1
  repeat' split
  all_goals simp
theorem shN_len (es : List Eg) (n k : Int) : ∀ l : List Nd, (shN es l n k).length ≤ l.length
  | [] => Nat.le_refl _
  | x :: l => by
    have := shN_len es n k l
    have h1 := shN1_len es n k x
    unfold shN at this ⊢
    rw [List.flatMap_cons, List.length_append, List.length_cons]
    omega
theorem shards_len (g : Gph) (n : Int) : ∀ k, (shards g n k).length = k
  | 0 => rfl
  | k + 1 => by rw [shards, List.length_append, shards_len g n k]; rfl
end Go.PM
namespace Go.PM
open Go.Lib
variable {cf : CallF} {st : St} {mk : PV → St → Fr × St} {A : Fr × St → Prop} {s : Nat}
theorem callP_strip {f : Nat} {as : List PV} (h : as.all plainArg = true) (h2 : (as.map strip).all plainArg = true) (h3 : (as.map strip).map strip = as.map strip) : callP cf f as [] st = callP cf f (as.map strip) [] st := by
  simp only [callP, keysOf_plain h, keysOf_plain h2, getAll, handOn_plain 0 0 h, handOn_plain 0 0 h2, h3]
structure Like {α : Type} (enc : α → List PV) (m : Nat) (l : List α) (cs : List PV) : Prop where
  len : cs.length = l.length * m
  st : strips cs = l.flatMap enc
  np : nps cs = true
theorem Like.len' {g : Gph} {n : Int} {k : Nat} {cs : List PV} (h : Like gc 2 (shards g n k) cs) : cs.length = k * 2 := by rw [h.len, shards_len]
theorem Like_nil {α : Type} {enc : α → List PV} {m : Nat} : Like enc m ([] : List α) [] := ⟨by simp, rfl, rfl⟩
theorem strips_append (xs ys : List PV) : strips (xs ++ ys) = strips xs ++ strips ys := by
  induction xs with
  | nil => rfl
  | cons x xs ih => simp only [List.cons_append, pmz, ih]
theorem Like_snoc {α : Type} {enc : α → List PV} {m : Nat} {l : List α} {cs ds : List PV} {a : α} (h : Like enc m l cs) (h1 : ds.length = m) (h2 : strips ds = enc a) (h3 : nps ds = true) : Like enc m (l ++ [a]) (cs ++ ds) := by
  refine ⟨?_, ?_, nps_append h.np h3⟩
  · rw [List.length_append, h.len, h1, List.length_append, List.length_cons, List.length_nil, Nat.add_mul]; omega
  · rw [strips_append, h.st, h2, List.flatMap_append]; simp
theorem c_around' (K : Env cf) (g : Gph) (id : Int) (hl : g.edges.length ≤ 2000000) {cs ds : List PV} {tk tk2 : Tok} (h1 : Like nc 3 g.nodes cs) (h2 : Like ec 5 g.edges ds) : ∃ r, r = IX (insOf g.edges id) ∧ ∃ fl, callP cf 43 [.agg [.list g.nodes.length cs tk, .list g.edges.length ds tk2], I id, .bool false] [] st = some (r, setF st fl) := by
  have hm : ([.agg [.list g.nodes.length cs tk, .list g.edges.length ds tk2], I id, .bool false] : List PV).map strip = [.agg (gc g), I id, .bool false] := by
    simp only [List.map_cons, List.map_nil, pmz, h1.st, h2.st]; rfl
  obtain ⟨r, hr, fl, h⟩ := c_around (st := st) K g id hl
  refine ⟨r, hr, fl, ?_⟩
  have hpl : ∀ p ∈ [PV.agg (gc g), I id, PV.bool false], plainV p := by simp [plainV_gr, plainV_int, plainV_bool]
  obtain ⟨q1, q2⟩ := plainVs_arg hpl
  rw [callP_strip ?_ (by rw [hm]; exact q1) (by rw [hm]; exact q2), hm, h]
  simp only [List.all_cons, List.all_nil, plainArg, pmz, h1.np, h2.np, Bool.and_self]
theorem put5v {a b c d e : PV} {vs : List PV} (h : vs.length = 5) : putCells [a, b, c, d, e] 0 vs = vs := putCells_all (by rw [h]; rfl)
theorem put3v {a b c : PV} {vs : List PV} (h : vs.length = 3) : putCells [a, b, c] 0 vs = vs := putCells_all (by rw [h]; rfl)
theorem partP_esrc {l : List Eg} {j : Nat} (h : j < l.length) : partP (l.flatMap ec) (j * 5 + 2) 1 false = some (I l[j].src) := by
  have := partP_flat ec 5 ec_len 2 1 false (by decide) l j h
  rw [this]
  rfl
set_option maxHeartbeats 4000000 in
theorem c_splitS (K : Env cf) (g : Gph) (n : Int) (hf1 : ∀ e ∈ g.edges, e.fields.length ≤ 2000000) (hf2 : ∀ x ∈ g.nodes, x.fields.length ≤ 2000000 ∧ x.labels.length ≤ 2000000) :
    ∃ r, r = GX (splitG g n) ∧ ∃ fl, callP cf 9 [.agg (gc g), I n] [] st = some (r, setF st fl) := by
  refine c_valE K.tab (F := F9) (Q := fun r => r = GX (splitG g n)) rfl rfl rfl (lb rfl) (by simp [plainV_gr, plainV_int]) 1000 ?_
  have hm := flat_len nc 3 nc_len g.nodes
  have hm2 := flat_len ec 5 ec_len g.edges
  have hflt : ∀ st, callP cf 40 [.agg [NX g.nodes, EX g.edges]] [] st = some (I (fault g), st) := fun st => c_fault K g
  unfold F9 qr qd qm qi qc qb qk ql qf qo qe qN
  simp (disch := omega) only [↓pa, ↓pmx, pb, pmy, ↓reduceIte, Nat.reduceEqDiff, Nat.reduceAdd, Nat.reduceLeDiff, Nat.reduceLT, ne_eq, gc, List.replicate_zero, List.flatten_nil, hflt]
  by_cases hg : graphOk g = true
  rotate_left
  · have hg0 : graphOk g = false := by simpa using hg
    simp (disch := omega) only [↓pa, pb, pmz, ↓reduceIte, Nat.reduceEqDiff, Int.reduceEq, fault_bad hg0]
    rw [splitG, if_neg fun h => hg h.1]; rfl
  have hfz : fault g = 0 := by rw [fault, if_pos hg]
  simp (disch := omega) only [↓pa, pb, ↓reduceIte, Nat.reduceEqDiff, hfz]
  refine Cnd_intro (fun n1 => ?_) (fun n1 => ?_)
  · simp (disch := omega) only [↓pa, pb, pmz, ↓reduceIte, Nat.reduceEqDiff, n1]
    rw [splitG, if_neg fun h => by omega]; rfl
  simp (disch := omega) only [↓pa, pb, ↓reduceIte, Nat.reduceEqDiff, n1]
  refine Cnd_intro (fun n8 => ?_) (fun n8 => ?_)
  · simp (disch := omega) only [↓pa, pb, pmz, ↓reduceIte, Nat.reduceEqDiff, n8]
    rw [splitG, if_neg fun h => by omega]; rfl
  have hs : splitG g n = shards g n n.toNat := by rw [splitG, if_pos ⟨hg, by omega, by omega⟩]
  have hg' := hg
  unfold graphOk at hg'
  rw [Bool.and_eq_true, Bool.and_eq_true] at hg'
  have l1 := of_decide_eq_true hg'.1.1
  have l2 := of_decide_eq_true hg'.1.2
  clear hg'
  simp (disch := omega) only [↓pa, pb, n8]
  refine Wp_rounds (fun q fr st => ∃ (k : Nat) (cs : List PV) (tok : Tok), q = n.toNat - k ∧ (k : Int) ≤ n ∧ fr 1 = I n ∧ fr 2 = .ptr 2 0 ∧ st.objs 2 = some [NX g.nodes, EX g.edges] ∧ fr 5 = .list k cs tok ∧ fr 6 = I k ∧ Like gc 2 (shards g n k) cs ∧ Gr 32 st.nx st.cnt k tok) n.toNat (by omega)
    ⟨0, [], .full 32, by simp, by omega, by simp (disch := omega) only [↓pa, pb, ↓reduceIte, Nat.reduceEqDiff], by simp (disch := omega) only [↓pa, ↓reduceIte, Nat.reduceEqDiff], by simp (disch := omega) only [pb, ↓reduceIte], by simp (disch := omega) only [↓pa, ↓reduceIte, Nat.reduceEqDiff], by simp (disch := omega) only [↓pa, ↓reduceIte]; rfl, Like_nil, Gr_full⟩ ?_
  rintro q fr st ⟨k, cs, tok, rfl, hkn, f1, f2, o2, f5, f6, hL, hG⟩
  simp (disch := omega) only [↓pa, pb, ↓reduceIte, Nat.reduceEqDiff, f1, f6]
  refine Cnd_intro (fun h1 => ?_) (fun h1 => ?_)
  rotate_left
  · have hk : k = n.toNat := by omega
    simp (disch := omega) only [↓pa, pb, pmz, ↓reduceIte, Nat.reduceEqDiff, f5, h1, hL.np, hL.st]
    rw [hs, ← hk, GX, shards_len]
  simp (disch := omega) only [↓pa, ↓pmx, pb, pmy, ↓reduceIte, Nat.reduceEqDiff, Nat.reduceAdd, Nat.reduceLeDiff, h1]
  refine Wp_rounds (fun q fr st => ∃ (i : Nat) (ds : List PV) (tk2 : Tok), q = g.edges.length - i ∧ i ≤ g.edges.length ∧ fr 1 = I n ∧ fr 2 = .ptr 2 0 ∧ st.objs 2 = some [NX g.nodes, EX g.edges] ∧ fr 5 = .list k cs tok ∧ fr 6 = I k ∧ fr 7 = .ptr 7 0 ∧ st.objs 7 = some [.list 0 [] .nil, .list (shE (g.edges.take i) n k).length ds tk2] ∧ fr 8 = I i ∧ Like ec 5 (shE (g.edges.take i) n k) ds ∧ Gr 68 st.nx st.cnt (shE (g.edges.take i) n k).length tk2 ∧ Gr 32 st.nx st.cnt k tok ∧ apartT tk2 tok) g.edges.length (by omega)
    ⟨0, [], .nil, by simp, by omega, by simp (disch := omega) only [↓pa, pb, ↓reduceIte, Nat.reduceEqDiff, f1], by simp (disch := omega) only [↓pa, pb, ↓reduceIte, Nat.reduceEqDiff, f2], by simp (disch := omega) only [pb, ↓reduceIte, Nat.reduceEqDiff, o2], by simp (disch := omega) only [↓pa, pb, ↓reduceIte, Nat.reduceEqDiff, f5], by simp (disch := omega) only [↓pa, pb, ↓reduceIte, Nat.reduceEqDiff, f6], by simp (disch := omega) only [↓pa, ↓reduceIte, Nat.reduceEqDiff], by simp (disch := omega) only [pb, ↓reduceIte]; rfl, by simp (disch := omega) only [↓pa, ↓reduceIte]; rfl, Like_nil, rfl, hG, trivial⟩ ?_
  clear f1 f2 o2 f5 f6 hG
  rintro q fr st ⟨i, ds, tk2, rfl, hi, f1, f2, o2, f5, f6, f7, o7, f8, hLE, hGE, hG, hap⟩
  have hel := shE_len (g.edges.take i) n k
  have hel2 : (g.edges.take i).length ≤ g.edges.length := by rw [List.length_take]; omega
  simp (disch := omega) only [↓pa, pb, pmy, natP, ↓reduceIte, Nat.reduceEqDiff, Nat.reduceAdd, f2, o2, f8]
  refine Cnd_intro (fun j1 => ?_) (fun j1 => ?_)
  · have hlt : i < g.edges.length := j1
    have hnext := shE_next hlt n k
    have hrem := b_rem (k := .i64) (a := g.edges[i].src) (show n ≠ 0 by omega)
    have he5 := ec_len g.edges[i]
    have hep := ec_plain g.edges[i]
    simp (disch := omega) only [↓pa, pb, pmy, ↓reduceIte, Nat.reduceEqDiff, Nat.reduceAdd, f1, f2, o2, f6, f8, j1, partP_esrc hlt, hrem]
    refine Cnd_intro (fun j2 => ?_) (fun j2 => ?_)
    · rw [if_pos j2] at hnext
      simp (disch := omega) only [↓pa, ↓pmw, pb, pmy, pmwk, ↓reduceIte, Nat.reduceEqDiff, Nat.reduceAdd, f2, o2, f7, o7, f8, j2, partP_e hlt]
      refine RunsTo_EQ (c_copyE K g.edges[i] (hf1 _ (List.getElem_mem hlt))) (fun fl => ?_)
      simp (disch := omega) only [↓pa, ↓pmx, ↓pmw, pb, pmy, pmwk, ↓reduceIte, Nat.reduceEqDiff, Nat.reduceAdd, Nat.reduceLeDiff, Nat.reduceLT, he5, put5v, keysOf_pl (plainV_eg g.edges[i])]
      refine RunsTo_app2 (e2 := 32) (n2 := k) (u := tok) hGE hLE.len (by rw [he5]) (by omega) (by omega) (by decide) hG hap (fun st1 tk' ho hGE' hG' hap' => ?_)
      simp (disch := omega) only [↓pa, ↓pmw, pb, pmy, pmwk, pmwa, natP, List.getElem?_cons_zero, List.getElem?_cons_succ, ↓reduceIte, Nat.reduceEqDiff, Nat.reduceAdd, Nat.reduceLeDiff, f1, f2, o2, f5, f6, f7, o7, f8, ho]
      exact ⟨g.edges.length - (i + 1), by omega, i + 1, _, tk', rfl, by omega, by rw [hnext, List.length_append]; rfl, rfl, by rw [hnext]; exact Like_snoc hLE he5 hep.2.1 hep.1, by rw [hnext, List.length_append]; exact hGE', hG', hap'⟩
    · rw [if_neg j2] at hnext
      simp (disch := omega) only [↓pa, pb, natP, ↓reduceIte, Nat.reduceEqDiff, f1, f2, o2, f5, f6, f7, o7, f8, j2]
      exact ⟨g.edges.length - (i + 1), by omega, i + 1, ds, tk2, rfl, by omega, by rw [hnext], rfl, by rw [hnext]; exact hLE, by rw [hnext]; exact hGE, hG, hap⟩
  have hie : g.edges.take i = g.edges := List.take_of_length_le (by omega)
  rw [hie] at hLE hGE o7
  simp (disch := omega) only [↓pa, pb, j1]
  have hEl := shE_len g.edges n k
  generalize hE : shE g.edges n k = E at *
  refine Wp_rounds (fun q fr st => ∃ (i : Nat) (cs1 : List PV) (tk1 : Tok), q = g.nodes.length - i ∧ i ≤ g.nodes.length ∧ fr 1 = I n ∧ fr 2 = .ptr 2 0 ∧ st.objs 2 = some [NX g.nodes, EX g.edges] ∧ fr 5 = .list k cs tok ∧ fr 6 = I k ∧ fr 7 = .ptr 7 0 ∧ st.objs 7 = some [.list (shN E (g.nodes.take i) n k).length cs1 tk1, .list E.length ds tk2] ∧ fr 9 = I i ∧ Like nc 3 (shN E (g.nodes.take i) n k) cs1 ∧ Gr 72 st.nx st.cnt (shN E (g.nodes.take i) n k).length tk1 ∧ Gr 32 st.nx st.cnt k tok ∧ apartT tk1 tok) g.nodes.length (by omega)
    ⟨0, [], .nil, by simp, by omega, by simp (disch := omega) only [↓pa, ↓reduceIte, Nat.reduceEqDiff, f1], by simp (disch := omega) only [↓pa, ↓reduceIte, Nat.reduceEqDiff, f2], by simp (disch := omega) only [o2], by simp (disch := omega) only [↓pa, ↓reduceIte, Nat.reduceEqDiff, f5], by simp (disch := omega) only [↓pa, ↓reduceIte, Nat.reduceEqDiff, f6], by simp (disch := omega) only [↓pa, ↓reduceIte, Nat.reduceEqDiff, f7], by simp (disch := omega) only [o7]; rfl, by simp (disch := omega) only [↓pa, ↓reduceIte]; rfl, Like_nil, rfl, hG, trivial⟩ ?_
  clear f1 f2 o2 f5 f6 f7 o7 f8 hG
  rintro q fr st ⟨i, cs1, tk1, rfl, hi, f1, f2, o2, f5, f6, f7, o7, f9, hLN, hGN, hG, hap⟩
  have hnl := shN_len E n k (g.nodes.take i)
  have hnl2 : (g.nodes.take i).length ≤ g.nodes.length := by rw [List.length_take]; omega
  simp (disch := omega) only [↓pa, pb, pmy, natP, ↓reduceIte, Nat.reduceEqDiff, Nat.reduceAdd, f2, o2, f9]
  refine Cnd_intro (fun j1 => ?_) (fun j1 => ?_)
  · have hlt : i < g.nodes.length := j1
    have hnext := shN_next (es := E) hlt n k
    have hrem := b_rem (k := .i64) (a := g.nodes[i].id) (show n ≠ 0 by omega)
    have hn3 := nc_len g.nodes[i]
    have hnp := nc_plain g.nodes[i]
    simp (disch := omega) only [↓pa, pb, pmy, ↓reduceIte, Nat.reduceEqDiff, f1, f2, o2, f6, f9, j1, Nat.add_zero, partP_nid hlt, hrem]
    refine Cnd_intro (fun j2 => ?_) (fun j2 => ?_)
    · have hnext : shN E (g.nodes.take (i + 1)) n k = shN E (g.nodes.take i) n k ++ [g.nodes[i]] := by rw [hnext, shN1, if_pos j2]
      simp (disch := omega) only [↓pa, ↓pmw, pb, pmy, pmwk, ↓reduceIte, Nat.reduceEqDiff, Nat.reduceAdd, f2, o2, f7, o7, f9, j2, partP_n hlt]
      refine RunsTo_EQ (c_copyN K g.nodes[i] (hf2 _ (List.getElem_mem hlt)).2 (hf2 _ (List.getElem_mem hlt)).1) (fun fl => ?_)
      simp (disch := omega) only [↓pa, ↓pmx, ↓pmw, pb, pmy, pmwk, ↓reduceIte, Nat.reduceEqDiff, Nat.reduceAdd, Nat.reduceLeDiff, Nat.reduceLT, hn3, put3v, keysOf_pl (plainV_nd g.nodes[i])]
      refine RunsTo_app2 (e2 := 32) (n2 := k) (u := tok) hGN hLN.len (by rw [hn3]) (by omega) (by omega) (by decide) hG hap (fun st1 tk' ho hGN' hG' hap' => ?_)
      simp (disch := omega) only [↓pa, ↓pmw, pb, pmy, pmwk, pmwa, natP, List.getElem?_cons_zero, List.getElem?_cons_succ, ↓reduceIte, Nat.reduceEqDiff, Nat.reduceAdd, Nat.reduceLeDiff, f1, f2, o2, f5, f6, f7, o7, f9, ho]
      exact ⟨g.nodes.length - (i + 1), by omega, i + 1, _, tk', rfl, by omega, by rw [hnext, List.length_append]; rfl, rfl, by rw [hnext]; exact Like_snoc hLN hn3 hnp.2.1 hnp.1, by rw [hnext, List.length_append]; exact hGN', hG', hap'⟩
    · simp (disch := omega) only [↓pa, pb, pmy, ↓reduceIte, Nat.reduceEqDiff, Nat.reduceAdd, Nat.reduceLeDiff, f2, o2, f7, o7, f9, j2, Nat.add_zero, partP_nid hlt]
      refine RunsTo_EQ (c_around' K ⟨shN E (g.nodes.take i) n k, E⟩ g.nodes[i].id (by show E.length ≤ 2000000; omega) hLN hLE) (fun fl => ?_)
      simp (disch := omega) only [↓pa, pb, ↓reduceIte]
      refine Cnd_intro (fun j3 => ?_) (fun j3 => ?_)
      · have hnext : shN E (g.nodes.take (i + 1)) n k = shN E (g.nodes.take i) n k ++ [⟨g.nodes[i].id, [], []⟩] := by rw [hnext, shN1, if_neg j2, if_pos (by omega)]
        simp (disch := omega) only [↓pa, ↓pmx, pb, pmy, ↓reduceIte, Nat.reduceEqDiff, Nat.reduceAdd, Nat.reduceLeDiff, Nat.reduceLT, f2, o2, f7, o7, f9, j3, Nat.add_zero, partP_nid hlt]
        refine RunsTo_app2 (e2 := 32) (n2 := k) (u := tok) hGN hLN.len rfl (by omega) (by omega) (by decide) hG hap (fun st1 tk' ho hGN' hG' hap' => ?_)
        simp (disch := omega) only [↓pa, pb, pmy, natP, ↓reduceIte, Nat.reduceEqDiff, Nat.reduceAdd, Nat.reduceLeDiff, f1, f2, o2, f5, f6, f7, o7, f9, ho]
        exact ⟨g.nodes.length - (i + 1), by omega, i + 1, _, tk', rfl, by omega, by rw [hnext, List.length_append]; rfl, rfl, by rw [hnext]; exact Like_snoc hLN rfl rfl rfl, by rw [hnext, List.length_append]; exact hGN', hG', hap'⟩
      · have hnext : shN E (g.nodes.take (i + 1)) n k = shN E (g.nodes.take i) n k := by rw [hnext, shN1, if_neg j2, if_neg (by omega), List.append_nil]
        simp (disch := omega) only [↓pa, pb, pmy, natP, ↓reduceIte, Nat.reduceEqDiff, f1, f2, o2, f5, f6, f7, o7, f9, j3]
        exact ⟨g.nodes.length - (i + 1), by omega, i + 1, cs1, tk1, rfl, by omega, by rw [hnext], rfl, by rw [hnext]; exact hLN, by rw [hnext]; exact hGN, hG, hap⟩
  have hin : g.nodes.take i = g.nodes := List.take_of_length_le (by omega)
  rw [hin] at hLN o7
  simp (disch := omega) only [↓pa, ↓pmx, pb, pmy, ↓reduceIte, Nat.reduceEqDiff, Nat.reduceAdd, Nat.reduceLeDiff, Nat.reduceLT, f5, f7, o7, j1]
  refine RunsTo_app hG hL.len' rfl (by omega) (by omega) (by decide) ?_
  simp (disch := omega) only [↓pa, pb, pmy, natP, ↓reduceIte, Nat.reduceEqDiff, f1, f2, o2, f6]
  have hgc : strips [PV.list (shN E g.nodes n k).length cs1 tk1, PV.list E.length ds tk2] = gc (shard g n k) := by
    simp only [pmz, hLN.st, hLE.st, gc, shard, hE]
  have hgn : nps [PV.list (shN E g.nodes n k).length cs1 tk1, PV.list E.length ds tk2] = true := by
    simp only [pmz, hLN.np, hLE.np, Bool.and_self]
  exact ⟨n.toNat - (k + 1), by omega, k + 1, _, _, rfl, by omega, rfl, rfl, Like_snoc hL rfl hgc hgn, Gr_app hG⟩
theorem c_key (K : Env cf) (x : Nd) : callP cf 92 [.agg (nc x)] [] st = some (I x.id, st) := by
  refine c_val K.tab (F := F92) (t := 2) rfl rfl rfl (lb rfl) (by simp [plainV_nd]) (bare_int _ _) 1 ?_
  unfold F92 qr qm qi ql qf qo
  simp (disch := omega) only [↓pa, pb, pmy, ↓reduceIte, Nat.reduceEqDiff, Nat.reduceAdd, nc]
theorem c_nodeAt (K : Env cf) (g : Gph) (id : Int) (hl : g.nodes.length ≤ 2000000) : callP cf 90 [.agg (gc g), I id] [] st = some (I (nodeIx g.nodes id), st) := by
  refine c_val K.tab (F := F90) (t := 4) rfl rfl rfl (lb rfl) (by simp [plainV_gr, plainV_int]) (bare_int _ _) (g.nodes.length + 1) ?_
  have hm := flat_len nc 3 nc_len g.nodes
  unfold F90 qr qd qm qi qb qk ql qf qo qe qN
  simp (disch := omega) only [↓pa, pb, pmy, ↓reduceIte, Nat.reduceEqDiff, Nat.reduceAdd, gc]
  refine Wp_rounds (fun k fr st => ∃ i : Nat, k = g.nodes.length - i ∧ i ≤ g.nodes.length ∧ fr 1 = I id ∧ fr 8 = NX g.nodes ∧ fr 9 = I g.nodes.length ∧ fr 10 = I i ∧ ixGo id (g.nodes.drop i) i = nodeIx g.nodes id) g.nodes.length (by omega) ⟨0, by simp, by omega, by simp (disch := omega) only [↓pa, pb, ↓reduceIte, Nat.reduceEqDiff], by simp (disch := omega) only [↓pa, ↓reduceIte, Nat.reduceEqDiff], by simp (disch := omega) only [↓pa, ↓reduceIte, Nat.reduceEqDiff], by simp (disch := omega) only [↓pa, ↓reduceIte]; rfl, rfl⟩ ?_
  rintro k fr st ⟨i, rfl, hi, f1, f8, f9, f10, hQ⟩
  simp (disch := omega) only [↓pa, pb, natP, ↓reduceIte, f9, f10]
  refine Cnd_intro (fun h1 => ?_) (fun h1 => ?_)
  · rw [List.drop_eq_getElem_cons h1, ixGo] at hQ
    simp (disch := omega) only [↓pa, pb, pmy, ↓reduceIte, Nat.reduceEqDiff, Nat.reduceAdd, Nat.reduceLeDiff, f1, f8, f10, h1, partP_n h1, nc]
    refine Cnd_intro (fun h2 => ?_) (fun h2 => ?_)
    · rw [if_pos h2] at hQ
      simp (disch := omega) only [↓pa, pb, ↓reduceIte, Nat.reduceEqDiff, h2]
      rw [← hQ]
    · rw [if_neg h2] at hQ
      simp (disch := omega) only [↓pa, pb, natP, ↓reduceIte, Nat.reduceEqDiff, f1, f8, f9, f10, h2]
      exact ⟨g.nodes.length - (i + 1), by omega, i + 1, rfl, by omega, rfl, hQ⟩
  · have : i = g.nodes.length := by omega
    rw [this, List.drop_length] at hQ
    simp (disch := omega) only [↓pa, pb, ↓reduceIte, h1]
    rw [← hQ]; rfl
def flatP (p : PV) : Bool := match p with
  | .int _ _ => true
  | .str _ => true
  | .bool _ => true
  | _ => false
theorem flat_so {cs : List PV} (h : ∀ p ∈ cs, flatP p = true) : solids cs = true ∧ tokss cs = [] := by
  induction cs with
  | nil => exact ⟨rfl, rfl⟩
  | cons c cs ih =>
    obtain ⟨h1, h2⟩ := ih fun p hp => h p (List.mem_cons_of_mem _ hp)
    have h0 := h c List.mem_cons_self
    simp only [solids, tokss, h1, h2]
    cases c <;> simp_all [flatP, solid, toks]
theorem TokOK_one {st : St} {k n : Nat} (h1 : k < st.nx) (h2 : st.cnt k = n) (h3 : st.fl ≤ k) : TokOK st [(k, n)] := by
  refine ⟨fun j => ?_, fun q hq => ?_⟩
  · simp only [ck]; split <;> omega
  · simp only [List.mem_singleton] at hq; subst hq; exact ⟨h1, h2, h3⟩
theorem TokOK_nil {st : St} : TokOK st [] := ⟨fun _ => by simp [ck], by simp⟩
set_option maxHeartbeats 1000000 in
theorem c_twinL {f e sz by_ : Nat} {F : CFn} (hE : F.res = [.tmp 2] ∧ F.own = true ∧ 1 ≤ F.nt) (hT : T f = some F)
    (hb : F.body = .seq (.reg [⟨none, (some 2), .mv (.k (.list 0 [] .nil))⟩] []) (.seq (.seq (.reg [⟨none, (some 3), .mv (.sl 0)⟩, ⟨none, (some 4), .len (.sl 3)⟩, ⟨none, (some 5), .bin .eql (.sl 4) (.k (.int .i64 0))⟩] []) (.cond (.sl 5) (.seq (.reg [⟨none, (some 2), .mv (.k (.list 0 [] .nil))⟩] []) (.ret)) (.skip)))
      (.seq (.reg [⟨none, (some 6), .mv (.sl 0)⟩, ⟨none, (some 7), .len (.sl 6)⟩, ⟨none, (some 8), .mk0 e sz by_ (.k (.int .i64 0)) (.sl 7)⟩, ⟨none, (some 9), .mv (.sl 0)⟩, ⟨none, (some 10), .app e sz by_ (.sl 8) (.sl 9)⟩, ⟨none, (some 2), .mv (.sl 10)⟩] []) (.ret))))
    (hsz : 0 < sz) (hby : by_ ≤ 1000) (K : Env cf) {n : Nat} {cs : List PV} (hp : plainVs cs) (hfl : ∀ p ∈ cs, flatP p = true) (hcl : cs.length = n * sz) (hl : n ≤ 2000000) :
    ∃ r ns, callP cf f [.list n cs .no] [] st = some (r, st.more ns) ∧ Fresh st.nx ns r ∧ strip r = .list n cs .no := by
  obtain ⟨e1, e2, e3⟩ := hE
  refine c_valO K.tab (F := F) (Q := fun r => r = .list n cs .no) hT e1 e2 (by simpa using e3) (by simp [plainV_list hp]) 1 ?_
  rw [hb]
  simp (disch := omega) only [↓pa, pb, ↓reduceIte, reduceCtorEq]
  refine Cnd_intro (fun h0 => ?_) (fun h0 => ?_)
  · have hn : n = 0 := by omega
    subst hn
    have : cs = [] := List.eq_nil_of_length_eq_zero (by omega)
    subst this
    simp (disch := omega) only [↓pa, pb, ↓reduceIte, pmj, h0]
    exact ⟨rfl, rfl, rfl, TokOK_nil, rfl⟩
  · have hm := @mk0P_ok e sz by_ (n : Int) (stB [] []) (by omega) (by have := Nat.mul_le_mul hby hl; simp only [Int.toNat_natCast]; omega) (by omega) hsz
    simp (disch := omega) only [↓pa, ↓pmx, pb, ↓reduceIte, Nat.reduceEqDiff, reduceCtorEq, pmj, h0, hm]
    refine RunsTo_app (n := 0) (e := e) ⟨by simp [St.more, stB], by simp [St.more, stB], rfl⟩ (by simp) hcl (by rw [Nat.zero_add]; have := Nat.mul_le_mul hl hby; omega) (by omega) hsz ?_
    simp (disch := omega) only [↓pa, pmy, ↓reduceIte, pmj]
    obtain ⟨s1, s2⟩ := flat_so hfl
    refine ⟨rfl, ?_, ?_, ?_, ?_⟩
    · simp only [pmz, hp.1]
    · simp only [appT, solid, s1, Bool.and_self]
    · simp only [appT, toks, s2, List.append_nil]
      refine TokOK_one ?_ ?_ ?_ <;> simp [appS, St.more, St.count, stB]
    · simp only [pmz, hp.2.1, Nat.zero_add]
theorem c_twinT (K : Env cf) (l : List (List UInt8)) (hl : l.length ≤ 2000000) : ∃ r ns, callP cf 103 [TX l] [] st = some (r, st.more ns) ∧ Fresh st.nx ns r ∧ strip r = TX l :=
  c_twinL (F := F103) ⟨rfl, rfl, Nat.le_of_ble_eq_true rfl⟩ rfl rfl (by decide) (by decide) K (by induction l with | nil => exact plainVs_nil | cons x l ih => exact plainVs_cons (plainV_str _) (ih (by simp at hl; omega))) (by simp [flatP, S]) (by simp) hl
theorem c_twinF (K : Env cf) (l : List Fd) (hl : l.length ≤ 2000000) : ∃ r ns, callP cf 108 [FX l] [] st = some (r, st.more ns) ∧ Fresh st.nx ns r ∧ strip r = FX l :=
  c_twinL (F := F108) ⟨rfl, rfl, Nat.le_of_ble_eq_true rfl⟩ rfl rfl (by decide) (by decide) K (fs_plain l) (by intro p hp; obtain ⟨x, -, h⟩ := List.mem_flatMap.1 hp; simp only [fc, List.mem_cons, List.not_mem_nil, or_false] at h; rcases h with rfl | rfl <;> rfl) (by rw [fs_len]) hl
theorem c_twinE (K : Env cf) (e : Eg) (hl : e.fields.length ≤ 2000000) : ∃ r ns, callP cf 68 [.agg (ec e)] [] st = some (r, st.more ns) ∧ Fresh st.nx ns r ∧ strip r = .agg (ec e) := by
  refine c_valO K.tab (F := F68) (Q := fun r => r = .agg (ec e)) rfl rfl rfl (lb rfl) (by simp [plainV_eg]) 1 ?_
  unfold F68 qr ql qf qo qe qN
  simp (disch := omega) only [↓pa, pb, pmy, ↓reduceIte, Nat.reduceEqDiff, Nat.reduceAdd, ec]
  refine RunsTo_OE (c_twinF K e.fields hl) (fun r ns hF hr => ?_)
  obtain ⟨ds, u, rfl, hd, -⟩ := strip_list_inv hr
  simp (disch := omega) only [↓pa, pb, pmy, ↓reduceIte, Nat.reduceEqDiff, Nat.reduceAdd, Nat.reduceLeDiff, pmj]
  refine ⟨rfl, ?_, ?_, ?_, ?_⟩
  · simp only [pmz, Bool.true_and, Bool.and_true]; exact hF.np
  · simp only [solid, solids, Bool.true_and, Bool.and_true]; exact hF.so
  · simp only [toks, tokss, List.nil_append, List.append_nil]
    have := hF.tk
    simp only [toks] at this
    rw [this]
    exact TokOK_setO (TokOK_setO (TokOK_more (TokOK_setO (TokOK_setO TokOK_nil)) (Nat.zero_le _) ns))
  · simp only [pmz, hd]
theorem c_twinN (K : Env cf) (n : Nd) (h1 : n.labels.length ≤ 2000000) (hl : n.fields.length ≤ 2000000) : ∃ r ns, callP cf 66 [.agg (nc n)] [] st = some (r, st.more ns) ∧ Fresh st.nx ns r ∧ strip r = .agg (nc n) := by
  refine c_valO K.tab (F := F66) (Q := fun r => r = .agg (nc n)) rfl rfl rfl (lb rfl) (by simp [plainV_nd]) 1 ?_
  unfold F66 qr ql qf qo qe qN
  simp (disch := omega) only [↓pa, pb, pmy, ↓reduceIte, Nat.reduceEqDiff, Nat.reduceAdd, nc]
  refine RunsTo_OE (c_twinT K n.labels h1) (fun r ns hF hr => ?_)
  obtain ⟨ds, u, rfl, hd, -⟩ := strip_list_inv hr
  simp (disch := omega) only [↓pa, pb, pmy, ↓reduceIte, Nat.reduceEqDiff, Nat.reduceAdd, Nat.reduceLeDiff, pmj]
  refine RunsTo_OE (c_twinF K n.fields hl) (fun r2 ns2 hF2 hr2 => ?_)
  obtain ⟨ds2, u2, rfl, hd2, -⟩ := strip_list_inv hr2
  simp (disch := omega) only [↓pa, pb, pmy, ↓reduceIte, Nat.reduceEqDiff, Nat.reduceAdd, Nat.reduceLeDiff, pmj]
  refine ⟨rfl, ?_, ?_, ?_, ?_⟩
  · simp only [pmz, Bool.true_and, Bool.and_true]; have a := hF.np; have b := hF2.np; simp only [pmz] at a b; rw [a, b]; rfl
  · have a := hF.so; have b := hF2.so; simp only [solid, solids, Bool.true_and, Bool.and_true] at a b ⊢; rw [a, b]; rfl
  · have a := hF.tk
    have b := hF2.tk
    simp only [toks, tokss, List.nil_append, List.append_nil] at a b ⊢
    rw [a, b]
    exact TokOK_setO (TokOK_setO (TokOK_more (TokOK_setO (TokOK_more (TokOK_setO (TokOK_setO TokOK_nil)) (Nat.zero_le _) ns)) (by simp only [setO, St.more_fl, stB]; exact Nat.zero_le _) ns2))
  · simp only [pmz, hd, hd2]
end Go.PM
