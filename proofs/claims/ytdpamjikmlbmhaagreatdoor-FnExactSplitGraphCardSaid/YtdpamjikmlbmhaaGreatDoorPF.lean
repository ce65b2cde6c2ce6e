/- A part of the proof: texts PhK, PhL, PhM, PhN, PhO, PhP, PhQ, PhR, PhS, PhT, PhU, PhV, PhW, joined. Conditions: none. -/
import Derived.Test.YtdpamjikmlbmhaaGreatDoorPE
namespace Go.PM
open Go.Lib
variable {cf : CallF} {st : St} {mk : PV → St → Fr × St} {A : Fr × St → Prop} {s : Nat}
structure InsOk (cf : CallF) : Prop where
  nil : ∀ ds : List PV, ds.length = 3 → nps ds = true → cf 128 [.list 0 [] .nil, I 0, .list 1 ds .no] [] [] = some (.list 1 ds (.own 0 72), [1], [])
  own : ∀ (n i : Nat) (cs ds : List PV) (ns : List Nat), cs.length = n * 3 → ds.length = 3 → nps cs = true → nps ds = true → tfs ([0].contains ·) cs = true → tfs ([0].contains ·) ds = true → i ≤ n → n ≤ 10000000 → cf 128 [.list n cs (.own 0 72), I i, .list 1 ds .no] (n :: ns) [] = some (.list (n + 1) (cs.take (i * 3) ++ ds ++ cs.drop (i * 3)) (.own 0 72), (n + 1) :: ns, [])
mutual
theorem tf_solid (K : Nat → Bool) : ∀ p : PV, solid p = true → (∀ q ∈ toks p, K q.1 = false) → tf K p = true
  | .list n cs t, h, hk => by
    simp only [solid, Bool.and_eq_true] at h
    simp only [tf, Bool.and_eq_true]
    refine ⟨?_, tfs_solid K cs h.2 fun q hq => hk q (by simp only [toks]; exact List.mem_append_right _ hq)⟩
    cases t with
    | own k e => have := hk (k, n) (by simp [toks]); simpa [Tok.free, Tok.of] using this
    | sub k => exact absurd h.1 (by simp)
    | el _ _ _ => exact absurd h.1 (by simp)
    | _ => rfl
  | .agg cs, h, hk => by simp only [solid] at h; simp only [tf]; exact tfs_solid K cs h hk
  | .tup cs, h, hk => by simp only [solid] at h; simp only [tf]; exact tfs_solid K cs h hk
  | .fn _ cs, h, hk => by simp only [solid] at h; simp only [tf]; exact tfs_solid K cs h hk
  | .iptr .., h, _ => by simp [solid] at h
  | .ptr _ _, _, _ => rfl
  | .osl _ _ _ _, _, _ => rfl
  | .mp _, _, _ => rfl
  | .any, _, _ => rfl
  | .hole, _, _ => rfl
  | .int _ _, _, _ => rfl
  | .bool _, _, _ => rfl
  | .str _, _, _ => rfl
  | .nilp, _, _ => rfl
  | .nili, _, _ => rfl
  | .err, _, _ => rfl
theorem tfs_solid (K : Nat → Bool) : ∀ ps : List PV, solids ps = true → (∀ q ∈ tokss ps, K q.1 = false) → tfs K ps = true
  | [], _, _ => rfl
  | p :: ps, h, hk => by
    simp only [solids, Bool.and_eq_true] at h
    simp only [tfs, Bool.and_eq_true]
    exact ⟨tf_solid K p h.1 fun q hq => hk q (by simp only [tokss]; exact List.mem_append_left _ hq), tfs_solid K ps h.2 fun q hq => hk q (by simp only [tokss]; exact List.mem_append_right _ hq)⟩
end
theorem enum_ge : ∀ (ns : List Nat) (d : Nat) (q : Nat × Nat), q ∈ enum d ns → d ≤ q.1
  | [], _, _, h => by simp [enum] at h
  | n :: ns, d, q, h => by
    rw [enum, List.mem_cons] at h
    rcases h with rfl | h
    · exact Nat.le_refl _
    · have := enum_ge ns (d + 1) q h; omega
theorem strips_map : ∀ cs : List PV, strips cs = cs.map strip
  | [] => rfl
  | c :: cs => by have := strips_map cs; simp only [pmz, this, List.map_cons]
theorem strips_take (k : Nat) (cs : List PV) : strips (cs.take k) = (strips cs).take k := by rw [strips_map, strips_map, List.map_take]
theorem strips_drop (k : Nat) (cs : List PV) : strips (cs.drop k) = (strips cs).drop k := by rw [strips_map, strips_map, List.map_drop]
theorem strips_idem (cs : List PV) : strips (strips cs) = strips cs := rens_strips _ _ cs
theorem nps_append_iff : ∀ xs ys : List PV, nps (xs ++ ys) = (nps xs && nps ys)
  | [], ys => rfl
  | x :: xs, ys => by have := nps_append_iff xs ys; simp only [List.cons_append, pmz, this, Bool.and_assoc]
theorem enum_map (nx : Nat) : ∀ (ns : List Nat) (d : Nat), (enum d ns).map (fun q => (nx + q.1, q.2)) = enum (nx + d) ns
  | [], _ => rfl
  | n :: ns, d => by rw [enum, List.map_cons, enum_map nx ns (d + 1), enum, Nat.add_assoc]
theorem Fresh_shift {ns : List Nat} {r : PV} (h : Fresh 0 ns r) (nx : Nat) : Fresh nx ns (ren (fun k => some (nx + k)) false r) := by
  refine ⟨?_, solid_ren _ _ h.so fun _ _ => rfl, by rw [np, off_ren]; exact h.np⟩
  rw [toks_ren _ (fun k => nx + k) _ fun _ _ => rfl, h.tk]
  exact enum_map nx ns 0
theorem c_ins (hI : InsOk cf) {n i : Nat} {cs ds : List PV} {tk u : Tok} (ht : ownT 72 tk) (hs : solid (.list n cs tk) = true) (hn : np (.list n cs tk) = true) (hk : TokOK st (toks (.list n cs tk))) (h1 : cs.length = n * 3) (h2 : ds.length = 3) (hds : nps ds = true) (hd1 : solids (strips ds) = true) (hd2 : tokss (strips ds) = []) (hi : i ≤ n) (hl : n ≤ 10000000)
    (hsp : spare ((toks (.list n cs tk)).map (·.1)) [0] 1 [I i, .list 1 ds u] = true) :
    ∃ r ns, callP cf 128 [.list n cs tk, I i, .list 1 ds u] [0] st = some (r, mvS ((toks (.list n cs tk)).map (·.1)) ns st) ∧ Fresh st.nx ns r ∧ strip r = .list (n + 1) ((strips cs).take (i * 3) ++ strips ds ++ (strips cs).drop (i * 3)) .no ∧ topE r = some 72 ∧ takes [.list n cs tk, I i, .list 1 ds u] [0] st = (toks (.list n cs tk)).map (·.1) := by
  have hr : [I (i : Int), .list 1 ds u].all plainArg = true := by simp only [List.all_cons, List.all_nil, plainArg, pmz, hds, Bool.and_self]
  have hrs : [I (i : Int), .list 1 ds u].map strip = [I i, .list 1 (strips ds) .no] := by simp only [List.map_cons, List.map_nil, pmz]
  have hF0 := (fresh_ren hs hn hk.1 0).2
  have hdl : (strips ds).length = 3 := by rw [strips_map, List.length_map, h2]
  have hdn : nps (strips ds) = true := nps_strips hds
  rcases ht with rfl | ⟨k, rfl⟩
  · have hc : cs = [] := by simp only [solid, Bool.and_eq_true, List.isEmpty_iff] at hs; exact hs.1
    subst hc
    have hn0 : n = 0 := by simp at h1; omega
    subst hn0
    have hi0 : i = 0 := by omega
    subst hi0
    have hc := hI.nil (strips ds) hdl hdn
    have hF : Fresh 0 [1] (.list 1 (strips ds) (.own 0 72)) := ⟨by simp only [toks, hd2, enum, List.append_nil], by simp only [solid, hd1, Bool.and_self], hdn⟩
    obtain ⟨a, b⟩ := callP_mv (rest := [I ((0 : Nat) : Int), .list 1 ds u]) hn hk hr hsp (by rw [hrs]; exact hc) hF.so
    exact ⟨_, _, a, Fresh_shift hF _, by rw [strip_ren, strip_list, strips_idem]; simp [strips, rens], by rw [topE_ren fun _ _ => rfl]; rfl, b⟩
  · have hm : toks (.list n cs (.own k 72)) = (k, n) :: tokss cs := rfl
    rw [hm] at hF0 hsp
    have hx : idxIn (((k, n) :: tokss cs).map (·.1)) k = some 0 := by simp [idxIn]
    rw [ren_list] at hF0
    simp only [Tok.ren, hx] at hF0
    have hF := hF0
    simp only [List.map_cons] at hF
    have h3 := hF.tk
    simp only [toks, enum, List.singleton_append, List.cons.injEq, true_and] at h3
    have h4 := hF.so
    simp only [solid, Bool.true_and] at h4
    have h5 : nps (rens (idxIn (k :: (tokss cs).map (·.1))) false cs) = true := hF.np
    have hlen : (rens (idxIn (k :: (tokss cs).map (·.1))) false cs).length = n * 3 := by rw [rens_length, h1]
    have hc := hI.own n i _ (strips ds) ((tokss cs).map (·.2)) hlen hdl h5 hdn (tfs_solid _ _ h4 fun q hq => by
      rw [h3] at hq
      have := enum_ge _ _ _ hq
      simp only [List.contains_cons, List.contains_nil, Bool.or_false, beq_eq_false_iff_ne, ne_eq]; omega) (tfs_strips _ _) hi hl
    have hcut := List.take_append_drop (i * 3) (rens (idxIn (k :: (tokss cs).map (·.1))) false cs)
    have h4' := h4
    have h3' := h3
    have h5' := h5
    rw [← hcut, solids_append, Bool.and_eq_true] at h4'
    rw [← hcut, tokss_append] at h3'
    rw [← hcut, nps_append_iff, Bool.and_eq_true] at h5'
    have hF1 : Fresh 0 ((n + 1) :: (tokss cs).map (·.2)) (.list (n + 1) ((rens (idxIn (k :: (tokss cs).map (·.1))) false cs).take (i * 3) ++ strips ds ++ (rens (idxIn (k :: (tokss cs).map (·.1))) false cs).drop (i * 3)) (.own 0 72)) := by
      refine ⟨?_, ?_, ?_⟩
      · simp only [toks, tokss_append, hd2, List.append_nil, h3', enum, List.singleton_append]
      · simp only [solid, solids_append, h4'.1, h4'.2, hd1, Bool.and_self]
      · show nps _ = true
        simp only [nps_append_iff, h5'.1, h5'.2, hdn, Bool.and_self]
    obtain ⟨a, b⟩ := callP_mv (rest := [I (i : Int), .list 1 ds u]) hn hk hr (by rw [hm]; exact hsp) (by rw [hrs, hm, ren_list]; simp only [Tok.ren, hx]; exact hc) hF1.so
    refine ⟨_, _, a, Fresh_shift hF1 _, ?_, by rw [topE_ren fun _ _ => rfl]; rfl, b⟩
    rw [strip_ren, strip_list]
    have hrs := strips_rens (idxIn (k :: (tokss cs).map (·.1))) cs
    rw [strips_append, strips_append, strips_idem, strips_take, strips_drop, hrs]
theorem c_key' (K : Env cf) (x : Nd) {ds : List PV} (h : strips ds = nc x) (hn : nps ds = true) : callP cf 92 [.agg ds] [] st = some (I x.id, st) := by
  have hm : [PV.agg ds].map strip = [.agg (nc x)] := by simp only [List.map_cons, List.map_nil, pmz, h]
  obtain ⟨q1, q2⟩ := plainVs_arg (ps := [PV.agg (nc x)]) (by simp [plainV_nd])
  rw [callP_strip ?_ (by rw [hm]; exact q1) (by rw [hm]; exact q2), hm]
  · exact c_key K x
  · simp only [List.all_cons, List.all_nil, plainArg, pmz, hn, Bool.and_self]
def keyC (p : PV) (as : List PV) : List Nat := match p with
  | .fn _ cap => (keysOf (as ++ cap)).getD []
  | _ => []
theorem pmc : (∀ {fr : Fr} {f : CX} {as : List CX}, keysAt fr (.cval f as) = keyC (f.ev fr) (as.map (·.ev fr))) ∧ (∀ {g : Nat} {as : List PV}, keyC (.fn g []) as = (keysOf as).getD []) ∧ (∀ {as : List PV}, keyC .hole as = []) := by
  refine ⟨?_, ?_, rfl⟩
  · intro fr f as
    simp only [keysAt, keyC]
    cases f.ev fr <;> rfl
  · intro g as
    simp only [keyC, List.append_nil]
theorem keysOf_agg {cs : List PV} (h : nps cs = true) : keysOf [.agg cs] = some [] := by
  have : np (.agg cs) = true := h
  simp [keysOf, this]
theorem flat_take {α : Type} (enc : α → List PV) (m : Nat) (h : ∀ a, (enc a).length = m) : ∀ (l : List α) (i : Nat), (l.flatMap enc).take (i * m) = (l.take i).flatMap enc
  | [], i => by simp
  | a :: l, 0 => by simp
  | a :: l, i + 1 => by
    rw [List.flatMap_cons, List.take_succ_cons, List.flatMap_cons, Nat.succ_mul, Nat.add_comm, ← h a, List.take_add, List.take_left, List.drop_left, h a, flat_take enc m h l i]
theorem flat_drop {α : Type} (enc : α → List PV) (m : Nat) (h : ∀ a, (enc a).length = m) : ∀ (l : List α) (i : Nat), (l.flatMap enc).drop (i * m) = (l.drop i).flatMap enc
  | [], i => by simp
  | a :: l, 0 => by simp
  | a :: l, i + 1 => by
    rw [List.flatMap_cons, List.drop_succ_cons, Nat.succ_mul, Nat.add_comm, ← h a, ← List.drop_drop, List.drop_left, h a, flat_drop enc m h l i]
def insB (x : Nd) : List Nd → List Nd
  | [] => [x]
  | y :: l => if y.id < x.id then y :: insB x l else x :: y :: l
theorem Like_part {α : Type} {enc : α → List PV} {m : Nat} (hm : ∀ a, (enc a).length = m) {l : List α} {cs : List PV} (hL : strips cs = l.flatMap enc) (hn : nps cs = true) (hc : cs.length = l.length * m) {i : Nat} (h : i < l.length) :
    partP cs (i * m) m true = some (.agg ((cs.drop (i * m)).take m)) ∧ strips ((cs.drop (i * m)).take m) = enc l[i] ∧ nps ((cs.drop (i * m)).take m) = true := by
  have hle : i * m + m ≤ cs.length := by rw [hc]; have := Nat.mul_le_mul_right m h; rw [Nat.succ_mul] at this; exact this
  refine ⟨by simp only [partP, if_pos hle, if_true], ?_, ?_⟩
  · rw [strips_take, strips_drop, hL]
    have := partP_flat enc m hm 0 m true (by omega) l i h
    have hl : (l.flatMap enc).length = l.length * m := flat_len enc m hm l
    rw [Nat.add_zero] at this
    simp only [partP, hl, hm, if_pos (show i * m + m ≤ l.length * m by rw [← hc]; exact hle), if_true, List.drop_zero, Nat.zero_add, Nat.le_refl, Option.some.injEq, PV.agg.injEq] at this
    rw [this, ← hm l[i], List.take_length]
  · have h1 := List.take_append_drop (i * m) cs
    rw [← h1, nps_append_iff, Bool.and_eq_true] at hn
    have h2 := List.take_append_drop m (cs.drop (i * m))
    rw [← h2, nps_append_iff, Bool.and_eq_true] at hn
    exact hn.2.1
set_option maxHeartbeats 2000000 in
theorem c_insertBy (K : Env cf) (hI : InsOk cf) (x : Nd) (hx : x.labels = [] ∧ x.fields = []) {l : List Nd} {cs : List PV} {tk : Tok} (ht : ownT 72 tk) (hs : solid (.list l.length cs tk) = true) (hk : TokOK st (toks (.list l.length cs tk))) (hL : Like nc 3 l cs) (hl : l.length ≤ 10000000) {u w : Tok}
    (hsp : spare ((toks (.list l.length cs tk)).map (·.1)) [0] 1 [.agg [I x.id, .list 0 [] u, .list 0 [] w], .fn 92 []] = true) :
    ∃ r ns, callP cf 91 [.list l.length cs tk, .agg [I x.id, .list 0 [] u, .list 0 [] w], .fn 92 []] [0] st = some (r, mvS ((toks (.list l.length cs tk)).map (·.1)) ns st) ∧ Fresh st.nx ns r ∧ strip r = .list (l.length + 1) ((insB x l).flatMap nc) .no ∧ topE r = some 72 ∧ takes [.list l.length cs tk, .agg [I x.id, .list 0 [] u, .list 0 [] w], .fn 92 []] [0] st = (toks (.list l.length cs tk)).map (·.1) := by
  refine c_valM K.tab (F := F91) rfl rfl rfl ht hs hL.np hk (by simp only [List.all_cons, List.all_nil, plainArg, pmz, Bool.and_self]; rfl) hsp (lb rfl) (l.length + 1) (fun cs0 tk0 ns h1 h2 h3 h4 hF => ?_)
  have hx0 : nc x = [I x.id, .list 0 [] .no, .list 0 [] .no] := by simp only [nc, hx.1, hx.2, TX, FX]; rfl
  have hrm : ([.agg [I x.id, .list 0 [] u, .list 0 [] w], .fn 92 []] : List PV).map strip = [.agg (nc x), .fn 92 []] := by rw [hx0]; simp only [List.map_cons, List.map_nil, pmz]; rfl
  have hcl : cs0.length = l.length * 3 := by rw [h2, hL.len]
  have hst : strips cs0 = l.flatMap nc := by rw [h1, hL.st]
  rw [hrm]
  clear hsp hk hs ht hrm
  have hxl := nc_len x
  have hxp := nc_plain x
  have hxt : List.take 3 (nc x) = nc x := rfl
  unfold F91 qr qd qm qi qc qb qk ql qo qN
  simp (disch := omega) only [↓pa, pmy, ↓reduceIte, Nat.reduceAdd, hx0]
  refine Wp_rounds (fun q fr st => ∃ i : Nat, q = l.length - i ∧ i ≤ l.length ∧ fr 0 = .list l.length cs0 tk0 ∧ fr 2 = .fn 92 [] ∧ fr 4 = .ptr 4 0 ∧ st.objs 4 = some (nc x) ∧ fr 7 = I i ∧ st.fl ≤ st.nx ∧ TokOK st (toks (.list l.length cs0 tk0)) ∧ insB x l = l.take i ++ insB x (l.drop i)) l.length (by omega)
    ⟨0, by simp, by omega, by simp (disch := omega) only [↓pa, pb, ↓reduceIte, reduceCtorEq], by simp (disch := omega) only [↓pa, pb, ↓reduceIte, Nat.reduceEqDiff], by simp (disch := omega) only [↓pa, ↓reduceIte, Nat.reduceEqDiff], by simp (disch := omega) only [pb, ↓reduceIte, hx0], by simp (disch := omega) only [↓pa, ↓reduceIte]; rfl, Nat.zero_le _, ?_, rfl⟩ ?_
  · exact TokOK_setO ⟨fun k => by rw [hF.tk]; exact enum_ck k ns, fun q hq => by rw [hF.tk] at hq; have := enum_mem hq; exact ⟨by simpa [stB] using this.2.1, by simpa [stB] using this.2.2, Nat.zero_le _⟩⟩
  rintro q fr st ⟨i, rfl, hi, f0, f2, f4, o4, f7, hfl, hk, hQ⟩
  simp (disch := omega) only [↓pa, ↓pmw, pb, pmwk, natP, ↓reduceIte, Nat.reduceEqDiff, reduceCtorEq, f0, f7]
  refine Cnd_intro (fun h1 => ?_) (fun h1 => ?_)
  · have hlt : i < l.length := h1
    obtain ⟨hp1, hp2, hp3⟩ := Like_part nc_len hst h3 hcl hlt
    have hkey := fun st => c_key' (st := st) K l[i] hp2 hp3
    have hkx := fun st => c_key (st := st) K x
    simp (disch := omega) only [↓pa, ↓pmw, pb, pmy, pmwk, pmwa, List.getElem?_cons_zero, List.getElem?_cons_succ, ↓reduceIte, Nat.reduceEqDiff, Nat.reduceLeDiff, reduceCtorEq, f0, f2, f4, o4, f7, h1, hp1, hkey, hkx, hxl, hxt, pmc, keysOf_agg hp3, keysOf_agg hxp.1]
    rw [List.drop_eq_getElem_cons hlt, insB] at hQ
    refine Cnd_intro (fun h2 => ?_) (fun h2 => ?_)
    · rw [if_pos h2] at hQ
      simp (disch := omega) only [↓pa, pb, natP, ↓reduceIte, Nat.reduceEqDiff, reduceCtorEq, f0, f2, f4, o4, f7, h2]
      exact ⟨l.length - (i + 1), by omega, i + 1, rfl, by omega, rfl, hfl, hk, by rw [List.take_succ_eq_append_getElem hlt, List.append_assoc]; exact hQ⟩
    · rw [if_neg h2] at hQ
      rw [← List.drop_eq_getElem_cons hlt] at hQ
      simp (disch := omega) only [↓pa, ↓pmx, pb, pmy, ↓reduceIte, Nat.reduceEqDiff, Nat.reduceAdd, Nat.reduceLeDiff, Nat.reduceLT, reduceCtorEq, f0, f4, o4, f7, h2, hxl, hxt, put3v hxl]
      refine RunsTo_M (c_ins (i := i) (u := .full 72) hI h4 hF.so hF.np hk hcl hxl hxp.1 (by rw [hxp.2.1, hx0]; rfl) (by rw [hxp.2.1, hx0]; rfl) hi hl (by rw [hx0]; rfl)) (fun r ns' hFr hr hX => ?_)
      obtain ⟨htp, htk⟩ := hX
      simp (disch := omega) only [↓pa, ↓reduceIte, pmj]
      refine ⟨?_, hFr.np, hFr.so, ?_, ?_⟩
      · obtain ⟨ds, u, rfl, -, -⟩ := strip_list_inv hr
        rfl
      · rw [hFr.tk]
        have := TokOK_mv (st := st) (A := []) (C := []) (B := toks (.list l.length cs0 tk0)) (ns := ns') (by simpa using hk) hfl
        simpa using this
      · refine ⟨?_, htp⟩
        rw [hr, hQ, hst, hxp.2.1, List.flatMap_append, List.flatMap_cons, ← List.append_assoc, flat_take nc 3 nc_len, flat_drop nc 3 nc_len]
  · have hd : l.drop i = [] := List.drop_of_length_le (by omega)
    rw [hd, insB] at hQ
    rw [← hd] at hQ
    simp (disch := omega) only [↓pa, ↓pmx, ↓pmw, pb, pmy, pmwk, pmwa, List.getElem?_cons_zero, List.getElem?_cons_succ, ↓reduceIte, Nat.reduceEqDiff, Nat.reduceAdd, Nat.reduceLeDiff, Nat.reduceLT, reduceCtorEq, f0, f4, o4, f7, h1, hxl, pmc, hxt, put3v hxl]
    refine RunsTo_M (c_ins (i := i) (u := .full 72) hI h4 hF.so hF.np hk hcl hxl hxp.1 (by rw [hxp.2.1, hx0]; rfl) (by rw [hxp.2.1, hx0]; rfl) hi hl (by rw [hx0]; rfl)) (fun r ns' hFr hr hX => ?_)
    obtain ⟨htp, htk⟩ := hX
    simp (disch := omega) only [↓pa, ↓reduceIte, pmj]
    refine ⟨?_, hFr.np, hFr.so, ?_, ?_⟩
    · obtain ⟨ds, u, rfl, -, -⟩ := strip_list_inv hr
      rfl
    · rw [hFr.tk]
      have := TokOK_mv (st := st) (A := []) (C := []) (B := toks (.list l.length cs0 tk0)) (ns := ns') (by simpa using hk) hfl
      simpa using this
    · refine ⟨?_, htp⟩
      rw [hr, hQ, hst, hxp.2.1, List.flatMap_append, List.flatMap_cons, ← List.append_assoc, flat_take nc 3 nc_len, flat_drop nc 3 nc_len]
end Go.PM
namespace Go.PM
def risen (l : List Nd) : Prop := l.Pairwise fun a b => a.id < b.id
theorem risen_of : ∀ {l : List Nd}, (∀ i, (h : i + 1 < l.length) → l[i].id < l[i + 1].id) → risen l
  | [], _ => List.Pairwise.nil
  | [a], _ => List.pairwise_singleton _ _
  | a :: b :: l, h => by
    have ih : risen (b :: l) := risen_of fun i hi => by
      have := h (i + 1) (by simp only [List.length_cons] at hi ⊢; omega)
      simpa using this
    have h0 : a.id < b.id := by simpa using h 0 (by simp)
    refine List.Pairwise.cons (fun c hc => ?_) ih
    rcases List.mem_cons.1 hc with rfl | hc
    · exact h0
    · exact Int.lt_trans h0 ((List.pairwise_cons.1 ih).1 c hc)
theorem graph_risen {g : Gph} (h : graphOk g = true) : risen g.nodes := by
  unfold graphOk at h
  rw [Bool.and_eq_true, Bool.and_eq_true, Bool.and_eq_true] at h
  refine risen_of fun i hi => ?_
  have := alln_iff.1 h.2.1 (i + 1) hi
  rw [nodeOkAt, Bool.and_eq_true, nrises] at this
  have h2 := this.2
  simp only [Nat.add_sub_cancel, nAt_eq hi, nAt_eq (show i < g.nodes.length by omega), Bool.or_eq_true, decide_eq_true_eq] at h2
  rcases h2 with h2 | h2
  · omega
  · exact h2
theorem graph_dst {g : Gph} (h : graphOk g = true) {i : Nat} (hi : i < g.edges.length) : hasId g.nodes g.edges[i].dst = true := by
  unfold graphOk at h
  rw [Bool.and_eq_true, Bool.and_eq_true, Bool.and_eq_true] at h
  have := alln_iff.1 h.2.2 i hi
  rw [edgeOkAt, Bool.and_eq_true, Bool.and_eq_true, Bool.and_eq_true, eAt_eq hi] at this
  exact this.2.2.2
theorem insOf_snoc (es : List Eg) (e : Eg) (id : Int) : insOf (es ++ [e]) id = if e.dst = id then insOf es id ++ [e.id] else insOf es id := by
  unfold insOf
  rw [List.filter_append, List.map_append]
  by_cases h : e.dst = id <;> simp [h]
theorem shN1_same {es : List Eg} {e : Eg} {n k : Int} {x : Nd} (h : x.id.tmod n = k ∨ e.dst ≠ x.id ∨ 0 < (insOf es x.id).length) : shN1 (es ++ [e]) n k x = shN1 es n k x := by
  unfold shN1
  by_cases h1 : x.id.tmod n = k
  · rw [if_pos h1, if_pos h1]
  · rw [if_neg h1, if_neg h1, insOf_snoc]
    by_cases h2 : e.dst = x.id
    · rw [if_pos h2]
      rcases h with h | h | h
      · exact absurd h h1
      · exact absurd h2 h
      · rw [if_pos h, if_pos (by rw [List.length_append]; omega)]
    · rw [if_neg h2]
theorem shN_cons (es : List Eg) (x : Nd) (l : List Nd) (n k : Int) : shN es (x :: l) n k = shN1 es n k x ++ shN es l n k := by
  simp only [shN, List.flatMap_cons]
theorem shN_same {es : List Eg} {e : Eg} {n k : Int} : ∀ {l : List Nd}, (∀ x ∈ l, x.id.tmod n = k ∨ e.dst ≠ x.id ∨ 0 < (insOf es x.id).length) → shN (es ++ [e]) l n k = shN es l n k
  | [], _ => rfl
  | x :: l, h => by rw [shN_cons, shN_cons, shN1_same (h x List.mem_cons_self), shN_same fun y hy => h y (List.mem_cons_of_mem _ hy)]
theorem shN1_id {es : List Eg} {n k : Int} {x y : Nd} (h : y ∈ shN1 es n k x) : y.id = x.id := by
  unfold shN1 at h
  split at h
  · simp at h; rw [h]
  · split at h
    · simp at h; rw [h]
    · simp at h
theorem shN_mem {es : List Eg} {n k : Int} {l : List Nd} {y : Nd} (h : y ∈ shN es l n k) : ∃ x ∈ l, y ∈ shN1 es n k x := by
  unfold shN at h
  exact List.mem_flatMap.1 h
theorem insB_skip {x : Nd} : ∀ {l r : List Nd}, (∀ y ∈ l, y.id < x.id) → insB x (l ++ r) = l ++ insB x r
  | [], r, _ => rfl
  | y :: l, r, h => by
    rw [List.cons_append, insB, if_pos (h y List.mem_cons_self), insB_skip fun z hz => h z (List.mem_cons_of_mem _ hz), List.cons_append]
theorem insB_front {x : Nd} {l : List Nd} (h : ∀ y ∈ l, x.id < y.id) : insB x l = x :: l := by
  cases l with
  | nil => rfl
  | cons y l => rw [insB, if_neg (by have := h y List.mem_cons_self; omega)]
theorem shN_new {es : List Eg} {e : Eg} {n k : Int} (hm : e.dst.tmod n ≠ k) (h0 : (insOf es e.dst).length = 0) : ∀ {l : List Nd}, risen l → hasId l e.dst = true → shN (es ++ [e]) l n k = insB ⟨e.dst, [], []⟩ (shN es l n k)
  | [], _, h => by simp [hasId] at h
  | x :: l, hr, h => by
    obtain ⟨h1, h2⟩ := List.pairwise_cons.1 hr
    rw [shN_cons, shN_cons]
    by_cases hx : x.id = e.dst
    · have a1 : shN1 es n k x = [] := by unfold shN1; rw [hx, if_neg hm, if_neg (by omega)]
      have a2 : shN1 (es ++ [e]) n k x = [⟨e.dst, [], []⟩] := by unfold shN1; rw [hx, if_neg hm, insOf_snoc, if_pos rfl, if_pos (by rw [List.length_append]; simp)]
      have a3 : shN (es ++ [e]) l n k = shN es l n k := shN_same fun y hy => .inr (.inl (by have := h1 y hy; omega))
      rw [a1, a2, a3, List.nil_append, List.singleton_append, insB_front]
      intro y hy
      obtain ⟨z, hz, hy⟩ := shN_mem hy
      have := shN1_id hy
      have := h1 z hz
      show e.dst < y.id
      omega
    · have hl : hasId l e.dst = true := by
        simpa [hasId, hx] using h
      have hlt : x.id < e.dst := by
        obtain ⟨z, hz, hy⟩ := List.any_eq_true.1 hl
        have := h1 z hz
        simp at hy
        omega
      rw [shN1_same (.inr (.inl (Ne.symm hx))), shN_new hm h0 h2 hl, insB_skip]
      intro y hy
      have := shN1_id hy
      show y.id < e.dst
      omega
theorem shN_has {es : List Eg} {n k d : Int} (hm : d.tmod n ≠ k) {l : List Nd} (h : hasId l d = true) : hasId (shN es l n k) d = true ↔ 0 < (insOf es d).length := by
  constructor
  · intro hh
    obtain ⟨y, hy, he⟩ := List.any_eq_true.1 hh
    obtain ⟨x, hx, hy⟩ := shN_mem hy
    have e1 := shN1_id hy
    simp at he
    unfold shN1 at hy
    rw [if_neg (by rw [← e1, he]; exact hm)] at hy
    split at hy
    · rename_i hp; rw [← e1, he] at hp; exact hp
    · simp at hy
  · intro hp
    obtain ⟨x, hx, he⟩ := List.any_eq_true.1 h
    simp at he
    refine List.any_eq_true.2 ⟨⟨x.id, [], []⟩, ?_, by simp [he]⟩
    unfold shN
    refine List.mem_flatMap.2 ⟨x, hx, ?_⟩
    unfold shN1
    rw [if_neg (by rw [he]; exact hm), if_pos (by rw [he]; exact hp)]
    exact List.mem_singleton.2 rfl
theorem shN_step {es : List Eg} {e : Eg} {n k : Int} {l : List Nd} (hr : risen l) (hd : hasId l e.dst = true) : shN (es ++ [e]) l n k = if e.dst.tmod n ≠ k ∧ nodeIx (shN es l n k) e.dst < 0 then insB ⟨e.dst, [], []⟩ (shN es l n k) else shN es l n k := by
  by_cases hm : e.dst.tmod n = k
  · rw [if_neg fun h => h.1 hm]
    exact shN_same fun x hx => by
      by_cases h : e.dst = x.id
      · exact .inl (by rw [← h]; exact hm)
      · exact .inr (.inl h)
  · have hh := shN_has (es := es) hm hd
    have hn : nodeIx (shN es l n k) e.dst < 0 ↔ hasId (shN es l n k) e.dst = false := by rw [nodeIx, ixGo_neg]
    by_cases h0 : 0 < (insOf es e.dst).length
    · rw [if_neg]
      · exact shN_same fun x hx => by
          by_cases h : e.dst = x.id
          · exact .inr (.inr (by rw [← h]; exact h0))
          · exact .inr (.inl h)
      · rintro ⟨-, h2⟩
        rw [hn, hh.2 h0] at h2
        simp at h2
    · rw [if_pos]
      · exact shN_new hm (by omega) hr hd
      · refine ⟨hm, hn.2 ?_⟩
        cases hc : hasId (shN es l n k) e.dst with
        | false => rfl
        | true => exact absurd (hh.1 hc) h0
theorem shN_nil_next {l : List Nd} {i : Nat} (h : i < l.length) (n k : Int) : shN [] (l.take (i + 1)) n k = if l[i].id.tmod n = k then shN [] (l.take i) n k ++ [l[i]] else shN [] (l.take i) n k := by
  rw [shN_next h]
  unfold shN1
  by_cases h1 : l[i].id.tmod n = k
  · rw [if_pos h1, if_pos h1]
  · rw [if_neg h1, if_neg h1]; simp [insOf]
end Go.PM
namespace Go.PM
variable {cf : CallF} {st : St} {mk : PV → St → Fr × St} {A : Fr × St → Prop} {s : Nat}
theorem TokOK_of {l l' : List (Nat × Nat)} (h : TokOK st l) (h1 : ∀ k, ck k l' ≤ ck k l) (h2 : ∀ q ∈ l', q ∈ l) : TokOK st l' :=
  ⟨fun k => Nat.le_trans (h1 k) (h.1 k), fun q hq => h.2 q (h2 q hq)⟩
theorem RunsTo_appO {e sz bytes n m : Nat} {cs ds : List PV} {tk u : Tok} {X Y : List (Nat × Nat)} (ht : ownT e tk) (hs : solid (.list n cs tk) = true) (hd : solids ds = true) (hk : TokOK st (X ++ toks (.list n cs tk) ++ Y ++ tokss ds)) (hf : st.fl = 0)
    (h1 : cs.length = n * sz) (h2 : ds.length = m * sz) (h3 : (n + m) * bytes ≤ 140737488355328) (h4 : n + m ≤ 140737488355328) (h5 : 0 < sz)
    (k : ∀ st' tk', ownT e tk' → solid (.list (n + m) (cs ++ ds) tk') = true → TokOK st' (X ++ toks (.list (n + m) (cs ++ ds) tk') ++ Y) → st'.objs = st.objs → st'.fl = 0 → A (mk (.list (n + m) (cs ++ ds) tk') st')) : RunsTo (appP e sz bytes (.list n cs tk) (.list m ds u) st) mk A := by
  have hsc : solids cs = true := by simp only [solid, Bool.and_eq_true] at hs; exact hs.2
  have hsa : solids (cs ++ ds) = true := by rw [solids_append, hsc, hd]; rfl
  rcases ht with rfl | ⟨j, rfl⟩
  · have hc : cs = [] := by simp only [solid, Bool.and_eq_true, List.isEmpty_iff] at hs; exact hs.1
    subst hc
    have hn : n = 0 := by
      simp only [List.length_nil] at h1
      rcases Nat.eq_zero_or_pos n with h | h
      · exact h
      · have := Nat.mul_pos h h5; omega
    subst hn
    refine ⟨_, _, appP_ok (show Gr e st.nx st.cnt 0 .nil from rfl) h1 h2 h3 h4 h5, ?_⟩
    refine k _ _ (.inr ⟨_, rfl⟩) (by simp only [appT, solid, hsa, Bool.and_self]) ?_ appS_objs hf
    have := TokOK_more hk (by omega) [0 + m]
    refine TokOK_of this (fun q => ?_) (fun q hq => ?_)
    · simp only [appT, toks, ck_append, ck, enum, List.nil_append, tokss]; omega
    · simp only [appT, toks, enum, List.nil_append, tokss, List.mem_append, List.mem_cons, List.not_mem_nil, or_false] at hq ⊢
      rcases hq with (h | h | h) | h <;> simp [h]
  · have hj := hk.2 (j, n) (by simp [toks])
    refine ⟨_, _, appP_ok (show Gr e st.nx st.cnt n (.own j e) from ⟨hj.1, hj.2.1, rfl⟩) h1 h2 h3 h4 h5, ?_⟩
    refine k _ _ (.inr ⟨_, rfl⟩) (by simp only [appT, solid, hsa, Bool.and_self]) ?_ appS_objs hf
    have hne : ∀ q, q ∈ X ∨ q ∈ tokss cs ∨ q ∈ Y ∨ q ∈ tokss ds → q.1 ≠ j := by
      intro q hq he
      have := hk.1 j
      simp only [toks, ck_append, ck, if_true] at this
      have h0 : 0 < ck j X ∨ 0 < ck j (tokss cs) ∨ 0 < ck j Y ∨ 0 < ck j (tokss ds) := by
        rcases hq with h | h | h | h
        · exact .inl (ck_pos.2 ⟨q, h, he⟩)
        · exact .inr (.inl (ck_pos.2 ⟨q, h, he⟩))
        · exact .inr (.inr (.inl (ck_pos.2 ⟨q, h, he⟩)))
        · exact .inr (.inr (.inr (ck_pos.2 ⟨q, h, he⟩)))
      omega
    refine ⟨fun q => ?_, fun q hq => ?_⟩
    · have := hk.1 q
      simp only [appT, toks, ck_append, ck, tokss_append] at this ⊢
      omega
    · simp only [appT, toks, tokss_append, List.mem_append, List.mem_cons, List.not_mem_nil, or_false] at hq
      show q.1 < st.nx ∧ (if q.1 = j then n + m else st.cnt q.1) = q.2 ∧ st.fl ≤ q.1
      by_cases hqj : q = (j, n + m)
      · subst hqj; exact ⟨hj.1, by simp, by omega⟩
      · have hm : q ∈ X ∨ q ∈ tokss cs ∨ q ∈ Y ∨ q ∈ tokss ds := by
          rcases hq with (h | h | h | h) | h <;> simp_all
        rw [if_neg (hne q hm)]
        refine hk.2 q ?_
        simp only [toks, List.mem_append]
        rcases hm with h | h | h | h <;> simp [h]
def EndsR (t : Nat) (Q : PV → Prop) (e : Ex) (y : Fr × St) : Prop := endOk e ∧ ∃ el sz s n cs, y.1 t = .osl el sz s n ∧ y.2.objs s = some cs ∧ cs.length = n * sz ∧ n ≤ 140737488355328 ∧ nps cs = true ∧ solids cs = true ∧ TokOK y.2 (tokss cs) ∧ y.2.fl = 0 ∧ Q (.list n (strips cs) .no)
theorem run_row {f : Nat} {F : CFn} {as : List PV} {t : Nat} (hown : F.own = true) (hres : F.res = [.tmp t]) (hnk : F.nk = 0) (N : Nat) {ns : List Nat} {Q : PV → Prop} (hnt : as.length ≤ F.nt) (h : Wp cf N F.body (frame as, stB ns []) (EndsR t Q)) :
    ∃ r ns', runFn cf N F as ns [] = some (r, ns', []) ∧ Fresh 0 ns' r ∧ (∀ nx, Fresh nx ns' (ren (fun k => some (nx + k)) false r)) ∧ Q (strip r) := by
  obtain ⟨e, ⟨fr, s1⟩, hev, he, el, sz, s, n, cs, hr, ho, hl, hb, hn, hs, hk, hfl, hQ⟩ := h
  have hb' : n ≤ byteBound := hb
  have hso : solid (.list n cs (.own s1.nx el)) = true := by simp only [solid, hs, Bool.and_self]
  have hk2 : TokOK { s1.more [n] with objs := fun k => if k = s then none else s1.objs k } (toks (.list n cs (.own s1.nx el))) := by
    have hm := TokOK_more hk (by omega) [n]
    have hm2 : TokOK (s1.more [n]) (toks (.list n cs (.own s1.nx el))) := TokOK_of hm (fun q => by simp only [toks, ck_append, ck, enum]; omega) (fun q hq => by
      simp only [toks, enum, List.mem_append, List.mem_cons, List.not_mem_nil, or_false] at hq ⊢
      exact hq.symm)
    exact hm2
  have hf : finish F 0 fr s1 = some (ren (idxIn ((toks (.list n cs (.own s1.nx el))).map (·.1))) false (.list n cs (.own s1.nx el)), (toks (.list n cs (.own s1.nx el))).map (·.2), []) := by
    have h0 : getAll s1 (List.range 0) = some [] := rfl
    have hp : ressP fr s1 F.res = some [.osl el sz s n] := by rw [hres]; simp only [ressP, resP]; rw [show fr t = _ from hr]
    have hm : meltAll F.nk [.osl el sz s n] s1 = ([.list n cs (.own s1.nx el)], { s1.more [n] with objs := fun k => if k = s then none else s1.objs k }) := by
      rw [meltAll]
      simp only [show s1.objs s = some cs from ho, hnk, Nat.zero_le, hl, hb', and_self, if_true, List.map_nil, meltAll]
    have hnp : np (.list n cs (.own s1.nx el)) = true := hn
    simp only [finish, hp, h0, hm, oneOf, hnp, List.all_nil, Bool.and_self, if_true, hown, seal_fresh hk2]
  refine ⟨_, _, ?_, (fresh_ren hso hn hk2.1 0).2, fun nx => (fresh_ren hso hn hk2.1 nx).1, by rw [strip_ren, strip_list]; exact hQ⟩
  unfold runFn
  rw [if_pos ⟨hnt, Nat.zero_le _⟩, hev]
  cases e with
  | go => exact hf
  | ret => exact hf
  | exit i => exact he.elim
theorem c_valR {f : Nat} {F : CFn} {as : List PV} {t : Nat} (K : Tab cf) (hT : T f = some F) (hres : F.res = [.tmp t]) (hown : F.own = true) (hnk : F.nk = 0) (hnt : as.length ≤ F.nt) (has : ∀ p ∈ as, plainV p) (N : Nat) {v : PV}
    (h : Wp cf N F.body (frame as, stB [] []) (EndsR t (· = v))) : ∃ r ns, callP cf f as [] st = some (r, st.more ns) ∧ Fresh st.nx ns r ∧ strip r = v := by
  obtain ⟨h1, h2⟩ := plainVs_arg has
  obtain ⟨r, ns, hrun, hF0, hF, hQ⟩ := run_row (f := f) hown hres hnk N hnt h
  have hcf := K f F hT N _ _ _ _ hrun
  exact ⟨_, ns, callP_own h1 (by rw [h2]; exact hcf) hF0.so, hF st.nx, by rw [strip_ren]; exact hQ⟩
theorem partP_mid {a b : PV} {pre post : List PV} : partP (pre ++ a :: b :: post) pre.length 1 false = some a := by
  have := @partP_right pre (a :: b :: post) 0 1 false
  simp only [Nat.add_zero] at this
  rw [this, partP_zero]
theorem partP_mid1 {a b : PV} {pre post : List PV} : partP (pre ++ a :: b :: post) (pre.length + 1) 1 false = some b := by
  rw [partP_right, partP_succ, partP_zero]
theorem partP_mid2 {a b : PV} {pre post : List PV} : partP (pre ++ a :: b :: post) pre.length 2 true = some (.agg [a, b]) := by
  have := @partP_right pre (a :: b :: post) 0 2 true
  simp only [Nat.add_zero] at this
  rw [this, partP_take, if_pos (by simp)]
  rfl
theorem put_mid {a b c : PV} {pre post : List PV} : putCells (pre ++ a :: b :: post) pre.length [c] = pre ++ c :: b :: post := by
  simp [putCells]
theorem put_mid1 {a b c : PV} {pre post : List PV} : putCells (pre ++ a :: b :: post) (pre.length + 1) [c] = pre ++ a :: c :: post := by
  simp [putCells]
theorem cel_facts (pre post : List PV) (k : Nat) (hp : pre.length = k * 2) : ∃ cel : PV → PV → List PV, (∀ a b, cel a b = pre ++ a :: b :: post) ∧ (∀ a b, partP (cel a b) (k * 2) 1 false = some a) ∧ (∀ a b, partP (cel a b) (k * 2 + 1) 1 false = some b) ∧ (∀ a b, partP (cel a b) (k * 2) 2 true = some (.agg [a, b])) ∧
    (∀ a b c, putCells (cel a b) (k * 2) [c] = cel c b) ∧ (∀ a b c, putCells (cel a b) (k * 2 + 1) [c] = cel a c) ∧ (∀ a b, (cel a b).length = k * 2 + 2 + post.length) ∧
    (∀ J a b c, solids pre = true → solid b = true → (∀ x ∈ post, killT J x = x) → (∀ q ∈ tokss pre ++ toks b, q.1 ∉ J) → putCells ((cel a b).map (killT J)) (k * 2) [c] = cel c b) := by
  refine ⟨fun a b => pre ++ a :: b :: post, fun _ _ => rfl, ?_, ?_, ?_, ?_, ?_, ?_, ?_⟩
  · intros; rw [← hp]; exact partP_mid
  · intros; rw [← hp]; exact partP_mid1
  · intros; rw [← hp]; exact partP_mid2
  · intros; rw [← hp]; exact put_mid
  · intros; rw [← hp]; exact put_mid1
  · intros; simp [hp]; omega
  · intro J a b c h1 h2 h3 h4
    have e1 : pre.map (killT J) = pre := map_solid h1 fun q hq => h4 q (by simp [hq])
    have e2 : killT J b = b := killT_solid h2 fun q hq => h4 q (by simp [hq])
    have e3 : post.map (killT J) = post := by
      have : post.map (killT J) = post.map id := List.map_congr_left fun x hx => h3 x hx
      rw [this, List.map_id]
    rw [← hp, List.map_append, List.map_cons, List.map_cons, e1, e2, e3]
    exact put_mid
end Go.PM
namespace Go.PM
open Go.Lib
variable {cf : CallF} {st : St} {mk : PV → St → Fr × St} {A : Fr × St → Prop} {s : Nat}
def nil2 (m : Nat) : List PV := (List.replicate m [PV.list 0 [] .nil, PV.list 0 [] .nil]).flatten
theorem nil2_succ (m : Nat) : nil2 (m + 1) = .list 0 [] .nil :: .list 0 [] .nil :: nil2 m := by simp [nil2, List.replicate_succ]
theorem nil2_all (m : Nat) : ∀ x ∈ nil2 m, x = .list 0 [] .nil := by simp [nil2]
theorem nil2_kill (m : Nat) (J : List Nat) : ∀ x ∈ nil2 m, killT J x = x := by
  intro x hx
  rw [nil2_all m x hx]; rfl
structure RowS (g : Gph) (n : Int) (k : Nat) (st : St) (pre : List PV) : Prop where
  len : pre.length = k * 2
  so : solids pre = true
  np : nps pre = true
  st : strips pre = (shards g n k).flatMap gc
theorem c_nodeAt' (K : Env cf) (g : Gph) (id : Int) (hl : g.nodes.length ≤ 2000000) {cs ds : List PV} {tk tk2 : Tok} (h1 : Like nc 3 g.nodes cs) (h2 : Like ec 5 g.edges ds) : callP cf 90 [.agg [.list g.nodes.length cs tk, .list g.edges.length ds tk2], I id] [] st = some (I (nodeIx g.nodes id), st) := by
  have hm : ([.agg [.list g.nodes.length cs tk, .list g.edges.length ds tk2], I id] : List PV).map strip = [.agg (gc g), I id] := by
    simp only [List.map_cons, List.map_nil, pmz, h1.st, h2.st]; rfl
  have hpl : ∀ p ∈ [PV.agg (gc g), I id], plainV p := by simp [plainV_gr, plainV_int]
  obtain ⟨q1, q2⟩ := plainVs_arg hpl
  rw [callP_strip ?_ (by rw [hm]; exact q1) (by rw [hm]; exact q2), hm, c_nodeAt K g id hl]
  simp only [List.all_cons, List.all_nil, plainArg, pmz, h1.np, h2.np, Bool.and_self]
theorem strips_length (cs : List PV) : (strips cs).length = cs.length := by rw [strips_map, List.length_map]
theorem insB_len (x : Nd) : ∀ l : List Nd, (insB x l).length = l.length + 1
  | [] => rfl
  | y :: l => by
    rw [insB]
    split
    · rw [List.length_cons, insB_len x l, List.length_cons]
    · rw [List.length_cons]
theorem TokOK_part {X B Y : List (Nat × Nat)} (h : TokOK st (X ++ B ++ Y)) : TokOK st B :=
  TokOK_of h (fun k => by rw [ck_append, ck_append]; omega) (fun q hq => by simp [hq])
theorem TokOK_apart {X B Y : List (Nat × Nat)} (h : TokOK st (X ++ B ++ Y)) : ∀ q ∈ X ++ Y, q.1 ∉ B.map (·.1) := by
  intro q hq hb
  obtain ⟨x, hx, he⟩ := List.mem_map.1 hb
  have h1 := h.1 q.1
  rw [ck_append, ck_append] at h1
  have h2 := ck_pos.2 ⟨x, hx, he⟩
  have h3 : 0 < ck q.1 X ∨ 0 < ck q.1 Y := (List.mem_append.1 hq).imp (fun hq => ck_pos.2 ⟨q, hq, rfl⟩) (fun hq => ck_pos.2 ⟨q, hq, rfl⟩)
  omega
theorem partP_nc0 {x : Nd} : partP (nc x) 0 1 false = some (I x.id) := rfl
theorem partP_ec2 {x : Eg} : partP (ec x) 2 1 false = some (I x.src) := rfl
theorem partP_ec3 {x : Eg} : partP (ec x) 3 1 false = some (I x.dst) := rfl
set_option maxHeartbeats 8000000 in
theorem c_split (K : Env cf) (hI : InsOk cf) (g : Gph) (n : Int) (hg : graphOk g = true) (n1 : 1 ≤ n) (n8 : n ≤ 8) (hf1 : ∀ e ∈ g.edges, e.fields.length ≤ 2000000) (hf2 : ∀ x ∈ g.nodes, x.fields.length ≤ 2000000 ∧ x.labels.length ≤ 2000000) :
    ∃ r ns, callP cf 47 [.agg (gc g), I n] [] st = some (r, st.more ns) ∧ Fresh st.nx ns r ∧ strip r = GX (shards g n n.toNat) := by
  have hg' := hg
  unfold graphOk at hg'
  rw [Bool.and_eq_true, Bool.and_eq_true] at hg'
  have l1 := of_decide_eq_true hg'.1.1
  have l2 := of_decide_eq_true hg'.1.2
  clear hg'
  have hrise := graph_risen hg
  have hdst := fun i (hi : i < g.edges.length) => graph_dst hg hi
  refine c_valR K.tab (F := F47) (t := 4) rfl rfl rfl rfl (lb rfl) (by simp [plainV_gr, plainV_int]) 1000 ?_
  have hm := flat_len nc 3 nc_len g.nodes
  have hm2 := flat_len ec 5 ec_len g.edges
  have hmks := fun s st => @mksP_ok 32 2 48 s [.list 0 [] .nil, .list 0 [] .nil] n st (by omega) (by omega) (by omega) rfl (by decide)
  unfold F47 qr qd qm qi qc qb qk ql qf qo qe qN
  simp (disch := omega) only [↓pa, pb, pmy, ↓reduceIte, Nat.reduceEqDiff, Nat.reduceAdd, gc, pmj, hmks]
  refine Wp_rounds (fun q fr st => ∃ (k : Nat) (pre : List PV), q = n.toNat - k ∧ (k : Int) ≤ n ∧ fr 1 = I n ∧ fr 2 = .ptr 2 0 ∧ st.objs 2 = some [NX g.nodes, EX g.edges] ∧ fr 5 = .osl 32 2 13 n.toNat ∧ fr 14 = I n ∧ fr 15 = I k ∧ st.objs 13 = some (pre ++ nil2 (n.toNat - k)) ∧ RowS g n k st pre ∧ TokOK st (tokss pre) ∧ st.fl = 0) n.toNat (by omega)
    ⟨0, [], by simp, by omega, by simp (disch := omega) only [↓pa, pb, ↓reduceIte, Nat.reduceEqDiff], by simp (disch := omega) only [↓pa, pb, ↓reduceIte, Nat.reduceEqDiff], by simp (disch := omega) only [pb, ↓reduceIte, Nat.reduceEqDiff], by simp (disch := omega) only [↓pa, ↓reduceIte, Nat.reduceEqDiff], by simp (disch := omega) only [↓pa, ↓reduceIte, Nat.reduceEqDiff], by simp (disch := omega) only [↓pa, ↓reduceIte]; rfl, by simp (disch := omega) only [pb, pmy, ↓reduceIte]; rfl, ⟨rfl, rfl, rfl, rfl⟩, TokOK_setO (TokOK_setO TokOK_nil), rfl⟩ ?_
  rintro q fr st ⟨k, pre, rfl, hkn, f1, f2, o2, f5, f14, f15, o13, hR, hT, hfl⟩
  simp (disch := omega) only [↓pa, pb, ↓reduceIte, f14, f15]
  refine Cnd_intro (fun h1 => ?_) (fun h1 => ?_)
  rotate_left
  · have hk : k = n.toNat := by omega
    simp (disch := omega) only [↓pa, pb, ↓reduceIte, Nat.reduceEqDiff, f5, h1]
    rw [hk, Nat.sub_self] at o13
    have o13' : st.objs 13 = some pre := by rw [o13]; simp [nil2]
    refine ⟨endOk_ret.2 trivial, 32, 2, 13, n.toNat, pre, by simp (disch := omega) only [↓pa, ↓reduceIte], o13', by rw [hR.len, hk], by omega, hR.np, hR.so, hT, hfl, ?_⟩
    rw [GX, shards_len, hR.st, hk]
  have hk : k < n.toNat := by omega
  have hnk : n.toNat - k = (n.toNat - (k + 1)) + 1 := by omega
  rw [hnk, nil2_succ] at o13
  obtain ⟨cel, hcel, q0, q1, q2, w0, w1, wl, wk⟩ := cel_facts pre (nil2 (n.toNat - (k + 1))) k hR.len
  rw [← hcel] at o13
  have wl0 : ∀ a b, (k * 2 + 1 ≤ (cel a b).length) = True := fun a b => by rw [wl]; exact eq_true (by omega)
  have wl1 : ∀ a b, (k * 2 + 1 + 1 ≤ (cel a b).length) = True := fun a b => by rw [wl]; exact eq_true (by omega)
  simp (disch := omega) only [↓pa, pb, pmy, ↓reduceIte, Nat.reduceEqDiff, Nat.reduceAdd, f2, o2, f5, f15, h1]
  refine Wp_rounds (fun q fr st => ∃ (i : Nat) (cs : List PV) (tk : Tok), q = g.nodes.length - i ∧ i ≤ g.nodes.length ∧ fr 1 = I n ∧ fr 2 = .ptr 2 0 ∧ st.objs 2 = some [NX g.nodes, EX g.edges] ∧ fr 5 = .osl 32 2 13 n.toNat ∧ fr 14 = I n ∧ fr 15 = I k ∧ fr 6 = I k ∧ fr 7 = .ptr 13 (k * 2) ∧ fr 22 = NX g.nodes ∧ fr 23 = I g.nodes.length ∧ fr 24 = I i ∧
      st.objs 13 = some (cel (.list (shN [] (g.nodes.take i) n k).length cs tk) (.list 0 [] .nil)) ∧ Like nc 3 (shN [] (g.nodes.take i) n k) cs ∧ ownT 72 tk ∧ solid (.list (shN [] (g.nodes.take i) n k).length cs tk) = true ∧ TokOK st (tokss pre ++ toks (.list (shN [] (g.nodes.take i) n k).length cs tk) ++ []) ∧ st.fl = 0) g.nodes.length (by omega)
    ⟨0, [], .nil, by simp, by omega, by simp (disch := omega) only [↓pa, ↓reduceIte, Nat.reduceEqDiff, f1], by simp (disch := omega) only [↓pa, ↓reduceIte, Nat.reduceEqDiff, f2], by simp (disch := omega) only [o2], by simp (disch := omega) only [↓pa, ↓reduceIte, Nat.reduceEqDiff, f5], by simp (disch := omega) only [↓pa, ↓reduceIte, Nat.reduceEqDiff, f14], by simp (disch := omega) only [↓pa, ↓reduceIte, Nat.reduceEqDiff, f15], by simp (disch := omega) only [↓pa, ↓reduceIte, Nat.reduceEqDiff], by simp (disch := omega) only [↓pa, ↓reduceIte, Nat.reduceEqDiff], by simp (disch := omega) only [↓pa, ↓reduceIte, Nat.reduceEqDiff], by simp (disch := omega) only [↓pa, ↓reduceIte, Nat.reduceEqDiff], by simp (disch := omega) only [↓pa, ↓reduceIte]; rfl, by simp (disch := omega) only [o13]; rfl, Like_nil, .inl rfl, rfl, ?_, hfl⟩ ?_
  · simp only [toks, tokss, List.append_nil]; exact hT
  clear f1 f2 o2 f5 f14 f15 o13 hT hfl
  rintro q fr st ⟨i, cs, tk, rfl, hi, f1, f2, o2, f5, f14, f15, f6, f7, f22, f23, f24, o13, hL, hto, hso, hT, hfl⟩
  have hnl := shN_len [] n k (g.nodes.take i)
  have hnl2 : (g.nodes.take i).length ≤ g.nodes.length := by rw [List.length_take]; omega
  simp (disch := omega) only [↓pa, pb, natP, ↓reduceIte, f23, f24]
  refine Cnd_intro (fun j1 => ?_) (fun j1 => ?_)
  · have hlt : i < g.nodes.length := j1
    have hnext := shN_nil_next hlt n k
    have hrem := b_rem (k := .i64) (a := g.nodes[i].id) (show n ≠ 0 by omega)
    have hn3 := nc_len g.nodes[i]
    simp (disch := omega) only [↓pa, pb, pmy, ↓reduceIte, Nat.reduceEqDiff, Nat.reduceAdd, Nat.reduceLeDiff, f1, f6, f22, f24, j1, partP_n hlt, hn3, put3v, partP_nc0, hrem]
    refine Cnd_intro (fun j2 => ?_) (fun j2 => ?_)
    · rw [if_pos j2] at hnext
      have hn3t : List.take 3 (nc g.nodes[i]) = nc g.nodes[i] := rfl
      simp (disch := omega) only [↓pa, ↓pmw, pb, pmy, pmwk, ↓reduceIte, Nat.reduceEqDiff, Nat.reduceLeDiff, f7, o13, j2, Nat.add_zero, q0, hn3, hn3t]
      refine RunsTo_OE (c_twinN K g.nodes[i] (hf2 _ (List.getElem_mem hlt)).2 (hf2 _ (List.getElem_mem hlt)).1) (fun r ns hF hr => ?_)
      obtain ⟨ds, rfl, hds⟩ := strip_agg_inv hr
      have hdl : ds.length = 3 := by rw [← hn3, ← hds, strips_map, List.length_map]
      have hFt : tokss ds = enum _ ns := hF.tk
      have hFs : solids ds = true := hF.so
      have hFn : nps ds = true := hF.np
      simp (disch := omega) only [↓pa, ↓pmx, ↓pmw, pb, pmy, pmwk, ↓reduceIte, Nat.reduceEqDiff, Nat.reduceAdd, Nat.reduceLeDiff, Nat.reduceLT, hdl, put3v, keysOf_pl (plainV_nd g.nodes[i])]
      refine RunsTo_appO (X := tokss pre) (Y := []) hto hso hFs (by rw [hFt]; exact TokOK_more (TokOK_setO (TokOK_setO hT)) (by show st.fl ≤ _; omega) ns) (by rw [St.more_fl]; exact hfl) hL.len (by rw [hdl]) (by omega) (by omega) (by decide) (fun st1 tk1 hto1 hso1 hT1 ho1 hfl1 => ?_)
      simp (disch := omega) only [↓pa, ↓pmw, pb, pmy, pmwk, pmwa, natP, List.getElem?_cons_zero, List.getElem?_cons_succ, ↓reduceIte, Nat.reduceEqDiff, Nat.reduceAdd, f1, f2, o2, f5, f14, f15, f6, f7, f22, f23, f24, o13, Nat.add_zero, pmj, ho1, wl0, w0]
      exact ⟨g.nodes.length - (i + 1), by omega, i + 1, _, tk1, rfl, by omega, rfl, by rw [hnext, List.length_append]; rfl, by rw [hnext]; exact Like_snoc hL hdl hds hFn, hto1, by rw [hnext, List.length_append]; exact hso1, by rw [hnext, List.length_append]; exact hT1, hfl1⟩
    · rw [if_neg j2] at hnext
      simp (disch := omega) only [↓pa, pb, natP, ↓reduceIte, Nat.reduceEqDiff, f1, f2, o2, f5, f14, f15, f6, f7, f22, f23, f24, o13, j2]
      exact ⟨g.nodes.length - (i + 1), by omega, i + 1, cs, tk, rfl, by omega, rfl, by rw [hnext], by rw [hnext]; exact hL, hto, by rw [hnext]; exact hso, by rw [hnext]; exact hT, hfl⟩
  have hin : g.nodes.take i = g.nodes := List.take_of_length_le (by omega)
  rw [hin] at hL o13 hso hT
  simp (disch := omega) only [↓pa, pb, pmy, ↓reduceIte, Nat.reduceEqDiff, Nat.reduceAdd, f2, o2, j1]
  have l0 : (shN [] g.nodes n k).length ≤ g.nodes.length := shN_len _ _ _ _
  refine Wp_rounds (fun q fr st => ∃ (i : Nat) (cs ds : List PV) (tk tk2 : Tok), q = g.edges.length - i ∧ i ≤ g.edges.length ∧ fr 1 = I n ∧ fr 2 = .ptr 2 0 ∧ st.objs 2 = some [NX g.nodes, EX g.edges] ∧ fr 5 = .osl 32 2 13 n.toNat ∧ fr 14 = I n ∧ fr 15 = I k ∧ fr 6 = I k ∧ fr 7 = .ptr 13 (k * 2) ∧ fr 47 = EX g.edges ∧ fr 48 = I g.edges.length ∧ fr 49 = I i ∧
      st.objs 13 = some (cel (.list (shN (shE (g.edges.take i) n k) g.nodes n k).length cs tk) (.list (shE (g.edges.take i) n k).length ds tk2)) ∧ Like nc 3 (shN (shE (g.edges.take i) n k) g.nodes n k) cs ∧ Like ec 5 (shE (g.edges.take i) n k) ds ∧ ownT 72 tk ∧ ownT 68 tk2 ∧
      solid (.list (shN (shE (g.edges.take i) n k) g.nodes n k).length cs tk) = true ∧ solid (.list (shE (g.edges.take i) n k).length ds tk2) = true ∧ TokOK st (tokss pre ++ toks (.list (shN (shE (g.edges.take i) n k) g.nodes n k).length cs tk) ++ toks (.list (shE (g.edges.take i) n k).length ds tk2)) ∧ st.fl = 0) g.edges.length (by omega)
    ⟨0, cs, [], tk, .nil, by simp, by omega, by simp (disch := omega) only [↓pa, ↓reduceIte, Nat.reduceEqDiff, f1], by simp (disch := omega) only [↓pa, ↓reduceIte, Nat.reduceEqDiff, f2], by simp (disch := omega) only [o2], by simp (disch := omega) only [↓pa, ↓reduceIte, Nat.reduceEqDiff, f5], by simp (disch := omega) only [↓pa, ↓reduceIte, Nat.reduceEqDiff, f14], by simp (disch := omega) only [↓pa, ↓reduceIte, Nat.reduceEqDiff, f15], by simp (disch := omega) only [↓pa, ↓reduceIte, Nat.reduceEqDiff, f6], by simp (disch := omega) only [↓pa, ↓reduceIte, Nat.reduceEqDiff, f7], by simp (disch := omega) only [↓pa, ↓reduceIte, Nat.reduceEqDiff], by simp (disch := omega) only [↓pa, ↓reduceIte, Nat.reduceEqDiff], by simp (disch := omega) only [↓pa, ↓reduceIte]; rfl, o13, hL, Like_nil, hto, .inl rfl, hso, rfl, hT, hfl⟩ ?_
  clear f1 f2 o2 f5 f14 f15 f6 f7 f22 f23 f24 o13 hL hto hso hT hfl
  rintro q fr st ⟨i, cs, ds, tk, tk2, rfl, hi, f1, f2, o2, f5, f14, f15, f6, f7, f47, f48, f49, o13, hLN, hLE, hto, hto2, hso, hso2, hT, hfl⟩
  have hnl := shN_len (shE (g.edges.take i) n k) n k g.nodes
  have hel := shE_len (g.edges.take i) n k
  have hel2 : (g.edges.take i).length ≤ g.edges.length := by rw [List.length_take]; omega
  simp (disch := omega) only [↓pa, pb, natP, ↓reduceIte, f48, f49]
  refine Cnd_intro (fun j1 => ?_) (fun j1 => ?_)
  · have hlt : i < g.edges.length := j1
    have hnext := shE_next hlt n k
    have hrem := b_rem (k := .i64) (a := g.edges[i].src) (show n ≠ 0 by omega)
    have hrem2 := b_rem (k := .i64) (a := g.edges[i].dst) (show n ≠ 0 by omega)
    have he5 := ec_len g.edges[i]
    have he5t : List.take 5 (ec g.edges[i]) = ec g.edges[i] := rfl
    simp (disch := omega) only [↓pa, pb, pmy, ↓reduceIte, Nat.reduceEqDiff, Nat.reduceAdd, Nat.reduceLeDiff, ne_eq, f1, f6, f47, f49, j1, partP_e hlt, he5, put5v, partP_ec2, hrem]
    refine Cnd_intro (fun j2 => ?_) (fun j2 => ?_)
    rotate_left
    · rw [if_neg j2] at hnext
      simp (disch := omega) only [↓pa, pb, natP, ↓reduceIte, Nat.reduceEqDiff, f1, f2, o2, f5, f14, f15, f6, f7, f47, f48, f49, o13, j2]
      exact ⟨g.edges.length - (i + 1), by omega, i + 1, cs, ds, tk, tk2, rfl, by omega, rfl, by rw [hnext], by rw [hnext]; exact hLN, by rw [hnext]; exact hLE, hto, hto2, by rw [hnext]; exact hso, by rw [hnext]; exact hso2, by rw [hnext]; exact hT, hfl⟩
    · rw [if_pos j2] at hnext
      have hstep := shN_step (es := shE (g.edges.take i) n k) (n := n) (k := k) hrise (hdst i hlt)
      rw [← hnext] at hstep
      simp (disch := omega) only [↓pa, ↓pmw, pb, pmy, pmwk, ↓reduceIte, Nat.reduceEqDiff, Nat.reduceLeDiff, f7, o13, j2, q1, he5, he5t]
      refine RunsTo_OE (c_twinE K g.edges[i] (hf1 _ (List.getElem_mem hlt))) (fun r ns hF hr => ?_)
      obtain ⟨es, rfl, hes⟩ := strip_agg_inv hr
      have hdl : es.length = 5 := by rw [← he5, ← hes, strips_map, List.length_map]
      have hFt : tokss es = enum _ ns := hF.tk
      have hFs : solids es = true := hF.so
      have hFn : nps es = true := hF.np
      simp (disch := omega) only [↓pa, ↓pmx, ↓pmw, pb, pmy, pmwk, ↓reduceIte, Nat.reduceEqDiff, Nat.reduceAdd, Nat.reduceLeDiff, Nat.reduceLT, hdl, put5v, keysOf_pl (plainV_eg g.edges[i])]
      refine RunsTo_appO (X := tokss pre ++ toks (.list (shN (shE (g.edges.take i) n k) g.nodes n k).length cs tk)) (Y := []) hto2 hso2 hFs (by rw [hFt, List.append_nil]; exact TokOK_more (TokOK_setO (TokOK_setO hT)) (by show st.fl ≤ _; omega) ns) (by rw [St.more_fl]; exact hfl) hLE.len (by rw [hdl]) (by omega) (by omega) (by decide) (fun st1 tk1 hto1 hso1 hT1 ho1 hfl1 => ?_)
      have hLE1 : Like ec 5 (shE (g.edges.take (i + 1)) n k) (ds ++ es) := by rw [hnext]; exact Like_snoc hLE hdl hes hFn
      have hlen1 : (shE (g.edges.take i) n k).length + 1 = (shE (g.edges.take (i + 1)) n k).length := by rw [hnext, List.length_append]; rfl
      rw [hlen1] at hso1 hT1 ⊢
      rw [List.append_nil] at hT1
      clear hT hFt hFs hFn hes hnext hLE hso2
      generalize hN0 : shN (shE (g.edges.take i) n k) g.nodes n k = L at *
      generalize hE1 : shE (g.edges.take (i + 1)) n k = E at *
      simp (disch := omega) only [↓pa, ↓pmw, pb, pmy, pmwk, pmwa, List.getElem?_cons_zero, List.getElem?_cons_succ, ↓reduceIte, Nat.reduceEqDiff, Nat.reduceAdd, ne_eq, f1, f6, o13, pmj, ho1, wl1, w1, partP_ec3, hrem2]
      have hna := fun st => c_nodeAt' (st := st) (tk := tk) (tk2 := tk1) K ⟨L, E⟩ g.edges[i].dst (by show L.length ≤ 2000000; omega) hLN hLE1
      refine Cnd_intro (fun j3 => ?_) (fun j3 => ?_)
      rotate_left
      · simp (disch := omega) only [↓pa, pb, pmy, ↓reduceIte, Nat.reduceEqDiff, Nat.reduceAdd, f7, q2, pmj, ho1, partP_ec3, j3, hna]
        refine Cnd_intro (fun j4 => ?_) (fun j4 => ?_)
        · rw [if_pos ⟨j3, j4⟩] at hstep
          simp (disch := omega) only [↓pa, ↓pmx, pb, pmy, ↓reduceIte, Nat.reduceEqDiff, Nat.reduceAdd, Nat.reduceLeDiff, f7, q0, pmj, ho1, partP_ec3, j4, Nat.add_zero, pmm]
          refine RunsTo_M (c_insertBy (u := .nil) (w := .nil) K hI ⟨g.edges[i].dst, [], []⟩ ⟨rfl, rfl⟩ hto hso (TokOK_part (TokOK_setO hT1)) hLN (by omega) rfl) (fun r ns' hFr hr hX => ?_)
          obtain ⟨htp, htk⟩ := hX
          obtain ⟨cs', u', rfl, hcs', -⟩ := strip_list_inv hr
          obtain ⟨k', rfl⟩ := topE_own htp
          have hil : (insB ⟨g.edges[i].dst, [], []⟩ L).length = L.length + 1 := insB_len _ _
          rw [← hil] at hFr
          have hwk := fun c => wk ((toks (.list L.length cs tk)).map (·.1)) (.list L.length cs tk) (.list E.length (ds ++ es) tk1) c hR.so hso1 (nil2_kill _ _) (TokOK_apart hT1)
          have hk1 := @killT_plain ((toks (.list L.length cs tk)).map (·.1)) _ (plainV_EX g.edges)
          have hk2 := @map_plain ((toks (.list L.length cs tk)).map (·.1)) _ (gc_plain g)
          rw [gc] at hk2
          simp (disch := omega) only [↓pa, pb, pmy, natP, ↓reduceIte, Nat.reduceEqDiff, Nat.reduceAdd, f1, f2, o2, f5, f14, f15, f6, f7, f47, f48, f49, pmj, ho1, Nat.add_zero, pmm, htk, hwk, hk1, hk2, List.length_map, wl0]
          refine ⟨g.edges.length - (i + 1), by omega, i + 1, cs', _, .own k' 72, tk1, rfl, by omega, rfl, by rw [hE1, hstep, hil], ?_, by rw [hE1]; exact hLE1, .inr ⟨_, rfl⟩, hto1, by rw [hE1, hstep]; exact hFr.so, by rw [hE1]; exact hso1, ?_, hfl1⟩
          · rw [hE1, hstep]
            exact ⟨by rw [hil, ← strips_length, hcs', flat_len nc 3 nc_len, hil], hcs', hFr.np⟩
          · rw [hE1, hstep, hFr.tk]
            exact TokOK_setO (TokOK_mv (TokOK_setO hT1) (by show st1.fl ≤ _; omega))
        · rw [if_neg fun h => j4 h.2] at hstep
          simp (disch := omega) only [↓pa, pb, natP, ↓reduceIte, Nat.reduceEqDiff, f1, f2, o2, f5, f14, f15, f6, f7, f47, f48, f49, pmj, ho1, j4]
          exact ⟨g.edges.length - (i + 1), by omega, i + 1, cs, _, tk, tk1, rfl, by omega, rfl, by rw [hE1, hstep], by rw [hE1, hstep]; exact hLN, by rw [hE1]; exact hLE1, hto, hto1, by rw [hE1, hstep]; exact hso, by rw [hE1]; exact hso1, by rw [hE1, hstep]; exact hT1, hfl1⟩
      · rw [if_neg fun h => h.1 j3] at hstep
        simp (disch := omega) only [↓pa, pb, natP, ↓reduceIte, Nat.reduceEqDiff, f1, f2, o2, f5, f14, f15, f6, f7, f47, f48, f49, pmj, ho1, j3]
        exact ⟨g.edges.length - (i + 1), by omega, i + 1, cs, _, tk, tk1, rfl, by omega, rfl, by rw [hE1, hstep], by rw [hE1, hstep]; exact hLN, by rw [hE1]; exact hLE1, hto, hto1, by rw [hE1, hstep]; exact hso, by rw [hE1]; exact hso1, by rw [hE1, hstep]; exact hT1, hfl1⟩
  · have hie : g.edges.take i = g.edges := List.take_of_length_le (by omega)
    rw [hie] at hLN hLE o13 hso hso2 hT
    rw [hcel] at o13
    simp (disch := omega) only [↓pa, pb, natP, ↓reduceIte, Nat.reduceEqDiff, f1, f2, o2, f5, f14, f15, j1]
    refine ⟨n.toNat - (k + 1), by omega, k + 1, pre ++ [.list (shN (shE g.edges n k) g.nodes n k).length cs tk, .list (shE g.edges n k).length ds tk2], rfl, by omega, rfl, by rw [o13, List.append_assoc]; rfl, ⟨?_, ?_, ?_, ?_⟩, ?_, hfl⟩
    · rw [List.length_append, hR.len]; simp only [List.length_cons, List.length_nil]; omega
    · rw [solids_append, hR.so, solids, hso, solids, hso2]; rfl
    · rw [nps_append_iff, hR.np]
      simp only [pmz, hLN.np, hLE.np, Bool.and_self]
    · rw [strips_append, hR.st, shards, List.flatMap_append]
      congr 1
      simp only [pmz, hLN.st, hLE.st, List.flatMap_cons, List.flatMap_nil, List.append_nil]
      rfl
    · rw [tokss_append]
      simp only [tokss, List.append_nil]
      rw [← List.append_assoc]
      exact hT
set_option maxHeartbeats 2000000 in
theorem c_splitI (K : Env cf) (hI : InsOk cf) (g : Gph) (n : Int) (hf1 : ∀ e ∈ g.edges, e.fields.length ≤ 2000000) (hf2 : ∀ x ∈ g.nodes, x.fields.length ≤ 2000000 ∧ x.labels.length ≤ 2000000) :
    ∃ r ns, callP cf 11 [.agg (gc g), I n] [] st = some (r, st.more ns) ∧ Fresh st.nx ns r ∧ strip r = GX (splitG g n) := by
  refine c_valO K.tab (F := F11) (Q := fun r => r = GX (splitG g n)) rfl rfl rfl (lb rfl) (by simp [plainV_gr, plainV_int]) 1 ?_
  have hgo : ∀ st, callP cf 46 [.agg (gc g)] [] st = some (.bool (graphOk g), st) := fun st => c_graphOk K g
  rw [gc] at hgo
  unfold F11 qr qd qm qc qk ql qo qN
  simp (disch := omega) only [↓pa, pb, pmy, ↓reduceIte, Nat.reduceEqDiff, Nat.reduceAdd, gc]
  have hbad : (n < 1 ∨ 8 < n ∨ graphOk g = false) → splitG g n = [] := fun h => by
    rw [splitG, if_neg]
    rintro ⟨a, b, c⟩
    rcases h with h | h | h
    · omega
    · omega
    · rw [h] at a; simp at a
  refine Cnd_intro (fun n1 => ?_) (fun n1 => ?_)
  · simp (disch := omega) only [↓pa, pb, ↓reduceIte, Nat.reduceEqDiff, pmj, n1]
    exact ⟨rfl, rfl, rfl, TokOK_nil, by rw [hbad (.inl n1)]; rfl⟩
  simp (disch := omega) only [↓pa, pb, ↓reduceIte, Nat.reduceEqDiff, n1]
  refine Cnd_intro (fun n8 => ?_) (fun n8 => ?_)
  · simp (disch := omega) only [↓pa, pb, ↓reduceIte, Nat.reduceEqDiff, pmj, n8]
    exact ⟨rfl, rfl, rfl, TokOK_nil, by rw [hbad (.inr (.inl n8))]; rfl⟩
  cases hg : graphOk g
  · simp (disch := omega) only [↓pa, pb, pmy, ↓reduceIte, Nat.reduceEqDiff, Nat.reduceAdd, Nat.reduceLeDiff, pmj, n8, hg, hgo]
    exact ⟨rfl, rfl, rfl, TokOK_nil, by rw [hbad (.inr (.inr hg))]; rfl⟩
  · simp (disch := omega) only [↓pa, pb, pmy, ↓reduceIte, Nat.reduceEqDiff, Nat.reduceAdd, Nat.reduceLeDiff, n8, hg, hgo]
    refine RunsTo_OE (c_split K hI g n hg (by omega) (by omega) hf1 hf2) (fun r ns hF hr => ?_)
    simp (disch := omega) only [↓pa, ↓reduceIte, pmj]
    refine ⟨?_, hF.np, hF.so, ?_, ?_⟩
    · obtain ⟨ds, u, rfl, -, -⟩ := strip_list_inv hr; rfl
    · rw [hF.tk]; exact TokOK_more (TokOK_setO TokOK_nil) (Nat.zero_le _) ns
    · show strip r = _
      rw [hr, splitG, if_pos ⟨hg, by omega, by omega⟩]
def eqBody (sz g : Nat) : CC :=
  .seq (.reg [⟨none, (some 4), .mv (.k (.bool false))⟩] [])
  (.seq (.seq (.reg [⟨none, (some 6), .mv (.sl 0)⟩,
    ⟨none, (some 7), .len (.sl 6)⟩,
    ⟨none, (some 8), .mv (.sl 1)⟩,
    ⟨none, (some 9), .len (.sl 8)⟩,
    ⟨none, (some 10), .bin .neq (.sl 7) (.sl 9)⟩] [])
  (.cond (.sl 10) (.seq (.reg [⟨none, (some 4), .mv (.k (.bool false))⟩] [])
   (.ret)) (.skip)))
  (.seq (.seq (.reg [⟨none, (some 5), .mv (.k (.int .i64 0))⟩] [])
  (.block 0 (.loop (.seq (.seq (.reg [⟨none, (some 11), .mv (.sl 5)⟩,
      ⟨none, (some 12), .mv (.sl 0)⟩,
      ⟨none, (some 13), .len (.sl 12)⟩,
      ⟨none, (some 14), .bin .lss (.sl 11) (.sl 13)⟩] [])
    (.cond (.sl 14) (.skip) (.exit 0)))
    (.seq (.block 1 (.seq (.reg [⟨none, (some 17), .mv (.sl 0)⟩,
       ⟨none, (some 18), .mv (.sl 5)⟩,
       ⟨none, (some 19), .iad sz (.sl 17) (.sl 18)⟩,
       ⟨none, (some 20), .load sz true (.sl 19)⟩,
       ⟨none, (some 21), .mv (.sl 1)⟩,
       ⟨none, (some 22), .mv (.sl 5)⟩,
       ⟨none, (some 23), .iad sz (.sl 21) (.sl 22)⟩,
       ⟨none, (some 24), .load sz true (.sl 23)⟩,
       ⟨none, (some 25), .call g [(.sl 20), (.sl 24)] []⟩,
       ⟨none, (some 26), .un .not (.sl 25)⟩] [])
     (.cond (.sl 26) (.seq (.reg [⟨none, (some 4), .mv (.k (.bool false))⟩] [])
      (.ret)) (.skip))))
    (.reg [⟨none, (some 15), .mv (.sl 5)⟩,
      ⟨none, (some 16), .bin .add (.sl 15) (.k (.int .i64 1))⟩,
      ⟨none, (some 5), .mv (.sl 16)⟩] []))))))
  (.seq (.reg [⟨none, (some 4), .mv (.k (.bool true))⟩] [])
  (.ret))))
theorem partP_a {α : Type} {enc : α → List PV} {m : Nat} (hm : ∀ a, (enc a).length = m) {l : List α} {i : Nat} (h : i < l.length) : partP (l.flatMap enc) (i * m) m true = some (.agg (enc l[i])) := by
  have := partP_flat enc m hm 0 m true (by omega) l i h
  rw [Nat.add_zero] at this
  rw [this]
  simp only [partP, hm, Nat.zero_add, Nat.le_refl, if_true, List.drop_zero]
  rw [← hm l[i], List.take_length]
theorem c_eqL (K : Env cf) {f sz g : Nat} {F : CFn} (hT : T f = some F) (hF : F.body = eqBody sz g ∧ F.res = [.tmp 4] ∧ F.own = false ∧ 2 ≤ F.nt) {α : Type} (enc : α → List PV) (hm : ∀ a, (enc a).length = sz) (hp : ∀ a, plainVs (enc a)) (l : List α) (hl : l.length ≤ 2000000)
    (he : ∀ a ∈ l, ∀ st, callP cf g [.agg (enc a), .agg (enc a)] [] st = some (.bool true, st)) : callP cf f [.list l.length (l.flatMap enc) .no, .list l.length (l.flatMap enc) .no] [] st = some (.bool true, st) := by
  obtain ⟨h1, h2, h3, h4⟩ := hF
  refine c_val K.tab (F := F) (t := 4) hT h2 h3 (by simpa using h4) (by simp [plainV_list (flat_plain enc hp l)]) (bare_bool _) (l.length + 1) ?_
  have hlen := flat_len enc sz hm l
  rw [h1, eqBody]
  simp (disch := omega) only [↓pa, pb, ↓reduceIte, Nat.reduceEqDiff, ne_eq, reduceCtorEq]
  refine Wp_rounds (fun k fr st => ∃ i : Nat, k = l.length - i ∧ i ≤ l.length ∧ fr 0 = .list l.length (l.flatMap enc) .no ∧ fr 1 = .list l.length (l.flatMap enc) .no ∧ fr 5 = I i) l.length (by omega) ⟨0, by simp, by omega, by simp (disch := omega) only [↓pa, ↓reduceIte, reduceCtorEq], by simp (disch := omega) only [↓pa, ↓reduceIte, Nat.reduceEqDiff], by simp (disch := omega) only [↓pa, ↓reduceIte]; rfl⟩ ?_
  rintro k fr st ⟨i, rfl, hi, f0, f1, f5⟩
  simp (disch := omega) only [↓pa, pb, natP, ↓reduceIte, Nat.reduceEqDiff, reduceCtorEq, f0, f5]
  refine Cnd_intro (fun h => ?_) (fun h => ?_)
  · have hlt : i < l.length := h
    have hc := he _ (List.getElem_mem hlt)
    simp (disch := omega) only [↓pa, pb, natP, ↓reduceIte, Nat.reduceEqDiff, reduceCtorEq, f0, f1, f5, h, partP_a hm hlt, hc]
    exact ⟨l.length - (i + 1), by omega, i + 1, rfl, by omega, rfl⟩
  · simp (disch := omega) only [↓pa, pb, ↓reduceIte, h]
theorem c_eqFd (K : Env cf) (x : Fd) : callP cf 176 [.agg (fc x), .agg (fc x)] [] st = some (.bool true, st) := by
  refine c_val K.tab (F := F176) (t := 4) rfl rfl rfl (lb rfl) (by have := (fs_plain [x]); simp at this; simp [plainV_agg this]) (bare_bool _) 1 ?_
  unfold F176 qr qd qc qb ql qf qo
  simp (disch := omega) only [↓pa, pb, pmy, ↓reduceIte, Nat.reduceEqDiff, Nat.reduceAdd, ne_eq, fc]
theorem c_eqF (K : Env cf) (l : List Fd) (hl : l.length ≤ 2000000) : callP cf 130 [FX l, FX l] [] st = some (.bool true, st) :=
  c_eqL K (F := F130) rfl ⟨rfl, rfl, rfl, (lb rfl)⟩ fc (fun _ => rfl) (fun a => by have := fs_plain [a]; simpa using this) l hl fun a _ st => c_eqFd K a
theorem c_eqT (K : Env cf) (l : List (List UInt8)) (hl : l.length ≤ 2000000) : callP cf 129 [TX l, TX l] [] st = some (.bool true, st) := by
  refine c_val K.tab (F := F129) (t := 4) rfl rfl rfl (lb rfl) (by simp [plainV_tx]) (bare_bool _) (l.length + 1) ?_
  have hm : (l.map S).length = l.length := by simp
  unfold F129 qr qd qm qi qc qb qk ql qo
  simp (disch := omega) only [↓pa, pb, ↓reduceIte, Nat.reduceEqDiff, ne_eq, reduceCtorEq]
  refine Wp_rounds (fun k fr st => ∃ i : Nat, k = l.length - i ∧ i ≤ l.length ∧ fr 0 = TX l ∧ fr 1 = TX l ∧ fr 5 = I i) l.length (by omega) ⟨0, by simp, by omega, by simp (disch := omega) only [↓pa, ↓reduceIte, reduceCtorEq], by simp (disch := omega) only [↓pa, ↓reduceIte, Nat.reduceEqDiff], by simp (disch := omega) only [↓pa, ↓reduceIte]; rfl⟩ ?_
  rintro k fr st ⟨i, rfl, hi, f0, f1, f5⟩
  simp (disch := omega) only [↓pa, pb, natP, ↓reduceIte, Nat.reduceEqDiff, reduceCtorEq, f0, f5]
  refine Cnd_intro (fun h => ?_) (fun h => ?_)
  · have hlt : i < l.length := h
    simp (disch := omega) only [↓pa, pb, natP, ↓reduceIte, Nat.reduceEqDiff, ne_eq, reduceCtorEq, f0, f1, f5, h, Nat.mul_one, partP_tx hlt]
    exact ⟨l.length - (i + 1), by omega, i + 1, rfl, by omega, rfl⟩
  · simp (disch := omega) only [↓pa, pb, ↓reduceIte, h]
theorem c_eqN1 (K : Env cf) (x : Nd) (h1 : x.labels.length ≤ 2000000) (h2 : x.fields.length ≤ 2000000) : callP cf 93 [.agg (nc x), .agg (nc x)] [] st = some (.bool true, st) := by
  refine c_val K.tab (F := F93) (t := 4) rfl rfl rfl (lb rfl) (by simp [plainV_nd]) (bare_bool _) 1 ?_
  have ht := fun st => c_eqT (st := st) K x.labels h1
  have hf := fun st => c_eqF (st := st) K x.fields h2
  unfold F93 qr qd qc qb ql qf qo
  simp (disch := omega) only [↓pa, pb, pmy, ↓reduceIte, Nat.reduceEqDiff, Nat.reduceAdd, ne_eq, nc, ht, hf]
theorem c_eqE1 (K : Env cf) (x : Eg) (h2 : x.fields.length ≤ 2000000) : callP cf 94 [.agg (ec x), .agg (ec x)] [] st = some (.bool true, st) := by
  refine c_val K.tab (F := F94) (t := 4) rfl rfl rfl (lb rfl) (by simp [plainV_eg]) (bare_bool _) 1 ?_
  have hf := fun st => c_eqF (st := st) K x.fields h2
  unfold F94 qr qd qc qb ql qf qo
  simp (disch := omega) only [↓pa, pb, pmy, ↓reduceIte, Nat.reduceEqDiff, Nat.reduceAdd, ne_eq, ec, hf]
structure Fits (g : Gph) : Prop where
  ns : g.nodes.length ≤ 2000000
  es : g.edges.length ≤ 2000000
  nf : ∀ x ∈ g.nodes, x.fields.length ≤ 2000000 ∧ x.labels.length ≤ 2000000
  ef : ∀ e ∈ g.edges, e.fields.length ≤ 2000000
theorem c_eqG1 (K : Env cf) (g : Gph) (h : Fits g) : callP cf 13 [.agg (gc g), .agg (gc g)] [] st = some (.bool true, st) := by
  refine c_val K.tab (F := F13) (t := 4) rfl rfl rfl (lb rfl) (by simp [plainV_gr]) (bare_bool _) 1 ?_
  have ht := fun st => c_eqL (st := st) K (f := 48) (F := F48) rfl ⟨rfl, rfl, rfl, (lb rfl)⟩ nc nc_len nc_plain g.nodes h.ns fun a ha st => c_eqN1 K a (h.nf a ha).2 (h.nf a ha).1
  have hf := fun st => c_eqL (st := st) K (f := 49) (F := F49) rfl ⟨rfl, rfl, rfl, (lb rfl)⟩ ec ec_len ec_plain g.edges h.es fun a ha st => c_eqE1 K a (h.ef a ha)
  unfold F13 qr qd qc ql qf qo
  simp (disch := omega) only [↓pa, pb, pmy, ↓reduceIte, Nat.reduceEqDiff, Nat.reduceAdd, gc, ht, hf]
theorem c_eqGS (K : Env cf) (l : List Gph) (hl : l.length ≤ 2000000) (h : ∀ g ∈ l, Fits g) : callP cf 12 [GX l, GX l] [] st = some (.bool true, st) :=
  c_eqL K (F := F12) rfl ⟨rfl, rfl, rfl, (lb rfl)⟩ gc gc_len gc_plain l hl fun a ha st => c_eqG1 K a (h a ha)
def dg : Nat → Nat → List UInt8 → List UInt8
  | 0, _, out => out
  | f + 1, k, out => if k = 0 then out else dg f (k / 10) (UInt8.ofNat (48 + k % 10) :: out)
def mt (k : Nat) : List UInt8 := if k = 0 then [109, 48] else 109 :: dg k k []
theorem dg_zero : ∀ (f : Nat) (out : List UInt8), dg f 0 out = out
  | 0, _ => rfl
  | f + 1, out => by rw [dg, if_pos rfl]
theorem c_markText (K : Env cf) (k : Nat) (hk : k ≤ 1000000000000) : callP cf 59 [I k] [] st = some (S (mt k), st) := by
  refine c_val K.tab (F := F59) (t := 2) rfl rfl rfl (lb rfl) (by simp [plainV_int]) (bare_str _) (k + 1) ?_
  unfold F59 qr qd qm qc qb qk qo
  simp (disch := omega) only [↓pa, pb, ↓reduceIte, reduceCtorEq]
  refine Cnd_intro (fun h0 => ?_) (fun h0 => ?_)
  · have : k = 0 := by omega
    subst this
    simp (disch := omega) only [↓pa, pb, ↓reduceIte, Nat.reduceAdd]
    rfl
  simp (disch := omega) only [↓pa, pb, h0]
  refine Wp_rounds (fun q fr st => ∃ (f j : Nat) (out : List UInt8), q = j ∧ j ≤ f ∧ fr 0 = I j ∧ fr 3 = S out ∧ out.length + j ≤ k ∧ dg f j out = dg k k []) k (by omega) ⟨k, k, [], rfl, by omega, by simp (disch := omega) only [↓pa, ↓reduceIte, reduceCtorEq], by simp (disch := omega) only [↓pa, ↓reduceIte], by simp, rfl⟩ ?_
  rintro q fr st ⟨f, j, out, rfl, hf, f0, f3, hl, hQ⟩
  simp (disch := omega) only [↓pa, pb, ↓reduceIte, f0]
  refine Cnd_intro (fun h1 => ?_) (fun h1 => ?_)
  · obtain ⟨f, rfl⟩ : ∃ g, f = g + 1 := ⟨f - 1, by omega⟩
    rw [dg, if_neg (by omega)] at hQ
    have hr := @b_rem .i64 (q : Int) 10 (by omega)
    have hq := @b_quo .i64 (q : Int) 10 (by omega)
    have e1 : (q : Int).tmod 10 = ((q % 10 : Nat) : Int) := by rw [Int.ofNat_tmod]; rfl
    have e2 : (q : Int).tdiv 10 = ((q / 10 : Nat) : Int) := by rw [Int.ofNat_tdiv]; rfl
    have e3 : IntKind.i64.wrap ((q / 10 : Nat) : Int) = ((q / 10 : Nat) : Int) := wrap_i64 (by omega) (by omega)
    have e4 : IntKind.u8.wrap (48 + ((q % 10 : Nat) : Int)) = 48 + ((q % 10 : Nat) : Int) := wrap_u8 (by omega) (by omega)
    have e5 : (48 + ((q % 10 : Nat) : Int)).toNat = 48 + q % 10 := by omega
    have e6 : ([UInt8.ofNat (48 + q % 10)] : List UInt8).length + out.length ≤ 9223372036854775807 := by simp only [List.length_cons, List.length_nil]; omega
    simp (disch := omega) only [↓pa, ↓pmx, pb, pmy, ↓reduceIte, Nat.reduceEqDiff, Nat.reduceAdd, Nat.reduceLeDiff, Nat.reduceLT, reduceCtorEq, f0, f3, h1, hr, hq, e1, e2, e3, e4, b2sP_one, e5]
    exact ⟨q / 10, by omega, f, q / 10, _, rfl, by omega, rfl, rfl, by simp only [List.cons_append, List.nil_append, List.length_cons]; omega, hQ⟩
  · have : q = 0 := by omega
    subst this
    rw [dg_zero] at hQ
    have e6 : ([109] : List UInt8).length + out.length ≤ 9223372036854775807 := by simp only [List.length_cons, List.length_nil]; omega
    have e7 : (PV.str ⟨#[109]⟩) = S [109] := rfl
    simp (disch := omega) only [↓pa, pb, ↓reduceIte, Nat.reduceEqDiff, f3, h1, e7]
    rw [mt, if_neg (by omega), ← hQ]; rfl
def mkT (k n : Nat) : List (List UInt8) := (List.range n).map fun i => mt (k + i)
def mkF (k n : Nat) : List Fd := (List.range n).map fun i => (mt (k + 2 * i), mt (k + 2 * i + 1))
def mkN : List (Nat × Nat) → Nat → List Nd
  | [], _ => []
  | (a, b) :: l, k => ⟨k, mkT (k + 1) a, mkF (k + 1 + a) b⟩ :: mkN l (k + 1 + a + 2 * b)
def endN : List (Nat × Nat) → Nat → Nat
  | [], k => k
  | (a, b) :: l, k => endN l (k + 1 + a + 2 * b)
def mkE : List Nat → Nat → List Eg
  | [], _ => []
  | b :: l, k => ⟨k, mt (k + 1), (k + 2 : Nat), (k + 3 : Nat), mkF (k + 4) b⟩ :: mkE l (k + 4 + 2 * b)
def endE : List Nat → Nat → Nat
  | [], k => k
  | b :: l, k => endE l (k + 4 + 2 * b)
def mkG : List (List (Nat × Nat) × List Nat) → Nat → List Gph
  | [], _ => []
  | (a, b) :: l, k => ⟨mkN a k, mkE b (endN a k)⟩ :: mkG l (endE b (endN a k))
def endG : List (List (Nat × Nat) × List Nat) → Nat → Nat
  | [], k => k
  | (a, b) :: l, k => endG l (endE b (endN a k))
theorem endN_le : ∀ (l : List (Nat × Nat)) (k : Nat), k ≤ endN l k
  | [], _ => Nat.le_refl _
  | (a, b) :: l, k => by have := endN_le l (k + 1 + a + 2 * b); rw [endN]; omega
theorem endE_le : ∀ (l : List Nat) (k : Nat), k ≤ endE l k
  | [], _ => Nat.le_refl _
  | b :: l, k => by have := endE_le l (k + 4 + 2 * b); rw [endE]; omega
theorem endG_le : ∀ (l : List (List (Nat × Nat) × List Nat)) (k : Nat), k ≤ endG l k
  | [], _ => Nat.le_refl _
  | (a, b) :: l, k => by have := endG_le l (endE b (endN a k)); have := endE_le b (endN a k); have := endN_le a k; rw [endG]; omega
theorem mkT_len (k n : Nat) : (mkT k n).length = n := by simp [mkT]
theorem mkF_len (k n : Nat) : (mkF k n).length = n := by simp [mkF]
theorem mkT_at {k n i : Nat} (h : i < n) : tAt (mkT k n) i = mt (k + i) := by simp [tAt, mkT, h]
theorem c_heldT (K : Env cf) (k n : Nat) (hk : k + n ≤ 1000000000000) : callP cf 60 [TX (mkT k n), I k] [] st = some (I (k + n : Nat), st) := by
  refine c_val K.tab (F := F60) (t := 4) rfl rfl rfl (lb rfl) (by simp [plainV_tx, plainV_int]) (bare_int _ _) (n + 1) ?_
  have hm : ((mkT k n).map S).length = n := by simp [mkT_len]
  have hl := mkT_len k n
  unfold F60 qr qd qm qi qb qk ql qo
  simp (disch := omega) only [↓pa]
  refine Wp_rounds (fun q fr st => ∃ i : Nat, q = n - i ∧ i ≤ n ∧ fr 0 = TX (mkT k n) ∧ fr 1 = I (k + i : Nat) ∧ fr 5 = I i) n (by omega) ⟨0, by simp, by omega, by simp (disch := omega) only [↓pa, ↓reduceIte, reduceCtorEq], by simp (disch := omega) only [↓pa, ↓reduceIte, Nat.reduceEqDiff, Nat.add_zero], by simp (disch := omega) only [↓pa, ↓reduceIte]; rfl⟩ ?_
  rintro q fr st ⟨i, rfl, hi, f0, f1, f5⟩
  simp (disch := omega) only [↓pa, pb, natP, ↓reduceIte, Nat.reduceEqDiff, reduceCtorEq, f0, f5, hl]
  refine Cnd_intro (fun h => ?_) (fun h => ?_)
  · have hlt : i < n := by omega
    have hp := @partP_tx (mkT k n) i (by rw [hl]; exact hlt)
    have ht := fun st => c_markText (st := st) K (k + i) (by omega)
    rw [mkT_at hlt] at hp
    simp (disch := omega) only [↓pa, ↓pmw, pb, pmwk, pmwa, natP, List.getElem?_cons_zero, List.getElem?_cons_succ, ↓reduceIte, Nat.reduceEqDiff, ne_eq, reduceCtorEq, f0, f1, f5, hl, h, Nat.mul_one, hp, ht]
    exact ⟨n - (i + 1), by omega, i + 1, rfl, by omega, by congr 1, rfl⟩
  · have : i = n := by omega
    subst this
    simp (disch := omega) only [↓pa, pb, ↓reduceIte, Nat.reduceEqDiff, f1, h]
def dec (left size : Nat) : Int := if size ≤ left then ((left - size : Nat) : Int) else -1
def szl {α : Type} (m : α → Nat) (l : List α) : Nat := l.length + (l.map m).sum
def szTx (l : List (List UInt8)) : Nat := szl List.length l
def szFd (x : Fd) : Nat := x.1.length + x.2.length
def szFs (l : List Fd) : Nat := szl szFd l
def szNd (x : Nd) : Nat := szTx x.labels + szFs x.fields
def szEg (x : Eg) : Nat := x.type.length + szFs x.fields
def szGr (g : Gph) : Nat := szl szNd g.nodes + szl szEg g.edges
theorem sum_next {α : Type} (m : α → Nat) {l : List α} {i : Nat} (h : i < l.length) : ((l.take (i + 1)).map m).sum = ((l.take i).map m).sum + m l[i] := by
  rw [List.take_succ_eq_append_getElem h, List.map_append, List.sum_append]; simp
theorem sum_take {α : Type} (m : α → Nat) : ∀ (l : List α) (i : Nat), ((l.take i).map m).sum ≤ (l.map m).sum
  | [], i => by simp
  | a :: l, 0 => by simp
  | a :: l, i + 1 => by have := sum_take m l i; simp only [List.take_succ_cons, List.map_cons, List.sum_cons]; omega
def vast : Nat := 9223372036854775807
def szBody (sz g : Nat) : CC :=
  .seq (.reg [⟨none, (some 4), .mv (.k (.int .i64 0))⟩] [])
  (.seq (.reg [⟨none, (some 6), .mv (.sl 1)⟩,
    ⟨none, (some 7), .mv (.sl 0)⟩,
    ⟨none, (some 8), .len (.sl 7)⟩,
    ⟨none, (some 9), .bin .sub (.sl 6) (.sl 8)⟩,
    ⟨none, (some 1), .mv (.sl 9)⟩] [])
  (.seq (.seq (.reg [⟨none, (some 10), .mv (.sl 1)⟩,
    ⟨none, (some 11), .bin .lss (.sl 10) (.k (.int .i64 0))⟩] [])
  (.cond (.sl 11) (.seq (.reg [⟨none, (some 4), .mv (.k (.int .i64 (-1)))⟩] [])
   (.ret)) (.skip)))
  (.seq (.seq (.reg [⟨none, (some 5), .mv (.k (.int .i64 0))⟩] [])
  (.block 0 (.loop (.seq (.seq (.reg [⟨none, (some 12), .mv (.sl 5)⟩,
      ⟨none, (some 13), .mv (.sl 0)⟩,
      ⟨none, (some 14), .len (.sl 13)⟩,
      ⟨none, (some 15), .bin .lss (.sl 12) (.sl 14)⟩] [])
    (.cond (.sl 15) (.skip) (.exit 0)))
    (.seq (.block 1 (.seq (.reg [⟨none, (some 18), .mv (.sl 0)⟩,
       ⟨none, (some 19), .mv (.sl 5)⟩,
       ⟨none, (some 20), .iad sz (.sl 18) (.sl 19)⟩,
       ⟨none, (some 21), .load sz true (.sl 20)⟩,
       ⟨none, (some 22), .mv (.sl 1)⟩,
       ⟨none, (some 23), .call g [(.sl 21), (.sl 22)] []⟩,
       ⟨none, (some 1), .mv (.sl 23)⟩] [])
     (.seq (.reg [⟨none, (some 24), .mv (.sl 1)⟩,
       ⟨none, (some 25), .bin .lss (.sl 24) (.k (.int .i64 0))⟩] [])
     (.cond (.sl 25) (.seq (.reg [⟨none, (some 4), .mv (.k (.int .i64 (-1)))⟩] [])
      (.ret)) (.skip)))))
    (.reg [⟨none, (some 16), .mv (.sl 5)⟩,
      ⟨none, (some 17), .bin .add (.sl 16) (.k (.int .i64 1))⟩,
      ⟨none, (some 5), .mv (.sl 17)⟩] []))))))
  (.seq (.reg [⟨none, (some 26), .mv (.sl 1)⟩,
    ⟨none, (some 4), .mv (.sl 26)⟩] [])
  (.ret)))))
set_option maxHeartbeats 1000000 in
theorem c_szL (K : Env cf) {f sz g : Nat} {F : CFn} (hT : T f = some F) (hF : F.body = szBody sz g ∧ F.res = [.tmp 4] ∧ F.own = false ∧ 2 ≤ F.nt) {α : Type} (enc : α → List PV) (hm : ∀ a, (enc a).length = sz) (hp : ∀ a, plainVs (enc a)) (m : α → Nat) (l : List α) (hl : l.length ≤ vast) (left : Nat) (hle : left ≤ 2000000)
    (he : ∀ a ∈ l, ∀ left st, left ≤ 2000000 → callP cf g [.agg (enc a), I (left : Nat)] [] st = some (I (dec left (m a)), st)) : callP cf f [.list l.length (l.flatMap enc) .no, I left] [] st = some (I (dec left (szl m l)), st) := by
  obtain ⟨h1, h2, h3, h4⟩ := hF
  refine c_val K.tab (F := F) (t := 4) hT h2 h3 (by simpa using h4) (by simp [plainV_list (flat_plain enc hp l), plainV_int]) (bare_int _ _) (l.length + 1) ?_
  have hlen := flat_len enc sz hm l
  have hb : l.length ≤ 9223372036854775807 := hl
  rw [h1, szBody]
  simp (disch := omega) only [↓pa, pb, ↓reduceIte, Nat.reduceEqDiff, reduceCtorEq]
  refine Cnd_intro (fun h0 => ?_) (fun h0 => ?_)
  · simp (disch := omega) only [↓pa, pb, ↓reduceIte, h0]
    rw [dec, if_neg (by unfold szl; omega)]
  simp (disch := omega) only [↓pa, pb, h0]
  refine Wp_rounds (fun k fr st => ∃ i r : Nat, k = l.length - i ∧ i ≤ l.length ∧ fr 0 = .list l.length (l.flatMap enc) .no ∧ fr 1 = I (r : Nat) ∧ fr 5 = I i ∧ r + (l.length + ((l.take i).map m).sum) = left) l.length (by omega) ⟨0, left - l.length, by simp, by omega, by simp (disch := omega) only [↓pa, ↓reduceIte, reduceCtorEq], by simp (disch := omega) only [↓pa, ↓reduceIte, Nat.reduceEqDiff]; congr 1; omega, by simp (disch := omega) only [↓pa, ↓reduceIte]; rfl, by simp; omega⟩ ?_
  rintro k fr st ⟨i, r, rfl, hi, f0, f1, f5, hr⟩
  simp (disch := omega) only [↓pa, pb, natP, ↓reduceIte, Nat.reduceEqDiff, reduceCtorEq, f0, f5]
  have hsum := sum_take m l (i + 1)
  refine Cnd_intro (fun h => ?_) (fun h => ?_)
  · have hlt : i < l.length := h
    have hc := fun st => he _ (List.getElem_mem hlt) r st (by omega)
    have hn := sum_next m hlt
    simp (disch := omega) only [↓pa, pb, ↓reduceIte, Nat.reduceEqDiff, reduceCtorEq, f0, f1, f5, h, partP_a hm hlt, hc]
    by_cases hd : m l[i] ≤ r
    · have hdd : dec r (m l[i]) = ((r - m l[i] : Nat) : Int) := by rw [dec, if_pos hd]
      have hneg : ¬ (((r - m l[i] : Nat) : Int) < 0) := by omega
      simp (disch := omega) only [↓pa, pb, natP, ↓reduceIte, Nat.reduceEqDiff, reduceCtorEq, f0, f5, hdd, hneg]
      exact ⟨l.length - (i + 1), by omega, i + 1, r - m l[i], rfl, by omega, rfl, rfl, by rw [hn]; omega⟩
    · have hdd : dec r (m l[i]) = -1 := by rw [dec, if_neg hd]
      simp (disch := omega) only [↓pa, pb, ↓reduceIte, Int.reduceLT, hdd]
      rw [dec, if_neg (by unfold szl; rw [hn] at hsum; omega)]
  · have hie : l.take i = l := List.take_of_length_le (by omega)
    simp (disch := omega) only [↓pa, pb, ↓reduceIte, Nat.reduceEqDiff, f1, h]
    rw [hie] at hr
    rw [dec, if_pos (by unfold szl; omega)]
    congr 1; unfold szl; omega
theorem c_szT (K : Env cf) (l : List (List UInt8)) (hl : l.length ≤ vast ∧ ∀ x ∈ l, x.length ≤ vast) (left : Nat) (hle : left ≤ 2000000) : callP cf 116 [TX l, I left] [] st = some (I (dec left (szTx l)), st) := by
  refine c_val K.tab (F := F116) (t := 4) rfl rfl rfl (lb rfl) (by simp [plainV_tx, plainV_int]) (bare_int _ _) (l.length + 1) ?_
  have hm : (l.map S).length = l.length := by simp
  have hb : l.length ≤ 9223372036854775807 := hl.1
  unfold F116 qr qd qm qi qb qk ql qo
  simp (disch := omega) only [↓pa, pb, ↓reduceIte, Nat.reduceEqDiff, reduceCtorEq]
  refine Cnd_intro (fun h0 => ?_) (fun h0 => ?_)
  · simp (disch := omega) only [↓pa, pb, ↓reduceIte, h0]
    rw [dec, if_neg (by unfold szTx szl; omega)]
  simp (disch := omega) only [↓pa, pb, h0]
  refine Wp_rounds (fun k fr st => ∃ i r : Nat, k = l.length - i ∧ i ≤ l.length ∧ fr 0 = TX l ∧ fr 1 = I (r : Nat) ∧ fr 5 = I i ∧ r + (l.length + ((l.take i).map List.length).sum) = left) l.length (by omega) ⟨0, left - l.length, by simp, by omega, by simp (disch := omega) only [↓pa, ↓reduceIte, reduceCtorEq], by simp (disch := omega) only [↓pa, ↓reduceIte, Nat.reduceEqDiff]; congr 1; omega, by simp (disch := omega) only [↓pa, ↓reduceIte]; rfl, by simp; omega⟩ ?_
  rintro k fr st ⟨i, r, rfl, hi, f0, f1, f5, hr⟩
  simp (disch := omega) only [↓pa, pb, natP, ↓reduceIte, Nat.reduceEqDiff, reduceCtorEq, f0, f5]
  have hsum := sum_take List.length l (i + 1)
  refine Cnd_intro (fun h => ?_) (fun h => ?_)
  · have hlt : i < l.length := h
    have hn := sum_next List.length hlt
    have ht : tAt l i = l[i] := by simp [tAt, hlt]
    have hb2 : l[i].length ≤ 9223372036854775807 := hl.2 _ (List.getElem_mem hlt)
    simp (disch := omega) only [↓pa, pb, ↓reduceIte, Nat.reduceEqDiff, reduceCtorEq, f0, f1, f5, h, Nat.mul_one, partP_tx hlt, ht]
    refine Cnd_intro (fun h2 => ?_) (fun h2 => ?_)
    · simp (disch := omega) only [↓pa, pb, ↓reduceIte, h2]
      rw [dec, if_neg (by unfold szTx szl; rw [hn] at hsum; omega)]
    · simp (disch := omega) only [↓pa, pb, natP, ↓reduceIte, Nat.reduceEqDiff, reduceCtorEq, f0, f5, h2]
      exact ⟨l.length - (i + 1), by omega, i + 1, r - l[i].length, rfl, by omega, by congr 1; omega, rfl, by rw [hn]; omega⟩
  · have hie : l.take i = l := List.take_of_length_le (by omega)
    simp (disch := omega) only [↓pa, pb, ↓reduceIte, Nat.reduceEqDiff, f1, h]
    rw [hie] at hr
    rw [dec, if_pos (by unfold szTx szl; omega)]
    congr 1; unfold szTx szl; omega
theorem c_szFd (K : Env cf) (x : Fd) (h : x.1.length ≤ vast ∧ x.2.length ≤ vast) (left : Nat) (hle : left ≤ 2000000) : callP cf 165 [.agg (fc x), I left] [] st = some (I (dec left (szFd x)), st) := by
  refine c_val K.tab (F := F165) (t := 4) rfl rfl rfl (lb rfl) (by have := (fs_plain [x]); simp at this; simp [plainV_agg this, plainV_int]) (bare_int _ _) 1 ?_
  have h1 : x.1.length ≤ 9223372036854775807 := h.1
  have h2 : x.2.length ≤ 9223372036854775807 := h.2
  unfold F165 qr qd qm qi qb qk ql qf qo
  simp (disch := omega) only [↓pa, pb, pmy, ↓reduceIte, Nat.reduceEqDiff, Nat.reduceAdd, fc]
  refine Cnd_intro (fun h3 => ?_) (fun h3 => ?_)
  · simp (disch := omega) only [↓pa, pb, ↓reduceIte, h3]
    rw [dec, if_neg (by unfold szFd; omega)]
  simp (disch := omega) only [↓pa, pb, pmy, ↓reduceIte, Nat.reduceEqDiff, Nat.reduceAdd, h3]
  refine Cnd_intro (fun h4 => ?_) (fun h4 => ?_)
  · simp (disch := omega) only [↓pa, pb, ↓reduceIte, h4]
    rw [dec, if_neg (by unfold szFd; omega)]
  simp (disch := omega) only [↓pa, pb, ↓reduceIte, Nat.reduceEqDiff, h4]
  rw [dec, if_pos (by unfold szFd; omega)]
  congr 1; unfold szFd; omega
structure FitsB (g : Gph) : Prop where
  ns : g.nodes.length ≤ vast
  es : g.edges.length ≤ vast
  nl : ∀ x ∈ g.nodes, x.labels.length ≤ vast ∧ ∀ t ∈ x.labels, t.length ≤ vast
  nf : ∀ x ∈ g.nodes, x.fields.length ≤ vast ∧ ∀ f ∈ x.fields, f.1.length ≤ vast ∧ f.2.length ≤ vast
  et : ∀ x ∈ g.edges, x.type.length ≤ vast
  ef : ∀ x ∈ g.edges, x.fields.length ≤ vast ∧ ∀ f ∈ x.fields, f.1.length ≤ vast ∧ f.2.length ≤ vast
theorem c_szFs (K : Env cf) (l : List Fd) (h : l.length ≤ vast ∧ ∀ f ∈ l, f.1.length ≤ vast ∧ f.2.length ≤ vast) (left : Nat) (hle : left ≤ 2000000) : callP cf 117 [FX l, I left] [] st = some (I (dec left (szFs l)), st) :=
  c_szL K (f := 117) (F := F117) rfl ⟨rfl, rfl, rfl, (lb rfl)⟩ fc (fun _ => rfl) (fun a => by have := fs_plain [a]; simpa using this) szFd l h.1 left hle fun a ha left st hl => c_szFd K a (h.2 a ha) left hl
theorem c_szNd (K : Env cf) (x : Nd) (h1 : x.labels.length ≤ vast ∧ ∀ t ∈ x.labels, t.length ≤ vast) (h2 : x.fields.length ≤ vast ∧ ∀ f ∈ x.fields, f.1.length ≤ vast ∧ f.2.length ≤ vast) (left : Nat) (hle : left ≤ 2000000) : callP cf 79 [.agg (nc x), I left] [] st = some (I (dec left (szNd x)), st) := by
  refine c_val K.tab (F := F79) (t := 4) rfl rfl rfl (lb rfl) (by simp [plainV_nd, plainV_int]) (bare_int _ _) 1 ?_
  have ht := fun st => c_szT (st := st) K x.labels h1 left hle
  have hf := fun (left : Nat) (hl : left ≤ 2000000) st => c_szFs (st := st) K x.fields h2 left hl
  unfold F79 qr qd qm qi qk ql qf qo
  simp (disch := omega) only [↓pa, pb, pmy, ↓reduceIte, Nat.reduceEqDiff, Nat.reduceAdd, nc, ht]
  by_cases hd : szTx x.labels ≤ left
  · have hdd : dec left (szTx x.labels) = ((left - szTx x.labels : Nat) : Int) := by rw [dec, if_pos hd]
    have hneg : ¬ (((left - szTx x.labels : Nat) : Int) < 0) := by omega
    have hf2 := hf (left - szTx x.labels) (by omega)
    simp (disch := omega) only [↓pa, pb, pmy, ↓reduceIte, Nat.reduceEqDiff, Nat.reduceAdd, hdd, hneg, hf2]
    by_cases hd2 : szFs x.fields ≤ left - szTx x.labels
    · have hdd2 : dec (left - szTx x.labels) (szFs x.fields) = ((left - szTx x.labels - szFs x.fields : Nat) : Int) := by rw [dec, if_pos hd2]
      have hneg2 : ¬ (((left - szTx x.labels - szFs x.fields : Nat) : Int) < 0) := by omega
      simp (disch := omega) only [↓pa, pb, ↓reduceIte, Nat.reduceEqDiff, hdd2, hneg2]
      rw [dec, if_pos (by unfold szNd; omega)]
      congr 1; unfold szNd; omega
    · have hdd2 : dec (left - szTx x.labels) (szFs x.fields) = -1 := by rw [dec, if_neg hd2]
      simp (disch := omega) only [↓pa, pb, ↓reduceIte, Int.reduceLT, hdd2]
      rw [dec, if_neg (by unfold szNd; omega)]
  · have hdd : dec left (szTx x.labels) = -1 := by rw [dec, if_neg hd]
    simp (disch := omega) only [↓pa, pb, ↓reduceIte, Int.reduceLT, hdd]
    rw [dec, if_neg (by unfold szNd; omega)]
theorem c_szEg (K : Env cf) (x : Eg) (h1 : x.type.length ≤ vast) (h2 : x.fields.length ≤ vast ∧ ∀ f ∈ x.fields, f.1.length ≤ vast ∧ f.2.length ≤ vast) (left : Nat) (hle : left ≤ 2000000) : callP cf 80 [.agg (ec x), I left] [] st = some (I (dec left (szEg x)), st) := by
  refine c_val K.tab (F := F80) (t := 4) rfl rfl rfl (lb rfl) (by simp [plainV_eg, plainV_int]) (bare_int _ _) 1 ?_
  have hb : x.type.length ≤ 9223372036854775807 := h1
  have hf := fun (left : Nat) (hl : left ≤ 2000000) st => c_szFs (st := st) K x.fields h2 left hl
  unfold F80 qr qd qm qi qb qk ql qf qo
  simp (disch := omega) only [↓pa, pb, pmy, ↓reduceIte, Nat.reduceEqDiff, Nat.reduceAdd, ec]
  refine Cnd_intro (fun h0 => ?_) (fun h0 => ?_)
  · simp (disch := omega) only [↓pa, pb, ↓reduceIte, h0]
    rw [dec, if_neg (by unfold szEg; omega)]
  have e0 : (left : Int) - (x.type.length : Int) = ((left - x.type.length : Nat) : Int) := by omega
  have hf2 := hf (left - x.type.length) (by omega)
  simp (disch := omega) only [↓pa, pb, pmy, ↓reduceIte, Nat.reduceEqDiff, Nat.reduceAdd, e0, hf2]
  by_cases hd2 : szFs x.fields ≤ left - x.type.length
  · have hdd2 : dec (left - x.type.length) (szFs x.fields) = ((left - x.type.length - szFs x.fields : Nat) : Int) := by rw [dec, if_pos hd2]
    have hneg2 : ¬ (((left - x.type.length - szFs x.fields : Nat) : Int) < 0) := by omega
    simp (disch := omega) only [↓pa, pb, ↓reduceIte, Nat.reduceEqDiff, hdd2, hneg2]
    rw [dec, if_pos (by unfold szEg; omega)]
    congr 1; unfold szEg; omega
  · have hdd2 : dec (left - x.type.length) (szFs x.fields) = -1 := by rw [dec, if_neg hd2]
    simp (disch := omega) only [↓pa, pb, ↓reduceIte, Int.reduceLT, hdd2]
    rw [dec, if_neg (by unfold szEg; omega)]
theorem c_szGr (K : Env cf) (g : Gph) (h : FitsB g) (left : Nat) (hle : left ≤ 2000000) : callP cf 8 [.agg (gc g), I left] [] st = some (I (dec left (szGr g)), st) := by
  refine c_val K.tab (F := F8) (t := 4) rfl rfl rfl (lb rfl) (by simp [plainV_gr, plainV_int]) (bare_int _ _) 1 ?_
  have ht := fun st => c_szL (st := st) K (f := 38) (F := F38) rfl ⟨rfl, rfl, rfl, (lb rfl)⟩ nc nc_len nc_plain szNd g.nodes h.ns left hle fun a ha left st hl => c_szNd K a (h.nl a ha) (h.nf a ha) left hl
  have hf := fun (left : Nat) (hl : left ≤ 2000000) st => c_szL (st := st) K (f := 39) (F := F39) rfl ⟨rfl, rfl, rfl, (lb rfl)⟩ ec ec_len ec_plain szEg g.edges h.es left hl fun a ha left st hl => c_szEg K a (h.et a ha) (h.ef a ha) left hl
  unfold F8 qr qd qm qi qk ql qf qo
  simp (disch := omega) only [↓pa, pb, pmy, ↓reduceIte, Nat.reduceEqDiff, Nat.reduceAdd, gc, ht]
  by_cases hd : szl szNd g.nodes ≤ left
  · have hdd : dec left (szl szNd g.nodes) = ((left - szl szNd g.nodes : Nat) : Int) := by rw [dec, if_pos hd]
    have hneg : ¬ (((left - szl szNd g.nodes : Nat) : Int) < 0) := by omega
    have hf2 := hf (left - szl szNd g.nodes) (by omega)
    simp (disch := omega) only [↓pa, pb, pmy, ↓reduceIte, Nat.reduceEqDiff, Nat.reduceAdd, hdd, hneg, hf2]
    by_cases hd2 : szl szEg g.edges ≤ left - szl szNd g.nodes
    · have hdd2 : dec (left - szl szNd g.nodes) (szl szEg g.edges) = ((left - szl szNd g.nodes - szl szEg g.edges : Nat) : Int) := by rw [dec, if_pos hd2]
      have hneg2 : ¬ (((left - szl szNd g.nodes - szl szEg g.edges : Nat) : Int) < 0) := by omega
      simp (disch := omega) only [↓pa, pb, ↓reduceIte, Nat.reduceEqDiff, hdd2, hneg2]
      rw [dec, if_pos (by unfold szGr; omega)]
      congr 1; unfold szGr; omega
    · have hdd2 : dec (left - szl szNd g.nodes) (szl szEg g.edges) = -1 := by rw [dec, if_neg hd2]
      simp (disch := omega) only [↓pa, pb, ↓reduceIte, Int.reduceLT, hdd2]
      rw [dec, if_neg (by unfold szGr; omega)]
  · have hdd : dec left (szl szNd g.nodes) = -1 := by rw [dec, if_neg hd]
    simp (disch := omega) only [↓pa, pb, ↓reduceIte, Int.reduceLT, hdd]
    rw [dec, if_neg (by unfold szGr; omega)]
theorem szl_len {α : Type} {m : α → Nat} {l : List α} : l.length ≤ szl m l := by unfold szl; omega
theorem szl_mem {α : Type} {m : α → Nat} {l : List α} {a : α} (h : a ∈ l) : m a ≤ szl m l := by
  unfold szl
  have : m a ≤ (l.map m).sum := by
    induction l with
    | nil => simp at h
    | cons x l ih =>
      rw [List.map_cons, List.sum_cons]
      rcases List.mem_cons.1 h with rfl | h
      · omega
      · have := ih h; omega
  omega
theorem fits_of {g : Gph} (h : szGr g ≤ 1048576) : Fits g := by
  have h1 : szl szNd g.nodes ≤ 1048576 := by unfold szGr at h; omega
  have h2 : szl szEg g.edges ≤ 1048576 := by unfold szGr at h; omega
  refine ⟨by have := @szl_len _ szNd g.nodes; omega, by have := @szl_len _ szEg g.edges; omega, fun x hx => ?_, fun x hx => ?_⟩
  · have h3 : szNd x ≤ 1048576 := Nat.le_trans (szl_mem (m := szNd) hx) h1
    unfold szNd szTx szFs at h3
    have h4 := @szl_len _ List.length x.labels
    have h5 := @szl_len _ szFd x.fields
    exact ⟨by omega, by omega⟩
  · have h3 : szEg x ≤ 1048576 := Nat.le_trans (szl_mem (m := szEg) hx) h2
    unfold szEg szFs at h3
    have h5 := @szl_len _ szFd x.fields
    omega
theorem put_at : ∀ (vs as cs bs : List PV), vs.length = cs.length → putCells (as ++ (cs ++ bs)) as.length vs = as ++ (vs ++ bs)
  | [], as, [], bs, _ => rfl
  | v :: vs, as, c :: cs, bs, h => by
    rw [putCells_cons]
    have : (as ++ (c :: cs ++ bs)).set as.length v = (as ++ [v]) ++ (cs ++ bs) := by simp
    rw [this]
    have h2 := put_at vs (as ++ [v]) cs bs (by simpa using h)
    rw [List.length_append] at h2
    simp only [List.length_cons, List.length_nil, Nat.zero_add] at h2
    rw [h2]
    simp
def toBody (e sz by_ g : Nat) (zs : List PV) : CC :=
  .seq (.reg [⟨none, (some 2), .mv (.k (.list 0 [] .nil))⟩] [])
  (.seq (.reg [⟨none, (some 5), .mv (.sl 0)⟩,
    ⟨none, (some 6), .len (.sl 5)⟩,
    ⟨none, (some 7), .mks e sz by_ zs (.sl 6) (.sl 6)⟩,
    ⟨none, (some 3), .mv (.sl 7)⟩] [])
  (.seq (.seq (.reg [⟨none, (some 4), .mv (.k (.int .i64 0))⟩] [])
  (.block 0 (.loop (.seq (.seq (.reg [⟨none, (some 8), .mv (.sl 4)⟩,
      ⟨none, (some 9), .mv (.sl 0)⟩,
      ⟨none, (some 10), .len (.sl 9)⟩,
      ⟨none, (some 11), .bin .lss (.sl 8) (.sl 10)⟩] [])
    (.cond (.sl 11) (.skip) (.exit 0)))
    (.seq (.block 1 (.reg [⟨none, (some 14), .mv (.sl 3)⟩,
       ⟨none, (some 15), .mv (.sl 4)⟩,
       ⟨none, (some 16), .mv (.sl 0)⟩,
       ⟨none, (some 17), .mv (.sl 4)⟩,
       ⟨none, (some 18), .iad sz (.sl 16) (.sl 17)⟩,
       ⟨none, (some 19), .load sz true (.sl 18)⟩,
       ⟨none, (some 20), .call g [(.sl 19)] []⟩,
       ⟨none, (some 21), .iad sz (.sl 14) (.sl 15)⟩,
       ⟨none, none, .store sz (.sl 21) (.sl 20)⟩] []))
    (.reg [⟨none, (some 12), .mv (.sl 4)⟩,
      ⟨none, (some 13), .bin .add (.sl 12) (.k (.int .i64 1))⟩,
      ⟨none, (some 4), .mv (.sl 13)⟩] []))))))
  (.seq (.reg [⟨none, (some 22), .mv (.sl 3)⟩,
    ⟨none, (some 2), .mv (.sl 22)⟩] [])
  (.ret))))
theorem tx_plains : ∀ l : List (List UInt8), plainVs (l.map S)
  | [] => plainVs_nil
  | x :: l => plainVs_cons (plainV_str _) (tx_plains l)
theorem rep_succ (m : Nat) (zs : List PV) : (List.replicate (m + 1) zs).flatten = zs ++ (List.replicate m zs).flatten := by simp [List.replicate_succ]
set_option maxHeartbeats 1000000 in
theorem c_toL (K : Env cf) {f e sz by_ g : Nat} {zs : List PV} {F : CFn} (hT : T f = some F) (hF : F.body = toBody e sz by_ g zs ∧ F.res = [.tmp 2] ∧ F.own = true ∧ F.nk = 0 ∧ 1 ≤ F.nt) (hz : zs.length = sz) (hsz : 0 < sz) (hby : by_ ≤ 1000) {α : Type} (enc : α → List PV) (hm : ∀ a, (enc a).length = sz) (hp : ∀ a, plainVs (enc a)) (l : List α) (hl : l.length ≤ 2000000)
    (he : ∀ a ∈ l, ∀ st, ∃ r ns, callP cf g [.agg (enc a)] [] st = some (r, st.more ns) ∧ Fresh st.nx ns r ∧ strip r = .agg (enc a)) :
    ∃ r ns, callP cf f [.list l.length (l.flatMap enc) .no] [] st = some (r, st.more ns) ∧ Fresh st.nx ns r ∧ strip r = .list l.length (l.flatMap enc) .no := by
  obtain ⟨h1, h2, h3, h5, h4⟩ := hF
  refine c_valR K.tab (F := F) (t := 2) hT h2 h3 h5 (by simpa using h4) (by simp [plainV_list (flat_plain enc hp l)]) (l.length + 1) ?_
  have hlen := flat_len enc sz hm l
  have hby2 := Nat.mul_le_mul hby hl
  have hmks := fun s st => @mksP_ok e sz by_ s zs (l.length : Int) st (by omega) (by simp only [Int.toNat_natCast]; omega) (by omega) hz hsz
  rw [h1, toBody]
  simp (disch := omega) only [↓pa, pb, ↓reduceIte, reduceCtorEq, pmj, hmks]
  refine Wp_rounds (fun k fr st => ∃ (i : Nat) (cs : List PV), k = l.length - i ∧ i ≤ l.length ∧ fr 0 = .list l.length (l.flatMap enc) .no ∧ fr 3 = .osl e sz 7 l.length ∧ fr 4 = I i ∧ st.objs 7 = some (cs ++ (List.replicate (l.length - i) zs).flatten) ∧ cs.length = i * sz ∧ strips cs = (l.take i).flatMap enc ∧ nps cs = true ∧ solids cs = true ∧ TokOK st (tokss cs) ∧ st.fl = 0) l.length (by omega)
    ⟨0, [], by simp, by omega, by simp (disch := omega) only [↓pa, pb, ↓reduceIte, reduceCtorEq], by simp (disch := omega) only [↓pa, ↓reduceIte, Nat.reduceEqDiff] <;> simp, by simp (disch := omega) only [↓pa, ↓reduceIte] <;> rfl, by simp (disch := omega) only [pb, pmy, ↓reduceIte] <;> simp, by simp, rfl, rfl, rfl, TokOK_setO TokOK_nil, rfl⟩ ?_
  rintro k fr st ⟨i, cs, rfl, hi, f0, f3, f4, o7, hc1, hc2, hc3, hc4, hT2, hfl⟩
  simp (disch := omega) only [↓pa, pb, natP, ↓reduceIte, Nat.reduceEqDiff, reduceCtorEq, f0, f4]
  refine Cnd_intro (fun h => ?_) (fun h => ?_)
  · have hlt : i < l.length := h
    have hrep : l.length - i = (l.length - (i + 1)) + 1 := by omega
    rw [hrep, rep_succ] at o7
    simp (disch := omega) only [↓pa, pb, ↓reduceIte, Nat.reduceEqDiff, reduceCtorEq, f0, f3, f4, h, partP_a hm hlt]
    refine RunsTo_OE (he _ (List.getElem_mem hlt) _) (fun r ns hFr hr => ?_)
    obtain ⟨ds, rfl, hds⟩ := strip_agg_inv hr
    have hdl : ds.length = sz := by rw [← hm l[i], ← hds, strips_map, List.length_map]
    have hw : putCells (cs ++ (zs ++ (List.replicate (l.length - (i + 1)) zs).flatten)) (i * sz) ds = (cs ++ ds) ++ (List.replicate (l.length - (i + 1)) zs).flatten := by
      rw [← hc1, put_at ds cs zs _ (by rw [hdl, hz]), List.append_assoc]
    have hle : (i * sz + sz ≤ (cs ++ (zs ++ (List.replicate (l.length - (i + 1)) zs).flatten)).length) = True := by
      refine eq_true ?_
      rw [List.length_append, List.length_append, hc1, hz]; omega
    simp (disch := omega) only [↓pa, pb, pmy, natP, ↓reduceIte, Nat.reduceEqDiff, reduceCtorEq, f0, f3, f4, pmj, o7, hdl, hw, hle]
    refine ⟨l.length - (i + 1), by omega, i + 1, cs ++ ds, rfl, by omega, rfl, rfl, ?_, ?_, ?_, ?_, ?_, by rw [St.more_fl]; exact hfl⟩
    · rw [List.length_append, hc1, hdl, Nat.add_mul, Nat.one_mul]
    · rw [strips_append, hc2, hds, List.take_succ_eq_append_getElem hlt, List.flatMap_append]; simp
    · exact nps_append hc3 hFr.np
    · have := hFr.so
      simp only [solid] at this
      rw [solids_append, hc4, this]; rfl
    · rw [tokss_append]
      have := hFr.tk
      simp only [toks] at this
      rw [this]
      exact TokOK_setO (TokOK_more hT2 (by omega) ns)
  · have hie : i = l.length := by omega
    subst hie
    simp (disch := omega) only [↓pa, pb, ↓reduceIte, Nat.reduceEqDiff, f3, h]
    rw [Nat.sub_self] at o7
    refine ⟨endOk_ret.2 trivial, e, sz, 7, l.length, cs, by simp (disch := omega) only [↓pa, ↓reduceIte], by rw [o7]; simp, hc1, by omega, hc3, hc4, hT2, hfl, ?_⟩
    rw [hc2, List.take_of_length_le (Nat.le_refl _)]
set_option maxHeartbeats 1000000 in
theorem c_toT (K : Env cf) (l : List (List UInt8)) (hl : l.length ≤ 2000000) : ∃ r ns, callP cf 122 [TX l] [] st = some (r, st.more ns) ∧ Fresh st.nx ns r ∧ strip r = TX l := by
  refine c_valR K.tab (F := F122) (t := 2) rfl rfl rfl rfl (lb rfl) (by simp [plainV_tx]) (l.length + 1) ?_
  have hlen : (l.map S).length = l.length := by simp
  have hmks := fun s st => @mksP_ok 9 1 16 s [(PV.str ⟨#[]⟩)] (l.length : Int) st (by omega) (by simp only [Int.toNat_natCast]; omega) (by omega) rfl (by decide)
  unfold F122 qr qd qm qi qc qb qk ql qo qe qN
  simp (disch := omega) only [↓pa, pb, ↓reduceIte, reduceCtorEq, pmj, hmks]
  refine Wp_rounds (fun k fr st => ∃ (i : Nat), k = l.length - i ∧ i ≤ l.length ∧ fr 0 = TX l ∧ fr 3 = .osl 9 1 7 l.length ∧ fr 4 = I i ∧ st.objs 7 = some ((l.take i).map S ++ List.replicate (l.length - i) (.str ⟨#[]⟩)) ∧ TokOK st [] ∧ st.fl = 0) l.length (by omega)
    ⟨0, by simp, by omega, by simp (disch := omega) only [↓pa, pb, ↓reduceIte, reduceCtorEq], by simp (disch := omega) only [↓pa, ↓reduceIte, Nat.reduceEqDiff] <;> simp, by simp (disch := omega) only [↓pa, ↓reduceIte] <;> rfl, by simp (disch := omega) only [pb, ↓reduceIte] <;> simp, TokOK_setO TokOK_nil, rfl⟩ ?_
  rintro k fr st ⟨i, rfl, hi, f0, f3, f4, o7, hT2, hfl⟩
  simp (disch := omega) only [↓pa, pb, natP, ↓reduceIte, Nat.reduceEqDiff, reduceCtorEq, f0, f4]
  refine Cnd_intro (fun h => ?_) (fun h => ?_)
  · have hlt : i < l.length := h
    have ht : tAt l i = l[i] := by simp [tAt, hlt]
    have hrep : l.length - i = (l.length - (i + 1)) + 1 := by omega
    rw [hrep, List.replicate_succ] at o7
    have hc1 : ((l.take i).map S).length = i := by simp; omega
    have hw : putCells ((l.take i).map S ++ (PV.str ⟨#[]⟩) :: List.replicate (l.length - (i + 1)) (.str ⟨#[]⟩)) i [S l[i]] = (l.take (i + 1)).map S ++ List.replicate (l.length - (i + 1)) (.str ⟨#[]⟩) := by
      have := put_at [S l[i]] ((l.take i).map S) [(PV.str ⟨#[]⟩)] (List.replicate (l.length - (i + 1)) (.str ⟨#[]⟩)) rfl
      rw [hc1] at this
      simp only [List.cons_append, List.nil_append] at this
      rw [this, List.take_succ_eq_append_getElem hlt, List.map_append]
      simp only [List.map_cons, List.map_nil, List.append_assoc, List.cons_append, List.nil_append]
    have hle : (i + 1 ≤ ((l.take i).map S ++ (PV.str ⟨#[]⟩) :: List.replicate (l.length - (i + 1)) (.str ⟨#[]⟩)).length) = True := by
      refine eq_true ?_
      rw [List.length_append, hc1, List.length_cons]; omega
    simp (disch := omega) only [↓pa, pb, pmy, natP, ↓reduceIte, Nat.reduceEqDiff, Nat.reduceAdd, reduceCtorEq, f0, f3, f4, h, Nat.mul_one, partP_tx hlt, ht, o7, hw, hle]
    exact ⟨l.length - (i + 1), by omega, i + 1, rfl, by omega, rfl, rfl, TokOK_setO hT2, hfl⟩
  · have hie : i = l.length := by omega
    subst hie
    simp (disch := omega) only [↓pa, pb, ↓reduceIte, Nat.reduceEqDiff, f3, h]
    rw [Nat.sub_self] at o7
    obtain ⟨s1, s2⟩ := flat_so (cs := l.map S) (by simp [flatP, S])
    have hpl := tx_plains l
    refine ⟨endOk_ret.2 trivial, 9, 1, 7, l.length, l.map S, by simp (disch := omega) only [↓pa, ↓reduceIte], by rw [o7]; simp, by simp, by omega, hpl.1, s1, by rw [s2]; exact hT2, hfl, ?_⟩
    rw [hpl.2.1]
theorem c_toFd (K : Env cf) (x : Fd) : ∃ r ns, callP cf 170 [.agg (fc x)] [] st = some (r, st.more ns) ∧ Fresh st.nx ns r ∧ strip r = .agg (fc x) := by
  refine c_valO K.tab (F := F170) (Q := fun r => r = .agg (fc x)) rfl rfl rfl (lb rfl) (by have := (fs_plain [x]); simp at this; simp [plainV_agg this]) 1 ?_
  unfold F170 qr ql qf qo qe
  simp (disch := omega) only [↓pa, pb, pmy, ↓reduceIte, Nat.reduceEqDiff, Nat.reduceAdd, Nat.reduceLeDiff, fc, pmj]
  exact ⟨rfl, rfl, rfl, TokOK_setO (TokOK_setO (TokOK_setO (TokOK_setO (TokOK_setO (TokOK_setO TokOK_nil))))), rfl⟩
theorem c_toFs (K : Env cf) (l : List Fd) (hl : l.length ≤ 2000000) : ∃ r ns, callP cf 123 [FX l] [] st = some (r, st.more ns) ∧ Fresh st.nx ns r ∧ strip r = FX l :=
  c_toL K (f := 123) (F := F123) rfl ⟨rfl, rfl, rfl, rfl, (lb rfl)⟩ rfl (by decide) (by decide) fc (fun _ => rfl) (fun a => by have := fs_plain [a]; simpa using this) l hl fun a _ st => c_toFd K a
theorem c_toN (K : Env cf) (x : Nd) (h1 : x.labels.length ≤ 2000000) (h2 : x.fields.length ≤ 2000000) : ∃ r ns, callP cf 86 [.agg (nc x)] [] st = some (r, st.more ns) ∧ Fresh st.nx ns r ∧ strip r = .agg (nc x) := by
  refine c_valO K.tab (F := F86) (Q := fun r => r = .agg (nc x)) rfl rfl rfl (lb rfl) (by simp [plainV_nd]) 1 ?_
  unfold F86 qr ql qf qo qe qN
  simp (disch := omega) only [↓pa, pb, pmy, ↓reduceIte, Nat.reduceEqDiff, Nat.reduceAdd, Nat.reduceLeDiff, nc]
  refine RunsTo_OE (c_toT K x.labels h1) (fun r ns hF hr => ?_)
  obtain ⟨ds, u, rfl, hd, -⟩ := strip_list_inv hr
  simp (disch := omega) only [↓pa, pb, pmy, ↓reduceIte, Nat.reduceEqDiff, Nat.reduceAdd, Nat.reduceLeDiff, pmj]
  refine RunsTo_OE (c_toFs K x.fields h2) (fun r2 ns2 hF2 hr2 => ?_)
  obtain ⟨ds2, u2, rfl, hd2, -⟩ := strip_list_inv hr2
  simp (disch := omega) only [↓pa, pb, pmy, ↓reduceIte, Nat.reduceEqDiff, Nat.reduceAdd, Nat.reduceLeDiff, pmj]
  refine ⟨rfl, ?_, ?_, ?_, ?_⟩
  · simp only [pmz, Bool.true_and, Bool.and_true]; have a := hF.np; have b := hF2.np; simp only [pmz] at a b; rw [a, b]; rfl
  · have a := hF.so; have b := hF2.so; simp only [solid, solids, Bool.true_and, Bool.and_true] at a b ⊢; rw [a, b]; rfl
  · have a := hF.tk
    have b := hF2.tk
    simp only [toks, tokss, List.nil_append, List.append_nil] at a b ⊢
    rw [a, b]
    exact TokOK_setO (TokOK_setO (TokOK_more (TokOK_setO (TokOK_more (TokOK_setO (TokOK_setO (TokOK_setO (TokOK_setO TokOK_nil)))) (Nat.zero_le _) ns)) (by simp only [setO, St.more_fl, stB]; exact Nat.zero_le _) ns2))
  · simp only [pmz, hd, hd2]
theorem c_toE (K : Env cf) (x : Eg) (h2 : x.fields.length ≤ 2000000) : ∃ r ns, callP cf 87 [.agg (ec x)] [] st = some (r, st.more ns) ∧ Fresh st.nx ns r ∧ strip r = .agg (ec x) := by
  refine c_valO K.tab (F := F87) (Q := fun r => r = .agg (ec x)) rfl rfl rfl (lb rfl) (by simp [plainV_eg]) 1 ?_
  unfold F87 qr ql qf qo qe qN
  simp (disch := omega) only [↓pa, pb, pmy, ↓reduceIte, Nat.reduceEqDiff, Nat.reduceAdd, Nat.reduceLeDiff, ec]
  refine RunsTo_OE (c_toFs K x.fields h2) (fun r2 ns2 hF2 hr2 => ?_)
  obtain ⟨ds2, u2, rfl, hd2, -⟩ := strip_list_inv hr2
  simp (disch := omega) only [↓pa, pb, pmy, ↓reduceIte, Nat.reduceEqDiff, Nat.reduceAdd, Nat.reduceLeDiff, pmj]
  refine ⟨rfl, ?_, ?_, ?_, ?_⟩
  · simp only [pmz, Bool.true_and, Bool.and_true]; have b := hF2.np; simp only [pmz] at b; exact b
  · have b := hF2.so; simp only [solid, solids, Bool.true_and, Bool.and_true] at b ⊢; exact b
  · have b := hF2.tk
    simp only [toks, tokss, List.nil_append, List.append_nil] at b ⊢
    rw [b]
    refine TokOK_setO (TokOK_setO (TokOK_more (st := setO _ _ _) (l := []) ?_ (Nat.zero_le _) ns2))
    exact TokOK_nil
  · simp only [pmz, hd2]
theorem c_toG (K : Env cf) (g : Gph) (h : Fits g) : ∃ r ns, callP cf 10 [.agg (gc g)] [] st = some (r, st.more ns) ∧ Fresh st.nx ns r ∧ strip r = .agg (gc g) := by
  refine c_valO K.tab (F := F10) (Q := fun r => r = .agg (gc g)) rfl rfl rfl (lb rfl) (by simp [plainV_gr]) 1 ?_
  unfold F10 qr ql qf qo qe qN
  simp (disch := omega) only [↓pa, pb, pmy, ↓reduceIte, Nat.reduceEqDiff, Nat.reduceAdd, gc]
  refine RunsTo_OE (c_toL K (f := 44) (F := F44) rfl ⟨rfl, rfl, rfl, rfl, (lb rfl)⟩ rfl (by decide) (by decide) nc nc_len nc_plain g.nodes h.ns fun a ha st => c_toN K a (h.nf a ha).2 (h.nf a ha).1) (fun r ns hF hr => ?_)
  obtain ⟨ds, u, rfl, hd, -⟩ := strip_list_inv hr
  simp (disch := omega) only [↓pa, pb, pmy, ↓reduceIte, Nat.reduceEqDiff, Nat.reduceAdd, Nat.reduceLeDiff, pmj]
  refine RunsTo_OE (c_toL K (f := 45) (F := F45) rfl ⟨rfl, rfl, rfl, rfl, (lb rfl)⟩ rfl (by decide) (by decide) ec ec_len ec_plain g.edges h.es fun a ha st => c_toE K a (h.ef a ha)) (fun r2 ns2 hF2 hr2 => ?_)
  obtain ⟨ds2, u2, rfl, hd2, -⟩ := strip_list_inv hr2
  simp (disch := omega) only [↓pa, pb, pmy, ↓reduceIte, Nat.reduceEqDiff, Nat.reduceAdd, Nat.reduceLeDiff, pmj]
  refine ⟨rfl, ?_, ?_, ?_, ?_⟩
  · simp only [pmz, Bool.and_true]; have a := hF.np; have b := hF2.np; simp only [pmz] at a b; rw [a, b]; rfl
  · have a := hF.so; have b := hF2.so; simp only [solid, solids, Bool.and_true] at a b ⊢; rw [a, b]; rfl
  · have a := hF.tk
    have b := hF2.tk
    simp only [toks, tokss, List.append_nil] at a b ⊢
    rw [a, b]
    refine TokOK_setO (TokOK_setO (TokOK_more (TokOK_setO (TokOK_more (st := setO _ _ _) (l := []) ?_ (Nat.zero_le _) ns)) (by simp only [setO, St.more_fl, stB]; exact Nat.zero_le _) ns2))
    exact TokOK_nil
  · simp only [pmz, hd, hd2]
theorem own_of {n : Nat} {c : PV} {pre post : List PV} {tk : Tok} (h : solid (.list n (pre ++ c :: post) tk) = true) : ∃ k e, tk = .own k e := by
  cases tk with
  | own k e => exact ⟨k, e, rfl⟩
  | _ => simp [solid] at h
theorem mkT_next (k i : Nat) : mkT k (i + 1) = mkT k i ++ [mt (k + i)] := by
  unfold mkT
  rw [List.range_succ, List.map_append]; rfl
theorem mkF_next (k i : Nat) : mkF k (i + 1) = mkF k i ++ [(mt (k + 2 * i), mt (k + 2 * i + 1))] := by
  unfold mkF
  rw [List.range_succ, List.map_append]; rfl
set_option maxHeartbeats 1000000 in
theorem c_markT (K : Env cf) (k n : Nat) (hk : k + n ≤ 1000000000000) {cs : List PV} {tk : Tok} (hs : solid (.list n cs tk) = true) (hn : nps cs = true) (hl : cs.length = n) (hT : TokOK st (toks (.list n cs tk))) :
    ∃ p ns, uP cf 57 [.list n cs tk, I k] st = some (I (k + n : Nat), p, mvS ((toks (.list n cs tk)).map (·.1)) ns st) ∧ Fresh st.nx ns p ∧ strip p = .list n ((mkT k n).map S) .no ∧ takes [.list n cs tk, I k] [0] st = (toks (.list n cs tk)).map (·.1) := by
  refine c_valU K.tab (f := 57) (F := FB57) (t := 4) rfl rfl rfl hs hn hT (lb rfl) (n + 1) (fun cs0 tk0 ns h1 h2 h3 h4 h5 => ?_)
  have hcl : cs0.length = n := by rw [h2, hl]
  clear hs hn hT
  unfold FB57 qr qd qm qi qb qk qo qe
  simp (disch := omega) only [↓pa]
  refine Wp_rounds (fun q fr st => ∃ (i : Nat) (ds rs : List PV), q = n - i ∧ i ≤ n ∧ fr 0 = .list n (ds ++ rs) tk0 ∧ fr 1 = I (k + i : Nat) ∧ fr 5 = I i ∧ ds.length = i ∧ rs.length = n - i ∧ strips ds = (mkT k i).map S ∧ nps (ds ++ rs) = true ∧ solid (.list n (ds ++ rs) tk0) = true ∧ TokOK st ([] ++ toks (.list n (ds ++ rs) tk0) ++ []) ∧ st.fl = 0) n (by omega)
    ⟨0, [], cs0, by simp, by omega, by simp (disch := omega) only [↓pa, pmy, ↓reduceIte, reduceCtorEq] <;> simp, by simp (disch := omega) only [↓pa, ↓reduceIte, Nat.reduceEqDiff] <;> simp, by simp (disch := omega) only [↓pa, ↓reduceIte] <;> rfl, rfl, by omega, rfl, by simpa using h3, by simpa using h4, by simpa using h5, rfl⟩ ?_
  rintro q fr st ⟨i, ds, rs, rfl, hi, f0, f1, f5, hd1, hr1, hd2, hnp, hso, hTk, hfl⟩
  simp (disch := omega) only [↓pa, pb, natP, ↓reduceIte, Nat.reduceEqDiff, reduceCtorEq, f0, f5]
  refine Cnd_intro (fun h => ?_) (fun h => ?_)
  · have hlt : i < n := by omega
    obtain ⟨c, rs', rfl⟩ : ∃ c rs', rs = c :: rs' := by
      cases rs with
      | nil => simp at hr1; omega
      | cons c rs' => exact ⟨c, rs', rfl⟩
    obtain ⟨j, e, rfl⟩ := own_of hso
    have ht := fun st => c_markText (st := st) K (k + i) (by omega)
    have hlen : (ds ++ c :: rs').length = n := by rw [List.length_append, hd1]; simp at hr1 ⊢; omega
    simp (disch := omega) only [↓pa, pb, pmy, ↓reduceIte, Nat.reduceEqDiff, reduceCtorEq, f0, f1, f5, h, ht, pmu, Nat.mul_one]
    refine RunsTo_poke (X := []) (Y := []) hd1.symm (by omega) hso hnp hTk ⟨rfl, rfl, rfl⟩ (fun hso' hnp' hTk' => ?_)
    have hbk := fun cs' E' => @bk_poke n j e E' i ds rs' cs' c (S (mt (k + i))) hd1.symm
    simp (disch := omega) only [↓pa, pb, natP, ↓reduceIte, Nat.reduceEqDiff, reduceCtorEq, f0, f1, f5, pmu, hbk]
    have hcat : ds ++ [S (mt (k + i))] ++ rs' = ds ++ S (mt (k + i)) :: rs' := by simp
    refine ⟨n - (i + 1), by omega, i + 1, ds ++ [S (mt (k + i))], rs', rfl, by omega, by rw [hcat], by congr 1, rfl, by simp [hd1], by simp at hr1; omega, ?_, by rw [hcat]; exact hnp', by rw [hcat]; exact hso', by rw [hcat]; exact hTk', hfl⟩
    rw [strips_append, hd2, mkT_next, List.map_append]; rfl
  · have hie : i = n := by omega
    subst hie
    have hrn : rs = [] := List.eq_nil_of_length_eq_zero (by omega)
    subst hrn
    rw [List.append_nil] at hnp hso hTk f0
    simp (disch := omega) only [↓pa, pb, ↓reduceIte, Nat.reduceEqDiff, reduceCtorEq, f0, f1, h, pmu]
    refine ⟨_, rfl, rfl, hnp, hso, by simpa using hTk, rfl, ?_⟩
    rw [strip_list, hd2]
set_option maxHeartbeats 2000000 in
theorem c_markF (K : Env cf) (k n : Nat) (hk : k + 2 * n ≤ 1000000000000) {cs : List PV} {tk : Tok} (hs : solid (.list n cs tk) = true) (hn : nps cs = true) (hl : cs.length = n * 2) (hT : TokOK st (toks (.list n cs tk))) :
    ∃ p ns, uP cf 58 [.list n cs tk, I k] st = some (I (k + 2 * n : Nat), p, mvS ((toks (.list n cs tk)).map (·.1)) ns st) ∧ Fresh st.nx ns p ∧ strip p = .list n ((mkF k n).flatMap fc) .no ∧ takes [.list n cs tk, I k] [0] st = (toks (.list n cs tk)).map (·.1) := by
  refine c_valU K.tab (f := 58) (F := FB58) (t := 4) rfl rfl rfl hs hn hT (lb rfl) (n + 1) (fun cs0 tk0 ns h1 h2 h3 h4 h5 => ?_)
  have hcl : cs0.length = n * 2 := by rw [h2, hl]
  clear hs hn hT
  unfold FB58 qr qd qm qi qb qk qf qo qe
  simp (disch := omega) only [↓pa]
  refine Wp_rounds (fun q fr st => ∃ (i : Nat) (ds rs : List PV), q = n - i ∧ i ≤ n ∧ fr 0 = .list n (ds ++ rs) tk0 ∧ fr 1 = I (k + 2 * i : Nat) ∧ fr 5 = I i ∧ ds.length = i * 2 ∧ rs.length = (n - i) * 2 ∧ strips ds = (mkF k i).flatMap fc ∧ nps (ds ++ rs) = true ∧ solid (.list n (ds ++ rs) tk0) = true ∧ TokOK st ([] ++ toks (.list n (ds ++ rs) tk0) ++ []) ∧ st.fl = 0) n (by omega)
    ⟨0, [], cs0, by simp, by omega, by simp (disch := omega) only [↓pa, pmy, ↓reduceIte, reduceCtorEq] <;> simp, by simp (disch := omega) only [↓pa, ↓reduceIte, Nat.reduceEqDiff, Nat.reduceMul] <;> simp, by simp (disch := omega) only [↓pa, ↓reduceIte] <;> rfl, rfl, by omega, rfl, by simpa using h3, by simpa using h4, by simpa using h5, rfl⟩ ?_
  rintro q fr st ⟨i, ds, rs, rfl, hi, f0, f1, f5, hd1, hr1, hd2, hnp, hso, hTk, hfl⟩
  simp (disch := omega) only [↓pa, pb, natP, ↓reduceIte, Nat.reduceEqDiff, reduceCtorEq, f0, f5]
  refine Cnd_intro (fun h => ?_) (fun h => ?_)
  · have hlt : i < n := by omega
    obtain ⟨c, d, rs', rfl⟩ : ∃ c d rs', rs = c :: d :: rs' := by
      match rs, hr1 with
      | [], h => simp at h; omega
      | [c], h => simp at h; omega
      | c :: d :: rs', _ => exact ⟨c, d, rs', rfl⟩
    obtain ⟨j, e, rfl⟩ := own_of hso
    have ht := fun st => c_markText (st := st) K (k + 2 * i) (by omega)
    have ht2 := fun st => c_markText (st := st) K (k + 2 * i + 1) (by omega)
    have hr2 : rs'.length + 2 = (n - i) * 2 := by simpa using hr1
    have hlen : (ds ++ c :: d :: rs').length = n * 2 := by rw [List.length_append, hd1]; simp only [List.length_cons]; omega
    simp (disch := omega) only [↓pa, pb, pmy, ↓reduceIte, Nat.reduceEqDiff, reduceCtorEq, f0, f1, f5, h, ht, pmu, Nat.add_zero]
    refine RunsTo_poke (X := []) (Y := []) hd1.symm (by omega) hso hnp hTk ⟨rfl, rfl, rfl⟩ (fun hso' hnp' hTk' => ?_)
    have hbk := fun cs' E' => @bk_poke n j e E' (i * 2) ds (d :: rs') cs' c (S (mt (k + 2 * i))) hd1.symm
    have hcat1 : ds ++ S (mt (k + 2 * i)) :: d :: rs' = (ds ++ [S (mt (k + 2 * i))]) ++ d :: rs' := by simp
    rw [hcat1] at hbk hso' hnp' hTk'
    have hlen2 : (ds ++ [S (mt (k + 2 * i))] ++ d :: rs').length = n * 2 := by rw [List.length_append, List.length_append, hd1]; simp only [List.length_cons, List.length_nil]; omega
    have hoff : i * 2 + 1 = (ds ++ [S (mt (k + 2 * i))]).length := by rw [List.length_append, hd1]; rfl
    simp (disch := omega) only [↓pa, pb, pmy, natP, ↓reduceIte, Nat.reduceEqDiff, reduceCtorEq, f0, f1, f5, pmu, hbk, ht2]
    refine RunsTo_poke (X := []) (Y := []) hoff (by omega) hso' hnp' hTk' ⟨rfl, rfl, rfl⟩ (fun hso2 hnp2 hTk2 => ?_)
    have hbk2 := fun cs' E' => @bk_poke n j e E' (i * 2 + 1) (ds ++ [S (mt (k + 2 * i))]) rs' cs' d (S (mt (k + 2 * i + 1))) hoff
    simp (disch := omega) only [↓pa, pb, natP, ↓reduceIte, Nat.reduceEqDiff, reduceCtorEq, f0, f5, pmu, hbk, hbk2]
    have hcat : ds ++ [S (mt (k + 2 * i)), S (mt (k + 2 * i + 1))] ++ rs' = ds ++ [S (mt (k + 2 * i))] ++ S (mt (k + 2 * i + 1)) :: rs' := by simp
    refine ⟨n - (i + 1), by omega, i + 1, ds ++ [S (mt (k + 2 * i)), S (mt (k + 2 * i + 1))], rs', rfl, by omega, by rw [hcat], by congr 1, rfl, by simp only [List.length_append, hd1, List.length_cons, List.length_nil]; omega, by omega, ?_, by rw [hcat]; exact hnp2, by rw [hcat]; exact hso2, by rw [hcat]; exact hTk2, hfl⟩
    rw [strips_append, hd2, mkF_next, List.flatMap_append]; rfl
  · have hie : i = n := by omega
    subst hie
    have hrn : rs = [] := List.eq_nil_of_length_eq_zero (by omega)
    subst hrn
    rw [List.append_nil] at hnp hso hTk f0
    simp (disch := omega) only [↓pa, pb, ↓reduceIte, Nat.reduceEqDiff, reduceCtorEq, f0, f1, h, pmu]
    refine ⟨_, rfl, rfl, hnp, hso, by simpa using hTk, rfl, ?_⟩
    rw [strip_list, hd2]
theorem mkN_snoc : ∀ (l : List (Nat × Nat)) (a b k : Nat), mkN (l ++ [(a, b)]) k = mkN l k ++ [⟨endN l k, mkT (endN l k + 1) a, mkF (endN l k + 1 + a) b⟩] ∧ endN (l ++ [(a, b)]) k = endN l k + 1 + a + 2 * b
  | [], a, b, k => ⟨rfl, rfl⟩
  | (x, y) :: l, a, b, k => by
    obtain ⟨h1, h2⟩ := mkN_snoc l a b (k + 1 + x + 2 * y)
    exact ⟨by simp only [List.cons_append, mkN, endN, h1], by simp only [List.cons_append, endN, h2]⟩
theorem mkE_snoc : ∀ (l : List Nat) (b k : Nat), mkE (l ++ [b]) k = mkE l k ++ [⟨endE l k, mt (endE l k + 1), (endE l k + 2 : Nat), (endE l k + 3 : Nat), mkF (endE l k + 4) b⟩] ∧ endE (l ++ [b]) k = endE l k + 4 + 2 * b
  | [], b, k => ⟨rfl, rfl⟩
  | y :: l, b, k => by
    obtain ⟨h1, h2⟩ := mkE_snoc l b (k + 4 + 2 * y)
    exact ⟨by simp only [List.cons_append, mkE, endE, h1], by simp only [List.cons_append, endE, h2]⟩
theorem endN_app : ∀ (l m : List (Nat × Nat)) (k : Nat), endN (l ++ m) k = endN m (endN l k)
  | [], _, _ => rfl
  | (x, y) :: l, m, k => by rw [List.cons_append, endN, endN, endN_app l m]
theorem endE_app : ∀ (l m : List Nat) (k : Nat), endE (l ++ m) k = endE m (endE l k)
  | [], _, _ => rfl
  | y :: l, m, k => by rw [List.cons_append, endE, endE, endE_app l m]
theorem endN_len : ∀ (l : List (Nat × Nat)) (k : Nat), k + l.length ≤ endN l k
  | [], _ => Nat.le_refl _
  | (a, b) :: l, k => by have := endN_len l (k + 1 + a + 2 * b); rw [endN, List.length_cons]; omega
theorem endE_len : ∀ (l : List Nat) (k : Nat), k + l.length ≤ endE l k
  | [], _ => Nat.le_refl _
  | b :: l, k => by have := endE_len l (k + 4 + 2 * b); rw [endE, List.length_cons]; omega
def shp (x : Nd) : Nat × Nat := (x.labels.length, x.fields.length)
def she (x : Eg) : Nat := x.fields.length
theorem partP_at {pre post : List PV} {c : PV} {k : Nat} (h : pre.length = k) : partP (pre ++ c :: post) k 1 false = some c := by
  have := @partP_right pre (c :: post) 0 1 false
  rw [Nat.add_zero, h] at this
  rw [this, partP_zero]
theorem TokOK_in {N K E : Nat} {pre post : List PV} {c : PV} {X Y : List (Nat × Nat)} (h : TokOK st (X ++ toks (.list N (pre ++ c :: post) (.own K E)) ++ Y)) : TokOK st (toks c) :=
  TokOK_of' h (fun k => by simp only [toks, tokss_append, tokss, ck_append]; omega) (fun q hq => by simp only [toks, tokss_append, tokss, List.mem_append]; simp [hq])
theorem solid_in {N : Nat} {pre post : List PV} {c : PV} {tk : Tok} (h : solid (.list N (pre ++ c :: post) tk) = true) : solid c = true := by
  simp only [solid, solids_append, solids, Bool.and_eq_true] at h
  exact h.2.2.1
theorem np_in {pre post : List PV} {c : PV} (h : nps (pre ++ c :: post) = true) : np c = true := nps_mem h (by simp)
set_option maxHeartbeats 4000000 in
theorem c_markN (K : Env cf) (k : Nat) (l : List Nd) (hk : endN (l.map shp) k ≤ 1000000000000) {cs : List PV} {tk : Tok} (hs : solid (.list l.length cs tk) = true) (hL : Like nc 3 l cs) (hT : TokOK st (toks (.list l.length cs tk))) :
    ∃ p ns, uP cf 50 [.list l.length cs tk, I k] st = some (I (endN (l.map shp) k : Nat), p, mvS ((toks (.list l.length cs tk)).map (·.1)) ns st) ∧ Fresh st.nx ns p ∧ strip p = .list l.length ((mkN (l.map shp) k).flatMap nc) .no ∧ takes [.list l.length cs tk, I k] [0] st = (toks (.list l.length cs tk)).map (·.1) := by
  refine c_valU K.tab (f := 50) (F := FB50) (t := 4) rfl rfl rfl hs hL.np hT (lb rfl) (l.length + 1) (fun cs0 tk0 ns h1 h2 h3 h4 h5 => ?_)
  have hcl : cs0.length = l.length * 3 := by rw [h2, hL.len]
  have hst : strips cs0 = l.flatMap nc := by rw [h1, hL.st]
  have hN : l.length ≤ 1000000000000 := by have := endN_len (l.map shp) k; rw [List.length_map] at this; omega
  clear hs hL hT h1 h2
  unfold FB50 qr qd qm qi qb qk ql qf qo qe
  simp (disch := omega) only [↓pa]
  refine Wp_rounds (fun q fr st => ∃ (i : Nat) (ds rs : List PV), q = l.length - i ∧ i ≤ l.length ∧ fr 0 = .list l.length (ds ++ rs) tk0 ∧ fr 1 = I (endN ((l.take i).map shp) k : Nat) ∧ fr 5 = I i ∧ ds.length = i * 3 ∧ strips ds = (mkN ((l.take i).map shp) k).flatMap nc ∧ strips rs = (l.drop i).flatMap nc ∧ nps (ds ++ rs) = true ∧ solid (.list l.length (ds ++ rs) tk0) = true ∧ TokOK st ([] ++ toks (.list l.length (ds ++ rs) tk0) ++ []) ∧ st.fl = 0) l.length (by omega)
    ⟨0, [], cs0, by simp, by omega, by simp (disch := omega) only [↓pa, pmy, ↓reduceIte, reduceCtorEq] <;> simp, by simp (disch := omega) only [↓pa, ↓reduceIte, Nat.reduceEqDiff] <;> simp [endN], by simp (disch := omega) only [↓pa, ↓reduceIte] <;> rfl, rfl, rfl, hst, by simpa using h3, by simpa using h4, by simpa using h5, rfl⟩ ?_
  rintro q fr st ⟨i, ds, rs, rfl, hi, f0, f1, f5, hd1, hd2, hr2, hnp, hso, hTk, hfl⟩
  simp (disch := omega) only [↓pa, pb, natP, ↓reduceIte, Nat.reduceEqDiff, reduceCtorEq, f0, f5]
  refine Cnd_intro (fun h => ?_) (fun h => ?_)
  · have hlt : i < l.length := h
    rw [List.drop_eq_getElem_cons hlt, List.flatMap_cons] at hr2
    have hkk : endN ((l.take (i + 1)).map shp) k = endN ((l.take i).map shp) k + 1 + l[i].labels.length + 2 * l[i].fields.length := by
      rw [List.take_succ_eq_append_getElem hlt, List.map_append]; exact (mkN_snoc _ _ _ _).2
    have hkm : mkN ((l.take (i + 1)).map shp) k = mkN ((l.take i).map shp) k ++ [⟨endN ((l.take i).map shp) k, mkT (endN ((l.take i).map shp) k + 1) l[i].labels.length, mkF (endN ((l.take i).map shp) k + 1 + l[i].labels.length) l[i].fields.length⟩] := by
      rw [List.take_succ_eq_append_getElem hlt, List.map_append]; exact (mkN_snoc _ _ _ _).1
    have hkl : endN ((l.take (i + 1)).map shp) k ≤ endN (l.map shp) k := by
      have e : l.map shp = (l.take (i + 1)).map shp ++ (l.drop (i + 1)).map shp := by rw [← List.map_append, List.take_append_drop]
      rw [e, endN_app]; exact endN_le _ _
    generalize hm : endN ((l.take i).map shp) k = m at *
    obtain ⟨c, d, e, rs', rfl⟩ : ∃ c d e rs', rs = c :: d :: e :: rs' := by
      have hlen : (strips rs).length = 3 + ((l.drop (i + 1)).flatMap nc).length := by rw [hr2, List.length_append, nc_len]
      rw [strips_length] at hlen
      match rs, hlen with
      | [], h => simp at h; omega
      | [c], h => simp at h; omega
      | [c, d], h => simp at h; omega
      | c :: d :: e :: rs', _ => exact ⟨c, d, e, rs', rfl⟩
    simp only [strips_map, List.map_cons, nc, List.cons_append, List.nil_append, List.cons.injEq] at hr2
    obtain ⟨-, hr3, hr4, hr5⟩ := hr2
    rw [← strips_map] at hr5
    obtain ⟨ca, ta, rfl, hca, -⟩ := strip_list_inv hr3
    obtain ⟨cb, tb, rfl, hcb, -⟩ := strip_list_inv hr4
    have hrl : rs'.length + 3 = (l.length - i) * 3 := by
      have := congrArg List.length hr5
      rw [strips_length, flat_len nc 3 nc_len, List.length_drop] at this
      omega
    obtain ⟨j, t0, rfl⟩ := own_of hso
    have hlen : ∀ x y z : PV, (ds ++ x :: y :: z :: rs').length = l.length * 3 := fun x y z => by rw [List.length_append, hd1]; simp only [List.length_cons]; omega
    have hl0 := hlen c (.list l[i].labels.length ca ta) (.list l[i].fields.length cb tb)
    have hl1 := hlen (I m) (.list l[i].labels.length ca ta) (.list l[i].fields.length cb tb)
    simp (disch := omega) only [↓pa, pb, pmy, ↓reduceIte, Nat.reduceEqDiff, reduceCtorEq, f0, f1, f5, h, pmu, Nat.add_zero]
    refine RunsTo_poke (X := []) (Y := []) hd1.symm (by omega) hso hnp hTk ⟨rfl, rfl, rfl⟩ (fun hso' hnp' hTk' => ?_)
    have hbk := fun cs' E' => @bk_poke l.length j t0 E' (i * 3) ds (.list l[i].labels.length ca ta :: .list l[i].fields.length cb tb :: rs') cs' c (I m) hd1.symm
    have hp1 : partP (ds ++ I m :: .list l[i].labels.length ca ta :: .list l[i].fields.length cb tb :: rs') (i * 3 + 1) 1 false = some (.list l[i].labels.length ca ta) := by
      have := @partP_at (ds ++ [I m]) (.list l[i].fields.length cb tb :: rs') (.list l[i].labels.length ca ta) (i * 3 + 1) (by rw [List.length_append, hd1]; rfl)
      rw [List.append_assoc] at this
      exact this
    simp (disch := omega) only [↓pa, pb, natP, ↓reduceIte, Nat.reduceEqDiff, reduceCtorEq, f0, f1, f5, pmu, hbk, hp1]
    have hcat1 : ds ++ I m :: .list l[i].labels.length ca ta :: .list l[i].fields.length cb tb :: rs' = (ds ++ [I m]) ++ .list l[i].labels.length ca ta :: (.list l[i].fields.length cb tb :: rs') := by simp
    rw [hcat1] at hso' hnp' hTk'
    have la : ca.length = l[i].labels.length := by rw [← strips_length, hca, List.length_map]
    have lb : cb.length = l[i].fields.length * 2 := by rw [← strips_length, hcb, fs_len]
    refine RunsTo_UIn (sz := 1) (X := []) (Y := []) (c_markT K (m + 1) l[i].labels.length (by omega) (solid_in hso') (np_in hnp') la (TokOK_in hTk')) (by omega) (by decide) (fun e => by rw [e]; rfl) hso' hnp' hTk' hfl (fun p ns' q hu k1 k2 k3 k5 k6 => ?_)
    rw [← hcat1] at k1
    have hl2 : (ds ++ [I m] ++ q :: .list l[i].fields.length cb tb :: rs').length = l.length * 3 := by rw [List.length_append, List.length_append, hd1]; simp only [List.length_cons, List.length_nil]; omega
    have hcat2 : ds ++ [I m] ++ q :: .list l[i].fields.length cb tb :: rs' = (ds ++ [I m, q]) ++ .list l[i].fields.length cb tb :: rs' := by simp
    have hp2 : partP (ds ++ [I m] ++ q :: .list l[i].fields.length cb tb :: rs') (i * 3 + 2) 1 false = some (.list l[i].fields.length cb tb) := by
      rw [hcat2]
      exact partP_at (by rw [List.length_append, hd1]; rfl)
    simp (disch := omega) only [↓pa, pb, ↓reduceIte, Nat.reduceEqDiff, reduceCtorEq, f0, f5, pmu, hbk, hu, k1, hp2]
    rw [hcat2] at k2 k3 k6
    refine RunsTo_UIn (sz := 2) (X := []) (Y := []) (c_markF K (m + 1 + l[i].labels.length) l[i].fields.length (by omega) (solid_in k2) (np_in k3) lb (TokOK_in k6)) lb (by decide) (fun e => by rw [e]; rfl) k2 k3 k6 hfl (fun p2 ns2 q2 hu2 j1 j2 j3 j5 j6 => ?_)
    rw [← hcat2] at j1
    simp (disch := omega) only [↓pa, pb, natP, ↓reduceIte, Nat.reduceEqDiff, reduceCtorEq, f0, f5, pmu, hbk, k1, hu2, j1]
    have hcat : ds ++ [I m, q, q2] ++ rs' = ds ++ [I m, q] ++ q2 :: rs' := by simp
    refine ⟨l.length - (i + 1), by omega, i + 1, ds ++ [I m, q, q2], rs', rfl, by omega, by rw [hcat], by rw [hkk], rfl, by simp only [List.length_append, hd1, List.length_cons, List.length_nil]; omega, ?_, hr5, by rw [hcat]; exact j3, by rw [hcat]; exact j2, by rw [hcat]; exact j6, hfl⟩
    rw [strips_append, hd2, hkm, List.flatMap_append]
    simp only [pmz, k5, j5, nc, List.flatMap_cons, List.flatMap_nil, List.append_nil, TX, FX, mkT_len, mkF_len]
  · have hie : l.take i = l := List.take_of_length_le (by omega)
    have hdr : l.drop i = [] := List.drop_of_length_le (by omega)
    rw [hdr] at hr2
    have hrn : rs = [] := List.eq_nil_of_length_eq_zero (by rw [← strips_length, hr2]; rfl)
    subst hrn
    rw [List.append_nil] at hnp hso hTk f0
    rw [hie] at hd2 f1
    simp (disch := omega) only [↓pa, pb, ↓reduceIte, Nat.reduceEqDiff, reduceCtorEq, f0, f1, h, pmu]
    refine ⟨_, rfl, rfl, hnp, hso, by simpa using hTk, rfl, ?_⟩
    rw [strip_list, hd2]
set_option maxHeartbeats 8000000 in
theorem c_markE (K : Env cf) (k : Nat) (l : List Eg) (hk : endE (l.map she) k ≤ 1000000000000) {cs : List PV} {tk : Tok} (hs : solid (.list l.length cs tk) = true) (hL : Like ec 5 l cs) (hT : TokOK st (toks (.list l.length cs tk))) :
    ∃ p ns, uP cf 51 [.list l.length cs tk, I k] st = some (I (endE (l.map she) k : Nat), p, mvS ((toks (.list l.length cs tk)).map (·.1)) ns st) ∧ Fresh st.nx ns p ∧ strip p = .list l.length ((mkE (l.map she) k).flatMap ec) .no ∧ takes [.list l.length cs tk, I k] [0] st = (toks (.list l.length cs tk)).map (·.1) := by
  refine c_valU K.tab (f := 51) (F := FB51) (t := 4) rfl rfl rfl hs hL.np hT (lb rfl) (l.length + 1) (fun cs0 tk0 ns h1 h2 h3 h4 h5 => ?_)
  have hcl : cs0.length = l.length * 5 := by rw [h2, hL.len]
  have hst : strips cs0 = l.flatMap ec := by rw [h1, hL.st]
  have hN : l.length ≤ 1000000000000 := by have := endE_len (l.map she) k; rw [List.length_map] at this; omega
  clear hs hL hT h1 h2
  unfold FB51 qr qd qm qi qb qk ql qf qo qe
  simp (disch := omega) only [↓pa]
  refine Wp_rounds (fun q fr st => ∃ (i : Nat) (ds rs : List PV), q = l.length - i ∧ i ≤ l.length ∧ fr 0 = .list l.length (ds ++ rs) tk0 ∧ fr 1 = I (endE ((l.take i).map she) k : Nat) ∧ fr 5 = I i ∧ ds.length = i * 5 ∧ strips ds = (mkE ((l.take i).map she) k).flatMap ec ∧ strips rs = (l.drop i).flatMap ec ∧ nps (ds ++ rs) = true ∧ solid (.list l.length (ds ++ rs) tk0) = true ∧ TokOK st ([] ++ toks (.list l.length (ds ++ rs) tk0) ++ []) ∧ st.fl = 0) l.length (by omega)
    ⟨0, [], cs0, by simp, by omega, by simp (disch := omega) only [↓pa, pmy, ↓reduceIte, reduceCtorEq] <;> simp, by simp (disch := omega) only [↓pa, ↓reduceIte, Nat.reduceEqDiff] <;> simp [endE], by simp (disch := omega) only [↓pa, ↓reduceIte] <;> rfl, rfl, rfl, hst, by simpa using h3, by simpa using h4, by simpa using h5, rfl⟩ ?_
  rintro q fr st ⟨i, ds, rs, rfl, hi, f0, f1, f5, hd1, hd2, hr2, hnp, hso, hTk, hfl⟩
  simp (disch := omega) only [↓pa, pb, natP, ↓reduceIte, Nat.reduceEqDiff, reduceCtorEq, f0, f5]
  refine Cnd_intro (fun h => ?_) (fun h => ?_)
  · have hlt : i < l.length := h
    rw [List.drop_eq_getElem_cons hlt, List.flatMap_cons] at hr2
    have hkk : endE ((l.take (i + 1)).map she) k = endE ((l.take i).map she) k + 4 + 2 * l[i].fields.length := by
      rw [List.take_succ_eq_append_getElem hlt, List.map_append]; exact (mkE_snoc _ _ _).2
    have hkm : mkE ((l.take (i + 1)).map she) k = mkE ((l.take i).map she) k ++ [⟨endE ((l.take i).map she) k, mt (endE ((l.take i).map she) k + 1), (endE ((l.take i).map she) k + 2 : Nat), (endE ((l.take i).map she) k + 3 : Nat), mkF (endE ((l.take i).map she) k + 4) l[i].fields.length⟩] := by
      rw [List.take_succ_eq_append_getElem hlt, List.map_append]; exact (mkE_snoc _ _ _).1
    have hkl : endE ((l.take (i + 1)).map she) k ≤ endE (l.map she) k := by
      have e : l.map she = (l.take (i + 1)).map she ++ (l.drop (i + 1)).map she := by rw [← List.map_append, List.take_append_drop]
      rw [e, endE_app]; exact endE_le _ _
    generalize hm : endE ((l.take i).map she) k = m at *
    obtain ⟨c0, c1, c2, c3, c4, rs', rfl⟩ : ∃ c0 c1 c2 c3 c4 rs', rs = c0 :: c1 :: c2 :: c3 :: c4 :: rs' := by
      have hlen : (strips rs).length = 5 + ((l.drop (i + 1)).flatMap ec).length := by rw [hr2, List.length_append, ec_len]
      rw [strips_length] at hlen
      match rs, hlen with
      | [], h => simp at h; omega
      | [_], h => simp at h; omega
      | [_, _], h => simp at h; omega
      | [_, _, _], h => simp at h; omega
      | [_, _, _, _], h => simp at h; omega
      | c0 :: c1 :: c2 :: c3 :: c4 :: rs', _ => exact ⟨c0, c1, c2, c3, c4, rs', rfl⟩
    simp only [strips_map, List.map_cons, ec, List.cons_append, List.nil_append, List.cons.injEq] at hr2
    obtain ⟨-, -, -, -, hr4, hr5⟩ := hr2
    rw [← strips_map] at hr5
    obtain ⟨cb, tb, rfl, hcb, -⟩ := strip_list_inv hr4
    have hrl : rs'.length + 5 = (l.length - i) * 5 := by
      have := congrArg List.length hr5
      rw [strips_length, flat_len ec 5 ec_len, List.length_drop] at this
      omega
    obtain ⟨j, t0, rfl⟩ := own_of hso
    have lb : cb.length = l[i].fields.length * 2 := by rw [← strips_length, hcb, fs_len]
    have ht := fun st => c_markText (st := st) K (m + 1) (by omega)
    have len : ∀ (a : List PV) (b : PV) (c : List PV), a.length + (c.length + 1) = l.length * 5 → (a ++ b :: c).length = l.length * 5 := fun a b c h => by rw [List.length_append, List.length_cons]; exact h
    have l0 := len ds c0 (c1 :: c2 :: c3 :: .list l[i].fields.length cb tb :: rs') (by simp only [List.length_cons]; omega)
    simp (disch := omega) only [↓pa, pb, pmy, ↓reduceIte, Nat.reduceEqDiff, reduceCtorEq, f0, f1, f5, h, pmu, Nat.add_zero]
    refine RunsTo_poke (X := []) (Y := []) hd1.symm (by omega) hso hnp hTk ⟨rfl, rfl, rfl⟩ (fun hso1 hnp1 hT1 => ?_)
    have b1 := fun cs' E' => @bk_poke l.length j t0 E' (i * 5) ds (c1 :: c2 :: c3 :: .list l[i].fields.length cb tb :: rs') cs' c0 (I m) hd1.symm
    have e1 : ds ++ I m :: c1 :: c2 :: c3 :: .list l[i].fields.length cb tb :: rs' = (ds ++ [I m]) ++ c1 :: c2 :: c3 :: .list l[i].fields.length cb tb :: rs' := by simp
    rw [e1] at b1 hso1 hnp1 hT1
    have o1 : i * 5 + 1 = (ds ++ [I m]).length := by rw [List.length_append, hd1]; rfl
    have l1 := len (ds ++ [I m]) c1 (c2 :: c3 :: .list l[i].fields.length cb tb :: rs') (by simp only [List.length_append, List.length_cons, List.length_nil]; omega)
    simp (disch := omega) only [↓pa, pb, pmy, natP, ↓reduceIte, Nat.reduceEqDiff, reduceCtorEq, f0, f1, f5, pmu, b1, ht]
    refine RunsTo_poke (X := []) (Y := []) o1 (by omega) hso1 hnp1 hT1 ⟨rfl, rfl, rfl⟩ (fun hso2 hnp2 hT2 => ?_)
    have b2 := fun cs' E' => @bk_poke l.length j t0 E' (i * 5 + 1) (ds ++ [I m]) (c2 :: c3 :: .list l[i].fields.length cb tb :: rs') cs' c1 (S (mt (m + 1))) o1
    have e2 : ds ++ [I m] ++ S (mt (m + 1)) :: c2 :: c3 :: .list l[i].fields.length cb tb :: rs' = (ds ++ [I m, S (mt (m + 1))]) ++ c2 :: c3 :: .list l[i].fields.length cb tb :: rs' := by simp
    rw [e2] at b2 hso2 hnp2 hT2
    have o2 : i * 5 + 2 = (ds ++ [I m, S (mt (m + 1))]).length := by rw [List.length_append, hd1]; rfl
    have l2 := len (ds ++ [I m, S (mt (m + 1))]) c2 (c3 :: .list l[i].fields.length cb tb :: rs') (by simp only [List.length_append, List.length_cons, List.length_nil]; omega)
    simp (disch := omega) only [↓pa, pb, pmy, natP, ↓reduceIte, Nat.reduceEqDiff, reduceCtorEq, f0, f5, pmu, b1, b2]
    refine RunsTo_poke (X := []) (Y := []) o2 (by omega) hso2 hnp2 hT2 ⟨rfl, rfl, rfl⟩ (fun hso3 hnp3 hT3 => ?_)
    have b3 := fun cs' E' => @bk_poke l.length j t0 E' (i * 5 + 2) (ds ++ [I m, S (mt (m + 1))]) (c3 :: .list l[i].fields.length cb tb :: rs') cs' c2 (I (m + 2 : Nat)) o2
    have e3 : ds ++ [I m, S (mt (m + 1))] ++ I (m + 2 : Nat) :: c3 :: .list l[i].fields.length cb tb :: rs' = (ds ++ [I m, S (mt (m + 1)), I (m + 2 : Nat)]) ++ c3 :: .list l[i].fields.length cb tb :: rs' := by simp
    rw [e3] at b3 hso3 hnp3 hT3
    have o3 : i * 5 + 3 = (ds ++ [I m, S (mt (m + 1)), I (m + 2 : Nat)]).length := by rw [List.length_append, hd1]; rfl
    have l3 := len (ds ++ [I m, S (mt (m + 1)), I (m + 2 : Nat)]) c3 (.list l[i].fields.length cb tb :: rs') (by simp only [List.length_append, List.length_cons, List.length_nil]; omega)
    simp (disch := omega) only [↓pa, pb, pmy, natP, ↓reduceIte, Nat.reduceEqDiff, reduceCtorEq, f0, f5, pmu, b1, b2, b3]
    refine RunsTo_poke (X := []) (Y := []) o3 (by omega) hso3 hnp3 hT3 ⟨rfl, rfl, rfl⟩ (fun hso4 hnp4 hT4 => ?_)
    have b4 := fun cs' E' => @bk_poke l.length j t0 E' (i * 5 + 3) (ds ++ [I m, S (mt (m + 1)), I (m + 2 : Nat)]) (.list l[i].fields.length cb tb :: rs') cs' c3 (I (m + 3 : Nat)) o3
    have e4 : ds ++ [I m, S (mt (m + 1)), I (m + 2 : Nat)] ++ I (m + 3 : Nat) :: .list l[i].fields.length cb tb :: rs' = (ds ++ [I m, S (mt (m + 1)), I (m + 2 : Nat), I (m + 3 : Nat)]) ++ .list l[i].fields.length cb tb :: rs' := by simp
    rw [e4] at b4 hso4 hnp4 hT4
    have hp4 : partP (ds ++ [I m, S (mt (m + 1)), I (m + 2 : Nat), I (m + 3 : Nat)] ++ .list l[i].fields.length cb tb :: rs') (i * 5 + 4) 1 false = some (.list l[i].fields.length cb tb) := partP_at (by rw [List.length_append, hd1]; rfl)
    have l4 := len (ds ++ [I m, S (mt (m + 1)), I (m + 2 : Nat), I (m + 3 : Nat)]) (.list l[i].fields.length cb tb) rs' (by simp only [List.length_append, List.length_cons, List.length_nil]; omega)
    simp (disch := omega) only [↓pa, pb, natP, ↓reduceIte, Nat.reduceEqDiff, reduceCtorEq, f0, f5, pmu, b1, b2, b3, b4, hp4]
    refine RunsTo_UIn (sz := 2) (X := []) (Y := []) (c_markF K (m + 4) l[i].fields.length (by omega) (solid_in hso4) (np_in hnp4) lb (TokOK_in hT4)) lb (by decide) (fun e => by rw [e]; rfl) hso4 hnp4 hT4 hfl (fun p2 ns2 q2 hu2 j1 j2 j3 j5 j6 => ?_)
    simp (disch := omega) only [↓pa, pb, natP, ↓reduceIte, Nat.reduceEqDiff, reduceCtorEq, f0, f5, pmu, b1, b2, b3, b4, hu2, j1]
    have hcat : ds ++ [I m, S (mt (m + 1)), I (m + 2 : Nat), I (m + 3 : Nat), q2] ++ rs' = ds ++ [I m, S (mt (m + 1)), I (m + 2 : Nat), I (m + 3 : Nat)] ++ q2 :: rs' := by simp
    refine ⟨l.length - (i + 1), by omega, i + 1, ds ++ [I m, S (mt (m + 1)), I (m + 2 : Nat), I (m + 3 : Nat), q2], rs', rfl, by omega, by rw [hcat], by rw [hkk], rfl, by simp only [List.length_append, hd1, List.length_cons, List.length_nil]; omega, ?_, hr5, by rw [hcat]; exact j3, by rw [hcat]; exact j2, by rw [hcat]; exact j6, hfl⟩
    rw [strips_append, hd2, hkm, List.flatMap_append]
    simp only [pmz, j5, ec, List.flatMap_cons, List.flatMap_nil, List.append_nil, FX, mkF_len]
  · have hie : l.take i = l := List.take_of_length_le (by omega)
    have hdr : l.drop i = [] := List.drop_of_length_le (by omega)
    rw [hdr] at hr2
    have hrn : rs = [] := List.eq_nil_of_length_eq_zero (by rw [← strips_length, hr2]; rfl)
    subst hrn
    rw [List.append_nil] at hnp hso hTk f0
    rw [hie] at hd2 f1
    simp (disch := omega) only [↓pa, pb, ↓reduceIte, Nat.reduceEqDiff, reduceCtorEq, f0, f1, h, pmu]
    refine ⟨_, rfl, rfl, hnp, hso, by simpa using hTk, rfl, ?_⟩
    rw [strip_list, hd2]
def shg (g : Gph) : List (Nat × Nat) × List Nat := (g.nodes.map shp, g.edges.map she)
theorem mkN_len : ∀ (l : List (Nat × Nat)) (k : Nat), (mkN l k).length = l.length
  | [], _ => rfl
  | (a, b) :: l, k => by rw [mkN, List.length_cons, mkN_len l, List.length_cons]
theorem mkE_len : ∀ (l : List Nat) (k : Nat), (mkE l k).length = l.length
  | [], _ => rfl
  | b :: l, k => by rw [mkE, List.length_cons, mkE_len l, List.length_cons]
theorem mkG_snoc : ∀ (l : List (List (Nat × Nat) × List Nat)) (a : List (Nat × Nat)) (b : List Nat) (k : Nat), mkG (l ++ [(a, b)]) k = mkG l k ++ [⟨mkN a (endG l k), mkE b (endN a (endG l k))⟩] ∧ endG (l ++ [(a, b)]) k = endE b (endN a (endG l k))
  | [], a, b, k => ⟨rfl, rfl⟩
  | (x, y) :: l, a, b, k => by
    obtain ⟨h1, h2⟩ := mkG_snoc l a b (endE y (endN x k))
    exact ⟨by simp only [List.cons_append, mkG, endG, h1], by simp only [List.cons_append, endG, h2]⟩
theorem endG_app : ∀ (l m : List (List (Nat × Nat) × List Nat)) (k : Nat), endG (l ++ m) k = endG m (endG l k)
  | [], _, _ => rfl
  | (x, y) :: l, m, k => by rw [List.cons_append, endG, endG, endG_app l m]
theorem Like_of {α : Type} {enc : α → List PV} {m : Nat} (hm : ∀ a, (enc a).length = m) {l : List α} {cs : List PV} (h : strips cs = l.flatMap enc) (hn : nps cs = true) : Like enc m l cs :=
  ⟨by rw [← strips_length, h, flat_len enc m hm], h, hn⟩
set_option maxHeartbeats 8000000 in
theorem c_markGS (K : Env cf) (k : Nat) (l : List Gph) (hN : l.length ≤ 1000000000000) (hk : endG (l.map shg) k ≤ 1000000000000) {cs : List PV} {tk : Tok} (hs : solid (.list l.length cs tk) = true) (hL : Like gc 2 l cs) (hT : TokOK st (toks (.list l.length cs tk))) :
    ∃ p ns, uP cf 15 [.list l.length cs tk, I k] st = some (I (endG (l.map shg) k : Nat), p, mvS ((toks (.list l.length cs tk)).map (·.1)) ns st) ∧ Fresh st.nx ns p ∧ strip p = .list l.length ((mkG (l.map shg) k).flatMap gc) .no ∧ takes [.list l.length cs tk, I k] [0] st = (toks (.list l.length cs tk)).map (·.1) := by
  refine c_valU K.tab (f := 15) (F := FB15) (t := 4) rfl rfl rfl hs hL.np hT (lb rfl) (l.length + 1) (fun cs0 tk0 ns h1 h2 h3 h4 h5 => ?_)
  have hcl : cs0.length = l.length * 2 := by rw [h2, hL.len]
  have hst : strips cs0 = l.flatMap gc := by rw [h1, hL.st]
  clear hs hL hT h1 h2
  unfold FB15 qr qd qm qi qb qk ql qf qo
  simp (disch := omega) only [↓pa]
  refine Wp_rounds (fun q fr st => ∃ (i : Nat) (ds rs : List PV), q = l.length - i ∧ i ≤ l.length ∧ fr 0 = .list l.length (ds ++ rs) tk0 ∧ fr 1 = I (endG ((l.take i).map shg) k : Nat) ∧ fr 5 = I i ∧ ds.length = i * 2 ∧ strips ds = (mkG ((l.take i).map shg) k).flatMap gc ∧ strips rs = (l.drop i).flatMap gc ∧ nps (ds ++ rs) = true ∧ solid (.list l.length (ds ++ rs) tk0) = true ∧ TokOK st ([] ++ toks (.list l.length (ds ++ rs) tk0) ++ []) ∧ st.fl = 0) l.length (by omega)
    ⟨0, [], cs0, by simp, by omega, by simp (disch := omega) only [↓pa, pmy, ↓reduceIte, reduceCtorEq] <;> simp, by simp (disch := omega) only [↓pa, ↓reduceIte, Nat.reduceEqDiff] <;> simp [endG], by simp (disch := omega) only [↓pa, ↓reduceIte] <;> rfl, rfl, rfl, hst, by simpa using h3, by simpa using h4, by simpa using h5, rfl⟩ ?_
  rintro q fr st ⟨i, ds, rs, rfl, hi, f0, f1, f5, hd1, hd2, hr2, hnp, hso, hTk, hfl⟩
  simp (disch := omega) only [↓pa, pb, natP, ↓reduceIte, Nat.reduceEqDiff, reduceCtorEq, f0, f5]
  refine Cnd_intro (fun h => ?_) (fun h => ?_)
  · have hlt : i < l.length := h
    rw [List.drop_eq_getElem_cons hlt, List.flatMap_cons] at hr2
    have hkk : endG ((l.take (i + 1)).map shg) k = endE (l[i].edges.map she) (endN (l[i].nodes.map shp) (endG ((l.take i).map shg) k)) := by
      rw [List.take_succ_eq_append_getElem hlt, List.map_append]; exact (mkG_snoc _ _ _ _).2
    have hkm : mkG ((l.take (i + 1)).map shg) k = mkG ((l.take i).map shg) k ++ [⟨mkN (l[i].nodes.map shp) (endG ((l.take i).map shg) k), mkE (l[i].edges.map she) (endN (l[i].nodes.map shp) (endG ((l.take i).map shg) k))⟩] := by
      rw [List.take_succ_eq_append_getElem hlt, List.map_append]; exact (mkG_snoc _ _ _ _).1
    have hkl : endG ((l.take (i + 1)).map shg) k ≤ endG (l.map shg) k := by
      have e : l.map shg = (l.take (i + 1)).map shg ++ (l.drop (i + 1)).map shg := by rw [← List.map_append, List.take_append_drop]
      rw [e, endG_app]; exact endG_le _ _
    generalize hm : endG ((l.take i).map shg) k = m at *
    have hnm := endE_le (l[i].edges.map she) (endN (l[i].nodes.map shp) m)
    generalize hm2 : endN (l[i].nodes.map shp) m = m2 at *
    obtain ⟨c, d, rs', rfl⟩ : ∃ c d rs', rs = c :: d :: rs' := by
      have hlen : (strips rs).length = 2 + ((l.drop (i + 1)).flatMap gc).length := by rw [hr2, List.length_append, gc_len]
      rw [strips_length] at hlen
      match rs, hlen with
      | [], h => simp at h; omega
      | [c], h => simp at h; omega
      | c :: d :: rs', _ => exact ⟨c, d, rs', rfl⟩
    simp only [strips_map, List.map_cons, gc, List.cons_append, List.nil_append, List.cons.injEq] at hr2
    obtain ⟨hr3, hr4, hr5⟩ := hr2
    rw [← strips_map] at hr5
    obtain ⟨ca, ta, rfl, hca, -⟩ := strip_list_inv hr3
    obtain ⟨cb, tb, rfl, hcb, -⟩ := strip_list_inv hr4
    have hrl : rs'.length + 2 = (l.length - i) * 2 := by
      have := congrArg List.length hr5
      rw [strips_length, flat_len gc 2 gc_len, List.length_drop] at this
      omega
    obtain ⟨j, t0, rfl⟩ := own_of hso
    have len : ∀ (a : List PV) (b : PV) (c : List PV), a.length + (c.length + 1) = l.length * 2 → (a ++ b :: c).length = l.length * 2 := fun a b c h => by rw [List.length_append, List.length_cons]; exact h
    have l0 := len ds (.list l[i].nodes.length ca ta) (.list l[i].edges.length cb tb :: rs') (by simp only [List.length_cons]; omega)
    have hp0 : partP (ds ++ .list l[i].nodes.length ca ta :: .list l[i].edges.length cb tb :: rs') (i * 2) 1 false = some (.list l[i].nodes.length ca ta) := partP_at hd1
    have hLa : Like nc 3 l[i].nodes ca := Like_of nc_len hca (np_in hnp)
    simp (disch := omega) only [↓pa, pb, ↓reduceIte, Nat.reduceEqDiff, reduceCtorEq, f0, f1, f5, h, pmu, Nat.add_zero, hp0]
    have hmN := c_markN (st := st) K m l[i].nodes (by rw [hm2]; omega) (solid_in hso) hLa (TokOK_in hTk)
    rw [hm2] at hmN
    refine RunsTo_UIn (sz := 3) (X := []) (Y := []) hmN hLa.len (by decide) (fun e => by have : l[i].nodes = [] := List.eq_nil_of_length_eq_zero e; rw [this]; rfl) hso hnp hTk hfl (fun p ns' q hu k1 k2 k3 k5 k6 => ?_)
    have hcat1 : ds ++ q :: .list l[i].edges.length cb tb :: rs' = (ds ++ [q]) ++ .list l[i].edges.length cb tb :: rs' := by simp
    rw [hcat1] at k1 k2 k3 k6
    have hp1 : partP (ds ++ [q] ++ .list l[i].edges.length cb tb :: rs') (i * 2 + 1) 1 false = some (.list l[i].edges.length cb tb) := partP_at (by rw [List.length_append, hd1]; rfl)
    have l1 := len (ds ++ [q]) (.list l[i].edges.length cb tb) rs' (by simp only [List.length_append, List.length_cons, List.length_nil]; omega)
    have hLb : Like ec 5 l[i].edges cb := Like_of ec_len hcb (np_in k3)
    simp (disch := omega) only [↓pa, pb, ↓reduceIte, Nat.reduceEqDiff, reduceCtorEq, f0, f5, pmu, hu, k1, hp1]
    refine RunsTo_UIn (sz := 5) (X := []) (Y := []) (c_markE K m2 l[i].edges (by omega) (solid_in k2) hLb (TokOK_in k6)) hLb.len (by decide) (fun e => by have : l[i].edges = [] := List.eq_nil_of_length_eq_zero e; rw [this]; rfl) k2 k3 k6 hfl (fun p2 ns2 q2 hu2 j1 j2 j3 j5 j6 => ?_)
    simp (disch := omega) only [↓pa, pb, natP, ↓reduceIte, Nat.reduceEqDiff, reduceCtorEq, f0, f5, pmu, k1, hu2, j1]
    have hcat : ds ++ [q, q2] ++ rs' = ds ++ [q] ++ q2 :: rs' := by simp
    refine ⟨l.length - (i + 1), by omega, i + 1, ds ++ [q, q2], rs', rfl, by omega, by rw [hcat], by rw [hkk], rfl, by simp only [List.length_append, hd1, List.length_cons, List.length_nil]; omega, ?_, hr5, by rw [hcat]; exact j3, by rw [hcat]; exact j2, by rw [hcat]; exact j6, hfl⟩
    rw [strips_append, hd2, hkm, List.flatMap_append]
    simp only [pmz, k5, j5, gc, List.flatMap_cons, List.flatMap_nil, List.append_nil, NX, EX, mkN_len, mkE_len, List.length_map]
  · have hie : l.take i = l := List.take_of_length_le (by omega)
    have hdr : l.drop i = [] := List.drop_of_length_le (by omega)
    rw [hdr] at hr2
    have hrn : rs = [] := List.eq_nil_of_length_eq_zero (by rw [← strips_length, hr2]; rfl)
    subst hrn
    rw [List.append_nil] at hnp hso hTk f0
    rw [hie] at hd2 f1
    simp (disch := omega) only [↓pa, pb, ↓reduceIte, Nat.reduceEqDiff, reduceCtorEq, f0, f1, h, pmu]
    refine ⟨_, rfl, rfl, hnp, hso, by simpa using hTk, rfl, ?_⟩
    rw [strip_list, hd2]
section
variable {f : Nat} {F : CFn} {cs rest : List PV} {rs : List CRes}
theorem movedAll_agg (hr : rest.all plainArg = true) : movedAll [0] (.agg cs :: rest) [] = tokss cs := by
  have h : boxToks (boxMv [0] 0 (.agg cs :: rest)) [] = [] := by cases boxMv [0] 0 (.agg cs :: rest) <;> rfl
  rw [movedAll, h, moved, moved_rest _ _ (by omega)]
  simp [toks]
theorem callP_mvA (hn : nps cs = true) (hk : TokOK st (tokss cs)) (hr : rest.all plainArg = true) (hsp : spare ((tokss cs).map (·.1)) [0] 1 rest = true) {r : PV} {ns : List Nat}
    (hc : cf f (ren (idxIn ((tokss cs).map (·.1))) false (.agg cs) :: rest.map strip) ((tokss cs).map (·.2)) [] = some (r, ns, [])) (hs : solid r = true) :
    callP cf f (.agg cs :: rest) [0] st = some (ren (fun k => some (st.nx + k)) false r, mvS ((tokss cs).map (·.1)) ns st) ∧ takes (.agg cs :: rest) [0] st = (tokss cs).map (·.1) := by
  have hn' : np (.agg cs) = true := hn
  have hkeys : keysOf (.agg cs :: rest) = some [] := by
    rw [keysOf, if_pos hn']
    · exact keysOf_plain hr
    · intros; contradiction
  have hm := movedAll_agg (cs := cs) hr
  have hb : boxOn ((tokss cs).map (·.1)) (boxMv [0] 0 (.agg cs :: rest)) [] = [] := by cases boxMv [0] 0 (.agg cs :: rest) <;> rfl
  have hbs : ∀ J l, boxSpare J l [] = true := by intro J l; cases l <;> rfl
  have hh : handOn ((tokss cs).map (·.1)) [0] 0 0 (.agg cs :: rest) = ren (idxIn ((tokss cs).map (·.1))) false (.agg cs) :: rest.map strip := by
    rw [handOn, handOn_rest _ _ _ _ (by omega) hr]
    · rfl
    · intros; contradiction
  have hs2 : spare ((tokss cs).map (·.1)) [0] 0 (.agg cs :: rest) = true := by rw [spare, hsp]; rfl
  constructor
  · simp only [callP, hkeys, getAll, hm, nodupB_ck hk.1, hk.ok, hs2, hbs, hb, Bool.and_self, if_true, hh, hc, solid_closed r hs, List.all_nil, List.length_nil, setAll]
    rfl
  · simp only [takes, hkeys, getAll, hm]
theorem run_val {as : List PV} (hres : F.res = rs) (hown : F.own = false) (hnt : as.length ≤ F.nt) (N : Nat) {ns : List Nat} {v : PV} (h : Wp cf N F.body (frame as, stB ns []) (EndsV rs (· = v))) : runFn cf N F as ns [] = some (v, [], []) := by
  obtain ⟨e, ⟨fr, s1⟩, hev, he, ho⟩ := h
  subst hres
  revert ho
  generalize hps : ressP fr s1 F.res = o1
  intro ho
  match o1, ho with
  | some ps0, ho =>
    obtain ⟨hp, -, hQ⟩ := ho
    have hf := finish_gen (n := 0) (cs0 := []) hown hps hp rfl rfl
    rw [hQ] at hf
    unfold runFn
    rw [if_pos ⟨hnt, Nat.zero_le _⟩, hev]
    cases e with
    | go => exact hf
    | ret => exact hf
    | exit i => exact he.elim
end
set_option maxHeartbeats 4000000 in
theorem c_markG (K : Env cf) (k : Nat) (g : Gph) (hk : endE (g.edges.map she) (endN (g.nodes.map shp) k) ≤ 1000000000000) {cs : List PV} (hst : strips cs = gc g) (hs : solids cs = true) (hn : nps cs = true) (hT : TokOK st (tokss cs)) :
    callP cf 14 [.agg cs, I k] [0] st = some (I (endE (g.edges.map she) (endN (g.nodes.map shp) k) : Nat), mvS ((tokss cs).map (·.1)) [] st) ∧ takes [.agg cs, I k] [0] st = (tokss cs).map (·.1) := by
  have hF := fresh_ren (r0 := .agg cs) (by simpa [solid] using hs) hn hT.1 0
  have hF0 := hF.2
  have hrr : ren (idxIn ((tokss cs).map (·.1))) false (.agg cs) = .agg (rens (idxIn ((tokss cs).map (·.1))) false cs) := by simp [ren]
  have htt : toks (.agg cs) = tokss cs := by simp [toks]
  rw [htt, hrr] at hF0
  have hst0 : strips (rens (idxIn ((tokss cs).map (·.1))) false cs) = gc g := by rw [strips_rens]; exact hst
  have hTB : TokOK (stB ((tokss cs).map (·.2)) []) (tokss (rens (idxIn ((tokss cs).map (·.1))) false cs)) := by
    have := hF0.tk
    simp only [toks] at this
    rw [this]
    exact ⟨fun j => enum_ck j _, fun q hq => by have := enum_mem hq; exact ⟨by simpa [stB] using this.2.1, by simpa [stB] using this.2.2, Nat.zero_le _⟩⟩
  have hso0 : solids (rens (idxIn ((tokss cs).map (·.1))) false cs) = true := by simpa [solid] using hF0.so
  have hnp0 : nps (rens (idxIn ((tokss cs).map (·.1))) false cs) = true := hF0.np
  generalize hc0 : rens (idxIn ((tokss cs).map (·.1))) false cs = c0 at *
  have hrun : runFn cf 1 F14 [.agg c0, I k] ((tokss cs).map (·.2)) [] = some (I (endE (g.edges.map she) (endN (g.nodes.map shp) k) : Nat), [], []) := by
    refine run_val (rs := [.tmp 4]) rfl rfl (lb rfl) 1 ?_
    obtain ⟨c, d, rfl⟩ : ∃ c d, c0 = [c, d] := by
      have := congrArg List.length hst0
      rw [strips_length] at this
      match c0, this with
      | [c, d], _ => exact ⟨c, d, rfl⟩
    simp only [strips_map, List.map_cons, List.map_nil, gc, List.cons.injEq, and_true] at hst0
    obtain ⟨hr3, hr4⟩ := hst0
    obtain ⟨ca, ta, rfl, hca, -⟩ := strip_list_inv hr3
    obtain ⟨cb, tb, rfl, hcb, -⟩ := strip_list_inv hr4
    simp only [solids, Bool.and_true, Bool.and_eq_true] at hso0
    have hLa : Like nc 3 g.nodes ca := Like_of nc_len hca (by simp only [pmz, Bool.and_true, Bool.and_eq_true] at hnp0; first | exact hnp0.1 | exact hnp0.2)
    have hLb : Like ec 5 g.edges cb := Like_of ec_len hcb (by simp only [pmz, Bool.and_true, Bool.and_eq_true] at hnp0; exact hnp0.2)
    have hnm := endE_le (g.edges.map she) (endN (g.nodes.map shp) k)
    have hTB2 : TokOK (stB ((tokss cs).map (·.2)) []) ([] ++ toks (.list g.nodes.length ca ta) ++ toks (.list g.edges.length cb tb)) := by
      simpa only [tokss, List.append_nil, List.nil_append] using hTB
    unfold F14 qr qm qi ql qf qo
    simp (disch := omega) only [↓pa, pb, pmy, ↓reduceIte, Nat.reduceEqDiff, Nat.reduceAdd, pmu]
    refine RunsTo_U (c_markN K k g.nodes (by omega) hso0.1 hLa (TokOK_setO (TokOK_of' hTB2 (fun j => by simp only [ck_append]; omega) (fun q hq => by simp [hq])))) (fun p ns1 hu hF1 hv htk => ?_)
    have hap := TokOK_apart' hTB2
    have hk1 : killT ((toks (.list g.nodes.length ca ta)).map (·.1)) (.list g.edges.length cb tb) = .list g.edges.length cb tb := killT_solid hso0.2 fun q hq => hap q (by simp [hq])
    have hT2 := TokOK_mv (ns := ns1) (TokOK_setO (s := 2) (c := [.list g.nodes.length ca ta, .list g.edges.length cb tb]) hTB2) (Nat.zero_le _)
    simp (disch := omega) only [↓pa, pb, pmy, ↓reduceIte, Nat.reduceEqDiff, Nat.reduceAdd, pmu, pmm, hk1, hu]
    refine RunsTo_U (c_markE K (endN (g.nodes.map shp) k) g.edges hk hso0.2 hLb (TokOK_of' hT2 (fun j => by simp only [ck_append]; omega) (fun q hq => by simp [hq]))) (fun p2 ns2 hu2 hF2 hv2 htk2 => ?_)
    simp (disch := omega) only [↓pa, pb, pmz, ↓reduceIte, hu2]
  have hcf := K.tab 14 F14 rfl 1 _ _ _ _ hrun
  rw [← hrr] at hcf
  obtain ⟨a, b⟩ := callP_mvA (rest := [I k]) hn hT rfl rfl hcf rfl
  exact ⟨a, b⟩
theorem negN (n : Nat) : (((n : Nat) : Int) < 0) = False := eq_false (by omega)
theorem mkF_at {k n i : Nat} (h : i < (mkF k n).length) : (mkF k n)[i] = (mt (k + 2 * i), mt (k + 2 * i + 1)) := by simp [mkF]
theorem mkN_at : ∀ (l : List (Nat × Nat)) (k i : Nat) (h : i < (mkN l k).length) (h' : i < l.length), (mkN l k)[i] = ⟨endN (l.take i) k, mkT (endN (l.take i) k + 1) l[i].1, mkF (endN (l.take i) k + 1 + l[i].1) l[i].2⟩ ∧ endN (l.take (i + 1)) k = endN (l.take i) k + 1 + l[i].1 + 2 * l[i].2
  | (a, b) :: l, k, 0, _, _ => ⟨rfl, rfl⟩
  | (a, b) :: l, k, i + 1, h, h' => mkN_at l (k + 1 + a + 2 * b) i (by simpa [mkN] using h) (by simpa using h')
theorem mkE_at : ∀ (l : List Nat) (k i : Nat) (h : i < (mkE l k).length) (h' : i < l.length), (mkE l k)[i] = ⟨endE (l.take i) k, mt (endE (l.take i) k + 1), (endE (l.take i) k + 2 : Nat), (endE (l.take i) k + 3 : Nat), mkF (endE (l.take i) k + 4) l[i]⟩ ∧ endE (l.take (i + 1)) k = endE (l.take i) k + 4 + 2 * l[i]
  | b :: l, k, 0, _, _ => ⟨rfl, rfl⟩
  | b :: l, k, i + 1, h, h' => mkE_at l (k + 4 + 2 * b) i (by simpa [mkE] using h) (by simpa using h')
theorem mkG_at : ∀ (l : List (List (Nat × Nat) × List Nat)) (k i : Nat) (h : i < (mkG l k).length) (h' : i < l.length), (mkG l k)[i] = ⟨mkN l[i].1 (endG (l.take i) k), mkE l[i].2 (endN l[i].1 (endG (l.take i) k))⟩ ∧ endG (l.take (i + 1)) k = endE l[i].2 (endN l[i].1 (endG (l.take i) k))
  | (a, b) :: l, k, 0, _, _ => ⟨rfl, rfl⟩
  | (a, b) :: l, k, i + 1, h, h' => mkG_at l (endE b (endN a k)) i (by simpa [mkG] using h) (by simpa using h')
theorem mkG_len : ∀ (l : List (List (Nat × Nat) × List Nat)) (k : Nat), (mkG l k).length = l.length
  | [], _ => rfl
  | (a, b) :: l, k => by rw [mkG, List.length_cons, mkG_len l, List.length_cons]
theorem endN_take (l : List (Nat × Nat)) (i k : Nat) : endN (l.take i) k ≤ endN l k := by
  have e : endN l k = endN (l.drop i) (endN (l.take i) k) := by rw [← endN_app, List.take_append_drop]
  rw [e]; exact endN_le _ _
theorem endE_take (l : List Nat) (i k : Nat) : endE (l.take i) k ≤ endE l k := by
  have e : endE l k = endE (l.drop i) (endE (l.take i) k) := by rw [← endE_app, List.take_append_drop]
  rw [e]; exact endE_le _ _
theorem endG_take (l : List (List (Nat × Nat) × List Nat)) (i k : Nat) : endG (l.take i) k ≤ endG l k := by
  have e : endG l k = endG (l.drop i) (endG (l.take i) k) := by rw [← endG_app, List.take_append_drop]
  rw [e]; exact endG_le _ _
set_option maxHeartbeats 1000000 in
theorem c_heldF (K : Env cf) (k n : Nat) (hk : k + 2 * n ≤ 1000000000000) : callP cf 61 [FX (mkF k n), I k] [] st = some (I (k + 2 * n : Nat), st) := by
  refine c_val K.tab (F := F61) (t := 4) rfl rfl rfl (lb rfl) (by simp [plainV_FX, plainV_int]) (bare_int _ _) (n + 1) ?_
  have hl := mkF_len k n
  have hm : ((mkF k n).flatMap fc).length = n * 2 := by rw [fs_len, hl]
  unfold F61 qr qd qm qi qb qk ql qf qo
  simp (maxSteps := 1000000) (disch := omega) only [↓pa]
  refine Wp_rounds (fun q fr st => ∃ i : Nat, q = n - i ∧ i ≤ n ∧ fr 0 = FX (mkF k n) ∧ fr 1 = I (k + 2 * i : Nat) ∧ fr 5 = I i) n (by omega) ⟨0, by simp, by omega, by simp (maxSteps := 1000000) (disch := omega) only [↓pa, ↓reduceIte, reduceCtorEq], by simp (maxSteps := 1000000) (disch := omega) only [↓pa, ↓reduceIte, Nat.reduceEqDiff, Nat.reduceMul] <;> rfl, by simp (maxSteps := 1000000) (disch := omega) only [↓pa, ↓reduceIte] <;> rfl⟩ ?_
  rintro q fr st ⟨i, rfl, hi, f0, f1, f5⟩
  simp (maxSteps := 1000000) (disch := omega) only [↓pa, pb, natP, ↓reduceIte, Nat.reduceEqDiff, reduceCtorEq, f0, f5, hl]
  refine Cnd_intro (fun h => ?_) (fun h => ?_)
  · have hlt : i < (mkF k n).length := by omega
    have hp0 := partP_flat fc 2 (fun _ => rfl) 0 1 false (by decide) (mkF k n) i hlt
    have hp1 := partP_flat fc 2 (fun _ => rfl) 1 1 false (by decide) (mkF k n) i hlt
    rw [mkF_at hlt] at hp0 hp1
    rw [Nat.add_zero] at hp0
    have ht := fun st => c_markText (st := st) K (k + 2 * i) (by omega)
    have ht2 := fun st => c_markText (st := st) K (k + 2 * i + 1) (by omega)
    simp (maxSteps := 1000000) (disch := omega) only [↓pa, ↓pmw, pb, pmy, pmwk, pmwa, natP, List.getElem?_cons_zero, List.getElem?_cons_succ, ↓reduceIte, Nat.reduceEqDiff, ne_eq, reduceCtorEq, f0, f1, f5, hl, h, Nat.add_zero, hp0, hp1, fc, ht, ht2]
    exact ⟨n - (i + 1), by omega, i + 1, rfl, by omega, by congr 1, rfl⟩
  · have : i = n := by omega
    subst this
    simp (maxSteps := 1000000) (disch := omega) only [↓pa, pb, ↓reduceIte, Nat.reduceEqDiff, f1, h]
set_option maxHeartbeats 1000000 in
theorem c_heldN (K : Env cf) (k : Nat) (l : List (Nat × Nat)) (hk : endN l k ≤ 1000000000000) : callP cf 52 [.list l.length ((mkN l k).flatMap nc) .no, I k] [] st = some (I (endN l k : Nat), st) := by
  have hl := mkN_len l k
  have hpl : plainV (.list l.length ((mkN l k).flatMap nc) .no) := plainV_list (flat_plain nc nc_plain _)
  refine c_val K.tab (F := F52) (t := 4) rfl rfl rfl (lb rfl) (by simp [hpl, plainV_int]) (bare_int _ _) (l.length + 1) ?_
  have hm : ((mkN l k).flatMap nc).length = l.length * 3 := by rw [flat_len nc 3 nc_len, hl]
  have hN := endN_len l k
  unfold F52 qr qd qm qi qb qk ql qf qo
  simp (maxSteps := 1000000) (disch := omega) only [↓pa]
  refine Wp_rounds (fun q fr st => ∃ i : Nat, q = l.length - i ∧ i ≤ l.length ∧ fr 0 = .list l.length ((mkN l k).flatMap nc) .no ∧ fr 1 = I (endN (l.take i) k : Nat) ∧ fr 5 = I i) l.length (by omega) ⟨0, by simp, by omega, by simp (maxSteps := 1000000) (disch := omega) only [↓pa, ↓reduceIte, reduceCtorEq], by simp (maxSteps := 1000000) (disch := omega) only [↓pa, ↓reduceIte, Nat.reduceEqDiff] <;> rfl, by simp (maxSteps := 1000000) (disch := omega) only [↓pa, ↓reduceIte] <;> rfl⟩ ?_
  rintro q fr st ⟨i, rfl, hi, f0, f1, f5⟩
  simp (maxSteps := 1000000) (disch := omega) only [↓pa, pb, natP, ↓reduceIte, Nat.reduceEqDiff, reduceCtorEq, f0, f5]
  refine Cnd_intro (fun h => ?_) (fun h => ?_)
  · have hlt : i < (mkN l k).length := by omega
    have hlt' : i < l.length := by omega
    obtain ⟨ha, he⟩ := mkN_at l k i hlt hlt'
    have hle := endN_take l (i + 1) k
    have hp0 := partP_flat nc 3 nc_len 0 1 false (by decide) (mkN l k) i hlt
    have hp1 := partP_flat nc 3 nc_len 1 1 false (by decide) (mkN l k) i hlt
    have hp2 := partP_flat nc 3 nc_len 2 1 false (by decide) (mkN l k) i hlt
    rw [ha] at hp0 hp1 hp2
    rw [Nat.add_zero] at hp0
    generalize endN (l.take i) k = m at *
    have ht := fun st => c_heldT (st := st) K (m + 1) l[i].1 (by omega)
    have hf := fun st => c_heldF (st := st) K (m + 1 + l[i].1) l[i].2 (by omega)
    simp (maxSteps := 1000000) (disch := omega) only [↓pa, pb, pmy, natP, ↓reduceIte, Nat.reduceEqDiff, ne_eq, reduceCtorEq, f0, f1, f5, h, Nat.add_zero, hp0, hp1, hp2, nc, ht, hf, negN]
    exact ⟨l.length - (i + 1), by omega, i + 1, rfl, by omega, by rw [he], rfl⟩
  · have : l.take i = l := List.take_of_length_le (by omega)
    rw [this] at f1
    simp (maxSteps := 1000000) (disch := omega) only [↓pa, pb, ↓reduceIte, Nat.reduceEqDiff, f1, h]
set_option maxHeartbeats 2000000 in
theorem c_heldE (K : Env cf) (k : Nat) (l : List Nat) (hk : endE l k ≤ 1000000000000) : callP cf 53 [.list l.length ((mkE l k).flatMap ec) .no, I k] [] st = some (I (endE l k : Nat), st) := by
  have hl := mkE_len l k
  have hpl : plainV (.list l.length ((mkE l k).flatMap ec) .no) := plainV_list (flat_plain ec ec_plain _)
  refine c_val K.tab (F := F53) (t := 4) rfl rfl rfl (lb rfl) (by simp [hpl, plainV_int]) (bare_int _ _) (l.length + 1) ?_
  have hm : ((mkE l k).flatMap ec).length = l.length * 5 := by rw [flat_len ec 5 ec_len, hl]
  have hN := endE_len l k
  unfold F53 qr qd qm qi qb qk ql qf qo
  simp (maxSteps := 1000000) (disch := omega) only [↓pa]
  refine Wp_rounds (fun q fr st => ∃ i : Nat, q = l.length - i ∧ i ≤ l.length ∧ fr 0 = .list l.length ((mkE l k).flatMap ec) .no ∧ fr 1 = I (endE (l.take i) k : Nat) ∧ fr 5 = I i) l.length (by omega) ⟨0, by simp, by omega, by simp (maxSteps := 1000000) (disch := omega) only [↓pa, ↓reduceIte, reduceCtorEq], by simp (maxSteps := 1000000) (disch := omega) only [↓pa, ↓reduceIte, Nat.reduceEqDiff] <;> rfl, by simp (maxSteps := 1000000) (disch := omega) only [↓pa, ↓reduceIte] <;> rfl⟩ ?_
  rintro q fr st ⟨i, rfl, hi, f0, f1, f5⟩
  simp (maxSteps := 1000000) (disch := omega) only [↓pa, pb, natP, ↓reduceIte, Nat.reduceEqDiff, reduceCtorEq, f0, f5]
  refine Cnd_intro (fun h => ?_) (fun h => ?_)
  · have hlt : i < (mkE l k).length := by omega
    have hlt' : i < l.length := by omega
    obtain ⟨ha, he⟩ := mkE_at l k i hlt hlt'
    have hle := endE_take l (i + 1) k
    have hp0 := partP_flat ec 5 ec_len 0 1 false (by decide) (mkE l k) i hlt
    have hp1 := partP_flat ec 5 ec_len 1 1 false (by decide) (mkE l k) i hlt
    have hp2 := partP_flat ec 5 ec_len 2 1 false (by decide) (mkE l k) i hlt
    have hp3 := partP_flat ec 5 ec_len 3 1 false (by decide) (mkE l k) i hlt
    have hp4 := partP_flat ec 5 ec_len 4 1 false (by decide) (mkE l k) i hlt
    rw [ha] at hp0 hp1 hp2 hp3 hp4
    rw [Nat.add_zero] at hp0
    generalize endE (l.take i) k = m at *
    have ht := fun st => c_markText (st := st) K (m + 1) (by omega)
    have hf := fun st => c_heldF (st := st) K (m + 4) l[i] (by omega)
    simp (maxSteps := 1000000) (disch := omega) only [↓pa, ↓pmw, pb, pmy, pmwk, pmwa, natP, List.getElem?_cons_zero, List.getElem?_cons_succ, ↓reduceIte, Nat.reduceEqDiff, ne_eq, reduceCtorEq, f0, f1, f5, h, Nat.add_zero, hp0, hp1, hp2, hp3, hp4, ec, ht, hf, negN]
    exact ⟨l.length - (i + 1), by omega, i + 1, rfl, by omega, by rw [he], rfl⟩
  · have : l.take i = l := List.take_of_length_le (by omega)
    rw [this] at f1
    simp (maxSteps := 1000000) (disch := omega) only [↓pa, pb, ↓reduceIte, Nat.reduceEqDiff, f1, h]
set_option maxHeartbeats 2000000 in
theorem c_heldGS (K : Env cf) (k : Nat) (l : List (List (Nat × Nat) × List Nat)) (hN : l.length ≤ 1000000000000) (hk : endG l k ≤ 1000000000000) : callP cf 16 [.list l.length ((mkG l k).flatMap gc) .no, I k] [] st = some (I (endG l k : Nat), st) := by
  have hl := mkG_len l k
  have hpl : plainV (.list l.length ((mkG l k).flatMap gc) .no) := plainV_list (flat_plain gc gc_plain _)
  refine c_val K.tab (F := F16) (t := 4) rfl rfl rfl (lb rfl) (by simp [hpl, plainV_int]) (bare_int _ _) (l.length + 1) ?_
  have hm : ((mkG l k).flatMap gc).length = l.length * 2 := by rw [flat_len gc 2 gc_len, hl]
  unfold F16 qr qd qm qi qb qk ql qf qo
  simp (maxSteps := 1000000) (disch := omega) only [↓pa]
  refine Wp_rounds (fun q fr st => ∃ i : Nat, q = l.length - i ∧ i ≤ l.length ∧ fr 0 = .list l.length ((mkG l k).flatMap gc) .no ∧ fr 1 = I (endG (l.take i) k : Nat) ∧ fr 5 = I i) l.length (by omega) ⟨0, by simp, by omega, by simp (maxSteps := 1000000) (disch := omega) only [↓pa, ↓reduceIte, reduceCtorEq], by simp (maxSteps := 1000000) (disch := omega) only [↓pa, ↓reduceIte, Nat.reduceEqDiff] <;> rfl, by simp (maxSteps := 1000000) (disch := omega) only [↓pa, ↓reduceIte] <;> rfl⟩ ?_
  rintro q fr st ⟨i, rfl, hi, f0, f1, f5⟩
  simp (maxSteps := 1000000) (disch := omega) only [↓pa, pb, natP, ↓reduceIte, Nat.reduceEqDiff, reduceCtorEq, f0, f5]
  refine Cnd_intro (fun h => ?_) (fun h => ?_)
  · have hlt : i < (mkG l k).length := by omega
    have hlt' : i < l.length := by omega
    obtain ⟨ha, he⟩ := mkG_at l k i hlt hlt'
    have hle := endG_take l (i + 1) k
    have hp0 := partP_flat gc 2 gc_len 0 1 false (by decide) (mkG l k) i hlt
    have hp1 := partP_flat gc 2 gc_len 1 1 false (by decide) (mkG l k) i hlt
    rw [ha] at hp0 hp1
    rw [Nat.add_zero] at hp0
    generalize endG (l.take i) k = m at *
    have hmid := endE_le l[i].2 (endN l[i].1 m)
    have hn := fun st => c_heldN (st := st) K m l[i].1 (by omega)
    have hf := fun st => c_heldE (st := st) K (endN l[i].1 m) l[i].2 (by omega)
    simp (maxSteps := 1000000) (disch := omega) only [↓pa, pb, pmy, natP, ↓reduceIte, Nat.reduceEqDiff, reduceCtorEq, f0, f1, f5, h, Nat.add_zero, hp0, hp1, gc, NX, EX, mkN_len, mkE_len, hn, hf, negN]
    exact ⟨l.length - (i + 1), by omega, i + 1, rfl, by omega, by rw [he], rfl⟩
  · have : l.take i = l := List.take_of_length_le (by omega)
    rw [this] at f1
    simp (maxSteps := 1000000) (disch := omega) only [↓pa, pb, ↓reduceIte, Nat.reduceEqDiff, f1, h]
theorem szl_cons {α : Type} (m : α → Nat) (a : α) (l : List α) : szl m (a :: l) = 1 + m a + szl m l := by simp [szl]; omega
theorem szl_nil {α : Type} (m : α → Nat) : szl m [] = 0 := rfl
theorem szl_append {α : Type} (m : α → Nat) (a b : List α) : szl m (a ++ b) = szl m a + szl m b := by simp [szl]; omega
theorem shE_sz (l : List Eg) (n k : Int) : szl szEg (shE l n k) ≤ szl szEg l := by
  unfold shE
  induction l with
  | nil => exact Nat.le_refl _
  | cons a l ih =>
    rw [List.filter_cons]
    split
    · rw [szl_cons, szl_cons]; omega
    · rw [szl_cons]; omega
theorem shN_sz (es : List Eg) (n k : Int) : ∀ l : List Nd, szl szNd (shN es l n k) ≤ szl szNd l
  | [] => Nat.le_refl _
  | x :: l => by
    have ih := shN_sz es n k l
    rw [shN_cons, szl_append, szl_cons]
    have : szl szNd (shN1 es n k x) ≤ 1 + szNd x := by
      unfold shN1
      split
      · rw [szl_cons, szl_nil]; omega
      · split
        · have e : szNd (⟨x.id, [], []⟩ : Nd) = 0 := rfl
          rw [szl_cons, szl_nil, e]; omega
        · exact Nat.zero_le _
    omega
theorem shard_sz (g : Gph) (n k : Int) : szGr (shard g n k) ≤ szGr g := by
  unfold szGr shard
  have h1 := shN_sz (shE g.edges n k) n k g.nodes
  have h2 := shE_sz g.edges n k
  simp only
  omega
theorem shards_mem (g : Gph) (n : Int) : ∀ (j : Nat) (x : Gph), x ∈ shards g n j → ∃ k : Int, x = shard g n k
  | 0, x, h => by simp [shards] at h
  | j + 1, x, h => by
    rw [shards, List.mem_append] at h
    rcases h with h | h
    · exact shards_mem g n j x h
    · exact ⟨j, by simpa using h⟩
theorem split_mem {g : Gph} {n : Int} {x : Gph} (h : x ∈ splitG g n) : ∃ k : Int, x = shard g n k := by
  unfold splitG at h
  split at h
  · exact shards_mem g n _ x h
  · simp at h
theorem split_len (g : Gph) (n : Int) : (splitG g n).length ≤ 8 := by
  unfold splitG
  split
  · rename_i h; rw [shards_len]; omega
  · simp
theorem endN_sz : ∀ (l : List Nd) (k : Nat), endN (l.map shp) k ≤ k + 2 * szl szNd l
  | [], k => by simp [endN, szl]
  | x :: l, k => by
    have ih := endN_sz l (k + 1 + x.labels.length + 2 * x.fields.length)
    have h1 := @szl_len _ List.length x.labels
    have h2 := @szl_len _ szFd x.fields
    rw [List.map_cons, shp, endN, szl_cons]
    have h3 : szNd x = szl List.length x.labels + szl szFd x.fields := rfl
    omega
theorem endE_sz : ∀ (l : List Eg) (k : Nat), endE (l.map she) k ≤ k + 4 * szl szEg l
  | [], k => by simp [endE, szl]
  | x :: l, k => by
    have ih := endE_sz l (k + 4 + 2 * x.fields.length)
    have h2 := @szl_len _ szFd x.fields
    rw [List.map_cons, she, endE, szl_cons]
    have h3 : szEg x = x.type.length + szl szFd x.fields := rfl
    omega
theorem endG1_sz (g : Gph) (k : Nat) : endE (g.edges.map she) (endN (g.nodes.map shp) k) ≤ k + 4 * szGr g := by
  have h1 := endN_sz g.nodes k
  have h2 := endE_sz g.edges (endN (g.nodes.map shp) k)
  unfold szGr
  omega
theorem endG_sz (c : Nat) : ∀ (l : List Gph) (k : Nat), (∀ g ∈ l, szGr g ≤ c) → endG (l.map shg) k ≤ k + l.length * (4 * c)
  | [], k, _ => by simp [endG]
  | g :: l, k, h => by
    have h1 := endG1_sz g k
    have h2 := h g List.mem_cons_self
    have ih := endG_sz c l (endE (g.edges.map she) (endN (g.nodes.map shp) k)) fun x hx => h x (List.mem_cons_of_mem _ hx)
    rw [List.map_cons, shg, endG, List.length_cons, Nat.add_mul]
    omega
theorem callP_fl {f : Nat} {as : List PV} {r : PV} {st' : St} (h : callP cf f as [] st = some (r, st')) (hf : st.fl ≤ st.nx) : st'.fl ≤ st'.nx := by
  unfold callP at h
  split at h
  · cases h
  · split at h
    · cases h
    · simp only at h
      split at h
      · split at h
        · simp only [Option.some.injEq, Prod.mk.injEq] at h
          rw [← h.2]
          simp only [St.more_nx]
          split <;> omega
        · cases h
      · cases h
theorem RunsTo_EQf {f : Nat} {as : List PV} {p : PV} (h : ∃ r, r = p ∧ ∃ fl, callP cf f as [] st = some (r, setF st fl)) (hf : st.fl ≤ st.nx) (k : ∀ fl, fl ≤ st.nx → A (mk p (setF st fl))) : RunsTo (callP cf f as [] st) mk A := by
  obtain ⟨r, rfl, fl, h⟩ := h
  exact ⟨_, _, h, k fl (callP_fl h hf)⟩
theorem call_st {f : Nat} {as bs : List PV} (hm : as.map strip = bs) (hp : as.all plainArg = true) (hb : ∀ p ∈ bs, plainV p) : callP cf f as [] st = callP cf f bs [] st := by
  subst hm
  obtain ⟨q1, q2⟩ := plainVs_arg hb
  rw [callP_strip hp q1 q2]
theorem mvS_objs {J ns : List Nat} {st : St} {s : Nat} : (mvS J ns st).objs s = (st.objs s).map fun c => c.map (killT J) := rfl
theorem strip_agg {cs : List PV} : strip (.agg cs) = .agg (strips cs) := by simp [strip, strips, ren]
theorem np_agg {cs : List PV} : np (.agg cs) = nps cs := rfl
theorem agg_all {cs : List PV} {n : Int} (h : nps cs = true) : ([.agg cs, I n] : List PV).all plainArg = true := by
  simp only [List.all_cons, List.all_nil, plainArg, pmz, h, Bool.and_self]
set_option maxHeartbeats 16000000 in
theorem c_law (K : Env cf) (hI : InsOk cf) (g : Gph) (n : Int) (hB : FitsB g) : callP cf 3 [.agg (gc g), I n] [] st = some (.bool true, st) := by
  refine c_val K.tab (F := F3) (t := 4) rfl rfl rfl (lb rfl) (by simp [plainV_gr, plainV_int]) (bare_bool _) 1 ?_
  have hsz := fun st => c_szGr (st := st) K g hB 1048576 (by omega)
  have e48 : ((1048576 : Nat) : Int) = 1048576 := rfl
  rw [e48] at hsz
  have hgp := gc_plain g
  have hgl := gc_len g
  have hgt : List.take 2 (gc g) = gc g := rfl
  unfold F3 qr qd qm qi qc qb qk ql qo qe qN
  simp (disch := omega) only [↓pa, pb, pmy, ↓reduceIte, Nat.reduceEqDiff, Nat.reduceLeDiff, hgl, hgt, hsz]
  by_cases hs : szGr g ≤ 1048576
  rotate_left
  · have hd : dec 1048576 (szGr g) = -1 := by rw [dec, if_neg hs]
    simp (disch := omega) only [↓pa, pb, ↓reduceIte, Int.reduceLT, hd]
  have hd : dec 1048576 (szGr g) = ((1048576 - szGr g : Nat) : Int) := by rw [dec, if_pos hs]
  have hF := fits_of hs
  have hlw : (splitG g n).length ≤ 8 := split_len g n
  have hFs : ∀ x ∈ splitG g n, Fits x := fun x hx => by
    obtain ⟨k, rfl⟩ := split_mem hx
    exact fits_of (Nat.le_trans (shard_sz g n k) hs)
  simp (disch := omega) only [↓pa, pb, pmy, ↓reduceIte, Nat.reduceEqDiff, Nat.reduceLeDiff, hd, negN, hgl, hgt]
  refine RunsTo_OE (c_toG K g hF) (fun r ns hFr hr => ?_)
  obtain ⟨c1, rfl, hc1⟩ := strip_agg_inv hr
  simp (disch := omega) only [↓pa, pb, ↓reduceIte, Nat.reduceEqDiff]
  refine RunsTo_EQf (p := GX (splitG g n)) ?_ ?_ (fun fl hfl => ?_)
  · rw [call_st (bs := [.agg (gc g), I n]) (by simp only [List.map_cons, List.map_nil, pmz, hc1]) (agg_all hFr.np) (by simp [plainV_gr, plainV_int])]
    exact c_splitS K g n hF.ef hF.nf
  · rw [St.more_fl]; exact Nat.zero_le _
  simp (disch := omega) only [↓pa, pb, pmy, ↓reduceIte, Nat.reduceEqDiff, Nat.reduceLeDiff, hgl, hgt, pmj]
  refine RunsTo_OE (c_toG K g hF) (fun r2 ns2 hFr2 hr2 => ?_)
  obtain ⟨c7, rfl, hc7⟩ := strip_agg_inv hr2
  have hl7 : c7.length = 2 := by rw [← strips_length, hc7]; rfl
  have ht7 : List.take 2 c7 = c7 := by rw [← hl7, List.take_length]
  obtain ⟨x7, y7, rfl⟩ : ∃ x y, c7 = [x, y] := by
    match c7, hl7 with
    | [x, y], _ => exact ⟨x, y, rfl⟩
  have hT7 := TokOK_more (st := setF (setO (stB [] []) 2 (gc g) |>.more ns) fl) TokOK_nil hfl ns2
  simp (disch := omega) only [↓pa, pb, pmy, ↓reduceIte, Nat.reduceEqDiff, Nat.reduceAdd, Nat.reduceLeDiff]
  have htk7 : tokss [x7, y7] = enum (setF (setO (stB [] []) 2 (gc g) |>.more ns) fl).nx ns2 := by have := hFr2.tk; simpa [toks] using this
  have hso7 : solids [x7, y7] = true := by simpa [solid] using hFr2.so
  have hnp7 : nps [x7, y7] = true := hFr2.np
  have hst7 : strips [x7, y7] = gc g := hc7
  generalize hS : setO (setO ((setF ((setO (stB [] []) 2 (gc g)).more ns) fl).more ns2) 7 [PV.list 0 [] Tok.nil, PV.list 0 [] Tok.nil]) 7 [x7, y7] = S1
  have o2 : S1.objs 2 = some (gc g) := by rw [← hS]; simp (disch := omega) only [pb, pmy, ↓reduceIte, Nat.reduceEqDiff, pmj]
  have o7 : S1.objs 7 = some [x7, y7] := by rw [← hS]; simp (disch := omega) only [pb, ↓reduceIte]
  have hT1 : TokOK S1 (tokss [x7, y7]) := by rw [← hS, htk7]; exact TokOK_setO (TokOK_setO hT7)
  have hf1 : S1.fl ≤ S1.nx := by
    rw [← hS]
    show (((setF ((setO (stB [] []) 2 (gc g)).more ns) fl).more ns2)).fl ≤ ((setF ((setO (stB [] []) 2 (gc g)).more ns) fl).more ns2).nx
    rw [St.more_fl, St.more_nx]
    exact Nat.le_trans hfl (Nat.le_add_right _ _)
  clear hS hT7 hFr hr hc1 hfl htk7 hFr2
  have h11 : ∀ {st : St} {cs : List PV}, strips cs = gc g → nps cs = true → ∃ r ns, callP cf 11 [.agg cs, I n] [] st = some (r, st.more ns) ∧ Fresh st.nx ns r ∧ strip r = GX (splitG g n) := fun {st cs} h1 h2 => by
    rw [call_st (bs := [.agg (gc g), I n]) (by simp only [List.map_cons, List.map_nil, pmz, h1]) (agg_all h2) (by simp [plainV_gr, plainV_int])]
    exact c_splitI K hI g n hF.ef hF.nf
  refine RunsTo_OE (h11 hst7 hnp7) (fun r8 ns3 hFr8 hr8 => ?_)
  obtain ⟨c8, t8, rfl, hst8, -⟩ := strip_list_inv hr8
  have hT3 := TokOK_more hT1 hf1 ns3
  rw [← hFr8.tk] at hT3
  have hso8 := hFr8.so
  have hnp8 : nps c8 = true := hFr8.np
  have o2b : (S1.more ns3).objs 2 = some (gc g) := by rw [St.more_objs]; exact o2
  have o7b : (S1.more ns3).objs 7 = some [x7, y7] := by rw [St.more_objs]; exact o7
  have hf3 : (S1.more ns3).fl ≤ (S1.more ns3).nx := by rw [St.more_fl, St.more_nx]; omega
  generalize S1.more ns3 = S2 at *
  clear hFr8 hT1 hf1 o2 o7
  have h12 : ∀ {st : St} {cs : List PV} {tk : Tok}, strips cs = (splitG g n).flatMap gc → nps cs = true → callP cf 12 [.list (splitG g n).length cs tk, GX (splitG g n)] [] st = some (.bool true, st) := fun {st cs tk} h1 h2 => by
    rw [call_st (bs := [GX (splitG g n), GX (splitG g n)]) (by simp only [List.map_cons, List.map_nil, pmz, h1, (plainV_GX (splitG g n)).2.1]) (by simp only [List.all_cons, plainArg, pmz, h2, (plainVs_arg (ps := [GX (splitG g n)]) (by simp [plainV_GX])).1, Bool.and_self]) (by simp [plainV_GX])]
    exact c_eqGS K _ (by omega) hFs
  simp (disch := omega) only [↓pa, ↓pmw, pb, pmy, pmwk, ↓reduceIte, Nat.reduceEqDiff, Nat.reduceAdd, Nat.reduceLeDiff, hgl, hgt, h12 hst8 hnp8, o2b, o7b]
  refine RunsTo_OE (c_toG K g hF) (fun r3 ns4 hFr3 hr3 => ?_)
  obtain ⟨c33, rfl, hc33⟩ := strip_agg_inv hr3
  have hnp33 : nps c33 = true := hFr3.np
  have h13 : ∀ st : St, callP cf 13 [.agg [x7, y7], .agg c33] [] st = some (.bool true, st) := fun st => by
    rw [call_st (bs := [.agg (gc g), .agg (gc g)]) (by simp only [List.map_cons, List.map_nil, strip_agg, hst7, hc33]) (by simp only [List.all_cons, List.all_nil, plainArg, np_agg, hnp7, hnp33, Bool.and_self]) (by simp [plainV_gr])]
    exact c_eqG1 K g hF
  have hT4 : TokOK (S2.more ns4) (tokss [x7, y7] ++ toks (.list (splitG g n).length c8 t8)) := TokOK_of' (TokOK_more hT3 hf3 ns4) (fun j => by simp only [ck_append]; omega) (fun q hq => by rw [List.mem_append]; exact .inl hq)
  have o2c : (S2.more ns4).objs 2 = some (gc g) := by rw [St.more_objs]; exact o2b
  have o7c : (S2.more ns4).objs 7 = some [x7, y7] := by rw [St.more_objs]; exact o7b
  have hf4 : (S2.more ns4).fl ≤ (S2.more ns4).nx := by rw [St.more_fl, St.more_nx]; omega
  generalize S2.more ns4 = S3 at *
  clear hFr3 hT3 hf3 o2b o7b
  simp (disch := omega) only [↓pa, ↓pmw, pb, pmy, pmwk, pmwa, List.getElem?_cons_zero, List.getElem?_cons_succ, ↓reduceIte, Nat.reduceEqDiff, Nat.reduceAdd, Nat.reduceLeDiff, o7c, h13, keysOf_agg hgp.1]
  have hb1 : endE (g.edges.map she) (endN (g.nodes.map shp) 1) ≤ 1000000000000 := by have := endG1_sz g 1; omega
  have hm := c_markG (st := S3) K 1 g hb1 hst7 hso7 hnp7 (TokOK_of' hT4 (fun j => by simp only [ck_append]; omega) (fun q hq => by rw [List.mem_append]; exact .inl hq))
  have e1 : ((1 : Nat) : Int) = 1 := rfl
  rw [e1] at hm
  have hap : ∀ q ∈ toks (.list (splitG g n).length c8 t8), q.1 ∉ (tokss [x7, y7]).map (·.1) := fun q hq => TokOK_apart' (X := []) (B := tokss [x7, y7]) (Y := toks (.list (splitG g n).length c8 t8)) (by simpa using hT4) q (by simpa using hq)
  have hk8 : killT ((tokss [x7, y7]).map (·.1)) (.list (splitG g n).length c8 t8) = .list (splitG g n).length c8 t8 := killT_solid hso8 hap
  have hk6a := @killT_plain ((tokss [x7, y7]).map (·.1)) _ (plainV_GX (splitG g n))
  have hk2 := @map_plain ((tokss [x7, y7]).map (·.1)) _ hgp
  have hT5 := TokOK_mv (st := S3) (A := []) (B := tokss [x7, y7]) (C := toks (.list (splitG g n).length c8 t8)) (ns := []) (by simpa using hT4) hf4
  refine ⟨_, _, hm.1, ?_⟩
  have o2d : (mvS ((tokss [x7, y7]).map (·.1)) [] S3).objs 2 = some (gc g) := by
    rw [mvS_objs, o2c]; exact congrArg some hk2
  have hf5 : (mvS ((tokss [x7, y7]).map (·.1)) [] S3).fl ≤ (mvS ((tokss [x7, y7]).map (·.1)) [] S3).nx := hf4
  have hT6 : TokOK (mvS ((tokss [x7, y7]).map (·.1)) [] S3) ([] ++ toks (.list (splitG g n).length c8 t8) ++ []) := by simpa [enum] using hT5
  have hm2 := hm.2
  generalize mvS ((tokss [x7, y7]).map (·.1)) [] S3 = S4 at *
  clear hT5 hm hk2 hf4
  simp (disch := omega) only [↓pa, pb, ↓reduceIte, Nat.reduceEqDiff, pmm, hm2, hk8, hk6a, negN, h12 hst8 hnp8, pmu]
  have hb2 : endG ((splitG g n).map shg) 1 ≤ 1000000000000 := by
    have := endG_sz 1048576 (splitG g n) 1 fun x hx => by
      obtain ⟨k, rfl⟩ := split_mem hx
      exact Nat.le_trans (shard_sz g n k) hs
    have h3 := Nat.mul_le_mul_right (4 * 1048576) hlw
    omega
  have hL8 : Like gc 2 (splitG g n) c8 := Like_of gc_len hst8 hnp8
  have hmu := c_markGS (st := S4) K 1 (splitG g n) (by omega) hb2 hso8 hL8 (TokOK_of' hT6 (fun j => by simp only [ck_append]; omega) (fun q hq => by simp [hq]))
  rw [e1] at hmu
  refine RunsTo_U hmu (fun p ns5 hu hF5 hv htk => ?_)
  obtain ⟨q8, k1, k2, k3, k4, k5⟩ := kU_top (r := I (endG ((splitG g n).map shg) 1 : Nat)) (s := mvS ((toks (.list (splitG g n).length c8 t8)).map (·.1)) ns5 S4) (sz := 2) hso8 hnp8 hL8.len (by decide) htk hF5 (fun e => by
    have h0 : (splitG g n).length = 0 := by have := hL8.len; rw [e] at this; simp at this; omega
    have h1 : splitG g n = [] := List.eq_nil_of_length_eq_zero h0
    rw [hv, h1]; rfl) hT6 hf5
  rw [hv] at k4
  obtain ⟨c9, t9, rfl, hst9, -⟩ := strip_list_inv k4
  have hk6 := @kU_plain (splitG g n).length c8 [I 1] t8 (I (endG ((splitG g n).map shg) 1 : Nat)) p (mvS ((toks (.list (splitG g n).length c8 t8)).map (·.1)) ns5 S4) S4 htk _ (plainV_GX (splitG g n))
  have o2e : (mvS ((toks (.list (splitG g n).length c8 t8)).map (·.1)) ns5 S4).objs 2 = some (gc g) := by
    rw [mvS_objs, o2d]; exact congrArg some (map_plain hgp)
  have hlg : ((splitG g n).map shg).length = (splitG g n).length := List.length_map _
  have h16 : ∀ st : St, callP cf 16 [.list (splitG g n).length c9 t9, I 1] [] st = some (I (endG ((splitG g n).map shg) 1 : Nat), st) := fun st => by
    have hpl : plainV (.list (splitG g n).length ((mkG ((splitG g n).map shg) 1).flatMap gc) .no) := plainV_list (flat_plain gc gc_plain _)
    rw [call_st (bs := [.list (splitG g n).length ((mkG ((splitG g n).map shg) 1).flatMap gc) .no, I 1]) (by simp only [List.map_cons, List.map_nil, pmz, hst9]) (by have : nps c9 = true := k3; simp only [List.all_cons, List.all_nil, plainArg, pmz, this, Bool.and_self]) (by simp [hpl, plainV_int])]
    have := c_heldGS (st := st) K 1 ((splitG g n).map shg) (by omega) hb2
    rw [hlg, e1] at this
    exact this
  have hkA : ∀ {J : List Nat} {fr : Fr} {t : Nat}, killA J fr t = killT J (fr t) := rfl
  have hkF : ∀ {f : Nat} {as : List CX} {d : Option Nat} {st : St} {fr : Fr}, killF cf (.call f as [0]) d st fr = killA (takes (as.map (·.ev fr)) [0] st) fr := rfl
  simp (disch := omega) only [↓pa, pb, pmy, ↓reduceIte, Nat.reduceEqDiff, Nat.reduceLeDiff, ne_eq, hgl, hgt, hkA, killT_ptr, hk8, negN, pmu, hu, k1, h16, o2e]
  generalize mvS ((toks (.list (splitG g n).length c8 t8)).map (·.1)) ns5 S4 = S5 at *
  refine RunsTo_OE (c_toG K g hF) (fun r4 ns6 hFr4 hr4 => ?_)
  obtain ⟨c34, rfl, hc34⟩ := strip_agg_inv hr4
  simp (disch := omega) only [↓pa, pb, ↓reduceIte, Nat.reduceEqDiff, hkA, killT_int, pmu]
  refine RunsTo_OE (h11 hc34 hFr4.np) (fun r9 ns7 hFr9 hr9 => ?_)
  obtain ⟨c10, t10, rfl, hst10, -⟩ := strip_list_inv hr9
  have hnp10 : nps c10 = true := hFr9.np
  simp (disch := omega) only [↓pa, pb, ↓reduceIte, Nat.reduceEqDiff, ne_eq, hkA, pmu, hk8, hk6a, k1, hk6, h12 hst10 hnp10, h16, negN]
end Go.PM
