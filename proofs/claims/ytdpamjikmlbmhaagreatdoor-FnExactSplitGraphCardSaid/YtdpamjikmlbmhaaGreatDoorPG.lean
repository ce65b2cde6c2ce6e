/- FnExactSplitGraph: the program's SplitGraph returns what the reference's returns, for all arguments: the row and its card. Conditions: none. -/
import Derived.Test.YtdpamjikmlbmhaaGreatDoorPF
import Derived.Laws.IdiomCopy
import Derived.Laws.Externs
import Derived.Lib.AppendZerosOnto
import Derived.Test.YtdpamjikmlbmhaaGreatDoorProg
import Derived.WalkKit
import Derived.OwnWalk
import Derived.Lib.AppendZeros
import Derived.RegionTactic
import Derived.Deep.RegionLaw
import Derived.Laws.NewBlocks
import Derived.Shelf.LaysM
import Derived.Shelf.Strconv.Itoa4
import Derived.Shelf.LaysC
import Derived.Shelf.Strconv.ErrVarParseInt
import Derived.Lib.LaidTab
import Derived.KernelRfl
import Derived.Deep.Slices
import Derived.ChangeSame
import Derived.Lib.SmallJoins
import Derived.Test.YtdpamjikmlbmhaaGreatDoorRows
import Derived.Deep.DeepHandedRow
import Derived.WideKeyArgs
import Derived.Stop.LaidErr
import Derived.RowKit
import Derived.Test.YtdpamjikmlbmhaaGreatDoorCards
import Derived.Test.YtdpamjikmlbmhaaGreatDoorTie
import Derived.Deep.DeepWitnessRowRef
import Derived.LaidMore
import Derived.ProofKit
import Derived.SevenTiedAt
namespace Go.PM
variable {P : Program} {B : Nat → Nat → Option Value}
theorem run_copyN (w : World) (dT sT ty elem : TypeId) (b o dLen dCap : Nat) (a : Addr) (sLen sCap sz : Nat) (cs : List Value)
    (hu : P.underlying dT = some (.slice elem)) (hs : (P.info? elem).map (·.size) = some sz) (hn : cs.length = Nat.min sLen dLen * sz)
    (hsrc : ∀ j v, cs[j]? = some v → w.cell? (a.add j) = some v) (hc : ∀ j, j < cs.length → (w.cell? ⟨b, o + j, none⟩).isSome = true) (hf : ∀ j, j < cs.length → w.frozen? ⟨b, o + j, none⟩ = false) (h1 : ∀ v ∈ cs, v.oneCell' = true) :
    (Builtin.copy_ #[dT, sT] ty #[.slice (some ⟨b, o, none⟩) dLen dCap, .slice (some a) sLen sCap]).run P w = .ok (goInt (Nat.min sLen dLen)) (w.setCells b o cs) := by
  have hl := run_loadCells_list (P := P) w a cs hsrc
  have hst := run_storeCells_cells (P := P) b o cs 0 w (by simpa using hc) (by simpa using hf) h1
  cases hq : P.info? elem with
  | none => simp [hq] at hs
  | some i =>
    have hi : i.size = sz := by simpa [hq] using hs
    simp [Builtin.copy_, run_underlying w hu, Builtin.lenOf, Builtin.firstCells, sizeOf, typeInfo, hq, hi, ← hn, hl, hst]
theorem run_overlaps_no (w : World) (tS tR e : TypeId) (ht : P.underlying tS = some (.slice e)) (size : Nat) (hz : (P.info? e).map (·.size) = some size)
    (a b : Addr) (la ca lb cb : Nat) (hne : a.block ≠ b.block) {ra rb : Array Value} {ta tb : TypeId} {fa : Nat × Nat} (ha : w.heap[a.block]? = some (.cells ra ta fa)) (hb : w.heap[b.block]? = some (.cells rb tb (0, 0))) (hka : ra.size ≠ 0) (hk : rb.size ≠ 0) :
    (Extern.SlicesOverlaps.overlaps #[tS, tS] #[tR] #[.slice (some a) la ca, .slice (some b) lb cb]).run P w = .ok (.bool false) w := by
  have hnb : (a.block != b.block) = true := by simpa using hne
  have hnb' : (a.block == b.block) = false := by simpa using hne
  have hsa : w.shape? a.block = some (ta, ra.size) := by simp [World.shape?, ha]
  have hsb : w.shape? b.block = some (tb, rb.size) := by simp [World.shape?, hb]
  have hfb : ∀ o s, w.frozen? ⟨b.block, o, s⟩ = false := fun o s => by simp [World.frozen?, hb]
  have hfb' : w.frozen? b = false := hfb b.off b.spot
  cases hq : P.info? e with
  | none => simp [hq] at hz
  | some i =>
    have hi : i.size = size := by simpa [hq] using hz
    change Sem.run P (α := Value) (do
      let some t := (#[tS, tS] : Array TypeId)[0]? | stuck "slices.overlaps: no parameter types"
      let .slice elem ← underlying t | stuck "slices.overlaps: slice type expected"
      let size ← sizeOf elem
      match (some a : Option Addr), (some b : Option Addr) with
      | some a, some b =>
        if la = 0 ∨ lb = 0 ∨ size = 0 then pure (Value.bool false)
        else if a.block != b.block && (← frozen a) && (← frozen b) then unsupported .addressObserved
        else do
          if a.block != b.block then do
            noView a; noView b
            if ← mayBeOne a b then return Value.bool ((← choose (.extern "sameAddr.stringBytes" 2)) == 1)
          pure (Value.bool (a.block == b.block && a.off < b.off + lb * size && b.off < a.off + la * size))
      | _, _ => pure (Value.bool false)) w = _
    by_cases h0 : la = 0 ∨ lb = 0 ∨ size = 0
    · simp [run_underlying w ht, sizeOf, typeInfo, hq, hi, h0]
    · obtain ⟨k, hk'⟩ : ∃ k, rb.size = k + 1 := ⟨rb.size - 1, by omega⟩
      rw [hk'] at hsb
      obtain ⟨ka, hka'⟩ : ∃ k, ra.size = k + 1 := ⟨ra.size - 1, by omega⟩
      rw [hka'] at hsa
      cases hfa : w.frozen? a with
      | true => simp [run_underlying w ht, sizeOf, typeInfo, hq, hi, h0, hnb, hnb', frozen, noView, viewAt, mayBeOne, stringish, shape, Sem.run, hsa, hsb, hfa, hfb]
      | false =>
        cases hfe : w.frozen? ⟨a.block, ka + 1, none⟩ with
        | true => simp [run_underlying w ht, sizeOf, typeInfo, hq, hi, h0, hnb, hnb', frozen, noView, viewAt, mayBeOne, stringish, shape, Sem.run, hsa, hsb, hfa, hfe, hfb]
        | false => simp [run_underlying w ht, sizeOf, typeInfo, hq, hi, h0, hnb, hnb', frozen, noView, viewAt, mayBeOne, stringish, shape, Sem.run, hsa, hsb, hfa, hfe, hfb]
theorem setRow_setRow (w : World) (b : Nat) (x y : Array Value) : (w.setRow b x).setRow b y = w.setRow b y := by
  unfold World.setRow
  congr 1
  apply Array.ext_getElem?
  intro i
  simp only [Array.getElem?_modify]
  by_cases h : b = i
  · subst h
    simp only [if_true]
    cases w.heap[b]? with
    | none => rfl
    | some o => cases o <;> rfl
  · simp only [if_neg h]
theorem setRow_at (w : World) (b : Nat) {x : Array Value} {e f} (h : w.heap[b]? = some (.cells x e f)) : w.setRow b x = w := by
  obtain ⟨hp, t, d, os, out⟩ := w
  simp only [World.setRow]
  congr 1
  apply Array.ext_getElem?
  intro i
  simp only [Array.getElem?_modify]
  by_cases hi : b = i
  · subst hi
    rw [if_pos rfl]
    simp only at h
    rw [h]; rfl
  · rw [if_neg hi]
theorem setCell_row (w : World) (b o : Nat) (v : Value) {x : Array Value} {e f} (h : w.heap[b]? = some (.cells x e f)) : w.setCell ⟨b, o, none⟩ v = w.setRow b (x.setIfInBounds o v) := by
  unfold World.setCell World.setRow
  congr 1
  apply Array.ext_getElem?
  intro i
  simp only [Array.getElem?_modify]
  by_cases hi : b = i
  · subst hi
    rw [if_pos rfl, if_pos rfl, h]; rfl
  · rw [if_neg hi, if_neg hi]
theorem setCells_row (b : Nat) {e f} : ∀ (vs : List Value) (o : Nat) (w : World) (x : List Value), w.heap[b]? = some (.cells x.toArray e f) → o + vs.length ≤ x.length → w.setCells b o vs = w.setRow b (x.take o ++ vs ++ x.drop (o + vs.length)).toArray
  | [], o, w, x, h, _ => by rw [World.setCells, List.append_nil, List.length_nil, Nat.add_zero, List.take_append_drop, setRow_at w b h]
  | v :: vs, o, w, x, h, hl => by
    simp only [List.length_cons] at hl
    have h1 := setCell_row w b o v h
    have h2 := setRow_heap w b _ (x.toArray.setIfInBounds o v) e f h
    rw [World.setCells, h1]
    have h3 : x.toArray.setIfInBounds o v = (x.set o v).toArray := by simp
    rw [h3] at h2 ⊢
    rw [setCells_row b vs (o + 1) _ _ h2 (by simp; omega), setRow_setRow]
    congr 2
    rw [List.drop_set_of_lt (by omega), List.take_set, List.length_cons, show o + 1 + vs.length = o + (vs.length + 1) by omega]
    congr 1
    rw [List.take_succ_eq_append_getElem (by omega), List.set_append_right _ _ (by simp; omega), List.length_take, Nat.min_eq_left (by omega)]
    simp
theorem Rs.take {G : Gh} {cs : List PV} {us : List Value} (h : Rs G cs us) (k : Nat) : Rs G (cs.take k) (us.take k) := by
  obtain ⟨h1, h2, h3⟩ := h
  refine ⟨by simp [h1], fun j p u hp hu => ?_, fun u hu => h3 u (List.mem_of_mem_take hu)⟩
  rw [List.getElem?_take] at hp hu
  split at hp
  · rename_i hj
    rw [if_pos hj] at hu
    exact h2 j p u hp hu
  · cases hp
theorem Rs.drop {G : Gh} {cs : List PV} {us : List Value} (h : Rs G cs us) (k : Nat) : Rs G (cs.drop k) (us.drop k) := by
  obtain ⟨h1, h2, h3⟩ := h
  refine ⟨by simp [h1], fun j p u hp hu => ?_, fun u hu => h3 u (List.mem_of_mem_drop hu)⟩
  rw [List.getElem?_drop] at hp hu
  exact h2 _ p u hp hu
theorem nps_sub {cs ds : List PV} (h : nps cs = true) (hs : ∀ p ∈ ds, p ∈ cs) : nps ds = true := nps_of fun p hp => nps_mem h (hs p hp)
theorem tfs_sub {K : Nat → Bool} {cs : List PV} : ∀ {ds : List PV}, tfs K cs = true → (∀ p ∈ ds, p ∈ cs) → tfs K ds = true
  | [], _, _ => rfl
  | d :: ds, h, hs => by
    simp only [tfs, Bool.and_eq_true]
    refine ⟨?_, tfs_sub h fun p hp => hs p (List.mem_cons_of_mem _ hp)⟩
    obtain ⟨j, hj⟩ := List.mem_iff_getElem?.1 (hs d List.mem_cons_self)
    exact tfs_get h hj
theorem tfs_app {K : Nat → Bool} : ∀ {cs ds : List PV}, tfs K cs = true → tfs K ds = true → tfs K (cs ++ ds) = true
  | [], _, _, h => h
  | c :: cs, ds, h, k => by
    simp only [tfs, Bool.and_eq_true] at h
    simp only [List.cons_append, tfs, Bool.and_eq_true]
    exact ⟨h.1, tfs_app h.2 k⟩
section
variable {G : Gh} {st : St} {w w' : World}
theorem Inv.below (hI : Inv P B G st w) (hs : w.heap.size ≤ w'.heap.size) (hb : ∀ b, b < w.heap.size → w'.heap[b]? = w.heap[b]?) (he : w'.os = w.os ∧ w'.output = w.output) : Inv P B G st w' ∧ Step G w G w' := by
  have lt_of : ∀ {b : Nat} {o : Obj}, w.heap[b]? = some o → b < w.heap.size := fun h => (Array.getElem?_eq_some_iff.1 h).1
  have hsh := hI.sh
  refine ⟨⟨fun b o v h => ?_, fun b e k h => ?_, hI.nx, hI.cnt, hI.live, hI.room, hI.apart, hI.priv, fun s cs h => ?_, fun s b h => ?_, hI.obj, hI.nob, hI.npo, fun b k h => ?_, fun b h => ?_, hI.base, fun s b e sz h1 h2 => ?_,
    fun s es h => ?_, fun s b h => ?_, hI.mbi, hI.nomb, hI.obx, hI.ful⟩, ⟨LeW.refl G, hs, fun b hb' _ _ _ => hb b hb', fun s b h => .inl ⟨s, h⟩, fun t r h => .inl ⟨t, r, h, rfl⟩, fun _ _ _ h => .inl h, fun _ _ h => .inl h, fun _ k h => .inl ⟨k, h⟩, fun s b h => .inl ⟨s, h⟩, he⟩⟩
  · have hc := hI.com b o v h
    rw [World.cell?_of_block (hb b (World.block_lt_of_cell? w _ hc))]; exact hc
  · obtain ⟨c, h1, h2⟩ := hI.sh b e k h
    exact ⟨c, by rw [hb b (lt_of h1)]; exact h1, h2⟩
  · obtain ⟨b, e, vs, h1, h2, h3⟩ := hI.objs s cs h
    exact ⟨b, e, vs, h1, by rw [hb b (lt_of h2)]; exact h2, h3⟩
  · obtain ⟨h1, h2⟩ := hI.obs s b h
    exact ⟨by omega, h2⟩
  · have := hI.pvl b k h; omega
  · have := hI.xpl b h; omega
  · obtain ⟨h3, c, h4⟩ := hI.oes s b e sz h1 h2
    exact ⟨h3, c, by rw [hb b (lt_of h4)]; exact h4⟩
  · obtain ⟨b, vs, clk, h1, h2, h3⟩ := hI.mobj s es h
    exact ⟨b, vs, clk, h1, by rw [hb b (lt_of h2)]; exact h2, h3⟩
  · obtain ⟨vs, clk, h1⟩ := hI.mbs s b h
    exact ⟨vs, clk, by rw [hb b (lt_of h1)]; exact h1⟩
theorem Step.heap {G' : Gh} {w2 w3 : World} (hS : Step G w G' w2) (h : w3.heap = w2.heap) (he : w3.os = w2.os ∧ w3.output = w2.output) : Step G w G' w3 :=
  ⟨hS.le, by rw [h]; exact hS.size, fun b hb ho ht hm => by rw [h]; exact hS.kept b hb ho ht hm, hS.nearO, hS.nearT, hS.nearC, hS.nearS, hS.nearP, hS.nearM, ⟨he.1.trans hS.eff.1, he.2.trans hS.eff.2⟩⟩
theorem stB_count (n m : Nat) (ns : List Nat) : (stB (n :: ns) []).count 0 m = stB (m :: ns) [] := by
  unfold St.count stB
  congr 1
  funext t
  cases t with
  | zero => simp
  | succ t => simp
theorem stB_bk (u : Upd) (ns : List Nat) : { stB ns [] with objs := bkObjs u (stB ns []).objs, maps := bkMaps u (stB ns []).maps } = stB ns [] := by
  unfold stB bkObjs bkMaps
  congr 1
theorem ins_fin {n i e sz : Nat} {ns : List Nat} {cs ds : List PV} {us vs rest : List Value} {b1 cap1 : Nat} {w1 w2 : World} {G1 : Gh}
    (hR : R G1 (.list (n + 1) (cs ++ ds) (.own 0 e)) (.slice (some ⟨b1, 0, none⟩) (n + 1) cap1)) (hI : Inv P B G1 (stB ((n + 1) :: ns) []) w1)
    (hcs : cs.length = n * sz) (hds : ds.length = sz) (hul : us.length = n * sz) (hvl : vs.length = sz) (hi : i ≤ n) (hrow : w1.heap[b1]? = some (.cells (us ++ vs ++ rest).toArray e (0, 0)))
    (ht1 : tfs ([0].contains ·) cs = true) (ht2 : tfs ([0].contains ·) ds = true) (hn1 : nps cs = true) (hn2 : nps ds = true)
    (hw2 : w2.heap = (w1.setRow b1 (us.take (i * sz) ++ vs ++ us.drop (i * sz) ++ rest).toArray).heap) (he2 : w2.os = w1.os ∧ w2.output = w1.output) :
    ∃ G2, R G2 (.list (n + 1) (cs.take (i * sz) ++ ds ++ cs.drop (i * sz)) (.own 0 e)) (.slice (some ⟨b1, 0, none⟩) (n + 1) cap1) ∧ Inv P B G2 (stB ((n + 1) :: ns) []) w2 ∧ Step G1 w1 G2 w2 ∧ G2.bx = G1.bx := by
  cases hR with
  | list _ _ _ _ _ cap us1 hn hl hc hr h1 htr hp hx =>
  obtain ⟨x, hx0⟩ := hI.live 0 (by simp [stB])
  have hcnt := (hI.cnt 0 x hx0).2
  have hxn : x.cnt = n + 1 := by rw [← hcnt]; simp [stB]
  obtain ⟨_, htr⟩ := htr
  obtain ⟨h3, h4⟩ := htr x hx0
  have h4 := h4 hxn.symm
  cases x with
  | full m => have := hI.ful 0 m hx0; simp only [TkE.cnt] at hxn; omega
  | room r =>
  obtain ⟨hrb, _, hrc, hre, hrl⟩ := h4
  have hrm : r.m = n + 1 := hxn
  obtain ⟨hsh, _, _, hrs, _, _⟩ := hI.room 0 r hx0
  have hus1 : us1.length = n * sz + sz := by rw [← hl, List.length_append, hcs, hds]
  have hsz : us1.length = r.m * r.sz := by rw [hrl, hrm]
  have hcel : ∀ j (v : Value), us1[j]? = some v → (us ++ vs ++ rest)[j]? = some v := fun j v hj => by
    have := hI.com _ _ _ (hc j v hj)
    simpa [World.cell?, hrow] using this
  have heq : us1 = us ++ vs := by
    apply List.ext_getElem?
    intro j
    by_cases hj : j < us1.length
    · have := hcel j us1[j] (List.getElem?_eq_getElem hj)
      rw [List.getElem?_append_left (by rw [List.length_append]; omega)] at this
      rw [this]; exact List.getElem?_eq_getElem hj
    · rw [List.getElem?_eq_none (by omega), List.getElem?_eq_none (by rw [List.length_append]; omega)]
  subst heq
  have hRs : Rs G1 (cs ++ ds) (us ++ vs) := ⟨hl, hr, h1⟩
  have hR1 : Rs G1 cs us := by
    have := hRs.take (n * sz)
    rwa [← hcs, List.take_left, hcs, ← hul, List.take_left] at this
  have hR2 : Rs G1 ds vs := by
    have := hRs.drop (n * sz)
    rwa [← hcs, List.drop_left, hcs, ← hul, List.drop_left] at this
  have hds' : Rs G1 (cs.take (i * sz) ++ ds ++ cs.drop (i * sz)) (us.take (i * sz) ++ vs ++ us.drop (i * sz)) := ((hR1.take _).append hR2).append (hR1.drop _)
  have hisz : i * sz ≤ n * sz := Nat.mul_le_mul_right _ hi
  have hlen' : (us.take (i * sz) ++ vs ++ us.drop (i * sz)).length = (us ++ vs).length := by simp only [List.length_append, List.length_take, List.length_drop]; omega
  have hlenc : (cs.take (i * sz) ++ ds ++ cs.drop (i * sz)).length = (cs ++ ds).length := by simp only [List.length_append, List.length_take, List.length_drop]; omega
  have hsub : ∀ p ∈ cs.take (i * sz) ++ ds ++ cs.drop (i * sz), p ∈ cs ++ ds := fun p hp => by
    simp only [List.mem_append] at hp ⊢
    rcases hp with (h | h) | h
    · exact .inl (List.mem_of_mem_take h)
    · exact .inr h
    · exact .inl (List.mem_of_mem_drop h)
  have hta : tfs ([0].contains ·) (cs ++ ds) = true := by
    exact tfs_app ht1 ht2
  have hna : nps (cs ++ ds) = true := nps_append hn1 hn2
  subst hrb
  have hfl : (stB ((n + 1) :: ns) []).fl ≤ 0 := Nat.le_refl _
  have hpk := hI.poke (k := 0) (e := e) (off := 0) hx0 (by omega) hre hfl hRs hds' (by rw [hsz]) (fun j u hj => by have := hc j u hj; rwa [Nat.zero_add] at this) (by rw [hlen']; omega) hta (tfs_sub hta hsub) hna (nps_sub hna hsub) (by rw [hre]; exact hrow)
  obtain ⟨hI2, hS2, hst2, _⟩ := hpk
  rw [stB_bk] at hI2
  have hwr : (us ++ vs ++ rest).toArray.toList.take 0 ++ (us.take (i * sz) ++ vs ++ us.drop (i * sz)) ++ (us ++ vs ++ rest).toArray.toList.drop (0 + (us.take (i * sz) ++ vs ++ us.drop (i * sz)).length) = us.take (i * sz) ++ vs ++ us.drop (i * sz) ++ rest := by
    rw [hlen', Nat.zero_add]; simp
  rw [hwr] at hI2 hS2
  refine ⟨_, ?_, hI2.drawn hw2, hS2.heap hw2 he2, rfl⟩
  have := hst2 _ _ (R.list (n + 1) (cs ++ ds) (.own 0 e) r.b 0 cap1 (us ++ vs) hn hl hc hr h1 ⟨by assumption, fun y hy => by rw [hx0] at hy; cases hy; exact ⟨h3, fun _ => ⟨rfl, rfl, hrc, hre, hrl⟩⟩⟩ hp hx)
  rw [bkT] at this
  simp only [stxU, Tok.isOwn, hrm, beq_self_eq_true, Bool.and_self, if_true] at this
  rwa [putCells_all hlenc] at this
end
end Go.PM
namespace Go.PM
open Go Go.Proofs
theorem u29 : Tryz.prog.underlying 29 = some (.slice 72) := by kernel_rfl
theorem i72 : (Tryz.prog.info? 72).map (·.size) = some 3 := by kernel_rfl
theorem wpList_copy_runN {P : Program} (w : World) {ops : Array Oper} {rest : List Oper} {o : Oper} {a : Act} {Q : Exit → Act → World → Prop} (hgd : o.guard = none) (d s : Operand) (t t' : TypeId)
    (ho : o.op = .call { callee := .builtin .copy, args := #[d, s], argTypes := #[t, t'] }) (v u : Value) (hd : a.eval d = v) (hs : a.eval s = u) {v' : Value} {w' : World}
    (hr : (Builtin.copy_ #[t, t'] o.type #[v, u]).run P w = .ok v' w') (h : wpList P ops Q rest (a.put o.dst v') w') : wpList P ops Q (o :: rest) a w :=
  wpList_plain hgd fun _ hK => by
    unfold Oper.wp execOp
    simp only [ho, resolve, invoke, builtin, Sem.run_bind, Sem.run_pure, Result.andThen_ok, List.map_toArray, List.map_cons, List.map_nil, hd, hs, hr]
    exact hK _ _ h
set_option maxHeartbeats 4000000 in
set_option maxRecDepth 100000 in
theorem ins_end (base : Option Addr) (n c vc : Nat) (va : Addr) (w w' : World) (r : Value) (hnc : n ≤ c) (hc : c ≤ 9223372036854775807) (hn : base = none → n = 0)
    (hrun : ∀ ty, (Builtin.append_ #[29, 29] ty #[.slice base n c, .slice (some va) 1 vc]).run Tryz.prog w = .ok r w') :
    Calls Tryz.prog 128 #[.slice base n c, .int .i64 n, .slice (some va) 1 vc] w fun e w1 => e = .returned r ∧ w1 = w' := by
  go_enter Tryz.func128, Tryz.ntmps128
  cases base with
  | none =>
    have h0 := hn rfl
    subst h0
    go_wp2_with (at_builtin; refine Lib.wpList_append_run _ rfl _ _ _ _ rfl _ _ rfl rfl _ _ (hrun _) ?_)
    go_ret
    exact ⟨rfl, rfl⟩
  | some a =>
    obtain ⟨ab, ao, asp⟩ := a
    go_wp2_with (at_builtin; refine Lib.wpList_append_run _ rfl _ _ _ _ rfl _ _ rfl rfl _ _ (hrun _) ?_)
    all_goals (go_ret; exact ⟨rfl, rfl⟩)
theorem step_copy_runN {P : Program} {ops : Array Oper} {o : Oper} {a : Act} {w : World} {K : Act → World → Prop} {Q : Exit → Act → World → Prop} {E : Prop}
    (hg : o.guard = none) (d x : Operand) (dT sT : TypeId) (hop : o.op = Op.call { callee := Callee.builtin Builtin.copy, args := #[d, x], argTypes := #[dT, sT] })
    (v u : Value) (hd : a.eval d = v) (hx : a.eval x = u) {v' : Value} {w' : World} (hr : (Builtin.copy_ #[dT, sT] o.type #[v, u]).run P w = .ok v' w') (hK : K (a.put o.dst v') w') :
    if Region.wanted o (yielded ops a.tmps) = true then Oper.wp P o a w K Q else E := by
  have hw : Region.wanted o (yielded ops a.tmps) = true := by simp [Region.wanted, hg]
  rw [if_pos hw]
  unfold Oper.wp
  simp [execOp, hop, resolve, invoke, builtin, hd, hx, hr, Result.andThen]
  exact hK
theorem some_setCells (b : Nat) (vs : List Value) (o : Nat) (w : World) (h : ∀ j, j < vs.length → (w.cell? ⟨b, o + j, none⟩).isSome = true) (k : Nat) (hk : (w.cell? ⟨b, k, none⟩).isSome = true) : ((w.setCells b o vs).cell? ⟨b, k, none⟩).isSome = true := by
  by_cases hin : o ≤ k ∧ k < o + vs.length
  · have := World.cell?_setCells_in b vs o w h (k - o) (by omega)
    rw [show o + (k - o) = k by omega] at this
    rw [this]; rfl
  · rw [World.cell?_setCells_out b vs o w ⟨b, k, none⟩ (fun _ _ => by show k < o ∨ o + vs.length ≤ k; omega)]
    exact hk
set_option maxHeartbeats 4000000 in
set_option maxRecDepth 100000 in
theorem ins_room (b n c i vb voff vc : Nat) (us vs : List Value) (w : World) (hi : i < n) (hroom : n + 1 ≤ c) (hc63 : c ≤ 9223372036854775807) (hvb : vb ≠ b)
    (hul : us.length = n * 3) (hvl : vs.length = 3)
    (hus : ∀ (j : Nat) v, us[j]? = some v → w.cell? ⟨b, j, none⟩ = some v) (hsp : ∀ j, j < n * 3 + 3 → (w.cell? ⟨b, j, none⟩).isSome = true) (hfz : ∀ j, w.frozen? ⟨b, j, none⟩ = false)
    (hvs : ∀ (j : Nat) v, vs[j]? = some v → w.cell? ⟨vb, voff + j, none⟩ = some v) (h1u : ∀ v ∈ us, v.oneCell' = true) (h1v : ∀ v ∈ vs, v.oneCell' = true)
    (hov : ∀ o lb cb, (callFunc 174 #[.slice (some ⟨vb, voff, none⟩) 1 vc, .slice (some ⟨b, o, none⟩) lb cb]).run Tryz.prog w = .ok (.value (.bool false)) w) :
    Calls Tryz.prog 128 #[.slice (some ⟨b, 0, none⟩) n c, .int .i64 i, .slice (some ⟨vb, voff, none⟩) 1 vc] w fun e w' =>
      e = .returned (.slice (some ⟨b, 0, none⟩) (n + 1) c) ∧ w' = (w.drew.setCells b (i * 3 + 3) (us.drop (i * 3))).setCells b (i * 3) vs := by
  have hdl : (us.drop (i * 3)).length = n * 3 - i * 3 := by rw [List.length_drop, hul]
  have hz2 : ¬ ((i : Int) = (n : Int)) := by omega
  have hw1 : IntKind.i64.wrap ((i : Int) + 1) = (i : Int) + 1 := by rw [IntKind.wrap_i64]; omega
  have hb1 : (0 : Int) ≤ (i : Int) + 1 := by omega
  have hin : i ≤ n := by omega
  have htn : ((i : Int) + 1).toNat = i + 1 := by omega
  have hb2 : ¬ (c = i + 1) := by omega
  have hb3 : (i : Int) ≤ (n : Int) + 1 := by omega
  have hb4 : ¬ (c = i) := by omega
  have hm1 : Nat.min (n + 1 - i) (n - i) = n - i := Nat.min_eq_right (by omega)
  have hm2 : Nat.min 1 (n + 1 - i) = 1 := Nat.min_eq_left (by omega)
  have hmin : Nat.min (n + 1 - i) (n - i) * 3 = n * 3 - i * 3 := by rw [hm1]; omega
  have hcp1 : ∀ ty dc sc, (Builtin.copy_ #[29, 29] ty #[.slice (some ⟨b, i * 3 + 3, none⟩) (n - i) dc, .slice (some ⟨b, i * 3, none⟩) (n + 1 - i) sc]).run Tryz.prog w.drew = .ok (goInt (Nat.min (n + 1 - i) (n - i))) (w.drew.setCells b (i * 3 + 3) (us.drop (i * 3))) := fun ty dc sc =>
    run_copyN w.drew 29 29 ty 72 b (i * 3 + 3) (n - i) dc ⟨b, i * 3, none⟩ (n + 1 - i) sc 3 (us.drop (i * 3)) u29 i72 (by rw [hdl, hmin])
      (fun j v hj => by rw [Addr.add_lit]; exact hus _ v (by rwa [List.getElem?_drop] at hj))
      (fun j hj => hsp _ (by omega)) (fun j hj => hfz _) (fun v hv => h1u v (List.mem_of_mem_drop hv))
  obtain ⟨W1, hW1⟩ : ∃ W1, W1 = w.drew.setCells b (i * 3 + 3) (us.drop (i * 3)) := ⟨_, rfl⟩
  have hsp1 : ∀ k, k < n * 3 + 3 → (W1.cell? ⟨b, k, none⟩).isSome = true := fun k hk => by
    rw [hW1]
    exact some_setCells b (us.drop (i * 3)) (i * 3 + 3) w.drew (fun j hj => hsp _ (by omega)) k (hsp k hk)
  have hcp2 : ∀ (W : World), (∀ x, W.cell? x = W1.cell? x) → (∀ x, W.frozen? x = W1.frozen? x) → ∀ ty dc, (Builtin.copy_ #[29, 29] ty #[.slice (some ⟨b, i * 3, none⟩) (n + 1 - i) dc, .slice (some ⟨vb, voff, none⟩) 1 vc]).run Tryz.prog W = .ok (goInt (Nat.min 1 (n + 1 - i))) (W.setCells b (i * 3) vs) := fun W hWc hWf ty dc =>
    run_copyN W 29 29 ty 72 b (i * 3) (n + 1 - i) dc ⟨vb, voff, none⟩ 1 vc 3 vs u29 i72 (by rw [hvl, hm2])
      (fun j v hj => by
        rw [Addr.add_lit, hWc, hW1, World.cell?_setCells_out b _ _ _ _ (fun h _ => absurd h hvb)]
        exact hvs j v hj)
      (fun j hj => by rw [hWc]; exact hsp1 _ (by omega)) (fun j hj => by rw [hWf, hW1, World.frozen?_setCells]; exact hfz _) h1v
  rw [← hW1] at hcp1
  have h13 : (i + 1) * 3 = i * 3 + 3 := by omega
  clear hmin hm1 hm2 hul hvl hus hvs h1u h1v hsp hdl
  go_enter Tryz.func128, Tryz.ntmps128
  go_wp2_with (simp only [hov])
  go_region_law (refine step_copy_runN rfl _ _ 29 29 rfl _ _ (by simp [Act.eval, Act.put]) (by simp [Act.eval, Act.put]) (hcp1 _ _ _) ?_)
  go_wp2_with (at_builtin; refine wpList_copy_runN _ rfl _ _ 29 29 rfl _ _ rfl rfl (hcp2 _ (fun _ => rfl) (fun _ => rfl) _ _) ?_)
  go_ret
  first | exact ⟨rfl, rfl⟩ | exact ⟨rfl, by rw [hW1]⟩
set_option maxHeartbeats 4000000 in
set_option maxRecDepth 100000 in
theorem ins_grow (b n c i vb voff vc : Nat) (us vs zc : List Value) (w : World) (hi : i < n) (hnc : n ≤ c) (hroom : c < n + 1) (hbig : n ≤ 10000000) (hvb : vb < w.heap.size)
    (hul : us.length = n * 3) (hvl : vs.length = 3)
    (hus : ∀ (j : Nat) v, us[j]? = some v → w.cell? ⟨b, j, none⟩ = some v)
    (hvs : ∀ (j : Nat) v, vs[j]? = some v → w.cell? ⟨vb, voff + j, none⟩ = some v) (h1u : ∀ v ∈ us, v.oneCell' = true) (h1v : ∀ v ∈ vs, v.oneCell' = true)
    {i0 : TypeInfo} {z : Value} (hi0 : Tryz.prog.info? 72 = some i0) (hz0 : i0.zero = some z) (hzs : i0.size = 3) (hzb : i0.bytes = 56) (hzc : z.cells.size = 3) :
    Calls Tryz.prog 128 #[.slice (some ⟨b, 0, none⟩) n c, .int .i64 i, .slice (some ⟨vb, voff, none⟩) 1 vc] w fun e w' =>
      e = .returned (.slice (some ⟨w.heap.size, 0, none⟩) (n + 1) (grownCap w (n + 1) c 72)) ∧
      w' = (((w.alloc (.cells ((us.take (i * 3)).toArray ++ Builtin.zeroCells z.cells (n + 1 - i) ++ Builtin.zeroCells z.cells (grownCap w (n + 1) c 72 - (n + 1))) 72)).drew.setCells w.heap.size (i * 3) vs).drew).setCells w.heap.size (i * 3 + 3) (us.drop (i * 3)) := by
  have hz2 : ¬ ((i : Int) = (n : Int)) := by omega
  have hz3 : (c : Int) < (n : Int) + 1 := by omega
  have hbw : b < w.heap.size := block_lt_of_cell (hus 0 _ (List.getElem?_eq_getElem (by omega)))
  have hkk : (n : Int) + 1 - (i : Int) = ((n + 1 - i : Nat) : Int) := by omega
  have hik : i + (n + 1 - i) = n + 1 := by omega
  have hold : (Builtin.firstCells i0.size i (.slice (some ⟨b, 0, none⟩) i c)).run Tryz.prog w.drew = .ok (us.take (i * 3)).toArray w.drew := by
    rw [hzs]
    exact run_firstCells_some w.drew 3 i ⟨b, 0, none⟩ i c (us.take (i * 3)) (by rw [List.length_take]; omega) (fun j v hj => by
      rw [Addr.add_lit]
      rw [List.getElem?_take] at hj
      split at hj
      · rw [Nat.zero_add]; exact hus j v hj
      · cases hj)
  have hrz : ∀ ty, (Builtin.append_ #[29, 3] ty #[.slice (some ⟨b, 0, none⟩) i c, .int .i64 ((n : Int) + 1 - (i : Int))]).run Tryz.prog w =
      .ok (.slice (some ⟨w.heap.size, 0, none⟩) (n + 1) (grownCap w (n + 1) c 72)) (w.drew.alloc (.cells ((us.take (i * 3)).toArray ++ Builtin.zeroCells z.cells (n + 1 - i) ++ Builtin.zeroCells z.cells (grownCap w (n + 1) c 72 - (n + 1))) 72)) := fun ty => by
    have h := Lib.run_append_grow_zeros w 29 3 ty 72 i0 _ .i64 .i64 u29 (by kernel_rfl) hi0 hz0 (some ⟨b, 0, none⟩) i c (us.take (i * 3)) hold (n + 1 - i) (by omega) (by omega) (by omega) (by omega) (by rw [hzb]; omega) (by rw [hzb, hik]; exact growslice_fits hroom (by omega))
    rw [hik] at h
    rw [hkk]
    exact h
  obtain ⟨G, hG⟩ : ∃ G, G = grownCap w (n + 1) c 72 := ⟨_, rfl⟩
  obtain ⟨ROW, hROW⟩ : ∃ ROW : Array Value, ROW = (us.take (i * 3)).toArray ++ Builtin.zeroCells z.cells (n + 1 - i) ++ Builtin.zeroCells z.cells (G - (n + 1)) := ⟨_, rfl⟩
  rw [← hG] at hrz ⊢
  rw [← hROW] at hrz ⊢
  have hRl : n * 3 + 3 ≤ ROW.size := by
    rw [hROW]
    simp only [Array.size_append, size_zeroCells, hzc, List.size_toArray, List.length_take, hul]
    omega
  obtain ⟨W1, hW1⟩ : ∃ W1, W1 = w.drew.alloc (.cells ROW 72) := ⟨_, rfl⟩
  rw [← hW1] at hrz
  have hN : ∀ j, j < n * 3 + 3 → (W1.cell? ⟨w.heap.size, j, none⟩).isSome = true := fun j hj => by
    rw [hW1, World.cell?_alloc_at (w := w.drew) ROW _ w.heap.size j rfl, Array.getElem?_eq_getElem (by omega)]; rfl
  have hNf : ∀ j, W1.frozen? ⟨w.heap.size, j, none⟩ = false := fun j => by rw [hW1]; exact World.frozen?_alloc_at (w := w.drew) ROW _ w.heap.size j rfl
  have hOb : ∀ j v, w.cell? ⟨b, j, none⟩ = some v → W1.cell? ⟨b, j, none⟩ = some v := fun j v h => by rw [hW1, World.cell?_alloc_past (w := w.drew) _ b j hbw]; exact h
  have hOv : ∀ j v, w.cell? ⟨vb, j, none⟩ = some v → W1.cell? ⟨vb, j, none⟩ = some v := fun j v h => by rw [hW1, World.cell?_alloc_past (w := w.drew) _ vb j hvb]; exact h
  have hm2 : Nat.min 1 (n + 1 - i) = 1 := Nat.min_eq_left (by omega)
  have hm1 : Nat.min (n - i) (n - i) = n - i := Nat.min_self _
  have hcpA : ∀ (W : World), (∀ x, W.cell? x = W1.cell? x) → (∀ x, W.frozen? x = W1.frozen? x) → ∀ ty dc, (Builtin.copy_ #[29, 29] ty #[.slice (some ⟨w.heap.size, i * 3, none⟩) (n + 1 - i) dc, .slice (some ⟨vb, voff, none⟩) 1 vc]).run Tryz.prog W = .ok (goInt (Nat.min 1 (n + 1 - i))) (W.setCells w.heap.size (i * 3) vs) := fun W hWc hWf ty dc =>
    run_copyN W 29 29 ty 72 w.heap.size (i * 3) (n + 1 - i) dc ⟨vb, voff, none⟩ 1 vc 3 vs u29 i72 (by rw [hvl, hm2])
      (fun j v hj => by rw [Addr.add_lit, hWc]; exact hOv _ v (hvs j v hj))
      (fun j hj => by rw [hWc]; exact hN _ (by omega)) (fun j hj => by rw [hWf]; exact hNf _) h1v
  have hGn : n + 1 ≤ G := by rw [hG]; exact grownCap_ge w _ _ _
  have hG63 : G ≤ 9223372036854775807 := by
    have := grownCap_le_maxLen w (n + 1) c 72 (by unfold maxLen; omega)
    rw [← hG] at this
    unfold maxLen at this
    omega
  have hGi : ¬ (G = i) := by omega
  have hGim : ¬ (G = i + 1) := by omega
  have hci : ¬ (c = i) := by omega
  have hbN : b ≠ w.heap.size := by omega
  have hdl : (us.drop (i * 3)).length = n * 3 - i * 3 := by rw [List.length_drop, hul]
  have hcpB : ∀ (W : World), (∀ x, W.cell? x = (W1.setCells w.heap.size (i * 3) vs).cell? x) → (∀ x, W.frozen? x = (W1.setCells w.heap.size (i * 3) vs).frozen? x) → ∀ ty dc sc, (Builtin.copy_ #[29, 29] ty #[.slice (some ⟨w.heap.size, i * 3 + 3, none⟩) (n - i) dc, .slice (some ⟨b, i * 3, none⟩) (n - i) sc]).run Tryz.prog W = .ok (goInt (Nat.min (n - i) (n - i))) (W.setCells w.heap.size (i * 3 + 3) (us.drop (i * 3))) := fun W hWc hWf ty dc sc =>
    run_copyN W 29 29 ty 72 w.heap.size (i * 3 + 3) (n - i) dc ⟨b, i * 3, none⟩ (n - i) sc 3 (us.drop (i * 3)) u29 i72 (by rw [hdl, hm1]; omega)
      (fun j v hj => by
        rw [Addr.add_lit, hWc, World.cell?_setCells_out _ _ _ _ _ (fun h _ => absurd h hbN)]
        exact hOb _ v (hus _ v (by rwa [List.getElem?_drop] at hj)))
      (fun j hj => by rw [hWc]; exact some_setCells w.heap.size vs (i * 3) W1 (fun t ht => hN _ (by omega)) _ (hN _ (by omega)))
      (fun j hj => by rw [hWf, World.frozen?_setCells]; exact hNf _) (fun v hv => h1u v (List.mem_of_mem_drop hv))
  subst hW1
  have hE1 : ∀ x, ((w.alloc (.cells ROW 72)).drew).cell? x = (w.drew.alloc (.cells ROW 72)).cell? x := fun x => rfl
  have hE2 : ∀ x, ((w.alloc (.cells ROW 72)).drew).frozen? x = (w.drew.alloc (.cells ROW 72)).frozen? x := fun x => rfl
  have hF1 : ∀ x, (((w.alloc (.cells ROW 72)).drew.setCells w.heap.size (i * 3) vs).drew).cell? x = ((w.drew.alloc (.cells ROW 72)).setCells w.heap.size (i * 3) vs).cell? x := fun x => rfl
  have hF2 : ∀ x, (((w.alloc (.cells ROW 72)).drew.setCells w.heap.size (i * 3) vs).drew).frozen? x = ((w.drew.alloc (.cells ROW 72)).setCells w.heap.size (i * 3) vs).frozen? x := fun x => rfl
  have hw1 : IntKind.i64.wrap ((i : Int) + 1) = (i : Int) + 1 := by rw [IntKind.wrap_i64]; omega
  have hb1 : (0 : Int) ≤ (i : Int) + 1 := by omega
  have hin : i ≤ n := by omega
  have htn : ((i : Int) + 1).toNat = i + 1 := by omega
  have hb3 : (i : Int) ≤ (n : Int) := by omega
  have h13 : (i + 1) * 3 = i * 3 + 3 := by omega
  clear hkk hik hold hROW hG hRl hm1 hm2 hul hvl hus hvs h1u h1v hN hNf hOb hOv hdl hzs hzb hzc hz0 hi0
  go_enter Tryz.func128, Tryz.ntmps128
  go_wp2_with (first
    | (at_builtin; refine Lib.wpList_append_run _ rfl _ _ _ _ rfl _ _ rfl rfl _ _ (hrz _) ?_)
    | (at_builtin; refine wpList_copy_runN _ rfl _ _ 29 29 rfl _ _ rfl rfl (hcpA _ hE1 hE2 _ _) ?_)
    | (at_builtin; refine wpList_copy_runN _ rfl _ _ 29 29 rfl _ _ rfl rfl (hcpB _ (fun _ => rfl) (fun _ => rfl) _ _ _) ?_))
  go_region_law (refine step_copy_runN rfl _ _ 29 29 rfl (.slice (some ⟨w.heap.size, i * 3 + 3, none⟩) (n - i) (G - (i + 1))) (.slice (some ⟨b, i * 3, none⟩) (n - i) (c - i)) (by simp [Act.eval, Act.put]) (by simp [Act.eval, Act.put]) (hcpB _ hF1 hF2 3 (G - (i + 1)) (c - i)) ?_)
  go_wp2
  go_ret
  exact ⟨rfl, rfl⟩
end Go.PM
namespace Go.PM
open Go Go.Proofs
variable {B : Nat → Nat → Option Value}
theorem z72 : zerosOf Tryz.prog 72 = some [.int .i64 0, .list 0 [] .nil, .list 0 [] .nil] := by kernel_rfl
theorem b72 : (Tryz.prog.info? 72).map (·.bytes) = some 56 := by kernel_rfl
theorem setCells_eff (b : Nat) : ∀ (vs : List Value) (o : Nat) (w : World), (w.setCells b o vs).os = w.os ∧ (w.setCells b o vs).output = w.output
  | [], _, _ => ⟨rfl, rfl⟩
  | v :: vs, o, w => setCells_eff b vs (o + 1) (w.setCell ⟨b, o, none⟩ v)
theorem alloc_row (w : World) (x : Array Value) (e : Nat) : (w.alloc (.cells x e (0, 0))).heap[w.heap.size]? = some (.cells x e (0, 0)) := by
  unfold World.alloc
  exact Array.getElem?_push_size
theorem alloc_setRow (w : World) (x y : Array Value) (e : Nat) : ((w.alloc (.cells x e (0, 0))).setRow w.heap.size y).heap = (w.alloc (.cells y e (0, 0))).heap := by
  simp only [World.setRow, World.alloc]
  apply Array.ext_getElem?
  intro i
  simp only [Array.getElem?_modify, Array.getElem?_push]
  by_cases hi : w.heap.size = i
  · subst hi; simp
  · rw [if_neg hi, if_neg (fun h => hi h.symm), if_neg (fun h => hi h.symm)]
theorem cells_at {w : World} {b k : Nat} {u : Value} (h : w.cell? ⟨b, k, none⟩ = some u) : ∃ c e f, w.heap[b]? = some (.cells c e f) ∧ c[k]? = some u := by
  unfold World.cell? at h
  split at h
  · rename_i c e f hc
    exact ⟨c, e, f, hc, by simpa using h⟩
  · cases h
def InsTo (G : Gh) (w : World) (x y : Value) (i : Nat) (p : PV) (ns : List Nat) : Prop := Calls Tryz.prog 128 #[x, .int .i64 (i : Int), y] w fun e w' => ∃ v G', e = .returned v ∧ R G' p v ∧ Inv Tryz.prog B G' (stB ns []) w' ∧ Step G w G' w' ∧ G'.bx = G.bx
theorem stB_nil1 : (stB [] []).more [1] = stB [1] [] := by
  unfold St.more stB
  congr 1
theorem ins_nil {G : Gh} {w : World} {ds : List PV} {x y : Value} (hI : Inv Tryz.prog B G (stB [] []) w) (hx : R G (.list 0 [] .nil) x) (hy : R G (.list 1 ds .no) y) (hd : ds.length = 3) : InsTo (B := B) G w x y 0 (.list 1 ds (.own 0 72)) [1] := by
  have h0 := u29
  have hi72 := i72
  have hb72 := b72
  cases hq : Tryz.prog.info? 72 with
  | none => rw [hq] at hi72; cases hi72
  | some i0 =>
  rw [hq] at hi72 hb72
  have hs : i0.size = 3 := Option.some.inj hi72
  have hb : i0.bytes = 56 := Option.some.inj hb72
  obtain ⟨v, w', G', hrun, hR, hI', _, hS, hbx⟩ := run_app (ty := 29) (t := 29) (e := 72) (i := i0) (n := 0) (m := 1) (cs := []) (ds := ds) hI u29 hq z72 (by rw [hs]; rfl) hx hy (by rfl) trivial (by simp) (by rw [hd, hs]) (by rw [hb]; decide) (by decide) (by omega) (fun _ h => by cases h)
  cases hx with
  | list _ _ _ _ _ _ _ _ _ _ _ _ ht => exact absurd ht (by simp [TokR])
  | listN =>
  cases hy with
  | list _ _ _ yb yo yc vs hm hl hc hr h1 ht hp hx' =>
  refine (ins_end none 0 0 yc ⟨yb, yo, none⟩ w w' v (Nat.le_refl _) (by omega) (fun _ => rfl) (fun ty => hrun)).mono fun e w1 h => ?_
  obtain ⟨rfl, rfl⟩ := h
  refine ⟨v, G', rfl, ?_, ?_, hS, hbx⟩
  · have e : famOf (stB [] []) .nil = 0 := rfl
    rw [e] at hR; simpa using hR
  · have e : famSt (stB [] []) (0 + 1) .nil = stB [1] [] := stB_nil1
    rw [e] at hI'; exact hI'
set_option maxHeartbeats 1000000 in
theorem ins_own {G : Gh} {w : World} {n i : Nat} {ns : List Nat} {cs ds : List PV} {x y : Value} (hI : Inv Tryz.prog B G (stB (n :: ns) []) w) (hx : R G (.list n cs (.own 0 72)) x) (hy : R G (.list 1 ds .no) y)
    (hc : cs.length = n * 3) (hd : ds.length = 3) (hi : i ≤ n) (hn : n ≤ 10000000) (hn1 : nps cs = true) (hn2 : nps ds = true) (ht1 : tfs ([0].contains ·) cs = true) (ht2 : tfs ([0].contains ·) ds = true) :
    InsTo (B := B) G w x y i (.list (n + 1) (cs.take (i * 3) ++ ds ++ cs.drop (i * 3)) (.own 0 72)) ((n + 1) :: ns) := by
  have hi72 := i72
  have hb72 := b72
  cases hq : Tryz.prog.info? 72 with
  | none => rw [hq] at hi72; cases hi72
  | some i0 =>
  rw [hq] at hi72 hb72
  have hs : i0.size = 3 := Option.some.inj hi72
  have hb : i0.bytes = 56 := Option.some.inj hb72
  have hcan : can (stB (n :: ns) []) n (.own 0 72) = true := by simp [can, stB]
  have hbb : byteBound = 140737488355328 := rfl
  obtain ⟨v, w1, G1, hrun, hR1, hI1, _, hS1, hbx1⟩ := run_app (ty := 29) (t := 29) (e := 72) (i := i0) (n := n) (m := 1) (cs := cs) (ds := ds) hI u29 hq z72 (by rw [hs]; rfl) hx hy hcan rfl (by rw [hs, hc]) (by rw [hd, hs]) (by rw [hb, hbb]; omega) (by rw [hbb]; omega) (by omega) (fun _ h => by cases h)
  have e1 : famOf (stB (n :: ns) []) (.own 0 72) = 0 := rfl
  have e2 : famSt (stB (n :: ns) []) (n + 1) (.own 0 72) = stB ((n + 1) :: ns) [] := stB_count n (n + 1) ns
  rw [e1] at hR1
  rw [e2] at hI1
  cases hy with
  | list _ _ _ yb yo yc vs hm hyl hyc hyr hy1 hyt hyp hyx =>
  have hvl : vs.length = 3 := by rw [← hyl, hd]
  have hnews : ∀ (j : Nat) (u : Value), vs[j]? = some u → w.cell? ((⟨yb, yo, none⟩ : Addr).add j) = some u := fun j u hj => by rw [Addr.add_lit]; exact hI.com _ _ _ (hyc j u hj)
  have hnews' : ∀ (j : Nat) (u : Value), vs[j]? = some u → w.cell? ⟨yb, yo + j, none⟩ = some u := fun j u hj => hI.com _ _ _ (hyc j u hj)
  have hvne : vs ≠ [] := by rintro rfl; simp at hvl
  by_cases hin : i = n
  · subst hin
    have h1 : cs.take (i * 3) = cs := List.take_of_length_le (by omega)
    have h2 : cs.drop (i * 3) = [] := List.drop_eq_nil_of_le (by omega)
    rw [h1, h2, List.append_nil]
    cases hx with
    | listN =>
      refine (ins_end none 0 0 yc ⟨yb, yo, none⟩ w w1 v (Nat.le_refl _) (by omega) (fun _ => rfl) (fun ty => hrun)).mono fun e w1 h => ?_
      obtain ⟨rfl, rfl⟩ := h
      exact ⟨v, G1, rfl, hR1, hI1, hS1, hbx1⟩
    | list _ _ _ xb xo xc us hnc hxl hxc hxr hx1 hxt hxp hxx =>
      obtain ⟨x0, hx0⟩ := hI.live 0 (by simp [stB])
      have hcnt := (hI.cnt 0 x0 hx0).2
      have hcap : xc ≤ 9223372036854775807 := by
        have hxn : x0.cnt = i := by rw [← hcnt]; simp [stB]
        have := (hxt.2 x0 hx0).2 hxn.symm
        cases x0 with
        | full m => have := this.1; omega
        | room r =>
          obtain ⟨_, _, hrc, _⟩ := this
          have := (hI.room 0 r hx0).2.1
          rw [hrc] at this
          exact this
      refine (ins_end (some ⟨xb, xo, none⟩) i xc yc ⟨yb, yo, none⟩ w w1 v hnc hcap (fun h => by cases h) (fun ty => hrun)).mono fun e w1 h => ?_
      obtain ⟨rfl, rfl⟩ := h
      exact ⟨v, G1, rfl, hR1, hI1, hS1, hbx1⟩
  have hlt : i < n := by omega
  cases hx with
  | listN => omega
  | list _ _ _ xb xo xc us hnc hxl hxc hxr hx1 hxt hxp hxx =>
  obtain ⟨x0, hx0⟩ := hI.live 0 (by simp [stB])
  have hcnt := (hI.cnt 0 x0 hx0).2
  have hxn : x0.cnt = n := by rw [← hcnt]; simp [stB]
  have h4 := (hxt.2 x0 hx0).2 hxn.symm
  cases x0 with
  | full m => have := hI.ful 0 m hx0; simp only [TkE.cnt] at hxn; omega
  | room r =>
  obtain ⟨rfl, rfl, hrc, hre, hrl⟩ := h4
  obtain ⟨hsh, hcm, hmc, hsz, hno, hxr⟩ := hI.room 0 r hx0
  have hpv : G.pv r.b = some 0 := (hI.priv 0 r hx0).1 (Nat.le_refl _)
  have hul : us.length = n * 3 := by rw [← hxl, hc]
  have hus : ∀ (j : Nat) (u : Value), us[j]? = some u → w.cell? ⟨r.b, j, none⟩ = some u := fun j u hj => by have := hI.com _ _ _ (hxc j u hj); rwa [Nat.zero_add] at this
  have hszr : r.sz = 3 := by
    have : szOf Tryz.prog 72 = some 3 := by unfold szOf; rw [hq]; simp [hs]
    rw [hre, this] at hsz; exact (Option.some.inj hsz).symm
  obtain ⟨cur, hcur, hcs⟩ := hI.sh _ _ _ hsh
  rw [hrc, hszr] at hcs
  rw [hre] at hcur
  have hvb : yb ≠ r.b := by
    rintro rfl
    have := hyp 0 hvne hpv
    cases this
  have hxcap : xc ≤ 9223372036854775807 := by rw [hrc] at hcm; exact hcm
  have hyw : yb < w.heap.size := block_lt_of_cell (hnews' 0 _ (List.getElem?_eq_getElem (by omega)))
  have hlen1 : (us.drop (i * 3)).length = n * 3 - i * 3 := by rw [List.length_drop, hul]
  have hx0l : cur.toList.length = xc * 3 := by simpa using hcs
  have htk : cur.toList.take (n * 3) = us := by
    apply List.ext_getElem?
    intro j
    by_cases hj : j < n * 3
    · have := hus j us[j] (List.getElem?_eq_getElem (by omega))
      simp only [World.cell?, hcur, Option.isSome_none, Bool.false_eq_true, if_false] at this
      rw [List.getElem?_take_of_lt hj, Array.getElem?_toList, this, List.getElem?_eq_getElem (by omega)]
    · rw [List.getElem?_eq_none (by rw [List.length_take]; omega), List.getElem?_eq_none (by omega)]
  by_cases hroom : n + 1 ≤ xc
  ·
    have hsp : ∀ j, j < n * 3 + 3 → (w.cell? ⟨r.b, j, none⟩).isSome = true := fun j hj => by
      simp only [World.cell?, hcur, Option.isSome_none, Bool.false_eq_true, if_false]
      rw [Array.getElem?_eq_getElem (by omega)]; rfl
    have hfz : ∀ j, w.frozen? ⟨r.b, j, none⟩ = false := fun j => by simp [World.frozen?, hcur]
    have hsrc : Src Tryz.prog i0.size 29 (.slice (some ⟨yb, yo, none⟩) 1 yc) 1 vs w := Src.ofSlice w u29 ⟨yb, yo, none⟩ 1 yc vs (by rw [hvl, hs]) hnews hy1
    have hr2 := run_append_room_src w 29 29 29 72 i0 u29 hq r.b 0 n xc _ 1 vs hsrc hroom (fun j hj => by rw [hs]; exact hsp _ (by omega)) (fun j _ => hfz _)
    rw [hrun] at hr2
    obtain ⟨rfl, rfl⟩ := Result.ok.inj hr2
    rw [hs, Nat.zero_add] at hI1 hS1
    have hcur' : w.heap[r.b]? = some (.cells cur.toList.toArray 72 (0, 0)) := by simpa using hcur
    have hw1 := setCells_row r.b vs (n * 3) w cur.toList hcur' (by omega)
    rw [htk, hvl] at hw1
    rw [hw1] at hI1 hS1
    have hrow := setRow_heap w r.b _ (us ++ vs ++ cur.toList.drop (n * 3 + 3)).toArray 72 (0, 0) hcur
    obtain ⟨k, hk⟩ : ∃ k, xc * 3 = k + 1 := ⟨xc * 3 - 1, by omega⟩
    have hov : ∀ o lb cb, (callFunc 174 #[.slice (some ⟨yb, yo, none⟩) 1 yc, .slice (some ⟨r.b, o, none⟩) lb cb]).run Tryz.prog w = .ok (.value (.bool false)) w := fun o lb cb => by
      obtain ⟨ra, ta, fa, ha, ha0⟩ := cells_at (hnews' 0 _ (List.getElem?_eq_getElem (by omega)))
      rw [run_callFunc_extern Tryz.func174 (by kernel_rfl) (by kernel_rfl) (by kernel_rfl) (e := Extern.SlicesOverlaps.overlaps #[29, 29] #[4]) (by kernel_rfl),
        run_overlaps_no w 29 4 72 u29 3 i72 ⟨yb, yo, none⟩ ⟨r.b, o, none⟩ 1 yc lb cb hvb ha hcur (fun h => by
          rw [Array.getElem?_eq_none (by omega)] at ha0; cases ha0) (by omega)]
      rfl
    refine (ins_room r.b n xc i yb yo yc us vs w hlt hroom hxcap hvb hul hvl hus hsp hfz hnews' hx1 hy1 hov).mono fun e w2 h => ?_
    obtain ⟨rfl, rfl⟩ := h
    have hy2 := setCells_row r.b (us.drop (i * 3)) (i * 3 + 3) w.drew cur.toList hcur' (by omega)
    have hrow2 := setRow_heap w.drew r.b _ (cur.toList.take (i * 3 + 3) ++ us.drop (i * 3) ++ cur.toList.drop (i * 3 + 3 + (us.drop (i * 3)).length)).toArray 72 (0, 0) hcur
    have hl2 : (cur.toList.take (i * 3 + 3) ++ us.drop (i * 3) ++ cur.toList.drop (i * 3 + 3 + (us.drop (i * 3)).length)).length = xc * 3 := by
      simp only [List.length_append, List.length_take, List.length_drop, hul, hx0l]; omega
    have hy3 := setCells_row r.b vs (i * 3) _ _ hrow2 (by rw [hl2]; omega)
    have hfin : (cur.toList.take (i * 3 + 3) ++ us.drop (i * 3) ++ cur.toList.drop (i * 3 + 3 + (us.drop (i * 3)).length)).take (i * 3) ++ vs ++ (cur.toList.take (i * 3 + 3) ++ us.drop (i * 3) ++ cur.toList.drop (i * 3 + 3 + (us.drop (i * 3)).length)).drop (i * 3 + vs.length) = us.take (i * 3) ++ vs ++ us.drop (i * 3) ++ cur.toList.drop (n * 3 + 3) := by
      have ha : (cur.toList.take (i * 3 + 3)).length = i * 3 + 3 := by rw [List.length_take]; omega
      rw [hvl, hlen1, show i * 3 + 3 + (n * 3 - i * 3) = n * 3 + 3 by omega, List.append_assoc (cur.toList.take (i * 3 + 3)), List.take_append_of_le_length (by omega), List.take_take, Nat.min_eq_left (by omega), List.drop_left' ha, ← htk, List.take_take, Nat.min_eq_left (by omega)]
      simp only [List.append_assoc]
    rw [hfin] at hy3
    obtain ⟨G2, hR2, hI2, hS2, hbx2⟩ := ins_fin (w2 := (w.drew.setCells r.b (i * 3 + 3) (us.drop (i * 3))).setCells r.b (i * 3) vs) (us := us) (vs := vs) (rest := cur.toList.drop (n * 3 + 3)) hR1 hI1 hc hd hul hvl hi hrow ht1 ht2 hn1 hn2 (by
      rw [hy2, hy3, setRow_setRow, setRow_setRow]; rfl) (by rw [hy2, hy3]; exact ⟨rfl, rfl⟩)
    exact ⟨_, G2, rfl, hR2, hI2, hS1.trans hS2, hbx2.trans hbx1⟩
  ·
    obtain ⟨i0', z, hi', hzz, hRz, _⟩ := zeros_of (P := Tryz.prog) (G := G) z72
    rw [hq] at hi'; cases hi'
    have hzc : z.cells.size = 3 := by have := hRz.1; simpa using this.symm
    have hsrc : Src Tryz.prog i0.size 29 (.slice (some ⟨yb, yo, none⟩) 1 yc) 1 vs w := Src.ofSlice w u29 ⟨yb, yo, none⟩ 1 yc vs (by rw [hvl, hs]) hnews hy1
    have hold : (Builtin.firstCells i0.size n (.slice (some ⟨r.b, 0, none⟩) n xc)).run Tryz.prog w.drew = .ok us.toArray w.drew :=
      run_firstCells_some w.drew i0.size n ⟨r.b, 0, none⟩ n xc us (by rw [hul, hs]) (fun j v hj => by rw [Addr.add_lit, Nat.zero_add]; exact hus j v hj)
    have hr2 := run_append_grow_src w 29 29 29 72 i0 z u29 hq hzz (some ⟨r.b, 0, none⟩) n xc us hold _ 1 vs hsrc (by omega) (by omega) (by rw [hb]; exact growslice_fits (by omega) (by omega))
    rw [hrun] at hr2
    obtain ⟨rfl, rfl⟩ := Result.ok.inj hr2
    have hrow : (w.drew.alloc (.cells ((us ++ vs).toArray ++ Builtin.zeroCells z.cells (grownCap w (n + 1) xc 72 - (n + 1))) 72)).heap[w.heap.size]? = some (.cells (us ++ vs ++ (Builtin.zeroCells z.cells (grownCap w (n + 1) xc 72 - (n + 1))).toList).toArray 72 (0, 0)) := by
      refine (alloc_row w.drew ((us ++ vs).toArray ++ Builtin.zeroCells z.cells (grownCap w (n + 1) xc 72 - (n + 1))) 72).trans ?_
      generalize Builtin.zeroCells z.cells (grownCap w (n + 1) xc 72 - (n + 1)) = Z
      refine congrArg (fun q => some (Obj.cells q 72 (0, 0))) ?_
      apply Array.ext'
      simp
    refine (ins_grow r.b n xc i yb yo yc us vs [] w hlt hnc (by omega) hn hyw hul hvl hus hnews' hx1 hy1 hq hzz hs hb hzc).mono fun e w2 h => ?_
    obtain ⟨rfl, rfl⟩ := h
    generalize grownCap w (n + 1) xc 72 = cap at *
    generalize hZ1 : Builtin.zeroCells z.cells (n + 1 - i) = Z1
    have hZl : Z1.toList.length = n * 3 + 3 - i * 3 := by rw [← hZ1]; simp only [Array.length_toList, size_zeroCells, hzc]; omega
    generalize Builtin.zeroCells z.cells (cap - (n + 1)) = Z2 at hrow hR1 hI1 hS1 ⊢
    have htl : (us.take (i * 3)).length = i * 3 := by rw [List.length_take]; omega
    have hA := alloc_row w.drew ((us.take (i * 3)).toArray ++ Z1 ++ Z2) 72
    have hA1 : ((us.take (i * 3)).toArray ++ Z1 ++ Z2) = (us.take (i * 3) ++ Z1.toList ++ Z2.toList).toArray := by apply Array.ext'; simp
    rw [hA1] at hA
    have hy2 := setCells_row w.heap.size vs (i * 3) (w.drew.alloc (.cells (us.take (i * 3) ++ Z1.toList ++ Z2.toList).toArray 72 (0, 0))) _ hA (by simp only [List.length_append]; omega)
    have hrow2 := setRow_heap (w.drew.alloc (.cells (us.take (i * 3) ++ Z1.toList ++ Z2.toList).toArray 72 (0, 0))) w.heap.size _ ((us.take (i * 3) ++ Z1.toList ++ Z2.toList).take (i * 3) ++ vs ++ (us.take (i * 3) ++ Z1.toList ++ Z2.toList).drop (i * 3 + vs.length)).toArray 72 (0, 0) hA
    have hfirst : (us.take (i * 3) ++ Z1.toList ++ Z2.toList).take (i * 3) ++ vs ++ (us.take (i * 3) ++ Z1.toList ++ Z2.toList).drop (i * 3 + vs.length) = us.take (i * 3) ++ vs ++ (Z1.toList.drop 3 ++ Z2.toList) := by
      rw [hvl, List.append_assoc (us.take (i * 3))]
      have h1 : (us.take (i * 3) ++ (Z1.toList ++ Z2.toList)).take (i * 3) = us.take (i * 3) := by
        have := List.take_left (l₁ := us.take (i * 3)) (l₂ := Z1.toList ++ Z2.toList); rwa [htl] at this
      rw [h1]
      refine congrArg (us.take (i * 3) ++ vs ++ ·) ?_
      rw [← List.drop_drop]
      have h2 : (us.take (i * 3) ++ (Z1.toList ++ Z2.toList)).drop (i * 3) = Z1.toList ++ Z2.toList := by
        have := List.drop_left (l₁ := us.take (i * 3)) (l₂ := Z1.toList ++ Z2.toList); rwa [htl] at this
      rw [h2, List.drop_append_of_le_length (by omega)]
    rw [hfirst] at hy2 hrow2
    have hy3 := setCells_row w.heap.size (us.drop (i * 3)) (i * 3 + 3) ((w.drew.alloc (.cells (us.take (i * 3) ++ Z1.toList ++ Z2.toList).toArray 72 (0, 0))).setRow w.heap.size (us.take (i * 3) ++ vs ++ (Z1.toList.drop 3 ++ Z2.toList)).toArray) _ hrow2 (by simp only [List.length_append, List.length_drop]; omega)
    have hfin : (us.take (i * 3) ++ vs ++ (Z1.toList.drop 3 ++ Z2.toList)).take (i * 3 + 3) ++ us.drop (i * 3) ++ (us.take (i * 3) ++ vs ++ (Z1.toList.drop 3 ++ Z2.toList)).drop (i * 3 + 3 + (us.drop (i * 3)).length) = us.take (i * 3) ++ vs ++ us.drop (i * 3) ++ Z2.toList := by
      have h0 : (us.take (i * 3) ++ vs).length = i * 3 + 3 := by rw [List.length_append, htl, hvl]
      have h1 : (us.take (i * 3) ++ vs ++ (Z1.toList.drop 3 ++ Z2.toList)).take (i * 3 + 3) = us.take (i * 3) ++ vs := by
        have := List.take_left (l₁ := us.take (i * 3) ++ vs) (l₂ := Z1.toList.drop 3 ++ Z2.toList); rwa [h0] at this
      have h2 : (us.take (i * 3) ++ vs ++ (Z1.toList.drop 3 ++ Z2.toList)).drop (i * 3 + 3) = Z1.toList.drop 3 ++ Z2.toList := by
        have := List.drop_left (l₁ := us.take (i * 3) ++ vs) (l₂ := Z1.toList.drop 3 ++ Z2.toList); rwa [h0] at this
      rw [h1, ← List.drop_drop, h2, hlen1, show n * 3 - i * 3 = (Z1.toList.drop 3).length by rw [List.length_drop, hZl]; omega, List.drop_left]
    rw [hfin] at hy3
    obtain ⟨G2, hR2, hI2, hS2, hbx2⟩ := ins_fin (us := us) (vs := vs) (rest := Z2.toList) (w2 := (((w.alloc (.cells ((us.take (i * 3)).toArray ++ Z1 ++ Z2) 72)).drew.setCells w.heap.size (i * 3) vs).drew).setCells w.heap.size (i * 3 + 3) (us.drop (i * 3))) hR1 hI1 hc hd hul hvl hi hrow ht1 ht2 hn1 hn2 (by
      rw [hA1]
      have q1 : ((w.alloc (.cells (us.take (i * 3) ++ Z1.toList ++ Z2.toList).toArray 72)).drew.setCells w.heap.size (i * 3) vs).drew.setCells w.heap.size (i * 3 + 3) (us.drop (i * 3)) = (((w.drew.alloc (.cells (us.take (i * 3) ++ Z1.toList ++ Z2.toList).toArray 72 (0, 0))).setCells w.heap.size (i * 3) vs).setCells w.heap.size (i * 3 + 3) (us.drop (i * 3))).drew := by
        have dc : ∀ (b : Nat) (vs : List Value) (o : Nat) (w : World), (w.drew).setCells b o vs = (w.setCells b o vs).drew := fun b vs => by
          induction vs with
          | nil => intro o w; rfl
          | cons v vs ih => intro o w; rw [World.setCells, World.setCells, ← ih]; rfl
        rw [dc]; rfl
      rw [q1, hy2, hy3, setRow_setRow]
      show ((w.drew.alloc _).setRow w.drew.heap.size _).heap = ((w.drew.alloc _).setRow w.drew.heap.size _).heap
      rw [alloc_setRow, alloc_setRow]) (by
      obtain ⟨a1, a2⟩ := setCells_eff w.heap.size (us.drop (i * 3)) (i * 3 + 3) ((w.alloc (.cells ((us.take (i * 3)).toArray ++ Z1 ++ Z2) 72)).drew.setCells w.heap.size (i * 3) vs).drew
      obtain ⟨b1, b2⟩ := setCells_eff w.heap.size vs (i * 3) (w.alloc (.cells ((us.take (i * 3)).toArray ++ Z1 ++ Z2) 72)).drew
      exact ⟨a1.trans b1, a2.trans b2⟩)
    exact ⟨_, G2, rfl, hR2, hI2, hS1.trans hS2, hbx2.trans hbx1⟩
end Go.PM
namespace Go.Proofs
open Go.Shelf
def Tryz.laysM173_ren : Go.Shelf.Ren := ⟨fun | 173 => 135 | 246 => 177 | 283 => 194 | 284 => 195 | 285 => 196 | 286 => 197 | 129 => 146 | 317 => 205 | 318 => 206 | 319 => 207 | 320 => 208 | 337 => 229 | 338 => 230 | n => n, fun | 2 => 2 | 3 => 3 | 9 => 9 | 4 => 4 | 171 => 212 | 0 => 0 | 53 => 170 | 37 => 134 | 5 => 5 | 173 => 214 | 212 => 232 | 51 => 168 | 20 => 20 | 213 => 233 | 46 => 138 | 232 => 255 | 233 => 256 | n => n, fun | 17 => 0 | 18 => 1 | 19 => 2 | n => n⟩
theorem Tryz.laysM173 : Go.Proofs.LaysM.n173 Tryz.prog Tryz.laysM173_ren := {
  mixed := by kernel_rfl
  f129 := Tryz.func146.trans (congrArg some (by kernel_rfl))
  f173 := Tryz.func135.trans (congrArg some (by kernel_rfl))
  f246 := Tryz.func177.trans (congrArg some (by kernel_rfl))
  f283 := Tryz.func194.trans (congrArg some (by kernel_rfl))
  f284 := Tryz.func195.trans (congrArg some (by kernel_rfl))
  f285 := Tryz.func196.trans (congrArg some (by kernel_rfl))
  f286 := Tryz.func197.trans (congrArg some (by kernel_rfl))
  f317 := Tryz.func205.trans (congrArg some (by kernel_rfl))
  f318 := Tryz.func206.trans (congrArg some (by kernel_rfl))
  f319 := Tryz.func207.trans (congrArg some (by kernel_rfl))
  f320 := Tryz.func208.trans (congrArg some (by kernel_rfl))
  f337 := Tryz.func229.trans (congrArg some (by kernel_rfl))
  f338 := Tryz.func230.trans (congrArg some (by kernel_rfl))
  t0 := Tryz.underlying0
  a0 := Tryz.isAgg0
  z0 := Tryz.sizeOf0
  v0 := Tryz.zeroValue0
  t2 := Tryz.underlying2
  a2 := Tryz.isAgg2
  z2 := Tryz.sizeOf2
  v2 := Tryz.zeroValue2
  t3 := Tryz.underlying3
  a3 := Tryz.isAgg3
  z3 := Tryz.sizeOf3
  v3 := Tryz.zeroValue3
  t4 := Tryz.underlying4
  a4 := Tryz.isAgg4
  z4 := Tryz.sizeOf4
  v4 := Tryz.zeroValue4
  t5 := Tryz.underlying5
  a5 := Tryz.isAgg5
  z5 := Tryz.sizeOf5
  v5 := Tryz.zeroValue5
  t9 := Tryz.underlying9
  a9 := Tryz.isAgg9
  z9 := Tryz.sizeOf9
  v9 := Tryz.zeroValue9
  t20 := Tryz.underlying20
  a20 := Tryz.isAgg20
  z20 := Tryz.sizeOf20
  v20 := Tryz.zeroValue20
  t37 := Tryz.underlying134
  a37 := Tryz.isAgg134
  z37 := Tryz.sizeOf134
  v37 := Tryz.zeroValue134
  t46 := Tryz.underlying138
  a46 := Tryz.isAgg138
  z46 := Tryz.sizeOf138
  v46 := Tryz.zeroValue138
  t51 := Tryz.underlying168
  a51 := Tryz.isAgg168
  z51 := Tryz.sizeOf168
  v51 := Tryz.zeroValue168
  t53 := Tryz.underlying170
  a53 := Tryz.isAgg170
  z53 := Tryz.sizeOf170
  v53 := Tryz.zeroValue170
  t171 := Tryz.underlying212
  a171 := Tryz.isAgg212
  z171 := Tryz.sizeOf212
  v171 := Tryz.zeroValue212
  t173 := Tryz.underlying214
  a173 := Tryz.isAgg214
  z173 := Tryz.sizeOf214
  v173 := Tryz.zeroValue214
  t212 := Tryz.underlying232
  a212 := Tryz.isAgg232
  z212 := Tryz.sizeOf232
  v212 := Tryz.zeroValue232
  t213 := Tryz.underlying233
  a213 := Tryz.isAgg233
  z213 := Tryz.sizeOf233
  t232 := Tryz.underlying255
  a232 := Tryz.isAgg255
  z232 := Tryz.sizeOf255
  v232 := Tryz.zeroValue255
  t233 := Tryz.underlying256
  a233 := Tryz.isAgg256
  z233 := Tryz.sizeOf256
  v233 := Tryz.zeroValue256
  g17 := by kernel_rfl
  g18 := by kernel_rfl
  g19 := by kernel_rfl
  i0 := by kernel_rfl
  i2 := by kernel_rfl
  i3 := by kernel_rfl
  i4 := by kernel_rfl
  i5 := by kernel_rfl
  i9 := by kernel_rfl
  i20 := by kernel_rfl
  i37 := by kernel_rfl
  i46 := by kernel_rfl
  i51 := by kernel_rfl
  i53 := by kernel_rfl
  i171 := by kernel_rfl
  i173 := by kernel_rfl
  i212 := by kernel_rfl
  i232 := by kernel_rfl
  i233 := by kernel_rfl
  m17 := by kernel_rfl
  m18 := by kernel_rfl
  m19 := by kernel_rfl }
open Go.RowKit Go.Sort Go.Lib in
theorem Tryz.strconv_FormatInt_10 (n : Int) (h0 : -9223372036854775808 ≤ n) (h1 : n ≤ 9223372036854775807) (w : World) (htab : Lib.TabIs Tryz.prog w "internal/strconv.uint64pow10" .u64 Lib.pow10Tab) :
    Calls Tryz.prog 135 #[.int .i64 n, .int .i64 10] w fun e w' => e = .returned (.string ⟨(Lib.itoa n).toArray⟩) ∧ ∃ k os, w' = grow (w.drewN k) os := Any.strconv_FormatInt_10 Tryz.laysM173 n h0 h1 w htab
def Tryz.laysC174_ren : Go.Shelf.Ren := ⟨fun | 174 => 239 | 247 => 246 | 245 => 247 | 287 => 249 | 279 => 250 | 280 => 251 | 281 => 252 | 282 => 253 | 321 => 254 | 322 => 255 | 316 => 256 | 171 => 258 | 205 => 257 | 243 => 259 | 246 => 177 | 283 => 194 | 284 => 195 | 285 => 196 | 286 => 197 | 129 => 146 | 317 => 205 | 318 => 206 | 319 => 207 | 320 => 208 | 337 => 229 | 338 => 230 | n => n, fun | 9 => 9 | 3 => 3 | 2 => 2 | 75 => 251 | 85 => 252 | 4 => 4 | 167 => 258 | 5 => 5 | 53 => 170 | 175 => 259 | 46 => 138 | 168 => 261 | 37 => 134 | 0 => 0 | 210 => 267 | 21 => 21 | 127 => 269 | 145 => 272 | 143 => 270 | 171 => 212 | 173 => 214 | 212 => 232 | 51 => 168 | 20 => 20 | 213 => 233 | 232 => 255 | 233 => 256 | 80 => 236 | n => n, fun | 15 => 3 | 16 => 4 | 17 => 0 | 18 => 1 | 19 => 2 | n => n⟩
theorem Tryz.laysC174 : Go.Proofs.LaysC.n174 Tryz.prog Tryz.laysC174_ren := {
  mixed := by kernel_rfl
  f129 := Tryz.func146.trans (congrArg some (by kernel_rfl))
  f171 := Tryz.func258.trans (congrArg some (by kernel_rfl))
  f174 := Tryz.func239.trans (congrArg some (by kernel_rfl))
  f205 := Tryz.func257.trans (congrArg some (by kernel_rfl))
  f243 := Tryz.func259.trans (congrArg some (by kernel_rfl))
  f245 := Tryz.func247.trans (congrArg some (by kernel_rfl))
  f246 := Tryz.func177.trans (congrArg some (by kernel_rfl))
  f247 := Tryz.func246.trans (congrArg some (by kernel_rfl))
  f279 := Tryz.func250.trans (congrArg some (by kernel_rfl))
  f280 := Tryz.func251.trans (congrArg some (by kernel_rfl))
  f281 := Tryz.func252.trans (congrArg some (by kernel_rfl))
  f282 := Tryz.func253.trans (congrArg some (by kernel_rfl))
  f283 := Tryz.func194.trans (congrArg some (by kernel_rfl))
  f284 := Tryz.func195.trans (congrArg some (by kernel_rfl))
  f285 := Tryz.func196.trans (congrArg some (by kernel_rfl))
  f286 := Tryz.func197.trans (congrArg some (by kernel_rfl))
  f287 := Tryz.func249.trans (congrArg some (by kernel_rfl))
  f316 := Tryz.func256.trans (congrArg some (by kernel_rfl))
  f317 := Tryz.func205.trans (congrArg some (by kernel_rfl))
  f318 := Tryz.func206.trans (congrArg some (by kernel_rfl))
  f319 := Tryz.func207.trans (congrArg some (by kernel_rfl))
  f320 := Tryz.func208.trans (congrArg some (by kernel_rfl))
  f321 := Tryz.func254.trans (congrArg some (by kernel_rfl))
  f322 := Tryz.func255.trans (congrArg some (by kernel_rfl))
  f337 := Tryz.func229.trans (congrArg some (by kernel_rfl))
  f338 := Tryz.func230.trans (congrArg some (by kernel_rfl))
  t0 := Tryz.underlying0
  a0 := Tryz.isAgg0
  z0 := Tryz.sizeOf0
  v0 := Tryz.zeroValue0
  t2 := Tryz.underlying2
  a2 := Tryz.isAgg2
  z2 := Tryz.sizeOf2
  v2 := Tryz.zeroValue2
  t3 := Tryz.underlying3
  a3 := Tryz.isAgg3
  z3 := Tryz.sizeOf3
  v3 := Tryz.zeroValue3
  t4 := Tryz.underlying4
  a4 := Tryz.isAgg4
  z4 := Tryz.sizeOf4
  v4 := Tryz.zeroValue4
  t5 := Tryz.underlying5
  a5 := Tryz.isAgg5
  z5 := Tryz.sizeOf5
  v5 := Tryz.zeroValue5
  t9 := Tryz.underlying9
  a9 := Tryz.isAgg9
  z9 := Tryz.sizeOf9
  v9 := Tryz.zeroValue9
  t20 := Tryz.underlying20
  a20 := Tryz.isAgg20
  z20 := Tryz.sizeOf20
  v20 := Tryz.zeroValue20
  t21 := Tryz.underlying21
  a21 := Tryz.isAgg21
  z21 := Tryz.sizeOf21
  v21 := Tryz.zeroValue21
  t37 := Tryz.underlying134
  a37 := Tryz.isAgg134
  z37 := Tryz.sizeOf134
  v37 := Tryz.zeroValue134
  t46 := Tryz.underlying138
  a46 := Tryz.isAgg138
  z46 := Tryz.sizeOf138
  v46 := Tryz.zeroValue138
  t51 := Tryz.underlying168
  a51 := Tryz.isAgg168
  z51 := Tryz.sizeOf168
  v51 := Tryz.zeroValue168
  t53 := Tryz.underlying170
  a53 := Tryz.isAgg170
  z53 := Tryz.sizeOf170
  v53 := Tryz.zeroValue170
  t75 := Tryz.underlying251
  a75 := Tryz.isAgg251
  z75 := Tryz.sizeOf251
  v75 := Tryz.zeroValue251
  t85 := Tryz.underlying252
  a85 := Tryz.isAgg252
  z85 := Tryz.sizeOf252
  v85 := Tryz.zeroValue252
  t127 := Tryz.underlying269
  a127 := Tryz.isAgg269
  z127 := Tryz.sizeOf269
  v127 := Tryz.zeroValue269
  t143 := Tryz.underlying270
  a143 := Tryz.isAgg270
  z143 := Tryz.sizeOf270
  v143 := Tryz.zeroValue270
  t145 := Tryz.underlying272
  a145 := Tryz.isAgg272
  z145 := Tryz.sizeOf272
  v145 := Tryz.zeroValue272
  t167 := Tryz.underlying258
  a167 := Tryz.isAgg258
  z167 := Tryz.sizeOf258
  v167 := Tryz.zeroValue258
  t168 := Tryz.underlying261
  a168 := Tryz.isAgg261
  z168 := Tryz.sizeOf261
  v168 := Tryz.zeroValue261
  t171 := Tryz.underlying212
  a171 := Tryz.isAgg212
  z171 := Tryz.sizeOf212
  v171 := Tryz.zeroValue212
  t173 := Tryz.underlying214
  a173 := Tryz.isAgg214
  z173 := Tryz.sizeOf214
  v173 := Tryz.zeroValue214
  t175 := Tryz.underlying259
  a175 := Tryz.isAgg259
  z175 := Tryz.sizeOf259
  v175 := Tryz.zeroValue259
  t210 := Tryz.underlying267
  a210 := Tryz.isAgg267
  z210 := Tryz.sizeOf267
  v210 := Tryz.zeroValue267
  t212 := Tryz.underlying232
  a212 := Tryz.isAgg232
  z212 := Tryz.sizeOf232
  v212 := Tryz.zeroValue232
  t213 := Tryz.underlying233
  a213 := Tryz.isAgg233
  z213 := Tryz.sizeOf233
  t232 := Tryz.underlying255
  a232 := Tryz.isAgg255
  z232 := Tryz.sizeOf255
  v232 := Tryz.zeroValue255
  t233 := Tryz.underlying256
  a233 := Tryz.isAgg256
  z233 := Tryz.sizeOf256
  v233 := Tryz.zeroValue256
  g15 := by kernel_rfl
  g16 := by kernel_rfl
  g17 := by kernel_rfl
  g18 := by kernel_rfl
  g19 := by kernel_rfl
  t80 := Tryz.underlying236
  a80 := Tryz.isAgg236
  z80 := Tryz.sizeOf236
  v80 := Tryz.zeroValue236
  i0 := by kernel_rfl
  i2 := by kernel_rfl
  i3 := by kernel_rfl
  i4 := by kernel_rfl
  i5 := by kernel_rfl
  i9 := by kernel_rfl
  i20 := by kernel_rfl
  i21 := by kernel_rfl
  i37 := by kernel_rfl
  i46 := by kernel_rfl
  i51 := by kernel_rfl
  i53 := by kernel_rfl
  i75 := by kernel_rfl
  i80 := by kernel_rfl
  i85 := by kernel_rfl
  i127 := by kernel_rfl
  i143 := by kernel_rfl
  i145 := by kernel_rfl
  i167 := by kernel_rfl
  i168 := by kernel_rfl
  i171 := by kernel_rfl
  i173 := by kernel_rfl
  i175 := by kernel_rfl
  i210 := by kernel_rfl
  i212 := by kernel_rfl
  i232 := by kernel_rfl
  i233 := by kernel_rfl
  m15 := by kernel_rfl
  m16 := by kernel_rfl
  m17 := by kernel_rfl
  m18 := by kernel_rfl
  m19 := by kernel_rfl
  c0 := by kernel_rfl
  c2 := by kernel_rfl
  c3 := by kernel_rfl
  c4 := by kernel_rfl
  c5 := by kernel_rfl
  c9 := by kernel_rfl
  c20 := by kernel_rfl
  c21 := by kernel_rfl
  c37 := by kernel_rfl
  c46 := by kernel_rfl
  c51 := by kernel_rfl
  c53 := by kernel_rfl
  c75 := by kernel_rfl
  c80 := by kernel_rfl
  c85 := by kernel_rfl
  c127 := by kernel_rfl
  c143 := by kernel_rfl
  c145 := by kernel_rfl
  c167 := by kernel_rfl
  c168 := by kernel_rfl
  c171 := by kernel_rfl
  c173 := by kernel_rfl
  c175 := by kernel_rfl
  c210 := by kernel_rfl
  c212 := by kernel_rfl
  c213 := by kernel_rfl
  c232 := by kernel_rfl
  c233 := by kernel_rfl }
open Go.RowKit in
theorem Tryz.strconv_ParseInt_10_at64_ok (s : ByteArray) (hmax : s.size ≤ 9223372036854775806) (v : Int) (h : Lib.parseIntB 64 s.data.toList = .ok v) (w : World) :
    Calls Tryz.prog 239 #[.string s, .int .i64 10, .int .i64 64] w fun e w' => e = .returned (.tuple #[.int .i64 v, .nilIface]) ∧ (w' = w ∨ ∃ t, w' = Lib.bytesWorld w 5 t) := Any.strconv_ParseInt_10_at64_ok Tryz.laysC174 s hmax v h w
open Go.RowKit in
theorem Tryz.parse_no (s : ByteArray) (hlim : s.size ≤ 281474976710656) (h1 : ∀ n, Lib.parseIntB 64 s.data.toList = .ok n → False) (h2 : Lib.parseIntB 64 s.data.toList = .range → False) (tp : TypeId) (p : Value) (w : World) (hvar : w.var? Tryz.prog "strconv.ErrSyntax" = some #[.iface tp p]) :
    Calls Tryz.prog 239 #[.string s, .int .i64 10, .int .i64 64] w fun e w' => ∃ N, e = .returned (.tuple #[.int .i64 (0), .iface 261 (.pointer (some ⟨N, 0, none⟩))]) ∧ w.heap.size ≤ N ∧ w'.heap[N]? = some (.cells #[.string ⟨#[80, 97, 114, 115, 101, 73, 110, 116]⟩, .string s, .iface tp p] 267 (0, 0)) ∧ Below w.heap.size w w' := by
  cases hh : Lib.parseIntB 64 s.data.toList with
  | ok n => exact (h1 n hh).elim
  | range => exact (h2 hh).elim
  | _ => exact Any.strconv_ParseInt_10_at64_syntax_var Tryz.laysC174 s hlim hh tp p w hvar
open Go.RowKit in
theorem Tryz.strconv_ParseInt_10_at64_range_var (s : ByteArray) (hlim : s.size ≤ 281474976710656) (h : Lib.parseIntB 64 s.data.toList = .range) (tp : TypeId) (p : Value) (w : World) (hvar : w.var? Tryz.prog "strconv.ErrRange" = some #[.iface tp p]) :
    Calls Tryz.prog 239 #[.string s, .int .i64 10, .int .i64 64] w fun e w' => ∃ N, e = .returned (.tuple #[.int .i64 (Lib.intSat 64 s.data.toList), .iface 261 (.pointer (some ⟨N, 0, none⟩))]) ∧ w.heap.size ≤ N ∧ w'.heap[N]? = some (.cells #[.string ⟨#[80, 97, 114, 115, 101, 73, 110, 116]⟩, .string s, .iface tp p] 267 (0, 0)) ∧ Below w.heap.size w w' := Any.strconv_ParseInt_10_at64_range_var Tryz.laysC174 s hlim h tp p w hvar
end Go.Proofs
namespace Go.PM
open Go Go.Proofs Go.Lib Go.Sort
def baseB (eS eR : Value) : Nat → Nat → Option Value := fun b o =>
  if b = 0 then (pow10Tab.map (Value.int .u64))[o]? else if b = 3 then (if o = 0 then some eS else none) else if b = 4 then (if o = 0 then some eR else none) else none
theorem g_pow : Tryz.prog.globalNamed "internal/strconv.uint64pow10" = some 0 := by kernel_rfl
theorem g_syn : Tryz.prog.globalNamed "strconv.ErrSyntax" = some 3 := by kernel_rfl
theorem g_ran : Tryz.prog.globalNamed "strconv.ErrRange" = some 4 := by kernel_rfl
section
variable {eS eR : Value} {G : Gh} {st : St} {w : World}
theorem Inv.known {P : Program} {B : Nat → Nat → Option Value} (hI : Inv P B G st w) {b : Nat} (l : List Value) (h0 : l ≠ []) (hl : ∀ o, B b o = l[o]?) : ∃ e f, w.heap[b]? = some (.cells l.toArray e f) := by
  have hpos : 0 < l.length := List.length_pos_iff.2 h0
  have hget : ∀ o (ho : o < l.length), B b o = some l[o] := fun o ho => by rw [hl, List.getElem?_eq_getElem ho]
  obtain ⟨h1, _, x, hx, hall⟩ := hI.base b 0 _ (hget 0 hpos)
  obtain ⟨cur, hcur, hsz⟩ := hI.sh b x.1 x.2 hx
  refine ⟨x.1, (0, 0), ?_⟩
  rw [hcur]
  refine congrArg (fun q => some (Obj.cells q x.1 (0, 0))) ?_
  apply Array.ext'
  apply List.ext_getElem?
  intro o
  by_cases ho : o < l.length
  · have hc := hI.com _ _ _ (hI.base b o _ (hget o ho)).1
    simp only [World.cell?, hcur, Option.isSome_none, Bool.false_eq_true, if_false] at hc
    rw [Array.getElem?_toList, hc, List.getElem?_eq_getElem ho]
  · have hle : cur.size ≤ l.length := by
      rcases Nat.lt_or_ge l.length cur.size with h | h
      · exact absurd (by rw [hl]; exact List.getElem?_eq_none (Nat.le_refl _)) (hall l.length (by omega))
      · exact h
    rw [Array.getElem?_toList, Array.getElem?_eq_none (by omega)]
    exact (List.getElem?_eq_none (by simpa using ho)).symm
theorem pow_known {P : Program} (hI : Inv P (baseB eS eR) G st w) : ∃ e f, w.heap[0]? = some (.cells (pow10Tab.map (Value.int .u64)).toArray e f) :=
  hI.known _ (by simp [pow10Tab]) (fun o => by unfold baseB; rw [if_pos rfl])
theorem syn_known {P : Program} (hI : Inv P (baseB eS eR) G st w) : ∃ e f, w.heap[3]? = some (.cells #[eS] e f) := by
  refine hI.known [eS] (by simp) (fun o => ?_)
  unfold baseB
  rw [if_neg (by decide), if_pos rfl]
  cases o with
  | zero => rfl
  | succ o => simp
theorem ran_known {P : Program} (hI : Inv P (baseB eS eR) G st w) : ∃ e f, w.heap[4]? = some (.cells #[eR] e f) := by
  refine hI.known [eR] (by simp) (fun o => ?_)
  unfold baseB
  rw [if_neg (by decide), if_neg (by decide), if_pos rfl]
  cases o with
  | zero => rfl
  | succ o => simp
theorem tab_known (hI : Inv Tryz.prog (baseB eS eR) G st w) : TabIs Tryz.prog w "internal/strconv.uint64pow10" .u64 pow10Tab := by
  obtain ⟨e, f, h⟩ := pow_known hI
  unfold TabIs World.var?
  rw [g_pow]
  simp only [Option.bind_some, h]
theorem synV (hI : Inv Tryz.prog (baseB eS eR) G st w) : w.var? Tryz.prog "strconv.ErrSyntax" = some #[eS] := by
  obtain ⟨e, f, h⟩ := syn_known hI
  unfold World.var?
  rw [g_syn]
  simp only [Option.bind_some, h]
theorem ranV (hI : Inv Tryz.prog (baseB eS eR) G st w) : w.var? Tryz.prog "strconv.ErrRange" = some #[eR] := by
  obtain ⟨e, f, h⟩ := ran_known hI
  unfold World.var?
  rw [g_ran]
  simp only [Option.bind_some, h]
end
theorem bytesWorld_below (w : World) (e : TypeId) (s : ByteArray) : w.heap.size ≤ (bytesWorld w e s).heap.size ∧ ∀ b, b < w.heap.size → (bytesWorld w e s).heap[b]? = w.heap[b]? := by
  unfold bytesWorld World.freeze
  rw [if_neg (by decide)]
  generalize bytesCells w e s = A
  have h1 : (w.drew.alloc (.cells A e)).heap = w.heap.push (.cells A e) := rfl
  simp only [h1]
  refine ⟨by simp, fun b hb => ?_⟩
  rw [Array.getElem?_modify, if_neg (by omega), Array.getElem?_push, if_neg (by omega)]
theorem bytesWorld_eff (w : World) (e : TypeId) (s : ByteArray) : (bytesWorld w e s).os = w.os ∧ (bytesWorld w e s).output = w.output := by
  unfold bytesWorld World.freeze
  rw [if_neg (by decide)]
  exact ⟨rfl, rfl⟩
theorem grow_below (w : World) (k : Nat) (os : Array Obj) : w.heap.size ≤ (grow (w.drewN k) os).heap.size ∧ ∀ b, b < w.heap.size → (grow (w.drewN k) os).heap[b]? = w.heap[b]? := by
  have h1 : (grow (w.drewN k) os).heap = w.heap ++ os := rfl
  simp only [h1]
  exact ⟨by simp, fun b hb => by rw [Array.getElem?_append_left hb]⟩
theorem R_pair {G : Gh} {p q : PV} {u v : Value} (h1 : R G p u) (h2 : R G q v) : R G (.tup [p, q]) (.tuple #[u, v]) :=
  .tup [p, q] [u, v] rfl fun j a b ha hb => by
    match j with
    | 0 => simp at ha hb; subst ha hb; exact h1
    | 1 => simp at ha hb; subst ha hb; exact h2
    | j + 2 => simp at ha
def parseR (l : List UInt8) : PV := match parseIntB 64 l with
  | .ok n => .tup [I n, .nili]
  | .range => .tup [I (intSat 64 l), .err]
  | _ => .tup [I 0, .err]
def prIns : List PV → List Nat → List (List PV) → Option (PV × List Nat × List (List PV))
  | [.list 0 [] .nil, .int .i64 i, .list m ds .no], [], [] => if i = 0 ∧ m = 1 ∧ ds.length = 3 ∧ nps ds = true then some (.list 1 ds (.own 0 72), [1], []) else none
  | [.list n cs (.own 0 e), .int .i64 i, .list m ds .no], q :: ns, [] =>
    if e = 72 ∧ m = 1 ∧ q = n ∧ 0 ≤ i ∧ i.toNat ≤ n ∧ n ≤ 10000000 ∧ cs.length = n * 3 ∧ ds.length = 3 ∧ nps cs = true ∧ nps ds = true ∧ tfs ([0].contains ·) cs = true ∧ tfs ([0].contains ·) ds = true then
      some (.list (n + 1) (cs.take (i.toNat * 3) ++ ds ++ cs.drop (i.toNat * 3)) (.own 0 72), (n + 1) :: ns, []) else none
  | _, _, _ => none
def prParse : List PV → List Nat → List (List PV) → Option (PV × List Nat × List (List PV))
  | [.str s, .int .i64 a, .int .i64 b], [], [] => if a = 10 ∧ b = 64 ∧ s.size ≤ 2000000 then some (parseR s.data.toList, [], []) else none
  | _, _, _ => none
def prFmt : List PV → List Nat → List (List PV) → Option (PV × List Nat × List (List PV))
  | [.int .i64 n, .int .i64 b], [], [] => if b = 10 ∧ -9223372036854775808 ≤ n ∧ n ≤ 9223372036854775807 then some (S (itoa n), [], []) else none
  | _, _, _ => none
def pr : CallF := fun f xs ns cs => if f = 128 then prIns xs ns cs else if f = 239 then prParse xs ns cs else if f = 135 then prFmt xs ns cs else none
theorem len3 {vs : List Value} (h : 3 = vs.length) : ∃ a b c, vs = [a, b, c] := by
  match vs, h with
  | [a, b, c], _ => exact ⟨a, b, c, rfl⟩
theorem len2 {vs : List Value} (h : 2 = vs.length) : ∃ a b, vs = [a, b] := by
  match vs, h with
  | [a, b], _ => exact ⟨a, b, rfl⟩
theorem enters128 : Enters Tryz.prog 128 := ⟨Tryz.f128, Tryz.func128, of_decide_eq_true (by kernel_rfl), by kernel_rfl⟩
theorem enters239 : Enters Tryz.prog 239 := ⟨Tryz.f239, Tryz.func239, of_decide_eq_true (by kernel_rfl), by kernel_rfl⟩
theorem enters135 : Enters Tryz.prog 135 := ⟨Tryz.f135, Tryz.func135, of_decide_eq_true (by kernel_rfl), by kernel_rfl⟩
theorem ret_lt {f : Nat} (h : f < 1000000) {vs : List Value} {v : Value} : RetOk f vs v (.returned v) := (RetOk_lt h).2 rfl
theorem pr_ok (tS tR : TypeId) (pS pR : Value) : CallOk Tryz.prog (baseB (.iface tS pS) (.iface tR pR)) pr := by
  intro f xs ns cs r rs cs' h
  unfold pr at h
  split at h
  · rename_i hf
    subst hf
    rw [fnOf_lt (by decide)]
    refine ⟨enters128, ?_⟩
    unfold prIns at h
    split at h
    · rename_i i m ds
      split at h
      · rename_i hc
        obtain ⟨rfl, rfl, hd, hn⟩ := hc
        cases h
        refine ⟨rfl, by simpa [np, off, nps] using hn, fun c hc => (by cases hc), fun G w vs hI hl hR => ?_⟩
        obtain ⟨x, iv, y, rfl⟩ := len3 hl
        have hx := (hR 0 _ _ rfl rfl).1
        have hi := (hR 1 _ _ rfl rfl).1
        have hy := (hR 2 _ _ rfl rfl).1
        cases hi
        exact (ins_nil hI hx hy hd).mono fun e w' h => by
          obtain ⟨v, G', rfl, h1, h2, h3, h4⟩ := h
          exact ⟨v, G', ret_lt (by decide), h1, h2, h3, by funext s; exact bx_ob (congrFun h4 s), fun k hk => absurd hk (Nat.not_lt_zero _)⟩
      · cases h
    · rename_i n cs e i m ds q ns
      split at h
      · rename_i hc
        obtain ⟨rfl, rfl, rfl, hi0, hin, hn, hcl, hd, hn1, hn2, ht1, ht2⟩ := hc
        cases h
        refine ⟨rfl, ?_, fun c hc => (by cases hc), fun G w vs hI hl hR => ?_⟩
        · have := nps_append (nps_append (nps_sub hn1 (ds := cs.take (i.toNat * 3)) fun p hp => List.mem_of_mem_take hp) hn2) (nps_sub hn1 (ds := cs.drop (i.toNat * 3)) fun p hp => List.mem_of_mem_drop hp)
          simpa [np, off, nps] using this
        · obtain ⟨x, iv, y, rfl⟩ := len3 hl
          have hx := (hR 0 _ _ rfl rfl).1
          have hi := (hR 1 _ _ rfl rfl).1
          have hy := (hR 2 _ _ rfl rfl).1
          cases hi
          have := ins_own (i := i.toNat) hI hx hy hcl hd hin hn hn1 hn2 ht1 ht2
          unfold InsTo at this
          rw [Int.toNat_of_nonneg hi0] at this
          exact this.mono fun e w' h => by
            obtain ⟨v, G', rfl, h1, h2, h3, h4⟩ := h
            exact ⟨v, G', ret_lt (by decide), h1, h2, h3, by funext s; exact bx_ob (congrFun h4 s), fun k hk => absurd hk (Nat.not_lt_zero _)⟩
      · cases h
    · cases h
  · split at h
    · rename_i hf
      subst hf
      rw [fnOf_lt (by decide)]
      refine ⟨enters239, ?_⟩
      unfold prParse at h
      split at h
      · rename_i s a b
        split at h
        · rename_i hc
          obtain ⟨rfl, rfl, hs⟩ := hc
          cases h
          refine ⟨rfl, by unfold parseR; split <;> rfl, fun c hc => (by cases hc), fun G w vs hI hl hR => ?_⟩
          obtain ⟨v0, v1, v2, rfl⟩ := len3 hl
          have h0 := (hR 0 _ _ rfl rfl).1
          have h1 := (hR 1 _ _ rfl rfl).1
          have h2 := (hR 2 _ _ rfl rfl).1
          cases h0; cases h1; cases h2
          unfold parseR
          split
          · rename_i n hp
            exact (Tryz.strconv_ParseInt_10_at64_ok s (by omega) n hp w).mono fun e w' h => by
              obtain ⟨rfl, hw⟩ := h
              have hb : w.heap.size ≤ w'.heap.size ∧ ∀ b, b < w.heap.size → w'.heap[b]? = w.heap[b]? := by
                rcases hw with rfl | ⟨t, rfl⟩
                · exact ⟨Nat.le_refl _, fun _ _ => rfl⟩
                · exact bytesWorld_below _ _ _
              have he : w'.os = w.os ∧ w'.output = w.output := by
                rcases hw with rfl | ⟨t, rfl⟩
                · exact ⟨rfl, rfl⟩
                · exact bytesWorld_eff _ _ _
              obtain ⟨hI', hS'⟩ := hI.below hb.1 hb.2 he
              exact ⟨_, G, ret_lt (by decide), R_pair (.int _ _) .nili, hI', hS', rfl, fun k hk => absurd hk (Nat.not_lt_zero _)⟩
          · rename_i hp
            exact (Tryz.strconv_ParseInt_10_at64_range_var s (by omega) hp tR pR w (ranV hI)).mono fun e w' h => by
              obtain ⟨N, rfl, _, _, hb⟩ := h
              obtain ⟨hI', hS'⟩ := hI.below hb.size hb.block ⟨hb.os, hb.output⟩
              exact ⟨_, G, ret_lt (by decide), R_pair (.int _ _) (.err _ _), hI', hS', rfl, fun k hk => absurd hk (Nat.not_lt_zero _)⟩
          · rename_i h1 h2
            exact (Tryz.parse_no s (by omega) h1 h2 tS pS w (synV hI)).mono fun e w' h => by
              obtain ⟨N, rfl, _, _, hb⟩ := h
              obtain ⟨hI', hS'⟩ := hI.below hb.size hb.block ⟨hb.os, hb.output⟩
              exact ⟨_, G, ret_lt (by decide), R_pair (.int _ _) (.err _ _), hI', hS', rfl, fun k hk => absurd hk (Nat.not_lt_zero _)⟩
        · cases h
      · cases h
    · split at h
      · rename_i hf
        subst hf
        rw [fnOf_lt (by decide)]
        refine ⟨enters135, ?_⟩
        unfold prFmt at h
        split at h
        · rename_i n b
          split at h
          · rename_i hc
            obtain ⟨rfl, h1, h2⟩ := hc
            cases h
            refine ⟨rfl, rfl, fun c hc => (by cases hc), fun G w vs hI hl hR => ?_⟩
            obtain ⟨v0, v1, rfl⟩ := len2 hl
            have h3 := (hR 0 _ _ rfl rfl).1
            have h4 := (hR 1 _ _ rfl rfl).1
            cases h3; cases h4
            exact (Tryz.strconv_FormatInt_10 n h1 h2 w (tab_known hI)).mono fun e w' h => by
              obtain ⟨rfl, k, os, rfl⟩ := h
              have hb := grow_below w k os
              have he : (grow (w.drewN k) os).os = w.os ∧ (grow (w.drewN k) os).output = w.output := ⟨rfl, rfl⟩
              obtain ⟨hI', hS'⟩ := hI.below hb.1 hb.2 he
              exact ⟨_, G, ret_lt (by decide), .str _, hI', hS', rfl, fun k hk => absurd hk (Nat.not_lt_zero _)⟩
          · cases h
        · cases h
      · cases h
end Go.PM
namespace Go.PM
open Go Go.Proofs
def mvA (mk : Bool) (f : Nat) : List Nat := if f = 1000001 ∨ f = 1000002 then (if mk then [1] else []) else match f with
  | 128 => [0]
  | 189 => [0]
  | 91 => [0]
  | 161 => [0]
  | 14 => [0]
  | 27 => [0]
  | 34 => [0]
  | 15 => [1000]
  | 20 => [1000]
  | 50 => [1000]
  | 51 => [1000]
  | 57 => [1000]
  | 58 => [1000]
  | _ => []
theorem okF3 : compFn Tryz.prog (mvA false) 0 false 3 = some F3 := by kernel_rfl
theorem okF8 : compFn Tryz.prog (mvA false) 0 false 8 = some F8 := by kernel_rfl
theorem okF9 : compFn Tryz.prog (mvA false) 0 false 9 = some F9 := by kernel_rfl
theorem okF10 : compFn Tryz.prog (mvA false) 0 true 10 = some F10 := by kernel_rfl
theorem okF11 : compFn Tryz.prog (mvA false) 0 true 11 = some F11 := by kernel_rfl
theorem okF12 : compFn Tryz.prog (mvA false) 0 false 12 = some F12 := by kernel_rfl
theorem okF13 : compFn Tryz.prog (mvA false) 0 false 13 = some F13 := by kernel_rfl
theorem okF14 : compFn Tryz.prog (mvA false) 0 false 14 = some F14 := by kernel_rfl
theorem okF16 : compFn Tryz.prog (mvA false) 0 false 16 = some F16 := by kernel_rfl
theorem okF38 : compFn Tryz.prog (mvA false) 0 false 38 = some F38 := by kernel_rfl
theorem okF39 : compFn Tryz.prog (mvA false) 0 false 39 = some F39 := by kernel_rfl
theorem okF40 : compFn Tryz.prog (mvA false) 0 false 40 = some F40 := by kernel_rfl
theorem okF41 : compFn Tryz.prog (mvA false) 0 false 41 = some F41 := by kernel_rfl
theorem okF42 : compFn Tryz.prog (mvA false) 0 false 42 = some F42 := by kernel_rfl
theorem okF43 : compFn Tryz.prog (mvA false) 0 false 43 = some F43 := by kernel_rfl
theorem okF44 : compFn Tryz.prog (mvA false) 0 true 44 = some F44 := by kernel_rfl
theorem okF45 : compFn Tryz.prog (mvA false) 0 true 45 = some F45 := by kernel_rfl
theorem okF46 : compFn Tryz.prog (mvA false) 0 false 46 = some F46 := by kernel_rfl
theorem okF47 : compFn Tryz.prog (mvA false) 0 true 47 = some F47 := by kernel_rfl
theorem okF48 : compFn Tryz.prog (mvA false) 0 false 48 = some F48 := by kernel_rfl
theorem okF49 : compFn Tryz.prog (mvA false) 0 false 49 = some F49 := by kernel_rfl
theorem okF52 : compFn Tryz.prog (mvA false) 0 false 52 = some F52 := by kernel_rfl
theorem okF53 : compFn Tryz.prog (mvA false) 0 false 53 = some F53 := by kernel_rfl
theorem okF59 : compFn Tryz.prog (mvA false) 0 false 59 = some F59 := by kernel_rfl
theorem okF60 : compFn Tryz.prog (mvA false) 0 false 60 = some F60 := by kernel_rfl
theorem okF61 : compFn Tryz.prog (mvA false) 0 false 61 = some F61 := by kernel_rfl
theorem okF66 : compFn Tryz.prog (mvA false) 0 true 66 = some F66 := by kernel_rfl
theorem okF68 : compFn Tryz.prog (mvA false) 0 true 68 = some F68 := by kernel_rfl
theorem okF79 : compFn Tryz.prog (mvA false) 0 false 79 = some F79 := by kernel_rfl
theorem okF80 : compFn Tryz.prog (mvA false) 0 false 80 = some F80 := by kernel_rfl
theorem okF81 : compFn Tryz.prog (mvA false) 0 false 81 = some F81 := by kernel_rfl
theorem okF82 : compFn Tryz.prog (mvA false) 0 false 82 = some F82 := by kernel_rfl
theorem okF83 : compFn Tryz.prog (mvA false) 0 false 83 = some F83 := by kernel_rfl
theorem okF84 : compFn Tryz.prog (mvA false) 0 false 84 = some F84 := by kernel_rfl
theorem okF85 : compFn Tryz.prog (mvA false) 0 false 85 = some F85 := by kernel_rfl
theorem okF86 : compFn Tryz.prog (mvA false) 0 true 86 = some F86 := by kernel_rfl
theorem okF87 : compFn Tryz.prog (mvA false) 0 true 87 = some F87 := by kernel_rfl
theorem okF88 : compFn Tryz.prog (mvA false) 0 false 88 = some F88 := by kernel_rfl
theorem okF89 : compFn Tryz.prog (mvA false) 0 false 89 = some F89 := by kernel_rfl
theorem okF90 : compFn Tryz.prog (mvA false) 0 false 90 = some F90 := by kernel_rfl
theorem okF91 : compFn Tryz.prog (mvA false) 0 true 91 = some F91 := by kernel_rfl
theorem okF92 : compFn Tryz.prog (mvA false) 0 false 92 = some F92 := by kernel_rfl
theorem okF93 : compFn Tryz.prog (mvA false) 0 false 93 = some F93 := by kernel_rfl
theorem okF94 : compFn Tryz.prog (mvA false) 0 false 94 = some F94 := by kernel_rfl
theorem okF98 : compFn Tryz.prog (mvA false) 0 false 98 = some F98 := by kernel_rfl
theorem okF103 : compFn Tryz.prog (mvA false) 0 true 103 = some F103 := by kernel_rfl
theorem okF108 : compFn Tryz.prog (mvA false) 0 true 108 = some F108 := by kernel_rfl
theorem okF116 : compFn Tryz.prog (mvA false) 0 false 116 = some F116 := by kernel_rfl
theorem okF117 : compFn Tryz.prog (mvA false) 0 false 117 = some F117 := by kernel_rfl
theorem okF118 : compFn Tryz.prog (mvA false) 0 false 118 = some F118 := by kernel_rfl
theorem okF119 : compFn Tryz.prog (mvA false) 0 false 119 = some F119 := by kernel_rfl
theorem okF120 : compFn Tryz.prog (mvA false) 0 false 120 = some F120 := by kernel_rfl
theorem okF121 : compFn Tryz.prog (mvA false) 0 false 121 = some F121 := by kernel_rfl
theorem okF122 : compFn Tryz.prog (mvA false) 0 true 122 = some F122 := by kernel_rfl
theorem okF123 : compFn Tryz.prog (mvA false) 0 true 123 = some F123 := by kernel_rfl
theorem okF124 : compFn Tryz.prog (mvA false) 0 false 124 = some F124 := by kernel_rfl
theorem okF125 : compFn Tryz.prog (mvA false) 0 false 125 = some F125 := by kernel_rfl
theorem okF126 : compFn Tryz.prog (mvA false) 0 false 126 = some F126 := by kernel_rfl
theorem okF127 : compFn Tryz.prog (mvA false) 0 false 127 = some F127 := by kernel_rfl
theorem okF129 : compFn Tryz.prog (mvA false) 0 false 129 = some F129 := by kernel_rfl
theorem okF130 : compFn Tryz.prog (mvA false) 0 false 130 = some F130 := by kernel_rfl
theorem okF165 : compFn Tryz.prog (mvA false) 0 false 165 = some F165 := by kernel_rfl
theorem okF166 : compFn Tryz.prog (mvA false) 0 false 166 = some F166 := by kernel_rfl
theorem okF167 : compFn Tryz.prog (mvA false) 0 false 167 = some F167 := by kernel_rfl
theorem okF168 : compFn Tryz.prog (mvA false) 0 false 168 = some F168 := by kernel_rfl
theorem okF169 : compFn Tryz.prog (mvA false) 0 false 169 = some F169 := by kernel_rfl
theorem okF170 : compFn Tryz.prog (mvA false) 0 true 170 = some F170 := by kernel_rfl
theorem okF171 : compFn Tryz.prog (mvA false) 0 false 171 = some F171 := by kernel_rfl
theorem okF172 : compFn Tryz.prog (mvA false) 0 false 172 = some F172 := by kernel_rfl
theorem okF173 : compFn Tryz.prog (mvA false) 0 false 173 = some F173 := by kernel_rfl
theorem okF176 : compFn Tryz.prog (mvA false) 0 false 176 = some F176 := by kernel_rfl
theorem okF186 : compFn Tryz.prog (mvA false) 0 false 186 = some F186 := by kernel_rfl
theorem okF188 : compFn Tryz.prog (mvA false) 0 false 188 = some F188 := by kernel_rfl
theorem okF191 : compFn Tryz.prog (mvA false) 0 false 191 = some F191 := by kernel_rfl
theorem okF192 : compFn Tryz.prog (mvA false) 0 false 192 = some F192 := by kernel_rfl
theorem okF200 : compFn Tryz.prog (mvA false) 1 false 200 = some F200 := by kernel_rfl
theorem okF201 : compFn Tryz.prog (mvA false) 1 false 201 = some F201 := by kernel_rfl
theorem okF209 : compFn Tryz.prog (mvA false) 1 false 209 = some F209 := by kernel_rfl
theorem okF210 : compFn Tryz.prog (mvA false) 1 false 210 = some F210 := by kernel_rfl
theorem okF211 : compFn Tryz.prog (mvA false) 1 false 211 = some F211 := by kernel_rfl
theorem okF212 : compFn Tryz.prog (mvA false) 1 false 212 = some F212 := by kernel_rfl
theorem okF213 : compFn Tryz.prog (mvA false) 1 false 213 = some F213 := by kernel_rfl
theorem okF214 : compFn Tryz.prog (mvA false) 1 false 214 = some F214 := by kernel_rfl
theorem okF215 : compFn Tryz.prog (mvA false) 1 false 215 = some F215 := by kernel_rfl
theorem okF216 : compFn Tryz.prog (mvA false) 1 false 216 = some F216 := by kernel_rfl
theorem okF217 : compFn Tryz.prog (mvA false) 1 false 217 = some F217 := by kernel_rfl
theorem okF218 : compFn Tryz.prog (mvA false) 1 false 218 = some F218 := by kernel_rfl
theorem okF219 : compFn Tryz.prog (mvA false) 1 false 219 = some F219 := by kernel_rfl
theorem okF220 : compFn Tryz.prog (mvA false) 1 false 220 = some F220 := by kernel_rfl
theorem okF221 : compFn Tryz.prog (mvA false) 1 false 221 = some F221 := by kernel_rfl
theorem okF222 : compFn Tryz.prog (mvA false) 1 false 222 = some F222 := by kernel_rfl
theorem okF223 : compFn Tryz.prog (mvA false) 1 false 223 = some F223 := by kernel_rfl
theorem okF224 : compFn Tryz.prog (mvA false) 1 false 224 = some F224 := by kernel_rfl
theorem okF225 : compFn Tryz.prog (mvA false) 1 false 225 = some F225 := by kernel_rfl
theorem okF226 : compFn Tryz.prog (mvA false) 1 false 226 = some F226 := by kernel_rfl
theorem okF227 : compFn Tryz.prog (mvA false) 1 false 227 = some F227 := by kernel_rfl
theorem okF231 : compFn Tryz.prog (mvA false) 0 false 231 = some F231 := by kernel_rfl
theorem okF232 : compFn Tryz.prog (mvA false) 1 false 232 = some F232 := by kernel_rfl
theorem okF233 : compFn Tryz.prog (mvA false) 0 false 233 = some F233 := by kernel_rfl
theorem okF234 : compFn Tryz.prog (mvA false) 0 false 234 = some F234 := by kernel_rfl
theorem okF235 : compFn Tryz.prog (mvA false) 1 false 235 = some F235 := by kernel_rfl
theorem okF236 : compFn Tryz.prog (mvA false) 0 false 236 = some F236 := by kernel_rfl
theorem okF237 : compFn Tryz.prog (mvA false) 0 false 237 = some F237 := by kernel_rfl
theorem okF238 : compFn Tryz.prog (mvA false) 0 false 238 = some F238 := by kernel_rfl
theorem okF240 : compFn Tryz.prog (mvA false) 1 false 240 = some F240 := by kernel_rfl
theorem okF241 : compFn Tryz.prog (mvA false) 0 false 241 = some F241 := by kernel_rfl
theorem okF242 : compFn Tryz.prog (mvA false) 1 false 242 = some F242 := by kernel_rfl
theorem okF244 : compFn Tryz.prog (mvA false) 0 false 244 = some F244 := by kernel_rfl
theorem okF245 : compFn Tryz.prog (mvA false) 0 false 245 = some F245 := by kernel_rfl
theorem okF248 : compFn Tryz.prog (mvA false) 0 false 248 = some F248 := by kernel_rfl
theorem okFB15 : compFnB Tryz.prog (mvA true) 15 = some FB15 := by kernel_rfl
theorem okFB50 : compFnB Tryz.prog (mvA true) 50 = some FB50 := by kernel_rfl
theorem okFB51 : compFnB Tryz.prog (mvA true) 51 = some FB51 := by kernel_rfl
theorem okFB57 : compFnB Tryz.prog (mvA true) 57 = some FB57 := by kernel_rfl
theorem okFB58 : compFnB Tryz.prog (mvA true) 58 = some FB58 := by kernel_rfl
theorem tableOk : TableOk T Tryz.prog := by
  intro f F h
  unfold T at h
  split at h
  · cases h; exact .inl ⟨by decide, _, _, _, okF3⟩
  · cases h; exact .inl ⟨by decide, _, _, _, okF8⟩
  · cases h; exact .inl ⟨by decide, _, _, _, okF9⟩
  · cases h; exact .inl ⟨by decide, _, _, _, okF10⟩
  · cases h; exact .inl ⟨by decide, _, _, _, okF11⟩
  · cases h; exact .inl ⟨by decide, _, _, _, okF12⟩
  · cases h; exact .inl ⟨by decide, _, _, _, okF13⟩
  · cases h; exact .inl ⟨by decide, _, _, _, okF14⟩
  · cases h; exact .inl ⟨by decide, _, _, _, okF16⟩
  · cases h; exact .inl ⟨by decide, _, _, _, okF38⟩
  · cases h; exact .inl ⟨by decide, _, _, _, okF39⟩
  · cases h; exact .inl ⟨by decide, _, _, _, okF40⟩
  · cases h; exact .inl ⟨by decide, _, _, _, okF41⟩
  · cases h; exact .inl ⟨by decide, _, _, _, okF42⟩
  · cases h; exact .inl ⟨by decide, _, _, _, okF43⟩
  · cases h; exact .inl ⟨by decide, _, _, _, okF44⟩
  · cases h; exact .inl ⟨by decide, _, _, _, okF45⟩
  · cases h; exact .inl ⟨by decide, _, _, _, okF46⟩
  · cases h; exact .inl ⟨by decide, _, _, _, okF47⟩
  · cases h; exact .inl ⟨by decide, _, _, _, okF48⟩
  · cases h; exact .inl ⟨by decide, _, _, _, okF49⟩
  · cases h; exact .inl ⟨by decide, _, _, _, okF52⟩
  · cases h; exact .inl ⟨by decide, _, _, _, okF53⟩
  · cases h; exact .inl ⟨by decide, _, _, _, okF59⟩
  · cases h; exact .inl ⟨by decide, _, _, _, okF60⟩
  · cases h; exact .inl ⟨by decide, _, _, _, okF61⟩
  · cases h; exact .inl ⟨by decide, _, _, _, okF66⟩
  · cases h; exact .inl ⟨by decide, _, _, _, okF68⟩
  · cases h; exact .inl ⟨by decide, _, _, _, okF79⟩
  · cases h; exact .inl ⟨by decide, _, _, _, okF80⟩
  · cases h; exact .inl ⟨by decide, _, _, _, okF81⟩
  · cases h; exact .inl ⟨by decide, _, _, _, okF82⟩
  · cases h; exact .inl ⟨by decide, _, _, _, okF83⟩
  · cases h; exact .inl ⟨by decide, _, _, _, okF84⟩
  · cases h; exact .inl ⟨by decide, _, _, _, okF85⟩
  · cases h; exact .inl ⟨by decide, _, _, _, okF86⟩
  · cases h; exact .inl ⟨by decide, _, _, _, okF87⟩
  · cases h; exact .inl ⟨by decide, _, _, _, okF88⟩
  · cases h; exact .inl ⟨by decide, _, _, _, okF89⟩
  · cases h; exact .inl ⟨by decide, _, _, _, okF90⟩
  · cases h; exact .inl ⟨by decide, _, _, _, okF91⟩
  · cases h; exact .inl ⟨by decide, _, _, _, okF92⟩
  · cases h; exact .inl ⟨by decide, _, _, _, okF93⟩
  · cases h; exact .inl ⟨by decide, _, _, _, okF94⟩
  · cases h; exact .inl ⟨by decide, _, _, _, okF98⟩
  · cases h; exact .inl ⟨by decide, _, _, _, okF103⟩
  · cases h; exact .inl ⟨by decide, _, _, _, okF108⟩
  · cases h; exact .inl ⟨by decide, _, _, _, okF116⟩
  · cases h; exact .inl ⟨by decide, _, _, _, okF117⟩
  · cases h; exact .inl ⟨by decide, _, _, _, okF118⟩
  · cases h; exact .inl ⟨by decide, _, _, _, okF119⟩
  · cases h; exact .inl ⟨by decide, _, _, _, okF120⟩
  · cases h; exact .inl ⟨by decide, _, _, _, okF121⟩
  · cases h; exact .inl ⟨by decide, _, _, _, okF122⟩
  · cases h; exact .inl ⟨by decide, _, _, _, okF123⟩
  · cases h; exact .inl ⟨by decide, _, _, _, okF124⟩
  · cases h; exact .inl ⟨by decide, _, _, _, okF125⟩
  · cases h; exact .inl ⟨by decide, _, _, _, okF126⟩
  · cases h; exact .inl ⟨by decide, _, _, _, okF127⟩
  · cases h; exact .inl ⟨by decide, _, _, _, okF129⟩
  · cases h; exact .inl ⟨by decide, _, _, _, okF130⟩
  · cases h; exact .inl ⟨by decide, _, _, _, okF165⟩
  · cases h; exact .inl ⟨by decide, _, _, _, okF166⟩
  · cases h; exact .inl ⟨by decide, _, _, _, okF167⟩
  · cases h; exact .inl ⟨by decide, _, _, _, okF168⟩
  · cases h; exact .inl ⟨by decide, _, _, _, okF169⟩
  · cases h; exact .inl ⟨by decide, _, _, _, okF170⟩
  · cases h; exact .inl ⟨by decide, _, _, _, okF171⟩
  · cases h; exact .inl ⟨by decide, _, _, _, okF172⟩
  · cases h; exact .inl ⟨by decide, _, _, _, okF173⟩
  · cases h; exact .inl ⟨by decide, _, _, _, okF176⟩
  · cases h; exact .inl ⟨by decide, _, _, _, okF186⟩
  · cases h; exact .inl ⟨by decide, _, _, _, okF188⟩
  · cases h; exact .inl ⟨by decide, _, _, _, okF191⟩
  · cases h; exact .inl ⟨by decide, _, _, _, okF192⟩
  · cases h; exact .inl ⟨by decide, _, _, _, okF200⟩
  · cases h; exact .inl ⟨by decide, _, _, _, okF201⟩
  · cases h; exact .inl ⟨by decide, _, _, _, okF209⟩
  · cases h; exact .inl ⟨by decide, _, _, _, okF210⟩
  · cases h; exact .inl ⟨by decide, _, _, _, okF211⟩
  · cases h; exact .inl ⟨by decide, _, _, _, okF212⟩
  · cases h; exact .inl ⟨by decide, _, _, _, okF213⟩
  · cases h; exact .inl ⟨by decide, _, _, _, okF214⟩
  · cases h; exact .inl ⟨by decide, _, _, _, okF215⟩
  · cases h; exact .inl ⟨by decide, _, _, _, okF216⟩
  · cases h; exact .inl ⟨by decide, _, _, _, okF217⟩
  · cases h; exact .inl ⟨by decide, _, _, _, okF218⟩
  · cases h; exact .inl ⟨by decide, _, _, _, okF219⟩
  · cases h; exact .inl ⟨by decide, _, _, _, okF220⟩
  · cases h; exact .inl ⟨by decide, _, _, _, okF221⟩
  · cases h; exact .inl ⟨by decide, _, _, _, okF222⟩
  · cases h; exact .inl ⟨by decide, _, _, _, okF223⟩
  · cases h; exact .inl ⟨by decide, _, _, _, okF224⟩
  · cases h; exact .inl ⟨by decide, _, _, _, okF225⟩
  · cases h; exact .inl ⟨by decide, _, _, _, okF226⟩
  · cases h; exact .inl ⟨by decide, _, _, _, okF227⟩
  · cases h; exact .inl ⟨by decide, _, _, _, okF231⟩
  · cases h; exact .inl ⟨by decide, _, _, _, okF232⟩
  · cases h; exact .inl ⟨by decide, _, _, _, okF233⟩
  · cases h; exact .inl ⟨by decide, _, _, _, okF234⟩
  · cases h; exact .inl ⟨by decide, _, _, _, okF235⟩
  · cases h; exact .inl ⟨by decide, _, _, _, okF236⟩
  · cases h; exact .inl ⟨by decide, _, _, _, okF237⟩
  · cases h; exact .inl ⟨by decide, _, _, _, okF238⟩
  · cases h; exact .inl ⟨by decide, _, _, _, okF240⟩
  · cases h; exact .inl ⟨by decide, _, _, _, okF241⟩
  · cases h; exact .inl ⟨by decide, _, _, _, okF242⟩
  · cases h; exact .inl ⟨by decide, _, _, _, okF244⟩
  · cases h; exact .inl ⟨by decide, _, _, _, okF245⟩
  · cases h; exact .inl ⟨by decide, _, _, _, okF248⟩
  · cases h; exact .inr ⟨_, 15, by decide, okFB15⟩
  · cases h; exact .inr ⟨_, 50, by decide, okFB50⟩
  · cases h; exact .inr ⟨_, 51, by decide, okFB51⟩
  · cases h; exact .inr ⟨_, 57, by decide, okFB57⟩
  · cases h; exact .inr ⟨_, 58, by decide, okFB58⟩
  · cases h
end Go.PM
namespace Go.PM
open Go Go.Proofs Go.Lib
noncomputable def cfT : CallF := callW T pr
theorem cfT_ok (tS tR : TypeId) (pS pR : Value) : CallOk Tryz.prog (baseB (.iface tS pS) (.iface tR pR)) cfT := callW_ok T pr (by kernel_rfl) tableOk (pr_ok tS tR pS pR)
theorem tabT : Tab cfT := fun f F hF N xs ns cs r h => callW_fn T pr hF (by
  unfold pr
  split
  · rename_i hf; subst hf; cases hF
  · split
    · rename_i hf; subst hf; cases hF
    · split
      · rename_i hf; subst hf; cases hF
      · rfl) N h
theorem envT : Env cfT where
  tab := tabT
  parse l hl := callW_pr T pr (by
    unfold pr
    rw [if_neg (by decide), if_pos rfl]
    show (if (10 : Int) = 10 ∧ (64 : Int) = 64 ∧ ByteArray.size ⟨l.toArray⟩ ≤ 2000000 then _ else _) = _
    rw [if_pos ⟨rfl, rfl, by simpa [ByteArray.size] using hl⟩]
    show some (parseR l.toArray.toList, _, _) = _
    unfold parseR
    simp only []
    cases parseIntB 64 l <;> rfl)
  fmt n h1 h2 := callW_pr T pr (by
    unfold pr
    rw [if_neg (by decide), if_neg (by decide), if_pos rfl]
    show (if (10 : Int) = 10 ∧ _ ∧ _ then _ else _) = _
    rw [if_pos ⟨rfl, h1, h2⟩])
theorem insT : InsOk cfT where
  nil ds h1 h2 := callW_pr T pr (by
    unfold pr
    rw [if_pos rfl]
    show (if (0 : Int) = 0 ∧ 1 = 1 ∧ _ ∧ _ then _ else _) = _
    rw [if_pos ⟨rfl, rfl, h1, h2⟩])
  own n i cs ds ns h1 h2 h3 h4 h5 h6 h7 h8 := callW_pr T pr (by
    unfold pr
    rw [if_pos rfl]
    unfold prIns
    simp only [Int.toNat_natCast]
    rw [if_pos ⟨trivial, trivial, trivial, Int.natCast_nonneg _, h7, h8, h1, h2, h3, h4, h5, h6⟩])
theorem lawT (g : Gph) (n : Int) (hB : FitsB g) {st : St} : callP cfT 3 [.agg (gc g), I n] [] st = some (.bool true, st) := c_law envT insT g n hB
end Go.PM
namespace Go.PM
open Go Go.Proofs Go.ChangeShapes Go.Deep
def ghOf (w : World) : Gh where
  com b o := w.cell? ⟨b, o, none⟩
  sh b := match w.heap[b]? with
    | some (.cells c e (0, 0)) => some (e, c.size)
    | _ => none
  tk _ := none
  ob _ := none
  nx := 0
  pv _ := none
  xp _ := false
  oe _ := none
  mb _ := none
theorem ghOf_sh {w : World} {b e k : Nat} (h : (ghOf w).sh b = some (e, k)) : ∃ cur : Array Value, w.heap[b]? = some (.cells cur e (0, 0)) ∧ cur.size = k := by
  simp only [ghOf] at h
  split at h
  · rename_i c e' hc
    cases h
    exact ⟨c, hc, rfl⟩
  · cases h
section
variable {H : Type} {enc : TypeId × Value → H} {w : World} {base : Nat} {held : Bool}
theorem rd_cells {a : Addr} {n : Nat} {cs : List Value} (h : w.cells? base a n = some cs) : cs.length = n ∧ ∀ i, i < n → w.cell? (a.add i) = cs[i]? := by
  obtain ⟨_, h1, h2⟩ := World.cells?_some h
  exact ⟨h1, h2⟩
theorem rd_slice {P : Program} {t e : TypeId} {sz : Nat} (ht : P.underlying t = some (.slice e)) (hce : P.cellsOf e = sz) (hsz : 0 < sz) {α : Type} (en : α → List PV) (Ok : α → Prop) (hen : ∀ a, (en a).length = sz)
    (hel : ∀ fuel cs x, DataW.trod enc P w base (fun _ => true) held fuel e cs = some x → cs.length = sz → ∃ a, Rs (ghOf w) (en a) cs ∧ Ok a)
    {fuel : Nat} {cs : List Value} {x : DataW H × List MemPlace} (h : DataW.trod enc P w base (fun _ => true) held fuel t cs = some x) :
    ∃ (l : List α) (v : Value), cs = [v] ∧ R (ghOf w) (.list l.length (l.flatMap en) .no) v ∧ v.oneCell' = true ∧ l.length ≤ maxLen ∧ ∀ a ∈ l, Ok a := by
  rcases open_slice ht h with ⟨rfl, _⟩ | ⟨a, len, cap, m, n, D, Pl, rfl, hb, hlc, hcm, hm, _, hall⟩
  · exact ⟨[], _, rfl, .listN _ trivial, rfl, Nat.zero_le _, fun _ h => by cases h⟩
  have hm : m = cap := hm
  subst hm
  rw [hce] at hall
  by_cases hc0 : m = 0
  · subst hc0
    obtain rfl : len = 0 := by omega
    exact ⟨[], _, rfl, .listE a, rfl, Nat.zero_le _, fun _ h => by cases h⟩
  have hsp : a.spot = none := by
    obtain ⟨cs', h1, _⟩ := hall 0 (by omega)
    obtain ⟨h2, h3⟩ := rd_cells h1
    have h4 := h3 0 hsz
    rw [List.getElem?_eq_getElem (by omega)] at h4
    have e0 : (a.add (0 * sz)).add 0 = a := by simp [Addr.add]
    rw [e0] at h4
    unfold World.cell? at h4
    split at h4
    · split at h4
      · cases h4
      · rename_i hs; simpa using hs
    · cases h4
  obtain ⟨b, o, s⟩ := a
  simp only at hsp
  subst hsp
  have main : ∀ k, k ≤ len → ∃ (l : List α) (us : List Value), l.length = k ∧ Rs (ghOf w) (l.flatMap en) us ∧ us.length = k * sz ∧ (∀ (j : Nat) u, us[j]? = some u → w.cell? ⟨b, o + j, none⟩ = some u) ∧ ∀ a ∈ l, Ok a := by
    intro k
    induction k with
    | zero => intro _; exact ⟨[], [], rfl, ⟨rfl, fun j p u hp _ => by simp at hp, fun _ h => by cases h⟩, by simp, fun j u hj => by simp at hj, fun _ h => by cases h⟩
    | succ k ih =>
      intro hk
      obtain ⟨l, us, h1, h2, h3, h4, h5⟩ := ih (by omega)
      obtain ⟨cs', h6, h7⟩ := hall k (by omega)
      obtain ⟨h8, h9⟩ := rd_cells h6
      obtain ⟨y, hy1, hy2⟩ := hel _ _ _ h7 h8
      refine ⟨l ++ [y], us ++ cs', by simp [h1], ?_, by rw [List.length_append, h3, h8, Nat.succ_mul], fun j u hj => ?_, fun z hz => ?_⟩
      · rw [List.flatMap_append]
        simpa using h2.append hy1
      · by_cases hlt : j < k * sz
        · rw [List.getElem?_append_left (by omega)] at hj
          exact h4 j u hj
        · rw [List.getElem?_append_right (by omega), h3] at hj
          have hj' := (List.getElem?_eq_some_iff.1 hj).1
          have := h9 (j - k * sz) (by omega)
          rw [hj, Addr.add_lit, Addr.add_lit] at this
          rw [← this]
          congr 2; omega
      · rcases List.mem_append.1 hz with h | h
        · exact h5 z h
        · rw [List.mem_singleton.1 h]; exact hy2
  obtain ⟨l, us, h1, h2, h3, h4, h5⟩ := main len (Nat.le_refl _)
  refine ⟨l, _, rfl, ?_, rfl, by omega, h5⟩
  rw [h1]
  exact .list len _ .no b o m us hlc h2.1 (fun j u hj => h4 j u hj) h2.2.1 h2.2.2 trivial (fun k _ hk => by cases hk) (fun _ hn => absurd rfl hn)
theorem rd_str {fuel : Nat} {cs : List Value} {x : DataW H × List MemPlace} (h : DataW.trod enc Tryz.prog w base (fun _ => true) held fuel 9 cs = some x) : ∃ a : List UInt8, Rs (ghOf w) [S a] cs ∧ a.length ≤ maxLen := by
  obtain ⟨s, rfl, _, hs⟩ := DataW.trod_string (by kernel_rfl) h
  refine ⟨s.data.toList, ⟨rfl, fun j p u hp hu => ?_, fun u hu => ?_⟩, by rw [Array.length_toList]; exact hs⟩
  · cases j with
    | zero => simp at hp hu; subst hp hu; exact .str s
    | succ j => simp at hp
  · simp at hu; subst hu; rfl
theorem rd_int {t : Nat} (ht : Tryz.prog.underlying t = some (.int .i64)) {fuel : Nat} {cs : List Value} {x : DataW H × List MemPlace} (h : DataW.trod enc Tryz.prog w base (fun _ => true) held fuel t cs = some x) : ∃ n : Int, Rs (ghOf w) [I n] cs := by
  obtain ⟨n, rfl, _, hs⟩ := DataW.trod_int ht h
  refine ⟨n, ⟨rfl, fun j p u hp hu => ?_, fun u hu => ?_⟩⟩
  · cases j with
    | zero => simp at hp hu; subst hp hu; exact .int _ _
    | succ j => simp at hp
  · simp at hu; subst hu; rfl
def OkTx (l : List (List UInt8)) : Prop := l.length ≤ maxLen ∧ ∀ t ∈ l, t.length ≤ maxLen
def OkFs (l : List Fd) : Prop := l.length ≤ maxLen ∧ ∀ f ∈ l, f.1.length ≤ maxLen ∧ f.2.length ≤ maxLen
theorem Rs_one {G : Gh} {p : PV} {v : Value} (h : R G p v) (h1 : v.oneCell' = true) : Rs G [p] [v] := by
  refine ⟨rfl, fun j p u hp hu => ?_, fun u hu => ?_⟩
  · cases j with
    | zero => simp at hp hu; subst hp hu; exact h
    | succ j => simp at hp
  · simp at hu; subst hu; exact h1
theorem flat_one : ∀ l : List (List UInt8), l.flatMap (fun a => [S a]) = l.map S
  | [] => rfl
  | a :: l => by rw [List.flatMap_cons, List.map_cons, flat_one l, List.singleton_append]
theorem rd_texts {fuel : Nat} {cs : List Value} {x : DataW H × List MemPlace} (h : DataW.trod enc Tryz.prog w base (fun _ => true) held fuel 70 cs = some x) : ∃ l, Rs (ghOf w) [TX l] cs ∧ OkTx l := by
  obtain ⟨l, v, rfl, h1, h2, h3, h4⟩ := rd_slice (α := List UInt8) (e := 9) (sz := 1) (by kernel_rfl) (by kernel_rfl) (by decide) (fun a => [S a]) (fun a => a.length ≤ maxLen) (fun _ => rfl) (fun fuel cs x h _ => rd_str h) h
  rw [flat_one] at h1
  exact ⟨l, Rs_one h1 h2, h3, h4⟩
theorem two {cs : List Value} (h : cs.length = 2) : ∃ a b, cs = [a, b] := by
  match cs, h with
  | [a, b], _ => exact ⟨a, b, rfl⟩
theorem three {cs : List Value} (h : cs.length = 3) : ∃ a b c, cs = [a, b, c] := by
  match cs, h with
  | [a, b, c], _ => exact ⟨a, b, c, rfl⟩
theorem five {cs : List Value} (h : cs.length = 5) : ∃ a b c d e, cs = [a, b, c, d, e] := by
  match cs, h with
  | [a, b, c, d, e], _ => exact ⟨a, b, c, d, e, rfl⟩
noncomputable def layOf (t : Nat) : List (Nat × Nat) := match Tryz.prog.underlying t with
  | some (.struct fs) => fs.toList.map fun f => (f.type, f.offset)
  | _ => []
theorem rd_struct {t : TypeId} {L : List (Nat × Nat)} (hL : layOf t = L) (h0 : L ≠ []) {fuel : Nat} {cs : List Value} {x : DataW H × List MemPlace} (h : DataW.trod enc Tryz.prog w base (fun _ => true) held fuel t cs = some x) :
    ∃ n, ∀ (i : Nat) q, L[i]? = some q → ∃ y, DataW.trod enc Tryz.prog w base (fun _ => true) held n q.1 ((cs.drop q.2).take (Tryz.prog.cellsOf q.1)) = some y := by
  unfold layOf at hL
  split at hL
  · rename_i fs hfs
    obtain ⟨xs, n, _, _, _, hl, hf⟩ := DataW.trod_struct hfs h
    refine ⟨n, fun i q hi => ?_⟩
    rw [← hL, List.getElem?_map, Option.map_eq_some_iff] at hi
    obtain ⟨f, hi, rfl⟩ := hi
    rw [Array.getElem?_toList] at hi
    have := hf i f hi
    have hlt : i < xs.length := by rw [hl]; exact (Array.getElem?_eq_some_iff.1 hi).1
    rw [List.getElem?_eq_getElem hlt] at this
    exact ⟨_, this⟩
  · exact absurd hL.symm h0
theorem c9 : Tryz.prog.cellsOf 9 = 1 := by kernel_rfl
theorem c2 : Tryz.prog.cellsOf 2 = 1 := by kernel_rfl
theorem c70 : Tryz.prog.cellsOf 70 = 1 := by kernel_rfl
theorem c102 : Tryz.prog.cellsOf 102 = 1 := by kernel_rfl
theorem c22 : Tryz.prog.cellsOf 22 = 1 := by kernel_rfl
theorem c23 : Tryz.prog.cellsOf 23 = 1 := by kernel_rfl
theorem rd_field {fuel : Nat} {cs : List Value} {x : DataW H × List MemPlace} (h : DataW.trod enc Tryz.prog w base (fun _ => true) held fuel 184 cs = some x) (hl : cs.length = 2) : ∃ f : Fd, Rs (ghOf w) (fc f) cs ∧ f.1.length ≤ maxLen ∧ f.2.length ≤ maxLen := by
  obtain ⟨n, hf⟩ := rd_struct (L := [(9, 0), (9, 1)]) (by kernel_rfl) (by decide) h
  obtain ⟨a, b, rfl⟩ := two hl
  obtain ⟨y0, h0⟩ := hf 0 _ rfl
  obtain ⟨y1, h1⟩ := hf 1 _ rfl
  rw [c9] at h0 h1
  have h0 : DataW.trod enc Tryz.prog w base (fun _ => true) held n 9 [a] = some y0 := h0
  have h1 : DataW.trod enc Tryz.prog w base (fun _ => true) held n 9 [b] = some y1 := h1
  obtain ⟨s0, r0, l0⟩ := rd_str h0
  obtain ⟨s1, r1, l1⟩ := rd_str h1
  exact ⟨(s0, s1), r0.append r1, l0, l1⟩
theorem rd_fields {fuel : Nat} {cs : List Value} {x : DataW H × List MemPlace} (h : DataW.trod enc Tryz.prog w base (fun _ => true) held fuel 102 cs = some x) : ∃ l, Rs (ghOf w) [FX l] cs ∧ OkFs l := by
  obtain ⟨l, v, rfl, h1, h2, h3, h4⟩ := rd_slice (α := Fd) (e := 184) (sz := 2) (by kernel_rfl) (by kernel_rfl) (by decide) fc (fun f => f.1.length ≤ maxLen ∧ f.2.length ≤ maxLen) fc_len (fun fuel cs x h hl => rd_field h hl) h
  exact ⟨l, Rs_one h1 h2, h3, h4⟩
theorem rd_node {fuel : Nat} {cs : List Value} {x : DataW H × List MemPlace} (h : DataW.trod enc Tryz.prog w base (fun _ => true) held fuel 104 cs = some x) (hl : cs.length = 3) : ∃ y : Nd, Rs (ghOf w) (nc y) cs ∧ OkTx y.labels ∧ OkFs y.fields := by
  obtain ⟨n, hf⟩ := rd_struct (L := [(2, 0), (70, 1), (102, 2)]) (by kernel_rfl) (by decide) h
  obtain ⟨a, b, c, rfl⟩ := three hl
  obtain ⟨y0, h0⟩ := hf 0 _ rfl
  obtain ⟨y1, h1⟩ := hf 1 _ rfl
  obtain ⟨y2, h2⟩ := hf 2 _ rfl
  rw [c2] at h0
  rw [c70] at h1
  rw [c102] at h2
  have h0 : DataW.trod enc Tryz.prog w base (fun _ => true) held n 2 [a] = some y0 := h0
  have h1 : DataW.trod enc Tryz.prog w base (fun _ => true) held n 70 [b] = some y1 := h1
  have h2 : DataW.trod enc Tryz.prog w base (fun _ => true) held n 102 [c] = some y2 := h2
  obtain ⟨i, r0⟩ := rd_int (by kernel_rfl) h0
  obtain ⟨ls, r1, l1⟩ := rd_texts h1
  obtain ⟨fs, r2, l2⟩ := rd_fields h2
  exact ⟨⟨i, ls, fs⟩, (r0.append r1).append r2, l1, l2⟩
theorem rd_edge {fuel : Nat} {cs : List Value} {x : DataW H × List MemPlace} (h : DataW.trod enc Tryz.prog w base (fun _ => true) held fuel 106 cs = some x) (hl : cs.length = 5) : ∃ y : Eg, Rs (ghOf w) (ec y) cs ∧ y.type.length ≤ maxLen ∧ OkFs y.fields := by
  obtain ⟨n, hf⟩ := rd_struct (L := [(2, 0), (9, 1), (2, 2), (2, 3), (102, 4)]) (by kernel_rfl) (by decide) h
  obtain ⟨a, b, c, d, e, rfl⟩ := five hl
  obtain ⟨y0, h0⟩ := hf 0 _ rfl
  obtain ⟨y1, h1⟩ := hf 1 _ rfl
  obtain ⟨y2, h2⟩ := hf 2 _ rfl
  obtain ⟨y3, h3⟩ := hf 3 _ rfl
  obtain ⟨y4, h4⟩ := hf 4 _ rfl
  rw [c2] at h0 h2 h3
  rw [c9] at h1
  rw [c102] at h4
  have h0 : DataW.trod enc Tryz.prog w base (fun _ => true) held n 2 [a] = some y0 := h0
  have h1 : DataW.trod enc Tryz.prog w base (fun _ => true) held n 9 [b] = some y1 := h1
  have h2 : DataW.trod enc Tryz.prog w base (fun _ => true) held n 2 [c] = some y2 := h2
  have h3 : DataW.trod enc Tryz.prog w base (fun _ => true) held n 2 [d] = some y3 := h3
  have h4 : DataW.trod enc Tryz.prog w base (fun _ => true) held n 102 [e] = some y4 := h4
  obtain ⟨i, r0⟩ := rd_int (by kernel_rfl) h0
  obtain ⟨t, r1, l1⟩ := rd_str h1
  obtain ⟨f, r2⟩ := rd_int (by kernel_rfl) h2
  obtain ⟨g, r3⟩ := rd_int (by kernel_rfl) h3
  obtain ⟨fs, r4, l4⟩ := rd_fields h4
  exact ⟨⟨i, t, f, g, fs⟩, ((((r0.append r1).append r2).append r3).append r4), l1, l4⟩
structure OkG (g : Gph) : Prop where
  ns : g.nodes.length ≤ maxLen
  es : g.edges.length ≤ maxLen
  n : ∀ x ∈ g.nodes, OkTx x.labels ∧ OkFs x.fields
  e : ∀ x ∈ g.edges, x.type.length ≤ maxLen ∧ OkFs x.fields
theorem rd_graph {fuel : Nat} {cs : List Value} {x : DataW H × List MemPlace} (h : DataW.trod enc Tryz.prog w base (fun _ => true) held fuel 25 cs = some x) (hl : cs.length = 2) : ∃ g : Gph, Rs (ghOf w) (gc g) cs ∧ OkG g := by
  obtain ⟨n, hf⟩ := rd_struct (L := [(22, 0), (23, 1)]) (by kernel_rfl) (by decide) h
  obtain ⟨a, b, rfl⟩ := two hl
  obtain ⟨y0, h0⟩ := hf 0 _ rfl
  obtain ⟨y1, h1⟩ := hf 1 _ rfl
  rw [c22] at h0
  rw [c23] at h1
  obtain ⟨ns, v0, e0, r0, o0, l0, k0⟩ := rd_slice (α := Nd) (e := 104) (sz := 3) (by kernel_rfl) (by kernel_rfl) (by decide) nc (fun y => OkTx y.labels ∧ OkFs y.fields) nc_len (fun fuel cs x h hl => rd_node h hl) h0
  obtain ⟨es, v1, e1, r1, o1, l1, k1⟩ := rd_slice (α := Eg) (e := 106) (sz := 5) (by kernel_rfl) (by kernel_rfl) (by decide) ec (fun y => y.type.length ≤ maxLen ∧ OkFs y.fields) ec_len (fun fuel cs x h hl => rd_edge h hl) h1
  simp only [List.drop_zero, List.take_succ_cons, List.take_zero, List.drop_succ_cons] at e0 e1
  cases e0; cases e1
  exact ⟨⟨ns, es⟩, (Rs_one r0 o0).append (Rs_one r1 o1), l0, l1, k0, k1⟩
end
end Go.PM
namespace Go.PM
open Go Go.Proofs Go.Proofs.YtdpamjikmlbmhaaGreatDoor Go.ChangeShapes Go.WideShapes Go.RowKit Go.Lib
def laidL : List (String × DataW Unit) := [("math/bits.deBruijn32tab", Rows.laid_math_bits_deBruijn32tab), ("math/bits.deBruijn64tab", Rows.laid_math_bits_deBruijn64tab), ("internal/strconv.uint64pow10", Rows.laid_internal_strconv_uint64pow10), ("strconv.ErrRange", Rows.laid_strconv_ErrRange), ("strconv.ErrSyntax", Rows.laid_strconv_ErrSyntax)]
section
variable {W : World}
theorem shaped_row (hsh : W.ShapedOpen Tryz.prog) {g : Nat} (hg : g < Tryz.prog.globals.size) (h : (((begin Tryz.prog (fun _ _ => 0) default).world.heap[g]?).bind Obj.row?).isSome = true) : ∃ cs t, W.heap[g]? = some (.cells cs t (0, 0)) := by
  obtain ⟨x, hx⟩ := Option.isSome_iff_exists.1 h
  obtain ⟨cs, h1, _⟩ := hsh.1 g x.1 x.2 hg hx
  exact ⟨cs, x.2, h1⟩
theorem var_row {n : String} {g : Nat} (hn : Tryz.prog.globalNamed n = some g) {cs : Array Value} (hv : W.var? Tryz.prog n = some cs) {c : Array Value} {t : TypeId} {f : Nat × Nat} (hh : W.heap[g]? = some (.cells c t f)) : W.heap[g]? = some (.cells cs t f) := by
  unfold World.var? at hv
  rw [hn] at hv
  simp only [Option.bind_some, hh] at hv
  cases hv
  exact hh
theorem powTab (hL : laidMet Tryz.prog laidL W) : TabIs Tryz.prog W "internal/strconv.uint64pow10" .u64 pow10Tab :=
  tabIs_of_head (t := 232) (e := 170) (n := 20) g_pow (by kernel_rfl) (by kernel_rfl) (by kernel_rfl) (by kernel_rfl) (by kernel_rfl) (rest := [("strconv.ErrRange", Rows.laid_strconv_ErrRange), ("strconv.ErrSyntax", Rows.laid_strconv_ErrSyntax)]) hL.tail.tail
theorem sentinelRow (u : TypeId) (h : Tryz.prog.typeName? 3 u = some "*errors.errorString") : u = 270 :=
  typeName_ptr_named (nm := "errors.errorString") (by rw [show "*" ++ "errors.errorString" = "*errors.errorString" by decide]; kernel_rfl) (by kernel_rfl) (by decide) u (by rw [show "*" ++ "errors.errorString" = "*errors.errorString" by decide]; exact h)
theorem oneField {fs : Array Field} {t o : Nat} (h : (fs.toList.map fun f => (f.type, f.offset)) = [(t, o)]) : ∃ f, fs = #[f] ∧ f.type = t ∧ f.offset = o := by
  obtain ⟨l⟩ := fs
  match l, h with
  | [f], h =>
    simp only [List.map_cons, List.map_nil, List.cons.injEq, Prod.mk.injEq, and_true] at h
    exact ⟨f, rfl, h.1, h.2⟩
theorem sentinelVar {n : String} {text : List UInt8} {r : List (String × DataW Unit)} {g : Nat} (h : laidMet Tryz.prog ((n, .iface "*errors.errorString" (.ptr (.agg [.lit (.string text)]))) :: r) W)
    (hg : Tryz.prog.globalNamed n = some g) (ht : (Tryz.prog.globals[g]?).map (·.type) = some 251) : ∃ a : Addr, W.var? Tryz.prog n = some #[.iface 270 (.pointer (some a))] := by
  obtain ⟨fs, hfs⟩ : ∃ f, Tryz.prog.underlying 272 = some (.struct #[f]) ∧ f.type = 9 ∧ f.offset = 0 := by
    have h1 : layOf 272 = [(9, 0)] := by kernel_rfl
    unfold layOf at h1
    split at h1
    · rename_i fs hfs
      obtain ⟨f, rfl, h2, h3⟩ := oneField h1
      exact ⟨f, hfs, h2, h3⟩
    · cases h1
  obtain ⟨a, s, h1, _⟩ := laid_sentinel h hg ht Tryz.underlying251 sentinelRow (show Tryz.prog.underlying 270 = some (.pointer 272) by kernel_rfl) hfs.1 hfs.2.1 hfs.2.2 (by kernel_rfl) (by kernel_rfl) (by kernel_rfl)
  exact ⟨a, h1⟩
theorem startInv (hL : laidMetH Tryz.prog laidL W) (hsh : W.ShapedOpen Tryz.prog) : ∃ pS pR, Inv Tryz.prog (baseB (.iface 270 pS) (.iface 270 pR)) (ghOf W) (stB [] []) W := by
  have hL0 : laidMet Tryz.prog laidL W := hL
  have ht := powTab hL0
  obtain ⟨aR, hR⟩ := sentinelVar (r := [("strconv.ErrSyntax", Rows.laid_strconv_ErrSyntax)]) (show laidMet Tryz.prog (("strconv.ErrRange", Rows.laid_strconv_ErrRange) :: _) W from hL0.tail.tail.tail) g_ran (by kernel_rfl)
  obtain ⟨aS, hS⟩ := sentinelVar (r := []) (show laidMet Tryz.prog (("strconv.ErrSyntax", Rows.laid_strconv_ErrSyntax) :: _) W from hL0.tail.tail.tail.tail) g_syn (by kernel_rfl)
  obtain ⟨c0, t0, h0⟩ := shaped_row hsh (g := 0) (of_decide_eq_true (by kernel_rfl)) (by kernel_rfl)
  obtain ⟨c3, t3, h3⟩ := shaped_row hsh (g := 3) (of_decide_eq_true (by kernel_rfl)) (by kernel_rfl)
  obtain ⟨c4, t4, h4⟩ := shaped_row hsh (g := 4) (of_decide_eq_true (by kernel_rfl)) (by kernel_rfl)
  have k0 := var_row g_pow ht h0
  have k3 := var_row g_syn hS h3
  have k4 := var_row g_ran hR h4
  have whole : ∀ {b : Nat} {l : List Value} {t : TypeId}, W.heap[b]? = some (.cells l.toArray t (0, 0)) → (∀ o, baseB (.iface 270 (.pointer (some aS))) (.iface 270 (.pointer (some aR))) b o = l[o]?) → ∀ o v, baseB (.iface 270 (.pointer (some aS))) (.iface 270 (.pointer (some aR))) b o = some v →
      (ghOf W).com b o = some v ∧ (ghOf W).pv b = none ∧ Whole (baseB (.iface 270 (.pointer (some aS))) (.iface 270 (.pointer (some aR)))) b ((ghOf W).sh b) := by
    intro b l t hb hl o v hv
    refine ⟨?_, rfl, (t, l.length), ?_, fun o ho => ?_⟩
    · rw [hl] at hv
      show W.cell? ⟨b, o, none⟩ = some v
      simp only [World.cell?, hb, Option.isSome_none, Bool.false_eq_true, if_false, List.getElem?_toArray]
      exact hv
    · simp only [ghOf, hb, List.size_toArray]
    · rw [hl, List.getElem?_eq_getElem ho]
      exact fun h => by cases h
  refine ⟨.pointer (some aS), .pointer (some aR), ?_⟩
  have nf : ∀ {α : Type} {x : α}, (none : Option α) = some x → False := fun h => by cases h
  refine ⟨fun b o v h => h, fun b e k h => ghOf_sh h, rfl, fun t x h => (nf h).elim, fun t h => absurd h (Nat.not_lt_zero _), fun t r h => (nf h).elim, fun t u r q h => (nf h).elim, fun t r h => (nf h).elim, fun s cs h => (nf h).elim,
    fun s b h => (nf h).elim, fun s u b h => (nf h).elim, fun _ _ => rfl, fun s cs h => (nf h).elim, fun b k h => (nf h).elim, fun b h => Bool.noConfusion h, fun b o v h => ?_, fun s b e sz h => (nf h).elim, fun s es h => (nf h).elim, fun s b h => (nf h).elim,
    fun s u b h => (nf h).elim, fun _ _ => rfl, fun s b h => (nf h).elim, fun t m h => (nf h).elim⟩
  by_cases b0 : b = 0
  · subst b0
    exact whole k0 (fun o => by unfold baseB; rw [if_pos rfl]) o v h
  · by_cases b3 : b = 3
    · subst b3
      exact whole (l := [.iface 270 (.pointer (some aS))]) k3 (fun o => by
        unfold baseB
        rw [if_neg (by decide), if_pos rfl]
        cases o with
        | zero => rfl
        | succ o => simp) o v h
    · by_cases b4 : b = 4
      · subst b4
        exact whole (l := [.iface 270 (.pointer (some aR))]) k4 (fun o => by
          unfold baseB
          rw [if_neg (by decide), if_neg (by decide), if_pos rfl]
          cases o with
          | zero => rfl
          | succ o => simp) o v h
      · unfold baseB at h
        rw [if_neg b0, if_neg b3, if_neg b4] at h
        cases h
theorem endKept {G' : Gh} {W' : World} (hS : Step (ghOf W) W G' W') : ∀ b, b < W.heap.size → W'.heap[b]? = W.heap[b]? := fun b hb =>
  hS.kept b hb (fun s h => by cases h) (fun t r h => by cases h) (fun s h => by cases h)
theorem keptBut_old {W' : World} (he : W'.os = W.os ∧ W'.output = W.output) (hb : ∀ b, b < W.heap.size → W'.heap[b]? = W.heap[b]?) (may : MemPlace → Prop) : W.keptBut W' may := by
  refine ⟨he.1, he.2, fun i hi => ?_⟩
  rw [hb i hi]
  cases h : W.heap[i]? with
  | none => rfl
  | some o => cases o <;> first | exact ⟨rfl, rfl, rfl, fun _ _ => rfl⟩ | exact .inr ⟨rfl, rfl⟩ | rfl
theorem sameOld {W' : World} (hb : ∀ b, b < W.heap.size → W'.heap[b]? = W.heap[b]?) {p : MemPlace} (hp : p.block < W.heap.size) : W.sameAt W' p := by
  cases p with
  | cell b o => exact World.cell?_of_block (w := W) (hb b hp)
  | map b => exact hb b hp
theorem TrodAll_stays {H : Type} {enc : TypeId × Value → H} (hl : laidOutB Tryz.prog = true) {W' : World} (hb : ∀ b, b < W.heap.size → W'.heap[b]? = W.heap[b]?) : ∀ {ts : List TypeId} {vs : List Value} {ds : List (DataW H)} {ps : List MemPlace},
    (∀ t ∈ ts, Tryz.prog.readableRec t = true ∧ t < Tryz.prog.types.size) → (∀ p ∈ ps, p.block < W.heap.size) → DataW.TrodAll enc Tryz.prog W 0 (fun _ => true) true ts vs ds ps → DataW.TrodAll enc Tryz.prog W' 0 (fun b => decide (b < W.heap.size)) true ts vs ds ps
  | [], [], [], _, _, _, h => h
  | t :: ts, v :: vs, d :: ds, ps, ht, hp, h => by
    obtain ⟨p, q, h1, h2, rfl⟩ := h
    exact ⟨p, q, WideElems.Trod_stays hl (ht t List.mem_cons_self).1 (ht t List.mem_cons_self).2 h1 (fun x hx => sameOld hb (hp x (List.mem_append_left _ hx))) (fun x hx => by simpa using hp x (List.mem_append_left _ hx)),
      TrodAll_stays hl hb (fun t h => ht t (List.mem_cons_of_mem _ h)) (fun x hx => hp x (List.mem_append_right _ hx)) h2, rfl⟩
theorem laidOut : laidOutB Tryz.prog = true := by kernel_rfl
end
end Go.PM
namespace Go.Proofs.YtdpamjikmlbmhaaGreatDoor.SplitGraph
open Go Go.PM Go.ChangeShapes Go.WideShapes Go.ChangeAt Go.RowKit
theorem own : ownKnob Tryz.prog.godebug = none := by kernel_rfl
theorem und4 : Tryz.prog.underlying 4 = some .bool := by kernel_rfl
theorem und2 : Tryz.prog.underlying 2 = some (.int .i64) := by kernel_rfl
theorem cel25 : Tryz.prog.cellsOf 25 = 2 := by kernel_rfl
theorem fits {g : Gph} (h : OkG g) : FitsB g := ⟨h.ns, h.es, fun x hx => (h.n x hx).1, fun x hx => (h.n x hx).2, fun x hx => (h.e x hx).1, fun x hx => (h.e x hx).2⟩
set_option maxRecDepth 100000 in
theorem contract (H : Type) (enc : TypeId × Value → H) (W : World) (base : Nat) (args : Array Value) (ds gs : List (DataW H)) (before : List MemPlace)
    (hval : ∀ (j : Nat) t v, Tryz.f3.params[j]? = some t → args[j]? = some v → Value.okWide Tryz.prog W .any base t v)
    (hW : DataW.Whole enc Tryz.prog Tryz.f3.params.toList Rows.fnExactSplitGraphSpec.vars false W args.toList ds gs before) (hL : laidMetH Tryz.prog laidL W) (hsh : W.ShapedOpen Tryz.prog) :
    Calls Tryz.prog 3 args W fun e W' => ∃ v, e = .returned v ∧ Rows.fnExactSplitGraphSpec.post enc Tryz.prog Tryz.f3 false true false false W args v W' := by
  have hW' := hW
  have hlt := hW.lt
  obtain ⟨p, q, hA0, hV, rfl, hfz, hnd⟩ := hW
  have hA : DataW.TrodAll enc Tryz.prog W 0 (fun _ => true) true Tryz.f3.params.toList args.toList ds p := hA0
  have hp : Tryz.f3.params = #[25, 2] := by kernel_rfl
  rw [hp] at hA hval
  obtain ⟨v0, v1, d0, d1, p0, p1, rfl, rfl, rfl, h0, h1⟩ := trodAll_two hA
  obtain ⟨rfl, rfl⟩ := trodVars_none hV
  have hv1 := hval 1 2 v1 rfl rfl
  have hv0 := hval 0 25 v0 rfl rfl
  obtain ⟨n, rfl, rfl, rfl, hwn⟩ := open_int und2 hv1 h1
  obtain ⟨cs, rfl, hcs⟩ : ∃ cs, v0 = .agg cs ∧ cs.size = Tryz.prog.cellsOf 25 := by
    have := hv0
    unfold Value.okWide at this
    rw [Tryz.underlying25] at this
    obtain ⟨cs, h1, h2, _⟩ := this
    exact ⟨cs, h1, h2⟩
  obtain ⟨fuel, hf⟩ := h0
  obtain ⟨g, hg, hok⟩ := rd_graph hf (Array.length_toList.trans (hcs.trans cel25))
  obtain ⟨pS, pR, hI⟩ := startInv hL hsh
  have hR0 : R (ghOf W) (.agg (gc g)) (.agg cs) := by
    have := R.agg (G := ghOf W) (gc g) cs.toList hg.1 hg.2.1 hg.2.2
    simpa using this
  obtain ⟨_, _, hc⟩ := callP_sound (cfT_ok 270 270 pS pR) hI (f := 3) (show ([.agg (gc g), I n] : List PV).length = ([.agg cs, .int .i64 n] : List Value).length from rfl) (fun j p v hp hv => by
    match j with
    | 0 => simp at hp hv; subst hp hv; exact ⟨hR0, np_tidy (plainV_gr g).1⟩
    | 1 => simp at hp hv; subst hp hv; exact ⟨.int _ _, rfl⟩
    | j + 2 => simp at hp) (lawT g n (fits hok))
  refine hc.mono fun e W' h => ?_
  obtain ⟨v, G', hret, hRv, _, hS, _⟩ := h
  cases hRv
  obtain rfl := (RetOk_lt (by decide)).1 hret
  have hb := endKept hS
  have hargs := TrodAll_stays (enc := enc) laidOut hb (ts := [25, 2]) (fun t ht => by
    simp only [List.mem_cons, List.not_mem_nil, or_false] at ht
    rcases ht with rfl | rfl
    · exact ⟨by kernel_rfl, of_decide_eq_true (by kernel_rfl)⟩
    · exact ⟨by kernel_rfl, of_decide_eq_true (by kernel_rfl)⟩) (fun x hx => hlt x (List.mem_append_left _ hx)) (by rw [hp] at hA0; exact hA0)
  refine ⟨_, rfl, [d0, .lit (.int .i64 n)], [], _, [], p0 ++ [], [], hW', trodAll_mk1 (shut_bool und4 true), ?_, rfl, keptBut_old hS.eff hb _, fun h => by cases h⟩
  rw [hp]
  exact hargs
theorem laid_met (os : Os) (a : Array Value) : laidMetH Tryz.prog laidL ((World.doorLaid Tryz.prog 400 os).forCall (fun _ _ => 0) ⟨#[], a, []⟩).memory :=
  laidMetH_of_parts3 (fuel := 8) (laidMet_of_run' 8 (by kernel_rfl) (by kernel_rfl)) (by kernel_rfl) (by kernel_rfl)
theorem reads (os : Os) {H : Type} (enc : TypeId × Value → H) : ∃ places, DataW.whole enc Tryz.prog ((World.doorLaid Tryz.prog 400 os).forCall (fun _ _ => 0) ⟨#[], #[.agg #[.slice none 0 0, .slice none 0 0], .int .i64 0], []⟩).memory Tryz.f3.params.toList Rows.fnExactSplitGraphSpec.vars false #[Value.agg #[.slice none 0 0, .slice none 0 0], .int .i64 0].toList 8 = some ([.agg [.nil, .nil], .lit (.int .i64 0)], [], places) :=
  ⟨[], by kernel_rfl⟩
set_option maxRecDepth 100000 in
theorem lifted (os : Os) (started : os.Started) (H : Type) (enc : TypeId × Value → H) (F : Stop.Interp) :
    ReturnsInHanded {} Tryz.checked os 3 .any ((OpenSpec.ofChange Rows.fnExactSplitGraphSpec).preRow enc Tryz.prog Tryz.f3 Rows.fnExactSplitGraphRow.domain false Rows.fnExactSplitGraphRow.laid) (((OpenSpec.ofChange Rows.fnExactSplitGraphSpec).at F).post enc Tryz.prog Tryz.f3 false true false false) := by
  obtain ⟨places, hx⟩ := reads os enc
  refine returnsInHanded_of_row (C := Tryz.checked) (s := OpenSpec.ofChange Rows.fnExactSplitGraphSpec) own started (by kernel_rfl) Tryz.func3
    (witness_row_atRef (enc := enc) (C := Tryz.checked) false (World.doorLaid Tryz.prog 400 os) #[.agg #[.slice none 0 0, .slice none 0 0], .int .i64 0] rfl (by kernel_rfl) (by kernel_rfl) (by kernel_rfl)
      (OpenSpec.preRow_of_cond 8 hx (by kernel_rfl) (fun k hk => by cases hk) (by kernel_rfl) (laid_met os _))) ?_
  intro W base args ds gs before hval hW _ _ _ hL hsh _
  exact contract H enc W base args ds gs before hval hW hL hsh
theorem said : Rows.FnExactSplitGraphSaid :=
  OpenClaim.holds_of_cond 3 Tryz.f3 rfl rfl rfl rfl rfl rfl rfl ⟨rfl, rfl, rfl, rfl, rfl⟩ rfl rfl rfl rfl rfl (by kernel_rfl) Tryz.func3 (by kernel_rfl)
    (of_decide_eq_true (by kernel_rfl)) (by unfold Func.isWrapper; first | (rw [if_pos (by decide +kernel)]; kernel_rfl) | (rw [if_neg (by decide +kernel)]; exact ⟨rfl, rfl⟩))
    (fun os started H enc _ F => by rw [OpenClaim.pre_eq_preRow]; exact lifted os started H enc F)
theorem plain (f : FuncId) (fn : Func) (hf : Tryz.pinned.checked.prog.funcNamed "loop.example/g00042/laws.FnExactSplitGraph" = some f) (hfn : Tryz.pinned.checked.prog.funcs[f]? = some fn) :
    true = Tryz.pinned.checked.prog.looks [] ∧ ∀ (j : Nat) t, fn.params[j]? = some t → Tryz.pinned.checked.prog.wantsStandIn t = false := by
  obtain rfl : f = 3 := Option.some.inj ((show Tryz.prog.funcNamed "loop.example/g00042/laws.FnExactSplitGraph" = some 3 by kernel_rfl).symm.trans hf) |>.symm
  obtain rfl : fn = Tryz.f3 := (Option.some.inj (Tryz.func3.symm.trans hfn)).symm
  refine ⟨by kernel_rfl, fun j t ht => ?_⟩
  have hp : Tryz.f3.params = #[25, 2] := by kernel_rfl
  rw [hp] at ht
  have hm := Array.mem_of_getElem? ht
  simp only [List.mem_toArray, List.mem_cons, List.not_mem_nil, or_false] at hm
  rcases hm with rfl | rfl
  · exact (show Tryz.prog.wantsStandIn 25 = false by kernel_rfl)
  · exact (show Tryz.prog.wantsStandIn 2 = false by kernel_rfl)
theorem card : Rows.FnExactSplitGraphCardSaid :=
  Claim7.holds_tied_plain_at .later [] _ _ _ _ said (fun _ h => by cases h) (by kernel_rfl) (fun _ h => by cases h) fnExactSplitGraph_row_tie rfl ⟨rfl, rfl⟩ (by kernel_rfl) rfl plain (by kernel_rfl)
#print axioms card
end Go.Proofs.YtdpamjikmlbmhaaGreatDoor.SplitGraph
