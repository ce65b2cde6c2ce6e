/- A part of the proof: texts PnE, PoA, PoB, PoC, PoD, PoE, PfA, PoF, PoG, PoH, PoI, joined. Conditions: none. -/
import Derived.Test.YtdpamjikmlbmhaaGreatDoorPB
namespace Go.PM
variable {P : Program} {B : Nat → Nat → Option Value}
theorem runFn_mono {c c' : CallF} (h : CLe c c') {n n' : Nat} (hn : n ≤ n') {F : CFn} {as : List PV} {ns : List Nat} {cs : List (List PV)} {r} (hr : runFn c n F as ns cs = some r) : runFn c' n' F as ns cs = some r := by
  unfold runFn at hr ⊢
  split at hr
  · rename_i hb
    rw [if_pos hb]
    split at hr
    · rename_i y hy; rw [ev_mono h hn _ hy]; exact hr
    · rename_i y hy; rw [ev_mono h hn _ hy]; exact hr
    · cases hr
  · cases hr
theorem runFn_cont {c : Nat → CallF} {lim : CallF} (h : Chain c lim) {N : Nat} {F : CFn} {as : List PV} {ns : List Nat} {cs : List (List PV)} {r} (hr : runFn lim N F as ns cs = some r) : ∃ n, runFn (c n) N F as ns cs = some r := by
  unfold runFn at hr ⊢
  split at hr
  · rename_i hb
    split at hr
    · rename_i y hy
      obtain ⟨n, hn⟩ := ev_cont h N _ hy
      exact ⟨n, by rw [if_pos hb, hn]; exact hr⟩
    · rename_i y hy
      obtain ⟨n, hn⟩ := ev_cont h N _ hy
      exact ⟨n, by rw [if_pos hb, hn]; exact hr⟩
    · cases hr
  · cases hr
section
variable (T : Nat → Option CFn) (pr : CallF)
def callN : Nat → CallF
  | 0 => pr
  | n + 1 => fun f as ns cs => match pr f as ns cs with
    | some r => some r
    | none => match T f with
      | some F => runFn (callN n) n F as ns cs
      | none => none
theorem callN_pr {n : Nat} {f : Nat} {as : List PV} {ns : List Nat} {cs : List (List PV)} {r} (h : pr f as ns cs = some r) : callN T pr n f as ns cs = some r := by
  cases n with
  | zero => exact h
  | succ n => simp only [callN, h]
theorem callN_up : ∀ (n : Nat), CLe (callN T pr n) (callN T pr (n + 1))
  | 0 => fun f as ns cs r h => callN_pr T pr h
  | n + 1 => fun f as ns cs r h => by
    simp only [callN] at h
    cases hp : pr f as ns cs with
    | some q =>
      rw [hp] at h
      cases h
      exact callN_pr T pr hp
    | none =>
      rw [hp] at h
      rw [callN]
      simp only [hp]
      cases ht : T f with
      | none => rw [ht] at h; cases h
      | some F =>
        rw [ht] at h
        simp only at h ⊢
        exact runFn_mono (callN_up n) (Nat.le_succ n) h
theorem callN_le {n m : Nat} (h : n ≤ m) : CLe (callN T pr n) (callN T pr m) := by
  induction h with
  | refl => exact CLe.refl _
  | step _ ih => exact ih.trans (callN_up T pr _)
noncomputable def callW : CallF := fun f as ns cs => open Classical in if h : ∃ r n, callN T pr n f as ns cs = some r then some h.choose else none
theorem callW_iff {f : Nat} {as : List PV} {ns : List Nat} {cs : List (List PV)} {r} : callW T pr f as ns cs = some r ↔ ∃ n, callN T pr n f as ns cs = some r := by
  unfold callW
  constructor
  · intro h
    split at h
    · rename_i hx
      cases h
      exact hx.choose_spec
    · cases h
  · rintro ⟨n, hn⟩
    have hx : ∃ r n, callN T pr n f as ns cs = some r := ⟨r, n, hn⟩
    rw [dif_pos hx]
    obtain ⟨m, hm⟩ := hx.choose_spec
    have h1 := callN_le T pr (Nat.le_max_left n m) _ _ _ _ _ hn
    have h2 := callN_le T pr (Nat.le_max_right n m) _ _ _ _ _ hm
    rw [h1] at h2
    rw [h2]
theorem chainW : Chain (callN T pr) (callW T pr) := ⟨callN_up T pr, fun _ _ _ _ _ h => (callW_iff T pr).1 h⟩
theorem callW_fn {f : Nat} {F : CFn} (ht : T f = some F) {as : List PV} {ns : List Nat} {cs : List (List PV)} {r} (hp : pr f as ns cs = none) (N : Nat) (h : runFn (callW T pr) N F as ns cs = some r) : callW T pr f as ns cs = some r := by
  obtain ⟨n, hn⟩ := runFn_cont (chainW T pr) h
  refine (callW_iff T pr).2 ⟨max n N + 1, ?_⟩
  simp only [callN, hp, ht]
  exact runFn_mono (callN_le T pr (Nat.le_max_left n N)) (Nat.le_max_right n N) hn
theorem callW_pr {f : Nat} {as : List PV} {ns : List Nat} {cs : List (List PV)} {r} (h : pr f as ns cs = some r) : callW T pr f as ns cs = some r := (callW_iff T pr).2 ⟨0, h⟩
def TableOk (P : Program) : Prop := ∀ f F, T f = some F → (f < 1000000 ∧ ∃ M nk own, compFn P M nk own f = some F) ∨ ∃ M f0, f = backF f0 ∧ compFnB P M f0 = some F
theorem callN_ok (hmix : P.follows .mixedOrders = true) (hT : TableOk T P) (hpr : CallOk P B pr) : ∀ n, CallOk P B (callN T pr n)
  | 0 => hpr
  | n + 1 => by
    intro f as ns cs r rs cs' h
    simp only [callN] at h
    cases hp : pr f as ns cs with
    | some q =>
      rw [hp] at h
      cases h
      exact hpr f as ns cs r rs cs' hp
    | none =>
      rw [hp] at h
      simp only at h
      cases ht : T f with
      | none => rw [ht] at h; cases h
      | some F =>
        rw [ht] at h
        rcases hT f F ht with ⟨hf, M, nk, own, hF⟩ | ⟨M, f0, hf, hF⟩
        · have hs := fn_sound (callN_ok hmix hT hpr n) hmix n hF as ns cs r rs cs' h
          rw [fnOf_lt hf]
          exact ⟨hs.1, hs.2.1, hs.2.2.1, hs.2.2.2.1, fun G w vs h1 h2 h3 => (hs.2.2.2.2 G w vs h1 h2 h3).mono fun e w' hx => hx.elim fun v hx => hx.elim fun G' hx => ⟨v, G', (RetOk_lt hf).2 hx.1, hx.2⟩⟩
        · subst hf
          exact fn_soundB (callN_ok hmix hT hpr n) hmix n hF h
theorem callW_ok (hmix : P.follows .mixedOrders = true) (hT : TableOk T P) (hpr : CallOk P B pr) : CallOk P B (callW T pr) := by
  intro f as ns cs r rs cs' h
  obtain ⟨n, hn⟩ := (callW_iff T pr).1 h
  exact callN_ok T pr hmix hT hpr n f as ns cs r rs cs' hn
end
end Go.PM
namespace Go.PM
def Wp (cf : CallF) (N : Nat) (c : CC) (x : Fr × St) (Q : Ex → Fr × St → Prop) : Prop := ∃ e y, ev cf N c x = some (e, y) ∧ Q e y
def WO (cf : CallF) (os : List COper) (x : Fr × St) (K : Fr × St → Prop) : Prop := ∃ y, runOps cf os x = some y ∧ K y
def Cnd (c A B : Prop) : Prop := (c → A) ∧ (¬c → B)
def Later {α : Type} (f : α → Prop) (x : α) : Prop := f x
theorem Cnd_true {α : Type} {f : α → Prop} {x : α} {B : Prop} : Cnd True (Later f x) B ↔ f x := by simp [Cnd, Later]
theorem Cnd_false {α : Type} {f : α → Prop} {x : α} {A : Prop} : Cnd False A (Later f x) ↔ f x := by simp [Cnd, Later]
theorem Cnd_intro {α β : Type} {f : α → Prop} {x : α} {g : β → Prop} {y : β} {c : Prop} (h : c → f x) (k : ¬c → g y) : Cnd c (Later f x) (Later g y) := ⟨h, k⟩
theorem Cnd_not {c A B : Prop} : Cnd (¬c) A B ↔ Cnd c B A := by
  by_cases h : c <;> simp [Cnd, h]
theorem later {α : Type} {f : α → Prop} {x : α} (h : f x) : Later f x := h
def thenGo (A : Fr × St → Prop) (Q : Ex → Fr × St → Prop) : Ex → Fr × St → Prop
  | .go, y => A y
  | e, y => Q e y
def thenBlock (id : Nat) (Q : Ex → Fr × St → Prop) : Ex → Fr × St → Prop
  | .exit i, y => Cnd (i = id) (Later (Q .go) y) (Later (Q (.exit i)) y)
  | e, y => Q e y
def byB (p : PV) (A B : Prop) : Prop := match p with
  | .bool b => Cnd (b = true) A B
  | _ => False
def byG (p : PV) (b : Bool) (A B : Prop) : Prop := match p with
  | .bool b' => Cnd (b' = b) A B
  | .hole => B
  | _ => False
def RunsTo (o : Option (PV × St)) (mk : PV → St → Fr × St) (A : Fr × St → Prop) : Prop := ∃ v st, o = some (v, st) ∧ A (mk v st)
theorem RunsTo_some {v : PV} {st : St} {mk : PV → St → Fr × St} {A : Fr × St → Prop} : RunsTo (some (v, st)) mk A ↔ A (mk v st) := ⟨fun ⟨_, _, h, k⟩ => by cases h; exact k, fun h => ⟨_, _, rfl, h⟩⟩
section
variable {cf : CallF} {N : Nat} {fr : Fr} {st : St}
theorem Wp_skip {Q : Ex → Fr × St → Prop} : Wp cf N .skip (fr, st) Q ↔ Q .go (fr, st) := ⟨fun ⟨_, _, h, hq⟩ => by cases h; exact hq, fun h => ⟨_, _, rfl, h⟩⟩
theorem Wp_exit {id : Nat} {Q : Ex → Fr × St → Prop} : Wp cf N (.exit id) (fr, st) Q ↔ Q (.exit id) (fr, st) := ⟨fun ⟨_, _, h, hq⟩ => by cases h; exact hq, fun h => ⟨_, _, rfl, h⟩⟩
theorem Wp_ret {Q : Ex → Fr × St → Prop} : Wp cf N .ret (fr, st) Q ↔ Q .ret (fr, st) := ⟨fun ⟨_, _, h, hq⟩ => by cases h; exact hq, fun h => ⟨_, _, rfl, h⟩⟩
theorem Wp_seq' {a b : CC} {x : Fr × St} {Q : Ex → Fr × St → Prop} : Wp cf N (.seq a b) x Q ↔ Wp cf N a x (thenGo (fun y => Wp cf N b y Q) Q) := by
  unfold Wp
  simp only [ev]
  constructor
  · rintro ⟨e, y, h, hq⟩
    split at h
    · rename_i z hz
      exact ⟨.go, z, hz, e, y, h, hq⟩
    · rename_i hne
      refine ⟨e, y, h, ?_⟩
      cases e with
      | go => exact absurd h (hne y)
      | exit i => exact hq
      | ret => exact hq
  · rintro ⟨e, y, h, hq⟩
    rw [h]
    cases e with
    | go => exact hq
    | exit i => exact ⟨_, _, rfl, hq⟩
    | ret => exact ⟨_, _, rfl, hq⟩
theorem Wp_seq {a b : CC} {Q : Ex → Fr × St → Prop} : Wp cf N (.seq a b) (fr, st) Q ↔ Wp cf N a (fr, st) (thenGo (fun y => Wp cf N b y Q) Q) := Wp_seq'
theorem Wp_reg {os : List COper} {Q : Ex → Fr × St → Prop} : Wp cf N (.reg os []) (fr, st) Q ↔ WO cf os (fr, st) (Q .go) := by
  unfold Wp WO
  simp only [ev, regP]
  constructor
  · rintro ⟨e, y, h, hq⟩
    simp only [Option.map_eq_some_iff, Prod.mk.injEq] at h
    obtain ⟨z, hz, rfl, rfl⟩ := h
    exact ⟨z, hz, hq⟩
  · rintro ⟨y, h, hq⟩
    exact ⟨.go, y, by rw [h]; rfl, hq⟩
theorem Wp_cond {c : CX} {a b : CC} {Q : Ex → Fr × St → Prop} : Wp cf N (.cond c a b) (fr, st) Q ↔ byB (c.ev fr) (Later (fun y => Wp cf N a y Q) (fr, st)) (Later (fun y => Wp cf N b y Q) (fr, st)) := by
  unfold Wp byB
  simp only [ev]
  generalize c.ev fr = p
  have no : ∀ {o : Option (Ex × Fr × St)}, o = none → ¬ ∃ e y, o = some (e, y) ∧ Q e y := by
    rintro o rfl ⟨e, y, h, _⟩; cases h
  cases p with
  | bool b =>
    cases b with
    | true => exact ⟨fun h => ⟨fun _ => h, fun h => absurd rfl h⟩, fun h => h.1 rfl⟩
    | false => exact ⟨fun h => ⟨fun h => (by cases h), fun _ => h⟩, fun h => h.2 (by simp)⟩
  | _ => exact ⟨fun h => absurd h (no rfl), fun h => h.elim⟩
theorem Wp_block' {id : Nat} {c : CC} {x : Fr × St} {Q : Ex → Fr × St → Prop} : Wp cf N (.block id c) x Q ↔ Wp cf N c x (thenBlock id Q) := by
  unfold Wp
  simp only [ev]
  constructor
  · rintro ⟨e, y, h, hq⟩
    split at h
    · rename_i i z hz
      refine ⟨.exit i, z, hz, ?_⟩
      simp only [thenBlock, Cnd]
      split at h
      · rename_i hi
        cases h
        exact ⟨fun _ => hq, fun h => absurd hi h⟩
      · rename_i hi
        cases h
        exact ⟨fun h => absurd h hi, fun _ => hq⟩
    · rename_i hne
      refine ⟨e, y, h, ?_⟩
      cases e with
      | go => exact hq
      | exit i => exact absurd h (hne i y)
      | ret => exact hq
  · rintro ⟨e, y, h, hq⟩
    rw [h]
    cases e with
    | go => exact ⟨_, _, rfl, hq⟩
    | ret => exact ⟨_, _, rfl, hq⟩
    | exit i =>
      simp only [thenBlock, Cnd] at hq
      simp only
      split
      · rename_i hi; exact ⟨_, _, rfl, hq.1 hi⟩
      · rename_i hi; exact ⟨_, _, rfl, hq.2 hi⟩
theorem Wp_block {id : Nat} {c : CC} {Q : Ex → Fr × St → Prop} : Wp cf N (.block id c) (fr, st) Q ↔ Wp cf N c (fr, st) (thenBlock id Q) := Wp_block'
theorem Wp_loop {c : CC} {Q : Ex → Fr × St → Prop} (I : Nat → Fr × St → Prop) (hs : ∀ k fr st, I k (fr, st) → Wp cf N c (fr, st) (thenGo (fun y => ∃ j, j < k ∧ I j y) Q)) :
    ∀ (k : Nat) (x : Fr × St), k < N → I k x → Wp cf N (.loop c) x Q := by
  have key : ∀ (n k : Nat) (x : Fr × St), k < n → I k x → ∃ e y, iter (ev cf N c) n x = some (e, y) ∧ Q e y := by
    intro n
    induction n with
    | zero => intro k x h; omega
    | succ n ih =>
      intro k x hk hx
      obtain ⟨fr, st⟩ := x
      obtain ⟨e, y, h, hq⟩ := hs k fr st hx
      simp only [iter, h]
      cases e with
      | go =>
        obtain ⟨j, hj, hy⟩ := hq
        exact ih j y (by omega) hy
      | exit i => exact ⟨_, _, rfl, hq⟩
      | ret => exact ⟨_, _, rfl, hq⟩
  intro k x hk hx
  exact key N k x hk hx
theorem Wp_rounds {c : CC} {Q : Ex → Fr × St → Prop} (I : Nat → Fr → St → Prop) (k : Nat) {fr : Fr} {st : St} (hk : k < N) (h0 : I k fr st) (hs : ∀ k fr st, I k fr st → Wp cf N c (fr, st) (thenGo (fun y => ∃ j, j < k ∧ I j y.1 y.2) Q)) :
    Wp cf N (.loop c) (fr, st) Q :=
  Wp_loop (fun k x => I k x.1 x.2) (fun k fr st h => hs k fr st h) k (fr, st) hk h0
theorem WO_nil {K : Fr × St → Prop} : WO cf [] (fr, st) K ↔ K (fr, st) := by simp [WO, runOps]
theorem WO_cons {d : Option Nat} {op : COp} {os : List COper} {K : Fr × St → Prop} :
    WO cf (⟨none, d, op⟩ :: os) (fr, st) K ↔ RunsTo (runOp cf fr st d op) (fun v st' => (put (killF cf op d st fr) d v, st')) (fun y => WO cf os y K) := by
  unfold WO RunsTo
  simp only [runOps, runOper, wants]
  constructor
  · rintro ⟨y, h, hk⟩
    split at h
    · rename_i z hz
      split at hz
      · rename_i v st' hr
        cases hz
        exact ⟨v, st', hr, y, h, hk⟩
      · cases hz
    · cases h
  · rintro ⟨v, st', hr, y, h, hk⟩
    exact ⟨y, by rw [hr]; exact h, hk⟩
theorem WO_guard {s : Nat} {b : Bool} {d : Option Nat} {op : COp} {os : List COper} {K : Fr × St → Prop} :
    WO cf (⟨some (s, b), d, op⟩ :: os) (fr, st) K ↔ byG (fr s) b (Later (fun y => WO cf (⟨none, d, op⟩ :: os) y K) (fr, st)) (Later (fun y => WO cf os y K) (put fr d .hole, st)) := by
  simp only [Later, WO_cons]
  unfold WO RunsTo byG
  simp only [runOps, runOper, wants]
  generalize fr s = p
  have run : ∀ {o : Option (PV × St)}, (∃ y, (match (match o with | some (v, st') => some (put (killF cf op d st fr) d v, st') | none => none) with | some y => runOps cf os y | none => none) = some y ∧ K y) ↔
      ∃ v st', o = some (v, st') ∧ ∃ y, runOps cf os (put (killF cf op d st fr) d v, st') = some y ∧ K y := by
    intro o
    cases o with
    | none => exact ⟨fun ⟨_, h, _⟩ => (by cases h), fun ⟨_, _, h, _⟩ => (by cases h)⟩
    | some q => exact ⟨fun ⟨y, h, hk⟩ => ⟨q.1, q.2, rfl, y, h, hk⟩, fun ⟨v, st', h, y, hy, hk⟩ => by cases h; exact ⟨y, hy, hk⟩⟩
  cases p with
  | bool b' =>
    cases b <;> cases b'
    · exact ⟨fun h => ⟨fun _ => run.1 h, fun h => absurd rfl h⟩, fun h => run.2 (h.1 rfl)⟩
    · exact ⟨fun h => ⟨fun h => (by cases h), fun _ => h⟩, fun h => h.2 (by simp)⟩
    · exact ⟨fun h => ⟨fun h => (by cases h), fun _ => h⟩, fun h => h.2 (by simp)⟩
    · exact ⟨fun h => ⟨fun _ => run.1 h, fun h => absurd rfl h⟩, fun h => run.2 (h.1 rfl)⟩
  | hole => exact Iff.rfl
  | _ => exact ⟨fun ⟨_, h, _⟩ => (by cases h), fun h => h.elim⟩
end
def killB (s : Nat) (f : Fr) : Fr := fun t => killP s (f t)
def setO (st : St) (s : Nat) (c : List PV) : St := { st with objs := fun k => if k = s then some c else st.objs k }
section
variable {cf : CallF} {fr : Fr} {st : St} {d : Option Nat}
end
@[reducible] def S (l : List UInt8) : PV := .str ⟨l.toArray⟩
@[reducible] def I (n : Int) : PV := .int .i64 n
@[reducible] def U (n : Int) : PV := .int .u8 n
theorem size_mk (l : List UInt8) : (⟨l.toArray⟩ : ByteArray).size = l.length := by simp [ByteArray.size]
theorem toList_loop (s : ByteArray) : ∀ (n i : Nat) (acc : List UInt8), s.size - i = n → ByteArray.toList.loop s i acc = acc.reverse ++ s.data.toList.drop i
  | 0, i, acc, h => by
    unfold ByteArray.toList.loop
    rw [if_neg (by omega), List.drop_eq_nil_of_le (by simp only [Array.length_toList]; change s.size ≤ i; omega)]
    simp
  | n + 1, i, acc, h => by
    unfold ByteArray.toList.loop
    rw [if_pos (by omega), toList_loop s n (i + 1) _ (by omega)]
    have hi : i < s.data.toList.length := by simp only [Array.length_toList]; change i < s.size; omega
    rw [List.drop_eq_getElem_cons hi]
    have : s.get! i = s.data.toList[i] := by
      simp only [Array.getElem_toList]
      change s.data[i]! = _
      rw [getElem!_pos]
    simp [this]
theorem toList_data (s : ByteArray) : s.toList = s.data.toList := by
  unfold ByteArray.toList
  rw [toList_loop s _ 0 [] rfl]
  simp
theorem toList_mk (l : List UInt8) : (⟨l.toArray⟩ : ByteArray).toList = l := by rw [toList_data]
theorem pureRun_pure {α : Type} (v : α) : pureRun (pure v : Sem α) = some v := rfl
theorem beq_dec {α : Type} [DecidableEq α] [BEq α] [LawfulBEq α] (a b : α) : (a == b) = decide (a = b) := by
  rw [Bool.eq_iff_iff]; simp
def sLt : List UInt8 → List UInt8 → Bool := Op.bytesLess
section
variable {a b : Int} {k : IntKind} {s t : List UInt8}
theorem b_lss : binP .lss (.int k a) (.int k b) = some (.bool (decide (a < b))) := by simp [binP, toVal, binOp, Op.intCmp, pureRun_pure, ofVal]
theorem b_leq : binP .leq (.int k a) (.int k b) = some (.bool (decide (a ≤ b))) := by simp [binP, toVal, binOp, Op.intCmp, pureRun_pure, ofVal]
theorem b_gtr : binP .gtr (.int k a) (.int k b) = some (.bool (decide (b < a))) := by simp [binP, toVal, binOp, Op.intCmp, pureRun_pure, ofVal]
theorem b_geq : binP .geq (.int k a) (.int k b) = some (.bool (decide (b ≤ a))) := by simp [binP, toVal, binOp, Op.intCmp, pureRun_pure, ofVal]
theorem b_eql : binP .eql (.int k a) (.int k b) = some (.bool (decide (a = b))) := by simp [binP, toVal, binOp, Op.intCmp, pureRun_pure, ofVal, beq_dec]
theorem b_neq : binP .neq (.int k a) (.int k b) = some (.bool (decide (a ≠ b))) := by simp [binP, toVal, binOp, Op.intCmp, pureRun_pure, ofVal, bne, beq_dec]
theorem b_add : binP .add (.int k a) (.int k b) = some (.int k (k.wrap (a + b))) := by simp [binP, toVal, binOp, Op.intArith, pureRun_pure, ofVal]
theorem b_sub : binP .sub (.int k a) (.int k b) = some (.int k (k.wrap (a - b))) := by simp [binP, toVal, binOp, Op.intArith, pureRun_pure, ofVal]
theorem b_mul : binP .mul (.int k a) (.int k b) = some (.int k (k.wrap (a * b))) := by simp [binP, toVal, binOp, Op.intArith, pureRun_pure, ofVal]
theorem s_add (h : s.length + t.length ≤ 9223372036854775807) : binP .add (S s) (S t) = some (S (s ++ t)) := by
  have h1 : ¬ ((9223372036854775807 : Int) < ((⟨s.toArray⟩ : ByteArray).size : Int) + ((⟨t.toArray⟩ : ByteArray).size : Int)) := by
    rw [size_mk, size_mk]
    omega
  have h2 : (⟨s.toArray⟩ : ByteArray) ++ (⟨t.toArray⟩ : ByteArray) = ⟨(s ++ t).toArray⟩ := by
    apply ByteArray.ext
    simp
  simp [binP, toVal, binOp, Op.stringOp, h1, h2, pureRun_pure, ofVal]
theorem s_eql : binP .eql (S s) (S t) = some (.bool (decide (s = t))) := by simp [binP, toVal, binOp, Op.stringOp, toList_mk, pureRun_pure, ofVal, beq_dec]
theorem s_neq : binP .neq (S s) (S t) = some (.bool (decide (s ≠ t))) := by simp [binP, toVal, binOp, Op.stringOp, toList_mk, pureRun_pure, ofVal, beq_dec]
theorem s_lss : binP .lss (S s) (S t) = some (.bool (sLt s t)) := by simp [binP, toVal, binOp, Op.stringOp, toList_mk, pureRun_pure, ofVal, sLt]
theorem s_leq : binP .leq (S s) (S t) = some (.bool (sLt s t || decide (s = t))) := by simp [binP, toVal, binOp, Op.stringOp, toList_mk, pureRun_pure, ofVal, sLt, beq_dec]
theorem s_gtr : binP .gtr (S s) (S t) = some (.bool !(sLt s t || decide (s = t))) := by simp [binP, toVal, binOp, Op.stringOp, toList_mk, pureRun_pure, ofVal, sLt, beq_dec]
theorem s_geq : binP .geq (S s) (S t) = some (.bool !(sLt s t)) := by simp [binP, toVal, binOp, Op.stringOp, toList_mk, pureRun_pure, ofVal, sLt]
theorem u_not {x : Bool} : unP .not (.bool x) = some (.bool !x) := by simp [unP, toVal, Op.unary, pureRun_pure, ofVal]
theorem u_neg : unP .neg (.int k a) = some (.int k (k.wrap (-a))) := by simp [unP, toVal, Op.unary, Op.intArith, pureRun_pure, ofVal]
theorem wrap_i64 (h1 : -9223372036854775808 ≤ a) (h2 : a ≤ 9223372036854775807) : IntKind.i64.wrap a = a := by
  have e1 : IntKind.i64.bits = 64 := rfl
  have e2 : IntKind.i64.signed = true := rfl
  simp only [IntKind.wrap, e1, e2, Bool.true_and]
  split
  · rename_i h
    simp only [decide_eq_true_eq] at h
    omega
  · rename_i h
    simp only [decide_eq_true_eq] at h
    omega
theorem wrap_u8 (h1 : 0 ≤ a) (h2 : a ≤ 255) : IntKind.u8.wrap a = a := by
  have e1 : IntKind.u8.bits = 8 := rfl
  have e2 : IntKind.u8.signed = false := rfl
  simp only [IntKind.wrap, e1, e2, Bool.false_and]
  simp
  omega
end
theorem pms :
    (∀ {cf : CallF} {N : Nat} {fr : Fr} {st : St} {Q : Ex → Fr × St → Prop}, Wp cf N .skip (fr, st) Q ↔ Q .go (fr, st)) ∧
    (∀ {cf : CallF} {N : Nat} {fr : Fr} {st : St} {id : Nat} {Q : Ex → Fr × St → Prop}, Wp cf N (.exit id) (fr, st) Q ↔ Q (.exit id) (fr, st)) ∧
    (∀ {cf : CallF} {N : Nat} {fr : Fr} {st : St} {Q : Ex → Fr × St → Prop}, Wp cf N .ret (fr, st) Q ↔ Q .ret (fr, st)) ∧
    (∀ {cf : CallF} {N : Nat} {fr : Fr} {st : St} {a b : CC} {Q : Ex → Fr × St → Prop}, Wp cf N (.seq a b) (fr, st) Q ↔ Wp cf N a (fr, st) (thenGo (fun y => Wp cf N b y Q) Q)) ∧
    (∀ {cf : CallF} {N : Nat} {fr : Fr} {st : St} {os : List COper} {Q : Ex → Fr × St → Prop}, Wp cf N (.reg os []) (fr, st) Q ↔ WO cf os (fr, st) (Q .go)) ∧
    (∀ {cf : CallF} {N : Nat} {fr : Fr} {st : St} {c : CX} {a b : CC} {Q : Ex → Fr × St → Prop}, Wp cf N (.cond c a b) (fr, st) Q ↔ byB (c.ev fr) (Later (fun y => Wp cf N a y Q) (fr, st)) (Later (fun y => Wp cf N b y Q) (fr, st))) ∧
    (∀ {cf : CallF} {N : Nat} {fr : Fr} {st : St} {id : Nat} {c : CC} {Q : Ex → Fr × St → Prop}, Wp cf N (.block id c) (fr, st) Q ↔ Wp cf N c (fr, st) (thenBlock id Q)) ∧
    (∀ {cf : CallF} {fr : Fr} {st : St} {K : Fr × St → Prop}, WO cf [] (fr, st) K ↔ K (fr, st)) ∧
    (∀ {cf : CallF} {fr : Fr} {st : St} {d : Option Nat} {op : COp} {os : List COper} {K : Fr × St → Prop}, WO cf (⟨none, d, op⟩ :: os) (fr, st) K ↔ RunsTo (runOp cf fr st d op) (fun v st' => (put (killF cf op d st fr) d v, st')) (fun y => WO cf os y K)) ∧
    (∀ {cf : CallF} {fr : Fr} {st : St} {s : Nat} {b : Bool} {d : Option Nat} {op : COp} {os : List COper} {K : Fr × St → Prop}, WO cf (⟨some (s, b), d, op⟩ :: os) (fr, st) K ↔ byG (fr s) b (Later (fun y => WO cf (⟨none, d, op⟩ :: os) y K) (fr, st)) (Later (fun y => WO cf os y K) (put fr d .hole, st))) ∧
    (∀ {A : Fr × St → Prop} {Q : Ex → Fr × St → Prop} {y : Fr × St}, thenGo A Q .go y ↔ A y) ∧
    (∀ {A : Fr × St → Prop} {Q : Ex → Fr × St → Prop} {i : Nat} {y : Fr × St}, thenGo A Q (.exit i) y ↔ Q (.exit i) y) ∧
    (∀ {A : Fr × St → Prop} {Q : Ex → Fr × St → Prop} {y : Fr × St}, thenGo A Q .ret y ↔ Q .ret y) ∧
    (∀ {id : Nat} {Q : Ex → Fr × St → Prop} {y : Fr × St}, thenBlock id Q .go y ↔ Q .go y) ∧
    (∀ {id : Nat} {Q : Ex → Fr × St → Prop} {y : Fr × St}, thenBlock id Q .ret y ↔ Q .ret y) ∧
    (∀ {id i : Nat} {Q : Ex → Fr × St → Prop} {y : Fr × St}, thenBlock id Q (.exit i) y ↔ Cnd (i = id) (Later (Q .go) y) (Later (Q (.exit i)) y)) ∧
    (∀ {v : PV} {st : St} {mk : PV → St → Fr × St} {A : Fr × St → Prop}, RunsTo (some (v, st)) mk A ↔ A (mk v st)) ∧
    (∀ {b : Bool} {A B : Prop}, byB (.bool b) A B ↔ Cnd (b = true) A B) ∧
    (∀ {b b' : Bool} {A B : Prop}, byG (.bool b') b A B ↔ Cnd (b' = b) A B) ∧
    (∀ {f : Fr × St → Prop} {x : Fr × St} {b : Bool} {A : Prop}, byG .hole b A (Later f x) ↔ f x) ∧
    (∀ {f : Fr × St → Prop} {x : Fr × St} {B : Prop}, Cnd True (Later f x) B ↔ f x) ∧
    (∀ {f : Fr × St → Prop} {x : Fr × St} {A : Prop}, Cnd False A (Later f x) ↔ f x) ∧
    (∀ {c A B : Prop}, Cnd (¬c) A B ↔ Cnd c B A) ∧
    (∀ {fr : Fr} {n : Nat}, CX.ev fr (.sl n) = fr n) ∧
    (∀ {fr : Fr} {p : PV}, CX.ev fr (.k p) = p) ∧
    (∀ {f : Fr} {d : Nat} {v : PV}, put f (some d) v = upd f d v) ∧
    (∀ {f : Fr} {v : PV}, put f none v = f) ∧
    (∀ {f : Fr} {d : Nat} {v : PV} {t : Nat}, upd f d v t = if t = d then v else f t) ∧
    (∀ {s : Nat} {f : Fr} {t : Nat}, killB s f t = killP s (f t)) ∧
    (∀ {p : PV} {ps : List PV}, frame (p :: ps) 0 = p) ∧
    (∀ {p : PV} {ps : List PV} {n : Nat}, frame (p :: ps) (n + 1) = frame ps n) :=
  ⟨Wp_skip, Wp_exit, Wp_ret, Wp_seq, Wp_reg, Wp_cond, Wp_block, WO_nil, WO_cons, WO_guard, Iff.rfl, Iff.rfl, Iff.rfl, Iff.rfl, Iff.rfl, Iff.rfl, RunsTo_some, Iff.rfl, Iff.rfl, Iff.rfl, Cnd_true, Cnd_false, Cnd_not, rfl, rfl, rfl, rfl, rfl, rfl, rfl, rfl⟩
theorem pmk :
    (∀ {cf : CallF} {st : St} {fr : Fr} {d : Option Nat} {x : CX}, killF cf (.mv x) d st fr = fr) ∧ (∀ {cf : CallF} {st : St} {fr : Fr} {d : Option Nat} {a b c : CX}, killF cf (.pick a b c) d st fr = fr) ∧ (∀ {cf : CallF} {st : St} {fr : Fr} {zs : List PV} {s : Nat}, killF cf (.alloc zs) (some s) st fr = killB s fr) ∧ (∀ {cf : CallF} {st : St} {fr : Fr} {n s : Nat} {x : CX}, killF cf (.box n x) (some s) st fr = killB s fr) ∧
    (∀ {cf : CallF} {st : St} {fr : Fr} {d : Option Nat} {zs : List PV} {ps : List (Nat × Nat × CX)}, killF cf (.build zs ps) d st fr = fr) ∧ (∀ {cf : CallF} {st : St} {fr : Fr} {d : Option Nat} {e sz n : Nat} {zs : List PV} {ps : List (Nat × Nat × CX)}, killF cf (.bsl e sz zs n ps) d st fr = fr) ∧ (∀ {cf : CallF} {st : St} {fr : Fr} {d : Option Nat} {sz : Nat} {ag : Bool} {x : CX}, killF cf (.load sz ag x) d st fr = fr) ∧
    (∀ {cf : CallF} {st : St} {fr : Fr} {d : Option Nat} {sz : Nat} {a x : CX}, killF cf (.store sz a x) d st fr = fr) ∧ (∀ {cf : CallF} {st : St} {fr : Fr} {d : Option Nat} {x : CX}, killF cf (.nck x) d st fr = fr) ∧ (∀ {cf : CallF} {st : St} {fr : Fr} {d : Option Nat} {op : BinOp} {x y : CX}, killF cf (.bin op x y) d st fr = fr) ∧ (∀ {cf : CallF} {st : St} {fr : Fr} {d : Option Nat} {b : Bool} {x : CX}, killF cf (.isnil b x) d st fr = fr) ∧ (∀ {cf : CallF} {st : St} {fr : Fr} {d : Option Nat} {b : Bool} {x y : CX}, killF cf (.beq b x y) d st fr = fr) ∧
    (∀ {cf : CallF} {st : St} {fr : Fr} {d : Option Nat} {op : UnOp} {x : CX}, killF cf (.un op x) d st fr = fr) ∧ (∀ {cf : CallF} {st : St} {fr : Fr} {d : Option Nat} {k : IntKind} {x : CX}, killF cf (.toInt k x) d st fr = fr) ∧ (∀ {cf : CallF} {st : St} {fr : Fr} {d : Option Nat} {x : CX}, killF cf (.s2s x) d st fr = fr) ∧ (∀ {cf : CallF} {st : St} {fr : Fr} {d : Option Nat} {x : CX} {i : Nat}, killF cf (.ext x i) d st fr = fr) ∧ (∀ {cf : CallF} {st : St} {fr : Fr} {d : Option Nat} {x : CX} {i : Nat}, killF cf (.fad i x) d st fr = fr) ∧
    (∀ {cf : CallF} {st : St} {fr : Fr} {d : Option Nat} {o sz : Nat} {ag : Bool} {x : CX}, killF cf (.fld o sz ag x) d st fr = fr) ∧ (∀ {cf : CallF} {st : St} {fr : Fr} {d : Option Nat} {sz : Nat} {x i : CX}, killF cf (.iad sz x i) d st fr = fr) ∧ (∀ {cf : CallF} {st : St} {fr : Fr} {d : Option Nat} {x i : CX}, killF cf (.sidx x i) d st fr = fr) ∧ (∀ {cf : CallF} {st : St} {fr : Fr} {d : Option Nat} {x : CX} {l h : Option CX}, killF cf (.ssl x l h) d st fr = fr) ∧ (∀ {cf : CallF} {st : St} {fr : Fr} {d : Option Nat} {sz : Nat} {x : CX} {l h : Option CX}, killF cf (.slc sz x l h) d st fr = fr) ∧
    (∀ {cf : CallF} {st : St} {fr : Fr} {e sz b s : Nat} {zs : List PV} {n c : CX}, killF cf (.mks e sz b zs n c) (some s) st fr = killB s fr) ∧ (∀ {cf : CallF} {st : St} {fr : Fr} {d : Option Nat} {e sz b : Nat} {n c : CX}, killF cf (.mk0 e sz b n c) d st fr = fr) ∧ (∀ {cf : CallF} {st : St} {fr : Fr} {d : Option Nat} {x : CX}, killF cf (.slen x) d st fr = fr) ∧ (∀ {cf : CallF} {st : St} {fr : Fr} {d : Option Nat} {x : CX}, killF cf (.len x) d st fr = fr) ∧ (∀ {cf : CallF} {st : St} {fr : Fr} {d : Option Nat} {e sz b : Nat} {x y : CX}, killF cf (.app e sz b x y) d st fr = fr) ∧
    (∀ {cf : CallF} {st : St} {fr : Fr} {d : Option Nat} {x : CX}, killF cf (.b2s x) d st fr = fr) ∧ (∀ {cf : CallF} {st : St} {fr : Fr} {d : Option Nat} {f : Nat} {as : List CX}, killF cf (.mkfn f as) d st fr = fr) ∧ (∀ {cf : CallF} {st : St} {fr : Fr} {s : Nat}, killF cf .mkmap (some s) st fr = killB s fr) ∧ (∀ {cf : CallF} {st : St} {fr : Fr} {d : Option Nat} {kk : Nat} {m k v : CX}, killF cf (.mpset kk m k v) d st fr = fr) ∧ (∀ {cf : CallF} {st : St} {fr : Fr} {d : Option Nat} {b : Bool} {z : PV} {kk : Nat} {m k : CX}, killF cf (.mpget b z kk m k) d st fr = fr) ∧ (∀ {cf : CallF} {st : St} {fr : Fr} {d : Option Nat} {m : CX}, killF cf (.mplen m) d st fr = fr) ∧
    (∀ {cf : CallF} {st : St} {fr : Fr} {d : Option Nat} {f : Nat} {as : List CX}, killF cf (.call f as []) d st fr = fr) ∧ (∀ {cf : CallF} {st : St} {fr : Fr} {d : Option Nat} {f : CX} {as : List CX}, killF cf (.cval f as) d st fr = fr) := by
  refine ⟨?_, ?_, ?_, ?_, ?_, ?_, ?_, ?_, ?_, ?_, ?_, ?_, ?_, ?_, ?_, ?_, ?_, ?_, ?_, ?_, ?_, ?_, ?_, ?_, ?_, ?_, ?_, ?_, ?_, ?_, ?_, ?_, ?_, ?_, ?_⟩ <;> intros <;> first | rfl | (rename_i d _; cases d <;> rfl) | (rename_i d _ _; cases d <;> rfl) | (rename_i d _ _ _; cases d <;> rfl) | (rename_i d _ _ _ _; cases d <;> rfl) | (rename_i d _ _ _ _ _; cases d <;> rfl)
theorem pmp : (∀ {s : Nat} {k : IntKind} {n : Int}, killP s (.int k n) = .int k n) ∧ (∀ {s : Nat} {b : Bool}, killP s (.bool b) = .bool b) ∧ (∀ {s : Nat} {t : ByteArray}, killP s (.str t) = .str t) ∧ (∀ {s : Nat} {n : Nat} {cs : List PV} {t : Tok}, killP s (.list n cs t) = .list n cs t) ∧ (∀ {s : Nat} {cs : List PV}, killP s (.agg cs) = .agg cs) ∧ (∀ {s : Nat} {cs : List PV}, killP s (.tup cs) = .tup cs) ∧
    (∀ {s : Nat} {cs : List PV} {n : Nat} {t : Tok}, killP s (.iptr cs n t) = .iptr cs n t) ∧ (∀ {s : Nat} {k o : Nat}, killP s (.ptr k o) = if k = s then .any else .ptr k o) ∧ (∀ {s : Nat} {e sz k n : Nat}, killP s (.osl e sz k n) = if k = s then .any else .osl e sz k n) ∧ (∀ {s : Nat} {k : Nat}, killP s (.mp k) = if k = s then .any else .mp k) ∧
    (∀ {s : Nat}, killP s .hole = .hole) ∧ (∀ {s : Nat}, killP s .any = .any) ∧ (∀ {s : Nat}, killP s .nili = .nili) ∧ (∀ {s : Nat}, killP s .err = .err) ∧ (∀ {s : Nat}, killP s .nilp = .nilp) ∧ (∀ {s : Nat} {f : Nat}, killP s (.fn f []) = .fn f []) :=
  ⟨rfl, rfl, rfl, rfl, rfl, rfl, rfl, rfl, rfl, rfl, rfl, rfl, rfl, rfl, rfl, rfl⟩
theorem pmo :
    (∀ {cf : CallF} {fr : Fr} {st : St} {d : Option Nat} {x : CX}, runOp cf fr st d (.mv x) = some (x.ev fr, st)) ∧
    (∀ {cf : CallF} {fr : Fr} {st : St} {zs : List PV} {s : Nat}, runOp cf fr st (some s) (.alloc zs) = some (.ptr s 0, setO st s zs)) ∧
    (∀ {cf : CallF} {fr : Fr} {st : St} {d : Option Nat} {op : BinOp} {x y : CX}, runOp cf fr st d (.bin op x y) = (binP op (x.ev fr) (y.ev fr)).map fun p => (p, st)) ∧
    (∀ {cf : CallF} {fr : Fr} {st : St} {d : Option Nat} {op : UnOp} {x : CX}, runOp cf fr st d (.un op x) = (unP op (x.ev fr)).map fun p => (p, st)) ∧
    (∀ {cf : CallF} {fr : Fr} {st : St} {d : Option Nat} {f : Nat} {as : List CX} {mv : List Nat}, runOp cf fr st d (.call f as mv) = callP cf f (as.map (·.ev fr)) mv st) ∧
    (∀ {cf : CallF} {fr : Fr} {st : St} {n s : Nat} {x : CX}, runOp cf fr st (some s) (.box n x) = match cellsOf (x.ev fr) with | some cs => if cs.length = n then some (.ptr s 0, setO st s cs) else none | none => none) :=
  ⟨rfl, rfl, rfl, rfl, rfl, by intros; simp only [runOp]; cases cellsOf _ <;> rfl⟩
def plainArg (p : PV) : Bool := np p && match p with | .ptr .. => false | _ => true
theorem keysOf_plain : ∀ {as : List PV}, as.all plainArg = true → keysOf as = some []
  | [], _ => rfl
  | a :: as, h => by
    simp only [List.all_cons, Bool.and_eq_true] at h
    have ih := keysOf_plain h.2
    have hn : np a = true := by have := h.1; simp only [plainArg, Bool.and_eq_true] at this; exact this.1
    cases a with
    | ptr s o => simp [plainArg] at h
    | _ => simp only [keysOf, hn, ih, if_true]
theorem handOn_plain : ∀ {as : List PV} (i n : Nat), as.all plainArg = true → handOn [] [] i n as = as.map strip
  | [], _, _, _ => rfl
  | a :: as, i, n, h => by
    simp only [List.all_cons, Bool.and_eq_true] at h
    cases a with
    | ptr s o => simp [plainArg] at h
    | _ => simp [handOn, handOn_plain (i + 1) n h.2]
theorem callP_plain {cf : CallF} {f : Nat} {as : List PV} {st : St} (h : as.all plainArg = true) {r : PV} {ns : List Nat} (hc : cf f (as.map strip) [] [] = some (r, ns, [])) :
    callP cf f as [] st = some (ren (fun k => some (st.nx + k)) false r, { st.more ns with fl := if closed r then st.fl else st.nx }) := by
  simp only [callP, keysOf_plain h, getAll, handOn_plain 0 0 h, List.map_nil, hc, List.length_nil, if_true, setAll, List.all_nil, Bool.and_true]
  congr 2
  cases ns <;> rfl
theorem callP_val {cf : CallF} {f : Nat} {as as' : List PV} {st : St} (h : as.all plainArg = true) (ha : as.map strip = as') {r : PV} (hc : cf f as' [] [] = some (r, [], [])) (hr : ren (fun k => some (st.nx + k)) false r = r) (hcl : closed r = true) :
    callP cf f as [] st = some (r, st) := by
  rw [callP_plain h (by rw [ha]; exact hc), hr, hcl]
  rfl
def cI (l : List UInt8) (i : Nat) : Int := (l.getD i 0).toNat
def sidxP (x i : PV) (st : St) : Option (PV × St) := match x, i with
  | .str s, .int _ j => if h : 0 ≤ j ∧ j.toNat < s.size then some (.int .u8 (s[j.toNat]'h.2).toNat, st) else none
  | _, _ => none
theorem sidxP_ok {l : List UInt8} {j : Int} {st : St} (h0 : 0 ≤ j) (h1 : j.toNat < l.length) : sidxP (S l) (I j) st = some (U (cI l j.toNat), st) := by
  simp only [sidxP]
  rw [dif_pos ⟨h0, by rw [size_mk]; exact h1⟩]
  simp [cI, h1]
  rfl
def sslP (x : PV) (lo hi : Option PV) (st : St) : Option (PV × St) := match x with
  | .str s => match (match (match hi with | some x => boundP x s.size | none => some s.size) with
      | none => none
      | some h => match (match lo with | some x => boundP x h | none => some 0) with
        | none => none
        | some l => some (l, h)) with
    | some (l, h) => some (.str (s.extract l h), st)
    | none => none
  | _ => none
theorem boundP_ok {k : IntKind} {j : Int} {n : Nat} (h0 : 0 ≤ j) (h1 : j ≤ (n : Int)) : boundP (.int k j) n = some j.toNat := by simp [boundP, h0, h1]
theorem extract_mk (l : List UInt8) (a b : Nat) : (⟨l.toArray⟩ : ByteArray).extract a b = ⟨((l.take b).drop a).toArray⟩ := by
  apply ByteArray.ext
  simp [ByteArray.data_extract, List.drop_take]
theorem sslP_lo {l : List UInt8} {j : Int} {st : St} (h0 : 0 ≤ j) (h1 : j ≤ (l.length : Int)) : sslP (S l) (some (I j)) none st = some (S (l.drop j.toNat), st) := by
  simp only [sslP, size_mk, boundP_ok h0 h1, extract_mk, List.take_length]
theorem sslP_hi {l : List UInt8} {j : Int} {st : St} (h0 : 0 ≤ j) (h1 : j ≤ (l.length : Int)) : sslP (S l) none (some (I j)) st = some (S (l.take j.toNat), st) := by
  simp only [sslP, size_mk, boundP_ok h0 h1, extract_mk, List.drop_zero]
theorem sslP_both {l : List UInt8} {a b : Int} {st : St} (h0 : 0 ≤ a) (h1 : a ≤ b) (h2 : b ≤ (l.length : Int)) : sslP (S l) (some (I a)) (some (I b)) st = some (S ((l.take b.toNat).drop a.toNat), st) := by
  have h3 : a ≤ (b.toNat : Int) := by omega
  simp only [sslP, size_mk, boundP_ok (show 0 ≤ b by omega) h2, boundP_ok h0 h3, extract_mk]
def loadP (sz : Nat) (ag : Bool) (a : PV) (st : St) : Option (PV × St) := match a with
  | .ptr s off => match st.objs s with
    | some cs => (partP cs off sz ag).map fun p => (p, st)
    | none => none
  | .iptr cs off _ => (partP cs off sz ag).map fun p => (p, st)
  | _ => none
def storeP (sz : Nat) (a x : PV) (st : St) : Option (PV × St) := match a, cellsOf x with
  | .ptr s off, some vs => match st.objs s with
    | some cs => if vs.length = sz ∧ off + sz ≤ cs.length then some (.hole, setO st s (putCells cs off vs)) else none
    | none => none
  | _, _ => none
theorem partP_one {cs : List PV} {off : Nat} {p : PV} (h : cs[off]? = some p) : partP cs off 1 false = some p := by
  have := (List.getElem?_eq_some_iff.1 h).1
  simp [partP, h]; omega
theorem partP_all {cs : List PV} {sz : Nat} (h : cs.length = sz) : partP cs 0 sz true = some (.agg cs) := by
  subst h
  unfold partP
  rw [if_pos (by omega), if_pos rfl, List.drop_zero, List.take_length]
def iadP (sz : Nat) (x i : PV) (st : St) : Option (PV × St) := match x, i with
  | .list n cs t, .int _ j => if 0 ≤ j ∧ j < (n : Int) ∧ cs.length = n * sz then some (.iptr cs (j.toNat * sz) (t.elt n), st) else none
  | .osl _ _ s n, .int _ j => if 0 ≤ j ∧ j < (n : Int) then some (.ptr s (j.toNat * sz), st) else none
  | _, _ => none
theorem iadP_list {sz n : Nat} {cs : List PV} {t : Tok} {j : Int} {st : St} (h0 : 0 ≤ j) (h1 : j < (n : Int)) (h2 : cs.length = n * sz) : iadP sz (.list n cs t) (I j) st = some (.iptr cs (j.toNat * sz) (t.elt n), st) := by
  simp [iadP, h0, h1, h2]
theorem iadP_osl {sz e sz' s n : Nat} {j : Int} {st : St} (h0 : 0 ≤ j) (h1 : j < (n : Int)) : iadP sz (.osl e sz' s n) (I j) st = some (.ptr s (j.toNat * sz), st) := by
  simp [iadP, h0, h1]
def lenP (x : PV) (st : St) : Option (PV × St) := match x with
  | .list n _ _ => some (I n, st)
  | .osl _ _ _ n => some (I n, st)
  | _ => none
def slenP (x : PV) (st : St) : Option (PV × St) := match x with
  | .str s => some (I s.size, st)
  | _ => none
theorem slenP_ok {l : List UInt8} {st : St} : slenP (S l) st = some (I l.length, st) := by simp only [slenP, size_mk]
def pickP (c a b : PV) (st : St) : Option (PV × St) := match c with
  | .bool true => some (a, st)
  | .bool false => some (b, st)
  | _ => none
theorem pickP_or {a b : Bool} {st : St} : pickP (.bool a) (.bool true) (.bool b) st = some (.bool (a || b), st) := by cases a <;> rfl
theorem pickP_and {a b : Bool} {st : St} : pickP (.bool a) (.bool b) (.bool false) st = some (.bool (a && b), st) := by cases a <;> rfl
def fadP (off : Nat) (x : PV) (st : St) : Option (PV × St) := match x with
  | .ptr s o => some (.ptr s (o + off), st)
  | .iptr cs o t => some (.iptr cs (o + off) t, st)
  | _ => none
def fldP (off sz : Nat) (ag : Bool) (x : PV) (st : St) : Option (PV × St) := match x with
  | .agg cs => (partP cs off sz ag).map fun p => (p, st)
  | _ => none
def nckP (x : PV) (st : St) : Option (PV × St) := match x with
  | .ptr s off => some (.ptr s off, st)
  | .iptr cs off t => some (.iptr cs off t, st)
  | .fn f cs => some (.fn f cs, st)
  | _ => none
def extP (x : PV) (i : Nat) (st : St) : Option (PV × St) := match x with
  | .tup vs => (vs[i]?).map fun p => (p, st)
  | _ => none
def isnilP (neg : Bool) (x : PV) (st : St) : Option (PV × St) := match x with
  | .err => some (.bool neg, st)
  | .nili => some (.bool (!neg), st)
  | _ => none
def toIntP (k : IntKind) (x : PV) (st : St) : Option (PV × St) := match x with
  | .int _ n => some (.int k (k.wrap n), st)
  | _ => none
def beqP (neg : Bool) (x y : PV) (st : St) : Option (PV × St) := match x, y with
  | .bool a, .bool b => some (.bool (if neg then !(a == b) else a == b), st)
  | _, _ => none
def cvalP (cf : CallF) (f : PV) (as : List PV) (st : St) : Option (PV × St) := match f with
  | .fn g cap => if g < 1000000 then callP cf g (as ++ cap) [] st else none
  | _ => none
theorem pmo2 :
    (∀ {cf : CallF} {fr : Fr} {st : St} {d : Option Nat} {x i : CX}, runOp cf fr st d (.sidx x i) = sidxP (x.ev fr) (i.ev fr) st) ∧
    (∀ {cf : CallF} {fr : Fr} {st : St} {d : Option Nat} {x : CX}, runOp cf fr st d (.ssl x none none) = sslP (x.ev fr) none none st) ∧
    (∀ {cf : CallF} {fr : Fr} {st : St} {d : Option Nat} {x a : CX}, runOp cf fr st d (.ssl x (some a) none) = sslP (x.ev fr) (some (a.ev fr)) none st) ∧
    (∀ {cf : CallF} {fr : Fr} {st : St} {d : Option Nat} {x b : CX}, runOp cf fr st d (.ssl x none (some b)) = sslP (x.ev fr) none (some (b.ev fr)) st) ∧
    (∀ {cf : CallF} {fr : Fr} {st : St} {d : Option Nat} {x a b : CX}, runOp cf fr st d (.ssl x (some a) (some b)) = sslP (x.ev fr) (some (a.ev fr)) (some (b.ev fr)) st) ∧
    (∀ {cf : CallF} {fr : Fr} {st : St} {d : Option Nat} {sz : Nat} {ag : Bool} {x : CX}, runOp cf fr st d (.load sz ag x) = loadP sz ag (x.ev fr) st) ∧
    (∀ {cf : CallF} {fr : Fr} {st : St} {d : Option Nat} {sz : Nat} {a x : CX}, runOp cf fr st d (.store sz a x) = storeP sz (a.ev fr) (x.ev fr) st) ∧
    (∀ {cf : CallF} {fr : Fr} {st : St} {d : Option Nat} {sz : Nat} {x i : CX}, runOp cf fr st d (.iad sz x i) = iadP sz (x.ev fr) (i.ev fr) st) ∧
    (∀ {cf : CallF} {fr : Fr} {st : St} {d : Option Nat} {x : CX}, runOp cf fr st d (.len x) = lenP (x.ev fr) st) ∧
    (∀ {cf : CallF} {fr : Fr} {st : St} {d : Option Nat} {x : CX}, runOp cf fr st d (.slen x) = slenP (x.ev fr) st) ∧
    (∀ {cf : CallF} {fr : Fr} {st : St} {d : Option Nat} {c a b : CX}, runOp cf fr st d (.pick c a b) = pickP (c.ev fr) (a.ev fr) (b.ev fr) st) ∧
    (∀ {cf : CallF} {fr : Fr} {st : St} {d : Option Nat} {off : Nat} {x : CX}, runOp cf fr st d (.fad off x) = fadP off (x.ev fr) st) ∧
    (∀ {cf : CallF} {fr : Fr} {st : St} {d : Option Nat} {off sz : Nat} {ag : Bool} {x : CX}, runOp cf fr st d (.fld off sz ag x) = fldP off sz ag (x.ev fr) st) ∧
    (∀ {cf : CallF} {fr : Fr} {st : St} {d : Option Nat} {x : CX}, runOp cf fr st d (.nck x) = nckP (x.ev fr) st) ∧
    (∀ {cf : CallF} {fr : Fr} {st : St} {d : Option Nat} {x : CX} {i : Nat}, runOp cf fr st d (.ext x i) = extP (x.ev fr) i st) ∧
    (∀ {cf : CallF} {fr : Fr} {st : St} {d : Option Nat} {b : Bool} {x : CX}, runOp cf fr st d (.isnil b x) = isnilP b (x.ev fr) st) ∧
    (∀ {cf : CallF} {fr : Fr} {st : St} {d : Option Nat} {b : Bool} {x y : CX}, runOp cf fr st d (.beq b x y) = beqP b (x.ev fr) (y.ev fr) st) ∧
    (∀ {cf : CallF} {fr : Fr} {st : St} {d : Option Nat} {k : IntKind} {x : CX}, runOp cf fr st d (.toInt k x) = toIntP k (x.ev fr) st) ∧
    (∀ {cf : CallF} {fr : Fr} {st : St} {d : Option Nat} {f : CX} {as : List CX}, runOp cf fr st d (.cval f as) = cvalP cf (f.ev fr) (as.map (·.ev fr)) st) := by
  refine ⟨?_, ?_, ?_, ?_, ?_, ?_, ?_, ?_, ?_, ?_, ?_, ?_, ?_, ?_, ?_, ?_, ?_, ?_, ?_⟩ <;> intros <;> rfl
theorem pmv :
    (∀ {l : List UInt8} {st : St}, slenP (S l) st = some (I l.length, st)) ∧
    (∀ {n : Nat} {cs : List PV} {t : Tok} {st : St}, lenP (.list n cs t) st = some (I n, st)) ∧
    (∀ {e sz s n : Nat} {st : St}, lenP (.osl e sz s n) st = some (I n, st)) ∧
    (∀ {cs : List PV} {off sz : Nat} {ag : Bool} {t : Tok} {st : St}, loadP sz ag (.iptr cs off t) st = (partP cs off sz ag).map fun p => (p, st)) ∧
    (∀ {s o off : Nat} {st : St}, fadP off (.ptr s o) st = some (.ptr s (o + off), st)) ∧
    (∀ {cs : List PV} {o off : Nat} {t : Tok} {st : St}, fadP off (.iptr cs o t) st = some (.iptr cs (o + off) t, st)) ∧
    (∀ {cs : List PV} {off sz : Nat} {ag : Bool} {st : St}, fldP off sz ag (.agg cs) st = (partP cs off sz ag).map fun p => (p, st)) ∧
    (∀ {s o : Nat} {st : St}, nckP (.ptr s o) st = some (.ptr s o, st)) ∧
    (∀ {cs : List PV} {o : Nat} {t : Tok} {st : St}, nckP (.iptr cs o t) st = some (.iptr cs o t, st)) ∧
    (∀ {f : Nat} {cs : List PV} {st : St}, nckP (.fn f cs) st = some (.fn f cs, st)) ∧
    (∀ {vs : List PV} {i : Nat} {st : St}, extP (.tup vs) i st = (vs[i]?).map fun p => (p, st)) ∧
    (∀ {b : Bool} {st : St}, isnilP b .err st = some (.bool b, st)) ∧
    (∀ {b : Bool} {st : St}, isnilP b .nili st = some (.bool (!b), st)) ∧
    (∀ {k j : IntKind} {n : Int} {st : St}, toIntP k (.int j n) st = some (.int k (k.wrap n), st)) ∧
    (∀ {a b : Bool} {st : St}, pickP (.bool a) (.bool true) (.bool b) st = some (.bool (a || b), st)) ∧
    (∀ {a b : Bool} {st : St}, pickP (.bool a) (.bool b) (.bool false) st = some (.bool (a && b), st)) ∧
    (∀ {a b : PV} {st : St}, pickP (.bool true) a b st = some (a, st)) ∧
    (∀ {a b : PV} {st : St}, pickP (.bool false) a b st = some (b, st)) ∧
    (∀ {f : Nat} {cf : CallF} {as : List PV} {st : St}, f < 1000000 → cvalP cf (.fn f []) as st = callP cf f as [] st) := by
  refine ⟨slenP_ok, rfl, rfl, rfl, rfl, rfl, rfl, rfl, rfl, rfl, rfl, rfl, rfl, rfl, pickP_or, pickP_and, rfl, rfl, ?_⟩
  intro f cf as st h
  simp [cvalP, h]
theorem pmb :
    (∀ {st : St} {s k : Nat} {c : List PV}, (setO st s c).objs k = if k = s then some c else st.objs k) ∧
    (∀ {st : St} {s : Nat} {c : List PV}, (setO st s c).nx = st.nx) ∧
    (∀ {st : St} {s : Nat} {c : List PV}, (setO st s c).cnt = st.cnt) ∧
    (∀ {st : St} {s : Nat} {c : List PV}, (setO st s c).fl = st.fl) ∧
    (∀ {st : St} {s : Nat} {c : List PV}, (setO st s c).maps = st.maps) := ⟨rfl, rfl, rfl, rfl, rfl⟩
theorem pmq :
    (decide True = true) ∧ (decide False = false) ∧ (∀ {p : Prop} [Decidable p], (decide p = true) = p) ∧ (∀ {p : Prop} [Decidable p], (decide p = false) = ¬p) ∧ (∀ {p : Prop} [Decidable p], (!decide p) = decide (¬p)) ∧
    ((¬True) = False) ∧ ((¬False) = True) ∧ (∀ {b : Bool}, (false || b) = b) ∧ (∀ {b : Bool}, (b || false) = b) ∧ (∀ {b : Bool}, (true || b) = true) ∧ (∀ {b : Bool}, (b || true) = true) ∧
    (∀ {b : Bool}, (false && b) = false) ∧ (∀ {b : Bool}, (b && false) = false) ∧ (∀ {b : Bool}, (true && b) = b) ∧ (∀ {b : Bool}, (b && true) = b) ∧ ((!true) = false) ∧ ((!false) = true) ∧ (∀ {b : Bool}, (!!b) = b) ∧
    (∀ {b : Bool}, ((!b) = true) = (b = false)) ∧ (∀ {b : Bool}, ((!b) = false) = (b = true)) ∧ (∀ {b : Bool}, (b = false) = ¬(b = true)) ∧ ((true = true) = True) ∧ ((false = true) = False) ∧
    (∀ {a b : Bool}, ((a || b) = true) = (a = true ∨ b = true)) ∧ (∀ {a b : Bool}, ((a && b) = true) = (a = true ∧ b = true)) ∧ (∀ {p : Prop}, (¬¬p) = p) ∧
    (∀ {p : Prop}, (True ∧ p) = p) ∧ (∀ {p : Prop}, (p ∧ True) = p) ∧ (∀ {p : Prop}, (False ∧ p) = False) ∧ (∀ {p : Prop}, (p ∧ False) = False) ∧ (∀ {p : Prop}, (True ∨ p) = True) ∧ (∀ {p : Prop}, (p ∨ True) = True) ∧ (∀ {p : Prop}, (False ∨ p) = p) ∧ (∀ {p : Prop}, (p ∨ False) = p) ∧
    (∀ {n : Nat}, ((n : Int)).toNat = n) ∧ ((0 : Int).toNat = 0) ∧ (∀ {α β : Type} {f : α → β} {x : α}, Option.map f (some x) = some (f x)) ∧ (∀ {α β : Type} {f : α → β}, List.map f [] = []) ∧ (∀ {α β : Type} {f : α → β} {x : α} {xs : List α}, List.map f (x :: xs) = f x :: List.map f xs) := by
  simp
def Knows (cf : CallF) (f : Nat) (F : CFn) : Prop := ∀ N as ns cs r, runFn cf N F as ns cs = some r → cf f as ns cs = some r
def endOk : Ex → Prop
  | .exit _ => False
  | _ => True
theorem endOk_ret : endOk .ret ↔ True := Iff.rfl
def bare (p : PV) : Prop := np p = true ∧ strip p = p ∧ closed p = true ∧ (∀ f s, ren f s p = p) ∧ (match p with | .osl .. => False | .ptr .. => False | _ => True)
def bares (ps : List PV) : Prop := nps ps = true ∧ strips ps = ps ∧ closeds ps = true ∧ ∀ f s, rens f s ps = ps
theorem bare_int (k : IntKind) (n : Int) : bare (.int k n) := ⟨rfl, rfl, rfl, fun _ _ => rfl, trivial⟩
theorem bare_bool (b : Bool) : bare (.bool b) := ⟨rfl, rfl, rfl, fun _ _ => rfl, trivial⟩
theorem bare_str (s : ByteArray) : bare (.str s) := ⟨rfl, rfl, rfl, fun _ _ => rfl, trivial⟩
theorem bare_nili : bare .nili := ⟨rfl, rfl, rfl, fun _ _ => rfl, trivial⟩
theorem bare_err : bare .err := ⟨rfl, rfl, rfl, fun _ _ => rfl, trivial⟩
theorem bares_nil : bares [] := ⟨rfl, rfl, rfl, fun _ _ => rfl⟩
theorem bares_cons {p : PV} {ps : List PV} (h : bare p) (k : bares ps) : bares (p :: ps) := by
  obtain ⟨h1, h2, h3, h4, _⟩ := h
  obtain ⟨k1, k2, k3, k4⟩ := k
  refine ⟨?_, ?_, ?_, fun f s => ?_⟩
  · have h1' : off (fun _ => true) p = true := h1
    have k1' : offs (fun _ => true) ps = true := k1
    simp only [nps, offs, h1', k1', Bool.and_self]
  · have h2' : ren (fun _ => none) true p = p := h2
    have k2' : rens (fun _ => none) true ps = ps := k2
    simp only [strips, rens, h2', k2']
  · simp only [closeds, h3, k3, Bool.and_self]
  · simp only [rens, h4, k4]
theorem bare_tup {cs : List PV} (h : bares cs) : bare (.tup cs) := by
  obtain ⟨h1, h2, h3, h4⟩ := h
  refine ⟨h1, ?_, h3, fun f s => ?_, trivial⟩
  · have h2' : rens (fun _ => none) true cs = cs := h2
    simp only [strip, ren, h2']
  · simp only [ren, h4]
def plainV (p : PV) : Prop := np p = true ∧ strip p = p ∧ (∀ f s, ren f s p = p) ∧ (match p with | .osl .. => False | .ptr .. => False | _ => True)
def plainVs (ps : List PV) : Prop := nps ps = true ∧ strips ps = ps ∧ ∀ f s, rens f s ps = ps
theorem bare.plain {p : PV} (h : bare p) : plainV p := ⟨h.1, h.2.1, h.2.2.2.1, h.2.2.2.2⟩
theorem bares.plain {ps : List PV} (h : bares ps) : plainVs ps := ⟨h.1, h.2.1, h.2.2.2⟩
theorem plainVs_nil : plainVs [] := bares_nil.plain
theorem plainVs_cons {p : PV} {ps : List PV} (h : plainV p) (k : plainVs ps) : plainVs (p :: ps) := by
  obtain ⟨h1, h2, h4, _⟩ := h
  obtain ⟨k1, k2, k4⟩ := k
  refine ⟨?_, ?_, fun f s => ?_⟩
  · have h1' : off (fun _ => true) p = true := h1
    have k1' : offs (fun _ => true) ps = true := k1
    simp only [nps, offs, h1', k1', Bool.and_self]
  · have h2' : ren (fun _ => none) true p = p := h2
    have k2' : rens (fun _ => none) true ps = ps := k2
    simp only [strips, rens, h2', k2']
  · simp only [rens, h4, k4]
theorem plainVs_append {ps qs : List PV} (h : plainVs ps) (k : plainVs qs) : plainVs (ps ++ qs) := by
  obtain ⟨h1, h2, h4⟩ := h
  obtain ⟨k1, k2, k4⟩ := k
  have hr : ∀ f s, rens f s (ps ++ qs) = ps ++ qs := by
    intro f s
    have : ∀ (xs ys : List PV), rens f s (xs ++ ys) = rens f s xs ++ rens f s ys := by
      intro xs ys
      induction xs with
      | nil => rfl
      | cons x xs ih => simp only [List.cons_append, rens, ih]
    rw [this, h4, k4]
  exact ⟨nps_append h1 k1, hr _ _, hr⟩
theorem plainV_agg {cs : List PV} (h : plainVs cs) : plainV (.agg cs) := by
  obtain ⟨h1, h2, h4⟩ := h
  refine ⟨h1, ?_, fun f s => ?_, trivial⟩
  · have h2' : rens (fun _ => none) true cs = cs := h2
    simp only [strip, ren, h2']
  · simp only [ren, h4]
theorem plainV_list {n : Nat} {cs : List PV} (h : plainVs cs) : plainV (.list n cs .no) := by
  obtain ⟨h1, h2, h4⟩ := h
  refine ⟨h1, ?_, fun f s => ?_, trivial⟩
  · have h2' : rens (fun _ => none) true cs = cs := h2
    simp only [strip, ren, h2', Tok.ren]
  · simp only [ren, h4, Tok.ren]
theorem plainV_int (k : IntKind) (n : Int) : plainV (.int k n) := (bare_int k n).plain
theorem plainV_bool (b : Bool) : plainV (.bool b) := (bare_bool b).plain
theorem plainV_str (s : ByteArray) : plainV (.str s) := (bare_str s).plain
theorem plainVs_arg {ps : List PV} (h : ∀ p ∈ ps, plainV p) : ps.all plainArg = true ∧ ps.map strip = ps := by
  refine ⟨List.all_eq_true.2 fun p hp => ?_, ?_⟩
  · have := h p hp
    unfold plainArg
    rw [this.1, Bool.true_and]
    have h4 := this.2.2.2
    cases p <;> first | rfl | exact h4.elim
  · induction ps with
    | nil => rfl
    | cons p ps ih =>
      simp only [List.map_cons, (h p (by simp)).2.1]
      rw [ih fun q hq => h q (by simp [hq])]
theorem meltAll_plain (nk : Nat) {p : PV} {st : St} (h : match p with | .osl .. => False | .ptr .. => False | _ => True) : meltAll nk [p] st = ([p], st) := by
  cases p <;> first | exact h.elim | (rw [meltAll, meltAll]; intros; simp_all)
section
variable {cf : CallF} {f : Nat} {F : CFn} {as : List PV} {r : PV} {t t2 N : Nat} {st : St}
theorem finish_val (hres : F.res = [.tmp t]) (hown : F.own = false) {fr : Fr} {cs : List (List PV)} (hcs : getAll st (List.range cs.length) = some cs) (hc : ∀ c ∈ cs, plainVs c) (hr : plainV r) (h : fr t = r) : finish F cs.length fr st = some (r, [], cs) := by
  have hn : np r = true := hr.1
  have hcs' : cs.map strips = cs := by
    have : ∀ (l : List (List PV)), (∀ c ∈ l, plainVs c) → l.map strips = l := by
      intro l
      induction l with
      | nil => intro _; rfl
      | cons c l ih => intro hl; simp only [List.map_cons, (hl c (by simp)).2.1]; rw [ih fun d hd => hl d (by simp [hd])]
    exact this cs hc
  have hall : cs.all nps = true := List.all_eq_true.2 fun c h => (hc c h).1
  simp only [finish, hres, ressP, resP, h, hcs, meltAll_plain F.nk hr.2.2.2, oneOf, hn, hall, Bool.and_self, if_true, sealP, hown, Bool.false_and, Bool.false_eq_true, if_false, hr.2.1, hcs']
theorem run_of_wp {Q : Ex → Fr × St → Prop} {cs : List (List PV)} {ns : List Nat} {x} (h : Wp cf N F.body (frame as, stB ns cs) Q) (hnt : as.length ≤ F.nt) (hnk : cs.length ≤ F.nk) (hQ : ∀ e y, Q e y → endOk e ∧ finish F cs.length y.1 y.2 = some x) : runFn cf N F as ns cs = some x := by
  obtain ⟨e, y, hev, hq⟩ := h
  obtain ⟨he, hf⟩ := hQ e y hq
  unfold runFn
  rw [if_pos ⟨hnt, hnk⟩, hev]
  cases e with
  | go => exact hf
  | ret => exact hf
  | exit i => exact he.elim
theorem fn_val (K : Knows cf f F) (hres : F.res = [.tmp t]) (hown : F.own = false) (hnt : as.length ≤ F.nt) (hr : plainV r) (N : Nat) (h : Wp cf N F.body (frame as, stB [] []) (fun e y => endOk e ∧ y.1 t = r)) : cf f as [] [] = some (r, [], []) :=
  K N as [] [] _ (run_of_wp h hnt (Nat.zero_le _) fun e y hq => ⟨hq.1, finish_val (cs := []) hres hown rfl (by simp) hr hq.2⟩)
theorem call_bare (has : ∀ p ∈ as, plainV p) (hr : bare r) (h : cf f as [] [] = some (r, [], [])) : callP cf f as [] st = some (r, st) := by
  obtain ⟨h1, h2⟩ := plainVs_arg has
  exact callP_val h1 h2 h (hr.2.2.2.1 _ _) hr.2.2.1
theorem call_ptr {s : Nat} {c c' : List PV} (hs : st.objs s = some c) (hc : plainVs c) (hc' : bares c') (has : ∀ p ∈ as, plainV p) (hr : bare r) (h : cf f (.ptr 0 0 :: as) [] [c] = some (r, [], [c'])) :
    callP cf f (.ptr s 0 :: as) [] st = some (r, setO st s c') := by
  obtain ⟨h1, h2⟩ := plainVs_arg has
  have hk : keysOf (.ptr s 0 :: as) = some [s] := by
    simp only [keysOf, keysOf_plain h1]
    simp
  have hh : ∀ (l : List PV) (i n : Nat), l.all plainArg = true → handOn [] [] i n l = l.map strip := fun l i n hl => handOn_plain i n hl
  have hon : handOn [] [] 0 0 (.ptr s 0 :: as) = .ptr 0 0 :: as := by
    simp only [handOn, hh as _ _ h1, h2]
  simp only [callP, hk, getAll, hs, hon, List.map_cons, List.map_nil, hc.2.1, h, List.length_cons, List.length_nil, if_true]
  congr 1
  refine Prod.ext (hr.2.2.2.1 _ _) ?_
  simp only [hc'.2.2.2, hr.2.2.1, hc'.2.2.1, List.all_cons, List.all_nil, Bool.and_self, if_true]
  rfl
theorem fn_ptr (K : Knows cf f F) (hres : F.res = [.tmp t]) (hown : F.own = false) (hnt : as.length + 1 ≤ F.nt) (hnk : 1 ≤ F.nk) (hr : plainV r) {c c' : List PV} (hc' : plainVs c') (N : Nat)
    (h : Wp cf N F.body (frame (.ptr 0 0 :: as), stB [] [c]) (fun e y => endOk e ∧ y.1 t = r ∧ y.2.objs 0 = some c')) : cf f (.ptr 0 0 :: as) [] [c] = some (r, [], [c']) :=
  K N _ [] [c] _ (run_of_wp h (by simpa using hnt) hnk fun e y hq => ⟨hq.1, finish_val (cs := [c']) hres hown (by
    have : List.range [c'].length = [0] := rfl
    rw [this]; simp only [getAll, hq.2.2]) (by simpa using hc') hr hq.2.1⟩)
end
def qm (d s : Nat) : COper := ⟨none, some d, .mv (.sl s)⟩
def qi (d : Nat) (n : Int) : COper := ⟨none, some d, .mv (.k (.int .i64 n))⟩
def qc (d : Nat) (p : PV) : COper := ⟨none, some d, .mv (.k p)⟩
def qb (d : Nat) (op : BinOp) (x y : Nat) : COper := ⟨none, some d, .bin op (.sl x) (.sl y)⟩
def qk (d : Nat) (op : BinOp) (x : Nat) (n : Int) : COper := ⟨none, some d, .bin op (.sl x) (.k (.int .i64 n))⟩
def ql (d sz : Nat) (ag : Bool) (a : Nat) : COper := ⟨none, some d, .load sz ag (.sl a)⟩
def qf (d o x : Nat) : COper := ⟨none, some d, .fad o (.sl x)⟩
def qo (d : Nat) (p : COp) : COper := ⟨none, some d, p⟩
def qN : PV := .list 0 [] .nil
def qr (ops : List COper) (c : CC) : CC := .seq (.reg ops []) c
def qd (s : Nat) (a b : CC) : CC := .cond (.sl s) a b
def qe (p : COp) : COper := ⟨none, none, p⟩
def F10 : CFn := { nt := 13, nk := 0, own := true, res := [.cell 2 2 true], body := (
 qr [qo 1 (.box 2 (.sl 0)), qo 2 (.alloc [qN, qN])]
 (qr [qo 3 (.alloc [qN, qN])]
 (qr [qf 4 0 1, ql 5 1 false 4, qo 6 (.call 44 [.sl 5] []), qf 7 0 3, qe (.store 1 (.sl 7) (.sl 6))]
 (qr [qf 8 1 1, ql 9 1 false 8, qo 10 (.call 45 [.sl 9] []), qf 11 1 3, qe (.store 1 (.sl 11) (.sl 10))]
 (qr [ql 12 2 true 3, qe (.store 2 (.sl 2) (.sl 12))]
 .ret))))) }
def F44 : CFn := { nt := 23, nk := 0, own := true, res := [.tmp 2], body := (
 qr [qc 2 qN]
 (qr [qm 5 0, qo 6 (.len (.sl 5)), qo 7 (.mks 72 3 56 [(.int .i64 0), qN, qN] (.sl 6) (.sl 6)), qm 3 7]
 (.seq (qr [qi 4 0]
 (.block 0 (.loop (.seq (qr [qm 8 4, qm 9 0, qo 10 (.len (.sl 9)), qb 11 .lss 8 10]
 (qd 11 .skip (.exit 0)))
 (.seq (.block 1 (.reg [qm 14 3, qm 15 4, qm 16 0, qm 17 4, qo 18 (.iad 3 (.sl 16) (.sl 17)), ql 19 3 true 18, qo 20 (.call 86 [.sl 19] []), qo 21 (.iad 3 (.sl 14) (.sl 15)), qe (.store 3 (.sl 21) (.sl 20))] []))
 (.reg [qm 12 4, qk 13 .add 12 1, qm 4 13] []))))))
 (qr [qm 22 3, qm 2 22]
 .ret)))) }
def F45 : CFn := { nt := 23, nk := 0, own := true, res := [.tmp 2], body := (
 qr [qc 2 qN]
 (qr [qm 5 0, qo 6 (.len (.sl 5)), qo 7 (.mks 68 5 64 [(.int .i64 0), (.str ⟨#[]⟩), (.int .i64 0), (.int .i64 0), qN] (.sl 6) (.sl 6)), qm 3 7]
 (.seq (qr [qi 4 0]
 (.block 0 (.loop (.seq (qr [qm 8 4, qm 9 0, qo 10 (.len (.sl 9)), qb 11 .lss 8 10]
 (qd 11 .skip (.exit 0)))
 (.seq (.block 1 (.reg [qm 14 3, qm 15 4, qm 16 0, qm 17 4, qo 18 (.iad 5 (.sl 16) (.sl 17)), ql 19 5 true 18, qo 20 (.call 87 [.sl 19] []), qo 21 (.iad 5 (.sl 14) (.sl 15)), qe (.store 5 (.sl 21) (.sl 20))] []))
 (.reg [qm 12 4, qk 13 .add 12 1, qm 4 13] []))))))
 (qr [qm 22 3, qm 2 22]
 .ret)))) }
def F86 : CFn := { nt := 16, nk := 0, own := true, res := [.cell 2 3 true], body := (
 qr [qo 1 (.box 3 (.sl 0)), qo 2 (.alloc [(.int .i64 0), qN, qN])]
 (qr [qo 3 (.alloc [(.int .i64 0), qN, qN])]
 (qr [qf 4 0 1, ql 5 1 false 4, qf 6 0 3, qe (.store 1 (.sl 6) (.sl 5))]
 (qr [qf 7 1 1, ql 8 1 false 7, qo 9 (.call 122 [.sl 8] []), qf 10 1 3, qe (.store 1 (.sl 10) (.sl 9))]
 (qr [qf 11 2 1, ql 12 1 false 11, qo 13 (.call 123 [.sl 12] []), qf 14 2 3, qe (.store 1 (.sl 14) (.sl 13))]
 (qr [ql 15 3 true 3, qe (.store 3 (.sl 2) (.sl 15))]
 .ret)))))) }
def F87 : CFn := { nt := 21, nk := 0, own := true, res := [.cell 2 5 true], body := (
 qr [qo 1 (.box 5 (.sl 0)), qo 2 (.alloc [(.int .i64 0), (.str ⟨#[]⟩), (.int .i64 0), (.int .i64 0), qN])]
 (qr [qo 3 (.alloc [(.int .i64 0), (.str ⟨#[]⟩), (.int .i64 0), (.int .i64 0), qN])]
 (qr [qf 4 0 1, ql 5 1 false 4, qf 6 0 3, qe (.store 1 (.sl 6) (.sl 5))]
 (qr [qf 7 1 1, ql 8 1 false 7, qf 9 1 3, qe (.store 1 (.sl 9) (.sl 8))]
 (qr [qf 10 2 1, ql 11 1 false 10, qf 12 2 3, qe (.store 1 (.sl 12) (.sl 11))]
 (qr [qf 13 3 1, ql 14 1 false 13, qf 15 3 3, qe (.store 1 (.sl 15) (.sl 14))]
 (qr [qf 16 4 1, ql 17 1 false 16, qo 18 (.call 123 [.sl 17] []), qf 19 4 3, qe (.store 1 (.sl 19) (.sl 18))]
 (qr [ql 20 5 true 3, qe (.store 5 (.sl 2) (.sl 20))]
 .ret)))))))) }
def F122 : CFn := { nt := 22, nk := 0, own := true, res := [.tmp 2], body := (
 qr [qc 2 qN]
 (qr [qm 5 0, qo 6 (.len (.sl 5)), qo 7 (.mks 9 1 16 [(.str ⟨#[]⟩)] (.sl 6) (.sl 6)), qm 3 7]
 (.seq (qr [qi 4 0]
 (.block 0 (.loop (.seq (qr [qm 8 4, qm 9 0, qo 10 (.len (.sl 9)), qb 11 .lss 8 10]
 (qd 11 .skip (.exit 0)))
 (.seq (.block 1 (.reg [qm 14 3, qm 15 4, qm 16 0, qm 17 4, qo 18 (.iad 1 (.sl 16) (.sl 17)), ql 19 1 false 18, qo 20 (.iad 1 (.sl 14) (.sl 15)), qe (.store 1 (.sl 20) (.sl 19))] []))
 (.reg [qm 12 4, qk 13 .add 12 1, qm 4 13] []))))))
 (qr [qm 21 3, qm 2 21]
 .ret)))) }
def F123 : CFn := { nt := 23, nk := 0, own := true, res := [.tmp 2], body := (
 qr [qc 2 qN]
 (qr [qm 5 0, qo 6 (.len (.sl 5)), qo 7 (.mks 133 2 32 [(.str ⟨#[]⟩), (.str ⟨#[]⟩)] (.sl 6) (.sl 6)), qm 3 7]
 (.seq (qr [qi 4 0]
 (.block 0 (.loop (.seq (qr [qm 8 4, qm 9 0, qo 10 (.len (.sl 9)), qb 11 .lss 8 10]
 (qd 11 .skip (.exit 0)))
 (.seq (.block 1 (.reg [qm 14 3, qm 15 4, qm 16 0, qm 17 4, qo 18 (.iad 2 (.sl 16) (.sl 17)), ql 19 2 true 18, qo 20 (.call 170 [.sl 19] []), qo 21 (.iad 2 (.sl 14) (.sl 15)), qe (.store 2 (.sl 21) (.sl 20))] []))
 (.reg [qm 12 4, qk 13 .add 12 1, qm 4 13] []))))))
 (qr [qm 22 3, qm 2 22]
 .ret)))) }
def F170 : CFn := { nt := 11, nk := 0, own := true, res := [.cell 2 2 true], body := (
 qr [qo 1 (.box 2 (.sl 0)), qo 2 (.alloc [(.str ⟨#[]⟩), (.str ⟨#[]⟩)])]
 (qr [qo 3 (.alloc [(.str ⟨#[]⟩), (.str ⟨#[]⟩)])]
 (qr [qf 4 0 1, ql 5 1 false 4, qf 6 0 3, qe (.store 1 (.sl 6) (.sl 5))]
 (qr [qf 7 1 1, ql 8 1 false 7, qf 9 1 3, qe (.store 1 (.sl 9) (.sl 8))]
 (qr [ql 10 2 true 3, qe (.store 2 (.sl 2) (.sl 10))]
 .ret))))) }
def F11 : CFn := { nt := 19, nk := 0, own := true, res := [.tmp 4], body := (
 qr [qo 2 (.box 2 (.sl 0)), qc 4 qN]
 (.seq (qr [qm 5 1, qk 6 .lss 5 1, qm 7 6, ⟨(some (7, false)), (some 8), .mv (.sl 1)⟩, ⟨(some (7, false)), (some 9), .bin .gtr (.sl 8) (.k (.int .i64 8))⟩, qo 10 (.pick (.sl 7) (.k (.bool true)) (.sl 9)), qm 11 10, ⟨(some (11, false)), (some 12), .load 2 true (.sl 2)⟩, ⟨(some (11, false)), (some 13), .call 46 [.sl 12] []⟩, ⟨(some (11, false)), (some 14), .un .not (.sl 13)⟩, qo 15 (.pick (.sl 11) (.k (.bool true)) (.sl 14))]
 (qd 15 (qr [qc 4 qN]
 .ret) .skip))
 (qr [ql 16 2 true 2, qm 17 1, qo 18 (.call 47 [(.sl 16), (.sl 17)] []), qm 4 18]
 .ret))) }
def F47 : CFn := { nt := 99, nk := 0, own := true, res := [.tmp 4], body := (
 qr [qo 2 (.box 2 (.sl 0)), qc 4 qN]
 (qr [qm 12 1, qo 13 (.mks 32 2 48 [qN, qN] (.sl 12) (.sl 12)), qm 5 13]
 (.seq (qr [qm 14 1, qi 15 0]
 (.block 0 (.loop (qr [qb 16 .lss 15 14]
 (.seq (qd 16 .skip (.exit 0))
 (.seq (.block 1 (qr [qm 17 15, qm 6 17]
 (qr [qm 18 5, qm 19 6, qo 20 (.iad 2 (.sl 18) (.sl 19)), qm 7 20]
 (.seq (qr [qf 21 0 2, ql 22 1 false 21, qo 23 (.len (.sl 22)), qi 24 0]
 (.block 2 (.loop (qr [qb 25 .lss 24 23]
 (.seq (qd 25 .skip (.exit 2))
 (.seq (.block 3 (qr [qo 26 (.iad 3 (.sl 22) (.sl 24)), ql 27 3 true 26, qo 9 (.alloc [(.int .i64 0), qN, qN]), qe (.store 3 (.sl 9) (.sl 27))]
 (qr [qf 28 0 9, ql 29 1 false 28, qm 30 1, qb 31 .rem 29 30, qm 32 6, qb 33 .eql 31 32]
 (qd 33 (.reg [qm 34 7, qm 35 7, qo 36 (.nck (.sl 35)), qf 37 0 36, ql 38 1 false 37, ql 39 3 true 9, qo 40 (.call 66 [.sl 39] []), qo 41 (.bsl 72 3 [(.int .i64 0), qN, qN] 1 [(0, 3, (.sl 40))]), qo 42 (.app 72 3 56 (.sl 38) (.sl 41)), qo 43 (.nck (.sl 34)), qf 44 0 43, qe (.store 1 (.sl 44) (.sl 42))] [(4, 6)]) .skip))))
 (.reg [qk 45 .add 24 1, qm 24 45] [])))))))
 (qr [qf 46 1 2, ql 47 1 false 46, qo 48 (.len (.sl 47)), qi 49 0]
 (.block 4 (.loop (qr [qb 50 .lss 49 48]
 (.seq (qd 50 .skip (.exit 4))
 (.seq (.block 5 (qr [qo 51 (.iad 5 (.sl 47) (.sl 49)), ql 52 5 true 51, qo 11 (.alloc [(.int .i64 0), (.str ⟨#[]⟩), (.int .i64 0), (.int .i64 0), qN]), qe (.store 5 (.sl 11) (.sl 52))]
 (.seq (qr [qf 53 2 11, ql 54 1 false 53, qm 55 1, qb 56 .rem 54 55, qm 57 6, qb 58 .neq 56 57]
 (qd 58 (.exit 5) .skip))
 (.seq (.reg [qm 59 7, qm 60 7, qo 61 (.nck (.sl 60)), qf 62 1 61, ql 63 1 false 62, ql 64 5 true 11, qo 65 (.call 68 [.sl 64] []), qo 66 (.bsl 68 5 [(.int .i64 0), (.str ⟨#[]⟩), (.int .i64 0), (.int .i64 0), qN] 1 [(0, 5, (.sl 65))]), qo 67 (.app 68 5 64 (.sl 63) (.sl 66)), qo 68 (.nck (.sl 59)), qf 69 1 68, qe (.store 1 (.sl 69) (.sl 67))] [(4, 6)])
 (qr [qf 70 3 11, ql 71 1 false 70, qm 72 1, qb 73 .rem 71 72, qm 74 6, qb 75 .neq 73 74, qm 76 75, ⟨(some (76, true)), (some 77), .mv (.sl 7)⟩, ⟨(some (76, true)), (some 78), .nck (.sl 77)⟩, ⟨(some (76, true)), (some 79), .load 2 true (.sl 78)⟩, ⟨(some (76, true)), (some 80), .fad 3 (.sl 11)⟩, ⟨(some (76, true)), (some 81), .load 1 false (.sl 80)⟩, ⟨(some (76, true)), (some 82), .call 90 [(.sl 79), (.sl 81)] []⟩, ⟨(some (76, true)), (some 83), .bin .lss (.sl 82) (.k (.int .i64 0))⟩, qo 84 (.pick (.sl 76) (.sl 83) (.k (.bool false)))]
 (qd 84 (.reg [qm 85 7, qm 86 7, qo 87 (.nck (.sl 86)), qf 88 0 87, ql 89 1 false 88, qf 90 3 11, ql 91 1 false 90, qo 92 (.build [(.int .i64 0), qN, qN] [(0, 1, (.sl 91))]), qo 93 (.call 91 [(.sl 89), (.sl 92), (.k (.fn 92 []))] [0]), qo 94 (.nck (.sl 85)), qf 95 0 94, qe (.store 1 (.sl 95) (.sl 93))] []) .skip))))))
 (.reg [qk 96 .add 49 1, qm 49 96] [])))))))))))
 (.reg [qk 97 .add 15 1, qm 15 97] [])))))))
 (qr [qm 98 5, qm 4 98]
 .ret)))) }
def F66 : CFn := { nt := 12, nk := 0, own := true, res := [.cell 2 3 true], body := (
 qr [qo 1 (.box 3 (.sl 0)), qo 2 (.alloc [(.int .i64 0), qN, qN])]
 (qr [qf 3 1 1, ql 4 1 false 3, qo 5 (.call 103 [.sl 4] []), qf 6 1 1, qe (.store 1 (.sl 6) (.sl 5))]
 (qr [qf 7 2 1, ql 8 1 false 7, qo 9 (.call 108 [.sl 8] []), qf 10 2 1, qe (.store 1 (.sl 10) (.sl 9))]
 (qr [ql 11 3 true 1, qe (.store 3 (.sl 2) (.sl 11))]
 .ret)))) }
def F68 : CFn := { nt := 8, nk := 0, own := true, res := [.cell 2 5 true], body := (
 qr [qo 1 (.box 5 (.sl 0)), qo 2 (.alloc [(.int .i64 0), (.str ⟨#[]⟩), (.int .i64 0), (.int .i64 0), qN])]
 (qr [qf 3 4 1, ql 4 1 false 3, qo 5 (.call 108 [.sl 4] []), qf 6 4 1, qe (.store 1 (.sl 6) (.sl 5))]
 (qr [ql 7 5 true 1, qe (.store 5 (.sl 2) (.sl 7))]
 .ret))) }
def F103 : CFn := { nt := 11, nk := 0, own := true, res := [.tmp 2], body := (
 qr [qc 2 qN]
 (.seq (qr [qm 3 0, qo 4 (.len (.sl 3)), qk 5 .eql 4 0]
 (qd 5 (qr [qc 2 qN]
 .ret) .skip))
 (qr [qm 6 0, qo 7 (.len (.sl 6)), qo 8 (.mk0 9 1 16 (.k (.int .i64 0)) (.sl 7)), qm 9 0, qo 10 (.app 9 1 16 (.sl 8) (.sl 9)), qm 2 10]
 .ret))) }
def F108 : CFn := { nt := 11, nk := 0, own := true, res := [.tmp 2], body := (
 qr [qc 2 qN]
 (.seq (qr [qm 3 0, qo 4 (.len (.sl 3)), qk 5 .eql 4 0]
 (qd 5 (qr [qc 2 qN]
 .ret) .skip))
 (qr [qm 6 0, qo 7 (.len (.sl 6)), qo 8 (.mk0 133 2 32 (.k (.int .i64 0)) (.sl 7)), qm 9 0, qo 10 (.app 133 2 32 (.sl 8) (.sl 9)), qm 2 10]
 .ret))) }
def F91 : CFn := { nt := 31, nk := 0, own := true, res := [.tmp 6], body := (
 qr [qo 4 (.box 3 (.sl 1)), qc 6 qN]
 (qr [qi 7 0]
 (.seq (.block 0 (.loop (.seq (.seq (.reg [qm 8 7, qm 9 0, qo 10 (.len (.sl 9)), qb 11 .lss 8 10, qm 12 11, ⟨(some (12, true)), (some 13), .mv (.sl 2)⟩, ⟨(some (12, true)), (some 14), .mv (.sl 0)⟩, ⟨(some (12, true)), (some 15), .mv (.sl 7)⟩, ⟨(some (12, true)), (some 16), .iad 3 (.sl 14) (.sl 15)⟩, ⟨(some (12, true)), (some 17), .load 3 true (.sl 16)⟩, ⟨(some (12, true)), (some 18), .cval (.sl 13) [.sl 17]⟩, ⟨(some (12, true)), (some 19), .mv (.sl 2)⟩, ⟨(some (12, true)), (some 20), .load 3 true (.sl 4)⟩, ⟨(some (12, true)), (some 21), .cval (.sl 19) [.sl 20]⟩, ⟨(some (12, true)), (some 22), .bin .lss (.sl 18) (.sl 21)⟩, qo 23 (.pick (.sl 12) (.sl 22) (.k (.bool false)))] [(10, 12)])
 (qd 23 .skip (.exit 0)))
 (.block 1 (.reg [qm 24 7, qk 25 .add 24 1, qm 7 25] [])))))
 (qr [qm 26 0, qm 27 7, ql 28 3 true 4, qo 29 (.bsl 72 3 [(.int .i64 0), qN, qN] 1 [(0, 3, (.sl 28))]), qo 30 (.call 128 [(.sl 26), (.sl 27), (.sl 29)] [0]), qm 6 30]
 .ret)))) }
def F8 : CFn := { nt := 18, nk := 0, own := false, res := [.tmp 4], body := (
 qr [qo 2 (.box 2 (.sl 0)), qi 4 0]
 (qr [qf 5 0 2, ql 6 1 false 5, qm 7 1, qo 8 (.call 38 [(.sl 6), (.sl 7)] []), qm 1 8]
 (.seq (qr [qm 9 1, qk 10 .lss 9 0]
 (qd 10 (qr [qi 4 (-1)]
 .ret) .skip))
 (qr [qf 11 1 2, ql 12 1 false 11, qm 13 1, qo 14 (.call 39 [(.sl 12), (.sl 13)] []), qm 1 14]
 (.seq (qr [qm 15 1, qk 16 .lss 15 0]
 (qd 16 (qr [qi 4 (-1)]
 .ret) .skip))
 (qr [qm 17 1, qm 4 17]
 .ret)))))) }
def F12 : CFn := { nt := 27, nk := 0, own := false, res := [.tmp 4], body := (
 qr [qc 4 (.bool false)]
 (.seq (qr [qm 6 0, qo 7 (.len (.sl 6)), qm 8 1, qo 9 (.len (.sl 8)), qb 10 .neq 7 9]
 (qd 10 (qr [qc 4 (.bool false)]
 .ret) .skip))
 (.seq (qr [qi 5 0]
 (.block 0 (.loop (.seq (qr [qm 11 5, qm 12 0, qo 13 (.len (.sl 12)), qb 14 .lss 11 13]
 (qd 14 .skip (.exit 0)))
 (.seq (.block 1 (qr [qm 17 0, qm 18 5, qo 19 (.iad 2 (.sl 17) (.sl 18)), ql 20 2 true 19, qm 21 1, qm 22 5, qo 23 (.iad 2 (.sl 21) (.sl 22)), ql 24 2 true 23, qo 25 (.call 13 [(.sl 20), (.sl 24)] []), qo 26 (.un .not (.sl 25))]
 (qd 26 (qr [qc 4 (.bool false)]
 .ret) .skip)))
 (.reg [qm 15 5, qk 16 .add 15 1, qm 5 16] []))))))
 (qr [qc 4 (.bool true)]
 .ret)))) }
def F13 : CFn := { nt := 17, nk := 0, own := false, res := [.tmp 4], body := (
 qr [qo 2 (.box 2 (.sl 0)), qo 3 (.box 2 (.sl 1)), qc 4 (.bool false)]
 (.seq (qr [qf 5 0 2, ql 6 1 false 5, qf 7 0 3, ql 8 1 false 7, qo 9 (.call 48 [(.sl 6), (.sl 8)] []), qo 10 (.un .not (.sl 9))]
 (qd 10 (qr [qc 4 (.bool false)]
 .ret) .skip))
 (.seq (qr [qf 11 1 2, ql 12 1 false 11, qf 13 1 3, ql 14 1 false 13, qo 15 (.call 49 [(.sl 12), (.sl 14)] []), qo 16 (.un .not (.sl 15))]
 (qd 16 (qr [qc 4 (.bool false)]
 .ret) .skip))
 (qr [qc 4 (.bool true)]
 .ret)))) }
def F16 : CFn := { nt := 31, nk := 0, own := false, res := [.tmp 4], body := (
 qr [qi 4 0]
 (.seq (qr [qi 5 0]
 (.block 0 (.loop (.seq (qr [qm 6 5, qm 7 0, qo 8 (.len (.sl 7)), qb 9 .lss 6 8]
 (qd 9 .skip (.exit 0)))
 (.seq (.block 1 (qr [qm 12 0, qm 13 5, qo 14 (.iad 2 (.sl 12) (.sl 13)), qf 15 0 14, ql 16 1 false 15, qm 17 1, qo 18 (.call 52 [(.sl 16), (.sl 17)] []), qm 1 18]
 (.seq (qr [qm 19 1, qk 20 .lss 19 0]
 (qd 20 (qr [qi 4 (-1)]
 .ret) .skip))
 (qr [qm 21 0, qm 22 5, qo 23 (.iad 2 (.sl 21) (.sl 22)), qf 24 1 23, ql 25 1 false 24, qm 26 1, qo 27 (.call 53 [(.sl 25), (.sl 26)] []), qm 1 27]
 (qr [qm 28 1, qk 29 .lss 28 0]
 (qd 29 (qr [qi 4 (-1)]
 .ret) .skip))))))
 (.reg [qm 10 5, qk 11 .add 10 1, qm 5 11] []))))))
 (qr [qm 30 1, qm 4 30]
 .ret))) }
def F38 : CFn := { nt := 27, nk := 0, own := false, res := [.tmp 4], body := (
 qr [qi 4 0]
 (qr [qm 6 1, qm 7 0, qo 8 (.len (.sl 7)), qb 9 .sub 6 8, qm 1 9]
 (.seq (qr [qm 10 1, qk 11 .lss 10 0]
 (qd 11 (qr [qi 4 (-1)]
 .ret) .skip))
 (.seq (qr [qi 5 0]
 (.block 0 (.loop (.seq (qr [qm 12 5, qm 13 0, qo 14 (.len (.sl 13)), qb 15 .lss 12 14]
 (qd 15 .skip (.exit 0)))
 (.seq (.block 1 (qr [qm 18 0, qm 19 5, qo 20 (.iad 3 (.sl 18) (.sl 19)), ql 21 3 true 20, qm 22 1, qo 23 (.call 79 [(.sl 21), (.sl 22)] []), qm 1 23]
 (qr [qm 24 1, qk 25 .lss 24 0]
 (qd 25 (qr [qi 4 (-1)]
 .ret) .skip))))
 (.reg [qm 16 5, qk 17 .add 16 1, qm 5 17] []))))))
 (qr [qm 26 1, qm 4 26]
 .ret))))) }
def F39 : CFn := { nt := 27, nk := 0, own := false, res := [.tmp 4], body := (
 qr [qi 4 0]
 (qr [qm 6 1, qm 7 0, qo 8 (.len (.sl 7)), qb 9 .sub 6 8, qm 1 9]
 (.seq (qr [qm 10 1, qk 11 .lss 10 0]
 (qd 11 (qr [qi 4 (-1)]
 .ret) .skip))
 (.seq (qr [qi 5 0]
 (.block 0 (.loop (.seq (qr [qm 12 5, qm 13 0, qo 14 (.len (.sl 13)), qb 15 .lss 12 14]
 (qd 15 .skip (.exit 0)))
 (.seq (.block 1 (qr [qm 18 0, qm 19 5, qo 20 (.iad 5 (.sl 18) (.sl 19)), ql 21 5 true 20, qm 22 1, qo 23 (.call 80 [(.sl 21), (.sl 22)] []), qm 1 23]
 (qr [qm 24 1, qk 25 .lss 24 0]
 (qd 25 (qr [qi 4 (-1)]
 .ret) .skip))))
 (.reg [qm 16 5, qk 17 .add 16 1, qm 5 17] []))))))
 (qr [qm 26 1, qm 4 26]
 .ret))))) }
def F48 : CFn := { nt := 27, nk := 0, own := false, res := [.tmp 4], body := (
 qr [qc 4 (.bool false)]
 (.seq (qr [qm 6 0, qo 7 (.len (.sl 6)), qm 8 1, qo 9 (.len (.sl 8)), qb 10 .neq 7 9]
 (qd 10 (qr [qc 4 (.bool false)]
 .ret) .skip))
 (.seq (qr [qi 5 0]
 (.block 0 (.loop (.seq (qr [qm 11 5, qm 12 0, qo 13 (.len (.sl 12)), qb 14 .lss 11 13]
 (qd 14 .skip (.exit 0)))
 (.seq (.block 1 (qr [qm 17 0, qm 18 5, qo 19 (.iad 3 (.sl 17) (.sl 18)), ql 20 3 true 19, qm 21 1, qm 22 5, qo 23 (.iad 3 (.sl 21) (.sl 22)), ql 24 3 true 23, qo 25 (.call 93 [(.sl 20), (.sl 24)] []), qo 26 (.un .not (.sl 25))]
 (qd 26 (qr [qc 4 (.bool false)]
 .ret) .skip)))
 (.reg [qm 15 5, qk 16 .add 15 1, qm 5 16] []))))))
 (qr [qc 4 (.bool true)]
 .ret)))) }
def F49 : CFn := { nt := 27, nk := 0, own := false, res := [.tmp 4], body := (
 qr [qc 4 (.bool false)]
 (.seq (qr [qm 6 0, qo 7 (.len (.sl 6)), qm 8 1, qo 9 (.len (.sl 8)), qb 10 .neq 7 9]
 (qd 10 (qr [qc 4 (.bool false)]
 .ret) .skip))
 (.seq (qr [qi 5 0]
 (.block 0 (.loop (.seq (qr [qm 11 5, qm 12 0, qo 13 (.len (.sl 12)), qb 14 .lss 11 13]
 (qd 14 .skip (.exit 0)))
 (.seq (.block 1 (qr [qm 17 0, qm 18 5, qo 19 (.iad 5 (.sl 17) (.sl 18)), ql 20 5 true 19, qm 21 1, qm 22 5, qo 23 (.iad 5 (.sl 21) (.sl 22)), ql 24 5 true 23, qo 25 (.call 94 [(.sl 20), (.sl 24)] []), qo 26 (.un .not (.sl 25))]
 (qd 26 (qr [qc 4 (.bool false)]
 .ret) .skip)))
 (.reg [qm 15 5, qk 16 .add 15 1, qm 5 16] []))))))
 (qr [qc 4 (.bool true)]
 .ret)))) }
def F52 : CFn := { nt := 40, nk := 0, own := false, res := [.tmp 4], body := (
 qr [qi 4 0]
 (.seq (qr [qi 5 0]
 (.block 0 (.loop (.seq (qr [qm 6 5, qm 7 0, qo 8 (.len (.sl 7)), qb 9 .lss 6 8]
 (qd 9 .skip (.exit 0)))
 (.seq (.block 1 (.seq (qr [qm 12 0, qm 13 5, qo 14 (.iad 3 (.sl 12) (.sl 13)), qf 15 0 14, ql 16 1 false 15, qm 17 1, qb 18 .neq 16 17]
 (qd 18 (qr [qi 4 (-1)]
 .ret) .skip))
 (qr [qm 19 1, qk 20 .add 19 1, qm 1 20]
 (qr [qm 21 0, qm 22 5, qo 23 (.iad 3 (.sl 21) (.sl 22)), qf 24 1 23, ql 25 1 false 24, qm 26 1, qo 27 (.call 60 [(.sl 25), (.sl 26)] []), qm 1 27]
 (.seq (qr [qm 28 1, qk 29 .lss 28 0]
 (qd 29 (qr [qi 4 (-1)]
 .ret) .skip))
 (qr [qm 30 0, qm 31 5, qo 32 (.iad 3 (.sl 30) (.sl 31)), qf 33 2 32, ql 34 1 false 33, qm 35 1, qo 36 (.call 61 [(.sl 34), (.sl 35)] []), qm 1 36]
 (qr [qm 37 1, qk 38 .lss 37 0]
 (qd 38 (qr [qi 4 (-1)]
 .ret) .skip))))))))
 (.reg [qm 10 5, qk 11 .add 10 1, qm 5 11] []))))))
 (qr [qm 39 1, qm 4 39]
 .ret))) }
def F53 : CFn := { nt := 59, nk := 0, own := false, res := [.tmp 4], body := (
 qr [qi 4 0]
 (.seq (qr [qi 5 0]
 (.block 0 (.loop (.seq (qr [qm 6 5, qm 7 0, qo 8 (.len (.sl 7)), qb 9 .lss 6 8]
 (qd 9 .skip (.exit 0)))
 (.seq (.block 1 (.seq (qr [qm 12 0, qm 13 5, qo 14 (.iad 5 (.sl 12) (.sl 13)), qf 15 0 14, ql 16 1 false 15, qm 17 1, qb 18 .neq 16 17]
 (qd 18 (qr [qi 4 (-1)]
 .ret) .skip))
 (qr [qm 19 1, qk 20 .add 19 1, qm 1 20]
 (.seq (.seq (.reg [qm 21 0, qm 22 5, qo 23 (.iad 5 (.sl 21) (.sl 22)), qf 24 1 23, ql 25 1 false 24, qm 26 1, qo 27 (.call 59 [.sl 26] []), qb 28 .neq 25 27] [(4, 6)])
 (qd 28 (qr [qi 4 (-1)]
 .ret) .skip))
 (qr [qm 29 1, qk 30 .add 29 1, qm 1 30]
 (.seq (qr [qm 31 0, qm 32 5, qo 33 (.iad 5 (.sl 31) (.sl 32)), qf 34 2 33, ql 35 1 false 34, qm 36 1, qb 37 .neq 35 36]
 (qd 37 (qr [qi 4 (-1)]
 .ret) .skip))
 (qr [qm 38 1, qk 39 .add 38 1, qm 1 39]
 (.seq (qr [qm 40 0, qm 41 5, qo 42 (.iad 5 (.sl 40) (.sl 41)), qf 43 3 42, ql 44 1 false 43, qm 45 1, qb 46 .neq 44 45]
 (qd 46 (qr [qi 4 (-1)]
 .ret) .skip))
 (qr [qm 47 1, qk 48 .add 47 1, qm 1 48]
 (qr [qm 49 0, qm 50 5, qo 51 (.iad 5 (.sl 49) (.sl 50)), qf 52 4 51, ql 53 1 false 52, qm 54 1, qo 55 (.call 61 [(.sl 53), (.sl 54)] []), qm 1 55]
 (qr [qm 56 1, qk 57 .lss 56 0]
 (qd 57 (qr [qi 4 (-1)]
 .ret) .skip))))))))))))
 (.reg [qm 10 5, qk 11 .add 10 1, qm 5 11] []))))))
 (qr [qm 58 1, qm 4 58]
 .ret))) }
def F59 : CFn := { nt := 20, nk := 0, own := false, res := [.tmp 2], body := (
 qr [qc 2 (.str ⟨#[]⟩)]
 (.seq (qr [qm 4 0, qk 5 .leq 4 0]
 (qd 5 (qr [qc 2 (.str ⟨#[109, 48]⟩)]
 .ret) .skip))
 (qr [qc 3 (.str ⟨#[]⟩)]
 (.seq (.block 0 (.loop (.seq (qr [qm 6 0, qk 7 .gtr 6 0]
 (qd 7 .skip (.exit 0)))
 (.block 1 (qr [qm 8 0, qk 9 .rem 8 10, qo 10 (.bin .add (.k (.int .i64 48)) (.sl 9)), qo 11 (.toInt .u8 (.sl 10)), qo 12 (.bsl 5 1 [(.int .u8 0)] 1 [(0, 1, (.sl 11))]), qo 13 (.b2s (.sl 12)), qm 14 3, qb 15 .add 13 14, qm 3 15]
 (.reg [qm 16 0, qk 17 .quo 16 10, qm 0 17] []))))))
 (qr [qm 18 3, qo 19 (.bin .add (.k (.str ⟨#[109]⟩)) (.sl 18)), qm 2 19]
 .ret))))) }
def F60 : CFn := { nt := 22, nk := 0, own := false, res := [.tmp 4], body := (
 qr [qi 4 0]
 (.seq (qr [qi 5 0]
 (.block 0 (.loop (.seq (qr [qm 6 5, qm 7 0, qo 8 (.len (.sl 7)), qb 9 .lss 6 8]
 (qd 9 .skip (.exit 0)))
 (.seq (.block 1 (.seq (.seq (.reg [qm 12 0, qm 13 5, qo 14 (.iad 1 (.sl 12) (.sl 13)), ql 15 1 false 14, qm 16 1, qo 17 (.call 59 [.sl 16] []), qb 18 .neq 15 17] [(3, 5)])
 (qd 18 (qr [qi 4 (-1)]
 .ret) .skip))
 (.reg [qm 19 1, qk 20 .add 19 1, qm 1 20] [])))
 (.reg [qm 10 5, qk 11 .add 10 1, qm 5 11] []))))))
 (qr [qm 21 1, qm 4 21]
 .ret))) }
def F61 : CFn := { nt := 33, nk := 0, own := false, res := [.tmp 4], body := (
 qr [qi 4 0]
 (.seq (qr [qi 5 0]
 (.block 0 (.loop (.seq (qr [qm 6 5, qm 7 0, qo 8 (.len (.sl 7)), qb 9 .lss 6 8]
 (qd 9 .skip (.exit 0)))
 (.seq (.block 1 (.seq (.seq (.reg [qm 12 0, qm 13 5, qo 14 (.iad 2 (.sl 12) (.sl 13)), qf 15 0 14, ql 16 1 false 15, qm 17 1, qo 18 (.call 59 [.sl 17] []), qb 19 .neq 16 18] [(4, 6)])
 (qd 19 (qr [qi 4 (-1)]
 .ret) .skip))
 (qr [qm 20 1, qk 21 .add 20 1, qm 1 21]
 (.seq (.seq (.reg [qm 22 0, qm 23 5, qo 24 (.iad 2 (.sl 22) (.sl 23)), qf 25 1 24, ql 26 1 false 25, qm 27 1, qo 28 (.call 59 [.sl 27] []), qb 29 .neq 26 28] [(4, 6)])
 (qd 29 (qr [qi 4 (-1)]
 .ret) .skip))
 (.reg [qm 30 1, qk 31 .add 30 1, qm 1 31] [])))))
 (.reg [qm 10 5, qk 11 .add 10 1, qm 5 11] []))))))
 (qr [qm 32 1, qm 4 32]
 .ret))) }
def F79 : CFn := { nt := 18, nk := 0, own := false, res := [.tmp 4], body := (
 qr [qo 2 (.box 3 (.sl 0)), qi 4 0]
 (qr [qf 5 1 2, ql 6 1 false 5, qm 7 1, qo 8 (.call 116 [(.sl 6), (.sl 7)] []), qm 1 8]
 (.seq (qr [qm 9 1, qk 10 .lss 9 0]
 (qd 10 (qr [qi 4 (-1)]
 .ret) .skip))
 (qr [qf 11 2 2, ql 12 1 false 11, qm 13 1, qo 14 (.call 117 [(.sl 12), (.sl 13)] []), qm 1 14]
 (.seq (qr [qm 15 1, qk 16 .lss 15 0]
 (qd 16 (qr [qi 4 (-1)]
 .ret) .skip))
 (qr [qm 17 1, qm 4 17]
 .ret)))))) }
def F80 : CFn := { nt := 19, nk := 0, own := false, res := [.tmp 4], body := (
 qr [qo 2 (.box 5 (.sl 0)), qi 4 0]
 (qr [qm 5 1, qf 6 1 2, ql 7 1 false 6, qo 8 (.slen (.sl 7)), qb 9 .sub 5 8, qm 1 9]
 (.seq (qr [qm 10 1, qk 11 .lss 10 0]
 (qd 11 (qr [qi 4 (-1)]
 .ret) .skip))
 (qr [qf 12 4 2, ql 13 1 false 12, qm 14 1, qo 15 (.call 117 [(.sl 13), (.sl 14)] []), qm 1 15]
 (.seq (qr [qm 16 1, qk 17 .lss 16 0]
 (qd 17 (qr [qi 4 (-1)]
 .ret) .skip))
 (qr [qm 18 1, qm 4 18]
 .ret)))))) }
def F93 : CFn := { nt := 22, nk := 0, own := false, res := [.tmp 4], body := (
 qr [qo 2 (.box 3 (.sl 0)), qo 3 (.box 3 (.sl 1)), qc 4 (.bool false)]
 (.seq (qr [qf 5 0 2, ql 6 1 false 5, qf 7 0 3, ql 8 1 false 7, qb 9 .neq 6 8]
 (qd 9 (qr [qc 4 (.bool false)]
 .ret) .skip))
 (.seq (qr [qf 10 1 2, ql 11 1 false 10, qf 12 1 3, ql 13 1 false 12, qo 14 (.call 129 [(.sl 11), (.sl 13)] []), qo 15 (.un .not (.sl 14))]
 (qd 15 (qr [qc 4 (.bool false)]
 .ret) .skip))
 (.seq (qr [qf 16 2 2, ql 17 1 false 16, qf 18 2 3, ql 19 1 false 18, qo 20 (.call 130 [(.sl 17), (.sl 19)] []), qo 21 (.un .not (.sl 20))]
 (qd 21 (qr [qc 4 (.bool false)]
 .ret) .skip))
 (qr [qc 4 (.bool true)]
 .ret))))) }
def F94 : CFn := { nt := 31, nk := 0, own := false, res := [.tmp 4], body := (
 qr [qo 2 (.box 5 (.sl 0)), qo 3 (.box 5 (.sl 1)), qc 4 (.bool false)]
 (.seq (qr [qf 5 0 2, ql 6 1 false 5, qf 7 0 3, ql 8 1 false 7, qb 9 .neq 6 8]
 (qd 9 (qr [qc 4 (.bool false)]
 .ret) .skip))
 (.seq (qr [qf 10 1 2, ql 11 1 false 10, qf 12 1 3, ql 13 1 false 12, qb 14 .neq 11 13]
 (qd 14 (qr [qc 4 (.bool false)]
 .ret) .skip))
 (.seq (qr [qf 15 2 2, ql 16 1 false 15, qf 17 2 3, ql 18 1 false 17, qb 19 .neq 16 18]
 (qd 19 (qr [qc 4 (.bool false)]
 .ret) .skip))
 (.seq (qr [qf 20 3 2, ql 21 1 false 20, qf 22 3 3, ql 23 1 false 22, qb 24 .neq 21 23]
 (qd 24 (qr [qc 4 (.bool false)]
 .ret) .skip))
 (.seq (qr [qf 25 4 2, ql 26 1 false 25, qf 27 4 3, ql 28 1 false 27, qo 29 (.call 130 [(.sl 26), (.sl 28)] []), qo 30 (.un .not (.sl 29))]
 (qd 30 (qr [qc 4 (.bool false)]
 .ret) .skip))
 (qr [qc 4 (.bool true)]
 .ret))))))) }
def F116 : CFn := { nt := 28, nk := 0, own := false, res := [.tmp 4], body := (
 qr [qi 4 0]
 (qr [qm 6 1, qm 7 0, qo 8 (.len (.sl 7)), qb 9 .sub 6 8, qm 1 9]
 (.seq (qr [qm 10 1, qk 11 .lss 10 0]
 (qd 11 (qr [qi 4 (-1)]
 .ret) .skip))
 (.seq (qr [qi 5 0]
 (.block 0 (.loop (.seq (qr [qm 12 5, qm 13 0, qo 14 (.len (.sl 13)), qb 15 .lss 12 14]
 (qd 15 .skip (.exit 0)))
 (.seq (.block 1 (qr [qm 18 1, qm 19 0, qm 20 5, qo 21 (.iad 1 (.sl 19) (.sl 20)), ql 22 1 false 21, qo 23 (.slen (.sl 22)), qb 24 .sub 18 23, qm 1 24]
 (qr [qm 25 1, qk 26 .lss 25 0]
 (qd 26 (qr [qi 4 (-1)]
 .ret) .skip))))
 (.reg [qm 16 5, qk 17 .add 16 1, qm 5 17] []))))))
 (qr [qm 27 1, qm 4 27]
 .ret))))) }
def F117 : CFn := { nt := 27, nk := 0, own := false, res := [.tmp 4], body := (
 qr [qi 4 0]
 (qr [qm 6 1, qm 7 0, qo 8 (.len (.sl 7)), qb 9 .sub 6 8, qm 1 9]
 (.seq (qr [qm 10 1, qk 11 .lss 10 0]
 (qd 11 (qr [qi 4 (-1)]
 .ret) .skip))
 (.seq (qr [qi 5 0]
 (.block 0 (.loop (.seq (qr [qm 12 5, qm 13 0, qo 14 (.len (.sl 13)), qb 15 .lss 12 14]
 (qd 15 .skip (.exit 0)))
 (.seq (.block 1 (qr [qm 18 0, qm 19 5, qo 20 (.iad 2 (.sl 18) (.sl 19)), ql 21 2 true 20, qm 22 1, qo 23 (.call 165 [(.sl 21), (.sl 22)] []), qm 1 23]
 (qr [qm 24 1, qk 25 .lss 24 0]
 (qd 25 (qr [qi 4 (-1)]
 .ret) .skip))))
 (.reg [qm 16 5, qk 17 .add 16 1, qm 5 17] []))))))
 (qr [qm 26 1, qm 4 26]
 .ret))))) }
def F129 : CFn := { nt := 26, nk := 0, own := false, res := [.tmp 4], body := (
 qr [qc 4 (.bool false)]
 (.seq (qr [qm 6 0, qo 7 (.len (.sl 6)), qm 8 1, qo 9 (.len (.sl 8)), qb 10 .neq 7 9]
 (qd 10 (qr [qc 4 (.bool false)]
 .ret) .skip))
 (.seq (qr [qi 5 0]
 (.block 0 (.loop (.seq (qr [qm 11 5, qm 12 0, qo 13 (.len (.sl 12)), qb 14 .lss 11 13]
 (qd 14 .skip (.exit 0)))
 (.seq (.block 1 (qr [qm 17 0, qm 18 5, qo 19 (.iad 1 (.sl 17) (.sl 18)), ql 20 1 false 19, qm 21 1, qm 22 5, qo 23 (.iad 1 (.sl 21) (.sl 22)), ql 24 1 false 23, qb 25 .neq 20 24]
 (qd 25 (qr [qc 4 (.bool false)]
 .ret) .skip)))
 (.reg [qm 15 5, qk 16 .add 15 1, qm 5 16] []))))))
 (qr [qc 4 (.bool true)]
 .ret)))) }
def F130 : CFn := { nt := 27, nk := 0, own := false, res := [.tmp 4], body := (
 qr [qc 4 (.bool false)]
 (.seq (qr [qm 6 0, qo 7 (.len (.sl 6)), qm 8 1, qo 9 (.len (.sl 8)), qb 10 .neq 7 9]
 (qd 10 (qr [qc 4 (.bool false)]
 .ret) .skip))
 (.seq (qr [qi 5 0]
 (.block 0 (.loop (.seq (qr [qm 11 5, qm 12 0, qo 13 (.len (.sl 12)), qb 14 .lss 11 13]
 (qd 14 .skip (.exit 0)))
 (.seq (.block 1 (qr [qm 17 0, qm 18 5, qo 19 (.iad 2 (.sl 17) (.sl 18)), ql 20 2 true 19, qm 21 1, qm 22 5, qo 23 (.iad 2 (.sl 21) (.sl 22)), ql 24 2 true 23, qo 25 (.call 176 [(.sl 20), (.sl 24)] []), qo 26 (.un .not (.sl 25))]
 (qd 26 (qr [qc 4 (.bool false)]
 .ret) .skip)))
 (.reg [qm 15 5, qk 16 .add 15 1, qm 5 16] []))))))
 (qr [qc 4 (.bool true)]
 .ret)))) }
def F165 : CFn := { nt := 20, nk := 0, own := false, res := [.tmp 4], body := (
 qr [qo 2 (.box 2 (.sl 0)), qi 4 0]
 (qr [qm 5 1, qf 6 0 2, ql 7 1 false 6, qo 8 (.slen (.sl 7)), qb 9 .sub 5 8, qm 1 9]
 (.seq (qr [qm 10 1, qk 11 .lss 10 0]
 (qd 11 (qr [qi 4 (-1)]
 .ret) .skip))
 (qr [qm 12 1, qf 13 1 2, ql 14 1 false 13, qo 15 (.slen (.sl 14)), qb 16 .sub 12 15, qm 1 16]
 (.seq (qr [qm 17 1, qk 18 .lss 17 0]
 (qd 18 (qr [qi 4 (-1)]
 .ret) .skip))
 (qr [qm 19 1, qm 4 19]
 .ret)))))) }
def F176 : CFn := { nt := 15, nk := 0, own := false, res := [.tmp 4], body := (
 qr [qo 2 (.box 2 (.sl 0)), qo 3 (.box 2 (.sl 1)), qc 4 (.bool false)]
 (.seq (qr [qf 5 0 2, ql 6 1 false 5, qf 7 0 3, ql 8 1 false 7, qb 9 .neq 6 8]
 (qd 9 (qr [qc 4 (.bool false)]
 .ret) .skip))
 (.seq (qr [qf 10 1 2, ql 11 1 false 10, qf 12 1 3, ql 13 1 false 12, qb 14 .neq 11 13]
 (qd 14 (qr [qc 4 (.bool false)]
 .ret) .skip))
 (qr [qc 4 (.bool true)]
 .ret)))) }
def F9 : CFn := { nt := 112, nk := 0, own := false, res := [.tmp 4], body := (
 qr [qo 2 (.box 2 (.sl 0)), qc 4 qN]
 (qr [qo 10 (.bsl 32 2 [qN, qN] 0 []), qm 5 10]
 (.seq (qr [ql 11 2 true 2, qo 12 (.call 40 [.sl 11] []), qk 13 .neq 12 0, qm 14 13, ⟨(some (14, false)), (some 15), .mv (.sl 1)⟩, ⟨(some (14, false)), (some 16), .bin .lss (.sl 15) (.k (.int .i64 1))⟩, qo 17 (.pick (.sl 14) (.k (.bool true)) (.sl 16)), qm 18 17, ⟨(some (18, false)), (some 19), .mv (.sl 1)⟩, ⟨(some (18, false)), (some 20), .bin .gtr (.sl 19) (.k (.int .i64 8))⟩, qo 21 (.pick (.sl 18) (.k (.bool true)) (.sl 20))]
 (qd 21 (qr [qm 22 5, qm 4 22]
 .ret) .skip))
 (.seq (qr [qi 6 0]
 (.block 0 (.loop (.seq (qr [qm 23 6, qm 24 1, qb 25 .lss 23 24]
 (qd 25 .skip (.exit 0)))
 (.seq (.block 1 (qr [qo 28 (.build [qN, qN] []), qo 7 (.alloc [qN, qN]), qe (.store 2 (.sl 7) (.sl 28))]
 (.seq (qr [qi 8 0]
 (.block 2 (.loop (.seq (qr [qm 29 8, qf 30 1 2, ql 31 1 false 30, qo 32 (.len (.sl 31)), qb 33 .lss 29 32]
 (qd 33 .skip (.exit 2)))
 (.seq (.block 3 (qr [qf 36 1 2, ql 37 1 false 36, qm 38 8, qo 39 (.iad 5 (.sl 37) (.sl 38)), qf 40 2 39, ql 41 1 false 40, qm 42 1, qb 43 .rem 41 42, qm 44 6, qb 45 .eql 43 44]
 (qd 45 (.reg [qf 46 1 7, ql 47 1 false 46, qf 48 1 2, ql 49 1 false 48, qm 50 8, qo 51 (.iad 5 (.sl 49) (.sl 50)), ql 52 5 true 51, qo 53 (.call 41 [.sl 52] []), qo 54 (.bsl 68 5 [(.int .i64 0), (.str ⟨#[]⟩), (.int .i64 0), (.int .i64 0), qN] 1 [(0, 5, (.sl 53))]), qo 55 (.app 68 5 64 (.sl 47) (.sl 54)), qf 56 1 7, qe (.store 1 (.sl 56) (.sl 55))] [(1, 7)]) .skip)))
 (.reg [qm 34 8, qk 35 .add 34 1, qm 8 35] []))))))
 (.seq (qr [qi 9 0]
 (.block 4 (.loop (.seq (qr [qm 57 9, qf 58 0 2, ql 59 1 false 58, qo 60 (.len (.sl 59)), qb 61 .lss 57 60]
 (qd 61 .skip (.exit 4)))
 (.seq (.block 5 (qr [qf 64 0 2, ql 65 1 false 64, qm 66 9, qo 67 (.iad 3 (.sl 65) (.sl 66)), qf 68 0 67, ql 69 1 false 68, qm 70 1, qb 71 .rem 69 70, qm 72 6, qb 73 .eql 71 72]
 (qd 73 (.reg [qf 74 0 7, ql 75 1 false 74, qf 76 0 2, ql 77 1 false 76, qm 78 9, qo 79 (.iad 3 (.sl 77) (.sl 78)), ql 80 3 true 79, qo 81 (.call 42 [.sl 80] []), qo 82 (.bsl 72 3 [(.int .i64 0), qN, qN] 1 [(0, 3, (.sl 81))]), qo 83 (.app 72 3 56 (.sl 75) (.sl 82)), qf 84 0 7, qe (.store 1 (.sl 84) (.sl 83))] [(1, 7)]) (qr [ql 85 2 true 7, qf 86 0 2, ql 87 1 false 86, qm 88 9, qo 89 (.iad 3 (.sl 87) (.sl 88)), qf 90 0 89, ql 91 1 false 90, qo 92 (.call 43 [(.sl 85), (.sl 91), (.k (.bool false))] []), qo 93 (.len (.sl 92)), qk 94 .gtr 93 0]
 (qd 94 (.reg [qf 95 0 7, ql 96 1 false 95, qf 97 0 2, ql 98 1 false 97, qm 99 9, qo 100 (.iad 3 (.sl 98) (.sl 99)), qf 101 0 100, ql 102 1 false 101, qo 103 (.build [(.int .i64 0), qN, qN] [(0, 1, (.sl 102))]), qo 104 (.bsl 72 3 [(.int .i64 0), qN, qN] 1 [(0, 3, (.sl 103))]), qo 105 (.app 72 3 56 (.sl 96) (.sl 104)), qf 106 0 7, qe (.store 1 (.sl 106) (.sl 105))] []) .skip)))))
 (.reg [qm 62 9, qk 63 .add 62 1, qm 9 63] []))))))
 (.reg [qm 107 5, ql 108 2 true 7, qo 109 (.bsl 32 2 [qN, qN] 1 [(0, 2, (.sl 108))]), qo 110 (.app 32 2 48 (.sl 107) (.sl 109)), qm 5 110] [])))))
 (.reg [qm 26 6, qk 27 .add 26 1, qm 6 27] []))))))
 (qr [qm 111 5, qm 4 111]
 .ret))))) }
def F40 : CFn := { nt := 95, nk := 0, own := false, res := [.tmp 2], body := (
 qr [qo 1 (.box 2 (.sl 0)), qi 2 0]
 (.seq (qr [qf 6 0 1, ql 7 1 false 6, qo 8 (.len (.sl 7)), qk 9 .gtr 8 200, qm 10 9, ⟨(some (10, false)), (some 11), .fad 1 (.sl 1)⟩, ⟨(some (10, false)), (some 12), .load 1 false (.sl 11)⟩, ⟨(some (10, false)), (some 13), .len (.sl 12)⟩, ⟨(some (10, false)), (some 14), .bin .gtr (.sl 13) (.k (.int .i64 400))⟩, qo 15 (.pick (.sl 10) (.k (.bool true)) (.sl 14))]
 (qd 15 (qr [qi 2 1]
 .ret) .skip))
 (.seq (qr [qi 3 0]
 (.block 0 (.loop (.seq (qr [qm 16 3, qf 17 0 1, ql 18 1 false 17, qo 19 (.len (.sl 18)), qb 20 .lss 16 19]
 (qd 20 .skip (.exit 0)))
 (.seq (.block 1 (qr [qf 23 0 1, ql 24 1 false 23, qm 25 3, qo 26 (.iad 3 (.sl 24) (.sl 25)), ql 27 3 true 26, qo 28 (.call 81 [.sl 27] []), qo 29 (.un .not (.sl 28)), qm 30 29, ⟨(some (30, false)), (some 31), .mv (.sl 3)⟩, ⟨(some (30, false)), (some 32), .bin .gtr (.sl 31) (.k (.int .i64 0))⟩, ⟨(some (30, false)), (some 33), .mv (.sl 32)⟩, ⟨(some (33, true)), (some 34), .fad 0 (.sl 1)⟩, ⟨(some (33, true)), (some 35), .load 1 false (.sl 34)⟩, ⟨(some (33, true)), (some 36), .mv (.sl 3)⟩, ⟨(some (33, true)), (some 37), .bin .sub (.sl 36) (.k (.int .i64 1))⟩, ⟨(some (33, true)), (some 38), .iad 3 (.sl 35) (.sl 37)⟩, ⟨(some (33, true)), (some 39), .fad 0 (.sl 38)⟩, ⟨(some (33, true)), (some 40), .load 1 false (.sl 39)⟩, ⟨(some (33, true)), (some 41), .fad 0 (.sl 1)⟩, ⟨(some (33, true)), (some 42), .load 1 false (.sl 41)⟩, ⟨(some (33, true)), (some 43), .mv (.sl 3)⟩, ⟨(some (33, true)), (some 44), .iad 3 (.sl 42) (.sl 43)⟩, ⟨(some (33, true)), (some 45), .fad 0 (.sl 44)⟩, ⟨(some (33, true)), (some 46), .load 1 false (.sl 45)⟩, ⟨(some (33, true)), (some 47), .bin .geq (.sl 40) (.sl 46)⟩, ⟨(some (30, false)), (some 48), .pick (.sl 33) (.sl 47) (.k (.bool false))⟩, qo 49 (.pick (.sl 30) (.k (.bool true)) (.sl 48))]
 (qd 49 (qr [qi 2 1]
 .ret) .skip)))
 (.reg [qm 21 3, qk 22 .add 21 1, qm 3 22] []))))))
 (.seq (qr [qi 4 0]
 (.block 2 (.loop (.seq (qr [qm 50 4, qf 51 1 1, ql 52 1 false 51, qo 53 (.len (.sl 52)), qb 54 .lss 50 53]
 (qd 54 .skip (.exit 2)))
 (.seq (.block 3 (qr [qf 57 1 1, ql 58 1 false 57, qm 59 4, qo 60 (.iad 5 (.sl 58) (.sl 59)), ql 61 5 true 60, qo 5 (.alloc [(.int .i64 0), (.str ⟨#[]⟩), (.int .i64 0), (.int .i64 0), qN]), qe (.store 5 (.sl 5) (.sl 61))]
 (qr [ql 62 5 true 5, qo 63 (.call 82 [.sl 62] []), qo 64 (.un .not (.sl 63)), qm 65 64, ⟨(some (65, false)), (some 66), .mv (.sl 4)⟩, ⟨(some (65, false)), (some 67), .bin .gtr (.sl 66) (.k (.int .i64 0))⟩, ⟨(some (65, false)), (some 68), .mv (.sl 67)⟩, ⟨(some (68, true)), (some 69), .fad 1 (.sl 1)⟩, ⟨(some (68, true)), (some 70), .load 1 false (.sl 69)⟩, ⟨(some (68, true)), (some 71), .mv (.sl 4)⟩, ⟨(some (68, true)), (some 72), .bin .sub (.sl 71) (.k (.int .i64 1))⟩, ⟨(some (68, true)), (some 73), .iad 5 (.sl 70) (.sl 72)⟩, ⟨(some (68, true)), (some 74), .fad 0 (.sl 73)⟩, ⟨(some (68, true)), (some 75), .load 1 false (.sl 74)⟩, ⟨(some (68, true)), (some 76), .fad 0 (.sl 5)⟩, ⟨(some (68, true)), (some 77), .load 1 false (.sl 76)⟩, ⟨(some (68, true)), (some 78), .bin .geq (.sl 75) (.sl 77)⟩, ⟨(some (65, false)), (some 79), .pick (.sl 68) (.sl 78) (.k (.bool false))⟩, qo 80 (.pick (.sl 65) (.k (.bool true)) (.sl 79)), qm 81 80, ⟨(some (81, false)), (some 82), .load 2 true (.sl 1)⟩, ⟨(some (81, false)), (some 83), .fad 2 (.sl 5)⟩, ⟨(some (81, false)), (some 84), .load 1 false (.sl 83)⟩, ⟨(some (81, false)), (some 85), .call 83 [(.sl 82), (.sl 84)] []⟩, ⟨(some (81, false)), (some 86), .bin .lss (.sl 85) (.k (.int .i64 0))⟩, qo 87 (.pick (.sl 81) (.k (.bool true)) (.sl 86)), qm 88 87, ⟨(some (88, false)), (some 89), .load 2 true (.sl 1)⟩, ⟨(some (88, false)), (some 90), .fad 3 (.sl 5)⟩, ⟨(some (88, false)), (some 91), .load 1 false (.sl 90)⟩, ⟨(some (88, false)), (some 92), .call 83 [(.sl 89), (.sl 91)] []⟩, ⟨(some (88, false)), (some 93), .bin .lss (.sl 92) (.k (.int .i64 0))⟩, qo 94 (.pick (.sl 88) (.k (.bool true)) (.sl 93))]
 (qd 94 (qr [qi 2 1]
 .ret) .skip))))
 (.reg [qm 55 4, qk 56 .add 55 1, qm 4 56] []))))))
 (qr [qi 2 0]
 .ret))))) }
def F41 : CFn := { nt := 8, nk := 0, own := false, res := [.cell 2 5 true], body := (
 qr [qo 1 (.box 5 (.sl 0)), qo 2 (.alloc [(.int .i64 0), (.str ⟨#[]⟩), (.int .i64 0), (.int .i64 0), qN])]
 (qr [qf 3 4 1, ql 4 1 false 3, qo 5 (.call 84 [.sl 4] []), qf 6 4 1, qe (.store 1 (.sl 6) (.sl 5))]
 (qr [ql 7 5 true 1, qe (.store 5 (.sl 2) (.sl 7))]
 .ret))) }
def F42 : CFn := { nt := 12, nk := 0, own := false, res := [.cell 2 3 true], body := (
 qr [qo 1 (.box 3 (.sl 0)), qo 2 (.alloc [(.int .i64 0), qN, qN])]
 (.seq (.reg [qf 3 0 1, ql 4 1 false 3, qf 5 1 1, ql 6 1 false 5, qo 7 (.call 85 [.sl 6] []), qf 8 2 1, ql 9 1 false 8, qo 10 (.call 84 [.sl 9] []), qo 11 (.build [(.int .i64 0), qN, qN] [(0, 1, (.sl 4)), (1, 1, (.sl 7)), (2, 1, (.sl 10))]), qe (.store 3 (.sl 2) (.sl 11))] [(1, 4), (4, 6), (1, 7)])
 .ret)) }
def F43 : CFn := { nt := 52, nk := 0, own := false, res := [.tmp 6], body := (
 qr [qo 3 (.box 2 (.sl 0)), qc 6 qN]
 (qr [qo 9 (.bsl 2 1 [(.int .i64 0)] 0 []), qm 7 9]
 (.seq (qr [qi 8 0]
 (.block 0 (.loop (.seq (qr [qm 10 8, qf 11 1 3, ql 12 1 false 11, qo 13 (.len (.sl 12)), qb 14 .lss 10 13]
 (qd 14 .skip (.exit 0)))
 (.seq (.block 1 (qr [qm 17 2, qm 18 17, ⟨(some (18, true)), (some 19), .fad 1 (.sl 3)⟩, ⟨(some (18, true)), (some 20), .load 1 false (.sl 19)⟩, ⟨(some (18, true)), (some 21), .mv (.sl 8)⟩, ⟨(some (18, true)), (some 22), .iad 5 (.sl 20) (.sl 21)⟩, ⟨(some (18, true)), (some 23), .fad 2 (.sl 22)⟩, ⟨(some (18, true)), (some 24), .load 1 false (.sl 23)⟩, ⟨(some (18, true)), (some 25), .mv (.sl 1)⟩, ⟨(some (18, true)), (some 26), .bin .eql (.sl 24) (.sl 25)⟩, qo 27 (.pick (.sl 18) (.sl 26) (.k (.bool false))), qm 28 27, ⟨(some (28, false)), (some 29), .mv (.sl 2)⟩, ⟨(some (28, false)), (some 30), .un .not (.sl 29)⟩, ⟨(some (28, false)), (some 31), .mv (.sl 30)⟩, ⟨(some (31, true)), (some 32), .fad 1 (.sl 3)⟩, ⟨(some (31, true)), (some 33), .load 1 false (.sl 32)⟩, ⟨(some (31, true)), (some 34), .mv (.sl 8)⟩, ⟨(some (31, true)), (some 35), .iad 5 (.sl 33) (.sl 34)⟩, ⟨(some (31, true)), (some 36), .fad 3 (.sl 35)⟩, ⟨(some (31, true)), (some 37), .load 1 false (.sl 36)⟩, ⟨(some (31, true)), (some 38), .mv (.sl 1)⟩, ⟨(some (31, true)), (some 39), .bin .eql (.sl 37) (.sl 38)⟩, ⟨(some (28, false)), (some 40), .pick (.sl 31) (.sl 39) (.k (.bool false))⟩, qo 41 (.pick (.sl 28) (.k (.bool true)) (.sl 40))]
 (qd 41 (.reg [qm 42 7, qf 43 1 3, ql 44 1 false 43, qm 45 8, qo 46 (.iad 5 (.sl 44) (.sl 45)), qf 47 0 46, ql 48 1 false 47, qo 49 (.bsl 2 1 [(.int .i64 0)] 1 [(0, 1, (.sl 48))]), qo 50 (.app 2 1 8 (.sl 42) (.sl 49)), qm 7 50] []) .skip)))
 (.reg [qm 15 8, qk 16 .add 15 1, qm 8 16] []))))))
 (qr [qm 51 7, qm 6 51]
 .ret)))) }
def F81 : CFn := { nt := 16, nk := 0, own := false, res := [.tmp 2], body := (
 qr [qo 1 (.box 3 (.sl 0)), qc 2 (.bool false)]
 (qr [qf 3 0 1, ql 4 1 false 3, qo 5 (.call 118 [.sl 4] []), qm 6 5, ⟨(some (6, true)), (some 7), .fad 1 (.sl 1)⟩, ⟨(some (6, true)), (some 8), .load 1 false (.sl 7)⟩, ⟨(some (6, true)), (some 9), .call 119 [.sl 8] []⟩, qo 10 (.pick (.sl 6) (.sl 9) (.k (.bool false))), qm 11 10, ⟨(some (11, true)), (some 12), .fad 2 (.sl 1)⟩, ⟨(some (11, true)), (some 13), .load 1 false (.sl 12)⟩, ⟨(some (11, true)), (some 14), .call 120 [.sl 13] []⟩, qo 15 (.pick (.sl 11) (.sl 14) (.k (.bool false))), qm 2 15]
 .ret)) }
def F82 : CFn := { nt := 26, nk := 0, own := false, res := [.tmp 2], body := (
 qr [qo 1 (.box 5 (.sl 0)), qc 2 (.bool false)]
 (qr [qf 3 0 1, ql 4 1 false 3, qo 5 (.call 118 [.sl 4] []), qm 6 5, ⟨(some (6, true)), (some 7), .fad 1 (.sl 1)⟩, ⟨(some (6, true)), (some 8), .load 1 false (.sl 7)⟩, ⟨(some (6, true)), (some 9), .call 121 [.sl 8] []⟩, qo 10 (.pick (.sl 6) (.sl 9) (.k (.bool false))), qm 11 10, ⟨(some (11, true)), (some 12), .fad 2 (.sl 1)⟩, ⟨(some (11, true)), (some 13), .load 1 false (.sl 12)⟩, ⟨(some (11, true)), (some 14), .call 118 [.sl 13] []⟩, qo 15 (.pick (.sl 11) (.sl 14) (.k (.bool false))), qm 16 15, ⟨(some (16, true)), (some 17), .fad 3 (.sl 1)⟩, ⟨(some (16, true)), (some 18), .load 1 false (.sl 17)⟩, ⟨(some (16, true)), (some 19), .call 118 [.sl 18] []⟩, qo 20 (.pick (.sl 16) (.sl 19) (.k (.bool false))), qm 21 20, ⟨(some (21, true)), (some 22), .fad 4 (.sl 1)⟩, ⟨(some (21, true)), (some 23), .load 1 false (.sl 22)⟩, ⟨(some (21, true)), (some 24), .call 120 [.sl 23] []⟩, qo 25 (.pick (.sl 21) (.sl 24) (.k (.bool false))), qm 2 25]
 .ret)) }
def F83 : CFn := { nt := 22, nk := 0, own := false, res := [.tmp 4], body := (
 qr [qo 2 (.box 2 (.sl 0)), qi 4 0]
 (.seq (qr [qi 5 0]
 (.block 0 (.loop (.seq (qr [qm 6 5, qf 7 0 2, ql 8 1 false 7, qo 9 (.len (.sl 8)), qb 10 .lss 6 9]
 (qd 10 .skip (.exit 0)))
 (.seq (.block 1 (qr [qf 13 0 2, ql 14 1 false 13, qm 15 5, qo 16 (.iad 3 (.sl 14) (.sl 15)), qf 17 0 16, ql 18 1 false 17, qm 19 1, qb 20 .eql 18 19]
 (qd 20 (qr [qm 21 5, qm 4 21]
 .ret) .skip)))
 (.reg [qm 11 5, qk 12 .add 11 1, qm 5 12] []))))))
 (qr [qi 4 (-1)]
 .ret))) }
def F84 : CFn := { nt := 6, nk := 0, own := false, res := [.tmp 2], body := (
 qr [qc 2 qN]
 (qr [qo 3 (.bsl 133 2 [(.str ⟨#[]⟩), (.str ⟨#[]⟩)] 0 []), qm 4 0, qo 5 (.app 133 2 32 (.sl 3) (.sl 4)), qm 2 5]
 .ret)) }
def F85 : CFn := { nt := 6, nk := 0, own := false, res := [.tmp 2], body := (
 qr [qc 2 qN]
 (qr [qo 3 (.bsl 9 1 [(.str ⟨#[]⟩)] 0 []), qm 4 0, qo 5 (.app 9 1 16 (.sl 3) (.sl 4)), qm 2 5]
 .ret)) }
def F118 : CFn := { nt := 9, nk := 0, own := false, res := [.tmp 2], body := (
 qr [qc 2 (.bool false)]
 (qr [qm 3 0, qk 4 .geq 3 1, qm 5 4, ⟨(some (5, true)), (some 6), .mv (.sl 0)⟩, ⟨(some (5, true)), (some 7), .bin .leq (.sl 6) (.k (.int .i64 1000000000000))⟩, qo 8 (.pick (.sl 5) (.sl 7) (.k (.bool false))), qm 2 8]
 .ret)) }
def F119 : CFn := { nt := 24, nk := 0, own := false, res := [.tmp 2], body := (
 qr [qc 2 (.bool false)]
 (.seq (qr [qm 4 0, qo 5 (.len (.sl 4)), qk 6 .gtr 5 10, qm 7 6, ⟨(some (7, false)), (some 8), .mv (.sl 0)⟩, ⟨(some (7, false)), (some 9), .call 166 [.sl 8] []⟩, ⟨(some (7, false)), (some 10), .un .not (.sl 9)⟩, qo 11 (.pick (.sl 7) (.k (.bool true)) (.sl 10))]
 (qd 11 (qr [qc 2 (.bool false)]
 .ret) .skip))
 (.seq (qr [qi 3 0]
 (.block 0 (.loop (.seq (qr [qm 12 3, qm 13 0, qo 14 (.len (.sl 13)), qb 15 .lss 12 14]
 (qd 15 .skip (.exit 0)))
 (.seq (.block 1 (qr [qm 18 0, qm 19 3, qo 20 (.iad 1 (.sl 18) (.sl 19)), ql 21 1 false 20, qo 22 (.call 121 [.sl 21] []), qo 23 (.un .not (.sl 22))]
 (qd 23 (qr [qc 2 (.bool false)]
 .ret) .skip)))
 (.reg [qm 16 3, qk 17 .add 16 1, qm 3 17] []))))))
 (qr [qc 2 (.bool true)]
 .ret)))) }
def F120 : CFn := { nt := 47, nk := 0, own := false, res := [.tmp 2], body := (
 qr [qc 2 (.bool false)]
 (.seq (qr [qm 4 0, qo 5 (.len (.sl 4)), qk 6 .gtr 5 20]
 (qd 6 (qr [qc 2 (.bool false)]
 .ret) .skip))
 (.seq (qr [qi 3 0]
 (.block 0 (.loop (.seq (qr [qm 7 3, qm 8 0, qo 9 (.len (.sl 8)), qb 10 .lss 7 9]
 (qd 10 .skip (.exit 0)))
 (.seq (.block 1 (qr [qm 13 0, qm 14 3, qo 15 (.iad 2 (.sl 13) (.sl 14)), qf 16 0 15, ql 17 1 false 16, qo 18 (.call 121 [.sl 17] []), qo 19 (.un .not (.sl 18)), qm 20 19, ⟨(some (20, false)), (some 21), .mv (.sl 3)⟩, ⟨(some (20, false)), (some 22), .bin .gtr (.sl 21) (.k (.int .i64 0))⟩, ⟨(some (20, false)), (some 23), .mv (.sl 22)⟩, ⟨(some (23, true)), (some 24), .mv (.sl 0)⟩, ⟨(some (23, true)), (some 25), .mv (.sl 3)⟩, ⟨(some (23, true)), (some 26), .bin .sub (.sl 25) (.k (.int .i64 1))⟩, ⟨(some (23, true)), (some 27), .iad 2 (.sl 24) (.sl 26)⟩, ⟨(some (23, true)), (some 28), .fad 0 (.sl 27)⟩, ⟨(some (23, true)), (some 29), .load 1 false (.sl 28)⟩, ⟨(some (23, true)), (some 30), .mv (.sl 0)⟩, ⟨(some (23, true)), (some 31), .mv (.sl 3)⟩, ⟨(some (23, true)), (some 32), .iad 2 (.sl 30) (.sl 31)⟩, ⟨(some (23, true)), (some 33), .fad 0 (.sl 32)⟩, ⟨(some (23, true)), (some 34), .load 1 false (.sl 33)⟩, ⟨(some (23, true)), (some 35), .bin .geq (.sl 29) (.sl 34)⟩, ⟨(some (20, false)), (some 36), .pick (.sl 23) (.sl 35) (.k (.bool false))⟩, qo 37 (.pick (.sl 20) (.k (.bool true)) (.sl 36)), qm 38 37, ⟨(some (38, false)), (some 39), .mv (.sl 0)⟩, ⟨(some (38, false)), (some 40), .mv (.sl 3)⟩, ⟨(some (38, false)), (some 41), .iad 2 (.sl 39) (.sl 40)⟩, ⟨(some (38, false)), (some 42), .fad 1 (.sl 41)⟩, ⟨(some (38, false)), (some 43), .load 1 false (.sl 42)⟩, ⟨(some (38, false)), (some 44), .call 167 [.sl 43] []⟩, ⟨(some (38, false)), (some 45), .un .not (.sl 44)⟩, qo 46 (.pick (.sl 38) (.k (.bool true)) (.sl 45))]
 (qd 46 (qr [qc 2 (.bool false)]
 .ret) .skip)))
 (.reg [qm 11 3, qk 12 .add 11 1, qm 3 12] []))))))
 (qr [qc 2 (.bool true)]
 .ret)))) }
def F121 : CFn := { nt := 42, nk := 0, own := false, res := [.tmp 2], body := (
 qr [qc 2 (.bool false)]
 (.seq (qr [qm 4 0, qo 5 (.slen (.sl 4)), qk 6 .lss 5 1, qm 7 6, ⟨(some (7, false)), (some 8), .mv (.sl 0)⟩, ⟨(some (7, false)), (some 9), .slen (.sl 8)⟩, ⟨(some (7, false)), (some 10), .bin .gtr (.sl 9) (.k (.int .i64 20))⟩, qo 11 (.pick (.sl 7) (.k (.bool true)) (.sl 10)), qm 12 11, ⟨(some (12, false)), (some 13), .mv (.sl 0)⟩, ⟨(some (12, false)), (some 14), .sidx (.sl 13) (.k (.int .i64 0))⟩, ⟨(some (12, false)), (some 15), .call 168 [.sl 14] []⟩, ⟨(some (12, false)), (some 16), .un .not (.sl 15)⟩, qo 17 (.pick (.sl 12) (.k (.bool true)) (.sl 16))]
 (qd 17 (qr [qc 2 (.bool false)]
 .ret) .skip))
 (.seq (qr [qi 3 1]
 (.block 0 (.loop (.seq (qr [qm 18 3, qm 19 0, qo 20 (.slen (.sl 19)), qb 21 .lss 18 20]
 (qd 21 .skip (.exit 0)))
 (.seq (.block 1 (qr [qm 24 0, qm 25 3, qo 26 (.sidx (.sl 24) (.sl 25)), qo 27 (.call 168 [.sl 26] []), qo 28 (.un .not (.sl 27)), qm 29 28, ⟨(some (29, true)), (some 30), .mv (.sl 0)⟩, ⟨(some (29, true)), (some 31), .mv (.sl 3)⟩, ⟨(some (29, true)), (some 32), .sidx (.sl 30) (.sl 31)⟩, ⟨(some (29, true)), (some 33), .call 169 [.sl 32] []⟩, ⟨(some (29, true)), (some 34), .un .not (.sl 33)⟩, qo 35 (.pick (.sl 29) (.sl 34) (.k (.bool false))), qm 36 35, ⟨(some (36, true)), (some 37), .mv (.sl 0)⟩, ⟨(some (36, true)), (some 38), .mv (.sl 3)⟩, ⟨(some (36, true)), (some 39), .sidx (.sl 37) (.sl 38)⟩, ⟨(some (36, true)), (some 40), .bin .neq (.sl 39) (.k (.int .u8 95))⟩, qo 41 (.pick (.sl 36) (.sl 40) (.k (.bool false)))]
 (qd 41 (qr [qc 2 (.bool false)]
 .ret) .skip)))
 (.reg [qm 22 3, qk 23 .add 22 1, qm 3 23] []))))))
 (qr [qc 2 (.bool true)]
 .ret)))) }
def F166 : CFn := { nt := 20, nk := 0, own := false, res := [.tmp 2], body := (
 qr [qc 2 (.bool false)]
 (.seq (qr [qi 3 1]
 (.block 0 (.loop (.seq (qr [qm 4 3, qm 5 0, qo 6 (.len (.sl 5)), qb 7 .lss 4 6]
 (qd 7 .skip (.exit 0)))
 (.seq (.block 1 (qr [qm 10 0, qm 11 3, qk 12 .sub 11 1, qo 13 (.iad 1 (.sl 10) (.sl 12)), ql 14 1 false 13, qm 15 0, qm 16 3, qo 17 (.iad 1 (.sl 15) (.sl 16)), ql 18 1 false 17, qb 19 .geq 14 18]
 (qd 19 (qr [qc 2 (.bool false)]
 .ret) .skip)))
 (.reg [qm 8 3, qk 9 .add 8 1, qm 3 9] []))))))
 (qr [qc 2 (.bool true)]
 .ret))) }
def F167 : CFn := { nt := 13, nk := 0, own := false, res := [.tmp 2], body := (
 qr [qc 2 (.bool false)]
 (qr [qm 4 0, qo 5 (.call 186 [.sl 4] []), qo 3 (.alloc [(.int .i64 0), (.int .i64 0), (.int .i64 0), (.str ⟨#[]⟩), qN, qN]), qe (.store 6 (.sl 3) (.sl 5))]
 (qr [qf 6 0 3, ql 7 1 false 6, qk 8 .neq 7 0, qm 9 8, ⟨(some (9, true)), (some 10), .load 6 true (.sl 3)⟩, ⟨(some (9, true)), (some 11), .call 191 [.sl 10] []⟩, qo 12 (.pick (.sl 9) (.sl 11) (.k (.bool false))), qm 2 12]
 .ret))) }
def F168 : CFn := { nt := 17, nk := 0, own := false, res := [.tmp 2], body := (
 qr [qc 2 (.bool false)]
 (qr [qm 3 0, qo 4 (.bin .geq (.sl 3) (.k (.int .u8 97))), qm 5 4, ⟨(some (5, true)), (some 6), .mv (.sl 0)⟩, ⟨(some (5, true)), (some 7), .bin .leq (.sl 6) (.k (.int .u8 122))⟩, qo 8 (.pick (.sl 5) (.sl 7) (.k (.bool false))), qm 9 8, ⟨(some (9, false)), (some 10), .mv (.sl 0)⟩, ⟨(some (9, false)), (some 11), .bin .geq (.sl 10) (.k (.int .u8 65))⟩, ⟨(some (9, false)), (some 12), .mv (.sl 11)⟩, ⟨(some (12, true)), (some 13), .mv (.sl 0)⟩, ⟨(some (12, true)), (some 14), .bin .leq (.sl 13) (.k (.int .u8 90))⟩, ⟨(some (9, false)), (some 15), .pick (.sl 12) (.sl 14) (.k (.bool false))⟩, qo 16 (.pick (.sl 9) (.k (.bool true)) (.sl 15)), qm 2 16]
 .ret)) }
def F169 : CFn := { nt := 9, nk := 0, own := false, res := [.tmp 2], body := (
 qr [qc 2 (.bool false)]
 (qr [qm 3 0, qo 4 (.bin .geq (.sl 3) (.k (.int .u8 48))), qm 5 4, ⟨(some (5, true)), (some 6), .mv (.sl 0)⟩, ⟨(some (5, true)), (some 7), .bin .leq (.sl 6) (.k (.int .u8 57))⟩, qo 8 (.pick (.sl 5) (.sl 7) (.k (.bool false))), qm 2 8]
 .ret)) }
def F186 : CFn := { nt := 29, nk := 0, own := false, res := [.cell 2 6 true], body := (
 qr [qo 2 (.alloc [(.int .i64 0), (.int .i64 0), (.int .i64 0), (.str ⟨#[]⟩), qN, qN])]
 (.seq (qr [qm 5 0, qo 6 (.slen (.sl 5)), qk 7 .gtr 6 2000]
 (qd 7 (qr [qo 8 (.build [(.int .i64 0), (.int .i64 0), (.int .i64 0), (.str ⟨#[]⟩), qN, qN] [(0, 1, (.k (.int .i64 (-1))))]), qe (.store 6 (.sl 2) (.sl 8))]
 .ret) .skip))
 (qr [qm 9 0, qo 10 (.build [(.str ⟨#[]⟩), (.int .i64 0), (.bool false)] [(0, 1, (.sl 9))]), qo 11 (.box 3 (.sl 10)), qm 3 11]
 (qr [qm 12 3, qo 13 (.call 200 [(.sl 12), (.k (.int .i64 0))] []), qo 4 (.alloc [(.int .i64 0), (.int .i64 0), (.int .i64 0), (.str ⟨#[]⟩), qN, qN]), qe (.store 6 (.sl 4) (.sl 13))]
 (.seq (qr [qm 14 3, qo 15 (.nck (.sl 14)), qf 16 2 15, ql 17 1 false 16, qm 18 17, ⟨(some (18, false)), (some 19), .mv (.sl 3)⟩, ⟨(some (18, false)), (some 20), .nck (.sl 19)⟩, ⟨(some (18, false)), (some 21), .fad 1 (.sl 20)⟩, ⟨(some (18, false)), (some 22), .load 1 false (.sl 21)⟩, ⟨(some (18, false)), (some 23), .mv (.sl 0)⟩, ⟨(some (18, false)), (some 24), .slen (.sl 23)⟩, ⟨(some (18, false)), (some 25), .bin .neq (.sl 22) (.sl 24)⟩, qo 26 (.pick (.sl 18) (.k (.bool true)) (.sl 25))]
 (qd 26 (qr [qo 27 (.build [(.int .i64 0), (.int .i64 0), (.int .i64 0), (.str ⟨#[]⟩), qN, qN] [(0, 1, (.k (.int .i64 (-1))))]), qe (.store 6 (.sl 2) (.sl 27))]
 .ret) .skip))
 (qr [ql 28 6 true 4, qe (.store 6 (.sl 2) (.sl 28))]
 .ret)))))) }
def F191 : CFn := { nt := 35, nk := 0, own := false, res := [.tmp 2], body := (
 qr [qo 1 (.box 6 (.sl 0)), qc 2 (.bool false)]
 (.seq (qr [qf 4 0 1, ql 5 1 false 4, qk 6 .lss 5 0, qm 7 6, ⟨(some (7, false)), (some 8), .fad 0 (.sl 1)⟩, ⟨(some (7, false)), (some 9), .load 1 false (.sl 8)⟩, ⟨(some (7, false)), (some 10), .bin .geq (.sl 9) (.k (.int .i64 8))⟩, qo 11 (.pick (.sl 7) (.k (.bool true)) (.sl 10))]
 (qd 11 (qr [qc 2 (.bool false)]
 .ret) .skip))
 (.seq (qr [qi 3 0]
 (.block 0 (.loop (.seq (qr [qm 12 3, qf 13 4 1, ql 14 1 false 13, qo 15 (.len (.sl 14)), qb 16 .lss 12 15]
 (qd 16 .skip (.exit 0)))
 (.seq (.block 1 (qr [qf 19 4 1, ql 20 1 false 19, qm 21 3, qo 22 (.iad 6 (.sl 20) (.sl 21)), qf 23 0 22, ql 24 1 false 23, qk 25 .neq 24 0, qm 26 25, ⟨(some (26, true)), (some 27), .fad 4 (.sl 1)⟩, ⟨(some (26, true)), (some 28), .load 1 false (.sl 27)⟩, ⟨(some (26, true)), (some 29), .mv (.sl 3)⟩, ⟨(some (26, true)), (some 30), .iad 6 (.sl 28) (.sl 29)⟩, ⟨(some (26, true)), (some 31), .load 6 true (.sl 30)⟩, ⟨(some (26, true)), (some 32), .call 191 [.sl 31] []⟩, ⟨(some (26, true)), (some 33), .un .not (.sl 32)⟩, qo 34 (.pick (.sl 26) (.sl 33) (.k (.bool false)))]
 (qd 34 (qr [qc 2 (.bool false)]
 .ret) .skip)))
 (.reg [qm 17 3, qk 18 .add 17 1, qm 3 18] []))))))
 (qr [qc 2 (.bool true)]
 .ret)))) }
def F200 : CFn := { nt := 135, nk := 1, own := false, res := [.cell 4 6 true], body := (
 qr [qo 4 (.alloc [(.int .i64 0), (.int .i64 0), (.int .i64 0), (.str ⟨#[]⟩), qN, qN])]
 (.seq (qr [qm 7 0, qo 8 (.nck (.sl 7)), qf 9 2 8, ql 10 1 false 9, qm 11 10, ⟨(some (11, false)), (some 12), .mv (.sl 0)⟩, ⟨(some (11, false)), (some 13), .nck (.sl 12)⟩, ⟨(some (11, false)), (some 14), .fad 1 (.sl 13)⟩, ⟨(some (11, false)), (some 15), .load 1 false (.sl 14)⟩, ⟨(some (11, false)), (some 16), .mv (.sl 0)⟩, ⟨(some (11, false)), (some 17), .nck (.sl 16)⟩, ⟨(some (11, false)), (some 18), .fad 0 (.sl 17)⟩, ⟨(some (11, false)), (some 19), .load 1 false (.sl 18)⟩, ⟨(some (11, false)), (some 20), .slen (.sl 19)⟩, ⟨(some (11, false)), (some 21), .bin .geq (.sl 15) (.sl 20)⟩, qo 22 (.pick (.sl 11) (.k (.bool true)) (.sl 21))]
 (qd 22 (qr [qm 23 0, qo 24 (.call 209 [.sl 23] []), qe (.store 6 (.sl 4) (.sl 24))]
 .ret) .skip))
 (.seq (.block 0 (qr [qm 26 0, qo 27 (.call 210 [(.sl 26), (.k (.str ⟨#[110, 117, 108, 108]⟩))] []), qm 25 27]
 (qd 25 (qr [qo 28 (.build [(.int .i64 0), (.int .i64 0), (.int .i64 0), (.str ⟨#[]⟩), qN, qN] []), qe (.store 6 (.sl 4) (.sl 28))]
 .ret) (qr [qm 30 0, qo 31 (.call 210 [(.sl 30), (.k (.str ⟨#[116, 114, 117, 101]⟩))] []), qm 29 31]
 (qd 29 (qr [qo 32 (.build [(.int .i64 0), (.int .i64 0), (.int .i64 0), (.str ⟨#[]⟩), qN, qN] [(0, 1, (.k (.int .i64 1))), (1, 1, (.k (.int .i64 1)))]), qe (.store 6 (.sl 4) (.sl 32))]
 .ret) (qr [qm 34 0, qo 35 (.call 210 [(.sl 34), (.k (.str ⟨#[102, 97, 108, 115, 101]⟩))] []), qm 33 35]
 (qd 33 (qr [qo 36 (.build [(.int .i64 0), (.int .i64 0), (.int .i64 0), (.str ⟨#[]⟩), qN, qN] [(0, 1, (.k (.int .i64 1)))]), qe (.store 6 (.sl 4) (.sl 36))]
 .ret) (qr [qm 38 0, qo 39 (.call 210 [(.sl 38), (.k (.str ⟨#[34]⟩))] []), qm 37 39]
 (qd 37 (qr [qm 40 0, qo 41 (.call 211 [.sl 40] []), qo 42 (.build [(.int .i64 0), (.int .i64 0), (.int .i64 0), (.str ⟨#[]⟩), qN, qN] [(0, 1, (.k (.int .i64 3))), (3, 1, (.sl 41))]), qe (.store 6 (.sl 4) (.sl 42))]
 .ret) (qr [qm 44 0, qo 45 (.call 210 [(.sl 44), (.k (.str ⟨#[64]⟩))] []), qm 43 45]
 (qd 43 (qr [qm 46 0, qo 47 (.call 212 [.sl 46] []), qe (.store 6 (.sl 4) (.sl 47))]
 .ret) (qr [qm 49 0, qo 50 (.call 210 [(.sl 49), (.k (.str ⟨#[40]⟩))] []), qm 48 50]
 (qd 48 (qr [qm 51 0, qo 52 (.call 213 [.sl 51] []), qm 5 52]
 (qr [qm 53 0, qm 54 0, qo 55 (.nck (.sl 54)), qf 56 2 55, ql 57 1 false 56, qm 58 57, ⟨(some (58, false)), (some 59), .mv (.sl 0)⟩, ⟨(some (58, false)), (some 60), .call 210 [(.sl 59), (.k (.str ⟨#[32]⟩))] []⟩, ⟨(some (58, false)), (some 61), .un .not (.sl 60)⟩, qo 62 (.pick (.sl 58) (.k (.bool true)) (.sl 61)), qo 63 (.nck (.sl 53)), qf 64 2 63, qe (.store 1 (.sl 64) (.sl 62))]
 (qr [qm 65 0, qo 66 (.call 213 [.sl 65] []), qm 6 66]
 (.seq (qr [qm 67 0, qo 68 (.nck (.sl 67)), qf 69 2 68, ql 70 1 false 69, qm 71 70, ⟨(some (71, false)), (some 72), .mv (.sl 0)⟩, ⟨(some (71, false)), (some 73), .call 210 [(.sl 72), (.k (.str ⟨#[41]⟩))] []⟩, ⟨(some (71, false)), (some 74), .un .not (.sl 73)⟩, qo 75 (.pick (.sl 71) (.k (.bool true)) (.sl 74)), qm 76 75, ⟨(some (76, false)), (some 77), .mv (.sl 5)⟩, ⟨(some (76, false)), (some 78), .bin .lss (.sl 77) (.k (.int .i64 (-1000000)))⟩, qo 79 (.pick (.sl 76) (.k (.bool true)) (.sl 78)), qm 80 79, ⟨(some (80, false)), (some 81), .mv (.sl 5)⟩, ⟨(some (80, false)), (some 82), .bin .gtr (.sl 81) (.k (.int .i64 1000000))⟩, qo 83 (.pick (.sl 80) (.k (.bool true)) (.sl 82)), qm 84 83, ⟨(some (84, false)), (some 85), .mv (.sl 6)⟩, ⟨(some (84, false)), (some 86), .bin .lss (.sl 85) (.k (.int .i64 (-1000000)))⟩, qo 87 (.pick (.sl 84) (.k (.bool true)) (.sl 86)), qm 88 87, ⟨(some (88, false)), (some 89), .mv (.sl 6)⟩, ⟨(some (88, false)), (some 90), .bin .gtr (.sl 89) (.k (.int .i64 1000000))⟩, qo 91 (.pick (.sl 88) (.k (.bool true)) (.sl 90))]
 (qd 91 (qr [qm 92 0, qo 93 (.call 209 [.sl 92] []), qe (.store 6 (.sl 4) (.sl 93))]
 .ret) .skip))
 (qr [qm 94 5, qm 95 6, qo 96 (.build [(.int .i64 0), (.int .i64 0), (.int .i64 0), (.str ⟨#[]⟩), qN, qN] [(0, 1, (.k (.int .i64 5))), (1, 1, (.sl 94)), (2, 1, (.sl 95))]), qe (.store 6 (.sl 4) (.sl 96))]
 .ret))))) (qr [qm 98 0, qo 99 (.call 210 [(.sl 98), (.k (.str ⟨#[110]⟩))] []), qm 97 99]
 (qd 97 (qr [qm 100 0, qo 101 (.call 214 [(.sl 100), (.k (.int .i64 8))] []), qe (.store 6 (.sl 4) (.sl 101))]
 .ret) (qr [qm 103 0, qo 104 (.call 210 [(.sl 103), (.k (.str ⟨#[101]⟩))] []), qm 102 104]
 (qd 102 (qr [qm 105 0, qo 106 (.call 214 [(.sl 105), (.k (.int .i64 9))] []), qe (.store 6 (.sl 4) (.sl 106))]
 .ret) (qr [qm 108 0, qo 109 (.call 210 [(.sl 108), (.k (.str ⟨#[60]⟩))] []), qm 107 109]
 (qd 107 (qr [qm 110 0, qo 111 (.call 215 [.sl 110] []), qe (.store 6 (.sl 4) (.sl 111))]
 .ret) (qr [qm 113 1, qk 114 .lss 113 5, qm 115 114, ⟨(some (115, true)), (some 116), .mv (.sl 0)⟩, ⟨(some (115, true)), (some 117), .call 210 [(.sl 116), (.k (.str ⟨#[91]⟩))] []⟩, qo 118 (.pick (.sl 115) (.sl 117) (.k (.bool false))), qm 112 118]
 (qd 112 (qr [qm 119 0, qm 120 1, qo 121 (.call 216 [(.sl 119), (.sl 120)] []), qe (.store 6 (.sl 4) (.sl 121))]
 .ret) (qr [qm 123 1, qk 124 .lss 123 5, qm 125 124, ⟨(some (125, true)), (some 126), .mv (.sl 0)⟩, ⟨(some (125, true)), (some 127), .call 210 [(.sl 126), (.k (.str ⟨#[123]⟩))] []⟩, qo 128 (.pick (.sl 125) (.sl 127) (.k (.bool false))), qm 122 128]
 (qd 122 (qr [qm 129 0, qm 130 1, qo 131 (.call 217 [(.sl 129), (.sl 130)] []), qe (.store 6 (.sl 4) (.sl 131))]
 .ret) .skip)))))))))))))))))))))))
 (qr [qm 132 0, qo 133 (.call 213 [.sl 132] []), qo 134 (.build [(.int .i64 0), (.int .i64 0), (.int .i64 0), (.str ⟨#[]⟩), qN, qN] [(0, 1, (.k (.int .i64 2))), (1, 1, (.sl 133))]), qe (.store 6 (.sl 4) (.sl 134))]
 .ret)))) }
def F209 : CFn := { nt := 7, nk := 1, own := false, res := [.cell 2 6 true], body := (
 qr [qo 2 (.alloc [(.int .i64 0), (.int .i64 0), (.int .i64 0), (.str ⟨#[]⟩), qN, qN])]
 (qr [qm 3 0, qo 4 (.nck (.sl 3)), qf 5 2 4, qe (.store 1 (.sl 5) (.k (.bool true)))]
 (qr [qo 6 (.build [(.int .i64 0), (.int .i64 0), (.int .i64 0), (.str ⟨#[]⟩), qN, qN] [(0, 1, (.k (.int .i64 (-1))))]), qe (.store 6 (.sl 2) (.sl 6))]
 .ret))) }
def F210 : CFn := { nt := 33, nk := 1, own := false, res := [.tmp 4], body := (
 qr [qc 4 (.bool false)]
 (.seq (qr [qm 5 0, qo 6 (.nck (.sl 5)), qf 7 2 6, ql 8 1 false 7, qo 9 (.un .not (.sl 8)), qm 10 9, ⟨(some (10, true)), (some 11), .mv (.sl 0)⟩, ⟨(some (10, true)), (some 12), .nck (.sl 11)⟩, ⟨(some (10, true)), (some 13), .fad 0 (.sl 12)⟩, ⟨(some (10, true)), (some 14), .load 1 false (.sl 13)⟩, ⟨(some (10, true)), (some 15), .mv (.sl 0)⟩, ⟨(some (10, true)), (some 16), .nck (.sl 15)⟩, ⟨(some (10, true)), (some 17), .fad 1 (.sl 16)⟩, ⟨(some (10, true)), (some 18), .load 1 false (.sl 17)⟩, ⟨(some (10, true)), (some 19), .ssl (.sl 14) (some (.sl 18)) none⟩, ⟨(some (10, true)), (some 20), .mv (.sl 1)⟩, ⟨(some (10, true)), (some 21), .call 231 [(.sl 19), (.sl 20)] []⟩, qo 22 (.pick (.sl 10) (.sl 21) (.k (.bool false)))]
 (qd 22 (qr [qm 23 0, qm 24 0, qo 25 (.nck (.sl 24)), qf 26 1 25, ql 27 1 false 26, qm 28 1, qo 29 (.slen (.sl 28)), qb 30 .add 27 29, qo 31 (.nck (.sl 23)), qf 32 1 31, qe (.store 1 (.sl 32) (.sl 30))]
 (qr [qc 4 (.bool true)]
 .ret)) .skip))
 (qr [qc 4 (.bool false)]
 .ret))) }
def F211 : CFn := { nt := 122, nk := 1, own := false, res := [.tmp 2], body := (
 qr [qc 2 (.str ⟨#[]⟩)]
 (qr [qo 5 (.bsl 5 1 [(.int .u8 0)] 0 []), qm 3 5]
 (.seq (.block 0 (.loop (.seq (qr [qm 6 0, qo 7 (.nck (.sl 6)), qf 8 1 7, ql 9 1 false 8, qm 10 0, qo 11 (.nck (.sl 10)), qf 12 0 11, ql 13 1 false 12, qo 14 (.slen (.sl 13)), qb 15 .lss 9 14]
 (qd 15 .skip (.exit 0)))
 (.block 1 (qr [qm 16 0, qo 17 (.nck (.sl 16)), qf 18 0 17, ql 19 1 false 18, qm 20 0, qo 21 (.nck (.sl 20)), qf 22 1 21, ql 23 1 false 22, qo 24 (.sidx (.sl 19) (.sl 23)), qm 4 24]
 (qr [qm 25 0, qm 26 0, qo 27 (.nck (.sl 26)), qf 28 1 27, ql 29 1 false 28, qk 30 .add 29 1, qo 31 (.nck (.sl 25)), qf 32 1 31, qe (.store 1 (.sl 32) (.sl 30))]
 (.seq (.block 2 (qr [qm 34 4, qo 35 (.bin .eql (.sl 34) (.k (.int .u8 34))), qm 33 35]
 (qd 33 (qr [qm 36 3, qo 37 (.b2s (.sl 36)), qm 2 37]
 .ret) (qr [qm 39 4, qo 40 (.bin .lss (.sl 39) (.k (.int .u8 32))), qm 38 40]
 (qd 38 (qr [qm 41 0, qo 42 (.nck (.sl 41)), qf 43 2 42, qe (.store 1 (.sl 43) (.k (.bool true)))]
 (qr [qc 2 (.str ⟨#[]⟩)]
 .ret)) (qr [qm 45 4, qo 46 (.bin .eql (.sl 45) (.k (.int .u8 92))), qm 44 46]
 (qd 44 (.seq (qr [qm 47 0, qo 48 (.nck (.sl 47)), qf 49 1 48, ql 50 1 false 49, qm 51 0, qo 52 (.nck (.sl 51)), qf 53 0 52, ql 54 1 false 53, qo 55 (.slen (.sl 54)), qb 56 .geq 50 55, qm 57 56, ⟨(some (57, false)), (some 58), .mv (.sl 0)⟩, ⟨(some (57, false)), (some 59), .nck (.sl 58)⟩, ⟨(some (57, false)), (some 60), .fad 0 (.sl 59)⟩, ⟨(some (57, false)), (some 61), .load 1 false (.sl 60)⟩, ⟨(some (57, false)), (some 62), .mv (.sl 0)⟩, ⟨(some (57, false)), (some 63), .nck (.sl 62)⟩, ⟨(some (57, false)), (some 64), .fad 1 (.sl 63)⟩, ⟨(some (57, false)), (some 65), .load 1 false (.sl 64)⟩, ⟨(some (57, false)), (some 66), .sidx (.sl 61) (.sl 65)⟩, ⟨(some (57, false)), (some 67), .bin .neq (.sl 66) (.k (.int .u8 34))⟩, ⟨(some (57, false)), (some 68), .mv (.sl 67)⟩, ⟨(some (68, true)), (some 69), .mv (.sl 0)⟩, ⟨(some (68, true)), (some 70), .nck (.sl 69)⟩, ⟨(some (68, true)), (some 71), .fad 0 (.sl 70)⟩, ⟨(some (68, true)), (some 72), .load 1 false (.sl 71)⟩, ⟨(some (68, true)), (some 73), .mv (.sl 0)⟩, ⟨(some (68, true)), (some 74), .nck (.sl 73)⟩, ⟨(some (68, true)), (some 75), .fad 1 (.sl 74)⟩, ⟨(some (68, true)), (some 76), .load 1 false (.sl 75)⟩, ⟨(some (68, true)), (some 77), .sidx (.sl 72) (.sl 76)⟩, ⟨(some (68, true)), (some 78), .bin .neq (.sl 77) (.k (.int .u8 92))⟩, ⟨(some (57, false)), (some 79), .pick (.sl 68) (.sl 78) (.k (.bool false))⟩, ⟨(some (57, false)), (some 80), .mv (.sl 79)⟩, ⟨(some (80, true)), (some 81), .mv (.sl 0)⟩, ⟨(some (80, true)), (some 82), .nck (.sl 81)⟩, ⟨(some (80, true)), (some 83), .fad 0 (.sl 82)⟩, ⟨(some (80, true)), (some 84), .load 1 false (.sl 83)⟩, ⟨(some (80, true)), (some 85), .mv (.sl 0)⟩, ⟨(some (80, true)), (some 86), .nck (.sl 85)⟩, ⟨(some (80, true)), (some 87), .fad 1 (.sl 86)⟩, ⟨(some (80, true)), (some 88), .load 1 false (.sl 87)⟩, ⟨(some (80, true)), (some 89), .sidx (.sl 84) (.sl 88)⟩, ⟨(some (80, true)), (some 90), .bin .neq (.sl 89) (.k (.int .u8 110))⟩, ⟨(some (57, false)), (some 91), .pick (.sl 80) (.sl 90) (.k (.bool false))⟩, qo 92 (.pick (.sl 57) (.k (.bool true)) (.sl 91))]
 (qd 92 (qr [qm 93 0, qo 94 (.nck (.sl 93)), qf 95 2 94, qe (.store 1 (.sl 95) (.k (.bool true)))]
 (qr [qc 2 (.str ⟨#[]⟩)]
 .ret)) .skip))
 (qr [qm 96 0, qo 97 (.nck (.sl 96)), qf 98 0 97, ql 99 1 false 98, qm 100 0, qo 101 (.nck (.sl 100)), qf 102 1 101, ql 103 1 false 102, qo 104 (.sidx (.sl 99) (.sl 103)), qm 4 104]
 (.seq (qr [qm 105 4, qo 106 (.bin .eql (.sl 105) (.k (.int .u8 110)))]
 (qd 106 (.reg [qc 4 (.int .u8 10)] []) .skip))
 (.reg [qm 107 0, qm 108 0, qo 109 (.nck (.sl 108)), qf 110 1 109, ql 111 1 false 110, qk 112 .add 111 1, qo 113 (.nck (.sl 107)), qf 114 1 113, qe (.store 1 (.sl 114) (.sl 112))] [])))) .skip)))))))
 (.reg [qm 115 3, qm 116 4, qo 117 (.bsl 5 1 [(.int .u8 0)] 1 [(0, 1, (.sl 116))]), qo 118 (.app 5 1 1 (.sl 115) (.sl 117)), qm 3 118] []))))))))
 (qr [qm 119 0, qo 120 (.nck (.sl 119)), qf 121 2 120, qe (.store 1 (.sl 121) (.k (.bool true)))]
 (qr [qc 2 (.str ⟨#[]⟩)]
 .ret))))) }
def F212 : CFn := { nt := 84, nk := 1, own := false, res := [.cell 2 6 true], body := (
 qr [qo 2 (.alloc [(.int .i64 0), (.int .i64 0), (.int .i64 0), (.str ⟨#[]⟩), qN, qN])]
 (qr [qm 8 0, qo 9 (.call 232 [(.sl 8), (.k (.int .i64 4))] []), qm 3 9]
 (qr [qm 10 0, qm 11 0, qo 12 (.nck (.sl 11)), qf 13 2 12, ql 14 1 false 13, qm 15 14, ⟨(some (15, false)), (some 16), .mv (.sl 0)⟩, ⟨(some (15, false)), (some 17), .call 210 [(.sl 16), (.k (.str ⟨#[45]⟩))] []⟩, ⟨(some (15, false)), (some 18), .un .not (.sl 17)⟩, qo 19 (.pick (.sl 15) (.k (.bool true)) (.sl 18)), qo 20 (.nck (.sl 10)), qf 21 2 20, qe (.store 1 (.sl 21) (.sl 19))]
 (qr [qm 22 0, qo 23 (.call 232 [(.sl 22), (.k (.int .i64 2))] []), qm 4 23]
 (qr [qm 24 0, qm 25 0, qo 26 (.nck (.sl 25)), qf 27 2 26, ql 28 1 false 27, qm 29 28, ⟨(some (29, false)), (some 30), .mv (.sl 0)⟩, ⟨(some (29, false)), (some 31), .call 210 [(.sl 30), (.k (.str ⟨#[45]⟩))] []⟩, ⟨(some (29, false)), (some 32), .un .not (.sl 31)⟩, qo 33 (.pick (.sl 29) (.k (.bool true)) (.sl 32)), qo 34 (.nck (.sl 24)), qf 35 2 34, qe (.store 1 (.sl 35) (.sl 33))]
 (qr [qm 36 0, qo 37 (.call 232 [(.sl 36), (.k (.int .i64 2))] []), qm 5 37]
 (.seq (qr [qm 38 0, qo 39 (.nck (.sl 38)), qf 40 2 39, ql 41 1 false 40, qm 42 41, ⟨(some (42, false)), (some 43), .mv (.sl 3)⟩, ⟨(some (42, false)), (some 44), .bin .lss (.sl 43) (.k (.int .i64 1))⟩, qo 45 (.pick (.sl 42) (.k (.bool true)) (.sl 44)), qm 46 45, ⟨(some (46, false)), (some 47), .mv (.sl 4)⟩, ⟨(some (46, false)), (some 48), .bin .lss (.sl 47) (.k (.int .i64 1))⟩, qo 49 (.pick (.sl 46) (.k (.bool true)) (.sl 48)), qm 50 49, ⟨(some (50, false)), (some 51), .mv (.sl 4)⟩, ⟨(some (50, false)), (some 52), .bin .gtr (.sl 51) (.k (.int .i64 12))⟩, qo 53 (.pick (.sl 50) (.k (.bool true)) (.sl 52)), qm 54 53, ⟨(some (54, false)), (some 55), .mv (.sl 5)⟩, ⟨(some (54, false)), (some 56), .bin .lss (.sl 55) (.k (.int .i64 1))⟩, qo 57 (.pick (.sl 54) (.k (.bool true)) (.sl 56)), qm 58 57, ⟨(some (58, false)), (some 59), .mv (.sl 5)⟩, ⟨(some (58, false)), (some 60), .mv (.sl 3)⟩, ⟨(some (58, false)), (some 61), .mv (.sl 4)⟩, ⟨(some (58, false)), (some 62), .call 233 [(.sl 60), (.sl 61)] []⟩, ⟨(some (58, false)), (some 63), .bin .gtr (.sl 59) (.sl 62)⟩, qo 64 (.pick (.sl 58) (.k (.bool true)) (.sl 63))]
 (qd 64 (qr [qm 65 0, qo 66 (.call 209 [.sl 65] []), qe (.store 6 (.sl 2) (.sl 66))]
 .ret) .skip))
 (qr [qm 67 3, qo 68 (.call 234 [.sl 67] []), qm 69 5, qb 70 .add 68 69, qk 71 .sub 70 1, qm 6 71]
 (.seq (qr [qi 7 1]
 (.block 0 (.loop (.seq (qr [qm 72 7, qm 73 4, qb 74 .lss 72 73]
 (qd 74 .skip (.exit 0)))
 (.seq (.block 1 (.reg [qm 77 6, qm 78 3, qm 79 7, qo 80 (.call 233 [(.sl 78), (.sl 79)] []), qb 81 .add 77 80, qm 6 81] []))
 (.reg [qm 75 7, qk 76 .add 75 1, qm 7 76] []))))))
 (qr [qm 82 6, qo 83 (.build [(.int .i64 0), (.int .i64 0), (.int .i64 0), (.str ⟨#[]⟩), qN, qN] [(0, 1, (.k (.int .i64 4))), (1, 1, (.sl 82))]), qe (.store 6 (.sl 2) (.sl 83))]
 .ret)))))))))) }
def F213 : CFn := { nt := 134, nk := 1, own := false, res := [.tmp 2], body := (
 qr [qi 2 0]
 (qr [qm 5 0, qo 6 (.nck (.sl 5)), qf 7 1 6, ql 8 1 false 7, qm 3 8]
 (.seq (qr [qm 9 0, qo 10 (.nck (.sl 9)), qf 11 1 10, ql 12 1 false 11, qm 13 0, qo 14 (.nck (.sl 13)), qf 15 0 14, ql 16 1 false 15, qo 17 (.slen (.sl 16)), qb 18 .lss 12 17, qm 19 18, ⟨(some (19, true)), (some 20), .mv (.sl 0)⟩, ⟨(some (19, true)), (some 21), .nck (.sl 20)⟩, ⟨(some (19, true)), (some 22), .fad 0 (.sl 21)⟩, ⟨(some (19, true)), (some 23), .load 1 false (.sl 22)⟩, ⟨(some (19, true)), (some 24), .mv (.sl 0)⟩, ⟨(some (19, true)), (some 25), .nck (.sl 24)⟩, ⟨(some (19, true)), (some 26), .fad 1 (.sl 25)⟩, ⟨(some (19, true)), (some 27), .load 1 false (.sl 26)⟩, ⟨(some (19, true)), (some 28), .sidx (.sl 23) (.sl 27)⟩, ⟨(some (19, true)), (some 29), .bin .eql (.sl 28) (.k (.int .u8 45))⟩, qo 30 (.pick (.sl 19) (.sl 29) (.k (.bool false)))]
 (qd 30 (.reg [qm 31 0, qm 32 0, qo 33 (.nck (.sl 32)), qf 34 1 33, ql 35 1 false 34, qk 36 .add 35 1, qo 37 (.nck (.sl 31)), qf 38 1 37, qe (.store 1 (.sl 38) (.sl 36))] []) .skip))
 (qr [qi 4 0]
 (.seq (.block 0 (.loop (.seq (qr [qm 39 0, qo 40 (.nck (.sl 39)), qf 41 1 40, ql 42 1 false 41, qm 43 0, qo 44 (.nck (.sl 43)), qf 45 0 44, ql 46 1 false 45, qo 47 (.slen (.sl 46)), qb 48 .lss 42 47, qm 49 48, ⟨(some (49, true)), (some 50), .mv (.sl 0)⟩, ⟨(some (49, true)), (some 51), .nck (.sl 50)⟩, ⟨(some (49, true)), (some 52), .fad 0 (.sl 51)⟩, ⟨(some (49, true)), (some 53), .load 1 false (.sl 52)⟩, ⟨(some (49, true)), (some 54), .mv (.sl 0)⟩, ⟨(some (49, true)), (some 55), .nck (.sl 54)⟩, ⟨(some (49, true)), (some 56), .fad 1 (.sl 55)⟩, ⟨(some (49, true)), (some 57), .load 1 false (.sl 56)⟩, ⟨(some (49, true)), (some 58), .sidx (.sl 53) (.sl 57)⟩, ⟨(some (49, true)), (some 59), .call 169 [.sl 58] []⟩, qo 60 (.pick (.sl 49) (.sl 59) (.k (.bool false)))]
 (qd 60 .skip (.exit 0)))
 (.block 1 (qr [qm 61 4, qk 62 .mul 61 10, qm 63 0, qo 64 (.nck (.sl 63)), qf 65 0 64, ql 66 1 false 65, qm 67 0, qo 68 (.nck (.sl 67)), qf 69 1 68, ql 70 1 false 69, qo 71 (.sidx (.sl 66) (.sl 70)), qo 72 (.bin .sub (.sl 71) (.k (.int .u8 48))), qo 73 (.toInt .i64 (.sl 72)), qb 74 .add 62 73, qm 4 74]
 (.reg [qm 75 0, qm 76 0, qo 77 (.nck (.sl 76)), qf 78 1 77, ql 79 1 false 78, qk 80 .add 79 1, qo 81 (.nck (.sl 75)), qf 82 1 81, qe (.store 1 (.sl 82) (.sl 80))] []))))))
 (.seq (qr [qm 83 3, qm 84 0, qo 85 (.nck (.sl 84)), qf 86 1 85, ql 87 1 false 86, qb 88 .lss 83 87, qm 89 88, ⟨(some (89, true)), (some 90), .mv (.sl 0)⟩, ⟨(some (89, true)), (some 91), .nck (.sl 90)⟩, ⟨(some (89, true)), (some 92), .fad 0 (.sl 91)⟩, ⟨(some (89, true)), (some 93), .load 1 false (.sl 92)⟩, ⟨(some (89, true)), (some 94), .mv (.sl 3)⟩, ⟨(some (89, true)), (some 95), .sidx (.sl 93) (.sl 94)⟩, ⟨(some (89, true)), (some 96), .bin .eql (.sl 95) (.k (.int .u8 45))⟩, qo 97 (.pick (.sl 89) (.sl 96) (.k (.bool false)))]
 (qd 97 (.reg [qm 98 4, qo 99 (.un .neg (.sl 98)), qm 4 99] []) .skip))
 (.seq (.seq (.reg [qm 100 3, qm 101 0, qo 102 (.nck (.sl 101)), qf 103 1 102, ql 104 1 false 103, qb 105 .eql 100 104, qm 106 105, ⟨(some (106, false)), (some 107), .mv (.sl 0)⟩, ⟨(some (106, false)), (some 108), .nck (.sl 107)⟩, ⟨(some (106, false)), (some 109), .fad 1 (.sl 108)⟩, ⟨(some (106, false)), (some 110), .load 1 false (.sl 109)⟩, ⟨(some (106, false)), (some 111), .mv (.sl 3)⟩, ⟨(some (106, false)), (some 112), .bin .sub (.sl 110) (.sl 111)⟩, ⟨(some (106, false)), (some 113), .bin .gtr (.sl 112) (.k (.int .i64 20))⟩, qo 114 (.pick (.sl 106) (.k (.bool true)) (.sl 113)), qm 115 114, ⟨(some (115, false)), (some 116), .mv (.sl 4)⟩, ⟨(some (115, false)), (some 117), .call 98 [.sl 116] []⟩, ⟨(some (115, false)), (some 118), .mv (.sl 0)⟩, ⟨(some (115, false)), (some 119), .nck (.sl 118)⟩, ⟨(some (115, false)), (some 120), .fad 0 (.sl 119)⟩, ⟨(some (115, false)), (some 121), .load 1 false (.sl 120)⟩, ⟨(some (115, false)), (some 122), .mv (.sl 3)⟩, ⟨(some (115, false)), (some 123), .mv (.sl 0)⟩, ⟨(some (115, false)), (some 124), .nck (.sl 123)⟩, ⟨(some (115, false)), (some 125), .fad 1 (.sl 124)⟩, ⟨(some (115, false)), (some 126), .load 1 false (.sl 125)⟩, ⟨(some (115, false)), (some 127), .ssl (.sl 121) (some (.sl 122)) (some (.sl 126))⟩, ⟨(some (115, false)), (some 128), .bin .neq (.sl 117) (.sl 127)⟩, qo 129 (.pick (.sl 115) (.k (.bool true)) (.sl 128))] [(17, 21), (17, 26)])
 (qd 129 (.reg [qm 130 0, qo 131 (.nck (.sl 130)), qf 132 2 131, qe (.store 1 (.sl 132) (.k (.bool true)))] []) .skip))
 (qr [qm 133 4, qm 2 133]
 .ret)))))))) }
def F214 : CFn := { nt := 20, nk := 1, own := false, res := [.cell 4 6 true], body := (
 qr [qo 4 (.alloc [(.int .i64 0), (.int .i64 0), (.int .i64 0), (.str ⟨#[]⟩), qN, qN])]
 (qr [qm 6 0, qo 7 (.call 213 [.sl 6] []), qm 5 7]
 (.seq (qr [qm 8 5, qk 9 .lss 8 1, qm 10 9, ⟨(some (10, false)), (some 11), .mv (.sl 5)⟩, ⟨(some (10, false)), (some 12), .bin .gtr (.sl 11) (.k (.int .i64 1000000000000))⟩, qo 13 (.pick (.sl 10) (.k (.bool true)) (.sl 12))]
 (qd 13 (.reg [qm 14 0, qo 15 (.nck (.sl 14)), qf 16 2 15, qe (.store 1 (.sl 16) (.k (.bool true)))] []) .skip))
 (qr [qm 17 1, qm 18 5, qo 19 (.build [(.int .i64 0), (.int .i64 0), (.int .i64 0), (.str ⟨#[]⟩), qN, qN] [(0, 1, (.sl 17)), (1, 1, (.sl 18))]), qe (.store 6 (.sl 4) (.sl 19))]
 .ret)))) }
def F215 : CFn := { nt := 44, nk := 1, own := false, res := [.cell 2 6 true], body := (
 qr [qo 2 (.alloc [(.int .i64 0), (.int .i64 0), (.int .i64 0), (.str ⟨#[]⟩), qN, qN])]
 (qr [qo 6 (.build [(.int .i64 0), (.int .i64 0), (.int .i64 0), (.str ⟨#[]⟩), qN, qN] [(0, 1, (.k (.int .i64 10)))]), qo 3 (.alloc [(.int .i64 0), (.int .i64 0), (.int .i64 0), (.str ⟨#[]⟩), qN, qN]), qe (.store 6 (.sl 3) (.sl 6))]
 (.seq (.block 0 (.loop (.seq (qr [qm 7 0, qo 8 (.nck (.sl 7)), qf 9 2 8, ql 10 1 false 9, qo 11 (.un .not (.sl 10))]
 (qd 11 .skip (.exit 0)))
 (.block 1 (qr [qc 4 (.str ⟨#[110]⟩)]
 (qr [qi 5 8]
 (.seq (qr [qf 12 4 3, ql 13 1 false 12, qo 14 (.len (.sl 13)), qk 15 .rem 14 2, qk 16 .eql 15 1]
 (qd 16 (qr [qc 4 (.str ⟨#[101]⟩)]
 (.reg [qi 5 9] [])) .skip))
 (.seq (qr [qm 17 0, qm 18 4, qo 19 (.call 210 [(.sl 17), (.sl 18)] []), qo 20 (.un .not (.sl 19))]
 (qd 20 (qr [qm 21 0, qo 22 (.call 209 [.sl 21] []), qe (.store 6 (.sl 2) (.sl 22))]
 .ret) .skip))
 (.seq (.reg [qf 23 4 3, ql 24 1 false 23, qm 25 0, qm 26 5, qo 27 (.call 214 [(.sl 25), (.sl 26)] []), qo 28 (.bsl 199 6 [(.int .i64 0), (.int .i64 0), (.int .i64 0), (.str ⟨#[]⟩), qN, qN] 1 [(0, 6, (.sl 27))]), qo 29 (.app 199 6 88 (.sl 24) (.sl 28)), qf 30 4 3, qe (.store 1 (.sl 30) (.sl 29))] [(1, 4)])
 (.seq (qr [qm 31 5, qk 32 .eql 31 8, qm 33 32, ⟨(some (33, true)), (some 34), .mv (.sl 0)⟩, ⟨(some (33, true)), (some 35), .call 210 [(.sl 34), (.k (.str ⟨#[62]⟩))] []⟩, qo 36 (.pick (.sl 33) (.sl 35) (.k (.bool false)))]
 (qd 36 (qr [ql 37 6 true 3, qe (.store 6 (.sl 2) (.sl 37))]
 .ret) .skip))
 (qr [qm 38 0, qo 39 (.call 210 [(.sl 38), (.k (.str ⟨#[32]⟩))] []), qo 40 (.un .not (.sl 39))]
 (qd 40 (qr [qm 41 0, qo 42 (.call 209 [.sl 41] []), qe (.store 6 (.sl 2) (.sl 42))]
 .ret) .skip))))))))))))
 (qr [ql 43 6 true 3, qe (.store 6 (.sl 2) (.sl 43))]
 .ret)))) }
def F216 : CFn := { nt := 33, nk := 1, own := false, res := [.cell 4 6 true], body := (
 qr [qo 4 (.alloc [(.int .i64 0), (.int .i64 0), (.int .i64 0), (.str ⟨#[]⟩), qN, qN])]
 (qr [qo 6 (.build [(.int .i64 0), (.int .i64 0), (.int .i64 0), (.str ⟨#[]⟩), qN, qN] [(0, 1, (.k (.int .i64 6)))]), qo 5 (.alloc [(.int .i64 0), (.int .i64 0), (.int .i64 0), (.str ⟨#[]⟩), qN, qN]), qe (.store 6 (.sl 5) (.sl 6))]
 (.seq (qr [qm 7 0, qo 8 (.call 210 [(.sl 7), (.k (.str ⟨#[93]⟩))] [])]
 (qd 8 (qr [ql 9 6 true 5, qe (.store 6 (.sl 4) (.sl 9))]
 .ret) .skip))
 (.seq (.block 0 (.loop (.seq (qr [qm 10 0, qo 11 (.nck (.sl 10)), qf 12 2 11, ql 13 1 false 12, qo 14 (.un .not (.sl 13))]
 (qd 14 .skip (.exit 0)))
 (.block 1 (.seq (.reg [qf 15 4 5, ql 16 1 false 15, qm 17 0, qm 18 1, qk 19 .add 18 1, qo 20 (.call 200 [(.sl 17), (.sl 19)] []), qo 21 (.bsl 199 6 [(.int .i64 0), (.int .i64 0), (.int .i64 0), (.str ⟨#[]⟩), qN, qN] 1 [(0, 6, (.sl 20))]), qo 22 (.app 199 6 88 (.sl 16) (.sl 21)), qf 23 4 5, qe (.store 1 (.sl 23) (.sl 22))] [(1, 5)])
 (.seq (qr [qm 24 0, qo 25 (.call 210 [(.sl 24), (.k (.str ⟨#[93]⟩))] [])]
 (qd 25 (qr [ql 26 6 true 5, qe (.store 6 (.sl 4) (.sl 26))]
 .ret) .skip))
 (qr [qm 27 0, qo 28 (.call 210 [(.sl 27), (.k (.str ⟨#[44]⟩))] []), qo 29 (.un .not (.sl 28))]
 (qd 29 (qr [qm 30 0, qo 31 (.call 209 [.sl 30] []), qe (.store 6 (.sl 4) (.sl 31))]
 .ret) .skip))))))))
 (qr [ql 32 6 true 5, qe (.store 6 (.sl 4) (.sl 32))]
 .ret))))) }
def F217 : CFn := { nt := 51, nk := 1, own := false, res := [.cell 4 6 true], body := (
 qr [qo 4 (.alloc [(.int .i64 0), (.int .i64 0), (.int .i64 0), (.str ⟨#[]⟩), qN, qN])]
 (qr [qo 6 (.build [(.int .i64 0), (.int .i64 0), (.int .i64 0), (.str ⟨#[]⟩), qN, qN] [(0, 1, (.k (.int .i64 7)))]), qo 5 (.alloc [(.int .i64 0), (.int .i64 0), (.int .i64 0), (.str ⟨#[]⟩), qN, qN]), qe (.store 6 (.sl 5) (.sl 6))]
 (.seq (qr [qm 7 0, qo 8 (.call 210 [(.sl 7), (.k (.str ⟨#[125]⟩))] [])]
 (qd 8 (qr [ql 9 6 true 5, qe (.store 6 (.sl 4) (.sl 9))]
 .ret) .skip))
 (.seq (.block 0 (.loop (.seq (qr [qm 10 0, qo 11 (.nck (.sl 10)), qf 12 2 11, ql 13 1 false 12, qo 14 (.un .not (.sl 13))]
 (qd 14 .skip (.exit 0)))
 (.block 1 (.seq (.reg [qf 15 5 5, ql 16 1 false 15, qm 17 0, qo 18 (.call 235 [.sl 17] []), qo 19 (.bsl 9 1 [(.str ⟨#[]⟩)] 1 [(0, 1, (.sl 18))]), qo 20 (.app 9 1 16 (.sl 16) (.sl 19)), qf 21 5 5, qe (.store 1 (.sl 21) (.sl 20))] [(1, 3)])
 (.seq (qr [qm 22 0, qo 23 (.call 210 [(.sl 22), (.k (.str ⟨#[58]⟩))] []), qo 24 (.un .not (.sl 23))]
 (qd 24 (qr [qm 25 0, qo 26 (.call 209 [.sl 25] []), qe (.store 6 (.sl 4) (.sl 26))]
 .ret) .skip))
 (.seq (.reg [qf 27 4 5, ql 28 1 false 27, qm 29 0, qm 30 1, qk 31 .add 30 1, qo 32 (.call 200 [(.sl 29), (.sl 31)] []), qo 33 (.bsl 199 6 [(.int .i64 0), (.int .i64 0), (.int .i64 0), (.str ⟨#[]⟩), qN, qN] 1 [(0, 6, (.sl 32))]), qo 34 (.app 199 6 88 (.sl 28) (.sl 33)), qf 35 4 5, qe (.store 1 (.sl 35) (.sl 34))] [(1, 5)])
 (.seq (qr [qm 36 0, qo 37 (.call 210 [(.sl 36), (.k (.str ⟨#[125]⟩))] [])]
 (qd 37 (.seq (qr [qf 38 5 5, ql 39 1 false 38, qo 40 (.call 166 [.sl 39] []), qo 41 (.un .not (.sl 40))]
 (qd 41 (qr [qm 42 0, qo 43 (.call 209 [.sl 42] []), qe (.store 6 (.sl 4) (.sl 43))]
 .ret) .skip))
 (qr [ql 44 6 true 5, qe (.store 6 (.sl 4) (.sl 44))]
 .ret)) .skip))
 (qr [qm 45 0, qo 46 (.call 210 [(.sl 45), (.k (.str ⟨#[44]⟩))] []), qo 47 (.un .not (.sl 46))]
 (qd 47 (qr [qm 48 0, qo 49 (.call 209 [.sl 48] []), qe (.store 6 (.sl 4) (.sl 49))]
 .ret) .skip))))))))))
 (qr [ql 50 6 true 5, qe (.store 6 (.sl 4) (.sl 50))]
 .ret))))) }
def F231 : CFn := { nt := 18, nk := 0, own := false, res := [.tmp 4], body := (
 qr [qc 4 (.bool false)]
 (qr [qm 5 0, qo 6 (.slen (.sl 5)), qm 7 1, qo 8 (.slen (.sl 7)), qb 9 .geq 6 8, qm 10 9, ⟨(some (10, true)), (some 11), .mv (.sl 0)⟩, ⟨(some (10, true)), (some 12), .mv (.sl 1)⟩, ⟨(some (10, true)), (some 13), .slen (.sl 12)⟩, ⟨(some (10, true)), (some 14), .ssl (.sl 11) none (some (.sl 13))⟩, ⟨(some (10, true)), (some 15), .mv (.sl 1)⟩, ⟨(some (10, true)), (some 16), .bin .eql (.sl 14) (.sl 15)⟩, qo 17 (.pick (.sl 10) (.sl 16) (.k (.bool false))), qm 4 17]
 .ret)) }
def F232 : CFn := { nt := 61, nk := 1, own := false, res := [.tmp 4], body := (
 qr [qi 4 0]
 (qr [qi 5 0]
 (.seq (qr [qi 6 0]
 (.block 0 (.loop (.seq (qr [qm 7 6, qm 8 1, qb 9 .lss 7 8]
 (qd 9 .skip (.exit 0)))
 (.seq (.block 1 (.seq (qr [qm 12 0, qo 13 (.nck (.sl 12)), qf 14 1 13, ql 15 1 false 14, qm 16 0, qo 17 (.nck (.sl 16)), qf 18 0 17, ql 19 1 false 18, qo 20 (.slen (.sl 19)), qb 21 .geq 15 20, qm 22 21, ⟨(some (22, false)), (some 23), .mv (.sl 0)⟩, ⟨(some (22, false)), (some 24), .nck (.sl 23)⟩, ⟨(some (22, false)), (some 25), .fad 0 (.sl 24)⟩, ⟨(some (22, false)), (some 26), .load 1 false (.sl 25)⟩, ⟨(some (22, false)), (some 27), .mv (.sl 0)⟩, ⟨(some (22, false)), (some 28), .nck (.sl 27)⟩, ⟨(some (22, false)), (some 29), .fad 1 (.sl 28)⟩, ⟨(some (22, false)), (some 30), .load 1 false (.sl 29)⟩, ⟨(some (22, false)), (some 31), .sidx (.sl 26) (.sl 30)⟩, ⟨(some (22, false)), (some 32), .call 169 [.sl 31] []⟩, ⟨(some (22, false)), (some 33), .un .not (.sl 32)⟩, qo 34 (.pick (.sl 22) (.k (.bool true)) (.sl 33))]
 (qd 34 (qr [qm 35 0, qo 36 (.nck (.sl 35)), qf 37 2 36, qe (.store 1 (.sl 37) (.k (.bool true)))]
 (qr [qi 4 0]
 .ret)) .skip))
 (qr [qm 38 5, qk 39 .mul 38 10, qm 40 0, qo 41 (.nck (.sl 40)), qf 42 0 41, ql 43 1 false 42, qm 44 0, qo 45 (.nck (.sl 44)), qf 46 1 45, ql 47 1 false 46, qo 48 (.sidx (.sl 43) (.sl 47)), qo 49 (.bin .sub (.sl 48) (.k (.int .u8 48))), qo 50 (.toInt .i64 (.sl 49)), qb 51 .add 39 50, qm 5 51]
 (.reg [qm 52 0, qm 53 0, qo 54 (.nck (.sl 53)), qf 55 1 54, ql 56 1 false 55, qk 57 .add 56 1, qo 58 (.nck (.sl 52)), qf 59 1 58, qe (.store 1 (.sl 59) (.sl 57))] []))))
 (.reg [qm 10 6, qk 11 .add 10 1, qm 6 11] []))))))
 (qr [qm 60 5, qm 4 60]
 .ret)))) }
def F233 : CFn := { nt := 16, nk := 0, own := false, res := [.tmp 4], body := (
 qr [qi 4 0]
 (.seq (qr [qm 5 1, qk 6 .eql 5 2, qm 7 6, ⟨(some (7, true)), (some 8), .mv (.sl 0)⟩, ⟨(some (7, true)), (some 9), .call 244 [.sl 8] []⟩, qo 10 (.pick (.sl 7) (.sl 9) (.k (.bool false)))]
 (qd 10 (qr [qi 4 29]
 .ret) .skip))
 (qr [qo 11 (.bsl 2 1 [(.int .i64 0)] 12 [(0, 1, (.k (.int .i64 31))), (1, 1, (.k (.int .i64 28))), (2, 1, (.k (.int .i64 31))), (3, 1, (.k (.int .i64 30))), (4, 1, (.k (.int .i64 31))), (5, 1, (.k (.int .i64 30))), (6, 1, (.k (.int .i64 31))), (7, 1, (.k (.int .i64 31))), (8, 1, (.k (.int .i64 30))), (9, 1, (.k (.int .i64 31))), (10, 1, (.k (.int .i64 30))), (11, 1, (.k (.int .i64 31)))]), qm 12 1, qk 13 .sub 12 1, qo 14 (.iad 1 (.sl 11) (.sl 13)), ql 15 1 false 14, qm 4 15]
 .ret))) }
def F234 : CFn := { nt := 16, nk := 0, own := false, res := [.tmp 2], body := (
 qr [qi 2 0]
 (qr [qm 3 0, qk 4 .sub 3 1, qm 0 4]
 (qr [qm 5 0, qk 6 .mul 5 365, qm 7 0, qk 8 .quo 7 4, qb 9 .add 6 8, qm 10 0, qk 11 .quo 10 100, qb 12 .sub 9 11, qm 13 0, qk 14 .quo 13 400, qb 15 .add 12 14, qm 2 15]
 .ret))) }
def F235 : CFn := { nt := 87, nk := 1, own := false, res := [.tmp 2], body := (
 qr [qc 2 (.str ⟨#[]⟩)]
 (qr [qm 4 0, qo 5 (.nck (.sl 4)), qf 6 1 5, ql 7 1 false 6, qm 3 7]
 (.seq (.block 0 (.loop (.seq (qr [qm 8 0, qo 9 (.nck (.sl 8)), qf 10 1 9, ql 11 1 false 10, qm 12 0, qo 13 (.nck (.sl 12)), qf 14 0 13, ql 15 1 false 14, qo 16 (.slen (.sl 15)), qb 17 .lss 11 16, qm 18 17, ⟨(some (18, true)), (some 19), .mv (.sl 0)⟩, ⟨(some (18, true)), (some 20), .nck (.sl 19)⟩, ⟨(some (18, true)), (some 21), .fad 0 (.sl 20)⟩, ⟨(some (18, true)), (some 22), .load 1 false (.sl 21)⟩, ⟨(some (18, true)), (some 23), .mv (.sl 0)⟩, ⟨(some (18, true)), (some 24), .nck (.sl 23)⟩, ⟨(some (18, true)), (some 25), .fad 1 (.sl 24)⟩, ⟨(some (18, true)), (some 26), .load 1 false (.sl 25)⟩, ⟨(some (18, true)), (some 27), .sidx (.sl 22) (.sl 26)⟩, ⟨(some (18, true)), (some 28), .call 168 [.sl 27] []⟩, ⟨(some (18, true)), (some 29), .mv (.sl 28)⟩, ⟨(some (29, false)), (some 30), .mv (.sl 0)⟩, ⟨(some (29, false)), (some 31), .nck (.sl 30)⟩, ⟨(some (29, false)), (some 32), .fad 0 (.sl 31)⟩, ⟨(some (29, false)), (some 33), .load 1 false (.sl 32)⟩, ⟨(some (29, false)), (some 34), .mv (.sl 0)⟩, ⟨(some (29, false)), (some 35), .nck (.sl 34)⟩, ⟨(some (29, false)), (some 36), .fad 1 (.sl 35)⟩, ⟨(some (29, false)), (some 37), .load 1 false (.sl 36)⟩, ⟨(some (29, false)), (some 38), .sidx (.sl 33) (.sl 37)⟩, ⟨(some (29, false)), (some 39), .call 169 [.sl 38] []⟩, ⟨(some (18, true)), (some 40), .pick (.sl 29) (.k (.bool true)) (.sl 39)⟩, ⟨(some (18, true)), (some 41), .mv (.sl 40)⟩, ⟨(some (41, false)), (some 42), .mv (.sl 0)⟩, ⟨(some (41, false)), (some 43), .nck (.sl 42)⟩, ⟨(some (41, false)), (some 44), .fad 0 (.sl 43)⟩, ⟨(some (41, false)), (some 45), .load 1 false (.sl 44)⟩, ⟨(some (41, false)), (some 46), .mv (.sl 0)⟩, ⟨(some (41, false)), (some 47), .nck (.sl 46)⟩, ⟨(some (41, false)), (some 48), .fad 1 (.sl 47)⟩, ⟨(some (41, false)), (some 49), .load 1 false (.sl 48)⟩, ⟨(some (41, false)), (some 50), .sidx (.sl 45) (.sl 49)⟩, ⟨(some (41, false)), (some 51), .bin .eql (.sl 50) (.k (.int .u8 95))⟩, ⟨(some (18, true)), (some 52), .pick (.sl 41) (.k (.bool true)) (.sl 51)⟩, qo 53 (.pick (.sl 18) (.sl 52) (.k (.bool false)))]
 (qd 53 .skip (.exit 0)))
 (.block 1 (.reg [qm 54 0, qm 55 0, qo 56 (.nck (.sl 55)), qf 57 1 56, ql 58 1 false 57, qk 59 .add 58 1, qo 60 (.nck (.sl 54)), qf 61 1 60, qe (.store 1 (.sl 61) (.sl 59))] [])))))
 (.seq (qr [qm 62 0, qo 63 (.nck (.sl 62)), qf 64 0 63, ql 65 1 false 64, qm 66 3, qm 67 0, qo 68 (.nck (.sl 67)), qf 69 1 68, ql 70 1 false 69, qo 71 (.ssl (.sl 65) (some (.sl 66)) (some (.sl 70))), qo 72 (.call 121 [.sl 71] []), qo 73 (.un .not (.sl 72))]
 (qd 73 (.reg [qm 74 0, qo 75 (.nck (.sl 74)), qf 76 2 75, qe (.store 1 (.sl 76) (.k (.bool true)))] []) .skip))
 (qr [qm 77 0, qo 78 (.nck (.sl 77)), qf 79 0 78, ql 80 1 false 79, qm 81 3, qm 82 0, qo 83 (.nck (.sl 82)), qf 84 1 83, ql 85 1 false 84, qo 86 (.ssl (.sl 80) (some (.sl 81)) (some (.sl 85))), qm 2 86]
 .ret))))) }
def F244 : CFn := { nt := 16, nk := 0, own := false, res := [.tmp 2], body := (
 qr [qc 2 (.bool false)]
 (qr [qm 3 0, qk 4 .rem 3 4, qk 5 .eql 4 0, qm 6 5, ⟨(some (6, true)), (some 7), .mv (.sl 0)⟩, ⟨(some (6, true)), (some 8), .bin .rem (.sl 7) (.k (.int .i64 100))⟩, ⟨(some (6, true)), (some 9), .bin .neq (.sl 8) (.k (.int .i64 0))⟩, ⟨(some (6, true)), (some 10), .mv (.sl 9)⟩, ⟨(some (10, false)), (some 11), .mv (.sl 0)⟩, ⟨(some (10, false)), (some 12), .bin .rem (.sl 11) (.k (.int .i64 400))⟩, ⟨(some (10, false)), (some 13), .bin .eql (.sl 12) (.k (.int .i64 0))⟩, ⟨(some (6, true)), (some 14), .pick (.sl 10) (.k (.bool true)) (.sl 13)⟩, qo 15 (.pick (.sl 6) (.sl 14) (.k (.bool false))), qm 2 15]
 .ret)) }
def F98 : CFn := { nt := 38, nk := 0, own := false, res := [.tmp 2], body := (
 qr [qc 2 (.str ⟨#[]⟩)]
 (.seq (qr [qm 3 0, qk 4 .lss 3 0]
 (qd 4 (.seq (qr [qm 5 0, qk 6 .gtr 5 (-10)]
 (qd 6 (qr [qm 7 0, qo 8 (.un .neg (.sl 7)), qo 9 (.call 98 [.sl 8] []), qo 10 (.bin .add (.k (.str ⟨#[45]⟩)) (.sl 9)), qm 2 10]
 .ret) .skip))
 (qr [qm 11 0, qk 12 .quo 11 10, qo 13 (.call 98 [.sl 12] []), qm 14 0, qk 15 .rem 14 10, qo 16 (.bin .sub (.k (.int .i64 48)) (.sl 15)), qo 17 (.toInt .u8 (.sl 16)), qo 18 (.bsl 5 1 [(.int .u8 0)] 1 [(0, 1, (.sl 17))]), qo 19 (.b2s (.sl 18)), qb 20 .add 13 19, qm 2 20]
 .ret)) .skip))
 (.seq (qr [qm 21 0, qk 22 .lss 21 10]
 (qd 22 (qr [qm 23 0, qo 24 (.bin .add (.k (.int .i64 48)) (.sl 23)), qo 25 (.toInt .u8 (.sl 24)), qo 26 (.bsl 5 1 [(.int .u8 0)] 1 [(0, 1, (.sl 25))]), qo 27 (.b2s (.sl 26)), qm 2 27]
 .ret) .skip))
 (qr [qm 28 0, qk 29 .quo 28 10, qo 30 (.call 98 [.sl 29] []), qm 31 0, qk 32 .rem 31 10, qo 33 (.bin .add (.k (.int .i64 48)) (.sl 32)), qo 34 (.toInt .u8 (.sl 33)), qo 35 (.bsl 5 1 [(.int .u8 0)] 1 [(0, 1, (.sl 34))]), qo 36 (.b2s (.sl 35)), qb 37 .add 30 36, qm 2 37]
 .ret)))) }
def F46 : CFn := { nt := 92, nk := 0, own := false, res := [.tmp 2], body := (
 qr [qo 1 (.box 2 (.sl 0)), qc 2 (.bool false)]
 (.seq (qr [qf 8 0 1, ql 9 1 false 8, qo 10 (.len (.sl 9)), qk 11 .gtr 10 200, qm 12 11, ⟨(some (12, false)), (some 13), .fad 1 (.sl 1)⟩, ⟨(some (12, false)), (some 14), .load 1 false (.sl 13)⟩, ⟨(some (12, false)), (some 15), .len (.sl 14)⟩, ⟨(some (12, false)), (some 16), .bin .gtr (.sl 15) (.k (.int .i64 400))⟩, qo 17 (.pick (.sl 12) (.k (.bool true)) (.sl 16))]
 (qd 17 (qr [qc 2 (.bool false)]
 .ret) .skip))
 (qr [qo 18 (.mkmap), qm 3 18]
 (.seq (qr [qf 19 0 1, ql 20 1 false 19, qo 21 (.len (.sl 20)), qi 22 0]
 (.block 0 (.loop (qr [qb 23 .lss 22 21]
 (.seq (qd 23 .skip (.exit 0))
 (.seq (.block 1 (qr [qm 24 22, qo 25 (.iad 3 (.sl 20) (.sl 22)), ql 26 3 true 25, qo 5 (.alloc [(.int .i64 0), qN, qN]), qm 4 24, qe (.store 3 (.sl 5) (.sl 26))]
 (.seq (qr [ql 27 3 true 5, qo 28 (.call 88 [.sl 27] []), qo 29 (.un .not (.sl 28)), qm 30 29, ⟨(some (30, false)), (some 31), .mv (.sl 4)⟩, ⟨(some (30, false)), (some 32), .bin .gtr (.sl 31) (.k (.int .i64 0))⟩, ⟨(some (30, false)), (some 33), .mv (.sl 32)⟩, ⟨(some (33, true)), (some 34), .fad 0 (.sl 1)⟩, ⟨(some (33, true)), (some 35), .load 1 false (.sl 34)⟩, ⟨(some (33, true)), (some 36), .mv (.sl 4)⟩, ⟨(some (33, true)), (some 37), .bin .sub (.sl 36) (.k (.int .i64 1))⟩, ⟨(some (33, true)), (some 38), .iad 3 (.sl 35) (.sl 37)⟩, ⟨(some (33, true)), (some 39), .fad 0 (.sl 38)⟩, ⟨(some (33, true)), (some 40), .load 1 false (.sl 39)⟩, ⟨(some (33, true)), (some 41), .fad 0 (.sl 5)⟩, ⟨(some (33, true)), (some 42), .load 1 false (.sl 41)⟩, ⟨(some (33, true)), (some 43), .bin .geq (.sl 40) (.sl 42)⟩, ⟨(some (30, false)), (some 44), .pick (.sl 33) (.sl 43) (.k (.bool false))⟩, qo 45 (.pick (.sl 30) (.k (.bool true)) (.sl 44))]
 (qd 45 (qr [qc 2 (.bool false)]
 .ret) .skip))
 (.reg [qm 46 3, qf 47 0 5, ql 48 1 false 47, qe (.mpset 0 (.sl 46) (.sl 48) (.k (.int .i64 1)))] []))))
 (.reg [qk 49 .add 22 1, qm 22 49] [])))))))
 (.seq (qr [qf 50 1 1, ql 51 1 false 50, qo 52 (.len (.sl 51)), qi 53 0]
 (.block 2 (.loop (qr [qb 54 .lss 53 52]
 (.seq (qd 54 .skip (.exit 2))
 (.seq (.block 3 (qr [qm 55 53, qo 56 (.iad 5 (.sl 51) (.sl 53)), ql 57 5 true 56, qo 7 (.alloc [(.int .i64 0), (.str ⟨#[]⟩), (.int .i64 0), (.int .i64 0), qN]), qm 6 55, qe (.store 5 (.sl 7) (.sl 57))]
 (qr [ql 58 5 true 7, qo 59 (.call 89 [.sl 58] []), qo 60 (.un .not (.sl 59)), qm 61 60, ⟨(some (61, false)), (some 62), .mv (.sl 6)⟩, ⟨(some (61, false)), (some 63), .bin .gtr (.sl 62) (.k (.int .i64 0))⟩, ⟨(some (61, false)), (some 64), .mv (.sl 63)⟩, ⟨(some (64, true)), (some 65), .fad 1 (.sl 1)⟩, ⟨(some (64, true)), (some 66), .load 1 false (.sl 65)⟩, ⟨(some (64, true)), (some 67), .mv (.sl 6)⟩, ⟨(some (64, true)), (some 68), .bin .sub (.sl 67) (.k (.int .i64 1))⟩, ⟨(some (64, true)), (some 69), .iad 5 (.sl 66) (.sl 68)⟩, ⟨(some (64, true)), (some 70), .fad 0 (.sl 69)⟩, ⟨(some (64, true)), (some 71), .load 1 false (.sl 70)⟩, ⟨(some (64, true)), (some 72), .fad 0 (.sl 7)⟩, ⟨(some (64, true)), (some 73), .load 1 false (.sl 72)⟩, ⟨(some (64, true)), (some 74), .bin .geq (.sl 71) (.sl 73)⟩, ⟨(some (61, false)), (some 75), .pick (.sl 64) (.sl 74) (.k (.bool false))⟩, qo 76 (.pick (.sl 61) (.k (.bool true)) (.sl 75)), qm 77 76, ⟨(some (77, false)), (some 78), .mv (.sl 3)⟩, ⟨(some (77, false)), (some 79), .fad 2 (.sl 7)⟩, ⟨(some (77, false)), (some 80), .load 1 false (.sl 79)⟩, ⟨(some (77, false)), (some 81), .mpget false (.int .i64 0) 0 (.sl 78) (.sl 80)⟩, ⟨(some (77, false)), (some 82), .bin .eql (.sl 81) (.k (.int .i64 0))⟩, qo 83 (.pick (.sl 77) (.k (.bool true)) (.sl 82)), qm 84 83, ⟨(some (84, false)), (some 85), .mv (.sl 3)⟩, ⟨(some (84, false)), (some 86), .fad 3 (.sl 7)⟩, ⟨(some (84, false)), (some 87), .load 1 false (.sl 86)⟩, ⟨(some (84, false)), (some 88), .mpget false (.int .i64 0) 0 (.sl 85) (.sl 87)⟩, ⟨(some (84, false)), (some 89), .bin .eql (.sl 88) (.k (.int .i64 0))⟩, qo 90 (.pick (.sl 84) (.k (.bool true)) (.sl 89))]
 (qd 90 (qr [qc 2 (.bool false)]
 .ret) .skip))))
 (.reg [qk 91 .add 53 1, qm 53 91] [])))))))
 (qr [qc 2 (.bool true)]
 .ret)))))) }
def F88 : CFn := { nt := 16, nk := 0, own := false, res := [.tmp 2], body := (
 qr [qo 1 (.box 3 (.sl 0)), qc 2 (.bool false)]
 (qr [qf 3 0 1, ql 4 1 false 3, qo 5 (.call 124 [.sl 4] []), qm 6 5, ⟨(some (6, true)), (some 7), .fad 1 (.sl 1)⟩, ⟨(some (6, true)), (some 8), .load 1 false (.sl 7)⟩, ⟨(some (6, true)), (some 9), .call 125 [(.sl 8), (.k (.int .i64 10))] []⟩, qo 10 (.pick (.sl 6) (.sl 9) (.k (.bool false))), qm 11 10, ⟨(some (11, true)), (some 12), .fad 2 (.sl 1)⟩, ⟨(some (11, true)), (some 13), .load 1 false (.sl 12)⟩, ⟨(some (11, true)), (some 14), .call 126 [.sl 13] []⟩, qo 15 (.pick (.sl 11) (.sl 14) (.k (.bool false))), qm 2 15]
 .ret)) }
def F89 : CFn := { nt := 26, nk := 0, own := false, res := [.tmp 2], body := (
 qr [qo 1 (.box 5 (.sl 0)), qc 2 (.bool false)]
 (qr [qf 3 0 1, ql 4 1 false 3, qo 5 (.call 124 [.sl 4] []), qm 6 5, ⟨(some (6, true)), (some 7), .fad 1 (.sl 1)⟩, ⟨(some (6, true)), (some 8), .load 1 false (.sl 7)⟩, ⟨(some (6, true)), (some 9), .call 127 [.sl 8] []⟩, qo 10 (.pick (.sl 6) (.sl 9) (.k (.bool false))), qm 11 10, ⟨(some (11, true)), (some 12), .fad 2 (.sl 1)⟩, ⟨(some (11, true)), (some 13), .load 1 false (.sl 12)⟩, ⟨(some (11, true)), (some 14), .call 124 [.sl 13] []⟩, qo 15 (.pick (.sl 11) (.sl 14) (.k (.bool false))), qm 16 15, ⟨(some (16, true)), (some 17), .fad 3 (.sl 1)⟩, ⟨(some (16, true)), (some 18), .load 1 false (.sl 17)⟩, ⟨(some (16, true)), (some 19), .call 124 [.sl 18] []⟩, qo 20 (.pick (.sl 16) (.sl 19) (.k (.bool false))), qm 21 20, ⟨(some (21, true)), (some 22), .fad 4 (.sl 1)⟩, ⟨(some (21, true)), (some 23), .load 1 false (.sl 22)⟩, ⟨(some (21, true)), (some 24), .call 126 [.sl 23] []⟩, qo 25 (.pick (.sl 21) (.sl 24) (.k (.bool false))), qm 2 25]
 .ret)) }
def F90 : CFn := { nt := 21, nk := 0, own := false, res := [.tmp 4], body := (
 qr [qo 2 (.box 2 (.sl 0)), qi 4 0]
 (.seq (qr [qf 7 0 2, ql 8 1 false 7, qo 9 (.len (.sl 8)), qi 10 0]
 (.block 0 (.loop (qr [qb 11 .lss 10 9]
 (.seq (qd 11 .skip (.exit 0))
 (.seq (.block 1 (qr [qm 12 10, qo 13 (.iad 3 (.sl 8) (.sl 10)), ql 14 3 true 13, qo 6 (.alloc [(.int .i64 0), qN, qN]), qm 5 12, qe (.store 3 (.sl 6) (.sl 14))]
 (qr [qf 15 0 6, ql 16 1 false 15, qm 17 1, qb 18 .eql 16 17]
 (qd 18 (qr [qm 19 5, qm 4 19]
 .ret) .skip))))
 (.reg [qk 20 .add 10 1, qm 10 20] [])))))))
 (qr [qi 4 (-1)]
 .ret))) }
def F92 : CFn := { nt := 5, nk := 0, own := false, res := [.tmp 2], body := (
 qr [qo 1 (.box 3 (.sl 0)), qi 2 0]
 (qr [qf 3 0 1, ql 4 1 false 3, qm 2 4]
 .ret)) }
def F124 : CFn := { nt := 9, nk := 0, own := false, res := [.tmp 2], body := (
 qr [qc 2 (.bool false)]
 (qr [qm 3 0, qk 4 .geq 3 1, qm 5 4, ⟨(some (5, true)), (some 6), .mv (.sl 0)⟩, ⟨(some (5, true)), (some 7), .bin .leq (.sl 6) (.k (.int .i64 1000000000000))⟩, qo 8 (.pick (.sl 5) (.sl 7) (.k (.bool false))), qm 2 8]
 .ret)) }
def F125 : CFn := { nt := 35, nk := 0, own := false, res := [.tmp 4], body := (
 qr [qc 4 (.bool false)]
 (.seq (qr [qm 7 0, qo 8 (.len (.sl 7)), qm 9 1, qb 10 .gtr 8 9]
 (qd 10 (qr [qc 4 (.bool false)]
 .ret) .skip))
 (.seq (qr [qm 11 0, qo 12 (.len (.sl 11)), qi 13 0]
 (.block 0 (.loop (qr [qb 14 .lss 13 12]
 (.seq (qd 14 .skip (.exit 0))
 (.seq (.block 1 (qr [qm 15 13, qo 16 (.iad 1 (.sl 11) (.sl 13)), ql 17 1 false 16, qm 5 15, qm 6 17]
 (qr [qm 18 6, qo 19 (.call 127 [.sl 18] []), qo 20 (.un .not (.sl 19)), qm 21 20, ⟨(some (21, false)), (some 22), .mv (.sl 5)⟩, ⟨(some (21, false)), (some 23), .bin .gtr (.sl 22) (.k (.int .i64 0))⟩, ⟨(some (21, false)), (some 24), .mv (.sl 23)⟩, ⟨(some (24, true)), (some 25), .mv (.sl 0)⟩, ⟨(some (24, true)), (some 26), .mv (.sl 5)⟩, ⟨(some (24, true)), (some 27), .bin .sub (.sl 26) (.k (.int .i64 1))⟩, ⟨(some (24, true)), (some 28), .iad 1 (.sl 25) (.sl 27)⟩, ⟨(some (24, true)), (some 29), .load 1 false (.sl 28)⟩, ⟨(some (24, true)), (some 30), .mv (.sl 6)⟩, ⟨(some (24, true)), (some 31), .bin .geq (.sl 29) (.sl 30)⟩, ⟨(some (21, false)), (some 32), .pick (.sl 24) (.sl 31) (.k (.bool false))⟩, qo 33 (.pick (.sl 21) (.k (.bool true)) (.sl 32))]
 (qd 33 (qr [qc 4 (.bool false)]
 .ret) .skip))))
 (.reg [qk 34 .add 13 1, qm 13 34] [])))))))
 (qr [qc 4 (.bool true)]
 .ret)))) }
def F126 : CFn := { nt := 41, nk := 0, own := false, res := [.tmp 2], body := (
 qr [qc 2 (.bool false)]
 (.seq (qr [qm 5 0, qo 6 (.len (.sl 5)), qk 7 .gtr 6 20]
 (qd 7 (qr [qc 2 (.bool false)]
 .ret) .skip))
 (.seq (qr [qm 8 0, qo 9 (.len (.sl 8)), qi 10 0]
 (.block 0 (.loop (qr [qb 11 .lss 10 9]
 (.seq (qd 11 .skip (.exit 0))
 (.seq (.block 1 (qr [qm 12 10, qo 13 (.iad 2 (.sl 8) (.sl 10)), ql 14 2 true 13, qo 4 (.alloc [(.str ⟨#[]⟩), (.str ⟨#[]⟩)]), qm 3 12, qe (.store 2 (.sl 4) (.sl 14))]
 (qr [qf 15 0 4, ql 16 1 false 15, qo 17 (.call 127 [.sl 16] []), qo 18 (.un .not (.sl 17)), qm 19 18, ⟨(some (19, false)), (some 20), .mv (.sl 3)⟩, ⟨(some (19, false)), (some 21), .bin .gtr (.sl 20) (.k (.int .i64 0))⟩, ⟨(some (19, false)), (some 22), .mv (.sl 21)⟩, ⟨(some (22, true)), (some 23), .mv (.sl 0)⟩, ⟨(some (22, true)), (some 24), .mv (.sl 3)⟩, ⟨(some (22, true)), (some 25), .bin .sub (.sl 24) (.k (.int .i64 1))⟩, ⟨(some (22, true)), (some 26), .iad 2 (.sl 23) (.sl 25)⟩, ⟨(some (22, true)), (some 27), .fad 0 (.sl 26)⟩, ⟨(some (22, true)), (some 28), .load 1 false (.sl 27)⟩, ⟨(some (22, true)), (some 29), .fad 0 (.sl 4)⟩, ⟨(some (22, true)), (some 30), .load 1 false (.sl 29)⟩, ⟨(some (22, true)), (some 31), .bin .geq (.sl 28) (.sl 30)⟩, ⟨(some (19, false)), (some 32), .pick (.sl 22) (.sl 31) (.k (.bool false))⟩, qo 33 (.pick (.sl 19) (.k (.bool true)) (.sl 32)), qm 34 33, ⟨(some (34, false)), (some 35), .fad 1 (.sl 4)⟩, ⟨(some (34, false)), (some 36), .load 1 false (.sl 35)⟩, ⟨(some (34, false)), (some 37), .call 171 [.sl 36] []⟩, ⟨(some (34, false)), (some 38), .un .not (.sl 37)⟩, qo 39 (.pick (.sl 34) (.k (.bool true)) (.sl 38))]
 (qd 39 (qr [qc 2 (.bool false)]
 .ret) .skip))))
 (.reg [qk 40 .add 10 1, qm 10 40] [])))))))
 (qr [qc 2 (.bool true)]
 .ret)))) }
def F127 : CFn := { nt := 42, nk := 0, own := false, res := [.tmp 2], body := (
 qr [qc 2 (.bool false)]
 (.seq (qr [qm 4 0, qo 5 (.slen (.sl 4)), qk 6 .lss 5 1, qm 7 6, ⟨(some (7, false)), (some 8), .mv (.sl 0)⟩, ⟨(some (7, false)), (some 9), .slen (.sl 8)⟩, ⟨(some (7, false)), (some 10), .bin .gtr (.sl 9) (.k (.int .i64 20))⟩, qo 11 (.pick (.sl 7) (.k (.bool true)) (.sl 10)), qm 12 11, ⟨(some (12, false)), (some 13), .mv (.sl 0)⟩, ⟨(some (12, false)), (some 14), .sidx (.sl 13) (.k (.int .i64 0))⟩, ⟨(some (12, false)), (some 15), .call 172 [.sl 14] []⟩, ⟨(some (12, false)), (some 16), .un .not (.sl 15)⟩, qo 17 (.pick (.sl 12) (.k (.bool true)) (.sl 16))]
 (qd 17 (qr [qc 2 (.bool false)]
 .ret) .skip))
 (.seq (qr [qm 18 0, qo 19 (.slen (.sl 18)), qi 20 0]
 (.block 0 (.loop (qr [qb 21 .lss 20 19]
 (.seq (qd 21 .skip (.exit 0))
 (.seq (.block 1 (qr [qm 22 20, qm 3 22]
 (qr [qm 23 0, qm 24 3, qo 25 (.sidx (.sl 23) (.sl 24)), qo 26 (.call 172 [.sl 25] []), qo 27 (.un .not (.sl 26)), qm 28 27, ⟨(some (28, true)), (some 29), .mv (.sl 0)⟩, ⟨(some (28, true)), (some 30), .mv (.sl 3)⟩, ⟨(some (28, true)), (some 31), .sidx (.sl 29) (.sl 30)⟩, ⟨(some (28, true)), (some 32), .call 173 [.sl 31] []⟩, ⟨(some (28, true)), (some 33), .un .not (.sl 32)⟩, qo 34 (.pick (.sl 28) (.sl 33) (.k (.bool false))), qm 35 34, ⟨(some (35, true)), (some 36), .mv (.sl 0)⟩, ⟨(some (35, true)), (some 37), .mv (.sl 3)⟩, ⟨(some (35, true)), (some 38), .sidx (.sl 36) (.sl 37)⟩, ⟨(some (35, true)), (some 39), .bin .neq (.sl 38) (.k (.int .u8 95))⟩, qo 40 (.pick (.sl 35) (.sl 39) (.k (.bool false)))]
 (qd 40 (qr [qc 2 (.bool false)]
 .ret) .skip))))
 (.reg [qk 41 .add 20 1, qm 20 41] [])))))))
 (qr [qc 2 (.bool true)]
 .ret)))) }
def F171 : CFn := { nt := 21, nk := 0, own := false, res := [.tmp 2], body := (
 qr [qc 2 (.bool false)]
 (qr [qm 6 0, qo 7 (.call 188 [.sl 6] []), qm 5 7, qo 8 (.ext (.sl 5) 0), qo 9 (.ext (.sl 5) 1), qo 3 (.alloc [(.int .i64 0), (.int .i64 0), (.int .i64 0), (.str ⟨#[]⟩), qN, qN]), qe (.store 6 (.sl 3) (.sl 8)), qm 4 9]
 (qr [qm 10 4, qm 11 10, ⟨(some (11, true)), (some 12), .fad 0 (.sl 3)⟩, ⟨(some (11, true)), (some 13), .load 1 false (.sl 12)⟩, ⟨(some (11, true)), (some 14), .bin .neq (.sl 13) (.k (.int .i64 0))⟩, qo 15 (.pick (.sl 11) (.sl 14) (.k (.bool false))), qm 16 15, ⟨(some (16, true)), (some 17), .load 6 true (.sl 3)⟩, ⟨(some (16, true)), (some 18), .call 192 [.sl 17] []⟩, ⟨(some (16, true)), (some 19), .un .not (.sl 18)⟩, qo 20 (.pick (.sl 16) (.sl 19) (.k (.bool false))), qm 2 20]
 .ret))) }
def F172 : CFn := { nt := 17, nk := 0, own := false, res := [.tmp 2], body := (
 qr [qc 2 (.bool false)]
 (qr [qm 3 0, qo 4 (.bin .geq (.sl 3) (.k (.int .u8 97))), qm 5 4, ⟨(some (5, true)), (some 6), .mv (.sl 0)⟩, ⟨(some (5, true)), (some 7), .bin .leq (.sl 6) (.k (.int .u8 122))⟩, qo 8 (.pick (.sl 5) (.sl 7) (.k (.bool false))), qm 9 8, ⟨(some (9, false)), (some 10), .mv (.sl 0)⟩, ⟨(some (9, false)), (some 11), .bin .geq (.sl 10) (.k (.int .u8 65))⟩, ⟨(some (9, false)), (some 12), .mv (.sl 11)⟩, ⟨(some (12, true)), (some 13), .mv (.sl 0)⟩, ⟨(some (12, true)), (some 14), .bin .leq (.sl 13) (.k (.int .u8 90))⟩, ⟨(some (9, false)), (some 15), .pick (.sl 12) (.sl 14) (.k (.bool false))⟩, qo 16 (.pick (.sl 9) (.k (.bool true)) (.sl 15)), qm 2 16]
 .ret)) }
def F173 : CFn := { nt := 9, nk := 0, own := false, res := [.tmp 2], body := (
 qr [qc 2 (.bool false)]
 (qr [qm 3 0, qo 4 (.bin .geq (.sl 3) (.k (.int .u8 48))), qm 5 4, ⟨(some (5, true)), (some 6), .mv (.sl 0)⟩, ⟨(some (5, true)), (some 7), .bin .leq (.sl 6) (.k (.int .u8 57))⟩, qo 8 (.pick (.sl 5) (.sl 7) (.k (.bool false))), qm 2 8]
 .ret)) }
def F188 : CFn := { nt := 30, nk := 0, own := false, res := [.cell 2 6 true, .tmp 3], body := (
 qr [qo 2 (.alloc [(.int .i64 0), (.int .i64 0), (.int .i64 0), (.str ⟨#[]⟩), qN, qN]), qc 3 (.bool false)]
 (.seq (qr [qm 7 0, qo 8 (.slen (.sl 7)), qk 9 .gtr 8 2000]
 (qd 9 (qr [qo 10 (.build [(.int .i64 0), (.int .i64 0), (.int .i64 0), (.str ⟨#[]⟩), qN, qN] []), qe (.store 6 (.sl 2) (.sl 10)), qc 3 (.bool false)]
 .ret) .skip))
 (qr [qm 11 0, qo 12 (.build [(.str ⟨#[]⟩), (.int .i64 0)] [(0, 1, (.sl 11))]), qo 13 (.box 2 (.sl 12)), qm 4 13]
 (qr [qm 15 4, qo 16 (.call 201 [(.sl 15), (.k (.int .i64 0))] []), qm 14 16, qo 17 (.ext (.sl 14) 0), qo 18 (.ext (.sl 14) 1), qo 5 (.alloc [(.int .i64 0), (.int .i64 0), (.int .i64 0), (.str ⟨#[]⟩), qN, qN]), qe (.store 6 (.sl 5) (.sl 17)), qm 6 18]
 (.seq (.reg [ql 19 6 true 5, qm 20 6, qm 21 20, ⟨(some (21, true)), (some 22), .mv (.sl 4)⟩, ⟨(some (21, true)), (some 23), .nck (.sl 22)⟩, ⟨(some (21, true)), (some 24), .fad 1 (.sl 23)⟩, ⟨(some (21, true)), (some 25), .load 1 false (.sl 24)⟩, ⟨(some (21, true)), (some 26), .mv (.sl 0)⟩, ⟨(some (21, true)), (some 27), .slen (.sl 26)⟩, ⟨(some (21, true)), (some 28), .bin .eql (.sl 25) (.sl 27)⟩, qo 29 (.pick (.sl 21) (.sl 28) (.k (.bool false))), qe (.store 6 (.sl 2) (.sl 19)), qm 3 29] [(6, 11)])
 .ret))))) }
def F192 : CFn := { nt := 18, nk := 0, own := false, res := [.tmp 2], body := (
 qr [qo 1 (.box 6 (.sl 0)), qc 2 (.bool false)]
 (.seq (qr [qf 5 0 1, ql 6 1 false 5, qk 7 .geq 6 8]
 (qd 7 (qr [qc 2 (.bool true)]
 .ret) .skip))
 (.seq (qr [qf 8 5 1, ql 9 1 false 8, qo 10 (.len (.sl 9)), qi 11 0]
 (.block 0 (.loop (qr [qb 12 .lss 11 10]
 (.seq (qd 12 .skip (.exit 0))
 (.seq (.block 1 (qr [qo 13 (.iad 6 (.sl 9) (.sl 11)), ql 14 6 true 13, qo 4 (.alloc [(.int .i64 0), (.int .i64 0), (.int .i64 0), (.str ⟨#[]⟩), qN, qN]), qe (.store 6 (.sl 4) (.sl 14))]
 (qr [ql 15 6 true 4, qo 16 (.call 192 [.sl 15] [])]
 (qd 16 (qr [qc 2 (.bool true)]
 .ret) .skip))))
 (.reg [qk 17 .add 11 1, qm 11 17] [])))))))
 (qr [qc 2 (.bool false)]
 .ret)))) }
def F201 : CFn := { nt := 106, nk := 1, own := false, res := [.cell 4 6 true, .tmp 5], body := (
 qr [qo 4 (.alloc [(.int .i64 0), (.int .i64 0), (.int .i64 0), (.str ⟨#[]⟩), qN, qN]), qc 5 (.bool false)]
 (.seq (qr [qm 13 0, qo 14 (.call 218 [.sl 13] []), qm 6 14]
 (.block 0 (qr [qm 16 6, qo 17 (.bin .eql (.sl 16) (.k (.int .u8 34))), qm 15 17]
 (qd 15 (qr [qm 19 0, qo 20 (.call 219 [.sl 19] []), qm 18 20, qo 21 (.ext (.sl 18) 0), qo 22 (.ext (.sl 18) 1), qm 7 21, qm 8 22]
 (qr [qm 23 7, qo 24 (.build [(.int .i64 0), (.int .i64 0), (.int .i64 0), (.str ⟨#[]⟩), qN, qN] [(0, 1, (.k (.int .i64 3))), (3, 1, (.sl 23))]), qm 25 8, qe (.store 6 (.sl 4) (.sl 24)), qm 5 25]
 .ret)) (qr [qm 27 6, qo 28 (.bin .eql (.sl 27) (.k (.int .u8 64))), qm 26 28]
 (qd 26 (qr [qm 30 0, qo 31 (.call 220 [.sl 30] []), qm 29 31, qo 32 (.ext (.sl 29) 0), qo 33 (.ext (.sl 29) 1), qm 9 32, qm 10 33]
 (qr [qm 34 9, qo 35 (.build [(.int .i64 0), (.int .i64 0), (.int .i64 0), (.str ⟨#[]⟩), qN, qN] [(0, 1, (.k (.int .i64 4))), (1, 1, (.sl 34))]), qm 36 10, qe (.store 6 (.sl 4) (.sl 35)), qm 5 36]
 .ret)) (qr [qm 38 6, qo 39 (.bin .eql (.sl 38) (.k (.int .u8 45))), qm 40 39, ⟨(some (40, false)), (some 41), .mv (.sl 6)⟩, ⟨(some (40, false)), (some 42), .call 173 [.sl 41] []⟩, qo 43 (.pick (.sl 40) (.k (.bool true)) (.sl 42)), qm 37 43]
 (qd 37 (qr [qm 45 0, qo 46 (.call 221 [.sl 45] []), qm 44 46, qo 47 (.ext (.sl 44) 0), qo 48 (.ext (.sl 44) 1), qm 11 47, qm 12 48]
 (qr [qm 49 11, qo 50 (.build [(.int .i64 0), (.int .i64 0), (.int .i64 0), (.str ⟨#[]⟩), qN, qN] [(0, 1, (.k (.int .i64 2))), (1, 1, (.sl 49))]), qm 51 12, qe (.store 6 (.sl 4) (.sl 50)), qm 5 51]
 .ret)) (qr [qm 53 6, qo 54 (.bin .eql (.sl 53) (.k (.int .u8 40))), qm 52 54]
 (qd 52 (qr [qm 55 0, qo 56 (.call 222 [.sl 55] []), qo 57 (.ext (.sl 56) 0), qo 58 (.ext (.sl 56) 1), qe (.store 6 (.sl 4) (.sl 57)), qm 5 58]
 .ret) (qr [qm 60 6, qo 61 (.bin .eql (.sl 60) (.k (.int .u8 91))), qm 59 61]
 (qd 59 (qr [qm 62 0, qm 63 1, qo 64 (.call 223 [(.sl 62), (.sl 63)] []), qo 65 (.ext (.sl 64) 0), qo 66 (.ext (.sl 64) 1), qe (.store 6 (.sl 4) (.sl 65)), qm 5 66]
 .ret) (qr [qm 68 6, qo 69 (.bin .eql (.sl 68) (.k (.int .u8 123))), qm 67 69]
 (qd 67 (qr [qm 70 0, qm 71 1, qo 72 (.call 224 [(.sl 70), (.sl 71)] []), qo 73 (.ext (.sl 72) 0), qo 74 (.ext (.sl 72) 1), qe (.store 6 (.sl 4) (.sl 73)), qm 5 74]
 .ret) (qr [qm 76 6, qo 77 (.bin .eql (.sl 76) (.k (.int .u8 60))), qm 75 77]
 (qd 75 (qr [qm 78 0, qo 79 (.call 225 [.sl 78] []), qo 80 (.ext (.sl 79) 0), qo 81 (.ext (.sl 79) 1), qe (.store 6 (.sl 4) (.sl 80)), qm 5 81]
 .ret) (qr [qm 83 0, qo 84 (.call 226 [(.sl 83), (.k (.str ⟨#[110, 117, 108, 108]⟩))] []), qm 82 84]
 (qd 82 (qr [qo 85 (.build [(.int .i64 0), (.int .i64 0), (.int .i64 0), (.str ⟨#[]⟩), qN, qN] []), qe (.store 6 (.sl 4) (.sl 85)), qc 5 (.bool true)]
 .ret) (qr [qm 87 0, qo 88 (.call 226 [(.sl 87), (.k (.str ⟨#[116, 114, 117, 101]⟩))] []), qm 86 88]
 (qd 86 (qr [qo 89 (.build [(.int .i64 0), (.int .i64 0), (.int .i64 0), (.str ⟨#[]⟩), qN, qN] [(0, 1, (.k (.int .i64 1))), (1, 1, (.k (.int .i64 1)))]), qe (.store 6 (.sl 4) (.sl 89)), qc 5 (.bool true)]
 .ret) (qr [qm 91 0, qo 92 (.call 226 [(.sl 91), (.k (.str ⟨#[102, 97, 108, 115, 101]⟩))] []), qm 90 92]
 (qd 90 (qr [qo 93 (.build [(.int .i64 0), (.int .i64 0), (.int .i64 0), (.str ⟨#[]⟩), qN, qN] [(0, 1, (.k (.int .i64 1)))]), qe (.store 6 (.sl 4) (.sl 93)), qc 5 (.bool true)]
 .ret) (qr [qm 95 6, qo 96 (.bin .eql (.sl 95) (.k (.int .u8 110))), qm 97 96, ⟨(some (97, false)), (some 98), .mv (.sl 6)⟩, ⟨(some (97, false)), (some 99), .bin .eql (.sl 98) (.k (.int .u8 101))⟩, qo 100 (.pick (.sl 97) (.k (.bool true)) (.sl 99)), qm 94 100]
 (qd 94 (qr [qm 101 0, qo 102 (.call 227 [.sl 101] []), qo 103 (.ext (.sl 102) 0), qo 104 (.ext (.sl 102) 1), qe (.store 6 (.sl 4) (.sl 103)), qm 5 104]
 .ret) .skip))))))))))))))))))))))))
 (qr [qo 105 (.build [(.int .i64 0), (.int .i64 0), (.int .i64 0), (.str ⟨#[]⟩), qN, qN] []), qe (.store 6 (.sl 4) (.sl 105)), qc 5 (.bool false)]
 .ret))) }
def F218 : CFn := { nt := 22, nk := 1, own := false, res := [.tmp 2], body := (
 qr [qc 2 (.int .u8 0)]
 (.seq (qr [qm 3 0, qo 4 (.nck (.sl 3)), qf 5 1 4, ql 6 1 false 5, qm 7 0, qo 8 (.nck (.sl 7)), qf 9 0 8, ql 10 1 false 9, qo 11 (.slen (.sl 10)), qb 12 .lss 6 11]
 (qd 12 (qr [qm 13 0, qo 14 (.nck (.sl 13)), qf 15 0 14, ql 16 1 false 15, qm 17 0, qo 18 (.nck (.sl 17)), qf 19 1 18, ql 20 1 false 19, qo 21 (.sidx (.sl 16) (.sl 20)), qm 2 21]
 .ret) .skip))
 (qr [qc 2 (.int .u8 0)]
 .ret))) }
def F219 : CFn := { nt := 79, nk := 1, own := false, res := [.tmp 2, .tmp 3], body := (
 qr [qc 2 (.str ⟨#[]⟩), qc 3 (.bool false)]
 (.seq (qr [qm 6 0, qo 7 (.call 226 [(.sl 6), (.k (.str ⟨#[34]⟩))] []), qo 8 (.un .not (.sl 7))]
 (qd 8 (qr [qc 2 (.str ⟨#[]⟩), qc 3 (.bool false)]
 .ret) .skip))
 (qr [qc 4 qN]
 (.seq (.block 0 (.loop (.seq (qr [qm 9 0, qo 10 (.nck (.sl 9)), qf 11 1 10, ql 12 1 false 11, qm 13 0, qo 14 (.nck (.sl 13)), qf 15 0 14, ql 16 1 false 15, qo 17 (.slen (.sl 16)), qb 18 .lss 12 17]
 (qd 18 .skip (.exit 0)))
 (.block 1 (qr [qm 19 0, qo 20 (.nck (.sl 19)), qf 21 0 20, ql 22 1 false 21, qm 23 0, qo 24 (.nck (.sl 23)), qf 25 1 24, ql 26 1 false 25, qo 27 (.sidx (.sl 22) (.sl 26)), qm 5 27]
 (qr [qm 28 0, qo 29 (.nck (.sl 28)), qf 30 1 29, ql 31 1 false 30, qk 32 .add 31 1, qo 33 (.nck (.sl 28)), qf 34 1 33, qe (.store 1 (.sl 34) (.sl 32))]
 (.block 2 (qr [qm 40 5, qo 41 (.bin .eql (.sl 40) (.k (.int .u8 34))), qm 39 41]
 (qd 39 (qr [qm 42 4, qo 43 (.b2s (.sl 42)), qm 2 43, qc 3 (.bool true)]
 .ret) (qr [qm 45 5, qo 46 (.bin .eql (.sl 45) (.k (.int .u8 92))), qm 44 46]
 (qd 44 (.seq (qr [qm 47 0, qo 48 (.call 218 [.sl 47] [])]
 (.block 3 (.seq (qr [qo 50 (.bin .eql (.sl 48) (.k (.int .u8 34))), qm 49 50]
 (qd 49 .skip (.reg [qo 51 (.bin .eql (.sl 48) (.k (.int .u8 92))), qm 49 51] [])))
 (qd 49 (.reg [qm 52 4, qm 53 0, qo 54 (.nck (.sl 53)), qf 55 0 54, ql 56 1 false 55, qm 57 0, qo 58 (.nck (.sl 57)), qf 59 1 58, ql 60 1 false 59, qo 61 (.sidx (.sl 56) (.sl 60)), qo 62 (.bsl 5 1 [(.int .u8 0)] 1 [(0, 1, (.sl 61))]), qo 63 (.app 5 1 1 (.sl 52) (.sl 62)), qm 4 63] []) (qr [qo 65 (.bin .eql (.sl 48) (.k (.int .u8 110))), qm 64 65]
 (qd 64 (.reg [qm 66 4, qo 67 (.bsl 5 1 [(.int .u8 0)] 1 [(0, 1, (.k (.int .u8 10)))]), qo 68 (.app 5 1 1 (.sl 66) (.sl 67)), qm 4 68] []) (qr [qc 2 (.str ⟨#[]⟩), qc 3 (.bool false)]
 .ret)))))))
 (.reg [qm 69 0, qo 70 (.nck (.sl 69)), qf 71 1 70, ql 72 1 false 71, qk 73 .add 72 1, qo 74 (.nck (.sl 69)), qf 75 1 74, qe (.store 1 (.sl 75) (.sl 73))] [])) (qr [qm 77 5, qo 78 (.bin .lss (.sl 77) (.k (.int .u8 32))), qm 76 78]
 (qd 76 (qr [qc 2 (.str ⟨#[]⟩), qc 3 (.bool false)]
 .ret) (.reg [qm 35 4, qm 36 5, qo 37 (.bsl 5 1 [(.int .u8 0)] 1 [(0, 1, (.sl 36))]), qo 38 (.app 5 1 1 (.sl 35) (.sl 37)), qm 4 38] []))))))))))))))
 (qr [qc 2 (.str ⟨#[]⟩), qc 3 (.bool false)]
 .ret))))) }
def F220 : CFn := { nt := 117, nk := 1, own := false, res := [.tmp 2, .tmp 3], body := (
 qr [qi 2 0, qc 3 (.bool false)]
 (.seq (qr [qm 9 0, qo 10 (.nck (.sl 9)), qf 11 0 10, ql 12 1 false 11, qo 13 (.slen (.sl 12)), qm 14 0, qo 15 (.nck (.sl 14)), qf 16 1 15, ql 17 1 false 16, qb 18 .sub 13 17, qk 19 .lss 18 11, qm 20 19, ⟨(some (20, false)), (some 21), .mv (.sl 0)⟩, ⟨(some (20, false)), (some 22), .nck (.sl 21)⟩, ⟨(some (20, false)), (some 23), .fad 0 (.sl 22)⟩, ⟨(some (20, false)), (some 24), .load 1 false (.sl 23)⟩, ⟨(some (20, false)), (some 25), .mv (.sl 0)⟩, ⟨(some (20, false)), (some 26), .nck (.sl 25)⟩, ⟨(some (20, false)), (some 27), .fad 1 (.sl 26)⟩, ⟨(some (20, false)), (some 28), .load 1 false (.sl 27)⟩, ⟨(some (20, false)), (some 29), .sidx (.sl 24) (.sl 28)⟩, ⟨(some (20, false)), (some 30), .bin .neq (.sl 29) (.k (.int .u8 64))⟩, qo 31 (.pick (.sl 20) (.k (.bool true)) (.sl 30)), qm 32 31, ⟨(some (32, false)), (some 33), .mv (.sl 0)⟩, ⟨(some (32, false)), (some 34), .nck (.sl 33)⟩, ⟨(some (32, false)), (some 35), .fad 0 (.sl 34)⟩, ⟨(some (32, false)), (some 36), .load 1 false (.sl 35)⟩, ⟨(some (32, false)), (some 37), .mv (.sl 0)⟩, ⟨(some (32, false)), (some 38), .nck (.sl 37)⟩, ⟨(some (32, false)), (some 39), .fad 1 (.sl 38)⟩, ⟨(some (32, false)), (some 40), .load 1 false (.sl 39)⟩, ⟨(some (32, false)), (some 41), .bin .add (.sl 40) (.k (.int .i64 5))⟩, ⟨(some (32, false)), (some 42), .sidx (.sl 36) (.sl 41)⟩, ⟨(some (32, false)), (some 43), .bin .neq (.sl 42) (.k (.int .u8 45))⟩, qo 44 (.pick (.sl 32) (.k (.bool true)) (.sl 43)), qm 45 44, ⟨(some (45, false)), (some 46), .mv (.sl 0)⟩, ⟨(some (45, false)), (some 47), .nck (.sl 46)⟩, ⟨(some (45, false)), (some 48), .fad 0 (.sl 47)⟩, ⟨(some (45, false)), (some 49), .load 1 false (.sl 48)⟩, ⟨(some (45, false)), (some 50), .mv (.sl 0)⟩, ⟨(some (45, false)), (some 51), .nck (.sl 50)⟩, ⟨(some (45, false)), (some 52), .fad 1 (.sl 51)⟩, ⟨(some (45, false)), (some 53), .load 1 false (.sl 52)⟩, ⟨(some (45, false)), (some 54), .bin .add (.sl 53) (.k (.int .i64 8))⟩, ⟨(some (45, false)), (some 55), .sidx (.sl 49) (.sl 54)⟩, ⟨(some (45, false)), (some 56), .bin .neq (.sl 55) (.k (.int .u8 45))⟩, qo 57 (.pick (.sl 45) (.k (.bool true)) (.sl 56))]
 (qd 57 (qr [qi 2 0, qc 3 (.bool false)]
 .ret) .skip))
 (qr [qm 58 0, qo 59 (.nck (.sl 58)), qf 60 0 59, ql 61 1 false 60, qm 62 0, qo 63 (.nck (.sl 62)), qf 64 1 63, ql 65 1 false 64, qk 66 .add 65 1, qm 67 0, qo 68 (.nck (.sl 67)), qf 69 1 68, ql 70 1 false 69, qk 71 .add 70 11, qo 72 (.ssl (.sl 61) (some (.sl 66)) (some (.sl 71))), qm 4 72]
 (qr [qm 73 0, qo 74 (.nck (.sl 73)), qf 75 1 74, ql 76 1 false 75, qk 77 .add 76 11, qo 78 (.nck (.sl 73)), qf 79 1 78, qe (.store 1 (.sl 79) (.sl 77))]
 (qr [qc 5 (.fn 236 [])]
 (qr [qm 80 5, qm 81 4, qo 82 (.ssl (.sl 81) none (some (.k (.int .i64 4)))), qo 83 (.cval (.sl 80) [.sl 82]), qm 84 5, qm 85 4, qo 86 (.ssl (.sl 85) (some (.k (.int .i64 5))) (some (.k (.int .i64 7)))), qo 87 (.cval (.sl 84) [.sl 86]), qm 88 5, qm 89 4, qo 90 (.ssl (.sl 89) (some (.k (.int .i64 8))) none), qo 91 (.cval (.sl 88) [.sl 90]), qm 6 83, qm 7 87, qm 8 91]
 (.seq (qr [qm 92 6, qk 93 .lss 92 1, qm 94 93, ⟨(some (94, false)), (some 95), .mv (.sl 7)⟩, ⟨(some (94, false)), (some 96), .bin .lss (.sl 95) (.k (.int .i64 1))⟩, qo 97 (.pick (.sl 94) (.k (.bool true)) (.sl 96)), qm 98 97, ⟨(some (98, false)), (some 99), .mv (.sl 7)⟩, ⟨(some (98, false)), (some 100), .bin .gtr (.sl 99) (.k (.int .i64 12))⟩, qo 101 (.pick (.sl 98) (.k (.bool true)) (.sl 100)), qm 102 101, ⟨(some (102, false)), (some 103), .mv (.sl 8)⟩, ⟨(some (102, false)), (some 104), .bin .lss (.sl 103) (.k (.int .i64 1))⟩, qo 105 (.pick (.sl 102) (.k (.bool true)) (.sl 104)), qm 106 105, ⟨(some (106, false)), (some 107), .mv (.sl 8)⟩, ⟨(some (106, false)), (some 108), .mv (.sl 6)⟩, ⟨(some (106, false)), (some 109), .mv (.sl 7)⟩, ⟨(some (106, false)), (some 110), .call 237 [(.sl 108), (.sl 109)] []⟩, ⟨(some (106, false)), (some 111), .bin .gtr (.sl 107) (.sl 110)⟩, qo 112 (.pick (.sl 106) (.k (.bool true)) (.sl 111))]
 (qd 112 (qr [qi 2 0, qc 3 (.bool false)]
 .ret) .skip))
 (qr [qm 113 6, qm 114 7, qm 115 8, qo 116 (.call 238 [(.sl 113), (.sl 114), (.sl 115)] []), qm 2 116, qc 3 (.bool true)]
 .ret)))))))) }
def F221 : CFn := { nt := 75, nk := 1, own := false, res := [.tmp 2, .tmp 3], body := (
 qr [qi 2 0, qc 3 (.bool false)]
 (qr [qm 8 0, qo 9 (.nck (.sl 8)), qf 10 1 9, ql 11 1 false 10, qm 4 11]
 (.seq (qr [qm 12 0, qo 13 (.call 218 [.sl 12] []), qo 14 (.bin .eql (.sl 13) (.k (.int .u8 45)))]
 (qd 14 (.reg [qm 15 0, qo 16 (.nck (.sl 15)), qf 17 1 16, ql 18 1 false 17, qk 19 .add 18 1, qo 20 (.nck (.sl 15)), qf 21 1 20, qe (.store 1 (.sl 21) (.sl 19))] []) .skip))
 (.seq (.block 0 (.loop (.seq (qr [qm 22 0, qo 23 (.nck (.sl 22)), qf 24 1 23, ql 25 1 false 24, qm 26 0, qo 27 (.nck (.sl 26)), qf 28 0 27, ql 29 1 false 28, qo 30 (.slen (.sl 29)), qb 31 .lss 25 30, qm 32 31, ⟨(some (32, true)), (some 33), .mv (.sl 0)⟩, ⟨(some (32, true)), (some 34), .nck (.sl 33)⟩, ⟨(some (32, true)), (some 35), .fad 0 (.sl 34)⟩, ⟨(some (32, true)), (some 36), .load 1 false (.sl 35)⟩, ⟨(some (32, true)), (some 37), .mv (.sl 0)⟩, ⟨(some (32, true)), (some 38), .nck (.sl 37)⟩, ⟨(some (32, true)), (some 39), .fad 1 (.sl 38)⟩, ⟨(some (32, true)), (some 40), .load 1 false (.sl 39)⟩, ⟨(some (32, true)), (some 41), .sidx (.sl 36) (.sl 40)⟩, ⟨(some (32, true)), (some 42), .call 173 [.sl 41] []⟩, qo 43 (.pick (.sl 32) (.sl 42) (.k (.bool false)))]
 (qd 43 .skip (.exit 0)))
 (.block 1 (.reg [qm 44 0, qo 45 (.nck (.sl 44)), qf 46 1 45, ql 47 1 false 46, qk 48 .add 47 1, qo 49 (.nck (.sl 44)), qf 50 1 49, qe (.store 1 (.sl 50) (.sl 48))] [])))))
 (qr [qm 51 0, qo 52 (.nck (.sl 51)), qf 53 0 52, ql 54 1 false 53, qm 55 4, qm 56 0, qo 57 (.nck (.sl 56)), qf 58 1 57, ql 59 1 false 58, qo 60 (.ssl (.sl 54) (some (.sl 55)) (some (.sl 59))), qm 5 60]
 (qr [qm 62 5, qo 63 (.call 239 [(.sl 62), (.k (.int .i64 10)), (.k (.int .i64 64))] []), qm 61 63, qo 64 (.ext (.sl 61) 0), qo 65 (.ext (.sl 61) 1), qm 6 64, qm 7 65]
 (.seq (qr [qm 66 7, qo 67 (.isnil true (.sl 66)), qm 68 67, ⟨(some (68, false)), (some 69), .mv (.sl 6)⟩, ⟨(some (68, false)), (some 70), .call 135 [(.sl 69), (.k (.int .i64 10))] []⟩, ⟨(some (68, false)), (some 71), .mv (.sl 5)⟩, ⟨(some (68, false)), (some 72), .bin .neq (.sl 70) (.sl 71)⟩, qo 73 (.pick (.sl 68) (.k (.bool true)) (.sl 72))]
 (qd 73 (qr [qi 2 0, qc 3 (.bool false)]
 .ret) .skip))
 (qr [qm 74 6, qm 2 74, qc 3 (.bool true)]
 .ret)))))))) }
def F222 : CFn := { nt := 59, nk := 1, own := false, res := [.cell 2 6 true, .tmp 3], body := (
 qr [qo 2 (.alloc [(.int .i64 0), (.int .i64 0), (.int .i64 0), (.str ⟨#[]⟩), qN, qN]), qc 3 (.bool false)]
 (.seq (qr [qm 9 0, qo 10 (.call 226 [(.sl 9), (.k (.str ⟨#[40]⟩))] []), qo 11 (.un .not (.sl 10))]
 (qd 11 (qr [qo 12 (.build [(.int .i64 0), (.int .i64 0), (.int .i64 0), (.str ⟨#[]⟩), qN, qN] []), qe (.store 6 (.sl 2) (.sl 12)), qc 3 (.bool false)]
 .ret) .skip))
 (qr [qm 14 0, qo 15 (.call 221 [.sl 14] []), qm 13 15, qo 16 (.ext (.sl 13) 0), qo 17 (.ext (.sl 13) 1), qm 4 16, qm 5 17]
 (qr [qm 18 0, qo 19 (.call 226 [(.sl 18), (.k (.str ⟨#[32]⟩))] []), qm 6 19]
 (.seq (qr [qm 20 5, qo 21 (.un .not (.sl 20)), qm 22 21, ⟨(some (22, false)), (some 23), .mv (.sl 6)⟩, ⟨(some (22, false)), (some 24), .un .not (.sl 23)⟩, qo 25 (.pick (.sl 22) (.k (.bool true)) (.sl 24))]
 (qd 25 (qr [qo 26 (.build [(.int .i64 0), (.int .i64 0), (.int .i64 0), (.str ⟨#[]⟩), qN, qN] []), qe (.store 6 (.sl 2) (.sl 26)), qc 3 (.bool false)]
 .ret) .skip))
 (qr [qm 28 0, qo 29 (.call 221 [.sl 28] []), qm 27 29, qo 30 (.ext (.sl 27) 0), qo 31 (.ext (.sl 27) 1), qm 7 30, qm 8 31]
 (.seq (qr [qm 32 8, qo 33 (.un .not (.sl 32)), qm 34 33, ⟨(some (34, false)), (some 35), .mv (.sl 0)⟩, ⟨(some (34, false)), (some 36), .call 226 [(.sl 35), (.k (.str ⟨#[41]⟩))] []⟩, ⟨(some (34, false)), (some 37), .un .not (.sl 36)⟩, qo 38 (.pick (.sl 34) (.k (.bool true)) (.sl 37)), qm 39 38, ⟨(some (39, false)), (some 40), .mv (.sl 4)⟩, ⟨(some (39, false)), (some 41), .bin .lss (.sl 40) (.k (.int .i64 (-1000000)))⟩, qo 42 (.pick (.sl 39) (.k (.bool true)) (.sl 41)), qm 43 42, ⟨(some (43, false)), (some 44), .mv (.sl 4)⟩, ⟨(some (43, false)), (some 45), .bin .gtr (.sl 44) (.k (.int .i64 1000000))⟩, qo 46 (.pick (.sl 43) (.k (.bool true)) (.sl 45)), qm 47 46, ⟨(some (47, false)), (some 48), .mv (.sl 7)⟩, ⟨(some (47, false)), (some 49), .bin .lss (.sl 48) (.k (.int .i64 (-1000000)))⟩, qo 50 (.pick (.sl 47) (.k (.bool true)) (.sl 49)), qm 51 50, ⟨(some (51, false)), (some 52), .mv (.sl 7)⟩, ⟨(some (51, false)), (some 53), .bin .gtr (.sl 52) (.k (.int .i64 1000000))⟩, qo 54 (.pick (.sl 51) (.k (.bool true)) (.sl 53))]
 (qd 54 (qr [qo 55 (.build [(.int .i64 0), (.int .i64 0), (.int .i64 0), (.str ⟨#[]⟩), qN, qN] []), qe (.store 6 (.sl 2) (.sl 55)), qc 3 (.bool false)]
 .ret) .skip))
 (qr [qm 56 4, qm 57 7, qo 58 (.build [(.int .i64 0), (.int .i64 0), (.int .i64 0), (.str ⟨#[]⟩), qN, qN] [(0, 1, (.k (.int .i64 5))), (1, 1, (.sl 56)), (2, 1, (.sl 57))]), qe (.store 6 (.sl 2) (.sl 58)), qc 3 (.bool true)]
 .ret)))))))) }
def F223 : CFn := { nt := 44, nk := 1, own := false, res := [.cell 4 6 true, .tmp 5], body := (
 qr [qo 4 (.alloc [(.int .i64 0), (.int .i64 0), (.int .i64 0), (.str ⟨#[]⟩), qN, qN]), qc 5 (.bool false)]
 (qr [qo 9 (.build [(.int .i64 0), (.int .i64 0), (.int .i64 0), (.str ⟨#[]⟩), qN, qN] [(0, 1, (.k (.int .i64 6)))]), qo 6 (.alloc [(.int .i64 0), (.int .i64 0), (.int .i64 0), (.str ⟨#[]⟩), qN, qN]), qe (.store 6 (.sl 6) (.sl 9))]
 (.seq (qr [qm 10 0, qo 11 (.call 226 [(.sl 10), (.k (.str ⟨#[91]⟩))] []), qo 12 (.un .not (.sl 11)), qm 13 12, ⟨(some (13, false)), (some 14), .mv (.sl 1)⟩, ⟨(some (13, false)), (some 15), .bin .eql (.sl 14) (.k (.int .i64 5))⟩, qo 16 (.pick (.sl 13) (.k (.bool true)) (.sl 15))]
 (qd 16 (qr [ql 17 6 true 6, qe (.store 6 (.sl 4) (.sl 17)), qc 5 (.bool false)]
 .ret) .skip))
 (.seq (qr [qm 18 0, qo 19 (.call 226 [(.sl 18), (.k (.str ⟨#[93]⟩))] [])]
 (qd 19 (qr [ql 20 6 true 6, qe (.store 6 (.sl 4) (.sl 20)), qc 5 (.bool true)]
 .ret) .skip))
 (.block 0 (.loop (.block 1 (qr [qm 22 0, qm 23 1, qk 24 .add 23 1, qo 25 (.call 201 [(.sl 22), (.sl 24)] []), qm 21 25, qo 26 (.ext (.sl 21) 0), qo 27 (.ext (.sl 21) 1), qo 7 (.alloc [(.int .i64 0), (.int .i64 0), (.int .i64 0), (.str ⟨#[]⟩), qN, qN]), qe (.store 6 (.sl 7) (.sl 26)), qm 8 27]
 (.seq (qr [qm 28 8, qo 29 (.un .not (.sl 28))]
 (qd 29 (qr [ql 30 6 true 6, qe (.store 6 (.sl 4) (.sl 30)), qc 5 (.bool false)]
 .ret) .skip))
 (qr [qf 31 5 6, ql 32 1 false 31, ql 33 6 true 7, qo 34 (.bsl 204 6 [(.int .i64 0), (.int .i64 0), (.int .i64 0), (.str ⟨#[]⟩), qN, qN] 1 [(0, 6, (.sl 33))]), qo 35 (.app 204 6 88 (.sl 32) (.sl 34)), qf 36 5 6, qe (.store 1 (.sl 36) (.sl 35))]
 (.seq (qr [qm 37 0, qo 38 (.call 226 [(.sl 37), (.k (.str ⟨#[93]⟩))] [])]
 (qd 38 (qr [ql 39 6 true 6, qe (.store 6 (.sl 4) (.sl 39)), qc 5 (.bool true)]
 .ret) .skip))
 (qr [qm 40 0, qo 41 (.call 226 [(.sl 40), (.k (.str ⟨#[44]⟩))] []), qo 42 (.un .not (.sl 41))]
 (qd 42 (qr [ql 43 6 true 6, qe (.store 6 (.sl 4) (.sl 43)), qc 5 (.bool false)]
 .ret) .skip))))))))))))) }
def F224 : CFn := { nt := 82, nk := 1, own := false, res := [.cell 4 6 true, .tmp 5], body := (
 qr [qo 4 (.alloc [(.int .i64 0), (.int .i64 0), (.int .i64 0), (.str ⟨#[]⟩), qN, qN]), qc 5 (.bool false)]
 (qr [qo 10 (.build [(.int .i64 0), (.int .i64 0), (.int .i64 0), (.str ⟨#[]⟩), qN, qN] [(0, 1, (.k (.int .i64 7)))]), qo 6 (.alloc [(.int .i64 0), (.int .i64 0), (.int .i64 0), (.str ⟨#[]⟩), qN, qN]), qe (.store 6 (.sl 6) (.sl 10))]
 (.seq (qr [qm 11 0, qo 12 (.call 226 [(.sl 11), (.k (.str ⟨#[123]⟩))] []), qo 13 (.un .not (.sl 12)), qm 14 13, ⟨(some (14, false)), (some 15), .mv (.sl 1)⟩, ⟨(some (14, false)), (some 16), .bin .eql (.sl 15) (.k (.int .i64 5))⟩, qo 17 (.pick (.sl 14) (.k (.bool true)) (.sl 16))]
 (qd 17 (qr [ql 18 6 true 6, qe (.store 6 (.sl 4) (.sl 18)), qc 5 (.bool false)]
 .ret) .skip))
 (.seq (qr [qm 19 0, qo 20 (.call 226 [(.sl 19), (.k (.str ⟨#[125]⟩))] [])]
 (qd 20 (qr [ql 21 6 true 6, qe (.store 6 (.sl 4) (.sl 21)), qc 5 (.bool true)]
 .ret) .skip))
 (.block 0 (.loop (.block 1 (qr [qm 23 0, qo 24 (.call 240 [.sl 23] []), qm 22 24, qo 25 (.ext (.sl 22) 0), qo 26 (.ext (.sl 22) 1), qm 7 25, qm 8 26]
 (.seq (qr [qm 27 8, qo 28 (.un .not (.sl 27)), qm 29 28, ⟨(some (29, false)), (some 30), .mv (.sl 0)⟩, ⟨(some (29, false)), (some 31), .call 226 [(.sl 30), (.k (.str ⟨#[58]⟩))] []⟩, ⟨(some (29, false)), (some 32), .un .not (.sl 31)⟩, qo 33 (.pick (.sl 29) (.k (.bool true)) (.sl 32)), qm 34 33, ⟨(some (34, false)), (some 35), .fad 4 (.sl 6)⟩, ⟨(some (34, false)), (some 36), .load 1 false (.sl 35)⟩, ⟨(some (34, false)), (some 37), .len (.sl 36)⟩, ⟨(some (34, false)), (some 38), .bin .gtr (.sl 37) (.k (.int .i64 0))⟩, ⟨(some (34, false)), (some 39), .mv (.sl 38)⟩, ⟨(some (39, true)), (some 40), .fad 4 (.sl 6)⟩, ⟨(some (39, true)), (some 41), .load 1 false (.sl 40)⟩, ⟨(some (39, true)), (some 42), .fad 4 (.sl 6)⟩, ⟨(some (39, true)), (some 43), .load 1 false (.sl 42)⟩, ⟨(some (39, true)), (some 44), .len (.sl 43)⟩, ⟨(some (39, true)), (some 45), .bin .sub (.sl 44) (.k (.int .i64 1))⟩, ⟨(some (39, true)), (some 46), .iad 1 (.sl 41) (.sl 45)⟩, ⟨(some (39, true)), (some 47), .load 1 false (.sl 46)⟩, ⟨(some (39, true)), (some 48), .mv (.sl 7)⟩, ⟨(some (39, true)), (some 49), .bin .geq (.sl 47) (.sl 48)⟩, ⟨(some (34, false)), (some 50), .pick (.sl 39) (.sl 49) (.k (.bool false))⟩, qo 51 (.pick (.sl 34) (.k (.bool true)) (.sl 50))]
 (qd 51 (qr [ql 52 6 true 6, qe (.store 6 (.sl 4) (.sl 52)), qc 5 (.bool false)]
 .ret) .skip))
 (qr [qm 54 0, qm 55 1, qk 56 .add 55 1, qo 57 (.call 201 [(.sl 54), (.sl 56)] []), qm 53 57, qo 58 (.ext (.sl 53) 0), qo 59 (.ext (.sl 53) 1), qo 9 (.alloc [(.int .i64 0), (.int .i64 0), (.int .i64 0), (.str ⟨#[]⟩), qN, qN]), qe (.store 6 (.sl 9) (.sl 58)), qm 8 59]
 (.seq (qr [qm 60 8, qo 61 (.un .not (.sl 60))]
 (qd 61 (qr [ql 62 6 true 6, qe (.store 6 (.sl 4) (.sl 62)), qc 5 (.bool false)]
 .ret) .skip))
 (qr [qf 63 4 6, ql 64 1 false 63, qm 65 7, qo 66 (.bsl 9 1 [(.str ⟨#[]⟩)] 1 [(0, 1, (.sl 65))]), qo 67 (.app 9 1 16 (.sl 64) (.sl 66)), qf 68 4 6, qe (.store 1 (.sl 68) (.sl 67))]
 (qr [qf 69 5 6, ql 70 1 false 69, ql 71 6 true 9, qo 72 (.bsl 204 6 [(.int .i64 0), (.int .i64 0), (.int .i64 0), (.str ⟨#[]⟩), qN, qN] 1 [(0, 6, (.sl 71))]), qo 73 (.app 204 6 88 (.sl 70) (.sl 72)), qf 74 5 6, qe (.store 1 (.sl 74) (.sl 73))]
 (.seq (qr [qm 75 0, qo 76 (.call 226 [(.sl 75), (.k (.str ⟨#[125]⟩))] [])]
 (qd 76 (qr [ql 77 6 true 6, qe (.store 6 (.sl 4) (.sl 77)), qc 5 (.bool true)]
 .ret) .skip))
 (qr [qm 78 0, qo 79 (.call 226 [(.sl 78), (.k (.str ⟨#[44]⟩))] []), qo 80 (.un .not (.sl 79))]
 (qd 80 (qr [ql 81 6 true 6, qe (.store 6 (.sl 4) (.sl 81)), qc 5 (.bool false)]
 .ret) .skip)))))))))))))))) }
def F225 : CFn := { nt := 46, nk := 1, own := false, res := [.cell 2 6 true, .tmp 3], body := (
 qr [qo 2 (.alloc [(.int .i64 0), (.int .i64 0), (.int .i64 0), (.str ⟨#[]⟩), qN, qN]), qc 3 (.bool false)]
 (qr [qo 8 (.build [(.int .i64 0), (.int .i64 0), (.int .i64 0), (.str ⟨#[]⟩), qN, qN] [(0, 1, (.k (.int .i64 10)))]), qo 4 (.alloc [(.int .i64 0), (.int .i64 0), (.int .i64 0), (.str ⟨#[]⟩), qN, qN]), qe (.store 6 (.sl 4) (.sl 8))]
 (.seq (qr [qm 9 0, qo 10 (.call 226 [(.sl 9), (.k (.str ⟨#[60]⟩))] []), qo 11 (.un .not (.sl 10))]
 (qd 11 (qr [ql 12 6 true 4, qe (.store 6 (.sl 2) (.sl 12)), qc 3 (.bool false)]
 .ret) .skip))
 (qr [qi 5 8]
 (.block 0 (.loop (.block 1 (qr [qm 14 0, qo 15 (.call 227 [.sl 14] []), qm 13 15, qo 16 (.ext (.sl 13) 0), qo 17 (.ext (.sl 13) 1), qo 6 (.alloc [(.int .i64 0), (.int .i64 0), (.int .i64 0), (.str ⟨#[]⟩), qN, qN]), qe (.store 6 (.sl 6) (.sl 16)), qm 7 17]
 (.seq (qr [qm 18 7, qo 19 (.un .not (.sl 18)), qm 20 19, ⟨(some (20, false)), (some 21), .fad 0 (.sl 6)⟩, ⟨(some (20, false)), (some 22), .load 1 false (.sl 21)⟩, ⟨(some (20, false)), (some 23), .mv (.sl 5)⟩, ⟨(some (20, false)), (some 24), .bin .neq (.sl 22) (.sl 23)⟩, qo 25 (.pick (.sl 20) (.k (.bool true)) (.sl 24))]
 (qd 25 (qr [ql 26 6 true 4, qe (.store 6 (.sl 2) (.sl 26)), qc 3 (.bool false)]
 .ret) .skip))
 (qr [qf 27 5 4, ql 28 1 false 27, ql 29 6 true 6, qo 30 (.bsl 204 6 [(.int .i64 0), (.int .i64 0), (.int .i64 0), (.str ⟨#[]⟩), qN, qN] 1 [(0, 6, (.sl 29))]), qo 31 (.app 204 6 88 (.sl 28) (.sl 30)), qf 32 5 4, qe (.store 1 (.sl 32) (.sl 31))]
 (.seq (qr [qm 33 5, qk 34 .eql 33 8, qm 35 34, ⟨(some (35, true)), (some 36), .mv (.sl 0)⟩, ⟨(some (35, true)), (some 37), .call 226 [(.sl 36), (.k (.str ⟨#[62]⟩))] []⟩, qo 38 (.pick (.sl 35) (.sl 37) (.k (.bool false)))]
 (qd 38 (qr [ql 39 6 true 4, qe (.store 6 (.sl 2) (.sl 39)), qc 3 (.bool true)]
 .ret) .skip))
 (.seq (qr [qm 40 0, qo 41 (.call 226 [(.sl 40), (.k (.str ⟨#[32]⟩))] []), qo 42 (.un .not (.sl 41))]
 (qd 42 (qr [ql 43 6 true 4, qe (.store 6 (.sl 2) (.sl 43)), qc 3 (.bool false)]
 .ret) .skip))
 (.reg [qm 44 5, qo 45 (.bin .sub (.k (.int .i64 17)) (.sl 44)), qm 5 45] []))))))))))))) }
def F226 : CFn := { nt := 25, nk := 1, own := false, res := [.tmp 4], body := (
 qr [qc 4 (.bool false)]
 (.seq (qr [qm 5 0, qo 6 (.nck (.sl 5)), qf 7 0 6, ql 8 1 false 7, qm 9 0, qo 10 (.nck (.sl 9)), qf 11 1 10, ql 12 1 false 11, qo 13 (.ssl (.sl 8) (some (.sl 12)) none), qm 14 1, qo 15 (.call 241 [(.sl 13), (.sl 14)] [])]
 (qd 15 (qr [qm 16 0, qo 17 (.nck (.sl 16)), qf 18 1 17, ql 19 1 false 18, qm 20 1, qo 21 (.slen (.sl 20)), qb 22 .add 19 21, qo 23 (.nck (.sl 16)), qf 24 1 23, qe (.store 1 (.sl 24) (.sl 22))]
 (qr [qc 4 (.bool true)]
 .ret)) .skip))
 (qr [qc 4 (.bool false)]
 .ret))) }
def F227 : CFn := { nt := 30, nk := 1, own := false, res := [.cell 2 6 true, .tmp 3], body := (
 qr [qo 2 (.alloc [(.int .i64 0), (.int .i64 0), (.int .i64 0), (.str ⟨#[]⟩), qN, qN]), qc 3 (.bool false)]
 (qr [qi 4 8]
 (.seq (qr [qm 7 0, qo 8 (.call 218 [.sl 7] []), qo 9 (.bin .eql (.sl 8) (.k (.int .u8 101)))]
 (qd 9 (.reg [qi 4 9] []) (qr [qm 10 0, qo 11 (.call 218 [.sl 10] []), qo 12 (.bin .neq (.sl 11) (.k (.int .u8 110)))]
 (qd 12 (qr [qo 13 (.build [(.int .i64 0), (.int .i64 0), (.int .i64 0), (.str ⟨#[]⟩), qN, qN] []), qe (.store 6 (.sl 2) (.sl 13)), qc 3 (.bool false)]
 .ret) .skip))))
 (qr [qm 14 0, qo 15 (.nck (.sl 14)), qf 16 1 15, ql 17 1 false 16, qk 18 .add 17 1, qo 19 (.nck (.sl 14)), qf 20 1 19, qe (.store 1 (.sl 20) (.sl 18))]
 (qr [qm 22 0, qo 23 (.call 242 [.sl 22] []), qm 21 23, qo 24 (.ext (.sl 21) 0), qo 25 (.ext (.sl 21) 1), qm 5 24, qm 6 25]
 (qr [qm 26 4, qm 27 5, qo 28 (.build [(.int .i64 0), (.int .i64 0), (.int .i64 0), (.str ⟨#[]⟩), qN, qN] [(0, 1, (.sl 26)), (1, 1, (.sl 27))]), qm 29 6, qe (.store 6 (.sl 2) (.sl 28)), qm 3 29]
 .ret)))))) }
def F236 : CFn := { nt := 25, nk := 0, own := false, res := [.tmp 2], body := (
 qr [qi 2 0]
 (qr [qi 3 0]
 (.seq (qr [qm 5 0, qo 6 (.slen (.sl 5)), qi 7 0]
 (.block 0 (.loop (qr [qb 8 .lss 7 6]
 (.seq (qd 8 .skip (.exit 0))
 (.seq (.block 1 (qr [qm 9 7, qm 4 9]
 (.seq (qr [qm 10 0, qm 11 4, qo 12 (.sidx (.sl 10) (.sl 11)), qo 13 (.call 173 [.sl 12] []), qo 14 (.un .not (.sl 13))]
 (qd 14 (qr [qi 2 (-1)]
 .ret) .skip))
 (.reg [qm 15 3, qk 16 .mul 15 10, qm 17 0, qm 18 4, qo 19 (.sidx (.sl 17) (.sl 18)), qo 20 (.bin .sub (.sl 19) (.k (.int .u8 48))), qo 21 (.toInt .i64 (.sl 20)), qb 22 .add 16 21, qm 3 22] []))))
 (.reg [qk 23 .add 7 1, qm 7 23] [])))))))
 (qr [qm 24 3, qm 2 24]
 .ret)))) }
def F237 : CFn := { nt := 15, nk := 0, own := false, res := [.tmp 4], body := (
 qr [qi 4 0]
 (.seq (qr [qm 5 1]
 (.block 0 (qr [qk 7 .eql 5 2, qm 6 7]
 (qd 6 (.seq (qr [qm 8 0, qo 9 (.call 245 [.sl 8] [])]
 (qd 9 (qr [qi 4 29]
 .ret) .skip))
 (qr [qi 4 28]
 .ret)) (.seq (qr [qk 11 .eql 5 4, qm 10 11]
 (qd 10 .skip (qr [qk 12 .eql 5 6, qm 10 12]
 (qd 10 .skip (qr [qk 13 .eql 5 9, qm 10 13]
 (qd 10 .skip (.reg [qk 14 .eql 5 11, qm 10 14] [])))))))
 (qd 10 (qr [qi 4 30]
 .ret) .skip))))))
 (qr [qi 4 31]
 .ret))) }
def F238 : CFn := { nt := 37, nk := 0, own := false, res := [.tmp 6], body := (
 qr [qi 6 0]
 (qr [qm 10 0, qk 11 .sub 10 1, qm 7 11]
 (qr [qm 12 7, qk 13 .mul 12 365, qm 14 7, qk 15 .quo 14 4, qb 16 .add 13 15, qm 17 7, qk 18 .quo 17 100, qb 19 .sub 16 18, qm 20 7, qk 21 .quo 20 400, qb 22 .add 19 21, qm 8 22]
 (.seq (qr [qi 9 1]
 (.block 0 (.loop (.seq (qr [qm 23 9, qm 24 1, qb 25 .lss 23 24]
 (qd 25 .skip (.exit 0)))
 (.seq (.block 1 (.reg [qm 28 8, qm 29 0, qm 30 9, qo 31 (.call 237 [(.sl 29), (.sl 30)] []), qb 32 .add 28 31, qm 8 32] []))
 (.reg [qm 26 9, qk 27 .add 26 1, qm 9 27] []))))))
 (qr [qm 33 8, qm 34 2, qb 35 .add 33 34, qk 36 .sub 35 1, qm 6 36]
 .ret))))) }
def F240 : CFn := { nt := 83, nk := 1, own := false, res := [.tmp 2, .tmp 3], body := (
 qr [qc 2 (.str ⟨#[]⟩), qc 3 (.bool false)]
 (qr [qm 5 0, qo 6 (.nck (.sl 5)), qf 7 1 6, ql 8 1 false 7, qm 4 8]
 (.seq (.block 0 (.loop (.seq (qr [qm 9 0, qo 10 (.nck (.sl 9)), qf 11 1 10, ql 12 1 false 11, qm 13 0, qo 14 (.nck (.sl 13)), qf 15 0 14, ql 16 1 false 15, qo 17 (.slen (.sl 16)), qb 18 .lss 12 17, qm 19 18, ⟨(some (19, true)), (some 20), .mv (.sl 0)⟩, ⟨(some (19, true)), (some 21), .nck (.sl 20)⟩, ⟨(some (19, true)), (some 22), .fad 0 (.sl 21)⟩, ⟨(some (19, true)), (some 23), .load 1 false (.sl 22)⟩, ⟨(some (19, true)), (some 24), .mv (.sl 0)⟩, ⟨(some (19, true)), (some 25), .nck (.sl 24)⟩, ⟨(some (19, true)), (some 26), .fad 1 (.sl 25)⟩, ⟨(some (19, true)), (some 27), .load 1 false (.sl 26)⟩, ⟨(some (19, true)), (some 28), .sidx (.sl 23) (.sl 27)⟩, ⟨(some (19, true)), (some 29), .call 172 [.sl 28] []⟩, ⟨(some (19, true)), (some 30), .mv (.sl 29)⟩, ⟨(some (30, false)), (some 31), .mv (.sl 0)⟩, ⟨(some (30, false)), (some 32), .nck (.sl 31)⟩, ⟨(some (30, false)), (some 33), .fad 0 (.sl 32)⟩, ⟨(some (30, false)), (some 34), .load 1 false (.sl 33)⟩, ⟨(some (30, false)), (some 35), .mv (.sl 0)⟩, ⟨(some (30, false)), (some 36), .nck (.sl 35)⟩, ⟨(some (30, false)), (some 37), .fad 1 (.sl 36)⟩, ⟨(some (30, false)), (some 38), .load 1 false (.sl 37)⟩, ⟨(some (30, false)), (some 39), .sidx (.sl 34) (.sl 38)⟩, ⟨(some (30, false)), (some 40), .call 173 [.sl 39] []⟩, ⟨(some (19, true)), (some 41), .pick (.sl 30) (.k (.bool true)) (.sl 40)⟩, ⟨(some (19, true)), (some 42), .mv (.sl 41)⟩, ⟨(some (42, false)), (some 43), .mv (.sl 0)⟩, ⟨(some (42, false)), (some 44), .nck (.sl 43)⟩, ⟨(some (42, false)), (some 45), .fad 0 (.sl 44)⟩, ⟨(some (42, false)), (some 46), .load 1 false (.sl 45)⟩, ⟨(some (42, false)), (some 47), .mv (.sl 0)⟩, ⟨(some (42, false)), (some 48), .nck (.sl 47)⟩, ⟨(some (42, false)), (some 49), .fad 1 (.sl 48)⟩, ⟨(some (42, false)), (some 50), .load 1 false (.sl 49)⟩, ⟨(some (42, false)), (some 51), .sidx (.sl 46) (.sl 50)⟩, ⟨(some (42, false)), (some 52), .bin .eql (.sl 51) (.k (.int .u8 95))⟩, ⟨(some (19, true)), (some 53), .pick (.sl 42) (.k (.bool true)) (.sl 52)⟩, qo 54 (.pick (.sl 19) (.sl 53) (.k (.bool false)))]
 (qd 54 .skip (.exit 0)))
 (.block 1 (.reg [qm 55 0, qo 56 (.nck (.sl 55)), qf 57 1 56, ql 58 1 false 57, qk 59 .add 58 1, qo 60 (.nck (.sl 55)), qf 61 1 60, qe (.store 1 (.sl 61) (.sl 59))] [])))))
 (.seq (.reg [qm 62 0, qo 63 (.nck (.sl 62)), qf 64 0 63, ql 65 1 false 64, qm 66 4, qm 67 0, qo 68 (.nck (.sl 67)), qf 69 1 68, ql 70 1 false 69, qo 71 (.ssl (.sl 65) (some (.sl 66)) (some (.sl 70))), qm 72 0, qo 73 (.nck (.sl 72)), qf 74 0 73, ql 75 1 false 74, qm 76 4, qm 77 0, qo 78 (.nck (.sl 77)), qf 79 1 78, ql 80 1 false 79, qo 81 (.ssl (.sl 75) (some (.sl 76)) (some (.sl 80))), qo 82 (.call 127 [.sl 81] []), qm 2 71, qm 3 82] [(3, 20), (8, 20)])
 .ret)))) }
def F241 : CFn := { nt := 8, nk := 0, own := false, res := [.tmp 4], body := (
 qr [qc 4 (.bool false)]
 (qr [qm 5 0, qm 6 1, qo 7 (.call 248 [(.sl 5), (.sl 6)] []), qm 4 7]
 .ret)) }
def F242 : CFn := { nt := 25, nk := 1, own := false, res := [.tmp 2, .tmp 3], body := (
 qr [qi 2 0, qc 3 (.bool false)]
 (.seq (qr [qm 6 0, qo 7 (.call 218 [.sl 6] []), qo 8 (.call 173 [.sl 7] []), qo 9 (.un .not (.sl 8))]
 (qd 9 (qr [qi 2 0, qc 3 (.bool false)]
 .ret) .skip))
 (qr [qm 11 0, qo 12 (.call 221 [.sl 11] []), qm 10 12, qo 13 (.ext (.sl 10) 0), qo 14 (.ext (.sl 10) 1), qm 4 13, qm 5 14]
 (qr [qm 15 4, qm 16 5, qm 17 16, ⟨(some (17, true)), (some 18), .mv (.sl 4)⟩, ⟨(some (17, true)), (some 19), .bin .geq (.sl 18) (.k (.int .i64 1))⟩, qo 20 (.pick (.sl 17) (.sl 19) (.k (.bool false))), qm 21 20, ⟨(some (21, true)), (some 22), .mv (.sl 4)⟩, ⟨(some (21, true)), (some 23), .bin .leq (.sl 22) (.k (.int .i64 1000000000000))⟩, qo 24 (.pick (.sl 21) (.sl 23) (.k (.bool false))), qm 2 15, qm 3 24]
 .ret)))) }
def F245 : CFn := { nt := 16, nk := 0, own := false, res := [.tmp 2], body := (
 qr [qc 2 (.bool false)]
 (qr [qm 3 0, qk 4 .rem 3 4, qk 5 .eql 4 0, qm 6 5, ⟨(some (6, true)), (some 7), .mv (.sl 0)⟩, ⟨(some (6, true)), (some 8), .bin .rem (.sl 7) (.k (.int .i64 100))⟩, ⟨(some (6, true)), (some 9), .bin .neq (.sl 8) (.k (.int .i64 0))⟩, ⟨(some (6, true)), (some 10), .mv (.sl 9)⟩, ⟨(some (10, false)), (some 11), .mv (.sl 0)⟩, ⟨(some (10, false)), (some 12), .bin .rem (.sl 11) (.k (.int .i64 400))⟩, ⟨(some (10, false)), (some 13), .bin .eql (.sl 12) (.k (.int .i64 0))⟩, ⟨(some (6, true)), (some 14), .pick (.sl 10) (.k (.bool true)) (.sl 13)⟩, qo 15 (.pick (.sl 6) (.sl 14) (.k (.bool false))), qm 2 15]
 .ret)) }
def F248 : CFn := { nt := 18, nk := 0, own := false, res := [.tmp 4], body := (
 qr [qc 4 (.bool false)]
 (qr [qm 5 0, qo 6 (.slen (.sl 5)), qm 7 1, qo 8 (.slen (.sl 7)), qb 9 .geq 6 8, qm 10 9, ⟨(some (10, true)), (some 11), .mv (.sl 0)⟩, ⟨(some (10, true)), (some 12), .mv (.sl 1)⟩, ⟨(some (10, true)), (some 13), .slen (.sl 12)⟩, ⟨(some (10, true)), (some 14), .ssl (.sl 11) none (some (.sl 13))⟩, ⟨(some (10, true)), (some 15), .mv (.sl 1)⟩, ⟨(some (10, true)), (some 16), .bin .eql (.sl 14) (.sl 15)⟩, qo 17 (.pick (.sl 10) (.sl 16) (.k (.bool false))), qm 4 17]
 .ret)) }
def FB15 : CFn := { nt := 27, nk := 0, own := true, res := [.tmp 4, .tmp 0], body := (
 qr [qi 4 0]
 (.seq (qr [qi 5 0]
 (.block 0 (.loop (.seq (qr [qm 6 5, qm 7 0, qo 8 (.len (.sl 7)), qb 9 .lss 6 8]
 (qd 9 .skip (.exit 0)))
 (.seq (.block 1 (qr [qm 12 0, qm 13 5, qo 14 (.iad 2 (.sl 12) (.sl 13)), qf 15 0 14, ql 16 1 false 15, qm 17 1, qo 18 (.callU 50 [(.sl 16), (.sl 17)]), qm 1 18]
 (.reg [qm 19 0, qm 20 5, qo 21 (.iad 2 (.sl 19) (.sl 20)), qf 22 1 21, ql 23 1 false 22, qm 24 1, qo 25 (.callU 51 [(.sl 23), (.sl 24)]), qm 1 25] [])))
 (.reg [qm 10 5, qk 11 .add 10 1, qm 5 11] []))))))
 (qr [qm 26 1, qm 4 26]
 .ret))) }
def FB50 : CFn := { nt := 34, nk := 0, own := true, res := [.tmp 4, .tmp 0], body := (
 qr [qi 4 0]
 (.seq (qr [qi 5 0]
 (.block 0 (.loop (.seq (qr [qm 6 5, qm 7 0, qo 8 (.len (.sl 7)), qb 9 .lss 6 8]
 (qd 9 .skip (.exit 0)))
 (.seq (.block 1 (qr [qm 12 0, qm 13 5, qm 14 1, qo 15 (.iad 3 (.sl 12) (.sl 13)), qf 16 0 15, qe (.stx 1 (.sl 16) (.sl 14))]
 (qr [qm 17 1, qk 18 .add 17 1, qm 1 18]
 (qr [qm 19 0, qm 20 5, qo 21 (.iad 3 (.sl 19) (.sl 20)), qf 22 1 21, ql 23 1 false 22, qm 24 1, qo 25 (.callU 57 [(.sl 23), (.sl 24)]), qm 1 25]
 (.reg [qm 26 0, qm 27 5, qo 28 (.iad 3 (.sl 26) (.sl 27)), qf 29 2 28, ql 30 1 false 29, qm 31 1, qo 32 (.callU 58 [(.sl 30), (.sl 31)]), qm 1 32] [])))))
 (.reg [qm 10 5, qk 11 .add 10 1, qm 5 11] []))))))
 (qr [qm 33 1, qm 4 33]
 .ret))) }
def FB51 : CFn := { nt := 49, nk := 0, own := true, res := [.tmp 4, .tmp 0], body := (
 qr [qi 4 0]
 (.seq (qr [qi 5 0]
 (.block 0 (.loop (.seq (qr [qm 6 5, qm 7 0, qo 8 (.len (.sl 7)), qb 9 .lss 6 8]
 (qd 9 .skip (.exit 0)))
 (.seq (.block 1 (qr [qm 12 0, qm 13 5, qm 14 1, qo 15 (.iad 5 (.sl 12) (.sl 13)), qf 16 0 15, qe (.stx 1 (.sl 16) (.sl 14))]
 (qr [qm 17 1, qk 18 .add 17 1, qm 1 18]
 (qr [qm 19 0, qm 20 5, qm 21 1, qo 22 (.call 59 [.sl 21] []), qo 23 (.iad 5 (.sl 19) (.sl 20)), qf 24 1 23, qe (.stx 1 (.sl 24) (.sl 22))]
 (qr [qm 25 1, qk 26 .add 25 1, qm 1 26]
 (qr [qm 27 0, qm 28 5, qm 29 1, qo 30 (.iad 5 (.sl 27) (.sl 28)), qf 31 2 30, qe (.stx 1 (.sl 31) (.sl 29))]
 (qr [qm 32 1, qk 33 .add 32 1, qm 1 33]
 (qr [qm 34 0, qm 35 5, qm 36 1, qo 37 (.iad 5 (.sl 34) (.sl 35)), qf 38 3 37, qe (.stx 1 (.sl 38) (.sl 36))]
 (qr [qm 39 1, qk 40 .add 39 1, qm 1 40]
 (.reg [qm 41 0, qm 42 5, qo 43 (.iad 5 (.sl 41) (.sl 42)), qf 44 4 43, ql 45 1 false 44, qm 46 1, qo 47 (.callU 58 [(.sl 45), (.sl 46)]), qm 1 47] []))))))))))
 (.reg [qm 10 5, qk 11 .add 10 1, qm 5 11] []))))))
 (qr [qm 48 1, qm 4 48]
 .ret))) }
def FB57 : CFn := { nt := 20, nk := 0, own := true, res := [.tmp 4, .tmp 0], body := (
 qr [qi 4 0]
 (.seq (qr [qi 5 0]
 (.block 0 (.loop (.seq (qr [qm 6 5, qm 7 0, qo 8 (.len (.sl 7)), qb 9 .lss 6 8]
 (qd 9 .skip (.exit 0)))
 (.seq (.block 1 (qr [qm 12 0, qm 13 5, qm 14 1, qo 15 (.call 59 [.sl 14] []), qo 16 (.iad 1 (.sl 12) (.sl 13)), qe (.stx 1 (.sl 16) (.sl 15))]
 (.reg [qm 17 1, qk 18 .add 17 1, qm 1 18] [])))
 (.reg [qm 10 5, qk 11 .add 10 1, qm 5 11] []))))))
 (qr [qm 19 1, qm 4 19]
 .ret))) }
def FB58 : CFn := { nt := 29, nk := 0, own := true, res := [.tmp 4, .tmp 0], body := (
 qr [qi 4 0]
 (.seq (qr [qi 5 0]
 (.block 0 (.loop (.seq (qr [qm 6 5, qm 7 0, qo 8 (.len (.sl 7)), qb 9 .lss 6 8]
 (qd 9 .skip (.exit 0)))
 (.seq (.block 1 (qr [qm 12 0, qm 13 5, qm 14 1, qo 15 (.call 59 [.sl 14] []), qo 16 (.iad 2 (.sl 12) (.sl 13)), qf 17 0 16, qe (.stx 1 (.sl 17) (.sl 15))]
 (qr [qm 18 1, qk 19 .add 18 1, qm 1 19]
 (qr [qm 20 0, qm 21 5, qm 22 1, qo 23 (.call 59 [.sl 22] []), qo 24 (.iad 2 (.sl 20) (.sl 21)), qf 25 1 24, qe (.stx 1 (.sl 25) (.sl 23))]
 (.reg [qm 26 1, qk 27 .add 26 1, qm 1 27] [])))))
 (.reg [qm 10 5, qk 11 .add 10 1, qm 5 11] []))))))
 (qr [qm 28 1, qm 4 28]
 .ret))) }
def F3 : CFn := { nt := 74, nk := 0, own := false, res := [.tmp 4], body := (
 qr [qo 2 (.box 2 (.sl 0)), qc 4 (.bool false)]
 (qr [qi 5 1048576]
 (qr [ql 13 2 true 2, qm 14 5, qo 15 (.call 8 [(.sl 13), (.sl 14)] []), qm 5 15]
 (.seq (qr [qm 16 5, qk 17 .lss 16 0]
 (qd 17 (qr [qc 4 (.bool true)]
 .ret) .skip))
 (qr [ql 18 2 true 2, qo 19 (.call 10 [.sl 18] []), qm 20 1, qo 21 (.call 9 [(.sl 19), (.sl 20)] []), qm 6 21]
 (qr [ql 22 2 true 2, qo 23 (.call 10 [.sl 22] []), qo 7 (.alloc [qN, qN]), qe (.store 2 (.sl 7) (.sl 23))]
 (qr [ql 24 2 true 7, qm 25 1, qo 26 (.call 11 [(.sl 24), (.sl 25)] []), qm 8 26]
 (.seq (qr [qm 27 8, qm 28 6, qo 29 (.call 12 [(.sl 27), (.sl 28)] []), qo 30 (.un .not (.sl 29))]
 (qd 30 (qr [qc 4 (.bool false)]
 .ret) .skip))
 (.seq (.seq (.reg [ql 31 2 true 7, ql 32 2 true 2, qo 33 (.call 10 [.sl 32] []), qo 34 (.call 13 [(.sl 31), (.sl 33)] []), qo 35 (.un .not (.sl 34))] [(0, 2)])
 (qd 35 (qr [qc 4 (.bool false)]
 .ret) .skip))
 (qr [qi 9 1]
 (qr [ql 36 2 true 7, qm 37 9, qo 38 (.call 14 [(.sl 36), (.sl 37)] [0]), qm 9 38]
 (.seq (qr [qm 39 9, qk 40 .lss 39 0, qm 41 40, ⟨(some (41, false)), (some 42), .mv (.sl 8)⟩, ⟨(some (41, false)), (some 43), .mv (.sl 6)⟩, ⟨(some (41, false)), (some 44), .call 12 [(.sl 42), (.sl 43)] []⟩, ⟨(some (41, false)), (some 45), .un .not (.sl 44)⟩, qo 46 (.pick (.sl 41) (.k (.bool true)) (.sl 45))]
 (qd 46 (qr [qc 4 (.bool false)]
 .ret) .skip))
 (qr [qi 10 1]
 (qr [qm 47 8, qm 48 10, qo 49 (.callU 15 [(.sl 47), (.sl 48)]), qm 10 49]
 (qr [qi 11 1]
 (qr [qm 50 8, qm 51 11, qo 52 (.call 16 [(.sl 50), (.sl 51)] []), qm 11 52]
 (.seq (qr [qm 53 11, qk 54 .lss 53 0]
 (qd 54 (qr [qc 4 (.bool false)]
 .ret) .skip))
 (.seq (qr [qm 55 11, qm 56 10, qb 57 .neq 55 56]
 (qd 57 (qr [qc 4 (.bool false)]
 .ret) .skip))
 (qr [ql 58 2 true 2, qo 59 (.call 10 [.sl 58] []), qm 60 1, qo 61 (.call 11 [(.sl 59), (.sl 60)] []), qm 12 61]
 (.seq (qr [qm 62 12, qm 63 6, qo 64 (.call 12 [(.sl 62), (.sl 63)] []), qo 65 (.un .not (.sl 64))]
 (qd 65 (qr [qc 4 (.bool false)]
 .ret) .skip))
 (qr [qi 11 1]
 (qr [qm 66 8, qm 67 11, qo 68 (.call 16 [(.sl 66), (.sl 67)] []), qm 11 68]
 (.seq (qr [qm 69 11, qk 70 .lss 69 0]
 (qd 70 (qr [qc 4 (.bool false)]
 .ret) .skip))
 (.seq (qr [qm 71 11, qm 72 10, qb 73 .neq 71 72]
 (qd 73 (qr [qc 4 (.bool false)]
 .ret) .skip))
 (qr [qc 4 (.bool true)]
 .ret))))))))))))))))))))))))) }
def F14 : CFn := { nt := 14, nk := 0, own := false, res := [.tmp 4], body := (
 qr [qo 2 (.box 2 (.sl 0)), qi 4 0]
 (qr [qf 5 0 2, ql 6 1 false 5, qm 7 1, qo 8 (.callU 50 [(.sl 6), (.sl 7)]), qm 1 8]
 (qr [qf 9 1 2, ql 10 1 false 9, qm 11 1, qo 12 (.callU 51 [(.sl 10), (.sl 11)]), qm 1 12]
 (qr [qm 13 1, qm 4 13]
 .ret)))) }
def T : Nat → Option CFn
  | 3 => some F3
  | 8 => some F8
  | 9 => some F9
  | 10 => some F10
  | 11 => some F11
  | 12 => some F12
  | 13 => some F13
  | 14 => some F14
  | 16 => some F16
  | 38 => some F38
  | 39 => some F39
  | 40 => some F40
  | 41 => some F41
  | 42 => some F42
  | 43 => some F43
  | 44 => some F44
  | 45 => some F45
  | 46 => some F46
  | 47 => some F47
  | 48 => some F48
  | 49 => some F49
  | 52 => some F52
  | 53 => some F53
  | 59 => some F59
  | 60 => some F60
  | 61 => some F61
  | 66 => some F66
  | 68 => some F68
  | 79 => some F79
  | 80 => some F80
  | 81 => some F81
  | 82 => some F82
  | 83 => some F83
  | 84 => some F84
  | 85 => some F85
  | 86 => some F86
  | 87 => some F87
  | 88 => some F88
  | 89 => some F89
  | 90 => some F90
  | 91 => some F91
  | 92 => some F92
  | 93 => some F93
  | 94 => some F94
  | 98 => some F98
  | 103 => some F103
  | 108 => some F108
  | 116 => some F116
  | 117 => some F117
  | 118 => some F118
  | 119 => some F119
  | 120 => some F120
  | 121 => some F121
  | 122 => some F122
  | 123 => some F123
  | 124 => some F124
  | 125 => some F125
  | 126 => some F126
  | 127 => some F127
  | 129 => some F129
  | 130 => some F130
  | 165 => some F165
  | 166 => some F166
  | 167 => some F167
  | 168 => some F168
  | 169 => some F169
  | 170 => some F170
  | 171 => some F171
  | 172 => some F172
  | 173 => some F173
  | 176 => some F176
  | 186 => some F186
  | 188 => some F188
  | 191 => some F191
  | 192 => some F192
  | 200 => some F200
  | 201 => some F201
  | 209 => some F209
  | 210 => some F210
  | 211 => some F211
  | 212 => some F212
  | 213 => some F213
  | 214 => some F214
  | 215 => some F215
  | 216 => some F216
  | 217 => some F217
  | 218 => some F218
  | 219 => some F219
  | 220 => some F220
  | 221 => some F221
  | 222 => some F222
  | 223 => some F223
  | 224 => some F224
  | 225 => some F225
  | 226 => some F226
  | 227 => some F227
  | 231 => some F231
  | 232 => some F232
  | 233 => some F233
  | 234 => some F234
  | 235 => some F235
  | 236 => some F236
  | 237 => some F237
  | 238 => some F238
  | 240 => some F240
  | 241 => some F241
  | 242 => some F242
  | 244 => some F244
  | 245 => some F245
  | 248 => some F248
  | 1000015 => some FB15
  | 1000050 => some FB50
  | 1000051 => some FB51
  | 1000057 => some FB57
  | 1000058 => some FB58
  | _ => none
def Tab (cf : CallF) : Prop := ∀ f F, T f = some F → Knows cf f F
theorem pmn :
    (∀ {k : IntKind} {a b : Int}, binP .lss (.int k a) (.int k b) = some (.bool (decide (a < b)))) ∧ (∀ {k : IntKind} {a b : Int}, binP .leq (.int k a) (.int k b) = some (.bool (decide (a ≤ b)))) ∧
    (∀ {k : IntKind} {a b : Int}, binP .gtr (.int k a) (.int k b) = some (.bool (decide (b < a)))) ∧ (∀ {k : IntKind} {a b : Int}, binP .geq (.int k a) (.int k b) = some (.bool (decide (b ≤ a)))) ∧
    (∀ {k : IntKind} {a b : Int}, binP .eql (.int k a) (.int k b) = some (.bool (decide (a = b)))) ∧ (∀ {k : IntKind} {a b : Int}, binP .neq (.int k a) (.int k b) = some (.bool (decide (a ≠ b)))) ∧
    (∀ {k : IntKind} {a b : Int}, binP .add (.int k a) (.int k b) = some (.int k (k.wrap (a + b)))) ∧ (∀ {k : IntKind} {a b : Int}, binP .sub (.int k a) (.int k b) = some (.int k (k.wrap (a - b)))) ∧ (∀ {k : IntKind} {a b : Int}, binP .mul (.int k a) (.int k b) = some (.int k (k.wrap (a * b)))) ∧
    (∀ {s t : List UInt8}, binP .eql (S s) (S t) = some (.bool (decide (s = t)))) ∧ (∀ {s t : List UInt8}, binP .neq (S s) (S t) = some (.bool (decide (s ≠ t)))) ∧ (∀ {s t : List UInt8}, binP .lss (S s) (S t) = some (.bool (sLt s t))) ∧
    (∀ {s t : List UInt8}, binP .geq (S s) (S t) = some (.bool !(sLt s t))) ∧ (∀ {s t : List UInt8}, binP .gtr (S s) (S t) = some (.bool !(sLt s t || decide (s = t)))) ∧ (∀ {s t : List UInt8}, binP .leq (S s) (S t) = some (.bool (sLt s t || decide (s = t)))) ∧
    (∀ {s t : List UInt8}, s.length + t.length ≤ 9223372036854775807 → binP .add (S s) (S t) = some (S (s ++ t))) ∧
    (∀ {x : Bool}, unP .not (.bool x) = some (.bool !x)) ∧ (∀ {k : IntKind} {a : Int}, unP .neg (.int k a) = some (.int k (k.wrap (-a)))) ∧
    (∀ {a : Int}, -9223372036854775808 ≤ a → a ≤ 9223372036854775807 → IntKind.i64.wrap a = a) ∧ (∀ {a : Int}, 0 ≤ a → a ≤ 255 → IntKind.u8.wrap a = a) ∧
    (∀ {l : List UInt8} {j : Int} {st : St}, 0 ≤ j → j.toNat < l.length → sidxP (S l) (I j) st = some (U (cI l j.toNat), st)) ∧
    (∀ {l : List UInt8} {j : Int} {st : St}, 0 ≤ j → j ≤ (l.length : Int) → sslP (S l) (some (I j)) none st = some (S (l.drop j.toNat), st)) ∧
    (∀ {l : List UInt8} {j : Int} {st : St}, 0 ≤ j → j ≤ (l.length : Int) → sslP (S l) none (some (I j)) st = some (S (l.take j.toNat), st)) ∧
    (∀ {l : List UInt8} {a b : Int} {st : St}, 0 ≤ a → a ≤ b → b ≤ (l.length : Int) → sslP (S l) (some (I a)) (some (I b)) st = some (S ((l.take b.toNat).drop a.toNat), st)) ∧
    (∀ {sz n : Nat} {cs : List PV} {t : Tok} {j : Int} {st : St}, 0 ≤ j → j < (n : Int) → cs.length = n * sz → iadP sz (.list n cs t) (I j) st = some (.iptr cs (j.toNat * sz) (t.elt n), st)) ∧
    (∀ {sz e sz' s n : Nat} {j : Int} {st : St}, 0 ≤ j → j < (n : Int) → iadP sz (.osl e sz' s n) (I j) st = some (.ptr s (j.toNat * sz), st)) ∧
    (endOk .ret ↔ True) ∧ (endOk .go ↔ True) ∧
    (∀ {ns : List Nat} {c : List PV} {cs : List (List PV)}, (stB ns (c :: cs)).objs 0 = some c) ∧ (∀ {n : Nat}, Tok.elt n .no = .no) :=
  ⟨b_lss, b_leq, b_gtr, b_geq, b_eql, b_neq, b_add, b_sub, b_mul, s_eql, s_neq, s_lss, s_geq, s_gtr, s_leq, s_add, u_not, u_neg, wrap_i64, wrap_u8, sidxP_ok, sslP_lo, sslP_hi, sslP_both, iadP_list, iadP_osl, Iff.rfl, Iff.rfl, rfl, rfl⟩
theorem pa : type_of% (And.intro pms (And.intro pmk (And.intro pmo pmo2))) := And.intro pms (And.intro pmk (And.intro pmo pmo2))
theorem pb : type_of% (And.intro pmv (And.intro pmp (And.intro pmq (And.intro pmb pmn)))) := And.intro pmv (And.intro pmp (And.intro pmq (And.intro pmb pmn)))
section
variable {cf : CallF} {f : Nat} {F : CFn} {as : List PV} {r q : PV} {t t2 : Nat} {st : St}
theorem c_val (K : Tab cf) (hT : T f = some F) (hres : F.res = [.tmp t]) (hown : F.own = false) (hnt : as.length ≤ F.nt) (has : ∀ p ∈ as, plainV p) (hr : bare r) (N : Nat) (h : Wp cf N F.body (frame as, stB [] []) (fun e y => endOk e ∧ y.1 t = r)) : callP cf f as [] st = some (r, st) :=
  call_bare has hr (fn_val (K f F hT) hres hown hnt hr.plain N h)
theorem c_ptr (K : Tab cf) (hT : T f = some F) (hres : F.res = [.tmp t]) (hown : F.own = false) (hnt : as.length + 1 ≤ F.nt) (hnk : 1 ≤ F.nk) (has : ∀ p ∈ as, plainV p) (hr : bare r) {s : Nat} {c c' : List PV} (hs : st.objs s = some c) (hc : plainVs c) (hc' : bares c') (N : Nat)
    (h : Wp cf N F.body (frame (.ptr 0 0 :: as), stB [] [c]) (fun e y => endOk e ∧ y.1 t = r ∧ y.2.objs 0 = some c')) : callP cf f (.ptr s 0 :: as) [] st = some (r, setO st s c') :=
  call_ptr hs hc hc' has hr (fn_ptr (K f F hT) hres hown hnt hnk hr.plain hc'.plain N h)
end
mutual
theorem ren_strip (f : Nat → Option Nat) (s : Bool) : ∀ p : PV, ren f s (ren (fun _ => none) true p) = ren (fun _ => none) true p
  | .list n cs t => by
    simp only [ren, rens_strips f s cs]
    cases t <;> rfl
  | .iptr cs o t => by
    simp only [ren, rens_strips f s cs]
    cases t <;> rfl
  | .agg cs => by simp only [ren, rens_strips f s cs]
  | .tup cs => by simp only [ren, rens_strips f s cs]
  | .fn g cs => by simp only [ren, rens_strips f s cs]
  | .any | .hole | .int _ _ | .bool _ | .str _ | .nilp | .nili | .err | .ptr _ _ | .osl _ _ _ _ | .mp _ => rfl
theorem rens_strips (f : Nat → Option Nat) (s : Bool) : ∀ ps : List PV, rens f s (rens (fun _ => none) true ps) = rens (fun _ => none) true ps
  | [] => rfl
  | p :: ps => by simp only [rens, ren_strip f s p, rens_strips f s ps]
end
def notRow : PV → Bool
  | .osl .. => false
  | .ptr .. => false
  | _ => true
theorem meltAll_all (nk : Nat) (st : St) : ∀ (ps : List PV), (∀ p ∈ ps, notRow p = true) → meltAll nk ps st = (ps, st)
  | [], _ => by rw [meltAll]
  | p :: ps, h => by
    have ih := meltAll_all nk st ps fun q hq => h q (by simp [hq])
    have hp := h p (by simp)
    cases p <;> first | exact absurd hp Bool.false_ne_true | (rw [meltAll, ih]; intros; simp_all)
def goesOut : List PV → Bool
  | [] => true
  | p :: ps => np p && notRow p && goesOut ps
theorem goesOut_all : ∀ {ps : List PV}, goesOut ps = true → (∀ p ∈ ps, notRow p = true) ∧ nps ps = true
  | [], _ => ⟨by simp, rfl⟩
  | p :: ps, h => by
    simp only [goesOut, Bool.and_eq_true] at h
    obtain ⟨h1, h2⟩ := goesOut_all h.2
    refine ⟨fun q hq => ?_, ?_⟩
    · rcases List.mem_cons.1 hq with rfl | hq
      · exact h.1.2
      · exact h1 q hq
    have a : off (fun _ => true) p = true := h.1.1
    have b : offs (fun _ => true) ps = true := h2
    simp only [nps, offs, a, b, Bool.and_self]
theorem np_oneOf {ps : List PV} (h : goesOut ps = true) : np (oneOf ps) = true := by
  have h2 := (goesOut_all h).2
  match ps with
  | [] => rfl
  | [p] => simp only [goesOut, Bool.and_eq_true] at h; exact h.1.1
  | p :: q :: ps => exact h2
theorem finish_gen {F : CFn} {n : Nat} {fr : Fr} {st : St} {ps0 : List PV} {cs0 : List (List PV)} (hown : F.own = false) (h : ressP fr st F.res = some ps0) (hp : goesOut ps0 = true) (hcs : getAll st (List.range n) = some cs0) (hc : cs0.all nps = true) :
    finish F n fr st = some (strip (oneOf ps0), [], cs0.map strips) := by
  simp only [finish, h, hcs, meltAll_all F.nk st ps0 (goesOut_all hp).1, np_oneOf hp, hc, Bool.and_self, if_true, sealP, hown, Bool.false_and, Bool.false_eq_true, if_false]
def consO : Option PV → Option (List PV) → Option (List PV)
  | some p, some ps => some (p :: ps)
  | _, _ => none
def lodP (cs : Option (List PV)) (off sz : Nat) (ag : Bool) : Option PV := match cs with
  | some cs => partP cs off sz ag
  | none => none
def celP (p : PV) (sz : Nat) (ag : Bool) (st : St) : Option PV := match p with
  | .ptr s off => lodP (st.objs s) off sz ag
  | .iptr cs off _ => partP cs off sz ag
  | _ => none
def outO (Q : PV → List PV → Prop) : Option (List PV) → Option (List PV) → Prop
  | some ps, some c => goesOut ps = true ∧ nps c = true ∧ Q (strip (oneOf ps)) (strips c)
  | _, _ => False
def Ends (rs : List CRes) (Q : PV → List PV → Prop) (e : Ex) (y : Fr × St) : Prop := endOk e ∧ outO Q (ressP y.1 y.2 rs) (y.2.objs 0)
def EndsV (rs : List CRes) (Q : PV → Prop) (e : Ex) (y : Fr × St) : Prop := endOk e ∧ outO (fun p _ => Q p) (ressP y.1 y.2 rs) (some [])
def setF (st : St) (v : Nat) : St := { st with fl := v }
section
variable {cf : CallF} {f : Nat} {F : CFn} {as : List PV} {st : St} {rs : List CRes}
theorem keysOf_one {s : Nat} (h : as.all plainArg = true) : keysOf (.ptr s 0 :: as) = some [s] := by
  simp only [keysOf, keysOf_plain h]
  simp
theorem handOn_one {s : Nat} (h : as.all plainArg = true) : handOn [] [] 0 0 (.ptr s 0 :: as) = .ptr 0 0 :: as.map strip := by
  simp only [handOn, handOn_plain _ _ h]
theorem c_ptrE (K : Tab cf) (hT : T f = some F) (hres : F.res = rs) (hown : F.own = false) (hnt : as.length + 1 ≤ F.nt) (hnk : 1 ≤ F.nk) (has : ∀ p ∈ as, plainV p) {s : Nat} {c : List PV} (hs : st.objs s = some c) (hc : plainVs c) (N : Nat) {Q : PV → List PV → Prop}
    (h : Wp cf N F.body (frame (.ptr 0 0 :: as), stB [] [c]) (Ends rs Q)) : ∃ r c', Q r c' ∧ ∃ fl, callP cf f (.ptr s 0 :: as) [] st = some (r, setF (setO st s c') fl) := by
  obtain ⟨e, ⟨fr, s1⟩, hev, he, ho⟩ := h
  obtain ⟨h1, h2⟩ := plainVs_arg has
  subst hres
  revert ho
  generalize hps : ressP fr s1 F.res = o1
  generalize hcc : s1.objs 0 = o2
  intro ho
  match o1, o2, ho with
  | some ps0, some c1, ho =>
    obtain ⟨hp, hn, hQ⟩ := ho
    have hcs : getAll s1 (List.range [c].length) = some [c1] := by
      have : List.range [c].length = [0] := rfl
      rw [this]; simp only [getAll, hcc]
    have hf := finish_gen (n := [c].length) hown hps hp hcs (by simp [hn])
    have hrun : runFn cf N F (.ptr 0 0 :: as) [] [c] = some (strip (oneOf ps0), [], [strips c1]) := by
      unfold runFn
      rw [if_pos ⟨by simpa using hnt, by simpa using hnk⟩, hev]
      cases e with
      | go => exact hf
      | ret => exact hf
      | exit i => exact he.elim
    have hcf := K f F hT N _ _ _ _ hrun
    refine ⟨_, _, hQ, (if closed (strip (oneOf ps0)) && [strips c1].all closeds then st.fl else st.nx), ?_⟩
    · simp only [callP, keysOf_one h1, getAll, hs, handOn_one h1, h2, List.map_cons, List.map_nil, hc.2.1, hcf, List.length_cons, List.length_nil, if_true]
      congr 1
      refine Prod.ext (ren_strip _ _ _) ?_
      have hr : rens (fun k => some (st.nx + k)) false (strips c1) = strips c1 := rens_strips _ _ _
      simp only [hr]
      rfl
theorem c_valE (K : Tab cf) (hT : T f = some F) (hres : F.res = rs) (hown : F.own = false) (hnt : as.length ≤ F.nt) (has : ∀ p ∈ as, plainV p) (N : Nat) {Q : PV → Prop}
    (h : Wp cf N F.body (frame as, stB [] []) (EndsV rs Q)) : ∃ r, Q r ∧ ∃ fl, callP cf f as [] st = some (r, setF st fl) := by
  obtain ⟨e, ⟨fr, s1⟩, hev, he, ho⟩ := h
  obtain ⟨h1, h2⟩ := plainVs_arg has
  subst hres
  revert ho
  generalize hps : ressP fr s1 F.res = o1
  intro ho
  match o1, ho with
  | some ps0, ho =>
    obtain ⟨hp, -, hQ⟩ := ho
    have hf := finish_gen (n := 0) (cs0 := []) hown hps hp rfl rfl
    have hrun : runFn cf N F as [] [] = some (strip (oneOf ps0), [], []) := by
      unfold runFn
      rw [if_pos ⟨hnt, Nat.zero_le _⟩, hev]
      cases e with
      | go => exact hf
      | ret => exact hf
      | exit i => exact he.elim
    have hcf := K f F hT N _ _ _ _ hrun
    refine ⟨_, hQ, (if closed (strip (oneOf ps0)) then st.fl else st.nx), ?_⟩
    · rw [callP_plain h1 (by rw [h2]; exact hcf)]
      congr 1
      refine Prod.ext (ren_strip _ _ _) rfl
theorem RunsTo_E {o : Option (PV × St)} {mk : PV → St → Fr × St} {A : Fr × St → Prop} {Q : PV → List PV → Prop} {m : List PV → Nat → St} (h : ∃ r c', Q r c' ∧ ∃ fl, o = some (r, m c' fl)) (k : ∀ r c' fl, Q r c' → A (mk r (m c' fl))) : RunsTo o mk A := by
  obtain ⟨r, c', hQ, fl, rfl⟩ := h
  exact ⟨_, _, rfl, k r c' fl hQ⟩
theorem RunsTo_EV {o : Option (PV × St)} {mk : PV → St → Fr × St} {A : Fr × St → Prop} {Q : PV → Prop} {m : Nat → St} (h : ∃ r, Q r ∧ ∃ fl, o = some (r, m fl)) (k : ∀ r fl, Q r → A (mk r (m fl))) : RunsTo o mk A := by
  obtain ⟨r, hQ, fl, rfl⟩ := h
  exact ⟨_, _, rfl, k r fl hQ⟩
end
def Gr (e nx : Nat) (cnt : Nat → Nat) (n : Nat) : Tok → Prop
  | .nil => n = 0
  | .full e' => e' = e ∧ n = 0
  | .own k e' => k < nx ∧ cnt k = n ∧ e' = e
  | _ => False
def appT (e : Nat) (t : Tok) (st : St) : Tok := match t with
  | .own k _ => .own k e
  | _ => .own st.nx e
def appS (t : Tok) (st : St) (n : Nat) : St := match t with
  | .own k _ => st.count k n
  | _ => st.more [n]
def appP (e sz bytes : Nat) (x y : PV) (st : St) : Option (PV × St) := match x, y with
  | .list n cs t, .list m ds _ =>
    if can st n t = true ∧ cs.length = n * sz ∧ ds.length = m * sz ∧ (n + m) * bytes ≤ byteBound ∧ n + m ≤ byteBound ∧ 0 < sz then
      match t with
      | .own k e' => if e' = e then some (.list (n + m) (cs ++ ds) (.own k e), st.count k (n + m)) else none
      | .full e' => if e' = e ∧ (0 < m ∨ n = 0) then some (.list (n + m) (cs ++ ds) (.own st.nx e), st.more [n + m]) else none
      | _ => some (.list (n + m) (cs ++ ds) (.own st.nx e), st.more [n + m])
    else none
  | _, _ => none
theorem appP_ok {e sz bytes n m : Nat} {cs ds : List PV} {t u : Tok} {st : St} (h : Gr e st.nx st.cnt n t) (h1 : cs.length = n * sz) (h2 : ds.length = m * sz) (h3 : (n + m) * bytes ≤ 140737488355328) (h4 : n + m ≤ 140737488355328) (h5 : 0 < sz) :
    appP e sz bytes (.list n cs t) (.list m ds u) st = some (.list (n + m) (cs ++ ds) (appT e t st), appS t st (n + m)) := by
  have hb : byteBound = 140737488355328 := rfl
  cases t with
  | no => exact h.elim
  | sub k => exact h.elim
  | el k e n => exact h.elim
  | nil =>
    have h : n = 0 := h
    subst h
    simp [appP, can, h1, h2, hb, h5, appT, appS]
    exact ⟨by simpa using h3, by simpa using h4⟩
  | full e' =>
    obtain ⟨h, hn⟩ : e' = e ∧ n = 0 := h
    subst h
    subst hn
    simp [appP, can, h1, h2, hb, h5, appT, appS]
    exact ⟨by simpa using h3, by simpa using h4⟩
  | own k e' =>
    obtain ⟨ha, hb', rfl⟩ : k < st.nx ∧ st.cnt k = n ∧ e' = e := h
    simp [appP, can, h1, h2, hb, h3, h4, h5, ha, hb', appT, appS]
theorem Gr_app {e n m : Nat} {t : Tok} {st : St} (h : Gr e st.nx st.cnt n t) : Gr e (appS t st (n + m)).nx (appS t st (n + m)).cnt (n + m) (appT e t st) := by
  cases t with
  | no => exact h.elim
  | sub k => exact h.elim
  | el k e n => exact h.elim
  | nil => exact ⟨by simp [appS, St.more], by simp [appS, St.more], rfl⟩
  | full e' => exact ⟨by simp [appS, St.more], by simp [appS, St.more], rfl⟩
  | own k e' =>
    obtain ⟨ha, hb', rfl⟩ : k < st.nx ∧ st.cnt k = n ∧ e' = e := h
    exact ⟨by simpa [appS, St.count] using ha, by simp [appS, St.count], rfl⟩
theorem Gr_full {e nx : Nat} {cnt : Nat → Nat} : Gr e nx cnt 0 (.full e) := ⟨rfl, rfl⟩
theorem appS_objs {t : Tok} {st : St} {n : Nat} : (appS t st n).objs = st.objs := by cases t <;> rfl
theorem appS_maps {t : Tok} {st : St} {n : Nat} : (appS t st n).maps = st.maps := by cases t <;> rfl
def apartT : Tok → Tok → Prop
  | .own k _, .own j _ => k ≠ j
  | _, _ => True
theorem Gr_other {e e2 n n2 m : Nat} {t u : Tok} {st : St} (h : Gr e st.nx st.cnt n t) (k : Gr e2 st.nx st.cnt n2 u) (ha : apartT t u) : Gr e2 (appS t st m).nx (appS t st m).cnt n2 u ∧ apartT (appT e t st) u := by
  have go : ∀ (t : Tok), (match t with | .own _ _ => False | _ => True) → appS t st m = st.more [m] → appT e t st = .own st.nx e → Gr e2 (appS t st m).nx (appS t st m).cnt n2 u ∧ apartT (appT e t st) u := by
    intro t _ h1 h2
    rw [h1, h2]
    cases u with
    | own j e' =>
      obtain ⟨ka, kb, rfl⟩ : j < st.nx ∧ st.cnt j = n2 ∧ e' = e2 := k
      refine ⟨⟨by simp [St.more]; omega, by simp [St.more, ka, kb], rfl⟩, ?_⟩
      show st.nx ≠ j
      omega
    | no => exact k.elim
    | sub k' => exact k.elim
    | el k' e' n' => exact k.elim
    | nil => exact ⟨k, trivial⟩
    | full e' => exact ⟨k, trivial⟩
  cases t with
  | no => exact h.elim
  | sub k => exact h.elim
  | el k e n => exact h.elim
  | nil => exact go .nil trivial rfl rfl
  | full e' => exact go (.full e') trivial rfl rfl
  | own i e' =>
    cases u with
    | own j e'' =>
      obtain ⟨ka, kb, rfl⟩ : j < st.nx ∧ st.cnt j = n2 ∧ e'' = e2 := k
      have ha : i ≠ j := ha
      refine ⟨⟨by simpa [appS, St.count] using ka, ?_, rfl⟩, ha⟩
      simp only [appS, St.count]
      rw [if_neg (fun h => ha h.symm)]
      exact kb
    | no => exact k.elim
    | sub k' => exact k.elim
    | el k' e' n' => exact k.elim
    | nil => exact ⟨k, trivial⟩
    | full e'' => exact ⟨k, trivial⟩
def fillV (zs : List PV) : List (Nat × Nat × PV) → Option (List PV)
  | [] => some zs
  | (off, sz, p) :: rest => match cellsOf p with
    | some cs => if cs.length = sz ∧ off + sz ≤ zs.length then fillV (putCells zs off cs) rest else none
    | none => none
theorem fillV_eq (fr : Fr) : ∀ (ps : List (Nat × Nat × CX)) (zs : List PV), fillP zs fr ps = fillV zs (ps.map fun q => (q.1, q.2.1, q.2.2.ev fr))
  | [], _ => rfl
  | (off, sz, x) :: rest, zs => by
    simp only [fillP, List.map_cons, fillV]
    cases cellsOf (x.ev fr) with
    | none => rfl
    | some cs => simp only [fillV_eq fr rest]
def aggO (o : Option (List PV)) (st : St) : Option (PV × St) := match o with
  | some cs => some (.agg cs, st)
  | none => none
def bslO (e sz n : Nat) (zs : List PV) (o : Option (List PV)) (st : St) : Option (PV × St) := match o with
  | some cs => if zs.length = sz ∧ 0 < sz then some (.list n cs (.full e), st) else none
  | none => none
def stoP (sz s off : Nat) (vs cs : Option (List PV)) (st : St) : Option (PV × St) := match vs, cs with
  | some vs, some cs => if vs.length = sz ∧ off + sz ≤ cs.length then some (.hole, setO st s (putCells cs off vs)) else none
  | _, _ => none
theorem storeP_eq {sz s off : Nat} {x : PV} {st : St} : storeP sz (.ptr s off) x st = stoP sz s off (cellsOf x) (st.objs s) st := by
  simp only [storeP, stoP]
  cases cellsOf x with
  | none => rfl
  | some vs => cases h : st.objs s <;> simp only [h]
theorem loadP_eq {sz s off : Nat} {ag : Bool} {st : St} : loadP sz ag (.ptr s off) st = (lodP (st.objs s) off sz ag).map fun p => (p, st) := by
  simp only [loadP, lodP]
  cases h : st.objs s <;> simp only [] <;> rfl
def b2sP (x : PV) (st : St) : Option (PV × St) := match x with
  | .list n cs _ => match bytesP cs with
    | some bs => if bs.length = n then some (.str ⟨bs.toArray⟩, st) else none
    | none => none
  | _ => none
def bys (l : List UInt8) : List PV := l.map fun c => U (c.toNat : Int)
theorem bytesP_bys (l : List UInt8) : bytesP (bys l) = some l := by
  unfold bys
  induction l with
  | nil => rfl
  | cons c l ih => simp [bytesP, ih]
theorem b2sP_bys {l : List UInt8} {n : Nat} {t : Tok} {st : St} (h : n = l.length) : b2sP (.list n (bys l) t) st = some (S l, st) := by
  simp [b2sP, bytesP_bys, h]
theorem bys_length (l : List UInt8) : (bys l).length = l.length := by simp [bys]
theorem bys_snoc (l : List UInt8) (c : UInt8) : bys l ++ [U (c.toNat : Int)] = bys (l ++ [c]) := by simp [bys]
def slcP (sz : Nat) (x : PV) (lo hi : Option PV) (st : St) : Option (PV × St) := match x with
  | .list n cs t => match (match (match hi with | some x => boundP x n | none => some n) with
      | none => none
      | some h => match (match lo with | some x => boundP x h | none => some 0) with
        | none => none
        | some l => some (l, h)) with
    | some (l, h) => if cs.length = n * sz then some (.list (h - l) ((cs.drop (l * sz)).take ((h - l) * sz)) t.der, st) else none
    | none => none
  | _ => none
theorem partP_zero {c : PV} {cs : List PV} : partP (c :: cs) 0 1 false = some c := by
  simp [partP]
theorem partP_succ {c : PV} {cs : List PV} {n sz : Nat} {ag : Bool} : partP (c :: cs) (n + 1) sz ag = partP cs n sz ag := by
  unfold partP
  simp only [List.length_cons, List.drop_succ_cons, List.getElem?_cons_succ]
  have : n + 1 + sz ≤ cs.length + 1 ↔ n + sz ≤ cs.length := by omega
  simp only [this]
theorem partP_take {cs : List PV} {sz : Nat} : partP cs 0 sz true = if sz ≤ cs.length then some (.agg (cs.take sz)) else none := by
  simp [partP]
theorem putCells_cons {cs vs : List PV} {v : PV} {off : Nat} : putCells cs off (v :: vs) = putCells (cs.set off v) (off + 1) vs := rfl
theorem putCells_cat : ∀ (vs as cs : List PV), vs.length = cs.length → putCells (as ++ cs) as.length vs = as ++ vs
  | [], as, [], _ => rfl
  | v :: vs, as, c :: cs, h => by
    rw [putCells_cons]
    have : (as ++ c :: cs).set as.length v = (as ++ [v]) ++ cs := by simp
    rw [this]
    have h2 := putCells_cat vs (as ++ [v]) cs (by simpa using h)
    rw [List.length_append] at h2
    simp only [List.length_cons, List.length_nil, Nat.zero_add] at h2
    rw [h2]
    simp
theorem putCells_all {vs cs : List PV} (h : vs.length = cs.length) : putCells cs 0 vs = vs := by
  have := putCells_cat vs [] cs h
  simpa using this
theorem pmx :
    (∀ {cf : CallF} {fr : Fr} {st : St} {d : Option Nat} {zs : List PV} {ps : List (Nat × Nat × CX)}, runOp cf fr st d (.build zs ps) = aggO (fillV zs (ps.map fun q => (q.1, q.2.1, q.2.2.ev fr))) st) ∧
    (∀ {cf : CallF} {fr : Fr} {st : St} {d : Option Nat} {e sz n : Nat} {zs : List PV} {ps : List (Nat × Nat × CX)}, runOp cf fr st d (.bsl e sz zs n ps) = bslO e sz n zs (fillV (List.replicate n zs).flatten (ps.map fun q => (q.1, q.2.1, q.2.2.ev fr))) st) ∧
    (∀ {cf : CallF} {fr : Fr} {st : St} {d : Option Nat} {e sz b : Nat} {x y : CX}, runOp cf fr st d (.app e sz b x y) = appP e sz b (x.ev fr) (y.ev fr) st) ∧
    (∀ {cf : CallF} {fr : Fr} {st : St} {d : Option Nat} {x : CX}, runOp cf fr st d (.b2s x) = b2sP (x.ev fr) st) ∧
    (∀ {cf : CallF} {fr : Fr} {st : St} {d : Option Nat} {sz : Nat} {x : CX}, runOp cf fr st d (.slc sz x none none) = slcP sz (x.ev fr) none none st) ∧
    (∀ {cf : CallF} {fr : Fr} {st : St} {d : Option Nat} {sz : Nat} {x a : CX}, runOp cf fr st d (.slc sz x (some a) none) = slcP sz (x.ev fr) (some (a.ev fr)) none st) ∧
    (∀ {cf : CallF} {fr : Fr} {st : St} {d : Option Nat} {sz : Nat} {x b : CX}, runOp cf fr st d (.slc sz x none (some b)) = slcP sz (x.ev fr) none (some (b.ev fr)) st) ∧
    (∀ {cf : CallF} {fr : Fr} {st : St} {d : Option Nat} {sz : Nat} {x a b : CX}, runOp cf fr st d (.slc sz x (some a) (some b)) = slcP sz (x.ev fr) (some (a.ev fr)) (some (b.ev fr)) st) := by
  refine ⟨?_, ?_, ?_, ?_, ?_, ?_, ?_, ?_⟩
  · intros; simp only [runOp, fillV_eq]; rfl
  · intros; simp only [runOp, fillV_eq]; rfl
  all_goals (intros; rfl)
theorem pmy :
    (∀ {sz s off : Nat} {x : PV} {st : St}, storeP sz (.ptr s off) x st = stoP sz s off (cellsOf x) (st.objs s) st) ∧
    (∀ {sz s off : Nat} {ag : Bool} {st : St}, loadP sz ag (.ptr s off) st = (lodP (st.objs s) off sz ag).map fun p => (p, st)) ∧
    (∀ {sz s off : Nat} {vs cs : List PV} {st : St}, stoP sz s off (some vs) (some cs) st = if vs.length = sz ∧ off + sz ≤ cs.length then some (.hole, setO st s (putCells cs off vs)) else none) ∧
    (∀ {cs : List PV} {off sz : Nat} {ag : Bool}, lodP (some cs) off sz ag = partP cs off sz ag) ∧
    (∀ {c : PV} {cs : List PV}, partP (c :: cs) 0 1 false = some c) ∧ (∀ {c : PV} {cs : List PV} {n sz : Nat} {ag : Bool}, partP (c :: cs) (n + 1) sz ag = partP cs n sz ag) ∧
    (∀ {cs : List PV} {sz : Nat}, partP cs 0 sz true = if sz ≤ cs.length then some (.agg (cs.take sz)) else none) ∧
    (∀ {cs : List PV}, cellsOf (.agg cs) = some cs) ∧ (∀ {k : IntKind} {n : Int}, cellsOf (.int k n) = some [.int k n]) ∧ (∀ {b : Bool}, cellsOf (.bool b) = some [.bool b]) ∧ (∀ {s : ByteArray}, cellsOf (.str s) = some [.str s]) ∧ (∀ {n : Nat} {cs : List PV} {t : Tok}, cellsOf (.list n cs t) = some [.list n cs t]) ∧
    (∀ {cs st}, aggO (some cs) st = some (.agg cs, st)) ∧ (∀ {e sz n : Nat} {zs cs : List PV} {st : St}, bslO e sz n zs (some cs) st = if zs.length = sz ∧ 0 < sz then some (.list n cs (.full e), st) else none) ∧
    (∀ {zs : List PV}, fillV zs [] = some zs) ∧ (∀ {zs : List PV} {off sz : Nat} {p : PV} {rest : List (Nat × Nat × PV)}, fillV zs ((off, sz, p) :: rest) = match cellsOf p with | some cs => if cs.length = sz ∧ off + sz ≤ zs.length then fillV (putCells zs off cs) rest else none | none => none) ∧
    (∀ {cs : List PV} {off : Nat}, putCells cs off [] = cs) ∧ (∀ {cs vs : List PV} {v : PV} {off : Nat}, putCells cs off (v :: vs) = putCells (cs.set off v) (off + 1) vs) ∧
    (∀ {c v : PV} {cs : List PV}, (c :: cs).set 0 v = v :: cs) ∧ (∀ {c v : PV} {cs : List PV} {n : Nat}, (c :: cs).set (n + 1) v = c :: cs.set n v) ∧
    (∀ {zs : List PV}, (List.replicate 1 zs).flatten = zs) ∧ (∀ {zs : List PV}, (List.replicate 2 zs).flatten = zs ++ zs) ∧
    (∀ {cs : List PV}, cs.take 0 = []) ∧ (∀ {c : PV} {cs : List PV} {n : Nat}, (c :: cs).take (n + 1) = c :: cs.take n) ∧ (∀ {n : Nat}, ([] : List PV).take n = []) ∧
    (([] : List PV).length = 0) ∧ (∀ {c : PV} {cs : List PV}, (c :: cs).length = cs.length + 1) ∧
    (∀ {vs : List PV}, ([] ++ vs) = vs) ∧ (∀ {v : PV} {vs ws : List PV}, ((v :: vs) ++ ws) = v :: (vs ++ ws)) ∧
    (∀ {t : Tok} {st : St} {n : Nat}, (appS t st n).objs = st.objs) ∧ (∀ {t : Tok} {st : St} {n : Nat}, (appS t st n).maps = st.maps) ∧
    (∀ {st : St} {v : Nat}, (setF st v).objs = st.objs) ∧ (∀ {st : St} {v : Nat}, (setF st v).maps = st.maps) ∧ (∀ {st : St} {v : Nat}, (setF st v).nx = st.nx) ∧ (∀ {st : St} {v : Nat}, (setF st v).cnt = st.cnt) := by
  refine ⟨storeP_eq, loadP_eq, rfl, rfl, partP_zero, partP_succ, partP_take, rfl, rfl, rfl, rfl, rfl, rfl, rfl, rfl, rfl, rfl, rfl, rfl, rfl, ?_, ?_, ?_, ?_, ?_, ?_, ?_, ?_, ?_, appS_objs, appS_maps, rfl, rfl, rfl, rfl⟩ <;> intros <;> first | rfl | simp [List.replicate]
theorem ressP_cons {fr : Fr} {st : St} {r : CRes} {rs : List CRes} : ressP fr st (r :: rs) = consO (resP fr st r) (ressP fr st rs) := by
  simp only [ressP]
  cases resP fr st r <;> cases ressP fr st rs <;> rfl
theorem strip_list {n : Nat} {cs : List PV} {t : Tok} : strip (.list n cs t) = .list n (strips cs) .no := by
  simp only [strip, strips, ren]
  cases t <;> rfl
theorem pmz :
    (∀ {rs : List CRes} {Q : PV → List PV → Prop} {fr : Fr} {st : St}, Ends rs Q .ret (fr, st) ↔ outO Q (ressP fr st rs) (st.objs 0)) ∧
    (∀ {rs : List CRes} {Q : PV → List PV → Prop} {fr : Fr} {st : St}, Ends rs Q .go (fr, st) ↔ outO Q (ressP fr st rs) (st.objs 0)) ∧
    (∀ {rs : List CRes} {Q : PV → Prop} {fr : Fr} {st : St}, EndsV rs Q .ret (fr, st) ↔ outO (fun p _ => Q p) (ressP fr st rs) (some [])) ∧
    (∀ {rs : List CRes} {Q : PV → Prop} {fr : Fr} {st : St}, EndsV rs Q .go (fr, st) ↔ outO (fun p _ => Q p) (ressP fr st rs) (some [])) ∧
    (∀ {Q : PV → List PV → Prop} {ps c : List PV}, outO Q (some ps) (some c) ↔ (goesOut ps = true ∧ nps c = true ∧ Q (strip (oneOf ps)) (strips c))) ∧
    (∀ {fr : Fr} {st : St}, ressP fr st [] = some []) ∧ (∀ {fr : Fr} {st : St} {r : CRes} {rs : List CRes}, ressP fr st (r :: rs) = consO (resP fr st r) (ressP fr st rs)) ∧
    (∀ {p : PV} {ps : List PV}, consO (some p) (some ps) = some (p :: ps)) ∧
    (∀ {fr : Fr} {st : St} {t : Nat}, resP fr st (.tmp t) = some (fr t)) ∧ (∀ {fr : Fr} {st : St} {a sz : Nat} {ag : Bool}, resP fr st (.cell a sz ag) = celP (fr a) sz ag st) ∧
    (∀ {s off sz : Nat} {ag : Bool} {st : St}, celP (.ptr s off) sz ag st = lodP (st.objs s) off sz ag) ∧
    (goesOut [] = true) ∧ (∀ {p : PV} {ps : List PV}, goesOut (p :: ps) = (np p && notRow p && goesOut ps)) ∧
    (∀ {p : PV}, oneOf [p] = p) ∧ (∀ {p q : PV} {ps : List PV}, oneOf (p :: q :: ps) = .tup (p :: q :: ps)) ∧
    (∀ {k : IntKind} {n : Int}, notRow (.int k n) = true) ∧ (∀ {b : Bool}, notRow (.bool b) = true) ∧ (∀ {s : ByteArray}, notRow (.str s) = true) ∧ (∀ {cs : List PV}, notRow (.agg cs) = true) ∧ (∀ {n : Nat} {cs : List PV} {t : Tok}, notRow (.list n cs t) = true) ∧
    (∀ {k : IntKind} {n : Int}, np (.int k n) = true) ∧ (∀ {b : Bool}, np (.bool b) = true) ∧ (∀ {s : ByteArray}, np (.str s) = true) ∧ (∀ {cs : List PV}, np (.agg cs) = nps cs) ∧ (∀ {n : Nat} {cs : List PV} {t : Tok}, np (.list n cs t) = nps cs) ∧ (np .nili = true) ∧ (np .err = true) ∧
    (nps [] = true) ∧ (∀ {p : PV} {ps : List PV}, nps (p :: ps) = (np p && nps ps)) ∧
    (∀ {k : IntKind} {n : Int}, strip (.int k n) = .int k n) ∧ (∀ {b : Bool}, strip (.bool b) = .bool b) ∧ (∀ {s : ByteArray}, strip (.str s) = .str s) ∧ (∀ {cs : List PV}, strip (.agg cs) = .agg (strips cs)) ∧ (∀ {cs : List PV}, strip (.tup cs) = .tup (strips cs)) ∧ (∀ {n : Nat} {cs : List PV} {t : Tok}, strip (.list n cs t) = .list n (strips cs) .no) ∧
    (strips [] = []) ∧ (∀ {p : PV} {ps : List PV}, strips (p :: ps) = strip p :: strips ps) ∧
    (∀ {ns : List Nat} {c : List PV} {cs : List (List PV)}, (stB ns (c :: cs)).objs 0 = some c) := by
  refine ⟨?_, ?_, ?_, ?_, ?_, ?_, ressP_cons, ?_, ?_, ?_, ?_, ?_, ?_, ?_, ?_, ?_, ?_, ?_, ?_, ?_, ?_, ?_, ?_, ?_, ?_, ?_, ?_, ?_, ?_, ?_, ?_, ?_, ?_, ?_, strip_list, ?_, ?_, ?_⟩ <;> intros <;> first | rfl | (simp only [Ends, EndsV, endOk, true_and])
def WK (cf : CallF) (chk : List (Nat × Nat)) (acc : List (List Nat)) (os : List COper) (x : Fr × St) (K : Fr × St → Prop) : Prop :=
  ∃ ks y, keysRun cf os x = some (ks, y) ∧ chk.all (apartK (acc ++ ks)) = true ∧ K y
def okK (b : Bool) (A : Prop) : Prop := b = true ∧ A
section
variable {cf : CallF} {N : Nat} {fr : Fr} {st : St} {chk : List (Nat × Nat)} {acc : List (List Nat)}
theorem Wp_regK {os : List COper} {q : Nat × Nat} {Q : Ex → Fr × St → Prop} : Wp cf N (.reg os (q :: chk)) (fr, st) Q ↔ WK cf (q :: chk) [] os (fr, st) (Q .go) := by
  unfold Wp WK
  simp only [ev, regP, List.nil_append]
  cases h : keysRun cf os (fr, st) with
  | none => simp
  | some z =>
    obtain ⟨ks, y⟩ := z
    simp only
    constructor
    · rintro ⟨e, y', h, hq⟩
      split at h
      · rename_i hc
        simp only [Option.map_some, Option.some.injEq, Prod.mk.injEq] at h
        obtain ⟨rfl, rfl⟩ := h
        exact ⟨ks, y, rfl, hc, hq⟩
      · simp at h
    · rintro ⟨ks', y', h, hc, hq⟩
      simp only [Option.some.injEq, Prod.mk.injEq] at h
      obtain ⟨rfl, rfl⟩ := h
      rw [if_pos hc]
      exact ⟨.go, y, rfl, hq⟩
theorem WK_nil {K : Fr × St → Prop} : WK cf chk acc [] (fr, st) K ↔ okK (chk.all (apartK acc)) (Later K (fr, st)) := by
  unfold WK okK Later
  simp only [keysRun]
  constructor
  · rintro ⟨ks, y, h, hc, hk⟩
    cases h
    rw [List.append_nil] at hc
    exact ⟨hc, hk⟩
  · rintro ⟨hc, hk⟩
    exact ⟨[], _, rfl, by rw [List.append_nil]; exact hc, hk⟩
theorem WK_cons' {o : COper} {os : List COper} {x : Fr × St} {K : Fr × St → Prop} :
    WK cf chk acc (o :: os) x K ↔ ∃ y, runOper cf o x = some y ∧ WK cf chk (acc ++ [keysAt x.1 o.op]) os y K := by
  unfold WK
  simp only [keysRun]
  constructor
  · rintro ⟨ks, y, h, hc, hk⟩
    split at h
    · rename_i z hz
      refine ⟨z, hz, ?_⟩
      split at h
      · rename_i hz'
        cases h
        exact ⟨_, _, hz', by rw [List.append_assoc]; exact hc, hk⟩
      · cases h
    · cases h
  · rintro ⟨y, hy, ks, z, hz, hc, hk⟩
    rw [hy]
    simp only [hz]
    exact ⟨_, _, rfl, by rw [List.append_assoc] at hc; exact hc, hk⟩
theorem WK_cons {d : Option Nat} {op : COp} {os : List COper} {K : Fr × St → Prop} :
    WK cf chk acc (⟨none, d, op⟩ :: os) (fr, st) K ↔ RunsTo (runOp cf fr st d op) (fun v st' => (put (killF cf op d st fr) d v, st')) (fun y => WK cf chk (acc ++ [keysAt fr op]) os y K) := by
  rw [WK_cons']
  have h := WO_cons (cf := cf) (fr := fr) (st := st) (d := d) (op := op) (os := []) (K := fun y => WK cf chk (acc ++ [keysAt fr op]) os y K)
  simp only [WO, runOps, RunsTo] at h ⊢
  rw [← (show (∃ y, (match runOper cf ⟨none, d, op⟩ (fr, st) with | some y => some y | none => none) = some y ∧ WK cf chk (acc ++ [keysAt fr op]) os y K) ↔ ∃ y, runOper cf ⟨none, d, op⟩ (fr, st) = some y ∧ WK cf chk (acc ++ [keysAt fr op]) os y K by
    constructor <;> rintro ⟨y, h, k⟩ <;> refine ⟨y, ?_, k⟩ <;> revert h <;> cases runOper cf ⟨none, d, op⟩ (fr, st) <;> simp)]
  constructor
  · intro hh
    obtain ⟨v, st', h1, y, h2, h3⟩ := h.1 hh
    cases h2
    exact ⟨v, st', h1, h3⟩
  · rintro ⟨v, st', h1, h3⟩
    exact h.2 ⟨v, st', h1, _, rfl, h3⟩
theorem WK_guard {s : Nat} {b : Bool} {d : Option Nat} {op : COp} {os : List COper} {K : Fr × St → Prop} :
    WK cf chk acc (⟨some (s, b), d, op⟩ :: os) (fr, st) K ↔ byG (fr s) b (Later (fun y => WK cf chk acc (⟨none, d, op⟩ :: os) y K) (fr, st)) (Later (fun y => WK cf chk (acc ++ [keysAt fr op]) os y K) (put fr d .hole, st)) := by
  simp only [Later]
  rw [WK_cons']
  have hW := WK_cons' (cf := cf) (chk := chk) (acc := acc) (o := ⟨none, d, op⟩) (os := os) (x := (fr, st)) (K := K)
  rw [hW]
  clear hW
  unfold byG
  simp only [runOper, wants]
  generalize fr s = p
  cases p with
  | bool b' =>
    cases b <;> cases b' <;> simp [Cnd]
  | hole => simp
  | _ => simp
end
theorem pmw :
    (∀ {cf : CallF} {N : Nat} {fr : Fr} {st : St} {os : List COper} {q : Nat × Nat} {chk : List (Nat × Nat)} {Q : Ex → Fr × St → Prop}, Wp cf N (.reg os (q :: chk)) (fr, st) Q ↔ WK cf (q :: chk) [] os (fr, st) (Q .go)) ∧
    (∀ {cf : CallF} {chk : List (Nat × Nat)} {acc : List (List Nat)} {fr : Fr} {st : St} {K : Fr × St → Prop}, WK cf chk acc [] (fr, st) K ↔ okK (chk.all (apartK acc)) (Later K (fr, st))) ∧
    (∀ {cf : CallF} {chk : List (Nat × Nat)} {acc : List (List Nat)} {fr : Fr} {st : St} {d : Option Nat} {op : COp} {os : List COper} {K : Fr × St → Prop},
      WK cf chk acc (⟨none, d, op⟩ :: os) (fr, st) K ↔ RunsTo (runOp cf fr st d op) (fun v st' => (put (killF cf op d st fr) d v, st')) (fun y => WK cf chk (acc ++ [keysAt fr op]) os y K)) ∧
    (∀ {cf : CallF} {chk : List (Nat × Nat)} {acc : List (List Nat)} {fr : Fr} {st : St} {s : Nat} {b : Bool} {d : Option Nat} {op : COp} {os : List COper} {K : Fr × St → Prop},
      WK cf chk acc (⟨some (s, b), d, op⟩ :: os) (fr, st) K ↔ byG (fr s) b (Later (fun y => WK cf chk acc (⟨none, d, op⟩ :: os) y K) (fr, st)) (Later (fun y => WK cf chk (acc ++ [keysAt fr op]) os y K) (put fr d .hole, st))) ∧
    (∀ {f : Fr × St → Prop} {x : Fr × St}, okK true (Later f x) ↔ f x) :=
  ⟨Wp_regK, WK_nil, WK_cons, WK_guard, by simp [okK, Later]⟩
theorem pmwk :
    (∀ {fr : Fr} {x : CX}, keysAt fr (.mv x) = []) ∧ (∀ {fr : Fr} {a b c : CX}, keysAt fr (.pick a b c) = []) ∧ (∀ {fr : Fr} {zs : List PV}, keysAt fr (.alloc zs) = []) ∧ (∀ {fr : Fr} {n : Nat} {x : CX}, keysAt fr (.box n x) = []) ∧
    (∀ {fr : Fr} {zs : List PV} {ps : List (Nat × Nat × CX)}, keysAt fr (.build zs ps) = []) ∧ (∀ {fr : Fr} {e sz n : Nat} {zs : List PV} {ps : List (Nat × Nat × CX)}, keysAt fr (.bsl e sz zs n ps) = []) ∧
    (∀ {fr : Fr} {sz : Nat} {ag : Bool} {x : CX}, keysAt fr (.load sz ag x) = keyOf (x.ev fr)) ∧ (∀ {fr : Fr} {sz : Nat} {x y : CX}, keysAt fr (.store sz x y) = keyOf (x.ev fr)) ∧
    (∀ {fr : Fr} {x : CX}, keysAt fr (.nck x) = []) ∧ (∀ {fr : Fr} {op : BinOp} {x y : CX}, keysAt fr (.bin op x y) = []) ∧ (∀ {fr : Fr} {b : Bool} {x : CX}, keysAt fr (.isnil b x) = []) ∧ (∀ {fr : Fr} {b : Bool} {x y : CX}, keysAt fr (.beq b x y) = []) ∧
    (∀ {fr : Fr} {op : UnOp} {x : CX}, keysAt fr (.un op x) = []) ∧ (∀ {fr : Fr} {k : IntKind} {x : CX}, keysAt fr (.toInt k x) = []) ∧ (∀ {fr : Fr} {x : CX}, keysAt fr (.s2s x) = []) ∧ (∀ {fr : Fr} {x : CX} {i : Nat}, keysAt fr (.ext x i) = []) ∧
    (∀ {fr : Fr} {o : Nat} {x : CX}, keysAt fr (.fad o x) = []) ∧ (∀ {fr : Fr} {o sz : Nat} {ag : Bool} {x : CX}, keysAt fr (.fld o sz ag x) = []) ∧ (∀ {fr : Fr} {sz : Nat} {x y : CX}, keysAt fr (.iad sz x y) = []) ∧ (∀ {fr : Fr} {x y : CX}, keysAt fr (.sidx x y) = []) ∧
    (∀ {fr : Fr} {x : CX} {l h : Option CX}, keysAt fr (.ssl x l h) = []) ∧ (∀ {fr : Fr} {sz : Nat} {x : CX} {l h : Option CX}, keysAt fr (.slc sz x l h) = []) ∧ (∀ {fr : Fr} {x : CX}, keysAt fr (.slen x) = []) ∧ (∀ {fr : Fr} {x : CX}, keysAt fr (.len x) = []) ∧
    (∀ {fr : Fr} {e sz b : Nat} {x y : CX}, keysAt fr (.app e sz b x y) = []) ∧ (∀ {fr : Fr} {x : CX}, keysAt fr (.b2s x) = []) ∧ (∀ {fr : Fr} {e sz b : Nat} {zs : List PV} {n c : CX}, keysAt fr (.mks e sz b zs n c) = []) ∧ (∀ {fr : Fr} {e sz b : Nat} {n c : CX}, keysAt fr (.mk0 e sz b n c) = []) ∧
    (∀ {fr : Fr} {f : Nat} {as : List CX} {mv : List Nat}, keysAt fr (.call f as mv) = (keysOf (as.map (·.ev fr))).getD []) ∧
    (∀ {s o : Nat}, keyOf (.ptr s o) = [s]) ∧ (∀ {cs : List PV} {o : Nat} {t : Tok}, keyOf (.iptr cs o t) = []) ∧ (keyOf .hole = []) ∧ (keyOf .any = []) ∧
    (∀ {l : List Nat}, (some l).getD [] = l) ∧ (∀ {k : IntKind} {n : Int} {ps : List PV}, keysOf (.int k n :: ps) = keysOf ps) ∧ (∀ {s : ByteArray} {ps : List PV}, keysOf (.str s :: ps) = keysOf ps) ∧ (∀ {b : Bool} {ps : List PV}, keysOf (.bool b :: ps) = keysOf ps) ∧ (∀ {ps : List PV}, keysOf (.hole :: ps) = keysOf ps) ∧ (keysOf [] = some []) ∧
    (∀ {as : List (List Nat)}, [] ++ as = as) ∧ (∀ {a : List Nat} {as bs : List (List Nat)}, (a :: as) ++ bs = a :: (as ++ bs)) := by
  refine ⟨?_, ?_, ?_, ?_, ?_, ?_, ?_, ?_, ?_, ?_, ?_, ?_, ?_, ?_, ?_, ?_, ?_, ?_, ?_, ?_, ?_, ?_, ?_, ?_, ?_, ?_, ?_, ?_, ?_, ?_, ?_, ?_, ?_, ?_, ?_, ?_, ?_, ?_, ?_, ?_, ?_⟩ <;> intros <;> rfl
theorem pmwa : (∀ {ks : List (List Nat)}, List.all [] (apartK ks) = true) ∧ (∀ {ks : List (List Nat)} {q : Nat × Nat} {qs : List (Nat × Nat)}, List.all (q :: qs) (apartK ks) = (apartK ks q && List.all qs (apartK ks))) ∧
    (∀ {ks : List (List Nat)} {i j : Nat}, apartK ks (i, j) = ((ks[i]?).getD []).all fun k => !((ks[j]?).getD []).contains k) ∧ (∀ {f : Nat → Bool}, List.all [] f = true) ∧ (∀ {f : Nat → Bool} {k : Nat} {ks : List Nat}, List.all (k :: ks) f = (f k && List.all ks f)) ∧
    (∀ {k : Nat}, ([] : List Nat).contains k = false) ∧ (∀ {k j : Nat} {ks : List Nat}, (j :: ks).contains k = (decide (k = j) || ks.contains k)) := by
  refine ⟨rfl, rfl, rfl, rfl, rfl, rfl, ?_⟩
  intros k j ks
  rw [List.contains_cons]
  congr 1
end Go.PM
