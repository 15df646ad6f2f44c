/-
  Judgements inside a fence, for the two functions that range over a function: operations one by one, code; the loop over a slice from its end.
-/
import Derived.RangeFuncNested
import Derived.RangeFuncBound
import Derived.RangeFuncBox
import Derived.RangeFuncCalls
import Derived.RangeFuncLeaves
import Derived.TacticsIn
import Derived.Shelf.Abstract
import Derived.OwnWalkIn
import Derived.TacticsInMore
import Derived.Test.YtagenkhjchiigaaGreatPenI
namespace Go.Pen
open Go.RowKit
set_option linter.unusedVariables false

/-- A fence that lets everything by. -/
structure WL (F : Fence) : Prop where
  fn : ∀ f, F.fn f
  depth : F.depth = none
  calls : ∀ {n P f args w R}, Calls P f args w R → CallsIn F n P f args w R

theorem wl_wide : WL Fence.wide := ⟨fun _ => trivial, rfl, fun h => callsIn_wide.2 h⟩
theorem wl_round (l : Nat) : WL (Fence.wide.inRound l) := ⟨fun _ => trivial, rfl, fun h => CallsIn.inRound l (callsIn_wide.2 h)⟩

/-- Live, beside calls that are put off. -/
def LiveD (ds : List Deferred) (n : Nat) (γ : List Nat) (sl : List (Nat × SV)) (a : Act) : Prop := Live n γ sl { a with defers := [] } ∧ a.defers = ds

theorem eval_defers (a : Act) (ds : List Deferred) : ({ a with defers := ds } : Act).eval = a.eval := by
  funext x
  cases x <;> rfl

theorem LiveD.putS {ds : List Deferred} {n : Nat} {γ δ : List Nat} {sl sl' : List (Nat × SV)} {a : Act} (h : LiveD ds n γ sl a) {dst : Option Nat} {x : SV} (hp : Pen.putS n sl dst x = some sl') (hx : x.inb (γ ++ δ).length) :
    LiveD ds n (γ ++ δ) sl' (a.put dst (x.den (γ ++ δ))) := by
  have h1 := (h.1.ext δ).putS hp hx
  cases dst with
  | none => exact ⟨h1, h.2⟩
  | some d => exact ⟨h1, h.2⟩

theorem LiveD.keep {ds : List Deferred} {n : Nat} {γ : List Nat} {sl sl' : List (Nat × SV)} {a : Act} {ks : List Nat} (h : LiveD ds n γ sl a) (hk : keepS ks sl = some sl') : LiveD ds n γ sl' a := ⟨h.1.keep hk, h.2⟩

def nod (o : Oper) : Bool := match o.op with
  | .defer _ => false
  | _ => true

theorem semAt_nod {F : Fence} {o : Oper} (h : nod o = true) (ρ : Operand → Value) : o.semAt F.round ρ = execOp ρ o :=
  Oper.semAt_eq _ _ _ (fun c e => by unfold nod at h; rw [e] at h; cases h)

def JOI (F : Fence) (m : Nat) (P : Program) (A : Nat → Prop) (W0 : World) (ds : List Deferred) (n : Nat) (γ0 : List Nat) (ops : Array Oper) (l : List Oper) (sl : List (Nat × SV)) (bx : List (TypeId × List Value)) (R : List Res) (Q : Exit → Act → World → Prop) : Prop :=
  ∀ δ a w, LiveD ds n (γ0 ++ δ) sl a → SAT A W0 (γ0 ++ δ) bx R w → wpListIn F m P ops Q l a w

def JCI (F : Fence) (m : Nat) (P : Program) (A : Nat → Prop) (W0 : World) (ds : List Deferred) (n : Nat) (γ0 : List Nat) (c : Code) (sl : List (Nat × SV)) (bx : List (TypeId × List Value)) (R : List Res) (Q : Exit → Act → World → Prop) : Prop :=
  ∀ δ a w, LiveD ds n (γ0 ++ δ) sl a → SAT A W0 (γ0 ++ δ) bx R w → c.wpIn F m P Q a w

def JEI (A : Nat → Prop) (W0 : World) (ds : List Deferred) (n : Nat) (γ0 : List Nat) (e : Exit) (sl : List (Nat × SV)) (bx : List (TypeId × List Value)) (R : List Res) (Q : Exit → Act → World → Prop) : Prop :=
  ∀ δ a w, LiveD ds n (γ0 ++ δ) sl a → SAT A W0 (γ0 ++ δ) bx R w → Q e a w

section
variable {F : Fence} {m : Nat} {P : Program} {A : Nat → Prop} {W0 : World} {ds : List Deferred} {n : Nat} {γ0 : List Nat} {ops : Array Oper} {sl sl' : List (Nat × SV)} {bx bx' : List (TypeId × List Value)} {R R' Rc Rr : List Res} {Q : Exit → Act → World → Prop}

/-- An operation that gives a value. -/
theorem wpIn_value (hF : WL F) {o : Oper} {a : Act} {w w' : World} {K : Act → World → Prop} {v : Value} (hd : nod o = true) (h : (execOp a.eval o).run P w = .ok (.value v) w') (k : K (a.put o.dst v) w') : o.wpIn F m P a w K Q := by
  refine ⟨fun f _ => hF.fn f, ?_⟩
  rw [semAt_nod hd, h]
  exact k

theorem wpIn_skipped (hF : WL F) {o : Oper} {a : Act} {w w' : World} {K : Act → World → Prop} (hd : nod o = true) (h : (execOp a.eval o).run P w = .ok .skip w') (k : K (a.put o.dst undef) w') : o.wpIn F m P a w K Q := by
  refine ⟨fun f _ => hF.fn f, ?_⟩
  rw [semAt_nod hd, h]
  exact k

theorem LiveD.wanted {γ : List Nat} {a : Act} {o : Oper} {b : Bool} (hl : LiveD ds n γ sl a) (h : wantedS ops sl o = some b) : Region.wanted o (yielded ops a.tmps) = b :=
  have h1 : Region.wanted o (yielded ops ({ a with defers := [] } : Act).tmps) = b := wantedS_ok hl.1 h
  h1

theorem step1I_ok (hF : WL F) {o : Oper} {rest : List Oper} (hd : nod o = true) (h : step1 P ops n sl bx o = some (sl', bx')) (k : JOI F m P A W0 ds n γ0 ops rest sl' bx' R Q) : JOI F m P A W0 ds n γ0 ops (o :: rest) sl bx R Q := by
  intro γ a w hl hs
  unfold step1 at h
  unfold wpListIn
  split at h
  · rename_i hw
    rw [if_pos (hl.wanted hw)]
    split at h
    · rename_i x bx1 he
      split at h
      · rename_i sl1 hp
        simp only [Option.some.injEq, Prod.mk.injEq] at h
        obtain ⟨rfl, rfl⟩ := h
        obtain ⟨γ', w', nx, hr, hnx, hs', ⟨δ, rfl⟩, hin⟩ := evOp_ok hl.1 hs he
        rw [eval_defers] at hr
        have hl' := hl.putS (δ := δ) hp hin
        rw [List.append_assoc] at hl' hs'
        rcases hnx with rfl | ⟨rfl, hu⟩
        · rw [List.append_assoc] at hr; exact wpIn_value hF hd hr (k _ _ _ hl' hs')
        · rw [List.append_assoc] at hu; rw [hu] at hl'; exact wpIn_skipped hF hd hr (k _ _ _ hl' hs')
      · cases h
    · cases h
  · rename_i hw
    have := hl.wanted hw
    rw [if_neg (by rw [this]; simp)]
    refine ⟨fun f _ => hF.fn f, ?_⟩
    split at h
    · rename_i sl1 hp
      simp only [Option.some.injEq, Prod.mk.injEq] at h
      obtain ⟨rfl, rfl⟩ := h
      have := hl.putS (δ := []) hp trivial
      rw [List.append_nil] at this
      exact k _ _ _ this hs
    · cases h
  · cases h

theorem stepsI_ok (hF : WL F) {l rest : List Oper} (hd : l.all nod = true) (h : steps P ops n l sl bx = some (sl', bx')) (k : JOI F m P A W0 ds n γ0 ops rest sl' bx' R Q) : JOI F m P A W0 ds n γ0 ops (l ++ rest) sl bx R Q := by
  induction l generalizing sl bx with
  | nil => simp only [steps, Option.some.injEq, Prod.mk.injEq] at h; obtain ⟨rfl, rfl⟩ := h; exact k
  | cons o r ih =>
    simp only [List.all_cons, Bool.and_eq_true] at hd
    simp only [steps] at h
    split at h
    · rename_i sl1 bx1 h1; exact step1I_ok hF hd.1 h1 (ih hd.2 h)
    · cases h

theorem JOI_stepsK (hF : WL F) {l : List Oper} (k : Nat) (ks : List Nat) (hd : (l.take k).all nod = true) (h : stepsK P ops n (l.take k) ks sl bx = some (sl', bx')) (K : JOI F m P A W0 ds n γ0 ops (l.drop k) sl' bx' R Q) : JOI F m P A W0 ds n γ0 ops l sl bx R Q := by
  unfold stepsK at h
  split at h
  · rename_i sl1 bx1 h1
    split at h
    · rename_i sl2 h2
      simp only [Option.some.injEq, Prod.mk.injEq] at h
      obtain ⟨rfl, rfl⟩ := h
      have := stepsI_ok (F := F) (m := m) (A := A) (W0 := W0) (ds := ds) (R := R) (Q := Q) (rest := l.drop k) hF hd h1 (fun γ a w hl hs => K γ a w (hl.keep h2) hs)
      rwa [List.take_append_drop] at this
    · cases h
  · cases h

theorem LiveD.known {γ : List Nat} {a : Act} (hl : LiveD ds n γ sl a) {t : Nat} {b b' : Bool} (h : look sl t = some (.v (.bool b))) (e : b = b') : LiveD ds n γ (setS sl t (.v (.bool b'))) a := ⟨hl.1.known h e, hl.2⟩

theorem JOI_split {l : List Oper} (t : Nat) (b : Bool) (h : look sl t = some (.v (.bool b))) (ht : b = true → JOI F m P A W0 ds n γ0 ops l (setS sl t (.v (.bool true))) bx R Q)
    (hf : b = false → JOI F m P A W0 ds n γ0 ops l (setS sl t (.v (.bool false))) bx R Q) : JOI F m P A W0 ds n γ0 ops l sl bx R Q := by
  intro γ a w hl hs
  cases hb : b with
  | true => exact ht hb γ a w (hl.known h hb) hs
  | false => exact hf hb γ a w (hl.known h hb) hs

theorem JOI_end {l : List Oper} (hl : l = []) (h : JEI A W0 ds n γ0 .normal sl bx R Q) : JOI F m P A W0 ds n γ0 ops l sl bx R Q := by
  subst hl; exact fun γ a w h1 h2 => h γ a w h1 h2

theorem JOI_index (hF : WL F) {α : Type} [Rp α] {l rest : List Oper} {o : Oper} (hl : l = o :: rest) (hd : nod o = true) (hw : wantedS ops sl o = some true) {d : Option Addr} {mm : Nat} {j : Int} {s : Nat} (he : evIndex P sl o = some (d, mm, j, s))
    {xs : List α} {x : α} {cap : Nat} (hv : ∀ γ w, SAT A W0 γ bx R w → SlView w xs d cap) (hm : mm = xs.length) (hx : idx xs j = some x)
    (hp : putS n sl o.dst (.q d (j.toNat * s)) = some sl') (k : JOI F m P A W0 ds n γ0 ops rest sl' bx R Q) : JOI F m P A W0 ds n γ0 ops l sl bx R Q := by
  subst hl hm
  intro γ a w hl hs
  obtain ⟨h0, h1, h2⟩ := idx_some hx
  have hv' := hv _ w hs
  unfold wpListIn
  rw [if_pos (hl.wanted hw)]
  have hne : xs ≠ [] := by intro e; subst e; simp at h2
  have hr := evIndex_ok hl.1 he h0 h1 (hv'.spot hne) (hv'.ne h2) w
  rw [eval_defers] at hr
  have := hl.putS (δ := []) hp trivial
  rw [List.append_nil] at this
  exact wpIn_value hF hd hr (k _ _ _ this hs)

theorem JOI_loadq (hF : WL F) {l rest : List Oper} {o : Oper} (hl : l = o :: rest) (hd' : nod o = true) (hw : wantedS ops sl o = some true) {t : TypeId} {d : Option Addr} (base off : Nat) (he : evLoadq P sl o = some (t, d, base + off)) {cs : List Value} {v : Value}
    (hc : ∀ γ w, SAT A W0 γ bx R w → d ≠ none ∧ CellsAt w d base cs) (hv : partVal P t cs off = some v) (hp : putS n sl o.dst (.v v) = some sl') (k : JOI F m P A W0 ds n γ0 ops rest sl' bx R Q) : JOI F m P A W0 ds n γ0 ops l sl bx R Q := by
  subst hl
  intro γ a w hl hs
  unfold wpListIn
  rw [if_pos (hl.wanted hw)]
  obtain ⟨hd, hcc⟩ := hc _ w hs
  have hr := evLoadq_ok hl.1 he hd hcc hv
  rw [eval_defers] at hr
  have := hl.putS (δ := []) hp trivial
  rw [List.append_nil] at this
  exact wpIn_value hF hd' hr (k _ _ _ this hs)

/-- A call that makes a box and gives a function that holds it. -/
theorem JOI_callbox (hF : WL F) {l rest : List Oper} {o : Oper} (hl : l = o :: rest) (hd : nod o = true) (hw : wantedS ops sl o = some true) {f gf : FuncId} {args : Array Value} (hc : evCall P sl o = some (f, args)) {e : TypeId} {cs : List Value}
    (h : ∀ w, Calls P f args w fun en w' => en = .returned (.func (.func gf) #[] #[.pointer (some ⟨w.heap.size, 0, none⟩)]) ∧ w' = w.alloc (.cells cs.toArray e))
    (hp : putS n sl o.dst (.f gf [(bx.length, 0)]) = some sl') (k : JOI F m P A W0 ds n γ0 ops rest sl' (bx ++ [(e, cs)]) R Q) : JOI F m P A W0 ds n γ0 ops l sl bx R Q := by
  subst hl
  intro γ a w hl hs
  unfold wpListIn
  rw [if_pos (hl.wanted hw)]
  refine ⟨fun f _ => hF.fn f, ?_⟩
  have hr := evCall_ok hl.1 hc w
  rw [eval_defers] at hr
  rw [semAt_nod hd, hr]
  refine ⟨fun h => (by rw [hF.depth] at h; cases h), (hF.calls (h w)).mono ?_⟩
  rintro en w' ⟨rfl, rfl⟩
  have hlen := hs.len
  have h1 := hl.putS (δ := [w.heap.size]) hp (by
    intro e he
    simp only [List.mem_singleton] at he
    subst he
    rw [List.length_append]
    simp only [List.length_singleton]
    omega)
  have e1 : SV.den (γ0 ++ γ ++ [w.heap.size]) (.f gf [(bx.length, 0)]) = .func (.func gf) #[] #[.pointer (some ⟨w.heap.size, 0, none⟩)] := by
    have e2 : (γ0 ++ γ ++ [w.heap.size]).getD bx.length 0 = w.heap.size := by
      rw [← hlen, List.getD_eq_getElem?_getD, List.getElem?_append_right (Nat.le_refl _), Nat.sub_self]
      rfl
    simp only [SV.den, List.map_cons, List.map_nil, e2]
  rw [e1, List.append_assoc] at h1
  have h2 := hs.alloc e cs
  rw [List.append_assoc] at h2
  exact k _ _ _ h1 h2

theorem JCI_region {id : Nat} {o : Array Oper} (h : JOI F m P A W0 ds n γ0 o o.toList sl bx R Q) : JCI F m P A W0 ds n γ0 (.region id o false) sl bx R Q :=
  fun γ a w h1 h2 => wpIn_region_list (h γ a w h1 h2)
theorem JCI_seq {x y : Code} (h : JCI F m P A W0 ds n γ0 x sl bx R (Exit.then (fun a w => y.wpIn F m P Q a w) Q)) : JCI F m P A W0 ds n γ0 (.seq x y) sl bx R Q :=
  fun γ a w h1 h2 => wpIn_seq (h γ a w h1 h2)
theorem JCI_block {id : Nat} {c : Code} (h : JCI F m P A W0 ds n γ0 c sl bx R (Exit.inBlock id Q)) : JCI F m P A W0 ds n γ0 (.block id c) sl bx R Q :=
  fun γ a w h1 h2 => wpIn_block (h γ a w h1 h2)
theorem JCI_skip (h : JEI A W0 ds n γ0 .normal sl bx R Q) : JCI F m P A W0 ds n γ0 .skip sl bx R Q := fun γ a w h1 h2 => wpIn_skip (h γ a w h1 h2)
theorem JCI_ret (h : JEI A W0 ds n γ0 .ret sl bx R Q) : JCI F m P A W0 ds n γ0 .ret sl bx R Q := fun γ a w h1 h2 => wpIn_ret (h γ a w h1 h2)
theorem JCI_exit {id : Nat} (h : JEI A W0 ds n γ0 (.exit id) sl bx R Q) : JCI F m P A W0 ds n γ0 (.exit id) sl bx R Q := fun γ a w h1 h2 => wpIn_exit (h γ a w h1 h2)
theorem JCI_cond {c : Operand} {x y : Code} (b : Bool) (hc : opV sl c = some (.bool b)) (ht : b = true → JCI F m P A W0 ds n γ0 x sl bx R Q) (hf : b = false → JCI F m P A W0 ds n γ0 y sl bx R Q) :
    JCI F m P A W0 ds n γ0 (.cond c x y) sl bx R Q :=
  fun γ a w h1 h2 => wpIn_cond_split (by have := h1.1.evalV hc; rwa [eval_defers] at this) (fun e => ht e γ a w h1 h2) (fun e => hf e γ a w h1 h2)

theorem JEI_then {y : Code} (h : JCI F m P A W0 ds n γ0 y sl bx R Q) : JEI A W0 ds n γ0 .normal sl bx R (Exit.then (fun a w => y.wpIn F m P Q a w) Q) := h
theorem JEI_then_exit {id : Nat} {K : Act → World → Prop} (h : JEI A W0 ds n γ0 (.exit id) sl bx R Q) : JEI A W0 ds n γ0 (.exit id) sl bx R (Exit.then K Q) := h
theorem JEI_then_ret {K : Act → World → Prop} (h : JEI A W0 ds n γ0 .ret sl bx R Q) : JEI A W0 ds n γ0 .ret sl bx R (Exit.then K Q) := h
theorem JEI_block_normal {id : Nat} (h : JEI A W0 ds n γ0 .normal sl bx R Q) : JEI A W0 ds n γ0 .normal sl bx R (Exit.inBlock id Q) := h
theorem JEI_block_ret {id : Nat} (h : JEI A W0 ds n γ0 .ret sl bx R Q) : JEI A W0 ds n γ0 .ret sl bx R (Exit.inBlock id Q) := h
theorem JEI_block_hit {id : Nat} (h : JEI A W0 ds n γ0 .normal sl bx R Q) : JEI A W0 ds n γ0 (.exit id) sl bx R (Exit.inBlock id Q) :=
  fun γ a w h1 h2 => by simp only [Exit.inBlock, if_true]; exact h γ a w h1 h2


/-! ### The loop -/

theorem SAT.grownNC {γ : List Nat} {w w' : World} {row : Option Nat} {B : Nat} (h : SAT (fun _ => False) W0 γ bx [] w) (hB : W0.heap.size ≤ B) (hg : w.grownBy w' row) (hr : ∀ r, row = some r → B ≤ r ∧ ∃ o : Obj, w.heap[r]? = some o ∧ o.isCells = false) : SAT (fun _ => False) W0 γ bx [] w' := by
  have hbox : ∀ k e cs, bx[k]? = some (e, cs) → w'.heap[γ.getD k 0]? = some (.cells cs.toArray e (0, 0)) := by
    intro k e cs hk
    have h1 := h.boxes k e cs hk
    rw [hg.block _ (Array.getElem?_eq_some_iff.1 h1).1 ?_]
    · exact h1
    · intro e2
      obtain ⟨_, o, ho, hc⟩ := hr _ e2.symm
      rw [h1] at ho
      cases ho
      cases hc
  obtain ⟨Fs, g1, g2, g3⟩ := h.own
  obtain rfl : Fs = [] := g1
  refine ⟨h.kept.trans_of hg.os hg.tape hg.output hg.size (fun k hk _ => hg.block k (Nat.lt_of_lt_of_le hk h.kept.size) (fun e2 => ?_)), h.len, hbox, [], rfl, g2, fun g hgm => ⟨Nat.lt_of_lt_of_le (g3 g hgm).1 hg.size, (g3 g hgm).2⟩⟩
  have := (hr _ e2.symm).1
  omega

/-- Own boxes told over from a world behind. -/
theorem SAT.rebase {γ γ1 δ : List Nat} {w w' : World} {bx2 : List (TypeId × List Value)} (h : SAT (fun _ => False) W0 γ bx [] w) (hg1 : ∀ g ∈ γ1, W0.heap.size ≤ g) (hsub : ∀ g ∈ γ, g ∈ γ1) (h2 : SAT (fun b => b ∈ γ1) w (γ ++ δ) bx2 [] w') : SAT (fun _ => False) W0 γ (bx2.take bx.length) [] w' := by
  obtain ⟨Fs, g1, g2, g3⟩ := h.own
  obtain rfl : Fs = [] := g1
  have hlen := h.len
  have hlen2 := h2.len
  rw [List.length_append] at hlen2
  have hz := h2.kept.size
  refine ⟨h.kept.trans_of h2.kept.os h2.kept.tape h2.kept.output hz (fun k hk _ => h2.kept.block k (Nat.lt_of_lt_of_le hk h.kept.size) (fun hm => by have := hg1 k hm; omega)), by rw [List.length_take]; omega, ?_, [], rfl, g2, fun g hgm => ⟨Nat.lt_of_lt_of_le (g3 g hgm).1 hz, (g3 g hgm).2⟩⟩
  intro k e cs hk
  rw [List.getElem?_take] at hk
  split at hk
  · rename_i hlt
    have := h2.boxes k e cs hk
    rwa [List.getD_eq_getElem?_getD, List.getElem?_append_left (by omega), ← List.getD_eq_getElem?_getD] at this
  · cases hk

theorem SAT.base {γ : List Nat} {w : World} (h : SAT (fun _ => False) W0 γ bx [] w) : SAT (fun b => b ∈ γ) w γ bx [] w := by
  obtain ⟨Fs, g1, g2, g3⟩ := h.own
  obtain rfl : Fs = [] := g1
  exact ⟨Kept.refl _ _, h.len, h.boxes, [], rfl, g2, fun g hg => ⟨(g3 g hg).1, .inr (by simpa using hg)⟩⟩

theorem SAT.keepsFrom {γ γ1 : List Nat} {w w' : World} {B : Nat} (hc : ∀ g ∈ γ1, ∃ o : Obj, w.heap[g]? = some o ∧ o.isCells = true) (h : SAT (fun b => b ∈ γ1) w γ bx [] w') : KeepsFrom B w w' :=
  ⟨h.kept.size, fun k o _ hk ho => by
    rw [h.kept.block k (Array.getElem?_eq_some_iff.1 hk).1 (fun hm => by
      obtain ⟨o', ho', hc'⟩ := hc k hm
      rw [hk] at ho'
      cases ho'
      rw [ho] at hc'
      cases hc')]
    exact hk⟩

theorem SAT.cellsOf {γ : List Nat} {w : World} (h : SAT A W0 γ bx R w) {g : Nat} (hg : g ∈ γ) : ∃ o : Obj, w.heap[g]? = some o ∧ o.isCells = true := by
  obtain ⟨k, hk, rfl⟩ := List.mem_iff_getElem.1 hg
  have hl := h.len
  have hb := h.boxes k (bx[k]'(by omega)).1 (bx[k]'(by omega)).2 (List.getElem?_eq_getElem (by omega))
  rw [List.getD_eq_getElem?_getD, List.getElem?_eq_getElem hk, Option.getD_some] at hb
  exact ⟨_, hb, rfl⟩

/-- What a round that goes on keeps: what lay before the call, and the iterator's own box. -/
def KpB (n₀ Bn : Nat) (X Y : World) : Prop := Below n₀ X Y ∧ Y.heap[Bn]? = X.heap[Bn]?

def markD (D : Nat) : Deferred := { target := .collected D, args := #[] }

/-- How a round of a loop without state ends. -/
def QB {α ρ : Type} (bodyF : α → Option ρ) (bxr : ρ → List (TypeId × List Value)) (bx : List (TypeId × List Value)) (x : α) (W : World) (γ1 γ : List Nat) : Exit → Act → World → Prop
  | .normal, _, w => bodyF x = none ∧ ∃ δ bx2, bx2.take bx.length = bx ∧ SAT (fun b => b ∈ γ1) W (γ ++ δ) bx2 [] w
  | .ret, _, w => ∃ v, bodyF x = some v ∧ ∃ δ bx2, bx2.take bx.length = bxr v ∧ SAT (fun b => b ∈ γ1) W (γ ++ δ) bx2 [] w
  | _, _, _ => False

theorem findSome_take {α ρ : Type} (f : α → Option ρ) : ∀ (l : List α) (pre : List α) (x : α) (v : ρ), (∃ k, pre ++ [x] = l.take k) → pre.findSome? f = none → f x = some v → l.findSome? f = some v
  | [], pre, x, v, ⟨k, h⟩, _, _ => by simp at h
  | y :: l, [], x, v, ⟨k, h⟩, _, hx => by
    cases k with
    | zero => simp at h
    | succ k =>
      simp only [List.nil_append, List.take_succ_cons, List.cons.injEq] at h
      obtain ⟨rfl, _⟩ := h
      simp [hx]
  | y :: l, z :: pre, x, v, ⟨k, h⟩, hp, hx => by
    cases k with
    | zero => simp at h
    | succ k =>
      simp only [List.cons_append, List.take_succ_cons, List.cons.injEq] at h
      obtain ⟨rfl, h2⟩ := h
      simp only [List.findSome?_cons] at hp ⊢
      cases hz : f z with
      | some u => rw [hz] at hp; simp at hp
      | none =>
        rw [hz] at hp
        exact findSome_take f l pre x v ⟨k, h2⟩ hp hx

theorem SAT.below0 {γ1 γ2 : List Nat} {w w' : World} {bx2 : List (TypeId × List Value)} (hg1 : ∀ g ∈ γ1, W0.heap.size ≤ g) (hz : W0.heap.size ≤ w.heap.size) (h : SAT (fun b => b ∈ γ1) w γ2 bx2 [] w') : Below W0.heap.size w w' :=
  ⟨h.kept.os, h.kept.tape, h.kept.output, h.kept.size, fun k hk => h.kept.block k (by omega) (fun hm => by have := hg1 k hm; omega)⟩

theorem JCI_back {α ρ : Type} [Flat α] {xs : List α} {g : Operand} {p1 p2 : Tmp} {assign body : Code} {kb gf : Nat} {slB : List (Nat × SV)} {ad : Option Addr} {cap : Nat} {tS tv : TypeId}
    (elV : α → Value) (bodyF : α → Option ρ) (bxr : ρ → List (TypeId × List Value)) (h1m : 1 ≤ m) (hg : opv sl g = some (.f gf [(kb, 0)])) (hbk : bx[kb]? = some (tS, [.slice ad xs.length cap]))
    (eg : ∀ args w, (callFunc gf args).run P w = .ok (.enter gf args) w) (hp1 : Nat.blt p1 n = true) (hp2 : Nat.blt p2 n = true)
    (hseq : ∀ (Bn : Nat) (w1 : World), Below W0.heap.size W0 w1 → W0.heap.size ≤ Bn → w1.heap[Bn]? = some (.cells #[.slice ad xs.length cap] tS (0, 0)) →
      SeqStopsK Fence.wide (m - 1) P gf #[.pointer (some ⟨Bn, 0, none⟩)] (fun x : Int × α => #[.int .i64 x.1, elV x.2]) (KpB W0.heap.size Bn) (fun ys => ys.map (·.2) = xs.reverse) (fun pre => ∃ k, pre.map (·.2) = xs.reverse.take k) xs.length w1)
    (hA : ∀ (l : Nat) (x : Int × α) (W : World) (γ : List Nat) (Q : Exit → Act → World → Prop), γ.length = bx.length →
      (∀ g a' w', LiveD [] n (γ ++ [g]) slB a' → SAT (fun b => b ∈ γ) W (γ ++ [g]) (bx ++ [(tv, Flat.enc x.2)]) [] w' → Q .normal a' w') →
      JCI (Fence.wide.inRound l) (m - 1 - 1) P (fun b => b ∈ γ) W [] n γ assign (setS (setS sl p1 (.v (.int .i64 x.1))) p2 (.v (elV x.2))) bx [] Q)
    (hB : ∀ (l : Nat) (x : α) (W : World) (γ : List Nat), γ.length = bx.length + 1 → JCI (Fence.wide.inRound l) (m - 1 - 1) P (fun b => b ∈ γ) W [] n γ body slB (bx ++ [(tv, Flat.enc x)]) [] (QB bodyF bxr bx x W γ γ))
    (hdone : xs.reverse.findSome? bodyF = none → ∀ D W γ, W0.heap.size ≤ D → W.heap[D]? = some (.deferred (some [])) → SAT (fun _ => False) W0 γ bx [] W → JEI (fun b => b ∈ γ) W [markD D] n γ .normal sl bx [] Q)
    (hstop : ∀ v, xs.reverse.findSome? bodyF = some v → ∀ D W γ, W0.heap.size ≤ D → W.heap[D]? = some (.deferred (some [])) → SAT (fun _ => False) W0 γ (bxr v) [] W → JEI (fun b => b ∈ γ) W [markD D] n γ .ret sl (bxr v) [] Q) :
    JCI Fence.wide m P (fun _ => False) W0 [] n [] (.rangeFunc g #[p1, p2] assign body) sl bx [] Q := by
  intro γ a w hl hs
  rw [List.nil_append] at hl hs
  have hlen := hs.len
  have hkb : kb < γ.length := by rw [hlen]; exact (List.getElem?_eq_some_iff.1 hbk).1
  have hz0 := hs.kept.size
  have hγ0 : ∀ g ∈ γ, W0.heap.size ≤ g := fun g hgm => by
    obtain ⟨Fs, _, _, g3⟩ := hs.own
    exact (g3 g (by simp [hgm])).2.resolve_right (fun x => x)
  have hnd : γ.Nodup := by
    obtain ⟨Fs, _, g2, _⟩ := hs.own
    exact (List.nodup_append.1 g2).1
  have hBm : γ.getD kb 0 ∈ γ := by
    rw [List.getD_eq_getElem?_getD, List.getElem?_eq_getElem hkb, Option.getD_some]
    exact List.getElem_mem _
  have hBx := hs.boxes kb tS _ hbk
  have hBlt := (Array.getElem?_eq_some_iff.1 hBx).1
  have hev : a.eval g = .func (.func gf) #[] #[.pointer (some ⟨γ.getD kb 0, 0, none⟩)] := by
    have := hl.1.eval hg
    rw [eval_defers] at this
    rw [this]
    rfl
  refine wpIn_rangeFunc_ownH rfl h1m (gf := gf) (lb := #[.pointer (some ⟨γ.getD kb 0, 0, none⟩)]) hev trivial eg (hseq (γ.getD kb 0) w hs.kept.toBelow (hγ0 _ hBm) hBx)
    (fun h k => ⟨h.1.trans k.1, k.2.trans h.2⟩) (fun W l o o' hwl ho hc hwk => ⟨belowK_b hz0 W l o o' hwl ho hc hwk, World.putObj_heap_other (by omega)⟩) (Below.refl _ _) (fun _ => rfl)
    (fun pre W => SAT (fun _ => False) W0 γ bx [] W ∧ (pre.map (·.2)).findSome? bodyF = none)
    (fun c pre W => c = .ret ∧ ∃ v pre' x, pre = pre' ++ [x] ∧ (pre'.map (·.2)).findSome? bodyF = none ∧ bodyF x.2 = some v ∧ SAT (fun _ => False) W0 γ (bxr v) [] W)
    (fun s X Y row hs1 hg1 hr1 => ⟨hs1.1.grownNC hz0 hg1 hr1, hs1.2⟩)
    (fun c s X Y row hs1 hg1 hr1 => by
      obtain ⟨hc, v, pre', x, e1, e2, e3, e4⟩ := hs1
      exact ⟨hc, v, pre', x, e1, e2, e3, e4.grownNC hz0 hg1 hr1⟩)
    ⟨hs, rfl⟩
    (fun x a' W => ∃ gx, gx ∉ γ ∧ W0.heap.size ≤ gx ∧ W.heap[gx]? = some (.cells (Flat.enc x.2).toArray tv (0, 0)) ∧ LiveD [] n (γ ++ [gx]) slB a')
    (fun x a' _ X Y row hs1 hg1 hr1 => by
      obtain ⟨gx, e1, e2, e3, e4⟩ := hs1
      refine ⟨gx, e1, e2, ?_, e4⟩
      rw [hg1.block gx (Array.getElem?_eq_some_iff.1 e3).1 (fun e => by
        obtain ⟨_, o, ho, hc⟩ := hr1 gx e.symm
        rw [e3] at ho
        cases ho
        cases hc)]
      exact e3)
    ?assign ?body ?done ?stop
  case assign =>
    intro l pre x W K hi hK
    obtain ⟨hs1, hp⟩ := hi
    have hlv : LiveD [] n γ (setS (setS sl p1 (.v (.int .i64 x.1))) p2 (.v (elV x.2))) { tmps := (a.tmps.setIfInBounds p1 (.int .i64 x.1)).setIfInBounds p2 (elV x.2), defers := [] } := by
      have e1 : Pen.putS n sl (some p1) (.v (.int .i64 x.1)) = some (setS sl p1 (.v (.int .i64 x.1))) := by simp only [Pen.putS, hp1, cond_true]
      have e2 : Pen.putS n (setS sl p1 (.v (.int .i64 x.1))) (some p2) (.v (elV x.2)) = some (setS (setS sl p1 (.v (.int .i64 x.1))) p2 (.v (elV x.2))) := by simp only [Pen.putS, hp2, cond_true]
      have h1 := hl.putS (δ := []) e1 trivial
      have h2 := h1.putS (δ := []) e2 trivial
      simp only [List.append_nil] at h2
      exact ⟨h2.1, rfl⟩
    have hj := hA l x W γ (Exit.then K (fun _ _ _ => False)) hlen (fun gx a' w' hl' hs' => by
      have hn2 : gx ∉ γ := by
        obtain ⟨Fs, _, g2, _⟩ := hs'.own
        have := (List.nodup_append.1 (List.nodup_append.1 g2).1).2.2
        exact fun hm => this gx hm gx (by simp) rfl
      have hgx : W0.heap.size ≤ gx := by
        obtain ⟨Fs, _, _, g3⟩ := hs'.own
        have h5 := (g3 gx (by simp)).2.resolve_right hn2
        have := hs1.kept.size
        omega
      have hr := hs1.rebase hγ0 (fun g hg => hg) hs'
      rw [List.take_left] at hr
      have hb2 := hs'.boxes bx.length tv (Flat.enc x.2) (by simp)
      rw [← hlen, List.getD_eq_getElem?_getD, List.getElem?_append_right (Nat.le_refl _), Nat.sub_self, List.getElem?_cons_zero, Option.getD_some] at hb2
      exact hK a' w' (hs'.keepsFrom (fun g hg => hs1.cellsOf hg)) ⟨hs'.below0 hγ0 hs1.kept.size, (hr.boxes kb tS _ hbk).trans (hs1.boxes kb tS _ hbk).symm⟩ ⟨hr, hp⟩ ⟨gx, hn2, hgx, hb2, hl'⟩)
    have ez : (#[p1, p2].zip #[Value.int IntKind.i64 x.1, elV x.2]).foldl (fun t (p, v) => t.setIfInBounds p v) a.tmps = (a.tmps.setIfInBounds p1 (.int .i64 x.1)).setIfInBounds p2 (elV x.2) := by simp
    rw [ez]
    exact hj [] _ W (by rw [List.append_nil]; exact hlv) (by rw [List.append_nil]; exact hs1.base)
  case body =>
    rintro l pre x a' W hlr ⟨r, hr⟩ ⟨hs1, hp⟩ ⟨gx, hgx, hgx0, hcell, hla⟩ hlt
    have hsb : SAT (fun b => b ∈ γ ++ [gx]) W (γ ++ [gx]) (bx ++ [(tv, Flat.enc x.2)]) [] W := by
      refine ⟨Kept.refl _ _, by simp [hlen], ?_, [], rfl, ?_, ?_⟩
      · intro k e cs hk
        rw [List.getElem?_append] at hk
        split at hk
        · rename_i hlt'
          rw [List.getD_eq_getElem?_getD, List.getElem?_append_left (by omega), ← List.getD_eq_getElem?_getD]
          exact hs1.boxes k e cs hk
        · rename_i hge
          have hk0 : k = bx.length := by
            by_cases hh : k - bx.length = 0
            · omega
            · rw [List.getElem?_eq_none (by simp; omega)] at hk; cases hk
          subst hk0
          simp only [Nat.sub_self, List.getElem?_cons_zero, Option.some.injEq, Prod.mk.injEq] at hk
          obtain ⟨rfl, rfl⟩ := hk
          rw [← hlen, List.getD_eq_getElem?_getD, List.getElem?_append_right (Nat.le_refl _), Nat.sub_self, List.getElem?_cons_zero, Option.getD_some]
          exact hcell
      · simp only [List.flatten_nil, List.append_nil]
        rw [List.nodup_append]
        exact ⟨hnd, by simp, fun y hy z hz e => by simp only [List.mem_singleton] at hz; subst hz; subst e; exact hgx hy⟩
      · intro g hgm
        simp only [List.flatten_nil, List.append_nil] at hgm
        refine ⟨?_, .inr hgm⟩
        rw [List.mem_append] at hgm
        rcases hgm with hgm | hgm
        · obtain ⟨o, ho, _⟩ := hs1.cellsOf hgm
          exact (Array.getElem?_eq_some_iff.1 ho).1
        · simp only [List.mem_singleton] at hgm
          subst hgm
          exact (Array.getElem?_eq_some_iff.1 hcell).1
    have hγ1 : ∀ g ∈ γ ++ [gx], W0.heap.size ≤ g := fun g hgm => by
      rw [List.mem_append] at hgm
      rcases hgm with hgm | hgm
      · exact hγ0 g hgm
      · simp only [List.mem_singleton] at hgm; subst hgm; exact hgx0
    refine wpIn_mono (hB l x.2 W (γ ++ [gx]) (by simp [hlen]) [] a' W (by rw [List.append_nil]; exact hla) (by rw [List.append_nil]; exact hsb)) ?_
    rintro e a3 w3 hq
    cases e with
    | normal =>
      obtain ⟨hn, δ, bx2, ht, hs3⟩ := hq
      have hk := hs3.keepsFrom (B := w.heap.size) (fun g hg => hsb.cellsOf hg)
      have hb := hs3.below0 hγ1 hs1.kept.size
      rw [List.append_assoc] at hs3
      have hr3 := hs1.rebase hγ1 (fun g hg => by simp [hg]) hs3
      rw [ht] at hr3
      exact ⟨hk, ⟨hb, (hr3.boxes kb tS _ hbk).trans (hs1.boxes kb tS _ hbk).symm⟩, hr3, by simp [List.findSome?_append, hp, hn]⟩
    | ret =>
      obtain ⟨v, hv, δ, bx2, ht, hs3⟩ := hq
      have hk := hs3.keepsFrom (B := w.heap.size) (fun g hg => hsb.cellsOf hg)
      rw [List.append_assoc] at hs3
      have hr3 := hs1.rebase hγ1 (fun g hg => by simp [hg]) hs3
      rw [ht] at hr3
      exact ⟨hk, rfl, v, pre, x, rfl, hp, hv, hr3⟩
    | _ => exact hq.elim
  case done =>
    rintro D ys W hD hS ⟨hs1, hp⟩ hK
    have hlD : LiveD [markD D] n γ sl { a with defers := { target := .collected D, args := #[] } :: a.defers } := ⟨hl.1, by rw [hl.2]; rfl⟩
    exact hdone (by rw [← hS]; exact hp) D W γ (by omega) hK hs1 [] _ W (by rw [List.append_nil]; exact hlD) (by rw [List.append_nil]; exact hs1.base)
  case stop =>
    rintro D c pre W hD ⟨k, hk⟩ ⟨rfl, v, pre', x, rfl, hp, hv, hs1⟩ hK
    have hlD : LiveD [markD D] n γ sl { a with defers := { target := .collected D, args := #[] } :: a.defers } := ⟨hl.1, by rw [hl.2]; rfl⟩
    refine wpIn_ret ?_
    refine hstop v (findSome_take bodyF _ (pre'.map (·.2)) x.2 v ⟨k, ?_⟩ hp hv) D W γ (by omega) hK hs1 [] _ W (by rw [List.append_nil]; exact hlD) (by rw [List.append_nil]; exact hs1.base)
    rw [← hk]
    simp

/-- A return behind such a loop. -/
theorem JEI_retM {fn : Func} {Post : Ending → World → Prop} {vs : List Value} {γ : List Nat} {W : World} {D : Nat} {bx0 : List (TypeId × List Value)} (hr : resVals P sl bx fn.results.toList = some vs) (h0 : W0.heap.size ≤ D) (hD : W.heap[D]? = some (.deferred (some []))) (hs0 : SAT (fun _ => False) W0 γ bx0 [] W)
    (hpost : ∀ w', Below W0.heap.size W0 w' → Post (.returned (oneOrTuple vs)) w') : JEI (fun b => b ∈ γ) W [markD D] n γ .ret sl bx [] (bodyPostM F m P fn Post) := by
  intro δ a w hl hs
  have hDγ : D ∉ γ := fun hm => by
    obtain ⟨o, ho, hc⟩ := hs0.cellsOf hm
    rw [hD] at ho
    cases ho
    cases hc
  have hDl := (Array.getElem?_eq_some_iff.1 hD).1
  have hk : w.heap[D]? = some (.deferred (some [])) := by rw [hs.kept.block D hDl hDγ]; exact hD
  have hγ0 : ∀ g ∈ γ, W0.heap.size ≤ g := fun g hgm => by
    obtain ⟨Fs, _, _, g3⟩ := hs0.own
    exact (g3 g (by simp [hgm])).2.resolve_right (fun x => x)
  have hb : Below W0.heap.size W0 (w.putObj D (.deferred none)) := by
    have h1 : Below W0.heap.size W0 W := hs0.kept.toBelow
    have h2 := hs.below0 hγ0 hs0.kept.size
    exact (h1.trans h2).trans (belowK_b (w := W0) (Nat.le_refl _) w D _ _ h0 hk rfl rfl)
  have hne : ∀ k e cs, bx[k]? = some (e, cs) → (w.putObj D (.deferred none)).heap[(γ ++ δ).getD k 0]? = some (.cells cs.toArray e (0, 0)) := by
    intro k e cs hk2
    have := hs.boxes k e cs hk2
    rw [World.putObj_heap_other]
    · exact this
    · intro e2
      rw [e2, hk] at this
      cases this
  have hs2 : SAT (fun _ => True) (w.putObj D (.deferred none)) (γ ++ δ) bx [] (w.putObj D (.deferred none)) := by
    obtain ⟨Fs, g1, g2, g3⟩ := hs.own
    obtain rfl : Fs = [] := g1
    exact ⟨Kept.refl _ _, hs.len, hne, [], rfl, g2, fun g hg => ⟨by simpa using (g3 g hg).1, .inr trivial⟩⟩
  have hl2 := hl.2
  show LeavesInM F m P fn a.tmps Post a.defers .returning w
  rw [hl2]
  refine ⟨by simp, .inl ⟨D, _, rfl, run_takeDeferred hk, ?_⟩⟩
  have h9 := results_ok (fn := fn) (a := { a with defers := [] }) hl.1 hs2 hr
  exact ⟨_, h9, hpost _ hb⟩

theorem live_args {args : List Value} (svs : List SV) (hd : svs.map (SV.den []) = args) (hpl : svs.all plainSV = true) (hsz : Nat.ble args.length n = true) : LiveD [] n [] (argSV 0 svs) { tmps := args.toArray ++ Array.replicate (n - args.toArray.size) undef, defers := [] } := by
  have hsz' := Nat.le_of_ble_eq_true hsz
  have hnp : ∀ t x, look (argSV 0 svs) t = some x → plainSV x = true := fun t x hx => by
    obtain ⟨_, hv⟩ := look_argSV _ _ _ _ hx
    exact List.all_eq_true.1 hpl x (List.mem_of_getElem? hv)
  refine ⟨⟨rfl, by simp; omega, fun t x hx => ?_, fun t x hx => ?_⟩, rfl⟩
  · obtain ⟨_, hv⟩ := look_argSV _ _ _ _ hx
    have hlt := (List.getElem?_eq_some_iff.1 hv).1
    simp only [Nat.sub_zero] at hv hlt
    have hargs : args[t]? = some (x.den []) := by rw [← hd]; simp [hv]
    have hlt2 := (List.getElem?_eq_some_iff.1 hargs).1
    simp only
    rw [Array.getElem?_append]
    have hv' := (List.getElem?_eq_some_iff.1 hargs).2
    simp [hlt2, hv']
  · have := hnp t x hx
    cases x with
    | v y => trivial
    | q a k => trivial
    | p k off => cases this
    | f i ks => cases this

theorem sat_start (w : World) : SAT (fun _ => False) w [] [] [] w := ⟨Kept.refl _ _, rfl, by intro k e cs hk; simp at hk, [], rfl, by simp, by simp⟩

/-- Into a function that ranges over a function. -/
theorem enterMk {f : FuncId} {fn : Func} {c : Code} {args : List Value} {W : World} {Post : Ending → World → Prop} (m : Nat) (hf : P.funcs[f]? = some fn) (hb : fn.body = some c) (hn : fn.ntmps = n) (hsz : Nat.ble args.length n = true)
    (h : JCI Fence.wide m P (fun _ => False) W [] n [] c (argSV 0 (args.map .v)) [] [] (bodyPostM Fence.wide m P fn Post)) : Calls P f args.toArray W Post := by
  refine (callsIn_wide (n := m)).1 (callsIn_of_wp_marks hf hb trivial ?_ rfl)
  rw [hn]
  exact h [] _ W (live_args (args.map .v) (by simp [SV.den, Function.comp_def]) (by simp [plainSV]) hsz) (sat_start W)


theorem run_yieldOp {o : Oper} {a : Act} {w : World} {c : Call} {f : Operand} {l : Nat} (hop : o.op = .call c) (hc : c.callee = .value f) (hf : a.eval f = .func (.yield l) #[] #[]) :
    (execOp a.eval o).run P w = (Instr.yield l (c.args.map a.eval)).run P w := by
  simp only [execOp, hop, resolve, hc, hf]
  simp [Deferred.ofValue, invoke]

theorem abides_kept {β : Type} {B : Nat} {J : β → World → Prop} (hJ : AbidesFrom B J) {s : β} {X Y : World} (h : J s X) (hk : Kept (fun _ => False) X Y) : J s Y :=
  hJ s X Y none h { os := hk.os, tape := hk.tape, output := hk.output, size := hk.size, block := fun k hlt _ => hk.block k hlt (fun x => x) } (fun r e => by cases e)

theorem Kept.below {X Y : World} (h : Kept (fun _ => False) X Y) {B : Nat} (hB : B ≤ X.heap.size) : Below B X Y := ⟨h.os, h.tape, h.output, h.size, fun k hk => h.block k (by omega) (fun x => x)⟩

theorem CellsAt.ofBox {w : World} {b : Nat} {t : TypeId} {cs : List Value} (h : w.heap[b]? = some (.cells cs.toArray t (0, 0))) : CellsAt w (some ⟨b, 0, none⟩) 0 cs := by
  intro j u hu
  refine ⟨_, rfl, ?_⟩
  rw [cell_of_row w _ _ _ _ _ h]
  simpa using hu

/-- What is left of a walk down. -/
def mu3 (a : Act) : Nat := match a.tmps[3]? with
  | some (Value.int _ i) => (i + 1).toNat
  | _ => 0

theorem mu3_of {ds : List Deferred} {n : Nat} {γ : List Nat} {sl : List (Nat × SV)} {a : Act} {i : Int} (hl : LiveD ds n γ sl a) (h : look sl 3 = some (.v (.int .i64 i))) : mu3 a = (i + 1).toNat := by
  have h3 : a.tmps[3]? = some (.int .i64 i) := hl.1.slot 3 _ h
  unfold mu3
  rw [h3]

/-- The yield of a round. -/
theorem JOI_yield (hF : WL F) {l rest : List Oper} {o : Oper} (hl : l = o :: rest) (hd : nod o = true) (hw : wantedS ops sl o = some true) {c : Call} {f : Operand} {y d : Nat} {args : List Value} (hop : o.op = .call c) (hc : c.callee = .value f)
    (hf : opV sl f = some (.func (.yield y) #[] #[])) (ha : c.args.toList.map (opV sl) = args.map some) (hdst : o.dst = some d) (hdn : Nat.blt d n = true) {Rp : World → Ending → World → Prop}
    (hy : ∀ γ w, SAT A W0 γ bx R w → YieldAt F (m - 1) P y args.toArray w (Rp w))
    (k : ∀ γ w, SAT A W0 γ bx R w → ∀ e w', Rp w e w' → ∃ b, e = .returned (.bool b) ∧ ∀ a', LiveD ds n γ (setS sl d (.v (.bool b))) a' → wpListIn F m P ops Q rest a' w') : JOI F m P A W0 ds n γ0 ops l sl bx R Q := by
  subst hl
  intro γ a w hlv hs
  unfold wpListIn
  rw [if_pos (hlv.wanted hw)]
  refine ⟨fun f _ => hF.fn f, ?_⟩
  have hev : ∀ x v, opV sl x = some v → a.eval x = v := fun x v hx => by
    have := hlv.1.evalV hx
    rwa [eval_defers] at this
  have hargs : c.args.map a.eval = args.toArray := by
    apply Array.ext'
    rw [Array.toList_map]
    have hh : ∀ (l1 : List Operand) (l2 : List Value), l1.map (opV sl) = l2.map some → l1.map a.eval = l2 := by
      intro l1
      induction l1 with
      | nil => intro l2 h; cases l2 with
        | nil => rfl
        | cons _ _ => simp at h
      | cons x l1 ih => intro l2 h; cases l2 with
        | nil => simp at h
        | cons v l2 =>
          simp only [List.map_cons, List.cons.injEq] at h ⊢
          exact ⟨hev x v h.1, ih l2 h.2⟩
    exact hh _ _ ha
  obtain ⟨fn, tmps, assign, body, h1, h2⟩ := hy _ w hs
  rw [semAt_nod hd, run_yieldOp hop hc (hev f _ hf), hargs, h1]
  refine ⟨fun h => (by rw [hF.depth] at h; cases h), h2.mono ?_⟩
  intro e w' hr
  obtain ⟨b, rfl, hk⟩ := k _ w hs e w' hr
  have hp : Pen.putS n sl o.dst (.v (.bool b)) = some (setS sl d (.v (.bool b))) := by rw [hdst]; simp only [Pen.putS, hdn, cond_true]
  have := hlv.putS (δ := []) hp trivial
  rw [List.append_nil] at this
  exact hk _ this


theorem JOI_call0 (hF : WL F) {l rest : List Oper} {o : Oper} (hl : l = o :: rest) (hd : nod o = true) (hw : wantedS ops sl o = some true) {f : FuncId} {args : Array Value} (hc : evCall P sl o = some (f, args)) {x : Value}
    (h : ∀ γ w, SAT A W0 γ bx R w → Gives0 P f args w x) (hp : putS n sl o.dst (.v x) = some sl') (k : JOI F m P A W0 ds n γ0 ops rest sl' bx R Q) : JOI F m P A W0 ds n γ0 ops l sl bx R Q := by
  subst hl
  intro γ a w hl hs
  unfold wpListIn
  rw [if_pos (hl.wanted hw)]
  refine ⟨fun f _ => hF.fn f, ?_⟩
  have hr := evCall_ok hl.1 hc w
  rw [eval_defers] at hr
  rw [semAt_nod hd, hr]
  refine ⟨fun h => (by rw [hF.depth] at h; cases h), (hF.calls (h _ w hs)).mono ?_⟩
  rintro e w' ⟨rfl, hb⟩
  have := hl.putS (δ := []) hp trivial
  rw [List.append_nil] at this
  exact k _ _ w' this (hs.below hb)

/-- A return ahead of such a loop. -/
theorem JEI_ret0 {fn : Func} {Post : Ending → World → Prop} {vs : List Value} (hr : resVals P sl bx fn.results.toList = some vs) (h : ∀ γ w, SAT A W0 γ bx R w → Post (.returned (oneOrTuple vs)) w) :
    JEI A W0 [] n γ0 .ret sl bx R (bodyPostM F m P fn Post) := by
  intro δ a w hl hs
  have h9 := results_ok (fn := fn) (a := { a with defers := [] }) hl.1 hs hr
  show LeavesInM F m P fn a.tmps Post a.defers .returning w
  rw [hl.2]
  exact ⟨_, h9, h _ w hs⟩

end
end Go.Pen
