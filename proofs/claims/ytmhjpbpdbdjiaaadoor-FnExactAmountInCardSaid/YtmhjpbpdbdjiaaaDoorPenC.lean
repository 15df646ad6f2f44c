/-
  The judgements: operations one by one, code, ends; calls; entering and leaving a function.
-/
import Derived.Test.YtmhjpbpdbdjiaaaDoorPenB
namespace Go.Pen
open Go.RowKit
set_option linter.unusedVariables false

theorem SV.den_ext {γ : List Nat} {x : SV} (δ : List Nat) (h : x.inb γ.length) : x.den (γ ++ δ) = x.den γ := by
  cases x with
  | v y => rfl
  | p k off =>
    have : k < γ.length := h
    simp [SV.den, List.getD, List.getElem?_append, this]
  | q a k => rfl
  | f i ks =>
    have : ∀ e ∈ ks, (γ ++ δ).getD e.1 0 = γ.getD e.1 0 := fun e he => by
      have h1 : e.1 < γ.length := h e he
      simp [List.getD, List.getElem?_append, h1]
    simp only [SV.den]
    congr 2
    exact List.map_congr_left fun e he => by rw [this e he]

theorem Live.ext {n : Nat} {γ : List Nat} {sl : List (Nat × SV)} {a : Act} (h : Live n γ sl a) (δ : List Nat) : Live n (γ ++ δ) sl a :=
  ⟨h.defers, h.size, fun t x hx => by rw [h.slot t x hx, SV.den_ext δ (h.inb t x hx)], fun t x hx => (h.inb t x hx).mono (by simp)⟩

theorem Live.put {n : Nat} {γ : List Nat} {sl : List (Nat × SV)} {a : Act} (h : Live n γ sl a) {d : Nat} (hd : d < n) {x : SV} (hx : x.inb γ.length) :
    Live n γ (setS sl d x) (a.put (some d) (x.den γ)) := by
  refine ⟨h.defers, by simp [Act.put, h.size], fun t y hy => ?_, fun t y hy => ?_⟩
  · by_cases e : d = t
    · subst e
      rw [look_set_same] at hy
      simp only [Option.some.injEq] at hy
      subst hy
      have : d < a.tmps.size := by rw [h.size]; exact hd
      simp [Act.put, this]
    · rw [look_set_ne e] at hy
      have := h.slot t y hy
      simp [Act.put, Array.getElem?_setIfInBounds_ne e, this]
  · by_cases e : d = t
    · subst e
      rw [look_set_same] at hy
      simp only [Option.some.injEq] at hy
      subst hy
      exact hx
    · rw [look_set_ne e] at hy
      exact h.inb t y hy

def putS (n : Nat) (sl : List (Nat × SV)) (dst : Option Nat) (x : SV) : Option (List (Nat × SV)) :=
  match dst with
  | none => some sl
  | some d => bif Nat.blt d n then some (setS sl d x) else none

theorem Live.putS {n : Nat} {γ : List Nat} {sl sl' : List (Nat × SV)} {a : Act} (h : Live n γ sl a) {dst : Option Nat} {x : SV} (hp : Pen.putS n sl dst x = some sl') (hx : x.inb γ.length) :
    Live n γ sl' (a.put dst (x.den γ)) := by
  cases dst with
  | none => simp only [Pen.putS, Option.some.injEq] at hp; subst hp; exact h
  | some d =>
    simp only [Pen.putS] at hp
    cases hb : Nat.blt d n with
    | false => rw [hb] at hp; simp at hp
    | true =>
      rw [hb] at hp
      simp only [cond_true, Option.some.injEq] at hp
      subst hp
      exact h.put (Nat.le_of_ble_eq_true hb) hx

/-- Is the operation wanted, as its guard's slot says? -/
def wantedS (ops : Array Oper) (sl : List (Nat × SV)) (o : Oper) : Option Bool :=
  match o.guard with
  | none => some true
  | some (j, want) => match (ops[j]?).bind (·.dst) with
    | some d => match look sl d with
      | some (.v (.bool b)) => match b, want with
        | true, true => some true
        | true, false => some false
        | false, true => some false
        | false, false => some true
      | some (.v (.tuple _)) => some false
      | _ => none
    | none => none

theorem wantedS_ok {ops : Array Oper} {n : Nat} {γ : List Nat} {sl : List (Nat × SV)} {a : Act} {o : Oper} {b : Bool} (hl : Live n γ sl a) (h : wantedS ops sl o = some b) : Region.wanted o (yielded ops a.tmps) = b := by
  unfold wantedS at h
  unfold Region.wanted
  split at h
  · rename_i hg; simp only [Option.some.injEq] at h; rw [hg]; exact h
  · rename_i j want hg
    rw [hg]
    split at h
    · rename_i d hd
      split at h
      · rename_i b' hb'
        have hs := hl.slot d _ hb'
        have hy : yielded ops a.tmps j = some b' := by unfold yielded; rw [hd]; simp [hs, SV.den]
        simp only [hy]
        cases b' <;> cases want <;> simp at h <;> subst h <;> rfl
      · rename_i vs hb'
        simp only [Option.some.injEq] at h
        subst h
        have hs := hl.slot d _ hb'
        have hy : yielded ops a.tmps j = none := by unfold yielded; rw [hd]; simp [hs, SV.den]
        simp only [hy]
        rfl
      · cases h
    · cases h

/-- One operation. -/
def step1 (P : Program) (ops : Array Oper) (n : Nat) (sl : List (Nat × SV)) (bx : List (TypeId × List Value)) (o : Oper) : Option (List (Nat × SV) × List (TypeId × List Value)) :=
  match wantedS ops sl o with
  | some true => match evOp P sl bx o with
    | some (x, bx') => match putS n sl o.dst x with
      | some sl' => some (sl', bx')
      | none => none
    | none => none
  | some false => match putS n sl o.dst (.v undef) with
    | some sl' => some (sl', bx)
    | none => none
  | none => none

def steps (P : Program) (ops : Array Oper) (n : Nat) : List Oper → List (Nat × SV) → List (TypeId × List Value) → Option (List (Nat × SV) × List (TypeId × List Value))
  | [], sl, bx => some (sl, bx)
  | o :: r, sl, bx => match step1 P ops n sl bx o with
    | some (sl', bx') => steps P ops n r sl' bx'
    | none => none

/-- The operations of a region, one by one. -/
def JO (P : Program) (A : Nat → Prop) (W0 : World) (n : Nat) (ops : Array Oper) (l : List Oper) (sl : List (Nat × SV)) (bx : List (TypeId × List Value)) (R : List Res) (Q : Exit → Act → World → Prop) : Prop :=
  ∀ γ a w, Live n γ sl a → SAT A W0 γ bx R w → wpList P ops Q l a w

/-- Code. -/
def JC (P : Program) (A : Nat → Prop) (W0 : World) (n : Nat) (c : Code) (sl : List (Nat × SV)) (bx : List (TypeId × List Value)) (R : List Res) (Q : Exit → Act → World → Prop) : Prop :=
  ∀ γ a w, Live n γ sl a → SAT A W0 γ bx R w → c.wp P Q a w

/-- An end. -/
def JE (A : Nat → Prop) (W0 : World) (n : Nat) (e : Exit) (sl : List (Nat × SV)) (bx : List (TypeId × List Value)) (R : List Res) (Q : Exit → Act → World → Prop) : Prop :=
  ∀ γ a w, Live n γ sl a → SAT A W0 γ bx R w → Q e a w

section
variable {P : Program} {A : Nat → Prop} {W0 : World} {n : Nat} {ops : Array Oper} {sl sl' : List (Nat × SV)} {bx bx' : List (TypeId × List Value)} {R R' : List Res} {Q : Exit → Act → World → Prop}

theorem step1_ok {o : Oper} {rest : List Oper} (h : step1 P ops n sl bx o = some (sl', bx')) (k : JO P A W0 n ops rest sl' bx' R Q) : JO P A W0 n ops (o :: rest) sl bx R Q := by
  intro γ a w hl hs
  unfold step1 at h
  unfold wpList
  split at h
  · rename_i hw
    rw [if_pos (wantedS_ok hl hw)]
    split at h
    · rename_i x bx1 he
      split at h
      · rename_i sl1 hp
        simp only [Option.some.injEq, Prod.mk.injEq] at h
        obtain ⟨rfl, rfl⟩ := h
        obtain ⟨γ', w', nx, hr, hnx, hs', ⟨δ, rfl⟩, hin⟩ := evOp_ok hl hs he
        refine .inl ?_
        unfold Oper.wp
        rw [hr]
        have hl' := (hl.ext δ).putS hp hin
        rcases hnx with rfl | ⟨rfl, hu⟩
        · exact k _ _ _ hl' hs'
        · rw [hu] at hl'; exact k _ _ _ hl' hs'
      · cases h
    · cases h
  · rename_i hw
    have := wantedS_ok hl hw
    rw [if_neg (by rw [this]; simp)]
    split at h
    · rename_i sl1 hp
      simp only [Option.some.injEq, Prod.mk.injEq] at h
      obtain ⟨rfl, rfl⟩ := h
      exact k _ _ _ (hl.putS hp trivial) hs
    · cases h
  · cases h

theorem steps_ok {l rest : List Oper} (h : steps P ops n l sl bx = some (sl', bx')) (k : JO P A W0 n ops rest sl' bx' R Q) : JO P A W0 n ops (l ++ rest) sl bx R Q := by
  induction l generalizing sl bx with
  | nil => simp only [steps, Option.some.injEq, Prod.mk.injEq] at h; obtain ⟨rfl, rfl⟩ := h; exact k
  | cons o r ih =>
    simp only [steps] at h
    split at h
    · rename_i sl1 bx1 h1; exact step1_ok h1 (ih h)
    · cases h

/-- The next k operations, evaluated. -/
theorem JO_steps {l : List Oper} (k : Nat) (h : steps P ops n (l.take k) sl bx = some (sl', bx')) (K : JO P A W0 n ops (l.drop k) sl' bx' R Q) : JO P A W0 n ops l sl bx R Q := by
  have := steps_ok (rest := l.drop k) h K
  rwa [List.take_append_drop] at this

/-- A test known. -/
theorem JO_split {l : List Oper} (t : Nat) (b : Bool) (h : look sl t = some (.v (.bool b))) (ht : b = true → JO P A W0 n ops l (setS sl t (.v (.bool true))) bx R Q)
    (hf : b = false → JO P A W0 n ops l (setS sl t (.v (.bool false))) bx R Q) : JO P A W0 n ops l sl bx R Q := by
  intro γ a w hl hs
  have conv : ∀ b', b = b' → Live n γ (setS sl t (.v (.bool b'))) a := by
    intro b' e
    subst e
    refine ⟨hl.defers, hl.size, fun u x hx => ?_, fun u x hx => ?_⟩
    · by_cases e : t = u
      · subst e; rw [look_set_same] at hx; simp only [Option.some.injEq] at hx; subst hx; exact hl.slot t _ h
      · rw [look_set_ne e] at hx; exact hl.slot u x hx
    · by_cases e : t = u
      · subst e; rw [look_set_same] at hx; simp only [Option.some.injEq] at hx; subst hx; trivial
      · rw [look_set_ne e] at hx; exact hl.inb u x hx
  cases hb : b with
  | true => exact ht hb γ a w (conv true hb) hs
  | false => exact hf hb γ a w (conv false hb) hs

theorem JO_end {l : List Oper} (hl : l = []) (h : JE A W0 n .normal sl bx R Q) : JO P A W0 n ops l sl bx R Q := by
  subst hl; exact fun γ a w h1 h2 => h γ a w h1 h2

theorem JC_region {id : Nat} {o : Array Oper} (h : JO P A W0 n o o.toList sl bx R Q) : JC P A W0 n (.region id o false) sl bx R Q :=
  fun γ a w h1 h2 => wp_region_list (h γ a w h1 h2)

theorem JC_seq {x y : Code} (h : JC P A W0 n x sl bx R (Exit.then (fun a w => y.wp P Q a w) Q)) : JC P A W0 n (.seq x y) sl bx R Q :=
  fun γ a w h1 h2 => wp_seq (h γ a w h1 h2)

theorem JC_block {id : Nat} {c : Code} (h : JC P A W0 n c sl bx R (Exit.inBlock id Q)) : JC P A W0 n (.block id c) sl bx R Q :=
  fun γ a w h1 h2 => wp_block (h γ a w h1 h2)

theorem JC_skip (h : JE A W0 n .normal sl bx R Q) : JC P A W0 n .skip sl bx R Q := fun γ a w h1 h2 => wp_skip (h γ a w h1 h2)
theorem JC_ret (h : JE A W0 n .ret sl bx R Q) : JC P A W0 n .ret sl bx R Q := fun γ a w h1 h2 => wp_ret (h γ a w h1 h2)
theorem JC_exit {id : Nat} (h : JE A W0 n (.exit id) sl bx R Q) : JC P A W0 n (.exit id) sl bx R Q := fun γ a w h1 h2 => wp_exit (h γ a w h1 h2)

theorem JC_cond {c : Operand} {x y : Code} (b : Bool) (hc : opV sl c = some (.bool b)) (ht : b = true → JC P A W0 n x sl bx R Q) (hf : b = false → JC P A W0 n y sl bx R Q) :
    JC P A W0 n (.cond c x y) sl bx R Q :=
  fun γ a w h1 h2 => wp_cond_split (h1.evalV hc) (fun e => ht e γ a w h1 h2) (fun e => hf e γ a w h1 h2)

theorem JE_then {y : Code} (h : JC P A W0 n y sl bx R Q) : JE A W0 n .normal sl bx R (Exit.then (fun a w => y.wp P Q a w) Q) := h
theorem JE_then_exit {id : Nat} {K : Act → World → Prop} (h : JE A W0 n (.exit id) sl bx R Q) : JE A W0 n (.exit id) sl bx R (Exit.then K Q) := h
theorem JE_then_ret {K : Act → World → Prop} (h : JE A W0 n .ret sl bx R Q) : JE A W0 n .ret sl bx R (Exit.then K Q) := h
theorem JE_block_normal {id : Nat} (h : JE A W0 n .normal sl bx R Q) : JE A W0 n .normal sl bx R (Exit.inBlock id Q) := h
theorem JE_block_ret {id : Nat} (h : JE A W0 n .ret sl bx R Q) : JE A W0 n .ret sl bx R (Exit.inBlock id Q) := h
theorem JE_block_hit {id : Nat} (h : JE A W0 n .normal sl bx R Q) : JE A W0 n (.exit id) sl bx R (Exit.inBlock id Q) :=
  fun γ a w h1 h2 => by simp only [Exit.inBlock, if_true]; exact h γ a w h1 h2
theorem JE_block_miss {id id' : Nat} (hne : id' ≠ id) (h : JE A W0 n (.exit id') sl bx R Q) : JE A W0 n (.exit id') sl bx R (Exit.inBlock id Q) :=
  fun γ a w h1 h2 => by simp only [Exit.inBlock, hne, if_false]; exact h γ a w h1 h2

/-! ### Calls -/

/-- Fresh resources behind a call. -/
def FreshR (Rs : List Res) (w w' : World) : Prop := ∃ Fs, holdsAll w' Rs Fs ∧ Fs.flatten.Nodup ∧ ∀ g ∈ Fs.flatten, w.heap.size ≤ g ∧ g < w'.heap.size

theorem FreshR.nil (w w' : World) : FreshR [] w w' := ⟨[], rfl, by simp, by simp⟩

theorem holdsAll_append {w : World} {R1 R2 : List Res} {F1 F2 : List (List Nat)} (h1 : holdsAll w R1 F1) (h2 : holdsAll w R2 F2) : holdsAll w (R1 ++ R2) (F1 ++ F2) := by
  induction R1 generalizing F1 with
  | nil => simp [holdsAll] at h1; subst h1; exact h2
  | cons r R ih =>
    obtain ⟨F, Fs', rfl, hr, hR⟩ := h1
    exact ⟨F, Fs' ++ F2, rfl, hr, ih hR⟩

theorem SAT.call {γ : List Nat} {w w' : World} {Rs : List Res} (h : SAT A W0 γ bx R w) (hb : Below w.heap.size w w') (hf : FreshR Rs w w') : SAT A W0 γ bx (Rs ++ R) w' := by
  have h' := h.below hb
  obtain ⟨Fs, h1, h2, h3⟩ := h.own
  obtain ⟨Fs1, g1, g2, g3⟩ := hf
  have hz := h.kept.size
  have k1 : holdsAll w' R Fs := holdsAll_stable h1 (fun g hg => hb.block g (h3 g (by simp only [List.mem_append]; exact .inr hg)).1)
  refine ⟨h'.kept, h'.len, h'.boxes, Fs1 ++ Fs, holdsAll_append g1 k1, ?_, ?_⟩
  · rw [List.flatten_append, List.nodup_append, List.nodup_append]
    rw [List.nodup_append] at h2
    refine ⟨h2.1, ⟨g2, h2.2.1, ?_⟩, ?_⟩
    · intro x hx y hy e
      subst e
      have a1 := (g3 x hx).1
      have a2 := (h3 x (by simp only [List.mem_append]; exact .inr hy)).1
      omega
    · intro x hx y hy e
      subst e
      rw [List.mem_append] at hy
      rcases hy with hy | hy
      · have a1 := (g3 x hy).1
        have a2 := (h3 x (by simp only [List.mem_append]; exact .inl hx)).1
        omega
      · exact h2.2.2 x hx x hy rfl
  · intro g hg
    simp only [List.flatten_append, List.mem_append] at hg
    rcases hg with hg | hg | hg
    · have := h3 g (by simp only [List.mem_append]; exact .inl hg); exact ⟨Nat.lt_of_lt_of_le this.1 hb.size, this.2⟩
    · have := g3 g hg; exact ⟨this.2, .inl (by omega)⟩
    · have := h3 g (by simp only [List.mem_append]; exact .inr hg); exact ⟨Nat.lt_of_lt_of_le this.1 hb.size, this.2⟩

/-- What a call operation enters. -/
def evCall (P : Program) (sl : List (Nat × SV)) (o : Oper) : Option (FuncId × Array Value) :=
  bif !isSelect o.op && o.op.operands.toList.all (fun y => (opV sl y).isSome) then
    match pureRun P (execOp (fun y => (opV sl y).getD undef) o) with
    | some (.enter f args) => some (f, args)
    | _ => none
  else none

theorem evCall_ok {γ : List Nat} {a : Act} {o : Oper} {f : FuncId} {args : Array Value} (hl : Live n γ sl a) (h : evCall P sl o = some (f, args)) (w : World) :
    (execOp a.eval o).run P w = .ok (.enter f args) w := by
  unfold evCall at h
  cases hc : (!isSelect o.op && o.op.operands.toList.all (fun y => (opV sl y).isSome)) with
  | false => rw [hc] at h; simp at h
  | true =>
    rw [hc] at h
    simp only [cond_true] at h
    simp only [Bool.and_eq_true, Bool.not_eq_true'] at hc
    split at h
    · rename_i f' args' hv
      simp only [Option.some.injEq, Prod.mk.injEq] at h
      obtain ⟨rfl, rfl⟩ := h
      have he : execOp a.eval o = execOp (fun y => (opV sl y).getD undef) o := execOp_congr o (fun cs b hs => by rw [hs] at hc; simp [isSelect] at hc) (fun y hy => (Act.eval_opV_all hl hc.2 y hy).symm)
      rw [he]
      exact pureRun_ok _ hv w
    · cases h

/-- What a function promises: one of these values, new memory of these kinds, and nothing else turned. -/
def Gives (P : Program) (f : FuncId) (args : Array Value) (w : World) {τ : Type} (val : τ → Value) (res : τ → List Res) : Prop :=
  Calls P f args w fun e w' => ∃ y, e = .returned (val y) ∧ Below w.heap.size w w' ∧ FreshR (res y) w w'

/-- A function that gives a value without memory. -/
def Gives0 (P : Program) (f : FuncId) (args : Array Value) (w : World) (x : Value) : Prop :=
  Calls P f args w fun e w' => e = .returned x ∧ Below w.heap.size w w'

theorem JO_call {l rest : List Oper} {o : Oper} (hl : l = o :: rest) (hw : wantedS ops sl o = some true) {f : FuncId} {args : Array Value} (hc : evCall P sl o = some (f, args)) {τ : Type} {val : τ → Value} {res : τ → List Res}
    (h : ∀ γ w, SAT A W0 γ bx R w → Gives P f args w val res) (slF : τ → List (Nat × SV)) (hp : ∀ y, putS n sl o.dst (.v (val y)) = some (slF y)) (k : ∀ y, JO P A W0 n ops rest (slF y) bx (res y ++ R) Q) : JO P A W0 n ops l sl bx R Q := by
  subst hl
  intro γ a w hl hs
  unfold wpList
  rw [if_pos (wantedS_ok hl hw)]
  refine .inl ?_
  unfold Oper.wp
  rw [evCall_ok hl hc w]
  refine (h γ w hs).mono ?_
  rintro e w' ⟨y, rfl, hb, hf⟩
  exact k y γ _ w' (hl.putS (hp y) trivial) (hs.call hb hf)

theorem JO_call0 {l rest : List Oper} {o : Oper} (hl : l = o :: rest) (hw : wantedS ops sl o = some true) {f : FuncId} {args : Array Value} (hc : evCall P sl o = some (f, args)) {x : Value}
    (h : ∀ γ w, SAT A W0 γ bx R w → Gives0 P f args w x) (hp : putS n sl o.dst (.v x) = some sl') (k : JO P A W0 n ops rest sl' bx R Q) : JO P A W0 n ops l sl bx R Q := by
  subst hl
  intro γ a w hl hs
  unfold wpList
  rw [if_pos (wantedS_ok hl hw)]
  refine .inl ?_
  unfold Oper.wp
  rw [evCall_ok hl hc w]
  refine (h γ w hs).mono ?_
  rintro e w' ⟨rfl, hb⟩
  exact k γ _ w' (hl.putS hp trivial) (hs.below hb)

/-! ### Entering and leaving -/

def argSl : Nat → List Value → List (Nat × SV)
  | _, [] => []
  | i, v :: r => (i, .v v) :: argSl (i + 1) r

theorem look_argSl : ∀ (l : List Value) (i t : Nat) (x : SV), look (argSl i l) t = some x → i ≤ t ∧ ∃ v, x = .v v ∧ l[t - i]? = some v
  | [], i, t, x, h => by simp [argSl, look] at h
  | v :: r, i, t, x, h => by
    simp only [argSl, look] at h
    by_cases e : i = t
    · subst e
      simp at h
      exact ⟨Nat.le_refl _, v, h.symm, by simp⟩
    · have h1 : Nat.beq i t = false := by rw [← Bool.not_eq_true, Nat.beq_eq]; exact e
      rw [h1] at h
      obtain ⟨h2, v', rfl, h3⟩ := look_argSl r (i + 1) t x h
      refine ⟨by omega, v', rfl, ?_⟩
      rw [show t - i = (t - (i + 1)) + 1 by omega]
      simpa using h3

theorem enter {f : FuncId} {fn : Func} {c : Code} {args : List Value} {W : World} {Post : Ending → World → Prop} (hf : P.funcs[f]? = some fn) (hb : fn.body = some c) (hn : fn.ntmps = n) (hsz : Nat.ble args.length n = true)
    (h : JC P (fun _ => False) W n c (argSl 0 args) [] [] (bodyPost P fn Post)) : Calls P f args.toArray W Post := by
  have hsz' := Nat.le_of_ble_eq_true hsz
  refine calls_of_wp hf hb (h [] _ W ⟨rfl, by simp [hn]; omega, fun t x hx => ?_, fun t x hx => ?_⟩ ⟨Kept.refl _ _, rfl, by intro k e cs hk; simp at hk, [], rfl, by simp, by simp⟩)
  · obtain ⟨_, v, rfl, hv⟩ := look_argSl _ _ _ _ hx
    have hlt := (List.getElem?_eq_some_iff.1 hv).1
    simp only [Nat.sub_zero] at hv hlt
    simp only [SV.den]
    rw [Array.getElem?_append]
    have hv' := (List.getElem?_eq_some_iff.1 hv).2
    simp [hlt, hv']
  · obtain ⟨_, v, rfl, _⟩ := look_argSl _ _ _ _ hx
    trivial

/-- The results at a return. -/
def resVals (P : Program) (sl : List (Nat × SV)) (bx : List (TypeId × List Value)) : List ResultVar → Option (List Value)
  | [] => some []
  | .tmp t :: r => match look sl t, resVals P sl bx r with
    | some (.v v), some vs => some (v :: vs)
    | _, _ => none
  | .cell t ty :: r => match look sl t with
    | some (.p k off) => match bx[k]? with
      | some (_, cs) => match partVal P ty cs off, resVals P sl bx r with
        | some v, some vs => some (v :: vs)
        | _, _ => none
      | none => none
    | _ => none

def oneOrTuple (vs : List Value) : Value :=
  match vs with
  | [v] => v
  | _ => .tuple vs.toArray

def resOf (tmps : Array Value) : ResultVar → Sem Value
  | .tmp t => pure (tmps.getD t undef)
  | .cell x t => do loadVar t (← asAddr (tmps.getD x undef))

theorem resVals_ok {γ : List Nat} {a : Act} {w : World} (hl : Live n γ sl a) (hs : SAT A W0 γ bx R w) : ∀ (rs : List ResultVar) (vs : List Value), resVals P sl bx rs = some vs →
    (rs.mapM (resOf a.tmps)).run P w = .ok vs w
  | [], vs, h => by simp only [resVals, Option.some.injEq] at h; subst h; simp [List.mapM_nil]
  | .tmp t :: r, vs, h => by
    simp only [resVals] at h
    split at h
    · rename_i v vs' h1 h2
      simp only [Option.some.injEq] at h
      subst h
      have ih := resVals_ok hl hs r vs' h2
      have h3 := hl.slot t _ h1
      have h4 : (resOf a.tmps (.tmp t)).run P w = .ok v w := by simp [resOf, h3, SV.den]
      simp only [List.mapM_cons, Sem.run_bind, ih, h4, Result.andThen_ok, Sem.run_pure]
    · cases h
  | .cell t ty :: r, vs, h => by
    simp only [resVals] at h
    split at h
    · rename_i k off h1
      split at h
      · rename_i e cs hk
        split at h
        · rename_i v vs' h2 h3
          simp only [Option.some.injEq] at h
          subst h
          have ih := resVals_ok hl hs r vs' h3
          have h4 := hl.slot t _ h1
          have hr := run_loadVar_part (P := P) (hs.boxes k e cs hk) h2
          simp only [List.getD_eq_getElem?_getD] at hr
          have h5 : (resOf a.tmps (.cell t ty)).run P w = .ok v w := by simp [resOf, h4, SV.den, asAddr, hr]
          simp only [List.mapM_cons, Sem.run_bind, ih, h5, Result.andThen_ok, Sem.run_pure]
        · cases h
      · cases h
    · cases h

theorem results_ok {γ : List Nat} {a : Act} {w : World} {fn : Func} {vs : List Value} (hl : Live n γ sl a) (hs : SAT A W0 γ bx R w) (h : resVals P sl bx fn.results.toList = some vs) :
    (results fn a.tmps).run P w = .ok (oneOrTuple vs) w := by
  have h1 := resVals_ok (P := P) hl hs fn.results.toList vs h
  have e : results fn a.tmps = (fn.results.mapM (resOf a.tmps) >>= fun vs => pure (if h : vs.size = 1 then vs[0] else .tuple vs)) := by
    unfold results
    congr 1
  rw [e, Array.mapM_eq_mapM_toList]
  simp only [Sem.run_bind, Sem.run_map, h1, Result.andThen_ok, Sem.run_pure]
  congr 1
  match vs with
  | [] => rfl
  | [v] => rfl
  | v :: u :: r => simp [oneOrTuple]

/-- A return. -/
theorem JE_ret {fn : Func} {Post : Ending → World → Prop} {vs : List Value} (hr : resVals P sl bx fn.results.toList = some vs) (h : ∀ γ w, SAT A W0 γ bx R w → Post (.returned (oneOrTuple vs)) w) :
    JE A W0 n .ret sl bx R (bodyPost P fn Post) := fun γ a w hl hs => ⟨hl.defers, _, results_ok hl hs hr, h γ w hs⟩
theorem JE_fall {fn : Func} {Post : Ending → World → Prop} {vs : List Value} (hr : resVals P sl bx fn.results.toList = some vs) (h : ∀ γ w, SAT A W0 γ bx R w → Post (.returned (oneOrTuple vs)) w) :
    JE A W0 n .normal sl bx R (bodyPost P fn Post) := fun γ a w hl hs => ⟨hl.defers, _, results_ok hl hs hr, h γ w hs⟩

theorem Kept.toBelow {w : World} (h : Kept (fun _ => False) W0 w) : Below W0.heap.size W0 w := ⟨h.os, h.tape, h.output, h.size, fun k hk => h.block k hk (fun x => x)⟩

theorem SAT.fresh {γ : List Nat} {w : World} (h : SAT (fun _ => False) W0 γ bx R w) : FreshR R W0 w := by
  obtain ⟨Fs, h1, h2, h3⟩ := h.own
  rw [List.nodup_append] at h2
  refine ⟨Fs, h1, h2.2.1, fun g hg => ?_⟩
  have := h3 g (by simp only [List.mem_append]; exact .inr hg)
  exact ⟨this.2.resolve_right (fun x => x), this.1⟩

/-- A function without memory in its result has come to its end. -/
theorem ret0 {fn : Func} {vs : List Value} {x : Value} (hr : resVals P sl bx fn.results.toList = some vs) (hx : oneOrTuple vs = x) :
    JE (fun _ => False) W0 n .ret sl bx R (bodyPost P fn fun e w' => e = .returned x ∧ Below W0.heap.size W0 w') :=
  JE_ret hr fun γ w hs => ⟨by rw [hx], hs.kept.toBelow⟩

end
end Go.Pen
