/-
  The evaluator of plain operations over slots and own boxes, and its soundness.
-/
import Derived.Test.YtmhjpbpdbdjiaaaDoorPenA
namespace Go.Pen
open Go.RowKit
set_option linter.unusedVariables false

def opv (sl : List (Nat × SV)) : Operand → Option SV
  | .tmp t => look sl t
  | .const v => some (.v v)
  | .global g => some (.v (.pointer (some ⟨g, 0, none⟩)))
  | .func f => some (.v (.func (.func f) #[] #[]))

def opV (sl : List (Nat × SV)) (x : Operand) : Option Value :=
  match opv sl x with
  | some (.v y) => some y
  | _ => none

/-- The part of a row of cells that a variable of type t at this place is. -/
def partVal (P : Program) (t : TypeId) (cs : List Value) (off : Nat) : Option Value :=
  match P.underlying t, P.info? t with
  | some d, some i =>
    match d with
    | .struct _ => bif Nat.ble (off + i.size) cs.length then some (.agg ((cs.drop off).take i.size).toArray) else none
    | .array _ _ => bif Nat.ble (off + i.size) cs.length then some (.agg ((cs.drop off).take i.size).toArray) else none
    | _ => cs[off]?
  | _, _ => none

/-- The cells with those from off on overwritten. -/
def writeAt (cs : List Value) (off : Nat) (vs : List Value) : List Value := cs.take off ++ vs ++ cs.drop (off + vs.length)

def isSelect : Op → Bool
  | .select _ _ => true
  | _ => false

/-- '==' of two values of a type without memory. -/
def partA (P : Program) (t : TypeId) (cs : Array Value) (off : Nat) : Option Value :=
  match P.underlying t, P.info? t with
  | some d, some i =>
    match d with
    | .struct _ => some (.agg (cs.extract off (off + i.size)))
    | .array _ _ => some (.agg (cs.extract off (off + i.size)))
    | _ => cs[off]?
  | _, _ => none

def eqFs (P : Program) (rec : TypeId → Value → Value → Option Bool) (xs ys : Array Value) : List Field → Option Bool
  | [] => some true
  | f :: fs => bif f.name == "_" then eqFs P rec xs ys fs else
    match partA P f.type xs f.offset, partA P f.type ys f.offset with
    | some a, some b => match rec f.type a b, eqFs P rec xs ys fs with
      | some r, some r' => some (r && r')
      | _, _ => none
    | _, _ => none

def eqT (P : Program) : Nat → TypeId → Value → Value → Option Bool
  | 0, _, _, _ => none
  | d + 1, t, x, y =>
    match P.underlying t with
    | some .bool => match x, y with
      | .bool a, .bool b => some (a == b)
      | _, _ => none
    | some (.int _) => match x, y with
      | .int k a, .int k' b => bif decide (k = k') then some (a == b) else none
      | _, _ => none
    | some (.struct fields) => match x, y with
      | .agg xs, .agg ys => bif P.stoodInHeld t then none else eqFs P (eqT P d) xs ys fields.toList
      | _, _ => none
    | _ => none

def evEqs (P : Program) (sl : List (Nat × SV)) (o : Oper) : Option Bool :=
  match o.op with
  | .binOp .eql t x y _ => match opV sl x, opV sl y with
    | some (.agg xs), some (.agg ys) => bif P.eqGuardType P.depth t then none else eqT P 10 t (.agg xs) (.agg ys)
    | _, _ => none
  | .binOp .neq t x y _ => match opV sl x, opV sl y with
    | some (.agg xs), some (.agg ys) => bif P.eqGuardType P.depth t then none else (eqT P 10 t (.agg xs) (.agg ys)).map (!·)
    | _, _ => none
  | _ => none

def evPlain (P : Program) (sl : List (Nat × SV)) (o : Oper) : Option SV :=
  match evEqs P sl o with
  | some b => some (.v (.bool b))
  | none =>
  bif !isSelect o.op && o.op.operands.toList.all (fun y => (opV sl y).isSome) then
    match pureRun P (execOp (fun y => (opV sl y).getD undef) o) with
    | some (.value v) => some (.v v)
    | _ => none
  else none

def evOp (P : Program) (sl : List (Nat × SV)) (bx : List (TypeId × List Value)) (o : Oper) : Option (SV × List (TypeId × List Value)) :=
  match o.op with
  | .move x => (opv sl x).map (·, bx)
  | .assign x => (opv sl x).map (·, bx)
  | .box e x => match opV sl x with
    | some v => some (.p bx.length 0, bx ++ [(e, v.cells.toList)])
    | none => none
  | .alloc e => match P.info? e with
    | some i => match i.zero with
      | some z => some (.p bx.length 0, bx ++ [(e, z.cells.toList)])
      | none => none
    | none => none
  | .load t x => match opv sl x with
    | some (.p k off) => match bx[k]? with
      | some (_, cs) => (partVal P t cs off).map fun v => (.v v, bx)
      | none => none
    | _ => none
  | .store t x y => match opv sl x, opV sl y with
    | some (.p k off), some v => match bx[k]?, P.info? t with
      | some (e, cs), some i =>
        bif Nat.beq v.cells.size i.size && Nat.ble (off + v.cells.size) cs.length && v.cells.toList.all (·.oneCell') then some (.v undef, bx.set k (e, writeAt cs off v.cells.toList)) else none
      | _, _ => none
    | _, _ => none
  | .fieldAddr st x f => match P.underlying st with
    | some (.struct fields) => match fields[f]? with
      | some fd => match P.info? fd.type with
        | some i => bif Nat.beq i.size 0 then none else match opv sl x with
          | some (.p k off) => some (.p k (off + fd.offset), bx)
          | some (.q a k) => some (.q a (k + fd.offset), bx)
          | _ => none
        | none => none
      | none => none
    | _ => none
  | _ => (evPlain P sl o).map (·, bx)

structure Live (n : Nat) (γ : List Nat) (sl : List (Nat × SV)) (a : Act) : Prop where
  defers : a.defers = []
  size : a.tmps.size = n
  slot : ∀ t x, look sl t = some x → a.tmps[t]? = some (x.den γ)
  inb : ∀ t x, look sl t = some x → x.inb γ.length

theorem Live.eval {n : Nat} {γ : List Nat} {sl : List (Nat × SV)} {a : Act} (h : Live n γ sl a) {x : Operand} {s : SV} (hx : opv sl x = some s) : a.eval x = s.den γ := by
  cases x with
  | tmp t => simp only [opv] at hx; simp [Act.eval, h.slot t s hx]
  | const v => simp only [opv, Option.some.injEq] at hx; subst hx; rfl
  | global g => simp only [opv, Option.some.injEq] at hx; subst hx; rfl
  | func f => simp only [opv, Option.some.injEq] at hx; subst hx; rfl

theorem opV_some {sl : List (Nat × SV)} {x : Operand} {v : Value} (h : opV sl x = some v) : opv sl x = some (.v v) := by
  unfold opV at h
  split at h
  · rename_i y hy; simp only [Option.some.injEq] at h; subst h; exact hy
  · cases h

theorem Live.evalV {n : Nat} {γ : List Nat} {sl : List (Nat × SV)} {a : Act} (h : Live n γ sl a) {x : Operand} {v : Value} (hx : opV sl x = some v) : a.eval x = v :=
  h.eval (opV_some hx)

theorem Live.opv_inb {n : Nat} {γ : List Nat} {sl : List (Nat × SV)} {a : Act} (h : Live n γ sl a) {x : Operand} {s : SV} (hx : opv sl x = some s) : s.inb γ.length := by
  cases x with
  | tmp t => exact h.inb t s hx
  | const v => simp only [opv, Option.some.injEq] at hx; subst hx; trivial
  | global g => simp only [opv, Option.some.injEq] at hx; subst hx; trivial
  | func f => simp only [opv, Option.some.injEq] at hx; subst hx; trivial

/-- What the evaluator has found is what the operation does. -/
def Does (P : Program) (A : Nat → Prop) (W0 : World) (R : List Res) (γ : List Nat) (a : Act) (w : World) (o : Oper) (x : SV) (bx' : List (TypeId × List Value)) : Prop :=
  ∃ γ' w' nx, (execOp a.eval o).run P w = .ok nx w' ∧ (nx = .value (x.den γ') ∨ (nx = .skip ∧ x.den γ' = undef)) ∧ SAT A W0 γ' bx' R w' ∧ (∃ δ, γ' = γ ++ δ) ∧ x.inb γ'.length

theorem run_loadVar_part {P : Program} {w : World} {g : Nat} {e t : TypeId} {cs : List Value} {off : Nat} {v : Value} (hg : w.heap[g]? = some (.cells cs.toArray e (0, 0)))
    (h : partVal P t cs off = some v) : (loadVar t ⟨g, off, none⟩).run P w = .ok v w := by
  have hcell : ∀ j, w.cell? ⟨g, j, none⟩ = cs[j]? := fun j => by rw [cell_of_row w g j _ _ _ hg]; simp
  unfold partVal at h
  split at h
  · rename_i d i hd hi
    have hadd : ∀ j, (⟨g, off, none⟩ : Addr).add j = ⟨g, off + j, none⟩ := fun j => by unfold Addr.add; split <;> simp_all
    have agg : ∀ (hle : Nat.ble (off + i.size) cs.length = true), (loadCells ⟨g, off, none⟩ i.size).run P w = .ok ((cs.drop off).take i.size).toArray w := by
      intro hle
      have hle' := Nat.le_of_ble_eq_true hle
      have hl : ((cs.drop off).take i.size).length = i.size := by simp; omega
      have := run_loadCells_list (P := P) w ⟨g, off, none⟩ ((cs.drop off).take i.size) (fun j u hu => by
        rw [hadd, hcell]
        have hj : j < i.size := by
          have := (List.getElem?_eq_some_iff.1 hu).1
          omega
        rw [List.getElem?_take] at hu
        simpa [hj] using hu)
      rwa [hl] at this
    cases d with
    | struct fs =>
      simp only at h
      cases hb : Nat.ble (off + i.size) cs.length with
      | false => rw [hb] at h; simp at h
      | true =>
        rw [hb] at h
        simp only [cond_true, Option.some.injEq] at h
        subst h
        simp [loadVar, isAgg, run_underlying hd w, sizeOf, typeInfo, hi, agg hb]
    | array m el =>
      simp only at h
      cases hb : Nat.ble (off + i.size) cs.length with
      | false => rw [hb] at h; simp at h
      | true =>
        rw [hb] at h
        simp only [cond_true, Option.some.injEq] at h
        subst h
        simp [loadVar, isAgg, run_underlying hd w, sizeOf, typeInfo, hi, agg hb]
    | _ =>
      simp only at h
      simp [loadVar, isAgg, run_underlying hd w, hcell, h]
  · cases h

theorem run_storeVar_part {P : Program} {w : World} {g : Nat} {e t : TypeId} {cs : List Value} {off : Nat} {v : Value} {i : TypeInfo} (hg : w.heap[g]? = some (.cells cs.toArray e (0, 0)))
    (hi : P.info? t = some i) (h1 : v.cells.size = i.size) (h2 : off + v.cells.size ≤ cs.length) (h3 : ∀ c ∈ v.cells.toList, c.oneCell' = true) :
    (storeVar t ⟨g, off, none⟩ v).run P w = .ok () (w.setRow g (writeAt cs off v.cells.toList).toArray) := by
  have := run_storeCells_at (P := P) g off e v.cells.toList 0 cs.toArray w hg (by simpa using h2) h3
  simp [storeVar, sizeOf, typeInfo, hi, h1, writeAt] at this ⊢
  exact this

theorem Act.eval_opV_all {n : Nat} {γ : List Nat} {sl : List (Nat × SV)} {a : Act} (h : Live n γ sl a) {xs : Array Operand} (hall : xs.toList.all (fun y => (opV sl y).isSome) = true) :
    ∀ y ∈ xs, (opV sl y).getD undef = a.eval y := by
  intro y hy
  have := List.all_eq_true.1 hall y (by simpa using hy)
  cases ho : opV sl y with
  | none => simp [ho] at this
  | some v => simp [h.evalV ho]

theorem run_part {P : Program} {t : TypeId} {cs : Array Value} {off : Nat} {v : Value} (h : partA P t cs off = some v) (w : World) : (part t cs off).run P w = .ok v w := by
  unfold partA at h
  split at h
  · rename_i d i hd hi
    cases d <;> simp only [Option.some.injEq] at h <;> first
      | (subst h; simp [part, isAgg, run_underlying hd w, sizeOf, typeInfo, hi])
      | simp [part, isAgg, run_underlying hd w, h]
  · cases h

theorem eqFs_ok {P : Program} {d : Nat} {rec : TypeId → Value → Value → Option Bool} (hrec : ∀ t x y b, rec t x y = some b → ∀ w, (Op.equalIn d t x y).run P w = .ok b w) (xs ys : Array Value) :
    ∀ (fs : List Field) (b : Bool), eqFs P rec xs ys fs = some b → ∀ w, (Op.eqFields d xs ys fs).run P w = .ok b w
  | [], b, h, w => by simp only [eqFs, Option.some.injEq] at h; subst h; rfl
  | f :: fs, b, h, w => by
    simp only [eqFs] at h
    cases hn : (f.name == "_") with
    | true =>
      rw [hn] at h
      have : f.name = "_" := by simpa using hn
      simp only [Op.eqFields, this, ne_eq, not_true_eq_false, if_false]
      exact eqFs_ok hrec xs ys fs b h w
    | false =>
      rw [hn] at h
      have hne : f.name ≠ "_" := by simpa using hn
      simp only [cond_false] at h
      split at h
      · rename_i a c ha hc
        split at h
        · rename_i r r' h1 h2
          simp only [Option.some.injEq] at h
          subst h
          have ih := eqFs_ok hrec xs ys fs r' h2 w
          simp only [Op.eqFields, hne, ne_eq, not_false_eq_true, if_true, Sem.run_bind, run_part ha, run_part hc, hrec _ _ _ _ h1, Result.andThen_ok, Sem.run_ite, ih, Sem.run_pure]
          cases r <;> rfl
        · cases h
      · cases h

theorem eqT_ok {P : Program} : ∀ (k m : Nat) (t : TypeId) (x y : Value) (b : Bool), eqT P k t x y = some b → ∀ w, (Op.equalIn (k + m) t x y).run P w = .ok b w
  | 0, m, t, x, y, b, h, w => by simp [eqT] at h
  | k + 1, m, t, x, y, b, h, w => by
    rw [show k + 1 + m = (k + m) + 1 by omega]
    simp only [eqT] at h
    split at h
    · rename_i ht
      split at h
      · simp only [Option.some.injEq] at h; subst h; simp [Op.equalIn, run_underlying ht]
      · cases h
    · rename_i kk ht
      split at h
      · rename_i k1 a k2 c
        cases hk : decide (k1 = k2) with
        | false => rw [hk] at h; simp at h
        | true =>
          rw [hk] at h
          simp only [decide_eq_true_eq] at hk
          subst hk
          simp only [cond_true, Option.some.injEq] at h
          subst h
          exact run_equalIn_int w _ t _ _ _ _ ht
      · cases h
    · rename_i fields ht
      split at h
      · rename_i xs ys
        cases hp : P.stoodInHeld t with
        | true => rw [hp] at h; simp at h
        | false =>
          rw [hp] at h
          simp only [cond_false] at h
          have hf : P.fieldsOf t = fields := by simp [Program.fieldsOf, ht]
          rw [run_equalIn_struct w (k + m) t xs ys (by rw [hf]; exact ht) hp, hf]
          exact eqFs_ok (fun t x y b hb w => eqT_ok k m t x y b hb w) xs ys _ b h w
      · cases h
    · cases h

theorem evEqs_ok {P : Program} {n : Nat} {γ : List Nat} {sl : List (Nat × SV)} {a : Act} {o : Oper} {b : Bool} (hl : Live n γ sl a) (h : evEqs P sl o = some b) (w : World) :
    (execOp a.eval o).run P w = .ok (.value (.bool b)) w := by
  obtain ⟨dst, op, type, pos, after, guard⟩ := o
  unfold evEqs at h
  split at h
  · rename_i t x y yt hop
    simp only at hop
    subst hop
    split at h
    · rename_i xs ys hx hy
      cases hg : P.eqGuardType P.depth t with
      | true => rw [hg] at h; simp at h
      | false =>
        rw [hg] at h
        simp only [cond_false] at h
        have := eqT_ok 10 9990 t _ _ b h w
        simp only [execOp, hl.evalV hx, hl.evalV hy, Sem.run_bind, run_eqGuard_agg w .eql t x y xs ys hg, Result.andThen_ok, run_eql_struct, this, Sem.run_pure]
    · cases h
  · rename_i t x y yt hop
    simp only at hop
    subst hop
    split at h
    · rename_i xs ys hx hy
      cases hg : P.eqGuardType P.depth t with
      | true => rw [hg] at h; simp at h
      | false =>
        rw [hg] at h
        simp only [cond_false] at h
        cases he : eqT P 10 t (.agg xs) (.agg ys) with
        | none => simp [he] at h
        | some c =>
          simp only [he, Option.map_some, Option.some.injEq] at h
          subst h
          have := eqT_ok 10 9990 t _ _ c he w
          simp only [execOp, hl.evalV hx, hl.evalV hy, Sem.run_bind, run_eqGuard_agg w .neq t x y xs ys hg, Result.andThen_ok, run_neq_struct, this, Sem.run_pure]
    · cases h
  · cases h

theorem evPlain_ok {P : Program} {n : Nat} {γ : List Nat} {sl : List (Nat × SV)} {a : Act} {o : Oper} {x : SV} (hl : Live n γ sl a) (h : evPlain P sl o = some x) :
    (∃ v, x = .v v) ∧ ∀ w, (execOp a.eval o).run P w = .ok (.value (x.den γ)) w := by
  unfold evPlain at h
  split at h
  · rename_i b hb
    simp only [Option.some.injEq] at h
    subst h
    exact ⟨⟨_, rfl⟩, fun w => evEqs_ok hl hb w⟩
  cases hc : (!isSelect o.op && o.op.operands.toList.all (fun y => (opV sl y).isSome)) with
  | false => rw [hc] at h; simp at h
  | true =>
    rw [hc] at h
    simp only [cond_true] at h
    simp only [Bool.and_eq_true, Bool.not_eq_true'] at hc
    split at h
    · rename_i v hv
      simp only [Option.some.injEq] at h
      subst h
      refine ⟨⟨v, rfl⟩, fun w => ?_⟩
      have he : execOp a.eval o = execOp (fun y => (opV sl y).getD undef) o := execOp_congr o (fun cs b hs => by rw [hs] at hc; simp [isSelect] at hc) (fun y hy => (Act.eval_opV_all hl hc.2 y hy).symm)
      rw [he]
      exact pureRun_ok _ hv w
    · cases h

theorem evOp_ok {P : Program} {A : Nat → Prop} {W0 : World} {n : Nat} {γ : List Nat} {sl : List (Nat × SV)} {bx bx' : List (TypeId × List Value)} {R : List Res} {a : Act} {w : World} {o : Oper} {x : SV}
    (hl : Live n γ sl a) (hs : SAT A W0 γ bx R w) (h : evOp P sl bx o = some (x, bx')) : Does P A W0 R γ a w o x bx' := by
  have plain : ∀ (hop : (evPlain P sl o).map (·, bx) = some (x, bx')), Does P A W0 R γ a w o x bx' := by
    intro hop
    cases he : evPlain P sl o with
    | none => simp [he] at hop
    | some y =>
      simp only [he, Option.map_some, Option.some.injEq, Prod.mk.injEq] at hop
      obtain ⟨rfl, rfl⟩ := hop
      obtain ⟨⟨v, rfl⟩, hr⟩ := evPlain_ok hl he
      exact ⟨γ, w, _, hr w, .inl rfl, hs, ⟨[], by simp⟩, trivial⟩
  obtain ⟨dst, op, type, pos, after, guard⟩ := o
  cases op <;> simp only [evOp] at h <;> try exact plain h
  case move y =>
    cases hy : opv sl y with
    | none => simp [hy] at h
    | some s =>
      simp only [hy, Option.map_some, Option.some.injEq, Prod.mk.injEq] at h
      obtain ⟨rfl, rfl⟩ := h
      exact ⟨γ, w, _, by simp [execOp, hl.eval hy], .inl rfl, hs, ⟨[], by simp⟩, hl.opv_inb hy⟩
  case assign y =>
    cases hy : opv sl y with
    | none => simp [hy] at h
    | some s =>
      simp only [hy, Option.map_some, Option.some.injEq, Prod.mk.injEq] at h
      obtain ⟨rfl, rfl⟩ := h
      exact ⟨γ, w, _, by simp [execOp, hl.eval hy], .inl rfl, hs, ⟨[], by simp⟩, hl.opv_inb hy⟩
  case alloc e =>
    split at h
    · rename_i i hi
      split at h
      · rename_i z hz
        simp only [Option.some.injEq, Prod.mk.injEq] at h
        obtain ⟨rfl, rfl⟩ := h
        have hsa := hs.alloc e z.cells.toList
        refine ⟨_, _, .value (.pointer (some ⟨w.heap.size, 0, none⟩)), ?_, .inl ?_, hsa, ⟨_, rfl⟩, ?_⟩
        · simp [execOp, Instr.alloc, zeroValue, typeInfo, hi, hz, newVar, newRow]
        · simp [SV.den, List.getD, hs.len.symm]
        · simp [SV.inb, hs.len]
      · cases h
    · cases h
  case box e y =>
    split at h
    · rename_i v hv
      simp only [Option.some.injEq, Prod.mk.injEq] at h
      obtain ⟨rfl, rfl⟩ := h
      have hsa := hs.alloc e v.cells.toList
      refine ⟨_, _, .value (.pointer (some ⟨w.heap.size, 0, none⟩)), ?_, .inl ?_, hsa, ⟨_, rfl⟩, ?_⟩
      · simp [execOp, Instr.box, newVar, newRow, hl.evalV hv]
      · simp [SV.den, List.getD, hs.len.symm]
      · simp [SV.inb, hs.len]
    · cases h
  case load t y =>
    split at h
    · rename_i k off hy
      split at h
      · rename_i e cs hk
        cases hp : partVal P t cs off with
        | none => simp [hp] at h
        | some v =>
          simp only [hp, Option.map_some, Option.some.injEq, Prod.mk.injEq] at h
          obtain ⟨rfl, rfl⟩ := h
          refine ⟨γ, w, .value v, ?_, .inl rfl, hs, ⟨[], by simp⟩, trivial⟩
          have hb := hs.boxes k e cs hk
          have hr := run_loadVar_part (P := P) hb hp
          simp only [List.getD_eq_getElem?_getD] at hr
          simp [execOp, hl.eval hy, SV.den, Instr.loadAt, Instr.sureAddr, hr]
      · cases h
    · cases h
  case store t y z =>
    split at h
    · rename_i k off v hy hz
      split at h
      · rename_i e cs i hk hi
        cases hc : (Nat.beq v.cells.size i.size && Nat.ble (off + v.cells.size) cs.length && v.cells.toList.all (·.oneCell')) with
        | false => rw [hc] at h; simp at h
        | true =>
          rw [hc] at h
          simp only [cond_true, Option.some.injEq, Prod.mk.injEq] at h
          obtain ⟨rfl, rfl⟩ := h
          simp only [Bool.and_eq_true] at hc
          have hb := hs.boxes k e cs hk
          have hrun := run_storeVar_part (P := P) hb hi (Nat.eq_of_beq_eq_true hc.1.1) (Nat.le_of_ble_eq_true hc.1.2) (fun c hm => List.all_eq_true.1 hc.2 c hm)
          refine ⟨γ, _, .skip, ?_, .inr ⟨rfl, rfl⟩, hs.setBox hk _, ⟨[], by simp⟩, trivial⟩
          simp only [List.getD_eq_getElem?_getD] at hrun
          simp [execOp, hl.eval hy, hl.evalV hz, SV.den, Instr.storeAt, Instr.sureAddr, hrun]
      · cases h
    · cases h
  case fieldAddr st y f =>
    split at h
    · rename_i fields hst
      split at h
      · rename_i fd hfd
        split at h
        · rename_i i hi
          cases hz : Nat.beq i.size 0 with
          | true => rw [hz] at h; simp at h
          | false =>
            rw [hz] at h
            simp only [cond_false] at h
            have hne : i.size ≠ 0 := fun e => by rw [e] at hz; simp at hz
            have run : ∀ (b : Addr), b.spot = none → (fieldPlace b fd).run P w = .ok ⟨b.block, b.off + fd.offset, none⟩ w := by
              intro b hb
              simp only [fieldPlace, sizeOf, typeInfo, Sem.run_bind, run_program, Result.andThen_ok, hi, Sem.run_pure, hne, if_false]
              unfold Addr.add
              obtain ⟨b1, b2, b3⟩ := b
              simp only at hb
              subst hb
              split <;> simp_all
            split at h
            · rename_i k off hy
              simp only [Option.some.injEq, Prod.mk.injEq] at h
              obtain ⟨rfl, rfl⟩ := h
              refine ⟨γ, w, .value (SV.den γ (.p k (off + fd.offset))), ?_, .inl rfl, hs, ⟨[], by simp⟩, ?_⟩
              · simp [execOp, hl.eval hy, SV.den, Instr.fieldAt, run_underlying hst w, hfd, Instr.sureAddr, run]
              · have h0 : k < γ.length := hl.opv_inb hy; exact h0
            · rename_i b k hy
              simp only [Option.some.injEq, Prod.mk.injEq] at h
              obtain ⟨rfl, rfl⟩ := h
              refine ⟨γ, w, .value (SV.den γ (.q b (k + fd.offset))), ?_, .inl rfl, hs, ⟨[], by simp⟩, trivial⟩
              simp [execOp, hl.eval hy, SV.den, Instr.fieldAt, run_underlying hst w, hfd, Instr.sureAddr, run, Nat.add_assoc]
            · cases h
        · cases h
      · cases h
    · cases h

end Go.Pen
