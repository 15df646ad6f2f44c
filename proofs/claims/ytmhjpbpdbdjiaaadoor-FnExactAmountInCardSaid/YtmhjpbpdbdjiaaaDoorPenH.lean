/-
  Closures; functions that write into the slices that they are handed.
-/
import Derived.Test.YtmhjpbpdbdjiaaaDoorPenG
namespace Go.Pen
open Go.RowKit
set_option linter.unusedVariables false

section
variable {P : Program} {A : Nat → Prop} {W0 : World} {n : Nat} {ops : Array Oper} {sl sl' : List (Nat × SV)} {bx bx' : List (TypeId × List Value)} {R R' Rc Rr Rin Rout : List Res} {Q Q' : Exit → Act → World → Prop}

/-! ### Closures -/

theorem SAT.boxCells {γ : List Nat} {w : World} (h : SAT A W0 γ bx R w) {k : Nat} {e : TypeId} {cs : List Value} (hk : bx[k]? = some (e, cs)) : CellsAt w (some ⟨γ.getD k 0, 0, none⟩) 0 cs := by
  intro j u hu
  refine ⟨_, rfl, ?_⟩
  rw [cell_of_row w _ _ _ _ _ (h.boxes k e cs hk)]
  simpa using hu

def capOf (sl : List (Nat × SV)) : List Operand → Option (List (Nat × Nat))
  | [] => some []
  | x :: r => match opv sl x, capOf sl r with
    | some (.p k off), some ks => some ((k, off) :: ks)
    | _, _ => none

def evMkFunc (sl : List (Nat × SV)) (o : Oper) : Option SV :=
  match o.op with
  | .makeFunc (.func i) first cap => match first.toList, capOf sl cap.toList with
    | [], some ks => some (.f i ks)
    | _, _ => none
  | _ => none

theorem capOf_ok {γ : List Nat} {a : Act} (hl : Live n γ sl a) : ∀ {xs : List Operand} {ks : List (Nat × Nat)}, capOf sl xs = some ks → (xs.map a.eval = ks.map fun e => Value.pointer (some ⟨γ.getD e.1 0, e.2, none⟩)) ∧ ∀ e ∈ ks, e.1 < γ.length
  | [], ks, h => by simp only [capOf, Option.some.injEq] at h; subst h; simp
  | x :: r, ks, h => by
    simp only [capOf] at h
    split at h
    · rename_i k off ks' h1 h2
      simp only [Option.some.injEq] at h
      subst h
      obtain ⟨g1, g2⟩ := capOf_ok hl h2
      have h3 := hl.eval h1
      have h4 : k < γ.length := hl.opv_inb h1
      refine ⟨by simp [g1, h3, SV.den], fun e he => ?_⟩
      rw [List.mem_cons] at he
      rcases he with rfl | he
      · exact h4
      · exact g2 e he
    · cases h

theorem JO_mkfunc {l rest : List Oper} {o : Oper} (hl : l = o :: rest) (hw : wantedS ops sl o = some true) {x : SV} (he : evMkFunc sl o = some x) (hp : putS n sl o.dst x = some sl') (k : JO P A W0 n ops rest sl' bx R Q) : JO P A W0 n ops l sl bx R Q := by
  subst hl
  intro γ a w hl hs
  obtain ⟨dst, op, type, pos, after, guard⟩ := o
  unfold evMkFunc at he
  split at he
  · rename_i i first cap hop
    simp only at hop
    subst hop
    split at he
    · rename_i ks hf hc
      simp only [Option.some.injEq] at he
      subst he
      obtain ⟨h1, h2⟩ := capOf_ok hl hc
      have hf' : first = #[] := by cases first; simp_all
      subst hf'
      have h3 : cap.map a.eval = (ks.map fun e => Value.pointer (some ⟨γ.getD e.1 0, e.2, none⟩)).toArray := by
        obtain ⟨cap⟩ := cap
        simp only [List.map_toArray]
        exact congrArg List.toArray h1
      unfold wpList
      rw [if_pos (wantedS_ok hl hw)]
      refine .inl ?_
      unfold Oper.wp
      have hr : (execOp a.eval ⟨dst, .makeFunc (.func i) #[] cap, type, pos, after, guard⟩).run P w = .ok (.value (SV.den γ (.f i ks))) w := by
        simp [execOp, Instr.makeFunc, h3, SV.den]
      rw [hr]
      exact k γ _ w (hl.putS hp h2) hs
    · cases he
  · cases he

/-- What a call operation enters, by its slots' contents. -/
def evCallD (P : Program) (sl : List (Nat × SV)) (γ : List Nat) (o : Oper) : Option (FuncId × Array Value) :=
  bif !isSelect o.op && o.op.operands.toList.all (fun y => (opv sl y).isSome) then
    match pureRun P (execOp (fun y => ((opv sl y).map (SV.den γ)).getD undef) o) with
    | some (.enter f args) => some (f, args)
    | _ => none
  else none

theorem evCallD_ok {γ : List Nat} {a : Act} {o : Oper} {f : FuncId} {args : Array Value} (hl : Live n γ sl a) (h : evCallD P sl γ o = some (f, args)) (w : World) :
    (execOp a.eval o).run P w = .ok (.enter f args) w := by
  unfold evCallD at h
  cases hc : (!isSelect o.op && o.op.operands.toList.all (fun y => (opv sl y).isSome)) with
  | false => rw [hc] at h; simp at h
  | true =>
    rw [hc] at h
    simp only [cond_true] at h
    simp only [Bool.and_eq_true, Bool.not_eq_true'] at hc
    split at h
    · rename_i f' args' hv
      simp only [Option.some.injEq, Prod.mk.injEq] at h
      obtain ⟨rfl, rfl⟩ := h
      have he : execOp a.eval o = execOp (fun y => ((opv sl y).map (SV.den γ)).getD undef) o := execOp_congr o (fun cs b hs => by rw [hs] at hc; simp [isSelect] at hc) (fun y hy => by
        have := List.all_eq_true.1 hc.2 y (by simpa using hy)
        cases ho : opv sl y with
        | none => simp [ho] at this
        | some v => simp [hl.eval ho])
      rw [he]
      exact pureRun_ok _ hv w
    · cases h

theorem JO_callD {l rest : List Oper} {o : Oper} (hl : l = o :: rest) (hw : wantedS ops sl o = some true) {f : FuncId} {args : List Nat → Array Value} (hc : ∀ γ, evCallD P sl γ o = some (f, args γ)) {τ : Type} {val : τ → Value} {res : τ → List Res}
    (h : ∀ γ w, SAT A W0 γ bx R w → Gives P f (args γ) w val res) (slF : τ → List (Nat × SV)) (hp : ∀ y, putS n sl o.dst (.v (val y)) = some (slF y)) (k : ∀ y, JO P A W0 n ops rest (slF y) bx (res y ++ R) Q) : JO P A W0 n ops l sl bx R Q := by
  subst hl
  intro γ a w hl hs
  unfold wpList
  rw [if_pos (wantedS_ok hl hw)]
  refine .inl ?_
  unfold Oper.wp
  rw [evCallD_ok hl (hc γ) w]
  refine (h γ w hs).mono ?_
  rintro e w' ⟨y, rfl, hb, hf⟩
  exact k y γ _ w' (hl.putS (hp y) trivial) (hs.call hb hf)

theorem JO_callD0 {l rest : List Oper} {o : Oper} (hl : l = o :: rest) (hw : wantedS ops sl o = some true) {f : FuncId} {args : List Nat → Array Value} (hc : ∀ γ, evCallD P sl γ o = some (f, args γ)) {x : Value}
    (h : ∀ γ w, SAT A W0 γ bx R w → Gives0 P f (args γ) w x) (hp : putS n sl o.dst (.v x) = some sl') (k : JO P A W0 n ops rest sl' bx R Q) : JO P A W0 n ops l sl bx R Q := by
  subst hl
  intro γ a w hl hs
  unfold wpList
  rw [if_pos (wantedS_ok hl hw)]
  refine .inl ?_
  unfold Oper.wp
  rw [evCallD_ok hl (hc γ) w]
  refine (h γ w hs).mono ?_
  rintro e w' ⟨rfl, hb⟩
  exact k γ _ w' (hl.putS hp trivial) (hs.below hb)

/-- Slots for the arguments. -/
def argSV : Nat → List SV → List (Nat × SV)
  | _, [] => []
  | i, v :: r => (i, v) :: argSV (i + 1) r

def plainSV : SV → Bool
  | .v _ => true
  | .q _ _ => true
  | _ => false

theorem look_argSV : ∀ (l : List SV) (i t : Nat) (x : SV), look (argSV i l) t = some x → i ≤ t ∧ l[t - i]? = some x
  | [], i, t, x, h => by simp [argSV, look] at h
  | v :: r, i, t, x, h => by
    simp only [argSV, look] at h
    by_cases e : i = t
    · subst e
      simp at h
      exact ⟨Nat.le_refl _, by simp [h]⟩
    · have h1 : Nat.beq i t = false := by rw [← Bool.not_eq_true, Nat.beq_eq]; exact e
      rw [h1] at h
      obtain ⟨h2, h3⟩ := look_argSV r (i + 1) t x h
      refine ⟨by omega, ?_⟩
      rw [show t - i = (t - (i + 1)) + 1 by omega]
      simpa using h3

theorem enterD {f : FuncId} {fn : Func} {c : Code} (svs : List SV) {args : List Value} {W : World} {Post : Ending → World → Prop} (hd : svs.map (SV.den []) = args) (hpl : svs.all plainSV = true) (hf : P.funcs[f]? = some fn) (hb : fn.body = some c) (hn : fn.ntmps = n) (hsz : Nat.ble args.length n = true)
    (h : JC P (fun _ => False) W n c (argSV 0 svs) [] [] (bodyPost P fn Post)) : Calls P f args.toArray W Post := by
  have hsz' := Nat.le_of_ble_eq_true hsz
  have hnp : ∀ t x, look (argSV 0 svs) t = some x → plainSV x = true := fun t x hx => by
    obtain ⟨_, hv⟩ := look_argSV _ _ _ _ hx
    exact List.all_eq_true.1 hpl x (List.mem_of_getElem? hv)
  refine calls_of_wp hf hb (h [] _ W ⟨rfl, by simp [hn]; omega, fun t x hx => ?_, fun t x hx => ?_⟩ ⟨Kept.refl _ _, rfl, by intro k e cs hk; simp at hk, [], rfl, by simp, by simp⟩)
  · obtain ⟨_, hv⟩ := look_argSV _ _ _ _ hx
    simp only [Nat.sub_zero] at hv
    have hv2 : args[t]? = some (x.den []) := by rw [← hd]; simp [hv]
    have hlt := (List.getElem?_eq_some_iff.1 hv2).1
    rw [Array.getElem?_append]
    have hv' := (List.getElem?_eq_some_iff.1 hv2).2
    simp [hlt, hv']
  · have := hnp t x hx
    cases x with
    | v y => trivial
    | q a k => trivial
    | p k off => simp [plainSV] at this
    | f i ks => simp [plainSV] at this

/-! ### Functions that write into what they are handed -/

/-- What stands behind such a call. -/
def TurnedTo (Fs : List (List Nat)) (w : World) (Rout : List Res) (x : Value) (e : Ending) (w' : World) : Prop :=
  e = .returned x ∧ w'.os = w.os ∧ w'.tape = w.tape ∧ w'.output = w.output ∧ w.heap.size ≤ w'.heap.size ∧ (∀ k, k < w.heap.size → k ∉ Fs.flatten → w'.heap[k]? = w.heap[k]?) ∧
    ∃ Fs', holdsAll w' Rout Fs' ∧ Fs'.flatten.Nodup ∧ ∀ g ∈ Fs'.flatten, g ∈ Fs.flatten ∨ (w.heap.size ≤ g ∧ g < w'.heap.size)

def GivesM (P : Program) (f : FuncId) (args : Array Value) (w : World) (Rin Rout : List Res) (x : Value) : Prop :=
  ∀ Fs, holdsAll w Rin Fs → Fs.flatten.Nodup → (∀ g ∈ Fs.flatten, g < w.heap.size) → Calls P f args w (TurnedTo Fs w Rout x)

theorem enterM {f : FuncId} {fn : Func} {c : Code} {args : List Value} {W : World} {x : Value} (hf : P.funcs[f]? = some fn) (hb : fn.body = some c) (hn : fn.ntmps = n) (hsz : Nat.ble args.length n = true)
    (h : ∀ Fs : List (List Nat), JC P (fun g => g ∈ Fs.flatten) W n c (argSl 0 args) [] Rin (bodyPost P fn (TurnedTo Fs W Rout x))) : GivesM P f args.toArray W Rin Rout x := by
  intro Fs hF hN hL
  have hsz' := Nat.le_of_ble_eq_true hsz
  refine calls_of_wp hf hb (h Fs [] _ W ⟨rfl, by simp [hn]; omega, fun t x hx => ?_, fun t x hx => ?_⟩ ⟨Kept.refl _ _, rfl, by intro k e cs hk; simp at hk, Fs, hF, by simpa using hN, fun g hg => ⟨hL g (by simpa using hg), .inr (by simpa using hg)⟩⟩)
  · obtain ⟨_, v, rfl, hv⟩ := look_argSl _ _ _ _ hx
    have hlt := (List.getElem?_eq_some_iff.1 hv).1
    simp only [Nat.sub_zero] at hv hlt
    simp only [SV.den]
    rw [Array.getElem?_append]
    have hv' := (List.getElem?_eq_some_iff.1 hv).2
    simp [hlt, hv']
  · obtain ⟨_, v, rfl, _⟩ := look_argSl _ _ _ _ hx
    trivial

theorem SAT.turned {Fs : List (List Nat)} {W : World} {γ : List Nat} {w : World} {x : Value} (h : SAT (fun g => g ∈ Fs.flatten) W γ bx R w) {is : List Nat} (ht : Pen.takeR is R = some Rout) : TurnedTo Fs W Rout x (.returned x) w := by
  have h' := h.takeR ht
  obtain ⟨Fs', h1, h2, h3⟩ := h'.own
  rw [List.nodup_append] at h2
  refine ⟨rfl, h.kept.os, h.kept.tape, h.kept.output, h.kept.size, h.kept.block, Fs', h1, h2.2.1, fun g hg => ?_⟩
  have := h3 g (by simp only [List.mem_append]; exact .inr hg)
  rcases this.2 with hh | hh
  · exact .inr ⟨hh, this.1⟩
  · exact .inl hh

theorem SAT.swapM {γ : List Nat} {w : World} (h : SAT A W0 γ bx (Rc ++ Rr) w) : ∃ Fs, holdsAll w Rc Fs ∧ Fs.flatten.Nodup ∧ (∀ g ∈ Fs.flatten, g < w.heap.size) ∧
    ∀ (w' : World) (Rs : List Res) (Gs : List (List Nat)), w'.os = w.os → w'.tape = w.tape → w'.output = w.output → w.heap.size ≤ w'.heap.size → holdsAll w' Rs Gs → Gs.flatten.Nodup →
      (∀ g ∈ Gs.flatten, g ∈ Fs.flatten ∨ (w.heap.size ≤ g ∧ g < w'.heap.size)) → (∀ k, k < w.heap.size → k ∉ Fs.flatten → w'.heap[k]? = w.heap[k]?) → SAT A W0 γ bx (Rs ++ Rr) w' := by
  obtain ⟨Fs, h1, h2, h3⟩ := h.own
  obtain ⟨F1, F2, rfl, g1, g2⟩ := holdsAll_split h1
  rw [List.flatten_append, List.nodup_append, List.nodup_append] at h2
  obtain ⟨hγ, ⟨hn1, hn2, hd12⟩, hdγ⟩ := h2
  have lt : ∀ g, g ∈ γ ∨ g ∈ F1.flatten ∨ g ∈ F2.flatten → g < w.heap.size ∧ (W0.heap.size ≤ g ∨ A g) := fun g hg => h3 g (by simp only [List.flatten_append, List.mem_append]; exact hg)
  refine ⟨F1, g1, hn1, fun g hg => (lt g (.inr (.inl hg))).1, fun w' Rs Gs os tape out size hF hFn hFm hkeep => ?_⟩
  have hz := h.kept.size
  have keep2 : ∀ g ∈ F2.flatten, w'.heap[g]? = w.heap[g]? := fun g hg => hkeep g (lt g (.inr (.inr hg))).1 (fun hm => hd12 g hm g hg rfl)
  have keepγ : ∀ g ∈ γ, w'.heap[g]? = w.heap[g]? := fun g hg => hkeep g (lt g (.inl hg)).1 (fun hm => hdγ g hg g (by simp [hm]) rfl)
  refine ⟨h.kept.trans_of os tape out size ?_, h.len, ?_, Gs ++ F2, holdsAll_append hF (holdsAll_stable g2 keep2), ?_, ?_⟩
  · intro k hk hA
    refine hkeep k (Nat.lt_of_lt_of_le hk hz) (fun hm => ?_)
    rcases (lt k (.inr (.inl hm))).2 with h4 | h4
    · omega
    · exact hA h4
  · intro k e cs hk
    have hkg : k < γ.length := by rw [h.len]; exact (List.getElem?_eq_some_iff.1 hk).1
    have hm : γ.getD k 0 ∈ γ := by
      simp only [List.getD_eq_getElem?_getD, List.getElem?_eq_getElem hkg, Option.getD_some]; exact List.getElem_mem _
    rw [keepγ _ hm]
    exact h.boxes k e cs hk
  · rw [List.flatten_append, List.nodup_append, List.nodup_append]
    refine ⟨hγ, ⟨hFn, hn2, ?_⟩, ?_⟩
    · intro x hx y hy e
      subst e
      rcases hFm x hx with hm | hm
      · exact hd12 x hm x hy rfl
      · have := (lt x (.inr (.inr hy))).1; omega
    · intro x hx y hy e
      subst e
      rw [List.mem_append] at hy
      rcases hy with hy | hy
      · rcases hFm x hy with hm | hm
        · exact hdγ x hx x (by simp [hm]) rfl
        · have := (lt x (.inl hx)).1; omega
      · exact hdγ x hx x (by simp only [List.mem_append]; exact .inr hy) rfl
  · intro g hg
    simp only [List.flatten_append, List.mem_append] at hg
    rcases hg with hg | hg | hg
    · have := lt g (.inl hg); exact ⟨Nat.lt_of_lt_of_le this.1 size, this.2⟩
    · rcases hFm g hg with hm | hm
      · have := lt g (.inr (.inl hm)); exact ⟨Nat.lt_of_lt_of_le this.1 size, this.2⟩
      · exact ⟨hm.2, .inl (by omega)⟩
    · have := lt g (.inr (.inr hg)); exact ⟨Nat.lt_of_lt_of_le this.1 size, this.2⟩

theorem JO_callM {l rest : List Oper} {o : Oper} (hl : l = o :: rest) (hw : wantedS ops sl o = some true) {f : FuncId} {args : Array Value} (hc : evCall P sl o = some (f, args)) {x : Value}
    (hR : R = Rin ++ Rr) (h : ∀ w, GivesM P f args w Rin Rout x) (hp : putS n sl o.dst (.v x) = some sl') (k : JO P A W0 n ops rest sl' bx (Rout ++ Rr) Q) : JO P A W0 n ops l sl bx R Q := by
  subst hl hR
  intro γ a w hl hs
  unfold wpList
  rw [if_pos (wantedS_ok hl hw)]
  refine .inl ?_
  unfold Oper.wp
  rw [evCall_ok hl hc w]
  obtain ⟨Fs, h1, h2, h3, hback⟩ := hs.swapM
  refine (h w Fs h1 h2 h3).mono ?_
  rintro e w' ⟨rfl, t1, t2, t3, t4, t5, Fs', t6, t7, t8⟩
  exact k γ _ w' (hl.putS hp trivial) (hback w' Rout Fs' t1 t2 t3 t4 t6 t7 t8 t5)

/-! ### One element's own slice taken out of a row, and put back -/

/-- A row of which one element's own memory is out. -/
def HoleRes {α : Type} [Rp α] (e : TypeId) (xs : List α) (d : Option Addr) (cap : Nat) (j : Nat) (cs : List Value) : Res where
  holds w F := ∃ g ys F1 F3 cur, d = some ⟨g, 0, none⟩ ∧ F = g :: (F1 ++ F3) ∧ w.heap[g]? = some (.cells cur e (0, 0)) ∧ xs.length ≤ cap ∧ cap ≤ maxLen ∧ cur.size = cap * Rp.sz α ∧ cur.toList.take (xs.length * Rp.sz α) = ys ∧
    (∀ i, i < Rp.sz α → ys[j * Rp.sz α + i]? = cs[i]?) ∧ (∀ g ∈ F1 ++ F3, g < w.heap.size) ∧
    ∀ w' G x', Rp.own w' G x' cs → (∀ g ∈ F1 ++ F3, w'.heap[g]? = w.heap[g]?) → ownL w' (F1 ++ (G ++ F3)) (xs.set j x') ys
  stable := by
    rintro w w' F ⟨g, ys, F1, F3, cur, h1, rfl, h3, h4, h5, h6, h7, h8, h9, h10⟩ hs
    refine ⟨g, ys, F1, F3, cur, h1, rfl, by rw [hs g (by simp)]; exact h3, h4, h5, h6, h7, h8, fun k hk => ?_, fun w'' G x' ho hh => h10 w'' G x' ho (fun k hk => (hh k hk).trans (hs k (by simp only [List.mem_cons]; exact .inr hk)))⟩
    have := h9 k hk
    have e1 := hs k (by simp only [List.mem_cons]; exact .inr hk)
    have : (w'.heap[k]?).isSome := by rw [e1]; simp [this]
    by_cases hc : k < w'.heap.size
    · exact hc
    · rw [Array.getElem?_eq_none (by omega)] at this; simp at this
  lt := by
    rintro w F ⟨g, ys, F1, F3, cur, h1, rfl, h3, h4, h5, h6, h7, h8, h9, h10⟩ k hk
    rw [List.mem_cons] at hk
    rcases hk with rfl | hk
    · exact (Array.getElem?_eq_some_iff.1 h3).1
    · exact h9 k hk

/-- The row's element taken apart: its one slice stands by itself. -/
theorem SAT.open1 {α β : Type} [Rp α] [Rp β] {γ : List Nat} {w : World} {e : TypeId} {xs : List α} {d : Option Addr} {cap : Nat} {j : Int} {x : α} (h : SAT A W0 γ bx (SlRes e xs d cap :: Rr) w) (hx : idx xs j = some x) (cells : Option Addr → Nat → List Value) (sub : List β)
    (hown : ∀ w F c, Rp.own w F x c → ∃ (e1 : TypeId) (a1 : Option Addr) (c1 : Nat), c = cells a1 c1 ∧ SlOwn e1 w F sub a1 c1) :
    ∃ (e1 : TypeId) (a1 : Option Addr) (c1 : Nat), SAT A W0 γ bx (HoleRes e xs d cap j.toNat (cells a1 c1) :: SlRes e1 sub a1 c1 :: Rr) w := by
  obtain ⟨h0, h1, h2⟩ := idx_some hx
  have h' : SAT A W0 γ bx ([SlRes e xs d cap] ++ Rr) w := h
  obtain ⟨Fs, hF, hnd, hlt, hback⟩ := h'.swapM
  obtain ⟨FX, Fs', rfl, b3, b4⟩ := hF
  simp only [holdsAll] at b4
  subst b4
  have b3' : SlOwn e w FX xs d cap := b3
  rcases b3' with ⟨rfl, _, _⟩ | ⟨g, ys, F', cur, rfl, rfl, c1, c2, c3, c4, c5, c6⟩
  · simp at h2
  · obtain ⟨F1, F2, F3, c, k1, k2, k3, k4⟩ := ownL_set c1 h2
    have hcl := Rp.own_len k2
    obtain ⟨e1, a1, cc, rfl, ho⟩ := hown w F2 c k2
    have hyl := ownL_len c1
    have hj : j.toNat < xs.length := (List.getElem?_eq_some_iff.1 h2).1
    have hspan : (j.toNat + 1) * Rp.sz α ≤ xs.length * Rp.sz α := Nat.mul_le_mul_right _ hj
    rw [Nat.succ_mul] at hspan
    refine ⟨e1, a1, cc, ?_⟩
    have hltF := ownL_lt c1
    simp only [List.flatten_cons, List.flatten_nil, List.append_nil] at hnd hlt hback
    rw [k1] at hnd hlt hltF
    refine hback w [HoleRes e xs (some ⟨g, 0, none⟩) cap j.toNat (cells a1 cc), SlRes e1 sub a1 cc] [g :: (F1 ++ F3), F2] rfl rfl rfl (Nat.le_refl _) ⟨_, _, rfl, ⟨g, ys, F1, F3, cur, rfl, rfl, c2, c3, c4, c5, c6, k3, fun k hk => hltF k (by simp only [List.mem_append] at hk ⊢; rcases hk with hk | hk; exact .inl hk; exact .inr (.inr hk)), ?_⟩, _, _, rfl, ho, rfl⟩ ?_ ?_ (fun _ _ _ => rfl)
    · intro w' G x' ho' hh
      have := k4 w' G x' _ ho' hh
      have e2 : List.take (j.toNat * Rp.sz α) ys ++ (cells a1 cc ++ List.drop (j.toNat * Rp.sz α + Rp.sz α) ys) = ys := by
        apply List.ext_getElem?
        intro q
        generalize hJ : j.toNat * Rp.sz α = J at *
        by_cases q1 : q < J
        · rw [List.getElem?_append_left (by simp; omega), List.getElem?_take, if_pos q1]
        · rw [List.getElem?_append_right (by simp; omega), List.length_take, Nat.min_eq_left (by omega)]
          by_cases q2 : q < J + Rp.sz α
          · rw [List.getElem?_append_left (by omega), ← k3 (q - J) (by omega)]
            congr 1; omega
          · rw [List.getElem?_append_right (by omega), List.getElem?_drop]
            congr 1; omega
      rwa [e2] at this
    · simp only [List.flatten_cons, List.flatten_nil, List.append_nil]
      have pm : ((g :: (F1 ++ F3)) ++ F2).Perm (g :: (F1 ++ (F2 ++ F3))) := by
        simp only [List.cons_append]
        refine List.Perm.cons g ?_
        rw [List.append_assoc]
        exact List.Perm.append_left F1 List.perm_append_comm
      exact pm.nodup_iff.2 hnd
    · intro q hq
      refine .inl ?_
      rw [k1]
      simp only [List.flatten_cons, List.flatten_nil, List.append_nil, List.mem_append, List.mem_cons] at hq ⊢
      rcases hq with (rfl | hq | hq) | hq
      · exact .inl rfl
      · exact .inr (.inl hq)
      · exact .inr (.inr (.inr hq))
      · exact .inr (.inr (.inl hq))

theorem SAT.close1 {α β : Type} [Rp α] [Rp β] {γ : List Nat} {w : World} {e e1 : TypeId} {xs : List α} {d : Option Addr} {cap : Nat} {j : Nat} {x' : α} {cs : List Value} {sub : List β} {a1 : Option Addr} {c1 : Nat} (h : SAT A W0 γ bx (SlRes e1 sub a1 c1 :: HoleRes e xs d cap j cs :: Rr) w)
    (hown : ∀ w F, SlOwn e1 w F sub a1 c1 → Rp.own w F x' cs) : SAT A W0 γ bx (SlRes e (xs.set j x') d cap :: Rr) w := by
  have h' : SAT A W0 γ bx ([SlRes e1 sub a1 c1, HoleRes e xs d cap j cs] ++ Rr) w := h
  obtain ⟨Fs, hF, hnd, hlt, hback⟩ := h'.swapE
  obtain ⟨F2, _, rfl, b1, FH, _, rfl, ⟨g, ys, F1, F3, cur, rfl, rfl, h3, h4, h5, h6, h7, h8, h9, h10⟩, b2⟩ := hF
  simp only [holdsAll] at b2
  subst b2
  have b1' : SlOwn e1 w F2 sub a1 c1 := b1
  have hL := h10 w F2 x' (hown w F2 b1') (fun _ _ => rfl)
  have pm : (F2 ++ (g :: (F1 ++ F3))).Perm (g :: (F1 ++ (F2 ++ F3))) := by
    refine List.perm_middle.trans (List.Perm.cons g ?_)
    rw [← List.append_assoc, ← List.append_assoc]
    exact List.Perm.append_right F3 List.perm_append_comm
  simp only [List.flatten_cons, List.flatten_nil, List.append_nil] at hnd hback
  refine hback w _ (g :: (F1 ++ (F2 ++ F3))) rfl rfl rfl (Nat.le_refl _) (.inr ⟨g, ys, _, cur, rfl, rfl, hL, h3, by simpa using h4, h5, h6, by simpa using h7⟩) (pm.nodup_iff.1 hnd) (fun k hk => .inl (pm.mem_iff.2 hk)) (fun _ _ _ => rfl)

theorem JO_open1 {α β : Type} [Rp α] [Rp β] {l : List Oper} {e : TypeId} {xs : List α} {d : Option Addr} {cap : Nat} {j : Int} {x : α} (hR : R = SlRes e xs d cap :: Rr) (hx : idx xs j = some x) (cells : Option Addr → Nat → List Value) (sub : List β)
    (hown : ∀ w F c, Rp.own w F x c → ∃ (e1 : TypeId) (a1 : Option Addr) (c1 : Nat), c = cells a1 c1 ∧ SlOwn e1 w F sub a1 c1)
    (k : ∀ e1 a1 c1, JO P A W0 n ops l sl bx (HoleRes e xs d cap j.toNat (cells a1 c1) :: SlRes e1 sub a1 c1 :: Rr) Q) : JO P A W0 n ops l sl bx R Q := by
  subst hR
  intro γ a w hl hs
  obtain ⟨e1, a1, c1, h⟩ := hs.open1 hx cells sub hown
  exact k e1 a1 c1 γ a w hl h

theorem JO_close1 {α β : Type} [Rp α] [Rp β] {l : List Oper} {e e1 : TypeId} {xs xs' : List α} {d : Option Addr} {cap : Nat} {j : Nat} {x' : α} {cs : List Value} {sub : List β} {a1 : Option Addr} {c1 : Nat} (hR : R = SlRes e1 sub a1 c1 :: HoleRes e xs d cap j cs :: Rr)
    (hown : ∀ w F, SlOwn e1 w F sub a1 c1 → Rp.own w F x' cs) (hs' : xs' = xs.set j x') (k : JO P A W0 n ops l sl bx (SlRes e xs' d cap :: Rr) Q) : JO P A W0 n ops l sl bx R Q := by
  subst hR hs'
  exact fun γ a w hl hs => k γ a w hl (hs.close1 hown)

theorem SAT.holeCells {α : Type} [Rp α] {γ : List Nat} {w : World} {e : TypeId} {xs : List α} {d : Option Addr} {cap : Nat} {j : Int} {x : α} {cs : List Value} (h : SAT A W0 γ bx R w) (i : Nat) (hi : R[i]? = some (HoleRes e xs d cap j.toNat cs)) (hx : idx xs j = some x) (hc : cs.length = Rp.sz α) :
    d ≠ none ∧ CellsAt w d (j.toNat * Rp.sz α) cs := by
  obtain ⟨h0, h1, h2⟩ := idx_some hx
  have hj : j.toNat < xs.length := (List.getElem?_eq_some_iff.1 h2).1
  obtain ⟨Fs, hF, _⟩ := h.own
  obtain ⟨F, g, ys, F1, F3, cur, rfl, rfl, g3, g4, g5, g6, g7, g8, g9, g10⟩ := holdsAll_mem hF hi
  have hspan : (j.toNat + 1) * Rp.sz α ≤ xs.length * Rp.sz α := Nat.mul_le_mul_right _ hj
  rw [Nat.succ_mul] at hspan
  refine ⟨by simp, fun q u hu => ⟨_, rfl, ?_⟩⟩
  have hq := (List.getElem?_eq_some_iff.1 hu).1
  rw [cell_of_row w g _ _ _ _ g3]
  have := g8 q (by omega)
  rw [hu, ← g7, List.getElem?_take, if_pos (by omega)] at this
  simpa using this

theorem SlView.nilE {α : Type} [Rp α] {w : World} {l : List α} {cap : Nat} (h : SlView w l none cap) : l = [] := by
  cases l with
  | nil => rfl
  | cons x l => exact absurd rfl (h.ne (j := 0) (x := x) (by simp))

end
end Go.Pen
