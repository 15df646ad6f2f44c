/-
  Cursors: a struct of three cells behind a pointer that one function hands to the next; each may turn it.
-/
import Derived.Test.YtlbmppekoblniaaPenJ
namespace Go.Pen
open Go.RowKit
set_option linter.unusedVariables false

/-- What a cursor holds. -/
structure CurD where
  b : List U8
  i : Int
  h : Int

def curCells (x : CurD) (a : Option Addr) (c : Nat) : List Value := [.slice a x.b.length c, .int .i64 x.i, .int .i64 x.h]

/-- The cursor at p, whose bytes lie at a. -/
def CurRes (e : TypeId) (x : CurD) (p a : Option Addr) (c : Nat) : Res where
  holds w F := ∃ g, p = some ⟨g, 0, none⟩ ∧ F = [g] ∧ w.heap[g]? = some (.cells (curCells x a c).toArray e (0, 0))
  stable := by
    rintro w w' F ⟨g, h1, rfl, h3⟩ hs
    exact ⟨g, h1, rfl, by rw [hs g (by simp)]; exact h3⟩
  lt := by
    rintro w F ⟨g, h1, rfl, h3⟩ k hk
    simp only [List.mem_singleton] at hk
    subst hk
    exact (Array.getElem?_eq_some_iff.1 h3).1

/-- A slice that is seen, outside of what may turn. -/
def Seen (A : Nat → Prop) {α : Type} [Rp α] (W0 : World) (l : List α) (a : Option Addr) (c : Nat) : Prop := SlView W0 l a c ∧ ∀ d, a = some d → l ≠ [] → ¬ A d.block

section
variable {P : Program} {A : Nat → Prop} {W0 : World} {n : Nat} {ops : Array Oper} {sl sl' : List (Nat × SV)} {bx bx' : List (TypeId × List Value)} {R R' Rc Rr : List Res} {Q Q' : Exit → Act → World → Prop}

theorem SAT.cur {γ : List Nat} {w : World} (h : SAT A W0 γ bx R w) (i : Nat) {e : TypeId} {x : CurD} {p a : Option Addr} {c : Nat} (hi : R[i]? = some (CurRes e x p a c)) : p ≠ none ∧ CellsAt w p 0 (curCells x a c) := by
  obtain ⟨Fs, hF, _, _⟩ := h.own
  obtain ⟨F, hh⟩ := holdsAll_mem hF hi
  obtain ⟨g, rfl, _, h3⟩ := hh
  refine ⟨by simp, fun j u hu => ⟨_, rfl, ?_⟩⟩
  rw [cell_of_row w g _ _ _ _ h3]
  simpa using hu

theorem SlView.lt {α : Type} [Rp α] {w : World} {l : List α} {d : Addr} {c : Nat} (h : SlView w l (some d) c) (hne : l ≠ []) : d.block < w.heap.size := by
  obtain ⟨xs, hx, hc⟩ := h.cells
  cases l with
  | nil => exact absurd rfl hne
  | cons y l =>
    obtain ⟨c1, c2, rfl, h1, h2⟩ := hx
    have hl := Rp.view_len h1
    have hp : 0 < Rp.sz α := Rp.pos
    obtain ⟨u, hu⟩ : ∃ u, (c1 ++ c2)[0]? = some u := ⟨_, List.getElem?_eq_getElem (by simp; omega)⟩
    obtain ⟨d', hd, hcell⟩ := hc 0 u hu
    simp only [Option.some.injEq] at hd
    subst hd
    exact World.block_lt_of_cell? w (a := ⟨d.block, d.off + (0 + 0), none⟩) hcell

theorem SlView.keptA {α : Type} [Flat α] {W0 w : World} {l : List α} {a : Option Addr} {c : Nat} (h : SlView W0 l a c) (hA : ∀ d, a = some d → l ≠ [] → ¬ A d.block) (hk : Kept A W0 w) : SlView w l a c := by
  obtain ⟨xs, hx, hc⟩ := h.cells
  have hx' := viewL_enc hx
  subst hx'
  refine ⟨h.spot, ⟨encL l, viewL_own (ownL_enc w l), fun j u hu => ?_⟩, h.nil, h.fit⟩
  obtain ⟨d, hd, hcell⟩ := hc j u hu
  have hne : l ≠ [] := fun e => by subst e; simp [encL] at hu
  refine ⟨d, hd, ?_⟩
  rw [World.cell?_of_block (w := W0) (w' := w) (hk.block _ (World.block_lt_of_cell? W0 _ hcell) (hA d hd hne))]
  exact hcell

theorem Seen.kept {α : Type} [Flat α] {W0 w : World} {l : List α} {a : Option Addr} {c : Nat} (h : Seen A W0 l a c) (hk : Kept A W0 w) : SlView w l a c := h.1.keptA h.2 hk
theorem Seen.of {α : Type} [Rp α] {W0 : World} {l : List α} {a : Option Addr} {c : Nat} (h : SlView W0 l a c) : Seen (fun _ => False) W0 l a c := ⟨h, fun _ _ _ h => h⟩

/-! ### A pointer that is none -/

def evNilq (sl : List (Nat × SV)) (o : Oper) : Option (Option Addr × Nat) :=
  match o.op with
  | .nilCheck x => match opv sl x with
    | some (.q a k) => some (a, k)
    | _ => none
  | _ => none

theorem evNilq_ok {γ : List Nat} {a : Act} {o : Oper} {d : Option Addr} {k : Nat} (hl : Live n γ sl a) (h : evNilq sl o = some (d, k)) (w : World) : (execOp a.eval o).run P w = .ok (.value ((SV.q d k).den γ)) w := by
  obtain ⟨dst, op, type, pos, after, guard⟩ := o
  unfold evNilq at h
  split at h
  · rename_i x hop
    simp only at hop
    subst hop
    split at h
    · rename_i a' k' hx
      simp only [Option.some.injEq, Prod.mk.injEq] at h
      obtain ⟨rfl, rfl⟩ := h
      simp [execOp, hl.eval hx, SV.den]
    · cases h
  · cases h

theorem JO_nilq {l rest : List Oper} {o : Oper} (hl : l = o :: rest) (hw : wantedS ops sl o = some true) {d : Option Addr} {k : Nat} (he : evNilq sl o = some (d, k)) (hp : putS n sl o.dst (.q d k) = some sl') (K : JO P A W0 n ops rest sl' bx R Q) : JO P A W0 n ops l sl bx R Q := by
  subst hl
  intro γ a w hl hs
  unfold wpList
  rw [if_pos (wantedS_ok hl hw)]
  refine .inl ?_
  unfold Oper.wp
  rw [evNilq_ok hl he w]
  exact K γ _ w (hl.putS hp trivial) hs

theorem JQ_nilq {l rest : List Oper} {o : Oper} (hl : l = o :: rest) (hw : wantedS ops sl o = some true) {d : Option Addr} {k : Nat} (he : evNilq sl o = some (d, k)) (hp : putS n sl o.dst (.q d k) = some sl') (K : JQ P A W0 n ops rest sl' bx R Q) : JQ P A W0 n ops l sl bx R Q := by
  subst hl
  intro γ a hl hg
  unfold wpQuiet
  rw [if_pos (wantedS_ok hl hw)]
  refine ⟨_, fun w hs => ?_, K γ _ (hl.putS hp trivial) hg⟩
  unfold Oper.quietAt
  rw [evNilq_ok hl he w]
  exact ⟨rfl, rfl⟩

/-! ### A cell of a cursor written -/

theorem JO_cstore {l rest : List Oper} {o : Oper} (hl : l = o :: rest) (hw : wantedS ops sl o = some true) {e : TypeId} {x x' : CurD} {p a0 : Option Addr} {c : Nat} (off : Nat) {vs : List Value} (he : evStoreq P sl o = some (p, off, vs)) (hfit : Nat.ble (off + vs.length) 3 = true)
    (hx : writeAt (curCells x a0 c) off vs = curCells x' a0 c) (hR : R = CurRes e x p a0 c :: Rr) (hp : putS n sl o.dst (.v undef) = some sl') (k : JO P A W0 n ops rest sl' bx (CurRes e x' p a0 c :: Rr) Q) : JO P A W0 n ops l sl bx R Q := by
  subst hl hR
  intro γ a w hl hs
  have hs2 : SAT A W0 γ bx ([CurRes e x p a0 c] ++ Rr) w := hs
  obtain ⟨Fs, hF, hnd, hlt, hback⟩ := hs2.swapE
  obtain ⟨F1, Fs', rfl, ⟨g, rfl, rfl, h3⟩, h4⟩ := hF
  simp only [holdsAll] at h4
  subst h4
  have hfit' := Nat.le_of_ble_eq_true hfit
  have hrun := evStoreq_ok (w := w) (cur := (curCells x a0 c).toArray) (e := e) hl he h3 (by simp [curCells]; omega)
  rw [Nat.zero_add] at hrun
  unfold wpList
  rw [if_pos (wantedS_ok hl hw)]
  refine .inl ?_
  unfold Oper.wp
  rw [hrun]
  refine k γ _ _ (hl.putS hp trivial) ?_
  refine hback _ _ [g] rfl rfl rfl (by simp) ⟨g, rfl, rfl, ?_⟩ (by simp) (fun q hq => .inl (by simpa using hq)) (fun q hq hne => setRow_other w g q _ (fun h => hne (by simp [h])))
  rw [setRow_heap w g _ _ e _ h3]
  have : (curCells x a0 c).toArray.toList.take off ++ vs ++ (curCells x a0 c).toArray.toList.drop (off + vs.length) = writeAt (curCells x a0 c) off vs := by simp [writeAt]
  rw [this, hx]

/-! ### A new cursor -/

def evBox (P : Program) (sl : List (Nat × SV)) (o : Oper) : Option (TypeId × List Value) :=
  match o.op with
  | .box e x => (opV sl x).map fun v => (e, v.cells.toList)
  | _ => none

theorem JO_newcur {l rest : List Oper} {o : Oper} (hl : l = o :: rest) (hw : wantedS ops sl o = some true) {e : TypeId} {x : CurD} {a0 : Option Addr} {c : Nat} {cs : List Value} (he : evBox P sl o = some (e, cs)) (hx : cs = curCells x a0 c) (slF : Option Addr × Nat → List (Nat × SV))
    (hp : ∀ y : Option Addr × Nat, putS n sl o.dst (.q y.1 0) = some (slF y)) (k : ∀ y : Option Addr × Nat, JO P A W0 n ops rest (slF y) bx (CurRes e x y.1 a0 c :: R) Q) : JO P A W0 n ops l sl bx R Q := by
  subst hl hx
  intro γ a w hl hs
  have hrun : (execOp a.eval o).run P w = .ok (.value (.pointer (some ⟨w.heap.size, 0, none⟩))) (w.alloc (.cells (curCells x a0 c).toArray e)) := by
    obtain ⟨dst, op, type, pos, after, guard⟩ := o
    unfold evBox at he
    split at he
    · rename_i e' y hop
      simp only at hop
      subst hop
      cases hv : opV sl y with
      | none => simp [hv] at he
      | some v =>
        simp only [hv, Option.map_some, Option.some.injEq, Prod.mk.injEq] at he
        obtain ⟨rfl, h2⟩ := he
        have h3 : v.cells = (curCells x a0 c).toArray := by rw [← h2]
        simp [execOp, Instr.box, newVar, newRow, hl.evalV hv, h3]
    · cases he
  unfold wpList
  rw [if_pos (wantedS_ok hl hw)]
  refine .inl ?_
  unfold Oper.wp
  rw [hrun]
  have hden : Value.pointer (some ⟨w.heap.size, 0, none⟩) = (SV.q (some ⟨w.heap.size, 0, none⟩) 0).den γ := rfl
  rw [hden]
  refine k (some ⟨w.heap.size, 0, none⟩, 0) γ _ _ (hl.putS (hp (some ⟨w.heap.size, 0, none⟩, 0)) trivial) ?_
  have hold : ∀ k, k < w.heap.size → (w.alloc (.cells (curCells x a0 c).toArray e)).heap[k]? = w.heap[k]? := fun k hk => Below.heap_alloc w _ k hk
  have hs0 : SAT A W0 γ bx ([] ++ R) w := hs
  obtain ⟨Fs, hF, hnd, hlt, hback⟩ := hs0.swapE
  simp only [holdsAll] at hF
  subst hF
  refine hback _ _ [w.heap.size] rfl rfl rfl (by simp) ⟨w.heap.size, rfl, rfl, heap_alloc_new w _⟩ (by simp) (fun q hq => ?_) (fun q hq _ => hold q hq)
  simp only [List.mem_singleton] at hq
  subst hq
  exact .inr ⟨Nat.le_refl _, by simp⟩

/-! ### Functions that are handed a cursor -/

/-- What stands behind such a call. -/
def CurPost (g : Nat) (e : TypeId) (w : World) (x1 : CurD) (ca : Option Addr) (cc : Nat) {τ : Type} (val : τ → Value) (res : τ → List Res) (en : Ending) (w' : World) : Prop :=
  ∃ y, en = .returned (val y) ∧ w'.os = w.os ∧ w'.tape = w.tape ∧ w'.output = w.output ∧ w.heap.size ≤ w'.heap.size ∧ (∀ k, k < w.heap.size → k ≠ g → w'.heap[k]? = w.heap[k]?) ∧
    w'.heap[g]? = some (.cells (curCells x1 ca cc).toArray e (0, 0)) ∧ ∃ Fs, holdsAll w' (res y) Fs ∧ Fs.flatten.Nodup ∧ ∀ q ∈ Fs.flatten, w.heap.size ≤ q ∧ q < w'.heap.size

def GivesC (P : Program) (e : TypeId) (f : FuncId) (args : Array Value) (w : World) (x0 : CurD) (p ca : Option Addr) (cc : Nat) (x1 : CurD) {τ : Type} (val : τ → Value) (res : τ → List Res) : Prop :=
  ∀ g, p = some ⟨g, 0, none⟩ → w.heap[g]? = some (.cells (curCells x0 ca cc).toArray e (0, 0)) → (∀ d, ca = some d → x0.b ≠ [] → d.block ≠ g) → Calls P f args w (CurPost g e w x1 ca cc val res)

theorem enterC {f : FuncId} {fn : Func} {c : Code} {e : TypeId} (svs : List SV) {args : List Value} {W : World} {x0 x1 : CurD} {p ca : Option Addr} {cc : Nat} {τ : Type} {val : τ → Value} {res : τ → List Res} (hv : SlView W x0.b ca cc) (hd : svs.map (SV.den []) = args) (hpl : svs.all plainSV = true) (hf : P.funcs[f]? = some fn) (hb : fn.body = some c) (hn : fn.ntmps = n) (hsz : Nat.ble args.length n = true)
    (h : ∀ g, p = some ⟨g, 0, none⟩ → Seen (fun k => k = g) W x0.b ca cc → JC P (fun k => k = g) W n c (argSV 0 svs) [] [CurRes e x0 p ca cc] (bodyPost P fn (CurPost g e W x1 ca cc val res))) : GivesC P e f args.toArray W x0 p ca cc x1 val res := by
  intro g hp hg hap
  have hsz' := Nat.le_of_ble_eq_true hsz
  have hnp : ∀ t x, look (argSV 0 svs) t = some x → plainSV x = true := fun t x hx => by
    obtain ⟨_, hv⟩ := look_argSV _ _ _ _ hx
    exact List.all_eq_true.1 hpl x (List.mem_of_getElem? hv)
  refine calls_of_wp hf hb (h g hp ⟨hv, fun d hd hne he => hap d hd hne he⟩ [] _ W ⟨rfl, by simp [hn]; omega, fun t x hx => ?_, fun t x hx => ?_⟩ ⟨Kept.refl _ _, rfl, by intro k e cs hk; simp at hk, [[g]], ⟨[g], [], rfl, ⟨g, hp, rfl, hg⟩, rfl⟩, by simp, fun q hq => ?_⟩)
  · obtain ⟨_, hv⟩ := look_argSV _ _ _ _ hx
    simp only [Nat.sub_zero] at hv
    have hv2 : args[t]? = some (x.den []) := by rw [← hd]; simp [hv]
    have hlt := (List.getElem?_eq_some_iff.1 hv2).1
    rw [Array.getElem?_append]
    have hv' := (List.getElem?_eq_some_iff.1 hv2).2
    simp [hlt, hv']
  · have := hnp t x hx
    cases x with
    | v y => trivial
    | q a k => trivial
    | p k off => simp [plainSV] at this
    | f i ks => simp [plainSV] at this
  · simp only [List.nil_append, List.flatten_cons, List.flatten_nil, List.append_nil, List.mem_singleton] at hq
    subst hq
    exact ⟨(Array.getElem?_eq_some_iff.1 hg).1, .inr rfl⟩

/-- The end of such a function. -/
theorem SAT.curPost {g : Nat} {e : TypeId} {W : World} {x1 : CurD} {p ca : Option Addr} {cc : Nat} {γ : List Nat} {w : World} {τ : Type} {val : τ → Value} {res : τ → List Res} (hp : p = some ⟨g, 0, none⟩) (h : SAT (fun k => k = g) W γ bx R w) (y : τ) {is : List Nat} (ht : Pen.takeR is R = some (CurRes e x1 p ca cc :: res y)) : CurPost g e W x1 ca cc val res (.returned (val y)) w := by
  have h' := h.takeR ht
  obtain ⟨Fs', h1, h2, h3⟩ := h'.own
  obtain ⟨F, Fs, rfl, ⟨g', hg', rfl, hc⟩, h5⟩ := h1
  rw [hp] at hg'
  simp only [Option.some.injEq, Addr.mk.injEq, and_true] at hg'
  subst hg'
  rw [List.nodup_append] at h2
  have h6 := h2.2.1
  rw [List.flatten_cons, List.nodup_append] at h6
  refine ⟨y, rfl, h.kept.os, h.kept.tape, h.kept.output, h.kept.size, fun k hk hne => h.kept.block k hk hne, hc, Fs, h5, h6.2.1, fun q hq => ?_⟩
  have := h3 q (by simp only [List.mem_append, List.flatten_cons]; exact .inr (.inr hq))
  refine ⟨?_, this.1⟩
  rcases this.2 with hh | hh
  · exact hh
  · exact absurd hh.symm (fun e => h6.2.2 g (by simp) q hq e)

/-- A call that is handed a cursor. -/
theorem JO_callC {l rest : List Oper} {o : Oper} (hl : l = o :: rest) (hw : wantedS ops sl o = some true) {f : FuncId} {args : List Nat → Array Value} (hc : ∀ γ, evCallD P sl γ o = some (f, args γ)) {e : TypeId} {x0 x1 : CurD} {p ca : Option Addr} {cc : Nat} {τ : Type} {val : τ → Value} {res : τ → List Res}
    (hR : R = CurRes e x0 p ca cc :: Rr) (hv : Seen A W0 x0.b ca cc) (h : ∀ γ w, SAT A W0 γ bx R w → GivesC P e f (args γ) w x0 p ca cc x1 val res) (slF : τ → List (Nat × SV)) (hp : ∀ y, putS n sl o.dst (.v (val y)) = some (slF y))
    (k : ∀ y, JO P A W0 n ops rest (slF y) bx (res y ++ CurRes e x1 p ca cc :: Rr) Q) : JO P A W0 n ops l sl bx R Q := by
  subst hl hR
  intro γ a w hl hs
  unfold wpList
  rw [if_pos (wantedS_ok hl hw)]
  refine .inl ?_
  unfold Oper.wp
  rw [evCallD_ok hl (hc γ) w]
  have hs2 : SAT A W0 γ bx ([CurRes e x0 p ca cc] ++ Rr) w := hs
  obtain ⟨Fs0, ho1, ho2, ho3⟩ := hs.own
  obtain ⟨Fs, h1, h2, h3, hback⟩ := hs2.swapM
  obtain ⟨F, Fs', rfl, ⟨g, hg, rfl, hc3⟩, h5⟩ := h1
  simp only [holdsAll] at h5
  subst h5
  have hgA : W0.heap.size ≤ g ∨ A g := by
    obtain ⟨F, Fs', rfl, ⟨g', hg', rfl, _⟩, _⟩ := ho1
    rw [hg] at hg'
    simp only [Option.some.injEq, Addr.mk.injEq, and_true] at hg'
    subst hg'
    exact (ho3 g (by simp)).2
  refine (h γ w hs g hg hc3 (fun d hd hne he => ?_)).mono ?_
  · subst hd
    rcases hgA with hh | hh
    · have := hv.1.lt hne
      omega
    · exact hv.2 d rfl hne (he ▸ hh)
  rintro en w' ⟨y, rfl, t1, t2, t3, t4, t5, t6, Gs, t7, t8, t9⟩
  refine k y γ _ w' (hl.putS (hp y) trivial) ?_
  have := hback w' (res y ++ [CurRes e x1 p ca cc]) (Gs ++ [[g]]) t1 t2 t3 t4 (holdsAll_append t7 ⟨[g], [], rfl, ⟨g, hg, rfl, t6⟩, rfl⟩) ?_ ?_ ?_
  · simpa using this
  · rw [List.flatten_append, List.nodup_append]
    refine ⟨t8, by simp, fun q hq q' hq' he => ?_⟩
    simp only [List.flatten_cons, List.flatten_nil, List.append_nil, List.mem_singleton] at hq'
    have a1 := (t9 q hq).1
    have a2 := h3 g (by simp)
    omega
  · intro q hq
    simp only [List.flatten_append, List.flatten_cons, List.flatten_nil, List.append_nil, List.mem_append, List.mem_singleton] at hq ⊢
    rcases hq with hq | hq
    · exact .inr (t9 q hq)
    · exact .inl hq
  · intro k hk hne
    exact t5 k hk (fun e => hne (by simp [e]))

/-- A call that gives a new cursor. -/
theorem JO_callN {l rest : List Oper} {o : Oper} (hl : l = o :: rest) (hw : wantedS ops sl o = some true) {f : FuncId} {args : Array Value} (hc : evCall P sl o = some (f, args)) {e : TypeId} {x : CurD} {ca : Option Addr} {cc : Nat}
    (h : ∀ γ w, SAT A W0 γ bx R w → Gives P f args w (fun y : Option Addr × Nat => (SV.q y.1 0).den []) (fun y => [CurRes e x y.1 ca cc])) (slF : Option Addr × Nat → List (Nat × SV)) (hp : ∀ y : Option Addr × Nat, putS n sl o.dst (.q y.1 0) = some (slF y))
    (k : ∀ y : Option Addr × Nat, JO P A W0 n ops rest (slF y) bx (CurRes e x y.1 ca cc :: R) Q) : JO P A W0 n ops l sl bx R Q := by
  subst hl
  intro γ a w hl hs
  unfold wpList
  rw [if_pos (wantedS_ok hl hw)]
  refine .inl ?_
  unfold Oper.wp
  rw [evCall_ok hl hc w]
  refine (h γ w hs).mono ?_
  rintro e w' ⟨y, rfl, hb, hf⟩
  exact k y γ _ w' (hl.putS (hp y) trivial) (hs.call hb hf)

/-- A slot that holds a place holds a value. -/
theorem JE_q1 {ex : Exit} {t : Nat} {d : Option Addr} {k : Nat} (h : JE A W0 n ex [(t, .v ((SV.q d k).den []))] bx R Q) : JE A W0 n ex [(t, .q d k)] bx R Q := by
  intro γ a w hl hs
  refine h γ a w ⟨hl.defers, hl.size, fun t' x hx => ?_, fun t' x hx => ?_⟩ hs
  · have h2 := hl.slot t' (.q d k)
    simp only [look] at hx h2
    cases hb : Nat.beq t t' with
    | false => rw [hb] at hx; cases hx
    | true =>
      rw [hb] at hx h2
      simp only [cond_true, Option.some.injEq] at hx
      subst hx
      exact h2 rfl
  · simp only [look] at hx
    cases hb : Nat.beq t t' with
    | false => rw [hb] at hx; cases hx
    | true =>
      rw [hb] at hx
      simp only [cond_true, Option.some.injEq] at hx
      subst hx
      trivial

theorem holdsAll_at {w : World} : ∀ {R : List Res} {Fs : List (List Nat)} {i : Nat} {r : Res}, holdsAll w R Fs → R[i]? = some r → ∃ F, Fs[i]? = some F ∧ r.holds w F
  | [], _, i, r, _, hi => by simp at hi
  | q :: R, Fs, 0, r, ⟨F, Fs', hF, h1, h2⟩, hi => by
    simp only [List.getElem?_cons_zero, Option.some.injEq] at hi
    subst hi hF
    exact ⟨F, rfl, h1⟩
  | q :: R, Fs, i + 1, r, ⟨F, Fs', hF, h1, h2⟩, hi => by
    simp only [List.getElem?_cons_succ] at hi
    subst hF
    obtain ⟨F', a, b⟩ := holdsAll_at h2 hi
    exact ⟨F', by simpa only [List.getElem?_cons_succ] using a, b⟩

theorem flatten_apart {x : Nat} : ∀ {Fs : List (List Nat)} {i j : Nat} {F G : List Nat}, Fs.flatten.Nodup → Fs[i]? = some F → Fs[j]? = some G → i < j → x ∈ F → x ∈ G → False
  | [], i, _, _, _, _, hi, _, _, _, _ => by simp at hi
  | H :: Fs, 0, j + 1, F, G, hn, hi, hj, _, hF, hG => by
    simp only [List.getElem?_cons_zero, Option.some.injEq] at hi
    simp only [List.getElem?_cons_succ] at hj
    subst hi
    rw [List.flatten_cons, List.nodup_append] at hn
    exact hn.2.2 x hF x (List.mem_flatten.2 ⟨G, List.mem_of_getElem? hj, hG⟩) rfl
  | H :: Fs, i + 1, j + 1, F, G, hn, hi, hj, hij, hF, hG => by
    simp only [List.getElem?_cons_succ] at hi hj
    rw [List.flatten_cons, List.nodup_append] at hn
    exact flatten_apart hn.2.1 hi hj (by omega) hF hG

/-- An owned row is apart from a cursor. -/
theorem SAT.seenR {α : Type} [Rp α] {γ : List Nat} {w : World} (h : SAT A W0 γ bx R w) (i j : Nat) {e e2 : TypeId} {x : CurD} {p a a2 : Option Addr} {c c2 : Nat} {l : List α} (hi : R[i]? = some (CurRes e x p a c)) (hj : R[j]? = some (SlRes e2 l a2 c2)) (hij : Nat.blt i j = true) : Seen (fun k => p = some ⟨k, 0, none⟩) w l a2 c2 := by
  refine ⟨h.view j hj, fun d hd hne hp => ?_⟩
  obtain ⟨Fs, h1, h2, _⟩ := h.own
  obtain ⟨F, a1, g, hg, rfl, _⟩ := holdsAll_at h1 hi
  obtain ⟨G, b1, b2⟩ := holdsAll_at h1 hj
  have b2' : SlOwn e2 w G l a2 c2 := b2
  rcases b2' with ⟨rfl, _⟩ | ⟨g', xs, F', cur, ha, rfl, _⟩
  · exact hne rfl
  · rw [hd] at ha
    rw [hg] at hp
    simp only [Option.some.injEq, Addr.mk.injEq, and_true] at ha hp
    subst ha
    simp only at hp
    subst hp
    have hlt : i < j := by simp only [Nat.blt, Nat.ble_eq] at hij; omega
    exact flatten_apart (x := g) (List.nodup_append.1 h2).2.1 a1 b1 hlt (by simp) (by simp)

/-- A slice that is seen is apart from a cursor. -/
theorem SAT.seenV {α : Type} [Flat α] {γ : List Nat} {w : World} (h : SAT A W0 γ bx R w) (i : Nat) {e : TypeId} {x : CurD} {p a a2 : Option Addr} {c c2 : Nat} {l : List α} (hi : R[i]? = some (CurRes e x p a c)) (hv : Seen A W0 l a2 c2) : Seen (fun k => p = some ⟨k, 0, none⟩) w l a2 c2 := by
  refine ⟨hv.kept h.kept, fun d hd hne hp => ?_⟩
  obtain ⟨Fs, h1, h2, h3⟩ := h.own
  obtain ⟨F, a1, g, hg, rfl, _⟩ := holdsAll_at h1 hi
  rw [hg] at hp
  simp only [Option.some.injEq, Addr.mk.injEq, and_true] at hp
  subst hp
  have hm := h3 d.block (by
    rw [List.mem_append]
    exact .inr (List.mem_flatten.2 ⟨[d.block], List.mem_of_getElem? a1, by simp⟩))
  subst hd
  rcases hm.2 with hh | hh
  · have := hv.1.lt hne
    omega
  · exact hv.2 d rfl hne hh

theorem Seen.turn {α : Type} [Rp α] {W0 : World} {l : List α} {p a : Option Addr} {c g : Nat} (hg : p = some ⟨g, 0, none⟩) (h : Seen (fun k => p = some ⟨k, 0, none⟩) W0 l a c) : Seen (fun k => k = g) W0 l a c :=
  ⟨h.1, fun d hd hne e => h.2 d hd hne (by rw [hg, e])⟩

theorem Seen.nil {α : Type} [Rp α] (B : Nat → Prop) (w : World) : Seen B w ([] : List α) none 0 := ⟨SlView.ofNil w, fun d hd => by cases hd⟩

/-- A call that is handed a cursor, in a region that draws its order. -/
theorem JG_callC {γ : List Nat} {K : Act → World → Prop} {o : Oper} (hw : wantedS ops sl o = some true) {f : FuncId} {args : Array Value} (hc : evCallD P sl γ o = some (f, args)) {e : TypeId} {x0 x1 : CurD} {p ca : Option Addr} {cc : Nat} {τ : Type} {val : τ → Value} {res : τ → List Res}
    (hR : R = CurRes e x0 p ca cc :: Rr) (hv : Seen A W0 x0.b ca cc) (h : ∀ w, SAT A W0 γ bx R w → GivesC P e f args w x0 p ca cc x1 val res) (slF : τ → List (Nat × SV)) (hp : ∀ y, putS n sl o.dst (.v (val y)) = some (slF y))
    (k : ∀ y, KG A W0 n γ (slF y) bx (res y ++ CurRes e x1 p ca cc :: Rr) K) : JG P A W0 n ops γ o sl bx R K Q := by
  subst hR
  intro a w hl hs
  refine .inl ⟨wantedS_ok hl hw, ?_⟩
  unfold Oper.wp
  rw [evCallD_ok hl hc w]
  have hs2 : SAT A W0 γ bx ([CurRes e x0 p ca cc] ++ Rr) w := hs
  obtain ⟨Fs0, ho1, ho2, ho3⟩ := hs.own
  obtain ⟨Fs, h1, h2, h3, hback⟩ := hs2.swapM
  obtain ⟨F, Fs', rfl, ⟨g, hg, rfl, hc3⟩, h5⟩ := h1
  simp only [holdsAll] at h5
  subst h5
  have hgA : W0.heap.size ≤ g ∨ A g := by
    obtain ⟨F, Fs', rfl, ⟨g', hg', rfl, _⟩, _⟩ := ho1
    rw [hg] at hg'
    simp only [Option.some.injEq, Addr.mk.injEq, and_true] at hg'
    subst hg'
    exact (ho3 g (by simp)).2
  refine (h w hs g hg hc3 (fun d hd hne he => ?_)).mono ?_
  · subst hd
    rcases hgA with hh | hh
    · have := hv.1.lt hne
      omega
    · exact hv.2 d rfl hne (he ▸ hh)
  rintro en w' ⟨y, rfl, t1, t2, t3, t4, t5, t6, Gs, t7, t8, t9⟩
  refine k y _ w' (hl.putS (hp y) trivial) ?_
  have := hback w' (res y ++ [CurRes e x1 p ca cc]) (Gs ++ [[g]]) t1 t2 t3 t4 (holdsAll_append t7 ⟨[g], [], rfl, ⟨g, hg, rfl, t6⟩, rfl⟩) ?_ ?_ ?_
  · simpa using this
  · rw [List.flatten_append, List.nodup_append]
    refine ⟨t8, by simp, fun q hq q' hq' he => ?_⟩
    simp only [List.flatten_cons, List.flatten_nil, List.append_nil, List.mem_singleton] at hq'
    have a1 := (t9 q hq).1
    have a2 := h3 g (by simp)
    omega
  · intro q hq
    simp only [List.flatten_append, List.flatten_cons, List.flatten_nil, List.append_nil, List.mem_append, List.mem_singleton] at hq ⊢
    rcases hq with hq | hq
    · exact .inr (t9 q hq)
    · exact .inl hq
  · intro k hk hne
    exact t5 k hk (fun e => hne (by simp [e]))

end
end Go.Pen
