/-
  Slices that the call owns: made, appended to, written.
-/
import Derived.Test.YtmhjpbpdbdjiaaaDoorPenE
namespace Go.Pen
open Go.RowKit
set_option linter.unusedVariables false

section
variable {P : Program} {A : Nat → Prop} {W0 : World} {n : Nat} {ops : Array Oper} {sl sl' : List (Nat × SV)} {bx bx' : List (TypeId × List Value)} {R R' Rc Rr : List Res} {Q Q' : Exit → Act → World → Prop}

/-! ### Resources added, put in order -/

theorem SAT.addEmpty {γ : List Nat} {w : World} {r : Res} (h : SAT A W0 γ bx R w) (hr : r.holds w []) : SAT A W0 γ bx (r :: R) w := by
  obtain ⟨Fs, h1, h2, h3⟩ := h.own
  exact ⟨h.kept, h.len, h.boxes, [] :: Fs, ⟨[], Fs, rfl, hr, h1⟩, by simpa using h2, by simpa using h3⟩

theorem JO_addnil {α : Type} [Rp α] {l : List Oper} (e : TypeId) (nl : List α) (hn : nl = []) (h : JO P A W0 n ops l sl bx (SlRes e nl none 0 :: R) Q) : JO P A W0 n ops l sl bx R Q :=
  fun γ a w hl hs => h γ a w hl (hs.addEmpty (.inl ⟨hn, rfl, rfl⟩))
theorem JC_addnil {α : Type} [Rp α] {c : Code} (e : TypeId) (nl : List α) (hn : nl = []) (h : JC P A W0 n c sl bx (SlRes e nl none 0 :: R) Q) : JC P A W0 n c sl bx R Q :=
  fun γ a w hl hs => h γ a w hl (hs.addEmpty (.inl ⟨hn, rfl, rfl⟩))
theorem JE_addnil {α : Type} [Rp α] {ex : Exit} (e : TypeId) (nl : List α) (hn : nl = []) (h : JE A W0 n ex sl bx (SlRes e nl none 0 :: R) Q) : JE A W0 n ex sl bx R Q :=
  fun γ a w hl hs => h γ a w hl (hs.addEmpty (.inl ⟨hn, rfl, rfl⟩))

theorem JO_res {l : List Oper} (is : List Nat) (hR : takeR is R = some R') (h : JO P A W0 n ops l sl bx R' Q) : JO P A W0 n ops l sl bx R Q :=
  fun γ a w hl hs => h γ a w hl (hs.takeR hR)

theorem holdsAll_split {w : World} : ∀ {R1 R2 : List Res} {Fs : List (List Nat)}, holdsAll w (R1 ++ R2) Fs → ∃ F1 F2, Fs = F1 ++ F2 ∧ holdsAll w R1 F1 ∧ holdsAll w R2 F2
  | [], R2, Fs, h => ⟨[], Fs, rfl, rfl, h⟩
  | r :: R1, R2, Fs, ⟨F, Fs', hF, h1, h2⟩ => by
    obtain ⟨F1, F2, h3, h4, h5⟩ := holdsAll_split h2
    exact ⟨F :: F1, F2, by rw [hF, h3]; rfl, ⟨F, F1, rfl, h1, h4⟩, h5⟩

/-- The first resources give way to another one over their blocks and perhaps a new one. -/
theorem SAT.swapE {γ : List Nat} {w : World} (h : SAT A W0 γ bx (Rc ++ Rr) w) : ∃ Fs, holdsAll w Rc Fs ∧ Fs.flatten.Nodup ∧ (∀ g ∈ Fs.flatten, g < w.heap.size) ∧
    ∀ (w' : World) (r : Res) (F : List Nat), w'.os = w.os → w'.tape = w.tape → w'.output = w.output → w.heap.size ≤ w'.heap.size → r.holds w' F → F.Nodup →
      (∀ g ∈ F, g ∈ Fs.flatten ∨ (w.heap.size ≤ g ∧ g < w'.heap.size)) → (∀ k, k < w.heap.size → k ∉ Fs.flatten → w'.heap[k]? = w.heap[k]?) → SAT A W0 γ bx (r :: Rr) w' := by
  obtain ⟨Fs, h1, h2, h3⟩ := h.own
  obtain ⟨F1, F2, rfl, g1, g2⟩ := holdsAll_split h1
  rw [List.flatten_append, List.nodup_append, List.nodup_append] at h2
  obtain ⟨hγ, ⟨hn1, hn2, hd12⟩, hdγ⟩ := h2
  have lt : ∀ g, g ∈ γ ∨ g ∈ F1.flatten ∨ g ∈ F2.flatten → g < w.heap.size ∧ (W0.heap.size ≤ g ∨ A g) := fun g hg => h3 g (by simp only [List.flatten_append, List.mem_append]; exact hg)
  refine ⟨F1, g1, hn1, fun g hg => (lt g (.inr (.inl hg))).1, fun w' r F os tape out size hF hFn hFm hkeep => ?_⟩
  have hz := h.kept.size
  have keep2 : ∀ g ∈ F2.flatten, w'.heap[g]? = w.heap[g]? := fun g hg => hkeep g (lt g (.inr (.inr hg))).1 (fun hm => hd12 g hm g hg rfl)
  have keepγ : ∀ g ∈ γ, w'.heap[g]? = w.heap[g]? := fun g hg => hkeep g (lt g (.inl hg)).1 (fun hm => hdγ g hg g (by simp [hm]) rfl)
  refine ⟨h.kept.trans_of os tape out size ?_, h.len, ?_, F :: F2, ⟨F, F2, rfl, hF, holdsAll_stable g2 keep2⟩, ?_, ?_⟩
  · intro k hk hA
    refine hkeep k (Nat.lt_of_lt_of_le hk hz) (fun hm => ?_)
    rcases (lt k (.inr (.inl hm))).2 with h4 | h4
    · omega
    · exact hA h4
  · intro k e cs hk
    have hkg : k < γ.length := by rw [h.len]; exact (List.getElem?_eq_some_iff.1 hk).1
    have hm : γ.getD k 0 ∈ γ := by
      simp only [List.getD_eq_getElem?_getD, List.getElem?_eq_getElem hkg, Option.getD_some]; exact List.getElem_mem _
    rw [keepγ _ hm]
    exact h.boxes k e cs hk
  · rw [List.flatten_cons, List.nodup_append, List.nodup_append]
    refine ⟨hγ, ⟨hFn, hn2, ?_⟩, ?_⟩
    · intro x hx y hy e
      subst e
      rcases hFm x hx with hm | hm
      · exact hd12 x hm x hy rfl
      · have := (lt x (.inr (.inr hy))).1; omega
    · intro x hx y hy e
      subst e
      rw [List.mem_append] at hy
      rcases hy with hy | hy
      · rcases hFm x hy with hm | hm
        · exact hdγ x hx x (by simp [hm]) rfl
        · have := (lt x (.inl hx)).1; omega
      · exact hdγ x hx x (by simp only [List.mem_append]; exact .inr hy) rfl
  · intro g hg
    simp only [List.flatten_cons, List.mem_append] at hg
    rcases hg with hg | hg | hg
    · have := lt g (.inl hg); exact ⟨Nat.lt_of_lt_of_le this.1 size, this.2⟩
    · rcases hFm g hg with hm | hm
      · have := lt g (.inr (.inl hm)); exact ⟨Nat.lt_of_lt_of_le this.1 size, this.2⟩
      · exact ⟨hm.2, .inl (by omega)⟩
    · have := lt g (.inr (.inr hg)); exact ⟨Nat.lt_of_lt_of_le this.1 size, this.2⟩

theorem SAT.swap {γ : List Nat} {w w' : World} {r : Res} (h : SAT A W0 γ bx (Rc ++ Rr) w) (os : w'.os = w.os) (tape : w'.tape = w.tape) (out : w'.output = w.output) (size : w.heap.size ≤ w'.heap.size)
    (hc : ∀ Fs, holdsAll w Rc Fs → Fs.flatten.Nodup → (∀ g ∈ Fs.flatten, g < w.heap.size) →
      ∃ F, r.holds w' F ∧ F.Nodup ∧ (∀ g ∈ F, g ∈ Fs.flatten ∨ (w.heap.size ≤ g ∧ g < w'.heap.size)) ∧ ∀ k, k < w.heap.size → k ∉ Fs.flatten → w'.heap[k]? = w.heap[k]?) :
    SAT A W0 γ bx (r :: Rr) w' := by
  obtain ⟨Fs, h1, h2, h3, h4⟩ := h.swapE
  obtain ⟨F, g1, g2, g3, g4⟩ := hc Fs h1 h2 h3
  exact h4 w' r F os tape out size g1 g2 g3 g4

/-! ### Data that are their cells -/

def encL {α : Type} [Flat α] : List α → List Value
  | [] => []
  | x :: l => Flat.enc x ++ encL l

theorem ownL_enc {α : Type} [Flat α] (w : World) : ∀ l : List α, ownL w [] l (encL l)
  | [] => ⟨rfl, rfl⟩
  | x :: l => ⟨[], [], Flat.enc x, encL l, rfl, rfl, ⟨rfl, rfl⟩, ownL_enc w l⟩

theorem viewL_enc {α : Type} [Flat α] {w : World} : ∀ {l : List α} {xs : List Value}, viewL w l xs → xs = encL l
  | [], xs, h => h
  | x :: l, xs, ⟨c1, c2, hx, h1, h2⟩ => by
    rw [hx, viewL_enc h2]
    have : c1 = Flat.enc x := h1
    rw [this]
    rfl

/-! ### A slice written out -/

def evB (P : Program) (sl : List (Nat × SV)) (o : Oper) : Option (TypeId × Nat × List Value) :=
  match o.op with
  | .buildSlice t len parts => match P.underlying t with
    | some (.slice e) => match P.info? e with
      | some i => match i.zero with
        | some z =>
          bif Nat.ble (len * i.size) 16777216 && parts.toList.all (fun p => (opV sl p.2).isSome) && Nat.beq z.cells.size i.size then
            match Instr.fill (fun j => some (j * i.size, i.size)) ((Array.range (len * i.size)).map (z.cells[· % z.cells.size]!)) (parts.map fun (j, x) => (j, (opV sl x).getD undef)).toList with
            | some cells => some (e, len, cells.toList)
            | none => none
          else none
        | none => none
      | none => none
    | _ => none
  | _ => none

theorem evB_ok {γ : List Nat} {a : Act} {o : Oper} {e : TypeId} {len : Nat} {cs : List Value} (hl : Live n γ sl a) (h : evB P sl o = some (e, len, cs)) (w : World) :
    (execOp a.eval o).run P w = .ok (.value (.slice (some ⟨w.heap.size, 0, none⟩) len len)) (w.alloc (.cells cs.toArray e)) := by
  obtain ⟨dst, op, type, pos, after, guard⟩ := o
  unfold evB at h
  split at h
  · rename_i t len' parts hop
    simp only at hop
    subst hop
    split at h
    · rename_i e' ht
      split at h
      · rename_i i hi
        split at h
        · rename_i z hz
          cases hc : (Nat.ble (len' * i.size) 16777216 && parts.toList.all (fun p => (opV sl p.2).isSome) && Nat.beq z.cells.size i.size) with
          | false => rw [hc] at h; simp at h
          | true =>
            rw [hc] at h
            simp only [cond_true] at h
            simp only [Bool.and_eq_true] at hc
            split at h
            · rename_i cells hf
              simp only [Option.some.injEq, Prod.mk.injEq] at h
              obtain ⟨rfl, rfl, rfl⟩ := h
              have hmap : (parts.map fun (j, x) => (j, a.eval x)) = (parts.map fun (j, x) => (j, (opV sl x).getD undef)) := by
                refine Array.map_congr_left fun p hp => ?_
                obtain ⟨j, x⟩ := p
                have := List.all_eq_true.1 hc.1.2 (j, x) (by simpa using hp)
                cases ho : opV sl x with
                | none => simp [ho] at this
                | some v => simp only [ho, Option.getD_some, hl.evalV ho]
              have hle := Nat.le_of_ble_eq_true hc.1.1
              have hf0 : Instr.fill (fun j => some (j * i.size, i.size)) ((Array.range (len' * i.size)).map (z.cells[· % z.cells.size]!)) (parts.map fun (j, x) => (j, a.eval x)).toList = some cells := by rw [hmap]; exact hf
              by_cases hz0 : len' * i.size = 0
              · have hf1 : Instr.fill (fun j => some (j * i.size, i.size)) #[] (parts.map fun (j, x) => (j, a.eval x)).toList = some cells := by
                  rw [hz0] at hf0
                  have e0 : Array.range 0 = #[] := rfl
                  rw [e0] at hf0
                  simpa using hf0
                simp only [execOp, Instr.buildSlice, Sem.run_bind, run_underlying ht w, Result.andThen_ok, sizeOf, typeInfo, run_program, hi, Sem.run_pure, hz0]
                have hf2 : Instr.fill (fun j => some (j * i.size, i.size)) (Array.map (fun _ => (default : Value)) (Array.range 0)) (parts.map fun (j, x) => (j, a.eval x)).toList = some cells := by
                  have e0 : Array.range 0 = #[] := rfl
                  rw [e0]
                  simpa using hf1
                simp at hf2 ⊢
                simp [hf2, newRow]
              · have hle' : ¬ (16777216 < len' * i.size) := by omega
                simp only [execOp, Instr.buildSlice, Sem.run_bind, run_underlying ht w, Result.andThen_ok, sizeOf, typeInfo, run_program, hi, Sem.run_pure]
                simp only [show (2 ^ 24 : Nat) = 16777216 from rfl, gt_iff_lt, hle', if_false, hz0, zeroValue, typeInfo, Sem.run_bind, run_program, Result.andThen_ok, hi, hz, Sem.run_pure, hf0]
                simp [newRow]
            · cases h
        · cases h
      · cases h
    · cases h
  · cases h

theorem JO_bslice {α : Type} [Rp α] {l rest : List Oper} {o : Oper} (hl : l = o :: rest) (hw : wantedS ops sl o = some true) {e : TypeId} {len : Nat} {cs : List Value} (he : evB P sl o = some (e, len, cs))
    {xs : List α} (hlen : xs.length = len) (hshort : Nat.ble xs.length 1000000 = true) (hR : Rc ++ Rr = R) (ho : ∀ w Fs, holdsAll w Rc Fs → ownL w Fs.flatten xs cs) (slF : Option Addr × Nat → List (Nat × SV))
    (hp : ∀ y : Option Addr × Nat, putS n sl o.dst (.v (.slice y.1 xs.length y.2)) = some (slF y)) (k : ∀ y : Option Addr × Nat, JO P A W0 n ops rest (slF y) bx (SlRes e xs y.1 y.2 :: Rr) Q) : JO P A W0 n ops l sl bx R Q := by
  subst hl hR
  intro γ a w hl hs
  unfold wpList
  rw [if_pos (wantedS_ok hl hw)]
  refine .inl ?_
  unfold Oper.wp
  rw [evB_ok hl he]
  have hsub : len = xs.length := hlen.symm
  subst hsub
  have hold : ∀ k, k < w.heap.size → (w.alloc (.cells cs.toArray e)).heap[k]? = w.heap[k]? := fun k hk => Below.heap_alloc w _ k hk
  refine k (some ⟨w.heap.size, 0, none⟩, xs.length) γ _ _ (hl.putS (hp (some ⟨w.heap.size, 0, none⟩, xs.length)) trivial) ?_
  refine hs.swap rfl rfl rfl (by simp) fun Fs hFs hnd hlt => ?_
  have hst : holdsAll (w.alloc (.cells cs.toArray e)) Rc Fs := holdsAll_stable hFs (fun g hg => hold g (hlt g hg))
  have hown := ho _ Fs hst
  have hlen2 := ownL_len hown
  refine ⟨w.heap.size :: Fs.flatten, .inr ⟨w.heap.size, cs, Fs.flatten, cs.toArray, rfl, rfl, hown, heap_alloc_new w _, Nat.le_refl _, ?_, by simp [hlen2], ?_⟩, ?_, ?_, fun k hk _ => hold k hk⟩
  · have := Nat.le_of_ble_eq_true hshort; simp only [maxLen]; omega
  · rw [List.take_of_length_le (by simp [hlen2])]
  · rw [List.nodup_cons]
    exact ⟨fun hm => Nat.lt_irrefl _ (hlt _ hm), hnd⟩
  · intro g hg
    rw [List.mem_cons] at hg
    rcases hg with rfl | hg
    · exact .inr ⟨Nat.le_refl _, by simp⟩
    · exact .inl hg

/-! ### append -/

/-- Two lists, if they fit together. -/
def appC {α : Type} (l1 l2 : List α) : Option (List α) := if l1.length + l2.length ≤ 1099511627776 then some (l1 ++ l2) else none

theorem appC_some {α : Type} {l1 l2 l : List α} (h : appC l1 l2 = some l) : l = l1 ++ l2 ∧ l1.length + l2.length ≤ 1099511627776 := by
  unfold appC at h
  split at h
  · rename_i hle; simp only [Option.some.injEq] at h; exact ⟨h.symm, hle⟩
  · cases h

def evApp (P : Program) (sl : List (Nat × SV)) (o : Oper) : Option (TypeId × TypeId × (Option Addr × Nat × Nat) × (Option Addr × Nat × Nat)) :=
  match o.op with
  | .call c => match c.callee with
    | .builtin .append => match c.args.toList, c.argTypes.toList with
      | [s, x], [t, t'] => match opV sl s, opV sl x with
        | some (.slice a1 n1 c1), some (.slice a2 n2 c2) => match P.underlying t with
          | some (.slice e) => bif Nat.beq t t' then some (t, e, (a1, n1, c1), (a2, n2, c2)) else none
          | _ => none
        | _, _ => none
      | _, _ => none
    | _ => none
  | _ => none

theorem evApp_ok {γ : List Nat} {a : Act} {o : Oper} {t e : TypeId} {s x : Option Addr × Nat × Nat} (hl : Live n γ sl a) (h : evApp P sl o = some (t, e, s, x)) :
    P.underlying t = some (.slice e) ∧ ∀ w, (execOp a.eval o).run P w = ((Builtin.append_ #[t, t] o.type #[.slice s.1 s.2.1 s.2.2, .slice x.1 x.2.1 x.2.2]).run P w).andThen fun v w' => .ok (.value v) w' := by
  obtain ⟨dst, op, type, pos, after, guard⟩ := o
  unfold evApp at h
  split at h
  · rename_i c hop
    simp only at hop
    subst hop
    obtain ⟨callee, args, argTypes⟩ := c
    split at h
    · rename_i hcal
      simp only at hcal
      subst hcal
      split at h
      · rename_i s' x' t1 t2 hargs htys
        simp only at hargs htys
        split at h
        · rename_i a1 n1 c1 a2 n2 c2 hs hx
          split at h
          · rename_i e' ht
            cases hb : Nat.beq t1 t2 with
            | false => rw [hb] at h; simp at h
            | true =>
              rw [hb] at h
              simp only [cond_true, Option.some.injEq, Prod.mk.injEq] at h
              obtain ⟨rfl, rfl, rfl, rfl⟩ := h
              have he := Nat.eq_of_beq_eq_true hb
              subst he
              refine ⟨ht, fun w => ?_⟩
              have e1 : args = #[s', x'] := by cases args; simp_all
              have e2 : argTypes = #[t1, t1] := by cases argTypes; simp_all
              subst e1 e2
              simp [execOp, resolve, invoke, builtin, hl.evalV hs, hl.evalV hx]
          · cases h
        · cases h
      · cases h
    · cases h
  · cases h

theorem cellsAt_add {w : World} {d : Addr} {xs : List Value} (hsp : d.spot = none) (h : CellsAt w (some d) 0 xs) : ∀ j u, xs[j]? = some u → w.cell? (d.add j) = some u := by
  intro j u hu
  obtain ⟨d', hd, hc⟩ := h j u hu
  simp only [Option.some.injEq] at hd
  subst hd
  rw [add_spot hsp]
  simpa using hc

/-- A new row behind an append. -/
theorem slOwn_grown {α : Type} [Rp α] {w : World} {e : TypeId} {z : Value} {l1 l2 : List α} {xs1 xs2 : List Value} {F1 F2 : List Nat} {nc : Nat} (h1 : ownL w F1 l1 xs1) (h2 : ownL w F2 l2 xs2)
    (hlt : ∀ g ∈ F1 ++ F2, g < w.heap.size) (hz : z.cells.size = Rp.sz α) (hnc : l1.length + l2.length ≤ nc) (hm : nc ≤ maxLen) :
    SlOwn e (w.drew.alloc (.cells (xs1.toArray ++ xs2.toArray ++ Builtin.zeroCells z.cells (nc - (l1.length + l2.length))) e)) (w.heap.size :: (F1 ++ F2)) (l1 ++ l2) (some ⟨w.heap.size, 0, none⟩) nc := by
  have hold : ∀ k, k < w.heap.size → (w.drew.alloc (.cells (xs1.toArray ++ xs2.toArray ++ Builtin.zeroCells z.cells (nc - (l1.length + l2.length))) e)).heap[k]? = w.heap[k]? := fun k hk => Below.heap_alloc w.drew _ k hk
  have hl1 := ownL_len h1
  have hl2 := ownL_len h2
  refine .inr ⟨w.heap.size, xs1 ++ xs2, F1 ++ F2, _, rfl, rfl, ownL_append (ownL_stable h1 fun g hg => hold g (hlt g (by simp [hg]))) (ownL_stable h2 fun g hg => hold g (hlt g (by simp [hg]))), heap_alloc_new w.drew _, by simpa using hnc, hm, ?_, ?_⟩
  · simp only [Array.size_append, List.size_toArray, size_zeroCells, hz, hl1, hl2, ← Nat.add_mul]
    congr 1
    omega
  · simp only [Array.toList_append, List.length_append, Nat.add_mul, ← hl1, ← hl2]
    rw [← List.length_append]
    exact List.take_left

theorem run_app {α : Type} [Rp α] {w : World} {t ty e : TypeId} {i : TypeInfo} {z : Value} (ht : P.underlying t = some (.slice e)) (hi : P.info? e = some i) (hz : i.zero = some z) (hsz : i.size = Rp.sz α) (hzs : z.cells.size = Rp.sz α) (hby : i.bytes ≤ 128)
    {l1 l2 : List α} {F1 : List Nat} {a1 a2 : Option Addr} {c1 c2 : Nat} {xs2 : List Value} (hb : SlOwn e w F1 l1 a1 c1) (hl2 : xs2.length = l2.length * Rp.sz α) (hc2 : CellsAt w a2 0 xs2) (hsp : l2 ≠ [] → SpotOk a2) (h1c : ∀ u ∈ xs2, u.oneCell' = true)
    (hlim : l1.length + l2.length ≤ 1099511627776) :
    ∃ a c w', (Builtin.append_ #[t, t] ty #[.slice a1 l1.length c1, .slice a2 l2.length c2]).run P w = .ok (.slice a (l1 ++ l2).length c) w' ∧ w'.os = w.os ∧ w'.tape = w.tape ∧ w'.output = w.output ∧ w.heap.size ≤ w'.heap.size ∧
      (∀ F2, ownL w F2 l2 xs2 → (F1 ++ F2).Nodup → (∀ g ∈ F1 ++ F2, g < w.heap.size) → ∃ F, SlOwn e w' F (l1 ++ l2) a c ∧ F.Nodup ∧ ∀ g ∈ F, g ∈ F1 ++ F2 ∨ (w.heap.size ≤ g ∧ g < w'.heap.size)) ∧
      ∀ k, k < w.heap.size → k ∉ F1 → w'.heap[k]? = w.heap[k]? := by
  by_cases hm : l2 = []
  · subst hm
    have hx : xs2 = [] := List.eq_nil_of_length_eq_zero (by simpa using hl2)
    subst hx
    have hle : l1.length ≤ c1 := by
      rcases hb with ⟨rfl, rfl, _⟩ | ⟨g, xs, F', cur, _, _, _, _, h, _⟩
      · simp
      · exact h
    refine ⟨a1, c1, w, ?_, rfl, rfl, rfl, Nat.le_refl _, ?_, fun _ _ _ => rfl⟩
    · have hfc : (Builtin.firstCells i.size 0 (.slice a2 0 c2)).run P w = .ok #[] w := by cases a2 <;> simp [Builtin.firstCells, loadCells, loadCellsFrom]
      cases a1 <;> simp [Builtin.append_, run_underlying ht, sizeOf, typeInfo, hi, Builtin.lenOf, hle, hfc, storeCells]
    · intro F2 h2 hnd hlt
      obtain ⟨rfl, _⟩ := h2
      simp only [List.append_nil] at hnd hlt ⊢
      exact ⟨F1, hb, hnd, fun g hg => .inl hg⟩
  · have hpos : 0 < l2.length := List.length_pos_iff.2 hm
    have hszp := Rp.pos (α := α)
    have hx0 : 0 < xs2.length := by rw [hl2]; exact Nat.mul_pos hpos hszp
    obtain ⟨d2, rfl, _⟩ : ∃ d, a2 = some d ∧ True := by
      obtain ⟨d, hd, _⟩ := hc2 0 xs2[0] (by simp)
      exact ⟨d, hd, trivial⟩
    have hcells := cellsAt_add (hsp hm d2 rfl) hc2
    have hl2' : xs2.length = l2.length * i.size := by rw [hsz]; exact hl2
    have h63 : l1.length + l2.length ≤ maxLen := by simp only [maxLen]; omega
    have hbytes : (l1.length + l2.length) * i.bytes ≤ 140737488355328 := by
      have := Nat.mul_le_mul hlim hby
      omega
    have grown : ∀ (old : Nat), old < l1.length + l2.length → ∀ (F' : List Nat) (xs1 : List Value), ownL w F' l1 xs1 → (∀ g ∈ F', g ∈ F1) → F'.Nodup →
        (∃ r, r = w.drew.alloc (.cells (xs1.toArray ++ xs2.toArray ++ Builtin.zeroCells z.cells (grownCap w (l1.length + l2.length) old e - (l1.length + l2.length))) e) ∧
          r.os = w.os ∧ r.tape = w.tape ∧ r.output = w.output ∧ w.heap.size ≤ r.heap.size ∧
      (∀ F2, ownL w F2 l2 xs2 → (F1 ++ F2).Nodup → (∀ g ∈ F1 ++ F2, g < w.heap.size) → ∃ F, SlOwn e r F (l1 ++ l2) (some ⟨w.heap.size, 0, none⟩) (grownCap w (l1.length + l2.length) old e) ∧ F.Nodup ∧ ∀ g ∈ F, g ∈ F1 ++ F2 ∨ (w.heap.size ≤ g ∧ g < r.heap.size)) ∧
      ∀ k, k < w.heap.size → k ∉ F1 → r.heap[k]? = w.heap[k]?) := by
      intro old hold F' xs1 ho hsub hnd'
      refine ⟨_, rfl, rfl, rfl, rfl, by simp, ?_, fun k hk _ => Below.heap_alloc w.drew _ k hk⟩
      intro F2 h2 hnd hlt
      have hlt' : ∀ g ∈ F' ++ F2, g < w.heap.size := by
        intro g hg
        rw [List.mem_append] at hg
        rcases hg with hg | hg
        · exact hlt g (by simp [hsub g hg])
        · exact hlt g (by simp [hg])
      refine ⟨_, slOwn_grown ho h2 hlt' hzs (grownCap_ge w _ old e) (grownCap_le_maxLen w _ old e h63), ?_, ?_⟩
      · rw [List.nodup_cons]
        refine ⟨fun hm => Nat.lt_irrefl _ (hlt' _ hm), ?_⟩
        rw [List.nodup_append] at hnd ⊢
        exact ⟨hnd', hnd.2.1, fun x hx y hy => hnd.2.2 x (hsub x hx) y hy⟩
      · intro g hg
        rw [List.mem_cons] at hg
        rcases hg with rfl | hg
        · exact .inr ⟨Nat.le_refl _, by simp⟩
        · rw [List.mem_append] at hg
          rcases hg with hg | hg
          · exact .inl (by simp [hsub g hg])
          · exact .inl (by simp [hg])
    rcases hb with ⟨rfl, rfl, rfl⟩ | ⟨g, xs1, F', cur, rfl, rfl, ho, hg, hnc, hcm, hcs, htake⟩
    · obtain ⟨r, hr, k1, k2, k3, k4, k5, k6⟩ := grown 0 (by omega) [] [] ⟨rfl, rfl⟩ (fun g hg => hg) List.nodup_nil
      refine ⟨_, _, r, ?_, k1, k2, k3, k4, k5, k6⟩
      subst hr
      simp only [List.length_nil, Nat.zero_add, List.nil_append, show (([] : List Value).toArray ++ xs2.toArray) = xs2.toArray by simp] at hlim hbytes ⊢
      cases a1 with
      | none => exact run_append_nil (P := P) w t ty e i z ht hi hz d2 l2.length c2 xs2 hl2' hcells hpos (by omega) (by omega)
      | some b =>
        have := run_append_grow (P := P) w t ty e i z ht hi hz b 0 0 [] (by simp) (fun j v hv => by simp at hv) d2 l2.length c2 xs2 hl2' hcells (by omega) (by simp only [Nat.zero_add]; omega)
          (by simp only [Nat.zero_add]; exact growslice_fits hpos (by omega))
        simpa using this
    · by_cases hroom : l1.length + l2.length ≤ c1
      · have hl1 := ownL_len ho
        have hfit : l1.length * i.size + xs2.length ≤ cur.size := by rw [hl2', hcs, hsz, ← Nat.add_mul]; exact Nat.mul_le_mul_right _ hroom
        have hr := run_append_room (P := P) w t ty e i ht hi g l1.length c1 cur hg d2 l2.length c2 xs2 hl2' hcells h1c hroom hfit
        rw [hsz, htake] at hr
        refine ⟨some ⟨g, 0, none⟩, c1, w.setRow g (xs1 ++ xs2 ++ cur.toList.drop (l1.length * Rp.sz α + xs2.length)).toArray, by rw [List.length_append]; exact hr, rfl, rfl, rfl, by simp, ?_, fun k hk hne => setRow_other w g k _ (fun e => hne (by simp [e]))⟩
        intro F2 h2 hnd hlt
        have hother : ∀ k, k ≠ g → (w.setRow g (xs1 ++ xs2 ++ cur.toList.drop (l1.length * Rp.sz α + xs2.length)).toArray).heap[k]? = w.heap[k]? := fun k hk => setRow_other w g k _ hk
        have hnd2 : g ∉ F' ++ F2 := by
          simp only [List.cons_append, List.nodup_cons] at hnd
          exact hnd.1
        refine ⟨g :: (F' ++ F2), .inr ⟨g, xs1 ++ xs2, F' ++ F2, _, rfl, rfl, ?_, setRow_heap w g cur _ e _ hg, by simpa using hroom, hcm, ?_, ?_⟩, by simpa using hnd, fun k hk => .inl (by simpa using hk)⟩
        · exact ownL_append (ownL_stable ho fun k hk => hother k (fun e => hnd2 (by subst e; simp [hk]))) (ownL_stable h2 fun k hk => hother k (fun e => hnd2 (by subst e; simp [hk])))
        · have hfit2 := hfit
          rw [hsz] at hfit2
          simp only [List.size_toArray, List.length_append, List.length_drop, Array.length_toList, hl1]
          omega
        · rw [List.length_append, Nat.add_mul, ← hl1, ← hl2, ← List.length_append]
          simp only []
          exact List.take_left
      · have hown : w.ownsRow 0 e (Rp.sz α) (.slice (some ⟨g, 0, none⟩) l1.length c1) l1.length xs1 := ⟨ownL_len ho, .inr ⟨g, c1, cur, rfl, Nat.zero_le _, hg, hnc, hcm, hcs, htake⟩⟩
        have holds : ∀ j u, xs1[j]? = some u → w.cell? ((⟨g, 0, none⟩ : Addr).add j) = some u := hown.cells (g := g) rfl
        have hr := run_append_grow (P := P) w t ty e i z ht hi hz ⟨g, 0, none⟩ l1.length c1 xs1 (by rw [hsz]; exact ownL_len ho) holds d2 l2.length c2 xs2 hl2' hcells (by omega) (by omega) (growslice_fits (by omega) hbytes)
        by_cases hnd' : F'.Nodup
        · obtain ⟨r, hrr, k1, k2, k3, k4, k5, k6⟩ := grown c1 (by omega) F' xs1 ho (fun k hk => by simp [hk]) hnd'
          subst hrr
          exact ⟨some ⟨w.heap.size, 0, none⟩, _, _, by rw [List.length_append]; exact hr, k1, k2, k3, k4, k5, k6⟩
        · refine ⟨some ⟨w.heap.size, 0, none⟩, _, w.drew.alloc (.cells (xs1.toArray ++ xs2.toArray ++ Builtin.zeroCells z.cells (grownCap w (l1.length + l2.length) c1 e - (l1.length + l2.length))) e), by rw [List.length_append]; exact hr, rfl, rfl, rfl, by simp, ?_, fun k hk _ => Below.heap_alloc w.drew _ k hk⟩
          intro F2 h2 hnd hlt
          exfalso
          simp only [List.cons_append, List.nodup_cons] at hnd
          exact hnd' (List.nodup_append.1 hnd.2).1

/-- append, the other slice owned and let go. -/
theorem JO_appendR {α : Type} [Rp α] {l rest : List Oper} {o : Oper} (hl : l = o :: rest) (hw : wantedS ops sl o = some true) {t e : TypeId} {a1 a2 : Option Addr} {c1 c2 : Nat} {l1 l2 l3 : List α}
    (he : evApp P sl o = some (t, e, (a1, l1.length, c1), (a2, l2.length, c2))) {i : TypeInfo} (hi : P.info? e = some i) {z : Value} (hz : i.zero = some z) (hsz : i.size = Rp.sz α) (hzs : z.cells.size = Rp.sz α) (hby : Nat.ble i.bytes 128 = true)
    (hR : R = SlRes e l1 a1 c1 :: SlRes e l2 a2 c2 :: Rr) (h3 : appC l1 l2 = some l3) (slF : Option Addr × Nat → List (Nat × SV))
    (hp : ∀ y : Option Addr × Nat, putS n sl o.dst (.v (.slice y.1 l3.length y.2)) = some (slF y)) (k : ∀ y : Option Addr × Nat, JO P A W0 n ops rest (slF y) bx (SlRes e l3 y.1 y.2 :: Rr) Q) : JO P A W0 n ops l sl bx R Q := by
  subst hl
  intro γ a w hl hs
  obtain ⟨rfl, hlim⟩ := appC_some h3
  have hRR : R = [SlRes e l1 a1 c1, SlRes e l2 a2 c2] ++ Rr := hR
  subst hRR
  obtain ⟨ht, hrun⟩ := evApp_ok hl he
  obtain ⟨Fs, hF, hnd, hlt, hback⟩ := hs.swapE
  obtain ⟨F1, Fs', rfl, b1, F2, Fs'', rfl, b2, b3⟩ := hF
  simp only [holdsAll] at b3
  subst b3
  have b1' : SlOwn e w F1 l1 a1 c1 := b1
  have b2' : SlOwn e w F2 l2 a2 c2 := b2
  have hv2 := b2'.view
  obtain ⟨xs2, F2', hown2, hc2, hsub2⟩ : ∃ xs2 F2', ownL w F2' l2 xs2 ∧ CellsAt w a2 0 xs2 ∧ F2'.Sublist F2 := by
    rcases b2' with ⟨rfl, _, rfl⟩ | ⟨g, xs, F', cur, rfl, rfl, h3', h4, h5, h6, h7, h8⟩
    · exact ⟨[], [], ⟨rfl, rfl⟩, fun j u hu => by simp at hu, List.Sublist.refl _⟩
    · refine ⟨xs, F', h3', fun j u hu => ⟨_, rfl, ?_⟩, List.sublist_cons_self g F'⟩
      rw [cell_of_row w g _ _ _ _ h4]
      rw [← h8, List.getElem?_take] at hu
      split at hu
      · simpa using hu
      · cases hu
  obtain ⟨a', c', w', hr, k1, k2, k3, k4, k5, k6⟩ := run_app (P := P) (ty := o.type) ht hi hz hsz hzs (Nat.le_of_ble_eq_true hby) b1' (ownL_len hown2) hc2 hv2.spot (ownL_one hown2) hlim
  have hnd12 : (F1 ++ F2).Nodup := by simpa using hnd
  have hlt12 : ∀ g ∈ F1 ++ F2, g < w.heap.size := fun g hg => hlt g (by simpa using hg)
  have hsubl : (F1 ++ F2').Sublist (F1 ++ F2) := List.Sublist.append_left hsub2 F1
  obtain ⟨F, hF1, hF2, hF3⟩ := k5 F2' hown2 (hnd12.sublist hsubl) (fun g hg => hlt12 g (hsubl.subset hg))
  unfold wpList
  rw [if_pos (wantedS_ok hl hw)]
  refine .inl ?_
  unfold Oper.wp
  rw [hrun, hr]
  refine k (a', c') γ _ w' (hl.putS (hp (a', c')) trivial) ?_
  refine hback w' _ F k1 k2 k3 k4 hF1 hF2 (fun g hg => ?_) (fun k hk hne => k6 k hk (fun hm => hne (by simp [hm])))
  rcases hF3 g hg with hm | hm
  · exact .inl (by simpa using hsubl.subset hm)
  · exact .inr hm

/-- append, the other slice only read. -/
theorem JO_appendV {α : Type} [Flat α] {l rest : List Oper} {o : Oper} (hl : l = o :: rest) (hw : wantedS ops sl o = some true) {t e : TypeId} {a1 a2 : Option Addr} {c1 c2 : Nat} {l1 l2 l3 : List α}
    (he : evApp P sl o = some (t, e, (a1, l1.length, c1), (a2, l2.length, c2))) {i : TypeInfo} (hi : P.info? e = some i) {z : Value} (hz : i.zero = some z) (hsz : i.size = Rp.sz α) (hzs : z.cells.size = Rp.sz α) (hby : Nat.ble i.bytes 128 = true)
    (hv : ∀ γ w, SAT A W0 γ bx R w → ∃ cap, SlView w l2 a2 cap)
    (hR : R = SlRes e l1 a1 c1 :: Rr) (h3 : appC l1 l2 = some l3) (slF : Option Addr × Nat → List (Nat × SV))
    (hp : ∀ y : Option Addr × Nat, putS n sl o.dst (.v (.slice y.1 l3.length y.2)) = some (slF y)) (k : ∀ y : Option Addr × Nat, JO P A W0 n ops rest (slF y) bx (SlRes e l3 y.1 y.2 :: Rr) Q) : JO P A W0 n ops l sl bx R Q := by
  subst hl
  intro γ a w hl hs
  obtain ⟨rfl, hlim⟩ := appC_some h3
  obtain ⟨cap, hv2⟩ := hv γ w hs
  have hRR : R = [SlRes e l1 a1 c1] ++ Rr := hR
  subst hRR
  obtain ⟨ht, hrun⟩ := evApp_ok hl he
  obtain ⟨Fs, hF, hnd, hlt, hback⟩ := hs.swapE
  obtain ⟨F1, Fs', rfl, b1, b3⟩ := hF
  simp only [holdsAll] at b3
  subst b3
  have b1' : SlOwn e w F1 l1 a1 c1 := b1
  obtain ⟨xs2, hx2, hc2⟩ := hv2.cells
  have hown2 : ownL w [] l2 xs2 := by rw [viewL_enc hx2]; exact ownL_enc w l2
  obtain ⟨a', c', w', hr, k1, k2, k3, k4, k5, k6⟩ := run_app (P := P) (ty := o.type) ht hi hz hsz hzs (Nat.le_of_ble_eq_true hby) b1' (ownL_len hown2) (fun j u hu => by simpa using hc2 j u hu) hv2.spot (ownL_one hown2) hlim
  have hnd12 : (F1 ++ []).Nodup := by simpa using hnd
  obtain ⟨F, hF1, hF2, hF3⟩ := k5 [] hown2 hnd12 (fun g hg => hlt g (by simpa using hg))
  unfold wpList
  rw [if_pos (wantedS_ok hl hw)]
  refine .inl ?_
  unfold Oper.wp
  rw [hrun, hr]
  refine k (a', c') γ _ w' (hl.putS (hp (a', c')) trivial) ?_
  refine hback w' _ F k1 k2 k3 k4 hF1 hF2 (fun g hg => ?_) (fun k hk hne => k6 k hk (fun hm => hne (by simp [hm])))
  rcases hF3 g hg with hm | hm
  · exact .inl (by simpa using hm)
  · exact .inr hm

/-! ### make -/

/-- A new list of a length known only at run time. -/
def mkL {α : Type} (n : Int) (z : α) : Option (List α) := if 0 ≤ n ∧ n ≤ 1099511627776 then some (List.replicate n.toNat z) else none

def sameOp : Operand → Operand → Bool
  | .tmp a, .tmp b => Nat.beq a b
  | .const (.int .i64 n), .const (.int .i64 m) => decide (n = m)
  | _, _ => false

theorem sameOp_eq {x y : Operand} (h : sameOp x y = true) : x = y := by
  unfold sameOp at h
  split at h
  · rw [Nat.eq_of_beq_eq_true h]
  · rw [of_decide_eq_true h]
  · cases h

def evMake (P : Program) (sl : List (Nat × SV)) (o : Oper) : Option (TypeId × TypeId × Int) :=
  match o.op with
  | .makeSlice t x y => match P.underlying t, opV sl x with
    | some (.slice e), some (.int .i64 n) => bif sameOp x y then some (t, e, n) else none
    | _, _ => none
  | _ => none

theorem ownL_replicate {α : Type} [Rp α] {w : World} {z : α} {cs : List Value} (h : Rp.own w [] z cs) : ∀ n, ownL w [] (List.replicate n z) (List.replicate n cs).flatten
  | 0 => ⟨rfl, rfl⟩
  | n + 1 => ⟨[], [], cs, (List.replicate n cs).flatten, rfl, by simp [List.replicate_succ], h, ownL_replicate h n⟩

theorem flatten_replicate_get (cs : List Value) : ∀ n j, j < n * cs.length → (List.replicate n cs).flatten[j]? = cs[j % cs.length]?
  | 0, j, h => by simp at h
  | n + 1, j, h => by
    rw [List.replicate_succ, List.flatten_cons, List.getElem?_append]
    split
    · rename_i hlt; rw [Nat.mod_eq_of_lt hlt]
    · rename_i hge
      rw [flatten_replicate_get cs n (j - cs.length) (by rw [Nat.succ_mul] at h; omega)]
      rw [Nat.mod_eq_sub_mod (by omega : j ≥ cs.length)]

theorem madeCells_list (z : Array Value) (n : Nat) (hz : 0 < z.size) : (madeCells z (n * z.size)).toList = (List.replicate n z.toList).flatten := by
  apply List.ext_getElem?
  intro j
  by_cases h : j < n * z.size
  · rw [flatten_replicate_get z.toList n j (by simpa using h)]
    have hm : j % z.size < z.size := Nat.mod_lt _ hz
    simp [madeCells, h, hm]
  · rw [List.getElem?_eq_none (by simpa [madeCells] using h), List.getElem?_eq_none (by simp; omega)]

theorem JO_make {α : Type} [Rp α] {l rest : List Oper} {o : Oper} (hl : l = o :: rest) (hw : wantedS ops sl o = some true) {t e : TypeId} {m : Int} (he : evMake P sl o = some (t, e, m)) {i : TypeInfo} (hi : P.info? e = some i) {z : Value} (hz : i.zero = some z)
    (hsz : i.size = Rp.sz α) (hzs : z.cells.size = Rp.sz α) (hby : Nat.ble i.bytes 256 = true) {zx : α} (hzx : ∀ w, Rp.own w [] zx z.cells.toList) {xs : List α} (hm : mkL m zx = some xs) (slF : Option Addr × Nat → List (Nat × SV))
    (hp : ∀ y : Option Addr × Nat, putS n sl o.dst (.v (.slice y.1 xs.length y.2)) = some (slF y)) (k : ∀ y : Option Addr × Nat, JO P A W0 n ops rest (slF y) bx (SlRes e xs y.1 y.2 :: R) Q) : JO P A W0 n ops l sl bx R Q := by
  subst hl
  intro γ a w hl hs
  unfold mkL at hm
  split at hm
  · rename_i hb
    simp only [Option.some.injEq] at hm
    subst hm
    obtain ⟨n', rfl⟩ := Int.eq_ofNat_of_zero_le hb.1
    have hnb : n' ≤ 1099511627776 := by have := hb.2; omega
    have hby' := Nat.le_of_ble_eq_true hby
    have hbytes : (i.bytes : Int) * (n' : Int) ≤ 281474976710656 := by
      have h1 : i.bytes * n' ≤ 256 * 1099511627776 := Nat.mul_le_mul hby' hnb
      have h2 : ((i.bytes * n' : Nat) : Int) ≤ 281474976710656 := by omega
      rwa [Int.natCast_mul] at h2
    have hrun : (execOp a.eval o).run P w = .ok (.value (.slice (some ⟨w.heap.size, 0, none⟩) n' n')) (w.alloc (.cells (madeCells z.cells (n' * i.size)) e)) := by
      obtain ⟨dst, op, type, pos, after, guard⟩ := o
      unfold evMake at he
      split at he
      · rename_i t' x y hop
        simp only at hop
        subst hop
        split at he
        · rename_i e' n1 ht hx
          cases hd : sameOp x y with
          | false => rw [hd] at he; simp at he
          | true =>
            rw [hd] at he
            have hxy := sameOp_eq hd
            subst hxy
            simp only [cond_true, Option.some.injEq, Prod.mk.injEq] at he
            obtain ⟨rfl, rfl, rfl⟩ := he
            have := run_make (P := P) w t' e' i z ht hi hz .i64 .i64 (n' : Int) (n' : Int) (by omega) (Int.le_refl _) hbytes (by omega)
            simp only [Int.toNat_natCast] at this
            have hx' := hl.evalV hx
            simp only [execOp, hx', Sem.run_bind, this, Result.andThen_ok, Sem.run_pure]
        · cases he
      · cases he
    unfold wpList
    rw [if_pos (wantedS_ok hl hw)]
    refine .inl ?_
    unfold Oper.wp
    rw [hrun]
    have hold : ∀ k, k < w.heap.size → (w.alloc (.cells (madeCells z.cells (n' * i.size)) e)).heap[k]? = w.heap[k]? := fun k hk => Below.heap_alloc w _ k hk
    have hlen : (List.replicate n' zx).length = n' := by simp
    have hp' := hp (some ⟨w.heap.size, 0, none⟩, n')
    rw [Int.toNat_natCast, hlen] at hp'
    refine k (some ⟨w.heap.size, 0, none⟩, n') γ _ _ (hl.putS hp' trivial) ?_
    have hs0 : SAT A W0 γ bx ([] ++ R) w := hs
    refine hs0.swap rfl rfl rfl (by simp) fun Fs hFs hnd hlt => ?_
    simp only [holdsAll] at hFs
    subst hFs
    have hcl : (madeCells z.cells (n' * i.size)).toList = (List.replicate n' z.cells.toList).flatten := by rw [hsz, ← hzs]; exact madeCells_list _ _ (by rw [hzs]; exact Rp.pos)
    have hzl : z.cells.toList.length = Rp.sz α := by simpa using hzs
    refine ⟨[w.heap.size], .inr ⟨w.heap.size, (List.replicate n' z.cells.toList).flatten, [], madeCells z.cells (n' * i.size), rfl, rfl, by rw [Int.toNat_natCast]; exact ownL_replicate (hzx _) n', heap_alloc_new w _, ?_, ?_, ?_, ?_⟩, by simp, ?_, fun k hk _ => hold k hk⟩
    · rw [Int.toNat_natCast, hlen]; exact Nat.le_refl _
    · simp only [maxLen]; omega
    · simp [madeCells, hsz]
    · rw [hcl, Int.toNat_natCast, hlen]
      exact List.take_of_length_le (by
        have := ownL_len (ownL_replicate (hzx w) n')
        rw [this, hlen]; exact Nat.le_refl _)
    · intro g hg
      simp only [List.mem_singleton] at hg
      subst hg
      exact .inr ⟨Nat.le_refl _, by simp⟩
  · cases hm

/-! ### An element written -/

theorem ownL_set {α : Type} [Rp α] {w : World} : ∀ {l : List α} {F : List Nat} {ys : List Value} {j : Nat} {x : α}, ownL w F l ys → l[j]? = some x → ∃ F1 F2 F3 c, F = F1 ++ (F2 ++ F3) ∧ Rp.own w F2 x c ∧ (∀ i, i < Rp.sz α → ys[j * Rp.sz α + i]? = c[i]?) ∧
    ∀ w' G x' c', Rp.own w' G x' c' → (∀ g ∈ F1 ++ F3, w'.heap[g]? = w.heap[g]?) → ownL w' (F1 ++ (G ++ F3)) (l.set j x') (ys.take (j * Rp.sz α) ++ (c' ++ ys.drop (j * Rp.sz α + Rp.sz α)))
  | [], F, ys, j, x, _, h => by simp at h
  | y :: l, F, ys, 0, x, ⟨G1, G2, c1, c2, hF, hx, h1, h2⟩, h => by
    simp only [List.getElem?_cons_zero, Option.some.injEq] at h
    subst h
    have hl1 := Rp.own_len h1
    refine ⟨[], G1, G2, c1, by simpa using hF, h1, fun i hi => by rw [hx, Nat.zero_mul, Nat.zero_add, List.getElem?_append_left (by rw [hl1]; exact hi)], fun w' G x' c' ho hs => ?_⟩
    refine ⟨G, G2, c', c2, by simp, ?_, ho, ownL_stable h2 (fun g hg => hs g (by simp [hg]))⟩
    rw [hx, Nat.zero_mul, Nat.zero_add, ← hl1, List.take_zero, List.nil_append, List.drop_left]
  | y :: l, F, ys, j + 1, x, ⟨G1, G2, c1, c2, hF, hx, h1, h2⟩, h => by
    simp only [List.getElem?_cons_succ] at h
    have hl1 := Rp.own_len h1
    obtain ⟨F1, F2, F3, c, k1, k2, k3, k4⟩ := ownL_set h2 h
    have e1 : (j + 1) * Rp.sz α = Rp.sz α + j * Rp.sz α := by rw [Nat.succ_mul, Nat.add_comm]
    refine ⟨G1 ++ F1, F2, F3, c, by rw [hF, k1]; simp, k2, fun i hi => ?_, fun w' G x' c' ho hs => ?_⟩
    · rw [hx, e1, List.getElem?_append_right (by omega), hl1, ← k3 i hi]
      congr 1; omega
    · refine ⟨G1, F1 ++ (G ++ F3), c1, _, by simp, ?_, Rp.own_stable h1 (fun g hg => hs g (by simp [hg])), k4 w' G x' c' ho (fun g hg => hs g (by rw [List.mem_append] at hg ⊢; rcases hg with hg | hg; exact .inl (by simp [hg]); exact .inr hg))⟩
      rw [hx, e1]
      generalize j * Rp.sz α = J
      rw [← hl1, List.take_append, List.take_of_length_le (by omega), show c1.length + J - c1.length = J by omega, List.append_assoc]
      congr 3
      rw [List.drop_append, List.drop_of_length_le (by omega), List.nil_append]
      congr 1; omega

def evStoreq (P : Program) (sl : List (Nat × SV)) (o : Oper) : Option (Option Addr × Nat × List Value) :=
  match o.op with
  | .store t x y => match opv sl x, opV sl y, P.info? t with
    | some (.q d k), some v, some i => bif Nat.beq v.cells.size i.size && v.cells.toList.all (·.oneCell') then some (d, k, v.cells.toList) else none
    | _, _, _ => none
  | _ => none

theorem evStoreq_ok {γ : List Nat} {a : Act} {o : Oper} {g off k : Nat} {vs : List Value} (hl : Live n γ sl a) (h : evStoreq P sl o = some (some ⟨g, off, none⟩, k, vs)) {w : World} {e : TypeId} {cur : Array Value} (hg : w.heap[g]? = some (.cells cur e (0, 0)))
    (hle : off + k + vs.length ≤ cur.size) : (execOp a.eval o).run P w = .ok .skip (w.setRow g (cur.toList.take (off + k) ++ vs ++ cur.toList.drop (off + k + vs.length)).toArray) := by
  obtain ⟨dst, op, type, pos, after, guard⟩ := o
  unfold evStoreq at h
  split at h
  · rename_i t x y hop
    simp only at hop
    subst hop
    split at h
    · rename_i d k' v i hx hy hi
      cases hc : (Nat.beq v.cells.size i.size && v.cells.toList.all (·.oneCell')) with
      | false => rw [hc] at h; simp at h
      | true =>
        rw [hc] at h
        simp only [cond_true, Option.some.injEq, Prod.mk.injEq] at h
        obtain ⟨rfl, rfl, rfl⟩ := h
        simp only [Bool.and_eq_true] at hc
        have h1 := Nat.eq_of_beq_eq_true hc.1
        have := run_storeCells_at (P := P) g (off + k') e v.cells.toList 0 cur w hg (by simpa using hle) (fun c hm => List.all_eq_true.1 hc.2 c hm)
        simp only [Nat.add_zero] at this
        simp [execOp, hl.eval hx, hl.evalV hy, SV.den, Instr.storeAt, Instr.sureAddr, storeVar, sizeOf, typeInfo, hi, h1] at this ⊢
        simp [this]
    · cases h
  · cases h

/-- The element at a place written, or a part of it. -/
theorem JO_storeq {α : Type} [Rp α] {l rest : List Oper} {o : Oper} (hl : l = o :: rest) (hw : wantedS ops sl o = some true) {d : Option Addr} {vs : List Value} {xs xs' : List α} {j : Int} {x x' : α} (off : Nat) (he : evStoreq P sl o = some (d, j.toNat * Rp.sz α + off, vs))
    (hx : idx xs j = some x) {e : TypeId} {cap : Nat} (hR : R = Rc ++ SlRes e xs d cap :: Rr) (hfit : Nat.ble (off + vs.length) (Rp.sz α) = true)
    (ho : ∀ w c F Fs, Rp.own w F x c → holdsAll w Rc Fs → (F ++ Fs.flatten).Nodup → ∃ G, Rp.own w G x' (writeAt c off vs) ∧ G.Nodup ∧ ∀ g ∈ G, g ∈ F ++ Fs.flatten)
    (hs' : xs' = xs.set j.toNat x') (hp : putS n sl o.dst (.v undef) = some sl') (k : JO P A W0 n ops rest sl' bx (SlRes e xs' d cap :: Rr) Q) : JO P A W0 n ops l sl bx R Q := by
  subst hl hR hs'
  intro γ a w hl hs
  obtain ⟨h0, h1, h2⟩ := idx_some hx
  have hs2 : SAT A W0 γ bx ((Rc ++ [SlRes e xs d cap]) ++ Rr) w := by simpa using hs
  obtain ⟨Fs, hF, hnd, hlt, hback⟩ := hs2.swapE
  obtain ⟨Fc, Fx, rfl, b1, b2⟩ := holdsAll_split hF
  obtain ⟨FX, Fs', rfl, b3, b4⟩ := b2
  simp only [holdsAll] at b4
  subst b4
  have b3' : SlOwn e w FX xs d cap := b3
  rcases b3' with ⟨rfl, _, _⟩ | ⟨g, ys, F', cur, rfl, rfl, c1, c2, c3, c4, c5, c6⟩
  · simp at h2
  · have hyl := ownL_len c1
    have hj : j.toNat < xs.length := (List.getElem?_eq_some_iff.1 h2).1
    have hfit' := Nat.le_of_ble_eq_true hfit
    have hspan : (j.toNat + 1) * Rp.sz α ≤ xs.length * Rp.sz α := Nat.mul_le_mul_right _ hj
    have hspan2 : xs.length * Rp.sz α ≤ cap * Rp.sz α := Nat.mul_le_mul_right _ c3
    rw [Nat.succ_mul] at hspan
    have hrun := evStoreq_ok (w := w) (cur := cur) (e := e) hl he c2 (by omega)
    rw [Nat.zero_add] at hrun
    obtain ⟨F1, F2, F3, c, k1, k2, k3, k4⟩ := ownL_set c1 h2
    have hcl := Rp.own_len k2
    generalize hw' : w.setRow g (cur.toList.take (j.toNat * Rp.sz α + off) ++ vs ++ cur.toList.drop (j.toNat * Rp.sz α + off + vs.length)).toArray = w' at hrun
    have hother : ∀ k, k ≠ g → w'.heap[k]? = w.heap[k]? := fun k hk => by rw [← hw']; exact setRow_other w g k _ hk
    simp only [List.flatten_append, List.flatten_cons, List.flatten_nil, List.append_nil] at hnd hlt
    rw [k1] at hnd hlt
    have hnd0 := hnd
    rw [List.nodup_append] at hnd0
    obtain ⟨n1, n2, n3⟩ := hnd0
    rw [List.nodup_cons] at n2
    obtain ⟨n4, n5⟩ := n2
    have hg1 : ∀ k ∈ Fc.flatten, k ≠ g := fun k hk e => n3 k hk g (by simp) e
    have hg2 : ∀ k ∈ F1 ++ (F2 ++ F3), k ≠ g := fun k hk e => n4 (e ▸ hk)
    have own2 : Rp.own w' F2 x c := Rp.own_stable k2 (fun k hk => hother k (hg2 k (by simp [hk])))
    have ownc : holdsAll w' Rc Fc := holdsAll_stable b1 (fun k hk => hother k (hg1 k hk))
    have sub2 : F2.Nodup := (List.nodup_append.1 (List.nodup_append.1 n5).2.1).1
    have d2 : (F2 ++ Fc.flatten).Nodup := by
      rw [List.nodup_append]
      exact ⟨sub2, n1, fun p hp q hq e => n3 q hq p (by simp [hp]) e.symm⟩
    obtain ⟨G, o1, o2, o3⟩ := ho w' c F2 Fc own2 ownc d2
    have own' := k4 w' G x' _ o1 (fun k hk => hother k (hg2 k (by simp only [List.mem_append] at hk ⊢; rcases hk with hk | hk; exact .inl hk; exact .inr (.inr hk))))
    have hgl : w'.heap[g]? = some (.cells (cur.toList.take (j.toNat * Rp.sz α + off) ++ vs ++ cur.toList.drop (j.toNat * Rp.sz α + off + vs.length)).toArray e (0, 0)) := by rw [← hw']; exact setRow_heap w g cur _ e _ c2
    have hnF : (F1 ++ (G ++ F3)).Nodup := by
      rw [List.nodup_append, List.nodup_append]
      rw [List.nodup_append, List.nodup_append] at n5
      obtain ⟨m1, ⟨m2, m3, m4⟩, m5⟩ := n5
      refine ⟨m1, ⟨o2, m3, fun p hp q hq e => ?_⟩, fun p hp q hq e => ?_⟩
      · have := o3 p hp
        rw [List.mem_append] at this
        rcases this with h | h
        · exact m4 p h q hq e
        · exact n3 p h q (by simp [hq]) e
      · rw [List.mem_append] at hq
        rcases hq with hq | hq
        · have := o3 q hq
          rw [List.mem_append] at this
          rcases this with h | h
          · exact m5 p hp q (by simp [h]) e
          · exact n3 q h p (by simp [hp]) e.symm
        · exact m5 p hp q (by simp [hq]) e
    have hsubF : ∀ k ∈ F1 ++ (G ++ F3), k ∈ Fc.flatten ∨ k ∈ F1 ++ (F2 ++ F3) := by
      intro k hk
      rw [List.mem_append, List.mem_append] at hk
      rcases hk with hk | hk | hk
      · exact .inr (by simp [hk])
      · have := o3 k hk
        rw [List.mem_append] at this
        rcases this with h | h
        · exact .inr (by simp [h])
        · exact .inl h
      · exact .inr (by simp [hk])
    unfold wpList
    rw [if_pos (wantedS_ok hl hw)]
    refine .inl ?_
    unfold Oper.wp
    rw [hrun]
    refine k γ _ w' (hl.putS hp trivial) ?_
    refine hback w' _ (g :: (F1 ++ (G ++ F3))) (by rw [← hw']; rfl) (by rw [← hw']; rfl) (by rw [← hw']; rfl) (by rw [← hw']; simp) (.inr ⟨g, _, _, _, rfl, rfl, own', hgl, by simpa using c3, c4, ?_, ?_⟩) ?_ ?_ ?_
    · simp only [List.size_toArray, List.length_append, List.length_take, List.length_drop, Array.length_toList, c5]
      omega
    · -- the cells
      have hcur : cur.toList.take (xs.length * Rp.sz α) = ys := c6
      have hcurlen : cur.toList.length = cap * Rp.sz α := by simpa using c5
      apply List.ext_getElem?
      intro q
      have hya : ∀ q, q < xs.length * Rp.sz α → cur.toList[q]? = ys[q]? := fun q hq => by rw [← hcur, List.getElem?_take, if_pos hq]
      rw [List.length_set, List.getElem?_take]
      generalize hJ : j.toNat * Rp.sz α = J at *
      generalize hN : xs.length * Rp.sz α = N at *
      by_cases hq : q < N
      · rw [if_pos hq]
        simp only [List.append_assoc]
        by_cases q1 : q < J + off
        · rw [List.getElem?_append_left (by simp; omega), List.getElem?_take, if_pos q1, hya q hq]
          by_cases q2 : q < J
          · rw [List.getElem?_append_left (by simp; omega), List.getElem?_take, if_pos q2]
          · rw [List.getElem?_append_right (by simp; omega), List.getElem?_append_left (by simp [writeAt]; omega)]
            have := k3 (q - J) (by omega)
            rw [show J + (q - J) = q by omega] at this
            rw [this]
            unfold writeAt
            rw [List.length_take, Nat.min_eq_left (by omega), List.append_assoc, List.getElem?_append_left (by simp; omega), List.getElem?_take, if_pos (by omega)]
        · rw [List.getElem?_append_right (by simp; omega), List.length_take, Nat.min_eq_left (by omega)]
          by_cases q2 : q < J + off + vs.length
          · rw [List.getElem?_append_left (by omega)]
            rw [List.getElem?_append_right (by simp; omega), List.getElem?_append_left (by simp [writeAt]; omega)]
            unfold writeAt
            rw [List.length_take, Nat.min_eq_left (by omega), List.append_assoc, List.getElem?_append_right (by simp; omega), List.length_take, Nat.min_eq_left (by omega), List.getElem?_append_left (by omega)]
            congr 1; omega
          · rw [List.getElem?_append_right (by omega), List.getElem?_drop, show J + off + vs.length + (q - (J + off) - vs.length) = q by omega, hya q hq]
            by_cases q3 : q < J + Rp.sz α
            · rw [List.getElem?_append_right (by simp; omega), List.length_take, Nat.min_eq_left (by omega), List.getElem?_append_left (by simp [writeAt]; omega)]
              have := k3 (q - J) (by omega)
              rw [show J + (q - J) = q by omega] at this
              rw [this]
              unfold writeAt
              rw [List.append_assoc, List.getElem?_append_right (by simp; omega), List.length_take, Nat.min_eq_left (by omega), List.getElem?_append_right (by omega), List.getElem?_drop]
              congr 1; omega
            · rw [List.getElem?_append_right (by simp; omega), List.length_take, Nat.min_eq_left (by omega), List.getElem?_append_right (by simp [writeAt]; omega), List.getElem?_drop]
              congr 1
              simp [writeAt]; omega
      · rw [if_neg hq, List.getElem?_eq_none (by simp [writeAt]; omega)]
    · rw [List.nodup_cons]
      refine ⟨fun hm => ?_, hnF⟩
      rcases hsubF g hm with h | h
      · exact hg1 g h rfl
      · exact hg2 g h rfl
    · intro q hq
      refine .inl ?_
      simp only [List.flatten_append, List.flatten_cons, List.flatten_nil, List.append_nil, List.mem_append]
      rw [List.mem_cons] at hq
      rcases hq with rfl | hq
      · exact .inr (by simp)
      · rcases hsubF q hq with h | h
        · exact .inl h
        · exact .inr (by rw [k1]; simp only [List.mem_cons]; exact .inr h)
    · intro q hq hne
      refine hother q (fun e => hne ?_)
      subst e
      simp

theorem own_flat_set {α : Type} [Flat α] {w : World} {x x' : α} {c vs : List Value} {F : List Nat} {Fs : List (List Nat)} {off : Nat} (h : writeAt (Flat.enc x) off vs = Flat.enc x') (ho : Rp.own w F x c) : ∃ G, Rp.own w G x' (writeAt c off vs) ∧ G.Nodup ∧ ∀ g ∈ G, g ∈ F ++ Fs.flatten := by
  obtain ⟨rfl, rfl⟩ := ho
  exact ⟨[], ⟨rfl, h⟩, by simp, by simp⟩

theorem own_flat {α : Type} [Flat α] {xs : List α} {cs : List Value} (h : encL xs = cs) : ∀ (w : World) (Fs : List (List Nat)), holdsAll w [] Fs → ownL w Fs.flatten xs cs := by
  intro w Fs hF
  simp only [holdsAll] at hF
  subst hF h
  exact ownL_enc w xs

theorem own_single {α : Type} [Rp α] {x : α} {cs : List Value} (h : ∀ w Fs, holdsAll w Rc Fs → Rp.own w Fs.flatten x cs) : ∀ (w : World) (Fs : List (List Nat)), holdsAll w Rc Fs → ownL w Fs.flatten [x] cs :=
  fun w Fs hF => ⟨Fs.flatten, [], cs, [], by simp, by simp, h w Fs hF, rfl, rfl⟩

theorem own_full {α : Type} [Rp α] {x x' : α} {vs : List Value} (hl : vs.length = Rp.sz α) (h : ∀ w Fs, holdsAll w Rc Fs → Rp.own w Fs.flatten x' vs) : ∀ (w : World) (c : List Value) (F : List Nat) (Fs : List (List Nat)), Rp.own w F x c → holdsAll w Rc Fs → (F ++ Fs.flatten).Nodup →
    ∃ G, Rp.own w G x' (writeAt c 0 vs) ∧ G.Nodup ∧ ∀ g ∈ G, g ∈ F ++ Fs.flatten := by
  intro w c F Fs ho hF hnd
  have hc := Rp.own_len ho
  refine ⟨Fs.flatten, ?_, (List.nodup_append.1 hnd).2.1, fun g hg => by simp only [List.mem_append]; exact .inr hg⟩
  have : writeAt c 0 vs = vs := by simp [writeAt, hl, hc]
  rw [this]
  exact h w Fs hF

theorem idx_set {α : Type} {xs xs' : List α} {j : Int} {x x' : α} (hx : idx xs j = some x) (h : xs' = xs.set j.toNat x') : idx xs' j = some x' := by
  obtain ⟨h0, h1, h2⟩ := idx_some hx
  subst h
  unfold idx
  rw [if_pos h0, List.getElem?_set_self (List.getElem?_eq_some_iff.1 h2).1]

theorem len_set {α : Type} {xs xs' : List α} {j : Nat} {x' : α} (h : xs' = xs.set j x') : xs.length = xs'.length := by subst h; simp

theorem CellsAt.kept {W0 w : World} {a : Option Addr} {k : Nat} {cs : List Value} (h : CellsAt W0 a k cs) (hk : Kept (fun _ => False) W0 w) : CellsAt w a k cs := by
  intro j u hu
  obtain ⟨d, hd, hc⟩ := h j u hu
  refine ⟨d, hd, ?_⟩
  rw [World.cell?_of_block (w := W0) (w' := w) (hk.block _ (World.block_lt_of_cell? W0 _ hc) (fun x => x))]
  exact hc

theorem JO_eqE {l : List Oper} (h1 : sl = sl') (h2 : bx = bx') (k : JO P A W0 n ops l sl' bx' R Q) : JO P A W0 n ops l sl bx R Q := by subst h1 h2; exact k

/-- The lengths agree, or it is none. -/
def sameLen {α β : Type} (l : List α) (l' : List β) : Option Unit := if l.length = l'.length then some () else none
theorem sameLen_some {α β : Type} {l : List α} {l' : List β} {u : Unit} (h : sameLen l l' = some u) : l.length = l'.length := by
  unfold sameLen at h
  split at h
  · assumption
  · cases h

end
end Go.Pen
