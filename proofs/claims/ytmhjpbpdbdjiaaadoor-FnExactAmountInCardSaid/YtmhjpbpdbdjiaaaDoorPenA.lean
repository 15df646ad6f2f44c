/-
  A small logic for walking Go functions: states of live slots and own boxes, an evaluator for plain operations, its soundness over the guide's rules.
-/
import Derived.WalkKit
import Derived.ProofKit
import Derived.OrdersHeld
import Derived.Deep.QuietTactic
import Derived.Deep.LoopGhost
namespace Go.Pen
open Go.RowKit
set_option linter.unusedVariables false

/-! ### Plain runs -/

/-- What a computation gives that touches no memory. -/
def pureRun (P : Program) {α : Type} : Sem α → Option α
  | .pure a => some a
  | .program k => pureRun P (k P)
  | .load _ _ _ => none
  | .store _ _ _ _ => none
  | .new _ _ => none
  | .shape _ _ => none
  | .freeze _ _ _ => none
  | .frozen _ _ => none
  | .getObj _ _ => none
  | .setObj _ _ _ => none
  | .choose _ _ => none
  | .sys _ _ => none
  | .mark _ _ => none
  | .halt _ => none

theorem pureRun_ok {P : Program} {α : Type} {a : α} : ∀ (s : Sem α), pureRun P s = some a → ∀ w, s.run P w = .ok a w := by
  intro s
  induction s with
  | pure x => intro h w; simp only [pureRun, Option.some.injEq] at h; subst h; rfl
  | program k ih => intro h w; exact ih P h w
  | _ => intro h; simp [pureRun] at h

/-! ### Symbolic values and slots -/

/-- A slot's content: a value; a pointer into own box k; a pointer to the k-th cell behind a slice's start. -/
inductive SV where
  | v (x : Value)
  | p (k off : Nat)
  | q (a : Option Addr) (k : Nat)
  | f (fid : FuncId) (ks : List (Nat × Nat))

/-- The boxes that it names are among the first m. -/
def SV.inb (m : Nat) : SV → Prop
  | .v _ => True
  | .p k _ => k < m
  | .q _ _ => True
  | .f _ ks => ∀ e ∈ ks, e.1 < m

theorem SV.inb.mono {m m' : Nat} {x : SV} (h : x.inb m) (hm : m ≤ m') : x.inb m' := by
  cases x with
  | v y => trivial
  | p k off => exact Nat.lt_of_lt_of_le h hm
  | q a k => trivial
  | f i ks => exact fun e he => Nat.lt_of_lt_of_le (h e he) hm

def SV.den (γ : List Nat) : SV → Value
  | .v x => x
  | .p k off => .pointer (some ⟨γ.getD k 0, off, none⟩)
  | .q a k => .pointer (some ⟨(a.getD ⟨0, 0, none⟩).block, (a.getD ⟨0, 0, none⟩).off + k, none⟩)
  | .f i ks => .func (.func i) #[] (ks.map fun e => Value.pointer (some ⟨γ.getD e.1 0, e.2, none⟩)).toArray

def look : List (Nat × SV) → Nat → Option SV
  | [], _ => none
  | (k, x) :: r, t => bif Nat.beq k t then some x else look r t

def del (t : Nat) : List (Nat × SV) → List (Nat × SV)
  | [] => []
  | (k, x) :: r => bif Nat.beq k t then del t r else (k, x) :: del t r

def setS (sl : List (Nat × SV)) (t : Nat) (x : SV) : List (Nat × SV) := (t, x) :: del t sl

theorem look_del_ne {sl : List (Nat × SV)} {t u : Nat} (h : t ≠ u) : look (del t sl) u = look sl u := by
  induction sl with
  | nil => rfl
  | cons e r ih =>
    obtain ⟨k, x⟩ := e
    by_cases hk : k = t
    · subst hk
      have h2 : Nat.beq k u = false := by rw [← Bool.not_eq_true, Nat.beq_eq]; exact h
      simp [del, look, h2, ih]
    · have h1 : Nat.beq k t = false := by rw [← Bool.not_eq_true, Nat.beq_eq]; exact hk
      simp only [del, h1, cond_false, look]
      cases Nat.beq k u <;> simp [ih]

theorem look_set_same {sl : List (Nat × SV)} {t : Nat} {x : SV} : look (setS sl t x) t = some x := by
  simp [setS, look]

theorem look_set_ne {sl : List (Nat × SV)} {t u : Nat} {x : SV} (h : t ≠ u) : look (setS sl t x) u = look sl u := by
  have h2 : Nat.beq t u = false := by rw [← Bool.not_eq_true, Nat.beq_eq]; exact h
  simp [setS, look, h2, look_del_ne h]

/-- The slots to keep. -/
def keepS (ks : List Nat) (sl : List (Nat × SV)) : Option (List (Nat × SV)) :=
  match ks with
  | [] => some []
  | k :: r => match look sl k, keepS r sl with
    | some x, some l => some ((k, x) :: l)
    | _, _ => none

theorem look_keep {ks : List Nat} {sl sl' : List (Nat × SV)} (h : keepS ks sl = some sl') {t : Nat} {x : SV} (hx : look sl' t = some x) : look sl t = some x := by
  induction ks generalizing sl' with
  | nil => simp [keepS] at h; subst h; simp [look] at hx
  | cons k r ih =>
    simp only [keepS] at h
    split at h
    · rename_i y l hy hl
      simp at h; subst h
      simp only [look] at hx
      by_cases hk : k = t
      · subst hk; simp at hx; subst hx; exact hy
      · have h1 : Nat.beq k t = false := by rw [← Bool.not_eq_true, Nat.beq_eq]; exact hk
        rw [h1] at hx
        exact ih hl hx
    · cases h

/-! ### Resources -/

/-- A part of memory that the call owns: what holds of it, by the blocks that it takes. -/
structure Res where
  holds : World → List Nat → Prop
  stable : ∀ w w' F, holds w F → (∀ g ∈ F, w'.heap[g]? = w.heap[g]?) → holds w' F
  lt : ∀ w F, holds w F → ∀ g ∈ F, g < w.heap.size

/-- Apart from the blocks of A nothing that was there has turned. -/
structure Kept (A : Nat → Prop) (W0 w : World) : Prop where
  os : w.os = W0.os
  tape : w.tape = W0.tape
  output : w.output = W0.output
  size : W0.heap.size ≤ w.heap.size
  block : ∀ k, k < W0.heap.size → ¬ A k → w.heap[k]? = W0.heap[k]?

theorem Kept.refl (A : Nat → Prop) (w : World) : Kept A w w := ⟨rfl, rfl, rfl, Nat.le_refl _, fun _ _ _ => rfl⟩

def holdsAll (w : World) : List Res → List (List Nat) → Prop
  | [], Fs => Fs = []
  | r :: R, Fs => ∃ F Fs', Fs = F :: Fs' ∧ r.holds w F ∧ holdsAll w R Fs'

def BoxesAt (γ : List Nat) (bx : List (TypeId × List Value)) (w : World) : Prop :=
  ∀ k e cs, bx[k]? = some (e, cs) → w.heap[γ.getD k 0]? = some (.cells cs.toArray e (0, 0))

structure SAT (A : Nat → Prop) (W0 : World) (γ : List Nat) (bx : List (TypeId × List Value)) (R : List Res) (w : World) : Prop where
  kept : Kept A W0 w
  len : γ.length = bx.length
  boxes : BoxesAt γ bx w
  own : ∃ Fs, holdsAll w R Fs ∧ (γ ++ Fs.flatten).Nodup ∧ ∀ g ∈ γ ++ Fs.flatten, g < w.heap.size ∧ (W0.heap.size ≤ g ∨ A g)

theorem holdsAll_stable {w w' : World} {R : List Res} {Fs : List (List Nat)} (h : holdsAll w R Fs) (hs : ∀ g ∈ Fs.flatten, w'.heap[g]? = w.heap[g]?) : holdsAll w' R Fs := by
  induction R generalizing Fs with
  | nil => exact h
  | cons r R ih =>
    obtain ⟨F, Fs', rfl, hr, hR⟩ := h
    exact ⟨F, Fs', rfl, r.stable _ _ _ hr (fun g hg => hs g (by simp [hg])), ih hR (fun g hg => hs g (by simp only [List.flatten_cons, List.mem_append]; exact .inr hg))⟩

theorem holdsAll_lt {w : World} {R : List Res} {Fs : List (List Nat)} (h : holdsAll w R Fs) : ∀ g ∈ Fs.flatten, g < w.heap.size := by
  induction R generalizing Fs with
  | nil => simp [holdsAll] at h; subst h; simp
  | cons r R ih =>
    obtain ⟨F, Fs', rfl, hr, hR⟩ := h
    intro g hg
    simp only [List.flatten_cons, List.mem_append] at hg
    rcases hg with hg | hg
    · exact r.lt _ _ hr g hg
    · exact ih hR g hg

theorem Kept.trans_of {A : Nat → Prop} {W0 w w' : World} (h : Kept A W0 w) (os : w'.os = w.os) (tape : w'.tape = w.tape) (out : w'.output = w.output)
    (size : w.heap.size ≤ w'.heap.size) (hb : ∀ k, k < W0.heap.size → ¬ A k → w'.heap[k]? = w.heap[k]?) : Kept A W0 w' :=
  ⟨os.trans h.os, tape.trans h.tape, out.trans h.output, Nat.le_trans h.size size, fun k hk hA => (hb k hk hA).trans (h.block k hk hA)⟩

/-- A draw. -/
theorem SAT.drew {A : Nat → Prop} {W0 w : World} {γ bx R} (h : SAT A W0 γ bx R w) : SAT A W0 γ bx R w.drew := by
  obtain ⟨Fs, h1, h2, h3⟩ := h.own
  exact ⟨h.kept.trans_of rfl rfl rfl (Nat.le_refl _) (fun _ _ _ => rfl), h.len, h.boxes, Fs, holdsAll_stable h1 (fun _ _ => rfl), h2, h3⟩

/-- A new box. -/
theorem SAT.alloc {A : Nat → Prop} {W0 w : World} {γ bx R} (h : SAT A W0 γ bx R w) (e : TypeId) (cs : List Value) :
    SAT A W0 (γ ++ [w.heap.size]) (bx ++ [(e, cs)]) R (w.alloc (.cells cs.toArray e)) := by
  obtain ⟨Fs, h1, h2, h3⟩ := h.own
  have hold : ∀ k, k < w.heap.size → (w.alloc (.cells cs.toArray e)).heap[k]? = w.heap[k]? := fun k hk => Below.heap_alloc w _ k hk
  refine ⟨h.kept.trans_of rfl rfl rfl (by simp) (fun k hk _ => hold k (Nat.lt_of_lt_of_le hk h.kept.size)), by simp [h.len], ?_, Fs, holdsAll_stable h1 (fun g hg => hold g (h3 g (by simp [hg])).1), ?_, ?_⟩
  · intro k e' cs' hk
    rw [List.getElem?_append] at hk
    have hl := h.len
    split at hk
    · rename_i hlt
      have hlt' : k < γ.length := by omega
      have := h.boxes k e' cs' hk
      rw [show (γ ++ [w.heap.size]).getD k 0 = γ.getD k 0 by simp [List.getD, List.getElem?_append, hlt'], hold]
      · exact this
      · have hm : γ.getD k 0 ∈ γ ++ Fs.flatten := by
          simp only [List.getD_eq_getElem?_getD, List.getElem?_eq_getElem hlt', Option.getD_some, List.mem_append]
          exact .inl (List.getElem_mem _)
        exact (h3 _ hm).1
    · rename_i hge
      have hk0 : k = bx.length := by
        by_cases hh : k - bx.length = 0
        · omega
        · rw [List.getElem?_eq_none (by simp; omega)] at hk; cases hk
      subst hk0
      simp only [Nat.sub_self, List.getElem?_cons_zero, Option.some.injEq, Prod.mk.injEq] at hk
      obtain ⟨rfl, rfl⟩ := hk
      rw [show (γ ++ [w.heap.size]).getD bx.length 0 = w.heap.size by simp [List.getD, h.len]]
      exact heap_alloc_new w _
  · have hn : w.heap.size ∉ γ ++ Fs.flatten := fun hm => Nat.lt_irrefl _ (h3 _ hm).1
    rw [List.mem_append] at hn
    rw [List.append_assoc, List.nodup_append]
    rw [List.nodup_append] at h2
    refine ⟨h2.1, by simp only [List.cons_append, List.nil_append, List.nodup_cons]; exact ⟨fun hm => hn (.inr hm), h2.2.1⟩, ?_⟩
    intro x hx y hy
    simp only [List.cons_append, List.nil_append, List.mem_cons] at hy
    rcases hy with rfl | hy
    · exact fun e => hn (.inl (e ▸ hx))
    · exact h2.2.2 x hx y hy
  · intro g hg
    have hz := h.kept.size
    simp only [List.append_assoc, List.mem_append, List.mem_cons, List.cons_append, List.nil_append] at hg
    rcases hg with hg | hg | hg
    · have := h3 g (by simp [hg]); exact ⟨by simp; omega, this.2⟩
    · subst hg; exact ⟨by simp, .inl hz⟩
    · have := h3 g (by simp only [List.mem_append]; exact .inr hg); exact ⟨by simp; omega, this.2⟩

/-- A box written. -/
theorem SAT.setBox {A : Nat → Prop} {W0 w : World} {γ bx R} (h : SAT A W0 γ bx R w) {k : Nat} {e : TypeId} {cs : List Value} (hk : bx[k]? = some (e, cs)) (cs' : List Value) :
    SAT A W0 γ (bx.set k (e, cs')) R (w.setRow (γ.getD k 0) cs'.toArray) := by
  obtain ⟨Fs, h1, h2, h3⟩ := h.own
  have hkl : k < bx.length := (List.getElem?_eq_some_iff.1 hk).1
  have hkg : k < γ.length := by rw [h.len]; exact hkl
  have hb := h.boxes k e cs hk
  have hgm : γ.getD k 0 ∈ γ := by
    simp only [List.getD_eq_getElem?_getD, List.getElem?_eq_getElem hkg, Option.getD_some]; exact List.getElem_mem _
  have hother : ∀ g, g ≠ γ.getD k 0 → (w.setRow (γ.getD k 0) cs'.toArray).heap[g]? = w.heap[g]? := fun g hg => setRow_other w _ g _ hg
  have hnd := List.nodup_append.1 h2
  refine ⟨h.kept.trans_of rfl rfl rfl (by simp) (fun j hj hA => hother j ?_), by simp [h.len], ?_, Fs, holdsAll_stable h1 (fun g hg => hother g ?_), h2, fun g hg => by simpa using h3 g hg⟩
  · intro e2; subst e2
    rcases (h3 (γ.getD k 0) (by simp only [List.mem_append]; exact .inl hgm)).2 with h4 | h4
    · omega
    · exact hA h4
  · intro j e2 cs2 hj
    rw [List.getElem?_set] at hj
    split at hj
    · rename_i hkj
      subst hkj
      simp only [Option.some.injEq, Prod.mk.injEq] at hj
      obtain ⟨rfl, rfl⟩ := hj
      exact setRow_heap w _ _ _ _ _ hb
    · rename_i hne
      have hjl : j < γ.length := by rw [h.len]; exact (List.getElem?_eq_some_iff.1 hj).1
      rw [hother]
      · exact h.boxes j e2 cs2 hj
      · simp only [List.getD_eq_getElem?_getD, List.getElem?_eq_getElem hjl, List.getElem?_eq_getElem hkg, Option.getD_some]
        intro e3
        exact hne ((List.getElem_inj hnd.1).1 e3.symm)
  · intro e2; subst e2
    exact hnd.2.2 _ hgm _ hg rfl

/-- Something else has grown: no block below the size has turned. -/
theorem SAT.below {A : Nat → Prop} {W0 w w' : World} {γ bx R} (h : SAT A W0 γ bx R w) (hb : Below w.heap.size w w') : SAT A W0 γ bx R w' := by
  obtain ⟨Fs, h1, h2, h3⟩ := h.own
  refine ⟨h.kept.trans_of hb.os hb.tape hb.output hb.size (fun k hk _ => hb.block k (Nat.lt_of_lt_of_le hk h.kept.size)), h.len, ?_, Fs,
    holdsAll_stable h1 (fun g hg => hb.block g (h3 g (by simp only [List.mem_append]; exact .inr hg)).1), h2, fun g hg => ⟨Nat.lt_of_lt_of_le (h3 g hg).1 hb.size, (h3 g hg).2⟩⟩
  intro k e cs hk
  have hkg : k < γ.length := by rw [h.len]; exact (List.getElem?_eq_some_iff.1 hk).1
  rw [hb.block]
  · exact h.boxes k e cs hk
  · refine (h3 (γ.getD k 0) ?_).1
    simp only [List.getD_eq_getElem?_getD, List.getElem?_eq_getElem hkg, Option.getD_some, List.mem_append]; exact .inl (List.getElem_mem _)

end Go.Pen
