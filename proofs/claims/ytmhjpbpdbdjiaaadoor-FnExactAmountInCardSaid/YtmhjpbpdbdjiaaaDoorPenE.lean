/-
  Data in memory: what cells represent, slices that are read, slices that are owned; the operations on slices.
-/
import Derived.Test.YtmhjpbpdbdjiaaaDoorPenD
namespace Go.Pen
open Go.RowKit
set_option linter.unusedVariables false

/-- Data that lies in a row of sz cells, perhaps with memory of its own behind it. -/
class Rp (α : Type) where
  sz : Nat
  pos : 0 < sz
  own : World → List Nat → α → List Value → Prop
  view : World → α → List Value → Prop
  own_len : ∀ {w F x cs}, own w F x cs → cs.length = sz
  view_len : ∀ {w x cs}, view w x cs → cs.length = sz
  own_one : ∀ {w F x cs}, own w F x cs → ∀ c ∈ cs, c.oneCell' = true
  own_stable : ∀ {w w' F x cs}, own w F x cs → (∀ g ∈ F, w'.heap[g]? = w.heap[g]?) → own w' F x cs
  own_lt : ∀ {w F x cs}, own w F x cs → ∀ g ∈ F, g < w.heap.size
  view_own : ∀ {w F x cs}, own w F x cs → view w x cs
  view_stable : ∀ {w w' x cs}, view w x cs → (∀ g, g < w.heap.size → w'.heap[g]? = w.heap[g]?) → view w' x cs

/-- Data that is its cells. -/
class Flat (α : Type) where
  sz : Nat
  pos : 0 < sz
  enc : α → List Value
  len : ∀ x, (enc x).length = sz
  one : ∀ x, ∀ c ∈ enc x, c.oneCell' = true

instance {α : Type} [Flat α] : Rp α where
  sz := Flat.sz α
  pos := Flat.pos
  own _ F x cs := F = [] ∧ cs = Flat.enc x
  view _ x cs := cs = Flat.enc x
  own_len := by rintro w F x cs ⟨_, rfl⟩; exact Flat.len x
  view_len := by rintro w x cs rfl; exact Flat.len x
  own_one := by rintro w F x cs ⟨_, rfl⟩; exact Flat.one x
  own_stable := fun h _ => h
  own_lt := by rintro w F x cs ⟨rfl, _⟩ g hg; simp at hg
  view_own := fun h => h.2
  view_stable := fun h _ => h

instance : Flat Int := ⟨1, by decide, fun n => [.int .i64 n], fun _ => rfl, fun _ c hc => by simp only [List.mem_singleton] at hc; subst hc; rfl⟩
instance : Flat Bool := ⟨1, by decide, fun n => [.bool n], fun _ => rfl, fun _ c hc => by simp only [List.mem_singleton] at hc; subst hc; rfl⟩
instance : Flat ByteArray := ⟨1, by decide, fun n => [.string n], fun _ => rfl, fun _ c hc => by simp only [List.mem_singleton] at hc; subst hc; rfl⟩

/-- A byte, as the number that it is. -/
structure U8 where
  n : Int
instance : Flat U8 := ⟨1, by decide, fun x => [.int .u8 x.n], fun _ => rfl, fun _ c hc => by simp only [List.mem_singleton] at hc; subst hc; rfl⟩

section
variable {α : Type} [Rp α]

def ownL (w : World) : List Nat → List α → List Value → Prop
  | F, [], xs => F = [] ∧ xs = []
  | F, x :: l, xs => ∃ F1 F2 c1 c2, F = F1 ++ F2 ∧ xs = c1 ++ c2 ∧ Rp.own w F1 x c1 ∧ ownL w F2 l c2

def viewL (w : World) : List α → List Value → Prop
  | [], xs => xs = []
  | x :: l, xs => ∃ c1 c2, xs = c1 ++ c2 ∧ Rp.view w x c1 ∧ viewL w l c2

theorem ownL_len {w : World} : ∀ {F : List Nat} {l : List α} {xs : List Value}, ownL w F l xs → xs.length = l.length * Rp.sz α
  | F, [], xs, h => by simp [h.2]
  | F, x :: l, xs, ⟨F1, F2, c1, c2, _, hx, h1, h2⟩ => by
    rw [hx, List.length_append, Rp.own_len h1, ownL_len h2, List.length_cons, Nat.succ_mul, Nat.add_comm]

theorem viewL_len {w : World} : ∀ {l : List α} {xs : List Value}, viewL w l xs → xs.length = l.length * Rp.sz α
  | [], xs, h => by simp only [viewL] at h; simp [h]
  | x :: l, xs, ⟨c1, c2, hx, h1, h2⟩ => by
    rw [hx, List.length_append, Rp.view_len h1, viewL_len h2, List.length_cons, Nat.succ_mul, Nat.add_comm]

theorem ownL_one {w : World} : ∀ {F : List Nat} {l : List α} {xs : List Value}, ownL w F l xs → ∀ c ∈ xs, c.oneCell' = true
  | F, [], xs, h, c, hc => by rw [h.2] at hc; simp at hc
  | F, x :: l, xs, ⟨F1, F2, c1, c2, _, hx, h1, h2⟩, c, hc => by
    rw [hx, List.mem_append] at hc
    rcases hc with hc | hc
    · exact Rp.own_one h1 c hc
    · exact ownL_one h2 c hc

theorem ownL_stable {w w' : World} : ∀ {F : List Nat} {l : List α} {xs : List Value}, ownL w F l xs → (∀ g ∈ F, w'.heap[g]? = w.heap[g]?) → ownL w' F l xs
  | F, [], xs, h, _ => h
  | F, x :: l, xs, ⟨F1, F2, c1, c2, hF, hx, h1, h2⟩, hs =>
    ⟨F1, F2, c1, c2, hF, hx, Rp.own_stable h1 (fun g hg => hs g (by rw [hF]; simp [hg])), ownL_stable h2 (fun g hg => hs g (by rw [hF]; simp [hg]))⟩

theorem ownL_lt {w : World} : ∀ {F : List Nat} {l : List α} {xs : List Value}, ownL w F l xs → ∀ g ∈ F, g < w.heap.size
  | F, [], xs, h, g, hg => by rw [h.1] at hg; simp at hg
  | F, x :: l, xs, ⟨F1, F2, c1, c2, hF, hx, h1, h2⟩, g, hg => by
    rw [hF, List.mem_append] at hg
    rcases hg with hg | hg
    · exact Rp.own_lt h1 g hg
    · exact ownL_lt h2 g hg

theorem viewL_own {w : World} : ∀ {F : List Nat} {l : List α} {xs : List Value}, ownL w F l xs → viewL w l xs
  | F, [], xs, h => h.2
  | F, x :: l, xs, ⟨F1, F2, c1, c2, hF, hx, h1, h2⟩ => ⟨c1, c2, hx, Rp.view_own h1, viewL_own h2⟩

theorem viewL_stable {w w' : World} : ∀ {l : List α} {xs : List Value}, viewL w l xs → (∀ g, g < w.heap.size → w'.heap[g]? = w.heap[g]?) → viewL w' l xs
  | [], xs, h, _ => h
  | x :: l, xs, ⟨c1, c2, hx, h1, h2⟩, hs => ⟨c1, c2, hx, Rp.view_stable h1 hs, viewL_stable h2 hs⟩

theorem ownL_append {w : World} : ∀ {F1 F2 : List Nat} {l1 l2 : List α} {x1 x2 : List Value}, ownL w F1 l1 x1 → ownL w F2 l2 x2 → ownL w (F1 ++ F2) (l1 ++ l2) (x1 ++ x2)
  | F1, F2, [], l2, x1, x2, h1, h2 => by obtain ⟨rfl, rfl⟩ := h1; exact h2
  | F1, F2, x :: l1, l2, x1, x2, ⟨G1, G2, c1, c2, hF, hx, h3, h4⟩, h2 =>
    ⟨G1, G2 ++ F2, c1, c2 ++ x2, by rw [hF, List.append_assoc], by rw [hx, List.append_assoc], h3, ownL_append h4 h2⟩

theorem viewL_at {w : World} : ∀ {l : List α} {xs : List Value} {j : Nat} {x : α}, viewL w l xs → l[j]? = some x → ∃ cs, Rp.view w x cs ∧ ∀ i u, cs[i]? = some u → xs[j * Rp.sz α + i]? = some u
  | [], xs, j, x, _, h => by simp at h
  | y :: l, xs, 0, x, ⟨c1, c2, hx, h1, h2⟩, h => by
    simp only [List.getElem?_cons_zero, Option.some.injEq] at h
    subst h
    refine ⟨c1, h1, fun i u hu => ?_⟩
    have := (List.getElem?_eq_some_iff.1 hu).1
    rw [hx, Nat.zero_mul, Nat.zero_add, List.getElem?_append_left this]
    exact hu
  | y :: l, xs, j + 1, x, ⟨c1, c2, hx, h1, h2⟩, h => by
    simp only [List.getElem?_cons_succ] at h
    obtain ⟨cs, g1, g2⟩ := viewL_at h2 h
    refine ⟨cs, g1, fun i u hu => ?_⟩
    have := g2 i u hu
    rw [hx, List.getElem?_append_right (by rw [Rp.view_len h1, Nat.succ_mul]; omega), Rp.view_len h1]
    rw [show (j + 1) * Rp.sz α + i - Rp.sz α = j * Rp.sz α + i by rw [Nat.succ_mul]; omega]
    exact this

/-- Cells from the k-th behind a slice's start on. -/
def CellsAt (w : World) (a : Option Addr) (k : Nat) (cs : List Value) : Prop := ∀ j u, cs[j]? = some u → ∃ d, a = some d ∧ w.cell? ⟨d.block, d.off + (k + j), none⟩ = some u

/-- Data whose numbers fit their kinds. -/
class Wf (α : Type) where
  wf : α → Prop

/-- Fits an int. -/
def i64ok (x : Int) : Prop := -9223372036854775808 ≤ x ∧ x ≤ 9223372036854775807

instance : Wf Int := ⟨i64ok⟩
instance : Wf Bool := ⟨fun _ => True⟩
instance : Wf ByteArray := ⟨fun s => s.size ≤ maxLen⟩
instance : Wf U8 := ⟨fun x => 0 ≤ x.n ∧ x.n ≤ 255⟩
instance {α : Type} [Wf α] : Wf (List α) := ⟨fun l => l.length ≤ 9223372036854775807 ∧ ∀ x ∈ l, Wf.wf x⟩

def SpotOk (a : Option Addr) : Prop := ∀ d, a = some d → d.spot = none

theorem add_spot {d : Addr} (h : d.spot = none) (k : Nat) : d.add k = ⟨d.block, d.off + k, none⟩ := by
  obtain ⟨b, o, s⟩ := d
  simp only at h
  subst h
  unfold Addr.add
  split <;> simp_all

/-- A slice that reads as these data. -/
structure SlView (w : World) (l : List α) (a : Option Addr) (cap : Nat) : Prop where
  spot : l ≠ [] → SpotOk a
  cells : ∃ xs, viewL w l xs ∧ CellsAt w a 0 xs
  nil : a = none → cap = 0
  fit : l.length ≤ cap

/-- A slice that is owned and holds these data. -/
def SlOwn (e : TypeId) (w : World) (F : List Nat) (l : List α) (a : Option Addr) (cap : Nat) : Prop :=
  (l = [] ∧ cap = 0 ∧ F = []) ∨
  ∃ g xs F' cur, a = some ⟨g, 0, none⟩ ∧ F = g :: F' ∧ ownL w F' l xs ∧ w.heap[g]? = some (.cells cur e (0, 0)) ∧ l.length ≤ cap ∧ cap ≤ maxLen ∧ cur.size = cap * Rp.sz α ∧ cur.toList.take (l.length * Rp.sz α) = xs

theorem SlOwn.stable {e : TypeId} {w w' : World} {F : List Nat} {l : List α} {a : Option Addr} {cap : Nat} (h : SlOwn e w F l a cap) (hs : ∀ g ∈ F, w'.heap[g]? = w.heap[g]?) : SlOwn e w' F l a cap := by
  rcases h with h | ⟨g, xs, F', cur, h1, h2, h3, h4, h5⟩
  · exact .inl h
  · exact .inr ⟨g, xs, F', cur, h1, h2, ownL_stable h3 (fun k hk => hs k (by rw [h2]; simp [hk])), by rw [hs g (by rw [h2]; simp)]; exact h4, h5⟩

theorem SlOwn.lt {e : TypeId} {w : World} {F : List Nat} {l : List α} {a : Option Addr} {cap : Nat} (h : SlOwn e w F l a cap) : ∀ g ∈ F, g < w.heap.size := by
  rcases h with h | ⟨g, xs, F', cur, h1, h2, h3, h4, h5⟩
  · intro k hk; rw [h.2.2] at hk; simp at hk
  · intro k hk
    rw [h2, List.mem_cons] at hk
    rcases hk with rfl | hk
    · exact (Array.getElem?_eq_some_iff.1 h4).1
    · exact ownL_lt h3 k hk

/-- The resource. -/
def SlRes (e : TypeId) (l : List α) (a : Option Addr) (cap : Nat) : Res := ⟨fun w F => SlOwn e w F l a cap, fun _ _ _ h hs => h.stable hs, fun _ _ h => h.lt⟩

theorem SlOwn.view {e : TypeId} {w : World} {F : List Nat} {l : List α} {a : Option Addr} {cap : Nat} (h : SlOwn e w F l a cap) : SlView w l a cap := by
  rcases h with ⟨rfl, rfl, _⟩ | ⟨g, xs, F', cur, rfl, h2, h3, h4, h5, h6, h7, h8⟩
  · exact ⟨fun h => absurd rfl h, ⟨[], rfl, fun j u hu => by simp at hu⟩, fun _ => rfl, Nat.zero_le _⟩
  · refine ⟨fun _ d hd => by simp only [Option.some.injEq] at hd; subst hd; rfl, ⟨xs, viewL_own h3, fun j u hu => ⟨_, rfl, ?_⟩⟩, by simp, h5⟩
    rw [cell_of_row w g _ _ _ _ h4]
    rw [← h8, List.getElem?_take] at hu
    split at hu
    · simpa using hu
    · cases hu

theorem SlView.ofNil (w : World) : SlView w ([] : List α) none 0 := ⟨fun h => absurd rfl h, ⟨[], rfl, fun j u hu => by simp at hu⟩, fun _ => rfl, Nat.le_refl _⟩

theorem SlView.stable {w w' : World} {l : List α} {a : Option Addr} {cap : Nat} (h : SlView w l a cap) (hs : ∀ g, g < w.heap.size → w'.heap[g]? = w.heap[g]?) : SlView w' l a cap := by
  obtain ⟨h1, ⟨xs, h2, h3⟩, h4, h5⟩ := h
  refine ⟨h1, ⟨xs, viewL_stable h2 hs, fun j u hu => ?_⟩, h4, h5⟩
  obtain ⟨d, hd, hc⟩ := h3 j u hu
  refine ⟨d, hd, ?_⟩
  rw [World.cell?_of_block (w := w) (w' := w') (hs _ (World.block_lt_of_cell? w _ hc))]
  exact hc

theorem SlView.kept {W0 w : World} {l : List α} {a : Option Addr} {cap : Nat} (h : SlView W0 l a cap) (hk : Kept (fun _ => False) W0 w) : SlView w l a cap :=
  h.stable fun g hg => hk.block g hg (fun x => x)

theorem SlView.at {w : World} {l : List α} {a : Option Addr} {cap j : Nat} {x : α} (h : SlView w l a cap) (hx : l[j]? = some x) : ∃ cs, Rp.view w x cs ∧ CellsAt w a (j * Rp.sz α) cs := by
  obtain ⟨h1, ⟨xs, h2, h3⟩, h4, _⟩ := h
  obtain ⟨cs, g1, g2⟩ := viewL_at h2 hx
  refine ⟨cs, g1, fun i u hu => ?_⟩
  obtain ⟨d, hd, hc⟩ := h3 _ u (g2 i u hu)
  exact ⟨d, hd, by simpa using hc⟩

theorem holdsAll_mem {w : World} {R : List Res} {Fs : List (List Nat)} (h : holdsAll w R Fs) {i : Nat} {r : Res} (hi : R[i]? = some r) : ∃ F, r.holds w F :=
  let ⟨F, _, h1, _⟩ := holdsAll_pick h hi; ⟨F, h1⟩

theorem SAT.view {A : Nat → Prop} {W0 w : World} {γ : List Nat} {bx : List (TypeId × List Value)} {R : List Res} (h : SAT A W0 γ bx R w) (i : Nat) {e : TypeId} {l : List α} {a : Option Addr} {cap : Nat}
    (hi : R[i]? = some (SlRes e l a cap)) : SlView w l a cap := by
  obtain ⟨Fs, h1, _⟩ := h.own
  obtain ⟨F, hF⟩ := holdsAll_mem h1 hi
  exact SlOwn.view hF

end

/-! ### Elements that share their memory: their cells, as they stand -/

/-- Cells as data of their own. -/
structure Raw (n : Nat) where
  cs : List Value
  len : cs.length = n + 1
  one : ∀ c ∈ cs, c.oneCell' = true
instance {n : Nat} : Flat (Raw n) := ⟨n + 1, Nat.succ_pos n, fun x => x.cs, fun x => x.len, fun x => x.one⟩
def raw (n : Nat) (cs : List Value) (h : cs.length = n + 1) (h2 : cs.all (·.oneCell') = true) : Raw n := ⟨cs, h, List.all_eq_true.1 h2⟩

def cookL {α : Type} [Rp α] {n : Nat} (w : World) : List α → List (Raw n) → Prop
  | [], [] => True
  | x :: l, r :: rs => Rp.view w x r.cs ∧ cookL w l rs
  | _, _ => False
theorem cook_nil {α : Type} [Rp α] {n : Nat} {w : World} : cookL w ([] : List α) ([] : List (Raw n)) := trivial
theorem cook_cons {α : Type} [Rp α] {n : Nat} {w : World} {x : α} {l : List α} {r : Raw n} {rs : List (Raw n)} (h : Rp.view w x r.cs) (k : cookL w l rs) : cookL w (x :: l) (r :: rs) := ⟨h, k⟩

theorem cook_view {α : Type} [Rp α] {n : Nat} {w : World} : ∀ {l : List α} {rs : List (Raw n)} {xs : List Value}, cookL w l rs → viewL w rs xs → viewL w l xs ∧ l.length = rs.length
  | [], [], xs, _, h => ⟨h, rfl⟩
  | x :: l, r :: rs, xs, ⟨h1, h2⟩, ⟨c1, c2, hx, hc, hv⟩ => by
    obtain ⟨a, b⟩ := cook_view h2 hv
    have e : c1 = r.cs := hc
    subst e
    exact ⟨⟨_, c2, hx, h1, a⟩, by simp [b]⟩
  | [], r :: rs, xs, h, _ => by cases h
  | x :: l, [], xs, h, _ => by cases h

theorem SlView.cook {α : Type} [Rp α] {n : Nat} {w : World} {l : List α} {rs : List (Raw n)} {a : Option Addr} {cap : Nat} (h : SlView w rs a cap) (k : cookL w l rs) : SlView w l a cap := by
  obtain ⟨h1, ⟨xs, h2, h3⟩, h4, h5⟩ := h
  obtain ⟨a1, a2⟩ := cook_view k h2
  exact ⟨fun hne => h1 (fun e => by subst e; cases l with
    | nil => exact hne rfl
    | cons x l => exact k), ⟨xs, a1, h3⟩, h4, by omega⟩

/-- An element of data that are their cells. -/
theorem SlView.flat {α : Type} [Flat α] {w : World} {l : List α} {a : Option Addr} {cap j : Nat} {x : α} (h : SlView w l a cap) (hx : l[j]? = some x) : CellsAt w a (j * Flat.sz α) (Flat.enc x) := by
  obtain ⟨cs, h1, h2⟩ := h.at hx
  have : cs = Flat.enc x := h1
  subst this
  exact h2

/-- The element at a place, if there is one. -/
def idx {α : Type} (l : List α) (j : Int) : Option α := if 0 ≤ j then l[j.toNat]? else none

theorem idx_some {α : Type} {l : List α} {j : Int} {x : α} (h : idx l j = some x) : 0 ≤ j ∧ j < l.length ∧ l[j.toNat]? = some x := by
  unfold idx at h
  split at h
  · rename_i h0
    have := (List.getElem?_eq_some_iff.1 h).1
    exact ⟨h0, by omega, h⟩
  · cases h

section
variable {P : Program} {A : Nat → Prop} {W0 : World} {n : Nat} {ops : Array Oper} {sl sl' : List (Nat × SV)} {bx bx' : List (TypeId × List Value)} {R R' : List Res} {Q Q' : Exit → Act → World → Prop}

/-! ### An element's address -/

/-- 'indexAddr' at a slice, the index in bounds. -/
def evIndex (P : Program) (sl : List (Nat × SV)) (o : Oper) : Option (Option Addr × Nat × Int × Nat) :=
  match o.op with
  | .indexAddr t x i => match P.underlying t, opV sl x, opV sl i with
    | some (.slice e), some (.slice a m _), some (.int _ j) => match P.info? e with
      | some inf => some (a, m, j, inf.size)
      | none => none
    | _, _, _ => none
  | _ => none

theorem evIndex_ok {γ : List Nat} {a : Act} {o : Oper} {d : Option Addr} {m : Nat} {j : Int} {s : Nat} (hl : Live n γ sl a) (h : evIndex P sl o = some (d, m, j, s)) (h0 : 0 ≤ j) (h1 : j < m) (hsp : SpotOk d) (hd : d ≠ none) (w : World) :
    (execOp a.eval o).run P w = .ok (.value (SV.den γ (.q d (j.toNat * s)))) w := by
  obtain ⟨dst, op, type, pos, after, guard⟩ := o
  unfold evIndex at h
  split at h
  · rename_i t x i hop
    simp only at hop
    subst hop
    split at h
    · rename_i e b m' c k j' ht hx hi
      split at h
      · rename_i inf hinf
        simp only [Option.some.injEq, Prod.mk.injEq] at h
        obtain ⟨rfl, rfl, rfl, rfl⟩ := h
        cases b with
        | none => exact absurd rfl hd
        | some b =>
          have hs := hsp b rfl
          simp [execOp, Instr.indexAt, asIntOf, hl.evalV hx, hl.evalV hi, run_underlying ht w, sizeOf, typeInfo, hinf, h0, h1, SV.den, add_spot hs]
      · cases h
    · cases h
  · cases h

theorem SlView.ne {α : Type} [Rp α] {w : World} {l : List α} {a : Option Addr} {cap : Nat} {x : α} {j : Nat} (h : SlView w l a cap) (hx : l[j]? = some x) : a ≠ none := by
  obtain ⟨cs, h1, h2⟩ := h.at hx
  have hlen := Rp.view_len h1
  have := Rp.pos (α := α)
  obtain ⟨d, hd, _⟩ := h2 0 cs[0] (by simp)
  rw [hd]; simp

theorem JO_index {α : Type} [Rp α] {l rest : List Oper} {o : Oper} (hl : l = o :: rest) (hw : wantedS ops sl o = some true) {d : Option Addr} {m : Nat} {j : Int} {s : Nat} (he : evIndex P sl o = some (d, m, j, s))
    {xs : List α} {x : α} {cap : Nat} (hv : ∀ γ w, SAT A W0 γ bx R w → SlView w xs d cap) (hm : m = xs.length) (hx : idx xs j = some x)
    (hp : putS n sl o.dst (.q d (j.toNat * s)) = some sl') (k : JO P A W0 n ops rest sl' bx R Q) : JO P A W0 n ops l sl bx R Q := by
  subst hl hm
  intro γ a w hl hs
  obtain ⟨h0, h1, h2⟩ := idx_some hx
  have hv' := hv γ w hs
  unfold wpList
  rw [if_pos (wantedS_ok hl hw)]
  refine .inl ?_
  unfold Oper.wp
  rw [evIndex_ok hl he h0 h1 (hv'.spot (fun e => by subst e; simp at h2)) (hv'.ne h2)]
  exact k γ _ w (hl.putS hp trivial) hs

theorem JQ_index {α : Type} [Rp α] {l rest : List Oper} {o : Oper} (hl : l = o :: rest) (hw : wantedS ops sl o = some true) {d : Option Addr} {m : Nat} {j : Int} {s : Nat} (he : evIndex P sl o = some (d, m, j, s))
    {xs : List α} {x : α} {cap : Nat} (hv : ∀ γ w, SAT A W0 γ bx R w → SlView w xs d cap) (hm : m = xs.length) (hx : idx xs j = some x)
    (hp : putS n sl o.dst (.q d (j.toNat * s)) = some sl') (k : JQ P A W0 n ops rest sl' bx R Q) : JQ P A W0 n ops l sl bx R Q := by
  subst hl hm
  intro γ a hl hg
  obtain ⟨h0, h1, h2⟩ := idx_some hx
  unfold wpQuiet
  rw [if_pos (wantedS_ok hl hw)]
  refine ⟨_, fun w hs => ?_, k γ _ (hl.putS hp trivial) hg⟩
  have hv' := hv γ w hs
  unfold Oper.quietAt
  rw [evIndex_ok hl he h0 h1 (hv'.spot (fun e => by subst e; simp at h2)) (hv'.ne h2)]
  exact ⟨rfl, rfl⟩

/-! ### A load through such an address -/

def evLoadq (P : Program) (sl : List (Nat × SV)) (o : Oper) : Option (TypeId × Option Addr × Nat) :=
  match o.op with
  | .load t x => match opv sl x with
    | some (.q d k) => some (t, d, k)
    | _ => none
  | _ => none

theorem run_loadVar_cells {w : World} {d : Addr} {t : TypeId} {cs : List Value} {base off : Nat} {v : Value} (hc : CellsAt w (some d) base cs) (h : partVal P t cs off = some v) :
    (loadVar t ⟨d.block, d.off + (base + off), none⟩).run P w = .ok v w := by
  have hcell : ∀ j u, cs[j]? = some u → w.cell? ⟨d.block, d.off + (base + j), none⟩ = some u := fun j u hu => by
    obtain ⟨d', hd, h⟩ := hc j u hu
    simp only [Option.some.injEq] at hd
    subst hd
    exact h
  unfold partVal at h
  split at h
  · rename_i ds i hd hi
    have agg : ∀ (hle : Nat.ble (off + i.size) cs.length = true), (loadCells ⟨d.block, d.off + (base + off), none⟩ i.size).run P w = .ok ((cs.drop off).take i.size).toArray w := by
      intro hle
      have hle' := Nat.le_of_ble_eq_true hle
      have hl : ((cs.drop off).take i.size).length = i.size := by simp; omega
      have := run_loadCells_list (P := P) w ⟨d.block, d.off + (base + off), none⟩ ((cs.drop off).take i.size) (fun j u hu => by
        rw [add_spot rfl]
        have hj : j < i.size := by
          have := (List.getElem?_eq_some_iff.1 hu).1
          omega
        rw [List.getElem?_take] at hu
        have := hcell (off + j) u (by simpa [hj] using hu)
        rw [show d.off + (base + off) + j = d.off + (base + (off + j)) by omega]
        exact this)
      rwa [hl] at this
    cases ds with
    | struct fs =>
      simp only at h
      cases hb : Nat.ble (off + i.size) cs.length with
      | false => rw [hb] at h; simp at h
      | true =>
        rw [hb] at h
        simp only [cond_true, Option.some.injEq] at h
        subst h
        simp [loadVar, isAgg, run_underlying hd w, sizeOf, typeInfo, hi, agg hb]
    | array m el =>
      simp only at h
      cases hb : Nat.ble (off + i.size) cs.length with
      | false => rw [hb] at h; simp at h
      | true =>
        rw [hb] at h
        simp only [cond_true, Option.some.injEq] at h
        subst h
        simp [loadVar, isAgg, run_underlying hd w, sizeOf, typeInfo, hi, agg hb]
    | _ =>
      simp only at h
      simp [loadVar, isAgg, run_underlying hd w, hcell off v h]
  · cases h

/-- The cell at a place in the row is there, so the address is no nil. -/
theorem partVal_pos {t : TypeId} {cs : List Value} {off : Nat} {v : Value} : True := trivial

theorem evLoadq_ok {γ : List Nat} {a : Act} {o : Oper} {t : TypeId} {d : Option Addr} {base off : Nat} {cs : List Value} {v : Value} (hl : Live n γ sl a) (h : evLoadq P sl o = some (t, d, base + off)) (hd : d ≠ none)
    {w : World} (hc : CellsAt w d base cs) (hv : partVal P t cs off = some v) : (execOp a.eval o).run P w = .ok (.value v) w := by
  obtain ⟨dst, op, type, pos, after, guard⟩ := o
  unfold evLoadq at h
  split at h
  · rename_i t' x hop
    simp only at hop
    subst hop
    split at h
    · rename_i d' k hx
      simp only [Option.some.injEq, Prod.mk.injEq] at h
      obtain ⟨rfl, rfl, rfl⟩ := h
      cases d' with
      | none => exact absurd rfl hd
      | some b =>
        have := run_loadVar_cells (P := P) hc hv
        simp [execOp, hl.eval hx, SV.den, Instr.loadAt, Instr.sureAddr, this]
    · cases h
  · cases h

theorem JO_loadq {l rest : List Oper} {o : Oper} (hl : l = o :: rest) (hw : wantedS ops sl o = some true) {t : TypeId} {d : Option Addr} (base off : Nat) (he : evLoadq P sl o = some (t, d, base + off)) {cs : List Value} {v : Value}
    (hc : ∀ γ w, SAT A W0 γ bx R w → d ≠ none ∧ CellsAt w d base cs) (hv : partVal P t cs off = some v) (hp : putS n sl o.dst (.v v) = some sl') (k : JO P A W0 n ops rest sl' bx R Q) : JO P A W0 n ops l sl bx R Q := by
  subst hl
  intro γ a w hl hs
  unfold wpList
  rw [if_pos (wantedS_ok hl hw)]
  refine .inl ?_
  unfold Oper.wp
  rw [evLoadq_ok hl he (hc γ w hs).1 (hc γ w hs).2 hv]
  exact k γ _ w (hl.putS hp trivial) hs

theorem JQ_loadq {l rest : List Oper} {o : Oper} (hl : l = o :: rest) (hw : wantedS ops sl o = some true) {t : TypeId} {d : Option Addr} (base off : Nat) (he : evLoadq P sl o = some (t, d, base + off)) {cs : List Value} {v : Value}
    (hc : ∀ γ w, SAT A W0 γ bx R w → d ≠ none ∧ CellsAt w d base cs) (hv : partVal P t cs off = some v) (hp : putS n sl o.dst (.v v) = some sl') (k : JQ P A W0 n ops rest sl' bx R Q) : JQ P A W0 n ops l sl bx R Q := by
  subst hl
  intro γ a hl hg
  unfold wpQuiet
  rw [if_pos (wantedS_ok hl hw)]
  refine ⟨_, fun w hs => ?_, k γ _ (hl.putS hp trivial) hg⟩
  unfold Oper.quietAt
  rw [evLoadq_ok hl he (hc γ w hs).1 (hc γ w hs).2 hv]
  exact ⟨rfl, rfl⟩

/-- What a slice's element needs for a load. -/
theorem SlView.flatq {α : Type} [Flat α] {w : World} {l : List α} {a : Option Addr} {cap : Nat} {j : Int} {x : α} (h : SlView w l a cap) (hx : idx l j = some x) : a ≠ none ∧ CellsAt w a (j.toNat * Flat.sz α) (Flat.enc x) :=
  ⟨h.ne (idx_some hx).2.2, h.flat (idx_some hx).2.2⟩

/-! ### Division by a number that is not known -/

def evDiv (P : Program) (sl : List (Nat × SV)) (o : Oper) : Option (BinOp × IntKind × Int × Int) :=
  match o.op with
  | .binOp .quo _ x y _ => match opV sl x, opV sl y with
    | some (.int k a), some (.int k' b) => bif decide (k = k') then some (.quo, k, a, b) else none
    | _, _ => none
  | .binOp .rem _ x y _ => match opV sl x, opV sl y with
    | some (.int k a), some (.int k' b) => bif decide (k = k') then some (.rem, k, a, b) else none
    | _, _ => none
  | _ => none

def divVal (op : BinOp) (k : IntKind) (a b : Int) : Value :=
  match op with
  | .quo => .int k (k.wrap (a.tdiv b))
  | _ => .int k (a.tmod b)

theorem evDiv_ok {γ : List Nat} {a : Act} {o : Oper} {op : BinOp} {k : IntKind} {x y : Int} (hl : Live n γ sl a) (h : evDiv P sl o = some (op, k, x, y)) (hy : y ≠ 0) (w : World) :
    (execOp a.eval o).run P w = .ok (.value (divVal op k x y)) w := by
  obtain ⟨dst, op', type, pos, after, guard⟩ := o
  unfold evDiv at h
  split at h
  · rename_i t x' y' t' hop
    simp only at hop
    subst hop
    split at h
    · rename_i k1 a1 k2 b1 h1 h2
      cases hk : decide (k1 = k2) with
      | false => rw [hk] at h; simp at h
      | true =>
        rw [hk] at h
        simp only [decide_eq_true_eq] at hk
        subst hk
        simp only [cond_true, Option.some.injEq, Prod.mk.injEq] at h
        obtain ⟨rfl, rfl, rfl, rfl⟩ := h
        simp [execOp, hl.evalV h1, hl.evalV h2, eqGuard, binOp, Op.intDiv, hy, divVal]
    · cases h
  · rename_i t x' y' t' hop
    simp only at hop
    subst hop
    split at h
    · rename_i k1 a1 k2 b1 h1 h2
      cases hk : decide (k1 = k2) with
      | false => rw [hk] at h; simp at h
      | true =>
        rw [hk] at h
        simp only [decide_eq_true_eq] at hk
        subst hk
        simp only [cond_true, Option.some.injEq, Prod.mk.injEq] at h
        obtain ⟨rfl, rfl, rfl, rfl⟩ := h
        simp [execOp, hl.evalV h1, hl.evalV h2, eqGuard, binOp, Op.intDiv, hy, divVal]
    · cases h
  · cases h

/-- A divisor, if it is not 0. -/
def nz (y : Int) : Option Unit := if y = 0 then none else some ()
theorem nz_some {y : Int} {u : Unit} (h : nz y = some u) : y ≠ 0 := by
  unfold nz at h
  split at h
  · cases h
  · assumption

theorem JO_div {l rest : List Oper} {o : Oper} (hl : l = o :: rest) (hw : wantedS ops sl o = some true) {op : BinOp} {k : IntKind} {x y : Int} (he : evDiv P sl o = some (op, k, x, y)) (hy : y ≠ 0)
    (hp : putS n sl o.dst (.v (divVal op k x y)) = some sl') (K : JO P A W0 n ops rest sl' bx R Q) : JO P A W0 n ops l sl bx R Q := by
  subst hl
  intro γ a w hl hs
  unfold wpList
  rw [if_pos (wantedS_ok hl hw)]
  refine .inl ?_
  unfold Oper.wp
  rw [evDiv_ok hl he hy]
  exact K γ _ w (hl.putS hp trivial) hs

theorem JQ_div {l rest : List Oper} {o : Oper} (hl : l = o :: rest) (hw : wantedS ops sl o = some true) {op : BinOp} {k : IntKind} {x y : Int} (he : evDiv P sl o = some (op, k, x, y)) (hy : y ≠ 0)
    (hp : putS n sl o.dst (.v (divVal op k x y)) = some sl') (K : JQ P A W0 n ops rest sl' bx R Q) : JQ P A W0 n ops l sl bx R Q := by
  subst hl
  intro γ a hl hg
  unfold wpQuiet
  rw [if_pos (wantedS_ok hl hw)]
  refine ⟨_, fun w hs => ?_, K γ _ (hl.putS hp trivial) hg⟩
  unfold Oper.quietAt
  rw [evDiv_ok hl he hy]
  exact ⟨rfl, rfl⟩

end
end Go.Pen
