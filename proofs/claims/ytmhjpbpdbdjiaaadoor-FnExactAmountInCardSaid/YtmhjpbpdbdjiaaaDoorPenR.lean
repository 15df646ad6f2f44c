/-
  From the row's reading of an argument to the data that the walks speak of.
-/
import Derived.Test.YtmhjpbpdbdjiaaaDoorPenS
namespace Go.Pen
open Go.RowKit
set_option linter.unusedVariables false

/-- Whatever reads at type e is data of this kind, and fits. -/
def RdE (P : Program) (e : TypeId) (α : Type) [Rp α] [Wf α] : Prop :=
  ∀ {H : Type} (enc : TypeId × Value → H) (w : World) (fuel : Nat) (cs : List Value) (x : DataW H × List MemPlace),
    DataW.trod enc P w 0 (fun _ => true) true fuel e cs = some x → ∃ d : α, Rp.view w d cs ∧ Wf.wf d

theorem viewL_append {α : Type} [Rp α] {w : World} : ∀ {l1 l2 : List α} {x1 x2 : List Value}, viewL w l1 x1 → viewL w l2 x2 → viewL w (l1 ++ l2) (x1 ++ x2)
  | [], l2, x1, x2, h1, h2 => by simp only [viewL] at h1; subst h1; exact h2
  | x :: l1, l2, x1, x2, ⟨c1, c2, hx, h3, h4⟩, h2 => ⟨c1, c2 ++ x2, by rw [hx, List.append_assoc], h3, viewL_append h4 h2⟩

theorem rd_int {P : Program} {e : TypeId} (ht : P.underlying e = some (.int .i64)) : RdE P e Int := by
  intro H enc w fuel cs x h
  obtain ⟨n, rfl, _, hw⟩ := DataW.trod_int ht h
  refine ⟨n, rfl, ?_⟩
  simp only [Lit.wf] at hw
  simp [Wf.wf, i64ok, IntKind.min, IntKind.max, IntKind.bits, IntKind.signed] at hw ⊢
  omega

theorem rd_bool {P : Program} {e : TypeId} (ht : P.underlying e = some .bool) : RdE P e Bool := by
  intro H enc w fuel cs x h
  obtain ⟨n, rfl, _⟩ := DataW.trod_bool ht h
  exact ⟨n, rfl, trivial⟩

theorem rd_u8 {P : Program} {e : TypeId} (ht : P.underlying e = some (.int .u8)) : RdE P e U8 := by
  intro H enc w fuel cs x h
  obtain ⟨n, rfl, _, hw⟩ := DataW.trod_int ht h
  refine ⟨⟨n⟩, rfl, ?_⟩
  simp only [Lit.wf] at hw
  simp [Wf.wf, IntKind.min, IntKind.max, IntKind.bits, IntKind.signed] at hw ⊢
  omega

theorem rd_str {P : Program} {e : TypeId} (ht : P.underlying e = some .string) : RdE P e ByteArray := by
  intro H enc w fuel cs x h
  obtain ⟨s, rfl, _, hw⟩ := DataW.trod_string ht h
  exact ⟨s, rfl, hw⟩

theorem add_add {a : Addr} (i j : Nat) : (a.add i).add j = a.add (i + j) := by
  unfold Addr.add
  by_cases hi : i = 0 <;> by_cases hj : j = 0 <;> simp [hi, hj, Nat.add_assoc]

theorem open_sl {P : Program} {t e : TypeId} {α : Type} [Rp α] [Wf α] (hr : RdE P e α) (ht : P.underlying t = some (.slice e)) (hc : P.cellsOf e = Rp.sz α) {H : Type} {enc : TypeId × Value → H} {w : World} {fuel : Nat} {cs : List Value} {x : DataW H × List MemPlace}
    (h : DataW.trod enc P w 0 (fun _ => true) true fuel t cs = some x) : ∃ (l : List α) (a : Option Addr) (cap : Nat), cs = [.slice a l.length cap] ∧ SlView w l a cap ∧ Wf.wf l := by
  rcases DataW.trod_slice ht h with ⟨rfl, _⟩ | ⟨a, len, cap, elems, rest, n, _, rfl, _, _, hlc, hcm, hlen, hel, _, _⟩
  · exact ⟨[], none, 0, rfl, ⟨fun h => absurd rfl h, ⟨[], rfl, fun j u hu => by simp at hu⟩, fun _ => rfl, Nat.zero_le _⟩, by simp, by intro x hx; simp at hx⟩
  · have build : ∀ k, k ≤ len → ∃ (l : List α) (xs : List Value), l.length = k ∧ viewL w l xs ∧ (∀ j u, xs[j]? = some u → w.cell? (a.add j) = some u) ∧ ∀ d ∈ l, Wf.wf d := by
      intro k
      induction k with
      | zero => intro _; exact ⟨[], [], rfl, rfl, fun j u hu => by simp at hu, fun d hd => by simp at hd⟩
      | succ k ih =>
        intro hk
        obtain ⟨l, xs, h1, h2, h3, h4⟩ := ih (by omega)
        have he := hel k (by omega)
        rw [List.getElem?_eq_getElem (by omega)] at he
        obtain ⟨c, hcs, htr⟩ := Option.bind_eq_some_iff.1 he
        obtain ⟨d, hv, hw⟩ := hr enc w n c _ htr
        have hcells := World.cells?_some hcs
        refine ⟨l ++ [d], xs ++ c, by simp [h1], viewL_append h2 ⟨c, [], by simp, hv, rfl⟩, ?_, ?_⟩
        · intro j u hu
          have hxl := viewL_len h2
          rw [List.getElem?_append] at hu
          split at hu
          · exact h3 j u hu
          · rename_i hge
            have := hcells.2.2 (j - xs.length) (by
              have := (List.getElem?_eq_some_iff.1 hu).1
              rw [hcells.2.1] at this
              exact this)
            rw [hu, add_add, hc] at this
            rw [hxl, h1] at this hge
            rw [show k * Rp.sz α + (j - k * Rp.sz α) = j by omega] at this
            exact this
        · intro d' hd'
          rw [List.mem_append, List.mem_singleton] at hd'
          rcases hd' with hd' | rfl
          · exact h4 d' hd'
          · exact hw
    obtain ⟨l, xs, h1, h2, h3, h4⟩ := build len (Nat.le_refl _)
    subst h1
    have hspot : l ≠ [] → SpotOk (some a) := by
      intro hne d hd
      simp only [Option.some.injEq] at hd
      subst hd
      have hp := Rp.pos (α := α)
      have hl := viewL_len h2
      have hpos : 0 < xs.length := by
        rw [hl]
        exact Nat.mul_pos (List.length_pos_iff.2 hne) hp
      have := h3 0 xs[0] (by simp)
      have h0 : a.add 0 = a := by simp [Addr.add]
      rw [h0] at this
      exact World.cell?_spot this
    refine ⟨l, some a, cap, rfl, ⟨hspot, ⟨xs, h2, fun j u hu => ⟨a, rfl, ?_⟩⟩, by simp, hlc⟩, by simp only [maxLen] at hcm; omega, h4⟩
    have hne : l ≠ [] := by
      rintro rfl
      simp only [viewL] at h2
      subst h2
      simp at hu
    have := h3 j u hu
    rw [add_spot (hspot hne a rfl)] at this
    simpa using this

end Go.Pen
