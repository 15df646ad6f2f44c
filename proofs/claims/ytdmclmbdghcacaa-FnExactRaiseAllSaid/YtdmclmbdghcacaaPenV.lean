/-
  Loops over lists, as plain recursion; the laws' own helpers.
-/
import Derived.Test.YtdmclmbdghcacaaPenU
import Derived.Test.YtdmclmbdghcacaaPenI
namespace Go.Pen
set_option linter.unusedVariables false

theorem idx_nat {α : Type} (l : List α) (k : Nat) : idx l (k : Int) = l[k]? := by
  unfold idx
  rw [if_pos (by omega)]
  simp

theorem w64_nat {k : Nat} (h : k < 9223372036854775807) : w64 ((k : Int) + 1) = ((k + 1 : Nat) : Int) := by
  rw [w64_id (by omega)]
  omega

/-- A walk over a list that may end early. -/
def foldS {α τ ρ : Type} (step : Nat → τ → α → Option (τ ⊕ ρ)) (fin : τ → Option ρ) : Nat → List α → τ → Option ρ
  | _, [], t => fin t
  | k, x :: l, t => match step k t x with
    | none => none
    | some (.inl t') => foldS step fin (k + 1) l t'
    | some (.inr r) => some r

theorem loopW_none {σ ρ : Type} {body : σ → Option (LS σ ρ)} {s : σ} (h : body s = none) : loopW body s = none := by
  cases h1 : loopW body s with
  | none => rfl
  | some r =>
    obtain ⟨k, hk⟩ := loopW_some h1
    cases k with
    | zero => simp [loopF] at hk
    | succ k => simp [loopF, h] at hk

/-- What a round makes of a step. -/
def toLS {σ τ ρ : Type} (st : τ → σ) : τ ⊕ ρ → LS σ ρ
  | .inl t => .cont (st t)
  | .inr r => .done r

theorem loopW_list {σ ρ α τ : Type} {body : σ → Option (LS σ ρ)} (x0 : List α) (st : Nat → τ → σ) (step : Nat → τ → α → Option (τ ⊕ ρ)) (fin : τ → Option ρ)
    (hs : ∀ k t x, x0[k]? = some x → body (st k t) = (step k t x).map (toLS (st (k + 1)))) (he : ∀ t, body (st x0.length t) = (fin t).map .done) :
    ∀ t, loopW body (st 0 t) = foldS step fin 0 x0 t := by
  have main : ∀ (l : List α) (k : Nat) (t : τ), x0.drop k = l → k ≤ x0.length → loopW body (st k t) = foldS step fin k l t := by
    intro l
    induction l with
    | nil =>
      intro k t hk hle
      have : k = x0.length := by
        have := congrArg List.length hk
        simp at this
        omega
      subst this
      simp only [foldS]
      have h1 := he t
      cases hf : fin t with
      | none => rw [hf] at h1; exact loopW_none h1
      | some r => rw [hf] at h1; exact loopW_done h1
    | cons x l ih =>
      intro k t hk hle
      have hx : x0[k]? = some x := by
        have := congrArg (·[0]?) hk
        simpa using this
      have hlt := (List.getElem?_eq_some_iff.1 hx).1
      have hd : x0.drop (k + 1) = l := by
        have := congrArg List.tail hk
        simpa using this
      have h1 := hs k t x hx
      simp only [foldS]
      cases hst : step k t x with
      | none => rw [hst] at h1; exact loopW_none h1
      | some u =>
        rw [hst] at h1
        cases u with
        | inl t' =>
          simp only [Option.map_some, toLS] at h1
          rw [loopW_cont h1]
          exact ih (k + 1) t' hd hlt
        | inr r =>
          simp only [Option.map_some, toLS] at h1
          exact loopW_done h1
  intro t
  exact main x0 0 t rfl (Nat.zero_le _)

/-- A counter's loop. -/
theorem loopW_count {σ ρ : Type} {body : σ → Option (LS σ ρ)} (I : Nat → σ) (N : Nat) (h : ∀ k, k < N → body (I k) = some (.cont (I (k + 1)))) : loopW body (I 0) = loopW body (I N) := by
  induction N with
  | zero => rfl
  | succ N ih => rw [ih (fun k hk => h k (by omega)), loopW_cont (h N (by omega))]

/-! ### The laws' copies -/

/-- A copy, element for element. -/
theorem copy_loop {α ρ : Type} (x0 : List α) (z : α) (hn : x0.length ≤ 1099511627776) (body : Int × List α → Option (LS (Int × List α) (List α ⊕ ρ)))
    (hs : ∀ (k : Nat) (x : α) (l : List α), x0[k]? = some x → k < l.length → body ((k : Int), l) = some (.cont (((k + 1 : Nat) : Int), l.set k x)))
    (he : ∀ l, body ((x0.length : Int), l) = some (.done (.inl l))) : loopW body (0, List.replicate x0.length z) = some (.inl x0) := by
  have h1 := loopW_count (body := body) (fun k => ((k : Int), x0.take k ++ List.replicate (x0.length - k) z)) x0.length (fun k hk => by
    have hx : x0[k]? = some x0[k] := List.getElem?_eq_getElem hk
    rw [hs k x0[k] _ hx (by simp; omega)]
    congr 3
    rw [List.set_append_right _ _ (by simp; omega)]
    rw [List.length_take, Nat.min_eq_left (by omega), Nat.sub_self]
    rw [show x0.length - k = (x0.length - (k + 1)) + 1 by omega, List.replicate_succ, List.set_cons_zero]
    rw [List.take_add_one, hx, Option.toList_some, List.append_assoc]
    rfl)
  simp only [List.take_zero, List.nil_append, Nat.sub_zero, Nat.sub_self, List.replicate_zero, List.append_nil, List.take_length] at h1
  have e0 : ((0 : Nat) : Int) = 0 := rfl
  rw [e0] at h1
  rw [h1, loopW_done (he x0)]

theorem mkL_len {α : Type} (x0 : List α) {β : Type} (z : β) (h : x0.length ≤ 1099511627776) : mkL (x0.length : Int) z = some (List.replicate x0.length z) := by
  unfold mkL
  rw [if_pos (by omega)]
  simp

/-- A comparison of a list with itself, element for element. -/
theorem eq_loop {α ρ : Type} (x0 : List α) (body : Int → Option (LS Int (Unit ⊕ ρ))) (hs : ∀ (k : Nat) (x : α), x0[k]? = some x → body (k : Int) = some (.cont ((k + 1 : Nat) : Int)))
    (he : body (x0.length : Int) = some (.done (.inl ()))) : loopW body 0 = some (.inl ()) := by
  have h1 := loopW_count (body := body) (fun k => ((k : Nat) : Int)) x0.length (fun k hk => hs k _ (List.getElem?_eq_getElem hk))
  have e0 : ((0 : Nat) : Int) = 0 := rfl
  simp only [e0] at h1
  rw [h1, loopW_done he]

/-- A counter's loop comes to an end. -/
theorem loopW_ex {σ ρ τ : Type} {body : σ → Option (LS σ ρ)} (st : Nat → τ → σ) (N : Nat) (hs : ∀ k t, k < N → (∃ u, body (st k t) = some (.cont (st (k + 1) u))) ∨ ∃ r, body (st k t) = some (.done r))
    (he : ∀ t, ∃ r, body (st N t) = some (.done r)) : ∀ t, ∃ r, loopW body (st 0 t) = some r := by
  have main : ∀ m k t, k + m = N → ∃ r, loopW body (st k t) = some r := by
    intro m
    induction m with
    | zero =>
      intro k t hk
      have : k = N := by omega
      subst this
      obtain ⟨r, hr⟩ := he t
      exact ⟨r, loopW_done hr⟩
    | succ m ih =>
      intro k t hk
      rcases hs k t (by omega) with ⟨u, hu⟩ | ⟨r, hr⟩
      · rw [loopW_cont hu]; exact ih (k + 1) u (by omega)
      · exact ⟨r, loopW_done hr⟩
  intro t
  exact main N 0 t (by omega)

theorem foldS_foldl {α τ ρ : Type} (f : τ → α → τ) (K : τ → ρ) : ∀ (l : List α) (k : Nat) (t : τ), foldS (fun _ t x => some (.inl (f t x))) (fun t => some (K t)) k l t = some (K (l.foldl f t))
  | [], k, t => rfl
  | x :: l, k, t => by simp only [foldS, List.foldl_cons]; exact foldS_foldl f K l (k + 1) (f t x)

theorem fold_loop {σ ρ α τ : Type} {body : σ → Option (LS σ ρ)} (l : List α) (st : Nat → τ → σ) (f : τ → α → τ) (K : τ → ρ) (t : τ) (s0 : σ) (h0 : st 0 t = s0) (hs : ∀ k t x, l[k]? = some x → body (st k t) = some (.cont (st (k + 1) (f t x))))
    (he : ∀ t, body (st l.length t) = some (.done (K t))) : loopW body s0 = some (K (l.foldl f t)) := by
  rw [← h0, loopW_list l st (fun _ t x => some (.inl (f t x))) (fun t => some (K t)) (fun k t x hx => by rw [hs k t x hx]; rfl) (fun t => by rw [he t]; rfl)]
  exact foldS_foldl f K l 0 t

end Go.Pen
