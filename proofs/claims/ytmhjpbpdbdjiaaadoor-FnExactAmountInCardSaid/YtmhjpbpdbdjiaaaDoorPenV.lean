/-
  Loops over lists, as plain recursion; the laws' own helpers.
-/
import Derived.Test.YtmhjpbpdbdjiaaaDoorPenU
import Derived.Test.YtmhjpbpdbdjiaaaDoorPenI
namespace Go.Pen
set_option linter.unusedVariables false

theorem idx_nat {α : Type} (l : List α) (k : Nat) : idx l (k : Int) = l[k]? := by
  unfold idx
  rw [if_pos (by omega)]
  simp

theorem w64_nat {k : Nat} (h : k < 9223372036854775807) : w64 ((k : Int) + 1) = ((k + 1 : Nat) : Int) := by
  rw [w64_id (by omega)]
  omega

/-- A walk over a list that may end early. -/
def foldS {α τ ρ : Type} (step : Nat → τ → α → Option (τ ⊕ ρ)) (fin : τ → Option ρ) : Nat → List α → τ → Option ρ
  | _, [], t => fin t
  | k, x :: l, t => match step k t x with
    | none => none
    | some (.inl t') => foldS step fin (k + 1) l t'
    | some (.inr r) => some r

theorem loopW_none {σ ρ : Type} {body : σ → Option (LS σ ρ)} {s : σ} (h : body s = none) : loopW body s = none := by
  cases h1 : loopW body s with
  | none => rfl
  | some r =>
    obtain ⟨k, hk⟩ := loopW_some h1
    cases k with
    | zero => simp [loopF] at hk
    | succ k => simp [loopF, h] at hk

/-- What a round makes of a step. -/
def toLS {σ τ ρ : Type} (st : τ → σ) : τ ⊕ ρ → LS σ ρ
  | .inl t => .cont (st t)
  | .inr r => .done r

theorem loopW_list {σ ρ α τ : Type} {body : σ → Option (LS σ ρ)} (x0 : List α) (st : Nat → τ → σ) (step : Nat → τ → α → Option (τ ⊕ ρ)) (fin : τ → Option ρ)
    (hs : ∀ k t x, x0[k]? = some x → body (st k t) = (step k t x).map (toLS (st (k + 1)))) (he : ∀ t, body (st x0.length t) = (fin t).map .done) :
    ∀ t, loopW body (st 0 t) = foldS step fin 0 x0 t := by
  have main : ∀ (l : List α) (k : Nat) (t : τ), x0.drop k = l → k ≤ x0.length → loopW body (st k t) = foldS step fin k l t := by
    intro l
    induction l with
    | nil =>
      intro k t hk hle
      have : k = x0.length := by
        have := congrArg List.length hk
        simp at this
        omega
      subst this
      simp only [foldS]
      have h1 := he t
      cases hf : fin t with
      | none => rw [hf] at h1; exact loopW_none h1
      | some r => rw [hf] at h1; exact loopW_done h1
    | cons x l ih =>
      intro k t hk hle
      have hx : x0[k]? = some x := by
        have := congrArg (·[0]?) hk
        simpa using this
      have hlt := (List.getElem?_eq_some_iff.1 hx).1
      have hd : x0.drop (k + 1) = l := by
        have := congrArg List.tail hk
        simpa using this
      have h1 := hs k t x hx
      simp only [foldS]
      cases hst : step k t x with
      | none => rw [hst] at h1; exact loopW_none h1
      | some u =>
        rw [hst] at h1
        cases u with
        | inl t' =>
          simp only [Option.map_some, toLS] at h1
          rw [loopW_cont h1]
          exact ih (k + 1) t' hd hlt
        | inr r =>
          simp only [Option.map_some, toLS] at h1
          exact loopW_done h1
  intro t
  exact main x0 0 t rfl (Nat.zero_le _)

/-- A counter's loop. -/
theorem loopW_count {σ ρ : Type} {body : σ → Option (LS σ ρ)} (I : Nat → σ) (N : Nat) (h : ∀ k, k < N → body (I k) = some (.cont (I (k + 1)))) : loopW body (I 0) = loopW body (I N) := by
  induction N with
  | zero => rfl
  | succ N ih => rw [ih (fun k hk => h k (by omega)), loopW_cont (h N (by omega))]

/-! ### The laws' copies -/

/-- A copy, element for element. -/
theorem copy_loop {α ρ : Type} (x0 : List α) (z : α) (hn : x0.length ≤ 1099511627776) (body : Int × List α → Option (LS (Int × List α) (List α ⊕ ρ)))
    (hs : ∀ (k : Nat) (x : α) (l : List α), x0[k]? = some x → k < l.length → body ((k : Int), l) = some (.cont (((k + 1 : Nat) : Int), l.set k x)))
    (he : ∀ l, body ((x0.length : Int), l) = some (.done (.inl l))) : loopW body (0, List.replicate x0.length z) = some (.inl x0) := by
  have h1 := loopW_count (body := body) (fun k => ((k : Int), x0.take k ++ List.replicate (x0.length - k) z)) x0.length (fun k hk => by
    have hx : x0[k]? = some x0[k] := List.getElem?_eq_getElem hk
    rw [hs k x0[k] _ hx (by simp; omega)]
    congr 3
    rw [List.set_append_right _ _ (by simp; omega)]
    rw [List.length_take, Nat.min_eq_left (by omega), Nat.sub_self]
    rw [show x0.length - k = (x0.length - (k + 1)) + 1 by omega, List.replicate_succ, List.set_cons_zero]
    rw [List.take_add_one, hx, Option.toList_some, List.append_assoc]
    rfl)
  simp only [List.take_zero, List.nil_append, Nat.sub_zero, Nat.sub_self, List.replicate_zero, List.append_nil, List.take_length] at h1
  have e0 : ((0 : Nat) : Int) = 0 := rfl
  rw [e0] at h1
  rw [h1, loopW_done (he x0)]

theorem mkL_len {α : Type} (x0 : List α) {β : Type} (z : β) (h : x0.length ≤ 1099511627776) : mkL (x0.length : Int) z = some (List.replicate x0.length z) := by
  unfold mkL
  rw [if_pos (by omega)]
  simp

/-- A comparison of a list with itself, element for element. -/
theorem eq_loop {α ρ : Type} (x0 : List α) (body : Int → Option (LS Int (Unit ⊕ ρ))) (hs : ∀ (k : Nat) (x : α), x0[k]? = some x → body (k : Int) = some (.cont ((k + 1 : Nat) : Int)))
    (he : body (x0.length : Int) = some (.done (.inl ()))) : loopW body 0 = some (.inl ()) := by
  have h1 := loopW_count (body := body) (fun k => ((k : Nat) : Int)) x0.length (fun k hk => hs k _ (List.getElem?_eq_getElem hk))
  have e0 : ((0 : Nat) : Int) = 0 := rfl
  simp only [e0] at h1
  rw [h1, loopW_done he]

/-- A counter's loop comes to an end. -/
theorem loopW_ex {σ ρ τ : Type} {body : σ → Option (LS σ ρ)} (st : Nat → τ → σ) (N : Nat) (hs : ∀ k t, k < N → (∃ u, body (st k t) = some (.cont (st (k + 1) u))) ∨ ∃ r, body (st k t) = some (.done r))
    (he : ∀ t, ∃ r, body (st N t) = some (.done r)) : ∀ t, ∃ r, loopW body (st 0 t) = some r := by
  have main : ∀ m k t, k + m = N → ∃ r, loopW body (st k t) = some r := by
    intro m
    induction m with
    | zero =>
      intro k t hk
      have : k = N := by omega
      subst this
      obtain ⟨r, hr⟩ := he t
      exact ⟨r, loopW_done hr⟩
    | succ m ih =>
      intro k t hk
      rcases hs k t (by omega) with ⟨u, hu⟩ | ⟨r, hr⟩
      · rw [loopW_cont hu]; exact ih (k + 1) u (by omega)
      · exact ⟨r, loopW_done hr⟩
  intro t
  exact main N 0 t (by omega)

theorem foldS_foldl {α τ ρ : Type} (f : τ → α → τ) (K : τ → ρ) : ∀ (l : List α) (k : Nat) (t : τ), foldS (fun _ t x => some (.inl (f t x))) (fun t => some (K t)) k l t = some (K (l.foldl f t))
  | [], k, t => rfl
  | x :: l, k, t => by simp only [foldS, List.foldl_cons]; exact foldS_foldl f K l (k + 1) (f t x)

theorem fold_loop {σ ρ α τ : Type} {body : σ → Option (LS σ ρ)} (l : List α) (st : Nat → τ → σ) (f : τ → α → τ) (K : τ → ρ) (t : τ) (s0 : σ) (h0 : st 0 t = s0) (hs : ∀ k t x, l[k]? = some x → body (st k t) = some (.cont (st (k + 1) (f t x))))
    (he : ∀ t, body (st l.length t) = some (.done (K t))) : loopW body s0 = some (K (l.foldl f t)) := by
  rw [← h0, loopW_list l st (fun _ t x => some (.inl (f t x))) (fun t => some (K t)) (fun k t x hx => by rw [hs k t x hx]; rfl) (fun t => by rw [he t]; rfl)]
  exact foldS_foldl f K l 0 t

/-! ### Marks: each element's numbers counted on -/

def marksL {α : Type} (mk : Int → α → α) (wd : α → Nat) : Int → List α → List α
  | _, [] => []
  | m, x :: l => mk m x :: marksL mk wd (m + wd x) l

def wdL {α : Type} (wd : α → Nat) : List α → Nat
  | [] => 0
  | x :: l => wd x + wdL wd l

theorem marksL_length {α : Type} (mk : Int → α → α) (wd : α → Nat) : ∀ (l : List α) (m : Int), (marksL mk wd m l).length = l.length
  | [], m => rfl
  | x :: l, m => by simp [marksL, marksL_length mk wd l]

theorem wdL_append {α : Type} (wd : α → Nat) : ∀ (l1 l2 : List α), wdL wd (l1 ++ l2) = wdL wd l1 + wdL wd l2
  | [], l2 => by simp [wdL]
  | x :: l1, l2 => by simp [wdL, wdL_append wd l1 l2]; omega

theorem marksL_append {α : Type} (mk : Int → α → α) (wd : α → Nat) : ∀ (l1 l2 : List α) (m : Int), marksL mk wd m (l1 ++ l2) = marksL mk wd m l1 ++ marksL mk wd (m + wdL wd l1) l2
  | [], l2, m => by simp [marksL, wdL]
  | x :: l1, l2, m => by
    simp only [List.cons_append, marksL, marksL_append mk wd l1 l2, wdL]
    congr 3
    omega

theorem wdL_take {α : Type} (wd : α → Nat) (l : List α) (k : Nat) : wdL wd (l.take k) ≤ wdL wd l := by
  have := wdL_append wd (l.take k) (l.drop k)
  rw [List.take_append_drop] at this
  omega

theorem wdL_const {α : Type} (c : Nat) : ∀ (l : List α), wdL (fun _ => c) l = c * l.length
  | [] => rfl
  | x :: l => by simp [wdL, wdL_const c l, Nat.mul_succ]; omega

theorem mark_loop {α ρ : Type} (mk : Int → α → α) (wd : α → Nat) (x0 : List α) (m0 : Int) (hm : 0 ≤ m0) (B : Int) (hB : m0 + wdL wd x0 ≤ B) (body : Int × List α × Int → Option (LS (Int × List α × Int) ((List α × Int) ⊕ ρ)))
    (hs : ∀ (k : Nat) (x : α) (l : List α) (m : Int), l[k]? = some x → l.length = x0.length → x ∈ x0 → 0 ≤ m → m + wd x ≤ B → body ((k : Int), l, m) = some (.cont (((k + 1 : Nat) : Int), l.set k (mk m x), m + wd x)))
    (he : ∀ l m, l.length = x0.length → body ((x0.length : Int), l, m) = some (.done (.inl (l, m)))) : loopW body (0, x0, m0) = some (.inl (marksL mk wd m0 x0, m0 + wdL wd x0)) := by
  have h1 := loopW_count (body := body) (fun k => ((k : Int), marksL mk wd m0 (x0.take k) ++ x0.drop k, m0 + wdL wd (x0.take k))) x0.length (fun k hk => by
    have hx : x0[k]? = some x0[k] := List.getElem?_eq_getElem hk
    have hl : (marksL mk wd m0 (x0.take k)).length = k := by rw [marksL_length, List.length_take]; omega
    have hget : (marksL mk wd m0 (x0.take k) ++ x0.drop k)[k]? = some x0[k] := by
      rw [List.getElem?_append_right (by omega), hl, Nat.sub_self, List.getElem?_drop, Nat.add_zero]
      exact hx
    have hw : wdL wd (x0.take (k + 1)) = wdL wd (x0.take k) + wd x0[k] := by
      rw [List.take_add_one, hx, Option.toList_some, wdL_append]
      rfl
    have hle := wdL_take wd x0 (k + 1)
    rw [hs k x0[k] _ _ hget (by simp [hl]; omega) (List.getElem_mem hk) (by omega) (by omega)]
    have e2 : (marksL mk wd m0 (x0.take k) ++ x0.drop k).set k (mk (m0 + wdL wd (x0.take k)) x0[k]) = marksL mk wd m0 (x0.take (k + 1)) ++ x0.drop (k + 1) := by
      rw [List.set_append_right _ _ (by omega), hl, Nat.sub_self, List.drop_eq_getElem_cons hk, List.set_cons_zero, List.take_add_one, hx, Option.toList_some, marksL_append, List.append_assoc]
      rfl
    rw [e2, hw]
    congr 3
    congr 1
    omega)
  have e0 : ((0 : Nat) : Int) = 0 := rfl
  simp only [e0, List.take_zero, marksL, List.nil_append, List.drop_zero, wdL, Int.add_zero, List.take_length, List.drop_length, List.append_nil] at h1
  rw [h1, loopW_done (he _ _ (marksL_length _ _ _ _))]

theorem marksL_get {α : Type} (mk : Int → α → α) (wd : α → Nat) (x0 : List α) (m0 : Int) {k : Nat} (hk : k < x0.length) : (marksL mk wd m0 x0)[k]? = some (mk (m0 + wdL wd (x0.take k)) x0[k]) := by
  have h : x0 = x0.take k ++ x0.drop k := (List.take_append_drop k x0).symm
  have hl : (marksL mk wd m0 (x0.take k)).length = k := by rw [marksL_length, List.length_take]; omega
  have e : marksL mk wd m0 x0 = marksL mk wd m0 (x0.take k) ++ marksL mk wd (m0 + wdL wd (x0.take k)) (x0.drop k) := by rw [← marksL_append, List.take_append_drop]
  rw [e, List.getElem?_append_right (by omega), hl, Nat.sub_self, List.drop_eq_getElem_cons hk]
  rfl

theorem held_loop {α ρ : Type} (mk : Int → α → α) (wd : α → Nat) (x0 : List α) (m0 : Int) (hm : 0 ≤ m0) (B : Int) (hB : m0 + wdL wd x0 ≤ B) (body : Int × Int → Option (LS (Int × Int) (Int ⊕ ρ)))
    (hs : ∀ (k : Nat) (x : α) (m : Int), k < x0.length → (marksL mk wd m0 x0)[k]? = some (mk m x) → x ∈ x0 → 0 ≤ m → m + wd x ≤ B → body ((k : Int), m) = some (.cont (((k + 1 : Nat) : Int), m + wd x)))
    (he : ∀ m, body ((x0.length : Int), m) = some (.done (.inl m))) : loopW body (0, m0) = some (.inl (m0 + wdL wd x0)) := by
  have h1 := loopW_count (body := body) (fun k => ((k : Int), m0 + wdL wd (x0.take k))) x0.length (fun k hk => by
    have hx : x0[k]? = some x0[k] := List.getElem?_eq_getElem hk
    have hw : wdL wd (x0.take (k + 1)) = wdL wd (x0.take k) + wd x0[k] := by
      rw [List.take_add_one, hx, Option.toList_some, wdL_append]
      rfl
    have hle := wdL_take wd x0 (k + 1)
    rw [hs k x0[k] _ hk (marksL_get mk wd x0 m0 hk) (List.getElem_mem hk) (by omega) (by omega), hw]
    congr 3
    omega)
  have e0 : ((0 : Nat) : Int) = 0 := rfl
  simp only [e0, List.take_zero, wdL, Int.add_zero, List.take_length] at h1
  rw [h1, loopW_done (he _)]

/-- A scan that ends at the first element that fails. -/
theorem all_scan {α ρ : Type} (x : List α) (p : α → Bool) (r : Nat → ρ) (body : Int → Option (LS Int (Unit ⊕ ρ))) (hs : ∀ (k : Nat) (y : α), x[k]? = some y → body (k : Int) = some (if p y = true then .cont ((k + 1 : Nat) : Int) else .done (.inr (r k))))
    (he : body (x.length : Int) = some (.done (.inl ()))) : (x.all p = true ∧ loopW body 0 = some (.inl ())) ∨ (x.all p = false ∧ ∃ j, loopW body 0 = some (.inr (r j))) := by
  have e := loopW_list (ρ := Unit ⊕ ρ) (body := body) x (fun k (_ : Unit) => ((k : Nat) : Int)) (fun k _ y => some (if p y = true then .inl () else .inr (.inr (r k)))) (fun _ => some (.inl ())) (fun k t y hy => by
    rw [hs k y hy]
    by_cases h : p y = true <;> simp [h, toLS]) (fun t => by rw [he]; rfl) ()
  have e0 : ((0 : Nat) : Int) = 0 := rfl
  rw [e0] at e
  rw [e]
  have main : ∀ (l : List α) (k : Nat), (l.all p = true ∧ foldS (ρ := Unit ⊕ ρ) (fun k (_ : Unit) y => some (if p y = true then .inl () else .inr (.inr (r k)))) (fun _ => some (.inl ())) k l () = some (.inl ())) ∨
      (l.all p = false ∧ ∃ j, foldS (ρ := Unit ⊕ ρ) (fun k (_ : Unit) y => some (if p y = true then .inl () else .inr (.inr (r k)))) (fun _ => some (.inl ())) k l () = some (.inr (r j))) := by
    intro l
    induction l with
    | nil => intro k; exact .inl ⟨rfl, rfl⟩
    | cons y l ih =>
      intro k
      simp only [foldS, List.all_cons]
      by_cases h : p y = true
      · simpa [h] using ih (k + 1)
      · exact .inr ⟨by simp [h], k, by simp [h]⟩
  exact main x 0

theorem wdL_mem {α : Type} (f : α → Nat) : ∀ {l : List α} {x : α}, x ∈ l → f x ≤ wdL f l
  | y :: l, x, h => by
    rcases List.mem_cons.1 h with e | e
    · subst e; simp only [wdL]; omega
    · have := wdL_mem f e; simp only [wdL]; omega
theorem wdL_len {α : Type} (f : α → Nat) (h : ∀ x, 1 ≤ f x) : ∀ (l : List α), l.length ≤ wdL f l
  | [] => Nat.zero_le _
  | x :: l => by have a := wdL_len f h l; have b := h x; simp only [wdL, List.length_cons]; omega
theorem wdL_one {α : Type} (f : α → Nat) : ∀ (l : List α), wdL (fun x => 1 + f x) l = wdL f l + l.length
  | [] => rfl
  | x :: l => by have a := wdL_one f l; simp only [wdL, List.length_cons]; omega
theorem wdL_all {α : Type} (f : α → Nat) (B : Nat) : ∀ (l : List α), (∀ x ∈ l, f x ≤ B) → wdL f l ≤ l.length * B
  | [], _ => Nat.zero_le _
  | x :: l, h => by
    have a := wdL_all f B l (fun y hy => h y (List.mem_cons_of_mem x hy)); have b := h x (List.mem_cons_self ..)
    simp only [wdL, List.length_cons, Nat.succ_mul]; omega

/-- A count of sizes that ends when nothing is left. -/
theorem size_loop {α ρ : Type} (f : α → Nat) (x0 : List α) (v0 : Int) (h0 : 0 ≤ v0 ∧ v0 ≤ 1048576) (body : Int × Int → Option (LS (Int × Int) (Int ⊕ ρ))) (r : ρ)
    (hs : ∀ (k : Nat) (x : α) (v : Int), x0[k]? = some x → 0 ≤ v ∧ v ≤ 1048576 → body ((k : Int), v) = some (.done (.inr r)) ∨ ∃ u : Int, (0 ≤ u ∧ u + f x = v) ∧ body ((k : Int), v) = some (.cont (((k + 1 : Nat) : Int), u)))
    (he : ∀ v, body ((x0.length : Int), v) = some (.done (.inl v))) : loopW body (0, v0) = some (.inr r) ∨ ∃ v, loopW body (0, v0) = some (.inl v) ∧ 0 ≤ v ∧ v + wdL f x0 = v0 := by
  have main : ∀ (l : List α) (k : Nat) (v : Int), x0.drop k = l → k ≤ x0.length → 0 ≤ v ∧ v ≤ 1048576 → loopW body ((k : Int), v) = some (.inr r) ∨ ∃ u, loopW body ((k : Int), v) = some (.inl u) ∧ 0 ≤ u ∧ u + wdL f l = v := by
    intro l
    induction l with
    | nil =>
      intro k v hk hle hv
      have : k = x0.length := by
        have := congrArg List.length hk
        simp at this
        omega
      subst this
      exact .inr ⟨v, loopW_done (he v), hv.1, by simp [wdL]⟩
    | cons x l ih =>
      intro k v hk hle hv
      have hx : x0[k]? = some x := by
        have := congrArg (·[0]?) hk
        simpa using this
      have hd : x0.drop (k + 1) = l := by
        have := congrArg List.tail hk
        simpa using this
      have hlt := (List.getElem?_eq_some_iff.1 hx).1
      rcases hs k x v hx hv with h | ⟨u, hu, h⟩
      · exact .inl (loopW_done h)
      · rw [loopW_cont h]
        rcases ih (k + 1) u hd hlt ⟨hu.1, by omega⟩ with h2 | ⟨z, h2, h3, h4⟩
        · exact .inl h2
        · exact .inr ⟨z, h2, h3, by simp only [wdL]; omega⟩
  exact main x0 0 v0 rfl (Nat.zero_le _) h0

theorem appC_ok {α : Type} (l1 l2 : List α) (h : l1.length + l2.length ≤ 1099511627776) : appC l1 l2 = some (l1 ++ l2) := by unfold appC; rw [if_pos h]

end Go.Pen
