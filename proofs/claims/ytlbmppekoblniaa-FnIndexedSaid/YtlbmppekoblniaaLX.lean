import Derived.Test.YtlbmppekoblniaaF
import Derived.Test.YtlbmppekoblniaaPenU
import Derived.Test.YtlbmppekoblniaaPenV
namespace Go.Pen
set_option linter.unusedVariables false
set_option linter.unusedSimpArgs false

noncomputable def spec_l01In (x0 : Int) (x1 : Int) (x2 : Int) : Option (Bool) :=
  Option.bind (α := Bool)
    (cond (decide (x0 ≥ x1))
      (some (decide (x0 ≤ x2)))
      (some false))
    fun p21 =>
  some p21

noncomputable def spec_l31Ask (x0 : List Int) (x1 : Int) : Option (Bool) :=
  (loopW (ρ := (Int) ⊕ (Bool)) (fun (s21 : Int) =>
    cond (decide (s21 < (x0.length : Int)))
      ((idx x0 s21).bind fun x47 =>
      (spec_l01In x47 0 1000000).bind fun t50 =>
      cond (!t50)
        (some (.done (.inr false)))
        (some (.cont (w64 (s21 + 1)))))
      (some (.done (.inl x1))))
    0).bind fun r24 => brkE r24 (fun (j31 : Int) =>
    Option.bind (α := Bool)
      (cond (decide ((x0.length : Int) ≤ 40))
        ((spec_l01In j31 0 1000).bind fun t39 =>
        some t39)
        (some false))
      fun p33 =>
    some p33)
    (some)

noncomputable def spec_l31Sum (x0 : List Int) : Option (Int) :=
  (loopW (ρ := (Int) ⊕ (Int)) (fun (s21 : Int × Int) =>
    cond (decide (s21.1 < (x0.length : Int)))
      ((idx x0 s21.1).bind fun x37 =>
      some (.cont (w64 (s21.1 + 1), w64 (s21.2 + x37))))
      (some (.done (.inl s21.2))))
    (0, 0)).bind fun r24 => brkE r24 (fun (j31 : Int) =>
    some j31)
    (some)

noncomputable def spec_Allocate (x0 : Int) (x1 : List Int) : Option ((List Int)) :=
  Option.bind (α := Bool)
    ((spec_l01In x0 0 1000000000).bind fun t26 =>
    cond (!t26)
      (some true)
      ((spec_l01In (x1.length : Int) 1 40).bind fun t33 =>
      some (!t33)))
    fun p23 =>
  cond p23
    (some ([] : List Int))
    ((loopW (ρ := (Int × Int) ⊕ ((List Int))) (fun (s40 : Int × Int) =>
      cond (decide (s40.1 < (x1.length : Int)))
        ((idx x1 s40.1).bind fun x169 =>
        (spec_l01In x169 0 1000000).bind fun t172 =>
        cond (!t172)
          (some (.done (.inr ([] : List Int))))
          ((idx x1 s40.1).bind fun x180 =>
          some (.cont (w64 (s40.1 + 1), w64 (s40.2 + x180)))))
        (some (.done (.inl (x0, s40.2)))))
      (0, 0)).bind fun r43 => brkE r43 (fun (j50 : Int × Int) =>
      cond (j50.2 == 0)
        (some ([] : List Int))
        ((loopW (ρ := ((List Int) × Int × (List Int)) ⊕ ((List Int))) (fun (s57 : Int × (List Int) × Int × (List Int)) =>
          cond (decide (s57.1 < (x1.length : Int)))
            ((idx x1 s57.1).bind fun x140 =>
            (nz j50.2).bind fun _ =>
            (appC s57.2.2.2 ([w64 (Int.tdiv (w64 (j50.1 * x140)) j50.2)] : List Int)).bind fun l149 =>
            (nz j50.2).bind fun _ =>
            (appC s57.2.1 ([Int.tmod (w64 (j50.1 * x140)) j50.2] : List Int)).bind fun l158 =>
            (nz j50.2).bind fun _ =>
            some (.cont (w64 (s57.1 + 1), l158, w64 (s57.2.2.1 - (w64 (Int.tdiv (w64 (j50.1 * x140)) j50.2))), l149)))
            (some (.done (.inl (s57.2.1, s57.2.2.1, s57.2.2.2)))))
          (0, ([] : List Int), j50.1, ([] : List Int))).bind fun r60 => brkE r60 (fun (j67 : (List Int) × Int × (List Int)) =>
          (loopW (ρ := ((List Int)) ⊕ ((List Int))) (fun (s69 : (List Int) × Int × (List Int)) =>
            cond (decide (s69.2.1 > 0))
              ((loopW (ρ := (Int) ⊕ ((List Int))) (fun (s85 : Int × Int) =>
                cond (decide (s85.1 < (s69.1.length : Int)))
                  ((idx s69.1 s85.1).bind fun x118 =>
                  (idx s69.1 s85.2).bind fun x121 =>
                  joinP (fun (j125 : Int) =>
                    some (.cont (w64 (s85.1 + 1), j125)))
                    (fun k127 =>
                    cond (decide (x118 > x121))
                      (k127 s85.1)
                      (k127 s85.2)))
                  (some (.done (.inl s85.2))))
                (1, 0)).bind fun r88 => brkE r88 (fun (j95 : Int) =>
                (idx s69.2.2 j95).bind fun x97 =>
                (idx s69.2.2 j95).bind fun x100 =>
                (some (List.set s69.2.2 (Int.toNat j95) (w64 (x97 + 1)))).bind fun l103 =>
                (idx s69.1 j95).bind fun x107 =>
                (some (List.set s69.1 (Int.toNat j95) (-1))).bind fun l110 =>
                some (.cont (l110, w64 (s69.2.1 - 1), l103)))
                (fun v => some (.done (.inr v))))
              (some (.done (.inl s69.2.2))))
            (j67.1, j67.2.1, j67.2.2)).bind fun r72 => brkE r72 (fun (j79 : (List Int)) =>
            some j79)
            (some))
          (some)))
      (some))

noncomputable def spec_CutAll (x0 : List Int) (x1 : Int) : Option ((List Int)) :=
  (spec_l31Ask x0 x1).bind fun t21 =>
  cond (!t21)
    (some ([] : List Int))
    ((appC ([] : List Int) x0).bind fun l35 =>
    (spec_l31Sum x0).bind fun t38 =>
    (spec_Allocate (w64 (Int.tdiv (w64 (t38 * x1)) 1000)) x0).bind fun t42 =>
    (loopW (ρ := ((List Int)) ⊕ ((List Int))) (fun (s46 : Int × (List Int)) =>
      cond (decide (s46.1 < (t42.length : Int)))
        ((idx s46.2 s46.1).bind fun x62 =>
        (idx t42 s46.1).bind fun x65 =>
        (idx s46.2 s46.1).bind fun x68 =>
        (some (List.set s46.2 (Int.toNat s46.1) (w64 (x62 - x65)))).bind fun l71 =>
        some (.cont (w64 (s46.1 + 1), l71)))
        (some (.done (.inl s46.2))))
      (0, l35)).bind fun r49 => brkE r49 (fun (j56 : (List Int)) =>
      some j56)
      (some))

theorem l01In_eq (x a b : Int) : spec_l01In x a b = some (inB x a b) := by
  unfold spec_l01In inB
  by_cases h : a ≤ x <;> by_cases h2 : x ≤ b <;> simp [h, h2]

theorem within_eq (x a b : Int) : impl_within x a b = some (inB x a b) := by
  unfold impl_within inB
  by_cases h : a ≤ x <;> by_cases h2 : x ≤ b <;> simp [h, h2]

def allIn (x : List Int) (a b : Int) : Bool := x.all (fun p => inB p a b)

theorem l31Ask_eq (x : List Int) (r : Int) (hx : x.length ≤ 1099511627776) : spec_l31Ask x r = some (allIn x 0 1000000 && (decide (x.length ≤ 40) && inB r 0 1000)) := by
  unfold spec_l31Ask
  rw [show loopW (ρ := Int ⊕ Bool) (fun (s21 : Int) =>
    cond (decide (s21 < (x.length : Int)))
      ((idx x s21).bind fun x47 =>
      (spec_l01In x47 0 1000000).bind fun t50 =>
      cond (!t50)
        (some (.done (.inr false)))
        (some (.cont (w64 (s21 + 1)))))
      (some (.done (.inl r)))) 0 = foldS (fun _ (_ : Unit) p => some (if inB p 0 1000000 then .inl () else .inr (.inr false))) (fun _ => some (.inl r)) 0 x () from
    loopW_list x (fun k (_ : Unit) => ((k : Nat) : Int)) _ _ (fun k t p hp => by
      have hk := (List.getElem?_eq_some_iff.1 hp).1
      simp only [idx_nat, hp, l01In_eq, Option.bind_some, w64_nat (by omega : k < 9223372036854775807), show ((k : Int) < (x.length : Int)) by omega, decide_true, cond_true]
      cases inB p 0 1000000 <;> rfl) (fun t => by simp) ()]
  have main : ∀ (l : List Int) (k : Nat), foldS (ρ := Int ⊕ Bool) (fun _ (_ : Unit) p => some (if inB p 0 1000000 then .inl () else .inr (.inr false))) (fun _ => some (.inl r)) k l () = some (if l.all (fun p => inB p 0 1000000) then .inl r else .inr false) := by
    intro l
    induction l with
    | nil => intro k; rfl
    | cons p l ih =>
      intro k
      simp only [foldS, List.all_cons]
      by_cases h : inB p 0 1000000 = true
      · simp [h, ih]
      · simp [h]
  rw [main]
  unfold allIn
  cases x.all (fun p => inB p 0 1000000) with
  | false => rfl
  | true =>
    simp only [if_true, Option.bind_some, brkE, l01In_eq, Bool.true_and]
    by_cases h : (x.length : Int) ≤ 40
    · have h' : x.length ≤ 40 := by omega
      simp [h, h']
    · have h' : ¬ x.length ≤ 40 := by omega
      simp [h, h']

theorem allWithin_eq (x : List Int) (a b : Int) (hx : x.length ≤ 1099511627776) : impl_allWithin x a b = some (allIn x a b) := by
  unfold impl_allWithin slices_ContainsFunc_int__impl_allWithin_1 slices_IndexFunc_int__impl_allWithin_1
  rw [show loopW (ρ := Unit ⊕ Int) (fun (s21 : Int) =>
    cond (decide (s21 < (x.length : Int)))
      ((idx x s21).bind fun x37 =>
      (impl_allWithin_1 x37 a b).bind fun t40 =>
      cond t40
        (some (.done (.inr s21)))
        (some (.cont (w64 (s21 + 1)))))
      (some (.done (.inl ())))) 0 = foldS (fun k (_ : Unit) p => some (if inB p a b then .inl () else .inr (.inr (k : Int)))) (fun _ => some (.inl ())) 0 x () from
    loopW_list x (fun k (_ : Unit) => ((k : Nat) : Int)) _ _ (fun k t p hp => by
      have hk := (List.getElem?_eq_some_iff.1 hp).1
      simp only [idx_nat, hp, impl_allWithin_1, within_eq, Option.bind_some, w64_nat (by omega : k < 9223372036854775807), show ((k : Int) < (x.length : Int)) by omega, decide_true, cond_true]
      cases inB p a b <;> rfl) (fun t => by simp) ()]
  have main : ∀ (l : List Int) (k : Nat), (l.all (fun p => inB p a b) = true ∧ foldS (ρ := Unit ⊕ Int) (fun k (_ : Unit) p => some (if inB p a b then .inl () else .inr (.inr (k : Int)))) (fun _ => some (.inl ())) k l () = some (.inl ())) ∨
      (l.all (fun p => inB p a b) = false ∧ ∃ j : Nat, foldS (ρ := Unit ⊕ Int) (fun k (_ : Unit) p => some (if inB p a b then .inl () else .inr (.inr (k : Int)))) (fun _ => some (.inl ())) k l () = some (.inr (j : Int))) := by
    intro l
    induction l with
    | nil => intro k; exact .inl ⟨rfl, rfl⟩
    | cons p l ih =>
      intro k
      simp only [foldS, List.all_cons]
      by_cases h : inB p a b = true
      · simpa [h] using ih (k + 1)
      · exact .inr ⟨by simp [h], k, by simp [h]⟩
  unfold allIn
  rcases main x 0 with ⟨h1, h2⟩ | ⟨h1, j, h2⟩
  · rw [h1, h2]; rfl
  · rw [h1, h2]
    simp [brkE]

def raise1 (r p : Int) : Int := w64 (p + (w64 (Int.tdiv (w64 (p * r)) 1000)))

theorem raise_loop {ρ : Type} (x : List Int) (r : Int) (hx : x.length ≤ 1000000) {body : Int × List Int → Option (LS (Int × List Int) (List Int ⊕ ρ))}
    (hs : ∀ (k : Nat) (l : List Int) (p : Int), x[k]? = some p → body ((k : Int), l) = (appC l [raise1 r p]).bind fun l' => some (.cont (((k + 1 : Nat) : Int), l'))) (he : ∀ l, body ((x.length : Int), l) = some (.done (.inl l))) :
    loopW body (0, []) = some (.inl (x.map (raise1 r))) := by
  have h1 := loopW_count (body := body) (fun k => ((k : Int), (x.take k).map (raise1 r))) x.length (fun k hk => by
    have hp : x[k]? = some x[k] := List.getElem?_eq_getElem hk
    rw [hs k _ x[k] hp, appC_ok _ _ (by simp; omega), Option.bind_some]
    rw [List.take_add_one, hp, Option.toList_some, List.map_append]
    rfl)
  simp only [List.take_zero, List.map_nil, List.take_length] at h1
  have e0 : ((0 : Nat) : Int) = 0 := rfl
  rw [e0] at h1
  rw [h1, loopW_done (he _)]

theorem impl_RaiseAll_eq (x : List Int) (r : Int) (hx : x.length ≤ 1099511627776) : impl_RaiseAll x r = some (if allIn x 0 1000000 && (decide (x.length ≤ 40) && inB r 0 1000) then x.map (raise1 r) else []) := by
  unfold impl_RaiseAll impl_arePensions
  simp only [allWithin_eq x _ _ hx, within_eq, Option.bind_some]
  by_cases h : x.length ≤ 40
  · have h' : (x.length : Int) ≤ 40 := by omega
    rw [decide_eq_true h', decide_eq_true h]
    simp only [cond_true, Option.bind_some]
    cases allIn x 0 1000000 with
    | false => rfl
    | true =>
      cases inB r 0 1000 with
      | false => rfl
      | true =>
        simp only [Bool.not_true, cond_false, Option.bind_some, Bool.and_true, if_true]
        rw [raise_loop x r (by omega)]
        · rfl
        · intro k l p hp
          have hk := (List.getElem?_eq_some_iff.1 hp).1
          simp only [idx_nat, hp, Option.bind_some, w64_nat (by omega : k < 9223372036854775807), show ((k : Int) < (x.length : Int)) by omega, decide_true, cond_true]
          rfl
        · intro l; simp
  · have h' : ¬ (x.length : Int) ≤ 40 := by omega
    rw [decide_eq_false h', decide_eq_false h]
    simp

def gt {α : Type} [Inhabited α] (l : List α) (k : Nat) : α := (l[k]?).getD default

theorem gt_of {α : Type} [Inhabited α] {l : List α} {k : Nat} {x : α} (h : l[k]? = some x) : gt l k = x := by unfold gt; rw [h]; rfl

theorem at_gt {α : Type} [Inhabited α] {l : List α} {k : Nat} (h : k < l.length) : l[k]? = some (gt l k) := by unfold gt; rw [List.getElem?_eq_getElem h]; rfl

theorem idx_gt {α : Type} [Inhabited α] {l : List α} {k : Nat} (h : k < l.length) : idx l (k : Int) = some (gt l k) := (idx_nat l k).trans (at_gt h)

theorem gt_mem {α : Type} [Inhabited α] {l : List α} {k : Nat} (h : k < l.length) : gt l k ∈ l := List.mem_of_getElem? (at_gt h)

theorem gt_append_left {α : Type} [Inhabited α] {l1 l2 : List α} {k : Nat} (h : k < l1.length) : gt (l1 ++ l2) k = gt l1 k := by unfold gt; rw [List.getElem?_append_left h]

theorem brkE_inl {β ρ τ : Type} {b : β} {k : β → Option τ} {e : ρ → Option τ} : brkE (.inl b) k e = k b := rfl

theorem loop_all {σ ρ : Type} {body : σ → Option (LS σ ρ)} {s0 : σ} {r : ρ} (I : Nat → σ) (N : Nat) (h0 : I 0 = s0) (hs : ∀ k, k < N → body (I k) = some (.cont (I (k + 1)))) (he : body (I N) = some (.done r)) : loopW body s0 = some r := by
  rw [← h0, loopW_count I N hs, loopW_done he]

theorem loop_bind {σ ρ τ : Type} {body : σ → Option (LS σ ρ)} {s0 : σ} {r : ρ} {K : ρ → Option τ} {v : Option τ} (I : Nat → σ) (N : Nat) (h0 : I 0 = s0) (hs : ∀ k, k < N → body (I k) = some (.cont (I (k + 1)))) (he : body (I N) = some (.done r)) (hk : K r = v) : (loopW body s0).bind K = v := by
  rw [loop_all I N h0 hs he]; exact hk

theorem idx_mid {α : Type} (A : List α) (x : α) (B : List α) {i : Int} (h : i = (A.length : Int)) : idx (A ++ x :: B) i = some x := by
  subst h
  rw [idx_nat, List.getElem?_append_right (Nat.le_refl _), Nat.sub_self]
  rfl

theorem set_mid {α : Type} (A : List α) (x y : α) (B : List α) {i : Int} (h : i = (A.length : Int)) : (A ++ x :: B).set (Int.toNat i) y = A ++ y :: B := by
  subst h
  rw [Int.toNat_natCast, List.set_append_right _ _ (Nat.le_refl _), Nat.sub_self]
  rfl

def Ahead (key : Int → Int) (x y : Int) : Prop := key y < key x ∨ (key x = key y ∧ x < y)

theorem Ahead.trans {key : Int → Int} {x y z : Int} (h : Ahead key x y) (k : Ahead key y z) : Ahead key x z := by
  unfold Ahead at *; omega

theorem Ahead.le {key : Int → Int} {x y : Int} (h : Ahead key x y) : key y ≤ key x := by
  unfold Ahead at h; omega

def CmpAs (D : Int → Prop) (key : Int → Int) (z0 : Int) (z1 : List Int) (z2 : Int) : Prop :=
  ∀ x y, D x → D y → ∃ t, impl_Allocate_1 x y z0 z1 z2 = some t ∧ decide (t < 0) = decide (key y < key x)

theorem insert_loop {ρ : Type} {D : Int → Prop} {key : Int → Int} {z0 : Int} {z1 : List Int} {z2 : Int} (hc : CmpAs D key z0 z1 z2) (pre post : List Int) (x : Int) (hx : D x) (i0 a0 b0 : Int) (hpre : pre.length ≤ 1000000) :
    ∀ (n : Nat) (M1 M2 : List Int), M1.length = n → n ≤ 1000000 → (∀ y ∈ M1, D y ∧ y < x) → (M1 ++ M2).Pairwise (Ahead key) → (∀ y ∈ M2, Ahead key x y) →
      ∃ M, loopW (ρ := (Int × (List Int) × Int × Int) ⊕ ρ) (fun (s37 : Int × (List Int)) =>
        Option.bind (α := Bool)
          (cond (decide (s37.1 > (pre.length : Int)))
            ((idx s37.2 s37.1).bind fun x56 =>
            (idx s37.2 (w64 (s37.1 - 1))).bind fun x59 =>
            (impl_Allocate_1 x56 x59 z0 z1 z2).bind fun t62 =>
            some (decide (t62 < 0)))
            (some false))
          fun p50 =>
        cond p50
          ((idx s37.2 (w64 (s37.1 - 1))).bind fun x69 =>
          (idx s37.2 s37.1).bind fun x72 =>
          (idx s37.2 s37.1).bind fun x75 =>
          (some (List.set s37.2 (Int.toNat s37.1) x69)).bind fun l78 =>
          (idx l78 (w64 (s37.1 - 1))).bind fun x82 =>
          (some (List.set l78 (Int.toNat (w64 (s37.1 - 1))) x72)).bind fun l85 =>
          some (.cont (w64 (s37.1 - 1), l85)))
          (some (.done (.inl (i0, s37.2, a0, b0)))))
        (((pre.length + n : Nat) : Int), pre ++ (M1 ++ x :: (M2 ++ post))) = some (.inl (i0, pre ++ (M ++ post), a0, b0)) ∧ M.Perm (x :: (M1 ++ M2)) ∧ M.Pairwise (Ahead key) := by
  intro n
  induction n with
  | zero =>
    intro M1 M2 hn _ _ hp h2
    have : M1 = [] := List.eq_nil_of_length_eq_zero hn
    subst this
    refine ⟨x :: M2, ?_, by simp, ?_⟩
    · refine loopW_done ?_
      simp only [Nat.add_zero]
      rw [decide_eq_false (by omega)]
      rfl
    · rw [List.pairwise_cons]
      exact ⟨h2, hp⟩
  | succ n ih =>
    intro M1 M2 hn hb h1 hp h2
    have hne : M1 ≠ [] := fun e => by subst e; simp at hn
    obtain ⟨M0, y, hM⟩ : ∃ M0 y, M1 = M0 ++ [y] := ⟨_, _, (List.dropLast_concat_getLast hne).symm⟩
    subst hM
    have hl : M0.length = n := by simp at hn; exact hn
    have hy := h1 y (by simp)
    obtain ⟨t, et, ht⟩ := hc x y hx hy.1
    have e1 : pre ++ ((M0 ++ [y]) ++ x :: (M2 ++ post)) = (pre ++ M0 ++ [y]) ++ x :: (M2 ++ post) := by simp
    have e2 : pre ++ ((M0 ++ [y]) ++ x :: (M2 ++ post)) = (pre ++ M0) ++ y :: (x :: (M2 ++ post)) := by simp
    have i1 : idx (pre ++ ((M0 ++ [y]) ++ x :: (M2 ++ post))) ((pre.length + (n + 1) : Nat) : Int) = some x := by
      rw [e1]; exact idx_mid _ _ _ (by simp only [List.length_append, List.length_singleton, hl]; omega)
    have i2 : idx (pre ++ ((M0 ++ [y]) ++ x :: (M2 ++ post))) (w64 (((pre.length + (n + 1) : Nat) : Int) - 1)) = some y := by
      rw [e2]; exact idx_mid _ _ _ (by rw [w64_id (by omega)]; simp only [List.length_append, List.length_singleton, hl]; omega)
    by_cases hk : key y < key x
    · -- a swap
      have s1 : List.set (pre ++ ((M0 ++ [y]) ++ x :: (M2 ++ post))) (Int.toNat ((pre.length + (n + 1) : Nat) : Int)) y = (pre ++ M0) ++ y :: (y :: (M2 ++ post)) := by
        rw [e1, set_mid _ _ _ _ (by simp only [List.length_append, List.length_singleton, hl]; omega)]; simp
      have i3 : idx ((pre ++ M0) ++ y :: (y :: (M2 ++ post))) (w64 (((pre.length + (n + 1) : Nat) : Int) - 1)) = some y := idx_mid _ _ _ (by rw [w64_id (by omega)]; simp only [List.length_append, List.length_singleton, hl]; omega)
      have s2 : List.set ((pre ++ M0) ++ y :: (y :: (M2 ++ post))) (Int.toNat (w64 (((pre.length + (n + 1) : Nat) : Int) - 1))) x = pre ++ (M0 ++ x :: ((y :: M2) ++ post)) := by
        rw [set_mid _ _ _ _ (by rw [w64_id (by omega)]; simp only [List.length_append, List.length_singleton, hl]; omega)]; simp
      have hp' : (M0 ++ (y :: M2)).Pairwise (Ahead key) := by
        have : M0 ++ (y :: M2) = M0 ++ [y] ++ M2 := by simp
        rw [this]; exact hp
      obtain ⟨M, m1, m2, m3⟩ := ih M0 (y :: M2) hl (by omega) (fun z hz => h1 z (List.mem_append_left _ hz)) hp' (fun z hz => by
        rcases List.mem_cons.1 hz with rfl | hz
        · exact .inl hk
        · exact h2 z hz)
      refine ⟨M, ?_, m2.trans (by simp), m3⟩
      rw [← m1]
      refine loopW_cont ?_
      simp only
      rw [decide_eq_true (by omega : ((pre.length + (n + 1) : Nat) : Int) > (pre.length : Int)), i1, i2]
      simp only [cond_true, Option.bind_some, et, ht, hk, decide_true, s1, i3, s2]
      rw [w64_id (by omega), show ((pre.length + (n + 1) : Nat) : Int) - 1 = ((pre.length + n : Nat) : Int) by omega]
    · refine ⟨(M0 ++ [y]) ++ x :: M2, ?_, List.perm_middle, ?_⟩
      · refine loopW_done ?_
        simp only
        rw [decide_eq_true (by omega : ((pre.length + (n + 1) : Nat) : Int) > (pre.length : Int)), i1, i2]
        simp only [cond_true, Option.bind_some, et, ht, hk, decide_false, cond_false]
        simp
      · have hyx : Ahead key y x := by unfold Ahead; omega
        rw [List.pairwise_append] at hp ⊢
        refine ⟨hp.1, List.pairwise_cons.2 ⟨h2, hp.2.1⟩, fun u hu v hv => ?_⟩
        rcases List.mem_cons.1 hv with rfl | hv
        · rcases List.mem_append.1 hu with hu | hu
          · exact Ahead.trans ((List.pairwise_append.1 hp.1).2.2 u hu y (by simp)) hyx
          · rw [List.mem_singleton] at hu
            subst hu
            exact hyx
        · exact hp.2.2 u hu v hv

theorem insertion_eq {D : Int → Prop} {key : Int → Int} {z0 : Int} {z1 : List Int} {z2 : Int} (hc : CmpAs D key z0 z1 z2) (pre L post : List Int) (hpre : pre.length ≤ 1000000) (hL : L.length ≤ 1000000) (hD : ∀ y ∈ L, D y) (hi : L.Pairwise (fun x y => x < y)) {a b : Int} (ha : a = (pre.length : Int)) (hb : b = ((pre.length + L.length : Nat) : Int)) :
    ∃ M, slices_insertionSortCmpFunc_int__impl_Allocate_1 (pre ++ (L ++ post)) a b z0 z1 z2 = some (pre ++ (M ++ post)) ∧ M.Perm L ∧ M.Pairwise (Ahead key) := by
  subst ha hb
  have main : ∀ (n : Nat) (M T : List Int), T.length = n → M.length + n = L.length → M ≠ [] ∨ T = [] → M.Pairwise (Ahead key) → (M ++ T).Perm L → (∀ y ∈ M, ∀ x ∈ T, y < x) → T.Pairwise (fun x y => x < y) →
      ∃ M', loopW (ρ := ((List Int)) ⊕ ((List Int))) (fun (s21 : Int × (List Int) × Int × Int) =>
    cond (decide (s21.1 < s21.2.2.2))
      ((loopW (ρ := (Int × (List Int) × Int × Int) ⊕ ((List Int))) (fun (s37 : Int × (List Int)) =>
        Option.bind (α := Bool)
          (cond (decide (s37.1 > s21.2.2.1))
            ((idx s37.2 s37.1).bind fun x56 =>
            (idx s37.2 (w64 (s37.1 - 1))).bind fun x59 =>
            (impl_Allocate_1 x56 x59 z0 z1 z2).bind fun t62 =>
            some (decide (t62 < 0)))
            (some false))
          fun p50 =>
        cond p50
          ((idx s37.2 (w64 (s37.1 - 1))).bind fun x69 =>
          (idx s37.2 s37.1).bind fun x72 =>
          (idx s37.2 s37.1).bind fun x75 =>
          (some (List.set s37.2 (Int.toNat s37.1) x69)).bind fun l78 =>
          (idx l78 (w64 (s37.1 - 1))).bind fun x82 =>
          (some (List.set l78 (Int.toNat (w64 (s37.1 - 1))) x72)).bind fun l85 =>
          some (.cont (w64 (s37.1 - 1), l85)))
          (some (.done (.inl (s21.1, s37.2, s21.2.2.1, s21.2.2.2)))))
        (s21.1, s21.2.1)).bind fun r40 => brkE r40 (fun (j47 : Int × (List Int) × Int × Int) =>
        some (.cont (w64 (j47.1 + 1), j47.2.1, j47.2.2.1, j47.2.2.2)))
        (fun v => some (.done (.inr v))))
      (some (.done (.inl s21.2.1))))
    (((pre.length + M.length : Nat) : Int), pre ++ (M ++ (T ++ post)), (pre.length : Int), ((pre.length + L.length : Nat) : Int)) = some (.inl (pre ++ (M' ++ post))) ∧ M'.Perm L ∧ M'.Pairwise (Ahead key) := by
    intro n
    induction n with
    | zero =>
      intro M T hT hl _ hp hperm _ _
      have : T = [] := List.eq_nil_of_length_eq_zero hT
      subst this
      refine ⟨M, ?_, by simpa using hperm, hp⟩
      refine loopW_done ?_
      simp only
      rw [decide_eq_false (by omega)]
      simp
    | succ n ih =>
      intro M T hT hl hne hp hperm hlt hinc
      obtain ⟨x, T', rfl⟩ : ∃ x T', T = x :: T' := by
        cases T with
        | nil => simp at hT
        | cons x T' => exact ⟨x, T', rfl⟩
      have hmem : ∀ y, y ∈ M ∨ y ∈ x :: T' → y ∈ L := fun y hy => hperm.mem_iff.1 (List.mem_append.2 hy)
      obtain ⟨M2, m1, m2, m3⟩ := insert_loop (ρ := List Int) hc pre (T' ++ post) x (hD x (hmem x (.inr (by simp)))) ((pre.length + M.length : Nat) : Int) (pre.length : Int) ((pre.length + L.length : Nat) : Int) hpre M.length M [] rfl (by omega)
        (fun y hy => ⟨hD y (hmem y (.inl hy)), hlt y hy x (by simp)⟩) (by simpa using hp) (by simp)
      have hlen : M2.length = M.length + 1 := by rw [m2.length_eq]; simp
      obtain ⟨M', k1, k2, k3⟩ := ih M2 T' (by simpa using hT) (by omega) (.inl (fun e => by subst e; simp at hlen)) m3 (by
          refine List.Perm.trans ?_ hperm
          refine (m2.append_right T').trans ?_
          simp only [List.append_nil]
          exact (List.perm_middle (l₁ := M)).symm) (fun y hy z hz => by
          have := m2.mem_iff.1 hy
          simp only [List.append_nil, List.mem_cons] at this
          rcases this with rfl | this
          · exact (List.pairwise_cons.1 hinc).1 z hz
          · exact hlt y this z (List.mem_cons_of_mem _ hz)) (List.pairwise_cons.1 hinc).2
      refine ⟨M', ?_, k2, k3⟩
      rw [← k1]
      refine loopW_cont ?_
      simp only
      rw [decide_eq_true (by omega)]
      simp only [cond_true]
      have e : pre ++ (M ++ (x :: T' ++ post)) = pre ++ (M ++ x :: ([] ++ (T' ++ post))) := by simp
      rw [e, m1]
      simp only [Option.bind_some, brkE]
      rw [w64_nat (by omega), hlen, Nat.add_assoc]
  unfold slices_insertionSortCmpFunc_int__impl_Allocate_1
  cases L with
  | nil =>
    refine ⟨[], ?_, List.Perm.refl _, List.Pairwise.nil⟩
    rw [loopW_done (r := .inl (pre ++ ([] ++ post))) (by
      simp only
      rw [decide_eq_false (by rw [w64_id (by omega)]; simp only [List.length_nil]; omega)]
      rfl)]
    rfl
  | cons x T =>
    obtain ⟨M', k1, k2, k3⟩ := main T.length [x] T rfl (by simp; omega) (.inl (by simp)) (by simp) (List.Perm.refl _) (fun y hy z hz => by
      rw [List.mem_singleton] at hy
      subst hy
      exact (List.pairwise_cons.1 hi).1 z hz) (List.pairwise_cons.1 hi).2
    refine ⟨M', ?_, k2, k3⟩
    rw [w64_nat (by omega)]
    have e : pre ++ (x :: T ++ post) = pre ++ ([x] ++ (T ++ post)) := by simp
    rw [e]
    have e2 : pre.length + 1 = pre.length + [x].length := rfl
    rw [e2, k1]
    rfl

theorem swapRange_eq (z0 : Int) (z1 : List Int) (z2 : Int) (pre X mid Y post : List Int) (hxy : X.length = Y.length) (hb : pre.length + X.length + mid.length + Y.length ≤ 1000000) {a b n : Int} (ha : a = (pre.length : Int)) (hbb : b = ((pre.length + X.length + mid.length : Nat) : Int)) (hn : n = (X.length : Int)) :
    slices_swapRangeCmpFunc_int__impl_Allocate_1 (pre ++ (X ++ (mid ++ (Y ++ post)))) a b n z0 z1 z2 = some (pre ++ (Y ++ (mid ++ (X ++ post)))) := by
  subst ha hbb hn
  unfold slices_swapRangeCmpFunc_int__impl_Allocate_1
  refine loop_bind (r := .inl (pre ++ (Y ++ (mid ++ (X ++ post))))) (fun k => ((k : Int), pre ++ (Y.take k ++ (X.drop k ++ (mid ++ (X.take k ++ (Y.drop k ++ post))))))) X.length (by simp) (fun k hk => ?_) ?_ rfl
  · have hky : k < Y.length := by omega
    obtain ⟨x, hx⟩ : ∃ x, X.drop k = x :: X.drop (k + 1) := ⟨_, List.drop_eq_getElem_cons hk⟩
    obtain ⟨y, hy⟩ : ∃ y, Y.drop k = y :: Y.drop (k + 1) := ⟨_, List.drop_eq_getElem_cons hky⟩
    have tx : X.take (k + 1) = X.take k ++ [x] := by
      have := List.take_append_drop k X
      rw [hx] at this
      have h2 : X[k]? = some x := by
        rw [← this, List.getElem?_append_right (by rw [List.length_take]; omega), List.length_take, Nat.min_eq_left (by omega), Nat.sub_self]
        rfl
      rw [List.take_add_one, h2]
      rfl
    have ty : Y.take (k + 1) = Y.take k ++ [y] := by
      have := List.take_append_drop k Y
      rw [hy] at this
      have h2 : Y[k]? = some y := by
        rw [← this, List.getElem?_append_right (by rw [List.length_take]; omega), List.length_take, Nat.min_eq_left (by omega), Nat.sub_self]
        rfl
      rw [List.take_add_one, h2]
      rfl
    have ltx : (X.take k).length = k := by rw [List.length_take]; omega
    have lty : (Y.take k).length = k := by rw [List.length_take]; omega
    have ldx : (X.drop (k + 1)).length = X.length - (k + 1) := List.length_drop
    simp only
    rw [decide_eq_true (by omega), w64_nat (by omega), tx, ty, hx, hy]
    have wa : w64 ((pre.length : Int) + (k : Int)) = ((pre ++ Y.take k).length : Int) := by rw [w64_id (by omega), List.length_append, lty]; omega
    have wb : w64 (((pre.length + X.length + mid.length : Nat) : Int) + (k : Int)) = ((pre ++ (Y.take k ++ ((x :: X.drop (k + 1)) ++ (mid ++ X.take k)))).length : Int) := by
      rw [w64_id (by omega)]
      simp only [List.length_append, List.length_cons, ltx, lty, ldx]
      omega
    have e1 : pre ++ (Y.take k ++ (x :: X.drop (k + 1) ++ (mid ++ (X.take k ++ (y :: Y.drop (k + 1) ++ post))))) = (pre ++ Y.take k) ++ x :: (X.drop (k + 1) ++ (mid ++ (X.take k ++ (y :: Y.drop (k + 1) ++ post)))) := by simp
    have e2 : pre ++ (Y.take k ++ (x :: X.drop (k + 1) ++ (mid ++ (X.take k ++ (y :: Y.drop (k + 1) ++ post))))) = (pre ++ (Y.take k ++ ((x :: X.drop (k + 1)) ++ (mid ++ X.take k)))) ++ y :: (Y.drop (k + 1) ++ post) := by simp
    have i1 : idx (pre ++ (Y.take k ++ (x :: X.drop (k + 1) ++ (mid ++ (X.take k ++ (y :: Y.drop (k + 1) ++ post)))))) (w64 ((pre.length : Int) + (k : Int))) = some x := by rw [e1]; exact idx_mid _ _ _ wa
    have i2 : idx (pre ++ (Y.take k ++ (x :: X.drop (k + 1) ++ (mid ++ (X.take k ++ (y :: Y.drop (k + 1) ++ post)))))) (w64 (((pre.length + X.length + mid.length : Nat) : Int) + (k : Int))) = some y := by rw [e2]; exact idx_mid _ _ _ wb
    have s1 : List.set (pre ++ (Y.take k ++ (x :: X.drop (k + 1) ++ (mid ++ (X.take k ++ (y :: Y.drop (k + 1) ++ post)))))) (Int.toNat (w64 ((pre.length : Int) + (k : Int)))) y = (pre ++ (Y.take k ++ ((y :: X.drop (k + 1)) ++ (mid ++ X.take k)))) ++ y :: (Y.drop (k + 1) ++ post) := by
      rw [e1, set_mid _ _ _ _ wa]; simp
    have wb2 : w64 (((pre.length + X.length + mid.length : Nat) : Int) + (k : Int)) = ((pre ++ (Y.take k ++ ((y :: X.drop (k + 1)) ++ (mid ++ X.take k)))).length : Int) := by
      rw [wb]; simp
    have i3 : idx ((pre ++ (Y.take k ++ ((y :: X.drop (k + 1)) ++ (mid ++ X.take k)))) ++ y :: (Y.drop (k + 1) ++ post)) (w64 (((pre.length + X.length + mid.length : Nat) : Int) + (k : Int))) = some y := idx_mid _ _ _ wb2
    have s2 : List.set ((pre ++ (Y.take k ++ ((y :: X.drop (k + 1)) ++ (mid ++ X.take k)))) ++ y :: (Y.drop (k + 1) ++ post)) (Int.toNat (w64 (((pre.length + X.length + mid.length : Nat) : Int) + (k : Int)))) x = pre ++ (Y.take k ++ [y] ++ (X.drop (k + 1) ++ (mid ++ (X.take k ++ [x] ++ (Y.drop (k + 1) ++ post))))) := by
      rw [set_mid _ _ _ _ wb2]; simp
    simp only [i1, i2, cond_true, Option.bind_some, s1, i3, s2]
  · simp only
    rw [decide_eq_false (by omega)]
    simp [hxy, List.take_of_length_le, List.drop_of_length_le]

theorem sameLen_ok {α : Type} {a b : List α} (h : a.length = b.length) : sameLen a b = some () := by unfold sameLen; rw [if_pos h]

theorem rotate_eq (z0 : Int) (z1 : List Int) (z2 : Int) (pre U V post : List Int) (hu : U ≠ []) (hv : V ≠ []) (hb : pre.length + U.length + V.length ≤ 1000000) {a m b : Int} (ha : a = (pre.length : Int)) (hm : m = ((pre.length + U.length : Nat) : Int)) (hbb : b = ((pre.length + U.length + V.length : Nat) : Int)) :
    slices_rotateCmpFunc_int__impl_Allocate_1 (pre ++ (U ++ (V ++ post))) a m b z0 z1 z2 = some (pre ++ (V ++ (U ++ post))) := by
  have hu1 : 0 < U.length := List.length_pos_iff.2 hu
  have hv1 : 0 < V.length := List.length_pos_iff.2 hv
  subst ha hbb
  have main : ∀ (n : Nat) (P U' V' Q : List Int), U'.length + V'.length ≤ n → 0 < U'.length → 0 < V'.length → m = ((P.length + U'.length : Nat) : Int) → P.length + U'.length + V'.length ≤ 1000000 → P ++ (V' ++ (U' ++ Q)) = pre ++ (V ++ (U ++ post)) →
      ∃ (P' U'' V'' Q' : List Int), loopW (ρ := (Int × (List Int) × Int) ⊕ ((List Int))) (fun (s21 : Int × Int × (List Int)) =>
    cond (s21.2.1 != s21.1)
      (cond (decide (s21.2.1 > s21.1))
        ((slices_swapRangeCmpFunc_int__impl_Allocate_1 s21.2.2 (w64 (m - s21.2.1)) m s21.1 z0 z1 z2).bind fun t48 =>
        (sameLen t48 s21.2.2).bind fun _ =>
        some (.cont (s21.1, w64 (s21.2.1 - s21.1), t48)))
        ((slices_swapRangeCmpFunc_int__impl_Allocate_1 s21.2.2 (w64 (m - s21.2.1)) (w64 ((w64 (m + s21.1)) - s21.2.1)) s21.2.1 z0 z1 z2).bind fun t56 =>
        (sameLen t56 s21.2.2).bind fun _ =>
        some (.cont (w64 (s21.1 - s21.2.1), s21.2.1, t56))))
      (some (.done (.inl (s21.2.1, s21.2.2, m)))))
    ((V'.length : Int), (U'.length : Int), P ++ (U' ++ (V' ++ Q))) = some (.inl ((U''.length : Int), P' ++ (U'' ++ (V'' ++ Q')), m)) ∧ U''.length = V''.length ∧ m = ((P'.length + U''.length : Nat) : Int) ∧ P'.length + U''.length + V''.length ≤ 1000000 ∧ P' ++ (V'' ++ (U'' ++ Q')) = pre ++ (V ++ (U ++ post)) := by
    intro n
    induction n with
    | zero => intro P U' V' Q h h1 h2; omega
    | succ n ih =>
      intro P U' V' Q hn h1 h2 hm' hb' ht
      by_cases he : U'.length = V'.length
      · refine ⟨P, U', V', Q, ?_, he, hm', hb', ht⟩
        refine loopW_done ?_
        simp only
        rw [he]
        simp
      · have hne : (((U'.length : Nat) : Int) != ((V'.length : Nat) : Int)) = true := by
          simp only [bne_iff_ne, ne_eq]
          omega
        by_cases hg : V'.length < U'.length
        · -- the front of U' with V'
          obtain ⟨U1, U2, hU, l1⟩ : ∃ U1 U2, U' = U1 ++ U2 ∧ U1.length = V'.length := ⟨U'.take V'.length, U'.drop V'.length, (List.take_append_drop _ _).symm, by rw [List.length_take]; omega⟩
          have l2 : U1.length + U2.length = U'.length := by rw [hU, List.length_append]
          have sw := swapRange_eq z0 z1 z2 P U1 U2 V' Q l1 (by omega) (a := w64 (m - (U'.length : Int))) (b := m) (n := (V'.length : Int)) (by rw [hm', w64_id (by omega)]; omega) (by rw [hm']; omega) (by omega)
          obtain ⟨P', U'', V'', Q', k1, k2⟩ := ih (P ++ V') U2 U1 Q (by omega) (by omega) (by omega) (by rw [hm', List.length_append]; omega) (by rw [List.length_append]; omega) (by rw [← ht, hU]; simp)
          refine ⟨P', U'', V'', Q', ?_, k2⟩
          rw [← k1]
          refine loopW_cont ?_
          simp only
          have eq1 : P ++ (U' ++ (V' ++ Q)) = P ++ (U1 ++ (U2 ++ (V' ++ Q))) := by rw [hU]; simp
          rw [hne, decide_eq_true (by omega : ((U'.length : Nat) : Int) > ((V'.length : Nat) : Int)), eq1, sw]
          simp only [cond_true, Option.bind_some]
          rw [sameLen_ok (by simp only [List.length_append]; omega), w64_id (by omega)]
          simp only [Option.bind_some]
          rw [show ((U'.length : Nat) : Int) - (V'.length : Int) = (U2.length : Int) by omega, l1]
          simp
        · -- U' with the end of V'
          obtain ⟨V1, V2, hV, l1⟩ : ∃ V1 V2, V' = V1 ++ V2 ∧ V2.length = U'.length := ⟨V'.take (V'.length - U'.length), V'.drop (V'.length - U'.length), (List.take_append_drop _ _).symm, by rw [List.length_drop]; omega⟩
          have l2 : V1.length + V2.length = V'.length := by rw [hV, List.length_append]
          have sw := swapRange_eq z0 z1 z2 P U' V1 V2 Q l1.symm (by omega) (a := w64 (m - (U'.length : Int))) (b := w64 ((w64 (m + (V'.length : Int))) - (U'.length : Int))) (n := (U'.length : Int)) (by rw [hm', w64_id (by omega)]; omega) (by rw [hm', w64_id (x := ((P.length + U'.length : Nat) : Int) + (V'.length : Int)) (by omega), w64_id (by omega)]; omega) rfl
          obtain ⟨P', U'', V'', Q', k1, k2⟩ := ih P V2 V1 (U' ++ Q) (by omega) (by omega) (by omega) (by rw [hm']; omega) (by omega) (by rw [← ht, hV]; simp)
          refine ⟨P', U'', V'', Q', ?_, k2⟩
          rw [← k1]
          refine loopW_cont ?_
          simp only
          have eq1 : P ++ (U' ++ (V' ++ Q)) = P ++ (U' ++ (V1 ++ (V2 ++ Q))) := by rw [hV]; simp
          rw [hne, decide_eq_false (by omega : ¬ ((U'.length : Nat) : Int) > ((V'.length : Nat) : Int)), eq1, sw]
          simp only [cond_true, cond_false, Option.bind_some]
          rw [sameLen_ok (by simp only [List.length_append]; omega), w64_id (by omega)]
          simp only [Option.bind_some]
          rw [show ((V'.length : Nat) : Int) - (U'.length : Int) = (V1.length : Int) by omega, ← l1]
  obtain ⟨P', U'', V'', Q', k1, k2, k3, k4, k5⟩ := main (U.length + V.length) pre U V post (Nat.le_refl _) hu1 hv1 hm hb rfl
  unfold slices_rotateCmpFunc_int__impl_Allocate_1
  rw [w64_id (by omega), w64_id (by omega), show ((pre.length + U.length + V.length : Nat) : Int) - m = (V.length : Int) by omega, show m - (pre.length : Int) = (U.length : Int) by omega, k1]
  simp only [Option.bind_some, brkE]
  have sw := swapRange_eq z0 z1 z2 P' U'' [] V'' Q' k2 (by simp only [List.length_nil]; omega) (a := w64 (m - (U''.length : Int))) (b := m) (n := (U''.length : Int)) (by rw [k3, w64_id (by omega)]; omega) (by rw [k3]; simp) rfl
  simp only [List.nil_append] at sw
  rw [sw]
  simp only [Option.bind_some]
  rw [sameLen_ok (by simp only [List.length_append]; omega), k5]
  rfl

theorem half_eq {i j : Nat} (h : i + j ≤ 4000000) : w64 (Int.fdiv (wu64 (w64 ((i : Int) + (j : Int)))) 2) = (((i + j) / 2 : Nat) : Int) := by
  rw [w64_id (x := (i : Int) + (j : Int)) (by omega)]
  have e : wu64 ((i : Int) + (j : Int)) = (i : Int) + (j : Int) := by
    unfold wu64
    exact IntWalk.u64_in _ (by omega)
  rw [e, Int.fdiv_eq_ediv_of_nonneg _ (by omega), w64_id (by omega)]
  omega

theorem bsearch {ρ : Type} {body : Int × Int → Option (LS (Int × Int) (Int ⊕ ρ))} (p : Nat → Bool) (lo hi : Nat) (hmono : ∀ i j, lo ≤ i → i ≤ j → j < hi → p j = true → p i = true)
    (hb : ∀ (i j : Nat), lo ≤ i → i < j → j ≤ hi → body ((j : Int), (i : Int)) = some (.cont (if p ((i + j) / 2) = true then ((j : Int), (((i + j) / 2 + 1 : Nat) : Int)) else ((((i + j) / 2 : Nat) : Int), (i : Int)))))
    (he : ∀ i : Nat, lo ≤ i → i ≤ hi → body ((i : Int), (i : Int)) = some (.done (.inl (i : Int)))) (hle : lo ≤ hi) :
    ∃ s : Nat, (lo ≤ s ∧ s ≤ hi) ∧ loopW body ((hi : Int), (lo : Int)) = some (.inl (s : Int)) ∧ (∀ i, lo ≤ i → i < s → p i = true) ∧ (∀ i, s ≤ i → i < hi → p i = false) := by
  have main : ∀ (d i j : Nat), j - i ≤ d → lo ≤ i → i ≤ j → j ≤ hi → (∀ k, lo ≤ k → k < i → p k = true) → (∀ k, j ≤ k → k < hi → p k = false) →
      ∃ s : Nat, (lo ≤ s ∧ s ≤ hi) ∧ loopW body ((j : Int), (i : Int)) = some (.inl (s : Int)) ∧ (∀ i, lo ≤ i → i < s → p i = true) ∧ (∀ i, s ≤ i → i < hi → p i = false) := by
    intro d
    induction d with
    | zero =>
      intro i j h1 h2 h3 h4 h5 h6
      have : j = i := by omega
      subst this
      exact ⟨j, ⟨h2, h4⟩, loopW_done (he j h2 h4), h5, h6⟩
    | succ d ih =>
      intro i j h1 h2 h3 h4 h5 h6
      by_cases hij : i = j
      · subst hij
        exact ⟨i, ⟨h2, h4⟩, loopW_done (he i h2 h4), h5, h6⟩
      · have hb' := hb i j h2 (by omega) h4
        cases hp : p ((i + j) / 2) with
        | true =>
          rw [hp, if_pos rfl] at hb'
          obtain ⟨s, k1, k2, k3⟩ := ih ((i + j) / 2 + 1) j (by omega) (by omega) (by omega) h4 (fun k a b => hmono k ((i + j) / 2) a (by omega) (by omega) hp) h6
          exact ⟨s, k1, by rw [loopW_cont hb']; exact k2, k3⟩
        | false =>
          rw [hp, if_neg (by simp)] at hb'
          obtain ⟨s, k1, k2, k3⟩ := ih i ((i + j) / 2) (by omega) h2 (by omega) (by omega) h5 (fun k a b => by
            cases hk : p k with
            | false => rfl
            | true =>
              have := hmono ((i + j) / 2) k (by omega) a b hk
              rw [hp] at this
              cases this)
          exact ⟨s, k1, by rw [loopW_cont hb']; exact k2, k3⟩
  exact main (hi - lo) lo hi (Nat.le_refl _) (Nat.le_refl _) hle (Nat.le_refl _) (fun k a b => by omega) (fun k a b => by omega)

theorem sorted_key {key : Int → Int} {L : List Int} (h : L.Pairwise (Ahead key)) {i j : Nat} (hij : i ≤ j) (hj : j < L.length) : key (gt L j) ≤ key (gt L i) := by
  by_cases e : i = j
  · subst e; exact Int.le_refl _
  · rw [List.pairwise_iff_getElem] at h
    have := (h i j (by omega) hj (by omega)).le
    have g1 : gt L i = L[i] := gt_of (List.getElem?_eq_getElem (by omega))
    have g2 : gt L j = L[j] := gt_of (List.getElem?_eq_getElem hj)
    rw [g1, g2]
    exact this

theorem gt_right {α : Type} [Inhabited α] (A B : List α) (k : Nat) : gt (A ++ B) (A.length + k) = gt B k := by
  unfold gt
  rw [List.getElem?_append_right (by omega), Nat.add_sub_cancel_left]

theorem gt_mid {α : Type} [Inhabited α] (A B C : List α) {k : Nat} (h : k < B.length) : gt (A ++ (B ++ C)) (A.length + k) = gt B k := by
  rw [gt_right, gt_append_left h]

theorem mem_take_gt {L : List Int} {n : Nat} {x : Int} (h : x ∈ L.take n) : ∃ k, k < n ∧ k < L.length ∧ gt L k = x := by
  obtain ⟨k, hk⟩ := List.getElem?_of_mem h
  have hl := (List.getElem?_eq_some_iff.1 hk).1
  rw [List.length_take] at hl
  rw [List.getElem?_take] at hk
  split at hk
  · exact ⟨k, by omega, by omega, gt_of hk⟩
  · cases hk

theorem mem_drop_gt {L : List Int} {n : Nat} {x : Int} (h : x ∈ L.drop n) : ∃ k, n ≤ k ∧ k < L.length ∧ gt L k = x := by
  obtain ⟨k, hk⟩ := List.getElem?_of_mem h
  rw [List.getElem?_drop] at hk
  exact ⟨n + k, by omega, (List.getElem?_eq_some_iff.1 hk).1, gt_of hk⟩

theorem drop_cons {α : Type} [Inhabited α] {L : List α} {k : Nat} (h : k < L.length) : L.drop k = gt L k :: L.drop (k + 1) := by
  rw [List.drop_eq_getElem_cons h]
  congr 1
  exact (gt_of (List.getElem?_eq_getElem h)).symm

theorem take_snoc {α : Type} [Inhabited α] {L : List α} {k : Nat} (h : k < L.length) : L.take (k + 1) = L.take k ++ [gt L k] := by
  rw [List.take_add_one, at_gt h]
  rfl

theorem merge_one {D : Int → Prop} {key : Int → Int} {z0 : Int} {z1 : List Int} {z2 : Int} (hc : CmpAs D key z0 z1 z2) (self : List Int → Int → Int → Int → Int → List Int → Int → Option (List Int)) (pre Q post : List Int) (x : Int) (hb : pre.length + 1 + Q.length ≤ 1000000) (hx : D x) (hQ : ∀ y ∈ Q, D y) (hs : Q.Pairwise (Ahead key)) (hlt : ∀ y ∈ Q, x < y) :
    ∃ M, slices_symMergeCmpFunc_int__impl_Allocate_1_step self (pre ++ (x :: (Q ++ post))) (pre.length : Int) ((pre.length + 1 : Nat) : Int) ((pre.length + 1 + Q.length : Nat) : Int) z0 z1 z2 = some (pre ++ (M ++ post)) ∧ M.Perm (x :: Q) ∧ M.Pairwise (Ahead key) := by
  obtain ⟨dat, hd⟩ : ∃ dat, dat = pre ++ (x :: (Q ++ post)) := ⟨_, rfl⟩
  have ga : gt dat pre.length = x := by rw [hd]; exact gt_of (by rw [List.getElem?_append_right (Nat.le_refl _), Nat.sub_self]; rfl)
  have gq : ∀ k, k < Q.length → gt dat (pre.length + 1 + k) = gt Q k := fun k hk => by
    have : dat = (pre ++ [x]) ++ (Q ++ post) := by rw [hd]; simp
    rw [this]
    have e : pre.length + 1 + k = (pre ++ [x]).length + k := by simp
    rw [e]
    exact gt_mid _ _ _ hk
  have dl : dat.length = pre.length + 1 + Q.length + post.length := by rw [hd]; simp; omega
  have ia : idx dat (pre.length : Int) = some x := by rw [← ga]; exact idx_gt (by omega)
  obtain ⟨s, ⟨s1, s2⟩, s3, s4, s5⟩ := bsearch (ρ := List Int) (body := fun (s92 : Int × Int) =>
      cond (decide (s92.2 < s92.1))
        ((idx dat (w64 (Int.fdiv (wu64 (w64 (s92.2 + s92.1))) 2))).bind fun x146 =>
        (idx dat (pre.length : Int)).bind fun x149 =>
        (impl_Allocate_1 x146 x149 z0 z1 z2).bind fun t152 =>
        cond (decide (t152 < 0))
          (some (.cont (s92.1, w64 ((w64 (Int.fdiv (wu64 (w64 (s92.2 + s92.1))) 2)) + 1))))
          (some (.cont (w64 (Int.fdiv (wu64 (w64 (s92.2 + s92.1))) 2), s92.2))))
        (some (.done (.inl s92.2)))) (fun c => decide (key x < key (gt dat c))) (pre.length + 1) (pre.length + 1 + Q.length) (fun i j h1 h2 h3 h4 => by
      rw [decide_eq_true_eq] at h4 ⊢
      obtain ⟨i', rfl⟩ : ∃ i', i = pre.length + 1 + i' := ⟨i - (pre.length + 1), by omega⟩
      obtain ⟨j', rfl⟩ : ∃ j', j = pre.length + 1 + j' := ⟨j - (pre.length + 1), by omega⟩
      rw [gq _ (by omega)] at h4 ⊢
      have := sorted_key hs (show i' ≤ j' by omega) (by omega)
      omega) (fun i j h1 h2 h3 => by
      obtain ⟨c, hcc⟩ : ∃ c, c = (i + j) / 2 := ⟨_, rfl⟩
      obtain ⟨c', hc'⟩ : ∃ c', c = pre.length + 1 + c' := ⟨c - (pre.length + 1), by omega⟩
      have hm : gt dat c ∈ Q := by rw [hc', gq _ (by omega)]; exact gt_mem (by omega)
      obtain ⟨t, et, ht⟩ := hc (gt dat c) x (hQ _ hm) hx
      simp only
      rw [decide_eq_true (by omega), half_eq (by omega), ← hcc, idx_gt (by omega), ia]
      simp only [cond_true, Option.bind_some, et, ht]
      rw [w64_nat (by omega)]
      cases decide (key x < key (gt dat c)) <;> rfl) (fun i h1 h2 => by
      simp only
      rw [decide_eq_false (by omega)]
      rfl) (by omega)
  obtain ⟨k, rfl⟩ : ∃ k, s = pre.length + 1 + k := ⟨s - (pre.length + 1), by omega⟩
  have hkl : k ≤ Q.length := by omega
  refine ⟨Q.take k ++ x :: Q.drop k, ?_, ?_, ?_⟩
  · unfold slices_symMergeCmpFunc_int__impl_Allocate_1_step
    rw [w64_id (by omega), show ((pre.length + 1 : Nat) : Int) - (pre.length : Int) = 1 by omega]
    simp only [beq_self_eq_true, cond_true]
    rw [← hd, s3]
    simp only [Option.bind_some, brkE]
    refine loop_bind (r := .inl (pre ++ ((Q.take k ++ x :: Q.drop k) ++ post))) (fun j => (((pre.length + j : Nat) : Int), pre ++ (Q.take j ++ (x :: (Q.drop j ++ post))))) k ?_ (fun j hj => ?_) ?_ rfl
    · rw [hd]; simp
    · have hjl : j < Q.length := by omega
      have dj := drop_cons hjl
      have tj := take_snoc hjl
      have ltj : (Q.take j).length = j := by rw [List.length_take]; omega
      obtain ⟨y, hy⟩ : ∃ y, y = gt Q j := ⟨_, rfl⟩
      rw [← hy] at dj tj
      simp only
      rw [decide_eq_true (by rw [w64_id (by omega)]; omega), w64_nat (by omega), tj, dj]
      have e1 : pre ++ (Q.take j ++ (x :: (y :: Q.drop (j + 1) ++ post))) = (pre ++ Q.take j) ++ x :: (y :: Q.drop (j + 1) ++ post) := by simp
      have e2 : pre ++ (Q.take j ++ (x :: (y :: Q.drop (j + 1) ++ post))) = (pre ++ (Q.take j ++ [x])) ++ y :: (Q.drop (j + 1) ++ post) := by simp
      have wa : ((pre.length + j : Nat) : Int) = ((pre ++ Q.take j).length : Int) := by rw [List.length_append, ltj]
      have wb : ((pre.length + j + 1 : Nat) : Int) = ((pre ++ (Q.take j ++ [x])).length : Int) := by simp only [List.length_append, ltj, List.length_singleton]; omega
      have i1 : idx (pre ++ (Q.take j ++ (x :: (y :: Q.drop (j + 1) ++ post)))) ((pre.length + j : Nat) : Int) = some x := by rw [e1]; exact idx_mid _ _ _ wa
      have i2 : idx (pre ++ (Q.take j ++ (x :: (y :: Q.drop (j + 1) ++ post)))) ((pre.length + j + 1 : Nat) : Int) = some y := by rw [e2]; exact idx_mid _ _ _ wb
      have t1 : List.set (pre ++ (Q.take j ++ (x :: (y :: Q.drop (j + 1) ++ post)))) (Int.toNat ((pre.length + j : Nat) : Int)) y = (pre ++ (Q.take j ++ [y])) ++ y :: (Q.drop (j + 1) ++ post) := by rw [e1, set_mid _ _ _ _ wa]; simp
      have wb2 : ((pre.length + j + 1 : Nat) : Int) = ((pre ++ (Q.take j ++ [y])).length : Int) := by rw [wb]; simp
      have i3 : idx ((pre ++ (Q.take j ++ [y])) ++ y :: (Q.drop (j + 1) ++ post)) ((pre.length + j + 1 : Nat) : Int) = some y := idx_mid _ _ _ wb2
      have t2 : List.set ((pre ++ (Q.take j ++ [y])) ++ y :: (Q.drop (j + 1) ++ post)) (Int.toNat ((pre.length + j + 1 : Nat) : Int)) x = pre ++ (Q.take j ++ [y] ++ (x :: (Q.drop (j + 1) ++ post))) := by rw [set_mid _ _ _ _ wb2]; simp
      simp only [i1, i2, cond_true, Option.bind_some, t1, i3, t2]
      rw [Nat.add_assoc]
    · simp only
      rw [decide_eq_false (by rw [w64_id (by omega)]; omega)]
      simp
  · have := List.take_append_drop k Q
    exact (List.perm_middle).trans (by rw [this])
  · rw [List.pairwise_append]
    refine ⟨hs.sublist (List.take_sublist _ _), List.pairwise_cons.2 ⟨fun v hv => ?_, hs.sublist (List.drop_sublist _ _)⟩, fun u hu v hv => ?_⟩
    · obtain ⟨j, j1, j2, j3⟩ := mem_drop_gt hv
      have := s5 (pre.length + 1 + j) (by omega) (by omega)
      rw [gq j j2, j3, decide_eq_false_iff_not] at this
      have := hlt v (List.mem_of_mem_drop hv)
      unfold Ahead
      omega
    · obtain ⟨j, j1, j2, j3⟩ := mem_take_gt hu
      have h4 := s4 (pre.length + 1 + j) (by omega) (by omega)
      rw [gq j j2, j3, decide_eq_true_eq] at h4
      rcases List.mem_cons.1 hv with rfl | hv
      · exact .inl h4
      · obtain ⟨i, i1, i2, i3⟩ := mem_drop_gt hv
        have h5 := s5 (pre.length + 1 + i) (by omega) (by omega)
        rw [gq i i2, i3, decide_eq_false_iff_not] at h5
        unfold Ahead
        omega

theorem merge_last {D : Int → Prop} {key : Int → Int} {z0 : Int} {z1 : List Int} {z2 : Int} (hc : CmpAs D key z0 z1 z2) (self : List Int → Int → Int → Int → Int → List Int → Int → Option (List Int)) (pre L post : List Int) (y : Int) (hl2 : 2 ≤ L.length) (hb : pre.length + L.length + 1 ≤ 1000000) (hy : D y) (hL : ∀ x ∈ L, D x) (hs : L.Pairwise (Ahead key)) (hlt : ∀ x ∈ L, x < y) :
    ∃ M, slices_symMergeCmpFunc_int__impl_Allocate_1_step self (pre ++ (L ++ (y :: post))) (pre.length : Int) ((pre.length + L.length : Nat) : Int) ((pre.length + L.length + 1 : Nat) : Int) z0 z1 z2 = some (pre ++ (M ++ post)) ∧ M.Perm (L ++ [y]) ∧ M.Pairwise (Ahead key) := by
  obtain ⟨dat, hd⟩ : ∃ dat, dat = pre ++ (L ++ (y :: post)) := ⟨_, rfl⟩
  have gl : ∀ k, k < L.length → gt dat (pre.length + k) = gt L k := fun k hk => by rw [hd]; exact gt_mid _ _ _ hk
  have dl : dat.length = pre.length + L.length + 1 + post.length := by rw [hd]; simp; omega
  have gm : gt dat (pre.length + L.length) = y := by
    have : dat = (pre ++ L) ++ y :: post := by rw [hd]; simp
    rw [this]
    refine gt_of ?_
    rw [List.getElem?_append_right (by simp)]
    simp
  have im : idx dat ((pre.length + L.length : Nat) : Int) = some y := by
    rw [idx_gt (by omega), gm]
  obtain ⟨s, ⟨s1, s2⟩, s3, s4, s5⟩ := bsearch (ρ := List Int) (body := fun (s231 : Int × Int) =>
        cond (decide (s231.2 < s231.1))
          ((idx dat ((pre.length + L.length : Nat) : Int)).bind fun x285 =>
          (idx dat (w64 (Int.fdiv (wu64 (w64 (s231.2 + s231.1))) 2))).bind fun x288 =>
          (impl_Allocate_1 x285 x288 z0 z1 z2).bind fun t291 =>
          cond (!(decide (t291 < 0)))
            (some (.cont (s231.1, w64 ((w64 (Int.fdiv (wu64 (w64 (s231.2 + s231.1))) 2)) + 1))))
            (some (.cont (w64 (Int.fdiv (wu64 (w64 (s231.2 + s231.1))) 2), s231.2))))
          (some (.done (.inl s231.2)))) (fun c => !decide (key (gt dat c) < key y)) pre.length (pre.length + L.length) (fun i j h1 h2 h3 h4 => by
      simp only [Bool.not_eq_true', decide_eq_false_iff_not] at h4 ⊢
      obtain ⟨i', rfl⟩ : ∃ i', i = pre.length + i' := ⟨i - pre.length, by omega⟩
      obtain ⟨j', rfl⟩ : ∃ j', j = pre.length + j' := ⟨j - pre.length, by omega⟩
      rw [gl _ (by omega)] at h4 ⊢
      have := sorted_key hs (show i' ≤ j' by omega) (by omega)
      omega) (fun i j h1 h2 h3 => by
      obtain ⟨c, hcc⟩ : ∃ c, c = (i + j) / 2 := ⟨_, rfl⟩
      obtain ⟨c', hc'⟩ : ∃ c', c = pre.length + c' := ⟨c - pre.length, by omega⟩
      have hm : gt dat c ∈ L := by rw [hc', gl _ (by omega)]; exact gt_mem (by omega)
      obtain ⟨t, et, ht⟩ := hc y (gt dat c) hy (hL _ hm)
      simp only
      rw [decide_eq_true (by omega), half_eq (by omega), ← hcc, im, idx_gt (k := c) (by omega)]
      simp only [cond_true, Option.bind_some, et, ht]
      rw [w64_nat (by omega)]
      cases decide (key (gt dat c) < key y) <;> rfl) (fun i h1 h2 => by
      simp only
      rw [decide_eq_false (by omega)]
      rfl) (by omega)
  obtain ⟨k, rfl⟩ : ∃ k, s = pre.length + k := ⟨s - pre.length, by omega⟩
  have hkl : k ≤ L.length := by omega
  refine ⟨L.take k ++ y :: L.drop k, ?_, ?_, ?_⟩
  · unfold slices_symMergeCmpFunc_int__impl_Allocate_1_step
    rw [w64_id (x := ((pre.length + L.length : Nat) : Int) - (pre.length : Int)) (by omega), w64_id (x := ((pre.length + L.length + 1 : Nat) : Int) - ((pre.length + L.length : Nat) : Int)) (by omega), show ((pre.length + L.length + 1 : Nat) : Int) - ((pre.length + L.length : Nat) : Int) = 1 by omega]
    have hne : (((pre.length + L.length : Nat) : Int) - (pre.length : Int) == 1) = false := beq_eq_false_iff_ne.2 (by omega)
    rw [hne]
    simp only [beq_self_eq_true, cond_true, cond_false]
    rw [← hd, s3]
    simp only [Option.bind_some, brkE]
    refine loop_bind (r := .inl (pre ++ ((L.take k ++ y :: L.drop k) ++ post))) (fun j => (((pre.length + L.length - j : Nat) : Int), pre ++ (L.take (L.length - j) ++ (y :: (L.drop (L.length - j) ++ post))))) (L.length - k) ?_ (fun j hj => ?_) ?_ rfl
    · rw [hd]; simp
    · obtain ⟨i, hi⟩ : ∃ i, L.length - j = i + 1 := ⟨L.length - j - 1, by omega⟩
      have hi2 : L.length - (j + 1) = i := by omega
      have hil : i < L.length := by omega
      have dj := drop_cons hil
      have tj := take_snoc hil
      have ltj : (L.take i).length = i := by rw [List.length_take]; omega
      obtain ⟨u, hu⟩ : ∃ u, u = gt L i := ⟨_, rfl⟩
      rw [← hu] at dj tj
      have p1 : pre.length + L.length - j = pre.length + i + 1 := by omega
      have p2 : pre.length + L.length - (j + 1) = pre.length + i := by omega
      simp only
      rw [hi, hi2, p1, p2, decide_eq_true (by omega), tj, dj]
      have wm : w64 (((pre.length + i + 1 : Nat) : Int) - 1) = ((pre.length + i : Nat) : Int) := by rw [w64_id (by omega)]; omega
      rw [wm]
      have e1 : pre ++ (L.take i ++ [u] ++ (y :: (L.drop (i + 1) ++ post))) = (pre ++ L.take i) ++ u :: (y :: (L.drop (i + 1) ++ post)) := by simp
      have e2 : pre ++ (L.take i ++ [u] ++ (y :: (L.drop (i + 1) ++ post))) = (pre ++ (L.take i ++ [u])) ++ y :: (L.drop (i + 1) ++ post) := by simp
      have wa : ((pre.length + i : Nat) : Int) = ((pre ++ L.take i).length : Int) := by rw [List.length_append, ltj]
      have wb : ((pre.length + i + 1 : Nat) : Int) = ((pre ++ (L.take i ++ [u])).length : Int) := by simp only [List.length_append, ltj, List.length_singleton]; omega
      have i1 : idx (pre ++ (L.take i ++ [u] ++ (y :: (L.drop (i + 1) ++ post)))) ((pre.length + i : Nat) : Int) = some u := by rw [e1]; exact idx_mid _ _ _ wa
      have i2 : idx (pre ++ (L.take i ++ [u] ++ (y :: (L.drop (i + 1) ++ post)))) ((pre.length + i + 1 : Nat) : Int) = some y := by rw [e2]; exact idx_mid _ _ _ wb
      have t1 : List.set (pre ++ (L.take i ++ [u] ++ (y :: (L.drop (i + 1) ++ post)))) (Int.toNat ((pre.length + i + 1 : Nat) : Int)) u = (pre ++ L.take i) ++ u :: (u :: (L.drop (i + 1) ++ post)) := by rw [e2, set_mid _ _ _ _ wb]; simp
      have i3 : idx ((pre ++ L.take i) ++ u :: (u :: (L.drop (i + 1) ++ post))) ((pre.length + i : Nat) : Int) = some u := idx_mid _ _ _ wa
      have t2 : List.set ((pre ++ L.take i) ++ u :: (u :: (L.drop (i + 1) ++ post))) (Int.toNat ((pre.length + i : Nat) : Int)) y = pre ++ (L.take i ++ (y :: (u :: L.drop (i + 1) ++ post))) := by rw [set_mid _ _ _ _ wa]; simp
      simp only [i1, i2, cond_true, Option.bind_some, t1, i3, t2]
    · simp only
      have p1 : pre.length + L.length - (L.length - k) = pre.length + k := by omega
      have p2 : L.length - (L.length - k) = k := by omega
      rw [p1, p2, decide_eq_false (by omega)]
      simp
  · have := List.take_append_drop k L
    refine (List.perm_middle).trans ?_
    rw [this]
    exact (List.perm_append_comm (l₁ := [y]) (l₂ := L))
  · rw [List.pairwise_append]
    refine ⟨hs.sublist (List.take_sublist _ _), List.pairwise_cons.2 ⟨fun v hv => ?_, hs.sublist (List.drop_sublist _ _)⟩, fun u hu v hv => ?_⟩
    · obtain ⟨j, j1, j2, j3⟩ := mem_drop_gt hv
      have := s5 (pre.length + j) (by omega) (by omega)
      rw [gl j j2, j3] at this
      simp only [Bool.not_eq_false', decide_eq_true_eq] at this
      exact .inl this
    · obtain ⟨j, j1, j2, j3⟩ := mem_take_gt hu
      have h4 := s4 (pre.length + j) (by omega) (by omega)
      rw [gl j j2, j3] at h4
      simp only [Bool.not_eq_true', decide_eq_false_iff_not] at h4
      rcases List.mem_cons.1 hv with rfl | hv
      · have := hlt u (List.mem_of_mem_take hu)
        unfold Ahead
        omega
      · obtain ⟨i, i1, i2, i3⟩ := mem_drop_gt hv
        have h5 := s5 (pre.length + i) (by omega) (by omega)
        rw [gl i i2, i3] at h5
        simp only [Bool.not_eq_false', decide_eq_true_eq] at h5
        unfold Ahead
        omega

theorem joinP_eq2 {β τ : Type} (K : β → Option τ) (B : (β → Option τ) → Option τ) : joinP K B = B K := rfl

theorem two_way {β : Type} {a b c d : Int} {f : Bool → Option β} {v : Option β} (ht : a < b ∧ c < d → f true = v) (hf : ¬ (a < b ∧ c < d) → f false = v) : Option.bind (α := Bool) (cond (decide (a < b)) (some (decide (c < d))) (some false)) f = v := by
  by_cases h1 : a < b
  · rw [decide_eq_true h1]
    by_cases h2 : c < d
    · rw [decide_eq_true h2]; exact ht ⟨h1, h2⟩
    · rw [decide_eq_false h2]; exact hf (fun h => h2 h.2)
  · rw [decide_eq_false h1]; exact hf (fun h => h1 h.1)

theorem claimA_of {key : Int → Int} {L Q : List Int} (sL : L.Pairwise (Ahead key)) (sQ : Q.Pairwise (Ahead key)) (hx : ∀ x ∈ L, ∀ y ∈ Q, x < y) {i0 j0 : Nat} (hi : i0 < L.length) (h3 : key (gt Q j0) ≤ key (gt L i0)) : ∀ x ∈ L.take (i0 + 1), ∀ y ∈ Q.drop j0, Ahead key x y := by
  intro x hx1 y hy2
  obtain ⟨i, i1, i2, i3⟩ := mem_take_gt hx1
  obtain ⟨j, j1, j2, j3⟩ := mem_drop_gt hy2
  have k1 := sorted_key sL (show i ≤ i0 by omega) hi
  have k2 := sorted_key sQ j1 j2
  rw [i3] at k1
  rw [j3] at k2
  have := hx x (List.mem_of_mem_take hx1) y (List.mem_of_mem_drop hy2)
  unfold Ahead
  omega

theorem claimB_of {key : Int → Int} {L Q : List Int} (sL : L.Pairwise (Ahead key)) (sQ : Q.Pairwise (Ahead key)) {i0 j0 : Nat} (hj : j0 < Q.length) (h3 : key (gt L i0) < key (gt Q j0)) : ∀ y ∈ Q.take (j0 + 1), ∀ x ∈ L.drop i0, Ahead key y x := by
  intro y hy1 x hx2
  obtain ⟨i, i1, i2, i3⟩ := mem_take_gt hy1
  obtain ⟨j, j1, j2, j3⟩ := mem_drop_gt hx2
  have k1 := sorted_key sQ (show i ≤ j0 by omega) hj
  have k2 := sorted_key sL j1 j2
  rw [i3] at k1
  rw [j3] at k2
  exact .inl (by omega)

theorem sym_search {D : Int → Prop} {key : Int → Int} {z0 : Int} {z1 : List Int} {z2 : Int} (hc : CmpAs D key z0 z1 z2) (dat L Q : List Int) (A l q mid lo hi : Nat) (nl : L.length = l) (nq : Q.length = q) (gl : ∀ k, k < l → gt dat (A + k) = gt L k) (gq : ∀ k, k < q → gt dat (A + l + k) = gt Q k) (dl : A + l + q ≤ dat.length) (hsz : A + l + q ≤ 1000000)
    (hDL : ∀ y ∈ L, D y) (hDQ : ∀ y ∈ Q, D y) (sL : L.Pairwise (Ahead key)) (sQ : Q.Pairwise (Ahead key)) (hx : ∀ x ∈ L, ∀ y ∈ Q, x < y)
    (c1 : A ≤ lo) (c2 : lo ≤ hi) (c3 : hi ≤ mid) (c4 : hi ≤ A + l) (c5 : mid + (A + l) ≤ lo + (A + l + q)) (c6 : lo = A ∨ lo + (A + l + q) = mid + (A + l)) (c7 : hi = mid ∨ hi = A + l) :
    ∃ a1 b1 : Nat, a1 ≤ l ∧ b1 ≤ q ∧ A + a1 + b1 = mid ∧ loopW (ρ := (Int) ⊕ ((List Int))) (fun (s305 : Int × Int) =>
          cond (decide (s305.2 < s305.1))
            ((idx dat (w64 (((mid + (A + l) - 1 : Nat) : Int) - (w64 (Int.fdiv (wu64 (w64 (s305.2 + s305.1))) 2))))).bind fun x402 =>
            (idx dat (w64 (Int.fdiv (wu64 (w64 (s305.2 + s305.1))) 2))).bind fun x405 =>
            (impl_Allocate_1 x402 x405 z0 z1 z2).bind fun t408 =>
            cond (!(decide (t408 < 0)))
              (some (.cont (s305.1, w64 ((w64 (Int.fdiv (wu64 (w64 (s305.2 + s305.1))) 2)) + 1))))
              (some (.cont (w64 (Int.fdiv (wu64 (w64 (s305.2 + s305.1))) 2), s305.2))))
            (some (.done (.inl s305.2))))
          ((hi : Int), (lo : Int)) = some (.inl ((A + a1 : Nat) : Int)) ∧ (∀ x ∈ L.take a1, ∀ y ∈ Q.drop b1, Ahead key x y) ∧ (∀ y ∈ Q.take b1, ∀ x ∈ L.drop a1, Ahead key y x) := by
  obtain ⟨s, ⟨s1, s2⟩, s3, s4, s5⟩ := bsearch (ρ := List Int) (body := fun (s305 : Int × Int) =>
          cond (decide (s305.2 < s305.1))
            ((idx dat (w64 (((mid + (A + l) - 1 : Nat) : Int) - (w64 (Int.fdiv (wu64 (w64 (s305.2 + s305.1))) 2))))).bind fun x402 =>
            (idx dat (w64 (Int.fdiv (wu64 (w64 (s305.2 + s305.1))) 2))).bind fun x405 =>
            (impl_Allocate_1 x402 x405 z0 z1 z2).bind fun t408 =>
            cond (!(decide (t408 < 0)))
              (some (.cont (s305.1, w64 ((w64 (Int.fdiv (wu64 (w64 (s305.2 + s305.1))) 2)) + 1))))
              (some (.cont (w64 (Int.fdiv (wu64 (w64 (s305.2 + s305.1))) 2), s305.2))))
            (some (.done (.inl s305.2)))) (fun c => !decide (key (gt dat c) < key (gt dat (mid + (A + l) - 1 - c)))) lo hi (fun i j h1 h2 h3 h4 => by
          simp only [Bool.not_eq_true', decide_eq_false_iff_not] at h4 ⊢
          obtain ⟨i', hi'⟩ : ∃ i', i = A + i' := ⟨i - A, by omega⟩
          obtain ⟨j', hj'⟩ : ∃ j', j = A + j' := ⟨j - A, by omega⟩
          obtain ⟨i2, hi2⟩ : ∃ i2, mid + (A + l) - 1 - i = A + l + i2 := ⟨mid + (A + l) - 1 - i - (A + l), by omega⟩
          obtain ⟨j2, hj2⟩ : ∃ j2, mid + (A + l) - 1 - j = A + l + j2 := ⟨mid + (A + l) - 1 - j - (A + l), by omega⟩
          rw [hj2, hj', gl _ (by omega), gq _ (by omega)] at h4
          rw [hi2, hi', gl _ (by omega), gq _ (by omega)]
          have k1 := sorted_key sL (show i' ≤ j' by omega) (by omega)
          have k2 := sorted_key sQ (show j2 ≤ i2 by omega) (by omega)
          exact fun h => h4 (Int.lt_of_le_of_lt k1 (Int.lt_of_lt_of_le h k2))) (fun i j h1 h2 h3 => by
          obtain ⟨c, hcc⟩ : ∃ c, c = (i + j) / 2 := ⟨_, rfl⟩
          have hc1 : i ≤ c ∧ c < j := by omega
          obtain ⟨c', hc'⟩ : ∃ c', c = A + c' := ⟨c - A, by omega⟩
          obtain ⟨d', hd'⟩ : ∃ d', mid + (A + l) - 1 - c = A + l + d' := ⟨mid + (A + l) - 1 - c - (A + l), by omega⟩
          have hm : gt dat c ∈ L := by rw [hc', gl _ (by omega)]; exact gt_mem (by omega)
          have hm2 : gt dat (mid + (A + l) - 1 - c) ∈ Q := by rw [hd', gq _ (by omega)]; exact gt_mem (by omega)
          obtain ⟨t, et, ht⟩ := hc _ (gt dat c) (hDQ _ hm2) (hDL _ hm)
          have ec : w64 (((mid + (A + l) - 1 : Nat) : Int) - (c : Int)) = ((mid + (A + l) - 1 - c : Nat) : Int) := by rw [w64_id (by omega)]; omega
          simp only
          rw [decide_eq_true (by omega), half_eq (by omega), ← hcc, ec, idx_gt (k := mid + (A + l) - 1 - c) (by omega), idx_gt (k := c) (by omega)]
          simp only [cond_true, Option.bind_some, et, ht]
          rw [w64_nat (by omega)]
          cases decide (key (gt dat c) < key (gt dat (mid + (A + l) - 1 - c))) <;> rfl) (fun i h1 h2 => by
          simp only
          rw [decide_eq_false (Int.lt_irrefl _)]
          rfl) c2
  refine ⟨s - A, mid - s, by omega, by omega, by omega, ?_, ?_, ?_⟩
  · rw [s3, show A + (s - A) = s by omega]
  · by_cases h0 : s = lo
    · rcases c6 with c6 | c6
      · rw [show s - A = 0 by omega]
        intro x hx1
        simp at hx1
      · intro x hx1 y hy1
        rw [List.drop_of_length_le (by omega)] at hy1
        simp at hy1
    · have h3 := s4 (s - 1) (by omega) (by omega)
      simp only [Bool.not_eq_true', decide_eq_false_iff_not] at h3
      rw [show mid + (A + l) - 1 - (s - 1) = A + l + (mid - s) by omega, show s - 1 = A + (s - 1 - A) by omega] at h3
      by_cases hq : mid - s < q
      · rw [gl _ (by omega), gq _ hq] at h3
        have := claimA_of sL sQ hx (i0 := s - 1 - A) (j0 := mid - s) (by omega) (by omega)
        rwa [show s - 1 - A + 1 = s - A by omega] at this
      · intro x hx1 y hy1
        rw [List.drop_of_length_le (by omega)] at hy1
        simp at hy1
  · by_cases h0 : s = hi
    · rcases c7 with c7 | c7
      · rw [show mid - s = 0 by omega]
        intro x hx1
        simp at hx1
      · intro x hx1 y hy1
        rw [List.drop_of_length_le (by omega)] at hy1
        simp at hy1
    · have h3 := s5 s (Nat.le_refl _) (by omega)
      simp only [Bool.not_eq_false', decide_eq_true_eq] at h3
      rw [show mid + (A + l) - 1 - s = A + l + (mid - s - 1) by omega] at h3
      rw [show s = A + (s - A) by omega] at h3
      rw [gl _ (by omega), show A + (s - A) = s by omega, gq _ (by omega)] at h3
      have := claimB_of sL sQ (i0 := s - A) (j0 := mid - s - 1) (by omega) h3
      rwa [show mid - s - 1 + 1 = mid - s by omega] at this

def MergeIH (D : Int → Prop) (key : Int → Int) (z0 : Int) (z1 : List Int) (z2 : Int) (self : List Int → Int → Int → Int → Int → List Int → Int → Option (List Int)) (fuel : Nat) : Prop :=
  ∀ (pre L Q post : List Int) (a m b : Int), L ≠ [] → Q ≠ [] → L.length + Q.length ≤ fuel → pre.length + L.length + Q.length ≤ 1000000 → (∀ y ∈ L, D y) → (∀ y ∈ Q, D y) → L.Pairwise (Ahead key) → Q.Pairwise (Ahead key) → (∀ x ∈ L, ∀ y ∈ Q, x < y) →
    a = (pre.length : Int) → m = ((pre.length + L.length : Nat) : Int) → b = ((pre.length + L.length + Q.length : Nat) : Int) →
      ∃ M, self (pre ++ (L ++ (Q ++ post))) a m b z0 z1 z2 = some (pre ++ (M ++ post)) ∧ M.Perm (L ++ Q) ∧ M.Pairwise (Ahead key)

theorem sub_merge {D : Int → Prop} {key : Int → Int} {z0 : Int} {z1 : List Int} {z2 : Int} {self : List Int → Int → Int → Int → Int → List Int → Int → Option (List Int)} {fuel : Nat} (ih : MergeIH D key z0 z1 z2 self fuel) (pre L Q post : List Int) (hf : L.length + Q.length ≤ fuel) (hsz : pre.length + L.length + Q.length ≤ 1000000) (hDL : ∀ y ∈ L, D y) (hDQ : ∀ y ∈ Q, D y) (sL : L.Pairwise (Ahead key)) (sQ : Q.Pairwise (Ahead key)) (hx : ∀ x ∈ L, ∀ y ∈ Q, x < y) :
    ∃ M, ((pre.length : Int) < ((pre.length + L.length : Nat) : Int) ∧ ((pre.length + L.length : Nat) : Int) < ((pre.length + L.length + Q.length : Nat) : Int) → self (pre ++ (L ++ (Q ++ post))) (pre.length : Int) ((pre.length + L.length : Nat) : Int) ((pre.length + L.length + Q.length : Nat) : Int) z0 z1 z2 = some (pre ++ (M ++ post))) ∧ M.Perm (L ++ Q) ∧ M.Pairwise (Ahead key) ∧
      (¬ ((pre.length : Int) < ((pre.length + L.length : Nat) : Int) ∧ ((pre.length + L.length : Nat) : Int) < ((pre.length + L.length + Q.length : Nat) : Int)) → M = L ++ Q) := by
  by_cases h : (pre.length : Int) < ((pre.length + L.length : Nat) : Int) ∧ ((pre.length + L.length : Nat) : Int) < ((pre.length + L.length + Q.length : Nat) : Int)
  · obtain ⟨M, k1, k2, k3⟩ := ih pre L Q post _ _ _ (fun e0 => by rw [e0] at h; simp at h) (fun e0 => by rw [e0] at h; simp at h) hf hsz hDL hDQ sL sQ hx rfl rfl rfl
    exact ⟨M, fun _ => k1, k2, k3, fun h' => absurd h h'⟩
  · refine ⟨L ++ Q, fun h' => absurd h' h, List.Perm.refl _, ?_, fun _ => rfl⟩
    rw [List.pairwise_append]
    refine ⟨sL, sQ, fun x hx1 y hy1 => ?_⟩
    have h1 := List.length_pos_of_mem hx1
    have h2 := List.length_pos_of_mem hy1
    omega

theorem sym_rest {D : Int → Prop} {key : Int → Int} {z0 : Int} {z1 : List Int} {z2 : Int} {self : List Int → Int → Int → Int → Int → List Int → Int → Option (List Int)} {fuel : Nat} (ih : MergeIH D key z0 z1 z2 self fuel) (pre L1 L2 Q1 Q2 post : List Int) (hf1 : L1.length + Q1.length ≤ fuel) (hf2 : L2.length + Q2.length ≤ fuel) (hsz : pre.length + L1.length + L2.length + Q1.length + Q2.length ≤ 1000000)
    (hDL : ∀ y ∈ L1 ++ L2, D y) (hDQ : ∀ y ∈ Q1 ++ Q2, D y) (sL : (L1 ++ L2).Pairwise (Ahead key)) (sQ : (Q1 ++ Q2).Pairwise (Ahead key)) (hx : ∀ x ∈ L1 ++ L2, ∀ y ∈ Q1 ++ Q2, x < y) (cA : ∀ x ∈ L1, ∀ y ∈ Q2, Ahead key x y) (cB : ∀ y ∈ Q1, ∀ x ∈ L2, Ahead key y x)
    {dat : List Int} {A s m mid e b : Int} (hdat : dat = pre ++ (L1 ++ (L2 ++ (Q1 ++ (Q2 ++ post))))) (hA : A = (pre.length : Int)) (hs : s = ((pre.length + L1.length : Nat) : Int)) (hm : m = ((pre.length + L1.length + L2.length : Nat) : Int)) (hmid : mid = ((pre.length + L1.length + Q1.length : Nat) : Int)) (he : e = ((pre.length + L1.length + L2.length + Q1.length : Nat) : Int)) (hb : b = ((pre.length + L1.length + L2.length + Q1.length + Q2.length : Nat) : Int)) :
    ∃ M, Option.bind (α := Bool)
            (cond (decide (s < m))
              (some (decide (m < e)))
              (some false))
            (fun p317 =>
            cond p317
              ((slices_rotateCmpFunc_int__impl_Allocate_1 dat s m e z0 z1 z2).bind fun t390 =>
              (sameLen t390 dat).bind fun _ =>
              Option.bind (α := Bool)
              (cond (decide (A < s))
                (some (decide (s < mid)))
                (some false))
              fun p337 =>
              cond p337
                ((self t390 A s mid z0 z1 z2).bind fun t378 =>
                (sameLen t378 t390).bind fun _ =>
                Option.bind (α := Bool)
                (cond (decide (mid < e))
                  (some (decide (e < b)))
                  (some false))
                fun p357 =>
                cond p357
                ((self t378 mid e b z0 z1 z2).bind fun t366 =>
                (sameLen t366 t378).bind fun _ =>
                some t366)
                (some t378))
                (Option.bind (α := Bool)
                (cond (decide (mid < e))
                  (some (decide (e < b)))
                  (some false))
                fun p357 =>
                cond p357
                ((self t390 mid e b z0 z1 z2).bind fun t366 =>
                (sameLen t366 t390).bind fun _ =>
                some t366)
                (some t390)))
              (Option.bind (α := Bool)
              (cond (decide (A < s))
                (some (decide (s < mid)))
                (some false))
              fun p337 =>
              cond p337
                ((self dat A s mid z0 z1 z2).bind fun t378 =>
                (sameLen t378 dat).bind fun _ =>
                Option.bind (α := Bool)
                (cond (decide (mid < e))
                  (some (decide (e < b)))
                  (some false))
                fun p357 =>
                cond p357
                ((self t378 mid e b z0 z1 z2).bind fun t366 =>
                (sameLen t366 t378).bind fun _ =>
                some t366)
                (some t378))
                (Option.bind (α := Bool)
                (cond (decide (mid < e))
                  (some (decide (e < b)))
                  (some false))
                fun p357 =>
                cond p357
                ((self dat mid e b z0 z1 z2).bind fun t366 =>
                (sameLen t366 dat).bind fun _ =>
                some t366)
                (some dat)))) = some (pre ++ (M ++ post)) ∧ M.Perm ((L1 ++ L2) ++ (Q1 ++ Q2)) ∧ M.Pairwise (Ahead key) := by
  obtain ⟨sL1, sL2, sL12⟩ := List.pairwise_append.1 sL
  obtain ⟨sQ1, sQ2, sQ12⟩ := List.pairwise_append.1 sQ
  obtain ⟨M1, r1, p1, o1, o2⟩ := sub_merge ih pre L1 Q1 (L2 ++ (Q2 ++ post)) hf1 (by omega) (fun y hy => hDL y (List.mem_append_left _ hy)) (fun y hy => hDQ y (List.mem_append_left _ hy)) sL1 sQ1 (fun x h1 y h2 => hx x (List.mem_append_left _ h1) y (List.mem_append_left _ h2))
  have nM1 : M1.length = L1.length + Q1.length := by rw [p1.length_eq, List.length_append]
  obtain ⟨M2, r2, p2, o3, o4⟩ := sub_merge ih (pre ++ M1) L2 Q2 post hf2 (by rw [List.length_append]; omega) (fun y hy => hDL y (List.mem_append_right _ hy)) (fun y hy => hDQ y (List.mem_append_right _ hy)) sL2 sQ2 (fun x h1 y h2 => hx x (List.mem_append_right _ h1) y (List.mem_append_right _ h2))
  have nM2 : M2.length = L2.length + Q2.length := by rw [p2.length_eq, List.length_append]
  have q1 : ((pre ++ M1).length : Int) = mid := by rw [hmid, List.length_append, nM1]; omega
  have q2 : (((pre ++ M1).length + L2.length : Nat) : Int) = e := by rw [he, List.length_append, nM1]; omega
  have q3 : (((pre ++ M1).length + L2.length + Q2.length : Nat) : Int) = b := by rw [hb, List.length_append, nM1]; omega
  rw [q1, q2, q3] at r2 o4
  rw [← hA, ← hs, ← hmid] at r1 o2
  obtain ⟨d2, hd2⟩ : ∃ d2, d2 = pre ++ (L1 ++ (Q1 ++ (L2 ++ (Q2 ++ post)))) := ⟨_, rfl⟩
  obtain ⟨d3, hd3⟩ : ∃ d3, d3 = (pre ++ M1) ++ (L2 ++ (Q2 ++ post)) := ⟨_, rfl⟩
  rw [← hd2] at r1
  rw [← hd3] at r2
  have e3 : pre ++ (M1 ++ (L2 ++ (Q2 ++ post))) = d3 := by rw [hd3]; simp
  rw [e3] at r1
  have len2 : d2.length = dat.length := by rw [hd2, hdat]; simp only [List.length_append]; omega
  have len3 : d3.length = d2.length := by rw [hd3, hd2]; simp only [List.length_append]; omega
  have len4 : ((pre ++ M1) ++ (M2 ++ post)).length = d3.length := by rw [hd3]; simp only [List.length_append]; omega
  have e23 : ¬ (A < s ∧ s < mid) → d2 = d3 := fun h => by rw [hd3, hd2, o2 h]; simp
  have e34 : ¬ (mid < e ∧ e < b) → d3 = (pre ++ M1) ++ (M2 ++ post) := fun h => by rw [hd3, o4 h]; simp
  have efin : (pre ++ M1) ++ (M2 ++ post) = pre ++ ((M1 ++ M2) ++ post) := by simp
  rw [efin] at r2 len4 e34
  have second : ∀ t : List Int, t = d3 → Option.bind (α := Bool)
                (cond (decide (mid < e))
                  (some (decide (e < b)))
                  (some false))
                (fun p357 =>
                cond p357
                ((self t mid e b z0 z1 z2).bind fun t366 =>
                (sameLen t366 t).bind fun _ =>
                some t366)
                (some t)) = some (pre ++ ((M1 ++ M2) ++ post)) := by
    intro t ht
    subst ht
    refine two_way (fun h => ?_) (fun h => ?_)
    · rw [cond_true, r2 h, Option.bind_some, sameLen_ok len4]
      rfl
    · rw [cond_false, e34 h]
  have first : ∀ t : List Int, t = d2 → Option.bind (α := Bool)
              (cond (decide (A < s))
                (some (decide (s < mid)))
                (some false))
              (fun p337 =>
              cond p337
                ((self t A s mid z0 z1 z2).bind fun t378 =>
                (sameLen t378 t).bind fun _ =>
                Option.bind (α := Bool)
                (cond (decide (mid < e))
                  (some (decide (e < b)))
                  (some false))
                fun p357 =>
                cond p357
                ((self t378 mid e b z0 z1 z2).bind fun t366 =>
                (sameLen t366 t378).bind fun _ =>
                some t366)
                (some t378))
                (Option.bind (α := Bool)
                (cond (decide (mid < e))
                  (some (decide (e < b)))
                  (some false))
                fun p357 =>
                cond p357
                ((self t mid e b z0 z1 z2).bind fun t366 =>
                (sameLen t366 t).bind fun _ =>
                some t366)
                (some t))) = some (pre ++ ((M1 ++ M2) ++ post)) := by
    intro t ht
    subst ht
    refine two_way (fun h => ?_) (fun h => ?_)
    · rw [cond_true, r1 h, Option.bind_some, sameLen_ok len3, Option.bind_some]
      exact second _ rfl
    · rw [cond_false]
      exact second _ (e23 h)
  refine ⟨M1 ++ M2, ?_, ?_, ?_⟩
  · refine two_way (fun h => ?_) (fun h => ?_)
    · have rt := rotate_eq z0 z1 z2 (pre ++ L1) L2 Q1 (Q2 ++ post) (fun e0 => by rw [hs, hm, e0] at h; simp at h) (fun e0 => by rw [hm, he, e0] at h; simp at h) (by rw [List.length_append]; omega) (a := s) (m := m) (b := e) (by rw [List.length_append, hs]) (by rw [List.length_append, hm]) (by rw [List.length_append, he])
      have ed : dat = (pre ++ L1) ++ (L2 ++ (Q1 ++ (Q2 ++ post))) := by rw [hdat]; simp
      have ed2 : (pre ++ L1) ++ (Q1 ++ (L2 ++ (Q2 ++ post))) = d2 := by rw [hd2]; simp
      rw [ed2, ← ed] at rt
      rw [cond_true, rt, Option.bind_some, sameLen_ok len2, Option.bind_some]
      exact first _ rfl
    · rw [cond_false]
      refine first _ ?_
      rw [hdat, hd2]
      by_cases h5 : s < m
      · have : Q1 = [] := List.eq_nil_of_length_eq_zero (by omega)
        rw [this]; simp
      · have : L2 = [] := List.eq_nil_of_length_eq_zero (by omega)
        rw [this]; simp
  · refine (p1.append p2).trans ?_
    have e1 : L1 ++ Q1 ++ (L2 ++ Q2) = L1 ++ (Q1 ++ (L2 ++ Q2)) := by simp
    have e2 : L1 ++ L2 ++ (Q1 ++ Q2) = L1 ++ (L2 ++ (Q1 ++ Q2)) := by simp
    rw [e1, e2]
    exact List.Perm.append_left _ (List.perm_append_comm_assoc _ _ _)
  · rw [List.pairwise_append]
    refine ⟨o1, o3, fun u hu v hv => ?_⟩
    rcases List.mem_append.1 (p1.mem_iff.1 hu) with hu | hu <;> rcases List.mem_append.1 (p2.mem_iff.1 hv) with hv | hv
    · exact sL12 u hu v hv
    · exact cA u hu v hv
    · exact cB u hu v hv
    · exact sQ12 u hu v hv

theorem symMerge_eq {D : Int → Prop} {key : Int → Int} {z0 : Int} {z1 : List Int} {z2 : Int} (hc : CmpAs D key z0 z1 z2) : ∀ fuel : Nat, MergeIH D key z0 z1 z2 (slices_symMergeCmpFunc_int__impl_Allocate_1 fuel) fuel := by
  intro fuel
  induction fuel with
  | zero =>
    intro pre L Q post a m b hL
    intro _ h
    have := List.length_pos_iff.2 hL
    omega
  | succ fuel ih =>
    intro pre L Q post a m b hL hQ hf hsz hDL hDQ sL sQ hx ha hm hb
    subst ha hm hb
    have l1 := List.length_pos_iff.2 hL
    have q1 := List.length_pos_iff.2 hQ
    show ∃ M, slices_symMergeCmpFunc_int__impl_Allocate_1_step (slices_symMergeCmpFunc_int__impl_Allocate_1 fuel) _ _ _ _ _ _ _ = _ ∧ _
    generalize slices_symMergeCmpFunc_int__impl_Allocate_1 fuel = self at ih ⊢
    by_cases hl2 : L.length = 1
    · obtain ⟨x, rfl⟩ := List.length_eq_one_iff.1 hl2
      exact merge_one hc self pre Q post x hsz (hDL x (by simp)) hDQ sQ (fun y hy => hx x (by simp) y hy)
    by_cases hq2 : Q.length = 1
    · obtain ⟨y, rfl⟩ := List.length_eq_one_iff.1 hq2
      exact merge_last hc self pre L post y (by omega) hsz (hDQ y (by simp)) hDL sL (fun x hx' => hx x hx' y (by simp))
    -- both of two and more
    obtain ⟨dat, hd⟩ : ∃ dat, dat = pre ++ (L ++ (Q ++ post)) := ⟨_, rfl⟩
    have gl : ∀ k, k < L.length → gt dat (pre.length + k) = gt L k := fun k hk => by rw [hd]; exact gt_mid _ _ _ hk
    have gq : ∀ k, k < Q.length → gt dat (pre.length + L.length + k) = gt Q k := fun k hk => by
      have : dat = (pre ++ L) ++ (Q ++ post) := by rw [hd]; simp
      rw [this]
      have e : pre.length + L.length + k = (pre ++ L).length + k := by simp
      rw [e]
      exact gt_mid _ _ _ hk
    have dl : pre.length + L.length + Q.length ≤ dat.length := by rw [hd]; simp only [List.length_append]; omega
    rw [← hd]
    obtain ⟨mid, hmid⟩ : ∃ mid, mid = (pre.length + (pre.length + L.length + Q.length)) / 2 := ⟨_, rfl⟩
    have emid : w64 (Int.fdiv (wu64 (w64 ((pre.length : Int) + ((pre.length + L.length + Q.length : Nat) : Int)))) 2) = (mid : Int) := by rw [hmid]; exact half_eq (by omega)
    have em : w64 ((mid : Int) + ((pre.length + L.length : Nat) : Int)) = ((mid + (pre.length + L.length) : Nat) : Int) := by rw [w64_id (by omega)]; omega
    have ep : w64 (((mid + (pre.length + L.length) : Nat) : Int) - 1) = ((mid + (pre.length + L.length) - 1 : Nat) : Int) := by rw [w64_id (by omega)]; omega
    unfold slices_symMergeCmpFunc_int__impl_Allocate_1_step
    rw [w64_id (x := ((pre.length + L.length : Nat) : Int) - (pre.length : Int)) (by omega), w64_id (x := ((pre.length + L.length + Q.length : Nat) : Int) - ((pre.length + L.length : Nat) : Int)) (by omega)]
    have hne1 : (((pre.length + L.length : Nat) : Int) - (pre.length : Int) == 1) = false := beq_eq_false_iff_ne.2 (by omega)
    have hne2 : (((pre.length + L.length + Q.length : Nat) : Int) - ((pre.length + L.length : Nat) : Int) == 1) = false := beq_eq_false_iff_ne.2 (by omega)
    rw [hne1, hne2]
    simp only [cond_false, emid, em, ep, joinP_eq2]
    have fin : ∀ (lo hi : Nat), pre.length ≤ lo → lo ≤ hi → hi ≤ mid → hi ≤ pre.length + L.length → mid + (pre.length + L.length) ≤ lo + (pre.length + L.length + Q.length) → (lo = pre.length ∨ lo + (pre.length + L.length + Q.length) = mid + (pre.length + L.length)) → (hi = mid ∨ hi = pre.length + L.length) →
        ∃ a1 b1 : Nat, a1 ≤ L.length ∧ b1 ≤ Q.length ∧ pre.length + a1 + b1 = mid ∧ loopW (ρ := (Int) ⊕ ((List Int))) (fun (s305 : Int × Int) =>
          cond (decide (s305.2 < s305.1))
            ((idx dat (w64 (((mid + (pre.length + L.length) - 1 : Nat) : Int) - (w64 (Int.fdiv (wu64 (w64 (s305.2 + s305.1))) 2))))).bind fun x402 =>
            (idx dat (w64 (Int.fdiv (wu64 (w64 (s305.2 + s305.1))) 2))).bind fun x405 =>
            (impl_Allocate_1 x402 x405 z0 z1 z2).bind fun t408 =>
            cond (!(decide (t408 < 0)))
              (some (.cont (s305.1, w64 ((w64 (Int.fdiv (wu64 (w64 (s305.2 + s305.1))) 2)) + 1))))
              (some (.cont (w64 (Int.fdiv (wu64 (w64 (s305.2 + s305.1))) 2), s305.2))))
            (some (.done (.inl s305.2))))
          ((hi : Int), (lo : Int)) = some (.inl ((pre.length + a1 : Nat) : Int)) ∧ (∀ x ∈ L.take a1, ∀ y ∈ Q.drop b1, Ahead key x y) ∧ (∀ y ∈ Q.take b1, ∀ x ∈ L.drop a1, Ahead key y x) := fun lo hi c1 c2 c3 c4 c5 c6 c7 =>
      sym_search hc dat L Q pre.length L.length Q.length mid lo hi rfl rfl gl gq dl hsz hDL hDQ sL sQ hx c1 c2 c3 c4 c5 c6 c7
    have rest : ∀ a1 b1 : Nat, a1 ≤ L.length → b1 ≤ Q.length → pre.length + a1 + b1 = mid → (∀ x ∈ L.take a1, ∀ y ∈ Q.drop b1, Ahead key x y) → (∀ y ∈ Q.take b1, ∀ x ∈ L.drop a1, Ahead key y x) → _ := fun a1 b1 h1 h2 h3 cA cB =>
      sym_rest ih pre (L.take a1) (L.drop a1) (Q.take b1) (Q.drop b1) post (by rw [List.length_take, List.length_take]; omega) (by rw [List.length_drop, List.length_drop]; omega) (by simp only [List.length_take, List.length_drop]; omega)
        (by rw [List.take_append_drop]; exact hDL) (by rw [List.take_append_drop]; exact hDQ) (by rw [List.take_append_drop]; exact sL) (by rw [List.take_append_drop]; exact sQ) (by rw [List.take_append_drop, List.take_append_drop]; exact hx) cA cB (dat := dat) (A := (pre.length : Int)) (s := ((pre.length + a1 : Nat) : Int)) (m := ((pre.length + L.length : Nat) : Int)) (mid := (mid : Int)) (e := w64 (((mid + (pre.length + L.length) : Nat) : Int) - ((pre.length + a1 : Nat) : Int))) (b := ((pre.length + L.length + Q.length : Nat) : Int))
        (by rw [hd, ← List.append_assoc (L.take a1), List.take_append_drop, ← List.append_assoc (Q.take b1), List.take_append_drop]) rfl (by rw [List.length_take]; omega) (by simp only [List.length_take, List.length_drop]; omega) (by simp only [List.length_take]; omega) (by rw [w64_id (by omega)]; simp only [List.length_take, List.length_drop]; omega) (by simp only [List.length_take, List.length_drop]; omega)
    by_cases hgt : pre.length + L.length > mid
    · rw [decide_eq_true (by omega : ((pre.length + L.length : Nat) : Int) > (mid : Int)), cond_true]
      have es : w64 (((mid + (pre.length + L.length) : Nat) : Int) - ((pre.length + L.length + Q.length : Nat) : Int)) = ((mid + (pre.length + L.length) - (pre.length + L.length + Q.length) : Nat) : Int) := by rw [w64_id (by omega)]; omega
      rw [es]
      obtain ⟨a1, b1, h1, h2, h3, h4, cA, cB⟩ := fin (mid + (pre.length + L.length) - (pre.length + L.length + Q.length)) mid (by omega) (by omega) (by omega) (by omega) (by omega) (by omega) (by omega)
      obtain ⟨M, k1, k2, k3⟩ := rest a1 b1 h1 h2 h3 cA cB
      refine ⟨M, ?_, by rw [List.take_append_drop, List.take_append_drop] at k2; exact k2, k3⟩
      rw [h4]
      exact k1
    · rw [decide_eq_false (by omega : ¬ ((pre.length + L.length : Nat) : Int) > (mid : Int)), cond_false]
      obtain ⟨a1, b1, h1, h2, h3, h4, cA, cB⟩ := fin pre.length (pre.length + L.length) (by omega) (by omega) (by omega) (by omega) (by omega) (by omega) (by omega)
      obtain ⟨M, k1, k2, k3⟩ := rest a1 b1 h1 h2 h3 cA cB
      refine ⟨M, ?_, by rw [List.take_append_drop, List.take_append_drop] at k2; exact k2, k3⟩
      rw [h4]
      exact k1

theorem sort_first {D : Int → Prop} {key : Int → Int} {z0 : Int} {z1 : List Int} {z2 : Int} (hc : CmpAs D key z0 z1 z2) (L : List Int) (h20 : L.length ≤ 20) (hD : ∀ y ∈ L, D y) (hi : L.Pairwise (fun x y => x < y)) (Q : List Int) (hQ : Q.length ≤ 20) (hDQ : ∀ y ∈ Q, D y) (hiQ : Q.Pairwise (fun x y => x < y)) (hx : ∀ x ∈ L, ∀ y ∈ Q, x < y) (hfull : Q ≠ [] → L.length = 20) :
    ∃ M, slices_stableCmpFunc_int__impl_Allocate_1 (L ++ Q) ((L.length + Q.length : Nat) : Int) z0 z1 z2 = some M ∧ M.Perm (L ++ Q) ∧ M.Pairwise (Ahead key) := by
  obtain ⟨M1, a1, a2, a3⟩ := insertion_eq hc [] L Q (by simp) (by omega) hD hi (a := 0) (b := (L.length : Int)) rfl (by simp)
  simp only [List.nil_append] at a1
  have n1 : M1.length = L.length := a2.length_eq
  unfold slices_stableCmpFunc_int__impl_Allocate_1
  by_cases hl : L.length = 20
  · -- the first block is full
    obtain ⟨M2, b1, b2, b3⟩ := insertion_eq hc M1 Q [] (by omega) (by omega) hDQ hiQ (a := 20) (b := ((L.length + Q.length : Nat) : Int)) (by omega) (by rw [n1])
    simp only [List.append_nil] at b1
    have n2 : M2.length = Q.length := b2.length_eq
    rw [hl] at a1
    have loop1 : loopW (ρ := (Int × Int × (List Int) × Int) ⊕ ((List Int))) (fun (s21 : Int × Int × (List Int)) =>
    cond (decide (s21.1 ≤ ((L.length + Q.length : Nat) : Int)))
      ((slices_insertionSortCmpFunc_int__impl_Allocate_1 s21.2.2 s21.2.1 s21.1 z0 z1 z2).bind fun t113 =>
      (sameLen t113 s21.2.2).bind fun _ =>
      some (.cont (w64 (s21.1 + 20), s21.1, t113)))
      (some (.done (.inl (s21.2.1, 20, s21.2.2, ((L.length + Q.length : Nat) : Int))))))
      (20, 0, L ++ Q) = (if Q.length = 20 then some (.inl (40, 20, M1 ++ M2, ((L.length + Q.length : Nat) : Int))) else some (.inl (20, 20, M1 ++ Q, ((L.length + Q.length : Nat) : Int)))) := by
      have r1 : (fun (s21 : Int × Int × (List Int)) =>
    cond (decide (s21.1 ≤ ((L.length + Q.length : Nat) : Int)))
      ((slices_insertionSortCmpFunc_int__impl_Allocate_1 s21.2.2 s21.2.1 s21.1 z0 z1 z2).bind fun t113 =>
      (sameLen t113 s21.2.2).bind fun _ =>
      some (.cont (w64 (s21.1 + 20), s21.1, t113)))
      (some (.done (.inl (s21.2.1, 20, s21.2.2, ((L.length + Q.length : Nat) : Int)))) : Option (LS (Int × Int × (List Int)) ((Int × Int × (List Int) × Int) ⊕ ((List Int)))))) (20, 0, L ++ Q) = some (.cont (40, 20, M1 ++ Q)) := by
        simp only
        rw [decide_eq_true (by omega), cond_true]
        rw [show ((20 : Nat) : Int) = 20 from rfl] at a1
        rw [a1, Option.bind_some, sameLen_ok (by simp [n1]), Option.bind_some, w64_id (by omega)]
        rfl
      rw [loopW_cont r1]
      by_cases hq : Q.length = 20
      · rw [if_pos hq]
        rw [hl, hq] at b1
        have r2 : (fun (s21 : Int × Int × (List Int)) =>
    cond (decide (s21.1 ≤ ((L.length + Q.length : Nat) : Int)))
      ((slices_insertionSortCmpFunc_int__impl_Allocate_1 s21.2.2 s21.2.1 s21.1 z0 z1 z2).bind fun t113 =>
      (sameLen t113 s21.2.2).bind fun _ =>
      some (.cont (w64 (s21.1 + 20), s21.1, t113)))
      (some (.done (.inl (s21.2.1, 20, s21.2.2, ((L.length + Q.length : Nat) : Int)))) : Option (LS (Int × Int × (List Int)) ((Int × Int × (List Int) × Int) ⊕ ((List Int)))))) (40, 20, M1 ++ Q) = some (.cont (60, 40, M1 ++ M2)) := by
          simp only
          rw [decide_eq_true (by omega), cond_true]
          rw [show ((20 + 20 : Nat) : Int) = 40 from rfl] at b1
          rw [b1, Option.bind_some, sameLen_ok (by simp [n2]), Option.bind_some, w64_id (by omega)]
          rfl
        rw [loopW_cont r2]
        refine loopW_done ?_
        simp only
        rw [decide_eq_false (by omega)]
        rfl
      · rw [if_neg hq]
        refine loopW_done ?_
        simp only
        rw [decide_eq_false (by omega)]
        rfl
    rw [loop1]
    -- both are sorted by now
    have mid : ∀ (d : Int) (t : List Int), ((if Q.length = 20 then (some (.inl (40, 20, M1 ++ M2, ((L.length + Q.length : Nat) : Int))) : Option ((Int × Int × (List Int) × Int) ⊕ ((List Int)))) else some (.inl (20, 20, M1 ++ Q, ((L.length + Q.length : Nat) : Int)))) = some (.inl (d, 20, t, ((L.length + Q.length : Nat) : Int)))) →
        slices_insertionSortCmpFunc_int__impl_Allocate_1 t d ((L.length + Q.length : Nat) : Int) z0 z1 z2 = some (M1 ++ M2) ∧ t.length = (M1 ++ M2).length := by
      intro d t h
      by_cases hq : Q.length = 20
      · rw [if_pos hq] at h
        simp only [Option.some.injEq, Sum.inl.injEq, Prod.mk.injEq] at h
        obtain ⟨rfl, _, rfl, _⟩ := h
        refine ⟨?_, rfl⟩
        obtain ⟨M3, k1, k2, k3⟩ := insertion_eq hc (M1 ++ M2) [] [] (by rw [List.length_append]; omega) (by simp) (by simp) List.Pairwise.nil (a := 40) (b := ((L.length + Q.length : Nat) : Int)) (by rw [List.length_append]; omega) (by rw [List.length_append]; simp; omega)
        have e3 : M3 = [] := List.eq_nil_of_length_eq_zero (by rw [k2.length_eq]; rfl)
        subst e3
        simpa using k1
      · rw [if_neg hq] at h
        simp only [Option.some.injEq, Sum.inl.injEq, Prod.mk.injEq] at h
        obtain ⟨rfl, _, rfl, _⟩ := h
        exact ⟨b1, by simp [n2]⟩
    obtain ⟨d, t, hdt⟩ : ∃ d t, (if Q.length = 20 then (some (.inl (40, 20, M1 ++ M2, ((L.length + Q.length : Nat) : Int))) : Option ((Int × Int × (List Int) × Int) ⊕ ((List Int)))) else some (.inl (20, 20, M1 ++ Q, ((L.length + Q.length : Nat) : Int)))) = some (.inl (d, 20, t, ((L.length + Q.length : Nat) : Int))) := by
      by_cases hq : Q.length = 20
      · exact ⟨40, M1 ++ M2, by rw [if_pos hq]⟩
      · exact ⟨20, M1 ++ Q, by rw [if_neg hq]⟩
    obtain ⟨c1, c2⟩ := mid d t hdt
    rw [hdt]
    simp only [Option.bind_some, brkE_inl]
    rw [c1, Option.bind_some, sameLen_ok c2.symm, Option.bind_some]
    by_cases hq0 : Q = []
    · subst hq0
      have e2 : M2 = [] := List.eq_nil_of_length_eq_zero (by rw [n2]; rfl)
      subst e2
      refine ⟨M1, ?_, by simpa using a2, a3⟩
      rw [loopW_done (r := .inl (M1 ++ [])) (by
        simp only
        rw [decide_eq_false (by simp only [List.length_nil]; omega)]
        rfl)]
      simp [brkE_inl]
    · have hqp := List.length_pos_iff.2 hq0
      obtain ⟨M, m1, m2, m3⟩ := symMerge_eq hc 64 [] M1 M2 [] 0 20 ((L.length + Q.length : Nat) : Int) (fun e => by rw [e] at n1; simp at n1; omega) (fun e => by rw [e] at n2; simp at n2; omega) (by omega) (by simp; omega) (fun y hy => hD y (a2.mem_iff.1 hy)) (fun y hy => hDQ y (b2.mem_iff.1 hy)) a3 b3 (fun x h1 y h2 => hx x (a2.mem_iff.1 h1) y (b2.mem_iff.1 h2)) rfl (by simp; omega) (by simp; omega)
      simp only [List.nil_append, List.append_nil] at m1
      have nM : M.length = (M1 ++ M2).length := by rw [m2.length_eq]
      refine ⟨M, ?_, m2.trans (a2.append b2), m3⟩
      have lp : loopW (ρ := ((List Int)) ⊕ ((List Int))) (fun (s41 : Int × (List Int) × Int) =>
      cond (decide (s41.1 < s41.2.2))
        ((loopW (ρ := (Int × Int × (List Int) × Int) ⊕ ((List Int))) (fun (s57 : Int × Int × (List Int)) =>
          cond (decide (s57.1 ≤ s41.2.2))
            ((slices_symMergeCmpFunc_int__impl_Allocate_1 64 s57.2.2 s57.2.1 (w64 (s57.2.1 + s41.1)) s57.1 z0 z1 z2).bind fun t99 =>
            (sameLen t99 s57.2.2).bind fun _ =>
            some (.cont (w64 (s57.1 + (w64 (2 * s41.1))), s57.1, t99)))
            (some (.done (.inl (s57.2.1, s41.1, s57.2.2, s41.2.2)))))
          (w64 (2 * s41.1), 0, s41.2.1)).bind fun r60 => brkE r60 (fun (j67 : Int × Int × (List Int) × Int) =>
          joinP (fun (j78 : (List Int)) =>
            some (.cont (w64 (j67.2.1 * 2), j78, j67.2.2.2)))
            (fun k80 =>
            cond (decide ((w64 (j67.1 + j67.2.1)) < j67.2.2.2))
              ((slices_symMergeCmpFunc_int__impl_Allocate_1 64 j67.2.2.1 j67.1 (w64 (j67.1 + j67.2.1)) j67.2.2.2 z0 z1 z2).bind fun t87 =>
              (sameLen t87 j67.2.2.1).bind fun _ =>
              k80 t87)
              (k80 j67.2.2.1)))
          (fun v => some (.done (.inr v))))
        (some (.done (.inl s41.2.1)))) (20, M1 ++ M2, ((L.length + Q.length : Nat) : Int)) = some (.inl M) := by
        refine (loopW_cont (s' := (40, M, ((L.length + Q.length : Nat) : Int))) ?_).trans (loopW_done ?_)
        · simp only
          rw [decide_eq_true (by omega), cond_true, w64_id (x := 2 * 20) (by omega)]
          by_cases hq : Q.length = 20
          · have e40 : ((L.length + Q.length : Nat) : Int) = 40 := by omega
            rw [e40] at m1 ⊢
            rw [loopW_cont (s' := (80, 40, M)) (by
              simp only
              rw [decide_eq_true (by omega), cond_true, w64_id (x := 0 + 20) (by omega)]
              rw [show (0 : Int) + 20 = 20 from rfl, show (2 : Int) * 20 = 40 from rfl, m1, Option.bind_some, sameLen_ok nM, Option.bind_some, w64_id (by omega)]
              rfl), loopW_done (r := .inl (40, 20, M, 40)) (by
              simp only
              rw [decide_eq_false (by omega)]
              rfl)]
            simp only [Option.bind_some, brkE_inl, joinP_eq2]
            rw [decide_eq_false (by rw [w64_id (by omega)]; omega), cond_false, w64_id (by omega)]
            rfl
          · rw [loopW_done (r := .inl (0, 20, M1 ++ M2, ((L.length + Q.length : Nat) : Int))) (by
              simp only
              rw [decide_eq_false (by omega)]
              rfl)]
            simp only [Option.bind_some, brkE_inl, joinP_eq2]
            rw [w64_id (x := 0 + 20) (by omega), show (0 : Int) + 20 = 20 from rfl, decide_eq_true (by omega), cond_true, m1, Option.bind_some, sameLen_ok nM, Option.bind_some, w64_id (by omega)]
            rfl
        · simp only
          rw [decide_eq_false (by omega)]
          rfl
      rw [lp]
      rfl
  · -- one block alone
    have hq0 : Q = [] := by
      by_cases h : Q = []
      · exact h
      · exact absurd (hfull h) hl
    subst hq0
    simp only [List.append_nil] at a1 ⊢
    refine ⟨M1, ?_, a2, a3⟩
    rw [loopW_done (r := .inl (0, 20, L, ((L.length + ([] : List Int).length : Nat) : Int))) (by
      simp only
      rw [decide_eq_false (by simp only [List.length_nil]; omega)]
      rfl)]
    simp only [Option.bind_some, brkE_inl, List.length_nil, Nat.add_zero]
    rw [a1, Option.bind_some, sameLen_ok n1, Option.bind_some]
    rw [loopW_done (r := .inl M1) (by
      simp only
      rw [decide_eq_false (by omega)]
      rfl)]
    rfl

theorem sortStable_eq {D : Int → Prop} {key : Int → Int} {z0 : Int} {z1 : List Int} {z2 : Int} (hc : CmpAs D key z0 z1 z2) (L : List Int) (h40 : L.length ≤ 40) (hD : ∀ y ∈ L, D y) (hi : L.Pairwise (fun x y => x < y)) :
    ∃ M, slices_SortStableFunc_int__impl_Allocate_1 L z0 z1 z2 = some M ∧ M.Perm L ∧ M.Pairwise (Ahead key) := by
  have e := List.take_append_drop 20 L
  have hi' := hi
  rw [← e] at hi'
  obtain ⟨i1, i2, i3⟩ := List.pairwise_append.1 hi'
  obtain ⟨M, m1, m2, m3⟩ := sort_first hc (L.take 20) (by rw [List.length_take]; omega) (fun y hy => hD y (List.mem_of_mem_take hy)) i1 (L.drop 20) (by rw [List.length_drop]; omega) (fun y hy => hD y (List.mem_of_mem_drop hy)) i2 i3 (fun h => by
    have := List.length_pos_iff.2 h
    rw [List.length_drop] at this
    rw [List.length_take]
    omega)
  have el : (L.take 20).length + (L.drop 20).length = L.length := by rw [← List.length_append, e]
  rw [e, el] at m1
  rw [e] at m2
  refine ⟨M, ?_, m2, m3⟩
  unfold slices_SortStableFunc_int__impl_Allocate_1
  rw [m1, Option.bind_some, sameLen_ok m2.length_eq]
  rfl

def sig (f : Nat → Int) : Nat → Int
  | 0 => 0
  | k + 1 => sig f k + f k

theorem sig_congr {f g : Nat → Int} : ∀ {n : Nat}, (∀ k, k < n → f k = g k) → sig f n = sig g n
  | 0, _ => rfl
  | n + 1, h => by
    simp only [sig]
    rw [sig_congr (fun k hk => h k (by omega)), h n (by omega)]

theorem sig_bound {f : Nat → Int} {B : Int} : ∀ {n : Nat}, (∀ k, k < n → 0 ≤ f k ∧ f k ≤ B) → 0 ≤ sig f n ∧ sig f n ≤ n * B
  | 0, _ => by simp [sig]
  | n + 1, h => by
    have a := sig_bound (n := n) (fun k hk => h k (by omega))
    have b := h n (by omega)
    have e : ((n + 1 : Nat) : Int) * B = n * B + B := by rw [Int.natCast_add, Int.add_mul]; simp
    simp only [sig]
    omega

theorem sig_mul (c : Int) (f : Nat → Int) : ∀ n, sig (fun k => c * f k) n = c * sig f n
  | 0 => by simp [sig]
  | n + 1 => by simp only [sig]; rw [sig_mul c f n, Int.mul_add]

theorem sig_add (f g : Nat → Int) : ∀ n, sig (fun k => f k + g k) n = sig f n + sig g n
  | 0 => by simp [sig]
  | n + 1 => by simp only [sig]; rw [sig_add f g n]; omega

theorem sig_mono {f : Nat → Int} {m n : Nat} (h : ∀ k, k < n → 0 ≤ f k) (hm : m ≤ n) : sig f m ≤ sig f n := by
  induction n with
  | zero => have : m = 0 := by omega
            subst this; exact Int.le_refl _
  | succ n ih =>
    by_cases e : m = n + 1
    · subst e; exact Int.le_refl _
    · have a := ih (fun k hk => h k (by omega)) (by omega)
      have b := h n (by omega)
      simp only [sig]
      omega

def wOk (w : List Int) : Prop := w.length ≤ 40 ∧ ∀ k, k < w.length → 0 ≤ gt w k ∧ gt w k ≤ 1000000

theorem wOk_iff (w : List Int) : wOk w ↔ (allIn w 0 1000000 && decide (w.length ≤ 40)) = true := by
  unfold wOk allIn
  rw [Bool.and_eq_true, decide_eq_true_eq, List.all_eq_true]
  constructor
  · rintro ⟨h1, h2⟩
    refine ⟨fun x hx => ?_, h1⟩
    obtain ⟨k, hk⟩ := List.getElem?_of_mem hx
    have := h2 k (List.getElem?_eq_some_iff.1 hk).1
    rw [gt_of hk] at this
    exact inB_true.2 this
  · rintro ⟨h1, h2⟩
    exact ⟨h2, fun k hk => inB_true.1 (h1 _ (gt_mem hk))⟩

theorem sum_w {w : List Int} (h : wOk w) {k : Nat} (hk : k ≤ w.length) : 0 ≤ sig (gt w) k ∧ sig (gt w) k ≤ 40000000 := by
  have a := sig_bound (f := gt w) (B := 1000000) (n := k) (fun j hj => h.2 j (by omega))
  have b := h.1
  omega

theorem sum_loop {ρ τ : Type} {w : List Int} (h : wOk w) (fin : Int → ρ) {body : Int × Int → Option (LS (Int × Int) ρ)} (hb : ∀ (k : Nat) (s : Int), k < w.length → body ((k : Int), s) = (idx w (k : Int)).bind fun x => some (.cont (w64 ((k : Int) + 1), w64 (s + x)))) (he : ∀ s : Int, body ((w.length : Int), s) = some (.done (fin s))) : loopW body (0, 0) = some (fin (sig (gt w) w.length)) := by
  refine loop_all (fun k => ((k : Int), sig (gt w) k)) w.length rfl (fun k hk => ?_) (he _)
  have a := sum_w h (k := k) (by omega)
  have b := h.2 k hk
  have hl := h.1
  rw [hb k _ hk, idx_gt hk, Option.bind_some, w64_nat (by omega), w64_id (by omega)]
  rfl

theorem total_w {w : List Int} (h : wOk w) : impl_total w = some (sig (gt w) w.length) := by
  unfold impl_total
  rw [sum_loop (τ := Int) h (fun s => (Sum.inl s : Int ⊕ Int)) (fun k s hk => by
    simp only
    rw [decide_eq_true (by omega)]
    rfl) (fun s => by
    simp only
    rw [decide_eq_false (by omega)]
    rfl)]
  rfl

theorem sum31_w {w : List Int} (h : wOk w) : spec_l31Sum w = some (sig (gt w) w.length) := by
  unfold spec_l31Sum
  rw [sum_loop (τ := Int) h (fun s => (Sum.inl s : Int ⊕ Int)) (fun k s hk => by
    simp only
    rw [decide_eq_true (by omega)]
    rfl) (fun s => by
    simp only
    rw [decide_eq_false (by omega)]
    rfl)]
  rfl

def shr (t S : Int) (w : List Int) (k : Nat) : Int := t * gt w k / S

def rst (t S : Int) (w : List Int) (k : Nat) : Int := t * gt w k % S

theorem share_facts {w : List Int} (h : wOk w) {t S : Int} (ht : 0 ≤ t ∧ t ≤ S) (hS : 0 < S ∧ S ≤ 40000000) {k : Nat} (hk : k < w.length) : (0 ≤ t * gt w k ∧ t * gt w k ≤ 40000000000000) ∧ (0 ≤ shr t S w k ∧ shr t S w k ≤ 1000000 ∧ shr t S w k ≤ gt w k) ∧ (0 ≤ rst t S w k ∧ rst t S w k < S) ∧ t * gt w k = S * shr t S w k + rst t S w k ∧ (0 < rst t S w k → shr t S w k + 1 ≤ gt w k) := by
  have b := h.2 k hk
  have m0 := Int.mul_nonneg ht.1 b.1
  have m1 : t * gt w k ≤ 40000000 * 1000000 := Int.mul_le_mul (by omega) b.2 b.1 (by omega)
  have m2 : t * gt w k ≤ S * gt w k := Int.mul_le_mul_of_nonneg_right ht.2 b.1
  have q0 := Int.ediv_nonneg m0 (by omega : (0 : Int) ≤ S)
  have r0 := Int.emod_nonneg (t * gt w k) (by omega : S ≠ 0)
  have r1 := Int.emod_lt_of_pos (t * gt w k) hS.1
  have e := (Int.mul_ediv_add_emod (t * gt w k) S).symm
  have q1 : t * gt w k / S ≤ gt w k := Int.ediv_le_of_le_mul hS.1 (by rw [Int.mul_comm (gt w k) S]; exact m2)
  refine ⟨⟨m0, by omega⟩, ⟨q0, by unfold shr; omega, q1⟩, ⟨r0, r1⟩, e, fun hr => ?_⟩
  have : S * shr t S w k < S * gt w k := by
    have e2 : t * gt w k = S * shr t S w k + rst t S w k := e
    omega
  have := Int.lt_of_mul_lt_mul_left this (by omega)
  omega

theorem left_facts {w : List Int} (h : wOk w) {t : Int} {S : Int} (eS : S = sig (gt w) w.length) (ht : 0 ≤ t ∧ t ≤ S) (hS : 0 < S ∧ S ≤ 40000000) : S * (t - sig (shr t S w) w.length) = sig (rst t S w) w.length ∧ 0 ≤ t - sig (shr t S w) w.length ∧ t - sig (shr t S w) w.length < w.length := by
  have e1 : sig (fun k => t * gt w k) w.length = sig (fun k => S * shr t S w k + rst t S w k) w.length := sig_congr (fun k hk => (share_facts h ht hS hk).2.2.2.1)
  rw [sig_mul, sig_add (fun k => S * shr t S w k) (rst t S w), sig_mul, ← eS] at e1
  have e2 : S * (t - sig (shr t S w) w.length) = sig (rst t S w) w.length := by
    rw [Int.mul_sub, Int.mul_comm S t]
    omega
  have hr := sig_bound (f := rst t S w) (B := S - 1) (n := w.length) (fun k hk => by have := (share_facts h ht hS hk).2.2.1; omega)
  have hl : 0 < w.length := by
    cases hw : w with
    | nil => rw [hw] at eS; simp [sig] at eS; omega
    | cons x r => simp
  have hr2 : sig (rst t S w) w.length < S * w.length := by
    have : (w.length : Int) * (S - 1) = S * w.length - w.length := by rw [Int.mul_sub, Int.mul_comm]; omega
    omega
  refine ⟨e2, ?_, ?_⟩
  · by_cases hn : 0 ≤ t - sig (shr t S w) w.length
    · exact hn
    · exfalso
      have : S * (t - sig (shr t S w) w.length) < 0 := Int.mul_neg_of_pos_of_neg hS.1 (by omega)
      omega
  · refine Int.lt_of_mul_lt_mul_left (a := S) ?_ (by omega)
    rw [e2]
    exact hr2

def inc (o : List Int) (x : Int) : List Int := o.set x.toNat (gt o x.toNat + 1)

def incs (o P : List Int) : List Int := P.foldl inc o

def neg1 (r : List Int) (x : Int) : List Int := r.set x.toNat (-1)

theorem gt_set2 {α : Type} [Inhabited α] (l : List α) (i a : Nat) (x : α) (ha : a < l.length) : gt (l.set i x) a = if i = a then x else gt l a := by
  unfold gt
  rw [List.getElem?_set]
  by_cases h : i = a
  · subst h; rw [if_pos rfl, if_pos ha, if_pos rfl]; rfl
  · rw [if_neg h, if_neg h]

theorem incs_len : ∀ (P o : List Int), (incs o P).length = o.length
  | [], o => rfl
  | x :: P, o => by
    show (incs (inc o x) P).length = _
    rw [incs_len P]
    simp [inc]

theorem incs_at : ∀ (P o : List Int) (i : Nat), i < o.length → (∀ x ∈ P, 0 ≤ x) → P.Nodup → gt (incs o P) i = if (i : Int) ∈ P then gt o i + 1 else gt o i
  | [], o, i, _, _, _ => by simp [incs]
  | x :: P, o, i, hi, h, hn => by
    show gt (incs (inc o x) P) i = _
    rw [incs_at P (inc o x) i (by simp [inc]; exact hi) (fun y hy => h y (List.mem_cons_of_mem _ hy)) (List.nodup_cons.1 hn).2]
    unfold inc
    rw [gt_set2 _ _ _ _ hi]
    have hx := h x (by simp)
    by_cases e : x = (i : Int)
    · subst e
      have hnp := (List.nodup_cons.1 hn).1
      rw [if_neg hnp, Int.toNat_natCast, if_pos rfl, if_pos (by simp)]
    · rw [if_neg (by omega : ¬ x.toNat = i)]
      have : ((i : Int) ∈ x :: P) ↔ (i : Int) ∈ P := by
        rw [List.mem_cons]
        constructor
        · rintro (h1 | h1)
          · exact absurd h1.symm e
          · exact h1
        · exact Or.inr
      simp only [this]

theorem negs_len : ∀ (P r : List Int), (P.foldl neg1 r).length = r.length
  | [], r => rfl
  | x :: P, r => by
    show (P.foldl neg1 (neg1 r x)).length = _
    rw [negs_len P]
    simp [neg1]

theorem negs_at : ∀ (P r : List Int) (i : Nat), i < r.length → (∀ x ∈ P, 0 ≤ x) → gt (P.foldl neg1 r) i = if (i : Int) ∈ P then -1 else gt r i
  | [], r, i, _, _ => by simp
  | x :: P, r, i, hi, h => by
    show gt (P.foldl neg1 (neg1 r x)) i = _
    rw [negs_at P (neg1 r x) i (by simp [neg1]; exact hi) (fun y hy => h y (List.mem_cons_of_mem _ hy))]
    unfold neg1
    rw [gt_set2 _ _ _ _ hi]
    have hx := h x (by simp)
    by_cases e : x = (i : Int)
    · subst e
      rw [Int.toNat_natCast, if_pos rfl, if_pos (by simp : (i : Int) ∈ (i : Int) :: P)]
      split <;> rfl
    · rw [if_neg (by omega : ¬ x.toNat = i)]
      have : ((i : Int) ∈ x :: P) ↔ (i : Int) ∈ P := by
        rw [List.mem_cons]
        constructor
        · rintro (h1 | h1)
          · exact absurd h1.symm e
          · exact h1
        · exact Or.inr
      simp only [this]

theorem best_loop {ρ : Type} (v : List Int) (b : Nat) (hb : b < v.length) (hn : v.length ≤ 1000000) (h : ∀ i, i < v.length → i ≠ b → gt v i < gt v b ∨ (gt v i = gt v b ∧ b < i)) :
    loopW (ρ := (Int) ⊕ ρ) (fun (s85 : Int × Int) =>
                cond (decide (s85.1 < (v.length : Int)))
                  ((idx v s85.1).bind fun x118 =>
                  (idx v s85.2).bind fun x121 =>
                  joinP (fun (j125 : Int) =>
                    some (.cont (w64 (s85.1 + 1), j125)))
                    (fun k127 =>
                    cond (decide (x118 > x121))
                      (k127 s85.1)
                      (k127 s85.2)))
                  (some (.done (.inl s85.2))))
                (1, 0) = some (.inl (b : Int)) := by
  have main : ∀ (d k c : Nat), v.length - k ≤ d → 1 ≤ k → k ≤ v.length → c < k → (b < k → c = b) → loopW (ρ := (Int) ⊕ ρ) (fun (s85 : Int × Int) =>
                cond (decide (s85.1 < (v.length : Int)))
                  ((idx v s85.1).bind fun x118 =>
                  (idx v s85.2).bind fun x121 =>
                  joinP (fun (j125 : Int) =>
                    some (.cont (w64 (s85.1 + 1), j125)))
                    (fun k127 =>
                    cond (decide (x118 > x121))
                      (k127 s85.1)
                      (k127 s85.2)))
                  (some (.done (.inl s85.2))))
                ((k : Int), (c : Int)) = some (.inl (b : Int)) := by
    intro d
    induction d with
    | zero =>
      intro k c h1 h2 h3 h4 h5
      have : k = v.length := by omega
      subst this
      rw [h5 hb]
      refine loopW_done ?_
      simp only
      rw [decide_eq_false (by omega)]
      rfl
    | succ d ih =>
      intro k c h1 h2 h3 h4 h5
      by_cases hk : k = v.length
      · subst hk
        rw [h5 hb]
        refine loopW_done ?_
        simp only
        rw [decide_eq_false (by omega)]
        rfl
      · have hkl : k < v.length := by omega
        have hcl : c < v.length := by omega
        by_cases hgt : gt v k > gt v c
        · refine (loopW_cont (s' := (((k + 1 : Nat) : Int), (k : Int))) ?_).trans (ih (k + 1) k (by omega) (by omega) (by omega) (by omega) (fun hbk => ?_))
          · simp only
            rw [decide_eq_true (by omega), idx_gt hkl, idx_gt hcl, w64_nat (by omega)]
            simp only [cond_true, Option.bind_some, joinP_eq2]
            rw [decide_eq_true hgt]
            rfl
          · by_cases e : k = b
            · exact e
            · have hc := h5 (by omega)
              subst hc
              have := h k hkl e
              omega
        · refine (loopW_cont (s' := (((k + 1 : Nat) : Int), (c : Int))) ?_).trans (ih (k + 1) c (by omega) (by omega) (by omega) (by omega) (fun hbk => ?_))
          · simp only
            rw [decide_eq_true (by omega), idx_gt hkl, idx_gt hcl, w64_nat (by omega)]
            simp only [cond_true, Option.bind_some, joinP_eq2]
            rw [decide_eq_false hgt]
            rfl
          · by_cases e : k = b
            · subst e
              have := h c hcl (by omega)
              omega
            · exact h5 (by omega)
  have := main v.length 1 0 (by omega) (Nat.le_refl _) (by omega) (by omega) (fun h => by omega)
  exact this

def ords (n : Nat) : List Int := (List.range n).map fun (k : Nat) => (k : Int)

def outs (t S : Int) (w : List Int) (n : Nat) : List Int := (List.range n).map (shr t S w)

def rests (t S : Int) (w : List Int) (n : Nat) : List Int := (List.range n).map (rst t S w)

theorem ords_len (n : Nat) : (ords n).length = n := by simp [ords]

theorem outs_len (t S : Int) (w : List Int) (n : Nat) : (outs t S w n).length = n := by simp [outs]

theorem rests_len (t S : Int) (w : List Int) (n : Nat) : (rests t S w n).length = n := by simp [rests]

theorem ords_succ (n : Nat) : ords (n + 1) = ords n ++ [(n : Int)] := by simp [ords, List.range_succ]

theorem outs_succ (t S : Int) (w : List Int) (n : Nat) : outs t S w (n + 1) = outs t S w n ++ [shr t S w n] := by simp [outs, List.range_succ]

theorem rests_succ (t S : Int) (w : List Int) (n : Nat) : rests t S w (n + 1) = rests t S w n ++ [rst t S w n] := by simp [rests, List.range_succ]

theorem outs_at (t S : Int) (w : List Int) {n k : Nat} (h : k < n) : gt (outs t S w n) k = shr t S w k := by
  refine gt_of ?_
  simp [outs, h]

theorem rests_at (t S : Int) (w : List Int) {n k : Nat} (h : k < n) : gt (rests t S w n) k = rst t S w k := by
  refine gt_of ?_
  simp [rests, h]

theorem ords_mem {n : Nat} {x : Int} : x ∈ ords n ↔ 0 ≤ x ∧ x < n := by
  simp only [ords, List.mem_map, List.mem_range]
  constructor
  · rintro ⟨k, hk, rfl⟩; omega
  · intro h; exact ⟨x.toNat, by omega, by omega⟩

theorem ords_inc : ∀ n, (ords n).Pairwise (fun x y => x < y)
  | 0 => List.Pairwise.nil
  | n + 1 => by
    rw [ords_succ, List.pairwise_append]
    refine ⟨ords_inc n, by simp, fun x hx y hy => ?_⟩
    rw [List.mem_singleton] at hy
    subst hy
    exact (ords_mem.1 hx).2

def keyF (t S : Int) (w : List Int) (x : Int) : Int := rst t S w x.toNat

theorem cmp_ok {w : List Int} (h : wOk w) {t S : Int} (ht : 0 ≤ t ∧ t ≤ S) (hS : 0 < S ∧ S ≤ 40000000) : CmpAs (fun x => 0 ≤ x ∧ x < w.length) (keyF t S w) t w S := by
  intro x y hx hy
  obtain ⟨i, rfl⟩ : ∃ i : Nat, x = i := ⟨x.toNat, by omega⟩
  obtain ⟨j, rfl⟩ : ∃ j : Nat, y = j := ⟨y.toNat, by omega⟩
  have hi : i < w.length := by omega
  have hj : j < w.length := by omega
  obtain ⟨a1, _, a3, _⟩ := share_facts h ht hS hi
  obtain ⟨b1, _, b3, _⟩ := share_facts h ht hS hj
  have ex : Int.tmod (w64 (t * gt w i)) S = rst t S w i := by rw [w64_id (by omega), tmod_pos a1.1]; rfl
  have ey : Int.tmod (w64 (t * gt w j)) S = rst t S w j := by rw [w64_id (by omega), tmod_pos b1.1]; rfl
  unfold impl_Allocate_1
  rw [idx_gt hi, idx_gt hj, nz_eq (by omega)]
  simp only [Option.bind_some, ex, ey]
  have n1 : cmp_isNaN_int (rst t S w j) = some false := by unfold cmp_isNaN_int; simp
  have n2 : cmp_isNaN_int (rst t S w i) = some false := by unfold cmp_isNaN_int; simp
  unfold cmp_Compare_int
  simp only [n1, n2, Option.bind_some, cond_false, keyF, Int.toNat_natCast]
  by_cases h1 : rst t S w j < rst t S w i
  · rw [decide_eq_true h1]
    exact ⟨-1, rfl, by simp [h1]⟩
  · rw [decide_eq_false h1]
    by_cases h2 : rst t S w j > rst t S w i
    · rw [decide_eq_true h2]
      exact ⟨1, rfl, by simp [h1]⟩
    · rw [decide_eq_false h2]
      exact ⟨0, rfl, by simp [h1]⟩

theorem order_ex {w : List Int} (h : wOk w) {t S : Int} (ht : 0 ≤ t ∧ t ≤ S) (hS : 0 < S ∧ S ≤ 40000000) : ∃ M, slices_SortStableFunc_int__impl_Allocate_1 (ords w.length) t w S = some M ∧ M.Perm (ords w.length) ∧ M.Pairwise (Ahead (keyF t S w)) :=
  sortStable_eq (cmp_ok h ht hS) (ords w.length) (by rw [ords_len]; exact h.1) (fun y hy => ords_mem.1 hy) (ords_inc _)

theorem order_nodup {M : List Int} {n : Nat} (h : M.Perm (ords n)) : M.Nodup := by
  refine h.nodup_iff.2 ?_
  exact (ords_inc n).imp (fun h => by omega)

theorem order_mem {M : List Int} {n : Nat} (h : M.Perm (ords n)) {x : Int} : x ∈ M ↔ 0 ≤ x ∧ x < n := h.mem_iff.trans ords_mem

theorem order_len {M : List Int} {n : Nat} (h : M.Perm (ords n)) : M.length = n := h.length_eq.trans (ords_len n)

theorem incs_snoc (o P : List Int) (x : Int) : incs o (P ++ [x]) = inc (incs o P) x := by
  unfold incs
  rw [List.foldl_append]
  rfl

def partsL (t S : Int) (w M : List Int) : List Int := incs (outs t S w w.length) (M.take (t - sig (shr t S w) w.length).toNat)

theorem impl_Allocate_eq {w : List Int} (h : wOk w) {t S : Int} (eS : S = sig (gt w) w.length) (ht : 0 ≤ t ∧ t ≤ S) (hS : 0 < S) {M : List Int} (hM : slices_SortStableFunc_int__impl_Allocate_1 (ords w.length) t w S = some M) (hp : M.Perm (ords w.length)) : impl_Allocate t w = some (partsL t S w M) := by
  have hS2 : S ≤ 40000000 := by have := (sum_w h (Nat.le_refl _)).2; omega
  obtain ⟨f1, f2, f3⟩ := left_facts h eS ht ⟨hS, hS2⟩
  have hl := h.1
  have hl0 : 0 < w.length := by omega
  unfold impl_Allocate
  rw [sum_loop (τ := Int) h (fun s => (Sum.inl s : Int ⊕ List Int)) (fun k s hk => by
    simp only
    rw [decide_eq_true (by omega)]
    rfl) (fun s => by
    simp only
    rw [decide_eq_false (by omega)]
    rfl), ← eS]
  have hw : allIn w 0 1000000 = true := by
    have := (wOk_iff w).1 h
    rw [Bool.and_eq_true] at this
    exact this.1
  have z0 : (S == 0) = false := beq_eq_false_iff_ne.2 (by omega)
  simp only [Option.bind_some, brkE_inl, within_eq, allWithin_eq w 0 1000000 (by omega), hw, inB_true.2 (show 0 ≤ t ∧ t ≤ 1000000000 by omega), inB_true.2 (show (1 : Int) ≤ (w.length : Int) ∧ (w.length : Int) ≤ 40 by omega), Bool.not_true, cond_false, z0]
  refine loop_bind (r := .inl (t - sig (shr t S w) w.length, ords w.length, outs t S w w.length)) (fun k => ((k : Int), t - sig (shr t S w) k, ords k, outs t S w k)) w.length (by simp [sig, ords, outs]) (fun k hk => ?_) ?_ ?_
  · obtain ⟨a1, a2, a3, a4, a5⟩ := share_facts h ht ⟨hS, hS2⟩ hk
    have sb := sig_bound (f := shr t S w) (B := 1000000) (n := k) (fun j hj => by have := (share_facts h ht ⟨hS, hS2⟩ (show j < w.length by omega)).2.1; omega)
    have eq : w64 (Int.tdiv (w64 (t * gt w k)) S) = shr t S w k := by
      rw [w64_id (x := t * gt w k) (by omega), tdiv_pos a1.1]
      exact w64_id (by have := a2; unfold shr at this; omega)
    simp only
    rw [decide_eq_true (by omega), idx_gt hk, nz_eq (by omega)]
    simp only [cond_true, Option.bind_some, eq]
    rw [appC_ok _ _ (by rw [outs_len]; simp; omega), appC_ok _ _ (by rw [ords_len]; simp; omega), ← outs_succ, ← ords_succ]
    simp only [Option.bind_some]
    rw [idx_gt (by rw [outs_len]; omega), outs_at _ _ _ (by omega), Option.bind_some, w64_nat (by omega), w64_id (by omega)]
    show some (LS.cont (((k + 1 : Nat) : Int), t - sig (shr t S w) k - shr t S w k, _)) = some (LS.cont (((k + 1 : Nat) : Int), t - (sig (shr t S w) k + shr t S w k), _))
    rw [Int.sub_sub]
  · simp only
    rw [decide_eq_false (by omega)]
    rfl
  · simp only [brkE_inl]
    rw [hM, Option.bind_some, sameLen_ok hp.length_eq, Option.bind_some]
    have hML := order_len hp
    obtain ⟨m, hm⟩ : ∃ m : Nat, (m : Int) = t - sig (shr t S w) w.length := ⟨(t - sig (shr t S w) w.length).toNat, by omega⟩
    have eh : headL M (t - sig (shr t S w) w.length) = some (M.take m) := by
      rw [← hm]
      unfold headL
      rw [if_pos (by omega), Int.toNat_natCast]
    rw [eh, Option.bind_some]
    have hmt : (t - sig (shr t S w) w.length).toNat = m := by omega
    have hlt : (M.take m).length = m := by rw [List.length_take]; omega
    refine loop_bind (r := .inl (partsL t S w M)) (fun k => ((k : Int), incs (outs t S w w.length) ((M.take m).take k))) (M.take m).length rfl (fun k hk => ?_) ?_ rfl
    · have hx := gt_mem hk
      have hxM := (order_mem hp).1 (List.mem_of_mem_take hx)
      have hll : (incs (outs t S w w.length) ((M.take m).take k)).length = w.length := by rw [incs_len, outs_len]
      obtain ⟨i, hi⟩ : ∃ i : Nat, gt (M.take m) k = (i : Int) := ⟨(gt (M.take m) k).toNat, by omega⟩
      have hil : i < w.length := by omega
      have hval : gt (incs (outs t S w w.length) ((M.take m).take k)) i ≤ 1000001 ∧ 0 ≤ gt (incs (outs t S w w.length) ((M.take m).take k)) i := by
        rw [incs_at _ _ _ (by rw [outs_len]; exact hil) (fun x hx => ((order_mem hp).1 (List.mem_of_mem_take (List.mem_of_mem_take hx))).1) (((order_nodup hp).sublist (List.take_sublist _ _)).sublist (List.take_sublist _ _)), outs_at _ _ _ hil]
        have := (share_facts h ht ⟨hS, hS2⟩ hil).2.1
        split <;> omega
      simp only
      rw [decide_eq_true (by omega), idx_gt hk, cond_true, Option.bind_some, hi, idx_gt (by omega), Option.bind_some, Option.bind_some, w64_nat (by omega), w64_id (by omega), take_snoc hk, incs_snoc, hi]
      rfl
    · simp only
      rw [decide_eq_false (by omega), List.take_length]
      unfold partsL
      rw [hmt]
      rfl

theorem spec_Allocate_eq {w : List Int} (h : wOk w) {t S : Int} (eS : S = sig (gt w) w.length) (ht : 0 ≤ t ∧ t ≤ S) (hS : 0 < S) {M : List Int} (hp : M.Perm (ords w.length)) (ho : M.Pairwise (Ahead (keyF t S w))) : spec_Allocate t w = some (partsL t S w M) := by
  have hS2 : S ≤ 40000000 := by have := (sum_w h (Nat.le_refl _)).2; omega
  obtain ⟨f1, f2, f3⟩ := left_facts h eS ht ⟨hS, hS2⟩
  have hl := h.1
  have hl0 : 0 < w.length := by omega
  have hML := order_len hp
  unfold spec_Allocate
  simp only [l01In_eq, Option.bind_some, inB_true.2 (show 0 ≤ t ∧ t ≤ 1000000000 by omega), inB_true.2 (show (1 : Int) ≤ (w.length : Int) ∧ (w.length : Int) ≤ 40 by omega), Bool.not_true, cond_false]
  refine loop_bind (r := .inl (t, S)) (fun k => ((k : Int), sig (gt w) k)) w.length rfl (fun k hk => ?_) ?_ ?_
  · have a := sum_w h (k := k) (by omega)
    have b := h.2 k hk
    simp only
    rw [decide_eq_true (by omega), idx_gt hk, cond_true, Option.bind_some, inB_true.2 b]
    simp only [Bool.not_true, cond_false, Option.bind_some]
    rw [w64_nat (by omega), w64_id (by omega)]
    rfl
  · simp only
    rw [decide_eq_false (by omega), ← eS]
    rfl
  have z0 : (S == 0) = false := beq_eq_false_iff_ne.2 (by omega)
  simp only [brkE_inl, z0, cond_false]
  refine loop_bind (r := .inl (rests t S w w.length, t - sig (shr t S w) w.length, outs t S w w.length)) (fun k => ((k : Int), rests t S w k, t - sig (shr t S w) k, outs t S w k)) w.length (by simp [sig, rests, outs]) (fun k hk => ?_) ?_ ?_
  · obtain ⟨a1, a2, a3, a4, a5⟩ := share_facts h ht ⟨hS, hS2⟩ hk
    have sb := sig_bound (f := shr t S w) (B := 1000000) (n := k) (fun j hj => by have := (share_facts h ht ⟨hS, hS2⟩ (show j < w.length by omega)).2.1; omega)
    have eq : w64 (Int.tdiv (w64 (t * gt w k)) S) = shr t S w k := by
      rw [w64_id (x := t * gt w k) (by omega), tdiv_pos a1.1]
      exact w64_id (by have := a2; unfold shr at this; omega)
    have er : Int.tmod (w64 (t * gt w k)) S = rst t S w k := by rw [w64_id (by omega), tmod_pos a1.1]; rfl
    simp only
    rw [decide_eq_true (by omega), idx_gt hk, nz_eq (by omega)]
    simp only [cond_true, Option.bind_some, eq, er]
    rw [appC_ok _ _ (by rw [outs_len]; simp; omega), appC_ok _ _ (by rw [rests_len]; simp; omega), ← outs_succ, ← rests_succ]
    simp only [Option.bind_some]
    rw [w64_nat (by omega), w64_id (by omega)]
    show some (LS.cont (((k + 1 : Nat) : Int), _, t - sig (shr t S w) k - shr t S w k, _)) = some (LS.cont (((k + 1 : Nat) : Int), _, t - (sig (shr t S w) k + shr t S w k), _))
    rw [Int.sub_sub]
  · simp only
    rw [decide_eq_false (by omega)]
    rfl
  simp only [brkE_inl]
  obtain ⟨m, hm⟩ : ∃ m : Nat, (m : Int) = t - sig (shr t S w) w.length := ⟨(t - sig (shr t S w) w.length).toNat, by omega⟩
  have hmt : (t - sig (shr t S w) w.length).toNat = m := by omega
  have hmn : m < w.length := by omega
  refine loop_bind (r := .inl (partsL t S w M)) (fun k => ((M.take k).foldl neg1 (rests t S w w.length), ((m : Int) - (k : Int)), incs (outs t S w w.length) (M.take k))) m (by rw [hm]; simp [incs]) (fun k hk => ?_) ?_ rfl
  · have hkM : k < M.length := by omega
    have hxM := (order_mem hp).1 (gt_mem hkM)
    obtain ⟨b, hb⟩ : ∃ b : Nat, gt M k = (b : Int) := ⟨(gt M k).toNat, by omega⟩
    have hbl : b < w.length := by omega
    have hnd := order_nodup hp
    have hlen : ((M.take k).foldl neg1 (rests t S w w.length)).length = w.length := by rw [negs_len, rests_len]
    have hll : (incs (outs t S w w.length) (M.take k)).length = w.length := by rw [incs_len, outs_len]
    have nn : ∀ x ∈ M.take k, 0 ≤ x := fun x hx => ((order_mem hp).1 (List.mem_of_mem_take hx)).1
    have dk := drop_cons hkM
    have eM : M = M.take k ++ gt M k :: M.drop (k + 1) := by rw [← dk, List.take_append_drop]
    have hnd2 := hnd
    rw [eM] at hnd2
    have hnot : (b : Int) ∉ M.take k := fun hm2 => (List.nodup_append.1 hnd2).2.2 _ hm2 (gt M k) (by simp) hb.symm
    have vb : gt ((M.take k).foldl neg1 (rests t S w w.length)) b = rst t S w b := by
      rw [negs_at _ _ _ (by rw [rests_len]; exact hbl) nn, if_neg hnot, rests_at _ _ _ hbl]
    have rb := (share_facts h ht ⟨hS, hS2⟩ hbl).2.2.1
    have bl := best_loop (ρ := List Int) ((M.take k).foldl neg1 (rests t S w w.length)) b (by omega) (by omega) (fun i hi hne => by
      rw [vb]
      rw [hlen] at hi
      rw [negs_at _ _ _ (by rw [rests_len]; exact hi) nn]
      by_cases hin : (i : Int) ∈ M.take k
      · rw [if_pos hin]; left; omega
      · rw [if_neg hin, rests_at _ _ _ hi]
        have hiM : (i : Int) ∈ M := (order_mem hp).2 (by omega)
        rw [eM] at hiM
        rcases List.mem_append.1 hiM with h1 | h1
        · exact absurd h1 hin
        · rcases List.mem_cons.1 h1 with h2 | h2
          · rw [hb] at h2; omega
          · have ho2 := ho
            rw [eM] at ho2
            have h3 := (List.pairwise_cons.1 (List.pairwise_append.1 ho2).2.1).1 _ h2
            rw [hb] at h3
            unfold Ahead keyF at h3
            simp only [Int.toNat_natCast] at h3
            omega)
    have vo : gt (incs (outs t S w w.length) (M.take k)) b ≤ 1000001 ∧ 0 ≤ gt (incs (outs t S w w.length) (M.take k)) b := by
      rw [incs_at _ _ _ (by rw [outs_len]; exact hbl) nn (hnd.sublist (List.take_sublist _ _)), outs_at _ _ _ hbl]
      have := (share_facts h ht ⟨hS, hS2⟩ hbl).2.1
      split <;> omega
    simp only
    rw [decide_eq_true (by omega), cond_true, bl]
    simp only [Option.bind_some, brkE_inl]
    rw [idx_gt (by omega), Option.bind_some, Option.bind_some, idx_gt (by omega), Option.bind_some, w64_id (by omega), w64_id (by omega), take_snoc hkM, incs_snoc, List.foldl_append, hb]
    show some (LS.cont (_, (m : Int) - (k : Int) - 1, _)) = some (LS.cont (_, (m : Int) - ((k + 1 : Nat) : Int), _))
    rw [show (m : Int) - ((k + 1 : Nat) : Int) = (m : Int) - (k : Int) - 1 by omega]
    rfl
  · simp only
    rw [decide_eq_false (by omega)]
    unfold partsL
    rw [hmt]
    rfl

def lsum : List Int → Int
  | [] => 0
  | x :: l => x + lsum l

theorem lsum_perm {l m : List Int} (h : l.Perm m) : lsum l = lsum m := by
  induction h with
  | nil => rfl
  | cons x _ ih => simp only [lsum, ih]
  | swap x y l => simp only [lsum]; omega
  | trans _ _ a b => exact a.trans b

theorem lsum_append : ∀ (l m : List Int), lsum (l ++ m) = lsum l + lsum m
  | [], m => by simp [lsum]
  | x :: l, m => by simp only [List.cons_append, lsum, lsum_append l m]; omega

theorem lsum_ords (f : Int → Int) : ∀ n, lsum ((ords n).map f) = sig (fun k => f (k : Int)) n
  | 0 => rfl
  | n + 1 => by
    rw [ords_succ, List.map_append, lsum_append, lsum_ords f n]
    simp only [List.map_cons, List.map_nil, lsum, sig]
    omega

theorem lsum_le {f : Int → Int} {B : Int} : ∀ (l : List Int), (∀ x ∈ l, f x ≤ B) → lsum (l.map f) ≤ l.length * B
  | [], _ => by simp [lsum]
  | x :: l, h => by
    have a := lsum_le l (fun y hy => h y (List.mem_cons_of_mem _ hy))
    have b := h x (by simp)
    have e : (((x :: l).length : Nat) : Int) * B = l.length * B + B := by rw [List.length_cons, Int.natCast_add, Int.add_mul]; simp
    rw [e]
    simp only [List.map_cons, lsum]
    omega

theorem served_rest {w : List Int} (h : wOk w) {t S : Int} (eS : S = sig (gt w) w.length) (ht : 0 ≤ t ∧ t ≤ S) (hS : 0 < S ∧ S ≤ 40000000) {M : List Int} (hp : M.Perm (ords w.length)) (ho : M.Pairwise (Ahead (keyF t S w))) {m : Nat} (hm : (m : Int) = t - sig (shr t S w) w.length) : ∀ x ∈ M.take m, 0 < keyF t S w x := by
  intro x hx
  obtain ⟨f1, f2, f3⟩ := left_facts h eS ht hS
  obtain ⟨j, j1, j2, j3⟩ := mem_take_gt hx
  have kb : ∀ y ∈ M, 0 ≤ keyF t S w y ∧ keyF t S w y < S := fun y hy => by
    have := (order_mem hp).1 hy
    exact (share_facts h ht hS (show y.toNat < w.length by omega)).2.2.1
  by_cases h0 : 0 < keyF t S w x
  · exact h0
  · exfalso
    have tot : lsum (M.map (keyF t S w)) = S * (m : Int) := by
      rw [lsum_perm (hp.map (keyF t S w)), lsum_ords, hm, f1]
      exact sig_congr (fun k hk => by unfold keyF; rw [Int.toNat_natCast])
    have eM : M.map (keyF t S w) = (M.take j).map (keyF t S w) ++ (M.drop j).map (keyF t S w) := by rw [← List.map_append, List.take_append_drop]
    rw [eM, lsum_append] at tot
    have a := lsum_le (f := keyF t S w) (B := S - 1) (M.take j) (fun y hy => by have := kb y (List.mem_of_mem_take hy); omega)
    have b := lsum_le (f := keyF t S w) (B := 0) (M.drop j) (fun y hy => by
      obtain ⟨i, i1, i2, i3⟩ := mem_drop_gt hy
      have := sorted_key ho i1 i2
      rw [i3, j3] at this
      omega)
    have lt : (M.take j).length = j := by rw [List.length_take]; omega
    rw [lt] at a
    have e1 : (j : Int) * (S - 1) = S * j - j := by rw [Int.mul_sub, Int.mul_comm]; omega
    have e2 : S * ((j : Int) + 1) ≤ S * (m : Int) := Int.mul_le_mul_of_nonneg_left (by omega) (by omega)
    have e3 : S * ((j : Int) + 1) = S * j + S := by rw [Int.mul_add]; omega
    simp only [Int.mul_zero] at b
    omega

theorem sig_set (o : List Int) (i : Nat) (v : Int) : ∀ n, i < n → n ≤ o.length → sig (gt (o.set i v)) n = sig (gt o) n - gt o i + v
  | 0, h, _ => by omega
  | n + 1, h, hl => by
    simp only [sig]
    rw [gt_set2 _ _ _ _ (by omega)]
    by_cases e : i = n
    · subst e
      rw [if_pos rfl, sig_congr (f := gt (o.set i v)) (g := gt o) (fun k hk => by rw [gt_set2 _ _ _ _ (by omega), if_neg (by omega)])]
      omega
    · rw [if_neg e, sig_set o i v n (by omega) (by omega)]
      omega

theorem sig_incs : ∀ (P o : List Int), (∀ x ∈ P, 0 ≤ x ∧ x < o.length) → sig (gt (incs o P)) o.length = sig (gt o) o.length + P.length
  | [], o, _ => by simp [incs]
  | x :: P, o, h => by
    have hx := h x (by simp)
    have hl : (inc o x).length = o.length := by simp [inc]
    show sig (gt (incs (inc o x) P)) o.length = _
    have ih := sig_incs P (inc o x) (fun y hy => by rw [hl]; exact h y (List.mem_cons_of_mem _ hy))
    rw [hl] at ih
    rw [ih]
    have : sig (gt (inc o x)) o.length = sig (gt o) o.length + 1 := by
      unfold inc
      rw [sig_set _ _ _ _ (by omega) (Nat.le_refl _)]
      omega
    rw [this, List.length_cons]
    omega

theorem alloc_ex {w : List Int} (h : wOk w) {t : Int} (ht : 0 ≤ t ∧ t ≤ sig (gt w) w.length) : ∃ p, impl_Allocate t w = some p ∧ spec_Allocate t w = some p ∧ (p = [] ∨ p.length = w.length) ∧ (∀ i, i < w.length → 0 ≤ gt p i ∧ gt p i ≤ gt w i) ∧ sig (gt p) w.length = t := by
  obtain ⟨S, hS⟩ : ∃ S, S = sig (gt w) w.length := ⟨_, rfl⟩
  have sw := sum_w h (Nat.le_refl _)
  rw [← hS] at ht sw
  have hl := h.1
  by_cases h0 : S = 0
  · -- nothing to share out
    have ht0 : t = 0 := by omega
    subst ht0
    refine ⟨[], ?_, ?_, .inl rfl, fun i hi => ?_, ?_⟩
    · unfold impl_Allocate
      rw [sum_loop (τ := Int) h (fun s => (Sum.inl s : Int ⊕ List Int)) (fun k s hk => by
        simp only
        rw [decide_eq_true (by omega)]
        rfl) (fun s => by
        simp only
        rw [decide_eq_false (by omega)]
        rfl), ← hS, h0]
      simp only [Option.bind_some, brkE_inl, within_eq, allWithin_eq w 0 1000000 (by omega), inB_true.2 (show (0 : Int) ≤ 0 ∧ (0 : Int) ≤ 1000000000 by omega), Bool.not_true, cond_false]
      cases inB (w.length : Int) 1 40 <;> cases allIn w 0 1000000 <;> rfl
    · unfold spec_Allocate
      simp only [l01In_eq, Option.bind_some, inB_true.2 (show (0 : Int) ≤ 0 ∧ (0 : Int) ≤ 1000000000 by omega), Bool.not_true, cond_false]
      cases hin : inB (w.length : Int) 1 40 with
      | false => rfl
      | true =>
        simp only [Bool.not_true, cond_false]
        refine loop_bind (r := .inl (0, S)) (fun k => ((k : Int), sig (gt w) k)) w.length rfl (fun k hk => ?_) ?_ ?_
        · have a := sum_w h (k := k) (by omega)
          have b := h.2 k hk
          simp only
          rw [decide_eq_true (by omega), idx_gt hk, cond_true, Option.bind_some, inB_true.2 b]
          simp only [Bool.not_true, cond_false, Option.bind_some]
          rw [w64_nat (by omega), w64_id (by omega)]
          rfl
        · simp only
          rw [decide_eq_false (by omega), ← hS]
          rfl
        · rw [h0]
          rfl
    · have := h.2 i hi
      exact ⟨Int.le_refl _, this.1⟩
    · have : sig (gt ([] : List Int)) w.length = sig (fun _ => 0) w.length := sig_congr (fun k _ => rfl)
      rw [this]
      have := sig_bound (f := fun _ => 0) (B := 0) (n := w.length) (fun k _ => by omega)
      omega
  · have hS0 : 0 < S ∧ S ≤ 40000000 := by omega
    obtain ⟨M, m1, m2, m3⟩ := order_ex h ht hS0
    obtain ⟨f1, f2, f3⟩ := left_facts h hS ht hS0
    obtain ⟨m, hm⟩ : ∃ m : Nat, (m : Int) = t - sig (shr t S w) w.length := ⟨(t - sig (shr t S w) w.length).toNat, by omega⟩
    have hmt : (t - sig (shr t S w) w.length).toNat = m := by omega
    have hML := order_len m2
    have hsr := served_rest h hS ht hS0 m2 m3 hm
    have nn : ∀ x ∈ M.take m, 0 ≤ x ∧ x < (outs t S w w.length).length := fun x hx => by
      rw [outs_len]
      exact (order_mem m2).1 (List.mem_of_mem_take hx)
    refine ⟨partsL t S w M, impl_Allocate_eq h hS ht hS0.1 m1 m2, spec_Allocate_eq h hS ht hS0.1 m2 m3, .inr (by unfold partsL; rw [incs_len, outs_len]), fun i hi => ?_, ?_⟩
    · unfold partsL
      rw [hmt, incs_at _ _ _ (by rw [outs_len]; exact hi) (fun x hx => (nn x hx).1) ((order_nodup m2).sublist (List.take_sublist _ _)), outs_at _ _ _ hi]
      obtain ⟨_, a2, a3, _, a5⟩ := share_facts h ht hS0 hi
      split
      · rename_i hin
        have := hsr _ hin
        unfold keyF at this
        rw [Int.toNat_natCast] at this
        have := a5 this
        omega
      · omega
    · unfold partsL
      rw [hmt]
      have := sig_incs (M.take m) (outs t S w w.length) nn
      rw [outs_len, List.length_take, Nat.min_eq_left (by omega)] at this
      rw [this, sig_congr (f := gt (outs t S w w.length)) (g := shr t S w) (fun k hk => outs_at _ _ _ hk), hm]
      omega

def cutL (w p : List Int) : List Int := (List.range w.length).map fun i => gt w i - gt p i

theorem cutL_len (w p : List Int) : (cutL w p).length = w.length := by simp [cutL]

theorem cutL_at (w p : List Int) {i : Nat} (h : i < w.length) : gt (cutL w p) i = gt w i - gt p i := by
  refine gt_of ?_
  simp [cutL, h]

theorem cutL_nil (w : List Int) : cutL w [] = w := by
  apply List.ext_getElem?
  intro i
  by_cases h : i < w.length
  · rw [at_gt (by rw [cutL_len]; exact h), cutL_at _ _ h, at_gt h]
    show some (gt w i - 0) = _
    rw [Int.sub_zero]
  · rw [List.getElem?_eq_none (by rw [cutL_len]; omega), List.getElem?_eq_none (by omega)]

theorem cut_loop {ρ : Type} {w p : List Int} (h : wOk w) (hp : p = [] ∨ p.length = w.length) (hb : ∀ i, i < w.length → 0 ≤ gt p i ∧ gt p i ≤ gt w i) {body : Int × List Int → Option (LS (Int × List Int) (List Int ⊕ ρ))}
    (hs : ∀ (k : Nat) (l : List Int), k < p.length → l.length = w.length → gt l k = gt w k → body ((k : Int), l) = some (.cont (w64 ((k : Int) + 1), l.set k (w64 (gt w k - gt p k))))) (he : ∀ l, body ((p.length : Int), l) = some (.done (.inl l))) : loopW body (0, w) = some (.inl (cutL w p)) := by
  have hl := h.1
  rcases hp with rfl | hp
  · rw [cutL_nil]
    exact loopW_done (he w)
  · refine loop_all (fun k => ((k : Int), (cutL w p).take k ++ w.drop k)) p.length (by simp) (fun k hk => ?_) ?_
    · have hkw : k < w.length := by omega
      have b := hb k hkw
      have b2 := h.2 k hkw
      have lt : ((cutL w p).take k).length = k := by rw [List.length_take, cutL_len]; omega
      have dk := drop_cons hkw
      have gk : gt ((cutL w p).take k ++ w.drop k) k = gt w k := by
        rw [dk]
        refine gt_of ?_
        rw [List.getElem?_append_right (by omega), lt, Nat.sub_self]
        rfl
      rw [hs k _ hk (by rw [List.length_append, lt, List.length_drop]; omega) gk, w64_nat (by omega), w64_id (by omega), dk, List.set_append_right _ _ (by omega), lt, Nat.sub_self, List.set_cons_zero, take_snoc (by rw [cutL_len]; exact hkw), cutL_at _ _ hkw]
      simp
    · rw [he, hp, List.drop_of_length_le (Nat.le_refl _), List.take_of_length_le (by rw [cutL_len]; omega), List.append_nil]

theorem pensions_eq (w : List Int) (h : w.length ≤ 1099511627776) : impl_arePensions w = some (allIn w 0 1000000 && decide (w.length ≤ 40)) := by
  unfold impl_arePensions
  rw [allWithin_eq w 0 1000000 h]
  by_cases hl : w.length ≤ 40
  · rw [decide_eq_true (by omega : (w.length : Int) ≤ 40), decide_eq_true hl]
    cases allIn w 0 1000000 <;> rfl
  · rw [decide_eq_false (by omega : ¬ (w.length : Int) ≤ 40), decide_eq_false hl]
    cases allIn w 0 1000000 <;> rfl

theorem share_k {S k : Int} (hS : 0 ≤ S ∧ S ≤ 40000000) (hk : 0 ≤ k ∧ k ≤ 1000) : w64 (Int.tdiv (w64 (S * k)) 1000) = S * k / 1000 ∧ 0 ≤ S * k / 1000 ∧ S * k / 1000 ≤ S := by
  have m0 := Int.mul_nonneg hS.1 hk.1
  have m1 : S * k ≤ S * 1000 := Int.mul_le_mul_of_nonneg_left hk.2 hS.1
  generalize S * k = z at m0 m1
  rw [w64_id (x := z) (by omega), tdiv_pos m0, w64_id (by omega)]
  exact ⟨rfl, by omega, by omega⟩

theorem cut_ex {w : List Int} (h : wOk w) {k : Int} (hk : 0 ≤ k ∧ k ≤ 1000) : ∃ p, impl_CutAll w k = some (cutL w p) ∧ spec_CutAll w k = some (cutL w p) ∧ (∀ i, i < w.length → 0 ≤ gt p i ∧ gt p i ≤ gt w i) ∧ sig (gt p) w.length = sig (gt w) w.length * k / 1000 := by
  have sw := sum_w h (Nat.le_refl _)
  obtain ⟨e1, e2, e3⟩ := share_k sw hk
  obtain ⟨p, p1, p2, p3, p4, p5⟩ := alloc_ex h (t := sig (gt w) w.length * k / 1000) ⟨e2, e3⟩
  have hl := h.1
  have hw := (wOk_iff w).1 h
  refine ⟨p, ?_, ?_, p4, p5⟩
  · unfold impl_CutAll
    rw [pensions_eq w (by omega), hw]
    have ec : slices_Clone_int w = some w := by unfold slices_Clone_int; rw [appC_ok _ _ (by simp; omega)]; rfl
    simp only [Option.bind_some, Bool.not_true, cond_false, within_eq, inB_true.2 hk, ec, total_w h, e1, p1]
    rw [cut_loop (ρ := List Int) h p3 p4 (fun k l h1 h2 h3 => by
      have hkw : k < w.length := by
        rcases p3 with rfl | p3
        · simp at h1
        · omega
      simp only
      rw [decide_eq_true (by omega), idx_gt h1, idx_gt (by omega), h3]
      rfl) (fun l => by
      simp only
      rw [decide_eq_false (by omega)]
      rfl)]
    rfl
  · unfold spec_CutAll
    rw [Bool.and_eq_true, decide_eq_true_eq] at hw
    rw [l31Ask_eq w k (by omega), hw.1, decide_eq_true hw.2, inB_true.2 hk]
    simp only [Option.bind_some, Bool.and_self, Bool.not_true, cond_false]
    rw [appC_ok _ _ (by simp; omega)]
    simp only [Option.bind_some, sum31_w h, e1, p2, List.nil_append]
    rw [cut_loop (ρ := List Int) h p3 p4 (fun k l h1 h2 h3 => by
      have hkw : k < w.length := by
        rcases p3 with rfl | p3
        · simp at h1
        · omega
      simp only
      rw [decide_eq_true (by omega), idx_gt h1, idx_gt (by omega), h3]
      rfl) (fun l => by
      simp only
      rw [decide_eq_false (by omega)]
      rfl)]
    rfl

theorem loop_inv {σ ρ τ ι : Type} {body : σ → Option (LS σ (ι ⊕ ρ))} (st : Nat → τ → σ) (Inv : Nat → τ → Prop) (N : Nat) (f : τ → ι) (hs : ∀ k t, k < N → Inv k t → ∃ u, Inv (k + 1) u ∧ body (st k t) = some (.cont (st (k + 1) u)))
    (he : ∀ t, Inv N t → body (st N t) = some (.done (.inl (f t)))) (t0 : τ) (s0 : σ) (h0 : st 0 t0 = s0) (hi0 : Inv 0 t0) : ∃ t', Inv N t' ∧ loopW body s0 = some (.inl (f t')) := by
  have main : ∀ m k t, k + m = N → Inv k t → ∃ t', Inv N t' ∧ loopW body (st k t) = some (.inl (f t')) := by
    intro m
    induction m with
    | zero =>
      intro k t hk hi
      have : k = N := by omega
      subst this
      exact ⟨t, hi, loopW_done (he t hi)⟩
    | succ m ih =>
      intro k t hk hi
      obtain ⟨u, hu, hb⟩ := hs k t (by omega) hi
      obtain ⟨t', h1, h2⟩ := ih (k + 1) u (by omega) hu
      exact ⟨t', h1, by rw [loopW_cont hb]; exact h2⟩
  rw [← h0]
  exact main N 0 t0 (by omega) hi0

theorem loop_inv2 {σ ρ τ ι : Type} {body : σ → Option (LS σ (ι ⊕ ρ))} (st : Nat → τ → σ) (Inv : Nat → τ → Prop) (G : ι → Prop) (N : Nat) (hs : ∀ k t, k ≤ N → Inv k t → (∃ u, k < N ∧ Inv (k + 1) u ∧ body (st k t) = some (.cont (st (k + 1) u))) ∨ ∃ r, G r ∧ body (st k t) = some (.done (.inl r)))
    (t0 : τ) (s0 : σ) (h0 : st 0 t0 = s0) (hi0 : Inv 0 t0) : ∃ r, G r ∧ loopW body s0 = some (.inl r) := by
  have main : ∀ m k t, k + m = N → Inv k t → ∃ r, G r ∧ loopW body (st k t) = some (.inl r) := by
    intro m
    induction m with
    | zero =>
      intro k t hk hi
      rcases hs k t (by omega) hi with ⟨u, h1, _⟩ | ⟨r, hr, hb⟩
      · omega
      · exact ⟨r, hr, loopW_done hb⟩
    | succ m ih =>
      intro k t hk hi
      rcases hs k t (by omega) hi with ⟨u, _, hu, hb⟩ | ⟨r, hr, hb⟩
      · obtain ⟨r, h1, h2⟩ := ih (k + 1) u (by omega) hu
        exact ⟨r, h1, by rw [loopW_cont hb]; exact h2⟩
      · exact ⟨r, hr, loopW_done hb⟩
  rw [← h0]
  exact main N 0 t0 (by omega) hi0

theorem jp_eq {β τ : Type} (K : β → Option τ) (B : (β → Option τ) → Option τ) : joinP K B = B K := rfl

theorem and255 (x : Int) : 0 ≤ and64 x 255 ∧ and64 x 255 ≤ 255 := by
  unfold and64
  have h : (BitVec.ofInt 64 x &&& BitVec.ofInt 64 255).toNat ≤ 255 := by
    rw [BitVec.toNat_and]
    have e : (BitVec.ofInt 64 255).toNat = 255 := by decide
    rw [e]
    exact Nat.and_le_right
  rw [w64_id (by omega)]
  omega

theorem idx_ex {α : Type} {l : List α} {i : Int} (h : 0 ≤ i) (h2 : i < l.length) : ∃ x, idx l i = some x := by
  unfold idx
  rw [if_pos h]
  exact ⟨_, List.getElem?_eq_getElem (by omega)⟩

theorem byte_ok (b : List U8) (i h : Int) (hl : b.length ≤ 1048576) (hi : 0 ≤ i ∧ i ≤ b.length) : ∃ v j k, spec_l01Byte b i h = some (v, j, k) ∧ (0 ≤ v ∧ v ≤ 255) ∧ 0 ≤ j ∧ j ≤ b.length := by
  unfold spec_l01Byte
  simp only [jp_eq]
  by_cases hc : i < (b.length : Int)
  · obtain ⟨x, hx⟩ := idx_ex hi.1 hc
    rw [decide_eq_true hc, hx]
    simp only [cond_true, Option.bind_some]
    exact ⟨_, _, _, rfl, and255 _, by rw [w64_id (by omega)]; omega, by rw [w64_id (by omega)]; omega⟩
  · rw [decide_eq_false hc]
    simp only [cond_false]
    exact ⟨_, _, _, rfl, and255 _, hi.1, hi.2⟩

theorem below_ok (b : List U8) (i h n : Int) (hl : b.length ≤ 1048576) (hi : 0 ≤ i ∧ i ≤ b.length) (hn : 1 ≤ n) : ∃ v j k, spec_l01Below b i h n = some (v, j, k) ∧ (0 ≤ v ∧ v < n) ∧ 0 ≤ j ∧ j ≤ b.length := by
  unfold spec_l01Below
  rw [decide_eq_false (by omega : ¬ n ≤ 0)]
  simp only [cond_false]
  by_cases hc : n ≤ 256
  · obtain ⟨v, j, k, e, hv, hj⟩ := byte_ok b i h hl hi
    rw [decide_eq_true hc, e]
    simp only [cond_true, Option.bind_some, nz_eq (by omega : n ≠ 0)]
    refine ⟨_, _, _, rfl, ?_, hj⟩
    rw [tmod_pos hv.1]
    exact ⟨Int.emod_nonneg _ (by omega), Int.emod_lt_of_pos _ (by omega)⟩
  · obtain ⟨v1, j1, k1, e1, hv1, hj1⟩ := byte_ok b i h hl hi
    obtain ⟨v2, j2, k2, e2, hv2, hj2⟩ := byte_ok b j1 k1 hl hj1
    obtain ⟨v3, j3, k3, e3, hv3, hj3⟩ := byte_ok b j2 k2 hl hj2
    obtain ⟨v4, j4, k4, e4, hv4, hj4⟩ := byte_ok b j3 k3 hl hj3
    rw [decide_eq_false hc]
    simp only [cond_false, e1, e2, e3, e4, Option.bind_some, nz_eq (by omega : n ≠ 0)]
    refine ⟨_, _, _, rfl, ?_, hj4⟩
    have z : 0 ≤ w64 ((w64 ((w64 ((w64 (v1 * 16777216)) + (w64 (v2 * 65536)))) + (w64 (v3 * 256)))) + v4) := by
      rw [w64_id (x := v1 * 16777216) (by omega), w64_id (x := v2 * 65536) (by omega), w64_id (x := v3 * 256) (by omega), w64_id (x := v1 * 16777216 + v2 * 65536) (by omega), w64_id (x := v1 * 16777216 + v2 * 65536 + v3 * 256) (by omega), w64_id (by omega)]
      omega
    rw [tmod_pos z]
    exact ⟨Int.emod_nonneg _ (by omega), Int.emod_lt_of_pos _ (by omega)⟩

theorem new_ok (b : List U8) (hl : b.length ≤ 1048576) : ∃ h, spec_l01New b = some (0, h) := by
  unfold spec_l01New
  obtain ⟨t, _, e⟩ := loop_inv (ρ := Int × Int) (body := fun (s21 : Int × Int) =>
    Option.bind (α := Bool)
      (cond (decide (s21.1 < (b.length : Int)))
        (some (decide (s21.1 < 4000)))
        (some false))
      fun p35 =>
    cond p35
      ((idx b s21.1).bind fun x44 =>
      some (.cont (w64 (s21.1 + 1), and64 (w64 ((w64 ((w64 (s21.2 * 131)) + (w64 x44.n))) + 7)) 1073741823)))
      (some (.done (.inl s21.2)))) (fun k (t : Int) => ((k : Int), t)) (fun _ _ => True) (min b.length 4000) (fun t => t) (fun k t hk _ => by
      obtain ⟨x, hx⟩ := idx_ex (l := b) (i := (k : Int)) (by omega) (by omega)
      refine ⟨and64 (w64 ((w64 ((w64 (t * 131)) + (w64 x.n))) + 7)) 1073741823, trivial, ?_⟩
      simp only
      rw [decide_eq_true (by omega : (k : Int) < (b.length : Int)), decide_eq_true (by omega : (k : Int) < 4000), hx, w64_nat (by omega)]
      rfl) (fun t _ => by
      simp only
      by_cases hc : b.length ≤ 4000
      · rw [decide_eq_false (by omega : ¬ ((min b.length 4000 : Nat) : Int) < (b.length : Int))]
        rfl
      · rw [decide_eq_true (by omega : ((min b.length 4000 : Nat) : Int) < (b.length : Int)), decide_eq_false (by omega : ¬ ((min b.length 4000 : Nat) : Int) < 4000)]
        rfl) (w64 (98011 + (b.length : Int))) (0, w64 (98011 + (b.length : Int))) rfl trivial
  rw [e]
  exact ⟨t, rfl⟩

theorem places_ok (b : List U8) (hl : b.length ≤ 1048576) : ∃ p, spec_DrawPlaces b = some p ∧ p.length = 12 ∧ ∀ x ∈ p, 0 ≤ x ∧ x ≤ 9999 := by
  unfold spec_DrawPlaces
  obtain ⟨h, e⟩ := new_ok b hl
  rw [e]
  simp only [Option.bind_some]
  obtain ⟨t, ⟨t1, t2, t3⟩, e2⟩ := loop_inv (ρ := List Int) (body := fun (s27 : Int × (List Int) × Int × Int) =>
    cond (decide (s27.1 < 12))
      ((spec_l01Below b s27.2.2.1 s27.2.2.2 10000).bind fun t43 =>
      (appC s27.2.1 ([t43.1] : List Int)).bind fun l50 =>
      some (.cont (w64 (s27.1 + 1), l50, t43.2.1, t43.2.2)))
      (some (.done (.inl s27.2.1)))) (fun k (t : List Int × Int × Int) => ((k : Int), t.1, t.2.1, t.2.2)) (fun k t => t.1.length = k ∧ (∀ x ∈ t.1, 0 ≤ x ∧ x ≤ 9999) ∧ 0 ≤ t.2.1 ∧ t.2.1 ≤ b.length) 12 (fun t => t.1) (fun k t hk hi => by
      obtain ⟨i1, i2, i3⟩ := hi
      obtain ⟨v, j, q, e3, hv, hj⟩ := below_ok b t.2.1 t.2.2 10000 hl i3 (by omega)
      refine ⟨(t.1 ++ [v], j, q), ⟨by simp [i1], fun x hx => ?_, hj⟩, ?_⟩
      · rw [List.mem_append] at hx
        rcases hx with hx | hx
        · exact i2 x hx
        · simp only [List.mem_singleton] at hx
          subst hx
          omega
      · simp only
        rw [decide_eq_true (by omega), e3]
        simp only [cond_true, Option.bind_some]
        rw [appC_ok _ _ (by simp [i1]; omega), w64_nat (by omega)]
        rfl) (fun t hi => rfl) ([], 0, h) (0, ([] : List Int), 0, h) rfl ⟨rfl, by simp, Int.le_refl _, Int.natCast_nonneg _⟩
  rw [e2]
  exact ⟨t.1, rfl, t1, t2⟩

theorem place_at {p : List Int} (hl : p.length = 12) (hb : ∀ x ∈ p, 0 ≤ x ∧ x ≤ 9999) {k : Nat} (hk : k < 12) : ∃ v, idx p (k : Int) = some v ∧ 0 ≤ v ∧ v ≤ 9999 := by
  obtain ⟨v, hv⟩ := idx_ex (l := p) (i := (k : Int)) (by omega) (by omega)
  refine ⟨v, hv, hb v ?_⟩
  rw [idx_nat] at hv
  exact List.mem_of_getElem? hv

theorem pensions_ok (b : List U8) (hl : b.length ≤ 1048576) : ∃ p, spec_DrawPensions b = some p ∧ p.length ≤ 8 ∧ ∀ x ∈ p, 0 ≤ x ∧ x ≤ 100000 := by
  unfold spec_DrawPensions
  obtain ⟨h, e⟩ := new_ok b hl
  rw [e]
  simp only [Option.bind_some]
  unfold spec_l31Pensions
  obtain ⟨r, ⟨g1, g2⟩, e2⟩ := loop_inv2 (ρ := (List Int) × Int × Int) (body := fun (s23 : Int × (List Int) × Int × Int) =>
    (spec_l01Below b s23.2.2.1 s23.2.2.2 9).bind fun t36 =>
    cond (decide (s23.1 < t36.1))
      ((spec_l01Below b t36.2.1 t36.2.2 4000).bind fun t43 =>
      (appC s23.2.1 ([w64 (t43.1 * 25)] : List Int)).bind fun l50 =>
      some (.cont (w64 (s23.1 + 1), l50, t43.2.1, t43.2.2)))
      (some (.done (.inl (s23.2.1, t36.2.1, t36.2.2))))) (fun k (t : List Int × Int × Int) => ((k : Int), t.1, t.2.1, t.2.2)) (fun k t => t.1.length = k ∧ (∀ x ∈ t.1, 0 ≤ x ∧ x ≤ 100000) ∧ 0 ≤ t.2.1 ∧ t.2.1 ≤ b.length)
    (fun (r : List Int × Int × Int) => r.1.length ≤ 8 ∧ ∀ x ∈ r.1, 0 ≤ x ∧ x ≤ 100000) 8 (fun k t hk hi => by
      obtain ⟨i1, i2, i3⟩ := hi
      obtain ⟨v, j, q, e3, hv, hj⟩ := below_ok b t.2.1 t.2.2 9 hl i3 (by omega)
      by_cases hc : (k : Int) < v
      · obtain ⟨v2, j2, q2, e4, hv2, hj2⟩ := below_ok b j q 4000 hl hj (by omega)
        refine .inl ⟨(t.1 ++ [w64 (v2 * 25)], j2, q2), by omega, ⟨by simp [i1], fun x hx => ?_, hj2⟩, ?_⟩
        · rw [List.mem_append] at hx
          rcases hx with hx | hx
          · exact i2 x hx
          · simp only [List.mem_singleton] at hx
            rw [hx, w64_id (by omega)]
            omega
        · simp only
          rw [e3]
          simp only [Option.bind_some]
          rw [decide_eq_true hc, e4]
          simp only [cond_true, Option.bind_some]
          rw [appC_ok _ _ (by simp [i1]; omega), w64_nat (by omega)]
          rfl
      · refine .inr ⟨(t.1, j, q), ⟨by simp only; omega, i2⟩, ?_⟩
        simp only
        rw [e3]
        simp only [Option.bind_some]
        rw [decide_eq_false hc]
        rfl) ([], 0, h) (0, ([] : List Int), 0, h) rfl ⟨rfl, by simp, Int.le_refl _, Int.natCast_nonneg _⟩
  rw [e2]
  exact ⟨r.1, rfl, g1, g2⟩

def adj (c i : Int) : Int := if c < 1000 then 0 else if 1100 ≤ c then i else i * (c - 1000) / 100

theorem raise1_eq {x r : Int} (hx : 0 ≤ x ∧ x ≤ 100000) (hr : 0 ≤ r ∧ r ≤ 99) : raise1 r x = x + x * r / 1000 ∧ 0 ≤ x * r ∧ x * r ≤ 9900000 := by
  have m1 : 0 ≤ x * r := Int.mul_nonneg hx.1 hr.1
  have m2 : x * r ≤ 100000 * 99 := Int.mul_le_mul hx.2 hr.2 hr.1 (by omega)
  unfold raise1
  generalize x * r = z at m1 m2
  rw [w64_id (x := z) (by omega), tdiv_pos m1, w64_id (x := z / 1000) (by omega), w64_id (by omega)]
  exact ⟨rfl, m1, by omega⟩

theorem drawn_w {q : List Int} (hl : q.length ≤ 8) (hb : ∀ x ∈ q, 0 ≤ x ∧ x ≤ 100000) : wOk q := ⟨by omega, fun k hk => by have := hb _ (gt_mem hk); omega⟩

theorem sameInts_refl2 (l : List Int) (h : l.length ≤ 1099511627776) : laws_sameInts l l = some true := by
  unfold laws_sameInts
  simp only [bne_self_eq_false, cond_false]
  refine loop_bind (r := .inl ()) (fun k => (k : Int)) l.length rfl (fun k hk => ?_) (by rw [decide_eq_false (by omega)]; rfl) rfl
  rw [decide_eq_true (by omega), idx_gt hk, w64_nat (by omega)]
  simp

theorem adjust_any {c i : Int} (hc : 0 ≤ c ∧ c ≤ 10000) (hi : 0 ≤ i ∧ i ≤ 199) : impl_AdjustRate c i = some (adj c i) := by
  unfold impl_AdjustRate adj
  simp only [within_eq, Option.bind_some, inB_true.2 (show 0 ≤ c ∧ c ≤ 10000 by omega), inB_true.2 (show 0 ≤ i ∧ i ≤ 1000 by omega), Bool.not_true, cond_false]
  by_cases h1 : c < 1000
  · rw [decide_eq_true h1, if_pos h1]; rfl
  · rw [decide_eq_false h1, if_neg h1]
    by_cases h2 : 1100 ≤ c
    · rw [if_pos h2, decide_eq_true (by omega : c ≥ 1100)]; rfl
    · rw [if_neg h2, decide_eq_false (by omega : ¬ c ≥ 1100)]
      have m0 := Int.mul_nonneg (a := i) (b := c - 1000) (by omega) (by omega)
      have m1 : i * (c - 1000) ≤ 199 * 100 := Int.mul_le_mul (by omega) (by omega) (by omega) (by omega)
      simp only [cond_false]
      rw [w64_id (x := c - 1000) (by omega), w64_id (x := i * (c - 1000)) (by omega), tdiv_pos m0, w64_id (by omega)]

theorem adj_double {c i : Int} (hc : 0 ≤ c ∧ c ≤ 1199) (hi : 0 ≤ i ∧ i ≤ 199) : adj c i ≤ adj (2 * c) i := by
  have key : adj c i ≤ i ∧ 0 ≤ adj c i := by
    unfold adj
    by_cases h1 : c < 1000
    · rw [if_pos h1]; omega
    · rw [if_neg h1]
      by_cases h2 : 1100 ≤ c
      · rw [if_pos h2]; omega
      · rw [if_neg h2]
        have m0 := Int.mul_nonneg (a := i) (b := c - 1000) (by omega) (by omega)
        have m1 : i * (c - 1000) ≤ i * 100 := Int.mul_le_mul_of_nonneg_left (by omega) (by omega)
        omega
  by_cases h1 : c < 1000
  · have e : adj c i = 0 := by unfold adj; rw [if_pos h1]
    rw [e]
    unfold adj
    by_cases h2 : 2 * c < 1000
    · rw [if_pos h2]; omega
    · rw [if_neg h2]
      by_cases h3 : 1100 ≤ 2 * c
      · rw [if_pos h3]; omega
      · rw [if_neg h3]
        have m0 := Int.mul_nonneg (a := i) (b := 2 * c - 1000) (by omega) (by omega)
        omega
  · have e : adj (2 * c) i = i := by unfold adj; rw [if_neg (by omega), if_pos (by omega)]
    rw [e]
    exact key.1

theorem raise_none {w : List Int} (hl : w.length ≤ 8) (hb : ∀ x ∈ w, 0 ≤ x ∧ x ≤ 100000) : impl_RaiseAll w 0 = some w := by
  rw [impl_RaiseAll_eq w 0 (by omega)]
  have hw := (wOk_iff w).1 (drawn_w hl hb)
  rw [Bool.and_eq_true, decide_eq_true_eq] at hw
  rw [hw.1, decide_eq_true hw.2, inB_true.2 (by omega : (0 : Int) ≤ 0 ∧ (0 : Int) ≤ 1000)]
  simp only [Bool.and_self, if_true]
  congr 1
  refine (List.map_congr_left (g := id) (fun x hx => ?_)).trans (List.map_id _)
  have := (raise1_eq (hb x hx) (r := 0) (by omega)).1
  rw [this]
  simp

theorem Indexed_law (x0 : List U8) (wx : Wf.wf x0) : laws_FnIndexed x0 = some true := by
  unfold laws_FnIndexed laws_big
  simp only [Option.bind_some]
  by_cases hb : (x0.length : Int) > 1048576
  · rw [decide_eq_true hb]; rfl
  rw [decide_eq_false hb]
  obtain ⟨w, ew, wl, wb⟩ := pensions_ok x0 (by omega)
  obtain ⟨p, e, hl, hp⟩ := places_ok x0 (by omega)
  obtain ⟨v0, e0, b0⟩ := place_at hl hp (k := 0) (by omega)
  obtain ⟨v1, e1, b1⟩ := place_at hl hp (k := 1) (by omega)
  have e0' : idx p 0 = some v0 := e0
  have e1' : idx p 1 = some v1 := e1
  simp only [cond_false, e, ew, e0', e1', Option.bind_some]
  rw [tmod_pos b0.1, tmod_pos b1.1]
  obtain ⟨c, hce⟩ : ∃ c, c = v0 % 1200 := ⟨_, rfl⟩
  obtain ⟨i, hie⟩ : ∃ i, i = v1 % 200 := ⟨_, rfl⟩
  rw [← hce, ← hie]
  have hc : 0 ≤ c ∧ c ≤ 1199 := by omega
  have hi : 0 ≤ i ∧ i ≤ 199 := by omega
  have h := drawn_w wl wb
  obtain ⟨q, c1, _, c3, c4⟩ := cut_ex h (k := 0) (by omega)
  have cq : cutL w q = w := by
    have z : ∀ j, j < w.length → gt q j = 0 := by
      intro j hj
      have s0 : sig (gt q) w.length = 0 := by rw [c4]; simp
      have m := sig_mono (f := gt q) (m := j + 1) (n := w.length) (fun k hk => (c3 k hk).1) (by omega)
      have m2 := sig_bound (f := gt q) (B := 1000000) (n := j) (fun k hk => by have := c3 k (by omega); have := h.2 k (by omega); omega)
      have := (c3 j hj).1
      simp only [sig] at m
      omega
    apply List.ext_getElem?
    intro j
    by_cases hj : j < w.length
    · rw [at_gt (by rw [cutL_len]; exact hj), cutL_at _ _ hj, at_gt hj, z j hj, Int.sub_zero]
    · rw [List.getElem?_eq_none (by rw [cutL_len]; omega), List.getElem?_eq_none (by omega)]
  have f1 : adj 1100 i = i := by unfold adj; rw [if_neg (by omega), if_pos (by omega)]
  have f2 : adj 999 i = 0 := by unfold adj; rw [if_pos (by omega)]
  rw [w64_id (x := 2 * c) (by omega), adjust_any (c := 2 * c) (by omega) hi, adjust_any (c := c) (by omega) hi, raise_none wl wb, c1, cq, adjust_any (c := 1100) (by omega) hi, adjust_any (c := 999) (by omega) hi, f1, f2]
  simp only [Option.bind_some, sameInts_refl2 w (by omega), cond_true, beq_self_eq_true, decide_eq_true (adj_double hc hi)]

end Go.Pen
