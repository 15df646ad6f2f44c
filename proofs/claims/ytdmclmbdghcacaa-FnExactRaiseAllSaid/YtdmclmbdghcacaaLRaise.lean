/-
  Raised pensions: the two texts compute the same; what is marked is held.
-/
import Derived.Test.YtdmclmbdghcacaaLInt
namespace Go.Pen
set_option linter.unusedVariables false

/-- Every number within the bounds. -/
def allIn (x : List Int) (a b : Int) : Bool := x.all (fun p => inB p a b)

theorem l31Ask_eq (x : List Int) (r : Int) (hx : x.length ≤ 1099511627776) : spec_l31Ask x r = some (allIn x 0 1000000 && (decide (x.length ≤ 40) && inB r 0 1000)) := by
  unfold spec_l31Ask
  rw [show loopW (ρ := Int ⊕ Bool) (fun (s21 : Int) =>
    cond (decide (s21 < (x.length : Int)))
      ((idx x s21).bind fun x47 =>
      (spec_l01In x47 0 1000000).bind fun t50 =>
      cond (!t50)
        (some (.done (.inr false)))
        (some (.cont (w64 (s21 + 1)))))
      (some (.done (.inl r)))) 0 = foldS (fun _ (_ : Unit) p => some (if inB p 0 1000000 then .inl () else .inr (.inr false))) (fun _ => some (.inl r)) 0 x () from
    loopW_list x (fun k (_ : Unit) => ((k : Nat) : Int)) _ _ (fun k t p hp => by
      have hk := (List.getElem?_eq_some_iff.1 hp).1
      simp only [idx_nat, hp, l01In_eq, Option.bind_some, w64_nat (by omega : k < 9223372036854775807), show ((k : Int) < (x.length : Int)) by omega, decide_true, cond_true]
      cases inB p 0 1000000 <;> rfl) (fun t => by simp) ()]
  have main : ∀ (l : List Int) (k : Nat), foldS (ρ := Int ⊕ Bool) (fun _ (_ : Unit) p => some (if inB p 0 1000000 then .inl () else .inr (.inr false))) (fun _ => some (.inl r)) k l () = some (if l.all (fun p => inB p 0 1000000) then .inl r else .inr false) := by
    intro l
    induction l with
    | nil => intro k; rfl
    | cons p l ih =>
      intro k
      simp only [foldS, List.all_cons]
      by_cases h : inB p 0 1000000 = true
      · simp [h, ih]
      · simp [h]
  rw [main]
  unfold allIn
  cases x.all (fun p => inB p 0 1000000) with
  | false => rfl
  | true =>
    simp only [if_true, Option.bind_some, brkE, l01In_eq, Bool.true_and]
    by_cases h : (x.length : Int) ≤ 40
    · have h' : x.length ≤ 40 := by omega
      simp [h, h']
    · have h' : ¬ x.length ≤ 40 := by omega
      simp [h, h']

theorem allWithin_eq (x : List Int) (a b : Int) (hx : x.length ≤ 1099511627776) : impl_allWithin x a b = some (allIn x a b) := by
  unfold impl_allWithin slices_ContainsFunc_int__impl_allWithin_1 slices_IndexFunc_int__impl_allWithin_1
  rw [show loopW (ρ := Unit ⊕ Int) (fun (s21 : Int) =>
    cond (decide (s21 < (x.length : Int)))
      ((idx x s21).bind fun x37 =>
      (impl_allWithin_1 x37 a b).bind fun t40 =>
      cond t40
        (some (.done (.inr s21)))
        (some (.cont (w64 (s21 + 1)))))
      (some (.done (.inl ())))) 0 = foldS (fun k (_ : Unit) p => some (if inB p a b then .inl () else .inr (.inr (k : Int)))) (fun _ => some (.inl ())) 0 x () from
    loopW_list x (fun k (_ : Unit) => ((k : Nat) : Int)) _ _ (fun k t p hp => by
      have hk := (List.getElem?_eq_some_iff.1 hp).1
      simp only [idx_nat, hp, impl_allWithin_1, within_eq, Option.bind_some, w64_nat (by omega : k < 9223372036854775807), show ((k : Int) < (x.length : Int)) by omega, decide_true, cond_true]
      cases inB p a b <;> rfl) (fun t => by simp) ()]
  have main : ∀ (l : List Int) (k : Nat), (l.all (fun p => inB p a b) = true ∧ foldS (ρ := Unit ⊕ Int) (fun k (_ : Unit) p => some (if inB p a b then .inl () else .inr (.inr (k : Int)))) (fun _ => some (.inl ())) k l () = some (.inl ())) ∨
      (l.all (fun p => inB p a b) = false ∧ ∃ j : Nat, foldS (ρ := Unit ⊕ Int) (fun k (_ : Unit) p => some (if inB p a b then .inl () else .inr (.inr (k : Int)))) (fun _ => some (.inl ())) k l () = some (.inr (j : Int))) := by
    intro l
    induction l with
    | nil => intro k; exact .inl ⟨rfl, rfl⟩
    | cons p l ih =>
      intro k
      simp only [foldS, List.all_cons]
      by_cases h : inB p a b = true
      · simpa [h] using ih (k + 1)
      · exact .inr ⟨by simp [h], k, by simp [h]⟩
  unfold allIn
  rcases main x 0 with ⟨h1, h2⟩ | ⟨h1, j, h2⟩
  · rw [h1, h2]; rfl
  · rw [h1, h2]
    simp [brkE]

/-- A pension raised. -/
def raise1 (r p : Int) : Int := w64 (p + (w64 (Int.tdiv (w64 (p * r)) 1000)))

theorem appC_ok {α : Type} (l1 l2 : List α) (h : l1.length + l2.length ≤ 1099511627776) : appC l1 l2 = some (l1 ++ l2) := by unfold appC; rw [if_pos h]

theorem raise_loop {ρ : Type} (x : List Int) (r : Int) (hx : x.length ≤ 1000000) {body : Int × List Int → Option (LS (Int × List Int) (List Int ⊕ ρ))}
    (hs : ∀ (k : Nat) (l : List Int) (p : Int), x[k]? = some p → body ((k : Int), l) = (appC l [raise1 r p]).bind fun l' => some (.cont (((k + 1 : Nat) : Int), l'))) (he : ∀ l, body ((x.length : Int), l) = some (.done (.inl l))) :
    loopW body (0, []) = some (.inl (x.map (raise1 r))) := by
  have h1 := loopW_count (body := body) (fun k => ((k : Int), (x.take k).map (raise1 r))) x.length (fun k hk => by
    have hp : x[k]? = some x[k] := List.getElem?_eq_getElem hk
    rw [hs k _ x[k] hp, appC_ok _ _ (by simp; omega), Option.bind_some]
    rw [List.take_add_one, hp, Option.toList_some, List.map_append]
    rfl)
  simp only [List.take_zero, List.map_nil, List.take_length] at h1
  have e0 : ((0 : Nat) : Int) = 0 := rfl
  rw [e0] at h1
  rw [h1, loopW_done (he _)]

theorem impl_RaiseAll_eq (x : List Int) (r : Int) (hx : x.length ≤ 1099511627776) : impl_RaiseAll x r = some (if allIn x 0 1000000 && (decide (x.length ≤ 40) && inB r 0 1000) then x.map (raise1 r) else []) := by
  unfold impl_RaiseAll impl_arePensions
  simp only [allWithin_eq x _ _ hx, within_eq, Option.bind_some]
  by_cases h : x.length ≤ 40
  · have h' : (x.length : Int) ≤ 40 := by omega
    rw [decide_eq_true h', decide_eq_true h]
    simp only [cond_true, Option.bind_some]
    cases allIn x 0 1000000 with
    | false => rfl
    | true =>
      cases inB r 0 1000 with
      | false => rfl
      | true =>
        simp only [Bool.not_true, cond_false, Option.bind_some, Bool.and_true, if_true]
        rw [raise_loop x r (by omega)]
        · rfl
        · intro k l p hp
          have hk := (List.getElem?_eq_some_iff.1 hp).1
          simp only [idx_nat, hp, Option.bind_some, w64_nat (by omega : k < 9223372036854775807), show ((k : Int) < (x.length : Int)) by omega, decide_true, cond_true]
          rfl
        · intro l; simp
  · have h' : ¬ (x.length : Int) ≤ 40 := by omega
    rw [decide_eq_false h', decide_eq_false h]
    simp

theorem spec_RaiseAll_eq (x : List Int) (r : Int) (hx : x.length ≤ 1099511627776) : spec_RaiseAll x r = some (if allIn x 0 1000000 && (decide (x.length ≤ 40) && inB r 0 1000) then x.map (raise1 r) else []) := by
  unfold spec_RaiseAll
  simp only [l31Ask_eq x r hx, Option.bind_some]
  cases hc : (allIn x 0 1000000 && (decide (x.length ≤ 40) && inB r 0 1000)) with
  | true =>
    simp only [Bool.and_eq_true, decide_eq_true_eq] at hc
    rw [raise_loop x r (by omega)]
    · rfl
    · intro k l p hp
      have hk := (List.getElem?_eq_some_iff.1 hp).1
      simp only [idx_nat, hp, Option.bind_some, w64_nat (by omega : k < 9223372036854775807), show ((k : Int) < (x.length : Int)) by omega, decide_true, cond_true]
      rfl
    · intro l; simp
  | false =>
    rw [loopW_done (r := .inl [])]
    · rfl
    · cases decide ((0 : Int) < (x.length : Int)) <;> rfl

/-- What a list of n numbers marked from k on holds. -/
def marks (k : Int) (n : Nat) : List Int := (List.range n).map (fun (j : Nat) => k + (j : Int))

theorem markIntS_eq (x : List Int) (k : Int) (hk : 0 ≤ k ∧ k ≤ 1000000000) (hx : x.length ≤ 1000000000) : laws_markIntS x k = some (k + x.length, marks k x.length) := by
  unfold laws_markIntS
  have h1 := loopW_count (ρ := ((List Int) × Int) ⊕ (Int × (List Int))) (body := fun (s21 : Int × (List Int) × Int) =>
    cond (decide (s21.1 < (s21.2.1.length : Int)))
      ((idx s21.2.1 s21.1).bind fun x37 =>
      (some (List.set s21.2.1 (Int.toNat s21.1) s21.2.2)).bind fun l40 =>
      some (.cont (w64 (s21.1 + 1), l40, w64 (s21.2.2 + 1))))
      (some (.done (.inl (s21.2.1, s21.2.2))))) (fun j => ((j : Int), marks k j ++ x.drop j, k + (j : Int))) x.length (fun j hj => by
    have hlen : (marks k j ++ x.drop j).length = x.length := by simp [marks]; omega
    have hget : (marks k j ++ x.drop j)[j]? = some x[j] := by
      rw [List.getElem?_append_right (by simp [marks])]
      simp [marks, hj]
    simp only [hlen, idx_nat, hget, Option.bind_some, w64_nat (by omega : j < 9223372036854775807), show ((j : Int) < (x.length : Int)) by omega, decide_true, cond_true, Int.toNat_natCast]
    have e1 : w64 (k + (j : Int) + 1) = k + ((j + 1 : Nat) : Int) := by rw [w64_id (by omega)]; omega
    have e2 : (marks k j ++ x.drop j).set j (k + (j : Int)) = marks k (j + 1) ++ x.drop (j + 1) := by
      rw [List.set_append_right _ _ (by simp [marks])]
      have : (marks k j).length = j := by simp [marks]
      rw [this, Nat.sub_self, List.drop_eq_getElem_cons hj, List.set_cons_zero]
      simp [marks, List.range_succ]
    rw [e1, e2])
  have e0 : ((0 : Nat) : Int) = 0 := rfl
  simp only [e0, marks, List.range_zero, List.map_nil, List.nil_append, List.drop_zero, Int.add_zero, List.drop_length, List.append_nil] at h1
  rw [h1, loopW_done (r := .inl (marks k x.length, k + (x.length : Int)))]
  · rfl
  · simp [marks]

theorem heldIntS_eq (k : Int) (n : Nat) (hk : 0 ≤ k ∧ k ≤ 1000000000) (hn : n ≤ 1000000000) : laws_heldIntS (marks k n) k = some (k + n) := by
  unfold laws_heldIntS
  have hlen : (marks k n).length = n := by simp [marks]
  have h1 := loopW_count (ρ := Int ⊕ Int) (body := fun (s21 : Int × Int) =>
    cond (decide (s21.1 < ((marks k n).length : Int)))
      ((idx (marks k n) s21.1).bind fun x37 =>
      cond (x37 != s21.2)
        (some (.done (.inr (-1))))
        (some (.cont (w64 (s21.1 + 1), w64 (s21.2 + 1)))))
      (some (.done (.inl s21.2)))) (fun j => ((j : Int), k + (j : Int))) n (fun j hj => by
    have hget : (marks k n)[j]? = some (k + (j : Int)) := by simp [marks, hj]
    simp only [hlen, idx_nat, hget, Option.bind_some, w64_nat (by omega : j < 9223372036854775807), show ((j : Int) < (n : Int)) by omega, decide_true, cond_true, bne_self_eq_false, cond_false]
    have e1 : w64 (k + (j : Int) + 1) = k + ((j + 1 : Nat) : Int) := by rw [w64_id (by omega)]; omega
    rw [e1])
  have e0 : ((0 : Nat) : Int) = 0 := rfl
  simp only [e0, Int.add_zero] at h1
  rw [h1, loopW_done (r := .inl (k + (n : Int)))]
  · rfl
  · simp [hlen]

theorem RaiseAll_law (x : List Int) (r : Int) (wx : Wf.wf x) (_ : i64ok r) : laws_FnExactRaiseAll x r = some true := by
  unfold laws_FnExactRaiseAll
  by_cases h1 : (x.length : Int) > 1048576
  · simp [h1]
  · have hx : x.length ≤ 1099511627776 := by omega
    have hx9 : x.length ≤ 1000000000 := by omega
    rw [decide_eq_false h1]
    simp only [cond_false, toIntS_eq x hx, Option.bind_some, spec_RaiseAll_eq x r hx, impl_RaiseAll_eq x r hx]
    generalize hg : (if allIn x 0 1000000 && (decide (x.length ≤ 40) && inB r 0 1000) then x.map (raise1 r) else []) = g
    have hgl : g.length ≤ 1048576 := by
      subst hg
      split
      · simp only [List.length_map]; omega
      · simp
    have q1 := eqIntS_refl g (by omega)
    have q2 := eqIntS_refl x hx
    have q3 := markIntS_eq x 1 (by omega) hx9
    have q4 := markIntS_eq g 1 (by omega) (by omega)
    have q5 := heldIntS_eq 1 g.length (by omega) (by omega)
    have s1 : sameLen (marks 1 x.length) x = some () := by unfold sameLen; rw [if_pos (by simp [marks])]
    have s2 : sameLen (marks 1 g.length) g = some () := by unfold sameLen; rw [if_pos (by simp [marks])]
    have n1 : ¬ (1 + (x.length : Int) < 0) := by omega
    have n2 : ¬ (1 + (g.length : Int) < 0) := by omega
    simp only [q1, q2, q3, q4, q5, s1, s2, Option.bind_some, Bool.not_true, cond_false, decide_eq_false n1, decide_eq_false n2, bne_self_eq_false]

end Go.Pen
