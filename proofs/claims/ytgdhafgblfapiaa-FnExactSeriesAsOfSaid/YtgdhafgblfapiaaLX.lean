import Derived.Test.YtgdhafgblfapiaaF
import Derived.Test.YtgdhafgblfapiaaPenU
import Derived.Test.YtgdhafgblfapiaaPenV
namespace Go.Pen
set_option linter.unusedVariables false
set_option linter.unusedSimpArgs false

theorem joinP_eq {β τ : Type} (K : β → Option τ) (B : (β → Option τ) → Option τ) : joinP K B = B K := rfl

instance : Inhabited Point := ⟨⟨0, 0, 0⟩⟩

def gt {α : Type} [Inhabited α] (l : List α) (k : Nat) : α := (l[k]?).getD default

theorem gt_of {α : Type} [Inhabited α] {l : List α} {k : Nat} {x : α} (h : l[k]? = some x) : gt l k = x := by unfold gt; rw [h]; rfl

theorem at_gt {α : Type} [Inhabited α] {l : List α} {k : Nat} (h : k < l.length) : l[k]? = some (gt l k) := by unfold gt; rw [List.getElem?_eq_getElem h]; rfl

theorem idx_gt {α : Type} [Inhabited α] {l : List α} {k : Nat} (h : k < l.length) : idx l (k : Int) = some (gt l k) := (idx_nat l k).trans (at_gt h)

def allN (N : Nat) (p : Nat → Bool) : Bool := (List.range N).all p

theorem allN_true {N : Nat} {p : Nat → Bool} : allN N p = true ↔ ∀ k, k < N → p k = true := by simp [allN]

theorem allN_false {N : Nat} {p : Nat → Bool} (h : allN N p = false) : ∃ k, k < N ∧ p k = false ∧ ∀ j, j < k → p j = true := by
  induction N with
  | zero => simp [allN] at h
  | succ N ih =>
    cases h1 : allN N p with
    | false => obtain ⟨k, a, b, c⟩ := ih h1; exact ⟨k, by omega, b, c⟩
    | true =>
      refine ⟨N, by omega, ?_, allN_true.1 h1⟩
      cases h2 : p N with
      | false => rfl
      | true =>
        have : allN (N + 1) p = true := allN_true.2 fun k hk => by
          by_cases e : k = N
          · subst e; exact h2
          · exact allN_true.1 h1 k (by omega)
        rw [this] at h; cases h

theorem scan_up {ι ρ : Type} (N : Nat) (p : Nat → Bool) (v : Nat → ρ) (u : ι) {body : Int → Option (LS Int (ι ⊕ ρ))} (hs : ∀ k, k < N → body (k : Int) = some (if p k = true then .cont ((k + 1 : Nat) : Int) else .done (.inr (v k)))) (he : body (N : Int) = some (.done (.inl u))) :
    (allN N p = true ∧ loopW body 0 = some (.inl u)) ∨ (allN N p = false ∧ ∃ k, k < N ∧ p k = false ∧ (∀ j, j < k → p j = true) ∧ loopW body 0 = some (.inr (v k))) := by
  have e0 : ((0 : Nat) : Int) = 0 := rfl
  cases h : allN N p with
  | true =>
    refine .inl ⟨rfl, ?_⟩
    have h1 := loopW_count (body := body) (fun k => ((k : Nat) : Int)) N (fun k hk => by rw [hs k hk, if_pos (allN_true.1 h k hk)])
    rw [e0] at h1
    rw [h1, loopW_done he]
  | false =>
    obtain ⟨k, hk, hp, hj⟩ := allN_false h
    refine .inr ⟨rfl, k, hk, hp, hj, ?_⟩
    have h1 := loopW_count (body := body) (fun k => ((k : Nat) : Int)) k (fun j hjk => by rw [hs j (by omega), if_pos (hj j hjk)])
    rw [e0] at h1
    rw [h1, loopW_done (by rw [hs k hk, hp]; rfl)]

theorem take_gt {α : Type} [Inhabited α] {l : List α} {k : Nat} (h : k < l.length) : l.take k ++ [gt l k] = l.take (k + 1) := by
  rw [List.take_add_one, at_gt h]
  rfl

theorem loop_all {σ ρ : Type} {body : σ → Option (LS σ ρ)} {s0 : σ} {r : ρ} (I : Nat → σ) (N : Nat) (h0 : I 0 = s0) (hs : ∀ k, k < N → body (I k) = some (.cont (I (k + 1)))) (he : body (I N) = some (.done r)) : loopW body s0 = some r := by
  rw [← h0, loopW_count I N hs, loopW_done he]

theorem loop_bind {σ ρ τ : Type} {body : σ → Option (LS σ ρ)} {s0 : σ} {r : ρ} {K : ρ → Option τ} {v : Option τ} (I : Nat → σ) (N : Nat) (h0 : I 0 = s0) (hs : ∀ k, k < N → body (I k) = some (.cont (I (k + 1)))) (he : body (I N) = some (.done r)) (hk : K r = v) : (loopW body s0).bind K = v := by
  rw [loop_all I N h0 hs he]; exact hk

theorem laws_toPointS_eq (x0 : List Point) (h : x0.length ≤ 1048576) : laws_toPointS x0 = some x0 := by
  unfold laws_toPointS
  rw [mkL_len x0 (Point.mk 0 0 0 : Point) (by omega)]
  simp only [Option.bind_some]
  rw [copy_loop x0 (Point.mk 0 0 0 : Point) (by omega)]
  · rfl
  · intro k x l hx hk
    have hk0 := (List.getElem?_eq_some_iff.1 hx).1
    simp only [idx_nat, hx, laws_toPoint, List.getElem?_eq_getElem hk, Option.bind_some, w64_nat (by omega : k < 9223372036854775807), show ((k : Int) < (x0.length : Int)) by omega, decide_true, cond_true, Int.toNat_natCast]
  · intro l
    simp

theorem laws_eqPointS_refl (x0 : List Point) (h : x0.length ≤ 1048576) : laws_eqPointS x0 x0 = some true := by
  unfold laws_eqPointS
  simp only [bne_self_eq_false, cond_false]
  rw [eq_loop x0]
  · rfl
  · intro k x hx
    have hk0 := (List.getElem?_eq_some_iff.1 hx).1
    simp [idx_nat, hx, laws_eqPoint, w64_nat (by omega : k < 9223372036854775807), hk0]
  · simp

theorem laws_szPointS_cn (x0 : List Point) (left : Int) (hl : 0 ≤ left ∧ left ≤ 1048576) (w : Wf.wf x0) : ∃ v, laws_szPointS x0 left = some v ∧ (v < 0 ∨ (0 ≤ v ∧ v + x0.length = left)) := by
  have h1 : x0.length ≤ 9223372036854775807 := w.1
  unfold laws_szPointS
  rw [w64_id (by omega : -9223372036854775808 ≤ left - (x0.length : Int) ∧ left - (x0.length : Int) ≤ 9223372036854775807)]
  by_cases h : left - (x0.length : Int) < 0
  · exact ⟨-1, by simp [h], .inl (by omega)⟩
  · exact ⟨_, by rw [decide_eq_false h]; rfl, .inr (by omega)⟩

def mkPoint (m : Int) (x : Point) : Point := Point.mk (m) (m + 1) (m + 2)

theorem stepsPoint (m : Int) (h : 0 ≤ m ∧ m ≤ 36028797018963968) : w64 (m + 1) = m + 1 ∧ w64 (m + 1 + 1) = m + 2 ∧ w64 (m + 2 + 1) = m + 3 := by
  refine ⟨?_, ?_, ?_⟩ <;> rw [w64_id (by omega)] <;> omega

theorem laws_markPointS_eq (x0 : List Point) (k0 : Int) (hk0 : 0 ≤ k0 ∧ k0 ≤ 18014398509481984) (h : x0.length ≤ 1048576) : laws_markPointS x0 k0 = some (k0 + wdL (fun _ => 3) x0, marksL mkPoint (fun _ => 3) k0 x0) := by
  have hw : wdL (fun _ => 3) x0 = 3 * x0.length := wdL_const 3 x0
  unfold laws_markPointS
  rw [mark_loop mkPoint (fun _ => 3) x0 k0 hk0.1 36028797018963968 (by omega)]
  · rfl
  · intro k x l m hx hlen hmem hm hB
    have hk1 := (List.getElem?_eq_some_iff.1 hx).1
    obtain ⟨g1, g2, g3⟩ := stepsPoint m ⟨hm, by omega⟩
    have q1 := fun y : Point => List.getElem?_set_self (a := y) hk1
    simp [idx_nat, hx, hk1, mkPoint, g1, g2, g3, w64_nat (by omega : k < 9223372036854775807)]
  · intro l m hlen
    simp [hlen]

theorem laws_heldPointS_eq (x0 : List Point) (k0 : Int) (hk0 : 0 ≤ k0 ∧ k0 ≤ 18014398509481984) (h : x0.length ≤ 1048576) : laws_heldPointS (marksL mkPoint (fun _ => 3) k0 x0) k0 = some (k0 + wdL (fun _ => 3) x0) := by
  have hw : wdL (fun _ => 3) x0 = 3 * x0.length := wdL_const 3 x0
  unfold laws_heldPointS
  rw [held_loop mkPoint (fun _ => 3) x0 k0 hk0.1 36028797018963968 (by omega)]
  · rfl
  · intro k x m hk hx hmem hm hB
    obtain ⟨g1, g2, g3⟩ := stepsPoint m ⟨hm, by omega⟩
    have hi := (idx_nat (marksL mkPoint (fun _ => 3) k0 x0) k).trans hx
    rw [hi]
    simp [marksL_length, hk, mkPoint, g1, g2, g3, w64_nat (by omega : k < 9223372036854775807)]
  · intro m
    simp [marksL_length]

def smSeries (x : Series) : Prop := x.Points.length ≤ 1048576

def cnSeries (x : Series) : Nat := x.Points.length

theorem smSeries_of (x : Series) (h : cnSeries x ≤ 1048576) : smSeries x := by
  unfold cnSeries at h
  exact by unfold smSeries; omega

theorem laws_toSeries_eq (x : Series) (h : smSeries x) : laws_toSeries x = some x := by
  have h0 := h
  unfold smSeries at h0
  unfold laws_toSeries
  simp only [laws_toPointS_eq x.Points h0, Option.bind_some]

theorem laws_eqSeries_refl (x : Series) (h : smSeries x) : laws_eqSeries x x = some true := by
  have h0 := h
  unfold smSeries at h0
  unfold laws_eqSeries
  simp [laws_eqPointS_refl x.Points h0]

theorem laws_szSeries_cn (x : Series) (left : Int) (hl : 0 ≤ left ∧ left ≤ 1048576) (w : Wf.wf x) : ∃ v, laws_szSeries x left = some v ∧ (v < 0 ∨ (0 ≤ v ∧ v + cnSeries x = left)) := by
  unfold laws_szSeries
  obtain ⟨v0, e0, c0⟩ := laws_szPointS_cn x.Points left hl w
  rw [e0]
  simp only [Option.bind_some]
  rcases c0 with c0 | c0
  · exact ⟨-1, by simp [c0], .inl (by omega)⟩
  rw [decide_eq_false (by omega : ¬ v0 < 0)]
  simp only [cond_false]
  exact ⟨_, rfl, .inr ⟨by omega, by unfold cnSeries; omega⟩⟩

theorem laws_szSeries_ex (x : Series) (left : Int) (hl : 0 ≤ left ∧ left ≤ 1048576) (w : Wf.wf x) : ∃ v, laws_szSeries x left = some v ∧ (v < 0 ∨ (smSeries x ∧ 0 ≤ v ∧ v ≤ 1048576)) := by
  obtain ⟨v, e, c⟩ := laws_szSeries_cn x left hl w
  exact ⟨v, e, c.imp_right fun h => ⟨smSeries_of x (by omega), by omega⟩⟩

theorem laws_markSeries_ex (x : Series) (k : Int) (hk : 0 ≤ k ∧ k ≤ 8972014882652160) (h : smSeries x) : ∃ k1 l0, laws_markSeries x k = some (k1, l0) ∧ l0.length = x.Points.length ∧ (k ≤ k1 ∧ k1 ≤ k + 1073741824) ∧ ∀ y : Series, y.Points = l0 → laws_heldSeries y k = some k1 := by
  have h0 := h
  unfold smSeries at h0
  unfold laws_markSeries laws_heldSeries
  have w0 : wdL (fun _ => 3) x.Points = 3 * x.Points.length := wdL_const 3 x.Points
  have m0 := laws_markPointS_eq x.Points (k) ⟨by omega, by omega⟩ h0
  have d0 := laws_heldPointS_eq x.Points (k) ⟨by omega, by omega⟩ h0
  have s0 : sameLen (marksL mkPoint (fun _ => 3) (k) x.Points) x.Points = some () := by unfold sameLen; rw [if_pos (marksL_length _ _ _ _)]
  have p0 : ¬ (k + (wdL (fun _ => 3) x.Points : Int) < 0) := by omega
  refine ⟨k + (wdL (fun _ => 3) x.Points : Int), marksL mkPoint (fun _ => 3) (k) x.Points, ?_, marksL_length _ _ _ _, ⟨by omega, by omega⟩, ?_⟩
  · simp only [m0, s0, Option.bind_some]
  · intro y q0
    simp [q0, d0, p0]

theorem filter_take {α : Type} [Inhabited α] (x0 : List α) (keep : α → Bool) {k : Nat} (hk : k < x0.length) : (x0.take (k + 1)).filter keep = (x0.take k).filter keep ++ (if keep (gt x0 k) then [gt x0 k] else []) := by
  rw [← take_gt hk, List.filter_append]
  congr 1
  cases h : keep (gt x0 k) <;> simp [h]

theorem set_take {α : Type} {l : List α} {i : Nat} (h : i < l.length) (x : α) : (l.set i x).take (i + 1) = l.take i ++ [x] := by
  induction l generalizing i with
  | nil => simp at h
  | cons y l ih =>
    cases i with
    | zero => simp
    | succ i => simp only [List.length_cons] at h; simp [ih (by omega : i < l.length)]

def delN {α : Type} [Inhabited α] (keep : α → Bool) (x0 : List α) (t : Nat) : Nat → Nat × List α
  | 0 => (t, x0)
  | k + 1 => if keep (gt x0 (t + 1 + k)) then ((delN keep x0 t k).1 + 1, (delN keep x0 t k).2.set (delN keep x0 t k).1 (gt x0 (t + 1 + k))) else delN keep x0 t k

theorem delN_inv {α : Type} [Inhabited α] {keep : α → Bool} {x0 : List α} {t : Nat} (ht : t < x0.length) (hall : ∀ k, k < t → keep (gt x0 k) = true) (hnot : keep (gt x0 t) = false) :
    ∀ k, t + 1 + k ≤ x0.length → (delN keep x0 t k).1 ≤ t + k ∧ (delN keep x0 t k).2.length = x0.length ∧ (∀ q, t + k < q → (delN keep x0 t k).2[q]? = x0[q]?) ∧ (delN keep x0 t k).2.take (delN keep x0 t k).1 = (x0.take (t + 1 + k)).filter keep := by
  intro k
  induction k with
  | zero =>
    intro _
    refine ⟨Nat.le_refl _, rfl, fun q _ => rfl, ?_⟩
    show x0.take t = (x0.take (t + 1 + 0)).filter keep
    rw [Nat.add_zero, filter_take x0 keep ht, hnot]
    simp only [Bool.false_eq_true, if_false, List.append_nil]
    refine (List.filter_eq_self.2 fun x hx => ?_).symm
    obtain ⟨q, hq⟩ := List.mem_iff_getElem?.1 hx
    rw [List.getElem?_take] at hq
    split at hq
    · rename_i hqt
      have := hall q hqt
      rwa [gt_of hq] at this
    · cases hq
  | succ k ih =>
    intro hk
    obtain ⟨a1, a2, a3, a4⟩ := ih (by omega)
    unfold delN
    have hf := filter_take x0 keep (k := t + 1 + k) (by omega)
    have e1 : t + 1 + (k + 1) = t + 1 + k + 1 := by omega
    cases hq : keep (gt x0 (t + 1 + k)) with
    | true =>
      rw [hq] at hf
      simp only [if_true] at hf ⊢
      refine ⟨by omega, by rw [List.length_set]; exact a2, fun q hq2 => ?_, ?_⟩
      · rw [List.getElem?_set_ne (by omega)]
        exact a3 q (by omega)
      · rw [set_take (by omega), a4, e1, hf]
    | false =>
      rw [hq] at hf
      simp only [Bool.false_eq_true, if_false, List.append_nil] at hf ⊢
      exact ⟨by omega, a2, fun q hq2 => a3 q (by omega), by rw [a4, e1, hf]⟩

theorem delete_eq {α : Type} [Inhabited α] (x0 : List α) (z : α) (del : α → Option Bool) (keep : α → Bool) (hd : ∀ x, del x = some (!keep x)) (hn : x0.length ≤ 1099511627776) :
    (((loopW (ρ := (Unit) ⊕ (Int)) (fun (s21 : Int) =>
      cond (decide (s21 < (x0.length : Int)))
        ((idx x0 s21).bind fun x37 =>
        (del x37).bind fun t40 =>
        cond t40
          (some (.done (.inr s21)))
          (some (.cont (w64 (s21 + 1)))))
        (some (.done (.inl ()))))
      0).bind fun r24 => brkE r24 (fun (j31 : Unit) =>
      some (-1))
      (some)).bind fun t21 =>
    cond (t21 == (-1))
      (some x0)
      ((loopW (ρ := (Int × (List α)) ⊕ ((List α))) (fun (s28 : Int × Int × (List α)) =>
        cond (decide (s28.1 < (s28.2.2.length : Int)))
          ((idx s28.2.2 s28.1).bind fun x51 =>
          (del x51).bind fun t54 =>
          joinP (fun (j66 : Int × (List α)) =>
            some (.cont (w64 (s28.1 + 1), j66.1, j66.2)))
            (fun k68 =>
            cond (!t54)
              ((idx s28.2.2 s28.2.1).bind fun x75 =>
              (some (List.set s28.2.2 (Int.toNat s28.2.1) x51)).bind fun l78 =>
              k68 (w64 (s28.2.1 + 1), l78))
              (k68 (s28.2.1, s28.2.2))))
          (some (.done (.inl (s28.2.1, s28.2.2)))))
        (w64 (t21 + 1), t21, x0)).bind fun r31 => brkE r31 (fun (j38 : Int × (List α)) =>
        (zeroTail j38.2 j38.1 z).bind fun l40 =>
        (headL l40 j38.1).bind fun l44 =>
        some l44)
        (some)) : Option (List α)) = some (x0.filter keep) := by
  rcases scan_up (ρ := Int) x0.length (fun k => keep (gt x0 k)) (fun k => (k : Int)) () (body := fun (s21 : Int) =>
      cond (decide (s21 < (x0.length : Int)))
        ((idx x0 s21).bind fun x37 =>
        (del x37).bind fun t40 =>
        cond t40
          (some (.done (.inr s21)))
          (some (.cont (w64 (s21 + 1)))))
        (some (.done (.inl ())))) (fun k hk => by
      rw [decide_eq_true (by omega), idx_gt hk]
      simp only [cond_true, Option.bind_some, hd, w64_nat (by omega : k < 9223372036854775807)]
      cases keep (gt x0 k) <;> rfl) (by rw [decide_eq_false (by omega)]; rfl) with ⟨h1, h2⟩ | ⟨h1, t, ht, hall, hnot, h2⟩
  · rw [h2]
    have hf : x0.filter keep = x0 := List.filter_eq_self.2 fun x hx => by
      obtain ⟨q, hq⟩ := List.mem_iff_getElem?.1 hx
      have := allN_true.1 h1 q (List.getElem?_eq_some_iff.1 hq).1
      rwa [gt_of hq] at this
    rw [hf]
    rfl
  · rw [h2]
    have inv := fun k (hk : t + 1 + k ≤ x0.length) => delN_inv (keep := keep) (x0 := x0) ht hnot hall k hk
    simp only [Option.bind_some, brkE]
    have e0 : ((t : Int) == -1) = false := beq_eq_false_iff_ne.2 (by omega)
    rw [e0]
    simp only [cond_false]
    obtain ⟨b1, b2, b3, b4⟩ := inv (x0.length - (t + 1)) (by omega)
    refine loop_bind (r := .inl (((delN keep x0 t (x0.length - (t + 1))).1 : Int), (delN keep x0 t (x0.length - (t + 1))).2)) (fun k => (((t + 1 + k : Nat) : Int), ((delN keep x0 t k).1 : Int), (delN keep x0 t k).2)) (x0.length - (t + 1)) (by
      show (((t + 1 : Nat) : Int), (t : Int), x0) = _
      rw [w64_nat (by omega)]) (fun k hk => ?_) ?_ ?_
    · obtain ⟨a1, a2, a3, a4⟩ := inv k (by omega)
      have eg : idx (delN keep x0 t k).2 ((t + 1 + k : Nat) : Int) = some (gt x0 (t + 1 + k)) := by
        rw [idx_nat, a3 _ (by omega), at_gt (by omega)]
      simp only
      rw [a2, decide_eq_true (by omega), eg]
      simp only [cond_true, Option.bind_some, hd, joinP_eq, Bool.not_not]
      rw [w64_nat (by omega : t + 1 + k < 9223372036854775807)]
      have e2 : delN keep x0 t (k + 1) = if keep (gt x0 (t + 1 + k)) then ((delN keep x0 t k).1 + 1, (delN keep x0 t k).2.set (delN keep x0 t k).1 (gt x0 (t + 1 + k))) else delN keep x0 t k := rfl
      rw [e2, show t + 1 + k + 1 = t + 1 + (k + 1) by omega]
      cases keep (gt x0 (t + 1 + k)) with
      | false => rfl
      | true =>
        rw [idx_gt (by rw [a2]; omega : (delN keep x0 t k).1 < (delN keep x0 t k).2.length)]
        simp only [cond_true, Option.bind_some, if_true, Int.toNat_natCast]
        rw [w64_nat (by omega)]
    · simp only
      rw [b2, decide_eq_false (by omega)]
      rfl
    · show (zeroTail (delN keep x0 t (x0.length - (t + 1))).2 ((delN keep x0 t (x0.length - (t + 1))).1 : Int) z).bind _ = _
      unfold zeroTail
      rw [if_pos (by omega)]
      simp only [Option.bind_some]
      unfold headL
      rw [if_pos (by simp; omega)]
      simp only [Option.bind_some, Int.toNat_natCast]
      rw [List.take_append_of_le_length (by simp; omega), List.take_take, Nat.min_self, b4, show t + 1 + (x0.length - (t + 1)) = x0.length by omega, List.take_length]

theorem keep_loop {α σ : Type} [Inhabited α] (x0 : List α) (keep : α → Bool) (hn : x0.length ≤ 1000000000) :
    loopW (ρ := ((List α)) ⊕ (σ)) (fun (s21 : Int × (List α)) =>
      cond (decide (s21.1 < (x0.length : Int)))
        ((idx x0 s21.1).bind fun x37 =>
        joinP (fun (j50 : (List α)) =>
          some (.cont (w64 (s21.1 + 1), j50)))
          (fun k52 =>
          cond (keep x37)
            ((idx x0 s21.1).bind fun x59 =>
            (appC s21.2 ([x59] : List α)).bind fun l64 =>
            k52 l64)
            (k52 s21.2)))
        (some (.done (.inl s21.2))))
      (0, ([] : List α)) = some (.inl (x0.filter keep)) := by
  refine loop_all (fun k => ((k : Int), (x0.take k).filter keep)) x0.length rfl (fun k hk => ?_) ?_
  · have hl : ((x0.take k).filter keep).length ≤ k := Nat.le_trans (List.length_filter_le _ _) (by simp; omega)
    simp only
    rw [decide_eq_true (by omega), idx_gt hk]
    simp only [cond_true, Option.bind_some, joinP_eq]
    rw [appC_ok _ _ (by simp only [List.length_cons, List.length_nil]; omega), w64_nat (by omega), filter_take x0 keep hk]
    cases keep (gt x0 k) with
    | true => rfl
    | false => simp
  · simp only
    rw [decide_eq_false (by omega), List.take_length]
    rfl

def seriesAsOf (s : Series) (known : Int) : Series := Series.mk (s.Points.filter fun p => decide (p.Known ≤ known))

theorem not_le_gt (a b : Int) : decide (a > b) = !decide (a ≤ b) := by
  by_cases h : a ≤ b
  · rw [decide_eq_true h, decide_eq_false (by omega)]; rfl
  · rw [decide_eq_false h, decide_eq_true (by omega)]; rfl

theorem impl_SeriesAsOf_eq (s : Series) (known : Int) (h : s.Points.length ≤ 1000000000) : impl_SeriesAsOf s known = some (seriesAsOf s known) := by
  unfold impl_SeriesAsOf slices_Clone_Point
  rw [appC_ok _ _ (by simp; omega)]
  simp only [Option.bind_some, List.nil_append]
  unfold slices_DeleteFunc_Point__impl_SeriesAsOf_1 slices_IndexFunc_Point__impl_SeriesAsOf_1
  have e := delete_eq s.Points (Point.mk 0 0 0) (fun x => impl_SeriesAsOf_1 x known) (fun p => decide (p.Known ≤ known)) (fun x => by unfold impl_SeriesAsOf_1; rw [not_le_gt]) (by omega)
  rw [e]
  rfl

theorem spec_SeriesAsOf_eq (s : Series) (known : Int) (h : s.Points.length ≤ 1000000000) : spec_SeriesAsOf s known = some (seriesAsOf s known) := by
  unfold spec_SeriesAsOf
  rw [keep_loop (σ := Series) s.Points (fun p => decide (p.Known ≤ known)) h]
  rfl

theorem SeriesAsOf_law (s : Series) (known : Int) (ws : Wf.wf s) (_ : Wf.wf known) : laws_FnExactSeriesAsOf s known = some true := by
  unfold laws_FnExactSeriesAsOf
  obtain ⟨v, e0, c0⟩ := laws_szSeries_ex s 1048576 (by omega) ws
  rw [e0]
  simp only [Option.bind_some]
  rcases c0 with c0 | ⟨h, c1⟩
  · simp [c0]
  rw [decide_eq_false (by omega : ¬ v < 0)]
  have h0 : s.Points.length ≤ 1048576 := h
  have r1 := impl_SeriesAsOf_eq s known (by omega)
  have r2 := spec_SeriesAsOf_eq s known (by omega)
  have hg : smSeries (seriesAsOf s known) := Nat.le_trans (List.length_filter_le _ _) h0
  generalize seriesAsOf s known = g at r1 r2 hg
  obtain ⟨k1, l1, m1, n1, b1, d1⟩ := laws_markSeries_ex s 1 (by omega) h
  obtain ⟨k2, u1, m2, p1, b2, d2⟩ := laws_markSeries_ex g 1 (by omega) hg
  have q1 : ¬ (k1 < 0) := by omega
  have q2 : ¬ (k2 < 0) := by omega
  have q4 := d2 (Series.mk u1) rfl
  have sl : ∀ {α : Type} {a b : List α}, a.length = b.length → sameLen a b = some () := fun h => by unfold sameLen; rw [if_pos h]
  simp [laws_toSeries_eq s h, r1, r2, laws_eqSeries_refl g hg, laws_eqSeries_refl s h, m1, sl n1, m2, sl p1, q1, q2, q4]

end Go.Pen
