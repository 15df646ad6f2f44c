import Derived.Test.YtgdhafgblfapiaaF
import Derived.Test.YtgdhafgblfapiaaPenU
import Derived.Test.YtgdhafgblfapiaaPenV
namespace Go.Pen
set_option linter.unusedVariables false
set_option linter.unusedSimpArgs false

theorem joinP_eq {β τ : Type} (K : β → Option τ) (B : (β → Option τ) → Option τ) : joinP K B = B K := rfl

def gt {α : Type} [Inhabited α] (l : List α) (k : Nat) : α := (l[k]?).getD default

theorem at_gt {α : Type} [Inhabited α] {l : List α} {k : Nat} (h : k < l.length) : l[k]? = some (gt l k) := by unfold gt; rw [List.getElem?_eq_getElem h]; rfl

theorem idx_gt {α : Type} [Inhabited α] {l : List α} {k : Nat} (h : k < l.length) : idx l (k : Int) = some (gt l k) := (idx_nat l k).trans (at_gt h)

theorem laws_eqIntS_refl (x0 : List Int) (h : x0.length ≤ 1048576) : laws_eqIntS x0 x0 = some true := by
  unfold laws_eqIntS
  simp only [bne_self_eq_false, cond_false]
  rw [eq_loop x0]
  · rfl
  · intro k x hx
    have hk0 := (List.getElem?_eq_some_iff.1 hx).1
    simp [idx_nat, hx, w64_nat (by omega : k < 9223372036854775807), hk0]
  · simp

def mkInt (m : Int) (x : Int) : Int := m

theorem stepsInt (m : Int) (h : 0 ≤ m ∧ m ≤ 36028797018963968) : w64 (m + 1) = m + 1 := by
  rw [w64_id (by omega)]

theorem laws_markIntS_eq (x0 : List Int) (k0 : Int) (hk0 : 0 ≤ k0 ∧ k0 ≤ 18014398509481984) (h : x0.length ≤ 1048576) : laws_markIntS x0 k0 = some (k0 + wdL (fun _ => 1) x0, marksL mkInt (fun _ => 1) k0 x0) := by
  have hw : wdL (fun _ => 1) x0 = 1 * x0.length := wdL_const 1 x0
  unfold laws_markIntS
  rw [mark_loop mkInt (fun _ => 1) x0 k0 hk0.1 36028797018963968 (by omega)]
  · rfl
  · intro k x l m hx hlen hmem hm hB
    have hk1 := (List.getElem?_eq_some_iff.1 hx).1
    obtain g1 := stepsInt m ⟨hm, by omega⟩
    have q1 := fun y : Int => List.getElem?_set_self (a := y) hk1
    simp [idx_nat, hx, hk1, mkInt, g1, w64_nat (by omega : k < 9223372036854775807)]
  · intro l m hlen
    simp [hlen]

theorem laws_heldIntS_eq (x0 : List Int) (k0 : Int) (hk0 : 0 ≤ k0 ∧ k0 ≤ 18014398509481984) (h : x0.length ≤ 1048576) : laws_heldIntS (marksL mkInt (fun _ => 1) k0 x0) k0 = some (k0 + wdL (fun _ => 1) x0) := by
  have hw : wdL (fun _ => 1) x0 = 1 * x0.length := wdL_const 1 x0
  unfold laws_heldIntS
  rw [held_loop mkInt (fun _ => 1) x0 k0 hk0.1 36028797018963968 (by omega)]
  · rfl
  · intro k x m hk hx hmem hm hB
    obtain g1 := stepsInt m ⟨hm, by omega⟩
    have hi := (idx_nat (marksL mkInt (fun _ => 1) k0 x0) k).trans hx
    rw [hi]
    simp [marksL_length, hk, mkInt, g1, w64_nat (by omega : k < 9223372036854775807)]
  · intro m
    simp [marksL_length]

instance : Inhabited ByteArray := ⟨ByteArray.mk #[]⟩

theorem loop_all {σ ρ : Type} {body : σ → Option (LS σ ρ)} {s0 : σ} {r : ρ} (I : Nat → σ) (N : Nat) (h0 : I 0 = s0) (hs : ∀ k, k < N → body (I k) = some (.cont (I (k + 1)))) (he : body (I N) = some (.done r)) : loopW body s0 = some r := by
  rw [← h0, loopW_count I N hs, loopW_done he]

theorem szStringS_ex (x0 : List ByteArray) (left : Int) (hl : 0 ≤ left ∧ left ≤ 1048576) (w : Wf.wf x0) : ∃ v, laws_szStringS x0 left = some v ∧ (v < 0 ∨ (x0.length ≤ 1048576 ∧ 0 ≤ v ∧ v ≤ 1048576)) := by
  have h1 : x0.length ≤ 9223372036854775807 := w.1
  unfold laws_szStringS
  rw [w64_id (by omega : -9223372036854775808 ≤ left - (x0.length : Int) ∧ left - (x0.length : Int) ≤ 9223372036854775807)]
  by_cases h : left - (x0.length : Int) < 0
  · exact ⟨-1, by simp [h], .inl (by omega)⟩
  rw [decide_eq_false h]
  simp only [cond_false]
  rcases size_loop (ρ := Int) (fun x : ByteArray => x.size) x0 (left - (x0.length : Int)) (by omega) (fun s24 =>
    cond (decide (s24.1 < (x0.length : Int)))
      ((idx x0 s24.1).bind fun x40 =>
      cond (decide ((w64 (s24.2 - (x40.size : Int))) < 0))
        (some (.done (.inr (-1))))
        (some (.cont (w64 (s24.1 + 1), w64 (s24.2 - (x40.size : Int))))))
      (some (.done (.inl s24.2)))) (-1) (fun k x v hx hv => by
      have hk0 := (List.getElem?_eq_some_iff.1 hx).1
      have hm : x.size ≤ maxLen := w.2 x (List.mem_of_getElem? hx)
      have hm2 : x.size ≤ 9223372036854775807 := Nat.le_trans hm (by decide)
      simp only [idx_nat, hx, Option.bind_some, show ((k : Int) < (x0.length : Int)) by omega, decide_true, cond_true]
      rw [w64_id (by omega : -9223372036854775808 ≤ v - (x.size : Int) ∧ v - (x.size : Int) ≤ 9223372036854775807), w64_nat (by omega)]
      by_cases hc : v - (x.size : Int) < 0
      · exact .inl (by rw [decide_eq_true hc]; rfl)
      · exact .inr ⟨v - (x.size : Int), ⟨by omega, by omega⟩, by rw [decide_eq_false hc]; rfl⟩)
    (fun v => by simp) with h2 | ⟨v, h2, h3, h4⟩
  · exact ⟨-1, by rw [h2]; rfl, .inl (by omega)⟩
  · exact ⟨v, by rw [h2]; rfl, .inr ⟨by omega, h3, by omega⟩⟩

theorem toStringS_eq (x0 : List ByteArray) (h : x0.length ≤ 1048576) : laws_toStringS x0 = some x0 := by
  unfold laws_toStringS
  rw [mkL_len x0 (ByteArray.mk #[]) (by omega)]
  simp only [Option.bind_some]
  rw [copy_loop x0 (ByteArray.mk #[]) (by omega)]
  · rfl
  · intro k x l hx hk
    have hk0 := (List.getElem?_eq_some_iff.1 hx).1
    simp only [idx_nat, hx, List.getElem?_eq_getElem hk, Option.bind_some, w64_nat (by omega : k < 9223372036854775807), show ((k : Int) < (x0.length : Int)) by omega, decide_true, cond_true, Int.toNat_natCast]
  · intro l
    simp

theorem eqStringS_refl (x0 : List ByteArray) (h : x0.length ≤ 1048576) : laws_eqStringS x0 x0 = some true := by
  unfold laws_eqStringS
  simp only [bne_self_eq_false, cond_false]
  rw [eq_loop x0]
  · rfl
  · intro k x hx
    have hk0 := (List.getElem?_eq_some_iff.1 hx).1
    simp [idx_nat, hx, w64_nat (by omega : k < 9223372036854775807), hk0]
  · simp

theorem loop_bind {σ ρ τ : Type} {body : σ → Option (LS σ ρ)} {s0 : σ} {r : ρ} {K : ρ → Option τ} {v : Option τ} (I : Nat → σ) (N : Nat) (h0 : I 0 = s0) (hs : ∀ k, k < N → body (I k) = some (.cont (I (k + 1)))) (he : body (I N) = some (.done r)) (hk : K r = v) : (loopW body s0).bind K = v := by
  rw [loop_all I N h0 hs he]
  exact hk

theorem bytesS_one (b : U8) : (bytesS [b]).size = 1 := rfl

theorem size_app (a b : ByteArray) : (a ++ b).size = a.size + b.size := ByteArray.size_append

theorem text_loop : ∀ (n : Nat) (k : Int) (s : ByteArray), 0 ≤ k → k < 10 ^ n → k ≤ 9223372036854775807 → n ≤ 100 → s.size + n ≤ 1000 → ∃ s', loopW (ρ := (ByteArray) ⊕ (ByteArray)) (fun (s24 : ByteArray × Int) =>
      cond (decide (s24.2 > 0))
        ((addS (bytesS ([U8.mk (w8 (w64 (48 + (Int.tmod s24.2 10))))] : List U8)) s24.1).bind fun s45 =>
        some (.cont (s45, w64 (Int.tdiv s24.2 10))))
        (some (.done (.inl s24.1)))) (s, k) = some (.inl s') ∧ s'.size ≤ 1000 := by
  intro n
  induction n with
  | zero =>
    intro k s h0 hk hb hn hs
    have : ¬ k > 0 := by rw [Int.pow_zero] at hk; omega
    exact ⟨s, loopW_done (by simp only; rw [decide_eq_false this]; rfl), by omega⟩
  | succ m ih =>
    intro k s h0 hk hb hn hs
    by_cases hp : k > 0
    · have hd : Int.tdiv k 10 = k / 10 := Int.tdiv_eq_ediv_of_nonneg h0
      have hlt : k / 10 < 10 ^ m := by
        rw [Int.pow_succ] at hk
        omega
      generalize hbb : bytesS ([U8.mk (w8 (w64 (48 + (Int.tmod k 10))))] : List U8) = b
      have hbs : b.size = 1 := by rw [← hbb]; exact bytesS_one _
      have hsz : (b ++ s).size = 1 + s.size := by rw [size_app, hbs]
      obtain ⟨s', e, c⟩ := ih (k / 10) (b ++ s) (by omega) hlt (by omega) (by omega) (by omega)
      refine ⟨s', ?_, c⟩
      rw [← e]
      refine loopW_cont ?_
      simp only
      rw [decide_eq_true hp, hbb, hd, w64_id (by omega)]
      simp only [cond_true]
      unfold addS
      rw [if_pos (by omega)]
      rfl
    · exact ⟨s, loopW_done (by simp only; rw [decide_eq_false hp]; rfl), by omega⟩

theorem markText_ex (k : Int) (hk : k ≤ 9223372036854775807) : ∃ s, laws_markText k = some s := by
  unfold laws_markText
  by_cases h : k ≤ 0
  · rw [decide_eq_true h]; exact ⟨_, rfl⟩
  · rw [decide_eq_false h]
    have h19 : k < 10 ^ 19 := by omega
    obtain ⟨s', e, c⟩ := text_loop 19 k (ByteArray.mk #[]) (by omega) h19 hk (by omega) (by decide)
    simp only [cond_false]
    rw [e]
    simp only [Option.bind_some, brkE]
    unfold addS
    have hz : (ByteArray.mk #[109]).size = 1 := rfl
    rw [if_pos (by rw [hz]; omega)]
    exact ⟨_, rfl⟩

theorem markStringS_ex (x0 : List ByteArray) (k0 : Int) (hk0 : 0 ≤ k0 ∧ k0 ≤ 18014398509481984) (h : x0.length ≤ 1048576) : ∃ l, laws_markStringS x0 k0 = some (k0 + x0.length, l) ∧ l.length = x0.length := by
  have key : ∀ (m : Nat) (k : Nat) (l : List ByteArray), k + m = x0.length → l.length = x0.length → ∃ l', loopW (ρ := ((List ByteArray) × Int) ⊕ (Int × (List ByteArray))) (fun (s21 : Int × (List ByteArray) × Int) =>
      cond (decide (s21.1 < (s21.2.1.length : Int)))
        ((laws_markText s21.2.2).bind fun t37 =>
        (idx s21.2.1 s21.1).bind fun x41 =>
        (some (List.set s21.2.1 (Int.toNat s21.1) t37)).bind fun l44 =>
        some (.cont (w64 (s21.1 + 1), l44, w64 (s21.2.2 + 1))))
        (some (.done (.inl (s21.2.1, s21.2.2))))) ((k : Int), l, k0 + k) = some (.inl (l', k0 + x0.length)) ∧ l'.length = x0.length := by
    intro m
    induction m with
    | zero =>
      intro k l hk hl
      have : k = x0.length := by omega
      subst this
      exact ⟨l, loopW_done (by simp only; rw [hl, decide_eq_false (by omega)]; rfl), hl⟩
    | succ m ih =>
      intro k l hk hl
      obtain ⟨s, hs⟩ := markText_ex (k0 + k) (by omega)
      obtain ⟨l', e, c⟩ := ih (k + 1) (l.set k s) (by omega) (by rw [List.length_set]; exact hl)
      refine ⟨l', ?_, c⟩
      rw [← e]
      refine loopW_cont ?_
      simp only
      rw [hl, decide_eq_true (by omega), hs, idx_gt (by omega : k < l.length)]
      simp only [cond_true, Option.bind_some, Int.toNat_natCast]
      rw [w64_nat (by omega), w64_id (by omega), show k0 + (k : Int) + 1 = k0 + ((k + 1 : Nat) : Int) by omega]
  obtain ⟨l', e, c⟩ := key x0.length 0 x0 (by omega) rfl
  refine ⟨l', ?_, c⟩
  unfold laws_markStringS
  have e' := e
  rw [show k0 + ((0 : Nat) : Int) = k0 by omega] at e'
  have e2 : ((0 : Nat) : Int) = 0 := rfl
  rw [e2] at e'
  rw [e']
  rfl

def diffAt (x y : List ByteArray) (k : Nat) : Bool := cond (decide (x.length ≤ k)) true (cond (decide (y.length ≤ k)) true (!((gt x k).toList == (gt y k).toList)))

def diffN (x y : List ByteArray) : Nat → List Int
  | 0 => []
  | k + 1 => cond (diffAt x y k) (diffN x y k ++ [(k : Int)]) (diffN x y k)

theorem diffN_len (x y : List ByteArray) : ∀ k, (diffN x y k).length ≤ k
  | 0 => Nat.le_refl _
  | k + 1 => by
    have := diffN_len x y k
    unfold diffN
    cases diffAt x y k <;> simp <;> omega

def diffF (x y : List ByteArray) : List Int := diffN x y (max x.length y.length)

theorem diff_test (x y : List ByteArray) (k : Nat) : (cond (decide ((k : Int) ≥ (x.length : Int))) (some true) (cond (decide ((k : Int) ≥ (y.length : Int))) (some true) ((idx x (k : Int)).bind fun x54 => (idx y (k : Int)).bind fun x57 => some (!(x54.toList == x57.toList)))) : Option Bool) = some (diffAt x y k) := by
  unfold diffAt
  by_cases h1 : x.length ≤ k
  · rw [decide_eq_true (by omega : (k : Int) ≥ (x.length : Int)), decide_eq_true h1]; rfl
  · rw [decide_eq_false (by omega : ¬ (k : Int) ≥ (x.length : Int)), decide_eq_false h1]
    by_cases h2 : y.length ≤ k
    · rw [decide_eq_true (by omega : (k : Int) ≥ (y.length : Int)), decide_eq_true h2]; rfl
    · rw [decide_eq_false (by omega : ¬ (k : Int) ≥ (y.length : Int)), decide_eq_false h2, idx_gt (by omega), idx_gt (by omega)]
      rfl

theorem impl_DiffLines_eq (x y : List ByteArray) (h1 : x.length ≤ 1000000000) (h2 : y.length ≤ 1000000000) : impl_DiffLines x y = some (diffF x y) := by
  unfold impl_DiffLines diffF
  refine loop_bind (r := .inl (diffN x y (max x.length y.length))) (fun k => ((k : Int), diffN x y k)) (max x.length y.length) rfl (fun k hk => ?_) ?_ rfl
  · have hw := diffN_len x y k
    have hi : (k : Int) < imax (x.length : Int) (y.length : Int) := by unfold imax; split <;> omega
    simp only
    rw [decide_eq_true hi, diff_test]
    simp only [cond_true, Option.bind_some, joinP_eq]
    rw [appC_ok _ _ (by simp; omega), w64_nat (by omega)]
    show _ = some (LS.cont (((k + 1 : Nat) : Int), cond (diffAt x y k) (diffN x y k ++ [(k : Int)]) (diffN x y k)))
    cases diffAt x y k <;> rfl
  · have hi : ¬ ((max x.length y.length : Nat) : Int) < imax (x.length : Int) (y.length : Int) := by unfold imax; split <;> omega
    simp only
    rw [decide_eq_false hi]
    rfl

theorem spec_DiffLines_eq (x y : List ByteArray) (h1 : x.length ≤ 1000000000) (h2 : y.length ≤ 1000000000) : spec_DiffLines x y = some (diffF x y) := by
  unfold spec_DiffLines diffF
  have ht : ∀ k : Nat, (cond (decide ((k : Int) < (x.length : Int))) (some true) (some (decide ((k : Int) < (y.length : Int)))) : Option Bool) = some (decide (k < max x.length y.length)) := fun k => by
    by_cases a : k < x.length
    · rw [decide_eq_true (by omega : (k : Int) < (x.length : Int)), decide_eq_true (by omega : k < max x.length y.length)]; rfl
    · rw [decide_eq_false (by omega : ¬ (k : Int) < (x.length : Int)), cond_false]
      congr 1
      exact decide_eq_decide.2 (by omega)
  refine loop_bind (r := .inl (diffN x y (max x.length y.length))) (fun k => ((k : Int), diffN x y k)) (max x.length y.length) rfl (fun k hk => ?_) ?_ rfl
  · have hw := diffN_len x y k
    simp only
    rw [ht k, decide_eq_true hk]
    simp only [Option.bind_some, cond_true]
    rw [diff_test]
    simp only [cond_true, Option.bind_some, joinP_eq]
    rw [appC_ok _ _ (by simp; omega), w64_nat (by omega)]
    show _ = some (LS.cont (((k + 1 : Nat) : Int), cond (diffAt x y k) (diffN x y k ++ [(k : Int)]) (diffN x y k)))
    cases diffAt x y k <;> rfl
  · simp only
    rw [ht, decide_eq_false (by omega)]
    rfl

theorem DiffLines_law (x y : List ByteArray) (wx : Wf.wf x) (wy : Wf.wf y) : laws_FnExactDiffLines x y = some true := by
  unfold laws_FnExactDiffLines
  obtain ⟨v, e0, c0⟩ := szStringS_ex x 1048576 (by omega) wx
  rw [e0]
  simp only [Option.bind_some]
  rcases c0 with c0 | ⟨h, c1⟩
  · simp [c0]
  rw [decide_eq_false (by omega : ¬ v < 0)]
  obtain ⟨v2, e2, c2⟩ := szStringS_ex y v c1 wy
  rw [e2]
  simp only [Option.bind_some, cond_false]
  rcases c2 with c2 | ⟨h2, c3⟩
  · simp [c2]
  rw [decide_eq_false (by omega : ¬ v2 < 0)]
  have r1 := impl_DiffLines_eq x y (by omega) (by omega)
  have r2 := spec_DiffLines_eq x y (by omega) (by omega)
  have hr : (diffF x y).length ≤ 1048576 := by
    have := diffN_len x y (max x.length y.length)
    unfold diffF
    omega
  generalize diffF x y = g at r1 r2 hr
  obtain ⟨l1, m1, n1⟩ := markStringS_ex x 1 (by omega) h
  obtain ⟨l2, m2, n2⟩ := markStringS_ex y (1 + x.length) (by omega) h2
  have mI := laws_markIntS_eq g 1 (by omega) hr
  have hI := laws_heldIntS_eq g 1 (by omega) hr
  have q1 : ¬ ((1 : Int) + x.length + y.length < 0) := by omega
  have q3 : ¬ (1 + (wdL (fun _ => 1) g : Int) < 0) := by omega
  have sl : ∀ {α : Type} {a b : List α}, a.length = b.length → sameLen a b = some () := fun h => by unfold sameLen; rw [if_pos h]
  simp [toStringS_eq x h, toStringS_eq y h2, r1, r2, laws_eqIntS_refl g hr, eqStringS_refl x h, eqStringS_refl y h2, m1, sl n1, m2, sl n2, sl (marksL_length _ _ _ _), mI, hI, q1, q3]

end Go.Pen
