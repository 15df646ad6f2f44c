import Derived.Test.YtgdhafgblfapiaaF
import Derived.Test.YtgdhafgblfapiaaPenU
import Derived.Test.YtgdhafgblfapiaaPenV
namespace Go.Pen
set_option linter.unusedVariables false
set_option linter.unusedSimpArgs false

theorem within_eq (x a b : Int) : impl_within x a b = some (inB x a b) := by
  unfold impl_within inB
  by_cases h : a ≤ x <;> by_cases h2 : x ≤ b <;> simp [h, h2]

theorem loop_inv {σ ρ τ ι : Type} {body : σ → Option (LS σ (ι ⊕ ρ))} (st : Nat → τ → σ) (Inv : Nat → τ → Prop) (N : Nat) (f : τ → ι) (hs : ∀ k t, k < N → Inv k t → ∃ u, Inv (k + 1) u ∧ body (st k t) = some (.cont (st (k + 1) u)))
    (he : ∀ t, Inv N t → body (st N t) = some (.done (.inl (f t)))) (t0 : τ) (s0 : σ) (h0 : st 0 t0 = s0) (hi0 : Inv 0 t0) : ∃ t', Inv N t' ∧ loopW body s0 = some (.inl (f t')) := by
  have main : ∀ m k t, k + m = N → Inv k t → ∃ t', Inv N t' ∧ loopW body (st k t) = some (.inl (f t')) := by
    intro m
    induction m with
    | zero =>
      intro k t hk hi
      have : k = N := by omega
      subst this
      exact ⟨t, hi, loopW_done (he t hi)⟩
    | succ m ih =>
      intro k t hk hi
      obtain ⟨u, hu, hb⟩ := hs k t (by omega) hi
      obtain ⟨t', h1, h2⟩ := ih (k + 1) u (by omega) hu
      exact ⟨t', h1, by rw [loopW_cont hb]; exact h2⟩
  rw [← h0]
  exact main N 0 t0 (by omega) hi0

theorem jp_eq {β τ : Type} (K : β → Option τ) (B : (β → Option τ) → Option τ) : joinP K B = B K := rfl

theorem and255 (x : Int) : 0 ≤ and64 x 255 ∧ and64 x 255 ≤ 255 := by
  unfold and64
  have h : (BitVec.ofInt 64 x &&& BitVec.ofInt 64 255).toNat ≤ 255 := by
    rw [BitVec.toNat_and]
    have e : (BitVec.ofInt 64 255).toNat = 255 := by decide
    rw [e]
    exact Nat.and_le_right
  rw [w64_id (by omega)]
  omega

theorem idx_ex {α : Type} {l : List α} {i : Int} (h : 0 ≤ i) (h2 : i < l.length) : ∃ x, idx l i = some x := by
  unfold idx
  rw [if_pos h]
  exact ⟨_, List.getElem?_eq_getElem (by omega)⟩

theorem byte_ok (b : List U8) (i h : Int) (hl : b.length ≤ 1048576) (hi : 0 ≤ i ∧ i ≤ b.length) : ∃ v j k, spec_l01Byte b i h = some (v, j, k) ∧ (0 ≤ v ∧ v ≤ 255) ∧ 0 ≤ j ∧ j ≤ b.length := by
  unfold spec_l01Byte
  simp only [jp_eq]
  by_cases hc : i < (b.length : Int)
  · obtain ⟨x, hx⟩ := idx_ex hi.1 hc
    rw [decide_eq_true hc, hx]
    simp only [cond_true, Option.bind_some]
    exact ⟨_, _, _, rfl, and255 _, by rw [w64_id (by omega)]; omega, by rw [w64_id (by omega)]; omega⟩
  · rw [decide_eq_false hc]
    simp only [cond_false]
    exact ⟨_, _, _, rfl, and255 _, hi.1, hi.2⟩

theorem below_ok (b : List U8) (i h n : Int) (hl : b.length ≤ 1048576) (hi : 0 ≤ i ∧ i ≤ b.length) (hn : 1 ≤ n) : ∃ v j k, spec_l01Below b i h n = some (v, j, k) ∧ (0 ≤ v ∧ v < n) ∧ 0 ≤ j ∧ j ≤ b.length := by
  unfold spec_l01Below
  rw [decide_eq_false (by omega : ¬ n ≤ 0)]
  simp only [cond_false]
  by_cases hc : n ≤ 256
  · obtain ⟨v, j, k, e, hv, hj⟩ := byte_ok b i h hl hi
    rw [decide_eq_true hc, e]
    simp only [cond_true, Option.bind_some, nz_eq (by omega : n ≠ 0)]
    refine ⟨_, _, _, rfl, ?_, hj⟩
    rw [tmod_pos hv.1]
    exact ⟨Int.emod_nonneg _ (by omega), Int.emod_lt_of_pos _ (by omega)⟩
  · obtain ⟨v1, j1, k1, e1, hv1, hj1⟩ := byte_ok b i h hl hi
    obtain ⟨v2, j2, k2, e2, hv2, hj2⟩ := byte_ok b j1 k1 hl hj1
    obtain ⟨v3, j3, k3, e3, hv3, hj3⟩ := byte_ok b j2 k2 hl hj2
    obtain ⟨v4, j4, k4, e4, hv4, hj4⟩ := byte_ok b j3 k3 hl hj3
    rw [decide_eq_false hc]
    simp only [cond_false, e1, e2, e3, e4, Option.bind_some, nz_eq (by omega : n ≠ 0)]
    refine ⟨_, _, _, rfl, ?_, hj4⟩
    have z : 0 ≤ w64 ((w64 ((w64 ((w64 (v1 * 16777216)) + (w64 (v2 * 65536)))) + (w64 (v3 * 256)))) + v4) := by
      rw [w64_id (x := v1 * 16777216) (by omega), w64_id (x := v2 * 65536) (by omega), w64_id (x := v3 * 256) (by omega), w64_id (x := v1 * 16777216 + v2 * 65536) (by omega), w64_id (x := v1 * 16777216 + v2 * 65536 + v3 * 256) (by omega), w64_id (by omega)]
      omega
    rw [tmod_pos z]
    exact ⟨Int.emod_nonneg _ (by omega), Int.emod_lt_of_pos _ (by omega)⟩

theorem new_ok (b : List U8) (hl : b.length ≤ 1048576) : ∃ h, spec_l01New b = some (0, h) := by
  unfold spec_l01New
  obtain ⟨t, _, e⟩ := loop_inv (ρ := Int × Int) (body := fun (s21 : Int × Int) =>
    Option.bind (α := Bool)
      (cond (decide (s21.1 < (b.length : Int)))
        (some (decide (s21.1 < 4000)))
        (some false))
      fun p35 =>
    cond p35
      ((idx b s21.1).bind fun x44 =>
      some (.cont (w64 (s21.1 + 1), and64 (w64 ((w64 ((w64 (s21.2 * 131)) + (w64 x44.n))) + 7)) 1073741823)))
      (some (.done (.inl s21.2)))) (fun k (t : Int) => ((k : Int), t)) (fun _ _ => True) (min b.length 4000) (fun t => t) (fun k t hk _ => by
      obtain ⟨x, hx⟩ := idx_ex (l := b) (i := (k : Int)) (by omega) (by omega)
      refine ⟨and64 (w64 ((w64 ((w64 (t * 131)) + (w64 x.n))) + 7)) 1073741823, trivial, ?_⟩
      simp only
      rw [decide_eq_true (by omega : (k : Int) < (b.length : Int)), decide_eq_true (by omega : (k : Int) < 4000), hx, w64_nat (by omega)]
      rfl) (fun t _ => by
      simp only
      by_cases hc : b.length ≤ 4000
      · rw [decide_eq_false (by omega : ¬ ((min b.length 4000 : Nat) : Int) < (b.length : Int))]
        rfl
      · rw [decide_eq_true (by omega : ((min b.length 4000 : Nat) : Int) < (b.length : Int)), decide_eq_false (by omega : ¬ ((min b.length 4000 : Nat) : Int) < 4000)]
        rfl) (w64 (98011 + (b.length : Int))) (0, w64 (98011 + (b.length : Int))) rfl trivial
  rw [e]
  exact ⟨t, rfl⟩

theorem places_ok (b : List U8) (hl : b.length ≤ 1048576) : ∃ p, spec_DrawPlaces b = some p ∧ p.length = 12 ∧ ∀ x ∈ p, 0 ≤ x ∧ x ≤ 9999 := by
  unfold spec_DrawPlaces
  obtain ⟨h, e⟩ := new_ok b hl
  rw [e]
  simp only [Option.bind_some]
  obtain ⟨t, ⟨t1, t2, t3⟩, e2⟩ := loop_inv (ρ := List Int) (body := fun (s27 : Int × (List Int) × Int × Int) =>
    cond (decide (s27.1 < 12))
      ((spec_l01Below b s27.2.2.1 s27.2.2.2 10000).bind fun t43 =>
      (appC s27.2.1 ([t43.1] : List Int)).bind fun l50 =>
      some (.cont (w64 (s27.1 + 1), l50, t43.2.1, t43.2.2)))
      (some (.done (.inl s27.2.1)))) (fun k (t : List Int × Int × Int) => ((k : Int), t.1, t.2.1, t.2.2)) (fun k t => t.1.length = k ∧ (∀ x ∈ t.1, 0 ≤ x ∧ x ≤ 9999) ∧ 0 ≤ t.2.1 ∧ t.2.1 ≤ b.length) 12 (fun t => t.1) (fun k t hk hi => by
      obtain ⟨i1, i2, i3⟩ := hi
      obtain ⟨v, j, q, e3, hv, hj⟩ := below_ok b t.2.1 t.2.2 10000 hl i3 (by omega)
      refine ⟨(t.1 ++ [v], j, q), ⟨by simp [i1], fun x hx => ?_, hj⟩, ?_⟩
      · rw [List.mem_append] at hx
        rcases hx with hx | hx
        · exact i2 x hx
        · simp only [List.mem_singleton] at hx
          subst hx
          omega
      · simp only
        rw [decide_eq_true (by omega), e3]
        simp only [cond_true, Option.bind_some]
        rw [appC_ok _ _ (by simp [i1]; omega), w64_nat (by omega)]
        rfl) (fun t hi => rfl) ([], 0, h) (0, ([] : List Int), 0, h) rfl ⟨rfl, by simp, Int.le_refl _, Int.natCast_nonneg _⟩
  rw [e2]
  exact ⟨t.1, rfl, t1, t2⟩

theorem place_at {p : List Int} (hl : p.length = 12) (hb : ∀ x ∈ p, 0 ≤ x ∧ x ≤ 9999) {k : Nat} (hk : k < 12) : ∃ v, idx p (k : Int) = some v ∧ 0 ≤ v ∧ v ≤ 9999 := by
  obtain ⟨v, hv⟩ := idx_ex (l := p) (i := (k : Int)) (by omega) (by omega)
  refine ⟨v, hv, hb v ?_⟩
  rw [idx_nat] at hv
  exact List.mem_of_getElem? hv

theorem solvency_eq (x : Int) : impl_SolvencyOf x = some (if x < 1000 then 0 else if x < 1050 then 1 else 2) := by
  unfold impl_SolvencyOf
  by_cases h1 : x < 1000
  · rw [decide_eq_true h1, if_pos h1]; rfl
  · by_cases h2 : x < 1050
    · rw [decide_eq_false h1, decide_eq_true h2, if_neg h1, if_pos h2]; rfl
    · rw [decide_eq_false h1, decide_eq_false h2, if_neg h1, if_neg h2]; rfl

theorem coverage_eq {a l : Int} (ha : 0 ≤ a ∧ a ≤ 1000000000000) (hl : 1 ≤ l ∧ l ≤ 1000000000000) : impl_CoverageOf a l = some (imin 10000 (a * 1000 / l)) := by
  unfold impl_CoverageOf
  rw [within_eq, within_eq, inB_true.2 ha, inB_true.2 (by omega : (0 : Int) ≤ l ∧ l ≤ 1000000000000)]
  have e : (l == 0) = false := by simp; omega
  have q0 : 0 ≤ a * 1000 / l := Int.ediv_nonneg (by omega) (by omega)
  have q1 : a * 1000 / l ≤ a * 1000 := Int.ediv_le_self _ (by omega)
  simp only [Bool.not_true, cond_false, Option.bind_some, e, nz_eq (by omega : l ≠ 0)]
  rw [w64_id (x := a * 1000) (by omega), tdiv_pos (by omega), w64_id (by omega)]

theorem Coverage_law (x0 : List U8) (wx : Wf.wf x0) : laws_FnCoverage x0 = some true := by
  unfold laws_FnCoverage laws_big
  simp only [Option.bind_some]
  by_cases hb : (x0.length : Int) > 1048576
  · rw [decide_eq_true hb]; rfl
  rw [decide_eq_false hb]
  obtain ⟨p, e, hl, hp⟩ := places_ok x0 (by omega)
  obtain ⟨v0, e0, b0⟩ := place_at hl hp (k := 0) (by omega)
  obtain ⟨v1, e1, b1⟩ := place_at hl hp (k := 1) (by omega)
  have e0' : idx p 0 = some v0 := e0
  have e1' : idx p 1 = some v1 := e1
  simp only [cond_false, e, e0', e1', Option.bind_some]
  rw [w64_id (x := v0 * 7) (by omega), w64_id (x := 1 + v0 * 7) (by omega), tmod_pos b1.1, w64_id (x := 1 + v1 % 1900) (by omega)]
  obtain ⟨l, hle⟩ : ∃ l, l = 1 + v0 * 7 := ⟨_, rfl⟩
  obtain ⟨t, hte⟩ : ∃ t, t = 1 + v1 % 1900 := ⟨_, rfl⟩
  rw [← hle, ← hte]
  have hlb : 1 ≤ l ∧ l ≤ 70000 := by omega
  have htb : 1 ≤ t ∧ t ≤ 1900 := by omega
  have m1 : 1 ≤ l * t := Int.mul_pos (by omega) (by omega)
  have m2 : l * t ≤ 70000 * 1900 := Int.mul_le_mul hlb.2 htb.2 (by omega) (by omega)
  have ea : impl_AssetsNeeded l t = some ((l * t + 999) / 1000) := by
    unfold impl_AssetsNeeded
    rw [within_eq, within_eq, inB_true.2 (by omega : (0 : Int) ≤ l ∧ l ≤ 1000000000000), inB_true.2 (by omega : (0 : Int) ≤ t ∧ t ≤ 2000)]
    simp only [Bool.not_true, cond_false, Option.bind_some]
    rw [w64_id (x := l * t) (by omega)]
    generalize l * t = z at m1 m2
    unfold impl_ceilDiv
    simp only [nz_eq (by omega : (1000 : Int) ≠ 0), Option.bind_some]
    rw [w64_id (x := z + 1000) (by omega), w64_id (x := z + 1000 - 1) (by omega), tdiv_pos (by omega), show z + 1000 - 1 = z + 999 by omega, w64_id (by omega)]
  rw [ea]
  simp only [Option.bind_some]
  obtain ⟨a, hae⟩ : ∃ a, a = (l * t + 999) / 1000 := ⟨_, rfl⟩
  rw [← hae]
  have hab : 1 ≤ a ∧ a ≤ 1000000 ∧ l * t ≤ a * 1000 ∧ (a - 1) * 1000 < l * t := by omega
  obtain ⟨a1, a2, a3, a4⟩ := hab
  rw [w64_id (x := a - 1) (by omega), coverage_eq (by omega : 0 ≤ a ∧ a ≤ 1000000000000) (by omega : 1 ≤ l ∧ l ≤ 1000000000000), coverage_eq (by omega : 0 ≤ a - 1 ∧ a - 1 ≤ 1000000000000) (by omega : 1 ≤ l ∧ l ≤ 1000000000000)]
  simp only [Option.bind_some, solvency_eq]
  have c1 : t ≤ a * 1000 / l := (Int.le_ediv_iff_mul_le (by omega)).2 (by rw [Int.mul_comm]; exact a3)
  have c2 : (a - 1) * 1000 / l < t := (Int.ediv_lt_iff_lt_mul (by omega)).2 (by rw [Int.mul_comm t l]; exact a4)
  generalize a * 1000 / l = c at c1
  generalize (a - 1) * 1000 / l = d at c2
  have i1 : t ≤ imin 10000 c := by unfold imin; split <;> omega
  have i2 : imin 10000 d < t := by unfold imin; split <;> omega
  generalize imin 10000 c = c' at i1
  generalize imin 10000 d = d' at i2
  rw [decide_eq_true (by omega : c' ≥ t), decide_eq_true i2]
  have k0 : impl_CoverageOf 5 0 = some 10000 := by
    unfold impl_CoverageOf
    rw [within_eq, within_eq]
    rfl
  have k1 : ((if c' < 1000 then (0 : Int) else if c' < 1050 then 1 else 2) == 2) = decide (c' ≥ 1050) := by
    by_cases h1 : c' < 1000
    · rw [if_pos h1, decide_eq_false (by omega)]; rfl
    · by_cases h2 : c' < 1050
      · rw [if_neg h1, if_pos h2, decide_eq_false (by omega)]; rfl
      · rw [if_neg h1, if_neg h2, decide_eq_true (by omega)]; rfl
  have k2 : ((if d' < 1000 then (0 : Int) else if d' < 1050 then 1 else 2) == 0) = decide (d' < 1000) := by
    by_cases h1 : d' < 1000
    · rw [if_pos h1, decide_eq_true h1]; rfl
    · by_cases h2 : d' < 1050
      · rw [if_neg h1, if_pos h2, decide_eq_false h1]; rfl
      · rw [if_neg h1, if_neg h2, decide_eq_false h1]; rfl
  simp [k0, k1, k2]

end Go.Pen
