import Derived.Test.YtgdhafgblfapiaaF
import Derived.Test.YtgdhafgblfapiaaPenU
import Derived.Test.YtgdhafgblfapiaaPenV
namespace Go.Pen
set_option linter.unusedVariables false
set_option linter.unusedSimpArgs false

theorem within_eq (x a b : Int) : impl_within x a b = some (inB x a b) := by
  unfold impl_within inB
  by_cases h : a ≤ x <;> by_cases h2 : x ≤ b <;> simp [h, h2]

def allIn (x : List Int) (a b : Int) : Bool := x.all (fun p => inB p a b)

theorem allWithin_eq (x : List Int) (a b : Int) (hx : x.length ≤ 1099511627776) : impl_allWithin x a b = some (allIn x a b) := by
  unfold impl_allWithin slices_ContainsFunc_int__impl_allWithin_1 slices_IndexFunc_int__impl_allWithin_1
  rw [show loopW (ρ := Unit ⊕ Int) (fun (s21 : Int) =>
    cond (decide (s21 < (x.length : Int)))
      ((idx x s21).bind fun x37 =>
      (impl_allWithin_1 x37 a b).bind fun t40 =>
      cond t40
        (some (.done (.inr s21)))
        (some (.cont (w64 (s21 + 1)))))
      (some (.done (.inl ())))) 0 = foldS (fun k (_ : Unit) p => some (if inB p a b then .inl () else .inr (.inr (k : Int)))) (fun _ => some (.inl ())) 0 x () from
    loopW_list x (fun k (_ : Unit) => ((k : Nat) : Int)) _ _ (fun k t p hp => by
      have hk := (List.getElem?_eq_some_iff.1 hp).1
      simp only [idx_nat, hp, impl_allWithin_1, within_eq, Option.bind_some, w64_nat (by omega : k < 9223372036854775807), show ((k : Int) < (x.length : Int)) by omega, decide_true, cond_true]
      cases inB p a b <;> rfl) (fun t => by simp) ()]
  have main : ∀ (l : List Int) (k : Nat), (l.all (fun p => inB p a b) = true ∧ foldS (ρ := Unit ⊕ Int) (fun k (_ : Unit) p => some (if inB p a b then .inl () else .inr (.inr (k : Int)))) (fun _ => some (.inl ())) k l () = some (.inl ())) ∨
      (l.all (fun p => inB p a b) = false ∧ ∃ j : Nat, foldS (ρ := Unit ⊕ Int) (fun k (_ : Unit) p => some (if inB p a b then .inl () else .inr (.inr (k : Int)))) (fun _ => some (.inl ())) k l () = some (.inr (j : Int))) := by
    intro l
    induction l with
    | nil => intro k; exact .inl ⟨rfl, rfl⟩
    | cons p l ih =>
      intro k
      simp only [foldS, List.all_cons]
      by_cases h : inB p a b = true
      · simpa [h] using ih (k + 1)
      · exact .inr ⟨by simp [h], k, by simp [h]⟩
  unfold allIn
  rcases main x 0 with ⟨h1, h2⟩ | ⟨h1, j, h2⟩
  · rw [h1, h2]; rfl
  · rw [h1, h2]
    simp [brkE]

def raise1 (r p : Int) : Int := w64 (p + (w64 (Int.tdiv (w64 (p * r)) 1000)))

theorem raise_loop {ρ : Type} (x : List Int) (r : Int) (hx : x.length ≤ 1000000) {body : Int × List Int → Option (LS (Int × List Int) (List Int ⊕ ρ))}
    (hs : ∀ (k : Nat) (l : List Int) (p : Int), x[k]? = some p → body ((k : Int), l) = (appC l [raise1 r p]).bind fun l' => some (.cont (((k + 1 : Nat) : Int), l'))) (he : ∀ l, body ((x.length : Int), l) = some (.done (.inl l))) :
    loopW body (0, []) = some (.inl (x.map (raise1 r))) := by
  have h1 := loopW_count (body := body) (fun k => ((k : Int), (x.take k).map (raise1 r))) x.length (fun k hk => by
    have hp : x[k]? = some x[k] := List.getElem?_eq_getElem hk
    rw [hs k _ x[k] hp, appC_ok _ _ (by simp; omega), Option.bind_some]
    rw [List.take_add_one, hp, Option.toList_some, List.map_append]
    rfl)
  simp only [List.take_zero, List.map_nil, List.take_length] at h1
  have e0 : ((0 : Nat) : Int) = 0 := rfl
  rw [e0] at h1
  rw [h1, loopW_done (he _)]

theorem impl_RaiseAll_eq (x : List Int) (r : Int) (hx : x.length ≤ 1099511627776) : impl_RaiseAll x r = some (if allIn x 0 1000000 && (decide (x.length ≤ 40) && inB r 0 1000) then x.map (raise1 r) else []) := by
  unfold impl_RaiseAll impl_arePensions
  simp only [allWithin_eq x _ _ hx, within_eq, Option.bind_some]
  by_cases h : x.length ≤ 40
  · have h' : (x.length : Int) ≤ 40 := by omega
    rw [decide_eq_true h', decide_eq_true h]
    simp only [cond_true, Option.bind_some]
    cases allIn x 0 1000000 with
    | false => rfl
    | true =>
      cases inB r 0 1000 with
      | false => rfl
      | true =>
        simp only [Bool.not_true, cond_false, Option.bind_some, Bool.and_true, if_true]
        rw [raise_loop x r (by omega)]
        · rfl
        · intro k l p hp
          have hk := (List.getElem?_eq_some_iff.1 hp).1
          simp only [idx_nat, hp, Option.bind_some, w64_nat (by omega : k < 9223372036854775807), show ((k : Int) < (x.length : Int)) by omega, decide_true, cond_true]
          rfl
        · intro l; simp
  · have h' : ¬ (x.length : Int) ≤ 40 := by omega
    rw [decide_eq_false h', decide_eq_false h]
    simp

theorem loop_inv {σ ρ τ ι : Type} {body : σ → Option (LS σ (ι ⊕ ρ))} (st : Nat → τ → σ) (Inv : Nat → τ → Prop) (N : Nat) (f : τ → ι) (hs : ∀ k t, k < N → Inv k t → ∃ u, Inv (k + 1) u ∧ body (st k t) = some (.cont (st (k + 1) u)))
    (he : ∀ t, Inv N t → body (st N t) = some (.done (.inl (f t)))) (t0 : τ) (s0 : σ) (h0 : st 0 t0 = s0) (hi0 : Inv 0 t0) : ∃ t', Inv N t' ∧ loopW body s0 = some (.inl (f t')) := by
  have main : ∀ m k t, k + m = N → Inv k t → ∃ t', Inv N t' ∧ loopW body (st k t) = some (.inl (f t')) := by
    intro m
    induction m with
    | zero =>
      intro k t hk hi
      have : k = N := by omega
      subst this
      exact ⟨t, hi, loopW_done (he t hi)⟩
    | succ m ih =>
      intro k t hk hi
      obtain ⟨u, hu, hb⟩ := hs k t (by omega) hi
      obtain ⟨t', h1, h2⟩ := ih (k + 1) u (by omega) hu
      exact ⟨t', h1, by rw [loopW_cont hb]; exact h2⟩
  rw [← h0]
  exact main N 0 t0 (by omega) hi0

theorem jp_eq {β τ : Type} (K : β → Option τ) (B : (β → Option τ) → Option τ) : joinP K B = B K := rfl

theorem and255 (x : Int) : 0 ≤ and64 x 255 ∧ and64 x 255 ≤ 255 := by
  unfold and64
  have h : (BitVec.ofInt 64 x &&& BitVec.ofInt 64 255).toNat ≤ 255 := by
    rw [BitVec.toNat_and]
    have e : (BitVec.ofInt 64 255).toNat = 255 := by decide
    rw [e]
    exact Nat.and_le_right
  rw [w64_id (by omega)]
  omega

theorem idx_ex {α : Type} {l : List α} {i : Int} (h : 0 ≤ i) (h2 : i < l.length) : ∃ x, idx l i = some x := by
  unfold idx
  rw [if_pos h]
  exact ⟨_, List.getElem?_eq_getElem (by omega)⟩

theorem byte_ok (b : List U8) (i h : Int) (hl : b.length ≤ 1048576) (hi : 0 ≤ i ∧ i ≤ b.length) : ∃ v j k, spec_l01Byte b i h = some (v, j, k) ∧ (0 ≤ v ∧ v ≤ 255) ∧ 0 ≤ j ∧ j ≤ b.length := by
  unfold spec_l01Byte
  simp only [jp_eq]
  by_cases hc : i < (b.length : Int)
  · obtain ⟨x, hx⟩ := idx_ex hi.1 hc
    rw [decide_eq_true hc, hx]
    simp only [cond_true, Option.bind_some]
    exact ⟨_, _, _, rfl, and255 _, by rw [w64_id (by omega)]; omega, by rw [w64_id (by omega)]; omega⟩
  · rw [decide_eq_false hc]
    simp only [cond_false]
    exact ⟨_, _, _, rfl, and255 _, hi.1, hi.2⟩

theorem below_ok (b : List U8) (i h n : Int) (hl : b.length ≤ 1048576) (hi : 0 ≤ i ∧ i ≤ b.length) (hn : 1 ≤ n) : ∃ v j k, spec_l01Below b i h n = some (v, j, k) ∧ (0 ≤ v ∧ v < n) ∧ 0 ≤ j ∧ j ≤ b.length := by
  unfold spec_l01Below
  rw [decide_eq_false (by omega : ¬ n ≤ 0)]
  simp only [cond_false]
  by_cases hc : n ≤ 256
  · obtain ⟨v, j, k, e, hv, hj⟩ := byte_ok b i h hl hi
    rw [decide_eq_true hc, e]
    simp only [cond_true, Option.bind_some, nz_eq (by omega : n ≠ 0)]
    refine ⟨_, _, _, rfl, ?_, hj⟩
    rw [tmod_pos hv.1]
    exact ⟨Int.emod_nonneg _ (by omega), Int.emod_lt_of_pos _ (by omega)⟩
  · obtain ⟨v1, j1, k1, e1, hv1, hj1⟩ := byte_ok b i h hl hi
    obtain ⟨v2, j2, k2, e2, hv2, hj2⟩ := byte_ok b j1 k1 hl hj1
    obtain ⟨v3, j3, k3, e3, hv3, hj3⟩ := byte_ok b j2 k2 hl hj2
    obtain ⟨v4, j4, k4, e4, hv4, hj4⟩ := byte_ok b j3 k3 hl hj3
    rw [decide_eq_false hc]
    simp only [cond_false, e1, e2, e3, e4, Option.bind_some, nz_eq (by omega : n ≠ 0)]
    refine ⟨_, _, _, rfl, ?_, hj4⟩
    have z : 0 ≤ w64 ((w64 ((w64 ((w64 (v1 * 16777216)) + (w64 (v2 * 65536)))) + (w64 (v3 * 256)))) + v4) := by
      rw [w64_id (x := v1 * 16777216) (by omega), w64_id (x := v2 * 65536) (by omega), w64_id (x := v3 * 256) (by omega), w64_id (x := v1 * 16777216 + v2 * 65536) (by omega), w64_id (x := v1 * 16777216 + v2 * 65536 + v3 * 256) (by omega), w64_id (by omega)]
      omega
    rw [tmod_pos z]
    exact ⟨Int.emod_nonneg _ (by omega), Int.emod_lt_of_pos _ (by omega)⟩

theorem new_ok (b : List U8) (hl : b.length ≤ 1048576) : ∃ h, spec_l01New b = some (0, h) := by
  unfold spec_l01New
  obtain ⟨t, _, e⟩ := loop_inv (ρ := Int × Int) (body := fun (s21 : Int × Int) =>
    Option.bind (α := Bool)
      (cond (decide (s21.1 < (b.length : Int)))
        (some (decide (s21.1 < 4000)))
        (some false))
      fun p35 =>
    cond p35
      ((idx b s21.1).bind fun x44 =>
      some (.cont (w64 (s21.1 + 1), and64 (w64 ((w64 ((w64 (s21.2 * 131)) + (w64 x44.n))) + 7)) 1073741823)))
      (some (.done (.inl s21.2)))) (fun k (t : Int) => ((k : Int), t)) (fun _ _ => True) (min b.length 4000) (fun t => t) (fun k t hk _ => by
      obtain ⟨x, hx⟩ := idx_ex (l := b) (i := (k : Int)) (by omega) (by omega)
      refine ⟨and64 (w64 ((w64 ((w64 (t * 131)) + (w64 x.n))) + 7)) 1073741823, trivial, ?_⟩
      simp only
      rw [decide_eq_true (by omega : (k : Int) < (b.length : Int)), decide_eq_true (by omega : (k : Int) < 4000), hx, w64_nat (by omega)]
      rfl) (fun t _ => by
      simp only
      by_cases hc : b.length ≤ 4000
      · rw [decide_eq_false (by omega : ¬ ((min b.length 4000 : Nat) : Int) < (b.length : Int))]
        rfl
      · rw [decide_eq_true (by omega : ((min b.length 4000 : Nat) : Int) < (b.length : Int)), decide_eq_false (by omega : ¬ ((min b.length 4000 : Nat) : Int) < 4000)]
        rfl) (w64 (98011 + (b.length : Int))) (0, w64 (98011 + (b.length : Int))) rfl trivial
  rw [e]
  exact ⟨t, rfl⟩

theorem places_ok (b : List U8) (hl : b.length ≤ 1048576) : ∃ p, spec_DrawPlaces b = some p ∧ p.length = 12 ∧ ∀ x ∈ p, 0 ≤ x ∧ x ≤ 9999 := by
  unfold spec_DrawPlaces
  obtain ⟨h, e⟩ := new_ok b hl
  rw [e]
  simp only [Option.bind_some]
  obtain ⟨t, ⟨t1, t2, t3⟩, e2⟩ := loop_inv (ρ := List Int) (body := fun (s27 : Int × (List Int) × Int × Int) =>
    cond (decide (s27.1 < 12))
      ((spec_l01Below b s27.2.2.1 s27.2.2.2 10000).bind fun t43 =>
      (appC s27.2.1 ([t43.1] : List Int)).bind fun l50 =>
      some (.cont (w64 (s27.1 + 1), l50, t43.2.1, t43.2.2)))
      (some (.done (.inl s27.2.1)))) (fun k (t : List Int × Int × Int) => ((k : Int), t.1, t.2.1, t.2.2)) (fun k t => t.1.length = k ∧ (∀ x ∈ t.1, 0 ≤ x ∧ x ≤ 9999) ∧ 0 ≤ t.2.1 ∧ t.2.1 ≤ b.length) 12 (fun t => t.1) (fun k t hk hi => by
      obtain ⟨i1, i2, i3⟩ := hi
      obtain ⟨v, j, q, e3, hv, hj⟩ := below_ok b t.2.1 t.2.2 10000 hl i3 (by omega)
      refine ⟨(t.1 ++ [v], j, q), ⟨by simp [i1], fun x hx => ?_, hj⟩, ?_⟩
      · rw [List.mem_append] at hx
        rcases hx with hx | hx
        · exact i2 x hx
        · simp only [List.mem_singleton] at hx
          subst hx
          omega
      · simp only
        rw [decide_eq_true (by omega), e3]
        simp only [cond_true, Option.bind_some]
        rw [appC_ok _ _ (by simp [i1]; omega), w64_nat (by omega)]
        rfl) (fun t hi => rfl) ([], 0, h) (0, ([] : List Int), 0, h) rfl ⟨rfl, by simp, Int.le_refl _, Int.natCast_nonneg _⟩
  rw [e2]
  exact ⟨t.1, rfl, t1, t2⟩

theorem place_at {p : List Int} (hl : p.length = 12) (hb : ∀ x ∈ p, 0 ≤ x ∧ x ≤ 9999) {k : Nat} (hk : k < 12) : ∃ v, idx p (k : Int) = some v ∧ 0 ≤ v ∧ v ≤ 9999 := by
  obtain ⟨v, hv⟩ := idx_ex (l := p) (i := (k : Int)) (by omega) (by omega)
  refine ⟨v, hv, hb v ?_⟩
  rw [idx_nat] at hv
  exact List.mem_of_getElem? hv

theorem loop_inv2 {σ ρ τ ι : Type} {body : σ → Option (LS σ (ι ⊕ ρ))} (st : Nat → τ → σ) (Inv : Nat → τ → Prop) (G : ι → Prop) (N : Nat) (hs : ∀ k t, k ≤ N → Inv k t → (∃ u, k < N ∧ Inv (k + 1) u ∧ body (st k t) = some (.cont (st (k + 1) u))) ∨ ∃ r, G r ∧ body (st k t) = some (.done (.inl r)))
    (t0 : τ) (s0 : σ) (h0 : st 0 t0 = s0) (hi0 : Inv 0 t0) : ∃ r, G r ∧ loopW body s0 = some (.inl r) := by
  have main : ∀ m k t, k + m = N → Inv k t → ∃ r, G r ∧ loopW body (st k t) = some (.inl r) := by
    intro m
    induction m with
    | zero =>
      intro k t hk hi
      rcases hs k t (by omega) hi with ⟨u, h1, _⟩ | ⟨r, hr, hb⟩
      · omega
      · exact ⟨r, hr, loopW_done hb⟩
    | succ m ih =>
      intro k t hk hi
      rcases hs k t (by omega) hi with ⟨u, _, hu, hb⟩ | ⟨r, hr, hb⟩
      · obtain ⟨r, h1, h2⟩ := ih (k + 1) u (by omega) hu
        exact ⟨r, h1, by rw [loopW_cont hb]; exact h2⟩
      · exact ⟨r, hr, loopW_done hb⟩
  rw [← h0]
  exact main N 0 t0 (by omega) hi0

theorem pensions_ok (b : List U8) (hl : b.length ≤ 1048576) : ∃ p, spec_DrawPensions b = some p ∧ p.length ≤ 8 ∧ ∀ x ∈ p, 0 ≤ x ∧ x ≤ 100000 := by
  unfold spec_DrawPensions
  obtain ⟨h, e⟩ := new_ok b hl
  rw [e]
  simp only [Option.bind_some]
  unfold spec_l31Pensions
  obtain ⟨r, ⟨g1, g2⟩, e2⟩ := loop_inv2 (ρ := (List Int) × Int × Int) (body := fun (s23 : Int × (List Int) × Int × Int) =>
    (spec_l01Below b s23.2.2.1 s23.2.2.2 9).bind fun t36 =>
    cond (decide (s23.1 < t36.1))
      ((spec_l01Below b t36.2.1 t36.2.2 4000).bind fun t43 =>
      (appC s23.2.1 ([w64 (t43.1 * 25)] : List Int)).bind fun l50 =>
      some (.cont (w64 (s23.1 + 1), l50, t43.2.1, t43.2.2)))
      (some (.done (.inl (s23.2.1, t36.2.1, t36.2.2))))) (fun k (t : List Int × Int × Int) => ((k : Int), t.1, t.2.1, t.2.2)) (fun k t => t.1.length = k ∧ (∀ x ∈ t.1, 0 ≤ x ∧ x ≤ 100000) ∧ 0 ≤ t.2.1 ∧ t.2.1 ≤ b.length)
    (fun (r : List Int × Int × Int) => r.1.length ≤ 8 ∧ ∀ x ∈ r.1, 0 ≤ x ∧ x ≤ 100000) 8 (fun k t hk hi => by
      obtain ⟨i1, i2, i3⟩ := hi
      obtain ⟨v, j, q, e3, hv, hj⟩ := below_ok b t.2.1 t.2.2 9 hl i3 (by omega)
      by_cases hc : (k : Int) < v
      · obtain ⟨v2, j2, q2, e4, hv2, hj2⟩ := below_ok b j q 4000 hl hj (by omega)
        refine .inl ⟨(t.1 ++ [w64 (v2 * 25)], j2, q2), by omega, ⟨by simp [i1], fun x hx => ?_, hj2⟩, ?_⟩
        · rw [List.mem_append] at hx
          rcases hx with hx | hx
          · exact i2 x hx
          · simp only [List.mem_singleton] at hx
            rw [hx, w64_id (by omega)]
            omega
        · simp only
          rw [e3]
          simp only [Option.bind_some]
          rw [decide_eq_true hc, e4]
          simp only [cond_true, Option.bind_some]
          rw [appC_ok _ _ (by simp [i1]; omega), w64_nat (by omega)]
          rfl
      · refine .inr ⟨(t.1, j, q), ⟨by simp only; omega, i2⟩, ?_⟩
        simp only
        rw [e3]
        simp only [Option.bind_some]
        rw [decide_eq_false hc]
        rfl) ([], 0, h) (0, ([] : List Int), 0, h) rfl ⟨rfl, by simp, Int.le_refl _, Int.natCast_nonneg _⟩
  rw [e2]
  exact ⟨r.1, rfl, g1, g2⟩

def adj (c i : Int) : Int := if c < 1000 then 0 else if 1100 ≤ c then i else i * (c - 1000) / 100

theorem adjust_eq {c i : Int} (hc : 900 ≤ c ∧ c ≤ 1200) (hi : 0 ≤ i ∧ i ≤ 99) : impl_AdjustRate c i = some (adj c i) := by
  unfold impl_AdjustRate adj
  rw [within_eq, within_eq, inB_true.2 (by omega : (0 : Int) ≤ c ∧ c ≤ 10000), inB_true.2 (by omega : (0 : Int) ≤ i ∧ i ≤ 1000)]
  simp only [Bool.not_true, cond_false, Option.bind_some]
  by_cases h1 : c < 1000
  · rw [decide_eq_true h1, if_pos h1]; rfl
  · rw [decide_eq_false h1, if_neg h1]
    by_cases h2 : 1100 ≤ c
    · rw [decide_eq_true (by omega : c ≥ 1100), if_pos h2]; rfl
    · rw [decide_eq_false (by omega : ¬ c ≥ 1100), if_neg h2]
      have m1 : 0 ≤ i * (c - 1000) := Int.mul_nonneg hi.1 (by omega)
      have m2 : i * (c - 1000) ≤ 99 * 100 := Int.mul_le_mul hi.2 (by omega) (by omega) (by omega)
      simp only [cond_false]
      rw [w64_id (x := c - 1000) (by omega)]
      generalize i * (c - 1000) = z at m1 m2
      rw [w64_id (x := z) (by omega), tdiv_pos m1, w64_id (by omega)]

theorem adj_bound {c i : Int} (hc : 900 ≤ c ∧ c ≤ 1200) (hi : 0 ≤ i ∧ i ≤ 99) : 0 ≤ adj c i ∧ adj c i ≤ i ∧ adj c i ≤ adj (c + 1) i ∧ (1100 ≤ c → adj c i = i) := by
  have m1 : 1000 ≤ c → 0 ≤ i * (c - 1000) := fun h => Int.mul_nonneg hi.1 (by omega)
  have m2 : 1000 ≤ c → c ≤ 1100 → i * (c - 1000) ≤ i * 100 := fun h h' => Int.mul_le_mul_of_nonneg_left (by omega) hi.1
  have m3 : i * (c + 1 - 1000) = i * (c - 1000) + i := by rw [show c + 1 - 1000 = (c - 1000) + 1 by omega, Int.mul_add]; omega
  unfold adj
  rw [m3]
  obtain ⟨z, hz⟩ : ∃ z, z = i * (c - 1000) := ⟨_, rfl⟩
  rw [← hz] at m1 m2 ⊢
  refine ⟨?_, ?_, ?_, ?_⟩
  · split
    · omega
    · split
      · omega
      · have := m1 (by omega); omega
  · split
    · omega
    · split
      · omega
      · have := m1 (by omega); have := m2 (by omega) (by omega); omega
  · by_cases h1 : c < 1000
    · rw [if_pos h1]
      split
      · omega
      · split
        · omega
        · by_cases h2 : c = 999
          · subst h2
            omega
          · omega
    · rw [if_neg h1, if_neg (by omega : ¬ c + 1 < 1000)]
      by_cases h2 : 1100 ≤ c
      · rw [if_pos h2, if_pos (by omega)]; omega
      · rw [if_neg h2]
        have := m1 (by omega); have := m2 (by omega) (by omega)
        split
        · omega
        · omega
  · intro h
    rw [if_neg (by omega), if_pos h]

theorem raise1_eq {x r : Int} (hx : 0 ≤ x ∧ x ≤ 100000) (hr : 0 ≤ r ∧ r ≤ 99) : raise1 r x = x + x * r / 1000 ∧ 0 ≤ x * r ∧ x * r ≤ 9900000 := by
  have m1 : 0 ≤ x * r := Int.mul_nonneg hx.1 hr.1
  have m2 : x * r ≤ 100000 * 99 := Int.mul_le_mul hx.2 hr.2 hr.1 (by omega)
  unfold raise1
  generalize x * r = z at m1 m2
  rw [w64_id (x := z) (by omega), tdiv_pos m1, w64_id (x := z / 1000) (by omega), w64_id (by omega)]
  exact ⟨rfl, m1, by omega⟩

theorem Raised_law (x0 : List U8) (wx : Wf.wf x0) : laws_FnRaised x0 = some true := by
  unfold laws_FnRaised laws_big
  simp only [Option.bind_some]
  by_cases hb : (x0.length : Int) > 1048576
  · rw [decide_eq_true hb]; rfl
  rw [decide_eq_false hb]
  obtain ⟨q, eq, ql, qb⟩ := pensions_ok x0 (by omega)
  obtain ⟨p, e, hl, hp⟩ := places_ok x0 (by omega)
  obtain ⟨v0, e0, b0⟩ := place_at hl hp (k := 0) (by omega)
  obtain ⟨v1, e1, b1⟩ := place_at hl hp (k := 1) (by omega)
  have e0' : idx p 0 = some v0 := e0
  have e1' : idx p 1 = some v1 := e1
  simp only [cond_false, e, eq, e0', e1', Option.bind_some]
  rw [tmod_pos b1.1, tmod_pos b0.1, w64_id (x := 900 + v1 % 300) (by omega)]
  obtain ⟨c, hce⟩ : ∃ c, c = 900 + v1 % 300 := ⟨_, rfl⟩
  obtain ⟨i, hie⟩ : ∃ i, i = v0 % 100 := ⟨_, rfl⟩
  rw [← hce, ← hie]
  have hcb : 900 ≤ c ∧ c ≤ 1199 := by omega
  have hib : 0 ≤ i ∧ i ≤ 99 := by omega
  obtain ⟨a1, a2, a3, a4⟩ := adj_bound (c := c) (i := i) (by omega) hib
  have hin : (allIn q 0 1000000 && (decide (q.length ≤ 40) && inB (adj c i) 0 1000)) = true := by
    rw [Bool.and_eq_true, Bool.and_eq_true, decide_eq_true_eq, inB_true]
    refine ⟨?_, by omega, by omega, by omega⟩
    unfold allIn
    rw [List.all_eq_true]
    intro x hx
    have := qb x hx
    exact inB_true.2 (by omega)
  rw [adjust_eq (by omega) hib]
  simp only [Option.bind_some]
  rw [impl_RaiseAll_eq q (adj c i) (by omega), if_pos hin]
  simp only [Option.bind_some, List.length_map, bne_self_eq_false, cond_false]
  have hloop := loop_inv (ρ := Bool) (ι := Int × Int × Int) (τ := Unit) (body := fun (s53 : Int) =>
        cond (decide (s53 < (q.length : Int)))
          ((idx (q.map (raise1 (adj c i))) s53).bind fun x88 =>
          (idx q s53).bind fun x91 =>
          (idx q s53).bind fun x94 =>
          Option.bind (α := Bool)
            (cond (decide ((w64 ((w64 ((w64 (x88 - x91)) * 1000)) - (w64 (x94 * (adj c i))))) > 0))
              (some true)
              (some (decide ((w64 ((w64 ((w64 (x88 - x91)) * 1000)) - (w64 (x94 * (adj c i))))) ≤ (-1000)))))
            fun p97 =>
          cond p97
            (some (.done (.inr false)))
            (some (.cont (w64 (s53 + 1)))))
          (some (.done (.inl (adj c i, c, i))))) (fun k _ => (k : Int)) (fun _ _ => True) q.length (fun _ => (adj c i, c, i)) (fun k t hk _ => by
      refine ⟨(), trivial, ?_⟩
      obtain ⟨x, hx⟩ : ∃ x, q[k]? = some x := ⟨_, List.getElem?_eq_getElem hk⟩
      have hxb := qb x (List.mem_of_getElem? hx)
      obtain ⟨r1, r2, r3⟩ := raise1_eq hxb (by omega : 0 ≤ adj c i ∧ adj c i ≤ 99)
      rw [decide_eq_true (by omega), idx_nat, idx_nat, List.getElem?_map, hx]
      simp only [Option.map_some, cond_true, Option.bind_some]
      rw [r1]
      generalize x * adj c i = z at r2 r3
      rw [w64_id (x := x + z / 1000 - x) (by omega), w64_id (x := (x + z / 1000 - x) * 1000) (by omega), w64_id (x := z) (by omega), w64_id (x := (x + z / 1000 - x) * 1000 - z) (by omega), decide_eq_false (by omega), decide_eq_false (by omega), w64_nat (by omega)]
      rfl) (fun t _ => by
      rw [decide_eq_false (by omega)]
      rfl) () 0 rfl trivial
  obtain ⟨_, _, e5⟩ := hloop
  rw [e5]
  simp only [Option.bind_some, brkE]
  rw [w64_id (x := c + 1) (by omega), adjust_eq (by omega : 900 ≤ c + 1 ∧ c + 1 ≤ 1200) hib, decide_eq_true (by omega : adj c i ≥ 0), decide_eq_true a2]
  simp only [cond_true, Option.bind_some]
  rw [decide_eq_true (by omega : adj (c + 1) i ≥ adj c i)]
  by_cases h : c < 1100
  · rw [decide_eq_true h]; rfl
  · rw [decide_eq_false h, a4 (by omega)]
    simp

end Go.Pen
