import Derived.Test.YtgdhafgblfapiaaF
import Derived.Test.YtgdhafgblfapiaaPenU
import Derived.Test.YtgdhafgblfapiaaPenV
namespace Go.Pen
set_option linter.unusedVariables false
set_option linter.unusedSimpArgs false

theorem l01In_eq (x a b : Int) : spec_l01In x a b = some (inB x a b) := by
  unfold spec_l01In inB
  by_cases h : a ≤ x <;> by_cases h2 : x ≤ b <;> simp [h, h2]

theorem within_eq (x a b : Int) : impl_within x a b = some (inB x a b) := by
  unfold impl_within inB
  by_cases h : a ≤ x <;> by_cases h2 : x ≤ b <;> simp [h, h2]

def gt {α : Type} [Inhabited α] (l : List α) (k : Nat) : α := (l[k]?).getD default

theorem gt_of {α : Type} [Inhabited α] {l : List α} {k : Nat} {x : α} (h : l[k]? = some x) : gt l k = x := by unfold gt; rw [h]; rfl

theorem at_gt {α : Type} [Inhabited α] {l : List α} {k : Nat} (h : k < l.length) : l[k]? = some (gt l k) := by unfold gt; rw [List.getElem?_eq_getElem h]; rfl

theorem idx_gt {α : Type} [Inhabited α] {l : List α} {k : Nat} (h : k < l.length) : idx l (k : Int) = some (gt l k) := (idx_nat l k).trans (at_gt h)

theorem gt_append_left {α : Type} [Inhabited α] {l1 l2 : List α} {k : Nat} (h : k < l1.length) : gt (l1 ++ l2) k = gt l1 k := by unfold gt; rw [List.getElem?_append_left h]

theorem BandOk_eq (b : Band) : impl_BandOk b = spec_BandOk b := rfl

theorem BandOk_val (b : Band) : spec_BandOk b = some (decide (0 ≤ b.Low ∧ b.Low ≤ b.High ∧ b.High ≤ 1000000000000000)) := by
  unfold spec_BandOk
  by_cases h1 : 0 ≤ b.Low <;> by_cases h2 : b.Low ≤ b.High <;> by_cases h3 : b.High ≤ 1000000000000000 <;> simp [h1, h2, h3]

theorem ReserveFor_some (p : Int) (b : Band) : ∃ v, impl_ReserveFor p b = some v ∧ spec_ReserveFor p b = some v := by
  unfold impl_ReserveFor spec_ReserveFor
  simp only [BandOk_eq, BandOk_val, within_eq, l01In_eq, Option.bind_some, joinP]
  by_cases h1 : 0 ≤ b.Low ∧ b.Low ≤ b.High ∧ b.High ≤ 1000000000000000
  · rw [decide_eq_true h1]
    simp only [Bool.not_true, cond_false]
    by_cases h2 : b.High > 1000000000000
    · simp [h2]
    · simp only [h2, decide_false, cond_false, Option.bind_some]
      cases h3 : inB p 0 1000000 with
      | false => simp
      | true =>
        rw [inB_true] at h3
        have m1 : 0 ≤ p * b.High := Int.mul_nonneg h3.1 (by omega)
        have m2 : p * b.High ≤ 1000000 * 1000000000000 := Int.mul_le_mul h3.2 (by omega) (by omega) (by omega)
        generalize p * b.High = z at m1 m2
        have w1 : w64 z = z := w64_id (by omega)
        simp only [Bool.not_true, Option.bind_some, cond_false, w1]
        have c1 : impl_ceilDiv z 1000000000 = some ((z + 999999999) / 1000000000) := by
          unfold impl_ceilDiv
          rw [nz_eq (by decide)]
          simp only [Option.bind_some]
          rw [w64_id (x := z + 1000000000) (by omega), w64_id (x := z + 1000000000 - 1) (by omega), tdiv_pos (by omega), show z + 1000000000 - 1 = z + 999999999 by omega, w64_id (by omega)]
        rw [c1]
        simp only [Option.bind_some]
        refine ⟨_, rfl, ?_⟩
        rw [tmod_pos m1, tdiv_pos m1]
        by_cases h4 : z % 1000000000 = 0
        · simp only [h4, bne_self_eq_false, cond_false]
          have e1 : (z + 999999999) / 1000000000 = z / 1000000000 := by omega
          rw [w64_id (by omega), e1]
        · have h5 : (z % 1000000000 != 0) = true := by simp [h4]
          simp only [h5, cond_true]
          have e1 : (z + 999999999) / 1000000000 = z / 1000000000 + 1 := by omega
          rw [w64_id (x := z / 1000000000) (by omega), w64_id (by omega), e1]
  · simp [h1]

theorem loop_inv {σ ρ τ ι : Type} {body : σ → Option (LS σ (ι ⊕ ρ))} (st : Nat → τ → σ) (Inv : Nat → τ → Prop) (N : Nat) (f : τ → ι) (hs : ∀ k t, k < N → Inv k t → ∃ u, Inv (k + 1) u ∧ body (st k t) = some (.cont (st (k + 1) u)))
    (he : ∀ t, Inv N t → body (st N t) = some (.done (.inl (f t)))) (t0 : τ) (s0 : σ) (h0 : st 0 t0 = s0) (hi0 : Inv 0 t0) : ∃ t', Inv N t' ∧ loopW body s0 = some (.inl (f t')) := by
  have main : ∀ m k t, k + m = N → Inv k t → ∃ t', Inv N t' ∧ loopW body (st k t) = some (.inl (f t')) := by
    intro m
    induction m with
    | zero =>
      intro k t hk hi
      have : k = N := by omega
      subst this
      exact ⟨t, hi, loopW_done (he t hi)⟩
    | succ m ih =>
      intro k t hk hi
      obtain ⟨u, hu, hb⟩ := hs k t (by omega) hi
      obtain ⟨t', h1, h2⟩ := ih (k + 1) u (by omega) hu
      exact ⟨t', h1, by rw [loopW_cont hb]; exact h2⟩
  rw [← h0]
  exact main N 0 t0 (by omega) hi0

theorem jp_eq {β τ : Type} (K : β → Option τ) (B : (β → Option τ) → Option τ) : joinP K B = B K := rfl

theorem and255 (x : Int) : 0 ≤ and64 x 255 ∧ and64 x 255 ≤ 255 := by
  unfold and64
  have h : (BitVec.ofInt 64 x &&& BitVec.ofInt 64 255).toNat ≤ 255 := by
    rw [BitVec.toNat_and]
    have e : (BitVec.ofInt 64 255).toNat = 255 := by decide
    rw [e]
    exact Nat.and_le_right
  rw [w64_id (by omega)]
  omega

theorem idx_ex {α : Type} {l : List α} {i : Int} (h : 0 ≤ i) (h2 : i < l.length) : ∃ x, idx l i = some x := by
  unfold idx
  rw [if_pos h]
  exact ⟨_, List.getElem?_eq_getElem (by omega)⟩

theorem byte_ok (b : List U8) (i h : Int) (hl : b.length ≤ 1048576) (hi : 0 ≤ i ∧ i ≤ b.length) : ∃ v j k, spec_l01Byte b i h = some (v, j, k) ∧ (0 ≤ v ∧ v ≤ 255) ∧ 0 ≤ j ∧ j ≤ b.length := by
  unfold spec_l01Byte
  simp only [jp_eq]
  by_cases hc : i < (b.length : Int)
  · obtain ⟨x, hx⟩ := idx_ex hi.1 hc
    rw [decide_eq_true hc, hx]
    simp only [cond_true, Option.bind_some]
    exact ⟨_, _, _, rfl, and255 _, by rw [w64_id (by omega)]; omega, by rw [w64_id (by omega)]; omega⟩
  · rw [decide_eq_false hc]
    simp only [cond_false]
    exact ⟨_, _, _, rfl, and255 _, hi.1, hi.2⟩

theorem below_ok (b : List U8) (i h n : Int) (hl : b.length ≤ 1048576) (hi : 0 ≤ i ∧ i ≤ b.length) (hn : 1 ≤ n) : ∃ v j k, spec_l01Below b i h n = some (v, j, k) ∧ (0 ≤ v ∧ v < n) ∧ 0 ≤ j ∧ j ≤ b.length := by
  unfold spec_l01Below
  rw [decide_eq_false (by omega : ¬ n ≤ 0)]
  simp only [cond_false]
  by_cases hc : n ≤ 256
  · obtain ⟨v, j, k, e, hv, hj⟩ := byte_ok b i h hl hi
    rw [decide_eq_true hc, e]
    simp only [cond_true, Option.bind_some, nz_eq (by omega : n ≠ 0)]
    refine ⟨_, _, _, rfl, ?_, hj⟩
    rw [tmod_pos hv.1]
    exact ⟨Int.emod_nonneg _ (by omega), Int.emod_lt_of_pos _ (by omega)⟩
  · obtain ⟨v1, j1, k1, e1, hv1, hj1⟩ := byte_ok b i h hl hi
    obtain ⟨v2, j2, k2, e2, hv2, hj2⟩ := byte_ok b j1 k1 hl hj1
    obtain ⟨v3, j3, k3, e3, hv3, hj3⟩ := byte_ok b j2 k2 hl hj2
    obtain ⟨v4, j4, k4, e4, hv4, hj4⟩ := byte_ok b j3 k3 hl hj3
    rw [decide_eq_false hc]
    simp only [cond_false, e1, e2, e3, e4, Option.bind_some, nz_eq (by omega : n ≠ 0)]
    refine ⟨_, _, _, rfl, ?_, hj4⟩
    have z : 0 ≤ w64 ((w64 ((w64 ((w64 (v1 * 16777216)) + (w64 (v2 * 65536)))) + (w64 (v3 * 256)))) + v4) := by
      rw [w64_id (x := v1 * 16777216) (by omega), w64_id (x := v2 * 65536) (by omega), w64_id (x := v3 * 256) (by omega), w64_id (x := v1 * 16777216 + v2 * 65536) (by omega), w64_id (x := v1 * 16777216 + v2 * 65536 + v3 * 256) (by omega), w64_id (by omega)]
      omega
    rw [tmod_pos z]
    exact ⟨Int.emod_nonneg _ (by omega), Int.emod_lt_of_pos _ (by omega)⟩

theorem new_ok (b : List U8) (hl : b.length ≤ 1048576) : ∃ h, spec_l01New b = some (0, h) := by
  unfold spec_l01New
  obtain ⟨t, _, e⟩ := loop_inv (ρ := Int × Int) (body := fun (s21 : Int × Int) =>
    Option.bind (α := Bool)
      (cond (decide (s21.1 < (b.length : Int)))
        (some (decide (s21.1 < 4000)))
        (some false))
      fun p35 =>
    cond p35
      ((idx b s21.1).bind fun x44 =>
      some (.cont (w64 (s21.1 + 1), and64 (w64 ((w64 ((w64 (s21.2 * 131)) + (w64 x44.n))) + 7)) 1073741823)))
      (some (.done (.inl s21.2)))) (fun k (t : Int) => ((k : Int), t)) (fun _ _ => True) (min b.length 4000) (fun t => t) (fun k t hk _ => by
      obtain ⟨x, hx⟩ := idx_ex (l := b) (i := (k : Int)) (by omega) (by omega)
      refine ⟨and64 (w64 ((w64 ((w64 (t * 131)) + (w64 x.n))) + 7)) 1073741823, trivial, ?_⟩
      simp only
      rw [decide_eq_true (by omega : (k : Int) < (b.length : Int)), decide_eq_true (by omega : (k : Int) < 4000), hx, w64_nat (by omega)]
      rfl) (fun t _ => by
      simp only
      by_cases hc : b.length ≤ 4000
      · rw [decide_eq_false (by omega : ¬ ((min b.length 4000 : Nat) : Int) < (b.length : Int))]
        rfl
      · rw [decide_eq_true (by omega : ((min b.length 4000 : Nat) : Int) < (b.length : Int)), decide_eq_false (by omega : ¬ ((min b.length 4000 : Nat) : Int) < 4000)]
        rfl) (w64 (98011 + (b.length : Int))) (0, w64 (98011 + (b.length : Int))) rfl trivial
  rw [e]
  exact ⟨t, rfl⟩

theorem places_ok (b : List U8) (hl : b.length ≤ 1048576) : ∃ p, spec_DrawPlaces b = some p ∧ p.length = 12 ∧ ∀ x ∈ p, 0 ≤ x ∧ x ≤ 9999 := by
  unfold spec_DrawPlaces
  obtain ⟨h, e⟩ := new_ok b hl
  rw [e]
  simp only [Option.bind_some]
  obtain ⟨t, ⟨t1, t2, t3⟩, e2⟩ := loop_inv (ρ := List Int) (body := fun (s27 : Int × (List Int) × Int × Int) =>
    cond (decide (s27.1 < 12))
      ((spec_l01Below b s27.2.2.1 s27.2.2.2 10000).bind fun t43 =>
      (appC s27.2.1 ([t43.1] : List Int)).bind fun l50 =>
      some (.cont (w64 (s27.1 + 1), l50, t43.2.1, t43.2.2)))
      (some (.done (.inl s27.2.1)))) (fun k (t : List Int × Int × Int) => ((k : Int), t.1, t.2.1, t.2.2)) (fun k t => t.1.length = k ∧ (∀ x ∈ t.1, 0 ≤ x ∧ x ≤ 9999) ∧ 0 ≤ t.2.1 ∧ t.2.1 ≤ b.length) 12 (fun t => t.1) (fun k t hk hi => by
      obtain ⟨i1, i2, i3⟩ := hi
      obtain ⟨v, j, q, e3, hv, hj⟩ := below_ok b t.2.1 t.2.2 10000 hl i3 (by omega)
      refine ⟨(t.1 ++ [v], j, q), ⟨by simp [i1], fun x hx => ?_, hj⟩, ?_⟩
      · rw [List.mem_append] at hx
        rcases hx with hx | hx
        · exact i2 x hx
        · simp only [List.mem_singleton] at hx
          subst hx
          omega
      · simp only
        rw [decide_eq_true (by omega), e3]
        simp only [cond_true, Option.bind_some]
        rw [appC_ok _ _ (by simp [i1]; omega), w64_nat (by omega)]
        rfl) (fun t hi => rfl) ([], 0, h) (0, ([] : List Int), 0, h) rfl ⟨rfl, by simp, Int.le_refl _, Int.natCast_nonneg _⟩
  rw [e2]
  exact ⟨t.1, rfl, t1, t2⟩

theorem place_at {p : List Int} (hl : p.length = 12) (hb : ∀ x ∈ p, 0 ≤ x ∧ x ≤ 9999) {k : Nat} (hk : k < 12) : ∃ v, idx p (k : Int) = some v ∧ 0 ≤ v ∧ v ≤ 9999 := by
  obtain ⟨v, hv⟩ := idx_ex (l := p) (i := (k : Int)) (by omega) (by omega)
  refine ⟨v, hv, hb v ?_⟩
  rw [idx_nat] at hv
  exact List.mem_of_getElem? hv

instance : Inhabited Band := ⟨⟨0, 0⟩⟩

theorem loop_all9 {σ ρ : Type} {body : σ → Option (LS σ ρ)} {s0 : σ} {r : ρ} (I : Nat → σ) (N : Nat) (h0 : I 0 = s0) (hs : ∀ k, k < N → body (I k) = some (.cont (I (k + 1)))) (he : body (I N) = some (.done r)) : loopW body s0 = some r := by
  rw [← h0, loopW_count I N hs, loopW_done he]

theorem loop_bind9 {σ ρ τ : Type} {body : σ → Option (LS σ ρ)} {s0 : σ} {r : ρ} {K : ρ → Option τ} {v : Option τ} (I : Nat → σ) (N : Nat) (h0 : I 0 = s0) (hs : ∀ k, k < N → body (I k) = some (.cont (I (k + 1)))) (he : body (I N) = some (.done r)) (hk : K r = v) : (loopW body s0).bind K = v := by
  rw [loop_all9 I N h0 hs he]
  exact hk

def ResOk (p : Int) (b : Band) (v : Int) : Prop := spec_ReserveFor p b = some (v, true) ∧ impl_ReserveFor p b = some (v, true) ∧ 0 ≤ v ∧ v ≤ 10000000

theorem reserve_ok {p : Int} {b : Band} (hp : 0 ≤ p ∧ p ≤ 9999) (hb : 0 ≤ b.Low ∧ b.Low ≤ b.High ∧ b.High ≤ 1000000000000) : ∃ v, ResOk p b v := by
  have m1 : 0 ≤ p * b.High := Int.mul_nonneg hp.1 (by omega)
  have m2 : p * b.High ≤ 9999 * 1000000000000 := Int.mul_le_mul hp.2 hb.2.2 (by omega) (by omega)
  have e : impl_ReserveFor p b = some ((p * b.High + 999999999) / 1000000000, true) := by
    unfold impl_ReserveFor
    rw [BandOk_eq, BandOk_val, within_eq, decide_eq_true (by omega), inB_true.2 (by omega : (0 : Int) ≤ p ∧ p ≤ 1000000)]
    simp only [Bool.not_true, cond_false, Option.bind_some]
    rw [decide_eq_false (by omega : ¬ b.High > 1000000000000)]
    simp only [cond_false, Option.bind_some]
    generalize p * b.High = z at m1 m2
    unfold impl_ceilDiv
    rw [nz_eq (by decide)]
    simp only [Option.bind_some]
    rw [w64_id (x := z) (by omega), w64_id (x := z + 1000000000) (by omega), w64_id (x := z + 1000000000 - 1) (by omega), tdiv_pos (by omega), show z + 1000000000 - 1 = z + 999999999 by omega, w64_id (by omega)]
  obtain ⟨w, h1, h2⟩ := ReserveFor_some p b
  rw [e] at h1
  simp only [Option.some.injEq] at h1
  subst h1
  generalize p * b.High = z at m1 m2 e h2
  exact ⟨_, h2, e, by omega, by omega⟩

theorem band_ok {a c : Int} (ha : 1 ≤ a ∧ a ≤ 300) (hc : 1 ≤ c ∧ c ≤ 20) : ∃ b : Band, spec_BandOf a c = some (b, true) ∧ 0 ≤ b.Low ∧ b.Low ≤ b.High ∧ b.High ≤ 1000000000000 := by
  unfold spec_BandOf
  rw [l01In_eq, l01In_eq, inB_true.2 (by omega : (0 : Int) ≤ a ∧ a ≤ 1000000), inB_true.2 (by omega : (1 : Int) ≤ c ∧ c ≤ 1000000)]
  simp only [Bool.not_true, cond_false, Option.bind_some, nz_eq (by omega : c ≠ 0)]
  have q0 : 0 ≤ a * 1000000000 / c := Int.ediv_nonneg (by omega) (by omega)
  have q1 : a * 1000000000 / c ≤ a * 1000000000 := Int.ediv_le_self _ (by omega)
  have q2 : a * 1000000000 / c ≤ (a * 1000000000 + c - 1) / c := Int.ediv_le_ediv (by omega) (by omega)
  have q3 : (a * 1000000000 + c - 1) / c ≤ a * 1000000000 + c - 1 := Int.ediv_le_self _ (by omega)
  rw [w64_id (x := a * 1000000000) (by omega), w64_id (x := a * 1000000000 + c) (by omega), w64_id (x := a * 1000000000 + c - 1) (by omega), tdiv_pos (by omega), tdiv_pos (by omega), w64_id (x := a * 1000000000 / c) (by omega), w64_id (by omega)]
  exact ⟨_, rfl, q0, q2, by show (a * 1000000000 + c - 1) / c ≤ 1000000000000; omega⟩

def sumV (f : Nat → Int) : Nat → Int
  | 0 => 0
  | k + 1 => sumV f k + f k

theorem sumV_congr {f g : Nat → Int} : ∀ {k : Nat}, (∀ j, j < k → f j = g j) → sumV f k = sumV g k
  | 0, _ => rfl
  | k + 1, h => by
    show sumV f k + f k = sumV g k + g k
    rw [sumV_congr (fun j hj => h j (by omega)), h k (by omega)]

theorem sumV_bound {f : Nat → Int} : ∀ {k : Nat}, (∀ j, j < k → 0 ≤ f j ∧ f j ≤ 10000000) → 0 ≤ sumV f k ∧ sumV f k ≤ k * 10000000
  | 0, _ => by simp [sumV]
  | k + 1, h => by
    have h1 := sumV_bound (f := f) (k := k) (fun j hj => h j (by omega))
    have h2 := h k (by omega)
    show 0 ≤ sumV f k + f k ∧ sumV f k + f k ≤ ((k + 1 : Nat) : Int) * 10000000
    omega

theorem liability_ok (x : List Int) (y : List Band) (f : Nat → Int) (hl : x.length = y.length) (hn : x.length ≤ 10) (hr : ∀ j, j < x.length → ResOk (gt x j) (gt y j) (f j)) : impl_LiabilityOf x y = some (sumV f x.length, true) := by
  unfold impl_LiabilityOf
  have e : ((x.length : Int) != (y.length : Int)) = false := by rw [hl]; simp
  rw [e, decide_eq_false (by omega : ¬ (x.length : Int) > 100)]
  simp only [cond_false, Option.bind_some]
  refine loop_bind9 (r := .inl (sumV f x.length)) (fun k => ((k : Int), sumV f k)) x.length rfl (fun k hk => ?_) ?_ rfl
  · obtain ⟨_, h2, h3, h4⟩ := hr k hk
    have hb := sumV_bound (f := f) (k := k) (fun j hj => ⟨(hr j (by omega)).2.2.1, (hr j (by omega)).2.2.2⟩)
    simp only
    rw [decide_eq_true (by omega), idx_gt hk, idx_gt (by omega : k < y.length)]
    simp only [cond_true, Option.bind_some, h2]
    rw [w64_nat (by omega), w64_id (by omega)]
    rfl
  · simp only
    rw [decide_eq_false (by omega)]
    rfl

theorem gt_snoc {α : Type} [Inhabited α] (l : List α) (x : α) : gt (l ++ [x]) l.length = x := gt_of (by rw [List.getElem?_append_right (Nat.le_refl _), Nat.sub_self]; rfl)

theorem Liabilities_law (x0 : List U8) (wx : Wf.wf x0) : laws_FnLiabilities x0 = some true := by
  unfold laws_FnLiabilities laws_big
  simp only [Option.bind_some]
  by_cases hb : (x0.length : Int) > 1048576
  · rw [decide_eq_true hb]; rfl
  rw [decide_eq_false hb]
  obtain ⟨p, e, hl, hp⟩ := places_ok x0 (by omega)
  obtain ⟨v0, e0, b0⟩ := place_at hl hp (k := 0) (by omega)
  have e0' : idx p 0 = some v0 := e0
  simp only [cond_false, e, e0', Option.bind_some]
  rw [tmod_pos b0.1]
  obtain ⟨n, hn⟩ : ∃ n : Nat, v0 % 6 = (n : Int) := ⟨(v0 % 6).toNat, by omega⟩
  have hn5 : n ≤ 5 := by omega
  rw [hn]
  obtain ⟨t, ⟨f, i1, i2, i3, i4⟩, e5⟩ := loop_inv (ρ := Bool) (body := fun (s39 : Int × Int × (List Band) × (List Int)) =>
      cond (decide (s39.1 < (n : Int)))
        ((idx p (w64 (1 + s39.1))).bind fun x78 =>
        (idx p (w64 (2 + s39.1))).bind fun x81 =>
        (spec_BandOf (w64 (1 + (Int.tmod x78 300))) (w64 (1 + (Int.tmod x81 20)))).bind fun t84 =>
        (idx p (w64 (3 + s39.1))).bind fun x89 =>
        (spec_ReserveFor x89 t84.1).bind fun t92 =>
        (idx p (w64 (3 + s39.1))).bind fun x96 =>
        (appC s39.2.2.2 ([x96] : List Int)).bind fun l102 =>
        (appC s39.2.2.1 ([t84.1] : List Band)).bind fun l108 =>
        some (.cont (w64 (s39.1 + 1), w64 (s39.2.1 + t92.1), l108, l102)))
        (some (.done (.inl (s39.2.1, s39.2.2.1, s39.2.2.2))))) (fun k (t : Int × List Band × List Int) => ((k : Int), t.1, t.2.1, t.2.2))
      (fun k t => ∃ f : Nat → Int, t.2.2.length = k ∧ t.2.1.length = k ∧ t.1 = sumV f k ∧ ∀ j, j < k → ResOk (gt t.2.2 j) (gt t.2.1 j) (f j)) n (fun t => (t.1, t.2.1, t.2.2)) (fun k t hk hi => by
      obtain ⟨f, i1, i2, i3, i4⟩ := hi
      obtain ⟨w1, d1, c1⟩ := place_at hl hp (k := 1 + k) (by omega)
      obtain ⟨w2, d2, c2⟩ := place_at hl hp (k := 2 + k) (by omega)
      obtain ⟨w3, d3, c3⟩ := place_at hl hp (k := 3 + k) (by omega)
      obtain ⟨bd, g1, g2⟩ := band_ok (a := 1 + w1 % 300) (c := 1 + w2 % 20) (by omega) (by omega)
      obtain ⟨v, hv⟩ := reserve_ok c3 g2
      have hsb := sumV_bound (f := f) (k := k) (fun j hj => ⟨(i4 j hj).2.2.1, (i4 j hj).2.2.2⟩)
      have hvb := hv.2.2
      refine ⟨(t.1 + v, t.2.1 ++ [bd], t.2.2 ++ [w3]), ⟨fun j => if j = k then v else f j, by simp [i1], by simp [i2], ?_, fun j hj => ?_⟩, ?_⟩
      · show t.1 + v = sumV (fun j => if j = k then v else f j) k + (if k = k then v else f k)
        rw [if_pos rfl, i3, sumV_congr (g := f) (fun j hj => if_neg (by omega))]
      · by_cases hjk : j = k
        · subst hjk
          have a1 := gt_snoc t.2.2 w3
          have a2 := gt_snoc t.2.1 bd
          rw [i1] at a1
          rw [i2] at a2
          simp only [if_true]
          rw [a1, a2]
          exact hv
        · simp only [hjk, if_false]
          rw [gt_append_left (by omega), gt_append_left (by omega)]
          exact i4 j (by omega)
      · have u1 : w64 (1 + (k : Int)) = ((1 + k : Nat) : Int) := by rw [w64_id (by omega)]; omega
        have u2 : w64 (2 + (k : Int)) = ((2 + k : Nat) : Int) := by rw [w64_id (by omega)]; omega
        have u3 : w64 (3 + (k : Int)) = ((3 + k : Nat) : Int) := by rw [w64_id (by omega)]; omega
        simp only [u1, u2, u3, d1, d2, d3, Option.bind_some]
        rw [decide_eq_true (by omega), tmod_pos c1.1, tmod_pos c2.1, w64_id (x := 1 + w1 % 300) (by omega), w64_id (x := 1 + w2 % 20) (by omega), g1]
        simp only [cond_true, Option.bind_some]
        rw [hv.1]
        simp only [Option.bind_some]
        rw [appC_ok _ _ (by simp [i1]; omega)]
        simp only [Option.bind_some]
        rw [appC_ok _ _ (by simp [i2]; omega), w64_nat (by omega), w64_id (by omega)]
        rfl) (fun t _ => by
      simp only
      rw [decide_eq_false (by omega)]
      rfl) (0, [], []) (0, 0, ([] : List Band), ([] : List Int)) rfl ⟨fun _ => 0, rfl, rfl, rfl, fun j hj => by omega⟩
  rw [e5]
  simp only [Option.bind_some, brkE]
  rw [liability_ok t.2.2 t.2.1 f (by omega) (by omega) (fun j hj => i4 j (by omega)), appC_ok _ _ (by simp [i1]; omega)]
  simp only [Option.bind_some]
  have e9 : impl_LiabilityOf (t.2.2 ++ [1]) t.2.1 = some (0, false) := by
    unfold impl_LiabilityOf
    have : (((t.2.2 ++ [1]).length : Int) != (t.2.1.length : Int)) = true := by simp [i1, i2]; omega
    rw [this]
    rfl
  rw [e9, i1, i3]
  simp

end Go.Pen
