import Derived.Test.YtmhjpbpdbdjiaaaDoorF
import Derived.Test.YtmhjpbpdbdjiaaaDoorPenU
import Derived.Test.YtmhjpbpdbdjiaaaDoorPenV
namespace Go.Pen
set_option linter.unusedVariables false
set_option linter.unusedSimpArgs false

theorem within_eq (x a b : Int) : impl_within x a b = some (inB x a b) := by
  unfold impl_within inB
  by_cases h : a ≤ x <;> by_cases h2 : x ≤ b <;> simp [h, h2]

instance : Inhabited ByteArray := ⟨ByteArray.mk #[]⟩

theorem szStringS_ex (x0 : List ByteArray) (left : Int) (hl : 0 ≤ left ∧ left ≤ 1048576) (w : Wf.wf x0) : ∃ v, laws_szStringS x0 left = some v ∧ (v < 0 ∨ (x0.length ≤ 1048576 ∧ 0 ≤ v ∧ v ≤ 1048576)) := by
  have h1 : x0.length ≤ 9223372036854775807 := w.1
  unfold laws_szStringS
  rw [w64_id (by omega : -9223372036854775808 ≤ left - (x0.length : Int) ∧ left - (x0.length : Int) ≤ 9223372036854775807)]
  by_cases h : left - (x0.length : Int) < 0
  · exact ⟨-1, by simp [h], .inl (by omega)⟩
  rw [decide_eq_false h]
  simp only [cond_false]
  rcases size_loop (ρ := Int) (fun x : ByteArray => x.size) x0 (left - (x0.length : Int)) (by omega) (fun s24 =>
    cond (decide (s24.1 < (x0.length : Int)))
      ((idx x0 s24.1).bind fun x40 =>
      cond (decide ((w64 (s24.2 - (x40.size : Int))) < 0))
        (some (.done (.inr (-1))))
        (some (.cont (w64 (s24.1 + 1), w64 (s24.2 - (x40.size : Int))))))
      (some (.done (.inl s24.2)))) (-1) (fun k x v hx hv => by
      have hk0 := (List.getElem?_eq_some_iff.1 hx).1
      have hm : x.size ≤ maxLen := w.2 x (List.mem_of_getElem? hx)
      have hm2 : x.size ≤ 9223372036854775807 := Nat.le_trans hm (by decide)
      simp only [idx_nat, hx, Option.bind_some, show ((k : Int) < (x0.length : Int)) by omega, decide_true, cond_true]
      rw [w64_id (by omega : -9223372036854775808 ≤ v - (x.size : Int) ∧ v - (x.size : Int) ≤ 9223372036854775807), w64_nat (by omega)]
      by_cases hc : v - (x.size : Int) < 0
      · exact .inl (by rw [decide_eq_true hc]; rfl)
      · exact .inr ⟨v - (x.size : Int), ⟨by omega, by omega⟩, by rw [decide_eq_false hc]; rfl⟩)
    (fun v => by simp) with h2 | ⟨v, h2, h3, h4⟩
  · exact ⟨-1, by rw [h2]; rfl, .inl (by omega)⟩
  · exact ⟨v, by rw [h2]; rfl, .inr ⟨by omega, h3, by omega⟩⟩

theorem toStringS_eq (x0 : List ByteArray) (h : x0.length ≤ 1048576) : laws_toStringS x0 = some x0 := by
  unfold laws_toStringS
  rw [mkL_len x0 (ByteArray.mk #[]) (by omega)]
  simp only [Option.bind_some]
  rw [copy_loop x0 (ByteArray.mk #[]) (by omega)]
  · rfl
  · intro k x l hx hk
    have hk0 := (List.getElem?_eq_some_iff.1 hx).1
    simp only [idx_nat, hx, List.getElem?_eq_getElem hk, Option.bind_some, w64_nat (by omega : k < 9223372036854775807), show ((k : Int) < (x0.length : Int)) by omega, decide_true, cond_true, Int.toNat_natCast]
  · intro l
    simp

theorem eqStringS_refl (x0 : List ByteArray) (h : x0.length ≤ 1048576) : laws_eqStringS x0 x0 = some true := by
  unfold laws_eqStringS
  simp only [bne_self_eq_false, cond_false]
  rw [eq_loop x0]
  · rfl
  · intro k x hx
    have hk0 := (List.getElem?_eq_some_iff.1 hx).1
    simp [idx_nat, hx, w64_nat (by omega : k < 9223372036854775807), hk0]
  · simp

theorem size_app (a b : ByteArray) : (a ++ b).size = a.size + b.size := ByteArray.size_append

theorem brk_inl {β ρ τ : Type} (x : β) (k : β → Option τ) (e : ρ → Option τ) : brkE (Sum.inl x : β ⊕ ρ) k e = k x := rfl

theorem byte_id {x : Int} (h : 0 ≤ x ∧ x ≤ 255) : w8 x = x := by
  unfold w8
  exact IntWalk.u8_in x h

theorem itoa_nat (u : Nat) : Lib.itoa (u : Int) = Lib.decDigits u := by unfold Lib.itoa; rw [if_neg (by omega)]; simp

def dgs (m : Nat) : List UInt8 := if m = 0 then [] else Lib.decDigits m

theorem dgs_step {m : Nat} (h : m ≠ 0) : dgs m = dgs (m / 10) ++ [UInt8.ofNat (48 + m % 10)] := by
  unfold dgs
  rw [if_neg h, Lib.decDigits]
  by_cases h1 : m < 10
  · rw [dif_pos h1, if_pos (by omega), Nat.mod_eq_of_lt h1]
    rfl
  · rw [dif_neg h1, if_neg (by omega)]

theorem figure_eq {d : Nat} (h : d < 10) : spec_l01Figure (d : Int) = some ((48 + d : Nat) : Int) := by
  unfold spec_l01Figure
  rw [decide_eq_true (by omega), w64_id (by omega), byte_id (by omega)]
  simp

theorem byte_data (d : Nat) : (bytesS ([U8.mk ((48 + d : Nat) : Int)] : List U8)).data.toList = [UInt8.ofNat (48 + d)] := rfl

noncomputable def fmtBody : ByteArray × Int → Option (LS (ByteArray × Int) (ByteArray ⊕ ByteArray)) := fun s24 =>
  cond (s24.2 != 0)
    (joinP (fun (j50 : Int) =>
      (spec_l01Figure j50).bind fun t55 =>
      (addS (bytesS ([U8.mk t55] : List U8)) s24.1).bind fun s61 =>
      some (.cont (s61, w64 (Int.tdiv s24.2 10))))
      (fun k52 =>
      cond (decide ((Int.tmod s24.2 10) < 0))
        (k52 (w64 (0 - (Int.tmod s24.2 10))))
        (k52 (Int.tmod s24.2 10))))
    (some (.done (.inl s24.1)))

theorem fmtLoop : ∀ (f m : Nat) (s : ByteArray), m < 10 ^ f → f ≤ 18 → s.size + f ≤ 1000 → ∃ s', loopW fmtBody (s, (m : Int)) = some (.inl s') ∧ s'.data.toList = dgs m ++ s.data.toList := by
  intro f
  induction f with
  | zero =>
    intro m s hm hf hs
    have h0 : m = 0 := by simpa using hm
    subst h0
    exact ⟨s, loopW_done rfl, rfl⟩
  | succ f ih =>
    intro m s hm hf hs
    by_cases h0 : m = 0
    · subst h0
      exact ⟨s, loopW_done rfl, rfl⟩
    · have hlt : m / 10 < 10 ^ f := by
        rw [Nat.pow_succ] at hm
        omega
      have hbig : (10 : Nat) ^ (f + 1) ≤ 10 ^ 18 := Nat.pow_le_pow_right (by omega) hf
      have hm18 : m < 1000000000000000000 := Nat.lt_of_lt_of_le hm hbig
      generalize hbb : bytesS ([U8.mk ((48 + m % 10 : Nat) : Int)] : List U8) = b
      have hbd : b.data.toList = [UInt8.ofNat (48 + m % 10)] := by rw [← hbb]; exact byte_data _
      have hbs : b.size = 1 := by rw [Lib.size_eq, hbd]; rfl
      have hsz : (b ++ s).size = 1 + s.size := by rw [size_app, hbs]
      obtain ⟨s', e, c⟩ := ih (m / 10) (b ++ s) hlt (by omega) (by omega)
      refine ⟨s', ?_, ?_⟩
      · rw [← e]
        refine loopW_cont ?_
        unfold fmtBody joinP
        have t1 : Int.tmod (m : Int) 10 = ((m % 10 : Nat) : Int) := by rw [Int.tmod_eq_emod_of_nonneg (by omega)]; omega
        have t2 : Int.tdiv (m : Int) 10 = ((m / 10 : Nat) : Int) := by rw [Int.tdiv_eq_ediv_of_nonneg (by omega)]; omega
        have t3 : ((m : Int) != 0) = true := by simp; omega
        simp only [t1, t2, t3, cond_true]
        rw [decide_eq_false (by omega : ¬ ((m % 10 : Nat) : Int) < 0)]
        simp only [cond_false]
        rw [figure_eq (by omega : m % 10 < 10), w64_id (by omega)]
        simp only [Option.bind_some]
        rw [hbb]
        unfold addS
        rw [if_pos (by omega)]
        rfl
      · rw [c, ByteArray.data_append, Array.toList_append, hbd, dgs_step h0, List.append_assoc]

theorem FormatInt_spec {m : Nat} (h : m < 1000000000000000000) : spec_FormatInt (m : Int) = some ⟨(Lib.decDigits m).toArray⟩ := by
  unfold spec_FormatInt
  by_cases h0 : m = 0
  · subst h0
    rw [Lib.decDigits]
    rfl
  · have t3 : ((m : Int) == 0) = false := by simp; omega
    rw [t3]
    obtain ⟨s', e, c⟩ := fmtLoop 18 m (ByteArray.mk #[]) h (by omega) (by decide)
    have hs : s' = ⟨(Lib.decDigits m).toArray⟩ := by
      rw [← Lib.mk_data s', c]
      unfold dgs
      rw [if_neg h0]
      simp
    have e2 := e
    unfold fmtBody at e2
    simp only [cond_false]
    rw [e2]
    simp only [Option.bind_some, brk_inl]
    rw [decide_eq_false (by omega), hs]
    rfl

theorem decDigits_digit {m : Nat} {x : UInt8} (h : x ∈ Lib.decDigits m) : 48 ≤ x.toNat ∧ x.toNat ≤ 57 := by
  rw [Lib.decDigits_eq] at h
  obtain ⟨j, _, rfl⟩ := List.mem_map.1 h
  unfold Lib.dg
  have : m / 10 ^ (Lib.nDigits m - 1 - j) % 10 < 10 := Nat.mod_lt _ (by omega)
  generalize m / 10 ^ (Lib.nDigits m - 1 - j) % 10 = d at this
  rw [UInt8.toNat_ofNat']
  omega

theorem byteS_at {s : ByteArray} {k : Nat} {b : UInt8} (h : s.data.toList[k]? = some b) : byteS s (k : Int) = some (b.toNat : Int) := by
  obtain ⟨hk, e⟩ := List.getElem?_eq_some_iff.1 h
  have hk2 : k < s.size := by rw [Lib.size_eq]; exact hk
  unfold byteS
  rw [dif_pos ⟨by omega, by omega⟩, ← e]
  rfl

noncomputable def puBody (x0 : ByteArray) : Int × Int → Option (LS (Int × Int) (Int ⊕ (Int × Bool))) := fun s24 =>
  cond (decide (s24.1 < (x0.size : Int)))
    (Option.bind (α := Bool)
      ((byteS x0 s24.1).bind fun s56 =>
      cond (decide (s56 < 48))
        (some true)
        ((byteS x0 s24.1).bind fun s62 =>
        some (decide (s62 > 57))))
      fun p53 =>
    cond p53
      (some (.done (.inr (0, false))))
      ((byteS x0 s24.1).bind fun s69 =>
      some (.cont (w64 (s24.1 + 1), w64 ((w64 ((w64 (10 * s24.2)) + (w64 s69))) - 48)))))
    (some (.done (.inl s24.2)))

theorem puLoop (x0 : ByteArray) (hz : x0.size ≤ 10) : ∀ (j k acc : Nat), k + j = x0.size → Lib.decFrom 0 (x0.data.toList.take k) = some acc →
    loopW (puBody x0) ((k : Int), (acc : Int)) = some (match Lib.decFrom 0 x0.data.toList with | some m => .inl (m : Int) | none => .inr (0, false)) := by
  intro j
  induction j with
  | zero =>
    intro k acc hk ha
    rw [List.take_of_length_le (by rw [← Lib.size_eq]; omega)] at ha
    rw [ha]
    refine loopW_done ?_
    unfold puBody
    simp only
    rw [decide_eq_false (by omega)]
    rfl
  | succ j ih =>
    intro k acc hk ha
    have hkl : k < x0.data.toList.length := by rw [← Lib.size_eq]; omega
    obtain ⟨b, hb⟩ : ∃ b, x0.data.toList[k]? = some b := ⟨_, List.getElem?_eq_getElem hkl⟩
    have hbyte := byteS_at hb
    have hacc := Lib.decFrom_take_lt ha (by omega)
    cases hd : Lib.digitVal b with
    | some d =>
      obtain ⟨h1, h2, h3⟩ := Lib.digitVal_eq hd
      rw [← ih (k + 1) (acc * 10 + d) (by omega) (Lib.decFrom_take _ k 0 acc b d ha hb hd)]
      refine loopW_cont ?_
      unfold puBody
      simp only
      rw [decide_eq_true (by omega : (k : Int) < (x0.size : Int)), hbyte]
      simp only [cond_true, Option.bind_some]
      rw [decide_eq_false (by omega : ¬ (b.toNat : Int) < 48), decide_eq_false (by omega : ¬ (b.toNat : Int) > 57)]
      simp only [cond_false, Option.bind_some]
      have w1 : w64 (10 * (acc : Int)) = 10 * (acc : Int) := w64_id (by omega)
      have w2 : w64 (b.toNat : Int) = (b.toNat : Int) := w64_id (by omega)
      have w3 : w64 (10 * (acc : Int) + (b.toNat : Int)) = 10 * (acc : Int) + (b.toNat : Int) := w64_id (by omega)
      have w4 : w64 (10 * (acc : Int) + (b.toNat : Int) - 48) = ((acc * 10 + d : Nat) : Int) := by rw [w64_id (by omega)]; omega
      rw [w1, w2, w3, w4, w64_nat (by omega)]
    | none =>
      have hn : Lib.decFrom 0 x0.data.toList = none := by
        cases hm : Lib.decFrom 0 x0.data.toList with
        | none => rfl
        | some m =>
          obtain ⟨d, h⟩ := Lib.digit_of_decFrom _ 0 m hm k b hb
          rw [hd] at h
          cases h
      rw [hn]
      refine loopW_done ?_
      unfold puBody
      simp only
      rw [decide_eq_true (by omega : (k : Int) < (x0.size : Int)), hbyte]
      simp only [cond_true, Option.bind_some]
      unfold Lib.digitVal at hd
      split at hd
      · cases hd
      · rename_i hc
        by_cases h1 : (b.toNat : Int) < 48
        · rw [decide_eq_true h1]; rfl
        · rw [decide_eq_false h1, decide_eq_true (by omega : (b.toNat : Int) > 57)]; rfl

def puNice (s : ByteArray) : Int × Bool :=
  match Lib.decFrom 0 s.data.toList with
  | some m => if m ≤ 1000000000 ∧ Lib.decDigits m = s.data.toList then ((m : Int), true) else (0, false)
  | none => (0, false)

theorem decF_lt {s : ByteArray} (hz : s.size ≤ 10) {m : Nat} (h : Lib.decFrom 0 s.data.toList = some m) : m < 1000000000000000000 :=
  Lib.decFrom_lt18 h (by rw [← Lib.size_eq]; omega)

theorem sameText {l : List UInt8} {s : ByteArray} : ((⟨l.toArray⟩ : ByteArray).toList == s.toList) = decide (l = s.data.toList) := by
  rw [Lib.toList_data, Lib.toList_data]
  by_cases h : l = s.data.toList
  · simp [h]
  · simp [h]

theorem ParseUint_spec {s : ByteArray} (hz : s.size ≤ 10) : spec_ParseUint s = some (puNice s) := by
  unfold spec_ParseUint
  rw [decide_eq_false (by omega)]
  have e := puLoop s hz s.size 0 0 (by omega) (by simp [Lib.decFrom])
  unfold puBody at e
  simp only [cond_false]
  rw [show ((0 : Int), (0 : Int)) = (((0 : Nat) : Int), ((0 : Nat) : Int)) from rfl, e]
  unfold puNice
  cases hm : Lib.decFrom 0 s.data.toList with
  | none => rfl
  | some m =>
    have hlt := decF_lt hz hm
    simp only [Option.bind_some, brk_inl]
    by_cases h9 : m ≤ 1000000000
    · rw [decide_eq_false (by omega : ¬ (m : Int) > 1000000000), FormatInt_spec hlt]
      simp only [cond_false, Option.bind_some]
      rw [sameText]
      by_cases h : Lib.decDigits m = s.data.toList
      · simp [h, h9]
      · simp [h]
    · rw [decide_eq_true (by omega : (m : Int) > 1000000000)]
      simp [h9]

theorem FormatInt_impl {n : Int} (h : -1000000000000000000 < n ∧ n < 1000000000000000000) : impl_FormatInt n = some ⟨(Lib.itoa n).toArray⟩ := by
  unfold impl_FormatInt strconv_Itoa
  rw [if_pos (by omega)]
  rfl

theorem ParseUint_impl {s : ByteArray} (hz : s.size ≤ 10) : impl_ParseUint s = some (puNice s) := by
  unfold impl_ParseUint
  rw [decide_eq_false (by omega)]
  have hl : s.data.toList.length ≤ 10 := by rw [← Lib.size_eq]; exact hz
  have hP : ∀ (n : Int), -1000000000000000000 < n ∧ n < 1000000000000000000 → (Option.bind (α := Bool)
        ((impl_within n 0 1000000000).bind fun b =>
          cond (!b)
            (some true)
            ((impl_FormatInt n).bind fun t =>
            some (!(t.toList == s.toList))))
        fun p =>
      cond p
        (some ((0 : Int), false))
        (some (n, true))) = some (if (0 ≤ n ∧ n ≤ 1000000000) ∧ Lib.itoa n = s.data.toList then (n, true) else (0, false)) := by
    intro n hn
    rw [within_eq, FormatInt_impl hn]
    simp only [Option.bind_some]
    rw [sameText]
    unfold inB
    by_cases h1 : 0 ≤ n ∧ n ≤ 1000000000
    · by_cases h2 : Lib.itoa n = s.data.toList
      · simp [h1, h2]
      · simp [h1, h2]
    · simp [h1]
  unfold puNice
  simp only [cond_false]
  cases hL : s.data.toList with
  | nil =>
    have h1 : Lib.atoi ([] : List UInt8) = none := rfl
    have h2 : Lib.decFrom 0 ([] : List UInt8) = some 0 := rfl
    rw [h1, h2]
    simp only
    rw [if_neg (fun h => by rw [Lib.decDigits] at h; simp at h)]
  | cons b r =>
    rw [hL] at hl
    simp only [List.length_cons] at hl
    have hr18 : ∀ {m : Nat}, Lib.decNat r = some m → m < 1000000000000000000 := fun h => Lib.decFrom_lt18 (Lib.decNat_some h).2 (by omega)
    have hnd : ∀ m : Nat, b.toNat < 48 → Lib.decDigits m ≠ b :: r := fun m hb h => by
      have := (decDigits_digit (m := m) (x := b) (by rw [h]; simp)).1
      omega
    have hbad : b.toNat < 48 → Lib.decFrom 0 (b :: r) = none := fun hb => by
      cases hm : Lib.decFrom 0 (b :: r) with
      | none => rfl
      | some m =>
        obtain ⟨d, h⟩ := Lib.digit_of_decFrom _ 0 m hm 0 b rfl
        have := Lib.digitVal_eq h
        omega
    by_cases h45 : b = 45
    · subst h45
      rw [hbad (by decide)]
      have e : Lib.atoi (45 :: r) = (Lib.decNat r).map fun (m : Nat) => -(m : Int) := rfl
      rw [e]
      cases hm : Lib.decNat r with
      | none => rfl
      | some m =>
        have hlt := hr18 hm
        simp only [Option.map_some]
        rw [hP _ (by omega), if_neg]
        rintro ⟨⟨h1, h2⟩, h3⟩
        have h0 : m = 0 := by omega
        subst h0
        rw [hL] at h3
        exact hnd 0 (by decide) (by simpa [Lib.itoa] using h3)
    by_cases h43 : b = 43
    · subst h43
      rw [hbad (by decide)]
      have e : Lib.atoi (43 :: r) = (Lib.decNat r).map fun (m : Nat) => (m : Int) := rfl
      rw [e]
      cases hm : Lib.decNat r with
      | none => rfl
      | some m =>
        have hlt := hr18 hm
        simp only [Option.map_some]
        rw [hP _ (by omega), if_neg]
        rintro ⟨⟨h1, h2⟩, h3⟩
        rw [hL] at h3
        exact hnd m (by decide) (by rw [← itoa_nat]; exact h3)
    have e : Lib.atoi (b :: r) = (Lib.decFrom 0 (b :: r)).map fun (m : Nat) => (m : Int) := by
      unfold Lib.atoi
      simp only
      rw [if_neg (by simpa using h45), if_neg (by simpa using h43)]
      rfl
    rw [e]
    cases hm : Lib.decFrom 0 (b :: r) with
    | none => rfl
    | some m =>
      have hlt : m < 1000000000000000000 := Lib.decFrom_lt18 hm (by simp; omega)
      simp only [Option.map_some]
      rw [hP _ (by omega), hL, itoa_nat]
      by_cases h9 : m ≤ 1000000000
      · by_cases hq : Lib.decDigits m = b :: r
        · rw [if_pos ⟨⟨by omega, by omega⟩, hq⟩, if_pos ⟨h9, hq⟩]
        · rw [if_neg (fun h => hq h.2), if_neg (fun h => hq h.2)]
      · rw [if_neg (fun h => h9 (by omega)), if_neg (fun h => h9 h.1)]

theorem ParseUint_ex (s : ByteArray) : ∃ r, impl_ParseUint s = some r ∧ spec_ParseUint s = some r := by
  by_cases hz : s.size ≤ 10
  · exact ⟨_, ParseUint_impl hz, ParseUint_spec hz⟩
  · refine ⟨(0, false), ?_, ?_⟩
    · unfold impl_ParseUint
      rw [decide_eq_true (by omega)]
      rfl
    · unfold spec_ParseUint
      rw [decide_eq_true (by omega)]
      rfl

def amountB : ByteArray := ByteArray.mk #[97, 109, 111, 117, 110, 116, 32]

theorem AmountIn_ex (x0 : List ByteArray) (h : x0.length ≤ 1048576) : ∃ v, impl_AmountIn x0 = some v ∧ spec_AmountIn x0 = some v := by
  unfold impl_AmountIn spec_AmountIn
  by_cases h0 : x0.length = 0
  · exact ⟨-1, by simp [h0], by simp [h0]⟩
  have e0 : ((x0.length : Int) == 0) = false := by rw [beq_eq_false_iff_ne]; omega
  rw [e0, show w64 ((x0.length : Int) - 1) = ((x0.length - 1 : Nat) : Int) by rw [w64_id (by omega)]; omega, idx_nat, List.getElem?_eq_getElem (show x0.length - 1 < x0.length by omega)]
  simp only [cond_false, Option.bind_some]
  generalize x0[x0.length - 1]'(by omega) = s
  rw [show ByteArray.mk #[97, 109, 111, 117, 110, 116, 32] = amountB from rfl]
  have hA : amountB.size = 7 := rfl
  unfold strings_CutPrefix
  simp only [Option.bind_some]
  cases hp : Lib.hasPrefix s.data.toList amountB.data.toList with
  | false =>
    obtain ⟨r, r1, r2⟩ := ParseUint_ex ⟨(Lib.trimPrefix s.data.toList amountB.data.toList).toArray⟩
    refine ⟨-1, ?_, ?_⟩
    · rw [r1]
      rfl
    · by_cases h7 : s.size < 7
      · rw [decide_eq_true (by omega : (s.size : Int) < 7)]
        rfl
      · rw [decide_eq_false (by omega : ¬ (s.size : Int) < 7)]
        have e1 : headS s 7 = some (s.extract 0 7) := by unfold headS; rw [if_pos (by omega)]; rfl
        rw [e1]
        simp only [cond_false, Option.bind_some]
        have hr := Lib.hasPrefix_raw s amountB
        rw [hp, hA, decide_eq_true (by omega)] at hr
        simp only [Bool.true_and] at hr
        rw [hr]
        rfl
  | true =>
    have hr := Lib.hasPrefix_raw s amountB
    rw [hp, hA, Bool.and_eq_true] at hr
    obtain ⟨h7, hr⟩ := hr
    have h7 := of_decide_eq_true h7
    have ht : (⟨(Lib.trimPrefix s.data.toList amountB.data.toList).toArray⟩ : ByteArray) = s.extract 7 s.size := Lib.trimPrefix_hit s amountB (by rw [hA]; exact h7) (by rw [hA]; exact hr)
    rw [ht]
    obtain ⟨r, r1, r2⟩ := ParseUint_ex (s.extract 7 s.size)
    have e1 : headS s 7 = some (s.extract 0 7) := by unfold headS; rw [if_pos (by omega)]; rfl
    have e2 : tailS s 7 = some (s.extract 7 s.size) := by unfold tailS; rw [if_pos (by omega)]; rfl
    rw [decide_eq_false (by omega : ¬ (s.size : Int) < 7), e1, e2]
    simp only [cond_false, Option.bind_some]
    rw [hr, r1, r2]
    obtain ⟨v, b⟩ := r
    cases b
    · exact ⟨-1, rfl, rfl⟩
    · exact ⟨v, rfl, rfl⟩

theorem AmountIn_law (x : List ByteArray) (wx : Wf.wf x) : laws_FnExactAmountIn x = some true := by
  unfold laws_FnExactAmountIn
  obtain ⟨v, e0, c0⟩ := szStringS_ex x 1048576 (by omega) wx
  rw [e0]
  simp only [Option.bind_some]
  rcases c0 with c0 | ⟨h, c1⟩
  · simp [c0]
  rw [decide_eq_false (by omega : ¬ v < 0)]
  obtain ⟨g, g1, g2⟩ := AmountIn_ex x h
  simp [toStringS_eq x h, g1, g2, eqStringS_refl x h]

end Go.Pen
