/-
  Weakening, cuts, loops; regions that draw their order.
-/
import Derived.Test.YtmhjpbpdbdjiaaaDoorPenC
namespace Go.Pen
open Go.RowKit
set_option linter.unusedVariables false

/-! ### Options -/

theorem bS {α β : Type} {o : Option α} {f : α → Option β} {b : β} (h : o.bind f = some b) : ∃ a, o = some a ∧ f a = some b := Option.bind_eq_some_iff.1 h
theorem cT {α : Type} {b : Bool} {x y : Option α} {r : α} (hb : b = true) (h : cond b x y = some r) : x = some r := by subst hb; exact h
theorem cF {α : Type} {b : Bool} {x y : Option α} {r : α} (hb : b = false) (h : cond b x y = some r) : y = some r := by subst hb; exact h
theorem sI {α : Type} {a b : α} (h : some a = some b) : a = b := Option.some.inj h

/-- What a round of a loop comes to. -/
inductive LS (σ ρ : Type) where
  | cont (s : σ)
  | done (r : ρ)

def loopF {σ ρ : Type} (body : σ → Option (LS σ ρ)) : Nat → σ → Option ρ
  | 0, _ => none
  | k + 1, s => match body s with
    | some (.cont s') => loopF body k s'
    | some (.done r) => some r
    | none => none

open Classical in
noncomputable def loopW {σ ρ : Type} (body : σ → Option (LS σ ρ)) (s : σ) : Option ρ :=
  if h : ∃ r, ∃ k, loopF body k s = some r then some (Classical.choose h) else none

theorem loopF_mono {σ ρ : Type} {body : σ → Option (LS σ ρ)} : ∀ {k m : Nat} {s : σ} {r : ρ}, loopF body k s = some r → k ≤ m → loopF body m s = some r
  | 0, _, _, _, h, _ => by simp [loopF] at h
  | k + 1, 0, _, _, _, hm => by omega
  | k + 1, m + 1, s, r, h, hm => by
    simp only [loopF] at h ⊢
    cases hb : body s with
    | none => simp [hb] at h
    | some t =>
      cases t with
      | cont s' => simp only [hb] at h ⊢; exact loopF_mono h (by omega)
      | done r' => simpa [hb] using h

theorem loopF_det {σ ρ : Type} {body : σ → Option (LS σ ρ)} {k m : Nat} {s : σ} {r r' : ρ} (h : loopF body k s = some r) (h' : loopF body m s = some r') : r = r' := by
  have h1 := loopF_mono h (Nat.le_max_left k m)
  have h2 := loopF_mono h' (Nat.le_max_right k m)
  rw [h1] at h2
  exact Option.some.inj h2

theorem loopW_of {σ ρ : Type} {body : σ → Option (LS σ ρ)} {k : Nat} {s : σ} {r : ρ} (h : loopF body k s = some r) : loopW body s = some r := by
  have hex : ∃ r, ∃ k, loopF body k s = some r := ⟨r, k, h⟩
  unfold loopW
  rw [dif_pos hex]
  obtain ⟨m, hm⟩ := Classical.choose_spec hex
  rw [loopF_det hm h]

theorem loopW_some {σ ρ : Type} {body : σ → Option (LS σ ρ)} {s : σ} {r : ρ} (h : loopW body s = some r) : ∃ k, loopF body k s = some r := by
  unfold loopW at h
  split at h
  · rename_i hex
    simp only [Option.some.injEq] at h
    rw [← h]
    exact Classical.choose_spec hex
  · cases h

theorem loopW_cont {σ ρ : Type} {body : σ → Option (LS σ ρ)} {s s' : σ} (h : body s = some (.cont s')) : loopW body s = loopW body s' := by
  cases h1 : loopW body s' with
  | some r =>
    obtain ⟨k, hk⟩ := loopW_some h1
    exact loopW_of (k := k + 1) (by simp only [loopF, h]; exact hk)
  | none =>
    cases h2 : loopW body s with
    | none => rfl
    | some r =>
      obtain ⟨k, hk⟩ := loopW_some h2
      cases k with
      | zero => simp [loopF] at hk
      | succ k =>
        simp only [loopF, h] at hk
        rw [loopW_of hk] at h1
        cases h1

theorem loopW_done {σ ρ : Type} {body : σ → Option (LS σ ρ)} {s : σ} {r : ρ} (h : body s = some (.done r)) : loopW body s = some r :=
  loopW_of (k := 1) (by simp [loopF, h])

/-- What a loop gave: broken off, or the function's result. -/
def brkE {β ρ τ : Type} (r : β ⊕ ρ) (k : β → Option τ) (e : ρ → Option τ) : Option τ :=
  match r with
  | .inl b => k b
  | .inr v => e v

theorem brkS {β ρ τ : Type} {r : β ⊕ ρ} {K : β → Option τ} {e : ρ → Option τ} {T : τ} (h : brkE r K e = some T) : ∃ k, k = K ∧ brkE r k e = some T := ⟨K, rfl, h⟩

/-- Ways that meet: what follows stands once. -/
def joinP {β τ : Type} (K : β → Option τ) (B : (β → Option τ) → Option τ) : Option τ := B K

theorem jS {β τ : Type} {K : β → Option τ} {B : (β → Option τ) → Option τ} {T : τ} (h : joinP K B = some T) : ∃ k, k = K ∧ B k = some T := ⟨K, rfl, h⟩

theorem leafB {σ β ρ τ : Type} {t : LS σ (β ⊕ ρ)} {r : β ⊕ ρ} {b : β} {k : β → Option τ} {e : ρ → Option τ} {T : τ} (hd : ∀ r', t = .done r' → r' = r) (ht : some (LS.done (.inl b)) = some t) (h : brkE r k e = some T) : k b = some T := by
  rw [← hd _ (Option.some.inj ht).symm] at h; exact h

theorem leafR {σ β ρ τ : Type} {t : LS σ (β ⊕ ρ)} {r : β ⊕ ρ} {v : ρ} {k : β → Option τ} {e : ρ → Option τ} {T : τ} (hd : ∀ r', t = .done r' → r' = r) (ht : some (LS.done (.inr v)) = some t) (h : brkE r k e = some T) : e v = some T := by
  rw [← hd _ (Option.some.inj ht).symm] at h; exact h

/-- Go's own names for what the walk computes. -/
def w64 (x : Int) : Int := IntKind.wrap .i64 x
def w8 (x : Int) : Int := IntKind.wrap .u8 x
def wu64 (x : Int) : Int := IntKind.wrap .u64 x
def imax (x y : Int) : Int := if y > x then y else x
def imin (x y : Int) : Int := if y < x then y else x

/-! ### Weakening -/

def takeR : List Nat → List Res → Option (List Res)
  | [], _ => some []
  | i :: is, R => match R[i]?, takeR is (R.eraseIdx i) with
    | some r, some R' => some (r :: R')
    | _, _ => none

theorem holdsAll_pick {w : World} : ∀ {R : List Res} {Fs : List (List Nat)} {i : Nat} {r : Res}, holdsAll w R Fs → R[i]? = some r →
    ∃ F Fs', r.holds w F ∧ holdsAll w (R.eraseIdx i) Fs' ∧ (F ++ Fs'.flatten).Perm Fs.flatten
  | [], _, i, r, _, h => by simp at h
  | r0 :: R, _, 0, r, ⟨F, Fs', rfl, hr, hR⟩, h => by
    simp only [List.getElem?_cons_zero, Option.some.injEq] at h
    subst h
    exact ⟨F, Fs', hr, hR, by simp⟩
  | r0 :: R, _, i + 1, r, ⟨F, Fs', rfl, hr, hR⟩, h => by
    simp only [List.getElem?_cons_succ] at h
    obtain ⟨F1, Fs1, h1, h2, h3⟩ := holdsAll_pick hR h
    refine ⟨F1, F :: Fs1, h1, ⟨F, Fs1, rfl, hr, h2⟩, ?_⟩
    simp only [List.flatten_cons]
    have : (F1 ++ (F ++ Fs1.flatten)).Perm (F ++ (F1 ++ Fs1.flatten)) := by
      rw [← List.append_assoc, ← List.append_assoc]
      exact List.Perm.append_right _ List.perm_append_comm
    exact this.trans (List.Perm.append_left _ h3)

theorem holdsAll_take {w : World} : ∀ {is : List Nat} {R R' : List Res} {Fs : List (List Nat)}, holdsAll w R Fs → takeR is R = some R' →
    ∃ Fs' rest, holdsAll w R' Fs' ∧ (Fs'.flatten ++ rest).Perm Fs.flatten
  | [], R, R', Fs, h, ht => by
    simp only [takeR, Option.some.injEq] at ht
    subst ht
    exact ⟨[], Fs.flatten, rfl, by simp⟩
  | i :: is, R, R', Fs, h, ht => by
    simp only [takeR] at ht
    split at ht
    · rename_i r R1 hr hR
      simp only [Option.some.injEq] at ht
      subst ht
      obtain ⟨F, Fs1, h1, h2, h3⟩ := holdsAll_pick h hr
      obtain ⟨Fs2, rest, g1, g2⟩ := holdsAll_take h2 hR
      refine ⟨F :: Fs2, rest, ⟨F, Fs2, rfl, h1, g1⟩, ?_⟩
      simp only [List.flatten_cons, List.append_assoc]
      exact (List.Perm.append_left F g2).trans h3
    · cases ht

section
variable {P : Program} {A : Nat → Prop} {W0 : World} {n : Nat} {ops : Array Oper} {sl sl' : List (Nat × SV)} {bx bx' : List (TypeId × List Value)} {R R' : List Res} {Q Q' : Exit → Act → World → Prop}

theorem SAT.takeR {γ : List Nat} {w : World} {is : List Nat} (h : SAT A W0 γ bx R w) (ht : takeR is R = some R') : SAT A W0 γ bx R' w := by
  obtain ⟨Fs, h1, h2, h3⟩ := h.own
  obtain ⟨Fs', rest, g1, g2⟩ := holdsAll_take h1 ht
  rw [List.nodup_append] at h2
  have hnd : (Fs'.flatten ++ rest).Nodup := (List.Perm.nodup_iff g2).2 h2.2.1
  refine ⟨h.kept, h.len, h.boxes, Fs', g1, ?_, ?_⟩
  · rw [List.nodup_append]
    exact ⟨h2.1, (List.nodup_append.1 hnd).1, fun x hx y hy => h2.2.2 x hx y (g2.mem_iff.1 (by simp [hy]))⟩
  · intro g hg
    rw [List.mem_append] at hg
    rcases hg with hg | hg
    · exact h3 g (by simp [hg])
    · exact h3 g (by rw [List.mem_append]; exact .inr (g2.mem_iff.1 (by simp [hg])))

theorem SAT.takeB {γ : List Nat} {w : World} (h : SAT A W0 γ bx R w) (m : Nat) : SAT A W0 (γ.take m) (bx.take m) R w := by
  obtain ⟨Fs, h1, h2, h3⟩ := h.own
  rw [List.nodup_append] at h2
  refine ⟨h.kept, by simp [h.len], ?_, Fs, h1, ?_, ?_⟩
  · intro k e cs hk
    rw [List.getElem?_take] at hk
    split at hk
    · rename_i hlt
      have := h.boxes k e cs hk
      have hkl : k < γ.length := by rw [h.len]; exact (List.getElem?_eq_some_iff.1 hk).1
      rw [show (γ.take m).getD k 0 = γ.getD k 0 by simp [List.getD, hlt]]
      exact this
    · cases hk
  · rw [List.nodup_append]
    exact ⟨h2.1.sublist (List.take_sublist m γ), h2.2.1, fun x hx y hy => h2.2.2 x (List.mem_of_mem_take hx) y hy⟩
  · intro g hg
    rw [List.mem_append] at hg
    rcases hg with hg | hg
    · exact h3 g (by simp [List.mem_of_mem_take hg])
    · exact h3 g (by rw [List.mem_append]; exact .inr hg)

/-- No slot leads to a box from m on. -/
def inbB (m : Nat) : List (Nat × SV) → Bool
  | [] => true
  | (_, .p k _) :: r => Nat.blt k m && inbB m r
  | (_, .f _ ks) :: r => ks.all (fun e => Nat.blt e.1 m) && inbB m r
  | _ :: r => inbB m r

theorem inbB_ok {m : Nat} : ∀ {sl : List (Nat × SV)} {t : Nat} {y : SV}, inbB m sl = true → look sl t = some y → y.inb m
  | [], t, y, _, h => by simp [look] at h
  | (u, x) :: r, t, y, hb, h => by
    simp only [look] at h
    have hr : inbB m r = true := by
      cases x <;> simp only [inbB, Bool.and_eq_true] at hb
      · exact hb
      · exact hb.2
      · exact hb
      · exact hb.2
    cases hu : Nat.beq u t with
    | true =>
      rw [hu] at h
      simp only [cond_true, Option.some.injEq] at h
      subst h
      cases x with
      | v z => trivial
      | p k off =>
        simp only [inbB, Bool.and_eq_true] at hb
        exact Nat.le_of_ble_eq_true hb.1
      | q a k => trivial
      | f i ks =>
        simp only [inbB, Bool.and_eq_true] at hb
        exact fun e he => Nat.le_of_ble_eq_true (List.all_eq_true.1 hb.1 e he)
    | false =>
      rw [hu] at h
      exact inbB_ok hr h

theorem SV.den_take {γ : List Nat} {x : SV} {m : Nat} (h : x.inb m) : x.den (γ.take m) = x.den γ := by
  cases x with
  | v y => rfl
  | p k off =>
    have : k < m := h
    simp [SV.den, List.getD, this]
  | q b k => rfl
  | f i ks =>
    simp only [SV.den]
    congr 2
    refine List.map_congr_left fun e he => ?_
    have : e.1 < m := h e he
    simp [List.getD, this]

theorem Live.weak {γ : List Nat} {a : Act} {ks : List Nat} {m : Nat} (h : Live n γ sl a) (hk : keepS ks sl = some sl') (hb : inbB m sl' = true) : Live n (γ.take m) sl' a := by
  refine ⟨h.defers, h.size, fun t x hx => ?_, fun t x hx => ?_⟩
  · rw [h.slot t x (look_keep hk hx), SV.den_take (inbB_ok hb hx)]
  · have h1 := inbB_ok hb hx
    have h2 := h.inb t x (look_keep hk hx)
    cases x with
    | v z => trivial
    | p k off => have e1 : k < m := h1; have e2 : k < γ.length := h2; simp only [SV.inb, List.length_take]; omega
    | q b k => trivial
    | f i ks => exact fun e he => by have e1 := h1 e he; have e2 := h2 e he; rw [List.length_take]; omega

/-- The state at a place where ways meet. -/
def Meet (A : Nat → Prop) (W0 : World) (n : Nat) {τ : Type} (slF : τ → List (Nat × SV)) (bxF : τ → List (TypeId × List Value)) (RF : τ → List Res) (a : Act) (w : World) : Prop :=
  ∃ y γ, Live n γ (slF y) a ∧ SAT A W0 γ (bxF y) (RF y) w

/-- A cut: ways meet. -/
theorem JC_cut {c : Code} {τ : Type} (slF : τ → List (Nat × SV)) (bxF : τ → List (TypeId × List Value)) (RF : τ → List Res)
    (h1 : JC P A W0 n c sl bx R (fun e a w => e = .normal ∧ Meet A W0 n slF bxF RF a w)) (h2 : ∀ y, JE A W0 n .normal (slF y) (bxF y) (RF y) Q) : JC P A W0 n c sl bx R Q := by
  intro γ a w hl hs
  refine wp_mono (h1 γ a w hl hs) ?_
  rintro e a' w' ⟨rfl, y, γ', hl', hs'⟩
  exact h2 y γ' a' w' hl' hs'

/-- A cut behind which other ways than the normal one may have left. -/
theorem JC_cutx {c : Code} {τ : Type} (slF : τ → List (Nat × SV)) (bxF : τ → List (TypeId × List Value)) (RF : τ → List Res)
    (h1 : JC P A W0 n c sl bx R (Exit.then (Meet A W0 n slF bxF RF) Q)) (h2 : ∀ y, JE A W0 n .normal (slF y) (bxF y) (RF y) Q) : JC P A W0 n c sl bx R Q := by
  intro γ a w hl hs
  refine wp_mono (h1 γ a w hl hs) ?_
  intro e a' w' h
  cases e with
  | normal => obtain ⟨y, γ', hl', hs'⟩ := h; exact h2 y γ' a' w' hl' hs'
  | _ => exact h

theorem meet_of {τ : Type} {slF : τ → List (Nat × SV)} {bxF : τ → List (TypeId × List Value)} {RF : τ → List Res} {γ : List Nat} {a : Act} {w : World} (y : τ) (ks : List Nat) (is : List Nat) (m : Nat)
    (hl : Live n γ sl a) (hs : SAT A W0 γ bx R w) (hk : keepS ks sl = some (slF y)) (hb : inbB m (slF y) = true) (hx : bx.take m = bxF y) (hR : takeR is R = some (RF y)) : Meet A W0 n slF bxF RF a w :=
  ⟨y, _, hl.weak hk hb, by have := (hs.takeB m).takeR hR; rw [hx] at this; exact this⟩

/-- The end of a way that meets others. -/
theorem JE_meet {τ : Type} {slF : τ → List (Nat × SV)} {bxF : τ → List (TypeId × List Value)} {RF : τ → List Res} (y : τ) (ks : List Nat) (is : List Nat) (m : Nat)
    (hk : keepS ks sl = some (slF y)) (hb : inbB m (slF y) = true) (hx : bx.take m = bxF y) (hR : takeR is R = some (RF y)) :
    JE A W0 n .normal sl bx R (fun e a w => e = .normal ∧ Meet A W0 n slF bxF RF a w) := fun γ a w hl hs => ⟨rfl, meet_of y ks is m hl hs hk hb hx hR⟩
theorem JE_meetx {τ : Type} {slF : τ → List (Nat × SV)} {bxF : τ → List (TypeId × List Value)} {RF : τ → List Res} (y : τ) (ks : List Nat) (is : List Nat) (m : Nat)
    (hk : keepS ks sl = some (slF y)) (hb : inbB m (slF y) = true) (hx : bx.take m = bxF y) (hR : takeR is R = some (RF y)) :
    JE A W0 n .normal sl bx R (Exit.then (Meet A W0 n slF bxF RF) Q) := fun γ a w hl hs => meet_of y ks is m hl hs hk hb hx hR

/-- The state at a place where ways meet, and what is known of it. -/
def MeetP (A : Nat → Prop) (W0 : World) (n : Nat) {τ : Type} (Φ : τ → Prop) (slF : τ → List (Nat × SV)) (bxF : τ → List (TypeId × List Value)) (RF : τ → List Res) (a : Act) (w : World) : Prop :=
  ∃ y γ, Φ y ∧ Live n γ (slF y) a ∧ SAT A W0 γ (bxF y) (RF y) w

theorem JC_cutP {c : Code} {τ : Type} (Φ : τ → Prop) (slF : τ → List (Nat × SV)) (bxF : τ → List (TypeId × List Value)) (RF : τ → List Res)
    (h1 : JC P A W0 n c sl bx R (Exit.then (MeetP A W0 n Φ slF bxF RF) Q)) (h2 : ∀ y, Φ y → JE A W0 n .normal (slF y) (bxF y) (RF y) Q) : JC P A W0 n c sl bx R Q := by
  intro γ a w hl hs
  refine wp_mono (h1 γ a w hl hs) ?_
  intro e a' w' h
  cases e with
  | normal => obtain ⟨y, γ', hp, hl', hs'⟩ := h; exact h2 y hp γ' a' w' hl' hs'
  | _ => exact h

theorem JE_meetP {τ : Type} {Φ : τ → Prop} {slF : τ → List (Nat × SV)} {bxF : τ → List (TypeId × List Value)} {RF : τ → List Res} (y : τ) (hp : Φ y) (ks : List Nat) (is : List Nat) (m : Nat)
    (hk : keepS ks sl = some (slF y)) (hb : inbB m (slF y) = true) (hx : bx.take m = bxF y) (hR : takeR is R = some (RF y)) :
    JE A W0 n .normal sl bx R (Exit.then (MeetP A W0 n Φ slF bxF RF) Q) := fun γ a w hl hs =>
  ⟨y, _, hp, hl.weak hk hb, by have := (hs.takeB m).takeR hR; rw [hx] at this; exact this⟩

/-- Slots, boxes and resources let go. -/
theorem JC_weak {c : Code} (ks : List Nat) (is : List Nat) (m : Nat) (hk : keepS ks sl = some sl') (hb : inbB m sl' = true) (hx : bx.take m = bx') (hR : takeR is R = some R') (h : JC P A W0 n c sl' bx' R' Q) : JC P A W0 n c sl bx R Q :=
  fun γ a w hl hs => h _ a w (hl.weak hk hb) (by have := (hs.takeB m).takeR hR; rw [hx] at this; exact this)
theorem JE_weak {e : Exit} (ks : List Nat) (is : List Nat) (m : Nat) (hk : keepS ks sl = some sl') (hb : inbB m sl' = true) (hx : bx.take m = bx') (hR : takeR is R = some R') (h : JE A W0 n e sl' bx' R' Q) : JE A W0 n e sl bx R Q :=
  fun γ a w hl hs => h _ a w (hl.weak hk hb) (by have := (hs.takeB m).takeR hR; rw [hx] at this; exact this)

theorem Live.keep {γ : List Nat} {a : Act} {ks : List Nat} (h : Live n γ sl a) (hk : keepS ks sl = some sl') : Live n γ sl' a :=
  ⟨h.defers, h.size, fun t x hx => h.slot t x (look_keep hk hx), fun t x hx => h.inb t x (look_keep hk hx)⟩

/-- The next k operations, evaluated; these slots kept. -/
def stepsK (P : Program) (ops : Array Oper) (n : Nat) (l : List Oper) (ks : List Nat) (sl : List (Nat × SV)) (bx : List (TypeId × List Value)) : Option (List (Nat × SV) × List (TypeId × List Value)) :=
  match steps P ops n l sl bx with
  | some (sl', bx') => match keepS ks sl' with
    | some sl'' => some (sl'', bx')
    | none => none
  | none => none

theorem JO_keep {l : List Oper} (ks : List Nat) (hk : keepS ks sl = some sl') (K : JO P A W0 n ops l sl' bx R Q) : JO P A W0 n ops l sl bx R Q :=
  fun γ a w hl hs => K γ a w (hl.keep hk) hs

theorem JO_stepsK {l : List Oper} (k : Nat) (ks : List Nat) (h : stepsK P ops n (l.take k) ks sl bx = some (sl', bx')) (K : JO P A W0 n ops (l.drop k) sl' bx' R Q) : JO P A W0 n ops l sl bx R Q := by
  unfold stepsK at h
  split at h
  · rename_i sl1 bx1 h1
    split at h
    · rename_i sl2 h2
      simp only [Option.some.injEq, Prod.mk.injEq] at h
      obtain ⟨rfl, rfl⟩ := h
      exact JO_steps k h1 (JO_keep ks h2 K)
    · cases h
  · cases h

/-- The same, the new slots told and the old ones found. -/
theorem JO_stepsN {l : List Oper} (k : Nat) (new : List (Nat × SV)) (ks : List Nat) {old : List (Nat × SV)} (ho : keepS ks sl = some old) (h : stepsK P ops n (l.take k) (new.map Prod.fst ++ ks) sl bx = some (new ++ old, bx)) (K : JO P A W0 n ops (l.drop k) (new ++ old) bx R Q) : JO P A W0 n ops l sl bx R Q :=
  JO_stepsK k _ h K
theorem JO_stepsB {l : List Oper} (k : Nat) (new : List (Nat × SV)) (ks : List Nat) {old : List (Nat × SV)} (ho : keepS ks sl = some old) (bx' : List (TypeId × List Value)) (h : stepsK P ops n (l.take k) (new.map Prod.fst ++ ks) sl bx = some (new ++ old, bx')) (K : JO P A W0 n ops (l.drop k) (new ++ old) bx' R Q) : JO P A W0 n ops l sl bx R Q :=
  JO_stepsK k _ h K

/-! ### Loops -/

theorem JC_loop {σ ρ τ : Type} {c : Code} {body : σ → Option (LS σ ρ)} {s : σ} {r : ρ} (h : loopW body s = some r)
    (slF : σ → τ → List (Nat × SV)) (bxF : σ → τ → List (TypeId × List Value)) (RF : σ → τ → List Res)
    (y : τ) (ks : List Nat) (is : List Nat) (m : Nat) (hk : keepS ks sl = some (slF s y)) (hb : inbB m (slF s y) = true) (hx : bx.take m = bxF s y) (hR : takeR is R = some (RF s y))
    (hbody : ∀ s y t, body s = some t → (∀ r', t = .done r' → r' = r) →
      JC P A W0 n c (slF s y) (bxF s y) (RF s y) (Exit.then (fun a w => ∃ s', t = .cont s' ∧ Meet A W0 n (slF s') (bxF s') (RF s') a w) Q)) : JC P A W0 n (.loop c) sl bx R Q := by
  intro γ a w hl hs
  obtain ⟨k, hkk⟩ := loopW_some h
  refine wp_loop_ghost (fun k a w => ∃ s, loopF body k s = some r ∧ Meet A W0 n (slF s) (bxF s) (RF s) a w) k ⟨s, hkk, meet_of y ks is m hl hs hk hb hx hR⟩ ?_
  rintro k a w ⟨s, hF, y, γ, hl, hs⟩
  cases k with
  | zero => simp [loopF] at hF
  | succ k =>
    simp only [loopF] at hF
    cases hbs : body s with
    | none => simp [hbs] at hF
    | some t =>
      have hd : ∀ r', t = .done r' → r' = r := by
        intro r' e; subst e; simpa [hbs] using hF
      refine wp_mono (hbody s y t hbs hd γ a w hl hs) ?_
      intro e a' w' hq
      cases e with
      | normal =>
        obtain ⟨s', rfl, hm⟩ := hq
        exact ⟨k, Nat.lt_succ_self k, s', by simpa [hbs] using hF, hm⟩
      | _ => exact hq

/-- The end of a round that goes on. -/
theorem JE_cont {σ ρ τ : Type} {t : LS σ ρ} {slF : σ → τ → List (Nat × SV)} {bxF : σ → τ → List (TypeId × List Value)} {RF : σ → τ → List Res} {s' : σ} (ht : some (LS.cont s') = some t)
    (y : τ) (ks : List Nat) (is : List Nat) (m : Nat) (hk : keepS ks sl = some (slF s' y)) (hb : inbB m (slF s' y) = true) (hx : bx.take m = bxF s' y) (hR : takeR is R = some (RF s' y)) :
    JE A W0 n .normal sl bx R (Exit.then (fun a w => ∃ s', t = .cont s' ∧ Meet A W0 n (slF s') (bxF s') (RF s') a w) Q) :=
  fun γ a w hl hs => ⟨s', (Option.some.inj ht).symm, meet_of y ks is m hl hs hk hb hx hR⟩

/-- The end of a round that leaves the loop: what the loop gave is known. -/
theorem doneE {σ ρ : Type} {t : LS σ ρ} {r r' : ρ} (hd : ∀ r', t = .done r' → r' = r) (ht : some (LS.done r') = some t) : r = r' := (hd r' (Option.some.inj ht).symm).symm

/-! ### Quiet operations -/

/-- The boxes of ks are as told. -/
def BoxesIn (ks : List Nat) (γ : List Nat) (bx : List (TypeId × List Value)) (w : World) : Prop :=
  ∀ k e cs, k ∈ ks → bx[k]? = some (e, cs) → w.heap[γ.getD k 0]? = some (.cells cs.toArray e (0, 0))

def evQ (P : Program) (ks : List Nat) (sl : List (Nat × SV)) (bx : List (TypeId × List Value)) (o : Oper) : Option SV :=
  match o.op with
  | .move x => opv sl x
  | .assign x => opv sl x
  | .box _ _ => none
  | .alloc _ => none
  | .store _ _ _ => none
  | .load t x => match opv sl x with
    | some (.p k off) => bif ks.any (Nat.beq k) then (match bx[k]? with
      | some (_, cs) => (partVal P t cs off).map SV.v
      | none => none) else none
    | _ => none
  | .fieldAddr st x f => match evOp P sl [] o with
    | some (x, _) => some x
    | none => none
  | _ => evPlain P sl o

theorem evQ_ok {ks : List Nat} {γ : List Nat} {a : Act} {o : Oper} {x : SV} (hl : Live n γ sl a) (h : evQ P ks sl bx o = some x) :
    x.inb γ.length ∧ ∀ w, BoxesIn ks γ bx w → (execOp a.eval o).run P w = .ok (.value (x.den γ)) w := by
  have plain : ∀ (hop : evPlain P sl o = some x), x.inb γ.length ∧ ∀ w, BoxesIn ks γ bx w → (execOp a.eval o).run P w = .ok (.value (x.den γ)) w := by
    intro hop
    obtain ⟨⟨v, rfl⟩, hr⟩ := evPlain_ok hl hop
    exact ⟨trivial, fun w _ => hr w⟩
  obtain ⟨dst, op, type, pos, after, guard⟩ := o
  cases op <;> simp only [evQ] at h <;> try exact plain h
  case move y => exact ⟨hl.opv_inb h, fun w _ => by simp [execOp, hl.eval h]⟩
  case assign y => exact ⟨hl.opv_inb h, fun w _ => by simp [execOp, hl.eval h]⟩
  case alloc e => cases h
  case box e y => cases h
  case store t y z => cases h
  case load t y =>
    split at h
    · rename_i k off hy
      cases hc : ks.any (Nat.beq k) with
      | false => rw [hc] at h; simp at h
      | true =>
        rw [hc] at h
        simp only [cond_true] at h
        have hm : k ∈ ks := by
          obtain ⟨j, hj, e⟩ := List.any_eq_true.1 hc
          rw [Nat.eq_of_beq_eq_true e]; exact hj
        split at h
        · rename_i e cs hk
          cases hp : partVal P t cs off with
          | none => simp [hp] at h
          | some v =>
            simp only [hp, Option.map_some, Option.some.injEq] at h
            subst h
            refine ⟨trivial, fun w hb => ?_⟩
            have hr := run_loadVar_part (P := P) (hb k e cs hm hk) hp
            simp only [List.getD_eq_getElem?_getD] at hr
            simp [execOp, hl.eval hy, SV.den, Instr.loadAt, Instr.sureAddr, hr]
        · cases h
    · cases h
  case fieldAddr st y f =>
    split at h
    · rename_i x' bx' he
      simp only [Option.some.injEq] at h
      subst h
      simp only [evOp] at he
      split at he
      · rename_i fields hst
        split at he
        · rename_i fd hfd
          split at he
          · rename_i i hi
            cases hz : Nat.beq i.size 0 with
            | true => rw [hz] at he; simp at he
            | false =>
              rw [hz] at he
              simp only [cond_false] at he
              have hne : i.size ≠ 0 := fun e => by rw [e] at hz; simp at hz
              have run : ∀ (w : World) (b : Addr), b.spot = none → (fieldPlace b fd).run P w = .ok ⟨b.block, b.off + fd.offset, none⟩ w := by
                intro w b hb
                simp only [fieldPlace, sizeOf, typeInfo, Sem.run_bind, run_program, Result.andThen_ok, hi, Sem.run_pure, hne, if_false]
                unfold Addr.add
                obtain ⟨b1, b2, b3⟩ := b
                simp only at hb
                subst hb
                split <;> simp_all
              split at he
              · rename_i k off hy
                simp only [Option.some.injEq, Prod.mk.injEq] at he
                obtain ⟨rfl, rfl⟩ := he
                refine ⟨?_, fun w _ => ?_⟩
                · have h0 : k < γ.length := hl.opv_inb hy; exact h0
                · simp [execOp, hl.eval hy, SV.den, Instr.fieldAt, run_underlying hst w, hfd, Instr.sureAddr, run]
              · rename_i b k hy
                simp only [Option.some.injEq, Prod.mk.injEq] at he
                obtain ⟨rfl, rfl⟩ := he
                refine ⟨trivial, fun w _ => ?_⟩
                simp [execOp, hl.eval hy, SV.den, Instr.fieldAt, run_underlying hst w, hfd, Instr.sureAddr, run, Nat.add_assoc]
              · cases he
          · cases he
        · cases he
      · cases he
    · cases h

/-- One quiet operation, by its guard. -/
def stepQ1 (P : Program) (ks : List Nat) (ops : Array Oper) (n : Nat) (sl : List (Nat × SV)) (bx : List (TypeId × List Value)) (o : Oper) : Option (List (Nat × SV)) :=
  match wantedS ops sl o with
  | some true => match evQ P ks sl bx o with
    | some x => putS n sl o.dst x
    | none => none
  | some false => putS n sl o.dst (.v undef)
  | none => none

def stepsQ (P : Program) (ks : List Nat) (ops : Array Oper) (n : Nat) : List Oper → List (Nat × SV) → List (TypeId × List Value) → Option (List (Nat × SV))
  | [], sl, bx => some sl
  | o :: r, sl, bx => match stepQ1 P ks ops n sl bx o with
    | some sl' => stepsQ P ks ops n r sl' bx
    | none => none

/-- A region that draws its order and is quiet: its operations in the text's order. -/
def JQ (P : Program) (A : Nat → Prop) (W0 : World) (n : Nat) (ops : Array Oper) (l : List Oper) (sl : List (Nat × SV)) (bx : List (TypeId × List Value)) (R : List Res) (Q : Exit → Act → World → Prop) : Prop :=
  ∀ γ a, Live n γ sl a → γ.length = bx.length → wpQuiet P ops (fun w => SAT A W0 γ bx R w) (fun a' => ∀ w', SAT A W0 γ bx R w' → Q .normal a' w') l a

theorem JC_quiet {id : Nat} {o : Array Oper} (hm : P.follows .mixedOrders = true) (hB : Region.lexB .any o = true) (h : JQ P A W0 n o o.toList sl bx R Q) : JC P A W0 n (.region id o true) sl bx R Q :=
  fun γ a w hl hs => wp_region_quiet (C := fun w => SAT A W0 γ bx R w) hm hB hs.drew (h γ a hl hs.len)

/-- All boxes. -/
def allK (m : Nat) : List Nat := List.range m

theorem SAT.boxesIn {γ : List Nat} {w : World} (h : SAT A W0 γ bx R w) (ks : List Nat) : BoxesIn ks γ bx w := fun k e cs _ hk => h.boxes k e cs hk

theorem stepQ1_ok {ks : List Nat} {o : Oper} {rest : List Oper} (h : stepQ1 P ks ops n sl bx o = some sl') (k : JQ P A W0 n ops rest sl' bx R Q) : JQ P A W0 n ops (o :: rest) sl bx R Q := by
  intro γ a hl hg
  unfold stepQ1 at h
  unfold wpQuiet
  split at h
  · rename_i hw
    rw [if_pos (wantedS_ok hl hw)]
    split at h
    · rename_i x he
      obtain ⟨hin, hr⟩ := evQ_ok hl he
      refine ⟨x.den γ, fun w hs => ?_, k γ _ (hl.putS h hin) hg⟩
      unfold Oper.quietAt
      rw [hr w (hs.boxesIn ks)]
      exact ⟨rfl, rfl⟩
    · cases h
  · rename_i hw
    have := wantedS_ok hl hw
    rw [if_neg (by rw [this]; simp)]
    exact k γ _ (hl.putS h trivial) hg
  · cases h

theorem stepsQ_ok {ks : List Nat} {l rest : List Oper} (h : stepsQ P ks ops n l sl bx = some sl') (k : JQ P A W0 n ops rest sl' bx R Q) : JQ P A W0 n ops (l ++ rest) sl bx R Q := by
  induction l generalizing sl with
  | nil => simp only [stepsQ, Option.some.injEq] at h; subst h; exact k
  | cons o r ih =>
    simp only [stepsQ] at h
    split at h
    · rename_i sl1 h1; exact stepQ1_ok h1 (ih h)
    · cases h

theorem JQ_steps {l : List Oper} (k : Nat) (h : stepsQ P (allK bx.length) ops n (l.take k) sl bx = some sl') (K : JQ P A W0 n ops (l.drop k) sl' bx R Q) : JQ P A W0 n ops l sl bx R Q := by
  have := stepsQ_ok (rest := l.drop k) h K
  rwa [List.take_append_drop] at this

theorem JQ_keep {l : List Oper} (ks : List Nat) (hk : keepS ks sl = some sl') (K : JQ P A W0 n ops l sl' bx R Q) : JQ P A W0 n ops l sl bx R Q :=
  fun γ a hl hg => K γ a (hl.keep hk) hg

def stepsQK (P : Program) (ops : Array Oper) (n : Nat) (l : List Oper) (ks : List Nat) (sl : List (Nat × SV)) (bx : List (TypeId × List Value)) : Option (List (Nat × SV)) :=
  match stepsQ P (allK bx.length) ops n l sl bx with
  | some sl' => keepS ks sl'
  | none => none

theorem JQ_stepsK {l : List Oper} (k : Nat) (ks : List Nat) (h : stepsQK P ops n (l.take k) ks sl bx = some sl') (K : JQ P A W0 n ops (l.drop k) sl' bx R Q) : JQ P A W0 n ops l sl bx R Q := by
  unfold stepsQK at h
  split at h
  · rename_i sl1 h1
    exact JQ_steps k h1 (JQ_keep ks h K)
  · cases h

theorem JQ_stepsN {l : List Oper} (k : Nat) (new : List (Nat × SV)) (ks : List Nat) {old : List (Nat × SV)} (ho : keepS ks sl = some old) (h : stepsQK P ops n (l.take k) (new.map Prod.fst ++ ks) sl bx = some (new ++ old)) (K : JQ P A W0 n ops (l.drop k) (new ++ old) bx R Q) : JQ P A W0 n ops l sl bx R Q :=
  JQ_stepsK k _ h K

theorem Live.known {γ : List Nat} {a : Act} (hl : Live n γ sl a) {t : Nat} {b b' : Bool} (h : look sl t = some (.v (.bool b))) (e : b = b') : Live n γ (setS sl t (.v (.bool b'))) a := by
  subst e
  refine ⟨hl.defers, hl.size, fun u x hx => ?_, fun u x hx => ?_⟩
  · by_cases e : t = u
    · subst e; rw [look_set_same] at hx; simp only [Option.some.injEq] at hx; subst hx; exact hl.slot t _ h
    · rw [look_set_ne e] at hx; exact hl.slot u x hx
  · by_cases e : t = u
    · subst e; rw [look_set_same] at hx; simp only [Option.some.injEq] at hx; subst hx; trivial
    · rw [look_set_ne e] at hx; exact hl.inb u x hx

theorem JQ_split {l : List Oper} (t : Nat) (b : Bool) (h : look sl t = some (.v (.bool b))) (ht : b = true → JQ P A W0 n ops l (setS sl t (.v (.bool true))) bx R Q)
    (hf : b = false → JQ P A W0 n ops l (setS sl t (.v (.bool false))) bx R Q) : JQ P A W0 n ops l sl bx R Q := by
  intro γ a hl hg
  cases hb : b with
  | true => exact ht hb γ a (hl.known h hb) hg
  | false => exact hf hb γ a (hl.known h hb) hg

theorem JQ_call0 {l rest : List Oper} {o : Oper} (hl : l = o :: rest) (hw : wantedS ops sl o = some true) {f : FuncId} {args : Array Value} (hc : evCall P sl o = some (f, args)) {x : Value}
    (h : ∀ γ w, SAT A W0 γ bx R w → Gives0 P f args w x) (hp : putS n sl o.dst (.v x) = some sl') (k : JQ P A W0 n ops rest sl' bx R Q) : JQ P A W0 n ops l sl bx R Q := by
  subst hl
  intro γ a hl hg
  unfold wpQuiet
  rw [if_pos (wantedS_ok hl hw)]
  refine ⟨x, fun w hs => ?_, k γ _ (hl.putS hp trivial) hg⟩
  unfold Oper.quietAt
  rw [evCall_ok hl hc w]
  refine ⟨rfl, (h γ w hs).mono ?_⟩
  rintro e w' ⟨rfl, hb⟩
  exact ⟨rfl, hs.below hb⟩

theorem JQ_end {l : List Oper} (hl : l = []) (h : JE A W0 n .normal sl bx R Q) : JQ P A W0 n ops l sl bx R Q := by
  subst hl
  exact fun γ a hl hg w hs => h γ a w hl hs

end
end Go.Pen
