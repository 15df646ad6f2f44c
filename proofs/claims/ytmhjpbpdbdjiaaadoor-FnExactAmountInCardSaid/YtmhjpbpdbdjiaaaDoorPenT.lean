/-
  Strings: bytes turned into a string, and two strings joined.
-/
import Derived.Test.YtmhjpbpdbdjiaaaDoorPenI
import Derived.Laws.BytesString
import Derived.Laws.Concat
import Derived.Laws.Strings3
import Derived.Laws.Slices
namespace Go.Pen
open Go.RowKit
set_option linter.unusedVariables false

/-- The string of these bytes. -/
def bytesS (l : List U8) : ByteArray := (l.map (·.n)).foldl (fun r n => r.push (UInt8.ofNat n.toNat)) ByteArray.empty
/-- Two strings joined, if the lengths' sum is a whole number of Go's. -/
def addS (a b : ByteArray) : Option ByteArray := if a.size + b.size ≤ 9223372036854775807 then some (a ++ b) else none

section
variable {P : Program} {A : Nat → Prop} {W0 : World} {n : Nat} {ops : Array Oper} {sl sl' : List (Nat × SV)} {bx bx' : List (TypeId × List Value)} {R R' Rc Rr : List Res} {Q Q' : Exit → Act → World → Prop}

def evBstr (P : Program) (sl : List (Nat × SV)) (o : Oper) : Option (Option Addr × Nat × Nat) :=
  match o.op with
  | .convert src dst x => match P.underlying src, P.underlying dst, opV sl x with
    | some (.slice e), some .string, some (.slice a m c) => match P.underlying e with
      | some (.int .u8) => some (a, m, c)
      | _ => none
    | _, _, _ => none
  | _ => none

theorem encL_u8 : ∀ l : List U8, encL l = (l.map (·.n)).map (Value.int .u8)
  | [] => rfl
  | x :: l => by
    show Flat.enc x ++ encL l = _
    rw [encL_u8 l]
    rfl

theorem evBstr_ok {γ : List Nat} {a : Act} {o : Oper} {ad : Option Addr} {m c : Nat} (hl : Live n γ sl a) (h : evBstr P sl o = some (ad, m, c)) {w : World} {l : List U8} (hm : m = l.length) (hv : SlView w l ad c) :
    (execOp a.eval o).run P w = .ok (.value (.string (bytesS l))) w := by
  obtain ⟨dst, op', type, pos, after, guard⟩ := o
  unfold evBstr at h
  split at h
  · rename_i src dst' x hop
    simp only at hop
    subst hop
    split at h
    · rename_i e a1 m1 c1 h1 h2 h3
      split at h
      · rename_i h4
        simp only [Option.some.injEq, Prod.mk.injEq] at h
        obtain ⟨rfl, rfl, rfl⟩ := h
        have hr : (Conv.bytesToString (.slice a1 m1 c1)).run P w = .ok (.string (bytesS l)) w := by
          cases a1 with
          | none =>
            have := hv.nil rfl
            have hf := hv.fit
            have h0 : l = [] := List.length_eq_zero_iff.1 (by omega)
            subst h0
            simp [Conv.bytesToString, bytesS]
          | some d =>
            subst hm
            obtain ⟨xs, hx, hc⟩ := hv.cells
            have hxs := viewL_enc hx
            rw [encL_u8] at hxs
            subst hxs
            refine run_bytesToString w d l.length c1 (l.map (·.n)) ?_
            by_cases hne : l = []
            · subst hne
              exact run_loadCells_list (P := P) w d [] (fun j v hj => by simp at hj)
            · have hsp := hv.spot hne d rfl
              have := run_loadCells_list (P := P) w d ((l.map (·.n)).map (Value.int .u8)) (cellsAt_add hsp hc)
              simpa using this
        simp only [execOp, hl.evalV h3, Sem.run_bind, run_convert_bytes_string w src dst' e a1 m1 c1 h1 h4 h2, hr, Result.andThen_ok, Sem.run_pure]
      · cases h
    · cases h
  · cases h

/-- Bytes turned into a string. -/
theorem JO_bstr {l rest : List Oper} {o : Oper} (hl : l = o :: rest) (hw : wantedS ops sl o = some true) {ad : Option Addr} {c : Nat} {xs : List U8} (he : evBstr P sl o = some (ad, xs.length, c)) (hv : ∀ γ w, SAT A W0 γ bx R w → SlView w xs ad c)
    (hp : putS n sl o.dst (.v (.string (bytesS xs))) = some sl') (k : JO P A W0 n ops rest sl' bx R Q) : JO P A W0 n ops l sl bx R Q := by
  subst hl
  intro γ a w hl hs
  unfold wpList
  rw [if_pos (wantedS_ok hl hw)]
  refine .inl ?_
  unfold Oper.wp
  rw [evBstr_ok hl he rfl (hv γ w hs)]
  exact k γ _ w (hl.putS hp trivial) hs

def evSadd (P : Program) (sl : List (Nat × SV)) (o : Oper) : Option (ByteArray × ByteArray) :=
  match o.op with
  | .binOp .add _ x y _ => match opV sl x, opV sl y with
    | some (.string a), some (.string b) => some (a, b)
    | _, _ => none
  | _ => none

/-- Two strings joined. -/
theorem JO_sadd {l rest : List Oper} {o : Oper} (hl : l = o :: rest) (hw : wantedS ops sl o = some true) {x y z : ByteArray} (he : evSadd P sl o = some (x, y)) (hz : addS x y = some z)
    (hp : putS n sl o.dst (.v (.string z)) = some sl') (k : JO P A W0 n ops rest sl' bx R Q) : JO P A W0 n ops l sl bx R Q := by
  subst hl
  intro γ a w hl hs
  have hr : (execOp a.eval o).run P w = .ok (.value (.string z)) w := by
    obtain ⟨dst, op', type, pos, after, guard⟩ := o
    unfold evSadd at he
    split at he
    · rename_i t x' y' t' hop
      simp only at hop
      subst hop
      split at he
      · rename_i a1 b1 h1 h2
        simp only [Option.some.injEq, Prod.mk.injEq] at he
        obtain ⟨rfl, rfl⟩ := he
        unfold addS at hz
        split at hz
        · rename_i hb
          simp only [Option.some.injEq] at hz
          subst hz
          have := run_string_add_sum (P := P) (w := w) a1 b1 hb
          simp [execOp, hl.evalV h1, hl.evalV h2, eqGuard, binOp, this]
        · cases hz
      · cases he
    · cases he
  unfold wpList
  rw [if_pos (wantedS_ok hl hw)]
  refine .inl ?_
  unfold Oper.wp
  rw [hr]
  exact k γ _ w (hl.putS hp trivial) hs

/-! ### A string's byte, its head, its tail -/

/-- The byte at this place, if there is one. -/
def byteS (s : ByteArray) (i : Int) : Option Int := if h : 0 ≤ i ∧ i < s.size then some (s[i.toNat]'(by omega)).toNat else none
/-- The first bytes, if there are as many. -/
def headS (s : ByteArray) (j : Int) : Option ByteArray := if 0 ≤ j ∧ j ≤ (s.size : Int) then some (s.extract 0 j.toNat) else none
/-- The bytes from this place on, if there is one. -/
def tailS (s : ByteArray) (i : Int) : Option ByteArray := if 0 ≤ i ∧ i ≤ (s.size : Int) then some (s.extract i.toNat s.size) else none

def evSidx (P : Program) (sl : List (Nat × SV)) (o : Oper) : Option (ByteArray × Int) :=
  match o.op with
  | .index t x y => match P.underlying t, opV sl x, opV sl y with
    | some .string, some (.string s), some (.int _ i) => some (s, i)
    | _, _, _ => none
  | _ => none

theorem JO_sidx {l rest : List Oper} {o : Oper} (hl : l = o :: rest) (hw : wantedS ops sl o = some true) {s : ByteArray} {i b : Int} (he : evSidx P sl o = some (s, i)) (hb : byteS s i = some b)
    (hp : putS n sl o.dst (.v (.int .u8 b)) = some sl') (k : JO P A W0 n ops rest sl' bx R Q) : JO P A W0 n ops l sl bx R Q := by
  subst hl
  intro γ a w hl hs
  have hr : (execOp a.eval o).run P w = .ok (.value (.int .u8 b)) w := by
    obtain ⟨dst, op', type, pos, after, guard⟩ := o
    unfold evSidx at he
    split at he
    · rename_i t x y hop
      simp only at hop
      subst hop
      split at he
      · rename_i s1 kk i1 h1 h2 h3
        simp only [Option.some.injEq, Prod.mk.injEq] at he
        obtain ⟨rfl, rfl⟩ := he
        unfold byteS at hb
        split at hb
        · rename_i hc
          simp only [Option.some.injEq] at hb
          subst hb
          have := run_index_string (P := P) w t s1 kk i1 h1
          rw [dif_pos hc] at this
          simp [execOp, hl.evalV h2, hl.evalV h3, this]
        · cases hb
      · cases he
    · cases he
  unfold wpList
  rw [if_pos (wantedS_ok hl hw)]
  refine .inl ?_
  unfold Oper.wp
  rw [hr]
  exact k γ _ w (hl.putS hp trivial) hs

def evShead (P : Program) (sl : List (Nat × SV)) (o : Oper) : Option (ByteArray × Int) :=
  match o.op with
  | .slice t x none (some y) none => match P.underlying t, opV sl x, opV sl y with
    | some .string, some (.string s), some (.int _ i) => some (s, i)
    | _, _, _ => none
  | _ => none

theorem JO_shead {l rest : List Oper} {o : Oper} (hl : l = o :: rest) (hw : wantedS ops sl o = some true) {s b : ByteArray} {i : Int} (he : evShead P sl o = some (s, i)) (hb : headS s i = some b)
    (hp : putS n sl o.dst (.v (.string b)) = some sl') (k : JO P A W0 n ops rest sl' bx R Q) : JO P A W0 n ops l sl bx R Q := by
  subst hl
  intro γ a w hl hs
  have hr : (execOp a.eval o).run P w = .ok (.value (.string b)) w := by
    obtain ⟨dst, op', type, pos, after, guard⟩ := o
    unfold evShead at he
    split at he
    · rename_i t x y hop
      simp only at hop
      subst hop
      split at he
      · rename_i s1 kk i1 h1 h2 h3
        simp only [Option.some.injEq, Prod.mk.injEq] at he
        obtain ⟨rfl, rfl⟩ := he
        unfold headS at hb
        split at hb
        · rename_i hc
          simp only [Option.some.injEq] at hb
          subst hb
          have := run_slice_string_to_if (P := P) w t s1 kk i1 h1
          rw [if_pos hc] at this
          simp [execOp, hl.evalV h2, hl.evalV h3, run_sliceAt_string (h := h1), this]
        · cases hb
      · cases he
    · cases he
  unfold wpList
  rw [if_pos (wantedS_ok hl hw)]
  refine .inl ?_
  unfold Oper.wp
  rw [hr]
  exact k γ _ w (hl.putS hp trivial) hs

def evStail (P : Program) (sl : List (Nat × SV)) (o : Oper) : Option (ByteArray × Int) :=
  match o.op with
  | .slice t x (some y) none none => match P.underlying t, opV sl x, opV sl y with
    | some .string, some (.string s), some (.int _ i) => some (s, i)
    | _, _, _ => none
  | _ => none

theorem JO_stail {l rest : List Oper} {o : Oper} (hl : l = o :: rest) (hw : wantedS ops sl o = some true) {s b : ByteArray} {i : Int} (he : evStail P sl o = some (s, i)) (hb : tailS s i = some b)
    (hp : putS n sl o.dst (.v (.string b)) = some sl') (k : JO P A W0 n ops rest sl' bx R Q) : JO P A W0 n ops l sl bx R Q := by
  subst hl
  intro γ a w hl hs
  have hr : (execOp a.eval o).run P w = .ok (.value (.string b)) w := by
    obtain ⟨dst, op', type, pos, after, guard⟩ := o
    unfold evStail at he
    split at he
    · rename_i t x y hop
      simp only at hop
      subst hop
      split at he
      · rename_i s1 kk i1 h1 h2 h3
        simp only [Option.some.injEq, Prod.mk.injEq] at he
        obtain ⟨rfl, rfl⟩ := he
        unfold tailS at hb
        split at hb
        · rename_i hc
          simp only [Option.some.injEq] at hb
          subst hb
          have := run_slice_string_from_if (P := P) w t s1 kk i1 h1
          rw [if_pos hc] at this
          simp [execOp, hl.evalV h2, hl.evalV h3, run_sliceAt_string (h := h1), this]
        · cases hb
      · cases he
    · cases he
  unfold wpList
  rw [if_pos (wantedS_ok hl hw)]
  refine .inl ?_
  unfold Oper.wp
  rw [hr]
  exact k γ _ w (hl.putS hp trivial) hs

end
end Go.Pen
