/-
  The law FnExactActOk of the given program returns true for every input, and its arguments read afterwards as they did: for every input, no condition.
-/
import Derived.Test.YtmnbmbfakpkmcaaRows
import Derived.Test.YtmnbmbfakpkmcaaW1
import Derived.Test.YtmnbmbfakpkmcaaPenR
import Derived.Test.YtmnbmbfakpkmcaaL38a
import Derived.OpenShut
import Derived.ShutString
import Derived.ChangeOld
namespace Go.Proofs.Ytmnbmbfakpkmcaa.fnExactActOkDone
open Go.ChangeShapes Go.WideShapes Go.ChangeAt Go.RowKit Go.Pen
set_option linter.unusedVariables false
set_option maxRecDepth 100000

theorem cutL (cs : List Value) (o s : Nat) : cs.drop o = (cs.drop o).take s ++ cs.drop (o + s) := by
  rw [← List.drop_drop, List.take_append_drop]

theorem rd_3 : RdE Try.prog 3 Int := rd_int Try.underlying3

theorem rx_27 {H : Type} {enc : TypeId × Value → H} {w : World} {fuel : Nat} {cs : List Value} {x : DataW H × List MemPlace} (h : DataW.trod enc Try.prog w 0 (fun _ => true) true fuel 27 cs = some x) :
    ∃ (d : Go.Pen.Fact) , cs = [.int .i64 d.Key, .int .i64 d.From, .int .i64 d.To, .int .i64 d.Known, .int .i64 d.Value] ∧ Wf.wf d := by
  obtain ⟨xs, n, _, _, hlen, hsz, hf⟩ := DataW.trod_struct Try.underlying27 h
  have hl : cs.length = 5 := hlen.trans (by kernel_rfl)
  have hz : xs.length = 5 := hsz
  have g0 := hf 0 _ rfl
  rw [List.getElem?_eq_getElem (by omega : 0 < xs.length)] at g0
  obtain ⟨d0, e0, w0⟩ := rd_3 enc w n _ _ g0
  replace e0 : (cs.drop 0).take 1 = [.int .i64 d0] := e0
  have g1 := hf 1 _ rfl
  rw [List.getElem?_eq_getElem (by omega : 1 < xs.length)] at g1
  obtain ⟨d1, e1, w1⟩ := rd_3 enc w n _ _ g1
  replace e1 : (cs.drop 1).take 1 = [.int .i64 d1] := e1
  have g2 := hf 2 _ rfl
  rw [List.getElem?_eq_getElem (by omega : 2 < xs.length)] at g2
  obtain ⟨d2, e2, w2⟩ := rd_3 enc w n _ _ g2
  replace e2 : (cs.drop 2).take 1 = [.int .i64 d2] := e2
  have g3 := hf 3 _ rfl
  rw [List.getElem?_eq_getElem (by omega : 3 < xs.length)] at g3
  obtain ⟨d3, e3, w3⟩ := rd_3 enc w n _ _ g3
  replace e3 : (cs.drop 3).take 1 = [.int .i64 d3] := e3
  have g4 := hf 4 _ rfl
  rw [List.getElem?_eq_getElem (by omega : 4 < xs.length)] at g4
  obtain ⟨d4, e4, w4⟩ := rd_3 enc w n _ _ g4
  replace e4 : (cs.drop 4).take 1 = [.int .i64 d4] := e4
  refine ⟨⟨d0, d1, d2, d3, d4⟩, ?_, ⟨w0, w1, w2, w3, w4⟩⟩
  show List.drop 0 cs = _
  rw [cutL cs 0 1, e0, cutL cs 1 1, e1, cutL cs 2 1, e2, cutL cs 3 1, e3, cutL cs 4 1, e4, List.drop_eq_nil_of_le (by omega)]
  rfl

theorem rx_29 {H : Type} {enc : TypeId × Value → H} {w : World} {fuel : Nat} {cs : List Value} {x : DataW H × List MemPlace} (h : DataW.trod enc Try.prog w 0 (fun _ => true) true fuel 29 cs = some x) :
    ∃ (d : Go.Pen.Point) , cs = [.int .i64 d.Month, .int .i64 d.Known, .int .i64 d.Value] ∧ Wf.wf d := by
  obtain ⟨xs, n, _, _, hlen, hsz, hf⟩ := DataW.trod_struct Try.underlying29 h
  have hl : cs.length = 3 := hlen.trans (by kernel_rfl)
  have hz : xs.length = 3 := hsz
  have g0 := hf 0 _ rfl
  rw [List.getElem?_eq_getElem (by omega : 0 < xs.length)] at g0
  obtain ⟨d0, e0, w0⟩ := rd_3 enc w n _ _ g0
  replace e0 : (cs.drop 0).take 1 = [.int .i64 d0] := e0
  have g1 := hf 1 _ rfl
  rw [List.getElem?_eq_getElem (by omega : 1 < xs.length)] at g1
  obtain ⟨d1, e1, w1⟩ := rd_3 enc w n _ _ g1
  replace e1 : (cs.drop 1).take 1 = [.int .i64 d1] := e1
  have g2 := hf 2 _ rfl
  rw [List.getElem?_eq_getElem (by omega : 2 < xs.length)] at g2
  obtain ⟨d2, e2, w2⟩ := rd_3 enc w n _ _ g2
  replace e2 : (cs.drop 2).take 1 = [.int .i64 d2] := e2
  refine ⟨⟨d0, d1, d2⟩, ?_, ⟨w0, w1, w2⟩⟩
  show List.drop 0 cs = _
  rw [cutL cs 0 1, e0, cutL cs 1 1, e1, cutL cs 2 1, e2, List.drop_eq_nil_of_le (by omega)]
  rfl

theorem rx_31 {H : Type} {enc : TypeId × Value → H} {w : World} {fuel : Nat} {cs : List Value} {x : DataW H × List MemPlace} (h : DataW.trod enc Try.prog w 0 (fun _ => true) true fuel 31 cs = some x) :
    ∃ (d : Go.Pen.Act) , cs = [.int .i64 d.Kind, .int .i64 d.Fact.Key, .int .i64 d.Fact.From, .int .i64 d.Fact.To, .int .i64 d.Fact.Known, .int .i64 d.Fact.Value, .int .i64 d.Point.Month, .int .i64 d.Point.Known, .int .i64 d.Point.Value, .int .i64 d.N] ∧ Wf.wf d := by
  obtain ⟨xs, n, _, _, hlen, hsz, hf⟩ := DataW.trod_struct Try.underlying31 h
  have hl : cs.length = 10 := hlen.trans (by kernel_rfl)
  have hz : xs.length = 4 := hsz
  have g0 := hf 0 _ rfl
  rw [List.getElem?_eq_getElem (by omega : 0 < xs.length)] at g0
  obtain ⟨d0, e0, w0⟩ := rd_3 enc w n _ _ g0
  replace e0 : (cs.drop 0).take 1 = [.int .i64 d0] := e0
  have g1 := hf 1 _ rfl
  rw [List.getElem?_eq_getElem (by omega : 1 < xs.length)] at g1
  obtain ⟨d1, e1, w1⟩ := rx_27 g1
  replace e1 : (cs.drop 1).take 5 = [.int .i64 d1.Key, .int .i64 d1.From, .int .i64 d1.To, .int .i64 d1.Known, .int .i64 d1.Value] := e1
  have g2 := hf 2 _ rfl
  rw [List.getElem?_eq_getElem (by omega : 2 < xs.length)] at g2
  obtain ⟨d2, e2, w2⟩ := rx_29 g2
  replace e2 : (cs.drop 6).take 3 = [.int .i64 d2.Month, .int .i64 d2.Known, .int .i64 d2.Value] := e2
  have g3 := hf 3 _ rfl
  rw [List.getElem?_eq_getElem (by omega : 3 < xs.length)] at g3
  obtain ⟨d3, e3, w3⟩ := rd_3 enc w n _ _ g3
  replace e3 : (cs.drop 9).take 1 = [.int .i64 d3] := e3
  refine ⟨⟨d0, d1, d2, d3⟩, ?_, ⟨w0, w1, w2, w3⟩⟩
  show List.drop 0 cs = _
  rw [cutL cs 0 1, e0, cutL cs 1 5, e1, cutL cs 6 3, e2, cutL cs 9 1, e3, List.drop_eq_nil_of_le (by omega)]
  rfl

theorem own : ownKnob Try.prog.godebug = none := by kernel_rfl
theorem laidOut : laidOutB Try.prog = true := by kernel_rfl
set_option maxRecDepth 100000 in
theorem lifted (os : Os) (started : os.Started) (H : Type) (enc : TypeId × Value → H) :
    ReturnsInHanded {} Try.checked os 7 .any (Rows.fnExactActOkSpec.pre6 enc Try.prog Try.f7 Rows.fnExactActOkRow.domain false) (Rows.fnExactActOkSpec.post enc Try.prog Try.f7 false true false false) := by
  refine returnsInHanded_of_change (C := Try.checked) own started (by kernel_rfl) Try.func7
    (ChangeSpec.witness6 (enc := enc) (C := Try.checked) false ⟨#[], #[.agg #[.int .i64 0, .int .i64 0, .int .i64 0, .int .i64 0, .int .i64 0, .int .i64 0, .int .i64 0, .int .i64 0, .int .i64 0, .int .i64 0]], []⟩ 8 (by kernel_rfl) (by kernel_rfl) (by kernel_rfl) (by kernel_rfl)) ?_
  intro W base args ds gs before hval0 hW hcnd _
  have hval : ∀ (j : Nat) t v, Try.f7.params[j]? = some t → args[j]? = some v → Value.okWide Try.prog W .any base t v := hval0
  have hW' := hW
  obtain ⟨p, q, hA0, hV, rfl, hfz, hnd⟩ := hW
  have hA : DataW.TrodAll enc Try.prog W 0 (fun _ => true) true Try.f7.params.toList args.toList ds p := hA0
  rw [Try.params7] at hA hval
  obtain ⟨v0, vs0, d0, ds0, p0, q0, hargs, rfl, rfl, h0, r0⟩ := trodAll_cons hA
  obtain ⟨rfl, rfl, rfl⟩ := trodAll_nil r0
  obtain rfl : args = #[v0] := by cases args; simp_all
  obtain ⟨rfl, rfl⟩ := trodVars_none hV
  have k0 := h0
  have lt0 : ∀ x ∈ p0, x.block < W.heap.size := by obtain ⟨m, hm⟩ := k0; exact DataW.trod_lt m _ _ _ hm
  obtain ⟨cs0, rfl, _⟩ := okWide_struct Try.underlying31 (hval 0 31 v0 rfl rfl)
  obtain ⟨fu0, hf0⟩ := h0
  obtain ⟨x0, hcs0, wf0⟩ := rx_31 hf0
  obtain rfl : cs0 = #[.int .i64 x0.Kind, .int .i64 x0.Fact.Key, .int .i64 x0.Fact.From, .int .i64 x0.Fact.To, .int .i64 x0.Fact.Known, .int .i64 x0.Fact.Value, .int .i64 x0.Point.Month, .int .i64 x0.Point.Known, .int .i64 x0.Point.Value, .int .i64 x0.N] := by obtain ⟨l⟩ := cs0; simpa [Value.cells] using hcs0
  clear hA0 hval0
  refine (c_laws_FnExactActOk (ActOk_law x0 wf0) ).mono fun e W' ⟨he, bel⟩ => ?_
  subst he
  exact ⟨_, rfl, _, _, _, [], _, [], hW', trodAll_mk1 (shut_bool Try.underlying4 _), (trodAll_cons_mk (Below.trod laidOut (by kernel_rfl) (of_decide_eq_true (by kernel_rfl)) k0 bel lt0) trodAll_mk0), rfl, bel.frame _, fun h => by cases h⟩

theorem over : Rows.fnExactActOkRow.holds Try.pinned (OpenSpec.ofChange Rows.fnExactActOkSpec) :=
  OpenClaim.holds_of_wide 7 Try.f7 rfl rfl rfl rfl rfl rfl rfl ⟨rfl, rfl, rfl, rfl, rfl⟩ rfl rfl rfl rfl rfl (by kernel_rfl) Try.func7 (by kernel_rfl)
    (of_decide_eq_true (by kernel_rfl)) (by unfold Func.isWrapper; first | (rw [if_pos (by decide +kernel)]; kernel_rfl) | (rw [if_neg (by decide +kernel)]; exact ⟨rfl, rfl⟩))
    (fun os started H enc _ => lifted os started H enc)

theorem proved : Rows.FnExactActOkSaid := over
#print axioms proved
end Go.Proofs.Ytmnbmbfakpkmcaa.fnExactActOkDone
