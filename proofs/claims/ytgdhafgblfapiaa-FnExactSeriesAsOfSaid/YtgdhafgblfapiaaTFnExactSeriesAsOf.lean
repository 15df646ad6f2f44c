/-
  The law FnExactSeriesAsOf of the given program returns true for every input, and its arguments read afterwards as they did: for every input, no condition.
-/
import Derived.Test.YtgdhafgblfapiaaRows
import Derived.Test.YtgdhafgblfapiaaW1
import Derived.Test.YtgdhafgblfapiaaPenR
import Derived.Test.YtgdhafgblfapiaaLX
import Derived.OpenShut
import Derived.ShutString
import Derived.ChangeOld
namespace Go.Proofs.Ytgdhafgblfapiaa.fnExactSeriesAsOfDone
open Go.ChangeShapes Go.WideShapes Go.ChangeAt Go.RowKit Go.Pen
set_option linter.unusedVariables false
set_option maxRecDepth 100000
set_option maxHeartbeats 4000000

theorem cutL (cs : List Value) (o s : Nat) : cs.drop o = (cs.drop o).take s ++ cs.drop (o + s) := by
  rw [← List.drop_drop, List.take_append_drop]

theorem rd_3 : RdE Try.prog 3 Int := rd_int Try.underlying3

theorem rx_80 {H : Type} {enc : TypeId × Value → H} {w : World} {fuel : Nat} {cs : List Value} {x : DataW H × List MemPlace} (h : DataW.trod enc Try.prog w 0 (fun _ => true) true fuel 80 cs = some x) :
    ∃ (d : Go.Pen.Point) , cs = [.int .i64 d.Month, .int .i64 d.Known, .int .i64 d.Value] ∧ Wf.wf d := by
  obtain ⟨xs, n, _, _, hlen, hsz, hf⟩ := DataW.trod_struct Try.underlying80 h
  have hl : cs.length = 3 := hlen.trans (by kernel_rfl)
  have hz : xs.length = 3 := hsz
  have g0 := hf 0 _ rfl
  rw [List.getElem?_eq_getElem (by omega : 0 < xs.length)] at g0
  obtain ⟨d0, e0, w0⟩ := rd_3 enc w n _ _ g0
  replace e0 : (cs.drop 0).take 1 = [.int .i64 d0] := e0
  have g1 := hf 1 _ rfl
  rw [List.getElem?_eq_getElem (by omega : 1 < xs.length)] at g1
  obtain ⟨d1, e1, w1⟩ := rd_3 enc w n _ _ g1
  replace e1 : (cs.drop 1).take 1 = [.int .i64 d1] := e1
  have g2 := hf 2 _ rfl
  rw [List.getElem?_eq_getElem (by omega : 2 < xs.length)] at g2
  obtain ⟨d2, e2, w2⟩ := rd_3 enc w n _ _ g2
  replace e2 : (cs.drop 2).take 1 = [.int .i64 d2] := e2
  refine ⟨⟨d0, d1, d2⟩, ?_, ⟨w0, w1, w2⟩⟩
  show List.drop 0 cs = _
  rw [cutL cs 0 1, e0, cutL cs 1 1, e1, cutL cs 2 1, e2, List.drop_eq_nil_of_le (by omega)]
  rfl

theorem rd_80 : RdE Try.prog 80 Go.Pen.Point := by
  intro H enc w fuel cs x h
  obtain ⟨d, hcs, hw⟩ := rx_80 h
  exact ⟨d, hcs, hw⟩

theorem rx_32 {H : Type} {enc : TypeId × Value → H} {w : World} {fuel : Nat} {cs : List Value} {x : DataW H × List MemPlace} (h : DataW.trod enc Try.prog w 0 (fun _ => true) true fuel 32 cs = some x) :
    ∃ (d : Go.Pen.Series) (a0 : Option Addr) (c0 : Nat), cs = [.slice a0 d.Points.length c0] ∧ SlView w d.Points a0 c0 ∧ Wf.wf d := by
  obtain ⟨xs, n, _, _, hlen, hsz, hf⟩ := DataW.trod_struct Try.underlying32 h
  have hl : cs.length = 1 := hlen.trans (by kernel_rfl)
  have hz : xs.length = 1 := hsz
  have g0 := hf 0 _ rfl
  rw [List.getElem?_eq_getElem (by omega : 0 < xs.length)] at g0
  obtain ⟨d0, b0, k0, e0, u0, w0⟩ := open_sl rd_80 Try.underlying30 (by kernel_rfl) g0
  replace e0 : (cs.drop 0).take 1 = [.slice b0 d0.length k0] := e0
  refine ⟨⟨d0⟩, b0, k0, ?_, u0, w0⟩
  show List.drop 0 cs = _
  rw [cutL cs 0 1, e0, List.drop_eq_nil_of_le (by omega)]
  rfl

theorem own : ownKnob Try.prog.godebug = none := by kernel_rfl
theorem laidOut : laidOutB Try.prog = true := by kernel_rfl
set_option maxRecDepth 100000 in
theorem lifted (os : Os) (started : os.Started) (H : Type) (enc : TypeId × Value → H) :
    ReturnsInHanded {} Try.checked os 4 .any (Rows.fnExactSeriesAsOfSpec.pre6 enc Try.prog Try.f4 Rows.fnExactSeriesAsOfRow.domain false) (Rows.fnExactSeriesAsOfSpec.post enc Try.prog Try.f4 false true false false) := by
  refine returnsInHanded_of_change (C := Try.checked) own started (by kernel_rfl) Try.func4
    (ChangeSpec.witness6 (enc := enc) (C := Try.checked) false ⟨#[], #[.agg #[.slice none 0 0], .int .i64 0], []⟩ 8 (by kernel_rfl) (by kernel_rfl) (by kernel_rfl) (by kernel_rfl)) ?_
  intro W base args ds gs before hval0 hW hcnd _
  have hval : ∀ (j : Nat) t v, Try.f4.params[j]? = some t → args[j]? = some v → Value.okWide Try.prog W .any base t v := hval0
  have hW' := hW
  obtain ⟨p, q, hA0, hV, rfl, hfz, hnd⟩ := hW
  have hA : DataW.TrodAll enc Try.prog W 0 (fun _ => true) true Try.f4.params.toList args.toList ds p := hA0
  rw [Try.params4] at hA hval
  obtain ⟨v0, vs0, d0, ds0, p0, q0, hargs, rfl, rfl, h0, r0⟩ := trodAll_cons hA
  obtain ⟨v1, vs1, d1, ds1, p1, q1, rfl, rfl, rfl, h1, r1⟩ := trodAll_cons r0
  obtain ⟨rfl, rfl, rfl⟩ := trodAll_nil r1
  obtain rfl : args = #[v0, v1] := by cases args; simp_all
  obtain ⟨rfl, rfl⟩ := trodVars_none hV
  have k0 := h0
  have lt0 : ∀ x ∈ p0, x.block < W.heap.size := by obtain ⟨m, hm⟩ := k0; exact DataW.trod_lt m _ _ _ hm
  obtain ⟨cs0, rfl, _⟩ := okWide_struct Try.underlying32 (hval 0 32 v0 rfl rfl)
  obtain ⟨fu0, hf0⟩ := h0
  obtain ⟨x0, a0_0, c0_0, hcs0, hv0_0, wf0⟩ := rx_32 hf0
  obtain rfl : cs0 = #[.slice a0_0 x0.Points.length c0_0] := by obtain ⟨l⟩ := cs0; simpa [Value.cells] using hcs0
  have k1 := h1
  have lt1 : ∀ x ∈ p1, x.block < W.heap.size := by obtain ⟨m, hm⟩ := k1; exact DataW.trod_lt m _ _ _ hm
  obtain ⟨x1, rfl, rfl, rfl, w1⟩ := open_int Try.underlying3 (hval 1 3 v1 rfl rfl) h1
  have wf1 : i64ok x1 := by simp [Lit.wf, IntKind.min, IntKind.max, IntKind.bits, IntKind.signed] at w1; simp only [i64ok]; omega
  clear hA0 hval0
  refine (c_laws_FnExactSeriesAsOf (SeriesAsOf_law x0 x1 wf0 wf1) hv0_0).mono fun e W' ⟨he, bel⟩ => ?_
  subst he
  exact ⟨_, rfl, _, _, _, [], _, [], hW', trodAll_mk1 (shut_bool Try.underlying4 _), (trodAll_cons_mk (Below.trod laidOut (by kernel_rfl) (of_decide_eq_true (by kernel_rfl)) k0 bel lt0) (trodAll_cons_mk (Below.trod laidOut (by kernel_rfl) (of_decide_eq_true (by kernel_rfl)) k1 bel lt1) trodAll_mk0)), rfl, bel.frame _, fun h => by cases h⟩

theorem closed : joinedFacts Try.pinned.checked.prog 4 Try.f4 Rows.fnExactSeriesAsOfSpec Rows.fnExactSeriesAsOfRow = true := by
  unfold joinedFacts
  simp only [Bool.and_eq_true]
  repeat' apply And.intro
  all_goals as_aux_lemma => kernel_rfl

theorem over : Rows.fnExactSeriesAsOfRow.holds Try.pinned (OpenSpec.ofChange Rows.fnExactSeriesAsOfSpec) :=
  OpenClaim.holds_of_wide 4 Try.f4 rfl rfl rfl rfl rfl rfl rfl ⟨rfl, rfl, rfl, rfl, rfl⟩ rfl rfl rfl rfl rfl (by as_aux_lemma => kernel_rfl) Try.func4 closed
    (of_decide_eq_true (by as_aux_lemma => kernel_rfl)) (by unfold Func.isWrapper; first | (rw [if_pos (by decide +kernel)]; kernel_rfl) | (rw [if_neg (by decide +kernel)]; exact ⟨rfl, rfl⟩))
    (fun os started H enc _ => lifted os started H enc)

theorem proved : Rows.FnExactSeriesAsOfSaid := over
#print axioms proved
end Go.Proofs.Ytgdhafgblfapiaa.fnExactSeriesAsOfDone
