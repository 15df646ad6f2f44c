/-
  The law FnExactLiabilityOf of the given program returns true for every input, and its arguments read afterwards as they did: for every input, no condition.
-/
import Derived.Test.YtdmclmbdghcacaaRows
import Derived.Test.YtdmclmbdghcacaaW6
import Derived.Test.YtdmclmbdghcacaaPenR
import Derived.Test.YtdmclmbdghcacaaL30b
import Derived.OpenShut
import Derived.ShutString
import Derived.ChangeOld
namespace Go.Proofs.Ytdmclmbdghcacaa.fnExactLiabilityOfDone
open Go.ChangeShapes Go.WideShapes Go.ChangeAt Go.RowKit Go.Pen
set_option linter.unusedVariables false
set_option maxRecDepth 100000

theorem cutL (cs : List Value) (o s : Nat) : cs.drop o = (cs.drop o).take s ++ cs.drop (o + s) := by
  rw [← List.drop_drop, List.take_append_drop]

theorem rd_3 : RdE Try.prog 3 Int := rd_int Try.underlying3

theorem rx_108 {H : Type} {enc : TypeId × Value → H} {w : World} {fuel : Nat} {cs : List Value} {x : DataW H × List MemPlace} (h : DataW.trod enc Try.prog w 0 (fun _ => true) true fuel 108 cs = some x) :
    ∃ (d : Go.Pen.Band) , cs = [.int .i64 d.Low, .int .i64 d.High] ∧ Wf.wf d := by
  obtain ⟨xs, n, _, _, hlen, hsz, hf⟩ := DataW.trod_struct Try.underlying108 h
  have hl : cs.length = 2 := hlen.trans (by kernel_rfl)
  have hz : xs.length = 2 := hsz
  have g0 := hf 0 _ rfl
  rw [List.getElem?_eq_getElem (by omega : 0 < xs.length)] at g0
  obtain ⟨d0, e0, w0⟩ := rd_3 enc w n _ _ g0
  replace e0 : (cs.drop 0).take 1 = [.int .i64 d0] := e0
  have g1 := hf 1 _ rfl
  rw [List.getElem?_eq_getElem (by omega : 1 < xs.length)] at g1
  obtain ⟨d1, e1, w1⟩ := rd_3 enc w n _ _ g1
  replace e1 : (cs.drop 1).take 1 = [.int .i64 d1] := e1
  refine ⟨⟨d0, d1⟩, ?_, ⟨w0, w1⟩⟩
  show List.drop 0 cs = _
  rw [cutL cs 0 1, e0, cutL cs 1 1, e1, List.drop_eq_nil_of_le (by omega)]
  rfl

theorem rd_108 : RdE Try.prog 108 Go.Pen.Band := by
  intro H enc w fuel cs x h
  obtain ⟨d, hcs, hw⟩ := rx_108 h
  exact ⟨d, hcs, hw⟩

theorem own : ownKnob Try.prog.godebug = none := by kernel_rfl
theorem laidOut : laidOutB Try.prog = true := by kernel_rfl
set_option maxRecDepth 100000 in
theorem lifted (os : Os) (started : os.Started) (H : Type) (enc : TypeId × Value → H) :
    ReturnsInHanded {} Try.checked os 7 .any (Rows.fnExactLiabilityOfSpec.pre6 enc Try.prog Try.f7 Rows.fnExactLiabilityOfRow.domain false) (Rows.fnExactLiabilityOfSpec.post enc Try.prog Try.f7 false true false false) := by
  refine returnsInHanded_of_change (C := Try.checked) own started (by kernel_rfl) Try.func7
    (ChangeSpec.witness6 (enc := enc) (C := Try.checked) false ⟨#[], #[.slice none 0 0, .slice none 0 0], []⟩ 8 (by kernel_rfl) (by kernel_rfl) (by kernel_rfl) (by kernel_rfl)) ?_
  intro W base args ds gs before hval0 hW hcnd _
  have hval : ∀ (j : Nat) t v, Try.f7.params[j]? = some t → args[j]? = some v → Value.okWide Try.prog W .any base t v := hval0
  have hW' := hW
  obtain ⟨p, q, hA0, hV, rfl, hfz, hnd⟩ := hW
  have hA : DataW.TrodAll enc Try.prog W 0 (fun _ => true) true Try.f7.params.toList args.toList ds p := hA0
  rw [Try.params7] at hA hval
  obtain ⟨v0, vs0, d0, ds0, p0, q0, hargs, rfl, rfl, h0, r0⟩ := trodAll_cons hA
  obtain ⟨v1, vs1, d1, ds1, p1, q1, rfl, rfl, rfl, h1, r1⟩ := trodAll_cons r0
  obtain ⟨rfl, rfl, rfl⟩ := trodAll_nil r1
  obtain rfl : args = #[v0, v1] := by cases args; simp_all
  obtain ⟨rfl, rfl⟩ := trodVars_none hV
  have k0 := h0
  have lt0 : ∀ x ∈ p0, x.block < W.heap.size := by obtain ⟨m, hm⟩ := k0; exact DataW.trod_lt m _ _ _ hm
  obtain ⟨a0, n0, c0, rfl⟩ := okWide_slice Try.underlying22 (hval 0 22 v0 rfl rfl)
  obtain ⟨fu0, hf0⟩ := h0
  obtain ⟨x0, b0, e0, hcs0, hv0_0, wf0⟩ := open_sl rd_3 Try.underlying22 (by kernel_rfl) hf0
  obtain ⟨rfl, rfl, rfl⟩ : a0 = b0 ∧ n0 = x0.length ∧ c0 = e0 := by simpa [Value.cells] using hcs0
  have k1 := h1
  have lt1 : ∀ x ∈ p1, x.block < W.heap.size := by obtain ⟨m, hm⟩ := k1; exact DataW.trod_lt m _ _ _ hm
  obtain ⟨a1, n1, c1, rfl⟩ := okWide_slice Try.underlying45 (hval 1 45 v1 rfl rfl)
  obtain ⟨fu1, hf1⟩ := h1
  obtain ⟨x1, b1, e1, hcs1, hv1_0, wf1⟩ := open_sl rd_108 Try.underlying45 (by kernel_rfl) hf1
  obtain ⟨rfl, rfl, rfl⟩ : a1 = b1 ∧ n1 = x1.length ∧ c1 = e1 := by simpa [Value.cells] using hcs1
  clear hA0 hval0
  refine (c_laws_FnExactLiabilityOf (LiabilityOf_law x0 x1 wf0 wf1) hv0_0 hv1_0).mono fun e W' ⟨he, bel⟩ => ?_
  subst he
  exact ⟨_, rfl, _, _, _, [], _, [], hW', trodAll_mk1 (shut_bool Try.underlying4 _), (trodAll_cons_mk (Below.trod laidOut (by kernel_rfl) (of_decide_eq_true (by kernel_rfl)) k0 bel lt0) (trodAll_cons_mk (Below.trod laidOut (by kernel_rfl) (of_decide_eq_true (by kernel_rfl)) k1 bel lt1) trodAll_mk0)), rfl, bel.frame _, fun h => by cases h⟩

theorem over : Rows.fnExactLiabilityOfRow.holds Try.pinned (OpenSpec.ofChange Rows.fnExactLiabilityOfSpec) :=
  OpenClaim.holds_of_wide 7 Try.f7 rfl rfl rfl rfl rfl rfl rfl ⟨rfl, rfl, rfl, rfl, rfl⟩ rfl rfl rfl rfl rfl (by kernel_rfl) Try.func7 (by kernel_rfl)
    (of_decide_eq_true (by kernel_rfl)) (by unfold Func.isWrapper; first | (rw [if_pos (by decide +kernel)]; kernel_rfl) | (rw [if_neg (by decide +kernel)]; exact ⟨rfl, rfl⟩))
    (fun os started H enc _ => lifted os started H enc)

theorem proved : Rows.FnExactLiabilityOfSaid := over
#print axioms proved
end Go.Proofs.Ytdmclmbdghcacaa.fnExactLiabilityOfDone
