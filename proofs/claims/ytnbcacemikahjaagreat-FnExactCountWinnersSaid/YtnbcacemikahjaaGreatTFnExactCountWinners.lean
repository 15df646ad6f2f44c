/-
  The law FnExactCountWinners of the given program returns true for every input, and its arguments read afterwards as they did: for every input, no condition.
-/
import Derived.Test.YtnbcacemikahjaaGreatRows
import Derived.Test.YtnbcacemikahjaaGreatW4
import Derived.Test.YtnbcacemikahjaaGreatPenR
import Derived.Test.YtnbcacemikahjaaGreatLX
import Derived.OpenShut
import Derived.ShutString
import Derived.ChangeOld
namespace Go.Proofs.YtnbcacemikahjaaGreat.fnExactCountWinnersDone
open Go.ChangeShapes Go.WideShapes Go.ChangeAt Go.RowKit Go.Pen
set_option linter.unusedVariables false
set_option maxRecDepth 100000
set_option maxHeartbeats 4000000

theorem cutL (cs : List Value) (o s : Nat) : cs.drop o = (cs.drop o).take s ++ cs.drop (o + s) := by
  rw [← List.drop_drop, List.take_append_drop]

theorem rd_3 : RdE Tryz.prog 3 Int := rd_int Tryz.underlying3

theorem rx_179 {H : Type} {enc : TypeId × Value → H} {w : World} {fuel : Nat} {cs : List Value} {x : DataW H × List MemPlace} (h : DataW.trod enc Tryz.prog w 0 (fun _ => true) true fuel 179 cs = some x) :
    ∃ (d : Go.Pen.Frac) , cs = [.int .i64 d.Num, .int .i64 d.Den] ∧ Wf.wf d := by
  obtain ⟨xs, n, _, _, hlen, hsz, hf⟩ := DataW.trod_struct Tryz.underlying179 h
  have hl : cs.length = 2 := hlen.trans (by kernel_rfl)
  have hz : xs.length = 2 := hsz
  have g0 := hf 0 _ rfl
  rw [List.getElem?_eq_getElem (by omega : 0 < xs.length)] at g0
  obtain ⟨d0, e0, w0⟩ := rd_3 enc w n _ _ g0
  replace e0 : (cs.drop 0).take 1 = [.int .i64 d0] := e0
  have g1 := hf 1 _ rfl
  rw [List.getElem?_eq_getElem (by omega : 1 < xs.length)] at g1
  obtain ⟨d1, e1, w1⟩ := rd_3 enc w n _ _ g1
  replace e1 : (cs.drop 1).take 1 = [.int .i64 d1] := e1
  refine ⟨⟨d0, d1⟩, ?_, ⟨w0, w1⟩⟩
  show List.drop 0 cs = _
  rw [cutL cs 0 1, e0, cutL cs 1 1, e1, List.drop_eq_nil_of_le (by omega)]
  rfl

theorem rx_181 {H : Type} {enc : TypeId × Value → H} {w : World} {fuel : Nat} {cs : List Value} {x : DataW H × List MemPlace} (h : DataW.trod enc Tryz.prog w 0 (fun _ => true) true fuel 181 cs = some x) :
    ∃ (d : Go.Pen.Node) , cs = [.int .i64 d.Kind, .int .i64 d.A, .int .i64 d.B, .int .i64 d.C, .int .i64 d.Value.Num, .int .i64 d.Value.Den] ∧ Wf.wf d := by
  obtain ⟨xs, n, _, _, hlen, hsz, hf⟩ := DataW.trod_struct Tryz.underlying181 h
  have hl : cs.length = 6 := hlen.trans (by kernel_rfl)
  have hz : xs.length = 5 := hsz
  have g0 := hf 0 _ rfl
  rw [List.getElem?_eq_getElem (by omega : 0 < xs.length)] at g0
  obtain ⟨d0, e0, w0⟩ := rd_3 enc w n _ _ g0
  replace e0 : (cs.drop 0).take 1 = [.int .i64 d0] := e0
  have g1 := hf 1 _ rfl
  rw [List.getElem?_eq_getElem (by omega : 1 < xs.length)] at g1
  obtain ⟨d1, e1, w1⟩ := rd_3 enc w n _ _ g1
  replace e1 : (cs.drop 1).take 1 = [.int .i64 d1] := e1
  have g2 := hf 2 _ rfl
  rw [List.getElem?_eq_getElem (by omega : 2 < xs.length)] at g2
  obtain ⟨d2, e2, w2⟩ := rd_3 enc w n _ _ g2
  replace e2 : (cs.drop 2).take 1 = [.int .i64 d2] := e2
  have g3 := hf 3 _ rfl
  rw [List.getElem?_eq_getElem (by omega : 3 < xs.length)] at g3
  obtain ⟨d3, e3, w3⟩ := rd_3 enc w n _ _ g3
  replace e3 : (cs.drop 3).take 1 = [.int .i64 d3] := e3
  have g4 := hf 4 _ rfl
  rw [List.getElem?_eq_getElem (by omega : 4 < xs.length)] at g4
  obtain ⟨d4, e4, w4⟩ := rx_179 g4
  replace e4 : (cs.drop 4).take 2 = [.int .i64 d4.Num, .int .i64 d4.Den] := e4
  refine ⟨⟨d0, d1, d2, d3, d4⟩, ?_, ⟨w0, w1, w2, w3, w4⟩⟩
  show List.drop 0 cs = _
  rw [cutL cs 0 1, e0, cutL cs 1 1, e1, cutL cs 2 1, e2, cutL cs 3 1, e3, cutL cs 4 2, e4, List.drop_eq_nil_of_le (by omega)]
  rfl

theorem rd_181 : RdE Tryz.prog 181 Go.Pen.Node := by
  intro H enc w fuel cs x h
  obtain ⟨d, hcs, hw⟩ := rx_181 h
  exact ⟨d, hcs, hw⟩

theorem rx_63 {H : Type} {enc : TypeId × Value → H} {w : World} {fuel : Nat} {cs : List Value} {x : DataW H × List MemPlace} (h : DataW.trod enc Tryz.prog w 0 (fun _ => true) true fuel 63 cs = some x) :
    ∃ (d : Go.Pen.Rule) (a0 : Option Addr) (c0 : Nat), cs = [.int .i64 d.Name, .int .i64 d.From, .int .i64 d.To, .int .i64 d.Joined, .int .i64 d.Rank, .int .i64 d.Mode, .slice a0 d.Nodes.length c0] ∧ SlView w d.Nodes a0 c0 ∧ Wf.wf d := by
  obtain ⟨xs, n, _, _, hlen, hsz, hf⟩ := DataW.trod_struct Tryz.underlying63 h
  have hl : cs.length = 7 := hlen.trans (by kernel_rfl)
  have hz : xs.length = 7 := hsz
  have g0 := hf 0 _ rfl
  rw [List.getElem?_eq_getElem (by omega : 0 < xs.length)] at g0
  obtain ⟨d0, e0, w0⟩ := rd_3 enc w n _ _ g0
  replace e0 : (cs.drop 0).take 1 = [.int .i64 d0] := e0
  have g1 := hf 1 _ rfl
  rw [List.getElem?_eq_getElem (by omega : 1 < xs.length)] at g1
  obtain ⟨d1, e1, w1⟩ := rd_3 enc w n _ _ g1
  replace e1 : (cs.drop 1).take 1 = [.int .i64 d1] := e1
  have g2 := hf 2 _ rfl
  rw [List.getElem?_eq_getElem (by omega : 2 < xs.length)] at g2
  obtain ⟨d2, e2, w2⟩ := rd_3 enc w n _ _ g2
  replace e2 : (cs.drop 2).take 1 = [.int .i64 d2] := e2
  have g3 := hf 3 _ rfl
  rw [List.getElem?_eq_getElem (by omega : 3 < xs.length)] at g3
  obtain ⟨d3, e3, w3⟩ := rd_3 enc w n _ _ g3
  replace e3 : (cs.drop 3).take 1 = [.int .i64 d3] := e3
  have g4 := hf 4 _ rfl
  rw [List.getElem?_eq_getElem (by omega : 4 < xs.length)] at g4
  obtain ⟨d4, e4, w4⟩ := rd_3 enc w n _ _ g4
  replace e4 : (cs.drop 4).take 1 = [.int .i64 d4] := e4
  have g5 := hf 5 _ rfl
  rw [List.getElem?_eq_getElem (by omega : 5 < xs.length)] at g5
  obtain ⟨d5, e5, w5⟩ := rd_3 enc w n _ _ g5
  replace e5 : (cs.drop 5).take 1 = [.int .i64 d5] := e5
  have g6 := hf 6 _ rfl
  rw [List.getElem?_eq_getElem (by omega : 6 < xs.length)] at g6
  obtain ⟨d6, b6, k6, e6, u6, w6⟩ := open_sl rd_181 Tryz.underlying61 (by kernel_rfl) g6
  replace e6 : (cs.drop 6).take 1 = [.slice b6 d6.length k6] := e6
  refine ⟨⟨d0, d1, d2, d3, d4, d5, d6⟩, b6, k6, ?_, u6, ⟨w0, w1, w2, w3, w4, w5, w6⟩⟩
  show List.drop 0 cs = _
  rw [cutL cs 0 1, e0, cutL cs 1 1, e1, cutL cs 2 1, e2, cutL cs 3 1, e3, cutL cs 4 1, e4, cutL cs 5 1, e5, cutL cs 6 1, e6, List.drop_eq_nil_of_le (by omega)]
  rfl

theorem rd_63 : RdE Tryz.prog 63 Go.Pen.Rule := by
  intro H enc w fuel cs x h
  obtain ⟨d, a0, c0, hcs, v0, hw⟩ := rx_63 h
  exact ⟨d, ⟨a0, c0, hcs, v0⟩, hw⟩

theorem rx_24 {H : Type} {enc : TypeId × Value → H} {w : World} {fuel : Nat} {cs : List Value} {x : DataW H × List MemPlace} (h : DataW.trod enc Tryz.prog w 0 (fun _ => true) true fuel 24 cs = some x) :
    ∃ (d : Go.Pen.Book) (a0 : Option Addr) (c0 : Nat), cs = [.slice a0 d.Rules.length c0] ∧ SlView w d.Rules a0 c0 ∧ Wf.wf d := by
  obtain ⟨xs, n, _, _, hlen, hsz, hf⟩ := DataW.trod_struct Tryz.underlying24 h
  have hl : cs.length = 1 := hlen.trans (by kernel_rfl)
  have hz : xs.length = 1 := hsz
  have g0 := hf 0 _ rfl
  rw [List.getElem?_eq_getElem (by omega : 0 < xs.length)] at g0
  obtain ⟨d0, b0, k0, e0, u0, w0⟩ := open_sl rd_63 Tryz.underlying22 (by kernel_rfl) g0
  replace e0 : (cs.drop 0).take 1 = [.slice b0 d0.length k0] := e0
  refine ⟨⟨d0⟩, b0, k0, ?_, u0, w0⟩
  show List.drop 0 cs = _
  rw [cutL cs 0 1, e0, List.drop_eq_nil_of_le (by omega)]
  rfl

theorem rx_205 {H : Type} {enc : TypeId × Value → H} {w : World} {fuel : Nat} {cs : List Value} {x : DataW H × List MemPlace} (h : DataW.trod enc Tryz.prog w 0 (fun _ => true) true fuel 205 cs = some x) :
    ∃ (d : Go.Pen.Fact) , cs = [.int .i64 d.Key, .int .i64 d.From, .int .i64 d.To, .int .i64 d.Known, .int .i64 d.Value] ∧ Wf.wf d := by
  obtain ⟨xs, n, _, _, hlen, hsz, hf⟩ := DataW.trod_struct Tryz.underlying205 h
  have hl : cs.length = 5 := hlen.trans (by kernel_rfl)
  have hz : xs.length = 5 := hsz
  have g0 := hf 0 _ rfl
  rw [List.getElem?_eq_getElem (by omega : 0 < xs.length)] at g0
  obtain ⟨d0, e0, w0⟩ := rd_3 enc w n _ _ g0
  replace e0 : (cs.drop 0).take 1 = [.int .i64 d0] := e0
  have g1 := hf 1 _ rfl
  rw [List.getElem?_eq_getElem (by omega : 1 < xs.length)] at g1
  obtain ⟨d1, e1, w1⟩ := rd_3 enc w n _ _ g1
  replace e1 : (cs.drop 1).take 1 = [.int .i64 d1] := e1
  have g2 := hf 2 _ rfl
  rw [List.getElem?_eq_getElem (by omega : 2 < xs.length)] at g2
  obtain ⟨d2, e2, w2⟩ := rd_3 enc w n _ _ g2
  replace e2 : (cs.drop 2).take 1 = [.int .i64 d2] := e2
  have g3 := hf 3 _ rfl
  rw [List.getElem?_eq_getElem (by omega : 3 < xs.length)] at g3
  obtain ⟨d3, e3, w3⟩ := rd_3 enc w n _ _ g3
  replace e3 : (cs.drop 3).take 1 = [.int .i64 d3] := e3
  have g4 := hf 4 _ rfl
  rw [List.getElem?_eq_getElem (by omega : 4 < xs.length)] at g4
  obtain ⟨d4, e4, w4⟩ := rd_3 enc w n _ _ g4
  replace e4 : (cs.drop 4).take 1 = [.int .i64 d4] := e4
  refine ⟨⟨d0, d1, d2, d3, d4⟩, ?_, ⟨w0, w1, w2, w3, w4⟩⟩
  show List.drop 0 cs = _
  rw [cutL cs 0 1, e0, cutL cs 1 1, e1, cutL cs 2 1, e2, cutL cs 3 1, e3, cutL cs 4 1, e4, List.drop_eq_nil_of_le (by omega)]
  rfl

theorem rd_205 : RdE Tryz.prog 205 Go.Pen.Fact := by
  intro H enc w fuel cs x h
  obtain ⟨d, hcs, hw⟩ := rx_205 h
  exact ⟨d, hcs, hw⟩

theorem rx_27 {H : Type} {enc : TypeId × Value → H} {w : World} {fuel : Nat} {cs : List Value} {x : DataW H × List MemPlace} (h : DataW.trod enc Tryz.prog w 0 (fun _ => true) true fuel 27 cs = some x) :
    ∃ (d : Go.Pen.Store) (a0 : Option Addr) (c0 : Nat), cs = [.slice a0 d.Facts.length c0] ∧ SlView w d.Facts a0 c0 ∧ Wf.wf d := by
  obtain ⟨xs, n, _, _, hlen, hsz, hf⟩ := DataW.trod_struct Tryz.underlying27 h
  have hl : cs.length = 1 := hlen.trans (by kernel_rfl)
  have hz : xs.length = 1 := hsz
  have g0 := hf 0 _ rfl
  rw [List.getElem?_eq_getElem (by omega : 0 < xs.length)] at g0
  obtain ⟨d0, b0, k0, e0, u0, w0⟩ := open_sl rd_205 Tryz.underlying25 (by kernel_rfl) g0
  replace e0 : (cs.drop 0).take 1 = [.slice b0 d0.length k0] := e0
  refine ⟨⟨d0⟩, b0, k0, ?_, u0, w0⟩
  show List.drop 0 cs = _
  rw [cutL cs 0 1, e0, List.drop_eq_nil_of_le (by omega)]
  rfl

theorem rx_209 {H : Type} {enc : TypeId × Value → H} {w : World} {fuel : Nat} {cs : List Value} {x : DataW H × List MemPlace} (h : DataW.trod enc Tryz.prog w 0 (fun _ => true) true fuel 209 cs = some x) :
    ∃ (d : Go.Pen.Point) , cs = [.int .i64 d.Month, .int .i64 d.Known, .int .i64 d.Value] ∧ Wf.wf d := by
  obtain ⟨xs, n, _, _, hlen, hsz, hf⟩ := DataW.trod_struct Tryz.underlying209 h
  have hl : cs.length = 3 := hlen.trans (by kernel_rfl)
  have hz : xs.length = 3 := hsz
  have g0 := hf 0 _ rfl
  rw [List.getElem?_eq_getElem (by omega : 0 < xs.length)] at g0
  obtain ⟨d0, e0, w0⟩ := rd_3 enc w n _ _ g0
  replace e0 : (cs.drop 0).take 1 = [.int .i64 d0] := e0
  have g1 := hf 1 _ rfl
  rw [List.getElem?_eq_getElem (by omega : 1 < xs.length)] at g1
  obtain ⟨d1, e1, w1⟩ := rd_3 enc w n _ _ g1
  replace e1 : (cs.drop 1).take 1 = [.int .i64 d1] := e1
  have g2 := hf 2 _ rfl
  rw [List.getElem?_eq_getElem (by omega : 2 < xs.length)] at g2
  obtain ⟨d2, e2, w2⟩ := rd_3 enc w n _ _ g2
  replace e2 : (cs.drop 2).take 1 = [.int .i64 d2] := e2
  refine ⟨⟨d0, d1, d2⟩, ?_, ⟨w0, w1, w2⟩⟩
  show List.drop 0 cs = _
  rw [cutL cs 0 1, e0, cutL cs 1 1, e1, cutL cs 2 1, e2, List.drop_eq_nil_of_le (by omega)]
  rfl

theorem rd_209 : RdE Tryz.prog 209 Go.Pen.Point := by
  intro H enc w fuel cs x h
  obtain ⟨d, hcs, hw⟩ := rx_209 h
  exact ⟨d, hcs, hw⟩

theorem rx_30 {H : Type} {enc : TypeId × Value → H} {w : World} {fuel : Nat} {cs : List Value} {x : DataW H × List MemPlace} (h : DataW.trod enc Tryz.prog w 0 (fun _ => true) true fuel 30 cs = some x) :
    ∃ (d : Go.Pen.Series) (a0 : Option Addr) (c0 : Nat), cs = [.slice a0 d.Points.length c0] ∧ SlView w d.Points a0 c0 ∧ Wf.wf d := by
  obtain ⟨xs, n, _, _, hlen, hsz, hf⟩ := DataW.trod_struct Tryz.underlying30 h
  have hl : cs.length = 1 := hlen.trans (by kernel_rfl)
  have hz : xs.length = 1 := hsz
  have g0 := hf 0 _ rfl
  rw [List.getElem?_eq_getElem (by omega : 0 < xs.length)] at g0
  obtain ⟨d0, b0, k0, e0, u0, w0⟩ := open_sl rd_209 Tryz.underlying28 (by kernel_rfl) g0
  replace e0 : (cs.drop 0).take 1 = [.slice b0 d0.length k0] := e0
  refine ⟨⟨d0⟩, b0, k0, ?_, u0, w0⟩
  show List.drop 0 cs = _
  rw [cutL cs 0 1, e0, List.drop_eq_nil_of_le (by omega)]
  rfl

theorem rd_4 : RdE Tryz.prog 4 Bool := rd_bool Tryz.underlying4

theorem rx_213 {H : Type} {enc : TypeId × Value → H} {w : World} {fuel : Nat} {cs : List Value} {x : DataW H × List MemPlace} (h : DataW.trod enc Tryz.prog w 0 (fun _ => true) true fuel 213 cs = some x) :
    ∃ (d : Go.Pen.Spell) , cs = [.int .i64 d.From, .int .i64 d.To, .int .i64 d.Percent, .bool d.Leave] ∧ Wf.wf d := by
  obtain ⟨xs, n, _, _, hlen, hsz, hf⟩ := DataW.trod_struct Tryz.underlying213 h
  have hl : cs.length = 4 := hlen.trans (by kernel_rfl)
  have hz : xs.length = 4 := hsz
  have g0 := hf 0 _ rfl
  rw [List.getElem?_eq_getElem (by omega : 0 < xs.length)] at g0
  obtain ⟨d0, e0, w0⟩ := rd_3 enc w n _ _ g0
  replace e0 : (cs.drop 0).take 1 = [.int .i64 d0] := e0
  have g1 := hf 1 _ rfl
  rw [List.getElem?_eq_getElem (by omega : 1 < xs.length)] at g1
  obtain ⟨d1, e1, w1⟩ := rd_3 enc w n _ _ g1
  replace e1 : (cs.drop 1).take 1 = [.int .i64 d1] := e1
  have g2 := hf 2 _ rfl
  rw [List.getElem?_eq_getElem (by omega : 2 < xs.length)] at g2
  obtain ⟨d2, e2, w2⟩ := rd_3 enc w n _ _ g2
  replace e2 : (cs.drop 2).take 1 = [.int .i64 d2] := e2
  have g3 := hf 3 _ rfl
  rw [List.getElem?_eq_getElem (by omega : 3 < xs.length)] at g3
  obtain ⟨d3, e3, w3⟩ := rd_4 enc w n _ _ g3
  replace e3 : (cs.drop 3).take 1 = [.bool d3] := e3
  refine ⟨⟨d0, d1, d2, d3⟩, ?_, ⟨w0, w1, w2, w3⟩⟩
  show List.drop 0 cs = _
  rw [cutL cs 0 1, e0, cutL cs 1 1, e1, cutL cs 2 1, e2, cutL cs 3 1, e3, List.drop_eq_nil_of_le (by omega)]
  rfl

theorem rd_213 : RdE Tryz.prog 213 Go.Pen.Spell := by
  intro H enc w fuel cs x h
  obtain ⟨d, hcs, hw⟩ := rx_213 h
  exact ⟨d, hcs, hw⟩

theorem rx_217 {H : Type} {enc : TypeId × Value → H} {w : World} {fuel : Nat} {cs : List Value} {x : DataW H × List MemPlace} (h : DataW.trod enc Tryz.prog w 0 (fun _ => true) true fuel 217 cs = some x) :
    ∃ (d : Go.Pen.Event) , cs = [.int .i64 d.Kind, .int .i64 d.Month] ∧ Wf.wf d := by
  obtain ⟨xs, n, _, _, hlen, hsz, hf⟩ := DataW.trod_struct Tryz.underlying217 h
  have hl : cs.length = 2 := hlen.trans (by kernel_rfl)
  have hz : xs.length = 2 := hsz
  have g0 := hf 0 _ rfl
  rw [List.getElem?_eq_getElem (by omega : 0 < xs.length)] at g0
  obtain ⟨d0, e0, w0⟩ := rd_3 enc w n _ _ g0
  replace e0 : (cs.drop 0).take 1 = [.int .i64 d0] := e0
  have g1 := hf 1 _ rfl
  rw [List.getElem?_eq_getElem (by omega : 1 < xs.length)] at g1
  obtain ⟨d1, e1, w1⟩ := rd_3 enc w n _ _ g1
  replace e1 : (cs.drop 1).take 1 = [.int .i64 d1] := e1
  refine ⟨⟨d0, d1⟩, ?_, ⟨w0, w1⟩⟩
  show List.drop 0 cs = _
  rw [cutL cs 0 1, e0, cutL cs 1 1, e1, List.drop_eq_nil_of_le (by omega)]
  rfl

theorem rd_217 : RdE Tryz.prog 217 Go.Pen.Event := by
  intro H enc w fuel cs x h
  obtain ⟨d, hcs, hw⟩ := rx_217 h
  exact ⟨d, hcs, hw⟩

theorem rx_34 {H : Type} {enc : TypeId × Value → H} {w : World} {fuel : Nat} {cs : List Value} {x : DataW H × List MemPlace} (h : DataW.trod enc Tryz.prog w 0 (fun _ => true) true fuel 34 cs = some x) :
    ∃ (d : Go.Pen.Member) (a0 : Option Addr) (c0 : Nat) (a1 : Option Addr) (c1 : Nat), cs = [.int .i64 d.Birth, .int .i64 d.Joined, .slice a0 d.Spells.length c0, .slice a1 d.Events.length c1] ∧ SlView w d.Spells a0 c0 ∧ SlView w d.Events a1 c1 ∧ Wf.wf d := by
  obtain ⟨xs, n, _, _, hlen, hsz, hf⟩ := DataW.trod_struct Tryz.underlying34 h
  have hl : cs.length = 4 := hlen.trans (by kernel_rfl)
  have hz : xs.length = 4 := hsz
  have g0 := hf 0 _ rfl
  rw [List.getElem?_eq_getElem (by omega : 0 < xs.length)] at g0
  obtain ⟨d0, e0, w0⟩ := rd_3 enc w n _ _ g0
  replace e0 : (cs.drop 0).take 1 = [.int .i64 d0] := e0
  have g1 := hf 1 _ rfl
  rw [List.getElem?_eq_getElem (by omega : 1 < xs.length)] at g1
  obtain ⟨d1, e1, w1⟩ := rd_3 enc w n _ _ g1
  replace e1 : (cs.drop 1).take 1 = [.int .i64 d1] := e1
  have g2 := hf 2 _ rfl
  rw [List.getElem?_eq_getElem (by omega : 2 < xs.length)] at g2
  obtain ⟨d2, b2, k2, e2, u2, w2⟩ := open_sl rd_213 Tryz.underlying31 (by kernel_rfl) g2
  replace e2 : (cs.drop 2).take 1 = [.slice b2 d2.length k2] := e2
  have g3 := hf 3 _ rfl
  rw [List.getElem?_eq_getElem (by omega : 3 < xs.length)] at g3
  obtain ⟨d3, b3, k3, e3, u3, w3⟩ := open_sl rd_217 Tryz.underlying32 (by kernel_rfl) g3
  replace e3 : (cs.drop 3).take 1 = [.slice b3 d3.length k3] := e3
  refine ⟨⟨d0, d1, d2, d3⟩, b2, k2, b3, k3, ?_, u2, u3, ⟨w0, w1, w2, w3⟩⟩
  show List.drop 0 cs = _
  rw [cutL cs 0 1, e0, cutL cs 1 1, e1, cutL cs 2 1, e2, cutL cs 3 1, e3, List.drop_eq_nil_of_le (by omega)]
  rfl

theorem rx_36 {H : Type} {enc : TypeId × Value → H} {w : World} {fuel : Nat} {cs : List Value} {x : DataW H × List MemPlace} (h : DataW.trod enc Tryz.prog w 0 (fun _ => true) true fuel 36 cs = some x) :
    ∃ (d : Go.Pen.Case) (a0 : Option Addr) (c0 : Nat) (a1 : Option Addr) (c1 : Nat) (a2 : Option Addr) (c2 : Nat) (a3 : Option Addr) (c3 : Nat) (a4 : Option Addr) (c4 : Nat), cs = [.slice a0 d.Book.Rules.length c0, .slice a1 d.Store.Facts.length c1, .slice a2 d.Series.Points.length c2, .int .i64 d.Member.Birth, .int .i64 d.Member.Joined, .slice a3 d.Member.Spells.length c3, .slice a4 d.Member.Events.length c4] ∧ SlView w d.Book.Rules a0 c0 ∧ SlView w d.Store.Facts a1 c1 ∧ SlView w d.Series.Points a2 c2 ∧ SlView w d.Member.Spells a3 c3 ∧ SlView w d.Member.Events a4 c4 ∧ Wf.wf d := by
  obtain ⟨xs, n, _, _, hlen, hsz, hf⟩ := DataW.trod_struct Tryz.underlying36 h
  have hl : cs.length = 7 := hlen.trans (by kernel_rfl)
  have hz : xs.length = 4 := hsz
  have g0 := hf 0 _ rfl
  rw [List.getElem?_eq_getElem (by omega : 0 < xs.length)] at g0
  obtain ⟨d0, b0_0, k0_0, e0, u0_0, w0⟩ := rx_24 g0
  replace e0 : (cs.drop 0).take 1 = [.slice b0_0 d0.Rules.length k0_0] := e0
  have g1 := hf 1 _ rfl
  rw [List.getElem?_eq_getElem (by omega : 1 < xs.length)] at g1
  obtain ⟨d1, b1_0, k1_0, e1, u1_0, w1⟩ := rx_27 g1
  replace e1 : (cs.drop 1).take 1 = [.slice b1_0 d1.Facts.length k1_0] := e1
  have g2 := hf 2 _ rfl
  rw [List.getElem?_eq_getElem (by omega : 2 < xs.length)] at g2
  obtain ⟨d2, b2_0, k2_0, e2, u2_0, w2⟩ := rx_30 g2
  replace e2 : (cs.drop 2).take 1 = [.slice b2_0 d2.Points.length k2_0] := e2
  have g3 := hf 3 _ rfl
  rw [List.getElem?_eq_getElem (by omega : 3 < xs.length)] at g3
  obtain ⟨d3, b3_0, k3_0, b3_1, k3_1, e3, u3_0, u3_1, w3⟩ := rx_34 g3
  replace e3 : (cs.drop 3).take 4 = [.int .i64 d3.Birth, .int .i64 d3.Joined, .slice b3_0 d3.Spells.length k3_0, .slice b3_1 d3.Events.length k3_1] := e3
  refine ⟨⟨d0, d1, d2, d3⟩, b0_0, k0_0, b1_0, k1_0, b2_0, k2_0, b3_0, k3_0, b3_1, k3_1, ?_, u0_0, u1_0, u2_0, u3_0, u3_1, ⟨w0, w1, w2, w3⟩⟩
  show List.drop 0 cs = _
  rw [cutL cs 0 1, e0, cutL cs 1 1, e1, cutL cs 2 1, e2, cutL cs 3 4, e3, List.drop_eq_nil_of_le (by omega)]
  rfl

theorem rd_36 : RdE Tryz.prog 36 Go.Pen.Case := by
  intro H enc w fuel cs x h
  obtain ⟨d, a0, c0, a1, c1, a2, c2, a3, c3, a4, c4, hcs, v0, v1, v2, v3, v4, hw⟩ := rx_36 h
  exact ⟨d, ⟨a0, c0, a1, c1, a2, c2, a3, c3, a4, c4, hcs, v0, v1, v2, v3, v4⟩, hw⟩

theorem own : ownKnob Tryz.prog.godebug = none := by kernel_rfl
theorem laidOut : laidOutB Tryz.prog = true := by kernel_rfl
set_option maxRecDepth 100000 in
theorem lifted (os : Os) (started : os.Started) (H : Type) (enc : TypeId × Value → H) :
    ReturnsInHanded {} Tryz.checked os 12 .any (Rows.fnExactCountWinnersSpec.pre6 enc Tryz.prog Tryz.f12 Rows.fnExactCountWinnersRow.domain false) (Rows.fnExactCountWinnersSpec.post enc Tryz.prog Tryz.f12 false true false false) := by
  refine returnsInHanded_of_change (C := Tryz.checked) own started (by kernel_rfl) Tryz.func12
    (ChangeSpec.witness6 (enc := enc) (C := Tryz.checked) false ⟨#[], #[.slice none 0 0, .agg #[.int .i64 0, .int .i64 0, .int .i64 0, .int .i64 0, .int .i64 0, .int .i64 0, .slice none 0 0], .int .i64 0, .int .i64 0, .int .i64 0], []⟩ 8 (by kernel_rfl) (by kernel_rfl) (by kernel_rfl) (by kernel_rfl)) ?_
  intro W base args ds gs before hval0 hW hcnd _
  have hval : ∀ (j : Nat) t v, Tryz.f12.params[j]? = some t → args[j]? = some v → Value.okWide Tryz.prog W .any base t v := hval0
  have hW' := hW
  obtain ⟨p, q, hA0, hV, rfl, hfz, hnd⟩ := hW
  have hA : DataW.TrodAll enc Tryz.prog W 0 (fun _ => true) true Tryz.f12.params.toList args.toList ds p := hA0
  rw [Tryz.params12] at hA hval
  obtain ⟨v0, vs0, d0, ds0, p0, q0, hargs, rfl, rfl, h0, r0⟩ := trodAll_cons hA
  obtain ⟨v1, vs1, d1, ds1, p1, q1, rfl, rfl, rfl, h1, r1⟩ := trodAll_cons r0
  obtain ⟨v2, vs2, d2, ds2, p2, q2, rfl, rfl, rfl, h2, r2⟩ := trodAll_cons r1
  obtain ⟨v3, vs3, d3, ds3, p3, q3, rfl, rfl, rfl, h3, r3⟩ := trodAll_cons r2
  obtain ⟨v4, vs4, d4, ds4, p4, q4, rfl, rfl, rfl, h4, r4⟩ := trodAll_cons r3
  obtain ⟨rfl, rfl, rfl⟩ := trodAll_nil r4
  obtain rfl : args = #[v0, v1, v2, v3, v4] := by cases args; simp_all
  obtain ⟨rfl, rfl⟩ := trodVars_none hV
  have k0 := h0
  have lt0 : ∀ x ∈ p0, x.block < W.heap.size := by obtain ⟨m, hm⟩ := k0; exact DataW.trod_lt m _ _ _ hm
  obtain ⟨a0, n0, c0, rfl⟩ := okWide_slice Tryz.underlying99 (hval 0 99 v0 rfl rfl)
  obtain ⟨fu0, hf0⟩ := h0
  obtain ⟨x0, b0, e0, hcs0, hv0_0, wf0⟩ := open_sl rd_36 Tryz.underlying99 (by kernel_rfl) hf0
  obtain ⟨rfl, rfl, rfl⟩ : a0 = b0 ∧ n0 = x0.length ∧ c0 = e0 := by simpa [Value.cells] using hcs0
  have k1 := h1
  have lt1 : ∀ x ∈ p1, x.block < W.heap.size := by obtain ⟨m, hm⟩ := k1; exact DataW.trod_lt m _ _ _ hm
  obtain ⟨cs1, rfl, _⟩ := okWide_struct Tryz.underlying63 (hval 1 63 v1 rfl rfl)
  obtain ⟨fu1, hf1⟩ := h1
  obtain ⟨x1, a1_0, c1_0, hcs1, hv1_0, wf1⟩ := rx_63 hf1
  obtain rfl : cs1 = #[.int .i64 x1.Name, .int .i64 x1.From, .int .i64 x1.To, .int .i64 x1.Joined, .int .i64 x1.Rank, .int .i64 x1.Mode, .slice a1_0 x1.Nodes.length c1_0] := by obtain ⟨l⟩ := cs1; simpa [Value.cells] using hcs1
  have k2 := h2
  have lt2 : ∀ x ∈ p2, x.block < W.heap.size := by obtain ⟨m, hm⟩ := k2; exact DataW.trod_lt m _ _ _ hm
  obtain ⟨x2, rfl, rfl, rfl, w2⟩ := open_int Tryz.underlying3 (hval 2 3 v2 rfl rfl) h2
  have wf2 : i64ok x2 := by simp [Lit.wf, IntKind.min, IntKind.max, IntKind.bits, IntKind.signed] at w2; simp only [i64ok]; omega
  have k3 := h3
  have lt3 : ∀ x ∈ p3, x.block < W.heap.size := by obtain ⟨m, hm⟩ := k3; exact DataW.trod_lt m _ _ _ hm
  obtain ⟨x3, rfl, rfl, rfl, w3⟩ := open_int Tryz.underlying3 (hval 3 3 v3 rfl rfl) h3
  have wf3 : i64ok x3 := by simp [Lit.wf, IntKind.min, IntKind.max, IntKind.bits, IntKind.signed] at w3; simp only [i64ok]; omega
  have k4 := h4
  have lt4 : ∀ x ∈ p4, x.block < W.heap.size := by obtain ⟨m, hm⟩ := k4; exact DataW.trod_lt m _ _ _ hm
  obtain ⟨x4, rfl, rfl, rfl, w4⟩ := open_int Tryz.underlying3 (hval 4 3 v4 rfl rfl) h4
  have wf4 : i64ok x4 := by simp [Lit.wf, IntKind.min, IntKind.max, IntKind.bits, IntKind.signed] at w4; simp only [i64ok]; omega
  clear hA0 hval0
  refine (c_laws_FnExactCountWinners (CountWinners_law x0 x1 x2 x3 x4 wf0 wf1 wf2 wf3 wf4) hv0_0 hv1_0).mono fun e W' ⟨he, bel⟩ => ?_
  subst he
  exact ⟨_, rfl, _, _, _, [], _, [], hW', trodAll_mk1 (shut_bool Tryz.underlying4 _), (trodAll_cons_mk (Below.trod laidOut (by kernel_rfl) (of_decide_eq_true (by kernel_rfl)) k0 bel lt0) (trodAll_cons_mk (Below.trod laidOut (by kernel_rfl) (of_decide_eq_true (by kernel_rfl)) k1 bel lt1) (trodAll_cons_mk (Below.trod laidOut (by kernel_rfl) (of_decide_eq_true (by kernel_rfl)) k2 bel lt2) (trodAll_cons_mk (Below.trod laidOut (by kernel_rfl) (of_decide_eq_true (by kernel_rfl)) k3 bel lt3) (trodAll_cons_mk (Below.trod laidOut (by kernel_rfl) (of_decide_eq_true (by kernel_rfl)) k4 bel lt4) trodAll_mk0))))), rfl, bel.frame _, fun h => by cases h⟩

theorem closed : joinedFacts Tryz.pinned.checked.prog 12 Tryz.f12 Rows.fnExactCountWinnersSpec Rows.fnExactCountWinnersRow = true := by
  unfold joinedFacts
  simp only [Bool.and_eq_true]
  repeat' apply And.intro
  all_goals as_aux_lemma => kernel_rfl

theorem over : Rows.fnExactCountWinnersRow.holds Tryz.pinned (OpenSpec.ofChange Rows.fnExactCountWinnersSpec) :=
  OpenClaim.holds_of_wide 12 Tryz.f12 rfl rfl rfl rfl rfl rfl rfl ⟨rfl, rfl, rfl, rfl, rfl⟩ rfl rfl rfl rfl rfl (by as_aux_lemma => kernel_rfl) Tryz.func12 closed
    (of_decide_eq_true (by as_aux_lemma => kernel_rfl)) (by unfold Func.isWrapper; first | (rw [if_pos (by decide +kernel)]; kernel_rfl) | (rw [if_neg (by decide +kernel)]; exact ⟨rfl, rfl⟩))
    (fun os started H enc _ => lifted os started H enc)

theorem proved : Rows.FnExactCountWinnersSaid := over
#print axioms proved
end Go.Proofs.YtnbcacemikahjaaGreat.fnExactCountWinnersDone
