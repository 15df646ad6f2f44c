/-
  Each Go function does what its plain function says: written by a program of ours.
-/
import Derived.Test.YtdmclmbdghcacaaF
import Derived.Test.YtdmclmbdghcacaaProg
namespace Go.Pen
open Go.Proofs
set_option linter.unusedVariables false
set_option maxRecDepth 100000
set_option maxHeartbeats 1000000

theorem c_laws_toIntS {W : World} {x0 : List Int} {a0_0 : Option Addr} {c0_0 : Nat} {r : (List Int)} (h : laws_toIntS x0 = some r) (hv0_0 : SlView W x0 a0_0 c0_0) :
    Gives Try.prog 16 #[.slice a0_0 x0.length c0_0] W (fun y : (Option Addr × Nat) => .slice y.1 r.length y.2) (fun y => [SlRes 3 r y.1 y.2]) := by
  unfold laws_toIntS at h
  refine enter (args := [.slice a0_0 x0.length c0_0]) Try.func16 rfl Try.ntmps16 (by kernel_rfl) ?_
  refine JC_seq ?_
  refine JC_region ?_
  refine JO_stepsK 1 [0] (sl' := [(0, .v (.slice a0_0 x0.length c0_0))]) (bx' := []) (by kernel_rfl) ?_
  refine JO_end (by kernel_rfl) ?_
  refine JE_then ?_
  refine JC_seq ?_
  refine JC_region ?_
  refine JO_stepsK 2 [6, 0] (sl' := [(6, .v (.int .i64 (x0.length : Int))), (0, .v (.slice a0_0 x0.length c0_0))]) (bx' := []) (by kernel_rfl) ?_
  obtain ⟨l22, hm23, h24⟩ := bS h
  refine JO_make (α := Int) rfl (by kernel_rfl) (t := 22) (e := 3) (m := (x0.length : Int)) (by kernel_rfl) (i := Try.t3) (by kernel_rfl) (z := (.int .i64 0)) (by kernel_rfl) (by kernel_rfl) (by kernel_rfl) (by kernel_rfl) (fun w => ⟨rfl, rfl⟩) hm23 (fun y21 => [(7, .v (.slice y21.1 l22.length y21.2)), (6, .v (.int .i64 (x0.length : Int))), (0, .v (.slice a0_0 x0.length c0_0))]) (fun y21 => by kernel_rfl) (fun y21 => ?_)
  refine JO_stepsK 1 [3, 0] (sl' := [(3, .v (.slice y21.1 l22.length y21.2)), (0, .v (.slice a0_0 x0.length c0_0))]) (bx' := []) (by kernel_rfl) ?_
  refine JO_end (by kernel_rfl) ?_
  refine JE_then ?_
  refine JC_seq ?_
  refine JC_seq ?_
  refine JC_region ?_
  refine JO_stepsK 1 [4, 3, 0] (sl' := [(4, .v (.int .i64 0)), (3, .v (.slice y21.1 l22.length y21.2)), (0, .v (.slice a0_0 x0.length c0_0))]) (bx' := []) (by kernel_rfl) ?_
  refine JO_end (by kernel_rfl) ?_
  refine JE_then ?_
  obtain ⟨r28, hL29, h30⟩ := bS h24
  obtain ⟨k31, hk32, h30⟩ := brkS h30
  refine JC_cutP (τ := ((List Int)) × (Unit)) (fun y => k31 y.1 = some r) (fun y36 => [(3, .v (.slice y21.1 y36.1.length y21.2))]) (fun y36 => []) (fun y36 => [SlRes 3 y36.1 y21.1 y21.2]) ?_ (fun y36 h37p => ?_)
  · refine JC_block ?_
    refine JC_loop (τ := Unit) hL29 (fun s25 y26 => [(4, .v (.int .i64 s25.1)), (3, .v (.slice y21.1 s25.2.length y21.2)), (0, .v (.slice a0_0 x0.length c0_0))]) (fun s25 y26 => []) (fun s25 y26 => [SlRes 3 s25.2 y21.1 y21.2]) () [4, 3, 0] [0] 0 (by kernel_rfl) (by kernel_rfl) (by kernel_rfl) (by kernel_rfl) (fun s25 y26 t27 h33 hd34 => ?_)
    refine JC_seq ?_
    refine JC_seq ?_
    refine JC_region ?_
    refine JO_stepsK 4 [11, 4, 3, 0] (sl' := [(11, .v (.bool (decide (s25.1 < (x0.length : Int))))), (4, .v (.int .i64 s25.1)), (3, .v (.slice y21.1 s25.2.length y21.2)), (0, .v (.slice a0_0 x0.length c0_0))]) (bx' := []) (by kernel_rfl) ?_
    refine JO_end (by kernel_rfl) ?_
    refine JE_then ?_
    refine JC_cond (decide (s25.1 < (x0.length : Int))) (by kernel_rfl) (fun b38 => ?_) (fun b38 => ?_)
    · have h39 := cT b38 h33
      refine JC_skip ?_
      refine JE_then ?_
      refine JC_seq ?_
      refine JC_block ?_
      refine JC_region ?_
      refine JO_stepsK 4 [17, 16, 15, 14, 4, 3, 0] (sl' := [(17, .v (.int .i64 s25.1)), (16, .v (.slice a0_0 x0.length c0_0)), (15, .v (.int .i64 s25.1)), (14, .v (.slice y21.1 s25.2.length y21.2)), (4, .v (.int .i64 s25.1)), (3, .v (.slice y21.1 s25.2.length y21.2)), (0, .v (.slice a0_0 x0.length c0_0))]) (bx' := []) (by kernel_rfl) ?_
      obtain ⟨x41, hx42, h43⟩ := bS h39
      refine JO_index rfl (by kernel_rfl) (d := a0_0) (m := x0.length) (j := s25.1) (s := 1) (by kernel_rfl) (fun γ w hs => (hv0_0.kept hs.kept)) rfl hx42 (sl' := [(18, .q a0_0 (Int.toNat s25.1 * 1)), (17, .v (.int .i64 s25.1)), (16, .v (.slice a0_0 x0.length c0_0)), (15, .v (.int .i64 s25.1)), (14, .v (.slice y21.1 s25.2.length y21.2)), (4, .v (.int .i64 s25.1)), (3, .v (.slice y21.1 s25.2.length y21.2)), (0, .v (.slice a0_0 x0.length c0_0))]) (by kernel_rfl) ?_
      refine JO_loadq rfl (by kernel_rfl) (t := 3) (d := a0_0) (Int.toNat s25.1 * 1) 0 (by kernel_rfl) (cs := [.int .i64 x41]) (v := .int .i64 x41) (fun γ w hs => (hv0_0.kept hs.kept).flatq hx42) (by kernel_rfl) (sl' := [(19, .v (.int .i64 x41)), (18, .q a0_0 (Int.toNat s25.1 * 1)), (17, .v (.int .i64 s25.1)), (16, .v (.slice a0_0 x0.length c0_0)), (15, .v (.int .i64 s25.1)), (14, .v (.slice y21.1 s25.2.length y21.2)), (4, .v (.int .i64 s25.1)), (3, .v (.slice y21.1 s25.2.length y21.2)), (0, .v (.slice a0_0 x0.length c0_0))]) (by kernel_rfl) ?_
      obtain ⟨x44, hx45, h46⟩ := bS h43
      refine JO_index rfl (by kernel_rfl) (d := y21.1) (m := s25.2.length) (j := s25.1) (s := 1) (by kernel_rfl) (fun γ w hs => (hs.view 0 rfl)) rfl hx45 (sl' := [(20, .q y21.1 (Int.toNat s25.1 * 1)), (19, .v (.int .i64 x41)), (18, .q a0_0 (Int.toNat s25.1 * 1)), (17, .v (.int .i64 s25.1)), (16, .v (.slice a0_0 x0.length c0_0)), (15, .v (.int .i64 s25.1)), (14, .v (.slice y21.1 s25.2.length y21.2)), (4, .v (.int .i64 s25.1)), (3, .v (.slice y21.1 s25.2.length y21.2)), (0, .v (.slice a0_0 x0.length c0_0))]) (by kernel_rfl) ?_
      obtain ⟨l47, hm48, h49⟩ := bS h46
      replace hm48 := (sI hm48).symm
      refine JO_storeq (α := Int) (d := y21.1) (vs := [.int .i64 x41]) (j := s25.1) (x' := x41) rfl (by kernel_rfl) 0 (by kernel_rfl) hx45 (Rc := []) (Rr := []) rfl (by kernel_rfl) (fun w c F Fs ho _ _ => own_flat_set (by kernel_rfl) ho) hm48 (sl' := [(20, .q y21.1 (Int.toNat s25.1 * 1)), (19, .v (.int .i64 x41)), (18, .q a0_0 (Int.toNat s25.1 * 1)), (17, .v (.int .i64 s25.1)), (16, .v (.slice a0_0 x0.length c0_0)), (15, .v (.int .i64 s25.1)), (14, .v (.slice y21.1 s25.2.length y21.2)), (4, .v (.int .i64 s25.1)), (3, .v (.slice y21.1 s25.2.length y21.2)), (0, .v (.slice a0_0 x0.length c0_0))]) (by kernel_rfl) ?_
      have hl50 := len_set hm48
      refine JO_keep [19, 18, 17, 16, 15, 14, 4, 3, 0] (sl' := [(19, .v (.int .i64 x41)), (18, .q a0_0 (Int.toNat s25.1 * 1)), (17, .v (.int .i64 s25.1)), (16, .v (.slice a0_0 x0.length c0_0)), (15, .v (.int .i64 s25.1)), (14, .v (.slice y21.1 s25.2.length y21.2)), (4, .v (.int .i64 s25.1)), (3, .v (.slice y21.1 s25.2.length y21.2)), (0, .v (.slice a0_0 x0.length c0_0))]) (by kernel_rfl) ?_
      refine JO_eqE (sl' := [(19, .v (.int .i64 x41)), (18, .q a0_0 (Int.toNat s25.1 * 1)), (17, .v (.int .i64 s25.1)), (16, .v (.slice a0_0 x0.length c0_0)), (15, .v (.int .i64 s25.1)), (14, .v (.slice y21.1 l47.length y21.2)), (4, .v (.int .i64 s25.1)), (3, .v (.slice y21.1 l47.length y21.2)), (0, .v (.slice a0_0 x0.length c0_0))]) (bx' := []) (by simp only [hl50]) rfl ?_
      refine JO_end (by kernel_rfl) ?_
      refine JE_block_normal ?_
      refine JE_then ?_
      refine JC_region ?_
      refine JO_stepsK 3 [4, 3, 0] (sl' := [(4, .v (.int .i64 (w64 (s25.1 + 1)))), (3, .v (.slice y21.1 l47.length y21.2)), (0, .v (.slice a0_0 x0.length c0_0))]) (bx' := []) (by kernel_rfl) ?_
      refine JO_end (by kernel_rfl) ?_
      exact JE_cont h49 () [4, 3, 0] [0] 0 (by kernel_rfl) (by kernel_rfl) (by kernel_rfl) (by kernel_rfl)
    · have h40 := cF b38 h33
      refine JC_exit ?_
      refine JE_then_exit ?_
      refine JE_then_exit ?_
      refine JE_block_hit ?_
      have h51 := leafB hd34 h40 h30
      exact JE_meetP (s25.2, ()) h51 [3] [0] 0 (by kernel_rfl) (by kernel_rfl) (by kernel_rfl) (by kernel_rfl)
  · have h37 := (congrFun hk32 _).symm.trans h37p
    refine JE_then ?_
    refine JC_seq ?_
    refine JC_region ?_
    refine JO_stepsK 2 [2] (sl' := [(2, .v (.slice y21.1 y36.1.length y21.2))]) (bx' := []) (by kernel_rfl) ?_
    refine JO_end (by kernel_rfl) ?_
    refine JE_then ?_
    refine JC_ret ?_
    refine JE_ret (vs := [.slice y21.1 y36.1.length y21.2]) (by kernel_rfl) (fun γ w hs => ?_)
    rw [← sI h37]
    exact ⟨(y21.1, y21.2), rfl, hs.kept.toBelow, (hs.takeR (is := [0]) rfl).fresh⟩

theorem c_spec_l01In {W : World} {x0 : Int} {x1 : Int} {x2 : Int} {r : Bool} (h : spec_l01In x0 x1 x2 = some r)  :
    Gives0 Try.prog 71 #[.int .i64 x0, .int .i64 x1, .int .i64 x2] W (.bool r) := by
  unfold spec_l01In at h
  refine enter (args := [.int .i64 x0, .int .i64 x1, .int .i64 x2]) Try.func71 rfl Try.ntmps71 (by kernel_rfl) ?_
  refine JC_seq ?_
  refine JC_region ?_
  refine JO_stepsK 1 [0, 1, 2] (sl' := [(0, .v (.int .i64 x0)), (1, .v (.int .i64 x1)), (2, .v (.int .i64 x2))]) (bx' := []) (by kernel_rfl) ?_
  refine JO_end (by kernel_rfl) ?_
  refine JE_then ?_
  refine JC_seq ?_
  obtain ⟨p21, hE22, h23⟩ := bS h
  refine JC_cut (τ := Unit) (fun _ => [(6, .v (.bool p21))]) (fun _ => []) (fun _ => []) ?_ (fun _ => ?_)
  · refine JC_region ?_
    refine JO_stepsK 4 [10, 0, 2] (sl' := [(10, .v (.bool (decide (x0 ≥ x1)))), (0, .v (.int .i64 x0)), (2, .v (.int .i64 x2))]) (bx' := []) (by kernel_rfl) ?_
    refine JO_split 10 (decide (x0 ≥ x1)) (by kernel_rfl) (fun b24 => ?_) (fun b24 => ?_)
    · have h25 := cT b24 hE22
      refine JO_stepsK 5 [6] (sl' := [(6, .v (.bool (decide (x0 ≤ x2))))]) (bx' := []) (by kernel_rfl) ?_
      refine JO_end (by kernel_rfl) ?_
      obtain rfl := sI h25
      exact JE_meet () [6] [] 0 (by kernel_rfl) (by kernel_rfl) (by kernel_rfl) (by kernel_rfl)
    · have h26 := cF b24 hE22
      refine JO_stepsK 5 [6] (sl' := [(6, .v (.bool false))]) (bx' := []) (by kernel_rfl) ?_
      refine JO_end (by kernel_rfl) ?_
      obtain rfl := sI h26
      exact JE_meet () [6] [] 0 (by kernel_rfl) (by kernel_rfl) (by kernel_rfl) (by kernel_rfl)
  · skip
    refine JE_then ?_
    refine JC_ret ?_
    refine JE_ret (vs := [.bool p21]) (by kernel_rfl) (fun γ w hs => ?_)
    rw [← sI h23]
    exact ⟨rfl, hs.kept.toBelow⟩

theorem c_spec_l31Ask {W : World} {x0 : List Int} {a0_0 : Option Addr} {c0_0 : Nat} {x1 : Int} {r : Bool} (h : spec_l31Ask x0 x1 = some r) (hv0_0 : SlView W x0 a0_0 c0_0) :
    Gives0 Try.prog 65 #[.slice a0_0 x0.length c0_0, .int .i64 x1] W (.bool r) := by
  unfold spec_l31Ask at h
  refine enter (args := [.slice a0_0 x0.length c0_0, .int .i64 x1]) Try.func65 rfl Try.ntmps65 (by kernel_rfl) ?_
  refine JC_seq ?_
  refine JC_region ?_
  refine JO_stepsK 1 [0, 1] (sl' := [(0, .v (.slice a0_0 x0.length c0_0)), (1, .v (.int .i64 x1))]) (bx' := []) (by kernel_rfl) ?_
  refine JO_end (by kernel_rfl) ?_
  refine JE_then ?_
  refine JC_seq ?_
  refine JC_seq ?_
  refine JC_region ?_
  refine JO_stepsK 1 [5, 0, 1] (sl' := [(5, .v (.int .i64 0)), (0, .v (.slice a0_0 x0.length c0_0)), (1, .v (.int .i64 x1))]) (bx' := []) (by kernel_rfl) ?_
  refine JO_end (by kernel_rfl) ?_
  refine JE_then ?_
  obtain ⟨r24, hL25, h26⟩ := bS h
  obtain ⟨k27, hk28, h26⟩ := brkS h26
  refine JC_cutP (τ := (Int) × (Unit)) (fun y => k27 y.1 = some r) (fun y32 => [(0, .v (.slice a0_0 x0.length c0_0)), (1, .v (.int .i64 y32.1))]) (fun y32 => []) (fun y32 => []) ?_ (fun y32 h33p => ?_)
  · refine JC_block ?_
    refine JC_loop (τ := Unit) hL25 (fun s21 y22 => [(5, .v (.int .i64 s21)), (0, .v (.slice a0_0 x0.length c0_0)), (1, .v (.int .i64 x1))]) (fun s21 y22 => []) (fun s21 y22 => []) () [5, 0, 1] [] 0 (by kernel_rfl) (by kernel_rfl) (by kernel_rfl) (by kernel_rfl) (fun s21 y22 t23 h29 hd30 => ?_)
    refine JC_seq ?_
    refine JC_seq ?_
    refine JC_region ?_
    refine JO_stepsK 4 [9, 5, 0, 1] (sl' := [(9, .v (.bool (decide (s21 < (x0.length : Int))))), (5, .v (.int .i64 s21)), (0, .v (.slice a0_0 x0.length c0_0)), (1, .v (.int .i64 x1))]) (bx' := []) (by kernel_rfl) ?_
    refine JO_end (by kernel_rfl) ?_
    refine JE_then ?_
    refine JC_cond (decide (s21 < (x0.length : Int))) (by kernel_rfl) (fun b44 => ?_) (fun b44 => ?_)
    · have h45 := cT b44 h29
      refine JC_skip ?_
      refine JE_then ?_
      refine JC_seq ?_
      refine JC_block ?_
      refine JC_seq ?_
      refine JC_region ?_
      refine JO_stepsK 2 [13, 12, 5, 0, 1] (sl' := [(13, .v (.int .i64 s21)), (12, .v (.slice a0_0 x0.length c0_0)), (5, .v (.int .i64 s21)), (0, .v (.slice a0_0 x0.length c0_0)), (1, .v (.int .i64 x1))]) (bx' := []) (by kernel_rfl) ?_
      obtain ⟨x47, hx48, h49⟩ := bS h45
      refine JO_index rfl (by kernel_rfl) (d := a0_0) (m := x0.length) (j := s21) (s := 1) (by kernel_rfl) (fun γ w hs => (hv0_0.kept hs.kept)) rfl hx48 (sl' := [(14, .q a0_0 (Int.toNat s21 * 1)), (13, .v (.int .i64 s21)), (12, .v (.slice a0_0 x0.length c0_0)), (5, .v (.int .i64 s21)), (0, .v (.slice a0_0 x0.length c0_0)), (1, .v (.int .i64 x1))]) (by kernel_rfl) ?_
      refine JO_loadq rfl (by kernel_rfl) (t := 3) (d := a0_0) (Int.toNat s21 * 1) 0 (by kernel_rfl) (cs := [.int .i64 x47]) (v := .int .i64 x47) (fun γ w hs => (hv0_0.kept hs.kept).flatq hx48) (by kernel_rfl) (sl' := [(15, .v (.int .i64 x47)), (14, .q a0_0 (Int.toNat s21 * 1)), (13, .v (.int .i64 s21)), (12, .v (.slice a0_0 x0.length c0_0)), (5, .v (.int .i64 s21)), (0, .v (.slice a0_0 x0.length c0_0)), (1, .v (.int .i64 x1))]) (by kernel_rfl) ?_
      obtain ⟨t50, h51, h52⟩ := bS h49
      refine JO_call0 rfl (by kernel_rfl) (f := 71) (args := #[.int .i64 x47, .int .i64 0, .int .i64 1000000]) (by kernel_rfl) (x := .bool t50) (fun γ w hs => (by have vv := c_spec_l01In (W := w) h51; exact vv)) (sl' := [(16, .v (.bool t50)), (15, .v (.int .i64 x47)), (14, .q a0_0 (Int.toNat s21 * 1)), (13, .v (.int .i64 s21)), (12, .v (.slice a0_0 x0.length c0_0)), (5, .v (.int .i64 s21)), (0, .v (.slice a0_0 x0.length c0_0)), (1, .v (.int .i64 x1))]) (by kernel_rfl) ?_
      refine JO_stepsK 1 [17, 5, 0, 1] (sl' := [(17, .v (.bool (!t50))), (5, .v (.int .i64 s21)), (0, .v (.slice a0_0 x0.length c0_0)), (1, .v (.int .i64 x1))]) (bx' := []) (by kernel_rfl) ?_
      refine JO_end (by kernel_rfl) ?_
      refine JE_then ?_
      refine JC_cond (!t50) (by kernel_rfl) (fun b54 => ?_) (fun b54 => ?_)
      · have h55 := cT b54 h52
        refine JC_seq ?_
        refine JC_region ?_
        refine JO_stepsK 1 [4] (sl' := [(4, .v (.bool false))]) (bx' := []) (by kernel_rfl) ?_
        refine JO_end (by kernel_rfl) ?_
        refine JE_then ?_
        refine JC_ret ?_
        refine JE_block_ret ?_
        refine JE_then_ret ?_
        refine JE_then_ret ?_
        have h57 := leafR hd30 h55 h26
        refine JE_block_ret ?_
        refine JE_then_ret ?_
        refine JE_then_ret ?_
        refine JE_ret (vs := [.bool false]) (by kernel_rfl) (fun γ w hs => ?_)
        rw [← sI h57]
        exact ⟨rfl, hs.kept.toBelow⟩
      · have h56 := cF b54 h52
        refine JC_skip ?_
        refine JE_block_normal ?_
        refine JE_then ?_
        refine JC_region ?_
        refine JO_stepsK 3 [5, 0, 1] (sl' := [(5, .v (.int .i64 (w64 (s21 + 1)))), (0, .v (.slice a0_0 x0.length c0_0)), (1, .v (.int .i64 x1))]) (bx' := []) (by kernel_rfl) ?_
        refine JO_end (by kernel_rfl) ?_
        exact JE_cont h56 () [5, 0, 1] [] 0 (by kernel_rfl) (by kernel_rfl) (by kernel_rfl) (by kernel_rfl)
    · have h46 := cF b44 h29
      refine JC_exit ?_
      refine JE_then_exit ?_
      refine JE_then_exit ?_
      refine JE_block_hit ?_
      have h58 := leafB hd30 h46 h26
      exact JE_meetP (x1, ()) h58 [0, 1] [] 0 (by kernel_rfl) (by kernel_rfl) (by kernel_rfl) (by kernel_rfl)
  · have h33 := (congrFun hk28 _).symm.trans h33p
    refine JE_then ?_
    refine JC_seq ?_
    obtain ⟨p34, hE35, h36⟩ := bS h33
    refine JC_cut (τ := Unit) (fun _ => [(4, .v (.bool p34))]) (fun _ => []) (fun _ => []) ?_ (fun _ => ?_)
    · refine JC_region ?_
      refine JO_stepsK 4 [21, 1] (sl' := [(21, .v (.bool (decide ((x0.length : Int) ≤ 40)))), (1, .v (.int .i64 y32.1))]) (bx' := []) (by kernel_rfl) ?_
      refine JO_split 21 (decide ((x0.length : Int) ≤ 40)) (by kernel_rfl) (fun b37 => ?_) (fun b37 => ?_)
      · have h38 := cT b37 hE35
        refine JO_stepsK 1 [22, 21] (sl' := [(22, .v (.int .i64 y32.1)), (21, .v (.bool true))]) (bx' := []) (by kernel_rfl) ?_
        obtain ⟨t40, h41, h42⟩ := bS h38
        refine JO_call0 rfl (by kernel_rfl) (f := 71) (args := #[.int .i64 y32.1, .int .i64 0, .int .i64 1000]) (by kernel_rfl) (x := .bool t40) (fun γ w hs => (by have vv := c_spec_l01In (W := w) h41; exact vv)) (sl' := [(23, .v (.bool t40)), (22, .v (.int .i64 y32.1)), (21, .v (.bool true))]) (by kernel_rfl) ?_
        refine JO_stepsK 2 [4] (sl' := [(4, .v (.bool t40))]) (bx' := []) (by kernel_rfl) ?_
        refine JO_end (by kernel_rfl) ?_
        obtain rfl := sI h42
        exact JE_meet () [4] [] 0 (by kernel_rfl) (by kernel_rfl) (by kernel_rfl) (by kernel_rfl)
      · have h39 := cF b37 hE35
        refine JO_stepsK 4 [4] (sl' := [(4, .v (.bool false))]) (bx' := []) (by kernel_rfl) ?_
        refine JO_end (by kernel_rfl) ?_
        obtain rfl := sI h39
        exact JE_meet () [4] [] 0 (by kernel_rfl) (by kernel_rfl) (by kernel_rfl) (by kernel_rfl)
    · skip
      refine JE_then ?_
      refine JC_ret ?_
      refine JE_ret (vs := [.bool p34]) (by kernel_rfl) (fun γ w hs => ?_)
      rw [← sI h36]
      exact ⟨rfl, hs.kept.toBelow⟩

theorem c_spec_RaiseAll {W : World} {x0 : List Int} {a0_0 : Option Addr} {c0_0 : Nat} {x1 : Int} {r : (List Int)} (h : spec_RaiseAll x0 x1 = some r) (hv0_0 : SlView W x0 a0_0 c0_0) :
    Gives Try.prog 15 #[.slice a0_0 x0.length c0_0, .int .i64 x1] W (fun y : (Option Addr × Nat) => .slice y.1 r.length y.2) (fun y => [SlRes 3 r y.1 y.2]) := by
  unfold spec_RaiseAll at h
  refine enter (args := [.slice a0_0 x0.length c0_0, .int .i64 x1]) Try.func15 rfl Try.ntmps15 (by kernel_rfl) ?_
  refine JC_seq ?_
  refine JC_region ?_
  refine JO_stepsK 1 [0, 1] (sl' := [(0, .v (.slice a0_0 x0.length c0_0)), (1, .v (.int .i64 x1))]) (bx' := []) (by kernel_rfl) ?_
  refine JO_end (by kernel_rfl) ?_
  refine JE_then ?_
  refine JC_seq ?_
  refine JC_region ?_
  refine JO_bslice rfl (by kernel_rfl) (e := 3) (len := 0) (cs := []) (by kernel_rfl) (xs := ([] : List Int)) rfl (by kernel_rfl) (Rc := []) (Rr := []) rfl (own_flat (by kernel_rfl)) (fun y21 => [(7, .v (.slice y21.1 ([] : List Int).length y21.2)), (0, .v (.slice a0_0 x0.length c0_0)), (1, .v (.int .i64 x1))]) (fun y21 => by kernel_rfl) (fun y21 => ?_)
  refine JO_stepsK 1 [5, 0, 1] (sl' := [(5, .v (.slice y21.1 ([] : List Int).length y21.2)), (0, .v (.slice a0_0 x0.length c0_0)), (1, .v (.int .i64 x1))]) (bx' := []) (by kernel_rfl) ?_
  refine JO_end (by kernel_rfl) ?_
  refine JE_then ?_
  refine JC_seq ?_
  refine JC_seq ?_
  refine JC_region ?_
  refine JO_stepsK 1 [6, 5, 0, 1] (sl' := [(6, .v (.int .i64 0)), (5, .v (.slice y21.1 ([] : List Int).length y21.2)), (0, .v (.slice a0_0 x0.length c0_0)), (1, .v (.int .i64 x1))]) (bx' := []) (by kernel_rfl) ?_
  refine JO_end (by kernel_rfl) ?_
  refine JE_then ?_
  obtain ⟨r26, hL27, h28⟩ := bS h
  obtain ⟨k29, hk30, h28⟩ := brkS h28
  refine JC_cutP (τ := ((List Int)) × ((Option Addr × Nat))) (fun y => k29 y.1 = some r) (fun y34 => [(5, .v (.slice y34.2.1 y34.1.length y34.2.2))]) (fun y34 => []) (fun y34 => [SlRes 3 y34.1 y34.2.1 y34.2.2]) ?_ (fun y34 h35p => ?_)
  · refine JC_block ?_
    refine JC_loop (τ := (Option Addr × Nat)) hL27 (fun s23 y24 => [(6, .v (.int .i64 s23.1)), (5, .v (.slice y24.1 s23.2.length y24.2)), (0, .v (.slice a0_0 x0.length c0_0)), (1, .v (.int .i64 x1))]) (fun s23 y24 => []) (fun s23 y24 => [SlRes 3 s23.2 y24.1 y24.2]) (y21.1, y21.2) [6, 5, 0, 1] [0] 0 (by kernel_rfl) (by kernel_rfl) (by kernel_rfl) (by kernel_rfl) (fun s23 y24 t25 h31 hd32 => ?_)
    refine JC_seq ?_
    refine JC_seq ?_
    obtain ⟨p36, hE37, h38⟩ := bS h31
    refine JC_cut (τ := Unit) (fun _ => [(0, .v (.slice a0_0 x0.length c0_0)), (1, .v (.int .i64 x1)), (5, .v (.slice y24.1 s23.2.length y24.2)), (6, .v (.int .i64 s23.1)), (16, .v (.bool p36))]) (fun _ => []) (fun _ => [SlRes 3 s23.2 y24.1 y24.2]) ?_ (fun _ => ?_)
    · refine JC_region ?_
      refine JO_stepsK 5 [12, 6, 5, 0, 1] (sl' := [(12, .v (.bool (decide (s23.1 < (x0.length : Int))))), (6, .v (.int .i64 s23.1)), (5, .v (.slice y24.1 s23.2.length y24.2)), (0, .v (.slice a0_0 x0.length c0_0)), (1, .v (.int .i64 x1))]) (bx' := []) (by kernel_rfl) ?_
      refine JO_split 12 (decide (s23.1 < (x0.length : Int))) (by kernel_rfl) (fun b39 => ?_) (fun b39 => ?_)
      · have h40 := cT b39 hE37
        refine JO_stepsK 2 [14, 13, 12, 6, 5, 0, 1] (sl' := [(14, .v (.int .i64 x1)), (13, .v (.slice a0_0 x0.length c0_0)), (12, .v (.bool true)), (6, .v (.int .i64 s23.1)), (5, .v (.slice y24.1 s23.2.length y24.2)), (0, .v (.slice a0_0 x0.length c0_0)), (1, .v (.int .i64 x1))]) (bx' := []) (by kernel_rfl) ?_
        obtain ⟨t42, h43, h44⟩ := bS h40
        refine JO_call0 rfl (by kernel_rfl) (f := 65) (args := #[.slice a0_0 x0.length c0_0, .int .i64 x1]) (by kernel_rfl) (x := .bool t42) (fun γ w hs => (by have vv := c_spec_l31Ask (W := w) h43 (hv0_0.kept hs.kept); exact vv)) (sl' := [(15, .v (.bool t42)), (14, .v (.int .i64 x1)), (13, .v (.slice a0_0 x0.length c0_0)), (12, .v (.bool true)), (6, .v (.int .i64 s23.1)), (5, .v (.slice y24.1 s23.2.length y24.2)), (0, .v (.slice a0_0 x0.length c0_0)), (1, .v (.int .i64 x1))]) (by kernel_rfl) ?_
        refine JO_stepsK 1 [16, 6, 5, 0, 1] (sl' := [(16, .v (.bool t42)), (6, .v (.int .i64 s23.1)), (5, .v (.slice y24.1 s23.2.length y24.2)), (0, .v (.slice a0_0 x0.length c0_0)), (1, .v (.int .i64 x1))]) (bx' := []) (by kernel_rfl) ?_
        refine JO_end (by kernel_rfl) ?_
        obtain rfl := sI h44
        exact JE_meet () [0, 1, 5, 6, 16] [0] 0 (by kernel_rfl) (by kernel_rfl) (by kernel_rfl) (by kernel_rfl)
      · have h41 := cF b39 hE37
        refine JO_stepsK 4 [16, 6, 5, 0, 1] (sl' := [(16, .v (.bool false)), (6, .v (.int .i64 s23.1)), (5, .v (.slice y24.1 s23.2.length y24.2)), (0, .v (.slice a0_0 x0.length c0_0)), (1, .v (.int .i64 x1))]) (bx' := []) (by kernel_rfl) ?_
        refine JO_end (by kernel_rfl) ?_
        obtain rfl := sI h41
        exact JE_meet () [0, 1, 5, 6, 16] [0] 0 (by kernel_rfl) (by kernel_rfl) (by kernel_rfl) (by kernel_rfl)
    · skip
      refine JE_then ?_
      refine JC_cond p36 (by kernel_rfl) (fun b46 => ?_) (fun b46 => ?_)
      · have h47 := cT b46 h38
        refine JC_skip ?_
        refine JE_then ?_
        refine JC_seq ?_
        refine JC_block ?_
        obtain ⟨x49, hx50, h51⟩ := bS h47
        obtain ⟨x52, hx53, h54⟩ := bS h51
        obtain ⟨l57, hm58, h59⟩ := bS h54
        refine JC_cut (τ := ((Option Addr × Nat))) (fun y60 => [(5, .v (.slice y60.1 l57.length y60.2)), (0, .v (.slice a0_0 x0.length c0_0)), (1, .v (.int .i64 x1)), (6, .v (.int .i64 s23.1))]) (fun y60 => []) (fun y60 => [SlRes 3 l57 y60.1 y60.2]) ?_ (fun y60 => ?_)
        · refine JC_weak [0, 1, 5, 6] [0] 0 (sl' := [(0, .v (.slice a0_0 x0.length c0_0)), (1, .v (.int .i64 x1)), (5, .v (.slice y24.1 s23.2.length y24.2)), (6, .v (.int .i64 s23.1))]) (bx' := []) (R' := [SlRes 3 s23.2 y24.1 y24.2]) (by kernel_rfl) (by kernel_rfl) (by kernel_rfl) (by kernel_rfl) ?_
          refine JC_heldN (ks := []) (Rk := []) 16 (by kernel_rfl) (by kernel_rfl) ?_
          refine JH_take (fuel := 15) 0 (v := .v (.slice y24.1 s23.2.length y24.2)) [] rfl (by kernel_rfl) (by kernel_rfl) (by kernel_rfl) meet_nopanic (by kernel_rfl) (by kernel_rfl) (by kernel_rfl) (by kernel_rfl) trivial (evQ_held (by kernel_rfl) (by kernel_rfl)) (sl' := [(19, .v (.slice y24.1 s23.2.length y24.2)), (0, .v (.slice a0_0 x0.length c0_0)), (1, .v (.int .i64 x1)), (5, .v (.slice y24.1 s23.2.length y24.2)), (6, .v (.int .i64 s23.1))]) (by kernel_rfl) ?_
          refine JH_take (fuel := 14) 1 (v := .v (.slice a0_0 x0.length c0_0)) [] rfl (by kernel_rfl) (by kernel_rfl) (by kernel_rfl) meet_nopanic (by kernel_rfl) (by kernel_rfl) (by kernel_rfl) (by kernel_rfl) trivial (evQ_held (by kernel_rfl) (by kernel_rfl)) (sl' := [(20, .v (.slice a0_0 x0.length c0_0)), (19, .v (.slice y24.1 s23.2.length y24.2)), (0, .v (.slice a0_0 x0.length c0_0)), (1, .v (.int .i64 x1)), (5, .v (.slice y24.1 s23.2.length y24.2)), (6, .v (.int .i64 s23.1))]) (by kernel_rfl) ?_
          refine JH_take (fuel := 13) 2 (v := .v (.int .i64 s23.1)) [] rfl (by kernel_rfl) (by kernel_rfl) (by kernel_rfl) meet_nopanic (by kernel_rfl) (by kernel_rfl) (by kernel_rfl) (by kernel_rfl) trivial (evQ_held (by kernel_rfl) (by kernel_rfl)) (sl' := [(21, .v (.int .i64 s23.1)), (20, .v (.slice a0_0 x0.length c0_0)), (19, .v (.slice y24.1 s23.2.length y24.2)), (0, .v (.slice a0_0 x0.length c0_0)), (1, .v (.int .i64 x1)), (5, .v (.slice y24.1 s23.2.length y24.2)), (6, .v (.int .i64 s23.1))]) (by kernel_rfl) ?_
          refine JH_take (fuel := 12) 3 (v := .q a0_0 (Int.toNat s23.1 * 1)) [] rfl (by kernel_rfl) (by kernel_rfl) (by kernel_rfl) meet_nopanic (by kernel_rfl) (by kernel_rfl) (by kernel_rfl) (by kernel_rfl) trivial (index_held (d := a0_0) (m := x0.length) (j := s23.1) (s := 1) (by kernel_rfl) (fun γ0 w hs => (hv0_0.kept hs.kept)) rfl hx50) (sl' := [(22, .q a0_0 (Int.toNat s23.1 * 1)), (21, .v (.int .i64 s23.1)), (20, .v (.slice a0_0 x0.length c0_0)), (19, .v (.slice y24.1 s23.2.length y24.2)), (0, .v (.slice a0_0 x0.length c0_0)), (1, .v (.int .i64 x1)), (5, .v (.slice y24.1 s23.2.length y24.2)), (6, .v (.int .i64 s23.1))]) (by kernel_rfl) ?_
          refine JH_keep [22, 19, 0, 1, 5, 6] (sl' := [(22, .q a0_0 (Int.toNat s23.1 * 1)), (19, .v (.slice y24.1 s23.2.length y24.2)), (0, .v (.slice a0_0 x0.length c0_0)), (1, .v (.int .i64 x1)), (5, .v (.slice y24.1 s23.2.length y24.2)), (6, .v (.int .i64 s23.1))]) (by kernel_rfl) ?_
          refine JH_take (fuel := 11) 4 (v := .v (.int .i64 x49)) [] rfl (by kernel_rfl) (by kernel_rfl) (by kernel_rfl) meet_nopanic (by kernel_rfl) (by kernel_rfl) (by kernel_rfl) (by kernel_rfl) trivial (loadq_held (t := 3) (d := a0_0) (Int.toNat s23.1 * 1) 0 (by kernel_rfl) (cs := [.int .i64 x49]) (v := .int .i64 x49) (fun γ0 w hs => (hv0_0.kept hs.kept).flatq hx50) (by kernel_rfl)) (sl' := [(23, .v (.int .i64 x49)), (22, .q a0_0 (Int.toNat s23.1 * 1)), (19, .v (.slice y24.1 s23.2.length y24.2)), (0, .v (.slice a0_0 x0.length c0_0)), (1, .v (.int .i64 x1)), (5, .v (.slice y24.1 s23.2.length y24.2)), (6, .v (.int .i64 s23.1))]) (by kernel_rfl) ?_
          refine JH_keep [23, 19, 0, 1, 5, 6] (sl' := [(23, .v (.int .i64 x49)), (19, .v (.slice y24.1 s23.2.length y24.2)), (0, .v (.slice a0_0 x0.length c0_0)), (1, .v (.int .i64 x1)), (5, .v (.slice y24.1 s23.2.length y24.2)), (6, .v (.int .i64 s23.1))]) (by kernel_rfl) ?_
          refine JH_take (fuel := 10) 5 (v := .v (.slice a0_0 x0.length c0_0)) [] rfl (by kernel_rfl) (by kernel_rfl) (by kernel_rfl) meet_nopanic (by kernel_rfl) (by kernel_rfl) (by kernel_rfl) (by kernel_rfl) trivial (evQ_held (by kernel_rfl) (by kernel_rfl)) (sl' := [(24, .v (.slice a0_0 x0.length c0_0)), (23, .v (.int .i64 x49)), (19, .v (.slice y24.1 s23.2.length y24.2)), (0, .v (.slice a0_0 x0.length c0_0)), (1, .v (.int .i64 x1)), (5, .v (.slice y24.1 s23.2.length y24.2)), (6, .v (.int .i64 s23.1))]) (by kernel_rfl) ?_
          refine JH_take (fuel := 9) 6 (v := .v (.int .i64 s23.1)) [] rfl (by kernel_rfl) (by kernel_rfl) (by kernel_rfl) meet_nopanic (by kernel_rfl) (by kernel_rfl) (by kernel_rfl) (by kernel_rfl) trivial (evQ_held (by kernel_rfl) (by kernel_rfl)) (sl' := [(25, .v (.int .i64 s23.1)), (24, .v (.slice a0_0 x0.length c0_0)), (23, .v (.int .i64 x49)), (19, .v (.slice y24.1 s23.2.length y24.2)), (0, .v (.slice a0_0 x0.length c0_0)), (1, .v (.int .i64 x1)), (5, .v (.slice y24.1 s23.2.length y24.2)), (6, .v (.int .i64 s23.1))]) (by kernel_rfl) ?_
          refine JH_take (fuel := 8) 7 (v := .q a0_0 (Int.toNat s23.1 * 1)) [] rfl (by kernel_rfl) (by kernel_rfl) (by kernel_rfl) meet_nopanic (by kernel_rfl) (by kernel_rfl) (by kernel_rfl) (by kernel_rfl) trivial (index_held (d := a0_0) (m := x0.length) (j := s23.1) (s := 1) (by kernel_rfl) (fun γ0 w hs => (hv0_0.kept hs.kept)) rfl hx53) (sl' := [(26, .q a0_0 (Int.toNat s23.1 * 1)), (25, .v (.int .i64 s23.1)), (24, .v (.slice a0_0 x0.length c0_0)), (23, .v (.int .i64 x49)), (19, .v (.slice y24.1 s23.2.length y24.2)), (0, .v (.slice a0_0 x0.length c0_0)), (1, .v (.int .i64 x1)), (5, .v (.slice y24.1 s23.2.length y24.2)), (6, .v (.int .i64 s23.1))]) (by kernel_rfl) ?_
          refine JH_keep [26, 23, 19, 0, 1, 5, 6] (sl' := [(26, .q a0_0 (Int.toNat s23.1 * 1)), (23, .v (.int .i64 x49)), (19, .v (.slice y24.1 s23.2.length y24.2)), (0, .v (.slice a0_0 x0.length c0_0)), (1, .v (.int .i64 x1)), (5, .v (.slice y24.1 s23.2.length y24.2)), (6, .v (.int .i64 s23.1))]) (by kernel_rfl) ?_
          refine JH_take (fuel := 7) 8 (v := .v (.int .i64 x52)) [] rfl (by kernel_rfl) (by kernel_rfl) (by kernel_rfl) meet_nopanic (by kernel_rfl) (by kernel_rfl) (by kernel_rfl) (by kernel_rfl) trivial (loadq_held (t := 3) (d := a0_0) (Int.toNat s23.1 * 1) 0 (by kernel_rfl) (cs := [.int .i64 x52]) (v := .int .i64 x52) (fun γ0 w hs => (hv0_0.kept hs.kept).flatq hx53) (by kernel_rfl)) (sl' := [(27, .v (.int .i64 x52)), (26, .q a0_0 (Int.toNat s23.1 * 1)), (23, .v (.int .i64 x49)), (19, .v (.slice y24.1 s23.2.length y24.2)), (0, .v (.slice a0_0 x0.length c0_0)), (1, .v (.int .i64 x1)), (5, .v (.slice y24.1 s23.2.length y24.2)), (6, .v (.int .i64 s23.1))]) (by kernel_rfl) ?_
          refine JH_keep [27, 23, 19, 0, 1, 5, 6] (sl' := [(27, .v (.int .i64 x52)), (23, .v (.int .i64 x49)), (19, .v (.slice y24.1 s23.2.length y24.2)), (0, .v (.slice a0_0 x0.length c0_0)), (1, .v (.int .i64 x1)), (5, .v (.slice y24.1 s23.2.length y24.2)), (6, .v (.int .i64 s23.1))]) (by kernel_rfl) ?_
          refine JH_take (fuel := 6) 9 (v := .v (.int .i64 x1)) [] rfl (by kernel_rfl) (by kernel_rfl) (by kernel_rfl) meet_nopanic (by kernel_rfl) (by kernel_rfl) (by kernel_rfl) (by kernel_rfl) trivial (evQ_held (by kernel_rfl) (by kernel_rfl)) (sl' := [(28, .v (.int .i64 x1)), (27, .v (.int .i64 x52)), (23, .v (.int .i64 x49)), (19, .v (.slice y24.1 s23.2.length y24.2)), (0, .v (.slice a0_0 x0.length c0_0)), (1, .v (.int .i64 x1)), (5, .v (.slice y24.1 s23.2.length y24.2)), (6, .v (.int .i64 s23.1))]) (by kernel_rfl) ?_
          refine JH_take (fuel := 5) 10 (v := .v (.int .i64 (w64 (x52 * x1)))) [] rfl (by kernel_rfl) (by kernel_rfl) (by kernel_rfl) meet_nopanic (by kernel_rfl) (by kernel_rfl) (by kernel_rfl) (by kernel_rfl) trivial (evQ_held (by kernel_rfl) (by kernel_rfl)) (sl' := [(29, .v (.int .i64 (w64 (x52 * x1)))), (28, .v (.int .i64 x1)), (27, .v (.int .i64 x52)), (23, .v (.int .i64 x49)), (19, .v (.slice y24.1 s23.2.length y24.2)), (0, .v (.slice a0_0 x0.length c0_0)), (1, .v (.int .i64 x1)), (5, .v (.slice y24.1 s23.2.length y24.2)), (6, .v (.int .i64 s23.1))]) (by kernel_rfl) ?_
          refine JH_keep [29, 23, 19, 0, 1, 5, 6] (sl' := [(29, .v (.int .i64 (w64 (x52 * x1)))), (23, .v (.int .i64 x49)), (19, .v (.slice y24.1 s23.2.length y24.2)), (0, .v (.slice a0_0 x0.length c0_0)), (1, .v (.int .i64 x1)), (5, .v (.slice y24.1 s23.2.length y24.2)), (6, .v (.int .i64 s23.1))]) (by kernel_rfl) ?_
          refine JH_take (fuel := 4) 11 (v := .v (.int .i64 (w64 (Int.tdiv (w64 (x52 * x1)) 1000)))) [] rfl (by kernel_rfl) (by kernel_rfl) (by kernel_rfl) meet_nopanic (by kernel_rfl) (by kernel_rfl) (by kernel_rfl) (by kernel_rfl) trivial (evQ_held (by kernel_rfl) (by kernel_rfl)) (sl' := [(30, .v (.int .i64 (w64 (Int.tdiv (w64 (x52 * x1)) 1000)))), (29, .v (.int .i64 (w64 (x52 * x1)))), (23, .v (.int .i64 x49)), (19, .v (.slice y24.1 s23.2.length y24.2)), (0, .v (.slice a0_0 x0.length c0_0)), (1, .v (.int .i64 x1)), (5, .v (.slice y24.1 s23.2.length y24.2)), (6, .v (.int .i64 s23.1))]) (by kernel_rfl) ?_
          refine JH_keep [30, 23, 19, 0, 1, 5, 6] (sl' := [(30, .v (.int .i64 (w64 (Int.tdiv (w64 (x52 * x1)) 1000)))), (23, .v (.int .i64 x49)), (19, .v (.slice y24.1 s23.2.length y24.2)), (0, .v (.slice a0_0 x0.length c0_0)), (1, .v (.int .i64 x1)), (5, .v (.slice y24.1 s23.2.length y24.2)), (6, .v (.int .i64 s23.1))]) (by kernel_rfl) ?_
          refine JH_take (fuel := 3) 12 (v := .v (.int .i64 (w64 (x49 + (w64 (Int.tdiv (w64 (x52 * x1)) 1000)))))) [] rfl (by kernel_rfl) (by kernel_rfl) (by kernel_rfl) meet_nopanic (by kernel_rfl) (by kernel_rfl) (by kernel_rfl) (by kernel_rfl) trivial (evQ_held (by kernel_rfl) (by kernel_rfl)) (sl' := [(31, .v (.int .i64 (w64 (x49 + (w64 (Int.tdiv (w64 (x52 * x1)) 1000)))))), (30, .v (.int .i64 (w64 (Int.tdiv (w64 (x52 * x1)) 1000)))), (23, .v (.int .i64 x49)), (19, .v (.slice y24.1 s23.2.length y24.2)), (0, .v (.slice a0_0 x0.length c0_0)), (1, .v (.int .i64 x1)), (5, .v (.slice y24.1 s23.2.length y24.2)), (6, .v (.int .i64 s23.1))]) (by kernel_rfl) ?_
          refine JH_keep [31, 19, 0, 1, 5, 6] (sl' := [(31, .v (.int .i64 (w64 (x49 + (w64 (Int.tdiv (w64 (x52 * x1)) 1000)))))), (19, .v (.slice y24.1 s23.2.length y24.2)), (0, .v (.slice a0_0 x0.length c0_0)), (1, .v (.int .i64 x1)), (5, .v (.slice y24.1 s23.2.length y24.2)), (6, .v (.int .i64 s23.1))]) (by kernel_rfl) ?_
          refine JH_all (fuel := 2) [13] (by kernel_rfl) (by simp) (List.forall_mem_cons.2 ⟨?_, fun _ h => by cases h⟩)
          refine JHi_of rfl (fun γ0 δ hm => ?_)
          refine JG_bslice (by kernel_rfl) (e := 3) (len := 1) (cs := [.int .i64 (w64 (x49 + (w64 (Int.tdiv (w64 (x52 * x1)) 1000))))]) (by kernel_rfl) (xs := ([w64 (x49 + (w64 (Int.tdiv (w64 (x52 * x1)) 1000)))] : List Int)) rfl (by kernel_rfl) (Rc := []) (Rr := [SlRes 3 s23.2 y24.1 y24.2]) rfl (own_flat (by kernel_rfl)) (fun y55 => [(32, .v (.slice y55.1 ([w64 (x49 + (w64 (Int.tdiv (w64 (x52 * x1)) 1000)))] : List Int).length y55.2)), (31, .v (.int .i64 (w64 (x49 + (w64 (Int.tdiv (w64 (x52 * x1)) 1000)))))), (19, .v (.slice y24.1 s23.2.length y24.2)), (0, .v (.slice a0_0 x0.length c0_0)), (1, .v (.int .i64 x1)), (5, .v (.slice y24.1 s23.2.length y24.2)), (6, .v (.int .i64 s23.1))]) (fun y55 => by kernel_rfl) (fun y55 => ?_)
          refine KG_next hm [32, 19, 0, 1, 5, 6] [] (sl' := [(32, .v (.slice y55.1 ([w64 (x49 + (w64 (Int.tdiv (w64 (x52 * x1)) 1000)))] : List Int).length y55.2)), (19, .v (.slice y24.1 s23.2.length y24.2)), (0, .v (.slice a0_0 x0.length c0_0)), (1, .v (.int .i64 x1)), (5, .v (.slice y24.1 s23.2.length y24.2)), (6, .v (.int .i64 s23.1))]) (by kernel_rfl) (by kernel_rfl) (by kernel_rfl) (by kernel_rfl) ?_
          refine JH_all (fuel := 1) [14] (by kernel_rfl) (by simp) (List.forall_mem_cons.2 ⟨?_, fun _ h => by cases h⟩)
          refine JHi_res (R' := [SlRes 3 s23.2 y24.1 y24.2, SlRes 3 ([w64 (x49 + (w64 (Int.tdiv (w64 (x52 * x1)) 1000)))] : List Int) y55.1 y55.2]) [1, 0] (by kernel_rfl) ?_
          refine JHi_of rfl (fun γ0 δ hm => ?_)
          refine JG_appendV (α := Int) (by kernel_rfl) (t := 22) (e := 3) (a1 := y24.1) (a2 := y55.1) (c1 := y24.2) (c2 := y55.2) (l1 := s23.2) (l2 := ([w64 (x49 + (w64 (Int.tdiv (w64 (x52 * x1)) 1000)))] : List Int)) (by kernel_rfl) (i := Try.t3) (by kernel_rfl) (z := (.int .i64 0)) (by kernel_rfl) (by kernel_rfl) (by kernel_rfl) (by kernel_rfl) (fun w hs => ⟨y55.2, (hs.view 1 rfl)⟩) (Rr := [SlRes 3 ([w64 (x49 + (w64 (Int.tdiv (w64 (x52 * x1)) 1000)))] : List Int) y55.1 y55.2]) rfl hm58 (fun y56 => [(33, .v (.slice y56.1 l57.length y56.2)), (32, .v (.slice y55.1 ([w64 (x49 + (w64 (Int.tdiv (w64 (x52 * x1)) 1000)))] : List Int).length y55.2)), (19, .v (.slice y24.1 s23.2.length y24.2)), (0, .v (.slice a0_0 x0.length c0_0)), (1, .v (.int .i64 x1)), (5, .v (.slice y24.1 s23.2.length y24.2)), (6, .v (.int .i64 s23.1))]) (fun y56 => by kernel_rfl) (fun y56 => ?_)
          refine KG_next hm [33, 0, 1, 5, 6] [] (sl' := [(33, .v (.slice y56.1 l57.length y56.2)), (0, .v (.slice a0_0 x0.length c0_0)), (1, .v (.int .i64 x1)), (5, .v (.slice y24.1 s23.2.length y24.2)), (6, .v (.int .i64 s23.1))]) (by kernel_rfl) (by kernel_rfl) (by kernel_rfl) (by kernel_rfl) ?_
          refine JH_take (fuel := 0) 15 (v := .v (.slice y56.1 l57.length y56.2)) [] rfl (by kernel_rfl) (by kernel_rfl) (by kernel_rfl) meet_nopanic (by kernel_rfl) (by kernel_rfl) (by kernel_rfl) (by kernel_rfl) trivial (evQ_held (by kernel_rfl) (by kernel_rfl)) (sl' := [(5, .v (.slice y56.1 l57.length y56.2)), (33, .v (.slice y56.1 l57.length y56.2)), (0, .v (.slice a0_0 x0.length c0_0)), (1, .v (.int .i64 x1)), (6, .v (.int .i64 s23.1))]) (by kernel_rfl) ?_
          refine JH_keep [5, 0, 1, 6] (sl' := [(5, .v (.slice y56.1 l57.length y56.2)), (0, .v (.slice a0_0 x0.length c0_0)), (1, .v (.int .i64 x1)), (6, .v (.int .i64 s23.1))]) (by kernel_rfl) ?_
          exact JH_done (by kernel_rfl) y56 [5, 0, 1, 6] [0] 0 (by kernel_rfl) (by kernel_rfl) (by kernel_rfl) (by kernel_rfl)
        · skip
          refine JE_block_normal ?_
          refine JE_then ?_
          refine JC_region ?_
          refine JO_stepsK 3 [6, 5, 0, 1] (sl' := [(6, .v (.int .i64 (w64 (s23.1 + 1)))), (5, .v (.slice y60.1 l57.length y60.2)), (0, .v (.slice a0_0 x0.length c0_0)), (1, .v (.int .i64 x1))]) (bx' := []) (by kernel_rfl) ?_
          refine JO_end (by kernel_rfl) ?_
          exact JE_cont h59 (y60.1, y60.2) [6, 5, 0, 1] [0] 0 (by kernel_rfl) (by kernel_rfl) (by kernel_rfl) (by kernel_rfl)
      · have h48 := cF b46 h38
        refine JC_exit ?_
        refine JE_then_exit ?_
        refine JE_then_exit ?_
        refine JE_block_hit ?_
        have h61 := leafB hd32 h48 h28
        exact JE_meetP (s23.2, (y24.1, y24.2)) h61 [5] [0] 0 (by kernel_rfl) (by kernel_rfl) (by kernel_rfl) (by kernel_rfl)
  · have h35 := (congrFun hk30 _).symm.trans h35p
    refine JE_then ?_
    refine JC_seq ?_
    refine JC_region ?_
    refine JO_stepsK 2 [4] (sl' := [(4, .v (.slice y34.2.1 y34.1.length y34.2.2))]) (bx' := []) (by kernel_rfl) ?_
    refine JO_end (by kernel_rfl) ?_
    refine JE_then ?_
    refine JC_ret ?_
    refine JE_ret (vs := [.slice y34.2.1 y34.1.length y34.2.2]) (by kernel_rfl) (fun γ w hs => ?_)
    rw [← sI h35]
    exact ⟨(y34.2.1, y34.2.2), rfl, hs.kept.toBelow, (hs.takeR (is := [0]) rfl).fresh⟩

theorem c_impl_within {W : World} {x0 : Int} {x1 : Int} {x2 : Int} {r : Bool} (h : impl_within x0 x1 x2 = some r)  :
    Gives0 Try.prog 67 #[.int .i64 x0, .int .i64 x1, .int .i64 x2] W (.bool r) := by
  unfold impl_within at h
  refine enter (args := [.int .i64 x0, .int .i64 x1, .int .i64 x2]) Try.func67 rfl Try.ntmps67 (by kernel_rfl) ?_
  refine JC_seq ?_
  refine JC_region ?_
  refine JO_stepsK 1 [0, 1, 2] (sl' := [(0, .v (.int .i64 x0)), (1, .v (.int .i64 x1)), (2, .v (.int .i64 x2))]) (bx' := []) (by kernel_rfl) ?_
  refine JO_end (by kernel_rfl) ?_
  refine JE_then ?_
  refine JC_seq ?_
  obtain ⟨p21, hE22, h23⟩ := bS h
  refine JC_cut (τ := Unit) (fun _ => [(6, .v (.bool p21))]) (fun _ => []) (fun _ => []) ?_ (fun _ => ?_)
  · refine JC_region ?_
    refine JO_stepsK 4 [10, 0, 2] (sl' := [(10, .v (.bool (decide (x1 ≤ x0)))), (0, .v (.int .i64 x0)), (2, .v (.int .i64 x2))]) (bx' := []) (by kernel_rfl) ?_
    refine JO_split 10 (decide (x1 ≤ x0)) (by kernel_rfl) (fun b24 => ?_) (fun b24 => ?_)
    · have h25 := cT b24 hE22
      refine JO_stepsK 5 [6] (sl' := [(6, .v (.bool (decide (x0 ≤ x2))))]) (bx' := []) (by kernel_rfl) ?_
      refine JO_end (by kernel_rfl) ?_
      obtain rfl := sI h25
      exact JE_meet () [6] [] 0 (by kernel_rfl) (by kernel_rfl) (by kernel_rfl) (by kernel_rfl)
    · have h26 := cF b24 hE22
      refine JO_stepsK 5 [6] (sl' := [(6, .v (.bool false))]) (bx' := []) (by kernel_rfl) ?_
      refine JO_end (by kernel_rfl) ?_
      obtain rfl := sI h26
      exact JE_meet () [6] [] 0 (by kernel_rfl) (by kernel_rfl) (by kernel_rfl) (by kernel_rfl)
  · skip
    refine JE_then ?_
    refine JC_ret ?_
    refine JE_ret (vs := [.bool p21]) (by kernel_rfl) (fun γ w hs => ?_)
    rw [← sI h23]
    exact ⟨rfl, hs.kept.toBelow⟩

theorem c_impl_allWithin_1 {W : World} {x0 : Int} {gf_0 : Nat} {zf_0 : Int} {gf_1 : Nat} {zf_1 : Int} {r : Bool} (h : impl_allWithin_1 x0 zf_0 zf_1 = some r) (hcf_0 : CellsAt W (some ⟨gf_0, 0, none⟩) 0 [.int .i64 zf_0]) (hcf_1 : CellsAt W (some ⟨gf_1, 0, none⟩) 0 [.int .i64 zf_1]) :
    Gives0 Try.prog 135 #[.int .i64 x0, .pointer (some ⟨gf_0, 0, none⟩), .pointer (some ⟨gf_1, 0, none⟩)] W (.bool r) := by
  unfold impl_allWithin_1 at h
  refine enterD [.v (.int .i64 x0), .q (some ⟨gf_0, 0, none⟩) (0), .q (some ⟨gf_1, 0, none⟩) (0)] (args := [.int .i64 x0, .pointer (some ⟨gf_0, 0, none⟩), .pointer (some ⟨gf_1, 0, none⟩)]) (by kernel_rfl) (by kernel_rfl) Try.func135 rfl Try.ntmps135 (by kernel_rfl) ?_
  refine JC_seq ?_
  refine JC_region ?_
  refine JO_stepsK 1 [0, 1, 2] (sl' := [(0, .v (.int .i64 x0)), (1, .q (some ⟨gf_0, 0, none⟩) (0)), (2, .q (some ⟨gf_1, 0, none⟩) (0))]) (bx' := []) (by kernel_rfl) ?_
  refine JO_end (by kernel_rfl) ?_
  refine JE_then ?_
  refine JC_seq ?_
  refine JC_region ?_
  refine JO_stepsK 1 [5, 1, 2] (sl' := [(5, .v (.int .i64 x0)), (1, .q (some ⟨gf_0, 0, none⟩) (0)), (2, .q (some ⟨gf_1, 0, none⟩) (0))]) (bx' := []) (by kernel_rfl) ?_
  refine JO_loadq rfl (by kernel_rfl) (t := 3) (d := (some ⟨gf_0, 0, none⟩)) (0) 0 (by kernel_rfl) (cs := [.int .i64 zf_0]) (v := .int .i64 zf_0) (fun γ w hs => ⟨by simp, hcf_0.kept hs.kept⟩) (by kernel_rfl) (sl' := [(6, .v (.int .i64 zf_0)), (5, .v (.int .i64 x0)), (1, .q (some ⟨gf_0, 0, none⟩) (0)), (2, .q (some ⟨gf_1, 0, none⟩) (0))]) (by kernel_rfl) ?_
  refine JO_loadq rfl (by kernel_rfl) (t := 3) (d := (some ⟨gf_1, 0, none⟩)) (0) 0 (by kernel_rfl) (cs := [.int .i64 zf_1]) (v := .int .i64 zf_1) (fun γ w hs => ⟨by simp, hcf_1.kept hs.kept⟩) (by kernel_rfl) (sl' := [(7, .v (.int .i64 zf_1)), (6, .v (.int .i64 zf_0)), (5, .v (.int .i64 x0)), (1, .q (some ⟨gf_0, 0, none⟩) (0)), (2, .q (some ⟨gf_1, 0, none⟩) (0))]) (by kernel_rfl) ?_
  obtain ⟨t21, h22, h23⟩ := bS h
  refine JO_call0 rfl (by kernel_rfl) (f := 67) (args := #[.int .i64 x0, .int .i64 zf_0, .int .i64 zf_1]) (by kernel_rfl) (x := .bool t21) (fun γ w hs => (by have vv := c_impl_within (W := w) h22; exact vv)) (sl' := [(8, .v (.bool t21)), (7, .v (.int .i64 zf_1)), (6, .v (.int .i64 zf_0)), (5, .v (.int .i64 x0)), (1, .q (some ⟨gf_0, 0, none⟩) (0)), (2, .q (some ⟨gf_1, 0, none⟩) (0))]) (by kernel_rfl) ?_
  refine JO_stepsK 2 [4] (sl' := [(4, .v (.bool (!t21)))]) (bx' := []) (by kernel_rfl) ?_
  refine JO_end (by kernel_rfl) ?_
  refine JE_then ?_
  refine JC_ret ?_
  refine JE_ret (vs := [.bool (!t21)]) (by kernel_rfl) (fun γ w hs => ?_)
  rw [← sI h23]
  exact ⟨rfl, hs.kept.toBelow⟩

theorem c_slices_IndexFunc_int__impl_allWithin_1 {W : World} {x0 : List Int} {a0_0 : Option Addr} {c0_0 : Nat} {g1_0 : Nat} {z1_0 : Int} {g1_1 : Nat} {z1_1 : Int} {r : Int} (h : slices_IndexFunc_int__impl_allWithin_1 x0 z1_0 z1_1 = some r) (hv0_0 : SlView W x0 a0_0 c0_0) (hc1_0 : CellsAt W (some ⟨g1_0, 0, none⟩) 0 [.int .i64 z1_0]) (hc1_1 : CellsAt W (some ⟨g1_1, 0, none⟩) 0 [.int .i64 z1_1]) :
    Gives0 Try.prog 142 #[.slice a0_0 x0.length c0_0, .func (.func 135) #[] #[.pointer (some ⟨g1_0, 0, none⟩), .pointer (some ⟨g1_1, 0, none⟩)]] W (.int .i64 r) := by
  unfold slices_IndexFunc_int__impl_allWithin_1 at h
  refine enter (args := [.slice a0_0 x0.length c0_0, .func (.func 135) #[] #[.pointer (some ⟨g1_0, 0, none⟩), .pointer (some ⟨g1_1, 0, none⟩)]]) Try.func142 rfl Try.ntmps142 (by kernel_rfl) ?_
  refine JC_seq ?_
  refine JC_region ?_
  refine JO_stepsK 1 [0, 1] (sl' := [(0, .v (.slice a0_0 x0.length c0_0)), (1, .v (.func (.func 135) #[] #[.pointer (some ⟨g1_0, 0, none⟩), .pointer (some ⟨g1_1, 0, none⟩)]))]) (bx' := []) (by kernel_rfl) ?_
  refine JO_end (by kernel_rfl) ?_
  refine JE_then ?_
  refine JC_seq ?_
  refine JC_seq ?_
  refine JC_region ?_
  refine JO_stepsK 3 [8, 7, 0, 1] (sl' := [(8, .v (.int .i64 0)), (7, .v (.int .i64 (x0.length : Int))), (0, .v (.slice a0_0 x0.length c0_0)), (1, .v (.func (.func 135) #[] #[.pointer (some ⟨g1_0, 0, none⟩), .pointer (some ⟨g1_1, 0, none⟩)]))]) (bx' := []) (by kernel_rfl) ?_
  refine JO_end (by kernel_rfl) ?_
  refine JE_then ?_
  obtain ⟨r24, hL25, h26⟩ := bS h
  obtain ⟨k27, hk28, h26⟩ := brkS h26
  refine JC_cutP (τ := (Unit) × (Unit)) (fun y => k27 y.1 = some r) (fun y32 => []) (fun y32 => []) (fun y32 => []) ?_ (fun y32 h33p => ?_)
  · refine JC_block ?_
    refine JC_loop (τ := Unit) hL25 (fun s21 y22 => [(8, .v (.int .i64 s21)), (7, .v (.int .i64 (x0.length : Int))), (0, .v (.slice a0_0 x0.length c0_0)), (1, .v (.func (.func 135) #[] #[.pointer (some ⟨g1_0, 0, none⟩), .pointer (some ⟨g1_1, 0, none⟩)]))]) (fun s21 y22 => []) (fun s21 y22 => []) () [8, 7, 0, 1] [] 0 (by kernel_rfl) (by kernel_rfl) (by kernel_rfl) (by kernel_rfl) (fun s21 y22 t23 h29 hd30 => ?_)
    refine JC_seq ?_
    refine JC_region ?_
    refine JO_stepsK 1 [9, 8, 7, 0, 1] (sl' := [(9, .v (.bool (decide (s21 < (x0.length : Int))))), (8, .v (.int .i64 s21)), (7, .v (.int .i64 (x0.length : Int))), (0, .v (.slice a0_0 x0.length c0_0)), (1, .v (.func (.func 135) #[] #[.pointer (some ⟨g1_0, 0, none⟩), .pointer (some ⟨g1_1, 0, none⟩)]))]) (bx' := []) (by kernel_rfl) ?_
    refine JO_end (by kernel_rfl) ?_
    refine JE_then ?_
    refine JC_seq ?_
    refine JC_cond (decide (s21 < (x0.length : Int))) (by kernel_rfl) (fun b34 => ?_) (fun b34 => ?_)
    · have h35 := cT b34 h29
      refine JC_skip ?_
      refine JE_then ?_
      refine JC_seq ?_
      refine JC_block ?_
      refine JC_seq ?_
      refine JC_region ?_
      refine JO_stepsK 2 [5, 8, 7, 0, 1] (sl' := [(5, .v (.int .i64 s21)), (8, .v (.int .i64 s21)), (7, .v (.int .i64 (x0.length : Int))), (0, .v (.slice a0_0 x0.length c0_0)), (1, .v (.func (.func 135) #[] #[.pointer (some ⟨g1_0, 0, none⟩), .pointer (some ⟨g1_1, 0, none⟩)]))]) (bx' := []) (by kernel_rfl) ?_
      refine JO_end (by kernel_rfl) ?_
      refine JE_then ?_
      refine JC_seq ?_
      refine JC_region ?_
      refine JO_stepsK 3 [13, 12, 11, 5, 8, 7, 0, 1] (sl' := [(13, .v (.int .i64 s21)), (12, .v (.slice a0_0 x0.length c0_0)), (11, .v (.func (.func 135) #[] #[.pointer (some ⟨g1_0, 0, none⟩), .pointer (some ⟨g1_1, 0, none⟩)])), (5, .v (.int .i64 s21)), (8, .v (.int .i64 s21)), (7, .v (.int .i64 (x0.length : Int))), (0, .v (.slice a0_0 x0.length c0_0)), (1, .v (.func (.func 135) #[] #[.pointer (some ⟨g1_0, 0, none⟩), .pointer (some ⟨g1_1, 0, none⟩)]))]) (bx' := []) (by kernel_rfl) ?_
      obtain ⟨x37, hx38, h39⟩ := bS h35
      refine JO_index rfl (by kernel_rfl) (d := a0_0) (m := x0.length) (j := s21) (s := 1) (by kernel_rfl) (fun γ w hs => (hv0_0.kept hs.kept)) rfl hx38 (sl' := [(14, .q a0_0 (Int.toNat s21 * 1)), (13, .v (.int .i64 s21)), (12, .v (.slice a0_0 x0.length c0_0)), (11, .v (.func (.func 135) #[] #[.pointer (some ⟨g1_0, 0, none⟩), .pointer (some ⟨g1_1, 0, none⟩)])), (5, .v (.int .i64 s21)), (8, .v (.int .i64 s21)), (7, .v (.int .i64 (x0.length : Int))), (0, .v (.slice a0_0 x0.length c0_0)), (1, .v (.func (.func 135) #[] #[.pointer (some ⟨g1_0, 0, none⟩), .pointer (some ⟨g1_1, 0, none⟩)]))]) (by kernel_rfl) ?_
      refine JO_loadq rfl (by kernel_rfl) (t := 3) (d := a0_0) (Int.toNat s21 * 1) 0 (by kernel_rfl) (cs := [.int .i64 x37]) (v := .int .i64 x37) (fun γ w hs => (hv0_0.kept hs.kept).flatq hx38) (by kernel_rfl) (sl' := [(15, .v (.int .i64 x37)), (14, .q a0_0 (Int.toNat s21 * 1)), (13, .v (.int .i64 s21)), (12, .v (.slice a0_0 x0.length c0_0)), (11, .v (.func (.func 135) #[] #[.pointer (some ⟨g1_0, 0, none⟩), .pointer (some ⟨g1_1, 0, none⟩)])), (5, .v (.int .i64 s21)), (8, .v (.int .i64 s21)), (7, .v (.int .i64 (x0.length : Int))), (0, .v (.slice a0_0 x0.length c0_0)), (1, .v (.func (.func 135) #[] #[.pointer (some ⟨g1_0, 0, none⟩), .pointer (some ⟨g1_1, 0, none⟩)]))]) (by kernel_rfl) ?_
      obtain ⟨t40, h41, h42⟩ := bS h39
      refine JO_call0 rfl (by kernel_rfl) (f := 135) (args := #[.int .i64 x37, .pointer (some ⟨g1_0, 0, none⟩), .pointer (some ⟨g1_1, 0, none⟩)]) (by kernel_rfl) (x := .bool t40) (fun γ w hs => (by have vv := c_impl_allWithin_1 (W := w) h41 (hc1_0.kept hs.kept) (hc1_1.kept hs.kept); exact vv)) (sl' := [(16, .v (.bool t40)), (15, .v (.int .i64 x37)), (14, .q a0_0 (Int.toNat s21 * 1)), (13, .v (.int .i64 s21)), (12, .v (.slice a0_0 x0.length c0_0)), (11, .v (.func (.func 135) #[] #[.pointer (some ⟨g1_0, 0, none⟩), .pointer (some ⟨g1_1, 0, none⟩)])), (5, .v (.int .i64 s21)), (8, .v (.int .i64 s21)), (7, .v (.int .i64 (x0.length : Int))), (0, .v (.slice a0_0 x0.length c0_0)), (1, .v (.func (.func 135) #[] #[.pointer (some ⟨g1_0, 0, none⟩), .pointer (some ⟨g1_1, 0, none⟩)]))]) (by kernel_rfl) ?_
      refine JO_end (by kernel_rfl) ?_
      refine JE_then ?_
      refine JC_cond t40 (by kernel_rfl) (fun b44 => ?_) (fun b44 => ?_)
      · have h45 := cT b44 h42
        refine JC_seq ?_
        refine JC_region ?_
        refine JO_stepsK 2 [4] (sl' := [(4, .v (.int .i64 s21))]) (bx' := []) (by kernel_rfl) ?_
        refine JO_end (by kernel_rfl) ?_
        refine JE_then ?_
        refine JC_ret ?_
        refine JE_block_ret ?_
        refine JE_then_ret ?_
        refine JE_then_ret ?_
        have h47 := leafR hd30 h45 h26
        refine JE_block_ret ?_
        refine JE_then_ret ?_
        refine JE_then_ret ?_
        refine JE_ret (vs := [.int .i64 s21]) (by kernel_rfl) (fun γ w hs => ?_)
        rw [← sI h47]
        exact ⟨rfl, hs.kept.toBelow⟩
      · have h46 := cF b44 h42
        refine JC_skip ?_
        refine JE_block_normal ?_
        refine JE_then ?_
        refine JC_region ?_
        refine JO_stepsK 2 [8, 7, 0, 1] (sl' := [(8, .v (.int .i64 (w64 (s21 + 1)))), (7, .v (.int .i64 (x0.length : Int))), (0, .v (.slice a0_0 x0.length c0_0)), (1, .v (.func (.func 135) #[] #[.pointer (some ⟨g1_0, 0, none⟩), .pointer (some ⟨g1_1, 0, none⟩)]))]) (bx' := []) (by kernel_rfl) ?_
        refine JO_end (by kernel_rfl) ?_
        exact JE_cont h46 () [8, 7, 0, 1] [] 0 (by kernel_rfl) (by kernel_rfl) (by kernel_rfl) (by kernel_rfl)
    · have h36 := cF b34 h29
      refine JC_exit ?_
      refine JE_then_exit ?_
      refine JE_then_exit ?_
      refine JE_block_hit ?_
      have h48 := leafB hd30 h36 h26
      exact JE_meetP ((), ()) h48 [] [] 0 (by kernel_rfl) (by kernel_rfl) (by kernel_rfl) (by kernel_rfl)
  · have h33 := (congrFun hk28 _).symm.trans h33p
    refine JE_then ?_
    refine JC_seq ?_
    refine JC_region ?_
    refine JO_stepsK 1 [4] (sl' := [(4, .v (.int .i64 (-1)))]) (bx' := []) (by kernel_rfl) ?_
    refine JO_end (by kernel_rfl) ?_
    refine JE_then ?_
    refine JC_ret ?_
    refine JE_ret (vs := [.int .i64 (-1)]) (by kernel_rfl) (fun γ w hs => ?_)
    rw [← sI h33]
    exact ⟨rfl, hs.kept.toBelow⟩

theorem c_slices_ContainsFunc_int__impl_allWithin_1 {W : World} {x0 : List Int} {a0_0 : Option Addr} {c0_0 : Nat} {g1_0 : Nat} {z1_0 : Int} {g1_1 : Nat} {z1_1 : Int} {r : Bool} (h : slices_ContainsFunc_int__impl_allWithin_1 x0 z1_0 z1_1 = some r) (hv0_0 : SlView W x0 a0_0 c0_0) (hc1_0 : CellsAt W (some ⟨g1_0, 0, none⟩) 0 [.int .i64 z1_0]) (hc1_1 : CellsAt W (some ⟨g1_1, 0, none⟩) 0 [.int .i64 z1_1]) :
    Gives0 Try.prog 134 #[.slice a0_0 x0.length c0_0, .func (.func 135) #[] #[.pointer (some ⟨g1_0, 0, none⟩), .pointer (some ⟨g1_1, 0, none⟩)]] W (.bool r) := by
  unfold slices_ContainsFunc_int__impl_allWithin_1 at h
  refine enter (args := [.slice a0_0 x0.length c0_0, .func (.func 135) #[] #[.pointer (some ⟨g1_0, 0, none⟩), .pointer (some ⟨g1_1, 0, none⟩)]]) Try.func134 rfl Try.ntmps134 (by kernel_rfl) ?_
  refine JC_seq ?_
  refine JC_region ?_
  refine JO_stepsK 1 [0, 1] (sl' := [(0, .v (.slice a0_0 x0.length c0_0)), (1, .v (.func (.func 135) #[] #[.pointer (some ⟨g1_0, 0, none⟩), .pointer (some ⟨g1_1, 0, none⟩)]))]) (bx' := []) (by kernel_rfl) ?_
  refine JO_end (by kernel_rfl) ?_
  refine JE_then ?_
  refine JC_seq ?_
  refine JC_region ?_
  refine JO_stepsK 2 [6, 5] (sl' := [(6, .v (.func (.func 135) #[] #[.pointer (some ⟨g1_0, 0, none⟩), .pointer (some ⟨g1_1, 0, none⟩)])), (5, .v (.slice a0_0 x0.length c0_0))]) (bx' := []) (by kernel_rfl) ?_
  obtain ⟨t21, h22, h23⟩ := bS h
  refine JO_call0 rfl (by kernel_rfl) (f := 142) (args := #[.slice a0_0 x0.length c0_0, .func (.func 135) #[] #[.pointer (some ⟨g1_0, 0, none⟩), .pointer (some ⟨g1_1, 0, none⟩)]]) (by kernel_rfl) (x := .int .i64 t21) (fun γ w hs => (by have vv := c_slices_IndexFunc_int__impl_allWithin_1 (W := w) h22 (hv0_0.kept hs.kept) (hc1_0.kept hs.kept) (hc1_1.kept hs.kept); exact vv)) (sl' := [(7, .v (.int .i64 t21)), (6, .v (.func (.func 135) #[] #[.pointer (some ⟨g1_0, 0, none⟩), .pointer (some ⟨g1_1, 0, none⟩)])), (5, .v (.slice a0_0 x0.length c0_0))]) (by kernel_rfl) ?_
  refine JO_stepsK 2 [4] (sl' := [(4, .v (.bool (decide (t21 ≥ 0))))]) (bx' := []) (by kernel_rfl) ?_
  refine JO_end (by kernel_rfl) ?_
  refine JE_then ?_
  refine JC_ret ?_
  refine JE_ret (vs := [.bool (decide (t21 ≥ 0))]) (by kernel_rfl) (fun γ w hs => ?_)
  rw [← sI h23]
  exact ⟨rfl, hs.kept.toBelow⟩

theorem c_impl_allWithin {W : World} {x0 : List Int} {a0_0 : Option Addr} {c0_0 : Nat} {x1 : Int} {x2 : Int} {r : Bool} (h : impl_allWithin x0 x1 x2 = some r) (hv0_0 : SlView W x0 a0_0 c0_0) :
    Gives0 Try.prog 110 #[.slice a0_0 x0.length c0_0, .int .i64 x1, .int .i64 x2] W (.bool r) := by
  unfold impl_allWithin at h
  refine enter (args := [.slice a0_0 x0.length c0_0, .int .i64 x1, .int .i64 x2]) Try.func110 rfl Try.ntmps110 (by kernel_rfl) ?_
  refine JC_seq ?_
  refine JC_region ?_
  refine JO_stepsK 3 [5, 4, 0] (sl' := [(5, .p 1 0), (4, .p 0 0), (0, .v (.slice a0_0 x0.length c0_0))]) (bx' := [(3, [.int .i64 x1]), (3, [.int .i64 x2])]) (by kernel_rfl) ?_
  refine JO_end (by kernel_rfl) ?_
  refine JE_then ?_
  refine JC_seq ?_
  refine JC_region ?_
  refine JO_stepsK 1 [7, 5, 4] (sl' := [(7, .v (.slice a0_0 x0.length c0_0)), (5, .p 1 0), (4, .p 0 0)]) (bx' := [(3, [.int .i64 x1]), (3, [.int .i64 x2])]) (by kernel_rfl) ?_
  refine JO_mkfunc rfl (by kernel_rfl) (x := .f 135 [(0, 0), (1, 0)]) (by kernel_rfl) (sl' := [(8, .f 135 [(0, 0), (1, 0)]), (7, .v (.slice a0_0 x0.length c0_0)), (5, .p 1 0), (4, .p 0 0)]) (by kernel_rfl) ?_
  obtain ⟨t21, h22, h23⟩ := bS h
  refine JO_callD0 rfl (by kernel_rfl) (f := 134) (args := fun γ => #[.slice a0_0 x0.length c0_0, .func (.func 135) #[] #[.pointer (some ⟨γ.getD 0 0, 0, none⟩), .pointer (some ⟨γ.getD 1 0, 0, none⟩)]]) (fun γ => by kernel_rfl) (x := .bool t21) (fun γ w hs => (by have vv := c_slices_ContainsFunc_int__impl_allWithin_1 (W := w) h22 (hv0_0.kept hs.kept) (hs.boxCells (k := 0) (e := 3) (by kernel_rfl)) (hs.boxCells (k := 1) (e := 3) (by kernel_rfl)); exact vv)) (sl' := [(9, .v (.bool t21)), (8, .f 135 [(0, 0), (1, 0)]), (7, .v (.slice a0_0 x0.length c0_0)), (5, .p 1 0), (4, .p 0 0)]) (by kernel_rfl) ?_
  refine JO_stepsK 2 [6] (sl' := [(6, .v (.bool (!t21)))]) (bx' := [(3, [.int .i64 x1]), (3, [.int .i64 x2])]) (by kernel_rfl) ?_
  refine JO_end (by kernel_rfl) ?_
  refine JE_then ?_
  refine JC_ret ?_
  refine JE_ret (vs := [.bool (!t21)]) (by kernel_rfl) (fun γ w hs => ?_)
  rw [← sI h23]
  exact ⟨rfl, hs.kept.toBelow⟩

theorem c_impl_arePensions {W : World} {x0 : List Int} {a0_0 : Option Addr} {c0_0 : Nat} {r : Bool} (h : impl_arePensions x0 = some r) (hv0_0 : SlView W x0 a0_0 c0_0) :
    Gives0 Try.prog 66 #[.slice a0_0 x0.length c0_0] W (.bool r) := by
  unfold impl_arePensions at h
  refine enter (args := [.slice a0_0 x0.length c0_0]) Try.func66 rfl Try.ntmps66 (by kernel_rfl) ?_
  refine JC_seq ?_
  refine JC_region ?_
  refine JO_stepsK 1 [0] (sl' := [(0, .v (.slice a0_0 x0.length c0_0))]) (bx' := []) (by kernel_rfl) ?_
  refine JO_end (by kernel_rfl) ?_
  refine JE_then ?_
  refine JC_seq ?_
  obtain ⟨p21, hE22, h23⟩ := bS h
  refine JC_cut (τ := Unit) (fun _ => [(2, .v (.bool p21))]) (fun _ => []) (fun _ => []) ?_ (fun _ => ?_)
  · refine JC_region ?_
    refine JO_stepsK 4 [6, 0] (sl' := [(6, .v (.bool (decide ((x0.length : Int) ≤ 40)))), (0, .v (.slice a0_0 x0.length c0_0))]) (bx' := []) (by kernel_rfl) ?_
    refine JO_split 6 (decide ((x0.length : Int) ≤ 40)) (by kernel_rfl) (fun b24 => ?_) (fun b24 => ?_)
    · have h25 := cT b24 hE22
      refine JO_stepsK 1 [7, 6] (sl' := [(7, .v (.slice a0_0 x0.length c0_0)), (6, .v (.bool true))]) (bx' := []) (by kernel_rfl) ?_
      obtain ⟨t27, h28, h29⟩ := bS h25
      refine JO_call0 rfl (by kernel_rfl) (f := 110) (args := #[.slice a0_0 x0.length c0_0, .int .i64 0, .int .i64 1000000]) (by kernel_rfl) (x := .bool t27) (fun γ w hs => (by have vv := c_impl_allWithin (W := w) h28 (hv0_0.kept hs.kept); exact vv)) (sl' := [(8, .v (.bool t27)), (7, .v (.slice a0_0 x0.length c0_0)), (6, .v (.bool true))]) (by kernel_rfl) ?_
      refine JO_stepsK 2 [2] (sl' := [(2, .v (.bool t27))]) (bx' := []) (by kernel_rfl) ?_
      refine JO_end (by kernel_rfl) ?_
      obtain rfl := sI h29
      exact JE_meet () [2] [] 0 (by kernel_rfl) (by kernel_rfl) (by kernel_rfl) (by kernel_rfl)
    · have h26 := cF b24 hE22
      refine JO_stepsK 4 [2] (sl' := [(2, .v (.bool false))]) (bx' := []) (by kernel_rfl) ?_
      refine JO_end (by kernel_rfl) ?_
      obtain rfl := sI h26
      exact JE_meet () [2] [] 0 (by kernel_rfl) (by kernel_rfl) (by kernel_rfl) (by kernel_rfl)
  · skip
    refine JE_then ?_
    refine JC_ret ?_
    refine JE_ret (vs := [.bool p21]) (by kernel_rfl) (fun γ w hs => ?_)
    rw [← sI h23]
    exact ⟨rfl, hs.kept.toBelow⟩

theorem c_impl_RaiseAll {W : World} {x0 : List Int} {a0_0 : Option Addr} {c0_0 : Nat} {x1 : Int} {r : (List Int)} (h : impl_RaiseAll x0 x1 = some r) (hv0_0 : SlView W x0 a0_0 c0_0) :
    Gives Try.prog 17 #[.slice a0_0 x0.length c0_0, .int .i64 x1] W (fun y : (Option Addr × Nat) => .slice y.1 r.length y.2) (fun y => [SlRes 3 r y.1 y.2]) := by
  unfold impl_RaiseAll at h
  refine enter (args := [.slice a0_0 x0.length c0_0, .int .i64 x1]) Try.func17 rfl Try.ntmps17 (by kernel_rfl) ?_
  refine JC_seq ?_
  refine JC_region ?_
  refine JO_stepsK 1 [0, 1] (sl' := [(0, .v (.slice a0_0 x0.length c0_0)), (1, .v (.int .i64 x1))]) (bx' := []) (by kernel_rfl) ?_
  refine JO_end (by kernel_rfl) ?_
  refine JE_then ?_
  refine JC_seq ?_
  refine JC_seq ?_
  obtain ⟨p21, hE22, h23⟩ := bS h
  refine JC_cut (τ := Unit) (fun _ => [(0, .v (.slice a0_0 x0.length c0_0)), (1, .v (.int .i64 x1)), (15, .v (.bool p21))]) (fun _ => []) (fun _ => []) ?_ (fun _ => ?_)
  · refine JC_region ?_
    refine JO_stepsK 1 [8, 0, 1] (sl' := [(8, .v (.slice a0_0 x0.length c0_0)), (0, .v (.slice a0_0 x0.length c0_0)), (1, .v (.int .i64 x1))]) (bx' := []) (by kernel_rfl) ?_
    obtain ⟨t24, h25, h26⟩ := bS hE22
    refine JO_call0 rfl (by kernel_rfl) (f := 66) (args := #[.slice a0_0 x0.length c0_0]) (by kernel_rfl) (x := .bool t24) (fun γ w hs => (by have vv := c_impl_arePensions (W := w) h25 (hv0_0.kept hs.kept); exact vv)) (sl' := [(9, .v (.bool t24)), (8, .v (.slice a0_0 x0.length c0_0)), (0, .v (.slice a0_0 x0.length c0_0)), (1, .v (.int .i64 x1))]) (by kernel_rfl) ?_
    refine JO_stepsK 2 [11, 0, 1] (sl' := [(11, .v (.bool (!t24))), (0, .v (.slice a0_0 x0.length c0_0)), (1, .v (.int .i64 x1))]) (bx' := []) (by kernel_rfl) ?_
    refine JO_split 11 (!t24) (by kernel_rfl) (fun b28 => ?_) (fun b28 => ?_)
    · have h29 := cT b28 h26
      refine JO_stepsK 4 [15, 0, 1] (sl' := [(15, .v (.bool true)), (0, .v (.slice a0_0 x0.length c0_0)), (1, .v (.int .i64 x1))]) (bx' := []) (by kernel_rfl) ?_
      refine JO_end (by kernel_rfl) ?_
      obtain rfl := sI h29
      exact JE_meet () [0, 1, 15] [] 0 (by kernel_rfl) (by kernel_rfl) (by kernel_rfl) (by kernel_rfl)
    · have h30 := cF b28 h26
      refine JO_stepsK 1 [12, 11, 0, 1] (sl' := [(12, .v (.int .i64 x1)), (11, .v (.bool false)), (0, .v (.slice a0_0 x0.length c0_0)), (1, .v (.int .i64 x1))]) (bx' := []) (by kernel_rfl) ?_
      obtain ⟨t31, h32, h33⟩ := bS h30
      refine JO_call0 rfl (by kernel_rfl) (f := 67) (args := #[.int .i64 x1, .int .i64 0, .int .i64 1000]) (by kernel_rfl) (x := .bool t31) (fun γ w hs => (by have vv := c_impl_within (W := w) h32; exact vv)) (sl' := [(13, .v (.bool t31)), (12, .v (.int .i64 x1)), (11, .v (.bool false)), (0, .v (.slice a0_0 x0.length c0_0)), (1, .v (.int .i64 x1))]) (by kernel_rfl) ?_
      refine JO_stepsK 2 [15, 0, 1] (sl' := [(15, .v (.bool (!t31))), (0, .v (.slice a0_0 x0.length c0_0)), (1, .v (.int .i64 x1))]) (bx' := []) (by kernel_rfl) ?_
      refine JO_end (by kernel_rfl) ?_
      obtain rfl := sI h33
      exact JE_meet () [0, 1, 15] [] 0 (by kernel_rfl) (by kernel_rfl) (by kernel_rfl) (by kernel_rfl)
  · skip
    refine JE_then ?_
    refine JC_cond p21 (by kernel_rfl) (fun b35 => ?_) (fun b35 => ?_)
    · have h36 := cT b35 h23
      refine JC_seq ?_
      refine JC_region ?_
      refine JO_stepsK 1 [4] (sl' := [(4, .v (.slice none 0 0))]) (bx' := []) (by kernel_rfl) ?_
      refine JO_end (by kernel_rfl) ?_
      refine JE_then ?_
      refine JC_ret ?_
      refine JE_then_ret ?_
      refine JE_addnil 3 (List.nil (α := Int)) rfl ?_
      refine JE_ret (vs := [.slice none 0 0]) (by kernel_rfl) (fun γ w hs => ?_)
      rw [← sI h36]
      exact ⟨(none, 0), rfl, hs.kept.toBelow, (hs.takeR (is := [0]) rfl).fresh⟩
    · have h37 := cF b35 h23
      refine JC_skip ?_
      refine JE_then ?_
      refine JC_seq ?_
      refine JC_region ?_
      refine JO_bslice rfl (by kernel_rfl) (e := 3) (len := 0) (cs := []) (by kernel_rfl) (xs := ([] : List Int)) rfl (by kernel_rfl) (Rc := []) (Rr := []) rfl (own_flat (by kernel_rfl)) (fun y38 => [(16, .v (.slice y38.1 ([] : List Int).length y38.2)), (0, .v (.slice a0_0 x0.length c0_0)), (1, .v (.int .i64 x1)), (15, .v (.bool p21))]) (fun y38 => by kernel_rfl) (fun y38 => ?_)
      refine JO_stepsK 1 [5, 0, 1] (sl' := [(5, .v (.slice y38.1 ([] : List Int).length y38.2)), (0, .v (.slice a0_0 x0.length c0_0)), (1, .v (.int .i64 x1))]) (bx' := []) (by kernel_rfl) ?_
      refine JO_end (by kernel_rfl) ?_
      refine JE_then ?_
      refine JC_seq ?_
      refine JC_seq ?_
      refine JC_region ?_
      refine JO_stepsK 3 [19, 18, 17, 5, 1] (sl' := [(19, .v (.int .i64 0)), (18, .v (.int .i64 (x0.length : Int))), (17, .v (.slice a0_0 x0.length c0_0)), (5, .v (.slice y38.1 ([] : List Int).length y38.2)), (1, .v (.int .i64 x1))]) (bx' := []) (by kernel_rfl) ?_
      refine JO_end (by kernel_rfl) ?_
      refine JE_then ?_
      obtain ⟨r43, hL44, h45⟩ := bS h37
      obtain ⟨k46, hk47, h45⟩ := brkS h45
      refine JC_cutP (τ := ((List Int)) × ((Option Addr × Nat))) (fun y => k46 y.1 = some r) (fun y51 => [(5, .v (.slice y51.2.1 y51.1.length y51.2.2))]) (fun y51 => []) (fun y51 => [SlRes 3 y51.1 y51.2.1 y51.2.2]) ?_ (fun y51 h52p => ?_)
      · refine JC_block ?_
        refine JC_loop (τ := (Option Addr × Nat)) hL44 (fun s40 y41 => [(19, .v (.int .i64 s40.1)), (18, .v (.int .i64 (x0.length : Int))), (17, .v (.slice a0_0 x0.length c0_0)), (5, .v (.slice y41.1 s40.2.length y41.2)), (1, .v (.int .i64 x1))]) (fun s40 y41 => []) (fun s40 y41 => [SlRes 3 s40.2 y41.1 y41.2]) (y38.1, y38.2) [19, 18, 17, 5, 1] [0] 0 (by kernel_rfl) (by kernel_rfl) (by kernel_rfl) (by kernel_rfl) (fun s40 y41 t42 h48 hd49 => ?_)
        refine JC_seq ?_
        refine JC_region ?_
        refine JO_stepsK 1 [20, 19, 18, 17, 5, 1] (sl' := [(20, .v (.bool (decide (s40.1 < (x0.length : Int))))), (19, .v (.int .i64 s40.1)), (18, .v (.int .i64 (x0.length : Int))), (17, .v (.slice a0_0 x0.length c0_0)), (5, .v (.slice y41.1 s40.2.length y41.2)), (1, .v (.int .i64 x1))]) (bx' := []) (by kernel_rfl) ?_
        refine JO_end (by kernel_rfl) ?_
        refine JE_then ?_
        refine JC_seq ?_
        refine JC_cond (decide (s40.1 < (x0.length : Int))) (by kernel_rfl) (fun b53 => ?_) (fun b53 => ?_)
        · have h54 := cT b53 h48
          refine JC_skip ?_
          refine JE_then ?_
          refine JC_seq ?_
          refine JC_block ?_
          refine JC_seq ?_
          refine JC_region ?_
          obtain ⟨x56, hx57, h58⟩ := bS h54
          refine JO_index rfl (by kernel_rfl) (d := a0_0) (m := x0.length) (j := s40.1) (s := 1) (by kernel_rfl) (fun γ w hs => (hv0_0.kept hs.kept)) rfl hx57 (sl' := [(21, .q a0_0 (Int.toNat s40.1 * 1)), (20, .v (.bool (decide (s40.1 < (x0.length : Int))))), (19, .v (.int .i64 s40.1)), (18, .v (.int .i64 (x0.length : Int))), (17, .v (.slice a0_0 x0.length c0_0)), (5, .v (.slice y41.1 s40.2.length y41.2)), (1, .v (.int .i64 x1))]) (by kernel_rfl) ?_
          refine JO_loadq rfl (by kernel_rfl) (t := 3) (d := a0_0) (Int.toNat s40.1 * 1) 0 (by kernel_rfl) (cs := [.int .i64 x56]) (v := .int .i64 x56) (fun γ w hs => (hv0_0.kept hs.kept).flatq hx57) (by kernel_rfl) (sl' := [(22, .v (.int .i64 x56)), (21, .q a0_0 (Int.toNat s40.1 * 1)), (20, .v (.bool (decide (s40.1 < (x0.length : Int))))), (19, .v (.int .i64 s40.1)), (18, .v (.int .i64 (x0.length : Int))), (17, .v (.slice a0_0 x0.length c0_0)), (5, .v (.slice y41.1 s40.2.length y41.2)), (1, .v (.int .i64 x1))]) (by kernel_rfl) ?_
          refine JO_stepsK 1 [7, 19, 18, 17, 5, 1] (sl' := [(7, .v (.int .i64 x56)), (19, .v (.int .i64 s40.1)), (18, .v (.int .i64 (x0.length : Int))), (17, .v (.slice a0_0 x0.length c0_0)), (5, .v (.slice y41.1 s40.2.length y41.2)), (1, .v (.int .i64 x1))]) (bx' := []) (by kernel_rfl) ?_
          refine JO_end (by kernel_rfl) ?_
          refine JE_then ?_
          refine JC_region ?_
          refine JO_stepsK 7 [29, 23, 19, 18, 17, 1] (sl' := [(29, .v (.int .i64 (w64 (x56 + (w64 (Int.tdiv (w64 (x56 * x1)) 1000)))))), (23, .v (.slice y41.1 s40.2.length y41.2)), (19, .v (.int .i64 s40.1)), (18, .v (.int .i64 (x0.length : Int))), (17, .v (.slice a0_0 x0.length c0_0)), (1, .v (.int .i64 x1))]) (bx' := []) (by kernel_rfl) ?_
          refine JO_bslice rfl (by kernel_rfl) (e := 3) (len := 1) (cs := [.int .i64 (w64 (x56 + (w64 (Int.tdiv (w64 (x56 * x1)) 1000))))]) (by kernel_rfl) (xs := ([w64 (x56 + (w64 (Int.tdiv (w64 (x56 * x1)) 1000)))] : List Int)) rfl (by kernel_rfl) (Rc := []) (Rr := [SlRes 3 s40.2 y41.1 y41.2]) rfl (own_flat (by kernel_rfl)) (fun y59 => [(30, .v (.slice y59.1 ([w64 (x56 + (w64 (Int.tdiv (w64 (x56 * x1)) 1000)))] : List Int).length y59.2)), (29, .v (.int .i64 (w64 (x56 + (w64 (Int.tdiv (w64 (x56 * x1)) 1000)))))), (23, .v (.slice y41.1 s40.2.length y41.2)), (19, .v (.int .i64 s40.1)), (18, .v (.int .i64 (x0.length : Int))), (17, .v (.slice a0_0 x0.length c0_0)), (1, .v (.int .i64 x1))]) (fun y59 => by kernel_rfl) (fun y59 => ?_)
          refine JO_res (R' := [SlRes 3 s40.2 y41.1 y41.2, SlRes 3 ([w64 (x56 + (w64 (Int.tdiv (w64 (x56 * x1)) 1000)))] : List Int) y59.1 y59.2]) [1, 0] (by kernel_rfl) ?_
          obtain ⟨l62, hm63, h64⟩ := bS h58
          refine JO_appendV (α := Int) rfl (by kernel_rfl) (t := 22) (e := 3) (a1 := y41.1) (a2 := y59.1) (c1 := y41.2) (c2 := y59.2) (l1 := s40.2) (l2 := ([w64 (x56 + (w64 (Int.tdiv (w64 (x56 * x1)) 1000)))] : List Int)) (by kernel_rfl) (i := Try.t3) (by kernel_rfl) (z := (.int .i64 0)) (by kernel_rfl) (by kernel_rfl) (by kernel_rfl) (by kernel_rfl) (fun γ w hs => ⟨y59.2, (hs.view 1 rfl)⟩) (Rr := [SlRes 3 ([w64 (x56 + (w64 (Int.tdiv (w64 (x56 * x1)) 1000)))] : List Int) y59.1 y59.2]) rfl hm63 (fun y61 => [(31, .v (.slice y61.1 l62.length y61.2)), (30, .v (.slice y59.1 ([w64 (x56 + (w64 (Int.tdiv (w64 (x56 * x1)) 1000)))] : List Int).length y59.2)), (29, .v (.int .i64 (w64 (x56 + (w64 (Int.tdiv (w64 (x56 * x1)) 1000)))))), (23, .v (.slice y41.1 s40.2.length y41.2)), (19, .v (.int .i64 s40.1)), (18, .v (.int .i64 (x0.length : Int))), (17, .v (.slice a0_0 x0.length c0_0)), (1, .v (.int .i64 x1))]) (fun y61 => by kernel_rfl) (fun y61 => ?_)
          refine JO_stepsK 1 [5, 19, 18, 17, 1] (sl' := [(5, .v (.slice y61.1 l62.length y61.2)), (19, .v (.int .i64 s40.1)), (18, .v (.int .i64 (x0.length : Int))), (17, .v (.slice a0_0 x0.length c0_0)), (1, .v (.int .i64 x1))]) (bx' := []) (by kernel_rfl) ?_
          refine JO_end (by kernel_rfl) ?_
          refine JE_block_normal ?_
          refine JE_then ?_
          refine JC_region ?_
          refine JO_stepsK 2 [19, 5, 18, 17, 1] (sl' := [(19, .v (.int .i64 (w64 (s40.1 + 1)))), (5, .v (.slice y61.1 l62.length y61.2)), (18, .v (.int .i64 (x0.length : Int))), (17, .v (.slice a0_0 x0.length c0_0)), (1, .v (.int .i64 x1))]) (bx' := []) (by kernel_rfl) ?_
          refine JO_end (by kernel_rfl) ?_
          exact JE_cont h64 (y61.1, y61.2) [19, 18, 17, 5, 1] [0] 0 (by kernel_rfl) (by kernel_rfl) (by kernel_rfl) (by kernel_rfl)
        · have h55 := cF b53 h48
          refine JC_exit ?_
          refine JE_then_exit ?_
          refine JE_then_exit ?_
          refine JE_block_hit ?_
          have h65 := leafB hd49 h55 h45
          exact JE_meetP (s40.2, (y41.1, y41.2)) h65 [5] [0] 0 (by kernel_rfl) (by kernel_rfl) (by kernel_rfl) (by kernel_rfl)
      · have h52 := (congrFun hk47 _).symm.trans h52p
        refine JE_then ?_
        refine JC_seq ?_
        refine JC_region ?_
        refine JO_stepsK 2 [4] (sl' := [(4, .v (.slice y51.2.1 y51.1.length y51.2.2))]) (bx' := []) (by kernel_rfl) ?_
        refine JO_end (by kernel_rfl) ?_
        refine JE_then ?_
        refine JC_ret ?_
        refine JE_ret (vs := [.slice y51.2.1 y51.1.length y51.2.2]) (by kernel_rfl) (fun γ w hs => ?_)
        rw [← sI h52]
        exact ⟨(y51.2.1, y51.2.2), rfl, hs.kept.toBelow, (hs.takeR (is := [0]) rfl).fresh⟩

theorem c_laws_eqIntS {W : World} {x0 : List Int} {a0_0 : Option Addr} {c0_0 : Nat} {x1 : List Int} {a1_0 : Option Addr} {c1_0 : Nat} {r : Bool} (h : laws_eqIntS x0 x1 = some r) (hv0_0 : SlView W x0 a0_0 c0_0) (hv1_0 : SlView W x1 a1_0 c1_0) :
    Gives0 Try.prog 18 #[.slice a0_0 x0.length c0_0, .slice a1_0 x1.length c1_0] W (.bool r) := by
  unfold laws_eqIntS at h
  refine enter (args := [.slice a0_0 x0.length c0_0, .slice a1_0 x1.length c1_0]) Try.func18 rfl Try.ntmps18 (by kernel_rfl) ?_
  refine JC_seq ?_
  refine JC_region ?_
  refine JO_stepsK 1 [0, 1] (sl' := [(0, .v (.slice a0_0 x0.length c0_0)), (1, .v (.slice a1_0 x1.length c1_0))]) (bx' := []) (by kernel_rfl) ?_
  refine JO_end (by kernel_rfl) ?_
  refine JE_then ?_
  refine JC_seq ?_
  refine JC_seq ?_
  refine JC_region ?_
  refine JO_stepsK 5 [10, 0, 1] (sl' := [(10, .v (.bool ((x0.length : Int) != (x1.length : Int)))), (0, .v (.slice a0_0 x0.length c0_0)), (1, .v (.slice a1_0 x1.length c1_0))]) (bx' := []) (by kernel_rfl) ?_
  refine JO_end (by kernel_rfl) ?_
  refine JE_then ?_
  refine JC_cond ((x0.length : Int) != (x1.length : Int)) (by kernel_rfl) (fun b21 => ?_) (fun b21 => ?_)
  · have h22 := cT b21 h
    refine JC_seq ?_
    refine JC_region ?_
    refine JO_stepsK 1 [4] (sl' := [(4, .v (.bool false))]) (bx' := []) (by kernel_rfl) ?_
    refine JO_end (by kernel_rfl) ?_
    refine JE_then ?_
    refine JC_ret ?_
    refine JE_then_ret ?_
    refine JE_ret (vs := [.bool false]) (by kernel_rfl) (fun γ w hs => ?_)
    rw [← sI h22]
    exact ⟨rfl, hs.kept.toBelow⟩
  · have h23 := cF b21 h
    refine JC_skip ?_
    refine JE_then ?_
    refine JC_seq ?_
    refine JC_seq ?_
    refine JC_region ?_
    refine JO_stepsK 1 [5, 0, 1] (sl' := [(5, .v (.int .i64 0)), (0, .v (.slice a0_0 x0.length c0_0)), (1, .v (.slice a1_0 x1.length c1_0))]) (bx' := []) (by kernel_rfl) ?_
    refine JO_end (by kernel_rfl) ?_
    refine JE_then ?_
    obtain ⟨r27, hL28, h29⟩ := bS h23
    obtain ⟨k30, hk31, h29⟩ := brkS h29
    refine JC_cutP (τ := (Unit) × (Unit)) (fun y => k30 y.1 = some r) (fun y35 => []) (fun y35 => []) (fun y35 => []) ?_ (fun y35 h36p => ?_)
    · refine JC_block ?_
      refine JC_loop (τ := Unit) hL28 (fun s24 y25 => [(5, .v (.int .i64 s24)), (0, .v (.slice a0_0 x0.length c0_0)), (1, .v (.slice a1_0 x1.length c1_0))]) (fun s24 y25 => []) (fun s24 y25 => []) () [5, 0, 1] [] 0 (by kernel_rfl) (by kernel_rfl) (by kernel_rfl) (by kernel_rfl) (fun s24 y25 t26 h32 hd33 => ?_)
      refine JC_seq ?_
      refine JC_seq ?_
      refine JC_region ?_
      refine JO_stepsK 4 [14, 5, 0, 1] (sl' := [(14, .v (.bool (decide (s24 < (x0.length : Int))))), (5, .v (.int .i64 s24)), (0, .v (.slice a0_0 x0.length c0_0)), (1, .v (.slice a1_0 x1.length c1_0))]) (bx' := []) (by kernel_rfl) ?_
      refine JO_end (by kernel_rfl) ?_
      refine JE_then ?_
      refine JC_cond (decide (s24 < (x0.length : Int))) (by kernel_rfl) (fun b37 => ?_) (fun b37 => ?_)
      · have h38 := cT b37 h32
        refine JC_skip ?_
        refine JE_then ?_
        refine JC_seq ?_
        refine JC_block ?_
        refine JC_seq ?_
        refine JC_quiet (by kernel_rfl) (by kernel_rfl) ?_
        refine JQ_stepsK 2 [18, 17, 5, 0, 1] (sl' := [(18, .v (.int .i64 s24)), (17, .v (.slice a0_0 x0.length c0_0)), (5, .v (.int .i64 s24)), (0, .v (.slice a0_0 x0.length c0_0)), (1, .v (.slice a1_0 x1.length c1_0))]) (by kernel_rfl) ?_
        obtain ⟨x40, hx41, h42⟩ := bS h38
        refine JQ_index rfl (by kernel_rfl) (d := a0_0) (m := x0.length) (j := s24) (s := 1) (by kernel_rfl) (fun γ w hs => (hv0_0.kept hs.kept)) rfl hx41 (sl' := [(19, .q a0_0 (Int.toNat s24 * 1)), (18, .v (.int .i64 s24)), (17, .v (.slice a0_0 x0.length c0_0)), (5, .v (.int .i64 s24)), (0, .v (.slice a0_0 x0.length c0_0)), (1, .v (.slice a1_0 x1.length c1_0))]) (by kernel_rfl) ?_
        refine JQ_loadq rfl (by kernel_rfl) (t := 3) (d := a0_0) (Int.toNat s24 * 1) 0 (by kernel_rfl) (cs := [.int .i64 x40]) (v := .int .i64 x40) (fun γ w hs => (hv0_0.kept hs.kept).flatq hx41) (by kernel_rfl) (sl' := [(20, .v (.int .i64 x40)), (19, .q a0_0 (Int.toNat s24 * 1)), (18, .v (.int .i64 s24)), (17, .v (.slice a0_0 x0.length c0_0)), (5, .v (.int .i64 s24)), (0, .v (.slice a0_0 x0.length c0_0)), (1, .v (.slice a1_0 x1.length c1_0))]) (by kernel_rfl) ?_
        refine JQ_stepsK 2 [22, 21, 20, 5, 0, 1] (sl' := [(22, .v (.int .i64 s24)), (21, .v (.slice a1_0 x1.length c1_0)), (20, .v (.int .i64 x40)), (5, .v (.int .i64 s24)), (0, .v (.slice a0_0 x0.length c0_0)), (1, .v (.slice a1_0 x1.length c1_0))]) (by kernel_rfl) ?_
        obtain ⟨x43, hx44, h45⟩ := bS h42
        refine JQ_index rfl (by kernel_rfl) (d := a1_0) (m := x1.length) (j := s24) (s := 1) (by kernel_rfl) (fun γ w hs => (hv1_0.kept hs.kept)) rfl hx44 (sl' := [(23, .q a1_0 (Int.toNat s24 * 1)), (22, .v (.int .i64 s24)), (21, .v (.slice a1_0 x1.length c1_0)), (20, .v (.int .i64 x40)), (5, .v (.int .i64 s24)), (0, .v (.slice a0_0 x0.length c0_0)), (1, .v (.slice a1_0 x1.length c1_0))]) (by kernel_rfl) ?_
        refine JQ_loadq rfl (by kernel_rfl) (t := 3) (d := a1_0) (Int.toNat s24 * 1) 0 (by kernel_rfl) (cs := [.int .i64 x43]) (v := .int .i64 x43) (fun γ w hs => (hv1_0.kept hs.kept).flatq hx44) (by kernel_rfl) (sl' := [(24, .v (.int .i64 x43)), (23, .q a1_0 (Int.toNat s24 * 1)), (22, .v (.int .i64 s24)), (21, .v (.slice a1_0 x1.length c1_0)), (20, .v (.int .i64 x40)), (5, .v (.int .i64 s24)), (0, .v (.slice a0_0 x0.length c0_0)), (1, .v (.slice a1_0 x1.length c1_0))]) (by kernel_rfl) ?_
        refine JQ_stepsK 1 [25, 5, 0, 1] (sl' := [(25, .v (.bool (x40 != x43))), (5, .v (.int .i64 s24)), (0, .v (.slice a0_0 x0.length c0_0)), (1, .v (.slice a1_0 x1.length c1_0))]) (by kernel_rfl) ?_
        refine JQ_end (by kernel_rfl) ?_
        refine JE_then ?_
        refine JC_cond (x40 != x43) (by kernel_rfl) (fun b46 => ?_) (fun b46 => ?_)
        · have h47 := cT b46 h45
          refine JC_seq ?_
          refine JC_region ?_
          refine JO_stepsK 1 [4] (sl' := [(4, .v (.bool false))]) (bx' := []) (by kernel_rfl) ?_
          refine JO_end (by kernel_rfl) ?_
          refine JE_then ?_
          refine JC_ret ?_
          refine JE_block_ret ?_
          refine JE_then_ret ?_
          refine JE_then_ret ?_
          have h49 := leafR hd33 h47 h29
          refine JE_block_ret ?_
          refine JE_then_ret ?_
          refine JE_then_ret ?_
          refine JE_ret (vs := [.bool false]) (by kernel_rfl) (fun γ w hs => ?_)
          rw [← sI h49]
          exact ⟨rfl, hs.kept.toBelow⟩
        · have h48 := cF b46 h45
          refine JC_skip ?_
          refine JE_block_normal ?_
          refine JE_then ?_
          refine JC_region ?_
          refine JO_stepsK 3 [5, 0, 1] (sl' := [(5, .v (.int .i64 (w64 (s24 + 1)))), (0, .v (.slice a0_0 x0.length c0_0)), (1, .v (.slice a1_0 x1.length c1_0))]) (bx' := []) (by kernel_rfl) ?_
          refine JO_end (by kernel_rfl) ?_
          exact JE_cont h48 () [5, 0, 1] [] 0 (by kernel_rfl) (by kernel_rfl) (by kernel_rfl) (by kernel_rfl)
      · have h39 := cF b37 h32
        refine JC_exit ?_
        refine JE_then_exit ?_
        refine JE_then_exit ?_
        refine JE_block_hit ?_
        have h50 := leafB hd33 h39 h29
        exact JE_meetP ((), ()) h50 [] [] 0 (by kernel_rfl) (by kernel_rfl) (by kernel_rfl) (by kernel_rfl)
    · have h36 := (congrFun hk31 _).symm.trans h36p
      refine JE_then ?_
      refine JC_seq ?_
      refine JC_region ?_
      refine JO_stepsK 1 [4] (sl' := [(4, .v (.bool true))]) (bx' := []) (by kernel_rfl) ?_
      refine JO_end (by kernel_rfl) ?_
      refine JE_then ?_
      refine JC_ret ?_
      refine JE_ret (vs := [.bool true]) (by kernel_rfl) (fun γ w hs => ?_)
      rw [← sI h36]
      exact ⟨rfl, hs.kept.toBelow⟩

theorem c_laws_markIntS {W : World} {x0 : List Int} {a0_0 : Option Addr} {c0_0 : Nat} {e0_0 : TypeId} {x1 : Int} {r : Int × (List Int)} (h : laws_markIntS x0 x1 = some r)  :
    GivesM Try.prog 19 #[.slice a0_0 x0.length c0_0, .int .i64 x1] W [SlRes e0_0 x0 a0_0 c0_0] [SlRes e0_0 r.2 a0_0 c0_0] (.int .i64 r.1) := by
  unfold laws_markIntS at h
  refine enterM (args := [.slice a0_0 x0.length c0_0, .int .i64 x1]) Try.func19 rfl Try.ntmps19 (by kernel_rfl) (fun Fs => ?_)
  refine JC_seq ?_
  refine JC_region ?_
  refine JO_stepsK 1 [0, 1] (sl' := [(0, .v (.slice a0_0 x0.length c0_0)), (1, .v (.int .i64 x1))]) (bx' := []) (by kernel_rfl) ?_
  refine JO_end (by kernel_rfl) ?_
  refine JE_then ?_
  refine JC_seq ?_
  refine JC_seq ?_
  refine JC_region ?_
  refine JO_stepsK 1 [5, 0, 1] (sl' := [(5, .v (.int .i64 0)), (0, .v (.slice a0_0 x0.length c0_0)), (1, .v (.int .i64 x1))]) (bx' := []) (by kernel_rfl) ?_
  refine JO_end (by kernel_rfl) ?_
  refine JE_then ?_
  obtain ⟨r24, hL25, h26⟩ := bS h
  obtain ⟨k27, hk28, h26⟩ := brkS h26
  refine JC_cutP (τ := ((List Int) × Int) × (Unit)) (fun y => k27 y.1 = some r) (fun y32 => [(0, .v (.slice a0_0 y32.1.1.length c0_0)), (1, .v (.int .i64 y32.1.2))]) (fun y32 => []) (fun y32 => [SlRes e0_0 y32.1.1 a0_0 c0_0]) ?_ (fun y32 h33p => ?_)
  · refine JC_block ?_
    refine JC_loop (τ := Unit) hL25 (fun s21 y22 => [(5, .v (.int .i64 s21.1)), (0, .v (.slice a0_0 s21.2.1.length c0_0)), (1, .v (.int .i64 s21.2.2))]) (fun s21 y22 => []) (fun s21 y22 => [SlRes e0_0 s21.2.1 a0_0 c0_0]) () [5, 0, 1] [0] 0 (by kernel_rfl) (by kernel_rfl) (by kernel_rfl) (by kernel_rfl) (fun s21 y22 t23 h29 hd30 => ?_)
    refine JC_seq ?_
    refine JC_seq ?_
    refine JC_region ?_
    refine JO_stepsK 4 [9, 5, 0, 1] (sl' := [(9, .v (.bool (decide (s21.1 < (s21.2.1.length : Int))))), (5, .v (.int .i64 s21.1)), (0, .v (.slice a0_0 s21.2.1.length c0_0)), (1, .v (.int .i64 s21.2.2))]) (bx' := []) (by kernel_rfl) ?_
    refine JO_end (by kernel_rfl) ?_
    refine JE_then ?_
    refine JC_cond (decide (s21.1 < (s21.2.1.length : Int))) (by kernel_rfl) (fun b34 => ?_) (fun b34 => ?_)
    · have h35 := cT b34 h29
      refine JC_skip ?_
      refine JE_then ?_
      refine JC_seq ?_
      refine JC_block ?_
      refine JC_seq ?_
      refine JC_region ?_
      refine JO_stepsK 3 [14, 13, 12, 5, 0, 1] (sl' := [(14, .v (.int .i64 s21.2.2)), (13, .v (.int .i64 s21.1)), (12, .v (.slice a0_0 s21.2.1.length c0_0)), (5, .v (.int .i64 s21.1)), (0, .v (.slice a0_0 s21.2.1.length c0_0)), (1, .v (.int .i64 s21.2.2))]) (bx' := []) (by kernel_rfl) ?_
      obtain ⟨x37, hx38, h39⟩ := bS h35
      refine JO_index rfl (by kernel_rfl) (d := a0_0) (m := s21.2.1.length) (j := s21.1) (s := 1) (by kernel_rfl) (fun γ w hs => (hs.view 0 rfl)) rfl hx38 (sl' := [(15, .q a0_0 (Int.toNat s21.1 * 1)), (14, .v (.int .i64 s21.2.2)), (13, .v (.int .i64 s21.1)), (12, .v (.slice a0_0 s21.2.1.length c0_0)), (5, .v (.int .i64 s21.1)), (0, .v (.slice a0_0 s21.2.1.length c0_0)), (1, .v (.int .i64 s21.2.2))]) (by kernel_rfl) ?_
      obtain ⟨l40, hm41, h42⟩ := bS h39
      replace hm41 := (sI hm41).symm
      refine JO_storeq (α := Int) (d := a0_0) (vs := [.int .i64 s21.2.2]) (j := s21.1) (x' := s21.2.2) rfl (by kernel_rfl) 0 (by kernel_rfl) hx38 (Rc := []) (Rr := []) rfl (by kernel_rfl) (fun w c F Fs ho _ _ => own_flat_set (by kernel_rfl) ho) hm41 (sl' := [(15, .q a0_0 (Int.toNat s21.1 * 1)), (14, .v (.int .i64 s21.2.2)), (13, .v (.int .i64 s21.1)), (12, .v (.slice a0_0 s21.2.1.length c0_0)), (5, .v (.int .i64 s21.1)), (0, .v (.slice a0_0 s21.2.1.length c0_0)), (1, .v (.int .i64 s21.2.2))]) (by kernel_rfl) ?_
      have hl43 := len_set hm41
      refine JO_keep [14, 13, 12, 5, 0, 1] (sl' := [(14, .v (.int .i64 s21.2.2)), (13, .v (.int .i64 s21.1)), (12, .v (.slice a0_0 s21.2.1.length c0_0)), (5, .v (.int .i64 s21.1)), (0, .v (.slice a0_0 s21.2.1.length c0_0)), (1, .v (.int .i64 s21.2.2))]) (by kernel_rfl) ?_
      refine JO_eqE (sl' := [(14, .v (.int .i64 s21.2.2)), (13, .v (.int .i64 s21.1)), (12, .v (.slice a0_0 l40.length c0_0)), (5, .v (.int .i64 s21.1)), (0, .v (.slice a0_0 l40.length c0_0)), (1, .v (.int .i64 s21.2.2))]) (bx' := []) (by simp only [hl43]) rfl ?_
      refine JO_end (by kernel_rfl) ?_
      refine JE_then ?_
      refine JC_region ?_
      refine JO_stepsK 3 [1, 5, 0] (sl' := [(1, .v (.int .i64 (w64 (s21.2.2 + 1)))), (5, .v (.int .i64 s21.1)), (0, .v (.slice a0_0 l40.length c0_0))]) (bx' := []) (by kernel_rfl) ?_
      refine JO_end (by kernel_rfl) ?_
      refine JE_block_normal ?_
      refine JE_then ?_
      refine JC_region ?_
      refine JO_stepsK 3 [5, 1, 0] (sl' := [(5, .v (.int .i64 (w64 (s21.1 + 1)))), (1, .v (.int .i64 (w64 (s21.2.2 + 1)))), (0, .v (.slice a0_0 l40.length c0_0))]) (bx' := []) (by kernel_rfl) ?_
      refine JO_end (by kernel_rfl) ?_
      exact JE_cont h42 () [5, 0, 1] [0] 0 (by kernel_rfl) (by kernel_rfl) (by kernel_rfl) (by kernel_rfl)
    · have h36 := cF b34 h29
      refine JC_exit ?_
      refine JE_then_exit ?_
      refine JE_then_exit ?_
      refine JE_block_hit ?_
      have h44 := leafB hd30 h36 h26
      exact JE_meetP ((s21.2.1, s21.2.2), ()) h44 [0, 1] [0] 0 (by kernel_rfl) (by kernel_rfl) (by kernel_rfl) (by kernel_rfl)
  · have h33 := (congrFun hk28 _).symm.trans h33p
    refine JE_then ?_
    refine JC_seq ?_
    refine JC_region ?_
    refine JO_stepsK 2 [4, 0] (sl' := [(4, .v (.int .i64 y32.1.2)), (0, .v (.slice a0_0 y32.1.1.length c0_0))]) (bx' := []) (by kernel_rfl) ?_
    refine JO_end (by kernel_rfl) ?_
    refine JE_then ?_
    refine JC_ret ?_
    refine JE_ret (vs := [.int .i64 y32.1.2]) (by kernel_rfl) (fun γ w hs => ?_)
    rw [← sI h33]
    exact hs.turned (is := [0]) rfl

theorem c_laws_heldIntS {W : World} {x0 : List Int} {a0_0 : Option Addr} {c0_0 : Nat} {x1 : Int} {r : Int} (h : laws_heldIntS x0 x1 = some r) (hv0_0 : SlView W x0 a0_0 c0_0) :
    Gives0 Try.prog 20 #[.slice a0_0 x0.length c0_0, .int .i64 x1] W (.int .i64 r) := by
  unfold laws_heldIntS at h
  refine enter (args := [.slice a0_0 x0.length c0_0, .int .i64 x1]) Try.func20 rfl Try.ntmps20 (by kernel_rfl) ?_
  refine JC_seq ?_
  refine JC_region ?_
  refine JO_stepsK 1 [0, 1] (sl' := [(0, .v (.slice a0_0 x0.length c0_0)), (1, .v (.int .i64 x1))]) (bx' := []) (by kernel_rfl) ?_
  refine JO_end (by kernel_rfl) ?_
  refine JE_then ?_
  refine JC_seq ?_
  refine JC_seq ?_
  refine JC_region ?_
  refine JO_stepsK 1 [5, 0, 1] (sl' := [(5, .v (.int .i64 0)), (0, .v (.slice a0_0 x0.length c0_0)), (1, .v (.int .i64 x1))]) (bx' := []) (by kernel_rfl) ?_
  refine JO_end (by kernel_rfl) ?_
  refine JE_then ?_
  obtain ⟨r24, hL25, h26⟩ := bS h
  obtain ⟨k27, hk28, h26⟩ := brkS h26
  refine JC_cutP (τ := (Int) × (Unit)) (fun y => k27 y.1 = some r) (fun y32 => [(1, .v (.int .i64 y32.1))]) (fun y32 => []) (fun y32 => []) ?_ (fun y32 h33p => ?_)
  · refine JC_block ?_
    refine JC_loop (τ := Unit) hL25 (fun s21 y22 => [(5, .v (.int .i64 s21.1)), (0, .v (.slice a0_0 x0.length c0_0)), (1, .v (.int .i64 s21.2))]) (fun s21 y22 => []) (fun s21 y22 => []) () [5, 0, 1] [] 0 (by kernel_rfl) (by kernel_rfl) (by kernel_rfl) (by kernel_rfl) (fun s21 y22 t23 h29 hd30 => ?_)
    refine JC_seq ?_
    refine JC_seq ?_
    refine JC_region ?_
    refine JO_stepsK 4 [9, 5, 0, 1] (sl' := [(9, .v (.bool (decide (s21.1 < (x0.length : Int))))), (5, .v (.int .i64 s21.1)), (0, .v (.slice a0_0 x0.length c0_0)), (1, .v (.int .i64 s21.2))]) (bx' := []) (by kernel_rfl) ?_
    refine JO_end (by kernel_rfl) ?_
    refine JE_then ?_
    refine JC_cond (decide (s21.1 < (x0.length : Int))) (by kernel_rfl) (fun b34 => ?_) (fun b34 => ?_)
    · have h35 := cT b34 h29
      refine JC_skip ?_
      refine JE_then ?_
      refine JC_seq ?_
      refine JC_block ?_
      refine JC_seq ?_
      refine JC_seq ?_
      refine JC_region ?_
      refine JO_stepsK 2 [13, 12, 5, 0, 1] (sl' := [(13, .v (.int .i64 s21.1)), (12, .v (.slice a0_0 x0.length c0_0)), (5, .v (.int .i64 s21.1)), (0, .v (.slice a0_0 x0.length c0_0)), (1, .v (.int .i64 s21.2))]) (bx' := []) (by kernel_rfl) ?_
      obtain ⟨x37, hx38, h39⟩ := bS h35
      refine JO_index rfl (by kernel_rfl) (d := a0_0) (m := x0.length) (j := s21.1) (s := 1) (by kernel_rfl) (fun γ w hs => (hv0_0.kept hs.kept)) rfl hx38 (sl' := [(14, .q a0_0 (Int.toNat s21.1 * 1)), (13, .v (.int .i64 s21.1)), (12, .v (.slice a0_0 x0.length c0_0)), (5, .v (.int .i64 s21.1)), (0, .v (.slice a0_0 x0.length c0_0)), (1, .v (.int .i64 s21.2))]) (by kernel_rfl) ?_
      refine JO_loadq rfl (by kernel_rfl) (t := 3) (d := a0_0) (Int.toNat s21.1 * 1) 0 (by kernel_rfl) (cs := [.int .i64 x37]) (v := .int .i64 x37) (fun γ w hs => (hv0_0.kept hs.kept).flatq hx38) (by kernel_rfl) (sl' := [(15, .v (.int .i64 x37)), (14, .q a0_0 (Int.toNat s21.1 * 1)), (13, .v (.int .i64 s21.1)), (12, .v (.slice a0_0 x0.length c0_0)), (5, .v (.int .i64 s21.1)), (0, .v (.slice a0_0 x0.length c0_0)), (1, .v (.int .i64 s21.2))]) (by kernel_rfl) ?_
      refine JO_stepsK 2 [17, 5, 0, 1] (sl' := [(17, .v (.bool (x37 != s21.2))), (5, .v (.int .i64 s21.1)), (0, .v (.slice a0_0 x0.length c0_0)), (1, .v (.int .i64 s21.2))]) (bx' := []) (by kernel_rfl) ?_
      refine JO_end (by kernel_rfl) ?_
      refine JE_then ?_
      refine JC_cond (x37 != s21.2) (by kernel_rfl) (fun b40 => ?_) (fun b40 => ?_)
      · have h41 := cT b40 h39
        refine JC_seq ?_
        refine JC_region ?_
        refine JO_stepsK 1 [4] (sl' := [(4, .v (.int .i64 (-1)))]) (bx' := []) (by kernel_rfl) ?_
        refine JO_end (by kernel_rfl) ?_
        refine JE_then ?_
        refine JC_ret ?_
        refine JE_then_ret ?_
        refine JE_block_ret ?_
        refine JE_then_ret ?_
        refine JE_then_ret ?_
        have h43 := leafR hd30 h41 h26
        refine JE_block_ret ?_
        refine JE_then_ret ?_
        refine JE_then_ret ?_
        refine JE_ret (vs := [.int .i64 (-1)]) (by kernel_rfl) (fun γ w hs => ?_)
        rw [← sI h43]
        exact ⟨rfl, hs.kept.toBelow⟩
      · have h42 := cF b40 h39
        refine JC_skip ?_
        refine JE_then ?_
        refine JC_region ?_
        refine JO_stepsK 3 [1, 5, 0] (sl' := [(1, .v (.int .i64 (w64 (s21.2 + 1)))), (5, .v (.int .i64 s21.1)), (0, .v (.slice a0_0 x0.length c0_0))]) (bx' := []) (by kernel_rfl) ?_
        refine JO_end (by kernel_rfl) ?_
        refine JE_block_normal ?_
        refine JE_then ?_
        refine JC_region ?_
        refine JO_stepsK 3 [5, 1, 0] (sl' := [(5, .v (.int .i64 (w64 (s21.1 + 1)))), (1, .v (.int .i64 (w64 (s21.2 + 1)))), (0, .v (.slice a0_0 x0.length c0_0))]) (bx' := []) (by kernel_rfl) ?_
        refine JO_end (by kernel_rfl) ?_
        exact JE_cont h42 () [5, 0, 1] [] 0 (by kernel_rfl) (by kernel_rfl) (by kernel_rfl) (by kernel_rfl)
    · have h36 := cF b34 h29
      refine JC_exit ?_
      refine JE_then_exit ?_
      refine JE_then_exit ?_
      refine JE_block_hit ?_
      have h44 := leafB hd30 h36 h26
      exact JE_meetP (s21.2, ()) h44 [1] [] 0 (by kernel_rfl) (by kernel_rfl) (by kernel_rfl) (by kernel_rfl)
  · have h33 := (congrFun hk28 _).symm.trans h33p
    refine JE_then ?_
    refine JC_seq ?_
    refine JC_region ?_
    refine JO_stepsK 2 [4] (sl' := [(4, .v (.int .i64 y32.1))]) (bx' := []) (by kernel_rfl) ?_
    refine JO_end (by kernel_rfl) ?_
    refine JE_then ?_
    refine JC_ret ?_
    refine JE_ret (vs := [.int .i64 y32.1]) (by kernel_rfl) (fun γ w hs => ?_)
    rw [← sI h33]
    exact ⟨rfl, hs.kept.toBelow⟩

theorem c_laws_FnExactRaiseAll {W : World} {x0 : List Int} {a0_0 : Option Addr} {c0_0 : Nat} {x1 : Int} {r : Bool} (h : laws_FnExactRaiseAll x0 x1 = some r) (hv0_0 : SlView W x0 a0_0 c0_0) :
    Gives0 Try.prog 3 #[.slice a0_0 x0.length c0_0, .int .i64 x1] W (.bool r) := by
  unfold laws_FnExactRaiseAll at h
  refine enter (args := [.slice a0_0 x0.length c0_0, .int .i64 x1]) Try.func3 rfl Try.ntmps3 (by kernel_rfl) ?_
  refine JC_seq ?_
  refine JC_region ?_
  refine JO_stepsK 1 [0, 1] (sl' := [(0, .v (.slice a0_0 x0.length c0_0)), (1, .v (.int .i64 x1))]) (bx' := []) (by kernel_rfl) ?_
  refine JO_end (by kernel_rfl) ?_
  refine JE_then ?_
  refine JC_seq ?_
  refine JC_seq ?_
  refine JC_region ?_
  refine JO_stepsK 3 [14, 0, 1] (sl' := [(14, .v (.bool (decide ((x0.length : Int) > 1048576)))), (0, .v (.slice a0_0 x0.length c0_0)), (1, .v (.int .i64 x1))]) (bx' := []) (by kernel_rfl) ?_
  refine JO_end (by kernel_rfl) ?_
  refine JE_then ?_
  refine JC_cond (decide ((x0.length : Int) > 1048576)) (by kernel_rfl) (fun b21 => ?_) (fun b21 => ?_)
  · have h22 := cT b21 h
    refine JC_seq ?_
    refine JC_region ?_
    refine JO_stepsK 1 [4] (sl' := [(4, .v (.bool true))]) (bx' := []) (by kernel_rfl) ?_
    refine JO_end (by kernel_rfl) ?_
    refine JE_then ?_
    refine JC_ret ?_
    refine JE_then_ret ?_
    refine JE_ret (vs := [.bool true]) (by kernel_rfl) (fun γ w hs => ?_)
    rw [← sI h22]
    exact ⟨rfl, hs.kept.toBelow⟩
  · have h23 := cF b21 h
    refine JC_skip ?_
    refine JE_then ?_
    refine JC_seq ?_
    refine JC_region ?_
    refine JO_stepsK 1 [15, 0, 1] (sl' := [(15, .v (.slice a0_0 x0.length c0_0)), (0, .v (.slice a0_0 x0.length c0_0)), (1, .v (.int .i64 x1))]) (bx' := []) (by kernel_rfl) ?_
    obtain ⟨t24, h25, h26⟩ := bS h23
    refine JO_call rfl (by kernel_rfl) (f := 16) (args := #[.slice a0_0 x0.length c0_0]) (by kernel_rfl) (fun γ w hs => (by have vv := c_laws_toIntS (W := w) h25 (hv0_0.kept hs.kept); exact vv)) (fun (y27 : (Option Addr × Nat)) => [(16, .v (.slice y27.1 t24.length y27.2)), (15, .v (.slice a0_0 x0.length c0_0)), (0, .v (.slice a0_0 x0.length c0_0)), (1, .v (.int .i64 x1))]) (fun y27 => by kernel_rfl) (fun y27 => ?_)
    refine JO_stepsK 1 [17, 16, 0, 1] (sl' := [(17, .v (.int .i64 x1)), (16, .v (.slice y27.1 t24.length y27.2)), (0, .v (.slice a0_0 x0.length c0_0)), (1, .v (.int .i64 x1))]) (bx' := []) (by kernel_rfl) ?_
    obtain ⟨t28, h29, h30⟩ := bS h26
    refine JO_call rfl (by kernel_rfl) (f := 15) (args := #[.slice y27.1 t24.length y27.2, .int .i64 x1]) (by kernel_rfl) (fun γ w hs => (by have v0 := hs.view 0 rfl; have vv := c_spec_RaiseAll (W := w) h29 v0; exact vv)) (fun (y31 : (Option Addr × Nat)) => [(18, .v (.slice y31.1 t28.length y31.2)), (17, .v (.int .i64 x1)), (16, .v (.slice y27.1 t24.length y27.2)), (0, .v (.slice a0_0 x0.length c0_0)), (1, .v (.int .i64 x1))]) (fun y31 => by kernel_rfl) (fun y31 => ?_)
    refine JO_stepsK 1 [5, 0, 1] (sl' := [(5, .v (.slice y31.1 t28.length y31.2)), (0, .v (.slice a0_0 x0.length c0_0)), (1, .v (.int .i64 x1))]) (bx' := []) (by kernel_rfl) ?_
    refine JO_end (by kernel_rfl) ?_
    refine JE_then ?_
    refine JC_seq ?_
    refine JC_region ?_
    refine JO_stepsK 1 [19, 5, 0, 1] (sl' := [(19, .v (.slice a0_0 x0.length c0_0)), (5, .v (.slice y31.1 t28.length y31.2)), (0, .v (.slice a0_0 x0.length c0_0)), (1, .v (.int .i64 x1))]) (bx' := []) (by kernel_rfl) ?_
    obtain ⟨t32, h33, h34⟩ := bS h30
    refine JO_call rfl (by kernel_rfl) (f := 16) (args := #[.slice a0_0 x0.length c0_0]) (by kernel_rfl) (fun γ w hs => (by have vv := c_laws_toIntS (W := w) h33 (hv0_0.kept hs.kept); exact vv)) (fun (y35 : (Option Addr × Nat)) => [(20, .v (.slice y35.1 t32.length y35.2)), (19, .v (.slice a0_0 x0.length c0_0)), (5, .v (.slice y31.1 t28.length y31.2)), (0, .v (.slice a0_0 x0.length c0_0)), (1, .v (.int .i64 x1))]) (fun y35 => by kernel_rfl) (fun y35 => ?_)
    refine JO_stepsK 1 [6, 5, 0, 1] (sl' := [(6, .v (.slice y35.1 t32.length y35.2)), (5, .v (.slice y31.1 t28.length y31.2)), (0, .v (.slice a0_0 x0.length c0_0)), (1, .v (.int .i64 x1))]) (bx' := []) (by kernel_rfl) ?_
    refine JO_end (by kernel_rfl) ?_
    refine JE_then ?_
    refine JC_seq ?_
    refine JC_region ?_
    refine JO_stepsK 2 [22, 21, 6, 5, 0, 1] (sl' := [(22, .v (.int .i64 x1)), (21, .v (.slice y35.1 t32.length y35.2)), (6, .v (.slice y35.1 t32.length y35.2)), (5, .v (.slice y31.1 t28.length y31.2)), (0, .v (.slice a0_0 x0.length c0_0)), (1, .v (.int .i64 x1))]) (bx' := []) (by kernel_rfl) ?_
    obtain ⟨t36, h37, h38⟩ := bS h34
    refine JO_call rfl (by kernel_rfl) (f := 17) (args := #[.slice y35.1 t32.length y35.2, .int .i64 x1]) (by kernel_rfl) (fun γ w hs => (by have v0 := hs.view 0 rfl; have vv := c_impl_RaiseAll (W := w) h37 v0; exact vv)) (fun (y39 : (Option Addr × Nat)) => [(23, .v (.slice y39.1 t36.length y39.2)), (22, .v (.int .i64 x1)), (21, .v (.slice y35.1 t32.length y35.2)), (6, .v (.slice y35.1 t32.length y35.2)), (5, .v (.slice y31.1 t28.length y31.2)), (0, .v (.slice a0_0 x0.length c0_0)), (1, .v (.int .i64 x1))]) (fun y39 => by kernel_rfl) (fun y39 => ?_)
    refine JO_stepsK 1 [7, 6, 5, 0, 1] (sl' := [(7, .v (.slice y39.1 t36.length y39.2)), (6, .v (.slice y35.1 t32.length y35.2)), (5, .v (.slice y31.1 t28.length y31.2)), (0, .v (.slice a0_0 x0.length c0_0)), (1, .v (.int .i64 x1))]) (bx' := []) (by kernel_rfl) ?_
    refine JO_end (by kernel_rfl) ?_
    refine JE_then ?_
    refine JC_seq ?_
    refine JC_seq ?_
    refine JC_region ?_
    refine JO_stepsK 2 [25, 24, 7, 6, 5, 0, 1] (sl' := [(25, .v (.slice y31.1 t28.length y31.2)), (24, .v (.slice y39.1 t36.length y39.2)), (7, .v (.slice y39.1 t36.length y39.2)), (6, .v (.slice y35.1 t32.length y35.2)), (5, .v (.slice y31.1 t28.length y31.2)), (0, .v (.slice a0_0 x0.length c0_0)), (1, .v (.int .i64 x1))]) (bx' := []) (by kernel_rfl) ?_
    obtain ⟨t40, h41, h42⟩ := bS h38
    refine JO_call0 rfl (by kernel_rfl) (f := 18) (args := #[.slice y39.1 t36.length y39.2, .slice y31.1 t28.length y31.2]) (by kernel_rfl) (x := .bool t40) (fun γ w hs => (by have v0 := hs.view 0 rfl; have v1 := hs.view 2 rfl; have vv := c_laws_eqIntS (W := w) h41 v0 v1; exact vv)) (sl' := [(26, .v (.bool t40)), (25, .v (.slice y31.1 t28.length y31.2)), (24, .v (.slice y39.1 t36.length y39.2)), (7, .v (.slice y39.1 t36.length y39.2)), (6, .v (.slice y35.1 t32.length y35.2)), (5, .v (.slice y31.1 t28.length y31.2)), (0, .v (.slice a0_0 x0.length c0_0)), (1, .v (.int .i64 x1))]) (by kernel_rfl) ?_
    refine JO_stepsK 1 [27, 7, 6, 5, 0, 1] (sl' := [(27, .v (.bool (!t40))), (7, .v (.slice y39.1 t36.length y39.2)), (6, .v (.slice y35.1 t32.length y35.2)), (5, .v (.slice y31.1 t28.length y31.2)), (0, .v (.slice a0_0 x0.length c0_0)), (1, .v (.int .i64 x1))]) (bx' := []) (by kernel_rfl) ?_
    refine JO_end (by kernel_rfl) ?_
    refine JE_then ?_
    refine JC_cond (!t40) (by kernel_rfl) (fun b44 => ?_) (fun b44 => ?_)
    · have h45 := cT b44 h42
      refine JC_seq ?_
      refine JC_region ?_
      refine JO_stepsK 1 [4] (sl' := [(4, .v (.bool false))]) (bx' := []) (by kernel_rfl) ?_
      refine JO_end (by kernel_rfl) ?_
      refine JE_then ?_
      refine JC_ret ?_
      refine JE_then_ret ?_
      refine JE_ret (vs := [.bool false]) (by kernel_rfl) (fun γ w hs => ?_)
      rw [← sI h45]
      exact ⟨rfl, hs.kept.toBelow⟩
    · have h46 := cF b44 h42
      refine JC_skip ?_
      refine JE_then ?_
      refine JC_seq ?_
      refine JC_seq ?_
      refine JC_region ?_
      refine JO_stepsK 2 [29, 28, 7, 6, 5, 0, 1] (sl' := [(29, .v (.slice a0_0 x0.length c0_0)), (28, .v (.slice y35.1 t32.length y35.2)), (7, .v (.slice y39.1 t36.length y39.2)), (6, .v (.slice y35.1 t32.length y35.2)), (5, .v (.slice y31.1 t28.length y31.2)), (0, .v (.slice a0_0 x0.length c0_0)), (1, .v (.int .i64 x1))]) (bx' := []) (by kernel_rfl) ?_
      obtain ⟨t47, h48, h49⟩ := bS h46
      refine JO_call rfl (by kernel_rfl) (f := 16) (args := #[.slice a0_0 x0.length c0_0]) (by kernel_rfl) (fun γ w hs => (by have vv := c_laws_toIntS (W := w) h48 (hv0_0.kept hs.kept); exact vv)) (fun (y50 : (Option Addr × Nat)) => [(30, .v (.slice y50.1 t47.length y50.2)), (29, .v (.slice a0_0 x0.length c0_0)), (28, .v (.slice y35.1 t32.length y35.2)), (7, .v (.slice y39.1 t36.length y39.2)), (6, .v (.slice y35.1 t32.length y35.2)), (5, .v (.slice y31.1 t28.length y31.2)), (0, .v (.slice a0_0 x0.length c0_0)), (1, .v (.int .i64 x1))]) (fun y50 => by kernel_rfl) (fun y50 => ?_)
      obtain ⟨t51, h52, h53⟩ := bS h49
      refine JO_call0 rfl (by kernel_rfl) (f := 18) (args := #[.slice y35.1 t32.length y35.2, .slice y50.1 t47.length y50.2]) (by kernel_rfl) (x := .bool t51) (fun γ w hs => (by have v0 := hs.view 2 rfl; have v1 := hs.view 0 rfl; have vv := c_laws_eqIntS (W := w) h52 v0 v1; exact vv)) (sl' := [(31, .v (.bool t51)), (30, .v (.slice y50.1 t47.length y50.2)), (29, .v (.slice a0_0 x0.length c0_0)), (28, .v (.slice y35.1 t32.length y35.2)), (7, .v (.slice y39.1 t36.length y39.2)), (6, .v (.slice y35.1 t32.length y35.2)), (5, .v (.slice y31.1 t28.length y31.2)), (0, .v (.slice a0_0 x0.length c0_0)), (1, .v (.int .i64 x1))]) (by kernel_rfl) ?_
      refine JO_stepsK 1 [32, 7, 6, 5, 0, 1] (sl' := [(32, .v (.bool (!t51))), (7, .v (.slice y39.1 t36.length y39.2)), (6, .v (.slice y35.1 t32.length y35.2)), (5, .v (.slice y31.1 t28.length y31.2)), (0, .v (.slice a0_0 x0.length c0_0)), (1, .v (.int .i64 x1))]) (bx' := []) (by kernel_rfl) ?_
      refine JO_end (by kernel_rfl) ?_
      refine JE_then ?_
      refine JC_cond (!t51) (by kernel_rfl) (fun b55 => ?_) (fun b55 => ?_)
      · have h56 := cT b55 h53
        refine JC_seq ?_
        refine JC_region ?_
        refine JO_stepsK 1 [4] (sl' := [(4, .v (.bool false))]) (bx' := []) (by kernel_rfl) ?_
        refine JO_end (by kernel_rfl) ?_
        refine JE_then ?_
        refine JC_ret ?_
        refine JE_then_ret ?_
        refine JE_ret (vs := [.bool false]) (by kernel_rfl) (fun γ w hs => ?_)
        rw [← sI h56]
        exact ⟨rfl, hs.kept.toBelow⟩
      · have h57 := cF b55 h53
        refine JC_skip ?_
        refine JE_then ?_
        refine JC_seq ?_
        refine JC_region ?_
        refine JO_stepsK 1 [8, 7, 6, 5, 0, 1] (sl' := [(8, .v (.int .i64 1)), (7, .v (.slice y39.1 t36.length y39.2)), (6, .v (.slice y35.1 t32.length y35.2)), (5, .v (.slice y31.1 t28.length y31.2)), (0, .v (.slice a0_0 x0.length c0_0)), (1, .v (.int .i64 x1))]) (bx' := []) (by kernel_rfl) ?_
        refine JO_end (by kernel_rfl) ?_
        refine JE_then ?_
        refine JC_seq ?_
        refine JC_region ?_
        refine JO_stepsK 2 [34, 33, 7, 5, 0, 1] (sl' := [(34, .v (.int .i64 1)), (33, .v (.slice y35.1 t32.length y35.2)), (7, .v (.slice y39.1 t36.length y39.2)), (5, .v (.slice y31.1 t28.length y31.2)), (0, .v (.slice a0_0 x0.length c0_0)), (1, .v (.int .i64 x1))]) (bx' := []) (by kernel_rfl) ?_
        refine JO_res (R' := [SlRes 3 t32 y35.1 y35.2, SlRes 3 t47 y50.1 y50.2, SlRes 3 t36 y39.1 y39.2, SlRes 3 t28 y31.1 y31.2, SlRes 3 t24 y27.1 y27.2]) [2, 0, 0, 0, 0] (by kernel_rfl) ?_
        obtain ⟨t58, h59, h60⟩ := bS h57
        obtain ⟨u62, hu63, h64⟩ := bS h60
        have hl65 := (sameLen_some hu63).symm
        refine JO_callM rfl (by kernel_rfl) (f := 19) (args := #[.slice y35.1 t32.length y35.2, .int .i64 1]) (by kernel_rfl) (x := .int .i64 t58.1) (Rin := [SlRes 3 t32 y35.1 y35.2]) (Rout := [SlRes 3 t58.2 y35.1 y35.2]) (Rr := [SlRes 3 t47 y50.1 y50.2, SlRes 3 t36 y39.1 y39.2, SlRes 3 t28 y31.1 y31.2, SlRes 3 t24 y27.1 y27.2]) rfl (fun w => (by have vv := c_laws_markIntS (e0_0 := 3) (a0_0 := y35.1) (c0_0 := y35.2) (W := w) h59; exact vv)) (sl' := [(35, .v (.int .i64 t58.1)), (34, .v (.int .i64 1)), (33, .v (.slice y35.1 t32.length y35.2)), (7, .v (.slice y39.1 t36.length y39.2)), (5, .v (.slice y31.1 t28.length y31.2)), (0, .v (.slice a0_0 x0.length c0_0)), (1, .v (.int .i64 x1))]) (by kernel_rfl) ?_
        refine JO_eqE (sl' := [(35, .v (.int .i64 t58.1)), (34, .v (.int .i64 1)), (33, .v (.slice y35.1 t58.2.length y35.2)), (7, .v (.slice y39.1 t36.length y39.2)), (5, .v (.slice y31.1 t28.length y31.2)), (0, .v (.slice a0_0 x0.length c0_0)), (1, .v (.int .i64 x1))]) (bx' := []) (by simp only [hl65]) rfl ?_
        refine JO_stepsK 1 [8, 7, 5, 0, 1] (sl' := [(8, .v (.int .i64 t58.1)), (7, .v (.slice y39.1 t36.length y39.2)), (5, .v (.slice y31.1 t28.length y31.2)), (0, .v (.slice a0_0 x0.length c0_0)), (1, .v (.int .i64 x1))]) (bx' := []) (by kernel_rfl) ?_
        refine JO_end (by kernel_rfl) ?_
        refine JE_then ?_
        refine JC_seq ?_
        refine JC_seq ?_
        obtain ⟨p66, hE67, h68⟩ := bS h64
        refine JC_cut (τ := Unit) (fun _ => [(0, .v (.slice a0_0 x0.length c0_0)), (1, .v (.int .i64 x1)), (5, .v (.slice y31.1 t28.length y31.2)), (7, .v (.slice y39.1 t36.length y39.2)), (43, .v (.bool p66))]) (fun _ => []) (fun _ => [SlRes 3 t28 y31.1 y31.2, SlRes 3 t36 y39.1 y39.2]) ?_ (fun _ => ?_)
        · refine JC_region ?_
          refine JO_stepsK 3 [38, 7, 5, 0, 1] (sl' := [(38, .v (.bool (decide (t58.1 < 0)))), (7, .v (.slice y39.1 t36.length y39.2)), (5, .v (.slice y31.1 t28.length y31.2)), (0, .v (.slice a0_0 x0.length c0_0)), (1, .v (.int .i64 x1))]) (bx' := []) (by kernel_rfl) ?_
          refine JO_split 38 (decide (t58.1 < 0)) (by kernel_rfl) (fun b69 => ?_) (fun b69 => ?_)
          · have h70 := cT b69 hE67
            refine JO_stepsK 5 [43, 7, 5, 0, 1] (sl' := [(43, .v (.bool true)), (7, .v (.slice y39.1 t36.length y39.2)), (5, .v (.slice y31.1 t28.length y31.2)), (0, .v (.slice a0_0 x0.length c0_0)), (1, .v (.int .i64 x1))]) (bx' := []) (by kernel_rfl) ?_
            refine JO_end (by kernel_rfl) ?_
            obtain rfl := sI h70
            exact JE_meet () [0, 1, 5, 7, 43] [3, 2] 0 (by kernel_rfl) (by kernel_rfl) (by kernel_rfl) (by kernel_rfl)
          · have h71 := cF b69 hE67
            refine JO_stepsK 2 [40, 39, 38, 7, 5, 0, 1] (sl' := [(40, .v (.slice y31.1 t28.length y31.2)), (39, .v (.slice y39.1 t36.length y39.2)), (38, .v (.bool false)), (7, .v (.slice y39.1 t36.length y39.2)), (5, .v (.slice y31.1 t28.length y31.2)), (0, .v (.slice a0_0 x0.length c0_0)), (1, .v (.int .i64 x1))]) (bx' := []) (by kernel_rfl) ?_
            obtain ⟨t72, h73, h74⟩ := bS h71
            refine JO_call0 rfl (by kernel_rfl) (f := 18) (args := #[.slice y39.1 t36.length y39.2, .slice y31.1 t28.length y31.2]) (by kernel_rfl) (x := .bool t72) (fun γ w hs => (by have v0 := hs.view 2 rfl; have v1 := hs.view 3 rfl; have vv := c_laws_eqIntS (W := w) h73 v0 v1; exact vv)) (sl' := [(41, .v (.bool t72)), (40, .v (.slice y31.1 t28.length y31.2)), (39, .v (.slice y39.1 t36.length y39.2)), (38, .v (.bool false)), (7, .v (.slice y39.1 t36.length y39.2)), (5, .v (.slice y31.1 t28.length y31.2)), (0, .v (.slice a0_0 x0.length c0_0)), (1, .v (.int .i64 x1))]) (by kernel_rfl) ?_
            refine JO_stepsK 2 [43, 7, 5, 0, 1] (sl' := [(43, .v (.bool (!t72))), (7, .v (.slice y39.1 t36.length y39.2)), (5, .v (.slice y31.1 t28.length y31.2)), (0, .v (.slice a0_0 x0.length c0_0)), (1, .v (.int .i64 x1))]) (bx' := []) (by kernel_rfl) ?_
            refine JO_end (by kernel_rfl) ?_
            obtain rfl := sI h74
            exact JE_meet () [0, 1, 5, 7, 43] [3, 2] 0 (by kernel_rfl) (by kernel_rfl) (by kernel_rfl) (by kernel_rfl)
        · skip
          refine JE_then ?_
          refine JC_cond p66 (by kernel_rfl) (fun b76 => ?_) (fun b76 => ?_)
          · have h77 := cT b76 h68
            refine JC_seq ?_
            refine JC_region ?_
            refine JO_stepsK 1 [4] (sl' := [(4, .v (.bool false))]) (bx' := []) (by kernel_rfl) ?_
            refine JO_end (by kernel_rfl) ?_
            refine JE_then ?_
            refine JC_ret ?_
            refine JE_then_ret ?_
            refine JE_ret (vs := [.bool false]) (by kernel_rfl) (fun γ w hs => ?_)
            rw [← sI h77]
            exact ⟨rfl, hs.kept.toBelow⟩
          · have h78 := cF b76 h68
            refine JC_skip ?_
            refine JE_then ?_
            refine JC_seq ?_
            refine JC_region ?_
            refine JO_stepsK 1 [9, 0, 1, 5, 7] (sl' := [(9, .v (.int .i64 1)), (0, .v (.slice a0_0 x0.length c0_0)), (1, .v (.int .i64 x1)), (5, .v (.slice y31.1 t28.length y31.2)), (7, .v (.slice y39.1 t36.length y39.2))]) (bx' := []) (by kernel_rfl) ?_
            refine JO_end (by kernel_rfl) ?_
            refine JE_then ?_
            refine JC_seq ?_
            refine JC_region ?_
            refine JO_stepsK 2 [45, 44, 0, 1, 5, 7] (sl' := [(45, .v (.int .i64 1)), (44, .v (.slice y39.1 t36.length y39.2)), (0, .v (.slice a0_0 x0.length c0_0)), (1, .v (.int .i64 x1)), (5, .v (.slice y31.1 t28.length y31.2)), (7, .v (.slice y39.1 t36.length y39.2))]) (bx' := []) (by kernel_rfl) ?_
            refine JO_res (R' := [SlRes 3 t36 y39.1 y39.2, SlRes 3 t28 y31.1 y31.2]) [1, 0] (by kernel_rfl) ?_
            obtain ⟨t79, h80, h81⟩ := bS h78
            obtain ⟨u83, hu84, h85⟩ := bS h81
            have hl86 := (sameLen_some hu84).symm
            refine JO_callM rfl (by kernel_rfl) (f := 19) (args := #[.slice y39.1 t36.length y39.2, .int .i64 1]) (by kernel_rfl) (x := .int .i64 t79.1) (Rin := [SlRes 3 t36 y39.1 y39.2]) (Rout := [SlRes 3 t79.2 y39.1 y39.2]) (Rr := [SlRes 3 t28 y31.1 y31.2]) rfl (fun w => (by have vv := c_laws_markIntS (e0_0 := 3) (a0_0 := y39.1) (c0_0 := y39.2) (W := w) h80; exact vv)) (sl' := [(46, .v (.int .i64 t79.1)), (45, .v (.int .i64 1)), (44, .v (.slice y39.1 t36.length y39.2)), (0, .v (.slice a0_0 x0.length c0_0)), (1, .v (.int .i64 x1)), (5, .v (.slice y31.1 t28.length y31.2)), (7, .v (.slice y39.1 t36.length y39.2))]) (by kernel_rfl) ?_
            refine JO_eqE (sl' := [(46, .v (.int .i64 t79.1)), (45, .v (.int .i64 1)), (44, .v (.slice y39.1 t79.2.length y39.2)), (0, .v (.slice a0_0 x0.length c0_0)), (1, .v (.int .i64 x1)), (5, .v (.slice y31.1 t28.length y31.2)), (7, .v (.slice y39.1 t79.2.length y39.2))]) (bx' := []) (by simp only [hl86]) rfl ?_
            refine JO_stepsK 1 [9, 0, 1, 5, 7] (sl' := [(9, .v (.int .i64 t79.1)), (0, .v (.slice a0_0 x0.length c0_0)), (1, .v (.int .i64 x1)), (5, .v (.slice y31.1 t28.length y31.2)), (7, .v (.slice y39.1 t79.2.length y39.2))]) (bx' := []) (by kernel_rfl) ?_
            refine JO_end (by kernel_rfl) ?_
            refine JE_then ?_
            refine JC_seq ?_
            refine JC_region ?_
            refine JO_stepsK 1 [10, 9, 0, 1, 5, 7] (sl' := [(10, .v (.int .i64 1)), (9, .v (.int .i64 t79.1)), (0, .v (.slice a0_0 x0.length c0_0)), (1, .v (.int .i64 x1)), (5, .v (.slice y31.1 t28.length y31.2)), (7, .v (.slice y39.1 t79.2.length y39.2))]) (bx' := []) (by kernel_rfl) ?_
            refine JO_end (by kernel_rfl) ?_
            refine JE_then ?_
            refine JC_seq ?_
            refine JC_region ?_
            refine JO_stepsK 2 [48, 47, 9, 0, 1, 5, 7] (sl' := [(48, .v (.int .i64 1)), (47, .v (.slice y39.1 t79.2.length y39.2)), (9, .v (.int .i64 t79.1)), (0, .v (.slice a0_0 x0.length c0_0)), (1, .v (.int .i64 x1)), (5, .v (.slice y31.1 t28.length y31.2)), (7, .v (.slice y39.1 t79.2.length y39.2))]) (bx' := []) (by kernel_rfl) ?_
            obtain ⟨t87, h88, h89⟩ := bS h85
            refine JO_call0 rfl (by kernel_rfl) (f := 20) (args := #[.slice y39.1 t79.2.length y39.2, .int .i64 1]) (by kernel_rfl) (x := .int .i64 t87) (fun γ w hs => (by have v0 := hs.view 0 rfl; have vv := c_laws_heldIntS (W := w) h88 v0; exact vv)) (sl' := [(49, .v (.int .i64 t87)), (48, .v (.int .i64 1)), (47, .v (.slice y39.1 t79.2.length y39.2)), (9, .v (.int .i64 t79.1)), (0, .v (.slice a0_0 x0.length c0_0)), (1, .v (.int .i64 x1)), (5, .v (.slice y31.1 t28.length y31.2)), (7, .v (.slice y39.1 t79.2.length y39.2))]) (by kernel_rfl) ?_
            refine JO_stepsK 1 [10, 9, 0, 1, 5, 7] (sl' := [(10, .v (.int .i64 t87)), (9, .v (.int .i64 t79.1)), (0, .v (.slice a0_0 x0.length c0_0)), (1, .v (.int .i64 x1)), (5, .v (.slice y31.1 t28.length y31.2)), (7, .v (.slice y39.1 t79.2.length y39.2))]) (bx' := []) (by kernel_rfl) ?_
            refine JO_end (by kernel_rfl) ?_
            refine JE_then ?_
            refine JC_seq ?_
            refine JC_seq ?_
            refine JC_region ?_
            refine JO_stepsK 2 [51, 10, 9, 0, 1, 5, 7] (sl' := [(51, .v (.bool (decide (t87 < 0)))), (10, .v (.int .i64 t87)), (9, .v (.int .i64 t79.1)), (0, .v (.slice a0_0 x0.length c0_0)), (1, .v (.int .i64 x1)), (5, .v (.slice y31.1 t28.length y31.2)), (7, .v (.slice y39.1 t79.2.length y39.2))]) (bx' := []) (by kernel_rfl) ?_
            refine JO_end (by kernel_rfl) ?_
            refine JE_then ?_
            refine JC_cond (decide (t87 < 0)) (by kernel_rfl) (fun b91 => ?_) (fun b91 => ?_)
            · have h92 := cT b91 h89
              refine JC_seq ?_
              refine JC_region ?_
              refine JO_stepsK 1 [4] (sl' := [(4, .v (.bool false))]) (bx' := []) (by kernel_rfl) ?_
              refine JO_end (by kernel_rfl) ?_
              refine JE_then ?_
              refine JC_ret ?_
              refine JE_then_ret ?_
              refine JE_ret (vs := [.bool false]) (by kernel_rfl) (fun γ w hs => ?_)
              rw [← sI h92]
              exact ⟨rfl, hs.kept.toBelow⟩
            · have h93 := cF b91 h89
              refine JC_skip ?_
              refine JE_then ?_
              refine JC_seq ?_
              refine JC_seq ?_
              refine JC_region ?_
              refine JO_stepsK 3 [54, 9, 0, 1, 5, 7] (sl' := [(54, .v (.bool (t87 != t79.1))), (9, .v (.int .i64 t79.1)), (0, .v (.slice a0_0 x0.length c0_0)), (1, .v (.int .i64 x1)), (5, .v (.slice y31.1 t28.length y31.2)), (7, .v (.slice y39.1 t79.2.length y39.2))]) (bx' := []) (by kernel_rfl) ?_
              refine JO_end (by kernel_rfl) ?_
              refine JE_then ?_
              refine JC_cond (t87 != t79.1) (by kernel_rfl) (fun b94 => ?_) (fun b94 => ?_)
              · have h95 := cT b94 h93
                refine JC_seq ?_
                refine JC_region ?_
                refine JO_stepsK 1 [4] (sl' := [(4, .v (.bool false))]) (bx' := []) (by kernel_rfl) ?_
                refine JO_end (by kernel_rfl) ?_
                refine JE_then ?_
                refine JC_ret ?_
                refine JE_then_ret ?_
                refine JE_ret (vs := [.bool false]) (by kernel_rfl) (fun γ w hs => ?_)
                rw [← sI h95]
                exact ⟨rfl, hs.kept.toBelow⟩
              · have h96 := cF b94 h93
                refine JC_skip ?_
                refine JE_then ?_
                refine JC_seq ?_
                refine JC_region ?_
                refine JO_stepsK 1 [55, 9, 1, 5, 7] (sl' := [(55, .v (.slice a0_0 x0.length c0_0)), (9, .v (.int .i64 t79.1)), (1, .v (.int .i64 x1)), (5, .v (.slice y31.1 t28.length y31.2)), (7, .v (.slice y39.1 t79.2.length y39.2))]) (bx' := []) (by kernel_rfl) ?_
                obtain ⟨t97, h98, h99⟩ := bS h96
                refine JO_call rfl (by kernel_rfl) (f := 16) (args := #[.slice a0_0 x0.length c0_0]) (by kernel_rfl) (fun γ w hs => (by have vv := c_laws_toIntS (W := w) h98 (hv0_0.kept hs.kept); exact vv)) (fun (y100 : (Option Addr × Nat)) => [(56, .v (.slice y100.1 t97.length y100.2)), (55, .v (.slice a0_0 x0.length c0_0)), (9, .v (.int .i64 t79.1)), (1, .v (.int .i64 x1)), (5, .v (.slice y31.1 t28.length y31.2)), (7, .v (.slice y39.1 t79.2.length y39.2))]) (fun y100 => by kernel_rfl) (fun y100 => ?_)
                refine JO_stepsK 1 [57, 56, 9, 5, 7] (sl' := [(57, .v (.int .i64 x1)), (56, .v (.slice y100.1 t97.length y100.2)), (9, .v (.int .i64 t79.1)), (5, .v (.slice y31.1 t28.length y31.2)), (7, .v (.slice y39.1 t79.2.length y39.2))]) (bx' := []) (by kernel_rfl) ?_
                obtain ⟨t101, h102, h103⟩ := bS h99
                refine JO_call rfl (by kernel_rfl) (f := 17) (args := #[.slice y100.1 t97.length y100.2, .int .i64 x1]) (by kernel_rfl) (fun γ w hs => (by have v0 := hs.view 0 rfl; have vv := c_impl_RaiseAll (W := w) h102 v0; exact vv)) (fun (y104 : (Option Addr × Nat)) => [(58, .v (.slice y104.1 t101.length y104.2)), (57, .v (.int .i64 x1)), (56, .v (.slice y100.1 t97.length y100.2)), (9, .v (.int .i64 t79.1)), (5, .v (.slice y31.1 t28.length y31.2)), (7, .v (.slice y39.1 t79.2.length y39.2))]) (fun y104 => by kernel_rfl) (fun y104 => ?_)
                refine JO_stepsK 1 [11, 9, 5, 7] (sl' := [(11, .v (.slice y104.1 t101.length y104.2)), (9, .v (.int .i64 t79.1)), (5, .v (.slice y31.1 t28.length y31.2)), (7, .v (.slice y39.1 t79.2.length y39.2))]) (bx' := []) (by kernel_rfl) ?_
                refine JO_end (by kernel_rfl) ?_
                refine JE_then ?_
                refine JC_seq ?_
                refine JC_seq ?_
                refine JC_region ?_
                refine JO_stepsK 2 [60, 59, 9, 7] (sl' := [(60, .v (.slice y31.1 t28.length y31.2)), (59, .v (.slice y104.1 t101.length y104.2)), (9, .v (.int .i64 t79.1)), (7, .v (.slice y39.1 t79.2.length y39.2))]) (bx' := []) (by kernel_rfl) ?_
                obtain ⟨t105, h106, h107⟩ := bS h103
                refine JO_call0 rfl (by kernel_rfl) (f := 18) (args := #[.slice y104.1 t101.length y104.2, .slice y31.1 t28.length y31.2]) (by kernel_rfl) (x := .bool t105) (fun γ w hs => (by have v0 := hs.view 0 rfl; have v1 := hs.view 3 rfl; have vv := c_laws_eqIntS (W := w) h106 v0 v1; exact vv)) (sl' := [(61, .v (.bool t105)), (60, .v (.slice y31.1 t28.length y31.2)), (59, .v (.slice y104.1 t101.length y104.2)), (9, .v (.int .i64 t79.1)), (7, .v (.slice y39.1 t79.2.length y39.2))]) (by kernel_rfl) ?_
                refine JO_stepsK 1 [62, 9, 7] (sl' := [(62, .v (.bool (!t105))), (9, .v (.int .i64 t79.1)), (7, .v (.slice y39.1 t79.2.length y39.2))]) (bx' := []) (by kernel_rfl) ?_
                refine JO_end (by kernel_rfl) ?_
                refine JE_then ?_
                refine JC_cond (!t105) (by kernel_rfl) (fun b109 => ?_) (fun b109 => ?_)
                · have h110 := cT b109 h107
                  refine JC_seq ?_
                  refine JC_region ?_
                  refine JO_stepsK 1 [4] (sl' := [(4, .v (.bool false))]) (bx' := []) (by kernel_rfl) ?_
                  refine JO_end (by kernel_rfl) ?_
                  refine JE_then ?_
                  refine JC_ret ?_
                  refine JE_then_ret ?_
                  refine JE_ret (vs := [.bool false]) (by kernel_rfl) (fun γ w hs => ?_)
                  rw [← sI h110]
                  exact ⟨rfl, hs.kept.toBelow⟩
                · have h111 := cF b109 h107
                  refine JC_skip ?_
                  refine JE_then ?_
                  refine JC_seq ?_
                  refine JC_region ?_
                  refine JO_stepsK 1 [10, 9, 7] (sl' := [(10, .v (.int .i64 1)), (9, .v (.int .i64 t79.1)), (7, .v (.slice y39.1 t79.2.length y39.2))]) (bx' := []) (by kernel_rfl) ?_
                  refine JO_end (by kernel_rfl) ?_
                  refine JE_then ?_
                  refine JC_seq ?_
                  refine JC_region ?_
                  refine JO_stepsK 2 [64, 63, 9] (sl' := [(64, .v (.int .i64 1)), (63, .v (.slice y39.1 t79.2.length y39.2)), (9, .v (.int .i64 t79.1))]) (bx' := []) (by kernel_rfl) ?_
                  obtain ⟨t112, h113, h114⟩ := bS h111
                  refine JO_call0 rfl (by kernel_rfl) (f := 20) (args := #[.slice y39.1 t79.2.length y39.2, .int .i64 1]) (by kernel_rfl) (x := .int .i64 t112) (fun γ w hs => (by have v0 := hs.view 2 rfl; have vv := c_laws_heldIntS (W := w) h113 v0; exact vv)) (sl' := [(65, .v (.int .i64 t112)), (64, .v (.int .i64 1)), (63, .v (.slice y39.1 t79.2.length y39.2)), (9, .v (.int .i64 t79.1))]) (by kernel_rfl) ?_
                  refine JO_stepsK 1 [10, 9] (sl' := [(10, .v (.int .i64 t112)), (9, .v (.int .i64 t79.1))]) (bx' := []) (by kernel_rfl) ?_
                  refine JO_end (by kernel_rfl) ?_
                  refine JE_then ?_
                  refine JC_seq ?_
                  refine JC_seq ?_
                  refine JC_region ?_
                  refine JO_stepsK 2 [67, 10, 9] (sl' := [(67, .v (.bool (decide (t112 < 0)))), (10, .v (.int .i64 t112)), (9, .v (.int .i64 t79.1))]) (bx' := []) (by kernel_rfl) ?_
                  refine JO_end (by kernel_rfl) ?_
                  refine JE_then ?_
                  refine JC_cond (decide (t112 < 0)) (by kernel_rfl) (fun b116 => ?_) (fun b116 => ?_)
                  · have h117 := cT b116 h114
                    refine JC_seq ?_
                    refine JC_region ?_
                    refine JO_stepsK 1 [4] (sl' := [(4, .v (.bool false))]) (bx' := []) (by kernel_rfl) ?_
                    refine JO_end (by kernel_rfl) ?_
                    refine JE_then ?_
                    refine JC_ret ?_
                    refine JE_then_ret ?_
                    refine JE_ret (vs := [.bool false]) (by kernel_rfl) (fun γ w hs => ?_)
                    rw [← sI h117]
                    exact ⟨rfl, hs.kept.toBelow⟩
                  · have h118 := cF b116 h114
                    refine JC_skip ?_
                    refine JE_then ?_
                    refine JC_seq ?_
                    refine JC_seq ?_
                    refine JC_region ?_
                    refine JO_stepsK 3 [70] (sl' := [(70, .v (.bool (t112 != t79.1)))]) (bx' := []) (by kernel_rfl) ?_
                    refine JO_end (by kernel_rfl) ?_
                    refine JE_then ?_
                    refine JC_cond (t112 != t79.1) (by kernel_rfl) (fun b119 => ?_) (fun b119 => ?_)
                    · have h120 := cT b119 h118
                      refine JC_seq ?_
                      refine JC_region ?_
                      refine JO_stepsK 1 [4] (sl' := [(4, .v (.bool false))]) (bx' := []) (by kernel_rfl) ?_
                      refine JO_end (by kernel_rfl) ?_
                      refine JE_then ?_
                      refine JC_ret ?_
                      refine JE_then_ret ?_
                      refine JE_ret (vs := [.bool false]) (by kernel_rfl) (fun γ w hs => ?_)
                      rw [← sI h120]
                      exact ⟨rfl, hs.kept.toBelow⟩
                    · have h121 := cF b119 h118
                      refine JC_skip ?_
                      refine JE_then ?_
                      refine JC_seq ?_
                      refine JC_region ?_
                      refine JO_stepsK 1 [4] (sl' := [(4, .v (.bool true))]) (bx' := []) (by kernel_rfl) ?_
                      refine JO_end (by kernel_rfl) ?_
                      refine JE_then ?_
                      refine JC_ret ?_
                      refine JE_ret (vs := [.bool true]) (by kernel_rfl) (fun γ w hs => ?_)
                      rw [← sI h121]
                      exact ⟨rfl, hs.kept.toBelow⟩

theorem c_laws_szBandS {W : World} {x0 : List Band} {a0_0 : Option Addr} {c0_0 : Nat} {x1 : Int} {r : Int} (h : laws_szBandS x0 x1 = some r) (hv0_0 : SlView W x0 a0_0 c0_0) :
    Gives0 Try.prog 34 #[.slice a0_0 x0.length c0_0, .int .i64 x1] W (.int .i64 r) := by
  unfold laws_szBandS at h
  refine enter (args := [.slice a0_0 x0.length c0_0, .int .i64 x1]) Try.func34 rfl Try.ntmps34 (by kernel_rfl) ?_
  refine JC_seq ?_
  refine JC_region ?_
  refine JO_stepsK 1 [0, 1] (sl' := [(0, .v (.slice a0_0 x0.length c0_0)), (1, .v (.int .i64 x1))]) (bx' := []) (by kernel_rfl) ?_
  refine JO_end (by kernel_rfl) ?_
  refine JE_then ?_
  refine JC_seq ?_
  refine JC_region ?_
  refine JO_stepsK 5 [1] (sl' := [(1, .v (.int .i64 (w64 (x1 - (x0.length : Int)))))]) (bx' := []) (by kernel_rfl) ?_
  refine JO_end (by kernel_rfl) ?_
  refine JE_then ?_
  refine JC_seq ?_
  refine JC_seq ?_
  refine JC_region ?_
  refine JO_stepsK 2 [10, 1] (sl' := [(10, .v (.bool (decide ((w64 (x1 - (x0.length : Int))) < 0)))), (1, .v (.int .i64 (w64 (x1 - (x0.length : Int)))))]) (bx' := []) (by kernel_rfl) ?_
  refine JO_end (by kernel_rfl) ?_
  refine JE_then ?_
  refine JC_cond (decide ((w64 (x1 - (x0.length : Int))) < 0)) (by kernel_rfl) (fun b21 => ?_) (fun b21 => ?_)
  · have h22 := cT b21 h
    refine JC_seq ?_
    refine JC_region ?_
    refine JO_stepsK 1 [4] (sl' := [(4, .v (.int .i64 (-1)))]) (bx' := []) (by kernel_rfl) ?_
    refine JO_end (by kernel_rfl) ?_
    refine JE_then ?_
    refine JC_ret ?_
    refine JE_then_ret ?_
    refine JE_ret (vs := [.int .i64 (-1)]) (by kernel_rfl) (fun γ w hs => ?_)
    rw [← sI h22]
    exact ⟨rfl, hs.kept.toBelow⟩
  · have h23 := cF b21 h
    refine JC_skip ?_
    refine JE_then ?_
    refine JC_seq ?_
    refine JC_region ?_
    refine JO_stepsK 2 [4] (sl' := [(4, .v (.int .i64 (w64 (x1 - (x0.length : Int)))))]) (bx' := []) (by kernel_rfl) ?_
    refine JO_end (by kernel_rfl) ?_
    refine JE_then ?_
    refine JC_ret ?_
    refine JE_ret (vs := [.int .i64 (w64 (x1 - (x0.length : Int)))]) (by kernel_rfl) (fun γ w hs => ?_)
    rw [← sI h23]
    exact ⟨rfl, hs.kept.toBelow⟩

theorem c_laws_toBand {W : World} {x0 : Band} {r : Band} (h : laws_toBand x0 = some r)  :
    Gives0 Try.prog 75 #[.agg #[.int .i64 x0.Low, .int .i64 x0.High]] W (.agg #[.int .i64 r.Low, .int .i64 r.High]) := by
  unfold laws_toBand at h
  refine enter (args := [.agg #[.int .i64 x0.Low, .int .i64 x0.High]]) Try.func75 rfl Try.ntmps75 (by kernel_rfl) ?_
  refine JC_seq ?_
  refine JC_region ?_
  refine JO_stepsK 2 [2, 1] (sl' := [(2, .p 1 0), (1, .p 0 0)]) (bx' := [(108, [.int .i64 x0.Low, .int .i64 x0.High]), (34, [.int .i64 0, .int .i64 0])]) (by kernel_rfl) ?_
  refine JO_end (by kernel_rfl) ?_
  refine JE_then ?_
  refine JC_seq ?_
  refine JC_region ?_
  refine JO_stepsK 1 [3, 2, 1] (sl' := [(3, .p 2 0), (2, .p 1 0), (1, .p 0 0)]) (bx' := [(108, [.int .i64 x0.Low, .int .i64 x0.High]), (34, [.int .i64 0, .int .i64 0]), (34, [.int .i64 0, .int .i64 0])]) (by kernel_rfl) ?_
  refine JO_end (by kernel_rfl) ?_
  refine JE_then ?_
  refine JC_seq ?_
  refine JC_region ?_
  refine JO_stepsK 4 [3, 2, 1] (sl' := [(3, .p 2 0), (2, .p 1 0), (1, .p 0 0)]) (bx' := [(108, [.int .i64 x0.Low, .int .i64 x0.High]), (34, [.int .i64 0, .int .i64 0]), (34, [.int .i64 x0.Low, .int .i64 0])]) (by kernel_rfl) ?_
  refine JO_end (by kernel_rfl) ?_
  refine JE_then ?_
  refine JC_seq ?_
  refine JC_region ?_
  refine JO_stepsK 4 [3, 2] (sl' := [(3, .p 2 0), (2, .p 1 0)]) (bx' := [(108, [.int .i64 x0.Low, .int .i64 x0.High]), (34, [.int .i64 0, .int .i64 0]), (34, [.int .i64 x0.Low, .int .i64 x0.High])]) (by kernel_rfl) ?_
  refine JO_end (by kernel_rfl) ?_
  refine JE_then ?_
  refine JC_seq ?_
  refine JC_region ?_
  refine JO_stepsK 2 [2] (sl' := [(2, .p 1 0)]) (bx' := [(108, [.int .i64 x0.Low, .int .i64 x0.High]), (34, [.int .i64 x0.Low, .int .i64 x0.High]), (34, [.int .i64 x0.Low, .int .i64 x0.High])]) (by kernel_rfl) ?_
  refine JO_end (by kernel_rfl) ?_
  refine JE_then ?_
  refine JC_ret ?_
  refine JE_ret (vs := [.agg #[.int .i64 x0.Low, .int .i64 x0.High]]) (by kernel_rfl) (fun γ w hs => ?_)
  rw [← sI h]
  exact ⟨rfl, hs.kept.toBelow⟩

theorem c_laws_toBandS {W : World} {x0 : List Band} {a0_0 : Option Addr} {c0_0 : Nat} {r : (List Band)} (h : laws_toBandS x0 = some r) (hv0_0 : SlView W x0 a0_0 c0_0) :
    Gives Try.prog 36 #[.slice a0_0 x0.length c0_0] W (fun y : (Option Addr × Nat) => .slice y.1 r.length y.2) (fun y => [SlRes 34 r y.1 y.2]) := by
  unfold laws_toBandS at h
  refine enter (args := [.slice a0_0 x0.length c0_0]) Try.func36 rfl Try.ntmps36 (by kernel_rfl) ?_
  refine JC_seq ?_
  refine JC_region ?_
  refine JO_stepsK 1 [0] (sl' := [(0, .v (.slice a0_0 x0.length c0_0))]) (bx' := []) (by kernel_rfl) ?_
  refine JO_end (by kernel_rfl) ?_
  refine JE_then ?_
  refine JC_seq ?_
  refine JC_region ?_
  refine JO_stepsK 2 [6, 0] (sl' := [(6, .v (.int .i64 (x0.length : Int))), (0, .v (.slice a0_0 x0.length c0_0))]) (bx' := []) (by kernel_rfl) ?_
  obtain ⟨l22, hm23, h24⟩ := bS h
  refine JO_make (α := Band) rfl (by kernel_rfl) (t := 32) (e := 34) (m := (x0.length : Int)) (by kernel_rfl) (i := Try.t34) (by kernel_rfl) (z := (.agg #[.int .i64 0, .int .i64 0])) (by kernel_rfl) (by kernel_rfl) (by kernel_rfl) (by kernel_rfl) (fun w => ⟨rfl, rfl⟩) hm23 (fun y21 => [(7, .v (.slice y21.1 l22.length y21.2)), (6, .v (.int .i64 (x0.length : Int))), (0, .v (.slice a0_0 x0.length c0_0))]) (fun y21 => by kernel_rfl) (fun y21 => ?_)
  refine JO_stepsK 1 [3, 0] (sl' := [(3, .v (.slice y21.1 l22.length y21.2)), (0, .v (.slice a0_0 x0.length c0_0))]) (bx' := []) (by kernel_rfl) ?_
  refine JO_end (by kernel_rfl) ?_
  refine JE_then ?_
  refine JC_seq ?_
  refine JC_seq ?_
  refine JC_region ?_
  refine JO_stepsK 1 [4, 3, 0] (sl' := [(4, .v (.int .i64 0)), (3, .v (.slice y21.1 l22.length y21.2)), (0, .v (.slice a0_0 x0.length c0_0))]) (bx' := []) (by kernel_rfl) ?_
  refine JO_end (by kernel_rfl) ?_
  refine JE_then ?_
  obtain ⟨r28, hL29, h30⟩ := bS h24
  obtain ⟨k31, hk32, h30⟩ := brkS h30
  refine JC_cutP (τ := ((List Band)) × (Unit)) (fun y => k31 y.1 = some r) (fun y36 => [(3, .v (.slice y21.1 y36.1.length y21.2))]) (fun y36 => []) (fun y36 => [SlRes 34 y36.1 y21.1 y21.2]) ?_ (fun y36 h37p => ?_)
  · refine JC_block ?_
    refine JC_loop (τ := Unit) hL29 (fun s25 y26 => [(4, .v (.int .i64 s25.1)), (3, .v (.slice y21.1 s25.2.length y21.2)), (0, .v (.slice a0_0 x0.length c0_0))]) (fun s25 y26 => []) (fun s25 y26 => [SlRes 34 s25.2 y21.1 y21.2]) () [4, 3, 0] [0] 0 (by kernel_rfl) (by kernel_rfl) (by kernel_rfl) (by kernel_rfl) (fun s25 y26 t27 h33 hd34 => ?_)
    refine JC_seq ?_
    refine JC_seq ?_
    refine JC_region ?_
    refine JO_stepsK 4 [11, 4, 3, 0] (sl' := [(11, .v (.bool (decide (s25.1 < (x0.length : Int))))), (4, .v (.int .i64 s25.1)), (3, .v (.slice y21.1 s25.2.length y21.2)), (0, .v (.slice a0_0 x0.length c0_0))]) (bx' := []) (by kernel_rfl) ?_
    refine JO_end (by kernel_rfl) ?_
    refine JE_then ?_
    refine JC_cond (decide (s25.1 < (x0.length : Int))) (by kernel_rfl) (fun b38 => ?_) (fun b38 => ?_)
    · have h39 := cT b38 h33
      refine JC_skip ?_
      refine JE_then ?_
      refine JC_seq ?_
      refine JC_block ?_
      refine JC_region ?_
      refine JO_stepsK 4 [17, 16, 15, 14, 4, 3, 0] (sl' := [(17, .v (.int .i64 s25.1)), (16, .v (.slice a0_0 x0.length c0_0)), (15, .v (.int .i64 s25.1)), (14, .v (.slice y21.1 s25.2.length y21.2)), (4, .v (.int .i64 s25.1)), (3, .v (.slice y21.1 s25.2.length y21.2)), (0, .v (.slice a0_0 x0.length c0_0))]) (bx' := []) (by kernel_rfl) ?_
      obtain ⟨x41, hx42, h43⟩ := bS h39
      refine JO_index rfl (by kernel_rfl) (d := a0_0) (m := x0.length) (j := s25.1) (s := 2) (by kernel_rfl) (fun γ w hs => (hv0_0.kept hs.kept)) rfl hx42 (sl' := [(18, .q a0_0 (Int.toNat s25.1 * 2)), (17, .v (.int .i64 s25.1)), (16, .v (.slice a0_0 x0.length c0_0)), (15, .v (.int .i64 s25.1)), (14, .v (.slice y21.1 s25.2.length y21.2)), (4, .v (.int .i64 s25.1)), (3, .v (.slice y21.1 s25.2.length y21.2)), (0, .v (.slice a0_0 x0.length c0_0))]) (by kernel_rfl) ?_
      refine JO_loadq rfl (by kernel_rfl) (t := 108) (d := a0_0) (Int.toNat s25.1 * 2) 0 (by kernel_rfl) (cs := [.int .i64 x41.Low, .int .i64 x41.High]) (v := .agg #[.int .i64 x41.Low, .int .i64 x41.High]) (fun γ w hs => (hv0_0.kept hs.kept).flatq hx42) (by kernel_rfl) (sl' := [(19, .v (.agg #[.int .i64 x41.Low, .int .i64 x41.High])), (18, .q a0_0 (Int.toNat s25.1 * 2)), (17, .v (.int .i64 s25.1)), (16, .v (.slice a0_0 x0.length c0_0)), (15, .v (.int .i64 s25.1)), (14, .v (.slice y21.1 s25.2.length y21.2)), (4, .v (.int .i64 s25.1)), (3, .v (.slice y21.1 s25.2.length y21.2)), (0, .v (.slice a0_0 x0.length c0_0))]) (by kernel_rfl) ?_
      obtain ⟨t44, h45, h46⟩ := bS h43
      refine JO_call0 rfl (by kernel_rfl) (f := 75) (args := #[.agg #[.int .i64 x41.Low, .int .i64 x41.High]]) (by kernel_rfl) (x := .agg #[.int .i64 t44.Low, .int .i64 t44.High]) (fun γ w hs => (by have vv := c_laws_toBand (W := w) h45; exact vv)) (sl' := [(20, .v (.agg #[.int .i64 t44.Low, .int .i64 t44.High])), (19, .v (.agg #[.int .i64 x41.Low, .int .i64 x41.High])), (18, .q a0_0 (Int.toNat s25.1 * 2)), (17, .v (.int .i64 s25.1)), (16, .v (.slice a0_0 x0.length c0_0)), (15, .v (.int .i64 s25.1)), (14, .v (.slice y21.1 s25.2.length y21.2)), (4, .v (.int .i64 s25.1)), (3, .v (.slice y21.1 s25.2.length y21.2)), (0, .v (.slice a0_0 x0.length c0_0))]) (by kernel_rfl) ?_
      obtain ⟨x48, hx49, h50⟩ := bS h46
      refine JO_index rfl (by kernel_rfl) (d := y21.1) (m := s25.2.length) (j := s25.1) (s := 2) (by kernel_rfl) (fun γ w hs => (hs.view 0 rfl)) rfl hx49 (sl' := [(21, .q y21.1 (Int.toNat s25.1 * 2)), (20, .v (.agg #[.int .i64 t44.Low, .int .i64 t44.High])), (19, .v (.agg #[.int .i64 x41.Low, .int .i64 x41.High])), (18, .q a0_0 (Int.toNat s25.1 * 2)), (17, .v (.int .i64 s25.1)), (16, .v (.slice a0_0 x0.length c0_0)), (15, .v (.int .i64 s25.1)), (14, .v (.slice y21.1 s25.2.length y21.2)), (4, .v (.int .i64 s25.1)), (3, .v (.slice y21.1 s25.2.length y21.2)), (0, .v (.slice a0_0 x0.length c0_0))]) (by kernel_rfl) ?_
      obtain ⟨l51, hm52, h53⟩ := bS h50
      replace hm52 := (sI hm52).symm
      refine JO_storeq (α := Band) (d := y21.1) (vs := [.int .i64 t44.Low, .int .i64 t44.High]) (j := s25.1) (x' := t44) rfl (by kernel_rfl) 0 (by kernel_rfl) hx49 (Rc := []) (Rr := []) rfl (by kernel_rfl) (fun w c F Fs ho _ _ => own_flat_set (by kernel_rfl) ho) hm52 (sl' := [(21, .q y21.1 (Int.toNat s25.1 * 2)), (20, .v (.agg #[.int .i64 t44.Low, .int .i64 t44.High])), (19, .v (.agg #[.int .i64 x41.Low, .int .i64 x41.High])), (18, .q a0_0 (Int.toNat s25.1 * 2)), (17, .v (.int .i64 s25.1)), (16, .v (.slice a0_0 x0.length c0_0)), (15, .v (.int .i64 s25.1)), (14, .v (.slice y21.1 s25.2.length y21.2)), (4, .v (.int .i64 s25.1)), (3, .v (.slice y21.1 s25.2.length y21.2)), (0, .v (.slice a0_0 x0.length c0_0))]) (by kernel_rfl) ?_
      have hl54 := len_set hm52
      refine JO_keep [20, 19, 18, 17, 16, 15, 14, 4, 3, 0] (sl' := [(20, .v (.agg #[.int .i64 t44.Low, .int .i64 t44.High])), (19, .v (.agg #[.int .i64 x41.Low, .int .i64 x41.High])), (18, .q a0_0 (Int.toNat s25.1 * 2)), (17, .v (.int .i64 s25.1)), (16, .v (.slice a0_0 x0.length c0_0)), (15, .v (.int .i64 s25.1)), (14, .v (.slice y21.1 s25.2.length y21.2)), (4, .v (.int .i64 s25.1)), (3, .v (.slice y21.1 s25.2.length y21.2)), (0, .v (.slice a0_0 x0.length c0_0))]) (by kernel_rfl) ?_
      refine JO_eqE (sl' := [(20, .v (.agg #[.int .i64 t44.Low, .int .i64 t44.High])), (19, .v (.agg #[.int .i64 x41.Low, .int .i64 x41.High])), (18, .q a0_0 (Int.toNat s25.1 * 2)), (17, .v (.int .i64 s25.1)), (16, .v (.slice a0_0 x0.length c0_0)), (15, .v (.int .i64 s25.1)), (14, .v (.slice y21.1 l51.length y21.2)), (4, .v (.int .i64 s25.1)), (3, .v (.slice y21.1 l51.length y21.2)), (0, .v (.slice a0_0 x0.length c0_0))]) (bx' := []) (by simp only [hl54]) rfl ?_
      refine JO_end (by kernel_rfl) ?_
      refine JE_block_normal ?_
      refine JE_then ?_
      refine JC_region ?_
      refine JO_stepsK 3 [4, 3, 0] (sl' := [(4, .v (.int .i64 (w64 (s25.1 + 1)))), (3, .v (.slice y21.1 l51.length y21.2)), (0, .v (.slice a0_0 x0.length c0_0))]) (bx' := []) (by kernel_rfl) ?_
      refine JO_end (by kernel_rfl) ?_
      exact JE_cont h53 () [4, 3, 0] [0] 0 (by kernel_rfl) (by kernel_rfl) (by kernel_rfl) (by kernel_rfl)
    · have h40 := cF b38 h33
      refine JC_exit ?_
      refine JE_then_exit ?_
      refine JE_then_exit ?_
      refine JE_block_hit ?_
      have h55 := leafB hd34 h40 h30
      exact JE_meetP (s25.2, ()) h55 [3] [0] 0 (by kernel_rfl) (by kernel_rfl) (by kernel_rfl) (by kernel_rfl)
  · have h37 := (congrFun hk32 _).symm.trans h37p
    refine JE_then ?_
    refine JC_seq ?_
    refine JC_region ?_
    refine JO_stepsK 2 [2] (sl' := [(2, .v (.slice y21.1 y36.1.length y21.2))]) (bx' := []) (by kernel_rfl) ?_
    refine JO_end (by kernel_rfl) ?_
    refine JE_then ?_
    refine JC_ret ?_
    refine JE_ret (vs := [.slice y21.1 y36.1.length y21.2]) (by kernel_rfl) (fun γ w hs => ?_)
    rw [← sI h37]
    exact ⟨(y21.1, y21.2), rfl, hs.kept.toBelow, (hs.takeR (is := [0]) rfl).fresh⟩

theorem c_spec_BandOk {W : World} {x0 : Band} {r : Bool} (h : spec_BandOk x0 = some r)  :
    Gives0 Try.prog 72 #[.agg #[.int .i64 x0.Low, .int .i64 x0.High]] W (.bool r) := by
  unfold spec_BandOk at h
  refine enter (args := [.agg #[.int .i64 x0.Low, .int .i64 x0.High]]) Try.func72 rfl Try.ntmps72 (by kernel_rfl) ?_
  refine JC_seq ?_
  refine JC_region ?_
  refine JO_stepsK 2 [1] (sl' := [(1, .p 0 0)]) (bx' := [(34, [.int .i64 x0.Low, .int .i64 x0.High])]) (by kernel_rfl) ?_
  refine JO_end (by kernel_rfl) ?_
  refine JE_then ?_
  refine JC_seq ?_
  obtain ⟨p21, hE22, h23⟩ := bS h
  refine JC_cut (τ := Unit) (fun _ => [(2, .v (.bool p21))]) (fun _ => [(34, [.int .i64 x0.Low, .int .i64 x0.High])]) (fun _ => []) ?_ (fun _ => ?_)
  · refine JC_region ?_
    refine JO_stepsK 4 [6, 1] (sl' := [(6, .v (.bool (decide (x0.Low ≥ 0)))), (1, .p 0 0)]) (bx' := [(34, [.int .i64 x0.Low, .int .i64 x0.High])]) (by kernel_rfl) ?_
    refine JO_split 6 (decide (x0.Low ≥ 0)) (by kernel_rfl) (fun b24 => ?_) (fun b24 => ?_)
    · have h25 := cT b24 hE22
      refine JO_stepsK 7 [13, 1] (sl' := [(13, .v (.bool (decide (x0.Low ≤ x0.High)))), (1, .p 0 0)]) (bx' := [(34, [.int .i64 x0.Low, .int .i64 x0.High])]) (by kernel_rfl) ?_
      refine JO_split 13 (decide (x0.Low ≤ x0.High)) (by kernel_rfl) (fun b27 => ?_) (fun b27 => ?_)
      · have h28 := cT b27 h25
        refine JO_stepsK 5 [2] (sl' := [(2, .v (.bool (decide (x0.High ≤ 1000000000000000))))]) (bx' := [(34, [.int .i64 x0.Low, .int .i64 x0.High])]) (by kernel_rfl) ?_
        refine JO_end (by kernel_rfl) ?_
        obtain rfl := sI h28
        exact JE_meet () [2] [] 1 (by kernel_rfl) (by kernel_rfl) (by kernel_rfl) (by kernel_rfl)
      · have h29 := cF b27 h25
        refine JO_stepsK 5 [2] (sl' := [(2, .v (.bool false))]) (bx' := [(34, [.int .i64 x0.Low, .int .i64 x0.High])]) (by kernel_rfl) ?_
        refine JO_end (by kernel_rfl) ?_
        obtain rfl := sI h29
        exact JE_meet () [2] [] 1 (by kernel_rfl) (by kernel_rfl) (by kernel_rfl) (by kernel_rfl)
    · have h26 := cF b24 hE22
      refine JO_stepsK 12 [2] (sl' := [(2, .v (.bool false))]) (bx' := [(34, [.int .i64 x0.Low, .int .i64 x0.High])]) (by kernel_rfl) ?_
      refine JO_end (by kernel_rfl) ?_
      obtain rfl := sI h26
      exact JE_meet () [2] [] 1 (by kernel_rfl) (by kernel_rfl) (by kernel_rfl) (by kernel_rfl)
  · skip
    refine JE_then ?_
    refine JC_ret ?_
    refine JE_ret (vs := [.bool p21]) (by kernel_rfl) (fun γ w hs => ?_)
    rw [← sI h23]
    exact ⟨rfl, hs.kept.toBelow⟩

theorem c_spec_ReserveFor {W : World} {x0 : Int} {x1 : Band} {r : Int × Bool} (h : spec_ReserveFor x0 x1 = some r)  :
    Gives0 Try.prog 26 #[.int .i64 x0, .agg #[.int .i64 x1.Low, .int .i64 x1.High]] W (.tuple #[.int .i64 r.1, .bool r.2]) := by
  unfold spec_ReserveFor at h
  refine enter (args := [.int .i64 x0, .agg #[.int .i64 x1.Low, .int .i64 x1.High]]) Try.func26 rfl Try.ntmps26 (by kernel_rfl) ?_
  refine JC_seq ?_
  refine JC_region ?_
  refine JO_stepsK 3 [3, 0] (sl' := [(3, .p 0 0), (0, .v (.int .i64 x0))]) (bx' := [(34, [.int .i64 x1.Low, .int .i64 x1.High])]) (by kernel_rfl) ?_
  refine JO_end (by kernel_rfl) ?_
  refine JE_then ?_
  refine JC_seq ?_
  refine JC_seq ?_
  obtain ⟨p21, hE22, h23⟩ := bS h
  refine JC_cut (τ := Unit) (fun _ => [(0, .v (.int .i64 x0)), (3, .p 0 0), (20, .v (.bool p21))]) (fun _ => [(34, [.int .i64 x1.Low, .int .i64 x1.High])]) (fun _ => []) ?_ (fun _ => ?_)
  · refine JC_region ?_
    refine JO_stepsK 1 [8, 3, 0] (sl' := [(8, .v (.agg #[.int .i64 x1.Low, .int .i64 x1.High])), (3, .p 0 0), (0, .v (.int .i64 x0))]) (bx' := [(34, [.int .i64 x1.Low, .int .i64 x1.High])]) (by kernel_rfl) ?_
    obtain ⟨t24, h25, h26⟩ := bS hE22
    refine JO_call0 rfl (by kernel_rfl) (f := 72) (args := #[.agg #[.int .i64 x1.Low, .int .i64 x1.High]]) (by kernel_rfl) (x := .bool t24) (fun γ w hs => (by have vv := c_spec_BandOk (W := w) h25; exact vv)) (sl' := [(9, .v (.bool t24)), (8, .v (.agg #[.int .i64 x1.Low, .int .i64 x1.High])), (3, .p 0 0), (0, .v (.int .i64 x0))]) (by kernel_rfl) ?_
    refine JO_stepsK 2 [11, 3, 0] (sl' := [(11, .v (.bool (!t24))), (3, .p 0 0), (0, .v (.int .i64 x0))]) (bx' := [(34, [.int .i64 x1.Low, .int .i64 x1.High])]) (by kernel_rfl) ?_
    refine JO_split 11 (!t24) (by kernel_rfl) (fun b28 => ?_) (fun b28 => ?_)
    · have h29 := cT b28 h26
      refine JO_stepsK 9 [20, 3, 0] (sl' := [(20, .v (.bool true)), (3, .p 0 0), (0, .v (.int .i64 x0))]) (bx' := [(34, [.int .i64 x1.Low, .int .i64 x1.High])]) (by kernel_rfl) ?_
      refine JO_end (by kernel_rfl) ?_
      obtain rfl := sI h29
      exact JE_meet () [0, 3, 20] [] 1 (by kernel_rfl) (by kernel_rfl) (by kernel_rfl) (by kernel_rfl)
    · have h30 := cF b28 h26
      refine JO_stepsK 5 [16, 3, 0] (sl' := [(16, .v (.bool (decide (x1.High > 1000000000000)))), (3, .p 0 0), (0, .v (.int .i64 x0))]) (bx' := [(34, [.int .i64 x1.Low, .int .i64 x1.High])]) (by kernel_rfl) ?_
      refine JO_split 16 (decide (x1.High > 1000000000000)) (by kernel_rfl) (fun b31 => ?_) (fun b31 => ?_)
      · have h32 := cT b31 h30
        refine JO_stepsK 4 [20, 3, 0] (sl' := [(20, .v (.bool true)), (3, .p 0 0), (0, .v (.int .i64 x0))]) (bx' := [(34, [.int .i64 x1.Low, .int .i64 x1.High])]) (by kernel_rfl) ?_
        refine JO_end (by kernel_rfl) ?_
        obtain rfl := sI h32
        exact JE_meet () [0, 3, 20] [] 1 (by kernel_rfl) (by kernel_rfl) (by kernel_rfl) (by kernel_rfl)
      · have h33 := cF b31 h30
        refine JO_stepsK 1 [17, 16, 3, 0] (sl' := [(17, .v (.int .i64 x0)), (16, .v (.bool false)), (3, .p 0 0), (0, .v (.int .i64 x0))]) (bx' := [(34, [.int .i64 x1.Low, .int .i64 x1.High])]) (by kernel_rfl) ?_
        obtain ⟨t34, h35, h36⟩ := bS h33
        refine JO_call0 rfl (by kernel_rfl) (f := 71) (args := #[.int .i64 x0, .int .i64 0, .int .i64 1000000]) (by kernel_rfl) (x := .bool t34) (fun γ w hs => (by have vv := c_spec_l01In (W := w) h35; exact vv)) (sl' := [(18, .v (.bool t34)), (17, .v (.int .i64 x0)), (16, .v (.bool false)), (3, .p 0 0), (0, .v (.int .i64 x0))]) (by kernel_rfl) ?_
        refine JO_stepsK 2 [20, 3, 0] (sl' := [(20, .v (.bool (!t34))), (3, .p 0 0), (0, .v (.int .i64 x0))]) (bx' := [(34, [.int .i64 x1.Low, .int .i64 x1.High])]) (by kernel_rfl) ?_
        refine JO_end (by kernel_rfl) ?_
        obtain rfl := sI h36
        exact JE_meet () [0, 3, 20] [] 1 (by kernel_rfl) (by kernel_rfl) (by kernel_rfl) (by kernel_rfl)
  · skip
    refine JE_then ?_
    refine JC_cond p21 (by kernel_rfl) (fun b38 => ?_) (fun b38 => ?_)
    · have h39 := cT b38 h23
      refine JC_seq ?_
      refine JC_region ?_
      refine JO_stepsK 2 [5, 4] (sl' := [(5, .v (.bool false)), (4, .v (.int .i64 0))]) (bx' := [(34, [.int .i64 x1.Low, .int .i64 x1.High])]) (by kernel_rfl) ?_
      refine JO_end (by kernel_rfl) ?_
      refine JE_then ?_
      refine JC_ret ?_
      refine JE_then_ret ?_
      refine JE_ret (vs := [.int .i64 0, .bool false]) (by kernel_rfl) (fun γ w hs => ?_)
      rw [← sI h39]
      exact ⟨rfl, hs.kept.toBelow⟩
    · have h40 := cF b38 h23
      refine JC_skip ?_
      refine JE_then ?_
      refine JC_seq ?_
      refine JC_region ?_
      refine JO_stepsK 5 [6] (sl' := [(6, .v (.int .i64 (w64 (x0 * x1.High))))]) (bx' := [(34, [.int .i64 x1.Low, .int .i64 x1.High])]) (by kernel_rfl) ?_
      refine JO_end (by kernel_rfl) ?_
      refine JE_then ?_
      refine JC_seq ?_
      refine JC_region ?_
      refine JO_stepsK 3 [7, 6] (sl' := [(7, .v (.int .i64 (w64 (Int.tdiv (w64 (x0 * x1.High)) 1000000000)))), (6, .v (.int .i64 (w64 (x0 * x1.High))))]) (bx' := [(34, [.int .i64 x1.Low, .int .i64 x1.High])]) (by kernel_rfl) ?_
      refine JO_end (by kernel_rfl) ?_
      refine JE_then ?_
      refine JC_seq ?_
      refine JC_seq ?_
      refine JC_region ?_
      refine JO_stepsK 3 [29, 7] (sl' := [(29, .v (.bool ((Int.tmod (w64 (x0 * x1.High)) 1000000000) != 0))), (7, .v (.int .i64 (w64 (Int.tdiv (w64 (x0 * x1.High)) 1000000000))))]) (bx' := [(34, [.int .i64 x1.Low, .int .i64 x1.High])]) (by kernel_rfl) ?_
      refine JO_end (by kernel_rfl) ?_
      refine JE_then ?_
      obtain ⟨k44, hk45, h47⟩ := jS h40
      refine JC_cutP (τ := (Int) × (Unit)) (fun y => k44 y.1 = some r) (fun y43 => [(7, .v (.int .i64 y43.1))]) (fun y43 => [(34, [.int .i64 x1.Low, .int .i64 x1.High])]) (fun y43 => []) ?_ (fun y43 h46p => ?_)
      · refine JC_cond ((Int.tmod (w64 (x0 * x1.High)) 1000000000) != 0) (by kernel_rfl) (fun b48 => ?_) (fun b48 => ?_)
        · have h49 := cT b48 h47
          refine JC_region ?_
          refine JO_stepsK 3 [7] (sl' := [(7, .v (.int .i64 (w64 ((w64 (Int.tdiv (w64 (x0 * x1.High)) 1000000000)) + 1))))]) (bx' := [(34, [.int .i64 x1.Low, .int .i64 x1.High])]) (by kernel_rfl) ?_
          refine JO_end (by kernel_rfl) ?_
          exact JE_meetP (w64 ((w64 (Int.tdiv (w64 (x0 * x1.High)) 1000000000)) + 1), ()) h49 [7] [] 1 (by kernel_rfl) (by kernel_rfl) (by kernel_rfl) (by kernel_rfl)
        · have h50 := cF b48 h47
          refine JC_skip ?_
          exact JE_meetP (w64 (Int.tdiv (w64 (x0 * x1.High)) 1000000000), ()) h50 [7] [] 1 (by kernel_rfl) (by kernel_rfl) (by kernel_rfl) (by kernel_rfl)
      · have h46 := (congrFun hk45 _).symm.trans h46p
        refine JE_then ?_
        refine JC_seq ?_
        refine JC_region ?_
        refine JO_stepsK 3 [5, 4] (sl' := [(5, .v (.bool true)), (4, .v (.int .i64 y43.1))]) (bx' := [(34, [.int .i64 x1.Low, .int .i64 x1.High])]) (by kernel_rfl) ?_
        refine JO_end (by kernel_rfl) ?_
        refine JE_then ?_
        refine JC_ret ?_
        refine JE_ret (vs := [.int .i64 y43.1, .bool true]) (by kernel_rfl) (fun γ w hs => ?_)
        rw [← sI h46]
        exact ⟨rfl, hs.kept.toBelow⟩

theorem c_spec_LiabilityOf {W : World} {x0 : List Int} {a0_0 : Option Addr} {c0_0 : Nat} {x1 : List Band} {a1_0 : Option Addr} {c1_0 : Nat} {r : Int × Bool} (h : spec_LiabilityOf x0 x1 = some r) (hv0_0 : SlView W x0 a0_0 c0_0) (hv1_0 : SlView W x1 a1_0 c1_0) :
    Gives0 Try.prog 35 #[.slice a0_0 x0.length c0_0, .slice a1_0 x1.length c1_0] W (.tuple #[.int .i64 r.1, .bool r.2]) := by
  unfold spec_LiabilityOf at h
  refine enter (args := [.slice a0_0 x0.length c0_0, .slice a1_0 x1.length c1_0]) Try.func35 rfl Try.ntmps35 (by kernel_rfl) ?_
  refine JC_seq ?_
  refine JC_region ?_
  refine JO_stepsK 2 [0, 1] (sl' := [(0, .v (.slice a0_0 x0.length c0_0)), (1, .v (.slice a1_0 x1.length c1_0))]) (bx' := []) (by kernel_rfl) ?_
  refine JO_end (by kernel_rfl) ?_
  refine JE_then ?_
  refine JC_seq ?_
  refine JC_region ?_
  refine JO_stepsK 1 [6, 0, 1] (sl' := [(6, .v (.int .i64 0)), (0, .v (.slice a0_0 x0.length c0_0)), (1, .v (.slice a1_0 x1.length c1_0))]) (bx' := []) (by kernel_rfl) ?_
  refine JO_end (by kernel_rfl) ?_
  refine JE_then ?_
  refine JC_seq ?_
  refine JC_seq ?_
  obtain ⟨p21, hE22, h23⟩ := bS h
  refine JC_cut (τ := Unit) (fun _ => [(0, .v (.slice a0_0 x0.length c0_0)), (1, .v (.slice a1_0 x1.length c1_0)), (6, .v (.int .i64 0)), (19, .v (.bool p21))]) (fun _ => []) (fun _ => []) ?_ (fun _ => ?_)
  · refine JC_region ?_
    refine JO_stepsK 6 [15, 6, 0, 1] (sl' := [(15, .v (.bool ((x0.length : Int) != (x1.length : Int)))), (6, .v (.int .i64 0)), (0, .v (.slice a0_0 x0.length c0_0)), (1, .v (.slice a1_0 x1.length c1_0))]) (bx' := []) (by kernel_rfl) ?_
    refine JO_split 15 ((x0.length : Int) != (x1.length : Int)) (by kernel_rfl) (fun b24 => ?_) (fun b24 => ?_)
    · have h25 := cT b24 hE22
      refine JO_stepsK 4 [19, 6, 0, 1] (sl' := [(19, .v (.bool true)), (6, .v (.int .i64 0)), (0, .v (.slice a0_0 x0.length c0_0)), (1, .v (.slice a1_0 x1.length c1_0))]) (bx' := []) (by kernel_rfl) ?_
      refine JO_end (by kernel_rfl) ?_
      obtain rfl := sI h25
      exact JE_meet () [0, 1, 6, 19] [] 0 (by kernel_rfl) (by kernel_rfl) (by kernel_rfl) (by kernel_rfl)
    · have h26 := cF b24 hE22
      refine JO_stepsK 4 [19, 6, 0, 1] (sl' := [(19, .v (.bool (decide ((x1.length : Int) > 100)))), (6, .v (.int .i64 0)), (0, .v (.slice a0_0 x0.length c0_0)), (1, .v (.slice a1_0 x1.length c1_0))]) (bx' := []) (by kernel_rfl) ?_
      refine JO_end (by kernel_rfl) ?_
      obtain rfl := sI h26
      exact JE_meet () [0, 1, 6, 19] [] 0 (by kernel_rfl) (by kernel_rfl) (by kernel_rfl) (by kernel_rfl)
  · skip
    refine JE_then ?_
    refine JC_cond p21 (by kernel_rfl) (fun b27 => ?_) (fun b27 => ?_)
    · have h28 := cT b27 h23
      refine JC_seq ?_
      refine JC_region ?_
      refine JO_stepsK 2 [5, 4] (sl' := [(5, .v (.bool false)), (4, .v (.int .i64 0))]) (bx' := []) (by kernel_rfl) ?_
      refine JO_end (by kernel_rfl) ?_
      refine JE_then ?_
      refine JC_ret ?_
      refine JE_then_ret ?_
      refine JE_ret (vs := [.int .i64 0, .bool false]) (by kernel_rfl) (fun γ w hs => ?_)
      rw [← sI h28]
      exact ⟨rfl, hs.kept.toBelow⟩
    · have h29 := cF b27 h23
      refine JC_skip ?_
      refine JE_then ?_
      refine JC_seq ?_
      refine JC_seq ?_
      refine JC_region ?_
      refine JO_stepsK 1 [7, 0, 1, 6] (sl' := [(7, .v (.int .i64 0)), (0, .v (.slice a0_0 x0.length c0_0)), (1, .v (.slice a1_0 x1.length c1_0)), (6, .v (.int .i64 0))]) (bx' := []) (by kernel_rfl) ?_
      refine JO_end (by kernel_rfl) ?_
      refine JE_then ?_
      obtain ⟨r33, hL34, h35⟩ := bS h29
      obtain ⟨k36, hk37, h35⟩ := brkS h35
      refine JC_cutP (τ := (Int) × (Unit)) (fun y => k36 y.1 = some r) (fun y41 => [(6, .v (.int .i64 y41.1))]) (fun y41 => []) (fun y41 => []) ?_ (fun y41 h42p => ?_)
      · refine JC_block ?_
        refine JC_loop (τ := Unit) hL34 (fun s30 y31 => [(7, .v (.int .i64 s30.1)), (0, .v (.slice a0_0 x0.length c0_0)), (1, .v (.slice a1_0 x1.length c1_0)), (6, .v (.int .i64 s30.2))]) (fun s30 y31 => []) (fun s30 y31 => []) () [7, 0, 1, 6] [] 0 (by kernel_rfl) (by kernel_rfl) (by kernel_rfl) (by kernel_rfl) (fun s30 y31 t32 h38 hd39 => ?_)
        refine JC_seq ?_
        refine JC_seq ?_
        refine JC_region ?_
        refine JO_stepsK 4 [23, 7, 0, 1, 6] (sl' := [(23, .v (.bool (decide (s30.1 < (x1.length : Int))))), (7, .v (.int .i64 s30.1)), (0, .v (.slice a0_0 x0.length c0_0)), (1, .v (.slice a1_0 x1.length c1_0)), (6, .v (.int .i64 s30.2))]) (bx' := []) (by kernel_rfl) ?_
        refine JO_end (by kernel_rfl) ?_
        refine JE_then ?_
        refine JC_cond (decide (s30.1 < (x1.length : Int))) (by kernel_rfl) (fun b43 => ?_) (fun b43 => ?_)
        · have h44 := cT b43 h38
          refine JC_skip ?_
          refine JE_then ?_
          refine JC_seq ?_
          refine JC_block ?_
          refine JC_seq ?_
          refine JC_quiet (by kernel_rfl) (by kernel_rfl) ?_
          refine JQ_stepsK 2 [28, 27, 7, 0, 1, 6] (sl' := [(28, .v (.int .i64 s30.1)), (27, .v (.slice a0_0 x0.length c0_0)), (7, .v (.int .i64 s30.1)), (0, .v (.slice a0_0 x0.length c0_0)), (1, .v (.slice a1_0 x1.length c1_0)), (6, .v (.int .i64 s30.2))]) (by kernel_rfl) ?_
          obtain ⟨x46, hx47, h48⟩ := bS h44
          refine JQ_index rfl (by kernel_rfl) (d := a0_0) (m := x0.length) (j := s30.1) (s := 1) (by kernel_rfl) (fun γ w hs => (hv0_0.kept hs.kept)) rfl hx47 (sl' := [(29, .q a0_0 (Int.toNat s30.1 * 1)), (28, .v (.int .i64 s30.1)), (27, .v (.slice a0_0 x0.length c0_0)), (7, .v (.int .i64 s30.1)), (0, .v (.slice a0_0 x0.length c0_0)), (1, .v (.slice a1_0 x1.length c1_0)), (6, .v (.int .i64 s30.2))]) (by kernel_rfl) ?_
          refine JQ_loadq rfl (by kernel_rfl) (t := 3) (d := a0_0) (Int.toNat s30.1 * 1) 0 (by kernel_rfl) (cs := [.int .i64 x46]) (v := .int .i64 x46) (fun γ w hs => (hv0_0.kept hs.kept).flatq hx47) (by kernel_rfl) (sl' := [(30, .v (.int .i64 x46)), (29, .q a0_0 (Int.toNat s30.1 * 1)), (28, .v (.int .i64 s30.1)), (27, .v (.slice a0_0 x0.length c0_0)), (7, .v (.int .i64 s30.1)), (0, .v (.slice a0_0 x0.length c0_0)), (1, .v (.slice a1_0 x1.length c1_0)), (6, .v (.int .i64 s30.2))]) (by kernel_rfl) ?_
          refine JQ_stepsK 2 [32, 31, 30, 7, 0, 1, 6] (sl' := [(32, .v (.int .i64 s30.1)), (31, .v (.slice a1_0 x1.length c1_0)), (30, .v (.int .i64 x46)), (7, .v (.int .i64 s30.1)), (0, .v (.slice a0_0 x0.length c0_0)), (1, .v (.slice a1_0 x1.length c1_0)), (6, .v (.int .i64 s30.2))]) (by kernel_rfl) ?_
          obtain ⟨x49, hx50, h51⟩ := bS h48
          refine JQ_index rfl (by kernel_rfl) (d := a1_0) (m := x1.length) (j := s30.1) (s := 2) (by kernel_rfl) (fun γ w hs => (hv1_0.kept hs.kept)) rfl hx50 (sl' := [(33, .q a1_0 (Int.toNat s30.1 * 2)), (32, .v (.int .i64 s30.1)), (31, .v (.slice a1_0 x1.length c1_0)), (30, .v (.int .i64 x46)), (7, .v (.int .i64 s30.1)), (0, .v (.slice a0_0 x0.length c0_0)), (1, .v (.slice a1_0 x1.length c1_0)), (6, .v (.int .i64 s30.2))]) (by kernel_rfl) ?_
          refine JQ_loadq rfl (by kernel_rfl) (t := 34) (d := a1_0) (Int.toNat s30.1 * 2) 0 (by kernel_rfl) (cs := [.int .i64 x49.Low, .int .i64 x49.High]) (v := .agg #[.int .i64 x49.Low, .int .i64 x49.High]) (fun γ w hs => (hv1_0.kept hs.kept).flatq hx50) (by kernel_rfl) (sl' := [(34, .v (.agg #[.int .i64 x49.Low, .int .i64 x49.High])), (33, .q a1_0 (Int.toNat s30.1 * 2)), (32, .v (.int .i64 s30.1)), (31, .v (.slice a1_0 x1.length c1_0)), (30, .v (.int .i64 x46)), (7, .v (.int .i64 s30.1)), (0, .v (.slice a0_0 x0.length c0_0)), (1, .v (.slice a1_0 x1.length c1_0)), (6, .v (.int .i64 s30.2))]) (by kernel_rfl) ?_
          obtain ⟨t52, h53, h54⟩ := bS h51
          refine JQ_call0 rfl (by kernel_rfl) (f := 26) (args := #[.int .i64 x46, .agg #[.int .i64 x49.Low, .int .i64 x49.High]]) (by kernel_rfl) (x := .tuple #[.int .i64 t52.1, .bool t52.2]) (fun γ w hs => (by have vv := c_spec_ReserveFor (W := w) h53; exact vv)) (sl' := [(35, .v (.tuple #[.int .i64 t52.1, .bool t52.2])), (34, .v (.agg #[.int .i64 x49.Low, .int .i64 x49.High])), (33, .q a1_0 (Int.toNat s30.1 * 2)), (32, .v (.int .i64 s30.1)), (31, .v (.slice a1_0 x1.length c1_0)), (30, .v (.int .i64 x46)), (7, .v (.int .i64 s30.1)), (0, .v (.slice a0_0 x0.length c0_0)), (1, .v (.slice a1_0 x1.length c1_0)), (6, .v (.int .i64 s30.2))]) (by kernel_rfl) ?_
          refine JQ_stepsK 5 [9, 8, 7, 0, 1, 6] (sl' := [(9, .v (.bool t52.2)), (8, .v (.int .i64 t52.1)), (7, .v (.int .i64 s30.1)), (0, .v (.slice a0_0 x0.length c0_0)), (1, .v (.slice a1_0 x1.length c1_0)), (6, .v (.int .i64 s30.2))]) (by kernel_rfl) ?_
          refine JQ_end (by kernel_rfl) ?_
          refine JE_then ?_
          refine JC_seq ?_
          refine JC_seq ?_
          refine JC_region ?_
          refine JO_stepsK 2 [39, 8, 7, 0, 1, 6] (sl' := [(39, .v (.bool (!t52.2))), (8, .v (.int .i64 t52.1)), (7, .v (.int .i64 s30.1)), (0, .v (.slice a0_0 x0.length c0_0)), (1, .v (.slice a1_0 x1.length c1_0)), (6, .v (.int .i64 s30.2))]) (bx' := []) (by kernel_rfl) ?_
          refine JO_end (by kernel_rfl) ?_
          refine JE_then ?_
          refine JC_cond (!t52.2) (by kernel_rfl) (fun b56 => ?_) (fun b56 => ?_)
          · have h57 := cT b56 h54
            refine JC_seq ?_
            refine JC_region ?_
            refine JO_stepsK 2 [5, 4] (sl' := [(5, .v (.bool false)), (4, .v (.int .i64 0))]) (bx' := []) (by kernel_rfl) ?_
            refine JO_end (by kernel_rfl) ?_
            refine JE_then ?_
            refine JC_ret ?_
            refine JE_then_ret ?_
            refine JE_block_ret ?_
            refine JE_then_ret ?_
            refine JE_then_ret ?_
            have h59 := leafR hd39 h57 h35
            refine JE_block_ret ?_
            refine JE_then_ret ?_
            refine JE_then_ret ?_
            refine JE_ret (vs := [.int .i64 0, .bool false]) (by kernel_rfl) (fun γ w hs => ?_)
            rw [← sI h59]
            exact ⟨rfl, hs.kept.toBelow⟩
          · have h58 := cF b56 h54
            refine JC_skip ?_
            refine JE_then ?_
            refine JC_region ?_
            refine JO_stepsK 4 [6, 7, 0, 1] (sl' := [(6, .v (.int .i64 (w64 (s30.2 + t52.1)))), (7, .v (.int .i64 s30.1)), (0, .v (.slice a0_0 x0.length c0_0)), (1, .v (.slice a1_0 x1.length c1_0))]) (bx' := []) (by kernel_rfl) ?_
            refine JO_end (by kernel_rfl) ?_
            refine JE_block_normal ?_
            refine JE_then ?_
            refine JC_region ?_
            refine JO_stepsK 3 [7, 6, 0, 1] (sl' := [(7, .v (.int .i64 (w64 (s30.1 + 1)))), (6, .v (.int .i64 (w64 (s30.2 + t52.1)))), (0, .v (.slice a0_0 x0.length c0_0)), (1, .v (.slice a1_0 x1.length c1_0))]) (bx' := []) (by kernel_rfl) ?_
            refine JO_end (by kernel_rfl) ?_
            exact JE_cont h58 () [7, 0, 1, 6] [] 0 (by kernel_rfl) (by kernel_rfl) (by kernel_rfl) (by kernel_rfl)
        · have h45 := cF b43 h38
          refine JC_exit ?_
          refine JE_then_exit ?_
          refine JE_then_exit ?_
          refine JE_block_hit ?_
          have h60 := leafB hd39 h45 h35
          exact JE_meetP (s30.2, ()) h60 [6] [] 0 (by kernel_rfl) (by kernel_rfl) (by kernel_rfl) (by kernel_rfl)
      · have h42 := (congrFun hk37 _).symm.trans h42p
        refine JE_then ?_
        refine JC_seq ?_
        refine JC_region ?_
        refine JO_stepsK 3 [5, 4] (sl' := [(5, .v (.bool true)), (4, .v (.int .i64 y41.1))]) (bx' := []) (by kernel_rfl) ?_
        refine JO_end (by kernel_rfl) ?_
        refine JE_then ?_
        refine JC_ret ?_
        refine JE_ret (vs := [.int .i64 y41.1, .bool true]) (by kernel_rfl) (fun γ w hs => ?_)
        rw [← sI h42]
        exact ⟨rfl, hs.kept.toBelow⟩

theorem c_impl_BandOk {W : World} {x0 : Band} {r : Bool} (h : impl_BandOk x0 = some r)  :
    Gives0 Try.prog 112 #[.agg #[.int .i64 x0.Low, .int .i64 x0.High]] W (.bool r) := by
  unfold impl_BandOk at h
  refine enter (args := [.agg #[.int .i64 x0.Low, .int .i64 x0.High]]) Try.func112 rfl Try.ntmps112 (by kernel_rfl) ?_
  refine JC_seq ?_
  refine JC_region ?_
  refine JO_stepsK 2 [1] (sl' := [(1, .p 0 0)]) (bx' := [(34, [.int .i64 x0.Low, .int .i64 x0.High])]) (by kernel_rfl) ?_
  refine JO_end (by kernel_rfl) ?_
  refine JE_then ?_
  refine JC_seq ?_
  obtain ⟨p21, hE22, h23⟩ := bS h
  refine JC_cut (τ := Unit) (fun _ => [(2, .v (.bool p21))]) (fun _ => [(34, [.int .i64 x0.Low, .int .i64 x0.High])]) (fun _ => []) ?_ (fun _ => ?_)
  · refine JC_region ?_
    refine JO_stepsK 4 [6, 1] (sl' := [(6, .v (.bool (decide (0 ≤ x0.Low)))), (1, .p 0 0)]) (bx' := [(34, [.int .i64 x0.Low, .int .i64 x0.High])]) (by kernel_rfl) ?_
    refine JO_split 6 (decide (0 ≤ x0.Low)) (by kernel_rfl) (fun b24 => ?_) (fun b24 => ?_)
    · have h25 := cT b24 hE22
      refine JO_stepsK 7 [13, 1] (sl' := [(13, .v (.bool (decide (x0.Low ≤ x0.High)))), (1, .p 0 0)]) (bx' := [(34, [.int .i64 x0.Low, .int .i64 x0.High])]) (by kernel_rfl) ?_
      refine JO_split 13 (decide (x0.Low ≤ x0.High)) (by kernel_rfl) (fun b27 => ?_) (fun b27 => ?_)
      · have h28 := cT b27 h25
        refine JO_stepsK 5 [2] (sl' := [(2, .v (.bool (decide (x0.High ≤ 1000000000000000))))]) (bx' := [(34, [.int .i64 x0.Low, .int .i64 x0.High])]) (by kernel_rfl) ?_
        refine JO_end (by kernel_rfl) ?_
        obtain rfl := sI h28
        exact JE_meet () [2] [] 1 (by kernel_rfl) (by kernel_rfl) (by kernel_rfl) (by kernel_rfl)
      · have h29 := cF b27 h25
        refine JO_stepsK 5 [2] (sl' := [(2, .v (.bool false))]) (bx' := [(34, [.int .i64 x0.Low, .int .i64 x0.High])]) (by kernel_rfl) ?_
        refine JO_end (by kernel_rfl) ?_
        obtain rfl := sI h29
        exact JE_meet () [2] [] 1 (by kernel_rfl) (by kernel_rfl) (by kernel_rfl) (by kernel_rfl)
    · have h26 := cF b24 hE22
      refine JO_stepsK 12 [2] (sl' := [(2, .v (.bool false))]) (bx' := [(34, [.int .i64 x0.Low, .int .i64 x0.High])]) (by kernel_rfl) ?_
      refine JO_end (by kernel_rfl) ?_
      obtain rfl := sI h26
      exact JE_meet () [2] [] 1 (by kernel_rfl) (by kernel_rfl) (by kernel_rfl) (by kernel_rfl)
  · skip
    refine JE_then ?_
    refine JC_ret ?_
    refine JE_ret (vs := [.bool p21]) (by kernel_rfl) (fun γ w hs => ?_)
    rw [← sI h23]
    exact ⟨rfl, hs.kept.toBelow⟩

theorem c_impl_ceilDiv {W : World} {x0 : Int} {x1 : Int} {r : Int} (h : impl_ceilDiv x0 x1 = some r)  :
    Gives0 Try.prog 113 #[.int .i64 x0, .int .i64 x1] W (.int .i64 r) := by
  unfold impl_ceilDiv at h
  refine enter (args := [.int .i64 x0, .int .i64 x1]) Try.func113 rfl Try.ntmps113 (by kernel_rfl) ?_
  refine JC_seq ?_
  refine JC_region ?_
  refine JO_stepsK 1 [0, 1] (sl' := [(0, .v (.int .i64 x0)), (1, .v (.int .i64 x1))]) (bx' := []) (by kernel_rfl) ?_
  refine JO_end (by kernel_rfl) ?_
  refine JE_then ?_
  refine JC_seq ?_
  refine JC_region ?_
  refine JO_stepsK 5 [9, 8] (sl' := [(9, .v (.int .i64 x1)), (8, .v (.int .i64 (w64 ((w64 (x0 + x1)) - 1))))]) (bx' := []) (by kernel_rfl) ?_
  obtain ⟨u23, hz22, h21⟩ := bS h
  refine JO_div rfl (by kernel_rfl) (op := .quo) (k := .i64) (x := (w64 ((w64 (x0 + x1)) - 1))) (y := x1) (by kernel_rfl) (nz_some hz22) (sl' := [(10, .v (.int .i64 (w64 (Int.tdiv (w64 ((w64 (x0 + x1)) - 1)) x1)))), (9, .v (.int .i64 x1)), (8, .v (.int .i64 (w64 ((w64 (x0 + x1)) - 1))))]) (by kernel_rfl) ?_
  refine JO_stepsK 1 [4] (sl' := [(4, .v (.int .i64 (w64 (Int.tdiv (w64 ((w64 (x0 + x1)) - 1)) x1))))]) (bx' := []) (by kernel_rfl) ?_
  refine JO_end (by kernel_rfl) ?_
  refine JE_then ?_
  refine JC_ret ?_
  refine JE_ret (vs := [.int .i64 (w64 (Int.tdiv (w64 ((w64 (x0 + x1)) - 1)) x1))]) (by kernel_rfl) (fun γ w hs => ?_)
  rw [← sI h21]
  exact ⟨rfl, hs.kept.toBelow⟩

theorem c_impl_ReserveFor {W : World} {x0 : Int} {x1 : Band} {r : Int × Bool} (h : impl_ReserveFor x0 x1 = some r)  :
    Gives0 Try.prog 73 #[.int .i64 x0, .agg #[.int .i64 x1.Low, .int .i64 x1.High]] W (.tuple #[.int .i64 r.1, .bool r.2]) := by
  unfold impl_ReserveFor at h
  refine enter (args := [.int .i64 x0, .agg #[.int .i64 x1.Low, .int .i64 x1.High]]) Try.func73 rfl Try.ntmps73 (by kernel_rfl) ?_
  refine JC_seq ?_
  refine JC_region ?_
  refine JO_stepsK 3 [3, 0] (sl' := [(3, .p 0 0), (0, .v (.int .i64 x0))]) (bx' := [(34, [.int .i64 x1.Low, .int .i64 x1.High])]) (by kernel_rfl) ?_
  refine JO_end (by kernel_rfl) ?_
  refine JE_then ?_
  refine JC_seq ?_
  refine JC_seq ?_
  obtain ⟨p21, hE22, h23⟩ := bS h
  refine JC_cut (τ := Unit) (fun _ => [(0, .v (.int .i64 x0)), (3, .p 0 0), (18, .v (.bool p21))]) (fun _ => [(34, [.int .i64 x1.Low, .int .i64 x1.High])]) (fun _ => []) ?_ (fun _ => ?_)
  · refine JC_region ?_
    refine JO_stepsK 1 [6, 3, 0] (sl' := [(6, .v (.agg #[.int .i64 x1.Low, .int .i64 x1.High])), (3, .p 0 0), (0, .v (.int .i64 x0))]) (bx' := [(34, [.int .i64 x1.Low, .int .i64 x1.High])]) (by kernel_rfl) ?_
    obtain ⟨t24, h25, h26⟩ := bS hE22
    refine JO_call0 rfl (by kernel_rfl) (f := 112) (args := #[.agg #[.int .i64 x1.Low, .int .i64 x1.High]]) (by kernel_rfl) (x := .bool t24) (fun γ w hs => (by have vv := c_impl_BandOk (W := w) h25; exact vv)) (sl' := [(7, .v (.bool t24)), (6, .v (.agg #[.int .i64 x1.Low, .int .i64 x1.High])), (3, .p 0 0), (0, .v (.int .i64 x0))]) (by kernel_rfl) ?_
    refine JO_stepsK 2 [9, 3, 0] (sl' := [(9, .v (.bool (!t24))), (3, .p 0 0), (0, .v (.int .i64 x0))]) (bx' := [(34, [.int .i64 x1.Low, .int .i64 x1.High])]) (by kernel_rfl) ?_
    refine JO_split 9 (!t24) (by kernel_rfl) (fun b28 => ?_) (fun b28 => ?_)
    · have h29 := cT b28 h26
      refine JO_stepsK 9 [18, 3, 0] (sl' := [(18, .v (.bool true)), (3, .p 0 0), (0, .v (.int .i64 x0))]) (bx' := [(34, [.int .i64 x1.Low, .int .i64 x1.High])]) (by kernel_rfl) ?_
      refine JO_end (by kernel_rfl) ?_
      obtain rfl := sI h29
      exact JE_meet () [0, 3, 18] [] 1 (by kernel_rfl) (by kernel_rfl) (by kernel_rfl) (by kernel_rfl)
    · have h30 := cF b28 h26
      refine JO_stepsK 5 [14, 3, 0] (sl' := [(14, .v (.bool (decide (x1.High > 1000000000000)))), (3, .p 0 0), (0, .v (.int .i64 x0))]) (bx' := [(34, [.int .i64 x1.Low, .int .i64 x1.High])]) (by kernel_rfl) ?_
      refine JO_split 14 (decide (x1.High > 1000000000000)) (by kernel_rfl) (fun b31 => ?_) (fun b31 => ?_)
      · have h32 := cT b31 h30
        refine JO_stepsK 4 [18, 3, 0] (sl' := [(18, .v (.bool true)), (3, .p 0 0), (0, .v (.int .i64 x0))]) (bx' := [(34, [.int .i64 x1.Low, .int .i64 x1.High])]) (by kernel_rfl) ?_
        refine JO_end (by kernel_rfl) ?_
        obtain rfl := sI h32
        exact JE_meet () [0, 3, 18] [] 1 (by kernel_rfl) (by kernel_rfl) (by kernel_rfl) (by kernel_rfl)
      · have h33 := cF b31 h30
        refine JO_stepsK 1 [15, 14, 3, 0] (sl' := [(15, .v (.int .i64 x0)), (14, .v (.bool false)), (3, .p 0 0), (0, .v (.int .i64 x0))]) (bx' := [(34, [.int .i64 x1.Low, .int .i64 x1.High])]) (by kernel_rfl) ?_
        obtain ⟨t34, h35, h36⟩ := bS h33
        refine JO_call0 rfl (by kernel_rfl) (f := 67) (args := #[.int .i64 x0, .int .i64 0, .int .i64 1000000]) (by kernel_rfl) (x := .bool t34) (fun γ w hs => (by have vv := c_impl_within (W := w) h35; exact vv)) (sl' := [(16, .v (.bool t34)), (15, .v (.int .i64 x0)), (14, .v (.bool false)), (3, .p 0 0), (0, .v (.int .i64 x0))]) (by kernel_rfl) ?_
        refine JO_stepsK 2 [18, 3, 0] (sl' := [(18, .v (.bool (!t34))), (3, .p 0 0), (0, .v (.int .i64 x0))]) (bx' := [(34, [.int .i64 x1.Low, .int .i64 x1.High])]) (by kernel_rfl) ?_
        refine JO_end (by kernel_rfl) ?_
        obtain rfl := sI h36
        exact JE_meet () [0, 3, 18] [] 1 (by kernel_rfl) (by kernel_rfl) (by kernel_rfl) (by kernel_rfl)
  · skip
    refine JE_then ?_
    refine JC_cond p21 (by kernel_rfl) (fun b38 => ?_) (fun b38 => ?_)
    · have h39 := cT b38 h23
      refine JC_seq ?_
      refine JC_region ?_
      refine JO_stepsK 2 [5, 4] (sl' := [(5, .v (.bool false)), (4, .v (.int .i64 0))]) (bx' := [(34, [.int .i64 x1.Low, .int .i64 x1.High])]) (by kernel_rfl) ?_
      refine JO_end (by kernel_rfl) ?_
      refine JE_then ?_
      refine JC_ret ?_
      refine JE_then_ret ?_
      refine JE_ret (vs := [.int .i64 0, .bool false]) (by kernel_rfl) (fun γ w hs => ?_)
      rw [← sI h39]
      exact ⟨rfl, hs.kept.toBelow⟩
    · have h40 := cF b38 h23
      refine JC_skip ?_
      refine JE_then ?_
      refine JC_seq ?_
      refine JC_region ?_
      refine JO_stepsK 4 [22] (sl' := [(22, .v (.int .i64 (w64 (x0 * x1.High))))]) (bx' := [(34, [.int .i64 x1.Low, .int .i64 x1.High])]) (by kernel_rfl) ?_
      obtain ⟨t41, h42, h43⟩ := bS h40
      refine JO_call0 rfl (by kernel_rfl) (f := 113) (args := #[.int .i64 (w64 (x0 * x1.High)), .int .i64 1000000000]) (by kernel_rfl) (x := .int .i64 t41) (fun γ w hs => (by have vv := c_impl_ceilDiv (W := w) h42; exact vv)) (sl' := [(23, .v (.int .i64 t41)), (22, .v (.int .i64 (w64 (x0 * x1.High))))]) (by kernel_rfl) ?_
      refine JO_stepsK 2 [5, 4] (sl' := [(5, .v (.bool true)), (4, .v (.int .i64 t41))]) (bx' := [(34, [.int .i64 x1.Low, .int .i64 x1.High])]) (by kernel_rfl) ?_
      refine JO_end (by kernel_rfl) ?_
      refine JE_then ?_
      refine JC_ret ?_
      refine JE_ret (vs := [.int .i64 t41, .bool true]) (by kernel_rfl) (fun γ w hs => ?_)
      rw [← sI h43]
      exact ⟨rfl, hs.kept.toBelow⟩

theorem c_impl_LiabilityOf {W : World} {x0 : List Int} {a0_0 : Option Addr} {c0_0 : Nat} {x1 : List Band} {a1_0 : Option Addr} {c1_0 : Nat} {r : Int × Bool} (h : impl_LiabilityOf x0 x1 = some r) (hv0_0 : SlView W x0 a0_0 c0_0) (hv1_0 : SlView W x1 a1_0 c1_0) :
    Gives0 Try.prog 27 #[.slice a0_0 x0.length c0_0, .slice a1_0 x1.length c1_0] W (.tuple #[.int .i64 r.1, .bool r.2]) := by
  unfold impl_LiabilityOf at h
  refine enter (args := [.slice a0_0 x0.length c0_0, .slice a1_0 x1.length c1_0]) Try.func27 rfl Try.ntmps27 (by kernel_rfl) ?_
  refine JC_seq ?_
  refine JC_region ?_
  refine JO_stepsK 2 [0, 1] (sl' := [(0, .v (.slice a0_0 x0.length c0_0)), (1, .v (.slice a1_0 x1.length c1_0))]) (bx' := []) (by kernel_rfl) ?_
  refine JO_end (by kernel_rfl) ?_
  refine JE_then ?_
  refine JC_seq ?_
  refine JC_seq ?_
  obtain ⟨p21, hE22, h23⟩ := bS h
  refine JC_cut (τ := Unit) (fun _ => [(0, .v (.slice a0_0 x0.length c0_0)), (1, .v (.slice a1_0 x1.length c1_0)), (20, .v (.bool p21))]) (fun _ => []) (fun _ => []) ?_ (fun _ => ?_)
  · refine JC_region ?_
    refine JO_stepsK 6 [16, 0, 1] (sl' := [(16, .v (.bool ((x0.length : Int) != (x1.length : Int)))), (0, .v (.slice a0_0 x0.length c0_0)), (1, .v (.slice a1_0 x1.length c1_0))]) (bx' := []) (by kernel_rfl) ?_
    refine JO_split 16 ((x0.length : Int) != (x1.length : Int)) (by kernel_rfl) (fun b24 => ?_) (fun b24 => ?_)
    · have h25 := cT b24 hE22
      refine JO_stepsK 4 [20, 0, 1] (sl' := [(20, .v (.bool true)), (0, .v (.slice a0_0 x0.length c0_0)), (1, .v (.slice a1_0 x1.length c1_0))]) (bx' := []) (by kernel_rfl) ?_
      refine JO_end (by kernel_rfl) ?_
      obtain rfl := sI h25
      exact JE_meet () [0, 1, 20] [] 0 (by kernel_rfl) (by kernel_rfl) (by kernel_rfl) (by kernel_rfl)
    · have h26 := cF b24 hE22
      refine JO_stepsK 4 [20, 0, 1] (sl' := [(20, .v (.bool (decide ((x0.length : Int) > 100)))), (0, .v (.slice a0_0 x0.length c0_0)), (1, .v (.slice a1_0 x1.length c1_0))]) (bx' := []) (by kernel_rfl) ?_
      refine JO_end (by kernel_rfl) ?_
      obtain rfl := sI h26
      exact JE_meet () [0, 1, 20] [] 0 (by kernel_rfl) (by kernel_rfl) (by kernel_rfl) (by kernel_rfl)
  · skip
    refine JE_then ?_
    refine JC_cond p21 (by kernel_rfl) (fun b27 => ?_) (fun b27 => ?_)
    · have h28 := cT b27 h23
      refine JC_seq ?_
      refine JC_region ?_
      refine JO_stepsK 2 [5, 4] (sl' := [(5, .v (.bool false)), (4, .v (.int .i64 0))]) (bx' := []) (by kernel_rfl) ?_
      refine JO_end (by kernel_rfl) ?_
      refine JE_then ?_
      refine JC_ret ?_
      refine JE_then_ret ?_
      refine JE_ret (vs := [.int .i64 0, .bool false]) (by kernel_rfl) (fun γ w hs => ?_)
      rw [← sI h28]
      exact ⟨rfl, hs.kept.toBelow⟩
    · have h29 := cF b27 h23
      refine JC_skip ?_
      refine JE_then ?_
      refine JC_seq ?_
      refine JC_region ?_
      refine JO_stepsK 1 [6, 0, 1] (sl' := [(6, .v (.int .i64 0)), (0, .v (.slice a0_0 x0.length c0_0)), (1, .v (.slice a1_0 x1.length c1_0))]) (bx' := []) (by kernel_rfl) ?_
      refine JO_end (by kernel_rfl) ?_
      refine JE_then ?_
      refine JC_seq ?_
      refine JC_seq ?_
      refine JC_region ?_
      refine JO_stepsK 3 [23, 22, 21, 6, 1] (sl' := [(23, .v (.int .i64 0)), (22, .v (.int .i64 (x0.length : Int))), (21, .v (.slice a0_0 x0.length c0_0)), (6, .v (.int .i64 0)), (1, .v (.slice a1_0 x1.length c1_0))]) (bx' := []) (by kernel_rfl) ?_
      refine JO_end (by kernel_rfl) ?_
      refine JE_then ?_
      obtain ⟨r33, hL34, h35⟩ := bS h29
      obtain ⟨k36, hk37, h35⟩ := brkS h35
      refine JC_cutP (τ := (Int) × (Unit)) (fun y => k36 y.1 = some r) (fun y41 => [(6, .v (.int .i64 y41.1))]) (fun y41 => []) (fun y41 => []) ?_ (fun y41 h42p => ?_)
      · refine JC_block ?_
        refine JC_loop (τ := Unit) hL34 (fun s30 y31 => [(23, .v (.int .i64 s30.1)), (22, .v (.int .i64 (x0.length : Int))), (21, .v (.slice a0_0 x0.length c0_0)), (6, .v (.int .i64 s30.2)), (1, .v (.slice a1_0 x1.length c1_0))]) (fun s30 y31 => []) (fun s30 y31 => []) () [23, 22, 21, 6, 1] [] 0 (by kernel_rfl) (by kernel_rfl) (by kernel_rfl) (by kernel_rfl) (fun s30 y31 t32 h38 hd39 => ?_)
        refine JC_seq ?_
        refine JC_region ?_
        refine JO_stepsK 1 [24, 23, 22, 21, 6, 1] (sl' := [(24, .v (.bool (decide (s30.1 < (x0.length : Int))))), (23, .v (.int .i64 s30.1)), (22, .v (.int .i64 (x0.length : Int))), (21, .v (.slice a0_0 x0.length c0_0)), (6, .v (.int .i64 s30.2)), (1, .v (.slice a1_0 x1.length c1_0))]) (bx' := []) (by kernel_rfl) ?_
        refine JO_end (by kernel_rfl) ?_
        refine JE_then ?_
        refine JC_seq ?_
        refine JC_cond (decide (s30.1 < (x0.length : Int))) (by kernel_rfl) (fun b43 => ?_) (fun b43 => ?_)
        · have h44 := cT b43 h38
          refine JC_skip ?_
          refine JE_then ?_
          refine JC_seq ?_
          refine JC_block ?_
          refine JC_seq ?_
          refine JC_region ?_
          refine JO_stepsK 1 [25, 23, 22, 21, 6, 1] (sl' := [(25, .v (.int .i64 s30.1)), (23, .v (.int .i64 s30.1)), (22, .v (.int .i64 (x0.length : Int))), (21, .v (.slice a0_0 x0.length c0_0)), (6, .v (.int .i64 s30.2)), (1, .v (.slice a1_0 x1.length c1_0))]) (bx' := []) (by kernel_rfl) ?_
          obtain ⟨x46, hx47, h48⟩ := bS h44
          refine JO_index rfl (by kernel_rfl) (d := a0_0) (m := x0.length) (j := s30.1) (s := 1) (by kernel_rfl) (fun γ w hs => (hv0_0.kept hs.kept)) rfl hx47 (sl' := [(26, .q a0_0 (Int.toNat s30.1 * 1)), (25, .v (.int .i64 s30.1)), (23, .v (.int .i64 s30.1)), (22, .v (.int .i64 (x0.length : Int))), (21, .v (.slice a0_0 x0.length c0_0)), (6, .v (.int .i64 s30.2)), (1, .v (.slice a1_0 x1.length c1_0))]) (by kernel_rfl) ?_
          refine JO_loadq rfl (by kernel_rfl) (t := 3) (d := a0_0) (Int.toNat s30.1 * 1) 0 (by kernel_rfl) (cs := [.int .i64 x46]) (v := .int .i64 x46) (fun γ w hs => (hv0_0.kept hs.kept).flatq hx47) (by kernel_rfl) (sl' := [(27, .v (.int .i64 x46)), (26, .q a0_0 (Int.toNat s30.1 * 1)), (25, .v (.int .i64 s30.1)), (23, .v (.int .i64 s30.1)), (22, .v (.int .i64 (x0.length : Int))), (21, .v (.slice a0_0 x0.length c0_0)), (6, .v (.int .i64 s30.2)), (1, .v (.slice a1_0 x1.length c1_0))]) (by kernel_rfl) ?_
          refine JO_stepsK 2 [8, 7, 23, 22, 21, 6, 1] (sl' := [(8, .v (.int .i64 x46)), (7, .v (.int .i64 s30.1)), (23, .v (.int .i64 s30.1)), (22, .v (.int .i64 (x0.length : Int))), (21, .v (.slice a0_0 x0.length c0_0)), (6, .v (.int .i64 s30.2)), (1, .v (.slice a1_0 x1.length c1_0))]) (bx' := []) (by kernel_rfl) ?_
          refine JO_end (by kernel_rfl) ?_
          refine JE_then ?_
          refine JC_seq ?_
          refine JC_region ?_
          refine JO_stepsK 3 [31, 30, 29, 23, 22, 21, 6, 1] (sl' := [(31, .v (.int .i64 s30.1)), (30, .v (.slice a1_0 x1.length c1_0)), (29, .v (.int .i64 x46)), (23, .v (.int .i64 s30.1)), (22, .v (.int .i64 (x0.length : Int))), (21, .v (.slice a0_0 x0.length c0_0)), (6, .v (.int .i64 s30.2)), (1, .v (.slice a1_0 x1.length c1_0))]) (bx' := []) (by kernel_rfl) ?_
          obtain ⟨x49, hx50, h51⟩ := bS h48
          refine JO_index rfl (by kernel_rfl) (d := a1_0) (m := x1.length) (j := s30.1) (s := 2) (by kernel_rfl) (fun γ w hs => (hv1_0.kept hs.kept)) rfl hx50 (sl' := [(32, .q a1_0 (Int.toNat s30.1 * 2)), (31, .v (.int .i64 s30.1)), (30, .v (.slice a1_0 x1.length c1_0)), (29, .v (.int .i64 x46)), (23, .v (.int .i64 s30.1)), (22, .v (.int .i64 (x0.length : Int))), (21, .v (.slice a0_0 x0.length c0_0)), (6, .v (.int .i64 s30.2)), (1, .v (.slice a1_0 x1.length c1_0))]) (by kernel_rfl) ?_
          refine JO_loadq rfl (by kernel_rfl) (t := 34) (d := a1_0) (Int.toNat s30.1 * 2) 0 (by kernel_rfl) (cs := [.int .i64 x49.Low, .int .i64 x49.High]) (v := .agg #[.int .i64 x49.Low, .int .i64 x49.High]) (fun γ w hs => (hv1_0.kept hs.kept).flatq hx50) (by kernel_rfl) (sl' := [(33, .v (.agg #[.int .i64 x49.Low, .int .i64 x49.High])), (32, .q a1_0 (Int.toNat s30.1 * 2)), (31, .v (.int .i64 s30.1)), (30, .v (.slice a1_0 x1.length c1_0)), (29, .v (.int .i64 x46)), (23, .v (.int .i64 s30.1)), (22, .v (.int .i64 (x0.length : Int))), (21, .v (.slice a0_0 x0.length c0_0)), (6, .v (.int .i64 s30.2)), (1, .v (.slice a1_0 x1.length c1_0))]) (by kernel_rfl) ?_
          obtain ⟨t52, h53, h54⟩ := bS h51
          refine JO_call0 rfl (by kernel_rfl) (f := 73) (args := #[.int .i64 x46, .agg #[.int .i64 x49.Low, .int .i64 x49.High]]) (by kernel_rfl) (x := .tuple #[.int .i64 t52.1, .bool t52.2]) (fun γ w hs => (by have vv := c_impl_ReserveFor (W := w) h53; exact vv)) (sl' := [(34, .v (.tuple #[.int .i64 t52.1, .bool t52.2])), (33, .v (.agg #[.int .i64 x49.Low, .int .i64 x49.High])), (32, .q a1_0 (Int.toNat s30.1 * 2)), (31, .v (.int .i64 s30.1)), (30, .v (.slice a1_0 x1.length c1_0)), (29, .v (.int .i64 x46)), (23, .v (.int .i64 s30.1)), (22, .v (.int .i64 (x0.length : Int))), (21, .v (.slice a0_0 x0.length c0_0)), (6, .v (.int .i64 s30.2)), (1, .v (.slice a1_0 x1.length c1_0))]) (by kernel_rfl) ?_
          refine JO_stepsK 5 [10, 9, 23, 22, 21, 6, 1] (sl' := [(10, .v (.bool t52.2)), (9, .v (.int .i64 t52.1)), (23, .v (.int .i64 s30.1)), (22, .v (.int .i64 (x0.length : Int))), (21, .v (.slice a0_0 x0.length c0_0)), (6, .v (.int .i64 s30.2)), (1, .v (.slice a1_0 x1.length c1_0))]) (bx' := []) (by kernel_rfl) ?_
          refine JO_end (by kernel_rfl) ?_
          refine JE_then ?_
          refine JC_seq ?_
          refine JC_seq ?_
          refine JC_region ?_
          refine JO_stepsK 2 [38, 9, 23, 22, 21, 6, 1] (sl' := [(38, .v (.bool (!t52.2))), (9, .v (.int .i64 t52.1)), (23, .v (.int .i64 s30.1)), (22, .v (.int .i64 (x0.length : Int))), (21, .v (.slice a0_0 x0.length c0_0)), (6, .v (.int .i64 s30.2)), (1, .v (.slice a1_0 x1.length c1_0))]) (bx' := []) (by kernel_rfl) ?_
          refine JO_end (by kernel_rfl) ?_
          refine JE_then ?_
          refine JC_cond (!t52.2) (by kernel_rfl) (fun b56 => ?_) (fun b56 => ?_)
          · have h57 := cT b56 h54
            refine JC_seq ?_
            refine JC_region ?_
            refine JO_stepsK 2 [5, 4] (sl' := [(5, .v (.bool false)), (4, .v (.int .i64 0))]) (bx' := []) (by kernel_rfl) ?_
            refine JO_end (by kernel_rfl) ?_
            refine JE_then ?_
            refine JC_ret ?_
            refine JE_then_ret ?_
            refine JE_block_ret ?_
            refine JE_then_ret ?_
            refine JE_then_ret ?_
            have h59 := leafR hd39 h57 h35
            refine JE_block_ret ?_
            refine JE_then_ret ?_
            refine JE_then_ret ?_
            refine JE_ret (vs := [.int .i64 0, .bool false]) (by kernel_rfl) (fun γ w hs => ?_)
            rw [← sI h59]
            exact ⟨rfl, hs.kept.toBelow⟩
          · have h58 := cF b56 h54
            refine JC_skip ?_
            refine JE_then ?_
            refine JC_region ?_
            refine JO_stepsK 4 [6, 23, 22, 21, 1] (sl' := [(6, .v (.int .i64 (w64 (s30.2 + t52.1)))), (23, .v (.int .i64 s30.1)), (22, .v (.int .i64 (x0.length : Int))), (21, .v (.slice a0_0 x0.length c0_0)), (1, .v (.slice a1_0 x1.length c1_0))]) (bx' := []) (by kernel_rfl) ?_
            refine JO_end (by kernel_rfl) ?_
            refine JE_block_normal ?_
            refine JE_then ?_
            refine JC_region ?_
            refine JO_stepsK 2 [23, 6, 22, 21, 1] (sl' := [(23, .v (.int .i64 (w64 (s30.1 + 1)))), (6, .v (.int .i64 (w64 (s30.2 + t52.1)))), (22, .v (.int .i64 (x0.length : Int))), (21, .v (.slice a0_0 x0.length c0_0)), (1, .v (.slice a1_0 x1.length c1_0))]) (bx' := []) (by kernel_rfl) ?_
            refine JO_end (by kernel_rfl) ?_
            exact JE_cont h58 () [23, 22, 21, 6, 1] [] 0 (by kernel_rfl) (by kernel_rfl) (by kernel_rfl) (by kernel_rfl)
        · have h45 := cF b43 h38
          refine JC_exit ?_
          refine JE_then_exit ?_
          refine JE_then_exit ?_
          refine JE_block_hit ?_
          have h60 := leafB hd39 h45 h35
          exact JE_meetP (s30.2, ()) h60 [6] [] 0 (by kernel_rfl) (by kernel_rfl) (by kernel_rfl) (by kernel_rfl)
      · have h42 := (congrFun hk37 _).symm.trans h42p
        refine JE_then ?_
        refine JC_seq ?_
        refine JC_region ?_
        refine JO_stepsK 3 [5, 4] (sl' := [(5, .v (.bool true)), (4, .v (.int .i64 y41.1))]) (bx' := []) (by kernel_rfl) ?_
        refine JO_end (by kernel_rfl) ?_
        refine JE_then ?_
        refine JC_ret ?_
        refine JE_ret (vs := [.int .i64 y41.1, .bool true]) (by kernel_rfl) (fun γ w hs => ?_)
        rw [← sI h42]
        exact ⟨rfl, hs.kept.toBelow⟩

theorem c_laws_eqBand {W : World} {x0 : Band} {x1 : Band} {r : Bool} (h : laws_eqBand x0 x1 = some r)  :
    Gives0 Try.prog 76 #[.agg #[.int .i64 x0.Low, .int .i64 x0.High], .agg #[.int .i64 x1.Low, .int .i64 x1.High]] W (.bool r) := by
  unfold laws_eqBand at h
  refine enter (args := [.agg #[.int .i64 x0.Low, .int .i64 x0.High], .agg #[.int .i64 x1.Low, .int .i64 x1.High]]) Try.func76 rfl Try.ntmps76 (by kernel_rfl) ?_
  refine JC_seq ?_
  refine JC_region ?_
  refine JO_stepsK 3 [3, 2] (sl' := [(3, .p 1 0), (2, .p 0 0)]) (bx' := [(34, [.int .i64 x0.Low, .int .i64 x0.High]), (34, [.int .i64 x1.Low, .int .i64 x1.High])]) (by kernel_rfl) ?_
  refine JO_end (by kernel_rfl) ?_
  refine JE_then ?_
  refine JC_seq ?_
  refine JC_seq ?_
  refine JC_region ?_
  refine JO_stepsK 5 [9, 3, 2] (sl' := [(9, .v (.bool (x0.Low != x1.Low))), (3, .p 1 0), (2, .p 0 0)]) (bx' := [(34, [.int .i64 x0.Low, .int .i64 x0.High]), (34, [.int .i64 x1.Low, .int .i64 x1.High])]) (by kernel_rfl) ?_
  refine JO_end (by kernel_rfl) ?_
  refine JE_then ?_
  refine JC_cond (x0.Low != x1.Low) (by kernel_rfl) (fun b21 => ?_) (fun b21 => ?_)
  · have h22 := cT b21 h
    refine JC_seq ?_
    refine JC_region ?_
    refine JO_stepsK 1 [4] (sl' := [(4, .v (.bool false))]) (bx' := [(34, [.int .i64 x0.Low, .int .i64 x0.High]), (34, [.int .i64 x1.Low, .int .i64 x1.High])]) (by kernel_rfl) ?_
    refine JO_end (by kernel_rfl) ?_
    refine JE_then ?_
    refine JC_ret ?_
    refine JE_then_ret ?_
    refine JE_ret (vs := [.bool false]) (by kernel_rfl) (fun γ w hs => ?_)
    rw [← sI h22]
    exact ⟨rfl, hs.kept.toBelow⟩
  · have h23 := cF b21 h
    refine JC_skip ?_
    refine JE_then ?_
    refine JC_seq ?_
    refine JC_seq ?_
    refine JC_region ?_
    refine JO_stepsK 5 [14] (sl' := [(14, .v (.bool (x0.High != x1.High)))]) (bx' := [(34, [.int .i64 x0.Low, .int .i64 x0.High]), (34, [.int .i64 x1.Low, .int .i64 x1.High])]) (by kernel_rfl) ?_
    refine JO_end (by kernel_rfl) ?_
    refine JE_then ?_
    refine JC_cond (x0.High != x1.High) (by kernel_rfl) (fun b24 => ?_) (fun b24 => ?_)
    · have h25 := cT b24 h23
      refine JC_seq ?_
      refine JC_region ?_
      refine JO_stepsK 1 [4] (sl' := [(4, .v (.bool false))]) (bx' := [(34, [.int .i64 x0.Low, .int .i64 x0.High]), (34, [.int .i64 x1.Low, .int .i64 x1.High])]) (by kernel_rfl) ?_
      refine JO_end (by kernel_rfl) ?_
      refine JE_then ?_
      refine JC_ret ?_
      refine JE_then_ret ?_
      refine JE_ret (vs := [.bool false]) (by kernel_rfl) (fun γ w hs => ?_)
      rw [← sI h25]
      exact ⟨rfl, hs.kept.toBelow⟩
    · have h26 := cF b24 h23
      refine JC_skip ?_
      refine JE_then ?_
      refine JC_seq ?_
      refine JC_region ?_
      refine JO_stepsK 1 [4] (sl' := [(4, .v (.bool true))]) (bx' := [(34, [.int .i64 x0.Low, .int .i64 x0.High]), (34, [.int .i64 x1.Low, .int .i64 x1.High])]) (by kernel_rfl) ?_
      refine JO_end (by kernel_rfl) ?_
      refine JE_then ?_
      refine JC_ret ?_
      refine JE_ret (vs := [.bool true]) (by kernel_rfl) (fun γ w hs => ?_)
      rw [← sI h26]
      exact ⟨rfl, hs.kept.toBelow⟩

theorem c_laws_eqBandS {W : World} {x0 : List Band} {a0_0 : Option Addr} {c0_0 : Nat} {x1 : List Band} {a1_0 : Option Addr} {c1_0 : Nat} {r : Bool} (h : laws_eqBandS x0 x1 = some r) (hv0_0 : SlView W x0 a0_0 c0_0) (hv1_0 : SlView W x1 a1_0 c1_0) :
    Gives0 Try.prog 37 #[.slice a0_0 x0.length c0_0, .slice a1_0 x1.length c1_0] W (.bool r) := by
  unfold laws_eqBandS at h
  refine enter (args := [.slice a0_0 x0.length c0_0, .slice a1_0 x1.length c1_0]) Try.func37 rfl Try.ntmps37 (by kernel_rfl) ?_
  refine JC_seq ?_
  refine JC_region ?_
  refine JO_stepsK 1 [0, 1] (sl' := [(0, .v (.slice a0_0 x0.length c0_0)), (1, .v (.slice a1_0 x1.length c1_0))]) (bx' := []) (by kernel_rfl) ?_
  refine JO_end (by kernel_rfl) ?_
  refine JE_then ?_
  refine JC_seq ?_
  refine JC_seq ?_
  refine JC_region ?_
  refine JO_stepsK 5 [10, 0, 1] (sl' := [(10, .v (.bool ((x0.length : Int) != (x1.length : Int)))), (0, .v (.slice a0_0 x0.length c0_0)), (1, .v (.slice a1_0 x1.length c1_0))]) (bx' := []) (by kernel_rfl) ?_
  refine JO_end (by kernel_rfl) ?_
  refine JE_then ?_
  refine JC_cond ((x0.length : Int) != (x1.length : Int)) (by kernel_rfl) (fun b21 => ?_) (fun b21 => ?_)
  · have h22 := cT b21 h
    refine JC_seq ?_
    refine JC_region ?_
    refine JO_stepsK 1 [4] (sl' := [(4, .v (.bool false))]) (bx' := []) (by kernel_rfl) ?_
    refine JO_end (by kernel_rfl) ?_
    refine JE_then ?_
    refine JC_ret ?_
    refine JE_then_ret ?_
    refine JE_ret (vs := [.bool false]) (by kernel_rfl) (fun γ w hs => ?_)
    rw [← sI h22]
    exact ⟨rfl, hs.kept.toBelow⟩
  · have h23 := cF b21 h
    refine JC_skip ?_
    refine JE_then ?_
    refine JC_seq ?_
    refine JC_seq ?_
    refine JC_region ?_
    refine JO_stepsK 1 [5, 0, 1] (sl' := [(5, .v (.int .i64 0)), (0, .v (.slice a0_0 x0.length c0_0)), (1, .v (.slice a1_0 x1.length c1_0))]) (bx' := []) (by kernel_rfl) ?_
    refine JO_end (by kernel_rfl) ?_
    refine JE_then ?_
    obtain ⟨r27, hL28, h29⟩ := bS h23
    obtain ⟨k30, hk31, h29⟩ := brkS h29
    refine JC_cutP (τ := (Unit) × (Unit)) (fun y => k30 y.1 = some r) (fun y35 => []) (fun y35 => []) (fun y35 => []) ?_ (fun y35 h36p => ?_)
    · refine JC_block ?_
      refine JC_loop (τ := Unit) hL28 (fun s24 y25 => [(5, .v (.int .i64 s24)), (0, .v (.slice a0_0 x0.length c0_0)), (1, .v (.slice a1_0 x1.length c1_0))]) (fun s24 y25 => []) (fun s24 y25 => []) () [5, 0, 1] [] 0 (by kernel_rfl) (by kernel_rfl) (by kernel_rfl) (by kernel_rfl) (fun s24 y25 t26 h32 hd33 => ?_)
      refine JC_seq ?_
      refine JC_seq ?_
      refine JC_region ?_
      refine JO_stepsK 4 [14, 5, 0, 1] (sl' := [(14, .v (.bool (decide (s24 < (x0.length : Int))))), (5, .v (.int .i64 s24)), (0, .v (.slice a0_0 x0.length c0_0)), (1, .v (.slice a1_0 x1.length c1_0))]) (bx' := []) (by kernel_rfl) ?_
      refine JO_end (by kernel_rfl) ?_
      refine JE_then ?_
      refine JC_cond (decide (s24 < (x0.length : Int))) (by kernel_rfl) (fun b37 => ?_) (fun b37 => ?_)
      · have h38 := cT b37 h32
        refine JC_skip ?_
        refine JE_then ?_
        refine JC_seq ?_
        refine JC_block ?_
        refine JC_seq ?_
        refine JC_quiet (by kernel_rfl) (by kernel_rfl) ?_
        refine JQ_stepsK 2 [18, 17, 5, 0, 1] (sl' := [(18, .v (.int .i64 s24)), (17, .v (.slice a0_0 x0.length c0_0)), (5, .v (.int .i64 s24)), (0, .v (.slice a0_0 x0.length c0_0)), (1, .v (.slice a1_0 x1.length c1_0))]) (by kernel_rfl) ?_
        obtain ⟨x40, hx41, h42⟩ := bS h38
        refine JQ_index rfl (by kernel_rfl) (d := a0_0) (m := x0.length) (j := s24) (s := 2) (by kernel_rfl) (fun γ w hs => (hv0_0.kept hs.kept)) rfl hx41 (sl' := [(19, .q a0_0 (Int.toNat s24 * 2)), (18, .v (.int .i64 s24)), (17, .v (.slice a0_0 x0.length c0_0)), (5, .v (.int .i64 s24)), (0, .v (.slice a0_0 x0.length c0_0)), (1, .v (.slice a1_0 x1.length c1_0))]) (by kernel_rfl) ?_
        refine JQ_loadq rfl (by kernel_rfl) (t := 34) (d := a0_0) (Int.toNat s24 * 2) 0 (by kernel_rfl) (cs := [.int .i64 x40.Low, .int .i64 x40.High]) (v := .agg #[.int .i64 x40.Low, .int .i64 x40.High]) (fun γ w hs => (hv0_0.kept hs.kept).flatq hx41) (by kernel_rfl) (sl' := [(20, .v (.agg #[.int .i64 x40.Low, .int .i64 x40.High])), (19, .q a0_0 (Int.toNat s24 * 2)), (18, .v (.int .i64 s24)), (17, .v (.slice a0_0 x0.length c0_0)), (5, .v (.int .i64 s24)), (0, .v (.slice a0_0 x0.length c0_0)), (1, .v (.slice a1_0 x1.length c1_0))]) (by kernel_rfl) ?_
        refine JQ_stepsK 2 [22, 21, 20, 5, 0, 1] (sl' := [(22, .v (.int .i64 s24)), (21, .v (.slice a1_0 x1.length c1_0)), (20, .v (.agg #[.int .i64 x40.Low, .int .i64 x40.High])), (5, .v (.int .i64 s24)), (0, .v (.slice a0_0 x0.length c0_0)), (1, .v (.slice a1_0 x1.length c1_0))]) (by kernel_rfl) ?_
        obtain ⟨x43, hx44, h45⟩ := bS h42
        refine JQ_index rfl (by kernel_rfl) (d := a1_0) (m := x1.length) (j := s24) (s := 2) (by kernel_rfl) (fun γ w hs => (hv1_0.kept hs.kept)) rfl hx44 (sl' := [(23, .q a1_0 (Int.toNat s24 * 2)), (22, .v (.int .i64 s24)), (21, .v (.slice a1_0 x1.length c1_0)), (20, .v (.agg #[.int .i64 x40.Low, .int .i64 x40.High])), (5, .v (.int .i64 s24)), (0, .v (.slice a0_0 x0.length c0_0)), (1, .v (.slice a1_0 x1.length c1_0))]) (by kernel_rfl) ?_
        refine JQ_loadq rfl (by kernel_rfl) (t := 34) (d := a1_0) (Int.toNat s24 * 2) 0 (by kernel_rfl) (cs := [.int .i64 x43.Low, .int .i64 x43.High]) (v := .agg #[.int .i64 x43.Low, .int .i64 x43.High]) (fun γ w hs => (hv1_0.kept hs.kept).flatq hx44) (by kernel_rfl) (sl' := [(24, .v (.agg #[.int .i64 x43.Low, .int .i64 x43.High])), (23, .q a1_0 (Int.toNat s24 * 2)), (22, .v (.int .i64 s24)), (21, .v (.slice a1_0 x1.length c1_0)), (20, .v (.agg #[.int .i64 x40.Low, .int .i64 x40.High])), (5, .v (.int .i64 s24)), (0, .v (.slice a0_0 x0.length c0_0)), (1, .v (.slice a1_0 x1.length c1_0))]) (by kernel_rfl) ?_
        obtain ⟨t46, h47, h48⟩ := bS h45
        refine JQ_call0 rfl (by kernel_rfl) (f := 76) (args := #[.agg #[.int .i64 x40.Low, .int .i64 x40.High], .agg #[.int .i64 x43.Low, .int .i64 x43.High]]) (by kernel_rfl) (x := .bool t46) (fun γ w hs => (by have vv := c_laws_eqBand (W := w) h47; exact vv)) (sl' := [(25, .v (.bool t46)), (24, .v (.agg #[.int .i64 x43.Low, .int .i64 x43.High])), (23, .q a1_0 (Int.toNat s24 * 2)), (22, .v (.int .i64 s24)), (21, .v (.slice a1_0 x1.length c1_0)), (20, .v (.agg #[.int .i64 x40.Low, .int .i64 x40.High])), (5, .v (.int .i64 s24)), (0, .v (.slice a0_0 x0.length c0_0)), (1, .v (.slice a1_0 x1.length c1_0))]) (by kernel_rfl) ?_
        refine JQ_stepsK 1 [26, 5, 0, 1] (sl' := [(26, .v (.bool (!t46))), (5, .v (.int .i64 s24)), (0, .v (.slice a0_0 x0.length c0_0)), (1, .v (.slice a1_0 x1.length c1_0))]) (by kernel_rfl) ?_
        refine JQ_end (by kernel_rfl) ?_
        refine JE_then ?_
        refine JC_cond (!t46) (by kernel_rfl) (fun b50 => ?_) (fun b50 => ?_)
        · have h51 := cT b50 h48
          refine JC_seq ?_
          refine JC_region ?_
          refine JO_stepsK 1 [4] (sl' := [(4, .v (.bool false))]) (bx' := []) (by kernel_rfl) ?_
          refine JO_end (by kernel_rfl) ?_
          refine JE_then ?_
          refine JC_ret ?_
          refine JE_block_ret ?_
          refine JE_then_ret ?_
          refine JE_then_ret ?_
          have h53 := leafR hd33 h51 h29
          refine JE_block_ret ?_
          refine JE_then_ret ?_
          refine JE_then_ret ?_
          refine JE_ret (vs := [.bool false]) (by kernel_rfl) (fun γ w hs => ?_)
          rw [← sI h53]
          exact ⟨rfl, hs.kept.toBelow⟩
        · have h52 := cF b50 h48
          refine JC_skip ?_
          refine JE_block_normal ?_
          refine JE_then ?_
          refine JC_region ?_
          refine JO_stepsK 3 [5, 0, 1] (sl' := [(5, .v (.int .i64 (w64 (s24 + 1)))), (0, .v (.slice a0_0 x0.length c0_0)), (1, .v (.slice a1_0 x1.length c1_0))]) (bx' := []) (by kernel_rfl) ?_
          refine JO_end (by kernel_rfl) ?_
          exact JE_cont h52 () [5, 0, 1] [] 0 (by kernel_rfl) (by kernel_rfl) (by kernel_rfl) (by kernel_rfl)
      · have h39 := cF b37 h32
        refine JC_exit ?_
        refine JE_then_exit ?_
        refine JE_then_exit ?_
        refine JE_block_hit ?_
        have h54 := leafB hd33 h39 h29
        exact JE_meetP ((), ()) h54 [] [] 0 (by kernel_rfl) (by kernel_rfl) (by kernel_rfl) (by kernel_rfl)
    · have h36 := (congrFun hk31 _).symm.trans h36p
      refine JE_then ?_
      refine JC_seq ?_
      refine JC_region ?_
      refine JO_stepsK 1 [4] (sl' := [(4, .v (.bool true))]) (bx' := []) (by kernel_rfl) ?_
      refine JO_end (by kernel_rfl) ?_
      refine JE_then ?_
      refine JC_ret ?_
      refine JE_ret (vs := [.bool true]) (by kernel_rfl) (fun γ w hs => ?_)
      rw [← sI h36]
      exact ⟨rfl, hs.kept.toBelow⟩
end Go.Pen
