/-
  Each Go function does what its plain function says: written by a program of ours.
-/
import Derived.Test.YtdmclmbdghcacaaW1
import Derived.Test.YtdmclmbdghcacaaProg
namespace Go.Pen
open Go.Proofs
set_option linter.unusedVariables false
set_option maxRecDepth 100000
set_option maxHeartbeats 1000000

theorem c_laws_FnExactLiabilityOf {W : World} {x0 : List Int} {a0_0 : Option Addr} {c0_0 : Nat} {x1 : List Band} {a1_0 : Option Addr} {c1_0 : Nat} {r : Bool} (h : laws_FnExactLiabilityOf x0 x1 = some r) (hv0_0 : SlView W x0 a0_0 c0_0) (hv1_0 : SlView W x1 a1_0 c1_0) :
    Gives0 Try.prog 7 #[.slice a0_0 x0.length c0_0, .slice a1_0 x1.length c1_0] W (.bool r) := by
  unfold laws_FnExactLiabilityOf at h
  refine enter (args := [.slice a0_0 x0.length c0_0, .slice a1_0 x1.length c1_0]) Try.func7 rfl Try.ntmps7 (by kernel_rfl) ?_
  refine JC_seq ?_
  refine JC_region ?_
  refine JO_stepsK 1 [0, 1] (sl' := [(0, .v (.slice a0_0 x0.length c0_0)), (1, .v (.slice a1_0 x1.length c1_0))]) (bx' := []) (by kernel_rfl) ?_
  refine JO_end (by kernel_rfl) ?_
  refine JE_then ?_
  refine JC_seq ?_
  refine JC_seq ?_
  refine JC_region ?_
  refine JO_stepsK 3 [14, 0, 1] (sl' := [(14, .v (.bool (decide ((x0.length : Int) > 1048576)))), (0, .v (.slice a0_0 x0.length c0_0)), (1, .v (.slice a1_0 x1.length c1_0))]) (bx' := []) (by kernel_rfl) ?_
  refine JO_end (by kernel_rfl) ?_
  refine JE_then ?_
  refine JC_cond (decide ((x0.length : Int) > 1048576)) (by kernel_rfl) (fun b21 => ?_) (fun b21 => ?_)
  · have h22 := cT b21 h
    refine JC_seq ?_
    refine JC_region ?_
    refine JO_stepsK 1 [4] (sl' := [(4, .v (.bool true))]) (bx' := []) (by kernel_rfl) ?_
    refine JO_end (by kernel_rfl) ?_
    refine JE_then ?_
    refine JC_ret ?_
    refine JE_then_ret ?_
    refine JE_ret (vs := [.bool true]) (by kernel_rfl) (fun γ w hs => ?_)
    rw [← sI h22]
    exact ⟨rfl, hs.kept.toBelow⟩
  · have h23 := cF b21 h
    refine JC_skip ?_
    refine JE_then ?_
    refine JC_seq ?_
    refine JC_region ?_
    refine JO_stepsK 1 [5, 0, 1] (sl' := [(5, .v (.int .i64 1048576)), (0, .v (.slice a0_0 x0.length c0_0)), (1, .v (.slice a1_0 x1.length c1_0))]) (bx' := []) (by kernel_rfl) ?_
    refine JO_end (by kernel_rfl) ?_
    refine JE_then ?_
    refine JC_seq ?_
    refine JC_region ?_
    refine JO_stepsK 2 [16, 15, 0, 1] (sl' := [(16, .v (.int .i64 1048576)), (15, .v (.slice a1_0 x1.length c1_0)), (0, .v (.slice a0_0 x0.length c0_0)), (1, .v (.slice a1_0 x1.length c1_0))]) (bx' := []) (by kernel_rfl) ?_
    obtain ⟨t24, h25, h26⟩ := bS h23
    refine JO_call0 rfl (by kernel_rfl) (f := 34) (args := #[.slice a1_0 x1.length c1_0, .int .i64 1048576]) (by kernel_rfl) (x := .int .i64 t24) (fun γ w hs => (by have vv := c_laws_szBandS (W := w) h25 (hv1_0.kept hs.kept); exact vv)) (sl' := [(17, .v (.int .i64 t24)), (16, .v (.int .i64 1048576)), (15, .v (.slice a1_0 x1.length c1_0)), (0, .v (.slice a0_0 x0.length c0_0)), (1, .v (.slice a1_0 x1.length c1_0))]) (by kernel_rfl) ?_
    refine JO_stepsK 1 [5, 0, 1] (sl' := [(5, .v (.int .i64 t24)), (0, .v (.slice a0_0 x0.length c0_0)), (1, .v (.slice a1_0 x1.length c1_0))]) (bx' := []) (by kernel_rfl) ?_
    refine JO_end (by kernel_rfl) ?_
    refine JE_then ?_
    refine JC_seq ?_
    refine JC_seq ?_
    refine JC_region ?_
    refine JO_stepsK 2 [19, 0, 1] (sl' := [(19, .v (.bool (decide (t24 < 0)))), (0, .v (.slice a0_0 x0.length c0_0)), (1, .v (.slice a1_0 x1.length c1_0))]) (bx' := []) (by kernel_rfl) ?_
    refine JO_end (by kernel_rfl) ?_
    refine JE_then ?_
    refine JC_cond (decide (t24 < 0)) (by kernel_rfl) (fun b28 => ?_) (fun b28 => ?_)
    · have h29 := cT b28 h26
      refine JC_seq ?_
      refine JC_region ?_
      refine JO_stepsK 1 [4] (sl' := [(4, .v (.bool true))]) (bx' := []) (by kernel_rfl) ?_
      refine JO_end (by kernel_rfl) ?_
      refine JE_then ?_
      refine JC_ret ?_
      refine JE_then_ret ?_
      refine JE_ret (vs := [.bool true]) (by kernel_rfl) (fun γ w hs => ?_)
      rw [← sI h29]
      exact ⟨rfl, hs.kept.toBelow⟩
    · have h30 := cF b28 h26
      refine JC_skip ?_
      refine JE_then ?_
      refine JC_seq ?_
      refine JC_region ?_
      refine JO_stepsK 1 [21, 0, 1] (sl' := [(21, .v (.slice a0_0 x0.length c0_0)), (0, .v (.slice a0_0 x0.length c0_0)), (1, .v (.slice a1_0 x1.length c1_0))]) (bx' := []) (by kernel_rfl) ?_
      obtain ⟨t31, h32, h33⟩ := bS h30
      refine JO_call rfl (by kernel_rfl) (f := 16) (args := #[.slice a0_0 x0.length c0_0]) (by kernel_rfl) (fun γ w hs => (by have vv := c_laws_toIntS (W := w) h32 (hv0_0.kept hs.kept); exact vv)) (fun (y34 : (Option Addr × Nat)) => [(22, .v (.slice y34.1 t31.length y34.2)), (21, .v (.slice a0_0 x0.length c0_0)), (0, .v (.slice a0_0 x0.length c0_0)), (1, .v (.slice a1_0 x1.length c1_0))]) (fun y34 => by kernel_rfl) (fun y34 => ?_)
      refine JO_stepsK 1 [23, 22, 0, 1] (sl' := [(23, .v (.slice a1_0 x1.length c1_0)), (22, .v (.slice y34.1 t31.length y34.2)), (0, .v (.slice a0_0 x0.length c0_0)), (1, .v (.slice a1_0 x1.length c1_0))]) (bx' := []) (by kernel_rfl) ?_
      obtain ⟨t35, h36, h37⟩ := bS h33
      refine JO_call rfl (by kernel_rfl) (f := 36) (args := #[.slice a1_0 x1.length c1_0]) (by kernel_rfl) (fun γ w hs => (by have vv := c_laws_toBandS (W := w) h36 (hv1_0.kept hs.kept); exact vv)) (fun (y38 : (Option Addr × Nat)) => [(24, .v (.slice y38.1 t35.length y38.2)), (23, .v (.slice a1_0 x1.length c1_0)), (22, .v (.slice y34.1 t31.length y34.2)), (0, .v (.slice a0_0 x0.length c0_0)), (1, .v (.slice a1_0 x1.length c1_0))]) (fun y38 => by kernel_rfl) (fun y38 => ?_)
      obtain ⟨t39, h40, h41⟩ := bS h37
      refine JO_call0 rfl (by kernel_rfl) (f := 35) (args := #[.slice y34.1 t31.length y34.2, .slice y38.1 t35.length y38.2]) (by kernel_rfl) (x := .tuple #[.int .i64 t39.1, .bool t39.2]) (fun γ w hs => (by have v0 := hs.view 1 rfl; have v1 := hs.view 0 rfl; have vv := c_spec_LiabilityOf (W := w) h40 v0 v1; exact vv)) (sl' := [(25, .v (.tuple #[.int .i64 t39.1, .bool t39.2])), (24, .v (.slice y38.1 t35.length y38.2)), (23, .v (.slice a1_0 x1.length c1_0)), (22, .v (.slice y34.1 t31.length y34.2)), (0, .v (.slice a0_0 x0.length c0_0)), (1, .v (.slice a1_0 x1.length c1_0))]) (by kernel_rfl) ?_
      refine JO_stepsK 5 [7, 6, 0, 1] (sl' := [(7, .v (.bool t39.2)), (6, .v (.int .i64 t39.1)), (0, .v (.slice a0_0 x0.length c0_0)), (1, .v (.slice a1_0 x1.length c1_0))]) (bx' := []) (by kernel_rfl) ?_
      refine JO_end (by kernel_rfl) ?_
      refine JE_then ?_
      refine JC_seq ?_
      refine JC_region ?_
      refine JO_stepsK 1 [28, 7, 6, 0, 1] (sl' := [(28, .v (.slice a0_0 x0.length c0_0)), (7, .v (.bool t39.2)), (6, .v (.int .i64 t39.1)), (0, .v (.slice a0_0 x0.length c0_0)), (1, .v (.slice a1_0 x1.length c1_0))]) (bx' := []) (by kernel_rfl) ?_
      obtain ⟨t43, h44, h45⟩ := bS h41
      refine JO_call rfl (by kernel_rfl) (f := 16) (args := #[.slice a0_0 x0.length c0_0]) (by kernel_rfl) (fun γ w hs => (by have vv := c_laws_toIntS (W := w) h44 (hv0_0.kept hs.kept); exact vv)) (fun (y46 : (Option Addr × Nat)) => [(29, .v (.slice y46.1 t43.length y46.2)), (28, .v (.slice a0_0 x0.length c0_0)), (7, .v (.bool t39.2)), (6, .v (.int .i64 t39.1)), (0, .v (.slice a0_0 x0.length c0_0)), (1, .v (.slice a1_0 x1.length c1_0))]) (fun y46 => by kernel_rfl) (fun y46 => ?_)
      refine JO_stepsK 1 [8, 7, 6, 0, 1] (sl' := [(8, .v (.slice y46.1 t43.length y46.2)), (7, .v (.bool t39.2)), (6, .v (.int .i64 t39.1)), (0, .v (.slice a0_0 x0.length c0_0)), (1, .v (.slice a1_0 x1.length c1_0))]) (bx' := []) (by kernel_rfl) ?_
      refine JO_end (by kernel_rfl) ?_
      refine JE_then ?_
      refine JC_seq ?_
      refine JC_region ?_
      refine JO_stepsK 1 [30, 8, 7, 6, 0, 1] (sl' := [(30, .v (.slice a1_0 x1.length c1_0)), (8, .v (.slice y46.1 t43.length y46.2)), (7, .v (.bool t39.2)), (6, .v (.int .i64 t39.1)), (0, .v (.slice a0_0 x0.length c0_0)), (1, .v (.slice a1_0 x1.length c1_0))]) (bx' := []) (by kernel_rfl) ?_
      obtain ⟨t47, h48, h49⟩ := bS h45
      refine JO_call rfl (by kernel_rfl) (f := 36) (args := #[.slice a1_0 x1.length c1_0]) (by kernel_rfl) (fun γ w hs => (by have vv := c_laws_toBandS (W := w) h48 (hv1_0.kept hs.kept); exact vv)) (fun (y50 : (Option Addr × Nat)) => [(31, .v (.slice y50.1 t47.length y50.2)), (30, .v (.slice a1_0 x1.length c1_0)), (8, .v (.slice y46.1 t43.length y46.2)), (7, .v (.bool t39.2)), (6, .v (.int .i64 t39.1)), (0, .v (.slice a0_0 x0.length c0_0)), (1, .v (.slice a1_0 x1.length c1_0))]) (fun y50 => by kernel_rfl) (fun y50 => ?_)
      refine JO_stepsK 1 [9, 8, 7, 6, 0, 1] (sl' := [(9, .v (.slice y50.1 t47.length y50.2)), (8, .v (.slice y46.1 t43.length y46.2)), (7, .v (.bool t39.2)), (6, .v (.int .i64 t39.1)), (0, .v (.slice a0_0 x0.length c0_0)), (1, .v (.slice a1_0 x1.length c1_0))]) (bx' := []) (by kernel_rfl) ?_
      refine JO_end (by kernel_rfl) ?_
      refine JE_then ?_
      refine JC_seq ?_
      refine JC_region ?_
      refine JO_stepsK 2 [34, 33, 9, 8, 7, 6, 0, 1] (sl' := [(34, .v (.slice y50.1 t47.length y50.2)), (33, .v (.slice y46.1 t43.length y46.2)), (9, .v (.slice y50.1 t47.length y50.2)), (8, .v (.slice y46.1 t43.length y46.2)), (7, .v (.bool t39.2)), (6, .v (.int .i64 t39.1)), (0, .v (.slice a0_0 x0.length c0_0)), (1, .v (.slice a1_0 x1.length c1_0))]) (bx' := []) (by kernel_rfl) ?_
      obtain ⟨t51, h52, h53⟩ := bS h49
      refine JO_call0 rfl (by kernel_rfl) (f := 27) (args := #[.slice y46.1 t43.length y46.2, .slice y50.1 t47.length y50.2]) (by kernel_rfl) (x := .tuple #[.int .i64 t51.1, .bool t51.2]) (fun γ w hs => (by have v0 := hs.view 1 rfl; have v1 := hs.view 0 rfl; have vv := c_impl_LiabilityOf (W := w) h52 v0 v1; exact vv)) (sl' := [(35, .v (.tuple #[.int .i64 t51.1, .bool t51.2])), (34, .v (.slice y50.1 t47.length y50.2)), (33, .v (.slice y46.1 t43.length y46.2)), (9, .v (.slice y50.1 t47.length y50.2)), (8, .v (.slice y46.1 t43.length y46.2)), (7, .v (.bool t39.2)), (6, .v (.int .i64 t39.1)), (0, .v (.slice a0_0 x0.length c0_0)), (1, .v (.slice a1_0 x1.length c1_0))]) (by kernel_rfl) ?_
      refine JO_stepsK 5 [11, 10, 9, 8, 7, 6, 0, 1] (sl' := [(11, .v (.bool t51.2)), (10, .v (.int .i64 t51.1)), (9, .v (.slice y50.1 t47.length y50.2)), (8, .v (.slice y46.1 t43.length y46.2)), (7, .v (.bool t39.2)), (6, .v (.int .i64 t39.1)), (0, .v (.slice a0_0 x0.length c0_0)), (1, .v (.slice a1_0 x1.length c1_0))]) (bx' := []) (by kernel_rfl) ?_
      refine JO_end (by kernel_rfl) ?_
      refine JE_then ?_
      refine JC_seq ?_
      refine JC_seq ?_
      obtain ⟨p55, hE56, h57⟩ := bS h53
      refine JC_cut (τ := Unit) (fun _ => [(0, .v (.slice a0_0 x0.length c0_0)), (1, .v (.slice a1_0 x1.length c1_0)), (8, .v (.slice y46.1 t43.length y46.2)), (9, .v (.slice y50.1 t47.length y50.2)), (45, .v (.bool p55))]) (fun _ => []) (fun _ => [SlRes 3 t43 y46.1 y46.2, SlRes 34 t47 y50.1 y50.2]) ?_ (fun _ => ?_)
      · refine JC_region ?_
        refine JO_stepsK 4 [41, 11, 9, 8, 7, 0, 1] (sl' := [(41, .v (.bool (t51.1 != t39.1))), (11, .v (.bool t51.2)), (9, .v (.slice y50.1 t47.length y50.2)), (8, .v (.slice y46.1 t43.length y46.2)), (7, .v (.bool t39.2)), (0, .v (.slice a0_0 x0.length c0_0)), (1, .v (.slice a1_0 x1.length c1_0))]) (bx' := []) (by kernel_rfl) ?_
        refine JO_split 41 (t51.1 != t39.1) (by kernel_rfl) (fun b58 => ?_) (fun b58 => ?_)
        · have h59 := cT b58 hE56
          refine JO_stepsK 4 [45, 9, 8, 0, 1] (sl' := [(45, .v (.bool true)), (9, .v (.slice y50.1 t47.length y50.2)), (8, .v (.slice y46.1 t43.length y46.2)), (0, .v (.slice a0_0 x0.length c0_0)), (1, .v (.slice a1_0 x1.length c1_0))]) (bx' := []) (by kernel_rfl) ?_
          refine JO_end (by kernel_rfl) ?_
          obtain rfl := sI h59
          exact JE_meet () [0, 1, 8, 9, 45] [1, 0] 0 (by kernel_rfl) (by kernel_rfl) (by kernel_rfl) (by kernel_rfl)
        · have h60 := cF b58 hE56
          refine JO_stepsK 4 [45, 9, 8, 0, 1] (sl' := [(45, .v (.bool (!(t51.2 == t39.2)))), (9, .v (.slice y50.1 t47.length y50.2)), (8, .v (.slice y46.1 t43.length y46.2)), (0, .v (.slice a0_0 x0.length c0_0)), (1, .v (.slice a1_0 x1.length c1_0))]) (bx' := []) (by kernel_rfl) ?_
          refine JO_end (by kernel_rfl) ?_
          obtain rfl := sI h60
          exact JE_meet () [0, 1, 8, 9, 45] [1, 0] 0 (by kernel_rfl) (by kernel_rfl) (by kernel_rfl) (by kernel_rfl)
      · skip
        refine JE_then ?_
        refine JC_cond p55 (by kernel_rfl) (fun b61 => ?_) (fun b61 => ?_)
        · have h62 := cT b61 h57
          refine JC_seq ?_
          refine JC_region ?_
          refine JO_stepsK 1 [4] (sl' := [(4, .v (.bool false))]) (bx' := []) (by kernel_rfl) ?_
          refine JO_end (by kernel_rfl) ?_
          refine JE_then ?_
          refine JC_ret ?_
          refine JE_then_ret ?_
          refine JE_ret (vs := [.bool false]) (by kernel_rfl) (fun γ w hs => ?_)
          rw [← sI h62]
          exact ⟨rfl, hs.kept.toBelow⟩
        · have h63 := cF b61 h57
          refine JC_skip ?_
          refine JE_then ?_
          refine JC_seq ?_
          refine JC_seq ?_
          refine JC_region ?_
          refine JO_stepsK 2 [47, 46, 1, 9] (sl' := [(47, .v (.slice a0_0 x0.length c0_0)), (46, .v (.slice y46.1 t43.length y46.2)), (1, .v (.slice a1_0 x1.length c1_0)), (9, .v (.slice y50.1 t47.length y50.2))]) (bx' := []) (by kernel_rfl) ?_
          obtain ⟨t64, h65, h66⟩ := bS h63
          refine JO_call rfl (by kernel_rfl) (f := 16) (args := #[.slice a0_0 x0.length c0_0]) (by kernel_rfl) (fun γ w hs => (by have vv := c_laws_toIntS (W := w) h65 (hv0_0.kept hs.kept); exact vv)) (fun (y67 : (Option Addr × Nat)) => [(48, .v (.slice y67.1 t64.length y67.2)), (47, .v (.slice a0_0 x0.length c0_0)), (46, .v (.slice y46.1 t43.length y46.2)), (1, .v (.slice a1_0 x1.length c1_0)), (9, .v (.slice y50.1 t47.length y50.2))]) (fun y67 => by kernel_rfl) (fun y67 => ?_)
          obtain ⟨t68, h69, h70⟩ := bS h66
          refine JO_call0 rfl (by kernel_rfl) (f := 18) (args := #[.slice y46.1 t43.length y46.2, .slice y67.1 t64.length y67.2]) (by kernel_rfl) (x := .bool t68) (fun γ w hs => (by have v0 := hs.view 1 rfl; have v1 := hs.view 0 rfl; have vv := c_laws_eqIntS (W := w) h69 v0 v1; exact vv)) (sl' := [(49, .v (.bool t68)), (48, .v (.slice y67.1 t64.length y67.2)), (47, .v (.slice a0_0 x0.length c0_0)), (46, .v (.slice y46.1 t43.length y46.2)), (1, .v (.slice a1_0 x1.length c1_0)), (9, .v (.slice y50.1 t47.length y50.2))]) (by kernel_rfl) ?_
          refine JO_stepsK 1 [50, 1, 9] (sl' := [(50, .v (.bool (!t68))), (1, .v (.slice a1_0 x1.length c1_0)), (9, .v (.slice y50.1 t47.length y50.2))]) (bx' := []) (by kernel_rfl) ?_
          refine JO_end (by kernel_rfl) ?_
          refine JE_then ?_
          refine JC_cond (!t68) (by kernel_rfl) (fun b72 => ?_) (fun b72 => ?_)
          · have h73 := cT b72 h70
            refine JC_seq ?_
            refine JC_region ?_
            refine JO_stepsK 1 [4] (sl' := [(4, .v (.bool false))]) (bx' := []) (by kernel_rfl) ?_
            refine JO_end (by kernel_rfl) ?_
            refine JE_then ?_
            refine JC_ret ?_
            refine JE_then_ret ?_
            refine JE_ret (vs := [.bool false]) (by kernel_rfl) (fun γ w hs => ?_)
            rw [← sI h73]
            exact ⟨rfl, hs.kept.toBelow⟩
          · have h74 := cF b72 h70
            refine JC_skip ?_
            refine JE_then ?_
            refine JC_seq ?_
            refine JC_seq ?_
            refine JC_region ?_
            refine JO_stepsK 2 [52, 51] (sl' := [(52, .v (.slice a1_0 x1.length c1_0)), (51, .v (.slice y50.1 t47.length y50.2))]) (bx' := []) (by kernel_rfl) ?_
            obtain ⟨t75, h76, h77⟩ := bS h74
            refine JO_call rfl (by kernel_rfl) (f := 36) (args := #[.slice a1_0 x1.length c1_0]) (by kernel_rfl) (fun γ w hs => (by have vv := c_laws_toBandS (W := w) h76 (hv1_0.kept hs.kept); exact vv)) (fun (y78 : (Option Addr × Nat)) => [(53, .v (.slice y78.1 t75.length y78.2)), (52, .v (.slice a1_0 x1.length c1_0)), (51, .v (.slice y50.1 t47.length y50.2))]) (fun y78 => by kernel_rfl) (fun y78 => ?_)
            obtain ⟨t79, h80, h81⟩ := bS h77
            refine JO_call0 rfl (by kernel_rfl) (f := 37) (args := #[.slice y50.1 t47.length y50.2, .slice y78.1 t75.length y78.2]) (by kernel_rfl) (x := .bool t79) (fun γ w hs => (by have v0 := hs.view 3 rfl; have v1 := hs.view 0 rfl; have vv := c_laws_eqBandS (W := w) h80 v0 v1; exact vv)) (sl' := [(54, .v (.bool t79)), (53, .v (.slice y78.1 t75.length y78.2)), (52, .v (.slice a1_0 x1.length c1_0)), (51, .v (.slice y50.1 t47.length y50.2))]) (by kernel_rfl) ?_
            refine JO_stepsK 1 [55] (sl' := [(55, .v (.bool (!t79)))]) (bx' := []) (by kernel_rfl) ?_
            refine JO_end (by kernel_rfl) ?_
            refine JE_then ?_
            refine JC_cond (!t79) (by kernel_rfl) (fun b83 => ?_) (fun b83 => ?_)
            · have h84 := cT b83 h81
              refine JC_seq ?_
              refine JC_region ?_
              refine JO_stepsK 1 [4] (sl' := [(4, .v (.bool false))]) (bx' := []) (by kernel_rfl) ?_
              refine JO_end (by kernel_rfl) ?_
              refine JE_then ?_
              refine JC_ret ?_
              refine JE_then_ret ?_
              refine JE_ret (vs := [.bool false]) (by kernel_rfl) (fun γ w hs => ?_)
              rw [← sI h84]
              exact ⟨rfl, hs.kept.toBelow⟩
            · have h85 := cF b83 h81
              refine JC_skip ?_
              refine JE_then ?_
              refine JC_seq ?_
              refine JC_region ?_
              refine JO_stepsK 1 [4] (sl' := [(4, .v (.bool true))]) (bx' := []) (by kernel_rfl) ?_
              refine JO_end (by kernel_rfl) ?_
              refine JE_then ?_
              refine JC_ret ?_
              refine JE_ret (vs := [.bool true]) (by kernel_rfl) (fun γ w hs => ?_)
              rw [← sI h85]
              exact ⟨rfl, hs.kept.toBelow⟩

theorem c_laws_szFactS {W : World} {x0 : List Fact} {a0_0 : Option Addr} {c0_0 : Nat} {x1 : Int} {r : Int} (h : laws_szFactS x0 x1 = some r) (hv0_0 : SlView W x0 a0_0 c0_0) :
    Gives0 Try.prog 77 #[.slice a0_0 x0.length c0_0, .int .i64 x1] W (.int .i64 r) := by
  unfold laws_szFactS at h
  refine enter (args := [.slice a0_0 x0.length c0_0, .int .i64 x1]) Try.func77 rfl Try.ntmps77 (by kernel_rfl) ?_
  refine JC_seq ?_
  refine JC_region ?_
  refine JO_stepsK 1 [0, 1] (sl' := [(0, .v (.slice a0_0 x0.length c0_0)), (1, .v (.int .i64 x1))]) (bx' := []) (by kernel_rfl) ?_
  refine JO_end (by kernel_rfl) ?_
  refine JE_then ?_
  refine JC_seq ?_
  refine JC_region ?_
  refine JO_stepsK 5 [1] (sl' := [(1, .v (.int .i64 (w64 (x1 - (x0.length : Int)))))]) (bx' := []) (by kernel_rfl) ?_
  refine JO_end (by kernel_rfl) ?_
  refine JE_then ?_
  refine JC_seq ?_
  refine JC_seq ?_
  refine JC_region ?_
  refine JO_stepsK 2 [10, 1] (sl' := [(10, .v (.bool (decide ((w64 (x1 - (x0.length : Int))) < 0)))), (1, .v (.int .i64 (w64 (x1 - (x0.length : Int)))))]) (bx' := []) (by kernel_rfl) ?_
  refine JO_end (by kernel_rfl) ?_
  refine JE_then ?_
  refine JC_cond (decide ((w64 (x1 - (x0.length : Int))) < 0)) (by kernel_rfl) (fun b21 => ?_) (fun b21 => ?_)
  · have h22 := cT b21 h
    refine JC_seq ?_
    refine JC_region ?_
    refine JO_stepsK 1 [4] (sl' := [(4, .v (.int .i64 (-1)))]) (bx' := []) (by kernel_rfl) ?_
    refine JO_end (by kernel_rfl) ?_
    refine JE_then ?_
    refine JC_ret ?_
    refine JE_then_ret ?_
    refine JE_ret (vs := [.int .i64 (-1)]) (by kernel_rfl) (fun γ w hs => ?_)
    rw [← sI h22]
    exact ⟨rfl, hs.kept.toBelow⟩
  · have h23 := cF b21 h
    refine JC_skip ?_
    refine JE_then ?_
    refine JC_seq ?_
    refine JC_region ?_
    refine JO_stepsK 2 [4] (sl' := [(4, .v (.int .i64 (w64 (x1 - (x0.length : Int)))))]) (bx' := []) (by kernel_rfl) ?_
    refine JO_end (by kernel_rfl) ?_
    refine JE_then ?_
    refine JC_ret ?_
    refine JE_ret (vs := [.int .i64 (w64 (x1 - (x0.length : Int)))]) (by kernel_rfl) (fun γ w hs => ?_)
    rw [← sI h23]
    exact ⟨rfl, hs.kept.toBelow⟩

theorem c_laws_szStore {W : World} {x0 : Store} {a0_0 : Option Addr} {c0_0 : Nat} {x1 : Int} {r : Int} (h : laws_szStore x0 x1 = some r) (hv0_0 : SlView W x0.Facts a0_0 c0_0) :
    Gives0 Try.prog 38 #[.agg #[.slice a0_0 x0.Facts.length c0_0], .int .i64 x1] W (.int .i64 r) := by
  unfold laws_szStore at h
  refine enter (args := [.agg #[.slice a0_0 x0.Facts.length c0_0], .int .i64 x1]) Try.func38 rfl Try.ntmps38 (by kernel_rfl) ?_
  refine JC_seq ?_
  refine JC_region ?_
  refine JO_stepsK 2 [2, 1] (sl' := [(2, .p 0 0), (1, .v (.int .i64 x1))]) (bx' := [(52, [.slice a0_0 x0.Facts.length c0_0])]) (by kernel_rfl) ?_
  refine JO_end (by kernel_rfl) ?_
  refine JE_then ?_
  refine JC_seq ?_
  refine JC_region ?_
  refine JO_stepsK 3 [7, 6] (sl' := [(7, .v (.int .i64 x1)), (6, .v (.slice a0_0 x0.Facts.length c0_0))]) (bx' := [(52, [.slice a0_0 x0.Facts.length c0_0])]) (by kernel_rfl) ?_
  obtain ⟨t21, h22, h23⟩ := bS h
  refine JO_call0 rfl (by kernel_rfl) (f := 77) (args := #[.slice a0_0 x0.Facts.length c0_0, .int .i64 x1]) (by kernel_rfl) (x := .int .i64 t21) (fun γ w hs => (by have vv := c_laws_szFactS (W := w) h22 (hv0_0.kept hs.kept); exact vv)) (sl' := [(8, .v (.int .i64 t21)), (7, .v (.int .i64 x1)), (6, .v (.slice a0_0 x0.Facts.length c0_0))]) (by kernel_rfl) ?_
  refine JO_stepsK 1 [1] (sl' := [(1, .v (.int .i64 t21))]) (bx' := [(52, [.slice a0_0 x0.Facts.length c0_0])]) (by kernel_rfl) ?_
  refine JO_end (by kernel_rfl) ?_
  refine JE_then ?_
  refine JC_seq ?_
  refine JC_seq ?_
  refine JC_region ?_
  refine JO_stepsK 2 [10, 1] (sl' := [(10, .v (.bool (decide (t21 < 0)))), (1, .v (.int .i64 t21))]) (bx' := [(52, [.slice a0_0 x0.Facts.length c0_0])]) (by kernel_rfl) ?_
  refine JO_end (by kernel_rfl) ?_
  refine JE_then ?_
  refine JC_cond (decide (t21 < 0)) (by kernel_rfl) (fun b25 => ?_) (fun b25 => ?_)
  · have h26 := cT b25 h23
    refine JC_seq ?_
    refine JC_region ?_
    refine JO_stepsK 1 [4] (sl' := [(4, .v (.int .i64 (-1)))]) (bx' := [(52, [.slice a0_0 x0.Facts.length c0_0])]) (by kernel_rfl) ?_
    refine JO_end (by kernel_rfl) ?_
    refine JE_then ?_
    refine JC_ret ?_
    refine JE_then_ret ?_
    refine JE_ret (vs := [.int .i64 (-1)]) (by kernel_rfl) (fun γ w hs => ?_)
    rw [← sI h26]
    exact ⟨rfl, hs.kept.toBelow⟩
  · have h27 := cF b25 h23
    refine JC_skip ?_
    refine JE_then ?_
    refine JC_seq ?_
    refine JC_region ?_
    refine JO_stepsK 2 [4] (sl' := [(4, .v (.int .i64 t21))]) (bx' := [(52, [.slice a0_0 x0.Facts.length c0_0])]) (by kernel_rfl) ?_
    refine JO_end (by kernel_rfl) ?_
    refine JE_then ?_
    refine JC_ret ?_
    refine JE_ret (vs := [.int .i64 t21]) (by kernel_rfl) (fun γ w hs => ?_)
    rw [← sI h27]
    exact ⟨rfl, hs.kept.toBelow⟩

theorem c_laws_toFact {W : World} {x0 : Fact} {r : Fact} (h : laws_toFact x0 = some r)  :
    Gives0 Try.prog 115 #[.agg #[.int .i64 x0.Key, .int .i64 x0.From, .int .i64 x0.To, .int .i64 x0.Known, .int .i64 x0.Value]] W (.agg #[.int .i64 r.Key, .int .i64 r.From, .int .i64 r.To, .int .i64 r.Known, .int .i64 r.Value]) := by
  unfold laws_toFact at h
  refine enter (args := [.agg #[.int .i64 x0.Key, .int .i64 x0.From, .int .i64 x0.To, .int .i64 x0.Known, .int .i64 x0.Value]]) Try.func115 rfl Try.ntmps115 (by kernel_rfl) ?_
  refine JC_seq ?_
  refine JC_region ?_
  refine JO_stepsK 2 [2, 1] (sl' := [(2, .p 1 0), (1, .p 0 0)]) (bx' := [(143, [.int .i64 x0.Key, .int .i64 x0.From, .int .i64 x0.To, .int .i64 x0.Known, .int .i64 x0.Value]), (113, [.int .i64 0, .int .i64 0, .int .i64 0, .int .i64 0, .int .i64 0])]) (by kernel_rfl) ?_
  refine JO_end (by kernel_rfl) ?_
  refine JE_then ?_
  refine JC_seq ?_
  refine JC_region ?_
  refine JO_stepsK 1 [3, 2, 1] (sl' := [(3, .p 2 0), (2, .p 1 0), (1, .p 0 0)]) (bx' := [(143, [.int .i64 x0.Key, .int .i64 x0.From, .int .i64 x0.To, .int .i64 x0.Known, .int .i64 x0.Value]), (113, [.int .i64 0, .int .i64 0, .int .i64 0, .int .i64 0, .int .i64 0]), (113, [.int .i64 0, .int .i64 0, .int .i64 0, .int .i64 0, .int .i64 0])]) (by kernel_rfl) ?_
  refine JO_end (by kernel_rfl) ?_
  refine JE_then ?_
  refine JC_seq ?_
  refine JC_region ?_
  refine JO_stepsK 4 [3, 2, 1] (sl' := [(3, .p 2 0), (2, .p 1 0), (1, .p 0 0)]) (bx' := [(143, [.int .i64 x0.Key, .int .i64 x0.From, .int .i64 x0.To, .int .i64 x0.Known, .int .i64 x0.Value]), (113, [.int .i64 0, .int .i64 0, .int .i64 0, .int .i64 0, .int .i64 0]), (113, [.int .i64 x0.Key, .int .i64 0, .int .i64 0, .int .i64 0, .int .i64 0])]) (by kernel_rfl) ?_
  refine JO_end (by kernel_rfl) ?_
  refine JE_then ?_
  refine JC_seq ?_
  refine JC_region ?_
  refine JO_stepsK 4 [3, 2, 1] (sl' := [(3, .p 2 0), (2, .p 1 0), (1, .p 0 0)]) (bx' := [(143, [.int .i64 x0.Key, .int .i64 x0.From, .int .i64 x0.To, .int .i64 x0.Known, .int .i64 x0.Value]), (113, [.int .i64 0, .int .i64 0, .int .i64 0, .int .i64 0, .int .i64 0]), (113, [.int .i64 x0.Key, .int .i64 x0.From, .int .i64 0, .int .i64 0, .int .i64 0])]) (by kernel_rfl) ?_
  refine JO_end (by kernel_rfl) ?_
  refine JE_then ?_
  refine JC_seq ?_
  refine JC_region ?_
  refine JO_stepsK 4 [3, 2, 1] (sl' := [(3, .p 2 0), (2, .p 1 0), (1, .p 0 0)]) (bx' := [(143, [.int .i64 x0.Key, .int .i64 x0.From, .int .i64 x0.To, .int .i64 x0.Known, .int .i64 x0.Value]), (113, [.int .i64 0, .int .i64 0, .int .i64 0, .int .i64 0, .int .i64 0]), (113, [.int .i64 x0.Key, .int .i64 x0.From, .int .i64 x0.To, .int .i64 0, .int .i64 0])]) (by kernel_rfl) ?_
  refine JO_end (by kernel_rfl) ?_
  refine JE_then ?_
  refine JC_seq ?_
  refine JC_region ?_
  refine JO_stepsK 4 [3, 2, 1] (sl' := [(3, .p 2 0), (2, .p 1 0), (1, .p 0 0)]) (bx' := [(143, [.int .i64 x0.Key, .int .i64 x0.From, .int .i64 x0.To, .int .i64 x0.Known, .int .i64 x0.Value]), (113, [.int .i64 0, .int .i64 0, .int .i64 0, .int .i64 0, .int .i64 0]), (113, [.int .i64 x0.Key, .int .i64 x0.From, .int .i64 x0.To, .int .i64 x0.Known, .int .i64 0])]) (by kernel_rfl) ?_
  refine JO_end (by kernel_rfl) ?_
  refine JE_then ?_
  refine JC_seq ?_
  refine JC_region ?_
  refine JO_stepsK 4 [3, 2] (sl' := [(3, .p 2 0), (2, .p 1 0)]) (bx' := [(143, [.int .i64 x0.Key, .int .i64 x0.From, .int .i64 x0.To, .int .i64 x0.Known, .int .i64 x0.Value]), (113, [.int .i64 0, .int .i64 0, .int .i64 0, .int .i64 0, .int .i64 0]), (113, [.int .i64 x0.Key, .int .i64 x0.From, .int .i64 x0.To, .int .i64 x0.Known, .int .i64 x0.Value])]) (by kernel_rfl) ?_
  refine JO_end (by kernel_rfl) ?_
  refine JE_then ?_
  refine JC_seq ?_
  refine JC_region ?_
  refine JO_stepsK 2 [2] (sl' := [(2, .p 1 0)]) (bx' := [(143, [.int .i64 x0.Key, .int .i64 x0.From, .int .i64 x0.To, .int .i64 x0.Known, .int .i64 x0.Value]), (113, [.int .i64 x0.Key, .int .i64 x0.From, .int .i64 x0.To, .int .i64 x0.Known, .int .i64 x0.Value]), (113, [.int .i64 x0.Key, .int .i64 x0.From, .int .i64 x0.To, .int .i64 x0.Known, .int .i64 x0.Value])]) (by kernel_rfl) ?_
  refine JO_end (by kernel_rfl) ?_
  refine JE_then ?_
  refine JC_ret ?_
  refine JE_ret (vs := [.agg #[.int .i64 x0.Key, .int .i64 x0.From, .int .i64 x0.To, .int .i64 x0.Known, .int .i64 x0.Value]]) (by kernel_rfl) (fun γ w hs => ?_)
  rw [← sI h]
  exact ⟨rfl, hs.kept.toBelow⟩

theorem c_laws_toFactS {W : World} {x0 : List Fact} {a0_0 : Option Addr} {c0_0 : Nat} {r : (List Fact)} (h : laws_toFactS x0 = some r) (hv0_0 : SlView W x0 a0_0 c0_0) :
    Gives Try.prog 79 #[.slice a0_0 x0.length c0_0] W (fun y : (Option Addr × Nat) => .slice y.1 r.length y.2) (fun y => [SlRes 113 r y.1 y.2]) := by
  unfold laws_toFactS at h
  refine enter (args := [.slice a0_0 x0.length c0_0]) Try.func79 rfl Try.ntmps79 (by kernel_rfl) ?_
  refine JC_seq ?_
  refine JC_region ?_
  refine JO_stepsK 1 [0] (sl' := [(0, .v (.slice a0_0 x0.length c0_0))]) (bx' := []) (by kernel_rfl) ?_
  refine JO_end (by kernel_rfl) ?_
  refine JE_then ?_
  refine JC_seq ?_
  refine JC_region ?_
  refine JO_stepsK 2 [6, 0] (sl' := [(6, .v (.int .i64 (x0.length : Int))), (0, .v (.slice a0_0 x0.length c0_0))]) (bx' := []) (by kernel_rfl) ?_
  obtain ⟨l22, hm23, h24⟩ := bS h
  refine JO_make (α := Fact) rfl (by kernel_rfl) (t := 55) (e := 113) (m := (x0.length : Int)) (by kernel_rfl) (i := Try.t113) (by kernel_rfl) (z := (.agg #[.int .i64 0, .int .i64 0, .int .i64 0, .int .i64 0, .int .i64 0])) (by kernel_rfl) (by kernel_rfl) (by kernel_rfl) (by kernel_rfl) (fun w => ⟨rfl, rfl⟩) hm23 (fun y21 => [(7, .v (.slice y21.1 l22.length y21.2)), (6, .v (.int .i64 (x0.length : Int))), (0, .v (.slice a0_0 x0.length c0_0))]) (fun y21 => by kernel_rfl) (fun y21 => ?_)
  refine JO_stepsK 1 [3, 0] (sl' := [(3, .v (.slice y21.1 l22.length y21.2)), (0, .v (.slice a0_0 x0.length c0_0))]) (bx' := []) (by kernel_rfl) ?_
  refine JO_end (by kernel_rfl) ?_
  refine JE_then ?_
  refine JC_seq ?_
  refine JC_seq ?_
  refine JC_region ?_
  refine JO_stepsK 1 [4, 3, 0] (sl' := [(4, .v (.int .i64 0)), (3, .v (.slice y21.1 l22.length y21.2)), (0, .v (.slice a0_0 x0.length c0_0))]) (bx' := []) (by kernel_rfl) ?_
  refine JO_end (by kernel_rfl) ?_
  refine JE_then ?_
  obtain ⟨r28, hL29, h30⟩ := bS h24
  obtain ⟨k31, hk32, h30⟩ := brkS h30
  refine JC_cutP (τ := ((List Fact)) × (Unit)) (fun y => k31 y.1 = some r) (fun y36 => [(3, .v (.slice y21.1 y36.1.length y21.2))]) (fun y36 => []) (fun y36 => [SlRes 113 y36.1 y21.1 y21.2]) ?_ (fun y36 h37p => ?_)
  · refine JC_block ?_
    refine JC_loop (τ := Unit) hL29 (fun s25 y26 => [(4, .v (.int .i64 s25.1)), (3, .v (.slice y21.1 s25.2.length y21.2)), (0, .v (.slice a0_0 x0.length c0_0))]) (fun s25 y26 => []) (fun s25 y26 => [SlRes 113 s25.2 y21.1 y21.2]) () [4, 3, 0] [0] 0 (by kernel_rfl) (by kernel_rfl) (by kernel_rfl) (by kernel_rfl) (fun s25 y26 t27 h33 hd34 => ?_)
    refine JC_seq ?_
    refine JC_seq ?_
    refine JC_region ?_
    refine JO_stepsK 4 [11, 4, 3, 0] (sl' := [(11, .v (.bool (decide (s25.1 < (x0.length : Int))))), (4, .v (.int .i64 s25.1)), (3, .v (.slice y21.1 s25.2.length y21.2)), (0, .v (.slice a0_0 x0.length c0_0))]) (bx' := []) (by kernel_rfl) ?_
    refine JO_end (by kernel_rfl) ?_
    refine JE_then ?_
    refine JC_cond (decide (s25.1 < (x0.length : Int))) (by kernel_rfl) (fun b38 => ?_) (fun b38 => ?_)
    · have h39 := cT b38 h33
      refine JC_skip ?_
      refine JE_then ?_
      refine JC_seq ?_
      refine JC_block ?_
      refine JC_region ?_
      refine JO_stepsK 4 [17, 16, 15, 14, 4, 3, 0] (sl' := [(17, .v (.int .i64 s25.1)), (16, .v (.slice a0_0 x0.length c0_0)), (15, .v (.int .i64 s25.1)), (14, .v (.slice y21.1 s25.2.length y21.2)), (4, .v (.int .i64 s25.1)), (3, .v (.slice y21.1 s25.2.length y21.2)), (0, .v (.slice a0_0 x0.length c0_0))]) (bx' := []) (by kernel_rfl) ?_
      obtain ⟨x41, hx42, h43⟩ := bS h39
      refine JO_index rfl (by kernel_rfl) (d := a0_0) (m := x0.length) (j := s25.1) (s := 5) (by kernel_rfl) (fun γ w hs => (hv0_0.kept hs.kept)) rfl hx42 (sl' := [(18, .q a0_0 (Int.toNat s25.1 * 5)), (17, .v (.int .i64 s25.1)), (16, .v (.slice a0_0 x0.length c0_0)), (15, .v (.int .i64 s25.1)), (14, .v (.slice y21.1 s25.2.length y21.2)), (4, .v (.int .i64 s25.1)), (3, .v (.slice y21.1 s25.2.length y21.2)), (0, .v (.slice a0_0 x0.length c0_0))]) (by kernel_rfl) ?_
      refine JO_loadq rfl (by kernel_rfl) (t := 143) (d := a0_0) (Int.toNat s25.1 * 5) 0 (by kernel_rfl) (cs := [.int .i64 x41.Key, .int .i64 x41.From, .int .i64 x41.To, .int .i64 x41.Known, .int .i64 x41.Value]) (v := .agg #[.int .i64 x41.Key, .int .i64 x41.From, .int .i64 x41.To, .int .i64 x41.Known, .int .i64 x41.Value]) (fun γ w hs => (hv0_0.kept hs.kept).flatq hx42) (by kernel_rfl) (sl' := [(19, .v (.agg #[.int .i64 x41.Key, .int .i64 x41.From, .int .i64 x41.To, .int .i64 x41.Known, .int .i64 x41.Value])), (18, .q a0_0 (Int.toNat s25.1 * 5)), (17, .v (.int .i64 s25.1)), (16, .v (.slice a0_0 x0.length c0_0)), (15, .v (.int .i64 s25.1)), (14, .v (.slice y21.1 s25.2.length y21.2)), (4, .v (.int .i64 s25.1)), (3, .v (.slice y21.1 s25.2.length y21.2)), (0, .v (.slice a0_0 x0.length c0_0))]) (by kernel_rfl) ?_
      obtain ⟨t44, h45, h46⟩ := bS h43
      refine JO_call0 rfl (by kernel_rfl) (f := 115) (args := #[.agg #[.int .i64 x41.Key, .int .i64 x41.From, .int .i64 x41.To, .int .i64 x41.Known, .int .i64 x41.Value]]) (by kernel_rfl) (x := .agg #[.int .i64 t44.Key, .int .i64 t44.From, .int .i64 t44.To, .int .i64 t44.Known, .int .i64 t44.Value]) (fun γ w hs => (by have vv := c_laws_toFact (W := w) h45; exact vv)) (sl' := [(20, .v (.agg #[.int .i64 t44.Key, .int .i64 t44.From, .int .i64 t44.To, .int .i64 t44.Known, .int .i64 t44.Value])), (19, .v (.agg #[.int .i64 x41.Key, .int .i64 x41.From, .int .i64 x41.To, .int .i64 x41.Known, .int .i64 x41.Value])), (18, .q a0_0 (Int.toNat s25.1 * 5)), (17, .v (.int .i64 s25.1)), (16, .v (.slice a0_0 x0.length c0_0)), (15, .v (.int .i64 s25.1)), (14, .v (.slice y21.1 s25.2.length y21.2)), (4, .v (.int .i64 s25.1)), (3, .v (.slice y21.1 s25.2.length y21.2)), (0, .v (.slice a0_0 x0.length c0_0))]) (by kernel_rfl) ?_
      obtain ⟨x48, hx49, h50⟩ := bS h46
      refine JO_index rfl (by kernel_rfl) (d := y21.1) (m := s25.2.length) (j := s25.1) (s := 5) (by kernel_rfl) (fun γ w hs => (hs.view 0 rfl)) rfl hx49 (sl' := [(21, .q y21.1 (Int.toNat s25.1 * 5)), (20, .v (.agg #[.int .i64 t44.Key, .int .i64 t44.From, .int .i64 t44.To, .int .i64 t44.Known, .int .i64 t44.Value])), (19, .v (.agg #[.int .i64 x41.Key, .int .i64 x41.From, .int .i64 x41.To, .int .i64 x41.Known, .int .i64 x41.Value])), (18, .q a0_0 (Int.toNat s25.1 * 5)), (17, .v (.int .i64 s25.1)), (16, .v (.slice a0_0 x0.length c0_0)), (15, .v (.int .i64 s25.1)), (14, .v (.slice y21.1 s25.2.length y21.2)), (4, .v (.int .i64 s25.1)), (3, .v (.slice y21.1 s25.2.length y21.2)), (0, .v (.slice a0_0 x0.length c0_0))]) (by kernel_rfl) ?_
      obtain ⟨l51, hm52, h53⟩ := bS h50
      replace hm52 := (sI hm52).symm
      refine JO_storeq (α := Fact) (d := y21.1) (vs := [.int .i64 t44.Key, .int .i64 t44.From, .int .i64 t44.To, .int .i64 t44.Known, .int .i64 t44.Value]) (j := s25.1) (x' := t44) rfl (by kernel_rfl) 0 (by kernel_rfl) hx49 (Rc := []) (Rr := []) rfl (by kernel_rfl) (fun w c F Fs ho _ _ => own_flat_set (by kernel_rfl) ho) hm52 (sl' := [(21, .q y21.1 (Int.toNat s25.1 * 5)), (20, .v (.agg #[.int .i64 t44.Key, .int .i64 t44.From, .int .i64 t44.To, .int .i64 t44.Known, .int .i64 t44.Value])), (19, .v (.agg #[.int .i64 x41.Key, .int .i64 x41.From, .int .i64 x41.To, .int .i64 x41.Known, .int .i64 x41.Value])), (18, .q a0_0 (Int.toNat s25.1 * 5)), (17, .v (.int .i64 s25.1)), (16, .v (.slice a0_0 x0.length c0_0)), (15, .v (.int .i64 s25.1)), (14, .v (.slice y21.1 s25.2.length y21.2)), (4, .v (.int .i64 s25.1)), (3, .v (.slice y21.1 s25.2.length y21.2)), (0, .v (.slice a0_0 x0.length c0_0))]) (by kernel_rfl) ?_
      have hl54 := len_set hm52
      refine JO_keep [20, 19, 18, 17, 16, 15, 14, 4, 3, 0] (sl' := [(20, .v (.agg #[.int .i64 t44.Key, .int .i64 t44.From, .int .i64 t44.To, .int .i64 t44.Known, .int .i64 t44.Value])), (19, .v (.agg #[.int .i64 x41.Key, .int .i64 x41.From, .int .i64 x41.To, .int .i64 x41.Known, .int .i64 x41.Value])), (18, .q a0_0 (Int.toNat s25.1 * 5)), (17, .v (.int .i64 s25.1)), (16, .v (.slice a0_0 x0.length c0_0)), (15, .v (.int .i64 s25.1)), (14, .v (.slice y21.1 s25.2.length y21.2)), (4, .v (.int .i64 s25.1)), (3, .v (.slice y21.1 s25.2.length y21.2)), (0, .v (.slice a0_0 x0.length c0_0))]) (by kernel_rfl) ?_
      refine JO_eqE (sl' := [(20, .v (.agg #[.int .i64 t44.Key, .int .i64 t44.From, .int .i64 t44.To, .int .i64 t44.Known, .int .i64 t44.Value])), (19, .v (.agg #[.int .i64 x41.Key, .int .i64 x41.From, .int .i64 x41.To, .int .i64 x41.Known, .int .i64 x41.Value])), (18, .q a0_0 (Int.toNat s25.1 * 5)), (17, .v (.int .i64 s25.1)), (16, .v (.slice a0_0 x0.length c0_0)), (15, .v (.int .i64 s25.1)), (14, .v (.slice y21.1 l51.length y21.2)), (4, .v (.int .i64 s25.1)), (3, .v (.slice y21.1 l51.length y21.2)), (0, .v (.slice a0_0 x0.length c0_0))]) (bx' := []) (by simp only [hl54]) rfl ?_
      refine JO_end (by kernel_rfl) ?_
      refine JE_block_normal ?_
      refine JE_then ?_
      refine JC_region ?_
      refine JO_stepsK 3 [4, 3, 0] (sl' := [(4, .v (.int .i64 (w64 (s25.1 + 1)))), (3, .v (.slice y21.1 l51.length y21.2)), (0, .v (.slice a0_0 x0.length c0_0))]) (bx' := []) (by kernel_rfl) ?_
      refine JO_end (by kernel_rfl) ?_
      exact JE_cont h53 () [4, 3, 0] [0] 0 (by kernel_rfl) (by kernel_rfl) (by kernel_rfl) (by kernel_rfl)
    · have h40 := cF b38 h33
      refine JC_exit ?_
      refine JE_then_exit ?_
      refine JE_then_exit ?_
      refine JE_block_hit ?_
      have h55 := leafB hd34 h40 h30
      exact JE_meetP (s25.2, ()) h55 [3] [0] 0 (by kernel_rfl) (by kernel_rfl) (by kernel_rfl) (by kernel_rfl)
  · have h37 := (congrFun hk32 _).symm.trans h37p
    refine JE_then ?_
    refine JC_seq ?_
    refine JC_region ?_
    refine JO_stepsK 2 [2] (sl' := [(2, .v (.slice y21.1 y36.1.length y21.2))]) (bx' := []) (by kernel_rfl) ?_
    refine JO_end (by kernel_rfl) ?_
    refine JE_then ?_
    refine JC_ret ?_
    refine JE_ret (vs := [.slice y21.1 y36.1.length y21.2]) (by kernel_rfl) (fun γ w hs => ?_)
    rw [← sI h37]
    exact ⟨(y21.1, y21.2), rfl, hs.kept.toBelow, (hs.takeR (is := [0]) rfl).fresh⟩

theorem c_laws_toStore {W : World} {x0 : Store} {a0_0 : Option Addr} {c0_0 : Nat} {r : Store} (h : laws_toStore x0 = some r) (hv0_0 : SlView W x0.Facts a0_0 c0_0) :
    Gives Try.prog 40 #[.agg #[.slice a0_0 x0.Facts.length c0_0]] W (fun y : (Option Addr × Nat) => .agg #[.slice y.1 r.Facts.length y.2]) (fun y => [SlRes 113 r.Facts y.1 y.2]) := by
  unfold laws_toStore at h
  refine enter (args := [.agg #[.slice a0_0 x0.Facts.length c0_0]]) Try.func40 rfl Try.ntmps40 (by kernel_rfl) ?_
  refine JC_seq ?_
  refine JC_region ?_
  refine JO_stepsK 2 [2, 1] (sl' := [(2, .p 1 0), (1, .p 0 0)]) (bx' := [(52, [.slice a0_0 x0.Facts.length c0_0]), (57, [.slice none 0 0])]) (by kernel_rfl) ?_
  refine JO_end (by kernel_rfl) ?_
  refine JE_then ?_
  refine JC_seq ?_
  refine JC_region ?_
  refine JO_stepsK 1 [3, 2, 1] (sl' := [(3, .p 2 0), (2, .p 1 0), (1, .p 0 0)]) (bx' := [(52, [.slice a0_0 x0.Facts.length c0_0]), (57, [.slice none 0 0]), (57, [.slice none 0 0])]) (by kernel_rfl) ?_
  refine JO_end (by kernel_rfl) ?_
  refine JE_then ?_
  refine JC_seq ?_
  refine JC_region ?_
  refine JO_stepsK 2 [5, 3, 2] (sl' := [(5, .v (.slice a0_0 x0.Facts.length c0_0)), (3, .p 2 0), (2, .p 1 0)]) (bx' := [(52, [.slice a0_0 x0.Facts.length c0_0]), (57, [.slice none 0 0]), (57, [.slice none 0 0])]) (by kernel_rfl) ?_
  obtain ⟨t21, h22, h23⟩ := bS h
  refine JO_call rfl (by kernel_rfl) (f := 79) (args := #[.slice a0_0 x0.Facts.length c0_0]) (by kernel_rfl) (fun γ w hs => (by have vv := c_laws_toFactS (W := w) h22 (hv0_0.kept hs.kept); exact vv)) (fun (y24 : (Option Addr × Nat)) => [(6, .v (.slice y24.1 t21.length y24.2)), (5, .v (.slice a0_0 x0.Facts.length c0_0)), (3, .p 2 0), (2, .p 1 0)]) (fun y24 => by kernel_rfl) (fun y24 => ?_)
  refine JO_stepsK 2 [3, 2] (sl' := [(3, .p 2 0), (2, .p 1 0)]) (bx' := [(52, [.slice a0_0 x0.Facts.length c0_0]), (57, [.slice none 0 0]), (57, [.slice y24.1 t21.length y24.2])]) (by kernel_rfl) ?_
  refine JO_end (by kernel_rfl) ?_
  refine JE_then ?_
  refine JC_seq ?_
  refine JC_region ?_
  refine JO_stepsK 2 [2] (sl' := [(2, .p 1 0)]) (bx' := [(52, [.slice a0_0 x0.Facts.length c0_0]), (57, [.slice y24.1 t21.length y24.2]), (57, [.slice y24.1 t21.length y24.2])]) (by kernel_rfl) ?_
  refine JO_end (by kernel_rfl) ?_
  refine JE_then ?_
  refine JC_ret ?_
  refine JE_ret (vs := [.agg #[.slice y24.1 t21.length y24.2]]) (by kernel_rfl) (fun γ w hs => ?_)
  rw [← sI h23]
  exact ⟨(y24.1, y24.2), rfl, hs.kept.toBelow, (hs.takeR (is := [0]) rfl).fresh⟩

theorem c_spec_MonthOk {W : World} {x0 : Int} {r : Bool} (h : spec_MonthOk x0 = some r)  :
    Gives0 Try.prog 93 #[.int .i64 x0] W (.bool r) := by
  unfold spec_MonthOk at h
  refine enter (args := [.int .i64 x0]) Try.func93 rfl Try.ntmps93 (by kernel_rfl) ?_
  refine JC_seq ?_
  refine JC_region ?_
  refine JO_stepsK 1 [0] (sl' := [(0, .v (.int .i64 x0))]) (bx' := []) (by kernel_rfl) ?_
  refine JO_end (by kernel_rfl) ?_
  refine JE_then ?_
  refine JC_seq ?_
  refine JC_region ?_
  refine JO_stepsK 1 [3] (sl' := [(3, .v (.int .i64 x0))]) (bx' := []) (by kernel_rfl) ?_
  obtain ⟨t21, h22, h23⟩ := bS h
  refine JO_call0 rfl (by kernel_rfl) (f := 71) (args := #[.int .i64 x0, .int .i64 0, .int .i64 3599]) (by kernel_rfl) (x := .bool t21) (fun γ w hs => (by have vv := c_spec_l01In (W := w) h22; exact vv)) (sl' := [(4, .v (.bool t21)), (3, .v (.int .i64 x0))]) (by kernel_rfl) ?_
  refine JO_stepsK 1 [2] (sl' := [(2, .v (.bool t21))]) (bx' := []) (by kernel_rfl) ?_
  refine JO_end (by kernel_rfl) ?_
  refine JE_then ?_
  refine JC_ret ?_
  refine JE_ret (vs := [.bool t21]) (by kernel_rfl) (fun γ w hs => ?_)
  rw [← sI h23]
  exact ⟨rfl, hs.kept.toBelow⟩

theorem c_spec_FactOk {W : World} {x0 : Fact} {r : Bool} (h : spec_FactOk x0 = some r)  :
    Gives0 Try.prog 114 #[.agg #[.int .i64 x0.Key, .int .i64 x0.From, .int .i64 x0.To, .int .i64 x0.Known, .int .i64 x0.Value]] W (.bool r) := by
  unfold spec_FactOk at h
  refine enter (args := [.agg #[.int .i64 x0.Key, .int .i64 x0.From, .int .i64 x0.To, .int .i64 x0.Known, .int .i64 x0.Value]]) Try.func114 rfl Try.ntmps114 (by kernel_rfl) ?_
  refine JC_seq ?_
  refine JC_region ?_
  refine JO_stepsK 2 [1] (sl' := [(1, .p 0 0)]) (bx' := [(113, [.int .i64 x0.Key, .int .i64 x0.From, .int .i64 x0.To, .int .i64 x0.Known, .int .i64 x0.Value])]) (by kernel_rfl) ?_
  refine JO_end (by kernel_rfl) ?_
  refine JE_then ?_
  refine JC_seq ?_
  obtain ⟨p21, hE22, h23⟩ := bS h
  refine JC_cut (τ := Unit) (fun _ => [(2, .v (.bool p21))]) (fun _ => [(113, [.int .i64 x0.Key, .int .i64 x0.From, .int .i64 x0.To, .int .i64 x0.Known, .int .i64 x0.Value])]) (fun _ => []) ?_ (fun _ => ?_)
  · refine JC_region ?_
    refine JO_stepsK 2 [4, 1] (sl' := [(4, .v (.int .i64 x0.Key)), (1, .p 0 0)]) (bx' := [(113, [.int .i64 x0.Key, .int .i64 x0.From, .int .i64 x0.To, .int .i64 x0.Known, .int .i64 x0.Value])]) (by kernel_rfl) ?_
    obtain ⟨t24, h25, h26⟩ := bS hE22
    refine JO_call0 rfl (by kernel_rfl) (f := 71) (args := #[.int .i64 x0.Key, .int .i64 1, .int .i64 50]) (by kernel_rfl) (x := .bool t24) (fun γ w hs => (by have vv := c_spec_l01In (W := w) h25; exact vv)) (sl' := [(5, .v (.bool t24)), (4, .v (.int .i64 x0.Key)), (1, .p 0 0)]) (by kernel_rfl) ?_
    refine JO_stepsK 1 [6, 1] (sl' := [(6, .v (.bool t24)), (1, .p 0 0)]) (bx' := [(113, [.int .i64 x0.Key, .int .i64 x0.From, .int .i64 x0.To, .int .i64 x0.Known, .int .i64 x0.Value])]) (by kernel_rfl) ?_
    refine JO_split 6 t24 (by kernel_rfl) (fun b28 => ?_) (fun b28 => ?_)
    · have h29 := cT b28 h26
      refine JO_stepsK 5 [11, 1] (sl' := [(11, .v (.bool (decide (x0.From ≥ 0)))), (1, .p 0 0)]) (bx' := [(113, [.int .i64 x0.Key, .int .i64 x0.From, .int .i64 x0.To, .int .i64 x0.Known, .int .i64 x0.Value])]) (by kernel_rfl) ?_
      refine JO_split 11 (decide (x0.From ≥ 0)) (by kernel_rfl) (fun b31 => ?_) (fun b31 => ?_)
      · have h32 := cT b31 h29
        refine JO_stepsK 7 [18, 1] (sl' := [(18, .v (.bool (decide (x0.From < x0.To)))), (1, .p 0 0)]) (bx' := [(113, [.int .i64 x0.Key, .int .i64 x0.From, .int .i64 x0.To, .int .i64 x0.Known, .int .i64 x0.Value])]) (by kernel_rfl) ?_
        refine JO_split 18 (decide (x0.From < x0.To)) (by kernel_rfl) (fun b34 => ?_) (fun b34 => ?_)
        · have h35 := cT b34 h32
          refine JO_stepsK 5 [23, 1] (sl' := [(23, .v (.bool (decide (x0.To ≤ 3600)))), (1, .p 0 0)]) (bx' := [(113, [.int .i64 x0.Key, .int .i64 x0.From, .int .i64 x0.To, .int .i64 x0.Known, .int .i64 x0.Value])]) (by kernel_rfl) ?_
          refine JO_split 23 (decide (x0.To ≤ 3600)) (by kernel_rfl) (fun b37 => ?_) (fun b37 => ?_)
          · have h38 := cT b37 h35
            refine JO_stepsK 2 [25, 23, 1] (sl' := [(25, .v (.int .i64 x0.Known)), (23, .v (.bool true)), (1, .p 0 0)]) (bx' := [(113, [.int .i64 x0.Key, .int .i64 x0.From, .int .i64 x0.To, .int .i64 x0.Known, .int .i64 x0.Value])]) (by kernel_rfl) ?_
            obtain ⟨t40, h41, h42⟩ := bS h38
            refine JO_call0 rfl (by kernel_rfl) (f := 93) (args := #[.int .i64 x0.Known]) (by kernel_rfl) (x := .bool t40) (fun γ w hs => (by have vv := c_spec_MonthOk (W := w) h41; exact vv)) (sl' := [(26, .v (.bool t40)), (25, .v (.int .i64 x0.Known)), (23, .v (.bool true)), (1, .p 0 0)]) (by kernel_rfl) ?_
            refine JO_stepsK 2 [28, 1] (sl' := [(28, .v (.bool t40)), (1, .p 0 0)]) (bx' := [(113, [.int .i64 x0.Key, .int .i64 x0.From, .int .i64 x0.To, .int .i64 x0.Known, .int .i64 x0.Value])]) (by kernel_rfl) ?_
            refine JO_split 28 t40 (by kernel_rfl) (fun b44 => ?_) (fun b44 => ?_)
            · have h45 := cT b44 h42
              refine JO_stepsK 2 [30, 28] (sl' := [(30, .v (.int .i64 x0.Value)), (28, .v (.bool true))]) (bx' := [(113, [.int .i64 x0.Key, .int .i64 x0.From, .int .i64 x0.To, .int .i64 x0.Known, .int .i64 x0.Value])]) (by kernel_rfl) ?_
              obtain ⟨t47, h48, h49⟩ := bS h45
              refine JO_call0 rfl (by kernel_rfl) (f := 71) (args := #[.int .i64 x0.Value, .int .i64 (-1000000000), .int .i64 1000000000]) (by kernel_rfl) (x := .bool t47) (fun γ w hs => (by have vv := c_spec_l01In (W := w) h48; exact vv)) (sl' := [(31, .v (.bool t47)), (30, .v (.int .i64 x0.Value)), (28, .v (.bool true))]) (by kernel_rfl) ?_
              refine JO_stepsK 2 [2] (sl' := [(2, .v (.bool t47))]) (bx' := [(113, [.int .i64 x0.Key, .int .i64 x0.From, .int .i64 x0.To, .int .i64 x0.Known, .int .i64 x0.Value])]) (by kernel_rfl) ?_
              refine JO_end (by kernel_rfl) ?_
              obtain rfl := sI h49
              exact JE_meet () [2] [] 1 (by kernel_rfl) (by kernel_rfl) (by kernel_rfl) (by kernel_rfl)
            · have h46 := cF b44 h42
              refine JO_stepsK 5 [2] (sl' := [(2, .v (.bool false))]) (bx' := [(113, [.int .i64 x0.Key, .int .i64 x0.From, .int .i64 x0.To, .int .i64 x0.Known, .int .i64 x0.Value])]) (by kernel_rfl) ?_
              refine JO_end (by kernel_rfl) ?_
              obtain rfl := sI h46
              exact JE_meet () [2] [] 1 (by kernel_rfl) (by kernel_rfl) (by kernel_rfl) (by kernel_rfl)
          · have h39 := cF b37 h35
            refine JO_stepsK 10 [2] (sl' := [(2, .v (.bool false))]) (bx' := [(113, [.int .i64 x0.Key, .int .i64 x0.From, .int .i64 x0.To, .int .i64 x0.Known, .int .i64 x0.Value])]) (by kernel_rfl) ?_
            refine JO_end (by kernel_rfl) ?_
            obtain rfl := sI h39
            exact JE_meet () [2] [] 1 (by kernel_rfl) (by kernel_rfl) (by kernel_rfl) (by kernel_rfl)
        · have h36 := cF b34 h32
          refine JO_stepsK 15 [2] (sl' := [(2, .v (.bool false))]) (bx' := [(113, [.int .i64 x0.Key, .int .i64 x0.From, .int .i64 x0.To, .int .i64 x0.Known, .int .i64 x0.Value])]) (by kernel_rfl) ?_
          refine JO_end (by kernel_rfl) ?_
          obtain rfl := sI h36
          exact JE_meet () [2] [] 1 (by kernel_rfl) (by kernel_rfl) (by kernel_rfl) (by kernel_rfl)
      · have h33 := cF b31 h29
        refine JO_stepsK 22 [2] (sl' := [(2, .v (.bool false))]) (bx' := [(113, [.int .i64 x0.Key, .int .i64 x0.From, .int .i64 x0.To, .int .i64 x0.Known, .int .i64 x0.Value])]) (by kernel_rfl) ?_
        refine JO_end (by kernel_rfl) ?_
        obtain rfl := sI h33
        exact JE_meet () [2] [] 1 (by kernel_rfl) (by kernel_rfl) (by kernel_rfl) (by kernel_rfl)
    · have h30 := cF b28 h26
      refine JO_stepsK 27 [2] (sl' := [(2, .v (.bool false))]) (bx' := [(113, [.int .i64 x0.Key, .int .i64 x0.From, .int .i64 x0.To, .int .i64 x0.Known, .int .i64 x0.Value])]) (by kernel_rfl) ?_
      refine JO_end (by kernel_rfl) ?_
      obtain rfl := sI h30
      exact JE_meet () [2] [] 1 (by kernel_rfl) (by kernel_rfl) (by kernel_rfl) (by kernel_rfl)
  · skip
    refine JE_then ?_
    refine JC_ret ?_
    refine JE_ret (vs := [.bool p21]) (by kernel_rfl) (fun γ w hs => ?_)
    rw [← sI h23]
    exact ⟨rfl, hs.kept.toBelow⟩

theorem c_spec_StoreOk {W : World} {x0 : Store} {a0_0 : Option Addr} {c0_0 : Nat} {r : Bool} (h : spec_StoreOk x0 = some r) (hv0_0 : SlView W x0.Facts a0_0 c0_0) :
    Gives0 Try.prog 78 #[.agg #[.slice a0_0 x0.Facts.length c0_0]] W (.bool r) := by
  unfold spec_StoreOk at h
  refine enter (args := [.agg #[.slice a0_0 x0.Facts.length c0_0]]) Try.func78 rfl Try.ntmps78 (by kernel_rfl) ?_
  refine JC_seq ?_
  refine JC_region ?_
  refine JO_stepsK 2 [1] (sl' := [(1, .p 0 0)]) (bx' := [(57, [.slice a0_0 x0.Facts.length c0_0])]) (by kernel_rfl) ?_
  refine JO_end (by kernel_rfl) ?_
  refine JE_then ?_
  refine JC_seq ?_
  refine JC_seq ?_
  refine JC_region ?_
  refine JO_stepsK 1 [3, 1] (sl' := [(3, .v (.int .i64 0)), (1, .p 0 0)]) (bx' := [(57, [.slice a0_0 x0.Facts.length c0_0])]) (by kernel_rfl) ?_
  refine JO_end (by kernel_rfl) ?_
  refine JE_then ?_
  obtain ⟨r24, hL25, h26⟩ := bS h
  obtain ⟨k27, hk28, h26⟩ := brkS h26
  refine JC_cutP (τ := (Unit) × (Unit)) (fun y => k27 y.1 = some r) (fun y32 => [(1, .p 0 0)]) (fun y32 => [(57, [.slice a0_0 x0.Facts.length c0_0])]) (fun y32 => []) ?_ (fun y32 h33p => ?_)
  · refine JC_block ?_
    refine JC_loop (τ := Unit) hL25 (fun s21 y22 => [(3, .v (.int .i64 s21)), (1, .p 0 0)]) (fun s21 y22 => [(57, [.slice a0_0 x0.Facts.length c0_0])]) (fun s21 y22 => []) () [3, 1] [] 1 (by kernel_rfl) (by kernel_rfl) (by kernel_rfl) (by kernel_rfl) (fun s21 y22 t23 h29 hd30 => ?_)
    refine JC_seq ?_
    refine JC_seq ?_
    refine JC_region ?_
    refine JO_stepsK 5 [8, 3, 1] (sl' := [(8, .v (.bool (decide (s21 < (x0.Facts.length : Int))))), (3, .v (.int .i64 s21)), (1, .p 0 0)]) (bx' := [(57, [.slice a0_0 x0.Facts.length c0_0])]) (by kernel_rfl) ?_
    refine JO_end (by kernel_rfl) ?_
    refine JE_then ?_
    refine JC_cond (decide (s21 < (x0.Facts.length : Int))) (by kernel_rfl) (fun b34 => ?_) (fun b34 => ?_)
    · have h35 := cT b34 h29
      refine JC_skip ?_
      refine JE_then ?_
      refine JC_seq ?_
      refine JC_block ?_
      refine JC_seq ?_
      obtain ⟨p37, hE38, h39⟩ := bS h35
      refine JC_cut (τ := Unit) (fun _ => [(1, .p 0 0), (3, .v (.int .i64 s21)), (37, .v (.bool p37))]) (fun _ => [(57, [.slice a0_0 x0.Facts.length c0_0])]) (fun _ => []) ?_ (fun _ => ?_)
      · refine JC_quiet (by kernel_rfl) (by kernel_rfl) ?_
        refine JQ_stepsK 3 [13, 12, 3, 1] (sl' := [(13, .v (.int .i64 s21)), (12, .v (.slice a0_0 x0.Facts.length c0_0)), (3, .v (.int .i64 s21)), (1, .p 0 0)]) (by kernel_rfl) ?_
        obtain ⟨x40, hx41, h42⟩ := bS hE38
        refine JQ_index rfl (by kernel_rfl) (d := a0_0) (m := x0.Facts.length) (j := s21) (s := 5) (by kernel_rfl) (fun γ w hs => (hv0_0.kept hs.kept)) rfl hx41 (sl' := [(14, .q a0_0 (Int.toNat s21 * 5)), (13, .v (.int .i64 s21)), (12, .v (.slice a0_0 x0.Facts.length c0_0)), (3, .v (.int .i64 s21)), (1, .p 0 0)]) (by kernel_rfl) ?_
        refine JQ_loadq rfl (by kernel_rfl) (t := 113) (d := a0_0) (Int.toNat s21 * 5) 0 (by kernel_rfl) (cs := [.int .i64 x40.Key, .int .i64 x40.From, .int .i64 x40.To, .int .i64 x40.Known, .int .i64 x40.Value]) (v := .agg #[.int .i64 x40.Key, .int .i64 x40.From, .int .i64 x40.To, .int .i64 x40.Known, .int .i64 x40.Value]) (fun γ w hs => (hv0_0.kept hs.kept).flatq hx41) (by kernel_rfl) (sl' := [(15, .v (.agg #[.int .i64 x40.Key, .int .i64 x40.From, .int .i64 x40.To, .int .i64 x40.Known, .int .i64 x40.Value])), (14, .q a0_0 (Int.toNat s21 * 5)), (13, .v (.int .i64 s21)), (12, .v (.slice a0_0 x0.Facts.length c0_0)), (3, .v (.int .i64 s21)), (1, .p 0 0)]) (by kernel_rfl) ?_
        obtain ⟨t43, h44, h45⟩ := bS h42
        refine JQ_call0 rfl (by kernel_rfl) (f := 114) (args := #[.agg #[.int .i64 x40.Key, .int .i64 x40.From, .int .i64 x40.To, .int .i64 x40.Known, .int .i64 x40.Value]]) (by kernel_rfl) (x := .bool t43) (fun γ w hs => (by have vv := c_spec_FactOk (W := w) h44; exact vv)) (sl' := [(16, .v (.bool t43)), (15, .v (.agg #[.int .i64 x40.Key, .int .i64 x40.From, .int .i64 x40.To, .int .i64 x40.Known, .int .i64 x40.Value])), (14, .q a0_0 (Int.toNat s21 * 5)), (13, .v (.int .i64 s21)), (12, .v (.slice a0_0 x0.Facts.length c0_0)), (3, .v (.int .i64 s21)), (1, .p 0 0)]) (by kernel_rfl) ?_
        refine JQ_stepsK 2 [18, 3, 1] (sl' := [(18, .v (.bool (!t43))), (3, .v (.int .i64 s21)), (1, .p 0 0)]) (by kernel_rfl) ?_
        refine JQ_split 18 (!t43) (by kernel_rfl) (fun b47 => ?_) (fun b47 => ?_)
        · have h48 := cT b47 h45
          refine JQ_stepsK 19 [37, 3, 1] (sl' := [(37, .v (.bool true)), (3, .v (.int .i64 s21)), (1, .p 0 0)]) (by kernel_rfl) ?_
          refine JQ_end (by kernel_rfl) ?_
          obtain rfl := sI h48
          exact JE_meet () [1, 3, 37] [] 1 (by kernel_rfl) (by kernel_rfl) (by kernel_rfl) (by kernel_rfl)
        · have h49 := cF b47 h45
          refine JQ_stepsK 3 [21, 18, 3, 1] (sl' := [(21, .v (.bool (decide (s21 > 0)))), (18, .v (.bool false)), (3, .v (.int .i64 s21)), (1, .p 0 0)]) (by kernel_rfl) ?_
          refine JQ_split 21 (decide (s21 > 0)) (by kernel_rfl) (fun b50 => ?_) (fun b50 => ?_)
          · have h51 := cT b50 h49
            refine JQ_stepsK 4 [25, 23, 21, 18, 3, 1] (sl' := [(25, .v (.int .i64 (w64 (s21 - 1)))), (23, .v (.slice a0_0 x0.Facts.length c0_0)), (21, .v (.bool true)), (18, .v (.bool false)), (3, .v (.int .i64 s21)), (1, .p 0 0)]) (by kernel_rfl) ?_
            obtain ⟨x53, hx54, h55⟩ := bS h51
            refine JQ_index rfl (by kernel_rfl) (d := a0_0) (m := x0.Facts.length) (j := (w64 (s21 - 1))) (s := 5) (by kernel_rfl) (fun γ w hs => (hv0_0.kept hs.kept)) rfl hx54 (sl' := [(26, .q a0_0 (Int.toNat (w64 (s21 - 1)) * 5)), (25, .v (.int .i64 (w64 (s21 - 1)))), (23, .v (.slice a0_0 x0.Facts.length c0_0)), (21, .v (.bool true)), (18, .v (.bool false)), (3, .v (.int .i64 s21)), (1, .p 0 0)]) (by kernel_rfl) ?_
            refine JQ_stepsK 1 [27, 21, 18, 3, 1] (sl' := [(27, .q a0_0 (Int.toNat (w64 (s21 - 1)) * 5 + 3)), (21, .v (.bool true)), (18, .v (.bool false)), (3, .v (.int .i64 s21)), (1, .p 0 0)]) (by kernel_rfl) ?_
            refine JQ_loadq rfl (by kernel_rfl) (t := 3) (d := a0_0) (Int.toNat (w64 (s21 - 1)) * 5) 3 (by kernel_rfl) (cs := [.int .i64 x53.Key, .int .i64 x53.From, .int .i64 x53.To, .int .i64 x53.Known, .int .i64 x53.Value]) (v := .int .i64 x53.Known) (fun γ w hs => (hv0_0.kept hs.kept).flatq hx54) (by kernel_rfl) (sl' := [(28, .v (.int .i64 x53.Known)), (27, .q a0_0 (Int.toNat (w64 (s21 - 1)) * 5 + 3)), (21, .v (.bool true)), (18, .v (.bool false)), (3, .v (.int .i64 s21)), (1, .p 0 0)]) (by kernel_rfl) ?_
            refine JQ_stepsK 3 [31, 30, 28, 21, 18, 3, 1] (sl' := [(31, .v (.int .i64 s21)), (30, .v (.slice a0_0 x0.Facts.length c0_0)), (28, .v (.int .i64 x53.Known)), (21, .v (.bool true)), (18, .v (.bool false)), (3, .v (.int .i64 s21)), (1, .p 0 0)]) (by kernel_rfl) ?_
            obtain ⟨x56, hx57, h58⟩ := bS h55
            refine JQ_index rfl (by kernel_rfl) (d := a0_0) (m := x0.Facts.length) (j := s21) (s := 5) (by kernel_rfl) (fun γ w hs => (hv0_0.kept hs.kept)) rfl hx57 (sl' := [(32, .q a0_0 (Int.toNat s21 * 5)), (31, .v (.int .i64 s21)), (30, .v (.slice a0_0 x0.Facts.length c0_0)), (28, .v (.int .i64 x53.Known)), (21, .v (.bool true)), (18, .v (.bool false)), (3, .v (.int .i64 s21)), (1, .p 0 0)]) (by kernel_rfl) ?_
            refine JQ_stepsK 1 [33, 28, 21, 18, 3, 1] (sl' := [(33, .q a0_0 (Int.toNat s21 * 5 + 3)), (28, .v (.int .i64 x53.Known)), (21, .v (.bool true)), (18, .v (.bool false)), (3, .v (.int .i64 s21)), (1, .p 0 0)]) (by kernel_rfl) ?_
            refine JQ_loadq rfl (by kernel_rfl) (t := 3) (d := a0_0) (Int.toNat s21 * 5) 3 (by kernel_rfl) (cs := [.int .i64 x56.Key, .int .i64 x56.From, .int .i64 x56.To, .int .i64 x56.Known, .int .i64 x56.Value]) (v := .int .i64 x56.Known) (fun γ w hs => (hv0_0.kept hs.kept).flatq hx57) (by kernel_rfl) (sl' := [(34, .v (.int .i64 x56.Known)), (33, .q a0_0 (Int.toNat s21 * 5 + 3)), (28, .v (.int .i64 x53.Known)), (21, .v (.bool true)), (18, .v (.bool false)), (3, .v (.int .i64 s21)), (1, .p 0 0)]) (by kernel_rfl) ?_
            refine JQ_stepsK 3 [37, 3, 1] (sl' := [(37, .v (.bool (decide (x53.Known > x56.Known)))), (3, .v (.int .i64 s21)), (1, .p 0 0)]) (by kernel_rfl) ?_
            refine JQ_end (by kernel_rfl) ?_
            obtain rfl := sI h58
            exact JE_meet () [1, 3, 37] [] 1 (by kernel_rfl) (by kernel_rfl) (by kernel_rfl) (by kernel_rfl)
          · have h52 := cF b50 h49
            refine JQ_stepsK 16 [37, 3, 1] (sl' := [(37, .v (.bool false)), (3, .v (.int .i64 s21)), (1, .p 0 0)]) (by kernel_rfl) ?_
            refine JQ_end (by kernel_rfl) ?_
            obtain rfl := sI h52
            exact JE_meet () [1, 3, 37] [] 1 (by kernel_rfl) (by kernel_rfl) (by kernel_rfl) (by kernel_rfl)
      · skip
        refine JE_then ?_
        refine JC_cond p37 (by kernel_rfl) (fun b59 => ?_) (fun b59 => ?_)
        · have h60 := cT b59 h39
          refine JC_seq ?_
          refine JC_region ?_
          refine JO_stepsK 1 [2] (sl' := [(2, .v (.bool false))]) (bx' := [(57, [.slice a0_0 x0.Facts.length c0_0])]) (by kernel_rfl) ?_
          refine JO_end (by kernel_rfl) ?_
          refine JE_then ?_
          refine JC_ret ?_
          refine JE_block_ret ?_
          refine JE_then_ret ?_
          refine JE_then_ret ?_
          have h62 := leafR hd30 h60 h26
          refine JE_block_ret ?_
          refine JE_then_ret ?_
          refine JE_then_ret ?_
          refine JE_ret (vs := [.bool false]) (by kernel_rfl) (fun γ w hs => ?_)
          rw [← sI h62]
          exact ⟨rfl, hs.kept.toBelow⟩
        · have h61 := cF b59 h39
          refine JC_skip ?_
          refine JE_block_normal ?_
          refine JE_then ?_
          refine JC_region ?_
          refine JO_stepsK 3 [3, 1] (sl' := [(3, .v (.int .i64 (w64 (s21 + 1)))), (1, .p 0 0)]) (bx' := [(57, [.slice a0_0 x0.Facts.length c0_0])]) (by kernel_rfl) ?_
          refine JO_end (by kernel_rfl) ?_
          exact JE_cont h61 () [3, 1] [] 1 (by kernel_rfl) (by kernel_rfl) (by kernel_rfl) (by kernel_rfl)
    · have h36 := cF b34 h29
      refine JC_exit ?_
      refine JE_then_exit ?_
      refine JE_then_exit ?_
      refine JE_block_hit ?_
      have h63 := leafB hd30 h36 h26
      exact JE_meetP ((), ()) h63 [1] [] 1 (by kernel_rfl) (by kernel_rfl) (by kernel_rfl) (by kernel_rfl)
  · have h33 := (congrFun hk28 _).symm.trans h33p
    refine JE_then ?_
    refine JC_seq ?_
    refine JC_region ?_
    refine JO_stepsK 5 [2] (sl' := [(2, .v (.bool (decide ((x0.Facts.length : Int) ≤ 200))))]) (bx' := [(57, [.slice a0_0 x0.Facts.length c0_0])]) (by kernel_rfl) ?_
    refine JO_end (by kernel_rfl) ?_
    refine JE_then ?_
    refine JC_ret ?_
    refine JE_ret (vs := [.bool (decide ((x0.Facts.length : Int) ≤ 200))]) (by kernel_rfl) (fun γ w hs => ?_)
    rw [← sI h33]
    exact ⟨rfl, hs.kept.toBelow⟩

theorem c_spec_StoreDigest {W : World} {x0 : Store} {a0_0 : Option Addr} {c0_0 : Nat} {r : Int} (h : spec_StoreDigest x0 = some r) (hv0_0 : SlView W x0.Facts a0_0 c0_0) :
    Gives0 Try.prog 39 #[.agg #[.slice a0_0 x0.Facts.length c0_0]] W (.int .i64 r) := by
  unfold spec_StoreDigest at h
  refine enter (args := [.agg #[.slice a0_0 x0.Facts.length c0_0]]) Try.func39 rfl Try.ntmps39 (by kernel_rfl) ?_
  refine JC_seq ?_
  refine JC_region ?_
  refine JO_stepsK 2 [1] (sl' := [(1, .p 0 0)]) (bx' := [(57, [.slice a0_0 x0.Facts.length c0_0])]) (by kernel_rfl) ?_
  refine JO_end (by kernel_rfl) ?_
  refine JE_then ?_
  refine JC_seq ?_
  refine JC_seq ?_
  refine JC_region ?_
  refine JO_stepsK 1 [8, 1] (sl' := [(8, .v (.agg #[.slice a0_0 x0.Facts.length c0_0])), (1, .p 0 0)]) (bx' := [(57, [.slice a0_0 x0.Facts.length c0_0])]) (by kernel_rfl) ?_
  obtain ⟨t21, h22, h23⟩ := bS h
  refine JO_call0 rfl (by kernel_rfl) (f := 78) (args := #[.agg #[.slice a0_0 x0.Facts.length c0_0]]) (by kernel_rfl) (x := .bool t21) (fun γ w hs => (by have vv := c_spec_StoreOk (W := w) h22 (hv0_0.kept hs.kept); exact vv)) (sl' := [(9, .v (.bool t21)), (8, .v (.agg #[.slice a0_0 x0.Facts.length c0_0])), (1, .p 0 0)]) (by kernel_rfl) ?_
  refine JO_stepsK 1 [10, 1] (sl' := [(10, .v (.bool (!t21))), (1, .p 0 0)]) (bx' := [(57, [.slice a0_0 x0.Facts.length c0_0])]) (by kernel_rfl) ?_
  refine JO_end (by kernel_rfl) ?_
  refine JE_then ?_
  refine JC_cond (!t21) (by kernel_rfl) (fun b25 => ?_) (fun b25 => ?_)
  · have h26 := cT b25 h23
    refine JC_seq ?_
    refine JC_region ?_
    refine JO_stepsK 1 [2] (sl' := [(2, .v (.int .i64 0))]) (bx' := [(57, [.slice a0_0 x0.Facts.length c0_0])]) (by kernel_rfl) ?_
    refine JO_end (by kernel_rfl) ?_
    refine JE_then ?_
    refine JC_ret ?_
    refine JE_then_ret ?_
    refine JE_ret (vs := [.int .i64 0]) (by kernel_rfl) (fun γ w hs => ?_)
    rw [← sI h26]
    exact ⟨rfl, hs.kept.toBelow⟩
  · have h27 := cF b25 h23
    refine JC_skip ?_
    refine JE_then ?_
    refine JC_seq ?_
    refine JC_region ?_
    refine JO_stepsK 1 [3, 1] (sl' := [(3, .v (.int .i64 7)), (1, .p 0 0)]) (bx' := [(57, [.slice a0_0 x0.Facts.length c0_0])]) (by kernel_rfl) ?_
    refine JO_end (by kernel_rfl) ?_
    refine JE_then ?_
    refine JC_seq ?_
    refine JC_seq ?_
    refine JC_region ?_
    refine JO_stepsK 1 [4, 3, 1] (sl' := [(4, .v (.int .i64 0)), (3, .v (.int .i64 7)), (1, .p 0 0)]) (bx' := [(57, [.slice a0_0 x0.Facts.length c0_0])]) (by kernel_rfl) ?_
    refine JO_end (by kernel_rfl) ?_
    refine JE_then ?_
    obtain ⟨r31, hL32, h33⟩ := bS h27
    obtain ⟨k34, hk35, h33⟩ := brkS h33
    refine JC_cutP (τ := (Int) × (Unit)) (fun y => k34 y.1 = some r) (fun y39 => [(3, .v (.int .i64 y39.1))]) (fun y39 => [(57, [.slice a0_0 x0.Facts.length c0_0])]) (fun y39 => []) ?_ (fun y39 h40p => ?_)
    · refine JC_block ?_
      refine JC_loop (τ := Unit) hL32 (fun s28 y29 => [(4, .v (.int .i64 s28.1)), (3, .v (.int .i64 s28.2)), (1, .p 0 0)]) (fun s28 y29 => [(57, [.slice a0_0 x0.Facts.length c0_0])]) (fun s28 y29 => []) () [4, 3, 1] [] 1 (by kernel_rfl) (by kernel_rfl) (by kernel_rfl) (by kernel_rfl) (fun s28 y29 t30 h36 hd37 => ?_)
      refine JC_seq ?_
      refine JC_seq ?_
      refine JC_region ?_
      refine JO_stepsK 5 [15, 4, 3, 1] (sl' := [(15, .v (.bool (decide (s28.1 < (x0.Facts.length : Int))))), (4, .v (.int .i64 s28.1)), (3, .v (.int .i64 s28.2)), (1, .p 0 0)]) (bx' := [(57, [.slice a0_0 x0.Facts.length c0_0])]) (by kernel_rfl) ?_
      refine JO_end (by kernel_rfl) ?_
      refine JE_then ?_
      refine JC_cond (decide (s28.1 < (x0.Facts.length : Int))) (by kernel_rfl) (fun b41 => ?_) (fun b41 => ?_)
      · have h42 := cT b41 h36
        refine JC_skip ?_
        refine JE_then ?_
        refine JC_seq ?_
        refine JC_block ?_
        refine JC_seq ?_
        refine JC_region ?_
        refine JO_stepsK 3 [20, 19, 4, 3, 1] (sl' := [(20, .v (.int .i64 s28.1)), (19, .v (.slice a0_0 x0.Facts.length c0_0)), (4, .v (.int .i64 s28.1)), (3, .v (.int .i64 s28.2)), (1, .p 0 0)]) (bx' := [(57, [.slice a0_0 x0.Facts.length c0_0])]) (by kernel_rfl) ?_
        obtain ⟨x44, hx45, h46⟩ := bS h42
        refine JO_index rfl (by kernel_rfl) (d := a0_0) (m := x0.Facts.length) (j := s28.1) (s := 5) (by kernel_rfl) (fun γ w hs => (hv0_0.kept hs.kept)) rfl hx45 (sl' := [(21, .q a0_0 (Int.toNat s28.1 * 5)), (20, .v (.int .i64 s28.1)), (19, .v (.slice a0_0 x0.Facts.length c0_0)), (4, .v (.int .i64 s28.1)), (3, .v (.int .i64 s28.2)), (1, .p 0 0)]) (by kernel_rfl) ?_
        refine JO_loadq rfl (by kernel_rfl) (t := 113) (d := a0_0) (Int.toNat s28.1 * 5) 0 (by kernel_rfl) (cs := [.int .i64 x44.Key, .int .i64 x44.From, .int .i64 x44.To, .int .i64 x44.Known, .int .i64 x44.Value]) (v := .agg #[.int .i64 x44.Key, .int .i64 x44.From, .int .i64 x44.To, .int .i64 x44.Known, .int .i64 x44.Value]) (fun γ w hs => (hv0_0.kept hs.kept).flatq hx45) (by kernel_rfl) (sl' := [(22, .v (.agg #[.int .i64 x44.Key, .int .i64 x44.From, .int .i64 x44.To, .int .i64 x44.Known, .int .i64 x44.Value])), (21, .q a0_0 (Int.toNat s28.1 * 5)), (20, .v (.int .i64 s28.1)), (19, .v (.slice a0_0 x0.Facts.length c0_0)), (4, .v (.int .i64 s28.1)), (3, .v (.int .i64 s28.2)), (1, .p 0 0)]) (by kernel_rfl) ?_
        refine JO_stepsK 2 [5, 4, 3, 1] (sl' := [(5, .p 1 0), (4, .v (.int .i64 s28.1)), (3, .v (.int .i64 s28.2)), (1, .p 0 0)]) (bx' := [(57, [.slice a0_0 x0.Facts.length c0_0]), (113, [.int .i64 x44.Key, .int .i64 x44.From, .int .i64 x44.To, .int .i64 x44.Known, .int .i64 x44.Value])]) (by kernel_rfl) ?_
        refine JO_end (by kernel_rfl) ?_
        refine JE_then ?_
        refine JC_seq ?_
        refine JC_region ?_
        refine JO_stepsK 10 [32, 30, 28, 26, 24, 4, 3, 1] (sl' := [(32, .v (.int .i64 x44.Value)), (30, .v (.int .i64 x44.Known)), (28, .v (.int .i64 x44.To)), (26, .v (.int .i64 x44.From)), (24, .v (.int .i64 x44.Key)), (4, .v (.int .i64 s28.1)), (3, .v (.int .i64 s28.2)), (1, .p 0 0)]) (bx' := [(57, [.slice a0_0 x0.Facts.length c0_0]), (113, [.int .i64 x44.Key, .int .i64 x44.From, .int .i64 x44.To, .int .i64 x44.Known, .int .i64 x44.Value])]) (by kernel_rfl) ?_
        refine JO_bslice rfl (by kernel_rfl) (e := 3) (len := 5) (cs := [.int .i64 x44.Key, .int .i64 x44.From, .int .i64 x44.To, .int .i64 x44.Known, .int .i64 x44.Value]) (by kernel_rfl) (xs := ([x44.Key, x44.From, x44.To, x44.Known, x44.Value] : List Int)) rfl (by kernel_rfl) (Rc := []) (Rr := []) rfl (own_flat (by kernel_rfl)) (fun y47 => [(33, .v (.slice y47.1 ([x44.Key, x44.From, x44.To, x44.Known, x44.Value] : List Int).length y47.2)), (32, .v (.int .i64 x44.Value)), (30, .v (.int .i64 x44.Known)), (28, .v (.int .i64 x44.To)), (26, .v (.int .i64 x44.From)), (24, .v (.int .i64 x44.Key)), (4, .v (.int .i64 s28.1)), (3, .v (.int .i64 s28.2)), (1, .p 0 0)]) (fun y47 => by kernel_rfl) (fun y47 => ?_)
        refine JO_stepsK 1 [6, 4, 3, 1] (sl' := [(6, .v (.slice y47.1 ([x44.Key, x44.From, x44.To, x44.Known, x44.Value] : List Int).length y47.2)), (4, .v (.int .i64 s28.1)), (3, .v (.int .i64 s28.2)), (1, .p 0 0)]) (bx' := [(57, [.slice a0_0 x0.Facts.length c0_0]), (113, [.int .i64 x44.Key, .int .i64 x44.From, .int .i64 x44.To, .int .i64 x44.Known, .int .i64 x44.Value])]) (by kernel_rfl) ?_
        refine JO_end (by kernel_rfl) ?_
        refine JE_then ?_
        refine JC_seq ?_
        refine JC_region ?_
        refine JO_stepsK 1 [7, 6, 4, 3, 1] (sl' := [(7, .v (.int .i64 0)), (6, .v (.slice y47.1 ([x44.Key, x44.From, x44.To, x44.Known, x44.Value] : List Int).length y47.2)), (4, .v (.int .i64 s28.1)), (3, .v (.int .i64 s28.2)), (1, .p 0 0)]) (bx' := [(57, [.slice a0_0 x0.Facts.length c0_0]), (113, [.int .i64 x44.Key, .int .i64 x44.From, .int .i64 x44.To, .int .i64 x44.Known, .int .i64 x44.Value])]) (by kernel_rfl) ?_
        refine JO_end (by kernel_rfl) ?_
        refine JE_then ?_
        obtain ⟨r52, hL53, h54⟩ := bS h46
        obtain ⟨k55, hk56, h54⟩ := brkS h54
        refine JC_cutP (τ := (Int × Int × Int × Int × Int × Int × Int) × (Unit)) (fun y => k55 y.1 = some t30) (fun y60 => [(4, .v (.int .i64 y60.1.1)), (3, .v (.int .i64 y60.1.2.1)), (1, .p 0 0)]) (fun y60 => [(57, [.slice a0_0 x0.Facts.length c0_0]), (113, [.int .i64 y60.1.2.2.1, .int .i64 y60.1.2.2.2.1, .int .i64 y60.1.2.2.2.2.1, .int .i64 y60.1.2.2.2.2.2.1, .int .i64 y60.1.2.2.2.2.2.2])]) (fun y60 => []) ?_ (fun y60 h61p => ?_)
        · refine JC_block ?_
          refine JC_loop (τ := Unit) hL53 (fun s49 y50 => [(7, .v (.int .i64 s49.1)), (6, .v (.slice y47.1 ([x44.Key, x44.From, x44.To, x44.Known, x44.Value] : List Int).length y47.2)), (4, .v (.int .i64 s28.1)), (3, .v (.int .i64 s49.2)), (1, .p 0 0)]) (fun s49 y50 => [(57, [.slice a0_0 x0.Facts.length c0_0]), (113, [.int .i64 x44.Key, .int .i64 x44.From, .int .i64 x44.To, .int .i64 x44.Known, .int .i64 x44.Value])]) (fun s49 y50 => [SlRes 3 ([x44.Key, x44.From, x44.To, x44.Known, x44.Value] : List Int) y47.1 y47.2]) () [7, 6, 4, 3, 1] [0] 2 (by kernel_rfl) (by kernel_rfl) (by kernel_rfl) (by kernel_rfl) (fun s49 y50 t51 h57 hd58 => ?_)
          refine JC_seq ?_
          refine JC_seq ?_
          refine JC_region ?_
          refine JO_stepsK 4 [37, 7, 6, 4, 3, 1] (sl' := [(37, .v (.bool (decide (s49.1 < (([x44.Key, x44.From, x44.To, x44.Known, x44.Value] : List Int).length : Int))))), (7, .v (.int .i64 s49.1)), (6, .v (.slice y47.1 ([x44.Key, x44.From, x44.To, x44.Known, x44.Value] : List Int).length y47.2)), (4, .v (.int .i64 s28.1)), (3, .v (.int .i64 s49.2)), (1, .p 0 0)]) (bx' := [(57, [.slice a0_0 x0.Facts.length c0_0]), (113, [.int .i64 x44.Key, .int .i64 x44.From, .int .i64 x44.To, .int .i64 x44.Known, .int .i64 x44.Value])]) (by kernel_rfl) ?_
          refine JO_end (by kernel_rfl) ?_
          refine JE_then ?_
          refine JC_cond (decide (s49.1 < (([x44.Key, x44.From, x44.To, x44.Known, x44.Value] : List Int).length : Int))) (by kernel_rfl) (fun b62 => ?_) (fun b62 => ?_)
          · have h63 := cT b62 h57
            refine JC_skip ?_
            refine JE_then ?_
            refine JC_seq ?_
            refine JC_block ?_
            refine JC_region ?_
            refine JO_stepsK 4 [43, 42, 41, 7, 6, 4, 1] (sl' := [(43, .v (.int .i64 s49.1)), (42, .v (.slice y47.1 ([x44.Key, x44.From, x44.To, x44.Known, x44.Value] : List Int).length y47.2)), (41, .v (.int .i64 (w64 (s49.2 * 1000003)))), (7, .v (.int .i64 s49.1)), (6, .v (.slice y47.1 ([x44.Key, x44.From, x44.To, x44.Known, x44.Value] : List Int).length y47.2)), (4, .v (.int .i64 s28.1)), (1, .p 0 0)]) (bx' := [(57, [.slice a0_0 x0.Facts.length c0_0]), (113, [.int .i64 x44.Key, .int .i64 x44.From, .int .i64 x44.To, .int .i64 x44.Known, .int .i64 x44.Value])]) (by kernel_rfl) ?_
            obtain ⟨x65, hx66, h67⟩ := bS h63
            refine JO_index rfl (by kernel_rfl) (d := y47.1) (m := ([x44.Key, x44.From, x44.To, x44.Known, x44.Value] : List Int).length) (j := s49.1) (s := 1) (by kernel_rfl) (fun γ w hs => (hs.view 0 rfl)) rfl hx66 (sl' := [(44, .q y47.1 (Int.toNat s49.1 * 1)), (43, .v (.int .i64 s49.1)), (42, .v (.slice y47.1 ([x44.Key, x44.From, x44.To, x44.Known, x44.Value] : List Int).length y47.2)), (41, .v (.int .i64 (w64 (s49.2 * 1000003)))), (7, .v (.int .i64 s49.1)), (6, .v (.slice y47.1 ([x44.Key, x44.From, x44.To, x44.Known, x44.Value] : List Int).length y47.2)), (4, .v (.int .i64 s28.1)), (1, .p 0 0)]) (by kernel_rfl) ?_
            refine JO_loadq rfl (by kernel_rfl) (t := 3) (d := y47.1) (Int.toNat s49.1 * 1) 0 (by kernel_rfl) (cs := [.int .i64 x65]) (v := .int .i64 x65) (fun γ w hs => (hs.view 0 rfl).flatq hx66) (by kernel_rfl) (sl' := [(45, .v (.int .i64 x65)), (44, .q y47.1 (Int.toNat s49.1 * 1)), (43, .v (.int .i64 s49.1)), (42, .v (.slice y47.1 ([x44.Key, x44.From, x44.To, x44.Known, x44.Value] : List Int).length y47.2)), (41, .v (.int .i64 (w64 (s49.2 * 1000003)))), (7, .v (.int .i64 s49.1)), (6, .v (.slice y47.1 ([x44.Key, x44.From, x44.To, x44.Known, x44.Value] : List Int).length y47.2)), (4, .v (.int .i64 s28.1)), (1, .p 0 0)]) (by kernel_rfl) ?_
            refine JO_stepsK 4 [3, 7, 6, 4, 1] (sl' := [(3, .v (.int .i64 (Int.tmod (w64 ((w64 ((w64 (s49.2 * 1000003)) + x65)) + 1000000001)) 2147483647))), (7, .v (.int .i64 s49.1)), (6, .v (.slice y47.1 ([x44.Key, x44.From, x44.To, x44.Known, x44.Value] : List Int).length y47.2)), (4, .v (.int .i64 s28.1)), (1, .p 0 0)]) (bx' := [(57, [.slice a0_0 x0.Facts.length c0_0]), (113, [.int .i64 x44.Key, .int .i64 x44.From, .int .i64 x44.To, .int .i64 x44.Known, .int .i64 x44.Value])]) (by kernel_rfl) ?_
            refine JO_end (by kernel_rfl) ?_
            refine JE_block_normal ?_
            refine JE_then ?_
            refine JC_region ?_
            refine JO_stepsK 3 [7, 3, 6, 4, 1] (sl' := [(7, .v (.int .i64 (w64 (s49.1 + 1)))), (3, .v (.int .i64 (Int.tmod (w64 ((w64 ((w64 (s49.2 * 1000003)) + x65)) + 1000000001)) 2147483647))), (6, .v (.slice y47.1 ([x44.Key, x44.From, x44.To, x44.Known, x44.Value] : List Int).length y47.2)), (4, .v (.int .i64 s28.1)), (1, .p 0 0)]) (bx' := [(57, [.slice a0_0 x0.Facts.length c0_0]), (113, [.int .i64 x44.Key, .int .i64 x44.From, .int .i64 x44.To, .int .i64 x44.Known, .int .i64 x44.Value])]) (by kernel_rfl) ?_
            refine JO_end (by kernel_rfl) ?_
            exact JE_cont h67 () [7, 6, 4, 3, 1] [0] 2 (by kernel_rfl) (by kernel_rfl) (by kernel_rfl) (by kernel_rfl)
          · have h64 := cF b62 h57
            refine JC_exit ?_
            refine JE_then_exit ?_
            refine JE_then_exit ?_
            refine JE_block_hit ?_
            have h68 := leafB hd58 h64 h54
            exact JE_meetP ((s28.1, s49.2, x44.Key, x44.From, x44.To, x44.Known, x44.Value), ()) h68 [4, 3, 1] [] 2 (by kernel_rfl) (by kernel_rfl) (by kernel_rfl) (by kernel_rfl)
        · have h61 := (congrFun hk56 _).symm.trans h61p
          refine JE_block_normal ?_
          refine JE_then ?_
          refine JC_region ?_
          refine JO_stepsK 3 [4, 3, 1] (sl' := [(4, .v (.int .i64 (w64 (y60.1.1 + 1)))), (3, .v (.int .i64 y60.1.2.1)), (1, .p 0 0)]) (bx' := [(57, [.slice a0_0 x0.Facts.length c0_0]), (113, [.int .i64 y60.1.2.2.1, .int .i64 y60.1.2.2.2.1, .int .i64 y60.1.2.2.2.2.1, .int .i64 y60.1.2.2.2.2.2.1, .int .i64 y60.1.2.2.2.2.2.2])]) (by kernel_rfl) ?_
          refine JO_end (by kernel_rfl) ?_
          exact JE_cont h61 () [4, 3, 1] [] 1 (by kernel_rfl) (by kernel_rfl) (by kernel_rfl) (by kernel_rfl)
      · have h43 := cF b41 h36
        refine JC_exit ?_
        refine JE_then_exit ?_
        refine JE_then_exit ?_
        refine JE_block_hit ?_
        have h69 := leafB hd37 h43 h33
        exact JE_meetP (s28.2, ()) h69 [3] [] 1 (by kernel_rfl) (by kernel_rfl) (by kernel_rfl) (by kernel_rfl)
    · have h40 := (congrFun hk35 _).symm.trans h40p
      refine JE_then ?_
      refine JC_seq ?_
      refine JC_region ?_
      refine JO_stepsK 2 [2] (sl' := [(2, .v (.int .i64 y39.1))]) (bx' := [(57, [.slice a0_0 x0.Facts.length c0_0])]) (by kernel_rfl) ?_
      refine JO_end (by kernel_rfl) ?_
      refine JE_then ?_
      refine JC_ret ?_
      refine JE_ret (vs := [.int .i64 y39.1]) (by kernel_rfl) (fun γ w hs => ?_)
      rw [← sI h40]
      exact ⟨rfl, hs.kept.toBelow⟩

theorem c_impl_isSpan {W : World} {x0 : Int} {x1 : Int} {r : Bool} (h : impl_isSpan x0 x1 = some r)  :
    Gives0 Try.prog 136 #[.int .i64 x0, .int .i64 x1] W (.bool r) := by
  unfold impl_isSpan at h
  refine enter (args := [.int .i64 x0, .int .i64 x1]) Try.func136 rfl Try.ntmps136 (by kernel_rfl) ?_
  refine JC_seq ?_
  refine JC_region ?_
  refine JO_stepsK 1 [0, 1] (sl' := [(0, .v (.int .i64 x0)), (1, .v (.int .i64 x1))]) (bx' := []) (by kernel_rfl) ?_
  refine JO_end (by kernel_rfl) ?_
  refine JE_then ?_
  refine JC_seq ?_
  obtain ⟨p21, hE22, h23⟩ := bS h
  refine JC_cut (τ := Unit) (fun _ => [(4, .v (.bool p21))]) (fun _ => []) (fun _ => []) ?_ (fun _ => ?_)
  · refine JC_region ?_
    refine JO_stepsK 3 [7, 0, 1] (sl' := [(7, .v (.bool (decide (0 ≤ x0)))), (0, .v (.int .i64 x0)), (1, .v (.int .i64 x1))]) (bx' := []) (by kernel_rfl) ?_
    refine JO_split 7 (decide (0 ≤ x0)) (by kernel_rfl) (fun b24 => ?_) (fun b24 => ?_)
    · have h25 := cT b24 hE22
      refine JO_stepsK 5 [12, 1] (sl' := [(12, .v (.bool (decide (x0 < x1)))), (1, .v (.int .i64 x1))]) (bx' := []) (by kernel_rfl) ?_
      refine JO_split 12 (decide (x0 < x1)) (by kernel_rfl) (fun b27 => ?_) (fun b27 => ?_)
      · have h28 := cT b27 h25
        refine JO_stepsK 4 [4] (sl' := [(4, .v (.bool (decide (x1 ≤ 3600))))]) (bx' := []) (by kernel_rfl) ?_
        refine JO_end (by kernel_rfl) ?_
        obtain rfl := sI h28
        exact JE_meet () [4] [] 0 (by kernel_rfl) (by kernel_rfl) (by kernel_rfl) (by kernel_rfl)
      · have h29 := cF b27 h25
        refine JO_stepsK 4 [4] (sl' := [(4, .v (.bool false))]) (bx' := []) (by kernel_rfl) ?_
        refine JO_end (by kernel_rfl) ?_
        obtain rfl := sI h29
        exact JE_meet () [4] [] 0 (by kernel_rfl) (by kernel_rfl) (by kernel_rfl) (by kernel_rfl)
    · have h26 := cF b24 hE22
      refine JO_stepsK 9 [4] (sl' := [(4, .v (.bool false))]) (bx' := []) (by kernel_rfl) ?_
      refine JO_end (by kernel_rfl) ?_
      obtain rfl := sI h26
      exact JE_meet () [4] [] 0 (by kernel_rfl) (by kernel_rfl) (by kernel_rfl) (by kernel_rfl)
  · skip
    refine JE_then ?_
    refine JC_ret ?_
    refine JE_ret (vs := [.bool p21]) (by kernel_rfl) (fun γ w hs => ?_)
    rw [← sI h23]
    exact ⟨rfl, hs.kept.toBelow⟩

theorem c_impl_MonthOk {W : World} {x0 : Int} {r : Bool} (h : impl_MonthOk x0 = some r)  :
    Gives0 Try.prog 97 #[.int .i64 x0] W (.bool r) := by
  unfold impl_MonthOk at h
  refine enter (args := [.int .i64 x0]) Try.func97 rfl Try.ntmps97 (by kernel_rfl) ?_
  refine JC_seq ?_
  refine JC_region ?_
  refine JO_stepsK 1 [0] (sl' := [(0, .v (.int .i64 x0))]) (bx' := []) (by kernel_rfl) ?_
  refine JO_end (by kernel_rfl) ?_
  refine JE_then ?_
  refine JC_seq ?_
  refine JC_region ?_
  refine JO_stepsK 1 [3] (sl' := [(3, .v (.int .i64 x0))]) (bx' := []) (by kernel_rfl) ?_
  obtain ⟨t21, h22, h23⟩ := bS h
  refine JO_call0 rfl (by kernel_rfl) (f := 67) (args := #[.int .i64 x0, .int .i64 0, .int .i64 3599]) (by kernel_rfl) (x := .bool t21) (fun γ w hs => (by have vv := c_impl_within (W := w) h22; exact vv)) (sl' := [(4, .v (.bool t21)), (3, .v (.int .i64 x0))]) (by kernel_rfl) ?_
  refine JO_stepsK 1 [2] (sl' := [(2, .v (.bool t21))]) (bx' := []) (by kernel_rfl) ?_
  refine JO_end (by kernel_rfl) ?_
  refine JE_then ?_
  refine JC_ret ?_
  refine JE_ret (vs := [.bool t21]) (by kernel_rfl) (fun γ w hs => ?_)
  rw [← sI h23]
  exact ⟨rfl, hs.kept.toBelow⟩

theorem c_impl_FactOk {W : World} {x0 : Fact} {r : Bool} (h : impl_FactOk x0 = some r)  :
    Gives0 Try.prog 116 #[.agg #[.int .i64 x0.Key, .int .i64 x0.From, .int .i64 x0.To, .int .i64 x0.Known, .int .i64 x0.Value]] W (.bool r) := by
  unfold impl_FactOk at h
  refine enter (args := [.agg #[.int .i64 x0.Key, .int .i64 x0.From, .int .i64 x0.To, .int .i64 x0.Known, .int .i64 x0.Value]]) Try.func116 rfl Try.ntmps116 (by kernel_rfl) ?_
  refine JC_seq ?_
  refine JC_region ?_
  refine JO_stepsK 2 [1] (sl' := [(1, .p 0 0)]) (bx' := [(113, [.int .i64 x0.Key, .int .i64 x0.From, .int .i64 x0.To, .int .i64 x0.Known, .int .i64 x0.Value])]) (by kernel_rfl) ?_
  refine JO_end (by kernel_rfl) ?_
  refine JE_then ?_
  refine JC_seq ?_
  obtain ⟨p21, hE22, h23⟩ := bS h
  refine JC_cut (τ := Unit) (fun _ => [(2, .v (.bool p21))]) (fun _ => [(113, [.int .i64 x0.Key, .int .i64 x0.From, .int .i64 x0.To, .int .i64 x0.Known, .int .i64 x0.Value])]) (fun _ => []) ?_ (fun _ => ?_)
  · refine JC_region ?_
    refine JO_stepsK 2 [4, 1] (sl' := [(4, .v (.int .i64 x0.Key)), (1, .p 0 0)]) (bx' := [(113, [.int .i64 x0.Key, .int .i64 x0.From, .int .i64 x0.To, .int .i64 x0.Known, .int .i64 x0.Value])]) (by kernel_rfl) ?_
    obtain ⟨t24, h25, h26⟩ := bS hE22
    refine JO_call0 rfl (by kernel_rfl) (f := 67) (args := #[.int .i64 x0.Key, .int .i64 1, .int .i64 50]) (by kernel_rfl) (x := .bool t24) (fun γ w hs => (by have vv := c_impl_within (W := w) h25; exact vv)) (sl' := [(5, .v (.bool t24)), (4, .v (.int .i64 x0.Key)), (1, .p 0 0)]) (by kernel_rfl) ?_
    refine JO_stepsK 1 [6, 1] (sl' := [(6, .v (.bool t24)), (1, .p 0 0)]) (bx' := [(113, [.int .i64 x0.Key, .int .i64 x0.From, .int .i64 x0.To, .int .i64 x0.Known, .int .i64 x0.Value])]) (by kernel_rfl) ?_
    refine JO_split 6 t24 (by kernel_rfl) (fun b28 => ?_) (fun b28 => ?_)
    · have h29 := cT b28 h26
      refine JO_stepsK 4 [10, 8, 6, 1] (sl' := [(10, .v (.int .i64 x0.To)), (8, .v (.int .i64 x0.From)), (6, .v (.bool true)), (1, .p 0 0)]) (bx' := [(113, [.int .i64 x0.Key, .int .i64 x0.From, .int .i64 x0.To, .int .i64 x0.Known, .int .i64 x0.Value])]) (by kernel_rfl) ?_
      obtain ⟨t31, h32, h33⟩ := bS h29
      refine JO_call0 rfl (by kernel_rfl) (f := 136) (args := #[.int .i64 x0.From, .int .i64 x0.To]) (by kernel_rfl) (x := .bool t31) (fun γ w hs => (by have vv := c_impl_isSpan (W := w) h32; exact vv)) (sl' := [(11, .v (.bool t31)), (10, .v (.int .i64 x0.To)), (8, .v (.int .i64 x0.From)), (6, .v (.bool true)), (1, .p 0 0)]) (by kernel_rfl) ?_
      refine JO_stepsK 2 [13, 1] (sl' := [(13, .v (.bool t31)), (1, .p 0 0)]) (bx' := [(113, [.int .i64 x0.Key, .int .i64 x0.From, .int .i64 x0.To, .int .i64 x0.Known, .int .i64 x0.Value])]) (by kernel_rfl) ?_
      refine JO_split 13 t31 (by kernel_rfl) (fun b35 => ?_) (fun b35 => ?_)
      · have h36 := cT b35 h33
        refine JO_stepsK 2 [15, 13, 1] (sl' := [(15, .v (.int .i64 x0.Known)), (13, .v (.bool true)), (1, .p 0 0)]) (bx' := [(113, [.int .i64 x0.Key, .int .i64 x0.From, .int .i64 x0.To, .int .i64 x0.Known, .int .i64 x0.Value])]) (by kernel_rfl) ?_
        obtain ⟨t38, h39, h40⟩ := bS h36
        refine JO_call0 rfl (by kernel_rfl) (f := 97) (args := #[.int .i64 x0.Known]) (by kernel_rfl) (x := .bool t38) (fun γ w hs => (by have vv := c_impl_MonthOk (W := w) h39; exact vv)) (sl' := [(16, .v (.bool t38)), (15, .v (.int .i64 x0.Known)), (13, .v (.bool true)), (1, .p 0 0)]) (by kernel_rfl) ?_
        refine JO_stepsK 2 [18, 1] (sl' := [(18, .v (.bool t38)), (1, .p 0 0)]) (bx' := [(113, [.int .i64 x0.Key, .int .i64 x0.From, .int .i64 x0.To, .int .i64 x0.Known, .int .i64 x0.Value])]) (by kernel_rfl) ?_
        refine JO_split 18 t38 (by kernel_rfl) (fun b42 => ?_) (fun b42 => ?_)
        · have h43 := cT b42 h40
          refine JO_stepsK 2 [20, 18] (sl' := [(20, .v (.int .i64 x0.Value)), (18, .v (.bool true))]) (bx' := [(113, [.int .i64 x0.Key, .int .i64 x0.From, .int .i64 x0.To, .int .i64 x0.Known, .int .i64 x0.Value])]) (by kernel_rfl) ?_
          obtain ⟨t45, h46, h47⟩ := bS h43
          refine JO_call0 rfl (by kernel_rfl) (f := 67) (args := #[.int .i64 x0.Value, .int .i64 (-1000000000), .int .i64 1000000000]) (by kernel_rfl) (x := .bool t45) (fun γ w hs => (by have vv := c_impl_within (W := w) h46; exact vv)) (sl' := [(21, .v (.bool t45)), (20, .v (.int .i64 x0.Value)), (18, .v (.bool true))]) (by kernel_rfl) ?_
          refine JO_stepsK 2 [2] (sl' := [(2, .v (.bool t45))]) (bx' := [(113, [.int .i64 x0.Key, .int .i64 x0.From, .int .i64 x0.To, .int .i64 x0.Known, .int .i64 x0.Value])]) (by kernel_rfl) ?_
          refine JO_end (by kernel_rfl) ?_
          obtain rfl := sI h47
          exact JE_meet () [2] [] 1 (by kernel_rfl) (by kernel_rfl) (by kernel_rfl) (by kernel_rfl)
        · have h44 := cF b42 h40
          refine JO_stepsK 5 [2] (sl' := [(2, .v (.bool false))]) (bx' := [(113, [.int .i64 x0.Key, .int .i64 x0.From, .int .i64 x0.To, .int .i64 x0.Known, .int .i64 x0.Value])]) (by kernel_rfl) ?_
          refine JO_end (by kernel_rfl) ?_
          obtain rfl := sI h44
          exact JE_meet () [2] [] 1 (by kernel_rfl) (by kernel_rfl) (by kernel_rfl) (by kernel_rfl)
      · have h37 := cF b35 h33
        refine JO_stepsK 10 [2] (sl' := [(2, .v (.bool false))]) (bx' := [(113, [.int .i64 x0.Key, .int .i64 x0.From, .int .i64 x0.To, .int .i64 x0.Known, .int .i64 x0.Value])]) (by kernel_rfl) ?_
        refine JO_end (by kernel_rfl) ?_
        obtain rfl := sI h37
        exact JE_meet () [2] [] 1 (by kernel_rfl) (by kernel_rfl) (by kernel_rfl) (by kernel_rfl)
    · have h30 := cF b28 h26
      refine JO_stepsK 17 [2] (sl' := [(2, .v (.bool false))]) (bx' := [(113, [.int .i64 x0.Key, .int .i64 x0.From, .int .i64 x0.To, .int .i64 x0.Known, .int .i64 x0.Value])]) (by kernel_rfl) ?_
      refine JO_end (by kernel_rfl) ?_
      obtain rfl := sI h30
      exact JE_meet () [2] [] 1 (by kernel_rfl) (by kernel_rfl) (by kernel_rfl) (by kernel_rfl)
  · skip
    refine JE_then ?_
    refine JC_ret ?_
    refine JE_ret (vs := [.bool p21]) (by kernel_rfl) (fun γ w hs => ?_)
    rw [← sI h23]
    exact ⟨rfl, hs.kept.toBelow⟩

theorem c_impl_StoreOk {W : World} {x0 : Store} {a0_0 : Option Addr} {c0_0 : Nat} {r : Bool} (h : impl_StoreOk x0 = some r) (hv0_0 : SlView W x0.Facts a0_0 c0_0) :
    Gives0 Try.prog 80 #[.agg #[.slice a0_0 x0.Facts.length c0_0]] W (.bool r) := by
  unfold impl_StoreOk at h
  refine enter (args := [.agg #[.slice a0_0 x0.Facts.length c0_0]]) Try.func80 rfl Try.ntmps80 (by kernel_rfl) ?_
  refine JC_seq ?_
  refine JC_region ?_
  refine JO_stepsK 2 [1] (sl' := [(1, .p 0 0)]) (bx' := [(57, [.slice a0_0 x0.Facts.length c0_0])]) (by kernel_rfl) ?_
  refine JO_end (by kernel_rfl) ?_
  refine JE_then ?_
  refine JC_seq ?_
  refine JC_seq ?_
  refine JC_region ?_
  refine JO_stepsK 4 [8, 7, 6, 1] (sl' := [(8, .v (.int .i64 0)), (7, .v (.int .i64 (x0.Facts.length : Int))), (6, .v (.slice a0_0 x0.Facts.length c0_0)), (1, .p 0 0)]) (bx' := [(57, [.slice a0_0 x0.Facts.length c0_0])]) (by kernel_rfl) ?_
  refine JO_end (by kernel_rfl) ?_
  refine JE_then ?_
  obtain ⟨r24, hL25, h26⟩ := bS h
  obtain ⟨k27, hk28, h26⟩ := brkS h26
  refine JC_cutP (τ := (Unit) × (Unit)) (fun y => k27 y.1 = some r) (fun y32 => [(1, .p 0 0)]) (fun y32 => [(57, [.slice a0_0 x0.Facts.length c0_0])]) (fun y32 => []) ?_ (fun y32 h33p => ?_)
  · refine JC_block ?_
    refine JC_loop (τ := Unit) hL25 (fun s21 y22 => [(8, .v (.int .i64 s21)), (7, .v (.int .i64 (x0.Facts.length : Int))), (6, .v (.slice a0_0 x0.Facts.length c0_0)), (1, .p 0 0)]) (fun s21 y22 => [(57, [.slice a0_0 x0.Facts.length c0_0])]) (fun s21 y22 => []) () [8, 7, 6, 1] [] 1 (by kernel_rfl) (by kernel_rfl) (by kernel_rfl) (by kernel_rfl) (fun s21 y22 t23 h29 hd30 => ?_)
    refine JC_seq ?_
    refine JC_region ?_
    refine JO_stepsK 1 [9, 8, 7, 6, 1] (sl' := [(9, .v (.bool (decide (s21 < (x0.Facts.length : Int))))), (8, .v (.int .i64 s21)), (7, .v (.int .i64 (x0.Facts.length : Int))), (6, .v (.slice a0_0 x0.Facts.length c0_0)), (1, .p 0 0)]) (bx' := [(57, [.slice a0_0 x0.Facts.length c0_0])]) (by kernel_rfl) ?_
    refine JO_end (by kernel_rfl) ?_
    refine JE_then ?_
    refine JC_seq ?_
    refine JC_cond (decide (s21 < (x0.Facts.length : Int))) (by kernel_rfl) (fun b34 => ?_) (fun b34 => ?_)
    · have h35 := cT b34 h29
      refine JC_skip ?_
      refine JE_then ?_
      refine JC_seq ?_
      refine JC_block ?_
      refine JC_seq ?_
      refine JC_region ?_
      refine JO_stepsK 1 [10, 8, 7, 6, 1] (sl' := [(10, .v (.int .i64 s21)), (8, .v (.int .i64 s21)), (7, .v (.int .i64 (x0.Facts.length : Int))), (6, .v (.slice a0_0 x0.Facts.length c0_0)), (1, .p 0 0)]) (bx' := [(57, [.slice a0_0 x0.Facts.length c0_0])]) (by kernel_rfl) ?_
      obtain ⟨x37, hx38, h39⟩ := bS h35
      refine JO_index rfl (by kernel_rfl) (d := a0_0) (m := x0.Facts.length) (j := s21) (s := 5) (by kernel_rfl) (fun γ w hs => (hv0_0.kept hs.kept)) rfl hx38 (sl' := [(11, .q a0_0 (Int.toNat s21 * 5)), (10, .v (.int .i64 s21)), (8, .v (.int .i64 s21)), (7, .v (.int .i64 (x0.Facts.length : Int))), (6, .v (.slice a0_0 x0.Facts.length c0_0)), (1, .p 0 0)]) (by kernel_rfl) ?_
      refine JO_loadq rfl (by kernel_rfl) (t := 113) (d := a0_0) (Int.toNat s21 * 5) 0 (by kernel_rfl) (cs := [.int .i64 x37.Key, .int .i64 x37.From, .int .i64 x37.To, .int .i64 x37.Known, .int .i64 x37.Value]) (v := .agg #[.int .i64 x37.Key, .int .i64 x37.From, .int .i64 x37.To, .int .i64 x37.Known, .int .i64 x37.Value]) (fun γ w hs => (hv0_0.kept hs.kept).flatq hx38) (by kernel_rfl) (sl' := [(12, .v (.agg #[.int .i64 x37.Key, .int .i64 x37.From, .int .i64 x37.To, .int .i64 x37.Known, .int .i64 x37.Value])), (11, .q a0_0 (Int.toNat s21 * 5)), (10, .v (.int .i64 s21)), (8, .v (.int .i64 s21)), (7, .v (.int .i64 (x0.Facts.length : Int))), (6, .v (.slice a0_0 x0.Facts.length c0_0)), (1, .p 0 0)]) (by kernel_rfl) ?_
      refine JO_stepsK 3 [3, 4, 8, 7, 6, 1] (sl' := [(3, .v (.int .i64 s21)), (4, .p 1 0), (8, .v (.int .i64 s21)), (7, .v (.int .i64 (x0.Facts.length : Int))), (6, .v (.slice a0_0 x0.Facts.length c0_0)), (1, .p 0 0)]) (bx' := [(57, [.slice a0_0 x0.Facts.length c0_0]), (113, [.int .i64 x37.Key, .int .i64 x37.From, .int .i64 x37.To, .int .i64 x37.Known, .int .i64 x37.Value])]) (by kernel_rfl) ?_
      refine JO_end (by kernel_rfl) ?_
      refine JE_then ?_
      refine JC_seq ?_
      obtain ⟨p40, hE41, h42⟩ := bS h39
      refine JC_cut (τ := Unit) (fun _ => [(1, .p 0 0), (6, .v (.slice a0_0 x0.Facts.length c0_0)), (7, .v (.int .i64 (x0.Facts.length : Int))), (8, .v (.int .i64 s21)), (31, .v (.bool p40))]) (fun _ => [(57, [.slice a0_0 x0.Facts.length c0_0]), (113, [.int .i64 x37.Key, .int .i64 x37.From, .int .i64 x37.To, .int .i64 x37.Known, .int .i64 x37.Value])]) (fun _ => []) ?_ (fun _ => ?_)
      · refine JC_quiet (by kernel_rfl) (by kernel_rfl) ?_
        refine JQ_stepsK 1 [13, 3, 4, 8, 7, 6, 1] (sl' := [(13, .v (.agg #[.int .i64 x37.Key, .int .i64 x37.From, .int .i64 x37.To, .int .i64 x37.Known, .int .i64 x37.Value])), (3, .v (.int .i64 s21)), (4, .p 1 0), (8, .v (.int .i64 s21)), (7, .v (.int .i64 (x0.Facts.length : Int))), (6, .v (.slice a0_0 x0.Facts.length c0_0)), (1, .p 0 0)]) (by kernel_rfl) ?_
        obtain ⟨t43, h44, h45⟩ := bS hE41
        refine JQ_call0 rfl (by kernel_rfl) (f := 116) (args := #[.agg #[.int .i64 x37.Key, .int .i64 x37.From, .int .i64 x37.To, .int .i64 x37.Known, .int .i64 x37.Value]]) (by kernel_rfl) (x := .bool t43) (fun γ w hs => (by have vv := c_impl_FactOk (W := w) h44; exact vv)) (sl' := [(14, .v (.bool t43)), (13, .v (.agg #[.int .i64 x37.Key, .int .i64 x37.From, .int .i64 x37.To, .int .i64 x37.Known, .int .i64 x37.Value])), (3, .v (.int .i64 s21)), (4, .p 1 0), (8, .v (.int .i64 s21)), (7, .v (.int .i64 (x0.Facts.length : Int))), (6, .v (.slice a0_0 x0.Facts.length c0_0)), (1, .p 0 0)]) (by kernel_rfl) ?_
        refine JQ_stepsK 2 [16, 3, 4, 8, 7, 6, 1] (sl' := [(16, .v (.bool (!t43))), (3, .v (.int .i64 s21)), (4, .p 1 0), (8, .v (.int .i64 s21)), (7, .v (.int .i64 (x0.Facts.length : Int))), (6, .v (.slice a0_0 x0.Facts.length c0_0)), (1, .p 0 0)]) (by kernel_rfl) ?_
        refine JQ_split 16 (!t43) (by kernel_rfl) (fun b47 => ?_) (fun b47 => ?_)
        · have h48 := cT b47 h45
          refine JQ_stepsK 15 [31, 8, 7, 6, 1] (sl' := [(31, .v (.bool true)), (8, .v (.int .i64 s21)), (7, .v (.int .i64 (x0.Facts.length : Int))), (6, .v (.slice a0_0 x0.Facts.length c0_0)), (1, .p 0 0)]) (by kernel_rfl) ?_
          refine JQ_end (by kernel_rfl) ?_
          obtain rfl := sI h48
          exact JE_meet () [1, 6, 7, 8, 31] [] 2 (by kernel_rfl) (by kernel_rfl) (by kernel_rfl) (by kernel_rfl)
        · have h49 := cF b47 h45
          refine JQ_stepsK 3 [19, 16, 3, 4, 8, 7, 6, 1] (sl' := [(19, .v (.bool (decide (s21 > 0)))), (16, .v (.bool false)), (3, .v (.int .i64 s21)), (4, .p 1 0), (8, .v (.int .i64 s21)), (7, .v (.int .i64 (x0.Facts.length : Int))), (6, .v (.slice a0_0 x0.Facts.length c0_0)), (1, .p 0 0)]) (by kernel_rfl) ?_
          refine JQ_split 19 (decide (s21 > 0)) (by kernel_rfl) (fun b50 => ?_) (fun b50 => ?_)
          · have h51 := cT b50 h49
            refine JQ_stepsK 4 [23, 21, 19, 16, 4, 8, 7, 6, 1] (sl' := [(23, .v (.int .i64 (w64 (s21 - 1)))), (21, .v (.slice a0_0 x0.Facts.length c0_0)), (19, .v (.bool true)), (16, .v (.bool false)), (4, .p 1 0), (8, .v (.int .i64 s21)), (7, .v (.int .i64 (x0.Facts.length : Int))), (6, .v (.slice a0_0 x0.Facts.length c0_0)), (1, .p 0 0)]) (by kernel_rfl) ?_
            obtain ⟨x53, hx54, h55⟩ := bS h51
            refine JQ_index rfl (by kernel_rfl) (d := a0_0) (m := x0.Facts.length) (j := (w64 (s21 - 1))) (s := 5) (by kernel_rfl) (fun γ w hs => (hv0_0.kept hs.kept)) rfl hx54 (sl' := [(24, .q a0_0 (Int.toNat (w64 (s21 - 1)) * 5)), (23, .v (.int .i64 (w64 (s21 - 1)))), (21, .v (.slice a0_0 x0.Facts.length c0_0)), (19, .v (.bool true)), (16, .v (.bool false)), (4, .p 1 0), (8, .v (.int .i64 s21)), (7, .v (.int .i64 (x0.Facts.length : Int))), (6, .v (.slice a0_0 x0.Facts.length c0_0)), (1, .p 0 0)]) (by kernel_rfl) ?_
            refine JQ_stepsK 1 [25, 19, 16, 4, 8, 7, 6, 1] (sl' := [(25, .q a0_0 (Int.toNat (w64 (s21 - 1)) * 5 + 3)), (19, .v (.bool true)), (16, .v (.bool false)), (4, .p 1 0), (8, .v (.int .i64 s21)), (7, .v (.int .i64 (x0.Facts.length : Int))), (6, .v (.slice a0_0 x0.Facts.length c0_0)), (1, .p 0 0)]) (by kernel_rfl) ?_
            refine JQ_loadq rfl (by kernel_rfl) (t := 3) (d := a0_0) (Int.toNat (w64 (s21 - 1)) * 5) 3 (by kernel_rfl) (cs := [.int .i64 x53.Key, .int .i64 x53.From, .int .i64 x53.To, .int .i64 x53.Known, .int .i64 x53.Value]) (v := .int .i64 x53.Known) (fun γ w hs => (hv0_0.kept hs.kept).flatq hx54) (by kernel_rfl) (sl' := [(26, .v (.int .i64 x53.Known)), (25, .q a0_0 (Int.toNat (w64 (s21 - 1)) * 5 + 3)), (19, .v (.bool true)), (16, .v (.bool false)), (4, .p 1 0), (8, .v (.int .i64 s21)), (7, .v (.int .i64 (x0.Facts.length : Int))), (6, .v (.slice a0_0 x0.Facts.length c0_0)), (1, .p 0 0)]) (by kernel_rfl) ?_
            refine JQ_stepsK 5 [31, 8, 7, 6, 1] (sl' := [(31, .v (.bool (decide (x53.Known > x37.Known)))), (8, .v (.int .i64 s21)), (7, .v (.int .i64 (x0.Facts.length : Int))), (6, .v (.slice a0_0 x0.Facts.length c0_0)), (1, .p 0 0)]) (by kernel_rfl) ?_
            refine JQ_end (by kernel_rfl) ?_
            obtain rfl := sI h55
            exact JE_meet () [1, 6, 7, 8, 31] [] 2 (by kernel_rfl) (by kernel_rfl) (by kernel_rfl) (by kernel_rfl)
          · have h52 := cF b50 h49
            refine JQ_stepsK 12 [31, 8, 7, 6, 1] (sl' := [(31, .v (.bool false)), (8, .v (.int .i64 s21)), (7, .v (.int .i64 (x0.Facts.length : Int))), (6, .v (.slice a0_0 x0.Facts.length c0_0)), (1, .p 0 0)]) (by kernel_rfl) ?_
            refine JQ_end (by kernel_rfl) ?_
            obtain rfl := sI h52
            exact JE_meet () [1, 6, 7, 8, 31] [] 2 (by kernel_rfl) (by kernel_rfl) (by kernel_rfl) (by kernel_rfl)
      · skip
        refine JE_then ?_
        refine JC_cond p40 (by kernel_rfl) (fun b56 => ?_) (fun b56 => ?_)
        · have h57 := cT b56 h42
          refine JC_seq ?_
          refine JC_region ?_
          refine JO_stepsK 1 [2] (sl' := [(2, .v (.bool false))]) (bx' := [(57, [.slice a0_0 x0.Facts.length c0_0]), (113, [.int .i64 x37.Key, .int .i64 x37.From, .int .i64 x37.To, .int .i64 x37.Known, .int .i64 x37.Value])]) (by kernel_rfl) ?_
          refine JO_end (by kernel_rfl) ?_
          refine JE_then ?_
          refine JC_ret ?_
          refine JE_block_ret ?_
          refine JE_then_ret ?_
          refine JE_then_ret ?_
          have h59 := leafR hd30 h57 h26
          refine JE_block_ret ?_
          refine JE_then_ret ?_
          refine JE_then_ret ?_
          refine JE_ret (vs := [.bool false]) (by kernel_rfl) (fun γ w hs => ?_)
          rw [← sI h59]
          exact ⟨rfl, hs.kept.toBelow⟩
        · have h58 := cF b56 h42
          refine JC_skip ?_
          refine JE_block_normal ?_
          refine JE_then ?_
          refine JC_region ?_
          refine JO_stepsK 2 [8, 1, 6, 7] (sl' := [(8, .v (.int .i64 (w64 (s21 + 1)))), (1, .p 0 0), (6, .v (.slice a0_0 x0.Facts.length c0_0)), (7, .v (.int .i64 (x0.Facts.length : Int)))]) (bx' := [(57, [.slice a0_0 x0.Facts.length c0_0]), (113, [.int .i64 x37.Key, .int .i64 x37.From, .int .i64 x37.To, .int .i64 x37.Known, .int .i64 x37.Value])]) (by kernel_rfl) ?_
          refine JO_end (by kernel_rfl) ?_
          exact JE_cont h58 () [8, 7, 6, 1] [] 1 (by kernel_rfl) (by kernel_rfl) (by kernel_rfl) (by kernel_rfl)
    · have h36 := cF b34 h29
      refine JC_exit ?_
      refine JE_then_exit ?_
      refine JE_then_exit ?_
      refine JE_block_hit ?_
      have h60 := leafB hd30 h36 h26
      exact JE_meetP ((), ()) h60 [1] [] 1 (by kernel_rfl) (by kernel_rfl) (by kernel_rfl) (by kernel_rfl)
  · have h33 := (congrFun hk28 _).symm.trans h33p
    refine JE_then ?_
    refine JC_seq ?_
    refine JC_region ?_
    refine JO_stepsK 5 [2] (sl' := [(2, .v (.bool (decide ((x0.Facts.length : Int) ≤ 200))))]) (bx' := [(57, [.slice a0_0 x0.Facts.length c0_0])]) (by kernel_rfl) ?_
    refine JO_end (by kernel_rfl) ?_
    refine JE_then ?_
    refine JC_ret ?_
    refine JE_ret (vs := [.bool (decide ((x0.Facts.length : Int) ≤ 200))]) (by kernel_rfl) (fun γ w hs => ?_)
    rw [← sI h33]
    exact ⟨rfl, hs.kept.toBelow⟩

theorem c_impl_StoreDigest {W : World} {x0 : Store} {a0_0 : Option Addr} {c0_0 : Nat} {r : Int} (h : impl_StoreDigest x0 = some r) (hv0_0 : SlView W x0.Facts a0_0 c0_0) :
    Gives0 Try.prog 41 #[.agg #[.slice a0_0 x0.Facts.length c0_0]] W (.int .i64 r) := by
  unfold impl_StoreDigest at h
  refine enter (args := [.agg #[.slice a0_0 x0.Facts.length c0_0]]) Try.func41 rfl Try.ntmps41 (by kernel_rfl) ?_
  refine JC_seq ?_
  refine JC_region ?_
  refine JO_stepsK 2 [1] (sl' := [(1, .p 0 0)]) (bx' := [(57, [.slice a0_0 x0.Facts.length c0_0])]) (by kernel_rfl) ?_
  refine JO_end (by kernel_rfl) ?_
  refine JE_then ?_
  refine JC_seq ?_
  refine JC_seq ?_
  refine JC_region ?_
  refine JO_stepsK 1 [8, 1] (sl' := [(8, .v (.agg #[.slice a0_0 x0.Facts.length c0_0])), (1, .p 0 0)]) (bx' := [(57, [.slice a0_0 x0.Facts.length c0_0])]) (by kernel_rfl) ?_
  obtain ⟨t21, h22, h23⟩ := bS h
  refine JO_call0 rfl (by kernel_rfl) (f := 80) (args := #[.agg #[.slice a0_0 x0.Facts.length c0_0]]) (by kernel_rfl) (x := .bool t21) (fun γ w hs => (by have vv := c_impl_StoreOk (W := w) h22 (hv0_0.kept hs.kept); exact vv)) (sl' := [(9, .v (.bool t21)), (8, .v (.agg #[.slice a0_0 x0.Facts.length c0_0])), (1, .p 0 0)]) (by kernel_rfl) ?_
  refine JO_stepsK 1 [10, 1] (sl' := [(10, .v (.bool (!t21))), (1, .p 0 0)]) (bx' := [(57, [.slice a0_0 x0.Facts.length c0_0])]) (by kernel_rfl) ?_
  refine JO_end (by kernel_rfl) ?_
  refine JE_then ?_
  refine JC_cond (!t21) (by kernel_rfl) (fun b25 => ?_) (fun b25 => ?_)
  · have h26 := cT b25 h23
    refine JC_seq ?_
    refine JC_region ?_
    refine JO_stepsK 1 [2] (sl' := [(2, .v (.int .i64 0))]) (bx' := [(57, [.slice a0_0 x0.Facts.length c0_0])]) (by kernel_rfl) ?_
    refine JO_end (by kernel_rfl) ?_
    refine JE_then ?_
    refine JC_ret ?_
    refine JE_then_ret ?_
    refine JE_ret (vs := [.int .i64 0]) (by kernel_rfl) (fun γ w hs => ?_)
    rw [← sI h26]
    exact ⟨rfl, hs.kept.toBelow⟩
  · have h27 := cF b25 h23
    refine JC_skip ?_
    refine JE_then ?_
    refine JC_seq ?_
    refine JC_region ?_
    refine JO_stepsK 1 [3, 1] (sl' := [(3, .v (.int .i64 7)), (1, .p 0 0)]) (bx' := [(57, [.slice a0_0 x0.Facts.length c0_0])]) (by kernel_rfl) ?_
    refine JO_end (by kernel_rfl) ?_
    refine JE_then ?_
    refine JC_seq ?_
    refine JC_seq ?_
    refine JC_region ?_
    refine JO_stepsK 4 [14, 13, 12, 3] (sl' := [(14, .v (.int .i64 0)), (13, .v (.int .i64 (x0.Facts.length : Int))), (12, .v (.slice a0_0 x0.Facts.length c0_0)), (3, .v (.int .i64 7))]) (bx' := [(57, [.slice a0_0 x0.Facts.length c0_0])]) (by kernel_rfl) ?_
    refine JO_end (by kernel_rfl) ?_
    refine JE_then ?_
    obtain ⟨r31, hL32, h33⟩ := bS h27
    obtain ⟨k34, hk35, h33⟩ := brkS h33
    refine JC_cutP (τ := (Int) × (Unit)) (fun y => k34 y.1 = some r) (fun y39 => [(3, .v (.int .i64 y39.1))]) (fun y39 => [(57, [.slice a0_0 x0.Facts.length c0_0])]) (fun y39 => []) ?_ (fun y39 h40p => ?_)
    · refine JC_block ?_
      refine JC_loop (τ := Unit) hL32 (fun s28 y29 => [(14, .v (.int .i64 s28.1)), (13, .v (.int .i64 s28.2.1)), (12, .v (.slice a0_0 x0.Facts.length c0_0)), (3, .v (.int .i64 s28.2.2))]) (fun s28 y29 => [(57, [.slice a0_0 x0.Facts.length c0_0])]) (fun s28 y29 => []) () [14, 13, 12, 3] [] 1 (by kernel_rfl) (by kernel_rfl) (by kernel_rfl) (by kernel_rfl) (fun s28 y29 t30 h36 hd37 => ?_)
      refine JC_seq ?_
      refine JC_region ?_
      refine JO_stepsK 1 [15, 14, 13, 12, 3] (sl' := [(15, .v (.bool (decide (s28.1 < s28.2.1)))), (14, .v (.int .i64 s28.1)), (13, .v (.int .i64 s28.2.1)), (12, .v (.slice a0_0 x0.Facts.length c0_0)), (3, .v (.int .i64 s28.2.2))]) (bx' := [(57, [.slice a0_0 x0.Facts.length c0_0])]) (by kernel_rfl) ?_
      refine JO_end (by kernel_rfl) ?_
      refine JE_then ?_
      refine JC_seq ?_
      refine JC_cond (decide (s28.1 < s28.2.1)) (by kernel_rfl) (fun b41 => ?_) (fun b41 => ?_)
      · have h42 := cT b41 h36
        refine JC_skip ?_
        refine JE_then ?_
        refine JC_seq ?_
        refine JC_block ?_
        refine JC_seq ?_
        refine JC_region ?_
        obtain ⟨x44, hx45, h46⟩ := bS h42
        refine JO_index rfl (by kernel_rfl) (d := a0_0) (m := x0.Facts.length) (j := s28.1) (s := 5) (by kernel_rfl) (fun γ w hs => (hv0_0.kept hs.kept)) rfl hx45 (sl' := [(16, .q a0_0 (Int.toNat s28.1 * 5)), (15, .v (.bool (decide (s28.1 < s28.2.1)))), (14, .v (.int .i64 s28.1)), (13, .v (.int .i64 s28.2.1)), (12, .v (.slice a0_0 x0.Facts.length c0_0)), (3, .v (.int .i64 s28.2.2))]) (by kernel_rfl) ?_
        refine JO_loadq rfl (by kernel_rfl) (t := 113) (d := a0_0) (Int.toNat s28.1 * 5) 0 (by kernel_rfl) (cs := [.int .i64 x44.Key, .int .i64 x44.From, .int .i64 x44.To, .int .i64 x44.Known, .int .i64 x44.Value]) (v := .agg #[.int .i64 x44.Key, .int .i64 x44.From, .int .i64 x44.To, .int .i64 x44.Known, .int .i64 x44.Value]) (fun γ w hs => (hv0_0.kept hs.kept).flatq hx45) (by kernel_rfl) (sl' := [(17, .v (.agg #[.int .i64 x44.Key, .int .i64 x44.From, .int .i64 x44.To, .int .i64 x44.Known, .int .i64 x44.Value])), (16, .q a0_0 (Int.toNat s28.1 * 5)), (15, .v (.bool (decide (s28.1 < s28.2.1)))), (14, .v (.int .i64 s28.1)), (13, .v (.int .i64 s28.2.1)), (12, .v (.slice a0_0 x0.Facts.length c0_0)), (3, .v (.int .i64 s28.2.2))]) (by kernel_rfl) ?_
        refine JO_stepsK 2 [5, 14, 13, 12, 3] (sl' := [(5, .p 1 0), (14, .v (.int .i64 s28.1)), (13, .v (.int .i64 s28.2.1)), (12, .v (.slice a0_0 x0.Facts.length c0_0)), (3, .v (.int .i64 s28.2.2))]) (bx' := [(57, [.slice a0_0 x0.Facts.length c0_0]), (113, [.int .i64 x44.Key, .int .i64 x44.From, .int .i64 x44.To, .int .i64 x44.Known, .int .i64 x44.Value])]) (by kernel_rfl) ?_
        refine JO_end (by kernel_rfl) ?_
        refine JE_then ?_
        refine JC_seq ?_
        refine JC_region ?_
        refine JO_stepsK 10 [27, 25, 23, 21, 19, 14, 13, 12, 3] (sl' := [(27, .v (.int .i64 x44.Value)), (25, .v (.int .i64 x44.Known)), (23, .v (.int .i64 x44.To)), (21, .v (.int .i64 x44.From)), (19, .v (.int .i64 x44.Key)), (14, .v (.int .i64 s28.1)), (13, .v (.int .i64 s28.2.1)), (12, .v (.slice a0_0 x0.Facts.length c0_0)), (3, .v (.int .i64 s28.2.2))]) (bx' := [(57, [.slice a0_0 x0.Facts.length c0_0]), (113, [.int .i64 x44.Key, .int .i64 x44.From, .int .i64 x44.To, .int .i64 x44.Known, .int .i64 x44.Value])]) (by kernel_rfl) ?_
        refine JO_bslice rfl (by kernel_rfl) (e := 3) (len := 5) (cs := [.int .i64 x44.Key, .int .i64 x44.From, .int .i64 x44.To, .int .i64 x44.Known, .int .i64 x44.Value]) (by kernel_rfl) (xs := ([x44.Key, x44.From, x44.To, x44.Known, x44.Value] : List Int)) rfl (by kernel_rfl) (Rc := []) (Rr := []) rfl (own_flat (by kernel_rfl)) (fun y47 => [(28, .v (.slice y47.1 ([x44.Key, x44.From, x44.To, x44.Known, x44.Value] : List Int).length y47.2)), (27, .v (.int .i64 x44.Value)), (25, .v (.int .i64 x44.Known)), (23, .v (.int .i64 x44.To)), (21, .v (.int .i64 x44.From)), (19, .v (.int .i64 x44.Key)), (14, .v (.int .i64 s28.1)), (13, .v (.int .i64 s28.2.1)), (12, .v (.slice a0_0 x0.Facts.length c0_0)), (3, .v (.int .i64 s28.2.2))]) (fun y47 => by kernel_rfl) (fun y47 => ?_)
        refine JO_stepsK 2 [30, 29, 28, 14, 13, 12, 3] (sl' := [(30, .v (.int .i64 0)), (29, .v (.int .i64 (([x44.Key, x44.From, x44.To, x44.Known, x44.Value] : List Int).length : Int))), (28, .v (.slice y47.1 ([x44.Key, x44.From, x44.To, x44.Known, x44.Value] : List Int).length y47.2)), (14, .v (.int .i64 s28.1)), (13, .v (.int .i64 s28.2.1)), (12, .v (.slice a0_0 x0.Facts.length c0_0)), (3, .v (.int .i64 s28.2.2))]) (bx' := [(57, [.slice a0_0 x0.Facts.length c0_0]), (113, [.int .i64 x44.Key, .int .i64 x44.From, .int .i64 x44.To, .int .i64 x44.Known, .int .i64 x44.Value])]) (by kernel_rfl) ?_
        refine JO_end (by kernel_rfl) ?_
        refine JE_then ?_
        obtain ⟨r52, hL53, h54⟩ := bS h46
        obtain ⟨k55, hk56, h54⟩ := brkS h54
        refine JC_cutP (τ := (Int × Int × Int × Int × Int × Int × Int × Int) × (Unit)) (fun y => k55 y.1 = some t30) (fun y60 => [(14, .v (.int .i64 y60.1.1)), (13, .v (.int .i64 y60.1.2.1)), (12, .v (.slice a0_0 x0.Facts.length c0_0)), (3, .v (.int .i64 y60.1.2.2.1))]) (fun y60 => [(57, [.slice a0_0 x0.Facts.length c0_0]), (113, [.int .i64 y60.1.2.2.2.1, .int .i64 y60.1.2.2.2.2.1, .int .i64 y60.1.2.2.2.2.2.1, .int .i64 y60.1.2.2.2.2.2.2.1, .int .i64 y60.1.2.2.2.2.2.2.2])]) (fun y60 => []) ?_ (fun y60 h61p => ?_)
        · refine JC_block ?_
          refine JC_loop (τ := Unit) hL53 (fun s49 y50 => [(30, .v (.int .i64 s49.1)), (29, .v (.int .i64 (([x44.Key, x44.From, x44.To, x44.Known, x44.Value] : List Int).length : Int))), (28, .v (.slice y47.1 ([x44.Key, x44.From, x44.To, x44.Known, x44.Value] : List Int).length y47.2)), (14, .v (.int .i64 s28.1)), (13, .v (.int .i64 s28.2.1)), (12, .v (.slice a0_0 x0.Facts.length c0_0)), (3, .v (.int .i64 s49.2))]) (fun s49 y50 => [(57, [.slice a0_0 x0.Facts.length c0_0]), (113, [.int .i64 x44.Key, .int .i64 x44.From, .int .i64 x44.To, .int .i64 x44.Known, .int .i64 x44.Value])]) (fun s49 y50 => [SlRes 3 ([x44.Key, x44.From, x44.To, x44.Known, x44.Value] : List Int) y47.1 y47.2]) () [30, 29, 28, 14, 13, 12, 3] [0] 2 (by kernel_rfl) (by kernel_rfl) (by kernel_rfl) (by kernel_rfl) (fun s49 y50 t51 h57 hd58 => ?_)
          refine JC_seq ?_
          refine JC_region ?_
          refine JO_stepsK 1 [31, 30, 29, 28, 14, 13, 12, 3] (sl' := [(31, .v (.bool (decide (s49.1 < (([x44.Key, x44.From, x44.To, x44.Known, x44.Value] : List Int).length : Int))))), (30, .v (.int .i64 s49.1)), (29, .v (.int .i64 (([x44.Key, x44.From, x44.To, x44.Known, x44.Value] : List Int).length : Int))), (28, .v (.slice y47.1 ([x44.Key, x44.From, x44.To, x44.Known, x44.Value] : List Int).length y47.2)), (14, .v (.int .i64 s28.1)), (13, .v (.int .i64 s28.2.1)), (12, .v (.slice a0_0 x0.Facts.length c0_0)), (3, .v (.int .i64 s49.2))]) (bx' := [(57, [.slice a0_0 x0.Facts.length c0_0]), (113, [.int .i64 x44.Key, .int .i64 x44.From, .int .i64 x44.To, .int .i64 x44.Known, .int .i64 x44.Value])]) (by kernel_rfl) ?_
          refine JO_end (by kernel_rfl) ?_
          refine JE_then ?_
          refine JC_seq ?_
          refine JC_cond (decide (s49.1 < (([x44.Key, x44.From, x44.To, x44.Known, x44.Value] : List Int).length : Int))) (by kernel_rfl) (fun b62 => ?_) (fun b62 => ?_)
          · have h63 := cT b62 h57
            refine JC_skip ?_
            refine JE_then ?_
            refine JC_seq ?_
            refine JC_block ?_
            refine JC_seq ?_
            refine JC_region ?_
            obtain ⟨x65, hx66, h67⟩ := bS h63
            refine JO_index rfl (by kernel_rfl) (d := y47.1) (m := ([x44.Key, x44.From, x44.To, x44.Known, x44.Value] : List Int).length) (j := s49.1) (s := 1) (by kernel_rfl) (fun γ w hs => (hs.view 0 rfl)) rfl hx66 (sl' := [(32, .q y47.1 (Int.toNat s49.1 * 1)), (31, .v (.bool (decide (s49.1 < (([x44.Key, x44.From, x44.To, x44.Known, x44.Value] : List Int).length : Int))))), (30, .v (.int .i64 s49.1)), (29, .v (.int .i64 (([x44.Key, x44.From, x44.To, x44.Known, x44.Value] : List Int).length : Int))), (28, .v (.slice y47.1 ([x44.Key, x44.From, x44.To, x44.Known, x44.Value] : List Int).length y47.2)), (14, .v (.int .i64 s28.1)), (13, .v (.int .i64 s28.2.1)), (12, .v (.slice a0_0 x0.Facts.length c0_0)), (3, .v (.int .i64 s49.2))]) (by kernel_rfl) ?_
            refine JO_loadq rfl (by kernel_rfl) (t := 3) (d := y47.1) (Int.toNat s49.1 * 1) 0 (by kernel_rfl) (cs := [.int .i64 x65]) (v := .int .i64 x65) (fun γ w hs => (hs.view 0 rfl).flatq hx66) (by kernel_rfl) (sl' := [(33, .v (.int .i64 x65)), (32, .q y47.1 (Int.toNat s49.1 * 1)), (31, .v (.bool (decide (s49.1 < (([x44.Key, x44.From, x44.To, x44.Known, x44.Value] : List Int).length : Int))))), (30, .v (.int .i64 s49.1)), (29, .v (.int .i64 (([x44.Key, x44.From, x44.To, x44.Known, x44.Value] : List Int).length : Int))), (28, .v (.slice y47.1 ([x44.Key, x44.From, x44.To, x44.Known, x44.Value] : List Int).length y47.2)), (14, .v (.int .i64 s28.1)), (13, .v (.int .i64 s28.2.1)), (12, .v (.slice a0_0 x0.Facts.length c0_0)), (3, .v (.int .i64 s49.2))]) (by kernel_rfl) ?_
            refine JO_stepsK 1 [7, 30, 29, 28, 14, 13, 12, 3] (sl' := [(7, .v (.int .i64 x65)), (30, .v (.int .i64 s49.1)), (29, .v (.int .i64 (([x44.Key, x44.From, x44.To, x44.Known, x44.Value] : List Int).length : Int))), (28, .v (.slice y47.1 ([x44.Key, x44.From, x44.To, x44.Known, x44.Value] : List Int).length y47.2)), (14, .v (.int .i64 s28.1)), (13, .v (.int .i64 s28.2.1)), (12, .v (.slice a0_0 x0.Facts.length c0_0)), (3, .v (.int .i64 s49.2))]) (bx' := [(57, [.slice a0_0 x0.Facts.length c0_0]), (113, [.int .i64 x44.Key, .int .i64 x44.From, .int .i64 x44.To, .int .i64 x44.Known, .int .i64 x44.Value])]) (by kernel_rfl) ?_
            refine JO_end (by kernel_rfl) ?_
            refine JE_then ?_
            refine JC_region ?_
            refine JO_stepsK 7 [3, 30, 29, 28, 14, 13, 12] (sl' := [(3, .v (.int .i64 (Int.tmod (w64 ((w64 ((w64 (s49.2 * 1000003)) + x65)) + 1000000001)) 2147483647))), (30, .v (.int .i64 s49.1)), (29, .v (.int .i64 (([x44.Key, x44.From, x44.To, x44.Known, x44.Value] : List Int).length : Int))), (28, .v (.slice y47.1 ([x44.Key, x44.From, x44.To, x44.Known, x44.Value] : List Int).length y47.2)), (14, .v (.int .i64 s28.1)), (13, .v (.int .i64 s28.2.1)), (12, .v (.slice a0_0 x0.Facts.length c0_0))]) (bx' := [(57, [.slice a0_0 x0.Facts.length c0_0]), (113, [.int .i64 x44.Key, .int .i64 x44.From, .int .i64 x44.To, .int .i64 x44.Known, .int .i64 x44.Value])]) (by kernel_rfl) ?_
            refine JO_end (by kernel_rfl) ?_
            refine JE_block_normal ?_
            refine JE_then ?_
            refine JC_region ?_
            refine JO_stepsK 2 [30, 3, 29, 28, 14, 13, 12] (sl' := [(30, .v (.int .i64 (w64 (s49.1 + 1)))), (3, .v (.int .i64 (Int.tmod (w64 ((w64 ((w64 (s49.2 * 1000003)) + x65)) + 1000000001)) 2147483647))), (29, .v (.int .i64 (([x44.Key, x44.From, x44.To, x44.Known, x44.Value] : List Int).length : Int))), (28, .v (.slice y47.1 ([x44.Key, x44.From, x44.To, x44.Known, x44.Value] : List Int).length y47.2)), (14, .v (.int .i64 s28.1)), (13, .v (.int .i64 s28.2.1)), (12, .v (.slice a0_0 x0.Facts.length c0_0))]) (bx' := [(57, [.slice a0_0 x0.Facts.length c0_0]), (113, [.int .i64 x44.Key, .int .i64 x44.From, .int .i64 x44.To, .int .i64 x44.Known, .int .i64 x44.Value])]) (by kernel_rfl) ?_
            refine JO_end (by kernel_rfl) ?_
            exact JE_cont h67 () [30, 29, 28, 14, 13, 12, 3] [0] 2 (by kernel_rfl) (by kernel_rfl) (by kernel_rfl) (by kernel_rfl)
          · have h64 := cF b62 h57
            refine JC_exit ?_
            refine JE_then_exit ?_
            refine JE_then_exit ?_
            refine JE_block_hit ?_
            have h68 := leafB hd58 h64 h54
            exact JE_meetP ((s28.1, s28.2.1, s49.2, x44.Key, x44.From, x44.To, x44.Known, x44.Value), ()) h68 [14, 13, 12, 3] [] 2 (by kernel_rfl) (by kernel_rfl) (by kernel_rfl) (by kernel_rfl)
        · have h61 := (congrFun hk56 _).symm.trans h61p
          refine JE_block_normal ?_
          refine JE_then ?_
          refine JC_region ?_
          refine JO_stepsK 2 [14, 13, 12, 3] (sl' := [(14, .v (.int .i64 (w64 (y60.1.1 + 1)))), (13, .v (.int .i64 y60.1.2.1)), (12, .v (.slice a0_0 x0.Facts.length c0_0)), (3, .v (.int .i64 y60.1.2.2.1))]) (bx' := [(57, [.slice a0_0 x0.Facts.length c0_0]), (113, [.int .i64 y60.1.2.2.2.1, .int .i64 y60.1.2.2.2.2.1, .int .i64 y60.1.2.2.2.2.2.1, .int .i64 y60.1.2.2.2.2.2.2.1, .int .i64 y60.1.2.2.2.2.2.2.2])]) (by kernel_rfl) ?_
          refine JO_end (by kernel_rfl) ?_
          exact JE_cont h61 () [14, 13, 12, 3] [] 1 (by kernel_rfl) (by kernel_rfl) (by kernel_rfl) (by kernel_rfl)
      · have h43 := cF b41 h36
        refine JC_exit ?_
        refine JE_then_exit ?_
        refine JE_then_exit ?_
        refine JE_block_hit ?_
        have h69 := leafB hd37 h43 h33
        exact JE_meetP (s28.2.2, ()) h69 [3] [] 1 (by kernel_rfl) (by kernel_rfl) (by kernel_rfl) (by kernel_rfl)
    · have h40 := (congrFun hk35 _).symm.trans h40p
      refine JE_then ?_
      refine JC_seq ?_
      refine JC_region ?_
      refine JO_stepsK 2 [2] (sl' := [(2, .v (.int .i64 y39.1))]) (bx' := [(57, [.slice a0_0 x0.Facts.length c0_0])]) (by kernel_rfl) ?_
      refine JO_end (by kernel_rfl) ?_
      refine JE_then ?_
      refine JC_ret ?_
      refine JE_ret (vs := [.int .i64 y39.1]) (by kernel_rfl) (fun γ w hs => ?_)
      rw [← sI h40]
      exact ⟨rfl, hs.kept.toBelow⟩

theorem c_laws_eqFact {W : World} {x0 : Fact} {x1 : Fact} {r : Bool} (h : laws_eqFact x0 x1 = some r)  :
    Gives0 Try.prog 117 #[.agg #[.int .i64 x0.Key, .int .i64 x0.From, .int .i64 x0.To, .int .i64 x0.Known, .int .i64 x0.Value], .agg #[.int .i64 x1.Key, .int .i64 x1.From, .int .i64 x1.To, .int .i64 x1.Known, .int .i64 x1.Value]] W (.bool r) := by
  unfold laws_eqFact at h
  refine enter (args := [.agg #[.int .i64 x0.Key, .int .i64 x0.From, .int .i64 x0.To, .int .i64 x0.Known, .int .i64 x0.Value], .agg #[.int .i64 x1.Key, .int .i64 x1.From, .int .i64 x1.To, .int .i64 x1.Known, .int .i64 x1.Value]]) Try.func117 rfl Try.ntmps117 (by kernel_rfl) ?_
  refine JC_seq ?_
  refine JC_region ?_
  refine JO_stepsK 3 [3, 2] (sl' := [(3, .p 1 0), (2, .p 0 0)]) (bx' := [(113, [.int .i64 x0.Key, .int .i64 x0.From, .int .i64 x0.To, .int .i64 x0.Known, .int .i64 x0.Value]), (113, [.int .i64 x1.Key, .int .i64 x1.From, .int .i64 x1.To, .int .i64 x1.Known, .int .i64 x1.Value])]) (by kernel_rfl) ?_
  refine JO_end (by kernel_rfl) ?_
  refine JE_then ?_
  refine JC_seq ?_
  refine JC_seq ?_
  refine JC_region ?_
  refine JO_stepsK 5 [9, 3, 2] (sl' := [(9, .v (.bool (x0.Key != x1.Key))), (3, .p 1 0), (2, .p 0 0)]) (bx' := [(113, [.int .i64 x0.Key, .int .i64 x0.From, .int .i64 x0.To, .int .i64 x0.Known, .int .i64 x0.Value]), (113, [.int .i64 x1.Key, .int .i64 x1.From, .int .i64 x1.To, .int .i64 x1.Known, .int .i64 x1.Value])]) (by kernel_rfl) ?_
  refine JO_end (by kernel_rfl) ?_
  refine JE_then ?_
  refine JC_cond (x0.Key != x1.Key) (by kernel_rfl) (fun b21 => ?_) (fun b21 => ?_)
  · have h22 := cT b21 h
    refine JC_seq ?_
    refine JC_region ?_
    refine JO_stepsK 1 [4] (sl' := [(4, .v (.bool false))]) (bx' := [(113, [.int .i64 x0.Key, .int .i64 x0.From, .int .i64 x0.To, .int .i64 x0.Known, .int .i64 x0.Value]), (113, [.int .i64 x1.Key, .int .i64 x1.From, .int .i64 x1.To, .int .i64 x1.Known, .int .i64 x1.Value])]) (by kernel_rfl) ?_
    refine JO_end (by kernel_rfl) ?_
    refine JE_then ?_
    refine JC_ret ?_
    refine JE_then_ret ?_
    refine JE_ret (vs := [.bool false]) (by kernel_rfl) (fun γ w hs => ?_)
    rw [← sI h22]
    exact ⟨rfl, hs.kept.toBelow⟩
  · have h23 := cF b21 h
    refine JC_skip ?_
    refine JE_then ?_
    refine JC_seq ?_
    refine JC_seq ?_
    refine JC_region ?_
    refine JO_stepsK 5 [14, 3, 2] (sl' := [(14, .v (.bool (x0.From != x1.From))), (3, .p 1 0), (2, .p 0 0)]) (bx' := [(113, [.int .i64 x0.Key, .int .i64 x0.From, .int .i64 x0.To, .int .i64 x0.Known, .int .i64 x0.Value]), (113, [.int .i64 x1.Key, .int .i64 x1.From, .int .i64 x1.To, .int .i64 x1.Known, .int .i64 x1.Value])]) (by kernel_rfl) ?_
    refine JO_end (by kernel_rfl) ?_
    refine JE_then ?_
    refine JC_cond (x0.From != x1.From) (by kernel_rfl) (fun b24 => ?_) (fun b24 => ?_)
    · have h25 := cT b24 h23
      refine JC_seq ?_
      refine JC_region ?_
      refine JO_stepsK 1 [4] (sl' := [(4, .v (.bool false))]) (bx' := [(113, [.int .i64 x0.Key, .int .i64 x0.From, .int .i64 x0.To, .int .i64 x0.Known, .int .i64 x0.Value]), (113, [.int .i64 x1.Key, .int .i64 x1.From, .int .i64 x1.To, .int .i64 x1.Known, .int .i64 x1.Value])]) (by kernel_rfl) ?_
      refine JO_end (by kernel_rfl) ?_
      refine JE_then ?_
      refine JC_ret ?_
      refine JE_then_ret ?_
      refine JE_ret (vs := [.bool false]) (by kernel_rfl) (fun γ w hs => ?_)
      rw [← sI h25]
      exact ⟨rfl, hs.kept.toBelow⟩
    · have h26 := cF b24 h23
      refine JC_skip ?_
      refine JE_then ?_
      refine JC_seq ?_
      refine JC_seq ?_
      refine JC_region ?_
      refine JO_stepsK 5 [19, 3, 2] (sl' := [(19, .v (.bool (x0.To != x1.To))), (3, .p 1 0), (2, .p 0 0)]) (bx' := [(113, [.int .i64 x0.Key, .int .i64 x0.From, .int .i64 x0.To, .int .i64 x0.Known, .int .i64 x0.Value]), (113, [.int .i64 x1.Key, .int .i64 x1.From, .int .i64 x1.To, .int .i64 x1.Known, .int .i64 x1.Value])]) (by kernel_rfl) ?_
      refine JO_end (by kernel_rfl) ?_
      refine JE_then ?_
      refine JC_cond (x0.To != x1.To) (by kernel_rfl) (fun b27 => ?_) (fun b27 => ?_)
      · have h28 := cT b27 h26
        refine JC_seq ?_
        refine JC_region ?_
        refine JO_stepsK 1 [4] (sl' := [(4, .v (.bool false))]) (bx' := [(113, [.int .i64 x0.Key, .int .i64 x0.From, .int .i64 x0.To, .int .i64 x0.Known, .int .i64 x0.Value]), (113, [.int .i64 x1.Key, .int .i64 x1.From, .int .i64 x1.To, .int .i64 x1.Known, .int .i64 x1.Value])]) (by kernel_rfl) ?_
        refine JO_end (by kernel_rfl) ?_
        refine JE_then ?_
        refine JC_ret ?_
        refine JE_then_ret ?_
        refine JE_ret (vs := [.bool false]) (by kernel_rfl) (fun γ w hs => ?_)
        rw [← sI h28]
        exact ⟨rfl, hs.kept.toBelow⟩
      · have h29 := cF b27 h26
        refine JC_skip ?_
        refine JE_then ?_
        refine JC_seq ?_
        refine JC_seq ?_
        refine JC_region ?_
        refine JO_stepsK 5 [24, 3, 2] (sl' := [(24, .v (.bool (x0.Known != x1.Known))), (3, .p 1 0), (2, .p 0 0)]) (bx' := [(113, [.int .i64 x0.Key, .int .i64 x0.From, .int .i64 x0.To, .int .i64 x0.Known, .int .i64 x0.Value]), (113, [.int .i64 x1.Key, .int .i64 x1.From, .int .i64 x1.To, .int .i64 x1.Known, .int .i64 x1.Value])]) (by kernel_rfl) ?_
        refine JO_end (by kernel_rfl) ?_
        refine JE_then ?_
        refine JC_cond (x0.Known != x1.Known) (by kernel_rfl) (fun b30 => ?_) (fun b30 => ?_)
        · have h31 := cT b30 h29
          refine JC_seq ?_
          refine JC_region ?_
          refine JO_stepsK 1 [4] (sl' := [(4, .v (.bool false))]) (bx' := [(113, [.int .i64 x0.Key, .int .i64 x0.From, .int .i64 x0.To, .int .i64 x0.Known, .int .i64 x0.Value]), (113, [.int .i64 x1.Key, .int .i64 x1.From, .int .i64 x1.To, .int .i64 x1.Known, .int .i64 x1.Value])]) (by kernel_rfl) ?_
          refine JO_end (by kernel_rfl) ?_
          refine JE_then ?_
          refine JC_ret ?_
          refine JE_then_ret ?_
          refine JE_ret (vs := [.bool false]) (by kernel_rfl) (fun γ w hs => ?_)
          rw [← sI h31]
          exact ⟨rfl, hs.kept.toBelow⟩
        · have h32 := cF b30 h29
          refine JC_skip ?_
          refine JE_then ?_
          refine JC_seq ?_
          refine JC_seq ?_
          refine JC_region ?_
          refine JO_stepsK 5 [29] (sl' := [(29, .v (.bool (x0.Value != x1.Value)))]) (bx' := [(113, [.int .i64 x0.Key, .int .i64 x0.From, .int .i64 x0.To, .int .i64 x0.Known, .int .i64 x0.Value]), (113, [.int .i64 x1.Key, .int .i64 x1.From, .int .i64 x1.To, .int .i64 x1.Known, .int .i64 x1.Value])]) (by kernel_rfl) ?_
          refine JO_end (by kernel_rfl) ?_
          refine JE_then ?_
          refine JC_cond (x0.Value != x1.Value) (by kernel_rfl) (fun b33 => ?_) (fun b33 => ?_)
          · have h34 := cT b33 h32
            refine JC_seq ?_
            refine JC_region ?_
            refine JO_stepsK 1 [4] (sl' := [(4, .v (.bool false))]) (bx' := [(113, [.int .i64 x0.Key, .int .i64 x0.From, .int .i64 x0.To, .int .i64 x0.Known, .int .i64 x0.Value]), (113, [.int .i64 x1.Key, .int .i64 x1.From, .int .i64 x1.To, .int .i64 x1.Known, .int .i64 x1.Value])]) (by kernel_rfl) ?_
            refine JO_end (by kernel_rfl) ?_
            refine JE_then ?_
            refine JC_ret ?_
            refine JE_then_ret ?_
            refine JE_ret (vs := [.bool false]) (by kernel_rfl) (fun γ w hs => ?_)
            rw [← sI h34]
            exact ⟨rfl, hs.kept.toBelow⟩
          · have h35 := cF b33 h32
            refine JC_skip ?_
            refine JE_then ?_
            refine JC_seq ?_
            refine JC_region ?_
            refine JO_stepsK 1 [4] (sl' := [(4, .v (.bool true))]) (bx' := [(113, [.int .i64 x0.Key, .int .i64 x0.From, .int .i64 x0.To, .int .i64 x0.Known, .int .i64 x0.Value]), (113, [.int .i64 x1.Key, .int .i64 x1.From, .int .i64 x1.To, .int .i64 x1.Known, .int .i64 x1.Value])]) (by kernel_rfl) ?_
            refine JO_end (by kernel_rfl) ?_
            refine JE_then ?_
            refine JC_ret ?_
            refine JE_ret (vs := [.bool true]) (by kernel_rfl) (fun γ w hs => ?_)
            rw [← sI h35]
            exact ⟨rfl, hs.kept.toBelow⟩

theorem c_laws_eqFactS {W : World} {x0 : List Fact} {a0_0 : Option Addr} {c0_0 : Nat} {x1 : List Fact} {a1_0 : Option Addr} {c1_0 : Nat} {r : Bool} (h : laws_eqFactS x0 x1 = some r) (hv0_0 : SlView W x0 a0_0 c0_0) (hv1_0 : SlView W x1 a1_0 c1_0) :
    Gives0 Try.prog 81 #[.slice a0_0 x0.length c0_0, .slice a1_0 x1.length c1_0] W (.bool r) := by
  unfold laws_eqFactS at h
  refine enter (args := [.slice a0_0 x0.length c0_0, .slice a1_0 x1.length c1_0]) Try.func81 rfl Try.ntmps81 (by kernel_rfl) ?_
  refine JC_seq ?_
  refine JC_region ?_
  refine JO_stepsK 1 [0, 1] (sl' := [(0, .v (.slice a0_0 x0.length c0_0)), (1, .v (.slice a1_0 x1.length c1_0))]) (bx' := []) (by kernel_rfl) ?_
  refine JO_end (by kernel_rfl) ?_
  refine JE_then ?_
  refine JC_seq ?_
  refine JC_seq ?_
  refine JC_region ?_
  refine JO_stepsK 5 [10, 0, 1] (sl' := [(10, .v (.bool ((x0.length : Int) != (x1.length : Int)))), (0, .v (.slice a0_0 x0.length c0_0)), (1, .v (.slice a1_0 x1.length c1_0))]) (bx' := []) (by kernel_rfl) ?_
  refine JO_end (by kernel_rfl) ?_
  refine JE_then ?_
  refine JC_cond ((x0.length : Int) != (x1.length : Int)) (by kernel_rfl) (fun b21 => ?_) (fun b21 => ?_)
  · have h22 := cT b21 h
    refine JC_seq ?_
    refine JC_region ?_
    refine JO_stepsK 1 [4] (sl' := [(4, .v (.bool false))]) (bx' := []) (by kernel_rfl) ?_
    refine JO_end (by kernel_rfl) ?_
    refine JE_then ?_
    refine JC_ret ?_
    refine JE_then_ret ?_
    refine JE_ret (vs := [.bool false]) (by kernel_rfl) (fun γ w hs => ?_)
    rw [← sI h22]
    exact ⟨rfl, hs.kept.toBelow⟩
  · have h23 := cF b21 h
    refine JC_skip ?_
    refine JE_then ?_
    refine JC_seq ?_
    refine JC_seq ?_
    refine JC_region ?_
    refine JO_stepsK 1 [5, 0, 1] (sl' := [(5, .v (.int .i64 0)), (0, .v (.slice a0_0 x0.length c0_0)), (1, .v (.slice a1_0 x1.length c1_0))]) (bx' := []) (by kernel_rfl) ?_
    refine JO_end (by kernel_rfl) ?_
    refine JE_then ?_
    obtain ⟨r27, hL28, h29⟩ := bS h23
    obtain ⟨k30, hk31, h29⟩ := brkS h29
    refine JC_cutP (τ := (Unit) × (Unit)) (fun y => k30 y.1 = some r) (fun y35 => []) (fun y35 => []) (fun y35 => []) ?_ (fun y35 h36p => ?_)
    · refine JC_block ?_
      refine JC_loop (τ := Unit) hL28 (fun s24 y25 => [(5, .v (.int .i64 s24)), (0, .v (.slice a0_0 x0.length c0_0)), (1, .v (.slice a1_0 x1.length c1_0))]) (fun s24 y25 => []) (fun s24 y25 => []) () [5, 0, 1] [] 0 (by kernel_rfl) (by kernel_rfl) (by kernel_rfl) (by kernel_rfl) (fun s24 y25 t26 h32 hd33 => ?_)
      refine JC_seq ?_
      refine JC_seq ?_
      refine JC_region ?_
      refine JO_stepsK 4 [14, 5, 0, 1] (sl' := [(14, .v (.bool (decide (s24 < (x0.length : Int))))), (5, .v (.int .i64 s24)), (0, .v (.slice a0_0 x0.length c0_0)), (1, .v (.slice a1_0 x1.length c1_0))]) (bx' := []) (by kernel_rfl) ?_
      refine JO_end (by kernel_rfl) ?_
      refine JE_then ?_
      refine JC_cond (decide (s24 < (x0.length : Int))) (by kernel_rfl) (fun b37 => ?_) (fun b37 => ?_)
      · have h38 := cT b37 h32
        refine JC_skip ?_
        refine JE_then ?_
        refine JC_seq ?_
        refine JC_block ?_
        refine JC_seq ?_
        refine JC_quiet (by kernel_rfl) (by kernel_rfl) ?_
        refine JQ_stepsK 2 [18, 17, 5, 0, 1] (sl' := [(18, .v (.int .i64 s24)), (17, .v (.slice a0_0 x0.length c0_0)), (5, .v (.int .i64 s24)), (0, .v (.slice a0_0 x0.length c0_0)), (1, .v (.slice a1_0 x1.length c1_0))]) (by kernel_rfl) ?_
        obtain ⟨x40, hx41, h42⟩ := bS h38
        refine JQ_index rfl (by kernel_rfl) (d := a0_0) (m := x0.length) (j := s24) (s := 5) (by kernel_rfl) (fun γ w hs => (hv0_0.kept hs.kept)) rfl hx41 (sl' := [(19, .q a0_0 (Int.toNat s24 * 5)), (18, .v (.int .i64 s24)), (17, .v (.slice a0_0 x0.length c0_0)), (5, .v (.int .i64 s24)), (0, .v (.slice a0_0 x0.length c0_0)), (1, .v (.slice a1_0 x1.length c1_0))]) (by kernel_rfl) ?_
        refine JQ_loadq rfl (by kernel_rfl) (t := 113) (d := a0_0) (Int.toNat s24 * 5) 0 (by kernel_rfl) (cs := [.int .i64 x40.Key, .int .i64 x40.From, .int .i64 x40.To, .int .i64 x40.Known, .int .i64 x40.Value]) (v := .agg #[.int .i64 x40.Key, .int .i64 x40.From, .int .i64 x40.To, .int .i64 x40.Known, .int .i64 x40.Value]) (fun γ w hs => (hv0_0.kept hs.kept).flatq hx41) (by kernel_rfl) (sl' := [(20, .v (.agg #[.int .i64 x40.Key, .int .i64 x40.From, .int .i64 x40.To, .int .i64 x40.Known, .int .i64 x40.Value])), (19, .q a0_0 (Int.toNat s24 * 5)), (18, .v (.int .i64 s24)), (17, .v (.slice a0_0 x0.length c0_0)), (5, .v (.int .i64 s24)), (0, .v (.slice a0_0 x0.length c0_0)), (1, .v (.slice a1_0 x1.length c1_0))]) (by kernel_rfl) ?_
        refine JQ_stepsK 2 [22, 21, 20, 5, 0, 1] (sl' := [(22, .v (.int .i64 s24)), (21, .v (.slice a1_0 x1.length c1_0)), (20, .v (.agg #[.int .i64 x40.Key, .int .i64 x40.From, .int .i64 x40.To, .int .i64 x40.Known, .int .i64 x40.Value])), (5, .v (.int .i64 s24)), (0, .v (.slice a0_0 x0.length c0_0)), (1, .v (.slice a1_0 x1.length c1_0))]) (by kernel_rfl) ?_
        obtain ⟨x43, hx44, h45⟩ := bS h42
        refine JQ_index rfl (by kernel_rfl) (d := a1_0) (m := x1.length) (j := s24) (s := 5) (by kernel_rfl) (fun γ w hs => (hv1_0.kept hs.kept)) rfl hx44 (sl' := [(23, .q a1_0 (Int.toNat s24 * 5)), (22, .v (.int .i64 s24)), (21, .v (.slice a1_0 x1.length c1_0)), (20, .v (.agg #[.int .i64 x40.Key, .int .i64 x40.From, .int .i64 x40.To, .int .i64 x40.Known, .int .i64 x40.Value])), (5, .v (.int .i64 s24)), (0, .v (.slice a0_0 x0.length c0_0)), (1, .v (.slice a1_0 x1.length c1_0))]) (by kernel_rfl) ?_
        refine JQ_loadq rfl (by kernel_rfl) (t := 113) (d := a1_0) (Int.toNat s24 * 5) 0 (by kernel_rfl) (cs := [.int .i64 x43.Key, .int .i64 x43.From, .int .i64 x43.To, .int .i64 x43.Known, .int .i64 x43.Value]) (v := .agg #[.int .i64 x43.Key, .int .i64 x43.From, .int .i64 x43.To, .int .i64 x43.Known, .int .i64 x43.Value]) (fun γ w hs => (hv1_0.kept hs.kept).flatq hx44) (by kernel_rfl) (sl' := [(24, .v (.agg #[.int .i64 x43.Key, .int .i64 x43.From, .int .i64 x43.To, .int .i64 x43.Known, .int .i64 x43.Value])), (23, .q a1_0 (Int.toNat s24 * 5)), (22, .v (.int .i64 s24)), (21, .v (.slice a1_0 x1.length c1_0)), (20, .v (.agg #[.int .i64 x40.Key, .int .i64 x40.From, .int .i64 x40.To, .int .i64 x40.Known, .int .i64 x40.Value])), (5, .v (.int .i64 s24)), (0, .v (.slice a0_0 x0.length c0_0)), (1, .v (.slice a1_0 x1.length c1_0))]) (by kernel_rfl) ?_
        obtain ⟨t46, h47, h48⟩ := bS h45
        refine JQ_call0 rfl (by kernel_rfl) (f := 117) (args := #[.agg #[.int .i64 x40.Key, .int .i64 x40.From, .int .i64 x40.To, .int .i64 x40.Known, .int .i64 x40.Value], .agg #[.int .i64 x43.Key, .int .i64 x43.From, .int .i64 x43.To, .int .i64 x43.Known, .int .i64 x43.Value]]) (by kernel_rfl) (x := .bool t46) (fun γ w hs => (by have vv := c_laws_eqFact (W := w) h47; exact vv)) (sl' := [(25, .v (.bool t46)), (24, .v (.agg #[.int .i64 x43.Key, .int .i64 x43.From, .int .i64 x43.To, .int .i64 x43.Known, .int .i64 x43.Value])), (23, .q a1_0 (Int.toNat s24 * 5)), (22, .v (.int .i64 s24)), (21, .v (.slice a1_0 x1.length c1_0)), (20, .v (.agg #[.int .i64 x40.Key, .int .i64 x40.From, .int .i64 x40.To, .int .i64 x40.Known, .int .i64 x40.Value])), (5, .v (.int .i64 s24)), (0, .v (.slice a0_0 x0.length c0_0)), (1, .v (.slice a1_0 x1.length c1_0))]) (by kernel_rfl) ?_
        refine JQ_stepsK 1 [26, 5, 0, 1] (sl' := [(26, .v (.bool (!t46))), (5, .v (.int .i64 s24)), (0, .v (.slice a0_0 x0.length c0_0)), (1, .v (.slice a1_0 x1.length c1_0))]) (by kernel_rfl) ?_
        refine JQ_end (by kernel_rfl) ?_
        refine JE_then ?_
        refine JC_cond (!t46) (by kernel_rfl) (fun b50 => ?_) (fun b50 => ?_)
        · have h51 := cT b50 h48
          refine JC_seq ?_
          refine JC_region ?_
          refine JO_stepsK 1 [4] (sl' := [(4, .v (.bool false))]) (bx' := []) (by kernel_rfl) ?_
          refine JO_end (by kernel_rfl) ?_
          refine JE_then ?_
          refine JC_ret ?_
          refine JE_block_ret ?_
          refine JE_then_ret ?_
          refine JE_then_ret ?_
          have h53 := leafR hd33 h51 h29
          refine JE_block_ret ?_
          refine JE_then_ret ?_
          refine JE_then_ret ?_
          refine JE_ret (vs := [.bool false]) (by kernel_rfl) (fun γ w hs => ?_)
          rw [← sI h53]
          exact ⟨rfl, hs.kept.toBelow⟩
        · have h52 := cF b50 h48
          refine JC_skip ?_
          refine JE_block_normal ?_
          refine JE_then ?_
          refine JC_region ?_
          refine JO_stepsK 3 [5, 0, 1] (sl' := [(5, .v (.int .i64 (w64 (s24 + 1)))), (0, .v (.slice a0_0 x0.length c0_0)), (1, .v (.slice a1_0 x1.length c1_0))]) (bx' := []) (by kernel_rfl) ?_
          refine JO_end (by kernel_rfl) ?_
          exact JE_cont h52 () [5, 0, 1] [] 0 (by kernel_rfl) (by kernel_rfl) (by kernel_rfl) (by kernel_rfl)
      · have h39 := cF b37 h32
        refine JC_exit ?_
        refine JE_then_exit ?_
        refine JE_then_exit ?_
        refine JE_block_hit ?_
        have h54 := leafB hd33 h39 h29
        exact JE_meetP ((), ()) h54 [] [] 0 (by kernel_rfl) (by kernel_rfl) (by kernel_rfl) (by kernel_rfl)
    · have h36 := (congrFun hk31 _).symm.trans h36p
      refine JE_then ?_
      refine JC_seq ?_
      refine JC_region ?_
      refine JO_stepsK 1 [4] (sl' := [(4, .v (.bool true))]) (bx' := []) (by kernel_rfl) ?_
      refine JO_end (by kernel_rfl) ?_
      refine JE_then ?_
      refine JC_ret ?_
      refine JE_ret (vs := [.bool true]) (by kernel_rfl) (fun γ w hs => ?_)
      rw [← sI h36]
      exact ⟨rfl, hs.kept.toBelow⟩

theorem c_laws_eqStore {W : World} {x0 : Store} {a0_0 : Option Addr} {c0_0 : Nat} {x1 : Store} {a1_0 : Option Addr} {c1_0 : Nat} {r : Bool} (h : laws_eqStore x0 x1 = some r) (hv0_0 : SlView W x0.Facts a0_0 c0_0) (hv1_0 : SlView W x1.Facts a1_0 c1_0) :
    Gives0 Try.prog 42 #[.agg #[.slice a0_0 x0.Facts.length c0_0], .agg #[.slice a1_0 x1.Facts.length c1_0]] W (.bool r) := by
  unfold laws_eqStore at h
  refine enter (args := [.agg #[.slice a0_0 x0.Facts.length c0_0], .agg #[.slice a1_0 x1.Facts.length c1_0]]) Try.func42 rfl Try.ntmps42 (by kernel_rfl) ?_
  refine JC_seq ?_
  refine JC_region ?_
  refine JO_stepsK 3 [3, 2] (sl' := [(3, .p 1 0), (2, .p 0 0)]) (bx' := [(57, [.slice a0_0 x0.Facts.length c0_0]), (57, [.slice a1_0 x1.Facts.length c1_0])]) (by kernel_rfl) ?_
  refine JO_end (by kernel_rfl) ?_
  refine JE_then ?_
  refine JC_seq ?_
  refine JC_seq ?_
  refine JC_region ?_
  refine JO_stepsK 4 [8, 6] (sl' := [(8, .v (.slice a1_0 x1.Facts.length c1_0)), (6, .v (.slice a0_0 x0.Facts.length c0_0))]) (bx' := [(57, [.slice a0_0 x0.Facts.length c0_0]), (57, [.slice a1_0 x1.Facts.length c1_0])]) (by kernel_rfl) ?_
  obtain ⟨t21, h22, h23⟩ := bS h
  refine JO_call0 rfl (by kernel_rfl) (f := 81) (args := #[.slice a0_0 x0.Facts.length c0_0, .slice a1_0 x1.Facts.length c1_0]) (by kernel_rfl) (x := .bool t21) (fun γ w hs => (by have vv := c_laws_eqFactS (W := w) h22 (hv0_0.kept hs.kept) (hv1_0.kept hs.kept); exact vv)) (sl' := [(9, .v (.bool t21)), (8, .v (.slice a1_0 x1.Facts.length c1_0)), (6, .v (.slice a0_0 x0.Facts.length c0_0))]) (by kernel_rfl) ?_
  refine JO_stepsK 1 [10] (sl' := [(10, .v (.bool (!t21)))]) (bx' := [(57, [.slice a0_0 x0.Facts.length c0_0]), (57, [.slice a1_0 x1.Facts.length c1_0])]) (by kernel_rfl) ?_
  refine JO_end (by kernel_rfl) ?_
  refine JE_then ?_
  refine JC_cond (!t21) (by kernel_rfl) (fun b25 => ?_) (fun b25 => ?_)
  · have h26 := cT b25 h23
    refine JC_seq ?_
    refine JC_region ?_
    refine JO_stepsK 1 [4] (sl' := [(4, .v (.bool false))]) (bx' := [(57, [.slice a0_0 x0.Facts.length c0_0]), (57, [.slice a1_0 x1.Facts.length c1_0])]) (by kernel_rfl) ?_
    refine JO_end (by kernel_rfl) ?_
    refine JE_then ?_
    refine JC_ret ?_
    refine JE_then_ret ?_
    refine JE_ret (vs := [.bool false]) (by kernel_rfl) (fun γ w hs => ?_)
    rw [← sI h26]
    exact ⟨rfl, hs.kept.toBelow⟩
  · have h27 := cF b25 h23
    refine JC_skip ?_
    refine JE_then ?_
    refine JC_seq ?_
    refine JC_region ?_
    refine JO_stepsK 1 [4] (sl' := [(4, .v (.bool true))]) (bx' := [(57, [.slice a0_0 x0.Facts.length c0_0]), (57, [.slice a1_0 x1.Facts.length c1_0])]) (by kernel_rfl) ?_
    refine JO_end (by kernel_rfl) ?_
    refine JE_then ?_
    refine JC_ret ?_
    refine JE_ret (vs := [.bool true]) (by kernel_rfl) (fun γ w hs => ?_)
    rw [← sI h27]
    exact ⟨rfl, hs.kept.toBelow⟩

theorem c_laws_FnExactStoreDigest {W : World} {x0 : Store} {a0_0 : Option Addr} {c0_0 : Nat} {r : Bool} (h : laws_FnExactStoreDigest x0 = some r) (hv0_0 : SlView W x0.Facts a0_0 c0_0) :
    Gives0 Try.prog 8 #[.agg #[.slice a0_0 x0.Facts.length c0_0]] W (.bool r) := by
  unfold laws_FnExactStoreDigest at h
  refine enter (args := [.agg #[.slice a0_0 x0.Facts.length c0_0]]) Try.func8 rfl Try.ntmps8 (by kernel_rfl) ?_
  refine JC_seq ?_
  refine JC_region ?_
  refine JO_stepsK 2 [1] (sl' := [(1, .p 0 0)]) (bx' := [(52, [.slice a0_0 x0.Facts.length c0_0])]) (by kernel_rfl) ?_
  refine JO_end (by kernel_rfl) ?_
  refine JE_then ?_
  refine JC_seq ?_
  refine JC_region ?_
  refine JO_stepsK 1 [3, 1] (sl' := [(3, .v (.int .i64 1048576)), (1, .p 0 0)]) (bx' := [(52, [.slice a0_0 x0.Facts.length c0_0])]) (by kernel_rfl) ?_
  refine JO_end (by kernel_rfl) ?_
  refine JE_then ?_
  refine JC_seq ?_
  refine JC_region ?_
  refine JO_stepsK 2 [8, 7, 1] (sl' := [(8, .v (.int .i64 1048576)), (7, .v (.agg #[.slice a0_0 x0.Facts.length c0_0])), (1, .p 0 0)]) (bx' := [(52, [.slice a0_0 x0.Facts.length c0_0])]) (by kernel_rfl) ?_
  obtain ⟨t21, h22, h23⟩ := bS h
  refine JO_call0 rfl (by kernel_rfl) (f := 38) (args := #[.agg #[.slice a0_0 x0.Facts.length c0_0], .int .i64 1048576]) (by kernel_rfl) (x := .int .i64 t21) (fun γ w hs => (by have vv := c_laws_szStore (W := w) h22 (hv0_0.kept hs.kept); exact vv)) (sl' := [(9, .v (.int .i64 t21)), (8, .v (.int .i64 1048576)), (7, .v (.agg #[.slice a0_0 x0.Facts.length c0_0])), (1, .p 0 0)]) (by kernel_rfl) ?_
  refine JO_stepsK 1 [3, 1] (sl' := [(3, .v (.int .i64 t21)), (1, .p 0 0)]) (bx' := [(52, [.slice a0_0 x0.Facts.length c0_0])]) (by kernel_rfl) ?_
  refine JO_end (by kernel_rfl) ?_
  refine JE_then ?_
  refine JC_seq ?_
  refine JC_seq ?_
  refine JC_region ?_
  refine JO_stepsK 2 [11, 1] (sl' := [(11, .v (.bool (decide (t21 < 0)))), (1, .p 0 0)]) (bx' := [(52, [.slice a0_0 x0.Facts.length c0_0])]) (by kernel_rfl) ?_
  refine JO_end (by kernel_rfl) ?_
  refine JE_then ?_
  refine JC_cond (decide (t21 < 0)) (by kernel_rfl) (fun b25 => ?_) (fun b25 => ?_)
  · have h26 := cT b25 h23
    refine JC_seq ?_
    refine JC_region ?_
    refine JO_stepsK 1 [2] (sl' := [(2, .v (.bool true))]) (bx' := [(52, [.slice a0_0 x0.Facts.length c0_0])]) (by kernel_rfl) ?_
    refine JO_end (by kernel_rfl) ?_
    refine JE_then ?_
    refine JC_ret ?_
    refine JE_then_ret ?_
    refine JE_ret (vs := [.bool true]) (by kernel_rfl) (fun γ w hs => ?_)
    rw [← sI h26]
    exact ⟨rfl, hs.kept.toBelow⟩
  · have h27 := cF b25 h23
    refine JC_skip ?_
    refine JE_then ?_
    refine JC_seq ?_
    refine JC_region ?_
    refine JO_stepsK 1 [12, 1] (sl' := [(12, .v (.agg #[.slice a0_0 x0.Facts.length c0_0])), (1, .p 0 0)]) (bx' := [(52, [.slice a0_0 x0.Facts.length c0_0])]) (by kernel_rfl) ?_
    obtain ⟨t28, h29, h30⟩ := bS h27
    refine JO_call rfl (by kernel_rfl) (f := 40) (args := #[.agg #[.slice a0_0 x0.Facts.length c0_0]]) (by kernel_rfl) (fun γ w hs => (by have vv := c_laws_toStore (W := w) h29 (hv0_0.kept hs.kept); exact vv)) (fun (y31 : (Option Addr × Nat)) => [(13, .v (.agg #[.slice y31.1 t28.Facts.length y31.2])), (12, .v (.agg #[.slice a0_0 x0.Facts.length c0_0])), (1, .p 0 0)]) (fun y31 => by kernel_rfl) (fun y31 => ?_)
    obtain ⟨t32, h33, h34⟩ := bS h30
    refine JO_call0 rfl (by kernel_rfl) (f := 39) (args := #[.agg #[.slice y31.1 t28.Facts.length y31.2]]) (by kernel_rfl) (x := .int .i64 t32) (fun γ w hs => (by have v0 := hs.view 0 rfl; have vv := c_spec_StoreDigest (W := w) h33 v0; exact vv)) (sl' := [(14, .v (.int .i64 t32)), (13, .v (.agg #[.slice y31.1 t28.Facts.length y31.2])), (12, .v (.agg #[.slice a0_0 x0.Facts.length c0_0])), (1, .p 0 0)]) (by kernel_rfl) ?_
    refine JO_stepsK 1 [4, 1] (sl' := [(4, .v (.int .i64 t32)), (1, .p 0 0)]) (bx' := [(52, [.slice a0_0 x0.Facts.length c0_0])]) (by kernel_rfl) ?_
    refine JO_end (by kernel_rfl) ?_
    refine JE_then ?_
    refine JC_seq ?_
    refine JC_region ?_
    refine JO_stepsK 1 [15, 4, 1] (sl' := [(15, .v (.agg #[.slice a0_0 x0.Facts.length c0_0])), (4, .v (.int .i64 t32)), (1, .p 0 0)]) (bx' := [(52, [.slice a0_0 x0.Facts.length c0_0])]) (by kernel_rfl) ?_
    obtain ⟨t36, h37, h38⟩ := bS h34
    refine JO_call rfl (by kernel_rfl) (f := 40) (args := #[.agg #[.slice a0_0 x0.Facts.length c0_0]]) (by kernel_rfl) (fun γ w hs => (by have vv := c_laws_toStore (W := w) h37 (hv0_0.kept hs.kept); exact vv)) (fun (y39 : (Option Addr × Nat)) => [(16, .v (.agg #[.slice y39.1 t36.Facts.length y39.2])), (15, .v (.agg #[.slice a0_0 x0.Facts.length c0_0])), (4, .v (.int .i64 t32)), (1, .p 0 0)]) (fun y39 => by kernel_rfl) (fun y39 => ?_)
    refine JO_stepsK 2 [5, 4, 1] (sl' := [(5, .p 1 0), (4, .v (.int .i64 t32)), (1, .p 0 0)]) (bx' := [(52, [.slice a0_0 x0.Facts.length c0_0]), (57, [.slice y39.1 t36.Facts.length y39.2])]) (by kernel_rfl) ?_
    refine JO_end (by kernel_rfl) ?_
    refine JE_then ?_
    refine JC_seq ?_
    refine JC_region ?_
    refine JO_stepsK 1 [17, 5, 4, 1] (sl' := [(17, .v (.agg #[.slice y39.1 t36.Facts.length y39.2])), (5, .p 1 0), (4, .v (.int .i64 t32)), (1, .p 0 0)]) (bx' := [(52, [.slice a0_0 x0.Facts.length c0_0]), (57, [.slice y39.1 t36.Facts.length y39.2])]) (by kernel_rfl) ?_
    obtain ⟨t40, h41, h42⟩ := bS h38
    refine JO_call0 rfl (by kernel_rfl) (f := 41) (args := #[.agg #[.slice y39.1 t36.Facts.length y39.2]]) (by kernel_rfl) (x := .int .i64 t40) (fun γ w hs => (by have v0 := hs.view 0 rfl; have vv := c_impl_StoreDigest (W := w) h41 v0; exact vv)) (sl' := [(18, .v (.int .i64 t40)), (17, .v (.agg #[.slice y39.1 t36.Facts.length y39.2])), (5, .p 1 0), (4, .v (.int .i64 t32)), (1, .p 0 0)]) (by kernel_rfl) ?_
    refine JO_stepsK 1 [6, 5, 4, 1] (sl' := [(6, .v (.int .i64 t40)), (5, .p 1 0), (4, .v (.int .i64 t32)), (1, .p 0 0)]) (bx' := [(52, [.slice a0_0 x0.Facts.length c0_0]), (57, [.slice y39.1 t36.Facts.length y39.2])]) (by kernel_rfl) ?_
    refine JO_end (by kernel_rfl) ?_
    refine JE_then ?_
    refine JC_seq ?_
    refine JC_seq ?_
    refine JC_region ?_
    refine JO_stepsK 3 [21, 5, 1] (sl' := [(21, .v (.bool (t40 != t32))), (5, .p 1 0), (1, .p 0 0)]) (bx' := [(52, [.slice a0_0 x0.Facts.length c0_0]), (57, [.slice y39.1 t36.Facts.length y39.2])]) (by kernel_rfl) ?_
    refine JO_end (by kernel_rfl) ?_
    refine JE_then ?_
    refine JC_cond (t40 != t32) (by kernel_rfl) (fun b44 => ?_) (fun b44 => ?_)
    · have h45 := cT b44 h42
      refine JC_seq ?_
      refine JC_region ?_
      refine JO_stepsK 1 [2] (sl' := [(2, .v (.bool false))]) (bx' := [(52, [.slice a0_0 x0.Facts.length c0_0]), (57, [.slice y39.1 t36.Facts.length y39.2])]) (by kernel_rfl) ?_
      refine JO_end (by kernel_rfl) ?_
      refine JE_then ?_
      refine JC_ret ?_
      refine JE_then_ret ?_
      refine JE_ret (vs := [.bool false]) (by kernel_rfl) (fun γ w hs => ?_)
      rw [← sI h45]
      exact ⟨rfl, hs.kept.toBelow⟩
    · have h46 := cF b44 h42
      refine JC_skip ?_
      refine JE_then ?_
      refine JC_seq ?_
      refine JC_seq ?_
      obtain ⟨t47, h48, h49⟩ := bS h46
      obtain ⟨t51, h52, h53⟩ := bS h49
      refine JC_cut (τ := Unit) (fun _ => [(26, .v (.bool (!t51)))]) (fun _ => [(52, [.slice a0_0 x0.Facts.length c0_0]), (57, [.slice y39.1 t36.Facts.length y39.2])]) (fun _ => [SlRes 113 t36.Facts y39.1 y39.2, SlRes 113 t28.Facts y31.1 y31.2]) ?_ (fun _ => ?_)
      · refine JC_weak [5, 1] [0, 0] 2 (sl' := [(5, .p 1 0), (1, .p 0 0)]) (bx' := [(52, [.slice a0_0 x0.Facts.length c0_0]), (57, [.slice y39.1 t36.Facts.length y39.2])]) (R' := [SlRes 113 t36.Facts y39.1 y39.2, SlRes 113 t28.Facts y31.1 y31.2]) (by kernel_rfl) (by kernel_rfl) (by kernel_rfl) (by kernel_rfl) ?_
        refine JC_heldN (ks := [0, 1]) (Rk := [SlRes 113 t36.Facts y39.1 y39.2, SlRes 113 t28.Facts y31.1 y31.2]) 5 (by kernel_rfl) (by kernel_rfl) ?_
        refine JH_take (fuel := 4) 0 (v := .v (.agg #[.slice y39.1 t36.Facts.length y39.2])) [0, 0] rfl (by kernel_rfl) (by kernel_rfl) (by kernel_rfl) meet_nopanic (by kernel_rfl) (by kernel_rfl) (by kernel_rfl) (by kernel_rfl) trivial (evQ_held (by kernel_rfl) (by kernel_rfl)) (sl' := [(22, .v (.agg #[.slice y39.1 t36.Facts.length y39.2])), (5, .p 1 0), (1, .p 0 0)]) (by kernel_rfl) ?_
        refine JH_keep [22, 1] (sl' := [(22, .v (.agg #[.slice y39.1 t36.Facts.length y39.2])), (1, .p 0 0)]) (by kernel_rfl) ?_
        refine JH_take (fuel := 3) 1 (v := .v (.agg #[.slice a0_0 x0.Facts.length c0_0])) [0, 0] rfl (by kernel_rfl) (by kernel_rfl) (by kernel_rfl) meet_nopanic (by kernel_rfl) (by kernel_rfl) (by kernel_rfl) (by kernel_rfl) trivial (evQ_held (by kernel_rfl) (by kernel_rfl)) (sl' := [(23, .v (.agg #[.slice a0_0 x0.Facts.length c0_0])), (22, .v (.agg #[.slice y39.1 t36.Facts.length y39.2])), (1, .p 0 0)]) (by kernel_rfl) ?_
        refine JH_keep [23, 22] (sl' := [(23, .v (.agg #[.slice a0_0 x0.Facts.length c0_0])), (22, .v (.agg #[.slice y39.1 t36.Facts.length y39.2]))]) (by kernel_rfl) ?_
        refine JH_all (fuel := 2) [2] (by kernel_rfl) (by simp) (List.forall_mem_cons.2 ⟨?_, fun _ h => by cases h⟩)
        refine JHi_of rfl (fun γ0 δ hm => ?_)
        refine JG_call (by kernel_rfl) (f := 40) (args := #[.agg #[.slice a0_0 x0.Facts.length c0_0]]) (by kernel_rfl) (fun w hs => (by have vv := c_laws_toStore (W := w) h48 (hv0_0.kept hs.kept); exact vv)) (fun (y50 : (Option Addr × Nat)) => [(24, .v (.agg #[.slice y50.1 t47.Facts.length y50.2])), (23, .v (.agg #[.slice a0_0 x0.Facts.length c0_0])), (22, .v (.agg #[.slice y39.1 t36.Facts.length y39.2]))]) (fun y50 => by kernel_rfl) (fun y50 => ?_)
        refine KG_next hm [24, 22] [1, 1] (sl' := [(24, .v (.agg #[.slice y50.1 t47.Facts.length y50.2])), (22, .v (.agg #[.slice y39.1 t36.Facts.length y39.2]))]) (by kernel_rfl) (by kernel_rfl) (by kernel_rfl) (by kernel_rfl) ?_
        refine JH_all (fuel := 1) [3] (by kernel_rfl) (by simp) (List.forall_mem_cons.2 ⟨?_, fun _ h => by cases h⟩)
        refine JHi_of rfl (fun γ0 δ hm => ?_)
        refine JG_call0 (by kernel_rfl) (f := 42) (args := #[.agg #[.slice y39.1 t36.Facts.length y39.2], .agg #[.slice y50.1 t47.Facts.length y50.2]]) (by kernel_rfl) (x := .bool t51) (fun w hs => (by have v0 := hs.view 1 rfl; have v1 := hs.view 0 rfl; have vv := c_laws_eqStore (W := w) h52 v0 v1; exact vv)) (sl' := [(25, .v (.bool t51)), (24, .v (.agg #[.slice y50.1 t47.Facts.length y50.2])), (22, .v (.agg #[.slice y39.1 t36.Facts.length y39.2]))]) (by kernel_rfl) ?_
        refine KG_next hm [25] [1, 1] (sl' := [(25, .v (.bool t51))]) (by kernel_rfl) (by kernel_rfl) (by kernel_rfl) (by kernel_rfl) ?_
        refine JH_take (fuel := 0) 4 (v := .v (.bool (!t51))) [1, 1] rfl (by kernel_rfl) (by kernel_rfl) (by kernel_rfl) meet_nopanic (by kernel_rfl) (by kernel_rfl) (by kernel_rfl) (by kernel_rfl) trivial (evQ_held (by kernel_rfl) (by kernel_rfl)) (sl' := [(26, .v (.bool (!t51))), (25, .v (.bool t51))]) (by kernel_rfl) ?_
        refine JH_keep [26] (sl' := [(26, .v (.bool (!t51)))]) (by kernel_rfl) ?_
        exact JH_done (by kernel_rfl) () [26] [1, 1] 2 (by kernel_rfl) (by kernel_rfl) (by kernel_rfl) (by kernel_rfl)
      · skip
        refine JE_then ?_
        refine JC_cond (!t51) (by kernel_rfl) (fun b56 => ?_) (fun b56 => ?_)
        · have h57 := cT b56 h53
          refine JC_seq ?_
          refine JC_region ?_
          refine JO_stepsK 1 [2] (sl' := [(2, .v (.bool false))]) (bx' := [(52, [.slice a0_0 x0.Facts.length c0_0]), (57, [.slice y39.1 t36.Facts.length y39.2])]) (by kernel_rfl) ?_
          refine JO_end (by kernel_rfl) ?_
          refine JE_then ?_
          refine JC_ret ?_
          refine JE_then_ret ?_
          refine JE_ret (vs := [.bool false]) (by kernel_rfl) (fun γ w hs => ?_)
          rw [← sI h57]
          exact ⟨rfl, hs.kept.toBelow⟩
        · have h58 := cF b56 h53
          refine JC_skip ?_
          refine JE_then ?_
          refine JC_seq ?_
          refine JC_region ?_
          refine JO_stepsK 1 [2] (sl' := [(2, .v (.bool true))]) (bx' := [(52, [.slice a0_0 x0.Facts.length c0_0]), (57, [.slice y39.1 t36.Facts.length y39.2])]) (by kernel_rfl) ?_
          refine JO_end (by kernel_rfl) ?_
          refine JE_then ?_
          refine JC_ret ?_
          refine JE_ret (vs := [.bool true]) (by kernel_rfl) (fun γ w hs => ?_)
          rw [← sI h58]
          exact ⟨rfl, hs.kept.toBelow⟩

theorem c_laws_szPostingS {W : World} {x0 : List Posting} {a0_0 : Option Addr} {c0_0 : Nat} {x1 : Int} {r : Int} (h : laws_szPostingS x0 x1 = some r) (hv0_0 : SlView W x0 a0_0 c0_0) :
    Gives0 Try.prog 121 #[.slice a0_0 x0.length c0_0, .int .i64 x1] W (.int .i64 r) := by
  unfold laws_szPostingS at h
  refine enter (args := [.slice a0_0 x0.length c0_0, .int .i64 x1]) Try.func121 rfl Try.ntmps121 (by kernel_rfl) ?_
  refine JC_seq ?_
  refine JC_region ?_
  refine JO_stepsK 1 [0, 1] (sl' := [(0, .v (.slice a0_0 x0.length c0_0)), (1, .v (.int .i64 x1))]) (bx' := []) (by kernel_rfl) ?_
  refine JO_end (by kernel_rfl) ?_
  refine JE_then ?_
  refine JC_seq ?_
  refine JC_region ?_
  refine JO_stepsK 5 [1] (sl' := [(1, .v (.int .i64 (w64 (x1 - (x0.length : Int)))))]) (bx' := []) (by kernel_rfl) ?_
  refine JO_end (by kernel_rfl) ?_
  refine JE_then ?_
  refine JC_seq ?_
  refine JC_seq ?_
  refine JC_region ?_
  refine JO_stepsK 2 [10, 1] (sl' := [(10, .v (.bool (decide ((w64 (x1 - (x0.length : Int))) < 0)))), (1, .v (.int .i64 (w64 (x1 - (x0.length : Int)))))]) (bx' := []) (by kernel_rfl) ?_
  refine JO_end (by kernel_rfl) ?_
  refine JE_then ?_
  refine JC_cond (decide ((w64 (x1 - (x0.length : Int))) < 0)) (by kernel_rfl) (fun b21 => ?_) (fun b21 => ?_)
  · have h22 := cT b21 h
    refine JC_seq ?_
    refine JC_region ?_
    refine JO_stepsK 1 [4] (sl' := [(4, .v (.int .i64 (-1)))]) (bx' := []) (by kernel_rfl) ?_
    refine JO_end (by kernel_rfl) ?_
    refine JE_then ?_
    refine JC_ret ?_
    refine JE_then_ret ?_
    refine JE_ret (vs := [.int .i64 (-1)]) (by kernel_rfl) (fun γ w hs => ?_)
    rw [← sI h22]
    exact ⟨rfl, hs.kept.toBelow⟩
  · have h23 := cF b21 h
    refine JC_skip ?_
    refine JE_then ?_
    refine JC_seq ?_
    refine JC_region ?_
    refine JO_stepsK 2 [4] (sl' := [(4, .v (.int .i64 (w64 (x1 - (x0.length : Int)))))]) (bx' := []) (by kernel_rfl) ?_
    refine JO_end (by kernel_rfl) ?_
    refine JE_then ?_
    refine JC_ret ?_
    refine JE_ret (vs := [.int .i64 (w64 (x1 - (x0.length : Int)))]) (by kernel_rfl) (fun γ w hs => ?_)
    rw [← sI h23]
    exact ⟨rfl, hs.kept.toBelow⟩

theorem c_laws_szLedger {W : World} {x0 : Ledger} {a0_0 : Option Addr} {c0_0 : Nat} {x1 : Int} {r : Int} (h : laws_szLedger x0 x1 = some r) (hv0_0 : SlView W x0.Postings a0_0 c0_0) :
    Gives0 Try.prog 90 #[.agg #[.slice a0_0 x0.Postings.length c0_0], .int .i64 x1] W (.int .i64 r) := by
  unfold laws_szLedger at h
  refine enter (args := [.agg #[.slice a0_0 x0.Postings.length c0_0], .int .i64 x1]) Try.func90 rfl Try.ntmps90 (by kernel_rfl) ?_
  refine JC_seq ?_
  refine JC_region ?_
  refine JO_stepsK 2 [2, 1] (sl' := [(2, .p 0 0), (1, .v (.int .i64 x1))]) (bx' := [(75, [.slice a0_0 x0.Postings.length c0_0])]) (by kernel_rfl) ?_
  refine JO_end (by kernel_rfl) ?_
  refine JE_then ?_
  refine JC_seq ?_
  refine JC_region ?_
  refine JO_stepsK 3 [7, 6] (sl' := [(7, .v (.int .i64 x1)), (6, .v (.slice a0_0 x0.Postings.length c0_0))]) (bx' := [(75, [.slice a0_0 x0.Postings.length c0_0])]) (by kernel_rfl) ?_
  obtain ⟨t21, h22, h23⟩ := bS h
  refine JO_call0 rfl (by kernel_rfl) (f := 121) (args := #[.slice a0_0 x0.Postings.length c0_0, .int .i64 x1]) (by kernel_rfl) (x := .int .i64 t21) (fun γ w hs => (by have vv := c_laws_szPostingS (W := w) h22 (hv0_0.kept hs.kept); exact vv)) (sl' := [(8, .v (.int .i64 t21)), (7, .v (.int .i64 x1)), (6, .v (.slice a0_0 x0.Postings.length c0_0))]) (by kernel_rfl) ?_
  refine JO_stepsK 1 [1] (sl' := [(1, .v (.int .i64 t21))]) (bx' := [(75, [.slice a0_0 x0.Postings.length c0_0])]) (by kernel_rfl) ?_
  refine JO_end (by kernel_rfl) ?_
  refine JE_then ?_
  refine JC_seq ?_
  refine JC_seq ?_
  refine JC_region ?_
  refine JO_stepsK 2 [10, 1] (sl' := [(10, .v (.bool (decide (t21 < 0)))), (1, .v (.int .i64 t21))]) (bx' := [(75, [.slice a0_0 x0.Postings.length c0_0])]) (by kernel_rfl) ?_
  refine JO_end (by kernel_rfl) ?_
  refine JE_then ?_
  refine JC_cond (decide (t21 < 0)) (by kernel_rfl) (fun b25 => ?_) (fun b25 => ?_)
  · have h26 := cT b25 h23
    refine JC_seq ?_
    refine JC_region ?_
    refine JO_stepsK 1 [4] (sl' := [(4, .v (.int .i64 (-1)))]) (bx' := [(75, [.slice a0_0 x0.Postings.length c0_0])]) (by kernel_rfl) ?_
    refine JO_end (by kernel_rfl) ?_
    refine JE_then ?_
    refine JC_ret ?_
    refine JE_then_ret ?_
    refine JE_ret (vs := [.int .i64 (-1)]) (by kernel_rfl) (fun γ w hs => ?_)
    rw [← sI h26]
    exact ⟨rfl, hs.kept.toBelow⟩
  · have h27 := cF b25 h23
    refine JC_skip ?_
    refine JE_then ?_
    refine JC_seq ?_
    refine JC_region ?_
    refine JO_stepsK 2 [4] (sl' := [(4, .v (.int .i64 t21))]) (bx' := [(75, [.slice a0_0 x0.Postings.length c0_0])]) (by kernel_rfl) ?_
    refine JO_end (by kernel_rfl) ?_
    refine JE_then ?_
    refine JC_ret ?_
    refine JE_ret (vs := [.int .i64 t21]) (by kernel_rfl) (fun γ w hs => ?_)
    rw [← sI h27]
    exact ⟨rfl, hs.kept.toBelow⟩

theorem c_laws_szBooks {W : World} {x0 : Books} {a0_0 : Option Addr} {c0_0 : Nat} {x1 : Int} {r : Int} (h : laws_szBooks x0 x1 = some r) (hv0_0 : SlView W x0.Ledger.Postings a0_0 c0_0) :
    Gives0 Try.prog 50 #[.agg #[.slice a0_0 x0.Ledger.Postings.length c0_0, .int .i64 x0.Closed], .int .i64 x1] W (.int .i64 r) := by
  unfold laws_szBooks at h
  refine enter (args := [.agg #[.slice a0_0 x0.Ledger.Postings.length c0_0, .int .i64 x0.Closed], .int .i64 x1]) Try.func50 rfl Try.ntmps50 (by kernel_rfl) ?_
  refine JC_seq ?_
  refine JC_region ?_
  refine JO_stepsK 2 [2, 1] (sl' := [(2, .p 0 0), (1, .v (.int .i64 x1))]) (bx' := [(77, [.slice a0_0 x0.Ledger.Postings.length c0_0, .int .i64 x0.Closed])]) (by kernel_rfl) ?_
  refine JO_end (by kernel_rfl) ?_
  refine JE_then ?_
  refine JC_seq ?_
  refine JC_region ?_
  refine JO_stepsK 3 [7, 6] (sl' := [(7, .v (.int .i64 x1)), (6, .v (.agg #[.slice a0_0 x0.Ledger.Postings.length c0_0]))]) (bx' := [(77, [.slice a0_0 x0.Ledger.Postings.length c0_0, .int .i64 x0.Closed])]) (by kernel_rfl) ?_
  obtain ⟨t21, h22, h23⟩ := bS h
  refine JO_call0 rfl (by kernel_rfl) (f := 90) (args := #[.agg #[.slice a0_0 x0.Ledger.Postings.length c0_0], .int .i64 x1]) (by kernel_rfl) (x := .int .i64 t21) (fun γ w hs => (by have vv := c_laws_szLedger (W := w) h22 (hv0_0.kept hs.kept); exact vv)) (sl' := [(8, .v (.int .i64 t21)), (7, .v (.int .i64 x1)), (6, .v (.agg #[.slice a0_0 x0.Ledger.Postings.length c0_0]))]) (by kernel_rfl) ?_
  refine JO_stepsK 1 [1] (sl' := [(1, .v (.int .i64 t21))]) (bx' := [(77, [.slice a0_0 x0.Ledger.Postings.length c0_0, .int .i64 x0.Closed])]) (by kernel_rfl) ?_
  refine JO_end (by kernel_rfl) ?_
  refine JE_then ?_
  refine JC_seq ?_
  refine JC_seq ?_
  refine JC_region ?_
  refine JO_stepsK 2 [10, 1] (sl' := [(10, .v (.bool (decide (t21 < 0)))), (1, .v (.int .i64 t21))]) (bx' := [(77, [.slice a0_0 x0.Ledger.Postings.length c0_0, .int .i64 x0.Closed])]) (by kernel_rfl) ?_
  refine JO_end (by kernel_rfl) ?_
  refine JE_then ?_
  refine JC_cond (decide (t21 < 0)) (by kernel_rfl) (fun b25 => ?_) (fun b25 => ?_)
  · have h26 := cT b25 h23
    refine JC_seq ?_
    refine JC_region ?_
    refine JO_stepsK 1 [4] (sl' := [(4, .v (.int .i64 (-1)))]) (bx' := [(77, [.slice a0_0 x0.Ledger.Postings.length c0_0, .int .i64 x0.Closed])]) (by kernel_rfl) ?_
    refine JO_end (by kernel_rfl) ?_
    refine JE_then ?_
    refine JC_ret ?_
    refine JE_then_ret ?_
    refine JE_ret (vs := [.int .i64 (-1)]) (by kernel_rfl) (fun γ w hs => ?_)
    rw [← sI h26]
    exact ⟨rfl, hs.kept.toBelow⟩
  · have h27 := cF b25 h23
    refine JC_skip ?_
    refine JE_then ?_
    refine JC_seq ?_
    refine JC_region ?_
    refine JO_stepsK 2 [4] (sl' := [(4, .v (.int .i64 t21))]) (bx' := [(77, [.slice a0_0 x0.Ledger.Postings.length c0_0, .int .i64 x0.Closed])]) (by kernel_rfl) ?_
    refine JO_end (by kernel_rfl) ?_
    refine JE_then ?_
    refine JC_ret ?_
    refine JE_ret (vs := [.int .i64 t21]) (by kernel_rfl) (fun γ w hs => ?_)
    rw [← sI h27]
    exact ⟨rfl, hs.kept.toBelow⟩

theorem c_laws_toPosting {W : World} {x0 : Posting} {r : Posting} (h : laws_toPosting x0 = some r)  :
    Gives0 Try.prog 58 #[.agg #[.int .i64 x0.Month, .int .i64 x0.Debit, .int .i64 x0.Credit, .int .i64 x0.Cents]] W (.agg #[.int .i64 r.Month, .int .i64 r.Debit, .int .i64 r.Credit, .int .i64 r.Cents]) := by
  unfold laws_toPosting at h
  refine enter (args := [.agg #[.int .i64 x0.Month, .int .i64 x0.Debit, .int .i64 x0.Credit, .int .i64 x0.Cents]]) Try.func58 rfl Try.ntmps58 (by kernel_rfl) ?_
  refine JC_seq ?_
  refine JC_region ?_
  refine JO_stepsK 2 [2, 1] (sl' := [(2, .p 1 0), (1, .p 0 0)]) (bx' := [(91, [.int .i64 x0.Month, .int .i64 x0.Debit, .int .i64 x0.Credit, .int .i64 x0.Cents]), (93, [.int .i64 0, .int .i64 0, .int .i64 0, .int .i64 0])]) (by kernel_rfl) ?_
  refine JO_end (by kernel_rfl) ?_
  refine JE_then ?_
  refine JC_seq ?_
  refine JC_region ?_
  refine JO_stepsK 1 [3, 2, 1] (sl' := [(3, .p 2 0), (2, .p 1 0), (1, .p 0 0)]) (bx' := [(91, [.int .i64 x0.Month, .int .i64 x0.Debit, .int .i64 x0.Credit, .int .i64 x0.Cents]), (93, [.int .i64 0, .int .i64 0, .int .i64 0, .int .i64 0]), (93, [.int .i64 0, .int .i64 0, .int .i64 0, .int .i64 0])]) (by kernel_rfl) ?_
  refine JO_end (by kernel_rfl) ?_
  refine JE_then ?_
  refine JC_seq ?_
  refine JC_region ?_
  refine JO_stepsK 4 [3, 2, 1] (sl' := [(3, .p 2 0), (2, .p 1 0), (1, .p 0 0)]) (bx' := [(91, [.int .i64 x0.Month, .int .i64 x0.Debit, .int .i64 x0.Credit, .int .i64 x0.Cents]), (93, [.int .i64 0, .int .i64 0, .int .i64 0, .int .i64 0]), (93, [.int .i64 x0.Month, .int .i64 0, .int .i64 0, .int .i64 0])]) (by kernel_rfl) ?_
  refine JO_end (by kernel_rfl) ?_
  refine JE_then ?_
  refine JC_seq ?_
  refine JC_region ?_
  refine JO_stepsK 4 [3, 2, 1] (sl' := [(3, .p 2 0), (2, .p 1 0), (1, .p 0 0)]) (bx' := [(91, [.int .i64 x0.Month, .int .i64 x0.Debit, .int .i64 x0.Credit, .int .i64 x0.Cents]), (93, [.int .i64 0, .int .i64 0, .int .i64 0, .int .i64 0]), (93, [.int .i64 x0.Month, .int .i64 x0.Debit, .int .i64 0, .int .i64 0])]) (by kernel_rfl) ?_
  refine JO_end (by kernel_rfl) ?_
  refine JE_then ?_
  refine JC_seq ?_
  refine JC_region ?_
  refine JO_stepsK 4 [3, 2, 1] (sl' := [(3, .p 2 0), (2, .p 1 0), (1, .p 0 0)]) (bx' := [(91, [.int .i64 x0.Month, .int .i64 x0.Debit, .int .i64 x0.Credit, .int .i64 x0.Cents]), (93, [.int .i64 0, .int .i64 0, .int .i64 0, .int .i64 0]), (93, [.int .i64 x0.Month, .int .i64 x0.Debit, .int .i64 x0.Credit, .int .i64 0])]) (by kernel_rfl) ?_
  refine JO_end (by kernel_rfl) ?_
  refine JE_then ?_
  refine JC_seq ?_
  refine JC_region ?_
  refine JO_stepsK 4 [3, 2] (sl' := [(3, .p 2 0), (2, .p 1 0)]) (bx' := [(91, [.int .i64 x0.Month, .int .i64 x0.Debit, .int .i64 x0.Credit, .int .i64 x0.Cents]), (93, [.int .i64 0, .int .i64 0, .int .i64 0, .int .i64 0]), (93, [.int .i64 x0.Month, .int .i64 x0.Debit, .int .i64 x0.Credit, .int .i64 x0.Cents])]) (by kernel_rfl) ?_
  refine JO_end (by kernel_rfl) ?_
  refine JE_then ?_
  refine JC_seq ?_
  refine JC_region ?_
  refine JO_stepsK 2 [2] (sl' := [(2, .p 1 0)]) (bx' := [(91, [.int .i64 x0.Month, .int .i64 x0.Debit, .int .i64 x0.Credit, .int .i64 x0.Cents]), (93, [.int .i64 x0.Month, .int .i64 x0.Debit, .int .i64 x0.Credit, .int .i64 x0.Cents]), (93, [.int .i64 x0.Month, .int .i64 x0.Debit, .int .i64 x0.Credit, .int .i64 x0.Cents])]) (by kernel_rfl) ?_
  refine JO_end (by kernel_rfl) ?_
  refine JE_then ?_
  refine JC_ret ?_
  refine JE_ret (vs := [.agg #[.int .i64 x0.Month, .int .i64 x0.Debit, .int .i64 x0.Credit, .int .i64 x0.Cents]]) (by kernel_rfl) (fun γ w hs => ?_)
  rw [← sI h]
  exact ⟨rfl, hs.kept.toBelow⟩

theorem c_laws_toPostingS {W : World} {x0 : List Posting} {a0_0 : Option Addr} {c0_0 : Nat} {r : (List Posting)} (h : laws_toPostingS x0 = some r) (hv0_0 : SlView W x0 a0_0 c0_0) :
    Gives Try.prog 124 #[.slice a0_0 x0.length c0_0] W (fun y : (Option Addr × Nat) => .slice y.1 r.length y.2) (fun y => [SlRes 93 r y.1 y.2]) := by
  unfold laws_toPostingS at h
  refine enter (args := [.slice a0_0 x0.length c0_0]) Try.func124 rfl Try.ntmps124 (by kernel_rfl) ?_
  refine JC_seq ?_
  refine JC_region ?_
  refine JO_stepsK 1 [0] (sl' := [(0, .v (.slice a0_0 x0.length c0_0))]) (bx' := []) (by kernel_rfl) ?_
  refine JO_end (by kernel_rfl) ?_
  refine JE_then ?_
  refine JC_seq ?_
  refine JC_region ?_
  refine JO_stepsK 2 [6, 0] (sl' := [(6, .v (.int .i64 (x0.length : Int))), (0, .v (.slice a0_0 x0.length c0_0))]) (bx' := []) (by kernel_rfl) ?_
  obtain ⟨l22, hm23, h24⟩ := bS h
  refine JO_make (α := Posting) rfl (by kernel_rfl) (t := 79) (e := 93) (m := (x0.length : Int)) (by kernel_rfl) (i := Try.t93) (by kernel_rfl) (z := (.agg #[.int .i64 0, .int .i64 0, .int .i64 0, .int .i64 0])) (by kernel_rfl) (by kernel_rfl) (by kernel_rfl) (by kernel_rfl) (fun w => ⟨rfl, rfl⟩) hm23 (fun y21 => [(7, .v (.slice y21.1 l22.length y21.2)), (6, .v (.int .i64 (x0.length : Int))), (0, .v (.slice a0_0 x0.length c0_0))]) (fun y21 => by kernel_rfl) (fun y21 => ?_)
  refine JO_stepsK 1 [3, 0] (sl' := [(3, .v (.slice y21.1 l22.length y21.2)), (0, .v (.slice a0_0 x0.length c0_0))]) (bx' := []) (by kernel_rfl) ?_
  refine JO_end (by kernel_rfl) ?_
  refine JE_then ?_
  refine JC_seq ?_
  refine JC_seq ?_
  refine JC_region ?_
  refine JO_stepsK 1 [4, 3, 0] (sl' := [(4, .v (.int .i64 0)), (3, .v (.slice y21.1 l22.length y21.2)), (0, .v (.slice a0_0 x0.length c0_0))]) (bx' := []) (by kernel_rfl) ?_
  refine JO_end (by kernel_rfl) ?_
  refine JE_then ?_
  obtain ⟨r28, hL29, h30⟩ := bS h24
  obtain ⟨k31, hk32, h30⟩ := brkS h30
  refine JC_cutP (τ := ((List Posting)) × (Unit)) (fun y => k31 y.1 = some r) (fun y36 => [(3, .v (.slice y21.1 y36.1.length y21.2))]) (fun y36 => []) (fun y36 => [SlRes 93 y36.1 y21.1 y21.2]) ?_ (fun y36 h37p => ?_)
  · refine JC_block ?_
    refine JC_loop (τ := Unit) hL29 (fun s25 y26 => [(4, .v (.int .i64 s25.1)), (3, .v (.slice y21.1 s25.2.length y21.2)), (0, .v (.slice a0_0 x0.length c0_0))]) (fun s25 y26 => []) (fun s25 y26 => [SlRes 93 s25.2 y21.1 y21.2]) () [4, 3, 0] [0] 0 (by kernel_rfl) (by kernel_rfl) (by kernel_rfl) (by kernel_rfl) (fun s25 y26 t27 h33 hd34 => ?_)
    refine JC_seq ?_
    refine JC_seq ?_
    refine JC_region ?_
    refine JO_stepsK 4 [11, 4, 3, 0] (sl' := [(11, .v (.bool (decide (s25.1 < (x0.length : Int))))), (4, .v (.int .i64 s25.1)), (3, .v (.slice y21.1 s25.2.length y21.2)), (0, .v (.slice a0_0 x0.length c0_0))]) (bx' := []) (by kernel_rfl) ?_
    refine JO_end (by kernel_rfl) ?_
    refine JE_then ?_
    refine JC_cond (decide (s25.1 < (x0.length : Int))) (by kernel_rfl) (fun b38 => ?_) (fun b38 => ?_)
    · have h39 := cT b38 h33
      refine JC_skip ?_
      refine JE_then ?_
      refine JC_seq ?_
      refine JC_block ?_
      refine JC_region ?_
      refine JO_stepsK 4 [17, 16, 15, 14, 4, 3, 0] (sl' := [(17, .v (.int .i64 s25.1)), (16, .v (.slice a0_0 x0.length c0_0)), (15, .v (.int .i64 s25.1)), (14, .v (.slice y21.1 s25.2.length y21.2)), (4, .v (.int .i64 s25.1)), (3, .v (.slice y21.1 s25.2.length y21.2)), (0, .v (.slice a0_0 x0.length c0_0))]) (bx' := []) (by kernel_rfl) ?_
      obtain ⟨x41, hx42, h43⟩ := bS h39
      refine JO_index rfl (by kernel_rfl) (d := a0_0) (m := x0.length) (j := s25.1) (s := 4) (by kernel_rfl) (fun γ w hs => (hv0_0.kept hs.kept)) rfl hx42 (sl' := [(18, .q a0_0 (Int.toNat s25.1 * 4)), (17, .v (.int .i64 s25.1)), (16, .v (.slice a0_0 x0.length c0_0)), (15, .v (.int .i64 s25.1)), (14, .v (.slice y21.1 s25.2.length y21.2)), (4, .v (.int .i64 s25.1)), (3, .v (.slice y21.1 s25.2.length y21.2)), (0, .v (.slice a0_0 x0.length c0_0))]) (by kernel_rfl) ?_
      refine JO_loadq rfl (by kernel_rfl) (t := 91) (d := a0_0) (Int.toNat s25.1 * 4) 0 (by kernel_rfl) (cs := [.int .i64 x41.Month, .int .i64 x41.Debit, .int .i64 x41.Credit, .int .i64 x41.Cents]) (v := .agg #[.int .i64 x41.Month, .int .i64 x41.Debit, .int .i64 x41.Credit, .int .i64 x41.Cents]) (fun γ w hs => (hv0_0.kept hs.kept).flatq hx42) (by kernel_rfl) (sl' := [(19, .v (.agg #[.int .i64 x41.Month, .int .i64 x41.Debit, .int .i64 x41.Credit, .int .i64 x41.Cents])), (18, .q a0_0 (Int.toNat s25.1 * 4)), (17, .v (.int .i64 s25.1)), (16, .v (.slice a0_0 x0.length c0_0)), (15, .v (.int .i64 s25.1)), (14, .v (.slice y21.1 s25.2.length y21.2)), (4, .v (.int .i64 s25.1)), (3, .v (.slice y21.1 s25.2.length y21.2)), (0, .v (.slice a0_0 x0.length c0_0))]) (by kernel_rfl) ?_
      obtain ⟨t44, h45, h46⟩ := bS h43
      refine JO_call0 rfl (by kernel_rfl) (f := 58) (args := #[.agg #[.int .i64 x41.Month, .int .i64 x41.Debit, .int .i64 x41.Credit, .int .i64 x41.Cents]]) (by kernel_rfl) (x := .agg #[.int .i64 t44.Month, .int .i64 t44.Debit, .int .i64 t44.Credit, .int .i64 t44.Cents]) (fun γ w hs => (by have vv := c_laws_toPosting (W := w) h45; exact vv)) (sl' := [(20, .v (.agg #[.int .i64 t44.Month, .int .i64 t44.Debit, .int .i64 t44.Credit, .int .i64 t44.Cents])), (19, .v (.agg #[.int .i64 x41.Month, .int .i64 x41.Debit, .int .i64 x41.Credit, .int .i64 x41.Cents])), (18, .q a0_0 (Int.toNat s25.1 * 4)), (17, .v (.int .i64 s25.1)), (16, .v (.slice a0_0 x0.length c0_0)), (15, .v (.int .i64 s25.1)), (14, .v (.slice y21.1 s25.2.length y21.2)), (4, .v (.int .i64 s25.1)), (3, .v (.slice y21.1 s25.2.length y21.2)), (0, .v (.slice a0_0 x0.length c0_0))]) (by kernel_rfl) ?_
      obtain ⟨x48, hx49, h50⟩ := bS h46
      refine JO_index rfl (by kernel_rfl) (d := y21.1) (m := s25.2.length) (j := s25.1) (s := 4) (by kernel_rfl) (fun γ w hs => (hs.view 0 rfl)) rfl hx49 (sl' := [(21, .q y21.1 (Int.toNat s25.1 * 4)), (20, .v (.agg #[.int .i64 t44.Month, .int .i64 t44.Debit, .int .i64 t44.Credit, .int .i64 t44.Cents])), (19, .v (.agg #[.int .i64 x41.Month, .int .i64 x41.Debit, .int .i64 x41.Credit, .int .i64 x41.Cents])), (18, .q a0_0 (Int.toNat s25.1 * 4)), (17, .v (.int .i64 s25.1)), (16, .v (.slice a0_0 x0.length c0_0)), (15, .v (.int .i64 s25.1)), (14, .v (.slice y21.1 s25.2.length y21.2)), (4, .v (.int .i64 s25.1)), (3, .v (.slice y21.1 s25.2.length y21.2)), (0, .v (.slice a0_0 x0.length c0_0))]) (by kernel_rfl) ?_
      obtain ⟨l51, hm52, h53⟩ := bS h50
      replace hm52 := (sI hm52).symm
      refine JO_storeq (α := Posting) (d := y21.1) (vs := [.int .i64 t44.Month, .int .i64 t44.Debit, .int .i64 t44.Credit, .int .i64 t44.Cents]) (j := s25.1) (x' := t44) rfl (by kernel_rfl) 0 (by kernel_rfl) hx49 (Rc := []) (Rr := []) rfl (by kernel_rfl) (fun w c F Fs ho _ _ => own_flat_set (by kernel_rfl) ho) hm52 (sl' := [(21, .q y21.1 (Int.toNat s25.1 * 4)), (20, .v (.agg #[.int .i64 t44.Month, .int .i64 t44.Debit, .int .i64 t44.Credit, .int .i64 t44.Cents])), (19, .v (.agg #[.int .i64 x41.Month, .int .i64 x41.Debit, .int .i64 x41.Credit, .int .i64 x41.Cents])), (18, .q a0_0 (Int.toNat s25.1 * 4)), (17, .v (.int .i64 s25.1)), (16, .v (.slice a0_0 x0.length c0_0)), (15, .v (.int .i64 s25.1)), (14, .v (.slice y21.1 s25.2.length y21.2)), (4, .v (.int .i64 s25.1)), (3, .v (.slice y21.1 s25.2.length y21.2)), (0, .v (.slice a0_0 x0.length c0_0))]) (by kernel_rfl) ?_
      have hl54 := len_set hm52
      refine JO_keep [20, 19, 18, 17, 16, 15, 14, 4, 3, 0] (sl' := [(20, .v (.agg #[.int .i64 t44.Month, .int .i64 t44.Debit, .int .i64 t44.Credit, .int .i64 t44.Cents])), (19, .v (.agg #[.int .i64 x41.Month, .int .i64 x41.Debit, .int .i64 x41.Credit, .int .i64 x41.Cents])), (18, .q a0_0 (Int.toNat s25.1 * 4)), (17, .v (.int .i64 s25.1)), (16, .v (.slice a0_0 x0.length c0_0)), (15, .v (.int .i64 s25.1)), (14, .v (.slice y21.1 s25.2.length y21.2)), (4, .v (.int .i64 s25.1)), (3, .v (.slice y21.1 s25.2.length y21.2)), (0, .v (.slice a0_0 x0.length c0_0))]) (by kernel_rfl) ?_
      refine JO_eqE (sl' := [(20, .v (.agg #[.int .i64 t44.Month, .int .i64 t44.Debit, .int .i64 t44.Credit, .int .i64 t44.Cents])), (19, .v (.agg #[.int .i64 x41.Month, .int .i64 x41.Debit, .int .i64 x41.Credit, .int .i64 x41.Cents])), (18, .q a0_0 (Int.toNat s25.1 * 4)), (17, .v (.int .i64 s25.1)), (16, .v (.slice a0_0 x0.length c0_0)), (15, .v (.int .i64 s25.1)), (14, .v (.slice y21.1 l51.length y21.2)), (4, .v (.int .i64 s25.1)), (3, .v (.slice y21.1 l51.length y21.2)), (0, .v (.slice a0_0 x0.length c0_0))]) (bx' := []) (by simp only [hl54]) rfl ?_
      refine JO_end (by kernel_rfl) ?_
      refine JE_block_normal ?_
      refine JE_then ?_
      refine JC_region ?_
      refine JO_stepsK 3 [4, 3, 0] (sl' := [(4, .v (.int .i64 (w64 (s25.1 + 1)))), (3, .v (.slice y21.1 l51.length y21.2)), (0, .v (.slice a0_0 x0.length c0_0))]) (bx' := []) (by kernel_rfl) ?_
      refine JO_end (by kernel_rfl) ?_
      exact JE_cont h53 () [4, 3, 0] [0] 0 (by kernel_rfl) (by kernel_rfl) (by kernel_rfl) (by kernel_rfl)
    · have h40 := cF b38 h33
      refine JC_exit ?_
      refine JE_then_exit ?_
      refine JE_then_exit ?_
      refine JE_block_hit ?_
      have h55 := leafB hd34 h40 h30
      exact JE_meetP (s25.2, ()) h55 [3] [0] 0 (by kernel_rfl) (by kernel_rfl) (by kernel_rfl) (by kernel_rfl)
  · have h37 := (congrFun hk32 _).symm.trans h37p
    refine JE_then ?_
    refine JC_seq ?_
    refine JC_region ?_
    refine JO_stepsK 2 [2] (sl' := [(2, .v (.slice y21.1 y36.1.length y21.2))]) (bx' := []) (by kernel_rfl) ?_
    refine JO_end (by kernel_rfl) ?_
    refine JE_then ?_
    refine JC_ret ?_
    refine JE_ret (vs := [.slice y21.1 y36.1.length y21.2]) (by kernel_rfl) (fun γ w hs => ?_)
    rw [← sI h37]
    exact ⟨(y21.1, y21.2), rfl, hs.kept.toBelow, (hs.takeR (is := [0]) rfl).fresh⟩

theorem c_laws_toLedger {W : World} {x0 : Ledger} {a0_0 : Option Addr} {c0_0 : Nat} {r : Ledger} (h : laws_toLedger x0 = some r) (hv0_0 : SlView W x0.Postings a0_0 c0_0) :
    Gives Try.prog 94 #[.agg #[.slice a0_0 x0.Postings.length c0_0]] W (fun y : (Option Addr × Nat) => .agg #[.slice y.1 r.Postings.length y.2]) (fun y => [SlRes 93 r.Postings y.1 y.2]) := by
  unfold laws_toLedger at h
  refine enter (args := [.agg #[.slice a0_0 x0.Postings.length c0_0]]) Try.func94 rfl Try.ntmps94 (by kernel_rfl) ?_
  refine JC_seq ?_
  refine JC_region ?_
  refine JO_stepsK 2 [2, 1] (sl' := [(2, .p 1 0), (1, .p 0 0)]) (bx' := [(75, [.slice a0_0 x0.Postings.length c0_0]), (81, [.slice none 0 0])]) (by kernel_rfl) ?_
  refine JO_end (by kernel_rfl) ?_
  refine JE_then ?_
  refine JC_seq ?_
  refine JC_region ?_
  refine JO_stepsK 1 [3, 2, 1] (sl' := [(3, .p 2 0), (2, .p 1 0), (1, .p 0 0)]) (bx' := [(75, [.slice a0_0 x0.Postings.length c0_0]), (81, [.slice none 0 0]), (81, [.slice none 0 0])]) (by kernel_rfl) ?_
  refine JO_end (by kernel_rfl) ?_
  refine JE_then ?_
  refine JC_seq ?_
  refine JC_region ?_
  refine JO_stepsK 2 [5, 3, 2] (sl' := [(5, .v (.slice a0_0 x0.Postings.length c0_0)), (3, .p 2 0), (2, .p 1 0)]) (bx' := [(75, [.slice a0_0 x0.Postings.length c0_0]), (81, [.slice none 0 0]), (81, [.slice none 0 0])]) (by kernel_rfl) ?_
  obtain ⟨t21, h22, h23⟩ := bS h
  refine JO_call rfl (by kernel_rfl) (f := 124) (args := #[.slice a0_0 x0.Postings.length c0_0]) (by kernel_rfl) (fun γ w hs => (by have vv := c_laws_toPostingS (W := w) h22 (hv0_0.kept hs.kept); exact vv)) (fun (y24 : (Option Addr × Nat)) => [(6, .v (.slice y24.1 t21.length y24.2)), (5, .v (.slice a0_0 x0.Postings.length c0_0)), (3, .p 2 0), (2, .p 1 0)]) (fun y24 => by kernel_rfl) (fun y24 => ?_)
  refine JO_stepsK 2 [3, 2] (sl' := [(3, .p 2 0), (2, .p 1 0)]) (bx' := [(75, [.slice a0_0 x0.Postings.length c0_0]), (81, [.slice none 0 0]), (81, [.slice y24.1 t21.length y24.2])]) (by kernel_rfl) ?_
  refine JO_end (by kernel_rfl) ?_
  refine JE_then ?_
  refine JC_seq ?_
  refine JC_region ?_
  refine JO_stepsK 2 [2] (sl' := [(2, .p 1 0)]) (bx' := [(75, [.slice a0_0 x0.Postings.length c0_0]), (81, [.slice y24.1 t21.length y24.2]), (81, [.slice y24.1 t21.length y24.2])]) (by kernel_rfl) ?_
  refine JO_end (by kernel_rfl) ?_
  refine JE_then ?_
  refine JC_ret ?_
  refine JE_ret (vs := [.agg #[.slice y24.1 t21.length y24.2]]) (by kernel_rfl) (fun γ w hs => ?_)
  rw [← sI h23]
  exact ⟨(y24.1, y24.2), rfl, hs.kept.toBelow, (hs.takeR (is := [0]) rfl).fresh⟩

theorem c_laws_toBooks {W : World} {x0 : Books} {a0_0 : Option Addr} {c0_0 : Nat} {r : Books} (h : laws_toBooks x0 = some r) (hv0_0 : SlView W x0.Ledger.Postings a0_0 c0_0) :
    Gives Try.prog 52 #[.agg #[.slice a0_0 x0.Ledger.Postings.length c0_0, .int .i64 x0.Closed]] W (fun y : (Option Addr × Nat) => .agg #[.slice y.1 r.Ledger.Postings.length y.2, .int .i64 r.Closed]) (fun y => [SlRes 93 r.Ledger.Postings y.1 y.2]) := by
  unfold laws_toBooks at h
  refine enter (args := [.agg #[.slice a0_0 x0.Ledger.Postings.length c0_0, .int .i64 x0.Closed]]) Try.func52 rfl Try.ntmps52 (by kernel_rfl) ?_
  refine JC_seq ?_
  refine JC_region ?_
  refine JO_stepsK 2 [2, 1] (sl' := [(2, .p 1 0), (1, .p 0 0)]) (bx' := [(77, [.slice a0_0 x0.Ledger.Postings.length c0_0, .int .i64 x0.Closed]), (83, [.slice none 0 0, .int .i64 0])]) (by kernel_rfl) ?_
  refine JO_end (by kernel_rfl) ?_
  refine JE_then ?_
  refine JC_seq ?_
  refine JC_region ?_
  refine JO_stepsK 1 [3, 2, 1] (sl' := [(3, .p 2 0), (2, .p 1 0), (1, .p 0 0)]) (bx' := [(77, [.slice a0_0 x0.Ledger.Postings.length c0_0, .int .i64 x0.Closed]), (83, [.slice none 0 0, .int .i64 0]), (83, [.slice none 0 0, .int .i64 0])]) (by kernel_rfl) ?_
  refine JO_end (by kernel_rfl) ?_
  refine JE_then ?_
  refine JC_seq ?_
  refine JC_region ?_
  refine JO_stepsK 2 [5, 3, 2, 1] (sl' := [(5, .v (.agg #[.slice a0_0 x0.Ledger.Postings.length c0_0])), (3, .p 2 0), (2, .p 1 0), (1, .p 0 0)]) (bx' := [(77, [.slice a0_0 x0.Ledger.Postings.length c0_0, .int .i64 x0.Closed]), (83, [.slice none 0 0, .int .i64 0]), (83, [.slice none 0 0, .int .i64 0])]) (by kernel_rfl) ?_
  obtain ⟨t21, h22, h23⟩ := bS h
  refine JO_call rfl (by kernel_rfl) (f := 94) (args := #[.agg #[.slice a0_0 x0.Ledger.Postings.length c0_0]]) (by kernel_rfl) (fun γ w hs => (by have vv := c_laws_toLedger (W := w) h22 (hv0_0.kept hs.kept); exact vv)) (fun (y24 : (Option Addr × Nat)) => [(6, .v (.agg #[.slice y24.1 t21.Postings.length y24.2])), (5, .v (.agg #[.slice a0_0 x0.Ledger.Postings.length c0_0])), (3, .p 2 0), (2, .p 1 0), (1, .p 0 0)]) (fun y24 => by kernel_rfl) (fun y24 => ?_)
  refine JO_stepsK 2 [3, 2, 1] (sl' := [(3, .p 2 0), (2, .p 1 0), (1, .p 0 0)]) (bx' := [(77, [.slice a0_0 x0.Ledger.Postings.length c0_0, .int .i64 x0.Closed]), (83, [.slice none 0 0, .int .i64 0]), (83, [.slice y24.1 t21.Postings.length y24.2, .int .i64 0])]) (by kernel_rfl) ?_
  refine JO_end (by kernel_rfl) ?_
  refine JE_then ?_
  refine JC_seq ?_
  refine JC_region ?_
  refine JO_stepsK 4 [3, 2] (sl' := [(3, .p 2 0), (2, .p 1 0)]) (bx' := [(77, [.slice a0_0 x0.Ledger.Postings.length c0_0, .int .i64 x0.Closed]), (83, [.slice none 0 0, .int .i64 0]), (83, [.slice y24.1 t21.Postings.length y24.2, .int .i64 x0.Closed])]) (by kernel_rfl) ?_
  refine JO_end (by kernel_rfl) ?_
  refine JE_then ?_
  refine JC_seq ?_
  refine JC_region ?_
  refine JO_stepsK 2 [2] (sl' := [(2, .p 1 0)]) (bx' := [(77, [.slice a0_0 x0.Ledger.Postings.length c0_0, .int .i64 x0.Closed]), (83, [.slice y24.1 t21.Postings.length y24.2, .int .i64 x0.Closed]), (83, [.slice y24.1 t21.Postings.length y24.2, .int .i64 x0.Closed])]) (by kernel_rfl) ?_
  refine JO_end (by kernel_rfl) ?_
  refine JE_then ?_
  refine JC_ret ?_
  refine JE_ret (vs := [.agg #[.slice y24.1 t21.Postings.length y24.2, .int .i64 x0.Closed]]) (by kernel_rfl) (fun γ w hs => ?_)
  rw [← sI h23]
  exact ⟨(y24.1, y24.2), rfl, hs.kept.toBelow, (hs.takeR (is := [0]) rfl).fresh⟩

theorem c_spec_l28Copy {W : World} {x0 : Ledger} {a0_0 : Option Addr} {c0_0 : Nat} {r : Ledger} (h : spec_l28Copy x0 = some r) (hv0_0 : SlView W x0.Postings a0_0 c0_0) :
    Gives Try.prog 122 #[.agg #[.slice a0_0 x0.Postings.length c0_0]] W (fun y : (Option Addr × Nat) => .agg #[.slice y.1 r.Postings.length y.2]) (fun y => [SlRes 93 r.Postings y.1 y.2]) := by
  unfold spec_l28Copy at h
  refine enter (args := [.agg #[.slice a0_0 x0.Postings.length c0_0]]) Try.func122 rfl Try.ntmps122 (by kernel_rfl) ?_
  refine JC_seq ?_
  refine JC_region ?_
  refine JO_stepsK 2 [2, 1] (sl' := [(2, .p 1 0), (1, .p 0 0)]) (bx' := [(81, [.slice a0_0 x0.Postings.length c0_0]), (81, [.slice none 0 0])]) (by kernel_rfl) ?_
  refine JO_end (by kernel_rfl) ?_
  refine JE_then ?_
  refine JC_seq ?_
  refine JC_region ?_
  refine JO_bslice rfl (by kernel_rfl) (e := 93) (len := 0) (cs := []) (by kernel_rfl) (xs := ([] : List Posting)) rfl (by kernel_rfl) (Rc := []) (Rr := []) rfl (own_flat (by kernel_rfl)) (fun y21 => [(3, .v (.slice y21.1 ([] : List Posting).length y21.2)), (2, .p 1 0), (1, .p 0 0)]) (fun y21 => by kernel_rfl) (fun y21 => ?_)
  refine JO_stepsK 2 [5, 3, 2] (sl' := [(5, .v (.slice a0_0 x0.Postings.length c0_0)), (3, .v (.slice y21.1 ([] : List Posting).length y21.2)), (2, .p 1 0)]) (bx' := [(81, [.slice a0_0 x0.Postings.length c0_0]), (81, [.slice none 0 0])]) (by kernel_rfl) ?_
  obtain ⟨l24, hm25, h26⟩ := bS h
  refine JO_appendV (α := Posting) rfl (by kernel_rfl) (t := 79) (e := 93) (a1 := y21.1) (a2 := a0_0) (c1 := y21.2) (c2 := c0_0) (l1 := ([] : List Posting)) (l2 := x0.Postings) (by kernel_rfl) (i := Try.t93) (by kernel_rfl) (z := (.agg #[.int .i64 0, .int .i64 0, .int .i64 0, .int .i64 0])) (by kernel_rfl) (by kernel_rfl) (by kernel_rfl) (by kernel_rfl) (fun γ w hs => ⟨c0_0, (hv0_0.kept hs.kept)⟩) (Rr := []) rfl hm25 (fun y23 => [(6, .v (.slice y23.1 l24.length y23.2)), (5, .v (.slice a0_0 x0.Postings.length c0_0)), (3, .v (.slice y21.1 ([] : List Posting).length y21.2)), (2, .p 1 0)]) (fun y23 => by kernel_rfl) (fun y23 => ?_)
  refine JO_stepsK 2 [2] (sl' := [(2, .p 1 0)]) (bx' := [(81, [.slice a0_0 x0.Postings.length c0_0]), (81, [.slice y23.1 l24.length y23.2])]) (by kernel_rfl) ?_
  refine JO_end (by kernel_rfl) ?_
  refine JE_then ?_
  refine JC_ret ?_
  refine JE_ret (vs := [.agg #[.slice y23.1 l24.length y23.2]]) (by kernel_rfl) (fun γ w hs => ?_)
  rw [← sI h26]
  exact ⟨(y23.1, y23.2), rfl, hs.kept.toBelow, (hs.takeR (is := [0]) rfl).fresh⟩

theorem c_spec_l29Copy {W : World} {x0 : Books} {a0_0 : Option Addr} {c0_0 : Nat} {r : Books} (h : spec_l29Copy x0 = some r) (hv0_0 : SlView W x0.Ledger.Postings a0_0 c0_0) :
    Gives Try.prog 91 #[.agg #[.slice a0_0 x0.Ledger.Postings.length c0_0, .int .i64 x0.Closed]] W (fun y : (Option Addr × Nat) => .agg #[.slice y.1 r.Ledger.Postings.length y.2, .int .i64 r.Closed]) (fun y => [SlRes 93 r.Ledger.Postings y.1 y.2]) := by
  unfold spec_l29Copy at h
  refine enter (args := [.agg #[.slice a0_0 x0.Ledger.Postings.length c0_0, .int .i64 x0.Closed]]) Try.func91 rfl Try.ntmps91 (by kernel_rfl) ?_
  refine JC_seq ?_
  refine JC_region ?_
  refine JO_stepsK 2 [2, 1] (sl' := [(2, .p 1 0), (1, .p 0 0)]) (bx' := [(83, [.slice a0_0 x0.Ledger.Postings.length c0_0, .int .i64 x0.Closed]), (83, [.slice none 0 0, .int .i64 0])]) (by kernel_rfl) ?_
  refine JO_end (by kernel_rfl) ?_
  refine JE_then ?_
  refine JC_seq ?_
  obtain ⟨t21, h22, h23⟩ := bS h
  refine JC_cut (τ := ((Option Addr × Nat))) (fun y25 => [(2, .p 1 0)]) (fun y25 => [(83, [.slice a0_0 x0.Ledger.Postings.length c0_0, .int .i64 x0.Closed]), (83, [.slice y25.1 t21.Postings.length y25.2, .int .i64 x0.Closed])]) (fun y25 => [SlRes 93 t21.Postings y25.1 y25.2]) ?_ (fun y25 => ?_)
  · refine JC_weak [2, 1] [] 2 (sl' := [(2, .p 1 0), (1, .p 0 0)]) (bx' := [(83, [.slice a0_0 x0.Ledger.Postings.length c0_0, .int .i64 x0.Closed]), (83, [.slice none 0 0, .int .i64 0])]) (R' := []) (by kernel_rfl) (by kernel_rfl) (by kernel_rfl) (by kernel_rfl) ?_
    refine JC_heldN (ks := [0]) (Rk := []) 7 (by kernel_rfl) (by kernel_rfl) ?_
    refine JH_take (fuel := 6) 0 (v := .p 0 0) [] rfl (by kernel_rfl) (by kernel_rfl) (by kernel_rfl) meet_nopanic (by kernel_rfl) (by kernel_rfl) (by kernel_rfl) (by kernel_rfl) (by simp [SV.inb]) (evQ_held (by kernel_rfl) (by kernel_rfl)) (sl' := [(3, .p 0 0), (2, .p 1 0), (1, .p 0 0)]) (by kernel_rfl) ?_
    refine JH_take (fuel := 5) 1 (v := .v (.agg #[.slice a0_0 x0.Ledger.Postings.length c0_0])) [] rfl (by kernel_rfl) (by kernel_rfl) (by kernel_rfl) meet_nopanic (by kernel_rfl) (by kernel_rfl) (by kernel_rfl) (by kernel_rfl) trivial (evQ_held (by kernel_rfl) (by kernel_rfl)) (sl' := [(4, .v (.agg #[.slice a0_0 x0.Ledger.Postings.length c0_0])), (3, .p 0 0), (2, .p 1 0), (1, .p 0 0)]) (by kernel_rfl) ?_
    refine JH_keep [4, 2, 1] (sl' := [(4, .v (.agg #[.slice a0_0 x0.Ledger.Postings.length c0_0])), (2, .p 1 0), (1, .p 0 0)]) (by kernel_rfl) ?_
    refine JH_take (fuel := 4) 3 (v := .p 0 1) [] rfl (by kernel_rfl) (by kernel_rfl) (by kernel_rfl) meet_nopanic (by kernel_rfl) (by kernel_rfl) (by kernel_rfl) (by kernel_rfl) (by simp [SV.inb]) (evQ_held (by kernel_rfl) (by kernel_rfl)) (sl' := [(6, .p 0 1), (4, .v (.agg #[.slice a0_0 x0.Ledger.Postings.length c0_0])), (2, .p 1 0), (1, .p 0 0)]) (by kernel_rfl) ?_
    refine JH_keep [6, 4, 2] (sl' := [(6, .p 0 1), (4, .v (.agg #[.slice a0_0 x0.Ledger.Postings.length c0_0])), (2, .p 1 0)]) (by kernel_rfl) ?_
    refine JH_take (fuel := 3) 4 (v := .v (.int .i64 x0.Closed)) [] rfl (by kernel_rfl) (by kernel_rfl) (by kernel_rfl) meet_nopanic (by kernel_rfl) (by kernel_rfl) (by kernel_rfl) (by kernel_rfl) trivial (evQ_held (by kernel_rfl) (by kernel_rfl)) (sl' := [(7, .v (.int .i64 x0.Closed)), (6, .p 0 1), (4, .v (.agg #[.slice a0_0 x0.Ledger.Postings.length c0_0])), (2, .p 1 0)]) (by kernel_rfl) ?_
    refine JH_keep [7, 4, 2] (sl' := [(7, .v (.int .i64 x0.Closed)), (4, .v (.agg #[.slice a0_0 x0.Ledger.Postings.length c0_0])), (2, .p 1 0)]) (by kernel_rfl) ?_
    refine JH_all (fuel := 2) [2] (by kernel_rfl) (by simp) (List.forall_mem_cons.2 ⟨?_, fun _ h => by cases h⟩)
    refine JHi_of rfl (fun γ0 δ hm => ?_)
    refine JG_call (by kernel_rfl) (f := 122) (args := #[.agg #[.slice a0_0 x0.Ledger.Postings.length c0_0]]) (by kernel_rfl) (fun w hs => (by have vv := c_spec_l28Copy (W := w) h22 (hv0_0.kept hs.kept); exact vv)) (fun (y24 : (Option Addr × Nat)) => [(5, .v (.agg #[.slice y24.1 t21.Postings.length y24.2])), (7, .v (.int .i64 x0.Closed)), (4, .v (.agg #[.slice a0_0 x0.Ledger.Postings.length c0_0])), (2, .p 1 0)]) (fun y24 => by kernel_rfl) (fun y24 => ?_)
    refine KG_next hm [5, 7, 2] [] (sl' := [(5, .v (.agg #[.slice y24.1 t21.Postings.length y24.2])), (7, .v (.int .i64 x0.Closed)), (2, .p 1 0)]) (by kernel_rfl) (by kernel_rfl) (by kernel_rfl) (by kernel_rfl) ?_
    refine JH_take (fuel := 1) 5 (v := .v (.agg #[.slice y24.1 t21.Postings.length y24.2, .int .i64 x0.Closed])) [] rfl (by kernel_rfl) (by kernel_rfl) (by kernel_rfl) meet_nopanic (by kernel_rfl) (by kernel_rfl) (by kernel_rfl) (by kernel_rfl) trivial (evQ_held (by kernel_rfl) (by kernel_rfl)) (sl' := [(8, .v (.agg #[.slice y24.1 t21.Postings.length y24.2, .int .i64 x0.Closed])), (5, .v (.agg #[.slice y24.1 t21.Postings.length y24.2])), (7, .v (.int .i64 x0.Closed)), (2, .p 1 0)]) (by kernel_rfl) ?_
    refine JH_keep [8, 2] (sl' := [(8, .v (.agg #[.slice y24.1 t21.Postings.length y24.2, .int .i64 x0.Closed])), (2, .p 1 0)]) (by kernel_rfl) ?_
    refine JH_all (fuel := 0) [6] (by kernel_rfl) (by simp) (List.forall_mem_cons.2 ⟨?_, fun _ h => by cases h⟩)
    refine JHi_of rfl (fun γ0 δ hm => ?_)
    refine JG_step (sl' := [(8, .v (.agg #[.slice y24.1 t21.Postings.length y24.2, .int .i64 x0.Closed])), (2, .p 1 0)]) (bx' := [(83, [.slice a0_0 x0.Ledger.Postings.length c0_0, .int .i64 x0.Closed]), (83, [.slice y24.1 t21.Postings.length y24.2, .int .i64 x0.Closed])]) (by kernel_rfl) (fun δ2 => ?_)
    refine KG_nextD hm [2] [] (sl' := [(2, .p 1 0)]) (by kernel_rfl) (by kernel_rfl) (by kernel_rfl) (by kernel_rfl) ?_
    exact JH_done (by kernel_rfl) y24 [2] [0] 2 (by kernel_rfl) (by kernel_rfl) (by kernel_rfl) (by kernel_rfl)
  · skip
    refine JE_then ?_
    refine JC_ret ?_
    refine JE_ret (vs := [.agg #[.slice y25.1 t21.Postings.length y25.2, .int .i64 x0.Closed]]) (by kernel_rfl) (fun γ w hs => ?_)
    rw [← sI h23]
    exact ⟨(y25.1, y25.2), rfl, hs.kept.toBelow, (hs.takeR (is := [0]) rfl).fresh⟩

theorem c_spec_PostingOk {W : World} {x0 : Posting} {r : Bool} (h : spec_PostingOk x0 = some r)  :
    Gives0 Try.prog 103 #[.agg #[.int .i64 x0.Month, .int .i64 x0.Debit, .int .i64 x0.Credit, .int .i64 x0.Cents]] W (.bool r) := by
  unfold spec_PostingOk at h
  refine enter (args := [.agg #[.int .i64 x0.Month, .int .i64 x0.Debit, .int .i64 x0.Credit, .int .i64 x0.Cents]]) Try.func103 rfl Try.ntmps103 (by kernel_rfl) ?_
  refine JC_seq ?_
  refine JC_region ?_
  refine JO_stepsK 2 [1] (sl' := [(1, .p 0 0)]) (bx' := [(93, [.int .i64 x0.Month, .int .i64 x0.Debit, .int .i64 x0.Credit, .int .i64 x0.Cents])]) (by kernel_rfl) ?_
  refine JO_end (by kernel_rfl) ?_
  refine JE_then ?_
  refine JC_seq ?_
  obtain ⟨p21, hE22, h23⟩ := bS h
  refine JC_cut (τ := Unit) (fun _ => [(2, .v (.bool p21))]) (fun _ => [(93, [.int .i64 x0.Month, .int .i64 x0.Debit, .int .i64 x0.Credit, .int .i64 x0.Cents])]) (fun _ => []) ?_ (fun _ => ?_)
  · refine JC_region ?_
    refine JO_stepsK 2 [4, 1] (sl' := [(4, .v (.int .i64 x0.Month)), (1, .p 0 0)]) (bx' := [(93, [.int .i64 x0.Month, .int .i64 x0.Debit, .int .i64 x0.Credit, .int .i64 x0.Cents])]) (by kernel_rfl) ?_
    obtain ⟨t24, h25, h26⟩ := bS hE22
    refine JO_call0 rfl (by kernel_rfl) (f := 93) (args := #[.int .i64 x0.Month]) (by kernel_rfl) (x := .bool t24) (fun γ w hs => (by have vv := c_spec_MonthOk (W := w) h25; exact vv)) (sl' := [(5, .v (.bool t24)), (4, .v (.int .i64 x0.Month)), (1, .p 0 0)]) (by kernel_rfl) ?_
    refine JO_stepsK 1 [6, 1] (sl' := [(6, .v (.bool t24)), (1, .p 0 0)]) (bx' := [(93, [.int .i64 x0.Month, .int .i64 x0.Debit, .int .i64 x0.Credit, .int .i64 x0.Cents])]) (by kernel_rfl) ?_
    refine JO_split 6 t24 (by kernel_rfl) (fun b28 => ?_) (fun b28 => ?_)
    · have h29 := cT b28 h26
      refine JO_stepsK 2 [8, 6, 1] (sl' := [(8, .v (.int .i64 x0.Debit)), (6, .v (.bool true)), (1, .p 0 0)]) (bx' := [(93, [.int .i64 x0.Month, .int .i64 x0.Debit, .int .i64 x0.Credit, .int .i64 x0.Cents])]) (by kernel_rfl) ?_
      obtain ⟨t31, h32, h33⟩ := bS h29
      refine JO_call0 rfl (by kernel_rfl) (f := 71) (args := #[.int .i64 x0.Debit, .int .i64 1, .int .i64 9]) (by kernel_rfl) (x := .bool t31) (fun γ w hs => (by have vv := c_spec_l01In (W := w) h32; exact vv)) (sl' := [(9, .v (.bool t31)), (8, .v (.int .i64 x0.Debit)), (6, .v (.bool true)), (1, .p 0 0)]) (by kernel_rfl) ?_
      refine JO_stepsK 2 [11, 1] (sl' := [(11, .v (.bool t31)), (1, .p 0 0)]) (bx' := [(93, [.int .i64 x0.Month, .int .i64 x0.Debit, .int .i64 x0.Credit, .int .i64 x0.Cents])]) (by kernel_rfl) ?_
      refine JO_split 11 t31 (by kernel_rfl) (fun b35 => ?_) (fun b35 => ?_)
      · have h36 := cT b35 h33
        refine JO_stepsK 2 [13, 11, 1] (sl' := [(13, .v (.int .i64 x0.Credit)), (11, .v (.bool true)), (1, .p 0 0)]) (bx' := [(93, [.int .i64 x0.Month, .int .i64 x0.Debit, .int .i64 x0.Credit, .int .i64 x0.Cents])]) (by kernel_rfl) ?_
        obtain ⟨t38, h39, h40⟩ := bS h36
        refine JO_call0 rfl (by kernel_rfl) (f := 71) (args := #[.int .i64 x0.Credit, .int .i64 1, .int .i64 9]) (by kernel_rfl) (x := .bool t38) (fun γ w hs => (by have vv := c_spec_l01In (W := w) h39; exact vv)) (sl' := [(14, .v (.bool t38)), (13, .v (.int .i64 x0.Credit)), (11, .v (.bool true)), (1, .p 0 0)]) (by kernel_rfl) ?_
        refine JO_stepsK 2 [16, 1] (sl' := [(16, .v (.bool t38)), (1, .p 0 0)]) (bx' := [(93, [.int .i64 x0.Month, .int .i64 x0.Debit, .int .i64 x0.Credit, .int .i64 x0.Cents])]) (by kernel_rfl) ?_
        refine JO_split 16 t38 (by kernel_rfl) (fun b42 => ?_) (fun b42 => ?_)
        · have h43 := cT b42 h40
          refine JO_stepsK 7 [23, 1] (sl' := [(23, .v (.bool (x0.Debit != x0.Credit))), (1, .p 0 0)]) (bx' := [(93, [.int .i64 x0.Month, .int .i64 x0.Debit, .int .i64 x0.Credit, .int .i64 x0.Cents])]) (by kernel_rfl) ?_
          refine JO_split 23 (x0.Debit != x0.Credit) (by kernel_rfl) (fun b45 => ?_) (fun b45 => ?_)
          · have h46 := cT b45 h43
            refine JO_stepsK 2 [25, 23] (sl' := [(25, .v (.int .i64 x0.Cents)), (23, .v (.bool true))]) (bx' := [(93, [.int .i64 x0.Month, .int .i64 x0.Debit, .int .i64 x0.Credit, .int .i64 x0.Cents])]) (by kernel_rfl) ?_
            obtain ⟨t48, h49, h50⟩ := bS h46
            refine JO_call0 rfl (by kernel_rfl) (f := 71) (args := #[.int .i64 x0.Cents, .int .i64 1, .int .i64 1000000000]) (by kernel_rfl) (x := .bool t48) (fun γ w hs => (by have vv := c_spec_l01In (W := w) h49; exact vv)) (sl' := [(26, .v (.bool t48)), (25, .v (.int .i64 x0.Cents)), (23, .v (.bool true))]) (by kernel_rfl) ?_
            refine JO_stepsK 2 [2] (sl' := [(2, .v (.bool t48))]) (bx' := [(93, [.int .i64 x0.Month, .int .i64 x0.Debit, .int .i64 x0.Credit, .int .i64 x0.Cents])]) (by kernel_rfl) ?_
            refine JO_end (by kernel_rfl) ?_
            obtain rfl := sI h50
            exact JE_meet () [2] [] 1 (by kernel_rfl) (by kernel_rfl) (by kernel_rfl) (by kernel_rfl)
          · have h47 := cF b45 h43
            refine JO_stepsK 5 [2] (sl' := [(2, .v (.bool false))]) (bx' := [(93, [.int .i64 x0.Month, .int .i64 x0.Debit, .int .i64 x0.Credit, .int .i64 x0.Cents])]) (by kernel_rfl) ?_
            refine JO_end (by kernel_rfl) ?_
            obtain rfl := sI h47
            exact JE_meet () [2] [] 1 (by kernel_rfl) (by kernel_rfl) (by kernel_rfl) (by kernel_rfl)
        · have h44 := cF b42 h40
          refine JO_stepsK 12 [2] (sl' := [(2, .v (.bool false))]) (bx' := [(93, [.int .i64 x0.Month, .int .i64 x0.Debit, .int .i64 x0.Credit, .int .i64 x0.Cents])]) (by kernel_rfl) ?_
          refine JO_end (by kernel_rfl) ?_
          obtain rfl := sI h44
          exact JE_meet () [2] [] 1 (by kernel_rfl) (by kernel_rfl) (by kernel_rfl) (by kernel_rfl)
      · have h37 := cF b35 h33
        refine JO_stepsK 17 [2] (sl' := [(2, .v (.bool false))]) (bx' := [(93, [.int .i64 x0.Month, .int .i64 x0.Debit, .int .i64 x0.Credit, .int .i64 x0.Cents])]) (by kernel_rfl) ?_
        refine JO_end (by kernel_rfl) ?_
        obtain rfl := sI h37
        exact JE_meet () [2] [] 1 (by kernel_rfl) (by kernel_rfl) (by kernel_rfl) (by kernel_rfl)
    · have h30 := cF b28 h26
      refine JO_stepsK 22 [2] (sl' := [(2, .v (.bool false))]) (bx' := [(93, [.int .i64 x0.Month, .int .i64 x0.Debit, .int .i64 x0.Credit, .int .i64 x0.Cents])]) (by kernel_rfl) ?_
      refine JO_end (by kernel_rfl) ?_
      obtain rfl := sI h30
      exact JE_meet () [2] [] 1 (by kernel_rfl) (by kernel_rfl) (by kernel_rfl) (by kernel_rfl)
  · skip
    refine JE_then ?_
    refine JC_ret ?_
    refine JE_ret (vs := [.bool p21]) (by kernel_rfl) (fun γ w hs => ?_)
    rw [← sI h23]
    exact ⟨rfl, hs.kept.toBelow⟩

theorem c_spec_LedgerOk {W : World} {x0 : Ledger} {a0_0 : Option Addr} {c0_0 : Nat} {r : Bool} (h : spec_LedgerOk x0 = some r) (hv0_0 : SlView W x0.Postings a0_0 c0_0) :
    Gives0 Try.prog 123 #[.agg #[.slice a0_0 x0.Postings.length c0_0]] W (.bool r) := by
  unfold spec_LedgerOk at h
  refine enter (args := [.agg #[.slice a0_0 x0.Postings.length c0_0]]) Try.func123 rfl Try.ntmps123 (by kernel_rfl) ?_
  refine JC_seq ?_
  refine JC_region ?_
  refine JO_stepsK 2 [1] (sl' := [(1, .p 0 0)]) (bx' := [(81, [.slice a0_0 x0.Postings.length c0_0])]) (by kernel_rfl) ?_
  refine JO_end (by kernel_rfl) ?_
  refine JE_then ?_
  refine JC_seq ?_
  refine JC_seq ?_
  refine JC_region ?_
  refine JO_stepsK 1 [3, 1] (sl' := [(3, .v (.int .i64 0)), (1, .p 0 0)]) (bx' := [(81, [.slice a0_0 x0.Postings.length c0_0])]) (by kernel_rfl) ?_
  refine JO_end (by kernel_rfl) ?_
  refine JE_then ?_
  obtain ⟨r24, hL25, h26⟩ := bS h
  obtain ⟨k27, hk28, h26⟩ := brkS h26
  refine JC_cutP (τ := (Unit) × (Unit)) (fun y => k27 y.1 = some r) (fun y32 => [(1, .p 0 0)]) (fun y32 => [(81, [.slice a0_0 x0.Postings.length c0_0])]) (fun y32 => []) ?_ (fun y32 h33p => ?_)
  · refine JC_block ?_
    refine JC_loop (τ := Unit) hL25 (fun s21 y22 => [(3, .v (.int .i64 s21)), (1, .p 0 0)]) (fun s21 y22 => [(81, [.slice a0_0 x0.Postings.length c0_0])]) (fun s21 y22 => []) () [3, 1] [] 1 (by kernel_rfl) (by kernel_rfl) (by kernel_rfl) (by kernel_rfl) (fun s21 y22 t23 h29 hd30 => ?_)
    refine JC_seq ?_
    refine JC_seq ?_
    refine JC_region ?_
    refine JO_stepsK 5 [8, 3, 1] (sl' := [(8, .v (.bool (decide (s21 < (x0.Postings.length : Int))))), (3, .v (.int .i64 s21)), (1, .p 0 0)]) (bx' := [(81, [.slice a0_0 x0.Postings.length c0_0])]) (by kernel_rfl) ?_
    refine JO_end (by kernel_rfl) ?_
    refine JE_then ?_
    refine JC_cond (decide (s21 < (x0.Postings.length : Int))) (by kernel_rfl) (fun b34 => ?_) (fun b34 => ?_)
    · have h35 := cT b34 h29
      refine JC_skip ?_
      refine JE_then ?_
      refine JC_seq ?_
      refine JC_block ?_
      refine JC_seq ?_
      refine JC_region ?_
      refine JO_stepsK 3 [13, 12, 3, 1] (sl' := [(13, .v (.int .i64 s21)), (12, .v (.slice a0_0 x0.Postings.length c0_0)), (3, .v (.int .i64 s21)), (1, .p 0 0)]) (bx' := [(81, [.slice a0_0 x0.Postings.length c0_0])]) (by kernel_rfl) ?_
      obtain ⟨x37, hx38, h39⟩ := bS h35
      refine JO_index rfl (by kernel_rfl) (d := a0_0) (m := x0.Postings.length) (j := s21) (s := 4) (by kernel_rfl) (fun γ w hs => (hv0_0.kept hs.kept)) rfl hx38 (sl' := [(14, .q a0_0 (Int.toNat s21 * 4)), (13, .v (.int .i64 s21)), (12, .v (.slice a0_0 x0.Postings.length c0_0)), (3, .v (.int .i64 s21)), (1, .p 0 0)]) (by kernel_rfl) ?_
      refine JO_loadq rfl (by kernel_rfl) (t := 93) (d := a0_0) (Int.toNat s21 * 4) 0 (by kernel_rfl) (cs := [.int .i64 x37.Month, .int .i64 x37.Debit, .int .i64 x37.Credit, .int .i64 x37.Cents]) (v := .agg #[.int .i64 x37.Month, .int .i64 x37.Debit, .int .i64 x37.Credit, .int .i64 x37.Cents]) (fun γ w hs => (hv0_0.kept hs.kept).flatq hx38) (by kernel_rfl) (sl' := [(15, .v (.agg #[.int .i64 x37.Month, .int .i64 x37.Debit, .int .i64 x37.Credit, .int .i64 x37.Cents])), (14, .q a0_0 (Int.toNat s21 * 4)), (13, .v (.int .i64 s21)), (12, .v (.slice a0_0 x0.Postings.length c0_0)), (3, .v (.int .i64 s21)), (1, .p 0 0)]) (by kernel_rfl) ?_
      obtain ⟨t40, h41, h42⟩ := bS h39
      refine JO_call0 rfl (by kernel_rfl) (f := 103) (args := #[.agg #[.int .i64 x37.Month, .int .i64 x37.Debit, .int .i64 x37.Credit, .int .i64 x37.Cents]]) (by kernel_rfl) (x := .bool t40) (fun γ w hs => (by have vv := c_spec_PostingOk (W := w) h41; exact vv)) (sl' := [(16, .v (.bool t40)), (15, .v (.agg #[.int .i64 x37.Month, .int .i64 x37.Debit, .int .i64 x37.Credit, .int .i64 x37.Cents])), (14, .q a0_0 (Int.toNat s21 * 4)), (13, .v (.int .i64 s21)), (12, .v (.slice a0_0 x0.Postings.length c0_0)), (3, .v (.int .i64 s21)), (1, .p 0 0)]) (by kernel_rfl) ?_
      refine JO_stepsK 1 [17, 3, 1] (sl' := [(17, .v (.bool (!t40))), (3, .v (.int .i64 s21)), (1, .p 0 0)]) (bx' := [(81, [.slice a0_0 x0.Postings.length c0_0])]) (by kernel_rfl) ?_
      refine JO_end (by kernel_rfl) ?_
      refine JE_then ?_
      refine JC_cond (!t40) (by kernel_rfl) (fun b44 => ?_) (fun b44 => ?_)
      · have h45 := cT b44 h42
        refine JC_seq ?_
        refine JC_region ?_
        refine JO_stepsK 1 [2] (sl' := [(2, .v (.bool false))]) (bx' := [(81, [.slice a0_0 x0.Postings.length c0_0])]) (by kernel_rfl) ?_
        refine JO_end (by kernel_rfl) ?_
        refine JE_then ?_
        refine JC_ret ?_
        refine JE_block_ret ?_
        refine JE_then_ret ?_
        refine JE_then_ret ?_
        have h47 := leafR hd30 h45 h26
        refine JE_block_ret ?_
        refine JE_then_ret ?_
        refine JE_then_ret ?_
        refine JE_ret (vs := [.bool false]) (by kernel_rfl) (fun γ w hs => ?_)
        rw [← sI h47]
        exact ⟨rfl, hs.kept.toBelow⟩
      · have h46 := cF b44 h42
        refine JC_skip ?_
        refine JE_block_normal ?_
        refine JE_then ?_
        refine JC_region ?_
        refine JO_stepsK 3 [3, 1] (sl' := [(3, .v (.int .i64 (w64 (s21 + 1)))), (1, .p 0 0)]) (bx' := [(81, [.slice a0_0 x0.Postings.length c0_0])]) (by kernel_rfl) ?_
        refine JO_end (by kernel_rfl) ?_
        exact JE_cont h46 () [3, 1] [] 1 (by kernel_rfl) (by kernel_rfl) (by kernel_rfl) (by kernel_rfl)
    · have h36 := cF b34 h29
      refine JC_exit ?_
      refine JE_then_exit ?_
      refine JE_then_exit ?_
      refine JE_block_hit ?_
      have h48 := leafB hd30 h36 h26
      exact JE_meetP ((), ()) h48 [1] [] 1 (by kernel_rfl) (by kernel_rfl) (by kernel_rfl) (by kernel_rfl)
  · have h33 := (congrFun hk28 _).symm.trans h33p
    refine JE_then ?_
    refine JC_seq ?_
    refine JC_region ?_
    refine JO_stepsK 5 [2] (sl' := [(2, .v (.bool (decide ((x0.Postings.length : Int) ≤ 300))))]) (bx' := [(81, [.slice a0_0 x0.Postings.length c0_0])]) (by kernel_rfl) ?_
    refine JO_end (by kernel_rfl) ?_
    refine JE_then ?_
    refine JC_ret ?_
    refine JE_ret (vs := [.bool (decide ((x0.Postings.length : Int) ≤ 300))]) (by kernel_rfl) (fun γ w hs => ?_)
    rw [← sI h33]
    exact ⟨rfl, hs.kept.toBelow⟩

theorem c_spec_BooksOk {W : World} {x0 : Books} {a0_0 : Option Addr} {c0_0 : Nat} {r : Bool} (h : spec_BooksOk x0 = some r) (hv0_0 : SlView W x0.Ledger.Postings a0_0 c0_0) :
    Gives0 Try.prog 92 #[.agg #[.slice a0_0 x0.Ledger.Postings.length c0_0, .int .i64 x0.Closed]] W (.bool r) := by
  unfold spec_BooksOk at h
  refine enter (args := [.agg #[.slice a0_0 x0.Ledger.Postings.length c0_0, .int .i64 x0.Closed]]) Try.func92 rfl Try.ntmps92 (by kernel_rfl) ?_
  refine JC_seq ?_
  refine JC_region ?_
  refine JO_stepsK 2 [1] (sl' := [(1, .p 0 0)]) (bx' := [(83, [.slice a0_0 x0.Ledger.Postings.length c0_0, .int .i64 x0.Closed])]) (by kernel_rfl) ?_
  refine JO_end (by kernel_rfl) ?_
  refine JE_then ?_
  refine JC_seq ?_
  obtain ⟨p21, hE22, h23⟩ := bS h
  refine JC_cut (τ := Unit) (fun _ => [(2, .v (.bool p21))]) (fun _ => [(83, [.slice a0_0 x0.Ledger.Postings.length c0_0, .int .i64 x0.Closed])]) (fun _ => []) ?_ (fun _ => ?_)
  · refine JC_region ?_
    refine JO_stepsK 2 [4, 1] (sl' := [(4, .v (.agg #[.slice a0_0 x0.Ledger.Postings.length c0_0])), (1, .p 0 0)]) (bx' := [(83, [.slice a0_0 x0.Ledger.Postings.length c0_0, .int .i64 x0.Closed])]) (by kernel_rfl) ?_
    obtain ⟨t24, h25, h26⟩ := bS hE22
    refine JO_call0 rfl (by kernel_rfl) (f := 123) (args := #[.agg #[.slice a0_0 x0.Ledger.Postings.length c0_0]]) (by kernel_rfl) (x := .bool t24) (fun γ w hs => (by have vv := c_spec_LedgerOk (W := w) h25 (hv0_0.kept hs.kept); exact vv)) (sl' := [(5, .v (.bool t24)), (4, .v (.agg #[.slice a0_0 x0.Ledger.Postings.length c0_0])), (1, .p 0 0)]) (by kernel_rfl) ?_
    refine JO_stepsK 1 [6, 1] (sl' := [(6, .v (.bool t24)), (1, .p 0 0)]) (bx' := [(83, [.slice a0_0 x0.Ledger.Postings.length c0_0, .int .i64 x0.Closed])]) (by kernel_rfl) ?_
    refine JO_split 6 t24 (by kernel_rfl) (fun b28 => ?_) (fun b28 => ?_)
    · have h29 := cT b28 h26
      refine JO_stepsK 2 [8, 6] (sl' := [(8, .v (.int .i64 x0.Closed)), (6, .v (.bool true))]) (bx' := [(83, [.slice a0_0 x0.Ledger.Postings.length c0_0, .int .i64 x0.Closed])]) (by kernel_rfl) ?_
      obtain ⟨t31, h32, h33⟩ := bS h29
      refine JO_call0 rfl (by kernel_rfl) (f := 93) (args := #[.int .i64 x0.Closed]) (by kernel_rfl) (x := .bool t31) (fun γ w hs => (by have vv := c_spec_MonthOk (W := w) h32; exact vv)) (sl' := [(9, .v (.bool t31)), (8, .v (.int .i64 x0.Closed)), (6, .v (.bool true))]) (by kernel_rfl) ?_
      refine JO_stepsK 2 [2] (sl' := [(2, .v (.bool t31))]) (bx' := [(83, [.slice a0_0 x0.Ledger.Postings.length c0_0, .int .i64 x0.Closed])]) (by kernel_rfl) ?_
      refine JO_end (by kernel_rfl) ?_
      obtain rfl := sI h33
      exact JE_meet () [2] [] 1 (by kernel_rfl) (by kernel_rfl) (by kernel_rfl) (by kernel_rfl)
    · have h30 := cF b28 h26
      refine JO_stepsK 5 [2] (sl' := [(2, .v (.bool false))]) (bx' := [(83, [.slice a0_0 x0.Ledger.Postings.length c0_0, .int .i64 x0.Closed])]) (by kernel_rfl) ?_
      refine JO_end (by kernel_rfl) ?_
      obtain rfl := sI h30
      exact JE_meet () [2] [] 1 (by kernel_rfl) (by kernel_rfl) (by kernel_rfl) (by kernel_rfl)
  · skip
    refine JE_then ?_
    refine JC_ret ?_
    refine JE_ret (vs := [.bool p21]) (by kernel_rfl) (fun γ w hs => ?_)
    rw [← sI h23]
    exact ⟨rfl, hs.kept.toBelow⟩
end Go.Pen
