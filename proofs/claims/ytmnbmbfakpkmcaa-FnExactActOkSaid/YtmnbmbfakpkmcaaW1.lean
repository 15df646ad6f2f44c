/-
  Each Go function does what its plain function says: written by a program of ours.
-/
import Derived.Test.YtmnbmbfakpkmcaaF
import Derived.Test.YtmnbmbfakpkmcaaProg
namespace Go.Pen
open Go.Proofs
set_option linter.unusedVariables false
set_option maxRecDepth 100000

theorem c_spec_l01In {W : World} {x0 : Int} {x1 : Int} {x2 : Int} {r : Bool} (h : spec_l01In x0 x1 x2 = some r)  :
    Gives0 Try.prog 22 #[.int .i64 x0, .int .i64 x1, .int .i64 x2] W (.bool r) := by
  unfold spec_l01In at h
  refine enter (args := [.int .i64 x0, .int .i64 x1, .int .i64 x2]) Try.func22 rfl Try.ntmps22 (by kernel_rfl) ?_
  refine JC_seq ?_
  refine JC_region ?_
  refine JO_stepsK 1 [0, 1, 2] (sl' := [(0, .v (.int .i64 x0)), (1, .v (.int .i64 x1)), (2, .v (.int .i64 x2))]) (bx' := []) (by kernel_rfl) ?_
  refine JO_end (by kernel_rfl) ?_
  refine JE_then ?_
  refine JC_seq ?_
  obtain ⟨p1, hE2, h3⟩ := bS h
  refine JC_cut (τ := Unit) (fun _ => [(6, .v (.bool p1))]) (fun _ => []) (fun _ => []) ?_ (fun _ => ?_)
  · refine JC_region ?_
    refine JO_stepsK 4 [10, 0, 2] (sl' := [(10, .v (.bool (decide (x0 ≥ x1)))), (0, .v (.int .i64 x0)), (2, .v (.int .i64 x2))]) (bx' := []) (by kernel_rfl) ?_
    refine JO_split 10 (decide (x0 ≥ x1)) (by kernel_rfl) (fun b4 => ?_) (fun b4 => ?_)
    · have h5 := cT b4 hE2
      refine JO_stepsK 5 [6] (sl' := [(6, .v (.bool (decide (x0 ≤ x2))))]) (bx' := []) (by kernel_rfl) ?_
      refine JO_end (by kernel_rfl) ?_
      obtain rfl := sI h5
      exact JE_meet () [6] [] 0 (by kernel_rfl) (by kernel_rfl) (by kernel_rfl) (by kernel_rfl)
    · have h6 := cF b4 hE2
      refine JO_stepsK 5 [6] (sl' := [(6, .v (.bool false))]) (bx' := []) (by kernel_rfl) ?_
      refine JO_end (by kernel_rfl) ?_
      obtain rfl := sI h6
      exact JE_meet () [6] [] 0 (by kernel_rfl) (by kernel_rfl) (by kernel_rfl) (by kernel_rfl)
  · skip
    refine JE_then ?_
    refine JC_ret ?_
    refine JE_ret (vs := [.bool p1]) (by kernel_rfl) (fun γ w hs => ?_)
    rw [← sI h3]
    exact ⟨rfl, hs.kept.toBelow⟩

theorem c_spec_AssetsNeeded {W : World} {x0 : Int} {x1 : Int} {r : Int} (h : spec_AssetsNeeded x0 x1 = some r)  :
    Gives0 Try.prog 9 #[.int .i64 x0, .int .i64 x1] W (.int .i64 r) := by
  unfold spec_AssetsNeeded at h
  refine enter (args := [.int .i64 x0, .int .i64 x1]) Try.func9 rfl Try.ntmps9 (by kernel_rfl) ?_
  refine JC_seq ?_
  refine JC_region ?_
  refine JO_stepsK 1 [0, 1] (sl' := [(0, .v (.int .i64 x0)), (1, .v (.int .i64 x1))]) (bx' := []) (by kernel_rfl) ?_
  refine JO_end (by kernel_rfl) ?_
  refine JE_then ?_
  refine JC_seq ?_
  refine JC_seq ?_
  obtain ⟨p1, hE2, h3⟩ := bS h
  refine JC_cut (τ := Unit) (fun _ => [(0, .v (.int .i64 x0)), (1, .v (.int .i64 x1)), (12, .v (.bool p1))]) (fun _ => []) (fun _ => []) ?_ (fun _ => ?_)
  · refine JC_region ?_
    refine JO_stepsK 1 [5, 0, 1] (sl' := [(5, .v (.int .i64 x0)), (0, .v (.int .i64 x0)), (1, .v (.int .i64 x1))]) (bx' := []) (by kernel_rfl) ?_
    obtain ⟨t4, h5, h6⟩ := bS hE2
    refine JO_call0 rfl (by kernel_rfl) (f := 22) (args := #[.int .i64 x0, .int .i64 0, .int .i64 1000000000000]) (by kernel_rfl) (x := .bool t4) (fun γ w hs => (c_spec_l01In h5)) (sl' := [(6, .v (.bool t4)), (5, .v (.int .i64 x0)), (0, .v (.int .i64 x0)), (1, .v (.int .i64 x1))]) (by kernel_rfl) ?_
    refine JO_stepsK 2 [8, 0, 1] (sl' := [(8, .v (.bool (!t4))), (0, .v (.int .i64 x0)), (1, .v (.int .i64 x1))]) (bx' := []) (by kernel_rfl) ?_
    refine JO_split 8 (!t4) (by kernel_rfl) (fun b8 => ?_) (fun b8 => ?_)
    · have h9 := cT b8 h6
      refine JO_stepsK 4 [12, 0, 1] (sl' := [(12, .v (.bool true)), (0, .v (.int .i64 x0)), (1, .v (.int .i64 x1))]) (bx' := []) (by kernel_rfl) ?_
      refine JO_end (by kernel_rfl) ?_
      obtain rfl := sI h9
      exact JE_meet () [0, 1, 12] [] 0 (by kernel_rfl) (by kernel_rfl) (by kernel_rfl) (by kernel_rfl)
    · have h10 := cF b8 h6
      refine JO_stepsK 1 [9, 8, 0, 1] (sl' := [(9, .v (.int .i64 x1)), (8, .v (.bool false)), (0, .v (.int .i64 x0)), (1, .v (.int .i64 x1))]) (bx' := []) (by kernel_rfl) ?_
      obtain ⟨t11, h12, h13⟩ := bS h10
      refine JO_call0 rfl (by kernel_rfl) (f := 22) (args := #[.int .i64 x1, .int .i64 0, .int .i64 2000]) (by kernel_rfl) (x := .bool t11) (fun γ w hs => (c_spec_l01In h12)) (sl' := [(10, .v (.bool t11)), (9, .v (.int .i64 x1)), (8, .v (.bool false)), (0, .v (.int .i64 x0)), (1, .v (.int .i64 x1))]) (by kernel_rfl) ?_
      refine JO_stepsK 2 [12, 0, 1] (sl' := [(12, .v (.bool (!t11))), (0, .v (.int .i64 x0)), (1, .v (.int .i64 x1))]) (bx' := []) (by kernel_rfl) ?_
      refine JO_end (by kernel_rfl) ?_
      obtain rfl := sI h13
      exact JE_meet () [0, 1, 12] [] 0 (by kernel_rfl) (by kernel_rfl) (by kernel_rfl) (by kernel_rfl)
  · skip
    refine JE_then ?_
    refine JC_cond p1 (by kernel_rfl) (fun b15 => ?_) (fun b15 => ?_)
    · have h16 := cT b15 h3
      refine JC_seq ?_
      refine JC_region ?_
      refine JO_stepsK 1 [4] (sl' := [(4, .v (.int .i64 0))]) (bx' := []) (by kernel_rfl) ?_
      refine JO_end (by kernel_rfl) ?_
      refine JE_then ?_
      refine JC_ret ?_
      refine JE_then_ret ?_
      refine JE_ret (vs := [.int .i64 0]) (by kernel_rfl) (fun γ w hs => ?_)
      rw [← sI h16]
      exact ⟨rfl, hs.kept.toBelow⟩
    · have h17 := cF b15 h3
      refine JC_skip ?_
      refine JE_then ?_
      refine JC_seq ?_
      refine JC_region ?_
      refine JO_stepsK 6 [4] (sl' := [(4, .v (.int .i64 (w64 (Int.tdiv (w64 ((w64 (x0 * x1)) + 999)) 1000))))]) (bx' := []) (by kernel_rfl) ?_
      refine JO_end (by kernel_rfl) ?_
      refine JE_then ?_
      refine JC_ret ?_
      refine JE_ret (vs := [.int .i64 (w64 (Int.tdiv (w64 ((w64 (x0 * x1)) + 999)) 1000))]) (by kernel_rfl) (fun γ w hs => ?_)
      rw [← sI h17]
      exact ⟨rfl, hs.kept.toBelow⟩

theorem c_impl_within {W : World} {x0 : Int} {x1 : Int} {x2 : Int} {r : Bool} (h : impl_within x0 x1 x2 = some r)  :
    Gives0 Try.prog 23 #[.int .i64 x0, .int .i64 x1, .int .i64 x2] W (.bool r) := by
  unfold impl_within at h
  refine enter (args := [.int .i64 x0, .int .i64 x1, .int .i64 x2]) Try.func23 rfl Try.ntmps23 (by kernel_rfl) ?_
  refine JC_seq ?_
  refine JC_region ?_
  refine JO_stepsK 1 [0, 1, 2] (sl' := [(0, .v (.int .i64 x0)), (1, .v (.int .i64 x1)), (2, .v (.int .i64 x2))]) (bx' := []) (by kernel_rfl) ?_
  refine JO_end (by kernel_rfl) ?_
  refine JE_then ?_
  refine JC_seq ?_
  obtain ⟨p1, hE2, h3⟩ := bS h
  refine JC_cut (τ := Unit) (fun _ => [(6, .v (.bool p1))]) (fun _ => []) (fun _ => []) ?_ (fun _ => ?_)
  · refine JC_region ?_
    refine JO_stepsK 4 [10, 0, 2] (sl' := [(10, .v (.bool (decide (x1 ≤ x0)))), (0, .v (.int .i64 x0)), (2, .v (.int .i64 x2))]) (bx' := []) (by kernel_rfl) ?_
    refine JO_split 10 (decide (x1 ≤ x0)) (by kernel_rfl) (fun b4 => ?_) (fun b4 => ?_)
    · have h5 := cT b4 hE2
      refine JO_stepsK 5 [6] (sl' := [(6, .v (.bool (decide (x0 ≤ x2))))]) (bx' := []) (by kernel_rfl) ?_
      refine JO_end (by kernel_rfl) ?_
      obtain rfl := sI h5
      exact JE_meet () [6] [] 0 (by kernel_rfl) (by kernel_rfl) (by kernel_rfl) (by kernel_rfl)
    · have h6 := cF b4 hE2
      refine JO_stepsK 5 [6] (sl' := [(6, .v (.bool false))]) (bx' := []) (by kernel_rfl) ?_
      refine JO_end (by kernel_rfl) ?_
      obtain rfl := sI h6
      exact JE_meet () [6] [] 0 (by kernel_rfl) (by kernel_rfl) (by kernel_rfl) (by kernel_rfl)
  · skip
    refine JE_then ?_
    refine JC_ret ?_
    refine JE_ret (vs := [.bool p1]) (by kernel_rfl) (fun γ w hs => ?_)
    rw [← sI h3]
    exact ⟨rfl, hs.kept.toBelow⟩

theorem c_impl_ceilDiv {W : World} {x0 : Int} {x1 : Int} {r : Int} (h : impl_ceilDiv x0 x1 = some r)  :
    Gives0 Try.prog 24 #[.int .i64 x0, .int .i64 x1] W (.int .i64 r) := by
  unfold impl_ceilDiv at h
  refine enter (args := [.int .i64 x0, .int .i64 x1]) Try.func24 rfl Try.ntmps24 (by kernel_rfl) ?_
  refine JC_seq ?_
  refine JC_region ?_
  refine JO_stepsK 1 [0, 1] (sl' := [(0, .v (.int .i64 x0)), (1, .v (.int .i64 x1))]) (bx' := []) (by kernel_rfl) ?_
  refine JO_end (by kernel_rfl) ?_
  refine JE_then ?_
  refine JC_seq ?_
  refine JC_region ?_
  refine JO_stepsK 5 [9, 8] (sl' := [(9, .v (.int .i64 x1)), (8, .v (.int .i64 (w64 ((w64 (x0 + x1)) - 1))))]) (bx' := []) (by kernel_rfl) ?_
  obtain ⟨u3, hz2, h1⟩ := bS h
  refine JO_div rfl (by kernel_rfl) (op := .quo) (k := .i64) (x := (w64 ((w64 (x0 + x1)) - 1))) (y := x1) (by kernel_rfl) (nz_some hz2) (sl' := [(10, .v (.int .i64 (w64 (Int.tdiv (w64 ((w64 (x0 + x1)) - 1)) x1)))), (9, .v (.int .i64 x1)), (8, .v (.int .i64 (w64 ((w64 (x0 + x1)) - 1))))]) (by kernel_rfl) ?_
  refine JO_stepsK 1 [4] (sl' := [(4, .v (.int .i64 (w64 (Int.tdiv (w64 ((w64 (x0 + x1)) - 1)) x1))))]) (bx' := []) (by kernel_rfl) ?_
  refine JO_end (by kernel_rfl) ?_
  refine JE_then ?_
  refine JC_ret ?_
  refine JE_ret (vs := [.int .i64 (w64 (Int.tdiv (w64 ((w64 (x0 + x1)) - 1)) x1))]) (by kernel_rfl) (fun γ w hs => ?_)
  rw [← sI h1]
  exact ⟨rfl, hs.kept.toBelow⟩

theorem c_impl_AssetsNeeded {W : World} {x0 : Int} {x1 : Int} {r : Int} (h : impl_AssetsNeeded x0 x1 = some r)  :
    Gives0 Try.prog 10 #[.int .i64 x0, .int .i64 x1] W (.int .i64 r) := by
  unfold impl_AssetsNeeded at h
  refine enter (args := [.int .i64 x0, .int .i64 x1]) Try.func10 rfl Try.ntmps10 (by kernel_rfl) ?_
  refine JC_seq ?_
  refine JC_region ?_
  refine JO_stepsK 1 [0, 1] (sl' := [(0, .v (.int .i64 x0)), (1, .v (.int .i64 x1))]) (bx' := []) (by kernel_rfl) ?_
  refine JO_end (by kernel_rfl) ?_
  refine JE_then ?_
  refine JC_seq ?_
  refine JC_seq ?_
  obtain ⟨p1, hE2, h3⟩ := bS h
  refine JC_cut (τ := Unit) (fun _ => [(0, .v (.int .i64 x0)), (1, .v (.int .i64 x1)), (12, .v (.bool p1))]) (fun _ => []) (fun _ => []) ?_ (fun _ => ?_)
  · refine JC_region ?_
    refine JO_stepsK 1 [5, 0, 1] (sl' := [(5, .v (.int .i64 x0)), (0, .v (.int .i64 x0)), (1, .v (.int .i64 x1))]) (bx' := []) (by kernel_rfl) ?_
    obtain ⟨t4, h5, h6⟩ := bS hE2
    refine JO_call0 rfl (by kernel_rfl) (f := 23) (args := #[.int .i64 x0, .int .i64 0, .int .i64 1000000000000]) (by kernel_rfl) (x := .bool t4) (fun γ w hs => (c_impl_within h5)) (sl' := [(6, .v (.bool t4)), (5, .v (.int .i64 x0)), (0, .v (.int .i64 x0)), (1, .v (.int .i64 x1))]) (by kernel_rfl) ?_
    refine JO_stepsK 2 [8, 0, 1] (sl' := [(8, .v (.bool (!t4))), (0, .v (.int .i64 x0)), (1, .v (.int .i64 x1))]) (bx' := []) (by kernel_rfl) ?_
    refine JO_split 8 (!t4) (by kernel_rfl) (fun b8 => ?_) (fun b8 => ?_)
    · have h9 := cT b8 h6
      refine JO_stepsK 4 [12, 0, 1] (sl' := [(12, .v (.bool true)), (0, .v (.int .i64 x0)), (1, .v (.int .i64 x1))]) (bx' := []) (by kernel_rfl) ?_
      refine JO_end (by kernel_rfl) ?_
      obtain rfl := sI h9
      exact JE_meet () [0, 1, 12] [] 0 (by kernel_rfl) (by kernel_rfl) (by kernel_rfl) (by kernel_rfl)
    · have h10 := cF b8 h6
      refine JO_stepsK 1 [9, 8, 0, 1] (sl' := [(9, .v (.int .i64 x1)), (8, .v (.bool false)), (0, .v (.int .i64 x0)), (1, .v (.int .i64 x1))]) (bx' := []) (by kernel_rfl) ?_
      obtain ⟨t11, h12, h13⟩ := bS h10
      refine JO_call0 rfl (by kernel_rfl) (f := 23) (args := #[.int .i64 x1, .int .i64 0, .int .i64 2000]) (by kernel_rfl) (x := .bool t11) (fun γ w hs => (c_impl_within h12)) (sl' := [(10, .v (.bool t11)), (9, .v (.int .i64 x1)), (8, .v (.bool false)), (0, .v (.int .i64 x0)), (1, .v (.int .i64 x1))]) (by kernel_rfl) ?_
      refine JO_stepsK 2 [12, 0, 1] (sl' := [(12, .v (.bool (!t11))), (0, .v (.int .i64 x0)), (1, .v (.int .i64 x1))]) (bx' := []) (by kernel_rfl) ?_
      refine JO_end (by kernel_rfl) ?_
      obtain rfl := sI h13
      exact JE_meet () [0, 1, 12] [] 0 (by kernel_rfl) (by kernel_rfl) (by kernel_rfl) (by kernel_rfl)
  · skip
    refine JE_then ?_
    refine JC_cond p1 (by kernel_rfl) (fun b15 => ?_) (fun b15 => ?_)
    · have h16 := cT b15 h3
      refine JC_seq ?_
      refine JC_region ?_
      refine JO_stepsK 1 [4] (sl' := [(4, .v (.int .i64 0))]) (bx' := []) (by kernel_rfl) ?_
      refine JO_end (by kernel_rfl) ?_
      refine JE_then ?_
      refine JC_ret ?_
      refine JE_then_ret ?_
      refine JE_ret (vs := [.int .i64 0]) (by kernel_rfl) (fun γ w hs => ?_)
      rw [← sI h16]
      exact ⟨rfl, hs.kept.toBelow⟩
    · have h17 := cF b15 h3
      refine JC_skip ?_
      refine JE_then ?_
      refine JC_seq ?_
      refine JC_region ?_
      refine JO_stepsK 3 [15] (sl' := [(15, .v (.int .i64 (w64 (x0 * x1))))]) (bx' := []) (by kernel_rfl) ?_
      obtain ⟨t18, h19, h20⟩ := bS h17
      refine JO_call0 rfl (by kernel_rfl) (f := 24) (args := #[.int .i64 (w64 (x0 * x1)), .int .i64 1000]) (by kernel_rfl) (x := .int .i64 t18) (fun γ w hs => (c_impl_ceilDiv h19)) (sl' := [(16, .v (.int .i64 t18)), (15, .v (.int .i64 (w64 (x0 * x1))))]) (by kernel_rfl) ?_
      refine JO_stepsK 1 [4] (sl' := [(4, .v (.int .i64 t18))]) (bx' := []) (by kernel_rfl) ?_
      refine JO_end (by kernel_rfl) ?_
      refine JE_then ?_
      refine JC_ret ?_
      refine JE_ret (vs := [.int .i64 t18]) (by kernel_rfl) (fun γ w hs => ?_)
      rw [← sI h20]
      exact ⟨rfl, hs.kept.toBelow⟩

theorem c_laws_FnExactAssetsNeeded {W : World} {x0 : Int} {x1 : Int} {r : Bool} (h : laws_FnExactAssetsNeeded x0 x1 = some r)  :
    Gives0 Try.prog 3 #[.int .i64 x0, .int .i64 x1] W (.bool r) := by
  unfold laws_FnExactAssetsNeeded at h
  refine enter (args := [.int .i64 x0, .int .i64 x1]) Try.func3 rfl Try.ntmps3 (by kernel_rfl) ?_
  refine JC_seq ?_
  refine JC_region ?_
  refine JO_stepsK 1 [0, 1] (sl' := [(0, .v (.int .i64 x0)), (1, .v (.int .i64 x1))]) (bx' := []) (by kernel_rfl) ?_
  refine JO_end (by kernel_rfl) ?_
  refine JE_then ?_
  refine JC_seq ?_
  refine JC_region ?_
  refine JO_stepsK 2 [8, 7, 0, 1] (sl' := [(8, .v (.int .i64 x1)), (7, .v (.int .i64 x0)), (0, .v (.int .i64 x0)), (1, .v (.int .i64 x1))]) (bx' := []) (by kernel_rfl) ?_
  obtain ⟨t1, h2, h3⟩ := bS h
  refine JO_call0 rfl (by kernel_rfl) (f := 9) (args := #[.int .i64 x0, .int .i64 x1]) (by kernel_rfl) (x := .int .i64 t1) (fun γ w hs => (c_spec_AssetsNeeded h2)) (sl' := [(9, .v (.int .i64 t1)), (8, .v (.int .i64 x1)), (7, .v (.int .i64 x0)), (0, .v (.int .i64 x0)), (1, .v (.int .i64 x1))]) (by kernel_rfl) ?_
  refine JO_stepsK 1 [5, 0, 1] (sl' := [(5, .v (.int .i64 t1)), (0, .v (.int .i64 x0)), (1, .v (.int .i64 x1))]) (bx' := []) (by kernel_rfl) ?_
  refine JO_end (by kernel_rfl) ?_
  refine JE_then ?_
  refine JC_seq ?_
  refine JC_region ?_
  refine JO_stepsK 2 [11, 10, 5] (sl' := [(11, .v (.int .i64 x1)), (10, .v (.int .i64 x0)), (5, .v (.int .i64 t1))]) (bx' := []) (by kernel_rfl) ?_
  obtain ⟨t5, h6, h7⟩ := bS h3
  refine JO_call0 rfl (by kernel_rfl) (f := 10) (args := #[.int .i64 x0, .int .i64 x1]) (by kernel_rfl) (x := .int .i64 t5) (fun γ w hs => (c_impl_AssetsNeeded h6)) (sl' := [(12, .v (.int .i64 t5)), (11, .v (.int .i64 x1)), (10, .v (.int .i64 x0)), (5, .v (.int .i64 t1))]) (by kernel_rfl) ?_
  refine JO_stepsK 1 [6, 5] (sl' := [(6, .v (.int .i64 t5)), (5, .v (.int .i64 t1))]) (bx' := []) (by kernel_rfl) ?_
  refine JO_end (by kernel_rfl) ?_
  refine JE_then ?_
  refine JC_seq ?_
  refine JC_seq ?_
  refine JC_region ?_
  refine JO_stepsK 3 [15] (sl' := [(15, .v (.bool (t5 != t1)))]) (bx' := []) (by kernel_rfl) ?_
  refine JO_end (by kernel_rfl) ?_
  refine JE_then ?_
  refine JC_cond (t5 != t1) (by kernel_rfl) (fun b9 => ?_) (fun b9 => ?_)
  · have h10 := cT b9 h7
    refine JC_seq ?_
    refine JC_region ?_
    refine JO_stepsK 1 [4] (sl' := [(4, .v (.bool false))]) (bx' := []) (by kernel_rfl) ?_
    refine JO_end (by kernel_rfl) ?_
    refine JE_then ?_
    refine JC_ret ?_
    refine JE_then_ret ?_
    refine JE_ret (vs := [.bool false]) (by kernel_rfl) (fun γ w hs => ?_)
    rw [← sI h10]
    exact ⟨rfl, hs.kept.toBelow⟩
  · have h11 := cF b9 h7
    refine JC_skip ?_
    refine JE_then ?_
    refine JC_seq ?_
    refine JC_region ?_
    refine JO_stepsK 1 [4] (sl' := [(4, .v (.bool true))]) (bx' := []) (by kernel_rfl) ?_
    refine JO_end (by kernel_rfl) ?_
    refine JE_then ?_
    refine JC_ret ?_
    refine JE_ret (vs := [.bool true]) (by kernel_rfl) (fun γ w hs => ?_)
    rw [← sI h11]
    exact ⟨rfl, hs.kept.toBelow⟩

theorem c_spec_SolvencyOf {W : World} {x0 : Int} {r : Int} (h : spec_SolvencyOf x0 = some r)  :
    Gives0 Try.prog 11 #[.int .i64 x0] W (.int .i64 r) := by
  unfold spec_SolvencyOf at h
  refine enter (args := [.int .i64 x0]) Try.func11 rfl Try.ntmps11 (by kernel_rfl) ?_
  refine JC_seq ?_
  refine JC_region ?_
  refine JO_stepsK 1 [0] (sl' := [(0, .v (.int .i64 x0))]) (bx' := []) (by kernel_rfl) ?_
  refine JO_end (by kernel_rfl) ?_
  refine JE_then ?_
  refine JC_seq ?_
  refine JC_block ?_
  refine JC_seq ?_
  refine JC_region ?_
  refine JO_stepsK 3 [3, 0] (sl' := [(3, .v (.bool (decide (x0 < 1000)))), (0, .v (.int .i64 x0))]) (bx' := []) (by kernel_rfl) ?_
  refine JO_end (by kernel_rfl) ?_
  refine JE_then ?_
  refine JC_cond (decide (x0 < 1000)) (by kernel_rfl) (fun b1 => ?_) (fun b1 => ?_)
  · have h2 := cT b1 h
    refine JC_seq ?_
    refine JC_region ?_
    refine JO_stepsK 1 [2] (sl' := [(2, .v (.int .i64 0))]) (bx' := []) (by kernel_rfl) ?_
    refine JO_end (by kernel_rfl) ?_
    refine JE_then ?_
    refine JC_ret ?_
    refine JE_block_ret ?_
    refine JE_then_ret ?_
    refine JE_ret (vs := [.int .i64 0]) (by kernel_rfl) (fun γ w hs => ?_)
    rw [← sI h2]
    exact ⟨rfl, hs.kept.toBelow⟩
  · have h3 := cF b1 h
    refine JC_seq ?_
    refine JC_region ?_
    refine JO_stepsK 3 [6] (sl' := [(6, .v (.bool (decide (x0 < 1050))))]) (bx' := []) (by kernel_rfl) ?_
    refine JO_end (by kernel_rfl) ?_
    refine JE_then ?_
    refine JC_cond (decide (x0 < 1050)) (by kernel_rfl) (fun b4 => ?_) (fun b4 => ?_)
    · have h5 := cT b4 h3
      refine JC_seq ?_
      refine JC_region ?_
      refine JO_stepsK 1 [2] (sl' := [(2, .v (.int .i64 1))]) (bx' := []) (by kernel_rfl) ?_
      refine JO_end (by kernel_rfl) ?_
      refine JE_then ?_
      refine JC_ret ?_
      refine JE_block_ret ?_
      refine JE_then_ret ?_
      refine JE_ret (vs := [.int .i64 1]) (by kernel_rfl) (fun γ w hs => ?_)
      rw [← sI h5]
      exact ⟨rfl, hs.kept.toBelow⟩
    · have h6 := cF b4 h3
      refine JC_skip ?_
      refine JE_block_normal ?_
      refine JE_then ?_
      refine JC_seq ?_
      refine JC_region ?_
      refine JO_stepsK 1 [2] (sl' := [(2, .v (.int .i64 2))]) (bx' := []) (by kernel_rfl) ?_
      refine JO_end (by kernel_rfl) ?_
      refine JE_then ?_
      refine JC_ret ?_
      refine JE_ret (vs := [.int .i64 2]) (by kernel_rfl) (fun γ w hs => ?_)
      rw [← sI h6]
      exact ⟨rfl, hs.kept.toBelow⟩

theorem c_impl_SolvencyOf {W : World} {x0 : Int} {r : Int} (h : impl_SolvencyOf x0 = some r)  :
    Gives0 Try.prog 12 #[.int .i64 x0] W (.int .i64 r) := by
  unfold impl_SolvencyOf at h
  refine enter (args := [.int .i64 x0]) Try.func12 rfl Try.ntmps12 (by kernel_rfl) ?_
  refine JC_seq ?_
  refine JC_region ?_
  refine JO_stepsK 1 [0] (sl' := [(0, .v (.int .i64 x0))]) (bx' := []) (by kernel_rfl) ?_
  refine JO_end (by kernel_rfl) ?_
  refine JE_then ?_
  refine JC_seq ?_
  refine JC_block ?_
  refine JC_seq ?_
  refine JC_region ?_
  refine JO_stepsK 3 [3, 0] (sl' := [(3, .v (.bool (decide (x0 < 1000)))), (0, .v (.int .i64 x0))]) (bx' := []) (by kernel_rfl) ?_
  refine JO_end (by kernel_rfl) ?_
  refine JE_then ?_
  refine JC_cond (decide (x0 < 1000)) (by kernel_rfl) (fun b1 => ?_) (fun b1 => ?_)
  · have h2 := cT b1 h
    refine JC_seq ?_
    refine JC_region ?_
    refine JO_stepsK 1 [2] (sl' := [(2, .v (.int .i64 0))]) (bx' := []) (by kernel_rfl) ?_
    refine JO_end (by kernel_rfl) ?_
    refine JE_then ?_
    refine JC_ret ?_
    refine JE_block_ret ?_
    refine JE_then_ret ?_
    refine JE_ret (vs := [.int .i64 0]) (by kernel_rfl) (fun γ w hs => ?_)
    rw [← sI h2]
    exact ⟨rfl, hs.kept.toBelow⟩
  · have h3 := cF b1 h
    refine JC_seq ?_
    refine JC_region ?_
    refine JO_stepsK 3 [6] (sl' := [(6, .v (.bool (decide (x0 < 1050))))]) (bx' := []) (by kernel_rfl) ?_
    refine JO_end (by kernel_rfl) ?_
    refine JE_then ?_
    refine JC_cond (decide (x0 < 1050)) (by kernel_rfl) (fun b4 => ?_) (fun b4 => ?_)
    · have h5 := cT b4 h3
      refine JC_seq ?_
      refine JC_region ?_
      refine JO_stepsK 1 [2] (sl' := [(2, .v (.int .i64 1))]) (bx' := []) (by kernel_rfl) ?_
      refine JO_end (by kernel_rfl) ?_
      refine JE_then ?_
      refine JC_ret ?_
      refine JE_block_ret ?_
      refine JE_then_ret ?_
      refine JE_ret (vs := [.int .i64 1]) (by kernel_rfl) (fun γ w hs => ?_)
      rw [← sI h5]
      exact ⟨rfl, hs.kept.toBelow⟩
    · have h6 := cF b4 h3
      refine JC_skip ?_
      refine JE_block_normal ?_
      refine JE_then ?_
      refine JC_seq ?_
      refine JC_region ?_
      refine JO_stepsK 1 [2] (sl' := [(2, .v (.int .i64 2))]) (bx' := []) (by kernel_rfl) ?_
      refine JO_end (by kernel_rfl) ?_
      refine JE_then ?_
      refine JC_ret ?_
      refine JE_ret (vs := [.int .i64 2]) (by kernel_rfl) (fun γ w hs => ?_)
      rw [← sI h6]
      exact ⟨rfl, hs.kept.toBelow⟩

theorem c_laws_FnExactSolvencyOf {W : World} {x0 : Int} {r : Bool} (h : laws_FnExactSolvencyOf x0 = some r)  :
    Gives0 Try.prog 4 #[.int .i64 x0] W (.bool r) := by
  unfold laws_FnExactSolvencyOf at h
  refine enter (args := [.int .i64 x0]) Try.func4 rfl Try.ntmps4 (by kernel_rfl) ?_
  refine JC_seq ?_
  refine JC_region ?_
  refine JO_stepsK 1 [0] (sl' := [(0, .v (.int .i64 x0))]) (bx' := []) (by kernel_rfl) ?_
  refine JO_end (by kernel_rfl) ?_
  refine JE_then ?_
  refine JC_seq ?_
  refine JC_region ?_
  refine JO_stepsK 1 [5, 0] (sl' := [(5, .v (.int .i64 x0)), (0, .v (.int .i64 x0))]) (bx' := []) (by kernel_rfl) ?_
  obtain ⟨t1, h2, h3⟩ := bS h
  refine JO_call0 rfl (by kernel_rfl) (f := 11) (args := #[.int .i64 x0]) (by kernel_rfl) (x := .int .i64 t1) (fun γ w hs => (c_spec_SolvencyOf h2)) (sl' := [(6, .v (.int .i64 t1)), (5, .v (.int .i64 x0)), (0, .v (.int .i64 x0))]) (by kernel_rfl) ?_
  refine JO_stepsK 1 [3, 0] (sl' := [(3, .v (.int .i64 t1)), (0, .v (.int .i64 x0))]) (bx' := []) (by kernel_rfl) ?_
  refine JO_end (by kernel_rfl) ?_
  refine JE_then ?_
  refine JC_seq ?_
  refine JC_region ?_
  refine JO_stepsK 1 [7, 3] (sl' := [(7, .v (.int .i64 x0)), (3, .v (.int .i64 t1))]) (bx' := []) (by kernel_rfl) ?_
  obtain ⟨t5, h6, h7⟩ := bS h3
  refine JO_call0 rfl (by kernel_rfl) (f := 12) (args := #[.int .i64 x0]) (by kernel_rfl) (x := .int .i64 t5) (fun γ w hs => (c_impl_SolvencyOf h6)) (sl' := [(8, .v (.int .i64 t5)), (7, .v (.int .i64 x0)), (3, .v (.int .i64 t1))]) (by kernel_rfl) ?_
  refine JO_stepsK 1 [4, 3] (sl' := [(4, .v (.int .i64 t5)), (3, .v (.int .i64 t1))]) (bx' := []) (by kernel_rfl) ?_
  refine JO_end (by kernel_rfl) ?_
  refine JE_then ?_
  refine JC_seq ?_
  refine JC_seq ?_
  refine JC_region ?_
  refine JO_stepsK 3 [11] (sl' := [(11, .v (.bool (t5 != t1)))]) (bx' := []) (by kernel_rfl) ?_
  refine JO_end (by kernel_rfl) ?_
  refine JE_then ?_
  refine JC_cond (t5 != t1) (by kernel_rfl) (fun b9 => ?_) (fun b9 => ?_)
  · have h10 := cT b9 h7
    refine JC_seq ?_
    refine JC_region ?_
    refine JO_stepsK 1 [2] (sl' := [(2, .v (.bool false))]) (bx' := []) (by kernel_rfl) ?_
    refine JO_end (by kernel_rfl) ?_
    refine JE_then ?_
    refine JC_ret ?_
    refine JE_then_ret ?_
    refine JE_ret (vs := [.bool false]) (by kernel_rfl) (fun γ w hs => ?_)
    rw [← sI h10]
    exact ⟨rfl, hs.kept.toBelow⟩
  · have h11 := cF b9 h7
    refine JC_skip ?_
    refine JE_then ?_
    refine JC_seq ?_
    refine JC_region ?_
    refine JO_stepsK 1 [2] (sl' := [(2, .v (.bool true))]) (bx' := []) (by kernel_rfl) ?_
    refine JO_end (by kernel_rfl) ?_
    refine JE_then ?_
    refine JC_ret ?_
    refine JE_ret (vs := [.bool true]) (by kernel_rfl) (fun γ w hs => ?_)
    rw [← sI h11]
    exact ⟨rfl, hs.kept.toBelow⟩

theorem c_spec_AdjustRate {W : World} {x0 : Int} {x1 : Int} {r : Int} (h : spec_AdjustRate x0 x1 = some r)  :
    Gives0 Try.prog 13 #[.int .i64 x0, .int .i64 x1] W (.int .i64 r) := by
  unfold spec_AdjustRate at h
  refine enter (args := [.int .i64 x0, .int .i64 x1]) Try.func13 rfl Try.ntmps13 (by kernel_rfl) ?_
  refine JC_seq ?_
  refine JC_region ?_
  refine JO_stepsK 1 [0, 1] (sl' := [(0, .v (.int .i64 x0)), (1, .v (.int .i64 x1))]) (bx' := []) (by kernel_rfl) ?_
  refine JO_end (by kernel_rfl) ?_
  refine JE_then ?_
  refine JC_seq ?_
  refine JC_seq ?_
  obtain ⟨p1, hE2, h3⟩ := bS h
  refine JC_cut (τ := Unit) (fun _ => [(0, .v (.int .i64 x0)), (1, .v (.int .i64 x1)), (16, .v (.bool p1))]) (fun _ => []) (fun _ => []) ?_ (fun _ => ?_)
  · refine JC_region ?_
    refine JO_stepsK 1 [5, 0, 1] (sl' := [(5, .v (.int .i64 x0)), (0, .v (.int .i64 x0)), (1, .v (.int .i64 x1))]) (bx' := []) (by kernel_rfl) ?_
    obtain ⟨t4, h5, h6⟩ := bS hE2
    refine JO_call0 rfl (by kernel_rfl) (f := 22) (args := #[.int .i64 x0, .int .i64 0, .int .i64 10000]) (by kernel_rfl) (x := .bool t4) (fun γ w hs => (c_spec_l01In h5)) (sl' := [(6, .v (.bool t4)), (5, .v (.int .i64 x0)), (0, .v (.int .i64 x0)), (1, .v (.int .i64 x1))]) (by kernel_rfl) ?_
    refine JO_stepsK 2 [8, 0, 1] (sl' := [(8, .v (.bool (!t4))), (0, .v (.int .i64 x0)), (1, .v (.int .i64 x1))]) (bx' := []) (by kernel_rfl) ?_
    refine JO_split 8 (!t4) (by kernel_rfl) (fun b8 => ?_) (fun b8 => ?_)
    · have h9 := cT b8 h6
      refine JO_stepsK 8 [16, 0, 1] (sl' := [(16, .v (.bool true)), (0, .v (.int .i64 x0)), (1, .v (.int .i64 x1))]) (bx' := []) (by kernel_rfl) ?_
      refine JO_end (by kernel_rfl) ?_
      obtain rfl := sI h9
      exact JE_meet () [0, 1, 16] [] 0 (by kernel_rfl) (by kernel_rfl) (by kernel_rfl) (by kernel_rfl)
    · have h10 := cF b8 h6
      refine JO_stepsK 1 [9, 8, 0, 1] (sl' := [(9, .v (.int .i64 x1)), (8, .v (.bool false)), (0, .v (.int .i64 x0)), (1, .v (.int .i64 x1))]) (bx' := []) (by kernel_rfl) ?_
      obtain ⟨t11, h12, h13⟩ := bS h10
      refine JO_call0 rfl (by kernel_rfl) (f := 22) (args := #[.int .i64 x1, .int .i64 0, .int .i64 1000]) (by kernel_rfl) (x := .bool t11) (fun γ w hs => (c_spec_l01In h12)) (sl' := [(10, .v (.bool t11)), (9, .v (.int .i64 x1)), (8, .v (.bool false)), (0, .v (.int .i64 x0)), (1, .v (.int .i64 x1))]) (by kernel_rfl) ?_
      refine JO_stepsK 3 [13, 0, 1] (sl' := [(13, .v (.bool (!t11))), (0, .v (.int .i64 x0)), (1, .v (.int .i64 x1))]) (bx' := []) (by kernel_rfl) ?_
      refine JO_split 13 (!t11) (by kernel_rfl) (fun b15 => ?_) (fun b15 => ?_)
      · have h16 := cT b15 h13
        refine JO_stepsK 3 [16, 0, 1] (sl' := [(16, .v (.bool true)), (0, .v (.int .i64 x0)), (1, .v (.int .i64 x1))]) (bx' := []) (by kernel_rfl) ?_
        refine JO_end (by kernel_rfl) ?_
        obtain rfl := sI h16
        exact JE_meet () [0, 1, 16] [] 0 (by kernel_rfl) (by kernel_rfl) (by kernel_rfl) (by kernel_rfl)
      · have h17 := cF b15 h13
        refine JO_stepsK 3 [16, 0, 1] (sl' := [(16, .v (.bool (decide (x0 < 1000)))), (0, .v (.int .i64 x0)), (1, .v (.int .i64 x1))]) (bx' := []) (by kernel_rfl) ?_
        refine JO_end (by kernel_rfl) ?_
        obtain rfl := sI h17
        exact JE_meet () [0, 1, 16] [] 0 (by kernel_rfl) (by kernel_rfl) (by kernel_rfl) (by kernel_rfl)
  · skip
    refine JE_then ?_
    refine JC_cond p1 (by kernel_rfl) (fun b18 => ?_) (fun b18 => ?_)
    · have h19 := cT b18 h3
      refine JC_seq ?_
      refine JC_region ?_
      refine JO_stepsK 1 [4] (sl' := [(4, .v (.int .i64 0))]) (bx' := []) (by kernel_rfl) ?_
      refine JO_end (by kernel_rfl) ?_
      refine JE_then ?_
      refine JC_ret ?_
      refine JE_then_ret ?_
      refine JE_ret (vs := [.int .i64 0]) (by kernel_rfl) (fun γ w hs => ?_)
      rw [← sI h19]
      exact ⟨rfl, hs.kept.toBelow⟩
    · have h20 := cF b18 h3
      refine JC_skip ?_
      refine JE_then ?_
      refine JC_seq ?_
      refine JC_seq ?_
      refine JC_region ?_
      refine JO_stepsK 2 [18, 0, 1] (sl' := [(18, .v (.bool (decide (x0 ≥ 1100)))), (0, .v (.int .i64 x0)), (1, .v (.int .i64 x1))]) (bx' := []) (by kernel_rfl) ?_
      refine JO_end (by kernel_rfl) ?_
      refine JE_then ?_
      refine JC_cond (decide (x0 ≥ 1100)) (by kernel_rfl) (fun b21 => ?_) (fun b21 => ?_)
      · have h22 := cT b21 h20
        refine JC_seq ?_
        refine JC_region ?_
        refine JO_stepsK 2 [4] (sl' := [(4, .v (.int .i64 x1))]) (bx' := []) (by kernel_rfl) ?_
        refine JO_end (by kernel_rfl) ?_
        refine JE_then ?_
        refine JC_ret ?_
        refine JE_then_ret ?_
        refine JE_ret (vs := [.int .i64 x1]) (by kernel_rfl) (fun γ w hs => ?_)
        rw [← sI h22]
        exact ⟨rfl, hs.kept.toBelow⟩
      · have h23 := cF b21 h20
        refine JC_skip ?_
        refine JE_then ?_
        refine JC_seq ?_
        refine JC_region ?_
        refine JO_stepsK 6 [4] (sl' := [(4, .v (.int .i64 (w64 (Int.tdiv (w64 (x1 * (w64 (x0 - 1000)))) 100))))]) (bx' := []) (by kernel_rfl) ?_
        refine JO_end (by kernel_rfl) ?_
        refine JE_then ?_
        refine JC_ret ?_
        refine JE_ret (vs := [.int .i64 (w64 (Int.tdiv (w64 (x1 * (w64 (x0 - 1000)))) 100))]) (by kernel_rfl) (fun γ w hs => ?_)
        rw [← sI h23]
        exact ⟨rfl, hs.kept.toBelow⟩

theorem c_impl_AdjustRate {W : World} {x0 : Int} {x1 : Int} {r : Int} (h : impl_AdjustRate x0 x1 = some r)  :
    Gives0 Try.prog 14 #[.int .i64 x0, .int .i64 x1] W (.int .i64 r) := by
  unfold impl_AdjustRate at h
  refine enter (args := [.int .i64 x0, .int .i64 x1]) Try.func14 rfl Try.ntmps14 (by kernel_rfl) ?_
  refine JC_seq ?_
  refine JC_region ?_
  refine JO_stepsK 1 [0, 1] (sl' := [(0, .v (.int .i64 x0)), (1, .v (.int .i64 x1))]) (bx' := []) (by kernel_rfl) ?_
  refine JO_end (by kernel_rfl) ?_
  refine JE_then ?_
  refine JC_seq ?_
  refine JC_block ?_
  refine JC_seq ?_
  obtain ⟨p1, hE2, h3⟩ := bS h
  refine JC_cut (τ := Unit) (fun _ => [(0, .v (.int .i64 x0)), (1, .v (.int .i64 x1)), (5, .v (.bool p1))]) (fun _ => []) (fun _ => []) ?_ (fun _ => ?_)
  · refine JC_region ?_
    refine JO_stepsK 1 [6, 0, 1] (sl' := [(6, .v (.int .i64 x0)), (0, .v (.int .i64 x0)), (1, .v (.int .i64 x1))]) (bx' := []) (by kernel_rfl) ?_
    obtain ⟨t4, h5, h6⟩ := bS hE2
    refine JO_call0 rfl (by kernel_rfl) (f := 23) (args := #[.int .i64 x0, .int .i64 0, .int .i64 10000]) (by kernel_rfl) (x := .bool t4) (fun γ w hs => (c_impl_within h5)) (sl' := [(7, .v (.bool t4)), (6, .v (.int .i64 x0)), (0, .v (.int .i64 x0)), (1, .v (.int .i64 x1))]) (by kernel_rfl) ?_
    refine JO_stepsK 2 [9, 0, 1] (sl' := [(9, .v (.bool (!t4))), (0, .v (.int .i64 x0)), (1, .v (.int .i64 x1))]) (bx' := []) (by kernel_rfl) ?_
    refine JO_split 9 (!t4) (by kernel_rfl) (fun b8 => ?_) (fun b8 => ?_)
    · have h9 := cT b8 h6
      refine JO_stepsK 9 [5, 0, 1] (sl' := [(5, .v (.bool true)), (0, .v (.int .i64 x0)), (1, .v (.int .i64 x1))]) (bx' := []) (by kernel_rfl) ?_
      refine JO_end (by kernel_rfl) ?_
      obtain rfl := sI h9
      exact JE_meet () [0, 1, 5] [] 0 (by kernel_rfl) (by kernel_rfl) (by kernel_rfl) (by kernel_rfl)
    · have h10 := cF b8 h6
      refine JO_stepsK 1 [10, 9, 0, 1] (sl' := [(10, .v (.int .i64 x1)), (9, .v (.bool false)), (0, .v (.int .i64 x0)), (1, .v (.int .i64 x1))]) (bx' := []) (by kernel_rfl) ?_
      obtain ⟨t11, h12, h13⟩ := bS h10
      refine JO_call0 rfl (by kernel_rfl) (f := 23) (args := #[.int .i64 x1, .int .i64 0, .int .i64 1000]) (by kernel_rfl) (x := .bool t11) (fun γ w hs => (c_impl_within h12)) (sl' := [(11, .v (.bool t11)), (10, .v (.int .i64 x1)), (9, .v (.bool false)), (0, .v (.int .i64 x0)), (1, .v (.int .i64 x1))]) (by kernel_rfl) ?_
      refine JO_stepsK 3 [14, 0, 1] (sl' := [(14, .v (.bool (!t11))), (0, .v (.int .i64 x0)), (1, .v (.int .i64 x1))]) (bx' := []) (by kernel_rfl) ?_
      refine JO_split 14 (!t11) (by kernel_rfl) (fun b15 => ?_) (fun b15 => ?_)
      · have h16 := cT b15 h13
        refine JO_stepsK 4 [5, 0, 1] (sl' := [(5, .v (.bool true)), (0, .v (.int .i64 x0)), (1, .v (.int .i64 x1))]) (bx' := []) (by kernel_rfl) ?_
        refine JO_end (by kernel_rfl) ?_
        obtain rfl := sI h16
        exact JE_meet () [0, 1, 5] [] 0 (by kernel_rfl) (by kernel_rfl) (by kernel_rfl) (by kernel_rfl)
      · have h17 := cF b15 h13
        refine JO_stepsK 4 [5, 0, 1] (sl' := [(5, .v (.bool (decide (x0 < 1000)))), (0, .v (.int .i64 x0)), (1, .v (.int .i64 x1))]) (bx' := []) (by kernel_rfl) ?_
        refine JO_end (by kernel_rfl) ?_
        obtain rfl := sI h17
        exact JE_meet () [0, 1, 5] [] 0 (by kernel_rfl) (by kernel_rfl) (by kernel_rfl) (by kernel_rfl)
  · skip
    refine JE_then ?_
    refine JC_cond p1 (by kernel_rfl) (fun b18 => ?_) (fun b18 => ?_)
    · have h19 := cT b18 h3
      refine JC_seq ?_
      refine JC_region ?_
      refine JO_stepsK 1 [4] (sl' := [(4, .v (.int .i64 0))]) (bx' := []) (by kernel_rfl) ?_
      refine JO_end (by kernel_rfl) ?_
      refine JE_then ?_
      refine JC_ret ?_
      refine JE_block_ret ?_
      refine JE_then_ret ?_
      refine JE_ret (vs := [.int .i64 0]) (by kernel_rfl) (fun γ w hs => ?_)
      rw [← sI h19]
      exact ⟨rfl, hs.kept.toBelow⟩
    · have h20 := cF b18 h3
      refine JC_seq ?_
      refine JC_region ?_
      refine JO_stepsK 3 [18, 0, 1] (sl' := [(18, .v (.bool (decide (x0 ≥ 1100)))), (0, .v (.int .i64 x0)), (1, .v (.int .i64 x1))]) (bx' := []) (by kernel_rfl) ?_
      refine JO_end (by kernel_rfl) ?_
      refine JE_then ?_
      refine JC_cond (decide (x0 ≥ 1100)) (by kernel_rfl) (fun b21 => ?_) (fun b21 => ?_)
      · have h22 := cT b21 h20
        refine JC_seq ?_
        refine JC_region ?_
        refine JO_stepsK 2 [4] (sl' := [(4, .v (.int .i64 x1))]) (bx' := []) (by kernel_rfl) ?_
        refine JO_end (by kernel_rfl) ?_
        refine JE_then ?_
        refine JC_ret ?_
        refine JE_block_ret ?_
        refine JE_then_ret ?_
        refine JE_ret (vs := [.int .i64 x1]) (by kernel_rfl) (fun γ w hs => ?_)
        rw [← sI h22]
        exact ⟨rfl, hs.kept.toBelow⟩
      · have h23 := cF b21 h20
        refine JC_skip ?_
        refine JE_block_normal ?_
        refine JE_then ?_
        refine JC_seq ?_
        refine JC_region ?_
        refine JO_stepsK 6 [4] (sl' := [(4, .v (.int .i64 (w64 (Int.tdiv (w64 (x1 * (w64 (x0 - 1000)))) 100))))]) (bx' := []) (by kernel_rfl) ?_
        refine JO_end (by kernel_rfl) ?_
        refine JE_then ?_
        refine JC_ret ?_
        refine JE_ret (vs := [.int .i64 (w64 (Int.tdiv (w64 (x1 * (w64 (x0 - 1000)))) 100))]) (by kernel_rfl) (fun γ w hs => ?_)
        rw [← sI h23]
        exact ⟨rfl, hs.kept.toBelow⟩

theorem c_laws_FnExactAdjustRate {W : World} {x0 : Int} {x1 : Int} {r : Bool} (h : laws_FnExactAdjustRate x0 x1 = some r)  :
    Gives0 Try.prog 5 #[.int .i64 x0, .int .i64 x1] W (.bool r) := by
  unfold laws_FnExactAdjustRate at h
  refine enter (args := [.int .i64 x0, .int .i64 x1]) Try.func5 rfl Try.ntmps5 (by kernel_rfl) ?_
  refine JC_seq ?_
  refine JC_region ?_
  refine JO_stepsK 1 [0, 1] (sl' := [(0, .v (.int .i64 x0)), (1, .v (.int .i64 x1))]) (bx' := []) (by kernel_rfl) ?_
  refine JO_end (by kernel_rfl) ?_
  refine JE_then ?_
  refine JC_seq ?_
  refine JC_region ?_
  refine JO_stepsK 2 [8, 7, 0, 1] (sl' := [(8, .v (.int .i64 x1)), (7, .v (.int .i64 x0)), (0, .v (.int .i64 x0)), (1, .v (.int .i64 x1))]) (bx' := []) (by kernel_rfl) ?_
  obtain ⟨t1, h2, h3⟩ := bS h
  refine JO_call0 rfl (by kernel_rfl) (f := 13) (args := #[.int .i64 x0, .int .i64 x1]) (by kernel_rfl) (x := .int .i64 t1) (fun γ w hs => (c_spec_AdjustRate h2)) (sl' := [(9, .v (.int .i64 t1)), (8, .v (.int .i64 x1)), (7, .v (.int .i64 x0)), (0, .v (.int .i64 x0)), (1, .v (.int .i64 x1))]) (by kernel_rfl) ?_
  refine JO_stepsK 1 [5, 0, 1] (sl' := [(5, .v (.int .i64 t1)), (0, .v (.int .i64 x0)), (1, .v (.int .i64 x1))]) (bx' := []) (by kernel_rfl) ?_
  refine JO_end (by kernel_rfl) ?_
  refine JE_then ?_
  refine JC_seq ?_
  refine JC_region ?_
  refine JO_stepsK 2 [11, 10, 5] (sl' := [(11, .v (.int .i64 x1)), (10, .v (.int .i64 x0)), (5, .v (.int .i64 t1))]) (bx' := []) (by kernel_rfl) ?_
  obtain ⟨t5, h6, h7⟩ := bS h3
  refine JO_call0 rfl (by kernel_rfl) (f := 14) (args := #[.int .i64 x0, .int .i64 x1]) (by kernel_rfl) (x := .int .i64 t5) (fun γ w hs => (c_impl_AdjustRate h6)) (sl' := [(12, .v (.int .i64 t5)), (11, .v (.int .i64 x1)), (10, .v (.int .i64 x0)), (5, .v (.int .i64 t1))]) (by kernel_rfl) ?_
  refine JO_stepsK 1 [6, 5] (sl' := [(6, .v (.int .i64 t5)), (5, .v (.int .i64 t1))]) (bx' := []) (by kernel_rfl) ?_
  refine JO_end (by kernel_rfl) ?_
  refine JE_then ?_
  refine JC_seq ?_
  refine JC_seq ?_
  refine JC_region ?_
  refine JO_stepsK 3 [15] (sl' := [(15, .v (.bool (t5 != t1)))]) (bx' := []) (by kernel_rfl) ?_
  refine JO_end (by kernel_rfl) ?_
  refine JE_then ?_
  refine JC_cond (t5 != t1) (by kernel_rfl) (fun b9 => ?_) (fun b9 => ?_)
  · have h10 := cT b9 h7
    refine JC_seq ?_
    refine JC_region ?_
    refine JO_stepsK 1 [4] (sl' := [(4, .v (.bool false))]) (bx' := []) (by kernel_rfl) ?_
    refine JO_end (by kernel_rfl) ?_
    refine JE_then ?_
    refine JC_ret ?_
    refine JE_then_ret ?_
    refine JE_ret (vs := [.bool false]) (by kernel_rfl) (fun γ w hs => ?_)
    rw [← sI h10]
    exact ⟨rfl, hs.kept.toBelow⟩
  · have h11 := cF b9 h7
    refine JC_skip ?_
    refine JE_then ?_
    refine JC_seq ?_
    refine JC_region ?_
    refine JO_stepsK 1 [4] (sl' := [(4, .v (.bool true))]) (bx' := []) (by kernel_rfl) ?_
    refine JO_end (by kernel_rfl) ?_
    refine JE_then ?_
    refine JC_ret ?_
    refine JE_ret (vs := [.bool true]) (by kernel_rfl) (fun γ w hs => ?_)
    rw [← sI h11]
    exact ⟨rfl, hs.kept.toBelow⟩

theorem c_spec_CoverageOf {W : World} {x0 : Int} {x1 : Int} {r : Int} (h : spec_CoverageOf x0 x1 = some r)  :
    Gives0 Try.prog 15 #[.int .i64 x0, .int .i64 x1] W (.int .i64 r) := by
  unfold spec_CoverageOf at h
  refine enter (args := [.int .i64 x0, .int .i64 x1]) Try.func15 rfl Try.ntmps15 (by kernel_rfl) ?_
  refine JC_seq ?_
  refine JC_region ?_
  refine JO_stepsK 1 [0, 1] (sl' := [(0, .v (.int .i64 x0)), (1, .v (.int .i64 x1))]) (bx' := []) (by kernel_rfl) ?_
  refine JO_end (by kernel_rfl) ?_
  refine JE_then ?_
  refine JC_seq ?_
  refine JC_seq ?_
  obtain ⟨p1, hE2, h3⟩ := bS h
  refine JC_cut (τ := Unit) (fun _ => [(0, .v (.int .i64 x0)), (1, .v (.int .i64 x1)), (12, .v (.bool p1))]) (fun _ => []) (fun _ => []) ?_ (fun _ => ?_)
  · refine JC_region ?_
    refine JO_stepsK 1 [5, 0, 1] (sl' := [(5, .v (.int .i64 x0)), (0, .v (.int .i64 x0)), (1, .v (.int .i64 x1))]) (bx' := []) (by kernel_rfl) ?_
    obtain ⟨t4, h5, h6⟩ := bS hE2
    refine JO_call0 rfl (by kernel_rfl) (f := 22) (args := #[.int .i64 x0, .int .i64 0, .int .i64 1000000000000]) (by kernel_rfl) (x := .bool t4) (fun γ w hs => (c_spec_l01In h5)) (sl' := [(6, .v (.bool t4)), (5, .v (.int .i64 x0)), (0, .v (.int .i64 x0)), (1, .v (.int .i64 x1))]) (by kernel_rfl) ?_
    refine JO_stepsK 2 [8, 0, 1] (sl' := [(8, .v (.bool (!t4))), (0, .v (.int .i64 x0)), (1, .v (.int .i64 x1))]) (bx' := []) (by kernel_rfl) ?_
    refine JO_split 8 (!t4) (by kernel_rfl) (fun b8 => ?_) (fun b8 => ?_)
    · have h9 := cT b8 h6
      refine JO_stepsK 4 [12, 0, 1] (sl' := [(12, .v (.bool true)), (0, .v (.int .i64 x0)), (1, .v (.int .i64 x1))]) (bx' := []) (by kernel_rfl) ?_
      refine JO_end (by kernel_rfl) ?_
      obtain rfl := sI h9
      exact JE_meet () [0, 1, 12] [] 0 (by kernel_rfl) (by kernel_rfl) (by kernel_rfl) (by kernel_rfl)
    · have h10 := cF b8 h6
      refine JO_stepsK 1 [9, 8, 0, 1] (sl' := [(9, .v (.int .i64 x1)), (8, .v (.bool false)), (0, .v (.int .i64 x0)), (1, .v (.int .i64 x1))]) (bx' := []) (by kernel_rfl) ?_
      obtain ⟨t11, h12, h13⟩ := bS h10
      refine JO_call0 rfl (by kernel_rfl) (f := 22) (args := #[.int .i64 x1, .int .i64 0, .int .i64 1000000000000]) (by kernel_rfl) (x := .bool t11) (fun γ w hs => (c_spec_l01In h12)) (sl' := [(10, .v (.bool t11)), (9, .v (.int .i64 x1)), (8, .v (.bool false)), (0, .v (.int .i64 x0)), (1, .v (.int .i64 x1))]) (by kernel_rfl) ?_
      refine JO_stepsK 2 [12, 0, 1] (sl' := [(12, .v (.bool (!t11))), (0, .v (.int .i64 x0)), (1, .v (.int .i64 x1))]) (bx' := []) (by kernel_rfl) ?_
      refine JO_end (by kernel_rfl) ?_
      obtain rfl := sI h13
      exact JE_meet () [0, 1, 12] [] 0 (by kernel_rfl) (by kernel_rfl) (by kernel_rfl) (by kernel_rfl)
  · skip
    refine JE_then ?_
    refine JC_cond p1 (by kernel_rfl) (fun b15 => ?_) (fun b15 => ?_)
    · have h16 := cT b15 h3
      refine JC_seq ?_
      refine JC_region ?_
      refine JO_stepsK 1 [4] (sl' := [(4, .v (.int .i64 0))]) (bx' := []) (by kernel_rfl) ?_
      refine JO_end (by kernel_rfl) ?_
      refine JE_then ?_
      refine JC_ret ?_
      refine JE_then_ret ?_
      refine JE_ret (vs := [.int .i64 0]) (by kernel_rfl) (fun γ w hs => ?_)
      rw [← sI h16]
      exact ⟨rfl, hs.kept.toBelow⟩
    · have h17 := cF b15 h3
      refine JC_skip ?_
      refine JE_then ?_
      refine JC_seq ?_
      refine JC_seq ?_
      refine JC_region ?_
      refine JO_stepsK 2 [14, 0, 1] (sl' := [(14, .v (.bool (x1 == 0))), (0, .v (.int .i64 x0)), (1, .v (.int .i64 x1))]) (bx' := []) (by kernel_rfl) ?_
      refine JO_end (by kernel_rfl) ?_
      refine JE_then ?_
      refine JC_cond (x1 == 0) (by kernel_rfl) (fun b18 => ?_) (fun b18 => ?_)
      · have h19 := cT b18 h17
        refine JC_seq ?_
        refine JC_region ?_
        refine JO_stepsK 1 [4] (sl' := [(4, .v (.int .i64 10000))]) (bx' := []) (by kernel_rfl) ?_
        refine JO_end (by kernel_rfl) ?_
        refine JE_then ?_
        refine JC_ret ?_
        refine JE_then_ret ?_
        refine JE_ret (vs := [.int .i64 10000]) (by kernel_rfl) (fun γ w hs => ?_)
        rw [← sI h19]
        exact ⟨rfl, hs.kept.toBelow⟩
      · have h20 := cF b18 h17
        refine JC_skip ?_
        refine JE_then ?_
        refine JC_seq ?_
        refine JC_region ?_
        refine JO_stepsK 3 [17, 16] (sl' := [(17, .v (.int .i64 x1)), (16, .v (.int .i64 (w64 (x0 * 1000))))]) (bx' := []) (by kernel_rfl) ?_
        obtain ⟨u23, hz22, h21⟩ := bS h20
        refine JO_div rfl (by kernel_rfl) (op := .quo) (k := .i64) (x := (w64 (x0 * 1000))) (y := x1) (by kernel_rfl) (nz_some hz22) (sl' := [(18, .v (.int .i64 (w64 (Int.tdiv (w64 (x0 * 1000)) x1)))), (17, .v (.int .i64 x1)), (16, .v (.int .i64 (w64 (x0 * 1000))))]) (by kernel_rfl) ?_
        refine JO_stepsK 2 [4] (sl' := [(4, .v (.int .i64 (imin (w64 (Int.tdiv (w64 (x0 * 1000)) x1)) 10000)))]) (bx' := []) (by kernel_rfl) ?_
        refine JO_end (by kernel_rfl) ?_
        refine JE_then ?_
        refine JC_ret ?_
        refine JE_ret (vs := [.int .i64 (imin (w64 (Int.tdiv (w64 (x0 * 1000)) x1)) 10000)]) (by kernel_rfl) (fun γ w hs => ?_)
        rw [← sI h21]
        exact ⟨rfl, hs.kept.toBelow⟩

theorem c_impl_CoverageOf {W : World} {x0 : Int} {x1 : Int} {r : Int} (h : impl_CoverageOf x0 x1 = some r)  :
    Gives0 Try.prog 16 #[.int .i64 x0, .int .i64 x1] W (.int .i64 r) := by
  unfold impl_CoverageOf at h
  refine enter (args := [.int .i64 x0, .int .i64 x1]) Try.func16 rfl Try.ntmps16 (by kernel_rfl) ?_
  refine JC_seq ?_
  refine JC_region ?_
  refine JO_stepsK 1 [0, 1] (sl' := [(0, .v (.int .i64 x0)), (1, .v (.int .i64 x1))]) (bx' := []) (by kernel_rfl) ?_
  refine JO_end (by kernel_rfl) ?_
  refine JE_then ?_
  refine JC_seq ?_
  refine JC_seq ?_
  obtain ⟨p1, hE2, h3⟩ := bS h
  refine JC_cut (τ := Unit) (fun _ => [(0, .v (.int .i64 x0)), (1, .v (.int .i64 x1)), (12, .v (.bool p1))]) (fun _ => []) (fun _ => []) ?_ (fun _ => ?_)
  · refine JC_region ?_
    refine JO_stepsK 1 [5, 0, 1] (sl' := [(5, .v (.int .i64 x0)), (0, .v (.int .i64 x0)), (1, .v (.int .i64 x1))]) (bx' := []) (by kernel_rfl) ?_
    obtain ⟨t4, h5, h6⟩ := bS hE2
    refine JO_call0 rfl (by kernel_rfl) (f := 23) (args := #[.int .i64 x0, .int .i64 0, .int .i64 1000000000000]) (by kernel_rfl) (x := .bool t4) (fun γ w hs => (c_impl_within h5)) (sl' := [(6, .v (.bool t4)), (5, .v (.int .i64 x0)), (0, .v (.int .i64 x0)), (1, .v (.int .i64 x1))]) (by kernel_rfl) ?_
    refine JO_stepsK 2 [8, 0, 1] (sl' := [(8, .v (.bool (!t4))), (0, .v (.int .i64 x0)), (1, .v (.int .i64 x1))]) (bx' := []) (by kernel_rfl) ?_
    refine JO_split 8 (!t4) (by kernel_rfl) (fun b8 => ?_) (fun b8 => ?_)
    · have h9 := cT b8 h6
      refine JO_stepsK 4 [12, 0, 1] (sl' := [(12, .v (.bool true)), (0, .v (.int .i64 x0)), (1, .v (.int .i64 x1))]) (bx' := []) (by kernel_rfl) ?_
      refine JO_end (by kernel_rfl) ?_
      obtain rfl := sI h9
      exact JE_meet () [0, 1, 12] [] 0 (by kernel_rfl) (by kernel_rfl) (by kernel_rfl) (by kernel_rfl)
    · have h10 := cF b8 h6
      refine JO_stepsK 1 [9, 8, 0, 1] (sl' := [(9, .v (.int .i64 x1)), (8, .v (.bool false)), (0, .v (.int .i64 x0)), (1, .v (.int .i64 x1))]) (bx' := []) (by kernel_rfl) ?_
      obtain ⟨t11, h12, h13⟩ := bS h10
      refine JO_call0 rfl (by kernel_rfl) (f := 23) (args := #[.int .i64 x1, .int .i64 0, .int .i64 1000000000000]) (by kernel_rfl) (x := .bool t11) (fun γ w hs => (c_impl_within h12)) (sl' := [(10, .v (.bool t11)), (9, .v (.int .i64 x1)), (8, .v (.bool false)), (0, .v (.int .i64 x0)), (1, .v (.int .i64 x1))]) (by kernel_rfl) ?_
      refine JO_stepsK 2 [12, 0, 1] (sl' := [(12, .v (.bool (!t11))), (0, .v (.int .i64 x0)), (1, .v (.int .i64 x1))]) (bx' := []) (by kernel_rfl) ?_
      refine JO_end (by kernel_rfl) ?_
      obtain rfl := sI h13
      exact JE_meet () [0, 1, 12] [] 0 (by kernel_rfl) (by kernel_rfl) (by kernel_rfl) (by kernel_rfl)
  · skip
    refine JE_then ?_
    refine JC_cond p1 (by kernel_rfl) (fun b15 => ?_) (fun b15 => ?_)
    · have h16 := cT b15 h3
      refine JC_seq ?_
      refine JC_region ?_
      refine JO_stepsK 1 [4] (sl' := [(4, .v (.int .i64 0))]) (bx' := []) (by kernel_rfl) ?_
      refine JO_end (by kernel_rfl) ?_
      refine JE_then ?_
      refine JC_ret ?_
      refine JE_then_ret ?_
      refine JE_ret (vs := [.int .i64 0]) (by kernel_rfl) (fun γ w hs => ?_)
      rw [← sI h16]
      exact ⟨rfl, hs.kept.toBelow⟩
    · have h17 := cF b15 h3
      refine JC_skip ?_
      refine JE_then ?_
      refine JC_seq ?_
      refine JC_seq ?_
      refine JC_region ?_
      refine JO_stepsK 2 [14, 0, 1] (sl' := [(14, .v (.bool (x1 == 0))), (0, .v (.int .i64 x0)), (1, .v (.int .i64 x1))]) (bx' := []) (by kernel_rfl) ?_
      refine JO_end (by kernel_rfl) ?_
      refine JE_then ?_
      refine JC_cond (x1 == 0) (by kernel_rfl) (fun b18 => ?_) (fun b18 => ?_)
      · have h19 := cT b18 h17
        refine JC_seq ?_
        refine JC_region ?_
        refine JO_stepsK 1 [4] (sl' := [(4, .v (.int .i64 10000))]) (bx' := []) (by kernel_rfl) ?_
        refine JO_end (by kernel_rfl) ?_
        refine JE_then ?_
        refine JC_ret ?_
        refine JE_then_ret ?_
        refine JE_ret (vs := [.int .i64 10000]) (by kernel_rfl) (fun γ w hs => ?_)
        rw [← sI h19]
        exact ⟨rfl, hs.kept.toBelow⟩
      · have h20 := cF b18 h17
        refine JC_skip ?_
        refine JE_then ?_
        refine JC_seq ?_
        refine JC_region ?_
        refine JO_stepsK 3 [17, 16] (sl' := [(17, .v (.int .i64 x1)), (16, .v (.int .i64 (w64 (x0 * 1000))))]) (bx' := []) (by kernel_rfl) ?_
        obtain ⟨u23, hz22, h21⟩ := bS h20
        refine JO_div rfl (by kernel_rfl) (op := .quo) (k := .i64) (x := (w64 (x0 * 1000))) (y := x1) (by kernel_rfl) (nz_some hz22) (sl' := [(18, .v (.int .i64 (w64 (Int.tdiv (w64 (x0 * 1000)) x1)))), (17, .v (.int .i64 x1)), (16, .v (.int .i64 (w64 (x0 * 1000))))]) (by kernel_rfl) ?_
        refine JO_stepsK 2 [4] (sl' := [(4, .v (.int .i64 (imin 10000 (w64 (Int.tdiv (w64 (x0 * 1000)) x1)))))]) (bx' := []) (by kernel_rfl) ?_
        refine JO_end (by kernel_rfl) ?_
        refine JE_then ?_
        refine JC_ret ?_
        refine JE_ret (vs := [.int .i64 (imin 10000 (w64 (Int.tdiv (w64 (x0 * 1000)) x1)))]) (by kernel_rfl) (fun γ w hs => ?_)
        rw [← sI h21]
        exact ⟨rfl, hs.kept.toBelow⟩

theorem c_laws_FnExactCoverageOf {W : World} {x0 : Int} {x1 : Int} {r : Bool} (h : laws_FnExactCoverageOf x0 x1 = some r)  :
    Gives0 Try.prog 6 #[.int .i64 x0, .int .i64 x1] W (.bool r) := by
  unfold laws_FnExactCoverageOf at h
  refine enter (args := [.int .i64 x0, .int .i64 x1]) Try.func6 rfl Try.ntmps6 (by kernel_rfl) ?_
  refine JC_seq ?_
  refine JC_region ?_
  refine JO_stepsK 1 [0, 1] (sl' := [(0, .v (.int .i64 x0)), (1, .v (.int .i64 x1))]) (bx' := []) (by kernel_rfl) ?_
  refine JO_end (by kernel_rfl) ?_
  refine JE_then ?_
  refine JC_seq ?_
  refine JC_region ?_
  refine JO_stepsK 2 [8, 7, 0, 1] (sl' := [(8, .v (.int .i64 x1)), (7, .v (.int .i64 x0)), (0, .v (.int .i64 x0)), (1, .v (.int .i64 x1))]) (bx' := []) (by kernel_rfl) ?_
  obtain ⟨t1, h2, h3⟩ := bS h
  refine JO_call0 rfl (by kernel_rfl) (f := 15) (args := #[.int .i64 x0, .int .i64 x1]) (by kernel_rfl) (x := .int .i64 t1) (fun γ w hs => (c_spec_CoverageOf h2)) (sl' := [(9, .v (.int .i64 t1)), (8, .v (.int .i64 x1)), (7, .v (.int .i64 x0)), (0, .v (.int .i64 x0)), (1, .v (.int .i64 x1))]) (by kernel_rfl) ?_
  refine JO_stepsK 1 [5, 0, 1] (sl' := [(5, .v (.int .i64 t1)), (0, .v (.int .i64 x0)), (1, .v (.int .i64 x1))]) (bx' := []) (by kernel_rfl) ?_
  refine JO_end (by kernel_rfl) ?_
  refine JE_then ?_
  refine JC_seq ?_
  refine JC_region ?_
  refine JO_stepsK 2 [11, 10, 5] (sl' := [(11, .v (.int .i64 x1)), (10, .v (.int .i64 x0)), (5, .v (.int .i64 t1))]) (bx' := []) (by kernel_rfl) ?_
  obtain ⟨t5, h6, h7⟩ := bS h3
  refine JO_call0 rfl (by kernel_rfl) (f := 16) (args := #[.int .i64 x0, .int .i64 x1]) (by kernel_rfl) (x := .int .i64 t5) (fun γ w hs => (c_impl_CoverageOf h6)) (sl' := [(12, .v (.int .i64 t5)), (11, .v (.int .i64 x1)), (10, .v (.int .i64 x0)), (5, .v (.int .i64 t1))]) (by kernel_rfl) ?_
  refine JO_stepsK 1 [6, 5] (sl' := [(6, .v (.int .i64 t5)), (5, .v (.int .i64 t1))]) (bx' := []) (by kernel_rfl) ?_
  refine JO_end (by kernel_rfl) ?_
  refine JE_then ?_
  refine JC_seq ?_
  refine JC_seq ?_
  refine JC_region ?_
  refine JO_stepsK 3 [15] (sl' := [(15, .v (.bool (t5 != t1)))]) (bx' := []) (by kernel_rfl) ?_
  refine JO_end (by kernel_rfl) ?_
  refine JE_then ?_
  refine JC_cond (t5 != t1) (by kernel_rfl) (fun b9 => ?_) (fun b9 => ?_)
  · have h10 := cT b9 h7
    refine JC_seq ?_
    refine JC_region ?_
    refine JO_stepsK 1 [4] (sl' := [(4, .v (.bool false))]) (bx' := []) (by kernel_rfl) ?_
    refine JO_end (by kernel_rfl) ?_
    refine JE_then ?_
    refine JC_ret ?_
    refine JE_then_ret ?_
    refine JE_ret (vs := [.bool false]) (by kernel_rfl) (fun γ w hs => ?_)
    rw [← sI h10]
    exact ⟨rfl, hs.kept.toBelow⟩
  · have h11 := cF b9 h7
    refine JC_skip ?_
    refine JE_then ?_
    refine JC_seq ?_
    refine JC_region ?_
    refine JO_stepsK 1 [4] (sl' := [(4, .v (.bool true))]) (bx' := []) (by kernel_rfl) ?_
    refine JO_end (by kernel_rfl) ?_
    refine JE_then ?_
    refine JC_ret ?_
    refine JE_ret (vs := [.bool true]) (by kernel_rfl) (fun γ w hs => ?_)
    rw [← sI h11]
    exact ⟨rfl, hs.kept.toBelow⟩

theorem c_laws_toFact {W : World} {x0 : Fact} {r : Fact} (h : laws_toFact x0 = some r)  :
    Gives0 Try.prog 26 #[.agg #[.int .i64 x0.Key, .int .i64 x0.From, .int .i64 x0.To, .int .i64 x0.Known, .int .i64 x0.Value]] W (.agg #[.int .i64 r.Key, .int .i64 r.From, .int .i64 r.To, .int .i64 r.Known, .int .i64 r.Value]) := by
  unfold laws_toFact at h
  refine enter (args := [.agg #[.int .i64 x0.Key, .int .i64 x0.From, .int .i64 x0.To, .int .i64 x0.Known, .int .i64 x0.Value]]) Try.func26 rfl Try.ntmps26 (by kernel_rfl) ?_
  refine JC_seq ?_
  refine JC_region ?_
  refine JO_stepsK 2 [2, 1] (sl' := [(2, .p 1 0), (1, .p 0 0)]) (bx' := [(27, [.int .i64 x0.Key, .int .i64 x0.From, .int .i64 x0.To, .int .i64 x0.Known, .int .i64 x0.Value]), (33, [.int .i64 0, .int .i64 0, .int .i64 0, .int .i64 0, .int .i64 0])]) (by kernel_rfl) ?_
  refine JO_end (by kernel_rfl) ?_
  refine JE_then ?_
  refine JC_seq ?_
  refine JC_region ?_
  refine JO_stepsK 1 [3, 2, 1] (sl' := [(3, .p 2 0), (2, .p 1 0), (1, .p 0 0)]) (bx' := [(27, [.int .i64 x0.Key, .int .i64 x0.From, .int .i64 x0.To, .int .i64 x0.Known, .int .i64 x0.Value]), (33, [.int .i64 0, .int .i64 0, .int .i64 0, .int .i64 0, .int .i64 0]), (33, [.int .i64 0, .int .i64 0, .int .i64 0, .int .i64 0, .int .i64 0])]) (by kernel_rfl) ?_
  refine JO_end (by kernel_rfl) ?_
  refine JE_then ?_
  refine JC_seq ?_
  refine JC_region ?_
  refine JO_stepsK 4 [3, 2, 1] (sl' := [(3, .p 2 0), (2, .p 1 0), (1, .p 0 0)]) (bx' := [(27, [.int .i64 x0.Key, .int .i64 x0.From, .int .i64 x0.To, .int .i64 x0.Known, .int .i64 x0.Value]), (33, [.int .i64 0, .int .i64 0, .int .i64 0, .int .i64 0, .int .i64 0]), (33, [.int .i64 x0.Key, .int .i64 0, .int .i64 0, .int .i64 0, .int .i64 0])]) (by kernel_rfl) ?_
  refine JO_end (by kernel_rfl) ?_
  refine JE_then ?_
  refine JC_seq ?_
  refine JC_region ?_
  refine JO_stepsK 4 [3, 2, 1] (sl' := [(3, .p 2 0), (2, .p 1 0), (1, .p 0 0)]) (bx' := [(27, [.int .i64 x0.Key, .int .i64 x0.From, .int .i64 x0.To, .int .i64 x0.Known, .int .i64 x0.Value]), (33, [.int .i64 0, .int .i64 0, .int .i64 0, .int .i64 0, .int .i64 0]), (33, [.int .i64 x0.Key, .int .i64 x0.From, .int .i64 0, .int .i64 0, .int .i64 0])]) (by kernel_rfl) ?_
  refine JO_end (by kernel_rfl) ?_
  refine JE_then ?_
  refine JC_seq ?_
  refine JC_region ?_
  refine JO_stepsK 4 [3, 2, 1] (sl' := [(3, .p 2 0), (2, .p 1 0), (1, .p 0 0)]) (bx' := [(27, [.int .i64 x0.Key, .int .i64 x0.From, .int .i64 x0.To, .int .i64 x0.Known, .int .i64 x0.Value]), (33, [.int .i64 0, .int .i64 0, .int .i64 0, .int .i64 0, .int .i64 0]), (33, [.int .i64 x0.Key, .int .i64 x0.From, .int .i64 x0.To, .int .i64 0, .int .i64 0])]) (by kernel_rfl) ?_
  refine JO_end (by kernel_rfl) ?_
  refine JE_then ?_
  refine JC_seq ?_
  refine JC_region ?_
  refine JO_stepsK 4 [3, 2, 1] (sl' := [(3, .p 2 0), (2, .p 1 0), (1, .p 0 0)]) (bx' := [(27, [.int .i64 x0.Key, .int .i64 x0.From, .int .i64 x0.To, .int .i64 x0.Known, .int .i64 x0.Value]), (33, [.int .i64 0, .int .i64 0, .int .i64 0, .int .i64 0, .int .i64 0]), (33, [.int .i64 x0.Key, .int .i64 x0.From, .int .i64 x0.To, .int .i64 x0.Known, .int .i64 0])]) (by kernel_rfl) ?_
  refine JO_end (by kernel_rfl) ?_
  refine JE_then ?_
  refine JC_seq ?_
  refine JC_region ?_
  refine JO_stepsK 4 [3, 2] (sl' := [(3, .p 2 0), (2, .p 1 0)]) (bx' := [(27, [.int .i64 x0.Key, .int .i64 x0.From, .int .i64 x0.To, .int .i64 x0.Known, .int .i64 x0.Value]), (33, [.int .i64 0, .int .i64 0, .int .i64 0, .int .i64 0, .int .i64 0]), (33, [.int .i64 x0.Key, .int .i64 x0.From, .int .i64 x0.To, .int .i64 x0.Known, .int .i64 x0.Value])]) (by kernel_rfl) ?_
  refine JO_end (by kernel_rfl) ?_
  refine JE_then ?_
  refine JC_seq ?_
  refine JC_region ?_
  refine JO_stepsK 2 [2] (sl' := [(2, .p 1 0)]) (bx' := [(27, [.int .i64 x0.Key, .int .i64 x0.From, .int .i64 x0.To, .int .i64 x0.Known, .int .i64 x0.Value]), (33, [.int .i64 x0.Key, .int .i64 x0.From, .int .i64 x0.To, .int .i64 x0.Known, .int .i64 x0.Value]), (33, [.int .i64 x0.Key, .int .i64 x0.From, .int .i64 x0.To, .int .i64 x0.Known, .int .i64 x0.Value])]) (by kernel_rfl) ?_
  refine JO_end (by kernel_rfl) ?_
  refine JE_then ?_
  refine JC_ret ?_
  refine JE_ret (vs := [.agg #[.int .i64 x0.Key, .int .i64 x0.From, .int .i64 x0.To, .int .i64 x0.Known, .int .i64 x0.Value]]) (by kernel_rfl) (fun γ w hs => ?_)
  rw [← sI h]
  exact ⟨rfl, hs.kept.toBelow⟩

theorem c_laws_toPoint {W : World} {x0 : Point} {r : Point} (h : laws_toPoint x0 = some r)  :
    Gives0 Try.prog 27 #[.agg #[.int .i64 x0.Month, .int .i64 x0.Known, .int .i64 x0.Value]] W (.agg #[.int .i64 r.Month, .int .i64 r.Known, .int .i64 r.Value]) := by
  unfold laws_toPoint at h
  refine enter (args := [.agg #[.int .i64 x0.Month, .int .i64 x0.Known, .int .i64 x0.Value]]) Try.func27 rfl Try.ntmps27 (by kernel_rfl) ?_
  refine JC_seq ?_
  refine JC_region ?_
  refine JO_stepsK 2 [2, 1] (sl' := [(2, .p 1 0), (1, .p 0 0)]) (bx' := [(29, [.int .i64 x0.Month, .int .i64 x0.Known, .int .i64 x0.Value]), (34, [.int .i64 0, .int .i64 0, .int .i64 0])]) (by kernel_rfl) ?_
  refine JO_end (by kernel_rfl) ?_
  refine JE_then ?_
  refine JC_seq ?_
  refine JC_region ?_
  refine JO_stepsK 1 [3, 2, 1] (sl' := [(3, .p 2 0), (2, .p 1 0), (1, .p 0 0)]) (bx' := [(29, [.int .i64 x0.Month, .int .i64 x0.Known, .int .i64 x0.Value]), (34, [.int .i64 0, .int .i64 0, .int .i64 0]), (34, [.int .i64 0, .int .i64 0, .int .i64 0])]) (by kernel_rfl) ?_
  refine JO_end (by kernel_rfl) ?_
  refine JE_then ?_
  refine JC_seq ?_
  refine JC_region ?_
  refine JO_stepsK 4 [3, 2, 1] (sl' := [(3, .p 2 0), (2, .p 1 0), (1, .p 0 0)]) (bx' := [(29, [.int .i64 x0.Month, .int .i64 x0.Known, .int .i64 x0.Value]), (34, [.int .i64 0, .int .i64 0, .int .i64 0]), (34, [.int .i64 x0.Month, .int .i64 0, .int .i64 0])]) (by kernel_rfl) ?_
  refine JO_end (by kernel_rfl) ?_
  refine JE_then ?_
  refine JC_seq ?_
  refine JC_region ?_
  refine JO_stepsK 4 [3, 2, 1] (sl' := [(3, .p 2 0), (2, .p 1 0), (1, .p 0 0)]) (bx' := [(29, [.int .i64 x0.Month, .int .i64 x0.Known, .int .i64 x0.Value]), (34, [.int .i64 0, .int .i64 0, .int .i64 0]), (34, [.int .i64 x0.Month, .int .i64 x0.Known, .int .i64 0])]) (by kernel_rfl) ?_
  refine JO_end (by kernel_rfl) ?_
  refine JE_then ?_
  refine JC_seq ?_
  refine JC_region ?_
  refine JO_stepsK 4 [3, 2] (sl' := [(3, .p 2 0), (2, .p 1 0)]) (bx' := [(29, [.int .i64 x0.Month, .int .i64 x0.Known, .int .i64 x0.Value]), (34, [.int .i64 0, .int .i64 0, .int .i64 0]), (34, [.int .i64 x0.Month, .int .i64 x0.Known, .int .i64 x0.Value])]) (by kernel_rfl) ?_
  refine JO_end (by kernel_rfl) ?_
  refine JE_then ?_
  refine JC_seq ?_
  refine JC_region ?_
  refine JO_stepsK 2 [2] (sl' := [(2, .p 1 0)]) (bx' := [(29, [.int .i64 x0.Month, .int .i64 x0.Known, .int .i64 x0.Value]), (34, [.int .i64 x0.Month, .int .i64 x0.Known, .int .i64 x0.Value]), (34, [.int .i64 x0.Month, .int .i64 x0.Known, .int .i64 x0.Value])]) (by kernel_rfl) ?_
  refine JO_end (by kernel_rfl) ?_
  refine JE_then ?_
  refine JC_ret ?_
  refine JE_ret (vs := [.agg #[.int .i64 x0.Month, .int .i64 x0.Known, .int .i64 x0.Value]]) (by kernel_rfl) (fun γ w hs => ?_)
  rw [← sI h]
  exact ⟨rfl, hs.kept.toBelow⟩

theorem c_laws_toAct {W : World} {x0 : Act} {r : Act} (h : laws_toAct x0 = some r)  :
    Gives0 Try.prog 18 #[.agg #[.int .i64 x0.Kind, .int .i64 x0.Fact.Key, .int .i64 x0.Fact.From, .int .i64 x0.Fact.To, .int .i64 x0.Fact.Known, .int .i64 x0.Fact.Value, .int .i64 x0.Point.Month, .int .i64 x0.Point.Known, .int .i64 x0.Point.Value, .int .i64 x0.N]] W (.agg #[.int .i64 r.Kind, .int .i64 r.Fact.Key, .int .i64 r.Fact.From, .int .i64 r.Fact.To, .int .i64 r.Fact.Known, .int .i64 r.Fact.Value, .int .i64 r.Point.Month, .int .i64 r.Point.Known, .int .i64 r.Point.Value, .int .i64 r.N]) := by
  unfold laws_toAct at h
  refine enter (args := [.agg #[.int .i64 x0.Kind, .int .i64 x0.Fact.Key, .int .i64 x0.Fact.From, .int .i64 x0.Fact.To, .int .i64 x0.Fact.Known, .int .i64 x0.Fact.Value, .int .i64 x0.Point.Month, .int .i64 x0.Point.Known, .int .i64 x0.Point.Value, .int .i64 x0.N]]) Try.func18 rfl Try.ntmps18 (by kernel_rfl) ?_
  refine JC_seq ?_
  refine JC_region ?_
  refine JO_stepsK 2 [2, 1] (sl' := [(2, .p 1 0), (1, .p 0 0)]) (bx' := [(31, [.int .i64 x0.Kind, .int .i64 x0.Fact.Key, .int .i64 x0.Fact.From, .int .i64 x0.Fact.To, .int .i64 x0.Fact.Known, .int .i64 x0.Fact.Value, .int .i64 x0.Point.Month, .int .i64 x0.Point.Known, .int .i64 x0.Point.Value, .int .i64 x0.N]), (36, [.int .i64 0, .int .i64 0, .int .i64 0, .int .i64 0, .int .i64 0, .int .i64 0, .int .i64 0, .int .i64 0, .int .i64 0, .int .i64 0])]) (by kernel_rfl) ?_
  refine JO_end (by kernel_rfl) ?_
  refine JE_then ?_
  refine JC_seq ?_
  refine JC_region ?_
  refine JO_stepsK 1 [3, 2, 1] (sl' := [(3, .p 2 0), (2, .p 1 0), (1, .p 0 0)]) (bx' := [(31, [.int .i64 x0.Kind, .int .i64 x0.Fact.Key, .int .i64 x0.Fact.From, .int .i64 x0.Fact.To, .int .i64 x0.Fact.Known, .int .i64 x0.Fact.Value, .int .i64 x0.Point.Month, .int .i64 x0.Point.Known, .int .i64 x0.Point.Value, .int .i64 x0.N]), (36, [.int .i64 0, .int .i64 0, .int .i64 0, .int .i64 0, .int .i64 0, .int .i64 0, .int .i64 0, .int .i64 0, .int .i64 0, .int .i64 0]), (36, [.int .i64 0, .int .i64 0, .int .i64 0, .int .i64 0, .int .i64 0, .int .i64 0, .int .i64 0, .int .i64 0, .int .i64 0, .int .i64 0])]) (by kernel_rfl) ?_
  refine JO_end (by kernel_rfl) ?_
  refine JE_then ?_
  refine JC_seq ?_
  refine JC_region ?_
  refine JO_stepsK 4 [3, 2, 1] (sl' := [(3, .p 2 0), (2, .p 1 0), (1, .p 0 0)]) (bx' := [(31, [.int .i64 x0.Kind, .int .i64 x0.Fact.Key, .int .i64 x0.Fact.From, .int .i64 x0.Fact.To, .int .i64 x0.Fact.Known, .int .i64 x0.Fact.Value, .int .i64 x0.Point.Month, .int .i64 x0.Point.Known, .int .i64 x0.Point.Value, .int .i64 x0.N]), (36, [.int .i64 0, .int .i64 0, .int .i64 0, .int .i64 0, .int .i64 0, .int .i64 0, .int .i64 0, .int .i64 0, .int .i64 0, .int .i64 0]), (36, [.int .i64 x0.Kind, .int .i64 0, .int .i64 0, .int .i64 0, .int .i64 0, .int .i64 0, .int .i64 0, .int .i64 0, .int .i64 0, .int .i64 0])]) (by kernel_rfl) ?_
  refine JO_end (by kernel_rfl) ?_
  refine JE_then ?_
  refine JC_seq ?_
  refine JC_region ?_
  refine JO_stepsK 2 [8, 3, 2, 1] (sl' := [(8, .v (.agg #[.int .i64 x0.Fact.Key, .int .i64 x0.Fact.From, .int .i64 x0.Fact.To, .int .i64 x0.Fact.Known, .int .i64 x0.Fact.Value])), (3, .p 2 0), (2, .p 1 0), (1, .p 0 0)]) (bx' := [(31, [.int .i64 x0.Kind, .int .i64 x0.Fact.Key, .int .i64 x0.Fact.From, .int .i64 x0.Fact.To, .int .i64 x0.Fact.Known, .int .i64 x0.Fact.Value, .int .i64 x0.Point.Month, .int .i64 x0.Point.Known, .int .i64 x0.Point.Value, .int .i64 x0.N]), (36, [.int .i64 0, .int .i64 0, .int .i64 0, .int .i64 0, .int .i64 0, .int .i64 0, .int .i64 0, .int .i64 0, .int .i64 0, .int .i64 0]), (36, [.int .i64 x0.Kind, .int .i64 0, .int .i64 0, .int .i64 0, .int .i64 0, .int .i64 0, .int .i64 0, .int .i64 0, .int .i64 0, .int .i64 0])]) (by kernel_rfl) ?_
  obtain ⟨t1, h2, h3⟩ := bS h
  refine JO_call0 rfl (by kernel_rfl) (f := 26) (args := #[.agg #[.int .i64 x0.Fact.Key, .int .i64 x0.Fact.From, .int .i64 x0.Fact.To, .int .i64 x0.Fact.Known, .int .i64 x0.Fact.Value]]) (by kernel_rfl) (x := .agg #[.int .i64 t1.Key, .int .i64 t1.From, .int .i64 t1.To, .int .i64 t1.Known, .int .i64 t1.Value]) (fun γ w hs => (c_laws_toFact h2)) (sl' := [(9, .v (.agg #[.int .i64 t1.Key, .int .i64 t1.From, .int .i64 t1.To, .int .i64 t1.Known, .int .i64 t1.Value])), (8, .v (.agg #[.int .i64 x0.Fact.Key, .int .i64 x0.Fact.From, .int .i64 x0.Fact.To, .int .i64 x0.Fact.Known, .int .i64 x0.Fact.Value])), (3, .p 2 0), (2, .p 1 0), (1, .p 0 0)]) (by kernel_rfl) ?_
  refine JO_stepsK 2 [3, 2, 1] (sl' := [(3, .p 2 0), (2, .p 1 0), (1, .p 0 0)]) (bx' := [(31, [.int .i64 x0.Kind, .int .i64 x0.Fact.Key, .int .i64 x0.Fact.From, .int .i64 x0.Fact.To, .int .i64 x0.Fact.Known, .int .i64 x0.Fact.Value, .int .i64 x0.Point.Month, .int .i64 x0.Point.Known, .int .i64 x0.Point.Value, .int .i64 x0.N]), (36, [.int .i64 0, .int .i64 0, .int .i64 0, .int .i64 0, .int .i64 0, .int .i64 0, .int .i64 0, .int .i64 0, .int .i64 0, .int .i64 0]), (36, [.int .i64 x0.Kind, .int .i64 t1.Key, .int .i64 t1.From, .int .i64 t1.To, .int .i64 t1.Known, .int .i64 t1.Value, .int .i64 0, .int .i64 0, .int .i64 0, .int .i64 0])]) (by kernel_rfl) ?_
  refine JO_end (by kernel_rfl) ?_
  refine JE_then ?_
  refine JC_seq ?_
  refine JC_region ?_
  refine JO_stepsK 2 [12, 3, 2, 1] (sl' := [(12, .v (.agg #[.int .i64 x0.Point.Month, .int .i64 x0.Point.Known, .int .i64 x0.Point.Value])), (3, .p 2 0), (2, .p 1 0), (1, .p 0 0)]) (bx' := [(31, [.int .i64 x0.Kind, .int .i64 x0.Fact.Key, .int .i64 x0.Fact.From, .int .i64 x0.Fact.To, .int .i64 x0.Fact.Known, .int .i64 x0.Fact.Value, .int .i64 x0.Point.Month, .int .i64 x0.Point.Known, .int .i64 x0.Point.Value, .int .i64 x0.N]), (36, [.int .i64 0, .int .i64 0, .int .i64 0, .int .i64 0, .int .i64 0, .int .i64 0, .int .i64 0, .int .i64 0, .int .i64 0, .int .i64 0]), (36, [.int .i64 x0.Kind, .int .i64 t1.Key, .int .i64 t1.From, .int .i64 t1.To, .int .i64 t1.Known, .int .i64 t1.Value, .int .i64 0, .int .i64 0, .int .i64 0, .int .i64 0])]) (by kernel_rfl) ?_
  obtain ⟨t5, h6, h7⟩ := bS h3
  refine JO_call0 rfl (by kernel_rfl) (f := 27) (args := #[.agg #[.int .i64 x0.Point.Month, .int .i64 x0.Point.Known, .int .i64 x0.Point.Value]]) (by kernel_rfl) (x := .agg #[.int .i64 t5.Month, .int .i64 t5.Known, .int .i64 t5.Value]) (fun γ w hs => (c_laws_toPoint h6)) (sl' := [(13, .v (.agg #[.int .i64 t5.Month, .int .i64 t5.Known, .int .i64 t5.Value])), (12, .v (.agg #[.int .i64 x0.Point.Month, .int .i64 x0.Point.Known, .int .i64 x0.Point.Value])), (3, .p 2 0), (2, .p 1 0), (1, .p 0 0)]) (by kernel_rfl) ?_
  refine JO_stepsK 2 [3, 2, 1] (sl' := [(3, .p 2 0), (2, .p 1 0), (1, .p 0 0)]) (bx' := [(31, [.int .i64 x0.Kind, .int .i64 x0.Fact.Key, .int .i64 x0.Fact.From, .int .i64 x0.Fact.To, .int .i64 x0.Fact.Known, .int .i64 x0.Fact.Value, .int .i64 x0.Point.Month, .int .i64 x0.Point.Known, .int .i64 x0.Point.Value, .int .i64 x0.N]), (36, [.int .i64 0, .int .i64 0, .int .i64 0, .int .i64 0, .int .i64 0, .int .i64 0, .int .i64 0, .int .i64 0, .int .i64 0, .int .i64 0]), (36, [.int .i64 x0.Kind, .int .i64 t1.Key, .int .i64 t1.From, .int .i64 t1.To, .int .i64 t1.Known, .int .i64 t1.Value, .int .i64 t5.Month, .int .i64 t5.Known, .int .i64 t5.Value, .int .i64 0])]) (by kernel_rfl) ?_
  refine JO_end (by kernel_rfl) ?_
  refine JE_then ?_
  refine JC_seq ?_
  refine JC_region ?_
  refine JO_stepsK 4 [3, 2] (sl' := [(3, .p 2 0), (2, .p 1 0)]) (bx' := [(31, [.int .i64 x0.Kind, .int .i64 x0.Fact.Key, .int .i64 x0.Fact.From, .int .i64 x0.Fact.To, .int .i64 x0.Fact.Known, .int .i64 x0.Fact.Value, .int .i64 x0.Point.Month, .int .i64 x0.Point.Known, .int .i64 x0.Point.Value, .int .i64 x0.N]), (36, [.int .i64 0, .int .i64 0, .int .i64 0, .int .i64 0, .int .i64 0, .int .i64 0, .int .i64 0, .int .i64 0, .int .i64 0, .int .i64 0]), (36, [.int .i64 x0.Kind, .int .i64 t1.Key, .int .i64 t1.From, .int .i64 t1.To, .int .i64 t1.Known, .int .i64 t1.Value, .int .i64 t5.Month, .int .i64 t5.Known, .int .i64 t5.Value, .int .i64 x0.N])]) (by kernel_rfl) ?_
  refine JO_end (by kernel_rfl) ?_
  refine JE_then ?_
  refine JC_seq ?_
  refine JC_region ?_
  refine JO_stepsK 2 [2] (sl' := [(2, .p 1 0)]) (bx' := [(31, [.int .i64 x0.Kind, .int .i64 x0.Fact.Key, .int .i64 x0.Fact.From, .int .i64 x0.Fact.To, .int .i64 x0.Fact.Known, .int .i64 x0.Fact.Value, .int .i64 x0.Point.Month, .int .i64 x0.Point.Known, .int .i64 x0.Point.Value, .int .i64 x0.N]), (36, [.int .i64 x0.Kind, .int .i64 t1.Key, .int .i64 t1.From, .int .i64 t1.To, .int .i64 t1.Known, .int .i64 t1.Value, .int .i64 t5.Month, .int .i64 t5.Known, .int .i64 t5.Value, .int .i64 x0.N]), (36, [.int .i64 x0.Kind, .int .i64 t1.Key, .int .i64 t1.From, .int .i64 t1.To, .int .i64 t1.Known, .int .i64 t1.Value, .int .i64 t5.Month, .int .i64 t5.Known, .int .i64 t5.Value, .int .i64 x0.N])]) (by kernel_rfl) ?_
  refine JO_end (by kernel_rfl) ?_
  refine JE_then ?_
  refine JC_ret ?_
  refine JE_ret (vs := [.agg #[.int .i64 x0.Kind, .int .i64 t1.Key, .int .i64 t1.From, .int .i64 t1.To, .int .i64 t1.Known, .int .i64 t1.Value, .int .i64 t5.Month, .int .i64 t5.Known, .int .i64 t5.Value, .int .i64 x0.N]]) (by kernel_rfl) (fun γ w hs => ?_)
  rw [← sI h7]
  exact ⟨rfl, hs.kept.toBelow⟩

theorem c_spec_l38Plain {W : World} {x0 : Act} {r : Act} (h : spec_l38Plain x0 = some r)  :
    Gives0 Try.prog 25 #[.agg #[.int .i64 x0.Kind, .int .i64 x0.Fact.Key, .int .i64 x0.Fact.From, .int .i64 x0.Fact.To, .int .i64 x0.Fact.Known, .int .i64 x0.Fact.Value, .int .i64 x0.Point.Month, .int .i64 x0.Point.Known, .int .i64 x0.Point.Value, .int .i64 x0.N]] W (.agg #[.int .i64 r.Kind, .int .i64 r.Fact.Key, .int .i64 r.Fact.From, .int .i64 r.Fact.To, .int .i64 r.Fact.Known, .int .i64 r.Fact.Value, .int .i64 r.Point.Month, .int .i64 r.Point.Known, .int .i64 r.Point.Value, .int .i64 r.N]) := by
  unfold spec_l38Plain at h
  refine enter (args := [.agg #[.int .i64 x0.Kind, .int .i64 x0.Fact.Key, .int .i64 x0.Fact.From, .int .i64 x0.Fact.To, .int .i64 x0.Fact.Known, .int .i64 x0.Fact.Value, .int .i64 x0.Point.Month, .int .i64 x0.Point.Known, .int .i64 x0.Point.Value, .int .i64 x0.N]]) Try.func25 rfl Try.ntmps25 (by kernel_rfl) ?_
  refine JC_seq ?_
  refine JC_region ?_
  refine JO_stepsK 2 [2, 1] (sl' := [(2, .p 1 0), (1, .p 0 0)]) (bx' := [(36, [.int .i64 x0.Kind, .int .i64 x0.Fact.Key, .int .i64 x0.Fact.From, .int .i64 x0.Fact.To, .int .i64 x0.Fact.Known, .int .i64 x0.Fact.Value, .int .i64 x0.Point.Month, .int .i64 x0.Point.Known, .int .i64 x0.Point.Value, .int .i64 x0.N]), (36, [.int .i64 0, .int .i64 0, .int .i64 0, .int .i64 0, .int .i64 0, .int .i64 0, .int .i64 0, .int .i64 0, .int .i64 0, .int .i64 0])]) (by kernel_rfl) ?_
  refine JO_end (by kernel_rfl) ?_
  refine JE_then ?_
  refine JC_seq ?_
  refine JC_region ?_
  refine JO_stepsK 5 [3, 2, 1] (sl' := [(3, .p 2 0), (2, .p 1 0), (1, .p 0 0)]) (bx' := [(36, [.int .i64 x0.Kind, .int .i64 x0.Fact.Key, .int .i64 x0.Fact.From, .int .i64 x0.Fact.To, .int .i64 x0.Fact.Known, .int .i64 x0.Fact.Value, .int .i64 x0.Point.Month, .int .i64 x0.Point.Known, .int .i64 x0.Point.Value, .int .i64 x0.N]), (36, [.int .i64 0, .int .i64 0, .int .i64 0, .int .i64 0, .int .i64 0, .int .i64 0, .int .i64 0, .int .i64 0, .int .i64 0, .int .i64 0]), (36, [.int .i64 x0.Kind, .int .i64 0, .int .i64 0, .int .i64 0, .int .i64 0, .int .i64 0, .int .i64 0, .int .i64 0, .int .i64 0, .int .i64 0])]) (by kernel_rfl) ?_
  refine JO_end (by kernel_rfl) ?_
  refine JE_then ?_
  refine JC_seq ?_
  refine JC_seq ?_
  refine JC_region ?_
  refine JO_stepsK 2 [8, 3, 2, 1] (sl' := [(8, .v (.int .i64 x0.Kind)), (3, .p 2 0), (2, .p 1 0), (1, .p 0 0)]) (bx' := [(36, [.int .i64 x0.Kind, .int .i64 x0.Fact.Key, .int .i64 x0.Fact.From, .int .i64 x0.Fact.To, .int .i64 x0.Fact.Known, .int .i64 x0.Fact.Value, .int .i64 x0.Point.Month, .int .i64 x0.Point.Known, .int .i64 x0.Point.Value, .int .i64 x0.N]), (36, [.int .i64 0, .int .i64 0, .int .i64 0, .int .i64 0, .int .i64 0, .int .i64 0, .int .i64 0, .int .i64 0, .int .i64 0, .int .i64 0]), (36, [.int .i64 x0.Kind, .int .i64 0, .int .i64 0, .int .i64 0, .int .i64 0, .int .i64 0, .int .i64 0, .int .i64 0, .int .i64 0, .int .i64 0])]) (by kernel_rfl) ?_
  refine JO_end (by kernel_rfl) ?_
  refine JE_then ?_
  refine JC_block ?_
  refine JC_seq ?_
  refine JC_region ?_
  refine JO_stepsK 2 [9, 8, 3, 2, 1] (sl' := [(9, .v (.bool (x0.Kind == 1))), (8, .v (.int .i64 x0.Kind)), (3, .p 2 0), (2, .p 1 0), (1, .p 0 0)]) (bx' := [(36, [.int .i64 x0.Kind, .int .i64 x0.Fact.Key, .int .i64 x0.Fact.From, .int .i64 x0.Fact.To, .int .i64 x0.Fact.Known, .int .i64 x0.Fact.Value, .int .i64 x0.Point.Month, .int .i64 x0.Point.Known, .int .i64 x0.Point.Value, .int .i64 x0.N]), (36, [.int .i64 0, .int .i64 0, .int .i64 0, .int .i64 0, .int .i64 0, .int .i64 0, .int .i64 0, .int .i64 0, .int .i64 0, .int .i64 0]), (36, [.int .i64 x0.Kind, .int .i64 0, .int .i64 0, .int .i64 0, .int .i64 0, .int .i64 0, .int .i64 0, .int .i64 0, .int .i64 0, .int .i64 0])]) (by kernel_rfl) ?_
  refine JO_end (by kernel_rfl) ?_
  refine JE_then ?_
  obtain ⟨k4, hk5, h7⟩ := jS h
  refine JC_cutP (τ := (Int × Int × Int × Int × Int × Int × Int × Int × Int) × (Unit)) (fun y => k4 y.1 = some r) (fun y3 => [(3, .p 2 0), (2, .p 1 0)]) (fun y3 => [(36, [.int .i64 x0.Kind, .int .i64 x0.Fact.Key, .int .i64 x0.Fact.From, .int .i64 x0.Fact.To, .int .i64 x0.Fact.Known, .int .i64 x0.Fact.Value, .int .i64 x0.Point.Month, .int .i64 x0.Point.Known, .int .i64 x0.Point.Value, .int .i64 x0.N]), (36, [.int .i64 0, .int .i64 0, .int .i64 0, .int .i64 0, .int .i64 0, .int .i64 0, .int .i64 0, .int .i64 0, .int .i64 0, .int .i64 0]), (36, [.int .i64 x0.Kind, .int .i64 y3.1.1, .int .i64 y3.1.2.1, .int .i64 y3.1.2.2.1, .int .i64 y3.1.2.2.2.1, .int .i64 y3.1.2.2.2.2.1, .int .i64 y3.1.2.2.2.2.2.1, .int .i64 y3.1.2.2.2.2.2.2.1, .int .i64 y3.1.2.2.2.2.2.2.2.1, .int .i64 y3.1.2.2.2.2.2.2.2.2])]) (fun y3 => []) ?_ (fun y3 h6p => ?_)
  · refine JC_cond (x0.Kind == 1) (by kernel_rfl) (fun b8 => ?_) (fun b8 => ?_)
    · have h9 := cT b8 h7
      refine JC_region ?_
      refine JO_stepsK 4 [3, 2] (sl' := [(3, .p 2 0), (2, .p 1 0)]) (bx' := [(36, [.int .i64 x0.Kind, .int .i64 x0.Fact.Key, .int .i64 x0.Fact.From, .int .i64 x0.Fact.To, .int .i64 x0.Fact.Known, .int .i64 x0.Fact.Value, .int .i64 x0.Point.Month, .int .i64 x0.Point.Known, .int .i64 x0.Point.Value, .int .i64 x0.N]), (36, [.int .i64 0, .int .i64 0, .int .i64 0, .int .i64 0, .int .i64 0, .int .i64 0, .int .i64 0, .int .i64 0, .int .i64 0, .int .i64 0]), (36, [.int .i64 x0.Kind, .int .i64 x0.Fact.Key, .int .i64 x0.Fact.From, .int .i64 x0.Fact.To, .int .i64 x0.Fact.Known, .int .i64 x0.Fact.Value, .int .i64 0, .int .i64 0, .int .i64 0, .int .i64 0])]) (by kernel_rfl) ?_
      refine JO_end (by kernel_rfl) ?_
      exact JE_meetP ((x0.Fact.Key, x0.Fact.From, x0.Fact.To, x0.Fact.Known, x0.Fact.Value, 0, 0, 0, 0), ()) h9 [3, 2] [] 3 (by kernel_rfl) (by kernel_rfl) (by kernel_rfl) (by kernel_rfl)
    · have h10 := cF b8 h7
      refine JC_seq ?_
      refine JC_region ?_
      refine JO_stepsK 2 [14, 8, 3, 2, 1] (sl' := [(14, .v (.bool (x0.Kind == 2))), (8, .v (.int .i64 x0.Kind)), (3, .p 2 0), (2, .p 1 0), (1, .p 0 0)]) (bx' := [(36, [.int .i64 x0.Kind, .int .i64 x0.Fact.Key, .int .i64 x0.Fact.From, .int .i64 x0.Fact.To, .int .i64 x0.Fact.Known, .int .i64 x0.Fact.Value, .int .i64 x0.Point.Month, .int .i64 x0.Point.Known, .int .i64 x0.Point.Value, .int .i64 x0.N]), (36, [.int .i64 0, .int .i64 0, .int .i64 0, .int .i64 0, .int .i64 0, .int .i64 0, .int .i64 0, .int .i64 0, .int .i64 0, .int .i64 0]), (36, [.int .i64 x0.Kind, .int .i64 0, .int .i64 0, .int .i64 0, .int .i64 0, .int .i64 0, .int .i64 0, .int .i64 0, .int .i64 0, .int .i64 0])]) (by kernel_rfl) ?_
      refine JO_end (by kernel_rfl) ?_
      refine JE_then ?_
      refine JC_cond (x0.Kind == 2) (by kernel_rfl) (fun b11 => ?_) (fun b11 => ?_)
      · have h12 := cT b11 h10
        refine JC_region ?_
        refine JO_stepsK 4 [3, 2] (sl' := [(3, .p 2 0), (2, .p 1 0)]) (bx' := [(36, [.int .i64 x0.Kind, .int .i64 x0.Fact.Key, .int .i64 x0.Fact.From, .int .i64 x0.Fact.To, .int .i64 x0.Fact.Known, .int .i64 x0.Fact.Value, .int .i64 x0.Point.Month, .int .i64 x0.Point.Known, .int .i64 x0.Point.Value, .int .i64 x0.N]), (36, [.int .i64 0, .int .i64 0, .int .i64 0, .int .i64 0, .int .i64 0, .int .i64 0, .int .i64 0, .int .i64 0, .int .i64 0, .int .i64 0]), (36, [.int .i64 x0.Kind, .int .i64 0, .int .i64 0, .int .i64 0, .int .i64 0, .int .i64 0, .int .i64 x0.Point.Month, .int .i64 x0.Point.Known, .int .i64 x0.Point.Value, .int .i64 0])]) (by kernel_rfl) ?_
        refine JO_end (by kernel_rfl) ?_
        exact JE_meetP ((0, 0, 0, 0, 0, x0.Point.Month, x0.Point.Known, x0.Point.Value, 0), ()) h12 [3, 2] [] 3 (by kernel_rfl) (by kernel_rfl) (by kernel_rfl) (by kernel_rfl)
      · have h13 := cF b11 h10
        refine JC_seq ?_
        refine JC_region ?_
        refine JO_stepsK 2 [19, 3, 2, 1] (sl' := [(19, .v (.bool (x0.Kind == 3))), (3, .p 2 0), (2, .p 1 0), (1, .p 0 0)]) (bx' := [(36, [.int .i64 x0.Kind, .int .i64 x0.Fact.Key, .int .i64 x0.Fact.From, .int .i64 x0.Fact.To, .int .i64 x0.Fact.Known, .int .i64 x0.Fact.Value, .int .i64 x0.Point.Month, .int .i64 x0.Point.Known, .int .i64 x0.Point.Value, .int .i64 x0.N]), (36, [.int .i64 0, .int .i64 0, .int .i64 0, .int .i64 0, .int .i64 0, .int .i64 0, .int .i64 0, .int .i64 0, .int .i64 0, .int .i64 0]), (36, [.int .i64 x0.Kind, .int .i64 0, .int .i64 0, .int .i64 0, .int .i64 0, .int .i64 0, .int .i64 0, .int .i64 0, .int .i64 0, .int .i64 0])]) (by kernel_rfl) ?_
        refine JO_end (by kernel_rfl) ?_
        refine JE_then ?_
        refine JC_cond (x0.Kind == 3) (by kernel_rfl) (fun b14 => ?_) (fun b14 => ?_)
        · have h15 := cT b14 h13
          refine JC_region ?_
          refine JO_stepsK 4 [3, 2] (sl' := [(3, .p 2 0), (2, .p 1 0)]) (bx' := [(36, [.int .i64 x0.Kind, .int .i64 x0.Fact.Key, .int .i64 x0.Fact.From, .int .i64 x0.Fact.To, .int .i64 x0.Fact.Known, .int .i64 x0.Fact.Value, .int .i64 x0.Point.Month, .int .i64 x0.Point.Known, .int .i64 x0.Point.Value, .int .i64 x0.N]), (36, [.int .i64 0, .int .i64 0, .int .i64 0, .int .i64 0, .int .i64 0, .int .i64 0, .int .i64 0, .int .i64 0, .int .i64 0, .int .i64 0]), (36, [.int .i64 x0.Kind, .int .i64 0, .int .i64 0, .int .i64 0, .int .i64 0, .int .i64 0, .int .i64 0, .int .i64 0, .int .i64 0, .int .i64 x0.N])]) (by kernel_rfl) ?_
          refine JO_end (by kernel_rfl) ?_
          exact JE_meetP ((0, 0, 0, 0, 0, 0, 0, 0, x0.N), ()) h15 [3, 2] [] 3 (by kernel_rfl) (by kernel_rfl) (by kernel_rfl) (by kernel_rfl)
        · have h16 := cF b14 h13
          refine JC_skip ?_
          exact JE_meetP ((0, 0, 0, 0, 0, 0, 0, 0, 0), ()) h16 [3, 2] [] 3 (by kernel_rfl) (by kernel_rfl) (by kernel_rfl) (by kernel_rfl)
  · have h6 := (congrFun hk5 _).symm.trans h6p
    refine JE_block_normal ?_
    refine JE_then ?_
    refine JC_seq ?_
    refine JC_region ?_
    refine JO_stepsK 2 [2] (sl' := [(2, .p 1 0)]) (bx' := [(36, [.int .i64 x0.Kind, .int .i64 x0.Fact.Key, .int .i64 x0.Fact.From, .int .i64 x0.Fact.To, .int .i64 x0.Fact.Known, .int .i64 x0.Fact.Value, .int .i64 x0.Point.Month, .int .i64 x0.Point.Known, .int .i64 x0.Point.Value, .int .i64 x0.N]), (36, [.int .i64 x0.Kind, .int .i64 y3.1.1, .int .i64 y3.1.2.1, .int .i64 y3.1.2.2.1, .int .i64 y3.1.2.2.2.1, .int .i64 y3.1.2.2.2.2.1, .int .i64 y3.1.2.2.2.2.2.1, .int .i64 y3.1.2.2.2.2.2.2.1, .int .i64 y3.1.2.2.2.2.2.2.2.1, .int .i64 y3.1.2.2.2.2.2.2.2.2]), (36, [.int .i64 x0.Kind, .int .i64 y3.1.1, .int .i64 y3.1.2.1, .int .i64 y3.1.2.2.1, .int .i64 y3.1.2.2.2.1, .int .i64 y3.1.2.2.2.2.1, .int .i64 y3.1.2.2.2.2.2.1, .int .i64 y3.1.2.2.2.2.2.2.1, .int .i64 y3.1.2.2.2.2.2.2.2.1, .int .i64 y3.1.2.2.2.2.2.2.2.2])]) (by kernel_rfl) ?_
    refine JO_end (by kernel_rfl) ?_
    refine JE_then ?_
    refine JC_ret ?_
    refine JE_ret (vs := [.agg #[.int .i64 x0.Kind, .int .i64 y3.1.1, .int .i64 y3.1.2.1, .int .i64 y3.1.2.2.1, .int .i64 y3.1.2.2.2.1, .int .i64 y3.1.2.2.2.2.1, .int .i64 y3.1.2.2.2.2.2.1, .int .i64 y3.1.2.2.2.2.2.2.1, .int .i64 y3.1.2.2.2.2.2.2.2.1, .int .i64 y3.1.2.2.2.2.2.2.2.2]]) (by kernel_rfl) (fun γ w hs => ?_)
    rw [← sI h6]
    exact ⟨rfl, hs.kept.toBelow⟩

theorem c_spec_ActOk {W : World} {x0 : Act} {r : Bool} (h : spec_ActOk x0 = some r)  :
    Gives0 Try.prog 17 #[.agg #[.int .i64 x0.Kind, .int .i64 x0.Fact.Key, .int .i64 x0.Fact.From, .int .i64 x0.Fact.To, .int .i64 x0.Fact.Known, .int .i64 x0.Fact.Value, .int .i64 x0.Point.Month, .int .i64 x0.Point.Known, .int .i64 x0.Point.Value, .int .i64 x0.N]] W (.bool r) := by
  unfold spec_ActOk at h
  refine enter (args := [.agg #[.int .i64 x0.Kind, .int .i64 x0.Fact.Key, .int .i64 x0.Fact.From, .int .i64 x0.Fact.To, .int .i64 x0.Fact.Known, .int .i64 x0.Fact.Value, .int .i64 x0.Point.Month, .int .i64 x0.Point.Known, .int .i64 x0.Point.Value, .int .i64 x0.N]]) Try.func17 rfl Try.ntmps17 (by kernel_rfl) ?_
  refine JC_seq ?_
  refine JC_region ?_
  refine JO_stepsK 2 [1] (sl' := [(1, .p 0 0)]) (bx' := [(36, [.int .i64 x0.Kind, .int .i64 x0.Fact.Key, .int .i64 x0.Fact.From, .int .i64 x0.Fact.To, .int .i64 x0.Fact.Known, .int .i64 x0.Fact.Value, .int .i64 x0.Point.Month, .int .i64 x0.Point.Known, .int .i64 x0.Point.Value, .int .i64 x0.N])]) (by kernel_rfl) ?_
  refine JO_end (by kernel_rfl) ?_
  refine JE_then ?_
  refine JC_seq ?_
  refine JC_seq ?_
  obtain ⟨p1, hE2, h3⟩ := bS h
  refine JC_cut (τ := Unit) (fun _ => [(1, .p 0 0), (18, .v (.bool p1))]) (fun _ => [(36, [.int .i64 x0.Kind, .int .i64 x0.Fact.Key, .int .i64 x0.Fact.From, .int .i64 x0.Fact.To, .int .i64 x0.Fact.Known, .int .i64 x0.Fact.Value, .int .i64 x0.Point.Month, .int .i64 x0.Point.Known, .int .i64 x0.Point.Value, .int .i64 x0.N])]) (fun _ => []) ?_ (fun _ => ?_)
  · refine JC_quiet (by kernel_rfl) (by kernel_rfl) ?_
    refine JQ_stepsK 2 [4, 3, 1] (sl' := [(4, .v (.agg #[.int .i64 x0.Kind, .int .i64 x0.Fact.Key, .int .i64 x0.Fact.From, .int .i64 x0.Fact.To, .int .i64 x0.Fact.Known, .int .i64 x0.Fact.Value, .int .i64 x0.Point.Month, .int .i64 x0.Point.Known, .int .i64 x0.Point.Value, .int .i64 x0.N])), (3, .v (.agg #[.int .i64 x0.Kind, .int .i64 x0.Fact.Key, .int .i64 x0.Fact.From, .int .i64 x0.Fact.To, .int .i64 x0.Fact.Known, .int .i64 x0.Fact.Value, .int .i64 x0.Point.Month, .int .i64 x0.Point.Known, .int .i64 x0.Point.Value, .int .i64 x0.N])), (1, .p 0 0)]) (by kernel_rfl) ?_
    obtain ⟨t4, h5, h6⟩ := bS hE2
    refine JQ_call0 rfl (by kernel_rfl) (f := 25) (args := #[.agg #[.int .i64 x0.Kind, .int .i64 x0.Fact.Key, .int .i64 x0.Fact.From, .int .i64 x0.Fact.To, .int .i64 x0.Fact.Known, .int .i64 x0.Fact.Value, .int .i64 x0.Point.Month, .int .i64 x0.Point.Known, .int .i64 x0.Point.Value, .int .i64 x0.N]]) (by kernel_rfl) (x := .agg #[.int .i64 t4.Kind, .int .i64 t4.Fact.Key, .int .i64 t4.Fact.From, .int .i64 t4.Fact.To, .int .i64 t4.Fact.Known, .int .i64 t4.Fact.Value, .int .i64 t4.Point.Month, .int .i64 t4.Point.Known, .int .i64 t4.Point.Value, .int .i64 t4.N]) (fun γ w hs => (c_spec_l38Plain h5)) (sl' := [(5, .v (.agg #[.int .i64 t4.Kind, .int .i64 t4.Fact.Key, .int .i64 t4.Fact.From, .int .i64 t4.Fact.To, .int .i64 t4.Fact.Known, .int .i64 t4.Fact.Value, .int .i64 t4.Point.Month, .int .i64 t4.Point.Known, .int .i64 t4.Point.Value, .int .i64 t4.N])), (4, .v (.agg #[.int .i64 x0.Kind, .int .i64 x0.Fact.Key, .int .i64 x0.Fact.From, .int .i64 x0.Fact.To, .int .i64 x0.Fact.Known, .int .i64 x0.Fact.Value, .int .i64 x0.Point.Month, .int .i64 x0.Point.Known, .int .i64 x0.Point.Value, .int .i64 x0.N])), (3, .v (.agg #[.int .i64 x0.Kind, .int .i64 x0.Fact.Key, .int .i64 x0.Fact.From, .int .i64 x0.Fact.To, .int .i64 x0.Fact.Known, .int .i64 x0.Fact.Value, .int .i64 x0.Point.Month, .int .i64 x0.Point.Known, .int .i64 x0.Point.Value, .int .i64 x0.N])), (1, .p 0 0)]) (by kernel_rfl) ?_
    refine JQ_stepsK 2 [7, 1] (sl' := [(7, .v (.bool (!((x0.Kind == t4.Kind) && (((x0.Fact.Key == t4.Fact.Key) && ((x0.Fact.From == t4.Fact.From) && ((x0.Fact.To == t4.Fact.To) && ((x0.Fact.Known == t4.Fact.Known) && ((x0.Fact.Value == t4.Fact.Value) && true))))) && (((x0.Point.Month == t4.Point.Month) && ((x0.Point.Known == t4.Point.Known) && ((x0.Point.Value == t4.Point.Value) && true))) && ((x0.N == t4.N) && true))))))), (1, .p 0 0)]) (by kernel_rfl) ?_
    refine JQ_split 7 (!((x0.Kind == t4.Kind) && (((x0.Fact.Key == t4.Fact.Key) && ((x0.Fact.From == t4.Fact.From) && ((x0.Fact.To == t4.Fact.To) && ((x0.Fact.Known == t4.Fact.Known) && ((x0.Fact.Value == t4.Fact.Value) && true))))) && (((x0.Point.Month == t4.Point.Month) && ((x0.Point.Known == t4.Point.Known) && ((x0.Point.Value == t4.Point.Value) && true))) && ((x0.N == t4.N) && true))))) (by kernel_rfl) (fun b8 => ?_) (fun b8 => ?_)
    · have h9 := cT b8 h6
      refine JQ_stepsK 11 [18, 1] (sl' := [(18, .v (.bool true)), (1, .p 0 0)]) (by kernel_rfl) ?_
      refine JQ_end (by kernel_rfl) ?_
      obtain rfl := sI h9
      exact JE_meet () [1, 18] [] 1 (by kernel_rfl) (by kernel_rfl) (by kernel_rfl) (by kernel_rfl)
    · have h10 := cF b8 h6
      refine JQ_stepsK 6 [13, 1] (sl' := [(13, .v (.bool (x0.Fact.Known != 0))), (1, .p 0 0)]) (by kernel_rfl) ?_
      refine JQ_split 13 (x0.Fact.Known != 0) (by kernel_rfl) (fun b11 => ?_) (fun b11 => ?_)
      · have h12 := cT b11 h10
        refine JQ_stepsK 5 [18, 1] (sl' := [(18, .v (.bool true)), (1, .p 0 0)]) (by kernel_rfl) ?_
        refine JQ_end (by kernel_rfl) ?_
        obtain rfl := sI h12
        exact JE_meet () [1, 18] [] 1 (by kernel_rfl) (by kernel_rfl) (by kernel_rfl) (by kernel_rfl)
      · have h13 := cF b11 h10
        refine JQ_stepsK 5 [18, 1] (sl' := [(18, .v (.bool (x0.Point.Known != 0))), (1, .p 0 0)]) (by kernel_rfl) ?_
        refine JQ_end (by kernel_rfl) ?_
        obtain rfl := sI h13
        exact JE_meet () [1, 18] [] 1 (by kernel_rfl) (by kernel_rfl) (by kernel_rfl) (by kernel_rfl)
  · skip
    refine JE_then ?_
    refine JC_cond p1 (by kernel_rfl) (fun b14 => ?_) (fun b14 => ?_)
    · have h15 := cT b14 h3
      refine JC_seq ?_
      refine JC_region ?_
      refine JO_stepsK 1 [2] (sl' := [(2, .v (.bool false))]) (bx' := [(36, [.int .i64 x0.Kind, .int .i64 x0.Fact.Key, .int .i64 x0.Fact.From, .int .i64 x0.Fact.To, .int .i64 x0.Fact.Known, .int .i64 x0.Fact.Value, .int .i64 x0.Point.Month, .int .i64 x0.Point.Known, .int .i64 x0.Point.Value, .int .i64 x0.N])]) (by kernel_rfl) ?_
      refine JO_end (by kernel_rfl) ?_
      refine JE_then ?_
      refine JC_ret ?_
      refine JE_then_ret ?_
      refine JE_ret (vs := [.bool false]) (by kernel_rfl) (fun γ w hs => ?_)
      rw [← sI h15]
      exact ⟨rfl, hs.kept.toBelow⟩
    · have h16 := cF b14 h3
      refine JC_skip ?_
      refine JE_then ?_
      refine JC_seq ?_
      obtain ⟨p17, hE18, h19⟩ := bS h16
      refine JC_cut (τ := Unit) (fun _ => [(2, .v (.bool p17))]) (fun _ => [(36, [.int .i64 x0.Kind, .int .i64 x0.Fact.Key, .int .i64 x0.Fact.From, .int .i64 x0.Fact.To, .int .i64 x0.Fact.Known, .int .i64 x0.Fact.Value, .int .i64 x0.Point.Month, .int .i64 x0.Point.Known, .int .i64 x0.Point.Value, .int .i64 x0.N])]) (fun _ => []) ?_ (fun _ => ?_)
      · refine JC_region ?_
        refine JO_stepsK 4 [22, 1] (sl' := [(22, .v (.bool (x0.Kind == 1))), (1, .p 0 0)]) (bx' := [(36, [.int .i64 x0.Kind, .int .i64 x0.Fact.Key, .int .i64 x0.Fact.From, .int .i64 x0.Fact.To, .int .i64 x0.Fact.Known, .int .i64 x0.Fact.Value, .int .i64 x0.Point.Month, .int .i64 x0.Point.Known, .int .i64 x0.Point.Value, .int .i64 x0.N])]) (by kernel_rfl) ?_
        refine JO_split 22 (x0.Kind == 1) (by kernel_rfl) (fun b20 => ?_) (fun b20 => ?_)
        · have h21 := cT b20 hE18
          refine JO_stepsK 15 [2] (sl' := [(2, .v (.bool true))]) (bx' := [(36, [.int .i64 x0.Kind, .int .i64 x0.Fact.Key, .int .i64 x0.Fact.From, .int .i64 x0.Fact.To, .int .i64 x0.Fact.Known, .int .i64 x0.Fact.Value, .int .i64 x0.Point.Month, .int .i64 x0.Point.Known, .int .i64 x0.Point.Value, .int .i64 x0.N])]) (by kernel_rfl) ?_
          refine JO_end (by kernel_rfl) ?_
          obtain rfl := sI h21
          exact JE_meet () [2] [] 1 (by kernel_rfl) (by kernel_rfl) (by kernel_rfl) (by kernel_rfl)
        · have h22 := cF b20 hE18
          refine JO_stepsK 5 [27, 1] (sl' := [(27, .v (.bool (x0.Kind == 2))), (1, .p 0 0)]) (bx' := [(36, [.int .i64 x0.Kind, .int .i64 x0.Fact.Key, .int .i64 x0.Fact.From, .int .i64 x0.Fact.To, .int .i64 x0.Fact.Known, .int .i64 x0.Fact.Value, .int .i64 x0.Point.Month, .int .i64 x0.Point.Known, .int .i64 x0.Point.Value, .int .i64 x0.N])]) (by kernel_rfl) ?_
          refine JO_split 27 (x0.Kind == 2) (by kernel_rfl) (fun b23 => ?_) (fun b23 => ?_)
          · have h24 := cT b23 h22
            refine JO_stepsK 10 [2] (sl' := [(2, .v (.bool true))]) (bx' := [(36, [.int .i64 x0.Kind, .int .i64 x0.Fact.Key, .int .i64 x0.Fact.From, .int .i64 x0.Fact.To, .int .i64 x0.Fact.Known, .int .i64 x0.Fact.Value, .int .i64 x0.Point.Month, .int .i64 x0.Point.Known, .int .i64 x0.Point.Value, .int .i64 x0.N])]) (by kernel_rfl) ?_
            refine JO_end (by kernel_rfl) ?_
            obtain rfl := sI h24
            exact JE_meet () [2] [] 1 (by kernel_rfl) (by kernel_rfl) (by kernel_rfl) (by kernel_rfl)
          · have h25 := cF b23 h22
            refine JO_stepsK 4 [31, 27, 1] (sl' := [(31, .v (.bool (x0.Kind == 3))), (27, .v (.bool false)), (1, .p 0 0)]) (bx' := [(36, [.int .i64 x0.Kind, .int .i64 x0.Fact.Key, .int .i64 x0.Fact.From, .int .i64 x0.Fact.To, .int .i64 x0.Fact.Known, .int .i64 x0.Fact.Value, .int .i64 x0.Point.Month, .int .i64 x0.Point.Known, .int .i64 x0.Point.Value, .int .i64 x0.N])]) (by kernel_rfl) ?_
            refine JO_split 31 (x0.Kind == 3) (by kernel_rfl) (fun b26 => ?_) (fun b26 => ?_)
            · have h27 := cT b26 h25
              refine JO_stepsK 2 [33, 31, 27] (sl' := [(33, .v (.int .i64 x0.N)), (31, .v (.bool true)), (27, .v (.bool false))]) (bx' := [(36, [.int .i64 x0.Kind, .int .i64 x0.Fact.Key, .int .i64 x0.Fact.From, .int .i64 x0.Fact.To, .int .i64 x0.Fact.Known, .int .i64 x0.Fact.Value, .int .i64 x0.Point.Month, .int .i64 x0.Point.Known, .int .i64 x0.Point.Value, .int .i64 x0.N])]) (by kernel_rfl) ?_
              obtain ⟨t29, h30, h31⟩ := bS h27
              refine JO_call0 rfl (by kernel_rfl) (f := 22) (args := #[.int .i64 x0.N, .int .i64 1, .int .i64 24]) (by kernel_rfl) (x := .bool t29) (fun γ w hs => (c_spec_l01In h30)) (sl' := [(34, .v (.bool t29)), (33, .v (.int .i64 x0.N)), (31, .v (.bool true)), (27, .v (.bool false))]) (by kernel_rfl) ?_
              refine JO_stepsK 3 [2] (sl' := [(2, .v (.bool t29))]) (bx' := [(36, [.int .i64 x0.Kind, .int .i64 x0.Fact.Key, .int .i64 x0.Fact.From, .int .i64 x0.Fact.To, .int .i64 x0.Fact.Known, .int .i64 x0.Fact.Value, .int .i64 x0.Point.Month, .int .i64 x0.Point.Known, .int .i64 x0.Point.Value, .int .i64 x0.N])]) (by kernel_rfl) ?_
              refine JO_end (by kernel_rfl) ?_
              obtain rfl := sI h31
              exact JE_meet () [2] [] 1 (by kernel_rfl) (by kernel_rfl) (by kernel_rfl) (by kernel_rfl)
            · have h28 := cF b26 h25
              refine JO_stepsK 6 [2] (sl' := [(2, .v (.bool false))]) (bx' := [(36, [.int .i64 x0.Kind, .int .i64 x0.Fact.Key, .int .i64 x0.Fact.From, .int .i64 x0.Fact.To, .int .i64 x0.Fact.Known, .int .i64 x0.Fact.Value, .int .i64 x0.Point.Month, .int .i64 x0.Point.Known, .int .i64 x0.Point.Value, .int .i64 x0.N])]) (by kernel_rfl) ?_
              refine JO_end (by kernel_rfl) ?_
              obtain rfl := sI h28
              exact JE_meet () [2] [] 1 (by kernel_rfl) (by kernel_rfl) (by kernel_rfl) (by kernel_rfl)
      · skip
        refine JE_then ?_
        refine JC_ret ?_
        refine JE_ret (vs := [.bool p17]) (by kernel_rfl) (fun γ w hs => ?_)
        rw [← sI h19]
        exact ⟨rfl, hs.kept.toBelow⟩

theorem c_impl_ActOk {W : World} {x0 : Act} {r : Bool} (h : impl_ActOk x0 = some r)  :
    Gives0 Try.prog 19 #[.agg #[.int .i64 x0.Kind, .int .i64 x0.Fact.Key, .int .i64 x0.Fact.From, .int .i64 x0.Fact.To, .int .i64 x0.Fact.Known, .int .i64 x0.Fact.Value, .int .i64 x0.Point.Month, .int .i64 x0.Point.Known, .int .i64 x0.Point.Value, .int .i64 x0.N]] W (.bool r) := by
  unfold impl_ActOk at h
  refine enter (args := [.agg #[.int .i64 x0.Kind, .int .i64 x0.Fact.Key, .int .i64 x0.Fact.From, .int .i64 x0.Fact.To, .int .i64 x0.Fact.Known, .int .i64 x0.Fact.Value, .int .i64 x0.Point.Month, .int .i64 x0.Point.Known, .int .i64 x0.Point.Value, .int .i64 x0.N]]) Try.func19 rfl Try.ntmps19 (by kernel_rfl) ?_
  refine JC_seq ?_
  refine JC_region ?_
  refine JO_stepsK 2 [1] (sl' := [(1, .p 0 0)]) (bx' := [(36, [.int .i64 x0.Kind, .int .i64 x0.Fact.Key, .int .i64 x0.Fact.From, .int .i64 x0.Fact.To, .int .i64 x0.Fact.Known, .int .i64 x0.Fact.Value, .int .i64 x0.Point.Month, .int .i64 x0.Point.Known, .int .i64 x0.Point.Value, .int .i64 x0.N])]) (by kernel_rfl) ?_
  refine JO_end (by kernel_rfl) ?_
  refine JE_then ?_
  refine JC_seq ?_
  refine JC_region ?_
  refine JO_stepsK 5 [3, 1] (sl' := [(3, .p 1 0), (1, .p 0 0)]) (bx' := [(36, [.int .i64 x0.Kind, .int .i64 x0.Fact.Key, .int .i64 x0.Fact.From, .int .i64 x0.Fact.To, .int .i64 x0.Fact.Known, .int .i64 x0.Fact.Value, .int .i64 x0.Point.Month, .int .i64 x0.Point.Known, .int .i64 x0.Point.Value, .int .i64 x0.N]), (36, [.int .i64 x0.Kind, .int .i64 0, .int .i64 0, .int .i64 0, .int .i64 0, .int .i64 0, .int .i64 0, .int .i64 0, .int .i64 0, .int .i64 0])]) (by kernel_rfl) ?_
  refine JO_end (by kernel_rfl) ?_
  refine JE_then ?_
  refine JC_seq ?_
  refine JC_seq ?_
  refine JC_region ?_
  refine JO_stepsK 2 [8, 3, 1] (sl' := [(8, .v (.int .i64 x0.Kind)), (3, .p 1 0), (1, .p 0 0)]) (bx' := [(36, [.int .i64 x0.Kind, .int .i64 x0.Fact.Key, .int .i64 x0.Fact.From, .int .i64 x0.Fact.To, .int .i64 x0.Fact.Known, .int .i64 x0.Fact.Value, .int .i64 x0.Point.Month, .int .i64 x0.Point.Known, .int .i64 x0.Point.Value, .int .i64 x0.N]), (36, [.int .i64 x0.Kind, .int .i64 0, .int .i64 0, .int .i64 0, .int .i64 0, .int .i64 0, .int .i64 0, .int .i64 0, .int .i64 0, .int .i64 0])]) (by kernel_rfl) ?_
  refine JO_end (by kernel_rfl) ?_
  refine JE_then ?_
  refine JC_block ?_
  refine JC_seq ?_
  refine JC_region ?_
  refine JO_stepsK 2 [9, 8, 3, 1] (sl' := [(9, .v (.bool (x0.Kind == 1))), (8, .v (.int .i64 x0.Kind)), (3, .p 1 0), (1, .p 0 0)]) (bx' := [(36, [.int .i64 x0.Kind, .int .i64 x0.Fact.Key, .int .i64 x0.Fact.From, .int .i64 x0.Fact.To, .int .i64 x0.Fact.Known, .int .i64 x0.Fact.Value, .int .i64 x0.Point.Month, .int .i64 x0.Point.Known, .int .i64 x0.Point.Value, .int .i64 x0.N]), (36, [.int .i64 x0.Kind, .int .i64 0, .int .i64 0, .int .i64 0, .int .i64 0, .int .i64 0, .int .i64 0, .int .i64 0, .int .i64 0, .int .i64 0])]) (by kernel_rfl) ?_
  refine JO_end (by kernel_rfl) ?_
  refine JE_then ?_
  obtain ⟨k4, hk5, h16⟩ := jS h
  refine JC_cutP (τ := (Int × Int × Int × Int × Int × Int × Int × Int × Int) × (Unit)) (fun y => k4 y.1 = some r) (fun y3 => [(3, .p 1 0), (1, .p 0 0)]) (fun y3 => [(36, [.int .i64 x0.Kind, .int .i64 x0.Fact.Key, .int .i64 x0.Fact.From, .int .i64 x0.Fact.To, .int .i64 x0.Fact.Known, .int .i64 x0.Fact.Value, .int .i64 x0.Point.Month, .int .i64 x0.Point.Known, .int .i64 x0.Point.Value, .int .i64 x0.N]), (36, [.int .i64 x0.Kind, .int .i64 y3.1.1, .int .i64 y3.1.2.1, .int .i64 y3.1.2.2.1, .int .i64 y3.1.2.2.2.1, .int .i64 y3.1.2.2.2.2.1, .int .i64 y3.1.2.2.2.2.2.1, .int .i64 y3.1.2.2.2.2.2.2.1, .int .i64 y3.1.2.2.2.2.2.2.2.1, .int .i64 y3.1.2.2.2.2.2.2.2.2])]) (fun y3 => []) ?_ (fun y3 h6p => ?_)
  · refine JC_cond (x0.Kind == 1) (by kernel_rfl) (fun b17 => ?_) (fun b17 => ?_)
    · have h18 := cT b17 h16
      refine JC_region ?_
      refine JO_stepsK 4 [3, 1] (sl' := [(3, .p 1 0), (1, .p 0 0)]) (bx' := [(36, [.int .i64 x0.Kind, .int .i64 x0.Fact.Key, .int .i64 x0.Fact.From, .int .i64 x0.Fact.To, .int .i64 x0.Fact.Known, .int .i64 x0.Fact.Value, .int .i64 x0.Point.Month, .int .i64 x0.Point.Known, .int .i64 x0.Point.Value, .int .i64 x0.N]), (36, [.int .i64 x0.Kind, .int .i64 x0.Fact.Key, .int .i64 x0.Fact.From, .int .i64 x0.Fact.To, .int .i64 x0.Fact.Known, .int .i64 x0.Fact.Value, .int .i64 0, .int .i64 0, .int .i64 0, .int .i64 0])]) (by kernel_rfl) ?_
      refine JO_end (by kernel_rfl) ?_
      exact JE_meetP ((x0.Fact.Key, x0.Fact.From, x0.Fact.To, x0.Fact.Known, x0.Fact.Value, 0, 0, 0, 0), ()) h18 [3, 1] [] 2 (by kernel_rfl) (by kernel_rfl) (by kernel_rfl) (by kernel_rfl)
    · have h19 := cF b17 h16
      refine JC_seq ?_
      refine JC_region ?_
      refine JO_stepsK 2 [14, 8, 3, 1] (sl' := [(14, .v (.bool (x0.Kind == 2))), (8, .v (.int .i64 x0.Kind)), (3, .p 1 0), (1, .p 0 0)]) (bx' := [(36, [.int .i64 x0.Kind, .int .i64 x0.Fact.Key, .int .i64 x0.Fact.From, .int .i64 x0.Fact.To, .int .i64 x0.Fact.Known, .int .i64 x0.Fact.Value, .int .i64 x0.Point.Month, .int .i64 x0.Point.Known, .int .i64 x0.Point.Value, .int .i64 x0.N]), (36, [.int .i64 x0.Kind, .int .i64 0, .int .i64 0, .int .i64 0, .int .i64 0, .int .i64 0, .int .i64 0, .int .i64 0, .int .i64 0, .int .i64 0])]) (by kernel_rfl) ?_
      refine JO_end (by kernel_rfl) ?_
      refine JE_then ?_
      refine JC_cond (x0.Kind == 2) (by kernel_rfl) (fun b20 => ?_) (fun b20 => ?_)
      · have h21 := cT b20 h19
        refine JC_region ?_
        refine JO_stepsK 4 [3, 1] (sl' := [(3, .p 1 0), (1, .p 0 0)]) (bx' := [(36, [.int .i64 x0.Kind, .int .i64 x0.Fact.Key, .int .i64 x0.Fact.From, .int .i64 x0.Fact.To, .int .i64 x0.Fact.Known, .int .i64 x0.Fact.Value, .int .i64 x0.Point.Month, .int .i64 x0.Point.Known, .int .i64 x0.Point.Value, .int .i64 x0.N]), (36, [.int .i64 x0.Kind, .int .i64 0, .int .i64 0, .int .i64 0, .int .i64 0, .int .i64 0, .int .i64 x0.Point.Month, .int .i64 x0.Point.Known, .int .i64 x0.Point.Value, .int .i64 0])]) (by kernel_rfl) ?_
        refine JO_end (by kernel_rfl) ?_
        exact JE_meetP ((0, 0, 0, 0, 0, x0.Point.Month, x0.Point.Known, x0.Point.Value, 0), ()) h21 [3, 1] [] 2 (by kernel_rfl) (by kernel_rfl) (by kernel_rfl) (by kernel_rfl)
      · have h22 := cF b20 h19
        refine JC_seq ?_
        refine JC_region ?_
        refine JO_stepsK 2 [19, 3, 1] (sl' := [(19, .v (.bool (x0.Kind == 3))), (3, .p 1 0), (1, .p 0 0)]) (bx' := [(36, [.int .i64 x0.Kind, .int .i64 x0.Fact.Key, .int .i64 x0.Fact.From, .int .i64 x0.Fact.To, .int .i64 x0.Fact.Known, .int .i64 x0.Fact.Value, .int .i64 x0.Point.Month, .int .i64 x0.Point.Known, .int .i64 x0.Point.Value, .int .i64 x0.N]), (36, [.int .i64 x0.Kind, .int .i64 0, .int .i64 0, .int .i64 0, .int .i64 0, .int .i64 0, .int .i64 0, .int .i64 0, .int .i64 0, .int .i64 0])]) (by kernel_rfl) ?_
        refine JO_end (by kernel_rfl) ?_
        refine JE_then ?_
        refine JC_cond (x0.Kind == 3) (by kernel_rfl) (fun b23 => ?_) (fun b23 => ?_)
        · have h24 := cT b23 h22
          refine JC_seq ?_
          refine JC_region ?_
          refine JO_stepsK 4 [3, 1] (sl' := [(3, .p 1 0), (1, .p 0 0)]) (bx' := [(36, [.int .i64 x0.Kind, .int .i64 x0.Fact.Key, .int .i64 x0.Fact.From, .int .i64 x0.Fact.To, .int .i64 x0.Fact.Known, .int .i64 x0.Fact.Value, .int .i64 x0.Point.Month, .int .i64 x0.Point.Known, .int .i64 x0.Point.Value, .int .i64 x0.N]), (36, [.int .i64 x0.Kind, .int .i64 0, .int .i64 0, .int .i64 0, .int .i64 0, .int .i64 0, .int .i64 0, .int .i64 0, .int .i64 0, .int .i64 x0.N])]) (by kernel_rfl) ?_
          refine JO_end (by kernel_rfl) ?_
          refine JE_then ?_
          refine JC_seq ?_
          refine JC_region ?_
          refine JO_stepsK 2 [25, 3, 1] (sl' := [(25, .v (.int .i64 x0.N)), (3, .p 1 0), (1, .p 0 0)]) (bx' := [(36, [.int .i64 x0.Kind, .int .i64 x0.Fact.Key, .int .i64 x0.Fact.From, .int .i64 x0.Fact.To, .int .i64 x0.Fact.Known, .int .i64 x0.Fact.Value, .int .i64 x0.Point.Month, .int .i64 x0.Point.Known, .int .i64 x0.Point.Value, .int .i64 x0.N]), (36, [.int .i64 x0.Kind, .int .i64 0, .int .i64 0, .int .i64 0, .int .i64 0, .int .i64 0, .int .i64 0, .int .i64 0, .int .i64 0, .int .i64 x0.N])]) (by kernel_rfl) ?_
          obtain ⟨t26, h27, h28⟩ := bS h24
          refine JO_call0 rfl (by kernel_rfl) (f := 23) (args := #[.int .i64 x0.N, .int .i64 1, .int .i64 24]) (by kernel_rfl) (x := .bool t26) (fun γ w hs => (c_impl_within h27)) (sl' := [(26, .v (.bool t26)), (25, .v (.int .i64 x0.N)), (3, .p 1 0), (1, .p 0 0)]) (by kernel_rfl) ?_
          refine JO_stepsK 1 [27, 3, 1] (sl' := [(27, .v (.bool (!t26))), (3, .p 1 0), (1, .p 0 0)]) (bx' := [(36, [.int .i64 x0.Kind, .int .i64 x0.Fact.Key, .int .i64 x0.Fact.From, .int .i64 x0.Fact.To, .int .i64 x0.Fact.Known, .int .i64 x0.Fact.Value, .int .i64 x0.Point.Month, .int .i64 x0.Point.Known, .int .i64 x0.Point.Value, .int .i64 x0.N]), (36, [.int .i64 x0.Kind, .int .i64 0, .int .i64 0, .int .i64 0, .int .i64 0, .int .i64 0, .int .i64 0, .int .i64 0, .int .i64 0, .int .i64 x0.N])]) (by kernel_rfl) ?_
          refine JO_end (by kernel_rfl) ?_
          refine JE_then ?_
          refine JC_cond (!t26) (by kernel_rfl) (fun b30 => ?_) (fun b30 => ?_)
          · have h31 := cT b30 h28
            refine JC_seq ?_
            refine JC_region ?_
            refine JO_stepsK 1 [2] (sl' := [(2, .v (.bool false))]) (bx' := [(36, [.int .i64 x0.Kind, .int .i64 x0.Fact.Key, .int .i64 x0.Fact.From, .int .i64 x0.Fact.To, .int .i64 x0.Fact.Known, .int .i64 x0.Fact.Value, .int .i64 x0.Point.Month, .int .i64 x0.Point.Known, .int .i64 x0.Point.Value, .int .i64 x0.N]), (36, [.int .i64 x0.Kind, .int .i64 0, .int .i64 0, .int .i64 0, .int .i64 0, .int .i64 0, .int .i64 0, .int .i64 0, .int .i64 0, .int .i64 x0.N])]) (by kernel_rfl) ?_
            refine JO_end (by kernel_rfl) ?_
            refine JE_then ?_
            refine JC_ret ?_
            refine JE_then_ret ?_
            refine JE_block_ret ?_
            refine JE_then_ret ?_
            refine JE_ret (vs := [.bool false]) (by kernel_rfl) (fun γ w hs => ?_)
            rw [← sI h31]
            exact ⟨rfl, hs.kept.toBelow⟩
          · have h32 := cF b30 h28
            refine JC_skip ?_
            exact JE_meetP ((0, 0, 0, 0, 0, 0, 0, 0, x0.N), ()) h32 [3, 1] [] 2 (by kernel_rfl) (by kernel_rfl) (by kernel_rfl) (by kernel_rfl)
        · have h25 := cF b23 h22
          refine JC_seq ?_
          refine JC_region ?_
          refine JO_stepsK 1 [2] (sl' := [(2, .v (.bool false))]) (bx' := [(36, [.int .i64 x0.Kind, .int .i64 x0.Fact.Key, .int .i64 x0.Fact.From, .int .i64 x0.Fact.To, .int .i64 x0.Fact.Known, .int .i64 x0.Fact.Value, .int .i64 x0.Point.Month, .int .i64 x0.Point.Known, .int .i64 x0.Point.Value, .int .i64 x0.N]), (36, [.int .i64 x0.Kind, .int .i64 0, .int .i64 0, .int .i64 0, .int .i64 0, .int .i64 0, .int .i64 0, .int .i64 0, .int .i64 0, .int .i64 0])]) (by kernel_rfl) ?_
          refine JO_end (by kernel_rfl) ?_
          refine JE_then ?_
          refine JC_ret ?_
          refine JE_then_ret ?_
          refine JE_block_ret ?_
          refine JE_then_ret ?_
          refine JE_ret (vs := [.bool false]) (by kernel_rfl) (fun γ w hs => ?_)
          rw [← sI h25]
          exact ⟨rfl, hs.kept.toBelow⟩
  · have h6 := (congrFun hk5 _).symm.trans h6p
    refine JE_block_normal ?_
    refine JE_then ?_
    refine JC_seq ?_
    obtain ⟨p7, hE8, h9⟩ := bS h6
    refine JC_cut (τ := Unit) (fun _ => [(2, .v (.bool p7))]) (fun _ => [(36, [.int .i64 x0.Kind, .int .i64 x0.Fact.Key, .int .i64 x0.Fact.From, .int .i64 x0.Fact.To, .int .i64 x0.Fact.Known, .int .i64 x0.Fact.Value, .int .i64 x0.Point.Month, .int .i64 x0.Point.Known, .int .i64 x0.Point.Value, .int .i64 x0.N]), (36, [.int .i64 x0.Kind, .int .i64 y3.1.1, .int .i64 y3.1.2.1, .int .i64 y3.1.2.2.1, .int .i64 y3.1.2.2.2.1, .int .i64 y3.1.2.2.2.2.1, .int .i64 y3.1.2.2.2.2.2.1, .int .i64 y3.1.2.2.2.2.2.2.1, .int .i64 y3.1.2.2.2.2.2.2.2.1, .int .i64 y3.1.2.2.2.2.2.2.2.2])]) (fun _ => []) ?_ (fun _ => ?_)
    · refine JC_region ?_
      refine JO_stepsK 4 [31, 1] (sl' := [(31, .v (.bool ((x0.Kind == x0.Kind) && (((x0.Fact.Key == y3.1.1) && ((x0.Fact.From == y3.1.2.1) && ((x0.Fact.To == y3.1.2.2.1) && ((x0.Fact.Known == y3.1.2.2.2.1) && ((x0.Fact.Value == y3.1.2.2.2.2.1) && true))))) && (((x0.Point.Month == y3.1.2.2.2.2.2.1) && ((x0.Point.Known == y3.1.2.2.2.2.2.2.1) && ((x0.Point.Value == y3.1.2.2.2.2.2.2.2.1) && true))) && ((x0.N == y3.1.2.2.2.2.2.2.2.2) && true)))))), (1, .p 0 0)]) (bx' := [(36, [.int .i64 x0.Kind, .int .i64 x0.Fact.Key, .int .i64 x0.Fact.From, .int .i64 x0.Fact.To, .int .i64 x0.Fact.Known, .int .i64 x0.Fact.Value, .int .i64 x0.Point.Month, .int .i64 x0.Point.Known, .int .i64 x0.Point.Value, .int .i64 x0.N]), (36, [.int .i64 x0.Kind, .int .i64 y3.1.1, .int .i64 y3.1.2.1, .int .i64 y3.1.2.2.1, .int .i64 y3.1.2.2.2.1, .int .i64 y3.1.2.2.2.2.1, .int .i64 y3.1.2.2.2.2.2.1, .int .i64 y3.1.2.2.2.2.2.2.1, .int .i64 y3.1.2.2.2.2.2.2.2.1, .int .i64 y3.1.2.2.2.2.2.2.2.2])]) (by kernel_rfl) ?_
      refine JO_split 31 ((x0.Kind == x0.Kind) && (((x0.Fact.Key == y3.1.1) && ((x0.Fact.From == y3.1.2.1) && ((x0.Fact.To == y3.1.2.2.1) && ((x0.Fact.Known == y3.1.2.2.2.1) && ((x0.Fact.Value == y3.1.2.2.2.2.1) && true))))) && (((x0.Point.Month == y3.1.2.2.2.2.2.1) && ((x0.Point.Known == y3.1.2.2.2.2.2.2.1) && ((x0.Point.Value == y3.1.2.2.2.2.2.2.2.1) && true))) && ((x0.N == y3.1.2.2.2.2.2.2.2.2) && true)))) (by kernel_rfl) (fun b10 => ?_) (fun b10 => ?_)
      · have h11 := cT b10 hE8
        refine JO_stepsK 6 [37, 1] (sl' := [(37, .v (.bool (x0.Fact.Known == 0))), (1, .p 0 0)]) (bx' := [(36, [.int .i64 x0.Kind, .int .i64 x0.Fact.Key, .int .i64 x0.Fact.From, .int .i64 x0.Fact.To, .int .i64 x0.Fact.Known, .int .i64 x0.Fact.Value, .int .i64 x0.Point.Month, .int .i64 x0.Point.Known, .int .i64 x0.Point.Value, .int .i64 x0.N]), (36, [.int .i64 x0.Kind, .int .i64 y3.1.1, .int .i64 y3.1.2.1, .int .i64 y3.1.2.2.1, .int .i64 y3.1.2.2.2.1, .int .i64 y3.1.2.2.2.2.1, .int .i64 y3.1.2.2.2.2.2.1, .int .i64 y3.1.2.2.2.2.2.2.1, .int .i64 y3.1.2.2.2.2.2.2.2.1, .int .i64 y3.1.2.2.2.2.2.2.2.2])]) (by kernel_rfl) ?_
        refine JO_split 37 (x0.Fact.Known == 0) (by kernel_rfl) (fun b13 => ?_) (fun b13 => ?_)
        · have h14 := cT b13 h11
          refine JO_stepsK 6 [2] (sl' := [(2, .v (.bool (x0.Point.Known == 0)))]) (bx' := [(36, [.int .i64 x0.Kind, .int .i64 x0.Fact.Key, .int .i64 x0.Fact.From, .int .i64 x0.Fact.To, .int .i64 x0.Fact.Known, .int .i64 x0.Fact.Value, .int .i64 x0.Point.Month, .int .i64 x0.Point.Known, .int .i64 x0.Point.Value, .int .i64 x0.N]), (36, [.int .i64 x0.Kind, .int .i64 y3.1.1, .int .i64 y3.1.2.1, .int .i64 y3.1.2.2.1, .int .i64 y3.1.2.2.2.1, .int .i64 y3.1.2.2.2.2.1, .int .i64 y3.1.2.2.2.2.2.1, .int .i64 y3.1.2.2.2.2.2.2.1, .int .i64 y3.1.2.2.2.2.2.2.2.1, .int .i64 y3.1.2.2.2.2.2.2.2.2])]) (by kernel_rfl) ?_
          refine JO_end (by kernel_rfl) ?_
          obtain rfl := sI h14
          exact JE_meet () [2] [] 2 (by kernel_rfl) (by kernel_rfl) (by kernel_rfl) (by kernel_rfl)
        · have h15 := cF b13 h11
          refine JO_stepsK 6 [2] (sl' := [(2, .v (.bool false))]) (bx' := [(36, [.int .i64 x0.Kind, .int .i64 x0.Fact.Key, .int .i64 x0.Fact.From, .int .i64 x0.Fact.To, .int .i64 x0.Fact.Known, .int .i64 x0.Fact.Value, .int .i64 x0.Point.Month, .int .i64 x0.Point.Known, .int .i64 x0.Point.Value, .int .i64 x0.N]), (36, [.int .i64 x0.Kind, .int .i64 y3.1.1, .int .i64 y3.1.2.1, .int .i64 y3.1.2.2.1, .int .i64 y3.1.2.2.2.1, .int .i64 y3.1.2.2.2.2.1, .int .i64 y3.1.2.2.2.2.2.1, .int .i64 y3.1.2.2.2.2.2.2.1, .int .i64 y3.1.2.2.2.2.2.2.2.1, .int .i64 y3.1.2.2.2.2.2.2.2.2])]) (by kernel_rfl) ?_
          refine JO_end (by kernel_rfl) ?_
          obtain rfl := sI h15
          exact JE_meet () [2] [] 2 (by kernel_rfl) (by kernel_rfl) (by kernel_rfl) (by kernel_rfl)
      · have h12 := cF b10 hE8
        refine JO_stepsK 12 [2] (sl' := [(2, .v (.bool false))]) (bx' := [(36, [.int .i64 x0.Kind, .int .i64 x0.Fact.Key, .int .i64 x0.Fact.From, .int .i64 x0.Fact.To, .int .i64 x0.Fact.Known, .int .i64 x0.Fact.Value, .int .i64 x0.Point.Month, .int .i64 x0.Point.Known, .int .i64 x0.Point.Value, .int .i64 x0.N]), (36, [.int .i64 x0.Kind, .int .i64 y3.1.1, .int .i64 y3.1.2.1, .int .i64 y3.1.2.2.1, .int .i64 y3.1.2.2.2.1, .int .i64 y3.1.2.2.2.2.1, .int .i64 y3.1.2.2.2.2.2.1, .int .i64 y3.1.2.2.2.2.2.2.1, .int .i64 y3.1.2.2.2.2.2.2.2.1, .int .i64 y3.1.2.2.2.2.2.2.2.2])]) (by kernel_rfl) ?_
        refine JO_end (by kernel_rfl) ?_
        obtain rfl := sI h12
        exact JE_meet () [2] [] 2 (by kernel_rfl) (by kernel_rfl) (by kernel_rfl) (by kernel_rfl)
    · skip
      refine JE_then ?_
      refine JC_ret ?_
      refine JE_ret (vs := [.bool p7]) (by kernel_rfl) (fun γ w hs => ?_)
      rw [← sI h9]
      exact ⟨rfl, hs.kept.toBelow⟩

theorem c_laws_FnExactActOk {W : World} {x0 : Act} {r : Bool} (h : laws_FnExactActOk x0 = some r)  :
    Gives0 Try.prog 7 #[.agg #[.int .i64 x0.Kind, .int .i64 x0.Fact.Key, .int .i64 x0.Fact.From, .int .i64 x0.Fact.To, .int .i64 x0.Fact.Known, .int .i64 x0.Fact.Value, .int .i64 x0.Point.Month, .int .i64 x0.Point.Known, .int .i64 x0.Point.Value, .int .i64 x0.N]] W (.bool r) := by
  unfold laws_FnExactActOk at h
  refine enter (args := [.agg #[.int .i64 x0.Kind, .int .i64 x0.Fact.Key, .int .i64 x0.Fact.From, .int .i64 x0.Fact.To, .int .i64 x0.Fact.Known, .int .i64 x0.Fact.Value, .int .i64 x0.Point.Month, .int .i64 x0.Point.Known, .int .i64 x0.Point.Value, .int .i64 x0.N]]) Try.func7 rfl Try.ntmps7 (by kernel_rfl) ?_
  refine JC_seq ?_
  refine JC_region ?_
  refine JO_stepsK 2 [1] (sl' := [(1, .p 0 0)]) (bx' := [(31, [.int .i64 x0.Kind, .int .i64 x0.Fact.Key, .int .i64 x0.Fact.From, .int .i64 x0.Fact.To, .int .i64 x0.Fact.Known, .int .i64 x0.Fact.Value, .int .i64 x0.Point.Month, .int .i64 x0.Point.Known, .int .i64 x0.Point.Value, .int .i64 x0.N])]) (by kernel_rfl) ?_
  refine JO_end (by kernel_rfl) ?_
  refine JE_then ?_
  refine JC_seq ?_
  refine JC_region ?_
  refine JO_stepsK 1 [5, 1] (sl' := [(5, .v (.agg #[.int .i64 x0.Kind, .int .i64 x0.Fact.Key, .int .i64 x0.Fact.From, .int .i64 x0.Fact.To, .int .i64 x0.Fact.Known, .int .i64 x0.Fact.Value, .int .i64 x0.Point.Month, .int .i64 x0.Point.Known, .int .i64 x0.Point.Value, .int .i64 x0.N])), (1, .p 0 0)]) (bx' := [(31, [.int .i64 x0.Kind, .int .i64 x0.Fact.Key, .int .i64 x0.Fact.From, .int .i64 x0.Fact.To, .int .i64 x0.Fact.Known, .int .i64 x0.Fact.Value, .int .i64 x0.Point.Month, .int .i64 x0.Point.Known, .int .i64 x0.Point.Value, .int .i64 x0.N])]) (by kernel_rfl) ?_
  obtain ⟨t1, h2, h3⟩ := bS h
  refine JO_call0 rfl (by kernel_rfl) (f := 18) (args := #[.agg #[.int .i64 x0.Kind, .int .i64 x0.Fact.Key, .int .i64 x0.Fact.From, .int .i64 x0.Fact.To, .int .i64 x0.Fact.Known, .int .i64 x0.Fact.Value, .int .i64 x0.Point.Month, .int .i64 x0.Point.Known, .int .i64 x0.Point.Value, .int .i64 x0.N]]) (by kernel_rfl) (x := .agg #[.int .i64 t1.Kind, .int .i64 t1.Fact.Key, .int .i64 t1.Fact.From, .int .i64 t1.Fact.To, .int .i64 t1.Fact.Known, .int .i64 t1.Fact.Value, .int .i64 t1.Point.Month, .int .i64 t1.Point.Known, .int .i64 t1.Point.Value, .int .i64 t1.N]) (fun γ w hs => (c_laws_toAct h2)) (sl' := [(6, .v (.agg #[.int .i64 t1.Kind, .int .i64 t1.Fact.Key, .int .i64 t1.Fact.From, .int .i64 t1.Fact.To, .int .i64 t1.Fact.Known, .int .i64 t1.Fact.Value, .int .i64 t1.Point.Month, .int .i64 t1.Point.Known, .int .i64 t1.Point.Value, .int .i64 t1.N])), (5, .v (.agg #[.int .i64 x0.Kind, .int .i64 x0.Fact.Key, .int .i64 x0.Fact.From, .int .i64 x0.Fact.To, .int .i64 x0.Fact.Known, .int .i64 x0.Fact.Value, .int .i64 x0.Point.Month, .int .i64 x0.Point.Known, .int .i64 x0.Point.Value, .int .i64 x0.N])), (1, .p 0 0)]) (by kernel_rfl) ?_
  obtain ⟨t5, h6, h7⟩ := bS h3
  refine JO_call0 rfl (by kernel_rfl) (f := 17) (args := #[.agg #[.int .i64 t1.Kind, .int .i64 t1.Fact.Key, .int .i64 t1.Fact.From, .int .i64 t1.Fact.To, .int .i64 t1.Fact.Known, .int .i64 t1.Fact.Value, .int .i64 t1.Point.Month, .int .i64 t1.Point.Known, .int .i64 t1.Point.Value, .int .i64 t1.N]]) (by kernel_rfl) (x := .bool t5) (fun γ w hs => (c_spec_ActOk h6)) (sl' := [(7, .v (.bool t5)), (6, .v (.agg #[.int .i64 t1.Kind, .int .i64 t1.Fact.Key, .int .i64 t1.Fact.From, .int .i64 t1.Fact.To, .int .i64 t1.Fact.Known, .int .i64 t1.Fact.Value, .int .i64 t1.Point.Month, .int .i64 t1.Point.Known, .int .i64 t1.Point.Value, .int .i64 t1.N])), (5, .v (.agg #[.int .i64 x0.Kind, .int .i64 x0.Fact.Key, .int .i64 x0.Fact.From, .int .i64 x0.Fact.To, .int .i64 x0.Fact.Known, .int .i64 x0.Fact.Value, .int .i64 x0.Point.Month, .int .i64 x0.Point.Known, .int .i64 x0.Point.Value, .int .i64 x0.N])), (1, .p 0 0)]) (by kernel_rfl) ?_
  refine JO_stepsK 1 [3, 1] (sl' := [(3, .v (.bool t5)), (1, .p 0 0)]) (bx' := [(31, [.int .i64 x0.Kind, .int .i64 x0.Fact.Key, .int .i64 x0.Fact.From, .int .i64 x0.Fact.To, .int .i64 x0.Fact.Known, .int .i64 x0.Fact.Value, .int .i64 x0.Point.Month, .int .i64 x0.Point.Known, .int .i64 x0.Point.Value, .int .i64 x0.N])]) (by kernel_rfl) ?_
  refine JO_end (by kernel_rfl) ?_
  refine JE_then ?_
  refine JC_seq ?_
  refine JC_region ?_
  refine JO_stepsK 1 [8, 3] (sl' := [(8, .v (.agg #[.int .i64 x0.Kind, .int .i64 x0.Fact.Key, .int .i64 x0.Fact.From, .int .i64 x0.Fact.To, .int .i64 x0.Fact.Known, .int .i64 x0.Fact.Value, .int .i64 x0.Point.Month, .int .i64 x0.Point.Known, .int .i64 x0.Point.Value, .int .i64 x0.N])), (3, .v (.bool t5))]) (bx' := [(31, [.int .i64 x0.Kind, .int .i64 x0.Fact.Key, .int .i64 x0.Fact.From, .int .i64 x0.Fact.To, .int .i64 x0.Fact.Known, .int .i64 x0.Fact.Value, .int .i64 x0.Point.Month, .int .i64 x0.Point.Known, .int .i64 x0.Point.Value, .int .i64 x0.N])]) (by kernel_rfl) ?_
  obtain ⟨t9, h10, h11⟩ := bS h7
  refine JO_call0 rfl (by kernel_rfl) (f := 18) (args := #[.agg #[.int .i64 x0.Kind, .int .i64 x0.Fact.Key, .int .i64 x0.Fact.From, .int .i64 x0.Fact.To, .int .i64 x0.Fact.Known, .int .i64 x0.Fact.Value, .int .i64 x0.Point.Month, .int .i64 x0.Point.Known, .int .i64 x0.Point.Value, .int .i64 x0.N]]) (by kernel_rfl) (x := .agg #[.int .i64 t9.Kind, .int .i64 t9.Fact.Key, .int .i64 t9.Fact.From, .int .i64 t9.Fact.To, .int .i64 t9.Fact.Known, .int .i64 t9.Fact.Value, .int .i64 t9.Point.Month, .int .i64 t9.Point.Known, .int .i64 t9.Point.Value, .int .i64 t9.N]) (fun γ w hs => (c_laws_toAct h10)) (sl' := [(9, .v (.agg #[.int .i64 t9.Kind, .int .i64 t9.Fact.Key, .int .i64 t9.Fact.From, .int .i64 t9.Fact.To, .int .i64 t9.Fact.Known, .int .i64 t9.Fact.Value, .int .i64 t9.Point.Month, .int .i64 t9.Point.Known, .int .i64 t9.Point.Value, .int .i64 t9.N])), (8, .v (.agg #[.int .i64 x0.Kind, .int .i64 x0.Fact.Key, .int .i64 x0.Fact.From, .int .i64 x0.Fact.To, .int .i64 x0.Fact.Known, .int .i64 x0.Fact.Value, .int .i64 x0.Point.Month, .int .i64 x0.Point.Known, .int .i64 x0.Point.Value, .int .i64 x0.N])), (3, .v (.bool t5))]) (by kernel_rfl) ?_
  obtain ⟨t13, h14, h15⟩ := bS h11
  refine JO_call0 rfl (by kernel_rfl) (f := 19) (args := #[.agg #[.int .i64 t9.Kind, .int .i64 t9.Fact.Key, .int .i64 t9.Fact.From, .int .i64 t9.Fact.To, .int .i64 t9.Fact.Known, .int .i64 t9.Fact.Value, .int .i64 t9.Point.Month, .int .i64 t9.Point.Known, .int .i64 t9.Point.Value, .int .i64 t9.N]]) (by kernel_rfl) (x := .bool t13) (fun γ w hs => (c_impl_ActOk h14)) (sl' := [(10, .v (.bool t13)), (9, .v (.agg #[.int .i64 t9.Kind, .int .i64 t9.Fact.Key, .int .i64 t9.Fact.From, .int .i64 t9.Fact.To, .int .i64 t9.Fact.Known, .int .i64 t9.Fact.Value, .int .i64 t9.Point.Month, .int .i64 t9.Point.Known, .int .i64 t9.Point.Value, .int .i64 t9.N])), (8, .v (.agg #[.int .i64 x0.Kind, .int .i64 x0.Fact.Key, .int .i64 x0.Fact.From, .int .i64 x0.Fact.To, .int .i64 x0.Fact.Known, .int .i64 x0.Fact.Value, .int .i64 x0.Point.Month, .int .i64 x0.Point.Known, .int .i64 x0.Point.Value, .int .i64 x0.N])), (3, .v (.bool t5))]) (by kernel_rfl) ?_
  refine JO_stepsK 1 [4, 3] (sl' := [(4, .v (.bool t13)), (3, .v (.bool t5))]) (bx' := [(31, [.int .i64 x0.Kind, .int .i64 x0.Fact.Key, .int .i64 x0.Fact.From, .int .i64 x0.Fact.To, .int .i64 x0.Fact.Known, .int .i64 x0.Fact.Value, .int .i64 x0.Point.Month, .int .i64 x0.Point.Known, .int .i64 x0.Point.Value, .int .i64 x0.N])]) (by kernel_rfl) ?_
  refine JO_end (by kernel_rfl) ?_
  refine JE_then ?_
  refine JC_seq ?_
  refine JC_seq ?_
  refine JC_region ?_
  refine JO_stepsK 3 [13] (sl' := [(13, .v (.bool (!(t13 == t5))))]) (bx' := [(31, [.int .i64 x0.Kind, .int .i64 x0.Fact.Key, .int .i64 x0.Fact.From, .int .i64 x0.Fact.To, .int .i64 x0.Fact.Known, .int .i64 x0.Fact.Value, .int .i64 x0.Point.Month, .int .i64 x0.Point.Known, .int .i64 x0.Point.Value, .int .i64 x0.N])]) (by kernel_rfl) ?_
  refine JO_end (by kernel_rfl) ?_
  refine JE_then ?_
  refine JC_cond (!(t13 == t5)) (by kernel_rfl) (fun b17 => ?_) (fun b17 => ?_)
  · have h18 := cT b17 h15
    refine JC_seq ?_
    refine JC_region ?_
    refine JO_stepsK 1 [2] (sl' := [(2, .v (.bool false))]) (bx' := [(31, [.int .i64 x0.Kind, .int .i64 x0.Fact.Key, .int .i64 x0.Fact.From, .int .i64 x0.Fact.To, .int .i64 x0.Fact.Known, .int .i64 x0.Fact.Value, .int .i64 x0.Point.Month, .int .i64 x0.Point.Known, .int .i64 x0.Point.Value, .int .i64 x0.N])]) (by kernel_rfl) ?_
    refine JO_end (by kernel_rfl) ?_
    refine JE_then ?_
    refine JC_ret ?_
    refine JE_then_ret ?_
    refine JE_ret (vs := [.bool false]) (by kernel_rfl) (fun γ w hs => ?_)
    rw [← sI h18]
    exact ⟨rfl, hs.kept.toBelow⟩
  · have h19 := cF b17 h15
    refine JC_skip ?_
    refine JE_then ?_
    refine JC_seq ?_
    refine JC_region ?_
    refine JO_stepsK 1 [2] (sl' := [(2, .v (.bool true))]) (bx' := [(31, [.int .i64 x0.Kind, .int .i64 x0.Fact.Key, .int .i64 x0.Fact.From, .int .i64 x0.Fact.To, .int .i64 x0.Fact.Known, .int .i64 x0.Fact.Value, .int .i64 x0.Point.Month, .int .i64 x0.Point.Known, .int .i64 x0.Point.Value, .int .i64 x0.N])]) (by kernel_rfl) ?_
    refine JO_end (by kernel_rfl) ?_
    refine JE_then ?_
    refine JC_ret ?_
    refine JE_ret (vs := [.bool true]) (by kernel_rfl) (fun γ w hs => ?_)
    rw [← sI h19]
    exact ⟨rfl, hs.kept.toBelow⟩
end Go.Pen
