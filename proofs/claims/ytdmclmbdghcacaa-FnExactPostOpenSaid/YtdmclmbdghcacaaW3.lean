/-
  Each Go function does what its plain function says: written by a program of ours.
-/
import Derived.Test.YtdmclmbdghcacaaW2
import Derived.Test.YtdmclmbdghcacaaProg
namespace Go.Pen
open Go.Proofs
set_option linter.unusedVariables false
set_option maxRecDepth 100000
set_option maxHeartbeats 1000000

theorem c_spec_CloseUpTo {W : World} {x0 : Books} {a0_0 : Option Addr} {c0_0 : Nat} {x1 : Int} {r : Books × Bool} (h : spec_CloseUpTo x0 x1 = some r) (hv0_0 : SlView W x0.Ledger.Postings a0_0 c0_0) :
    Gives Try.prog 51 #[.agg #[.slice a0_0 x0.Ledger.Postings.length c0_0, .int .i64 x0.Closed], .int .i64 x1] W (fun y : (Option Addr × Nat) => .tuple #[.agg #[.slice y.1 r.1.Ledger.Postings.length y.2, .int .i64 r.1.Closed], .bool r.2]) (fun y => [SlRes 93 r.1.Ledger.Postings y.1 y.2]) := by
  unfold spec_CloseUpTo at h
  refine enter (args := [.agg #[.slice a0_0 x0.Ledger.Postings.length c0_0, .int .i64 x0.Closed], .int .i64 x1]) Try.func51 rfl Try.ntmps51 (by kernel_rfl) ?_
  refine JC_seq ?_
  refine JC_region ?_
  refine JO_stepsK 3 [4, 2, 1] (sl' := [(4, .p 1 0), (2, .p 0 0), (1, .v (.int .i64 x1))]) (bx' := [(83, [.slice a0_0 x0.Ledger.Postings.length c0_0, .int .i64 x0.Closed]), (83, [.slice none 0 0, .int .i64 0])]) (by kernel_rfl) ?_
  refine JO_end (by kernel_rfl) ?_
  refine JE_then ?_
  refine JC_seq ?_
  refine JC_region ?_
  refine JO_stepsK 1 [7, 4, 2, 1] (sl' := [(7, .v (.agg #[.slice a0_0 x0.Ledger.Postings.length c0_0, .int .i64 x0.Closed])), (4, .p 1 0), (2, .p 0 0), (1, .v (.int .i64 x1))]) (bx' := [(83, [.slice a0_0 x0.Ledger.Postings.length c0_0, .int .i64 x0.Closed]), (83, [.slice none 0 0, .int .i64 0])]) (by kernel_rfl) ?_
  obtain ⟨t21, h22, h23⟩ := bS h
  refine JO_call rfl (by kernel_rfl) (f := 91) (args := #[.agg #[.slice a0_0 x0.Ledger.Postings.length c0_0, .int .i64 x0.Closed]]) (by kernel_rfl) (fun γ w hs => (by have vv := c_spec_l29Copy (W := w) h22 (hv0_0.kept hs.kept); exact vv)) (fun (y24 : (Option Addr × Nat)) => [(8, .v (.agg #[.slice y24.1 t21.Ledger.Postings.length y24.2, .int .i64 t21.Closed])), (7, .v (.agg #[.slice a0_0 x0.Ledger.Postings.length c0_0, .int .i64 x0.Closed])), (4, .p 1 0), (2, .p 0 0), (1, .v (.int .i64 x1))]) (fun y24 => by kernel_rfl) (fun y24 => ?_)
  refine JO_stepsK 2 [6, 4, 2, 1] (sl' := [(6, .p 2 0), (4, .p 1 0), (2, .p 0 0), (1, .v (.int .i64 x1))]) (bx' := [(83, [.slice a0_0 x0.Ledger.Postings.length c0_0, .int .i64 x0.Closed]), (83, [.slice none 0 0, .int .i64 0]), (83, [.slice y24.1 t21.Ledger.Postings.length y24.2, .int .i64 t21.Closed])]) (by kernel_rfl) ?_
  refine JO_end (by kernel_rfl) ?_
  refine JE_then ?_
  refine JC_seq ?_
  refine JC_seq ?_
  obtain ⟨p25, hE26, h27⟩ := bS h23
  refine JC_cut (τ := Unit) (fun _ => [(1, .v (.int .i64 x1)), (4, .p 1 0), (6, .p 2 0), (22, .v (.bool p25))]) (fun _ => [(83, [.slice a0_0 x0.Ledger.Postings.length c0_0, .int .i64 x0.Closed]), (83, [.slice none 0 0, .int .i64 0]), (83, [.slice y24.1 t21.Ledger.Postings.length y24.2, .int .i64 t21.Closed])]) (fun _ => [SlRes 93 t21.Ledger.Postings y24.1 y24.2]) ?_ (fun _ => ?_)
  · refine JC_region ?_
    refine JO_stepsK 1 [9, 6, 4, 2, 1] (sl' := [(9, .v (.agg #[.slice a0_0 x0.Ledger.Postings.length c0_0, .int .i64 x0.Closed])), (6, .p 2 0), (4, .p 1 0), (2, .p 0 0), (1, .v (.int .i64 x1))]) (bx' := [(83, [.slice a0_0 x0.Ledger.Postings.length c0_0, .int .i64 x0.Closed]), (83, [.slice none 0 0, .int .i64 0]), (83, [.slice y24.1 t21.Ledger.Postings.length y24.2, .int .i64 t21.Closed])]) (by kernel_rfl) ?_
    obtain ⟨t28, h29, h30⟩ := bS hE26
    refine JO_call0 rfl (by kernel_rfl) (f := 92) (args := #[.agg #[.slice a0_0 x0.Ledger.Postings.length c0_0, .int .i64 x0.Closed]]) (by kernel_rfl) (x := .bool t28) (fun γ w hs => (by have vv := c_spec_BooksOk (W := w) h29 (hv0_0.kept hs.kept); exact vv)) (sl' := [(10, .v (.bool t28)), (9, .v (.agg #[.slice a0_0 x0.Ledger.Postings.length c0_0, .int .i64 x0.Closed])), (6, .p 2 0), (4, .p 1 0), (2, .p 0 0), (1, .v (.int .i64 x1))]) (by kernel_rfl) ?_
    refine JO_stepsK 2 [12, 6, 4, 2, 1] (sl' := [(12, .v (.bool (!t28))), (6, .p 2 0), (4, .p 1 0), (2, .p 0 0), (1, .v (.int .i64 x1))]) (bx' := [(83, [.slice a0_0 x0.Ledger.Postings.length c0_0, .int .i64 x0.Closed]), (83, [.slice none 0 0, .int .i64 0]), (83, [.slice y24.1 t21.Ledger.Postings.length y24.2, .int .i64 t21.Closed])]) (by kernel_rfl) ?_
    refine JO_split 12 (!t28) (by kernel_rfl) (fun b32 => ?_) (fun b32 => ?_)
    · have h33 := cT b32 h30
      refine JO_stepsK 10 [22, 6, 4, 1] (sl' := [(22, .v (.bool true)), (6, .p 2 0), (4, .p 1 0), (1, .v (.int .i64 x1))]) (bx' := [(83, [.slice a0_0 x0.Ledger.Postings.length c0_0, .int .i64 x0.Closed]), (83, [.slice none 0 0, .int .i64 0]), (83, [.slice y24.1 t21.Ledger.Postings.length y24.2, .int .i64 t21.Closed])]) (by kernel_rfl) ?_
      refine JO_end (by kernel_rfl) ?_
      obtain rfl := sI h33
      exact JE_meet () [1, 4, 6, 22] [0] 3 (by kernel_rfl) (by kernel_rfl) (by kernel_rfl) (by kernel_rfl)
    · have h34 := cF b32 h30
      refine JO_stepsK 1 [13, 12, 6, 4, 2, 1] (sl' := [(13, .v (.int .i64 x1)), (12, .v (.bool false)), (6, .p 2 0), (4, .p 1 0), (2, .p 0 0), (1, .v (.int .i64 x1))]) (bx' := [(83, [.slice a0_0 x0.Ledger.Postings.length c0_0, .int .i64 x0.Closed]), (83, [.slice none 0 0, .int .i64 0]), (83, [.slice y24.1 t21.Ledger.Postings.length y24.2, .int .i64 t21.Closed])]) (by kernel_rfl) ?_
      obtain ⟨t35, h36, h37⟩ := bS h34
      refine JO_call0 rfl (by kernel_rfl) (f := 93) (args := #[.int .i64 x1]) (by kernel_rfl) (x := .bool t35) (fun γ w hs => (by have vv := c_spec_MonthOk (W := w) h36; exact vv)) (sl' := [(14, .v (.bool t35)), (13, .v (.int .i64 x1)), (12, .v (.bool false)), (6, .p 2 0), (4, .p 1 0), (2, .p 0 0), (1, .v (.int .i64 x1))]) (by kernel_rfl) ?_
      refine JO_stepsK 3 [17, 6, 4, 2, 1] (sl' := [(17, .v (.bool (!t35))), (6, .p 2 0), (4, .p 1 0), (2, .p 0 0), (1, .v (.int .i64 x1))]) (bx' := [(83, [.slice a0_0 x0.Ledger.Postings.length c0_0, .int .i64 x0.Closed]), (83, [.slice none 0 0, .int .i64 0]), (83, [.slice y24.1 t21.Ledger.Postings.length y24.2, .int .i64 t21.Closed])]) (by kernel_rfl) ?_
      refine JO_split 17 (!t35) (by kernel_rfl) (fun b39 => ?_) (fun b39 => ?_)
      · have h40 := cT b39 h37
        refine JO_stepsK 5 [22, 6, 4, 1] (sl' := [(22, .v (.bool true)), (6, .p 2 0), (4, .p 1 0), (1, .v (.int .i64 x1))]) (bx' := [(83, [.slice a0_0 x0.Ledger.Postings.length c0_0, .int .i64 x0.Closed]), (83, [.slice none 0 0, .int .i64 0]), (83, [.slice y24.1 t21.Ledger.Postings.length y24.2, .int .i64 t21.Closed])]) (by kernel_rfl) ?_
        refine JO_end (by kernel_rfl) ?_
        obtain rfl := sI h40
        exact JE_meet () [1, 4, 6, 22] [0] 3 (by kernel_rfl) (by kernel_rfl) (by kernel_rfl) (by kernel_rfl)
      · have h41 := cF b39 h37
        refine JO_stepsK 5 [22, 6, 4, 1] (sl' := [(22, .v (.bool (decide (x1 < x0.Closed)))), (6, .p 2 0), (4, .p 1 0), (1, .v (.int .i64 x1))]) (bx' := [(83, [.slice a0_0 x0.Ledger.Postings.length c0_0, .int .i64 x0.Closed]), (83, [.slice none 0 0, .int .i64 0]), (83, [.slice y24.1 t21.Ledger.Postings.length y24.2, .int .i64 t21.Closed])]) (by kernel_rfl) ?_
        refine JO_end (by kernel_rfl) ?_
        obtain rfl := sI h41
        exact JE_meet () [1, 4, 6, 22] [0] 3 (by kernel_rfl) (by kernel_rfl) (by kernel_rfl) (by kernel_rfl)
  · skip
    refine JE_then ?_
    refine JC_cond p25 (by kernel_rfl) (fun b42 => ?_) (fun b42 => ?_)
    · have h43 := cT b42 h27
      refine JC_seq ?_
      refine JC_region ?_
      refine JO_stepsK 3 [5, 4] (sl' := [(5, .v (.bool false)), (4, .p 1 0)]) (bx' := [(83, [.slice a0_0 x0.Ledger.Postings.length c0_0, .int .i64 x0.Closed]), (83, [.slice y24.1 t21.Ledger.Postings.length y24.2, .int .i64 t21.Closed]), (83, [.slice y24.1 t21.Ledger.Postings.length y24.2, .int .i64 t21.Closed])]) (by kernel_rfl) ?_
      refine JO_end (by kernel_rfl) ?_
      refine JE_then ?_
      refine JC_ret ?_
      refine JE_then_ret ?_
      refine JE_ret (vs := [.agg #[.slice y24.1 t21.Ledger.Postings.length y24.2, .int .i64 t21.Closed], .bool false]) (by kernel_rfl) (fun γ w hs => ?_)
      rw [← sI h43]
      exact ⟨(y24.1, y24.2), rfl, hs.kept.toBelow, (hs.takeR (is := [0]) rfl).fresh⟩
    · have h44 := cF b42 h27
      refine JC_skip ?_
      refine JE_then ?_
      refine JC_seq ?_
      refine JC_region ?_
      refine JO_stepsK 3 [4, 6] (sl' := [(4, .p 1 0), (6, .p 2 0)]) (bx' := [(83, [.slice a0_0 x0.Ledger.Postings.length c0_0, .int .i64 x0.Closed]), (83, [.slice none 0 0, .int .i64 0]), (83, [.slice y24.1 t21.Ledger.Postings.length y24.2, .int .i64 x1])]) (by kernel_rfl) ?_
      refine JO_end (by kernel_rfl) ?_
      refine JE_then ?_
      refine JC_seq ?_
      refine JC_region ?_
      refine JO_stepsK 3 [5, 4] (sl' := [(5, .v (.bool true)), (4, .p 1 0)]) (bx' := [(83, [.slice a0_0 x0.Ledger.Postings.length c0_0, .int .i64 x0.Closed]), (83, [.slice y24.1 t21.Ledger.Postings.length y24.2, .int .i64 x1]), (83, [.slice y24.1 t21.Ledger.Postings.length y24.2, .int .i64 x1])]) (by kernel_rfl) ?_
      refine JO_end (by kernel_rfl) ?_
      refine JE_then ?_
      refine JC_ret ?_
      refine JE_ret (vs := [.agg #[.slice y24.1 t21.Ledger.Postings.length y24.2, .int .i64 x1], .bool true]) (by kernel_rfl) (fun γ w hs => ?_)
      rw [← sI h44]
      exact ⟨(y24.1, y24.2), rfl, hs.kept.toBelow, (hs.takeR (is := [0]) rfl).fresh⟩

theorem c_slices_Clone_Posting {W : World} {x0 : List Posting} {a0_0 : Option Addr} {c0_0 : Nat} {r : (List Posting)} (h : slices_Clone_Posting x0 = some r) (hv0_0 : SlView W x0 a0_0 c0_0) :
    Gives Try.prog 130 #[.slice a0_0 x0.length c0_0] W (fun y : (Option Addr × Nat) => .slice y.1 r.length y.2) (fun y => [SlRes 93 r y.1 y.2]) := by
  unfold slices_Clone_Posting at h
  refine enter (args := [.slice a0_0 x0.length c0_0]) Try.func130 rfl Try.ntmps130 (by kernel_rfl) ?_
  refine JC_seq ?_
  refine JC_region ?_
  refine JO_stepsK 1 [0] (sl' := [(0, .v (.slice a0_0 x0.length c0_0))]) (bx' := []) (by kernel_rfl) ?_
  refine JO_end (by kernel_rfl) ?_
  refine JE_then ?_
  refine JC_seq ?_
  refine JC_seq ?_
  refine JC_region ?_
  refine JO_stepsK 1 [3, 0] (sl' := [(3, .v (.slice a0_0 x0.length c0_0)), (0, .v (.slice a0_0 x0.length c0_0))]) (bx' := []) (by kernel_rfl) ?_
  rcases a0_0 with _ | d21
  · obtain rfl := hv0_0.nil rfl
    obtain rfl := hv0_0.nilE
    have h22 : (some ([] : List Posting)) = some r := h
    refine JO_stepsK 1 [4, 0] (sl' := [(4, .v (.bool true)), (0, .v (.slice none 0 0))]) (bx' := []) (by kernel_rfl) ?_
    refine JO_end (by kernel_rfl) ?_
    refine JE_then ?_
    refine JC_cond true (by kernel_rfl) (fun _ => ?_) (fun hb => by cases hb)
    refine JC_seq ?_
    refine JC_region ?_
    refine JO_stepsK 1 [2] (sl' := [(2, .v (.slice none 0 0))]) (bx' := []) (by kernel_rfl) ?_
    refine JO_end (by kernel_rfl) ?_
    refine JE_then ?_
    refine JC_ret ?_
    refine JE_then_ret ?_
    refine JE_addnil 93 (List.nil (α := Posting)) rfl ?_
    refine JE_ret (vs := [.slice none 0 0]) (by kernel_rfl) (fun γ w hs => ?_)
    rw [← sI h22]
    exact ⟨(none, 0), rfl, hs.kept.toBelow, (hs.takeR (is := [0]) rfl).fresh⟩
  · skip
    refine JO_stepsK 1 [4, 0] (sl' := [(4, .v (.bool false)), (0, .v (.slice (some d21) x0.length c0_0))]) (bx' := []) (by kernel_rfl) ?_
    refine JO_end (by kernel_rfl) ?_
    refine JE_then ?_
    refine JC_cond false (by kernel_rfl) (fun hb => by cases hb) (fun _ => ?_)
    refine JC_skip ?_
    refine JE_then ?_
    refine JC_seq ?_
    refine JC_region ?_
    refine JO_bslice rfl (by kernel_rfl) (e := 93) (len := 0) (cs := []) (by kernel_rfl) (xs := ([] : List Posting)) rfl (by kernel_rfl) (Rc := []) (Rr := []) rfl (own_flat (by kernel_rfl)) (fun y24 => [(5, .v (.slice y24.1 ([] : List Posting).length y24.2)), (4, .v (.bool false)), (0, .v (.slice (some d21) x0.length c0_0))]) (fun y24 => by kernel_rfl) (fun y24 => ?_)
    refine JO_stepsK 1 [6, 5] (sl' := [(6, .v (.slice (some d21) x0.length c0_0)), (5, .v (.slice y24.1 ([] : List Posting).length y24.2))]) (bx' := []) (by kernel_rfl) ?_
    obtain ⟨l27, hm28, h29⟩ := bS h
    refine JO_appendV (α := Posting) rfl (by kernel_rfl) (t := 79) (e := 93) (a1 := y24.1) (a2 := (some d21)) (c1 := y24.2) (c2 := c0_0) (l1 := ([] : List Posting)) (l2 := x0) (by kernel_rfl) (i := Try.t93) (by kernel_rfl) (z := (.agg #[.int .i64 0, .int .i64 0, .int .i64 0, .int .i64 0])) (by kernel_rfl) (by kernel_rfl) (by kernel_rfl) (by kernel_rfl) (fun γ w hs => ⟨c0_0, (hv0_0.kept hs.kept)⟩) (Rr := []) rfl hm28 (fun y26 => [(7, .v (.slice y26.1 l27.length y26.2)), (6, .v (.slice (some d21) x0.length c0_0)), (5, .v (.slice y24.1 ([] : List Posting).length y24.2))]) (fun y26 => by kernel_rfl) (fun y26 => ?_)
    refine JO_stepsK 1 [2] (sl' := [(2, .v (.slice y26.1 l27.length y26.2))]) (bx' := []) (by kernel_rfl) ?_
    refine JO_end (by kernel_rfl) ?_
    refine JE_then ?_
    refine JC_ret ?_
    refine JE_ret (vs := [.slice y26.1 l27.length y26.2]) (by kernel_rfl) (fun γ w hs => ?_)
    rw [← sI h29]
    exact ⟨(y26.1, y26.2), rfl, hs.kept.toBelow, (hs.takeR (is := [0]) rfl).fresh⟩

theorem c_impl_copyLedger {W : World} {x0 : Ledger} {a0_0 : Option Addr} {c0_0 : Nat} {r : Ledger} (h : impl_copyLedger x0 = some r) (hv0_0 : SlView W x0.Postings a0_0 c0_0) :
    Gives Try.prog 125 #[.agg #[.slice a0_0 x0.Postings.length c0_0]] W (fun y : (Option Addr × Nat) => .agg #[.slice y.1 r.Postings.length y.2]) (fun y => [SlRes 93 r.Postings y.1 y.2]) := by
  unfold impl_copyLedger at h
  refine enter (args := [.agg #[.slice a0_0 x0.Postings.length c0_0]]) Try.func125 rfl Try.ntmps125 (by kernel_rfl) ?_
  refine JC_seq ?_
  refine JC_region ?_
  refine JO_stepsK 2 [2, 1] (sl' := [(2, .p 1 0), (1, .p 0 0)]) (bx' := [(81, [.slice a0_0 x0.Postings.length c0_0]), (81, [.slice none 0 0])]) (by kernel_rfl) ?_
  refine JO_end (by kernel_rfl) ?_
  refine JE_then ?_
  refine JC_seq ?_
  refine JC_region ?_
  refine JO_stepsK 2 [4, 2] (sl' := [(4, .v (.slice a0_0 x0.Postings.length c0_0)), (2, .p 1 0)]) (bx' := [(81, [.slice a0_0 x0.Postings.length c0_0]), (81, [.slice none 0 0])]) (by kernel_rfl) ?_
  obtain ⟨t21, h22, h23⟩ := bS h
  refine JO_call rfl (by kernel_rfl) (f := 130) (args := #[.slice a0_0 x0.Postings.length c0_0]) (by kernel_rfl) (fun γ w hs => (by have vv := c_slices_Clone_Posting (W := w) h22 (hv0_0.kept hs.kept); exact vv)) (fun (y24 : (Option Addr × Nat)) => [(5, .v (.slice y24.1 t21.length y24.2)), (4, .v (.slice a0_0 x0.Postings.length c0_0)), (2, .p 1 0)]) (fun y24 => by kernel_rfl) (fun y24 => ?_)
  refine JO_stepsK 2 [2] (sl' := [(2, .p 1 0)]) (bx' := [(81, [.slice a0_0 x0.Postings.length c0_0]), (81, [.slice y24.1 t21.length y24.2])]) (by kernel_rfl) ?_
  refine JO_end (by kernel_rfl) ?_
  refine JE_then ?_
  refine JC_ret ?_
  refine JE_ret (vs := [.agg #[.slice y24.1 t21.length y24.2]]) (by kernel_rfl) (fun γ w hs => ?_)
  rw [← sI h23]
  exact ⟨(y24.1, y24.2), rfl, hs.kept.toBelow, (hs.takeR (is := [0]) rfl).fresh⟩

theorem c_impl_copyBooks {W : World} {x0 : Books} {a0_0 : Option Addr} {c0_0 : Nat} {r : Books} (h : impl_copyBooks x0 = some r) (hv0_0 : SlView W x0.Ledger.Postings a0_0 c0_0) :
    Gives Try.prog 95 #[.agg #[.slice a0_0 x0.Ledger.Postings.length c0_0, .int .i64 x0.Closed]] W (fun y : (Option Addr × Nat) => .agg #[.slice y.1 r.Ledger.Postings.length y.2, .int .i64 r.Closed]) (fun y => [SlRes 93 r.Ledger.Postings y.1 y.2]) := by
  unfold impl_copyBooks at h
  refine enter (args := [.agg #[.slice a0_0 x0.Ledger.Postings.length c0_0, .int .i64 x0.Closed]]) Try.func95 rfl Try.ntmps95 (by kernel_rfl) ?_
  refine JC_seq ?_
  refine JC_region ?_
  refine JO_stepsK 2 [2, 1] (sl' := [(2, .p 1 0), (1, .p 0 0)]) (bx' := [(83, [.slice a0_0 x0.Ledger.Postings.length c0_0, .int .i64 x0.Closed]), (83, [.slice none 0 0, .int .i64 0])]) (by kernel_rfl) ?_
  refine JO_end (by kernel_rfl) ?_
  refine JE_then ?_
  refine JC_seq ?_
  obtain ⟨t21, h22, h23⟩ := bS h
  refine JC_cut (τ := ((Option Addr × Nat))) (fun y25 => [(2, .p 1 0)]) (fun y25 => [(83, [.slice a0_0 x0.Ledger.Postings.length c0_0, .int .i64 x0.Closed]), (83, [.slice y25.1 t21.Postings.length y25.2, .int .i64 x0.Closed])]) (fun y25 => [SlRes 93 t21.Postings y25.1 y25.2]) ?_ (fun y25 => ?_)
  · refine JC_weak [2, 1] [] 2 (sl' := [(2, .p 1 0), (1, .p 0 0)]) (bx' := [(83, [.slice a0_0 x0.Ledger.Postings.length c0_0, .int .i64 x0.Closed]), (83, [.slice none 0 0, .int .i64 0])]) (R' := []) (by kernel_rfl) (by kernel_rfl) (by kernel_rfl) (by kernel_rfl) ?_
    refine JC_heldN (ks := [0]) (Rk := []) 7 (by kernel_rfl) (by kernel_rfl) ?_
    refine JH_take (fuel := 6) 0 (v := .p 0 0) [] rfl (by kernel_rfl) (by kernel_rfl) (by kernel_rfl) meet_nopanic (by kernel_rfl) (by kernel_rfl) (by kernel_rfl) (by kernel_rfl) (by simp [SV.inb]) (evQ_held (by kernel_rfl) (by kernel_rfl)) (sl' := [(3, .p 0 0), (2, .p 1 0), (1, .p 0 0)]) (by kernel_rfl) ?_
    refine JH_take (fuel := 5) 1 (v := .v (.agg #[.slice a0_0 x0.Ledger.Postings.length c0_0])) [] rfl (by kernel_rfl) (by kernel_rfl) (by kernel_rfl) meet_nopanic (by kernel_rfl) (by kernel_rfl) (by kernel_rfl) (by kernel_rfl) trivial (evQ_held (by kernel_rfl) (by kernel_rfl)) (sl' := [(4, .v (.agg #[.slice a0_0 x0.Ledger.Postings.length c0_0])), (3, .p 0 0), (2, .p 1 0), (1, .p 0 0)]) (by kernel_rfl) ?_
    refine JH_keep [4, 2, 1] (sl' := [(4, .v (.agg #[.slice a0_0 x0.Ledger.Postings.length c0_0])), (2, .p 1 0), (1, .p 0 0)]) (by kernel_rfl) ?_
    refine JH_take (fuel := 4) 3 (v := .p 0 1) [] rfl (by kernel_rfl) (by kernel_rfl) (by kernel_rfl) meet_nopanic (by kernel_rfl) (by kernel_rfl) (by kernel_rfl) (by kernel_rfl) (by simp [SV.inb]) (evQ_held (by kernel_rfl) (by kernel_rfl)) (sl' := [(6, .p 0 1), (4, .v (.agg #[.slice a0_0 x0.Ledger.Postings.length c0_0])), (2, .p 1 0), (1, .p 0 0)]) (by kernel_rfl) ?_
    refine JH_keep [6, 4, 2] (sl' := [(6, .p 0 1), (4, .v (.agg #[.slice a0_0 x0.Ledger.Postings.length c0_0])), (2, .p 1 0)]) (by kernel_rfl) ?_
    refine JH_take (fuel := 3) 4 (v := .v (.int .i64 x0.Closed)) [] rfl (by kernel_rfl) (by kernel_rfl) (by kernel_rfl) meet_nopanic (by kernel_rfl) (by kernel_rfl) (by kernel_rfl) (by kernel_rfl) trivial (evQ_held (by kernel_rfl) (by kernel_rfl)) (sl' := [(7, .v (.int .i64 x0.Closed)), (6, .p 0 1), (4, .v (.agg #[.slice a0_0 x0.Ledger.Postings.length c0_0])), (2, .p 1 0)]) (by kernel_rfl) ?_
    refine JH_keep [7, 4, 2] (sl' := [(7, .v (.int .i64 x0.Closed)), (4, .v (.agg #[.slice a0_0 x0.Ledger.Postings.length c0_0])), (2, .p 1 0)]) (by kernel_rfl) ?_
    refine JH_all (fuel := 2) [2] (by kernel_rfl) (by simp) (List.forall_mem_cons.2 ⟨?_, fun _ h => by cases h⟩)
    refine JHi_of rfl (fun γ0 δ hm => ?_)
    refine JG_call (by kernel_rfl) (f := 125) (args := #[.agg #[.slice a0_0 x0.Ledger.Postings.length c0_0]]) (by kernel_rfl) (fun w hs => (by have vv := c_impl_copyLedger (W := w) h22 (hv0_0.kept hs.kept); exact vv)) (fun (y24 : (Option Addr × Nat)) => [(5, .v (.agg #[.slice y24.1 t21.Postings.length y24.2])), (7, .v (.int .i64 x0.Closed)), (4, .v (.agg #[.slice a0_0 x0.Ledger.Postings.length c0_0])), (2, .p 1 0)]) (fun y24 => by kernel_rfl) (fun y24 => ?_)
    refine KG_next hm [5, 7, 2] [] (sl' := [(5, .v (.agg #[.slice y24.1 t21.Postings.length y24.2])), (7, .v (.int .i64 x0.Closed)), (2, .p 1 0)]) (by kernel_rfl) (by kernel_rfl) (by kernel_rfl) (by kernel_rfl) ?_
    refine JH_take (fuel := 1) 5 (v := .v (.agg #[.slice y24.1 t21.Postings.length y24.2, .int .i64 x0.Closed])) [] rfl (by kernel_rfl) (by kernel_rfl) (by kernel_rfl) meet_nopanic (by kernel_rfl) (by kernel_rfl) (by kernel_rfl) (by kernel_rfl) trivial (evQ_held (by kernel_rfl) (by kernel_rfl)) (sl' := [(8, .v (.agg #[.slice y24.1 t21.Postings.length y24.2, .int .i64 x0.Closed])), (5, .v (.agg #[.slice y24.1 t21.Postings.length y24.2])), (7, .v (.int .i64 x0.Closed)), (2, .p 1 0)]) (by kernel_rfl) ?_
    refine JH_keep [8, 2] (sl' := [(8, .v (.agg #[.slice y24.1 t21.Postings.length y24.2, .int .i64 x0.Closed])), (2, .p 1 0)]) (by kernel_rfl) ?_
    refine JH_all (fuel := 0) [6] (by kernel_rfl) (by simp) (List.forall_mem_cons.2 ⟨?_, fun _ h => by cases h⟩)
    refine JHi_of rfl (fun γ0 δ hm => ?_)
    refine JG_step (sl' := [(8, .v (.agg #[.slice y24.1 t21.Postings.length y24.2, .int .i64 x0.Closed])), (2, .p 1 0)]) (bx' := [(83, [.slice a0_0 x0.Ledger.Postings.length c0_0, .int .i64 x0.Closed]), (83, [.slice y24.1 t21.Postings.length y24.2, .int .i64 x0.Closed])]) (by kernel_rfl) (fun δ2 => ?_)
    refine KG_nextD hm [2] [] (sl' := [(2, .p 1 0)]) (by kernel_rfl) (by kernel_rfl) (by kernel_rfl) (by kernel_rfl) ?_
    exact JH_done (by kernel_rfl) y24 [2] [0] 2 (by kernel_rfl) (by kernel_rfl) (by kernel_rfl) (by kernel_rfl)
  · skip
    refine JE_then ?_
    refine JC_ret ?_
    refine JE_ret (vs := [.agg #[.slice y25.1 t21.Postings.length y25.2, .int .i64 x0.Closed]]) (by kernel_rfl) (fun γ w hs => ?_)
    rw [← sI h23]
    exact ⟨(y25.1, y25.2), rfl, hs.kept.toBelow, (hs.takeR (is := [0]) rfl).fresh⟩

theorem c_impl_PostingOk {W : World} {x0 : Posting} {r : Bool} (h : impl_PostingOk x0 = some r)  :
    Gives0 Try.prog 104 #[.agg #[.int .i64 x0.Month, .int .i64 x0.Debit, .int .i64 x0.Credit, .int .i64 x0.Cents]] W (.bool r) := by
  unfold impl_PostingOk at h
  refine enter (args := [.agg #[.int .i64 x0.Month, .int .i64 x0.Debit, .int .i64 x0.Credit, .int .i64 x0.Cents]]) Try.func104 rfl Try.ntmps104 (by kernel_rfl) ?_
  refine JC_seq ?_
  refine JC_region ?_
  refine JO_stepsK 2 [1] (sl' := [(1, .p 0 0)]) (bx' := [(93, [.int .i64 x0.Month, .int .i64 x0.Debit, .int .i64 x0.Credit, .int .i64 x0.Cents])]) (by kernel_rfl) ?_
  refine JO_end (by kernel_rfl) ?_
  refine JE_then ?_
  refine JC_seq ?_
  obtain ⟨p21, hE22, h23⟩ := bS h
  refine JC_cut (τ := Unit) (fun _ => [(2, .v (.bool p21))]) (fun _ => [(93, [.int .i64 x0.Month, .int .i64 x0.Debit, .int .i64 x0.Credit, .int .i64 x0.Cents])]) (fun _ => []) ?_ (fun _ => ?_)
  · refine JC_region ?_
    refine JO_stepsK 2 [4, 1] (sl' := [(4, .v (.int .i64 x0.Month)), (1, .p 0 0)]) (bx' := [(93, [.int .i64 x0.Month, .int .i64 x0.Debit, .int .i64 x0.Credit, .int .i64 x0.Cents])]) (by kernel_rfl) ?_
    obtain ⟨t24, h25, h26⟩ := bS hE22
    refine JO_call0 rfl (by kernel_rfl) (f := 97) (args := #[.int .i64 x0.Month]) (by kernel_rfl) (x := .bool t24) (fun γ w hs => (by have vv := c_impl_MonthOk (W := w) h25; exact vv)) (sl' := [(5, .v (.bool t24)), (4, .v (.int .i64 x0.Month)), (1, .p 0 0)]) (by kernel_rfl) ?_
    refine JO_stepsK 1 [6, 1] (sl' := [(6, .v (.bool t24)), (1, .p 0 0)]) (bx' := [(93, [.int .i64 x0.Month, .int .i64 x0.Debit, .int .i64 x0.Credit, .int .i64 x0.Cents])]) (by kernel_rfl) ?_
    refine JO_split 6 t24 (by kernel_rfl) (fun b28 => ?_) (fun b28 => ?_)
    · have h29 := cT b28 h26
      refine JO_stepsK 2 [8, 6, 1] (sl' := [(8, .v (.int .i64 x0.Debit)), (6, .v (.bool true)), (1, .p 0 0)]) (bx' := [(93, [.int .i64 x0.Month, .int .i64 x0.Debit, .int .i64 x0.Credit, .int .i64 x0.Cents])]) (by kernel_rfl) ?_
      obtain ⟨t31, h32, h33⟩ := bS h29
      refine JO_call0 rfl (by kernel_rfl) (f := 67) (args := #[.int .i64 x0.Debit, .int .i64 1, .int .i64 9]) (by kernel_rfl) (x := .bool t31) (fun γ w hs => (by have vv := c_impl_within (W := w) h32; exact vv)) (sl' := [(9, .v (.bool t31)), (8, .v (.int .i64 x0.Debit)), (6, .v (.bool true)), (1, .p 0 0)]) (by kernel_rfl) ?_
      refine JO_stepsK 2 [11, 1] (sl' := [(11, .v (.bool t31)), (1, .p 0 0)]) (bx' := [(93, [.int .i64 x0.Month, .int .i64 x0.Debit, .int .i64 x0.Credit, .int .i64 x0.Cents])]) (by kernel_rfl) ?_
      refine JO_split 11 t31 (by kernel_rfl) (fun b35 => ?_) (fun b35 => ?_)
      · have h36 := cT b35 h33
        refine JO_stepsK 2 [13, 11, 1] (sl' := [(13, .v (.int .i64 x0.Credit)), (11, .v (.bool true)), (1, .p 0 0)]) (bx' := [(93, [.int .i64 x0.Month, .int .i64 x0.Debit, .int .i64 x0.Credit, .int .i64 x0.Cents])]) (by kernel_rfl) ?_
        obtain ⟨t38, h39, h40⟩ := bS h36
        refine JO_call0 rfl (by kernel_rfl) (f := 67) (args := #[.int .i64 x0.Credit, .int .i64 1, .int .i64 9]) (by kernel_rfl) (x := .bool t38) (fun γ w hs => (by have vv := c_impl_within (W := w) h39; exact vv)) (sl' := [(14, .v (.bool t38)), (13, .v (.int .i64 x0.Credit)), (11, .v (.bool true)), (1, .p 0 0)]) (by kernel_rfl) ?_
        refine JO_stepsK 2 [16, 1] (sl' := [(16, .v (.bool t38)), (1, .p 0 0)]) (bx' := [(93, [.int .i64 x0.Month, .int .i64 x0.Debit, .int .i64 x0.Credit, .int .i64 x0.Cents])]) (by kernel_rfl) ?_
        refine JO_split 16 t38 (by kernel_rfl) (fun b42 => ?_) (fun b42 => ?_)
        · have h43 := cT b42 h40
          refine JO_stepsK 7 [23, 1] (sl' := [(23, .v (.bool (x0.Debit != x0.Credit))), (1, .p 0 0)]) (bx' := [(93, [.int .i64 x0.Month, .int .i64 x0.Debit, .int .i64 x0.Credit, .int .i64 x0.Cents])]) (by kernel_rfl) ?_
          refine JO_split 23 (x0.Debit != x0.Credit) (by kernel_rfl) (fun b45 => ?_) (fun b45 => ?_)
          · have h46 := cT b45 h43
            refine JO_stepsK 2 [25, 23] (sl' := [(25, .v (.int .i64 x0.Cents)), (23, .v (.bool true))]) (bx' := [(93, [.int .i64 x0.Month, .int .i64 x0.Debit, .int .i64 x0.Credit, .int .i64 x0.Cents])]) (by kernel_rfl) ?_
            obtain ⟨t48, h49, h50⟩ := bS h46
            refine JO_call0 rfl (by kernel_rfl) (f := 67) (args := #[.int .i64 x0.Cents, .int .i64 1, .int .i64 1000000000]) (by kernel_rfl) (x := .bool t48) (fun γ w hs => (by have vv := c_impl_within (W := w) h49; exact vv)) (sl' := [(26, .v (.bool t48)), (25, .v (.int .i64 x0.Cents)), (23, .v (.bool true))]) (by kernel_rfl) ?_
            refine JO_stepsK 2 [2] (sl' := [(2, .v (.bool t48))]) (bx' := [(93, [.int .i64 x0.Month, .int .i64 x0.Debit, .int .i64 x0.Credit, .int .i64 x0.Cents])]) (by kernel_rfl) ?_
            refine JO_end (by kernel_rfl) ?_
            obtain rfl := sI h50
            exact JE_meet () [2] [] 1 (by kernel_rfl) (by kernel_rfl) (by kernel_rfl) (by kernel_rfl)
          · have h47 := cF b45 h43
            refine JO_stepsK 5 [2] (sl' := [(2, .v (.bool false))]) (bx' := [(93, [.int .i64 x0.Month, .int .i64 x0.Debit, .int .i64 x0.Credit, .int .i64 x0.Cents])]) (by kernel_rfl) ?_
            refine JO_end (by kernel_rfl) ?_
            obtain rfl := sI h47
            exact JE_meet () [2] [] 1 (by kernel_rfl) (by kernel_rfl) (by kernel_rfl) (by kernel_rfl)
        · have h44 := cF b42 h40
          refine JO_stepsK 12 [2] (sl' := [(2, .v (.bool false))]) (bx' := [(93, [.int .i64 x0.Month, .int .i64 x0.Debit, .int .i64 x0.Credit, .int .i64 x0.Cents])]) (by kernel_rfl) ?_
          refine JO_end (by kernel_rfl) ?_
          obtain rfl := sI h44
          exact JE_meet () [2] [] 1 (by kernel_rfl) (by kernel_rfl) (by kernel_rfl) (by kernel_rfl)
      · have h37 := cF b35 h33
        refine JO_stepsK 17 [2] (sl' := [(2, .v (.bool false))]) (bx' := [(93, [.int .i64 x0.Month, .int .i64 x0.Debit, .int .i64 x0.Credit, .int .i64 x0.Cents])]) (by kernel_rfl) ?_
        refine JO_end (by kernel_rfl) ?_
        obtain rfl := sI h37
        exact JE_meet () [2] [] 1 (by kernel_rfl) (by kernel_rfl) (by kernel_rfl) (by kernel_rfl)
    · have h30 := cF b28 h26
      refine JO_stepsK 22 [2] (sl' := [(2, .v (.bool false))]) (bx' := [(93, [.int .i64 x0.Month, .int .i64 x0.Debit, .int .i64 x0.Credit, .int .i64 x0.Cents])]) (by kernel_rfl) ?_
      refine JO_end (by kernel_rfl) ?_
      obtain rfl := sI h30
      exact JE_meet () [2] [] 1 (by kernel_rfl) (by kernel_rfl) (by kernel_rfl) (by kernel_rfl)
  · skip
    refine JE_then ?_
    refine JC_ret ?_
    refine JE_ret (vs := [.bool p21]) (by kernel_rfl) (fun γ w hs => ?_)
    rw [← sI h23]
    exact ⟨rfl, hs.kept.toBelow⟩

theorem c_impl_LedgerOk_1 {W : World} {x0 : Posting} {r : Bool} (h : impl_LedgerOk_1 x0 = some r)  :
    Gives0 Try.prog 138 #[.agg #[.int .i64 x0.Month, .int .i64 x0.Debit, .int .i64 x0.Credit, .int .i64 x0.Cents]] W (.bool r) := by
  unfold impl_LedgerOk_1 at h
  refine enter (args := [.agg #[.int .i64 x0.Month, .int .i64 x0.Debit, .int .i64 x0.Credit, .int .i64 x0.Cents]]) Try.func138 rfl Try.ntmps138 (by kernel_rfl) ?_
  refine JC_seq ?_
  refine JC_region ?_
  refine JO_stepsK 2 [1] (sl' := [(1, .p 0 0)]) (bx' := [(93, [.int .i64 x0.Month, .int .i64 x0.Debit, .int .i64 x0.Credit, .int .i64 x0.Cents])]) (by kernel_rfl) ?_
  refine JO_end (by kernel_rfl) ?_
  refine JE_then ?_
  refine JC_seq ?_
  refine JC_region ?_
  refine JO_stepsK 1 [3] (sl' := [(3, .v (.agg #[.int .i64 x0.Month, .int .i64 x0.Debit, .int .i64 x0.Credit, .int .i64 x0.Cents]))]) (bx' := [(93, [.int .i64 x0.Month, .int .i64 x0.Debit, .int .i64 x0.Credit, .int .i64 x0.Cents])]) (by kernel_rfl) ?_
  obtain ⟨t21, h22, h23⟩ := bS h
  refine JO_call0 rfl (by kernel_rfl) (f := 104) (args := #[.agg #[.int .i64 x0.Month, .int .i64 x0.Debit, .int .i64 x0.Credit, .int .i64 x0.Cents]]) (by kernel_rfl) (x := .bool t21) (fun γ w hs => (by have vv := c_impl_PostingOk (W := w) h22; exact vv)) (sl' := [(4, .v (.bool t21)), (3, .v (.agg #[.int .i64 x0.Month, .int .i64 x0.Debit, .int .i64 x0.Credit, .int .i64 x0.Cents]))]) (by kernel_rfl) ?_
  refine JO_stepsK 2 [2] (sl' := [(2, .v (.bool (!t21)))]) (bx' := [(93, [.int .i64 x0.Month, .int .i64 x0.Debit, .int .i64 x0.Credit, .int .i64 x0.Cents])]) (by kernel_rfl) ?_
  refine JO_end (by kernel_rfl) ?_
  refine JE_then ?_
  refine JC_ret ?_
  refine JE_ret (vs := [.bool (!t21)]) (by kernel_rfl) (fun γ w hs => ?_)
  rw [← sI h23]
  exact ⟨rfl, hs.kept.toBelow⟩

theorem c_slices_IndexFunc_Posting__impl_LedgerOk_1 {W : World} {x0 : List Posting} {a0_0 : Option Addr} {c0_0 : Nat} {r : Int} (h : slices_IndexFunc_Posting__impl_LedgerOk_1 x0 = some r) (hv0_0 : SlView W x0 a0_0 c0_0) :
    Gives0 Try.prog 143 #[.slice a0_0 x0.length c0_0, .func (.func 138) #[] #[]] W (.int .i64 r) := by
  unfold slices_IndexFunc_Posting__impl_LedgerOk_1 at h
  refine enter (args := [.slice a0_0 x0.length c0_0, .func (.func 138) #[] #[]]) Try.func143 rfl Try.ntmps143 (by kernel_rfl) ?_
  refine JC_seq ?_
  refine JC_region ?_
  refine JO_stepsK 1 [0, 1] (sl' := [(0, .v (.slice a0_0 x0.length c0_0)), (1, .v (.func (.func 138) #[] #[]))]) (bx' := []) (by kernel_rfl) ?_
  refine JO_end (by kernel_rfl) ?_
  refine JE_then ?_
  refine JC_seq ?_
  refine JC_seq ?_
  refine JC_region ?_
  refine JO_stepsK 3 [8, 7, 0, 1] (sl' := [(8, .v (.int .i64 0)), (7, .v (.int .i64 (x0.length : Int))), (0, .v (.slice a0_0 x0.length c0_0)), (1, .v (.func (.func 138) #[] #[]))]) (bx' := []) (by kernel_rfl) ?_
  refine JO_end (by kernel_rfl) ?_
  refine JE_then ?_
  obtain ⟨r24, hL25, h26⟩ := bS h
  obtain ⟨k27, hk28, h26⟩ := brkS h26
  refine JC_cutP (τ := (Unit) × (Unit)) (fun y => k27 y.1 = some r) (fun y32 => []) (fun y32 => []) (fun y32 => []) ?_ (fun y32 h33p => ?_)
  · refine JC_block ?_
    refine JC_loop (τ := Unit) hL25 (fun s21 y22 => [(8, .v (.int .i64 s21)), (7, .v (.int .i64 (x0.length : Int))), (0, .v (.slice a0_0 x0.length c0_0)), (1, .v (.func (.func 138) #[] #[]))]) (fun s21 y22 => []) (fun s21 y22 => []) () [8, 7, 0, 1] [] 0 (by kernel_rfl) (by kernel_rfl) (by kernel_rfl) (by kernel_rfl) (fun s21 y22 t23 h29 hd30 => ?_)
    refine JC_seq ?_
    refine JC_region ?_
    refine JO_stepsK 1 [9, 8, 7, 0, 1] (sl' := [(9, .v (.bool (decide (s21 < (x0.length : Int))))), (8, .v (.int .i64 s21)), (7, .v (.int .i64 (x0.length : Int))), (0, .v (.slice a0_0 x0.length c0_0)), (1, .v (.func (.func 138) #[] #[]))]) (bx' := []) (by kernel_rfl) ?_
    refine JO_end (by kernel_rfl) ?_
    refine JE_then ?_
    refine JC_seq ?_
    refine JC_cond (decide (s21 < (x0.length : Int))) (by kernel_rfl) (fun b34 => ?_) (fun b34 => ?_)
    · have h35 := cT b34 h29
      refine JC_skip ?_
      refine JE_then ?_
      refine JC_seq ?_
      refine JC_block ?_
      refine JC_seq ?_
      refine JC_region ?_
      refine JO_stepsK 2 [5, 8, 7, 0, 1] (sl' := [(5, .v (.int .i64 s21)), (8, .v (.int .i64 s21)), (7, .v (.int .i64 (x0.length : Int))), (0, .v (.slice a0_0 x0.length c0_0)), (1, .v (.func (.func 138) #[] #[]))]) (bx' := []) (by kernel_rfl) ?_
      refine JO_end (by kernel_rfl) ?_
      refine JE_then ?_
      refine JC_seq ?_
      refine JC_region ?_
      refine JO_stepsK 3 [13, 12, 11, 5, 8, 7, 0, 1] (sl' := [(13, .v (.int .i64 s21)), (12, .v (.slice a0_0 x0.length c0_0)), (11, .v (.func (.func 138) #[] #[])), (5, .v (.int .i64 s21)), (8, .v (.int .i64 s21)), (7, .v (.int .i64 (x0.length : Int))), (0, .v (.slice a0_0 x0.length c0_0)), (1, .v (.func (.func 138) #[] #[]))]) (bx' := []) (by kernel_rfl) ?_
      obtain ⟨x37, hx38, h39⟩ := bS h35
      refine JO_index rfl (by kernel_rfl) (d := a0_0) (m := x0.length) (j := s21) (s := 4) (by kernel_rfl) (fun γ w hs => (hv0_0.kept hs.kept)) rfl hx38 (sl' := [(14, .q a0_0 (Int.toNat s21 * 4)), (13, .v (.int .i64 s21)), (12, .v (.slice a0_0 x0.length c0_0)), (11, .v (.func (.func 138) #[] #[])), (5, .v (.int .i64 s21)), (8, .v (.int .i64 s21)), (7, .v (.int .i64 (x0.length : Int))), (0, .v (.slice a0_0 x0.length c0_0)), (1, .v (.func (.func 138) #[] #[]))]) (by kernel_rfl) ?_
      refine JO_loadq rfl (by kernel_rfl) (t := 93) (d := a0_0) (Int.toNat s21 * 4) 0 (by kernel_rfl) (cs := [.int .i64 x37.Month, .int .i64 x37.Debit, .int .i64 x37.Credit, .int .i64 x37.Cents]) (v := .agg #[.int .i64 x37.Month, .int .i64 x37.Debit, .int .i64 x37.Credit, .int .i64 x37.Cents]) (fun γ w hs => (hv0_0.kept hs.kept).flatq hx38) (by kernel_rfl) (sl' := [(15, .v (.agg #[.int .i64 x37.Month, .int .i64 x37.Debit, .int .i64 x37.Credit, .int .i64 x37.Cents])), (14, .q a0_0 (Int.toNat s21 * 4)), (13, .v (.int .i64 s21)), (12, .v (.slice a0_0 x0.length c0_0)), (11, .v (.func (.func 138) #[] #[])), (5, .v (.int .i64 s21)), (8, .v (.int .i64 s21)), (7, .v (.int .i64 (x0.length : Int))), (0, .v (.slice a0_0 x0.length c0_0)), (1, .v (.func (.func 138) #[] #[]))]) (by kernel_rfl) ?_
      obtain ⟨t40, h41, h42⟩ := bS h39
      refine JO_call0 rfl (by kernel_rfl) (f := 138) (args := #[.agg #[.int .i64 x37.Month, .int .i64 x37.Debit, .int .i64 x37.Credit, .int .i64 x37.Cents]]) (by kernel_rfl) (x := .bool t40) (fun γ w hs => (by have vv := c_impl_LedgerOk_1 (W := w) h41; exact vv)) (sl' := [(16, .v (.bool t40)), (15, .v (.agg #[.int .i64 x37.Month, .int .i64 x37.Debit, .int .i64 x37.Credit, .int .i64 x37.Cents])), (14, .q a0_0 (Int.toNat s21 * 4)), (13, .v (.int .i64 s21)), (12, .v (.slice a0_0 x0.length c0_0)), (11, .v (.func (.func 138) #[] #[])), (5, .v (.int .i64 s21)), (8, .v (.int .i64 s21)), (7, .v (.int .i64 (x0.length : Int))), (0, .v (.slice a0_0 x0.length c0_0)), (1, .v (.func (.func 138) #[] #[]))]) (by kernel_rfl) ?_
      refine JO_end (by kernel_rfl) ?_
      refine JE_then ?_
      refine JC_cond t40 (by kernel_rfl) (fun b44 => ?_) (fun b44 => ?_)
      · have h45 := cT b44 h42
        refine JC_seq ?_
        refine JC_region ?_
        refine JO_stepsK 2 [4] (sl' := [(4, .v (.int .i64 s21))]) (bx' := []) (by kernel_rfl) ?_
        refine JO_end (by kernel_rfl) ?_
        refine JE_then ?_
        refine JC_ret ?_
        refine JE_block_ret ?_
        refine JE_then_ret ?_
        refine JE_then_ret ?_
        have h47 := leafR hd30 h45 h26
        refine JE_block_ret ?_
        refine JE_then_ret ?_
        refine JE_then_ret ?_
        refine JE_ret (vs := [.int .i64 s21]) (by kernel_rfl) (fun γ w hs => ?_)
        rw [← sI h47]
        exact ⟨rfl, hs.kept.toBelow⟩
      · have h46 := cF b44 h42
        refine JC_skip ?_
        refine JE_block_normal ?_
        refine JE_then ?_
        refine JC_region ?_
        refine JO_stepsK 2 [8, 7, 0, 1] (sl' := [(8, .v (.int .i64 (w64 (s21 + 1)))), (7, .v (.int .i64 (x0.length : Int))), (0, .v (.slice a0_0 x0.length c0_0)), (1, .v (.func (.func 138) #[] #[]))]) (bx' := []) (by kernel_rfl) ?_
        refine JO_end (by kernel_rfl) ?_
        exact JE_cont h46 () [8, 7, 0, 1] [] 0 (by kernel_rfl) (by kernel_rfl) (by kernel_rfl) (by kernel_rfl)
    · have h36 := cF b34 h29
      refine JC_exit ?_
      refine JE_then_exit ?_
      refine JE_then_exit ?_
      refine JE_block_hit ?_
      have h48 := leafB hd30 h36 h26
      exact JE_meetP ((), ()) h48 [] [] 0 (by kernel_rfl) (by kernel_rfl) (by kernel_rfl) (by kernel_rfl)
  · have h33 := (congrFun hk28 _).symm.trans h33p
    refine JE_then ?_
    refine JC_seq ?_
    refine JC_region ?_
    refine JO_stepsK 1 [4] (sl' := [(4, .v (.int .i64 (-1)))]) (bx' := []) (by kernel_rfl) ?_
    refine JO_end (by kernel_rfl) ?_
    refine JE_then ?_
    refine JC_ret ?_
    refine JE_ret (vs := [.int .i64 (-1)]) (by kernel_rfl) (fun γ w hs => ?_)
    rw [← sI h33]
    exact ⟨rfl, hs.kept.toBelow⟩

theorem c_slices_ContainsFunc_Posting__impl_LedgerOk_1 {W : World} {x0 : List Posting} {a0_0 : Option Addr} {c0_0 : Nat} {r : Bool} (h : slices_ContainsFunc_Posting__impl_LedgerOk_1 x0 = some r) (hv0_0 : SlView W x0 a0_0 c0_0) :
    Gives0 Try.prog 137 #[.slice a0_0 x0.length c0_0, .func (.func 138) #[] #[]] W (.bool r) := by
  unfold slices_ContainsFunc_Posting__impl_LedgerOk_1 at h
  refine enter (args := [.slice a0_0 x0.length c0_0, .func (.func 138) #[] #[]]) Try.func137 rfl Try.ntmps137 (by kernel_rfl) ?_
  refine JC_seq ?_
  refine JC_region ?_
  refine JO_stepsK 1 [0, 1] (sl' := [(0, .v (.slice a0_0 x0.length c0_0)), (1, .v (.func (.func 138) #[] #[]))]) (bx' := []) (by kernel_rfl) ?_
  refine JO_end (by kernel_rfl) ?_
  refine JE_then ?_
  refine JC_seq ?_
  refine JC_region ?_
  refine JO_stepsK 2 [6, 5] (sl' := [(6, .v (.func (.func 138) #[] #[])), (5, .v (.slice a0_0 x0.length c0_0))]) (bx' := []) (by kernel_rfl) ?_
  obtain ⟨t21, h22, h23⟩ := bS h
  refine JO_call0 rfl (by kernel_rfl) (f := 143) (args := #[.slice a0_0 x0.length c0_0, .func (.func 138) #[] #[]]) (by kernel_rfl) (x := .int .i64 t21) (fun γ w hs => (by have vv := c_slices_IndexFunc_Posting__impl_LedgerOk_1 (W := w) h22 (hv0_0.kept hs.kept); exact vv)) (sl' := [(7, .v (.int .i64 t21)), (6, .v (.func (.func 138) #[] #[])), (5, .v (.slice a0_0 x0.length c0_0))]) (by kernel_rfl) ?_
  refine JO_stepsK 2 [4] (sl' := [(4, .v (.bool (decide (t21 ≥ 0))))]) (bx' := []) (by kernel_rfl) ?_
  refine JO_end (by kernel_rfl) ?_
  refine JE_then ?_
  refine JC_ret ?_
  refine JE_ret (vs := [.bool (decide (t21 ≥ 0))]) (by kernel_rfl) (fun γ w hs => ?_)
  rw [← sI h23]
  exact ⟨rfl, hs.kept.toBelow⟩

theorem c_impl_LedgerOk {W : World} {x0 : Ledger} {a0_0 : Option Addr} {c0_0 : Nat} {r : Bool} (h : impl_LedgerOk x0 = some r) (hv0_0 : SlView W x0.Postings a0_0 c0_0) :
    Gives0 Try.prog 126 #[.agg #[.slice a0_0 x0.Postings.length c0_0]] W (.bool r) := by
  unfold impl_LedgerOk at h
  refine enter (args := [.agg #[.slice a0_0 x0.Postings.length c0_0]]) Try.func126 rfl Try.ntmps126 (by kernel_rfl) ?_
  refine JC_seq ?_
  refine JC_region ?_
  refine JO_stepsK 2 [1] (sl' := [(1, .p 0 0)]) (bx' := [(81, [.slice a0_0 x0.Postings.length c0_0])]) (by kernel_rfl) ?_
  refine JO_end (by kernel_rfl) ?_
  refine JE_then ?_
  refine JC_seq ?_
  obtain ⟨p21, hE22, h23⟩ := bS h
  refine JC_cut (τ := Unit) (fun _ => [(2, .v (.bool p21))]) (fun _ => [(81, [.slice a0_0 x0.Postings.length c0_0])]) (fun _ => []) ?_ (fun _ => ?_)
  · refine JC_region ?_
    refine JO_stepsK 5 [7, 1] (sl' := [(7, .v (.bool (decide ((x0.Postings.length : Int) ≤ 300)))), (1, .p 0 0)]) (bx' := [(81, [.slice a0_0 x0.Postings.length c0_0])]) (by kernel_rfl) ?_
    refine JO_split 7 (decide ((x0.Postings.length : Int) ≤ 300)) (by kernel_rfl) (fun b24 => ?_) (fun b24 => ?_)
    · have h25 := cT b24 hE22
      refine JO_stepsK 2 [9, 7] (sl' := [(9, .v (.slice a0_0 x0.Postings.length c0_0)), (7, .v (.bool true))]) (bx' := [(81, [.slice a0_0 x0.Postings.length c0_0])]) (by kernel_rfl) ?_
      obtain ⟨t27, h28, h29⟩ := bS h25
      refine JO_call0 rfl (by kernel_rfl) (f := 137) (args := #[.slice a0_0 x0.Postings.length c0_0, .func (.func 138) #[] #[]]) (by kernel_rfl) (x := .bool t27) (fun γ w hs => (by have vv := c_slices_ContainsFunc_Posting__impl_LedgerOk_1 (W := w) h28 (hv0_0.kept hs.kept); exact vv)) (sl' := [(10, .v (.bool t27)), (9, .v (.slice a0_0 x0.Postings.length c0_0)), (7, .v (.bool true))]) (by kernel_rfl) ?_
      refine JO_stepsK 3 [2] (sl' := [(2, .v (.bool (!t27)))]) (bx' := [(81, [.slice a0_0 x0.Postings.length c0_0])]) (by kernel_rfl) ?_
      refine JO_end (by kernel_rfl) ?_
      obtain rfl := sI h29
      exact JE_meet () [2] [] 1 (by kernel_rfl) (by kernel_rfl) (by kernel_rfl) (by kernel_rfl)
    · have h26 := cF b24 hE22
      refine JO_stepsK 6 [2] (sl' := [(2, .v (.bool false))]) (bx' := [(81, [.slice a0_0 x0.Postings.length c0_0])]) (by kernel_rfl) ?_
      refine JO_end (by kernel_rfl) ?_
      obtain rfl := sI h26
      exact JE_meet () [2] [] 1 (by kernel_rfl) (by kernel_rfl) (by kernel_rfl) (by kernel_rfl)
  · skip
    refine JE_then ?_
    refine JC_ret ?_
    refine JE_ret (vs := [.bool p21]) (by kernel_rfl) (fun γ w hs => ?_)
    rw [← sI h23]
    exact ⟨rfl, hs.kept.toBelow⟩

theorem c_impl_BooksOk {W : World} {x0 : Books} {a0_0 : Option Addr} {c0_0 : Nat} {r : Bool} (h : impl_BooksOk x0 = some r) (hv0_0 : SlView W x0.Ledger.Postings a0_0 c0_0) :
    Gives0 Try.prog 96 #[.agg #[.slice a0_0 x0.Ledger.Postings.length c0_0, .int .i64 x0.Closed]] W (.bool r) := by
  unfold impl_BooksOk at h
  refine enter (args := [.agg #[.slice a0_0 x0.Ledger.Postings.length c0_0, .int .i64 x0.Closed]]) Try.func96 rfl Try.ntmps96 (by kernel_rfl) ?_
  refine JC_seq ?_
  refine JC_region ?_
  refine JO_stepsK 2 [1] (sl' := [(1, .p 0 0)]) (bx' := [(83, [.slice a0_0 x0.Ledger.Postings.length c0_0, .int .i64 x0.Closed])]) (by kernel_rfl) ?_
  refine JO_end (by kernel_rfl) ?_
  refine JE_then ?_
  refine JC_seq ?_
  obtain ⟨p21, hE22, h23⟩ := bS h
  refine JC_cut (τ := Unit) (fun _ => [(2, .v (.bool p21))]) (fun _ => [(83, [.slice a0_0 x0.Ledger.Postings.length c0_0, .int .i64 x0.Closed])]) (fun _ => []) ?_ (fun _ => ?_)
  · refine JC_region ?_
    refine JO_stepsK 2 [4, 1] (sl' := [(4, .v (.agg #[.slice a0_0 x0.Ledger.Postings.length c0_0])), (1, .p 0 0)]) (bx' := [(83, [.slice a0_0 x0.Ledger.Postings.length c0_0, .int .i64 x0.Closed])]) (by kernel_rfl) ?_
    obtain ⟨t24, h25, h26⟩ := bS hE22
    refine JO_call0 rfl (by kernel_rfl) (f := 126) (args := #[.agg #[.slice a0_0 x0.Ledger.Postings.length c0_0]]) (by kernel_rfl) (x := .bool t24) (fun γ w hs => (by have vv := c_impl_LedgerOk (W := w) h25 (hv0_0.kept hs.kept); exact vv)) (sl' := [(5, .v (.bool t24)), (4, .v (.agg #[.slice a0_0 x0.Ledger.Postings.length c0_0])), (1, .p 0 0)]) (by kernel_rfl) ?_
    refine JO_stepsK 1 [6, 1] (sl' := [(6, .v (.bool t24)), (1, .p 0 0)]) (bx' := [(83, [.slice a0_0 x0.Ledger.Postings.length c0_0, .int .i64 x0.Closed])]) (by kernel_rfl) ?_
    refine JO_split 6 t24 (by kernel_rfl) (fun b28 => ?_) (fun b28 => ?_)
    · have h29 := cT b28 h26
      refine JO_stepsK 2 [8, 6] (sl' := [(8, .v (.int .i64 x0.Closed)), (6, .v (.bool true))]) (bx' := [(83, [.slice a0_0 x0.Ledger.Postings.length c0_0, .int .i64 x0.Closed])]) (by kernel_rfl) ?_
      obtain ⟨t31, h32, h33⟩ := bS h29
      refine JO_call0 rfl (by kernel_rfl) (f := 67) (args := #[.int .i64 x0.Closed, .int .i64 0, .int .i64 3599]) (by kernel_rfl) (x := .bool t31) (fun γ w hs => (by have vv := c_impl_within (W := w) h32; exact vv)) (sl' := [(9, .v (.bool t31)), (8, .v (.int .i64 x0.Closed)), (6, .v (.bool true))]) (by kernel_rfl) ?_
      refine JO_stepsK 2 [2] (sl' := [(2, .v (.bool t31))]) (bx' := [(83, [.slice a0_0 x0.Ledger.Postings.length c0_0, .int .i64 x0.Closed])]) (by kernel_rfl) ?_
      refine JO_end (by kernel_rfl) ?_
      obtain rfl := sI h33
      exact JE_meet () [2] [] 1 (by kernel_rfl) (by kernel_rfl) (by kernel_rfl) (by kernel_rfl)
    · have h30 := cF b28 h26
      refine JO_stepsK 5 [2] (sl' := [(2, .v (.bool false))]) (bx' := [(83, [.slice a0_0 x0.Ledger.Postings.length c0_0, .int .i64 x0.Closed])]) (by kernel_rfl) ?_
      refine JO_end (by kernel_rfl) ?_
      obtain rfl := sI h30
      exact JE_meet () [2] [] 1 (by kernel_rfl) (by kernel_rfl) (by kernel_rfl) (by kernel_rfl)
  · skip
    refine JE_then ?_
    refine JC_ret ?_
    refine JE_ret (vs := [.bool p21]) (by kernel_rfl) (fun γ w hs => ?_)
    rw [← sI h23]
    exact ⟨rfl, hs.kept.toBelow⟩

theorem c_impl_CloseUpTo {W : World} {x0 : Books} {a0_0 : Option Addr} {c0_0 : Nat} {x1 : Int} {r : Books × Bool} (h : impl_CloseUpTo x0 x1 = some r) (hv0_0 : SlView W x0.Ledger.Postings a0_0 c0_0) :
    Gives Try.prog 53 #[.agg #[.slice a0_0 x0.Ledger.Postings.length c0_0, .int .i64 x0.Closed], .int .i64 x1] W (fun y : (Option Addr × Nat) => .tuple #[.agg #[.slice y.1 r.1.Ledger.Postings.length y.2, .int .i64 r.1.Closed], .bool r.2]) (fun y => [SlRes 93 r.1.Ledger.Postings y.1 y.2]) := by
  unfold impl_CloseUpTo at h
  refine enter (args := [.agg #[.slice a0_0 x0.Ledger.Postings.length c0_0, .int .i64 x0.Closed], .int .i64 x1]) Try.func53 rfl Try.ntmps53 (by kernel_rfl) ?_
  refine JC_seq ?_
  refine JC_region ?_
  refine JO_stepsK 3 [4, 2, 1] (sl' := [(4, .p 1 0), (2, .p 0 0), (1, .v (.int .i64 x1))]) (bx' := [(83, [.slice a0_0 x0.Ledger.Postings.length c0_0, .int .i64 x0.Closed]), (83, [.slice none 0 0, .int .i64 0])]) (by kernel_rfl) ?_
  refine JO_end (by kernel_rfl) ?_
  refine JE_then ?_
  refine JC_seq ?_
  refine JC_region ?_
  refine JO_stepsK 1 [7, 4, 2, 1] (sl' := [(7, .v (.agg #[.slice a0_0 x0.Ledger.Postings.length c0_0, .int .i64 x0.Closed])), (4, .p 1 0), (2, .p 0 0), (1, .v (.int .i64 x1))]) (bx' := [(83, [.slice a0_0 x0.Ledger.Postings.length c0_0, .int .i64 x0.Closed]), (83, [.slice none 0 0, .int .i64 0])]) (by kernel_rfl) ?_
  obtain ⟨t21, h22, h23⟩ := bS h
  refine JO_call rfl (by kernel_rfl) (f := 95) (args := #[.agg #[.slice a0_0 x0.Ledger.Postings.length c0_0, .int .i64 x0.Closed]]) (by kernel_rfl) (fun γ w hs => (by have vv := c_impl_copyBooks (W := w) h22 (hv0_0.kept hs.kept); exact vv)) (fun (y24 : (Option Addr × Nat)) => [(8, .v (.agg #[.slice y24.1 t21.Ledger.Postings.length y24.2, .int .i64 t21.Closed])), (7, .v (.agg #[.slice a0_0 x0.Ledger.Postings.length c0_0, .int .i64 x0.Closed])), (4, .p 1 0), (2, .p 0 0), (1, .v (.int .i64 x1))]) (fun y24 => by kernel_rfl) (fun y24 => ?_)
  refine JO_stepsK 2 [6, 4, 2, 1] (sl' := [(6, .p 2 0), (4, .p 1 0), (2, .p 0 0), (1, .v (.int .i64 x1))]) (bx' := [(83, [.slice a0_0 x0.Ledger.Postings.length c0_0, .int .i64 x0.Closed]), (83, [.slice none 0 0, .int .i64 0]), (83, [.slice y24.1 t21.Ledger.Postings.length y24.2, .int .i64 t21.Closed])]) (by kernel_rfl) ?_
  refine JO_end (by kernel_rfl) ?_
  refine JE_then ?_
  refine JC_seq ?_
  refine JC_seq ?_
  obtain ⟨p25, hE26, h27⟩ := bS h23
  refine JC_cut (τ := Unit) (fun _ => [(1, .v (.int .i64 x1)), (4, .p 1 0), (6, .p 2 0), (22, .v (.bool p25))]) (fun _ => [(83, [.slice a0_0 x0.Ledger.Postings.length c0_0, .int .i64 x0.Closed]), (83, [.slice none 0 0, .int .i64 0]), (83, [.slice y24.1 t21.Ledger.Postings.length y24.2, .int .i64 t21.Closed])]) (fun _ => [SlRes 93 t21.Ledger.Postings y24.1 y24.2]) ?_ (fun _ => ?_)
  · refine JC_region ?_
    refine JO_stepsK 1 [9, 6, 4, 2, 1] (sl' := [(9, .v (.agg #[.slice a0_0 x0.Ledger.Postings.length c0_0, .int .i64 x0.Closed])), (6, .p 2 0), (4, .p 1 0), (2, .p 0 0), (1, .v (.int .i64 x1))]) (bx' := [(83, [.slice a0_0 x0.Ledger.Postings.length c0_0, .int .i64 x0.Closed]), (83, [.slice none 0 0, .int .i64 0]), (83, [.slice y24.1 t21.Ledger.Postings.length y24.2, .int .i64 t21.Closed])]) (by kernel_rfl) ?_
    obtain ⟨t28, h29, h30⟩ := bS hE26
    refine JO_call0 rfl (by kernel_rfl) (f := 96) (args := #[.agg #[.slice a0_0 x0.Ledger.Postings.length c0_0, .int .i64 x0.Closed]]) (by kernel_rfl) (x := .bool t28) (fun γ w hs => (by have vv := c_impl_BooksOk (W := w) h29 (hv0_0.kept hs.kept); exact vv)) (sl' := [(10, .v (.bool t28)), (9, .v (.agg #[.slice a0_0 x0.Ledger.Postings.length c0_0, .int .i64 x0.Closed])), (6, .p 2 0), (4, .p 1 0), (2, .p 0 0), (1, .v (.int .i64 x1))]) (by kernel_rfl) ?_
    refine JO_stepsK 2 [12, 6, 4, 2, 1] (sl' := [(12, .v (.bool (!t28))), (6, .p 2 0), (4, .p 1 0), (2, .p 0 0), (1, .v (.int .i64 x1))]) (bx' := [(83, [.slice a0_0 x0.Ledger.Postings.length c0_0, .int .i64 x0.Closed]), (83, [.slice none 0 0, .int .i64 0]), (83, [.slice y24.1 t21.Ledger.Postings.length y24.2, .int .i64 t21.Closed])]) (by kernel_rfl) ?_
    refine JO_split 12 (!t28) (by kernel_rfl) (fun b32 => ?_) (fun b32 => ?_)
    · have h33 := cT b32 h30
      refine JO_stepsK 10 [22, 6, 4, 1] (sl' := [(22, .v (.bool true)), (6, .p 2 0), (4, .p 1 0), (1, .v (.int .i64 x1))]) (bx' := [(83, [.slice a0_0 x0.Ledger.Postings.length c0_0, .int .i64 x0.Closed]), (83, [.slice none 0 0, .int .i64 0]), (83, [.slice y24.1 t21.Ledger.Postings.length y24.2, .int .i64 t21.Closed])]) (by kernel_rfl) ?_
      refine JO_end (by kernel_rfl) ?_
      obtain rfl := sI h33
      exact JE_meet () [1, 4, 6, 22] [0] 3 (by kernel_rfl) (by kernel_rfl) (by kernel_rfl) (by kernel_rfl)
    · have h34 := cF b32 h30
      refine JO_stepsK 1 [13, 12, 6, 4, 2, 1] (sl' := [(13, .v (.int .i64 x1)), (12, .v (.bool false)), (6, .p 2 0), (4, .p 1 0), (2, .p 0 0), (1, .v (.int .i64 x1))]) (bx' := [(83, [.slice a0_0 x0.Ledger.Postings.length c0_0, .int .i64 x0.Closed]), (83, [.slice none 0 0, .int .i64 0]), (83, [.slice y24.1 t21.Ledger.Postings.length y24.2, .int .i64 t21.Closed])]) (by kernel_rfl) ?_
      obtain ⟨t35, h36, h37⟩ := bS h34
      refine JO_call0 rfl (by kernel_rfl) (f := 97) (args := #[.int .i64 x1]) (by kernel_rfl) (x := .bool t35) (fun γ w hs => (by have vv := c_impl_MonthOk (W := w) h36; exact vv)) (sl' := [(14, .v (.bool t35)), (13, .v (.int .i64 x1)), (12, .v (.bool false)), (6, .p 2 0), (4, .p 1 0), (2, .p 0 0), (1, .v (.int .i64 x1))]) (by kernel_rfl) ?_
      refine JO_stepsK 3 [17, 6, 4, 2, 1] (sl' := [(17, .v (.bool (!t35))), (6, .p 2 0), (4, .p 1 0), (2, .p 0 0), (1, .v (.int .i64 x1))]) (bx' := [(83, [.slice a0_0 x0.Ledger.Postings.length c0_0, .int .i64 x0.Closed]), (83, [.slice none 0 0, .int .i64 0]), (83, [.slice y24.1 t21.Ledger.Postings.length y24.2, .int .i64 t21.Closed])]) (by kernel_rfl) ?_
      refine JO_split 17 (!t35) (by kernel_rfl) (fun b39 => ?_) (fun b39 => ?_)
      · have h40 := cT b39 h37
        refine JO_stepsK 5 [22, 6, 4, 1] (sl' := [(22, .v (.bool true)), (6, .p 2 0), (4, .p 1 0), (1, .v (.int .i64 x1))]) (bx' := [(83, [.slice a0_0 x0.Ledger.Postings.length c0_0, .int .i64 x0.Closed]), (83, [.slice none 0 0, .int .i64 0]), (83, [.slice y24.1 t21.Ledger.Postings.length y24.2, .int .i64 t21.Closed])]) (by kernel_rfl) ?_
        refine JO_end (by kernel_rfl) ?_
        obtain rfl := sI h40
        exact JE_meet () [1, 4, 6, 22] [0] 3 (by kernel_rfl) (by kernel_rfl) (by kernel_rfl) (by kernel_rfl)
      · have h41 := cF b39 h37
        refine JO_stepsK 5 [22, 6, 4, 1] (sl' := [(22, .v (.bool (decide (x1 < x0.Closed)))), (6, .p 2 0), (4, .p 1 0), (1, .v (.int .i64 x1))]) (bx' := [(83, [.slice a0_0 x0.Ledger.Postings.length c0_0, .int .i64 x0.Closed]), (83, [.slice none 0 0, .int .i64 0]), (83, [.slice y24.1 t21.Ledger.Postings.length y24.2, .int .i64 t21.Closed])]) (by kernel_rfl) ?_
        refine JO_end (by kernel_rfl) ?_
        obtain rfl := sI h41
        exact JE_meet () [1, 4, 6, 22] [0] 3 (by kernel_rfl) (by kernel_rfl) (by kernel_rfl) (by kernel_rfl)
  · skip
    refine JE_then ?_
    refine JC_cond p25 (by kernel_rfl) (fun b42 => ?_) (fun b42 => ?_)
    · have h43 := cT b42 h27
      refine JC_seq ?_
      refine JC_region ?_
      refine JO_stepsK 3 [5, 4] (sl' := [(5, .v (.bool false)), (4, .p 1 0)]) (bx' := [(83, [.slice a0_0 x0.Ledger.Postings.length c0_0, .int .i64 x0.Closed]), (83, [.slice y24.1 t21.Ledger.Postings.length y24.2, .int .i64 t21.Closed]), (83, [.slice y24.1 t21.Ledger.Postings.length y24.2, .int .i64 t21.Closed])]) (by kernel_rfl) ?_
      refine JO_end (by kernel_rfl) ?_
      refine JE_then ?_
      refine JC_ret ?_
      refine JE_then_ret ?_
      refine JE_ret (vs := [.agg #[.slice y24.1 t21.Ledger.Postings.length y24.2, .int .i64 t21.Closed], .bool false]) (by kernel_rfl) (fun γ w hs => ?_)
      rw [← sI h43]
      exact ⟨(y24.1, y24.2), rfl, hs.kept.toBelow, (hs.takeR (is := [0]) rfl).fresh⟩
    · have h44 := cF b42 h27
      refine JC_skip ?_
      refine JE_then ?_
      refine JC_seq ?_
      refine JC_region ?_
      refine JO_stepsK 3 [4, 6] (sl' := [(4, .p 1 0), (6, .p 2 0)]) (bx' := [(83, [.slice a0_0 x0.Ledger.Postings.length c0_0, .int .i64 x0.Closed]), (83, [.slice none 0 0, .int .i64 0]), (83, [.slice y24.1 t21.Ledger.Postings.length y24.2, .int .i64 x1])]) (by kernel_rfl) ?_
      refine JO_end (by kernel_rfl) ?_
      refine JE_then ?_
      refine JC_seq ?_
      refine JC_region ?_
      refine JO_stepsK 3 [5, 4] (sl' := [(5, .v (.bool true)), (4, .p 1 0)]) (bx' := [(83, [.slice a0_0 x0.Ledger.Postings.length c0_0, .int .i64 x0.Closed]), (83, [.slice y24.1 t21.Ledger.Postings.length y24.2, .int .i64 x1]), (83, [.slice y24.1 t21.Ledger.Postings.length y24.2, .int .i64 x1])]) (by kernel_rfl) ?_
      refine JO_end (by kernel_rfl) ?_
      refine JE_then ?_
      refine JC_ret ?_
      refine JE_ret (vs := [.agg #[.slice y24.1 t21.Ledger.Postings.length y24.2, .int .i64 x1], .bool true]) (by kernel_rfl) (fun γ w hs => ?_)
      rw [← sI h44]
      exact ⟨(y24.1, y24.2), rfl, hs.kept.toBelow, (hs.takeR (is := [0]) rfl).fresh⟩

theorem c_laws_eqPosting {W : World} {x0 : Posting} {x1 : Posting} {r : Bool} (h : laws_eqPosting x0 x1 = some r)  :
    Gives0 Try.prog 139 #[.agg #[.int .i64 x0.Month, .int .i64 x0.Debit, .int .i64 x0.Credit, .int .i64 x0.Cents], .agg #[.int .i64 x1.Month, .int .i64 x1.Debit, .int .i64 x1.Credit, .int .i64 x1.Cents]] W (.bool r) := by
  unfold laws_eqPosting at h
  refine enter (args := [.agg #[.int .i64 x0.Month, .int .i64 x0.Debit, .int .i64 x0.Credit, .int .i64 x0.Cents], .agg #[.int .i64 x1.Month, .int .i64 x1.Debit, .int .i64 x1.Credit, .int .i64 x1.Cents]]) Try.func139 rfl Try.ntmps139 (by kernel_rfl) ?_
  refine JC_seq ?_
  refine JC_region ?_
  refine JO_stepsK 3 [3, 2] (sl' := [(3, .p 1 0), (2, .p 0 0)]) (bx' := [(93, [.int .i64 x0.Month, .int .i64 x0.Debit, .int .i64 x0.Credit, .int .i64 x0.Cents]), (93, [.int .i64 x1.Month, .int .i64 x1.Debit, .int .i64 x1.Credit, .int .i64 x1.Cents])]) (by kernel_rfl) ?_
  refine JO_end (by kernel_rfl) ?_
  refine JE_then ?_
  refine JC_seq ?_
  refine JC_seq ?_
  refine JC_region ?_
  refine JO_stepsK 5 [9, 3, 2] (sl' := [(9, .v (.bool (x0.Month != x1.Month))), (3, .p 1 0), (2, .p 0 0)]) (bx' := [(93, [.int .i64 x0.Month, .int .i64 x0.Debit, .int .i64 x0.Credit, .int .i64 x0.Cents]), (93, [.int .i64 x1.Month, .int .i64 x1.Debit, .int .i64 x1.Credit, .int .i64 x1.Cents])]) (by kernel_rfl) ?_
  refine JO_end (by kernel_rfl) ?_
  refine JE_then ?_
  refine JC_cond (x0.Month != x1.Month) (by kernel_rfl) (fun b21 => ?_) (fun b21 => ?_)
  · have h22 := cT b21 h
    refine JC_seq ?_
    refine JC_region ?_
    refine JO_stepsK 1 [4] (sl' := [(4, .v (.bool false))]) (bx' := [(93, [.int .i64 x0.Month, .int .i64 x0.Debit, .int .i64 x0.Credit, .int .i64 x0.Cents]), (93, [.int .i64 x1.Month, .int .i64 x1.Debit, .int .i64 x1.Credit, .int .i64 x1.Cents])]) (by kernel_rfl) ?_
    refine JO_end (by kernel_rfl) ?_
    refine JE_then ?_
    refine JC_ret ?_
    refine JE_then_ret ?_
    refine JE_ret (vs := [.bool false]) (by kernel_rfl) (fun γ w hs => ?_)
    rw [← sI h22]
    exact ⟨rfl, hs.kept.toBelow⟩
  · have h23 := cF b21 h
    refine JC_skip ?_
    refine JE_then ?_
    refine JC_seq ?_
    refine JC_seq ?_
    refine JC_region ?_
    refine JO_stepsK 5 [14, 3, 2] (sl' := [(14, .v (.bool (x0.Debit != x1.Debit))), (3, .p 1 0), (2, .p 0 0)]) (bx' := [(93, [.int .i64 x0.Month, .int .i64 x0.Debit, .int .i64 x0.Credit, .int .i64 x0.Cents]), (93, [.int .i64 x1.Month, .int .i64 x1.Debit, .int .i64 x1.Credit, .int .i64 x1.Cents])]) (by kernel_rfl) ?_
    refine JO_end (by kernel_rfl) ?_
    refine JE_then ?_
    refine JC_cond (x0.Debit != x1.Debit) (by kernel_rfl) (fun b24 => ?_) (fun b24 => ?_)
    · have h25 := cT b24 h23
      refine JC_seq ?_
      refine JC_region ?_
      refine JO_stepsK 1 [4] (sl' := [(4, .v (.bool false))]) (bx' := [(93, [.int .i64 x0.Month, .int .i64 x0.Debit, .int .i64 x0.Credit, .int .i64 x0.Cents]), (93, [.int .i64 x1.Month, .int .i64 x1.Debit, .int .i64 x1.Credit, .int .i64 x1.Cents])]) (by kernel_rfl) ?_
      refine JO_end (by kernel_rfl) ?_
      refine JE_then ?_
      refine JC_ret ?_
      refine JE_then_ret ?_
      refine JE_ret (vs := [.bool false]) (by kernel_rfl) (fun γ w hs => ?_)
      rw [← sI h25]
      exact ⟨rfl, hs.kept.toBelow⟩
    · have h26 := cF b24 h23
      refine JC_skip ?_
      refine JE_then ?_
      refine JC_seq ?_
      refine JC_seq ?_
      refine JC_region ?_
      refine JO_stepsK 5 [19, 3, 2] (sl' := [(19, .v (.bool (x0.Credit != x1.Credit))), (3, .p 1 0), (2, .p 0 0)]) (bx' := [(93, [.int .i64 x0.Month, .int .i64 x0.Debit, .int .i64 x0.Credit, .int .i64 x0.Cents]), (93, [.int .i64 x1.Month, .int .i64 x1.Debit, .int .i64 x1.Credit, .int .i64 x1.Cents])]) (by kernel_rfl) ?_
      refine JO_end (by kernel_rfl) ?_
      refine JE_then ?_
      refine JC_cond (x0.Credit != x1.Credit) (by kernel_rfl) (fun b27 => ?_) (fun b27 => ?_)
      · have h28 := cT b27 h26
        refine JC_seq ?_
        refine JC_region ?_
        refine JO_stepsK 1 [4] (sl' := [(4, .v (.bool false))]) (bx' := [(93, [.int .i64 x0.Month, .int .i64 x0.Debit, .int .i64 x0.Credit, .int .i64 x0.Cents]), (93, [.int .i64 x1.Month, .int .i64 x1.Debit, .int .i64 x1.Credit, .int .i64 x1.Cents])]) (by kernel_rfl) ?_
        refine JO_end (by kernel_rfl) ?_
        refine JE_then ?_
        refine JC_ret ?_
        refine JE_then_ret ?_
        refine JE_ret (vs := [.bool false]) (by kernel_rfl) (fun γ w hs => ?_)
        rw [← sI h28]
        exact ⟨rfl, hs.kept.toBelow⟩
      · have h29 := cF b27 h26
        refine JC_skip ?_
        refine JE_then ?_
        refine JC_seq ?_
        refine JC_seq ?_
        refine JC_region ?_
        refine JO_stepsK 5 [24] (sl' := [(24, .v (.bool (x0.Cents != x1.Cents)))]) (bx' := [(93, [.int .i64 x0.Month, .int .i64 x0.Debit, .int .i64 x0.Credit, .int .i64 x0.Cents]), (93, [.int .i64 x1.Month, .int .i64 x1.Debit, .int .i64 x1.Credit, .int .i64 x1.Cents])]) (by kernel_rfl) ?_
        refine JO_end (by kernel_rfl) ?_
        refine JE_then ?_
        refine JC_cond (x0.Cents != x1.Cents) (by kernel_rfl) (fun b30 => ?_) (fun b30 => ?_)
        · have h31 := cT b30 h29
          refine JC_seq ?_
          refine JC_region ?_
          refine JO_stepsK 1 [4] (sl' := [(4, .v (.bool false))]) (bx' := [(93, [.int .i64 x0.Month, .int .i64 x0.Debit, .int .i64 x0.Credit, .int .i64 x0.Cents]), (93, [.int .i64 x1.Month, .int .i64 x1.Debit, .int .i64 x1.Credit, .int .i64 x1.Cents])]) (by kernel_rfl) ?_
          refine JO_end (by kernel_rfl) ?_
          refine JE_then ?_
          refine JC_ret ?_
          refine JE_then_ret ?_
          refine JE_ret (vs := [.bool false]) (by kernel_rfl) (fun γ w hs => ?_)
          rw [← sI h31]
          exact ⟨rfl, hs.kept.toBelow⟩
        · have h32 := cF b30 h29
          refine JC_skip ?_
          refine JE_then ?_
          refine JC_seq ?_
          refine JC_region ?_
          refine JO_stepsK 1 [4] (sl' := [(4, .v (.bool true))]) (bx' := [(93, [.int .i64 x0.Month, .int .i64 x0.Debit, .int .i64 x0.Credit, .int .i64 x0.Cents]), (93, [.int .i64 x1.Month, .int .i64 x1.Debit, .int .i64 x1.Credit, .int .i64 x1.Cents])]) (by kernel_rfl) ?_
          refine JO_end (by kernel_rfl) ?_
          refine JE_then ?_
          refine JC_ret ?_
          refine JE_ret (vs := [.bool true]) (by kernel_rfl) (fun γ w hs => ?_)
          rw [← sI h32]
          exact ⟨rfl, hs.kept.toBelow⟩

theorem c_laws_eqPostingS {W : World} {x0 : List Posting} {a0_0 : Option Addr} {c0_0 : Nat} {x1 : List Posting} {a1_0 : Option Addr} {c1_0 : Nat} {r : Bool} (h : laws_eqPostingS x0 x1 = some r) (hv0_0 : SlView W x0 a0_0 c0_0) (hv1_0 : SlView W x1 a1_0 c1_0) :
    Gives0 Try.prog 127 #[.slice a0_0 x0.length c0_0, .slice a1_0 x1.length c1_0] W (.bool r) := by
  unfold laws_eqPostingS at h
  refine enter (args := [.slice a0_0 x0.length c0_0, .slice a1_0 x1.length c1_0]) Try.func127 rfl Try.ntmps127 (by kernel_rfl) ?_
  refine JC_seq ?_
  refine JC_region ?_
  refine JO_stepsK 1 [0, 1] (sl' := [(0, .v (.slice a0_0 x0.length c0_0)), (1, .v (.slice a1_0 x1.length c1_0))]) (bx' := []) (by kernel_rfl) ?_
  refine JO_end (by kernel_rfl) ?_
  refine JE_then ?_
  refine JC_seq ?_
  refine JC_seq ?_
  refine JC_region ?_
  refine JO_stepsK 5 [10, 0, 1] (sl' := [(10, .v (.bool ((x0.length : Int) != (x1.length : Int)))), (0, .v (.slice a0_0 x0.length c0_0)), (1, .v (.slice a1_0 x1.length c1_0))]) (bx' := []) (by kernel_rfl) ?_
  refine JO_end (by kernel_rfl) ?_
  refine JE_then ?_
  refine JC_cond ((x0.length : Int) != (x1.length : Int)) (by kernel_rfl) (fun b21 => ?_) (fun b21 => ?_)
  · have h22 := cT b21 h
    refine JC_seq ?_
    refine JC_region ?_
    refine JO_stepsK 1 [4] (sl' := [(4, .v (.bool false))]) (bx' := []) (by kernel_rfl) ?_
    refine JO_end (by kernel_rfl) ?_
    refine JE_then ?_
    refine JC_ret ?_
    refine JE_then_ret ?_
    refine JE_ret (vs := [.bool false]) (by kernel_rfl) (fun γ w hs => ?_)
    rw [← sI h22]
    exact ⟨rfl, hs.kept.toBelow⟩
  · have h23 := cF b21 h
    refine JC_skip ?_
    refine JE_then ?_
    refine JC_seq ?_
    refine JC_seq ?_
    refine JC_region ?_
    refine JO_stepsK 1 [5, 0, 1] (sl' := [(5, .v (.int .i64 0)), (0, .v (.slice a0_0 x0.length c0_0)), (1, .v (.slice a1_0 x1.length c1_0))]) (bx' := []) (by kernel_rfl) ?_
    refine JO_end (by kernel_rfl) ?_
    refine JE_then ?_
    obtain ⟨r27, hL28, h29⟩ := bS h23
    obtain ⟨k30, hk31, h29⟩ := brkS h29
    refine JC_cutP (τ := (Unit) × (Unit)) (fun y => k30 y.1 = some r) (fun y35 => []) (fun y35 => []) (fun y35 => []) ?_ (fun y35 h36p => ?_)
    · refine JC_block ?_
      refine JC_loop (τ := Unit) hL28 (fun s24 y25 => [(5, .v (.int .i64 s24)), (0, .v (.slice a0_0 x0.length c0_0)), (1, .v (.slice a1_0 x1.length c1_0))]) (fun s24 y25 => []) (fun s24 y25 => []) () [5, 0, 1] [] 0 (by kernel_rfl) (by kernel_rfl) (by kernel_rfl) (by kernel_rfl) (fun s24 y25 t26 h32 hd33 => ?_)
      refine JC_seq ?_
      refine JC_seq ?_
      refine JC_region ?_
      refine JO_stepsK 4 [14, 5, 0, 1] (sl' := [(14, .v (.bool (decide (s24 < (x0.length : Int))))), (5, .v (.int .i64 s24)), (0, .v (.slice a0_0 x0.length c0_0)), (1, .v (.slice a1_0 x1.length c1_0))]) (bx' := []) (by kernel_rfl) ?_
      refine JO_end (by kernel_rfl) ?_
      refine JE_then ?_
      refine JC_cond (decide (s24 < (x0.length : Int))) (by kernel_rfl) (fun b37 => ?_) (fun b37 => ?_)
      · have h38 := cT b37 h32
        refine JC_skip ?_
        refine JE_then ?_
        refine JC_seq ?_
        refine JC_block ?_
        refine JC_seq ?_
        refine JC_quiet (by kernel_rfl) (by kernel_rfl) ?_
        refine JQ_stepsK 2 [18, 17, 5, 0, 1] (sl' := [(18, .v (.int .i64 s24)), (17, .v (.slice a0_0 x0.length c0_0)), (5, .v (.int .i64 s24)), (0, .v (.slice a0_0 x0.length c0_0)), (1, .v (.slice a1_0 x1.length c1_0))]) (by kernel_rfl) ?_
        obtain ⟨x40, hx41, h42⟩ := bS h38
        refine JQ_index rfl (by kernel_rfl) (d := a0_0) (m := x0.length) (j := s24) (s := 4) (by kernel_rfl) (fun γ w hs => (hv0_0.kept hs.kept)) rfl hx41 (sl' := [(19, .q a0_0 (Int.toNat s24 * 4)), (18, .v (.int .i64 s24)), (17, .v (.slice a0_0 x0.length c0_0)), (5, .v (.int .i64 s24)), (0, .v (.slice a0_0 x0.length c0_0)), (1, .v (.slice a1_0 x1.length c1_0))]) (by kernel_rfl) ?_
        refine JQ_loadq rfl (by kernel_rfl) (t := 93) (d := a0_0) (Int.toNat s24 * 4) 0 (by kernel_rfl) (cs := [.int .i64 x40.Month, .int .i64 x40.Debit, .int .i64 x40.Credit, .int .i64 x40.Cents]) (v := .agg #[.int .i64 x40.Month, .int .i64 x40.Debit, .int .i64 x40.Credit, .int .i64 x40.Cents]) (fun γ w hs => (hv0_0.kept hs.kept).flatq hx41) (by kernel_rfl) (sl' := [(20, .v (.agg #[.int .i64 x40.Month, .int .i64 x40.Debit, .int .i64 x40.Credit, .int .i64 x40.Cents])), (19, .q a0_0 (Int.toNat s24 * 4)), (18, .v (.int .i64 s24)), (17, .v (.slice a0_0 x0.length c0_0)), (5, .v (.int .i64 s24)), (0, .v (.slice a0_0 x0.length c0_0)), (1, .v (.slice a1_0 x1.length c1_0))]) (by kernel_rfl) ?_
        refine JQ_stepsK 2 [22, 21, 20, 5, 0, 1] (sl' := [(22, .v (.int .i64 s24)), (21, .v (.slice a1_0 x1.length c1_0)), (20, .v (.agg #[.int .i64 x40.Month, .int .i64 x40.Debit, .int .i64 x40.Credit, .int .i64 x40.Cents])), (5, .v (.int .i64 s24)), (0, .v (.slice a0_0 x0.length c0_0)), (1, .v (.slice a1_0 x1.length c1_0))]) (by kernel_rfl) ?_
        obtain ⟨x43, hx44, h45⟩ := bS h42
        refine JQ_index rfl (by kernel_rfl) (d := a1_0) (m := x1.length) (j := s24) (s := 4) (by kernel_rfl) (fun γ w hs => (hv1_0.kept hs.kept)) rfl hx44 (sl' := [(23, .q a1_0 (Int.toNat s24 * 4)), (22, .v (.int .i64 s24)), (21, .v (.slice a1_0 x1.length c1_0)), (20, .v (.agg #[.int .i64 x40.Month, .int .i64 x40.Debit, .int .i64 x40.Credit, .int .i64 x40.Cents])), (5, .v (.int .i64 s24)), (0, .v (.slice a0_0 x0.length c0_0)), (1, .v (.slice a1_0 x1.length c1_0))]) (by kernel_rfl) ?_
        refine JQ_loadq rfl (by kernel_rfl) (t := 93) (d := a1_0) (Int.toNat s24 * 4) 0 (by kernel_rfl) (cs := [.int .i64 x43.Month, .int .i64 x43.Debit, .int .i64 x43.Credit, .int .i64 x43.Cents]) (v := .agg #[.int .i64 x43.Month, .int .i64 x43.Debit, .int .i64 x43.Credit, .int .i64 x43.Cents]) (fun γ w hs => (hv1_0.kept hs.kept).flatq hx44) (by kernel_rfl) (sl' := [(24, .v (.agg #[.int .i64 x43.Month, .int .i64 x43.Debit, .int .i64 x43.Credit, .int .i64 x43.Cents])), (23, .q a1_0 (Int.toNat s24 * 4)), (22, .v (.int .i64 s24)), (21, .v (.slice a1_0 x1.length c1_0)), (20, .v (.agg #[.int .i64 x40.Month, .int .i64 x40.Debit, .int .i64 x40.Credit, .int .i64 x40.Cents])), (5, .v (.int .i64 s24)), (0, .v (.slice a0_0 x0.length c0_0)), (1, .v (.slice a1_0 x1.length c1_0))]) (by kernel_rfl) ?_
        obtain ⟨t46, h47, h48⟩ := bS h45
        refine JQ_call0 rfl (by kernel_rfl) (f := 139) (args := #[.agg #[.int .i64 x40.Month, .int .i64 x40.Debit, .int .i64 x40.Credit, .int .i64 x40.Cents], .agg #[.int .i64 x43.Month, .int .i64 x43.Debit, .int .i64 x43.Credit, .int .i64 x43.Cents]]) (by kernel_rfl) (x := .bool t46) (fun γ w hs => (by have vv := c_laws_eqPosting (W := w) h47; exact vv)) (sl' := [(25, .v (.bool t46)), (24, .v (.agg #[.int .i64 x43.Month, .int .i64 x43.Debit, .int .i64 x43.Credit, .int .i64 x43.Cents])), (23, .q a1_0 (Int.toNat s24 * 4)), (22, .v (.int .i64 s24)), (21, .v (.slice a1_0 x1.length c1_0)), (20, .v (.agg #[.int .i64 x40.Month, .int .i64 x40.Debit, .int .i64 x40.Credit, .int .i64 x40.Cents])), (5, .v (.int .i64 s24)), (0, .v (.slice a0_0 x0.length c0_0)), (1, .v (.slice a1_0 x1.length c1_0))]) (by kernel_rfl) ?_
        refine JQ_stepsK 1 [26, 5, 0, 1] (sl' := [(26, .v (.bool (!t46))), (5, .v (.int .i64 s24)), (0, .v (.slice a0_0 x0.length c0_0)), (1, .v (.slice a1_0 x1.length c1_0))]) (by kernel_rfl) ?_
        refine JQ_end (by kernel_rfl) ?_
        refine JE_then ?_
        refine JC_cond (!t46) (by kernel_rfl) (fun b50 => ?_) (fun b50 => ?_)
        · have h51 := cT b50 h48
          refine JC_seq ?_
          refine JC_region ?_
          refine JO_stepsK 1 [4] (sl' := [(4, .v (.bool false))]) (bx' := []) (by kernel_rfl) ?_
          refine JO_end (by kernel_rfl) ?_
          refine JE_then ?_
          refine JC_ret ?_
          refine JE_block_ret ?_
          refine JE_then_ret ?_
          refine JE_then_ret ?_
          have h53 := leafR hd33 h51 h29
          refine JE_block_ret ?_
          refine JE_then_ret ?_
          refine JE_then_ret ?_
          refine JE_ret (vs := [.bool false]) (by kernel_rfl) (fun γ w hs => ?_)
          rw [← sI h53]
          exact ⟨rfl, hs.kept.toBelow⟩
        · have h52 := cF b50 h48
          refine JC_skip ?_
          refine JE_block_normal ?_
          refine JE_then ?_
          refine JC_region ?_
          refine JO_stepsK 3 [5, 0, 1] (sl' := [(5, .v (.int .i64 (w64 (s24 + 1)))), (0, .v (.slice a0_0 x0.length c0_0)), (1, .v (.slice a1_0 x1.length c1_0))]) (bx' := []) (by kernel_rfl) ?_
          refine JO_end (by kernel_rfl) ?_
          exact JE_cont h52 () [5, 0, 1] [] 0 (by kernel_rfl) (by kernel_rfl) (by kernel_rfl) (by kernel_rfl)
      · have h39 := cF b37 h32
        refine JC_exit ?_
        refine JE_then_exit ?_
        refine JE_then_exit ?_
        refine JE_block_hit ?_
        have h54 := leafB hd33 h39 h29
        exact JE_meetP ((), ()) h54 [] [] 0 (by kernel_rfl) (by kernel_rfl) (by kernel_rfl) (by kernel_rfl)
    · have h36 := (congrFun hk31 _).symm.trans h36p
      refine JE_then ?_
      refine JC_seq ?_
      refine JC_region ?_
      refine JO_stepsK 1 [4] (sl' := [(4, .v (.bool true))]) (bx' := []) (by kernel_rfl) ?_
      refine JO_end (by kernel_rfl) ?_
      refine JE_then ?_
      refine JC_ret ?_
      refine JE_ret (vs := [.bool true]) (by kernel_rfl) (fun γ w hs => ?_)
      rw [← sI h36]
      exact ⟨rfl, hs.kept.toBelow⟩

theorem c_laws_eqLedger {W : World} {x0 : Ledger} {a0_0 : Option Addr} {c0_0 : Nat} {x1 : Ledger} {a1_0 : Option Addr} {c1_0 : Nat} {r : Bool} (h : laws_eqLedger x0 x1 = some r) (hv0_0 : SlView W x0.Postings a0_0 c0_0) (hv1_0 : SlView W x1.Postings a1_0 c1_0) :
    Gives0 Try.prog 98 #[.agg #[.slice a0_0 x0.Postings.length c0_0], .agg #[.slice a1_0 x1.Postings.length c1_0]] W (.bool r) := by
  unfold laws_eqLedger at h
  refine enter (args := [.agg #[.slice a0_0 x0.Postings.length c0_0], .agg #[.slice a1_0 x1.Postings.length c1_0]]) Try.func98 rfl Try.ntmps98 (by kernel_rfl) ?_
  refine JC_seq ?_
  refine JC_region ?_
  refine JO_stepsK 3 [3, 2] (sl' := [(3, .p 1 0), (2, .p 0 0)]) (bx' := [(81, [.slice a0_0 x0.Postings.length c0_0]), (81, [.slice a1_0 x1.Postings.length c1_0])]) (by kernel_rfl) ?_
  refine JO_end (by kernel_rfl) ?_
  refine JE_then ?_
  refine JC_seq ?_
  refine JC_seq ?_
  refine JC_region ?_
  refine JO_stepsK 4 [8, 6] (sl' := [(8, .v (.slice a1_0 x1.Postings.length c1_0)), (6, .v (.slice a0_0 x0.Postings.length c0_0))]) (bx' := [(81, [.slice a0_0 x0.Postings.length c0_0]), (81, [.slice a1_0 x1.Postings.length c1_0])]) (by kernel_rfl) ?_
  obtain ⟨t21, h22, h23⟩ := bS h
  refine JO_call0 rfl (by kernel_rfl) (f := 127) (args := #[.slice a0_0 x0.Postings.length c0_0, .slice a1_0 x1.Postings.length c1_0]) (by kernel_rfl) (x := .bool t21) (fun γ w hs => (by have vv := c_laws_eqPostingS (W := w) h22 (hv0_0.kept hs.kept) (hv1_0.kept hs.kept); exact vv)) (sl' := [(9, .v (.bool t21)), (8, .v (.slice a1_0 x1.Postings.length c1_0)), (6, .v (.slice a0_0 x0.Postings.length c0_0))]) (by kernel_rfl) ?_
  refine JO_stepsK 1 [10] (sl' := [(10, .v (.bool (!t21)))]) (bx' := [(81, [.slice a0_0 x0.Postings.length c0_0]), (81, [.slice a1_0 x1.Postings.length c1_0])]) (by kernel_rfl) ?_
  refine JO_end (by kernel_rfl) ?_
  refine JE_then ?_
  refine JC_cond (!t21) (by kernel_rfl) (fun b25 => ?_) (fun b25 => ?_)
  · have h26 := cT b25 h23
    refine JC_seq ?_
    refine JC_region ?_
    refine JO_stepsK 1 [4] (sl' := [(4, .v (.bool false))]) (bx' := [(81, [.slice a0_0 x0.Postings.length c0_0]), (81, [.slice a1_0 x1.Postings.length c1_0])]) (by kernel_rfl) ?_
    refine JO_end (by kernel_rfl) ?_
    refine JE_then ?_
    refine JC_ret ?_
    refine JE_then_ret ?_
    refine JE_ret (vs := [.bool false]) (by kernel_rfl) (fun γ w hs => ?_)
    rw [← sI h26]
    exact ⟨rfl, hs.kept.toBelow⟩
  · have h27 := cF b25 h23
    refine JC_skip ?_
    refine JE_then ?_
    refine JC_seq ?_
    refine JC_region ?_
    refine JO_stepsK 1 [4] (sl' := [(4, .v (.bool true))]) (bx' := [(81, [.slice a0_0 x0.Postings.length c0_0]), (81, [.slice a1_0 x1.Postings.length c1_0])]) (by kernel_rfl) ?_
    refine JO_end (by kernel_rfl) ?_
    refine JE_then ?_
    refine JC_ret ?_
    refine JE_ret (vs := [.bool true]) (by kernel_rfl) (fun γ w hs => ?_)
    rw [← sI h27]
    exact ⟨rfl, hs.kept.toBelow⟩

theorem c_laws_eqBooks {W : World} {x0 : Books} {a0_0 : Option Addr} {c0_0 : Nat} {x1 : Books} {a1_0 : Option Addr} {c1_0 : Nat} {r : Bool} (h : laws_eqBooks x0 x1 = some r) (hv0_0 : SlView W x0.Ledger.Postings a0_0 c0_0) (hv1_0 : SlView W x1.Ledger.Postings a1_0 c1_0) :
    Gives0 Try.prog 54 #[.agg #[.slice a0_0 x0.Ledger.Postings.length c0_0, .int .i64 x0.Closed], .agg #[.slice a1_0 x1.Ledger.Postings.length c1_0, .int .i64 x1.Closed]] W (.bool r) := by
  unfold laws_eqBooks at h
  refine enter (args := [.agg #[.slice a0_0 x0.Ledger.Postings.length c0_0, .int .i64 x0.Closed], .agg #[.slice a1_0 x1.Ledger.Postings.length c1_0, .int .i64 x1.Closed]]) Try.func54 rfl Try.ntmps54 (by kernel_rfl) ?_
  refine JC_seq ?_
  refine JC_region ?_
  refine JO_stepsK 3 [3, 2] (sl' := [(3, .p 1 0), (2, .p 0 0)]) (bx' := [(83, [.slice a0_0 x0.Ledger.Postings.length c0_0, .int .i64 x0.Closed]), (83, [.slice a1_0 x1.Ledger.Postings.length c1_0, .int .i64 x1.Closed])]) (by kernel_rfl) ?_
  refine JO_end (by kernel_rfl) ?_
  refine JE_then ?_
  refine JC_seq ?_
  refine JC_seq ?_
  refine JC_region ?_
  refine JO_stepsK 4 [8, 6, 3, 2] (sl' := [(8, .v (.agg #[.slice a1_0 x1.Ledger.Postings.length c1_0])), (6, .v (.agg #[.slice a0_0 x0.Ledger.Postings.length c0_0])), (3, .p 1 0), (2, .p 0 0)]) (bx' := [(83, [.slice a0_0 x0.Ledger.Postings.length c0_0, .int .i64 x0.Closed]), (83, [.slice a1_0 x1.Ledger.Postings.length c1_0, .int .i64 x1.Closed])]) (by kernel_rfl) ?_
  obtain ⟨t21, h22, h23⟩ := bS h
  refine JO_call0 rfl (by kernel_rfl) (f := 98) (args := #[.agg #[.slice a0_0 x0.Ledger.Postings.length c0_0], .agg #[.slice a1_0 x1.Ledger.Postings.length c1_0]]) (by kernel_rfl) (x := .bool t21) (fun γ w hs => (by have vv := c_laws_eqLedger (W := w) h22 (hv0_0.kept hs.kept) (hv1_0.kept hs.kept); exact vv)) (sl' := [(9, .v (.bool t21)), (8, .v (.agg #[.slice a1_0 x1.Ledger.Postings.length c1_0])), (6, .v (.agg #[.slice a0_0 x0.Ledger.Postings.length c0_0])), (3, .p 1 0), (2, .p 0 0)]) (by kernel_rfl) ?_
  refine JO_stepsK 1 [10, 3, 2] (sl' := [(10, .v (.bool (!t21))), (3, .p 1 0), (2, .p 0 0)]) (bx' := [(83, [.slice a0_0 x0.Ledger.Postings.length c0_0, .int .i64 x0.Closed]), (83, [.slice a1_0 x1.Ledger.Postings.length c1_0, .int .i64 x1.Closed])]) (by kernel_rfl) ?_
  refine JO_end (by kernel_rfl) ?_
  refine JE_then ?_
  refine JC_cond (!t21) (by kernel_rfl) (fun b25 => ?_) (fun b25 => ?_)
  · have h26 := cT b25 h23
    refine JC_seq ?_
    refine JC_region ?_
    refine JO_stepsK 1 [4] (sl' := [(4, .v (.bool false))]) (bx' := [(83, [.slice a0_0 x0.Ledger.Postings.length c0_0, .int .i64 x0.Closed]), (83, [.slice a1_0 x1.Ledger.Postings.length c1_0, .int .i64 x1.Closed])]) (by kernel_rfl) ?_
    refine JO_end (by kernel_rfl) ?_
    refine JE_then ?_
    refine JC_ret ?_
    refine JE_then_ret ?_
    refine JE_ret (vs := [.bool false]) (by kernel_rfl) (fun γ w hs => ?_)
    rw [← sI h26]
    exact ⟨rfl, hs.kept.toBelow⟩
  · have h27 := cF b25 h23
    refine JC_skip ?_
    refine JE_then ?_
    refine JC_seq ?_
    refine JC_seq ?_
    refine JC_region ?_
    refine JO_stepsK 5 [15] (sl' := [(15, .v (.bool (x0.Closed != x1.Closed)))]) (bx' := [(83, [.slice a0_0 x0.Ledger.Postings.length c0_0, .int .i64 x0.Closed]), (83, [.slice a1_0 x1.Ledger.Postings.length c1_0, .int .i64 x1.Closed])]) (by kernel_rfl) ?_
    refine JO_end (by kernel_rfl) ?_
    refine JE_then ?_
    refine JC_cond (x0.Closed != x1.Closed) (by kernel_rfl) (fun b28 => ?_) (fun b28 => ?_)
    · have h29 := cT b28 h27
      refine JC_seq ?_
      refine JC_region ?_
      refine JO_stepsK 1 [4] (sl' := [(4, .v (.bool false))]) (bx' := [(83, [.slice a0_0 x0.Ledger.Postings.length c0_0, .int .i64 x0.Closed]), (83, [.slice a1_0 x1.Ledger.Postings.length c1_0, .int .i64 x1.Closed])]) (by kernel_rfl) ?_
      refine JO_end (by kernel_rfl) ?_
      refine JE_then ?_
      refine JC_ret ?_
      refine JE_then_ret ?_
      refine JE_ret (vs := [.bool false]) (by kernel_rfl) (fun γ w hs => ?_)
      rw [← sI h29]
      exact ⟨rfl, hs.kept.toBelow⟩
    · have h30 := cF b28 h27
      refine JC_skip ?_
      refine JE_then ?_
      refine JC_seq ?_
      refine JC_region ?_
      refine JO_stepsK 1 [4] (sl' := [(4, .v (.bool true))]) (bx' := [(83, [.slice a0_0 x0.Ledger.Postings.length c0_0, .int .i64 x0.Closed]), (83, [.slice a1_0 x1.Ledger.Postings.length c1_0, .int .i64 x1.Closed])]) (by kernel_rfl) ?_
      refine JO_end (by kernel_rfl) ?_
      refine JE_then ?_
      refine JC_ret ?_
      refine JE_ret (vs := [.bool true]) (by kernel_rfl) (fun γ w hs => ?_)
      rw [← sI h30]
      exact ⟨rfl, hs.kept.toBelow⟩

theorem c_laws_markPostingS {W : World} {x0 : List Posting} {a0_0 : Option Addr} {c0_0 : Nat} {e0_0 : TypeId} {x1 : Int} {r : Int × (List Posting)} (h : laws_markPostingS x0 x1 = some r)  :
    GivesM Try.prog 128 #[.slice a0_0 x0.length c0_0, .int .i64 x1] W [SlRes e0_0 x0 a0_0 c0_0] [SlRes e0_0 r.2 a0_0 c0_0] (.int .i64 r.1) := by
  unfold laws_markPostingS at h
  refine enterM (args := [.slice a0_0 x0.length c0_0, .int .i64 x1]) Try.func128 rfl Try.ntmps128 (by kernel_rfl) (fun Fs => ?_)
  refine JC_seq ?_
  refine JC_region ?_
  refine JO_stepsK 1 [0, 1] (sl' := [(0, .v (.slice a0_0 x0.length c0_0)), (1, .v (.int .i64 x1))]) (bx' := []) (by kernel_rfl) ?_
  refine JO_end (by kernel_rfl) ?_
  refine JE_then ?_
  refine JC_seq ?_
  refine JC_seq ?_
  refine JC_region ?_
  refine JO_stepsK 1 [5, 0, 1] (sl' := [(5, .v (.int .i64 0)), (0, .v (.slice a0_0 x0.length c0_0)), (1, .v (.int .i64 x1))]) (bx' := []) (by kernel_rfl) ?_
  refine JO_end (by kernel_rfl) ?_
  refine JE_then ?_
  obtain ⟨r24, hL25, h26⟩ := bS h
  obtain ⟨k27, hk28, h26⟩ := brkS h26
  refine JC_cutP (τ := ((List Posting) × Int) × (Unit)) (fun y => k27 y.1 = some r) (fun y32 => [(0, .v (.slice a0_0 y32.1.1.length c0_0)), (1, .v (.int .i64 y32.1.2))]) (fun y32 => []) (fun y32 => [SlRes e0_0 y32.1.1 a0_0 c0_0]) ?_ (fun y32 h33p => ?_)
  · refine JC_block ?_
    refine JC_loop (τ := Unit) hL25 (fun s21 y22 => [(5, .v (.int .i64 s21.1)), (0, .v (.slice a0_0 s21.2.1.length c0_0)), (1, .v (.int .i64 s21.2.2))]) (fun s21 y22 => []) (fun s21 y22 => [SlRes e0_0 s21.2.1 a0_0 c0_0]) () [5, 0, 1] [0] 0 (by kernel_rfl) (by kernel_rfl) (by kernel_rfl) (by kernel_rfl) (fun s21 y22 t23 h29 hd30 => ?_)
    refine JC_seq ?_
    refine JC_seq ?_
    refine JC_region ?_
    refine JO_stepsK 4 [9, 5, 0, 1] (sl' := [(9, .v (.bool (decide (s21.1 < (s21.2.1.length : Int))))), (5, .v (.int .i64 s21.1)), (0, .v (.slice a0_0 s21.2.1.length c0_0)), (1, .v (.int .i64 s21.2.2))]) (bx' := []) (by kernel_rfl) ?_
    refine JO_end (by kernel_rfl) ?_
    refine JE_then ?_
    refine JC_cond (decide (s21.1 < (s21.2.1.length : Int))) (by kernel_rfl) (fun b34 => ?_) (fun b34 => ?_)
    · have h35 := cT b34 h29
      refine JC_skip ?_
      refine JE_then ?_
      refine JC_seq ?_
      refine JC_block ?_
      refine JC_seq ?_
      refine JC_region ?_
      refine JO_stepsK 3 [14, 13, 12, 5, 0, 1] (sl' := [(14, .v (.int .i64 s21.2.2)), (13, .v (.int .i64 s21.1)), (12, .v (.slice a0_0 s21.2.1.length c0_0)), (5, .v (.int .i64 s21.1)), (0, .v (.slice a0_0 s21.2.1.length c0_0)), (1, .v (.int .i64 s21.2.2))]) (bx' := []) (by kernel_rfl) ?_
      obtain ⟨x37, hx38, h39⟩ := bS h35
      refine JO_index rfl (by kernel_rfl) (d := a0_0) (m := s21.2.1.length) (j := s21.1) (s := 4) (by kernel_rfl) (fun γ w hs => (hs.view 0 rfl)) rfl hx38 (sl' := [(15, .q a0_0 (Int.toNat s21.1 * 4)), (14, .v (.int .i64 s21.2.2)), (13, .v (.int .i64 s21.1)), (12, .v (.slice a0_0 s21.2.1.length c0_0)), (5, .v (.int .i64 s21.1)), (0, .v (.slice a0_0 s21.2.1.length c0_0)), (1, .v (.int .i64 s21.2.2))]) (by kernel_rfl) ?_
      refine JO_stepsK 1 [16, 14, 5, 0, 1] (sl' := [(16, .q a0_0 (Int.toNat s21.1 * 4)), (14, .v (.int .i64 s21.2.2)), (5, .v (.int .i64 s21.1)), (0, .v (.slice a0_0 s21.2.1.length c0_0)), (1, .v (.int .i64 s21.2.2))]) (bx' := []) (by kernel_rfl) ?_
      obtain ⟨l40, hm41, h42⟩ := bS h39
      replace hm41 := (sI hm41).symm
      refine JO_storeq (α := Posting) (d := a0_0) (vs := [.int .i64 s21.2.2]) (j := s21.1) (x' := (Posting.mk s21.2.2 x37.Debit x37.Credit x37.Cents)) rfl (by kernel_rfl) 0 (by kernel_rfl) hx38 (Rc := []) (Rr := []) rfl (by kernel_rfl) (fun w c F Fs ho _ _ => own_flat_set (by kernel_rfl) ho) hm41 (sl' := [(16, .q a0_0 (Int.toNat s21.1 * 4)), (14, .v (.int .i64 s21.2.2)), (5, .v (.int .i64 s21.1)), (0, .v (.slice a0_0 s21.2.1.length c0_0)), (1, .v (.int .i64 s21.2.2))]) (by kernel_rfl) ?_
      have hl43 := len_set hm41
      refine JO_keep [14, 5, 0, 1] (sl' := [(14, .v (.int .i64 s21.2.2)), (5, .v (.int .i64 s21.1)), (0, .v (.slice a0_0 s21.2.1.length c0_0)), (1, .v (.int .i64 s21.2.2))]) (by kernel_rfl) ?_
      refine JO_eqE (sl' := [(14, .v (.int .i64 s21.2.2)), (5, .v (.int .i64 s21.1)), (0, .v (.slice a0_0 l40.length c0_0)), (1, .v (.int .i64 s21.2.2))]) (bx' := []) (by simp only [hl43]) rfl ?_
      refine JO_end (by kernel_rfl) ?_
      refine JE_then ?_
      refine JC_seq ?_
      refine JC_region ?_
      refine JO_stepsK 3 [1, 5, 0] (sl' := [(1, .v (.int .i64 (w64 (s21.2.2 + 1)))), (5, .v (.int .i64 s21.1)), (0, .v (.slice a0_0 l40.length c0_0))]) (bx' := []) (by kernel_rfl) ?_
      refine JO_end (by kernel_rfl) ?_
      refine JE_then ?_
      refine JC_seq ?_
      refine JC_region ?_
      refine JO_stepsK 3 [21, 20, 19, 1, 5, 0] (sl' := [(21, .v (.int .i64 (w64 (s21.2.2 + 1)))), (20, .v (.int .i64 s21.1)), (19, .v (.slice a0_0 l40.length c0_0)), (1, .v (.int .i64 (w64 (s21.2.2 + 1)))), (5, .v (.int .i64 s21.1)), (0, .v (.slice a0_0 l40.length c0_0))]) (bx' := []) (by kernel_rfl) ?_
      obtain ⟨x44, hx45, h46⟩ := bS h42
      refine JO_index rfl (by kernel_rfl) (d := a0_0) (m := l40.length) (j := s21.1) (s := 4) (by kernel_rfl) (fun γ w hs => (hs.view 0 rfl)) rfl hx45 (sl' := [(22, .q a0_0 (Int.toNat s21.1 * 4)), (21, .v (.int .i64 (w64 (s21.2.2 + 1)))), (20, .v (.int .i64 s21.1)), (19, .v (.slice a0_0 l40.length c0_0)), (1, .v (.int .i64 (w64 (s21.2.2 + 1)))), (5, .v (.int .i64 s21.1)), (0, .v (.slice a0_0 l40.length c0_0))]) (by kernel_rfl) ?_
      refine JO_stepsK 1 [23, 21, 1, 5, 0] (sl' := [(23, .q a0_0 (Int.toNat s21.1 * 4 + 1)), (21, .v (.int .i64 (w64 (s21.2.2 + 1)))), (1, .v (.int .i64 (w64 (s21.2.2 + 1)))), (5, .v (.int .i64 s21.1)), (0, .v (.slice a0_0 l40.length c0_0))]) (bx' := []) (by kernel_rfl) ?_
      obtain ⟨l47, hm48, h49⟩ := bS h46
      replace hm48 := (sI hm48).symm
      refine JO_storeq (α := Posting) (d := a0_0) (vs := [.int .i64 (w64 (s21.2.2 + 1))]) (j := s21.1) (x' := (Posting.mk x44.Month (w64 (s21.2.2 + 1)) x44.Credit x44.Cents)) rfl (by kernel_rfl) 1 (by kernel_rfl) hx45 (Rc := []) (Rr := []) rfl (by kernel_rfl) (fun w c F Fs ho _ _ => own_flat_set (by kernel_rfl) ho) hm48 (sl' := [(23, .q a0_0 (Int.toNat s21.1 * 4 + 1)), (21, .v (.int .i64 (w64 (s21.2.2 + 1)))), (1, .v (.int .i64 (w64 (s21.2.2 + 1)))), (5, .v (.int .i64 s21.1)), (0, .v (.slice a0_0 l40.length c0_0))]) (by kernel_rfl) ?_
      have hl50 := len_set hm48
      refine JO_keep [21, 1, 5, 0] (sl' := [(21, .v (.int .i64 (w64 (s21.2.2 + 1)))), (1, .v (.int .i64 (w64 (s21.2.2 + 1)))), (5, .v (.int .i64 s21.1)), (0, .v (.slice a0_0 l40.length c0_0))]) (by kernel_rfl) ?_
      refine JO_eqE (sl' := [(21, .v (.int .i64 (w64 (s21.2.2 + 1)))), (1, .v (.int .i64 (w64 (s21.2.2 + 1)))), (5, .v (.int .i64 s21.1)), (0, .v (.slice a0_0 l47.length c0_0))]) (bx' := []) (by simp only [hl50]) rfl ?_
      refine JO_end (by kernel_rfl) ?_
      refine JE_then ?_
      refine JC_seq ?_
      refine JC_region ?_
      refine JO_stepsK 3 [1, 5, 0] (sl' := [(1, .v (.int .i64 (w64 ((w64 (s21.2.2 + 1)) + 1)))), (5, .v (.int .i64 s21.1)), (0, .v (.slice a0_0 l47.length c0_0))]) (bx' := []) (by kernel_rfl) ?_
      refine JO_end (by kernel_rfl) ?_
      refine JE_then ?_
      refine JC_seq ?_
      refine JC_region ?_
      refine JO_stepsK 3 [28, 27, 26, 1, 5, 0] (sl' := [(28, .v (.int .i64 (w64 ((w64 (s21.2.2 + 1)) + 1)))), (27, .v (.int .i64 s21.1)), (26, .v (.slice a0_0 l47.length c0_0)), (1, .v (.int .i64 (w64 ((w64 (s21.2.2 + 1)) + 1)))), (5, .v (.int .i64 s21.1)), (0, .v (.slice a0_0 l47.length c0_0))]) (bx' := []) (by kernel_rfl) ?_
      obtain ⟨x51, hx52, h53⟩ := bS h49
      refine JO_index rfl (by kernel_rfl) (d := a0_0) (m := l47.length) (j := s21.1) (s := 4) (by kernel_rfl) (fun γ w hs => (hs.view 0 rfl)) rfl hx52 (sl' := [(29, .q a0_0 (Int.toNat s21.1 * 4)), (28, .v (.int .i64 (w64 ((w64 (s21.2.2 + 1)) + 1)))), (27, .v (.int .i64 s21.1)), (26, .v (.slice a0_0 l47.length c0_0)), (1, .v (.int .i64 (w64 ((w64 (s21.2.2 + 1)) + 1)))), (5, .v (.int .i64 s21.1)), (0, .v (.slice a0_0 l47.length c0_0))]) (by kernel_rfl) ?_
      refine JO_stepsK 1 [30, 28, 1, 5, 0] (sl' := [(30, .q a0_0 (Int.toNat s21.1 * 4 + 2)), (28, .v (.int .i64 (w64 ((w64 (s21.2.2 + 1)) + 1)))), (1, .v (.int .i64 (w64 ((w64 (s21.2.2 + 1)) + 1)))), (5, .v (.int .i64 s21.1)), (0, .v (.slice a0_0 l47.length c0_0))]) (bx' := []) (by kernel_rfl) ?_
      obtain ⟨l54, hm55, h56⟩ := bS h53
      replace hm55 := (sI hm55).symm
      refine JO_storeq (α := Posting) (d := a0_0) (vs := [.int .i64 (w64 ((w64 (s21.2.2 + 1)) + 1))]) (j := s21.1) (x' := (Posting.mk x51.Month x51.Debit (w64 ((w64 (s21.2.2 + 1)) + 1)) x51.Cents)) rfl (by kernel_rfl) 2 (by kernel_rfl) hx52 (Rc := []) (Rr := []) rfl (by kernel_rfl) (fun w c F Fs ho _ _ => own_flat_set (by kernel_rfl) ho) hm55 (sl' := [(30, .q a0_0 (Int.toNat s21.1 * 4 + 2)), (28, .v (.int .i64 (w64 ((w64 (s21.2.2 + 1)) + 1)))), (1, .v (.int .i64 (w64 ((w64 (s21.2.2 + 1)) + 1)))), (5, .v (.int .i64 s21.1)), (0, .v (.slice a0_0 l47.length c0_0))]) (by kernel_rfl) ?_
      have hl57 := len_set hm55
      refine JO_keep [28, 1, 5, 0] (sl' := [(28, .v (.int .i64 (w64 ((w64 (s21.2.2 + 1)) + 1)))), (1, .v (.int .i64 (w64 ((w64 (s21.2.2 + 1)) + 1)))), (5, .v (.int .i64 s21.1)), (0, .v (.slice a0_0 l47.length c0_0))]) (by kernel_rfl) ?_
      refine JO_eqE (sl' := [(28, .v (.int .i64 (w64 ((w64 (s21.2.2 + 1)) + 1)))), (1, .v (.int .i64 (w64 ((w64 (s21.2.2 + 1)) + 1)))), (5, .v (.int .i64 s21.1)), (0, .v (.slice a0_0 l54.length c0_0))]) (bx' := []) (by simp only [hl57]) rfl ?_
      refine JO_end (by kernel_rfl) ?_
      refine JE_then ?_
      refine JC_seq ?_
      refine JC_region ?_
      refine JO_stepsK 3 [1, 5, 0] (sl' := [(1, .v (.int .i64 (w64 ((w64 ((w64 (s21.2.2 + 1)) + 1)) + 1)))), (5, .v (.int .i64 s21.1)), (0, .v (.slice a0_0 l54.length c0_0))]) (bx' := []) (by kernel_rfl) ?_
      refine JO_end (by kernel_rfl) ?_
      refine JE_then ?_
      refine JC_seq ?_
      refine JC_region ?_
      refine JO_stepsK 3 [35, 34, 33, 1, 5, 0] (sl' := [(35, .v (.int .i64 (w64 ((w64 ((w64 (s21.2.2 + 1)) + 1)) + 1)))), (34, .v (.int .i64 s21.1)), (33, .v (.slice a0_0 l54.length c0_0)), (1, .v (.int .i64 (w64 ((w64 ((w64 (s21.2.2 + 1)) + 1)) + 1)))), (5, .v (.int .i64 s21.1)), (0, .v (.slice a0_0 l54.length c0_0))]) (bx' := []) (by kernel_rfl) ?_
      obtain ⟨x58, hx59, h60⟩ := bS h56
      refine JO_index rfl (by kernel_rfl) (d := a0_0) (m := l54.length) (j := s21.1) (s := 4) (by kernel_rfl) (fun γ w hs => (hs.view 0 rfl)) rfl hx59 (sl' := [(36, .q a0_0 (Int.toNat s21.1 * 4)), (35, .v (.int .i64 (w64 ((w64 ((w64 (s21.2.2 + 1)) + 1)) + 1)))), (34, .v (.int .i64 s21.1)), (33, .v (.slice a0_0 l54.length c0_0)), (1, .v (.int .i64 (w64 ((w64 ((w64 (s21.2.2 + 1)) + 1)) + 1)))), (5, .v (.int .i64 s21.1)), (0, .v (.slice a0_0 l54.length c0_0))]) (by kernel_rfl) ?_
      refine JO_stepsK 1 [37, 35, 1, 5, 0] (sl' := [(37, .q a0_0 (Int.toNat s21.1 * 4 + 3)), (35, .v (.int .i64 (w64 ((w64 ((w64 (s21.2.2 + 1)) + 1)) + 1)))), (1, .v (.int .i64 (w64 ((w64 ((w64 (s21.2.2 + 1)) + 1)) + 1)))), (5, .v (.int .i64 s21.1)), (0, .v (.slice a0_0 l54.length c0_0))]) (bx' := []) (by kernel_rfl) ?_
      obtain ⟨l61, hm62, h63⟩ := bS h60
      replace hm62 := (sI hm62).symm
      refine JO_storeq (α := Posting) (d := a0_0) (vs := [.int .i64 (w64 ((w64 ((w64 (s21.2.2 + 1)) + 1)) + 1))]) (j := s21.1) (x' := (Posting.mk x58.Month x58.Debit x58.Credit (w64 ((w64 ((w64 (s21.2.2 + 1)) + 1)) + 1)))) rfl (by kernel_rfl) 3 (by kernel_rfl) hx59 (Rc := []) (Rr := []) rfl (by kernel_rfl) (fun w c F Fs ho _ _ => own_flat_set (by kernel_rfl) ho) hm62 (sl' := [(37, .q a0_0 (Int.toNat s21.1 * 4 + 3)), (35, .v (.int .i64 (w64 ((w64 ((w64 (s21.2.2 + 1)) + 1)) + 1)))), (1, .v (.int .i64 (w64 ((w64 ((w64 (s21.2.2 + 1)) + 1)) + 1)))), (5, .v (.int .i64 s21.1)), (0, .v (.slice a0_0 l54.length c0_0))]) (by kernel_rfl) ?_
      have hl64 := len_set hm62
      refine JO_keep [35, 1, 5, 0] (sl' := [(35, .v (.int .i64 (w64 ((w64 ((w64 (s21.2.2 + 1)) + 1)) + 1)))), (1, .v (.int .i64 (w64 ((w64 ((w64 (s21.2.2 + 1)) + 1)) + 1)))), (5, .v (.int .i64 s21.1)), (0, .v (.slice a0_0 l54.length c0_0))]) (by kernel_rfl) ?_
      refine JO_eqE (sl' := [(35, .v (.int .i64 (w64 ((w64 ((w64 (s21.2.2 + 1)) + 1)) + 1)))), (1, .v (.int .i64 (w64 ((w64 ((w64 (s21.2.2 + 1)) + 1)) + 1)))), (5, .v (.int .i64 s21.1)), (0, .v (.slice a0_0 l61.length c0_0))]) (bx' := []) (by simp only [hl64]) rfl ?_
      refine JO_end (by kernel_rfl) ?_
      refine JE_then ?_
      refine JC_region ?_
      refine JO_stepsK 3 [1, 5, 0] (sl' := [(1, .v (.int .i64 (w64 ((w64 ((w64 ((w64 (s21.2.2 + 1)) + 1)) + 1)) + 1)))), (5, .v (.int .i64 s21.1)), (0, .v (.slice a0_0 l61.length c0_0))]) (bx' := []) (by kernel_rfl) ?_
      refine JO_end (by kernel_rfl) ?_
      refine JE_block_normal ?_
      refine JE_then ?_
      refine JC_region ?_
      refine JO_stepsK 3 [5, 1, 0] (sl' := [(5, .v (.int .i64 (w64 (s21.1 + 1)))), (1, .v (.int .i64 (w64 ((w64 ((w64 ((w64 (s21.2.2 + 1)) + 1)) + 1)) + 1)))), (0, .v (.slice a0_0 l61.length c0_0))]) (bx' := []) (by kernel_rfl) ?_
      refine JO_end (by kernel_rfl) ?_
      exact JE_cont h63 () [5, 0, 1] [0] 0 (by kernel_rfl) (by kernel_rfl) (by kernel_rfl) (by kernel_rfl)
    · have h36 := cF b34 h29
      refine JC_exit ?_
      refine JE_then_exit ?_
      refine JE_then_exit ?_
      refine JE_block_hit ?_
      have h65 := leafB hd30 h36 h26
      exact JE_meetP ((s21.2.1, s21.2.2), ()) h65 [0, 1] [0] 0 (by kernel_rfl) (by kernel_rfl) (by kernel_rfl) (by kernel_rfl)
  · have h33 := (congrFun hk28 _).symm.trans h33p
    refine JE_then ?_
    refine JC_seq ?_
    refine JC_region ?_
    refine JO_stepsK 2 [4, 0] (sl' := [(4, .v (.int .i64 y32.1.2)), (0, .v (.slice a0_0 y32.1.1.length c0_0))]) (bx' := []) (by kernel_rfl) ?_
    refine JO_end (by kernel_rfl) ?_
    refine JE_then ?_
    refine JC_ret ?_
    refine JE_ret (vs := [.int .i64 y32.1.2]) (by kernel_rfl) (fun γ w hs => ?_)
    rw [← sI h33]
    exact hs.turned (is := [0]) rfl

theorem c_laws_markLedger {W : World} {x0 : Ledger} {a0_0 : Option Addr} {c0_0 : Nat} {e0_0 : TypeId} {x1 : Int} {r : Int × (List Posting)} (h : laws_markLedger x0 x1 = some r)  :
    GivesM Try.prog 99 #[.agg #[.slice a0_0 x0.Postings.length c0_0], .int .i64 x1] W [SlRes e0_0 x0.Postings a0_0 c0_0] [SlRes e0_0 r.2 a0_0 c0_0] (.int .i64 r.1) := by
  unfold laws_markLedger at h
  refine enterM (args := [.agg #[.slice a0_0 x0.Postings.length c0_0], .int .i64 x1]) Try.func99 rfl Try.ntmps99 (by kernel_rfl) (fun Fs => ?_)
  refine JC_seq ?_
  refine JC_region ?_
  refine JO_stepsK 2 [2, 0, 1] (sl' := [(2, .p 0 0), (0, .v (.agg #[.slice a0_0 x0.Postings.length c0_0])), (1, .v (.int .i64 x1))]) (bx' := [(81, [.slice a0_0 x0.Postings.length c0_0])]) (by kernel_rfl) ?_
  refine JO_end (by kernel_rfl) ?_
  refine JE_then ?_
  refine JC_seq ?_
  refine JC_region ?_
  refine JO_stepsK 3 [7, 6, 0] (sl' := [(7, .v (.int .i64 x1)), (6, .v (.slice a0_0 x0.Postings.length c0_0)), (0, .v (.agg #[.slice a0_0 x0.Postings.length c0_0]))]) (bx' := [(81, [.slice a0_0 x0.Postings.length c0_0])]) (by kernel_rfl) ?_
  obtain ⟨t21, h22, h23⟩ := bS h
  obtain ⟨u25, hu26, h27⟩ := bS h23
  have hl28 := (sameLen_some hu26).symm
  refine JO_callM rfl (by kernel_rfl) (f := 128) (args := #[.slice a0_0 x0.Postings.length c0_0, .int .i64 x1]) (by kernel_rfl) (x := .int .i64 t21.1) (Rin := [SlRes e0_0 x0.Postings a0_0 c0_0]) (Rout := [SlRes e0_0 t21.2 a0_0 c0_0]) (Rr := []) rfl (fun w => (by have vv := c_laws_markPostingS (e0_0 := e0_0) (a0_0 := a0_0) (c0_0 := c0_0) (W := w) h22; exact vv)) (sl' := [(8, .v (.int .i64 t21.1)), (7, .v (.int .i64 x1)), (6, .v (.slice a0_0 x0.Postings.length c0_0)), (0, .v (.agg #[.slice a0_0 x0.Postings.length c0_0]))]) (by kernel_rfl) ?_
  refine JO_eqE (sl' := [(8, .v (.int .i64 t21.1)), (7, .v (.int .i64 x1)), (6, .v (.slice a0_0 t21.2.length c0_0)), (0, .v (.agg #[.slice a0_0 t21.2.length c0_0]))]) (bx' := [(81, [.slice a0_0 t21.2.length c0_0])]) (by simp only [hl28]) (by simp only [hl28]) ?_
  refine JO_stepsK 1 [1, 0] (sl' := [(1, .v (.int .i64 t21.1)), (0, .v (.agg #[.slice a0_0 t21.2.length c0_0]))]) (bx' := [(81, [.slice a0_0 t21.2.length c0_0])]) (by kernel_rfl) ?_
  refine JO_end (by kernel_rfl) ?_
  refine JE_then ?_
  refine JC_seq ?_
  refine JC_region ?_
  refine JO_stepsK 2 [4, 0] (sl' := [(4, .v (.int .i64 t21.1)), (0, .v (.agg #[.slice a0_0 t21.2.length c0_0]))]) (bx' := [(81, [.slice a0_0 t21.2.length c0_0])]) (by kernel_rfl) ?_
  refine JO_end (by kernel_rfl) ?_
  refine JE_then ?_
  refine JC_ret ?_
  refine JE_ret (vs := [.int .i64 t21.1]) (by kernel_rfl) (fun γ w hs => ?_)
  rw [← sI h27]
  exact hs.turned (is := [0]) rfl

theorem c_laws_markBooks {W : World} {x0 : Books} {a0_0 : Option Addr} {c0_0 : Nat} {e0_0 : TypeId} {x1 : Int} {r : Int × (List Posting)} (h : laws_markBooks x0 x1 = some r)  :
    GivesM Try.prog 55 #[.agg #[.slice a0_0 x0.Ledger.Postings.length c0_0, .int .i64 x0.Closed], .int .i64 x1] W [SlRes e0_0 x0.Ledger.Postings a0_0 c0_0] [SlRes e0_0 r.2 a0_0 c0_0] (.int .i64 r.1) := by
  unfold laws_markBooks at h
  refine enterM (args := [.agg #[.slice a0_0 x0.Ledger.Postings.length c0_0, .int .i64 x0.Closed], .int .i64 x1]) Try.func55 rfl Try.ntmps55 (by kernel_rfl) (fun Fs => ?_)
  refine JC_seq ?_
  refine JC_region ?_
  refine JO_stepsK 2 [2, 0, 1] (sl' := [(2, .p 0 0), (0, .v (.agg #[.slice a0_0 x0.Ledger.Postings.length c0_0, .int .i64 x0.Closed])), (1, .v (.int .i64 x1))]) (bx' := [(83, [.slice a0_0 x0.Ledger.Postings.length c0_0, .int .i64 x0.Closed])]) (by kernel_rfl) ?_
  refine JO_end (by kernel_rfl) ?_
  refine JE_then ?_
  refine JC_seq ?_
  refine JC_region ?_
  refine JO_stepsK 3 [7, 6, 0] (sl' := [(7, .v (.int .i64 x1)), (6, .v (.agg #[.slice a0_0 x0.Ledger.Postings.length c0_0])), (0, .v (.agg #[.slice a0_0 x0.Ledger.Postings.length c0_0, .int .i64 x0.Closed]))]) (bx' := [(83, [.slice a0_0 x0.Ledger.Postings.length c0_0, .int .i64 x0.Closed])]) (by kernel_rfl) ?_
  obtain ⟨t21, h22, h23⟩ := bS h
  obtain ⟨u25, hu26, h27⟩ := bS h23
  have hl28 := (sameLen_some hu26).symm
  refine JO_callM rfl (by kernel_rfl) (f := 99) (args := #[.agg #[.slice a0_0 x0.Ledger.Postings.length c0_0], .int .i64 x1]) (by kernel_rfl) (x := .int .i64 t21.1) (Rin := [SlRes e0_0 x0.Ledger.Postings a0_0 c0_0]) (Rout := [SlRes e0_0 t21.2 a0_0 c0_0]) (Rr := []) rfl (fun w => (by have vv := c_laws_markLedger (e0_0 := e0_0) (a0_0 := a0_0) (c0_0 := c0_0) (W := w) h22; exact vv)) (sl' := [(8, .v (.int .i64 t21.1)), (7, .v (.int .i64 x1)), (6, .v (.agg #[.slice a0_0 x0.Ledger.Postings.length c0_0])), (0, .v (.agg #[.slice a0_0 x0.Ledger.Postings.length c0_0, .int .i64 x0.Closed]))]) (by kernel_rfl) ?_
  refine JO_eqE (sl' := [(8, .v (.int .i64 t21.1)), (7, .v (.int .i64 x1)), (6, .v (.agg #[.slice a0_0 t21.2.length c0_0])), (0, .v (.agg #[.slice a0_0 t21.2.length c0_0, .int .i64 x0.Closed]))]) (bx' := [(83, [.slice a0_0 t21.2.length c0_0, .int .i64 x0.Closed])]) (by simp only [hl28]) (by simp only [hl28]) ?_
  refine JO_stepsK 1 [1, 0] (sl' := [(1, .v (.int .i64 t21.1)), (0, .v (.agg #[.slice a0_0 t21.2.length c0_0, .int .i64 x0.Closed]))]) (bx' := [(83, [.slice a0_0 t21.2.length c0_0, .int .i64 x0.Closed])]) (by kernel_rfl) ?_
  refine JO_end (by kernel_rfl) ?_
  refine JE_then ?_
  refine JC_seq ?_
  refine JC_region ?_
  refine JO_stepsK 2 [4, 0] (sl' := [(4, .v (.int .i64 t21.1)), (0, .v (.agg #[.slice a0_0 t21.2.length c0_0, .int .i64 x0.Closed]))]) (bx' := [(83, [.slice a0_0 t21.2.length c0_0, .int .i64 x0.Closed])]) (by kernel_rfl) ?_
  refine JO_end (by kernel_rfl) ?_
  refine JE_then ?_
  refine JC_ret ?_
  refine JE_ret (vs := [.int .i64 t21.1]) (by kernel_rfl) (fun γ w hs => ?_)
  rw [← sI h27]
  exact hs.turned (is := [0]) rfl

theorem c_laws_heldPostingS {W : World} {x0 : List Posting} {a0_0 : Option Addr} {c0_0 : Nat} {x1 : Int} {r : Int} (h : laws_heldPostingS x0 x1 = some r) (hv0_0 : SlView W x0 a0_0 c0_0) :
    Gives0 Try.prog 129 #[.slice a0_0 x0.length c0_0, .int .i64 x1] W (.int .i64 r) := by
  unfold laws_heldPostingS at h
  refine enter (args := [.slice a0_0 x0.length c0_0, .int .i64 x1]) Try.func129 rfl Try.ntmps129 (by kernel_rfl) ?_
  refine JC_seq ?_
  refine JC_region ?_
  refine JO_stepsK 1 [0, 1] (sl' := [(0, .v (.slice a0_0 x0.length c0_0)), (1, .v (.int .i64 x1))]) (bx' := []) (by kernel_rfl) ?_
  refine JO_end (by kernel_rfl) ?_
  refine JE_then ?_
  refine JC_seq ?_
  refine JC_seq ?_
  refine JC_region ?_
  refine JO_stepsK 1 [5, 0, 1] (sl' := [(5, .v (.int .i64 0)), (0, .v (.slice a0_0 x0.length c0_0)), (1, .v (.int .i64 x1))]) (bx' := []) (by kernel_rfl) ?_
  refine JO_end (by kernel_rfl) ?_
  refine JE_then ?_
  obtain ⟨r24, hL25, h26⟩ := bS h
  obtain ⟨k27, hk28, h26⟩ := brkS h26
  refine JC_cutP (τ := (Int) × (Unit)) (fun y => k27 y.1 = some r) (fun y32 => [(1, .v (.int .i64 y32.1))]) (fun y32 => []) (fun y32 => []) ?_ (fun y32 h33p => ?_)
  · refine JC_block ?_
    refine JC_loop (τ := Unit) hL25 (fun s21 y22 => [(5, .v (.int .i64 s21.1)), (0, .v (.slice a0_0 x0.length c0_0)), (1, .v (.int .i64 s21.2))]) (fun s21 y22 => []) (fun s21 y22 => []) () [5, 0, 1] [] 0 (by kernel_rfl) (by kernel_rfl) (by kernel_rfl) (by kernel_rfl) (fun s21 y22 t23 h29 hd30 => ?_)
    refine JC_seq ?_
    refine JC_seq ?_
    refine JC_region ?_
    refine JO_stepsK 4 [9, 5, 0, 1] (sl' := [(9, .v (.bool (decide (s21.1 < (x0.length : Int))))), (5, .v (.int .i64 s21.1)), (0, .v (.slice a0_0 x0.length c0_0)), (1, .v (.int .i64 s21.2))]) (bx' := []) (by kernel_rfl) ?_
    refine JO_end (by kernel_rfl) ?_
    refine JE_then ?_
    refine JC_cond (decide (s21.1 < (x0.length : Int))) (by kernel_rfl) (fun b34 => ?_) (fun b34 => ?_)
    · have h35 := cT b34 h29
      refine JC_skip ?_
      refine JE_then ?_
      refine JC_seq ?_
      refine JC_block ?_
      refine JC_seq ?_
      refine JC_seq ?_
      refine JC_region ?_
      refine JO_stepsK 2 [13, 12, 5, 0, 1] (sl' := [(13, .v (.int .i64 s21.1)), (12, .v (.slice a0_0 x0.length c0_0)), (5, .v (.int .i64 s21.1)), (0, .v (.slice a0_0 x0.length c0_0)), (1, .v (.int .i64 s21.2))]) (bx' := []) (by kernel_rfl) ?_
      obtain ⟨x37, hx38, h39⟩ := bS h35
      refine JO_index rfl (by kernel_rfl) (d := a0_0) (m := x0.length) (j := s21.1) (s := 4) (by kernel_rfl) (fun γ w hs => (hv0_0.kept hs.kept)) rfl hx38 (sl' := [(14, .q a0_0 (Int.toNat s21.1 * 4)), (13, .v (.int .i64 s21.1)), (12, .v (.slice a0_0 x0.length c0_0)), (5, .v (.int .i64 s21.1)), (0, .v (.slice a0_0 x0.length c0_0)), (1, .v (.int .i64 s21.2))]) (by kernel_rfl) ?_
      refine JO_stepsK 1 [15, 5, 0, 1] (sl' := [(15, .q a0_0 (Int.toNat s21.1 * 4)), (5, .v (.int .i64 s21.1)), (0, .v (.slice a0_0 x0.length c0_0)), (1, .v (.int .i64 s21.2))]) (bx' := []) (by kernel_rfl) ?_
      refine JO_loadq rfl (by kernel_rfl) (t := 3) (d := a0_0) (Int.toNat s21.1 * 4) 0 (by kernel_rfl) (cs := [.int .i64 x37.Month, .int .i64 x37.Debit, .int .i64 x37.Credit, .int .i64 x37.Cents]) (v := .int .i64 x37.Month) (fun γ w hs => (hv0_0.kept hs.kept).flatq hx38) (by kernel_rfl) (sl' := [(16, .v (.int .i64 x37.Month)), (15, .q a0_0 (Int.toNat s21.1 * 4)), (5, .v (.int .i64 s21.1)), (0, .v (.slice a0_0 x0.length c0_0)), (1, .v (.int .i64 s21.2))]) (by kernel_rfl) ?_
      refine JO_stepsK 2 [18, 5, 0, 1] (sl' := [(18, .v (.bool (x37.Month != s21.2))), (5, .v (.int .i64 s21.1)), (0, .v (.slice a0_0 x0.length c0_0)), (1, .v (.int .i64 s21.2))]) (bx' := []) (by kernel_rfl) ?_
      refine JO_end (by kernel_rfl) ?_
      refine JE_then ?_
      refine JC_cond (x37.Month != s21.2) (by kernel_rfl) (fun b40 => ?_) (fun b40 => ?_)
      · have h41 := cT b40 h39
        refine JC_seq ?_
        refine JC_region ?_
        refine JO_stepsK 1 [4] (sl' := [(4, .v (.int .i64 (-1)))]) (bx' := []) (by kernel_rfl) ?_
        refine JO_end (by kernel_rfl) ?_
        refine JE_then ?_
        refine JC_ret ?_
        refine JE_then_ret ?_
        refine JE_block_ret ?_
        refine JE_then_ret ?_
        refine JE_then_ret ?_
        have h43 := leafR hd30 h41 h26
        refine JE_block_ret ?_
        refine JE_then_ret ?_
        refine JE_then_ret ?_
        refine JE_ret (vs := [.int .i64 (-1)]) (by kernel_rfl) (fun γ w hs => ?_)
        rw [← sI h43]
        exact ⟨rfl, hs.kept.toBelow⟩
      · have h42 := cF b40 h39
        refine JC_skip ?_
        refine JE_then ?_
        refine JC_seq ?_
        refine JC_region ?_
        refine JO_stepsK 3 [1, 5, 0] (sl' := [(1, .v (.int .i64 (w64 (s21.2 + 1)))), (5, .v (.int .i64 s21.1)), (0, .v (.slice a0_0 x0.length c0_0))]) (bx' := []) (by kernel_rfl) ?_
        refine JO_end (by kernel_rfl) ?_
        refine JE_then ?_
        refine JC_seq ?_
        refine JC_seq ?_
        refine JC_region ?_
        refine JO_stepsK 2 [22, 21, 1, 5, 0] (sl' := [(22, .v (.int .i64 s21.1)), (21, .v (.slice a0_0 x0.length c0_0)), (1, .v (.int .i64 (w64 (s21.2 + 1)))), (5, .v (.int .i64 s21.1)), (0, .v (.slice a0_0 x0.length c0_0))]) (bx' := []) (by kernel_rfl) ?_
        obtain ⟨x44, hx45, h46⟩ := bS h42
        refine JO_index rfl (by kernel_rfl) (d := a0_0) (m := x0.length) (j := s21.1) (s := 4) (by kernel_rfl) (fun γ w hs => (hv0_0.kept hs.kept)) rfl hx45 (sl' := [(23, .q a0_0 (Int.toNat s21.1 * 4)), (22, .v (.int .i64 s21.1)), (21, .v (.slice a0_0 x0.length c0_0)), (1, .v (.int .i64 (w64 (s21.2 + 1)))), (5, .v (.int .i64 s21.1)), (0, .v (.slice a0_0 x0.length c0_0))]) (by kernel_rfl) ?_
        refine JO_stepsK 1 [24, 1, 5, 0] (sl' := [(24, .q a0_0 (Int.toNat s21.1 * 4 + 1)), (1, .v (.int .i64 (w64 (s21.2 + 1)))), (5, .v (.int .i64 s21.1)), (0, .v (.slice a0_0 x0.length c0_0))]) (bx' := []) (by kernel_rfl) ?_
        refine JO_loadq rfl (by kernel_rfl) (t := 3) (d := a0_0) (Int.toNat s21.1 * 4) 1 (by kernel_rfl) (cs := [.int .i64 x44.Month, .int .i64 x44.Debit, .int .i64 x44.Credit, .int .i64 x44.Cents]) (v := .int .i64 x44.Debit) (fun γ w hs => (hv0_0.kept hs.kept).flatq hx45) (by kernel_rfl) (sl' := [(25, .v (.int .i64 x44.Debit)), (24, .q a0_0 (Int.toNat s21.1 * 4 + 1)), (1, .v (.int .i64 (w64 (s21.2 + 1)))), (5, .v (.int .i64 s21.1)), (0, .v (.slice a0_0 x0.length c0_0))]) (by kernel_rfl) ?_
        refine JO_stepsK 2 [27, 1, 5, 0] (sl' := [(27, .v (.bool (x44.Debit != (w64 (s21.2 + 1))))), (1, .v (.int .i64 (w64 (s21.2 + 1)))), (5, .v (.int .i64 s21.1)), (0, .v (.slice a0_0 x0.length c0_0))]) (bx' := []) (by kernel_rfl) ?_
        refine JO_end (by kernel_rfl) ?_
        refine JE_then ?_
        refine JC_cond (x44.Debit != (w64 (s21.2 + 1))) (by kernel_rfl) (fun b47 => ?_) (fun b47 => ?_)
        · have h48 := cT b47 h46
          refine JC_seq ?_
          refine JC_region ?_
          refine JO_stepsK 1 [4] (sl' := [(4, .v (.int .i64 (-1)))]) (bx' := []) (by kernel_rfl) ?_
          refine JO_end (by kernel_rfl) ?_
          refine JE_then ?_
          refine JC_ret ?_
          refine JE_then_ret ?_
          refine JE_block_ret ?_
          refine JE_then_ret ?_
          refine JE_then_ret ?_
          have h50 := leafR hd30 h48 h26
          refine JE_block_ret ?_
          refine JE_then_ret ?_
          refine JE_then_ret ?_
          refine JE_ret (vs := [.int .i64 (-1)]) (by kernel_rfl) (fun γ w hs => ?_)
          rw [← sI h50]
          exact ⟨rfl, hs.kept.toBelow⟩
        · have h49 := cF b47 h46
          refine JC_skip ?_
          refine JE_then ?_
          refine JC_seq ?_
          refine JC_region ?_
          refine JO_stepsK 3 [1, 5, 0] (sl' := [(1, .v (.int .i64 (w64 ((w64 (s21.2 + 1)) + 1)))), (5, .v (.int .i64 s21.1)), (0, .v (.slice a0_0 x0.length c0_0))]) (bx' := []) (by kernel_rfl) ?_
          refine JO_end (by kernel_rfl) ?_
          refine JE_then ?_
          refine JC_seq ?_
          refine JC_seq ?_
          refine JC_region ?_
          refine JO_stepsK 2 [31, 30, 1, 5, 0] (sl' := [(31, .v (.int .i64 s21.1)), (30, .v (.slice a0_0 x0.length c0_0)), (1, .v (.int .i64 (w64 ((w64 (s21.2 + 1)) + 1)))), (5, .v (.int .i64 s21.1)), (0, .v (.slice a0_0 x0.length c0_0))]) (bx' := []) (by kernel_rfl) ?_
          obtain ⟨x51, hx52, h53⟩ := bS h49
          refine JO_index rfl (by kernel_rfl) (d := a0_0) (m := x0.length) (j := s21.1) (s := 4) (by kernel_rfl) (fun γ w hs => (hv0_0.kept hs.kept)) rfl hx52 (sl' := [(32, .q a0_0 (Int.toNat s21.1 * 4)), (31, .v (.int .i64 s21.1)), (30, .v (.slice a0_0 x0.length c0_0)), (1, .v (.int .i64 (w64 ((w64 (s21.2 + 1)) + 1)))), (5, .v (.int .i64 s21.1)), (0, .v (.slice a0_0 x0.length c0_0))]) (by kernel_rfl) ?_
          refine JO_stepsK 1 [33, 1, 5, 0] (sl' := [(33, .q a0_0 (Int.toNat s21.1 * 4 + 2)), (1, .v (.int .i64 (w64 ((w64 (s21.2 + 1)) + 1)))), (5, .v (.int .i64 s21.1)), (0, .v (.slice a0_0 x0.length c0_0))]) (bx' := []) (by kernel_rfl) ?_
          refine JO_loadq rfl (by kernel_rfl) (t := 3) (d := a0_0) (Int.toNat s21.1 * 4) 2 (by kernel_rfl) (cs := [.int .i64 x51.Month, .int .i64 x51.Debit, .int .i64 x51.Credit, .int .i64 x51.Cents]) (v := .int .i64 x51.Credit) (fun γ w hs => (hv0_0.kept hs.kept).flatq hx52) (by kernel_rfl) (sl' := [(34, .v (.int .i64 x51.Credit)), (33, .q a0_0 (Int.toNat s21.1 * 4 + 2)), (1, .v (.int .i64 (w64 ((w64 (s21.2 + 1)) + 1)))), (5, .v (.int .i64 s21.1)), (0, .v (.slice a0_0 x0.length c0_0))]) (by kernel_rfl) ?_
          refine JO_stepsK 2 [36, 1, 5, 0] (sl' := [(36, .v (.bool (x51.Credit != (w64 ((w64 (s21.2 + 1)) + 1))))), (1, .v (.int .i64 (w64 ((w64 (s21.2 + 1)) + 1)))), (5, .v (.int .i64 s21.1)), (0, .v (.slice a0_0 x0.length c0_0))]) (bx' := []) (by kernel_rfl) ?_
          refine JO_end (by kernel_rfl) ?_
          refine JE_then ?_
          refine JC_cond (x51.Credit != (w64 ((w64 (s21.2 + 1)) + 1))) (by kernel_rfl) (fun b54 => ?_) (fun b54 => ?_)
          · have h55 := cT b54 h53
            refine JC_seq ?_
            refine JC_region ?_
            refine JO_stepsK 1 [4] (sl' := [(4, .v (.int .i64 (-1)))]) (bx' := []) (by kernel_rfl) ?_
            refine JO_end (by kernel_rfl) ?_
            refine JE_then ?_
            refine JC_ret ?_
            refine JE_then_ret ?_
            refine JE_block_ret ?_
            refine JE_then_ret ?_
            refine JE_then_ret ?_
            have h57 := leafR hd30 h55 h26
            refine JE_block_ret ?_
            refine JE_then_ret ?_
            refine JE_then_ret ?_
            refine JE_ret (vs := [.int .i64 (-1)]) (by kernel_rfl) (fun γ w hs => ?_)
            rw [← sI h57]
            exact ⟨rfl, hs.kept.toBelow⟩
          · have h56 := cF b54 h53
            refine JC_skip ?_
            refine JE_then ?_
            refine JC_seq ?_
            refine JC_region ?_
            refine JO_stepsK 3 [1, 5, 0] (sl' := [(1, .v (.int .i64 (w64 ((w64 ((w64 (s21.2 + 1)) + 1)) + 1)))), (5, .v (.int .i64 s21.1)), (0, .v (.slice a0_0 x0.length c0_0))]) (bx' := []) (by kernel_rfl) ?_
            refine JO_end (by kernel_rfl) ?_
            refine JE_then ?_
            refine JC_seq ?_
            refine JC_seq ?_
            refine JC_region ?_
            refine JO_stepsK 2 [40, 39, 1, 5, 0] (sl' := [(40, .v (.int .i64 s21.1)), (39, .v (.slice a0_0 x0.length c0_0)), (1, .v (.int .i64 (w64 ((w64 ((w64 (s21.2 + 1)) + 1)) + 1)))), (5, .v (.int .i64 s21.1)), (0, .v (.slice a0_0 x0.length c0_0))]) (bx' := []) (by kernel_rfl) ?_
            obtain ⟨x58, hx59, h60⟩ := bS h56
            refine JO_index rfl (by kernel_rfl) (d := a0_0) (m := x0.length) (j := s21.1) (s := 4) (by kernel_rfl) (fun γ w hs => (hv0_0.kept hs.kept)) rfl hx59 (sl' := [(41, .q a0_0 (Int.toNat s21.1 * 4)), (40, .v (.int .i64 s21.1)), (39, .v (.slice a0_0 x0.length c0_0)), (1, .v (.int .i64 (w64 ((w64 ((w64 (s21.2 + 1)) + 1)) + 1)))), (5, .v (.int .i64 s21.1)), (0, .v (.slice a0_0 x0.length c0_0))]) (by kernel_rfl) ?_
            refine JO_stepsK 1 [42, 1, 5, 0] (sl' := [(42, .q a0_0 (Int.toNat s21.1 * 4 + 3)), (1, .v (.int .i64 (w64 ((w64 ((w64 (s21.2 + 1)) + 1)) + 1)))), (5, .v (.int .i64 s21.1)), (0, .v (.slice a0_0 x0.length c0_0))]) (bx' := []) (by kernel_rfl) ?_
            refine JO_loadq rfl (by kernel_rfl) (t := 3) (d := a0_0) (Int.toNat s21.1 * 4) 3 (by kernel_rfl) (cs := [.int .i64 x58.Month, .int .i64 x58.Debit, .int .i64 x58.Credit, .int .i64 x58.Cents]) (v := .int .i64 x58.Cents) (fun γ w hs => (hv0_0.kept hs.kept).flatq hx59) (by kernel_rfl) (sl' := [(43, .v (.int .i64 x58.Cents)), (42, .q a0_0 (Int.toNat s21.1 * 4 + 3)), (1, .v (.int .i64 (w64 ((w64 ((w64 (s21.2 + 1)) + 1)) + 1)))), (5, .v (.int .i64 s21.1)), (0, .v (.slice a0_0 x0.length c0_0))]) (by kernel_rfl) ?_
            refine JO_stepsK 2 [45, 1, 5, 0] (sl' := [(45, .v (.bool (x58.Cents != (w64 ((w64 ((w64 (s21.2 + 1)) + 1)) + 1))))), (1, .v (.int .i64 (w64 ((w64 ((w64 (s21.2 + 1)) + 1)) + 1)))), (5, .v (.int .i64 s21.1)), (0, .v (.slice a0_0 x0.length c0_0))]) (bx' := []) (by kernel_rfl) ?_
            refine JO_end (by kernel_rfl) ?_
            refine JE_then ?_
            refine JC_cond (x58.Cents != (w64 ((w64 ((w64 (s21.2 + 1)) + 1)) + 1))) (by kernel_rfl) (fun b61 => ?_) (fun b61 => ?_)
            · have h62 := cT b61 h60
              refine JC_seq ?_
              refine JC_region ?_
              refine JO_stepsK 1 [4] (sl' := [(4, .v (.int .i64 (-1)))]) (bx' := []) (by kernel_rfl) ?_
              refine JO_end (by kernel_rfl) ?_
              refine JE_then ?_
              refine JC_ret ?_
              refine JE_then_ret ?_
              refine JE_block_ret ?_
              refine JE_then_ret ?_
              refine JE_then_ret ?_
              have h64 := leafR hd30 h62 h26
              refine JE_block_ret ?_
              refine JE_then_ret ?_
              refine JE_then_ret ?_
              refine JE_ret (vs := [.int .i64 (-1)]) (by kernel_rfl) (fun γ w hs => ?_)
              rw [← sI h64]
              exact ⟨rfl, hs.kept.toBelow⟩
            · have h63 := cF b61 h60
              refine JC_skip ?_
              refine JE_then ?_
              refine JC_region ?_
              refine JO_stepsK 3 [1, 5, 0] (sl' := [(1, .v (.int .i64 (w64 ((w64 ((w64 ((w64 (s21.2 + 1)) + 1)) + 1)) + 1)))), (5, .v (.int .i64 s21.1)), (0, .v (.slice a0_0 x0.length c0_0))]) (bx' := []) (by kernel_rfl) ?_
              refine JO_end (by kernel_rfl) ?_
              refine JE_block_normal ?_
              refine JE_then ?_
              refine JC_region ?_
              refine JO_stepsK 3 [5, 1, 0] (sl' := [(5, .v (.int .i64 (w64 (s21.1 + 1)))), (1, .v (.int .i64 (w64 ((w64 ((w64 ((w64 (s21.2 + 1)) + 1)) + 1)) + 1)))), (0, .v (.slice a0_0 x0.length c0_0))]) (bx' := []) (by kernel_rfl) ?_
              refine JO_end (by kernel_rfl) ?_
              exact JE_cont h63 () [5, 0, 1] [] 0 (by kernel_rfl) (by kernel_rfl) (by kernel_rfl) (by kernel_rfl)
    · have h36 := cF b34 h29
      refine JC_exit ?_
      refine JE_then_exit ?_
      refine JE_then_exit ?_
      refine JE_block_hit ?_
      have h65 := leafB hd30 h36 h26
      exact JE_meetP (s21.2, ()) h65 [1] [] 0 (by kernel_rfl) (by kernel_rfl) (by kernel_rfl) (by kernel_rfl)
  · have h33 := (congrFun hk28 _).symm.trans h33p
    refine JE_then ?_
    refine JC_seq ?_
    refine JC_region ?_
    refine JO_stepsK 2 [4] (sl' := [(4, .v (.int .i64 y32.1))]) (bx' := []) (by kernel_rfl) ?_
    refine JO_end (by kernel_rfl) ?_
    refine JE_then ?_
    refine JC_ret ?_
    refine JE_ret (vs := [.int .i64 y32.1]) (by kernel_rfl) (fun γ w hs => ?_)
    rw [← sI h33]
    exact ⟨rfl, hs.kept.toBelow⟩

theorem c_laws_heldLedger {W : World} {x0 : Ledger} {a0_0 : Option Addr} {c0_0 : Nat} {x1 : Int} {r : Int} (h : laws_heldLedger x0 x1 = some r) (hv0_0 : SlView W x0.Postings a0_0 c0_0) :
    Gives0 Try.prog 100 #[.agg #[.slice a0_0 x0.Postings.length c0_0], .int .i64 x1] W (.int .i64 r) := by
  unfold laws_heldLedger at h
  refine enter (args := [.agg #[.slice a0_0 x0.Postings.length c0_0], .int .i64 x1]) Try.func100 rfl Try.ntmps100 (by kernel_rfl) ?_
  refine JC_seq ?_
  refine JC_region ?_
  refine JO_stepsK 2 [2, 1] (sl' := [(2, .p 0 0), (1, .v (.int .i64 x1))]) (bx' := [(81, [.slice a0_0 x0.Postings.length c0_0])]) (by kernel_rfl) ?_
  refine JO_end (by kernel_rfl) ?_
  refine JE_then ?_
  refine JC_seq ?_
  refine JC_region ?_
  refine JO_stepsK 3 [7, 6] (sl' := [(7, .v (.int .i64 x1)), (6, .v (.slice a0_0 x0.Postings.length c0_0))]) (bx' := [(81, [.slice a0_0 x0.Postings.length c0_0])]) (by kernel_rfl) ?_
  obtain ⟨t21, h22, h23⟩ := bS h
  refine JO_call0 rfl (by kernel_rfl) (f := 129) (args := #[.slice a0_0 x0.Postings.length c0_0, .int .i64 x1]) (by kernel_rfl) (x := .int .i64 t21) (fun γ w hs => (by have vv := c_laws_heldPostingS (W := w) h22 (hv0_0.kept hs.kept); exact vv)) (sl' := [(8, .v (.int .i64 t21)), (7, .v (.int .i64 x1)), (6, .v (.slice a0_0 x0.Postings.length c0_0))]) (by kernel_rfl) ?_
  refine JO_stepsK 1 [1] (sl' := [(1, .v (.int .i64 t21))]) (bx' := [(81, [.slice a0_0 x0.Postings.length c0_0])]) (by kernel_rfl) ?_
  refine JO_end (by kernel_rfl) ?_
  refine JE_then ?_
  refine JC_seq ?_
  refine JC_seq ?_
  refine JC_region ?_
  refine JO_stepsK 2 [10, 1] (sl' := [(10, .v (.bool (decide (t21 < 0)))), (1, .v (.int .i64 t21))]) (bx' := [(81, [.slice a0_0 x0.Postings.length c0_0])]) (by kernel_rfl) ?_
  refine JO_end (by kernel_rfl) ?_
  refine JE_then ?_
  refine JC_cond (decide (t21 < 0)) (by kernel_rfl) (fun b25 => ?_) (fun b25 => ?_)
  · have h26 := cT b25 h23
    refine JC_seq ?_
    refine JC_region ?_
    refine JO_stepsK 1 [4] (sl' := [(4, .v (.int .i64 (-1)))]) (bx' := [(81, [.slice a0_0 x0.Postings.length c0_0])]) (by kernel_rfl) ?_
    refine JO_end (by kernel_rfl) ?_
    refine JE_then ?_
    refine JC_ret ?_
    refine JE_then_ret ?_
    refine JE_ret (vs := [.int .i64 (-1)]) (by kernel_rfl) (fun γ w hs => ?_)
    rw [← sI h26]
    exact ⟨rfl, hs.kept.toBelow⟩
  · have h27 := cF b25 h23
    refine JC_skip ?_
    refine JE_then ?_
    refine JC_seq ?_
    refine JC_region ?_
    refine JO_stepsK 2 [4] (sl' := [(4, .v (.int .i64 t21))]) (bx' := [(81, [.slice a0_0 x0.Postings.length c0_0])]) (by kernel_rfl) ?_
    refine JO_end (by kernel_rfl) ?_
    refine JE_then ?_
    refine JC_ret ?_
    refine JE_ret (vs := [.int .i64 t21]) (by kernel_rfl) (fun γ w hs => ?_)
    rw [← sI h27]
    exact ⟨rfl, hs.kept.toBelow⟩

theorem c_laws_heldBooks {W : World} {x0 : Books} {a0_0 : Option Addr} {c0_0 : Nat} {x1 : Int} {r : Int} (h : laws_heldBooks x0 x1 = some r) (hv0_0 : SlView W x0.Ledger.Postings a0_0 c0_0) :
    Gives0 Try.prog 56 #[.agg #[.slice a0_0 x0.Ledger.Postings.length c0_0, .int .i64 x0.Closed], .int .i64 x1] W (.int .i64 r) := by
  unfold laws_heldBooks at h
  refine enter (args := [.agg #[.slice a0_0 x0.Ledger.Postings.length c0_0, .int .i64 x0.Closed], .int .i64 x1]) Try.func56 rfl Try.ntmps56 (by kernel_rfl) ?_
  refine JC_seq ?_
  refine JC_region ?_
  refine JO_stepsK 2 [2, 1] (sl' := [(2, .p 0 0), (1, .v (.int .i64 x1))]) (bx' := [(83, [.slice a0_0 x0.Ledger.Postings.length c0_0, .int .i64 x0.Closed])]) (by kernel_rfl) ?_
  refine JO_end (by kernel_rfl) ?_
  refine JE_then ?_
  refine JC_seq ?_
  refine JC_region ?_
  refine JO_stepsK 3 [7, 6] (sl' := [(7, .v (.int .i64 x1)), (6, .v (.agg #[.slice a0_0 x0.Ledger.Postings.length c0_0]))]) (bx' := [(83, [.slice a0_0 x0.Ledger.Postings.length c0_0, .int .i64 x0.Closed])]) (by kernel_rfl) ?_
  obtain ⟨t21, h22, h23⟩ := bS h
  refine JO_call0 rfl (by kernel_rfl) (f := 100) (args := #[.agg #[.slice a0_0 x0.Ledger.Postings.length c0_0], .int .i64 x1]) (by kernel_rfl) (x := .int .i64 t21) (fun γ w hs => (by have vv := c_laws_heldLedger (W := w) h22 (hv0_0.kept hs.kept); exact vv)) (sl' := [(8, .v (.int .i64 t21)), (7, .v (.int .i64 x1)), (6, .v (.agg #[.slice a0_0 x0.Ledger.Postings.length c0_0]))]) (by kernel_rfl) ?_
  refine JO_stepsK 1 [1] (sl' := [(1, .v (.int .i64 t21))]) (bx' := [(83, [.slice a0_0 x0.Ledger.Postings.length c0_0, .int .i64 x0.Closed])]) (by kernel_rfl) ?_
  refine JO_end (by kernel_rfl) ?_
  refine JE_then ?_
  refine JC_seq ?_
  refine JC_seq ?_
  refine JC_region ?_
  refine JO_stepsK 2 [10, 1] (sl' := [(10, .v (.bool (decide (t21 < 0)))), (1, .v (.int .i64 t21))]) (bx' := [(83, [.slice a0_0 x0.Ledger.Postings.length c0_0, .int .i64 x0.Closed])]) (by kernel_rfl) ?_
  refine JO_end (by kernel_rfl) ?_
  refine JE_then ?_
  refine JC_cond (decide (t21 < 0)) (by kernel_rfl) (fun b25 => ?_) (fun b25 => ?_)
  · have h26 := cT b25 h23
    refine JC_seq ?_
    refine JC_region ?_
    refine JO_stepsK 1 [4] (sl' := [(4, .v (.int .i64 (-1)))]) (bx' := [(83, [.slice a0_0 x0.Ledger.Postings.length c0_0, .int .i64 x0.Closed])]) (by kernel_rfl) ?_
    refine JO_end (by kernel_rfl) ?_
    refine JE_then ?_
    refine JC_ret ?_
    refine JE_then_ret ?_
    refine JE_ret (vs := [.int .i64 (-1)]) (by kernel_rfl) (fun γ w hs => ?_)
    rw [← sI h26]
    exact ⟨rfl, hs.kept.toBelow⟩
  · have h27 := cF b25 h23
    refine JC_skip ?_
    refine JE_then ?_
    refine JC_seq ?_
    refine JC_region ?_
    refine JO_stepsK 2 [4] (sl' := [(4, .v (.int .i64 t21))]) (bx' := [(83, [.slice a0_0 x0.Ledger.Postings.length c0_0, .int .i64 x0.Closed])]) (by kernel_rfl) ?_
    refine JO_end (by kernel_rfl) ?_
    refine JE_then ?_
    refine JC_ret ?_
    refine JE_ret (vs := [.int .i64 t21]) (by kernel_rfl) (fun γ w hs => ?_)
    rw [← sI h27]
    exact ⟨rfl, hs.kept.toBelow⟩

theorem c_laws_FnExactCloseUpTo {W : World} {x0 : Books} {a0_0 : Option Addr} {c0_0 : Nat} {x1 : Int} {r : Bool} (h : laws_FnExactCloseUpTo x0 x1 = some r) (hv0_0 : SlView W x0.Ledger.Postings a0_0 c0_0) :
    Gives0 Try.prog 10 #[.agg #[.slice a0_0 x0.Ledger.Postings.length c0_0, .int .i64 x0.Closed], .int .i64 x1] W (.bool r) := by
  unfold laws_FnExactCloseUpTo at h
  refine enter (args := [.agg #[.slice a0_0 x0.Ledger.Postings.length c0_0, .int .i64 x0.Closed], .int .i64 x1]) Try.func10 rfl Try.ntmps10 (by kernel_rfl) ?_
  refine JC_seq ?_
  refine JC_region ?_
  refine JO_stepsK 2 [2, 1] (sl' := [(2, .p 0 0), (1, .v (.int .i64 x1))]) (bx' := [(77, [.slice a0_0 x0.Ledger.Postings.length c0_0, .int .i64 x0.Closed])]) (by kernel_rfl) ?_
  refine JO_end (by kernel_rfl) ?_
  refine JE_then ?_
  refine JC_seq ?_
  refine JC_region ?_
  refine JO_stepsK 1 [5, 2, 1] (sl' := [(5, .v (.int .i64 1048576)), (2, .p 0 0), (1, .v (.int .i64 x1))]) (bx' := [(77, [.slice a0_0 x0.Ledger.Postings.length c0_0, .int .i64 x0.Closed])]) (by kernel_rfl) ?_
  refine JO_end (by kernel_rfl) ?_
  refine JE_then ?_
  refine JC_seq ?_
  refine JC_region ?_
  refine JO_stepsK 2 [17, 16, 2, 1] (sl' := [(17, .v (.int .i64 1048576)), (16, .v (.agg #[.slice a0_0 x0.Ledger.Postings.length c0_0, .int .i64 x0.Closed])), (2, .p 0 0), (1, .v (.int .i64 x1))]) (bx' := [(77, [.slice a0_0 x0.Ledger.Postings.length c0_0, .int .i64 x0.Closed])]) (by kernel_rfl) ?_
  obtain ⟨t21, h22, h23⟩ := bS h
  refine JO_call0 rfl (by kernel_rfl) (f := 50) (args := #[.agg #[.slice a0_0 x0.Ledger.Postings.length c0_0, .int .i64 x0.Closed], .int .i64 1048576]) (by kernel_rfl) (x := .int .i64 t21) (fun γ w hs => (by have vv := c_laws_szBooks (W := w) h22 (hv0_0.kept hs.kept); exact vv)) (sl' := [(18, .v (.int .i64 t21)), (17, .v (.int .i64 1048576)), (16, .v (.agg #[.slice a0_0 x0.Ledger.Postings.length c0_0, .int .i64 x0.Closed])), (2, .p 0 0), (1, .v (.int .i64 x1))]) (by kernel_rfl) ?_
  refine JO_stepsK 1 [5, 2, 1] (sl' := [(5, .v (.int .i64 t21)), (2, .p 0 0), (1, .v (.int .i64 x1))]) (bx' := [(77, [.slice a0_0 x0.Ledger.Postings.length c0_0, .int .i64 x0.Closed])]) (by kernel_rfl) ?_
  refine JO_end (by kernel_rfl) ?_
  refine JE_then ?_
  refine JC_seq ?_
  refine JC_seq ?_
  refine JC_region ?_
  refine JO_stepsK 2 [20, 2, 1] (sl' := [(20, .v (.bool (decide (t21 < 0)))), (2, .p 0 0), (1, .v (.int .i64 x1))]) (bx' := [(77, [.slice a0_0 x0.Ledger.Postings.length c0_0, .int .i64 x0.Closed])]) (by kernel_rfl) ?_
  refine JO_end (by kernel_rfl) ?_
  refine JE_then ?_
  refine JC_cond (decide (t21 < 0)) (by kernel_rfl) (fun b25 => ?_) (fun b25 => ?_)
  · have h26 := cT b25 h23
    refine JC_seq ?_
    refine JC_region ?_
    refine JO_stepsK 1 [4] (sl' := [(4, .v (.bool true))]) (bx' := [(77, [.slice a0_0 x0.Ledger.Postings.length c0_0, .int .i64 x0.Closed])]) (by kernel_rfl) ?_
    refine JO_end (by kernel_rfl) ?_
    refine JE_then ?_
    refine JC_ret ?_
    refine JE_then_ret ?_
    refine JE_ret (vs := [.bool true]) (by kernel_rfl) (fun γ w hs => ?_)
    rw [← sI h26]
    exact ⟨rfl, hs.kept.toBelow⟩
  · have h27 := cF b25 h23
    refine JC_skip ?_
    refine JE_then ?_
    refine JC_seq ?_
    refine JC_region ?_
    refine JO_stepsK 1 [22, 2, 1] (sl' := [(22, .v (.agg #[.slice a0_0 x0.Ledger.Postings.length c0_0, .int .i64 x0.Closed])), (2, .p 0 0), (1, .v (.int .i64 x1))]) (bx' := [(77, [.slice a0_0 x0.Ledger.Postings.length c0_0, .int .i64 x0.Closed])]) (by kernel_rfl) ?_
    obtain ⟨t28, h29, h30⟩ := bS h27
    refine JO_call rfl (by kernel_rfl) (f := 52) (args := #[.agg #[.slice a0_0 x0.Ledger.Postings.length c0_0, .int .i64 x0.Closed]]) (by kernel_rfl) (fun γ w hs => (by have vv := c_laws_toBooks (W := w) h29 (hv0_0.kept hs.kept); exact vv)) (fun (y31 : (Option Addr × Nat)) => [(23, .v (.agg #[.slice y31.1 t28.Ledger.Postings.length y31.2, .int .i64 t28.Closed])), (22, .v (.agg #[.slice a0_0 x0.Ledger.Postings.length c0_0, .int .i64 x0.Closed])), (2, .p 0 0), (1, .v (.int .i64 x1))]) (fun y31 => by kernel_rfl) (fun y31 => ?_)
    refine JO_stepsK 1 [24, 23, 2, 1] (sl' := [(24, .v (.int .i64 x1)), (23, .v (.agg #[.slice y31.1 t28.Ledger.Postings.length y31.2, .int .i64 t28.Closed])), (2, .p 0 0), (1, .v (.int .i64 x1))]) (bx' := [(77, [.slice a0_0 x0.Ledger.Postings.length c0_0, .int .i64 x0.Closed])]) (by kernel_rfl) ?_
    obtain ⟨t32, h33, h34⟩ := bS h30
    refine JO_call rfl (by kernel_rfl) (f := 51) (args := #[.agg #[.slice y31.1 t28.Ledger.Postings.length y31.2, .int .i64 t28.Closed], .int .i64 x1]) (by kernel_rfl) (fun γ w hs => (by have v0 := hs.view 0 rfl; have vv := c_spec_CloseUpTo (W := w) h33 v0; exact vv)) (fun (y35 : (Option Addr × Nat)) => [(25, .v (.tuple #[.agg #[.slice y35.1 t32.1.Ledger.Postings.length y35.2, .int .i64 t32.1.Closed], .bool t32.2])), (24, .v (.int .i64 x1)), (23, .v (.agg #[.slice y31.1 t28.Ledger.Postings.length y31.2, .int .i64 t28.Closed])), (2, .p 0 0), (1, .v (.int .i64 x1))]) (fun y35 => by kernel_rfl) (fun y35 => ?_)
    refine JO_stepsK 6 [7, 6, 2, 1] (sl' := [(7, .v (.bool t32.2)), (6, .p 1 0), (2, .p 0 0), (1, .v (.int .i64 x1))]) (bx' := [(77, [.slice a0_0 x0.Ledger.Postings.length c0_0, .int .i64 x0.Closed]), (83, [.slice y35.1 t32.1.Ledger.Postings.length y35.2, .int .i64 t32.1.Closed])]) (by kernel_rfl) ?_
    refine JO_end (by kernel_rfl) ?_
    refine JE_then ?_
    refine JC_seq ?_
    refine JC_region ?_
    refine JO_stepsK 1 [28, 7, 6, 2, 1] (sl' := [(28, .v (.agg #[.slice a0_0 x0.Ledger.Postings.length c0_0, .int .i64 x0.Closed])), (7, .v (.bool t32.2)), (6, .p 1 0), (2, .p 0 0), (1, .v (.int .i64 x1))]) (bx' := [(77, [.slice a0_0 x0.Ledger.Postings.length c0_0, .int .i64 x0.Closed]), (83, [.slice y35.1 t32.1.Ledger.Postings.length y35.2, .int .i64 t32.1.Closed])]) (by kernel_rfl) ?_
    obtain ⟨t36, h37, h38⟩ := bS h34
    refine JO_call rfl (by kernel_rfl) (f := 52) (args := #[.agg #[.slice a0_0 x0.Ledger.Postings.length c0_0, .int .i64 x0.Closed]]) (by kernel_rfl) (fun γ w hs => (by have vv := c_laws_toBooks (W := w) h37 (hv0_0.kept hs.kept); exact vv)) (fun (y39 : (Option Addr × Nat)) => [(29, .v (.agg #[.slice y39.1 t36.Ledger.Postings.length y39.2, .int .i64 t36.Closed])), (28, .v (.agg #[.slice a0_0 x0.Ledger.Postings.length c0_0, .int .i64 x0.Closed])), (7, .v (.bool t32.2)), (6, .p 1 0), (2, .p 0 0), (1, .v (.int .i64 x1))]) (fun y39 => by kernel_rfl) (fun y39 => ?_)
    refine JO_stepsK 2 [8, 7, 6, 2, 1] (sl' := [(8, .p 2 0), (7, .v (.bool t32.2)), (6, .p 1 0), (2, .p 0 0), (1, .v (.int .i64 x1))]) (bx' := [(77, [.slice a0_0 x0.Ledger.Postings.length c0_0, .int .i64 x0.Closed]), (83, [.slice y35.1 t32.1.Ledger.Postings.length y35.2, .int .i64 t32.1.Closed]), (83, [.slice y39.1 t36.Ledger.Postings.length y39.2, .int .i64 t36.Closed])]) (by kernel_rfl) ?_
    refine JO_end (by kernel_rfl) ?_
    refine JE_then ?_
    refine JC_seq ?_
    refine JC_region ?_
    refine JO_stepsK 2 [32, 31, 8, 7, 6, 2, 1] (sl' := [(32, .v (.int .i64 x1)), (31, .v (.agg #[.slice y39.1 t36.Ledger.Postings.length y39.2, .int .i64 t36.Closed])), (8, .p 2 0), (7, .v (.bool t32.2)), (6, .p 1 0), (2, .p 0 0), (1, .v (.int .i64 x1))]) (bx' := [(77, [.slice a0_0 x0.Ledger.Postings.length c0_0, .int .i64 x0.Closed]), (83, [.slice y35.1 t32.1.Ledger.Postings.length y35.2, .int .i64 t32.1.Closed]), (83, [.slice y39.1 t36.Ledger.Postings.length y39.2, .int .i64 t36.Closed])]) (by kernel_rfl) ?_
    obtain ⟨t40, h41, h42⟩ := bS h38
    refine JO_call rfl (by kernel_rfl) (f := 53) (args := #[.agg #[.slice y39.1 t36.Ledger.Postings.length y39.2, .int .i64 t36.Closed], .int .i64 x1]) (by kernel_rfl) (fun γ w hs => (by have v0 := hs.view 0 rfl; have vv := c_impl_CloseUpTo (W := w) h41 v0; exact vv)) (fun (y43 : (Option Addr × Nat)) => [(33, .v (.tuple #[.agg #[.slice y43.1 t40.1.Ledger.Postings.length y43.2, .int .i64 t40.1.Closed], .bool t40.2])), (32, .v (.int .i64 x1)), (31, .v (.agg #[.slice y39.1 t36.Ledger.Postings.length y39.2, .int .i64 t36.Closed])), (8, .p 2 0), (7, .v (.bool t32.2)), (6, .p 1 0), (2, .p 0 0), (1, .v (.int .i64 x1))]) (fun y43 => by kernel_rfl) (fun y43 => ?_)
    refine JO_stepsK 6 [10, 9, 8, 7, 6, 2, 1] (sl' := [(10, .v (.bool t40.2)), (9, .p 3 0), (8, .p 2 0), (7, .v (.bool t32.2)), (6, .p 1 0), (2, .p 0 0), (1, .v (.int .i64 x1))]) (bx' := [(77, [.slice a0_0 x0.Ledger.Postings.length c0_0, .int .i64 x0.Closed]), (83, [.slice y35.1 t32.1.Ledger.Postings.length y35.2, .int .i64 t32.1.Closed]), (83, [.slice y39.1 t36.Ledger.Postings.length y39.2, .int .i64 t36.Closed]), (83, [.slice y43.1 t40.1.Ledger.Postings.length y43.2, .int .i64 t40.1.Closed])]) (by kernel_rfl) ?_
    refine JO_end (by kernel_rfl) ?_
    refine JE_then ?_
    refine JC_seq ?_
    refine JC_seq ?_
    obtain ⟨p44, hE45, h46⟩ := bS h42
    refine JC_cut (τ := Unit) (fun _ => [(1, .v (.int .i64 x1)), (2, .p 0 0), (6, .p 1 0), (7, .v (.bool t32.2)), (8, .p 2 0), (9, .p 3 0), (10, .v (.bool t40.2)), (44, .v (.bool p44))]) (fun _ => [(77, [.slice a0_0 x0.Ledger.Postings.length c0_0, .int .i64 x0.Closed]), (83, [.slice y35.1 t32.1.Ledger.Postings.length y35.2, .int .i64 t32.1.Closed]), (83, [.slice y39.1 t36.Ledger.Postings.length y39.2, .int .i64 t36.Closed]), (83, [.slice y43.1 t40.1.Ledger.Postings.length y43.2, .int .i64 t40.1.Closed])]) (fun _ => [SlRes 93 t32.1.Ledger.Postings y35.1 y35.2, SlRes 93 t36.Ledger.Postings y39.1 y39.2, SlRes 93 t40.1.Ledger.Postings y43.1 y43.2]) ?_ (fun _ => ?_)
    · refine JC_region ?_
      refine JO_stepsK 2 [37, 36, 10, 9, 8, 7, 6, 2, 1] (sl' := [(37, .v (.agg #[.slice y35.1 t32.1.Ledger.Postings.length y35.2, .int .i64 t32.1.Closed])), (36, .v (.agg #[.slice y43.1 t40.1.Ledger.Postings.length y43.2, .int .i64 t40.1.Closed])), (10, .v (.bool t40.2)), (9, .p 3 0), (8, .p 2 0), (7, .v (.bool t32.2)), (6, .p 1 0), (2, .p 0 0), (1, .v (.int .i64 x1))]) (bx' := [(77, [.slice a0_0 x0.Ledger.Postings.length c0_0, .int .i64 x0.Closed]), (83, [.slice y35.1 t32.1.Ledger.Postings.length y35.2, .int .i64 t32.1.Closed]), (83, [.slice y39.1 t36.Ledger.Postings.length y39.2, .int .i64 t36.Closed]), (83, [.slice y43.1 t40.1.Ledger.Postings.length y43.2, .int .i64 t40.1.Closed])]) (by kernel_rfl) ?_
      obtain ⟨t47, h48, h49⟩ := bS hE45
      refine JO_call0 rfl (by kernel_rfl) (f := 54) (args := #[.agg #[.slice y43.1 t40.1.Ledger.Postings.length y43.2, .int .i64 t40.1.Closed], .agg #[.slice y35.1 t32.1.Ledger.Postings.length y35.2, .int .i64 t32.1.Closed]]) (by kernel_rfl) (x := .bool t47) (fun γ w hs => (by have v0 := hs.view 0 rfl; have v1 := hs.view 2 rfl; have vv := c_laws_eqBooks (W := w) h48 v0 v1; exact vv)) (sl' := [(38, .v (.bool t47)), (37, .v (.agg #[.slice y35.1 t32.1.Ledger.Postings.length y35.2, .int .i64 t32.1.Closed])), (36, .v (.agg #[.slice y43.1 t40.1.Ledger.Postings.length y43.2, .int .i64 t40.1.Closed])), (10, .v (.bool t40.2)), (9, .p 3 0), (8, .p 2 0), (7, .v (.bool t32.2)), (6, .p 1 0), (2, .p 0 0), (1, .v (.int .i64 x1))]) (by kernel_rfl) ?_
      refine JO_stepsK 2 [40, 10, 9, 8, 7, 6, 2, 1] (sl' := [(40, .v (.bool (!t47))), (10, .v (.bool t40.2)), (9, .p 3 0), (8, .p 2 0), (7, .v (.bool t32.2)), (6, .p 1 0), (2, .p 0 0), (1, .v (.int .i64 x1))]) (bx' := [(77, [.slice a0_0 x0.Ledger.Postings.length c0_0, .int .i64 x0.Closed]), (83, [.slice y35.1 t32.1.Ledger.Postings.length y35.2, .int .i64 t32.1.Closed]), (83, [.slice y39.1 t36.Ledger.Postings.length y39.2, .int .i64 t36.Closed]), (83, [.slice y43.1 t40.1.Ledger.Postings.length y43.2, .int .i64 t40.1.Closed])]) (by kernel_rfl) ?_
      refine JO_split 40 (!t47) (by kernel_rfl) (fun b51 => ?_) (fun b51 => ?_)
      · have h52 := cT b51 h49
        refine JO_stepsK 4 [44, 10, 9, 8, 7, 6, 2, 1] (sl' := [(44, .v (.bool true)), (10, .v (.bool t40.2)), (9, .p 3 0), (8, .p 2 0), (7, .v (.bool t32.2)), (6, .p 1 0), (2, .p 0 0), (1, .v (.int .i64 x1))]) (bx' := [(77, [.slice a0_0 x0.Ledger.Postings.length c0_0, .int .i64 x0.Closed]), (83, [.slice y35.1 t32.1.Ledger.Postings.length y35.2, .int .i64 t32.1.Closed]), (83, [.slice y39.1 t36.Ledger.Postings.length y39.2, .int .i64 t36.Closed]), (83, [.slice y43.1 t40.1.Ledger.Postings.length y43.2, .int .i64 t40.1.Closed])]) (by kernel_rfl) ?_
        refine JO_end (by kernel_rfl) ?_
        obtain rfl := sI h52
        exact JE_meet () [1, 2, 6, 7, 8, 9, 10, 44] [2, 1, 0] 4 (by kernel_rfl) (by kernel_rfl) (by kernel_rfl) (by kernel_rfl)
      · have h53 := cF b51 h49
        refine JO_stepsK 4 [44, 10, 9, 8, 7, 6, 2, 1] (sl' := [(44, .v (.bool (!(t40.2 == t32.2)))), (10, .v (.bool t40.2)), (9, .p 3 0), (8, .p 2 0), (7, .v (.bool t32.2)), (6, .p 1 0), (2, .p 0 0), (1, .v (.int .i64 x1))]) (bx' := [(77, [.slice a0_0 x0.Ledger.Postings.length c0_0, .int .i64 x0.Closed]), (83, [.slice y35.1 t32.1.Ledger.Postings.length y35.2, .int .i64 t32.1.Closed]), (83, [.slice y39.1 t36.Ledger.Postings.length y39.2, .int .i64 t36.Closed]), (83, [.slice y43.1 t40.1.Ledger.Postings.length y43.2, .int .i64 t40.1.Closed])]) (by kernel_rfl) ?_
        refine JO_end (by kernel_rfl) ?_
        obtain rfl := sI h53
        exact JE_meet () [1, 2, 6, 7, 8, 9, 10, 44] [2, 1, 0] 4 (by kernel_rfl) (by kernel_rfl) (by kernel_rfl) (by kernel_rfl)
    · skip
      refine JE_then ?_
      refine JC_cond p44 (by kernel_rfl) (fun b54 => ?_) (fun b54 => ?_)
      · have h55 := cT b54 h46
        refine JC_seq ?_
        refine JC_region ?_
        refine JO_stepsK 1 [4] (sl' := [(4, .v (.bool false))]) (bx' := [(77, [.slice a0_0 x0.Ledger.Postings.length c0_0, .int .i64 x0.Closed]), (83, [.slice y35.1 t32.1.Ledger.Postings.length y35.2, .int .i64 t32.1.Closed]), (83, [.slice y39.1 t36.Ledger.Postings.length y39.2, .int .i64 t36.Closed]), (83, [.slice y43.1 t40.1.Ledger.Postings.length y43.2, .int .i64 t40.1.Closed])]) (by kernel_rfl) ?_
        refine JO_end (by kernel_rfl) ?_
        refine JE_then ?_
        refine JC_ret ?_
        refine JE_then_ret ?_
        refine JE_ret (vs := [.bool false]) (by kernel_rfl) (fun γ w hs => ?_)
        rw [← sI h55]
        exact ⟨rfl, hs.kept.toBelow⟩
      · have h56 := cF b54 h46
        refine JC_skip ?_
        refine JE_then ?_
        refine JC_seq ?_
        refine JC_seq ?_
        obtain ⟨t57, h58, h59⟩ := bS h56
        obtain ⟨t61, h62, h63⟩ := bS h59
        refine JC_cut (τ := Unit) (fun _ => [(49, .v (.bool (!t61))), (1, .v (.int .i64 x1)), (2, .p 0 0), (6, .p 1 0), (7, .v (.bool t32.2)), (8, .p 2 0), (9, .p 3 0), (10, .v (.bool t40.2))]) (fun _ => [(77, [.slice a0_0 x0.Ledger.Postings.length c0_0, .int .i64 x0.Closed]), (83, [.slice y35.1 t32.1.Ledger.Postings.length y35.2, .int .i64 t32.1.Closed]), (83, [.slice y39.1 t36.Ledger.Postings.length y39.2, .int .i64 t36.Closed]), (83, [.slice y43.1 t40.1.Ledger.Postings.length y43.2, .int .i64 t40.1.Closed])]) (fun _ => [SlRes 93 t32.1.Ledger.Postings y35.1 y35.2, SlRes 93 t36.Ledger.Postings y39.1 y39.2, SlRes 93 t40.1.Ledger.Postings y43.1 y43.2]) ?_ (fun _ => ?_)
        · refine JC_weak [1, 2, 6, 7, 8, 9, 10] [0, 0, 0] 4 (sl' := [(1, .v (.int .i64 x1)), (2, .p 0 0), (6, .p 1 0), (7, .v (.bool t32.2)), (8, .p 2 0), (9, .p 3 0), (10, .v (.bool t40.2))]) (bx' := [(77, [.slice a0_0 x0.Ledger.Postings.length c0_0, .int .i64 x0.Closed]), (83, [.slice y35.1 t32.1.Ledger.Postings.length y35.2, .int .i64 t32.1.Closed]), (83, [.slice y39.1 t36.Ledger.Postings.length y39.2, .int .i64 t36.Closed]), (83, [.slice y43.1 t40.1.Ledger.Postings.length y43.2, .int .i64 t40.1.Closed])]) (R' := [SlRes 93 t32.1.Ledger.Postings y35.1 y35.2, SlRes 93 t36.Ledger.Postings y39.1 y39.2, SlRes 93 t40.1.Ledger.Postings y43.1 y43.2]) (by kernel_rfl) (by kernel_rfl) (by kernel_rfl) (by kernel_rfl) ?_
          refine JC_heldN (ks := [0, 1, 2, 3]) (Rk := [SlRes 93 t32.1.Ledger.Postings y35.1 y35.2, SlRes 93 t36.Ledger.Postings y39.1 y39.2, SlRes 93 t40.1.Ledger.Postings y43.1 y43.2]) 5 (by kernel_rfl) (by kernel_rfl) ?_
          refine JH_take (fuel := 4) 0 (v := .v (.agg #[.slice y39.1 t36.Ledger.Postings.length y39.2, .int .i64 t36.Closed])) [0, 0, 0] rfl (by kernel_rfl) (by kernel_rfl) (by kernel_rfl) meet_nopanic (by kernel_rfl) (by kernel_rfl) (by kernel_rfl) (by kernel_rfl) trivial (evQ_held (by kernel_rfl) (by kernel_rfl)) (sl' := [(45, .v (.agg #[.slice y39.1 t36.Ledger.Postings.length y39.2, .int .i64 t36.Closed])), (1, .v (.int .i64 x1)), (2, .p 0 0), (6, .p 1 0), (7, .v (.bool t32.2)), (8, .p 2 0), (9, .p 3 0), (10, .v (.bool t40.2))]) (by kernel_rfl) ?_
          refine JH_take (fuel := 3) 1 (v := .v (.agg #[.slice a0_0 x0.Ledger.Postings.length c0_0, .int .i64 x0.Closed])) [0, 0, 0] rfl (by kernel_rfl) (by kernel_rfl) (by kernel_rfl) meet_nopanic (by kernel_rfl) (by kernel_rfl) (by kernel_rfl) (by kernel_rfl) trivial (evQ_held (by kernel_rfl) (by kernel_rfl)) (sl' := [(46, .v (.agg #[.slice a0_0 x0.Ledger.Postings.length c0_0, .int .i64 x0.Closed])), (45, .v (.agg #[.slice y39.1 t36.Ledger.Postings.length y39.2, .int .i64 t36.Closed])), (1, .v (.int .i64 x1)), (2, .p 0 0), (6, .p 1 0), (7, .v (.bool t32.2)), (8, .p 2 0), (9, .p 3 0), (10, .v (.bool t40.2))]) (by kernel_rfl) ?_
          refine JH_all (fuel := 2) [2] (by kernel_rfl) (by simp) (List.forall_mem_cons.2 ⟨?_, fun _ h => by cases h⟩)
          refine JHi_of rfl (fun γ0 δ hm => ?_)
          refine JG_call (by kernel_rfl) (f := 52) (args := #[.agg #[.slice a0_0 x0.Ledger.Postings.length c0_0, .int .i64 x0.Closed]]) (by kernel_rfl) (fun w hs => (by have vv := c_laws_toBooks (W := w) h58 (hv0_0.kept hs.kept); exact vv)) (fun (y60 : (Option Addr × Nat)) => [(47, .v (.agg #[.slice y60.1 t57.Ledger.Postings.length y60.2, .int .i64 t57.Closed])), (46, .v (.agg #[.slice a0_0 x0.Ledger.Postings.length c0_0, .int .i64 x0.Closed])), (45, .v (.agg #[.slice y39.1 t36.Ledger.Postings.length y39.2, .int .i64 t36.Closed])), (1, .v (.int .i64 x1)), (2, .p 0 0), (6, .p 1 0), (7, .v (.bool t32.2)), (8, .p 2 0), (9, .p 3 0), (10, .v (.bool t40.2))]) (fun y60 => by kernel_rfl) (fun y60 => ?_)
          refine KG_next hm [47, 45, 1, 2, 6, 7, 8, 9, 10] [1, 1, 1] (sl' := [(47, .v (.agg #[.slice y60.1 t57.Ledger.Postings.length y60.2, .int .i64 t57.Closed])), (45, .v (.agg #[.slice y39.1 t36.Ledger.Postings.length y39.2, .int .i64 t36.Closed])), (1, .v (.int .i64 x1)), (2, .p 0 0), (6, .p 1 0), (7, .v (.bool t32.2)), (8, .p 2 0), (9, .p 3 0), (10, .v (.bool t40.2))]) (by kernel_rfl) (by kernel_rfl) (by kernel_rfl) (by kernel_rfl) ?_
          refine JH_all (fuel := 1) [3] (by kernel_rfl) (by simp) (List.forall_mem_cons.2 ⟨?_, fun _ h => by cases h⟩)
          refine JHi_of rfl (fun γ0 δ hm => ?_)
          refine JG_call0 (by kernel_rfl) (f := 54) (args := #[.agg #[.slice y39.1 t36.Ledger.Postings.length y39.2, .int .i64 t36.Closed], .agg #[.slice y60.1 t57.Ledger.Postings.length y60.2, .int .i64 t57.Closed]]) (by kernel_rfl) (x := .bool t61) (fun w hs => (by have v0 := hs.view 2 rfl; have v1 := hs.view 0 rfl; have vv := c_laws_eqBooks (W := w) h62 v0 v1; exact vv)) (sl' := [(48, .v (.bool t61)), (47, .v (.agg #[.slice y60.1 t57.Ledger.Postings.length y60.2, .int .i64 t57.Closed])), (45, .v (.agg #[.slice y39.1 t36.Ledger.Postings.length y39.2, .int .i64 t36.Closed])), (1, .v (.int .i64 x1)), (2, .p 0 0), (6, .p 1 0), (7, .v (.bool t32.2)), (8, .p 2 0), (9, .p 3 0), (10, .v (.bool t40.2))]) (by kernel_rfl) ?_
          refine KG_next hm [48, 1, 2, 6, 7, 8, 9, 10] [1, 1, 1] (sl' := [(48, .v (.bool t61)), (1, .v (.int .i64 x1)), (2, .p 0 0), (6, .p 1 0), (7, .v (.bool t32.2)), (8, .p 2 0), (9, .p 3 0), (10, .v (.bool t40.2))]) (by kernel_rfl) (by kernel_rfl) (by kernel_rfl) (by kernel_rfl) ?_
          refine JH_take (fuel := 0) 4 (v := .v (.bool (!t61))) [1, 1, 1] rfl (by kernel_rfl) (by kernel_rfl) (by kernel_rfl) meet_nopanic (by kernel_rfl) (by kernel_rfl) (by kernel_rfl) (by kernel_rfl) trivial (evQ_held (by kernel_rfl) (by kernel_rfl)) (sl' := [(49, .v (.bool (!t61))), (48, .v (.bool t61)), (1, .v (.int .i64 x1)), (2, .p 0 0), (6, .p 1 0), (7, .v (.bool t32.2)), (8, .p 2 0), (9, .p 3 0), (10, .v (.bool t40.2))]) (by kernel_rfl) ?_
          refine JH_keep [49, 1, 2, 6, 7, 8, 9, 10] (sl' := [(49, .v (.bool (!t61))), (1, .v (.int .i64 x1)), (2, .p 0 0), (6, .p 1 0), (7, .v (.bool t32.2)), (8, .p 2 0), (9, .p 3 0), (10, .v (.bool t40.2))]) (by kernel_rfl) ?_
          exact JH_done (by kernel_rfl) () [49, 1, 2, 6, 7, 8, 9, 10] [1, 1, 1] 4 (by kernel_rfl) (by kernel_rfl) (by kernel_rfl) (by kernel_rfl)
        · skip
          refine JE_then ?_
          refine JC_cond (!t61) (by kernel_rfl) (fun b66 => ?_) (fun b66 => ?_)
          · have h67 := cT b66 h63
            refine JC_seq ?_
            refine JC_region ?_
            refine JO_stepsK 1 [4] (sl' := [(4, .v (.bool false))]) (bx' := [(77, [.slice a0_0 x0.Ledger.Postings.length c0_0, .int .i64 x0.Closed]), (83, [.slice y35.1 t32.1.Ledger.Postings.length y35.2, .int .i64 t32.1.Closed]), (83, [.slice y39.1 t36.Ledger.Postings.length y39.2, .int .i64 t36.Closed]), (83, [.slice y43.1 t40.1.Ledger.Postings.length y43.2, .int .i64 t40.1.Closed])]) (by kernel_rfl) ?_
            refine JO_end (by kernel_rfl) ?_
            refine JE_then ?_
            refine JC_ret ?_
            refine JE_then_ret ?_
            refine JE_ret (vs := [.bool false]) (by kernel_rfl) (fun γ w hs => ?_)
            rw [← sI h67]
            exact ⟨rfl, hs.kept.toBelow⟩
          · have h68 := cF b66 h63
            refine JC_skip ?_
            refine JE_then ?_
            refine JC_seq ?_
            refine JC_region ?_
            refine JO_stepsK 1 [11, 1, 2, 6, 7, 8, 9, 10] (sl' := [(11, .v (.int .i64 1)), (1, .v (.int .i64 x1)), (2, .p 0 0), (6, .p 1 0), (7, .v (.bool t32.2)), (8, .p 2 0), (9, .p 3 0), (10, .v (.bool t40.2))]) (bx' := [(77, [.slice a0_0 x0.Ledger.Postings.length c0_0, .int .i64 x0.Closed]), (83, [.slice y35.1 t32.1.Ledger.Postings.length y35.2, .int .i64 t32.1.Closed]), (83, [.slice y39.1 t36.Ledger.Postings.length y39.2, .int .i64 t36.Closed]), (83, [.slice y43.1 t40.1.Ledger.Postings.length y43.2, .int .i64 t40.1.Closed])]) (by kernel_rfl) ?_
            refine JO_end (by kernel_rfl) ?_
            refine JE_then ?_
            refine JC_seq ?_
            refine JC_region ?_
            refine JO_stepsK 2 [51, 50, 1, 2, 6, 7, 9, 10] (sl' := [(51, .v (.int .i64 1)), (50, .v (.agg #[.slice y39.1 t36.Ledger.Postings.length y39.2, .int .i64 t36.Closed])), (1, .v (.int .i64 x1)), (2, .p 0 0), (6, .p 1 0), (7, .v (.bool t32.2)), (9, .p 3 0), (10, .v (.bool t40.2))]) (bx' := [(77, [.slice a0_0 x0.Ledger.Postings.length c0_0, .int .i64 x0.Closed]), (83, [.slice y35.1 t32.1.Ledger.Postings.length y35.2, .int .i64 t32.1.Closed]), (83, [.slice y39.1 t36.Ledger.Postings.length y39.2, .int .i64 t36.Closed]), (83, [.slice y43.1 t40.1.Ledger.Postings.length y43.2, .int .i64 t40.1.Closed])]) (by kernel_rfl) ?_
            refine JO_res (R' := [SlRes 93 t36.Ledger.Postings y39.1 y39.2, SlRes 93 t32.1.Ledger.Postings y35.1 y35.2, SlRes 93 t40.1.Ledger.Postings y43.1 y43.2]) [1, 0, 0] (by kernel_rfl) ?_
            obtain ⟨t69, h70, h71⟩ := bS h68
            obtain ⟨u73, hu74, h75⟩ := bS h71
            have hl76 := (sameLen_some hu74).symm
            refine JO_callM rfl (by kernel_rfl) (f := 55) (args := #[.agg #[.slice y39.1 t36.Ledger.Postings.length y39.2, .int .i64 t36.Closed], .int .i64 1]) (by kernel_rfl) (x := .int .i64 t69.1) (Rin := [SlRes 93 t36.Ledger.Postings y39.1 y39.2]) (Rout := [SlRes 93 t69.2 y39.1 y39.2]) (Rr := [SlRes 93 t32.1.Ledger.Postings y35.1 y35.2, SlRes 93 t40.1.Ledger.Postings y43.1 y43.2]) rfl (fun w => (by have vv := c_laws_markBooks (e0_0 := 93) (a0_0 := y39.1) (c0_0 := y39.2) (W := w) h70; exact vv)) (sl' := [(52, .v (.int .i64 t69.1)), (51, .v (.int .i64 1)), (50, .v (.agg #[.slice y39.1 t36.Ledger.Postings.length y39.2, .int .i64 t36.Closed])), (1, .v (.int .i64 x1)), (2, .p 0 0), (6, .p 1 0), (7, .v (.bool t32.2)), (9, .p 3 0), (10, .v (.bool t40.2))]) (by kernel_rfl) ?_
            refine JO_eqE (sl' := [(52, .v (.int .i64 t69.1)), (51, .v (.int .i64 1)), (50, .v (.agg #[.slice y39.1 t69.2.length y39.2, .int .i64 t36.Closed])), (1, .v (.int .i64 x1)), (2, .p 0 0), (6, .p 1 0), (7, .v (.bool t32.2)), (9, .p 3 0), (10, .v (.bool t40.2))]) (bx' := [(77, [.slice a0_0 x0.Ledger.Postings.length c0_0, .int .i64 x0.Closed]), (83, [.slice y35.1 t32.1.Ledger.Postings.length y35.2, .int .i64 t32.1.Closed]), (83, [.slice y39.1 t69.2.length y39.2, .int .i64 t36.Closed]), (83, [.slice y43.1 t40.1.Ledger.Postings.length y43.2, .int .i64 t40.1.Closed])]) (by simp only [hl76]) (by simp only [hl76]) ?_
            refine JO_stepsK 1 [11, 1, 2, 6, 7, 9, 10] (sl' := [(11, .v (.int .i64 t69.1)), (1, .v (.int .i64 x1)), (2, .p 0 0), (6, .p 1 0), (7, .v (.bool t32.2)), (9, .p 3 0), (10, .v (.bool t40.2))]) (bx' := [(77, [.slice a0_0 x0.Ledger.Postings.length c0_0, .int .i64 x0.Closed]), (83, [.slice y35.1 t32.1.Ledger.Postings.length y35.2, .int .i64 t32.1.Closed]), (83, [.slice y39.1 t69.2.length y39.2, .int .i64 t36.Closed]), (83, [.slice y43.1 t40.1.Ledger.Postings.length y43.2, .int .i64 t40.1.Closed])]) (by kernel_rfl) ?_
            refine JO_end (by kernel_rfl) ?_
            refine JE_then ?_
            refine JC_seq ?_
            refine JC_seq ?_
            obtain ⟨p77, hE78, h79⟩ := bS h75
            refine JC_cut (τ := Unit) (fun _ => [(1, .v (.int .i64 x1)), (2, .p 0 0), (6, .p 1 0), (7, .v (.bool t32.2)), (9, .p 3 0), (65, .v (.bool p77))]) (fun _ => [(77, [.slice a0_0 x0.Ledger.Postings.length c0_0, .int .i64 x0.Closed]), (83, [.slice y35.1 t32.1.Ledger.Postings.length y35.2, .int .i64 t32.1.Closed]), (83, [.slice y39.1 t69.2.length y39.2, .int .i64 t36.Closed]), (83, [.slice y43.1 t40.1.Ledger.Postings.length y43.2, .int .i64 t40.1.Closed])]) (fun _ => [SlRes 93 t32.1.Ledger.Postings y35.1 y35.2, SlRes 93 t69.2 y39.1 y39.2, SlRes 93 t40.1.Ledger.Postings y43.1 y43.2]) ?_ (fun _ => ?_)
            · refine JC_region ?_
              refine JO_stepsK 3 [55, 1, 2, 6, 7, 9, 10] (sl' := [(55, .v (.bool (decide (t69.1 < 0)))), (1, .v (.int .i64 x1)), (2, .p 0 0), (6, .p 1 0), (7, .v (.bool t32.2)), (9, .p 3 0), (10, .v (.bool t40.2))]) (bx' := [(77, [.slice a0_0 x0.Ledger.Postings.length c0_0, .int .i64 x0.Closed]), (83, [.slice y35.1 t32.1.Ledger.Postings.length y35.2, .int .i64 t32.1.Closed]), (83, [.slice y39.1 t69.2.length y39.2, .int .i64 t36.Closed]), (83, [.slice y43.1 t40.1.Ledger.Postings.length y43.2, .int .i64 t40.1.Closed])]) (by kernel_rfl) ?_
              refine JO_split 55 (decide (t69.1 < 0)) (by kernel_rfl) (fun b80 => ?_) (fun b80 => ?_)
              · have h81 := cT b80 hE78
                refine JO_stepsK 10 [65, 1, 2, 6, 7, 9] (sl' := [(65, .v (.bool true)), (1, .v (.int .i64 x1)), (2, .p 0 0), (6, .p 1 0), (7, .v (.bool t32.2)), (9, .p 3 0)]) (bx' := [(77, [.slice a0_0 x0.Ledger.Postings.length c0_0, .int .i64 x0.Closed]), (83, [.slice y35.1 t32.1.Ledger.Postings.length y35.2, .int .i64 t32.1.Closed]), (83, [.slice y39.1 t69.2.length y39.2, .int .i64 t36.Closed]), (83, [.slice y43.1 t40.1.Ledger.Postings.length y43.2, .int .i64 t40.1.Closed])]) (by kernel_rfl) ?_
                refine JO_end (by kernel_rfl) ?_
                obtain rfl := sI h81
                exact JE_meet () [1, 2, 6, 7, 9, 65] [1, 0, 0] 4 (by kernel_rfl) (by kernel_rfl) (by kernel_rfl) (by kernel_rfl)
              · have h82 := cF b80 hE78
                refine JO_stepsK 2 [57, 56, 55, 1, 2, 6, 7, 9, 10] (sl' := [(57, .v (.agg #[.slice y35.1 t32.1.Ledger.Postings.length y35.2, .int .i64 t32.1.Closed])), (56, .v (.agg #[.slice y43.1 t40.1.Ledger.Postings.length y43.2, .int .i64 t40.1.Closed])), (55, .v (.bool false)), (1, .v (.int .i64 x1)), (2, .p 0 0), (6, .p 1 0), (7, .v (.bool t32.2)), (9, .p 3 0), (10, .v (.bool t40.2))]) (bx' := [(77, [.slice a0_0 x0.Ledger.Postings.length c0_0, .int .i64 x0.Closed]), (83, [.slice y35.1 t32.1.Ledger.Postings.length y35.2, .int .i64 t32.1.Closed]), (83, [.slice y39.1 t69.2.length y39.2, .int .i64 t36.Closed]), (83, [.slice y43.1 t40.1.Ledger.Postings.length y43.2, .int .i64 t40.1.Closed])]) (by kernel_rfl) ?_
                obtain ⟨t83, h84, h85⟩ := bS h82
                refine JO_call0 rfl (by kernel_rfl) (f := 54) (args := #[.agg #[.slice y43.1 t40.1.Ledger.Postings.length y43.2, .int .i64 t40.1.Closed], .agg #[.slice y35.1 t32.1.Ledger.Postings.length y35.2, .int .i64 t32.1.Closed]]) (by kernel_rfl) (x := .bool t83) (fun γ w hs => (by have v0 := hs.view 2 rfl; have v1 := hs.view 1 rfl; have vv := c_laws_eqBooks (W := w) h84 v0 v1; exact vv)) (sl' := [(58, .v (.bool t83)), (57, .v (.agg #[.slice y35.1 t32.1.Ledger.Postings.length y35.2, .int .i64 t32.1.Closed])), (56, .v (.agg #[.slice y43.1 t40.1.Ledger.Postings.length y43.2, .int .i64 t40.1.Closed])), (55, .v (.bool false)), (1, .v (.int .i64 x1)), (2, .p 0 0), (6, .p 1 0), (7, .v (.bool t32.2)), (9, .p 3 0), (10, .v (.bool t40.2))]) (by kernel_rfl) ?_
                refine JO_stepsK 3 [61, 1, 2, 6, 7, 9, 10] (sl' := [(61, .v (.bool (!t83))), (1, .v (.int .i64 x1)), (2, .p 0 0), (6, .p 1 0), (7, .v (.bool t32.2)), (9, .p 3 0), (10, .v (.bool t40.2))]) (bx' := [(77, [.slice a0_0 x0.Ledger.Postings.length c0_0, .int .i64 x0.Closed]), (83, [.slice y35.1 t32.1.Ledger.Postings.length y35.2, .int .i64 t32.1.Closed]), (83, [.slice y39.1 t69.2.length y39.2, .int .i64 t36.Closed]), (83, [.slice y43.1 t40.1.Ledger.Postings.length y43.2, .int .i64 t40.1.Closed])]) (by kernel_rfl) ?_
                refine JO_split 61 (!t83) (by kernel_rfl) (fun b87 => ?_) (fun b87 => ?_)
                · have h88 := cT b87 h85
                  refine JO_stepsK 4 [65, 1, 2, 6, 7, 9] (sl' := [(65, .v (.bool true)), (1, .v (.int .i64 x1)), (2, .p 0 0), (6, .p 1 0), (7, .v (.bool t32.2)), (9, .p 3 0)]) (bx' := [(77, [.slice a0_0 x0.Ledger.Postings.length c0_0, .int .i64 x0.Closed]), (83, [.slice y35.1 t32.1.Ledger.Postings.length y35.2, .int .i64 t32.1.Closed]), (83, [.slice y39.1 t69.2.length y39.2, .int .i64 t36.Closed]), (83, [.slice y43.1 t40.1.Ledger.Postings.length y43.2, .int .i64 t40.1.Closed])]) (by kernel_rfl) ?_
                  refine JO_end (by kernel_rfl) ?_
                  obtain rfl := sI h88
                  exact JE_meet () [1, 2, 6, 7, 9, 65] [1, 0, 0] 4 (by kernel_rfl) (by kernel_rfl) (by kernel_rfl) (by kernel_rfl)
                · have h89 := cF b87 h85
                  refine JO_stepsK 4 [65, 1, 2, 6, 7, 9] (sl' := [(65, .v (.bool (!(t40.2 == t32.2)))), (1, .v (.int .i64 x1)), (2, .p 0 0), (6, .p 1 0), (7, .v (.bool t32.2)), (9, .p 3 0)]) (bx' := [(77, [.slice a0_0 x0.Ledger.Postings.length c0_0, .int .i64 x0.Closed]), (83, [.slice y35.1 t32.1.Ledger.Postings.length y35.2, .int .i64 t32.1.Closed]), (83, [.slice y39.1 t69.2.length y39.2, .int .i64 t36.Closed]), (83, [.slice y43.1 t40.1.Ledger.Postings.length y43.2, .int .i64 t40.1.Closed])]) (by kernel_rfl) ?_
                  refine JO_end (by kernel_rfl) ?_
                  obtain rfl := sI h89
                  exact JE_meet () [1, 2, 6, 7, 9, 65] [1, 0, 0] 4 (by kernel_rfl) (by kernel_rfl) (by kernel_rfl) (by kernel_rfl)
            · skip
              refine JE_then ?_
              refine JC_cond p77 (by kernel_rfl) (fun b90 => ?_) (fun b90 => ?_)
              · have h91 := cT b90 h79
                refine JC_seq ?_
                refine JC_region ?_
                refine JO_stepsK 1 [4] (sl' := [(4, .v (.bool false))]) (bx' := [(77, [.slice a0_0 x0.Ledger.Postings.length c0_0, .int .i64 x0.Closed]), (83, [.slice y35.1 t32.1.Ledger.Postings.length y35.2, .int .i64 t32.1.Closed]), (83, [.slice y39.1 t69.2.length y39.2, .int .i64 t36.Closed]), (83, [.slice y43.1 t40.1.Ledger.Postings.length y43.2, .int .i64 t40.1.Closed])]) (by kernel_rfl) ?_
                refine JO_end (by kernel_rfl) ?_
                refine JE_then ?_
                refine JC_ret ?_
                refine JE_then_ret ?_
                refine JE_ret (vs := [.bool false]) (by kernel_rfl) (fun γ w hs => ?_)
                rw [← sI h91]
                exact ⟨rfl, hs.kept.toBelow⟩
              · have h92 := cF b90 h79
                refine JC_skip ?_
                refine JE_then ?_
                refine JC_seq ?_
                refine JC_region ?_
                refine JO_stepsK 1 [12, 1, 2, 6, 7, 9] (sl' := [(12, .v (.int .i64 1)), (1, .v (.int .i64 x1)), (2, .p 0 0), (6, .p 1 0), (7, .v (.bool t32.2)), (9, .p 3 0)]) (bx' := [(77, [.slice a0_0 x0.Ledger.Postings.length c0_0, .int .i64 x0.Closed]), (83, [.slice y35.1 t32.1.Ledger.Postings.length y35.2, .int .i64 t32.1.Closed]), (83, [.slice y39.1 t69.2.length y39.2, .int .i64 t36.Closed]), (83, [.slice y43.1 t40.1.Ledger.Postings.length y43.2, .int .i64 t40.1.Closed])]) (by kernel_rfl) ?_
                refine JO_end (by kernel_rfl) ?_
                refine JE_then ?_
                refine JC_seq ?_
                refine JC_region ?_
                refine JO_stepsK 2 [67, 66, 1, 2, 6, 7, 9] (sl' := [(67, .v (.int .i64 1)), (66, .v (.agg #[.slice y43.1 t40.1.Ledger.Postings.length y43.2, .int .i64 t40.1.Closed])), (1, .v (.int .i64 x1)), (2, .p 0 0), (6, .p 1 0), (7, .v (.bool t32.2)), (9, .p 3 0)]) (bx' := [(77, [.slice a0_0 x0.Ledger.Postings.length c0_0, .int .i64 x0.Closed]), (83, [.slice y35.1 t32.1.Ledger.Postings.length y35.2, .int .i64 t32.1.Closed]), (83, [.slice y39.1 t69.2.length y39.2, .int .i64 t36.Closed]), (83, [.slice y43.1 t40.1.Ledger.Postings.length y43.2, .int .i64 t40.1.Closed])]) (by kernel_rfl) ?_
                refine JO_res (R' := [SlRes 93 t40.1.Ledger.Postings y43.1 y43.2, SlRes 93 t32.1.Ledger.Postings y35.1 y35.2, SlRes 93 t69.2 y39.1 y39.2]) [2, 0, 0] (by kernel_rfl) ?_
                obtain ⟨t93, h94, h95⟩ := bS h92
                obtain ⟨u97, hu98, h99⟩ := bS h95
                have hl100 := (sameLen_some hu98).symm
                refine JO_callM rfl (by kernel_rfl) (f := 55) (args := #[.agg #[.slice y43.1 t40.1.Ledger.Postings.length y43.2, .int .i64 t40.1.Closed], .int .i64 1]) (by kernel_rfl) (x := .int .i64 t93.1) (Rin := [SlRes 93 t40.1.Ledger.Postings y43.1 y43.2]) (Rout := [SlRes 93 t93.2 y43.1 y43.2]) (Rr := [SlRes 93 t32.1.Ledger.Postings y35.1 y35.2, SlRes 93 t69.2 y39.1 y39.2]) rfl (fun w => (by have vv := c_laws_markBooks (e0_0 := 93) (a0_0 := y43.1) (c0_0 := y43.2) (W := w) h94; exact vv)) (sl' := [(68, .v (.int .i64 t93.1)), (67, .v (.int .i64 1)), (66, .v (.agg #[.slice y43.1 t40.1.Ledger.Postings.length y43.2, .int .i64 t40.1.Closed])), (1, .v (.int .i64 x1)), (2, .p 0 0), (6, .p 1 0), (7, .v (.bool t32.2)), (9, .p 3 0)]) (by kernel_rfl) ?_
                refine JO_eqE (sl' := [(68, .v (.int .i64 t93.1)), (67, .v (.int .i64 1)), (66, .v (.agg #[.slice y43.1 t93.2.length y43.2, .int .i64 t40.1.Closed])), (1, .v (.int .i64 x1)), (2, .p 0 0), (6, .p 1 0), (7, .v (.bool t32.2)), (9, .p 3 0)]) (bx' := [(77, [.slice a0_0 x0.Ledger.Postings.length c0_0, .int .i64 x0.Closed]), (83, [.slice y35.1 t32.1.Ledger.Postings.length y35.2, .int .i64 t32.1.Closed]), (83, [.slice y39.1 t69.2.length y39.2, .int .i64 t36.Closed]), (83, [.slice y43.1 t93.2.length y43.2, .int .i64 t40.1.Closed])]) (by simp only [hl100]) (by simp only [hl100]) ?_
                refine JO_stepsK 1 [12, 1, 2, 6, 7, 9] (sl' := [(12, .v (.int .i64 t93.1)), (1, .v (.int .i64 x1)), (2, .p 0 0), (6, .p 1 0), (7, .v (.bool t32.2)), (9, .p 3 0)]) (bx' := [(77, [.slice a0_0 x0.Ledger.Postings.length c0_0, .int .i64 x0.Closed]), (83, [.slice y35.1 t32.1.Ledger.Postings.length y35.2, .int .i64 t32.1.Closed]), (83, [.slice y39.1 t69.2.length y39.2, .int .i64 t36.Closed]), (83, [.slice y43.1 t93.2.length y43.2, .int .i64 t40.1.Closed])]) (by kernel_rfl) ?_
                refine JO_end (by kernel_rfl) ?_
                refine JE_then ?_
                refine JC_seq ?_
                refine JC_region ?_
                refine JO_stepsK 1 [13, 12, 1, 2, 6, 7, 9] (sl' := [(13, .v (.int .i64 1)), (12, .v (.int .i64 t93.1)), (1, .v (.int .i64 x1)), (2, .p 0 0), (6, .p 1 0), (7, .v (.bool t32.2)), (9, .p 3 0)]) (bx' := [(77, [.slice a0_0 x0.Ledger.Postings.length c0_0, .int .i64 x0.Closed]), (83, [.slice y35.1 t32.1.Ledger.Postings.length y35.2, .int .i64 t32.1.Closed]), (83, [.slice y39.1 t69.2.length y39.2, .int .i64 t36.Closed]), (83, [.slice y43.1 t93.2.length y43.2, .int .i64 t40.1.Closed])]) (by kernel_rfl) ?_
                refine JO_end (by kernel_rfl) ?_
                refine JE_then ?_
                refine JC_seq ?_
                refine JC_region ?_
                refine JO_stepsK 2 [70, 69, 12, 1, 2, 6, 7, 9] (sl' := [(70, .v (.int .i64 1)), (69, .v (.agg #[.slice y43.1 t93.2.length y43.2, .int .i64 t40.1.Closed])), (12, .v (.int .i64 t93.1)), (1, .v (.int .i64 x1)), (2, .p 0 0), (6, .p 1 0), (7, .v (.bool t32.2)), (9, .p 3 0)]) (bx' := [(77, [.slice a0_0 x0.Ledger.Postings.length c0_0, .int .i64 x0.Closed]), (83, [.slice y35.1 t32.1.Ledger.Postings.length y35.2, .int .i64 t32.1.Closed]), (83, [.slice y39.1 t69.2.length y39.2, .int .i64 t36.Closed]), (83, [.slice y43.1 t93.2.length y43.2, .int .i64 t40.1.Closed])]) (by kernel_rfl) ?_
                obtain ⟨t101, h102, h103⟩ := bS h99
                refine JO_call0 rfl (by kernel_rfl) (f := 56) (args := #[.agg #[.slice y43.1 t93.2.length y43.2, .int .i64 t40.1.Closed], .int .i64 1]) (by kernel_rfl) (x := .int .i64 t101) (fun γ w hs => (by have v0 := hs.view 0 rfl; have vv := c_laws_heldBooks (W := w) h102 v0; exact vv)) (sl' := [(71, .v (.int .i64 t101)), (70, .v (.int .i64 1)), (69, .v (.agg #[.slice y43.1 t93.2.length y43.2, .int .i64 t40.1.Closed])), (12, .v (.int .i64 t93.1)), (1, .v (.int .i64 x1)), (2, .p 0 0), (6, .p 1 0), (7, .v (.bool t32.2)), (9, .p 3 0)]) (by kernel_rfl) ?_
                refine JO_stepsK 1 [13, 12, 1, 2, 6, 7, 9] (sl' := [(13, .v (.int .i64 t101)), (12, .v (.int .i64 t93.1)), (1, .v (.int .i64 x1)), (2, .p 0 0), (6, .p 1 0), (7, .v (.bool t32.2)), (9, .p 3 0)]) (bx' := [(77, [.slice a0_0 x0.Ledger.Postings.length c0_0, .int .i64 x0.Closed]), (83, [.slice y35.1 t32.1.Ledger.Postings.length y35.2, .int .i64 t32.1.Closed]), (83, [.slice y39.1 t69.2.length y39.2, .int .i64 t36.Closed]), (83, [.slice y43.1 t93.2.length y43.2, .int .i64 t40.1.Closed])]) (by kernel_rfl) ?_
                refine JO_end (by kernel_rfl) ?_
                refine JE_then ?_
                refine JC_seq ?_
                refine JC_seq ?_
                refine JC_region ?_
                refine JO_stepsK 2 [73, 13, 12, 1, 2, 6, 7, 9] (sl' := [(73, .v (.bool (decide (t101 < 0)))), (13, .v (.int .i64 t101)), (12, .v (.int .i64 t93.1)), (1, .v (.int .i64 x1)), (2, .p 0 0), (6, .p 1 0), (7, .v (.bool t32.2)), (9, .p 3 0)]) (bx' := [(77, [.slice a0_0 x0.Ledger.Postings.length c0_0, .int .i64 x0.Closed]), (83, [.slice y35.1 t32.1.Ledger.Postings.length y35.2, .int .i64 t32.1.Closed]), (83, [.slice y39.1 t69.2.length y39.2, .int .i64 t36.Closed]), (83, [.slice y43.1 t93.2.length y43.2, .int .i64 t40.1.Closed])]) (by kernel_rfl) ?_
                refine JO_end (by kernel_rfl) ?_
                refine JE_then ?_
                refine JC_cond (decide (t101 < 0)) (by kernel_rfl) (fun b105 => ?_) (fun b105 => ?_)
                · have h106 := cT b105 h103
                  refine JC_seq ?_
                  refine JC_region ?_
                  refine JO_stepsK 1 [4] (sl' := [(4, .v (.bool false))]) (bx' := [(77, [.slice a0_0 x0.Ledger.Postings.length c0_0, .int .i64 x0.Closed]), (83, [.slice y35.1 t32.1.Ledger.Postings.length y35.2, .int .i64 t32.1.Closed]), (83, [.slice y39.1 t69.2.length y39.2, .int .i64 t36.Closed]), (83, [.slice y43.1 t93.2.length y43.2, .int .i64 t40.1.Closed])]) (by kernel_rfl) ?_
                  refine JO_end (by kernel_rfl) ?_
                  refine JE_then ?_
                  refine JC_ret ?_
                  refine JE_then_ret ?_
                  refine JE_ret (vs := [.bool false]) (by kernel_rfl) (fun γ w hs => ?_)
                  rw [← sI h106]
                  exact ⟨rfl, hs.kept.toBelow⟩
                · have h107 := cF b105 h103
                  refine JC_skip ?_
                  refine JE_then ?_
                  refine JC_seq ?_
                  refine JC_seq ?_
                  refine JC_region ?_
                  refine JO_stepsK 3 [76, 12, 1, 2, 6, 7, 9] (sl' := [(76, .v (.bool (t101 != t93.1))), (12, .v (.int .i64 t93.1)), (1, .v (.int .i64 x1)), (2, .p 0 0), (6, .p 1 0), (7, .v (.bool t32.2)), (9, .p 3 0)]) (bx' := [(77, [.slice a0_0 x0.Ledger.Postings.length c0_0, .int .i64 x0.Closed]), (83, [.slice y35.1 t32.1.Ledger.Postings.length y35.2, .int .i64 t32.1.Closed]), (83, [.slice y39.1 t69.2.length y39.2, .int .i64 t36.Closed]), (83, [.slice y43.1 t93.2.length y43.2, .int .i64 t40.1.Closed])]) (by kernel_rfl) ?_
                  refine JO_end (by kernel_rfl) ?_
                  refine JE_then ?_
                  refine JC_cond (t101 != t93.1) (by kernel_rfl) (fun b108 => ?_) (fun b108 => ?_)
                  · have h109 := cT b108 h107
                    refine JC_seq ?_
                    refine JC_region ?_
                    refine JO_stepsK 1 [4] (sl' := [(4, .v (.bool false))]) (bx' := [(77, [.slice a0_0 x0.Ledger.Postings.length c0_0, .int .i64 x0.Closed]), (83, [.slice y35.1 t32.1.Ledger.Postings.length y35.2, .int .i64 t32.1.Closed]), (83, [.slice y39.1 t69.2.length y39.2, .int .i64 t36.Closed]), (83, [.slice y43.1 t93.2.length y43.2, .int .i64 t40.1.Closed])]) (by kernel_rfl) ?_
                    refine JO_end (by kernel_rfl) ?_
                    refine JE_then ?_
                    refine JC_ret ?_
                    refine JE_then_ret ?_
                    refine JE_ret (vs := [.bool false]) (by kernel_rfl) (fun γ w hs => ?_)
                    rw [← sI h109]
                    exact ⟨rfl, hs.kept.toBelow⟩
                  · have h110 := cF b108 h107
                    refine JC_skip ?_
                    refine JE_then ?_
                    refine JC_seq ?_
                    refine JC_region ?_
                    refine JO_stepsK 1 [78, 12, 1, 6, 7, 9] (sl' := [(78, .v (.agg #[.slice a0_0 x0.Ledger.Postings.length c0_0, .int .i64 x0.Closed])), (12, .v (.int .i64 t93.1)), (1, .v (.int .i64 x1)), (6, .p 1 0), (7, .v (.bool t32.2)), (9, .p 3 0)]) (bx' := [(77, [.slice a0_0 x0.Ledger.Postings.length c0_0, .int .i64 x0.Closed]), (83, [.slice y35.1 t32.1.Ledger.Postings.length y35.2, .int .i64 t32.1.Closed]), (83, [.slice y39.1 t69.2.length y39.2, .int .i64 t36.Closed]), (83, [.slice y43.1 t93.2.length y43.2, .int .i64 t40.1.Closed])]) (by kernel_rfl) ?_
                    obtain ⟨t111, h112, h113⟩ := bS h110
                    refine JO_call rfl (by kernel_rfl) (f := 52) (args := #[.agg #[.slice a0_0 x0.Ledger.Postings.length c0_0, .int .i64 x0.Closed]]) (by kernel_rfl) (fun γ w hs => (by have vv := c_laws_toBooks (W := w) h112 (hv0_0.kept hs.kept); exact vv)) (fun (y114 : (Option Addr × Nat)) => [(79, .v (.agg #[.slice y114.1 t111.Ledger.Postings.length y114.2, .int .i64 t111.Closed])), (78, .v (.agg #[.slice a0_0 x0.Ledger.Postings.length c0_0, .int .i64 x0.Closed])), (12, .v (.int .i64 t93.1)), (1, .v (.int .i64 x1)), (6, .p 1 0), (7, .v (.bool t32.2)), (9, .p 3 0)]) (fun y114 => by kernel_rfl) (fun y114 => ?_)
                    refine JO_stepsK 1 [80, 79, 12, 6, 7, 9] (sl' := [(80, .v (.int .i64 x1)), (79, .v (.agg #[.slice y114.1 t111.Ledger.Postings.length y114.2, .int .i64 t111.Closed])), (12, .v (.int .i64 t93.1)), (6, .p 1 0), (7, .v (.bool t32.2)), (9, .p 3 0)]) (bx' := [(77, [.slice a0_0 x0.Ledger.Postings.length c0_0, .int .i64 x0.Closed]), (83, [.slice y35.1 t32.1.Ledger.Postings.length y35.2, .int .i64 t32.1.Closed]), (83, [.slice y39.1 t69.2.length y39.2, .int .i64 t36.Closed]), (83, [.slice y43.1 t93.2.length y43.2, .int .i64 t40.1.Closed])]) (by kernel_rfl) ?_
                    obtain ⟨t115, h116, h117⟩ := bS h113
                    refine JO_call rfl (by kernel_rfl) (f := 53) (args := #[.agg #[.slice y114.1 t111.Ledger.Postings.length y114.2, .int .i64 t111.Closed], .int .i64 x1]) (by kernel_rfl) (fun γ w hs => (by have v0 := hs.view 0 rfl; have vv := c_impl_CloseUpTo (W := w) h116 v0; exact vv)) (fun (y118 : (Option Addr × Nat)) => [(81, .v (.tuple #[.agg #[.slice y118.1 t115.1.Ledger.Postings.length y118.2, .int .i64 t115.1.Closed], .bool t115.2])), (80, .v (.int .i64 x1)), (79, .v (.agg #[.slice y114.1 t111.Ledger.Postings.length y114.2, .int .i64 t111.Closed])), (12, .v (.int .i64 t93.1)), (6, .p 1 0), (7, .v (.bool t32.2)), (9, .p 3 0)]) (fun y118 => by kernel_rfl) (fun y118 => ?_)
                    refine JO_stepsK 6 [15, 14, 12, 6, 7, 9] (sl' := [(15, .v (.bool t115.2)), (14, .p 4 0), (12, .v (.int .i64 t93.1)), (6, .p 1 0), (7, .v (.bool t32.2)), (9, .p 3 0)]) (bx' := [(77, [.slice a0_0 x0.Ledger.Postings.length c0_0, .int .i64 x0.Closed]), (83, [.slice y35.1 t32.1.Ledger.Postings.length y35.2, .int .i64 t32.1.Closed]), (83, [.slice y39.1 t69.2.length y39.2, .int .i64 t36.Closed]), (83, [.slice y43.1 t93.2.length y43.2, .int .i64 t40.1.Closed]), (83, [.slice y118.1 t115.1.Ledger.Postings.length y118.2, .int .i64 t115.1.Closed])]) (by kernel_rfl) ?_
                    refine JO_end (by kernel_rfl) ?_
                    refine JE_then ?_
                    refine JC_seq ?_
                    refine JC_seq ?_
                    obtain ⟨p119, hE120, h121⟩ := bS h117
                    refine JC_cut (τ := Unit) (fun _ => [(9, .p 3 0), (12, .v (.int .i64 t93.1)), (92, .v (.bool p119))]) (fun _ => [(77, [.slice a0_0 x0.Ledger.Postings.length c0_0, .int .i64 x0.Closed]), (83, [.slice y35.1 t32.1.Ledger.Postings.length y35.2, .int .i64 t32.1.Closed]), (83, [.slice y39.1 t69.2.length y39.2, .int .i64 t36.Closed]), (83, [.slice y43.1 t93.2.length y43.2, .int .i64 t40.1.Closed]), (83, [.slice y118.1 t115.1.Ledger.Postings.length y118.2, .int .i64 t115.1.Closed])]) (fun _ => [SlRes 93 t32.1.Ledger.Postings y35.1 y35.2, SlRes 93 t69.2 y39.1 y39.2, SlRes 93 t93.2 y43.1 y43.2, SlRes 93 t115.1.Ledger.Postings y118.1 y118.2]) ?_ (fun _ => ?_)
                    · refine JC_region ?_
                      refine JO_stepsK 2 [85, 84, 15, 12, 7, 9] (sl' := [(85, .v (.agg #[.slice y35.1 t32.1.Ledger.Postings.length y35.2, .int .i64 t32.1.Closed])), (84, .v (.agg #[.slice y118.1 t115.1.Ledger.Postings.length y118.2, .int .i64 t115.1.Closed])), (15, .v (.bool t115.2)), (12, .v (.int .i64 t93.1)), (7, .v (.bool t32.2)), (9, .p 3 0)]) (bx' := [(77, [.slice a0_0 x0.Ledger.Postings.length c0_0, .int .i64 x0.Closed]), (83, [.slice y35.1 t32.1.Ledger.Postings.length y35.2, .int .i64 t32.1.Closed]), (83, [.slice y39.1 t69.2.length y39.2, .int .i64 t36.Closed]), (83, [.slice y43.1 t93.2.length y43.2, .int .i64 t40.1.Closed]), (83, [.slice y118.1 t115.1.Ledger.Postings.length y118.2, .int .i64 t115.1.Closed])]) (by kernel_rfl) ?_
                      obtain ⟨t122, h123, h124⟩ := bS hE120
                      refine JO_call0 rfl (by kernel_rfl) (f := 54) (args := #[.agg #[.slice y118.1 t115.1.Ledger.Postings.length y118.2, .int .i64 t115.1.Closed], .agg #[.slice y35.1 t32.1.Ledger.Postings.length y35.2, .int .i64 t32.1.Closed]]) (by kernel_rfl) (x := .bool t122) (fun γ w hs => (by have v0 := hs.view 0 rfl; have v1 := hs.view 3 rfl; have vv := c_laws_eqBooks (W := w) h123 v0 v1; exact vv)) (sl' := [(86, .v (.bool t122)), (85, .v (.agg #[.slice y35.1 t32.1.Ledger.Postings.length y35.2, .int .i64 t32.1.Closed])), (84, .v (.agg #[.slice y118.1 t115.1.Ledger.Postings.length y118.2, .int .i64 t115.1.Closed])), (15, .v (.bool t115.2)), (12, .v (.int .i64 t93.1)), (7, .v (.bool t32.2)), (9, .p 3 0)]) (by kernel_rfl) ?_
                      refine JO_stepsK 2 [88, 15, 12, 7, 9] (sl' := [(88, .v (.bool (!t122))), (15, .v (.bool t115.2)), (12, .v (.int .i64 t93.1)), (7, .v (.bool t32.2)), (9, .p 3 0)]) (bx' := [(77, [.slice a0_0 x0.Ledger.Postings.length c0_0, .int .i64 x0.Closed]), (83, [.slice y35.1 t32.1.Ledger.Postings.length y35.2, .int .i64 t32.1.Closed]), (83, [.slice y39.1 t69.2.length y39.2, .int .i64 t36.Closed]), (83, [.slice y43.1 t93.2.length y43.2, .int .i64 t40.1.Closed]), (83, [.slice y118.1 t115.1.Ledger.Postings.length y118.2, .int .i64 t115.1.Closed])]) (by kernel_rfl) ?_
                      refine JO_split 88 (!t122) (by kernel_rfl) (fun b126 => ?_) (fun b126 => ?_)
                      · have h127 := cT b126 h124
                        refine JO_stepsK 4 [92, 12, 9] (sl' := [(92, .v (.bool true)), (12, .v (.int .i64 t93.1)), (9, .p 3 0)]) (bx' := [(77, [.slice a0_0 x0.Ledger.Postings.length c0_0, .int .i64 x0.Closed]), (83, [.slice y35.1 t32.1.Ledger.Postings.length y35.2, .int .i64 t32.1.Closed]), (83, [.slice y39.1 t69.2.length y39.2, .int .i64 t36.Closed]), (83, [.slice y43.1 t93.2.length y43.2, .int .i64 t40.1.Closed]), (83, [.slice y118.1 t115.1.Ledger.Postings.length y118.2, .int .i64 t115.1.Closed])]) (by kernel_rfl) ?_
                        refine JO_end (by kernel_rfl) ?_
                        obtain rfl := sI h127
                        exact JE_meet () [9, 12, 92] [3, 3, 2, 0] 5 (by kernel_rfl) (by kernel_rfl) (by kernel_rfl) (by kernel_rfl)
                      · have h128 := cF b126 h124
                        refine JO_stepsK 4 [92, 12, 9] (sl' := [(92, .v (.bool (!(t115.2 == t32.2)))), (12, .v (.int .i64 t93.1)), (9, .p 3 0)]) (bx' := [(77, [.slice a0_0 x0.Ledger.Postings.length c0_0, .int .i64 x0.Closed]), (83, [.slice y35.1 t32.1.Ledger.Postings.length y35.2, .int .i64 t32.1.Closed]), (83, [.slice y39.1 t69.2.length y39.2, .int .i64 t36.Closed]), (83, [.slice y43.1 t93.2.length y43.2, .int .i64 t40.1.Closed]), (83, [.slice y118.1 t115.1.Ledger.Postings.length y118.2, .int .i64 t115.1.Closed])]) (by kernel_rfl) ?_
                        refine JO_end (by kernel_rfl) ?_
                        obtain rfl := sI h128
                        exact JE_meet () [9, 12, 92] [3, 3, 2, 0] 5 (by kernel_rfl) (by kernel_rfl) (by kernel_rfl) (by kernel_rfl)
                    · skip
                      refine JE_then ?_
                      refine JC_cond p119 (by kernel_rfl) (fun b129 => ?_) (fun b129 => ?_)
                      · have h130 := cT b129 h121
                        refine JC_seq ?_
                        refine JC_region ?_
                        refine JO_stepsK 1 [4] (sl' := [(4, .v (.bool false))]) (bx' := [(77, [.slice a0_0 x0.Ledger.Postings.length c0_0, .int .i64 x0.Closed]), (83, [.slice y35.1 t32.1.Ledger.Postings.length y35.2, .int .i64 t32.1.Closed]), (83, [.slice y39.1 t69.2.length y39.2, .int .i64 t36.Closed]), (83, [.slice y43.1 t93.2.length y43.2, .int .i64 t40.1.Closed]), (83, [.slice y118.1 t115.1.Ledger.Postings.length y118.2, .int .i64 t115.1.Closed])]) (by kernel_rfl) ?_
                        refine JO_end (by kernel_rfl) ?_
                        refine JE_then ?_
                        refine JC_ret ?_
                        refine JE_then_ret ?_
                        refine JE_ret (vs := [.bool false]) (by kernel_rfl) (fun γ w hs => ?_)
                        rw [← sI h130]
                        exact ⟨rfl, hs.kept.toBelow⟩
                      · have h131 := cF b129 h121
                        refine JC_skip ?_
                        refine JE_then ?_
                        refine JC_seq ?_
                        refine JC_region ?_
                        refine JO_stepsK 1 [13, 9, 12] (sl' := [(13, .v (.int .i64 1)), (9, .p 3 0), (12, .v (.int .i64 t93.1))]) (bx' := [(77, [.slice a0_0 x0.Ledger.Postings.length c0_0, .int .i64 x0.Closed]), (83, [.slice y35.1 t32.1.Ledger.Postings.length y35.2, .int .i64 t32.1.Closed]), (83, [.slice y39.1 t69.2.length y39.2, .int .i64 t36.Closed]), (83, [.slice y43.1 t93.2.length y43.2, .int .i64 t40.1.Closed]), (83, [.slice y118.1 t115.1.Ledger.Postings.length y118.2, .int .i64 t115.1.Closed])]) (by kernel_rfl) ?_
                        refine JO_end (by kernel_rfl) ?_
                        refine JE_then ?_
                        refine JC_seq ?_
                        refine JC_region ?_
                        refine JO_stepsK 2 [94, 93, 12] (sl' := [(94, .v (.int .i64 1)), (93, .v (.agg #[.slice y43.1 t93.2.length y43.2, .int .i64 t40.1.Closed])), (12, .v (.int .i64 t93.1))]) (bx' := [(77, [.slice a0_0 x0.Ledger.Postings.length c0_0, .int .i64 x0.Closed]), (83, [.slice y35.1 t32.1.Ledger.Postings.length y35.2, .int .i64 t32.1.Closed]), (83, [.slice y39.1 t69.2.length y39.2, .int .i64 t36.Closed]), (83, [.slice y43.1 t93.2.length y43.2, .int .i64 t40.1.Closed]), (83, [.slice y118.1 t115.1.Ledger.Postings.length y118.2, .int .i64 t115.1.Closed])]) (by kernel_rfl) ?_
                        obtain ⟨t132, h133, h134⟩ := bS h131
                        refine JO_call0 rfl (by kernel_rfl) (f := 56) (args := #[.agg #[.slice y43.1 t93.2.length y43.2, .int .i64 t40.1.Closed], .int .i64 1]) (by kernel_rfl) (x := .int .i64 t132) (fun γ w hs => (by have v0 := hs.view 2 rfl; have vv := c_laws_heldBooks (W := w) h133 v0; exact vv)) (sl' := [(95, .v (.int .i64 t132)), (94, .v (.int .i64 1)), (93, .v (.agg #[.slice y43.1 t93.2.length y43.2, .int .i64 t40.1.Closed])), (12, .v (.int .i64 t93.1))]) (by kernel_rfl) ?_
                        refine JO_stepsK 1 [13, 12] (sl' := [(13, .v (.int .i64 t132)), (12, .v (.int .i64 t93.1))]) (bx' := [(77, [.slice a0_0 x0.Ledger.Postings.length c0_0, .int .i64 x0.Closed]), (83, [.slice y35.1 t32.1.Ledger.Postings.length y35.2, .int .i64 t32.1.Closed]), (83, [.slice y39.1 t69.2.length y39.2, .int .i64 t36.Closed]), (83, [.slice y43.1 t93.2.length y43.2, .int .i64 t40.1.Closed]), (83, [.slice y118.1 t115.1.Ledger.Postings.length y118.2, .int .i64 t115.1.Closed])]) (by kernel_rfl) ?_
                        refine JO_end (by kernel_rfl) ?_
                        refine JE_then ?_
                        refine JC_seq ?_
                        refine JC_seq ?_
                        refine JC_region ?_
                        refine JO_stepsK 2 [97, 13, 12] (sl' := [(97, .v (.bool (decide (t132 < 0)))), (13, .v (.int .i64 t132)), (12, .v (.int .i64 t93.1))]) (bx' := [(77, [.slice a0_0 x0.Ledger.Postings.length c0_0, .int .i64 x0.Closed]), (83, [.slice y35.1 t32.1.Ledger.Postings.length y35.2, .int .i64 t32.1.Closed]), (83, [.slice y39.1 t69.2.length y39.2, .int .i64 t36.Closed]), (83, [.slice y43.1 t93.2.length y43.2, .int .i64 t40.1.Closed]), (83, [.slice y118.1 t115.1.Ledger.Postings.length y118.2, .int .i64 t115.1.Closed])]) (by kernel_rfl) ?_
                        refine JO_end (by kernel_rfl) ?_
                        refine JE_then ?_
                        refine JC_cond (decide (t132 < 0)) (by kernel_rfl) (fun b136 => ?_) (fun b136 => ?_)
                        · have h137 := cT b136 h134
                          refine JC_seq ?_
                          refine JC_region ?_
                          refine JO_stepsK 1 [4] (sl' := [(4, .v (.bool false))]) (bx' := [(77, [.slice a0_0 x0.Ledger.Postings.length c0_0, .int .i64 x0.Closed]), (83, [.slice y35.1 t32.1.Ledger.Postings.length y35.2, .int .i64 t32.1.Closed]), (83, [.slice y39.1 t69.2.length y39.2, .int .i64 t36.Closed]), (83, [.slice y43.1 t93.2.length y43.2, .int .i64 t40.1.Closed]), (83, [.slice y118.1 t115.1.Ledger.Postings.length y118.2, .int .i64 t115.1.Closed])]) (by kernel_rfl) ?_
                          refine JO_end (by kernel_rfl) ?_
                          refine JE_then ?_
                          refine JC_ret ?_
                          refine JE_then_ret ?_
                          refine JE_ret (vs := [.bool false]) (by kernel_rfl) (fun γ w hs => ?_)
                          rw [← sI h137]
                          exact ⟨rfl, hs.kept.toBelow⟩
                        · have h138 := cF b136 h134
                          refine JC_skip ?_
                          refine JE_then ?_
                          refine JC_seq ?_
                          refine JC_seq ?_
                          refine JC_region ?_
                          refine JO_stepsK 3 [100] (sl' := [(100, .v (.bool (t132 != t93.1)))]) (bx' := [(77, [.slice a0_0 x0.Ledger.Postings.length c0_0, .int .i64 x0.Closed]), (83, [.slice y35.1 t32.1.Ledger.Postings.length y35.2, .int .i64 t32.1.Closed]), (83, [.slice y39.1 t69.2.length y39.2, .int .i64 t36.Closed]), (83, [.slice y43.1 t93.2.length y43.2, .int .i64 t40.1.Closed]), (83, [.slice y118.1 t115.1.Ledger.Postings.length y118.2, .int .i64 t115.1.Closed])]) (by kernel_rfl) ?_
                          refine JO_end (by kernel_rfl) ?_
                          refine JE_then ?_
                          refine JC_cond (t132 != t93.1) (by kernel_rfl) (fun b139 => ?_) (fun b139 => ?_)
                          · have h140 := cT b139 h138
                            refine JC_seq ?_
                            refine JC_region ?_
                            refine JO_stepsK 1 [4] (sl' := [(4, .v (.bool false))]) (bx' := [(77, [.slice a0_0 x0.Ledger.Postings.length c0_0, .int .i64 x0.Closed]), (83, [.slice y35.1 t32.1.Ledger.Postings.length y35.2, .int .i64 t32.1.Closed]), (83, [.slice y39.1 t69.2.length y39.2, .int .i64 t36.Closed]), (83, [.slice y43.1 t93.2.length y43.2, .int .i64 t40.1.Closed]), (83, [.slice y118.1 t115.1.Ledger.Postings.length y118.2, .int .i64 t115.1.Closed])]) (by kernel_rfl) ?_
                            refine JO_end (by kernel_rfl) ?_
                            refine JE_then ?_
                            refine JC_ret ?_
                            refine JE_then_ret ?_
                            refine JE_ret (vs := [.bool false]) (by kernel_rfl) (fun γ w hs => ?_)
                            rw [← sI h140]
                            exact ⟨rfl, hs.kept.toBelow⟩
                          · have h141 := cF b139 h138
                            refine JC_skip ?_
                            refine JE_then ?_
                            refine JC_seq ?_
                            refine JC_region ?_
                            refine JO_stepsK 1 [4] (sl' := [(4, .v (.bool true))]) (bx' := [(77, [.slice a0_0 x0.Ledger.Postings.length c0_0, .int .i64 x0.Closed]), (83, [.slice y35.1 t32.1.Ledger.Postings.length y35.2, .int .i64 t32.1.Closed]), (83, [.slice y39.1 t69.2.length y39.2, .int .i64 t36.Closed]), (83, [.slice y43.1 t93.2.length y43.2, .int .i64 t40.1.Closed]), (83, [.slice y118.1 t115.1.Ledger.Postings.length y118.2, .int .i64 t115.1.Closed])]) (by kernel_rfl) ?_
                            refine JO_end (by kernel_rfl) ?_
                            refine JE_then ?_
                            refine JC_ret ?_
                            refine JE_ret (vs := [.bool true]) (by kernel_rfl) (fun γ w hs => ?_)
                            rw [← sI h141]
                            exact ⟨rfl, hs.kept.toBelow⟩

theorem c_spec_Post {W : World} {x0 : Ledger} {a0_0 : Option Addr} {c0_0 : Nat} {x1 : Posting} {r : Ledger × Bool} (h : spec_Post x0 x1 = some r) (hv0_0 : SlView W x0.Postings a0_0 c0_0) :
    Gives Try.prog 101 #[.agg #[.slice a0_0 x0.Postings.length c0_0], .agg #[.int .i64 x1.Month, .int .i64 x1.Debit, .int .i64 x1.Credit, .int .i64 x1.Cents]] W (fun y : (Option Addr × Nat) => .tuple #[.agg #[.slice y.1 r.1.Postings.length y.2], .bool r.2]) (fun y => [SlRes 93 r.1.Postings y.1 y.2]) := by
  unfold spec_Post at h
  refine enter (args := [.agg #[.slice a0_0 x0.Postings.length c0_0], .agg #[.int .i64 x1.Month, .int .i64 x1.Debit, .int .i64 x1.Credit, .int .i64 x1.Cents]]) Try.func101 rfl Try.ntmps101 (by kernel_rfl) ?_
  refine JC_seq ?_
  refine JC_region ?_
  refine JO_stepsK 4 [4, 3, 2] (sl' := [(4, .p 2 0), (3, .p 1 0), (2, .p 0 0)]) (bx' := [(81, [.slice a0_0 x0.Postings.length c0_0]), (93, [.int .i64 x1.Month, .int .i64 x1.Debit, .int .i64 x1.Credit, .int .i64 x1.Cents]), (81, [.slice none 0 0])]) (by kernel_rfl) ?_
  refine JO_end (by kernel_rfl) ?_
  refine JE_then ?_
  refine JC_seq ?_
  refine JC_region ?_
  refine JO_stepsK 1 [7, 4, 3, 2] (sl' := [(7, .v (.agg #[.slice a0_0 x0.Postings.length c0_0])), (4, .p 2 0), (3, .p 1 0), (2, .p 0 0)]) (bx' := [(81, [.slice a0_0 x0.Postings.length c0_0]), (93, [.int .i64 x1.Month, .int .i64 x1.Debit, .int .i64 x1.Credit, .int .i64 x1.Cents]), (81, [.slice none 0 0])]) (by kernel_rfl) ?_
  obtain ⟨t21, h22, h23⟩ := bS h
  refine JO_call rfl (by kernel_rfl) (f := 122) (args := #[.agg #[.slice a0_0 x0.Postings.length c0_0]]) (by kernel_rfl) (fun γ w hs => (by have vv := c_spec_l28Copy (W := w) h22 (hv0_0.kept hs.kept); exact vv)) (fun (y24 : (Option Addr × Nat)) => [(8, .v (.agg #[.slice y24.1 t21.Postings.length y24.2])), (7, .v (.agg #[.slice a0_0 x0.Postings.length c0_0])), (4, .p 2 0), (3, .p 1 0), (2, .p 0 0)]) (fun y24 => by kernel_rfl) (fun y24 => ?_)
  refine JO_stepsK 2 [6, 4, 3, 2] (sl' := [(6, .p 3 0), (4, .p 2 0), (3, .p 1 0), (2, .p 0 0)]) (bx' := [(81, [.slice a0_0 x0.Postings.length c0_0]), (93, [.int .i64 x1.Month, .int .i64 x1.Debit, .int .i64 x1.Credit, .int .i64 x1.Cents]), (81, [.slice none 0 0]), (81, [.slice y24.1 t21.Postings.length y24.2])]) (by kernel_rfl) ?_
  refine JO_end (by kernel_rfl) ?_
  refine JE_then ?_
  refine JC_seq ?_
  refine JC_region ?_
  refine JO_stepsK 3 [11, 10, 6, 4, 2] (sl' := [(11, .v (.agg #[.int .i64 x1.Month, .int .i64 x1.Debit, .int .i64 x1.Credit, .int .i64 x1.Cents])), (10, .v (.slice y24.1 t21.Postings.length y24.2)), (6, .p 3 0), (4, .p 2 0), (2, .p 0 0)]) (bx' := [(81, [.slice a0_0 x0.Postings.length c0_0]), (93, [.int .i64 x1.Month, .int .i64 x1.Debit, .int .i64 x1.Credit, .int .i64 x1.Cents]), (81, [.slice none 0 0]), (81, [.slice y24.1 t21.Postings.length y24.2])]) (by kernel_rfl) ?_
  refine JO_bslice rfl (by kernel_rfl) (e := 93) (len := 1) (cs := [.int .i64 x1.Month, .int .i64 x1.Debit, .int .i64 x1.Credit, .int .i64 x1.Cents]) (by kernel_rfl) (xs := ([x1] : List Posting)) rfl (by kernel_rfl) (Rc := []) (Rr := [SlRes 93 t21.Postings y24.1 y24.2]) rfl (own_flat (by kernel_rfl)) (fun y25 => [(12, .v (.slice y25.1 ([x1] : List Posting).length y25.2)), (11, .v (.agg #[.int .i64 x1.Month, .int .i64 x1.Debit, .int .i64 x1.Credit, .int .i64 x1.Cents])), (10, .v (.slice y24.1 t21.Postings.length y24.2)), (6, .p 3 0), (4, .p 2 0), (2, .p 0 0)]) (fun y25 => by kernel_rfl) (fun y25 => ?_)
  refine JO_res (R' := [SlRes 93 t21.Postings y24.1 y24.2, SlRes 93 ([x1] : List Posting) y25.1 y25.2]) [1, 0] (by kernel_rfl) ?_
  obtain ⟨l28, hm29, h30⟩ := bS h23
  refine JO_appendV (α := Posting) rfl (by kernel_rfl) (t := 79) (e := 93) (a1 := y24.1) (a2 := y25.1) (c1 := y24.2) (c2 := y25.2) (l1 := t21.Postings) (l2 := ([x1] : List Posting)) (by kernel_rfl) (i := Try.t93) (by kernel_rfl) (z := (.agg #[.int .i64 0, .int .i64 0, .int .i64 0, .int .i64 0])) (by kernel_rfl) (by kernel_rfl) (by kernel_rfl) (by kernel_rfl) (fun γ w hs => ⟨y25.2, (hs.view 1 rfl)⟩) (Rr := [SlRes 93 ([x1] : List Posting) y25.1 y25.2]) rfl hm29 (fun y27 => [(13, .v (.slice y27.1 l28.length y27.2)), (12, .v (.slice y25.1 ([x1] : List Posting).length y25.2)), (11, .v (.agg #[.int .i64 x1.Month, .int .i64 x1.Debit, .int .i64 x1.Credit, .int .i64 x1.Cents])), (10, .v (.slice y24.1 t21.Postings.length y24.2)), (6, .p 3 0), (4, .p 2 0), (2, .p 0 0)]) (fun y27 => by kernel_rfl) (fun y27 => ?_)
  refine JO_stepsK 2 [6, 4, 2] (sl' := [(6, .p 3 0), (4, .p 2 0), (2, .p 0 0)]) (bx' := [(81, [.slice a0_0 x0.Postings.length c0_0]), (93, [.int .i64 x1.Month, .int .i64 x1.Debit, .int .i64 x1.Credit, .int .i64 x1.Cents]), (81, [.slice none 0 0]), (81, [.slice y27.1 l28.length y27.2])]) (by kernel_rfl) ?_
  refine JO_end (by kernel_rfl) ?_
  refine JE_then ?_
  refine JC_seq ?_
  refine JC_seq ?_
  obtain ⟨p31, hE32, h33⟩ := bS h30
  refine JC_cut (τ := Unit) (fun _ => [(2, .p 0 0), (4, .p 2 0), (6, .p 3 0), (22, .v (.bool p31))]) (fun _ => [(81, [.slice a0_0 x0.Postings.length c0_0]), (93, [.int .i64 x1.Month, .int .i64 x1.Debit, .int .i64 x1.Credit, .int .i64 x1.Cents]), (81, [.slice none 0 0]), (81, [.slice y27.1 l28.length y27.2])]) (fun _ => [SlRes 93 l28 y27.1 y27.2]) ?_ (fun _ => ?_)
  · refine JC_region ?_
    refine JO_stepsK 1 [15, 6, 4, 2] (sl' := [(15, .v (.agg #[.slice a0_0 x0.Postings.length c0_0])), (6, .p 3 0), (4, .p 2 0), (2, .p 0 0)]) (bx' := [(81, [.slice a0_0 x0.Postings.length c0_0]), (93, [.int .i64 x1.Month, .int .i64 x1.Debit, .int .i64 x1.Credit, .int .i64 x1.Cents]), (81, [.slice none 0 0]), (81, [.slice y27.1 l28.length y27.2])]) (by kernel_rfl) ?_
    obtain ⟨t34, h35, h36⟩ := bS hE32
    refine JO_call0 rfl (by kernel_rfl) (f := 123) (args := #[.agg #[.slice a0_0 x0.Postings.length c0_0]]) (by kernel_rfl) (x := .bool t34) (fun γ w hs => (by have vv := c_spec_LedgerOk (W := w) h35 (hv0_0.kept hs.kept); exact vv)) (sl' := [(16, .v (.bool t34)), (15, .v (.agg #[.slice a0_0 x0.Postings.length c0_0])), (6, .p 3 0), (4, .p 2 0), (2, .p 0 0)]) (by kernel_rfl) ?_
    refine JO_stepsK 2 [18, 6, 4, 2] (sl' := [(18, .v (.bool (!t34))), (6, .p 3 0), (4, .p 2 0), (2, .p 0 0)]) (bx' := [(81, [.slice a0_0 x0.Postings.length c0_0]), (93, [.int .i64 x1.Month, .int .i64 x1.Debit, .int .i64 x1.Credit, .int .i64 x1.Cents]), (81, [.slice none 0 0]), (81, [.slice y27.1 l28.length y27.2])]) (by kernel_rfl) ?_
    refine JO_split 18 (!t34) (by kernel_rfl) (fun b38 => ?_) (fun b38 => ?_)
    · have h39 := cT b38 h36
      refine JO_stepsK 4 [22, 6, 4, 2] (sl' := [(22, .v (.bool true)), (6, .p 3 0), (4, .p 2 0), (2, .p 0 0)]) (bx' := [(81, [.slice a0_0 x0.Postings.length c0_0]), (93, [.int .i64 x1.Month, .int .i64 x1.Debit, .int .i64 x1.Credit, .int .i64 x1.Cents]), (81, [.slice none 0 0]), (81, [.slice y27.1 l28.length y27.2])]) (by kernel_rfl) ?_
      refine JO_end (by kernel_rfl) ?_
      obtain rfl := sI h39
      exact JE_meet () [2, 4, 6, 22] [0] 4 (by kernel_rfl) (by kernel_rfl) (by kernel_rfl) (by kernel_rfl)
    · have h40 := cF b38 h36
      refine JO_stepsK 1 [19, 18, 6, 4, 2] (sl' := [(19, .v (.agg #[.slice y27.1 l28.length y27.2])), (18, .v (.bool false)), (6, .p 3 0), (4, .p 2 0), (2, .p 0 0)]) (bx' := [(81, [.slice a0_0 x0.Postings.length c0_0]), (93, [.int .i64 x1.Month, .int .i64 x1.Debit, .int .i64 x1.Credit, .int .i64 x1.Cents]), (81, [.slice none 0 0]), (81, [.slice y27.1 l28.length y27.2])]) (by kernel_rfl) ?_
      obtain ⟨t41, h42, h43⟩ := bS h40
      refine JO_call0 rfl (by kernel_rfl) (f := 123) (args := #[.agg #[.slice y27.1 l28.length y27.2]]) (by kernel_rfl) (x := .bool t41) (fun γ w hs => (by have v0 := hs.view 0 rfl; have vv := c_spec_LedgerOk (W := w) h42 v0; exact vv)) (sl' := [(20, .v (.bool t41)), (19, .v (.agg #[.slice y27.1 l28.length y27.2])), (18, .v (.bool false)), (6, .p 3 0), (4, .p 2 0), (2, .p 0 0)]) (by kernel_rfl) ?_
      refine JO_stepsK 2 [22, 6, 4, 2] (sl' := [(22, .v (.bool (!t41))), (6, .p 3 0), (4, .p 2 0), (2, .p 0 0)]) (bx' := [(81, [.slice a0_0 x0.Postings.length c0_0]), (93, [.int .i64 x1.Month, .int .i64 x1.Debit, .int .i64 x1.Credit, .int .i64 x1.Cents]), (81, [.slice none 0 0]), (81, [.slice y27.1 l28.length y27.2])]) (by kernel_rfl) ?_
      refine JO_end (by kernel_rfl) ?_
      obtain rfl := sI h43
      exact JE_meet () [2, 4, 6, 22] [0] 4 (by kernel_rfl) (by kernel_rfl) (by kernel_rfl) (by kernel_rfl)
  · skip
    refine JE_then ?_
    refine JC_cond p31 (by kernel_rfl) (fun b45 => ?_) (fun b45 => ?_)
    · have h50 := cT b45 h33
      refine JC_seq ?_
      refine JC_region ?_
      refine JO_stepsK 1 [23, 4] (sl' := [(23, .v (.agg #[.slice a0_0 x0.Postings.length c0_0])), (4, .p 2 0)]) (bx' := [(81, [.slice a0_0 x0.Postings.length c0_0]), (93, [.int .i64 x1.Month, .int .i64 x1.Debit, .int .i64 x1.Credit, .int .i64 x1.Cents]), (81, [.slice none 0 0]), (81, [.slice y27.1 l28.length y27.2])]) (by kernel_rfl) ?_
      obtain ⟨t52, h53, h54⟩ := bS h50
      refine JO_call rfl (by kernel_rfl) (f := 122) (args := #[.agg #[.slice a0_0 x0.Postings.length c0_0]]) (by kernel_rfl) (fun γ w hs => (by have vv := c_spec_l28Copy (W := w) h53 (hv0_0.kept hs.kept); exact vv)) (fun (y55 : (Option Addr × Nat)) => [(24, .v (.agg #[.slice y55.1 t52.Postings.length y55.2])), (23, .v (.agg #[.slice a0_0 x0.Postings.length c0_0])), (4, .p 2 0)]) (fun y55 => by kernel_rfl) (fun y55 => ?_)
      refine JO_stepsK 2 [5, 4] (sl' := [(5, .v (.bool false)), (4, .p 2 0)]) (bx' := [(81, [.slice a0_0 x0.Postings.length c0_0]), (93, [.int .i64 x1.Month, .int .i64 x1.Debit, .int .i64 x1.Credit, .int .i64 x1.Cents]), (81, [.slice y55.1 t52.Postings.length y55.2]), (81, [.slice y27.1 l28.length y27.2])]) (by kernel_rfl) ?_
      refine JO_end (by kernel_rfl) ?_
      refine JE_then ?_
      refine JC_ret ?_
      refine JE_then_ret ?_
      refine JE_ret (vs := [.agg #[.slice y55.1 t52.Postings.length y55.2], .bool false]) (by kernel_rfl) (fun γ w hs => ?_)
      rw [← sI h54]
      exact ⟨(y55.1, y55.2), rfl, hs.kept.toBelow, (hs.takeR (is := [0]) rfl).fresh⟩
    · have h51 := cF b45 h33
      refine JC_skip ?_
      refine JE_then ?_
      refine JC_seq ?_
      refine JC_region ?_
      refine JO_stepsK 3 [5, 4] (sl' := [(5, .v (.bool true)), (4, .p 2 0)]) (bx' := [(81, [.slice a0_0 x0.Postings.length c0_0]), (93, [.int .i64 x1.Month, .int .i64 x1.Debit, .int .i64 x1.Credit, .int .i64 x1.Cents]), (81, [.slice y27.1 l28.length y27.2]), (81, [.slice y27.1 l28.length y27.2])]) (by kernel_rfl) ?_
      refine JO_end (by kernel_rfl) ?_
      refine JE_then ?_
      refine JC_ret ?_
      refine JE_ret (vs := [.agg #[.slice y27.1 l28.length y27.2], .bool true]) (by kernel_rfl) (fun γ w hs => ?_)
      rw [← sI h51]
      exact ⟨(y27.1, y27.2), rfl, hs.kept.toBelow, (hs.takeR (is := [0]) rfl).fresh⟩

theorem c_spec_PostOpen {W : World} {x0 : Books} {a0_0 : Option Addr} {c0_0 : Nat} {x1 : Posting} {r : Books × Bool} (h : spec_PostOpen x0 x1 = some r) (hv0_0 : SlView W x0.Ledger.Postings a0_0 c0_0) :
    Gives Try.prog 57 #[.agg #[.slice a0_0 x0.Ledger.Postings.length c0_0, .int .i64 x0.Closed], .agg #[.int .i64 x1.Month, .int .i64 x1.Debit, .int .i64 x1.Credit, .int .i64 x1.Cents]] W (fun y : (Option Addr × Nat) => .tuple #[.agg #[.slice y.1 r.1.Ledger.Postings.length y.2, .int .i64 r.1.Closed], .bool r.2]) (fun y => [SlRes 93 r.1.Ledger.Postings y.1 y.2]) := by
  unfold spec_PostOpen at h
  refine enter (args := [.agg #[.slice a0_0 x0.Ledger.Postings.length c0_0, .int .i64 x0.Closed], .agg #[.int .i64 x1.Month, .int .i64 x1.Debit, .int .i64 x1.Credit, .int .i64 x1.Cents]]) Try.func57 rfl Try.ntmps57 (by kernel_rfl) ?_
  refine JC_seq ?_
  refine JC_region ?_
  refine JO_stepsK 4 [4, 3, 2] (sl' := [(4, .p 2 0), (3, .p 1 0), (2, .p 0 0)]) (bx' := [(83, [.slice a0_0 x0.Ledger.Postings.length c0_0, .int .i64 x0.Closed]), (93, [.int .i64 x1.Month, .int .i64 x1.Debit, .int .i64 x1.Credit, .int .i64 x1.Cents]), (83, [.slice none 0 0, .int .i64 0])]) (by kernel_rfl) ?_
  refine JO_end (by kernel_rfl) ?_
  refine JE_then ?_
  refine JC_seq ?_
  refine JC_region ?_
  refine JO_stepsK 1 [9, 4, 3, 2] (sl' := [(9, .v (.agg #[.slice a0_0 x0.Ledger.Postings.length c0_0, .int .i64 x0.Closed])), (4, .p 2 0), (3, .p 1 0), (2, .p 0 0)]) (bx' := [(83, [.slice a0_0 x0.Ledger.Postings.length c0_0, .int .i64 x0.Closed]), (93, [.int .i64 x1.Month, .int .i64 x1.Debit, .int .i64 x1.Credit, .int .i64 x1.Cents]), (83, [.slice none 0 0, .int .i64 0])]) (by kernel_rfl) ?_
  obtain ⟨t21, h22, h23⟩ := bS h
  refine JO_call rfl (by kernel_rfl) (f := 91) (args := #[.agg #[.slice a0_0 x0.Ledger.Postings.length c0_0, .int .i64 x0.Closed]]) (by kernel_rfl) (fun γ w hs => (by have vv := c_spec_l29Copy (W := w) h22 (hv0_0.kept hs.kept); exact vv)) (fun (y24 : (Option Addr × Nat)) => [(10, .v (.agg #[.slice y24.1 t21.Ledger.Postings.length y24.2, .int .i64 t21.Closed])), (9, .v (.agg #[.slice a0_0 x0.Ledger.Postings.length c0_0, .int .i64 x0.Closed])), (4, .p 2 0), (3, .p 1 0), (2, .p 0 0)]) (fun y24 => by kernel_rfl) (fun y24 => ?_)
  refine JO_stepsK 2 [6, 4, 3, 2] (sl' := [(6, .p 3 0), (4, .p 2 0), (3, .p 1 0), (2, .p 0 0)]) (bx' := [(83, [.slice a0_0 x0.Ledger.Postings.length c0_0, .int .i64 x0.Closed]), (93, [.int .i64 x1.Month, .int .i64 x1.Debit, .int .i64 x1.Credit, .int .i64 x1.Cents]), (83, [.slice none 0 0, .int .i64 0]), (83, [.slice y24.1 t21.Ledger.Postings.length y24.2, .int .i64 t21.Closed])]) (by kernel_rfl) ?_
  refine JO_end (by kernel_rfl) ?_
  refine JE_then ?_
  refine JC_seq ?_
  refine JC_seq ?_
  obtain ⟨p25, hE26, h27⟩ := bS h23
  refine JC_cut (τ := Unit) (fun _ => [(2, .p 0 0), (3, .p 1 0), (4, .p 2 0), (6, .p 3 0), (20, .v (.bool p25))]) (fun _ => [(83, [.slice a0_0 x0.Ledger.Postings.length c0_0, .int .i64 x0.Closed]), (93, [.int .i64 x1.Month, .int .i64 x1.Debit, .int .i64 x1.Credit, .int .i64 x1.Cents]), (83, [.slice none 0 0, .int .i64 0]), (83, [.slice y24.1 t21.Ledger.Postings.length y24.2, .int .i64 t21.Closed])]) (fun _ => [SlRes 93 t21.Ledger.Postings y24.1 y24.2]) ?_ (fun _ => ?_)
  · refine JC_region ?_
    refine JO_stepsK 1 [11, 6, 4, 3, 2] (sl' := [(11, .v (.agg #[.slice a0_0 x0.Ledger.Postings.length c0_0, .int .i64 x0.Closed])), (6, .p 3 0), (4, .p 2 0), (3, .p 1 0), (2, .p 0 0)]) (bx' := [(83, [.slice a0_0 x0.Ledger.Postings.length c0_0, .int .i64 x0.Closed]), (93, [.int .i64 x1.Month, .int .i64 x1.Debit, .int .i64 x1.Credit, .int .i64 x1.Cents]), (83, [.slice none 0 0, .int .i64 0]), (83, [.slice y24.1 t21.Ledger.Postings.length y24.2, .int .i64 t21.Closed])]) (by kernel_rfl) ?_
    obtain ⟨t28, h29, h30⟩ := bS hE26
    refine JO_call0 rfl (by kernel_rfl) (f := 92) (args := #[.agg #[.slice a0_0 x0.Ledger.Postings.length c0_0, .int .i64 x0.Closed]]) (by kernel_rfl) (x := .bool t28) (fun γ w hs => (by have vv := c_spec_BooksOk (W := w) h29 (hv0_0.kept hs.kept); exact vv)) (sl' := [(12, .v (.bool t28)), (11, .v (.agg #[.slice a0_0 x0.Ledger.Postings.length c0_0, .int .i64 x0.Closed])), (6, .p 3 0), (4, .p 2 0), (3, .p 1 0), (2, .p 0 0)]) (by kernel_rfl) ?_
    refine JO_stepsK 2 [14, 6, 4, 3, 2] (sl' := [(14, .v (.bool (!t28))), (6, .p 3 0), (4, .p 2 0), (3, .p 1 0), (2, .p 0 0)]) (bx' := [(83, [.slice a0_0 x0.Ledger.Postings.length c0_0, .int .i64 x0.Closed]), (93, [.int .i64 x1.Month, .int .i64 x1.Debit, .int .i64 x1.Credit, .int .i64 x1.Cents]), (83, [.slice none 0 0, .int .i64 0]), (83, [.slice y24.1 t21.Ledger.Postings.length y24.2, .int .i64 t21.Closed])]) (by kernel_rfl) ?_
    refine JO_split 14 (!t28) (by kernel_rfl) (fun b32 => ?_) (fun b32 => ?_)
    · have h33 := cT b32 h30
      refine JO_stepsK 6 [20, 6, 4, 3, 2] (sl' := [(20, .v (.bool true)), (6, .p 3 0), (4, .p 2 0), (3, .p 1 0), (2, .p 0 0)]) (bx' := [(83, [.slice a0_0 x0.Ledger.Postings.length c0_0, .int .i64 x0.Closed]), (93, [.int .i64 x1.Month, .int .i64 x1.Debit, .int .i64 x1.Credit, .int .i64 x1.Cents]), (83, [.slice none 0 0, .int .i64 0]), (83, [.slice y24.1 t21.Ledger.Postings.length y24.2, .int .i64 t21.Closed])]) (by kernel_rfl) ?_
      refine JO_end (by kernel_rfl) ?_
      obtain rfl := sI h33
      exact JE_meet () [2, 3, 4, 6, 20] [0] 4 (by kernel_rfl) (by kernel_rfl) (by kernel_rfl) (by kernel_rfl)
    · have h34 := cF b32 h30
      refine JO_stepsK 6 [20, 6, 4, 3, 2] (sl' := [(20, .v (.bool (decide (x1.Month < x0.Closed)))), (6, .p 3 0), (4, .p 2 0), (3, .p 1 0), (2, .p 0 0)]) (bx' := [(83, [.slice a0_0 x0.Ledger.Postings.length c0_0, .int .i64 x0.Closed]), (93, [.int .i64 x1.Month, .int .i64 x1.Debit, .int .i64 x1.Credit, .int .i64 x1.Cents]), (83, [.slice none 0 0, .int .i64 0]), (83, [.slice y24.1 t21.Ledger.Postings.length y24.2, .int .i64 t21.Closed])]) (by kernel_rfl) ?_
      refine JO_end (by kernel_rfl) ?_
      obtain rfl := sI h34
      exact JE_meet () [2, 3, 4, 6, 20] [0] 4 (by kernel_rfl) (by kernel_rfl) (by kernel_rfl) (by kernel_rfl)
  · skip
    refine JE_then ?_
    refine JC_cond p25 (by kernel_rfl) (fun b35 => ?_) (fun b35 => ?_)
    · have h36 := cT b35 h27
      refine JC_seq ?_
      refine JC_region ?_
      refine JO_stepsK 3 [5, 4] (sl' := [(5, .v (.bool false)), (4, .p 2 0)]) (bx' := [(83, [.slice a0_0 x0.Ledger.Postings.length c0_0, .int .i64 x0.Closed]), (93, [.int .i64 x1.Month, .int .i64 x1.Debit, .int .i64 x1.Credit, .int .i64 x1.Cents]), (83, [.slice y24.1 t21.Ledger.Postings.length y24.2, .int .i64 t21.Closed]), (83, [.slice y24.1 t21.Ledger.Postings.length y24.2, .int .i64 t21.Closed])]) (by kernel_rfl) ?_
      refine JO_end (by kernel_rfl) ?_
      refine JE_then ?_
      refine JC_ret ?_
      refine JE_then_ret ?_
      refine JE_ret (vs := [.agg #[.slice y24.1 t21.Ledger.Postings.length y24.2, .int .i64 t21.Closed], .bool false]) (by kernel_rfl) (fun γ w hs => ?_)
      rw [← sI h36]
      exact ⟨(y24.1, y24.2), rfl, hs.kept.toBelow, (hs.takeR (is := [0]) rfl).fresh⟩
    · have h37 := cF b35 h27
      refine JC_skip ?_
      refine JE_then ?_
      refine JC_seq ?_
      refine JC_region ?_
      refine JO_stepsK 3 [25, 24, 4, 6] (sl' := [(25, .v (.agg #[.int .i64 x1.Month, .int .i64 x1.Debit, .int .i64 x1.Credit, .int .i64 x1.Cents])), (24, .v (.agg #[.slice a0_0 x0.Ledger.Postings.length c0_0])), (4, .p 2 0), (6, .p 3 0)]) (bx' := [(83, [.slice a0_0 x0.Ledger.Postings.length c0_0, .int .i64 x0.Closed]), (93, [.int .i64 x1.Month, .int .i64 x1.Debit, .int .i64 x1.Credit, .int .i64 x1.Cents]), (83, [.slice none 0 0, .int .i64 0]), (83, [.slice y24.1 t21.Ledger.Postings.length y24.2, .int .i64 t21.Closed])]) (by kernel_rfl) ?_
      obtain ⟨t38, h39, h40⟩ := bS h37
      refine JO_call rfl (by kernel_rfl) (f := 101) (args := #[.agg #[.slice a0_0 x0.Ledger.Postings.length c0_0], .agg #[.int .i64 x1.Month, .int .i64 x1.Debit, .int .i64 x1.Credit, .int .i64 x1.Cents]]) (by kernel_rfl) (fun γ w hs => (by have vv := c_spec_Post (W := w) h39 (hv0_0.kept hs.kept); exact vv)) (fun (y41 : (Option Addr × Nat)) => [(26, .v (.tuple #[.agg #[.slice y41.1 t38.1.Postings.length y41.2], .bool t38.2])), (25, .v (.agg #[.int .i64 x1.Month, .int .i64 x1.Debit, .int .i64 x1.Credit, .int .i64 x1.Cents])), (24, .v (.agg #[.slice a0_0 x0.Ledger.Postings.length c0_0])), (4, .p 2 0), (6, .p 3 0)]) (fun y41 => by kernel_rfl) (fun y41 => ?_)
      refine JO_stepsK 6 [8, 7, 4, 6] (sl' := [(8, .v (.bool t38.2)), (7, .p 4 0), (4, .p 2 0), (6, .p 3 0)]) (bx' := [(83, [.slice a0_0 x0.Ledger.Postings.length c0_0, .int .i64 x0.Closed]), (93, [.int .i64 x1.Month, .int .i64 x1.Debit, .int .i64 x1.Credit, .int .i64 x1.Cents]), (83, [.slice none 0 0, .int .i64 0]), (83, [.slice y24.1 t21.Ledger.Postings.length y24.2, .int .i64 t21.Closed]), (81, [.slice y41.1 t38.1.Postings.length y41.2])]) (by kernel_rfl) ?_
      refine JO_end (by kernel_rfl) ?_
      refine JE_then ?_
      refine JC_seq ?_
      refine JC_region ?_
      refine JO_stepsK 3 [8, 4, 6] (sl' := [(8, .v (.bool t38.2)), (4, .p 2 0), (6, .p 3 0)]) (bx' := [(83, [.slice a0_0 x0.Ledger.Postings.length c0_0, .int .i64 x0.Closed]), (93, [.int .i64 x1.Month, .int .i64 x1.Debit, .int .i64 x1.Credit, .int .i64 x1.Cents]), (83, [.slice none 0 0, .int .i64 0]), (83, [.slice y41.1 t38.1.Postings.length y41.2, .int .i64 t21.Closed]), (81, [.slice y41.1 t38.1.Postings.length y41.2])]) (by kernel_rfl) ?_
      refine JO_end (by kernel_rfl) ?_
      refine JE_then ?_
      refine JC_seq ?_
      refine JC_region ?_
      refine JO_stepsK 4 [5, 4] (sl' := [(5, .v (.bool t38.2)), (4, .p 2 0)]) (bx' := [(83, [.slice a0_0 x0.Ledger.Postings.length c0_0, .int .i64 x0.Closed]), (93, [.int .i64 x1.Month, .int .i64 x1.Debit, .int .i64 x1.Credit, .int .i64 x1.Cents]), (83, [.slice y41.1 t38.1.Postings.length y41.2, .int .i64 t21.Closed]), (83, [.slice y41.1 t38.1.Postings.length y41.2, .int .i64 t21.Closed]), (81, [.slice y41.1 t38.1.Postings.length y41.2])]) (by kernel_rfl) ?_
      refine JO_end (by kernel_rfl) ?_
      refine JE_then ?_
      refine JC_ret ?_
      refine JE_ret (vs := [.agg #[.slice y41.1 t38.1.Postings.length y41.2, .int .i64 t21.Closed], .bool t38.2]) (by kernel_rfl) (fun γ w hs => ?_)
      rw [← sI h40]
      exact ⟨(y41.1, y41.2), rfl, hs.kept.toBelow, (hs.takeR (is := [0]) rfl).fresh⟩
end Go.Pen
