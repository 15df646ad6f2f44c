/-
  Each Go function does what its plain function says: written by a program of ours.
-/
import Derived.Test.YtdmclmbdghcacaaW3
import Derived.Test.YtdmclmbdghcacaaProg
namespace Go.Pen
open Go.Proofs
set_option linter.unusedVariables false
set_option maxRecDepth 100000
set_option maxHeartbeats 1000000

theorem c_impl_Post {W : World} {x0 : Ledger} {a0_0 : Option Addr} {c0_0 : Nat} {x1 : Posting} {r : Ledger × Bool} (h : impl_Post x0 x1 = some r) (hv0_0 : SlView W x0.Postings a0_0 c0_0) :
    Gives Try.prog 102 #[.agg #[.slice a0_0 x0.Postings.length c0_0], .agg #[.int .i64 x1.Month, .int .i64 x1.Debit, .int .i64 x1.Credit, .int .i64 x1.Cents]] W (fun y : (Option Addr × Nat) => .tuple #[.agg #[.slice y.1 r.1.Postings.length y.2], .bool r.2]) (fun y => [SlRes 93 r.1.Postings y.1 y.2]) := by
  unfold impl_Post at h
  refine enter (args := [.agg #[.slice a0_0 x0.Postings.length c0_0], .agg #[.int .i64 x1.Month, .int .i64 x1.Debit, .int .i64 x1.Credit, .int .i64 x1.Cents]]) Try.func102 rfl Try.ntmps102 (by kernel_rfl) ?_
  refine JC_seq ?_
  refine JC_region ?_
  refine JO_stepsK 4 [4, 3, 2] (sl' := [(4, .p 2 0), (3, .p 1 0), (2, .p 0 0)]) (bx' := [(81, [.slice a0_0 x0.Postings.length c0_0]), (93, [.int .i64 x1.Month, .int .i64 x1.Debit, .int .i64 x1.Credit, .int .i64 x1.Cents]), (81, [.slice none 0 0])]) (by kernel_rfl) ?_
  refine JO_end (by kernel_rfl) ?_
  refine JE_then ?_
  refine JC_seq ?_
  obtain ⟨t21, h22, h23⟩ := bS h
  obtain ⟨l27, hm28, h29⟩ := bS h23
  refine JC_cut (τ := ((Option Addr × Nat))) (fun y30 => [(6, .p 3 0), (4, .p 2 0), (2, .p 0 0)]) (fun y30 => [(81, [.slice a0_0 x0.Postings.length c0_0]), (93, [.int .i64 x1.Month, .int .i64 x1.Debit, .int .i64 x1.Credit, .int .i64 x1.Cents]), (81, [.slice none 0 0]), (81, [.slice y30.1 l27.length y30.2])]) (fun y30 => [SlRes 93 l27 y30.1 y30.2]) ?_ (fun y30 => ?_)
  · refine JC_weak [4, 3, 2] [] 3 (sl' := [(4, .p 2 0), (3, .p 1 0), (2, .p 0 0)]) (bx' := [(81, [.slice a0_0 x0.Postings.length c0_0]), (93, [.int .i64 x1.Month, .int .i64 x1.Debit, .int .i64 x1.Credit, .int .i64 x1.Cents]), (81, [.slice none 0 0])]) (R' := []) (by kernel_rfl) (by kernel_rfl) (by kernel_rfl) (by kernel_rfl) ?_
    refine JC_heldN (ks := [0, 1, 2]) (Rk := []) 9 (by kernel_rfl) (by kernel_rfl) ?_
    refine JH_take (fuel := 8) 0 (v := .p 0 0) [] rfl (by kernel_rfl) (by kernel_rfl) (by kernel_rfl) meet_nopanic (by kernel_rfl) (by kernel_rfl) (by kernel_rfl) (by kernel_rfl) (by simp [SV.inb]) (evQ_held (by kernel_rfl) (by kernel_rfl)) (sl' := [(7, .p 0 0), (4, .p 2 0), (3, .p 1 0), (2, .p 0 0)]) (by kernel_rfl) ?_
    refine JH_take (fuel := 7) 1 (v := .v (.slice a0_0 x0.Postings.length c0_0)) [] rfl (by kernel_rfl) (by kernel_rfl) (by kernel_rfl) meet_nopanic (by kernel_rfl) (by kernel_rfl) (by kernel_rfl) (by kernel_rfl) trivial (evQ_held (by kernel_rfl) (by kernel_rfl)) (sl' := [(8, .v (.slice a0_0 x0.Postings.length c0_0)), (7, .p 0 0), (4, .p 2 0), (3, .p 1 0), (2, .p 0 0)]) (by kernel_rfl) ?_
    refine JH_keep [8, 4, 3, 2] (sl' := [(8, .v (.slice a0_0 x0.Postings.length c0_0)), (4, .p 2 0), (3, .p 1 0), (2, .p 0 0)]) (by kernel_rfl) ?_
    refine JH_take (fuel := 6) 3 (v := .v (.agg #[.int .i64 x1.Month, .int .i64 x1.Debit, .int .i64 x1.Credit, .int .i64 x1.Cents])) [] rfl (by kernel_rfl) (by kernel_rfl) (by kernel_rfl) meet_nopanic (by kernel_rfl) (by kernel_rfl) (by kernel_rfl) (by kernel_rfl) trivial (evQ_held (by kernel_rfl) (by kernel_rfl)) (sl' := [(10, .v (.agg #[.int .i64 x1.Month, .int .i64 x1.Debit, .int .i64 x1.Credit, .int .i64 x1.Cents])), (8, .v (.slice a0_0 x0.Postings.length c0_0)), (4, .p 2 0), (3, .p 1 0), (2, .p 0 0)]) (by kernel_rfl) ?_
    refine JH_keep [10, 8, 4, 2] (sl' := [(10, .v (.agg #[.int .i64 x1.Month, .int .i64 x1.Debit, .int .i64 x1.Credit, .int .i64 x1.Cents])), (8, .v (.slice a0_0 x0.Postings.length c0_0)), (4, .p 2 0), (2, .p 0 0)]) (by kernel_rfl) ?_
    refine JH_all (fuel := 5) [2, 4, 7] (by kernel_rfl) (by simp) (List.forall_mem_cons.2 ⟨?_, (List.forall_mem_cons.2 ⟨?_, (List.forall_mem_cons.2 ⟨?_, fun _ h => by cases h⟩)⟩)⟩)
    · refine JHi_of rfl (fun γ0 δ hm => ?_)
      refine JG_call (by kernel_rfl) (f := 130) (args := #[.slice a0_0 x0.Postings.length c0_0]) (by kernel_rfl) (fun w hs => (by have vv := c_slices_Clone_Posting (W := w) h22 (hv0_0.kept hs.kept); exact vv)) (fun (y24 : (Option Addr × Nat)) => [(9, .v (.slice y24.1 t21.length y24.2)), (10, .v (.agg #[.int .i64 x1.Month, .int .i64 x1.Debit, .int .i64 x1.Credit, .int .i64 x1.Cents])), (8, .v (.slice a0_0 x0.Postings.length c0_0)), (4, .p 2 0), (2, .p 0 0)]) (fun y24 => by kernel_rfl) (fun y24 => ?_)
      refine KG_next hm [9, 10, 4, 2] [] (sl' := [(9, .v (.slice y24.1 t21.length y24.2)), (10, .v (.agg #[.int .i64 x1.Month, .int .i64 x1.Debit, .int .i64 x1.Credit, .int .i64 x1.Cents])), (4, .p 2 0), (2, .p 0 0)]) (by kernel_rfl) (by kernel_rfl) (by kernel_rfl) (by kernel_rfl) ?_
      refine JH_all (fuel := 4) [4, 7] (by kernel_rfl) (by simp) (List.forall_mem_cons.2 ⟨?_, (List.forall_mem_cons.2 ⟨?_, fun _ h => by cases h⟩)⟩)
      · refine JHi_of rfl (fun γ0 δ hm => ?_)
        refine JG_bslice (by kernel_rfl) (e := 93) (len := 1) (cs := [.int .i64 x1.Month, .int .i64 x1.Debit, .int .i64 x1.Credit, .int .i64 x1.Cents]) (by kernel_rfl) (xs := ([x1] : List Posting)) rfl (by kernel_rfl) (Rc := []) (Rr := [SlRes 93 t21 y24.1 y24.2]) rfl (own_flat (by kernel_rfl)) (fun y25 => [(11, .v (.slice y25.1 ([x1] : List Posting).length y25.2)), (9, .v (.slice y24.1 t21.length y24.2)), (10, .v (.agg #[.int .i64 x1.Month, .int .i64 x1.Debit, .int .i64 x1.Credit, .int .i64 x1.Cents])), (4, .p 2 0), (2, .p 0 0)]) (fun y25 => by kernel_rfl) (fun y25 => ?_)
        refine KG_next hm [11, 9, 4, 2] [] (sl' := [(11, .v (.slice y25.1 ([x1] : List Posting).length y25.2)), (9, .v (.slice y24.1 t21.length y24.2)), (4, .p 2 0), (2, .p 0 0)]) (by kernel_rfl) (by kernel_rfl) (by kernel_rfl) (by kernel_rfl) ?_
        refine JH_all (fuel := 3) [5, 7] (by kernel_rfl) (by simp) (List.forall_mem_cons.2 ⟨?_, (List.forall_mem_cons.2 ⟨?_, fun _ h => by cases h⟩)⟩)
        · refine JHi_res (R' := [SlRes 93 t21 y24.1 y24.2, SlRes 93 ([x1] : List Posting) y25.1 y25.2]) [1, 0] (by kernel_rfl) ?_
          refine JHi_of rfl (fun γ0 δ hm => ?_)
          refine JG_appendV (α := Posting) (by kernel_rfl) (t := 79) (e := 93) (a1 := y24.1) (a2 := y25.1) (c1 := y24.2) (c2 := y25.2) (l1 := t21) (l2 := ([x1] : List Posting)) (by kernel_rfl) (i := Try.t93) (by kernel_rfl) (z := (.agg #[.int .i64 0, .int .i64 0, .int .i64 0, .int .i64 0])) (by kernel_rfl) (by kernel_rfl) (by kernel_rfl) (by kernel_rfl) (fun w hs => ⟨y25.2, (hs.view 1 rfl)⟩) (Rr := [SlRes 93 ([x1] : List Posting) y25.1 y25.2]) rfl hm28 (fun y26 => [(12, .v (.slice y26.1 l27.length y26.2)), (11, .v (.slice y25.1 ([x1] : List Posting).length y25.2)), (9, .v (.slice y24.1 t21.length y24.2)), (4, .p 2 0), (2, .p 0 0)]) (fun y26 => by kernel_rfl) (fun y26 => ?_)
          refine KG_next hm [12, 4, 2] [] (sl' := [(12, .v (.slice y26.1 l27.length y26.2)), (4, .p 2 0), (2, .p 0 0)]) (by kernel_rfl) (by kernel_rfl) (by kernel_rfl) (by kernel_rfl) ?_
          refine JH_take (fuel := 2) 6 (v := .v (.agg #[.slice y26.1 l27.length y26.2])) [] rfl (by kernel_rfl) (by kernel_rfl) (by kernel_rfl) meet_nopanic (by kernel_rfl) (by kernel_rfl) (by kernel_rfl) (by kernel_rfl) trivial (evQ_held (by kernel_rfl) (by kernel_rfl)) (sl' := [(13, .v (.agg #[.slice y26.1 l27.length y26.2])), (12, .v (.slice y26.1 l27.length y26.2)), (4, .p 2 0), (2, .p 0 0)]) (by kernel_rfl) ?_
          refine JH_keep [13, 4, 2] (sl' := [(13, .v (.agg #[.slice y26.1 l27.length y26.2])), (4, .p 2 0), (2, .p 0 0)]) (by kernel_rfl) ?_
          refine JH_all (fuel := 1) [7] (by kernel_rfl) (by simp) (List.forall_mem_cons.2 ⟨?_, fun _ h => by cases h⟩)
          refine JHi_of rfl (fun γ0 δ hm => ?_)
          refine JG_step (sl' := [(6, .p 3 0), (13, .v (.agg #[.slice y26.1 l27.length y26.2])), (4, .p 2 0), (2, .p 0 0)]) (bx' := [(81, [.slice a0_0 x0.Postings.length c0_0]), (93, [.int .i64 x1.Month, .int .i64 x1.Debit, .int .i64 x1.Credit, .int .i64 x1.Cents]), (81, [.slice none 0 0]), (81, [.slice none 0 0])]) (by kernel_rfl) (fun δ2 => ?_)
          refine KG_nextD hm [6, 13, 4, 2] [] (sl' := [(6, .p 3 0), (13, .v (.agg #[.slice y26.1 l27.length y26.2])), (4, .p 2 0), (2, .p 0 0)]) (by kernel_rfl) (by kernel_rfl) (by kernel_rfl) (by kernel_rfl) ?_
          refine JH_all (fuel := 0) [8] (by kernel_rfl) (by simp) (List.forall_mem_cons.2 ⟨?_, fun _ h => by cases h⟩)
          refine JHi_of rfl (fun γ0 δ hm => ?_)
          refine JG_step (sl' := [(6, .p 3 0), (13, .v (.agg #[.slice y26.1 l27.length y26.2])), (4, .p 2 0), (2, .p 0 0)]) (bx' := [(81, [.slice a0_0 x0.Postings.length c0_0]), (93, [.int .i64 x1.Month, .int .i64 x1.Debit, .int .i64 x1.Credit, .int .i64 x1.Cents]), (81, [.slice none 0 0]), (81, [.slice y26.1 l27.length y26.2])]) (by kernel_rfl) (fun δ2 => ?_)
          refine KG_nextD hm [6, 4, 2] [] (sl' := [(6, .p 3 0), (4, .p 2 0), (2, .p 0 0)]) (by kernel_rfl) (by kernel_rfl) (by kernel_rfl) (by kernel_rfl) ?_
          exact JH_done (by kernel_rfl) y26 [6, 4, 2] [0] 4 (by kernel_rfl) (by kernel_rfl) (by kernel_rfl) (by kernel_rfl)
        · refine JHi_of rfl (fun γ0 δ hm => ?_)
          refine JG_step (sl' := [(6, .p 3 0), (11, .v (.slice y25.1 ([x1] : List Posting).length y25.2)), (9, .v (.slice y24.1 t21.length y24.2)), (4, .p 2 0), (2, .p 0 0)]) (bx' := [(81, [.slice a0_0 x0.Postings.length c0_0]), (93, [.int .i64 x1.Month, .int .i64 x1.Debit, .int .i64 x1.Credit, .int .i64 x1.Cents]), (81, [.slice none 0 0]), (81, [.slice none 0 0])]) (by kernel_rfl) (fun δ2 => ?_)
          refine KG_nextD hm [6, 11, 9, 4, 2] [] (sl' := [(6, .p 3 0), (11, .v (.slice y25.1 ([x1] : List Posting).length y25.2)), (9, .v (.slice y24.1 t21.length y24.2)), (4, .p 2 0), (2, .p 0 0)]) (by kernel_rfl) (by kernel_rfl) (by kernel_rfl) (by kernel_rfl) ?_
          refine JH_all (fuel := 2) [5] (by kernel_rfl) (by simp) (List.forall_mem_cons.2 ⟨?_, fun _ h => by cases h⟩)
          refine JHi_res (R' := [SlRes 93 t21 y24.1 y24.2, SlRes 93 ([x1] : List Posting) y25.1 y25.2]) [1, 0] (by kernel_rfl) ?_
          refine JHi_of rfl (fun γ0 δ hm => ?_)
          refine JG_appendV (α := Posting) (by kernel_rfl) (t := 79) (e := 93) (a1 := y24.1) (a2 := y25.1) (c1 := y24.2) (c2 := y25.2) (l1 := t21) (l2 := ([x1] : List Posting)) (by kernel_rfl) (i := Try.t93) (by kernel_rfl) (z := (.agg #[.int .i64 0, .int .i64 0, .int .i64 0, .int .i64 0])) (by kernel_rfl) (by kernel_rfl) (by kernel_rfl) (by kernel_rfl) (fun w hs => ⟨y25.2, (hs.view 1 rfl)⟩) (Rr := [SlRes 93 ([x1] : List Posting) y25.1 y25.2]) rfl hm28 (fun y26 => [(12, .v (.slice y26.1 l27.length y26.2)), (6, .p 3 0), (11, .v (.slice y25.1 ([x1] : List Posting).length y25.2)), (9, .v (.slice y24.1 t21.length y24.2)), (4, .p 2 0), (2, .p 0 0)]) (fun y26 => by kernel_rfl) (fun y26 => ?_)
          refine KG_next hm [12, 6, 4, 2] [] (sl' := [(12, .v (.slice y26.1 l27.length y26.2)), (6, .p 3 0), (4, .p 2 0), (2, .p 0 0)]) (by kernel_rfl) (by kernel_rfl) (by kernel_rfl) (by kernel_rfl) ?_
          refine JH_take (fuel := 1) 6 (v := .v (.agg #[.slice y26.1 l27.length y26.2])) [] rfl (by kernel_rfl) (by kernel_rfl) (by kernel_rfl) meet_nopanic (by kernel_rfl) (by kernel_rfl) (by kernel_rfl) (by kernel_rfl) trivial (evQ_held (by kernel_rfl) (by kernel_rfl)) (sl' := [(13, .v (.agg #[.slice y26.1 l27.length y26.2])), (12, .v (.slice y26.1 l27.length y26.2)), (6, .p 3 0), (4, .p 2 0), (2, .p 0 0)]) (by kernel_rfl) ?_
          refine JH_keep [13, 6, 4, 2] (sl' := [(13, .v (.agg #[.slice y26.1 l27.length y26.2])), (6, .p 3 0), (4, .p 2 0), (2, .p 0 0)]) (by kernel_rfl) ?_
          refine JH_all (fuel := 0) [8] (by kernel_rfl) (by simp) (List.forall_mem_cons.2 ⟨?_, fun _ h => by cases h⟩)
          refine JHi_of rfl (fun γ0 δ hm => ?_)
          refine JG_step (sl' := [(13, .v (.agg #[.slice y26.1 l27.length y26.2])), (6, .p 3 0), (4, .p 2 0), (2, .p 0 0)]) (bx' := [(81, [.slice a0_0 x0.Postings.length c0_0]), (93, [.int .i64 x1.Month, .int .i64 x1.Debit, .int .i64 x1.Credit, .int .i64 x1.Cents]), (81, [.slice none 0 0]), (81, [.slice y26.1 l27.length y26.2])]) (by kernel_rfl) (fun δ2 => ?_)
          refine KG_nextD hm [6, 4, 2] [] (sl' := [(6, .p 3 0), (4, .p 2 0), (2, .p 0 0)]) (by kernel_rfl) (by kernel_rfl) (by kernel_rfl) (by kernel_rfl) ?_
          exact JH_done (by kernel_rfl) y26 [6, 4, 2] [0] 4 (by kernel_rfl) (by kernel_rfl) (by kernel_rfl) (by kernel_rfl)
      · refine JHi_of rfl (fun γ0 δ hm => ?_)
        refine JG_step (sl' := [(6, .p 3 0), (9, .v (.slice y24.1 t21.length y24.2)), (10, .v (.agg #[.int .i64 x1.Month, .int .i64 x1.Debit, .int .i64 x1.Credit, .int .i64 x1.Cents])), (4, .p 2 0), (2, .p 0 0)]) (bx' := [(81, [.slice a0_0 x0.Postings.length c0_0]), (93, [.int .i64 x1.Month, .int .i64 x1.Debit, .int .i64 x1.Credit, .int .i64 x1.Cents]), (81, [.slice none 0 0]), (81, [.slice none 0 0])]) (by kernel_rfl) (fun δ2 => ?_)
        refine KG_nextD hm [6, 9, 10, 4, 2] [] (sl' := [(6, .p 3 0), (9, .v (.slice y24.1 t21.length y24.2)), (10, .v (.agg #[.int .i64 x1.Month, .int .i64 x1.Debit, .int .i64 x1.Credit, .int .i64 x1.Cents])), (4, .p 2 0), (2, .p 0 0)]) (by kernel_rfl) (by kernel_rfl) (by kernel_rfl) (by kernel_rfl) ?_
        refine JH_all (fuel := 3) [4] (by kernel_rfl) (by simp) (List.forall_mem_cons.2 ⟨?_, fun _ h => by cases h⟩)
        refine JHi_of rfl (fun γ0 δ hm => ?_)
        refine JG_bslice (by kernel_rfl) (e := 93) (len := 1) (cs := [.int .i64 x1.Month, .int .i64 x1.Debit, .int .i64 x1.Credit, .int .i64 x1.Cents]) (by kernel_rfl) (xs := ([x1] : List Posting)) rfl (by kernel_rfl) (Rc := []) (Rr := [SlRes 93 t21 y24.1 y24.2]) rfl (own_flat (by kernel_rfl)) (fun y25 => [(11, .v (.slice y25.1 ([x1] : List Posting).length y25.2)), (6, .p 3 0), (9, .v (.slice y24.1 t21.length y24.2)), (10, .v (.agg #[.int .i64 x1.Month, .int .i64 x1.Debit, .int .i64 x1.Credit, .int .i64 x1.Cents])), (4, .p 2 0), (2, .p 0 0)]) (fun y25 => by kernel_rfl) (fun y25 => ?_)
        refine KG_next hm [11, 6, 9, 4, 2] [] (sl' := [(11, .v (.slice y25.1 ([x1] : List Posting).length y25.2)), (6, .p 3 0), (9, .v (.slice y24.1 t21.length y24.2)), (4, .p 2 0), (2, .p 0 0)]) (by kernel_rfl) (by kernel_rfl) (by kernel_rfl) (by kernel_rfl) ?_
        refine JH_all (fuel := 2) [5] (by kernel_rfl) (by simp) (List.forall_mem_cons.2 ⟨?_, fun _ h => by cases h⟩)
        refine JHi_res (R' := [SlRes 93 t21 y24.1 y24.2, SlRes 93 ([x1] : List Posting) y25.1 y25.2]) [1, 0] (by kernel_rfl) ?_
        refine JHi_of rfl (fun γ0 δ hm => ?_)
        refine JG_appendV (α := Posting) (by kernel_rfl) (t := 79) (e := 93) (a1 := y24.1) (a2 := y25.1) (c1 := y24.2) (c2 := y25.2) (l1 := t21) (l2 := ([x1] : List Posting)) (by kernel_rfl) (i := Try.t93) (by kernel_rfl) (z := (.agg #[.int .i64 0, .int .i64 0, .int .i64 0, .int .i64 0])) (by kernel_rfl) (by kernel_rfl) (by kernel_rfl) (by kernel_rfl) (fun w hs => ⟨y25.2, (hs.view 1 rfl)⟩) (Rr := [SlRes 93 ([x1] : List Posting) y25.1 y25.2]) rfl hm28 (fun y26 => [(12, .v (.slice y26.1 l27.length y26.2)), (11, .v (.slice y25.1 ([x1] : List Posting).length y25.2)), (6, .p 3 0), (9, .v (.slice y24.1 t21.length y24.2)), (4, .p 2 0), (2, .p 0 0)]) (fun y26 => by kernel_rfl) (fun y26 => ?_)
        refine KG_next hm [12, 6, 4, 2] [] (sl' := [(12, .v (.slice y26.1 l27.length y26.2)), (6, .p 3 0), (4, .p 2 0), (2, .p 0 0)]) (by kernel_rfl) (by kernel_rfl) (by kernel_rfl) (by kernel_rfl) ?_
        refine JH_take (fuel := 1) 6 (v := .v (.agg #[.slice y26.1 l27.length y26.2])) [] rfl (by kernel_rfl) (by kernel_rfl) (by kernel_rfl) meet_nopanic (by kernel_rfl) (by kernel_rfl) (by kernel_rfl) (by kernel_rfl) trivial (evQ_held (by kernel_rfl) (by kernel_rfl)) (sl' := [(13, .v (.agg #[.slice y26.1 l27.length y26.2])), (12, .v (.slice y26.1 l27.length y26.2)), (6, .p 3 0), (4, .p 2 0), (2, .p 0 0)]) (by kernel_rfl) ?_
        refine JH_keep [13, 6, 4, 2] (sl' := [(13, .v (.agg #[.slice y26.1 l27.length y26.2])), (6, .p 3 0), (4, .p 2 0), (2, .p 0 0)]) (by kernel_rfl) ?_
        refine JH_all (fuel := 0) [8] (by kernel_rfl) (by simp) (List.forall_mem_cons.2 ⟨?_, fun _ h => by cases h⟩)
        refine JHi_of rfl (fun γ0 δ hm => ?_)
        refine JG_step (sl' := [(13, .v (.agg #[.slice y26.1 l27.length y26.2])), (6, .p 3 0), (4, .p 2 0), (2, .p 0 0)]) (bx' := [(81, [.slice a0_0 x0.Postings.length c0_0]), (93, [.int .i64 x1.Month, .int .i64 x1.Debit, .int .i64 x1.Credit, .int .i64 x1.Cents]), (81, [.slice none 0 0]), (81, [.slice y26.1 l27.length y26.2])]) (by kernel_rfl) (fun δ2 => ?_)
        refine KG_nextD hm [6, 4, 2] [] (sl' := [(6, .p 3 0), (4, .p 2 0), (2, .p 0 0)]) (by kernel_rfl) (by kernel_rfl) (by kernel_rfl) (by kernel_rfl) ?_
        exact JH_done (by kernel_rfl) y26 [6, 4, 2] [0] 4 (by kernel_rfl) (by kernel_rfl) (by kernel_rfl) (by kernel_rfl)
    · refine JHi_of rfl (fun γ0 δ hm => ?_)
      refine JG_bslice (by kernel_rfl) (e := 93) (len := 1) (cs := [.int .i64 x1.Month, .int .i64 x1.Debit, .int .i64 x1.Credit, .int .i64 x1.Cents]) (by kernel_rfl) (xs := ([x1] : List Posting)) rfl (by kernel_rfl) (Rc := []) (Rr := []) rfl (own_flat (by kernel_rfl)) (fun y25 => [(11, .v (.slice y25.1 ([x1] : List Posting).length y25.2)), (10, .v (.agg #[.int .i64 x1.Month, .int .i64 x1.Debit, .int .i64 x1.Credit, .int .i64 x1.Cents])), (8, .v (.slice a0_0 x0.Postings.length c0_0)), (4, .p 2 0), (2, .p 0 0)]) (fun y25 => by kernel_rfl) (fun y25 => ?_)
      refine KG_next hm [11, 8, 4, 2] [] (sl' := [(11, .v (.slice y25.1 ([x1] : List Posting).length y25.2)), (8, .v (.slice a0_0 x0.Postings.length c0_0)), (4, .p 2 0), (2, .p 0 0)]) (by kernel_rfl) (by kernel_rfl) (by kernel_rfl) (by kernel_rfl) ?_
      refine JH_all (fuel := 4) [2, 7] (by kernel_rfl) (by simp) (List.forall_mem_cons.2 ⟨?_, (List.forall_mem_cons.2 ⟨?_, fun _ h => by cases h⟩)⟩)
      · refine JHi_of rfl (fun γ0 δ hm => ?_)
        refine JG_call (by kernel_rfl) (f := 130) (args := #[.slice a0_0 x0.Postings.length c0_0]) (by kernel_rfl) (fun w hs => (by have vv := c_slices_Clone_Posting (W := w) h22 (hv0_0.kept hs.kept); exact vv)) (fun (y24 : (Option Addr × Nat)) => [(9, .v (.slice y24.1 t21.length y24.2)), (11, .v (.slice y25.1 ([x1] : List Posting).length y25.2)), (8, .v (.slice a0_0 x0.Postings.length c0_0)), (4, .p 2 0), (2, .p 0 0)]) (fun y24 => by kernel_rfl) (fun y24 => ?_)
        refine KG_next hm [9, 11, 4, 2] [] (sl' := [(9, .v (.slice y24.1 t21.length y24.2)), (11, .v (.slice y25.1 ([x1] : List Posting).length y25.2)), (4, .p 2 0), (2, .p 0 0)]) (by kernel_rfl) (by kernel_rfl) (by kernel_rfl) (by kernel_rfl) ?_
        refine JH_all (fuel := 3) [5, 7] (by kernel_rfl) (by simp) (List.forall_mem_cons.2 ⟨?_, (List.forall_mem_cons.2 ⟨?_, fun _ h => by cases h⟩)⟩)
        · refine JHi_of rfl (fun γ0 δ hm => ?_)
          refine JG_appendV (α := Posting) (by kernel_rfl) (t := 79) (e := 93) (a1 := y24.1) (a2 := y25.1) (c1 := y24.2) (c2 := y25.2) (l1 := t21) (l2 := ([x1] : List Posting)) (by kernel_rfl) (i := Try.t93) (by kernel_rfl) (z := (.agg #[.int .i64 0, .int .i64 0, .int .i64 0, .int .i64 0])) (by kernel_rfl) (by kernel_rfl) (by kernel_rfl) (by kernel_rfl) (fun w hs => ⟨y25.2, (hs.view 1 rfl)⟩) (Rr := [SlRes 93 ([x1] : List Posting) y25.1 y25.2]) rfl hm28 (fun y26 => [(12, .v (.slice y26.1 l27.length y26.2)), (9, .v (.slice y24.1 t21.length y24.2)), (11, .v (.slice y25.1 ([x1] : List Posting).length y25.2)), (4, .p 2 0), (2, .p 0 0)]) (fun y26 => by kernel_rfl) (fun y26 => ?_)
          refine KG_next hm [12, 4, 2] [] (sl' := [(12, .v (.slice y26.1 l27.length y26.2)), (4, .p 2 0), (2, .p 0 0)]) (by kernel_rfl) (by kernel_rfl) (by kernel_rfl) (by kernel_rfl) ?_
          refine JH_take (fuel := 2) 6 (v := .v (.agg #[.slice y26.1 l27.length y26.2])) [] rfl (by kernel_rfl) (by kernel_rfl) (by kernel_rfl) meet_nopanic (by kernel_rfl) (by kernel_rfl) (by kernel_rfl) (by kernel_rfl) trivial (evQ_held (by kernel_rfl) (by kernel_rfl)) (sl' := [(13, .v (.agg #[.slice y26.1 l27.length y26.2])), (12, .v (.slice y26.1 l27.length y26.2)), (4, .p 2 0), (2, .p 0 0)]) (by kernel_rfl) ?_
          refine JH_keep [13, 4, 2] (sl' := [(13, .v (.agg #[.slice y26.1 l27.length y26.2])), (4, .p 2 0), (2, .p 0 0)]) (by kernel_rfl) ?_
          refine JH_all (fuel := 1) [7] (by kernel_rfl) (by simp) (List.forall_mem_cons.2 ⟨?_, fun _ h => by cases h⟩)
          refine JHi_of rfl (fun γ0 δ hm => ?_)
          refine JG_step (sl' := [(6, .p 3 0), (13, .v (.agg #[.slice y26.1 l27.length y26.2])), (4, .p 2 0), (2, .p 0 0)]) (bx' := [(81, [.slice a0_0 x0.Postings.length c0_0]), (93, [.int .i64 x1.Month, .int .i64 x1.Debit, .int .i64 x1.Credit, .int .i64 x1.Cents]), (81, [.slice none 0 0]), (81, [.slice none 0 0])]) (by kernel_rfl) (fun δ2 => ?_)
          refine KG_nextD hm [6, 13, 4, 2] [] (sl' := [(6, .p 3 0), (13, .v (.agg #[.slice y26.1 l27.length y26.2])), (4, .p 2 0), (2, .p 0 0)]) (by kernel_rfl) (by kernel_rfl) (by kernel_rfl) (by kernel_rfl) ?_
          refine JH_all (fuel := 0) [8] (by kernel_rfl) (by simp) (List.forall_mem_cons.2 ⟨?_, fun _ h => by cases h⟩)
          refine JHi_of rfl (fun γ0 δ hm => ?_)
          refine JG_step (sl' := [(6, .p 3 0), (13, .v (.agg #[.slice y26.1 l27.length y26.2])), (4, .p 2 0), (2, .p 0 0)]) (bx' := [(81, [.slice a0_0 x0.Postings.length c0_0]), (93, [.int .i64 x1.Month, .int .i64 x1.Debit, .int .i64 x1.Credit, .int .i64 x1.Cents]), (81, [.slice none 0 0]), (81, [.slice y26.1 l27.length y26.2])]) (by kernel_rfl) (fun δ2 => ?_)
          refine KG_nextD hm [6, 4, 2] [] (sl' := [(6, .p 3 0), (4, .p 2 0), (2, .p 0 0)]) (by kernel_rfl) (by kernel_rfl) (by kernel_rfl) (by kernel_rfl) ?_
          exact JH_done (by kernel_rfl) y26 [6, 4, 2] [0] 4 (by kernel_rfl) (by kernel_rfl) (by kernel_rfl) (by kernel_rfl)
        · refine JHi_of rfl (fun γ0 δ hm => ?_)
          refine JG_step (sl' := [(6, .p 3 0), (9, .v (.slice y24.1 t21.length y24.2)), (11, .v (.slice y25.1 ([x1] : List Posting).length y25.2)), (4, .p 2 0), (2, .p 0 0)]) (bx' := [(81, [.slice a0_0 x0.Postings.length c0_0]), (93, [.int .i64 x1.Month, .int .i64 x1.Debit, .int .i64 x1.Credit, .int .i64 x1.Cents]), (81, [.slice none 0 0]), (81, [.slice none 0 0])]) (by kernel_rfl) (fun δ2 => ?_)
          refine KG_nextD hm [6, 9, 11, 4, 2] [] (sl' := [(6, .p 3 0), (9, .v (.slice y24.1 t21.length y24.2)), (11, .v (.slice y25.1 ([x1] : List Posting).length y25.2)), (4, .p 2 0), (2, .p 0 0)]) (by kernel_rfl) (by kernel_rfl) (by kernel_rfl) (by kernel_rfl) ?_
          refine JH_all (fuel := 2) [5] (by kernel_rfl) (by simp) (List.forall_mem_cons.2 ⟨?_, fun _ h => by cases h⟩)
          refine JHi_of rfl (fun γ0 δ hm => ?_)
          refine JG_appendV (α := Posting) (by kernel_rfl) (t := 79) (e := 93) (a1 := y24.1) (a2 := y25.1) (c1 := y24.2) (c2 := y25.2) (l1 := t21) (l2 := ([x1] : List Posting)) (by kernel_rfl) (i := Try.t93) (by kernel_rfl) (z := (.agg #[.int .i64 0, .int .i64 0, .int .i64 0, .int .i64 0])) (by kernel_rfl) (by kernel_rfl) (by kernel_rfl) (by kernel_rfl) (fun w hs => ⟨y25.2, (hs.view 1 rfl)⟩) (Rr := [SlRes 93 ([x1] : List Posting) y25.1 y25.2]) rfl hm28 (fun y26 => [(12, .v (.slice y26.1 l27.length y26.2)), (6, .p 3 0), (9, .v (.slice y24.1 t21.length y24.2)), (11, .v (.slice y25.1 ([x1] : List Posting).length y25.2)), (4, .p 2 0), (2, .p 0 0)]) (fun y26 => by kernel_rfl) (fun y26 => ?_)
          refine KG_next hm [12, 6, 4, 2] [] (sl' := [(12, .v (.slice y26.1 l27.length y26.2)), (6, .p 3 0), (4, .p 2 0), (2, .p 0 0)]) (by kernel_rfl) (by kernel_rfl) (by kernel_rfl) (by kernel_rfl) ?_
          refine JH_take (fuel := 1) 6 (v := .v (.agg #[.slice y26.1 l27.length y26.2])) [] rfl (by kernel_rfl) (by kernel_rfl) (by kernel_rfl) meet_nopanic (by kernel_rfl) (by kernel_rfl) (by kernel_rfl) (by kernel_rfl) trivial (evQ_held (by kernel_rfl) (by kernel_rfl)) (sl' := [(13, .v (.agg #[.slice y26.1 l27.length y26.2])), (12, .v (.slice y26.1 l27.length y26.2)), (6, .p 3 0), (4, .p 2 0), (2, .p 0 0)]) (by kernel_rfl) ?_
          refine JH_keep [13, 6, 4, 2] (sl' := [(13, .v (.agg #[.slice y26.1 l27.length y26.2])), (6, .p 3 0), (4, .p 2 0), (2, .p 0 0)]) (by kernel_rfl) ?_
          refine JH_all (fuel := 0) [8] (by kernel_rfl) (by simp) (List.forall_mem_cons.2 ⟨?_, fun _ h => by cases h⟩)
          refine JHi_of rfl (fun γ0 δ hm => ?_)
          refine JG_step (sl' := [(13, .v (.agg #[.slice y26.1 l27.length y26.2])), (6, .p 3 0), (4, .p 2 0), (2, .p 0 0)]) (bx' := [(81, [.slice a0_0 x0.Postings.length c0_0]), (93, [.int .i64 x1.Month, .int .i64 x1.Debit, .int .i64 x1.Credit, .int .i64 x1.Cents]), (81, [.slice none 0 0]), (81, [.slice y26.1 l27.length y26.2])]) (by kernel_rfl) (fun δ2 => ?_)
          refine KG_nextD hm [6, 4, 2] [] (sl' := [(6, .p 3 0), (4, .p 2 0), (2, .p 0 0)]) (by kernel_rfl) (by kernel_rfl) (by kernel_rfl) (by kernel_rfl) ?_
          exact JH_done (by kernel_rfl) y26 [6, 4, 2] [0] 4 (by kernel_rfl) (by kernel_rfl) (by kernel_rfl) (by kernel_rfl)
      · refine JHi_of rfl (fun γ0 δ hm => ?_)
        refine JG_step (sl' := [(6, .p 3 0), (11, .v (.slice y25.1 ([x1] : List Posting).length y25.2)), (8, .v (.slice a0_0 x0.Postings.length c0_0)), (4, .p 2 0), (2, .p 0 0)]) (bx' := [(81, [.slice a0_0 x0.Postings.length c0_0]), (93, [.int .i64 x1.Month, .int .i64 x1.Debit, .int .i64 x1.Credit, .int .i64 x1.Cents]), (81, [.slice none 0 0]), (81, [.slice none 0 0])]) (by kernel_rfl) (fun δ2 => ?_)
        refine KG_nextD hm [6, 11, 8, 4, 2] [] (sl' := [(6, .p 3 0), (11, .v (.slice y25.1 ([x1] : List Posting).length y25.2)), (8, .v (.slice a0_0 x0.Postings.length c0_0)), (4, .p 2 0), (2, .p 0 0)]) (by kernel_rfl) (by kernel_rfl) (by kernel_rfl) (by kernel_rfl) ?_
        refine JH_all (fuel := 3) [2] (by kernel_rfl) (by simp) (List.forall_mem_cons.2 ⟨?_, fun _ h => by cases h⟩)
        refine JHi_of rfl (fun γ0 δ hm => ?_)
        refine JG_call (by kernel_rfl) (f := 130) (args := #[.slice a0_0 x0.Postings.length c0_0]) (by kernel_rfl) (fun w hs => (by have vv := c_slices_Clone_Posting (W := w) h22 (hv0_0.kept hs.kept); exact vv)) (fun (y24 : (Option Addr × Nat)) => [(9, .v (.slice y24.1 t21.length y24.2)), (6, .p 3 0), (11, .v (.slice y25.1 ([x1] : List Posting).length y25.2)), (8, .v (.slice a0_0 x0.Postings.length c0_0)), (4, .p 2 0), (2, .p 0 0)]) (fun y24 => by kernel_rfl) (fun y24 => ?_)
        refine KG_next hm [9, 6, 11, 4, 2] [] (sl' := [(9, .v (.slice y24.1 t21.length y24.2)), (6, .p 3 0), (11, .v (.slice y25.1 ([x1] : List Posting).length y25.2)), (4, .p 2 0), (2, .p 0 0)]) (by kernel_rfl) (by kernel_rfl) (by kernel_rfl) (by kernel_rfl) ?_
        refine JH_all (fuel := 2) [5] (by kernel_rfl) (by simp) (List.forall_mem_cons.2 ⟨?_, fun _ h => by cases h⟩)
        refine JHi_of rfl (fun γ0 δ hm => ?_)
        refine JG_appendV (α := Posting) (by kernel_rfl) (t := 79) (e := 93) (a1 := y24.1) (a2 := y25.1) (c1 := y24.2) (c2 := y25.2) (l1 := t21) (l2 := ([x1] : List Posting)) (by kernel_rfl) (i := Try.t93) (by kernel_rfl) (z := (.agg #[.int .i64 0, .int .i64 0, .int .i64 0, .int .i64 0])) (by kernel_rfl) (by kernel_rfl) (by kernel_rfl) (by kernel_rfl) (fun w hs => ⟨y25.2, (hs.view 1 rfl)⟩) (Rr := [SlRes 93 ([x1] : List Posting) y25.1 y25.2]) rfl hm28 (fun y26 => [(12, .v (.slice y26.1 l27.length y26.2)), (9, .v (.slice y24.1 t21.length y24.2)), (6, .p 3 0), (11, .v (.slice y25.1 ([x1] : List Posting).length y25.2)), (4, .p 2 0), (2, .p 0 0)]) (fun y26 => by kernel_rfl) (fun y26 => ?_)
        refine KG_next hm [12, 6, 4, 2] [] (sl' := [(12, .v (.slice y26.1 l27.length y26.2)), (6, .p 3 0), (4, .p 2 0), (2, .p 0 0)]) (by kernel_rfl) (by kernel_rfl) (by kernel_rfl) (by kernel_rfl) ?_
        refine JH_take (fuel := 1) 6 (v := .v (.agg #[.slice y26.1 l27.length y26.2])) [] rfl (by kernel_rfl) (by kernel_rfl) (by kernel_rfl) meet_nopanic (by kernel_rfl) (by kernel_rfl) (by kernel_rfl) (by kernel_rfl) trivial (evQ_held (by kernel_rfl) (by kernel_rfl)) (sl' := [(13, .v (.agg #[.slice y26.1 l27.length y26.2])), (12, .v (.slice y26.1 l27.length y26.2)), (6, .p 3 0), (4, .p 2 0), (2, .p 0 0)]) (by kernel_rfl) ?_
        refine JH_keep [13, 6, 4, 2] (sl' := [(13, .v (.agg #[.slice y26.1 l27.length y26.2])), (6, .p 3 0), (4, .p 2 0), (2, .p 0 0)]) (by kernel_rfl) ?_
        refine JH_all (fuel := 0) [8] (by kernel_rfl) (by simp) (List.forall_mem_cons.2 ⟨?_, fun _ h => by cases h⟩)
        refine JHi_of rfl (fun γ0 δ hm => ?_)
        refine JG_step (sl' := [(13, .v (.agg #[.slice y26.1 l27.length y26.2])), (6, .p 3 0), (4, .p 2 0), (2, .p 0 0)]) (bx' := [(81, [.slice a0_0 x0.Postings.length c0_0]), (93, [.int .i64 x1.Month, .int .i64 x1.Debit, .int .i64 x1.Credit, .int .i64 x1.Cents]), (81, [.slice none 0 0]), (81, [.slice y26.1 l27.length y26.2])]) (by kernel_rfl) (fun δ2 => ?_)
        refine KG_nextD hm [6, 4, 2] [] (sl' := [(6, .p 3 0), (4, .p 2 0), (2, .p 0 0)]) (by kernel_rfl) (by kernel_rfl) (by kernel_rfl) (by kernel_rfl) ?_
        exact JH_done (by kernel_rfl) y26 [6, 4, 2] [0] 4 (by kernel_rfl) (by kernel_rfl) (by kernel_rfl) (by kernel_rfl)
    · refine JHi_of rfl (fun γ0 δ hm => ?_)
      refine JG_step (sl' := [(6, .p 3 0), (10, .v (.agg #[.int .i64 x1.Month, .int .i64 x1.Debit, .int .i64 x1.Credit, .int .i64 x1.Cents])), (8, .v (.slice a0_0 x0.Postings.length c0_0)), (4, .p 2 0), (2, .p 0 0)]) (bx' := [(81, [.slice a0_0 x0.Postings.length c0_0]), (93, [.int .i64 x1.Month, .int .i64 x1.Debit, .int .i64 x1.Credit, .int .i64 x1.Cents]), (81, [.slice none 0 0]), (81, [.slice none 0 0])]) (by kernel_rfl) (fun δ2 => ?_)
      refine KG_nextD hm [6, 10, 8, 4, 2] [] (sl' := [(6, .p 3 0), (10, .v (.agg #[.int .i64 x1.Month, .int .i64 x1.Debit, .int .i64 x1.Credit, .int .i64 x1.Cents])), (8, .v (.slice a0_0 x0.Postings.length c0_0)), (4, .p 2 0), (2, .p 0 0)]) (by kernel_rfl) (by kernel_rfl) (by kernel_rfl) (by kernel_rfl) ?_
      refine JH_all (fuel := 4) [2, 4] (by kernel_rfl) (by simp) (List.forall_mem_cons.2 ⟨?_, (List.forall_mem_cons.2 ⟨?_, fun _ h => by cases h⟩)⟩)
      · refine JHi_of rfl (fun γ0 δ hm => ?_)
        refine JG_call (by kernel_rfl) (f := 130) (args := #[.slice a0_0 x0.Postings.length c0_0]) (by kernel_rfl) (fun w hs => (by have vv := c_slices_Clone_Posting (W := w) h22 (hv0_0.kept hs.kept); exact vv)) (fun (y24 : (Option Addr × Nat)) => [(9, .v (.slice y24.1 t21.length y24.2)), (6, .p 3 0), (10, .v (.agg #[.int .i64 x1.Month, .int .i64 x1.Debit, .int .i64 x1.Credit, .int .i64 x1.Cents])), (8, .v (.slice a0_0 x0.Postings.length c0_0)), (4, .p 2 0), (2, .p 0 0)]) (fun y24 => by kernel_rfl) (fun y24 => ?_)
        refine KG_next hm [9, 6, 10, 4, 2] [] (sl' := [(9, .v (.slice y24.1 t21.length y24.2)), (6, .p 3 0), (10, .v (.agg #[.int .i64 x1.Month, .int .i64 x1.Debit, .int .i64 x1.Credit, .int .i64 x1.Cents])), (4, .p 2 0), (2, .p 0 0)]) (by kernel_rfl) (by kernel_rfl) (by kernel_rfl) (by kernel_rfl) ?_
        refine JH_all (fuel := 3) [4] (by kernel_rfl) (by simp) (List.forall_mem_cons.2 ⟨?_, fun _ h => by cases h⟩)
        refine JHi_of rfl (fun γ0 δ hm => ?_)
        refine JG_bslice (by kernel_rfl) (e := 93) (len := 1) (cs := [.int .i64 x1.Month, .int .i64 x1.Debit, .int .i64 x1.Credit, .int .i64 x1.Cents]) (by kernel_rfl) (xs := ([x1] : List Posting)) rfl (by kernel_rfl) (Rc := []) (Rr := [SlRes 93 t21 y24.1 y24.2]) rfl (own_flat (by kernel_rfl)) (fun y25 => [(11, .v (.slice y25.1 ([x1] : List Posting).length y25.2)), (9, .v (.slice y24.1 t21.length y24.2)), (6, .p 3 0), (10, .v (.agg #[.int .i64 x1.Month, .int .i64 x1.Debit, .int .i64 x1.Credit, .int .i64 x1.Cents])), (4, .p 2 0), (2, .p 0 0)]) (fun y25 => by kernel_rfl) (fun y25 => ?_)
        refine KG_next hm [11, 9, 6, 4, 2] [] (sl' := [(11, .v (.slice y25.1 ([x1] : List Posting).length y25.2)), (9, .v (.slice y24.1 t21.length y24.2)), (6, .p 3 0), (4, .p 2 0), (2, .p 0 0)]) (by kernel_rfl) (by kernel_rfl) (by kernel_rfl) (by kernel_rfl) ?_
        refine JH_all (fuel := 2) [5] (by kernel_rfl) (by simp) (List.forall_mem_cons.2 ⟨?_, fun _ h => by cases h⟩)
        refine JHi_res (R' := [SlRes 93 t21 y24.1 y24.2, SlRes 93 ([x1] : List Posting) y25.1 y25.2]) [1, 0] (by kernel_rfl) ?_
        refine JHi_of rfl (fun γ0 δ hm => ?_)
        refine JG_appendV (α := Posting) (by kernel_rfl) (t := 79) (e := 93) (a1 := y24.1) (a2 := y25.1) (c1 := y24.2) (c2 := y25.2) (l1 := t21) (l2 := ([x1] : List Posting)) (by kernel_rfl) (i := Try.t93) (by kernel_rfl) (z := (.agg #[.int .i64 0, .int .i64 0, .int .i64 0, .int .i64 0])) (by kernel_rfl) (by kernel_rfl) (by kernel_rfl) (by kernel_rfl) (fun w hs => ⟨y25.2, (hs.view 1 rfl)⟩) (Rr := [SlRes 93 ([x1] : List Posting) y25.1 y25.2]) rfl hm28 (fun y26 => [(12, .v (.slice y26.1 l27.length y26.2)), (11, .v (.slice y25.1 ([x1] : List Posting).length y25.2)), (9, .v (.slice y24.1 t21.length y24.2)), (6, .p 3 0), (4, .p 2 0), (2, .p 0 0)]) (fun y26 => by kernel_rfl) (fun y26 => ?_)
        refine KG_next hm [12, 6, 4, 2] [] (sl' := [(12, .v (.slice y26.1 l27.length y26.2)), (6, .p 3 0), (4, .p 2 0), (2, .p 0 0)]) (by kernel_rfl) (by kernel_rfl) (by kernel_rfl) (by kernel_rfl) ?_
        refine JH_take (fuel := 1) 6 (v := .v (.agg #[.slice y26.1 l27.length y26.2])) [] rfl (by kernel_rfl) (by kernel_rfl) (by kernel_rfl) meet_nopanic (by kernel_rfl) (by kernel_rfl) (by kernel_rfl) (by kernel_rfl) trivial (evQ_held (by kernel_rfl) (by kernel_rfl)) (sl' := [(13, .v (.agg #[.slice y26.1 l27.length y26.2])), (12, .v (.slice y26.1 l27.length y26.2)), (6, .p 3 0), (4, .p 2 0), (2, .p 0 0)]) (by kernel_rfl) ?_
        refine JH_keep [13, 6, 4, 2] (sl' := [(13, .v (.agg #[.slice y26.1 l27.length y26.2])), (6, .p 3 0), (4, .p 2 0), (2, .p 0 0)]) (by kernel_rfl) ?_
        refine JH_all (fuel := 0) [8] (by kernel_rfl) (by simp) (List.forall_mem_cons.2 ⟨?_, fun _ h => by cases h⟩)
        refine JHi_of rfl (fun γ0 δ hm => ?_)
        refine JG_step (sl' := [(13, .v (.agg #[.slice y26.1 l27.length y26.2])), (6, .p 3 0), (4, .p 2 0), (2, .p 0 0)]) (bx' := [(81, [.slice a0_0 x0.Postings.length c0_0]), (93, [.int .i64 x1.Month, .int .i64 x1.Debit, .int .i64 x1.Credit, .int .i64 x1.Cents]), (81, [.slice none 0 0]), (81, [.slice y26.1 l27.length y26.2])]) (by kernel_rfl) (fun δ2 => ?_)
        refine KG_nextD hm [6, 4, 2] [] (sl' := [(6, .p 3 0), (4, .p 2 0), (2, .p 0 0)]) (by kernel_rfl) (by kernel_rfl) (by kernel_rfl) (by kernel_rfl) ?_
        exact JH_done (by kernel_rfl) y26 [6, 4, 2] [0] 4 (by kernel_rfl) (by kernel_rfl) (by kernel_rfl) (by kernel_rfl)
      · refine JHi_of rfl (fun γ0 δ hm => ?_)
        refine JG_bslice (by kernel_rfl) (e := 93) (len := 1) (cs := [.int .i64 x1.Month, .int .i64 x1.Debit, .int .i64 x1.Credit, .int .i64 x1.Cents]) (by kernel_rfl) (xs := ([x1] : List Posting)) rfl (by kernel_rfl) (Rc := []) (Rr := []) rfl (own_flat (by kernel_rfl)) (fun y25 => [(11, .v (.slice y25.1 ([x1] : List Posting).length y25.2)), (6, .p 3 0), (10, .v (.agg #[.int .i64 x1.Month, .int .i64 x1.Debit, .int .i64 x1.Credit, .int .i64 x1.Cents])), (8, .v (.slice a0_0 x0.Postings.length c0_0)), (4, .p 2 0), (2, .p 0 0)]) (fun y25 => by kernel_rfl) (fun y25 => ?_)
        refine KG_next hm [11, 6, 8, 4, 2] [] (sl' := [(11, .v (.slice y25.1 ([x1] : List Posting).length y25.2)), (6, .p 3 0), (8, .v (.slice a0_0 x0.Postings.length c0_0)), (4, .p 2 0), (2, .p 0 0)]) (by kernel_rfl) (by kernel_rfl) (by kernel_rfl) (by kernel_rfl) ?_
        refine JH_all (fuel := 3) [2] (by kernel_rfl) (by simp) (List.forall_mem_cons.2 ⟨?_, fun _ h => by cases h⟩)
        refine JHi_of rfl (fun γ0 δ hm => ?_)
        refine JG_call (by kernel_rfl) (f := 130) (args := #[.slice a0_0 x0.Postings.length c0_0]) (by kernel_rfl) (fun w hs => (by have vv := c_slices_Clone_Posting (W := w) h22 (hv0_0.kept hs.kept); exact vv)) (fun (y24 : (Option Addr × Nat)) => [(9, .v (.slice y24.1 t21.length y24.2)), (11, .v (.slice y25.1 ([x1] : List Posting).length y25.2)), (6, .p 3 0), (8, .v (.slice a0_0 x0.Postings.length c0_0)), (4, .p 2 0), (2, .p 0 0)]) (fun y24 => by kernel_rfl) (fun y24 => ?_)
        refine KG_next hm [9, 11, 6, 4, 2] [] (sl' := [(9, .v (.slice y24.1 t21.length y24.2)), (11, .v (.slice y25.1 ([x1] : List Posting).length y25.2)), (6, .p 3 0), (4, .p 2 0), (2, .p 0 0)]) (by kernel_rfl) (by kernel_rfl) (by kernel_rfl) (by kernel_rfl) ?_
        refine JH_all (fuel := 2) [5] (by kernel_rfl) (by simp) (List.forall_mem_cons.2 ⟨?_, fun _ h => by cases h⟩)
        refine JHi_of rfl (fun γ0 δ hm => ?_)
        refine JG_appendV (α := Posting) (by kernel_rfl) (t := 79) (e := 93) (a1 := y24.1) (a2 := y25.1) (c1 := y24.2) (c2 := y25.2) (l1 := t21) (l2 := ([x1] : List Posting)) (by kernel_rfl) (i := Try.t93) (by kernel_rfl) (z := (.agg #[.int .i64 0, .int .i64 0, .int .i64 0, .int .i64 0])) (by kernel_rfl) (by kernel_rfl) (by kernel_rfl) (by kernel_rfl) (fun w hs => ⟨y25.2, (hs.view 1 rfl)⟩) (Rr := [SlRes 93 ([x1] : List Posting) y25.1 y25.2]) rfl hm28 (fun y26 => [(12, .v (.slice y26.1 l27.length y26.2)), (9, .v (.slice y24.1 t21.length y24.2)), (11, .v (.slice y25.1 ([x1] : List Posting).length y25.2)), (6, .p 3 0), (4, .p 2 0), (2, .p 0 0)]) (fun y26 => by kernel_rfl) (fun y26 => ?_)
        refine KG_next hm [12, 6, 4, 2] [] (sl' := [(12, .v (.slice y26.1 l27.length y26.2)), (6, .p 3 0), (4, .p 2 0), (2, .p 0 0)]) (by kernel_rfl) (by kernel_rfl) (by kernel_rfl) (by kernel_rfl) ?_
        refine JH_take (fuel := 1) 6 (v := .v (.agg #[.slice y26.1 l27.length y26.2])) [] rfl (by kernel_rfl) (by kernel_rfl) (by kernel_rfl) meet_nopanic (by kernel_rfl) (by kernel_rfl) (by kernel_rfl) (by kernel_rfl) trivial (evQ_held (by kernel_rfl) (by kernel_rfl)) (sl' := [(13, .v (.agg #[.slice y26.1 l27.length y26.2])), (12, .v (.slice y26.1 l27.length y26.2)), (6, .p 3 0), (4, .p 2 0), (2, .p 0 0)]) (by kernel_rfl) ?_
        refine JH_keep [13, 6, 4, 2] (sl' := [(13, .v (.agg #[.slice y26.1 l27.length y26.2])), (6, .p 3 0), (4, .p 2 0), (2, .p 0 0)]) (by kernel_rfl) ?_
        refine JH_all (fuel := 0) [8] (by kernel_rfl) (by simp) (List.forall_mem_cons.2 ⟨?_, fun _ h => by cases h⟩)
        refine JHi_of rfl (fun γ0 δ hm => ?_)
        refine JG_step (sl' := [(13, .v (.agg #[.slice y26.1 l27.length y26.2])), (6, .p 3 0), (4, .p 2 0), (2, .p 0 0)]) (bx' := [(81, [.slice a0_0 x0.Postings.length c0_0]), (93, [.int .i64 x1.Month, .int .i64 x1.Debit, .int .i64 x1.Credit, .int .i64 x1.Cents]), (81, [.slice none 0 0]), (81, [.slice y26.1 l27.length y26.2])]) (by kernel_rfl) (fun δ2 => ?_)
        refine KG_nextD hm [6, 4, 2] [] (sl' := [(6, .p 3 0), (4, .p 2 0), (2, .p 0 0)]) (by kernel_rfl) (by kernel_rfl) (by kernel_rfl) (by kernel_rfl) ?_
        exact JH_done (by kernel_rfl) y26 [6, 4, 2] [0] 4 (by kernel_rfl) (by kernel_rfl) (by kernel_rfl) (by kernel_rfl)
  · skip
    refine JE_then ?_
    refine JC_seq ?_
    refine JC_seq ?_
    obtain ⟨p31, hE32, h33⟩ := bS h29
    refine JC_cut (τ := Unit) (fun _ => [(2, .p 0 0), (4, .p 2 0), (6, .p 3 0), (21, .v (.bool p31))]) (fun _ => [(81, [.slice a0_0 x0.Postings.length c0_0]), (93, [.int .i64 x1.Month, .int .i64 x1.Debit, .int .i64 x1.Credit, .int .i64 x1.Cents]), (81, [.slice none 0 0]), (81, [.slice y30.1 l27.length y30.2])]) (fun _ => [SlRes 93 l27 y30.1 y30.2]) ?_ (fun _ => ?_)
    · refine JC_region ?_
      refine JO_stepsK 1 [14, 6, 4, 2] (sl' := [(14, .v (.agg #[.slice a0_0 x0.Postings.length c0_0])), (6, .p 3 0), (4, .p 2 0), (2, .p 0 0)]) (bx' := [(81, [.slice a0_0 x0.Postings.length c0_0]), (93, [.int .i64 x1.Month, .int .i64 x1.Debit, .int .i64 x1.Credit, .int .i64 x1.Cents]), (81, [.slice none 0 0]), (81, [.slice y30.1 l27.length y30.2])]) (by kernel_rfl) ?_
      obtain ⟨t34, h35, h36⟩ := bS hE32
      refine JO_call0 rfl (by kernel_rfl) (f := 126) (args := #[.agg #[.slice a0_0 x0.Postings.length c0_0]]) (by kernel_rfl) (x := .bool t34) (fun γ w hs => (by have vv := c_impl_LedgerOk (W := w) h35 (hv0_0.kept hs.kept); exact vv)) (sl' := [(15, .v (.bool t34)), (14, .v (.agg #[.slice a0_0 x0.Postings.length c0_0])), (6, .p 3 0), (4, .p 2 0), (2, .p 0 0)]) (by kernel_rfl) ?_
      refine JO_stepsK 2 [17, 6, 4, 2] (sl' := [(17, .v (.bool (!t34))), (6, .p 3 0), (4, .p 2 0), (2, .p 0 0)]) (bx' := [(81, [.slice a0_0 x0.Postings.length c0_0]), (93, [.int .i64 x1.Month, .int .i64 x1.Debit, .int .i64 x1.Credit, .int .i64 x1.Cents]), (81, [.slice none 0 0]), (81, [.slice y30.1 l27.length y30.2])]) (by kernel_rfl) ?_
      refine JO_split 17 (!t34) (by kernel_rfl) (fun b38 => ?_) (fun b38 => ?_)
      · have h39 := cT b38 h36
        refine JO_stepsK 4 [21, 6, 4, 2] (sl' := [(21, .v (.bool true)), (6, .p 3 0), (4, .p 2 0), (2, .p 0 0)]) (bx' := [(81, [.slice a0_0 x0.Postings.length c0_0]), (93, [.int .i64 x1.Month, .int .i64 x1.Debit, .int .i64 x1.Credit, .int .i64 x1.Cents]), (81, [.slice none 0 0]), (81, [.slice y30.1 l27.length y30.2])]) (by kernel_rfl) ?_
        refine JO_end (by kernel_rfl) ?_
        obtain rfl := sI h39
        exact JE_meet () [2, 4, 6, 21] [0] 4 (by kernel_rfl) (by kernel_rfl) (by kernel_rfl) (by kernel_rfl)
      · have h40 := cF b38 h36
        refine JO_stepsK 1 [18, 17, 6, 4, 2] (sl' := [(18, .v (.agg #[.slice y30.1 l27.length y30.2])), (17, .v (.bool false)), (6, .p 3 0), (4, .p 2 0), (2, .p 0 0)]) (bx' := [(81, [.slice a0_0 x0.Postings.length c0_0]), (93, [.int .i64 x1.Month, .int .i64 x1.Debit, .int .i64 x1.Credit, .int .i64 x1.Cents]), (81, [.slice none 0 0]), (81, [.slice y30.1 l27.length y30.2])]) (by kernel_rfl) ?_
        obtain ⟨t41, h42, h43⟩ := bS h40
        refine JO_call0 rfl (by kernel_rfl) (f := 126) (args := #[.agg #[.slice y30.1 l27.length y30.2]]) (by kernel_rfl) (x := .bool t41) (fun γ w hs => (by have v0 := hs.view 0 rfl; have vv := c_impl_LedgerOk (W := w) h42 v0; exact vv)) (sl' := [(19, .v (.bool t41)), (18, .v (.agg #[.slice y30.1 l27.length y30.2])), (17, .v (.bool false)), (6, .p 3 0), (4, .p 2 0), (2, .p 0 0)]) (by kernel_rfl) ?_
        refine JO_stepsK 2 [21, 6, 4, 2] (sl' := [(21, .v (.bool (!t41))), (6, .p 3 0), (4, .p 2 0), (2, .p 0 0)]) (bx' := [(81, [.slice a0_0 x0.Postings.length c0_0]), (93, [.int .i64 x1.Month, .int .i64 x1.Debit, .int .i64 x1.Credit, .int .i64 x1.Cents]), (81, [.slice none 0 0]), (81, [.slice y30.1 l27.length y30.2])]) (by kernel_rfl) ?_
        refine JO_end (by kernel_rfl) ?_
        obtain rfl := sI h43
        exact JE_meet () [2, 4, 6, 21] [0] 4 (by kernel_rfl) (by kernel_rfl) (by kernel_rfl) (by kernel_rfl)
    · skip
      refine JE_then ?_
      refine JC_cond p31 (by kernel_rfl) (fun b45 => ?_) (fun b45 => ?_)
      · have h50 := cT b45 h33
        refine JC_seq ?_
        refine JC_region ?_
        refine JO_stepsK 1 [22, 4] (sl' := [(22, .v (.agg #[.slice a0_0 x0.Postings.length c0_0])), (4, .p 2 0)]) (bx' := [(81, [.slice a0_0 x0.Postings.length c0_0]), (93, [.int .i64 x1.Month, .int .i64 x1.Debit, .int .i64 x1.Credit, .int .i64 x1.Cents]), (81, [.slice none 0 0]), (81, [.slice y30.1 l27.length y30.2])]) (by kernel_rfl) ?_
        obtain ⟨t52, h53, h54⟩ := bS h50
        refine JO_call rfl (by kernel_rfl) (f := 125) (args := #[.agg #[.slice a0_0 x0.Postings.length c0_0]]) (by kernel_rfl) (fun γ w hs => (by have vv := c_impl_copyLedger (W := w) h53 (hv0_0.kept hs.kept); exact vv)) (fun (y55 : (Option Addr × Nat)) => [(23, .v (.agg #[.slice y55.1 t52.Postings.length y55.2])), (22, .v (.agg #[.slice a0_0 x0.Postings.length c0_0])), (4, .p 2 0)]) (fun y55 => by kernel_rfl) (fun y55 => ?_)
        refine JO_stepsK 2 [5, 4] (sl' := [(5, .v (.bool false)), (4, .p 2 0)]) (bx' := [(81, [.slice a0_0 x0.Postings.length c0_0]), (93, [.int .i64 x1.Month, .int .i64 x1.Debit, .int .i64 x1.Credit, .int .i64 x1.Cents]), (81, [.slice y55.1 t52.Postings.length y55.2]), (81, [.slice y30.1 l27.length y30.2])]) (by kernel_rfl) ?_
        refine JO_end (by kernel_rfl) ?_
        refine JE_then ?_
        refine JC_ret ?_
        refine JE_then_ret ?_
        refine JE_ret (vs := [.agg #[.slice y55.1 t52.Postings.length y55.2], .bool false]) (by kernel_rfl) (fun γ w hs => ?_)
        rw [← sI h54]
        exact ⟨(y55.1, y55.2), rfl, hs.kept.toBelow, (hs.takeR (is := [0]) rfl).fresh⟩
      · have h51 := cF b45 h33
        refine JC_skip ?_
        refine JE_then ?_
        refine JC_seq ?_
        refine JC_region ?_
        refine JO_stepsK 3 [5, 4] (sl' := [(5, .v (.bool true)), (4, .p 2 0)]) (bx' := [(81, [.slice a0_0 x0.Postings.length c0_0]), (93, [.int .i64 x1.Month, .int .i64 x1.Debit, .int .i64 x1.Credit, .int .i64 x1.Cents]), (81, [.slice y30.1 l27.length y30.2]), (81, [.slice y30.1 l27.length y30.2])]) (by kernel_rfl) ?_
        refine JO_end (by kernel_rfl) ?_
        refine JE_then ?_
        refine JC_ret ?_
        refine JE_ret (vs := [.agg #[.slice y30.1 l27.length y30.2], .bool true]) (by kernel_rfl) (fun γ w hs => ?_)
        rw [← sI h51]
        exact ⟨(y30.1, y30.2), rfl, hs.kept.toBelow, (hs.takeR (is := [0]) rfl).fresh⟩

theorem c_impl_PostOpen {W : World} {x0 : Books} {a0_0 : Option Addr} {c0_0 : Nat} {x1 : Posting} {r : Books × Bool} (h : impl_PostOpen x0 x1 = some r) (hv0_0 : SlView W x0.Ledger.Postings a0_0 c0_0) :
    Gives Try.prog 59 #[.agg #[.slice a0_0 x0.Ledger.Postings.length c0_0, .int .i64 x0.Closed], .agg #[.int .i64 x1.Month, .int .i64 x1.Debit, .int .i64 x1.Credit, .int .i64 x1.Cents]] W (fun y : (Option Addr × Nat) => .tuple #[.agg #[.slice y.1 r.1.Ledger.Postings.length y.2, .int .i64 r.1.Closed], .bool r.2]) (fun y => [SlRes 93 r.1.Ledger.Postings y.1 y.2]) := by
  unfold impl_PostOpen at h
  refine enter (args := [.agg #[.slice a0_0 x0.Ledger.Postings.length c0_0, .int .i64 x0.Closed], .agg #[.int .i64 x1.Month, .int .i64 x1.Debit, .int .i64 x1.Credit, .int .i64 x1.Cents]]) Try.func59 rfl Try.ntmps59 (by kernel_rfl) ?_
  refine JC_seq ?_
  refine JC_region ?_
  refine JO_stepsK 4 [4, 3, 2] (sl' := [(4, .p 2 0), (3, .p 1 0), (2, .p 0 0)]) (bx' := [(83, [.slice a0_0 x0.Ledger.Postings.length c0_0, .int .i64 x0.Closed]), (93, [.int .i64 x1.Month, .int .i64 x1.Debit, .int .i64 x1.Credit, .int .i64 x1.Cents]), (83, [.slice none 0 0, .int .i64 0])]) (by kernel_rfl) ?_
  refine JO_end (by kernel_rfl) ?_
  refine JE_then ?_
  refine JC_seq ?_
  refine JC_region ?_
  refine JO_stepsK 3 [11, 10, 4, 3, 2] (sl' := [(11, .v (.agg #[.int .i64 x1.Month, .int .i64 x1.Debit, .int .i64 x1.Credit, .int .i64 x1.Cents])), (10, .v (.agg #[.slice a0_0 x0.Ledger.Postings.length c0_0])), (4, .p 2 0), (3, .p 1 0), (2, .p 0 0)]) (bx' := [(83, [.slice a0_0 x0.Ledger.Postings.length c0_0, .int .i64 x0.Closed]), (93, [.int .i64 x1.Month, .int .i64 x1.Debit, .int .i64 x1.Credit, .int .i64 x1.Cents]), (83, [.slice none 0 0, .int .i64 0])]) (by kernel_rfl) ?_
  obtain ⟨t21, h22, h23⟩ := bS h
  refine JO_call rfl (by kernel_rfl) (f := 102) (args := #[.agg #[.slice a0_0 x0.Ledger.Postings.length c0_0], .agg #[.int .i64 x1.Month, .int .i64 x1.Debit, .int .i64 x1.Credit, .int .i64 x1.Cents]]) (by kernel_rfl) (fun γ w hs => (by have vv := c_impl_Post (W := w) h22 (hv0_0.kept hs.kept); exact vv)) (fun (y24 : (Option Addr × Nat)) => [(12, .v (.tuple #[.agg #[.slice y24.1 t21.1.Postings.length y24.2], .bool t21.2])), (11, .v (.agg #[.int .i64 x1.Month, .int .i64 x1.Debit, .int .i64 x1.Credit, .int .i64 x1.Cents])), (10, .v (.agg #[.slice a0_0 x0.Ledger.Postings.length c0_0])), (4, .p 2 0), (3, .p 1 0), (2, .p 0 0)]) (fun y24 => by kernel_rfl) (fun y24 => ?_)
  refine JO_stepsK 6 [7, 6, 4, 3, 2] (sl' := [(7, .v (.bool t21.2)), (6, .p 3 0), (4, .p 2 0), (3, .p 1 0), (2, .p 0 0)]) (bx' := [(83, [.slice a0_0 x0.Ledger.Postings.length c0_0, .int .i64 x0.Closed]), (93, [.int .i64 x1.Month, .int .i64 x1.Debit, .int .i64 x1.Credit, .int .i64 x1.Cents]), (83, [.slice none 0 0, .int .i64 0]), (81, [.slice y24.1 t21.1.Postings.length y24.2])]) (by kernel_rfl) ?_
  refine JO_end (by kernel_rfl) ?_
  refine JE_then ?_
  refine JC_seq ?_
  refine JC_seq ?_
  obtain ⟨p25, hE26, h27⟩ := bS h23
  refine JC_cut (τ := Unit) (fun _ => [(2, .p 0 0), (4, .p 2 0), (6, .p 3 0), (28, .v (.bool p25))]) (fun _ => [(83, [.slice a0_0 x0.Ledger.Postings.length c0_0, .int .i64 x0.Closed]), (93, [.int .i64 x1.Month, .int .i64 x1.Debit, .int .i64 x1.Credit, .int .i64 x1.Cents]), (83, [.slice none 0 0, .int .i64 0]), (81, [.slice y24.1 t21.1.Postings.length y24.2])]) (fun _ => [SlRes 93 t21.1.Postings y24.1 y24.2]) ?_ (fun _ => ?_)
  · refine JC_region ?_
    refine JO_stepsK 3 [17, 6, 4, 3, 2] (sl' := [(17, .v (.bool (!t21.2))), (6, .p 3 0), (4, .p 2 0), (3, .p 1 0), (2, .p 0 0)]) (bx' := [(83, [.slice a0_0 x0.Ledger.Postings.length c0_0, .int .i64 x0.Closed]), (93, [.int .i64 x1.Month, .int .i64 x1.Debit, .int .i64 x1.Credit, .int .i64 x1.Cents]), (83, [.slice none 0 0, .int .i64 0]), (81, [.slice y24.1 t21.1.Postings.length y24.2])]) (by kernel_rfl) ?_
    refine JO_split 17 (!t21.2) (by kernel_rfl) (fun b28 => ?_) (fun b28 => ?_)
    · have h29 := cT b28 hE26
      refine JO_stepsK 11 [28, 6, 4, 2] (sl' := [(28, .v (.bool true)), (6, .p 3 0), (4, .p 2 0), (2, .p 0 0)]) (bx' := [(83, [.slice a0_0 x0.Ledger.Postings.length c0_0, .int .i64 x0.Closed]), (93, [.int .i64 x1.Month, .int .i64 x1.Debit, .int .i64 x1.Credit, .int .i64 x1.Cents]), (83, [.slice none 0 0, .int .i64 0]), (81, [.slice y24.1 t21.1.Postings.length y24.2])]) (by kernel_rfl) ?_
      refine JO_end (by kernel_rfl) ?_
      obtain rfl := sI h29
      exact JE_meet () [2, 4, 6, 28] [0] 4 (by kernel_rfl) (by kernel_rfl) (by kernel_rfl) (by kernel_rfl)
    · have h30 := cF b28 hE26
      refine JO_stepsK 1 [18, 17, 6, 4, 3, 2] (sl' := [(18, .v (.agg #[.slice a0_0 x0.Ledger.Postings.length c0_0, .int .i64 x0.Closed])), (17, .v (.bool false)), (6, .p 3 0), (4, .p 2 0), (3, .p 1 0), (2, .p 0 0)]) (bx' := [(83, [.slice a0_0 x0.Ledger.Postings.length c0_0, .int .i64 x0.Closed]), (93, [.int .i64 x1.Month, .int .i64 x1.Debit, .int .i64 x1.Credit, .int .i64 x1.Cents]), (83, [.slice none 0 0, .int .i64 0]), (81, [.slice y24.1 t21.1.Postings.length y24.2])]) (by kernel_rfl) ?_
      obtain ⟨t31, h32, h33⟩ := bS h30
      refine JO_call0 rfl (by kernel_rfl) (f := 96) (args := #[.agg #[.slice a0_0 x0.Ledger.Postings.length c0_0, .int .i64 x0.Closed]]) (by kernel_rfl) (x := .bool t31) (fun γ w hs => (by have vv := c_impl_BooksOk (W := w) h32 (hv0_0.kept hs.kept); exact vv)) (sl' := [(19, .v (.bool t31)), (18, .v (.agg #[.slice a0_0 x0.Ledger.Postings.length c0_0, .int .i64 x0.Closed])), (17, .v (.bool false)), (6, .p 3 0), (4, .p 2 0), (3, .p 1 0), (2, .p 0 0)]) (by kernel_rfl) ?_
      refine JO_stepsK 3 [22, 6, 4, 3, 2] (sl' := [(22, .v (.bool (!t31))), (6, .p 3 0), (4, .p 2 0), (3, .p 1 0), (2, .p 0 0)]) (bx' := [(83, [.slice a0_0 x0.Ledger.Postings.length c0_0, .int .i64 x0.Closed]), (93, [.int .i64 x1.Month, .int .i64 x1.Debit, .int .i64 x1.Credit, .int .i64 x1.Cents]), (83, [.slice none 0 0, .int .i64 0]), (81, [.slice y24.1 t21.1.Postings.length y24.2])]) (by kernel_rfl) ?_
      refine JO_split 22 (!t31) (by kernel_rfl) (fun b35 => ?_) (fun b35 => ?_)
      · have h36 := cT b35 h33
        refine JO_stepsK 6 [28, 6, 4, 2] (sl' := [(28, .v (.bool true)), (6, .p 3 0), (4, .p 2 0), (2, .p 0 0)]) (bx' := [(83, [.slice a0_0 x0.Ledger.Postings.length c0_0, .int .i64 x0.Closed]), (93, [.int .i64 x1.Month, .int .i64 x1.Debit, .int .i64 x1.Credit, .int .i64 x1.Cents]), (83, [.slice none 0 0, .int .i64 0]), (81, [.slice y24.1 t21.1.Postings.length y24.2])]) (by kernel_rfl) ?_
        refine JO_end (by kernel_rfl) ?_
        obtain rfl := sI h36
        exact JE_meet () [2, 4, 6, 28] [0] 4 (by kernel_rfl) (by kernel_rfl) (by kernel_rfl) (by kernel_rfl)
      · have h37 := cF b35 h33
        refine JO_stepsK 6 [28, 6, 4, 2] (sl' := [(28, .v (.bool (decide (x1.Month < x0.Closed)))), (6, .p 3 0), (4, .p 2 0), (2, .p 0 0)]) (bx' := [(83, [.slice a0_0 x0.Ledger.Postings.length c0_0, .int .i64 x0.Closed]), (93, [.int .i64 x1.Month, .int .i64 x1.Debit, .int .i64 x1.Credit, .int .i64 x1.Cents]), (83, [.slice none 0 0, .int .i64 0]), (81, [.slice y24.1 t21.1.Postings.length y24.2])]) (by kernel_rfl) ?_
        refine JO_end (by kernel_rfl) ?_
        obtain rfl := sI h37
        exact JE_meet () [2, 4, 6, 28] [0] 4 (by kernel_rfl) (by kernel_rfl) (by kernel_rfl) (by kernel_rfl)
  · skip
    refine JE_then ?_
    refine JC_cond p25 (by kernel_rfl) (fun b38 => ?_) (fun b38 => ?_)
    · have h43 := cT b38 h27
      refine JC_seq ?_
      refine JC_region ?_
      refine JO_stepsK 1 [29, 4] (sl' := [(29, .v (.agg #[.slice a0_0 x0.Ledger.Postings.length c0_0, .int .i64 x0.Closed])), (4, .p 2 0)]) (bx' := [(83, [.slice a0_0 x0.Ledger.Postings.length c0_0, .int .i64 x0.Closed]), (93, [.int .i64 x1.Month, .int .i64 x1.Debit, .int .i64 x1.Credit, .int .i64 x1.Cents]), (83, [.slice none 0 0, .int .i64 0]), (81, [.slice y24.1 t21.1.Postings.length y24.2])]) (by kernel_rfl) ?_
      obtain ⟨t45, h46, h47⟩ := bS h43
      refine JO_call rfl (by kernel_rfl) (f := 95) (args := #[.agg #[.slice a0_0 x0.Ledger.Postings.length c0_0, .int .i64 x0.Closed]]) (by kernel_rfl) (fun γ w hs => (by have vv := c_impl_copyBooks (W := w) h46 (hv0_0.kept hs.kept); exact vv)) (fun (y48 : (Option Addr × Nat)) => [(30, .v (.agg #[.slice y48.1 t45.Ledger.Postings.length y48.2, .int .i64 t45.Closed])), (29, .v (.agg #[.slice a0_0 x0.Ledger.Postings.length c0_0, .int .i64 x0.Closed])), (4, .p 2 0)]) (fun y48 => by kernel_rfl) (fun y48 => ?_)
      refine JO_stepsK 2 [5, 4] (sl' := [(5, .v (.bool false)), (4, .p 2 0)]) (bx' := [(83, [.slice a0_0 x0.Ledger.Postings.length c0_0, .int .i64 x0.Closed]), (93, [.int .i64 x1.Month, .int .i64 x1.Debit, .int .i64 x1.Credit, .int .i64 x1.Cents]), (83, [.slice y48.1 t45.Ledger.Postings.length y48.2, .int .i64 t45.Closed]), (81, [.slice y24.1 t21.1.Postings.length y24.2])]) (by kernel_rfl) ?_
      refine JO_end (by kernel_rfl) ?_
      refine JE_then ?_
      refine JC_ret ?_
      refine JE_then_ret ?_
      refine JE_ret (vs := [.agg #[.slice y48.1 t45.Ledger.Postings.length y48.2, .int .i64 t45.Closed], .bool false]) (by kernel_rfl) (fun γ w hs => ?_)
      rw [← sI h47]
      exact ⟨(y48.1, y48.2), rfl, hs.kept.toBelow, (hs.takeR (is := [0]) rfl).fresh⟩
    · have h44 := cF b38 h27
      refine JC_skip ?_
      refine JE_then ?_
      refine JC_seq ?_
      refine JC_region ?_
      refine JO_stepsK 6 [5, 4] (sl' := [(5, .v (.bool true)), (4, .p 2 0)]) (bx' := [(83, [.slice a0_0 x0.Ledger.Postings.length c0_0, .int .i64 x0.Closed]), (93, [.int .i64 x1.Month, .int .i64 x1.Debit, .int .i64 x1.Credit, .int .i64 x1.Cents]), (83, [.slice y24.1 t21.1.Postings.length y24.2, .int .i64 x0.Closed]), (81, [.slice y24.1 t21.1.Postings.length y24.2])]) (by kernel_rfl) ?_
      refine JO_end (by kernel_rfl) ?_
      refine JE_then ?_
      refine JC_ret ?_
      refine JE_ret (vs := [.agg #[.slice y24.1 t21.1.Postings.length y24.2, .int .i64 x0.Closed], .bool true]) (by kernel_rfl) (fun γ w hs => ?_)
      rw [← sI h44]
      exact ⟨(y24.1, y24.2), rfl, hs.kept.toBelow, (hs.takeR (is := [0]) rfl).fresh⟩
end Go.Pen
