/-
  Each Go function does what its plain function says: written by a program of ours.
-/
import Derived.Test.YtnbcacemikahjaaW1
import Derived.Test.YtnbcacemikahjaaProg
import Derived.Test.YtnbcacemikahjaaPenK
import Derived.Test.YtnbcacemikahjaaPenJ
namespace Go.Pen
open Go.Proofs Go.RowKit
set_option linter.unusedVariables false
set_option linter.unusedSimpArgs false
set_option maxRecDepth 100000
set_option maxHeartbeats 4000000

theorem c_laws_markRuleS {W : World} {x0 : List Rule} {a0_0 : Option Addr} {c0_0 : Nat} {e0_0 : TypeId} {x1 : Int} {r : Int × (List Rule)} (h : laws_markRuleS x0 x1 = some r)  :
    GivesM Try.prog 64 #[.slice a0_0 x0.length c0_0, .int .i64 x1] W [SlRes e0_0 x0 a0_0 c0_0] [SlRes e0_0 r.2 a0_0 c0_0] (.int .i64 r.1) := by
 unfold laws_markRuleS at h
 refine enM Try.func64 Try.ntmps64 (fun Fs => ?_)
 refine qs (qr (oN 1 [] [0, 1] ?_))
 refine oe (nt (qs (qs (qr (oN 1 [(5, vi 0)] [0, 1] ?_)))))
 refine oe (nt ?_)
 obtain ⟨r24, hL25, h26⟩ := bS h
 obtain ⟨k27, hk28, h26⟩ := brkS h26
 refine JC_cutP (τ := ((List Rule) × Int) × (Unit)) (fun y => k27 y.1 = some r) (fun y32 => [(0, .v (.slice a0_0 y32.1.1.length c0_0)), (1, vi y32.1.2)]) (fun y32 => []) (fun y32 => [SlRes e0_0 y32.1.1 a0_0 c0_0]) ?_ (fun y32 h33p => ?_)
 · refine qb (lp Unit hL25 (fun s21 y22 => [(5, vi s21.1), (0, .v (.slice a0_0 s21.2.1.length c0_0)), (1, vi s21.2.2)]) (fun s21 y22 => []) (fun s21 y22 => [SlRes e0_0 s21.2.1 a0_0 c0_0]) () [5, 0, 1] [0] 0 (fun s21 y22 t23 h29 hd30 => ?_))
   refine qs (qs (qr (oN 4 [(9, vb (decide (s21.1 < (s21.2.1.length : Int))))] [5, 0, 1] ?_)))
   refine oe (nt (cC h29 (fun h35 => ?_) (fun h36 => ?_)))
   · refine qk (nt (qs (qb (qs (qr (oN 3 [(14, vi s21.2.2), (13, vi s21.1), (12, .v (.slice a0_0 s21.2.1.length c0_0))] [5, 0, 1] ?_))))))
     obtain ⟨x37, hx38, h39⟩ := bS h35
     refine oi 7 (fun γ w hs => (hs.view 0 rfl)) hx38 ?_
     refine oN 1 [(16, .q a0_0 (Int.toNat s21.1 * 7))] [14, 5, 0, 1] ?_
     obtain ⟨l40, hm41, h42⟩ := bS h39
     replace hm41 := (sI hm41).symm
     refine JO_storeq (α := Rule) (d := a0_0) (vs := [.int .i64 s21.2.2]) (j := s21.1) (x' := (Rule.mk s21.2.2 x37.From x37.To x37.Joined x37.Rank x37.Mode x37.Nodes)) rfl (by kernel_rfl) 0 (by kernel_rfl) hx38 (Rc := []) (Rr := []) rfl (by kernel_rfl) (by rintro w c F Fs ⟨e0, a0, c0, F0, hF, rfl, q0⟩ _ hn; exact ⟨F, ⟨e0, a0, c0, F0, hF, rfl, q0⟩, (List.nodup_append.1 hn).1, fun g hg => by simp [hg]⟩) hm41 rfl ?_
     have hl43 := len_set hm41
     refine JO_keep [14, 5, 0, 1] (sl' := [(14, vi s21.2.2), (5, vi s21.1), (0, .v (.slice a0_0 s21.2.1.length c0_0)), (1, vi s21.2.2)]) (by kernel_rfl) ?_
     refine JO_eqE (sl' := [(14, vi s21.2.2), (5, vi s21.1), (0, .v (.slice a0_0 l40.length c0_0)), (1, vi s21.2.2)]) (bx' := []) (by simp only [hl43]) rfl ?_
     refine oe (nt (qs (qr (oN 3 [(1, vi (w64 (s21.2.2 + 1)))] [5, 0] ?_))))
     refine oe (nt (qs (qr (oN 3 [(21, vi (w64 (s21.2.2 + 1))), (20, vi s21.1), (19, .v (.slice a0_0 l40.length c0_0))] [1, 5, 0] ?_))))
     obtain ⟨x44, hx45, h46⟩ := bS h42
     refine oi 7 (fun γ w hs => (hs.view 0 rfl)) hx45 ?_
     refine oN 1 [(23, .q a0_0 (Int.toNat s21.1 * 7 + 1))] [21, 1, 5, 0] ?_
     obtain ⟨l47, hm48, h49⟩ := bS h46
     replace hm48 := (sI hm48).symm
     refine JO_storeq (α := Rule) (d := a0_0) (vs := [.int .i64 (w64 (s21.2.2 + 1))]) (j := s21.1) (x' := (Rule.mk x44.Name (w64 (s21.2.2 + 1)) x44.To x44.Joined x44.Rank x44.Mode x44.Nodes)) rfl (by kernel_rfl) 1 (by kernel_rfl) hx45 (Rc := []) (Rr := []) rfl (by kernel_rfl) (by rintro w c F Fs ⟨e0, a0, c0, F0, hF, rfl, q0⟩ _ hn; exact ⟨F, ⟨e0, a0, c0, F0, hF, rfl, q0⟩, (List.nodup_append.1 hn).1, fun g hg => by simp [hg]⟩) hm48 rfl ?_
     have hl50 := len_set hm48
     refine JO_keep [21, 1, 5, 0] (sl' := [(21, vi (w64 (s21.2.2 + 1))), (1, vi (w64 (s21.2.2 + 1))), (5, vi s21.1), (0, .v (.slice a0_0 l40.length c0_0))]) (by kernel_rfl) ?_
     refine JO_eqE (sl' := [(21, vi (w64 (s21.2.2 + 1))), (1, vi (w64 (s21.2.2 + 1))), (5, vi s21.1), (0, .v (.slice a0_0 l47.length c0_0))]) (bx' := []) (by simp only [hl50]) rfl ?_
     refine oe (nt (qs (qr (oN 3 [(1, vi (w64 ((w64 (s21.2.2 + 1)) + 1)))] [5, 0] ?_))))
     refine oe (nt (qs (qr (oN 3 [(28, vi (w64 ((w64 (s21.2.2 + 1)) + 1))), (27, vi s21.1), (26, .v (.slice a0_0 l47.length c0_0))] [1, 5, 0] ?_))))
     obtain ⟨x51, hx52, h53⟩ := bS h49
     refine oi 7 (fun γ w hs => (hs.view 0 rfl)) hx52 ?_
     refine oN 1 [(30, .q a0_0 (Int.toNat s21.1 * 7 + 2))] [28, 1, 5, 0] ?_
     obtain ⟨l54, hm55, h56⟩ := bS h53
     replace hm55 := (sI hm55).symm
     refine JO_storeq (α := Rule) (d := a0_0) (vs := [.int .i64 (w64 ((w64 (s21.2.2 + 1)) + 1))]) (j := s21.1) (x' := (Rule.mk x51.Name x51.From (w64 ((w64 (s21.2.2 + 1)) + 1)) x51.Joined x51.Rank x51.Mode x51.Nodes)) rfl (by kernel_rfl) 2 (by kernel_rfl) hx52 (Rc := []) (Rr := []) rfl (by kernel_rfl) (by rintro w c F Fs ⟨e0, a0, c0, F0, hF, rfl, q0⟩ _ hn; exact ⟨F, ⟨e0, a0, c0, F0, hF, rfl, q0⟩, (List.nodup_append.1 hn).1, fun g hg => by simp [hg]⟩) hm55 rfl ?_
     have hl57 := len_set hm55
     refine JO_keep [28, 1, 5, 0] (sl' := [(28, vi (w64 ((w64 (s21.2.2 + 1)) + 1))), (1, vi (w64 ((w64 (s21.2.2 + 1)) + 1))), (5, vi s21.1), (0, .v (.slice a0_0 l47.length c0_0))]) (by kernel_rfl) ?_
     refine JO_eqE (sl' := [(28, vi (w64 ((w64 (s21.2.2 + 1)) + 1))), (1, vi (w64 ((w64 (s21.2.2 + 1)) + 1))), (5, vi s21.1), (0, .v (.slice a0_0 l54.length c0_0))]) (bx' := []) (by simp only [hl57]) rfl ?_
     refine oe (nt (qs (qr (oN 3 [(1, vi (w64 ((w64 ((w64 (s21.2.2 + 1)) + 1)) + 1)))] [5, 0] ?_))))
     refine oe (nt (qs (qr (oN 3 [(35, vi (w64 ((w64 ((w64 (s21.2.2 + 1)) + 1)) + 1))), (34, vi s21.1), (33, .v (.slice a0_0 l54.length c0_0))] [1, 5, 0] ?_))))
     obtain ⟨x58, hx59, h60⟩ := bS h56
     refine oi 7 (fun γ w hs => (hs.view 0 rfl)) hx59 ?_
     refine oN 1 [(37, .q a0_0 (Int.toNat s21.1 * 7 + 3))] [35, 1, 5, 0] ?_
     obtain ⟨l61, hm62, h63⟩ := bS h60
     replace hm62 := (sI hm62).symm
     refine JO_storeq (α := Rule) (d := a0_0) (vs := [.int .i64 (w64 ((w64 ((w64 (s21.2.2 + 1)) + 1)) + 1))]) (j := s21.1) (x' := (Rule.mk x58.Name x58.From x58.To (w64 ((w64 ((w64 (s21.2.2 + 1)) + 1)) + 1)) x58.Rank x58.Mode x58.Nodes)) rfl (by kernel_rfl) 3 (by kernel_rfl) hx59 (Rc := []) (Rr := []) rfl (by kernel_rfl) (by rintro w c F Fs ⟨e0, a0, c0, F0, hF, rfl, q0⟩ _ hn; exact ⟨F, ⟨e0, a0, c0, F0, hF, rfl, q0⟩, (List.nodup_append.1 hn).1, fun g hg => by simp [hg]⟩) hm62 rfl ?_
     have hl64 := len_set hm62
     refine JO_keep [35, 1, 5, 0] (sl' := [(35, vi (w64 ((w64 ((w64 (s21.2.2 + 1)) + 1)) + 1))), (1, vi (w64 ((w64 ((w64 (s21.2.2 + 1)) + 1)) + 1))), (5, vi s21.1), (0, .v (.slice a0_0 l54.length c0_0))]) (by kernel_rfl) ?_
     refine JO_eqE (sl' := [(35, vi (w64 ((w64 ((w64 (s21.2.2 + 1)) + 1)) + 1))), (1, vi (w64 ((w64 ((w64 (s21.2.2 + 1)) + 1)) + 1))), (5, vi s21.1), (0, .v (.slice a0_0 l61.length c0_0))]) (bx' := []) (by simp only [hl64]) rfl ?_
     refine oe (nt (qs (qr (oN 3 [(1, vi (w64 ((w64 ((w64 ((w64 (s21.2.2 + 1)) + 1)) + 1)) + 1)))] [5, 0] ?_))))
     refine oe (nt (qs (qr (oN 3 [(42, vi (w64 ((w64 ((w64 ((w64 (s21.2.2 + 1)) + 1)) + 1)) + 1))), (41, vi s21.1), (40, .v (.slice a0_0 l61.length c0_0))] [1, 5, 0] ?_))))
     obtain ⟨x65, hx66, h67⟩ := bS h63
     refine oi 7 (fun γ w hs => (hs.view 0 rfl)) hx66 ?_
     refine oN 1 [(44, .q a0_0 (Int.toNat s21.1 * 7 + 4))] [42, 1, 5, 0] ?_
     obtain ⟨l68, hm69, h70⟩ := bS h67
     replace hm69 := (sI hm69).symm
     refine JO_storeq (α := Rule) (d := a0_0) (vs := [.int .i64 (w64 ((w64 ((w64 ((w64 (s21.2.2 + 1)) + 1)) + 1)) + 1))]) (j := s21.1) (x' := (Rule.mk x65.Name x65.From x65.To x65.Joined (w64 ((w64 ((w64 ((w64 (s21.2.2 + 1)) + 1)) + 1)) + 1)) x65.Mode x65.Nodes)) rfl (by kernel_rfl) 4 (by kernel_rfl) hx66 (Rc := []) (Rr := []) rfl (by kernel_rfl) (by rintro w c F Fs ⟨e0, a0, c0, F0, hF, rfl, q0⟩ _ hn; exact ⟨F, ⟨e0, a0, c0, F0, hF, rfl, q0⟩, (List.nodup_append.1 hn).1, fun g hg => by simp [hg]⟩) hm69 rfl ?_
     have hl71 := len_set hm69
     refine JO_keep [42, 1, 5, 0] (sl' := [(42, vi (w64 ((w64 ((w64 ((w64 (s21.2.2 + 1)) + 1)) + 1)) + 1))), (1, vi (w64 ((w64 ((w64 ((w64 (s21.2.2 + 1)) + 1)) + 1)) + 1))), (5, vi s21.1), (0, .v (.slice a0_0 l61.length c0_0))]) (by kernel_rfl) ?_
     refine JO_eqE (sl' := [(42, vi (w64 ((w64 ((w64 ((w64 (s21.2.2 + 1)) + 1)) + 1)) + 1))), (1, vi (w64 ((w64 ((w64 ((w64 (s21.2.2 + 1)) + 1)) + 1)) + 1))), (5, vi s21.1), (0, .v (.slice a0_0 l68.length c0_0))]) (bx' := []) (by simp only [hl71]) rfl ?_
     refine oe (nt (qs (qr (oN 3 [(1, vi (w64 ((w64 ((w64 ((w64 ((w64 (s21.2.2 + 1)) + 1)) + 1)) + 1)) + 1)))] [5, 0] ?_))))
     refine oe (nt (qs (qr (oN 3 [(49, vi (w64 ((w64 ((w64 ((w64 ((w64 (s21.2.2 + 1)) + 1)) + 1)) + 1)) + 1))), (48, vi s21.1), (47, .v (.slice a0_0 l68.length c0_0))] [1, 5, 0] ?_))))
     obtain ⟨x72, hx73, h74⟩ := bS h70
     refine oi 7 (fun γ w hs => (hs.view 0 rfl)) hx73 ?_
     refine oN 1 [(51, .q a0_0 (Int.toNat s21.1 * 7 + 5))] [49, 1, 5, 0] ?_
     obtain ⟨l75, hm76, h77⟩ := bS h74
     replace hm76 := (sI hm76).symm
     refine JO_storeq (α := Rule) (d := a0_0) (vs := [.int .i64 (w64 ((w64 ((w64 ((w64 ((w64 (s21.2.2 + 1)) + 1)) + 1)) + 1)) + 1))]) (j := s21.1) (x' := (Rule.mk x72.Name x72.From x72.To x72.Joined x72.Rank (w64 ((w64 ((w64 ((w64 ((w64 (s21.2.2 + 1)) + 1)) + 1)) + 1)) + 1)) x72.Nodes)) rfl (by kernel_rfl) 5 (by kernel_rfl) hx73 (Rc := []) (Rr := []) rfl (by kernel_rfl) (by rintro w c F Fs ⟨e0, a0, c0, F0, hF, rfl, q0⟩ _ hn; exact ⟨F, ⟨e0, a0, c0, F0, hF, rfl, q0⟩, (List.nodup_append.1 hn).1, fun g hg => by simp [hg]⟩) hm76 rfl ?_
     have hl78 := len_set hm76
     refine JO_keep [49, 1, 5, 0] (sl' := [(49, vi (w64 ((w64 ((w64 ((w64 ((w64 (s21.2.2 + 1)) + 1)) + 1)) + 1)) + 1))), (1, vi (w64 ((w64 ((w64 ((w64 ((w64 (s21.2.2 + 1)) + 1)) + 1)) + 1)) + 1))), (5, vi s21.1), (0, .v (.slice a0_0 l68.length c0_0))]) (by kernel_rfl) ?_
     refine JO_eqE (sl' := [(49, vi (w64 ((w64 ((w64 ((w64 ((w64 (s21.2.2 + 1)) + 1)) + 1)) + 1)) + 1))), (1, vi (w64 ((w64 ((w64 ((w64 ((w64 (s21.2.2 + 1)) + 1)) + 1)) + 1)) + 1))), (5, vi s21.1), (0, .v (.slice a0_0 l75.length c0_0))]) (bx' := []) (by simp only [hl78]) rfl ?_
     refine oe (nt (qs (qr (oN 3 [(1, vi (w64 ((w64 ((w64 ((w64 ((w64 ((w64 (s21.2.2 + 1)) + 1)) + 1)) + 1)) + 1)) + 1)))] [5, 0] ?_))))
     refine oe (nt (qr (oN 2 [(55, vi s21.1), (54, .v (.slice a0_0 l75.length c0_0))] [1, 5, 0] ?_)))
     obtain ⟨x79, hx80, h81⟩ := bS h77
     refine oi 7 (fun γ w hs => (hs.view 0 rfl)) hx80 ?_
     refine oN 1 [(57, .q a0_0 (Int.toNat s21.1 * 7 + 6))] [1, 5, 0] ?_
     refine JO_open1 (Rr := []) rfl hx80 (fun a83 c84 => [.int .i64 x79.Name, .int .i64 x79.From, .int .i64 x79.To, .int .i64 x79.Joined, .int .i64 x79.Rank, .int .i64 x79.Mode, .slice a83 x79.Nodes.length c84]) x79.Nodes (by rintro w F c ⟨e0, a0, c0, F0, rfl, rfl, h0⟩; exact ⟨e0, a0, c0, rfl, h0⟩) (fun e82 a83 c84 => ?_)
     refine ol 84 6 (.slice a83 x79.Nodes.length c84) (fun γ w hs => hs.holeCells 0 rfl hx80 rfl) ?_
     refine oN 1 [(59, vi (w64 ((w64 ((w64 ((w64 ((w64 ((w64 (s21.2.2 + 1)) + 1)) + 1)) + 1)) + 1)) + 1)))] [58, 5, 0] ?_
     refine or_ [1, 0] ?_
     obtain ⟨t85, h86, h87⟩ := bS h81
     obtain ⟨u89, hu90, h91⟩ := bS h87
     have hl92 := (sameLen_some hu90).symm
     refine JO_callM rfl (by kernel_rfl) (f := 90) (args := #[.slice a83 x79.Nodes.length c84, .int .i64 (w64 ((w64 ((w64 ((w64 ((w64 ((w64 (s21.2.2 + 1)) + 1)) + 1)) + 1)) + 1)) + 1))]) (by kernel_rfl) (x := .int .i64 t85.1) (Rin := [SlRes e82 x79.Nodes a83 c84]) (Rout := [SlRes e82 t85.2 a83 c84]) (Rr := [HoleRes e0_0 l75 a0_0 c0_0 (Int.toNat s21.1) [.int .i64 x79.Name, .int .i64 x79.From, .int .i64 x79.To, .int .i64 x79.Joined, .int .i64 x79.Rank, .int .i64 x79.Mode, .slice a83 x79.Nodes.length c84]]) rfl (fun w => (by have vv := c_laws_markNodeS (e0_0 := e82) (a0_0 := a83) (c0_0 := c84) (W := w) h86; exact vv)) (sl' := [(60, vi t85.1), (59, vi (w64 ((w64 ((w64 ((w64 ((w64 ((w64 (s21.2.2 + 1)) + 1)) + 1)) + 1)) + 1)) + 1))), (58, .v (.slice a83 x79.Nodes.length c84)), (5, vi s21.1), (0, .v (.slice a0_0 l75.length c0_0))]) (by kernel_rfl) ?_
     refine JO_eqE (sl' := [(60, vi t85.1), (59, vi (w64 ((w64 ((w64 ((w64 ((w64 ((w64 (s21.2.2 + 1)) + 1)) + 1)) + 1)) + 1)) + 1))), (58, .v (.slice a83 t85.2.length c84)), (5, vi s21.1), (0, .v (.slice a0_0 l75.length c0_0))]) (bx' := []) (by simp only [hl92]) rfl ?_
     obtain ⟨l93, hm94, h96⟩ := bS h91
     replace hm94 := (sI hm94).symm
     refine JO_close1 (Rr := []) (x' := (Rule.mk x79.Name x79.From x79.To x79.Joined x79.Rank x79.Mode t85.2)) rfl (fun w F hF => ⟨e82, a83, c84, F, rfl, by simp only [hl92], hF⟩) hm94 ?_
     have hl95 := len_set hm94
     refine JO_keep [60, 59, 5, 0] (sl' := [(60, vi t85.1), (59, vi (w64 ((w64 ((w64 ((w64 ((w64 ((w64 (s21.2.2 + 1)) + 1)) + 1)) + 1)) + 1)) + 1))), (5, vi s21.1), (0, .v (.slice a0_0 l75.length c0_0))]) (by kernel_rfl) ?_
     refine JO_eqE (sl' := [(60, vi t85.1), (59, vi (w64 ((w64 ((w64 ((w64 ((w64 ((w64 (s21.2.2 + 1)) + 1)) + 1)) + 1)) + 1)) + 1))), (5, vi s21.1), (0, .v (.slice a0_0 l93.length c0_0))]) (bx' := []) (by simp only [hl95]) rfl ?_
     refine oN 1 [(1, vi t85.1)] [5, 0] ?_
     refine oe (bn (nt (qr (oN 3 [(5, vi (w64 (s21.1 + 1)))] [1, 0] ?_))))
     exact oe (ct h96 () [5, 0, 1] [0] 0)
   refine qx (nx (nx (bh ?_)))
   have h97 := leafB hd30 h36 h26
   exact mp ((s21.2.1, s21.2.2), ()) h97 [0, 1] [0] 0
 have h33 := (congrFun hk28 _).symm.trans h33p
 refine nt (qs (qr (oN 2 [(4, vi y32.1.2)] [0] ?_)))
 refine oe (nt (qe (rt [.int .i64 y32.1.2] (fun γ w hs => ?_))))
 rw [← sI h33]
 exact hs.turned (is := [0]) rfl

theorem c_laws_markBook {W : World} {x0 : Book} {a0_0 : Option Addr} {c0_0 : Nat} {e0_0 : TypeId} {x1 : Int} {r : Int × (List Rule)} (h : laws_markBook x0 x1 = some r)  :
    GivesM Try.prog 30 #[vBook x0 (a0_0, c0_0), .int .i64 x1] W [SlRes e0_0 x0.Rules a0_0 c0_0] [SlRes e0_0 r.2 a0_0 c0_0] (.int .i64 r.1) := by
 unfold laws_markBook at h
 refine enM Try.func30 Try.ntmps30 (fun Fs => ?_)
 refine qs (qr (oB 2 [(2, .p 0 0)] [0, 1] [(40, (eBook x0 (a0_0, c0_0)))] ?_))
 refine oe (nt (qs (qr (oN 3 [(7, vi x1), (6, .v (.slice a0_0 x0.Rules.length c0_0))] [0] ?_))))
 obtain ⟨t21, h22, h23⟩ := bS h
 obtain ⟨u25, hu26, h27⟩ := bS h23
 have hl28 := (sameLen_some hu26).symm
 refine JO_callM rfl (by kernel_rfl) (f := 64) (args := #[.slice a0_0 x0.Rules.length c0_0, .int .i64 x1]) (by kernel_rfl) (x := .int .i64 t21.1) (Rin := [SlRes e0_0 x0.Rules a0_0 c0_0]) (Rout := [SlRes e0_0 t21.2 a0_0 c0_0]) (Rr := []) rfl (fun w => (by have vv := c_laws_markRuleS (e0_0 := e0_0) (a0_0 := a0_0) (c0_0 := c0_0) (W := w) h22; exact vv)) (sl' := [(8, vi t21.1), (7, vi x1), (6, .v (.slice a0_0 x0.Rules.length c0_0)), (0, .v (vBook x0 (a0_0, c0_0)))]) (by kernel_rfl) ?_
 refine JO_eqE (sl' := [(8, vi t21.1), (7, vi x1), (6, .v (.slice a0_0 t21.2.length c0_0)), (0, .v (vBook (Book.mk t21.2) (a0_0, c0_0)))]) (bx' := [(40, [.slice a0_0 t21.2.length c0_0])]) (by simp only [eBook, vBook, hl28]) (by simp only [eBook, vBook, hl28]) ?_
 refine oN 1 [(1, vi t21.1)] [0] ?_
 refine oe (nt (qs (qr (oN 2 [(4, vi t21.1)] [0] ?_))))
 refine oe (nt (qe (rt [.int .i64 t21.1] (fun γ w hs => ?_))))
 rw [← sI h27]
 exact hs.turned (is := [0]) rfl

theorem c_laws_markFactS {W : World} {x0 : List Fact} {a0_0 : Option Addr} {c0_0 : Nat} {e0_0 : TypeId} {x1 : Int} {r : Int × (List Fact)} (h : laws_markFactS x0 x1 = some r)  :
    GivesM Try.prog 65 #[.slice a0_0 x0.length c0_0, .int .i64 x1] W [SlRes e0_0 x0 a0_0 c0_0] [SlRes e0_0 r.2 a0_0 c0_0] (.int .i64 r.1) := by
 unfold laws_markFactS at h
 refine enM Try.func65 Try.ntmps65 (fun Fs => ?_)
 refine qs (qr (oN 1 [] [0, 1] ?_))
 refine oe (nt (qs (qs (qr (oN 1 [(5, vi 0)] [0, 1] ?_)))))
 refine oe (nt ?_)
 obtain ⟨r24, hL25, h26⟩ := bS h
 obtain ⟨k27, hk28, h26⟩ := brkS h26
 refine JC_cutP (τ := ((List Fact) × Int) × (Unit)) (fun y => k27 y.1 = some r) (fun y32 => [(0, .v (.slice a0_0 y32.1.1.length c0_0)), (1, vi y32.1.2)]) (fun y32 => []) (fun y32 => [SlRes e0_0 y32.1.1 a0_0 c0_0]) ?_ (fun y32 h33p => ?_)
 · refine qb (lp Unit hL25 (fun s21 y22 => [(5, vi s21.1), (0, .v (.slice a0_0 s21.2.1.length c0_0)), (1, vi s21.2.2)]) (fun s21 y22 => []) (fun s21 y22 => [SlRes e0_0 s21.2.1 a0_0 c0_0]) () [5, 0, 1] [0] 0 (fun s21 y22 t23 h29 hd30 => ?_))
   refine qs (qs (qr (oN 4 [(9, vb (decide (s21.1 < (s21.2.1.length : Int))))] [5, 0, 1] ?_)))
   refine oe (nt (cC h29 (fun h35 => ?_) (fun h36 => ?_)))
   · refine qk (nt (qs (qb (qs (qr (oN 3 [(14, vi s21.2.2), (13, vi s21.1), (12, .v (.slice a0_0 s21.2.1.length c0_0))] [5, 0, 1] ?_))))))
     obtain ⟨x37, hx38, h39⟩ := bS h35
     refine oi 5 (fun γ w hs => (hs.view 0 rfl)) hx38 ?_
     refine oN 1 [(16, .q a0_0 (Int.toNat s21.1 * 5))] [14, 5, 0, 1] ?_
     obtain ⟨l40, hm41, h42⟩ := bS h39
     replace hm41 := (sI hm41).symm
     refine JO_storeq (α := Fact) (d := a0_0) (vs := [.int .i64 s21.2.2]) (j := s21.1) (x' := (Fact.mk s21.2.2 x37.From x37.To x37.Known x37.Value)) rfl (by kernel_rfl) 0 (by kernel_rfl) hx38 (Rc := []) (Rr := []) rfl (by kernel_rfl) (fun w c F Fs ho _ _ => own_flat_set (by kernel_rfl) ho) hm41 rfl ?_
     have hl43 := len_set hm41
     refine JO_keep [14, 5, 0, 1] (sl' := [(14, vi s21.2.2), (5, vi s21.1), (0, .v (.slice a0_0 s21.2.1.length c0_0)), (1, vi s21.2.2)]) (by kernel_rfl) ?_
     refine JO_eqE (sl' := [(14, vi s21.2.2), (5, vi s21.1), (0, .v (.slice a0_0 l40.length c0_0)), (1, vi s21.2.2)]) (bx' := []) (by simp only [hl43]) rfl ?_
     refine oe (nt (qs (qr (oN 3 [(1, vi (w64 (s21.2.2 + 1)))] [5, 0] ?_))))
     refine oe (nt (qs (qr (oN 3 [(21, vi (w64 (s21.2.2 + 1))), (20, vi s21.1), (19, .v (.slice a0_0 l40.length c0_0))] [1, 5, 0] ?_))))
     obtain ⟨x44, hx45, h46⟩ := bS h42
     refine oi 5 (fun γ w hs => (hs.view 0 rfl)) hx45 ?_
     refine oN 1 [(23, .q a0_0 (Int.toNat s21.1 * 5 + 1))] [21, 1, 5, 0] ?_
     obtain ⟨l47, hm48, h49⟩ := bS h46
     replace hm48 := (sI hm48).symm
     refine JO_storeq (α := Fact) (d := a0_0) (vs := [.int .i64 (w64 (s21.2.2 + 1))]) (j := s21.1) (x' := (Fact.mk x44.Key (w64 (s21.2.2 + 1)) x44.To x44.Known x44.Value)) rfl (by kernel_rfl) 1 (by kernel_rfl) hx45 (Rc := []) (Rr := []) rfl (by kernel_rfl) (fun w c F Fs ho _ _ => own_flat_set (by kernel_rfl) ho) hm48 rfl ?_
     have hl50 := len_set hm48
     refine JO_keep [21, 1, 5, 0] (sl' := [(21, vi (w64 (s21.2.2 + 1))), (1, vi (w64 (s21.2.2 + 1))), (5, vi s21.1), (0, .v (.slice a0_0 l40.length c0_0))]) (by kernel_rfl) ?_
     refine JO_eqE (sl' := [(21, vi (w64 (s21.2.2 + 1))), (1, vi (w64 (s21.2.2 + 1))), (5, vi s21.1), (0, .v (.slice a0_0 l47.length c0_0))]) (bx' := []) (by simp only [hl50]) rfl ?_
     refine oe (nt (qs (qr (oN 3 [(1, vi (w64 ((w64 (s21.2.2 + 1)) + 1)))] [5, 0] ?_))))
     refine oe (nt (qs (qr (oN 3 [(28, vi (w64 ((w64 (s21.2.2 + 1)) + 1))), (27, vi s21.1), (26, .v (.slice a0_0 l47.length c0_0))] [1, 5, 0] ?_))))
     obtain ⟨x51, hx52, h53⟩ := bS h49
     refine oi 5 (fun γ w hs => (hs.view 0 rfl)) hx52 ?_
     refine oN 1 [(30, .q a0_0 (Int.toNat s21.1 * 5 + 2))] [28, 1, 5, 0] ?_
     obtain ⟨l54, hm55, h56⟩ := bS h53
     replace hm55 := (sI hm55).symm
     refine JO_storeq (α := Fact) (d := a0_0) (vs := [.int .i64 (w64 ((w64 (s21.2.2 + 1)) + 1))]) (j := s21.1) (x' := (Fact.mk x51.Key x51.From (w64 ((w64 (s21.2.2 + 1)) + 1)) x51.Known x51.Value)) rfl (by kernel_rfl) 2 (by kernel_rfl) hx52 (Rc := []) (Rr := []) rfl (by kernel_rfl) (fun w c F Fs ho _ _ => own_flat_set (by kernel_rfl) ho) hm55 rfl ?_
     have hl57 := len_set hm55
     refine JO_keep [28, 1, 5, 0] (sl' := [(28, vi (w64 ((w64 (s21.2.2 + 1)) + 1))), (1, vi (w64 ((w64 (s21.2.2 + 1)) + 1))), (5, vi s21.1), (0, .v (.slice a0_0 l47.length c0_0))]) (by kernel_rfl) ?_
     refine JO_eqE (sl' := [(28, vi (w64 ((w64 (s21.2.2 + 1)) + 1))), (1, vi (w64 ((w64 (s21.2.2 + 1)) + 1))), (5, vi s21.1), (0, .v (.slice a0_0 l54.length c0_0))]) (bx' := []) (by simp only [hl57]) rfl ?_
     refine oe (nt (qs (qr (oN 3 [(1, vi (w64 ((w64 ((w64 (s21.2.2 + 1)) + 1)) + 1)))] [5, 0] ?_))))
     refine oe (nt (qs (qr (oN 3 [(35, vi (w64 ((w64 ((w64 (s21.2.2 + 1)) + 1)) + 1))), (34, vi s21.1), (33, .v (.slice a0_0 l54.length c0_0))] [1, 5, 0] ?_))))
     obtain ⟨x58, hx59, h60⟩ := bS h56
     refine oi 5 (fun γ w hs => (hs.view 0 rfl)) hx59 ?_
     refine oN 1 [(37, .q a0_0 (Int.toNat s21.1 * 5 + 3))] [35, 1, 5, 0] ?_
     obtain ⟨l61, hm62, h63⟩ := bS h60
     replace hm62 := (sI hm62).symm
     refine JO_storeq (α := Fact) (d := a0_0) (vs := [.int .i64 (w64 ((w64 ((w64 (s21.2.2 + 1)) + 1)) + 1))]) (j := s21.1) (x' := (Fact.mk x58.Key x58.From x58.To (w64 ((w64 ((w64 (s21.2.2 + 1)) + 1)) + 1)) x58.Value)) rfl (by kernel_rfl) 3 (by kernel_rfl) hx59 (Rc := []) (Rr := []) rfl (by kernel_rfl) (fun w c F Fs ho _ _ => own_flat_set (by kernel_rfl) ho) hm62 rfl ?_
     have hl64 := len_set hm62
     refine JO_keep [35, 1, 5, 0] (sl' := [(35, vi (w64 ((w64 ((w64 (s21.2.2 + 1)) + 1)) + 1))), (1, vi (w64 ((w64 ((w64 (s21.2.2 + 1)) + 1)) + 1))), (5, vi s21.1), (0, .v (.slice a0_0 l54.length c0_0))]) (by kernel_rfl) ?_
     refine JO_eqE (sl' := [(35, vi (w64 ((w64 ((w64 (s21.2.2 + 1)) + 1)) + 1))), (1, vi (w64 ((w64 ((w64 (s21.2.2 + 1)) + 1)) + 1))), (5, vi s21.1), (0, .v (.slice a0_0 l61.length c0_0))]) (bx' := []) (by simp only [hl64]) rfl ?_
     refine oe (nt (qs (qr (oN 3 [(1, vi (w64 ((w64 ((w64 ((w64 (s21.2.2 + 1)) + 1)) + 1)) + 1)))] [5, 0] ?_))))
     refine oe (nt (qs (qr (oN 3 [(42, vi (w64 ((w64 ((w64 ((w64 (s21.2.2 + 1)) + 1)) + 1)) + 1))), (41, vi s21.1), (40, .v (.slice a0_0 l61.length c0_0))] [1, 5, 0] ?_))))
     obtain ⟨x65, hx66, h67⟩ := bS h63
     refine oi 5 (fun γ w hs => (hs.view 0 rfl)) hx66 ?_
     refine oN 1 [(44, .q a0_0 (Int.toNat s21.1 * 5 + 4))] [42, 1, 5, 0] ?_
     obtain ⟨l68, hm69, h70⟩ := bS h67
     replace hm69 := (sI hm69).symm
     refine JO_storeq (α := Fact) (d := a0_0) (vs := [.int .i64 (w64 ((w64 ((w64 ((w64 (s21.2.2 + 1)) + 1)) + 1)) + 1))]) (j := s21.1) (x' := (Fact.mk x65.Key x65.From x65.To x65.Known (w64 ((w64 ((w64 ((w64 (s21.2.2 + 1)) + 1)) + 1)) + 1)))) rfl (by kernel_rfl) 4 (by kernel_rfl) hx66 (Rc := []) (Rr := []) rfl (by kernel_rfl) (fun w c F Fs ho _ _ => own_flat_set (by kernel_rfl) ho) hm69 rfl ?_
     have hl71 := len_set hm69
     refine JO_keep [42, 1, 5, 0] (sl' := [(42, vi (w64 ((w64 ((w64 ((w64 (s21.2.2 + 1)) + 1)) + 1)) + 1))), (1, vi (w64 ((w64 ((w64 ((w64 (s21.2.2 + 1)) + 1)) + 1)) + 1))), (5, vi s21.1), (0, .v (.slice a0_0 l61.length c0_0))]) (by kernel_rfl) ?_
     refine JO_eqE (sl' := [(42, vi (w64 ((w64 ((w64 ((w64 (s21.2.2 + 1)) + 1)) + 1)) + 1))), (1, vi (w64 ((w64 ((w64 ((w64 (s21.2.2 + 1)) + 1)) + 1)) + 1))), (5, vi s21.1), (0, .v (.slice a0_0 l68.length c0_0))]) (bx' := []) (by simp only [hl71]) rfl ?_
     refine oe (nt (qr (oN 3 [(1, vi (w64 ((w64 ((w64 ((w64 ((w64 (s21.2.2 + 1)) + 1)) + 1)) + 1)) + 1)))] [5, 0] ?_)))
     refine oe (bn (nt (qr (oN 3 [(5, vi (w64 (s21.1 + 1)))] [1, 0] ?_))))
     exact oe (ct h70 () [5, 0, 1] [0] 0)
   refine qx (nx (nx (bh ?_)))
   have h72 := leafB hd30 h36 h26
   exact mp ((s21.2.1, s21.2.2), ()) h72 [0, 1] [0] 0
 have h33 := (congrFun hk28 _).symm.trans h33p
 refine nt (qs (qr (oN 2 [(4, vi y32.1.2)] [0] ?_)))
 refine oe (nt (qe (rt [.int .i64 y32.1.2] (fun γ w hs => ?_))))
 rw [← sI h33]
 exact hs.turned (is := [0]) rfl

theorem c_laws_markStore {W : World} {x0 : Store} {a0_0 : Option Addr} {c0_0 : Nat} {e0_0 : TypeId} {x1 : Int} {r : Int × (List Fact)} (h : laws_markStore x0 x1 = some r)  :
    GivesM Try.prog 31 #[vStore x0 (a0_0, c0_0), .int .i64 x1] W [SlRes e0_0 x0.Facts a0_0 c0_0] [SlRes e0_0 r.2 a0_0 c0_0] (.int .i64 r.1) := by
 unfold laws_markStore at h
 refine enM Try.func31 Try.ntmps31 (fun Fs => ?_)
 refine qs (qr (oB 2 [(2, .p 0 0)] [0, 1] [(43, (eStore x0 (a0_0, c0_0)))] ?_))
 refine oe (nt (qs (qr (oN 3 [(7, vi x1), (6, .v (.slice a0_0 x0.Facts.length c0_0))] [0] ?_))))
 obtain ⟨t21, h22, h23⟩ := bS h
 obtain ⟨u25, hu26, h27⟩ := bS h23
 have hl28 := (sameLen_some hu26).symm
 refine JO_callM rfl (by kernel_rfl) (f := 65) (args := #[.slice a0_0 x0.Facts.length c0_0, .int .i64 x1]) (by kernel_rfl) (x := .int .i64 t21.1) (Rin := [SlRes e0_0 x0.Facts a0_0 c0_0]) (Rout := [SlRes e0_0 t21.2 a0_0 c0_0]) (Rr := []) rfl (fun w => (by have vv := c_laws_markFactS (e0_0 := e0_0) (a0_0 := a0_0) (c0_0 := c0_0) (W := w) h22; exact vv)) (sl' := [(8, vi t21.1), (7, vi x1), (6, .v (.slice a0_0 x0.Facts.length c0_0)), (0, .v (vStore x0 (a0_0, c0_0)))]) (by kernel_rfl) ?_
 refine JO_eqE (sl' := [(8, vi t21.1), (7, vi x1), (6, .v (.slice a0_0 t21.2.length c0_0)), (0, .v (vStore (Store.mk t21.2) (a0_0, c0_0)))]) (bx' := [(43, [.slice a0_0 t21.2.length c0_0])]) (by simp only [eStore, vStore, hl28]) (by simp only [eStore, vStore, hl28]) ?_
 refine oN 1 [(1, vi t21.1)] [0] ?_
 refine oe (nt (qs (qr (oN 2 [(4, vi t21.1)] [0] ?_))))
 refine oe (nt (qe (rt [.int .i64 t21.1] (fun γ w hs => ?_))))
 rw [← sI h27]
 exact hs.turned (is := [0]) rfl

theorem c_laws_markPointS {W : World} {x0 : List Point} {a0_0 : Option Addr} {c0_0 : Nat} {e0_0 : TypeId} {x1 : Int} {r : Int × (List Point)} (h : laws_markPointS x0 x1 = some r)  :
    GivesM Try.prog 66 #[.slice a0_0 x0.length c0_0, .int .i64 x1] W [SlRes e0_0 x0 a0_0 c0_0] [SlRes e0_0 r.2 a0_0 c0_0] (.int .i64 r.1) := by
 unfold laws_markPointS at h
 refine enM Try.func66 Try.ntmps66 (fun Fs => ?_)
 refine qs (qr (oN 1 [] [0, 1] ?_))
 refine oe (nt (qs (qs (qr (oN 1 [(5, vi 0)] [0, 1] ?_)))))
 refine oe (nt ?_)
 obtain ⟨r24, hL25, h26⟩ := bS h
 obtain ⟨k27, hk28, h26⟩ := brkS h26
 refine JC_cutP (τ := ((List Point) × Int) × (Unit)) (fun y => k27 y.1 = some r) (fun y32 => [(0, .v (.slice a0_0 y32.1.1.length c0_0)), (1, vi y32.1.2)]) (fun y32 => []) (fun y32 => [SlRes e0_0 y32.1.1 a0_0 c0_0]) ?_ (fun y32 h33p => ?_)
 · refine qb (lp Unit hL25 (fun s21 y22 => [(5, vi s21.1), (0, .v (.slice a0_0 s21.2.1.length c0_0)), (1, vi s21.2.2)]) (fun s21 y22 => []) (fun s21 y22 => [SlRes e0_0 s21.2.1 a0_0 c0_0]) () [5, 0, 1] [0] 0 (fun s21 y22 t23 h29 hd30 => ?_))
   refine qs (qs (qr (oN 4 [(9, vb (decide (s21.1 < (s21.2.1.length : Int))))] [5, 0, 1] ?_)))
   refine oe (nt (cC h29 (fun h35 => ?_) (fun h36 => ?_)))
   · refine qk (nt (qs (qb (qs (qr (oN 3 [(14, vi s21.2.2), (13, vi s21.1), (12, .v (.slice a0_0 s21.2.1.length c0_0))] [5, 0, 1] ?_))))))
     obtain ⟨x37, hx38, h39⟩ := bS h35
     refine oi 3 (fun γ w hs => (hs.view 0 rfl)) hx38 ?_
     refine oN 1 [(16, .q a0_0 (Int.toNat s21.1 * 3))] [14, 5, 0, 1] ?_
     obtain ⟨l40, hm41, h42⟩ := bS h39
     replace hm41 := (sI hm41).symm
     refine JO_storeq (α := Point) (d := a0_0) (vs := [.int .i64 s21.2.2]) (j := s21.1) (x' := (Point.mk s21.2.2 x37.Known x37.Value)) rfl (by kernel_rfl) 0 (by kernel_rfl) hx38 (Rc := []) (Rr := []) rfl (by kernel_rfl) (fun w c F Fs ho _ _ => own_flat_set (by kernel_rfl) ho) hm41 rfl ?_
     have hl43 := len_set hm41
     refine JO_keep [14, 5, 0, 1] (sl' := [(14, vi s21.2.2), (5, vi s21.1), (0, .v (.slice a0_0 s21.2.1.length c0_0)), (1, vi s21.2.2)]) (by kernel_rfl) ?_
     refine JO_eqE (sl' := [(14, vi s21.2.2), (5, vi s21.1), (0, .v (.slice a0_0 l40.length c0_0)), (1, vi s21.2.2)]) (bx' := []) (by simp only [hl43]) rfl ?_
     refine oe (nt (qs (qr (oN 3 [(1, vi (w64 (s21.2.2 + 1)))] [5, 0] ?_))))
     refine oe (nt (qs (qr (oN 3 [(21, vi (w64 (s21.2.2 + 1))), (20, vi s21.1), (19, .v (.slice a0_0 l40.length c0_0))] [1, 5, 0] ?_))))
     obtain ⟨x44, hx45, h46⟩ := bS h42
     refine oi 3 (fun γ w hs => (hs.view 0 rfl)) hx45 ?_
     refine oN 1 [(23, .q a0_0 (Int.toNat s21.1 * 3 + 1))] [21, 1, 5, 0] ?_
     obtain ⟨l47, hm48, h49⟩ := bS h46
     replace hm48 := (sI hm48).symm
     refine JO_storeq (α := Point) (d := a0_0) (vs := [.int .i64 (w64 (s21.2.2 + 1))]) (j := s21.1) (x' := (Point.mk x44.Month (w64 (s21.2.2 + 1)) x44.Value)) rfl (by kernel_rfl) 1 (by kernel_rfl) hx45 (Rc := []) (Rr := []) rfl (by kernel_rfl) (fun w c F Fs ho _ _ => own_flat_set (by kernel_rfl) ho) hm48 rfl ?_
     have hl50 := len_set hm48
     refine JO_keep [21, 1, 5, 0] (sl' := [(21, vi (w64 (s21.2.2 + 1))), (1, vi (w64 (s21.2.2 + 1))), (5, vi s21.1), (0, .v (.slice a0_0 l40.length c0_0))]) (by kernel_rfl) ?_
     refine JO_eqE (sl' := [(21, vi (w64 (s21.2.2 + 1))), (1, vi (w64 (s21.2.2 + 1))), (5, vi s21.1), (0, .v (.slice a0_0 l47.length c0_0))]) (bx' := []) (by simp only [hl50]) rfl ?_
     refine oe (nt (qs (qr (oN 3 [(1, vi (w64 ((w64 (s21.2.2 + 1)) + 1)))] [5, 0] ?_))))
     refine oe (nt (qs (qr (oN 3 [(28, vi (w64 ((w64 (s21.2.2 + 1)) + 1))), (27, vi s21.1), (26, .v (.slice a0_0 l47.length c0_0))] [1, 5, 0] ?_))))
     obtain ⟨x51, hx52, h53⟩ := bS h49
     refine oi 3 (fun γ w hs => (hs.view 0 rfl)) hx52 ?_
     refine oN 1 [(30, .q a0_0 (Int.toNat s21.1 * 3 + 2))] [28, 1, 5, 0] ?_
     obtain ⟨l54, hm55, h56⟩ := bS h53
     replace hm55 := (sI hm55).symm
     refine JO_storeq (α := Point) (d := a0_0) (vs := [.int .i64 (w64 ((w64 (s21.2.2 + 1)) + 1))]) (j := s21.1) (x' := (Point.mk x51.Month x51.Known (w64 ((w64 (s21.2.2 + 1)) + 1)))) rfl (by kernel_rfl) 2 (by kernel_rfl) hx52 (Rc := []) (Rr := []) rfl (by kernel_rfl) (fun w c F Fs ho _ _ => own_flat_set (by kernel_rfl) ho) hm55 rfl ?_
     have hl57 := len_set hm55
     refine JO_keep [28, 1, 5, 0] (sl' := [(28, vi (w64 ((w64 (s21.2.2 + 1)) + 1))), (1, vi (w64 ((w64 (s21.2.2 + 1)) + 1))), (5, vi s21.1), (0, .v (.slice a0_0 l47.length c0_0))]) (by kernel_rfl) ?_
     refine JO_eqE (sl' := [(28, vi (w64 ((w64 (s21.2.2 + 1)) + 1))), (1, vi (w64 ((w64 (s21.2.2 + 1)) + 1))), (5, vi s21.1), (0, .v (.slice a0_0 l54.length c0_0))]) (bx' := []) (by simp only [hl57]) rfl ?_
     refine oe (nt (qr (oN 3 [(1, vi (w64 ((w64 ((w64 (s21.2.2 + 1)) + 1)) + 1)))] [5, 0] ?_)))
     refine oe (bn (nt (qr (oN 3 [(5, vi (w64 (s21.1 + 1)))] [1, 0] ?_))))
     exact oe (ct h56 () [5, 0, 1] [0] 0)
   refine qx (nx (nx (bh ?_)))
   have h58 := leafB hd30 h36 h26
   exact mp ((s21.2.1, s21.2.2), ()) h58 [0, 1] [0] 0
 have h33 := (congrFun hk28 _).symm.trans h33p
 refine nt (qs (qr (oN 2 [(4, vi y32.1.2)] [0] ?_)))
 refine oe (nt (qe (rt [.int .i64 y32.1.2] (fun γ w hs => ?_))))
 rw [← sI h33]
 exact hs.turned (is := [0]) rfl

theorem c_laws_markSeries {W : World} {x0 : Series} {a0_0 : Option Addr} {c0_0 : Nat} {e0_0 : TypeId} {x1 : Int} {r : Int × (List Point)} (h : laws_markSeries x0 x1 = some r)  :
    GivesM Try.prog 32 #[vSeries x0 (a0_0, c0_0), .int .i64 x1] W [SlRes e0_0 x0.Points a0_0 c0_0] [SlRes e0_0 r.2 a0_0 c0_0] (.int .i64 r.1) := by
 unfold laws_markSeries at h
 refine enM Try.func32 Try.ntmps32 (fun Fs => ?_)
 refine qs (qr (oB 2 [(2, .p 0 0)] [0, 1] [(46, (eSeries x0 (a0_0, c0_0)))] ?_))
 refine oe (nt (qs (qr (oN 3 [(7, vi x1), (6, .v (.slice a0_0 x0.Points.length c0_0))] [0] ?_))))
 obtain ⟨t21, h22, h23⟩ := bS h
 obtain ⟨u25, hu26, h27⟩ := bS h23
 have hl28 := (sameLen_some hu26).symm
 refine JO_callM rfl (by kernel_rfl) (f := 66) (args := #[.slice a0_0 x0.Points.length c0_0, .int .i64 x1]) (by kernel_rfl) (x := .int .i64 t21.1) (Rin := [SlRes e0_0 x0.Points a0_0 c0_0]) (Rout := [SlRes e0_0 t21.2 a0_0 c0_0]) (Rr := []) rfl (fun w => (by have vv := c_laws_markPointS (e0_0 := e0_0) (a0_0 := a0_0) (c0_0 := c0_0) (W := w) h22; exact vv)) (sl' := [(8, vi t21.1), (7, vi x1), (6, .v (.slice a0_0 x0.Points.length c0_0)), (0, .v (vSeries x0 (a0_0, c0_0)))]) (by kernel_rfl) ?_
 refine JO_eqE (sl' := [(8, vi t21.1), (7, vi x1), (6, .v (.slice a0_0 t21.2.length c0_0)), (0, .v (.agg #[.slice a0_0 t21.2.length c0_0]))]) (bx' := [(46, [.slice a0_0 t21.2.length c0_0])]) (by simp only [eSeries, vSeries, hl28]) (by simp only [eSeries, vSeries, hl28]) ?_
 refine oN 1 [(1, vi t21.1)] [0] ?_
 refine oe (nt (qs (qr (oN 2 [(4, vi t21.1)] [0] ?_))))
 refine oe (nt (qe (rt [.int .i64 t21.1] (fun γ w hs => ?_))))
 rw [← sI h27]
 exact hs.turned (is := [0]) rfl

theorem c_laws_markSpellS {W : World} {x0 : List Spell} {a0_0 : Option Addr} {c0_0 : Nat} {e0_0 : TypeId} {x1 : Int} {r : Int × (List Spell)} (h : laws_markSpellS x0 x1 = some r)  :
    GivesM Try.prog 67 #[.slice a0_0 x0.length c0_0, .int .i64 x1] W [SlRes e0_0 x0 a0_0 c0_0] [SlRes e0_0 r.2 a0_0 c0_0] (.int .i64 r.1) := by
 unfold laws_markSpellS at h
 refine enM Try.func67 Try.ntmps67 (fun Fs => ?_)
 refine qs (qr (oN 1 [] [0, 1] ?_))
 refine oe (nt (qs (qs (qr (oN 1 [(5, vi 0)] [0, 1] ?_)))))
 refine oe (nt ?_)
 obtain ⟨r24, hL25, h26⟩ := bS h
 obtain ⟨k27, hk28, h26⟩ := brkS h26
 refine JC_cutP (τ := ((List Spell) × Int) × (Unit)) (fun y => k27 y.1 = some r) (fun y32 => [(0, .v (.slice a0_0 y32.1.1.length c0_0)), (1, vi y32.1.2)]) (fun y32 => []) (fun y32 => [SlRes e0_0 y32.1.1 a0_0 c0_0]) ?_ (fun y32 h33p => ?_)
 · refine qb (lp Unit hL25 (fun s21 y22 => [(5, vi s21.1), (0, .v (.slice a0_0 s21.2.1.length c0_0)), (1, vi s21.2.2)]) (fun s21 y22 => []) (fun s21 y22 => [SlRes e0_0 s21.2.1 a0_0 c0_0]) () [5, 0, 1] [0] 0 (fun s21 y22 t23 h29 hd30 => ?_))
   refine qs (qs (qr (oN 4 [(9, vb (decide (s21.1 < (s21.2.1.length : Int))))] [5, 0, 1] ?_)))
   refine oe (nt (cC h29 (fun h35 => ?_) (fun h36 => ?_)))
   · refine qk (nt (qs (qb (qs (qr (oN 3 [(14, vi s21.2.2), (13, vi s21.1), (12, .v (.slice a0_0 s21.2.1.length c0_0))] [5, 0, 1] ?_))))))
     obtain ⟨x37, hx38, h39⟩ := bS h35
     refine oi 4 (fun γ w hs => (hs.view 0 rfl)) hx38 ?_
     refine oN 1 [(16, .q a0_0 (Int.toNat s21.1 * 4))] [14, 5, 0, 1] ?_
     obtain ⟨l40, hm41, h42⟩ := bS h39
     replace hm41 := (sI hm41).symm
     refine JO_storeq (α := Spell) (d := a0_0) (vs := [.int .i64 s21.2.2]) (j := s21.1) (x' := (Spell.mk s21.2.2 x37.To x37.Percent x37.Leave)) rfl (by kernel_rfl) 0 (by kernel_rfl) hx38 (Rc := []) (Rr := []) rfl (by kernel_rfl) (fun w c F Fs ho _ _ => own_flat_set (by kernel_rfl) ho) hm41 rfl ?_
     have hl43 := len_set hm41
     refine JO_keep [14, 5, 0, 1] (sl' := [(14, vi s21.2.2), (5, vi s21.1), (0, .v (.slice a0_0 s21.2.1.length c0_0)), (1, vi s21.2.2)]) (by kernel_rfl) ?_
     refine JO_eqE (sl' := [(14, vi s21.2.2), (5, vi s21.1), (0, .v (.slice a0_0 l40.length c0_0)), (1, vi s21.2.2)]) (bx' := []) (by simp only [hl43]) rfl ?_
     refine oe (nt (qs (qr (oN 3 [(1, vi (w64 (s21.2.2 + 1)))] [5, 0] ?_))))
     refine oe (nt (qs (qr (oN 3 [(21, vi (w64 (s21.2.2 + 1))), (20, vi s21.1), (19, .v (.slice a0_0 l40.length c0_0))] [1, 5, 0] ?_))))
     obtain ⟨x44, hx45, h46⟩ := bS h42
     refine oi 4 (fun γ w hs => (hs.view 0 rfl)) hx45 ?_
     refine oN 1 [(23, .q a0_0 (Int.toNat s21.1 * 4 + 1))] [21, 1, 5, 0] ?_
     obtain ⟨l47, hm48, h49⟩ := bS h46
     replace hm48 := (sI hm48).symm
     refine JO_storeq (α := Spell) (d := a0_0) (vs := [.int .i64 (w64 (s21.2.2 + 1))]) (j := s21.1) (x' := (Spell.mk x44.From (w64 (s21.2.2 + 1)) x44.Percent x44.Leave)) rfl (by kernel_rfl) 1 (by kernel_rfl) hx45 (Rc := []) (Rr := []) rfl (by kernel_rfl) (fun w c F Fs ho _ _ => own_flat_set (by kernel_rfl) ho) hm48 rfl ?_
     have hl50 := len_set hm48
     refine JO_keep [21, 1, 5, 0] (sl' := [(21, vi (w64 (s21.2.2 + 1))), (1, vi (w64 (s21.2.2 + 1))), (5, vi s21.1), (0, .v (.slice a0_0 l40.length c0_0))]) (by kernel_rfl) ?_
     refine JO_eqE (sl' := [(21, vi (w64 (s21.2.2 + 1))), (1, vi (w64 (s21.2.2 + 1))), (5, vi s21.1), (0, .v (.slice a0_0 l47.length c0_0))]) (bx' := []) (by simp only [hl50]) rfl ?_
     refine oe (nt (qs (qr (oN 3 [(1, vi (w64 ((w64 (s21.2.2 + 1)) + 1)))] [5, 0] ?_))))
     refine oe (nt (qs (qr (oN 3 [(28, vi (w64 ((w64 (s21.2.2 + 1)) + 1))), (27, vi s21.1), (26, .v (.slice a0_0 l47.length c0_0))] [1, 5, 0] ?_))))
     obtain ⟨x51, hx52, h53⟩ := bS h49
     refine oi 4 (fun γ w hs => (hs.view 0 rfl)) hx52 ?_
     refine oN 1 [(30, .q a0_0 (Int.toNat s21.1 * 4 + 2))] [28, 1, 5, 0] ?_
     obtain ⟨l54, hm55, h56⟩ := bS h53
     replace hm55 := (sI hm55).symm
     refine JO_storeq (α := Spell) (d := a0_0) (vs := [.int .i64 (w64 ((w64 (s21.2.2 + 1)) + 1))]) (j := s21.1) (x' := (Spell.mk x51.From x51.To (w64 ((w64 (s21.2.2 + 1)) + 1)) x51.Leave)) rfl (by kernel_rfl) 2 (by kernel_rfl) hx52 (Rc := []) (Rr := []) rfl (by kernel_rfl) (fun w c F Fs ho _ _ => own_flat_set (by kernel_rfl) ho) hm55 rfl ?_
     have hl57 := len_set hm55
     refine JO_keep [28, 1, 5, 0] (sl' := [(28, vi (w64 ((w64 (s21.2.2 + 1)) + 1))), (1, vi (w64 ((w64 (s21.2.2 + 1)) + 1))), (5, vi s21.1), (0, .v (.slice a0_0 l47.length c0_0))]) (by kernel_rfl) ?_
     refine JO_eqE (sl' := [(28, vi (w64 ((w64 (s21.2.2 + 1)) + 1))), (1, vi (w64 ((w64 (s21.2.2 + 1)) + 1))), (5, vi s21.1), (0, .v (.slice a0_0 l54.length c0_0))]) (bx' := []) (by simp only [hl57]) rfl ?_
     refine oe (nt (qs (qr (oN 3 [(1, vi (w64 ((w64 ((w64 (s21.2.2 + 1)) + 1)) + 1)))] [5, 0] ?_))))
     refine oe (nt (qs (qr (oN 5 [(37, vb ((Int.tmod (w64 ((w64 ((w64 (s21.2.2 + 1)) + 1)) + 1)) 3) == 0)), (34, vi s21.1), (33, .v (.slice a0_0 l54.length c0_0))] [1, 5, 0] ?_))))
     obtain ⟨x58, hx59, h60⟩ := bS h56
     refine oi 4 (fun γ w hs => (hs.view 0 rfl)) hx59 ?_
     refine oN 1 [(39, .q a0_0 (Int.toNat s21.1 * 4 + 3))] [37, 1, 5, 0] ?_
     obtain ⟨l61, hm62, h63⟩ := bS h60
     replace hm62 := (sI hm62).symm
     refine JO_storeq (α := Spell) (d := a0_0) (vs := [.bool ((Int.tmod (w64 ((w64 ((w64 (s21.2.2 + 1)) + 1)) + 1)) 3) == 0)]) (j := s21.1) (x' := (Spell.mk x58.From x58.To x58.Percent ((Int.tmod (w64 ((w64 ((w64 (s21.2.2 + 1)) + 1)) + 1)) 3) == 0))) rfl (by kernel_rfl) 3 (by kernel_rfl) hx59 (Rc := []) (Rr := []) rfl (by kernel_rfl) (fun w c F Fs ho _ _ => own_flat_set (by kernel_rfl) ho) hm62 rfl ?_
     have hl64 := len_set hm62
     refine JO_keep [37, 1, 5, 0] (sl' := [(37, vb ((Int.tmod (w64 ((w64 ((w64 (s21.2.2 + 1)) + 1)) + 1)) 3) == 0)), (1, vi (w64 ((w64 ((w64 (s21.2.2 + 1)) + 1)) + 1))), (5, vi s21.1), (0, .v (.slice a0_0 l54.length c0_0))]) (by kernel_rfl) ?_
     refine JO_eqE (sl' := [(37, vb ((Int.tmod (w64 ((w64 ((w64 (s21.2.2 + 1)) + 1)) + 1)) 3) == 0)), (1, vi (w64 ((w64 ((w64 (s21.2.2 + 1)) + 1)) + 1))), (5, vi s21.1), (0, .v (.slice a0_0 l61.length c0_0))]) (bx' := []) (by simp only [hl64]) rfl ?_
     refine oe (nt (qr (oN 3 [(1, vi (w64 ((w64 ((w64 ((w64 (s21.2.2 + 1)) + 1)) + 1)) + 1)))] [5, 0] ?_)))
     refine oe (bn (nt (qr (oN 3 [(5, vi (w64 (s21.1 + 1)))] [1, 0] ?_))))
     exact oe (ct h63 () [5, 0, 1] [0] 0)
   refine qx (nx (nx (bh ?_)))
   have h65 := leafB hd30 h36 h26
   exact mp ((s21.2.1, s21.2.2), ()) h65 [0, 1] [0] 0
 have h33 := (congrFun hk28 _).symm.trans h33p
 refine nt (qs (qr (oN 2 [(4, vi y32.1.2)] [0] ?_)))
 refine oe (nt (qe (rt [.int .i64 y32.1.2] (fun γ w hs => ?_))))
 rw [← sI h33]
 exact hs.turned (is := [0]) rfl

theorem c_laws_markEventS {W : World} {x0 : List Event} {a0_0 : Option Addr} {c0_0 : Nat} {e0_0 : TypeId} {x1 : Int} {r : Int × (List Event)} (h : laws_markEventS x0 x1 = some r)  :
    GivesM Try.prog 68 #[.slice a0_0 x0.length c0_0, .int .i64 x1] W [SlRes e0_0 x0 a0_0 c0_0] [SlRes e0_0 r.2 a0_0 c0_0] (.int .i64 r.1) := by
 unfold laws_markEventS at h
 refine enM Try.func68 Try.ntmps68 (fun Fs => ?_)
 refine qs (qr (oN 1 [] [0, 1] ?_))
 refine oe (nt (qs (qs (qr (oN 1 [(5, vi 0)] [0, 1] ?_)))))
 refine oe (nt ?_)
 obtain ⟨r24, hL25, h26⟩ := bS h
 obtain ⟨k27, hk28, h26⟩ := brkS h26
 refine JC_cutP (τ := ((List Event) × Int) × (Unit)) (fun y => k27 y.1 = some r) (fun y32 => [(0, .v (.slice a0_0 y32.1.1.length c0_0)), (1, vi y32.1.2)]) (fun y32 => []) (fun y32 => [SlRes e0_0 y32.1.1 a0_0 c0_0]) ?_ (fun y32 h33p => ?_)
 · refine qb (lp Unit hL25 (fun s21 y22 => [(5, vi s21.1), (0, .v (.slice a0_0 s21.2.1.length c0_0)), (1, vi s21.2.2)]) (fun s21 y22 => []) (fun s21 y22 => [SlRes e0_0 s21.2.1 a0_0 c0_0]) () [5, 0, 1] [0] 0 (fun s21 y22 t23 h29 hd30 => ?_))
   refine qs (qs (qr (oN 4 [(9, vb (decide (s21.1 < (s21.2.1.length : Int))))] [5, 0, 1] ?_)))
   refine oe (nt (cC h29 (fun h35 => ?_) (fun h36 => ?_)))
   · refine qk (nt (qs (qb (qs (qr (oN 3 [(14, vi s21.2.2), (13, vi s21.1), (12, .v (.slice a0_0 s21.2.1.length c0_0))] [5, 0, 1] ?_))))))
     obtain ⟨x37, hx38, h39⟩ := bS h35
     refine oi 2 (fun γ w hs => (hs.view 0 rfl)) hx38 ?_
     refine oN 1 [(16, .q a0_0 (Int.toNat s21.1 * 2))] [14, 5, 0, 1] ?_
     obtain ⟨l40, hm41, h42⟩ := bS h39
     replace hm41 := (sI hm41).symm
     refine JO_storeq (α := Event) (d := a0_0) (vs := [.int .i64 s21.2.2]) (j := s21.1) (x' := (Event.mk s21.2.2 x37.Month)) rfl (by kernel_rfl) 0 (by kernel_rfl) hx38 (Rc := []) (Rr := []) rfl (by kernel_rfl) (fun w c F Fs ho _ _ => own_flat_set (by kernel_rfl) ho) hm41 rfl ?_
     have hl43 := len_set hm41
     refine JO_keep [14, 5, 0, 1] (sl' := [(14, vi s21.2.2), (5, vi s21.1), (0, .v (.slice a0_0 s21.2.1.length c0_0)), (1, vi s21.2.2)]) (by kernel_rfl) ?_
     refine JO_eqE (sl' := [(14, vi s21.2.2), (5, vi s21.1), (0, .v (.slice a0_0 l40.length c0_0)), (1, vi s21.2.2)]) (bx' := []) (by simp only [hl43]) rfl ?_
     refine oe (nt (qs (qr (oN 3 [(1, vi (w64 (s21.2.2 + 1)))] [5, 0] ?_))))
     refine oe (nt (qs (qr (oN 3 [(21, vi (w64 (s21.2.2 + 1))), (20, vi s21.1), (19, .v (.slice a0_0 l40.length c0_0))] [1, 5, 0] ?_))))
     obtain ⟨x44, hx45, h46⟩ := bS h42
     refine oi 2 (fun γ w hs => (hs.view 0 rfl)) hx45 ?_
     refine oN 1 [(23, .q a0_0 (Int.toNat s21.1 * 2 + 1))] [21, 1, 5, 0] ?_
     obtain ⟨l47, hm48, h49⟩ := bS h46
     replace hm48 := (sI hm48).symm
     refine JO_storeq (α := Event) (d := a0_0) (vs := [.int .i64 (w64 (s21.2.2 + 1))]) (j := s21.1) (x' := (Event.mk x44.Kind (w64 (s21.2.2 + 1)))) rfl (by kernel_rfl) 1 (by kernel_rfl) hx45 (Rc := []) (Rr := []) rfl (by kernel_rfl) (fun w c F Fs ho _ _ => own_flat_set (by kernel_rfl) ho) hm48 rfl ?_
     have hl50 := len_set hm48
     refine JO_keep [21, 1, 5, 0] (sl' := [(21, vi (w64 (s21.2.2 + 1))), (1, vi (w64 (s21.2.2 + 1))), (5, vi s21.1), (0, .v (.slice a0_0 l40.length c0_0))]) (by kernel_rfl) ?_
     refine JO_eqE (sl' := [(21, vi (w64 (s21.2.2 + 1))), (1, vi (w64 (s21.2.2 + 1))), (5, vi s21.1), (0, .v (.slice a0_0 l47.length c0_0))]) (bx' := []) (by simp only [hl50]) rfl ?_
     refine oe (nt (qr (oN 3 [(1, vi (w64 ((w64 (s21.2.2 + 1)) + 1)))] [5, 0] ?_)))
     refine oe (bn (nt (qr (oN 3 [(5, vi (w64 (s21.1 + 1)))] [1, 0] ?_))))
     exact oe (ct h49 () [5, 0, 1] [0] 0)
   refine qx (nx (nx (bh ?_)))
   have h51 := leafB hd30 h36 h26
   exact mp ((s21.2.1, s21.2.2), ()) h51 [0, 1] [0] 0
 have h33 := (congrFun hk28 _).symm.trans h33p
 refine nt (qs (qr (oN 2 [(4, vi y32.1.2)] [0] ?_)))
 refine oe (nt (qe (rt [.int .i64 y32.1.2] (fun γ w hs => ?_))))
 rw [← sI h33]
 exact hs.turned (is := [0]) rfl

theorem c_laws_markMember {W : World} {x0 : Member} {a0_0 : Option Addr} {c0_0 : Nat} {e0_0 : TypeId} {a0_1 : Option Addr} {c0_1 : Nat} {e0_1 : TypeId} {x1 : Int} {r : Int × (List Spell) × (List Event)} (h : laws_markMember x0 x1 = some r)  :
    GivesM Try.prog 33 #[vMember x0 ((a0_0, c0_0), (a0_1, c0_1)), .int .i64 x1] W [SlRes e0_0 x0.Spells a0_0 c0_0, SlRes e0_1 x0.Events a0_1 c0_1] [SlRes e0_0 r.2.1 a0_0 c0_0, SlRes e0_1 r.2.2 a0_1 c0_1] (.int .i64 r.1) := by
 unfold laws_markMember at h
 refine enM Try.func33 Try.ntmps33 (fun Fs => ?_)
 refine qs (qr (oB 2 [(2, .p 0 0)] [0, 1] [(50, (eMember x0 ((a0_0, c0_0), (a0_1, c0_1))))] ?_))
 refine oe (nt (qs (qr (oN 3 [(7, vi x1), (6, .v (.slice a0_0 x0.Spells.length c0_0))] [2, 0] ?_))))
 obtain ⟨t21, h22, h23⟩ := bS h
 obtain ⟨u25, hu26, h27⟩ := bS h23
 have hl28 := (sameLen_some hu26).symm
 refine JO_callM rfl (by kernel_rfl) (f := 67) (args := #[.slice a0_0 x0.Spells.length c0_0, .int .i64 x1]) (by kernel_rfl) (x := .int .i64 t21.1) (Rin := [SlRes e0_0 x0.Spells a0_0 c0_0]) (Rout := [SlRes e0_0 t21.2 a0_0 c0_0]) (Rr := [SlRes e0_1 x0.Events a0_1 c0_1]) rfl (fun w => (by have vv := c_laws_markSpellS (e0_0 := e0_0) (a0_0 := a0_0) (c0_0 := c0_0) (W := w) h22; exact vv)) (sl' := [(8, vi t21.1), (7, vi x1), (6, .v (.slice a0_0 x0.Spells.length c0_0)), (2, .p 0 0), (0, .v (vMember x0 ((a0_0, c0_0), (a0_1, c0_1))))]) (by kernel_rfl) ?_
 refine JO_eqE (sl' := [(8, vi t21.1), (7, vi x1), (6, .v (.slice a0_0 t21.2.length c0_0)), (2, .p 0 0), (0, .v (vMember (Member.mk x0.Birth x0.Joined t21.2 x0.Events) ((a0_0, c0_0), (a0_1, c0_1))))]) (bx' := [(50, (eMember (Member.mk x0.Birth x0.Joined t21.2 x0.Events) ((a0_0, c0_0), (a0_1, c0_1))))]) (by simp only [eMember, vMember, hl28]) (by simp only [eMember, vMember, hl28]) ?_
 refine oN 1 [(1, vi t21.1)] [2, 0] ?_
 refine oe (nt (qs (qr (oN 3 [(11, vi t21.1), (10, .v (.slice a0_1 x0.Events.length c0_1))] [0] ?_))))
 refine or_ [1, 0] ?_
 obtain ⟨t29, h30, h31⟩ := bS h27
 obtain ⟨u33, hu34, h35⟩ := bS h31
 have hl36 := (sameLen_some hu34).symm
 refine JO_callM rfl (by kernel_rfl) (f := 68) (args := #[.slice a0_1 x0.Events.length c0_1, .int .i64 t21.1]) (by kernel_rfl) (x := .int .i64 t29.1) (Rin := [SlRes e0_1 x0.Events a0_1 c0_1]) (Rout := [SlRes e0_1 t29.2 a0_1 c0_1]) (Rr := [SlRes e0_0 t21.2 a0_0 c0_0]) rfl (fun w => (by have vv := c_laws_markEventS (e0_0 := e0_1) (a0_0 := a0_1) (c0_0 := c0_1) (W := w) h30; exact vv)) (sl' := [(12, vi t29.1), (11, vi t21.1), (10, .v (.slice a0_1 x0.Events.length c0_1)), (0, .v (vMember (Member.mk x0.Birth x0.Joined t21.2 x0.Events) ((a0_0, c0_0), (a0_1, c0_1))))]) (by kernel_rfl) ?_
 refine JO_eqE (sl' := [(12, vi t29.1), (11, vi t21.1), (10, .v (.slice a0_1 t29.2.length c0_1)), (0, .v (vMember (Member.mk x0.Birth x0.Joined t21.2 t29.2) ((a0_0, c0_0), (a0_1, c0_1))))]) (bx' := [(50, (eMember (Member.mk x0.Birth x0.Joined t21.2 t29.2) ((a0_0, c0_0), (a0_1, c0_1))))]) (by simp only [eMember, vMember, hl36]) (by simp only [eMember, vMember, hl36]) ?_
 refine oN 1 [(1, vi t29.1)] [0] ?_
 refine oe (nt (qs (qr (oN 2 [(4, vi t29.1)] [0] ?_))))
 refine oe (nt (qe (rt [.int .i64 t29.1] (fun γ w hs => ?_))))
 rw [← sI h35]
 exact hs.turned (is := [1, 0]) rfl

theorem c_laws_markCase {W : World} {x0 : Case} {a0_0 : Option Addr} {c0_0 : Nat} {e0_0 : TypeId} {a0_1 : Option Addr} {c0_1 : Nat} {e0_1 : TypeId} {a0_2 : Option Addr} {c0_2 : Nat} {e0_2 : TypeId} {a0_3 : Option Addr} {c0_3 : Nat} {e0_3 : TypeId} {a0_4 : Option Addr} {c0_4 : Nat} {e0_4 : TypeId} {x1 : Int} {r : Int × (List Rule) × (List Fact) × (List Point) × (List Spell) × (List Event)} (h : laws_markCase x0 x1 = some r)  :
    GivesM Try.prog 9 #[vCase x0 ((a0_0, c0_0), (a0_1, c0_1), (a0_2, c0_2), (a0_3, c0_3), (a0_4, c0_4)), .int .i64 x1] W [SlRes e0_0 x0.Book.Rules a0_0 c0_0, SlRes e0_1 x0.Store.Facts a0_1 c0_1, SlRes e0_2 x0.Series.Points a0_2 c0_2, SlRes e0_3 x0.Member.Spells a0_3 c0_3, SlRes e0_4 x0.Member.Events a0_4 c0_4] [SlRes e0_0 r.2.1 a0_0 c0_0, SlRes e0_1 r.2.2.1 a0_1 c0_1, SlRes e0_2 r.2.2.2.1 a0_2 c0_2, SlRes e0_3 r.2.2.2.2.1 a0_3 c0_3, SlRes e0_4 r.2.2.2.2.2 a0_4 c0_4] (.int .i64 r.1) := by
 unfold laws_markCase at h
 refine enM Try.func9 Try.ntmps9 (fun Fs => ?_)
 refine qs (qr (oB 2 [(2, .p 0 0)] [0, 1] [(52, (eCase x0 ((a0_0, c0_0), (a0_1, c0_1), (a0_2, c0_2), (a0_3, c0_3), (a0_4, c0_4))))] ?_))
 refine oe (nt (qs (qr (oN 3 [(7, vi x1), (6, .v (vBook x0.Book (a0_0, c0_0)))] [2, 0] ?_))))
 obtain ⟨t21, h22, h23⟩ := bS h
 obtain ⟨u25, hu26, h27⟩ := bS h23
 have hl28 := (sameLen_some hu26).symm
 refine JO_callM rfl (by kernel_rfl) (f := 30) (args := #[vBook x0.Book (a0_0, c0_0), .int .i64 x1]) (by kernel_rfl) (x := .int .i64 t21.1) (Rin := [SlRes e0_0 x0.Book.Rules a0_0 c0_0]) (Rout := [SlRes e0_0 t21.2 a0_0 c0_0]) (Rr := [SlRes e0_1 x0.Store.Facts a0_1 c0_1, SlRes e0_2 x0.Series.Points a0_2 c0_2, SlRes e0_3 x0.Member.Spells a0_3 c0_3, SlRes e0_4 x0.Member.Events a0_4 c0_4]) rfl (fun w => (by have vv := c_laws_markBook (e0_0 := e0_0) (a0_0 := a0_0) (c0_0 := c0_0) (W := w) h22; exact vv)) (sl' := [(8, vi t21.1), (7, vi x1), (6, .v (vBook x0.Book (a0_0, c0_0))), (2, .p 0 0), (0, .v (vCase x0 ((a0_0, c0_0), (a0_1, c0_1), (a0_2, c0_2), (a0_3, c0_3), (a0_4, c0_4))))]) (by kernel_rfl) ?_
 refine JO_eqE (sl' := [(8, vi t21.1), (7, vi x1), (6, .v (vBook (Book.mk t21.2) (a0_0, c0_0))), (2, .p 0 0), (0, .v (vCase (Case.mk (Book.mk t21.2) x0.Store x0.Series x0.Member) ((a0_0, c0_0), (a0_1, c0_1), (a0_2, c0_2), (a0_3, c0_3), (a0_4, c0_4))))]) (bx' := [(52, (eCase (Case.mk (Book.mk t21.2) x0.Store x0.Series x0.Member) ((a0_0, c0_0), (a0_1, c0_1), (a0_2, c0_2), (a0_3, c0_3), (a0_4, c0_4))))]) (by simp only [eBook, eCase, vBook, vCase, hl28]) (by simp only [eCase, vCase, hl28]) ?_
 refine oN 1 [(1, vi t21.1)] [2, 0] ?_
 refine oe (nt (qs (qr (oN 3 [(11, vi t21.1), (10, .v (vStore x0.Store (a0_1, c0_1)))] [2, 0] ?_))))
 refine JO_res (R' := [SlRes e0_1 x0.Store.Facts a0_1 c0_1, SlRes e0_0 t21.2 a0_0 c0_0, SlRes e0_2 x0.Series.Points a0_2 c0_2, SlRes e0_3 x0.Member.Spells a0_3 c0_3, SlRes e0_4 x0.Member.Events a0_4 c0_4]) [1, 0, 0, 0, 0] (by kernel_rfl) ?_
 obtain ⟨t29, h30, h31⟩ := bS h27
 obtain ⟨u33, hu34, h35⟩ := bS h31
 have hl36 := (sameLen_some hu34).symm
 refine JO_callM rfl (by kernel_rfl) (f := 31) (args := #[vStore x0.Store (a0_1, c0_1), .int .i64 t21.1]) (by kernel_rfl) (x := .int .i64 t29.1) (Rin := [SlRes e0_1 x0.Store.Facts a0_1 c0_1]) (Rout := [SlRes e0_1 t29.2 a0_1 c0_1]) (Rr := [SlRes e0_0 t21.2 a0_0 c0_0, SlRes e0_2 x0.Series.Points a0_2 c0_2, SlRes e0_3 x0.Member.Spells a0_3 c0_3, SlRes e0_4 x0.Member.Events a0_4 c0_4]) rfl (fun w => (by have vv := c_laws_markStore (e0_0 := e0_1) (a0_0 := a0_1) (c0_0 := c0_1) (W := w) h30; exact vv)) (sl' := [(12, vi t29.1), (11, vi t21.1), (10, .v (vStore x0.Store (a0_1, c0_1))), (2, .p 0 0), (0, .v (vCase (Case.mk (Book.mk t21.2) x0.Store x0.Series x0.Member) ((a0_0, c0_0), (a0_1, c0_1), (a0_2, c0_2), (a0_3, c0_3), (a0_4, c0_4))))]) (by kernel_rfl) ?_
 refine JO_eqE (sl' := [(12, vi t29.1), (11, vi t21.1), (10, .v (vStore (Store.mk t29.2) (a0_1, c0_1))), (2, .p 0 0), (0, .v (vCase (Case.mk (Book.mk t21.2) (Store.mk t29.2) x0.Series x0.Member) ((a0_0, c0_0), (a0_1, c0_1), (a0_2, c0_2), (a0_3, c0_3), (a0_4, c0_4))))]) (bx' := [(52, (eCase (Case.mk (Book.mk t21.2) (Store.mk t29.2) x0.Series x0.Member) ((a0_0, c0_0), (a0_1, c0_1), (a0_2, c0_2), (a0_3, c0_3), (a0_4, c0_4))))]) (by simp only [eCase, eStore, vCase, vStore, hl36]) (by simp only [eCase, vCase, hl36]) ?_
 refine oN 1 [(1, vi t29.1)] [2, 0] ?_
 refine oe (nt (qs (qr (oN 3 [(15, vi t29.1), (14, .v (vSeries x0.Series (a0_2, c0_2)))] [2, 0] ?_))))
 refine JO_res (R' := [SlRes e0_2 x0.Series.Points a0_2 c0_2, SlRes e0_1 t29.2 a0_1 c0_1, SlRes e0_0 t21.2 a0_0 c0_0, SlRes e0_3 x0.Member.Spells a0_3 c0_3, SlRes e0_4 x0.Member.Events a0_4 c0_4]) [2, 0, 0, 0, 0] (by kernel_rfl) ?_
 obtain ⟨t37, h38, h39⟩ := bS h35
 obtain ⟨u41, hu42, h43⟩ := bS h39
 have hl44 := (sameLen_some hu42).symm
 refine JO_callM rfl (by kernel_rfl) (f := 32) (args := #[vSeries x0.Series (a0_2, c0_2), .int .i64 t29.1]) (by kernel_rfl) (x := .int .i64 t37.1) (Rin := [SlRes e0_2 x0.Series.Points a0_2 c0_2]) (Rout := [SlRes e0_2 t37.2 a0_2 c0_2]) (Rr := [SlRes e0_1 t29.2 a0_1 c0_1, SlRes e0_0 t21.2 a0_0 c0_0, SlRes e0_3 x0.Member.Spells a0_3 c0_3, SlRes e0_4 x0.Member.Events a0_4 c0_4]) rfl (fun w => (by have vv := c_laws_markSeries (e0_0 := e0_2) (a0_0 := a0_2) (c0_0 := c0_2) (W := w) h38; exact vv)) (sl' := [(16, vi t37.1), (15, vi t29.1), (14, .v (vSeries x0.Series (a0_2, c0_2))), (2, .p 0 0), (0, .v (vCase (Case.mk (Book.mk t21.2) (Store.mk t29.2) x0.Series x0.Member) ((a0_0, c0_0), (a0_1, c0_1), (a0_2, c0_2), (a0_3, c0_3), (a0_4, c0_4))))]) (by kernel_rfl) ?_
 refine JO_eqE (sl' := [(16, vi t37.1), (15, vi t29.1), (14, .v (.agg #[.slice a0_2 t37.2.length c0_2])), (2, .p 0 0), (0, .v (vCase (Case.mk (Book.mk t21.2) (Store.mk t29.2) (Series.mk t37.2) x0.Member) ((a0_0, c0_0), (a0_1, c0_1), (a0_2, c0_2), (a0_3, c0_3), (a0_4, c0_4))))]) (bx' := [(52, (eCase (Case.mk (Book.mk t21.2) (Store.mk t29.2) (Series.mk t37.2) x0.Member) ((a0_0, c0_0), (a0_1, c0_1), (a0_2, c0_2), (a0_3, c0_3), (a0_4, c0_4))))]) (by simp only [eCase, eSeries, vCase, vSeries, hl44]) (by simp only [eCase, vCase, hl44]) ?_
 refine oN 1 [(1, vi t37.1)] [2, 0] ?_
 refine oe (nt (qs (qr (oN 3 [(19, vi t37.1), (18, .v (vMember x0.Member ((a0_3, c0_3), (a0_4, c0_4))))] [0] ?_))))
 refine JO_res (R' := [SlRes e0_3 x0.Member.Spells a0_3 c0_3, SlRes e0_4 x0.Member.Events a0_4 c0_4, SlRes e0_2 t37.2 a0_2 c0_2, SlRes e0_1 t29.2 a0_1 c0_1, SlRes e0_0 t21.2 a0_0 c0_0]) [3, 3, 0, 0, 0] (by kernel_rfl) ?_
 obtain ⟨t45, h46, h47⟩ := bS h43
 obtain ⟨u49, hu50, h51⟩ := bS h47
 have hl52 := (sameLen_some hu50).symm
 obtain ⟨u53, hu54, h55⟩ := bS h51
 have hl56 := (sameLen_some hu54).symm
 refine JO_callM rfl (by kernel_rfl) (f := 33) (args := #[vMember x0.Member ((a0_3, c0_3), (a0_4, c0_4)), .int .i64 t37.1]) (by kernel_rfl) (x := .int .i64 t45.1) (Rin := [SlRes e0_3 x0.Member.Spells a0_3 c0_3, SlRes e0_4 x0.Member.Events a0_4 c0_4]) (Rout := [SlRes e0_3 t45.2.1 a0_3 c0_3, SlRes e0_4 t45.2.2 a0_4 c0_4]) (Rr := [SlRes e0_2 t37.2 a0_2 c0_2, SlRes e0_1 t29.2 a0_1 c0_1, SlRes e0_0 t21.2 a0_0 c0_0]) rfl (fun w => (by have vv := c_laws_markMember (e0_0 := e0_3) (a0_0 := a0_3) (c0_0 := c0_3) (e0_1 := e0_4) (a0_1 := a0_4) (c0_1 := c0_4) (W := w) h46; exact vv)) (sl' := [(20, vi t45.1), (19, vi t37.1), (18, .v (vMember x0.Member ((a0_3, c0_3), (a0_4, c0_4)))), (0, .v (vCase (Case.mk (Book.mk t21.2) (Store.mk t29.2) (Series.mk t37.2) x0.Member) ((a0_0, c0_0), (a0_1, c0_1), (a0_2, c0_2), (a0_3, c0_3), (a0_4, c0_4))))]) (by kernel_rfl) ?_
 refine JO_eqE (sl' := [(20, vi t45.1), (19, vi t37.1), (18, .v (vMember (Member.mk x0.Member.Birth x0.Member.Joined t45.2.1 t45.2.2) ((a0_3, c0_3), (a0_4, c0_4)))), (0, .v (vCase (Case.mk (Book.mk t21.2) (Store.mk t29.2) (Series.mk t37.2) (Member.mk x0.Member.Birth x0.Member.Joined t45.2.1 t45.2.2)) ((a0_0, c0_0), (a0_1, c0_1), (a0_2, c0_2), (a0_3, c0_3), (a0_4, c0_4))))]) (bx' := [(52, (eCase (Case.mk (Book.mk t21.2) (Store.mk t29.2) (Series.mk t37.2) (Member.mk x0.Member.Birth x0.Member.Joined t45.2.1 t45.2.2)) ((a0_0, c0_0), (a0_1, c0_1), (a0_2, c0_2), (a0_3, c0_3), (a0_4, c0_4))))]) (by simp only [eCase, eMember, vCase, vMember, hl52, hl56]) (by simp only [eCase, vCase, hl52, hl56]) ?_
 refine oN 1 [(1, vi t45.1)] [0] ?_
 refine oe (nt (qs (qr (oN 2 [(4, vi t45.1)] [0] ?_))))
 refine oe (nt (qe (rt [.int .i64 t45.1] (fun γ w hs => ?_))))
 rw [← sI h55]
 exact hs.turned (is := [4, 3, 2, 0, 0]) rfl

theorem c_laws_heldNodeS {W : World} {x0 : List Node} {a0_0 : Option Addr} {c0_0 : Nat} {x1 : Int} {r : Int} (h : laws_heldNodeS x0 x1 = some r) (hv0_0 : SlView W x0 a0_0 c0_0) :
    Gives0 Try.prog 91 #[.slice a0_0 x0.length c0_0, .int .i64 x1] W (.int .i64 r) := by
 unfold laws_heldNodeS at h
 refine en Try.func91 Try.ntmps91 ?_
 refine qs (qr (oN 1 [] [0, 1] ?_))
 refine oe (nt (qs (qs (qr (oN 1 [(5, vi 0)] [0, 1] ?_)))))
 refine oe (nt ?_)
 obtain ⟨r24, hL25, h26⟩ := bS h
 obtain ⟨k27, hk28, h26⟩ := brkS h26
 refine JC_cutP (τ := (Int) × (Unit)) (fun y => k27 y.1 = some r) (fun y32 => [(1, vi y32.1)]) (fun y32 => []) (fun y32 => []) ?_ (fun y32 h33p => ?_)
 · refine qb (lp Unit hL25 (fun s21 y22 => [(5, vi s21.1), (0, .v (.slice a0_0 x0.length c0_0)), (1, vi s21.2)]) (fun s21 y22 => []) (fun s21 y22 => []) () [5, 0, 1] [] 0 (fun s21 y22 t23 h29 hd30 => ?_))
   refine qs (qs (qr (oN 4 [(9, vb (decide (s21.1 < (x0.length : Int))))] [5, 0, 1] ?_)))
   refine oe (nt (cC h29 (fun h35 => ?_) (fun h36 => ?_)))
   · refine qk (nt (qs (qb (qs (qs (qr (oN 2 [(13, vi s21.1), (12, .v (.slice a0_0 x0.length c0_0))] [5, 0, 1] ?_)))))))
     obtain ⟨x37, hx38, h39⟩ := bS h35
     refine oi 6 (fun γ w hs => (hv0_0.kept hs.kept)) hx38 ?_
     refine oN 1 [(15, .q a0_0 (Int.toNat s21.1 * 6))] [5, 0, 1] ?_
     refine ol 3 0 (.int .i64 x37.Kind) (fun γ w hs => (hv0_0.kept hs.kept).flatq hx38) ?_
     refine oN 2 [(18, vb (x37.Kind != s21.2))] [5, 0, 1] ?_
     refine oe (nt (cC h39 (fun h41 => ?_) (fun h42 => ?_)))
     · refine qs (qr (oN 1 [(4, vi (-1))] [] ?_))
       refine oe (nt (qe (nr (br (nr (nr ?_))))))
       have h43 := leafR hd30 h41 h26
       refine br (nr (nr ?_))
       obtain rfl := sI h43
       exact re [.int .i64 (-1)]
     refine qk (nt (qs (qr (oN 3 [(1, vi (w64 (s21.2 + 1)))] [5, 0] ?_))))
     refine oe (nt (qs (qs (qr (oN 2 [(22, vi s21.1), (21, .v (.slice a0_0 x0.length c0_0))] [1, 5, 0] ?_)))))
     obtain ⟨x44, hx45, h46⟩ := bS h42
     refine oi 6 (fun γ w hs => (hv0_0.kept hs.kept)) hx45 ?_
     refine oN 1 [(24, .q a0_0 (Int.toNat s21.1 * 6 + 1))] [1, 5, 0] ?_
     refine ol 3 1 (.int .i64 x44.A) (fun γ w hs => (hv0_0.kept hs.kept).flatq hx45) ?_
     refine oN 2 [(27, vb (x44.A != (w64 (s21.2 + 1))))] [1, 5, 0] ?_
     refine oe (nt (cC h46 (fun h48 => ?_) (fun h49 => ?_)))
     · refine qs (qr (oN 1 [(4, vi (-1))] [] ?_))
       refine oe (nt (qe (nr (br (nr (nr ?_))))))
       have h50 := leafR hd30 h48 h26
       refine br (nr (nr ?_))
       obtain rfl := sI h50
       exact re [.int .i64 (-1)]
     refine qk (nt (qs (qr (oN 3 [(1, vi (w64 ((w64 (s21.2 + 1)) + 1)))] [5, 0] ?_))))
     refine oe (nt (qs (qs (qr (oN 2 [(31, vi s21.1), (30, .v (.slice a0_0 x0.length c0_0))] [1, 5, 0] ?_)))))
     obtain ⟨x51, hx52, h53⟩ := bS h49
     refine oi 6 (fun γ w hs => (hv0_0.kept hs.kept)) hx52 ?_
     refine oN 1 [(33, .q a0_0 (Int.toNat s21.1 * 6 + 2))] [1, 5, 0] ?_
     refine ol 3 2 (.int .i64 x51.B) (fun γ w hs => (hv0_0.kept hs.kept).flatq hx52) ?_
     refine oN 2 [(36, vb (x51.B != (w64 ((w64 (s21.2 + 1)) + 1))))] [1, 5, 0] ?_
     refine oe (nt (cC h53 (fun h55 => ?_) (fun h56 => ?_)))
     · refine qs (qr (oN 1 [(4, vi (-1))] [] ?_))
       refine oe (nt (qe (nr (br (nr (nr ?_))))))
       have h57 := leafR hd30 h55 h26
       refine br (nr (nr ?_))
       obtain rfl := sI h57
       exact re [.int .i64 (-1)]
     refine qk (nt (qs (qr (oN 3 [(1, vi (w64 ((w64 ((w64 (s21.2 + 1)) + 1)) + 1)))] [5, 0] ?_))))
     refine oe (nt (qs (qs (qr (oN 2 [(40, vi s21.1), (39, .v (.slice a0_0 x0.length c0_0))] [1, 5, 0] ?_)))))
     obtain ⟨x58, hx59, h60⟩ := bS h56
     refine oi 6 (fun γ w hs => (hv0_0.kept hs.kept)) hx59 ?_
     refine oN 1 [(42, .q a0_0 (Int.toNat s21.1 * 6 + 3))] [1, 5, 0] ?_
     refine ol 3 3 (.int .i64 x58.C) (fun γ w hs => (hv0_0.kept hs.kept).flatq hx59) ?_
     refine oN 2 [(45, vb (x58.C != (w64 ((w64 ((w64 (s21.2 + 1)) + 1)) + 1))))] [1, 5, 0] ?_
     refine oe (nt (cC h60 (fun h62 => ?_) (fun h63 => ?_)))
     · refine qs (qr (oN 1 [(4, vi (-1))] [] ?_))
       refine oe (nt (qe (nr (br (nr (nr ?_))))))
       have h64 := leafR hd30 h62 h26
       refine br (nr (nr ?_))
       obtain rfl := sI h64
       exact re [.int .i64 (-1)]
     refine qk (nt (qs (qr (oN 3 [(1, vi (w64 ((w64 ((w64 ((w64 (s21.2 + 1)) + 1)) + 1)) + 1)))] [5, 0] ?_))))
     refine oe (nt (qs (qs (qr (oN 2 [(49, vi s21.1), (48, .v (.slice a0_0 x0.length c0_0))] [1, 5, 0] ?_)))))
     obtain ⟨x65, hx66, h67⟩ := bS h63
     refine oi 6 (fun γ w hs => (hv0_0.kept hs.kept)) hx66 ?_
     refine oN 2 [(52, .q a0_0 (Int.toNat s21.1 * 6 + 4))] [1, 5, 0] ?_
     refine ol 3 4 (.int .i64 x65.Value.Num) (fun γ w hs => (hv0_0.kept hs.kept).flatq hx66) ?_
     refine oN 2 [(55, vb (x65.Value.Num != (w64 ((w64 ((w64 ((w64 (s21.2 + 1)) + 1)) + 1)) + 1))))] [1, 5, 0] ?_
     refine oe (nt (cC h67 (fun h69 => ?_) (fun h70 => ?_)))
     · refine qs (qr (oN 1 [(4, vi (-1))] [] ?_))
       refine oe (nt (qe (nr (br (nr (nr ?_))))))
       have h71 := leafR hd30 h69 h26
       refine br (nr (nr ?_))
       obtain rfl := sI h71
       exact re [.int .i64 (-1)]
     refine qk (nt (qs (qr (oN 3 [(1, vi (w64 ((w64 ((w64 ((w64 ((w64 (s21.2 + 1)) + 1)) + 1)) + 1)) + 1)))] [5, 0] ?_))))
     refine oe (nt (qs (qs (qr (oN 2 [(59, vi s21.1), (58, .v (.slice a0_0 x0.length c0_0))] [1, 5, 0] ?_)))))
     obtain ⟨x72, hx73, h74⟩ := bS h70
     refine oi 6 (fun γ w hs => (hv0_0.kept hs.kept)) hx73 ?_
     refine oN 2 [(62, .q a0_0 (Int.toNat s21.1 * 6 + 5))] [1, 5, 0] ?_
     refine ol 3 5 (.int .i64 x72.Value.Den) (fun γ w hs => (hv0_0.kept hs.kept).flatq hx73) ?_
     refine oN 2 [(65, vb (x72.Value.Den != (w64 ((w64 ((w64 ((w64 ((w64 (s21.2 + 1)) + 1)) + 1)) + 1)) + 1))))] [1, 5, 0] ?_
     refine oe (nt (cC h74 (fun h76 => ?_) (fun h77 => ?_)))
     · refine qs (qr (oN 1 [(4, vi (-1))] [] ?_))
       refine oe (nt (qe (nr (br (nr (nr ?_))))))
       have h78 := leafR hd30 h76 h26
       refine br (nr (nr ?_))
       obtain rfl := sI h78
       exact re [.int .i64 (-1)]
     refine qk (nt (qr (oN 3 [(1, vi (w64 ((w64 ((w64 ((w64 ((w64 ((w64 (s21.2 + 1)) + 1)) + 1)) + 1)) + 1)) + 1)))] [5, 0] ?_)))
     refine oe (bn (nt (qr (oN 3 [(5, vi (w64 (s21.1 + 1)))] [1, 0] ?_))))
     exact oe (ct h77 () [5, 0, 1] [] 0)
   refine qx (nx (nx (bh ?_)))
   have h79 := leafB hd30 h36 h26
   exact mp (s21.2, ()) h79 [1] [] 0
 have h33 := (congrFun hk28 _).symm.trans h33p
 refine nt (qs (qr (oN 2 [(4, vi y32.1)] [] ?_)))
 refine oe (nt (qe ?_))
 obtain rfl := sI h33
 exact re [.int .i64 y32.1]

theorem c_laws_heldRuleS {W : World} {x0 : List Rule} {a0_0 : Option Addr} {c0_0 : Nat} {x1 : Int} {r : Int} (h : laws_heldRuleS x0 x1 = some r) (hv0_0 : SlView W x0 a0_0 c0_0) :
    Gives0 Try.prog 69 #[.slice a0_0 x0.length c0_0, .int .i64 x1] W (.int .i64 r) := by
 unfold laws_heldRuleS at h
 refine en Try.func69 Try.ntmps69 ?_
 refine qs (qr (oN 1 [] [0, 1] ?_))
 refine oe (nt (qs (qs (qr (oN 1 [(5, vi 0)] [0, 1] ?_)))))
 refine oe (nt ?_)
 obtain ⟨r24, hL25, h26⟩ := bS h
 obtain ⟨k27, hk28, h26⟩ := brkS h26
 refine JC_cutP (τ := (Int) × (Unit)) (fun y => k27 y.1 = some r) (fun y32 => [(1, vi y32.1)]) (fun y32 => []) (fun y32 => []) ?_ (fun y32 h33p => ?_)
 · refine qb (lp Unit hL25 (fun s21 y22 => [(5, vi s21.1), (0, .v (.slice a0_0 x0.length c0_0)), (1, vi s21.2)]) (fun s21 y22 => []) (fun s21 y22 => []) () [5, 0, 1] [] 0 (fun s21 y22 t23 h29 hd30 => ?_))
   refine qs (qs (qr (oN 4 [(9, vb (decide (s21.1 < (x0.length : Int))))] [5, 0, 1] ?_)))
   refine oe (nt (cC h29 (fun h35 => ?_) (fun h36 => ?_)))
   · refine qk (nt (qs (qb (qs (qs (qr (oN 2 [(13, vi s21.1), (12, .v (.slice a0_0 x0.length c0_0))] [5, 0, 1] ?_)))))))
     obtain ⟨x37, hx38, h39⟩ := bS h35
     refine oi 7 (fun γ w hs => (hv0_0.kept hs.kept)) hx38 ?_
     refine oN 1 [(15, .q a0_0 (Int.toNat s21.1 * 7))] [5, 0, 1] ?_
     obtain ⟨_, ⟨a40, c41, rfl, hv42⟩, hc43⟩ := SlView.at hv0_0 (idx_some hx38).2.2
     refine ol 3 0 (.int .i64 x37.Name) (fun γ w hs => ⟨(hv0_0.kept hs.kept).ne (idx_some hx38).2.2, hc43.kept hs.kept⟩) ?_
     refine oN 2 [(18, vb (x37.Name != s21.2))] [5, 0, 1] ?_
     refine oe (nt (cC h39 (fun h45 => ?_) (fun h46 => ?_)))
     · refine qs (qr (oN 1 [(4, vi (-1))] [] ?_))
       refine oe (nt (qe (nr (br (nr (nr ?_))))))
       have h47 := leafR hd30 h45 h26
       refine br (nr (nr ?_))
       obtain rfl := sI h47
       exact re [.int .i64 (-1)]
     refine qk (nt (qs (qr (oN 3 [(1, vi (w64 (s21.2 + 1)))] [5, 0] ?_))))
     refine oe (nt (qs (qs (qr (oN 2 [(22, vi s21.1), (21, .v (.slice a0_0 x0.length c0_0))] [1, 5, 0] ?_)))))
     obtain ⟨x48, hx49, h50⟩ := bS h46
     refine oi 7 (fun γ w hs => (hv0_0.kept hs.kept)) hx49 ?_
     refine oN 1 [(24, .q a0_0 (Int.toNat s21.1 * 7 + 1))] [1, 5, 0] ?_
     obtain ⟨_, ⟨a51, c52, rfl, hv53⟩, hc54⟩ := SlView.at hv0_0 (idx_some hx49).2.2
     refine ol 3 1 (.int .i64 x48.From) (fun γ w hs => ⟨(hv0_0.kept hs.kept).ne (idx_some hx49).2.2, hc54.kept hs.kept⟩) ?_
     refine oN 2 [(27, vb (x48.From != (w64 (s21.2 + 1))))] [1, 5, 0] ?_
     refine oe (nt (cC h50 (fun h56 => ?_) (fun h57 => ?_)))
     · refine qs (qr (oN 1 [(4, vi (-1))] [] ?_))
       refine oe (nt (qe (nr (br (nr (nr ?_))))))
       have h58 := leafR hd30 h56 h26
       refine br (nr (nr ?_))
       obtain rfl := sI h58
       exact re [.int .i64 (-1)]
     refine qk (nt (qs (qr (oN 3 [(1, vi (w64 ((w64 (s21.2 + 1)) + 1)))] [5, 0] ?_))))
     refine oe (nt (qs (qs (qr (oN 2 [(31, vi s21.1), (30, .v (.slice a0_0 x0.length c0_0))] [1, 5, 0] ?_)))))
     obtain ⟨x59, hx60, h61⟩ := bS h57
     refine oi 7 (fun γ w hs => (hv0_0.kept hs.kept)) hx60 ?_
     refine oN 1 [(33, .q a0_0 (Int.toNat s21.1 * 7 + 2))] [1, 5, 0] ?_
     obtain ⟨_, ⟨a62, c63, rfl, hv64⟩, hc65⟩ := SlView.at hv0_0 (idx_some hx60).2.2
     refine ol 3 2 (.int .i64 x59.To) (fun γ w hs => ⟨(hv0_0.kept hs.kept).ne (idx_some hx60).2.2, hc65.kept hs.kept⟩) ?_
     refine oN 2 [(36, vb (x59.To != (w64 ((w64 (s21.2 + 1)) + 1))))] [1, 5, 0] ?_
     refine oe (nt (cC h61 (fun h67 => ?_) (fun h68 => ?_)))
     · refine qs (qr (oN 1 [(4, vi (-1))] [] ?_))
       refine oe (nt (qe (nr (br (nr (nr ?_))))))
       have h69 := leafR hd30 h67 h26
       refine br (nr (nr ?_))
       obtain rfl := sI h69
       exact re [.int .i64 (-1)]
     refine qk (nt (qs (qr (oN 3 [(1, vi (w64 ((w64 ((w64 (s21.2 + 1)) + 1)) + 1)))] [5, 0] ?_))))
     refine oe (nt (qs (qs (qr (oN 2 [(40, vi s21.1), (39, .v (.slice a0_0 x0.length c0_0))] [1, 5, 0] ?_)))))
     obtain ⟨x70, hx71, h72⟩ := bS h68
     refine oi 7 (fun γ w hs => (hv0_0.kept hs.kept)) hx71 ?_
     refine oN 1 [(42, .q a0_0 (Int.toNat s21.1 * 7 + 3))] [1, 5, 0] ?_
     obtain ⟨_, ⟨a73, c74, rfl, hv75⟩, hc76⟩ := SlView.at hv0_0 (idx_some hx71).2.2
     refine ol 3 3 (.int .i64 x70.Joined) (fun γ w hs => ⟨(hv0_0.kept hs.kept).ne (idx_some hx71).2.2, hc76.kept hs.kept⟩) ?_
     refine oN 2 [(45, vb (x70.Joined != (w64 ((w64 ((w64 (s21.2 + 1)) + 1)) + 1))))] [1, 5, 0] ?_
     refine oe (nt (cC h72 (fun h78 => ?_) (fun h79 => ?_)))
     · refine qs (qr (oN 1 [(4, vi (-1))] [] ?_))
       refine oe (nt (qe (nr (br (nr (nr ?_))))))
       have h80 := leafR hd30 h78 h26
       refine br (nr (nr ?_))
       obtain rfl := sI h80
       exact re [.int .i64 (-1)]
     refine qk (nt (qs (qr (oN 3 [(1, vi (w64 ((w64 ((w64 ((w64 (s21.2 + 1)) + 1)) + 1)) + 1)))] [5, 0] ?_))))
     refine oe (nt (qs (qs (qr (oN 2 [(49, vi s21.1), (48, .v (.slice a0_0 x0.length c0_0))] [1, 5, 0] ?_)))))
     obtain ⟨x81, hx82, h83⟩ := bS h79
     refine oi 7 (fun γ w hs => (hv0_0.kept hs.kept)) hx82 ?_
     refine oN 1 [(51, .q a0_0 (Int.toNat s21.1 * 7 + 4))] [1, 5, 0] ?_
     obtain ⟨_, ⟨a84, c85, rfl, hv86⟩, hc87⟩ := SlView.at hv0_0 (idx_some hx82).2.2
     refine ol 3 4 (.int .i64 x81.Rank) (fun γ w hs => ⟨(hv0_0.kept hs.kept).ne (idx_some hx82).2.2, hc87.kept hs.kept⟩) ?_
     refine oN 2 [(54, vb (x81.Rank != (w64 ((w64 ((w64 ((w64 (s21.2 + 1)) + 1)) + 1)) + 1))))] [1, 5, 0] ?_
     refine oe (nt (cC h83 (fun h89 => ?_) (fun h90 => ?_)))
     · refine qs (qr (oN 1 [(4, vi (-1))] [] ?_))
       refine oe (nt (qe (nr (br (nr (nr ?_))))))
       have h91 := leafR hd30 h89 h26
       refine br (nr (nr ?_))
       obtain rfl := sI h91
       exact re [.int .i64 (-1)]
     refine qk (nt (qs (qr (oN 3 [(1, vi (w64 ((w64 ((w64 ((w64 ((w64 (s21.2 + 1)) + 1)) + 1)) + 1)) + 1)))] [5, 0] ?_))))
     refine oe (nt (qs (qs (qr (oN 2 [(58, vi s21.1), (57, .v (.slice a0_0 x0.length c0_0))] [1, 5, 0] ?_)))))
     obtain ⟨x92, hx93, h94⟩ := bS h90
     refine oi 7 (fun γ w hs => (hv0_0.kept hs.kept)) hx93 ?_
     refine oN 1 [(60, .q a0_0 (Int.toNat s21.1 * 7 + 5))] [1, 5, 0] ?_
     obtain ⟨_, ⟨a95, c96, rfl, hv97⟩, hc98⟩ := SlView.at hv0_0 (idx_some hx93).2.2
     refine ol 3 5 (.int .i64 x92.Mode) (fun γ w hs => ⟨(hv0_0.kept hs.kept).ne (idx_some hx93).2.2, hc98.kept hs.kept⟩) ?_
     refine oN 2 [(63, vb (x92.Mode != (w64 ((w64 ((w64 ((w64 ((w64 (s21.2 + 1)) + 1)) + 1)) + 1)) + 1))))] [1, 5, 0] ?_
     refine oe (nt (cC h94 (fun h100 => ?_) (fun h101 => ?_)))
     · refine qs (qr (oN 1 [(4, vi (-1))] [] ?_))
       refine oe (nt (qe (nr (br (nr (nr ?_))))))
       have h102 := leafR hd30 h100 h26
       refine br (nr (nr ?_))
       obtain rfl := sI h102
       exact re [.int .i64 (-1)]
     refine qk (nt (qs (qr (oN 3 [(1, vi (w64 ((w64 ((w64 ((w64 ((w64 ((w64 (s21.2 + 1)) + 1)) + 1)) + 1)) + 1)) + 1)))] [5, 0] ?_))))
     refine oe (nt (qs (qr (oN 2 [(67, vi s21.1), (66, .v (.slice a0_0 x0.length c0_0))] [1, 5, 0] ?_))))
     obtain ⟨x103, hx104, h105⟩ := bS h101
     refine oi 7 (fun γ w hs => (hv0_0.kept hs.kept)) hx104 ?_
     refine oN 1 [(69, .q a0_0 (Int.toNat s21.1 * 7 + 6))] [1, 5, 0] ?_
     obtain ⟨_, ⟨a106, c107, rfl, hv108⟩, hc109⟩ := SlView.at hv0_0 (idx_some hx104).2.2
     refine ol 84 6 (.slice a106 x103.Nodes.length c107) (fun γ w hs => ⟨(hv0_0.kept hs.kept).ne (idx_some hx104).2.2, hc109.kept hs.kept⟩) ?_
     refine oN 1 [(71, vi (w64 ((w64 ((w64 ((w64 ((w64 ((w64 (s21.2 + 1)) + 1)) + 1)) + 1)) + 1)) + 1)))] [70, 5, 0] ?_
     obtain ⟨t110, h111, h112⟩ := bS h105
     refine k0 (fun γ w hs => c_laws_heldNodeS h111 (hv108.kept hs.kept)) ?_
     refine oN 1 [(1, vi t110)] [5, 0] ?_
     refine oe (nt (qs (qr (oN 2 [(74, vb (decide (t110 < 0)))] [1, 5, 0] ?_))))
     refine oe (nt (cC h112 (fun h115 => ?_) (fun h116 => ?_)))
     · refine qs (qr (oN 1 [(4, vi (-1))] [] ?_))
       refine oe (nt (qe (br (nr (nr ?_)))))
       have h117 := leafR hd30 h115 h26
       refine br (nr (nr ?_))
       obtain rfl := sI h117
       exact re [.int .i64 (-1)]
     refine qk (bn (nt (qr (oN 3 [(5, vi (w64 (s21.1 + 1)))] [1, 0] ?_))))
     exact oe (ct h116 () [5, 0, 1] [] 0)
   refine qx (nx (nx (bh ?_)))
   have h118 := leafB hd30 h36 h26
   exact mp (s21.2, ()) h118 [1] [] 0
 have h33 := (congrFun hk28 _).symm.trans h33p
 refine nt (qs (qr (oN 2 [(4, vi y32.1)] [] ?_)))
 refine oe (nt (qe ?_))
 obtain rfl := sI h33
 exact re [.int .i64 y32.1]

theorem c_laws_heldBook {W : World} {x0 : Book} {a0_0 : Option Addr} {c0_0 : Nat} {x1 : Int} {r : Int} (h : laws_heldBook x0 x1 = some r) (hv0_0 : SlView W x0.Rules a0_0 c0_0) :
    Gives0 Try.prog 34 #[vBook x0 (a0_0, c0_0), .int .i64 x1] W (.int .i64 r) := by
 unfold laws_heldBook at h
 refine en Try.func34 Try.ntmps34 ?_
 refine qs (qr (oB 2 [(2, .p 0 0)] [1] [(40, (eBook x0 (a0_0, c0_0)))] ?_))
 refine oe (nt (qs (qr (oN 3 [(7, vi x1), (6, .v (.slice a0_0 x0.Rules.length c0_0))] [] ?_))))
 obtain ⟨t21, h22, h23⟩ := bS h
 refine k0 (fun γ w hs => c_laws_heldRuleS h22 (hv0_0.kept hs.kept)) ?_
 refine oN 1 [(1, vi t21)] [] ?_
 refine oe (nt (qs (qs (qr (oN 2 [(10, vb (decide (t21 < 0)))] [1] ?_)))))
 refine oe (nt (cC h23 (fun h26 => ?_) (fun h27 => ?_)))
 · refine qs (qr (oN 1 [(4, vi (-1))] [] ?_))
   refine oe (nt (qe (nr ?_)))
   obtain rfl := sI h26
   exact re [.int .i64 (-1)]
 refine qk (nt (qs (qr (oN 2 [(4, vi t21)] [] ?_))))
 refine oe (nt (qe ?_))
 obtain rfl := sI h27
 exact re [.int .i64 t21]

theorem c_laws_heldFactS {W : World} {x0 : List Fact} {a0_0 : Option Addr} {c0_0 : Nat} {x1 : Int} {r : Int} (h : laws_heldFactS x0 x1 = some r) (hv0_0 : SlView W x0 a0_0 c0_0) :
    Gives0 Try.prog 70 #[.slice a0_0 x0.length c0_0, .int .i64 x1] W (.int .i64 r) := by
 unfold laws_heldFactS at h
 refine en Try.func70 Try.ntmps70 ?_
 refine qs (qr (oN 1 [] [0, 1] ?_))
 refine oe (nt (qs (qs (qr (oN 1 [(5, vi 0)] [0, 1] ?_)))))
 refine oe (nt ?_)
 obtain ⟨r24, hL25, h26⟩ := bS h
 obtain ⟨k27, hk28, h26⟩ := brkS h26
 refine JC_cutP (τ := (Int) × (Unit)) (fun y => k27 y.1 = some r) (fun y32 => [(1, vi y32.1)]) (fun y32 => []) (fun y32 => []) ?_ (fun y32 h33p => ?_)
 · refine qb (lp Unit hL25 (fun s21 y22 => [(5, vi s21.1), (0, .v (.slice a0_0 x0.length c0_0)), (1, vi s21.2)]) (fun s21 y22 => []) (fun s21 y22 => []) () [5, 0, 1] [] 0 (fun s21 y22 t23 h29 hd30 => ?_))
   refine qs (qs (qr (oN 4 [(9, vb (decide (s21.1 < (x0.length : Int))))] [5, 0, 1] ?_)))
   refine oe (nt (cC h29 (fun h35 => ?_) (fun h36 => ?_)))
   · refine qk (nt (qs (qb (qs (qs (qr (oN 2 [(13, vi s21.1), (12, .v (.slice a0_0 x0.length c0_0))] [5, 0, 1] ?_)))))))
     obtain ⟨x37, hx38, h39⟩ := bS h35
     refine oi 5 (fun γ w hs => (hv0_0.kept hs.kept)) hx38 ?_
     refine oN 1 [(15, .q a0_0 (Int.toNat s21.1 * 5))] [5, 0, 1] ?_
     refine ol 3 0 (.int .i64 x37.Key) (fun γ w hs => (hv0_0.kept hs.kept).flatq hx38) ?_
     refine oN 2 [(18, vb (x37.Key != s21.2))] [5, 0, 1] ?_
     refine oe (nt (cC h39 (fun h41 => ?_) (fun h42 => ?_)))
     · refine qs (qr (oN 1 [(4, vi (-1))] [] ?_))
       refine oe (nt (qe (nr (br (nr (nr ?_))))))
       have h43 := leafR hd30 h41 h26
       refine br (nr (nr ?_))
       obtain rfl := sI h43
       exact re [.int .i64 (-1)]
     refine qk (nt (qs (qr (oN 3 [(1, vi (w64 (s21.2 + 1)))] [5, 0] ?_))))
     refine oe (nt (qs (qs (qr (oN 2 [(22, vi s21.1), (21, .v (.slice a0_0 x0.length c0_0))] [1, 5, 0] ?_)))))
     obtain ⟨x44, hx45, h46⟩ := bS h42
     refine oi 5 (fun γ w hs => (hv0_0.kept hs.kept)) hx45 ?_
     refine oN 1 [(24, .q a0_0 (Int.toNat s21.1 * 5 + 1))] [1, 5, 0] ?_
     refine ol 3 1 (.int .i64 x44.From) (fun γ w hs => (hv0_0.kept hs.kept).flatq hx45) ?_
     refine oN 2 [(27, vb (x44.From != (w64 (s21.2 + 1))))] [1, 5, 0] ?_
     refine oe (nt (cC h46 (fun h48 => ?_) (fun h49 => ?_)))
     · refine qs (qr (oN 1 [(4, vi (-1))] [] ?_))
       refine oe (nt (qe (nr (br (nr (nr ?_))))))
       have h50 := leafR hd30 h48 h26
       refine br (nr (nr ?_))
       obtain rfl := sI h50
       exact re [.int .i64 (-1)]
     refine qk (nt (qs (qr (oN 3 [(1, vi (w64 ((w64 (s21.2 + 1)) + 1)))] [5, 0] ?_))))
     refine oe (nt (qs (qs (qr (oN 2 [(31, vi s21.1), (30, .v (.slice a0_0 x0.length c0_0))] [1, 5, 0] ?_)))))
     obtain ⟨x51, hx52, h53⟩ := bS h49
     refine oi 5 (fun γ w hs => (hv0_0.kept hs.kept)) hx52 ?_
     refine oN 1 [(33, .q a0_0 (Int.toNat s21.1 * 5 + 2))] [1, 5, 0] ?_
     refine ol 3 2 (.int .i64 x51.To) (fun γ w hs => (hv0_0.kept hs.kept).flatq hx52) ?_
     refine oN 2 [(36, vb (x51.To != (w64 ((w64 (s21.2 + 1)) + 1))))] [1, 5, 0] ?_
     refine oe (nt (cC h53 (fun h55 => ?_) (fun h56 => ?_)))
     · refine qs (qr (oN 1 [(4, vi (-1))] [] ?_))
       refine oe (nt (qe (nr (br (nr (nr ?_))))))
       have h57 := leafR hd30 h55 h26
       refine br (nr (nr ?_))
       obtain rfl := sI h57
       exact re [.int .i64 (-1)]
     refine qk (nt (qs (qr (oN 3 [(1, vi (w64 ((w64 ((w64 (s21.2 + 1)) + 1)) + 1)))] [5, 0] ?_))))
     refine oe (nt (qs (qs (qr (oN 2 [(40, vi s21.1), (39, .v (.slice a0_0 x0.length c0_0))] [1, 5, 0] ?_)))))
     obtain ⟨x58, hx59, h60⟩ := bS h56
     refine oi 5 (fun γ w hs => (hv0_0.kept hs.kept)) hx59 ?_
     refine oN 1 [(42, .q a0_0 (Int.toNat s21.1 * 5 + 3))] [1, 5, 0] ?_
     refine ol 3 3 (.int .i64 x58.Known) (fun γ w hs => (hv0_0.kept hs.kept).flatq hx59) ?_
     refine oN 2 [(45, vb (x58.Known != (w64 ((w64 ((w64 (s21.2 + 1)) + 1)) + 1))))] [1, 5, 0] ?_
     refine oe (nt (cC h60 (fun h62 => ?_) (fun h63 => ?_)))
     · refine qs (qr (oN 1 [(4, vi (-1))] [] ?_))
       refine oe (nt (qe (nr (br (nr (nr ?_))))))
       have h64 := leafR hd30 h62 h26
       refine br (nr (nr ?_))
       obtain rfl := sI h64
       exact re [.int .i64 (-1)]
     refine qk (nt (qs (qr (oN 3 [(1, vi (w64 ((w64 ((w64 ((w64 (s21.2 + 1)) + 1)) + 1)) + 1)))] [5, 0] ?_))))
     refine oe (nt (qs (qs (qr (oN 2 [(49, vi s21.1), (48, .v (.slice a0_0 x0.length c0_0))] [1, 5, 0] ?_)))))
     obtain ⟨x65, hx66, h67⟩ := bS h63
     refine oi 5 (fun γ w hs => (hv0_0.kept hs.kept)) hx66 ?_
     refine oN 1 [(51, .q a0_0 (Int.toNat s21.1 * 5 + 4))] [1, 5, 0] ?_
     refine ol 3 4 (.int .i64 x65.Value) (fun γ w hs => (hv0_0.kept hs.kept).flatq hx66) ?_
     refine oN 2 [(54, vb (x65.Value != (w64 ((w64 ((w64 ((w64 (s21.2 + 1)) + 1)) + 1)) + 1))))] [1, 5, 0] ?_
     refine oe (nt (cC h67 (fun h69 => ?_) (fun h70 => ?_)))
     · refine qs (qr (oN 1 [(4, vi (-1))] [] ?_))
       refine oe (nt (qe (nr (br (nr (nr ?_))))))
       have h71 := leafR hd30 h69 h26
       refine br (nr (nr ?_))
       obtain rfl := sI h71
       exact re [.int .i64 (-1)]
     refine qk (nt (qr (oN 3 [(1, vi (w64 ((w64 ((w64 ((w64 ((w64 (s21.2 + 1)) + 1)) + 1)) + 1)) + 1)))] [5, 0] ?_)))
     refine oe (bn (nt (qr (oN 3 [(5, vi (w64 (s21.1 + 1)))] [1, 0] ?_))))
     exact oe (ct h70 () [5, 0, 1] [] 0)
   refine qx (nx (nx (bh ?_)))
   have h72 := leafB hd30 h36 h26
   exact mp (s21.2, ()) h72 [1] [] 0
 have h33 := (congrFun hk28 _).symm.trans h33p
 refine nt (qs (qr (oN 2 [(4, vi y32.1)] [] ?_)))
 refine oe (nt (qe ?_))
 obtain rfl := sI h33
 exact re [.int .i64 y32.1]

theorem c_laws_heldStore {W : World} {x0 : Store} {a0_0 : Option Addr} {c0_0 : Nat} {x1 : Int} {r : Int} (h : laws_heldStore x0 x1 = some r) (hv0_0 : SlView W x0.Facts a0_0 c0_0) :
    Gives0 Try.prog 35 #[vStore x0 (a0_0, c0_0), .int .i64 x1] W (.int .i64 r) := by
 unfold laws_heldStore at h
 refine en Try.func35 Try.ntmps35 ?_
 refine qs (qr (oB 2 [(2, .p 0 0)] [1] [(43, (eStore x0 (a0_0, c0_0)))] ?_))
 refine oe (nt (qs (qr (oN 3 [(7, vi x1), (6, .v (.slice a0_0 x0.Facts.length c0_0))] [] ?_))))
 obtain ⟨t21, h22, h23⟩ := bS h
 refine k0 (fun γ w hs => c_laws_heldFactS h22 (hv0_0.kept hs.kept)) ?_
 refine oN 1 [(1, vi t21)] [] ?_
 refine oe (nt (qs (qs (qr (oN 2 [(10, vb (decide (t21 < 0)))] [1] ?_)))))
 refine oe (nt (cC h23 (fun h26 => ?_) (fun h27 => ?_)))
 · refine qs (qr (oN 1 [(4, vi (-1))] [] ?_))
   refine oe (nt (qe (nr ?_)))
   obtain rfl := sI h26
   exact re [.int .i64 (-1)]
 refine qk (nt (qs (qr (oN 2 [(4, vi t21)] [] ?_))))
 refine oe (nt (qe ?_))
 obtain rfl := sI h27
 exact re [.int .i64 t21]

theorem c_laws_heldPointS {W : World} {x0 : List Point} {a0_0 : Option Addr} {c0_0 : Nat} {x1 : Int} {r : Int} (h : laws_heldPointS x0 x1 = some r) (hv0_0 : SlView W x0 a0_0 c0_0) :
    Gives0 Try.prog 71 #[.slice a0_0 x0.length c0_0, .int .i64 x1] W (.int .i64 r) := by
 unfold laws_heldPointS at h
 refine en Try.func71 Try.ntmps71 ?_
 refine qs (qr (oN 1 [] [0, 1] ?_))
 refine oe (nt (qs (qs (qr (oN 1 [(5, vi 0)] [0, 1] ?_)))))
 refine oe (nt ?_)
 obtain ⟨r24, hL25, h26⟩ := bS h
 obtain ⟨k27, hk28, h26⟩ := brkS h26
 refine JC_cutP (τ := (Int) × (Unit)) (fun y => k27 y.1 = some r) (fun y32 => [(1, vi y32.1)]) (fun y32 => []) (fun y32 => []) ?_ (fun y32 h33p => ?_)
 · refine qb (lp Unit hL25 (fun s21 y22 => [(5, vi s21.1), (0, .v (.slice a0_0 x0.length c0_0)), (1, vi s21.2)]) (fun s21 y22 => []) (fun s21 y22 => []) () [5, 0, 1] [] 0 (fun s21 y22 t23 h29 hd30 => ?_))
   refine qs (qs (qr (oN 4 [(9, vb (decide (s21.1 < (x0.length : Int))))] [5, 0, 1] ?_)))
   refine oe (nt (cC h29 (fun h35 => ?_) (fun h36 => ?_)))
   · refine qk (nt (qs (qb (qs (qs (qr (oN 2 [(13, vi s21.1), (12, .v (.slice a0_0 x0.length c0_0))] [5, 0, 1] ?_)))))))
     obtain ⟨x37, hx38, h39⟩ := bS h35
     refine oi 3 (fun γ w hs => (hv0_0.kept hs.kept)) hx38 ?_
     refine oN 1 [(15, .q a0_0 (Int.toNat s21.1 * 3))] [5, 0, 1] ?_
     refine ol 3 0 (.int .i64 x37.Month) (fun γ w hs => (hv0_0.kept hs.kept).flatq hx38) ?_
     refine oN 2 [(18, vb (x37.Month != s21.2))] [5, 0, 1] ?_
     refine oe (nt (cC h39 (fun h41 => ?_) (fun h42 => ?_)))
     · refine qs (qr (oN 1 [(4, vi (-1))] [] ?_))
       refine oe (nt (qe (nr (br (nr (nr ?_))))))
       have h43 := leafR hd30 h41 h26
       refine br (nr (nr ?_))
       obtain rfl := sI h43
       exact re [.int .i64 (-1)]
     refine qk (nt (qs (qr (oN 3 [(1, vi (w64 (s21.2 + 1)))] [5, 0] ?_))))
     refine oe (nt (qs (qs (qr (oN 2 [(22, vi s21.1), (21, .v (.slice a0_0 x0.length c0_0))] [1, 5, 0] ?_)))))
     obtain ⟨x44, hx45, h46⟩ := bS h42
     refine oi 3 (fun γ w hs => (hv0_0.kept hs.kept)) hx45 ?_
     refine oN 1 [(24, .q a0_0 (Int.toNat s21.1 * 3 + 1))] [1, 5, 0] ?_
     refine ol 3 1 (.int .i64 x44.Known) (fun γ w hs => (hv0_0.kept hs.kept).flatq hx45) ?_
     refine oN 2 [(27, vb (x44.Known != (w64 (s21.2 + 1))))] [1, 5, 0] ?_
     refine oe (nt (cC h46 (fun h48 => ?_) (fun h49 => ?_)))
     · refine qs (qr (oN 1 [(4, vi (-1))] [] ?_))
       refine oe (nt (qe (nr (br (nr (nr ?_))))))
       have h50 := leafR hd30 h48 h26
       refine br (nr (nr ?_))
       obtain rfl := sI h50
       exact re [.int .i64 (-1)]
     refine qk (nt (qs (qr (oN 3 [(1, vi (w64 ((w64 (s21.2 + 1)) + 1)))] [5, 0] ?_))))
     refine oe (nt (qs (qs (qr (oN 2 [(31, vi s21.1), (30, .v (.slice a0_0 x0.length c0_0))] [1, 5, 0] ?_)))))
     obtain ⟨x51, hx52, h53⟩ := bS h49
     refine oi 3 (fun γ w hs => (hv0_0.kept hs.kept)) hx52 ?_
     refine oN 1 [(33, .q a0_0 (Int.toNat s21.1 * 3 + 2))] [1, 5, 0] ?_
     refine ol 3 2 (.int .i64 x51.Value) (fun γ w hs => (hv0_0.kept hs.kept).flatq hx52) ?_
     refine oN 2 [(36, vb (x51.Value != (w64 ((w64 (s21.2 + 1)) + 1))))] [1, 5, 0] ?_
     refine oe (nt (cC h53 (fun h55 => ?_) (fun h56 => ?_)))
     · refine qs (qr (oN 1 [(4, vi (-1))] [] ?_))
       refine oe (nt (qe (nr (br (nr (nr ?_))))))
       have h57 := leafR hd30 h55 h26
       refine br (nr (nr ?_))
       obtain rfl := sI h57
       exact re [.int .i64 (-1)]
     refine qk (nt (qr (oN 3 [(1, vi (w64 ((w64 ((w64 (s21.2 + 1)) + 1)) + 1)))] [5, 0] ?_)))
     refine oe (bn (nt (qr (oN 3 [(5, vi (w64 (s21.1 + 1)))] [1, 0] ?_))))
     exact oe (ct h56 () [5, 0, 1] [] 0)
   refine qx (nx (nx (bh ?_)))
   have h58 := leafB hd30 h36 h26
   exact mp (s21.2, ()) h58 [1] [] 0
 have h33 := (congrFun hk28 _).symm.trans h33p
 refine nt (qs (qr (oN 2 [(4, vi y32.1)] [] ?_)))
 refine oe (nt (qe ?_))
 obtain rfl := sI h33
 exact re [.int .i64 y32.1]

theorem c_laws_heldSeries {W : World} {x0 : Series} {a0_0 : Option Addr} {c0_0 : Nat} {x1 : Int} {r : Int} (h : laws_heldSeries x0 x1 = some r) (hv0_0 : SlView W x0.Points a0_0 c0_0) :
    Gives0 Try.prog 36 #[vSeries x0 (a0_0, c0_0), .int .i64 x1] W (.int .i64 r) := by
 unfold laws_heldSeries at h
 refine en Try.func36 Try.ntmps36 ?_
 refine qs (qr (oB 2 [(2, .p 0 0)] [1] [(46, (eSeries x0 (a0_0, c0_0)))] ?_))
 refine oe (nt (qs (qr (oN 3 [(7, vi x1), (6, .v (.slice a0_0 x0.Points.length c0_0))] [] ?_))))
 obtain ⟨t21, h22, h23⟩ := bS h
 refine k0 (fun γ w hs => c_laws_heldPointS h22 (hv0_0.kept hs.kept)) ?_
 refine oN 1 [(1, vi t21)] [] ?_
 refine oe (nt (qs (qs (qr (oN 2 [(10, vb (decide (t21 < 0)))] [1] ?_)))))
 refine oe (nt (cC h23 (fun h26 => ?_) (fun h27 => ?_)))
 · refine qs (qr (oN 1 [(4, vi (-1))] [] ?_))
   refine oe (nt (qe (nr ?_)))
   obtain rfl := sI h26
   exact re [.int .i64 (-1)]
 refine qk (nt (qs (qr (oN 2 [(4, vi t21)] [] ?_))))
 refine oe (nt (qe ?_))
 obtain rfl := sI h27
 exact re [.int .i64 t21]

theorem c_laws_heldSpellS {W : World} {x0 : List Spell} {a0_0 : Option Addr} {c0_0 : Nat} {x1 : Int} {r : Int} (h : laws_heldSpellS x0 x1 = some r) (hv0_0 : SlView W x0 a0_0 c0_0) :
    Gives0 Try.prog 72 #[.slice a0_0 x0.length c0_0, .int .i64 x1] W (.int .i64 r) := by
 unfold laws_heldSpellS at h
 refine en Try.func72 Try.ntmps72 ?_
 refine qs (qr (oN 1 [] [0, 1] ?_))
 refine oe (nt (qs (qs (qr (oN 1 [(5, vi 0)] [0, 1] ?_)))))
 refine oe (nt ?_)
 obtain ⟨r24, hL25, h26⟩ := bS h
 obtain ⟨k27, hk28, h26⟩ := brkS h26
 refine JC_cutP (τ := (Int) × (Unit)) (fun y => k27 y.1 = some r) (fun y32 => [(1, vi y32.1)]) (fun y32 => []) (fun y32 => []) ?_ (fun y32 h33p => ?_)
 · refine qb (lp Unit hL25 (fun s21 y22 => [(5, vi s21.1), (0, .v (.slice a0_0 x0.length c0_0)), (1, vi s21.2)]) (fun s21 y22 => []) (fun s21 y22 => []) () [5, 0, 1] [] 0 (fun s21 y22 t23 h29 hd30 => ?_))
   refine qs (qs (qr (oN 4 [(9, vb (decide (s21.1 < (x0.length : Int))))] [5, 0, 1] ?_)))
   refine oe (nt (cC h29 (fun h35 => ?_) (fun h36 => ?_)))
   · refine qk (nt (qs (qb (qs (qs (qr (oN 2 [(13, vi s21.1), (12, .v (.slice a0_0 x0.length c0_0))] [5, 0, 1] ?_)))))))
     obtain ⟨x37, hx38, h39⟩ := bS h35
     refine oi 4 (fun γ w hs => (hv0_0.kept hs.kept)) hx38 ?_
     refine oN 1 [(15, .q a0_0 (Int.toNat s21.1 * 4))] [5, 0, 1] ?_
     refine ol 3 0 (.int .i64 x37.From) (fun γ w hs => (hv0_0.kept hs.kept).flatq hx38) ?_
     refine oN 2 [(18, vb (x37.From != s21.2))] [5, 0, 1] ?_
     refine oe (nt (cC h39 (fun h41 => ?_) (fun h42 => ?_)))
     · refine qs (qr (oN 1 [(4, vi (-1))] [] ?_))
       refine oe (nt (qe (nr (br (nr (nr ?_))))))
       have h43 := leafR hd30 h41 h26
       refine br (nr (nr ?_))
       obtain rfl := sI h43
       exact re [.int .i64 (-1)]
     refine qk (nt (qs (qr (oN 3 [(1, vi (w64 (s21.2 + 1)))] [5, 0] ?_))))
     refine oe (nt (qs (qs (qr (oN 2 [(22, vi s21.1), (21, .v (.slice a0_0 x0.length c0_0))] [1, 5, 0] ?_)))))
     obtain ⟨x44, hx45, h46⟩ := bS h42
     refine oi 4 (fun γ w hs => (hv0_0.kept hs.kept)) hx45 ?_
     refine oN 1 [(24, .q a0_0 (Int.toNat s21.1 * 4 + 1))] [1, 5, 0] ?_
     refine ol 3 1 (.int .i64 x44.To) (fun γ w hs => (hv0_0.kept hs.kept).flatq hx45) ?_
     refine oN 2 [(27, vb (x44.To != (w64 (s21.2 + 1))))] [1, 5, 0] ?_
     refine oe (nt (cC h46 (fun h48 => ?_) (fun h49 => ?_)))
     · refine qs (qr (oN 1 [(4, vi (-1))] [] ?_))
       refine oe (nt (qe (nr (br (nr (nr ?_))))))
       have h50 := leafR hd30 h48 h26
       refine br (nr (nr ?_))
       obtain rfl := sI h50
       exact re [.int .i64 (-1)]
     refine qk (nt (qs (qr (oN 3 [(1, vi (w64 ((w64 (s21.2 + 1)) + 1)))] [5, 0] ?_))))
     refine oe (nt (qs (qs (qr (oN 2 [(31, vi s21.1), (30, .v (.slice a0_0 x0.length c0_0))] [1, 5, 0] ?_)))))
     obtain ⟨x51, hx52, h53⟩ := bS h49
     refine oi 4 (fun γ w hs => (hv0_0.kept hs.kept)) hx52 ?_
     refine oN 1 [(33, .q a0_0 (Int.toNat s21.1 * 4 + 2))] [1, 5, 0] ?_
     refine ol 3 2 (.int .i64 x51.Percent) (fun γ w hs => (hv0_0.kept hs.kept).flatq hx52) ?_
     refine oN 2 [(36, vb (x51.Percent != (w64 ((w64 (s21.2 + 1)) + 1))))] [1, 5, 0] ?_
     refine oe (nt (cC h53 (fun h55 => ?_) (fun h56 => ?_)))
     · refine qs (qr (oN 1 [(4, vi (-1))] [] ?_))
       refine oe (nt (qe (nr (br (nr (nr ?_))))))
       have h57 := leafR hd30 h55 h26
       refine br (nr (nr ?_))
       obtain rfl := sI h57
       exact re [.int .i64 (-1)]
     refine qk (nt (qs (qr (oN 3 [(1, vi (w64 ((w64 ((w64 (s21.2 + 1)) + 1)) + 1)))] [5, 0] ?_))))
     refine oe (nt (qs (qs (qr (oN 2 [(40, vi s21.1), (39, .v (.slice a0_0 x0.length c0_0))] [1, 5, 0] ?_)))))
     obtain ⟨x58, hx59, h60⟩ := bS h56
     refine oi 4 (fun γ w hs => (hv0_0.kept hs.kept)) hx59 ?_
     refine oN 1 [(42, .q a0_0 (Int.toNat s21.1 * 4 + 3))] [1, 5, 0] ?_
     refine ol 4 3 (.bool x58.Leave) (fun γ w hs => (hv0_0.kept hs.kept).flatq hx59) ?_
     refine oN 4 [(47, vb (!(x58.Leave == ((Int.tmod (w64 ((w64 ((w64 (s21.2 + 1)) + 1)) + 1)) 3) == 0))))] [1, 5, 0] ?_
     refine oe (nt (cC h60 (fun h62 => ?_) (fun h63 => ?_)))
     · refine qs (qr (oN 1 [(4, vi (-1))] [] ?_))
       refine oe (nt (qe (nr (br (nr (nr ?_))))))
       have h64 := leafR hd30 h62 h26
       refine br (nr (nr ?_))
       obtain rfl := sI h64
       exact re [.int .i64 (-1)]
     refine qk (nt (qr (oN 3 [(1, vi (w64 ((w64 ((w64 ((w64 (s21.2 + 1)) + 1)) + 1)) + 1)))] [5, 0] ?_)))
     refine oe (bn (nt (qr (oN 3 [(5, vi (w64 (s21.1 + 1)))] [1, 0] ?_))))
     exact oe (ct h63 () [5, 0, 1] [] 0)
   refine qx (nx (nx (bh ?_)))
   have h65 := leafB hd30 h36 h26
   exact mp (s21.2, ()) h65 [1] [] 0
 have h33 := (congrFun hk28 _).symm.trans h33p
 refine nt (qs (qr (oN 2 [(4, vi y32.1)] [] ?_)))
 refine oe (nt (qe ?_))
 obtain rfl := sI h33
 exact re [.int .i64 y32.1]

theorem c_laws_heldEventS {W : World} {x0 : List Event} {a0_0 : Option Addr} {c0_0 : Nat} {x1 : Int} {r : Int} (h : laws_heldEventS x0 x1 = some r) (hv0_0 : SlView W x0 a0_0 c0_0) :
    Gives0 Try.prog 73 #[.slice a0_0 x0.length c0_0, .int .i64 x1] W (.int .i64 r) := by
 unfold laws_heldEventS at h
 refine en Try.func73 Try.ntmps73 ?_
 refine qs (qr (oN 1 [] [0, 1] ?_))
 refine oe (nt (qs (qs (qr (oN 1 [(5, vi 0)] [0, 1] ?_)))))
 refine oe (nt ?_)
 obtain ⟨r24, hL25, h26⟩ := bS h
 obtain ⟨k27, hk28, h26⟩ := brkS h26
 refine JC_cutP (τ := (Int) × (Unit)) (fun y => k27 y.1 = some r) (fun y32 => [(1, vi y32.1)]) (fun y32 => []) (fun y32 => []) ?_ (fun y32 h33p => ?_)
 · refine qb (lp Unit hL25 (fun s21 y22 => [(5, vi s21.1), (0, .v (.slice a0_0 x0.length c0_0)), (1, vi s21.2)]) (fun s21 y22 => []) (fun s21 y22 => []) () [5, 0, 1] [] 0 (fun s21 y22 t23 h29 hd30 => ?_))
   refine qs (qs (qr (oN 4 [(9, vb (decide (s21.1 < (x0.length : Int))))] [5, 0, 1] ?_)))
   refine oe (nt (cC h29 (fun h35 => ?_) (fun h36 => ?_)))
   · refine qk (nt (qs (qb (qs (qs (qr (oN 2 [(13, vi s21.1), (12, .v (.slice a0_0 x0.length c0_0))] [5, 0, 1] ?_)))))))
     obtain ⟨x37, hx38, h39⟩ := bS h35
     refine oi 2 (fun γ w hs => (hv0_0.kept hs.kept)) hx38 ?_
     refine oN 1 [(15, .q a0_0 (Int.toNat s21.1 * 2))] [5, 0, 1] ?_
     refine ol 3 0 (.int .i64 x37.Kind) (fun γ w hs => (hv0_0.kept hs.kept).flatq hx38) ?_
     refine oN 2 [(18, vb (x37.Kind != s21.2))] [5, 0, 1] ?_
     refine oe (nt (cC h39 (fun h41 => ?_) (fun h42 => ?_)))
     · refine qs (qr (oN 1 [(4, vi (-1))] [] ?_))
       refine oe (nt (qe (nr (br (nr (nr ?_))))))
       have h43 := leafR hd30 h41 h26
       refine br (nr (nr ?_))
       obtain rfl := sI h43
       exact re [.int .i64 (-1)]
     refine qk (nt (qs (qr (oN 3 [(1, vi (w64 (s21.2 + 1)))] [5, 0] ?_))))
     refine oe (nt (qs (qs (qr (oN 2 [(22, vi s21.1), (21, .v (.slice a0_0 x0.length c0_0))] [1, 5, 0] ?_)))))
     obtain ⟨x44, hx45, h46⟩ := bS h42
     refine oi 2 (fun γ w hs => (hv0_0.kept hs.kept)) hx45 ?_
     refine oN 1 [(24, .q a0_0 (Int.toNat s21.1 * 2 + 1))] [1, 5, 0] ?_
     refine ol 3 1 (.int .i64 x44.Month) (fun γ w hs => (hv0_0.kept hs.kept).flatq hx45) ?_
     refine oN 2 [(27, vb (x44.Month != (w64 (s21.2 + 1))))] [1, 5, 0] ?_
     refine oe (nt (cC h46 (fun h48 => ?_) (fun h49 => ?_)))
     · refine qs (qr (oN 1 [(4, vi (-1))] [] ?_))
       refine oe (nt (qe (nr (br (nr (nr ?_))))))
       have h50 := leafR hd30 h48 h26
       refine br (nr (nr ?_))
       obtain rfl := sI h50
       exact re [.int .i64 (-1)]
     refine qk (nt (qr (oN 3 [(1, vi (w64 ((w64 (s21.2 + 1)) + 1)))] [5, 0] ?_)))
     refine oe (bn (nt (qr (oN 3 [(5, vi (w64 (s21.1 + 1)))] [1, 0] ?_))))
     exact oe (ct h49 () [5, 0, 1] [] 0)
   refine qx (nx (nx (bh ?_)))
   have h51 := leafB hd30 h36 h26
   exact mp (s21.2, ()) h51 [1] [] 0
 have h33 := (congrFun hk28 _).symm.trans h33p
 refine nt (qs (qr (oN 2 [(4, vi y32.1)] [] ?_)))
 refine oe (nt (qe ?_))
 obtain rfl := sI h33
 exact re [.int .i64 y32.1]

theorem c_laws_heldMember {W : World} {x0 : Member} {b0 : AC × AC} {x1 : Int} {r : Int} (h : laws_heldMember x0 x1 = some r) (hv0_0 : SlView W x0.Spells b0.1.1 b0.1.2) (hv0_1 : SlView W x0.Events b0.2.1 b0.2.2) :
    Gives0 Try.prog 37 #[vMember x0 b0, .int .i64 x1] W (.int .i64 r) := by
 unfold laws_heldMember at h
 refine en Try.func37 Try.ntmps37 ?_
 refine qs (qr (oB 2 [(2, .p 0 0)] [1] [(50, (eMember x0 b0))] ?_))
 refine oe (nt (qs (qr (oN 3 [(7, vi x1), (6, .v (.slice b0.1.1 x0.Spells.length b0.1.2))] [2] ?_))))
 obtain ⟨t21, h22, h23⟩ := bS h
 refine k0 (fun γ w hs => c_laws_heldSpellS h22 (hv0_0.kept hs.kept)) ?_
 refine oN 1 [(1, vi t21)] [2] ?_
 refine oe (nt (qs (qs (qr (oN 2 [(10, vb (decide (t21 < 0)))] [1, 2] ?_)))))
 refine oe (nt (cC h23 (fun h26 => ?_) (fun h27 => ?_)))
 · refine qs (qr (oN 1 [(4, vi (-1))] [] ?_))
   refine oe (nt (qe (nr ?_)))
   obtain rfl := sI h26
   exact re [.int .i64 (-1)]
 refine qk (nt (qs (qr (oN 3 [(13, vi t21), (12, .v (.slice b0.2.1 x0.Events.length b0.2.2))] [] ?_))))
 obtain ⟨t28, h29, h30⟩ := bS h27
 refine k0 (fun γ w hs => c_laws_heldEventS h29 (hv0_1.kept hs.kept)) ?_
 refine oN 1 [(1, vi t28)] [] ?_
 refine oe (nt (qs (qs (qr (oN 2 [(16, vb (decide (t28 < 0)))] [1] ?_)))))
 refine oe (nt (cC h30 (fun h33 => ?_) (fun h34 => ?_)))
 · refine qs (qr (oN 1 [(4, vi (-1))] [] ?_))
   refine oe (nt (qe (nr ?_)))
   obtain rfl := sI h33
   exact re [.int .i64 (-1)]
 refine qk (nt (qs (qr (oN 2 [(4, vi t28)] [] ?_))))
 refine oe (nt (qe ?_))
 obtain rfl := sI h34
 exact re [.int .i64 t28]

theorem c_laws_heldCase {W : World} {x0 : Case} {b0 : AC × AC × AC × AC × AC} {x1 : Int} {r : Int} (h : laws_heldCase x0 x1 = some r) (hv0_0 : SlView W x0.Book.Rules b0.1.1 b0.1.2) (hv0_1 : SlView W x0.Store.Facts b0.2.1.1 b0.2.1.2) (hv0_2 : SlView W x0.Series.Points b0.2.2.1.1 b0.2.2.1.2) (hv0_3 : SlView W x0.Member.Spells b0.2.2.2.1.1 b0.2.2.2.1.2) (hv0_4 : SlView W x0.Member.Events b0.2.2.2.2.1 b0.2.2.2.2.2) :
    Gives0 Try.prog 10 #[vCase x0 b0, .int .i64 x1] W (.int .i64 r) := by
 unfold laws_heldCase at h
 refine en Try.func10 Try.ntmps10 ?_
 refine qs (qr (oB 2 [(2, .p 0 0)] [1] [(52, (eCase x0 b0))] ?_))
 refine oe (nt (qs (qr (oN 3 [(7, vi x1), (6, .v (vBook x0.Book b0.1))] [2] ?_))))
 obtain ⟨t21, h22, h23⟩ := bS h
 refine k0 (fun γ w hs => c_laws_heldBook h22 (hv0_0.kept hs.kept)) ?_
 refine oN 1 [(1, vi t21)] [2] ?_
 refine oe (nt (qs (qs (qr (oN 2 [(10, vb (decide (t21 < 0)))] [1, 2] ?_)))))
 refine oe (nt (cC h23 (fun h26 => ?_) (fun h27 => ?_)))
 · refine qs (qr (oN 1 [(4, vi (-1))] [] ?_))
   refine oe (nt (qe (nr ?_)))
   obtain rfl := sI h26
   exact re [.int .i64 (-1)]
 refine qk (nt (qs (qr (oN 3 [(13, vi t21), (12, .v (vStore x0.Store b0.2.1))] [2] ?_))))
 obtain ⟨t28, h29, h30⟩ := bS h27
 refine k0 (fun γ w hs => c_laws_heldStore h29 (hv0_1.kept hs.kept)) ?_
 refine oN 1 [(1, vi t28)] [2] ?_
 refine oe (nt (qs (qs (qr (oN 2 [(16, vb (decide (t28 < 0)))] [1, 2] ?_)))))
 refine oe (nt (cC h30 (fun h33 => ?_) (fun h34 => ?_)))
 · refine qs (qr (oN 1 [(4, vi (-1))] [] ?_))
   refine oe (nt (qe (nr ?_)))
   obtain rfl := sI h33
   exact re [.int .i64 (-1)]
 refine qk (nt (qs (qr (oN 3 [(19, vi t28), (18, .v (vSeries x0.Series b0.2.2.1))] [2] ?_))))
 obtain ⟨t35, h36, h37⟩ := bS h34
 refine k0 (fun γ w hs => c_laws_heldSeries h36 (hv0_2.kept hs.kept)) ?_
 refine oN 1 [(1, vi t35)] [2] ?_
 refine oe (nt (qs (qs (qr (oN 2 [(22, vb (decide (t35 < 0)))] [1, 2] ?_)))))
 refine oe (nt (cC h37 (fun h40 => ?_) (fun h41 => ?_)))
 · refine qs (qr (oN 1 [(4, vi (-1))] [] ?_))
   refine oe (nt (qe (nr ?_)))
   obtain rfl := sI h40
   exact re [.int .i64 (-1)]
 refine qk (nt (qs (qr (oN 3 [(25, vi t35), (24, .v (vMember x0.Member b0.2.2.2))] [] ?_))))
 obtain ⟨t42, h43, h44⟩ := bS h41
 refine k0 (fun γ w hs => c_laws_heldMember (b0 := b0.2.2.2) h43 (hv0_3.kept hs.kept) (hv0_4.kept hs.kept)) ?_
 refine oN 1 [(1, vi t42)] [] ?_
 refine oe (nt (qs (qs (qr (oN 2 [(28, vb (decide (t42 < 0)))] [1] ?_)))))
 refine oe (nt (cC h44 (fun h47 => ?_) (fun h48 => ?_)))
 · refine qs (qr (oN 1 [(4, vi (-1))] [] ?_))
   refine oe (nt (qe (nr ?_)))
   obtain rfl := sI h47
   exact re [.int .i64 (-1)]
 refine qk (nt (qs (qr (oN 2 [(4, vi t42)] [] ?_))))
 refine oe (nt (qe ?_))
 obtain rfl := sI h48
 exact re [.int .i64 t42]

theorem c_laws_FnExactCaseAsOf {W : World} {x0 : Case} {b0 : AC × AC × AC × AC × AC} {x1 : Int} {r : Bool} (h : laws_FnExactCaseAsOf x0 x1 = some r) (hv0_0 : SlView W x0.Book.Rules b0.1.1 b0.1.2) (hv0_1 : SlView W x0.Store.Facts b0.2.1.1 b0.2.1.2) (hv0_2 : SlView W x0.Series.Points b0.2.2.1.1 b0.2.2.1.2) (hv0_3 : SlView W x0.Member.Spells b0.2.2.2.1.1 b0.2.2.2.1.2) (hv0_4 : SlView W x0.Member.Events b0.2.2.2.2.1 b0.2.2.2.2.2) :
    Gives0 Try.prog 3 #[vCase x0 b0, .int .i64 x1] W (.bool r) := by
 unfold laws_FnExactCaseAsOf at h
 refine en Try.func3 Try.ntmps3 ?_
 refine qs (qr (oB 2 [(2, .p 0 0)] [1] [(36, (eCase x0 b0))] ?_))
 refine oe (nt (qs (qr (oN 1 [(5, vi 1048576)] [2, 1] ?_))))
 refine oe (nt (qs (qr (oN 2 [(14, vi 1048576), (13, .v (vCase x0 b0))] [2, 1] ?_))))
 obtain ⟨t21, h22, h23⟩ := bS h
 refine k0 (fun γ w hs => c_laws_szCase (b0 := b0) h22 (hv0_0.kept hs.kept) (hv0_1.kept hs.kept) (hv0_2.kept hs.kept) (hv0_3.kept hs.kept) (hv0_4.kept hs.kept)) ?_
 refine oN 1 [(5, vi t21)] [2, 1] ?_
 refine oe (nt (qs (qs (qr (oN 2 [(17, vb (decide (t21 < 0)))] [2, 1] ?_)))))
 refine oe (nt (cC h23 (fun h26 => ?_) (fun h27 => ?_)))
 · refine qs (qr (oN 1 [(4, vb true)] [] ?_))
   refine oe (nt (qe (nr ?_)))
   obtain rfl := sI h26
   exact re [.bool true]
 refine qk (nt (qs (qr (oN 1 [(18, .v (vCase x0 b0))] [2, 1] ?_))))
 obtain ⟨t28, h29, h30⟩ := bS h27
 refine k1 (fun γ w hs => c_laws_toCase (b0 := b0) h29 (hv0_0.kept hs.kept) (hv0_1.kept hs.kept) (hv0_2.kept hs.kept) (hv0_3.kept hs.kept) (hv0_4.kept hs.kept)) (fun y31 => ?_)
 refine oN 1 [(20, vi x1)] [19, 2, 1] ?_
 obtain ⟨t32, h33, h34⟩ := bS h30
 refine k1 (fun γ w hs => c_spec_CaseAsOf (b0 := y31) h33 (hs.view 0 rfl) (hs.view 1 rfl) (hs.view 2 rfl) (hs.view 3 rfl) (hs.view 4 rfl)) (fun y35 => ?_)
 refine oB 2 [(6, .p 1 0)] [2, 1] [(36, (eCase x0 b0)), (52, (eCase t32 y35))] ?_
 refine oe (nt (qs (qr (oN 1 [(22, .v (vCase x0 b0))] [6, 2, 1] ?_))))
 obtain ⟨t36, h37, h38⟩ := bS h34
 refine k1 (fun γ w hs => c_laws_toCase (b0 := b0) h37 (hv0_0.kept hs.kept) (hv0_1.kept hs.kept) (hv0_2.kept hs.kept) (hv0_3.kept hs.kept) (hv0_4.kept hs.kept)) (fun y39 => ?_)
 refine oB 2 [(7, .p 2 0)] [6, 2, 1] [(36, (eCase x0 b0)), (52, (eCase t32 y35)), (52, (eCase t36 y39))] ?_
 refine oe (nt (qs (qr (oN 2 [(25, vi x1), (24, .v (vCase t36 y39))] [7, 6, 2, 1] ?_))))
 obtain ⟨t40, h41, h42⟩ := bS h38
 refine k1 (fun γ w hs => c_impl_CaseAsOf (b0 := y39) h41 (hs.view 0 rfl) (hs.view 1 rfl) (hs.view 2 rfl) (hs.view 3 rfl) (hs.view 4 rfl)) (fun y43 => ?_)
 refine oB 2 [(8, .p 3 0)] [7, 6, 2, 1] [(36, (eCase x0 b0)), (52, (eCase t32 y35)), (52, (eCase t36 y39)), (52, (eCase t40 y43))] ?_
 refine oe (nt (qs (qs (qr (oN 2 [(28, .v (vCase t32 y35)), (27, .v (vCase t40 y43))] [8, 7, 6, 2, 1] ?_)))))
 obtain ⟨t44, h45, h46⟩ := bS h42
 refine k0 (fun γ w hs => c_laws_eqCase (b0 := y43) (b1 := y35) h45 (hs.view 0 rfl) (hs.view 1 rfl) (hs.view 2 rfl) (hs.view 3 rfl) (hs.view 4 rfl) (hs.view 10 rfl) (hs.view 11 rfl) (hs.view 12 rfl) (hs.view 13 rfl) (hs.view 14 rfl)) ?_
 refine oN 1 [(30, vb (!t44))] [8, 7, 6, 2, 1] ?_
 refine oe (nt (cC h46 (fun h49 => ?_) (fun h50 => ?_)))
 · refine qs (qr (oN 1 [(4, vb false)] [] ?_))
   refine oe (nt (qe (nr ?_)))
   obtain rfl := sI h49
   exact re [.bool false]
 refine qk (nt (qs (qs ?_)))
 obtain ⟨t51, h52, h53⟩ := bS h50
 obtain ⟨t55, h56, h57⟩ := bS h53
 refine JC_cut (τ := Unit) (fun _ => [(35, vb (!t55)), (8, .p 3 0), (7, .p 2 0), (6, .p 1 0), (2, .p 0 0), (1, vi x1)]) (fun _ => [(36, (eCase x0 b0)), (52, (eCase t32 y35)), (52, (eCase t36 y39)), (52, (eCase t40 y43))]) (fun _ => [SlRes 86 t40.Book.Rules y43.1.1 y43.1.2, SlRes 89 t40.Store.Facts y43.2.1.1 y43.2.1.2, SlRes 91 t40.Series.Points y43.2.2.1.1 y43.2.2.1.2, SlRes 125 t40.Member.Spells y43.2.2.2.1.1 y43.2.2.2.1.2, SlRes 129 t40.Member.Events y43.2.2.2.2.1 y43.2.2.2.2.2, SlRes 86 t36.Book.Rules y39.1.1 y39.1.2, SlRes 89 t36.Store.Facts y39.2.1.1 y39.2.1.2, SlRes 91 t36.Series.Points y39.2.2.1.1 y39.2.2.1.2, SlRes 125 t36.Member.Spells y39.2.2.2.1.1 y39.2.2.2.1.2, SlRes 129 t36.Member.Events y39.2.2.2.2.1 y39.2.2.2.2.2, SlRes 86 t32.Book.Rules y35.1.1 y35.1.2, SlRes 89 t32.Store.Facts y35.2.1.1 y35.2.1.2, SlRes 91 t32.Series.Points y35.2.2.1.1 y35.2.2.1.2, SlRes 125 t32.Member.Spells y35.2.2.2.1.1 y35.2.2.2.1.2, SlRes 129 t32.Member.Events y35.2.2.2.2.1 y35.2.2.2.2.2, SlRes 86 t28.Book.Rules y31.1.1 y31.1.2, SlRes 89 t28.Store.Facts y31.2.1.1 y31.2.1.2, SlRes 91 t28.Series.Points y31.2.2.1.1 y31.2.2.1.2, SlRes 125 t28.Member.Spells y31.2.2.2.1.1 y31.2.2.2.1.2, SlRes 129 t28.Member.Events y31.2.2.2.2.1 y31.2.2.2.2.2]) ?_ (fun _ => ?_)
 · refine JC_weak [8, 7, 6, 2, 1] [0, 0, 0, 0, 0, 0, 0, 0, 0, 0, 0, 0, 0, 0, 0, 0, 0, 0, 0, 0] 4 (sl' := [(8, .p 3 0), (7, .p 2 0), (6, .p 1 0), (2, .p 0 0), (1, vi x1)]) (bx' := [(36, (eCase x0 b0)), (52, (eCase t32 y35)), (52, (eCase t36 y39)), (52, (eCase t40 y43))]) (R' := [SlRes 86 t40.Book.Rules y43.1.1 y43.1.2, SlRes 89 t40.Store.Facts y43.2.1.1 y43.2.1.2, SlRes 91 t40.Series.Points y43.2.2.1.1 y43.2.2.1.2, SlRes 125 t40.Member.Spells y43.2.2.2.1.1 y43.2.2.2.1.2, SlRes 129 t40.Member.Events y43.2.2.2.2.1 y43.2.2.2.2.2, SlRes 86 t36.Book.Rules y39.1.1 y39.1.2, SlRes 89 t36.Store.Facts y39.2.1.1 y39.2.1.2, SlRes 91 t36.Series.Points y39.2.2.1.1 y39.2.2.1.2, SlRes 125 t36.Member.Spells y39.2.2.2.1.1 y39.2.2.2.1.2, SlRes 129 t36.Member.Events y39.2.2.2.2.1 y39.2.2.2.2.2, SlRes 86 t32.Book.Rules y35.1.1 y35.1.2, SlRes 89 t32.Store.Facts y35.2.1.1 y35.2.1.2, SlRes 91 t32.Series.Points y35.2.2.1.1 y35.2.2.1.2, SlRes 125 t32.Member.Spells y35.2.2.2.1.1 y35.2.2.2.1.2, SlRes 129 t32.Member.Events y35.2.2.2.2.1 y35.2.2.2.2.2, SlRes 86 t28.Book.Rules y31.1.1 y31.1.2, SlRes 89 t28.Store.Facts y31.2.1.1 y31.2.1.2, SlRes 91 t28.Series.Points y31.2.2.1.1 y31.2.2.1.2, SlRes 125 t28.Member.Spells y31.2.2.2.1.1 y31.2.2.2.1.2, SlRes 129 t28.Member.Events y31.2.2.2.2.1 y31.2.2.2.2.2]) (by kernel_rfl) (by kernel_rfl) (by kernel_rfl) (by kernel_rfl) ?_
   refine JC_heldN (ks := [0, 1, 2, 3]) (Rk := [SlRes 86 t40.Book.Rules y43.1.1 y43.1.2, SlRes 89 t40.Store.Facts y43.2.1.1 y43.2.1.2, SlRes 91 t40.Series.Points y43.2.2.1.1 y43.2.2.1.2, SlRes 125 t40.Member.Spells y43.2.2.2.1.1 y43.2.2.2.1.2, SlRes 129 t40.Member.Events y43.2.2.2.2.1 y43.2.2.2.2.2, SlRes 86 t36.Book.Rules y39.1.1 y39.1.2, SlRes 89 t36.Store.Facts y39.2.1.1 y39.2.1.2, SlRes 91 t36.Series.Points y39.2.2.1.1 y39.2.2.1.2, SlRes 125 t36.Member.Spells y39.2.2.2.1.1 y39.2.2.2.1.2, SlRes 129 t36.Member.Events y39.2.2.2.2.1 y39.2.2.2.2.2, SlRes 86 t32.Book.Rules y35.1.1 y35.1.2, SlRes 89 t32.Store.Facts y35.2.1.1 y35.2.1.2, SlRes 91 t32.Series.Points y35.2.2.1.1 y35.2.2.1.2, SlRes 125 t32.Member.Spells y35.2.2.2.1.1 y35.2.2.2.1.2, SlRes 129 t32.Member.Events y35.2.2.2.2.1 y35.2.2.2.2.2, SlRes 86 t28.Book.Rules y31.1.1 y31.1.2, SlRes 89 t28.Store.Facts y31.2.1.1 y31.2.1.2, SlRes 91 t28.Series.Points y31.2.2.1.1 y31.2.2.1.2, SlRes 125 t28.Member.Spells y31.2.2.2.1.1 y31.2.2.2.1.2, SlRes 129 t28.Member.Events y31.2.2.2.2.1 y31.2.2.2.2.2]) 5 (by kernel_rfl) (by kernel_rfl) ?_
   refine htq 0 (.v (vCase t36 y39)) [0, 0, 0, 0, 0, 0, 0, 0, 0, 0, 0, 0, 0, 0, 0, 0, 0, 0, 0, 0] ?_
   refine htq 1 (.v (vCase x0 b0)) [0, 0, 0, 0, 0, 0, 0, 0, 0, 0, 0, 0, 0, 0, 0, 0, 0, 0, 0, 0] ?_
   refine ha1 2 ?_
   refine hi (fun γ0 δ hm => ?_)
   refine g1 (fun w hs => c_laws_toCase (b0 := b0) h52 (hv0_0.kept hs.kept) (hv0_1.kept hs.kept) (hv0_2.kept hs.kept) (hv0_3.kept hs.kept) (hv0_4.kept hs.kept)) (fun y54 => ?_)
   refine gn hm [33, 31, 8, 7, 6, 2, 1] [5, 5, 5, 5, 5, 5, 5, 5, 5, 5, 5, 5, 5, 5, 5, 5, 5, 5, 5, 5] ?_
   refine ha1 3 ?_
   refine hi (fun γ0 δ hm => ?_)
   refine g0 (fun w hs => c_laws_eqCase (b0 := y39) (b1 := y54) h56 (hs.view 10 rfl) (hs.view 11 rfl) (hs.view 12 rfl) (hs.view 13 rfl) (hs.view 14 rfl) (hs.view 0 rfl) (hs.view 1 rfl) (hs.view 2 rfl) (hs.view 3 rfl) (hs.view 4 rfl)) ?_
   refine gn hm [34, 8, 7, 6, 2, 1] [5, 5, 5, 5, 5, 5, 5, 5, 5, 5, 5, 5, 5, 5, 5, 5, 5, 5, 5, 5] ?_
   refine htq 4 (vb (!t55)) [5, 5, 5, 5, 5, 5, 5, 5, 5, 5, 5, 5, 5, 5, 5, 5, 5, 5, 5, 5] ?_
   refine hk [35, 8, 7, 6, 2, 1] ?_
   exact hd () [35, 8, 7, 6, 2, 1] [5, 5, 5, 5, 5, 5, 5, 5, 5, 5, 5, 5, 5, 5, 5, 5, 5, 5, 5, 5] 4
 refine nt (cC h57 (fun h61 => ?_) (fun h62 => ?_))
 · refine qs (qr (oN 1 [(4, vb false)] [] ?_))
   refine oe (nt (qe (nr ?_)))
   obtain rfl := sI h61
   exact re [.bool false]
 refine qk (nt (qs (qr (oN 1 [(9, vi 1)] [8, 7, 6, 2, 1] ?_))))
 refine oe (nt (qs (qr (oN 2 [(37, vi 1), (36, .v (vCase t36 y39))] [8, 6, 2, 1] ?_))))
 refine JO_res (R' := [SlRes 86 t36.Book.Rules y39.1.1 y39.1.2, SlRes 89 t36.Store.Facts y39.2.1.1 y39.2.1.2, SlRes 91 t36.Series.Points y39.2.2.1.1 y39.2.2.1.2, SlRes 125 t36.Member.Spells y39.2.2.2.1.1 y39.2.2.2.1.2, SlRes 129 t36.Member.Events y39.2.2.2.2.1 y39.2.2.2.2.2, SlRes 86 t40.Book.Rules y43.1.1 y43.1.2, SlRes 89 t40.Store.Facts y43.2.1.1 y43.2.1.2, SlRes 91 t40.Series.Points y43.2.2.1.1 y43.2.2.1.2, SlRes 125 t40.Member.Spells y43.2.2.2.1.1 y43.2.2.2.1.2, SlRes 129 t40.Member.Events y43.2.2.2.2.1 y43.2.2.2.2.2, SlRes 86 t32.Book.Rules y35.1.1 y35.1.2, SlRes 89 t32.Store.Facts y35.2.1.1 y35.2.1.2, SlRes 91 t32.Series.Points y35.2.2.1.1 y35.2.2.1.2, SlRes 125 t32.Member.Spells y35.2.2.2.1.1 y35.2.2.2.1.2, SlRes 129 t32.Member.Events y35.2.2.2.2.1 y35.2.2.2.2.2, SlRes 86 t28.Book.Rules y31.1.1 y31.1.2, SlRes 89 t28.Store.Facts y31.2.1.1 y31.2.1.2, SlRes 91 t28.Series.Points y31.2.2.1.1 y31.2.2.1.2, SlRes 125 t28.Member.Spells y31.2.2.2.1.1 y31.2.2.2.1.2, SlRes 129 t28.Member.Events y31.2.2.2.2.1 y31.2.2.2.2.2]) [5, 5, 5, 5, 5, 0, 0, 0, 0, 0, 0, 0, 0, 0, 0, 0, 0, 0, 0, 0] (by kernel_rfl) ?_
 obtain ⟨t63, h64, h65⟩ := bS h62
 obtain ⟨u67, hu68, h69⟩ := bS h65
 have hl70 := (sameLen_some hu68).symm
 obtain ⟨u71, hu72, h73⟩ := bS h69
 have hl74 := (sameLen_some hu72).symm
 obtain ⟨u75, hu76, h77⟩ := bS h73
 have hl78 := (sameLen_some hu76).symm
 obtain ⟨u79, hu80, h81⟩ := bS h77
 have hl82 := (sameLen_some hu80).symm
 obtain ⟨u83, hu84, h85⟩ := bS h81
 have hl86 := (sameLen_some hu84).symm
 refine JO_callM rfl (by kernel_rfl) (f := 9) (args := #[vCase t36 y39, .int .i64 1]) (by kernel_rfl) (x := .int .i64 t63.1) (Rin := [SlRes 86 t36.Book.Rules y39.1.1 y39.1.2, SlRes 89 t36.Store.Facts y39.2.1.1 y39.2.1.2, SlRes 91 t36.Series.Points y39.2.2.1.1 y39.2.2.1.2, SlRes 125 t36.Member.Spells y39.2.2.2.1.1 y39.2.2.2.1.2, SlRes 129 t36.Member.Events y39.2.2.2.2.1 y39.2.2.2.2.2]) (Rout := [SlRes 86 t63.2.1 y39.1.1 y39.1.2, SlRes 89 t63.2.2.1 y39.2.1.1 y39.2.1.2, SlRes 91 t63.2.2.2.1 y39.2.2.1.1 y39.2.2.1.2, SlRes 125 t63.2.2.2.2.1 y39.2.2.2.1.1 y39.2.2.2.1.2, SlRes 129 t63.2.2.2.2.2 y39.2.2.2.2.1 y39.2.2.2.2.2]) (Rr := [SlRes 86 t40.Book.Rules y43.1.1 y43.1.2, SlRes 89 t40.Store.Facts y43.2.1.1 y43.2.1.2, SlRes 91 t40.Series.Points y43.2.2.1.1 y43.2.2.1.2, SlRes 125 t40.Member.Spells y43.2.2.2.1.1 y43.2.2.2.1.2, SlRes 129 t40.Member.Events y43.2.2.2.2.1 y43.2.2.2.2.2, SlRes 86 t32.Book.Rules y35.1.1 y35.1.2, SlRes 89 t32.Store.Facts y35.2.1.1 y35.2.1.2, SlRes 91 t32.Series.Points y35.2.2.1.1 y35.2.2.1.2, SlRes 125 t32.Member.Spells y35.2.2.2.1.1 y35.2.2.2.1.2, SlRes 129 t32.Member.Events y35.2.2.2.2.1 y35.2.2.2.2.2, SlRes 86 t28.Book.Rules y31.1.1 y31.1.2, SlRes 89 t28.Store.Facts y31.2.1.1 y31.2.1.2, SlRes 91 t28.Series.Points y31.2.2.1.1 y31.2.2.1.2, SlRes 125 t28.Member.Spells y31.2.2.2.1.1 y31.2.2.2.1.2, SlRes 129 t28.Member.Events y31.2.2.2.2.1 y31.2.2.2.2.2]) rfl (fun w => (by have vv := c_laws_markCase (e0_0 := 86) (a0_0 := y39.1.1) (c0_0 := y39.1.2) (e0_1 := 89) (a0_1 := y39.2.1.1) (c0_1 := y39.2.1.2) (e0_2 := 91) (a0_2 := y39.2.2.1.1) (c0_2 := y39.2.2.1.2) (e0_3 := 125) (a0_3 := y39.2.2.2.1.1) (c0_3 := y39.2.2.2.1.2) (e0_4 := 129) (a0_4 := y39.2.2.2.2.1) (c0_4 := y39.2.2.2.2.2) (W := w) h64; exact vv)) (sl' := [(38, vi t63.1), (37, vi 1), (36, .v (vCase t36 y39)), (8, .p 3 0), (6, .p 1 0), (2, .p 0 0), (1, vi x1)]) (by kernel_rfl) ?_
 refine JO_eqE (sl' := [(38, vi t63.1), (37, vi 1), (36, .v (vCase (Case.mk (Book.mk t63.2.1) (Store.mk t63.2.2.1) (Series.mk t63.2.2.2.1) (Member.mk t36.Member.Birth t36.Member.Joined t63.2.2.2.2.1 t63.2.2.2.2.2)) y39)), (8, .p 3 0), (6, .p 1 0), (2, .p 0 0), (1, vi x1)]) (bx' := [(36, (eCase x0 b0)), (52, (eCase t32 y35)), (52, (eCase (Case.mk (Book.mk t63.2.1) (Store.mk t63.2.2.1) (Series.mk t63.2.2.2.1) (Member.mk t36.Member.Birth t36.Member.Joined t63.2.2.2.2.1 t63.2.2.2.2.2)) y39)), (52, (eCase t40 y43))]) (by simp only [eCase, vCase, hl70, hl74, hl78, hl82, hl86]) (by simp only [eCase, vCase, hl70, hl74, hl78, hl82, hl86]) ?_
 refine oN 1 [(9, vi t63.1)] [8, 6, 2, 1] ?_
 refine oe (nt (qs (qs ?_)))
 obtain ⟨p87, hE88, h89⟩ := bS h85
 refine JC_cut (τ := Unit) (fun _ => [(1, vi x1), (2, .p 0 0), (6, .p 1 0), (8, .p 3 0), (46, vb p87)]) (fun _ => [(36, (eCase x0 b0)), (52, (eCase t32 y35)), (52, (eCase (Case.mk (Book.mk t63.2.1) (Store.mk t63.2.2.1) (Series.mk t63.2.2.2.1) (Member.mk t36.Member.Birth t36.Member.Joined t63.2.2.2.2.1 t63.2.2.2.2.2)) y39)), (52, (eCase t40 y43))]) (fun _ => [SlRes 86 t32.Book.Rules y35.1.1 y35.1.2, SlRes 89 t32.Store.Facts y35.2.1.1 y35.2.1.2, SlRes 91 t32.Series.Points y35.2.2.1.1 y35.2.2.1.2, SlRes 125 t32.Member.Spells y35.2.2.2.1.1 y35.2.2.2.1.2, SlRes 129 t32.Member.Events y35.2.2.2.2.1 y35.2.2.2.2.2, SlRes 86 t63.2.1 y39.1.1 y39.1.2, SlRes 89 t63.2.2.1 y39.2.1.1 y39.2.1.2, SlRes 91 t63.2.2.2.1 y39.2.2.1.1 y39.2.2.1.2, SlRes 125 t63.2.2.2.2.1 y39.2.2.2.1.1 y39.2.2.2.1.2, SlRes 129 t63.2.2.2.2.2 y39.2.2.2.2.1 y39.2.2.2.2.2, SlRes 86 t40.Book.Rules y43.1.1 y43.1.2, SlRes 89 t40.Store.Facts y43.2.1.1 y43.2.1.2, SlRes 91 t40.Series.Points y43.2.2.1.1 y43.2.2.1.2, SlRes 125 t40.Member.Spells y43.2.2.2.1.1 y43.2.2.2.1.2, SlRes 129 t40.Member.Events y43.2.2.2.2.1 y43.2.2.2.2.2]) ?_ (fun _ => ?_)
 · refine qr (oN 3 [(41, vb (decide (t63.1 < 0)))] [8, 6, 2, 1] ?_)
   refine oS 41 hE88 (fun h91 => ?_) (fun h92 => ?_)
   · refine oN 5 [(46, vb true)] [8, 6, 2, 1] ?_
     refine oe ?_
     obtain rfl := sI h91
     exact mt () [1, 2, 6, 8, 46] [10, 10, 10, 10, 10, 0, 0, 0, 0, 0, 0, 0, 0, 0, 0] 4
   refine oN 2 [(43, .v (vCase t32 y35)), (42, .v (vCase t40 y43))] [41, 8, 6, 2, 1] ?_
   obtain ⟨t93, h94, h95⟩ := bS h92
   refine k0 (fun γ w hs => c_laws_eqCase (b0 := y43) (b1 := y35) h94 (hs.view 5 rfl) (hs.view 6 rfl) (hs.view 7 rfl) (hs.view 8 rfl) (hs.view 9 rfl) (hs.view 10 rfl) (hs.view 11 rfl) (hs.view 12 rfl) (hs.view 13 rfl) (hs.view 14 rfl)) ?_
   refine oN 2 [(46, vb (!t93))] [8, 6, 2, 1] ?_
   refine oe ?_
   obtain rfl := sI h95
   exact mt () [1, 2, 6, 8, 46] [10, 10, 10, 10, 10, 0, 0, 0, 0, 0, 0, 0, 0, 0, 0] 4
 refine nt (cC h89 (fun h98 => ?_) (fun h99 => ?_))
 · refine qs (qr (oN 1 [(4, vb false)] [] ?_))
   refine oe (nt (qe (nr ?_)))
   obtain rfl := sI h98
   exact re [.bool false]
 refine qk (nt (qs (qr (oN 1 [(10, vi 1)] [1, 2, 6, 8] ?_))))
 refine oe (nt (qs (qr (oN 2 [(48, vi 1), (47, .v (vCase t40 y43))] [1, 2, 6, 8] ?_))))
 refine JO_res (R' := [SlRes 86 t40.Book.Rules y43.1.1 y43.1.2, SlRes 89 t40.Store.Facts y43.2.1.1 y43.2.1.2, SlRes 91 t40.Series.Points y43.2.2.1.1 y43.2.2.1.2, SlRes 125 t40.Member.Spells y43.2.2.2.1.1 y43.2.2.2.1.2, SlRes 129 t40.Member.Events y43.2.2.2.2.1 y43.2.2.2.2.2, SlRes 86 t32.Book.Rules y35.1.1 y35.1.2, SlRes 89 t32.Store.Facts y35.2.1.1 y35.2.1.2, SlRes 91 t32.Series.Points y35.2.2.1.1 y35.2.2.1.2, SlRes 125 t32.Member.Spells y35.2.2.2.1.1 y35.2.2.2.1.2, SlRes 129 t32.Member.Events y35.2.2.2.2.1 y35.2.2.2.2.2, SlRes 86 t63.2.1 y39.1.1 y39.1.2, SlRes 89 t63.2.2.1 y39.2.1.1 y39.2.1.2, SlRes 91 t63.2.2.2.1 y39.2.2.1.1 y39.2.2.1.2, SlRes 125 t63.2.2.2.2.1 y39.2.2.2.1.1 y39.2.2.2.1.2, SlRes 129 t63.2.2.2.2.2 y39.2.2.2.2.1 y39.2.2.2.2.2]) [10, 10, 10, 10, 10, 0, 0, 0, 0, 0, 0, 0, 0, 0, 0] (by kernel_rfl) ?_
 obtain ⟨t100, h101, h102⟩ := bS h99
 obtain ⟨u104, hu105, h106⟩ := bS h102
 have hl107 := (sameLen_some hu105).symm
 obtain ⟨u108, hu109, h110⟩ := bS h106
 have hl111 := (sameLen_some hu109).symm
 obtain ⟨u112, hu113, h114⟩ := bS h110
 have hl115 := (sameLen_some hu113).symm
 obtain ⟨u116, hu117, h118⟩ := bS h114
 have hl119 := (sameLen_some hu117).symm
 obtain ⟨u120, hu121, h122⟩ := bS h118
 have hl123 := (sameLen_some hu121).symm
 refine JO_callM rfl (by kernel_rfl) (f := 9) (args := #[vCase t40 y43, .int .i64 1]) (by kernel_rfl) (x := .int .i64 t100.1) (Rin := [SlRes 86 t40.Book.Rules y43.1.1 y43.1.2, SlRes 89 t40.Store.Facts y43.2.1.1 y43.2.1.2, SlRes 91 t40.Series.Points y43.2.2.1.1 y43.2.2.1.2, SlRes 125 t40.Member.Spells y43.2.2.2.1.1 y43.2.2.2.1.2, SlRes 129 t40.Member.Events y43.2.2.2.2.1 y43.2.2.2.2.2]) (Rout := [SlRes 86 t100.2.1 y43.1.1 y43.1.2, SlRes 89 t100.2.2.1 y43.2.1.1 y43.2.1.2, SlRes 91 t100.2.2.2.1 y43.2.2.1.1 y43.2.2.1.2, SlRes 125 t100.2.2.2.2.1 y43.2.2.2.1.1 y43.2.2.2.1.2, SlRes 129 t100.2.2.2.2.2 y43.2.2.2.2.1 y43.2.2.2.2.2]) (Rr := [SlRes 86 t32.Book.Rules y35.1.1 y35.1.2, SlRes 89 t32.Store.Facts y35.2.1.1 y35.2.1.2, SlRes 91 t32.Series.Points y35.2.2.1.1 y35.2.2.1.2, SlRes 125 t32.Member.Spells y35.2.2.2.1.1 y35.2.2.2.1.2, SlRes 129 t32.Member.Events y35.2.2.2.2.1 y35.2.2.2.2.2, SlRes 86 t63.2.1 y39.1.1 y39.1.2, SlRes 89 t63.2.2.1 y39.2.1.1 y39.2.1.2, SlRes 91 t63.2.2.2.1 y39.2.2.1.1 y39.2.2.1.2, SlRes 125 t63.2.2.2.2.1 y39.2.2.2.1.1 y39.2.2.2.1.2, SlRes 129 t63.2.2.2.2.2 y39.2.2.2.2.1 y39.2.2.2.2.2]) rfl (fun w => (by have vv := c_laws_markCase (e0_0 := 86) (a0_0 := y43.1.1) (c0_0 := y43.1.2) (e0_1 := 89) (a0_1 := y43.2.1.1) (c0_1 := y43.2.1.2) (e0_2 := 91) (a0_2 := y43.2.2.1.1) (c0_2 := y43.2.2.1.2) (e0_3 := 125) (a0_3 := y43.2.2.2.1.1) (c0_3 := y43.2.2.2.1.2) (e0_4 := 129) (a0_4 := y43.2.2.2.2.1) (c0_4 := y43.2.2.2.2.2) (W := w) h101; exact vv)) (sl' := [(49, vi t100.1), (48, vi 1), (47, .v (vCase t40 y43)), (1, vi x1), (2, .p 0 0), (6, .p 1 0), (8, .p 3 0)]) (by kernel_rfl) ?_
 refine JO_eqE (sl' := [(49, vi t100.1), (48, vi 1), (47, .v (vCase (Case.mk (Book.mk t100.2.1) (Store.mk t100.2.2.1) (Series.mk t100.2.2.2.1) (Member.mk t40.Member.Birth t40.Member.Joined t100.2.2.2.2.1 t100.2.2.2.2.2)) y43)), (1, vi x1), (2, .p 0 0), (6, .p 1 0), (8, .p 3 0)]) (bx' := [(36, (eCase x0 b0)), (52, (eCase t32 y35)), (52, (eCase (Case.mk (Book.mk t63.2.1) (Store.mk t63.2.2.1) (Series.mk t63.2.2.2.1) (Member.mk t36.Member.Birth t36.Member.Joined t63.2.2.2.2.1 t63.2.2.2.2.2)) y39)), (52, (eCase (Case.mk (Book.mk t100.2.1) (Store.mk t100.2.2.1) (Series.mk t100.2.2.2.1) (Member.mk t40.Member.Birth t40.Member.Joined t100.2.2.2.2.1 t100.2.2.2.2.2)) y43))]) (by simp only [eCase, vCase, hl107, hl111, hl115, hl119, hl123]) (by simp only [eCase, vCase, hl107, hl111, hl115, hl119, hl123]) ?_
 refine oN 1 [(10, vi t100.1)] [1, 2, 6, 8] ?_
 refine oe (nt (qs (qr (oN 1 [(11, vi 1)] [10, 1, 2, 6, 8] ?_))))
 refine oe (nt (qs (qr (oN 2 [(51, vi 1), (50, .v (vCase (Case.mk (Book.mk t100.2.1) (Store.mk t100.2.2.1) (Series.mk t100.2.2.2.1) (Member.mk t40.Member.Birth t40.Member.Joined t100.2.2.2.2.1 t100.2.2.2.2.2)) y43))] [10, 1, 2, 6, 8] ?_))))
 obtain ⟨t124, h125, h126⟩ := bS h122
 refine k0 (fun γ w hs => c_laws_heldCase (b0 := y43) h125 (hs.view 0 rfl) (hs.view 1 rfl) (hs.view 2 rfl) (hs.view 3 rfl) (hs.view 4 rfl)) ?_
 refine oN 1 [(11, vi t124)] [10, 1, 2, 6, 8] ?_
 refine oe (nt (qs (qs (qr (oN 2 [(54, vb (decide (t124 < 0)))] [11, 10, 1, 2, 6, 8] ?_)))))
 refine oe (nt (cC h126 (fun h129 => ?_) (fun h130 => ?_)))
 · refine qs (qr (oN 1 [(4, vb false)] [] ?_))
   refine oe (nt (qe (nr ?_)))
   obtain rfl := sI h129
   exact re [.bool false]
 refine qk (nt (qs (qs (qr (oN 3 [(57, vb (t124 != t100.1))] [10, 1, 2, 6, 8] ?_)))))
 refine oe (nt (cC h130 (fun h132 => ?_) (fun h133 => ?_)))
 · refine qs (qr (oN 1 [(4, vb false)] [] ?_))
   refine oe (nt (qe (nr ?_)))
   obtain rfl := sI h132
   exact re [.bool false]
 refine qk (nt (qs (qr (oN 1 [(58, .v (vCase x0 b0))] [10, 1, 6, 8] ?_))))
 obtain ⟨t134, h135, h136⟩ := bS h133
 refine k1 (fun γ w hs => c_laws_toCase (b0 := b0) h135 (hv0_0.kept hs.kept) (hv0_1.kept hs.kept) (hv0_2.kept hs.kept) (hv0_3.kept hs.kept) (hv0_4.kept hs.kept)) (fun y137 => ?_)
 refine oN 1 [(60, vi x1)] [59, 10, 6, 8] ?_
 obtain ⟨t138, h139, h140⟩ := bS h136
 refine k1 (fun γ w hs => c_impl_CaseAsOf (b0 := y137) h139 (hs.view 0 rfl) (hs.view 1 rfl) (hs.view 2 rfl) (hs.view 3 rfl) (hs.view 4 rfl)) (fun y141 => ?_)
 refine oB 2 [(12, .p 4 0)] [10, 6, 8] [(36, (eCase x0 b0)), (52, (eCase t32 y35)), (52, (eCase (Case.mk (Book.mk t63.2.1) (Store.mk t63.2.2.1) (Series.mk t63.2.2.2.1) (Member.mk t36.Member.Birth t36.Member.Joined t63.2.2.2.2.1 t63.2.2.2.2.2)) y39)), (52, (eCase (Case.mk (Book.mk t100.2.1) (Store.mk t100.2.2.1) (Series.mk t100.2.2.2.1) (Member.mk t40.Member.Birth t40.Member.Joined t100.2.2.2.2.1 t100.2.2.2.2.2)) y43)), (52, (eCase t138 y141))] ?_
 refine oe (nt (qs (qs (qr (oN 2 [(63, .v (vCase t32 y35)), (62, .v (vCase t138 y141))] [10, 8] ?_)))))
 obtain ⟨t142, h143, h144⟩ := bS h140
 refine k0 (fun γ w hs => c_laws_eqCase (b0 := y141) (b1 := y35) h143 (hs.view 0 rfl) (hs.view 1 rfl) (hs.view 2 rfl) (hs.view 3 rfl) (hs.view 4 rfl) (hs.view 15 rfl) (hs.view 16 rfl) (hs.view 17 rfl) (hs.view 18 rfl) (hs.view 19 rfl)) ?_
 refine oN 1 [(65, vb (!t142))] [10, 8] ?_
 refine oe (nt (cC h144 (fun h147 => ?_) (fun h148 => ?_)))
 · refine qs (qr (oN 1 [(4, vb false)] [] ?_))
   refine oe (nt (qe (nr ?_)))
   obtain rfl := sI h147
   exact re [.bool false]
 refine qk (nt (qs (qr (oN 1 [(11, vi 1)] [10, 8] ?_))))
 refine oe (nt (qs (qr (oN 2 [(67, vi 1), (66, .v (vCase (Case.mk (Book.mk t100.2.1) (Store.mk t100.2.2.1) (Series.mk t100.2.2.2.1) (Member.mk t40.Member.Birth t40.Member.Joined t100.2.2.2.2.1 t100.2.2.2.2.2)) y43))] [10] ?_))))
 obtain ⟨t149, h150, h151⟩ := bS h148
 refine k0 (fun γ w hs => c_laws_heldCase (b0 := y43) h150 (hs.view 10 rfl) (hs.view 11 rfl) (hs.view 12 rfl) (hs.view 13 rfl) (hs.view 14 rfl)) ?_
 refine oN 1 [(11, vi t149)] [10] ?_
 refine oe (nt (qs (qs (qr (oN 2 [(70, vb (decide (t149 < 0)))] [11, 10] ?_)))))
 refine oe (nt (cC h151 (fun h154 => ?_) (fun h155 => ?_)))
 · refine qs (qr (oN 1 [(4, vb false)] [] ?_))
   refine oe (nt (qe (nr ?_)))
   obtain rfl := sI h154
   exact re [.bool false]
 refine qk (nt (qs (qs (qr (oN 3 [(73, vb (t149 != t100.1))] [] ?_)))))
 refine oe (nt (cC h155 (fun h157 => ?_) (fun h158 => ?_)))
 · refine qs (qr (oN 1 [(4, vb false)] [] ?_))
   refine oe (nt (qe (nr ?_)))
   obtain rfl := sI h157
   exact re [.bool false]
 refine qk (nt (qs (qr (oN 1 [(4, vb true)] [] ?_))))
 refine oe (nt (qe ?_))
 obtain rfl := sI h158
 exact re [.bool true]
end Go.Pen
