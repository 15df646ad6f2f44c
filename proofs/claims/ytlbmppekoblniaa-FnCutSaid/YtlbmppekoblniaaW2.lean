/-
  Each Go function does what its plain function says: written by a program of ours.
-/
import Derived.Test.YtlbmppekoblniaaW1
import Derived.Test.YtlbmppekoblniaaProg
import Derived.Test.YtlbmppekoblniaaPenK
import Derived.Test.YtlbmppekoblniaaPenJ
import Derived.Test.YtlbmppekoblniaaPenP
import Derived.Test.YtlbmppekoblniaaPenM
namespace Go.Pen
open Go.Proofs Go.RowKit
set_option linter.unusedVariables false
set_option linter.unusedSimpArgs false
set_option maxRecDepth 100000
set_option maxHeartbeats 4000000

theorem c_slices_stableCmpFunc_int__impl_Allocate_1 {W : World} {x0 : List Int} {a0_0 : Option Addr} {c0_0 : Nat} {e0_0 : TypeId} {x1 : Int} {g2_0 : Nat} {z2_0 : Int} {g2_1 : Nat} {z2_1 : List Int} {g2_2 : Nat} {z2_2 : Int} {r : (List Int)} (h : slices_stableCmpFunc_int__impl_Allocate_1 x0 x1 z2_0 z2_1 z2_2 = some r)  :
    GivesMQ Try.prog (fun w => ∀ (q0 : Int) (q1 : Int) (r : Int), impl_Allocate_1 q0 q1 z2_0 z2_1 z2_2 = some r → Gives0 Try.prog 35 #[.int .i64 q0, .int .i64 q1, .pointer (some ⟨g2_0, 0, none⟩), .pointer (some ⟨g2_1, 0, none⟩), .pointer (some ⟨g2_2, 0, none⟩)] w (.int .i64 r)) 40 #[.slice a0_0 x0.length c0_0, .int .i64 x1, .func (.func 35) #[] #[.pointer (some ⟨g2_0, 0, none⟩), .pointer (some ⟨g2_1, 0, none⟩), .pointer (some ⟨g2_2, 0, none⟩)]] W [SlRes e0_0 x0 a0_0 c0_0] [SlRes e0_0 r a0_0 c0_0] (.tuple #[]) := by
 unfold slices_stableCmpFunc_int__impl_Allocate_1 at h
 refine enterMQ [.v (.slice a0_0 x0.length c0_0), vi x1, .v (.func (.func 35) #[] #[.pointer (some ⟨g2_0, 0, none⟩), .pointer (some ⟨g2_1, 0, none⟩), .pointer (some ⟨g2_2, 0, none⟩)])] (args := [.slice a0_0 x0.length c0_0, .int .i64 x1, .func (.func 35) #[] #[.pointer (some ⟨g2_0, 0, none⟩), .pointer (some ⟨g2_1, 0, none⟩), .pointer (some ⟨g2_2, 0, none⟩)]]) (by kernel_rfl) (by kernel_rfl) Try.func40 rfl Try.ntmps40 (by kernel_rfl) (fun Fs hq => ?_)
 refine qs (qr (oN 1 [(6, vi 20)] [0, 1, 2] ?_))
 refine oe (nt (qs (qr (oN 3 [(8, vi 20), (7, vi 0)] [6, 0, 1, 2] ?_))))
 refine oe (nt (qs ?_))
 obtain ⟨r24, hL25, h26⟩ := bS h
 obtain ⟨k27, hk28, h26⟩ := brkS h26
 refine JC_cutP (τ := (Int × Int × (List Int) × Int) × (Unit)) (fun y => k27 y.1 = some r) (fun y32 => [(7, vi y32.1.1), (6, vi y32.1.2.1), (0, .v (.slice a0_0 y32.1.2.2.1.length c0_0)), (1, vi y32.1.2.2.2), (2, .v (.func (.func 35) #[] #[.pointer (some ⟨g2_0, 0, none⟩), .pointer (some ⟨g2_1, 0, none⟩), .pointer (some ⟨g2_2, 0, none⟩)]))]) (fun y32 => []) (fun y32 => [SlRes e0_0 y32.1.2.2.1 a0_0 c0_0]) ?_ (fun y32 h33p => ?_)
 · refine qb (lp Unit hL25 (fun s21 y22 => [(8, vi s21.1), (7, vi s21.2.1), (6, vi 20), (0, .v (.slice a0_0 s21.2.2.length c0_0)), (1, vi x1), (2, .v (.func (.func 35) #[] #[.pointer (some ⟨g2_0, 0, none⟩), .pointer (some ⟨g2_1, 0, none⟩), .pointer (some ⟨g2_2, 0, none⟩)]))]) (fun s21 y22 => []) (fun s21 y22 => [SlRes e0_0 s21.2.2 a0_0 c0_0]) () [8, 7, 6, 0, 1, 2] [0] 0 (fun s21 y22 t23 h29 hd30 => ?_))
   refine qs (qs (qr (oN 3 [(13, vb (decide (s21.1 ≤ x1)))] [8, 7, 6, 0, 1, 2] ?_)))
   refine oe (nt (cC h29 (fun h111 => ?_) (fun h112 => ?_)))
   · refine qk (nt (qb (qs (qr (oN 4 [(17, .v (.func (.func 35) #[] #[.pointer (some ⟨g2_0, 0, none⟩), .pointer (some ⟨g2_1, 0, none⟩), .pointer (some ⟨g2_2, 0, none⟩)])), (16, vi s21.1), (15, vi s21.2.1), (14, .v (.slice a0_0 s21.2.2.length c0_0))] [8, 6, 0, 1, 2] ?_)))))
     obtain ⟨t113, h114, h115⟩ := bS h111
     obtain ⟨u117, hu118, h119⟩ := bS h115
     have hl120 := (sameLen_some hu118).symm
     refine JO_callMQ rfl (by kernel_rfl) (f := 43) (C := fun γ => (fun w => ∀ (q0 : Int) (q1 : Int) (r : Int), impl_Allocate_1 q0 q1 z2_0 z2_1 z2_2 = some r → Gives0 Try.prog 35 #[.int .i64 q0, .int .i64 q1, .pointer (some ⟨g2_0, 0, none⟩), .pointer (some ⟨g2_1, 0, none⟩), .pointer (some ⟨g2_2, 0, none⟩)] w (.int .i64 r))) (args := fun γ => #[.slice a0_0 s21.2.2.length c0_0, .int .i64 s21.2.1, .int .i64 s21.1, .func (.func 35) #[] #[.pointer (some ⟨g2_0, 0, none⟩), .pointer (some ⟨g2_1, 0, none⟩), .pointer (some ⟨g2_2, 0, none⟩)]]) (fun γ => by kernel_rfl) (x := .tuple #[]) (Rin := [SlRes e0_0 s21.2.2 a0_0 c0_0]) (Rout := [SlRes e0_0 t113 a0_0 c0_0]) (Rr := []) rfl (fun γ w hs => (by have vv := c_slices_insertionSortCmpFunc_int__impl_Allocate_1 (e0_0 := e0_0) (a0_0 := a0_0) (c0_0 := c0_0) (g3_0 := g2_0) (g3_1 := g2_1) (g3_2 := g2_2) (W := w) h114; exact vv)) (fun γ w hk hb => hq w hk) (sl' := [(18, .v (.tuple #[])), (17, .v (.func (.func 35) #[] #[.pointer (some ⟨g2_0, 0, none⟩), .pointer (some ⟨g2_1, 0, none⟩), .pointer (some ⟨g2_2, 0, none⟩)])), (16, vi s21.1), (15, vi s21.2.1), (14, .v (.slice a0_0 s21.2.2.length c0_0)), (8, vi s21.1), (6, vi 20), (0, .v (.slice a0_0 s21.2.2.length c0_0)), (1, vi x1), (2, .v (.func (.func 35) #[] #[.pointer (some ⟨g2_0, 0, none⟩), .pointer (some ⟨g2_1, 0, none⟩), .pointer (some ⟨g2_2, 0, none⟩)]))]) (by kernel_rfl) ?_
     refine JO_eqE (sl' := [(18, .v (.tuple #[])), (17, .v (.func (.func 35) #[] #[.pointer (some ⟨g2_0, 0, none⟩), .pointer (some ⟨g2_1, 0, none⟩), .pointer (some ⟨g2_2, 0, none⟩)])), (16, vi s21.1), (15, vi s21.2.1), (14, .v (.slice a0_0 t113.length c0_0)), (8, vi s21.1), (6, vi 20), (0, .v (.slice a0_0 t113.length c0_0)), (1, vi x1), (2, .v (.func (.func 35) #[] #[.pointer (some ⟨g2_0, 0, none⟩), .pointer (some ⟨g2_1, 0, none⟩), .pointer (some ⟨g2_2, 0, none⟩)]))]) (bx' := []) (by simp only [hl120]) rfl ?_
     refine oe (nt (qs (qr (oN 2 [(7, vi s21.1)] [8, 6, 0, 1, 2] ?_))))
     refine oe (nt (qr (oN 4 [(8, vi (w64 (s21.1 + 20)))] [7, 6, 0, 1, 2] ?_)))
     exact oe (bn (ct h119 () [8, 7, 6, 0, 1, 2] [0] 0))
   refine qx (nx (nx (bh ?_)))
   have h121 := leafB hd30 h112 h26
   exact mp ((s21.2.1, 20, s21.2.2, x1), ()) h121 [7, 6, 0, 1, 2] [0] 0
 have h33 := (congrFun hk28 _).symm.trans h33p
 refine nt (qs (qr (oN 4 [(26, .v (.func (.func 35) #[] #[.pointer (some ⟨g2_0, 0, none⟩), .pointer (some ⟨g2_1, 0, none⟩), .pointer (some ⟨g2_2, 0, none⟩)])), (25, vi y32.1.2.2.2), (24, vi y32.1.1), (23, .v (.slice a0_0 y32.1.2.2.1.length c0_0))] [6, 0, 1, 2] ?_)))
 obtain ⟨t34, h35, h36⟩ := bS h33
 obtain ⟨u38, hu39, h40⟩ := bS h36
 have hl41 := (sameLen_some hu39).symm
 refine JO_callMQ rfl (by kernel_rfl) (f := 43) (C := fun γ => (fun w => ∀ (q0 : Int) (q1 : Int) (r : Int), impl_Allocate_1 q0 q1 z2_0 z2_1 z2_2 = some r → Gives0 Try.prog 35 #[.int .i64 q0, .int .i64 q1, .pointer (some ⟨g2_0, 0, none⟩), .pointer (some ⟨g2_1, 0, none⟩), .pointer (some ⟨g2_2, 0, none⟩)] w (.int .i64 r))) (args := fun γ => #[.slice a0_0 y32.1.2.2.1.length c0_0, .int .i64 y32.1.1, .int .i64 y32.1.2.2.2, .func (.func 35) #[] #[.pointer (some ⟨g2_0, 0, none⟩), .pointer (some ⟨g2_1, 0, none⟩), .pointer (some ⟨g2_2, 0, none⟩)]]) (fun γ => by kernel_rfl) (x := .tuple #[]) (Rin := [SlRes e0_0 y32.1.2.2.1 a0_0 c0_0]) (Rout := [SlRes e0_0 t34 a0_0 c0_0]) (Rr := []) rfl (fun γ w hs => (by have vv := c_slices_insertionSortCmpFunc_int__impl_Allocate_1 (e0_0 := e0_0) (a0_0 := a0_0) (c0_0 := c0_0) (g3_0 := g2_0) (g3_1 := g2_1) (g3_2 := g2_2) (W := w) h35; exact vv)) (fun γ w hk hb => hq w hk) (sl' := [(27, .v (.tuple #[])), (26, .v (.func (.func 35) #[] #[.pointer (some ⟨g2_0, 0, none⟩), .pointer (some ⟨g2_1, 0, none⟩), .pointer (some ⟨g2_2, 0, none⟩)])), (25, vi y32.1.2.2.2), (24, vi y32.1.1), (23, .v (.slice a0_0 y32.1.2.2.1.length c0_0)), (6, vi y32.1.2.1), (0, .v (.slice a0_0 y32.1.2.2.1.length c0_0)), (1, vi y32.1.2.2.2), (2, .v (.func (.func 35) #[] #[.pointer (some ⟨g2_0, 0, none⟩), .pointer (some ⟨g2_1, 0, none⟩), .pointer (some ⟨g2_2, 0, none⟩)]))]) (by kernel_rfl) ?_
 refine JO_eqE (sl' := [(27, .v (.tuple #[])), (26, .v (.func (.func 35) #[] #[.pointer (some ⟨g2_0, 0, none⟩), .pointer (some ⟨g2_1, 0, none⟩), .pointer (some ⟨g2_2, 0, none⟩)])), (25, vi y32.1.2.2.2), (24, vi y32.1.1), (23, .v (.slice a0_0 t34.length c0_0)), (6, vi y32.1.2.1), (0, .v (.slice a0_0 t34.length c0_0)), (1, vi y32.1.2.2.2), (2, .v (.func (.func 35) #[] #[.pointer (some ⟨g2_0, 0, none⟩), .pointer (some ⟨g2_1, 0, none⟩), .pointer (some ⟨g2_2, 0, none⟩)]))]) (bx' := []) (by simp only [hl41]) rfl ?_
 refine oe (nt ?_)
 obtain ⟨r45, hL46, h47⟩ := bS h40
 obtain ⟨k48, hk49, h47⟩ := brkS h47
 refine JC_cutP (τ := ((List Int)) × (Unit)) (fun y => k48 y.1 = some r) (fun y53 => [(0, .v (.slice a0_0 y53.1.length c0_0)), (2, .v (.func (.func 35) #[] #[.pointer (some ⟨g2_0, 0, none⟩), .pointer (some ⟨g2_1, 0, none⟩), .pointer (some ⟨g2_2, 0, none⟩)]))]) (fun y53 => []) (fun y53 => [SlRes e0_0 y53.1 a0_0 c0_0]) ?_ (fun y53 h54p => ?_)
 · refine qb (lp Unit hL46 (fun s42 y43 => [(6, vi s42.1), (0, .v (.slice a0_0 s42.2.1.length c0_0)), (1, vi s42.2.2), (2, .v (.func (.func 35) #[] #[.pointer (some ⟨g2_0, 0, none⟩), .pointer (some ⟨g2_1, 0, none⟩), .pointer (some ⟨g2_2, 0, none⟩)]))]) (fun s42 y43 => []) (fun s42 y43 => [SlRes e0_0 s42.2.1 a0_0 c0_0]) () [6, 0, 1, 2] [0] 0 (fun s42 y43 t44 h50 hd51 => ?_))
   refine qs (qs (qr (oN 3 [(30, vb (decide (s42.1 < s42.2.2)))] [6, 0, 1, 2] ?_)))
   refine oe (nt (cC h50 (fun h56 => ?_) (fun h57 => ?_)))
   · refine qk (nt (qb (qs (qr (oN 4 [(8, vi (w64 (2 * s42.1))), (7, vi 0)] [6, 0, 1, 2] ?_)))))
     refine oe (nt (qs ?_))
     obtain ⟨r61, hL62, h63⟩ := bS h56
     obtain ⟨k64, hk65, h63⟩ := brkS h63
     refine JC_cutP (τ := (Int × Int × (List Int) × Int) × (Unit)) (fun y => k64 y.1 = some t44) (fun y69 => [(7, vi y69.1.1), (6, vi y69.1.2.1), (0, .v (.slice a0_0 y69.1.2.2.1.length c0_0)), (1, vi y69.1.2.2.2), (2, .v (.func (.func 35) #[] #[.pointer (some ⟨g2_0, 0, none⟩), .pointer (some ⟨g2_1, 0, none⟩), .pointer (some ⟨g2_2, 0, none⟩)]))]) (fun y69 => []) (fun y69 => [SlRes e0_0 y69.1.2.2.1 a0_0 c0_0]) ?_ (fun y69 h70p => ?_)
     · refine qb (lp Unit hL62 (fun s58 y59 => [(8, vi s58.1), (7, vi s58.2.1), (6, vi s42.1), (0, .v (.slice a0_0 s58.2.2.length c0_0)), (1, vi s42.2.2), (2, .v (.func (.func 35) #[] #[.pointer (some ⟨g2_0, 0, none⟩), .pointer (some ⟨g2_1, 0, none⟩), .pointer (some ⟨g2_2, 0, none⟩)]))]) (fun s58 y59 => []) (fun s58 y59 => [SlRes e0_0 s58.2.2 a0_0 c0_0]) () [8, 7, 6, 0, 1, 2] [0] 0 (fun s58 y59 t60 h66 hd67 => ?_))
       refine qs (qs (qr (oN 3 [(35, vb (decide (s58.1 ≤ s42.2.2)))] [8, 7, 6, 0, 1, 2] ?_)))
       refine oe (nt (cC h66 (fun h98 => ?_) (fun h99 => ?_)))
       · refine qk (nt (qb (qs (qr (oN 7 [(42, .v (.func (.func 35) #[] #[.pointer (some ⟨g2_0, 0, none⟩), .pointer (some ⟨g2_1, 0, none⟩), .pointer (some ⟨g2_2, 0, none⟩)])), (41, vi s58.1), (40, vi (w64 (s58.2.1 + s42.1))), (37, vi s58.2.1), (36, .v (.slice a0_0 s58.2.2.length c0_0))] [8, 6, 0, 1, 2] ?_)))))
         obtain ⟨t100, h101, h102⟩ := bS h98
         obtain ⟨u104, hu105, h106⟩ := bS h102
         have hl107 := (sameLen_some hu105).symm
         refine JO_callMQ rfl (by kernel_rfl) (f := 44) (C := fun γ => (fun w => ∀ (q0 : Int) (q1 : Int) (r : Int), impl_Allocate_1 q0 q1 z2_0 z2_1 z2_2 = some r → Gives0 Try.prog 35 #[.int .i64 q0, .int .i64 q1, .pointer (some ⟨g2_0, 0, none⟩), .pointer (some ⟨g2_1, 0, none⟩), .pointer (some ⟨g2_2, 0, none⟩)] w (.int .i64 r))) (args := fun γ => #[.slice a0_0 s58.2.2.length c0_0, .int .i64 s58.2.1, .int .i64 (w64 (s58.2.1 + s42.1)), .int .i64 s58.1, .func (.func 35) #[] #[.pointer (some ⟨g2_0, 0, none⟩), .pointer (some ⟨g2_1, 0, none⟩), .pointer (some ⟨g2_2, 0, none⟩)]]) (fun γ => by kernel_rfl) (x := .tuple #[]) (Rin := [SlRes e0_0 s58.2.2 a0_0 c0_0]) (Rout := [SlRes e0_0 t100 a0_0 c0_0]) (Rr := []) rfl (fun γ w hs => (by have vv := c_slices_symMergeCmpFunc_int__impl_Allocate_1 64 (e0_0 := e0_0) (a0_0 := a0_0) (c0_0 := c0_0) (g4_0 := g2_0) (g4_1 := g2_1) (g4_2 := g2_2) (W := w) h101; exact vv)) (fun γ w hk hb => hq w hk) (sl' := [(43, .v (.tuple #[])), (42, .v (.func (.func 35) #[] #[.pointer (some ⟨g2_0, 0, none⟩), .pointer (some ⟨g2_1, 0, none⟩), .pointer (some ⟨g2_2, 0, none⟩)])), (41, vi s58.1), (40, vi (w64 (s58.2.1 + s42.1))), (37, vi s58.2.1), (36, .v (.slice a0_0 s58.2.2.length c0_0)), (8, vi s58.1), (6, vi s42.1), (0, .v (.slice a0_0 s58.2.2.length c0_0)), (1, vi s42.2.2), (2, .v (.func (.func 35) #[] #[.pointer (some ⟨g2_0, 0, none⟩), .pointer (some ⟨g2_1, 0, none⟩), .pointer (some ⟨g2_2, 0, none⟩)]))]) (by kernel_rfl) ?_
         refine JO_eqE (sl' := [(43, .v (.tuple #[])), (42, .v (.func (.func 35) #[] #[.pointer (some ⟨g2_0, 0, none⟩), .pointer (some ⟨g2_1, 0, none⟩), .pointer (some ⟨g2_2, 0, none⟩)])), (41, vi s58.1), (40, vi (w64 (s58.2.1 + s42.1))), (37, vi s58.2.1), (36, .v (.slice a0_0 t100.length c0_0)), (8, vi s58.1), (6, vi s42.1), (0, .v (.slice a0_0 t100.length c0_0)), (1, vi s42.2.2), (2, .v (.func (.func 35) #[] #[.pointer (some ⟨g2_0, 0, none⟩), .pointer (some ⟨g2_1, 0, none⟩), .pointer (some ⟨g2_2, 0, none⟩)]))]) (bx' := []) (by simp only [hl107]) rfl ?_
         refine oe (nt (qs (qr (oN 2 [(7, vi s58.1)] [8, 6, 0, 1, 2] ?_))))
         refine oe (nt (qr (oN 5 [(8, vi (w64 (s58.1 + (w64 (2 * s42.1)))))] [7, 6, 0, 1, 2] ?_)))
         exact oe (bn (ct h106 () [8, 7, 6, 0, 1, 2] [0] 0))
       refine qx (nx (nx (bh ?_)))
       have h108 := leafB hd67 h99 h63
       exact mp ((s58.2.1, s42.1, s58.2.2, s42.2.2), ()) h108 [7, 6, 0, 1, 2] [0] 0
     have h70 := (congrFun hk65 _).symm.trans h70p
     refine nt (qs (qs (qr (oN 4 [(9, vi (w64 (y69.1.1 + y69.1.2.1)))] [7, 6, 0, 1, 2] ?_))))
     refine oe (nt (qs (qr (oN 3 [(54, vb (decide ((w64 (y69.1.1 + y69.1.2.1)) < y69.1.2.2.2)))] [9, 7, 6, 0, 1, 2] ?_))))
     refine oe (nt ?_)
     obtain ⟨k82, hk83, h85⟩ := jS h70
     refine JC_cutP (τ := ((List Int)) × (Unit)) (fun y => k82 y.1 = some t44) (fun y81 => [(6, vi y69.1.2.1), (0, .v (.slice a0_0 y81.1.length c0_0)), (1, vi y69.1.2.2.2), (2, .v (.func (.func 35) #[] #[.pointer (some ⟨g2_0, 0, none⟩), .pointer (some ⟨g2_1, 0, none⟩), .pointer (some ⟨g2_2, 0, none⟩)]))]) (fun y81 => []) (fun y81 => [SlRes e0_0 y81.1 a0_0 c0_0]) ?_ (fun y81 h84p => ?_)
     · refine cC h85 (fun h87 => ?_) (fun h88 => ?_)
       · refine qr (oN 5 [(59, .v (.func (.func 35) #[] #[.pointer (some ⟨g2_0, 0, none⟩), .pointer (some ⟨g2_1, 0, none⟩), .pointer (some ⟨g2_2, 0, none⟩)])), (58, vi y69.1.2.2.2), (57, vi (w64 (y69.1.1 + y69.1.2.1))), (56, vi y69.1.1), (55, .v (.slice a0_0 y69.1.2.2.1.length c0_0))] [6, 0, 1, 2] ?_)
         obtain ⟨t89, h90, h91⟩ := bS h87
         obtain ⟨u93, hu94, h95⟩ := bS h91
         have hl96 := (sameLen_some hu94).symm
         refine JO_callMQ rfl (by kernel_rfl) (f := 44) (C := fun γ => (fun w => ∀ (q0 : Int) (q1 : Int) (r : Int), impl_Allocate_1 q0 q1 z2_0 z2_1 z2_2 = some r → Gives0 Try.prog 35 #[.int .i64 q0, .int .i64 q1, .pointer (some ⟨g2_0, 0, none⟩), .pointer (some ⟨g2_1, 0, none⟩), .pointer (some ⟨g2_2, 0, none⟩)] w (.int .i64 r))) (args := fun γ => #[.slice a0_0 y69.1.2.2.1.length c0_0, .int .i64 y69.1.1, .int .i64 (w64 (y69.1.1 + y69.1.2.1)), .int .i64 y69.1.2.2.2, .func (.func 35) #[] #[.pointer (some ⟨g2_0, 0, none⟩), .pointer (some ⟨g2_1, 0, none⟩), .pointer (some ⟨g2_2, 0, none⟩)]]) (fun γ => by kernel_rfl) (x := .tuple #[]) (Rin := [SlRes e0_0 y69.1.2.2.1 a0_0 c0_0]) (Rout := [SlRes e0_0 t89 a0_0 c0_0]) (Rr := []) rfl (fun γ w hs => (by have vv := c_slices_symMergeCmpFunc_int__impl_Allocate_1 64 (e0_0 := e0_0) (a0_0 := a0_0) (c0_0 := c0_0) (g4_0 := g2_0) (g4_1 := g2_1) (g4_2 := g2_2) (W := w) h90; exact vv)) (fun γ w hk hb => hq w hk) (sl' := [(60, .v (.tuple #[])), (59, .v (.func (.func 35) #[] #[.pointer (some ⟨g2_0, 0, none⟩), .pointer (some ⟨g2_1, 0, none⟩), .pointer (some ⟨g2_2, 0, none⟩)])), (58, vi y69.1.2.2.2), (57, vi (w64 (y69.1.1 + y69.1.2.1))), (56, vi y69.1.1), (55, .v (.slice a0_0 y69.1.2.2.1.length c0_0)), (6, vi y69.1.2.1), (0, .v (.slice a0_0 y69.1.2.2.1.length c0_0)), (1, vi y69.1.2.2.2), (2, .v (.func (.func 35) #[] #[.pointer (some ⟨g2_0, 0, none⟩), .pointer (some ⟨g2_1, 0, none⟩), .pointer (some ⟨g2_2, 0, none⟩)]))]) (by kernel_rfl) ?_
         refine JO_eqE (sl' := [(60, .v (.tuple #[])), (59, .v (.func (.func 35) #[] #[.pointer (some ⟨g2_0, 0, none⟩), .pointer (some ⟨g2_1, 0, none⟩), .pointer (some ⟨g2_2, 0, none⟩)])), (58, vi y69.1.2.2.2), (57, vi (w64 (y69.1.1 + y69.1.2.1))), (56, vi y69.1.1), (55, .v (.slice a0_0 t89.length c0_0)), (6, vi y69.1.2.1), (0, .v (.slice a0_0 t89.length c0_0)), (1, vi y69.1.2.2.2), (2, .v (.func (.func 35) #[] #[.pointer (some ⟨g2_0, 0, none⟩), .pointer (some ⟨g2_1, 0, none⟩), .pointer (some ⟨g2_2, 0, none⟩)]))]) (bx' := []) (by simp only [hl96]) rfl ?_
         exact oe (mp (t89, ()) h95 [6, 0, 1, 2] [0] 0)
       exact qk (mp (y69.1.2.2.1, ()) h88 [6, 0, 1, 2] [0] 0)
     have h84 := (congrFun hk83 _).symm.trans h84p
     refine nt (qr (oN 3 [(6, vi (w64 (y69.1.2.1 * 2)))] [0, 1, 2] ?_))
     exact oe (bn (ct h84 () [6, 0, 1, 2] [0] 0))
   refine qx (nx (nx (bh ?_)))
   have h109 := leafB hd51 h57 h47
   exact mp (s42.2.1, ()) h109 [0, 2] [0] 0
 have h54 := (congrFun hk49 _).symm.trans h54p
 refine JE_fall (vs := []) (by kernel_rfl) (fun γ w hs => ?_)
 rw [← sI h54]
 exact hs.turned (is := [0]) rfl

theorem c_slices_SortStableFunc_int__impl_Allocate_1 {W : World} {x0 : List Int} {a0_0 : Option Addr} {c0_0 : Nat} {e0_0 : TypeId} {g1_0 : Nat} {z1_0 : Int} {g1_1 : Nat} {z1_1 : List Int} {g1_2 : Nat} {z1_2 : Int} {r : (List Int)} (h : slices_SortStableFunc_int__impl_Allocate_1 x0 z1_0 z1_1 z1_2 = some r)  :
    GivesMQ Try.prog (fun w => ∀ (q0 : Int) (q1 : Int) (r : Int), impl_Allocate_1 q0 q1 z1_0 z1_1 z1_2 = some r → Gives0 Try.prog 35 #[.int .i64 q0, .int .i64 q1, .pointer (some ⟨g1_0, 0, none⟩), .pointer (some ⟨g1_1, 0, none⟩), .pointer (some ⟨g1_2, 0, none⟩)] w (.int .i64 r)) 34 #[.slice a0_0 x0.length c0_0, .func (.func 35) #[] #[.pointer (some ⟨g1_0, 0, none⟩), .pointer (some ⟨g1_1, 0, none⟩), .pointer (some ⟨g1_2, 0, none⟩)]] W [SlRes e0_0 x0 a0_0 c0_0] [SlRes e0_0 r a0_0 c0_0] (.tuple #[]) := by
 unfold slices_SortStableFunc_int__impl_Allocate_1 at h
 refine enterMQ [.v (.slice a0_0 x0.length c0_0), .v (.func (.func 35) #[] #[.pointer (some ⟨g1_0, 0, none⟩), .pointer (some ⟨g1_1, 0, none⟩), .pointer (some ⟨g1_2, 0, none⟩)])] (args := [.slice a0_0 x0.length c0_0, .func (.func 35) #[] #[.pointer (some ⟨g1_0, 0, none⟩), .pointer (some ⟨g1_1, 0, none⟩), .pointer (some ⟨g1_2, 0, none⟩)]]) (by kernel_rfl) (by kernel_rfl) Try.func34 rfl Try.ntmps34 (by kernel_rfl) (fun Fs hq => ?_)
 refine qr (oN 4 [(7, .v (.func (.func 35) #[] #[.pointer (some ⟨g1_0, 0, none⟩), .pointer (some ⟨g1_1, 0, none⟩), .pointer (some ⟨g1_2, 0, none⟩)])), (6, vi (x0.length : Int)), (4, .v (.slice a0_0 x0.length c0_0))] [0, 1] ?_)
 obtain ⟨t21, h22, h23⟩ := bS h
 obtain ⟨u25, hu26, h27⟩ := bS h23
 have hl28 := (sameLen_some hu26).symm
 refine JO_callMQ rfl (by kernel_rfl) (f := 40) (C := fun γ => (fun w => ∀ (q0 : Int) (q1 : Int) (r : Int), impl_Allocate_1 q0 q1 z1_0 z1_1 z1_2 = some r → Gives0 Try.prog 35 #[.int .i64 q0, .int .i64 q1, .pointer (some ⟨g1_0, 0, none⟩), .pointer (some ⟨g1_1, 0, none⟩), .pointer (some ⟨g1_2, 0, none⟩)] w (.int .i64 r))) (args := fun γ => #[.slice a0_0 x0.length c0_0, .int .i64 (x0.length : Int), .func (.func 35) #[] #[.pointer (some ⟨g1_0, 0, none⟩), .pointer (some ⟨g1_1, 0, none⟩), .pointer (some ⟨g1_2, 0, none⟩)]]) (fun γ => by kernel_rfl) (x := .tuple #[]) (Rin := [SlRes e0_0 x0 a0_0 c0_0]) (Rout := [SlRes e0_0 t21 a0_0 c0_0]) (Rr := []) rfl (fun γ w hs => (by have vv := c_slices_stableCmpFunc_int__impl_Allocate_1 (e0_0 := e0_0) (a0_0 := a0_0) (c0_0 := c0_0) (g2_0 := g1_0) (g2_1 := g1_1) (g2_2 := g1_2) (W := w) h22; exact vv)) (fun γ w hk hb => hq w hk) (sl' := [(8, .v (.tuple #[])), (7, .v (.func (.func 35) #[] #[.pointer (some ⟨g1_0, 0, none⟩), .pointer (some ⟨g1_1, 0, none⟩), .pointer (some ⟨g1_2, 0, none⟩)])), (6, vi (x0.length : Int)), (4, .v (.slice a0_0 x0.length c0_0)), (0, .v (.slice a0_0 x0.length c0_0)), (1, .v (.func (.func 35) #[] #[.pointer (some ⟨g1_0, 0, none⟩), .pointer (some ⟨g1_1, 0, none⟩), .pointer (some ⟨g1_2, 0, none⟩)]))]) (by kernel_rfl) ?_
 refine JO_eqE (sl' := [(8, .v (.tuple #[])), (7, .v (.func (.func 35) #[] #[.pointer (some ⟨g1_0, 0, none⟩), .pointer (some ⟨g1_1, 0, none⟩), .pointer (some ⟨g1_2, 0, none⟩)])), (6, vi (x0.length : Int)), (4, .v (.slice a0_0 t21.length c0_0)), (0, .v (.slice a0_0 t21.length c0_0)), (1, .v (.func (.func 35) #[] #[.pointer (some ⟨g1_0, 0, none⟩), .pointer (some ⟨g1_1, 0, none⟩), .pointer (some ⟨g1_2, 0, none⟩)]))]) (bx' := []) (by simp only [hl28]) rfl ?_
 refine oe (JE_fall (vs := []) (by kernel_rfl) (fun γ w hs => ?_))
 rw [← sI h27]
 exact hs.turned (is := [0]) rfl

theorem c_impl_Allocate {W : World} {x0 : Int} {x1 : List Int} {a1_0 : Option Addr} {c1_0 : Nat} {r : (List Int)} (h : impl_Allocate x0 x1 = some r) (hv1_0 : SlView W x1 a1_0 c1_0) :
    Gives Try.prog 27 #[.int .i64 x0, .slice a1_0 x1.length c1_0] W (fun y : AC => .slice y.1 r.length y.2) (fun y => [SlRes 3 r y.1 y.2]) := by
 unfold impl_Allocate at h
 refine en Try.func27 Try.ntmps27 ?_
 refine qs (qr (oB 3 [(3, .p 1 0), (2, .p 0 0)] [] [(3, [.int .i64 x0]), (22, [.slice a1_0 x1.length c1_0])] ?_))
 refine oe (nt (qs (qr (oB 2 [(5, .p 2 0)] [3, 2] [(3, [.int .i64 x0]), (22, [.slice a1_0 x1.length c1_0]), (3, [.int .i64 0])] ?_))))
 refine oe (nt (qs (qs (qr (oN 3 [(17, vi 0), (16, vi (x1.length : Int)), (15, .v (.slice a1_0 x1.length c1_0))] [5, 3, 2] ?_)))))
 refine oe (nt ?_)
 obtain ⟨r24, hL25, h26⟩ := bS h
 obtain ⟨k27, hk28, h26⟩ := brkS h26
 refine JC_cutP (τ := (Int) × (Unit)) (fun y => k27 y.1 = some r) (fun y32 => [(5, .p 2 0), (3, .p 1 0), (2, .p 0 0)]) (fun y32 => [(3, [.int .i64 x0]), (22, [.slice a1_0 x1.length c1_0]), (3, [.int .i64 y32.1])]) (fun y32 => []) ?_ (fun y32 h33p => ?_)
 · refine qb (lp Unit hL25 (fun s21 y22 => [(17, vi s21.1), (16, vi (x1.length : Int)), (15, .v (.slice a1_0 x1.length c1_0)), (5, .p 2 0), (3, .p 1 0), (2, .p 0 0)]) (fun s21 y22 => [(3, [.int .i64 x0]), (22, [.slice a1_0 x1.length c1_0]), (3, [.int .i64 s21.2])]) (fun s21 y22 => []) () [17, 16, 15, 5, 3, 2] [] 3 (fun s21 y22 t23 h29 hd30 => ?_))
   refine qs (qr (oN 1 [(18, vb (decide (s21.1 < (x1.length : Int))))] [17, 16, 15, 5, 3, 2] ?_))
   refine oe (nt (qs (cC h29 (fun h145 => ?_) (fun h146 => ?_))))
   · refine qk (nt (qs (qb (qs (qr ?_)))))
     obtain ⟨x147, hx148, h149⟩ := bS h145
     refine oi 1 (fun γ w hs => (hv1_0.kept hs.kept)) hx148 ?_
     refine ol 3 0 (.int .i64 x147) (fun γ w hs => (hv1_0.kept hs.kept).flatq hx148) ?_
     refine oN 1 [(7, vi x147)] [17, 16, 15, 5, 3, 2] ?_
     refine oe (nt (qr (oB 4 [] [17, 16, 15, 5, 3, 2] [(3, [.int .i64 x0]), (22, [.slice a1_0 x1.length c1_0]), (3, [.int .i64 (w64 (s21.2 + x147))])] ?_)))
     refine oe (bn (nt (qr (oN 2 [(17, vi (w64 (s21.1 + 1)))] [16, 15, 5, 3, 2] ?_))))
     exact oe (ct h149 () [17, 16, 15, 5, 3, 2] [] 3)
   refine qx (nx (nx (bh ?_)))
   have h150 := leafB hd30 h146 h26
   exact mp (s21.2, ()) h150 [5, 3, 2] [] 3
 have h33 := (congrFun hk28 _).symm.trans h33p
 refine nt (qs (qs ?_))
 obtain ⟨p34, hE35, h36⟩ := bS h33
 refine JC_cut (τ := Unit) (fun _ => [(2, .p 0 0), (3, .p 1 0), (5, .p 2 0), (42, vb p34)]) (fun _ => [(3, [.int .i64 x0]), (22, [.slice a1_0 x1.length c1_0]), (3, [.int .i64 y32.1])]) (fun _ => []) ?_ (fun _ => ?_)
 · refine qr (oN 1 [(25, vi x0)] [5, 3, 2] ?_)
   obtain ⟨t37, h38, h39⟩ := bS hE35
   refine k0 (fun γ w hs => c_impl_within h38) ?_
   refine oN 2 [(28, vb (!t37))] [5, 3, 2] ?_
   refine oS 28 h39 (fun h42 => ?_) (fun h43 => ?_)
   · refine oN 14 [(42, vb true)] [5, 3, 2] ?_
     refine oe ?_
     obtain rfl := sI h42
     exact mt () [2, 3, 5, 42] [] 3
   refine oN 2 [(30, vi (x1.length : Int))] [28, 5, 3, 2] ?_
   obtain ⟨t44, h45, h46⟩ := bS h43
   refine k0 (fun γ w hs => c_impl_within h45) ?_
   refine oN 3 [(34, vb (!t44))] [5, 3, 2] ?_
   refine oS 34 h46 (fun h49 => ?_) (fun h50 => ?_)
   · refine oN 8 [(42, vb true)] [5, 3, 2] ?_
     refine oe ?_
     obtain rfl := sI h49
     exact mt () [2, 3, 5, 42] [] 3
   refine oN 1 [(35, .v (.slice a1_0 x1.length c1_0))] [34, 5, 3, 2] ?_
   obtain ⟨t51, h52, h53⟩ := bS h50
   refine k0 (fun γ w hs => c_impl_allWithin h52 (hv1_0.kept hs.kept)) ?_
   refine oN 3 [(39, vb (!t51))] [5, 3, 2] ?_
   refine oS 39 h53 (fun h56 => ?_) (fun h57 => ?_)
   · refine oN 3 [(42, vb true)] [5, 3, 2] ?_
     refine oe ?_
     obtain rfl := sI h56
     exact mt () [2, 3, 5, 42] [] 3
   refine oN 3 [(42, vb (y32.1 == 0))] [5, 3, 2] ?_
   refine oe ?_
   obtain rfl := sI h57
   exact mt () [2, 3, 5, 42] [] 3
 refine nt (cC h36 (fun h59 => ?_) (fun h60 => ?_))
 · refine qs (qr (oN 1 [(4, .v (.slice none 0 0))] [] ?_))
   refine oe (nt (qe (nr (JE_addnil 3 (List.nil (α := Int)) rfl ?_))))
   refine rt [.slice none 0 0] (fun γ w hs => ?_)
   rw [← sI h59]
   exact ⟨(none, 0), rfl, hs.kept.toBelow, (hs.takeR (is := [0]) rfl).fresh⟩
 refine qk (nt (qs (qr (ob [] [] 3 0 [] ([] : List Int) (own_flat (by kernel_rfl)) (fun y61 => ?_)))))
 refine oN 1 [(8, .v (.slice y61.1 ([] : List Int).length y61.2))] [2, 3, 5] ?_
 refine oe (nt (qs (qr (ob [] [SlRes 3 ([] : List Int) y61.1 y61.2] 3 0 [] ([] : List Int) (own_flat (by kernel_rfl)) (fun y63 => ?_)))))
 refine oN 1 [(9, .v (.slice y63.1 ([] : List Int).length y63.2))] [8, 2, 3, 5] ?_
 refine oe (nt (qs (qr (oN 2 [(10, vi x0)] [9, 8, 2, 3, 5] ?_))))
 refine oe (nt (qs (qs (qr (oN 3 [(48, vi 0), (47, vi (x1.length : Int)), (46, .v (.slice a1_0 x1.length c1_0))] [10, 9, 8, 2, 3, 5] ?_)))))
 refine oe (nt ?_)
 obtain ⟨r68, hL69, h70⟩ := bS h60
 obtain ⟨k71, hk72, h70⟩ := brkS h70
 refine JC_cutP (τ := (Int × (List Int) × (List Int)) × (AC × AC)) (fun y => k71 y.1 = some r) (fun y76 => [(10, vi y76.1.1), (9, .v (.slice y76.2.1.1 y76.1.2.1.length y76.2.1.2)), (8, .v (.slice y76.2.2.1 y76.1.2.2.length y76.2.2.2)), (2, .p 0 0), (3, .p 1 0), (5, .p 2 0)]) (fun y76 => [(3, [.int .i64 x0]), (22, [.slice a1_0 x1.length c1_0]), (3, [.int .i64 y32.1])]) (fun y76 => [SlRes 3 y76.1.2.1 y76.2.1.1 y76.2.1.2, SlRes 3 y76.1.2.2 y76.2.2.1 y76.2.2.2]) ?_ (fun y76 h77p => ?_)
 · refine qb (lp (AC × AC) hL69 (fun s65 y66 => [(48, vi s65.1), (47, vi (x1.length : Int)), (46, .v (.slice a1_0 x1.length c1_0)), (10, vi s65.2.1), (9, .v (.slice y66.1.1 s65.2.2.1.length y66.1.2)), (8, .v (.slice y66.2.1 s65.2.2.2.length y66.2.2)), (2, .p 0 0), (3, .p 1 0), (5, .p 2 0)]) (fun s65 y66 => [(3, [.int .i64 x0]), (22, [.slice a1_0 x1.length c1_0]), (3, [.int .i64 y32.1])]) (fun s65 y66 => [SlRes 3 s65.2.2.1 y66.1.1 y66.1.2, SlRes 3 s65.2.2.2 y66.2.1 y66.2.2]) ((y63.1, y63.2), (y61.1, y61.2)) [48, 47, 46, 10, 9, 8, 2, 3, 5] [0, 0] 3 (fun s65 y66 t67 h73 hd74 => ?_))
   refine qs (qr (oN 1 [(49, vb (decide (s65.1 < (x1.length : Int))))] [48, 47, 46, 10, 9, 8, 2, 3, 5] ?_))
   refine oe (nt (qs (cC h73 (fun h120 => ?_) (fun h121 => ?_))))
   · refine qk (nt (qs (qb (qs (qr (oN 1 [(50, vi s65.1)] [48, 47, 46, 10, 9, 8, 2, 3, 5] ?_))))))
     obtain ⟨x122, hx123, h124⟩ := bS h120
     refine oi 1 (fun γ w hs => (hv1_0.kept hs.kept)) hx123 ?_
     refine ol 3 0 (.int .i64 x122) (fun γ w hs => (hv1_0.kept hs.kept).flatq hx123) ?_
     refine oN 2 [(12, vi x122), (11, vi s65.1)] [48, 47, 46, 10, 9, 8, 2, 3, 5] ?_
     refine oe (nt (qs (qr (oN 5 [(57, vi y32.1), (56, vi (w64 (x0 * x122))), (53, .v (.slice y66.2.1 s65.2.2.2.length y66.2.2))] [11, 48, 47, 46, 10, 9, 2, 3, 5] ?_))))
     obtain ⟨u127, hz126, h125⟩ := bS h124
     refine JO_div rfl (by kernel_rfl) (op := .quo) (k := .i64) (x := (w64 (x0 * x122))) (y := y32.1) (by kernel_rfl) (nz_some hz126) rfl ?_
     refine ob [] [SlRes 3 s65.2.2.1 y66.1.1 y66.1.2, SlRes 3 s65.2.2.2 y66.2.1 y66.2.2] 3 1 [.int .i64 (w64 (Int.tdiv (w64 (x0 * x122)) y32.1))] ([w64 (Int.tdiv (w64 (x0 * x122)) y32.1)] : List Int) (own_flat (by kernel_rfl)) (fun y128 => ?_)
     refine or_ [2, 0, 0] ?_
     obtain ⟨l131, hm132, h133⟩ := bS h125
     refine oa 22 y128.2 Try.t3 (.int .i64 0) (fun γ w hs => ⟨y128.2, (hs.view 1 rfl)⟩) hm132 (fun y130 => ?_)
     refine oN 1 [(8, .v (.slice y130.1 l131.length y130.2))] [11, 48, 47, 46, 10, 9, 2, 3, 5] ?_
     refine oe (nt (qs (qr (oN 2 [(62, vi s65.1), (61, .v (.slice y66.1.1 s65.2.2.1.length y66.1.2))] [8, 11, 48, 47, 46, 10, 2, 3, 5] ?_))))
     refine ob [] [SlRes 3 l131 y130.1 y130.2, SlRes 3 ([w64 (Int.tdiv (w64 (x0 * x122)) y32.1)] : List Int) y128.1 y128.2, SlRes 3 s65.2.2.1 y66.1.1 y66.1.2] 3 1 [.int .i64 s65.1] ([s65.1] : List Int) (own_flat (by kernel_rfl)) (fun y134 => ?_)
     refine or_ [3, 0, 0, 0] ?_
     obtain ⟨l137, hm138, h139⟩ := bS h133
     refine oa 22 y134.2 Try.t3 (.int .i64 0) (fun γ w hs => ⟨y134.2, (hs.view 1 rfl)⟩) hm138 (fun y136 => ?_)
     refine oN 1 [(9, .v (.slice y136.1 l137.length y136.2))] [8, 11, 48, 47, 46, 10, 2, 3, 5] ?_
     refine oe (nt (qr (oN 3 [(67, vi s65.1), (66, .v (.slice y130.1 l131.length y130.2)), (65, vi s65.2.1)] [9, 8, 48, 47, 46, 2, 3, 5] ?_)))
     obtain ⟨x140, hx141, h142⟩ := bS h139
     refine oi 1 (fun γ w hs => (hs.view 2 rfl)) hx141 ?_
     refine ol 3 0 (.int .i64 x140) (fun γ w hs => (hs.view 2 rfl).flatq hx141) ?_
     refine oN 2 [(10, vi (w64 (s65.2.1 - x140)))] [9, 8, 48, 47, 46, 2, 3, 5] ?_
     refine oe (bn (nt (qr (oN 2 [(48, vi (w64 (s65.1 + 1)))] [10, 9, 8, 47, 46, 2, 3, 5] ?_))))
     exact oe (ct h142 ((y136.1, y136.2), (y130.1, y130.2)) [48, 47, 46, 10, 9, 8, 2, 3, 5] [0, 1] 3)
   refine qx (nx (nx (bh ?_)))
   have h143 := leafB hd74 h121 h70
   exact mp ((s65.2.1, s65.2.2.1, s65.2.2.2), ((y66.1.1, y66.1.2), (y66.2.1, y66.2.2))) h143 [10, 9, 8, 2, 3, 5] [0, 0] 3
 have h77 := (congrFun hk72 _).symm.trans h77p
 refine nt (qs (qr (oN 1 [(72, .v (.slice y76.2.1.1 y76.1.2.1.length y76.2.1.2))] [10, 9, 8, 2, 3, 5] ?_)))
 refine JO_mkfunc rfl (by kernel_rfl) (x := .f 35 [(0, 0), (1, 0), (2, 0)]) (by kernel_rfl) rfl ?_
 obtain ⟨t78, h79, h80⟩ := bS h77
 obtain ⟨u82, hu83, h84⟩ := bS h80
 have hl85 := (sameLen_some hu83).symm
 refine JO_callMQ rfl (by kernel_rfl) (f := 34) (C := fun γ => (fun w => ∀ (q0 : Int) (q1 : Int) (r : Int), impl_Allocate_1 q0 q1 x0 x1 y32.1 = some r → Gives0 Try.prog 35 #[.int .i64 q0, .int .i64 q1, .pointer (some ⟨γ.getD 0 0, 0, none⟩), .pointer (some ⟨γ.getD 1 0, 0, none⟩), .pointer (some ⟨γ.getD 2 0, 0, none⟩)] w (.int .i64 r))) (args := fun γ => #[.slice y76.2.1.1 y76.1.2.1.length y76.2.1.2, .func (.func 35) #[] #[.pointer (some ⟨γ.getD 0 0, 0, none⟩), .pointer (some ⟨γ.getD 1 0, 0, none⟩), .pointer (some ⟨γ.getD 2 0, 0, none⟩)]]) (fun γ => by kernel_rfl) (x := .tuple #[]) (Rin := [SlRes 3 y76.1.2.1 y76.2.1.1 y76.2.1.2]) (Rout := [SlRes 3 t78 y76.2.1.1 y76.2.1.2]) (Rr := [SlRes 3 y76.1.2.2 y76.2.2.1 y76.2.2.2]) rfl (fun γ w hs => (by have vv := c_slices_SortStableFunc_int__impl_Allocate_1 (e0_0 := 3) (a0_0 := y76.2.1.1) (c0_0 := y76.2.1.2) (g1_0 := (γ.getD 0 0)) (g1_1 := (γ.getD 1 0)) (g1_2 := (γ.getD 2 0)) (W := w) h79; exact vv)) (fun γ w hk hb q0 q1 r hr => by have vv := c_impl_Allocate_1 (W := w) hr (hb.cellsAt (k := 0) (e := 3) (by kernel_rfl)) (hv1_0.kept hk) (hb.cellsAt (k := 1) (e := 22) (by kernel_rfl)) (hb.cellsAt (k := 2) (e := 3) (by kernel_rfl)); exact vv) (sl' := [(74, .v (.tuple #[])), (73, .f 35 [(0, 0), (1, 0), (2, 0)]), (72, .v (.slice y76.2.1.1 y76.1.2.1.length y76.2.1.2)), (10, vi y76.1.1), (9, .v (.slice y76.2.1.1 y76.1.2.1.length y76.2.1.2)), (8, .v (.slice y76.2.2.1 y76.1.2.2.length y76.2.2.2)), (2, .p 0 0), (3, .p 1 0), (5, .p 2 0)]) (by kernel_rfl) ?_
 refine JO_eqE (sl' := [(74, .v (.tuple #[])), (73, .f 35 [(0, 0), (1, 0), (2, 0)]), (72, .v (.slice y76.2.1.1 t78.length y76.2.1.2)), (10, vi y76.1.1), (9, .v (.slice y76.2.1.1 t78.length y76.2.1.2)), (8, .v (.slice y76.2.2.1 y76.1.2.2.length y76.2.2.2)), (2, .p 0 0), (3, .p 1 0), (5, .p 2 0)]) (bx' := [(3, [.int .i64 x0]), (22, [.slice a1_0 x1.length c1_0]), (3, [.int .i64 y32.1])]) (by simp only [hl85]) rfl ?_
 refine oe (nt (qs (qs (qr (oN 2 [(76, vi y76.1.1), (75, .v (.slice y76.2.1.1 t78.length y76.2.1.2))] [8] ?_)))))
 obtain ⟨l86, hm87, h88⟩ := bS h84
 refine JO_headR (α := Int) rfl (by kernel_rfl) (a0 := y76.2.1.1) (n0 := t78.length) (c0 := y76.2.1.2) (hi := y76.1.1) (by kernel_rfl) hm87 (Rr := [SlRes 3 y76.1.2.2 y76.2.2.1 y76.2.2.2]) rfl (sl' := [(77, .v (.slice y76.2.1.1 l86.length y76.2.1.2)), (76, vi y76.1.1), (75, .v (.slice y76.2.1.1 t78.length y76.2.1.2)), (8, .v (.slice y76.2.2.1 y76.1.2.2.length y76.2.2.2))]) (by kernel_rfl) ?_
 refine JO_keep [77, 76, 8] (sl' := [(77, .v (.slice y76.2.1.1 l86.length y76.2.1.2)), (76, vi y76.1.1), (8, .v (.slice y76.2.2.1 y76.1.2.2.length y76.2.2.2))]) (by kernel_rfl) ?_
 refine oN 2 [(79, vi 0), (78, vi (l86.length : Int))] [77, 8] ?_
 refine oe (nt ?_)
 obtain ⟨r92, hL93, h94⟩ := bS h88
 obtain ⟨k95, hk96, h94⟩ := brkS h94
 refine JC_cutP (τ := ((List Int)) × (Unit)) (fun y => k95 y.1 = some r) (fun y100 => [(8, .v (.slice y76.2.2.1 y100.1.length y76.2.2.2))]) (fun y100 => [(3, [.int .i64 x0]), (22, [.slice a1_0 x1.length c1_0]), (3, [.int .i64 y32.1])]) (fun y100 => [SlRes 3 y100.1 y76.2.2.1 y76.2.2.2]) ?_ (fun y100 h101p => ?_)
 · refine qb (lp Unit hL93 (fun s89 y90 => [(79, vi s89.1), (78, vi (l86.length : Int)), (77, .v (.slice y76.2.1.1 l86.length y76.2.1.2)), (8, .v (.slice y76.2.2.1 s89.2.length y76.2.2.2))]) (fun s89 y90 => [(3, [.int .i64 x0]), (22, [.slice a1_0 x1.length c1_0]), (3, [.int .i64 y32.1])]) (fun s89 y90 => [SlRes 3 l86 y76.2.1.1 y76.2.1.2, SlRes 3 s89.2 y76.2.2.1 y76.2.2.2]) () [79, 78, 77, 8] [0, 0] 3 (fun s89 y90 t91 h97 hd98 => ?_))
   refine qs (qr (oN 1 [(80, vb (decide (s89.1 < (l86.length : Int))))] [79, 78, 77, 8] ?_))
   refine oe (nt (qs (cC h97 (fun h103 => ?_) (fun h104 => ?_))))
   · refine qk (nt (qs (qb (qs (qr ?_)))))
     obtain ⟨x105, hx106, h107⟩ := bS h103
     refine oi 1 (fun γ w hs => (hs.view 0 rfl)) hx106 ?_
     refine ol 3 0 (.int .i64 x105) (fun γ w hs => (hs.view 0 rfl).flatq hx106) ?_
     refine oN 1 [(14, vi x105)] [79, 78, 77, 8] ?_
     refine oe (nt (qr (oN 2 [(84, vi x105), (83, .v (.slice y76.2.2.1 s89.2.length y76.2.2.2))] [79, 78, 77, 8] ?_)))
     obtain ⟨x108, hx109, h110⟩ := bS h107
     refine oi 1 (fun γ w hs => (hs.view 1 rfl)) hx109 ?_
     refine ol 3 0 (.int .i64 x108) (fun γ w hs => (hs.view 1 rfl).flatq hx109) ?_
     refine oN 1 [(87, vi (w64 (x108 + 1)))] [84, 83, 79, 78, 77, 8] ?_
     obtain ⟨x111, hx112, h113⟩ := bS h110
     refine oi 1 (fun γ w hs => (hs.view 1 rfl)) hx112 ?_
     refine or_ [1, 0] ?_
     obtain ⟨l114, hm115, h116⟩ := bS h113
     replace hm115 := (sI hm115).symm
     refine JO_storeq (α := Int) (d := y76.2.2.1) (vs := [.int .i64 (w64 (x108 + 1))]) (j := x105) (x' := (w64 (x108 + 1))) rfl (by kernel_rfl) 0 (by kernel_rfl) hx112 (Rc := []) (Rr := [SlRes 3 l86 y76.2.1.1 y76.2.1.2]) rfl (by kernel_rfl) (fun w c F Fs ho _ _ => own_flat_set (by kernel_rfl) ho) hm115 rfl ?_
     have hl117 := len_set hm115
     refine JO_keep [87, 84, 83, 79, 78, 77, 8] (sl' := [(87, vi (w64 (x108 + 1))), (84, vi x105), (83, .v (.slice y76.2.2.1 s89.2.length y76.2.2.2)), (79, vi s89.1), (78, vi (l86.length : Int)), (77, .v (.slice y76.2.1.1 l86.length y76.2.1.2)), (8, .v (.slice y76.2.2.1 s89.2.length y76.2.2.2))]) (by kernel_rfl) ?_
     refine JO_eqE (sl' := [(87, vi (w64 (x108 + 1))), (84, vi x105), (83, .v (.slice y76.2.2.1 l114.length y76.2.2.2)), (79, vi s89.1), (78, vi (l86.length : Int)), (77, .v (.slice y76.2.1.1 l86.length y76.2.1.2)), (8, .v (.slice y76.2.2.1 l114.length y76.2.2.2))]) (bx' := [(3, [.int .i64 x0]), (22, [.slice a1_0 x1.length c1_0]), (3, [.int .i64 y32.1])]) (by simp only [hl117]) rfl ?_
     refine oe (bn (nt (qr (oN 2 [(79, vi (w64 (s89.1 + 1)))] [78, 77, 8] ?_))))
     exact oe (ct h116 () [79, 78, 77, 8] [1, 0] 3)
   refine qx (nx (nx (bh ?_)))
   have h118 := leafB hd98 h104 h94
   exact mp (s89.2, ()) h118 [8] [1] 3
 have h101 := (congrFun hk96 _).symm.trans h101p
 refine nt (qs (qr (oN 2 [(4, .v (.slice y76.2.2.1 y100.1.length y76.2.2.2))] [] ?_)))
 refine oe (nt (qe (rt [.slice y76.2.2.1 y100.1.length y76.2.2.2] (fun γ w hs => ?_))))
 rw [← sI h101]
 exact ⟨y76.2.2, rfl, hs.kept.toBelow, (hs.takeR (is := [0]) rfl).fresh⟩

theorem c_impl_CutAll {W : World} {x0 : List Int} {a0_0 : Option Addr} {c0_0 : Nat} {x1 : Int} {r : (List Int)} (h : impl_CutAll x0 x1 = some r) (hv0_0 : SlView W x0 a0_0 c0_0) :
    Gives Try.prog 9 #[.slice a0_0 x0.length c0_0, .int .i64 x1] W (fun y : AC => .slice y.1 r.length y.2) (fun y => [SlRes 3 r y.1 y.2]) := by
 unfold impl_CutAll at h
 refine en Try.func9 Try.ntmps9 ?_
 refine qs (qr (oN 1 [] [0, 1] ?_))
 refine oe (nt (qs (qs ?_)))
 obtain ⟨p21, hE22, h23⟩ := bS h
 refine JC_cut (τ := Unit) (fun _ => [(0, .v (.slice a0_0 x0.length c0_0)), (1, vi x1), (15, vb p21)]) (fun _ => []) (fun _ => []) ?_ (fun _ => ?_)
 · refine qr (oN 1 [(8, .v (.slice a0_0 x0.length c0_0))] [0, 1] ?_)
   obtain ⟨t24, h25, h26⟩ := bS hE22
   refine k0 (fun γ w hs => c_impl_arePensions h25 (hv0_0.kept hs.kept)) ?_
   refine oN 2 [(11, vb (!t24))] [0, 1] ?_
   refine oS 11 h26 (fun h29 => ?_) (fun h30 => ?_)
   · refine oN 4 [(15, vb true)] [0, 1] ?_
     refine oe ?_
     obtain rfl := sI h29
     exact mt () [0, 1, 15] [] 0
   refine oN 1 [(12, vi x1)] [11, 0, 1] ?_
   obtain ⟨t31, h32, h33⟩ := bS h30
   refine k0 (fun γ w hs => c_impl_within h32) ?_
   refine oN 2 [(15, vb (!t31))] [0, 1] ?_
   refine oe ?_
   obtain rfl := sI h33
   exact mt () [0, 1, 15] [] 0
 refine nt (cC h23 (fun h36 => ?_) (fun h37 => ?_))
 · refine qs (qr (oN 1 [(4, .v (.slice none 0 0))] [] ?_))
   refine oe (nt (qe (nr (JE_addnil 3 (List.nil (α := Int)) rfl ?_))))
   refine rt [.slice none 0 0] (fun γ w hs => ?_)
   rw [← sI h36]
   exact ⟨(none, 0), rfl, hs.kept.toBelow, (hs.takeR (is := [0]) rfl).fresh⟩
 refine qk (nt (qs (qr (oN 1 [(16, .v (.slice a0_0 x0.length c0_0))] [0, 1] ?_))))
 obtain ⟨t38, h39, h40⟩ := bS h37
 refine k1 (fun γ w hs => c_slices_Clone_int h39 (hv0_0.kept hs.kept)) (fun y41 => ?_)
 refine oN 1 [(5, .v (.slice y41.1 t38.length y41.2))] [0, 1] ?_
 refine oe (nt (qs (qs (qr (oN 1 [(18, .v (.slice a0_0 x0.length c0_0))] [5, 0, 1] ?_)))))
 obtain ⟨t42, h43, h44⟩ := bS h40
 refine k0 (fun γ w hs => c_impl_total h43 (hv0_0.kept hs.kept)) ?_
 refine oN 4 [(23, .v (.slice a0_0 x0.length c0_0)), (22, vi (w64 (Int.tdiv (w64 (t42 * x1)) 1000)))] [5] ?_
 obtain ⟨t46, h47, h48⟩ := bS h44
 refine k1 (fun γ w hs => c_impl_Allocate h47 (hv0_0.kept hs.kept)) (fun y49 => ?_)
 refine oN 2 [(26, vi 0), (25, vi (t46.length : Int))] [24, 5] ?_
 refine oe (nt ?_)
 obtain ⟨r53, hL54, h55⟩ := bS h48
 obtain ⟨k56, hk57, h55⟩ := brkS h55
 refine JC_cutP (τ := ((List Int)) × (Unit)) (fun y => k56 y.1 = some r) (fun y61 => [(5, .v (.slice y41.1 y61.1.length y41.2))]) (fun y61 => []) (fun y61 => [SlRes 3 y61.1 y41.1 y41.2]) ?_ (fun y61 h62p => ?_)
 · refine qb (lp Unit hL54 (fun s50 y51 => [(26, vi s50.1), (25, vi (t46.length : Int)), (24, .v (.slice y49.1 t46.length y49.2)), (5, .v (.slice y41.1 s50.2.length y41.2))]) (fun s50 y51 => []) (fun s50 y51 => [SlRes 3 t46 y49.1 y49.2, SlRes 3 s50.2 y41.1 y41.2]) () [26, 25, 24, 5] [0, 0] 0 (fun s50 y51 t52 h58 hd59 => ?_))
   refine qs (qr (oN 1 [(27, vb (decide (s50.1 < (t46.length : Int))))] [26, 25, 24, 5] ?_))
   refine oe (nt (qs (cC h58 (fun h64 => ?_) (fun h65 => ?_))))
   · refine qk (nt (qs (qb (qs (qr (oN 1 [(28, vi s50.1)] [26, 25, 24, 5] ?_))))))
     obtain ⟨x66, hx67, h68⟩ := bS h64
     refine oi 1 (fun γ w hs => (hs.view 0 rfl)) hx67 ?_
     refine ol 3 0 (.int .i64 x66) (fun γ w hs => (hs.view 0 rfl).flatq hx67) ?_
     refine oN 2 [(7, vi x66), (6, vi s50.1)] [26, 25, 24, 5] ?_
     refine oe (nt (qr (oN 2 [(32, vi s50.1), (31, .v (.slice y41.1 s50.2.length y41.2))] [7, 26, 25, 24, 5] ?_)))
     obtain ⟨x69, hx70, h71⟩ := bS h68
     refine oi 1 (fun γ w hs => (hs.view 1 rfl)) hx70 ?_
     refine ol 3 0 (.int .i64 x69) (fun γ w hs => (hs.view 1 rfl).flatq hx70) ?_
     refine oN 2 [(36, vi (w64 (x69 - x66)))] [32, 31, 26, 25, 24, 5] ?_
     obtain ⟨x72, hx73, h74⟩ := bS h71
     refine oi 1 (fun γ w hs => (hs.view 1 rfl)) hx73 ?_
     refine or_ [1, 0] ?_
     obtain ⟨l75, hm76, h77⟩ := bS h74
     replace hm76 := (sI hm76).symm
     refine JO_storeq (α := Int) (d := y41.1) (vs := [.int .i64 (w64 (x69 - x66))]) (j := s50.1) (x' := (w64 (x69 - x66))) rfl (by kernel_rfl) 0 (by kernel_rfl) hx73 (Rc := []) (Rr := [SlRes 3 t46 y49.1 y49.2]) rfl (by kernel_rfl) (fun w c F Fs ho _ _ => own_flat_set (by kernel_rfl) ho) hm76 rfl ?_
     have hl78 := len_set hm76
     refine JO_keep [36, 32, 31, 26, 25, 24, 5] (sl' := [(36, vi (w64 (x69 - x66))), (32, vi s50.1), (31, .v (.slice y41.1 s50.2.length y41.2)), (26, vi s50.1), (25, vi (t46.length : Int)), (24, .v (.slice y49.1 t46.length y49.2)), (5, .v (.slice y41.1 s50.2.length y41.2))]) (by kernel_rfl) ?_
     refine JO_eqE (sl' := [(36, vi (w64 (x69 - x66))), (32, vi s50.1), (31, .v (.slice y41.1 l75.length y41.2)), (26, vi s50.1), (25, vi (t46.length : Int)), (24, .v (.slice y49.1 t46.length y49.2)), (5, .v (.slice y41.1 l75.length y41.2))]) (bx' := []) (by simp only [hl78]) rfl ?_
     refine oe (bn (nt (qr (oN 2 [(26, vi (w64 (s50.1 + 1)))] [25, 24, 5] ?_))))
     exact oe (ct h77 () [26, 25, 24, 5] [1, 0] 0)
   refine qx (nx (nx (bh ?_)))
   have h79 := leafB hd59 h65 h55
   exact mp (s50.2, ()) h79 [5] [1] 0
 have h62 := (congrFun hk57 _).symm.trans h62p
 refine nt (qs (qr (oN 2 [(4, .v (.slice y41.1 y61.1.length y41.2))] [] ?_)))
 refine oe (nt (qe (rt [.slice y41.1 y61.1.length y41.2] (fun γ w hs => ?_))))
 rw [← sI h62]
 exact ⟨y41, rfl, hs.kept.toBelow, (hs.takeR (is := [0]) rfl).fresh⟩

theorem c_impl_CutNeeded {W : World} {x0 : Int} {x1 : List Int} {a1_0 : Option Addr} {c1_0 : Nat} {x2 : Int} {r : Int} (h : impl_CutNeeded x0 x1 x2 = some r) (hv1_0 : SlView W x1 a1_0 c1_0) :
    Gives0 Try.prog 14 #[.int .i64 x0, .slice a1_0 x1.length c1_0, .int .i64 x2] W (.int .i64 r) := by
 unfold impl_CutNeeded at h
 refine en Try.func14 Try.ntmps14 ?_
 refine qs (qr (oN 1 [] [0, 1, 2] ?_))
 refine oe (nt (qs (qs ?_)))
 obtain ⟨p21, hE22, h23⟩ := bS h
 refine JC_cut (τ := Unit) (fun _ => [(0, vi x0), (1, .v (.slice a1_0 x1.length c1_0)), (2, vi x2), (20, vb p21)]) (fun _ => []) (fun _ => []) ?_ (fun _ => ?_)
 · refine qr (oN 1 [(8, vi x0)] [0, 1, 2] ?_)
   obtain ⟨t24, h25, h26⟩ := bS hE22
   refine k0 (fun γ w hs => c_impl_within h25) ?_
   refine oN 2 [(11, vb (!t24))] [0, 1, 2] ?_
   refine oS 11 h26 (fun h29 => ?_) (fun h30 => ?_)
   · refine oN 9 [(20, vb true)] [0, 1, 2] ?_
     refine oe ?_
     obtain rfl := sI h29
     exact mt () [0, 1, 2, 20] [] 0
   refine oN 1 [(12, vi x2)] [11, 0, 1, 2] ?_
   obtain ⟨t31, h32, h33⟩ := bS h30
   refine k0 (fun γ w hs => c_impl_within h32) ?_
   refine oN 3 [(16, vb (!t31))] [0, 1, 2] ?_
   refine oS 16 h33 (fun h36 => ?_) (fun h37 => ?_)
   · refine oN 4 [(20, vb true)] [0, 1, 2] ?_
     refine oe ?_
     obtain rfl := sI h36
     exact mt () [0, 1, 2, 20] [] 0
   refine oN 1 [(17, .v (.slice a1_0 x1.length c1_0))] [16, 0, 1, 2] ?_
   obtain ⟨t38, h39, h40⟩ := bS h37
   refine k0 (fun γ w hs => c_impl_arePensions h39 (hv1_0.kept hs.kept)) ?_
   refine oN 2 [(20, vb (!t38))] [0, 1, 2] ?_
   refine oe ?_
   obtain rfl := sI h40
   exact mt () [0, 1, 2, 20] [] 0
 refine nt (cC h23 (fun h43 => ?_) (fun h44 => ?_))
 · refine qs (qr (oN 1 [(6, vi (-1))] [] ?_))
   refine oe (nt (qe (nr ?_)))
   obtain rfl := sI h43
   exact re [.int .i64 (-1)]
 refine qk (nt (qs (qs (qr (oN 1 [(7, vi 0)] [0, 1, 2] ?_)))))
 refine oe (nt ?_)
 obtain ⟨r48, hL49, h50⟩ := bS h44
 obtain ⟨k51, hk52, h50⟩ := brkS h50
 refine JC_cutP (τ := (Unit) × (Unit)) (fun y => k51 y.1 = some r) (fun y56 => []) (fun y56 => []) (fun y56 => []) ?_ (fun y56 h57p => ?_)
 · refine qb (lp Unit hL49 (fun s45 y46 => [(7, vi s45), (0, vi x0), (1, .v (.slice a1_0 x1.length c1_0)), (2, vi x2)]) (fun s45 y46 => []) (fun s45 y46 => []) () [7, 0, 1, 2] [] 0 (fun s45 y46 t47 h53 hd54 => ?_))
   refine qs (qs (qr (oN 2 [(22, vb (decide (s45 ≤ 1000)))] [7, 0, 1, 2] ?_)))
   refine oe (nt (cC h53 (fun h59 => ?_) (fun h60 => ?_)))
   · refine qk (nt (qs (qb (qs (qr (oN 2 [(26, vi s45), (25, .v (.slice a1_0 x1.length c1_0))] [7, 0, 1, 2] ?_))))))
     obtain ⟨t61, h62, h63⟩ := bS h59
     refine k1 (fun γ w hs => c_impl_CutAll h62 (hv1_0.kept hs.kept)) (fun y64 => ?_)
     obtain ⟨t65, h66, h67⟩ := bS h63
     refine k0 (fun γ w hs => c_impl_total h66 (hs.view 0 rfl)) ?_
     refine oN 4 [(32, vb (decide ((w64 (t65 * x2)) ≤ x0)))] [7, 0, 1, 2] ?_
     refine oe (nt (cC h67 (fun h70 => ?_) (fun h71 => ?_)))
     · refine qs (qr (oN 2 [(6, vi s45)] [] ?_))
       refine oe (nt (qe (br (nr (nr ?_)))))
       have h72 := leafR hd54 h70 h50
       refine br (nr (nr ?_))
       obtain rfl := sI h72
       exact re [.int .i64 s45]
     refine qk (bn (nt (qr (oN 3 [(7, vi (w64 (s45 + 1)))] [0, 1, 2] ?_))))
     exact oe (ct h71 () [7, 0, 1, 2] [] 0)
   refine qx (nx (nx (bh ?_)))
   have h73 := leafB hd54 h60 h50
   exact mp ((), ()) h73 [] [] 0
 have h57 := (congrFun hk52 _).symm.trans h57p
 refine nt (qs (qr (oN 1 [(6, vi (-1))] [] ?_)))
 refine oe (nt (qe ?_))
 obtain rfl := sI h57
 exact re [.int .i64 (-1)]

theorem c_laws_FnCut {W : World} {x0 : List U8} {a0_0 : Option Addr} {c0_0 : Nat} {r : Bool} (h : laws_FnCut x0 = some r) (hv0_0 : SlView W x0 a0_0 c0_0) :
    Gives0 Try.prog 5 #[.slice a0_0 x0.length c0_0] W (.bool r) := by
 unfold laws_FnCut at h
 refine en Try.func5 Try.ntmps5 ?_
 refine qs (qr (oN 1 [] [0] ?_))
 refine oe (nt (qs (qs (qr (oN 1 [(13, .v (.slice a0_0 x0.length c0_0))] [0] ?_)))))
 obtain ⟨t21, h22, h23⟩ := bS h
 refine k0 (fun γ w hs => c_laws_big h22 (hv0_0.kept hs.kept)) ?_
 refine oe (nt (cC h23 (fun h26 => ?_) (fun h27 => ?_)))
 · refine qs (qr (oN 1 [(2, vb true)] [] ?_))
   refine oe (nt (qe (nr ?_)))
   obtain rfl := sI h26
   exact re [.bool true]
 refine qk (nt (qs (qr (oN 1 [(15, .v (.slice a0_0 x0.length c0_0))] [0] ?_))))
 obtain ⟨t28, h29, h30⟩ := bS h27
 refine k1 (fun γ w hs => c_spec_DrawPensions h29 (hv0_0.kept hs.kept)) (fun y31 => ?_)
 refine oN 1 [(3, .v (.slice y31.1 t28.length y31.2))] [0] ?_
 refine oe (nt (qs (qr (oN 1 [(17, .v (.slice a0_0 x0.length c0_0))] [3] ?_))))
 obtain ⟨t32, h33, h34⟩ := bS h30
 refine k1 (fun γ w hs => c_spec_DrawPlaces h33 (hv0_0.kept hs.kept)) (fun y35 => ?_)
 refine oN 1 [(4, .v (.slice y35.1 t32.length y35.2))] [3] ?_
 refine oe (nt (qs (qr (oN 1 [(19, .v (.slice y35.1 t32.length y35.2))] [4, 3] ?_))))
 obtain ⟨x36, hx37, h38⟩ := bS h34
 refine oi 1 (fun γ w hs => (hs.view 0 rfl)) hx37 ?_
 refine ol 3 0 (.int .i64 x36) (fun γ w hs => (hs.view 0 rfl).flatq hx37) ?_
 refine oN 2 [(5, vi (Int.tmod x36 1001))] [4, 3] ?_
 refine oe (nt (qs (qr (oN 2 [(24, vi (Int.tmod x36 1001)), (23, .v (.slice y31.1 t28.length y31.2))] [5, 4, 3] ?_))))
 obtain ⟨t39, h40, h41⟩ := bS h38
 refine k1 (fun γ w hs => c_impl_CutAll h40 (hs.view 1 rfl)) (fun y42 => ?_)
 refine oN 1 [(6, .v (.slice y42.1 t39.length y42.2))] [5, 4, 3] ?_
 refine oe (nt (qs (qs (qr (oN 5 [(30, vb ((t39.length : Int) != (t28.length : Int)))] [6, 5, 4, 3] ?_)))))
 refine oe (nt (cC h41 (fun h44 => ?_) (fun h45 => ?_)))
 · refine qs (qr (oN 1 [(2, vb false)] [] ?_))
   refine oe (nt (qe (nr ?_)))
   obtain rfl := sI h44
   exact re [.bool false]
 refine qk (nt (qs (qr (oN 1 [(7, vi 0)] [6, 5, 4, 3] ?_))))
 refine oe (nt (qs (qr (oN 1 [(8, vi 0)] [7, 6, 5, 4, 3] ?_))))
 refine oe (nt (qs (qs (qr (oN 1 [(9, vi 0)] [8, 7, 6, 5, 4, 3] ?_)))))
 refine oe (nt ?_)
 obtain ⟨r49, hL50, h51⟩ := bS h45
 obtain ⟨k52, hk53, h51⟩ := brkS h51
 refine JC_cutP (τ := (Int × Int × Int) × (Unit)) (fun y => k52 y.1 = some r) (fun y57 => [(8, vi y57.1.1), (7, vi y57.1.2.1), (5, vi y57.1.2.2), (4, .v (.slice y35.1 t32.length y35.2)), (3, .v (.slice y31.1 t28.length y31.2))]) (fun y57 => []) (fun y57 => [SlRes 3 t32 y35.1 y35.2, SlRes 3 t28 y31.1 y31.2]) ?_ (fun y57 h58p => ?_)
 · refine qb (lp Unit hL50 (fun s46 y47 => [(9, vi s46.1), (8, vi s46.2.1), (7, vi s46.2.2), (6, .v (.slice y42.1 t39.length y42.2)), (5, vi (Int.tmod x36 1001)), (4, .v (.slice y35.1 t32.length y35.2)), (3, .v (.slice y31.1 t28.length y31.2))]) (fun s46 y47 => []) (fun s46 y47 => [SlRes 3 t39 y42.1 y42.2, SlRes 3 t32 y35.1 y35.2, SlRes 3 t28 y31.1 y31.2]) () [9, 8, 7, 6, 5, 4, 3] [0, 0, 0] 0 (fun s46 y47 t48 h54 hd55 => ?_))
   refine qs (qs (qr (oN 4 [(34, vb (decide (s46.1 < (t28.length : Int))))] [9, 8, 7, 6, 5, 4, 3] ?_)))
   refine oe (nt (cC h54 (fun h85 => ?_) (fun h86 => ?_)))
   · refine qk (nt (qs (qb (qs (qr (oN 3 [(39, vi s46.1), (38, .v (.slice y31.1 t28.length y31.2)), (37, vi s46.2.2)] [9, 8, 6, 5, 4, 3] ?_))))))
     obtain ⟨x87, hx88, h89⟩ := bS h85
     refine oi 1 (fun γ w hs => (hs.view 2 rfl)) hx88 ?_
     refine ol 3 0 (.int .i64 x87) (fun γ w hs => (hs.view 2 rfl).flatq hx88) ?_
     refine oN 2 [(7, vi (w64 (s46.2.2 + x87)))] [9, 8, 6, 5, 4, 3] ?_
     refine oe (nt (qs (qr (oN 3 [(45, vi s46.1), (44, .v (.slice y42.1 t39.length y42.2)), (43, vi s46.2.1)] [7, 9, 6, 5, 4, 3] ?_))))
     obtain ⟨x90, hx91, h92⟩ := bS h89
     refine oi 1 (fun γ w hs => (hs.view 0 rfl)) hx91 ?_
     refine ol 3 0 (.int .i64 x90) (fun γ w hs => (hs.view 0 rfl).flatq hx91) ?_
     refine oN 2 [(8, vi (w64 (s46.2.1 + x90)))] [7, 9, 6, 5, 4, 3] ?_
     refine oe (nt (qs ?_))
     obtain ⟨p93, hE94, h95⟩ := bS h92
     refine JC_cut (τ := Unit) (fun _ => [(3, .v (.slice y31.1 t28.length y31.2)), (4, .v (.slice y35.1 t32.length y35.2)), (5, vi (Int.tmod x36 1001)), (6, .v (.slice y42.1 t39.length y42.2)), (7, vi (w64 (s46.2.2 + x87))), (8, vi (w64 (s46.2.1 + x90))), (9, vi s46.1), (64, vb p93)]) (fun _ => []) (fun _ => [SlRes 3 t28 y31.1 y31.2, SlRes 3 t32 y35.1 y35.2, SlRes 3 t39 y42.1 y42.2]) ?_ (fun _ => ?_)
     · refine JC_quiet (by kernel_rfl) (by kernel_rfl) ?_
       refine qN 2 [(50, vi s46.1), (49, .v (.slice y42.1 t39.length y42.2))] [8, 7, 9, 6, 5, 4, 3] ?_
       obtain ⟨x96, hx97, h98⟩ := bS hE94
       refine qi 1 (fun γ w hs => (hs.view 0 rfl)) hx97 ?_
       refine ql 3 0 (.int .i64 x96) (fun γ w hs => (hs.view 0 rfl).flatq hx97) ?_
       refine qN 2 [(54, vb (decide (x96 < 0)))] [8, 7, 9, 6, 5, 4, 3] ?_
       refine qS 54 h98 (fun h100 => ?_) (fun h101 => ?_)
       · refine qN 10 [(64, vb true)] [8, 7, 9, 6, 5, 4, 3] ?_
         refine qz ?_
         obtain rfl := sI h100
         exact mt () [3, 4, 5, 6, 7, 8, 9, 64] [2, 1, 0] 0
       refine qN 2 [(56, vi s46.1), (55, .v (.slice y42.1 t39.length y42.2))] [54, 8, 7, 9, 6, 5, 4, 3] ?_
       obtain ⟨x102, hx103, h104⟩ := bS h101
       refine qi 1 (fun γ w hs => (hs.view 0 rfl)) hx103 ?_
       refine ql 3 0 (.int .i64 x102) (fun γ w hs => (hs.view 0 rfl).flatq hx103) ?_
       refine qN 2 [(60, vi s46.1), (59, .v (.slice y31.1 t28.length y31.2))] [58, 54, 8, 7, 9, 6, 5, 4, 3] ?_
       obtain ⟨x105, hx106, h107⟩ := bS h104
       refine qi 1 (fun γ w hs => (hs.view 2 rfl)) hx106 ?_
       refine ql 3 0 (.int .i64 x105) (fun γ w hs => (hs.view 2 rfl).flatq hx106) ?_
       refine qN 2 [(64, vb (decide (x102 > x105)))] [8, 7, 9, 6, 5, 4, 3] ?_
       refine qz ?_
       obtain rfl := sI h107
       exact mt () [3, 4, 5, 6, 7, 8, 9, 64] [2, 1, 0] 0
     refine nt (cC h95 (fun h109 => ?_) (fun h110 => ?_))
     · refine qs (qr (oN 1 [(2, vb false)] [] ?_))
       refine oe (nt (qe (br (nr (nr ?_)))))
       have h111 := leafR hd55 h109 h51
       refine br (nr (nr ?_))
       obtain rfl := sI h111
       exact re [.bool false]
     refine qk (bn (nt (qr (oN 3 [(9, vi (w64 (s46.1 + 1)))] [3, 4, 5, 6, 7, 8] ?_))))
     exact oe (ct h110 () [9, 8, 7, 6, 5, 4, 3] [2, 1, 0] 0)
   refine qx (nx (nx (bh ?_)))
   have h112 := leafB hd55 h86 h51
   exact mp ((s46.2.1, s46.2.2, Int.tmod x36 1001), ()) h112 [8, 7, 5, 4, 3] [1, 1] 0
 have h58 := (congrFun hk53 _).symm.trans h58p
 refine nt (qs (qr (oN 3 [(67, .v (.slice y35.1 t32.length y35.2)), (66, vi (w64 (y57.1.2.1 * 12)))] [8, 7, 5, 3] ?_)))
 obtain ⟨x59, hx60, h61⟩ := bS h58
 refine oi 1 (fun γ w hs => (hs.view 0 rfl)) hx60 ?_
 refine ol 3 0 (.int .i64 x59) (fun γ w hs => (hs.view 0 rfl).flatq hx60) ?_
 refine oN 4 [(10, vi (w64 (Int.tdiv (w64 ((w64 (y57.1.2.1 * 12)) * (Int.tmod x59 120))) 100)))] [8, 7, 5, 3] ?_
 refine oe (nt (qs (qr (oN 2 [(74, .v (.slice y31.1 t28.length y31.2)), (73, vi (w64 (Int.tdiv (w64 ((w64 (y57.1.2.1 * 12)) * (Int.tmod x59 120))) 100)))] [10, 8, 7, 5] ?_))))
 obtain ⟨t62, h63, h64⟩ := bS h61
 refine k0 (fun γ w hs => c_impl_CutNeeded h63 (hs.view 1 rfl)) ?_
 refine oN 1 [(11, vi t62)] [10, 8, 7, 5] ?_
 refine oe (nt (qs (qr (oN 10 [(12, vb (decide ((w64 ((w64 (y57.1.2.1 - (w64 (Int.tdiv (w64 (y57.1.2.1 * t62)) 1000)))) * 12)) ≤ (w64 (Int.tdiv (w64 ((w64 (y57.1.2.1 * 12)) * (Int.tmod x59 120))) 100)))))] [11, 10, 8, 7, 5] ?_))))
 refine oe (nt (qs ?_))
 obtain ⟨p66, hE67, h68⟩ := bS h64
 refine JC_cut (τ := Unit) (fun _ => [(2, vb p66)]) (fun _ => []) (fun _ => []) ?_ (fun _ => ?_)
 · refine qr (oN 9 [(93, vb (y57.1.1 == (w64 (y57.1.2.1 - (w64 (Int.tdiv (w64 (y57.1.2.1 * y57.1.2.2)) 1000))))))] [12, 11, 10, 7] ?_)
   refine oS 93 hE67 (fun h70 => ?_) (fun h71 => ?_)
   · refine oN 4 [(97, vb (decide (t62 ≥ 0)))] [12, 11, 10, 7] ?_
     refine oS 97 h70 (fun h73 => ?_) (fun h74 => ?_)
     · refine oN 4 [(101, vb (decide (t62 ≤ 1000)))] [12, 11, 10, 7] ?_
       refine oS 101 h73 (fun h76 => ?_) (fun h77 => ?_)
       · refine oN 3 [(104, vb (decide ((w64 ((w64 (y57.1.2.1 - (w64 (Int.tdiv (w64 (y57.1.2.1 * t62)) 1000)))) * 12)) ≤ (w64 (Int.tdiv (w64 ((w64 (y57.1.2.1 * 12)) * (Int.tmod x59 120))) 100)))))] [11, 10, 7] ?_
         refine oS 104 h76 (fun h79 => ?_) (fun h80 => ?_)
         · refine oN 3 [(107, vb (t62 == 0))] [104, 11, 10, 7] ?_
           refine oS 107 h79 (fun h82 => ?_) (fun h83 => ?_)
           · refine oN 13 [(2, vb true)] [] ?_
             refine oe ?_
             obtain rfl := sI h82
             exact mt () [2] [] 0
           refine oN 13 [(2, vb (decide ((w64 ((w64 (y57.1.2.1 - (w64 (Int.tdiv (w64 (y57.1.2.1 * (w64 (t62 - 1)))) 1000)))) * 12)) > (w64 (Int.tdiv (w64 ((w64 (y57.1.2.1 * 12)) * (Int.tmod x59 120))) 100)))))] [] ?_
           refine oe ?_
           obtain rfl := sI h83
           exact mt () [2] [] 0
         refine oN 16 [(2, vb false)] [] ?_
         refine oe ?_
         obtain rfl := sI h80
         exact mt () [2] [] 0
       refine oN 19 [(2, vb false)] [] ?_
       refine oe ?_
       obtain rfl := sI h77
       exact mt () [2] [] 0
     refine oN 23 [(2, vb false)] [] ?_
     refine oe ?_
     obtain rfl := sI h74
     exact mt () [2] [] 0
   refine oN 27 [(2, vb false)] [] ?_
   refine oe ?_
   obtain rfl := sI h71
   exact mt () [2] [] 0
 refine nt (qe ?_)
 obtain rfl := sI h68
 exact re [.bool p66]
end Go.Pen
