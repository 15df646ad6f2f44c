/-
  Each Go function does what its plain function says: written by a program of ours.
-/
import Derived.Test.YtagenkhjchiigaaGreatW3
import Derived.Test.YtagenkhjchiigaaGreatProg
import Derived.Test.YtagenkhjchiigaaGreatPenK
import Derived.Test.YtagenkhjchiigaaGreatPenJ
import Derived.Test.YtagenkhjchiigaaGreatPenP
import Derived.Test.YtagenkhjchiigaaGreatPenQ
import Derived.Test.YtagenkhjchiigaaGreatPenU
namespace Go.Pen
open Go.Proofs Go.RowKit
set_option linter.unusedVariables false
set_option linter.unusedSimpArgs false
set_option maxRecDepth 100000
set_option maxHeartbeats 4000000

theorem c_impl_VarsFor {W : World} {x0 : Case} {b0 : AC × AC × AC × AC × AC} {x1 : Int} {x2 : Int} {r : (List Frac) × Bool} (h : impl_VarsFor x0 x1 x2 = some r) (hv0_0 : SlView W x0.Book.Rules b0.1.1 b0.1.2) (hv0_1 : SlView W x0.Store.Facts b0.2.1.1 b0.2.1.2) (hv0_2 : SlView W x0.Series.Points b0.2.2.1.1 b0.2.2.1.2) (hv0_3 : SlView W x0.Member.Spells b0.2.2.2.1.1 b0.2.2.2.1.2) (hv0_4 : SlView W x0.Member.Events b0.2.2.2.2.1 b0.2.2.2.2.2) :
    Gives Tryz.prog 80 #[vCase x0 b0, .int .i64 x1, .int .i64 x2] W (fun y : AC => .tuple #[.slice y.1 r.1.length y.2, .bool r.2]) (fun y => [SlRes 133 r.1 y.1 y.2]) := by
 unfold impl_VarsFor at h
 refine en Tryz.func80 Tryz.ntmps80 ?_
 refine qs (qr (oB 3 [(3, .p 0 0)] [1, 2] [(38, (eCase x0 b0))] ?_))
 refine oe (nt (qs (qr (oB 4 [(8, .p 1 0)] [3, 1, 2] [(38, (eCase x0 b0)), (36, (eMember x0.Member b0.2.2.2))] ?_))))
 refine oe (nt (qs (qs ?_)))
 obtain ⟨p21, hE22, h23⟩ := bS h
 refine JC_cut (τ := Unit) (fun _ => [(1, vi x1), (2, vi x2), (3, .p 0 0), (8, .p 1 0), (37, vb p21)]) (fun _ => [(38, (eCase x0 b0)), (36, (eMember x0.Member b0.2.2.2))]) (fun _ => []) ?_ (fun _ => ?_)
 · refine qr (oN 1 [(19, .v (vCase x0 b0))] [8, 3, 1, 2] ?_)
   obtain ⟨t24, h25, h26⟩ := bS hE22
   refine k0 (fun γ w hs => c_impl_CaseOk (b0 := b0) h25 (hv0_0.kept hs.kept) (hv0_1.kept hs.kept) (hv0_2.kept hs.kept) (hv0_3.kept hs.kept) (hv0_4.kept hs.kept)) ?_
   refine oN 2 [(22, vb (!t24))] [8, 3, 1, 2] ?_
   refine oS 22 h26 (fun h29 => ?_) (fun h30 => ?_)
   · refine oN 15 [(37, vb true)] [8, 3, 1, 2] ?_
     refine oe ?_
     obtain rfl := sI h29
     exact mt () [1, 2, 3, 8, 37] [] 2
   refine oN 1 [(23, vi x1)] [22, 8, 3, 1, 2] ?_
   obtain ⟨t31, h32, h33⟩ := bS h30
   refine k0 (fun γ w hs => c_impl_MonthOk h32) ?_
   refine oN 3 [(27, vb (!t31))] [8, 3, 1, 2] ?_
   refine oS 27 h33 (fun h36 => ?_) (fun h37 => ?_)
   · refine oN 10 [(37, vb true)] [8, 3, 1, 2] ?_
     refine oe ?_
     obtain rfl := sI h36
     exact mt () [1, 2, 3, 8, 37] [] 2
   refine oN 1 [(28, vi x2)] [27, 8, 3, 1, 2] ?_
   obtain ⟨t38, h39, h40⟩ := bS h37
   refine k0 (fun γ w hs => c_impl_MonthOk h39) ?_
   refine oN 3 [(32, vb (!t38))] [8, 3, 1, 2] ?_
   refine oS 32 h40 (fun h43 => ?_) (fun h44 => ?_)
   · refine oN 5 [(37, vb true)] [8, 3, 1, 2] ?_
     refine oe ?_
     obtain rfl := sI h43
     exact mt () [1, 2, 3, 8, 37] [] 2
   refine oN 5 [(37, vb (decide (x1 < x0.Member.Joined)))] [8, 3, 1, 2] ?_
   refine oe ?_
   obtain rfl := sI h44
   exact mt () [1, 2, 3, 8, 37] [] 2
 refine nt (cC h23 (fun h46 => ?_) (fun h47 => ?_))
 · refine qs (qr (oN 2 [(7, vb false), (6, .v (.slice none 0 0))] [] ?_))
   refine oe (nt (qe (nr (JE_addnil 133 (List.nil (α := Frac)) rfl ?_))))
   refine rt [.slice none 0 0, .bool false] (fun γ w hs => ?_)
   rw [← sI h46]
   exact ⟨(none, 0), rfl, hs.kept.toBelow, (hs.takeR (is := [0]) rfl).fresh⟩
 refine qk (nt (qs (qr (oN 4 [(42, vi x2), (41, vi x1), (40, .v (vStore x0.Store b0.2.1))] [1, 2, 3, 8] ?_))))
 obtain ⟨t48, h49, h50⟩ := bS h47
 refine k0 (fun γ w hs => c_impl_FinalPay h49 (hv0_1.kept hs.kept)) ?_
 refine oN 5 [(9, vi t48.1)] [1, 2, 3, 8] ?_
 refine oe (nt (qs (qr (oN 6 [(52, vi x2), (51, vi x1), (50, vi x0.Member.Joined), (48, .v (vSeries x0.Series b0.2.2.1))] [9, 1, 8] ?_))))
 obtain ⟨t52, h53, h54⟩ := bS h50
 refine k0 (fun γ w hs => c_impl_IndexRatio h53 (hv0_2.kept hs.kept)) ?_
 refine oB 6 [(12, vb t52.2), (11, .p 2 0)] [9, 1, 8] [(38, (eCase x0 b0)), (36, (eMember x0.Member b0.2.2.2)), (133, (eFrac t52.1))] ?_
 refine oe (nt (qs (qs (qr (oN 2 [(57, vb (!t52.2))] [11, 9, 1, 8] ?_)))))
 refine oe (nt ?_)
 obtain ⟨k59, hk60, h133⟩ := jS h54
 refine JC_cutP (τ := (Int × Int) × (Unit)) (fun y => k59 y.1 = some r) (fun y58 => [(11, .p 2 0), (9, vi t48.1), (1, vi x1), (8, .p 1 0)]) (fun y58 => [(38, (eCase x0 b0)), (36, (eMember x0.Member b0.2.2.2)), (133, (eFrac (Frac.mk y58.1.1 y58.1.2)))]) (fun y58 => []) ?_ (fun y58 h61p => ?_)
 · refine cC h133 (fun h135 => ?_) (fun h136 => ?_)
   · refine qr (oB 2 [] [11, 9, 1, 8] [(38, (eCase x0 b0)), (36, (eMember x0.Member b0.2.2.2)), (133, (eFrac (Frac.mk 1 1)))] ?_)
     exact oe (mp ((1, 1), ()) h135 [11, 9, 1, 8] [] 3)
   exact qk (mp ((t52.1.Num, t52.1.Den), ()) h136 [11, 9, 1, 8] [] 3)
 have h61 := (congrFun hk60 _).symm.trans h61p
 refine nt (qs (qr (oN 2 [(60, .v (.slice b0.2.2.2.2.1 x0.Member.Events.length b0.2.2.2.2.2))] [11, 9, 1, 8] ?_)))
 obtain ⟨t62, h63, h64⟩ := bS h61
 refine k0 (fun γ w hs => c_impl_MonthOfKind h63 (hv0_4.kept hs.kept)) ?_
 refine oN 1 [(13, vi t62)] [11, 9, 1, 8] ?_
 refine oe (nt (qs (qs ?_)))
 obtain ⟨p66, hE67, h68⟩ := bS h64
 refine JC_cut (τ := Unit) (fun _ => [(1, vi x1), (8, .p 1 0), (9, vi t48.1), (11, .p 2 0), (13, vi t62), (68, vb p66)]) (fun _ => [(38, (eCase x0 b0)), (36, (eMember x0.Member b0.2.2.2)), (133, (eFrac (Frac.mk y58.1.1 y58.1.2)))]) (fun _ => []) ?_ (fun _ => ?_)
 · refine qr (oN 3 [(64, vb (decide (t62 < 0)))] [13, 11, 9, 1, 8] ?_)
   refine oS 64 hE67 (fun h70 => ?_) (fun h71 => ?_)
   · refine oN 4 [(68, vb true)] [13, 11, 9, 1, 8] ?_
     refine oe ?_
     obtain rfl := sI h70
     exact mt () [1, 8, 9, 11, 13, 68] [] 3
   refine oN 4 [(68, vb (decide (t62 > x1)))] [13, 11, 9, 1, 8] ?_
   refine oe ?_
   obtain rfl := sI h71
   exact mt () [1, 8, 9, 11, 13, 68] [] 3
 refine nt ?_
 obtain ⟨k75, hk76, h129⟩ := jS h68
 refine JC_cutP (τ := (Int) × (Unit)) (fun y => k75 y.1 = some r) (fun y74 => [(1, vi x1), (8, .p 1 0), (9, vi t48.1), (11, .p 2 0), (13, vi y74.1)]) (fun y74 => [(38, (eCase x0 b0)), (36, (eMember x0.Member b0.2.2.2)), (133, (eFrac (Frac.mk y58.1.1 y58.1.2)))]) (fun y74 => []) ?_ (fun y74 h77p => ?_)
 · refine cC h129 (fun h131 => ?_) (fun h132 => ?_)
   · refine qr (oN 2 [(13, vi x1)] [1, 8, 9, 11] ?_)
     exact oe (mp (x1, ()) h131 [1, 8, 9, 11, 13] [] 3)
   exact qk (mp (t62, ()) h132 [1, 8, 9, 11, 13] [] 3)
 have h77 := (congrFun hk76 _).symm.trans h77p
 refine nt (qs (qr (oN 3 [(73, vi x1), (72, .v (.slice b0.2.2.2.1.1 x0.Member.Spells.length b0.2.2.2.1.2))] [1, 8, 9, 11, 13] ?_)))
 obtain ⟨t78, h79, h80⟩ := bS h77
 refine k0 (fun γ w hs => c_impl_ServiceIn h79 (hv0_3.kept hs.kept)) ?_
 obtain ⟨t82, h83, h84⟩ := bS h80
 refine k0 (fun γ w hs => c_impl_reduced h83) ?_
 refine oB 6 [(15, vb t82.2), (14, .p 3 0)] [1, 8, 9, 11, 13] [(38, (eCase x0 b0)), (36, (eMember x0.Member b0.2.2.2)), (133, (eFrac (Frac.mk y58.1.1 y58.1.2))), (133, (eFrac t82.1))] ?_
 refine oe (nt (qs ?_))
 obtain ⟨t86, h87, h88⟩ := bS h84
 obtain ⟨t90, h91, h92⟩ := bS h88
 obtain ⟨t94, h95, h96⟩ := bS h92
 obtain ⟨t98, h99, h100⟩ := bS h96
 obtain ⟨t102, h103, h104⟩ := bS h100
 obtain ⟨t106, h107, h108⟩ := bS h104
 obtain ⟨t110, h111, h112⟩ := bS h108
 refine JC_cut (τ := AC) (fun y115 => [(16, .v (.slice y115.1 ([t82.1, t86, t94, Frac.mk y58.1.1 y58.1.2, t98, t102, t106, t110] : List Frac).length y115.2)), (15, vb t82.2)]) (fun y115 => [(38, (eCase x0 b0)), (36, (eMember x0.Member b0.2.2.2)), (133, (eFrac (Frac.mk y58.1.1 y58.1.2))), (133, (eFrac t82.1))]) (fun y115 => [SlRes 133 ([t82.1, t86, t94, Frac.mk y58.1.1 y58.1.2, t98, t102, t106, t110] : List Frac) y115.1 y115.2]) ?_ (fun y115 => ?_)
 · refine jw [15, 14, 1, 8, 9, 11, 13] [] ?_
   refine JC_heldN (ks := [0, 1, 2, 3]) (Rk := []) 19 (by kernel_rfl) (by kernel_rfl) ?_
   refine htq 0 (.v (vFrac t82.1)) [] ?_
   refine hk [78, 15, 1, 8, 9, 11, 13] ?_
   refine htq 1 (vi t48.1) [] ?_
   refine hk [79, 78, 15, 1, 8, 11, 13] ?_
   refine htq 3 (.p 1 0) [] ?_
   refine hk [81, 79, 78, 15, 1, 11, 13] ?_
   refine htq 4 (vi x0.Member.Birth) [] ?_
   refine hk [82, 79, 78, 15, 1, 11, 13] ?_
   refine htq 5 (vi x1) [] ?_
   refine htq 8 (.v (vFrac (Frac.mk y58.1.1 y58.1.2))) [] ?_
   refine hk [86, 83, 82, 79, 78, 15, 1, 13] ?_
   refine htq 9 (vi x1) [] ?_
   refine htq 10 (vi y74.1) [] ?_
   refine hk [88, 87, 86, 83, 82, 79, 78, 15, 1] ?_
   refine htq 11 (vi (w64 (x1 - y74.1))) [] ?_
   refine hk [89, 86, 83, 82, 79, 78, 15, 1] ?_
   refine htq 13 (vi x1) [] ?_
   refine hk [91, 89, 86, 83, 82, 79, 78, 15] ?_
   refine ha1 2 ?_
   refine hi (fun γ0 δ hm => ?_)
   refine g0 (fun w hs => c_impl_whole h87) ?_
   refine gn hm [80, 91, 89, 86, 83, 82, 78, 15] [] ?_
   refine ha1 6 ?_
   refine hi (fun γ0 δ hm => ?_)
   refine g0 (fun w hs => c_impl_AgeAt h91) ?_
   refine gn hm [84, 80, 91, 89, 86, 78, 15] [] ?_
   refine ha1 7 ?_
   refine hi (fun γ0 δ hm => ?_)
   refine g0 (fun w hs => c_impl_whole h95) ?_
   refine gn hm [85, 80, 91, 89, 86, 78, 15] [] ?_
   refine ha1 12 ?_
   refine hi (fun γ0 δ hm => ?_)
   refine g0 (fun w hs => c_impl_whole h99) ?_
   refine gn hm [90, 85, 80, 91, 86, 78, 15] [] ?_
   refine ha1 14 ?_
   refine hi (fun γ0 δ hm => ?_)
   refine g0 (fun w hs => c_impl_whole h103) ?_
   refine gn hm [92, 90, 85, 80, 86, 78, 15] [] ?_
   refine ha1 15 ?_
   refine hi (fun γ0 δ hm => ?_)
   refine g0 (fun w hs => c_impl_whole h107) ?_
   refine gn hm [93, 92, 90, 85, 80, 86, 78, 15] [] ?_
   refine ha1 16 ?_
   refine hi (fun γ0 δ hm => ?_)
   refine g0 (fun w hs => c_impl_whole h111) ?_
   refine gn hm [94, 93, 92, 90, 85, 80, 86, 78, 15] [] ?_
   refine ha1 17 ?_
   refine hi (fun γ0 δ hm => ?_)
   refine gb [] [] 133 8 [.int .i64 t82.1.Num, .int .i64 t82.1.Den, .int .i64 t86.Num, .int .i64 t86.Den, .int .i64 t94.Num, .int .i64 t94.Den, .int .i64 y58.1.1, .int .i64 y58.1.2, .int .i64 t98.Num, .int .i64 t98.Den, .int .i64 t102.Num, .int .i64 t102.Den, .int .i64 t106.Num, .int .i64 t106.Den, .int .i64 t110.Num, .int .i64 t110.Den] ([t82.1, t86, t94, Frac.mk y58.1.1 y58.1.2, t98, t102, t106, t110] : List Frac) (own_flat (by kernel_rfl)) (fun y114 => ?_)
   refine gn hm [95, 15] [] ?_
   refine htq 18 (.v (.slice y114.1 ([t82.1, t86, t94, Frac.mk y58.1.1 y58.1.2, t98, t102, t106, t110] : List Frac).length y114.2)) [] ?_
   refine hk [16, 15] ?_
   exact hd y114 [16, 15] [0] 4
 refine nt (qs (qs ?_))
 obtain ⟨p116, hE117, h118⟩ := bS h112
 refine JC_cut (τ := Unit) (fun _ => [(16, .v (.slice y115.1 ([t82.1, t86, t94, Frac.mk y58.1.1 y58.1.2, t98, t102, t106, t110] : List Frac).length y115.2)), (101, vb p116)]) (fun _ => [(38, (eCase x0 b0)), (36, (eMember x0.Member b0.2.2.2)), (133, (eFrac (Frac.mk y58.1.1 y58.1.2))), (133, (eFrac t82.1))]) (fun _ => [SlRes 133 ([t82.1, t86, t94, Frac.mk y58.1.1 y58.1.2, t98, t102, t106, t110] : List Frac) y115.1 y115.2]) ?_ (fun _ => ?_)
 · refine qr (oN 3 [(98, vb (!t82.2))] [16] ?_)
   refine oS 98 hE117 (fun h120 => ?_) (fun h121 => ?_)
   · refine oN 3 [(101, vb true)] [16] ?_
     refine oe ?_
     obtain rfl := sI h120
     exact mt () [16, 101] [0] 4
   refine oN 1 [(99, .v (.slice y115.1 ([t82.1, t86, t94, Frac.mk y58.1.1 y58.1.2, t98, t102, t106, t110] : List Frac).length y115.2))] [98, 16] ?_
   obtain ⟨t122, h123, h124⟩ := bS h121
   refine k0 (fun γ w hs => c_slices_ContainsFunc_Frac__impl_VarsFor_1 h123 (hs.view 0 rfl)) ?_
   refine oN 1 [(101, vb t122)] [16] ?_
   refine oe ?_
   obtain rfl := sI h124
   exact mt () [16, 101] [0] 4
 refine nt (cC h118 (fun h127 => ?_) (fun h128 => ?_))
 · refine qs (qr (oN 2 [(7, vb false), (6, .v (.slice none 0 0))] [] ?_))
   refine oe (nt (qe (nr (JE_addnil 133 (List.nil (α := Frac)) rfl ?_))))
   refine rt [.slice none 0 0, .bool false] (fun γ w hs => ?_)
   rw [← sI h127]
   exact ⟨(none, 0), rfl, hs.kept.toBelow, (hs.takeR (is := [0]) rfl).fresh⟩
 refine qk (nt (qs (qr (oN 3 [(7, vb true), (6, .v (.slice y115.1 ([t82.1, t86, t94, Frac.mk y58.1.1 y58.1.2, t98, t102, t106, t110] : List Frac).length y115.2))] [] ?_))))
 refine oe (nt (qe (rt [.slice y115.1 ([t82.1, t86, t94, Frac.mk y58.1.1 y58.1.2, t98, t102, t106, t110] : List Frac).length y115.2, .bool true] (fun γ w hs => ?_))))
 rw [← sI h128]
 exact ⟨y115, rfl, hs.kept.toBelow, (hs.takeR (is := [0]) rfl).fresh⟩

theorem c_impl_RuleFor {W : World} {x0 : Book} {a0_0 : Option Addr} {c0_0 : Nat} {x1 : Int} {x2 : Int} {x3 : Int} {r : Int} (h : impl_RuleFor x0 x1 x2 x3 = some r) (hv0_0 : SlView W x0.Rules a0_0 c0_0) :
    Gives0 Tryz.prog 151 #[vBook x0 (a0_0, c0_0), .int .i64 x1, .int .i64 x2, .int .i64 x3] W (.int .i64 r) := by
 unfold impl_RuleFor at h
 refine en Tryz.func151 Tryz.ntmps151 ?_
 refine qs (qr (oB 2 [(4, .p 0 0)] [1, 2, 3] [(26, (eBook x0 (a0_0, c0_0)))] ?_))
 refine oe (nt (qs (qr (oN 1 [(9, vi (-1))] [4, 1, 2, 3] ?_))))
 refine oe (nt (qs (qs (qr (oN 4 [(15, vi 0), (14, vi (x0.Rules.length : Int)), (13, .v (.slice a0_0 x0.Rules.length c0_0))] [9, 4, 1, 2, 3] ?_)))))
 refine oe (nt ?_)
 obtain ⟨r24, hL25, h26⟩ := bS h
 obtain ⟨k27, hk28, h26⟩ := brkS h26
 refine JC_cutP (τ := (Int) × (Unit)) (fun y => k27 y.1 = some r) (fun y32 => [(9, vi y32.1), (4, .p 0 0)]) (fun y32 => [(26, (eBook x0 (a0_0, c0_0)))]) (fun y32 => []) ?_ (fun y32 h33p => ?_)
 · refine qb (lp Unit hL25 (fun s21 y22 => [(15, vi s21.1), (14, vi (x0.Rules.length : Int)), (13, .v (.slice a0_0 x0.Rules.length c0_0)), (9, vi s21.2), (4, .p 0 0), (1, vi x1), (2, vi x2), (3, vi x3)]) (fun s21 y22 => [(26, (eBook x0 (a0_0, c0_0)))]) (fun s21 y22 => []) () [15, 14, 13, 9, 4, 1, 2, 3] [] 1 (fun s21 y22 t23 h29 hd30 => ?_))
   refine qs (qr (oN 1 [(16, vb (decide (s21.1 < (x0.Rules.length : Int))))] [15, 14, 13, 9, 4, 1, 2, 3] ?_))
   refine oe (nt (qs (cC h29 (fun h42 => ?_) (fun h43 => ?_))))
   · refine qk (nt (qs (qb (qs (qr (oN 1 [(17, vi s21.1)] [15, 14, 13, 9, 4, 1, 2, 3] ?_))))))
     obtain ⟨x44, hx45, h46⟩ := bS h42
     refine oi 7 (fun γ w hs => (hv0_0.kept hs.kept)) hx45 ?_
     obtain ⟨_, ⟨a47, c48, rfl, hv49⟩, hc50⟩ := SlView.at hv0_0 (idx_some hx45).2.2
     refine ol 76 0 (vRule x44 (a47, c48)) (fun γ w hs => ⟨(hv0_0.kept hs.kept).ne (idx_some hx45).2.2, hc50.kept hs.kept⟩) ?_
     refine oB 3 [(10, vi s21.1), (11, .p 1 0)] [15, 14, 13, 9, 4, 1, 2, 3] [(26, (eBook x0 (a0_0, c0_0))), (76, (eRule x44 (a47, c48)))] ?_
     refine oe (nt (qs ?_))
     obtain ⟨p51, hE52, h53⟩ := bS h46
     refine JC_cut (τ := Unit) (fun _ => [(1, vi x1), (2, vi x2), (3, vi x3), (4, .p 0 0), (9, vi s21.2), (10, vi s21.1), (13, .v (.slice a0_0 x0.Rules.length c0_0)), (14, vi (x0.Rules.length : Int)), (15, vi s21.1), (56, vb p51)]) (fun _ => [(26, (eBook x0 (a0_0, c0_0))), (76, (eRule x44 (a47, c48)))]) (fun _ => []) ?_ (fun _ => ?_)
     · refine JC_quiet (by kernel_rfl) (by kernel_rfl) ?_
       refine qN 5 [(24, vb (x44.Name == x1))] [10, 11, 15, 14, 13, 9, 4, 1, 2, 3] ?_
       refine qS 24 hE52 (fun h55 => ?_) (fun h56 => ?_)
       · refine qN 6 [(30, vb (decide (x44.From ≤ x2)))] [10, 11, 15, 14, 13, 9, 4, 1, 2, 3] ?_
         refine qS 30 h55 (fun h58 => ?_) (fun h59 => ?_)
         · refine qN 6 [(36, vb (decide (x2 < x44.To)))] [10, 11, 15, 14, 13, 9, 4, 1, 2, 3] ?_
           refine qS 36 h58 (fun h61 => ?_) (fun h62 => ?_)
           · refine qN 6 [(42, vb (decide (x44.Joined > x3)))] [10, 11, 15, 14, 13, 9, 4, 1, 2, 3] ?_
             refine qS 42 h61 (fun h64 => ?_) (fun h65 => ?_)
             · refine qN 3 [(45, vb (decide (s21.2 < 0)))] [42, 10, 11, 15, 14, 13, 9, 4, 1, 2, 3] ?_
               refine qS 45 h64 (fun h67 => ?_) (fun h68 => ?_)
               · refine qN 11 [(56, vb true)] [10, 15, 14, 13, 9, 4, 1, 2, 3] ?_
                 refine qz ?_
                 obtain rfl := sI h67
                 exact mt () [1, 2, 3, 4, 9, 10, 13, 14, 15, 56] [] 2
               refine qN 5 [(50, vi s21.2), (49, .v (.slice a0_0 x0.Rules.length c0_0)), (47, vi x44.Rank)] [45, 42, 10, 15, 14, 13, 9, 4, 1, 2, 3] ?_
               obtain ⟨x69, hx70, h71⟩ := bS h68
               refine qi 7 (fun γ w hs => (hv0_0.kept hs.kept)) hx70 ?_
               refine qN 1 [(52, .q a0_0 (Int.toNat s21.2 * 7 + 4))] [47, 45, 42, 10, 15, 14, 13, 9, 4, 1, 2, 3] ?_
               obtain ⟨_, ⟨a72, c73, rfl, hv74⟩, hc75⟩ := SlView.at hv0_0 (idx_some hx70).2.2
               refine ql 3 4 (.int .i64 x69.Rank) (fun γ w hs => ⟨(hv0_0.kept hs.kept).ne (idx_some hx70).2.2, hc75.kept hs.kept⟩) ?_
               refine qN 3 [(56, vb (decide (x44.Rank > x69.Rank)))] [10, 15, 14, 13, 9, 4, 1, 2, 3] ?_
               refine qz ?_
               obtain rfl := sI h71
               exact mt () [1, 2, 3, 4, 9, 10, 13, 14, 15, 56] [] 2
             refine qN 14 [(56, vb false)] [10, 15, 14, 13, 9, 4, 1, 2, 3] ?_
             refine qz ?_
             obtain rfl := sI h65
             exact mt () [1, 2, 3, 4, 9, 10, 13, 14, 15, 56] [] 2
           refine qN 20 [(56, vb false)] [10, 15, 14, 13, 9, 4, 1, 2, 3] ?_
           refine qz ?_
           obtain rfl := sI h62
           exact mt () [1, 2, 3, 4, 9, 10, 13, 14, 15, 56] [] 2
         refine qN 26 [(56, vb false)] [10, 15, 14, 13, 9, 4, 1, 2, 3] ?_
         refine qz ?_
         obtain rfl := sI h59
         exact mt () [1, 2, 3, 4, 9, 10, 13, 14, 15, 56] [] 2
       refine qN 32 [(56, vb false)] [10, 15, 14, 13, 9, 4, 1, 2, 3] ?_
       refine qz ?_
       obtain rfl := sI h56
       exact mt () [1, 2, 3, 4, 9, 10, 13, 14, 15, 56] [] 2
     refine nt ?_
     obtain ⟨k79, hk80, h82⟩ := jS h53
     refine JC_cutP (τ := (Int) × (Unit)) (fun y => k79 y.1 = some t23) (fun y78 => [(1, vi x1), (2, vi x2), (3, vi x3), (4, .p 0 0), (9, vi y78.1), (13, .v (.slice a0_0 x0.Rules.length c0_0)), (14, vi (x0.Rules.length : Int)), (15, vi s21.1)]) (fun y78 => [(26, (eBook x0 (a0_0, c0_0))), (76, (eRule x44 (a47, c48)))]) (fun y78 => []) ?_ (fun y78 h81p => ?_)
     · refine cC h82 (fun h84 => ?_) (fun h85 => ?_)
       · refine qr (oN 2 [(9, vi s21.1)] [1, 2, 3, 4, 13, 14, 15] ?_)
         exact oe (mp (s21.1, ()) h84 [1, 2, 3, 4, 9, 13, 14, 15] [] 2)
       exact qk (mp (s21.2, ()) h85 [1, 2, 3, 4, 9, 13, 14, 15] [] 2)
     have h81 := (congrFun hk80 _).symm.trans h81p
     refine bn (nt (qr (oN 2 [(15, vi (w64 (s21.1 + 1)))] [1, 2, 3, 4, 9, 13, 14] ?_)))
     exact oe (ct h81 () [15, 14, 13, 9, 4, 1, 2, 3] [] 1)
   refine qx (nx (nx (bh ?_)))
   have h86 := leafB hd30 h43 h26
   exact mp (s21.2, ()) h86 [9, 4] [] 1
 have h33 := (congrFun hk28 _).symm.trans h33p
 refine nt (qs (qs (qr (oN 1 [(59, .v (vBook x0 (a0_0, c0_0)))] [9] ?_))))
 obtain ⟨t34, h35, h36⟩ := bS h33
 refine k0 (fun γ w hs => c_impl_BookOk h35 (hv0_0.kept hs.kept)) ?_
 refine oN 1 [(61, vb (!t34))] [9] ?_
 refine oe (nt (cC h36 (fun h39 => ?_) (fun h40 => ?_)))
 · refine qs (qr (oN 1 [(8, vi (-1))] [] ?_))
   refine oe (nt (qe (nr ?_)))
   obtain rfl := sI h39
   exact re [.int .i64 (-1)]
 refine qk (nt (qs (qr (oN 2 [(8, vi y32.1)] [] ?_))))
 refine oe (nt (qe ?_))
 obtain rfl := sI h40
 exact re [.int .i64 y32.1]

theorem c_impl_EvalAll_1 {W : World} {x0 : Frac} {r : Bool} (h : impl_EvalAll_1 x0 = some r)  :
    Gives0 Tryz.prog 203 #[vFrac x0] W (.bool r) := by
 unfold impl_EvalAll_1 at h
 refine en Tryz.func203 Tryz.ntmps203 ?_
 refine qs (qr (oB 2 [(1, .p 0 0)] [] [(133, (eFrac x0))] ?_))
 refine oe (nt (qs (qr (oN 1 [(3, .v (vFrac x0))] [] ?_))))
 obtain ⟨t21, h22, h23⟩ := bS h
 refine k0 (fun γ w hs => c_impl_FracOk h22) ?_
 refine oN 2 [(2, vb (!t21))] [] ?_
 refine oe (nt (qe ?_))
 obtain rfl := sI h23
 exact re [.bool (!t21)]

theorem c_slices_IndexFunc_Frac__impl_EvalAll_1 {W : World} {x0 : List Frac} {a0_0 : Option Addr} {c0_0 : Nat} {r : Int} (h : slices_IndexFunc_Frac__impl_EvalAll_1 x0 = some r) (hv0_0 : SlView W x0 a0_0 c0_0) :
    Gives0 Tryz.prog 186 #[.slice a0_0 x0.length c0_0, .func (.func 203) #[] #[]] W (.int .i64 r) := by
 unfold slices_IndexFunc_Frac__impl_EvalAll_1 at h
 refine en Tryz.func186 Tryz.ntmps186 ?_
 refine qs (qr (oN 1 [] [0, 1] ?_))
 refine oe (nt (qs (qs (qr (oN 3 [(8, vi 0), (7, vi (x0.length : Int))] [0, 1] ?_)))))
 refine oe (nt ?_)
 obtain ⟨r24, hL25, h26⟩ := bS h
 obtain ⟨k27, hk28, h26⟩ := brkS h26
 refine JC_cutP (τ := (Unit) × (Unit)) (fun y => k27 y.1 = some r) (fun y32 => []) (fun y32 => []) (fun y32 => []) ?_ (fun y32 h33p => ?_)
 · refine qb (lp Unit hL25 (fun s21 y22 => [(8, vi s21), (7, vi (x0.length : Int)), (0, .v (.slice a0_0 x0.length c0_0)), (1, .v (.func (.func 203) #[] #[]))]) (fun s21 y22 => []) (fun s21 y22 => []) () [8, 7, 0, 1] [] 0 (fun s21 y22 t23 h29 hd30 => ?_))
   refine qs (qr (oN 1 [(9, vb (decide (s21 < (x0.length : Int))))] [8, 7, 0, 1] ?_))
   refine oe (nt (qs (cC h29 (fun h35 => ?_) (fun h36 => ?_))))
   · refine qk (nt (qs (qb (qs (qr (oN 2 [(5, vi s21)] [8, 7, 0, 1] ?_))))))
     refine oe (nt (qs (qr (oN 3 [(13, vi s21), (12, .v (.slice a0_0 x0.length c0_0)), (11, .v (.func (.func 203) #[] #[]))] [5, 8, 7, 0, 1] ?_))))
     obtain ⟨x37, hx38, h39⟩ := bS h35
     refine oi 2 (fun γ w hs => (hv0_0.kept hs.kept)) hx38 ?_
     refine ol 133 0 (vFrac x37) (fun γ w hs => (hv0_0.kept hs.kept).flatq hx38) ?_
     obtain ⟨t40, h41, h42⟩ := bS h39
     refine k0 (fun γ w hs => c_impl_EvalAll_1 h41) ?_
     refine oe (nt (cC h42 (fun h45 => ?_) (fun h46 => ?_)))
     · refine qs (qr (oN 2 [(4, vi s21)] [] ?_))
       refine oe (nt (qe (br (nr (nr ?_)))))
       have h47 := leafR hd30 h45 h26
       refine br (nr (nr ?_))
       obtain rfl := sI h47
       exact re [.int .i64 s21]
     refine qk (bn (nt (qr (oN 2 [(8, vi (w64 (s21 + 1)))] [7, 0, 1] ?_))))
     exact oe (ct h46 () [8, 7, 0, 1] [] 0)
   refine qx (nx (nx (bh ?_)))
   have h48 := leafB hd30 h36 h26
   exact mp ((), ()) h48 [] [] 0
 have h33 := (congrFun hk28 _).symm.trans h33p
 refine nt (qs (qr (oN 1 [(4, vi (-1))] [] ?_)))
 refine oe (nt (qe ?_))
 obtain rfl := sI h33
 exact re [.int .i64 (-1)]

theorem c_slices_ContainsFunc_Frac__impl_EvalAll_1 {W : World} {x0 : List Frac} {a0_0 : Option Addr} {c0_0 : Nat} {r : Bool} (h : slices_ContainsFunc_Frac__impl_EvalAll_1 x0 = some r) (hv0_0 : SlView W x0 a0_0 c0_0) :
    Gives0 Tryz.prog 135 #[.slice a0_0 x0.length c0_0, .func (.func 203) #[] #[]] W (.bool r) := by
 unfold slices_ContainsFunc_Frac__impl_EvalAll_1 at h
 refine en Tryz.func135 Tryz.ntmps135 ?_
 refine qs (qr (oN 1 [] [0, 1] ?_))
 refine oe (nt (qs (qr (oN 2 [(6, .v (.func (.func 203) #[] #[])), (5, .v (.slice a0_0 x0.length c0_0))] [] ?_))))
 obtain ⟨t21, h22, h23⟩ := bS h
 refine k0 (fun γ w hs => c_slices_IndexFunc_Frac__impl_EvalAll_1 h22 (hv0_0.kept hs.kept)) ?_
 refine oN 2 [(4, vb (decide (t21 ≥ 0)))] [] ?_
 refine oe (nt (qe ?_))
 obtain rfl := sI h23
 exact re [.bool (decide (t21 ≥ 0))]

theorem c_cmp_isNaN_int {W : World} {x0 : Int} {r : Bool} (h : cmp_isNaN_int x0 = some r)  :
    Gives0 Tryz.prog 226 #[.int .i64 x0] W (.bool r) := by
 unfold cmp_isNaN_int at h
 refine en Tryz.func226 Tryz.ntmps226 ?_
 refine qs (qr (oN 1 [] [0] ?_))
 refine oe (nt (qs (qr (oN 4 [(2, vb (x0 != x0))] [] ?_))))
 refine oe (nt (qe ?_))
 obtain rfl := sI h
 exact re [.bool (x0 != x0)]

theorem c_cmp_Compare_int {W : World} {x0 : Int} {x1 : Int} {r : Int} (h : cmp_Compare_int x0 x1 = some r)  :
    Gives0 Tryz.prog 222 #[.int .i64 x0, .int .i64 x1] W (.int .i64 r) := by
 unfold cmp_Compare_int at h
 refine en Tryz.func222 Tryz.ntmps222 ?_
 refine qs (qr (oN 1 [] [0, 1] ?_))
 refine oe (nt (qs (qr (oN 1 [(7, vi x0)] [0, 1] ?_))))
 obtain ⟨t21, h22, h23⟩ := bS h
 refine k0 (fun γ w hs => c_cmp_isNaN_int h22) ?_
 refine oN 1 [(5, vb t21)] [0, 1] ?_
 refine oe (nt (qs (qr (oN 1 [(9, vi x1)] [5, 0, 1] ?_))))
 obtain ⟨t25, h26, h27⟩ := bS h23
 refine k0 (fun γ w hs => c_cmp_isNaN_int h26) ?_
 refine oN 1 [(6, vb t25)] [5, 0, 1] ?_
 refine oe (nt (qs (qs (qr (oN 1 [(11, vb t21)] [6, 0, 1] ?_)))))
 refine oe (nt (cC h27 (fun h33 => ?_) (fun h34 => ?_)))
 · refine qs (qs (qr (oN 1 [(12, vb t25)] [] ?_)))
   refine oe (nt (cC h33 (fun h36 => ?_) (fun h37 => ?_)))
   · refine qs (qr (oN 1 [(4, vi 0)] [] ?_))
     refine oe (nt (qe (nr (nr ?_))))
     obtain rfl := sI h36
     exact re [.int .i64 0]
   refine qk (nt (qs (qr (oN 1 [(4, vi (-1))] [] ?_))))
   refine oe (nt (qe (nr ?_)))
   obtain rfl := sI h37
   exact re [.int .i64 (-1)]
 refine qk (nt (qs (qs (qr (oN 1 [(13, vb t25)] [0, 1] ?_)))))
 refine oe (nt (cC h34 (fun h39 => ?_) (fun h40 => ?_)))
 · refine qs (qr (oN 1 [(4, vi 1)] [] ?_))
   refine oe (nt (qe (nr ?_)))
   obtain rfl := sI h39
   exact re [.int .i64 1]
 refine qk (nt (qs (qs (qr (oN 3 [(16, vb (decide (x0 < x1)))] [0, 1] ?_)))))
 refine oe (nt (cC h40 (fun h42 => ?_) (fun h43 => ?_)))
 · refine qs (qr (oN 1 [(4, vi (-1))] [] ?_))
   refine oe (nt (qe (nr ?_)))
   obtain rfl := sI h42
   exact re [.int .i64 (-1)]
 refine qk (nt (qs (qs (qr (oN 3 [(19, vb (decide (x0 > x1)))] [] ?_)))))
 refine oe (nt (cC h43 (fun h45 => ?_) (fun h46 => ?_)))
 · refine qs (qr (oN 1 [(4, vi 1)] [] ?_))
   refine oe (nt (qe (nr ?_)))
   obtain rfl := sI h45
   exact re [.int .i64 1]
 refine qk (nt (qs (qr (oN 1 [(4, vi 0)] [] ?_))))
 refine oe (nt (qe ?_))
 obtain rfl := sI h46
 exact re [.int .i64 0]

theorem c_impl_FracCmp {W : World} {x0 : Frac} {x1 : Frac} {r : Int} (h : impl_FracCmp x0 x1 = some r)  :
    Gives0 Tryz.prog 210 #[vFrac x0, vFrac x1] W (.int .i64 r) := by
 unfold impl_FracCmp at h
 refine en Tryz.func210 Tryz.ntmps210 ?_
 refine qs (qr (oB 3 [(3, .p 1 0), (2, .p 0 0)] [] [(133, (eFrac x0)), (133, (eFrac x1))] ?_))
 refine oe (nt (qs (qs ?_)))
 obtain ⟨p21, hE22, h23⟩ := bS h
 refine JC_cut (τ := Unit) (fun _ => [(2, .p 0 0), (3, .p 1 0), (12, vb p21)]) (fun _ => [(133, (eFrac x0)), (133, (eFrac x1))]) (fun _ => []) ?_ (fun _ => ?_)
 · refine qr (oN 1 [(5, .v (vFrac x0))] [3, 2] ?_)
   obtain ⟨t24, h25, h26⟩ := bS hE22
   refine k0 (fun γ w hs => c_impl_FracOk h25) ?_
   refine oN 2 [(8, vb (!t24))] [3, 2] ?_
   refine oS 8 h26 (fun h29 => ?_) (fun h30 => ?_)
   · refine oN 4 [(12, vb true)] [3, 2] ?_
     refine oe ?_
     obtain rfl := sI h29
     exact mt () [2, 3, 12] [] 2
   refine oN 1 [(9, .v (vFrac x1))] [8, 3, 2] ?_
   obtain ⟨t31, h32, h33⟩ := bS h30
   refine k0 (fun γ w hs => c_impl_FracOk h32) ?_
   refine oN 2 [(12, vb (!t31))] [3, 2] ?_
   refine oe ?_
   obtain rfl := sI h33
   exact mt () [2, 3, 12] [] 2
 refine nt (cC h23 (fun h36 => ?_) (fun h37 => ?_))
 · refine qs (qr (oN 1 [(4, vi 2)] [] ?_))
   refine oe (nt (qe (nr ?_)))
   obtain rfl := sI h36
   exact re [.int .i64 2]
 refine qk (nt (qs (qr (oN 10 [(22, vi (w64 (x1.Num * x0.Den))), (17, vi (w64 (x0.Num * x1.Den)))] [] ?_))))
 obtain ⟨t38, h39, h40⟩ := bS h37
 refine k0 (fun γ w hs => c_cmp_Compare_int h39) ?_
 refine oN 1 [(4, vi t38)] [] ?_
 refine oe (nt (qe ?_))
 obtain rfl := sI h40
 exact re [.int .i64 t38]

theorem c_impl_FracAdd {W : World} {x0 : Frac} {x1 : Frac} {r : Frac × Bool} (h : impl_FracAdd x0 x1 = some r)  :
    Gives0 Tryz.prog 211 #[vFrac x0, vFrac x1] W (.tuple #[vFrac r.1, .bool r.2]) := by
 unfold impl_FracAdd at h
 refine en Tryz.func211 Tryz.ntmps211 ?_
 refine qs (qr (oB 4 [(4, .p 2 0), (3, .p 1 0), (2, .p 0 0)] [] [(133, (eFrac x0)), (133, (eFrac x1)), (133, (eFrac (Frac.mk 0 0)))] ?_))
 refine oe (nt (qs (qs ?_)))
 obtain ⟨p21, hE22, h23⟩ := bS h
 refine JC_cut (τ := Unit) (fun _ => [(2, .p 0 0), (3, .p 1 0), (4, .p 2 0), (13, vb p21)]) (fun _ => [(133, (eFrac x0)), (133, (eFrac x1)), (133, (eFrac (Frac.mk 0 0)))]) (fun _ => []) ?_ (fun _ => ?_)
 · refine qr (oN 1 [(6, .v (vFrac x0))] [4, 3, 2] ?_)
   obtain ⟨t24, h25, h26⟩ := bS hE22
   refine k0 (fun γ w hs => c_impl_FracOk h25) ?_
   refine oN 2 [(9, vb (!t24))] [4, 3, 2] ?_
   refine oS 9 h26 (fun h29 => ?_) (fun h30 => ?_)
   · refine oN 4 [(13, vb true)] [4, 3, 2] ?_
     refine oe ?_
     obtain rfl := sI h29
     exact mt () [2, 3, 4, 13] [] 3
   refine oN 1 [(10, .v (vFrac x1))] [9, 4, 3, 2] ?_
   obtain ⟨t31, h32, h33⟩ := bS h30
   refine k0 (fun γ w hs => c_impl_FracOk h32) ?_
   refine oN 2 [(13, vb (!t31))] [4, 3, 2] ?_
   refine oe ?_
   obtain rfl := sI h33
   exact mt () [2, 3, 4, 13] [] 3
 refine nt (cC h23 (fun h36 => ?_) (fun h37 => ?_))
 · refine qs (qr (oN 3 [(5, vb false)] [4] ?_))
   refine oe (nt (qe (nr ?_)))
   obtain rfl := sI h36
   exact re [vFrac (Frac.mk 0 0), .bool false]
 refine qk (nt (qs (qr (oN 16 [(30, vi (w64 (x0.Den * x1.Den))), (25, vi (w64 ((w64 (x0.Num * x1.Den)) + (w64 (x1.Num * x0.Den)))))] [4] ?_))))
 obtain ⟨t38, h39, h40⟩ := bS h37
 refine k0 (fun γ w hs => c_impl_reduced h39) ?_
 refine oB 4 [(5, vb t38.2)] [4] [(133, (eFrac x0)), (133, (eFrac x1)), (133, (eFrac t38.1))] ?_
 refine oe (nt (qe ?_))
 obtain rfl := sI h40
 exact re [vFrac t38.1, .bool t38.2]

theorem c_impl_FracSub {W : World} {x0 : Frac} {x1 : Frac} {r : Frac × Bool} (h : impl_FracSub x0 x1 = some r)  :
    Gives0 Tryz.prog 212 #[vFrac x0, vFrac x1] W (.tuple #[vFrac r.1, .bool r.2]) := by
 unfold impl_FracSub at h
 refine en Tryz.func212 Tryz.ntmps212 ?_
 refine qs (qr (oB 4 [(4, .p 2 0), (3, .p 1 0), (2, .p 0 0)] [] [(133, (eFrac x0)), (133, (eFrac x1)), (133, (eFrac (Frac.mk 0 0)))] ?_))
 refine oe (nt (qs (qs ?_)))
 obtain ⟨p21, hE22, h23⟩ := bS h
 refine JC_cut (τ := Unit) (fun _ => [(2, .p 0 0), (3, .p 1 0), (4, .p 2 0), (13, vb p21)]) (fun _ => [(133, (eFrac x0)), (133, (eFrac x1)), (133, (eFrac (Frac.mk 0 0)))]) (fun _ => []) ?_ (fun _ => ?_)
 · refine qr (oN 1 [(6, .v (vFrac x0))] [4, 3, 2] ?_)
   obtain ⟨t24, h25, h26⟩ := bS hE22
   refine k0 (fun γ w hs => c_impl_FracOk h25) ?_
   refine oN 2 [(9, vb (!t24))] [4, 3, 2] ?_
   refine oS 9 h26 (fun h29 => ?_) (fun h30 => ?_)
   · refine oN 4 [(13, vb true)] [4, 3, 2] ?_
     refine oe ?_
     obtain rfl := sI h29
     exact mt () [2, 3, 4, 13] [] 3
   refine oN 1 [(10, .v (vFrac x1))] [9, 4, 3, 2] ?_
   obtain ⟨t31, h32, h33⟩ := bS h30
   refine k0 (fun γ w hs => c_impl_FracOk h32) ?_
   refine oN 2 [(13, vb (!t31))] [4, 3, 2] ?_
   refine oe ?_
   obtain rfl := sI h33
   exact mt () [2, 3, 4, 13] [] 3
 refine nt (cC h23 (fun h36 => ?_) (fun h37 => ?_))
 · refine qs (qr (oN 3 [(5, vb false)] [4] ?_))
   refine oe (nt (qe (nr ?_)))
   obtain rfl := sI h36
   exact re [vFrac (Frac.mk 0 0), .bool false]
 refine qk (nt (qs (qr (oN 16 [(30, vi (w64 (x0.Den * x1.Den))), (25, vi (w64 ((w64 (x0.Num * x1.Den)) - (w64 (x1.Num * x0.Den)))))] [4] ?_))))
 obtain ⟨t38, h39, h40⟩ := bS h37
 refine k0 (fun γ w hs => c_impl_reduced h39) ?_
 refine oB 4 [(5, vb t38.2)] [4] [(133, (eFrac x0)), (133, (eFrac x1)), (133, (eFrac t38.1))] ?_
 refine oe (nt (qe ?_))
 obtain rfl := sI h40
 exact re [vFrac t38.1, .bool t38.2]

theorem c_impl_areFactors {W : World} {x0 : Frac} {x1 : Frac} {r : Bool} (h : impl_areFactors x0 x1 = some r)  :
    Gives0 Tryz.prog 223 #[vFrac x0, vFrac x1] W (.bool r) := by
 unfold impl_areFactors at h
 refine en Tryz.func223 Tryz.ntmps223 ?_
 refine qs (qr (oB 3 [(3, .p 1 0), (2, .p 0 0)] [] [(133, (eFrac x0)), (133, (eFrac x1))] ?_))
 refine oe (nt (qs ?_))
 obtain ⟨p21, hE22, h23⟩ := bS h
 refine JC_cut (τ := Unit) (fun _ => [(4, vb p21)]) (fun _ => [(133, (eFrac x0)), (133, (eFrac x1))]) (fun _ => []) ?_ (fun _ => ?_)
 · refine qr (oN 1 [(5, .v (vFrac x0))] [3, 2] ?_)
   obtain ⟨t24, h25, h26⟩ := bS hE22
   refine k0 (fun γ w hs => c_impl_FracOk h25) ?_
   refine oN 1 [(7, vb t24)] [3, 2] ?_
   refine oS 7 h26 (fun h29 => ?_) (fun h30 => ?_)
   · refine oN 1 [(8, .v (vFrac x1))] [7, 3, 2] ?_
     obtain ⟨t31, h32, h33⟩ := bS h29
     refine k0 (fun γ w hs => c_impl_FracOk h32) ?_
     refine oN 2 [(11, vb t31)] [3, 2] ?_
     refine oS 11 h33 (fun h36 => ?_) (fun h37 => ?_)
     · refine oN 2 [(13, vi x0.Num)] [11, 3] ?_
       obtain ⟨t38, h39, h40⟩ := bS h36
       refine k0 (fun γ w hs => c_impl_within h39) ?_
       refine oN 2 [(16, vb t38)] [3] ?_
       refine oS 16 h40 (fun h43 => ?_) (fun h44 => ?_)
       · refine oN 2 [(18, vi x1.Num)] [16] ?_
         obtain ⟨t45, h46, h47⟩ := bS h43
         refine k0 (fun γ w hs => c_impl_within h46) ?_
         refine oN 2 [(4, vb t45)] [] ?_
         refine oe ?_
         obtain rfl := sI h47
         exact mt () [4] [] 2
       refine oN 5 [(4, vb false)] [] ?_
       refine oe ?_
       obtain rfl := sI h44
       exact mt () [4] [] 2
     refine oN 10 [(4, vb false)] [] ?_
     refine oe ?_
     obtain rfl := sI h37
     exact mt () [4] [] 2
   refine oN 14 [(4, vb false)] [] ?_
   refine oe ?_
   obtain rfl := sI h30
   exact mt () [4] [] 2
 refine nt (qe ?_)
 obtain rfl := sI h23
 exact re [.bool p21]

theorem c_impl_FracMul {W : World} {x0 : Frac} {x1 : Frac} {r : Frac × Bool} (h : impl_FracMul x0 x1 = some r)  :
    Gives0 Tryz.prog 213 #[vFrac x0, vFrac x1] W (.tuple #[vFrac r.1, .bool r.2]) := by
 unfold impl_FracMul at h
 refine en Tryz.func213 Tryz.ntmps213 ?_
 refine qs (qr (oB 4 [(4, .p 2 0), (3, .p 1 0), (2, .p 0 0)] [] [(133, (eFrac x0)), (133, (eFrac x1)), (133, (eFrac (Frac.mk 0 0)))] ?_))
 refine oe (nt (qs (qs (qr (oN 2 [(7, .v (vFrac x1)), (6, .v (vFrac x0))] [4, 3, 2] ?_)))))
 obtain ⟨t21, h22, h23⟩ := bS h
 refine k0 (fun γ w hs => c_impl_areFactors h22) ?_
 refine oN 1 [(9, vb (!t21))] [4, 3, 2] ?_
 refine oe (nt (cC h23 (fun h26 => ?_) (fun h27 => ?_)))
 · refine qs (qr (oN 3 [(5, vb false)] [4] ?_))
   refine oe (nt (qe (nr ?_)))
   obtain rfl := sI h26
   exact re [vFrac (Frac.mk 0 0), .bool false]
 refine qk (nt (qs (qr (oN 10 [(20, vi (w64 (x0.Den * x1.Den))), (15, vi (w64 (x0.Num * x1.Num)))] [4] ?_))))
 obtain ⟨t28, h29, h30⟩ := bS h27
 refine k0 (fun γ w hs => c_impl_reduced h29) ?_
 refine oB 4 [(5, vb t28.2)] [4] [(133, (eFrac x0)), (133, (eFrac x1)), (133, (eFrac t28.1))] ?_
 refine oe (nt (qe ?_))
 obtain rfl := sI h30
 exact re [vFrac t28.1, .bool t28.2]

theorem c_impl_FracDiv {W : World} {x0 : Frac} {x1 : Frac} {r : Frac × Bool} (h : impl_FracDiv x0 x1 = some r)  :
    Gives0 Tryz.prog 214 #[vFrac x0, vFrac x1] W (.tuple #[vFrac r.1, .bool r.2]) := by
 unfold impl_FracDiv at h
 refine en Tryz.func214 Tryz.ntmps214 ?_
 refine qs (qr (oB 4 [(4, .p 2 0), (3, .p 1 0), (2, .p 0 0)] [] [(133, (eFrac x0)), (133, (eFrac x1)), (133, (eFrac (Frac.mk 0 0)))] ?_))
 refine oe (nt (qs (qs ?_)))
 obtain ⟨p21, hE22, h23⟩ := bS h
 refine JC_cut (τ := Unit) (fun _ => [(2, .p 0 0), (3, .p 1 0), (4, .p 2 0), (14, vb p21)]) (fun _ => [(133, (eFrac x0)), (133, (eFrac x1)), (133, (eFrac (Frac.mk 0 0)))]) (fun _ => []) ?_ (fun _ => ?_)
 · refine qr (oN 2 [(7, .v (vFrac x1)), (6, .v (vFrac x0))] [4, 3, 2] ?_)
   obtain ⟨t24, h25, h26⟩ := bS hE22
   refine k0 (fun γ w hs => c_impl_areFactors h25) ?_
   refine oN 2 [(10, vb (!t24))] [4, 3, 2] ?_
   refine oS 10 h26 (fun h29 => ?_) (fun h30 => ?_)
   · refine oN 4 [(14, vb true)] [4, 3, 2] ?_
     refine oe ?_
     obtain rfl := sI h29
     exact mt () [2, 3, 4, 14] [] 3
   refine oN 4 [(14, vb (x1.Num == 0))] [4, 3, 2] ?_
   refine oe ?_
   obtain rfl := sI h30
   exact mt () [2, 3, 4, 14] [] 3
 refine nt (cC h23 (fun h32 => ?_) (fun h33 => ?_))
 · refine qs (qr (oN 3 [(5, vb false)] [4] ?_))
   refine oe (nt (qe (nr ?_)))
   obtain rfl := sI h32
   exact re [vFrac (Frac.mk 0 0), .bool false]
 refine qk (nt (qs (qr (oN 10 [(25, vi (w64 (x0.Den * x1.Num))), (20, vi (w64 (x0.Num * x1.Den)))] [4] ?_))))
 obtain ⟨t34, h35, h36⟩ := bS h33
 refine k0 (fun γ w hs => c_impl_reduced h35) ?_
 refine oB 4 [(5, vb t34.2)] [4] [(133, (eFrac x0)), (133, (eFrac x1)), (133, (eFrac t34.1))] ?_
 refine oe (nt (qe ?_))
 obtain rfl := sI h36
 exact re [vFrac t34.1, .bool t34.2]

theorem c_impl_evalNode {W : World} {x0 : Node} {x1 : List Frac} {a1_0 : Option Addr} {c1_0 : Nat} {x2 : List Frac} {a2_0 : Option Addr} {c2_0 : Nat} {r : Frac × Bool} (h : impl_evalNode x0 x1 x2 = some r) (hv1_0 : SlView W x1 a1_0 c1_0) (hv2_0 : SlView W x2 a2_0 c2_0) :
    Gives0 Tryz.prog 204 #[vNode x0, .slice a1_0 x1.length c1_0, .slice a2_0 x2.length c2_0] W (.tuple #[vFrac r.1, .bool r.2]) := by
 unfold impl_evalNode at h
 refine en Tryz.func204 Tryz.ntmps204 ?_
 refine qs (qr (oB 3 [(6, .p 1 0), (3, .p 0 0)] [1, 2] [(154, (eNode x0)), (133, (eFrac (Frac.mk 0 0)))] ?_))
 refine oe (nt (qs (qs (qr (oN 2 [(12, vi x0.Kind)] [6, 3, 1, 2] ?_)))))
 refine oe (nt (qb (qs (qr (oN 2 [(13, vb (x0.Kind == 1))] [12, 6, 3, 1, 2] ?_)))))
 refine oe (nt (cC h (fun h28 => ?_) (fun h29 => ?_)))
 · refine qs (qr (oB 4 [(7, vb true)] [6] [(154, (eNode x0)), (133, (eFrac x0.Value))] ?_))
   refine oe (nt (qe (br (nr ?_))))
   obtain rfl := sI h28
   exact re [vFrac x0.Value, .bool true]
 refine qs (qr (oN 2 [(17, vb (x0.Kind == 2))] [6, 3, 1, 2] ?_))
 refine oe (nt (cC h29 (fun h34 => ?_) (fun h35 => ?_)))
 · refine qs (qr (oN 3 [(21, vi x0.A), (19, .v (.slice a2_0 x2.length c2_0))] [6] ?_))
   obtain ⟨x36, hx37, h38⟩ := bS h34
   refine oi 2 (fun γ w hs => (hv2_0.kept hs.kept)) hx37 ?_
   refine ol 133 0 (vFrac x36) (fun γ w hs => (hv2_0.kept hs.kept).flatq hx37) ?_
   refine oB 2 [(7, vb true)] [6] [(154, (eNode x0)), (133, (eFrac x36))] ?_
   refine oe (nt (qe (br (nr ?_))))
   obtain rfl := sI h38
   exact re [vFrac x36, .bool true]
 refine qk (bn (nt (qs ?_)))
 obtain ⟨x39, hx40, h41⟩ := bS h35
 obtain ⟨x42, hx43, h44⟩ := bS h41
 refine JC_cut (τ := Unit) (fun _ => [(9, .p 3 0), (8, .p 2 0), (6, .p 1 0), (3, .p 0 0), (1, .v (.slice a1_0 x1.length c1_0))]) (fun _ => [(154, (eNode x0)), (133, (eFrac (Frac.mk 0 0))), (133, (eFrac x39)), (133, (eFrac x42))]) (fun _ => []) ?_ (fun _ => ?_)
 · refine jw [6, 3, 1] [] ?_
   refine JC_heldN (ks := [0, 1]) (Rk := []) 14 (by kernel_rfl) (by kernel_rfl) ?_
   refine htq 0 (.v (.slice a1_0 x1.length c1_0)) [] ?_
   refine htq 1 (.p 0 1) [] ?_
   refine htq 2 (vi x0.A) [] ?_
   refine hk [26, 24, 6, 3, 1] ?_
   refine ht 3 (.q a1_0 (Int.toNat x0.A * 2)) [] (index_held (d := a1_0) (m := x1.length) (j := x0.A) (s := 2) (by kernel_rfl) (fun γ0 w hs => (hv1_0.kept hs.kept)) rfl hx40) ?_
   refine hk [27, 6, 3, 1] ?_
   refine ht 4 (.v (vFrac x39)) [] (loadq_held (t := 133) (d := a1_0) (Int.toNat x0.A * 2) 0 (by kernel_rfl) (cs := (eFrac x39)) (v := vFrac x39) (fun γ0 w hs => (hv1_0.kept hs.kept).flatq hx40) (by kernel_rfl)) ?_
   refine hk [28, 6, 3, 1] ?_
   refine htq 5 (.v (.slice a1_0 x1.length c1_0)) [] ?_
   refine htq 6 (.p 0 2) [] ?_
   refine htq 7 (vi x0.B) [] ?_
   refine hk [31, 29, 28, 6, 3, 1] ?_
   refine ht 8 (.q a1_0 (Int.toNat x0.B * 2)) [] (index_held (d := a1_0) (m := x1.length) (j := x0.B) (s := 2) (by kernel_rfl) (fun γ0 w hs => (hv1_0.kept hs.kept)) rfl hx43) ?_
   refine hk [32, 28, 6, 3, 1] ?_
   refine ht 9 (.v (vFrac x42)) [] (loadq_held (t := 133) (d := a1_0) (Int.toNat x0.B * 2) 0 (by kernel_rfl) (cs := (eFrac x42)) (v := vFrac x42) (fun γ0 w hs => (hv1_0.kept hs.kept).flatq hx43) (by kernel_rfl)) ?_
   refine hk [33, 28, 6, 3, 1] ?_
   refine ha2 10 11 ?_ ?_
   · refine hi (fun γ0 δ hm => ?_)
     refine gs [(8, .p 2 0), (33, .v (vFrac x42)), (28, .v (vFrac x39)), (6, .p 1 0), (3, .p 0 0), (1, .v (.slice a1_0 x1.length c1_0))] [(154, (eNode x0)), (133, (eFrac (Frac.mk 0 0))), (133, (eFrac (Frac.mk 0 0)))] (fun δ2 => ?_)
     refine gd hm [8, 33, 28, 6, 3, 1] [] ?_
     refine ha1 11 ?_
     refine hi (fun γ0 δ hm => ?_)
     refine gs [(9, .p 3 0), (8, .p 2 0), (33, .v (vFrac x42)), (28, .v (vFrac x39)), (6, .p 1 0), (3, .p 0 0), (1, .v (.slice a1_0 x1.length c1_0))] [(154, (eNode x0)), (133, (eFrac (Frac.mk 0 0))), (133, (eFrac (Frac.mk 0 0))), (133, (eFrac (Frac.mk 0 0)))] (fun δ2 => ?_)
     refine gd hm [9, 8, 33, 28, 6, 3, 1] [] ?_
     refine ha1 12 ?_
     refine hi (fun γ0 δ hm => ?_)
     refine gs [(9, .p 3 0), (8, .p 2 0), (33, .v (vFrac x42)), (28, .v (vFrac x39)), (6, .p 1 0), (3, .p 0 0), (1, .v (.slice a1_0 x1.length c1_0))] [(154, (eNode x0)), (133, (eFrac (Frac.mk 0 0))), (133, (eFrac x39)), (133, (eFrac (Frac.mk 0 0)))] (fun δ2 => ?_)
     refine gd hm [9, 8, 33, 6, 3, 1] [] ?_
     refine ha1 13 ?_
     refine hi (fun γ0 δ hm => ?_)
     refine gs [(9, .p 3 0), (8, .p 2 0), (33, .v (vFrac x42)), (6, .p 1 0), (3, .p 0 0), (1, .v (.slice a1_0 x1.length c1_0))] [(154, (eNode x0)), (133, (eFrac (Frac.mk 0 0))), (133, (eFrac x39)), (133, (eFrac x42))] (fun δ2 => ?_)
     refine gd hm [9, 8, 6, 3, 1] [] ?_
     exact hd () [9, 8, 6, 3, 1] [] 4
   · refine hi (fun γ0 δ hm => ?_)
     refine gs [(9, .p 2 0), (33, .v (vFrac x42)), (28, .v (vFrac x39)), (6, .p 1 0), (3, .p 0 0), (1, .v (.slice a1_0 x1.length c1_0))] [(154, (eNode x0)), (133, (eFrac (Frac.mk 0 0))), (133, (eFrac (Frac.mk 0 0)))] (fun δ2 => ?_)
     refine gd hm [9, 33, 28, 6, 3, 1] [] ?_
     refine ha1 10 ?_
     refine hi (fun γ0 δ hm => ?_)
     refine gs [(8, .p 3 0), (9, .p 2 0), (33, .v (vFrac x42)), (28, .v (vFrac x39)), (6, .p 1 0), (3, .p 0 0), (1, .v (.slice a1_0 x1.length c1_0))] [(154, (eNode x0)), (133, (eFrac (Frac.mk 0 0))), (133, (eFrac (Frac.mk 0 0))), (133, (eFrac (Frac.mk 0 0)))] (fun δ2 => ?_)
     refine gd hm [8, 9, 33, 28, 6, 3, 1] [] ?_
     refine ha1 12 ?_
     refine hi (fun γ0 δ hm => ?_)
     refine gs [(8, .p 3 0), (9, .p 2 0), (33, .v (vFrac x42)), (28, .v (vFrac x39)), (6, .p 1 0), (3, .p 0 0), (1, .v (.slice a1_0 x1.length c1_0))] [(154, (eNode x0)), (133, (eFrac (Frac.mk 0 0))), (133, (eFrac (Frac.mk 0 0))), (133, (eFrac x39))] (fun δ2 => ?_)
     refine gd hm [8, 9, 33, 6, 3, 1] [] ?_
     refine ha1 13 ?_
     refine hi (fun γ0 δ hm => ?_)
     refine gs [(8, .p 3 0), (9, .p 2 0), (33, .v (vFrac x42)), (6, .p 1 0), (3, .p 0 0), (1, .v (.slice a1_0 x1.length c1_0))] [(154, (eNode x0)), (133, (eFrac (Frac.mk 0 0))), (133, (eFrac x42)), (133, (eFrac x39))] (fun δ2 => ?_)
     refine gd hm [8, 9, 6, 3, 1] [] ?_
     exact JH_doneP (by kernel_rfl) () [9, 8, 6, 3, 1] [] 4 [0, 1, 3, 2] [0, 1, 3, 2] (by kernel_rfl) (by kernel_rfl) (by kernel_rfl) (by kernel_rfl) (by kernel_rfl)
 refine nt (qs (qr (oN 2 [(35, .v (vFrac x42)), (34, .v (vFrac x39))] [9, 8, 6, 3, 1] ?_)))
 obtain ⟨t46, h47, h48⟩ := bS h44
 refine k0 (fun γ w hs => c_impl_FracCmp h47) ?_
 refine oN 2 [(10, vb (decide (t46 ≤ 0)))] [9, 8, 6, 3, 1] ?_
 refine oe (nt (qs (qs (qr (oN 2 [(39, vi x0.Kind)] [10, 9, 8, 6, 3, 1] ?_)))))
 refine oe (nt (qb (qs (qr (oN 2 [(40, vb (x0.Kind == 3))] [39, 10, 9, 8, 6, 3, 1] ?_)))))
 refine oe (nt ?_)
 obtain ⟨k94, hk95, h103⟩ := jS h48
 refine JC_cutP (τ := (Unit) × (Unit)) (fun y => k94 y.1 = some r) (fun y93 => [(9, .p 3 0), (8, .p 2 0), (6, .p 1 0), (3, .p 0 0), (1, .v (.slice a1_0 x1.length c1_0))]) (fun y93 => [(154, (eNode x0)), (133, (eFrac (Frac.mk 0 0))), (133, (eFrac x39)), (133, (eFrac x42))]) (fun y93 => []) ?_ (fun y93 h96p => ?_)
 · refine cC h103 (fun h105 => ?_) (fun h106 => ?_)
   · refine qs (qr (oN 2 [(43, .v (vFrac x42)), (42, .v (vFrac x39))] [6] ?_))
     obtain ⟨t107, h108, h109⟩ := bS h105
     refine k0 (fun γ w hs => c_impl_FracAdd h108) ?_
     refine oB 4 [(7, vb t107.2)] [6] [(154, (eNode x0)), (133, (eFrac t107.1)), (133, (eFrac x39)), (133, (eFrac x42))] ?_
     refine oe (nt (qe (nr (br (nr ?_)))))
     obtain rfl := sI h109
     exact re [vFrac t107.1, .bool t107.2]
   refine qs (qr (oN 2 [(47, vb (x0.Kind == 4))] [39, 10, 9, 8, 6, 3, 1] ?_))
   refine oe (nt (cC h106 (fun h112 => ?_) (fun h113 => ?_)))
   · refine qs (qr (oN 2 [(50, .v (vFrac x42)), (49, .v (vFrac x39))] [6] ?_))
     obtain ⟨t114, h115, h116⟩ := bS h112
     refine k0 (fun γ w hs => c_impl_FracSub h115) ?_
     refine oB 4 [(7, vb t114.2)] [6] [(154, (eNode x0)), (133, (eFrac t114.1)), (133, (eFrac x39)), (133, (eFrac x42))] ?_
     refine oe (nt (qe (nr (br (nr ?_)))))
     obtain rfl := sI h116
     exact re [vFrac t114.1, .bool t114.2]
   refine qs (qr (oN 2 [(54, vb (x0.Kind == 5))] [39, 10, 9, 8, 6, 3, 1] ?_))
   refine oe (nt (cC h113 (fun h119 => ?_) (fun h120 => ?_)))
   · refine qs (qr (oN 2 [(57, .v (vFrac x42)), (56, .v (vFrac x39))] [6] ?_))
     obtain ⟨t121, h122, h123⟩ := bS h119
     refine k0 (fun γ w hs => c_impl_FracMul h122) ?_
     refine oB 4 [(7, vb t121.2)] [6] [(154, (eNode x0)), (133, (eFrac t121.1)), (133, (eFrac x39)), (133, (eFrac x42))] ?_
     refine oe (nt (qe (nr (br (nr ?_)))))
     obtain rfl := sI h123
     exact re [vFrac t121.1, .bool t121.2]
   refine qs (qr (oN 2 [(61, vb (x0.Kind == 6))] [39, 10, 9, 8, 6, 3, 1] ?_))
   refine oe (nt (cC h120 (fun h126 => ?_) (fun h127 => ?_)))
   · refine qs (qr (oN 2 [(64, .v (vFrac x42)), (63, .v (vFrac x39))] [6] ?_))
     obtain ⟨t128, h129, h130⟩ := bS h126
     refine k0 (fun γ w hs => c_impl_FracDiv h129) ?_
     refine oB 4 [(7, vb t128.2)] [6] [(154, (eNode x0)), (133, (eFrac t128.1)), (133, (eFrac x39)), (133, (eFrac x42))] ?_
     refine oe (nt (qe (nr (br (nr ?_)))))
     obtain rfl := sI h130
     exact re [vFrac t128.1, .bool t128.2]
   refine qs (qs (qr (oN 2 [(68, vb (x0.Kind == 7))] [39, 10, 9, 8, 6, 3, 1] ?_)))
   refine oe (nt ?_)
   obtain ⟨k135, hk136, h144⟩ := jS h127
   refine JC_cutP (τ := (Bool) × (Unit)) (fun y => k135 y.1 = some r) (fun y134 => [(68, vb y134.1), (10, vb (decide (t46 ≤ 0))), (9, .p 3 0), (8, .p 2 0), (6, .p 1 0), (3, .p 0 0), (1, .v (.slice a1_0 x1.length c1_0))]) (fun y134 => [(154, (eNode x0)), (133, (eFrac (Frac.mk 0 0))), (133, (eFrac x39)), (133, (eFrac x42))]) (fun y134 => []) ?_ (fun y134 h137p => ?_)
   · refine cC h144 (fun h146 => ?_) (fun h147 => ?_)
     · exact qk (mp (x0.Kind == 7, ()) h146 [68, 10, 9, 8, 6, 3, 1] [] 4)
     refine qr (oN 2 [(68, vb (x0.Kind == 8))] [10, 9, 8, 6, 3, 1] ?_)
     exact oe (mp (x0.Kind == 8, ()) h147 [68, 10, 9, 8, 6, 3, 1] [] 4)
   have h137 := (congrFun hk136 _).symm.trans h137p
   refine nt (cC h137 (fun h139 => ?_) (fun h140 => ?_))
   · refine qs (qs (qr (oN 5 [(75, vb ((decide (t46 ≤ 0)) == (x0.Kind == 7)))] [9, 8, 6] ?_)))
     refine oe (nt (cC h139 (fun h142 => ?_) (fun h143 => ?_)))
     · refine qs (qr (oB 3 [(7, vb true)] [6] [(154, (eNode x0)), (133, (eFrac x39)), (133, (eFrac x39)), (133, (eFrac x42))] ?_))
       refine oe (nt (qe (nr (nr (br (nr ?_))))))
       obtain rfl := sI h142
       exact re [vFrac x39, .bool true]
     refine qk (nt (qs (qr (oB 3 [(7, vb true)] [6] [(154, (eNode x0)), (133, (eFrac x42)), (133, (eFrac x39)), (133, (eFrac x42))] ?_))))
     refine oe (nt (qe (nr (br (nr ?_)))))
     obtain rfl := sI h143
     exact re [vFrac x42, .bool true]
   exact qk (mp ((), ()) h140 [9, 8, 6, 3, 1] [] 4)
 have h96 := (congrFun hk95 _).symm.trans h96p
 refine bn (nt (qs (qs (qr (oN 3 [(80, vb (decide (x39.Num > 0)))] [9, 6, 3, 1] ?_)))))
 refine oe (nt (cC h96 (fun h98 => ?_) (fun h99 => ?_)))
 · refine qs (qr (oB 3 [(7, vb true)] [6] [(154, (eNode x0)), (133, (eFrac x42)), (133, (eFrac x39)), (133, (eFrac x42))] ?_))
   refine oe (nt (qe (nr ?_)))
   obtain rfl := sI h98
   exact re [vFrac x42, .bool true]
 refine qk (nt (qs (qr (oN 3 [(84, vi x0.C), (82, .v (.slice a1_0 x1.length c1_0))] [6] ?_))))
 obtain ⟨x100, hx101, h102⟩ := bS h99
 refine oi 2 (fun γ w hs => (hv1_0.kept hs.kept)) hx101 ?_
 refine ol 133 0 (vFrac x100) (fun γ w hs => (hv1_0.kept hs.kept).flatq hx101) ?_
 refine oB 2 [(7, vb true)] [6] [(154, (eNode x0)), (133, (eFrac x100)), (133, (eFrac x39)), (133, (eFrac x42))] ?_
 refine oe (nt (qe ?_))
 obtain rfl := sI h102
 exact re [vFrac x100, .bool true]

theorem c_impl_EvalAll {W : World} {x0 : List Node} {a0_0 : Option Addr} {c0_0 : Nat} {x1 : List Frac} {a1_0 : Option Addr} {c1_0 : Nat} {r : (List Frac) × Bool} (h : impl_EvalAll x0 x1 = some r) (hv0_0 : SlView W x0 a0_0 c0_0) (hv1_0 : SlView W x1 a1_0 c1_0) :
    Gives Tryz.prog 191 #[.slice a0_0 x0.length c0_0, .slice a1_0 x1.length c1_0] W (fun y : AC => .tuple #[.slice y.1 r.1.length y.2, .bool r.2]) (fun y => [SlRes 133 r.1 y.1 y.2]) := by
 unfold impl_EvalAll at h
 refine en Tryz.func191 Tryz.ntmps191 ?_
 refine qs (qr (oN 2 [] [0, 1] ?_))
 refine oe (nt (qs (qs ?_)))
 obtain ⟨p21, hE22, h23⟩ := bS h
 refine JC_cut (τ := Unit) (fun _ => [(0, .v (.slice a0_0 x0.length c0_0)), (1, .v (.slice a1_0 x1.length c1_0)), (22, vb p21)]) (fun _ => []) (fun _ => []) ?_ (fun _ => ?_)
 · refine qr (oN 1 [(11, .v (.slice a0_0 x0.length c0_0))] [0, 1] ?_)
   obtain ⟨t24, h25, h26⟩ := bS hE22
   refine k0 (fun γ w hs => c_impl_FormulaOk h25 (hv0_0.kept hs.kept)) ?_
   refine oN 2 [(14, vb (!t24))] [0, 1] ?_
   refine oS 14 h26 (fun h29 => ?_) (fun h30 => ?_)
   · refine oN 8 [(22, vb true)] [0, 1] ?_
     refine oe ?_
     obtain rfl := sI h29
     exact mt () [0, 1, 22] [] 0
   refine oN 5 [(19, vb ((x1.length : Int) != 8))] [0, 1] ?_
   refine oS 19 h30 (fun h32 => ?_) (fun h33 => ?_)
   · refine oN 3 [(22, vb true)] [0, 1] ?_
     refine oe ?_
     obtain rfl := sI h32
     exact mt () [0, 1, 22] [] 0
   refine oN 1 [(20, .v (.slice a1_0 x1.length c1_0))] [19, 0, 1] ?_
   obtain ⟨t34, h35, h36⟩ := bS h33
   refine k0 (fun γ w hs => c_slices_ContainsFunc_Frac__impl_EvalAll_1 h35 (hv1_0.kept hs.kept)) ?_
   refine oN 1 [(22, vb t34)] [0, 1] ?_
   refine oe ?_
   obtain rfl := sI h36
   exact mt () [0, 1, 22] [] 0
 refine nt (cC h23 (fun h39 => ?_) (fun h40 => ?_))
 · refine qs (qr (oN 2 [(5, vb false), (4, .v (.slice none 0 0))] [] ?_))
   refine oe (nt (qe (nr (JE_addnil 133 (List.nil (α := Frac)) rfl ?_))))
   refine rt [.slice none 0 0, .bool false] (fun γ w hs => ?_)
   rw [← sI h39]
   exact ⟨(none, 0), rfl, hs.kept.toBelow, (hs.takeR (is := [0]) rfl).fresh⟩
 refine qk (nt (qs (qr (ob [] [] 133 0 [] ([] : List Frac) (own_flat (by kernel_rfl)) (fun y41 => ?_)))))
 refine oN 1 [(6, .v (.slice y41.1 ([] : List Frac).length y41.2))] [0, 1] ?_
 refine oe (nt (qs (qs (qr (oN 3 [(26, vi 0), (25, vi (x0.length : Int)), (24, .v (.slice a0_0 x0.length c0_0))] [6, 1] ?_)))))
 refine oe (nt ?_)
 obtain ⟨r46, hL47, h48⟩ := bS h40
 obtain ⟨k49, hk50, h48⟩ := brkS h48
 refine JC_cutP (τ := ((List Frac)) × (AC)) (fun y => k49 y.1 = some r) (fun y54 => [(6, .v (.slice y54.2.1 y54.1.length y54.2.2))]) (fun y54 => []) (fun y54 => [SlRes 133 y54.1 y54.2.1 y54.2.2]) ?_ (fun y54 h55p => ?_)
 · refine qb (lp AC hL47 (fun s43 y44 => [(26, vi s43.1), (25, vi (x0.length : Int)), (24, .v (.slice a0_0 x0.length c0_0)), (6, .v (.slice y44.1 s43.2.length y44.2)), (1, .v (.slice a1_0 x1.length c1_0))]) (fun s43 y44 => []) (fun s43 y44 => [SlRes 133 s43.2 y44.1 y44.2]) (y41.1, y41.2) [26, 25, 24, 6, 1] [0] 0 (fun s43 y44 t45 h51 hd52 => ?_))
   refine qs (qr (oN 1 [(27, vb (decide (s43.1 < (x0.length : Int))))] [26, 25, 24, 6, 1] ?_))
   refine oe (nt (qs (cC h51 (fun h57 => ?_) (fun h58 => ?_))))
   · refine qk (nt (qs (qb (qs (qr ?_)))))
     obtain ⟨x59, hx60, h61⟩ := bS h57
     refine oi 6 (fun γ w hs => (hv0_0.kept hs.kept)) hx60 ?_
     refine ol 154 0 (vNode x59) (fun γ w hs => (hv0_0.kept hs.kept).flatq hx60) ?_
     refine oB 2 [(8, .p 0 0)] [26, 25, 24, 6, 1] [(154, (eNode x59))] ?_
     refine oe (nt (qs (qr (oN 3 [(33, .v (.slice a1_0 x1.length c1_0)), (32, .v (.slice y44.1 s43.2.length y44.2)), (31, .v (vNode x59))] [26, 25, 24, 6, 1] ?_))))
     obtain ⟨t62, h63, h64⟩ := bS h61
     refine k0 (fun γ w hs => c_impl_evalNode h63 (hs.view 0 rfl) (hv1_0.kept hs.kept)) ?_
     refine oB 6 [(10, vb t62.2), (9, .p 1 0)] [26, 25, 24, 6, 1] [(154, (eNode x59)), (133, (eFrac t62.1))] ?_
     refine oe (nt (qs (qs (qr (oN 2 [(38, vb (!t62.2))] [9, 26, 25, 24, 6, 1] ?_)))))
     refine oe (nt (cC h64 (fun h67 => ?_) (fun h68 => ?_)))
     · refine qs (qr (oN 2 [(5, vb false), (4, .v (.slice none 0 0))] [] ?_))
       refine oe (nt (qe (nr (br (nr (nr ?_))))))
       have h69 := leafR hd52 h67 h48
       refine br (nr (nr (JE_addnil 133 (List.nil (α := Frac)) rfl ?_)))
       refine rt [.slice none 0 0, .bool false] (fun γ w hs => ?_)
       rw [← sI h69]
       exact ⟨(none, 0), rfl, hs.kept.toBelow, (hs.takeR (is := [0]) rfl).fresh⟩
     refine qk (nt (qr (oN 2 [(40, .v (vFrac t62.1)), (39, .v (.slice y44.1 s43.2.length y44.2))] [26, 25, 24, 1] ?_)))
     refine ob [] [SlRes 133 s43.2 y44.1 y44.2] 133 1 [.int .i64 t62.1.Num, .int .i64 t62.1.Den] ([t62.1] : List Frac) (own_flat (by kernel_rfl)) (fun y70 => ?_)
     refine or_ [1, 0] ?_
     obtain ⟨l73, hm74, h75⟩ := bS h68
     refine oa 128 y70.2 Tryz.t133 (vFrac (Frac.mk 0 0)) (fun γ w hs => ⟨y70.2, (hs.view 1 rfl)⟩) hm74 (fun y72 => ?_)
     refine oN 1 [(6, .v (.slice y72.1 l73.length y72.2))] [26, 25, 24, 1] ?_
     refine oe (bn (nt (qr (oN 2 [(26, vi (w64 (s43.1 + 1)))] [6, 25, 24, 1] ?_))))
     exact oe (ct h75 (y72.1, y72.2) [26, 25, 24, 6, 1] [0] 0)
   refine qx (nx (nx (bh ?_)))
   have h76 := leafB hd52 h58 h48
   exact mp (s43.2, (y44.1, y44.2)) h76 [6] [0] 0
 have h55 := (congrFun hk50 _).symm.trans h55p
 refine nt (qs (qr (oN 3 [(5, vb true), (4, .v (.slice y54.2.1 y54.1.length y54.2.2))] [] ?_)))
 refine oe (nt (qe (rt [.slice y54.2.1 y54.1.length y54.2.2, .bool true] (fun γ w hs => ?_))))
 rw [← sI h55]
 exact ⟨y54.2, rfl, hs.kept.toBelow, (hs.takeR (is := [0]) rfl).fresh⟩

theorem c_impl_Eval {W : World} {x0 : List Node} {a0_0 : Option Addr} {c0_0 : Nat} {x1 : List Frac} {a1_0 : Option Addr} {c1_0 : Nat} {r : Frac × Bool} (h : impl_Eval x0 x1 = some r) (hv0_0 : SlView W x0 a0_0 c0_0) (hv1_0 : SlView W x1 a1_0 c1_0) :
    Gives0 Tryz.prog 152 #[.slice a0_0 x0.length c0_0, .slice a1_0 x1.length c1_0] W (.tuple #[vFrac r.1, .bool r.2]) := by
 unfold impl_Eval at h
 refine en Tryz.func152 Tryz.ntmps152 ?_
 refine qs (qr (oB 2 [(4, .p 0 0)] [0, 1] [(133, (eFrac (Frac.mk 0 0)))] ?_))
 refine oe (nt (qs (qr (oN 2 [(10, .v (.slice a1_0 x1.length c1_0)), (9, .v (.slice a0_0 x0.length c0_0))] [4] ?_))))
 obtain ⟨t21, h22, h23⟩ := bS h
 refine k1 (fun γ w hs => c_impl_EvalAll h22 (hv0_0.kept hs.kept) (hv1_0.kept hs.kept)) (fun y24 => ?_)
 refine oN 5 [(7, vb t21.2), (6, .v (.slice y24.1 t21.1.length y24.2))] [4] ?_
 refine oe (nt (qs (qs (qr (oN 2 [(15, vb (!t21.2))] [6, 4] ?_)))))
 refine oe (nt (cC h23 (fun h26 => ?_) (fun h27 => ?_)))
 · refine qs (qr (oN 3 [(5, vb false)] [4] ?_))
   refine oe (nt (qe (nr ?_)))
   obtain rfl := sI h26
   exact re [vFrac (Frac.mk 0 0), .bool false]
 refine qk (nt (qs (qr (oN 4 [(20, vi (w64 ((t21.1.length : Int) - 1))), (17, .v (.slice y24.1 t21.1.length y24.2))] [4] ?_))))
 obtain ⟨x28, hx29, h30⟩ := bS h27
 refine oi 2 (fun γ w hs => (hs.view 0 rfl)) hx29 ?_
 refine ol 133 0 (vFrac x28) (fun γ w hs => (hs.view 0 rfl).flatq hx29) ?_
 refine oB 2 [(5, vb true)] [4] [(133, (eFrac x28))] ?_
 refine oe (nt (qe ?_))
 obtain rfl := sI h30
 exact re [vFrac x28, .bool true]

theorem c_impl_floorDiv {W : World} {x0 : Int} {x1 : Int} {r : Int} (h : impl_floorDiv x0 x1 = some r)  :
    Gives0 Tryz.prog 192 #[.int .i64 x0, .int .i64 x1] W (.int .i64 r) := by
 unfold impl_floorDiv at h
 refine en Tryz.func192 Tryz.ntmps192 ?_
 refine qs (qr (oN 1 [] [0, 1] ?_))
 refine oe (nt (qs (qr (oN 2 [(7, vi x1), (6, vi x0)] [0, 1] ?_))))
 obtain ⟨u23, hz22, h21⟩ := bS h
 refine JO_div rfl (by kernel_rfl) (op := .quo) (k := .i64) (x := x0) (y := x1) (by kernel_rfl) (nz_some hz22) rfl ?_
 refine oN 1 [(5, vi (w64 (Int.tdiv x0 x1)))] [0, 1] ?_
 refine oe (nt (qs (qs (qr (oN 2 [(10, vi x1), (9, vi x0)] [5] ?_)))))
 obtain ⟨u26, hz25, h24⟩ := bS h21
 refine JO_div rfl (by kernel_rfl) (op := .rem) (k := .i64) (x := x0) (y := x1) (by kernel_rfl) (nz_some hz25) rfl ?_
 refine oN 1 [(12, vb (decide ((Int.tmod x0 x1) < 0)))] [5] ?_
 refine oe (nt ?_)
 obtain ⟨k30, hk31, h33⟩ := jS h24
 refine JC_cutP (τ := (Int) × (Unit)) (fun y => k30 y.1 = some r) (fun y29 => [(5, vi y29.1)]) (fun y29 => []) (fun y29 => []) ?_ (fun y29 h32p => ?_)
 · refine cC h33 (fun h35 => ?_) (fun h36 => ?_)
   · refine qr (oN 3 [(5, vi (w64 ((w64 (Int.tdiv x0 x1)) - 1)))] [] ?_)
     exact oe (mp (w64 ((w64 (Int.tdiv x0 x1)) - 1), ()) h35 [5] [] 0)
   exact qk (mp (w64 (Int.tdiv x0 x1), ()) h36 [5] [] 0)
 have h32 := (congrFun hk31 _).symm.trans h32p
 refine nt (qs (qr (oN 2 [(4, vi y29.1)] [] ?_)))
 refine oe (nt (qe ?_))
 obtain rfl := sI h32
 exact re [.int .i64 y29.1]

theorem c_impl_RoundFrac {W : World} {x0 : Frac} {x1 : Int} {r : Int × Bool} (h : impl_RoundFrac x0 x1 = some r)  :
    Gives0 Tryz.prog 153 #[vFrac x0, .int .i64 x1] W (.tuple #[.int .i64 r.1, .bool r.2]) := by
 unfold impl_RoundFrac at h
 refine en Tryz.func153 Tryz.ntmps153 ?_
 refine qs (qr (oB 3 [(2, .p 0 0)] [1] [(133, (eFrac x0))] ?_))
 refine oe (nt (qs (qs ?_)))
 obtain ⟨p21, hE22, h23⟩ := bS h
 refine JC_cut (τ := Unit) (fun _ => [(1, vi x1), (2, .p 0 0), (16, vb p21)]) (fun _ => [(133, (eFrac x0))]) (fun _ => []) ?_ (fun _ => ?_)
 · refine qr (oN 1 [(9, .v (vFrac x0))] [2, 1] ?_)
   obtain ⟨t24, h25, h26⟩ := bS hE22
   refine k0 (fun γ w hs => c_impl_FracOk h25) ?_
   refine oN 2 [(12, vb (!t24))] [2, 1] ?_
   refine oS 12 h26 (fun h29 => ?_) (fun h30 => ?_)
   · refine oN 4 [(16, vb true)] [2, 1] ?_
     refine oe ?_
     obtain rfl := sI h29
     exact mt () [1, 2, 16] [] 1
   refine oN 1 [(13, vi x1)] [12, 2, 1] ?_
   obtain ⟨t31, h32, h33⟩ := bS h30
   refine k0 (fun γ w hs => c_impl_within h32) ?_
   refine oN 2 [(16, vb (!t31))] [2, 1] ?_
   refine oe ?_
   obtain rfl := sI h33
   exact mt () [1, 2, 16] [] 1
 refine nt (cC h23 (fun h36 => ?_) (fun h37 => ?_))
 · refine qs (qr (oN 2 [(5, vb false), (4, vi 0)] [] ?_))
   refine oe (nt (qe (nr ?_)))
   obtain rfl := sI h36
   exact re [.int .i64 0, .bool false]
 refine qk (nt (qs (qr (oN 4 [(20, vi x0.Den), (18, vi x0.Num)] [1, 2] ?_))))
 obtain ⟨t38, h39, h40⟩ := bS h37
 refine k0 (fun γ w hs => c_impl_floorDiv h39) ?_
 refine oN 1 [(6, vi t38)] [1, 2] ?_
 refine oe (nt (qs (qr (oN 8 [(7, vi (w64 (x0.Num - (w64 (t38 * x0.Den)))))] [6, 1, 2] ?_))))
 refine oe (nt (qs (qr (oN 1 [(8, vb false)] [7, 6, 1, 2] ?_))))
 refine oe (nt (qs (qs (qr (oN 1 [(29, vi x1)] [8, 7, 6, 2] ?_)))))
 refine oe (nt (qb (qs (qr (oN 2 [(30, vb (x1 == 2))] [29, 8, 7, 6, 2] ?_)))))
 refine oe (nt ?_)
 obtain ⟨k60, hk61, h73⟩ := jS h40
 refine JC_cutP (τ := (Bool) × (Unit)) (fun y => k60 y.1 = some r) (fun y59 => [(8, vb y59.1), (6, vi t38)]) (fun y59 => [(133, (eFrac x0))]) (fun y59 => []) ?_ (fun y59 h62p => ?_)
 · refine cC h73 (fun h75 => ?_) (fun h76 => ?_)
   · refine qr (oN 3 [(8, vb (decide ((w64 (x0.Num - (w64 (t38 * x0.Den)))) > 0)))] [6] ?_)
     exact oe (mp (decide ((w64 (x0.Num - (w64 (t38 * x0.Den)))) > 0), ()) h75 [8, 6] [] 1)
   refine qs (qr (oN 2 [(34, vb (x1 == 3))] [29, 8, 7, 6, 2] ?_))
   refine oe (nt (cC h76 (fun h78 => ?_) (fun h79 => ?_)))
   · refine qr (oN 6 [(8, vb (decide ((w64 (2 * (w64 (x0.Num - (w64 (t38 * x0.Den)))))) ≥ x0.Den)))] [6] ?_)
     exact oe (mp (decide ((w64 (2 * (w64 (x0.Num - (w64 (t38 * x0.Den)))))) ≥ x0.Den), ()) h78 [8, 6] [] 1)
   refine qs (qr (oN 2 [(41, vb (x1 == 4))] [8, 7, 6, 2] ?_))
   refine oe (nt (cC h79 (fun h81 => ?_) (fun h82 => ?_)))
   · obtain ⟨p83, hE84, h85⟩ := bS h81
     refine JC_cut (τ := Unit) (fun _ => [(6, vi t38), (8, vb p83)]) (fun _ => [(133, (eFrac x0))]) (fun _ => []) ?_ (fun _ => ?_)
     · refine qr (oN 6 [(48, vb (decide ((w64 (2 * (w64 (x0.Num - (w64 (t38 * x0.Den)))))) > x0.Den)))] [7, 6, 2] ?_)
       refine oS 48 hE84 (fun h87 => ?_) (fun h88 => ?_)
       · refine oN 12 [(8, vb true)] [6] ?_
         refine oe ?_
         obtain rfl := sI h87
         exact mt () [6, 8] [] 1
       refine oN 6 [(54, vb ((w64 (2 * (w64 (x0.Num - (w64 (t38 * x0.Den)))))) == x0.Den))] [48, 6] ?_
       refine oS 54 h88 (fun h90 => ?_) (fun h91 => ?_)
       · refine oN 6 [(8, vb ((Int.tmod t38 2) != 0))] [6] ?_
         refine oe ?_
         obtain rfl := sI h90
         exact mt () [6, 8] [] 1
       refine oN 6 [(8, vb false)] [6] ?_
       refine oe ?_
       obtain rfl := sI h91
       exact mt () [6, 8] [] 1
     exact mp (p83, ()) h85 [8, 6] [] 1
   exact qk (mp (false, ()) h82 [8, 6] [] 1)
 have h62 := (congrFun hk61 _).symm.trans h62p
 refine bn (nt (qs (qs (qr (oN 1 [(60, vb y59.1)] [6] ?_)))))
 refine oe (nt ?_)
 obtain ⟨k66, hk67, h69⟩ := jS h62
 refine JC_cutP (τ := (Int) × (Unit)) (fun y => k66 y.1 = some r) (fun y65 => [(6, vi y65.1)]) (fun y65 => [(133, (eFrac x0))]) (fun y65 => []) ?_ (fun y65 h68p => ?_)
 · refine cC h69 (fun h71 => ?_) (fun h72 => ?_)
   · refine qr (oN 3 [(6, vi (w64 (t38 + 1)))] [] ?_)
     exact oe (mp (w64 (t38 + 1), ()) h71 [6] [] 1)
   exact qk (mp (t38, ()) h72 [6] [] 1)
 have h68 := (congrFun hk67 _).symm.trans h68p
 refine nt (qs (qr (oN 3 [(5, vb true), (4, vi y65.1)] [] ?_)))
 refine oe (nt (qe ?_))
 obtain rfl := sI h68
 exact re [.int .i64 y65.1, .bool true]

theorem c_impl_Figure {W : World} {x0 : Book} {a0_0 : Option Addr} {c0_0 : Nat} {x1 : Int} {x2 : Int} {x3 : Int} {x4 : List Frac} {a4_0 : Option Addr} {c4_0 : Nat} {r : Int × Int × Bool} (h : impl_Figure x0 x1 x2 x3 x4 = some r) (hv0_0 : SlView W x0.Rules a0_0 c0_0) (hv4_0 : SlView W x4 a4_0 c4_0) :
    Gives0 Tryz.prog 103 #[vBook x0 (a0_0, c0_0), .int .i64 x1, .int .i64 x2, .int .i64 x3, .slice a4_0 x4.length c4_0] W (.tuple #[.int .i64 r.1, .int .i64 r.2.1, .bool r.2.2]) := by
 unfold impl_Figure at h
 refine en Tryz.func103 Tryz.ntmps103 ?_
 refine qs (qr (oB 4 [(5, .p 0 0)] [1, 2, 3, 4] [(26, (eBook x0 (a0_0, c0_0)))] ?_))
 refine oe (nt (qs (qr (oN 4 [(21, vi x3), (20, vi x2), (19, vi x1), (18, .v (vBook x0 (a0_0, c0_0)))] [5, 4] ?_))))
 obtain ⟨t21, h22, h23⟩ := bS h
 refine k0 (fun γ w hs => c_impl_RuleFor h22 (hv0_0.kept hs.kept)) ?_
 refine oN 1 [(13, vi t21)] [5, 4] ?_
 refine oe (nt (qs (qs (qr (oN 2 [(24, vb (decide (t21 < 0)))] [13, 5, 4] ?_)))))
 refine oe (nt (cC h23 (fun h26 => ?_) (fun h27 => ?_)))
 · refine qs (qr (oN 3 [(12, vb false), (11, vi 0), (10, vi 0)] [] ?_))
   refine oe (nt (qe (nr ?_)))
   obtain rfl := sI h26
   exact re [.int .i64 0, .int .i64 0, .bool false]
 refine qk (nt (qs (qr (oN 3 [(28, vi t21), (27, .v (.slice a0_0 x0.Rules.length c0_0))] [13, 5, 4] ?_))))
 obtain ⟨x28, hx29, h30⟩ := bS h27
 refine oi 7 (fun γ w hs => (hv0_0.kept hs.kept)) hx29 ?_
 refine oN 1 [(30, .q a0_0 (Int.toNat t21 * 7 + 6))] [13, 5, 4] ?_
 obtain ⟨_, ⟨a31, c32, rfl, hv33⟩, hc34⟩ := SlView.at hv0_0 (idx_some hx29).2.2
 refine ol 74 6 (.slice a31 x28.Nodes.length c32) (fun γ w hs => ⟨(hv0_0.kept hs.kept).ne (idx_some hx29).2.2, hc34.kept hs.kept⟩) ?_
 refine oN 1 [(32, .v (.slice a4_0 x4.length c4_0))] [31, 13, 5] ?_
 obtain ⟨t35, h36, h37⟩ := bS h30
 refine k0 (fun γ w hs => c_impl_Eval h36 (hv33.kept hs.kept) (hv4_0.kept hs.kept)) ?_
 refine oB 6 [(15, vb t35.2), (14, .p 1 0)] [13, 5] [(26, (eBook x0 (a0_0, c0_0))), (133, (eFrac t35.1))] ?_
 refine oe (nt (qs (JC_quiet (by kernel_rfl) (by kernel_rfl) ?_)))
 refine qN 4 [(40, vi t21), (39, .v (.slice a0_0 x0.Rules.length c0_0)), (37, .v (vFrac t35.1))] [15, 13] ?_
 obtain ⟨x39, hx40, h41⟩ := bS h37
 refine qi 7 (fun γ w hs => (hv0_0.kept hs.kept)) hx40 ?_
 refine qN 1 [(42, .q a0_0 (Int.toNat t21 * 7 + 5))] [37, 15, 13] ?_
 obtain ⟨_, ⟨a42, c43, rfl, hv44⟩, hc45⟩ := SlView.at hv0_0 (idx_some hx40).2.2
 refine ql 3 5 (.int .i64 x39.Mode) (fun γ w hs => ⟨(hv0_0.kept hs.kept).ne (idx_some hx40).2.2, hc45.kept hs.kept⟩) ?_
 obtain ⟨t46, h47, h48⟩ := bS h41
 refine q0 (fun γ w hs => c_impl_RoundFrac h47) ?_
 refine qN 5 [(17, vb t46.2), (16, vi t46.1)] [15, 13] ?_
 refine qz (nt (qs (qs ?_)))
 obtain ⟨p50, hE51, h52⟩ := bS h48
 refine JC_cut (τ := Unit) (fun _ => [(13, vi t21), (16, vi t46.1), (52, vb p50)]) (fun _ => [(26, (eBook x0 (a0_0, c0_0))), (133, (eFrac t35.1))]) (fun _ => []) ?_ (fun _ => ?_)
 · refine qr (oN 3 [(49, vb (!t35.2))] [17, 16, 13] ?_)
   refine oS 49 hE51 (fun h54 => ?_) (fun h55 => ?_)
   · refine oN 3 [(52, vb true)] [16, 13] ?_
     refine oe ?_
     obtain rfl := sI h54
     exact mt () [13, 16, 52] [] 2
   refine oN 3 [(52, vb (!t46.2))] [16, 13] ?_
   refine oe ?_
   obtain rfl := sI h55
   exact mt () [13, 16, 52] [] 2
 refine nt (cC h52 (fun h57 => ?_) (fun h58 => ?_))
 · refine qs (qr (oN 3 [(12, vb false), (11, vi 0), (10, vi 0)] [] ?_))
   refine oe (nt (qe (nr ?_)))
   obtain rfl := sI h57
   exact re [.int .i64 0, .int .i64 0, .bool false]
 refine qk (nt (qs (qr (oN 5 [(12, vb true), (11, vi t21), (10, vi t46.1)] [] ?_))))
 refine oe (nt (qe ?_))
 obtain rfl := sI h58
 exact re [.int .i64 t46.1, .int .i64 t21, .bool true]

theorem c_impl_EntitlementAt {W : World} {x0 : Case} {b0 : AC × AC × AC × AC × AC} {x1 : Int} {x2 : Int} {r : Int} (h : impl_EntitlementAt x0 x1 x2 = some r) (hv0_0 : SlView W x0.Book.Rules b0.1.1 b0.1.2) (hv0_1 : SlView W x0.Store.Facts b0.2.1.1 b0.2.1.2) (hv0_2 : SlView W x0.Series.Points b0.2.2.1.1 b0.2.2.1.2) (hv0_3 : SlView W x0.Member.Spells b0.2.2.2.1.1 b0.2.2.2.1.2) (hv0_4 : SlView W x0.Member.Events b0.2.2.2.2.1 b0.2.2.2.2.2) :
    Gives0 Tryz.prog 60 #[vCase x0 b0, .int .i64 x1, .int .i64 x2] W (.int .i64 r) := by
 unfold impl_EntitlementAt at h
 refine en Tryz.func60 Tryz.ntmps60 ?_
 refine qs (qr (oB 2 [(3, .p 0 0)] [1, 2] [(38, (eCase x0 b0))] ?_))
 refine oe (nt (qs (qs ?_)))
 obtain ⟨p21, hE22, h23⟩ := bS h
 refine JC_cut (τ := Unit) (fun _ => [(1, vi x1), (2, vi x2), (3, .p 0 0), (22, vb p21)]) (fun _ => [(38, (eCase x0 b0))]) (fun _ => []) ?_ (fun _ => ?_)
 · refine qr (oN 1 [(12, .v (vCase x0 b0))] [3, 1, 2] ?_)
   obtain ⟨t24, h25, h26⟩ := bS hE22
   refine k0 (fun γ w hs => c_impl_CaseOk (b0 := b0) h25 (hv0_0.kept hs.kept) (hv0_1.kept hs.kept) (hv0_2.kept hs.kept) (hv0_3.kept hs.kept) (hv0_4.kept hs.kept)) ?_
   refine oN 2 [(15, vb (!t24))] [3, 1, 2] ?_
   refine oS 15 h26 (fun h29 => ?_) (fun h30 => ?_)
   · refine oN 7 [(22, vb true)] [3, 1, 2] ?_
     refine oe ?_
     obtain rfl := sI h29
     exact mt () [1, 2, 3, 22] [] 1
   refine oN 4 [(19, vi x1), (18, .v (.slice b0.2.2.2.2.1 x0.Member.Events.length b0.2.2.2.2.2))] [15, 3, 1, 2] ?_
   obtain ⟨t31, h32, h33⟩ := bS h30
   refine k0 (fun γ w hs => c_impl_StatusAt h32 (hv0_4.kept hs.kept)) ?_
   refine oN 2 [(22, vb (t31 != 3))] [3, 1, 2] ?_
   refine oe ?_
   obtain rfl := sI h33
   exact mt () [1, 2, 3, 22] [] 1
 refine nt (cC h23 (fun h36 => ?_) (fun h37 => ?_))
 · refine qs (qr (oN 1 [(6, vi 0)] [] ?_))
   refine oe (nt (qe (nr ?_)))
   obtain rfl := sI h36
   exact re [.int .i64 0]
 refine qk (nt (qs (qr (oN 3 [(26, vi x2), (25, vi x1), (24, .v (vCase x0 b0))] [1, 3] ?_))))
 obtain ⟨t38, h39, h40⟩ := bS h37
 refine k1 (fun γ w hs => c_impl_VarsFor (b0 := b0) h39 (hv0_0.kept hs.kept) (hv0_1.kept hs.kept) (hv0_2.kept hs.kept) (hv0_3.kept hs.kept) (hv0_4.kept hs.kept)) (fun y41 => ?_)
 refine oN 5 [(8, vb t38.2), (7, .v (.slice y41.1 t38.1.length y41.2))] [1, 3] ?_
 refine oe (nt (qs (qr (oN 7 [(37, .v (.slice y41.1 t38.1.length y41.2)), (36, vi x0.Member.Joined), (33, vi x1), (32, .v (vBook x0.Book b0.1))] [8] ?_))))
 obtain ⟨t42, h43, h44⟩ := bS h40
 refine k0 (fun γ w hs => c_impl_Figure h43 (hv0_0.kept hs.kept) (hs.view 0 rfl)) ?_
 refine oN 7 [(11, vb t42.2.2), (9, vi t42.1)] [8] ?_
 refine oe (nt (qs (qs ?_)))
 obtain ⟨p46, hE47, h48⟩ := bS h44
 refine JC_cut (τ := Unit) (fun _ => [(9, vi t42.1), (47, vb p46)]) (fun _ => [(38, (eCase x0 b0))]) (fun _ => []) ?_ (fun _ => ?_)
 · refine qr (oN 3 [(44, vb (!t38.2))] [11, 9] ?_)
   refine oS 44 hE47 (fun h50 => ?_) (fun h51 => ?_)
   · refine oN 3 [(47, vb true)] [9] ?_
     refine oe ?_
     obtain rfl := sI h50
     exact mt () [9, 47] [] 1
   refine oN 3 [(47, vb (!t42.2.2))] [9] ?_
   refine oe ?_
   obtain rfl := sI h51
   exact mt () [9, 47] [] 1
 refine nt (cC h48 (fun h53 => ?_) (fun h54 => ?_))
 · refine qs (qr (oN 1 [(6, vi 0)] [] ?_))
   refine oe (nt (qe (nr ?_)))
   obtain rfl := sI h53
   exact re [.int .i64 0]
 refine qk (nt (qs (qr (oN 4 [(6, vi (imax 0 (imin t42.1 10000000)))] [] ?_))))
 refine oe (nt (qe ?_))
 obtain rfl := sI h54
 exact re [.int .i64 (imax 0 (imin t42.1 10000000))]

theorem c_impl_DueNow {W : World} {x0 : Office} {b0 : AC × AC × AC × AC × AC × AC} {r : Int} (h : impl_DueNow x0 = some r) (hv0_0 : SlView W x0.Case.Book.Rules b0.1.1 b0.1.2) (hv0_1 : SlView W x0.Case.Store.Facts b0.2.1.1 b0.2.1.2) (hv0_2 : SlView W x0.Case.Series.Points b0.2.2.1.1 b0.2.2.1.2) (hv0_3 : SlView W x0.Case.Member.Spells b0.2.2.2.1.1 b0.2.2.2.1.2) (hv0_4 : SlView W x0.Case.Member.Events b0.2.2.2.2.1.1 b0.2.2.2.2.1.2) (hv0_5 : SlView W x0.Paid b0.2.2.2.2.2.1 b0.2.2.2.2.2.2) :
    Gives0 Tryz.prog 37 #[vOffice x0 b0] W (.int .i64 r) := by
 unfold impl_DueNow at h
 refine en Tryz.func37 Tryz.ntmps37 ?_
 refine qs (qr (oB 2 [(1, .p 0 0)] [] [(41, (eOffice x0 b0))] ?_))
 refine oe (nt (qs (qs (qr (oN 1 [(5, .v (vOffice x0 b0))] [1] ?_)))))
 obtain ⟨t21, h22, h23⟩ := bS h
 refine k0 (fun γ w hs => c_impl_OfficeOk (b0 := b0) h22 (hv0_0.kept hs.kept) (hv0_1.kept hs.kept) (hv0_2.kept hs.kept) (hv0_3.kept hs.kept) (hv0_4.kept hs.kept) (hv0_5.kept hs.kept)) ?_
 refine oN 1 [(7, vb (!t21))] [1] ?_
 refine oe (nt (cC h23 (fun h26 => ?_) (fun h27 => ?_)))
 · refine qs (qr (oN 1 [(2, vi 0)] [] ?_))
   refine oe (nt (qe (nr ?_)))
   obtain rfl := sI h26
   exact re [.int .i64 0]
 refine qk (nt (qs (qr (oN 2 [(9, .v (.slice b0.2.2.2.2.2.1 x0.Paid.length b0.2.2.2.2.2.2))] [1] ?_))))
 obtain ⟨t28, h29, h30⟩ := bS h27
 refine k0 (fun γ w hs => c_impl_total h29 (hv0_5.kept hs.kept)) ?_
 refine oN 2 [(3, vi (w64 (0 - t28)))] [1] ?_
 refine oe (nt (qs (qs (qr (oN 3 [(4, vi x0.Start)] [3, 1] ?_)))))
 refine oe (nt ?_)
 obtain ⟨r35, hL36, h37⟩ := bS h30
 obtain ⟨k38, hk39, h37⟩ := brkS h37
 refine JC_cutP (τ := (Int × Int × Int × Int) × (Unit)) (fun y => k38 y.1 = some r) (fun y43 => [(3, vi y43.1.1)]) (fun y43 => [(41, (eOffice (Office.mk (Case.mk x0.Case.Book x0.Case.Store x0.Case.Series (Member.mk y43.1.2.1 y43.1.2.2.1 x0.Case.Member.Spells x0.Case.Member.Events)) y43.1.2.2.2 x0.Paid) b0))]) (fun y43 => []) ?_ (fun y43 h44p => ?_)
 · refine qb (lp Unit hL36 (fun s32 y33 => [(4, vi s32.1), (3, vi s32.2), (1, .p 0 0)]) (fun s32 y33 => [(41, (eOffice x0 b0))]) (fun s32 y33 => []) () [4, 3, 1] [] 1 (fun s32 y33 t34 h40 hd41 => ?_))
   refine qs (qs (qr (oN 2 [(15, .v (vOffice x0 b0)), (14, vi s32.1)] [4, 3, 1] ?_)))
   obtain ⟨t45, h46, h47⟩ := bS h40
   refine k0 (fun γ w hs => c_impl_now (b0 := b0) h46 (hv0_0.kept hs.kept) (hv0_1.kept hs.kept) (hv0_2.kept hs.kept) (hv0_3.kept hs.kept) (hv0_4.kept hs.kept) (hv0_5.kept hs.kept)) ?_
   refine oN 1 [(17, vb (decide (s32.1 ≤ t45)))] [4, 3, 1] ?_
   refine oe (nt (cC h47 (fun h50 => ?_) (fun h51 => ?_)))
   · refine qk (nt (qs (qb (JC_quiet (by kernel_rfl) (by kernel_rfl) ?_))))
     refine qN 5 [(24, .v (vOffice x0 b0)), (23, vi s32.1), (22, .v (vCase x0.Case (b0.1, b0.2.1, b0.2.2.1, b0.2.2.2.1, b0.2.2.2.2.1))), (20, vi s32.2)] [4, 1] ?_
     obtain ⟨t52, h53, h54⟩ := bS h50
     refine q0 (fun γ w hs => c_impl_now (b0 := b0) h53 (hv0_0.kept hs.kept) (hv0_1.kept hs.kept) (hv0_2.kept hs.kept) (hv0_3.kept hs.kept) (hv0_4.kept hs.kept) (hv0_5.kept hs.kept)) ?_
     obtain ⟨t56, h57, h58⟩ := bS h54
     refine q0 (fun γ w hs => c_impl_EntitlementAt (b0 := (b0.1, b0.2.1, b0.2.2.1, b0.2.2.2.1, b0.2.2.2.2.1)) h57 (hv0_0.kept hs.kept) (hv0_1.kept hs.kept) (hv0_2.kept hs.kept) (hv0_3.kept hs.kept) (hv0_4.kept hs.kept)) ?_
     refine qN 2 [(3, vi (w64 (s32.2 + t56)))] [4, 1] ?_
     refine qz (bn (nt (qr (oN 3 [(4, vi (w64 (s32.1 + 1)))] [3, 1] ?_))))
     exact oe (ct h58 () [4, 3, 1] [] 1)
   refine qx (nx (nx (bh ?_)))
   have h60 := leafB hd41 h51 h37
   exact mp ((s32.2, x0.Case.Member.Birth, x0.Case.Member.Joined, x0.Start), ()) h60 [3] [] 1
 have h44 := (congrFun hk39 _).symm.trans h44p
 refine nt (qs (qr (oN 2 [(2, vi y43.1.1)] [] ?_)))
 refine oe (nt (qe ?_))
 obtain rfl := sI h44
 exact re [.int .i64 y43.1.1]

theorem c_slices_Clone_Node {W : World} {x0 : List Node} {a0_0 : Option Addr} {c0_0 : Nat} {r : (List Node)} (h : slices_Clone_Node x0 = some r) (hv0_0 : SlView W x0 a0_0 c0_0) :
    Gives Tryz.prog 176 #[.slice a0_0 x0.length c0_0] W (fun y : AC => .slice y.1 r.length y.2) (fun y => [SlRes 154 r y.1 y.2]) := by
 unfold slices_Clone_Node at h
 refine en Tryz.func176 Tryz.ntmps176 ?_
 refine qs (qr (oN 1 [] [0] ?_))
 refine oe (nt (qs (qs (qr (oN 1 [(3, .v (.slice a0_0 x0.length c0_0))] [0] ?_)))))
 rcases a0_0 with _ | d21
 · obtain rfl := hv0_0.nil rfl
   obtain rfl := hv0_0.nilE
   have h22 : (some ([] : List Node)) = some r := h
   refine oN 1 [(4, vb true)] [0] ?_
   refine oe (nt (JC_cond true (by kernel_rfl) (fun _ => ?_) (fun hb => by cases hb)))
   refine qs (qr (oN 1 [(2, .v (.slice none 0 0))] [] ?_))
   refine oe (nt (qe (nr (JE_addnil 154 (List.nil (α := Node)) rfl ?_))))
   refine rt [.slice none 0 0] (fun γ w hs => ?_)
   rw [← sI h22]
   exact ⟨(none, 0), rfl, hs.kept.toBelow, (hs.takeR (is := [0]) rfl).fresh⟩
 refine oN 1 [(4, vb false)] [0] ?_
 refine oe (nt (JC_cond false (by kernel_rfl) (fun hb => by cases hb) (fun _ => ?_)))
 refine qk (nt (qs (qr (ob [] [] 154 0 [] ([] : List Node) (own_flat (by kernel_rfl)) (fun y24 => ?_)))))
 refine oN 1 [(6, .v (.slice (some d21) x0.length c0_0))] [5] ?_
 obtain ⟨l27, hm28, h29⟩ := bS h
 refine oa 74 c0_0 Tryz.t154 (vNode (Node.mk 0 0 0 0 (Frac.mk 0 0))) (fun γ w hs => ⟨c0_0, (hv0_0.kept hs.kept)⟩) hm28 (fun y26 => ?_)
 refine oN 1 [(2, .v (.slice y26.1 l27.length y26.2))] [] ?_
 refine oe (nt (qe (rt [.slice y26.1 l27.length y26.2] (fun γ w hs => ?_))))
 rw [← sI h29]
 exact ⟨y26, rfl, hs.kept.toBelow, (hs.takeR (is := [0]) rfl).fresh⟩

theorem c_impl_copyNodes {W : World} {x0 : List Node} {a0_0 : Option Addr} {c0_0 : Nat} {r : (List Node)} (h : impl_copyNodes x0 = some r) (hv0_0 : SlView W x0 a0_0 c0_0) :
    Gives Tryz.prog 118 #[.slice a0_0 x0.length c0_0] W (fun y : AC => .slice y.1 r.length y.2) (fun y => [SlRes 154 r y.1 y.2]) := by
 unfold impl_copyNodes at h
 refine en Tryz.func118 Tryz.ntmps118 ?_
 refine qs (qr (oN 1 [] [0] ?_))
 refine oe (nt (qs (qr (oN 1 [(3, .v (.slice a0_0 x0.length c0_0))] [] ?_))))
 obtain ⟨t21, h22, h23⟩ := bS h
 refine k1 (fun γ w hs => c_slices_Clone_Node h22 (hv0_0.kept hs.kept)) (fun y24 => ?_)
 refine oN 1 [(2, .v (.slice y24.1 t21.length y24.2))] [] ?_
 refine oe (nt (qe (rt [.slice y24.1 t21.length y24.2] (fun γ w hs => ?_))))
 rw [← sI h23]
 exact ⟨y24, rfl, hs.kept.toBelow, (hs.takeR (is := [0]) rfl).fresh⟩

theorem c_impl_copyBook {W : World} {x0 : Book} {a0_0 : Option Addr} {c0_0 : Nat} {r : Book} (h : impl_copyBook x0 = some r) (hv0_0 : SlView W x0.Rules a0_0 c0_0) :
    Gives Tryz.prog 104 #[vBook x0 (a0_0, c0_0)] W (fun y : AC => vBook r y) (fun y => [SlRes 76 r.Rules y.1 y.2]) := by
 unfold impl_copyBook at h
 refine en Tryz.func104 Tryz.ntmps104 ?_
 refine qs (qr (oB 2 [(2, .p 1 0), (1, .p 0 0)] [] [(26, (eBook x0 (a0_0, c0_0))), (26, [.slice none 0 0])] ?_))
 refine oe (nt (qs (qr (oB 3 [(3, .p 2 0)] [2, 1] [(26, (eBook x0 (a0_0, c0_0))), (26, [.slice none 0 0]), (26, [.slice none 0 0])] ?_))))
 refine oe (nt (qs (qs (qr (oN 4 [(10, vi 0), (9, vi (x0.Rules.length : Int)), (8, .v (.slice a0_0 x0.Rules.length c0_0))] [3, 2] ?_)))))
 refine oe (nt (JC_addnil 76 (List.nil (α := Rule)) rfl ?_))
 obtain ⟨r24, hL25, h26⟩ := bS h
 obtain ⟨k27, hk28, h26⟩ := brkS h26
 refine JC_cutP (τ := ((List Rule)) × (AC)) (fun y => k27 y.1 = some r) (fun y32 => [(3, .p 2 0), (2, .p 1 0)]) (fun y32 => [(26, (eBook x0 (a0_0, c0_0))), (26, [.slice none 0 0]), (26, (eBook (Book.mk y32.1) y32.2))]) (fun y32 => [SlRes 76 y32.1 y32.2.1 y32.2.2]) ?_ (fun y32 h33p => ?_)
 · refine qb (lp AC hL25 (fun s21 y22 => [(10, vi s21.1), (9, vi (x0.Rules.length : Int)), (8, .v (.slice a0_0 x0.Rules.length c0_0)), (3, .p 2 0), (2, .p 1 0)]) (fun s21 y22 => [(26, (eBook x0 (a0_0, c0_0))), (26, [.slice none 0 0]), (26, (eBook (Book.mk s21.2) y22))]) (fun s21 y22 => [SlRes 76 s21.2 y22.1 y22.2]) (none, 0) [10, 9, 8, 3, 2] [0] 3 (fun s21 y22 t23 h29 hd30 => ?_))
   refine qs (qr (oN 1 [(11, vb (decide (s21.1 < (x0.Rules.length : Int))))] [10, 9, 8, 3, 2] ?_))
   refine oe (nt (qs (cC h29 (fun h35 => ?_) (fun h36 => ?_))))
   · refine qk (nt (qs (qb (qs (qr ?_)))))
     obtain ⟨x37, hx38, h39⟩ := bS h35
     refine oi 7 (fun γ w hs => (hv0_0.kept hs.kept)) hx38 ?_
     obtain ⟨_, ⟨a40, c41, rfl, hv42⟩, hc43⟩ := SlView.at hv0_0 (idx_some hx38).2.2
     refine ol 76 0 (vRule x37 (a40, c41)) (fun γ w hs => ⟨(hv0_0.kept hs.kept).ne (idx_some hx38).2.2, hc43.kept hs.kept⟩) ?_
     refine oB 2 [(5, .p 3 0)] [10, 9, 8, 3, 2] [(26, (eBook x0 (a0_0, c0_0))), (26, [.slice none 0 0]), (26, (eBook (Book.mk s21.2) y22)), (76, (eRule x37 (a40, c41)))] ?_
     refine oe (nt (qs (qr (oN 2 [(15, .v (.slice a40 x37.Nodes.length c41))] [5, 10, 9, 8, 3, 2] ?_))))
     obtain ⟨t44, h45, h46⟩ := bS h39
     refine k1 (fun γ w hs => c_impl_copyNodes h45 (hv42.kept hs.kept)) (fun y47 => ?_)
     refine oB 2 [] [5, 10, 9, 8, 3, 2] [(26, (eBook x0 (a0_0, c0_0))), (26, [.slice none 0 0]), (26, (eBook (Book.mk s21.2) y22)), (76, (eRule (Rule.mk x37.Name x37.From x37.To x37.Joined x37.Rank x37.Mode t44) y47))] ?_
     refine oe (nt (qr (oN 3 [(20, .v (vRule (Rule.mk x37.Name x37.From x37.To x37.Joined x37.Rank x37.Mode t44) y47)), (19, .v (.slice y22.1 s21.2.length y22.2))] [10, 9, 8, 3, 2] ?_)))
     refine ob [SlRes 154 t44 y47.1 y47.2] [SlRes 76 s21.2 y22.1 y22.2] 76 1 [.int .i64 x37.Name, .int .i64 x37.From, .int .i64 x37.To, .int .i64 x37.Joined, .int .i64 x37.Rank, .int .i64 x37.Mode, .slice y47.1 t44.length y47.2] ([Rule.mk x37.Name x37.From x37.To x37.Joined x37.Rank x37.Mode t44] : List Rule) (own_single (by rintro w Fs ⟨G0, _, rfl, h0, rfl⟩; exact ⟨154, y47.1, y47.2, G0, by simp, rfl, h0⟩)) (fun y48 => ?_)
     refine or_ [1, 0] ?_
     obtain ⟨l51, hm52, h53⟩ := bS h46
     refine JO_appendR (α := Rule) rfl (by kernel_rfl) (t := 24) (e := 76) (a1 := y22.1) (a2 := y48.1) (c1 := y22.2) (c2 := y48.2) (l1 := s21.2) (l2 := ([Rule.mk x37.Name x37.From x37.To x37.Joined x37.Rank x37.Mode t44] : List Rule)) (by kernel_rfl) (i := Tryz.t76) (by kernel_rfl) (z := (vRule (Rule.mk 0 0 0 0 0 0 ([] : List Node)) (none, 0))) (by kernel_rfl) (by kernel_rfl) (by kernel_rfl) (by kernel_rfl) (Rr := []) rfl hm52 _ (fun _ => rfl) (fun y50 => ?_)
     refine oB 2 [] [10, 9, 8, 3, 2] [(26, (eBook x0 (a0_0, c0_0))), (26, [.slice none 0 0]), (26, (eBook (Book.mk l51) y50)), (76, (eRule (Rule.mk x37.Name x37.From x37.To x37.Joined x37.Rank x37.Mode t44) y47))] ?_
     refine oe (bn (nt (qr (oN 2 [(10, vi (w64 (s21.1 + 1)))] [9, 8, 3, 2] ?_))))
     exact oe (ct h53 (y50.1, y50.2) [10, 9, 8, 3, 2] [0] 3)
   refine qx (nx (nx (bh ?_)))
   have h54 := leafB hd30 h36 h26
   exact mp (s21.2, (y22.1, y22.2)) h54 [3, 2] [0] 3
 have h33 := (congrFun hk28 _).symm.trans h33p
 refine nt (qs (qr (oB 2 [] [2] [(26, (eBook x0 (a0_0, c0_0))), (26, (eBook (Book.mk y32.1) y32.2)), (26, (eBook (Book.mk y32.1) y32.2))] ?_)))
 refine oe (nt (qe (rt [vBook (Book.mk y32.1) y32.2] (fun γ w hs => ?_))))
 rw [← sI h33]
 exact ⟨y32.2, rfl, hs.kept.toBelow, (hs.takeR (is := [0]) rfl).fresh⟩

theorem c_slices_Clone_Fact {W : World} {x0 : List Fact} {a0_0 : Option Addr} {c0_0 : Nat} {r : (List Fact)} (h : slices_Clone_Fact x0 = some r) (hv0_0 : SlView W x0 a0_0 c0_0) :
    Gives Tryz.prog 90 #[.slice a0_0 x0.length c0_0] W (fun y : AC => .slice y.1 r.length y.2) (fun y => [SlRes 47 r y.1 y.2]) := by
 unfold slices_Clone_Fact at h
 refine en Tryz.func90 Tryz.ntmps90 ?_
 refine qs (qr (oN 1 [] [0] ?_))
 refine oe (nt (qs (qs (qr (oN 1 [(3, .v (.slice a0_0 x0.length c0_0))] [0] ?_)))))
 rcases a0_0 with _ | d21
 · obtain rfl := hv0_0.nil rfl
   obtain rfl := hv0_0.nilE
   have h22 : (some ([] : List Fact)) = some r := h
   refine oN 1 [(4, vb true)] [0] ?_
   refine oe (nt (JC_cond true (by kernel_rfl) (fun _ => ?_) (fun hb => by cases hb)))
   refine qs (qr (oN 1 [(2, .v (.slice none 0 0))] [] ?_))
   refine oe (nt (qe (nr (JE_addnil 47 (List.nil (α := Fact)) rfl ?_))))
   refine rt [.slice none 0 0] (fun γ w hs => ?_)
   rw [← sI h22]
   exact ⟨(none, 0), rfl, hs.kept.toBelow, (hs.takeR (is := [0]) rfl).fresh⟩
 refine oN 1 [(4, vb false)] [0] ?_
 refine oe (nt (JC_cond false (by kernel_rfl) (fun hb => by cases hb) (fun _ => ?_)))
 refine qk (nt (qs (qr (ob [] [] 47 0 [] ([] : List Fact) (own_flat (by kernel_rfl)) (fun y24 => ?_)))))
 refine oN 1 [(6, .v (.slice (some d21) x0.length c0_0))] [5] ?_
 obtain ⟨l27, hm28, h29⟩ := bS h
 refine oa 27 c0_0 Tryz.t47 (vFact (Fact.mk 0 0 0 0 0)) (fun γ w hs => ⟨c0_0, (hv0_0.kept hs.kept)⟩) hm28 (fun y26 => ?_)
 refine oN 1 [(2, .v (.slice y26.1 l27.length y26.2))] [] ?_
 refine oe (nt (qe (rt [.slice y26.1 l27.length y26.2] (fun γ w hs => ?_))))
 rw [← sI h29]
 exact ⟨y26, rfl, hs.kept.toBelow, (hs.takeR (is := [0]) rfl).fresh⟩

theorem c_impl_copyStore {W : World} {x0 : Store} {a0_0 : Option Addr} {c0_0 : Nat} {r : Store} (h : impl_copyStore x0 = some r) (hv0_0 : SlView W x0.Facts a0_0 c0_0) :
    Gives Tryz.prog 92 #[vStore x0 (a0_0, c0_0)] W (fun y : AC => vStore r y) (fun y => [SlRes 47 r.Facts y.1 y.2]) := by
 unfold impl_copyStore at h
 refine en Tryz.func92 Tryz.ntmps92 ?_
 refine qs (qr (oB 2 [(2, .p 1 0), (1, .p 0 0)] [] [(29, (eStore x0 (a0_0, c0_0))), (29, [.slice none 0 0])] ?_))
 refine oe (nt (qs (qr (oN 2 [(4, .v (.slice a0_0 x0.Facts.length c0_0))] [2] ?_))))
 obtain ⟨t21, h22, h23⟩ := bS h
 refine k1 (fun γ w hs => c_slices_Clone_Fact h22 (hv0_0.kept hs.kept)) (fun y24 => ?_)
 refine oB 2 [] [2] [(29, (eStore x0 (a0_0, c0_0))), (29, (eStore (Store.mk t21) y24))] ?_
 refine oe (nt (qe (rt [vStore (Store.mk t21) y24] (fun γ w hs => ?_))))
 rw [← sI h23]
 exact ⟨y24, rfl, hs.kept.toBelow, (hs.takeR (is := [0]) rfl).fresh⟩

theorem c_slices_Clone_Point {W : World} {x0 : List Point} {a0_0 : Option Addr} {c0_0 : Nat} {r : (List Point)} (h : slices_Clone_Point x0 = some r) (hv0_0 : SlView W x0 a0_0 c0_0) :
    Gives Tryz.prog 93 #[.slice a0_0 x0.length c0_0] W (fun y : AC => .slice y.1 r.length y.2) (fun y => [SlRes 52 r y.1 y.2]) := by
 unfold slices_Clone_Point at h
 refine en Tryz.func93 Tryz.ntmps93 ?_
 refine qs (qr (oN 1 [] [0] ?_))
 refine oe (nt (qs (qs (qr (oN 1 [(3, .v (.slice a0_0 x0.length c0_0))] [0] ?_)))))
 rcases a0_0 with _ | d21
 · obtain rfl := hv0_0.nil rfl
   obtain rfl := hv0_0.nilE
   have h22 : (some ([] : List Point)) = some r := h
   refine oN 1 [(4, vb true)] [0] ?_
   refine oe (nt (JC_cond true (by kernel_rfl) (fun _ => ?_) (fun hb => by cases hb)))
   refine qs (qr (oN 1 [(2, .v (.slice none 0 0))] [] ?_))
   refine oe (nt (qe (nr (JE_addnil 52 (List.nil (α := Point)) rfl ?_))))
   refine rt [.slice none 0 0] (fun γ w hs => ?_)
   rw [← sI h22]
   exact ⟨(none, 0), rfl, hs.kept.toBelow, (hs.takeR (is := [0]) rfl).fresh⟩
 refine oN 1 [(4, vb false)] [0] ?_
 refine oe (nt (JC_cond false (by kernel_rfl) (fun hb => by cases hb) (fun _ => ?_)))
 refine qk (nt (qs (qr (ob [] [] 52 0 [] ([] : List Point) (own_flat (by kernel_rfl)) (fun y24 => ?_)))))
 refine oN 1 [(6, .v (.slice (some d21) x0.length c0_0))] [5] ?_
 obtain ⟨l27, hm28, h29⟩ := bS h
 refine oa 30 c0_0 Tryz.t52 (vPoint (Point.mk 0 0 0)) (fun γ w hs => ⟨c0_0, (hv0_0.kept hs.kept)⟩) hm28 (fun y26 => ?_)
 refine oN 1 [(2, .v (.slice y26.1 l27.length y26.2))] [] ?_
 refine oe (nt (qe (rt [.slice y26.1 l27.length y26.2] (fun γ w hs => ?_))))
 rw [← sI h29]
 exact ⟨y26, rfl, hs.kept.toBelow, (hs.takeR (is := [0]) rfl).fresh⟩

theorem c_impl_copySeries {W : World} {x0 : Series} {a0_0 : Option Addr} {c0_0 : Nat} {r : Series} (h : impl_copySeries x0 = some r) (hv0_0 : SlView W x0.Points a0_0 c0_0) :
    Gives Tryz.prog 95 #[vSeries x0 (a0_0, c0_0)] W (fun y : AC => vSeries r y) (fun y => [SlRes 52 r.Points y.1 y.2]) := by
 unfold impl_copySeries at h
 refine en Tryz.func95 Tryz.ntmps95 ?_
 refine qs (qr (oB 2 [(2, .p 1 0), (1, .p 0 0)] [] [(32, (eSeries x0 (a0_0, c0_0))), (32, [.slice none 0 0])] ?_))
 refine oe (nt (qs (qr (oN 2 [(4, .v (.slice a0_0 x0.Points.length c0_0))] [2] ?_))))
 obtain ⟨t21, h22, h23⟩ := bS h
 refine k1 (fun γ w hs => c_slices_Clone_Point h22 (hv0_0.kept hs.kept)) (fun y24 => ?_)
 refine oB 2 [] [2] [(32, (eSeries x0 (a0_0, c0_0))), (32, (eSeries (Series.mk t21) y24))] ?_
 refine oe (nt (qe (rt [vSeries (Series.mk t21) y24] (fun γ w hs => ?_))))
 rw [← sI h23]
 exact ⟨y24, rfl, hs.kept.toBelow, (hs.takeR (is := [0]) rfl).fresh⟩

theorem c_slices_Clone_Spell {W : World} {x0 : List Spell} {a0_0 : Option Addr} {c0_0 : Nat} {r : (List Spell)} (h : slices_Clone_Spell x0 = some r) (hv0_0 : SlView W x0 a0_0 c0_0) :
    Gives Tryz.prog 154 #[.slice a0_0 x0.length c0_0] W (fun y : AC => .slice y.1 r.length y.2) (fun y => [SlRes 156 r y.1 y.2]) := by
 unfold slices_Clone_Spell at h
 refine en Tryz.func154 Tryz.ntmps154 ?_
 refine qs (qr (oN 1 [] [0] ?_))
 refine oe (nt (qs (qs (qr (oN 1 [(3, .v (.slice a0_0 x0.length c0_0))] [0] ?_)))))
 rcases a0_0 with _ | d21
 · obtain rfl := hv0_0.nil rfl
   obtain rfl := hv0_0.nilE
   have h22 : (some ([] : List Spell)) = some r := h
   refine oN 1 [(4, vb true)] [0] ?_
   refine oe (nt (JC_cond true (by kernel_rfl) (fun _ => ?_) (fun hb => by cases hb)))
   refine qs (qr (oN 1 [(2, .v (.slice none 0 0))] [] ?_))
   refine oe (nt (qe (nr (JE_addnil 156 (List.nil (α := Spell)) rfl ?_))))
   refine rt [.slice none 0 0] (fun γ w hs => ?_)
   rw [← sI h22]
   exact ⟨(none, 0), rfl, hs.kept.toBelow, (hs.takeR (is := [0]) rfl).fresh⟩
 refine oN 1 [(4, vb false)] [0] ?_
 refine oe (nt (JC_cond false (by kernel_rfl) (fun hb => by cases hb) (fun _ => ?_)))
 refine qk (nt (qs (qr (ob [] [] 156 0 [] ([] : List Spell) (own_flat (by kernel_rfl)) (fun y24 => ?_)))))
 refine oN 1 [(6, .v (.slice (some d21) x0.length c0_0))] [5] ?_
 obtain ⟨l27, hm28, h29⟩ := bS h
 refine oa 33 c0_0 Tryz.t156 (vSpell (Spell.mk 0 0 0 false)) (fun γ w hs => ⟨c0_0, (hv0_0.kept hs.kept)⟩) hm28 (fun y26 => ?_)
 refine oN 1 [(2, .v (.slice y26.1 l27.length y26.2))] [] ?_
 refine oe (nt (qe (rt [.slice y26.1 l27.length y26.2] (fun γ w hs => ?_))))
 rw [← sI h29]
 exact ⟨y26, rfl, hs.kept.toBelow, (hs.takeR (is := [0]) rfl).fresh⟩

theorem c_slices_Clone_Event {W : World} {x0 : List Event} {a0_0 : Option Addr} {c0_0 : Nat} {r : (List Event)} (h : slices_Clone_Event x0 = some r) (hv0_0 : SlView W x0 a0_0 c0_0) :
    Gives Tryz.prog 155 #[.slice a0_0 x0.length c0_0] W (fun y : AC => .slice y.1 r.length y.2) (fun y => [SlRes 158 r y.1 y.2]) := by
 unfold slices_Clone_Event at h
 refine en Tryz.func155 Tryz.ntmps155 ?_
 refine qs (qr (oN 1 [] [0] ?_))
 refine oe (nt (qs (qs (qr (oN 1 [(3, .v (.slice a0_0 x0.length c0_0))] [0] ?_)))))
 rcases a0_0 with _ | d21
 · obtain rfl := hv0_0.nil rfl
   obtain rfl := hv0_0.nilE
   have h22 : (some ([] : List Event)) = some r := h
   refine oN 1 [(4, vb true)] [0] ?_
   refine oe (nt (JC_cond true (by kernel_rfl) (fun _ => ?_) (fun hb => by cases hb)))
   refine qs (qr (oN 1 [(2, .v (.slice none 0 0))] [] ?_))
   refine oe (nt (qe (nr (JE_addnil 158 (List.nil (α := Event)) rfl ?_))))
   refine rt [.slice none 0 0] (fun γ w hs => ?_)
   rw [← sI h22]
   exact ⟨(none, 0), rfl, hs.kept.toBelow, (hs.takeR (is := [0]) rfl).fresh⟩
 refine oN 1 [(4, vb false)] [0] ?_
 refine oe (nt (JC_cond false (by kernel_rfl) (fun hb => by cases hb) (fun _ => ?_)))
 refine qk (nt (qs (qr (ob [] [] 158 0 [] ([] : List Event) (own_flat (by kernel_rfl)) (fun y24 => ?_)))))
 refine oN 1 [(6, .v (.slice (some d21) x0.length c0_0))] [5] ?_
 obtain ⟨l27, hm28, h29⟩ := bS h
 refine oa 34 c0_0 Tryz.t158 (vEvent (Event.mk 0 0)) (fun γ w hs => ⟨c0_0, (hv0_0.kept hs.kept)⟩) hm28 (fun y26 => ?_)
 refine oN 1 [(2, .v (.slice y26.1 l27.length y26.2))] [] ?_
 refine oe (nt (qe (rt [.slice y26.1 l27.length y26.2] (fun γ w hs => ?_))))
 rw [← sI h29]
 exact ⟨y26, rfl, hs.kept.toBelow, (hs.takeR (is := [0]) rfl).fresh⟩

theorem c_impl_copyMember {W : World} {x0 : Member} {b0 : AC × AC} {r : Member} (h : impl_copyMember x0 = some r) (hv0_0 : SlView W x0.Spells b0.1.1 b0.1.2) (hv0_1 : SlView W x0.Events b0.2.1 b0.2.2) :
    Gives Tryz.prog 105 #[vMember x0 b0] W (fun y : AC × AC => vMember r y) (fun y => [SlRes 156 r.Spells y.1.1 y.1.2, SlRes 158 r.Events y.2.1 y.2.2]) := by
 unfold impl_copyMember at h
 refine en Tryz.func105 Tryz.ntmps105 ?_
 refine qs (qr (oB 2 [(2, .p 1 0), (1, .p 0 0)] [] [(36, (eMember x0 b0)), (36, [.int .i64 0, .int .i64 0, .slice none 0 0, .slice none 0 0])] ?_))
 refine oe (nt (qs (qr (oN 2 [(4, .v (.slice b0.1.1 x0.Spells.length b0.1.2))] [2, 1] ?_))))
 obtain ⟨t21, h22, h23⟩ := bS h
 refine k1 (fun γ w hs => c_slices_Clone_Spell h22 (hv0_0.kept hs.kept)) (fun y24 => ?_)
 refine oB 2 [] [2, 1] [(36, (eMember (Member.mk x0.Birth x0.Joined t21 x0.Events) (y24, b0.2))), (36, [.int .i64 0, .int .i64 0, .slice none 0 0, .slice none 0 0])] ?_
 refine oe (nt (qs (qr (oN 2 [(8, .v (.slice b0.2.1 x0.Events.length b0.2.2))] [2, 1] ?_))))
 obtain ⟨t25, h26, h27⟩ := bS h23
 refine k1 (fun γ w hs => c_slices_Clone_Event h26 (hv0_1.kept hs.kept)) (fun y28 => ?_)
 refine oB 2 [] [2, 1] [(36, (eMember (Member.mk x0.Birth x0.Joined t21 t25) (y24, y28))), (36, [.int .i64 0, .int .i64 0, .slice none 0 0, .slice none 0 0])] ?_
 refine oe (nt (qs (qr (oB 2 [] [2] [(36, (eMember (Member.mk x0.Birth x0.Joined t21 t25) (y24, y28))), (36, (eMember (Member.mk x0.Birth x0.Joined t21 t25) (y24, y28)))] ?_))))
 refine oe (nt (qe (rt [vMember (Member.mk x0.Birth x0.Joined t21 t25) (y24, y28)] (fun γ w hs => ?_))))
 rw [← sI h27]
 exact ⟨(y24, y28), rfl, hs.kept.toBelow, (hs.takeR (is := [1, 0]) rfl).fresh⟩

theorem c_impl_copyCase {W : World} {x0 : Case} {b0 : AC × AC × AC × AC × AC} {r : Case} (h : impl_copyCase x0 = some r) (hv0_0 : SlView W x0.Book.Rules b0.1.1 b0.1.2) (hv0_1 : SlView W x0.Store.Facts b0.2.1.1 b0.2.1.2) (hv0_2 : SlView W x0.Series.Points b0.2.2.1.1 b0.2.2.1.2) (hv0_3 : SlView W x0.Member.Spells b0.2.2.2.1.1 b0.2.2.2.1.2) (hv0_4 : SlView W x0.Member.Events b0.2.2.2.2.1 b0.2.2.2.2.2) :
    Gives Tryz.prog 65 #[vCase x0 b0] W (fun y : AC × AC × AC × AC × AC => vCase r y) (fun y => [SlRes 76 r.Book.Rules y.1.1 y.1.2, SlRes 47 r.Store.Facts y.2.1.1 y.2.1.2, SlRes 52 r.Series.Points y.2.2.1.1 y.2.2.1.2, SlRes 156 r.Member.Spells y.2.2.2.1.1 y.2.2.2.1.2, SlRes 158 r.Member.Events y.2.2.2.2.1 y.2.2.2.2.2]) := by
 unfold impl_copyCase at h
 refine en Tryz.func65 Tryz.ntmps65 ?_
 refine qs (qr (oB 2 [(2, .p 1 0), (1, .p 0 0)] [] [(38, (eCase x0 b0)), (38, [.slice none 0 0, .slice none 0 0, .slice none 0 0, .int .i64 0, .int .i64 0, .slice none 0 0, .slice none 0 0])] ?_))
 refine oe (nt (qs ?_))
 obtain ⟨t21, h22, h23⟩ := bS h
 obtain ⟨t25, h26, h27⟩ := bS h23
 obtain ⟨t29, h30, h31⟩ := bS h27
 obtain ⟨t33, h34, h35⟩ := bS h31
 refine JC_cut (τ := AC × AC × AC × (AC × AC)) (fun y37 => [(2, .p 1 0)]) (fun y37 => [(38, (eCase x0 b0)), (38, (eCase (Case.mk t21 t25 t29 t33) y37))]) (fun y37 => [SlRes 156 t33.Spells y37.2.2.2.1.1 y37.2.2.2.1.2, SlRes 158 t33.Events y37.2.2.2.2.1 y37.2.2.2.2.2, SlRes 52 t29.Points y37.2.2.1.1 y37.2.2.1.2, SlRes 47 t25.Facts y37.2.1.1 y37.2.1.2, SlRes 76 t21.Rules y37.1.1 y37.1.2]) ?_ (fun y37 => ?_)
 · refine jw [2, 1] [] ?_
   refine JC_heldN (ks := [0]) (Rk := []) 14 (by kernel_rfl) (by kernel_rfl) ?_
   refine htq 0 (.p 0 0) [] ?_
   refine htq 1 (.v (vBook x0.Book b0.1)) [] ?_
   refine hk [4, 2, 1] ?_
   refine htq 3 (.p 0 1) [] ?_
   refine htq 4 (.v (vStore x0.Store b0.2.1)) [] ?_
   refine hk [7, 4, 2, 1] ?_
   refine htq 6 (.p 0 2) [] ?_
   refine htq 7 (.v (vSeries x0.Series b0.2.2.1)) [] ?_
   refine hk [10, 7, 4, 2, 1] ?_
   refine htq 9 (.p 0 3) [] ?_
   refine hk [12, 10, 7, 4, 2] ?_
   refine htq 10 (.v (vMember x0.Member b0.2.2.2)) [] ?_
   refine hk [13, 10, 7, 4, 2] ?_
   refine ha1 2 ?_
   refine hi (fun γ0 δ hm => ?_)
   refine g1 (fun w hs => c_impl_copyBook h22 (hv0_0.kept hs.kept)) (fun y24 => ?_)
   refine gn hm [5, 13, 10, 7, 2] [] ?_
   refine ha1 5 ?_
   refine hi (fun γ0 δ hm => ?_)
   refine g1 (fun w hs => c_impl_copyStore h26 (hv0_1.kept hs.kept)) (fun y28 => ?_)
   refine gn hm [8, 5, 13, 10, 2] [] ?_
   refine ha1 8 ?_
   refine hi (fun γ0 δ hm => ?_)
   refine g1 (fun w hs => c_impl_copySeries h30 (hv0_2.kept hs.kept)) (fun y32 => ?_)
   refine gn hm [11, 8, 5, 13, 2] [] ?_
   refine ha1 11 ?_
   refine hi (fun γ0 δ hm => ?_)
   refine g1 (fun w hs => c_impl_copyMember (b0 := b0.2.2.2) h34 (hv0_3.kept hs.kept) (hv0_4.kept hs.kept)) (fun y36 => ?_)
   refine gn hm [14, 11, 8, 5, 2] [] ?_
   refine htq 12 (.v (vCase (Case.mk t21 t25 t29 t33) (y24, y28, y32, y36.1, y36.2))) [] ?_
   refine hk [15, 2] ?_
   refine ha1 13 ?_
   refine hi (fun γ0 δ hm => ?_)
   refine gs [(15, .v (vCase (Case.mk t21 t25 t29 t33) (y24, y28, y32, y36.1, y36.2))), (2, .p 1 0)] [(38, (eCase x0 b0)), (38, (eCase (Case.mk t21 t25 t29 t33) (y24, y28, y32, y36.1, y36.2)))] (fun δ2 => ?_)
   refine gd hm [2] [] ?_
   exact hd (y24, y28, y32, y36) [2] [0, 0, 0, 0, 0] 2
 refine nt (qe (rt [vCase (Case.mk t21 t25 t29 t33) y37] (fun γ w hs => ?_)))
 rw [← sI h35]
 exact ⟨(y37.1, y37.2.1, y37.2.2.1, y37.2.2.2.1, y37.2.2.2.2), rfl, hs.kept.toBelow, (hs.takeR (is := [4, 3, 2, 0, 0]) rfl).fresh⟩

theorem c_slices_Clone_int {W : World} {x0 : List Int} {a0_0 : Option Addr} {c0_0 : Nat} {r : (List Int)} (h : slices_Clone_int x0 = some r) (hv0_0 : SlView W x0 a0_0 c0_0) :
    Gives Tryz.prog 89 #[.slice a0_0 x0.length c0_0] W (fun y : AC => .slice y.1 r.length y.2) (fun y => [SlRes 3 r y.1 y.2]) := by
 unfold slices_Clone_int at h
 refine en Tryz.func89 Tryz.ntmps89 ?_
 refine qs (qr (oN 1 [] [0] ?_))
 refine oe (nt (qs (qs (qr (oN 1 [(3, .v (.slice a0_0 x0.length c0_0))] [0] ?_)))))
 rcases a0_0 with _ | d21
 · obtain rfl := hv0_0.nil rfl
   obtain rfl := hv0_0.nilE
   have h22 : (some ([] : List Int)) = some r := h
   refine oN 1 [(4, vb true)] [0] ?_
   refine oe (nt (JC_cond true (by kernel_rfl) (fun _ => ?_) (fun hb => by cases hb)))
   refine qs (qr (oN 1 [(2, .v (.slice none 0 0))] [] ?_))
   refine oe (nt (qe (nr (JE_addnil 3 (List.nil (α := Int)) rfl ?_))))
   refine rt [.slice none 0 0] (fun γ w hs => ?_)
   rw [← sI h22]
   exact ⟨(none, 0), rfl, hs.kept.toBelow, (hs.takeR (is := [0]) rfl).fresh⟩
 refine oN 1 [(4, vb false)] [0] ?_
 refine oe (nt (JC_cond false (by kernel_rfl) (fun hb => by cases hb) (fun _ => ?_)))
 refine qk (nt (qs (qr (ob [] [] 3 0 [] ([] : List Int) (own_flat (by kernel_rfl)) (fun y24 => ?_)))))
 refine oN 1 [(6, .v (.slice (some d21) x0.length c0_0))] [5] ?_
 obtain ⟨l27, hm28, h29⟩ := bS h
 refine oa 39 c0_0 Tryz.t3 (.int .i64 0) (fun γ w hs => ⟨c0_0, (hv0_0.kept hs.kept)⟩) hm28 (fun y26 => ?_)
 refine oN 1 [(2, .v (.slice y26.1 l27.length y26.2))] [] ?_
 refine oe (nt (qe (rt [.slice y26.1 l27.length y26.2] (fun γ w hs => ?_))))
 rw [← sI h29]
 exact ⟨y26, rfl, hs.kept.toBelow, (hs.takeR (is := [0]) rfl).fresh⟩

theorem c_impl_copyOffice {W : World} {x0 : Office} {b0 : AC × AC × AC × AC × AC × AC} {r : Office} (h : impl_copyOffice x0 = some r) (hv0_0 : SlView W x0.Case.Book.Rules b0.1.1 b0.1.2) (hv0_1 : SlView W x0.Case.Store.Facts b0.2.1.1 b0.2.1.2) (hv0_2 : SlView W x0.Case.Series.Points b0.2.2.1.1 b0.2.2.1.2) (hv0_3 : SlView W x0.Case.Member.Spells b0.2.2.2.1.1 b0.2.2.2.1.2) (hv0_4 : SlView W x0.Case.Member.Events b0.2.2.2.2.1.1 b0.2.2.2.2.1.2) (hv0_5 : SlView W x0.Paid b0.2.2.2.2.2.1 b0.2.2.2.2.2.2) :
    Gives Tryz.prog 51 #[vOffice x0 b0] W (fun y : AC × AC × AC × AC × AC × AC => vOffice r y) (fun y => [SlRes 76 r.Case.Book.Rules y.1.1 y.1.2, SlRes 47 r.Case.Store.Facts y.2.1.1 y.2.1.2, SlRes 52 r.Case.Series.Points y.2.2.1.1 y.2.2.1.2, SlRes 156 r.Case.Member.Spells y.2.2.2.1.1 y.2.2.2.1.2, SlRes 158 r.Case.Member.Events y.2.2.2.2.1.1 y.2.2.2.2.1.2, SlRes 3 r.Paid y.2.2.2.2.2.1 y.2.2.2.2.2.2]) := by
 unfold impl_copyOffice at h
 refine en Tryz.func51 Tryz.ntmps51 ?_
 refine qs (qr (oB 2 [(2, .p 1 0), (1, .p 0 0)] [] [(41, (eOffice x0 b0)), (41, [.slice none 0 0, .slice none 0 0, .slice none 0 0, .int .i64 0, .int .i64 0, .slice none 0 0, .slice none 0 0, .int .i64 0, .slice none 0 0])] ?_))
 refine oe (nt (qs ?_))
 obtain ⟨t21, h22, h23⟩ := bS h
 obtain ⟨t25, h26, h27⟩ := bS h23
 refine JC_cut (τ := (AC × AC × AC × AC × AC) × AC) (fun y29 => [(2, .p 1 0)]) (fun y29 => [(41, (eOffice x0 b0)), (41, (eOffice (Office.mk t21 x0.Start t25) (y29.1.1, y29.1.2.1, y29.1.2.2.1, y29.1.2.2.2.1, y29.1.2.2.2.2, y29.2)))]) (fun y29 => [SlRes 3 t25 y29.2.1 y29.2.2, SlRes 76 t21.Book.Rules y29.1.1.1 y29.1.1.2, SlRes 47 t21.Store.Facts y29.1.2.1.1 y29.1.2.1.2, SlRes 52 t21.Series.Points y29.1.2.2.1.1 y29.1.2.2.1.2, SlRes 156 t21.Member.Spells y29.1.2.2.2.1.1 y29.1.2.2.2.1.2, SlRes 158 t21.Member.Events y29.1.2.2.2.2.1 y29.1.2.2.2.2.2]) ?_ (fun y29 => ?_)
 · refine jw [2, 1] [] ?_
   refine JC_heldN (ks := [0]) (Rk := []) 10 (by kernel_rfl) (by kernel_rfl) ?_
   refine htq 0 (.p 0 0) [] ?_
   refine htq 1 (.v (vCase x0.Case (b0.1, b0.2.1, b0.2.2.1, b0.2.2.2.1, b0.2.2.2.2.1))) [] ?_
   refine hk [4, 2, 1] ?_
   refine htq 3 (.p 0 7) [] ?_
   refine htq 4 (vi x0.Start) [] ?_
   refine hk [7, 4, 2, 1] ?_
   refine htq 5 (.p 0 8) [] ?_
   refine hk [8, 7, 4, 2] ?_
   refine htq 6 (.v (.slice b0.2.2.2.2.2.1 x0.Paid.length b0.2.2.2.2.2.2)) [] ?_
   refine hk [9, 7, 4, 2] ?_
   refine ha1 2 ?_
   refine hi (fun γ0 δ hm => ?_)
   refine g1 (fun w hs => c_impl_copyCase (b0 := (b0.1, b0.2.1, b0.2.2.1, b0.2.2.2.1, b0.2.2.2.2.1)) h22 (hv0_0.kept hs.kept) (hv0_1.kept hs.kept) (hv0_2.kept hs.kept) (hv0_3.kept hs.kept) (hv0_4.kept hs.kept)) (fun y24 => ?_)
   refine gn hm [5, 9, 7, 2] [] ?_
   refine ha1 7 ?_
   refine hi (fun γ0 δ hm => ?_)
   refine g1 (fun w hs => c_slices_Clone_int h26 (hv0_5.kept hs.kept)) (fun y28 => ?_)
   refine gn hm [10, 5, 7, 2] [] ?_
   refine htq 8 (.v (vOffice (Office.mk t21 x0.Start t25) (y24.1, y24.2.1, y24.2.2.1, y24.2.2.2.1, y24.2.2.2.2, y28))) [] ?_
   refine hk [11, 2] ?_
   refine ha1 9 ?_
   refine hi (fun γ0 δ hm => ?_)
   refine gs [(11, .v (vOffice (Office.mk t21 x0.Start t25) (y24.1, y24.2.1, y24.2.2.1, y24.2.2.2.1, y24.2.2.2.2, y28))), (2, .p 1 0)] [(41, (eOffice x0 b0)), (41, (eOffice (Office.mk t21 x0.Start t25) (y24.1, y24.2.1, y24.2.2.1, y24.2.2.2.1, y24.2.2.2.2, y28)))] (fun δ2 => ?_)
   refine gd hm [2] [] ?_
   exact hd (y24, y28) [2] [0, 0, 0, 0, 0, 0] 2
 refine nt (qe (rt [vOffice (Office.mk t21 x0.Start t25) (y29.1.1, y29.1.2.1, y29.1.2.2.1, y29.1.2.2.2.1, y29.1.2.2.2.2, y29.2)] (fun γ w hs => ?_)))
 rw [← sI h27]
 exact ⟨(y29.1.1, y29.1.2.1, y29.1.2.2.1, y29.1.2.2.2.1, y29.1.2.2.2.2, y29.2), rfl, hs.kept.toBelow, (hs.takeR (is := [1, 1, 1, 1, 1, 0]) rfl).fresh⟩

theorem c_impl_PayMonth {W : World} {x0 : Office} {b0 : AC × AC × AC × AC × AC × AC} {r : Office × Int × Bool} (h : impl_PayMonth x0 = some r) (hv0_0 : SlView W x0.Case.Book.Rules b0.1.1 b0.1.2) (hv0_1 : SlView W x0.Case.Store.Facts b0.2.1.1 b0.2.1.2) (hv0_2 : SlView W x0.Case.Series.Points b0.2.2.1.1 b0.2.2.1.2) (hv0_3 : SlView W x0.Case.Member.Spells b0.2.2.2.1.1 b0.2.2.2.1.2) (hv0_4 : SlView W x0.Case.Member.Events b0.2.2.2.2.1.1 b0.2.2.2.2.1.2) (hv0_5 : SlView W x0.Paid b0.2.2.2.2.2.1 b0.2.2.2.2.2.2) :
    Gives Tryz.prog 28 #[vOffice x0 b0] W (fun y : AC × AC × AC × AC × AC × AC => .tuple #[vOffice r.1 y, .int .i64 r.2.1, .bool r.2.2]) (fun y => [SlRes 76 r.1.Case.Book.Rules y.1.1 y.1.2, SlRes 47 r.1.Case.Store.Facts y.2.1.1 y.2.1.2, SlRes 52 r.1.Case.Series.Points y.2.2.1.1 y.2.2.1.2, SlRes 156 r.1.Case.Member.Spells y.2.2.2.1.1 y.2.2.2.1.2, SlRes 158 r.1.Case.Member.Events y.2.2.2.2.1.1 y.2.2.2.2.1.2, SlRes 3 r.1.Paid y.2.2.2.2.2.1 y.2.2.2.2.2.2]) := by
 unfold impl_PayMonth at h
 refine en Tryz.func28 Tryz.ntmps28 ?_
 refine qs (qr (oB 4 [(2, .p 1 0), (1, .p 0 0)] [] [(41, (eOffice x0 b0)), (41, [.slice none 0 0, .slice none 0 0, .slice none 0 0, .int .i64 0, .int .i64 0, .slice none 0 0, .slice none 0 0, .int .i64 0, .slice none 0 0])] ?_))
 refine oe (nt (qs (qr (oN 1 [(7, .v (vOffice x0 b0))] [2, 1] ?_))))
 obtain ⟨t21, h22, h23⟩ := bS h
 refine k1 (fun γ w hs => c_impl_copyOffice (b0 := b0) h22 (hv0_0.kept hs.kept) (hv0_1.kept hs.kept) (hv0_2.kept hs.kept) (hv0_3.kept hs.kept) (hv0_4.kept hs.kept) (hv0_5.kept hs.kept)) (fun y24 => ?_)
 refine oB 2 [(5, .p 2 0)] [2, 1] [(41, (eOffice x0 b0)), (41, [.slice none 0 0, .slice none 0 0, .slice none 0 0, .int .i64 0, .int .i64 0, .slice none 0 0, .slice none 0 0, .int .i64 0, .slice none 0 0]), (41, (eOffice t21 y24))] ?_
 refine oe (nt (qs (qr (oN 1 [(9, .v (vOffice x0 b0))] [5, 2, 1] ?_))))
 obtain ⟨t25, h26, h27⟩ := bS h23
 refine k0 (fun γ w hs => c_impl_DueNow (b0 := b0) h26 (hv0_0.kept hs.kept) (hv0_1.kept hs.kept) (hv0_2.kept hs.kept) (hv0_3.kept hs.kept) (hv0_4.kept hs.kept) (hv0_5.kept hs.kept)) ?_
 refine oN 2 [(6, vi (imax 0 t25))] [5, 2, 1] ?_
 refine oe (nt (qs (qr (oN 3 [(14, vi (imax 0 t25)), (13, .v (.slice y24.2.2.2.2.2.1 t21.Paid.length y24.2.2.2.2.2.2))] [6, 5, 2, 1] ?_))))
 refine ob [] [SlRes 76 t21.Case.Book.Rules y24.1.1 y24.1.2, SlRes 47 t21.Case.Store.Facts y24.2.1.1 y24.2.1.2, SlRes 52 t21.Case.Series.Points y24.2.2.1.1 y24.2.2.1.2, SlRes 156 t21.Case.Member.Spells y24.2.2.2.1.1 y24.2.2.2.1.2, SlRes 158 t21.Case.Member.Events y24.2.2.2.2.1.1 y24.2.2.2.2.1.2, SlRes 3 t21.Paid y24.2.2.2.2.2.1 y24.2.2.2.2.2.2] 3 1 [.int .i64 (imax 0 t25)] ([imax 0 t25] : List Int) (own_flat (by kernel_rfl)) (fun y29 => ?_)
 refine JO_res (R' := [SlRes 3 t21.Paid y24.2.2.2.2.2.1 y24.2.2.2.2.2.2, SlRes 3 ([imax 0 t25] : List Int) y29.1 y29.2, SlRes 76 t21.Case.Book.Rules y24.1.1 y24.1.2, SlRes 47 t21.Case.Store.Facts y24.2.1.1 y24.2.1.2, SlRes 52 t21.Case.Series.Points y24.2.2.1.1 y24.2.2.1.2, SlRes 156 t21.Case.Member.Spells y24.2.2.2.1.1 y24.2.2.2.1.2, SlRes 158 t21.Case.Member.Events y24.2.2.2.2.1.1 y24.2.2.2.2.1.2]) [6, 0, 0, 0, 0, 0, 0] (by kernel_rfl) ?_
 obtain ⟨l32, hm33, h34⟩ := bS h27
 refine oa 39 y29.2 Tryz.t3 (.int .i64 0) (fun γ w hs => ⟨y29.2, (hs.view 1 rfl)⟩) hm33 (fun y31 => ?_)
 refine oB 2 [] [6, 5, 2, 1] [(41, (eOffice x0 b0)), (41, [.slice none 0 0, .slice none 0 0, .slice none 0 0, .int .i64 0, .int .i64 0, .slice none 0 0, .slice none 0 0, .int .i64 0, .slice none 0 0]), (41, (eOffice (Office.mk t21.Case t21.Start l32) (y24.1, y24.2.1, y24.2.2.1, y24.2.2.2.1, y24.2.2.2.2.1, y31)))] ?_
 refine oe (nt (qs (qs ?_)))
 obtain ⟨p35, hE36, h37⟩ := bS h34
 refine JC_cut (τ := Unit) (fun _ => [(1, .p 0 0), (2, .p 1 0), (5, .p 2 0), (6, vi (imax 0 t25)), (25, vb p35)]) (fun _ => [(41, (eOffice x0 b0)), (41, [.slice none 0 0, .slice none 0 0, .slice none 0 0, .int .i64 0, .int .i64 0, .slice none 0 0, .slice none 0 0, .int .i64 0, .slice none 0 0]), (41, (eOffice (Office.mk t21.Case t21.Start l32) (y24.1, y24.2.1, y24.2.2.1, y24.2.2.2.1, y24.2.2.2.2.1, y31)))]) (fun _ => [SlRes 76 t21.Case.Book.Rules y24.1.1 y24.1.2, SlRes 47 t21.Case.Store.Facts y24.2.1.1 y24.2.1.2, SlRes 52 t21.Case.Series.Points y24.2.2.1.1 y24.2.2.1.2, SlRes 156 t21.Case.Member.Spells y24.2.2.2.1.1 y24.2.2.2.1.2, SlRes 158 t21.Case.Member.Events y24.2.2.2.2.1.1 y24.2.2.2.2.1.2, SlRes 3 l32 y31.1 y31.2]) ?_ (fun _ => ?_)
 · refine qr (oN 1 [(18, .v (vOffice x0 b0))] [6, 5, 2, 1] ?_)
   obtain ⟨t38, h39, h40⟩ := bS hE36
   refine k0 (fun γ w hs => c_impl_OfficeOk (b0 := b0) h39 (hv0_0.kept hs.kept) (hv0_1.kept hs.kept) (hv0_2.kept hs.kept) (hv0_3.kept hs.kept) (hv0_4.kept hs.kept) (hv0_5.kept hs.kept)) ?_
   refine oN 2 [(21, vb (!t38))] [6, 5, 2, 1] ?_
   refine oS 21 h40 (fun h43 => ?_) (fun h44 => ?_)
   · refine oN 4 [(25, vb true)] [6, 5, 2, 1] ?_
     refine oe ?_
     obtain rfl := sI h43
     exact mt () [1, 2, 5, 6, 25] [2, 2, 2, 2, 2, 0] 3
   refine oN 1 [(22, .v (vOffice (Office.mk t21.Case t21.Start l32) (y24.1, y24.2.1, y24.2.2.1, y24.2.2.2.1, y24.2.2.2.2.1, y31)))] [21, 6, 5, 2, 1] ?_
   obtain ⟨t45, h46, h47⟩ := bS h44
   refine k0 (fun γ w hs => c_impl_OfficeOk (b0 := (y24.1, y24.2.1, y24.2.2.1, y24.2.2.2.1, y24.2.2.2.2.1, y31)) h46 (hs.view 2 rfl) (hs.view 3 rfl) (hs.view 4 rfl) (hs.view 5 rfl) (hs.view 6 rfl) (hs.view 0 rfl)) ?_
   refine oN 2 [(25, vb (!t45))] [6, 5, 2, 1] ?_
   refine oe ?_
   obtain rfl := sI h47
   exact mt () [1, 2, 5, 6, 25] [2, 2, 2, 2, 2, 0] 3
 refine nt (cC h37 (fun h54 => ?_) (fun h55 => ?_))
 · refine qs (qr (oN 1 [(26, .v (vOffice x0 b0))] [2] ?_))
   obtain ⟨t56, h57, h58⟩ := bS h54
   refine k1 (fun γ w hs => c_impl_copyOffice (b0 := b0) h57 (hv0_0.kept hs.kept) (hv0_1.kept hs.kept) (hv0_2.kept hs.kept) (hv0_3.kept hs.kept) (hv0_4.kept hs.kept) (hv0_5.kept hs.kept)) (fun y59 => ?_)
   refine oB 3 [(4, vb false), (3, vi 0)] [2] [(41, (eOffice x0 b0)), (41, (eOffice t56 y59)), (41, (eOffice (Office.mk t21.Case t21.Start l32) (y24.1, y24.2.1, y24.2.2.1, y24.2.2.2.1, y24.2.2.2.2.1, y31)))] ?_
   refine oe (nt (qe (nr (rt [vOffice t56 y59, .int .i64 0, .bool false] (fun γ w hs => ?_)))))
   rw [← sI h58]
   exact ⟨(y59.1, y59.2.1, y59.2.2.1, y59.2.2.2.1, y59.2.2.2.2.1, y59.2.2.2.2.2), rfl, hs.kept.toBelow, (hs.takeR (is := [0, 0, 0, 0, 0, 0]) rfl).fresh⟩
 refine qk (nt (qs (qr (oB 5 [(4, vb true), (3, vi (imax 0 t25))] [2] [(41, (eOffice x0 b0)), (41, (eOffice (Office.mk t21.Case t21.Start l32) (y24.1, y24.2.1, y24.2.2.1, y24.2.2.2.1, y24.2.2.2.2.1, y31))), (41, (eOffice (Office.mk t21.Case t21.Start l32) (y24.1, y24.2.1, y24.2.2.1, y24.2.2.2.1, y24.2.2.2.2.1, y31)))] ?_))))
 refine oe (nt (qe (rt [vOffice (Office.mk t21.Case t21.Start l32) (y24.1, y24.2.1, y24.2.2.1, y24.2.2.2.1, y24.2.2.2.2.1, y31), .int .i64 (imax 0 t25), .bool true] (fun γ w hs => ?_))))
 rw [← sI h55]
 exact ⟨(y24.1, y24.2.1, y24.2.2.1, y24.2.2.2.1, y24.2.2.2.2.1, y31), rfl, hs.kept.toBelow, (hs.takeR (is := [0, 0, 0, 0, 0, 0]) rfl).fresh⟩

theorem c_impl_PaidSum {W : World} {x0 : Office} {b0 : AC × AC × AC × AC × AC × AC} {r : Int} (h : impl_PaidSum x0 = some r) (hv0_0 : SlView W x0.Case.Book.Rules b0.1.1 b0.1.2) (hv0_1 : SlView W x0.Case.Store.Facts b0.2.1.1 b0.2.1.2) (hv0_2 : SlView W x0.Case.Series.Points b0.2.2.1.1 b0.2.2.1.2) (hv0_3 : SlView W x0.Case.Member.Spells b0.2.2.2.1.1 b0.2.2.2.1.2) (hv0_4 : SlView W x0.Case.Member.Events b0.2.2.2.2.1.1 b0.2.2.2.2.1.2) (hv0_5 : SlView W x0.Paid b0.2.2.2.2.2.1 b0.2.2.2.2.2.2) :
    Gives0 Tryz.prog 30 #[vOffice x0 b0] W (.int .i64 r) := by
 unfold impl_PaidSum at h
 refine en Tryz.func30 Tryz.ntmps30 ?_
 refine qs (qr (oB 2 [(1, .p 0 0)] [] [(41, (eOffice x0 b0))] ?_))
 refine oe (nt (qs (qs (qr (oN 1 [(3, .v (vOffice x0 b0))] [1] ?_)))))
 obtain ⟨t21, h22, h23⟩ := bS h
 refine k0 (fun γ w hs => c_impl_OfficeOk (b0 := b0) h22 (hv0_0.kept hs.kept) (hv0_1.kept hs.kept) (hv0_2.kept hs.kept) (hv0_3.kept hs.kept) (hv0_4.kept hs.kept) (hv0_5.kept hs.kept)) ?_
 refine oN 1 [(5, vb (!t21))] [1] ?_
 refine oe (nt (cC h23 (fun h26 => ?_) (fun h27 => ?_)))
 · refine qs (qr (oN 1 [(2, vi 0)] [] ?_))
   refine oe (nt (qe (nr ?_)))
   obtain rfl := sI h26
   exact re [.int .i64 0]
 refine qk (nt (qs (qr (oN 2 [(7, .v (.slice b0.2.2.2.2.2.1 x0.Paid.length b0.2.2.2.2.2.2))] [] ?_))))
 obtain ⟨t28, h29, h30⟩ := bS h27
 refine k0 (fun γ w hs => c_impl_total h29 (hv0_5.kept hs.kept)) ?_
 refine oN 1 [(2, vi t28)] [] ?_
 refine oe (nt (qe ?_))
 obtain rfl := sI h30
 exact re [.int .i64 t28]

theorem c_laws_FnPaidUp {W : World} {x0 : List U8} {a0_0 : Option Addr} {c0_0 : Nat} {r : Bool} (h : laws_FnPaidUp x0 = some r) (hv0_0 : SlView W x0 a0_0 c0_0) :
    Gives0 Tryz.prog 8 #[.slice a0_0 x0.length c0_0] W (.bool r) := by
 unfold laws_FnPaidUp at h
 refine en Tryz.func8 Tryz.ntmps8 ?_
 refine qs (qr (oN 1 [] [0] ?_))
 refine oe (nt (qs (qs (qr (oN 1 [(10, .v (.slice a0_0 x0.length c0_0))] [0] ?_)))))
 obtain ⟨t21, h22, h23⟩ := bS h
 refine k0 (fun γ w hs => c_laws_big h22 (hv0_0.kept hs.kept)) ?_
 refine oe (nt (cC h23 (fun h26 => ?_) (fun h27 => ?_)))
 · refine qs (qr (oN 1 [(2, vb true)] [] ?_))
   refine oe (nt (qe (nr ?_)))
   obtain rfl := sI h26
   exact re [.bool true]
 refine qk (nt (qs (qr (oN 1 [(12, .v (.slice a0_0 x0.length c0_0))] [] ?_))))
 obtain ⟨t28, h29, h30⟩ := bS h27
 refine k1 (fun γ w hs => c_spec_DrawOffice h29 (hv0_0.kept hs.kept)) (fun y31 => ?_)
 refine oB 2 [(3, .p 0 0)] [] [(41, (eOffice t28 y31))] ?_
 refine oe (nt (qs (qr (oN 1 [(14, .v (vOffice t28 y31))] [3] ?_))))
 obtain ⟨t32, h33, h34⟩ := bS h30
 refine k0 (fun γ w hs => c_impl_DueNow (b0 := y31) h33 (hs.view 0 rfl) (hs.view 1 rfl) (hs.view 2 rfl) (hs.view 3 rfl) (hs.view 4 rfl) (hs.view 5 rfl)) ?_
 refine oN 1 [(4, vi t32)] [3] ?_
 refine oe (nt (qs (qr (oN 1 [(17, .v (vOffice t28 y31))] [4, 3] ?_))))
 obtain ⟨t36, h37, h38⟩ := bS h34
 refine k1 (fun γ w hs => c_impl_PayMonth (b0 := y31) h37 (hs.view 0 rfl) (hs.view 1 rfl) (hs.view 2 rfl) (hs.view 3 rfl) (hs.view 4 rfl) (hs.view 5 rfl)) (fun y39 => ?_)
 refine oB 8 [(7, vb t36.2.2), (6, vi t36.2.1), (5, .p 1 0)] [4, 3] [(41, (eOffice t28 y31)), (41, (eOffice t36.1 y39))] ?_
 refine oe (nt (qs (qr (oB 3 [(8, .p 2 0)] [7, 6, 5, 4, 3] [(41, (eOffice t28 y31)), (41, (eOffice t36.1 y39)), (41, (eOffice t36.1 y39))] ?_))))
 refine oe (nt (qs (qr (ob [] [SlRes 76 t36.1.Case.Book.Rules y39.1.1 y39.1.2, SlRes 47 t36.1.Case.Store.Facts y39.2.1.1 y39.2.1.2, SlRes 52 t36.1.Case.Series.Points y39.2.2.1.1 y39.2.2.1.2, SlRes 156 t36.1.Case.Member.Spells y39.2.2.2.1.1 y39.2.2.2.1.2, SlRes 158 t36.1.Case.Member.Events y39.2.2.2.2.1.1 y39.2.2.2.2.1.2, SlRes 3 t36.1.Paid y39.2.2.2.2.2.1 y39.2.2.2.2.2.2, SlRes 76 t28.Case.Book.Rules y31.1.1 y31.1.2, SlRes 47 t28.Case.Store.Facts y31.2.1.1 y31.2.1.2, SlRes 52 t28.Case.Series.Points y31.2.2.1.1 y31.2.2.1.2, SlRes 156 t28.Case.Member.Spells y31.2.2.2.1.1 y31.2.2.2.1.2, SlRes 158 t28.Case.Member.Events y31.2.2.2.2.1.1 y31.2.2.2.2.1.2, SlRes 3 t28.Paid y31.2.2.2.2.2.1 y31.2.2.2.2.2.2] 3 0 [] ([] : List Int) (own_flat (by kernel_rfl)) (fun y40 => ?_)))))
 refine oN 2 [(25, .v (.slice y39.2.2.2.2.2.1 t36.1.Paid.length y39.2.2.2.2.2.2))] [23, 8, 7, 6, 5, 4, 3] ?_
 obtain ⟨l43, hm44, h45⟩ := bS h38
 refine oa 39 y39.2.2.2.2.2.2 Tryz.t3 (.int .i64 0) (fun γ w hs => ⟨y39.2.2.2.2.2.2, (hs.view 6 rfl)⟩) hm44 (fun y42 => ?_)
 refine oB 2 [] [8, 7, 6, 5, 4, 3] [(41, (eOffice t28 y31)), (41, (eOffice t36.1 y39)), (41, (eOffice (Office.mk t36.1.Case t36.1.Start l43) (y39.1, y39.2.1, y39.2.2.1, y39.2.2.2.1, y39.2.2.2.2.1, y42)))] ?_
 refine oe (nt (qs (qs ?_)))
 obtain ⟨p46, hE47, h48⟩ := bS h45
 refine JC_cut (τ := Unit) (fun _ => [(3, .p 0 0), (4, vi t32), (5, .p 1 0), (6, vi t36.2.1), (8, .p 2 0), (39, vb p46)]) (fun _ => [(41, (eOffice t28 y31)), (41, (eOffice t36.1 y39)), (41, (eOffice (Office.mk t36.1.Case t36.1.Start l43) (y39.1, y39.2.1, y39.2.2.1, y39.2.2.2.1, y39.2.2.2.2.1, y42)))]) (fun _ => [SlRes 76 t28.Case.Book.Rules y31.1.1 y31.1.2, SlRes 47 t28.Case.Store.Facts y31.2.1.1 y31.2.1.2, SlRes 52 t28.Case.Series.Points y31.2.2.1.1 y31.2.2.1.2, SlRes 156 t28.Case.Member.Spells y31.2.2.2.1.1 y31.2.2.2.1.2, SlRes 158 t28.Case.Member.Events y31.2.2.2.2.1.1 y31.2.2.2.2.1.2, SlRes 3 t28.Paid y31.2.2.2.2.2.1 y31.2.2.2.2.2.2, SlRes 76 t36.1.Case.Book.Rules y39.1.1 y39.1.2, SlRes 47 t36.1.Case.Store.Facts y39.2.1.1 y39.2.1.2, SlRes 52 t36.1.Case.Series.Points y39.2.2.1.1 y39.2.2.1.2, SlRes 156 t36.1.Case.Member.Spells y39.2.2.2.1.1 y39.2.2.2.1.2, SlRes 158 t36.1.Case.Member.Events y39.2.2.2.2.1.1 y39.2.2.2.2.1.2, SlRes 3 t36.1.Paid y39.2.2.2.2.2.1 y39.2.2.2.2.2.2, SlRes 3 l43 y42.1 y42.2]) ?_ (fun _ => ?_)
 · refine qr (oN 3 [(30, vb (!t36.2.2))] [8, 6, 5, 4, 3] ?_)
   refine oS 30 hE47 (fun h50 => ?_) (fun h51 => ?_)
   · refine oN 9 [(39, vb true)] [8, 6, 5, 4, 3] ?_
     refine oe ?_
     obtain rfl := sI h50
     exact mt () [3, 4, 5, 6, 8, 39] [7, 7, 7, 7, 7, 7, 1, 1, 1, 1, 1, 1, 0] 3
   refine oN 9 [(39, vb ((l43.length : Int) != (w64 ((t28.Paid.length : Int) + 1))))] [8, 6, 5, 4, 3] ?_
   refine oe ?_
   obtain rfl := sI h51
   exact mt () [3, 4, 5, 6, 8, 39] [7, 7, 7, 7, 7, 7, 1, 1, 1, 1, 1, 1, 0] 3
 refine nt (cC h48 (fun h53 => ?_) (fun h54 => ?_))
 · refine qs (qr (oN 1 [(2, vb false)] [] ?_))
   refine oe (nt (qe (nr ?_)))
   obtain rfl := sI h53
   exact re [.bool false]
 refine qk (nt (qs (qr (oN 6 [(45, vi (w64 ((l43.length : Int) - 1))), (41, .v (.slice y42.1 l43.length y42.2))] [3, 4, 5, 6] ?_))))
 obtain ⟨x55, hx56, h57⟩ := bS h54
 refine oi 1 (fun γ w hs => (hs.view 12 rfl)) hx56 ?_
 refine ol 3 0 (.int .i64 x55) (fun γ w hs => (hs.view 12 rfl).flatq hx56) ?_
 refine oN 1 [(9, vi x55)] [3, 4, 5, 6] ?_
 refine oe (nt (qs ?_))
 obtain ⟨p58, hE59, h60⟩ := bS h57
 refine JC_cut (τ := Unit) (fun _ => [(2, vb p58)]) (fun _ => [(41, (eOffice t28 y31)), (41, (eOffice t36.1 y39)), (41, (eOffice (Office.mk t36.1.Case t36.1.Start l43) (y39.1, y39.2.1, y39.2.2.1, y39.2.2.2.1, y39.2.2.2.2.1, y42)))]) (fun _ => [SlRes 76 t28.Case.Book.Rules y31.1.1 y31.1.2, SlRes 47 t28.Case.Store.Facts y31.2.1.1 y31.2.1.2, SlRes 52 t28.Case.Series.Points y31.2.2.1.1 y31.2.2.1.2, SlRes 156 t28.Case.Member.Spells y31.2.2.2.1.1 y31.2.2.2.1.2, SlRes 158 t28.Case.Member.Events y31.2.2.2.2.1.1 y31.2.2.2.2.1.2, SlRes 3 t28.Paid y31.2.2.2.2.2.1 y31.2.2.2.2.2.2, SlRes 76 t36.1.Case.Book.Rules y39.1.1 y39.1.2, SlRes 47 t36.1.Case.Store.Facts y39.2.1.1 y39.2.1.2, SlRes 52 t36.1.Case.Series.Points y39.2.2.1.1 y39.2.2.1.2, SlRes 156 t36.1.Case.Member.Spells y39.2.2.2.1.1 y39.2.2.2.1.2, SlRes 158 t36.1.Case.Member.Events y39.2.2.2.2.1.1 y39.2.2.2.2.1.2, SlRes 3 t36.1.Paid y39.2.2.2.2.2.1 y39.2.2.2.2.2.2, SlRes 3 l43 y42.1 y42.2]) ?_ (fun _ => ?_)
 · refine JC_quiet (by kernel_rfl) (by kernel_rfl) ?_
   refine qN 5 [(52, vb (t36.2.1 == (imax 0 t32)))] [9, 3, 5, 6] ?_
   refine qS 52 hE59 (fun h62 => ?_) (fun h63 => ?_)
   · refine qN 5 [(57, vb (x55 == t36.2.1))] [3, 5, 6] ?_
     refine qS 57 h62 (fun h65 => ?_) (fun h66 => ?_)
     · refine qN 1 [(58, .v (vOffice t36.1 y39))] [57, 3, 5, 6] ?_
       obtain ⟨t67, h68, h69⟩ := bS h65
       refine q0 (fun γ w hs => c_impl_PaidSum (b0 := y39) h68 (hs.view 6 rfl) (hs.view 7 rfl) (hs.view 8 rfl) (hs.view 9 rfl) (hs.view 10 rfl) (hs.view 11 rfl)) ?_
       refine qN 1 [(60, .v (vOffice t28 y31))] [59, 57, 5, 6] ?_
       obtain ⟨t71, h72, h73⟩ := bS h69
       refine q0 (fun γ w hs => c_impl_PaidSum (b0 := y31) h72 (hs.view 0 rfl) (hs.view 1 rfl) (hs.view 2 rfl) (hs.view 3 rfl) (hs.view 4 rfl) (hs.view 5 rfl)) ?_
       refine qN 5 [(66, vb (t67 == (w64 (t71 + t36.2.1))))] [5] ?_
       refine qS 66 h73 (fun h76 => ?_) (fun h77 => ?_)
       · refine qN 1 [(67, .v (vOffice t36.1 y39))] [66] ?_
         obtain ⟨t78, h79, h80⟩ := bS h76
         refine q0 (fun γ w hs => c_impl_OfficeOk (b0 := y39) h79 (hs.view 6 rfl) (hs.view 7 rfl) (hs.view 8 rfl) (hs.view 9 rfl) (hs.view 10 rfl) (hs.view 11 rfl)) ?_
         refine qN 2 [(2, vb t78)] [] ?_
         refine qz ?_
         obtain rfl := sI h80
         exact mt () [2] [0, 0, 0, 0, 0, 0, 0, 0, 0, 0, 0, 0, 0] 3
       refine qN 4 [(2, vb false)] [] ?_
       refine qz ?_
       obtain rfl := sI h77
       exact mt () [2] [0, 0, 0, 0, 0, 0, 0, 0, 0, 0, 0, 0, 0] 3
     refine qN 13 [(2, vb false)] [] ?_
     refine qz ?_
     obtain rfl := sI h66
     exact mt () [2] [0, 0, 0, 0, 0, 0, 0, 0, 0, 0, 0, 0, 0] 3
   refine qN 18 [(2, vb false)] [] ?_
   refine qz ?_
   obtain rfl := sI h63
   exact mt () [2] [0, 0, 0, 0, 0, 0, 0, 0, 0, 0, 0, 0, 0] 3
 refine nt (qe ?_)
 obtain rfl := sI h60
 exact re [.bool p58]
end Go.Pen
