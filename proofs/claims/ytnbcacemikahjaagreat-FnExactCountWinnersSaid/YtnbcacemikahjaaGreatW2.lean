/-
  Each Go function does what its plain function says: written by a program of ours.
-/
import Derived.Test.YtnbcacemikahjaaGreatW1
import Derived.Test.YtnbcacemikahjaaGreatProg
import Derived.Test.YtnbcacemikahjaaGreatPenK
import Derived.Test.YtnbcacemikahjaaGreatPenQ
import Derived.Test.YtnbcacemikahjaaGreatPenU
namespace Go.Pen
open Go.Proofs Go.RowKit
set_option linter.unusedVariables false
set_option linter.unusedSimpArgs false
set_option maxRecDepth 100000
set_option maxHeartbeats 4000000

theorem c_spec_l22Vars {W : World} {x0 : Case} {b0 : AC × AC × AC × AC × AC} {x1 : Int} {x2 : Int} {r : (List Frac) × Bool} (h : spec_l22Vars x0 x1 x2 = some r) (hv0_0 : SlView W x0.Book.Rules b0.1.1 b0.1.2) (hv0_1 : SlView W x0.Store.Facts b0.2.1.1 b0.2.1.2) (hv0_2 : SlView W x0.Series.Points b0.2.2.1.1 b0.2.2.1.2) (hv0_3 : SlView W x0.Member.Spells b0.2.2.2.1.1 b0.2.2.2.1.2) (hv0_4 : SlView W x0.Member.Events b0.2.2.2.2.1 b0.2.2.2.2.2) :
    Gives Tryz.prog 149 #[vCase x0 b0, .int .i64 x1, .int .i64 x2] W (fun y : AC => .tuple #[.slice y.1 r.1.length y.2, .bool r.2]) (fun y => [SlRes 118 r.1 y.1 y.2]) := by
 unfold spec_l22Vars at h
 refine en Tryz.func149 Tryz.ntmps149 ?_
 refine qs (qr (oB 3 [(3, .p 0 0)] [1, 2] [(54, (eCase x0 b0))] ?_))
 refine oe (nt (qs (qs ?_)))
 obtain ⟨p21, hE22, h23⟩ := bS h
 refine JC_cut (τ := Unit) (fun _ => [(1, vi x1), (2, vi x2), (3, .p 0 0), (32, vb p21)]) (fun _ => [(54, (eCase x0 b0))]) (fun _ => []) ?_ (fun _ => ?_)
 · refine qr (oN 1 [(18, vi x1)] [3, 1, 2] ?_)
   obtain ⟨t24, h25, h26⟩ := bS hE22
   refine k0 (fun γ w hs => c_spec_MonthOk h25) ?_
   refine oN 2 [(21, vb (!t24))] [3, 1, 2] ?_
   refine oS 21 h26 (fun h29 => ?_) (fun h30 => ?_)
   · refine oN 11 [(32, vb true)] [3, 1, 2] ?_
     refine oe ?_
     obtain rfl := sI h29
     exact mt () [1, 2, 3, 32] [] 1
   refine oN 1 [(22, vi x2)] [21, 3, 1, 2] ?_
   obtain ⟨t31, h32, h33⟩ := bS h30
   refine k0 (fun γ w hs => c_spec_MonthOk h32) ?_
   refine oN 3 [(26, vb (!t31))] [3, 1, 2] ?_
   refine oS 26 h33 (fun h36 => ?_) (fun h37 => ?_)
   · refine oN 6 [(32, vb true)] [3, 1, 2] ?_
     refine oe ?_
     obtain rfl := sI h36
     exact mt () [1, 2, 3, 32] [] 1
   refine oN 6 [(32, vb (decide (x1 < x0.Member.Joined)))] [3, 1, 2] ?_
   refine oe ?_
   obtain rfl := sI h37
   exact mt () [1, 2, 3, 32] [] 1
 refine nt (cC h23 (fun h41 => ?_) (fun h42 => ?_))
 · refine qs (qr (ob [] [] 118 0 [] ([] : List Frac) (own_flat (by kernel_rfl)) (fun y43 => ?_)))
   refine oN 2 [(7, vb false), (6, .v (.slice y43.1 ([] : List Frac).length y43.2))] [] ?_
   refine oe (nt (qe (nr (rt [.slice y43.1 ([] : List Frac).length y43.2, .bool false] (fun γ w hs => ?_)))))
   rw [← sI h41]
   exact ⟨y43, rfl, hs.kept.toBelow, (hs.takeR (is := [0]) rfl).fresh⟩
 refine qk (nt (qs (qr (oN 4 [(38, vi x1), (37, .v (.slice b0.2.2.2.1.1 x0.Member.Spells.length b0.2.2.2.1.2))] [1, 2, 3] ?_))))
 obtain ⟨t45, h46, h47⟩ := bS h42
 refine k0 (fun γ w hs => c_spec_ServiceIn h46 (hv0_3.kept hs.kept)) ?_
 obtain ⟨t49, h50, h51⟩ := bS h47
 refine k0 (fun γ w hs => c_spec_FracNew h50) ?_
 refine oB 6 [(8, .p 1 0)] [1, 2, 3] [(54, (eCase x0 b0)), (118, (eFrac t49.1))] ?_
 refine oe (nt (qs (qr (oN 4 [(47, vi x2), (46, vi x1), (45, .v (vStore x0.Store b0.2.1))] [8, 1, 2, 3] ?_))))
 obtain ⟨t53, h54, h55⟩ := bS h51
 refine k0 (fun γ w hs => c_spec_FinalPay h54 (hv0_1.kept hs.kept)) ?_
 refine oN 5 [(10, vi t53.1)] [8, 1, 2, 3] ?_
 refine oe (nt (qs (qr (oN 7 [(58, vi x2), (57, vi x1), (56, vi x0.Member.Joined), (53, .v (vSeries x0.Series b0.2.2.1))] [10, 8, 1, 3] ?_))))
 obtain ⟨t57, h58, h59⟩ := bS h55
 refine k0 (fun γ w hs => c_spec_IndexRatio h58 (hv0_2.kept hs.kept)) ?_
 refine oB 6 [(13, vb t57.2), (12, .p 2 0)] [10, 8, 1, 3] [(54, (eCase x0 b0)), (118, (eFrac t49.1)), (118, (eFrac t57.1))] ?_
 refine oe (nt (qs (qs (qr (oN 2 [(63, vb (!t57.2))] [12, 10, 8, 1, 3] ?_)))))
 refine oe (nt ?_)
 obtain ⟨k64, hk65, h104⟩ := jS h59
 refine JC_cutP (τ := (Int × Int) × (Unit)) (fun y => k64 y.1 = some r) (fun y63 => [(12, .p 2 0), (10, vi t53.1), (8, .p 1 0), (1, vi x1), (3, .p 0 0)]) (fun y63 => [(54, (eCase x0 b0)), (118, (eFrac t49.1)), (118, (eFrac (Frac.mk y63.1.1 y63.1.2)))]) (fun y63 => []) ?_ (fun y63 h66p => ?_)
 · refine cC h104 (fun h106 => ?_) (fun h107 => ?_)
   · refine qr (oB 2 [] [12, 10, 8, 1, 3] [(54, (eCase x0 b0)), (118, (eFrac t49.1)), (118, (eFrac (Frac.mk 1 1)))] ?_)
     exact oe (mp ((1, 1), ()) h106 [12, 10, 8, 1, 3] [] 3)
   exact qk (mp ((t57.1.Num, t57.1.Den), ()) h107 [12, 10, 8, 1, 3] [] 3)
 have h66 := (congrFun hk65 _).symm.trans h66p
 refine nt (qs (qr (oN 1 [(14, vi 0)] [12, 10, 8, 1, 3] ?_)))
 refine oe (nt (qs (qr (oN 3 [(67, .v (.slice b0.2.2.2.2.1 x0.Member.Events.length b0.2.2.2.2.2))] [14, 12, 10, 8, 1, 3] ?_))))
 obtain ⟨t67, h68, h69⟩ := bS h66
 refine k0 (fun γ w hs => c_spec_MonthOfKind h68 (hv0_4.kept hs.kept)) ?_
 refine oN 1 [(15, vi t67)] [14, 12, 10, 8, 1, 3] ?_
 refine oe (nt (qs (qs ?_)))
 obtain ⟨p71, hE72, h73⟩ := bS h69
 refine JC_cut (τ := Unit) (fun _ => [(1, vi x1), (3, .p 0 0), (8, .p 1 0), (10, vi t53.1), (12, .p 2 0), (14, vi 0), (15, vi t67), (75, vb p71)]) (fun _ => [(54, (eCase x0 b0)), (118, (eFrac t49.1)), (118, (eFrac (Frac.mk y63.1.1 y63.1.2)))]) (fun _ => []) ?_ (fun _ => ?_)
 · refine qr (oN 3 [(71, vb (decide (t67 ≥ 0)))] [15, 14, 12, 10, 8, 1, 3] ?_)
   refine oS 71 hE72 (fun h75 => ?_) (fun h76 => ?_)
   · refine oN 4 [(75, vb (decide (t67 ≤ x1)))] [15, 14, 12, 10, 8, 1, 3] ?_
     refine oe ?_
     obtain rfl := sI h75
     exact mt () [1, 3, 8, 10, 12, 14, 15, 75] [] 3
   refine oN 4 [(75, vb false)] [15, 14, 12, 10, 8, 1, 3] ?_
   refine oe ?_
   obtain rfl := sI h76
   exact mt () [1, 3, 8, 10, 12, 14, 15, 75] [] 3
 refine nt ?_
 obtain ⟨k80, hk81, h100⟩ := jS h73
 refine JC_cutP (τ := (Int) × (Unit)) (fun y => k80 y.1 = some r) (fun y79 => [(1, vi x1), (3, .p 0 0), (8, .p 1 0), (10, vi t53.1), (12, .p 2 0), (14, vi y79.1)]) (fun y79 => [(54, (eCase x0 b0)), (118, (eFrac t49.1)), (118, (eFrac (Frac.mk y63.1.1 y63.1.2)))]) (fun y79 => []) ?_ (fun y79 h82p => ?_)
 · refine cC h100 (fun h102 => ?_) (fun h103 => ?_)
   · refine qr (oN 4 [(14, vi (w64 (x1 - t67)))] [1, 3, 8, 10, 12] ?_)
     exact oe (mp (w64 (x1 - t67), ()) h102 [1, 3, 8, 10, 12, 14] [] 3)
   exact qk (mp (0, ()) h103 [1, 3, 8, 10, 12, 14] [] 3)
 have h82 := (congrFun hk81 _).symm.trans h82p
 refine nt (qs (qr (oB 3 [(16, .p 3 0)] [1, 3, 8, 10, 12, 14] [(54, (eCase x0 b0)), (118, (eFrac t49.1)), (118, (eFrac (Frac.mk y63.1.1 y63.1.2))), (118, (eFrac (Frac.mk 0 1)))] ?_)))
 refine oe (nt (qs ?_))
 obtain ⟨t83, h84, h85⟩ := bS h82
 refine JC_cut (τ := AC) (fun y88 => [(17, .v (.slice y88.1 ([t49.1, Frac.mk t53.1 1, Frac.mk t83 1, Frac.mk y63.1.1 y63.1.2, Frac.mk y79.1 1, Frac.mk x1 1, Frac.mk 0 1, Frac.mk 0 1] : List Frac).length y88.2))]) (fun y88 => [(54, (eCase x0 b0)), (118, (eFrac t49.1)), (118, (eFrac (Frac.mk y63.1.1 y63.1.2))), (118, (eFrac (Frac.mk 0 1)))]) (fun y88 => [SlRes 118 ([t49.1, Frac.mk t53.1 1, Frac.mk t83 1, Frac.mk y63.1.1 y63.1.2, Frac.mk y79.1 1, Frac.mk x1 1, Frac.mk 0 1, Frac.mk 0 1] : List Frac) y88.1 y88.2]) ?_ (fun y88 => ?_)
 · refine jw [16, 1, 3, 8, 10, 12, 14] [] ?_
   refine JC_heldN (ks := [0, 1, 2, 3]) (Rk := []) 18 (by kernel_rfl) (by kernel_rfl) ?_
   refine htq 0 (.v (vFrac t49.1)) [] ?_
   refine hk [80, 16, 1, 3, 10, 12, 14] ?_
   refine htq 1 (vi t53.1) [] ?_
   refine hk [81, 80, 16, 1, 3, 12, 14] ?_
   refine htq 2 (.v (vFrac (Frac.mk t53.1 1))) [] ?_
   refine hk [82, 80, 16, 1, 3, 12, 14] ?_
   refine htq 3 (.p 0 3) [] ?_
   refine hk [83, 82, 80, 16, 1, 12, 14] ?_
   refine htq 4 (.p 0 3) [] ?_
   refine hk [84, 82, 80, 16, 1, 12, 14] ?_
   refine htq 5 (vi x0.Member.Birth) [] ?_
   refine hk [85, 82, 80, 16, 1, 12, 14] ?_
   refine htq 6 (vi x1) [] ?_
   refine htq 9 (.v (vFrac (Frac.mk y63.1.1 y63.1.2))) [] ?_
   refine hk [89, 86, 85, 82, 80, 16, 1, 14] ?_
   refine htq 10 (vi y79.1) [] ?_
   refine hk [90, 89, 86, 85, 82, 80, 16, 1] ?_
   refine htq 11 (.v (vFrac (Frac.mk y79.1 1))) [] ?_
   refine hk [91, 89, 86, 85, 82, 80, 16, 1] ?_
   refine htq 12 (vi x1) [] ?_
   refine hk [92, 91, 89, 86, 85, 82, 80, 16] ?_
   refine htq 13 (.v (vFrac (Frac.mk x1 1))) [] ?_
   refine hk [93, 91, 89, 86, 85, 82, 80, 16] ?_
   refine htq 14 (.v (vFrac (Frac.mk 0 1))) [] ?_
   refine htq 15 (.v (vFrac (Frac.mk 0 1))) [] ?_
   refine hk [95, 94, 93, 91, 89, 86, 85, 82, 80] ?_
   refine ha1 7 ?_
   refine hi (fun γ0 δ hm => ?_)
   refine g0 (fun w hs => c_spec_AgeAt h84) ?_
   refine gn hm [87, 95, 94, 93, 91, 89, 82, 80] [] ?_
   refine htq 8 (.v (vFrac (Frac.mk t83 1))) [] ?_
   refine hk [88, 95, 94, 93, 91, 89, 82, 80] ?_
   refine ha1 16 ?_
   refine hi (fun γ0 δ hm => ?_)
   refine gb [] [] 118 8 [.int .i64 t49.1.Num, .int .i64 t49.1.Den, .int .i64 t53.1, .int .i64 1, .int .i64 t83, .int .i64 1, .int .i64 y63.1.1, .int .i64 y63.1.2, .int .i64 y79.1, .int .i64 1, .int .i64 x1, .int .i64 1, .int .i64 0, .int .i64 1, .int .i64 0, .int .i64 1] ([t49.1, Frac.mk t53.1 1, Frac.mk t83 1, Frac.mk y63.1.1 y63.1.2, Frac.mk y79.1 1, Frac.mk x1 1, Frac.mk 0 1, Frac.mk 0 1] : List Frac) (own_flat (by kernel_rfl)) (fun y87 => ?_)
   refine gn hm [96] [] ?_
   refine htq 17 (.v (.slice y87.1 ([t49.1, Frac.mk t53.1 1, Frac.mk t83 1, Frac.mk y63.1.1 y63.1.2, Frac.mk y79.1 1, Frac.mk x1 1, Frac.mk 0 1, Frac.mk 0 1] : List Frac).length y87.2)) [] ?_
   refine hk [17] ?_
   exact hd y87 [17] [0] 4
 refine nt (qs (qs (qr (oN 1 [(97, .v (.slice y88.1 ([t49.1, Frac.mk t53.1 1, Frac.mk t83 1, Frac.mk y63.1.1 y63.1.2, Frac.mk y79.1 1, Frac.mk x1 1, Frac.mk 0 1, Frac.mk 0 1] : List Frac).length y88.2))] [17] ?_))))
 obtain ⟨t89, h90, h91⟩ := bS h85
 refine k0 (fun γ w hs => c_spec_l08Vars h90 (hs.view 0 rfl)) ?_
 refine oN 1 [(99, vb (!t89))] [17] ?_
 refine oe (nt (cC h91 (fun h96 => ?_) (fun h97 => ?_)))
 · refine qs (qr (ob [] [SlRes 118 ([t49.1, Frac.mk t53.1 1, Frac.mk t83 1, Frac.mk y63.1.1 y63.1.2, Frac.mk y79.1 1, Frac.mk x1 1, Frac.mk 0 1, Frac.mk 0 1] : List Frac) y88.1 y88.2] 118 0 [] ([] : List Frac) (own_flat (by kernel_rfl)) (fun y98 => ?_)))
   refine oN 2 [(7, vb false), (6, .v (.slice y98.1 ([] : List Frac).length y98.2))] [] ?_
   refine oe (nt (qe (nr (rt [.slice y98.1 ([] : List Frac).length y98.2, .bool false] (fun γ w hs => ?_)))))
   rw [← sI h96]
   exact ⟨y98, rfl, hs.kept.toBelow, (hs.takeR (is := [0]) rfl).fresh⟩
 refine qk (nt (qs (qr (oN 3 [(7, vb true), (6, .v (.slice y88.1 ([t49.1, Frac.mk t53.1 1, Frac.mk t83 1, Frac.mk y63.1.1 y63.1.2, Frac.mk y79.1 1, Frac.mk x1 1, Frac.mk 0 1, Frac.mk 0 1] : List Frac).length y88.2))] [] ?_))))
 refine oe (nt (qe (rt [.slice y88.1 ([t49.1, Frac.mk t53.1 1, Frac.mk t83 1, Frac.mk y63.1.1 y63.1.2, Frac.mk y79.1 1, Frac.mk x1 1, Frac.mk 0 1, Frac.mk 0 1] : List Frac).length y88.2, .bool true] (fun γ w hs => ?_))))
 rw [← sI h97]
 exact ⟨y88, rfl, hs.kept.toBelow, (hs.takeR (is := [0]) rfl).fresh⟩

theorem c_spec_l10For {W : World} {x0 : Book} {a0_0 : Option Addr} {c0_0 : Nat} {x1 : Int} {x2 : Int} {x3 : Int} {r : Int} (h : spec_l10For x0 x1 x2 x3 = some r) (hv0_0 : SlView W x0.Rules a0_0 c0_0) :
    Gives0 Tryz.prog 114 #[vBook x0 (a0_0, c0_0), .int .i64 x1, .int .i64 x2, .int .i64 x3] W (.int .i64 r) := by
 unfold spec_l10For at h
 refine en Tryz.func114 Tryz.ntmps114 ?_
 refine qs (qr (oB 2 [(4, .p 0 0)] [1, 2, 3] [(42, (eBook x0 (a0_0, c0_0)))] ?_))
 refine oe (nt (qs (qr (oN 1 [(9, vi (-1))] [4, 1, 2, 3] ?_))))
 refine oe (nt (qs (qs (qr (oN 1 [(10, vi 0)] [9, 4, 1, 2, 3] ?_)))))
 refine oe (nt ?_)
 obtain ⟨r24, hL25, h26⟩ := bS h
 obtain ⟨k27, hk28, h26⟩ := brkS h26
 refine JC_cutP (τ := (Int) × (Unit)) (fun y => k27 y.1 = some r) (fun y32 => [(9, vi y32.1)]) (fun y32 => [(42, (eBook x0 (a0_0, c0_0)))]) (fun y32 => []) ?_ (fun y32 h33p => ?_)
 · refine qb (lp Unit hL25 (fun s21 y22 => [(10, vi s21.1), (9, vi s21.2), (4, .p 0 0), (1, vi x1), (2, vi x2), (3, vi x3)]) (fun s21 y22 => [(42, (eBook x0 (a0_0, c0_0)))]) (fun s21 y22 => []) () [10, 9, 4, 1, 2, 3] [] 1 (fun s21 y22 t23 h29 hd30 => ?_))
   refine qs (qs (qr (oN 5 [(16, vb (decide (s21.1 < (x0.Rules.length : Int))))] [10, 9, 4, 1, 2, 3] ?_)))
   refine oe (nt (cC h29 (fun h35 => ?_) (fun h36 => ?_)))
   · refine qk (nt (qs (qb (qs (qr (oN 3 [(21, vi s21.1), (20, .v (.slice a0_0 x0.Rules.length c0_0))] [10, 9, 4, 1, 2, 3] ?_))))))
     obtain ⟨x37, hx38, h39⟩ := bS h35
     refine oi 7 (fun γ w hs => (hv0_0.kept hs.kept)) hx38 ?_
     obtain ⟨_, ⟨a40, c41, rfl, hv42⟩, hc43⟩ := SlView.at hv0_0 (idx_some hx38).2.2
     refine ol 69 0 (vRule x37 (a40, c41)) (fun γ w hs => ⟨(hv0_0.kept hs.kept).ne (idx_some hx38).2.2, hc43.kept hs.kept⟩) ?_
     refine oB 2 [(11, .p 1 0)] [10, 9, 4, 1, 2, 3] [(42, (eBook x0 (a0_0, c0_0))), (69, (eRule x37 (a40, c41)))] ?_
     refine oe (nt (qs ?_))
     obtain ⟨p44, hE45, h46⟩ := bS h39
     refine JC_cut (τ := Unit) (fun _ => [(1, vi x1), (2, vi x2), (3, vi x3), (4, .p 0 0), (9, vi s21.2), (10, vi s21.1), (60, vb p44)]) (fun _ => [(42, (eBook x0 (a0_0, c0_0))), (69, (eRule x37 (a40, c41)))]) (fun _ => []) ?_ (fun _ => ?_)
     · refine JC_quiet (by kernel_rfl) (by kernel_rfl) ?_
       refine qN 5 [(28, vb (x37.Name == x1))] [11, 10, 9, 4, 1, 2, 3] ?_
       refine qS 28 hE45 (fun h48 => ?_) (fun h49 => ?_)
       · refine qN 6 [(34, vb (decide (x37.From ≤ x2)))] [11, 10, 9, 4, 1, 2, 3] ?_
         refine qS 34 h48 (fun h51 => ?_) (fun h52 => ?_)
         · refine qN 6 [(40, vb (decide (x2 < x37.To)))] [11, 10, 9, 4, 1, 2, 3] ?_
           refine qS 40 h51 (fun h54 => ?_) (fun h55 => ?_)
           · refine qN 6 [(46, vb (decide (x3 < x37.Joined)))] [11, 10, 9, 4, 1, 2, 3] ?_
             refine qS 46 h54 (fun h57 => ?_) (fun h58 => ?_)
             · refine qN 3 [(49, vb (decide (s21.2 < 0)))] [46, 11, 10, 9, 4, 1, 2, 3] ?_
               refine qS 49 h57 (fun h60 => ?_) (fun h61 => ?_)
               · refine qN 11 [(60, vb true)] [10, 9, 4, 1, 2, 3] ?_
                 refine qz ?_
                 obtain rfl := sI h60
                 exact mt () [1, 2, 3, 4, 9, 10, 60] [] 2
               refine qN 5 [(54, vi s21.2), (53, .v (.slice a0_0 x0.Rules.length c0_0)), (51, vi x37.Rank)] [49, 46, 10, 9, 4, 1, 2, 3] ?_
               obtain ⟨x62, hx63, h64⟩ := bS h61
               refine qi 7 (fun γ w hs => (hv0_0.kept hs.kept)) hx63 ?_
               refine qN 1 [(56, .q a0_0 (Int.toNat s21.2 * 7 + 4))] [51, 49, 46, 10, 9, 4, 1, 2, 3] ?_
               obtain ⟨_, ⟨a65, c66, rfl, hv67⟩, hc68⟩ := SlView.at hv0_0 (idx_some hx63).2.2
               refine ql 3 4 (.int .i64 x62.Rank) (fun γ w hs => ⟨(hv0_0.kept hs.kept).ne (idx_some hx63).2.2, hc68.kept hs.kept⟩) ?_
               refine qN 3 [(60, vb (decide (x37.Rank > x62.Rank)))] [10, 9, 4, 1, 2, 3] ?_
               refine qz ?_
               obtain rfl := sI h64
               exact mt () [1, 2, 3, 4, 9, 10, 60] [] 2
             refine qN 14 [(60, vb false)] [10, 9, 4, 1, 2, 3] ?_
             refine qz ?_
             obtain rfl := sI h58
             exact mt () [1, 2, 3, 4, 9, 10, 60] [] 2
           refine qN 20 [(60, vb false)] [10, 9, 4, 1, 2, 3] ?_
           refine qz ?_
           obtain rfl := sI h55
           exact mt () [1, 2, 3, 4, 9, 10, 60] [] 2
         refine qN 26 [(60, vb false)] [10, 9, 4, 1, 2, 3] ?_
         refine qz ?_
         obtain rfl := sI h52
         exact mt () [1, 2, 3, 4, 9, 10, 60] [] 2
       refine qN 32 [(60, vb false)] [10, 9, 4, 1, 2, 3] ?_
       refine qz ?_
       obtain rfl := sI h49
       exact mt () [1, 2, 3, 4, 9, 10, 60] [] 2
     refine nt ?_
     obtain ⟨k72, hk73, h75⟩ := jS h46
     refine JC_cutP (τ := (Int) × (Unit)) (fun y => k72 y.1 = some t23) (fun y71 => [(1, vi x1), (2, vi x2), (3, vi x3), (4, .p 0 0), (9, vi y71.1), (10, vi s21.1)]) (fun y71 => [(42, (eBook x0 (a0_0, c0_0))), (69, (eRule x37 (a40, c41)))]) (fun y71 => []) ?_ (fun y71 h74p => ?_)
     · refine cC h75 (fun h77 => ?_) (fun h78 => ?_)
       · refine qr (oN 2 [(9, vi s21.1)] [1, 2, 3, 4, 10] ?_)
         exact oe (mp (s21.1, ()) h77 [1, 2, 3, 4, 9, 10] [] 2)
       exact qk (mp (s21.2, ()) h78 [1, 2, 3, 4, 9, 10] [] 2)
     have h74 := (congrFun hk73 _).symm.trans h74p
     refine bn (nt (qr (oN 3 [(10, vi (w64 (s21.1 + 1)))] [1, 2, 3, 4, 9] ?_)))
     exact oe (ct h74 () [10, 9, 4, 1, 2, 3] [] 1)
   refine qx (nx (nx (bh ?_)))
   have h79 := leafB hd30 h36 h26
   exact mp (s21.2, ()) h79 [9] [] 1
 have h33 := (congrFun hk28 _).symm.trans h33p
 refine nt (qs (qr (oN 2 [(8, vi y32.1)] [] ?_)))
 refine oe (nt (qe ?_))
 obtain rfl := sI h33
 exact re [.int .i64 y32.1]

theorem c_spec_RuleFor {W : World} {x0 : Book} {a0_0 : Option Addr} {c0_0 : Nat} {x1 : Int} {x2 : Int} {x3 : Int} {r : Int} (h : spec_RuleFor x0 x1 x2 x3 = some r) (hv0_0 : SlView W x0.Rules a0_0 c0_0) :
    Gives0 Tryz.prog 216 #[vBook x0 (a0_0, c0_0), .int .i64 x1, .int .i64 x2, .int .i64 x3] W (.int .i64 r) := by
 unfold spec_RuleFor at h
 refine en Tryz.func216 Tryz.ntmps216 ?_
 refine qs (qr (oB 2 [(4, .p 0 0)] [1, 2, 3] [(42, (eBook x0 (a0_0, c0_0)))] ?_))
 refine oe (nt (qs (qs (qr (oN 1 [(9, .v (vBook x0 (a0_0, c0_0)))] [4, 1, 2, 3] ?_)))))
 obtain ⟨t21, h22, h23⟩ := bS h
 refine k0 (fun γ w hs => c_spec_BookOk h22 (hv0_0.kept hs.kept)) ?_
 refine oN 1 [(11, vb (!t21))] [4, 1, 2, 3] ?_
 refine oe (nt (cC h23 (fun h26 => ?_) (fun h27 => ?_)))
 · refine qs (qr (oN 1 [(8, vi (-1))] [] ?_))
   refine oe (nt (qe (nr ?_)))
   obtain rfl := sI h26
   exact re [.int .i64 (-1)]
 refine qk (nt (qs (qr (oN 4 [(15, vi x3), (14, vi x2), (13, vi x1), (12, .v (vBook x0 (a0_0, c0_0)))] [] ?_))))
 obtain ⟨t28, h29, h30⟩ := bS h27
 refine k0 (fun γ w hs => c_spec_l10For h29 (hv0_0.kept hs.kept)) ?_
 refine oN 1 [(8, vi t28)] [] ?_
 refine oe (nt (qe ?_))
 obtain rfl := sI h30
 exact re [.int .i64 t28]

theorem c_spec_l02Sum {W : World} {x0 : Frac} {x1 : Frac} {x2 : Int} {r : Frac × Bool} (h : spec_l02Sum x0 x1 x2 = some r)  :
    Gives0 Tryz.prog 259 #[vFrac x0, vFrac x1, .int .i64 x2] W (.tuple #[vFrac r.1, .bool r.2]) := by
 unfold spec_l02Sum at h
 refine en Tryz.func259 Tryz.ntmps259 ?_
 refine qs (qr (oB 4 [(6, .p 2 0), (4, .p 1 0), (3, .p 0 0)] [2] [(118, (eFrac x0)), (118, (eFrac x1)), (118, (eFrac (Frac.mk 0 0)))] ?_))
 refine oe (nt (qs (qs ?_)))
 obtain ⟨p21, hE22, h23⟩ := bS h
 refine JC_cut (τ := Unit) (fun _ => [(2, vi x2), (3, .p 0 0), (4, .p 1 0), (6, .p 2 0), (16, vb p21)]) (fun _ => [(118, (eFrac x0)), (118, (eFrac x1)), (118, (eFrac (Frac.mk 0 0)))]) (fun _ => []) ?_ (fun _ => ?_)
 · refine qr (oN 1 [(9, .v (vFrac x0))] [6, 4, 3, 2] ?_)
   obtain ⟨t24, h25, h26⟩ := bS hE22
   refine k0 (fun γ w hs => c_spec_FracOk h25) ?_
   refine oN 2 [(12, vb (!t24))] [6, 4, 3, 2] ?_
   refine oS 12 h26 (fun h29 => ?_) (fun h30 => ?_)
   · refine oN 4 [(16, vb true)] [6, 4, 3, 2] ?_
     refine oe ?_
     obtain rfl := sI h29
     exact mt () [2, 3, 4, 6, 16] [] 3
   refine oN 1 [(13, .v (vFrac x1))] [12, 6, 4, 3, 2] ?_
   obtain ⟨t31, h32, h33⟩ := bS h30
   refine k0 (fun γ w hs => c_spec_FracOk h32) ?_
   refine oN 2 [(16, vb (!t31))] [6, 4, 3, 2] ?_
   refine oe ?_
   obtain rfl := sI h33
   exact mt () [2, 3, 4, 6, 16] [] 3
 refine nt (cC h23 (fun h36 => ?_) (fun h37 => ?_))
 · refine qs (qr (oN 3 [(7, vb false)] [6] ?_))
   refine oe (nt (qe (nr ?_)))
   obtain rfl := sI h36
   exact re [vFrac (Frac.mk 0 0), .bool false]
 refine qk (nt (qs (qr (oN 4 [(21, vi x1.Den), (19, vi x0.Den)] [2, 3, 4, 6] ?_))))
 obtain ⟨t38, h39, h40⟩ := bS h37
 refine k0 (fun γ w hs => c_spec_l02Gcd h39) ?_
 refine oN 1 [(8, vi t38)] [2, 3, 4, 6] ?_
 refine oe (nt (qs ?_))
 obtain ⟨u44, hz43, h42⟩ := bS h40
 obtain ⟨u47, hz46, h45⟩ := bS h42
 obtain ⟨u50, hz49, h48⟩ := bS h45
 obtain ⟨t51, h52, h53⟩ := bS h48
 refine JC_cut (τ := Unit) (fun _ => [(7, vb t51.2), (6, .p 2 0)]) (fun _ => [(118, (eFrac x0)), (118, (eFrac x1)), (118, (eFrac t51.1))]) (fun _ => []) ?_ (fun _ => ?_)
 · refine jw [8, 2, 3, 4, 6] [] ?_
   refine JC_heldN (ks := [0, 1]) (Rk := []) 29 (by kernel_rfl) (by kernel_rfl) ?_
   refine htq 0 (.p 0 0) [] ?_
   refine htq 1 (vi x0.Num) [] ?_
   refine hk [24, 8, 2, 3, 4, 6] ?_
   refine htq 2 (.p 1 1) [] ?_
   refine htq 3 (vi x1.Den) [] ?_
   refine hk [26, 24, 8, 2, 3, 4, 6] ?_
   refine htq 4 (vi t38) [] ?_
   refine ht 5 (vi (w64 (Int.tdiv x1.Den t38))) [] (div_held (op := .quo) (k := .i64) (x := x1.Den) (y := t38) (by kernel_rfl) (nz_some hz43)) ?_
   refine hk [28, 24, 8, 2, 3, 4, 6] ?_
   refine htq 6 (vi (w64 (x0.Num * (w64 (Int.tdiv x1.Den t38))))) [] ?_
   refine hk [29, 8, 2, 3, 4, 6] ?_
   refine htq 7 (vi x2) [] ?_
   refine hk [30, 29, 8, 3, 4, 6] ?_
   refine htq 8 (.p 1 0) [] ?_
   refine htq 9 (vi x1.Num) [] ?_
   refine hk [32, 30, 29, 8, 3, 4, 6] ?_
   refine htq 10 (vi (w64 (x2 * x1.Num))) [] ?_
   refine hk [33, 29, 8, 3, 4, 6] ?_
   refine htq 11 (.p 0 1) [] ?_
   refine htq 12 (vi x0.Den) [] ?_
   refine hk [35, 33, 29, 8, 3, 4, 6] ?_
   refine htq 13 (vi t38) [] ?_
   refine ht 14 (vi (w64 (Int.tdiv x0.Den t38))) [] (div_held (op := .quo) (k := .i64) (x := x0.Den) (y := t38) (by kernel_rfl) (nz_some hz46)) ?_
   refine hk [37, 33, 29, 8, 3, 4, 6] ?_
   refine htq 15 (vi (w64 ((w64 (x2 * x1.Num)) * (w64 (Int.tdiv x0.Den t38))))) [] ?_
   refine hk [38, 29, 8, 3, 4, 6] ?_
   refine htq 16 (vi (w64 ((w64 (x0.Num * (w64 (Int.tdiv x1.Den t38)))) + (w64 ((w64 (x2 * x1.Num)) * (w64 (Int.tdiv x0.Den t38))))))) [] ?_
   refine hk [39, 8, 3, 4, 6] ?_
   refine htq 17 (.p 0 1) [] ?_
   refine hk [40, 39, 8, 4, 6] ?_
   refine htq 18 (vi x0.Den) [] ?_
   refine hk [41, 39, 8, 4, 6] ?_
   refine htq 19 (vi t38) [] ?_
   refine hk [42, 41, 39, 4, 6] ?_
   refine ht 20 (vi (w64 (Int.tdiv x0.Den t38))) [] (div_held (op := .quo) (k := .i64) (x := x0.Den) (y := t38) (by kernel_rfl) (nz_some hz49)) ?_
   refine hk [43, 39, 4, 6] ?_
   refine htq 21 (.p 1 1) [] ?_
   refine hk [44, 43, 39, 6] ?_
   refine htq 22 (vi x1.Den) [] ?_
   refine hk [45, 43, 39, 6] ?_
   refine htq 23 (vi (w64 ((w64 (Int.tdiv x0.Den t38)) * x1.Den))) [] ?_
   refine hk [46, 39, 6] ?_
   refine ha1 24 ?_
   refine hi (fun γ0 δ hm => ?_)
   refine g0 (fun w hs => c_spec_l02Make h52) ?_
   refine gn hm [47, 6] [] ?_
   refine htq 25 (.v (vFrac t51.1)) [] ?_
   refine htq 26 (vb t51.2) [] ?_
   refine hk [49, 48, 6] ?_
   refine ha1 27 ?_
   refine hi (fun γ0 δ hm => ?_)
   refine gs [(49, vb t51.2), (48, .v (vFrac t51.1)), (6, .p 2 0)] [(118, (eFrac x0)), (118, (eFrac x1)), (118, (eFrac t51.1))] (fun δ2 => ?_)
   refine gd hm [49, 6] [] ?_
   refine htq 28 (vb t51.2) [] ?_
   refine hk [7, 6] ?_
   exact hd () [7, 6] [] 3
 refine nt (qe ?_)
 obtain rfl := sI h53
 exact re [vFrac t51.1, .bool t51.2]

theorem c_spec_FracAdd {W : World} {x0 : Frac} {x1 : Frac} {r : Frac × Bool} (h : spec_FracAdd x0 x1 = some r)  :
    Gives0 Tryz.prog 249 #[vFrac x0, vFrac x1] W (.tuple #[vFrac r.1, .bool r.2]) := by
 unfold spec_FracAdd at h
 refine en Tryz.func249 Tryz.ntmps249 ?_
 refine qs (qr (oB 4 [(4, .p 2 0), (3, .p 1 0), (2, .p 0 0)] [] [(118, (eFrac x0)), (118, (eFrac x1)), (118, (eFrac (Frac.mk 0 0)))] ?_))
 refine oe (nt (qs (qr (oN 2 [(7, .v (vFrac x1)), (6, .v (vFrac x0))] [4] ?_))))
 obtain ⟨t21, h22, h23⟩ := bS h
 refine k0 (fun γ w hs => c_spec_l02Sum h22) ?_
 refine oB 4 [(5, vb t21.2)] [4] [(118, (eFrac x0)), (118, (eFrac x1)), (118, (eFrac t21.1))] ?_
 refine oe (nt (qe ?_))
 obtain rfl := sI h23
 exact re [vFrac t21.1, .bool t21.2]

theorem c_spec_FracSub {W : World} {x0 : Frac} {x1 : Frac} {r : Frac × Bool} (h : spec_FracSub x0 x1 = some r)  :
    Gives0 Tryz.prog 250 #[vFrac x0, vFrac x1] W (.tuple #[vFrac r.1, .bool r.2]) := by
 unfold spec_FracSub at h
 refine en Tryz.func250 Tryz.ntmps250 ?_
 refine qs (qr (oB 4 [(4, .p 2 0), (3, .p 1 0), (2, .p 0 0)] [] [(118, (eFrac x0)), (118, (eFrac x1)), (118, (eFrac (Frac.mk 0 0)))] ?_))
 refine oe (nt (qs (qr (oN 2 [(7, .v (vFrac x1)), (6, .v (vFrac x0))] [4] ?_))))
 obtain ⟨t21, h22, h23⟩ := bS h
 refine k0 (fun γ w hs => c_spec_l02Sum h22) ?_
 refine oB 4 [(5, vb t21.2)] [4] [(118, (eFrac x0)), (118, (eFrac x1)), (118, (eFrac t21.1))] ?_
 refine oe (nt (qe ?_))
 obtain rfl := sI h23
 exact re [vFrac t21.1, .bool t21.2]

theorem c_spec_l02Small {W : World} {x0 : Frac} {r : Bool} (h : spec_l02Small x0 = some r)  :
    Gives0 Tryz.prog 260 #[vFrac x0] W (.bool r) := by
 unfold spec_l02Small at h
 refine en Tryz.func260 Tryz.ntmps260 ?_
 refine qs (qr (oB 2 [(1, .p 0 0)] [] [(118, (eFrac x0))] ?_))
 refine oe (nt (qs ?_))
 obtain ⟨p21, hE22, h23⟩ := bS h
 refine JC_cut (τ := Unit) (fun _ => [(2, vb p21)]) (fun _ => [(118, (eFrac x0))]) (fun _ => []) ?_ (fun _ => ?_)
 · refine qr (oN 1 [(3, .v (vFrac x0))] [1] ?_)
   obtain ⟨t24, h25, h26⟩ := bS hE22
   refine k0 (fun γ w hs => c_spec_FracOk h25) ?_
   refine oN 1 [(5, vb t24)] [1] ?_
   refine oS 5 h26 (fun h29 => ?_) (fun h30 => ?_)
   · refine oN 2 [(7, vi x0.Num)] [5] ?_
     obtain ⟨t31, h32, h33⟩ := bS h29
     refine k0 (fun γ w hs => c_spec_l01In h32) ?_
     refine oN 2 [(2, vb t31)] [] ?_
     refine oe ?_
     obtain rfl := sI h33
     exact mt () [2] [] 1
   refine oN 5 [(2, vb false)] [] ?_
   refine oe ?_
   obtain rfl := sI h30
   exact mt () [2] [] 1
 refine nt (qe ?_)
 obtain rfl := sI h23
 exact re [.bool p21]

theorem c_spec_FracMul {W : World} {x0 : Frac} {x1 : Frac} {r : Frac × Bool} (h : spec_FracMul x0 x1 = some r)  :
    Gives0 Tryz.prog 251 #[vFrac x0, vFrac x1] W (.tuple #[vFrac r.1, .bool r.2]) := by
 unfold spec_FracMul at h
 refine en Tryz.func251 Tryz.ntmps251 ?_
 refine qs (qr (oB 4 [(4, .p 2 0), (3, .p 1 0), (2, .p 0 0)] [] [(118, (eFrac x0)), (118, (eFrac x1)), (118, (eFrac (Frac.mk 0 0)))] ?_))
 refine oe (nt (qs (qs ?_)))
 obtain ⟨p21, hE22, h23⟩ := bS h
 refine JC_cut (τ := Unit) (fun _ => [(2, .p 0 0), (3, .p 1 0), (4, .p 2 0), (13, vb p21)]) (fun _ => [(118, (eFrac x0)), (118, (eFrac x1)), (118, (eFrac (Frac.mk 0 0)))]) (fun _ => []) ?_ (fun _ => ?_)
 · refine qr (oN 1 [(6, .v (vFrac x0))] [4, 3, 2] ?_)
   obtain ⟨t24, h25, h26⟩ := bS hE22
   refine k0 (fun γ w hs => c_spec_l02Small h25) ?_
   refine oN 2 [(9, vb (!t24))] [4, 3, 2] ?_
   refine oS 9 h26 (fun h29 => ?_) (fun h30 => ?_)
   · refine oN 4 [(13, vb true)] [4, 3, 2] ?_
     refine oe ?_
     obtain rfl := sI h29
     exact mt () [2, 3, 4, 13] [] 3
   refine oN 1 [(10, .v (vFrac x1))] [9, 4, 3, 2] ?_
   obtain ⟨t31, h32, h33⟩ := bS h30
   refine k0 (fun γ w hs => c_spec_l02Small h32) ?_
   refine oN 2 [(13, vb (!t31))] [4, 3, 2] ?_
   refine oe ?_
   obtain rfl := sI h33
   exact mt () [2, 3, 4, 13] [] 3
 refine nt (cC h23 (fun h36 => ?_) (fun h37 => ?_))
 · refine qs (qr (oN 3 [(5, vb false)] [4] ?_))
   refine oe (nt (qe (nr ?_)))
   obtain rfl := sI h36
   exact re [vFrac (Frac.mk 0 0), .bool false]
 refine qk (nt (qs (qr (oN 10 [(24, vi (w64 (x0.Den * x1.Den))), (19, vi (w64 (x0.Num * x1.Num)))] [4] ?_))))
 obtain ⟨t38, h39, h40⟩ := bS h37
 refine k0 (fun γ w hs => c_spec_l02Make h39) ?_
 refine oB 4 [(5, vb t38.2)] [4] [(118, (eFrac x0)), (118, (eFrac x1)), (118, (eFrac t38.1))] ?_
 refine oe (nt (qe ?_))
 obtain rfl := sI h40
 exact re [vFrac t38.1, .bool t38.2]

theorem c_spec_FracDiv {W : World} {x0 : Frac} {x1 : Frac} {r : Frac × Bool} (h : spec_FracDiv x0 x1 = some r)  :
    Gives0 Tryz.prog 252 #[vFrac x0, vFrac x1] W (.tuple #[vFrac r.1, .bool r.2]) := by
 unfold spec_FracDiv at h
 refine en Tryz.func252 Tryz.ntmps252 ?_
 refine qs (qr (oB 4 [(4, .p 2 0), (3, .p 1 0), (2, .p 0 0)] [] [(118, (eFrac x0)), (118, (eFrac x1)), (118, (eFrac (Frac.mk 0 0)))] ?_))
 refine oe (nt (qs (qs ?_)))
 obtain ⟨p21, hE22, h23⟩ := bS h
 refine JC_cut (τ := Unit) (fun _ => [(2, .p 0 0), (3, .p 1 0), (4, .p 2 0), (18, vb p21)]) (fun _ => [(118, (eFrac x0)), (118, (eFrac x1)), (118, (eFrac (Frac.mk 0 0)))]) (fun _ => []) ?_ (fun _ => ?_)
 · refine qr (oN 1 [(6, .v (vFrac x0))] [4, 3, 2] ?_)
   obtain ⟨t24, h25, h26⟩ := bS hE22
   refine k0 (fun γ w hs => c_spec_l02Small h25) ?_
   refine oN 2 [(9, vb (!t24))] [4, 3, 2] ?_
   refine oS 9 h26 (fun h29 => ?_) (fun h30 => ?_)
   · refine oN 9 [(18, vb true)] [4, 3, 2] ?_
     refine oe ?_
     obtain rfl := sI h29
     exact mt () [2, 3, 4, 18] [] 3
   refine oN 1 [(10, .v (vFrac x1))] [9, 4, 3, 2] ?_
   obtain ⟨t31, h32, h33⟩ := bS h30
   refine k0 (fun γ w hs => c_spec_l02Small h32) ?_
   refine oN 3 [(14, vb (!t31))] [4, 3, 2] ?_
   refine oS 14 h33 (fun h36 => ?_) (fun h37 => ?_)
   · refine oN 4 [(18, vb true)] [4, 3, 2] ?_
     refine oe ?_
     obtain rfl := sI h36
     exact mt () [2, 3, 4, 18] [] 3
   refine oN 4 [(18, vb (x1.Num == 0))] [4, 3, 2] ?_
   refine oe ?_
   obtain rfl := sI h37
   exact mt () [2, 3, 4, 18] [] 3
 refine nt (cC h23 (fun h39 => ?_) (fun h40 => ?_))
 · refine qs (qr (oN 3 [(5, vb false)] [4] ?_))
   refine oe (nt (qe (nr ?_)))
   obtain rfl := sI h39
   exact re [vFrac (Frac.mk 0 0), .bool false]
 refine qk (nt (qs (qr (oN 10 [(29, vi (w64 (x0.Den * x1.Num))), (24, vi (w64 (x0.Num * x1.Den)))] [4] ?_))))
 obtain ⟨t41, h42, h43⟩ := bS h40
 refine k0 (fun γ w hs => c_spec_l02Make h42) ?_
 refine oB 4 [(5, vb t41.2)] [4] [(118, (eFrac x0)), (118, (eFrac x1)), (118, (eFrac t41.1))] ?_
 refine oe (nt (qe ?_))
 obtain rfl := sI h43
 exact re [vFrac t41.1, .bool t41.2]

theorem c_spec_FracCmp {W : World} {x0 : Frac} {x1 : Frac} {r : Int} (h : spec_FracCmp x0 x1 = some r)  :
    Gives0 Tryz.prog 253 #[vFrac x0, vFrac x1] W (.int .i64 r) := by
 unfold spec_FracCmp at h
 refine en Tryz.func253 Tryz.ntmps253 ?_
 refine qs (qr (oB 3 [(3, .p 1 0), (2, .p 0 0)] [] [(118, (eFrac x0)), (118, (eFrac x1))] ?_))
 refine oe (nt (qs (qs ?_)))
 obtain ⟨p21, hE22, h23⟩ := bS h
 refine JC_cut (τ := Unit) (fun _ => [(2, .p 0 0), (3, .p 1 0), (14, vb p21)]) (fun _ => [(118, (eFrac x0)), (118, (eFrac x1))]) (fun _ => []) ?_ (fun _ => ?_)
 · refine qr (oN 1 [(7, .v (vFrac x0))] [3, 2] ?_)
   obtain ⟨t24, h25, h26⟩ := bS hE22
   refine k0 (fun γ w hs => c_spec_FracOk h25) ?_
   refine oN 2 [(10, vb (!t24))] [3, 2] ?_
   refine oS 10 h26 (fun h29 => ?_) (fun h30 => ?_)
   · refine oN 4 [(14, vb true)] [3, 2] ?_
     refine oe ?_
     obtain rfl := sI h29
     exact mt () [2, 3, 14] [] 2
   refine oN 1 [(11, .v (vFrac x1))] [10, 3, 2] ?_
   obtain ⟨t31, h32, h33⟩ := bS h30
   refine k0 (fun γ w hs => c_spec_FracOk h32) ?_
   refine oN 2 [(14, vb (!t31))] [3, 2] ?_
   refine oe ?_
   obtain rfl := sI h33
   exact mt () [2, 3, 14] [] 2
 refine nt (cC h23 (fun h36 => ?_) (fun h37 => ?_))
 · refine qs (qr (oN 1 [(4, vi 2)] [] ?_))
   refine oe (nt (qe (nr ?_)))
   obtain rfl := sI h36
   exact re [.int .i64 2]
 refine qk (nt (qs (qr (oN 6 [(5, vi (w64 (x0.Num * x1.Den)))] [2, 3] ?_))))
 refine oe (nt (qs (qr (oN 6 [(6, vi (w64 (x1.Num * x0.Den)))] [5] ?_))))
 refine oe (nt (qs (qb (qs (qr (oN 4 [(25, vb (decide ((w64 (x0.Num * x1.Den)) < (w64 (x1.Num * x0.Den)))))] [6, 5] ?_))))))
 refine oe (nt (cC h37 (fun h42 => ?_) (fun h43 => ?_)))
 · refine qs (qr (oN 1 [(4, vi (-1))] [] ?_))
   refine oe (nt (qe (br (nr ?_))))
   obtain rfl := sI h42
   exact re [.int .i64 (-1)]
 refine qs (qr (oN 4 [(29, vb (decide ((w64 (x0.Num * x1.Den)) > (w64 (x1.Num * x0.Den)))))] [] ?_))
 refine oe (nt (cC h43 (fun h45 => ?_) (fun h46 => ?_)))
 · refine qs (qr (oN 1 [(4, vi 1)] [] ?_))
   refine oe (nt (qe (br (nr ?_))))
   obtain rfl := sI h45
   exact re [.int .i64 1]
 refine qk (bn (nt (qs (qr (oN 1 [(4, vi 0)] [] ?_)))))
 refine oe (nt (qe ?_))
 obtain rfl := sI h46
 exact re [.int .i64 0]

theorem c_spec_l08Value {W : World} {x0 : Node} {x1 : List Frac} {a1_0 : Option Addr} {c1_0 : Nat} {x2 : List Frac} {a2_0 : Option Addr} {c2_0 : Nat} {r : Frac × Bool} (h : spec_l08Value x0 x1 x2 = some r) (hv1_0 : SlView W x1 a1_0 c1_0) (hv2_0 : SlView W x2 a2_0 c2_0) :
    Gives0 Tryz.prog 243 #[vNode x0, .slice a1_0 x1.length c1_0, .slice a2_0 x2.length c2_0] W (.tuple #[vFrac r.1, .bool r.2]) := by
 unfold spec_l08Value at h
 refine en Tryz.func243 Tryz.ntmps243 ?_
 refine qs (qr (oB 3 [(6, .p 1 0), (3, .p 0 0)] [1, 2] [(120, (eNode x0)), (118, (eFrac (Frac.mk 0 0)))] ?_))
 refine oe (nt (qs (qs (qr (oN 2 [(11, vi x0.Kind)] [6, 3, 1, 2] ?_)))))
 refine oe (nt (qb (qs (qr (oN 2 [(12, vb (x0.Kind == 1))] [11, 6, 3, 1, 2] ?_)))))
 refine oe (nt (cC h (fun h28 => ?_) (fun h29 => ?_)))
 · refine qs (qr (oB 4 [(7, vb true)] [6] [(120, (eNode x0)), (118, (eFrac x0.Value))] ?_))
   refine oe (nt (qe (br (nr ?_))))
   obtain rfl := sI h28
   exact re [vFrac x0.Value, .bool true]
 refine qs (qr (oN 2 [(16, vb (x0.Kind == 2))] [6, 3, 1, 2] ?_))
 refine oe (nt (cC h29 (fun h34 => ?_) (fun h35 => ?_)))
 · refine qs (qr (oN 3 [(20, vi x0.A), (18, .v (.slice a2_0 x2.length c2_0))] [6] ?_))
   obtain ⟨x36, hx37, h38⟩ := bS h34
   refine oi 2 (fun γ w hs => (hv2_0.kept hs.kept)) hx37 ?_
   refine ol 118 0 (vFrac x36) (fun γ w hs => (hv2_0.kept hs.kept).flatq hx37) ?_
   refine oB 2 [(7, vb true)] [6] [(120, (eNode x0)), (118, (eFrac x36))] ?_
   refine oe (nt (qe (br (nr ?_))))
   obtain rfl := sI h38
   exact re [vFrac x36, .bool true]
 refine qk (bn (nt (qs (qr (oN 3 [(25, vi x0.A), (23, .v (.slice a1_0 x1.length c1_0))] [6, 3, 1] ?_)))))
 obtain ⟨x39, hx40, h41⟩ := bS h35
 refine oi 2 (fun γ w hs => (hv1_0.kept hs.kept)) hx40 ?_
 refine ol 118 0 (vFrac x39) (fun γ w hs => (hv1_0.kept hs.kept).flatq hx40) ?_
 refine oB 2 [(8, .p 2 0)] [6, 3, 1] [(120, (eNode x0)), (118, (eFrac (Frac.mk 0 0))), (118, (eFrac x39))] ?_
 refine oe (nt (qs (qr (oN 3 [(30, vi x0.B), (28, .v (.slice a1_0 x1.length c1_0))] [8, 6, 3, 1] ?_))))
 obtain ⟨x42, hx43, h44⟩ := bS h41
 refine oi 2 (fun γ w hs => (hv1_0.kept hs.kept)) hx43 ?_
 refine ol 118 0 (vFrac x42) (fun γ w hs => (hv1_0.kept hs.kept).flatq hx43) ?_
 refine oB 2 [(9, .p 3 0)] [8, 6, 3, 1] [(120, (eNode x0)), (118, (eFrac (Frac.mk 0 0))), (118, (eFrac x39)), (118, (eFrac x42))] ?_
 refine oe (nt (qs (qs (qr (oN 2 [(34, vi x0.Kind)] [9, 8, 6, 3, 1] ?_)))))
 refine oe (nt (qb (qs (qr (oN 2 [(35, vb (x0.Kind == 3))] [34, 9, 8, 6, 3, 1] ?_)))))
 refine oe (nt (cC h44 (fun h91 => ?_) (fun h92 => ?_)))
 · refine qs (qr (oN 2 [(38, .v (vFrac x42)), (37, .v (vFrac x39))] [6] ?_))
   obtain ⟨t93, h94, h95⟩ := bS h91
   refine k0 (fun γ w hs => c_spec_FracAdd h94) ?_
   refine oB 4 [(7, vb t93.2)] [6] [(120, (eNode x0)), (118, (eFrac t93.1)), (118, (eFrac x39)), (118, (eFrac x42))] ?_
   refine oe (nt (qe (br (nr ?_))))
   obtain rfl := sI h95
   exact re [vFrac t93.1, .bool t93.2]
 refine qs (qr (oN 2 [(42, vb (x0.Kind == 4))] [34, 9, 8, 6, 3, 1] ?_))
 refine oe (nt (cC h92 (fun h136 => ?_) (fun h137 => ?_)))
 · refine qs (qr (oN 2 [(45, .v (vFrac x42)), (44, .v (vFrac x39))] [6] ?_))
   obtain ⟨t138, h139, h140⟩ := bS h136
   refine k0 (fun γ w hs => c_spec_FracSub h139) ?_
   refine oB 4 [(7, vb t138.2)] [6] [(120, (eNode x0)), (118, (eFrac t138.1)), (118, (eFrac x39)), (118, (eFrac x42))] ?_
   refine oe (nt (qe (br (nr ?_))))
   obtain rfl := sI h140
   exact re [vFrac t138.1, .bool t138.2]
 refine qs (qr (oN 2 [(49, vb (x0.Kind == 5))] [34, 9, 8, 6, 3, 1] ?_))
 refine oe (nt (cC h137 (fun h174 => ?_) (fun h175 => ?_)))
 · refine qs (qr (oN 2 [(52, .v (vFrac x42)), (51, .v (vFrac x39))] [6] ?_))
   obtain ⟨t176, h177, h178⟩ := bS h174
   refine k0 (fun γ w hs => c_spec_FracMul h177) ?_
   refine oB 4 [(7, vb t176.2)] [6] [(120, (eNode x0)), (118, (eFrac t176.1)), (118, (eFrac x39)), (118, (eFrac x42))] ?_
   refine oe (nt (qe (br (nr ?_))))
   obtain rfl := sI h178
   exact re [vFrac t176.1, .bool t176.2]
 refine qs (qr (oN 2 [(56, vb (x0.Kind == 6))] [34, 9, 8, 6, 3, 1] ?_))
 refine oe (nt (cC h175 (fun h205 => ?_) (fun h206 => ?_)))
 · refine qs (qr (oN 2 [(59, .v (vFrac x42)), (58, .v (vFrac x39))] [6] ?_))
   obtain ⟨t207, h208, h209⟩ := bS h205
   refine k0 (fun γ w hs => c_spec_FracDiv h208) ?_
   refine oB 4 [(7, vb t207.2)] [6] [(120, (eNode x0)), (118, (eFrac t207.1)), (118, (eFrac x39)), (118, (eFrac x42))] ?_
   refine oe (nt (qe (br (nr ?_))))
   obtain rfl := sI h209
   exact re [vFrac t207.1, .bool t207.2]
 refine qs (qr (oN 2 [(63, vb (x0.Kind == 7))] [34, 9, 8, 6, 3, 1] ?_))
 refine oe (nt (cC h206 (fun h229 => ?_) (fun h230 => ?_)))
 · refine qs (qs (qr (oN 2 [(66, .v (vFrac x39)), (65, .v (vFrac x42))] [9, 8, 6] ?_)))
   obtain ⟨t231, h232, h233⟩ := bS h229
   refine k0 (fun γ w hs => c_spec_FracCmp h232) ?_
   refine oN 1 [(68, vb (decide (t231 < 0)))] [9, 8, 6] ?_
   refine oe (nt (cC h233 (fun h236 => ?_) (fun h237 => ?_)))
   · refine qs (qr (oB 3 [(7, vb true)] [6] [(120, (eNode x0)), (118, (eFrac x42)), (118, (eFrac x39)), (118, (eFrac x42))] ?_))
     refine oe (nt (qe (nr (br (nr ?_)))))
     obtain rfl := sI h236
     exact re [vFrac x42, .bool true]
   refine qk (nt (qs (qr (oB 3 [(7, vb true)] [6] [(120, (eNode x0)), (118, (eFrac x39)), (118, (eFrac x39)), (118, (eFrac x42))] ?_))))
   refine oe (nt (qe (br (nr ?_))))
   obtain rfl := sI h237
   exact re [vFrac x39, .bool true]
 refine qs (qr (oN 2 [(71, vb (x0.Kind == 8))] [9, 8, 6, 3, 1] ?_))
 refine oe (nt (cC h230 (fun h246 => ?_) (fun h247 => ?_)))
 · refine qs (qs (qr (oN 2 [(74, .v (vFrac x39)), (73, .v (vFrac x42))] [9, 8, 6] ?_)))
   obtain ⟨t248, h249, h250⟩ := bS h246
   refine k0 (fun γ w hs => c_spec_FracCmp h249) ?_
   refine oN 1 [(76, vb (decide (t248 > 0)))] [9, 8, 6] ?_
   refine oe (nt (cC h250 (fun h253 => ?_) (fun h254 => ?_)))
   · refine qs (qr (oB 3 [(7, vb true)] [6] [(120, (eNode x0)), (118, (eFrac x42)), (118, (eFrac x39)), (118, (eFrac x42))] ?_))
     refine oe (nt (qe (nr (br (nr ?_)))))
     obtain rfl := sI h253
     exact re [vFrac x42, .bool true]
   refine qk (nt (qs (qr (oB 3 [(7, vb true)] [6] [(120, (eNode x0)), (118, (eFrac x39)), (118, (eFrac x39)), (118, (eFrac x42))] ?_))))
   refine oe (nt (qe (br (nr ?_))))
   obtain rfl := sI h254
   exact re [vFrac x39, .bool true]
 refine qk (bn (nt (qs (qs (qr (oN 3 [(81, vb (decide (x39.Num > 0)))] [9, 6, 3, 1] ?_))))))
 refine oe (nt (cC h247 (fun h256 => ?_) (fun h257 => ?_)))
 · refine qs (qr (oB 3 [(7, vb true)] [6] [(120, (eNode x0)), (118, (eFrac x42)), (118, (eFrac x39)), (118, (eFrac x42))] ?_))
   refine oe (nt (qe (nr ?_)))
   obtain rfl := sI h256
   exact re [vFrac x42, .bool true]
 refine qk (nt (qs (qr (oN 3 [(85, vi x0.C), (83, .v (.slice a1_0 x1.length c1_0))] [6] ?_))))
 obtain ⟨x258, hx259, h260⟩ := bS h257
 refine oi 2 (fun γ w hs => (hv1_0.kept hs.kept)) hx259 ?_
 refine ol 118 0 (vFrac x258) (fun γ w hs => (hv1_0.kept hs.kept).flatq hx259) ?_
 refine oB 2 [(7, vb true)] [6] [(120, (eNode x0)), (118, (eFrac x258)), (118, (eFrac x39)), (118, (eFrac x42))] ?_
 refine oe (nt (qe ?_))
 obtain rfl := sI h260
 exact re [vFrac x258, .bool true]

theorem c_spec_EvalAll {W : World} {x0 : List Node} {a0_0 : Option Addr} {c0_0 : Nat} {x1 : List Frac} {a1_0 : Option Addr} {c1_0 : Nat} {r : (List Frac) × Bool} (h : spec_EvalAll x0 x1 = some r) (hv0_0 : SlView W x0 a0_0 c0_0) (hv1_0 : SlView W x1 a1_0 c1_0) :
    Gives Tryz.prog 232 #[.slice a0_0 x0.length c0_0, .slice a1_0 x1.length c1_0] W (fun y : AC => .tuple #[.slice y.1 r.1.length y.2, .bool r.2]) (fun y => [SlRes 118 r.1 y.1 y.2]) := by
 unfold spec_EvalAll at h
 refine en Tryz.func232 Tryz.ntmps232 ?_
 refine qs (qr (oN 2 [] [0, 1] ?_))
 refine oe (nt (qs (qr (ob [] [] 118 0 [] ([] : List Frac) (own_flat (by kernel_rfl)) (fun y21 => ?_)))))
 refine oN 1 [(6, .v (.slice y21.1 ([] : List Frac).length y21.2))] [0, 1] ?_
 refine oe (nt (qs (qs ?_)))
 obtain ⟨p23, hE24, h25⟩ := bS h
 refine JC_cut (τ := Unit) (fun _ => [(0, .v (.slice a0_0 x0.length c0_0)), (1, .v (.slice a1_0 x1.length c1_0)), (6, .v (.slice y21.1 ([] : List Frac).length y21.2)), (18, vb p23)]) (fun _ => []) (fun _ => [SlRes 118 ([] : List Frac) y21.1 y21.2]) ?_ (fun _ => ?_)
 · refine qr (oN 1 [(11, .v (.slice a0_0 x0.length c0_0))] [6, 0, 1] ?_)
   obtain ⟨t26, h27, h28⟩ := bS hE24
   refine k0 (fun γ w hs => c_spec_FormulaOk h27 (hv0_0.kept hs.kept)) ?_
   refine oN 2 [(14, vb (!t26))] [6, 0, 1] ?_
   refine oS 14 h28 (fun h31 => ?_) (fun h32 => ?_)
   · refine oN 4 [(18, vb true)] [6, 0, 1] ?_
     refine oe ?_
     obtain rfl := sI h31
     exact mt () [0, 1, 6, 18] [0] 0
   refine oN 1 [(15, .v (.slice a1_0 x1.length c1_0))] [14, 6, 0, 1] ?_
   obtain ⟨t33, h34, h35⟩ := bS h32
   refine k0 (fun γ w hs => c_spec_l08Vars h34 (hv1_0.kept hs.kept)) ?_
   refine oN 2 [(18, vb (!t33))] [6, 0, 1] ?_
   refine oe ?_
   obtain rfl := sI h35
   exact mt () [0, 1, 6, 18] [0] 0
 refine nt (cC h25 (fun h38 => ?_) (fun h39 => ?_))
 · refine qs (qr (oN 3 [(5, vb false), (4, .v (.slice y21.1 ([] : List Frac).length y21.2))] [] ?_))
   refine oe (nt (qe (nr (rt [.slice y21.1 ([] : List Frac).length y21.2, .bool false] (fun γ w hs => ?_)))))
   rw [← sI h38]
   exact ⟨y21, rfl, hs.kept.toBelow, (hs.takeR (is := [0]) rfl).fresh⟩
 refine qk (nt (qs (qs (qr (oN 1 [(7, vi 0)] [0, 1, 6] ?_)))))
 refine oe (nt ?_)
 obtain ⟨r43, hL44, h45⟩ := bS h39
 obtain ⟨k46, hk47, h45⟩ := brkS h45
 refine JC_cutP (τ := ((List Frac)) × (AC)) (fun y => k46 y.1 = some r) (fun y51 => [(6, .v (.slice y51.2.1 y51.1.length y51.2.2))]) (fun y51 => []) (fun y51 => [SlRes 118 y51.1 y51.2.1 y51.2.2]) ?_ (fun y51 h52p => ?_)
 · refine qb (lp AC hL44 (fun s40 y41 => [(7, vi s40.1), (0, .v (.slice a0_0 x0.length c0_0)), (1, .v (.slice a1_0 x1.length c1_0)), (6, .v (.slice y41.1 s40.2.length y41.2))]) (fun s40 y41 => []) (fun s40 y41 => [SlRes 118 s40.2 y41.1 y41.2]) (y21.1, y21.2) [7, 0, 1, 6] [0] 0 (fun s40 y41 t42 h48 hd49 => ?_))
   refine qs (qs (qr (oN 4 [(23, vb (decide (s40.1 < (x0.length : Int))))] [7, 0, 1, 6] ?_)))
   refine oe (nt (cC h48 (fun h54 => ?_) (fun h55 => ?_)))
   · refine qk (nt (qs (qb (qs (qr (oN 2 [(28, vi s40.1), (27, .v (.slice a0_0 x0.length c0_0))] [7, 0, 1, 6] ?_))))))
     obtain ⟨x56, hx57, h58⟩ := bS h54
     refine oi 6 (fun γ w hs => (hv0_0.kept hs.kept)) hx57 ?_
     refine ol 120 0 (vNode x56) (fun γ w hs => (hv0_0.kept hs.kept).flatq hx57) ?_
     refine oN 2 [(32, .v (.slice a1_0 x1.length c1_0)), (31, .v (.slice y41.1 s40.2.length y41.2))] [30, 7, 0, 1, 6] ?_
     obtain ⟨t59, h60, h61⟩ := bS h58
     refine k0 (fun γ w hs => c_spec_l08Value h60 (hs.view 0 rfl) (hv1_0.kept hs.kept)) ?_
     refine oB 6 [(9, vb t59.2), (8, .p 0 0)] [7, 0, 1, 6] [(118, (eFrac t59.1))] ?_
     refine oe (nt (qs (qs (qr (oN 2 [(37, vb (!t59.2))] [8, 7, 0, 1, 6] ?_)))))
     refine oe (nt (cC h61 (fun h66 => ?_) (fun h67 => ?_)))
     · refine qs (qr (ob [] [SlRes 118 s40.2 y41.1 y41.2] 118 0 [] ([] : List Frac) (own_flat (by kernel_rfl)) (fun y68 => ?_)))
       refine oN 2 [(5, vb false), (4, .v (.slice y68.1 ([] : List Frac).length y68.2))] [] ?_
       refine oe (nt (qe (nr (br (nr (nr ?_))))))
       have h70 := leafR hd49 h66 h45
       refine br (nr (nr (rt [.slice y68.1 ([] : List Frac).length y68.2, .bool false] (fun γ w hs => ?_))))
       rw [← sI h70]
       exact ⟨y68, rfl, hs.kept.toBelow, (hs.takeR (is := [0]) rfl).fresh⟩
     refine qk (nt (qr (oN 2 [(40, .v (vFrac t59.1)), (39, .v (.slice y41.1 s40.2.length y41.2))] [7, 0, 1] ?_)))
     refine ob [] [SlRes 118 s40.2 y41.1 y41.2] 118 1 [.int .i64 t59.1.Num, .int .i64 t59.1.Den] ([t59.1] : List Frac) (own_flat (by kernel_rfl)) (fun y71 => ?_)
     refine or_ [1, 0] ?_
     obtain ⟨l74, hm75, h76⟩ := bS h67
     refine oa 140 y71.2 Tryz.t118 (vFrac (Frac.mk 0 0)) (fun γ w hs => ⟨y71.2, (hs.view 1 rfl)⟩) hm75 (fun y73 => ?_)
     refine oN 1 [(6, .v (.slice y73.1 l74.length y73.2))] [7, 0, 1] ?_
     refine oe (bn (nt (qr (oN 3 [(7, vi (w64 (s40.1 + 1)))] [6, 0, 1] ?_))))
     exact oe (ct h76 (y73.1, y73.2) [7, 0, 1, 6] [0] 0)
   refine qx (nx (nx (bh ?_)))
   have h77 := leafB hd49 h55 h45
   exact mp (s40.2, (y41.1, y41.2)) h77 [6] [0] 0
 have h52 := (congrFun hk47 _).symm.trans h52p
 refine nt (qs (qr (oN 3 [(5, vb true), (4, .v (.slice y51.2.1 y51.1.length y51.2.2))] [] ?_)))
 refine oe (nt (qe (rt [.slice y51.2.1 y51.1.length y51.2.2, .bool true] (fun γ w hs => ?_))))
 rw [← sI h52]
 exact ⟨y51.2, rfl, hs.kept.toBelow, (hs.takeR (is := [0]) rfl).fresh⟩

theorem c_spec_Eval {W : World} {x0 : List Node} {a0_0 : Option Addr} {c0_0 : Nat} {x1 : List Frac} {a1_0 : Option Addr} {c1_0 : Nat} {r : Frac × Bool} (h : spec_Eval x0 x1 = some r) (hv0_0 : SlView W x0 a0_0 c0_0) (hv1_0 : SlView W x1 a1_0 c1_0) :
    Gives0 Tryz.prog 217 #[.slice a0_0 x0.length c0_0, .slice a1_0 x1.length c1_0] W (.tuple #[vFrac r.1, .bool r.2]) := by
 unfold spec_Eval at h
 refine en Tryz.func217 Tryz.ntmps217 ?_
 refine qs (qr (oB 2 [(4, .p 0 0)] [0, 1] [(118, (eFrac (Frac.mk 0 0)))] ?_))
 refine oe (nt (qs (qr (oN 2 [(10, .v (.slice a1_0 x1.length c1_0)), (9, .v (.slice a0_0 x0.length c0_0))] [4] ?_))))
 obtain ⟨t21, h22, h23⟩ := bS h
 refine k1 (fun γ w hs => c_spec_EvalAll h22 (hv0_0.kept hs.kept) (hv1_0.kept hs.kept)) (fun y24 => ?_)
 refine oN 5 [(7, vb t21.2), (6, .v (.slice y24.1 t21.1.length y24.2))] [4] ?_
 refine oe (nt (qs (qs (qr (oN 2 [(15, vb (!t21.2))] [6, 4] ?_)))))
 refine oe (nt (cC h23 (fun h26 => ?_) (fun h27 => ?_)))
 · refine qs (qr (oN 3 [(5, vb false)] [4] ?_))
   refine oe (nt (qe (nr ?_)))
   obtain rfl := sI h26
   exact re [vFrac (Frac.mk 0 0), .bool false]
 refine qk (nt (qs (qr (oN 4 [(20, vi (w64 ((t21.1.length : Int) - 1))), (17, .v (.slice y24.1 t21.1.length y24.2))] [4] ?_))))
 obtain ⟨x28, hx29, h30⟩ := bS h27
 refine oi 2 (fun γ w hs => (hs.view 0 rfl)) hx29 ?_
 refine ol 118 0 (vFrac x28) (fun γ w hs => (hs.view 0 rfl).flatq hx29) ?_
 refine oB 2 [(5, vb true)] [4] [(118, (eFrac x28))] ?_
 refine oe (nt (qe ?_))
 obtain rfl := sI h30
 exact re [vFrac x28, .bool true]

theorem c_spec_FloorFrac {W : World} {x0 : Frac} {r : Int} (h : spec_FloorFrac x0 = some r)  :
    Gives0 Tryz.prog 233 #[vFrac x0] W (.int .i64 r) := by
 unfold spec_FloorFrac at h
 refine en Tryz.func233 Tryz.ntmps233 ?_
 refine qs (qr (oB 2 [(1, .p 0 0)] [] [(118, (eFrac x0))] ?_))
 refine oe (nt (qs (qs (qr (oN 1 [(4, .v (vFrac x0))] [1] ?_)))))
 obtain ⟨t21, h22, h23⟩ := bS h
 refine k0 (fun γ w hs => c_spec_FracOk h22) ?_
 refine oN 1 [(6, vb (!t21))] [1] ?_
 refine oe (nt (cC h23 (fun h26 => ?_) (fun h27 => ?_)))
 · refine qs (qr (oN 1 [(2, vi 0)] [] ?_))
   refine oe (nt (qe (nr ?_)))
   obtain rfl := sI h26
   exact re [.int .i64 0]
 refine qk (nt (qs (qr (oN 4 [(10, vi x0.Den), (8, vi x0.Num)] [1] ?_))))
 obtain ⟨u30, hz29, h28⟩ := bS h27
 refine JO_div rfl (by kernel_rfl) (op := .quo) (k := .i64) (x := x0.Num) (y := x0.Den) (by kernel_rfl) (nz_some hz29) rfl ?_
 refine oN 1 [(3, vi (w64 (Int.tdiv x0.Num x0.Den)))] [1] ?_
 refine oe (nt (qs (qs ?_)))
 obtain ⟨p31, hE32, h33⟩ := bS h28
 refine JC_cut (τ := Unit) (fun _ => [(3, vi (w64 (Int.tdiv x0.Num x0.Den))), (22, vb p31)]) (fun _ => [(118, (eFrac x0))]) (fun _ => []) ?_ (fun _ => ?_)
 · refine qr (oN 4 [(15, vb (decide (x0.Num < 0)))] [3, 1] ?_)
   refine oS 15 hE32 (fun h35 => ?_) (fun h36 => ?_)
   · refine oN 4 [(19, vi x0.Den), (17, vi x0.Num)] [15, 3] ?_
     obtain ⟨u39, hz38, h37⟩ := bS h35
     refine JO_div rfl (by kernel_rfl) (op := .rem) (k := .i64) (x := x0.Num) (y := x0.Den) (by kernel_rfl) (nz_some hz38) rfl ?_
     refine oN 2 [(22, vb ((Int.tmod x0.Num x0.Den) != 0))] [3] ?_
     refine oe ?_
     obtain rfl := sI h37
     exact mt () [3, 22] [] 1
   refine oN 7 [(22, vb false)] [3] ?_
   refine oe ?_
   obtain rfl := sI h36
   exact mt () [3, 22] [] 1
 refine nt ?_
 obtain ⟨k43, hk44, h46⟩ := jS h33
 refine JC_cutP (τ := (Int) × (Unit)) (fun y => k43 y.1 = some r) (fun y42 => [(3, vi y42.1)]) (fun y42 => [(118, (eFrac x0))]) (fun y42 => []) ?_ (fun y42 h45p => ?_)
 · refine cC h46 (fun h48 => ?_) (fun h49 => ?_)
   · refine qr (oN 3 [(3, vi (w64 ((w64 (Int.tdiv x0.Num x0.Den)) - 1)))] [] ?_)
     exact oe (mp (w64 ((w64 (Int.tdiv x0.Num x0.Den)) - 1), ()) h48 [3] [] 1)
   exact qk (mp (w64 (Int.tdiv x0.Num x0.Den), ()) h49 [3] [] 1)
 have h45 := (congrFun hk44 _).symm.trans h45p
 refine nt (qs (qr (oN 2 [(2, vi y42.1)] [] ?_)))
 refine oe (nt (qe ?_))
 obtain rfl := sI h45
 exact re [.int .i64 y42.1]

theorem c_spec_RoundFrac {W : World} {x0 : Frac} {x1 : Int} {r : Int × Bool} (h : spec_RoundFrac x0 x1 = some r)  :
    Gives0 Tryz.prog 218 #[vFrac x0, .int .i64 x1] W (.tuple #[.int .i64 r.1, .bool r.2]) := by
 unfold spec_RoundFrac at h
 refine en Tryz.func218 Tryz.ntmps218 ?_
 refine qs (qr (oB 3 [(2, .p 0 0)] [1] [(118, (eFrac x0))] ?_))
 refine oe (nt (qs (qs ?_)))
 obtain ⟨p21, hE22, h23⟩ := bS h
 refine JC_cut (τ := Unit) (fun _ => [(1, vi x1), (2, .p 0 0), (15, vb p21)]) (fun _ => [(118, (eFrac x0))]) (fun _ => []) ?_ (fun _ => ?_)
 · refine qr (oN 1 [(8, .v (vFrac x0))] [2, 1] ?_)
   obtain ⟨t24, h25, h26⟩ := bS hE22
   refine k0 (fun γ w hs => c_spec_FracOk h25) ?_
   refine oN 2 [(11, vb (!t24))] [2, 1] ?_
   refine oS 11 h26 (fun h29 => ?_) (fun h30 => ?_)
   · refine oN 4 [(15, vb true)] [2, 1] ?_
     refine oe ?_
     obtain rfl := sI h29
     exact mt () [1, 2, 15] [] 1
   refine oN 1 [(12, vi x1)] [11, 2, 1] ?_
   obtain ⟨t31, h32, h33⟩ := bS h30
   refine k0 (fun γ w hs => c_spec_l01In h32) ?_
   refine oN 2 [(15, vb (!t31))] [2, 1] ?_
   refine oe ?_
   obtain rfl := sI h33
   exact mt () [1, 2, 15] [] 1
 refine nt (cC h23 (fun h36 => ?_) (fun h37 => ?_))
 · refine qs (qr (oN 2 [(5, vb false), (4, vi 0)] [] ?_))
   refine oe (nt (qe (nr ?_)))
   obtain rfl := sI h36
   exact re [.int .i64 0, .bool false]
 refine qk (nt (qs (qr (oN 1 [(16, .v (vFrac x0))] [1, 2] ?_))))
 obtain ⟨t38, h39, h40⟩ := bS h37
 refine k0 (fun γ w hs => c_spec_FloorFrac h39) ?_
 refine oN 1 [(6, vi t38)] [1, 2] ?_
 refine oe (nt (qs (qr (oN 8 [(7, vi (w64 (x0.Num - (w64 (t38 * x0.Den)))))] [6, 1, 2] ?_))))
 refine oe (nt (qs (qs (qr (oN 1 [(25, vi x1)] [7, 6, 2] ?_)))))
 refine oe (nt (qb (qs (qr (oN 2 [(26, vb (x1 == 2))] [25, 7, 6, 2] ?_)))))
 refine oe (nt ?_)
 obtain ⟨k69, hk70, h72⟩ := jS h40
 refine JC_cutP (τ := (Int) × (Unit)) (fun y => k69 y.1 = some r) (fun y68 => [(6, vi y68.1)]) (fun y68 => [(118, (eFrac x0))]) (fun y68 => []) ?_ (fun y68 h71p => ?_)
 · refine cC h72 (fun h74 => ?_) (fun h75 => ?_)
   · refine qs (qr (oN 2 [(29, vb (decide ((w64 (x0.Num - (w64 (t38 * x0.Den)))) > 0)))] [6] ?_))
     refine oe (nt (cC h74 (fun h77 => ?_) (fun h78 => ?_)))
     · refine qr (oN 3 [(6, vi (w64 (t38 + 1)))] [] ?_)
       exact oe (mp (w64 (t38 + 1), ()) h77 [6] [] 1)
     exact qk (mp (t38, ()) h78 [6] [] 1)
   refine qs (qr (oN 2 [(32, vb (x1 == 3))] [25, 7, 6, 2] ?_))
   refine oe (nt (cC h75 (fun h80 => ?_) (fun h81 => ?_)))
   · refine qs (qr (oN 5 [(38, vb (decide ((w64 (2 * (w64 (x0.Num - (w64 (t38 * x0.Den)))))) ≥ x0.Den)))] [6] ?_))
     refine oe (nt (cC h80 (fun h83 => ?_) (fun h84 => ?_)))
     · refine qr (oN 3 [(6, vi (w64 (t38 + 1)))] [] ?_)
       exact oe (mp (w64 (t38 + 1), ()) h83 [6] [] 1)
     exact qk (mp (t38, ()) h84 [6] [] 1)
   refine qs (qr (oN 2 [(41, vb (x1 == 4))] [7, 6, 2] ?_))
   refine oe (nt (cC h81 (fun h86 => ?_) (fun h87 => ?_)))
   · refine qs ?_
     obtain ⟨p88, hE89, h90⟩ := bS h86
     refine JC_cut (τ := Unit) (fun _ => [(6, vi t38), (59, vb p88)]) (fun _ => [(118, (eFrac x0))]) (fun _ => []) ?_ (fun _ => ?_)
     · refine qr (oN 6 [(48, vb (decide ((w64 (2 * (w64 (x0.Num - (w64 (t38 * x0.Den)))))) > x0.Den)))] [7, 6, 2] ?_)
       refine oS 48 hE89 (fun h92 => ?_) (fun h93 => ?_)
       · refine oN 11 [(59, vb true)] [6] ?_
         refine oe ?_
         obtain rfl := sI h92
         exact mt () [6, 59] [] 1
       refine oN 6 [(54, vb ((w64 (2 * (w64 (x0.Num - (w64 (t38 * x0.Den)))))) == x0.Den))] [48, 6] ?_
       refine oS 54 h93 (fun h95 => ?_) (fun h96 => ?_)
       · refine oN 5 [(59, vb ((and64 t38 1) == 1))] [6] ?_
         refine oe ?_
         obtain rfl := sI h95
         exact mt () [6, 59] [] 1
       refine oN 5 [(59, vb false)] [6] ?_
       refine oe ?_
       obtain rfl := sI h96
       exact mt () [6, 59] [] 1
     refine nt (cC h90 (fun h98 => ?_) (fun h99 => ?_))
     · refine qr (oN 3 [(6, vi (w64 (t38 + 1)))] [] ?_)
       exact oe (mp (w64 (t38 + 1), ()) h98 [6] [] 1)
     exact qk (mp (t38, ()) h99 [6] [] 1)
   exact qk (mp (t38, ()) h87 [6] [] 1)
 have h71 := (congrFun hk70 _).symm.trans h71p
 refine bn (nt (qs (qr (oN 3 [(5, vb true), (4, vi y68.1)] [] ?_))))
 refine oe (nt (qe ?_))
 obtain rfl := sI h71
 exact re [.int .i64 y68.1, .bool true]

theorem c_spec_Figure {W : World} {x0 : Book} {a0_0 : Option Addr} {c0_0 : Nat} {x1 : Int} {x2 : Int} {x3 : Int} {x4 : List Frac} {a4_0 : Option Addr} {c4_0 : Nat} {r : Int × Int × Bool} (h : spec_Figure x0 x1 x2 x3 x4 = some r) (hv0_0 : SlView W x0.Rules a0_0 c0_0) (hv4_0 : SlView W x4 a4_0 c4_0) :
    Gives0 Tryz.prog 168 #[vBook x0 (a0_0, c0_0), .int .i64 x1, .int .i64 x2, .int .i64 x3, .slice a4_0 x4.length c4_0] W (.tuple #[.int .i64 r.1, .int .i64 r.2.1, .bool r.2.2]) := by
 unfold spec_Figure at h
 refine en Tryz.func168 Tryz.ntmps168 ?_
 refine qs (qr (oB 4 [(5, .p 0 0)] [1, 2, 3, 4] [(42, (eBook x0 (a0_0, c0_0)))] ?_))
 refine oe (nt (qs (qr (oN 4 [(21, vi x3), (20, vi x2), (19, vi x1), (18, .v (vBook x0 (a0_0, c0_0)))] [5, 4] ?_))))
 obtain ⟨t21, h22, h23⟩ := bS h
 refine k0 (fun γ w hs => c_spec_RuleFor h22 (hv0_0.kept hs.kept)) ?_
 refine oN 1 [(13, vi t21)] [5, 4] ?_
 refine oe (nt (qs (qs (qr (oN 2 [(24, vb (decide (t21 < 0)))] [13, 5, 4] ?_)))))
 refine oe (nt (cC h23 (fun h26 => ?_) (fun h27 => ?_)))
 · refine qs (qr (oN 3 [(12, vb false), (11, vi 0), (10, vi 0)] [] ?_))
   refine oe (nt (qe (nr ?_)))
   obtain rfl := sI h26
   exact re [.int .i64 0, .int .i64 0, .bool false]
 refine qk (nt (qs (qr (oN 3 [(28, vi t21), (27, .v (.slice a0_0 x0.Rules.length c0_0))] [13, 5, 4] ?_))))
 obtain ⟨x28, hx29, h30⟩ := bS h27
 refine oi 7 (fun γ w hs => (hv0_0.kept hs.kept)) hx29 ?_
 refine oN 1 [(30, .q a0_0 (Int.toNat t21 * 7 + 6))] [13, 5, 4] ?_
 obtain ⟨_, ⟨a31, c32, rfl, hv33⟩, hc34⟩ := SlView.at hv0_0 (idx_some hx29).2.2
 refine ol 67 6 (.slice a31 x28.Nodes.length c32) (fun γ w hs => ⟨(hv0_0.kept hs.kept).ne (idx_some hx29).2.2, hc34.kept hs.kept⟩) ?_
 refine oN 1 [(32, .v (.slice a4_0 x4.length c4_0))] [31, 13, 5] ?_
 obtain ⟨t35, h36, h37⟩ := bS h30
 refine k0 (fun γ w hs => c_spec_Eval h36 (hv33.kept hs.kept) (hv4_0.kept hs.kept)) ?_
 refine oB 6 [(15, vb t35.2), (14, .p 1 0)] [13, 5] [(42, (eBook x0 (a0_0, c0_0))), (118, (eFrac t35.1))] ?_
 refine oe (nt (qs (qs (qr (oN 2 [(37, vb (!t35.2))] [14, 13, 5] ?_)))))
 refine oe (nt (cC h37 (fun h40 => ?_) (fun h41 => ?_)))
 · refine qs (qr (oN 3 [(12, vb false), (11, vi 0), (10, vi 0)] [] ?_))
   refine oe (nt (qe (nr ?_)))
   obtain rfl := sI h40
   exact re [.int .i64 0, .int .i64 0, .bool false]
 refine qk (nt (qs (JC_quiet (by kernel_rfl) (by kernel_rfl) ?_)))
 refine qN 4 [(42, vi t21), (41, .v (.slice a0_0 x0.Rules.length c0_0)), (39, .v (vFrac t35.1))] [13] ?_
 obtain ⟨x42, hx43, h44⟩ := bS h41
 refine qi 7 (fun γ w hs => (hv0_0.kept hs.kept)) hx43 ?_
 refine qN 1 [(44, .q a0_0 (Int.toNat t21 * 7 + 5))] [39, 13] ?_
 obtain ⟨_, ⟨a45, c46, rfl, hv47⟩, hc48⟩ := SlView.at hv0_0 (idx_some hx43).2.2
 refine ql 3 5 (.int .i64 x42.Mode) (fun γ w hs => ⟨(hv0_0.kept hs.kept).ne (idx_some hx43).2.2, hc48.kept hs.kept⟩) ?_
 obtain ⟨t49, h50, h51⟩ := bS h44
 refine q0 (fun γ w hs => c_spec_RoundFrac h50) ?_
 refine qN 5 [(16, vi t49.1)] [13] ?_
 refine qz (nt (qs (qr (oN 5 [(12, vb true), (11, vi t21), (10, vi t49.1)] [] ?_))))
 refine oe (nt (qe ?_))
 obtain rfl := sI h51
 exact re [.int .i64 t49.1, .int .i64 t21, .bool true]

theorem c_spec_l22At {W : World} {x0 : Case} {b0 : AC × AC × AC × AC × AC} {x1 : Int} {x2 : Int} {r : Int} (h : spec_l22At x0 x1 x2 = some r) (hv0_0 : SlView W x0.Book.Rules b0.1.1 b0.1.2) (hv0_1 : SlView W x0.Store.Facts b0.2.1.1 b0.2.1.2) (hv0_2 : SlView W x0.Series.Points b0.2.2.1.1 b0.2.2.1.2) (hv0_3 : SlView W x0.Member.Spells b0.2.2.2.1.1 b0.2.2.2.1.2) (hv0_4 : SlView W x0.Member.Events b0.2.2.2.2.1 b0.2.2.2.2.2) :
    Gives0 Tryz.prog 101 #[vCase x0 b0, .int .i64 x1, .int .i64 x2] W (.int .i64 r) := by
 unfold spec_l22At at h
 refine en Tryz.func101 Tryz.ntmps101 ?_
 refine qs (qr (oB 2 [(3, .p 0 0)] [1, 2] [(54, (eCase x0 b0))] ?_))
 refine oe (nt (qs (qs (qr (oN 4 [(15, vi x1), (14, .v (.slice b0.2.2.2.2.1 x0.Member.Events.length b0.2.2.2.2.2))] [3, 1, 2] ?_)))))
 obtain ⟨t21, h22, h23⟩ := bS h
 refine k0 (fun γ w hs => c_spec_StatusAt h22 (hv0_4.kept hs.kept)) ?_
 refine oN 1 [(17, vb (t21 != 3))] [3, 1, 2] ?_
 refine oe (nt (cC h23 (fun h26 => ?_) (fun h27 => ?_)))
 · refine qs (qr (oN 1 [(6, vi 0)] [] ?_))
   refine oe (nt (qe (nr ?_)))
   obtain rfl := sI h26
   exact re [.int .i64 0]
 refine qk (nt (qs (qr (oN 3 [(21, vi x2), (20, vi x1), (19, .v (vCase x0 b0))] [3, 1] ?_))))
 obtain ⟨t28, h29, h30⟩ := bS h27
 refine k1 (fun γ w hs => c_spec_l22Vars (b0 := b0) h29 (hv0_0.kept hs.kept) (hv0_1.kept hs.kept) (hv0_2.kept hs.kept) (hv0_3.kept hs.kept) (hv0_4.kept hs.kept)) (fun y31 => ?_)
 refine oN 5 [(8, vb t28.2), (7, .v (.slice y31.1 t28.1.length y31.2))] [3, 1] ?_
 refine oe (nt (qs (qs (qr (oN 2 [(26, vb (!t28.2))] [7, 3, 1] ?_)))))
 refine oe (nt (cC h30 (fun h33 => ?_) (fun h34 => ?_)))
 · refine qs (qr (oN 1 [(6, vi 0)] [] ?_))
   refine oe (nt (qe (nr ?_)))
   obtain rfl := sI h33
   exact re [.int .i64 0]
 refine qk (nt (qs (qr (oN 7 [(34, .v (.slice y31.1 t28.1.length y31.2)), (33, vi x0.Member.Joined), (30, vi x1), (29, .v (vBook x0.Book b0.1))] [] ?_))))
 obtain ⟨t35, h36, h37⟩ := bS h34
 refine k0 (fun γ w hs => c_spec_Figure h36 (hv0_0.kept hs.kept) (hs.view 0 rfl)) ?_
 refine oN 7 [(11, vb t35.2.2), (9, vi t35.1)] [] ?_
 refine oe (nt (qs (qs (qr (oN 2 [(40, vb (!t35.2.2))] [9] ?_)))))
 refine oe (nt (cC h37 (fun h40 => ?_) (fun h41 => ?_)))
 · refine qs (qr (oN 1 [(6, vi 0)] [] ?_))
   refine oe (nt (qe (nr ?_)))
   obtain rfl := sI h40
   exact re [.int .i64 0]
 refine qk (nt (qs (qr (oN 4 [(6, vi (imin (imax t35.1 0) 10000000))] [] ?_))))
 refine oe (nt (qe ?_))
 obtain rfl := sI h41
 exact re [.int .i64 (imin (imax t35.1 0) 10000000)]

theorem c_spec_Entitlements {W : World} {x0 : Case} {b0 : AC × AC × AC × AC × AC} {x1 : Int} {x2 : Int} {x3 : Int} {r : (List Int)} (h : spec_Entitlements x0 x1 x2 x3 = some r) (hv0_0 : SlView W x0.Book.Rules b0.1.1 b0.1.2) (hv0_1 : SlView W x0.Store.Facts b0.2.1.1 b0.2.1.2) (hv0_2 : SlView W x0.Series.Points b0.2.2.1.1 b0.2.2.1.2) (hv0_3 : SlView W x0.Member.Spells b0.2.2.2.1.1 b0.2.2.2.1.2) (hv0_4 : SlView W x0.Member.Events b0.2.2.2.2.1 b0.2.2.2.2.2) :
    Gives Tryz.prog 104 #[vCase x0 b0, .int .i64 x1, .int .i64 x2, .int .i64 x3] W (fun y : AC => .slice y.1 r.length y.2) (fun y => [SlRes 3 r y.1 y.2]) := by
 unfold spec_Entitlements at h
 refine en Tryz.func104 Tryz.ntmps104 ?_
 refine qs (qr (oB 2 [(4, .p 0 0)] [1, 2, 3] [(54, (eCase x0 b0))] ?_))
 refine oe (nt (qs (qr (ob [] [] 3 0 [] ([] : List Int) (own_flat (by kernel_rfl)) (fun y21 => ?_)))))
 refine oN 1 [(9, .v (.slice y21.1 ([] : List Int).length y21.2))] [4, 1, 2, 3] ?_
 refine oe (nt (qs (qs ?_)))
 obtain ⟨p23, hE24, h25⟩ := bS h
 refine JC_cut (τ := Unit) (fun _ => [(1, vi x1), (2, vi x2), (3, vi x3), (4, .p 0 0), (9, .v (.slice y21.1 ([] : List Int).length y21.2)), (30, vb p23)]) (fun _ => [(54, (eCase x0 b0))]) (fun _ => [SlRes 3 ([] : List Int) y21.1 y21.2]) ?_ (fun _ => ?_)
 · refine qr (oN 1 [(12, .v (vCase x0 b0))] [9, 4, 1, 2, 3] ?_)
   obtain ⟨t26, h27, h28⟩ := bS hE24
   refine k0 (fun γ w hs => c_spec_CaseOk (b0 := b0) h27 (hv0_0.kept hs.kept) (hv0_1.kept hs.kept) (hv0_2.kept hs.kept) (hv0_3.kept hs.kept) (hv0_4.kept hs.kept)) ?_
   refine oN 2 [(15, vb (!t26))] [9, 4, 1, 2, 3] ?_
   refine oS 15 h28 (fun h31 => ?_) (fun h32 => ?_)
   · refine oN 15 [(30, vb true)] [9, 4, 1, 2, 3] ?_
     refine oe ?_
     obtain rfl := sI h31
     exact mt () [1, 2, 3, 4, 9, 30] [0] 1
   refine oN 1 [(16, vi x1)] [15, 9, 4, 1, 2, 3] ?_
   obtain ⟨t33, h34, h35⟩ := bS h32
   refine k0 (fun γ w hs => c_spec_l04End h34) ?_
   refine oN 3 [(20, vb (!t33))] [9, 4, 1, 2, 3] ?_
   refine oS 20 h35 (fun h38 => ?_) (fun h39 => ?_)
   · refine oN 10 [(30, vb true)] [9, 4, 1, 2, 3] ?_
     refine oe ?_
     obtain rfl := sI h38
     exact mt () [1, 2, 3, 4, 9, 30] [0] 1
   refine oN 1 [(21, vi x2)] [20, 9, 4, 1, 2, 3] ?_
   obtain ⟨t40, h41, h42⟩ := bS h39
   refine k0 (fun γ w hs => c_spec_l04End h41) ?_
   refine oN 3 [(25, vb (!t40))] [9, 4, 1, 2, 3] ?_
   refine oS 25 h42 (fun h45 => ?_) (fun h46 => ?_)
   · refine oN 5 [(30, vb true)] [9, 4, 1, 2, 3] ?_
     refine oe ?_
     obtain rfl := sI h45
     exact mt () [1, 2, 3, 4, 9, 30] [0] 1
   refine oN 5 [(30, vb (decide (x2 > (w64 (x1 + 240)))))] [9, 4, 1, 2, 3] ?_
   refine oe ?_
   obtain rfl := sI h46
   exact mt () [1, 2, 3, 4, 9, 30] [0] 1
 refine nt (cC h25 (fun h48 => ?_) (fun h49 => ?_))
 · refine qs (qr (oN 2 [(8, .v (.slice y21.1 ([] : List Int).length y21.2))] [] ?_))
   refine oe (nt (qe (nr (rt [.slice y21.1 ([] : List Int).length y21.2] (fun γ w hs => ?_)))))
   rw [← sI h48]
   exact ⟨y21, rfl, hs.kept.toBelow, (hs.takeR (is := [0]) rfl).fresh⟩
 refine qk (nt (qs (qs (qr (oN 2 [(10, vi x1)] [2, 3, 4, 9] ?_)))))
 refine oe (nt ?_)
 obtain ⟨r53, hL54, h55⟩ := bS h49
 obtain ⟨k56, hk57, h55⟩ := brkS h55
 refine JC_cutP (τ := ((List Int) × Int × Int) × (AC)) (fun y => k56 y.1 = some r) (fun y61 => [(9, .v (.slice y61.2.1 y61.1.1.length y61.2.2))]) (fun y61 => [(54, (eCase (Case.mk x0.Book x0.Store x0.Series (Member.mk y61.1.2.1 y61.1.2.2 x0.Member.Spells x0.Member.Events)) b0))]) (fun y61 => [SlRes 3 y61.1.1 y61.2.1 y61.2.2]) ?_ (fun y61 h62p => ?_)
 · refine qb (lp AC hL54 (fun s50 y51 => [(10, vi s50.1), (2, vi x2), (3, vi x3), (4, .p 0 0), (9, .v (.slice y51.1 s50.2.length y51.2))]) (fun s50 y51 => [(54, (eCase x0 b0))]) (fun s50 y51 => [SlRes 3 s50.2 y51.1 y51.2]) (y21.1, y21.2) [10, 2, 3, 4, 9] [0] 1 (fun s50 y51 t52 h58 hd59 => ?_))
   refine qs (qs (qr (oN 3 [(35, vb (decide (s50.1 < x2)))] [10, 2, 3, 4, 9] ?_)))
   refine oe (nt (cC h58 (fun h64 => ?_) (fun h65 => ?_)))
   · refine qk (nt (qs (qb (qr (oN 4 [(41, vi x3), (40, vi s50.1), (39, .v (vCase x0 b0)), (38, .v (.slice y51.1 s50.2.length y51.2))] [10, 2, 3, 4] ?_)))))
     obtain ⟨t66, h67, h68⟩ := bS h64
     refine k0 (fun γ w hs => c_spec_l22At (b0 := b0) h67 (hv0_0.kept hs.kept) (hv0_1.kept hs.kept) (hv0_2.kept hs.kept) (hv0_3.kept hs.kept) (hv0_4.kept hs.kept)) ?_
     refine ob [] [SlRes 3 s50.2 y51.1 y51.2] 3 1 [.int .i64 t66] ([t66] : List Int) (own_flat (by kernel_rfl)) (fun y70 => ?_)
     refine or_ [1, 0] ?_
     obtain ⟨l73, hm74, h75⟩ := bS h68
     refine oa 88 y70.2 Tryz.t3 (.int .i64 0) (fun γ w hs => ⟨y70.2, (hs.view 1 rfl)⟩) hm74 (fun y72 => ?_)
     refine oN 1 [(9, .v (.slice y72.1 l73.length y72.2))] [10, 2, 3, 4] ?_
     refine oe (bn (nt (qr (oN 3 [(10, vi (w64 (s50.1 + 1)))] [9, 2, 3, 4] ?_))))
     exact oe (ct h75 (y72.1, y72.2) [10, 2, 3, 4, 9] [0] 1)
   refine qx (nx (nx (bh ?_)))
   have h76 := leafB hd59 h65 h55
   exact mp ((s50.2, x0.Member.Birth, x0.Member.Joined), (y51.1, y51.2)) h76 [9] [0] 1
 have h62 := (congrFun hk57 _).symm.trans h62p
 refine nt (qs (qr (oN 2 [(8, .v (.slice y61.2.1 y61.1.1.length y61.2.2))] [] ?_)))
 refine oe (nt (qe (rt [.slice y61.2.1 y61.1.1.length y61.2.2] (fun γ w hs => ?_))))
 rw [← sI h62]
 exact ⟨y61.2, rfl, hs.kept.toBelow, (hs.takeR (is := [0]) rfl).fresh⟩

theorem c_spec_ImpactOf {W : World} {x0 : Case} {b0 : AC × AC × AC × AC × AC} {x1 : Rule} {a1_0 : Option Addr} {c1_0 : Nat} {x2 : Int} {x3 : Int} {x4 : Int} {r : (List Correction)} (h : spec_ImpactOf x0 x1 x2 x3 x4 = some r) (hv0_0 : SlView W x0.Book.Rules b0.1.1 b0.1.2) (hv0_1 : SlView W x0.Store.Facts b0.2.1.1 b0.2.1.2) (hv0_2 : SlView W x0.Series.Points b0.2.2.1.1 b0.2.2.1.2) (hv0_3 : SlView W x0.Member.Spells b0.2.2.2.1.1 b0.2.2.2.1.2) (hv0_4 : SlView W x0.Member.Events b0.2.2.2.2.1 b0.2.2.2.2.2) (hv1_0 : SlView W x1.Nodes a1_0 c1_0) :
    Gives Tryz.prog 58 #[vCase x0 b0, vRule x1 (a1_0, c1_0), .int .i64 x2, .int .i64 x3, .int .i64 x4] W (fun y : AC => .slice y.1 r.length y.2) (fun y => [SlRes 150 r y.1 y.2]) := by
 unfold spec_ImpactOf at h
 refine en Tryz.func58 Tryz.ntmps58 ?_
 refine qs (qr (oB 3 [(6, .p 1 0), (5, .p 0 0)] [2, 3, 4] [(54, (eCase x0 b0)), (69, (eRule x1 (a1_0, c1_0)))] ?_))
 refine oe (nt (qs (qr (ob [] [] 150 0 [] ([] : List Correction) (own_flat (by kernel_rfl)) (fun y21 => ?_)))))
 refine oN 1 [(11, .v (.slice y21.1 ([] : List Correction).length y21.2))] [6, 5, 2, 3, 4] ?_
 refine oe (nt (qs (qr (oN 2 [(20, .v (vRule x1 (a1_0, c1_0))), (19, .v (vCase x0 b0))] [11, 5, 2, 3, 4] ?_))))
 obtain ⟨t23, h24, h25⟩ := bS h
 refine k1 (fun γ w hs => c_spec_WithRule (b0 := b0) h24 (hv0_0.kept hs.kept) (hv0_1.kept hs.kept) (hv0_2.kept hs.kept) (hv0_3.kept hs.kept) (hv0_4.kept hs.kept) (hv1_0.kept hs.kept)) (fun y26 => ?_)
 refine oB 6 [(13, vb t23.2), (12, .p 2 0)] [11, 5, 2, 3, 4] [(54, (eCase x0 b0)), (69, (eRule x1 (a1_0, c1_0))), (54, (eCase t23.1 y26))] ?_
 refine oe (nt (qs (qs (qr (oN 2 [(25, vb (!t23.2))] [12, 11, 5, 2, 3, 4] ?_)))))
 refine oe (nt (cC h25 (fun h28 => ?_) (fun h29 => ?_)))
 · refine qs (qr (oN 2 [(10, .v (.slice y21.1 ([] : List Correction).length y21.2))] [] ?_))
   refine oe (nt (qe (nr (rt [.slice y21.1 ([] : List Correction).length y21.2] (fun γ w hs => ?_)))))
   rw [← sI h28]
   exact ⟨y21, rfl, hs.kept.toBelow, (hs.takeR (is := [5]) rfl).fresh⟩
 refine qk (nt (qs (qr (oN 4 [(30, vi x4), (29, vi x3), (28, vi x2), (27, .v (vCase x0 b0))] [12, 11, 2, 3, 4] ?_))))
 obtain ⟨t30, h31, h32⟩ := bS h29
 refine k1 (fun γ w hs => c_spec_Entitlements (b0 := b0) h31 (hv0_0.kept hs.kept) (hv0_1.kept hs.kept) (hv0_2.kept hs.kept) (hv0_3.kept hs.kept) (hv0_4.kept hs.kept)) (fun y33 => ?_)
 refine oN 1 [(14, .v (.slice y33.1 t30.length y33.2))] [12, 11, 2, 3, 4] ?_
 refine oe (nt (qs (qr (oN 4 [(35, vi x4), (34, vi x3), (33, vi x2), (32, .v (vCase t23.1 y26))] [14, 11, 2] ?_))))
 obtain ⟨t34, h35, h36⟩ := bS h32
 refine k1 (fun γ w hs => c_spec_Entitlements (b0 := y26) h35 (hs.view 1 rfl) (hs.view 2 rfl) (hs.view 3 rfl) (hs.view 4 rfl) (hs.view 5 rfl)) (fun y37 => ?_)
 refine oN 1 [(15, .v (.slice y37.1 t34.length y37.2))] [14, 11, 2] ?_
 refine oe (nt (qs (qs (qr (oN 1 [(16, vi 0)] [15, 14, 11, 2] ?_)))))
 refine oe (nt ?_)
 obtain ⟨r41, hL42, h43⟩ := bS h36
 obtain ⟨k44, hk45, h43⟩ := brkS h43
 refine JC_cutP (τ := ((List Correction) × Int × Int × Int × Int × Int × Int × Int × Int × Int × Int) × (AC)) (fun y => k44 y.1 = some r) (fun y49 => [(11, .v (.slice y49.2.1 y49.1.1.length y49.2.2))]) (fun y49 => [(54, (eCase (Case.mk x0.Book x0.Store x0.Series (Member.mk y49.1.2.1 y49.1.2.2.1 x0.Member.Spells x0.Member.Events)) b0)), (69, (eRule (Rule.mk y49.1.2.2.2.1 y49.1.2.2.2.2.1 y49.1.2.2.2.2.2.1 y49.1.2.2.2.2.2.2.1 y49.1.2.2.2.2.2.2.2.1 y49.1.2.2.2.2.2.2.2.2.1 x1.Nodes) (a1_0, c1_0))), (54, (eCase (Case.mk t23.1.Book t23.1.Store t23.1.Series (Member.mk y49.1.2.2.2.2.2.2.2.2.2.1 y49.1.2.2.2.2.2.2.2.2.2.2 t23.1.Member.Spells t23.1.Member.Events)) y26))]) (fun y49 => [SlRes 150 y49.1.1 y49.2.1 y49.2.2, SlRes 69 t23.1.Book.Rules y26.1.1 y26.1.2, SlRes 203 t23.1.Store.Facts y26.2.1.1 y26.2.1.2, SlRes 207 t23.1.Series.Points y26.2.2.1.1 y26.2.2.1.2, SlRes 211 t23.1.Member.Spells y26.2.2.2.1.1 y26.2.2.2.1.2, SlRes 215 t23.1.Member.Events y26.2.2.2.2.1 y26.2.2.2.2.2]) ?_ (fun y49 h50p => ?_)
 · refine qb (lp AC hL42 (fun s38 y39 => [(16, vi s38.1), (15, .v (.slice y37.1 t34.length y37.2)), (14, .v (.slice y33.1 t30.length y33.2)), (11, .v (.slice y39.1 s38.2.length y39.2)), (2, vi x2)]) (fun s38 y39 => [(54, (eCase x0 b0)), (69, (eRule x1 (a1_0, c1_0))), (54, (eCase t23.1 y26))]) (fun s38 y39 => [SlRes 3 t34 y37.1 y37.2, SlRes 3 t30 y33.1 y33.2, SlRes 150 s38.2 y39.1 y39.2, SlRes 69 t23.1.Book.Rules y26.1.1 y26.1.2, SlRes 203 t23.1.Store.Facts y26.2.1.1 y26.2.1.2, SlRes 207 t23.1.Series.Points y26.2.2.1.1 y26.2.2.1.2, SlRes 211 t23.1.Member.Spells y26.2.2.2.1.1 y26.2.2.2.1.2, SlRes 215 t23.1.Member.Events y26.2.2.2.2.1 y26.2.2.2.2.2]) (y21.1, y21.2) [16, 15, 14, 11, 2] [0, 0, 5, 0, 0, 0, 0, 0] 3 (fun s38 y39 t40 h46 hd47 => ?_))
   refine qs (qs ?_)
   obtain ⟨p51, hE52, h53⟩ := bS h46
   refine JC_cut (τ := Unit) (fun _ => [(2, vi x2), (11, .v (.slice y39.1 s38.2.length y39.2)), (14, .v (.slice y33.1 t30.length y33.2)), (15, .v (.slice y37.1 t34.length y37.2)), (16, vi s38.1), (46, vb p51)]) (fun _ => [(54, (eCase x0 b0)), (69, (eRule x1 (a1_0, c1_0))), (54, (eCase t23.1 y26))]) (fun _ => [SlRes 150 s38.2 y39.1 y39.2, SlRes 3 t30 y33.1 y33.2, SlRes 3 t34 y37.1 y37.2, SlRes 69 t23.1.Book.Rules y26.1.1 y26.1.2, SlRes 203 t23.1.Store.Facts y26.2.1.1 y26.2.1.2, SlRes 207 t23.1.Series.Points y26.2.2.1.1 y26.2.2.1.2, SlRes 211 t23.1.Member.Spells y26.2.2.2.1.1 y26.2.2.2.1.2, SlRes 215 t23.1.Member.Events y26.2.2.2.2.1 y26.2.2.2.2.2]) ?_ (fun _ => ?_)
   · refine qr (oN 5 [(41, vb (decide (s38.1 < (t30.length : Int))))] [16, 15, 14, 11, 2] ?_)
     refine oS 41 hE52 (fun h55 => ?_) (fun h56 => ?_)
     · refine oN 5 [(46, vb (decide (s38.1 < (t34.length : Int))))] [16, 15, 14, 11, 2] ?_
       refine oe ?_
       obtain rfl := sI h55
       exact mt () [2, 11, 14, 15, 16, 46] [2, 1, 0, 0, 0, 0, 0, 0] 3
     refine oN 5 [(46, vb false)] [16, 15, 14, 11, 2] ?_
     refine oe ?_
     obtain rfl := sI h56
     exact mt () [2, 11, 14, 15, 16, 46] [2, 1, 0, 0, 0, 0, 0, 0] 3
   refine nt (cC h53 (fun h58 => ?_) (fun h59 => ?_))
   · refine qk (nt (qs (qb (qs (JC_quiet (by kernel_rfl) (by kernel_rfl) ?_)))))
     refine qN 2 [(50, vi s38.1), (49, .v (.slice y33.1 t30.length y33.2))] [2, 11, 14, 15, 16] ?_
     obtain ⟨x60, hx61, h62⟩ := bS h58
     refine qi 1 (fun γ w hs => (hs.view 1 rfl)) hx61 ?_
     refine ql 3 0 (.int .i64 x60) (fun γ w hs => (hs.view 1 rfl).flatq hx61) ?_
     refine qN 2 [(54, vi s38.1), (53, .v (.slice y37.1 t34.length y37.2))] [52, 2, 11, 14, 15, 16] ?_
     obtain ⟨x63, hx64, h65⟩ := bS h62
     refine qi 1 (fun γ w hs => (hs.view 2 rfl)) hx64 ?_
     refine ql 3 0 (.int .i64 x63) (fun γ w hs => (hs.view 2 rfl).flatq hx64) ?_
     refine qN 1 [(57, vb (x60 != x63))] [2, 11, 14, 15, 16] ?_
     refine qz (nt ?_)
     obtain ⟨k81, hk82, h84⟩ := jS h65
     refine JC_cutP (τ := ((List Correction)) × (AC)) (fun y => k81 y.1 = some t40) (fun y80 => [(2, vi x2), (11, .v (.slice y80.2.1 y80.1.length y80.2.2)), (14, .v (.slice y33.1 t30.length y33.2)), (15, .v (.slice y37.1 t34.length y37.2)), (16, vi s38.1)]) (fun y80 => [(54, (eCase x0 b0)), (69, (eRule x1 (a1_0, c1_0))), (54, (eCase t23.1 y26))]) (fun y80 => [SlRes 150 y80.1 y80.2.1 y80.2.2, SlRes 3 t30 y33.1 y33.2, SlRes 3 t34 y37.1 y37.2, SlRes 69 t23.1.Book.Rules y26.1.1 y26.1.2, SlRes 203 t23.1.Store.Facts y26.2.1.1 y26.2.1.2, SlRes 207 t23.1.Series.Points y26.2.2.1.1 y26.2.2.1.2, SlRes 211 t23.1.Member.Spells y26.2.2.2.1.1 y26.2.2.2.1.2, SlRes 215 t23.1.Member.Events y26.2.2.2.2.1 y26.2.2.2.2.2]) ?_ (fun y80 h83p => ?_)
     · refine cC h84 (fun h86 => ?_) (fun h87 => ?_)
       · obtain ⟨x88, hx89, h90⟩ := bS h86
         obtain ⟨x91, hx92, h93⟩ := bS h90
         obtain ⟨l96, hm97, h98⟩ := bS h93
         refine JC_cut (τ := AC) (fun y99 => [(11, .v (.slice y99.1 l96.length y99.2)), (2, vi x2), (14, .v (.slice y33.1 t30.length y33.2)), (15, .v (.slice y37.1 t34.length y37.2)), (16, vi s38.1)]) (fun y99 => [(54, (eCase x0 b0)), (69, (eRule x1 (a1_0, c1_0))), (54, (eCase t23.1 y26))]) (fun y99 => [SlRes 150 l96 y99.1 y99.2, SlRes 3 t30 y33.1 y33.2, SlRes 3 t34 y37.1 y37.2, SlRes 69 t23.1.Book.Rules y26.1.1 y26.1.2, SlRes 203 t23.1.Store.Facts y26.2.1.1 y26.2.1.2, SlRes 207 t23.1.Series.Points y26.2.2.1.1 y26.2.2.1.2, SlRes 211 t23.1.Member.Spells y26.2.2.2.1.1 y26.2.2.2.1.2, SlRes 215 t23.1.Member.Events y26.2.2.2.2.1 y26.2.2.2.2.2]) ?_ (fun y99 => ?_)
         · refine JC_weak [2, 11, 14, 15, 16] [0, 0, 0, 0, 0, 0, 0, 0] 3 (sl' := [(2, vi x2), (11, .v (.slice y39.1 s38.2.length y39.2)), (14, .v (.slice y33.1 t30.length y33.2)), (15, .v (.slice y37.1 t34.length y37.2)), (16, vi s38.1)]) (bx' := [(54, (eCase x0 b0)), (69, (eRule x1 (a1_0, c1_0))), (54, (eCase t23.1 y26))]) (R' := [SlRes 150 s38.2 y39.1 y39.2, SlRes 3 t30 y33.1 y33.2, SlRes 3 t34 y37.1 y37.2, SlRes 69 t23.1.Book.Rules y26.1.1 y26.1.2, SlRes 203 t23.1.Store.Facts y26.2.1.1 y26.2.1.2, SlRes 207 t23.1.Series.Points y26.2.2.1.1 y26.2.2.1.2, SlRes 211 t23.1.Member.Spells y26.2.2.2.1.1 y26.2.2.2.1.2, SlRes 215 t23.1.Member.Events y26.2.2.2.2.1 y26.2.2.2.2.2]) (by kernel_rfl) (by kernel_rfl) (by kernel_rfl) (by kernel_rfl) ?_
           refine JC_heldN (ks := [0, 1, 2]) (Rk := [SlRes 3 t30 y33.1 y33.2, SlRes 3 t34 y37.1 y37.2, SlRes 69 t23.1.Book.Rules y26.1.1 y26.1.2, SlRes 203 t23.1.Store.Facts y26.2.1.1 y26.2.1.2, SlRes 207 t23.1.Series.Points y26.2.2.1.1 y26.2.2.1.2, SlRes 211 t23.1.Member.Spells y26.2.2.2.1.1 y26.2.2.2.1.2, SlRes 215 t23.1.Member.Events y26.2.2.2.2.1 y26.2.2.2.2.2]) 16 (by kernel_rfl) (by kernel_rfl) ?_
           refine htq 0 (.v (.slice y39.1 s38.2.length y39.2)) [1, 1, 1, 1, 1, 1, 1] ?_
           refine htq 1 (vi x2) [1, 1, 1, 1, 1, 1, 1] ?_
           refine htq 2 (vi s38.1) [1, 1, 1, 1, 1, 1, 1] ?_
           refine htq 3 (vi (w64 (x2 + s38.1))) [1, 1, 1, 1, 1, 1, 1] ?_
           refine hk [61, 58, 2, 11, 14, 15, 16] ?_
           refine htq 4 (.v (.slice y33.1 t30.length y33.2)) [1, 1, 1, 1, 1, 1, 1] ?_
           refine htq 5 (vi s38.1) [1, 1, 1, 1, 1, 1, 1] ?_
           refine ht 6 (.q y33.1 (Int.toNat s38.1 * 1)) [1, 1, 1, 1, 1, 1, 1] (index_held (d := y33.1) (m := t30.length) (j := s38.1) (s := 1) (by kernel_rfl) (fun γ0 w hs => (hs.view 0 rfl)) rfl hx89) ?_
           refine hk [64, 61, 58, 2, 11, 14, 15, 16] ?_
           refine ht 7 (vi x88) [1, 1, 1, 1, 1, 1, 1] (loadq_held (t := 3) (d := y33.1) (Int.toNat s38.1 * 1) 0 (by kernel_rfl) (cs := [.int .i64 x88]) (v := .int .i64 x88) (fun γ0 w hs => (hs.view 0 rfl).flatq hx89) (by kernel_rfl)) ?_
           refine hk [65, 61, 58, 2, 11, 14, 15, 16] ?_
           refine htq 8 (.v (.slice y37.1 t34.length y37.2)) [1, 1, 1, 1, 1, 1, 1] ?_
           refine htq 9 (vi s38.1) [1, 1, 1, 1, 1, 1, 1] ?_
           refine ht 10 (.q y37.1 (Int.toNat s38.1 * 1)) [1, 1, 1, 1, 1, 1, 1] (index_held (d := y37.1) (m := t34.length) (j := s38.1) (s := 1) (by kernel_rfl) (fun γ0 w hs => (hs.view 1 rfl)) rfl hx92) ?_
           refine hk [68, 65, 61, 58, 2, 11, 14, 15, 16] ?_
           refine ht 11 (vi x91) [1, 1, 1, 1, 1, 1, 1] (loadq_held (t := 3) (d := y37.1) (Int.toNat s38.1 * 1) 0 (by kernel_rfl) (cs := [.int .i64 x91]) (v := .int .i64 x91) (fun γ0 w hs => (hs.view 1 rfl).flatq hx92) (by kernel_rfl)) ?_
           refine hk [69, 65, 61, 58, 2, 11, 14, 15, 16] ?_
           refine htq 12 (.v (vCorrection (Correction.mk (w64 (x2 + s38.1)) x88 x91))) [1, 1, 1, 1, 1, 1, 1] ?_
           refine hk [70, 58, 2, 11, 14, 15, 16] ?_
           refine ha1 13 ?_
           refine hi (fun γ0 δ hm => ?_)
           refine gb [] [SlRes 150 s38.2 y39.1 y39.2, SlRes 3 t30 y33.1 y33.2, SlRes 3 t34 y37.1 y37.2, SlRes 69 t23.1.Book.Rules y26.1.1 y26.1.2, SlRes 203 t23.1.Store.Facts y26.2.1.1 y26.2.1.2, SlRes 207 t23.1.Series.Points y26.2.2.1.1 y26.2.2.1.2, SlRes 211 t23.1.Member.Spells y26.2.2.2.1.1 y26.2.2.2.1.2, SlRes 215 t23.1.Member.Events y26.2.2.2.2.1 y26.2.2.2.2.2] 150 1 [.int .i64 (w64 (x2 + s38.1)), .int .i64 x88, .int .i64 x91] ([Correction.mk (w64 (x2 + s38.1)) x88 x91] : List Correction) (own_flat (by kernel_rfl)) (fun y94 => ?_)
           refine gn hm [71, 58, 2, 11, 14, 15, 16] [2, 2, 2, 2, 2, 2, 2] ?_
           refine ha1 14 ?_
           refine JHi_res (R' := [SlRes 150 s38.2 y39.1 y39.2, SlRes 150 ([Correction.mk (w64 (x2 + s38.1)) x88 x91] : List Correction) y94.1 y94.2, SlRes 3 t30 y33.1 y33.2, SlRes 3 t34 y37.1 y37.2, SlRes 69 t23.1.Book.Rules y26.1.1 y26.1.2, SlRes 203 t23.1.Store.Facts y26.2.1.1 y26.2.1.2, SlRes 207 t23.1.Series.Points y26.2.2.1.1 y26.2.2.1.2, SlRes 211 t23.1.Member.Spells y26.2.2.2.1.1 y26.2.2.2.1.2, SlRes 215 t23.1.Member.Events y26.2.2.2.2.1 y26.2.2.2.2.2]) [1, 0, 0, 0, 0, 0, 0, 0, 0] (by kernel_rfl) ?_
           refine hi (fun γ0 δ hm => ?_)
           refine ga 108 y94.2 Tryz.t150 (vCorrection (Correction.mk 0 0 0)) (fun w hs => ⟨y94.2, (hs.view 1 rfl)⟩) hm97 (fun y95 => ?_)
           refine gn hm [72, 2, 11, 14, 15, 16] [2, 2, 2, 2, 2, 2, 2] ?_
           refine htq 15 (.v (.slice y95.1 l96.length y95.2)) [2, 2, 2, 2, 2, 2, 2] ?_
           refine hk [11, 2, 14, 15, 16] ?_
           exact hd y95 [11, 2, 14, 15, 16] [0, 1, 1, 1, 1, 1, 1, 1] 3
         exact mp (l96, (y99.1, y99.2)) h98 [2, 11, 14, 15, 16] [0, 0, 0, 0, 0, 0, 0, 0] 3
       exact qk (mp (s38.2, (y39.1, y39.2)) h87 [2, 11, 14, 15, 16] [0, 0, 0, 0, 0, 0, 0, 0] 3)
     have h83 := (congrFun hk82 _).symm.trans h83p
     refine bn (nt (qr (oN 3 [(16, vi (w64 (s38.1 + 1)))] [2, 11, 14, 15] ?_)))
     exact oe (ct h83 (y80.2.1, y80.2.2) [16, 15, 14, 11, 2] [2, 1, 0, 0, 0, 0, 0, 0] 3)
   refine qx (nx (nx (bh ?_)))
   have h100 := leafB hd47 h59 h43
   exact mp ((s38.2, x0.Member.Birth, x0.Member.Joined, x1.Name, x1.From, x1.To, x1.Joined, x1.Rank, x1.Mode, t23.1.Member.Birth, t23.1.Member.Joined), (y39.1, y39.2)) h100 [11] [0, 2, 2, 2, 2, 2] 3
 have h50 := (congrFun hk45 _).symm.trans h50p
 refine nt (qs (qr (oN 2 [(10, .v (.slice y49.2.1 y49.1.1.length y49.2.2))] [] ?_)))
 refine oe (nt (qe (rt [.slice y49.2.1 y49.1.1.length y49.2.2] (fun γ w hs => ?_))))
 rw [← sI h50]
 exact ⟨y49.2, rfl, hs.kept.toBelow, (hs.takeR (is := [0]) rfl).fresh⟩

theorem c_spec_l23Ok {W : World} {x0 : List Correction} {a0_0 : Option Addr} {c0_0 : Nat} {r : Bool} (h : spec_l23Ok x0 = some r) (hv0_0 : SlView W x0 a0_0 c0_0) :
    Gives0 Tryz.prog 174 #[.slice a0_0 x0.length c0_0] W (.bool r) := by
 unfold spec_l23Ok at h
 refine en Tryz.func174 Tryz.ntmps174 ?_
 refine qs (qr (oN 1 [] [0] ?_))
 refine oe (nt (qs (qs (qr (oN 1 [(3, vi 0)] [0] ?_)))))
 refine oe (nt ?_)
 obtain ⟨r24, hL25, h26⟩ := bS h
 obtain ⟨k27, hk28, h26⟩ := brkS h26
 refine JC_cutP (τ := (Unit) × (Unit)) (fun y => k27 y.1 = some r) (fun y32 => [(0, .v (.slice a0_0 x0.length c0_0))]) (fun y32 => []) (fun y32 => []) ?_ (fun y32 h33p => ?_)
 · refine qb (lp Unit hL25 (fun s21 y22 => [(3, vi s21), (0, .v (.slice a0_0 x0.length c0_0))]) (fun s21 y22 => []) (fun s21 y22 => []) () [3, 0] [] 0 (fun s21 y22 t23 h29 hd30 => ?_))
   refine qs (qs (qr (oN 4 [(7, vb (decide (s21 < (x0.length : Int))))] [3, 0] ?_)))
   refine oe (nt (cC h29 (fun h35 => ?_) (fun h36 => ?_)))
   · refine qk (nt (qs (qb (qs ?_))))
     obtain ⟨p37, hE38, h39⟩ := bS h35
     refine JC_cut (τ := Unit) (fun _ => [(0, .v (.slice a0_0 x0.length c0_0)), (3, vi s21), (25, vb p37)]) (fun _ => []) (fun _ => []) ?_ (fun _ => ?_)
     · refine qr (oN 2 [(11, vi s21), (10, .v (.slice a0_0 x0.length c0_0))] [3, 0] ?_)
       obtain ⟨x40, hx41, h42⟩ := bS hE38
       refine oi 3 (fun γ w hs => (hv0_0.kept hs.kept)) hx41 ?_
       refine oN 1 [(13, .q a0_0 (Int.toNat s21 * 3 + 1))] [3, 0] ?_
       refine ol 3 1 (.int .i64 x40.Old) (fun γ w hs => (hv0_0.kept hs.kept).flatq hx41) ?_
       obtain ⟨t43, h44, h45⟩ := bS h42
       refine k0 (fun γ w hs => c_spec_l01In h44) ?_
       refine oN 2 [(17, vb (!t43))] [3, 0] ?_
       refine oS 17 h45 (fun h48 => ?_) (fun h49 => ?_)
       · refine oN 8 [(25, vb true)] [3, 0] ?_
         refine oe ?_
         obtain rfl := sI h48
         exact mt () [0, 3, 25] [] 0
       refine oN 2 [(19, vi s21), (18, .v (.slice a0_0 x0.length c0_0))] [17, 3, 0] ?_
       obtain ⟨x50, hx51, h52⟩ := bS h49
       refine oi 3 (fun γ w hs => (hv0_0.kept hs.kept)) hx51 ?_
       refine oN 1 [(21, .q a0_0 (Int.toNat s21 * 3 + 2))] [17, 3, 0] ?_
       refine ol 3 2 (.int .i64 x50.New) (fun γ w hs => (hv0_0.kept hs.kept).flatq hx51) ?_
       obtain ⟨t53, h54, h55⟩ := bS h52
       refine k0 (fun γ w hs => c_spec_l01In h54) ?_
       refine oN 2 [(25, vb (!t53))] [3, 0] ?_
       refine oe ?_
       obtain rfl := sI h55
       exact mt () [0, 3, 25] [] 0
     refine nt (cC h39 (fun h58 => ?_) (fun h59 => ?_))
     · refine qs (qr (oN 1 [(2, vb false)] [] ?_))
       refine oe (nt (qe (br (nr (nr ?_)))))
       have h60 := leafR hd30 h58 h26
       refine br (nr (nr ?_))
       obtain rfl := sI h60
       exact re [.bool false]
     refine qk (bn (nt (qr (oN 3 [(3, vi (w64 (s21 + 1)))] [0] ?_))))
     exact oe (ct h59 () [3, 0] [] 0)
   refine qx (nx (nx (bh ?_)))
   have h61 := leafB hd30 h36 h26
   exact mp ((), ()) h61 [0] [] 0
 have h33 := (congrFun hk28 _).symm.trans h33p
 refine nt (qs (qr (oN 4 [(2, vb (decide ((x0.length : Int) ≤ 240)))] [] ?_)))
 refine oe (nt (qe ?_))
 obtain rfl := sI h33
 exact re [.bool (decide ((x0.length : Int) ≤ 240))]

theorem c_spec_NetOf {W : World} {x0 : List Correction} {a0_0 : Option Addr} {c0_0 : Nat} {r : Int} (h : spec_NetOf x0 = some r) (hv0_0 : SlView W x0 a0_0 c0_0) :
    Gives0 Tryz.prog 106 #[.slice a0_0 x0.length c0_0] W (.int .i64 r) := by
 unfold spec_NetOf at h
 refine en Tryz.func106 Tryz.ntmps106 ?_
 refine qs (qr (oN 1 [] [0] ?_))
 refine oe (nt (qs (qr (oN 1 [(3, vi 0)] [0] ?_))))
 refine oe (nt (qs (qs (qr (oN 1 [(4, vi 0)] [3, 0] ?_)))))
 refine oe (nt ?_)
 obtain ⟨r24, hL25, h26⟩ := bS h
 obtain ⟨k27, hk28, h26⟩ := brkS h26
 refine JC_cutP (τ := (Int) × (Unit)) (fun y => k27 y.1 = some r) (fun y32 => [(3, vi y32.1)]) (fun y32 => []) (fun y32 => []) ?_ (fun y32 h33p => ?_)
 · refine qb (lp Unit hL25 (fun s21 y22 => [(4, vi s21.1), (3, vi s21.2), (0, .v (.slice a0_0 x0.length c0_0))]) (fun s21 y22 => []) (fun s21 y22 => []) () [4, 3, 0] [] 0 (fun s21 y22 t23 h29 hd30 => ?_))
   refine qs (qs ?_)
   obtain ⟨p34, hE35, h36⟩ := bS h29
   refine JC_cut (τ := Unit) (fun _ => [(0, .v (.slice a0_0 x0.length c0_0)), (3, vi s21.2), (4, vi s21.1), (12, vb p34)]) (fun _ => []) (fun _ => []) ?_ (fun _ => ?_)
   · refine qr (oN 5 [(9, vb (decide (s21.1 < (x0.length : Int))))] [4, 3, 0] ?_)
     refine oS 9 hE35 (fun h38 => ?_) (fun h39 => ?_)
     · refine oN 1 [(10, .v (.slice a0_0 x0.length c0_0))] [9, 4, 3, 0] ?_
       obtain ⟨t40, h41, h42⟩ := bS h38
       refine k0 (fun γ w hs => c_spec_l23Ok h41 (hv0_0.kept hs.kept)) ?_
       refine oN 1 [(12, vb t40)] [4, 3, 0] ?_
       refine oe ?_
       obtain rfl := sI h42
       exact mt () [0, 3, 4, 12] [] 0
     refine oN 3 [(12, vb false)] [4, 3, 0] ?_
     refine oe ?_
     obtain rfl := sI h39
     exact mt () [0, 3, 4, 12] [] 0
   refine nt (cC h36 (fun h45 => ?_) (fun h46 => ?_))
   · refine qk (nt (qs (qb (JC_quiet (by kernel_rfl) (by kernel_rfl) ?_))))
     refine qN 3 [(17, vi s21.1), (16, .v (.slice a0_0 x0.length c0_0)), (15, vi s21.2)] [0, 4] ?_
     obtain ⟨x47, hx48, h49⟩ := bS h45
     refine qi 3 (fun γ w hs => (hv0_0.kept hs.kept)) hx48 ?_
     refine qN 1 [(19, .q a0_0 (Int.toNat s21.1 * 3 + 2))] [15, 0, 4] ?_
     refine ql 3 2 (.int .i64 x47.New) (fun γ w hs => (hv0_0.kept hs.kept).flatq hx48) ?_
     refine qN 3 [(23, vi s21.1), (22, .v (.slice a0_0 x0.length c0_0)), (21, vi (w64 (s21.2 + x47.New)))] [0, 4] ?_
     obtain ⟨x50, hx51, h52⟩ := bS h49
     refine qi 3 (fun γ w hs => (hv0_0.kept hs.kept)) hx51 ?_
     refine qN 1 [(25, .q a0_0 (Int.toNat s21.1 * 3 + 1))] [21, 0, 4] ?_
     refine ql 3 1 (.int .i64 x50.Old) (fun γ w hs => (hv0_0.kept hs.kept).flatq hx51) ?_
     refine qN 2 [(3, vi (w64 ((w64 (s21.2 + x47.New)) - x50.Old)))] [0, 4] ?_
     refine qz (bn (nt (qr (oN 3 [(4, vi (w64 (s21.1 + 1)))] [3, 0] ?_))))
     exact oe (ct h52 () [4, 3, 0] [] 0)
   refine qx (nx (nx (bh ?_)))
   have h53 := leafB hd30 h46 h26
   exact mp (s21.2, ()) h53 [3] [] 0
 have h33 := (congrFun hk28 _).symm.trans h33p
 refine nt (qs (qr (oN 2 [(2, vi y32.1)] [] ?_)))
 refine oe (nt (qe ?_))
 obtain rfl := sI h33
 exact re [.int .i64 y32.1]

theorem c_spec_CountWinners {W : World} {x0 : List Case} {a0_0 : Option Addr} {c0_0 : Nat} {x1 : Rule} {a1_0 : Option Addr} {c1_0 : Nat} {x2 : Int} {x3 : Int} {x4 : Int} {r : Int × Int} (h : spec_CountWinners x0 x1 x2 x3 x4 = some r) (hv0_0 : SlView W x0 a0_0 c0_0) (hv1_0 : SlView W x1.Nodes a1_0 c1_0) :
    Gives0 Tryz.prog 56 #[.slice a0_0 x0.length c0_0, vRule x1 (a1_0, c1_0), .int .i64 x2, .int .i64 x3, .int .i64 x4] W (.tuple #[.int .i64 r.1, .int .i64 r.2]) := by
 unfold spec_CountWinners at h
 refine en Tryz.func56 Tryz.ntmps56 ?_
 refine qs (qr (oB 3 [(6, .p 0 0)] [0, 2, 3, 4] [(69, (eRule x1 (a1_0, c1_0)))] ?_))
 refine oe (nt (qs (qr (oN 1 [(12, vi 0)] [6, 0, 2, 3, 4] ?_))))
 refine oe (nt (qs (qr (oN 1 [(13, vi 0)] [12, 6, 0, 2, 3, 4] ?_))))
 refine oe (nt (qs (qs (qr (oN 1 [(14, vi 0)] [13, 12, 6, 0, 2, 3, 4] ?_)))))
 refine oe (nt ?_)
 obtain ⟨r24, hL25, h26⟩ := bS h
 obtain ⟨k27, hk28, h26⟩ := brkS h26
 refine JC_cutP (τ := (Int × Int × Int × Int × Int × Int × Int × Int) × (Unit)) (fun y => k27 y.1 = some r) (fun y32 => [(13, vi y32.1.1), (12, vi y32.1.2.1)]) (fun y32 => [(69, (eRule (Rule.mk y32.1.2.2.1 y32.1.2.2.2.1 y32.1.2.2.2.2.1 y32.1.2.2.2.2.2.1 y32.1.2.2.2.2.2.2.1 y32.1.2.2.2.2.2.2.2 x1.Nodes) (a1_0, c1_0)))]) (fun y32 => []) ?_ (fun y32 h33p => ?_)
 · refine qb (lp Unit hL25 (fun s21 y22 => [(14, vi s21.1), (13, vi s21.2.1), (12, vi s21.2.2), (6, .p 0 0), (0, .v (.slice a0_0 x0.length c0_0)), (2, vi x2), (3, vi x3), (4, vi x4)]) (fun s21 y22 => [(69, (eRule x1 (a1_0, c1_0)))]) (fun s21 y22 => []) () [14, 13, 12, 6, 0, 2, 3, 4] [] 1 (fun s21 y22 t23 h29 hd30 => ?_))
   refine qs (qs ?_)
   obtain ⟨p34, hE35, h36⟩ := bS h29
   refine JC_cut (τ := Unit) (fun _ => [(0, .v (.slice a0_0 x0.length c0_0)), (2, vi x2), (3, vi x3), (4, vi x4), (6, .p 0 0), (12, vi s21.2.2), (13, vi s21.2.1), (14, vi s21.1), (24, vb p34)]) (fun _ => [(69, (eRule x1 (a1_0, c1_0)))]) (fun _ => []) ?_ (fun _ => ?_)
   · refine qr (oN 5 [(20, vb (decide (s21.1 < (x0.length : Int))))] [14, 13, 12, 6, 0, 2, 3, 4] ?_)
     refine oS 20 hE35 (fun h38 => ?_) (fun h39 => ?_)
     · refine oN 4 [(24, vb (decide ((x0.length : Int) ≤ 20)))] [14, 13, 12, 6, 0, 2, 3, 4] ?_
       refine oe ?_
       obtain rfl := sI h38
       exact mt () [0, 2, 3, 4, 6, 12, 13, 14, 24] [] 1
     refine oN 4 [(24, vb false)] [14, 13, 12, 6, 0, 2, 3, 4] ?_
     refine oe ?_
     obtain rfl := sI h39
     exact mt () [0, 2, 3, 4, 6, 12, 13, 14, 24] [] 1
   refine nt (cC h36 (fun h41 => ?_) (fun h42 => ?_))
   · refine qk (nt (qs (qb (qs ?_))))
     obtain ⟨x43, hx44, h45⟩ := bS h41
     obtain ⟨_, ⟨a46, c47, a49, c50, a52, c53, a55, c56, a58, c59, rfl, hv48, hv51, hv54, hv57, hv60⟩, hc61⟩ := SlView.at hv0_0 (idx_some hx44).2.2
     obtain ⟨t62, h63, h64⟩ := bS h45
     obtain ⟨t66, h67, h68⟩ := bS h64
     refine JC_cut (τ := Unit) (fun _ => [(15, vi t66), (0, .v (.slice a0_0 x0.length c0_0)), (2, vi x2), (3, vi x3), (4, vi x4), (6, .p 0 0), (12, vi s21.2.2), (13, vi s21.2.1), (14, vi s21.1)]) (fun _ => [(69, (eRule x1 (a1_0, c1_0)))]) (fun _ => []) ?_ (fun _ => ?_)
     · refine jw [0, 2, 3, 4, 6, 12, 13, 14] [] ?_
       refine JC_heldN (ks := [0]) (Rk := []) 11 (by kernel_rfl) (by kernel_rfl) ?_
       refine htq 0 (.v (.slice a0_0 x0.length c0_0)) [] ?_
       refine htq 1 (vi s21.1) [] ?_
       refine ht 2 (.q a0_0 (Int.toNat s21.1 * 7)) [] (index_held (d := a0_0) (m := x0.length) (j := s21.1) (s := 7) (by kernel_rfl) (fun γ0 w hs => (hv0_0.kept hs.kept)) rfl hx44) ?_
       refine hk [29, 0, 2, 3, 4, 6, 12, 13, 14] ?_
       refine ht 3 (.v (vCase x43 ((a46, c47), (a49, c50), (a52, c53), (a55, c56), (a58, c59)))) [] (loadq_held (t := 54) (d := a0_0) (Int.toNat s21.1 * 7) 0 (by kernel_rfl) (cs := (eCase x43 ((a46, c47), (a49, c50), (a52, c53), (a55, c56), (a58, c59)))) (v := vCase x43 ((a46, c47), (a49, c50), (a52, c53), (a55, c56), (a58, c59))) (fun γ0 w hs => ⟨(hv0_0.kept hs.kept).ne (idx_some hx44).2.2, hc61.kept hs.kept⟩) (by kernel_rfl)) ?_
       refine hk [30, 0, 2, 3, 4, 6, 12, 13, 14] ?_
       refine htq 4 (.v (vRule x1 (a1_0, c1_0))) [] ?_
       refine htq 5 (vi x2) [] ?_
       refine htq 6 (vi x3) [] ?_
       refine htq 7 (vi x4) [] ?_
       refine ha1 8 ?_
       refine hi (fun γ0 δ hm => ?_)
       refine g1 (fun w hs => c_spec_ImpactOf (b0 := ((a46, c47), (a49, c50), (a52, c53), (a55, c56), (a58, c59))) h63 (hv48.kept hs.kept) (hv51.kept hs.kept) (hv54.kept hs.kept) (hv57.kept hs.kept) (hv60.kept hs.kept) (hv1_0.kept hs.kept)) (fun y65 => ?_)
       refine gn hm [35, 0, 2, 3, 4, 6, 12, 13, 14] [] ?_
       refine ha1 9 ?_
       refine hi (fun γ0 δ hm => ?_)
       refine g0 (fun w hs => c_spec_NetOf h67 (hs.view 0 rfl)) ?_
       refine gn hm [36, 0, 2, 3, 4, 6, 12, 13, 14] [] ?_
       refine htq 10 (vi t66) [] ?_
       refine hk [15, 0, 2, 3, 4, 6, 12, 13, 14] ?_
       exact hd () [15, 0, 2, 3, 4, 6, 12, 13, 14] [] 1
     refine nt (qs (qs (qr (oN 2 [(38, vb (decide (t66 > 0)))] [15, 0, 2, 3, 4, 6, 12, 13, 14] ?_))))
     refine oe (nt ?_)
     obtain ⟨k74, hk75, h87⟩ := jS h68
     refine JC_cutP (τ := (Int) × (Unit)) (fun y => k74 y.1 = some t23) (fun y73 => [(15, vi t66), (0, .v (.slice a0_0 x0.length c0_0)), (2, vi x2), (3, vi x3), (4, vi x4), (6, .p 0 0), (12, vi y73.1), (13, vi s21.2.1), (14, vi s21.1)]) (fun y73 => [(69, (eRule x1 (a1_0, c1_0)))]) (fun y73 => []) ?_ (fun y73 h76p => ?_)
     · refine cC h87 (fun h89 => ?_) (fun h90 => ?_)
       · refine qr (oN 3 [(12, vi (w64 (s21.2.2 + 1)))] [15, 0, 2, 3, 4, 6, 13, 14] ?_)
         exact oe (mp (w64 (s21.2.2 + 1), ()) h89 [15, 0, 2, 3, 4, 6, 12, 13, 14] [] 1)
       exact qk (mp (s21.2.2, ()) h90 [15, 0, 2, 3, 4, 6, 12, 13, 14] [] 1)
     have h76 := (congrFun hk75 _).symm.trans h76p
     refine nt (qs (qr (oN 2 [(42, vb (decide (t66 < 0)))] [0, 2, 3, 4, 6, 12, 13, 14] ?_)))
     refine oe (nt ?_)
     obtain ⟨k80, hk81, h83⟩ := jS h76
     refine JC_cutP (τ := (Int) × (Unit)) (fun y => k80 y.1 = some t23) (fun y79 => [(0, .v (.slice a0_0 x0.length c0_0)), (2, vi x2), (3, vi x3), (4, vi x4), (6, .p 0 0), (12, vi y73.1), (13, vi y79.1), (14, vi s21.1)]) (fun y79 => [(69, (eRule x1 (a1_0, c1_0)))]) (fun y79 => []) ?_ (fun y79 h82p => ?_)
     · refine cC h83 (fun h85 => ?_) (fun h86 => ?_)
       · refine qr (oN 3 [(13, vi (w64 (s21.2.1 + 1)))] [0, 2, 3, 4, 6, 12, 14] ?_)
         exact oe (mp (w64 (s21.2.1 + 1), ()) h85 [0, 2, 3, 4, 6, 12, 13, 14] [] 1)
       exact qk (mp (s21.2.1, ()) h86 [0, 2, 3, 4, 6, 12, 13, 14] [] 1)
     have h82 := (congrFun hk81 _).symm.trans h82p
     refine bn (nt (qr (oN 3 [(14, vi (w64 (s21.1 + 1)))] [0, 2, 3, 4, 6, 12, 13] ?_)))
     exact oe (ct h82 () [14, 13, 12, 6, 0, 2, 3, 4] [] 1)
   refine qx (nx (nx (bh ?_)))
   have h91 := leafB hd30 h42 h26
   exact mp ((s21.2.1, s21.2.2, x1.Name, x1.From, x1.To, x1.Joined, x1.Rank, x1.Mode), ()) h91 [13, 12] [] 1
 have h33 := (congrFun hk28 _).symm.trans h33p
 refine nt (qs (qr (oN 4 [(11, vi y32.1.1), (10, vi y32.1.2.1)] [] ?_)))
 refine oe (nt (qe ?_))
 obtain rfl := sI h33
 exact re [.int .i64 y32.1.2.1, .int .i64 y32.1.1]

theorem c_slices_Clone_Node {W : World} {x0 : List Node} {a0_0 : Option Addr} {c0_0 : Nat} {r : (List Node)} (h : slices_Clone_Node x0 = some r) (hv0_0 : SlView W x0 a0_0 c0_0) :
    Gives Tryz.prog 191 #[.slice a0_0 x0.length c0_0] W (fun y : AC => .slice y.1 r.length y.2) (fun y => [SlRes 120 r y.1 y.2]) := by
 unfold slices_Clone_Node at h
 refine en Tryz.func191 Tryz.ntmps191 ?_
 refine qs (qr (oN 1 [] [0] ?_))
 refine oe (nt (qs (qs (qr (oN 1 [(3, .v (.slice a0_0 x0.length c0_0))] [0] ?_)))))
 rcases a0_0 with _ | d21
 · obtain rfl := hv0_0.nil rfl
   obtain rfl := hv0_0.nilE
   have h22 : (some ([] : List Node)) = some r := h
   refine oN 1 [(4, vb true)] [0] ?_
   refine oe (nt (JC_cond true (by kernel_rfl) (fun _ => ?_) (fun hb => by cases hb)))
   refine qs (qr (oN 1 [(2, .v (.slice none 0 0))] [] ?_))
   refine oe (nt (qe (nr (JE_addnil 120 (List.nil (α := Node)) rfl ?_))))
   refine rt [.slice none 0 0] (fun γ w hs => ?_)
   rw [← sI h22]
   exact ⟨(none, 0), rfl, hs.kept.toBelow, (hs.takeR (is := [0]) rfl).fresh⟩
 refine oN 1 [(4, vb false)] [0] ?_
 refine oe (nt (JC_cond false (by kernel_rfl) (fun hb => by cases hb) (fun _ => ?_)))
 refine qk (nt (qs (qr (ob [] [] 120 0 [] ([] : List Node) (own_flat (by kernel_rfl)) (fun y24 => ?_)))))
 refine oN 1 [(6, .v (.slice (some d21) x0.length c0_0))] [5] ?_
 obtain ⟨l27, hm28, h29⟩ := bS h
 refine oa 67 c0_0 Tryz.t120 (vNode (Node.mk 0 0 0 0 (Frac.mk 0 0))) (fun γ w hs => ⟨c0_0, (hv0_0.kept hs.kept)⟩) hm28 (fun y26 => ?_)
 refine oN 1 [(2, .v (.slice y26.1 l27.length y26.2))] [] ?_
 refine oe (nt (qe (rt [.slice y26.1 l27.length y26.2] (fun γ w hs => ?_))))
 rw [← sI h29]
 exact ⟨y26, rfl, hs.kept.toBelow, (hs.takeR (is := [0]) rfl).fresh⟩

theorem c_impl_copyNodes {W : World} {x0 : List Node} {a0_0 : Option Addr} {c0_0 : Nat} {r : (List Node)} (h : impl_copyNodes x0 = some r) (hv0_0 : SlView W x0 a0_0 c0_0) :
    Gives Tryz.prog 141 #[.slice a0_0 x0.length c0_0] W (fun y : AC => .slice y.1 r.length y.2) (fun y => [SlRes 120 r y.1 y.2]) := by
 unfold impl_copyNodes at h
 refine en Tryz.func141 Tryz.ntmps141 ?_
 refine qs (qr (oN 1 [] [0] ?_))
 refine oe (nt (qs (qr (oN 1 [(3, .v (.slice a0_0 x0.length c0_0))] [] ?_))))
 obtain ⟨t21, h22, h23⟩ := bS h
 refine k1 (fun γ w hs => c_slices_Clone_Node h22 (hv0_0.kept hs.kept)) (fun y24 => ?_)
 refine oN 1 [(2, .v (.slice y24.1 t21.length y24.2))] [] ?_
 refine oe (nt (qe (rt [.slice y24.1 t21.length y24.2] (fun γ w hs => ?_))))
 rw [← sI h23]
 exact ⟨y24, rfl, hs.kept.toBelow, (hs.takeR (is := [0]) rfl).fresh⟩

theorem c_impl_copyBook {W : World} {x0 : Book} {a0_0 : Option Addr} {c0_0 : Nat} {r : Book} (h : impl_copyBook x0 = some r) (hv0_0 : SlView W x0.Rules a0_0 c0_0) :
    Gives Tryz.prog 137 #[vBook x0 (a0_0, c0_0)] W (fun y : AC => vBook r y) (fun y => [SlRes 69 r.Rules y.1 y.2]) := by
 unfold impl_copyBook at h
 refine en Tryz.func137 Tryz.ntmps137 ?_
 refine qs (qr (oB 2 [(2, .p 1 0), (1, .p 0 0)] [] [(42, (eBook x0 (a0_0, c0_0))), (42, [.slice none 0 0])] ?_))
 refine oe (nt (qs (qr (oB 3 [(3, .p 2 0)] [2, 1] [(42, (eBook x0 (a0_0, c0_0))), (42, [.slice none 0 0]), (42, [.slice none 0 0])] ?_))))
 refine oe (nt (qs (qs (qr (oN 4 [(10, vi 0), (9, vi (x0.Rules.length : Int)), (8, .v (.slice a0_0 x0.Rules.length c0_0))] [3, 2] ?_)))))
 refine oe (nt (JC_addnil 69 (List.nil (α := Rule)) rfl ?_))
 obtain ⟨r24, hL25, h26⟩ := bS h
 obtain ⟨k27, hk28, h26⟩ := brkS h26
 refine JC_cutP (τ := ((List Rule)) × (AC)) (fun y => k27 y.1 = some r) (fun y32 => [(3, .p 2 0), (2, .p 1 0)]) (fun y32 => [(42, (eBook x0 (a0_0, c0_0))), (42, [.slice none 0 0]), (42, (eBook (Book.mk y32.1) y32.2))]) (fun y32 => [SlRes 69 y32.1 y32.2.1 y32.2.2]) ?_ (fun y32 h33p => ?_)
 · refine qb (lp AC hL25 (fun s21 y22 => [(10, vi s21.1), (9, vi (x0.Rules.length : Int)), (8, .v (.slice a0_0 x0.Rules.length c0_0)), (3, .p 2 0), (2, .p 1 0)]) (fun s21 y22 => [(42, (eBook x0 (a0_0, c0_0))), (42, [.slice none 0 0]), (42, (eBook (Book.mk s21.2) y22))]) (fun s21 y22 => [SlRes 69 s21.2 y22.1 y22.2]) (none, 0) [10, 9, 8, 3, 2] [0] 3 (fun s21 y22 t23 h29 hd30 => ?_))
   refine qs (qr (oN 1 [(11, vb (decide (s21.1 < (x0.Rules.length : Int))))] [10, 9, 8, 3, 2] ?_))
   refine oe (nt (qs (cC h29 (fun h35 => ?_) (fun h36 => ?_))))
   · refine qk (nt (qs (qb (qs (qr ?_)))))
     obtain ⟨x37, hx38, h39⟩ := bS h35
     refine oi 7 (fun γ w hs => (hv0_0.kept hs.kept)) hx38 ?_
     obtain ⟨_, ⟨a40, c41, rfl, hv42⟩, hc43⟩ := SlView.at hv0_0 (idx_some hx38).2.2
     refine ol 69 0 (vRule x37 (a40, c41)) (fun γ w hs => ⟨(hv0_0.kept hs.kept).ne (idx_some hx38).2.2, hc43.kept hs.kept⟩) ?_
     refine oB 2 [(5, .p 3 0)] [10, 9, 8, 3, 2] [(42, (eBook x0 (a0_0, c0_0))), (42, [.slice none 0 0]), (42, (eBook (Book.mk s21.2) y22)), (69, (eRule x37 (a40, c41)))] ?_
     refine oe (nt (qs (qr (oN 2 [(15, .v (.slice a40 x37.Nodes.length c41))] [5, 10, 9, 8, 3, 2] ?_))))
     obtain ⟨t44, h45, h46⟩ := bS h39
     refine k1 (fun γ w hs => c_impl_copyNodes h45 (hv42.kept hs.kept)) (fun y47 => ?_)
     refine oB 2 [] [5, 10, 9, 8, 3, 2] [(42, (eBook x0 (a0_0, c0_0))), (42, [.slice none 0 0]), (42, (eBook (Book.mk s21.2) y22)), (69, (eRule (Rule.mk x37.Name x37.From x37.To x37.Joined x37.Rank x37.Mode t44) y47))] ?_
     refine oe (nt (qr (oN 3 [(20, .v (vRule (Rule.mk x37.Name x37.From x37.To x37.Joined x37.Rank x37.Mode t44) y47)), (19, .v (.slice y22.1 s21.2.length y22.2))] [10, 9, 8, 3, 2] ?_)))
     refine ob [SlRes 120 t44 y47.1 y47.2] [SlRes 69 s21.2 y22.1 y22.2] 69 1 [.int .i64 x37.Name, .int .i64 x37.From, .int .i64 x37.To, .int .i64 x37.Joined, .int .i64 x37.Rank, .int .i64 x37.Mode, .slice y47.1 t44.length y47.2] ([Rule.mk x37.Name x37.From x37.To x37.Joined x37.Rank x37.Mode t44] : List Rule) (own_single (by rintro w Fs ⟨G0, _, rfl, h0, rfl⟩; exact ⟨120, y47.1, y47.2, G0, by simp, rfl, h0⟩)) (fun y48 => ?_)
     refine or_ [1, 0] ?_
     obtain ⟨l51, hm52, h53⟩ := bS h46
     refine JO_appendR (α := Rule) rfl (by kernel_rfl) (t := 40) (e := 69) (a1 := y22.1) (a2 := y48.1) (c1 := y22.2) (c2 := y48.2) (l1 := s21.2) (l2 := ([Rule.mk x37.Name x37.From x37.To x37.Joined x37.Rank x37.Mode t44] : List Rule)) (by kernel_rfl) (i := Tryz.t69) (by kernel_rfl) (z := (vRule (Rule.mk 0 0 0 0 0 0 ([] : List Node)) (none, 0))) (by kernel_rfl) (by kernel_rfl) (by kernel_rfl) (by kernel_rfl) (Rr := []) rfl hm52 _ (fun _ => rfl) (fun y50 => ?_)
     refine oB 2 [] [10, 9, 8, 3, 2] [(42, (eBook x0 (a0_0, c0_0))), (42, [.slice none 0 0]), (42, (eBook (Book.mk l51) y50)), (69, (eRule (Rule.mk x37.Name x37.From x37.To x37.Joined x37.Rank x37.Mode t44) y47))] ?_
     refine oe (bn (nt (qr (oN 2 [(10, vi (w64 (s21.1 + 1)))] [9, 8, 3, 2] ?_))))
     exact oe (ct h53 (y50.1, y50.2) [10, 9, 8, 3, 2] [0] 3)
   refine qx (nx (nx (bh ?_)))
   have h54 := leafB hd30 h36 h26
   exact mp (s21.2, (y22.1, y22.2)) h54 [3, 2] [0] 3
 have h33 := (congrFun hk28 _).symm.trans h33p
 refine nt (qs (qr (oB 2 [] [2] [(42, (eBook x0 (a0_0, c0_0))), (42, (eBook (Book.mk y32.1) y32.2)), (42, (eBook (Book.mk y32.1) y32.2))] ?_)))
 refine oe (nt (qe (rt [vBook (Book.mk y32.1) y32.2] (fun γ w hs => ?_))))
 rw [← sI h33]
 exact ⟨y32.2, rfl, hs.kept.toBelow, (hs.takeR (is := [0]) rfl).fresh⟩

theorem c_slices_Clone_Fact {W : World} {x0 : List Fact} {a0_0 : Option Addr} {c0_0 : Nat} {r : (List Fact)} (h : slices_Clone_Fact x0 = some r) (hv0_0 : SlView W x0 a0_0 c0_0) :
    Gives Tryz.prog 187 #[.slice a0_0 x0.length c0_0] W (fun y : AC => .slice y.1 r.length y.2) (fun y => [SlRes 203 r y.1 y.2]) := by
 unfold slices_Clone_Fact at h
 refine en Tryz.func187 Tryz.ntmps187 ?_
 refine qs (qr (oN 1 [] [0] ?_))
 refine oe (nt (qs (qs (qr (oN 1 [(3, .v (.slice a0_0 x0.length c0_0))] [0] ?_)))))
 rcases a0_0 with _ | d21
 · obtain rfl := hv0_0.nil rfl
   obtain rfl := hv0_0.nilE
   have h22 : (some ([] : List Fact)) = some r := h
   refine oN 1 [(4, vb true)] [0] ?_
   refine oe (nt (JC_cond true (by kernel_rfl) (fun _ => ?_) (fun hb => by cases hb)))
   refine qs (qr (oN 1 [(2, .v (.slice none 0 0))] [] ?_))
   refine oe (nt (qe (nr (JE_addnil 203 (List.nil (α := Fact)) rfl ?_))))
   refine rt [.slice none 0 0] (fun γ w hs => ?_)
   rw [← sI h22]
   exact ⟨(none, 0), rfl, hs.kept.toBelow, (hs.takeR (is := [0]) rfl).fresh⟩
 refine oN 1 [(4, vb false)] [0] ?_
 refine oe (nt (JC_cond false (by kernel_rfl) (fun hb => by cases hb) (fun _ => ?_)))
 refine qk (nt (qs (qr (ob [] [] 203 0 [] ([] : List Fact) (own_flat (by kernel_rfl)) (fun y24 => ?_)))))
 refine oN 1 [(6, .v (.slice (some d21) x0.length c0_0))] [5] ?_
 obtain ⟨l27, hm28, h29⟩ := bS h
 refine oa 43 c0_0 Tryz.t203 (vFact (Fact.mk 0 0 0 0 0)) (fun γ w hs => ⟨c0_0, (hv0_0.kept hs.kept)⟩) hm28 (fun y26 => ?_)
 refine oN 1 [(2, .v (.slice y26.1 l27.length y26.2))] [] ?_
 refine oe (nt (qe (rt [.slice y26.1 l27.length y26.2] (fun γ w hs => ?_))))
 rw [← sI h29]
 exact ⟨y26, rfl, hs.kept.toBelow, (hs.takeR (is := [0]) rfl).fresh⟩

theorem c_impl_copyStore {W : World} {x0 : Store} {a0_0 : Option Addr} {c0_0 : Nat} {r : Store} (h : impl_copyStore x0 = some r) (hv0_0 : SlView W x0.Facts a0_0 c0_0) :
    Gives Tryz.prog 138 #[vStore x0 (a0_0, c0_0)] W (fun y : AC => vStore r y) (fun y => [SlRes 203 r.Facts y.1 y.2]) := by
 unfold impl_copyStore at h
 refine en Tryz.func138 Tryz.ntmps138 ?_
 refine qs (qr (oB 2 [(2, .p 1 0), (1, .p 0 0)] [] [(45, (eStore x0 (a0_0, c0_0))), (45, [.slice none 0 0])] ?_))
 refine oe (nt (qs (qr (oN 2 [(4, .v (.slice a0_0 x0.Facts.length c0_0))] [2] ?_))))
 obtain ⟨t21, h22, h23⟩ := bS h
 refine k1 (fun γ w hs => c_slices_Clone_Fact h22 (hv0_0.kept hs.kept)) (fun y24 => ?_)
 refine oB 2 [] [2] [(45, (eStore x0 (a0_0, c0_0))), (45, (eStore (Store.mk t21) y24))] ?_
 refine oe (nt (qe (rt [vStore (Store.mk t21) y24] (fun γ w hs => ?_))))
 rw [← sI h23]
 exact ⟨y24, rfl, hs.kept.toBelow, (hs.takeR (is := [0]) rfl).fresh⟩

theorem c_slices_Clone_Point {W : World} {x0 : List Point} {a0_0 : Option Addr} {c0_0 : Nat} {r : (List Point)} (h : slices_Clone_Point x0 = some r) (hv0_0 : SlView W x0 a0_0 c0_0) :
    Gives Tryz.prog 188 #[.slice a0_0 x0.length c0_0] W (fun y : AC => .slice y.1 r.length y.2) (fun y => [SlRes 207 r y.1 y.2]) := by
 unfold slices_Clone_Point at h
 refine en Tryz.func188 Tryz.ntmps188 ?_
 refine qs (qr (oN 1 [] [0] ?_))
 refine oe (nt (qs (qs (qr (oN 1 [(3, .v (.slice a0_0 x0.length c0_0))] [0] ?_)))))
 rcases a0_0 with _ | d21
 · obtain rfl := hv0_0.nil rfl
   obtain rfl := hv0_0.nilE
   have h22 : (some ([] : List Point)) = some r := h
   refine oN 1 [(4, vb true)] [0] ?_
   refine oe (nt (JC_cond true (by kernel_rfl) (fun _ => ?_) (fun hb => by cases hb)))
   refine qs (qr (oN 1 [(2, .v (.slice none 0 0))] [] ?_))
   refine oe (nt (qe (nr (JE_addnil 207 (List.nil (α := Point)) rfl ?_))))
   refine rt [.slice none 0 0] (fun γ w hs => ?_)
   rw [← sI h22]
   exact ⟨(none, 0), rfl, hs.kept.toBelow, (hs.takeR (is := [0]) rfl).fresh⟩
 refine oN 1 [(4, vb false)] [0] ?_
 refine oe (nt (JC_cond false (by kernel_rfl) (fun hb => by cases hb) (fun _ => ?_)))
 refine qk (nt (qs (qr (ob [] [] 207 0 [] ([] : List Point) (own_flat (by kernel_rfl)) (fun y24 => ?_)))))
 refine oN 1 [(6, .v (.slice (some d21) x0.length c0_0))] [5] ?_
 obtain ⟨l27, hm28, h29⟩ := bS h
 refine oa 46 c0_0 Tryz.t207 (vPoint (Point.mk 0 0 0)) (fun γ w hs => ⟨c0_0, (hv0_0.kept hs.kept)⟩) hm28 (fun y26 => ?_)
 refine oN 1 [(2, .v (.slice y26.1 l27.length y26.2))] [] ?_
 refine oe (nt (qe (rt [.slice y26.1 l27.length y26.2] (fun γ w hs => ?_))))
 rw [← sI h29]
 exact ⟨y26, rfl, hs.kept.toBelow, (hs.takeR (is := [0]) rfl).fresh⟩

theorem c_impl_copySeries {W : World} {x0 : Series} {a0_0 : Option Addr} {c0_0 : Nat} {r : Series} (h : impl_copySeries x0 = some r) (hv0_0 : SlView W x0.Points a0_0 c0_0) :
    Gives Tryz.prog 139 #[vSeries x0 (a0_0, c0_0)] W (fun y : AC => vSeries r y) (fun y => [SlRes 207 r.Points y.1 y.2]) := by
 unfold impl_copySeries at h
 refine en Tryz.func139 Tryz.ntmps139 ?_
 refine qs (qr (oB 2 [(2, .p 1 0), (1, .p 0 0)] [] [(48, (eSeries x0 (a0_0, c0_0))), (48, [.slice none 0 0])] ?_))
 refine oe (nt (qs (qr (oN 2 [(4, .v (.slice a0_0 x0.Points.length c0_0))] [2] ?_))))
 obtain ⟨t21, h22, h23⟩ := bS h
 refine k1 (fun γ w hs => c_slices_Clone_Point h22 (hv0_0.kept hs.kept)) (fun y24 => ?_)
 refine oB 2 [] [2] [(48, (eSeries x0 (a0_0, c0_0))), (48, (eSeries (Series.mk t21) y24))] ?_
 refine oe (nt (qe (rt [vSeries (Series.mk t21) y24] (fun γ w hs => ?_))))
 rw [← sI h23]
 exact ⟨y24, rfl, hs.kept.toBelow, (hs.takeR (is := [0]) rfl).fresh⟩

theorem c_slices_Clone_Spell {W : World} {x0 : List Spell} {a0_0 : Option Addr} {c0_0 : Nat} {r : (List Spell)} (h : slices_Clone_Spell x0 = some r) (hv0_0 : SlView W x0 a0_0 c0_0) :
    Gives Tryz.prog 189 #[.slice a0_0 x0.length c0_0] W (fun y : AC => .slice y.1 r.length y.2) (fun y => [SlRes 211 r y.1 y.2]) := by
 unfold slices_Clone_Spell at h
 refine en Tryz.func189 Tryz.ntmps189 ?_
 refine qs (qr (oN 1 [] [0] ?_))
 refine oe (nt (qs (qs (qr (oN 1 [(3, .v (.slice a0_0 x0.length c0_0))] [0] ?_)))))
 rcases a0_0 with _ | d21
 · obtain rfl := hv0_0.nil rfl
   obtain rfl := hv0_0.nilE
   have h22 : (some ([] : List Spell)) = some r := h
   refine oN 1 [(4, vb true)] [0] ?_
   refine oe (nt (JC_cond true (by kernel_rfl) (fun _ => ?_) (fun hb => by cases hb)))
   refine qs (qr (oN 1 [(2, .v (.slice none 0 0))] [] ?_))
   refine oe (nt (qe (nr (JE_addnil 211 (List.nil (α := Spell)) rfl ?_))))
   refine rt [.slice none 0 0] (fun γ w hs => ?_)
   rw [← sI h22]
   exact ⟨(none, 0), rfl, hs.kept.toBelow, (hs.takeR (is := [0]) rfl).fresh⟩
 refine oN 1 [(4, vb false)] [0] ?_
 refine oe (nt (JC_cond false (by kernel_rfl) (fun hb => by cases hb) (fun _ => ?_)))
 refine qk (nt (qs (qr (ob [] [] 211 0 [] ([] : List Spell) (own_flat (by kernel_rfl)) (fun y24 => ?_)))))
 refine oN 1 [(6, .v (.slice (some d21) x0.length c0_0))] [5] ?_
 obtain ⟨l27, hm28, h29⟩ := bS h
 refine oa 49 c0_0 Tryz.t211 (vSpell (Spell.mk 0 0 0 false)) (fun γ w hs => ⟨c0_0, (hv0_0.kept hs.kept)⟩) hm28 (fun y26 => ?_)
 refine oN 1 [(2, .v (.slice y26.1 l27.length y26.2))] [] ?_
 refine oe (nt (qe (rt [.slice y26.1 l27.length y26.2] (fun γ w hs => ?_))))
 rw [← sI h29]
 exact ⟨y26, rfl, hs.kept.toBelow, (hs.takeR (is := [0]) rfl).fresh⟩

theorem c_slices_Clone_Event {W : World} {x0 : List Event} {a0_0 : Option Addr} {c0_0 : Nat} {r : (List Event)} (h : slices_Clone_Event x0 = some r) (hv0_0 : SlView W x0 a0_0 c0_0) :
    Gives Tryz.prog 190 #[.slice a0_0 x0.length c0_0] W (fun y : AC => .slice y.1 r.length y.2) (fun y => [SlRes 215 r y.1 y.2]) := by
 unfold slices_Clone_Event at h
 refine en Tryz.func190 Tryz.ntmps190 ?_
 refine qs (qr (oN 1 [] [0] ?_))
 refine oe (nt (qs (qs (qr (oN 1 [(3, .v (.slice a0_0 x0.length c0_0))] [0] ?_)))))
 rcases a0_0 with _ | d21
 · obtain rfl := hv0_0.nil rfl
   obtain rfl := hv0_0.nilE
   have h22 : (some ([] : List Event)) = some r := h
   refine oN 1 [(4, vb true)] [0] ?_
   refine oe (nt (JC_cond true (by kernel_rfl) (fun _ => ?_) (fun hb => by cases hb)))
   refine qs (qr (oN 1 [(2, .v (.slice none 0 0))] [] ?_))
   refine oe (nt (qe (nr (JE_addnil 215 (List.nil (α := Event)) rfl ?_))))
   refine rt [.slice none 0 0] (fun γ w hs => ?_)
   rw [← sI h22]
   exact ⟨(none, 0), rfl, hs.kept.toBelow, (hs.takeR (is := [0]) rfl).fresh⟩
 refine oN 1 [(4, vb false)] [0] ?_
 refine oe (nt (JC_cond false (by kernel_rfl) (fun hb => by cases hb) (fun _ => ?_)))
 refine qk (nt (qs (qr (ob [] [] 215 0 [] ([] : List Event) (own_flat (by kernel_rfl)) (fun y24 => ?_)))))
 refine oN 1 [(6, .v (.slice (some d21) x0.length c0_0))] [5] ?_
 obtain ⟨l27, hm28, h29⟩ := bS h
 refine oa 50 c0_0 Tryz.t215 (vEvent (Event.mk 0 0)) (fun γ w hs => ⟨c0_0, (hv0_0.kept hs.kept)⟩) hm28 (fun y26 => ?_)
 refine oN 1 [(2, .v (.slice y26.1 l27.length y26.2))] [] ?_
 refine oe (nt (qe (rt [.slice y26.1 l27.length y26.2] (fun γ w hs => ?_))))
 rw [← sI h29]
 exact ⟨y26, rfl, hs.kept.toBelow, (hs.takeR (is := [0]) rfl).fresh⟩

theorem c_impl_copyMember {W : World} {x0 : Member} {b0 : AC × AC} {r : Member} (h : impl_copyMember x0 = some r) (hv0_0 : SlView W x0.Spells b0.1.1 b0.1.2) (hv0_1 : SlView W x0.Events b0.2.1 b0.2.2) :
    Gives Tryz.prog 140 #[vMember x0 b0] W (fun y : AC × AC => vMember r y) (fun y => [SlRes 211 r.Spells y.1.1 y.1.2, SlRes 215 r.Events y.2.1 y.2.2]) := by
 unfold impl_copyMember at h
 refine en Tryz.func140 Tryz.ntmps140 ?_
 refine qs (qr (oB 2 [(2, .p 1 0), (1, .p 0 0)] [] [(52, (eMember x0 b0)), (52, [.int .i64 0, .int .i64 0, .slice none 0 0, .slice none 0 0])] ?_))
 refine oe (nt (qs (qr (oN 2 [(4, .v (.slice b0.1.1 x0.Spells.length b0.1.2))] [2, 1] ?_))))
 obtain ⟨t21, h22, h23⟩ := bS h
 refine k1 (fun γ w hs => c_slices_Clone_Spell h22 (hv0_0.kept hs.kept)) (fun y24 => ?_)
 refine oB 2 [] [2, 1] [(52, (eMember (Member.mk x0.Birth x0.Joined t21 x0.Events) (y24, b0.2))), (52, [.int .i64 0, .int .i64 0, .slice none 0 0, .slice none 0 0])] ?_
 refine oe (nt (qs (qr (oN 2 [(8, .v (.slice b0.2.1 x0.Events.length b0.2.2))] [2, 1] ?_))))
 obtain ⟨t25, h26, h27⟩ := bS h23
 refine k1 (fun γ w hs => c_slices_Clone_Event h26 (hv0_1.kept hs.kept)) (fun y28 => ?_)
 refine oB 2 [] [2, 1] [(52, (eMember (Member.mk x0.Birth x0.Joined t21 t25) (y24, y28))), (52, [.int .i64 0, .int .i64 0, .slice none 0 0, .slice none 0 0])] ?_
 refine oe (nt (qs (qr (oB 2 [] [2] [(52, (eMember (Member.mk x0.Birth x0.Joined t21 t25) (y24, y28))), (52, (eMember (Member.mk x0.Birth x0.Joined t21 t25) (y24, y28)))] ?_))))
 refine oe (nt (qe (rt [vMember (Member.mk x0.Birth x0.Joined t21 t25) (y24, y28)] (fun γ w hs => ?_))))
 rw [← sI h27]
 exact ⟨(y24, y28), rfl, hs.kept.toBelow, (hs.takeR (is := [1, 0]) rfl).fresh⟩

theorem c_impl_copyCase {W : World} {x0 : Case} {b0 : AC × AC × AC × AC × AC} {r : Case} (h : impl_copyCase x0 = some r) (hv0_0 : SlView W x0.Book.Rules b0.1.1 b0.1.2) (hv0_1 : SlView W x0.Store.Facts b0.2.1.1 b0.2.1.2) (hv0_2 : SlView W x0.Series.Points b0.2.2.1.1 b0.2.2.1.2) (hv0_3 : SlView W x0.Member.Spells b0.2.2.2.1.1 b0.2.2.2.1.2) (hv0_4 : SlView W x0.Member.Events b0.2.2.2.2.1 b0.2.2.2.2.2) :
    Gives Tryz.prog 85 #[vCase x0 b0] W (fun y : AC × AC × AC × AC × AC => vCase r y) (fun y => [SlRes 69 r.Book.Rules y.1.1 y.1.2, SlRes 203 r.Store.Facts y.2.1.1 y.2.1.2, SlRes 207 r.Series.Points y.2.2.1.1 y.2.2.1.2, SlRes 211 r.Member.Spells y.2.2.2.1.1 y.2.2.2.1.2, SlRes 215 r.Member.Events y.2.2.2.2.1 y.2.2.2.2.2]) := by
 unfold impl_copyCase at h
 refine en Tryz.func85 Tryz.ntmps85 ?_
 refine qs (qr (oB 2 [(2, .p 1 0), (1, .p 0 0)] [] [(54, (eCase x0 b0)), (54, [.slice none 0 0, .slice none 0 0, .slice none 0 0, .int .i64 0, .int .i64 0, .slice none 0 0, .slice none 0 0])] ?_))
 refine oe (nt (qs ?_))
 obtain ⟨t21, h22, h23⟩ := bS h
 obtain ⟨t25, h26, h27⟩ := bS h23
 obtain ⟨t29, h30, h31⟩ := bS h27
 obtain ⟨t33, h34, h35⟩ := bS h31
 refine JC_cut (τ := AC × AC × AC × (AC × AC)) (fun y37 => [(2, .p 1 0)]) (fun y37 => [(54, (eCase x0 b0)), (54, (eCase (Case.mk t21 t25 t29 t33) y37))]) (fun y37 => [SlRes 211 t33.Spells y37.2.2.2.1.1 y37.2.2.2.1.2, SlRes 215 t33.Events y37.2.2.2.2.1 y37.2.2.2.2.2, SlRes 207 t29.Points y37.2.2.1.1 y37.2.2.1.2, SlRes 203 t25.Facts y37.2.1.1 y37.2.1.2, SlRes 69 t21.Rules y37.1.1 y37.1.2]) ?_ (fun y37 => ?_)
 · refine jw [2, 1] [] ?_
   refine JC_heldN (ks := [0]) (Rk := []) 14 (by kernel_rfl) (by kernel_rfl) ?_
   refine htq 0 (.p 0 0) [] ?_
   refine htq 1 (.v (vBook x0.Book b0.1)) [] ?_
   refine hk [4, 2, 1] ?_
   refine htq 3 (.p 0 1) [] ?_
   refine htq 4 (.v (vStore x0.Store b0.2.1)) [] ?_
   refine hk [7, 4, 2, 1] ?_
   refine htq 6 (.p 0 2) [] ?_
   refine htq 7 (.v (vSeries x0.Series b0.2.2.1)) [] ?_
   refine hk [10, 7, 4, 2, 1] ?_
   refine htq 9 (.p 0 3) [] ?_
   refine hk [12, 10, 7, 4, 2] ?_
   refine htq 10 (.v (vMember x0.Member b0.2.2.2)) [] ?_
   refine hk [13, 10, 7, 4, 2] ?_
   refine ha1 2 ?_
   refine hi (fun γ0 δ hm => ?_)
   refine g1 (fun w hs => c_impl_copyBook h22 (hv0_0.kept hs.kept)) (fun y24 => ?_)
   refine gn hm [5, 13, 10, 7, 2] [] ?_
   refine ha1 5 ?_
   refine hi (fun γ0 δ hm => ?_)
   refine g1 (fun w hs => c_impl_copyStore h26 (hv0_1.kept hs.kept)) (fun y28 => ?_)
   refine gn hm [8, 5, 13, 10, 2] [] ?_
   refine ha1 8 ?_
   refine hi (fun γ0 δ hm => ?_)
   refine g1 (fun w hs => c_impl_copySeries h30 (hv0_2.kept hs.kept)) (fun y32 => ?_)
   refine gn hm [11, 8, 5, 13, 2] [] ?_
   refine ha1 11 ?_
   refine hi (fun γ0 δ hm => ?_)
   refine g1 (fun w hs => c_impl_copyMember (b0 := b0.2.2.2) h34 (hv0_3.kept hs.kept) (hv0_4.kept hs.kept)) (fun y36 => ?_)
   refine gn hm [14, 11, 8, 5, 2] [] ?_
   refine htq 12 (.v (vCase (Case.mk t21 t25 t29 t33) (y24, y28, y32, y36.1, y36.2))) [] ?_
   refine hk [15, 2] ?_
   refine ha1 13 ?_
   refine hi (fun γ0 δ hm => ?_)
   refine gs [(15, .v (vCase (Case.mk t21 t25 t29 t33) (y24, y28, y32, y36.1, y36.2))), (2, .p 1 0)] [(54, (eCase x0 b0)), (54, (eCase (Case.mk t21 t25 t29 t33) (y24, y28, y32, y36.1, y36.2)))] (fun δ2 => ?_)
   refine gd hm [2] [] ?_
   exact hd (y24, y28, y32, y36) [2] [0, 0, 0, 0, 0] 2
 refine nt (qe (rt [vCase (Case.mk t21 t25 t29 t33) y37] (fun γ w hs => ?_)))
 rw [← sI h35]
 exact ⟨(y37.1, y37.2.1, y37.2.2.1, y37.2.2.2.1, y37.2.2.2.2), rfl, hs.kept.toBelow, (hs.takeR (is := [4, 3, 2, 0, 0]) rfl).fresh⟩

theorem c_impl_within {W : World} {x0 : Int} {x1 : Int} {x2 : Int} {r : Bool} (h : impl_within x0 x1 x2 = some r)  :
    Gives0 Tryz.prog 169 #[.int .i64 x0, .int .i64 x1, .int .i64 x2] W (.bool r) := by
 unfold impl_within at h
 refine en Tryz.func169 Tryz.ntmps169 ?_
 refine qs (qr (oN 1 [] [0, 1, 2] ?_))
 refine oe (nt (qs ?_))
 obtain ⟨p21, hE22, h23⟩ := bS h
 refine JC_cut (τ := Unit) (fun _ => [(6, vb p21)]) (fun _ => []) (fun _ => []) ?_ (fun _ => ?_)
 · refine qr (oN 4 [(10, vb (decide (x1 ≤ x0)))] [0, 2] ?_)
   refine oS 10 hE22 (fun h25 => ?_) (fun h26 => ?_)
   · refine oN 5 [(6, vb (decide (x0 ≤ x2)))] [] ?_
     refine oe ?_
     obtain rfl := sI h25
     exact mt () [6] [] 0
   refine oN 5 [(6, vb false)] [] ?_
   refine oe ?_
   obtain rfl := sI h26
   exact mt () [6] [] 0
 refine nt (qe ?_)
 obtain rfl := sI h23
 exact re [.bool p21]

theorem c_impl_isSpan {W : World} {x0 : Int} {x1 : Int} {r : Bool} (h : impl_isSpan x0 x1 = some r)  :
    Gives0 Tryz.prog 223 #[.int .i64 x0, .int .i64 x1] W (.bool r) := by
 unfold impl_isSpan at h
 refine en Tryz.func223 Tryz.ntmps223 ?_
 refine qs (qr (oN 1 [] [0, 1] ?_))
 refine oe (nt (qs ?_))
 obtain ⟨p21, hE22, h23⟩ := bS h
 refine JC_cut (τ := Unit) (fun _ => [(4, vb p21)]) (fun _ => []) (fun _ => []) ?_ (fun _ => ?_)
 · refine qr (oN 3 [(7, vb (decide (0 ≤ x0)))] [0, 1] ?_)
   refine oS 7 hE22 (fun h25 => ?_) (fun h26 => ?_)
   · refine oN 5 [(12, vb (decide (x0 < x1)))] [1] ?_
     refine oS 12 h25 (fun h28 => ?_) (fun h29 => ?_)
     · refine oN 4 [(4, vb (decide (x1 ≤ 3600)))] [] ?_
       refine oe ?_
       obtain rfl := sI h28
       exact mt () [4] [] 0
     refine oN 4 [(4, vb false)] [] ?_
     refine oe ?_
     obtain rfl := sI h29
     exact mt () [4] [] 0
   refine oN 9 [(4, vb false)] [] ?_
   refine oe ?_
   obtain rfl := sI h26
   exact mt () [4] [] 0
 refine nt (qe ?_)
 obtain rfl := sI h23
 exact re [.bool p21]

theorem c_impl_gcd {W : World} {x0 : Int} {x1 : Int} {r : Int} (h : impl_gcd x0 x1 = some r)  :
    Gives0 Tryz.prog 212 #[.int .i64 x0, .int .i64 x1] W (.int .i64 r) := by
 unfold impl_gcd at h
 refine en Tryz.func212 Tryz.ntmps212 ?_
 refine qs (qr (oN 1 [] [0, 1] ?_))
 refine oe (nt (qs ?_))
 obtain ⟨r24, hL25, h26⟩ := bS h
 obtain ⟨k27, hk28, h26⟩ := brkS h26
 refine JC_cutP (τ := (Int) × (Unit)) (fun y => k27 y.1 = some r) (fun y32 => [(0, vi y32.1)]) (fun y32 => []) (fun y32 => []) ?_ (fun y32 h33p => ?_)
 · refine qb (lp Unit hL25 (fun s21 y22 => [(0, vi s21.1), (1, vi s21.2)]) (fun s21 y22 => []) (fun s21 y22 => []) () [0, 1] [] 0 (fun s21 y22 t23 h29 hd30 => ?_))
   refine qs (qs (qr (oN 2 [(6, vb (s21.2 != 0))] [0, 1] ?_)))
   refine oe (nt (cC h29 (fun h35 => ?_) (fun h36 => ?_)))
   · refine qk (nt (qb (JC_quiet (by kernel_rfl) (by kernel_rfl) ?_)))
     refine qN 3 [(9, vi s21.2), (8, vi s21.1), (7, vi s21.2)] [] ?_
     obtain ⟨u39, hz38, h37⟩ := bS h35
     refine JQ_div rfl (by kernel_rfl) (op := .rem) (k := .i64) (x := s21.1) (y := s21.2) (by kernel_rfl) (nz_some hz38) rfl ?_
     refine qN 2 [(1, vi (Int.tmod s21.1 s21.2)), (0, vi s21.2)] [] ?_
     exact qz (bn (ct h37 () [0, 1] [] 0))
   refine qx (nx (nx (bh ?_)))
   have h40 := leafB hd30 h36 h26
   exact mp (s21.1, ()) h40 [0] [] 0
 have h33 := (congrFun hk28 _).symm.trans h33p
 refine nt (qs (qr (oN 5 [(4, vi (imax y32.1 (w64 (0 - y32.1))))] [] ?_)))
 refine oe (nt (qe ?_))
 obtain rfl := sI h33
 exact re [.int .i64 (imax y32.1 (w64 (0 - y32.1)))]

theorem c_impl_FracOk {W : World} {x0 : Frac} {r : Bool} (h : impl_FracOk x0 = some r)  :
    Gives0 Tryz.prog 165 #[vFrac x0] W (.bool r) := by
 unfold impl_FracOk at h
 refine en Tryz.func165 Tryz.ntmps165 ?_
 refine qs (qr (oB 2 [(1, .p 0 0)] [] [(118, (eFrac x0))] ?_))
 refine oe (nt (qs ?_))
 obtain ⟨p21, hE22, h23⟩ := bS h
 refine JC_cut (τ := Unit) (fun _ => [(2, vb p21)]) (fun _ => [(118, (eFrac x0))]) (fun _ => []) ?_ (fun _ => ?_)
 · refine qr (oN 2 [(4, vi x0.Den)] [1] ?_)
   obtain ⟨t24, h25, h26⟩ := bS hE22
   refine k0 (fun γ w hs => c_impl_within h25) ?_
   refine oN 1 [(6, vb t24)] [1] ?_
   refine oS 6 h26 (fun h29 => ?_) (fun h30 => ?_)
   · refine oN 2 [(8, vi x0.Num)] [6, 1] ?_
     obtain ⟨t31, h32, h33⟩ := bS h29
     refine k0 (fun γ w hs => c_impl_within h32) ?_
     refine oN 2 [(11, vb t31)] [1] ?_
     refine oS 11 h33 (fun h36 => ?_) (fun h37 => ?_)
     · refine oN 4 [(15, vi x0.Den), (13, vi x0.Num)] [11] ?_
       obtain ⟨t38, h39, h40⟩ := bS h36
       refine k0 (fun γ w hs => c_impl_gcd h39) ?_
       refine oN 3 [(2, vb (t38 == 1))] [] ?_
       refine oe ?_
       obtain rfl := sI h40
       exact mt () [2] [] 1
     refine oN 8 [(2, vb false)] [] ?_
     refine oe ?_
     obtain rfl := sI h37
     exact mt () [2] [] 1
   refine oN 13 [(2, vb false)] [] ?_
   refine oe ?_
   obtain rfl := sI h30
   exact mt () [2] [] 1
 refine nt (qe ?_)
 obtain rfl := sI h23
 exact re [.bool p21]

theorem c_impl_NodeOk {W : World} {x0 : Node} {x1 : Int} {r : Bool} (h : impl_NodeOk x0 x1 = some r)  :
    Gives0 Tryz.prog 237 #[vNode x0, .int .i64 x1] W (.bool r) := by
 unfold impl_NodeOk at h
 refine en Tryz.func237 Tryz.ntmps237 ?_
 refine qs (qr (oB 2 [(2, .p 0 0)] [1] [(120, (eNode x0))] ?_))
 refine oe (nt (qs (qr (oB 5 [(5, .p 1 0)] [2, 1] [(120, (eNode x0)), (120, (eNode (Node.mk x0.Kind 0 0 0 (Frac.mk 0 0))))] ?_))))
 refine oe (nt (qs (qb (qs (qr (oN 4 [(9, vb (x0.Kind == 1))] [5, 2, 1] ?_))))))
 refine oe (nt (cC h (fun h52 => ?_) (fun h53 => ?_)))
 · refine qs (qr (oB 4 [] [5, 2] [(120, (eNode x0)), (120, (eNode (Node.mk x0.Kind 0 0 0 x0.Value)))] ?_))
   refine oe (nt (qs ?_))
   obtain ⟨p54, hE55, h56⟩ := bS h52
   refine JC_cut (τ := Unit) (fun _ => [(4, vb p54)]) (fun _ => [(120, (eNode x0)), (120, (eNode (Node.mk x0.Kind 0 0 0 x0.Value)))]) (fun _ => []) ?_ (fun _ => ?_)
   · refine qr (oN 4 [(19, vb ((x0.Kind == x0.Kind) && ((x0.A == 0) && ((x0.B == 0) && ((x0.C == 0) && (((x0.Value.Num == x0.Value.Num) && ((x0.Value.Den == x0.Value.Den) && true)) && true))))))] [2] ?_)
     refine oS 19 hE55 (fun h58 => ?_) (fun h59 => ?_)
     · refine oN 2 [(21, .v (vFrac x0.Value))] [19] ?_
       obtain ⟨t60, h61, h62⟩ := bS h58
       refine k0 (fun γ w hs => c_impl_FracOk h61) ?_
       refine oN 2 [(4, vb t60)] [] ?_
       refine oe ?_
       obtain rfl := sI h62
       exact mt () [4] [] 2
     refine oN 5 [(4, vb false)] [] ?_
     refine oe ?_
     obtain rfl := sI h59
     exact mt () [4] [] 2
   refine nt (qe (br (nr ?_)))
   obtain rfl := sI h56
   exact re [.bool p54]
 refine qs (qr (oN 4 [(24, vb (x0.Kind == 2))] [5, 2, 1] ?_))
 refine oe (nt (cC h53 (fun h82 => ?_) (fun h83 => ?_)))
 · refine qs (qr (oB 4 [] [5, 2] [(120, (eNode x0)), (120, (eNode (Node.mk x0.Kind x0.A 0 0 (Frac.mk 0 0))))] ?_))
   refine oe (nt (qs ?_))
   obtain ⟨p84, hE85, h86⟩ := bS h82
   refine JC_cut (τ := Unit) (fun _ => [(4, vb p84)]) (fun _ => [(120, (eNode x0)), (120, (eNode (Node.mk x0.Kind x0.A 0 0 (Frac.mk 0 0))))]) (fun _ => []) ?_ (fun _ => ?_)
   · refine qr (oN 4 [(34, vb ((x0.Kind == x0.Kind) && ((x0.A == x0.A) && ((x0.B == 0) && ((x0.C == 0) && (((x0.Value.Num == 0) && ((x0.Value.Den == 0) && true)) && true))))))] [2] ?_)
     refine oS 34 hE85 (fun h88 => ?_) (fun h89 => ?_)
     · refine oN 2 [(36, vi x0.A)] [34] ?_
       obtain ⟨t90, h91, h92⟩ := bS h88
       refine k0 (fun γ w hs => c_impl_within h91) ?_
       refine oN 2 [(4, vb t90)] [] ?_
       refine oe ?_
       obtain rfl := sI h92
       exact mt () [4] [] 2
     refine oN 5 [(4, vb false)] [] ?_
     refine oe ?_
     obtain rfl := sI h89
     exact mt () [4] [] 2
   refine nt (qe (br (nr ?_)))
   obtain rfl := sI h86
   exact re [.bool p84]
 refine qs (qr (oN 2 [(41, vi x0.Kind)] [5, 2, 1] ?_))
 obtain ⟨t94, h95, h96⟩ := bS h83
 refine k0 (fun γ w hs => c_impl_within h95) ?_
 refine oN 2 [(39, vb (!t94))] [5, 2, 1] ?_
 refine oe (nt (cC h96 (fun h99 => ?_) (fun h100 => ?_)))
 · refine qs (qr (oN 1 [(4, vb false)] [] ?_))
   refine oe (nt (qe (br (nr ?_))))
   obtain rfl := sI h99
   exact re [.bool false]
 refine qk (bn (nt (qs (JC_cut (τ := Unit) (fun _ => [(5, .p 1 0), (2, .p 0 0), (1, vi x1)]) (fun _ => [(120, (eNode x0)), (120, (eNode (Node.mk x0.Kind x0.A x0.B 0 (Frac.mk 0 0))))]) (fun _ => []) ?_ (fun _ => ?_)))))
 · refine jw [5, 2, 1] [] ?_
   refine JC_heldN (ks := [0]) (Rk := []) 8 (by kernel_rfl) (by kernel_rfl) ?_
   refine htq 0 (.p 0 1) [] ?_
   refine htq 1 (vi x0.A) [] ?_
   refine hk [45, 5, 2, 1] ?_
   refine htq 2 (.p 0 2) [] ?_
   refine htq 3 (vi x0.B) [] ?_
   refine hk [47, 45, 5, 2, 1] ?_
   refine htq 4 (.p 1 1) [] ?_
   refine ha1 5 ?_
   refine hi (fun γ0 δ hm => ?_)
   refine gs [(48, .p 1 1), (47, vi x0.B), (45, vi x0.A), (5, .p 1 0), (2, .p 0 0), (1, vi x1)] [(120, (eNode x0)), (120, (eNode (Node.mk x0.Kind x0.A 0 0 (Frac.mk 0 0))))] (fun δ2 => ?_)
   refine gd hm [47, 5, 2, 1] [] ?_
   refine htq 6 (.p 1 2) [] ?_
   refine ha1 7 ?_
   refine hi (fun γ0 δ hm => ?_)
   refine gs [(49, .p 1 2), (47, vi x0.B), (5, .p 1 0), (2, .p 0 0), (1, vi x1)] [(120, (eNode x0)), (120, (eNode (Node.mk x0.Kind x0.A x0.B 0 (Frac.mk 0 0))))] (fun δ2 => ?_)
   refine gd hm [5, 2, 1] [] ?_
   exact hd () [5, 2, 1] [] 2
 refine nt (qs (qs (qr (oN 3 [(52, vb (x0.Kind == 9))] [5, 2, 1] ?_))))
 refine oe (nt ?_)
 obtain ⟨k105, hk106, h135⟩ := jS h100
 refine JC_cutP (τ := (Int) × (Unit)) (fun y => k105 y.1 = some r) (fun y104 => [(5, .p 1 0), (2, .p 0 0), (1, vi x1)]) (fun y104 => [(120, (eNode x0)), (120, (eNode (Node.mk x0.Kind x0.A x0.B y104.1 (Frac.mk 0 0))))]) (fun y104 => []) ?_ (fun y104 h107p => ?_)
 · refine cC h135 (fun h137 => ?_) (fun h138 => ?_)
   · refine qr (oB 4 [] [5, 2, 1] [(120, (eNode x0)), (120, (eNode (Node.mk x0.Kind x0.A x0.B x0.C (Frac.mk 0 0))))] ?_)
     exact oe (mp (x0.C, ()) h137 [5, 2, 1] [] 2)
   exact qk (mp (0, ()) h138 [5, 2, 1] [] 2)
 have h107 := (congrFun hk106 _).symm.trans h107p
 refine nt (qs ?_)
 obtain ⟨p108, hE109, h110⟩ := bS h107
 refine JC_cut (τ := Unit) (fun _ => [(4, vb p108)]) (fun _ => [(120, (eNode x0)), (120, (eNode (Node.mk x0.Kind x0.A x0.B y104.1 (Frac.mk 0 0))))]) (fun _ => []) ?_ (fun _ => ?_)
 · refine qr (oN 4 [(59, vb ((x0.Kind == x0.Kind) && ((x0.A == x0.A) && ((x0.B == x0.B) && ((x0.C == y104.1) && (((x0.Value.Num == 0) && ((x0.Value.Den == 0) && true)) && true))))))] [2, 1] ?_)
   refine oS 59 hE109 (fun h112 => ?_) (fun h113 => ?_)
   · refine oN 4 [(63, vb (decide (x1 > 0)))] [2, 1] ?_
     refine oS 63 h112 (fun h115 => ?_) (fun h116 => ?_)
     · refine oN 4 [(67, vi (w64 (x1 - 1))), (65, vi x0.A)] [63, 2, 1] ?_
       obtain ⟨t117, h118, h119⟩ := bS h115
       refine k0 (fun γ w hs => c_impl_within h118) ?_
       refine oN 2 [(70, vb t117)] [2, 1] ?_
       refine oS 70 h119 (fun h122 => ?_) (fun h123 => ?_)
       · refine oN 4 [(74, vi (w64 (x1 - 1))), (72, vi x0.B)] [70, 2, 1] ?_
         obtain ⟨t124, h125, h126⟩ := bS h122
         refine k0 (fun γ w hs => c_impl_within h125) ?_
         refine oN 2 [(77, vb t124)] [2, 1] ?_
         refine oS 77 h126 (fun h129 => ?_) (fun h130 => ?_)
         · refine oN 4 [(81, vi (w64 (x1 - 1))), (79, vi x0.C)] [77] ?_
           obtain ⟨t131, h132, h133⟩ := bS h129
           refine k0 (fun γ w hs => c_impl_within h132) ?_
           refine oN 2 [(4, vb t131)] [] ?_
           refine oe ?_
           obtain rfl := sI h133
           exact mt () [4] [] 2
         refine oN 7 [(4, vb false)] [] ?_
         refine oe ?_
         obtain rfl := sI h130
         exact mt () [4] [] 2
       refine oN 14 [(4, vb false)] [] ?_
       refine oe ?_
       obtain rfl := sI h123
       exact mt () [4] [] 2
     refine oN 21 [(4, vb false)] [] ?_
     refine oe ?_
     obtain rfl := sI h116
     exact mt () [4] [] 2
   refine oN 25 [(4, vb false)] [] ?_
   refine oe ?_
   obtain rfl := sI h113
   exact mt () [4] [] 2
 refine nt (qe ?_)
 obtain rfl := sI h110
 exact re [.bool p108]

theorem c_impl_FormulaOk {W : World} {x0 : List Node} {a0_0 : Option Addr} {c0_0 : Nat} {r : Bool} (h : impl_FormulaOk x0 = some r) (hv0_0 : SlView W x0 a0_0 c0_0) :
    Gives0 Tryz.prog 224 #[.slice a0_0 x0.length c0_0] W (.bool r) := by
 unfold impl_FormulaOk at h
 refine en Tryz.func224 Tryz.ntmps224 ?_
 refine qs (qr (oN 1 [] [0] ?_))
 refine oe (nt (qs (qs (qr (oN 3 [(7, vi 0), (6, vi (x0.length : Int)), (5, .v (.slice a0_0 x0.length c0_0))] [0] ?_)))))
 refine oe (nt ?_)
 obtain ⟨r24, hL25, h26⟩ := bS h
 obtain ⟨k27, hk28, h26⟩ := brkS h26
 refine JC_cutP (τ := (Unit) × (Unit)) (fun y => k27 y.1 = some r) (fun y32 => [(0, .v (.slice a0_0 x0.length c0_0))]) (fun y32 => []) (fun y32 => []) ?_ (fun y32 h33p => ?_)
 · refine qb (lp Unit hL25 (fun s21 y22 => [(7, vi s21), (6, vi (x0.length : Int)), (5, .v (.slice a0_0 x0.length c0_0)), (0, .v (.slice a0_0 x0.length c0_0))]) (fun s21 y22 => []) (fun s21 y22 => []) () [7, 6, 5, 0] [] 0 (fun s21 y22 t23 h29 hd30 => ?_))
   refine qs (qr (oN 1 [(8, vb (decide (s21 < (x0.length : Int))))] [7, 6, 5, 0] ?_))
   refine oe (nt (qs (cC h29 (fun h39 => ?_) (fun h40 => ?_))))
   · refine qk (nt (qs (qb (qs (qr (oN 1 [(9, vi s21)] [7, 6, 5, 0] ?_))))))
     obtain ⟨x41, hx42, h43⟩ := bS h39
     refine oi 6 (fun γ w hs => (hv0_0.kept hs.kept)) hx42 ?_
     refine ol 120 0 (vNode x41) (fun γ w hs => (hv0_0.kept hs.kept).flatq hx42) ?_
     refine oB 3 [(3, vi s21), (4, .p 0 0)] [7, 6, 5, 0] [(120, (eNode x41))] ?_
     refine oe (nt (qs (qr (oN 2 [(13, vi s21), (12, .v (vNode x41))] [7, 6, 5, 0] ?_))))
     obtain ⟨t44, h45, h46⟩ := bS h43
     refine k0 (fun γ w hs => c_impl_NodeOk h45) ?_
     refine oN 1 [(15, vb (!t44))] [7, 6, 5, 0] ?_
     refine oe (nt (cC h46 (fun h49 => ?_) (fun h50 => ?_)))
     · refine qs (qr (oN 1 [(2, vb false)] [] ?_))
       refine oe (nt (qe (br (nr (nr ?_)))))
       have h51 := leafR hd30 h49 h26
       refine br (nr (nr ?_))
       obtain rfl := sI h51
       exact re [.bool false]
     refine qk (bn (nt (qr (oN 2 [(7, vi (w64 (s21 + 1)))] [6, 5, 0] ?_))))
     exact oe (ct h50 () [7, 6, 5, 0] [] 0)
   refine qx (nx (nx (bh ?_)))
   have h52 := leafB hd30 h40 h26
   exact mp ((), ()) h52 [0] [] 0
 have h33 := (congrFun hk28 _).symm.trans h33p
 refine nt (qs (qr (oN 2 [(18, vi (x0.length : Int))] [] ?_)))
 obtain ⟨t34, h35, h36⟩ := bS h33
 refine k0 (fun γ w hs => c_impl_within h35) ?_
 refine oN 1 [(2, vb t34)] [] ?_
 refine oe (nt (qe ?_))
 obtain rfl := sI h36
 exact re [.bool t34]

theorem c_impl_RuleOk {W : World} {x0 : Rule} {a0_0 : Option Addr} {c0_0 : Nat} {r : Bool} (h : impl_RuleOk x0 = some r) (hv0_0 : SlView W x0.Nodes a0_0 c0_0) :
    Gives0 Tryz.prog 192 #[vRule x0 (a0_0, c0_0)] W (.bool r) := by
 unfold impl_RuleOk at h
 refine en Tryz.func192 Tryz.ntmps192 ?_
 refine qs (qr (oB 2 [(1, .p 0 0)] [] [(69, (eRule x0 (a0_0, c0_0)))] ?_))
 refine oe (nt (qs ?_))
 obtain ⟨p21, hE22, h23⟩ := bS h
 refine JC_cut (τ := Unit) (fun _ => [(2, vb p21)]) (fun _ => [(69, (eRule x0 (a0_0, c0_0)))]) (fun _ => []) ?_ (fun _ => ?_)
 · refine qr (oN 2 [(4, vi x0.Name)] [1] ?_)
   obtain ⟨t24, h25, h26⟩ := bS hE22
   refine k0 (fun γ w hs => c_impl_within h25) ?_
   refine oN 1 [(6, vb t24)] [1] ?_
   refine oS 6 h26 (fun h29 => ?_) (fun h30 => ?_)
   · refine oN 4 [(10, vi x0.To), (8, vi x0.From)] [6, 1] ?_
     obtain ⟨t31, h32, h33⟩ := bS h29
     refine k0 (fun γ w hs => c_impl_isSpan h32) ?_
     refine oN 2 [(13, vb t31)] [1] ?_
     refine oS 13 h33 (fun h36 => ?_) (fun h37 => ?_)
     · refine oN 2 [(15, vi x0.Joined)] [13, 1] ?_
       obtain ⟨t38, h39, h40⟩ := bS h36
       refine k0 (fun γ w hs => c_impl_within h39) ?_
       refine oN 2 [(18, vb t38)] [1] ?_
       refine oS 18 h40 (fun h43 => ?_) (fun h44 => ?_)
       · refine oN 2 [(20, vi x0.Rank)] [18, 1] ?_
         obtain ⟨t45, h46, h47⟩ := bS h43
         refine k0 (fun γ w hs => c_impl_within h46) ?_
         refine oN 2 [(23, vb t45)] [1] ?_
         refine oS 23 h47 (fun h50 => ?_) (fun h51 => ?_)
         · refine oN 2 [(25, vi x0.Mode)] [23, 1] ?_
           obtain ⟨t52, h53, h54⟩ := bS h50
           refine k0 (fun γ w hs => c_impl_within h53) ?_
           refine oN 2 [(28, vb t52)] [1] ?_
           refine oS 28 h54 (fun h57 => ?_) (fun h58 => ?_)
           · refine oN 2 [(30, .v (.slice a0_0 x0.Nodes.length c0_0))] [28] ?_
             obtain ⟨t59, h60, h61⟩ := bS h57
             refine k0 (fun γ w hs => c_impl_FormulaOk h60 (hv0_0.kept hs.kept)) ?_
             refine oN 2 [(2, vb t59)] [] ?_
             refine oe ?_
             obtain rfl := sI h61
             exact mt () [2] [] 1
           refine oN 5 [(2, vb false)] [] ?_
           refine oe ?_
           obtain rfl := sI h58
           exact mt () [2] [] 1
         refine oN 10 [(2, vb false)] [] ?_
         refine oe ?_
         obtain rfl := sI h51
         exact mt () [2] [] 1
       refine oN 15 [(2, vb false)] [] ?_
       refine oe ?_
       obtain rfl := sI h44
       exact mt () [2] [] 1
     refine oN 20 [(2, vb false)] [] ?_
     refine oe ?_
     obtain rfl := sI h37
     exact mt () [2] [] 1
   refine oN 27 [(2, vb false)] [] ?_
   refine oe ?_
   obtain rfl := sI h30
   exact mt () [2] [] 1
 refine nt (qe ?_)
 obtain rfl := sI h23
 exact re [.bool p21]

theorem c_impl_BookOk {W : World} {x0 : Book} {a0_0 : Option Addr} {c0_0 : Nat} {r : Bool} (h : impl_BookOk x0 = some r) (hv0_0 : SlView W x0.Rules a0_0 c0_0) :
    Gives0 Tryz.prog 142 #[vBook x0 (a0_0, c0_0)] W (.bool r) := by
 unfold impl_BookOk at h
 refine en Tryz.func142 Tryz.ntmps142 ?_
 refine qs (qr (oB 2 [(1, .p 0 0)] [] [(42, (eBook x0 (a0_0, c0_0)))] ?_))
 refine oe (nt (qs (qs (qr (oN 4 [(10, vi 0), (9, vi (x0.Rules.length : Int)), (8, .v (.slice a0_0 x0.Rules.length c0_0))] [1] ?_)))))
 refine oe (nt ?_)
 obtain ⟨r24, hL25, h26⟩ := bS h
 obtain ⟨k27, hk28, h26⟩ := brkS h26
 refine JC_cutP (τ := (Unit) × (Unit)) (fun y => k27 y.1 = some r) (fun y32 => [(1, .p 0 0)]) (fun y32 => [(42, (eBook x0 (a0_0, c0_0)))]) (fun y32 => []) ?_ (fun y32 h33p => ?_)
 · refine qb (lp Unit hL25 (fun s21 y22 => [(10, vi s21.1), (9, vi s21.2), (8, .v (.slice a0_0 x0.Rules.length c0_0)), (1, .p 0 0)]) (fun s21 y22 => [(42, (eBook x0 (a0_0, c0_0)))]) (fun s21 y22 => []) () [10, 9, 8, 1] [] 1 (fun s21 y22 t23 h29 hd30 => ?_))
   refine qs (qr (oN 1 [(11, vb (decide (s21.1 < s21.2)))] [10, 9, 8, 1] ?_))
   refine oe (nt (qs (cC h29 (fun h35 => ?_) (fun h36 => ?_))))
   · refine qk (nt (qs (qb (qs (qr (oN 1 [(12, vi s21.1)] [10, 9, 8, 1] ?_))))))
     obtain ⟨x37, hx38, h39⟩ := bS h35
     refine oi 7 (fun γ w hs => (hv0_0.kept hs.kept)) hx38 ?_
     obtain ⟨_, ⟨a40, c41, rfl, hv42⟩, hc43⟩ := SlView.at hv0_0 (idx_some hx38).2.2
     refine ol 69 0 (vRule x37 (a40, c41)) (fun γ w hs => ⟨(hv0_0.kept hs.kept).ne (idx_some hx38).2.2, hc43.kept hs.kept⟩) ?_
     refine oB 3 [(3, vi s21.1), (4, .p 1 0)] [10, 9, 8, 1] [(42, (eBook x0 (a0_0, c0_0))), (69, (eRule x37 (a40, c41)))] ?_
     refine oe (nt (qs (qs (qr (oN 1 [(15, .v (vRule x37 (a40, c41)))] [3, 4, 10, 9, 8, 1] ?_)))))
     obtain ⟨t44, h45, h46⟩ := bS h39
     refine k0 (fun γ w hs => c_impl_RuleOk h45 (hv42.kept hs.kept)) ?_
     refine oN 1 [(17, vb (!t44))] [3, 4, 10, 9, 8, 1] ?_
     refine oe (nt (cC h46 (fun h49 => ?_) (fun h50 => ?_)))
     · refine qs (qr (oN 1 [(2, vb false)] [] ?_))
       refine oe (nt (qe (nr (br (nr (nr ?_))))))
       have h51 := leafR hd30 h49 h26
       refine br (nr (nr ?_))
       obtain rfl := sI h51
       exact re [.bool false]
     refine qk (nt (qs (qr (oN 3 [(20, vi s21.1), (19, .v (.slice a0_0 x0.Rules.length c0_0))] [4, 10, 9, 8, 1] ?_))))
     obtain ⟨l52, hm53, h54⟩ := bS h50
     have hv55 := SlView.head hv0_0 hm53
     refine JO_head (α := Rule) rfl (by kernel_rfl) (a0 := a0_0) (n0 := x0.Rules.length) (c0 := c0_0) (hi := s21.1) (by kernel_rfl) hm53 (hv0_0).fit rfl ?_
     refine oN 2 [(23, vi 0), (22, vi (l52.length : Int))] [21, 4, 10, 9, 8, 1] ?_
     refine oe (nt ?_)
     obtain ⟨r59, hL60, h61⟩ := bS h54
     obtain ⟨k62, hk63, h61⟩ := brkS h61
     refine JC_cutP (τ := (Int × Int × Int × Int × Int × Int × Int × Int) × (Unit)) (fun y => k62 y.1 = some t23) (fun y67 => [(10, vi y67.1.1), (9, vi y67.1.2.1), (8, .v (.slice a0_0 x0.Rules.length c0_0)), (1, .p 0 0)]) (fun y67 => [(42, (eBook x0 (a0_0, c0_0))), (69, (eRule (Rule.mk y67.1.2.2.1 y67.1.2.2.2.1 y67.1.2.2.2.2.1 y67.1.2.2.2.2.2.1 y67.1.2.2.2.2.2.2.1 y67.1.2.2.2.2.2.2.2 x37.Nodes) (a40, c41)))]) (fun y67 => []) ?_ (fun y67 h68p => ?_)
     · refine qb (lp Unit hL60 (fun s56 y57 => [(23, vi s56), (22, vi (l52.length : Int)), (21, .v (.slice a0_0 l52.length c0_0)), (4, .p 1 0), (10, vi s21.1), (9, vi s21.2), (8, .v (.slice a0_0 x0.Rules.length c0_0)), (1, .p 0 0)]) (fun s56 y57 => [(42, (eBook x0 (a0_0, c0_0))), (69, (eRule x37 (a40, c41)))]) (fun s56 y57 => []) () [23, 22, 21, 4, 10, 9, 8, 1] [] 2 (fun s56 y57 t58 h64 hd65 => ?_))
       refine qs (qr (oN 1 [(24, vb (decide (s56 < (l52.length : Int))))] [23, 22, 21, 4, 10, 9, 8, 1] ?_))
       refine oe (nt (qs (cC h64 (fun h70 => ?_) (fun h71 => ?_))))
       · refine qk (nt (qs (qb (qs (qr ?_)))))
         obtain ⟨x72, hx73, h74⟩ := bS h70
         refine oi 7 (fun γ w hs => (hv55.kept hs.kept)) hx73 ?_
         obtain ⟨_, ⟨a75, c76, rfl, hv77⟩, hc78⟩ := SlView.at hv55 (idx_some hx73).2.2
         refine ol 69 0 (vRule x72 (a75, c76)) (fun γ w hs => ⟨(hv55.kept hs.kept).ne (idx_some hx73).2.2, hc78.kept hs.kept⟩) ?_
         refine oB 2 [(6, .p 2 0)] [23, 22, 21, 4, 10, 9, 8, 1] [(42, (eBook x0 (a0_0, c0_0))), (69, (eRule x37 (a40, c41))), (69, (eRule x72 (a75, c76)))] ?_
         refine oe (nt (qs ?_))
         obtain ⟨p79, hE80, h81⟩ := bS h74
         refine JC_cut (τ := Unit) (fun _ => [(1, .p 0 0), (4, .p 1 0), (8, .v (.slice a0_0 x0.Rules.length c0_0)), (9, vi s21.2), (10, vi s21.1), (21, .v (.slice a0_0 l52.length c0_0)), (22, vi (l52.length : Int)), (23, vi s56), (52, vb p79)]) (fun _ => [(42, (eBook x0 (a0_0, c0_0))), (69, (eRule x37 (a40, c41))), (69, (eRule x72 (a75, c76)))]) (fun _ => []) ?_ (fun _ => ?_)
         · refine qr (oN 6 [(32, vb (x72.Name == x37.Name))] [6, 23, 22, 21, 4, 10, 9, 8, 1] ?_)
           refine oS 32 hE80 (fun h83 => ?_) (fun h84 => ?_)
           · refine oN 7 [(39, vb (x72.Rank == x37.Rank))] [6, 23, 22, 21, 4, 10, 9, 8, 1] ?_
             refine oS 39 h83 (fun h86 => ?_) (fun h87 => ?_)
             · refine oN 7 [(46, vb (decide (x72.From < x37.To)))] [6, 23, 22, 21, 4, 10, 9, 8, 1] ?_
               refine oS 46 h86 (fun h89 => ?_) (fun h90 => ?_)
               · refine oN 6 [(52, vb (decide (x37.From < x72.To)))] [23, 22, 21, 4, 10, 9, 8, 1] ?_
                 refine oe ?_
                 obtain rfl := sI h89
                 exact mt () [1, 4, 8, 9, 10, 21, 22, 23, 52] [] 3
               refine oN 6 [(52, vb false)] [23, 22, 21, 4, 10, 9, 8, 1] ?_
               refine oe ?_
               obtain rfl := sI h90
               exact mt () [1, 4, 8, 9, 10, 21, 22, 23, 52] [] 3
             refine oN 13 [(52, vb false)] [23, 22, 21, 4, 10, 9, 8, 1] ?_
             refine oe ?_
             obtain rfl := sI h87
             exact mt () [1, 4, 8, 9, 10, 21, 22, 23, 52] [] 3
           refine oN 20 [(52, vb false)] [23, 22, 21, 4, 10, 9, 8, 1] ?_
           refine oe ?_
           obtain rfl := sI h84
           exact mt () [1, 4, 8, 9, 10, 21, 22, 23, 52] [] 3
         refine nt (cC h81 (fun h92 => ?_) (fun h93 => ?_))
         · refine qs (qr (oN 1 [(2, vb false)] [] ?_))
           refine oe (nt (qe (br (nr (nr ?_)))))
           have h94 := leafR hd65 h92 h61
           refine br (nr (br (nr (nr ?_))))
           have h95 := leafR hd30 h94 h26
           refine br (nr (nr ?_))
           obtain rfl := sI h95
           exact re [.bool false]
         refine qk (bn (nt (qr (oN 2 [(23, vi (w64 (s56 + 1)))] [1, 4, 8, 9, 10, 21, 22] ?_))))
         exact oe (ct h93 () [23, 22, 21, 4, 10, 9, 8, 1] [] 2)
       refine qx (nx (nx (bh ?_)))
       have h96 := leafB hd65 h71 h61
       exact mp ((s21.1, s21.2, x37.Name, x37.From, x37.To, x37.Joined, x37.Rank, x37.Mode), ()) h96 [10, 9, 8, 1] [] 2
     have h68 := (congrFun hk63 _).symm.trans h68p
     refine bn (nt (qr (oN 2 [(10, vi (w64 (y67.1.1 + 1)))] [9, 8, 1] ?_)))
     exact oe (ct h68 () [10, 9, 8, 1] [] 1)
   refine qx (nx (nx (bh ?_)))
   have h97 := leafB hd30 h36 h26
   exact mp ((), ()) h97 [1] [] 1
 have h33 := (congrFun hk28 _).symm.trans h33p
 refine nt (qs (qr (oN 5 [(2, vb (decide ((x0.Rules.length : Int) ≤ 20)))] [] ?_)))
 refine oe (nt (qe ?_))
 obtain rfl := sI h33
 exact re [.bool (decide ((x0.Rules.length : Int) ≤ 20))]

theorem c_impl_AddRule {W : World} {x0 : Book} {a0_0 : Option Addr} {c0_0 : Nat} {x1 : Rule} {a1_0 : Option Addr} {c1_0 : Nat} {r : Book × Bool} (h : impl_AddRule x0 x1 = some r) (hv0_0 : SlView W x0.Rules a0_0 c0_0) (hv1_0 : SlView W x1.Nodes a1_0 c1_0) :
    Gives Tryz.prog 86 #[vBook x0 (a0_0, c0_0), vRule x1 (a1_0, c1_0)] W (fun y : AC => .tuple #[vBook r.1 y, .bool r.2]) (fun y => [SlRes 69 r.1.Rules y.1 y.2]) := by
 unfold impl_AddRule at h
 refine en Tryz.func86 Tryz.ntmps86 ?_
 refine qs (qr (oB 4 [(4, .p 2 0), (3, .p 1 0), (2, .p 0 0)] [] [(42, (eBook x0 (a0_0, c0_0))), (69, (eRule x1 (a1_0, c1_0))), (42, [.slice none 0 0])] ?_))
 refine oe (nt (qs (qr (oN 1 [(7, .v (vBook x0 (a0_0, c0_0)))] [4, 3, 2] ?_))))
 obtain ⟨t21, h22, h23⟩ := bS h
 refine k1 (fun γ w hs => c_impl_copyBook h22 (hv0_0.kept hs.kept)) (fun y24 => ?_)
 refine oB 2 [(6, .p 3 0)] [4, 3, 2] [(42, (eBook x0 (a0_0, c0_0))), (69, (eRule x1 (a1_0, c1_0))), (42, [.slice none 0 0]), (42, (eBook t21 y24))] ?_
 refine oe (nt (qs (qr (oN 2 [(10, .v (.slice a1_0 x1.Nodes.length c1_0))] [6, 4, 3, 2] ?_))))
 obtain ⟨t25, h26, h27⟩ := bS h23
 refine k1 (fun γ w hs => c_impl_copyNodes h26 (hv1_0.kept hs.kept)) (fun y28 => ?_)
 refine oB 2 [] [6, 4, 3, 2] [(42, (eBook x0 (a0_0, c0_0))), (69, (eRule (Rule.mk x1.Name x1.From x1.To x1.Joined x1.Rank x1.Mode t25) y28)), (42, [.slice none 0 0]), (42, (eBook t21 y24))] ?_
 refine oe (nt (qs (qr (oN 3 [(15, .v (vRule (Rule.mk x1.Name x1.From x1.To x1.Joined x1.Rank x1.Mode t25) y28)), (14, .v (.slice y24.1 t21.Rules.length y24.2))] [6, 4, 2] ?_))))
 refine ob [SlRes 120 t25 y28.1 y28.2] [SlRes 69 t21.Rules y24.1 y24.2] 69 1 [.int .i64 x1.Name, .int .i64 x1.From, .int .i64 x1.To, .int .i64 x1.Joined, .int .i64 x1.Rank, .int .i64 x1.Mode, .slice y28.1 t25.length y28.2] ([Rule.mk x1.Name x1.From x1.To x1.Joined x1.Rank x1.Mode t25] : List Rule) (own_single (by rintro w Fs ⟨G0, _, rfl, h0, rfl⟩; exact ⟨120, y28.1, y28.2, G0, by simp, rfl, h0⟩)) (fun y29 => ?_)
 refine or_ [1, 0] ?_
 obtain ⟨l32, hm33, h34⟩ := bS h27
 refine JO_appendR (α := Rule) rfl (by kernel_rfl) (t := 40) (e := 69) (a1 := y24.1) (a2 := y29.1) (c1 := y24.2) (c2 := y29.2) (l1 := t21.Rules) (l2 := ([Rule.mk x1.Name x1.From x1.To x1.Joined x1.Rank x1.Mode t25] : List Rule)) (by kernel_rfl) (i := Tryz.t69) (by kernel_rfl) (z := (vRule (Rule.mk 0 0 0 0 0 0 ([] : List Node)) (none, 0))) (by kernel_rfl) (by kernel_rfl) (by kernel_rfl) (by kernel_rfl) (Rr := []) rfl hm33 _ (fun _ => rfl) (fun y31 => ?_)
 refine oB 2 [] [6, 4, 2] [(42, (eBook x0 (a0_0, c0_0))), (69, (eRule (Rule.mk x1.Name x1.From x1.To x1.Joined x1.Rank x1.Mode t25) y28)), (42, [.slice none 0 0]), (42, (eBook (Book.mk l32) y31))] ?_
 refine oe (nt (qs (qs ?_)))
 obtain ⟨p35, hE36, h37⟩ := bS h34
 refine JC_cut (τ := Unit) (fun _ => [(2, .p 0 0), (4, .p 2 0), (6, .p 3 0), (26, vb p35)]) (fun _ => [(42, (eBook x0 (a0_0, c0_0))), (69, (eRule (Rule.mk x1.Name x1.From x1.To x1.Joined x1.Rank x1.Mode t25) y28)), (42, [.slice none 0 0]), (42, (eBook (Book.mk l32) y31))]) (fun _ => [SlRes 69 l32 y31.1 y31.2]) ?_ (fun _ => ?_)
 · refine qr (oN 1 [(19, .v (vBook x0 (a0_0, c0_0)))] [6, 4, 2] ?_)
   obtain ⟨t38, h39, h40⟩ := bS hE36
   refine k0 (fun γ w hs => c_impl_BookOk h39 (hv0_0.kept hs.kept)) ?_
   refine oN 2 [(22, vb (!t38))] [6, 4, 2] ?_
   refine oS 22 h40 (fun h43 => ?_) (fun h44 => ?_)
   · refine oN 4 [(26, vb true)] [6, 4, 2] ?_
     refine oe ?_
     obtain rfl := sI h43
     exact mt () [2, 4, 6, 26] [0] 4
   refine oN 1 [(23, .v (vBook (Book.mk l32) y31))] [22, 6, 4, 2] ?_
   obtain ⟨t45, h46, h47⟩ := bS h44
   refine k0 (fun γ w hs => c_impl_BookOk h46 (hs.view 0 rfl)) ?_
   refine oN 2 [(26, vb (!t45))] [6, 4, 2] ?_
   refine oe ?_
   obtain rfl := sI h47
   exact mt () [2, 4, 6, 26] [0] 4
 refine nt (cC h37 (fun h54 => ?_) (fun h55 => ?_))
 · refine qs (qr (oN 1 [(27, .v (vBook x0 (a0_0, c0_0)))] [4] ?_))
   obtain ⟨t56, h57, h58⟩ := bS h54
   refine k1 (fun γ w hs => c_impl_copyBook h57 (hv0_0.kept hs.kept)) (fun y59 => ?_)
   refine oB 2 [(5, vb false)] [4] [(42, (eBook x0 (a0_0, c0_0))), (69, (eRule (Rule.mk x1.Name x1.From x1.To x1.Joined x1.Rank x1.Mode t25) y28)), (42, (eBook t56 y59)), (42, (eBook (Book.mk l32) y31))] ?_
   refine oe (nt (qe (nr (rt [vBook t56 y59, .bool false] (fun γ w hs => ?_)))))
   rw [← sI h58]
   exact ⟨y59, rfl, hs.kept.toBelow, (hs.takeR (is := [0]) rfl).fresh⟩
 refine qk (nt (qs (qr (oB 3 [(5, vb true)] [4] [(42, (eBook x0 (a0_0, c0_0))), (69, (eRule (Rule.mk x1.Name x1.From x1.To x1.Joined x1.Rank x1.Mode t25) y28)), (42, (eBook (Book.mk l32) y31)), (42, (eBook (Book.mk l32) y31))] ?_))))
 refine oe (nt (qe (rt [vBook (Book.mk l32) y31, .bool true] (fun γ w hs => ?_))))
 rw [← sI h55]
 exact ⟨y31, rfl, hs.kept.toBelow, (hs.takeR (is := [0]) rfl).fresh⟩

theorem c_impl_WithRule {W : World} {x0 : Case} {b0 : AC × AC × AC × AC × AC} {x1 : Rule} {a1_0 : Option Addr} {c1_0 : Nat} {r : Case × Bool} (h : impl_WithRule x0 x1 = some r) (hv0_0 : SlView W x0.Book.Rules b0.1.1 b0.1.2) (hv0_1 : SlView W x0.Store.Facts b0.2.1.1 b0.2.1.2) (hv0_2 : SlView W x0.Series.Points b0.2.2.1.1 b0.2.2.1.2) (hv0_3 : SlView W x0.Member.Spells b0.2.2.2.1.1 b0.2.2.2.1.2) (hv0_4 : SlView W x0.Member.Events b0.2.2.2.2.1 b0.2.2.2.2.2) (hv1_0 : SlView W x1.Nodes a1_0 c1_0) :
    Gives Tryz.prog 26 #[vCase x0 b0, vRule x1 (a1_0, c1_0)] W (fun y : AC × AC × AC × AC × AC => .tuple #[vCase r.1 y, .bool r.2]) (fun y => [SlRes 69 r.1.Book.Rules y.1.1 y.1.2, SlRes 203 r.1.Store.Facts y.2.1.1 y.2.1.2, SlRes 207 r.1.Series.Points y.2.2.1.1 y.2.2.1.2, SlRes 211 r.1.Member.Spells y.2.2.2.1.1 y.2.2.2.1.2, SlRes 215 r.1.Member.Events y.2.2.2.2.1 y.2.2.2.2.2]) := by
 unfold impl_WithRule at h
 refine en Tryz.func26 Tryz.ntmps26 ?_
 refine qs (qr (oB 4 [(4, .p 2 0), (3, .p 1 0), (2, .p 0 0)] [] [(54, (eCase x0 b0)), (69, (eRule x1 (a1_0, c1_0))), (54, [.slice none 0 0, .slice none 0 0, .slice none 0 0, .int .i64 0, .int .i64 0, .slice none 0 0, .slice none 0 0])] ?_))
 refine oe (nt (qs (qr (oN 1 [(9, .v (vCase x0 b0))] [4, 3, 2] ?_))))
 obtain ⟨t21, h22, h23⟩ := bS h
 refine k1 (fun γ w hs => c_impl_copyCase (b0 := b0) h22 (hv0_0.kept hs.kept) (hv0_1.kept hs.kept) (hv0_2.kept hs.kept) (hv0_3.kept hs.kept) (hv0_4.kept hs.kept)) (fun y24 => ?_)
 refine oB 2 [(6, .p 3 0)] [4, 3, 2] [(54, (eCase x0 b0)), (69, (eRule x1 (a1_0, c1_0))), (54, [.slice none 0 0, .slice none 0 0, .slice none 0 0, .int .i64 0, .int .i64 0, .slice none 0 0, .slice none 0 0]), (54, (eCase t21 y24))] ?_
 refine oe (nt (qs (qr (oN 3 [(14, .v (vRule x1 (a1_0, c1_0))), (13, .v (vBook x0.Book b0.1))] [6, 4] ?_))))
 obtain ⟨t25, h26, h27⟩ := bS h23
 refine k1 (fun γ w hs => c_impl_AddRule h26 (hv0_0.kept hs.kept) (hv1_0.kept hs.kept)) (fun y28 => ?_)
 refine oB 6 [(8, vb t25.2), (7, .p 4 0)] [6, 4] [(54, (eCase x0 b0)), (69, (eRule x1 (a1_0, c1_0))), (54, [.slice none 0 0, .slice none 0 0, .slice none 0 0, .int .i64 0, .int .i64 0, .slice none 0 0, .slice none 0 0]), (54, (eCase t21 y24)), (42, (eBook t25.1 y28))] ?_
 refine oe (nt (qs (qr (oB 3 [] [8, 6, 4] [(54, (eCase x0 b0)), (69, (eRule x1 (a1_0, c1_0))), (54, [.slice none 0 0, .slice none 0 0, .slice none 0 0, .int .i64 0, .int .i64 0, .slice none 0 0, .slice none 0 0]), (54, (eCase (Case.mk t25.1 t21.Store t21.Series t21.Member) (y28, y24.2.1, y24.2.2.1, y24.2.2.2.1, y24.2.2.2.2))), (42, (eBook t25.1 y28))] ?_))))
 refine oe (nt (qs (qr (oB 4 [(5, vb t25.2)] [4] [(54, (eCase x0 b0)), (69, (eRule x1 (a1_0, c1_0))), (54, (eCase (Case.mk t25.1 t21.Store t21.Series t21.Member) (y28, y24.2.1, y24.2.2.1, y24.2.2.2.1, y24.2.2.2.2))), (54, (eCase (Case.mk t25.1 t21.Store t21.Series t21.Member) (y28, y24.2.1, y24.2.2.1, y24.2.2.2.1, y24.2.2.2.2))), (42, (eBook t25.1 y28))] ?_))))
 refine oe (nt (qe (rt [vCase (Case.mk t25.1 t21.Store t21.Series t21.Member) (y28, y24.2.1, y24.2.2.1, y24.2.2.2.1, y24.2.2.2.2), .bool t25.2] (fun γ w hs => ?_))))
 rw [← sI h27]
 exact ⟨(y28, y24.2.1, y24.2.2.1, y24.2.2.2.1, y24.2.2.2.2), rfl, hs.kept.toBelow, (hs.takeR (is := [0, 1, 1, 1, 1]) rfl).fresh⟩

theorem c_impl_MonthOk {W : World} {x0 : Int} {r : Bool} (h : impl_MonthOk x0 = some r)  :
    Gives0 Tryz.prog 102 #[.int .i64 x0] W (.bool r) := by
 unfold impl_MonthOk at h
 refine en Tryz.func102 Tryz.ntmps102 ?_
 refine qs (qr (oN 1 [] [0] ?_))
 refine oe (nt (qs (qr (oN 1 [(3, vi x0)] [] ?_))))
 obtain ⟨t21, h22, h23⟩ := bS h
 refine k0 (fun γ w hs => c_impl_within h22) ?_
 refine oN 1 [(2, vb t21)] [] ?_
 refine oe (nt (qe ?_))
 obtain rfl := sI h23
 exact re [.bool t21]

theorem c_impl_FactOk {W : World} {x0 : Fact} {r : Bool} (h : impl_FactOk x0 = some r)  :
    Gives0 Tryz.prog 205 #[vFact x0] W (.bool r) := by
 unfold impl_FactOk at h
 refine en Tryz.func205 Tryz.ntmps205 ?_
 refine qs (qr (oB 2 [(1, .p 0 0)] [] [(203, (eFact x0))] ?_))
 refine oe (nt (qs ?_))
 obtain ⟨p21, hE22, h23⟩ := bS h
 refine JC_cut (τ := Unit) (fun _ => [(2, vb p21)]) (fun _ => [(203, (eFact x0))]) (fun _ => []) ?_ (fun _ => ?_)
 · refine qr (oN 2 [(4, vi x0.Key)] [1] ?_)
   obtain ⟨t24, h25, h26⟩ := bS hE22
   refine k0 (fun γ w hs => c_impl_within h25) ?_
   refine oN 1 [(6, vb t24)] [1] ?_
   refine oS 6 h26 (fun h29 => ?_) (fun h30 => ?_)
   · refine oN 4 [(10, vi x0.To), (8, vi x0.From)] [6, 1] ?_
     obtain ⟨t31, h32, h33⟩ := bS h29
     refine k0 (fun γ w hs => c_impl_isSpan h32) ?_
     refine oN 2 [(13, vb t31)] [1] ?_
     refine oS 13 h33 (fun h36 => ?_) (fun h37 => ?_)
     · refine oN 2 [(15, vi x0.Known)] [13, 1] ?_
       obtain ⟨t38, h39, h40⟩ := bS h36
       refine k0 (fun γ w hs => c_impl_MonthOk h39) ?_
       refine oN 2 [(18, vb t38)] [1] ?_
       refine oS 18 h40 (fun h43 => ?_) (fun h44 => ?_)
       · refine oN 2 [(20, vi x0.Value)] [18] ?_
         obtain ⟨t45, h46, h47⟩ := bS h43
         refine k0 (fun γ w hs => c_impl_within h46) ?_
         refine oN 2 [(2, vb t45)] [] ?_
         refine oe ?_
         obtain rfl := sI h47
         exact mt () [2] [] 1
       refine oN 5 [(2, vb false)] [] ?_
       refine oe ?_
       obtain rfl := sI h44
       exact mt () [2] [] 1
     refine oN 10 [(2, vb false)] [] ?_
     refine oe ?_
     obtain rfl := sI h37
     exact mt () [2] [] 1
   refine oN 17 [(2, vb false)] [] ?_
   refine oe ?_
   obtain rfl := sI h30
   exact mt () [2] [] 1
 refine nt (qe ?_)
 obtain rfl := sI h23
 exact re [.bool p21]

theorem c_impl_StoreOk {W : World} {x0 : Store} {a0_0 : Option Addr} {c0_0 : Nat} {r : Bool} (h : impl_StoreOk x0 = some r) (hv0_0 : SlView W x0.Facts a0_0 c0_0) :
    Gives0 Tryz.prog 153 #[vStore x0 (a0_0, c0_0)] W (.bool r) := by
 unfold impl_StoreOk at h
 refine en Tryz.func153 Tryz.ntmps153 ?_
 refine qs (qr (oB 2 [(1, .p 0 0)] [] [(45, (eStore x0 (a0_0, c0_0)))] ?_))
 refine oe (nt (qs (qs (qr (oN 4 [(8, vi 0), (7, vi (x0.Facts.length : Int)), (6, .v (.slice a0_0 x0.Facts.length c0_0))] [1] ?_)))))
 refine oe (nt ?_)
 obtain ⟨r24, hL25, h26⟩ := bS h
 obtain ⟨k27, hk28, h26⟩ := brkS h26
 refine JC_cutP (τ := (Unit) × (Unit)) (fun y => k27 y.1 = some r) (fun y32 => [(1, .p 0 0)]) (fun y32 => [(45, (eStore x0 (a0_0, c0_0)))]) (fun y32 => []) ?_ (fun y32 h33p => ?_)
 · refine qb (lp Unit hL25 (fun s21 y22 => [(8, vi s21), (7, vi (x0.Facts.length : Int)), (6, .v (.slice a0_0 x0.Facts.length c0_0)), (1, .p 0 0)]) (fun s21 y22 => [(45, (eStore x0 (a0_0, c0_0)))]) (fun s21 y22 => []) () [8, 7, 6, 1] [] 1 (fun s21 y22 t23 h29 hd30 => ?_))
   refine qs (qr (oN 1 [(9, vb (decide (s21 < (x0.Facts.length : Int))))] [8, 7, 6, 1] ?_))
   refine oe (nt (qs (cC h29 (fun h35 => ?_) (fun h36 => ?_))))
   · refine qk (nt (qs (qb (qs (qr (oN 1 [(10, vi s21)] [8, 7, 6, 1] ?_))))))
     obtain ⟨x37, hx38, h39⟩ := bS h35
     refine oi 5 (fun γ w hs => (hv0_0.kept hs.kept)) hx38 ?_
     refine ol 203 0 (vFact x37) (fun γ w hs => (hv0_0.kept hs.kept).flatq hx38) ?_
     refine oB 3 [(3, vi s21), (4, .p 1 0)] [8, 7, 6, 1] [(45, (eStore x0 (a0_0, c0_0))), (203, (eFact x37))] ?_
     refine oe (nt (qs ?_))
     obtain ⟨p40, hE41, h42⟩ := bS h39
     refine JC_cut (τ := Unit) (fun _ => [(1, .p 0 0), (6, .v (.slice a0_0 x0.Facts.length c0_0)), (7, vi (x0.Facts.length : Int)), (8, vi s21), (31, vb p40)]) (fun _ => [(45, (eStore x0 (a0_0, c0_0))), (203, (eFact x37))]) (fun _ => []) ?_ (fun _ => ?_)
     · refine JC_quiet (by kernel_rfl) (by kernel_rfl) ?_
       refine qN 1 [(13, .v (vFact x37))] [3, 4, 8, 7, 6, 1] ?_
       obtain ⟨t43, h44, h45⟩ := bS hE41
       refine q0 (fun γ w hs => c_impl_FactOk h44) ?_
       refine qN 2 [(16, vb (!t43))] [3, 4, 8, 7, 6, 1] ?_
       refine qS 16 h45 (fun h48 => ?_) (fun h49 => ?_)
       · refine qN 15 [(31, vb true)] [8, 7, 6, 1] ?_
         refine qz ?_
         obtain rfl := sI h48
         exact mt () [1, 6, 7, 8, 31] [] 2
       refine qN 3 [(19, vb (decide (s21 > 0)))] [16, 3, 4, 8, 7, 6, 1] ?_
       refine qS 19 h49 (fun h51 => ?_) (fun h52 => ?_)
       · refine qN 4 [(23, vi (w64 (s21 - 1))), (21, .v (.slice a0_0 x0.Facts.length c0_0))] [19, 16, 4, 8, 7, 6, 1] ?_
         obtain ⟨x53, hx54, h55⟩ := bS h51
         refine qi 5 (fun γ w hs => (hv0_0.kept hs.kept)) hx54 ?_
         refine qN 1 [(25, .q a0_0 (Int.toNat (w64 (s21 - 1)) * 5 + 3))] [19, 16, 4, 8, 7, 6, 1] ?_
         refine ql 3 3 (.int .i64 x53.Known) (fun γ w hs => (hv0_0.kept hs.kept).flatq hx54) ?_
         refine qN 5 [(31, vb (decide (x53.Known > x37.Known)))] [8, 7, 6, 1] ?_
         refine qz ?_
         obtain rfl := sI h55
         exact mt () [1, 6, 7, 8, 31] [] 2
       refine qN 12 [(31, vb false)] [8, 7, 6, 1] ?_
       refine qz ?_
       obtain rfl := sI h52
       exact mt () [1, 6, 7, 8, 31] [] 2
     refine nt (cC h42 (fun h57 => ?_) (fun h58 => ?_))
     · refine qs (qr (oN 1 [(2, vb false)] [] ?_))
       refine oe (nt (qe (br (nr (nr ?_)))))
       have h59 := leafR hd30 h57 h26
       refine br (nr (nr ?_))
       obtain rfl := sI h59
       exact re [.bool false]
     refine qk (bn (nt (qr (oN 2 [(8, vi (w64 (s21 + 1)))] [1, 6, 7] ?_))))
     exact oe (ct h58 () [8, 7, 6, 1] [] 1)
   refine qx (nx (nx (bh ?_)))
   have h60 := leafB hd30 h36 h26
   exact mp ((), ()) h60 [1] [] 1
 have h33 := (congrFun hk28 _).symm.trans h33p
 refine nt (qs (qr (oN 5 [(2, vb (decide ((x0.Facts.length : Int) ≤ 200)))] [] ?_)))
 refine oe (nt (qe ?_))
 obtain rfl := sI h33
 exact re [.bool (decide ((x0.Facts.length : Int) ≤ 200))]

theorem c_impl_SeriesOk {W : World} {x0 : Series} {a0_0 : Option Addr} {c0_0 : Nat} {r : Bool} (h : impl_SeriesOk x0 = some r) (hv0_0 : SlView W x0.Points a0_0 c0_0) :
    Gives0 Tryz.prog 154 #[vSeries x0 (a0_0, c0_0)] W (.bool r) := by
 unfold impl_SeriesOk at h
 refine en Tryz.func154 Tryz.ntmps154 ?_
 refine qs (qr (oB 2 [(1, .p 0 0)] [] [(48, (eSeries x0 (a0_0, c0_0)))] ?_))
 refine oe (nt (qs (qs (qr (oN 4 [(8, vi 0), (7, vi (x0.Points.length : Int)), (6, .v (.slice a0_0 x0.Points.length c0_0))] [1] ?_)))))
 refine oe (nt ?_)
 obtain ⟨r24, hL25, h26⟩ := bS h
 obtain ⟨k27, hk28, h26⟩ := brkS h26
 refine JC_cutP (τ := (Unit) × (Unit)) (fun y => k27 y.1 = some r) (fun y32 => [(1, .p 0 0)]) (fun y32 => [(48, (eSeries x0 (a0_0, c0_0)))]) (fun y32 => []) ?_ (fun y32 h33p => ?_)
 · refine qb (lp Unit hL25 (fun s21 y22 => [(8, vi s21), (7, vi (x0.Points.length : Int)), (6, .v (.slice a0_0 x0.Points.length c0_0)), (1, .p 0 0)]) (fun s21 y22 => [(48, (eSeries x0 (a0_0, c0_0)))]) (fun s21 y22 => []) () [8, 7, 6, 1] [] 1 (fun s21 y22 t23 h29 hd30 => ?_))
   refine qs (qr (oN 1 [(9, vb (decide (s21 < (x0.Points.length : Int))))] [8, 7, 6, 1] ?_))
   refine oe (nt (qs (cC h29 (fun h35 => ?_) (fun h36 => ?_))))
   · refine qk (nt (qs (qb (qs (qr (oN 1 [(10, vi s21)] [8, 7, 6, 1] ?_))))))
     obtain ⟨x37, hx38, h39⟩ := bS h35
     refine oi 3 (fun γ w hs => (hv0_0.kept hs.kept)) hx38 ?_
     refine ol 207 0 (vPoint x37) (fun γ w hs => (hv0_0.kept hs.kept).flatq hx38) ?_
     refine oB 3 [(3, vi s21), (4, .p 1 0)] [8, 7, 6, 1] [(48, (eSeries x0 (a0_0, c0_0))), (207, (ePoint x37))] ?_
     refine oe (nt (qs ?_))
     obtain ⟨p40, hE41, h42⟩ := bS h39
     refine JC_cut (τ := Unit) (fun _ => [(1, .p 0 0), (6, .v (.slice a0_0 x0.Points.length c0_0)), (7, vi (x0.Points.length : Int)), (8, vi s21), (51, vb p40)]) (fun _ => [(48, (eSeries x0 (a0_0, c0_0))), (207, (ePoint x37))]) (fun _ => []) ?_ (fun _ => ?_)
     · refine JC_quiet (by kernel_rfl) (by kernel_rfl) ?_
       refine qN 2 [(14, vi x37.Month)] [3, 4, 8, 7, 6, 1] ?_
       obtain ⟨t43, h44, h45⟩ := bS hE41
       refine q0 (fun γ w hs => c_impl_MonthOk h44) ?_
       refine qN 2 [(17, vb (!t43))] [3, 4, 8, 7, 6, 1] ?_
       refine qS 17 h45 (fun h48 => ?_) (fun h49 => ?_)
       · refine qN 34 [(51, vb true)] [8, 7, 6, 1] ?_
         refine qz ?_
         obtain rfl := sI h48
         exact mt () [1, 6, 7, 8, 51] [] 2
       refine qN 2 [(19, vi x37.Known)] [17, 3, 4, 8, 7, 6, 1] ?_
       obtain ⟨t50, h51, h52⟩ := bS h49
       refine q0 (fun γ w hs => c_impl_MonthOk h51) ?_
       refine qN 3 [(23, vb (!t50))] [3, 4, 8, 7, 6, 1] ?_
       refine qS 23 h52 (fun h55 => ?_) (fun h56 => ?_)
       · refine qN 28 [(51, vb true)] [8, 7, 6, 1] ?_
         refine qz ?_
         obtain rfl := sI h55
         exact mt () [1, 6, 7, 8, 51] [] 2
       refine qN 7 [(30, vb (decide (x37.Known < x37.Month)))] [3, 4, 8, 7, 6, 1] ?_
       refine qS 30 h56 (fun h58 => ?_) (fun h59 => ?_)
       · refine qN 21 [(51, vb true)] [8, 7, 6, 1] ?_
         refine qz ?_
         obtain rfl := sI h58
         exact mt () [1, 6, 7, 8, 51] [] 2
       refine qN 2 [(32, vi x37.Value)] [30, 3, 4, 8, 7, 6, 1] ?_
       obtain ⟨t60, h61, h62⟩ := bS h59
       refine q0 (fun γ w hs => c_impl_within h61) ?_
       refine qN 3 [(36, vb (!t60))] [3, 4, 8, 7, 6, 1] ?_
       refine qS 36 h62 (fun h65 => ?_) (fun h66 => ?_)
       · refine qN 15 [(51, vb true)] [8, 7, 6, 1] ?_
         refine qz ?_
         obtain rfl := sI h65
         exact mt () [1, 6, 7, 8, 51] [] 2
       refine qN 3 [(39, vb (decide (s21 > 0)))] [36, 3, 4, 8, 7, 6, 1] ?_
       refine qS 39 h66 (fun h68 => ?_) (fun h69 => ?_)
       · refine qN 4 [(43, vi (w64 (s21 - 1))), (41, .v (.slice a0_0 x0.Points.length c0_0))] [39, 36, 4, 8, 7, 6, 1] ?_
         obtain ⟨x70, hx71, h72⟩ := bS h68
         refine qi 3 (fun γ w hs => (hv0_0.kept hs.kept)) hx71 ?_
         refine qN 1 [(45, .q a0_0 (Int.toNat (w64 (s21 - 1)) * 3 + 1))] [39, 36, 4, 8, 7, 6, 1] ?_
         refine ql 3 1 (.int .i64 x70.Known) (fun γ w hs => (hv0_0.kept hs.kept).flatq hx71) ?_
         refine qN 5 [(51, vb (decide (x70.Known > x37.Known)))] [8, 7, 6, 1] ?_
         refine qz ?_
         obtain rfl := sI h72
         exact mt () [1, 6, 7, 8, 51] [] 2
       refine qN 12 [(51, vb false)] [8, 7, 6, 1] ?_
       refine qz ?_
       obtain rfl := sI h69
       exact mt () [1, 6, 7, 8, 51] [] 2
     refine nt (cC h42 (fun h74 => ?_) (fun h75 => ?_))
     · refine qs (qr (oN 1 [(2, vb false)] [] ?_))
       refine oe (nt (qe (br (nr (nr ?_)))))
       have h76 := leafR hd30 h74 h26
       refine br (nr (nr ?_))
       obtain rfl := sI h76
       exact re [.bool false]
     refine qk (bn (nt (qr (oN 2 [(8, vi (w64 (s21 + 1)))] [1, 6, 7] ?_))))
     exact oe (ct h75 () [8, 7, 6, 1] [] 1)
   refine qx (nx (nx (bh ?_)))
   have h77 := leafB hd30 h36 h26
   exact mp ((), ()) h77 [1] [] 1
 have h33 := (congrFun hk28 _).symm.trans h33p
 refine nt (qs (qr (oN 5 [(2, vb (decide ((x0.Points.length : Int) ≤ 200)))] [] ?_)))
 refine oe (nt (qe ?_))
 obtain rfl := sI h33
 exact re [.bool (decide ((x0.Points.length : Int) ≤ 200))]

theorem c_impl_SpellsOk {W : World} {x0 : List Spell} {a0_0 : Option Addr} {c0_0 : Nat} {r : Bool} (h : impl_SpellsOk x0 = some r) (hv0_0 : SlView W x0 a0_0 c0_0) :
    Gives0 Tryz.prog 206 #[.slice a0_0 x0.length c0_0] W (.bool r) := by
 unfold impl_SpellsOk at h
 refine en Tryz.func206 Tryz.ntmps206 ?_
 refine qs (qr (oN 1 [] [0] ?_))
 refine oe (nt (qs (qs (qr (oN 3 [(7, vi 0), (6, vi (x0.length : Int)), (5, .v (.slice a0_0 x0.length c0_0))] [0] ?_)))))
 refine oe (nt ?_)
 obtain ⟨r24, hL25, h26⟩ := bS h
 obtain ⟨k27, hk28, h26⟩ := brkS h26
 refine JC_cutP (τ := (Unit) × (Unit)) (fun y => k27 y.1 = some r) (fun y32 => [(0, .v (.slice a0_0 x0.length c0_0))]) (fun y32 => []) (fun y32 => []) ?_ (fun y32 h33p => ?_)
 · refine qb (lp Unit hL25 (fun s21 y22 => [(7, vi s21), (6, vi (x0.length : Int)), (5, .v (.slice a0_0 x0.length c0_0)), (0, .v (.slice a0_0 x0.length c0_0))]) (fun s21 y22 => []) (fun s21 y22 => []) () [7, 6, 5, 0] [] 0 (fun s21 y22 t23 h29 hd30 => ?_))
   refine qs (qr (oN 1 [(8, vb (decide (s21 < (x0.length : Int))))] [7, 6, 5, 0] ?_))
   refine oe (nt (qs (cC h29 (fun h35 => ?_) (fun h36 => ?_))))
   · refine qk (nt (qs (qb (qs (qr (oN 1 [(9, vi s21)] [7, 6, 5, 0] ?_))))))
     obtain ⟨x37, hx38, h39⟩ := bS h35
     refine oi 4 (fun γ w hs => (hv0_0.kept hs.kept)) hx38 ?_
     refine ol 211 0 (vSpell x37) (fun γ w hs => (hv0_0.kept hs.kept).flatq hx38) ?_
     refine oB 3 [(3, vi s21), (4, .p 0 0)] [7, 6, 5, 0] [(211, (eSpell x37))] ?_
     refine oe (nt (qs ?_))
     obtain ⟨p40, hE41, h42⟩ := bS h39
     refine JC_cut (τ := Unit) (fun _ => [(0, .v (.slice a0_0 x0.length c0_0)), (5, .v (.slice a0_0 x0.length c0_0)), (6, vi (x0.length : Int)), (7, vi s21), (38, vb p40)]) (fun _ => [(211, (eSpell x37))]) (fun _ => []) ?_ (fun _ => ?_)
     · refine JC_quiet (by kernel_rfl) (by kernel_rfl) ?_
       refine qN 4 [(15, vi x37.To), (13, vi x37.From)] [3, 4, 7, 6, 5, 0] ?_
       obtain ⟨t43, h44, h45⟩ := bS hE41
       refine q0 (fun γ w hs => c_impl_isSpan h44) ?_
       refine qN 2 [(18, vb (!t43))] [3, 4, 7, 6, 5, 0] ?_
       refine qS 18 h45 (fun h48 => ?_) (fun h49 => ?_)
       · refine qN 20 [(38, vb true)] [7, 6, 5, 0] ?_
         refine qz ?_
         obtain rfl := sI h48
         exact mt () [0, 5, 6, 7, 38] [] 1
       refine qN 2 [(20, vi x37.Percent)] [18, 3, 4, 7, 6, 5, 0] ?_
       obtain ⟨t50, h51, h52⟩ := bS h49
       refine q0 (fun γ w hs => c_impl_within h51) ?_
       refine qN 3 [(24, vb (!t50))] [3, 4, 7, 6, 5, 0] ?_
       refine qS 24 h52 (fun h55 => ?_) (fun h56 => ?_)
       · refine qN 14 [(38, vb true)] [7, 6, 5, 0] ?_
         refine qz ?_
         obtain rfl := sI h55
         exact mt () [0, 5, 6, 7, 38] [] 1
       refine qN 3 [(27, vb (decide (s21 > 0)))] [24, 3, 4, 7, 6, 5, 0] ?_
       refine qS 27 h56 (fun h58 => ?_) (fun h59 => ?_)
       · refine qN 5 [(32, vi (w64 (s21 - 1))), (30, .v (.slice a0_0 x0.length c0_0)), (29, vi x37.From)] [27, 24, 7, 6, 5, 0] ?_
         obtain ⟨x60, hx61, h62⟩ := bS h58
         refine qi 4 (fun γ w hs => (hv0_0.kept hs.kept)) hx61 ?_
         refine qN 1 [(34, .q a0_0 (Int.toNat (w64 (s21 - 1)) * 4 + 1))] [29, 27, 24, 7, 6, 5, 0] ?_
         refine ql 3 1 (.int .i64 x60.To) (fun γ w hs => (hv0_0.kept hs.kept).flatq hx61) ?_
         refine qN 3 [(38, vb (decide (x37.From < x60.To)))] [7, 6, 5, 0] ?_
         refine qz ?_
         obtain rfl := sI h62
         exact mt () [0, 5, 6, 7, 38] [] 1
       refine qN 11 [(38, vb false)] [7, 6, 5, 0] ?_
       refine qz ?_
       obtain rfl := sI h59
       exact mt () [0, 5, 6, 7, 38] [] 1
     refine nt (cC h42 (fun h64 => ?_) (fun h65 => ?_))
     · refine qs (qr (oN 1 [(2, vb false)] [] ?_))
       refine oe (nt (qe (br (nr (nr ?_)))))
       have h66 := leafR hd30 h64 h26
       refine br (nr (nr ?_))
       obtain rfl := sI h66
       exact re [.bool false]
     refine qk (bn (nt (qr (oN 2 [(7, vi (w64 (s21 + 1)))] [0, 5, 6] ?_))))
     exact oe (ct h65 () [7, 6, 5, 0] [] 0)
   refine qx (nx (nx (bh ?_)))
   have h67 := leafB hd30 h36 h26
   exact mp ((), ()) h67 [0] [] 0
 have h33 := (congrFun hk28 _).symm.trans h33p
 refine nt (qs (qr (oN 4 [(2, vb (decide ((x0.length : Int) ≤ 30)))] [] ?_)))
 refine oe (nt (qe ?_))
 obtain rfl := sI h33
 exact re [.bool (decide ((x0.length : Int) ≤ 30))]

theorem c_impl_StatusAfter {W : World} {x0 : Int} {x1 : Int} {r : Int × Bool} (h : impl_StatusAfter x0 x1 = some r)  :
    Gives0 Tryz.prog 219 #[.int .i64 x0, .int .i64 x1] W (.tuple #[.int .i64 r.1, .bool r.2]) := by
 unfold impl_StatusAfter at h
 refine en Tryz.func219 Tryz.ntmps219 ?_
 refine qs (qr (oN 2 [] [0, 1] ?_))
 refine oe (nt (qs (qb (qs ?_))))
 obtain ⟨p21, hE22, h23⟩ := bS h
 refine JC_cut (τ := Unit) (fun _ => [(0, vi x0), (1, vi x1), (6, vb p21)]) (fun _ => []) (fun _ => []) ?_ (fun _ => ?_)
 · refine qr (oN 3 [(9, vb (x1 == 1))] [0, 1] ?_)
   refine oS 9 hE22 (fun h25 => ?_) (fun h26 => ?_)
   · refine oN 3 [(12, vb (x0 == 0))] [9, 0, 1] ?_
     refine oS 12 h25 (fun h28 => ?_) (fun h29 => ?_)
     · refine oN 5 [(6, vb true)] [0, 1] ?_
       refine oe ?_
       obtain rfl := sI h28
       exact mt () [0, 1, 6] [] 0
     refine oN 5 [(6, vb (x0 == 2))] [0, 1] ?_
     refine oe ?_
     obtain rfl := sI h29
     exact mt () [0, 1, 6] [] 0
   refine oN 8 [(6, vb false)] [0, 1] ?_
   refine oe ?_
   obtain rfl := sI h26
   exact mt () [0, 1, 6] [] 0
 refine nt (cC h23 (fun h65 => ?_) (fun h66 => ?_))
 · refine qs (qr (oN 2 [(5, vb true), (4, vi 1)] [] ?_))
   refine oe (nt (qe (br (nr ?_))))
   obtain rfl := sI h65
   exact re [.int .i64 1, .bool true]
 refine qs ?_
 obtain ⟨p67, hE68, h69⟩ := bS h66
 refine JC_cut (τ := Unit) (fun _ => [(0, vi x0), (1, vi x1), (17, vb p67)]) (fun _ => []) (fun _ => []) ?_ (fun _ => ?_)
 · refine qr (oN 3 [(20, vb (x1 == 2))] [0, 1] ?_)
   refine oS 20 hE68 (fun h71 => ?_) (fun h72 => ?_)
   · refine oN 4 [(17, vb (x0 == 1))] [0, 1] ?_
     refine oe ?_
     obtain rfl := sI h71
     exact mt () [0, 1, 17] [] 0
   refine oN 4 [(17, vb false)] [0, 1] ?_
   refine oe ?_
   obtain rfl := sI h72
   exact mt () [0, 1, 17] [] 0
 refine nt (cC h69 (fun h99 => ?_) (fun h100 => ?_))
 · refine qs (qr (oN 2 [(5, vb true), (4, vi 2)] [] ?_))
   refine oe (nt (qe (br (nr ?_))))
   obtain rfl := sI h99
   exact re [.int .i64 2, .bool true]
 refine qs ?_
 obtain ⟨p101, hE102, h103⟩ := bS h100
 refine JC_cut (τ := Unit) (fun _ => [(0, vi x0), (1, vi x1), (24, vb p101)]) (fun _ => []) (fun _ => []) ?_ (fun _ => ?_)
 · refine qr (oN 3 [(27, vb (x1 == 3))] [0, 1] ?_)
   refine oS 27 hE102 (fun h105 => ?_) (fun h106 => ?_)
   · refine oN 3 [(30, vb (x0 == 1))] [27, 0, 1] ?_
     refine oS 30 h105 (fun h108 => ?_) (fun h109 => ?_)
     · refine oN 5 [(24, vb true)] [0, 1] ?_
       refine oe ?_
       obtain rfl := sI h108
       exact mt () [0, 1, 24] [] 0
     refine oN 5 [(24, vb (x0 == 2))] [0, 1] ?_
     refine oe ?_
     obtain rfl := sI h109
     exact mt () [0, 1, 24] [] 0
   refine oN 8 [(24, vb false)] [0, 1] ?_
   refine oe ?_
   obtain rfl := sI h106
   exact mt () [0, 1, 24] [] 0
 refine nt (cC h103 (fun h124 => ?_) (fun h125 => ?_))
 · refine qs (qr (oN 2 [(5, vb true), (4, vi 3)] [] ?_))
   refine oe (nt (qe (br (nr ?_))))
   obtain rfl := sI h124
   exact re [.int .i64 3, .bool true]
 refine qs ?_
 obtain ⟨p126, hE127, h128⟩ := bS h125
 refine JC_cut (τ := Unit) (fun _ => [(0, vi x0), (35, vb p126)]) (fun _ => []) (fun _ => []) ?_ (fun _ => ?_)
 · refine qr (oN 3 [(38, vb (x1 == 4))] [0] ?_)
   refine oS 38 hE127 (fun h130 => ?_) (fun h131 => ?_)
   · refine oN 1 [(39, vi x0)] [38, 0] ?_
     obtain ⟨t132, h133, h134⟩ := bS h130
     refine k0 (fun γ w hs => c_impl_within h133) ?_
     refine oN 2 [(35, vb t132)] [0] ?_
     refine oe ?_
     obtain rfl := sI h134
     exact mt () [0, 35] [] 0
   refine oN 4 [(35, vb false)] [0] ?_
   refine oe ?_
   obtain rfl := sI h131
   exact mt () [0, 35] [] 0
 refine nt (cC h128 (fun h137 => ?_) (fun h138 => ?_))
 · refine qs (qr (oN 2 [(5, vb true), (4, vi 4)] [] ?_))
   refine oe (nt (qe (br (nr ?_))))
   obtain rfl := sI h137
   exact re [.int .i64 4, .bool true]
 refine qk (bn (nt (qs (qr (oN 3 [(5, vb false), (4, vi x0)] [] ?_)))))
 refine oe (nt (qe ?_))
 obtain rfl := sI h138
 exact re [.int .i64 x0, .bool false]

theorem c_impl_EventsOk {W : World} {x0 : List Event} {a0_0 : Option Addr} {c0_0 : Nat} {r : Bool} (h : impl_EventsOk x0 = some r) (hv0_0 : SlView W x0 a0_0 c0_0) :
    Gives0 Tryz.prog 207 #[.slice a0_0 x0.length c0_0] W (.bool r) := by
 unfold impl_EventsOk at h
 refine en Tryz.func207 Tryz.ntmps207 ?_
 refine qs (qr (oN 1 [] [0] ?_))
 refine oe (nt (qs (qr (oN 2 [(3, vi 0)] [0] ?_))))
 refine oe (nt (qs (qs (qr (oN 3 [(9, vi 0), (8, vi (x0.length : Int)), (7, .v (.slice a0_0 x0.length c0_0))] [3, 0] ?_)))))
 refine oe (nt ?_)
 obtain ⟨r24, hL25, h26⟩ := bS h
 obtain ⟨k27, hk28, h26⟩ := brkS h26
 refine JC_cutP (τ := (Unit) × (Unit)) (fun y => k27 y.1 = some r) (fun y32 => [(0, .v (.slice a0_0 x0.length c0_0))]) (fun y32 => []) (fun y32 => []) ?_ (fun y32 h33p => ?_)
 · refine qb (lp Unit hL25 (fun s21 y22 => [(9, vi s21.1), (8, vi (x0.length : Int)), (7, .v (.slice a0_0 x0.length c0_0)), (3, vi s21.2), (0, .v (.slice a0_0 x0.length c0_0))]) (fun s21 y22 => []) (fun s21 y22 => []) () [9, 8, 7, 3, 0] [] 0 (fun s21 y22 t23 h29 hd30 => ?_))
   refine qs (qr (oN 1 [(10, vb (decide (s21.1 < (x0.length : Int))))] [9, 8, 7, 3, 0] ?_))
   refine oe (nt (qs (cC h29 (fun h35 => ?_) (fun h36 => ?_))))
   · refine qk (nt (qs (qb (qs (qr (oN 1 [(11, vi s21.1)] [9, 8, 7, 3, 0] ?_))))))
     obtain ⟨x37, hx38, h39⟩ := bS h35
     refine oi 2 (fun γ w hs => (hv0_0.kept hs.kept)) hx38 ?_
     refine ol 215 0 (vEvent x37) (fun γ w hs => (hv0_0.kept hs.kept).flatq hx38) ?_
     refine oB 3 [(5, vi s21.1), (6, .p 0 0)] [9, 8, 7, 3, 0] [(215, (eEvent x37))] ?_
     refine oe (nt (qs (qr (oN 3 [(17, vi x37.Kind), (15, vi s21.2)] [5, 6, 9, 8, 7, 0] ?_))))
     obtain ⟨t40, h41, h42⟩ := bS h39
     refine k0 (fun γ w hs => c_impl_StatusAfter h41) ?_
     refine oN 5 [(4, vb t40.2), (3, vi t40.1)] [5, 6, 9, 8, 7, 0] ?_
     refine oe (nt (qs ?_))
     obtain ⟨p44, hE45, h46⟩ := bS h42
     refine JC_cut (τ := Unit) (fun _ => [(0, .v (.slice a0_0 x0.length c0_0)), (3, vi t40.1), (7, .v (.slice a0_0 x0.length c0_0)), (8, vi (x0.length : Int)), (9, vi s21.1), (43, vb p44)]) (fun _ => [(215, (eEvent x37))]) (fun _ => []) ?_ (fun _ => ?_)
     · refine JC_quiet (by kernel_rfl) (by kernel_rfl) ?_
       refine qN 3 [(23, vb (!t40.2))] [3, 5, 6, 9, 8, 7, 0] ?_
       refine qS 23 hE45 (fun h48 => ?_) (fun h49 => ?_)
       · refine qN 20 [(43, vb true)] [3, 9, 8, 7, 0] ?_
         refine qz ?_
         obtain rfl := sI h48
         exact mt () [0, 3, 7, 8, 9, 43] [] 1
       refine qN 2 [(25, vi x37.Month)] [23, 3, 5, 6, 9, 8, 7, 0] ?_
       obtain ⟨t50, h51, h52⟩ := bS h49
       refine q0 (fun γ w hs => c_impl_MonthOk h51) ?_
       refine qN 3 [(29, vb (!t50))] [3, 5, 6, 9, 8, 7, 0] ?_
       refine qS 29 h52 (fun h55 => ?_) (fun h56 => ?_)
       · refine qN 14 [(43, vb true)] [3, 9, 8, 7, 0] ?_
         refine qz ?_
         obtain rfl := sI h55
         exact mt () [0, 3, 7, 8, 9, 43] [] 1
       refine qN 3 [(32, vb (decide (s21.1 > 0)))] [29, 3, 5, 6, 9, 8, 7, 0] ?_
       refine qS 32 h56 (fun h58 => ?_) (fun h59 => ?_)
       · refine qN 3 [(35, vi (w64 (s21.1 - 1))), (33, .v (.slice a0_0 x0.length c0_0))] [32, 29, 3, 6, 9, 8, 7, 0] ?_
         obtain ⟨x60, hx61, h62⟩ := bS h58
         refine qi 2 (fun γ w hs => (hv0_0.kept hs.kept)) hx61 ?_
         refine qN 1 [(37, .q a0_0 (Int.toNat (w64 (s21.1 - 1)) * 2 + 1))] [32, 29, 3, 6, 9, 8, 7, 0] ?_
         refine ql 3 1 (.int .i64 x60.Month) (fun γ w hs => (hv0_0.kept hs.kept).flatq hx61) ?_
         refine qN 5 [(43, vb (decide (x60.Month ≥ x37.Month)))] [3, 9, 8, 7, 0] ?_
         refine qz ?_
         obtain rfl := sI h62
         exact mt () [0, 3, 7, 8, 9, 43] [] 1
       refine qN 11 [(43, vb false)] [3, 9, 8, 7, 0] ?_
       refine qz ?_
       obtain rfl := sI h59
       exact mt () [0, 3, 7, 8, 9, 43] [] 1
     refine nt (cC h46 (fun h64 => ?_) (fun h65 => ?_))
     · refine qs (qr (oN 1 [(2, vb false)] [] ?_))
       refine oe (nt (qe (br (nr (nr ?_)))))
       have h66 := leafR hd30 h64 h26
       refine br (nr (nr ?_))
       obtain rfl := sI h66
       exact re [.bool false]
     refine qk (bn (nt (qr (oN 2 [(9, vi (w64 (s21.1 + 1)))] [0, 3, 7, 8] ?_))))
     exact oe (ct h65 () [9, 8, 7, 3, 0] [] 0)
   refine qx (nx (nx (bh ?_)))
   have h67 := leafB hd30 h36 h26
   exact mp ((), ()) h67 [0] [] 0
 have h33 := (congrFun hk28 _).symm.trans h33p
 refine nt (qs (qr (oN 4 [(2, vb (decide ((x0.length : Int) ≤ 30)))] [] ?_)))
 refine oe (nt (qe ?_))
 obtain rfl := sI h33
 exact re [.bool (decide ((x0.length : Int) ≤ 30))]

theorem c_impl_MemberOk {W : World} {x0 : Member} {b0 : AC × AC} {r : Bool} (h : impl_MemberOk x0 = some r) (hv0_0 : SlView W x0.Spells b0.1.1 b0.1.2) (hv0_1 : SlView W x0.Events b0.2.1 b0.2.2) :
    Gives0 Tryz.prog 155 #[vMember x0 b0] W (.bool r) := by
 unfold impl_MemberOk at h
 refine en Tryz.func155 Tryz.ntmps155 ?_
 refine qs (qr (oB 2 [(1, .p 0 0)] [] [(52, (eMember x0 b0))] ?_))
 refine oe (nt (qs ?_))
 obtain ⟨p21, hE22, h23⟩ := bS h
 refine JC_cut (τ := Unit) (fun _ => [(2, vb p21)]) (fun _ => [(52, (eMember x0 b0))]) (fun _ => []) ?_ (fun _ => ?_)
 · refine qr (oN 2 [(4, vi x0.Birth)] [1] ?_)
   obtain ⟨t24, h25, h26⟩ := bS hE22
   refine k0 (fun γ w hs => c_impl_MonthOk h25) ?_
   refine oN 1 [(6, vb t24)] [1] ?_
   refine oS 6 h26 (fun h29 => ?_) (fun h30 => ?_)
   · refine oN 2 [(8, vi x0.Joined)] [6, 1] ?_
     obtain ⟨t31, h32, h33⟩ := bS h29
     refine k0 (fun γ w hs => c_impl_MonthOk h32) ?_
     refine oN 2 [(11, vb t31)] [1] ?_
     refine oS 11 h33 (fun h36 => ?_) (fun h37 => ?_)
     · refine oN 7 [(18, vb (decide (x0.Birth ≤ x0.Joined)))] [1] ?_
       refine oS 18 h36 (fun h39 => ?_) (fun h40 => ?_)
       · refine oN 2 [(20, .v (.slice b0.1.1 x0.Spells.length b0.1.2))] [18, 1] ?_
         obtain ⟨t41, h42, h43⟩ := bS h39
         refine k0 (fun γ w hs => c_impl_SpellsOk h42 (hv0_0.kept hs.kept)) ?_
         refine oN 2 [(23, vb t41)] [1] ?_
         refine oS 23 h43 (fun h46 => ?_) (fun h47 => ?_)
         · refine oN 2 [(25, .v (.slice b0.2.1 x0.Events.length b0.2.2))] [23] ?_
           obtain ⟨t48, h49, h50⟩ := bS h46
           refine k0 (fun γ w hs => c_impl_EventsOk h49 (hv0_1.kept hs.kept)) ?_
           refine oN 2 [(2, vb t48)] [] ?_
           refine oe ?_
           obtain rfl := sI h50
           exact mt () [2] [] 1
         refine oN 5 [(2, vb false)] [] ?_
         refine oe ?_
         obtain rfl := sI h47
         exact mt () [2] [] 1
       refine oN 10 [(2, vb false)] [] ?_
       refine oe ?_
       obtain rfl := sI h40
       exact mt () [2] [] 1
     refine oN 17 [(2, vb false)] [] ?_
     refine oe ?_
     obtain rfl := sI h37
     exact mt () [2] [] 1
   refine oN 22 [(2, vb false)] [] ?_
   refine oe ?_
   obtain rfl := sI h30
   exact mt () [2] [] 1
 refine nt (qe ?_)
 obtain rfl := sI h23
 exact re [.bool p21]

theorem c_impl_CaseOk {W : World} {x0 : Case} {b0 : AC × AC × AC × AC × AC} {r : Bool} (h : impl_CaseOk x0 = some r) (hv0_0 : SlView W x0.Book.Rules b0.1.1 b0.1.2) (hv0_1 : SlView W x0.Store.Facts b0.2.1.1 b0.2.1.2) (hv0_2 : SlView W x0.Series.Points b0.2.2.1.1 b0.2.2.1.2) (hv0_3 : SlView W x0.Member.Spells b0.2.2.2.1.1 b0.2.2.2.1.2) (hv0_4 : SlView W x0.Member.Events b0.2.2.2.2.1 b0.2.2.2.2.2) :
    Gives0 Tryz.prog 96 #[vCase x0 b0] W (.bool r) := by
 unfold impl_CaseOk at h
 refine en Tryz.func96 Tryz.ntmps96 ?_
 refine qs (qr (oB 2 [(1, .p 0 0)] [] [(54, (eCase x0 b0))] ?_))
 refine oe (nt (qs ?_))
 obtain ⟨p21, hE22, h23⟩ := bS h
 refine JC_cut (τ := Unit) (fun _ => [(2, vb p21)]) (fun _ => [(54, (eCase x0 b0))]) (fun _ => []) ?_ (fun _ => ?_)
 · refine qr (oN 2 [(4, .v (vBook x0.Book b0.1))] [1] ?_)
   obtain ⟨t24, h25, h26⟩ := bS hE22
   refine k0 (fun γ w hs => c_impl_BookOk h25 (hv0_0.kept hs.kept)) ?_
   refine oN 1 [(6, vb t24)] [1] ?_
   refine oS 6 h26 (fun h29 => ?_) (fun h30 => ?_)
   · refine oN 2 [(8, .v (vStore x0.Store b0.2.1))] [6, 1] ?_
     obtain ⟨t31, h32, h33⟩ := bS h29
     refine k0 (fun γ w hs => c_impl_StoreOk h32 (hv0_1.kept hs.kept)) ?_
     refine oN 2 [(11, vb t31)] [1] ?_
     refine oS 11 h33 (fun h36 => ?_) (fun h37 => ?_)
     · refine oN 2 [(13, .v (vSeries x0.Series b0.2.2.1))] [11, 1] ?_
       obtain ⟨t38, h39, h40⟩ := bS h36
       refine k0 (fun γ w hs => c_impl_SeriesOk h39 (hv0_2.kept hs.kept)) ?_
       refine oN 2 [(16, vb t38)] [1] ?_
       refine oS 16 h40 (fun h43 => ?_) (fun h44 => ?_)
       · refine oN 2 [(18, .v (vMember x0.Member b0.2.2.2))] [16] ?_
         obtain ⟨t45, h46, h47⟩ := bS h43
         refine k0 (fun γ w hs => c_impl_MemberOk (b0 := b0.2.2.2) h46 (hv0_3.kept hs.kept) (hv0_4.kept hs.kept)) ?_
         refine oN 2 [(2, vb t45)] [] ?_
         refine oe ?_
         obtain rfl := sI h47
         exact mt () [2] [] 1
       refine oN 5 [(2, vb false)] [] ?_
       refine oe ?_
       obtain rfl := sI h44
       exact mt () [2] [] 1
     refine oN 10 [(2, vb false)] [] ?_
     refine oe ?_
     obtain rfl := sI h37
     exact mt () [2] [] 1
   refine oN 15 [(2, vb false)] [] ?_
   refine oe ?_
   obtain rfl := sI h30
   exact mt () [2] [] 1
 refine nt (qe ?_)
 obtain rfl := sI h23
 exact re [.bool p21]

theorem c_impl_isEnd {W : World} {x0 : Int} {r : Bool} (h : impl_isEnd x0 = some r)  :
    Gives0 Tryz.prog 173 #[.int .i64 x0] W (.bool r) := by
 unfold impl_isEnd at h
 refine en Tryz.func173 Tryz.ntmps173 ?_
 refine qs (qr (oN 1 [] [0] ?_))
 refine oe (nt (qs (qr (oN 1 [(3, vi x0)] [] ?_))))
 obtain ⟨t21, h22, h23⟩ := bS h
 refine k0 (fun γ w hs => c_impl_within h22) ?_
 refine oN 1 [(2, vb t21)] [] ?_
 refine oe (nt (qe ?_))
 obtain rfl := sI h23
 exact re [.bool t21]

theorem c_impl_StatusAt {W : World} {x0 : List Event} {a0_0 : Option Addr} {c0_0 : Nat} {x1 : Int} {r : Int} (h : impl_StatusAt x0 x1 = some r) (hv0_0 : SlView W x0 a0_0 c0_0) :
    Gives0 Tryz.prog 170 #[.slice a0_0 x0.length c0_0, .int .i64 x1] W (.int .i64 r) := by
 unfold impl_StatusAt at h
 refine en Tryz.func170 Tryz.ntmps170 ?_
 refine qs (qr (oN 1 [] [0, 1] ?_))
 refine oe (nt (qs (qr (oN 1 [(5, vi 0)] [0, 1] ?_))))
 refine oe (nt (qs (qs (qr (oN 1 [(8, .v (.slice a0_0 x0.length c0_0))] [5, 0, 1] ?_)))))
 obtain ⟨t21, h22, h23⟩ := bS h
 refine k0 (fun γ w hs => c_impl_EventsOk h22 (hv0_0.kept hs.kept)) ?_
 refine oN 1 [(10, vb (!t21))] [5, 0, 1] ?_
 refine oe (nt (cC h23 (fun h26 => ?_) (fun h27 => ?_)))
 · refine qs (qr (oN 2 [(4, vi 0)] [] ?_))
   refine oe (nt (qe (nr ?_)))
   obtain rfl := sI h26
   exact re [.int .i64 0]
 refine qk (nt (qs (qs (qr (oN 3 [(14, vi 0), (13, vi (x0.length : Int)), (12, .v (.slice a0_0 x0.length c0_0))] [5, 1] ?_)))))
 refine oe (nt ?_)
 obtain ⟨r31, hL32, h33⟩ := bS h27
 obtain ⟨k34, hk35, h33⟩ := brkS h33
 refine JC_cutP (τ := (Int) × (Unit)) (fun y => k34 y.1 = some r) (fun y39 => [(5, vi y39.1)]) (fun y39 => []) (fun y39 => []) ?_ (fun y39 h40p => ?_)
 · refine qb (lp Unit hL32 (fun s28 y29 => [(14, vi s28.1), (13, vi (x0.length : Int)), (12, .v (.slice a0_0 x0.length c0_0)), (5, vi s28.2), (1, vi x1)]) (fun s28 y29 => []) (fun s28 y29 => []) () [14, 13, 12, 5, 1] [] 0 (fun s28 y29 t30 h36 hd37 => ?_))
   refine qs (qr (oN 1 [(15, vb (decide (s28.1 < (x0.length : Int))))] [14, 13, 12, 5, 1] ?_))
   refine oe (nt (qs (cC h36 (fun h42 => ?_) (fun h43 => ?_))))
   · refine qk (nt (qs (qb (qs (qr ?_)))))
     obtain ⟨x44, hx45, h46⟩ := bS h42
     refine oi 2 (fun γ w hs => (hv0_0.kept hs.kept)) hx45 ?_
     refine ol 215 0 (vEvent x44) (fun γ w hs => (hv0_0.kept hs.kept).flatq hx45) ?_
     refine oB 2 [(7, .p 0 0)] [14, 13, 12, 5, 1] [(215, (eEvent x44))] ?_
     refine oe (nt (qs (qr (oN 4 [(21, vb (decide (x44.Month ≤ x1)))] [7, 14, 13, 12, 5, 1] ?_))))
     refine oe (nt ?_)
     obtain ⟨k54, hk55, h57⟩ := jS h46
     refine JC_cutP (τ := (Int) × (Unit)) (fun y => k54 y.1 = some t30) (fun y53 => [(14, vi s28.1), (13, vi (x0.length : Int)), (12, .v (.slice a0_0 x0.length c0_0)), (5, vi y53.1), (1, vi x1)]) (fun y53 => [(215, (eEvent x44))]) (fun y53 => []) ?_ (fun y53 h56p => ?_)
     · refine cC h57 (fun h59 => ?_) (fun h60 => ?_)
       · refine qr (oN 3 [(25, vi x44.Kind), (23, vi s28.2)] [14, 13, 12, 1] ?_)
         obtain ⟨t61, h62, h63⟩ := bS h59
         refine k0 (fun γ w hs => c_impl_StatusAfter h62) ?_
         refine oN 4 [(5, vi t61.1)] [14, 13, 12, 1] ?_
         exact oe (mp (t61.1, ()) h63 [14, 13, 12, 5, 1] [] 1)
       exact qk (mp (s28.2, ()) h60 [14, 13, 12, 5, 1] [] 1)
     have h56 := (congrFun hk55 _).symm.trans h56p
     refine bn (nt (qr (oN 2 [(14, vi (w64 (s28.1 + 1)))] [13, 12, 5, 1] ?_)))
     exact oe (ct h56 () [14, 13, 12, 5, 1] [] 0)
   refine qx (nx (nx (bh ?_)))
   have h65 := leafB hd37 h43 h33
   exact mp (s28.2, ()) h65 [5] [] 0
 have h40 := (congrFun hk35 _).symm.trans h40p
 refine nt (qs (qr (oN 2 [(4, vi y39.1)] [] ?_)))
 refine oe (nt (qe ?_))
 obtain rfl := sI h40
 exact re [.int .i64 y39.1]
end Go.Pen
