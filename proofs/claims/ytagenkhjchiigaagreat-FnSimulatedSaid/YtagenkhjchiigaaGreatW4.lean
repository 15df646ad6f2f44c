/-
  Each Go function does what its plain function says: written by a program of ours.
-/
import Derived.Test.YtagenkhjchiigaaGreatW3
import Derived.Test.YtagenkhjchiigaaGreatProg
import Derived.Test.YtagenkhjchiigaaGreatPenK
import Derived.Test.YtagenkhjchiigaaGreatPenJ
import Derived.Test.YtagenkhjchiigaaGreatPenP
import Derived.Test.YtagenkhjchiigaaGreatPenQ
import Derived.Test.YtagenkhjchiigaaGreatPenU
namespace Go.Pen
open Go.Proofs Go.RowKit
set_option linter.unusedVariables false
set_option linter.unusedSimpArgs false
set_option maxRecDepth 100000
set_option maxHeartbeats 4000000

theorem c_laws_FnSimulated {W : World} {x0 : List U8} {a0_0 : Option Addr} {c0_0 : Nat} {r : Bool} (h : laws_FnSimulated x0 = some r) (hv0_0 : SlView W x0 a0_0 c0_0) :
    Gives0 Tryz.prog 7 #[.slice a0_0 x0.length c0_0] W (.bool r) := by
 unfold laws_FnSimulated at h
 refine en Tryz.func7 Tryz.ntmps7 ?_
 refine qs (qr (oN 1 [] [0] ?_))
 refine oe (nt (qs (qs (qr (oN 1 [(18, .v (.slice a0_0 x0.length c0_0))] [0] ?_)))))
 obtain ⟨t21, h22, h23⟩ := bS h
 refine k0 (fun γ w hs => c_laws_big h22 (hv0_0.kept hs.kept)) ?_
 refine oe (nt (cC h23 (fun h26 => ?_) (fun h27 => ?_)))
 · refine qs (qr (oN 1 [(2, vb true)] [] ?_))
   refine oe (nt (qe (nr ?_)))
   obtain rfl := sI h26
   exact re [.bool true]
 refine qk (nt (qs (qr (oN 1 [(21, .v (.slice a0_0 x0.length c0_0))] [0] ?_))))
 obtain ⟨t28, h29, h30⟩ := bS h27
 refine k1 (fun γ w hs => c_spec_DrawProposal h29 (hv0_0.kept hs.kept)) (fun y31 => ?_)
 refine oB 7 [(4, .p 1 0), (3, .p 0 0)] [0] [(38, (eCase t28.1 y31.1)), (76, (eRule t28.2 y31.2))] ?_
 refine oe (nt (qs (qr (oN 1 [(25, .v (.slice a0_0 x0.length c0_0))] [4, 3] ?_))))
 obtain ⟨t32, h33, h34⟩ := bS h30
 refine k1 (fun γ w hs => c_spec_DrawPlaces h33 (hv0_0.kept hs.kept)) (fun y35 => ?_)
 refine oN 1 [(5, .v (.slice y35.1 t32.length y35.2))] [4, 3] ?_
 refine oe (nt (qs (qr (oN 1 [(27, .v (.slice y35.1 t32.length y35.2))] [4, 3] ?_))))
 obtain ⟨x36, hx37, h38⟩ := bS h34
 refine oi 1 (fun γ w hs => (hs.view 0 rfl)) hx37 ?_
 refine ol 3 0 (.int .i64 x36) (fun γ w hs => (hs.view 0 rfl).flatq hx37) ?_
 refine oN 2 [(6, vi (Int.tmod x36 100))] [4, 3] ?_
 refine oe (nt (qs (qr (oN 2 [(33, .v (vRule t28.2 y31.2)), (32, .v (vCase t28.1 y31.1))] [6, 4, 3] ?_))))
 obtain ⟨t39, h40, h41⟩ := bS h38
 refine k1 (fun γ w hs => c_impl_WithRule (b0 := y31.1) h40 (hs.view 1 rfl) (hs.view 2 rfl) (hs.view 3 rfl) (hs.view 4 rfl) (hs.view 5 rfl) (hs.view 6 rfl)) (fun y42 => ?_)
 refine oB 6 [(8, vb t39.2), (7, .p 2 0)] [6, 4, 3] [(38, (eCase t28.1 y31.1)), (76, (eRule t28.2 y31.2)), (38, (eCase t39.1 y42))] ?_
 refine oe (nt (qs (qr (oN 3 [(39, vi (Int.tmod x36 100)), (38, .v (vRule t28.2 y31.2)), (37, .v (vCase t28.1 y31.1))] [8, 7, 6, 4, 3] ?_))))
 obtain ⟨t43, h44, h45⟩ := bS h41
 refine k1 (fun γ w hs => c_impl_ImpactOf (b0 := y31.1) h44 (hs.view 6 rfl) (hs.view 7 rfl) (hs.view 8 rfl) (hs.view 9 rfl) (hs.view 10 rfl) (hs.view 11 rfl)) (fun y46 => ?_)
 refine oN 1 [(9, .v (.slice y46.1 t43.length y46.2))] [8, 7, 6, 4, 3] ?_
 refine oe (nt (qs (qs (qr (oN 2 [(42, vb (!t39.2))] [9, 7, 6, 4, 3] ?_)))))
 refine oe (nt (cC h45 (fun h54 => ?_) (fun h55 => ?_)))
 · refine qs ?_
   obtain ⟨p56, hE57, h58⟩ := bS h54
   refine JC_cut (τ := Unit) (fun _ => [(2, vb p56)]) (fun _ => [(38, (eCase t28.1 y31.1)), (76, (eRule t28.2 y31.2)), (38, (eCase t39.1 y42))]) (fun _ => [SlRes 76 t28.1.Book.Rules y31.1.1.1 y31.1.1.2, SlRes 47 t28.1.Store.Facts y31.1.2.1.1 y31.1.2.1.2, SlRes 52 t28.1.Series.Points y31.1.2.2.1.1 y31.1.2.2.1.2, SlRes 156 t28.1.Member.Spells y31.1.2.2.2.1.1 y31.1.2.2.2.1.2, SlRes 158 t28.1.Member.Events y31.1.2.2.2.2.1 y31.1.2.2.2.2.2, SlRes 154 t28.2.Nodes y31.2.1 y31.2.2, SlRes 76 t39.1.Book.Rules y42.1.1 y42.1.2, SlRes 47 t39.1.Store.Facts y42.2.1.1 y42.2.1.2, SlRes 52 t39.1.Series.Points y42.2.2.1.1 y42.2.2.1.2, SlRes 156 t39.1.Member.Spells y42.2.2.2.1.1 y42.2.2.2.1.2, SlRes 158 t39.1.Member.Events y42.2.2.2.2.1 y42.2.2.2.2.2]) ?_ (fun _ => ?_)
   · refine qr (oN 4 [(46, vb ((t43.length : Int) == 0))] [7, 3] ?_)
     refine oS 46 hE57 (fun h60 => ?_) (fun h61 => ?_)
     · refine oN 11 [(2, vb ((t39.1.Book.Rules.length : Int) == (t28.1.Book.Rules.length : Int)))] [] ?_
       refine oe ?_
       obtain rfl := sI h60
       exact mt () [2] [7, 7, 7, 7, 7, 7, 1, 1, 1, 1, 1] 3
     refine oN 11 [(2, vb false)] [] ?_
     refine oe ?_
     obtain rfl := sI h61
     exact mt () [2] [7, 7, 7, 7, 7, 7, 1, 1, 1, 1, 1] 3
   refine nt (qe (nr ?_))
   obtain rfl := sI h58
   exact re [.bool p56]
 refine qk (nt (qs (qr (oN 2 [(58, vi (Int.tmod x36 100)), (57, .v (vCase t28.1 y31.1))] [9, 7, 6, 4, 3] ?_))))
 obtain ⟨t62, h63, h64⟩ := bS h55
 refine k1 (fun γ w hs => c_spec_Entitlements (b0 := y31.1) h63 (hs.view 7 rfl) (hs.view 8 rfl) (hs.view 9 rfl) (hs.view 10 rfl) (hs.view 11 rfl)) (fun y65 => ?_)
 refine oN 1 [(10, .v (.slice y65.1 t62.length y65.2))] [9, 7, 6, 4, 3] ?_
 refine oe (nt (qs (qr (oN 2 [(61, vi (Int.tmod x36 100)), (60, .v (vCase t39.1 y42))] [10, 9, 7, 6, 4, 3] ?_))))
 obtain ⟨t66, h67, h68⟩ := bS h64
 refine k1 (fun γ w hs => c_spec_Entitlements (b0 := y42) h67 (hs.view 2 rfl) (hs.view 3 rfl) (hs.view 4 rfl) (hs.view 5 rfl) (hs.view 6 rfl)) (fun y69 => ?_)
 refine oN 1 [(11, .v (.slice y69.1 t66.length y69.2))] [10, 9, 7, 6, 4, 3] ?_
 refine oe (nt (qs (qr (oN 1 [(12, vi 0)] [11, 10, 9, 7, 6, 4, 3] ?_))))
 refine oe (nt (qs (qr (oN 1 [(13, vi 0)] [12, 11, 10, 9, 7, 6, 4, 3] ?_))))
 refine oe (nt (qs (qs (qr (oN 1 [(14, vi 0)] [13, 12, 11, 10, 9, 7, 6, 4, 3] ?_)))))
 refine oe (nt ?_)
 obtain ⟨r73, hL74, h75⟩ := bS h68
 obtain ⟨k76, hk77, h75⟩ := brkS h75
 refine JC_cutP (τ := (Int × Int) × (Unit)) (fun y => k76 y.1 = some r) (fun y81 => [(13, vi y81.1.1), (12, vi y81.1.2), (11, .v (.slice y69.1 t66.length y69.2)), (9, .v (.slice y46.1 t43.length y46.2)), (7, .p 2 0), (6, vi (Int.tmod x36 100)), (4, .p 1 0), (3, .p 0 0)]) (fun y81 => [(38, (eCase t28.1 y31.1)), (76, (eRule t28.2 y31.2)), (38, (eCase t39.1 y42))]) (fun y81 => [SlRes 3 t66 y69.1 y69.2, SlRes 85 t43 y46.1 y46.2, SlRes 76 t28.1.Book.Rules y31.1.1.1 y31.1.1.2, SlRes 47 t28.1.Store.Facts y31.1.2.1.1 y31.1.2.1.2, SlRes 52 t28.1.Series.Points y31.1.2.2.1.1 y31.1.2.2.1.2, SlRes 156 t28.1.Member.Spells y31.1.2.2.2.1.1 y31.1.2.2.2.1.2, SlRes 158 t28.1.Member.Events y31.1.2.2.2.2.1 y31.1.2.2.2.2.2, SlRes 154 t28.2.Nodes y31.2.1 y31.2.2, SlRes 76 t39.1.Book.Rules y42.1.1 y42.1.2, SlRes 47 t39.1.Store.Facts y42.2.1.1 y42.2.1.2, SlRes 52 t39.1.Series.Points y42.2.2.1.1 y42.2.2.1.2, SlRes 156 t39.1.Member.Spells y42.2.2.2.1.1 y42.2.2.2.1.2, SlRes 158 t39.1.Member.Events y42.2.2.2.2.1 y42.2.2.2.2.2]) ?_ (fun y81 h82p => ?_)
 · refine qb (lp Unit hL74 (fun s70 y71 => [(14, vi s70.1), (13, vi s70.2.1), (12, vi s70.2.2), (11, .v (.slice y69.1 t66.length y69.2)), (10, .v (.slice y65.1 t62.length y65.2)), (9, .v (.slice y46.1 t43.length y46.2)), (7, .p 2 0), (6, vi (Int.tmod x36 100)), (4, .p 1 0), (3, .p 0 0)]) (fun s70 y71 => [(38, (eCase t28.1 y31.1)), (76, (eRule t28.2 y31.2)), (38, (eCase t39.1 y42))]) (fun s70 y71 => [SlRes 3 t66 y69.1 y69.2, SlRes 3 t62 y65.1 y65.2, SlRes 85 t43 y46.1 y46.2, SlRes 76 t28.1.Book.Rules y31.1.1.1 y31.1.1.2, SlRes 47 t28.1.Store.Facts y31.1.2.1.1 y31.1.2.1.2, SlRes 52 t28.1.Series.Points y31.1.2.2.1.1 y31.1.2.2.1.2, SlRes 156 t28.1.Member.Spells y31.1.2.2.2.1.1 y31.1.2.2.2.1.2, SlRes 158 t28.1.Member.Events y31.1.2.2.2.2.1 y31.1.2.2.2.2.2, SlRes 154 t28.2.Nodes y31.2.1 y31.2.2, SlRes 76 t39.1.Book.Rules y42.1.1 y42.1.2, SlRes 47 t39.1.Store.Facts y42.2.1.1 y42.2.1.2, SlRes 52 t39.1.Series.Points y42.2.2.1.1 y42.2.2.1.2, SlRes 156 t39.1.Member.Spells y42.2.2.2.1.1 y42.2.2.2.1.2, SlRes 158 t39.1.Member.Events y42.2.2.2.2.1 y42.2.2.2.2.2]) () [14, 13, 12, 11, 10, 9, 7, 6, 4, 3] [0, 0, 0, 6, 6, 6, 6, 6, 6, 0, 0, 0, 0, 0] 3 (fun s70 y71 t72 h78 hd79 => ?_))
   refine qs (qs ?_)
   obtain ⟨p111, hE112, h113⟩ := bS h78
   refine JC_cut (τ := Unit) (fun _ => [(3, .p 0 0), (4, .p 1 0), (6, vi (Int.tmod x36 100)), (7, .p 2 0), (9, .v (.slice y46.1 t43.length y46.2)), (10, .v (.slice y65.1 t62.length y65.2)), (11, .v (.slice y69.1 t66.length y69.2)), (12, vi s70.2.2), (13, vi s70.2.1), (14, vi s70.1), (72, vb p111)]) (fun _ => [(38, (eCase t28.1 y31.1)), (76, (eRule t28.2 y31.2)), (38, (eCase t39.1 y42))]) (fun _ => [SlRes 85 t43 y46.1 y46.2, SlRes 3 t62 y65.1 y65.2, SlRes 3 t66 y69.1 y69.2, SlRes 76 t28.1.Book.Rules y31.1.1.1 y31.1.1.2, SlRes 47 t28.1.Store.Facts y31.1.2.1.1 y31.1.2.1.2, SlRes 52 t28.1.Series.Points y31.1.2.2.1.1 y31.1.2.2.1.2, SlRes 156 t28.1.Member.Spells y31.1.2.2.2.1.1 y31.1.2.2.2.1.2, SlRes 158 t28.1.Member.Events y31.1.2.2.2.2.1 y31.1.2.2.2.2.2, SlRes 154 t28.2.Nodes y31.2.1 y31.2.2, SlRes 76 t39.1.Book.Rules y42.1.1 y42.1.2, SlRes 47 t39.1.Store.Facts y42.2.1.1 y42.2.1.2, SlRes 52 t39.1.Series.Points y42.2.2.1.1 y42.2.2.1.2, SlRes 156 t39.1.Member.Spells y42.2.2.2.1.1 y42.2.2.2.1.2, SlRes 158 t39.1.Member.Events y42.2.2.2.2.1 y42.2.2.2.2.2]) ?_ (fun _ => ?_)
   · refine qr (oN 5 [(67, vb (decide (s70.1 < (t62.length : Int))))] [14, 13, 12, 11, 10, 9, 7, 6, 4, 3] ?_)
     refine oS 67 hE112 (fun h115 => ?_) (fun h116 => ?_)
     · refine oN 5 [(72, vb (decide (s70.1 < (t66.length : Int))))] [14, 13, 12, 11, 10, 9, 7, 6, 4, 3] ?_
       refine oe ?_
       obtain rfl := sI h115
       exact mt () [3, 4, 6, 7, 9, 10, 11, 12, 13, 14, 72] [2, 1, 0, 0, 0, 0, 0, 0, 0, 0, 0, 0, 0, 0] 3
     refine oN 5 [(72, vb false)] [14, 13, 12, 11, 10, 9, 7, 6, 4, 3] ?_
     refine oe ?_
     obtain rfl := sI h116
     exact mt () [3, 4, 6, 7, 9, 10, 11, 12, 13, 14, 72] [2, 1, 0, 0, 0, 0, 0, 0, 0, 0, 0, 0, 0, 0] 3
   refine nt (cC h113 (fun h118 => ?_) (fun h119 => ?_))
   · refine qk (nt (qs (qb (qs (JC_quiet (by kernel_rfl) (by kernel_rfl) ?_)))))
     refine qN 3 [(77, vi s70.1), (76, .v (.slice y69.1 t66.length y69.2)), (75, vi s70.2.1)] [3, 4, 6, 7, 9, 10, 11, 12, 14] ?_
     obtain ⟨x120, hx121, h122⟩ := bS h118
     refine qi 1 (fun γ w hs => (hs.view 2 rfl)) hx121 ?_
     refine ql 3 0 (.int .i64 x120) (fun γ w hs => (hs.view 2 rfl).flatq hx121) ?_
     refine qN 3 [(82, vi s70.1), (81, .v (.slice y65.1 t62.length y65.2)), (80, vi (w64 (s70.2.1 + x120)))] [3, 4, 6, 7, 9, 10, 11, 12, 14] ?_
     obtain ⟨x123, hx124, h125⟩ := bS h122
     refine qi 1 (fun γ w hs => (hs.view 1 rfl)) hx124 ?_
     refine ql 3 0 (.int .i64 x123) (fun γ w hs => (hs.view 1 rfl).flatq hx124) ?_
     refine qN 2 [(13, vi (w64 ((w64 (s70.2.1 + x120)) - x123)))] [3, 4, 6, 7, 9, 10, 11, 12, 14] ?_
     refine qz (nt (qs (qs (JC_quiet (by kernel_rfl) (by kernel_rfl) ?_))))
     refine qN 2 [(87, vi s70.1), (86, .v (.slice y65.1 t62.length y65.2))] [13, 3, 4, 6, 7, 9, 10, 11, 12, 14] ?_
     obtain ⟨x126, hx127, h128⟩ := bS h125
     refine qi 1 (fun γ w hs => (hs.view 1 rfl)) hx127 ?_
     refine ql 3 0 (.int .i64 x126) (fun γ w hs => (hs.view 1 rfl).flatq hx127) ?_
     refine qN 2 [(91, vi s70.1), (90, .v (.slice y69.1 t66.length y69.2))] [89, 13, 3, 4, 6, 7, 9, 10, 11, 12, 14] ?_
     obtain ⟨x129, hx130, h131⟩ := bS h128
     refine qi 1 (fun γ w hs => (hs.view 2 rfl)) hx130 ?_
     refine ql 3 0 (.int .i64 x129) (fun γ w hs => (hs.view 2 rfl).flatq hx130) ?_
     refine qN 1 [(94, vb (x126 == x129))] [13, 3, 4, 6, 7, 9, 10, 11, 12, 14] ?_
     refine qz (nt (cC h131 (fun h133 => ?_) (fun h134 => ?_)))
     · refine qx (nx (bh (nt (qr (oN 3 [(14, vi (w64 (s70.1 + 1)))] [13, 3, 4, 6, 7, 9, 10, 11, 12] ?_)))))
       exact oe (ct h133 () [14, 13, 12, 11, 10, 9, 7, 6, 4, 3] [2, 1, 0, 0, 0, 0, 0, 0, 0, 0, 0, 0, 0, 0] 3)
     refine qk (nt (qs (qs ?_)))
     obtain ⟨p135, hE136, h137⟩ := bS h134
     refine JC_cut (τ := Unit) (fun _ => [(3, .p 0 0), (4, .p 1 0), (6, vi (Int.tmod x36 100)), (7, .p 2 0), (9, .v (.slice y46.1 t43.length y46.2)), (10, .v (.slice y65.1 t62.length y65.2)), (11, .v (.slice y69.1 t66.length y69.2)), (12, vi s70.2.2), (13, vi (w64 ((w64 (s70.2.1 + x120)) - x123))), (14, vi s70.1), (132, vb p135)]) (fun _ => [(38, (eCase t28.1 y31.1)), (76, (eRule t28.2 y31.2)), (38, (eCase t39.1 y42))]) (fun _ => [SlRes 85 t43 y46.1 y46.2, SlRes 3 t62 y65.1 y65.2, SlRes 3 t66 y69.1 y69.2, SlRes 76 t28.1.Book.Rules y31.1.1.1 y31.1.1.2, SlRes 47 t28.1.Store.Facts y31.1.2.1.1 y31.1.2.1.2, SlRes 52 t28.1.Series.Points y31.1.2.2.1.1 y31.1.2.2.1.2, SlRes 156 t28.1.Member.Spells y31.1.2.2.2.1.1 y31.1.2.2.2.1.2, SlRes 158 t28.1.Member.Events y31.1.2.2.2.2.1 y31.1.2.2.2.2.2, SlRes 154 t28.2.Nodes y31.2.1 y31.2.2, SlRes 76 t39.1.Book.Rules y42.1.1 y42.1.2, SlRes 47 t39.1.Store.Facts y42.2.1.1 y42.2.1.2, SlRes 52 t39.1.Series.Points y42.2.2.1.1 y42.2.2.1.2, SlRes 156 t39.1.Member.Spells y42.2.2.2.1.1 y42.2.2.2.1.2, SlRes 158 t39.1.Member.Events y42.2.2.2.2.1 y42.2.2.2.2.2]) ?_ (fun _ => ?_)
     · refine JC_quiet (by kernel_rfl) (by kernel_rfl) ?_
       refine qN 5 [(99, vb (decide (s70.2.2 ≥ (t43.length : Int))))] [13, 3, 4, 6, 7, 9, 10, 11, 12, 14] ?_
       refine qS 99 hE136 (fun h139 => ?_) (fun h140 => ?_)
       · refine qN 33 [(132, vb true)] [13, 3, 4, 6, 7, 9, 10, 11, 12, 14] ?_
         refine qz ?_
         obtain rfl := sI h139
         exact mt () [3, 4, 6, 7, 9, 10, 11, 12, 13, 14, 132] [0, 0, 0, 0, 0, 0, 0, 0, 0, 0, 0, 0, 0, 0] 3
       refine qN 2 [(101, vi s70.2.2), (100, .v (.slice y46.1 t43.length y46.2))] [99, 13, 3, 4, 6, 7, 9, 10, 11, 12, 14] ?_
       obtain ⟨x141, hx142, h143⟩ := bS h140
       refine qi 3 (fun γ w hs => (hs.view 0 rfl)) hx142 ?_
       refine qN 1 [(103, .q y46.1 (Int.toNat s70.2.2 * 3))] [99, 13, 3, 4, 6, 7, 9, 10, 11, 12, 14] ?_
       refine ql 3 0 (.int .i64 x141.Month) (fun γ w hs => (hs.view 0 rfl).flatq hx142) ?_
       refine qN 5 [(109, vb (x141.Month != (w64 (20 + s70.1))))] [13, 3, 4, 6, 7, 9, 10, 11, 12, 14] ?_
       refine qS 109 h143 (fun h145 => ?_) (fun h146 => ?_)
       · refine qN 23 [(132, vb true)] [13, 3, 4, 6, 7, 9, 10, 11, 12, 14] ?_
         refine qz ?_
         obtain rfl := sI h145
         exact mt () [3, 4, 6, 7, 9, 10, 11, 12, 13, 14, 132] [0, 0, 0, 0, 0, 0, 0, 0, 0, 0, 0, 0, 0, 0] 3
       refine qN 2 [(111, vi s70.2.2), (110, .v (.slice y46.1 t43.length y46.2))] [109, 13, 3, 4, 6, 7, 9, 10, 11, 12, 14] ?_
       obtain ⟨x147, hx148, h149⟩ := bS h146
       refine qi 3 (fun γ w hs => (hs.view 0 rfl)) hx148 ?_
       refine qN 1 [(113, .q y46.1 (Int.toNat s70.2.2 * 3 + 1))] [109, 13, 3, 4, 6, 7, 9, 10, 11, 12, 14] ?_
       refine ql 3 1 (.int .i64 x147.Old) (fun γ w hs => (hs.view 0 rfl).flatq hx148) ?_
       refine qN 2 [(116, vi s70.1), (115, .v (.slice y65.1 t62.length y65.2))] [114, 109, 13, 3, 4, 6, 7, 9, 10, 11, 12, 14] ?_
       obtain ⟨x150, hx151, h152⟩ := bS h149
       refine qi 1 (fun γ w hs => (hs.view 1 rfl)) hx151 ?_
       refine ql 3 0 (.int .i64 x150) (fun γ w hs => (hs.view 1 rfl).flatq hx151) ?_
       refine qN 3 [(121, vb (x147.Old != x150))] [13, 3, 4, 6, 7, 9, 10, 11, 12, 14] ?_
       refine qS 121 h152 (fun h154 => ?_) (fun h155 => ?_)
       · refine qN 11 [(132, vb true)] [13, 3, 4, 6, 7, 9, 10, 11, 12, 14] ?_
         refine qz ?_
         obtain rfl := sI h154
         exact mt () [3, 4, 6, 7, 9, 10, 11, 12, 13, 14, 132] [0, 0, 0, 0, 0, 0, 0, 0, 0, 0, 0, 0, 0, 0] 3
       refine qN 2 [(123, vi s70.2.2), (122, .v (.slice y46.1 t43.length y46.2))] [121, 13, 3, 4, 6, 7, 9, 10, 11, 12, 14] ?_
       obtain ⟨x156, hx157, h158⟩ := bS h155
       refine qi 3 (fun γ w hs => (hs.view 0 rfl)) hx157 ?_
       refine qN 1 [(125, .q y46.1 (Int.toNat s70.2.2 * 3 + 2))] [121, 13, 3, 4, 6, 7, 9, 10, 11, 12, 14] ?_
       refine ql 3 2 (.int .i64 x156.New) (fun γ w hs => (hs.view 0 rfl).flatq hx157) ?_
       refine qN 2 [(128, vi s70.1), (127, .v (.slice y69.1 t66.length y69.2))] [126, 121, 13, 3, 4, 6, 7, 9, 10, 11, 12, 14] ?_
       obtain ⟨x159, hx160, h161⟩ := bS h158
       refine qi 1 (fun γ w hs => (hs.view 2 rfl)) hx160 ?_
       refine ql 3 0 (.int .i64 x159) (fun γ w hs => (hs.view 2 rfl).flatq hx160) ?_
       refine qN 2 [(132, vb (x156.New != x159))] [13, 3, 4, 6, 7, 9, 10, 11, 12, 14] ?_
       refine qz ?_
       obtain rfl := sI h161
       exact mt () [3, 4, 6, 7, 9, 10, 11, 12, 13, 14, 132] [0, 0, 0, 0, 0, 0, 0, 0, 0, 0, 0, 0, 0, 0] 3
     refine nt (cC h137 (fun h163 => ?_) (fun h164 => ?_))
     · refine qs (qr (oN 1 [(2, vb false)] [] ?_))
       refine oe (nt (qe (nr (br (nr (nr ?_))))))
       have h165 := leafR hd79 h163 h75
       refine br (nr (nr ?_))
       obtain rfl := sI h165
       exact re [.bool false]
     refine qk (nt (qr (oN 3 [(12, vi (w64 (s70.2.2 + 1)))] [3, 4, 6, 7, 9, 10, 11, 13, 14] ?_)))
     refine oe (bn (nt (qr (oN 3 [(14, vi (w64 (s70.1 + 1)))] [12, 3, 4, 6, 7, 9, 10, 11, 13] ?_))))
     exact oe (ct h164 () [14, 13, 12, 11, 10, 9, 7, 6, 4, 3] [2, 1, 0, 0, 0, 0, 0, 0, 0, 0, 0, 0, 0, 0] 3)
   refine qx (nx (nx (bh ?_)))
   have h166 := leafB hd79 h119 h75
   exact mp ((s70.2.1, s70.2.2), ()) h166 [13, 12, 11, 9, 7, 6, 4, 3] [2, 0, 1, 1, 1, 1, 1, 1, 1, 1, 1, 1, 1] 3
 have h82 := (congrFun hk77 _).symm.trans h82p
 refine nt (qs (qr (oN 2 [(137, .v (vCase t28.1 y31.1)), (136, .v (vCase t28.1 y31.1))] [13, 12, 11, 9, 7, 6, 4, 3] ?_)))
 refine ob [] [SlRes 3 t66 y69.1 y69.2, SlRes 85 t43 y46.1 y46.2, SlRes 76 t28.1.Book.Rules y31.1.1.1 y31.1.1.2, SlRes 47 t28.1.Store.Facts y31.1.2.1.1 y31.1.2.1.2, SlRes 52 t28.1.Series.Points y31.1.2.2.1.1 y31.1.2.2.1.2, SlRes 156 t28.1.Member.Spells y31.1.2.2.2.1.1 y31.1.2.2.2.1.2, SlRes 158 t28.1.Member.Events y31.1.2.2.2.2.1 y31.1.2.2.2.2.2, SlRes 154 t28.2.Nodes y31.2.1 y31.2.2, SlRes 76 t39.1.Book.Rules y42.1.1 y42.1.2, SlRes 47 t39.1.Store.Facts y42.2.1.1 y42.2.1.2, SlRes 52 t39.1.Series.Points y42.2.2.1.1 y42.2.2.1.2, SlRes 156 t39.1.Member.Spells y42.2.2.2.1.1 y42.2.2.2.1.2, SlRes 158 t39.1.Member.Events y42.2.2.2.2.1 y42.2.2.2.2.2] 38 2 [.slice y31.1.1.1 t28.1.Book.Rules.length y31.1.1.2, .slice y31.1.2.1.1 t28.1.Store.Facts.length y31.1.2.1.2, .slice y31.1.2.2.1.1 t28.1.Series.Points.length y31.1.2.2.1.2, .int .i64 t28.1.Member.Birth, .int .i64 t28.1.Member.Joined, .slice y31.1.2.2.2.1.1 t28.1.Member.Spells.length y31.1.2.2.2.1.2, .slice y31.1.2.2.2.2.1 t28.1.Member.Events.length y31.1.2.2.2.2.2, .slice y31.1.1.1 t28.1.Book.Rules.length y31.1.1.2, .slice y31.1.2.1.1 t28.1.Store.Facts.length y31.1.2.1.2, .slice y31.1.2.2.1.1 t28.1.Series.Points.length y31.1.2.2.1.2, .int .i64 t28.1.Member.Birth, .int .i64 t28.1.Member.Joined, .slice y31.1.2.2.2.1.1 t28.1.Member.Spells.length y31.1.2.2.2.1.2, .slice y31.1.2.2.2.2.1 t28.1.Member.Events.length y31.1.2.2.2.2.2] ([raw 6 [.slice y31.1.1.1 t28.1.Book.Rules.length y31.1.1.2, .slice y31.1.2.1.1 t28.1.Store.Facts.length y31.1.2.1.2, .slice y31.1.2.2.1.1 t28.1.Series.Points.length y31.1.2.2.1.2, .int .i64 t28.1.Member.Birth, .int .i64 t28.1.Member.Joined, .slice y31.1.2.2.2.1.1 t28.1.Member.Spells.length y31.1.2.2.2.1.2, .slice y31.1.2.2.2.2.1 t28.1.Member.Events.length y31.1.2.2.2.2.2] rfl rfl, raw 6 [.slice y31.1.1.1 t28.1.Book.Rules.length y31.1.1.2, .slice y31.1.2.1.1 t28.1.Store.Facts.length y31.1.2.1.2, .slice y31.1.2.2.1.1 t28.1.Series.Points.length y31.1.2.2.1.2, .int .i64 t28.1.Member.Birth, .int .i64 t28.1.Member.Joined, .slice y31.1.2.2.2.1.1 t28.1.Member.Spells.length y31.1.2.2.2.1.2, .slice y31.1.2.2.2.2.1 t28.1.Member.Events.length y31.1.2.2.2.2.2] rfl rfl] : List (Raw 6)) (own_flat (by kernel_rfl)) (fun y83 => ?_)
 refine oN 2 [(140, vi (Int.tmod x36 100)), (139, .v (vRule t28.2 y31.2))] [138, 13, 12, 11, 9, 7, 6, 4, 3] ?_
 obtain ⟨t84, h85, h86⟩ := bS h82
 refine k0 (fun γ w hs => c_impl_CountWinners h85 (SlView.cook (l := ([t28.1, t28.1] : List Case)) (hs.view 0 rfl) (cook_cons ⟨y31.1.1.1, y31.1.1.2, y31.1.2.1.1, y31.1.2.1.2, y31.1.2.2.1.1, y31.1.2.2.1.2, y31.1.2.2.2.1.1, y31.1.2.2.2.1.2, y31.1.2.2.2.2.1, y31.1.2.2.2.2.2, rfl, (hs.view 3 rfl), (hs.view 4 rfl), (hs.view 5 rfl), (hs.view 6 rfl), (hs.view 7 rfl)⟩ (cook_cons ⟨y31.1.1.1, y31.1.1.2, y31.1.2.1.1, y31.1.2.1.2, y31.1.2.2.1.1, y31.1.2.2.1.2, y31.1.2.2.2.1.1, y31.1.2.2.2.1.2, y31.1.2.2.2.2.1, y31.1.2.2.2.2.2, rfl, (hs.view 3 rfl), (hs.view 4 rfl), (hs.view 5 rfl), (hs.view 6 rfl), (hs.view 7 rfl)⟩ cook_nil))) (hs.view 8 rfl)) ?_
 refine oN 5 [(16, vi t84.2), (15, vi t84.1)] [13, 12, 11, 9, 7, 6, 4, 3] ?_
 refine oe (nt (qs (qr (oN 2 [(145, .v (vCase t28.1 y31.1)), (144, .v (vCase t28.1 y31.1))] [16, 15, 13, 12, 11, 9, 7, 6, 4, 3] ?_))))
 refine ob [] [SlRes 38 ([raw 6 [.slice y31.1.1.1 t28.1.Book.Rules.length y31.1.1.2, .slice y31.1.2.1.1 t28.1.Store.Facts.length y31.1.2.1.2, .slice y31.1.2.2.1.1 t28.1.Series.Points.length y31.1.2.2.1.2, .int .i64 t28.1.Member.Birth, .int .i64 t28.1.Member.Joined, .slice y31.1.2.2.2.1.1 t28.1.Member.Spells.length y31.1.2.2.2.1.2, .slice y31.1.2.2.2.2.1 t28.1.Member.Events.length y31.1.2.2.2.2.2] rfl rfl, raw 6 [.slice y31.1.1.1 t28.1.Book.Rules.length y31.1.1.2, .slice y31.1.2.1.1 t28.1.Store.Facts.length y31.1.2.1.2, .slice y31.1.2.2.1.1 t28.1.Series.Points.length y31.1.2.2.1.2, .int .i64 t28.1.Member.Birth, .int .i64 t28.1.Member.Joined, .slice y31.1.2.2.2.1.1 t28.1.Member.Spells.length y31.1.2.2.2.1.2, .slice y31.1.2.2.2.2.1 t28.1.Member.Events.length y31.1.2.2.2.2.2] rfl rfl] : List (Raw 6)) y83.1 y83.2, SlRes 3 t66 y69.1 y69.2, SlRes 85 t43 y46.1 y46.2, SlRes 76 t28.1.Book.Rules y31.1.1.1 y31.1.1.2, SlRes 47 t28.1.Store.Facts y31.1.2.1.1 y31.1.2.1.2, SlRes 52 t28.1.Series.Points y31.1.2.2.1.1 y31.1.2.2.1.2, SlRes 156 t28.1.Member.Spells y31.1.2.2.2.1.1 y31.1.2.2.2.1.2, SlRes 158 t28.1.Member.Events y31.1.2.2.2.2.1 y31.1.2.2.2.2.2, SlRes 154 t28.2.Nodes y31.2.1 y31.2.2, SlRes 76 t39.1.Book.Rules y42.1.1 y42.1.2, SlRes 47 t39.1.Store.Facts y42.2.1.1 y42.2.1.2, SlRes 52 t39.1.Series.Points y42.2.2.1.1 y42.2.2.1.2, SlRes 156 t39.1.Member.Spells y42.2.2.2.1.1 y42.2.2.2.1.2, SlRes 158 t39.1.Member.Events y42.2.2.2.2.1 y42.2.2.2.2.2] 38 2 [.slice y31.1.1.1 t28.1.Book.Rules.length y31.1.1.2, .slice y31.1.2.1.1 t28.1.Store.Facts.length y31.1.2.1.2, .slice y31.1.2.2.1.1 t28.1.Series.Points.length y31.1.2.2.1.2, .int .i64 t28.1.Member.Birth, .int .i64 t28.1.Member.Joined, .slice y31.1.2.2.2.1.1 t28.1.Member.Spells.length y31.1.2.2.2.1.2, .slice y31.1.2.2.2.2.1 t28.1.Member.Events.length y31.1.2.2.2.2.2, .slice y31.1.1.1 t28.1.Book.Rules.length y31.1.1.2, .slice y31.1.2.1.1 t28.1.Store.Facts.length y31.1.2.1.2, .slice y31.1.2.2.1.1 t28.1.Series.Points.length y31.1.2.2.1.2, .int .i64 t28.1.Member.Birth, .int .i64 t28.1.Member.Joined, .slice y31.1.2.2.2.1.1 t28.1.Member.Spells.length y31.1.2.2.2.1.2, .slice y31.1.2.2.2.2.1 t28.1.Member.Events.length y31.1.2.2.2.2.2] ([raw 6 [.slice y31.1.1.1 t28.1.Book.Rules.length y31.1.1.2, .slice y31.1.2.1.1 t28.1.Store.Facts.length y31.1.2.1.2, .slice y31.1.2.2.1.1 t28.1.Series.Points.length y31.1.2.2.1.2, .int .i64 t28.1.Member.Birth, .int .i64 t28.1.Member.Joined, .slice y31.1.2.2.2.1.1 t28.1.Member.Spells.length y31.1.2.2.2.1.2, .slice y31.1.2.2.2.2.1 t28.1.Member.Events.length y31.1.2.2.2.2.2] rfl rfl, raw 6 [.slice y31.1.1.1 t28.1.Book.Rules.length y31.1.1.2, .slice y31.1.2.1.1 t28.1.Store.Facts.length y31.1.2.1.2, .slice y31.1.2.2.1.1 t28.1.Series.Points.length y31.1.2.2.1.2, .int .i64 t28.1.Member.Birth, .int .i64 t28.1.Member.Joined, .slice y31.1.2.2.2.1.1 t28.1.Member.Spells.length y31.1.2.2.2.1.2, .slice y31.1.2.2.2.2.1 t28.1.Member.Events.length y31.1.2.2.2.2.2] rfl rfl] : List (Raw 6)) (own_flat (by kernel_rfl)) (fun y88 => ?_)
 refine oN 2 [(148, vi (Int.tmod x36 100)), (147, .v (vRule t28.2 y31.2))] [146, 16, 15, 13, 12, 11, 9, 7, 3] ?_
 obtain ⟨t89, h90, h91⟩ := bS h86
 refine k0 (fun γ w hs => c_impl_CostOf h90 (SlView.cook (l := ([t28.1, t28.1] : List Case)) (hs.view 0 rfl) (cook_cons ⟨y31.1.1.1, y31.1.1.2, y31.1.2.1.1, y31.1.2.1.2, y31.1.2.2.1.1, y31.1.2.2.1.2, y31.1.2.2.2.1.1, y31.1.2.2.2.1.2, y31.1.2.2.2.2.1, y31.1.2.2.2.2.2, rfl, (hs.view 4 rfl), (hs.view 5 rfl), (hs.view 6 rfl), (hs.view 7 rfl), (hs.view 8 rfl)⟩ (cook_cons ⟨y31.1.1.1, y31.1.1.2, y31.1.2.1.1, y31.1.2.1.2, y31.1.2.2.1.1, y31.1.2.2.1.2, y31.1.2.2.2.1.1, y31.1.2.2.2.1.2, y31.1.2.2.2.2.1, y31.1.2.2.2.2.2, rfl, (hs.view 4 rfl), (hs.view 5 rfl), (hs.view 6 rfl), (hs.view 7 rfl), (hs.view 8 rfl)⟩ cook_nil))) (hs.view 9 rfl)) ?_
 refine oN 1 [(17, vi t89)] [16, 15, 13, 12, 11, 9, 7, 3] ?_
 refine oe (nt (qs ?_))
 obtain ⟨p93, hE94, h95⟩ := bS h91
 refine JC_cut (τ := Unit) (fun _ => [(2, vb p93)]) (fun _ => [(38, (eCase t28.1 y31.1)), (76, (eRule t28.2 y31.2)), (38, (eCase t39.1 y42))]) (fun _ => [SlRes 76 t28.1.Book.Rules y31.1.1.1 y31.1.1.2, SlRes 47 t28.1.Store.Facts y31.1.2.1.1 y31.1.2.1.2, SlRes 52 t28.1.Series.Points y31.1.2.2.1.1 y31.1.2.2.1.2, SlRes 156 t28.1.Member.Spells y31.1.2.2.2.1.1 y31.1.2.2.2.1.2, SlRes 158 t28.1.Member.Events y31.1.2.2.2.2.1 y31.1.2.2.2.2.2, SlRes 154 t28.2.Nodes y31.2.1 y31.2.2, SlRes 76 t39.1.Book.Rules y42.1.1 y42.1.2, SlRes 47 t39.1.Store.Facts y42.2.1.1 y42.2.1.2, SlRes 52 t39.1.Series.Points y42.2.2.1.1 y42.2.2.1.2, SlRes 156 t39.1.Member.Spells y42.2.2.2.1.1 y42.2.2.2.1.2, SlRes 158 t39.1.Member.Events y42.2.2.2.2.1 y42.2.2.2.2.2]) ?_ (fun _ => ?_)
 · refine qr (oN 4 [(153, vb ((t66.length : Int) == 50))] [17, 16, 15, 13, 12, 9, 7, 3] ?_)
   refine oS 153 hE94 (fun h97 => ?_) (fun h98 => ?_)
   · refine oN 6 [(159, vb (y81.1.2 == (t43.length : Int)))] [17, 16, 15, 13, 7, 3] ?_
     refine oS 159 h97 (fun h100 => ?_) (fun h101 => ?_)
     · refine oN 6 [(165, vb (t89 == (w64 (2 * y81.1.1))))] [16, 15, 13, 7, 3] ?_
       refine oS 165 h100 (fun h103 => ?_) (fun h104 => ?_)
       · refine oN 7 [(172, vb ((t84.1 == 2) == (decide (y81.1.1 > 0))))] [16, 13, 7, 3] ?_
         refine oS 172 h103 (fun h106 => ?_) (fun h107 => ?_)
         · refine oN 7 [(179, vb ((t84.2 == 2) == (decide (y81.1.1 < 0))))] [7, 3] ?_
           refine oS 179 h106 (fun h109 => ?_) (fun h110 => ?_)
           · refine oN 12 [(2, vb ((t39.1.Book.Rules.length : Int) == (w64 ((t28.1.Book.Rules.length : Int) + 1))))] [] ?_
             refine oe ?_
             obtain rfl := sI h109
             exact mt () [2] [4, 4, 4, 4, 4, 4, 4, 4, 4, 4, 4] 3
           refine oN 12 [(2, vb false)] [] ?_
           refine oe ?_
           obtain rfl := sI h110
           exact mt () [2] [4, 4, 4, 4, 4, 4, 4, 4, 4, 4, 4] 3
         refine oN 19 [(2, vb false)] [] ?_
         refine oe ?_
         obtain rfl := sI h107
         exact mt () [2] [4, 4, 4, 4, 4, 4, 4, 4, 4, 4, 4] 3
       refine oN 26 [(2, vb false)] [] ?_
       refine oe ?_
       obtain rfl := sI h104
       exact mt () [2] [4, 4, 4, 4, 4, 4, 4, 4, 4, 4, 4] 3
     refine oN 32 [(2, vb false)] [] ?_
     refine oe ?_
     obtain rfl := sI h101
     exact mt () [2] [4, 4, 4, 4, 4, 4, 4, 4, 4, 4, 4] 3
   refine oN 38 [(2, vb false)] [] ?_
   refine oe ?_
   obtain rfl := sI h98
   exact mt () [2] [4, 4, 4, 4, 4, 4, 4, 4, 4, 4, 4] 3
 refine nt (qe ?_)
 obtain rfl := sI h95
 exact re [.bool p93]
end Go.Pen
