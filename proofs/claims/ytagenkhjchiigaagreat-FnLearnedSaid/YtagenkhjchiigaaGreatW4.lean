/-
  Each Go function does what its plain function says: written by a program of ours.
-/
import Derived.Test.YtagenkhjchiigaaGreatW3
import Derived.Test.YtagenkhjchiigaaGreatProg
import Derived.Test.YtagenkhjchiigaaGreatPenK
import Derived.Test.YtagenkhjchiigaaGreatPenJ
import Derived.Test.YtagenkhjchiigaaGreatPenP
namespace Go.Pen
open Go.Proofs Go.RowKit
set_option linter.unusedVariables false
set_option linter.unusedSimpArgs false
set_option maxRecDepth 100000
set_option maxHeartbeats 4000000

theorem c_laws_FnLearned {W : World} {x0 : List U8} {a0_0 : Option Addr} {c0_0 : Nat} {r : Bool} (h : laws_FnLearned x0 = some r) (hv0_0 : SlView W x0 a0_0 c0_0) :
    Gives0 Tryz.prog 3 #[.slice a0_0 x0.length c0_0] W (.bool r) := by
 unfold laws_FnLearned at h
 refine en Tryz.func3 Tryz.ntmps3 ?_
 refine qs (qr (oN 1 [] [0] ?_))
 refine oe (nt (qs (qs (qr (oN 1 [(16, .v (.slice a0_0 x0.length c0_0))] [0] ?_)))))
 obtain ⟨t21, h22, h23⟩ := bS h
 refine k0 (fun γ w hs => c_laws_big h22 (hv0_0.kept hs.kept)) ?_
 refine oe (nt (cC h23 (fun h26 => ?_) (fun h27 => ?_)))
 · refine qs (qr (oN 1 [(2, vb true)] [] ?_))
   refine oe (nt (qe (nr ?_)))
   obtain rfl := sI h26
   exact re [.bool true]
 refine qk (nt (qs (qr (oN 1 [(18, .v (.slice a0_0 x0.length c0_0))] [0] ?_))))
 obtain ⟨t28, h29, h30⟩ := bS h27
 refine k1 (fun γ w hs => c_spec_DrawOffice h29 (hv0_0.kept hs.kept)) (fun y31 => ?_)
 refine oB 2 [(3, .p 0 0)] [0] [(41, (eOffice t28 y31))] ?_
 refine oe (nt (qs (qr (oN 1 [(20, .v (.slice a0_0 x0.length c0_0))] [3] ?_))))
 obtain ⟨t32, h33, h34⟩ := bS h30
 refine k1 (fun γ w hs => c_spec_DrawPlaces h33 (hv0_0.kept hs.kept)) (fun y35 => ?_)
 refine oN 1 [(4, .v (.slice y35.1 t32.length y35.2))] [3] ?_
 refine oe (nt (qs (qr (oN 7 [(5, vi (w64 (t28.Start + (t28.Paid.length : Int))))] [4, 3] ?_))))
 refine oe (nt (qs ?_))
 obtain ⟨x36, hx37, h38⟩ := bS h34
 obtain ⟨t39, h40, h41⟩ := bS h38
 refine JC_cut (τ := (AC × AC × AC × AC × AC × AC)) (fun y43 => [(7, vb t39.2), (6, .p 1 0), (5, vi (w64 (t28.Start + (t28.Paid.length : Int)))), (4, .v (.slice y35.1 t32.length y35.2)), (3, .p 0 0)]) (fun y43 => [(41, (eOffice t28 y31)), (41, (eOffice t39.1 y43))]) (fun y43 => [SlRes 76 t39.1.Case.Book.Rules y43.1.1 y43.1.2, SlRes 47 t39.1.Case.Store.Facts y43.2.1.1 y43.2.1.2, SlRes 52 t39.1.Case.Series.Points y43.2.2.1.1 y43.2.2.1.2, SlRes 156 t39.1.Case.Member.Spells y43.2.2.2.1.1 y43.2.2.2.1.2, SlRes 158 t39.1.Case.Member.Events y43.2.2.2.2.1.1 y43.2.2.2.2.1.2, SlRes 3 t39.1.Paid y43.2.2.2.2.2.1 y43.2.2.2.2.2.2, SlRes 3 t32 y35.1 y35.2, SlRes 76 t28.Case.Book.Rules y31.1.1 y31.1.2, SlRes 47 t28.Case.Store.Facts y31.2.1.1 y31.2.1.2, SlRes 52 t28.Case.Series.Points y31.2.2.1.1 y31.2.2.1.2, SlRes 156 t28.Case.Member.Spells y31.2.2.2.1.1 y31.2.2.2.1.2, SlRes 158 t28.Case.Member.Events y31.2.2.2.2.1.1 y31.2.2.2.2.1.2, SlRes 3 t28.Paid y31.2.2.2.2.2.1 y31.2.2.2.2.2.2]) ?_ (fun y43 => ?_)
 · refine JC_weak [5, 4, 3] [0, 0, 0, 0, 0, 0, 0] 1 (sl' := [(5, vi (w64 (t28.Start + (t28.Paid.length : Int)))), (4, .v (.slice y35.1 t32.length y35.2)), (3, .p 0 0)]) (bx' := [(41, (eOffice t28 y31))]) (R' := [SlRes 3 t32 y35.1 y35.2, SlRes 76 t28.Case.Book.Rules y31.1.1 y31.1.2, SlRes 47 t28.Case.Store.Facts y31.2.1.1 y31.2.1.2, SlRes 52 t28.Case.Series.Points y31.2.2.1.1 y31.2.2.1.2, SlRes 156 t28.Case.Member.Spells y31.2.2.2.1.1 y31.2.2.2.1.2, SlRes 158 t28.Case.Member.Events y31.2.2.2.2.1.1 y31.2.2.2.2.1.2, SlRes 3 t28.Paid y31.2.2.2.2.2.1 y31.2.2.2.2.2.2]) (by kernel_rfl) (by kernel_rfl) (by kernel_rfl) (by kernel_rfl) ?_
   refine JC_heldN (ks := [0]) (Rk := [SlRes 3 t32 y35.1 y35.2, SlRes 76 t28.Case.Book.Rules y31.1.1 y31.1.2, SlRes 47 t28.Case.Store.Facts y31.2.1.1 y31.2.1.2, SlRes 52 t28.Case.Series.Points y31.2.2.1.1 y31.2.2.1.2, SlRes 156 t28.Case.Member.Spells y31.2.2.2.1.1 y31.2.2.2.1.2, SlRes 158 t28.Case.Member.Events y31.2.2.2.2.1.1 y31.2.2.2.2.1.2, SlRes 3 t28.Paid y31.2.2.2.2.2.1 y31.2.2.2.2.2.2]) 12 (by kernel_rfl) (by kernel_rfl) ?_
   refine htq 0 (.v (vOffice t28 y31)) [0, 0, 0, 0, 0, 0, 0] ?_
   refine htq 1 (.v (.slice y35.1 t32.length y35.2)) [0, 0, 0, 0, 0, 0, 0] ?_
   refine ht 2 (.q y35.1 (Int.toNat 0 * 1)) [0, 0, 0, 0, 0, 0, 0] (index_held (d := y35.1) (m := t32.length) (j := 0) (s := 1) (by kernel_rfl) (fun γ0 w hs => (hs.view 0 rfl)) rfl hx37) ?_
   refine hk [31, 29, 5, 4, 3] ?_
   refine ht 3 (vi x36) [0, 0, 0, 0, 0, 0, 0] (loadq_held (t := 3) (d := y35.1) (Int.toNat 0 * 1) 0 (by kernel_rfl) (cs := [.int .i64 x36]) (v := .int .i64 x36) (fun γ0 w hs => (hs.view 0 rfl).flatq hx37) (by kernel_rfl)) ?_
   refine hk [32, 29, 5, 4, 3] ?_
   refine htq 4 (.v (vFact (Fact.mk 7 3 9 0 x36))) [0, 0, 0, 0, 0, 0, 0] ?_
   refine hk [33, 29, 5, 4, 3] ?_
   refine ha2 5 9 ?_ ?_
   · refine hi (fun γ0 δ hm => ?_)
     refine g1 (fun w hs => c_impl_LearnFact (b0 := y31) h40 (hs.view 1 rfl) (hs.view 2 rfl) (hs.view 3 rfl) (hs.view 4 rfl) (hs.view 5 rfl) (hs.view 6 rfl)) (fun y42 => ?_)
     refine gn hm [34, 5, 4, 3] [6, 6, 6, 6, 6, 6, 6] ?_
     refine htq 6 (.v (.tuple #[vOffice t39.1 y42, .bool t39.2])) [6, 6, 6, 6, 6, 6, 6] ?_
     refine hk [28, 5, 4, 3] ?_
     refine htq 7 (.v (vOffice t39.1 y42)) [6, 6, 6, 6, 6, 6, 6] ?_
     refine htq 8 (vb t39.2) [6, 6, 6, 6, 6, 6, 6] ?_
     refine hk [36, 35, 5, 4, 3] ?_
     refine ha1 9 ?_
     refine hi (fun γ0 δ hm => ?_)
     refine gs [(6, .p 1 0), (36, vb t39.2), (35, .v (vOffice t39.1 y42)), (5, vi (w64 (t28.Start + (t28.Paid.length : Int)))), (4, .v (.slice y35.1 t32.length y35.2)), (3, .p 0 0)] [(41, (eOffice t28 y31)), (41, [.slice none 0 0, .slice none 0 0, .slice none 0 0, .int .i64 0, .int .i64 0, .slice none 0 0, .slice none 0 0, .int .i64 0, .slice none 0 0])] (fun δ2 => ?_)
     refine gd hm [6, 36, 35, 5, 4, 3] [6, 6, 6, 6, 6, 6, 6] ?_
     refine ha1 10 ?_
     refine hi (fun γ0 δ hm => ?_)
     refine gs [(6, .p 1 0), (36, vb t39.2), (35, .v (vOffice t39.1 y42)), (5, vi (w64 (t28.Start + (t28.Paid.length : Int)))), (4, .v (.slice y35.1 t32.length y35.2)), (3, .p 0 0)] [(41, (eOffice t28 y31)), (41, (eOffice t39.1 y42))] (fun δ2 => ?_)
     refine gd hm [6, 36, 5, 4, 3] [6, 6, 6, 6, 6, 6, 6] ?_
     refine htq 11 (vb t39.2) [6, 6, 6, 6, 6, 6, 6] ?_
     refine hk [7, 6, 5, 4, 3] ?_
     exact hd y42 [7, 6, 5, 4, 3] [0, 0, 0, 0, 0, 0, 0, 0, 0, 0, 0, 0, 0] 2
   · refine hi (fun γ0 δ hm => ?_)
     refine gs [(6, .p 1 0), (33, .v (vFact (Fact.mk 7 3 9 0 x36))), (29, .v (vOffice t28 y31)), (5, vi (w64 (t28.Start + (t28.Paid.length : Int)))), (4, .v (.slice y35.1 t32.length y35.2)), (3, .p 0 0)] [(41, (eOffice t28 y31)), (41, [.slice none 0 0, .slice none 0 0, .slice none 0 0, .int .i64 0, .int .i64 0, .slice none 0 0, .slice none 0 0, .int .i64 0, .slice none 0 0])] (fun δ2 => ?_)
     refine gd hm [6, 33, 29, 5, 4, 3] [0, 0, 0, 0, 0, 0, 0] ?_
     refine ha1 5 ?_
     refine hi (fun γ0 δ hm => ?_)
     refine g1 (fun w hs => c_impl_LearnFact (b0 := y31) h40 (hs.view 1 rfl) (hs.view 2 rfl) (hs.view 3 rfl) (hs.view 4 rfl) (hs.view 5 rfl) (hs.view 6 rfl)) (fun y42 => ?_)
     refine gn hm [34, 6, 5, 4, 3] [6, 6, 6, 6, 6, 6, 6] ?_
     refine htq 6 (.v (.tuple #[vOffice t39.1 y42, .bool t39.2])) [6, 6, 6, 6, 6, 6, 6] ?_
     refine hk [28, 6, 5, 4, 3] ?_
     refine htq 7 (.v (vOffice t39.1 y42)) [6, 6, 6, 6, 6, 6, 6] ?_
     refine htq 8 (vb t39.2) [6, 6, 6, 6, 6, 6, 6] ?_
     refine hk [36, 35, 6, 5, 4, 3] ?_
     refine ha1 10 ?_
     refine hi (fun γ0 δ hm => ?_)
     refine gs [(36, vb t39.2), (35, .v (vOffice t39.1 y42)), (6, .p 1 0), (5, vi (w64 (t28.Start + (t28.Paid.length : Int)))), (4, .v (.slice y35.1 t32.length y35.2)), (3, .p 0 0)] [(41, (eOffice t28 y31)), (41, (eOffice t39.1 y42))] (fun δ2 => ?_)
     refine gd hm [36, 6, 5, 4, 3] [6, 6, 6, 6, 6, 6, 6] ?_
     refine htq 11 (vb t39.2) [6, 6, 6, 6, 6, 6, 6] ?_
     refine hk [7, 6, 5, 4, 3] ?_
     exact hd y42 [7, 6, 5, 4, 3] [0, 0, 0, 0, 0, 0, 0, 0, 0, 0, 0, 0, 0] 2
 refine nt (qs (qr (oN 4 [(41, vi (w64 (t28.Start + (t28.Paid.length : Int)))), (40, .v (vStore t39.1.Case.Store y43.2.1))] [7, 6, 5, 4, 3] ?_)))
 obtain ⟨t44, h45, h46⟩ := bS h41
 refine k0 (fun γ w hs => c_spec_ValueAt h45 (hs.view 1 rfl)) ?_
 refine oN 5 [(9, vb t44.2), (8, vi t44.1)] [7, 6, 5, 4, 3] ?_
 refine oe (nt (qs (qr (oN 5 [(50, vi (w64 ((w64 (t28.Start + (t28.Paid.length : Int))) - 1))), (48, .v (vStore t39.1.Case.Store y43.2.1))] [9, 8, 7, 6, 5, 4, 3] ?_))))
 obtain ⟨t48, h49, h50⟩ := bS h46
 refine k0 (fun γ w hs => c_spec_ValueAt h49 (hs.view 1 rfl)) ?_
 refine oN 5 [(11, vb t48.2)] [9, 8, 7, 6, 5, 4, 3] ?_
 refine oe (nt (qs ?_))
 obtain ⟨x52, hx53, h54⟩ := bS h50
 obtain ⟨t55, h56, h57⟩ := bS h54
 refine JC_cut (τ := (AC × AC × AC × AC × AC × AC)) (fun y59 => [(13, vb t55.2), (12, .p 2 0), (11, vb t48.2), (9, vb t44.2), (8, vi t44.1), (7, vb t39.2), (6, .p 1 0), (5, vi (w64 (t28.Start + (t28.Paid.length : Int)))), (4, .v (.slice y35.1 t32.length y35.2))]) (fun y59 => [(41, (eOffice t28 y31)), (41, (eOffice t39.1 y43)), (41, (eOffice t55.1 y59))]) (fun y59 => [SlRes 76 t55.1.Case.Book.Rules y59.1.1 y59.1.2, SlRes 47 t55.1.Case.Store.Facts y59.2.1.1 y59.2.1.2, SlRes 52 t55.1.Case.Series.Points y59.2.2.1.1 y59.2.2.1.2, SlRes 156 t55.1.Case.Member.Spells y59.2.2.2.1.1 y59.2.2.2.1.2, SlRes 158 t55.1.Case.Member.Events y59.2.2.2.2.1.1 y59.2.2.2.2.1.2, SlRes 3 t55.1.Paid y59.2.2.2.2.2.1 y59.2.2.2.2.2.2, SlRes 76 t39.1.Case.Book.Rules y43.1.1 y43.1.2, SlRes 47 t39.1.Case.Store.Facts y43.2.1.1 y43.2.1.2, SlRes 52 t39.1.Case.Series.Points y43.2.2.1.1 y43.2.2.1.2, SlRes 156 t39.1.Case.Member.Spells y43.2.2.2.1.1 y43.2.2.2.1.2, SlRes 158 t39.1.Case.Member.Events y43.2.2.2.2.1.1 y43.2.2.2.2.1.2, SlRes 3 t39.1.Paid y43.2.2.2.2.2.1 y43.2.2.2.2.2.2, SlRes 3 t32 y35.1 y35.2, SlRes 76 t28.Case.Book.Rules y31.1.1 y31.1.2, SlRes 47 t28.Case.Store.Facts y31.2.1.1 y31.2.1.2, SlRes 52 t28.Case.Series.Points y31.2.2.1.1 y31.2.2.1.2, SlRes 156 t28.Case.Member.Spells y31.2.2.2.1.1 y31.2.2.2.1.2, SlRes 158 t28.Case.Member.Events y31.2.2.2.2.1.1 y31.2.2.2.2.1.2, SlRes 3 t28.Paid y31.2.2.2.2.2.1 y31.2.2.2.2.2.2]) ?_ (fun y59 => ?_)
 · refine JC_weak [11, 9, 8, 7, 6, 5, 4, 3] [0, 0, 0, 0, 0, 0, 0, 0, 0, 0, 0, 0, 0] 2 (sl' := [(11, vb t48.2), (9, vb t44.2), (8, vi t44.1), (7, vb t39.2), (6, .p 1 0), (5, vi (w64 (t28.Start + (t28.Paid.length : Int)))), (4, .v (.slice y35.1 t32.length y35.2)), (3, .p 0 0)]) (bx' := [(41, (eOffice t28 y31)), (41, (eOffice t39.1 y43))]) (R' := [SlRes 76 t39.1.Case.Book.Rules y43.1.1 y43.1.2, SlRes 47 t39.1.Case.Store.Facts y43.2.1.1 y43.2.1.2, SlRes 52 t39.1.Case.Series.Points y43.2.2.1.1 y43.2.2.1.2, SlRes 156 t39.1.Case.Member.Spells y43.2.2.2.1.1 y43.2.2.2.1.2, SlRes 158 t39.1.Case.Member.Events y43.2.2.2.2.1.1 y43.2.2.2.2.1.2, SlRes 3 t39.1.Paid y43.2.2.2.2.2.1 y43.2.2.2.2.2.2, SlRes 3 t32 y35.1 y35.2, SlRes 76 t28.Case.Book.Rules y31.1.1 y31.1.2, SlRes 47 t28.Case.Store.Facts y31.2.1.1 y31.2.1.2, SlRes 52 t28.Case.Series.Points y31.2.2.1.1 y31.2.2.1.2, SlRes 156 t28.Case.Member.Spells y31.2.2.2.1.1 y31.2.2.2.1.2, SlRes 158 t28.Case.Member.Events y31.2.2.2.2.1.1 y31.2.2.2.2.1.2, SlRes 3 t28.Paid y31.2.2.2.2.2.1 y31.2.2.2.2.2.2]) (by kernel_rfl) (by kernel_rfl) (by kernel_rfl) (by kernel_rfl) ?_
   refine JC_heldN (ks := [0, 1]) (Rk := [SlRes 76 t39.1.Case.Book.Rules y43.1.1 y43.1.2, SlRes 47 t39.1.Case.Store.Facts y43.2.1.1 y43.2.1.2, SlRes 52 t39.1.Case.Series.Points y43.2.2.1.1 y43.2.2.1.2, SlRes 156 t39.1.Case.Member.Spells y43.2.2.2.1.1 y43.2.2.2.1.2, SlRes 158 t39.1.Case.Member.Events y43.2.2.2.2.1.1 y43.2.2.2.2.1.2, SlRes 3 t39.1.Paid y43.2.2.2.2.2.1 y43.2.2.2.2.2.2, SlRes 3 t32 y35.1 y35.2, SlRes 76 t28.Case.Book.Rules y31.1.1 y31.1.2, SlRes 47 t28.Case.Store.Facts y31.2.1.1 y31.2.1.2, SlRes 52 t28.Case.Series.Points y31.2.2.1.1 y31.2.2.1.2, SlRes 156 t28.Case.Member.Spells y31.2.2.2.1.1 y31.2.2.2.1.2, SlRes 158 t28.Case.Member.Events y31.2.2.2.2.1.1 y31.2.2.2.2.1.2, SlRes 3 t28.Paid y31.2.2.2.2.2.1 y31.2.2.2.2.2.2]) 13 (by kernel_rfl) (by kernel_rfl) ?_
   refine htq 0 (.v (vOffice t28 y31)) [0, 0, 0, 0, 0, 0, 0, 0, 0, 0, 0, 0, 0] ?_
   refine hk [55, 11, 9, 8, 7, 6, 5, 4] ?_
   refine htq 1 (.v (.slice y35.1 t32.length y35.2)) [0, 0, 0, 0, 0, 0, 0, 0, 0, 0, 0, 0, 0] ?_
   refine ht 2 (.q y35.1 (Int.toNat 1 * 1)) [0, 0, 0, 0, 0, 0, 0, 0, 0, 0, 0, 0, 0] (index_held (d := y35.1) (m := t32.length) (j := 1) (s := 1) (by kernel_rfl) (fun γ0 w hs => (hs.view 6 rfl)) rfl hx53) ?_
   refine hk [57, 55, 11, 9, 8, 7, 6, 5, 4] ?_
   refine ht 3 (vi x52) [0, 0, 0, 0, 0, 0, 0, 0, 0, 0, 0, 0, 0] (loadq_held (t := 3) (d := y35.1) (Int.toNat 1 * 1) 0 (by kernel_rfl) (cs := [.int .i64 x52]) (v := .int .i64 x52) (fun γ0 w hs => (hs.view 6 rfl).flatq hx53) (by kernel_rfl)) ?_
   refine hk [58, 55, 11, 9, 8, 7, 6, 5, 4] ?_
   refine htq 4 (vi (w64 (5000 + x52))) [0, 0, 0, 0, 0, 0, 0, 0, 0, 0, 0, 0, 0] ?_
   refine hk [59, 55, 11, 9, 8, 7, 6, 5, 4] ?_
   refine htq 5 (.v (vPoint (Point.mk 2 0 (w64 (5000 + x52))))) [0, 0, 0, 0, 0, 0, 0, 0, 0, 0, 0, 0, 0] ?_
   refine hk [60, 55, 11, 9, 8, 7, 6, 5, 4] ?_
   refine ha2 6 10 ?_ ?_
   · refine hi (fun γ0 δ hm => ?_)
     refine g1 (fun w hs => c_impl_LearnPoint (b0 := y31) h56 (hs.view 7 rfl) (hs.view 8 rfl) (hs.view 9 rfl) (hs.view 10 rfl) (hs.view 11 rfl) (hs.view 12 rfl)) (fun y58 => ?_)
     refine gn hm [61, 11, 9, 8, 7, 6, 5, 4] [6, 6, 6, 6, 6, 6, 6, 6, 6, 6, 6, 6, 6] ?_
     refine htq 7 (.v (.tuple #[vOffice t55.1 y58, .bool t55.2])) [6, 6, 6, 6, 6, 6, 6, 6, 6, 6, 6, 6, 6] ?_
     refine hk [54, 11, 9, 8, 7, 6, 5, 4] ?_
     refine htq 8 (.v (vOffice t55.1 y58)) [6, 6, 6, 6, 6, 6, 6, 6, 6, 6, 6, 6, 6] ?_
     refine htq 9 (vb t55.2) [6, 6, 6, 6, 6, 6, 6, 6, 6, 6, 6, 6, 6] ?_
     refine hk [63, 62, 11, 9, 8, 7, 6, 5, 4] ?_
     refine ha1 10 ?_
     refine hi (fun γ0 δ hm => ?_)
     refine gs [(12, .p 2 0), (63, vb t55.2), (62, .v (vOffice t55.1 y58)), (11, vb t48.2), (9, vb t44.2), (8, vi t44.1), (7, vb t39.2), (6, .p 1 0), (5, vi (w64 (t28.Start + (t28.Paid.length : Int)))), (4, .v (.slice y35.1 t32.length y35.2))] [(41, (eOffice t28 y31)), (41, (eOffice t39.1 y43)), (41, [.slice none 0 0, .slice none 0 0, .slice none 0 0, .int .i64 0, .int .i64 0, .slice none 0 0, .slice none 0 0, .int .i64 0, .slice none 0 0])] (fun δ2 => ?_)
     refine gd hm [12, 63, 62, 11, 9, 8, 7, 6, 5, 4] [6, 6, 6, 6, 6, 6, 6, 6, 6, 6, 6, 6, 6] ?_
     refine ha1 11 ?_
     refine hi (fun γ0 δ hm => ?_)
     refine gs [(12, .p 2 0), (63, vb t55.2), (62, .v (vOffice t55.1 y58)), (11, vb t48.2), (9, vb t44.2), (8, vi t44.1), (7, vb t39.2), (6, .p 1 0), (5, vi (w64 (t28.Start + (t28.Paid.length : Int)))), (4, .v (.slice y35.1 t32.length y35.2))] [(41, (eOffice t28 y31)), (41, (eOffice t39.1 y43)), (41, (eOffice t55.1 y58))] (fun δ2 => ?_)
     refine gd hm [12, 63, 11, 9, 8, 7, 6, 5, 4] [6, 6, 6, 6, 6, 6, 6, 6, 6, 6, 6, 6, 6] ?_
     refine htq 12 (vb t55.2) [6, 6, 6, 6, 6, 6, 6, 6, 6, 6, 6, 6, 6] ?_
     refine hk [13, 12, 11, 9, 8, 7, 6, 5, 4] ?_
     exact hd y58 [13, 12, 11, 9, 8, 7, 6, 5, 4] [0, 0, 0, 0, 0, 0, 0, 0, 0, 0, 0, 0, 0, 0, 0, 0, 0, 0, 0] 3
   · refine hi (fun γ0 δ hm => ?_)
     refine gs [(12, .p 2 0), (60, .v (vPoint (Point.mk 2 0 (w64 (5000 + x52))))), (55, .v (vOffice t28 y31)), (11, vb t48.2), (9, vb t44.2), (8, vi t44.1), (7, vb t39.2), (6, .p 1 0), (5, vi (w64 (t28.Start + (t28.Paid.length : Int)))), (4, .v (.slice y35.1 t32.length y35.2))] [(41, (eOffice t28 y31)), (41, (eOffice t39.1 y43)), (41, [.slice none 0 0, .slice none 0 0, .slice none 0 0, .int .i64 0, .int .i64 0, .slice none 0 0, .slice none 0 0, .int .i64 0, .slice none 0 0])] (fun δ2 => ?_)
     refine gd hm [12, 60, 55, 11, 9, 8, 7, 6, 5, 4] [0, 0, 0, 0, 0, 0, 0, 0, 0, 0, 0, 0, 0] ?_
     refine ha1 6 ?_
     refine hi (fun γ0 δ hm => ?_)
     refine g1 (fun w hs => c_impl_LearnPoint (b0 := y31) h56 (hs.view 7 rfl) (hs.view 8 rfl) (hs.view 9 rfl) (hs.view 10 rfl) (hs.view 11 rfl) (hs.view 12 rfl)) (fun y58 => ?_)
     refine gn hm [61, 12, 11, 9, 8, 7, 6, 5, 4] [6, 6, 6, 6, 6, 6, 6, 6, 6, 6, 6, 6, 6] ?_
     refine htq 7 (.v (.tuple #[vOffice t55.1 y58, .bool t55.2])) [6, 6, 6, 6, 6, 6, 6, 6, 6, 6, 6, 6, 6] ?_
     refine hk [54, 12, 11, 9, 8, 7, 6, 5, 4] ?_
     refine htq 8 (.v (vOffice t55.1 y58)) [6, 6, 6, 6, 6, 6, 6, 6, 6, 6, 6, 6, 6] ?_
     refine htq 9 (vb t55.2) [6, 6, 6, 6, 6, 6, 6, 6, 6, 6, 6, 6, 6] ?_
     refine hk [63, 62, 12, 11, 9, 8, 7, 6, 5, 4] ?_
     refine ha1 11 ?_
     refine hi (fun γ0 δ hm => ?_)
     refine gs [(63, vb t55.2), (62, .v (vOffice t55.1 y58)), (12, .p 2 0), (11, vb t48.2), (9, vb t44.2), (8, vi t44.1), (7, vb t39.2), (6, .p 1 0), (5, vi (w64 (t28.Start + (t28.Paid.length : Int)))), (4, .v (.slice y35.1 t32.length y35.2))] [(41, (eOffice t28 y31)), (41, (eOffice t39.1 y43)), (41, (eOffice t55.1 y58))] (fun δ2 => ?_)
     refine gd hm [63, 12, 11, 9, 8, 7, 6, 5, 4] [6, 6, 6, 6, 6, 6, 6, 6, 6, 6, 6, 6, 6] ?_
     refine htq 12 (vb t55.2) [6, 6, 6, 6, 6, 6, 6, 6, 6, 6, 6, 6, 6] ?_
     refine hk [13, 12, 11, 9, 8, 7, 6, 5, 4] ?_
     exact hd y58 [13, 12, 11, 9, 8, 7, 6, 5, 4] [0, 0, 0, 0, 0, 0, 0, 0, 0, 0, 0, 0, 0, 0, 0, 0, 0, 0, 0] 3
 refine nt (qs (qr (oN 4 [(68, vi (w64 (t28.Start + (t28.Paid.length : Int)))), (67, .v (vSeries t55.1.Case.Series y59.2.2.1))] [13, 12, 11, 9, 8, 7, 6, 4] ?_)))
 obtain ⟨t60, h61, h62⟩ := bS h57
 refine k0 (fun γ w hs => c_spec_IndexAt h61 (hs.view 2 rfl)) ?_
 refine oN 5 [(15, vb t60.2), (14, vi t60.1)] [13, 12, 11, 9, 8, 7, 6, 4] ?_
 refine oe (nt (qs ?_))
 obtain ⟨p64, hE65, h66⟩ := bS h62
 refine JC_cut (τ := Unit) (fun _ => [(2, vb p64)]) (fun _ => [(41, (eOffice t28 y31)), (41, (eOffice t39.1 y43)), (41, (eOffice t55.1 y59))]) (fun _ => [SlRes 76 t28.Case.Book.Rules y31.1.1 y31.1.2, SlRes 47 t28.Case.Store.Facts y31.2.1.1 y31.2.1.2, SlRes 52 t28.Case.Series.Points y31.2.2.1.1 y31.2.2.1.2, SlRes 156 t28.Case.Member.Spells y31.2.2.2.1.1 y31.2.2.2.1.2, SlRes 158 t28.Case.Member.Events y31.2.2.2.2.1.1 y31.2.2.2.2.1.2, SlRes 3 t28.Paid y31.2.2.2.2.2.1 y31.2.2.2.2.2.2, SlRes 76 t39.1.Case.Book.Rules y43.1.1 y43.1.2, SlRes 47 t39.1.Case.Store.Facts y43.2.1.1 y43.2.1.2, SlRes 52 t39.1.Case.Series.Points y43.2.2.1.1 y43.2.2.1.2, SlRes 156 t39.1.Case.Member.Spells y43.2.2.2.1.1 y43.2.2.2.1.2, SlRes 158 t39.1.Case.Member.Events y43.2.2.2.2.1.1 y43.2.2.2.2.1.2, SlRes 3 t39.1.Paid y43.2.2.2.2.2.1 y43.2.2.2.2.2.2, SlRes 76 t55.1.Case.Book.Rules y59.1.1 y59.1.2, SlRes 47 t55.1.Case.Store.Facts y59.2.1.1 y59.2.1.2, SlRes 52 t55.1.Case.Series.Points y59.2.2.1.1 y59.2.2.1.2, SlRes 156 t55.1.Case.Member.Spells y59.2.2.2.1.1 y59.2.2.2.1.2, SlRes 158 t55.1.Case.Member.Events y59.2.2.2.2.1.1 y59.2.2.2.2.1.2, SlRes 3 t55.1.Paid y59.2.2.2.2.2.1 y59.2.2.2.2.2.2]) ?_ (fun _ => ?_)
 · refine qr (oN 2 [(73, vb t39.2)] [15, 14, 13, 12, 11, 9, 8, 6, 4] ?_)
   refine oS 73 hE65 (fun h68 => ?_) (fun h69 => ?_)
   · refine oN 3 [(76, vb t44.2)] [15, 14, 13, 12, 11, 8, 6, 4] ?_
     refine oS 76 h68 (fun h71 => ?_) (fun h72 => ?_)
     · refine oN 2 [(78, .v (.slice y35.1 t32.length y35.2)), (77, vi t44.1)] [76, 15, 14, 13, 12, 11, 6, 4] ?_
       obtain ⟨x73, hx74, h75⟩ := bS h71
       refine oi 1 (fun γ w hs => (hs.view 12 rfl)) hx74 ?_
       refine ol 3 0 (.int .i64 x73) (fun γ w hs => (hs.view 12 rfl).flatq hx74) ?_
       refine oN 3 [(83, vb (t44.1 == x73))] [15, 14, 13, 12, 11, 6, 4] ?_
       refine oS 83 h75 (fun h77 => ?_) (fun h78 => ?_)
       · refine oN 4 [(87, vb (!t48.2))] [15, 14, 13, 12, 6, 4] ?_
         refine oS 87 h77 (fun h80 => ?_) (fun h81 => ?_)
         · refine oN 3 [(90, vb t55.2)] [15, 14, 12, 6, 4] ?_
           refine oS 90 h80 (fun h83 => ?_) (fun h84 => ?_)
           · refine oN 3 [(93, vb t60.2)] [14, 12, 6, 4] ?_
             refine oS 93 h83 (fun h86 => ?_) (fun h87 => ?_)
             · refine oN 2 [(95, .v (.slice y35.1 t32.length y35.2)), (94, vi t60.1)] [93, 12, 6] ?_
               obtain ⟨x88, hx89, h90⟩ := bS h86
               refine oi 1 (fun γ w hs => (hs.view 12 rfl)) hx89 ?_
               refine ol 3 0 (.int .i64 x88) (fun γ w hs => (hs.view 12 rfl).flatq hx89) ?_
               refine oN 4 [(101, vb (t60.1 == (w64 (5000 + x88))))] [12, 6] ?_
               refine oS 101 h90 (fun h92 => ?_) (fun h93 => ?_)
               · refine oN 1 [(102, .v (vOffice t39.1 y43))] [101, 12] ?_
                 obtain ⟨t94, h95, h96⟩ := bS h92
                 refine k0 (fun γ w hs => c_impl_OfficeOk (b0 := y43) h95 (hs.view 6 rfl) (hs.view 7 rfl) (hs.view 8 rfl) (hs.view 9 rfl) (hs.view 10 rfl) (hs.view 11 rfl)) ?_
                 refine oN 2 [(105, vb t94)] [12] ?_
                 refine oS 105 h96 (fun h99 => ?_) (fun h100 => ?_)
                 · refine oN 1 [(106, .v (vOffice t55.1 y59))] [105] ?_
                   obtain ⟨t101, h102, h103⟩ := bS h99
                   refine k0 (fun γ w hs => c_impl_OfficeOk (b0 := y59) h102 (hs.view 0 rfl) (hs.view 1 rfl) (hs.view 2 rfl) (hs.view 3 rfl) (hs.view 4 rfl) (hs.view 5 rfl)) ?_
                   refine oN 2 [(2, vb t101)] [] ?_
                   refine oe ?_
                   obtain rfl := sI h103
                   exact mt () [2] [13, 13, 13, 13, 13, 13, 6, 6, 6, 6, 6, 6, 0, 0, 0, 0, 0, 0] 3
                 refine oN 4 [(2, vb false)] [] ?_
                 refine oe ?_
                 obtain rfl := sI h100
                 exact mt () [2] [13, 13, 13, 13, 13, 13, 6, 6, 6, 6, 6, 6, 0, 0, 0, 0, 0, 0] 3
               refine oN 8 [(2, vb false)] [] ?_
               refine oe ?_
               obtain rfl := sI h93
               exact mt () [2] [13, 13, 13, 13, 13, 13, 6, 6, 6, 6, 6, 6, 0, 0, 0, 0, 0, 0] 3
             refine oN 16 [(2, vb false)] [] ?_
             refine oe ?_
             obtain rfl := sI h87
             exact mt () [2] [13, 13, 13, 13, 13, 13, 6, 6, 6, 6, 6, 6, 0, 0, 0, 0, 0, 0] 3
           refine oN 19 [(2, vb false)] [] ?_
           refine oe ?_
           obtain rfl := sI h84
           exact mt () [2] [13, 13, 13, 13, 13, 13, 6, 6, 6, 6, 6, 6, 0, 0, 0, 0, 0, 0] 3
         refine oN 22 [(2, vb false)] [] ?_
         refine oe ?_
         obtain rfl := sI h81
         exact mt () [2] [13, 13, 13, 13, 13, 13, 6, 6, 6, 6, 6, 6, 0, 0, 0, 0, 0, 0] 3
       refine oN 26 [(2, vb false)] [] ?_
       refine oe ?_
       obtain rfl := sI h78
       exact mt () [2] [13, 13, 13, 13, 13, 13, 6, 6, 6, 6, 6, 6, 0, 0, 0, 0, 0, 0] 3
     refine oN 33 [(2, vb false)] [] ?_
     refine oe ?_
     obtain rfl := sI h72
     exact mt () [2] [13, 13, 13, 13, 13, 13, 6, 6, 6, 6, 6, 6, 0, 0, 0, 0, 0, 0] 3
   refine oN 36 [(2, vb false)] [] ?_
   refine oe ?_
   obtain rfl := sI h69
   exact mt () [2] [13, 13, 13, 13, 13, 13, 6, 6, 6, 6, 6, 6, 0, 0, 0, 0, 0, 0] 3
 refine nt (qe ?_)
 obtain rfl := sI h66
 exact re [.bool p64]
end Go.Pen
