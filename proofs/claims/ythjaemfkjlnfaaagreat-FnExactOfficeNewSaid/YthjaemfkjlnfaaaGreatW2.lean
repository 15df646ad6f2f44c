/-
  Each Go function does what its plain function says: written by a program of ours.
-/
import Derived.Test.YthjaemfkjlnfaaaGreatW1
import Derived.Test.YthjaemfkjlnfaaaGreatProg
import Derived.Test.YthjaemfkjlnfaaaGreatPenK
namespace Go.Pen
open Go.Proofs Go.RowKit
set_option linter.unusedVariables false
set_option linter.unusedSimpArgs false
set_option maxRecDepth 100000
set_option maxHeartbeats 4000000

theorem c_impl_SpellsOk {W : World} {x0 : List Spell} {a0_0 : Option Addr} {c0_0 : Nat} {r : Bool} (h : impl_SpellsOk x0 = some r) (hv0_0 : SlView W x0 a0_0 c0_0) :
    Gives0 Tryz.prog 209 #[.slice a0_0 x0.length c0_0] W (.bool r) := by
 unfold impl_SpellsOk at h
 refine en Tryz.func209 Tryz.ntmps209 ?_
 refine qs (qr (oN 1 [] [0] ?_))
 refine oe (nt (qs (qs (qr (oN 3 [(7, vi 0), (6, vi (x0.length : Int)), (5, .v (.slice a0_0 x0.length c0_0))] [0] ?_)))))
 refine oe (nt ?_)
 obtain ⟨r24, hL25, h26⟩ := bS h
 obtain ⟨k27, hk28, h26⟩ := brkS h26
 refine JC_cutP (τ := (Unit) × (Unit)) (fun y => k27 y.1 = some r) (fun y32 => [(0, .v (.slice a0_0 x0.length c0_0))]) (fun y32 => []) (fun y32 => []) ?_ (fun y32 h33p => ?_)
 · refine qb (lp Unit hL25 (fun s21 y22 => [(7, vi s21), (6, vi (x0.length : Int)), (5, .v (.slice a0_0 x0.length c0_0)), (0, .v (.slice a0_0 x0.length c0_0))]) (fun s21 y22 => []) (fun s21 y22 => []) () [7, 6, 5, 0] [] 0 (fun s21 y22 t23 h29 hd30 => ?_))
   refine qs (qr (oN 1 [(8, vb (decide (s21 < (x0.length : Int))))] [7, 6, 5, 0] ?_))
   refine oe (nt (qs (cC h29 (fun h35 => ?_) (fun h36 => ?_))))
   · refine qk (nt (qs (qb (qs (qr (oN 1 [(9, vi s21)] [7, 6, 5, 0] ?_))))))
     obtain ⟨x37, hx38, h39⟩ := bS h35
     refine oi 4 (fun γ w hs => (hv0_0.kept hs.kept)) hx38 ?_
     refine ol 191 0 (vSpell x37) (fun γ w hs => (hv0_0.kept hs.kept).flatq hx38) ?_
     refine oB 3 [(3, vi s21), (4, .p 0 0)] [7, 6, 5, 0] [(191, (eSpell x37))] ?_
     refine oe (nt (qs ?_))
     obtain ⟨p40, hE41, h42⟩ := bS h39
     refine JC_cut (τ := Unit) (fun _ => [(0, .v (.slice a0_0 x0.length c0_0)), (5, .v (.slice a0_0 x0.length c0_0)), (6, vi (x0.length : Int)), (7, vi s21), (38, vb p40)]) (fun _ => [(191, (eSpell x37))]) (fun _ => []) ?_ (fun _ => ?_)
     · refine JC_quiet (by kernel_rfl) (by kernel_rfl) ?_
       refine qN 4 [(15, vi x37.To), (13, vi x37.From)] [3, 4, 7, 6, 5, 0] ?_
       obtain ⟨t43, h44, h45⟩ := bS hE41
       refine q0 (fun γ w hs => c_impl_isSpan h44) ?_
       refine qN 2 [(18, vb (!t43))] [3, 4, 7, 6, 5, 0] ?_
       refine qS 18 h45 (fun h48 => ?_) (fun h49 => ?_)
       · refine qN 20 [(38, vb true)] [7, 6, 5, 0] ?_
         refine qz ?_
         obtain rfl := sI h48
         exact mt () [0, 5, 6, 7, 38] [] 1
       refine qN 2 [(20, vi x37.Percent)] [18, 3, 4, 7, 6, 5, 0] ?_
       obtain ⟨t50, h51, h52⟩ := bS h49
       refine q0 (fun γ w hs => c_impl_within h51) ?_
       refine qN 3 [(24, vb (!t50))] [3, 4, 7, 6, 5, 0] ?_
       refine qS 24 h52 (fun h55 => ?_) (fun h56 => ?_)
       · refine qN 14 [(38, vb true)] [7, 6, 5, 0] ?_
         refine qz ?_
         obtain rfl := sI h55
         exact mt () [0, 5, 6, 7, 38] [] 1
       refine qN 3 [(27, vb (decide (s21 > 0)))] [24, 3, 4, 7, 6, 5, 0] ?_
       refine qS 27 h56 (fun h58 => ?_) (fun h59 => ?_)
       · refine qN 5 [(32, vi (w64 (s21 - 1))), (30, .v (.slice a0_0 x0.length c0_0)), (29, vi x37.From)] [27, 24, 7, 6, 5, 0] ?_
         obtain ⟨x60, hx61, h62⟩ := bS h58
         refine qi 4 (fun γ w hs => (hv0_0.kept hs.kept)) hx61 ?_
         refine qN 1 [(34, .q a0_0 (Int.toNat (w64 (s21 - 1)) * 4 + 1))] [29, 27, 24, 7, 6, 5, 0] ?_
         refine ql 3 1 (.int .i64 x60.To) (fun γ w hs => (hv0_0.kept hs.kept).flatq hx61) ?_
         refine qN 3 [(38, vb (decide (x37.From < x60.To)))] [7, 6, 5, 0] ?_
         refine qz ?_
         obtain rfl := sI h62
         exact mt () [0, 5, 6, 7, 38] [] 1
       refine qN 11 [(38, vb false)] [7, 6, 5, 0] ?_
       refine qz ?_
       obtain rfl := sI h59
       exact mt () [0, 5, 6, 7, 38] [] 1
     refine nt (cC h42 (fun h64 => ?_) (fun h65 => ?_))
     · refine qs (qr (oN 1 [(2, vb false)] [] ?_))
       refine oe (nt (qe (br (nr (nr ?_)))))
       have h66 := leafR hd30 h64 h26
       refine br (nr (nr ?_))
       obtain rfl := sI h66
       exact re [.bool false]
     refine qk (bn (nt (qr (oN 2 [(7, vi (w64 (s21 + 1)))] [0, 5, 6] ?_))))
     exact oe (ct h65 () [7, 6, 5, 0] [] 0)
   refine qx (nx (nx (bh ?_)))
   have h67 := leafB hd30 h36 h26
   exact mp ((), ()) h67 [0] [] 0
 have h33 := (congrFun hk28 _).symm.trans h33p
 refine nt (qs (qr (oN 4 [(2, vb (decide ((x0.length : Int) ≤ 30)))] [] ?_)))
 refine oe (nt (qe ?_))
 obtain rfl := sI h33
 exact re [.bool (decide ((x0.length : Int) ≤ 30))]

theorem c_impl_StatusAfter {W : World} {x0 : Int} {x1 : Int} {r : Int × Bool} (h : impl_StatusAfter x0 x1 = some r)  :
    Gives0 Tryz.prog 179 #[.int .i64 x0, .int .i64 x1] W (.tuple #[.int .i64 r.1, .bool r.2]) := by
 unfold impl_StatusAfter at h
 refine en Tryz.func179 Tryz.ntmps179 ?_
 refine qs (qr (oN 2 [] [0, 1] ?_))
 refine oe (nt (qs (qb (qs ?_))))
 obtain ⟨p21, hE22, h23⟩ := bS h
 refine JC_cut (τ := Unit) (fun _ => [(0, vi x0), (1, vi x1), (6, vb p21)]) (fun _ => []) (fun _ => []) ?_ (fun _ => ?_)
 · refine qr (oN 3 [(9, vb (x1 == 1))] [0, 1] ?_)
   refine oS 9 hE22 (fun h25 => ?_) (fun h26 => ?_)
   · refine oN 3 [(12, vb (x0 == 0))] [9, 0, 1] ?_
     refine oS 12 h25 (fun h28 => ?_) (fun h29 => ?_)
     · refine oN 5 [(6, vb true)] [0, 1] ?_
       refine oe ?_
       obtain rfl := sI h28
       exact mt () [0, 1, 6] [] 0
     refine oN 5 [(6, vb (x0 == 2))] [0, 1] ?_
     refine oe ?_
     obtain rfl := sI h29
     exact mt () [0, 1, 6] [] 0
   refine oN 8 [(6, vb false)] [0, 1] ?_
   refine oe ?_
   obtain rfl := sI h26
   exact mt () [0, 1, 6] [] 0
 refine nt (cC h23 (fun h65 => ?_) (fun h66 => ?_))
 · refine qs (qr (oN 2 [(5, vb true), (4, vi 1)] [] ?_))
   refine oe (nt (qe (br (nr ?_))))
   obtain rfl := sI h65
   exact re [.int .i64 1, .bool true]
 refine qs ?_
 obtain ⟨p67, hE68, h69⟩ := bS h66
 refine JC_cut (τ := Unit) (fun _ => [(0, vi x0), (1, vi x1), (17, vb p67)]) (fun _ => []) (fun _ => []) ?_ (fun _ => ?_)
 · refine qr (oN 3 [(20, vb (x1 == 2))] [0, 1] ?_)
   refine oS 20 hE68 (fun h71 => ?_) (fun h72 => ?_)
   · refine oN 4 [(17, vb (x0 == 1))] [0, 1] ?_
     refine oe ?_
     obtain rfl := sI h71
     exact mt () [0, 1, 17] [] 0
   refine oN 4 [(17, vb false)] [0, 1] ?_
   refine oe ?_
   obtain rfl := sI h72
   exact mt () [0, 1, 17] [] 0
 refine nt (cC h69 (fun h99 => ?_) (fun h100 => ?_))
 · refine qs (qr (oN 2 [(5, vb true), (4, vi 2)] [] ?_))
   refine oe (nt (qe (br (nr ?_))))
   obtain rfl := sI h99
   exact re [.int .i64 2, .bool true]
 refine qs ?_
 obtain ⟨p101, hE102, h103⟩ := bS h100
 refine JC_cut (τ := Unit) (fun _ => [(0, vi x0), (1, vi x1), (24, vb p101)]) (fun _ => []) (fun _ => []) ?_ (fun _ => ?_)
 · refine qr (oN 3 [(27, vb (x1 == 3))] [0, 1] ?_)
   refine oS 27 hE102 (fun h105 => ?_) (fun h106 => ?_)
   · refine oN 3 [(30, vb (x0 == 1))] [27, 0, 1] ?_
     refine oS 30 h105 (fun h108 => ?_) (fun h109 => ?_)
     · refine oN 5 [(24, vb true)] [0, 1] ?_
       refine oe ?_
       obtain rfl := sI h108
       exact mt () [0, 1, 24] [] 0
     refine oN 5 [(24, vb (x0 == 2))] [0, 1] ?_
     refine oe ?_
     obtain rfl := sI h109
     exact mt () [0, 1, 24] [] 0
   refine oN 8 [(24, vb false)] [0, 1] ?_
   refine oe ?_
   obtain rfl := sI h106
   exact mt () [0, 1, 24] [] 0
 refine nt (cC h103 (fun h124 => ?_) (fun h125 => ?_))
 · refine qs (qr (oN 2 [(5, vb true), (4, vi 3)] [] ?_))
   refine oe (nt (qe (br (nr ?_))))
   obtain rfl := sI h124
   exact re [.int .i64 3, .bool true]
 refine qs ?_
 obtain ⟨p126, hE127, h128⟩ := bS h125
 refine JC_cut (τ := Unit) (fun _ => [(0, vi x0), (35, vb p126)]) (fun _ => []) (fun _ => []) ?_ (fun _ => ?_)
 · refine qr (oN 3 [(38, vb (x1 == 4))] [0] ?_)
   refine oS 38 hE127 (fun h130 => ?_) (fun h131 => ?_)
   · refine oN 1 [(39, vi x0)] [38, 0] ?_
     obtain ⟨t132, h133, h134⟩ := bS h130
     refine k0 (fun γ w hs => c_impl_within h133) ?_
     refine oN 2 [(35, vb t132)] [0] ?_
     refine oe ?_
     obtain rfl := sI h134
     exact mt () [0, 35] [] 0
   refine oN 4 [(35, vb false)] [0] ?_
   refine oe ?_
   obtain rfl := sI h131
   exact mt () [0, 35] [] 0
 refine nt (cC h128 (fun h137 => ?_) (fun h138 => ?_))
 · refine qs (qr (oN 2 [(5, vb true), (4, vi 4)] [] ?_))
   refine oe (nt (qe (br (nr ?_))))
   obtain rfl := sI h137
   exact re [.int .i64 4, .bool true]
 refine qk (bn (nt (qs (qr (oN 3 [(5, vb false), (4, vi x0)] [] ?_)))))
 refine oe (nt (qe ?_))
 obtain rfl := sI h138
 exact re [.int .i64 x0, .bool false]

theorem c_impl_EventsOk {W : World} {x0 : List Event} {a0_0 : Option Addr} {c0_0 : Nat} {r : Bool} (h : impl_EventsOk x0 = some r) (hv0_0 : SlView W x0 a0_0 c0_0) :
    Gives0 Tryz.prog 178 #[.slice a0_0 x0.length c0_0] W (.bool r) := by
 unfold impl_EventsOk at h
 refine en Tryz.func178 Tryz.ntmps178 ?_
 refine qs (qr (oN 1 [] [0] ?_))
 refine oe (nt (qs (qr (oN 2 [(3, vi 0)] [0] ?_))))
 refine oe (nt (qs (qs (qr (oN 3 [(9, vi 0), (8, vi (x0.length : Int)), (7, .v (.slice a0_0 x0.length c0_0))] [3, 0] ?_)))))
 refine oe (nt ?_)
 obtain ⟨r24, hL25, h26⟩ := bS h
 obtain ⟨k27, hk28, h26⟩ := brkS h26
 refine JC_cutP (τ := (Unit) × (Unit)) (fun y => k27 y.1 = some r) (fun y32 => [(0, .v (.slice a0_0 x0.length c0_0))]) (fun y32 => []) (fun y32 => []) ?_ (fun y32 h33p => ?_)
 · refine qb (lp Unit hL25 (fun s21 y22 => [(9, vi s21.1), (8, vi (x0.length : Int)), (7, .v (.slice a0_0 x0.length c0_0)), (3, vi s21.2), (0, .v (.slice a0_0 x0.length c0_0))]) (fun s21 y22 => []) (fun s21 y22 => []) () [9, 8, 7, 3, 0] [] 0 (fun s21 y22 t23 h29 hd30 => ?_))
   refine qs (qr (oN 1 [(10, vb (decide (s21.1 < (x0.length : Int))))] [9, 8, 7, 3, 0] ?_))
   refine oe (nt (qs (cC h29 (fun h35 => ?_) (fun h36 => ?_))))
   · refine qk (nt (qs (qb (qs (qr (oN 1 [(11, vi s21.1)] [9, 8, 7, 3, 0] ?_))))))
     obtain ⟨x37, hx38, h39⟩ := bS h35
     refine oi 2 (fun γ w hs => (hv0_0.kept hs.kept)) hx38 ?_
     refine ol 195 0 (vEvent x37) (fun γ w hs => (hv0_0.kept hs.kept).flatq hx38) ?_
     refine oB 3 [(5, vi s21.1), (6, .p 0 0)] [9, 8, 7, 3, 0] [(195, (eEvent x37))] ?_
     refine oe (nt (qs (qr (oN 3 [(17, vi x37.Kind), (15, vi s21.2)] [5, 6, 9, 8, 7, 0] ?_))))
     obtain ⟨t40, h41, h42⟩ := bS h39
     refine k0 (fun γ w hs => c_impl_StatusAfter h41) ?_
     refine oN 5 [(4, vb t40.2), (3, vi t40.1)] [5, 6, 9, 8, 7, 0] ?_
     refine oe (nt (qs ?_))
     obtain ⟨p44, hE45, h46⟩ := bS h42
     refine JC_cut (τ := Unit) (fun _ => [(0, .v (.slice a0_0 x0.length c0_0)), (3, vi t40.1), (7, .v (.slice a0_0 x0.length c0_0)), (8, vi (x0.length : Int)), (9, vi s21.1), (43, vb p44)]) (fun _ => [(195, (eEvent x37))]) (fun _ => []) ?_ (fun _ => ?_)
     · refine JC_quiet (by kernel_rfl) (by kernel_rfl) ?_
       refine qN 3 [(23, vb (!t40.2))] [3, 5, 6, 9, 8, 7, 0] ?_
       refine qS 23 hE45 (fun h48 => ?_) (fun h49 => ?_)
       · refine qN 20 [(43, vb true)] [3, 9, 8, 7, 0] ?_
         refine qz ?_
         obtain rfl := sI h48
         exact mt () [0, 3, 7, 8, 9, 43] [] 1
       refine qN 2 [(25, vi x37.Month)] [23, 3, 5, 6, 9, 8, 7, 0] ?_
       obtain ⟨t50, h51, h52⟩ := bS h49
       refine q0 (fun γ w hs => c_impl_MonthOk h51) ?_
       refine qN 3 [(29, vb (!t50))] [3, 5, 6, 9, 8, 7, 0] ?_
       refine qS 29 h52 (fun h55 => ?_) (fun h56 => ?_)
       · refine qN 14 [(43, vb true)] [3, 9, 8, 7, 0] ?_
         refine qz ?_
         obtain rfl := sI h55
         exact mt () [0, 3, 7, 8, 9, 43] [] 1
       refine qN 3 [(32, vb (decide (s21.1 > 0)))] [29, 3, 5, 6, 9, 8, 7, 0] ?_
       refine qS 32 h56 (fun h58 => ?_) (fun h59 => ?_)
       · refine qN 3 [(35, vi (w64 (s21.1 - 1))), (33, .v (.slice a0_0 x0.length c0_0))] [32, 29, 3, 6, 9, 8, 7, 0] ?_
         obtain ⟨x60, hx61, h62⟩ := bS h58
         refine qi 2 (fun γ w hs => (hv0_0.kept hs.kept)) hx61 ?_
         refine qN 1 [(37, .q a0_0 (Int.toNat (w64 (s21.1 - 1)) * 2 + 1))] [32, 29, 3, 6, 9, 8, 7, 0] ?_
         refine ql 3 1 (.int .i64 x60.Month) (fun γ w hs => (hv0_0.kept hs.kept).flatq hx61) ?_
         refine qN 5 [(43, vb (decide (x60.Month ≥ x37.Month)))] [3, 9, 8, 7, 0] ?_
         refine qz ?_
         obtain rfl := sI h62
         exact mt () [0, 3, 7, 8, 9, 43] [] 1
       refine qN 11 [(43, vb false)] [3, 9, 8, 7, 0] ?_
       refine qz ?_
       obtain rfl := sI h59
       exact mt () [0, 3, 7, 8, 9, 43] [] 1
     refine nt (cC h46 (fun h64 => ?_) (fun h65 => ?_))
     · refine qs (qr (oN 1 [(2, vb false)] [] ?_))
       refine oe (nt (qe (br (nr (nr ?_)))))
       have h66 := leafR hd30 h64 h26
       refine br (nr (nr ?_))
       obtain rfl := sI h66
       exact re [.bool false]
     refine qk (bn (nt (qr (oN 2 [(9, vi (w64 (s21.1 + 1)))] [0, 3, 7, 8] ?_))))
     exact oe (ct h65 () [9, 8, 7, 3, 0] [] 0)
   refine qx (nx (nx (bh ?_)))
   have h67 := leafB hd30 h36 h26
   exact mp ((), ()) h67 [0] [] 0
 have h33 := (congrFun hk28 _).symm.trans h33p
 refine nt (qs (qr (oN 4 [(2, vb (decide ((x0.length : Int) ≤ 30)))] [] ?_)))
 refine oe (nt (qe ?_))
 obtain rfl := sI h33
 exact re [.bool (decide ((x0.length : Int) ≤ 30))]

theorem c_impl_MemberOk {W : World} {x0 : Member} {b0 : AC × AC} {r : Bool} (h : impl_MemberOk x0 = some r) (hv0_0 : SlView W x0.Spells b0.1.1 b0.1.2) (hv0_1 : SlView W x0.Events b0.2.1 b0.2.2) :
    Gives0 Tryz.prog 165 #[vMember x0 b0] W (.bool r) := by
 unfold impl_MemberOk at h
 refine en Tryz.func165 Tryz.ntmps165 ?_
 refine qs (qr (oB 2 [(1, .p 0 0)] [] [(52, (eMember x0 b0))] ?_))
 refine oe (nt (qs ?_))
 obtain ⟨p21, hE22, h23⟩ := bS h
 refine JC_cut (τ := Unit) (fun _ => [(2, vb p21)]) (fun _ => [(52, (eMember x0 b0))]) (fun _ => []) ?_ (fun _ => ?_)
 · refine qr (oN 2 [(4, vi x0.Birth)] [1] ?_)
   obtain ⟨t24, h25, h26⟩ := bS hE22
   refine k0 (fun γ w hs => c_impl_MonthOk h25) ?_
   refine oN 1 [(6, vb t24)] [1] ?_
   refine oS 6 h26 (fun h29 => ?_) (fun h30 => ?_)
   · refine oN 2 [(8, vi x0.Joined)] [6, 1] ?_
     obtain ⟨t31, h32, h33⟩ := bS h29
     refine k0 (fun γ w hs => c_impl_MonthOk h32) ?_
     refine oN 2 [(11, vb t31)] [1] ?_
     refine oS 11 h33 (fun h36 => ?_) (fun h37 => ?_)
     · refine oN 7 [(18, vb (decide (x0.Birth ≤ x0.Joined)))] [1] ?_
       refine oS 18 h36 (fun h39 => ?_) (fun h40 => ?_)
       · refine oN 2 [(20, .v (.slice b0.1.1 x0.Spells.length b0.1.2))] [18, 1] ?_
         obtain ⟨t41, h42, h43⟩ := bS h39
         refine k0 (fun γ w hs => c_impl_SpellsOk h42 (hv0_0.kept hs.kept)) ?_
         refine oN 2 [(23, vb t41)] [1] ?_
         refine oS 23 h43 (fun h46 => ?_) (fun h47 => ?_)
         · refine oN 2 [(25, .v (.slice b0.2.1 x0.Events.length b0.2.2))] [23] ?_
           obtain ⟨t48, h49, h50⟩ := bS h46
           refine k0 (fun γ w hs => c_impl_EventsOk h49 (hv0_1.kept hs.kept)) ?_
           refine oN 2 [(2, vb t48)] [] ?_
           refine oe ?_
           obtain rfl := sI h50
           exact mt () [2] [] 1
         refine oN 5 [(2, vb false)] [] ?_
         refine oe ?_
         obtain rfl := sI h47
         exact mt () [2] [] 1
       refine oN 10 [(2, vb false)] [] ?_
       refine oe ?_
       obtain rfl := sI h40
       exact mt () [2] [] 1
     refine oN 17 [(2, vb false)] [] ?_
     refine oe ?_
     obtain rfl := sI h37
     exact mt () [2] [] 1
   refine oN 22 [(2, vb false)] [] ?_
   refine oe ?_
   obtain rfl := sI h30
   exact mt () [2] [] 1
 refine nt (qe ?_)
 obtain rfl := sI h23
 exact re [.bool p21]

theorem c_impl_CaseOk {W : World} {x0 : Case} {b0 : AC × AC × AC × AC × AC} {r : Bool} (h : impl_CaseOk x0 = some r) (hv0_0 : SlView W x0.Book.Rules b0.1.1 b0.1.2) (hv0_1 : SlView W x0.Store.Facts b0.2.1.1 b0.2.1.2) (hv0_2 : SlView W x0.Series.Points b0.2.2.1.1 b0.2.2.1.2) (hv0_3 : SlView W x0.Member.Spells b0.2.2.2.1.1 b0.2.2.2.1.2) (hv0_4 : SlView W x0.Member.Events b0.2.2.2.2.1 b0.2.2.2.2.2) :
    Gives0 Tryz.prog 126 #[vCase x0 b0] W (.bool r) := by
 unfold impl_CaseOk at h
 refine en Tryz.func126 Tryz.ntmps126 ?_
 refine qs (qr (oB 2 [(1, .p 0 0)] [] [(54, (eCase x0 b0))] ?_))
 refine oe (nt (qs ?_))
 obtain ⟨p21, hE22, h23⟩ := bS h
 refine JC_cut (τ := Unit) (fun _ => [(2, vb p21)]) (fun _ => [(54, (eCase x0 b0))]) (fun _ => []) ?_ (fun _ => ?_)
 · refine qr (oN 2 [(4, .v (vBook x0.Book b0.1))] [1] ?_)
   obtain ⟨t24, h25, h26⟩ := bS hE22
   refine k0 (fun γ w hs => c_impl_BookOk h25 (hv0_0.kept hs.kept)) ?_
   refine oN 1 [(6, vb t24)] [1] ?_
   refine oS 6 h26 (fun h29 => ?_) (fun h30 => ?_)
   · refine oN 2 [(8, .v (vStore x0.Store b0.2.1))] [6, 1] ?_
     obtain ⟨t31, h32, h33⟩ := bS h29
     refine k0 (fun γ w hs => c_impl_StoreOk h32 (hv0_1.kept hs.kept)) ?_
     refine oN 2 [(11, vb t31)] [1] ?_
     refine oS 11 h33 (fun h36 => ?_) (fun h37 => ?_)
     · refine oN 2 [(13, .v (vSeries x0.Series b0.2.2.1))] [11, 1] ?_
       obtain ⟨t38, h39, h40⟩ := bS h36
       refine k0 (fun γ w hs => c_impl_SeriesOk h39 (hv0_2.kept hs.kept)) ?_
       refine oN 2 [(16, vb t38)] [1] ?_
       refine oS 16 h40 (fun h43 => ?_) (fun h44 => ?_)
       · refine oN 2 [(18, .v (vMember x0.Member b0.2.2.2))] [16] ?_
         obtain ⟨t45, h46, h47⟩ := bS h43
         refine k0 (fun γ w hs => c_impl_MemberOk (b0 := b0.2.2.2) h46 (hv0_3.kept hs.kept) (hv0_4.kept hs.kept)) ?_
         refine oN 2 [(2, vb t45)] [] ?_
         refine oe ?_
         obtain rfl := sI h47
         exact mt () [2] [] 1
       refine oN 5 [(2, vb false)] [] ?_
       refine oe ?_
       obtain rfl := sI h44
       exact mt () [2] [] 1
     refine oN 10 [(2, vb false)] [] ?_
     refine oe ?_
     obtain rfl := sI h37
     exact mt () [2] [] 1
   refine oN 15 [(2, vb false)] [] ?_
   refine oe ?_
   obtain rfl := sI h30
   exact mt () [2] [] 1
 refine nt (qe ?_)
 obtain rfl := sI h23
 exact re [.bool p21]

theorem c_impl_now {W : World} {x0 : Office} {b0 : AC × AC × AC × AC × AC × AC} {r : Int} (h : impl_now x0 = some r) (hv0_0 : SlView W x0.Case.Book.Rules b0.1.1 b0.1.2) (hv0_1 : SlView W x0.Case.Store.Facts b0.2.1.1 b0.2.1.2) (hv0_2 : SlView W x0.Case.Series.Points b0.2.2.1.1 b0.2.2.1.2) (hv0_3 : SlView W x0.Case.Member.Spells b0.2.2.2.1.1 b0.2.2.2.1.2) (hv0_4 : SlView W x0.Case.Member.Events b0.2.2.2.2.1.1 b0.2.2.2.2.1.2) (hv0_5 : SlView W x0.Paid b0.2.2.2.2.2.1 b0.2.2.2.2.2.2) :
    Gives0 Tryz.prog 84 #[vOffice x0 b0] W (.int .i64 r) := by
 unfold impl_now at h
 refine en Tryz.func84 Tryz.ntmps84 ?_
 refine qs (qr (oB 2 [(1, .p 0 0)] [] [(57, (eOffice x0 b0))] ?_))
 refine oe (nt (qs (qr (oN 7 [(2, vi (w64 (x0.Start + (x0.Paid.length : Int))))] [] ?_))))
 refine oe (nt (qe ?_))
 obtain rfl := sI h
 exact re [.int .i64 (w64 (x0.Start + (x0.Paid.length : Int)))]

theorem c_impl_allWithin_1 {W : World} {x0 : Int} {gf_0 : Nat} {zf_0 : Int} {gf_1 : Nat} {zf_1 : Int} {r : Bool} (h : impl_allWithin_1 x0 zf_0 zf_1 = some r) (hcf_0 : CellsAt W (some ⟨gf_0, 0, none⟩) 0 [.int .i64 zf_0]) (hcf_1 : CellsAt W (some ⟨gf_1, 0, none⟩) 0 [.int .i64 zf_1]) :
    Gives0 Tryz.prog 167 #[.int .i64 x0, .pointer (some ⟨gf_0, 0, none⟩), .pointer (some ⟨gf_1, 0, none⟩)] W (.bool r) := by
 unfold impl_allWithin_1 at h
 refine enterD [vi x0, .q (some ⟨gf_0, 0, none⟩) (0), .q (some ⟨gf_1, 0, none⟩) (0)] (args := [.int .i64 x0, .pointer (some ⟨gf_0, 0, none⟩), .pointer (some ⟨gf_1, 0, none⟩)]) (by kernel_rfl) (by kernel_rfl) Tryz.func167 rfl Tryz.ntmps167 (by kernel_rfl) ?_
 refine qs (qr (oN 1 [] [0, 1, 2] ?_))
 refine oe (nt (qs (qr (oN 1 [(5, vi x0)] [1, 2] ?_))))
 refine ol 3 0 (.int .i64 zf_0) (fun γ w hs => ⟨by simp, hcf_0.kept hs.kept⟩) ?_
 refine ol 3 0 (.int .i64 zf_1) (fun γ w hs => ⟨by simp, hcf_1.kept hs.kept⟩) ?_
 obtain ⟨t21, h22, h23⟩ := bS h
 refine k0 (fun γ w hs => c_impl_within h22) ?_
 refine oN 2 [(4, vb (!t21))] [] ?_
 refine oe (nt (qe ?_))
 obtain rfl := sI h23
 exact re [.bool (!t21)]

theorem c_slices_IndexFunc_int__impl_allWithin_1 {W : World} {x0 : List Int} {a0_0 : Option Addr} {c0_0 : Nat} {g1_0 : Nat} {z1_0 : Int} {g1_1 : Nat} {z1_1 : Int} {r : Int} (h : slices_IndexFunc_int__impl_allWithin_1 x0 z1_0 z1_1 = some r) (hv0_0 : SlView W x0 a0_0 c0_0) (hc1_0 : CellsAt W (some ⟨g1_0, 0, none⟩) 0 [.int .i64 z1_0]) (hc1_1 : CellsAt W (some ⟨g1_1, 0, none⟩) 0 [.int .i64 z1_1]) :
    Gives0 Tryz.prog 210 #[.slice a0_0 x0.length c0_0, .func (.func 167) #[] #[.pointer (some ⟨g1_0, 0, none⟩), .pointer (some ⟨g1_1, 0, none⟩)]] W (.int .i64 r) := by
 unfold slices_IndexFunc_int__impl_allWithin_1 at h
 refine en Tryz.func210 Tryz.ntmps210 ?_
 refine qs (qr (oN 1 [] [0, 1] ?_))
 refine oe (nt (qs (qs (qr (oN 3 [(8, vi 0), (7, vi (x0.length : Int))] [0, 1] ?_)))))
 refine oe (nt ?_)
 obtain ⟨r24, hL25, h26⟩ := bS h
 obtain ⟨k27, hk28, h26⟩ := brkS h26
 refine JC_cutP (τ := (Unit) × (Unit)) (fun y => k27 y.1 = some r) (fun y32 => []) (fun y32 => []) (fun y32 => []) ?_ (fun y32 h33p => ?_)
 · refine qb (lp Unit hL25 (fun s21 y22 => [(8, vi s21), (7, vi (x0.length : Int)), (0, .v (.slice a0_0 x0.length c0_0)), (1, .v (.func (.func 167) #[] #[.pointer (some ⟨g1_0, 0, none⟩), .pointer (some ⟨g1_1, 0, none⟩)]))]) (fun s21 y22 => []) (fun s21 y22 => []) () [8, 7, 0, 1] [] 0 (fun s21 y22 t23 h29 hd30 => ?_))
   refine qs (qr (oN 1 [(9, vb (decide (s21 < (x0.length : Int))))] [8, 7, 0, 1] ?_))
   refine oe (nt (qs (cC h29 (fun h35 => ?_) (fun h36 => ?_))))
   · refine qk (nt (qs (qb (qs (qr (oN 2 [(5, vi s21)] [8, 7, 0, 1] ?_))))))
     refine oe (nt (qs (qr (oN 3 [(13, vi s21), (12, .v (.slice a0_0 x0.length c0_0)), (11, .v (.func (.func 167) #[] #[.pointer (some ⟨g1_0, 0, none⟩), .pointer (some ⟨g1_1, 0, none⟩)]))] [5, 8, 7, 0, 1] ?_))))
     obtain ⟨x37, hx38, h39⟩ := bS h35
     refine oi 1 (fun γ w hs => (hv0_0.kept hs.kept)) hx38 ?_
     refine ol 3 0 (.int .i64 x37) (fun γ w hs => (hv0_0.kept hs.kept).flatq hx38) ?_
     obtain ⟨t40, h41, h42⟩ := bS h39
     refine k0 (fun γ w hs => c_impl_allWithin_1 h41 (hc1_0.kept hs.kept) (hc1_1.kept hs.kept)) ?_
     refine oe (nt (cC h42 (fun h45 => ?_) (fun h46 => ?_)))
     · refine qs (qr (oN 2 [(4, vi s21)] [] ?_))
       refine oe (nt (qe (br (nr (nr ?_)))))
       have h47 := leafR hd30 h45 h26
       refine br (nr (nr ?_))
       obtain rfl := sI h47
       exact re [.int .i64 s21]
     refine qk (bn (nt (qr (oN 2 [(8, vi (w64 (s21 + 1)))] [7, 0, 1] ?_))))
     exact oe (ct h46 () [8, 7, 0, 1] [] 0)
   refine qx (nx (nx (bh ?_)))
   have h48 := leafB hd30 h36 h26
   exact mp ((), ()) h48 [] [] 0
 have h33 := (congrFun hk28 _).symm.trans h33p
 refine nt (qs (qr (oN 1 [(4, vi (-1))] [] ?_)))
 refine oe (nt (qe ?_))
 obtain rfl := sI h33
 exact re [.int .i64 (-1)]

theorem c_slices_ContainsFunc_int__impl_allWithin_1 {W : World} {x0 : List Int} {a0_0 : Option Addr} {c0_0 : Nat} {g1_0 : Nat} {z1_0 : Int} {g1_1 : Nat} {z1_1 : Int} {r : Bool} (h : slices_ContainsFunc_int__impl_allWithin_1 x0 z1_0 z1_1 = some r) (hv0_0 : SlView W x0 a0_0 c0_0) (hc1_0 : CellsAt W (some ⟨g1_0, 0, none⟩) 0 [.int .i64 z1_0]) (hc1_1 : CellsAt W (some ⟨g1_1, 0, none⟩) 0 [.int .i64 z1_1]) :
    Gives0 Tryz.prog 166 #[.slice a0_0 x0.length c0_0, .func (.func 167) #[] #[.pointer (some ⟨g1_0, 0, none⟩), .pointer (some ⟨g1_1, 0, none⟩)]] W (.bool r) := by
 unfold slices_ContainsFunc_int__impl_allWithin_1 at h
 refine en Tryz.func166 Tryz.ntmps166 ?_
 refine qs (qr (oN 1 [] [0, 1] ?_))
 refine oe (nt (qs (qr (oN 2 [(6, .v (.func (.func 167) #[] #[.pointer (some ⟨g1_0, 0, none⟩), .pointer (some ⟨g1_1, 0, none⟩)])), (5, .v (.slice a0_0 x0.length c0_0))] [] ?_))))
 obtain ⟨t21, h22, h23⟩ := bS h
 refine k0 (fun γ w hs => c_slices_IndexFunc_int__impl_allWithin_1 h22 (hv0_0.kept hs.kept) (hc1_0.kept hs.kept) (hc1_1.kept hs.kept)) ?_
 refine oN 2 [(4, vb (decide (t21 ≥ 0)))] [] ?_
 refine oe (nt (qe ?_))
 obtain rfl := sI h23
 exact re [.bool (decide (t21 ≥ 0))]

theorem c_impl_allWithin {W : World} {x0 : List Int} {a0_0 : Option Addr} {c0_0 : Nat} {x1 : Int} {x2 : Int} {r : Bool} (h : impl_allWithin x0 x1 x2 = some r) (hv0_0 : SlView W x0 a0_0 c0_0) :
    Gives0 Tryz.prog 128 #[.slice a0_0 x0.length c0_0, .int .i64 x1, .int .i64 x2] W (.bool r) := by
 unfold impl_allWithin at h
 refine en Tryz.func128 Tryz.ntmps128 ?_
 refine qs (qr (oB 3 [(5, .p 1 0), (4, .p 0 0)] [0] [(3, [.int .i64 x1]), (3, [.int .i64 x2])] ?_))
 refine oe (nt (qs (qr (oN 1 [(7, .v (.slice a0_0 x0.length c0_0))] [5, 4] ?_))))
 refine JO_mkfunc rfl (by kernel_rfl) (x := .f 167 [(0, 0), (1, 0)]) (by kernel_rfl) rfl ?_
 obtain ⟨t21, h22, h23⟩ := bS h
 refine JO_callD0 rfl (by kernel_rfl) (f := 166) (args := fun γ => #[.slice a0_0 x0.length c0_0, .func (.func 167) #[] #[.pointer (some ⟨γ.getD 0 0, 0, none⟩), .pointer (some ⟨γ.getD 1 0, 0, none⟩)]]) (fun γ => by kernel_rfl) (x := .bool t21) (fun γ w hs => (by have vv := c_slices_ContainsFunc_int__impl_allWithin_1 (W := w) h22 (hv0_0.kept hs.kept) (hs.boxCells (k := 0) (e := 3) (by kernel_rfl)) (hs.boxCells (k := 1) (e := 3) (by kernel_rfl)); exact vv)) rfl ?_
 refine oN 2 [(6, vb (!t21))] [] ?_
 refine oe (nt (qe ?_))
 obtain rfl := sI h23
 exact re [.bool (!t21)]

theorem c_impl_OfficeOk {W : World} {x0 : Office} {b0 : AC × AC × AC × AC × AC × AC} {r : Bool} (h : impl_OfficeOk x0 = some r) (hv0_0 : SlView W x0.Case.Book.Rules b0.1.1 b0.1.2) (hv0_1 : SlView W x0.Case.Store.Facts b0.2.1.1 b0.2.1.2) (hv0_2 : SlView W x0.Case.Series.Points b0.2.2.1.1 b0.2.2.1.2) (hv0_3 : SlView W x0.Case.Member.Spells b0.2.2.2.1.1 b0.2.2.2.1.2) (hv0_4 : SlView W x0.Case.Member.Events b0.2.2.2.2.1.1 b0.2.2.2.2.1.2) (hv0_5 : SlView W x0.Paid b0.2.2.2.2.2.1 b0.2.2.2.2.2.2) :
    Gives0 Tryz.prog 80 #[vOffice x0 b0] W (.bool r) := by
 unfold impl_OfficeOk at h
 refine en Tryz.func80 Tryz.ntmps80 ?_
 refine qs (qr (oB 2 [(1, .p 0 0)] [] [(57, (eOffice x0 b0))] ?_))
 refine oe (nt (qs ?_))
 obtain ⟨p21, hE22, h23⟩ := bS h
 refine JC_cut (τ := Unit) (fun _ => [(2, vb p21)]) (fun _ => [(57, (eOffice x0 b0))]) (fun _ => []) ?_ (fun _ => ?_)
 · refine qr (oN 2 [(4, .v (vCase x0.Case (b0.1, b0.2.1, b0.2.2.1, b0.2.2.2.1, b0.2.2.2.2.1)))] [1] ?_)
   obtain ⟨t24, h25, h26⟩ := bS hE22
   refine k0 (fun γ w hs => c_impl_CaseOk (b0 := (b0.1, b0.2.1, b0.2.2.1, b0.2.2.2.1, b0.2.2.2.2.1)) h25 (hv0_0.kept hs.kept) (hv0_1.kept hs.kept) (hv0_2.kept hs.kept) (hv0_3.kept hs.kept) (hv0_4.kept hs.kept)) ?_
   refine oN 1 [(6, vb t24)] [1] ?_
   refine oS 6 h26 (fun h29 => ?_) (fun h30 => ?_)
   · refine oN 2 [(8, vi x0.Start)] [6, 1] ?_
     obtain ⟨t31, h32, h33⟩ := bS h29
     refine k0 (fun γ w hs => c_impl_MonthOk h32) ?_
     refine oN 2 [(11, vb t31)] [1] ?_
     refine oS 11 h33 (fun h36 => ?_) (fun h37 => ?_)
     · refine oN 1 [(12, .v (vOffice x0 b0))] [11, 1] ?_
       obtain ⟨t38, h39, h40⟩ := bS h36
       refine k0 (fun γ w hs => c_impl_now (b0 := b0) h39 (hv0_0.kept hs.kept) (hv0_1.kept hs.kept) (hv0_2.kept hs.kept) (hv0_3.kept hs.kept) (hv0_4.kept hs.kept) (hv0_5.kept hs.kept)) ?_
       obtain ⟨t42, h43, h44⟩ := bS h40
       refine k0 (fun γ w hs => c_impl_MonthOk h43) ?_
       refine oN 2 [(16, vb t42)] [1] ?_
       refine oS 16 h44 (fun h47 => ?_) (fun h48 => ?_)
       · refine oN 6 [(22, vb (decide ((x0.Paid.length : Int) ≤ 240)))] [1] ?_
         refine oS 22 h47 (fun h50 => ?_) (fun h51 => ?_)
         · refine oN 2 [(24, .v (.slice b0.2.2.2.2.2.1 x0.Paid.length b0.2.2.2.2.2.2))] [22] ?_
           obtain ⟨t52, h53, h54⟩ := bS h50
           refine k0 (fun γ w hs => c_impl_allWithin h53 (hv0_5.kept hs.kept)) ?_
           refine oN 2 [(2, vb t52)] [] ?_
           refine oe ?_
           obtain rfl := sI h54
           exact mt () [2] [] 1
         refine oN 5 [(2, vb false)] [] ?_
         refine oe ?_
         obtain rfl := sI h51
         exact mt () [2] [] 1
       refine oN 11 [(2, vb false)] [] ?_
       refine oe ?_
       obtain rfl := sI h48
       exact mt () [2] [] 1
     refine oN 16 [(2, vb false)] [] ?_
     refine oe ?_
     obtain rfl := sI h37
     exact mt () [2] [] 1
   refine oN 21 [(2, vb false)] [] ?_
   refine oe ?_
   obtain rfl := sI h30
   exact mt () [2] [] 1
 refine nt (qe ?_)
 obtain rfl := sI h23
 exact re [.bool p21]

theorem c_impl_OfficeNew {W : World} {x0 : Case} {b0 : AC × AC × AC × AC × AC} {x1 : Int} {r : Office × Bool} (h : impl_OfficeNew x0 x1 = some r) (hv0_0 : SlView W x0.Book.Rules b0.1.1 b0.1.2) (hv0_1 : SlView W x0.Store.Facts b0.2.1.1 b0.2.1.2) (hv0_2 : SlView W x0.Series.Points b0.2.2.1.1 b0.2.2.1.2) (hv0_3 : SlView W x0.Member.Spells b0.2.2.2.1.1 b0.2.2.2.1.2) (hv0_4 : SlView W x0.Member.Events b0.2.2.2.2.1 b0.2.2.2.2.2) :
    Gives Tryz.prog 43 #[vCase x0 b0, .int .i64 x1] W (fun y : AC × AC × AC × AC × AC × AC => .tuple #[vOffice r.1 y, .bool r.2]) (fun y => [SlRes 188 r.1.Case.Book.Rules y.1.1 y.1.2, SlRes 84 r.1.Case.Store.Facts y.2.1.1 y.2.1.2, SlRes 85 r.1.Case.Series.Points y.2.2.1.1 y.2.2.1.2, SlRes 191 r.1.Case.Member.Spells y.2.2.2.1.1 y.2.2.2.1.2, SlRes 195 r.1.Case.Member.Events y.2.2.2.2.1.1 y.2.2.2.2.1.2, SlRes 3 r.1.Paid y.2.2.2.2.2.1 y.2.2.2.2.2.2]) := by
 unfold impl_OfficeNew at h
 refine en Tryz.func43 Tryz.ntmps43 ?_
 refine qs (qr (oB 3 [(4, .p 1 0), (2, .p 0 0)] [1] [(54, (eCase x0 b0)), (57, [.slice none 0 0, .slice none 0 0, .slice none 0 0, .int .i64 0, .int .i64 0, .slice none 0 0, .slice none 0 0, .int .i64 0, .slice none 0 0])] ?_))
 refine oe (nt (qs (qr (oN 1 [(7, .v (vCase x0 b0))] [4, 1] ?_))))
 obtain ⟨t21, h22, h23⟩ := bS h
 refine k1 (fun γ w hs => c_impl_copyCase (b0 := b0) h22 (hv0_0.kept hs.kept) (hv0_1.kept hs.kept) (hv0_2.kept hs.kept) (hv0_3.kept hs.kept) (hv0_4.kept hs.kept)) (fun y24 => ?_)
 refine oB 4 [(6, .p 2 0)] [4] [(54, (eCase x0 b0)), (57, [.slice none 0 0, .slice none 0 0, .slice none 0 0, .int .i64 0, .int .i64 0, .slice none 0 0, .slice none 0 0, .int .i64 0, .slice none 0 0]), (57, (eOffice (Office.mk t21 x1 ([] : List Int)) (y24.1, y24.2.1, y24.2.2.1, y24.2.2.2.1, y24.2.2.2.2, (none, 0))))] ?_
 refine oe (nt (qs (qs (qr (oN 1 [(11, .v (vOffice (Office.mk t21 x1 ([] : List Int)) (y24.1, y24.2.1, y24.2.2.1, y24.2.2.2.1, y24.2.2.2.2, (none, 0))))] [6, 4] ?_)))))
 obtain ⟨t25, h26, h27⟩ := bS h23
 refine k0 (fun γ w hs => c_impl_OfficeOk (b0 := (y24.1, y24.2.1, y24.2.2.1, y24.2.2.2.1, y24.2.2.2.2, (none, 0))) h26 (hs.view 0 rfl) (hs.view 1 rfl) (hs.view 2 rfl) (hs.view 3 rfl) (hs.view 4 rfl) (SlView.ofNil _)) ?_
 refine oN 1 [(13, vb (!t25))] [6, 4] ?_
 refine oe (nt (cC h27 (fun h30 => ?_) (fun h31 => ?_)))
 · refine qs (qr (oN 3 [(5, vb false)] [4] ?_))
   refine oe (nt (qe (nr (JE_addnil 188 (List.nil (α := Rule)) rfl ?_))))
   refine JE_addnil 84 (List.nil (α := Fact)) rfl ?_
   refine JE_addnil 85 (List.nil (α := Point)) rfl ?_
   refine JE_addnil 191 (List.nil (α := Spell)) rfl ?_
   refine JE_addnil 195 (List.nil (α := Event)) rfl ?_
   refine JE_addnil 3 (List.nil (α := Int)) rfl ?_
   refine rt [.agg #[.slice none 0 0, .slice none 0 0, .slice none 0 0, .int .i64 0, .int .i64 0, .slice none 0 0, .slice none 0 0, .int .i64 0, .slice none 0 0], .bool false] (fun γ w hs => ?_)
   rw [← sI h30]
   exact ⟨((none, 0), (none, 0), (none, 0), (none, 0), (none, 0), (none, 0)), rfl, hs.kept.toBelow, (hs.takeR (is := [5, 4, 3, 2, 1, 0]) rfl).fresh⟩
 refine qk (nt (qs (qr (oB 3 [(5, vb true)] [4] [(54, (eCase x0 b0)), (57, (eOffice (Office.mk t21 x1 ([] : List Int)) (y24.1, y24.2.1, y24.2.2.1, y24.2.2.2.1, y24.2.2.2.2, (none, 0)))), (57, (eOffice (Office.mk t21 x1 ([] : List Int)) (y24.1, y24.2.1, y24.2.2.1, y24.2.2.2.1, y24.2.2.2.2, (none, 0))))] ?_))))
 refine oe (nt (qe (JE_addnil 3 (List.nil (α := Int)) rfl ?_)))
 refine rt [vOffice (Office.mk t21 x1 ([] : List Int)) (y24.1, y24.2.1, y24.2.2.1, y24.2.2.2.1, y24.2.2.2.2, (none, 0)), .bool true] (fun γ w hs => ?_)
 rw [← sI h31]
 exact ⟨(y24.1, y24.2.1, y24.2.2.1, y24.2.2.2.1, y24.2.2.2.2, (none, 0)), rfl, hs.kept.toBelow, (hs.takeR (is := [1, 1, 1, 1, 1, 0]) rfl).fresh⟩

theorem c_laws_eqFrac {W : World} {x0 : Frac} {x1 : Frac} {r : Bool} (h : laws_eqFrac x0 x1 = some r)  :
    Gives0 Tryz.prog 244 #[vFrac x0, vFrac x1] W (.bool r) := by
 unfold laws_eqFrac at h
 refine en Tryz.func244 Tryz.ntmps244 ?_
 refine qs (qr (oB 3 [(3, .p 1 0), (2, .p 0 0)] [] [(216, (eFrac x0)), (216, (eFrac x1))] ?_))
 refine oe (nt (qs (qs (qr (oN 5 [(9, vb (x0.Num != x1.Num))] [3, 2] ?_)))))
 refine oe (nt (cC h (fun h22 => ?_) (fun h23 => ?_)))
 · refine qs (qr (oN 1 [(4, vb false)] [] ?_))
   refine oe (nt (qe (nr ?_)))
   obtain rfl := sI h22
   exact re [.bool false]
 refine qk (nt (qs (qs (qr (oN 5 [(14, vb (x0.Den != x1.Den))] [] ?_)))))
 refine oe (nt (cC h23 (fun h25 => ?_) (fun h26 => ?_)))
 · refine qs (qr (oN 1 [(4, vb false)] [] ?_))
   refine oe (nt (qe (nr ?_)))
   obtain rfl := sI h25
   exact re [.bool false]
 refine qk (nt (qs (qr (oN 1 [(4, vb true)] [] ?_))))
 refine oe (nt (qe ?_))
 obtain rfl := sI h26
 exact re [.bool true]

theorem c_laws_eqNode {W : World} {x0 : Node} {x1 : Node} {r : Bool} (h : laws_eqNode x0 x1 = some r)  :
    Gives0 Tryz.prog 233 #[vNode x0, vNode x1] W (.bool r) := by
 unfold laws_eqNode at h
 refine en Tryz.func233 Tryz.ntmps233 ?_
 refine qs (qr (oB 3 [(3, .p 1 0), (2, .p 0 0)] [] [(233, (eNode x0)), (233, (eNode x1))] ?_))
 refine oe (nt (qs (qs (qr (oN 5 [(9, vb (x0.Kind != x1.Kind))] [3, 2] ?_)))))
 refine oe (nt (cC h (fun h22 => ?_) (fun h23 => ?_)))
 · refine qs (qr (oN 1 [(4, vb false)] [] ?_))
   refine oe (nt (qe (nr ?_)))
   obtain rfl := sI h22
   exact re [.bool false]
 refine qk (nt (qs (qs (qr (oN 5 [(14, vb (x0.A != x1.A))] [3, 2] ?_)))))
 refine oe (nt (cC h23 (fun h25 => ?_) (fun h26 => ?_)))
 · refine qs (qr (oN 1 [(4, vb false)] [] ?_))
   refine oe (nt (qe (nr ?_)))
   obtain rfl := sI h25
   exact re [.bool false]
 refine qk (nt (qs (qs (qr (oN 5 [(19, vb (x0.B != x1.B))] [3, 2] ?_)))))
 refine oe (nt (cC h26 (fun h28 => ?_) (fun h29 => ?_)))
 · refine qs (qr (oN 1 [(4, vb false)] [] ?_))
   refine oe (nt (qe (nr ?_)))
   obtain rfl := sI h28
   exact re [.bool false]
 refine qk (nt (qs (qs (qr (oN 5 [(24, vb (x0.C != x1.C))] [3, 2] ?_)))))
 refine oe (nt (cC h29 (fun h31 => ?_) (fun h32 => ?_)))
 · refine qs (qr (oN 1 [(4, vb false)] [] ?_))
   refine oe (nt (qe (nr ?_)))
   obtain rfl := sI h31
   exact re [.bool false]
 refine qk (nt (qs (qs (qr (oN 4 [(28, .v (vFrac x1.Value)), (26, .v (vFrac x0.Value))] [] ?_)))))
 obtain ⟨t33, h34, h35⟩ := bS h32
 refine k0 (fun γ w hs => c_laws_eqFrac h34) ?_
 refine oN 1 [(30, vb (!t33))] [] ?_
 refine oe (nt (cC h35 (fun h38 => ?_) (fun h39 => ?_)))
 · refine qs (qr (oN 1 [(4, vb false)] [] ?_))
   refine oe (nt (qe (nr ?_)))
   obtain rfl := sI h38
   exact re [.bool false]
 refine qk (nt (qs (qr (oN 1 [(4, vb true)] [] ?_))))
 refine oe (nt (qe ?_))
 obtain rfl := sI h39
 exact re [.bool true]

theorem c_laws_eqNodeS {W : World} {x0 : List Node} {a0_0 : Option Addr} {c0_0 : Nat} {x1 : List Node} {a1_0 : Option Addr} {c1_0 : Nat} {r : Bool} (h : laws_eqNodeS x0 x1 = some r) (hv0_0 : SlView W x0 a0_0 c0_0) (hv1_0 : SlView W x1 a1_0 c1_0) :
    Gives0 Tryz.prog 206 #[.slice a0_0 x0.length c0_0, .slice a1_0 x1.length c1_0] W (.bool r) := by
 unfold laws_eqNodeS at h
 refine en Tryz.func206 Tryz.ntmps206 ?_
 refine qs (qr (oN 1 [] [0, 1] ?_))
 refine oe (nt (qs (qs (qr (oN 5 [(10, vb ((x0.length : Int) != (x1.length : Int)))] [0, 1] ?_)))))
 refine oe (nt (cC h (fun h22 => ?_) (fun h23 => ?_)))
 · refine qs (qr (oN 1 [(4, vb false)] [] ?_))
   refine oe (nt (qe (nr ?_)))
   obtain rfl := sI h22
   exact re [.bool false]
 refine qk (nt (qs (qs (qr (oN 1 [(5, vi 0)] [0, 1] ?_)))))
 refine oe (nt ?_)
 obtain ⟨r27, hL28, h29⟩ := bS h23
 obtain ⟨k30, hk31, h29⟩ := brkS h29
 refine JC_cutP (τ := (Unit) × (Unit)) (fun y => k30 y.1 = some r) (fun y35 => []) (fun y35 => []) (fun y35 => []) ?_ (fun y35 h36p => ?_)
 · refine qb (lp Unit hL28 (fun s24 y25 => [(5, vi s24), (0, .v (.slice a0_0 x0.length c0_0)), (1, .v (.slice a1_0 x1.length c1_0))]) (fun s24 y25 => []) (fun s24 y25 => []) () [5, 0, 1] [] 0 (fun s24 y25 t26 h32 hd33 => ?_))
   refine qs (qs (qr (oN 4 [(14, vb (decide (s24 < (x0.length : Int))))] [5, 0, 1] ?_)))
   refine oe (nt (cC h32 (fun h38 => ?_) (fun h39 => ?_)))
   · refine qk (nt (qs (qb (qs (JC_quiet (by kernel_rfl) (by kernel_rfl) ?_)))))
     refine qN 2 [(18, vi s24), (17, .v (.slice a0_0 x0.length c0_0))] [5, 0, 1] ?_
     obtain ⟨x40, hx41, h42⟩ := bS h38
     refine qi 6 (fun γ w hs => (hv0_0.kept hs.kept)) hx41 ?_
     refine ql 233 0 (vNode x40) (fun γ w hs => (hv0_0.kept hs.kept).flatq hx41) ?_
     refine qN 2 [(22, vi s24), (21, .v (.slice a1_0 x1.length c1_0))] [20, 5, 0, 1] ?_
     obtain ⟨x43, hx44, h45⟩ := bS h42
     refine qi 6 (fun γ w hs => (hv1_0.kept hs.kept)) hx44 ?_
     refine ql 233 0 (vNode x43) (fun γ w hs => (hv1_0.kept hs.kept).flatq hx44) ?_
     obtain ⟨t46, h47, h48⟩ := bS h45
     refine q0 (fun γ w hs => c_laws_eqNode h47) ?_
     refine qN 1 [(26, vb (!t46))] [5, 0, 1] ?_
     refine qz (nt (cC h48 (fun h51 => ?_) (fun h52 => ?_)))
     · refine qs (qr (oN 1 [(4, vb false)] [] ?_))
       refine oe (nt (qe (br (nr (nr ?_)))))
       have h53 := leafR hd33 h51 h29
       refine br (nr (nr ?_))
       obtain rfl := sI h53
       exact re [.bool false]
     refine qk (bn (nt (qr (oN 3 [(5, vi (w64 (s24 + 1)))] [0, 1] ?_))))
     exact oe (ct h52 () [5, 0, 1] [] 0)
   refine qx (nx (nx (bh ?_)))
   have h54 := leafB hd33 h39 h29
   exact mp ((), ()) h54 [] [] 0
 have h36 := (congrFun hk31 _).symm.trans h36p
 refine nt (qs (qr (oN 1 [(4, vb true)] [] ?_)))
 refine oe (nt (qe ?_))
 obtain rfl := sI h36
 exact re [.bool true]

theorem c_laws_eqRule {W : World} {x0 : Rule} {a0_0 : Option Addr} {c0_0 : Nat} {x1 : Rule} {a1_0 : Option Addr} {c1_0 : Nat} {r : Bool} (h : laws_eqRule x0 x1 = some r) (hv0_0 : SlView W x0.Nodes a0_0 c0_0) (hv1_0 : SlView W x1.Nodes a1_0 c1_0) :
    Gives0 Tryz.prog 155 #[vRule x0 (a0_0, c0_0), vRule x1 (a1_0, c1_0)] W (.bool r) := by
 unfold laws_eqRule at h
 refine en Tryz.func155 Tryz.ntmps155 ?_
 refine qs (qr (oB 3 [(3, .p 1 0), (2, .p 0 0)] [] [(188, (eRule x0 (a0_0, c0_0))), (188, (eRule x1 (a1_0, c1_0)))] ?_))
 refine oe (nt (qs (qs (qr (oN 5 [(9, vb (x0.Name != x1.Name))] [3, 2] ?_)))))
 refine oe (nt (cC h (fun h22 => ?_) (fun h23 => ?_)))
 · refine qs (qr (oN 1 [(4, vb false)] [] ?_))
   refine oe (nt (qe (nr ?_)))
   obtain rfl := sI h22
   exact re [.bool false]
 refine qk (nt (qs (qs (qr (oN 5 [(14, vb (x0.From != x1.From))] [3, 2] ?_)))))
 refine oe (nt (cC h23 (fun h25 => ?_) (fun h26 => ?_)))
 · refine qs (qr (oN 1 [(4, vb false)] [] ?_))
   refine oe (nt (qe (nr ?_)))
   obtain rfl := sI h25
   exact re [.bool false]
 refine qk (nt (qs (qs (qr (oN 5 [(19, vb (x0.To != x1.To))] [3, 2] ?_)))))
 refine oe (nt (cC h26 (fun h28 => ?_) (fun h29 => ?_)))
 · refine qs (qr (oN 1 [(4, vb false)] [] ?_))
   refine oe (nt (qe (nr ?_)))
   obtain rfl := sI h28
   exact re [.bool false]
 refine qk (nt (qs (qs (qr (oN 5 [(24, vb (x0.Joined != x1.Joined))] [3, 2] ?_)))))
 refine oe (nt (cC h29 (fun h31 => ?_) (fun h32 => ?_)))
 · refine qs (qr (oN 1 [(4, vb false)] [] ?_))
   refine oe (nt (qe (nr ?_)))
   obtain rfl := sI h31
   exact re [.bool false]
 refine qk (nt (qs (qs (qr (oN 5 [(29, vb (x0.Rank != x1.Rank))] [3, 2] ?_)))))
 refine oe (nt (cC h32 (fun h34 => ?_) (fun h35 => ?_)))
 · refine qs (qr (oN 1 [(4, vb false)] [] ?_))
   refine oe (nt (qe (nr ?_)))
   obtain rfl := sI h34
   exact re [.bool false]
 refine qk (nt (qs (qs (qr (oN 5 [(34, vb (x0.Mode != x1.Mode))] [3, 2] ?_)))))
 refine oe (nt (cC h35 (fun h37 => ?_) (fun h38 => ?_)))
 · refine qs (qr (oN 1 [(4, vb false)] [] ?_))
   refine oe (nt (qe (nr ?_)))
   obtain rfl := sI h37
   exact re [.bool false]
 refine qk (nt (qs (qs (qr (oN 4 [(38, .v (.slice a1_0 x1.Nodes.length c1_0)), (36, .v (.slice a0_0 x0.Nodes.length c0_0))] [] ?_)))))
 obtain ⟨t39, h40, h41⟩ := bS h38
 refine k0 (fun γ w hs => c_laws_eqNodeS h40 (hv0_0.kept hs.kept) (hv1_0.kept hs.kept)) ?_
 refine oN 1 [(40, vb (!t39))] [] ?_
 refine oe (nt (cC h41 (fun h44 => ?_) (fun h45 => ?_)))
 · refine qs (qr (oN 1 [(4, vb false)] [] ?_))
   refine oe (nt (qe (nr ?_)))
   obtain rfl := sI h44
   exact re [.bool false]
 refine qk (nt (qs (qr (oN 1 [(4, vb true)] [] ?_))))
 refine oe (nt (qe ?_))
 obtain rfl := sI h45
 exact re [.bool true]

theorem c_laws_eqRuleS {W : World} {x0 : List Rule} {a0_0 : Option Addr} {c0_0 : Nat} {x1 : List Rule} {a1_0 : Option Addr} {c1_0 : Nat} {r : Bool} (h : laws_eqRuleS x0 x1 = some r) (hv0_0 : SlView W x0 a0_0 c0_0) (hv1_0 : SlView W x1 a1_0 c1_0) :
    Gives0 Tryz.prog 107 #[.slice a0_0 x0.length c0_0, .slice a1_0 x1.length c1_0] W (.bool r) := by
 unfold laws_eqRuleS at h
 refine en Tryz.func107 Tryz.ntmps107 ?_
 refine qs (qr (oN 1 [] [0, 1] ?_))
 refine oe (nt (qs (qs (qr (oN 5 [(10, vb ((x0.length : Int) != (x1.length : Int)))] [0, 1] ?_)))))
 refine oe (nt (cC h (fun h22 => ?_) (fun h23 => ?_)))
 · refine qs (qr (oN 1 [(4, vb false)] [] ?_))
   refine oe (nt (qe (nr ?_)))
   obtain rfl := sI h22
   exact re [.bool false]
 refine qk (nt (qs (qs (qr (oN 1 [(5, vi 0)] [0, 1] ?_)))))
 refine oe (nt ?_)
 obtain ⟨r27, hL28, h29⟩ := bS h23
 obtain ⟨k30, hk31, h29⟩ := brkS h29
 refine JC_cutP (τ := (Unit) × (Unit)) (fun y => k30 y.1 = some r) (fun y35 => []) (fun y35 => []) (fun y35 => []) ?_ (fun y35 h36p => ?_)
 · refine qb (lp Unit hL28 (fun s24 y25 => [(5, vi s24), (0, .v (.slice a0_0 x0.length c0_0)), (1, .v (.slice a1_0 x1.length c1_0))]) (fun s24 y25 => []) (fun s24 y25 => []) () [5, 0, 1] [] 0 (fun s24 y25 t26 h32 hd33 => ?_))
   refine qs (qs (qr (oN 4 [(14, vb (decide (s24 < (x0.length : Int))))] [5, 0, 1] ?_)))
   refine oe (nt (cC h32 (fun h38 => ?_) (fun h39 => ?_)))
   · refine qk (nt (qs (qb (qs (JC_quiet (by kernel_rfl) (by kernel_rfl) ?_)))))
     refine qN 2 [(18, vi s24), (17, .v (.slice a0_0 x0.length c0_0))] [5, 0, 1] ?_
     obtain ⟨x40, hx41, h42⟩ := bS h38
     refine qi 7 (fun γ w hs => (hv0_0.kept hs.kept)) hx41 ?_
     obtain ⟨_, ⟨a43, c44, rfl, hv45⟩, hc46⟩ := SlView.at hv0_0 (idx_some hx41).2.2
     refine ql 188 0 (vRule x40 (a43, c44)) (fun γ w hs => ⟨(hv0_0.kept hs.kept).ne (idx_some hx41).2.2, hc46.kept hs.kept⟩) ?_
     refine qN 2 [(22, vi s24), (21, .v (.slice a1_0 x1.length c1_0))] [20, 5, 0, 1] ?_
     obtain ⟨x47, hx48, h49⟩ := bS h42
     refine qi 7 (fun γ w hs => (hv1_0.kept hs.kept)) hx48 ?_
     obtain ⟨_, ⟨a50, c51, rfl, hv52⟩, hc53⟩ := SlView.at hv1_0 (idx_some hx48).2.2
     refine ql 188 0 (vRule x47 (a50, c51)) (fun γ w hs => ⟨(hv1_0.kept hs.kept).ne (idx_some hx48).2.2, hc53.kept hs.kept⟩) ?_
     obtain ⟨t54, h55, h56⟩ := bS h49
     refine q0 (fun γ w hs => c_laws_eqRule h55 (hv45.kept hs.kept) (hv52.kept hs.kept)) ?_
     refine qN 1 [(26, vb (!t54))] [5, 0, 1] ?_
     refine qz (nt (cC h56 (fun h59 => ?_) (fun h60 => ?_)))
     · refine qs (qr (oN 1 [(4, vb false)] [] ?_))
       refine oe (nt (qe (br (nr (nr ?_)))))
       have h61 := leafR hd33 h59 h29
       refine br (nr (nr ?_))
       obtain rfl := sI h61
       exact re [.bool false]
     refine qk (bn (nt (qr (oN 3 [(5, vi (w64 (s24 + 1)))] [0, 1] ?_))))
     exact oe (ct h60 () [5, 0, 1] [] 0)
   refine qx (nx (nx (bh ?_)))
   have h62 := leafB hd33 h39 h29
   exact mp ((), ()) h62 [] [] 0
 have h36 := (congrFun hk31 _).symm.trans h36p
 refine nt (qs (qr (oN 1 [(4, vb true)] [] ?_)))
 refine oe (nt (qe ?_))
 obtain rfl := sI h36
 exact re [.bool true]

theorem c_laws_eqBook {W : World} {x0 : Book} {a0_0 : Option Addr} {c0_0 : Nat} {x1 : Book} {a1_0 : Option Addr} {c1_0 : Nat} {r : Bool} (h : laws_eqBook x0 x1 = some r) (hv0_0 : SlView W x0.Rules a0_0 c0_0) (hv1_0 : SlView W x1.Rules a1_0 c1_0) :
    Gives0 Tryz.prog 63 #[vBook x0 (a0_0, c0_0), vBook x1 (a1_0, c1_0)] W (.bool r) := by
 unfold laws_eqBook at h
 refine en Tryz.func63 Tryz.ntmps63 ?_
 refine qs (qr (oB 3 [(3, .p 1 0), (2, .p 0 0)] [] [(42, (eBook x0 (a0_0, c0_0))), (42, (eBook x1 (a1_0, c1_0)))] ?_))
 refine oe (nt (qs (qs (qr (oN 4 [(8, .v (.slice a1_0 x1.Rules.length c1_0)), (6, .v (.slice a0_0 x0.Rules.length c0_0))] [] ?_)))))
 obtain ⟨t21, h22, h23⟩ := bS h
 refine k0 (fun γ w hs => c_laws_eqRuleS h22 (hv0_0.kept hs.kept) (hv1_0.kept hs.kept)) ?_
 refine oN 1 [(10, vb (!t21))] [] ?_
 refine oe (nt (cC h23 (fun h26 => ?_) (fun h27 => ?_)))
 · refine qs (qr (oN 1 [(4, vb false)] [] ?_))
   refine oe (nt (qe (nr ?_)))
   obtain rfl := sI h26
   exact re [.bool false]
 refine qk (nt (qs (qr (oN 1 [(4, vb true)] [] ?_))))
 refine oe (nt (qe ?_))
 obtain rfl := sI h27
 exact re [.bool true]

theorem c_laws_eqFact {W : World} {x0 : Fact} {x1 : Fact} {r : Bool} (h : laws_eqFact x0 x1 = some r)  :
    Gives0 Tryz.prog 112 #[vFact x0, vFact x1] W (.bool r) := by
 unfold laws_eqFact at h
 refine en Tryz.func112 Tryz.ntmps112 ?_
 refine qs (qr (oB 3 [(3, .p 1 0), (2, .p 0 0)] [] [(84, (eFact x0)), (84, (eFact x1))] ?_))
 refine oe (nt (qs (qs (qr (oN 5 [(9, vb (x0.Key != x1.Key))] [3, 2] ?_)))))
 refine oe (nt (cC h (fun h22 => ?_) (fun h23 => ?_)))
 · refine qs (qr (oN 1 [(4, vb false)] [] ?_))
   refine oe (nt (qe (nr ?_)))
   obtain rfl := sI h22
   exact re [.bool false]
 refine qk (nt (qs (qs (qr (oN 5 [(14, vb (x0.From != x1.From))] [3, 2] ?_)))))
 refine oe (nt (cC h23 (fun h25 => ?_) (fun h26 => ?_)))
 · refine qs (qr (oN 1 [(4, vb false)] [] ?_))
   refine oe (nt (qe (nr ?_)))
   obtain rfl := sI h25
   exact re [.bool false]
 refine qk (nt (qs (qs (qr (oN 5 [(19, vb (x0.To != x1.To))] [3, 2] ?_)))))
 refine oe (nt (cC h26 (fun h28 => ?_) (fun h29 => ?_)))
 · refine qs (qr (oN 1 [(4, vb false)] [] ?_))
   refine oe (nt (qe (nr ?_)))
   obtain rfl := sI h28
   exact re [.bool false]
 refine qk (nt (qs (qs (qr (oN 5 [(24, vb (x0.Known != x1.Known))] [3, 2] ?_)))))
 refine oe (nt (cC h29 (fun h31 => ?_) (fun h32 => ?_)))
 · refine qs (qr (oN 1 [(4, vb false)] [] ?_))
   refine oe (nt (qe (nr ?_)))
   obtain rfl := sI h31
   exact re [.bool false]
 refine qk (nt (qs (qs (qr (oN 5 [(29, vb (x0.Value != x1.Value))] [] ?_)))))
 refine oe (nt (cC h32 (fun h34 => ?_) (fun h35 => ?_)))
 · refine qs (qr (oN 1 [(4, vb false)] [] ?_))
   refine oe (nt (qe (nr ?_)))
   obtain rfl := sI h34
   exact re [.bool false]
 refine qk (nt (qs (qr (oN 1 [(4, vb true)] [] ?_))))
 refine oe (nt (qe ?_))
 obtain rfl := sI h35
 exact re [.bool true]

theorem c_laws_eqFactS {W : World} {x0 : List Fact} {a0_0 : Option Addr} {c0_0 : Nat} {x1 : List Fact} {a1_0 : Option Addr} {c1_0 : Nat} {r : Bool} (h : laws_eqFactS x0 x1 = some r) (hv0_0 : SlView W x0 a0_0 c0_0) (hv1_0 : SlView W x1 a1_0 c1_0) :
    Gives0 Tryz.prog 108 #[.slice a0_0 x0.length c0_0, .slice a1_0 x1.length c1_0] W (.bool r) := by
 unfold laws_eqFactS at h
 refine en Tryz.func108 Tryz.ntmps108 ?_
 refine qs (qr (oN 1 [] [0, 1] ?_))
 refine oe (nt (qs (qs (qr (oN 5 [(10, vb ((x0.length : Int) != (x1.length : Int)))] [0, 1] ?_)))))
 refine oe (nt (cC h (fun h22 => ?_) (fun h23 => ?_)))
 · refine qs (qr (oN 1 [(4, vb false)] [] ?_))
   refine oe (nt (qe (nr ?_)))
   obtain rfl := sI h22
   exact re [.bool false]
 refine qk (nt (qs (qs (qr (oN 1 [(5, vi 0)] [0, 1] ?_)))))
 refine oe (nt ?_)
 obtain ⟨r27, hL28, h29⟩ := bS h23
 obtain ⟨k30, hk31, h29⟩ := brkS h29
 refine JC_cutP (τ := (Unit) × (Unit)) (fun y => k30 y.1 = some r) (fun y35 => []) (fun y35 => []) (fun y35 => []) ?_ (fun y35 h36p => ?_)
 · refine qb (lp Unit hL28 (fun s24 y25 => [(5, vi s24), (0, .v (.slice a0_0 x0.length c0_0)), (1, .v (.slice a1_0 x1.length c1_0))]) (fun s24 y25 => []) (fun s24 y25 => []) () [5, 0, 1] [] 0 (fun s24 y25 t26 h32 hd33 => ?_))
   refine qs (qs (qr (oN 4 [(14, vb (decide (s24 < (x0.length : Int))))] [5, 0, 1] ?_)))
   refine oe (nt (cC h32 (fun h38 => ?_) (fun h39 => ?_)))
   · refine qk (nt (qs (qb (qs (JC_quiet (by kernel_rfl) (by kernel_rfl) ?_)))))
     refine qN 2 [(18, vi s24), (17, .v (.slice a0_0 x0.length c0_0))] [5, 0, 1] ?_
     obtain ⟨x40, hx41, h42⟩ := bS h38
     refine qi 5 (fun γ w hs => (hv0_0.kept hs.kept)) hx41 ?_
     refine ql 84 0 (vFact x40) (fun γ w hs => (hv0_0.kept hs.kept).flatq hx41) ?_
     refine qN 2 [(22, vi s24), (21, .v (.slice a1_0 x1.length c1_0))] [20, 5, 0, 1] ?_
     obtain ⟨x43, hx44, h45⟩ := bS h42
     refine qi 5 (fun γ w hs => (hv1_0.kept hs.kept)) hx44 ?_
     refine ql 84 0 (vFact x43) (fun γ w hs => (hv1_0.kept hs.kept).flatq hx44) ?_
     obtain ⟨t46, h47, h48⟩ := bS h45
     refine q0 (fun γ w hs => c_laws_eqFact h47) ?_
     refine qN 1 [(26, vb (!t46))] [5, 0, 1] ?_
     refine qz (nt (cC h48 (fun h51 => ?_) (fun h52 => ?_)))
     · refine qs (qr (oN 1 [(4, vb false)] [] ?_))
       refine oe (nt (qe (br (nr (nr ?_)))))
       have h53 := leafR hd33 h51 h29
       refine br (nr (nr ?_))
       obtain rfl := sI h53
       exact re [.bool false]
     refine qk (bn (nt (qr (oN 3 [(5, vi (w64 (s24 + 1)))] [0, 1] ?_))))
     exact oe (ct h52 () [5, 0, 1] [] 0)
   refine qx (nx (nx (bh ?_)))
   have h54 := leafB hd33 h39 h29
   exact mp ((), ()) h54 [] [] 0
 have h36 := (congrFun hk31 _).symm.trans h36p
 refine nt (qs (qr (oN 1 [(4, vb true)] [] ?_)))
 refine oe (nt (qe ?_))
 obtain rfl := sI h36
 exact re [.bool true]

theorem c_laws_eqStore {W : World} {x0 : Store} {a0_0 : Option Addr} {c0_0 : Nat} {x1 : Store} {a1_0 : Option Addr} {c1_0 : Nat} {r : Bool} (h : laws_eqStore x0 x1 = some r) (hv0_0 : SlView W x0.Facts a0_0 c0_0) (hv1_0 : SlView W x1.Facts a1_0 c1_0) :
    Gives0 Tryz.prog 64 #[vStore x0 (a0_0, c0_0), vStore x1 (a1_0, c1_0)] W (.bool r) := by
 unfold laws_eqStore at h
 refine en Tryz.func64 Tryz.ntmps64 ?_
 refine qs (qr (oB 3 [(3, .p 1 0), (2, .p 0 0)] [] [(45, (eStore x0 (a0_0, c0_0))), (45, (eStore x1 (a1_0, c1_0)))] ?_))
 refine oe (nt (qs (qs (qr (oN 4 [(8, .v (.slice a1_0 x1.Facts.length c1_0)), (6, .v (.slice a0_0 x0.Facts.length c0_0))] [] ?_)))))
 obtain ⟨t21, h22, h23⟩ := bS h
 refine k0 (fun γ w hs => c_laws_eqFactS h22 (hv0_0.kept hs.kept) (hv1_0.kept hs.kept)) ?_
 refine oN 1 [(10, vb (!t21))] [] ?_
 refine oe (nt (cC h23 (fun h26 => ?_) (fun h27 => ?_)))
 · refine qs (qr (oN 1 [(4, vb false)] [] ?_))
   refine oe (nt (qe (nr ?_)))
   obtain rfl := sI h26
   exact re [.bool false]
 refine qk (nt (qs (qr (oN 1 [(4, vb true)] [] ?_))))
 refine oe (nt (qe ?_))
 obtain rfl := sI h27
 exact re [.bool true]

theorem c_laws_eqPoint {W : World} {x0 : Point} {x1 : Point} {r : Bool} (h : laws_eqPoint x0 x1 = some r)  :
    Gives0 Tryz.prog 113 #[vPoint x0, vPoint x1] W (.bool r) := by
 unfold laws_eqPoint at h
 refine en Tryz.func113 Tryz.ntmps113 ?_
 refine qs (qr (oB 3 [(3, .p 1 0), (2, .p 0 0)] [] [(85, (ePoint x0)), (85, (ePoint x1))] ?_))
 refine oe (nt (qs (qs (qr (oN 5 [(9, vb (x0.Month != x1.Month))] [3, 2] ?_)))))
 refine oe (nt (cC h (fun h22 => ?_) (fun h23 => ?_)))
 · refine qs (qr (oN 1 [(4, vb false)] [] ?_))
   refine oe (nt (qe (nr ?_)))
   obtain rfl := sI h22
   exact re [.bool false]
 refine qk (nt (qs (qs (qr (oN 5 [(14, vb (x0.Known != x1.Known))] [3, 2] ?_)))))
 refine oe (nt (cC h23 (fun h25 => ?_) (fun h26 => ?_)))
 · refine qs (qr (oN 1 [(4, vb false)] [] ?_))
   refine oe (nt (qe (nr ?_)))
   obtain rfl := sI h25
   exact re [.bool false]
 refine qk (nt (qs (qs (qr (oN 5 [(19, vb (x0.Value != x1.Value))] [] ?_)))))
 refine oe (nt (cC h26 (fun h28 => ?_) (fun h29 => ?_)))
 · refine qs (qr (oN 1 [(4, vb false)] [] ?_))
   refine oe (nt (qe (nr ?_)))
   obtain rfl := sI h28
   exact re [.bool false]
 refine qk (nt (qs (qr (oN 1 [(4, vb true)] [] ?_))))
 refine oe (nt (qe ?_))
 obtain rfl := sI h29
 exact re [.bool true]

theorem c_laws_eqPointS {W : World} {x0 : List Point} {a0_0 : Option Addr} {c0_0 : Nat} {x1 : List Point} {a1_0 : Option Addr} {c1_0 : Nat} {r : Bool} (h : laws_eqPointS x0 x1 = some r) (hv0_0 : SlView W x0 a0_0 c0_0) (hv1_0 : SlView W x1 a1_0 c1_0) :
    Gives0 Tryz.prog 109 #[.slice a0_0 x0.length c0_0, .slice a1_0 x1.length c1_0] W (.bool r) := by
 unfold laws_eqPointS at h
 refine en Tryz.func109 Tryz.ntmps109 ?_
 refine qs (qr (oN 1 [] [0, 1] ?_))
 refine oe (nt (qs (qs (qr (oN 5 [(10, vb ((x0.length : Int) != (x1.length : Int)))] [0, 1] ?_)))))
 refine oe (nt (cC h (fun h22 => ?_) (fun h23 => ?_)))
 · refine qs (qr (oN 1 [(4, vb false)] [] ?_))
   refine oe (nt (qe (nr ?_)))
   obtain rfl := sI h22
   exact re [.bool false]
 refine qk (nt (qs (qs (qr (oN 1 [(5, vi 0)] [0, 1] ?_)))))
 refine oe (nt ?_)
 obtain ⟨r27, hL28, h29⟩ := bS h23
 obtain ⟨k30, hk31, h29⟩ := brkS h29
 refine JC_cutP (τ := (Unit) × (Unit)) (fun y => k30 y.1 = some r) (fun y35 => []) (fun y35 => []) (fun y35 => []) ?_ (fun y35 h36p => ?_)
 · refine qb (lp Unit hL28 (fun s24 y25 => [(5, vi s24), (0, .v (.slice a0_0 x0.length c0_0)), (1, .v (.slice a1_0 x1.length c1_0))]) (fun s24 y25 => []) (fun s24 y25 => []) () [5, 0, 1] [] 0 (fun s24 y25 t26 h32 hd33 => ?_))
   refine qs (qs (qr (oN 4 [(14, vb (decide (s24 < (x0.length : Int))))] [5, 0, 1] ?_)))
   refine oe (nt (cC h32 (fun h38 => ?_) (fun h39 => ?_)))
   · refine qk (nt (qs (qb (qs (JC_quiet (by kernel_rfl) (by kernel_rfl) ?_)))))
     refine qN 2 [(18, vi s24), (17, .v (.slice a0_0 x0.length c0_0))] [5, 0, 1] ?_
     obtain ⟨x40, hx41, h42⟩ := bS h38
     refine qi 3 (fun γ w hs => (hv0_0.kept hs.kept)) hx41 ?_
     refine ql 85 0 (vPoint x40) (fun γ w hs => (hv0_0.kept hs.kept).flatq hx41) ?_
     refine qN 2 [(22, vi s24), (21, .v (.slice a1_0 x1.length c1_0))] [20, 5, 0, 1] ?_
     obtain ⟨x43, hx44, h45⟩ := bS h42
     refine qi 3 (fun γ w hs => (hv1_0.kept hs.kept)) hx44 ?_
     refine ql 85 0 (vPoint x43) (fun γ w hs => (hv1_0.kept hs.kept).flatq hx44) ?_
     obtain ⟨t46, h47, h48⟩ := bS h45
     refine q0 (fun γ w hs => c_laws_eqPoint h47) ?_
     refine qN 1 [(26, vb (!t46))] [5, 0, 1] ?_
     refine qz (nt (cC h48 (fun h51 => ?_) (fun h52 => ?_)))
     · refine qs (qr (oN 1 [(4, vb false)] [] ?_))
       refine oe (nt (qe (br (nr (nr ?_)))))
       have h53 := leafR hd33 h51 h29
       refine br (nr (nr ?_))
       obtain rfl := sI h53
       exact re [.bool false]
     refine qk (bn (nt (qr (oN 3 [(5, vi (w64 (s24 + 1)))] [0, 1] ?_))))
     exact oe (ct h52 () [5, 0, 1] [] 0)
   refine qx (nx (nx (bh ?_)))
   have h54 := leafB hd33 h39 h29
   exact mp ((), ()) h54 [] [] 0
 have h36 := (congrFun hk31 _).symm.trans h36p
 refine nt (qs (qr (oN 1 [(4, vb true)] [] ?_)))
 refine oe (nt (qe ?_))
 obtain rfl := sI h36
 exact re [.bool true]

theorem c_laws_eqSeries {W : World} {x0 : Series} {a0_0 : Option Addr} {c0_0 : Nat} {x1 : Series} {a1_0 : Option Addr} {c1_0 : Nat} {r : Bool} (h : laws_eqSeries x0 x1 = some r) (hv0_0 : SlView W x0.Points a0_0 c0_0) (hv1_0 : SlView W x1.Points a1_0 c1_0) :
    Gives0 Tryz.prog 65 #[vSeries x0 (a0_0, c0_0), vSeries x1 (a1_0, c1_0)] W (.bool r) := by
 unfold laws_eqSeries at h
 refine en Tryz.func65 Tryz.ntmps65 ?_
 refine qs (qr (oB 3 [(3, .p 1 0), (2, .p 0 0)] [] [(48, (eSeries x0 (a0_0, c0_0))), (48, (eSeries x1 (a1_0, c1_0)))] ?_))
 refine oe (nt (qs (qs (qr (oN 4 [(8, .v (.slice a1_0 x1.Points.length c1_0)), (6, .v (.slice a0_0 x0.Points.length c0_0))] [] ?_)))))
 obtain ⟨t21, h22, h23⟩ := bS h
 refine k0 (fun γ w hs => c_laws_eqPointS h22 (hv0_0.kept hs.kept) (hv1_0.kept hs.kept)) ?_
 refine oN 1 [(10, vb (!t21))] [] ?_
 refine oe (nt (cC h23 (fun h26 => ?_) (fun h27 => ?_)))
 · refine qs (qr (oN 1 [(4, vb false)] [] ?_))
   refine oe (nt (qe (nr ?_)))
   obtain rfl := sI h26
   exact re [.bool false]
 refine qk (nt (qs (qr (oN 1 [(4, vb true)] [] ?_))))
 refine oe (nt (qe ?_))
 obtain rfl := sI h27
 exact re [.bool true]

theorem c_laws_eqSpell {W : World} {x0 : Spell} {x1 : Spell} {r : Bool} (h : laws_eqSpell x0 x1 = some r)  :
    Gives0 Tryz.prog 156 #[vSpell x0, vSpell x1] W (.bool r) := by
 unfold laws_eqSpell at h
 refine en Tryz.func156 Tryz.ntmps156 ?_
 refine qs (qr (oB 3 [(3, .p 1 0), (2, .p 0 0)] [] [(191, (eSpell x0)), (191, (eSpell x1))] ?_))
 refine oe (nt (qs (qs (qr (oN 5 [(9, vb (x0.From != x1.From))] [3, 2] ?_)))))
 refine oe (nt (cC h (fun h22 => ?_) (fun h23 => ?_)))
 · refine qs (qr (oN 1 [(4, vb false)] [] ?_))
   refine oe (nt (qe (nr ?_)))
   obtain rfl := sI h22
   exact re [.bool false]
 refine qk (nt (qs (qs (qr (oN 5 [(14, vb (x0.To != x1.To))] [3, 2] ?_)))))
 refine oe (nt (cC h23 (fun h25 => ?_) (fun h26 => ?_)))
 · refine qs (qr (oN 1 [(4, vb false)] [] ?_))
   refine oe (nt (qe (nr ?_)))
   obtain rfl := sI h25
   exact re [.bool false]
 refine qk (nt (qs (qs (qr (oN 5 [(19, vb (x0.Percent != x1.Percent))] [3, 2] ?_)))))
 refine oe (nt (cC h26 (fun h28 => ?_) (fun h29 => ?_)))
 · refine qs (qr (oN 1 [(4, vb false)] [] ?_))
   refine oe (nt (qe (nr ?_)))
   obtain rfl := sI h28
   exact re [.bool false]
 refine qk (nt (qs (qs (qr (oN 5 [(24, vb (!(x0.Leave == x1.Leave)))] [] ?_)))))
 refine oe (nt (cC h29 (fun h31 => ?_) (fun h32 => ?_)))
 · refine qs (qr (oN 1 [(4, vb false)] [] ?_))
   refine oe (nt (qe (nr ?_)))
   obtain rfl := sI h31
   exact re [.bool false]
 refine qk (nt (qs (qr (oN 1 [(4, vb true)] [] ?_))))
 refine oe (nt (qe ?_))
 obtain rfl := sI h32
 exact re [.bool true]

theorem c_laws_eqSpellS {W : World} {x0 : List Spell} {a0_0 : Option Addr} {c0_0 : Nat} {x1 : List Spell} {a1_0 : Option Addr} {c1_0 : Nat} {r : Bool} (h : laws_eqSpellS x0 x1 = some r) (hv0_0 : SlView W x0 a0_0 c0_0) (hv1_0 : SlView W x1 a1_0 c1_0) :
    Gives0 Tryz.prog 110 #[.slice a0_0 x0.length c0_0, .slice a1_0 x1.length c1_0] W (.bool r) := by
 unfold laws_eqSpellS at h
 refine en Tryz.func110 Tryz.ntmps110 ?_
 refine qs (qr (oN 1 [] [0, 1] ?_))
 refine oe (nt (qs (qs (qr (oN 5 [(10, vb ((x0.length : Int) != (x1.length : Int)))] [0, 1] ?_)))))
 refine oe (nt (cC h (fun h22 => ?_) (fun h23 => ?_)))
 · refine qs (qr (oN 1 [(4, vb false)] [] ?_))
   refine oe (nt (qe (nr ?_)))
   obtain rfl := sI h22
   exact re [.bool false]
 refine qk (nt (qs (qs (qr (oN 1 [(5, vi 0)] [0, 1] ?_)))))
 refine oe (nt ?_)
 obtain ⟨r27, hL28, h29⟩ := bS h23
 obtain ⟨k30, hk31, h29⟩ := brkS h29
 refine JC_cutP (τ := (Unit) × (Unit)) (fun y => k30 y.1 = some r) (fun y35 => []) (fun y35 => []) (fun y35 => []) ?_ (fun y35 h36p => ?_)
 · refine qb (lp Unit hL28 (fun s24 y25 => [(5, vi s24), (0, .v (.slice a0_0 x0.length c0_0)), (1, .v (.slice a1_0 x1.length c1_0))]) (fun s24 y25 => []) (fun s24 y25 => []) () [5, 0, 1] [] 0 (fun s24 y25 t26 h32 hd33 => ?_))
   refine qs (qs (qr (oN 4 [(14, vb (decide (s24 < (x0.length : Int))))] [5, 0, 1] ?_)))
   refine oe (nt (cC h32 (fun h38 => ?_) (fun h39 => ?_)))
   · refine qk (nt (qs (qb (qs (JC_quiet (by kernel_rfl) (by kernel_rfl) ?_)))))
     refine qN 2 [(18, vi s24), (17, .v (.slice a0_0 x0.length c0_0))] [5, 0, 1] ?_
     obtain ⟨x40, hx41, h42⟩ := bS h38
     refine qi 4 (fun γ w hs => (hv0_0.kept hs.kept)) hx41 ?_
     refine ql 191 0 (vSpell x40) (fun γ w hs => (hv0_0.kept hs.kept).flatq hx41) ?_
     refine qN 2 [(22, vi s24), (21, .v (.slice a1_0 x1.length c1_0))] [20, 5, 0, 1] ?_
     obtain ⟨x43, hx44, h45⟩ := bS h42
     refine qi 4 (fun γ w hs => (hv1_0.kept hs.kept)) hx44 ?_
     refine ql 191 0 (vSpell x43) (fun γ w hs => (hv1_0.kept hs.kept).flatq hx44) ?_
     obtain ⟨t46, h47, h48⟩ := bS h45
     refine q0 (fun γ w hs => c_laws_eqSpell h47) ?_
     refine qN 1 [(26, vb (!t46))] [5, 0, 1] ?_
     refine qz (nt (cC h48 (fun h51 => ?_) (fun h52 => ?_)))
     · refine qs (qr (oN 1 [(4, vb false)] [] ?_))
       refine oe (nt (qe (br (nr (nr ?_)))))
       have h53 := leafR hd33 h51 h29
       refine br (nr (nr ?_))
       obtain rfl := sI h53
       exact re [.bool false]
     refine qk (bn (nt (qr (oN 3 [(5, vi (w64 (s24 + 1)))] [0, 1] ?_))))
     exact oe (ct h52 () [5, 0, 1] [] 0)
   refine qx (nx (nx (bh ?_)))
   have h54 := leafB hd33 h39 h29
   exact mp ((), ()) h54 [] [] 0
 have h36 := (congrFun hk31 _).symm.trans h36p
 refine nt (qs (qr (oN 1 [(4, vb true)] [] ?_)))
 refine oe (nt (qe ?_))
 obtain rfl := sI h36
 exact re [.bool true]

theorem c_laws_eqEvent {W : World} {x0 : Event} {x1 : Event} {r : Bool} (h : laws_eqEvent x0 x1 = some r)  :
    Gives0 Tryz.prog 157 #[vEvent x0, vEvent x1] W (.bool r) := by
 unfold laws_eqEvent at h
 refine en Tryz.func157 Tryz.ntmps157 ?_
 refine qs (qr (oB 3 [(3, .p 1 0), (2, .p 0 0)] [] [(195, (eEvent x0)), (195, (eEvent x1))] ?_))
 refine oe (nt (qs (qs (qr (oN 5 [(9, vb (x0.Kind != x1.Kind))] [3, 2] ?_)))))
 refine oe (nt (cC h (fun h22 => ?_) (fun h23 => ?_)))
 · refine qs (qr (oN 1 [(4, vb false)] [] ?_))
   refine oe (nt (qe (nr ?_)))
   obtain rfl := sI h22
   exact re [.bool false]
 refine qk (nt (qs (qs (qr (oN 5 [(14, vb (x0.Month != x1.Month))] [] ?_)))))
 refine oe (nt (cC h23 (fun h25 => ?_) (fun h26 => ?_)))
 · refine qs (qr (oN 1 [(4, vb false)] [] ?_))
   refine oe (nt (qe (nr ?_)))
   obtain rfl := sI h25
   exact re [.bool false]
 refine qk (nt (qs (qr (oN 1 [(4, vb true)] [] ?_))))
 refine oe (nt (qe ?_))
 obtain rfl := sI h26
 exact re [.bool true]

theorem c_laws_eqEventS {W : World} {x0 : List Event} {a0_0 : Option Addr} {c0_0 : Nat} {x1 : List Event} {a1_0 : Option Addr} {c1_0 : Nat} {r : Bool} (h : laws_eqEventS x0 x1 = some r) (hv0_0 : SlView W x0 a0_0 c0_0) (hv1_0 : SlView W x1 a1_0 c1_0) :
    Gives0 Tryz.prog 111 #[.slice a0_0 x0.length c0_0, .slice a1_0 x1.length c1_0] W (.bool r) := by
 unfold laws_eqEventS at h
 refine en Tryz.func111 Tryz.ntmps111 ?_
 refine qs (qr (oN 1 [] [0, 1] ?_))
 refine oe (nt (qs (qs (qr (oN 5 [(10, vb ((x0.length : Int) != (x1.length : Int)))] [0, 1] ?_)))))
 refine oe (nt (cC h (fun h22 => ?_) (fun h23 => ?_)))
 · refine qs (qr (oN 1 [(4, vb false)] [] ?_))
   refine oe (nt (qe (nr ?_)))
   obtain rfl := sI h22
   exact re [.bool false]
 refine qk (nt (qs (qs (qr (oN 1 [(5, vi 0)] [0, 1] ?_)))))
 refine oe (nt ?_)
 obtain ⟨r27, hL28, h29⟩ := bS h23
 obtain ⟨k30, hk31, h29⟩ := brkS h29
 refine JC_cutP (τ := (Unit) × (Unit)) (fun y => k30 y.1 = some r) (fun y35 => []) (fun y35 => []) (fun y35 => []) ?_ (fun y35 h36p => ?_)
 · refine qb (lp Unit hL28 (fun s24 y25 => [(5, vi s24), (0, .v (.slice a0_0 x0.length c0_0)), (1, .v (.slice a1_0 x1.length c1_0))]) (fun s24 y25 => []) (fun s24 y25 => []) () [5, 0, 1] [] 0 (fun s24 y25 t26 h32 hd33 => ?_))
   refine qs (qs (qr (oN 4 [(14, vb (decide (s24 < (x0.length : Int))))] [5, 0, 1] ?_)))
   refine oe (nt (cC h32 (fun h38 => ?_) (fun h39 => ?_)))
   · refine qk (nt (qs (qb (qs (JC_quiet (by kernel_rfl) (by kernel_rfl) ?_)))))
     refine qN 2 [(18, vi s24), (17, .v (.slice a0_0 x0.length c0_0))] [5, 0, 1] ?_
     obtain ⟨x40, hx41, h42⟩ := bS h38
     refine qi 2 (fun γ w hs => (hv0_0.kept hs.kept)) hx41 ?_
     refine ql 195 0 (vEvent x40) (fun γ w hs => (hv0_0.kept hs.kept).flatq hx41) ?_
     refine qN 2 [(22, vi s24), (21, .v (.slice a1_0 x1.length c1_0))] [20, 5, 0, 1] ?_
     obtain ⟨x43, hx44, h45⟩ := bS h42
     refine qi 2 (fun γ w hs => (hv1_0.kept hs.kept)) hx44 ?_
     refine ql 195 0 (vEvent x43) (fun γ w hs => (hv1_0.kept hs.kept).flatq hx44) ?_
     obtain ⟨t46, h47, h48⟩ := bS h45
     refine q0 (fun γ w hs => c_laws_eqEvent h47) ?_
     refine qN 1 [(26, vb (!t46))] [5, 0, 1] ?_
     refine qz (nt (cC h48 (fun h51 => ?_) (fun h52 => ?_)))
     · refine qs (qr (oN 1 [(4, vb false)] [] ?_))
       refine oe (nt (qe (br (nr (nr ?_)))))
       have h53 := leafR hd33 h51 h29
       refine br (nr (nr ?_))
       obtain rfl := sI h53
       exact re [.bool false]
     refine qk (bn (nt (qr (oN 3 [(5, vi (w64 (s24 + 1)))] [0, 1] ?_))))
     exact oe (ct h52 () [5, 0, 1] [] 0)
   refine qx (nx (nx (bh ?_)))
   have h54 := leafB hd33 h39 h29
   exact mp ((), ()) h54 [] [] 0
 have h36 := (congrFun hk31 _).symm.trans h36p
 refine nt (qs (qr (oN 1 [(4, vb true)] [] ?_)))
 refine oe (nt (qe ?_))
 obtain rfl := sI h36
 exact re [.bool true]

theorem c_laws_eqMember {W : World} {x0 : Member} {b0 : AC × AC} {x1 : Member} {b1 : AC × AC} {r : Bool} (h : laws_eqMember x0 x1 = some r) (hv0_0 : SlView W x0.Spells b0.1.1 b0.1.2) (hv0_1 : SlView W x0.Events b0.2.1 b0.2.2) (hv1_0 : SlView W x1.Spells b1.1.1 b1.1.2) (hv1_1 : SlView W x1.Events b1.2.1 b1.2.2) :
    Gives0 Tryz.prog 66 #[vMember x0 b0, vMember x1 b1] W (.bool r) := by
 unfold laws_eqMember at h
 refine en Tryz.func66 Tryz.ntmps66 ?_
 refine qs (qr (oB 3 [(3, .p 1 0), (2, .p 0 0)] [] [(52, (eMember x0 b0)), (52, (eMember x1 b1))] ?_))
 refine oe (nt (qs (qs (qr (oN 5 [(9, vb (x0.Birth != x1.Birth))] [3, 2] ?_)))))
 refine oe (nt (cC h (fun h22 => ?_) (fun h23 => ?_)))
 · refine qs (qr (oN 1 [(4, vb false)] [] ?_))
   refine oe (nt (qe (nr ?_)))
   obtain rfl := sI h22
   exact re [.bool false]
 refine qk (nt (qs (qs (qr (oN 5 [(14, vb (x0.Joined != x1.Joined))] [3, 2] ?_)))))
 refine oe (nt (cC h23 (fun h25 => ?_) (fun h26 => ?_)))
 · refine qs (qr (oN 1 [(4, vb false)] [] ?_))
   refine oe (nt (qe (nr ?_)))
   obtain rfl := sI h25
   exact re [.bool false]
 refine qk (nt (qs (qs (qr (oN 4 [(18, .v (.slice b1.1.1 x1.Spells.length b1.1.2)), (16, .v (.slice b0.1.1 x0.Spells.length b0.1.2))] [3, 2] ?_)))))
 obtain ⟨t27, h28, h29⟩ := bS h26
 refine k0 (fun γ w hs => c_laws_eqSpellS h28 (hv0_0.kept hs.kept) (hv1_0.kept hs.kept)) ?_
 refine oN 1 [(20, vb (!t27))] [3, 2] ?_
 refine oe (nt (cC h29 (fun h32 => ?_) (fun h33 => ?_)))
 · refine qs (qr (oN 1 [(4, vb false)] [] ?_))
   refine oe (nt (qe (nr ?_)))
   obtain rfl := sI h32
   exact re [.bool false]
 refine qk (nt (qs (qs (qr (oN 4 [(24, .v (.slice b1.2.1 x1.Events.length b1.2.2)), (22, .v (.slice b0.2.1 x0.Events.length b0.2.2))] [] ?_)))))
 obtain ⟨t34, h35, h36⟩ := bS h33
 refine k0 (fun γ w hs => c_laws_eqEventS h35 (hv0_1.kept hs.kept) (hv1_1.kept hs.kept)) ?_
 refine oN 1 [(26, vb (!t34))] [] ?_
 refine oe (nt (cC h36 (fun h39 => ?_) (fun h40 => ?_)))
 · refine qs (qr (oN 1 [(4, vb false)] [] ?_))
   refine oe (nt (qe (nr ?_)))
   obtain rfl := sI h39
   exact re [.bool false]
 refine qk (nt (qs (qr (oN 1 [(4, vb true)] [] ?_))))
 refine oe (nt (qe ?_))
 obtain rfl := sI h40
 exact re [.bool true]

theorem c_laws_eqCase {W : World} {x0 : Case} {b0 : AC × AC × AC × AC × AC} {x1 : Case} {b1 : AC × AC × AC × AC × AC} {r : Bool} (h : laws_eqCase x0 x1 = some r) (hv0_0 : SlView W x0.Book.Rules b0.1.1 b0.1.2) (hv0_1 : SlView W x0.Store.Facts b0.2.1.1 b0.2.1.2) (hv0_2 : SlView W x0.Series.Points b0.2.2.1.1 b0.2.2.1.2) (hv0_3 : SlView W x0.Member.Spells b0.2.2.2.1.1 b0.2.2.2.1.2) (hv0_4 : SlView W x0.Member.Events b0.2.2.2.2.1 b0.2.2.2.2.2) (hv1_0 : SlView W x1.Book.Rules b1.1.1 b1.1.2) (hv1_1 : SlView W x1.Store.Facts b1.2.1.1 b1.2.1.2) (hv1_2 : SlView W x1.Series.Points b1.2.2.1.1 b1.2.2.1.2) (hv1_3 : SlView W x1.Member.Spells b1.2.2.2.1.1 b1.2.2.2.1.2) (hv1_4 : SlView W x1.Member.Events b1.2.2.2.2.1 b1.2.2.2.2.2) :
    Gives0 Tryz.prog 21 #[vCase x0 b0, vCase x1 b1] W (.bool r) := by
 unfold laws_eqCase at h
 refine en Tryz.func21 Tryz.ntmps21 ?_
 refine qs (qr (oB 3 [(3, .p 1 0), (2, .p 0 0)] [] [(54, (eCase x0 b0)), (54, (eCase x1 b1))] ?_))
 refine oe (nt (qs (qs (qr (oN 4 [(8, .v (vBook x1.Book b1.1)), (6, .v (vBook x0.Book b0.1))] [3, 2] ?_)))))
 obtain ⟨t21, h22, h23⟩ := bS h
 refine k0 (fun γ w hs => c_laws_eqBook h22 (hv0_0.kept hs.kept) (hv1_0.kept hs.kept)) ?_
 refine oN 1 [(10, vb (!t21))] [3, 2] ?_
 refine oe (nt (cC h23 (fun h26 => ?_) (fun h27 => ?_)))
 · refine qs (qr (oN 1 [(4, vb false)] [] ?_))
   refine oe (nt (qe (nr ?_)))
   obtain rfl := sI h26
   exact re [.bool false]
 refine qk (nt (qs (qs (qr (oN 4 [(14, .v (vStore x1.Store b1.2.1)), (12, .v (vStore x0.Store b0.2.1))] [3, 2] ?_)))))
 obtain ⟨t28, h29, h30⟩ := bS h27
 refine k0 (fun γ w hs => c_laws_eqStore h29 (hv0_1.kept hs.kept) (hv1_1.kept hs.kept)) ?_
 refine oN 1 [(16, vb (!t28))] [3, 2] ?_
 refine oe (nt (cC h30 (fun h33 => ?_) (fun h34 => ?_)))
 · refine qs (qr (oN 1 [(4, vb false)] [] ?_))
   refine oe (nt (qe (nr ?_)))
   obtain rfl := sI h33
   exact re [.bool false]
 refine qk (nt (qs (qs (qr (oN 4 [(20, .v (vSeries x1.Series b1.2.2.1)), (18, .v (vSeries x0.Series b0.2.2.1))] [3, 2] ?_)))))
 obtain ⟨t35, h36, h37⟩ := bS h34
 refine k0 (fun γ w hs => c_laws_eqSeries h36 (hv0_2.kept hs.kept) (hv1_2.kept hs.kept)) ?_
 refine oN 1 [(22, vb (!t35))] [3, 2] ?_
 refine oe (nt (cC h37 (fun h40 => ?_) (fun h41 => ?_)))
 · refine qs (qr (oN 1 [(4, vb false)] [] ?_))
   refine oe (nt (qe (nr ?_)))
   obtain rfl := sI h40
   exact re [.bool false]
 refine qk (nt (qs (qs (qr (oN 4 [(26, .v (vMember x1.Member b1.2.2.2)), (24, .v (vMember x0.Member b0.2.2.2))] [] ?_)))))
 obtain ⟨t42, h43, h44⟩ := bS h41
 refine k0 (fun γ w hs => c_laws_eqMember (b0 := b0.2.2.2) (b1 := b1.2.2.2) h43 (hv0_3.kept hs.kept) (hv0_4.kept hs.kept) (hv1_3.kept hs.kept) (hv1_4.kept hs.kept)) ?_
 refine oN 1 [(28, vb (!t42))] [] ?_
 refine oe (nt (cC h44 (fun h47 => ?_) (fun h48 => ?_)))
 · refine qs (qr (oN 1 [(4, vb false)] [] ?_))
   refine oe (nt (qe (nr ?_)))
   obtain rfl := sI h47
   exact re [.bool false]
 refine qk (nt (qs (qr (oN 1 [(4, vb true)] [] ?_))))
 refine oe (nt (qe ?_))
 obtain rfl := sI h48
 exact re [.bool true]

theorem c_laws_eqIntS {W : World} {x0 : List Int} {a0_0 : Option Addr} {c0_0 : Nat} {x1 : List Int} {a1_0 : Option Addr} {c1_0 : Nat} {r : Bool} (h : laws_eqIntS x0 x1 = some r) (hv0_0 : SlView W x0 a0_0 c0_0) (hv1_0 : SlView W x1 a1_0 c1_0) :
    Gives0 Tryz.prog 20 #[.slice a0_0 x0.length c0_0, .slice a1_0 x1.length c1_0] W (.bool r) := by
 unfold laws_eqIntS at h
 refine en Tryz.func20 Tryz.ntmps20 ?_
 refine qs (qr (oN 1 [] [0, 1] ?_))
 refine oe (nt (qs (qs (qr (oN 5 [(10, vb ((x0.length : Int) != (x1.length : Int)))] [0, 1] ?_)))))
 refine oe (nt (cC h (fun h22 => ?_) (fun h23 => ?_)))
 · refine qs (qr (oN 1 [(4, vb false)] [] ?_))
   refine oe (nt (qe (nr ?_)))
   obtain rfl := sI h22
   exact re [.bool false]
 refine qk (nt (qs (qs (qr (oN 1 [(5, vi 0)] [0, 1] ?_)))))
 refine oe (nt ?_)
 obtain ⟨r27, hL28, h29⟩ := bS h23
 obtain ⟨k30, hk31, h29⟩ := brkS h29
 refine JC_cutP (τ := (Unit) × (Unit)) (fun y => k30 y.1 = some r) (fun y35 => []) (fun y35 => []) (fun y35 => []) ?_ (fun y35 h36p => ?_)
 · refine qb (lp Unit hL28 (fun s24 y25 => [(5, vi s24), (0, .v (.slice a0_0 x0.length c0_0)), (1, .v (.slice a1_0 x1.length c1_0))]) (fun s24 y25 => []) (fun s24 y25 => []) () [5, 0, 1] [] 0 (fun s24 y25 t26 h32 hd33 => ?_))
   refine qs (qs (qr (oN 4 [(14, vb (decide (s24 < (x0.length : Int))))] [5, 0, 1] ?_)))
   refine oe (nt (cC h32 (fun h38 => ?_) (fun h39 => ?_)))
   · refine qk (nt (qs (qb (qs (JC_quiet (by kernel_rfl) (by kernel_rfl) ?_)))))
     refine qN 2 [(18, vi s24), (17, .v (.slice a0_0 x0.length c0_0))] [5, 0, 1] ?_
     obtain ⟨x40, hx41, h42⟩ := bS h38
     refine qi 1 (fun γ w hs => (hv0_0.kept hs.kept)) hx41 ?_
     refine ql 3 0 (.int .i64 x40) (fun γ w hs => (hv0_0.kept hs.kept).flatq hx41) ?_
     refine qN 2 [(22, vi s24), (21, .v (.slice a1_0 x1.length c1_0))] [20, 5, 0, 1] ?_
     obtain ⟨x43, hx44, h45⟩ := bS h42
     refine qi 1 (fun γ w hs => (hv1_0.kept hs.kept)) hx44 ?_
     refine ql 3 0 (.int .i64 x43) (fun γ w hs => (hv1_0.kept hs.kept).flatq hx44) ?_
     refine qN 1 [(25, vb (x40 != x43))] [5, 0, 1] ?_
     refine qz (nt (cC h45 (fun h47 => ?_) (fun h48 => ?_)))
     · refine qs (qr (oN 1 [(4, vb false)] [] ?_))
       refine oe (nt (qe (br (nr (nr ?_)))))
       have h49 := leafR hd33 h47 h29
       refine br (nr (nr ?_))
       obtain rfl := sI h49
       exact re [.bool false]
     refine qk (bn (nt (qr (oN 3 [(5, vi (w64 (s24 + 1)))] [0, 1] ?_))))
     exact oe (ct h48 () [5, 0, 1] [] 0)
   refine qx (nx (nx (bh ?_)))
   have h50 := leafB hd33 h39 h29
   exact mp ((), ()) h50 [] [] 0
 have h36 := (congrFun hk31 _).symm.trans h36p
 refine nt (qs (qr (oN 1 [(4, vb true)] [] ?_)))
 refine oe (nt (qe ?_))
 obtain rfl := sI h36
 exact re [.bool true]

theorem c_laws_eqOffice {W : World} {x0 : Office} {b0 : AC × AC × AC × AC × AC × AC} {x1 : Office} {b1 : AC × AC × AC × AC × AC × AC} {r : Bool} (h : laws_eqOffice x0 x1 = some r) (hv0_0 : SlView W x0.Case.Book.Rules b0.1.1 b0.1.2) (hv0_1 : SlView W x0.Case.Store.Facts b0.2.1.1 b0.2.1.2) (hv0_2 : SlView W x0.Case.Series.Points b0.2.2.1.1 b0.2.2.1.2) (hv0_3 : SlView W x0.Case.Member.Spells b0.2.2.2.1.1 b0.2.2.2.1.2) (hv0_4 : SlView W x0.Case.Member.Events b0.2.2.2.2.1.1 b0.2.2.2.2.1.2) (hv0_5 : SlView W x0.Paid b0.2.2.2.2.2.1 b0.2.2.2.2.2.2) (hv1_0 : SlView W x1.Case.Book.Rules b1.1.1 b1.1.2) (hv1_1 : SlView W x1.Case.Store.Facts b1.2.1.1 b1.2.1.2) (hv1_2 : SlView W x1.Case.Series.Points b1.2.2.1.1 b1.2.2.1.2) (hv1_3 : SlView W x1.Case.Member.Spells b1.2.2.2.1.1 b1.2.2.2.1.2) (hv1_4 : SlView W x1.Case.Member.Events b1.2.2.2.2.1.1 b1.2.2.2.2.1.2) (hv1_5 : SlView W x1.Paid b1.2.2.2.2.2.1 b1.2.2.2.2.2.2) :
    Gives0 Tryz.prog 19 #[vOffice x0 b0, vOffice x1 b1] W (.bool r) := by
 unfold laws_eqOffice at h
 refine en Tryz.func19 Tryz.ntmps19 ?_
 refine qs (qr (oB 3 [(3, .p 1 0), (2, .p 0 0)] [] [(57, (eOffice x0 b0)), (57, (eOffice x1 b1))] ?_))
 refine oe (nt (qs (qs (qr (oN 4 [(8, .v (vCase x1.Case (b1.1, b1.2.1, b1.2.2.1, b1.2.2.2.1, b1.2.2.2.2.1))), (6, .v (vCase x0.Case (b0.1, b0.2.1, b0.2.2.1, b0.2.2.2.1, b0.2.2.2.2.1)))] [3, 2] ?_)))))
 obtain ⟨t21, h22, h23⟩ := bS h
 refine k0 (fun γ w hs => c_laws_eqCase (b0 := (b0.1, b0.2.1, b0.2.2.1, b0.2.2.2.1, b0.2.2.2.2.1)) (b1 := (b1.1, b1.2.1, b1.2.2.1, b1.2.2.2.1, b1.2.2.2.2.1)) h22 (hv0_0.kept hs.kept) (hv0_1.kept hs.kept) (hv0_2.kept hs.kept) (hv0_3.kept hs.kept) (hv0_4.kept hs.kept) (hv1_0.kept hs.kept) (hv1_1.kept hs.kept) (hv1_2.kept hs.kept) (hv1_3.kept hs.kept) (hv1_4.kept hs.kept)) ?_
 refine oN 1 [(10, vb (!t21))] [3, 2] ?_
 refine oe (nt (cC h23 (fun h26 => ?_) (fun h27 => ?_)))
 · refine qs (qr (oN 1 [(4, vb false)] [] ?_))
   refine oe (nt (qe (nr ?_)))
   obtain rfl := sI h26
   exact re [.bool false]
 refine qk (nt (qs (qs (qr (oN 5 [(15, vb (x0.Start != x1.Start))] [3, 2] ?_)))))
 refine oe (nt (cC h27 (fun h29 => ?_) (fun h30 => ?_)))
 · refine qs (qr (oN 1 [(4, vb false)] [] ?_))
   refine oe (nt (qe (nr ?_)))
   obtain rfl := sI h29
   exact re [.bool false]
 refine qk (nt (qs (qs (qr (oN 4 [(19, .v (.slice b1.2.2.2.2.2.1 x1.Paid.length b1.2.2.2.2.2.2)), (17, .v (.slice b0.2.2.2.2.2.1 x0.Paid.length b0.2.2.2.2.2.2))] [] ?_)))))
 obtain ⟨t31, h32, h33⟩ := bS h30
 refine k0 (fun γ w hs => c_laws_eqIntS h32 (hv0_5.kept hs.kept) (hv1_5.kept hs.kept)) ?_
 refine oN 1 [(21, vb (!t31))] [] ?_
 refine oe (nt (cC h33 (fun h36 => ?_) (fun h37 => ?_)))
 · refine qs (qr (oN 1 [(4, vb false)] [] ?_))
   refine oe (nt (qe (nr ?_)))
   obtain rfl := sI h36
   exact re [.bool false]
 refine qk (nt (qs (qr (oN 1 [(4, vb true)] [] ?_))))
 refine oe (nt (qe ?_))
 obtain rfl := sI h37
 exact re [.bool true]

theorem c_laws_markNodeS {W : World} {x0 : List Node} {a0_0 : Option Addr} {c0_0 : Nat} {e0_0 : TypeId} {x1 : Int} {r : Int × (List Node)} (h : laws_markNodeS x0 x1 = some r)  :
    GivesM Tryz.prog 158 #[.slice a0_0 x0.length c0_0, .int .i64 x1] W [SlRes e0_0 x0 a0_0 c0_0] [SlRes e0_0 r.2 a0_0 c0_0] (.int .i64 r.1) := by
 unfold laws_markNodeS at h
 refine enM Tryz.func158 Tryz.ntmps158 (fun Fs => ?_)
 refine qs (qr (oN 1 [] [0, 1] ?_))
 refine oe (nt (qs (qs (qr (oN 1 [(5, vi 0)] [0, 1] ?_)))))
 refine oe (nt ?_)
 obtain ⟨r24, hL25, h26⟩ := bS h
 obtain ⟨k27, hk28, h26⟩ := brkS h26
 refine JC_cutP (τ := ((List Node) × Int) × (Unit)) (fun y => k27 y.1 = some r) (fun y32 => [(0, .v (.slice a0_0 y32.1.1.length c0_0)), (1, vi y32.1.2)]) (fun y32 => []) (fun y32 => [SlRes e0_0 y32.1.1 a0_0 c0_0]) ?_ (fun y32 h33p => ?_)
 · refine qb (lp Unit hL25 (fun s21 y22 => [(5, vi s21.1), (0, .v (.slice a0_0 s21.2.1.length c0_0)), (1, vi s21.2.2)]) (fun s21 y22 => []) (fun s21 y22 => [SlRes e0_0 s21.2.1 a0_0 c0_0]) () [5, 0, 1] [0] 0 (fun s21 y22 t23 h29 hd30 => ?_))
   refine qs (qs (qr (oN 4 [(9, vb (decide (s21.1 < (s21.2.1.length : Int))))] [5, 0, 1] ?_)))
   refine oe (nt (cC h29 (fun h35 => ?_) (fun h36 => ?_)))
   · refine qk (nt (qs (qb (qs (qr (oN 3 [(14, vi s21.2.2), (13, vi s21.1), (12, .v (.slice a0_0 s21.2.1.length c0_0))] [5, 0, 1] ?_))))))
     obtain ⟨x37, hx38, h39⟩ := bS h35
     refine oi 6 (fun γ w hs => (hs.view 0 rfl)) hx38 ?_
     refine oN 1 [(16, .q a0_0 (Int.toNat s21.1 * 6))] [14, 5, 0, 1] ?_
     obtain ⟨l40, hm41, h42⟩ := bS h39
     replace hm41 := (sI hm41).symm
     refine JO_storeq (α := Node) (d := a0_0) (vs := [.int .i64 s21.2.2]) (j := s21.1) (x' := (Node.mk s21.2.2 x37.A x37.B x37.C x37.Value)) rfl (by kernel_rfl) 0 (by kernel_rfl) hx38 (Rc := []) (Rr := []) rfl (by kernel_rfl) (fun w c F Fs ho _ _ => own_flat_set (by kernel_rfl) ho) hm41 rfl ?_
     have hl43 := len_set hm41
     refine JO_keep [14, 5, 0, 1] (sl' := [(14, vi s21.2.2), (5, vi s21.1), (0, .v (.slice a0_0 s21.2.1.length c0_0)), (1, vi s21.2.2)]) (by kernel_rfl) ?_
     refine JO_eqE (sl' := [(14, vi s21.2.2), (5, vi s21.1), (0, .v (.slice a0_0 l40.length c0_0)), (1, vi s21.2.2)]) (bx' := []) (by simp only [hl43]) rfl ?_
     refine oe (nt (qs (qr (oN 3 [(1, vi (w64 (s21.2.2 + 1)))] [5, 0] ?_))))
     refine oe (nt (qs (qr (oN 3 [(21, vi (w64 (s21.2.2 + 1))), (20, vi s21.1), (19, .v (.slice a0_0 l40.length c0_0))] [1, 5, 0] ?_))))
     obtain ⟨x44, hx45, h46⟩ := bS h42
     refine oi 6 (fun γ w hs => (hs.view 0 rfl)) hx45 ?_
     refine oN 1 [(23, .q a0_0 (Int.toNat s21.1 * 6 + 1))] [21, 1, 5, 0] ?_
     obtain ⟨l47, hm48, h49⟩ := bS h46
     replace hm48 := (sI hm48).symm
     refine JO_storeq (α := Node) (d := a0_0) (vs := [.int .i64 (w64 (s21.2.2 + 1))]) (j := s21.1) (x' := (Node.mk x44.Kind (w64 (s21.2.2 + 1)) x44.B x44.C x44.Value)) rfl (by kernel_rfl) 1 (by kernel_rfl) hx45 (Rc := []) (Rr := []) rfl (by kernel_rfl) (fun w c F Fs ho _ _ => own_flat_set (by kernel_rfl) ho) hm48 rfl ?_
     have hl50 := len_set hm48
     refine JO_keep [21, 1, 5, 0] (sl' := [(21, vi (w64 (s21.2.2 + 1))), (1, vi (w64 (s21.2.2 + 1))), (5, vi s21.1), (0, .v (.slice a0_0 l40.length c0_0))]) (by kernel_rfl) ?_
     refine JO_eqE (sl' := [(21, vi (w64 (s21.2.2 + 1))), (1, vi (w64 (s21.2.2 + 1))), (5, vi s21.1), (0, .v (.slice a0_0 l47.length c0_0))]) (bx' := []) (by simp only [hl50]) rfl ?_
     refine oe (nt (qs (qr (oN 3 [(1, vi (w64 ((w64 (s21.2.2 + 1)) + 1)))] [5, 0] ?_))))
     refine oe (nt (qs (qr (oN 3 [(28, vi (w64 ((w64 (s21.2.2 + 1)) + 1))), (27, vi s21.1), (26, .v (.slice a0_0 l47.length c0_0))] [1, 5, 0] ?_))))
     obtain ⟨x51, hx52, h53⟩ := bS h49
     refine oi 6 (fun γ w hs => (hs.view 0 rfl)) hx52 ?_
     refine oN 1 [(30, .q a0_0 (Int.toNat s21.1 * 6 + 2))] [28, 1, 5, 0] ?_
     obtain ⟨l54, hm55, h56⟩ := bS h53
     replace hm55 := (sI hm55).symm
     refine JO_storeq (α := Node) (d := a0_0) (vs := [.int .i64 (w64 ((w64 (s21.2.2 + 1)) + 1))]) (j := s21.1) (x' := (Node.mk x51.Kind x51.A (w64 ((w64 (s21.2.2 + 1)) + 1)) x51.C x51.Value)) rfl (by kernel_rfl) 2 (by kernel_rfl) hx52 (Rc := []) (Rr := []) rfl (by kernel_rfl) (fun w c F Fs ho _ _ => own_flat_set (by kernel_rfl) ho) hm55 rfl ?_
     have hl57 := len_set hm55
     refine JO_keep [28, 1, 5, 0] (sl' := [(28, vi (w64 ((w64 (s21.2.2 + 1)) + 1))), (1, vi (w64 ((w64 (s21.2.2 + 1)) + 1))), (5, vi s21.1), (0, .v (.slice a0_0 l47.length c0_0))]) (by kernel_rfl) ?_
     refine JO_eqE (sl' := [(28, vi (w64 ((w64 (s21.2.2 + 1)) + 1))), (1, vi (w64 ((w64 (s21.2.2 + 1)) + 1))), (5, vi s21.1), (0, .v (.slice a0_0 l54.length c0_0))]) (bx' := []) (by simp only [hl57]) rfl ?_
     refine oe (nt (qs (qr (oN 3 [(1, vi (w64 ((w64 ((w64 (s21.2.2 + 1)) + 1)) + 1)))] [5, 0] ?_))))
     refine oe (nt (qs (qr (oN 3 [(35, vi (w64 ((w64 ((w64 (s21.2.2 + 1)) + 1)) + 1))), (34, vi s21.1), (33, .v (.slice a0_0 l54.length c0_0))] [1, 5, 0] ?_))))
     obtain ⟨x58, hx59, h60⟩ := bS h56
     refine oi 6 (fun γ w hs => (hs.view 0 rfl)) hx59 ?_
     refine oN 1 [(37, .q a0_0 (Int.toNat s21.1 * 6 + 3))] [35, 1, 5, 0] ?_
     obtain ⟨l61, hm62, h63⟩ := bS h60
     replace hm62 := (sI hm62).symm
     refine JO_storeq (α := Node) (d := a0_0) (vs := [.int .i64 (w64 ((w64 ((w64 (s21.2.2 + 1)) + 1)) + 1))]) (j := s21.1) (x' := (Node.mk x58.Kind x58.A x58.B (w64 ((w64 ((w64 (s21.2.2 + 1)) + 1)) + 1)) x58.Value)) rfl (by kernel_rfl) 3 (by kernel_rfl) hx59 (Rc := []) (Rr := []) rfl (by kernel_rfl) (fun w c F Fs ho _ _ => own_flat_set (by kernel_rfl) ho) hm62 rfl ?_
     have hl64 := len_set hm62
     refine JO_keep [35, 1, 5, 0] (sl' := [(35, vi (w64 ((w64 ((w64 (s21.2.2 + 1)) + 1)) + 1))), (1, vi (w64 ((w64 ((w64 (s21.2.2 + 1)) + 1)) + 1))), (5, vi s21.1), (0, .v (.slice a0_0 l54.length c0_0))]) (by kernel_rfl) ?_
     refine JO_eqE (sl' := [(35, vi (w64 ((w64 ((w64 (s21.2.2 + 1)) + 1)) + 1))), (1, vi (w64 ((w64 ((w64 (s21.2.2 + 1)) + 1)) + 1))), (5, vi s21.1), (0, .v (.slice a0_0 l61.length c0_0))]) (bx' := []) (by simp only [hl64]) rfl ?_
     refine oe (nt (qs (qr (oN 3 [(1, vi (w64 ((w64 ((w64 ((w64 (s21.2.2 + 1)) + 1)) + 1)) + 1)))] [5, 0] ?_))))
     refine oe (nt (qs (qr (oN 3 [(42, vi (w64 ((w64 ((w64 ((w64 (s21.2.2 + 1)) + 1)) + 1)) + 1))), (41, vi s21.1), (40, .v (.slice a0_0 l61.length c0_0))] [1, 5, 0] ?_))))
     obtain ⟨x65, hx66, h67⟩ := bS h63
     refine oi 6 (fun γ w hs => (hs.view 0 rfl)) hx66 ?_
     refine oN 2 [(45, .q a0_0 (Int.toNat s21.1 * 6 + 4))] [42, 1, 5, 0] ?_
     obtain ⟨l68, hm69, h70⟩ := bS h67
     replace hm69 := (sI hm69).symm
     refine JO_storeq (α := Node) (d := a0_0) (vs := [.int .i64 (w64 ((w64 ((w64 ((w64 (s21.2.2 + 1)) + 1)) + 1)) + 1))]) (j := s21.1) (x' := (Node.mk x65.Kind x65.A x65.B x65.C (Frac.mk (w64 ((w64 ((w64 ((w64 (s21.2.2 + 1)) + 1)) + 1)) + 1)) x65.Value.Den))) rfl (by kernel_rfl) 4 (by kernel_rfl) hx66 (Rc := []) (Rr := []) rfl (by kernel_rfl) (fun w c F Fs ho _ _ => own_flat_set (by kernel_rfl) ho) hm69 rfl ?_
     have hl71 := len_set hm69
     refine JO_keep [42, 1, 5, 0] (sl' := [(42, vi (w64 ((w64 ((w64 ((w64 (s21.2.2 + 1)) + 1)) + 1)) + 1))), (1, vi (w64 ((w64 ((w64 ((w64 (s21.2.2 + 1)) + 1)) + 1)) + 1))), (5, vi s21.1), (0, .v (.slice a0_0 l61.length c0_0))]) (by kernel_rfl) ?_
     refine JO_eqE (sl' := [(42, vi (w64 ((w64 ((w64 ((w64 (s21.2.2 + 1)) + 1)) + 1)) + 1))), (1, vi (w64 ((w64 ((w64 ((w64 (s21.2.2 + 1)) + 1)) + 1)) + 1))), (5, vi s21.1), (0, .v (.slice a0_0 l68.length c0_0))]) (bx' := []) (by simp only [hl71]) rfl ?_
     refine oe (nt (qs (qr (oN 3 [(1, vi (w64 ((w64 ((w64 ((w64 ((w64 (s21.2.2 + 1)) + 1)) + 1)) + 1)) + 1)))] [5, 0] ?_))))
     refine oe (nt (qs (qr (oN 3 [(50, vi (w64 ((w64 ((w64 ((w64 ((w64 (s21.2.2 + 1)) + 1)) + 1)) + 1)) + 1))), (49, vi s21.1), (48, .v (.slice a0_0 l68.length c0_0))] [1, 5, 0] ?_))))
     obtain ⟨x72, hx73, h74⟩ := bS h70
     refine oi 6 (fun γ w hs => (hs.view 0 rfl)) hx73 ?_
     refine oN 2 [(53, .q a0_0 (Int.toNat s21.1 * 6 + 5))] [50, 1, 5, 0] ?_
     obtain ⟨l75, hm76, h77⟩ := bS h74
     replace hm76 := (sI hm76).symm
     refine JO_storeq (α := Node) (d := a0_0) (vs := [.int .i64 (w64 ((w64 ((w64 ((w64 ((w64 (s21.2.2 + 1)) + 1)) + 1)) + 1)) + 1))]) (j := s21.1) (x' := (Node.mk x72.Kind x72.A x72.B x72.C (Frac.mk x72.Value.Num (w64 ((w64 ((w64 ((w64 ((w64 (s21.2.2 + 1)) + 1)) + 1)) + 1)) + 1))))) rfl (by kernel_rfl) 5 (by kernel_rfl) hx73 (Rc := []) (Rr := []) rfl (by kernel_rfl) (fun w c F Fs ho _ _ => own_flat_set (by kernel_rfl) ho) hm76 rfl ?_
     have hl78 := len_set hm76
     refine JO_keep [50, 1, 5, 0] (sl' := [(50, vi (w64 ((w64 ((w64 ((w64 ((w64 (s21.2.2 + 1)) + 1)) + 1)) + 1)) + 1))), (1, vi (w64 ((w64 ((w64 ((w64 ((w64 (s21.2.2 + 1)) + 1)) + 1)) + 1)) + 1))), (5, vi s21.1), (0, .v (.slice a0_0 l68.length c0_0))]) (by kernel_rfl) ?_
     refine JO_eqE (sl' := [(50, vi (w64 ((w64 ((w64 ((w64 ((w64 (s21.2.2 + 1)) + 1)) + 1)) + 1)) + 1))), (1, vi (w64 ((w64 ((w64 ((w64 ((w64 (s21.2.2 + 1)) + 1)) + 1)) + 1)) + 1))), (5, vi s21.1), (0, .v (.slice a0_0 l75.length c0_0))]) (bx' := []) (by simp only [hl78]) rfl ?_
     refine oe (nt (qr (oN 3 [(1, vi (w64 ((w64 ((w64 ((w64 ((w64 ((w64 (s21.2.2 + 1)) + 1)) + 1)) + 1)) + 1)) + 1)))] [5, 0] ?_)))
     refine oe (bn (nt (qr (oN 3 [(5, vi (w64 (s21.1 + 1)))] [1, 0] ?_))))
     exact oe (ct h77 () [5, 0, 1] [0] 0)
   refine qx (nx (nx (bh ?_)))
   have h79 := leafB hd30 h36 h26
   exact mp ((s21.2.1, s21.2.2), ()) h79 [0, 1] [0] 0
 have h33 := (congrFun hk28 _).symm.trans h33p
 refine nt (qs (qr (oN 2 [(4, vi y32.1.2)] [0] ?_)))
 refine oe (nt (qe (rt [.int .i64 y32.1.2] (fun γ w hs => ?_))))
 rw [← sI h33]
 exact hs.turned (is := [0]) rfl

theorem c_laws_markRuleS {W : World} {x0 : List Rule} {a0_0 : Option Addr} {c0_0 : Nat} {e0_0 : TypeId} {x1 : Int} {r : Int × (List Rule)} (h : laws_markRuleS x0 x1 = some r)  :
    GivesM Tryz.prog 114 #[.slice a0_0 x0.length c0_0, .int .i64 x1] W [SlRes e0_0 x0 a0_0 c0_0] [SlRes e0_0 r.2 a0_0 c0_0] (.int .i64 r.1) := by
 unfold laws_markRuleS at h
 refine enM Tryz.func114 Tryz.ntmps114 (fun Fs => ?_)
 refine qs (qr (oN 1 [] [0, 1] ?_))
 refine oe (nt (qs (qs (qr (oN 1 [(5, vi 0)] [0, 1] ?_)))))
 refine oe (nt ?_)
 obtain ⟨r24, hL25, h26⟩ := bS h
 obtain ⟨k27, hk28, h26⟩ := brkS h26
 refine JC_cutP (τ := ((List Rule) × Int) × (Unit)) (fun y => k27 y.1 = some r) (fun y32 => [(0, .v (.slice a0_0 y32.1.1.length c0_0)), (1, vi y32.1.2)]) (fun y32 => []) (fun y32 => [SlRes e0_0 y32.1.1 a0_0 c0_0]) ?_ (fun y32 h33p => ?_)
 · refine qb (lp Unit hL25 (fun s21 y22 => [(5, vi s21.1), (0, .v (.slice a0_0 s21.2.1.length c0_0)), (1, vi s21.2.2)]) (fun s21 y22 => []) (fun s21 y22 => [SlRes e0_0 s21.2.1 a0_0 c0_0]) () [5, 0, 1] [0] 0 (fun s21 y22 t23 h29 hd30 => ?_))
   refine qs (qs (qr (oN 4 [(9, vb (decide (s21.1 < (s21.2.1.length : Int))))] [5, 0, 1] ?_)))
   refine oe (nt (cC h29 (fun h35 => ?_) (fun h36 => ?_)))
   · refine qk (nt (qs (qb (qs (qr (oN 3 [(14, vi s21.2.2), (13, vi s21.1), (12, .v (.slice a0_0 s21.2.1.length c0_0))] [5, 0, 1] ?_))))))
     obtain ⟨x37, hx38, h39⟩ := bS h35
     refine oi 7 (fun γ w hs => (hs.view 0 rfl)) hx38 ?_
     refine oN 1 [(16, .q a0_0 (Int.toNat s21.1 * 7))] [14, 5, 0, 1] ?_
     obtain ⟨l40, hm41, h42⟩ := bS h39
     replace hm41 := (sI hm41).symm
     refine JO_storeq (α := Rule) (d := a0_0) (vs := [.int .i64 s21.2.2]) (j := s21.1) (x' := (Rule.mk s21.2.2 x37.From x37.To x37.Joined x37.Rank x37.Mode x37.Nodes)) rfl (by kernel_rfl) 0 (by kernel_rfl) hx38 (Rc := []) (Rr := []) rfl (by kernel_rfl) (by rintro w c F Fs ⟨e0, a0, c0, F0, hF, rfl, q0⟩ _ hn; exact ⟨F, ⟨e0, a0, c0, F0, hF, rfl, q0⟩, (List.nodup_append.1 hn).1, fun g hg => by simp [hg]⟩) hm41 rfl ?_
     have hl43 := len_set hm41
     refine JO_keep [14, 5, 0, 1] (sl' := [(14, vi s21.2.2), (5, vi s21.1), (0, .v (.slice a0_0 s21.2.1.length c0_0)), (1, vi s21.2.2)]) (by kernel_rfl) ?_
     refine JO_eqE (sl' := [(14, vi s21.2.2), (5, vi s21.1), (0, .v (.slice a0_0 l40.length c0_0)), (1, vi s21.2.2)]) (bx' := []) (by simp only [hl43]) rfl ?_
     refine oe (nt (qs (qr (oN 3 [(1, vi (w64 (s21.2.2 + 1)))] [5, 0] ?_))))
     refine oe (nt (qs (qr (oN 3 [(21, vi (w64 (s21.2.2 + 1))), (20, vi s21.1), (19, .v (.slice a0_0 l40.length c0_0))] [1, 5, 0] ?_))))
     obtain ⟨x44, hx45, h46⟩ := bS h42
     refine oi 7 (fun γ w hs => (hs.view 0 rfl)) hx45 ?_
     refine oN 1 [(23, .q a0_0 (Int.toNat s21.1 * 7 + 1))] [21, 1, 5, 0] ?_
     obtain ⟨l47, hm48, h49⟩ := bS h46
     replace hm48 := (sI hm48).symm
     refine JO_storeq (α := Rule) (d := a0_0) (vs := [.int .i64 (w64 (s21.2.2 + 1))]) (j := s21.1) (x' := (Rule.mk x44.Name (w64 (s21.2.2 + 1)) x44.To x44.Joined x44.Rank x44.Mode x44.Nodes)) rfl (by kernel_rfl) 1 (by kernel_rfl) hx45 (Rc := []) (Rr := []) rfl (by kernel_rfl) (by rintro w c F Fs ⟨e0, a0, c0, F0, hF, rfl, q0⟩ _ hn; exact ⟨F, ⟨e0, a0, c0, F0, hF, rfl, q0⟩, (List.nodup_append.1 hn).1, fun g hg => by simp [hg]⟩) hm48 rfl ?_
     have hl50 := len_set hm48
     refine JO_keep [21, 1, 5, 0] (sl' := [(21, vi (w64 (s21.2.2 + 1))), (1, vi (w64 (s21.2.2 + 1))), (5, vi s21.1), (0, .v (.slice a0_0 l40.length c0_0))]) (by kernel_rfl) ?_
     refine JO_eqE (sl' := [(21, vi (w64 (s21.2.2 + 1))), (1, vi (w64 (s21.2.2 + 1))), (5, vi s21.1), (0, .v (.slice a0_0 l47.length c0_0))]) (bx' := []) (by simp only [hl50]) rfl ?_
     refine oe (nt (qs (qr (oN 3 [(1, vi (w64 ((w64 (s21.2.2 + 1)) + 1)))] [5, 0] ?_))))
     refine oe (nt (qs (qr (oN 3 [(28, vi (w64 ((w64 (s21.2.2 + 1)) + 1))), (27, vi s21.1), (26, .v (.slice a0_0 l47.length c0_0))] [1, 5, 0] ?_))))
     obtain ⟨x51, hx52, h53⟩ := bS h49
     refine oi 7 (fun γ w hs => (hs.view 0 rfl)) hx52 ?_
     refine oN 1 [(30, .q a0_0 (Int.toNat s21.1 * 7 + 2))] [28, 1, 5, 0] ?_
     obtain ⟨l54, hm55, h56⟩ := bS h53
     replace hm55 := (sI hm55).symm
     refine JO_storeq (α := Rule) (d := a0_0) (vs := [.int .i64 (w64 ((w64 (s21.2.2 + 1)) + 1))]) (j := s21.1) (x' := (Rule.mk x51.Name x51.From (w64 ((w64 (s21.2.2 + 1)) + 1)) x51.Joined x51.Rank x51.Mode x51.Nodes)) rfl (by kernel_rfl) 2 (by kernel_rfl) hx52 (Rc := []) (Rr := []) rfl (by kernel_rfl) (by rintro w c F Fs ⟨e0, a0, c0, F0, hF, rfl, q0⟩ _ hn; exact ⟨F, ⟨e0, a0, c0, F0, hF, rfl, q0⟩, (List.nodup_append.1 hn).1, fun g hg => by simp [hg]⟩) hm55 rfl ?_
     have hl57 := len_set hm55
     refine JO_keep [28, 1, 5, 0] (sl' := [(28, vi (w64 ((w64 (s21.2.2 + 1)) + 1))), (1, vi (w64 ((w64 (s21.2.2 + 1)) + 1))), (5, vi s21.1), (0, .v (.slice a0_0 l47.length c0_0))]) (by kernel_rfl) ?_
     refine JO_eqE (sl' := [(28, vi (w64 ((w64 (s21.2.2 + 1)) + 1))), (1, vi (w64 ((w64 (s21.2.2 + 1)) + 1))), (5, vi s21.1), (0, .v (.slice a0_0 l54.length c0_0))]) (bx' := []) (by simp only [hl57]) rfl ?_
     refine oe (nt (qs (qr (oN 3 [(1, vi (w64 ((w64 ((w64 (s21.2.2 + 1)) + 1)) + 1)))] [5, 0] ?_))))
     refine oe (nt (qs (qr (oN 3 [(35, vi (w64 ((w64 ((w64 (s21.2.2 + 1)) + 1)) + 1))), (34, vi s21.1), (33, .v (.slice a0_0 l54.length c0_0))] [1, 5, 0] ?_))))
     obtain ⟨x58, hx59, h60⟩ := bS h56
     refine oi 7 (fun γ w hs => (hs.view 0 rfl)) hx59 ?_
     refine oN 1 [(37, .q a0_0 (Int.toNat s21.1 * 7 + 3))] [35, 1, 5, 0] ?_
     obtain ⟨l61, hm62, h63⟩ := bS h60
     replace hm62 := (sI hm62).symm
     refine JO_storeq (α := Rule) (d := a0_0) (vs := [.int .i64 (w64 ((w64 ((w64 (s21.2.2 + 1)) + 1)) + 1))]) (j := s21.1) (x' := (Rule.mk x58.Name x58.From x58.To (w64 ((w64 ((w64 (s21.2.2 + 1)) + 1)) + 1)) x58.Rank x58.Mode x58.Nodes)) rfl (by kernel_rfl) 3 (by kernel_rfl) hx59 (Rc := []) (Rr := []) rfl (by kernel_rfl) (by rintro w c F Fs ⟨e0, a0, c0, F0, hF, rfl, q0⟩ _ hn; exact ⟨F, ⟨e0, a0, c0, F0, hF, rfl, q0⟩, (List.nodup_append.1 hn).1, fun g hg => by simp [hg]⟩) hm62 rfl ?_
     have hl64 := len_set hm62
     refine JO_keep [35, 1, 5, 0] (sl' := [(35, vi (w64 ((w64 ((w64 (s21.2.2 + 1)) + 1)) + 1))), (1, vi (w64 ((w64 ((w64 (s21.2.2 + 1)) + 1)) + 1))), (5, vi s21.1), (0, .v (.slice a0_0 l54.length c0_0))]) (by kernel_rfl) ?_
     refine JO_eqE (sl' := [(35, vi (w64 ((w64 ((w64 (s21.2.2 + 1)) + 1)) + 1))), (1, vi (w64 ((w64 ((w64 (s21.2.2 + 1)) + 1)) + 1))), (5, vi s21.1), (0, .v (.slice a0_0 l61.length c0_0))]) (bx' := []) (by simp only [hl64]) rfl ?_
     refine oe (nt (qs (qr (oN 3 [(1, vi (w64 ((w64 ((w64 ((w64 (s21.2.2 + 1)) + 1)) + 1)) + 1)))] [5, 0] ?_))))
     refine oe (nt (qs (qr (oN 3 [(42, vi (w64 ((w64 ((w64 ((w64 (s21.2.2 + 1)) + 1)) + 1)) + 1))), (41, vi s21.1), (40, .v (.slice a0_0 l61.length c0_0))] [1, 5, 0] ?_))))
     obtain ⟨x65, hx66, h67⟩ := bS h63
     refine oi 7 (fun γ w hs => (hs.view 0 rfl)) hx66 ?_
     refine oN 1 [(44, .q a0_0 (Int.toNat s21.1 * 7 + 4))] [42, 1, 5, 0] ?_
     obtain ⟨l68, hm69, h70⟩ := bS h67
     replace hm69 := (sI hm69).symm
     refine JO_storeq (α := Rule) (d := a0_0) (vs := [.int .i64 (w64 ((w64 ((w64 ((w64 (s21.2.2 + 1)) + 1)) + 1)) + 1))]) (j := s21.1) (x' := (Rule.mk x65.Name x65.From x65.To x65.Joined (w64 ((w64 ((w64 ((w64 (s21.2.2 + 1)) + 1)) + 1)) + 1)) x65.Mode x65.Nodes)) rfl (by kernel_rfl) 4 (by kernel_rfl) hx66 (Rc := []) (Rr := []) rfl (by kernel_rfl) (by rintro w c F Fs ⟨e0, a0, c0, F0, hF, rfl, q0⟩ _ hn; exact ⟨F, ⟨e0, a0, c0, F0, hF, rfl, q0⟩, (List.nodup_append.1 hn).1, fun g hg => by simp [hg]⟩) hm69 rfl ?_
     have hl71 := len_set hm69
     refine JO_keep [42, 1, 5, 0] (sl' := [(42, vi (w64 ((w64 ((w64 ((w64 (s21.2.2 + 1)) + 1)) + 1)) + 1))), (1, vi (w64 ((w64 ((w64 ((w64 (s21.2.2 + 1)) + 1)) + 1)) + 1))), (5, vi s21.1), (0, .v (.slice a0_0 l61.length c0_0))]) (by kernel_rfl) ?_
     refine JO_eqE (sl' := [(42, vi (w64 ((w64 ((w64 ((w64 (s21.2.2 + 1)) + 1)) + 1)) + 1))), (1, vi (w64 ((w64 ((w64 ((w64 (s21.2.2 + 1)) + 1)) + 1)) + 1))), (5, vi s21.1), (0, .v (.slice a0_0 l68.length c0_0))]) (bx' := []) (by simp only [hl71]) rfl ?_
     refine oe (nt (qs (qr (oN 3 [(1, vi (w64 ((w64 ((w64 ((w64 ((w64 (s21.2.2 + 1)) + 1)) + 1)) + 1)) + 1)))] [5, 0] ?_))))
     refine oe (nt (qs (qr (oN 3 [(49, vi (w64 ((w64 ((w64 ((w64 ((w64 (s21.2.2 + 1)) + 1)) + 1)) + 1)) + 1))), (48, vi s21.1), (47, .v (.slice a0_0 l68.length c0_0))] [1, 5, 0] ?_))))
     obtain ⟨x72, hx73, h74⟩ := bS h70
     refine oi 7 (fun γ w hs => (hs.view 0 rfl)) hx73 ?_
     refine oN 1 [(51, .q a0_0 (Int.toNat s21.1 * 7 + 5))] [49, 1, 5, 0] ?_
     obtain ⟨l75, hm76, h77⟩ := bS h74
     replace hm76 := (sI hm76).symm
     refine JO_storeq (α := Rule) (d := a0_0) (vs := [.int .i64 (w64 ((w64 ((w64 ((w64 ((w64 (s21.2.2 + 1)) + 1)) + 1)) + 1)) + 1))]) (j := s21.1) (x' := (Rule.mk x72.Name x72.From x72.To x72.Joined x72.Rank (w64 ((w64 ((w64 ((w64 ((w64 (s21.2.2 + 1)) + 1)) + 1)) + 1)) + 1)) x72.Nodes)) rfl (by kernel_rfl) 5 (by kernel_rfl) hx73 (Rc := []) (Rr := []) rfl (by kernel_rfl) (by rintro w c F Fs ⟨e0, a0, c0, F0, hF, rfl, q0⟩ _ hn; exact ⟨F, ⟨e0, a0, c0, F0, hF, rfl, q0⟩, (List.nodup_append.1 hn).1, fun g hg => by simp [hg]⟩) hm76 rfl ?_
     have hl78 := len_set hm76
     refine JO_keep [49, 1, 5, 0] (sl' := [(49, vi (w64 ((w64 ((w64 ((w64 ((w64 (s21.2.2 + 1)) + 1)) + 1)) + 1)) + 1))), (1, vi (w64 ((w64 ((w64 ((w64 ((w64 (s21.2.2 + 1)) + 1)) + 1)) + 1)) + 1))), (5, vi s21.1), (0, .v (.slice a0_0 l68.length c0_0))]) (by kernel_rfl) ?_
     refine JO_eqE (sl' := [(49, vi (w64 ((w64 ((w64 ((w64 ((w64 (s21.2.2 + 1)) + 1)) + 1)) + 1)) + 1))), (1, vi (w64 ((w64 ((w64 ((w64 ((w64 (s21.2.2 + 1)) + 1)) + 1)) + 1)) + 1))), (5, vi s21.1), (0, .v (.slice a0_0 l75.length c0_0))]) (bx' := []) (by simp only [hl78]) rfl ?_
     refine oe (nt (qs (qr (oN 3 [(1, vi (w64 ((w64 ((w64 ((w64 ((w64 ((w64 (s21.2.2 + 1)) + 1)) + 1)) + 1)) + 1)) + 1)))] [5, 0] ?_))))
     refine oe (nt (qr (oN 2 [(55, vi s21.1), (54, .v (.slice a0_0 l75.length c0_0))] [1, 5, 0] ?_)))
     obtain ⟨x79, hx80, h81⟩ := bS h77
     refine oi 7 (fun γ w hs => (hs.view 0 rfl)) hx80 ?_
     refine oN 1 [(57, .q a0_0 (Int.toNat s21.1 * 7 + 6))] [1, 5, 0] ?_
     refine JO_open1 (Rr := []) rfl hx80 (fun a83 c84 => [.int .i64 x79.Name, .int .i64 x79.From, .int .i64 x79.To, .int .i64 x79.Joined, .int .i64 x79.Rank, .int .i64 x79.Mode, .slice a83 x79.Nodes.length c84]) x79.Nodes (by rintro w F c ⟨e0, a0, c0, F0, rfl, rfl, h0⟩; exact ⟨e0, a0, c0, rfl, h0⟩) (fun e82 a83 c84 => ?_)
     refine ol 186 6 (.slice a83 x79.Nodes.length c84) (fun γ w hs => hs.holeCells 0 rfl hx80 rfl) ?_
     refine oN 1 [(59, vi (w64 ((w64 ((w64 ((w64 ((w64 ((w64 (s21.2.2 + 1)) + 1)) + 1)) + 1)) + 1)) + 1)))] [58, 5, 0] ?_
     refine or_ [1, 0] ?_
     obtain ⟨t85, h86, h87⟩ := bS h81
     obtain ⟨u89, hu90, h91⟩ := bS h87
     have hl92 := (sameLen_some hu90).symm
     refine JO_callM rfl (by kernel_rfl) (f := 158) (args := #[.slice a83 x79.Nodes.length c84, .int .i64 (w64 ((w64 ((w64 ((w64 ((w64 ((w64 (s21.2.2 + 1)) + 1)) + 1)) + 1)) + 1)) + 1))]) (by kernel_rfl) (x := .int .i64 t85.1) (Rin := [SlRes e82 x79.Nodes a83 c84]) (Rout := [SlRes e82 t85.2 a83 c84]) (Rr := [HoleRes e0_0 l75 a0_0 c0_0 (Int.toNat s21.1) [.int .i64 x79.Name, .int .i64 x79.From, .int .i64 x79.To, .int .i64 x79.Joined, .int .i64 x79.Rank, .int .i64 x79.Mode, .slice a83 x79.Nodes.length c84]]) rfl (fun w => (by have vv := c_laws_markNodeS (e0_0 := e82) (a0_0 := a83) (c0_0 := c84) (W := w) h86; exact vv)) (sl' := [(60, vi t85.1), (59, vi (w64 ((w64 ((w64 ((w64 ((w64 ((w64 (s21.2.2 + 1)) + 1)) + 1)) + 1)) + 1)) + 1))), (58, .v (.slice a83 x79.Nodes.length c84)), (5, vi s21.1), (0, .v (.slice a0_0 l75.length c0_0))]) (by kernel_rfl) ?_
     refine JO_eqE (sl' := [(60, vi t85.1), (59, vi (w64 ((w64 ((w64 ((w64 ((w64 ((w64 (s21.2.2 + 1)) + 1)) + 1)) + 1)) + 1)) + 1))), (58, .v (.slice a83 t85.2.length c84)), (5, vi s21.1), (0, .v (.slice a0_0 l75.length c0_0))]) (bx' := []) (by simp only [hl92]) rfl ?_
     obtain ⟨l93, hm94, h96⟩ := bS h91
     replace hm94 := (sI hm94).symm
     refine JO_close1 (Rr := []) (x' := (Rule.mk x79.Name x79.From x79.To x79.Joined x79.Rank x79.Mode t85.2)) rfl (fun w F hF => ⟨e82, a83, c84, F, rfl, by simp only [hl92], hF⟩) hm94 ?_
     have hl95 := len_set hm94
     refine JO_keep [60, 59, 5, 0] (sl' := [(60, vi t85.1), (59, vi (w64 ((w64 ((w64 ((w64 ((w64 ((w64 (s21.2.2 + 1)) + 1)) + 1)) + 1)) + 1)) + 1))), (5, vi s21.1), (0, .v (.slice a0_0 l75.length c0_0))]) (by kernel_rfl) ?_
     refine JO_eqE (sl' := [(60, vi t85.1), (59, vi (w64 ((w64 ((w64 ((w64 ((w64 ((w64 (s21.2.2 + 1)) + 1)) + 1)) + 1)) + 1)) + 1))), (5, vi s21.1), (0, .v (.slice a0_0 l93.length c0_0))]) (bx' := []) (by simp only [hl95]) rfl ?_
     refine oN 1 [(1, vi t85.1)] [5, 0] ?_
     refine oe (bn (nt (qr (oN 3 [(5, vi (w64 (s21.1 + 1)))] [1, 0] ?_))))
     exact oe (ct h96 () [5, 0, 1] [0] 0)
   refine qx (nx (nx (bh ?_)))
   have h97 := leafB hd30 h36 h26
   exact mp ((s21.2.1, s21.2.2), ()) h97 [0, 1] [0] 0
 have h33 := (congrFun hk28 _).symm.trans h33p
 refine nt (qs (qr (oN 2 [(4, vi y32.1.2)] [0] ?_)))
 refine oe (nt (qe (rt [.int .i64 y32.1.2] (fun γ w hs => ?_))))
 rw [← sI h33]
 exact hs.turned (is := [0]) rfl

theorem c_laws_markBook {W : World} {x0 : Book} {a0_0 : Option Addr} {c0_0 : Nat} {e0_0 : TypeId} {x1 : Int} {r : Int × (List Rule)} (h : laws_markBook x0 x1 = some r)  :
    GivesM Tryz.prog 68 #[vBook x0 (a0_0, c0_0), .int .i64 x1] W [SlRes e0_0 x0.Rules a0_0 c0_0] [SlRes e0_0 r.2 a0_0 c0_0] (.int .i64 r.1) := by
 unfold laws_markBook at h
 refine enM Tryz.func68 Tryz.ntmps68 (fun Fs => ?_)
 refine qs (qr (oB 2 [(2, .p 0 0)] [0, 1] [(42, (eBook x0 (a0_0, c0_0)))] ?_))
 refine oe (nt (qs (qr (oN 3 [(7, vi x1), (6, .v (.slice a0_0 x0.Rules.length c0_0))] [0] ?_))))
 obtain ⟨t21, h22, h23⟩ := bS h
 obtain ⟨u25, hu26, h27⟩ := bS h23
 have hl28 := (sameLen_some hu26).symm
 refine JO_callM rfl (by kernel_rfl) (f := 114) (args := #[.slice a0_0 x0.Rules.length c0_0, .int .i64 x1]) (by kernel_rfl) (x := .int .i64 t21.1) (Rin := [SlRes e0_0 x0.Rules a0_0 c0_0]) (Rout := [SlRes e0_0 t21.2 a0_0 c0_0]) (Rr := []) rfl (fun w => (by have vv := c_laws_markRuleS (e0_0 := e0_0) (a0_0 := a0_0) (c0_0 := c0_0) (W := w) h22; exact vv)) (sl' := [(8, vi t21.1), (7, vi x1), (6, .v (.slice a0_0 x0.Rules.length c0_0)), (0, .v (vBook x0 (a0_0, c0_0)))]) (by kernel_rfl) ?_
 refine JO_eqE (sl' := [(8, vi t21.1), (7, vi x1), (6, .v (.slice a0_0 t21.2.length c0_0)), (0, .v (vBook (Book.mk t21.2) (a0_0, c0_0)))]) (bx' := [(42, [.slice a0_0 t21.2.length c0_0])]) (by simp only [eBook, vBook, hl28]) (by simp only [eBook, vBook, hl28]) ?_
 refine oN 1 [(1, vi t21.1)] [0] ?_
 refine oe (nt (qs (qr (oN 2 [(4, vi t21.1)] [0] ?_))))
 refine oe (nt (qe (rt [.int .i64 t21.1] (fun γ w hs => ?_))))
 rw [← sI h27]
 exact hs.turned (is := [0]) rfl

theorem c_laws_markFactS {W : World} {x0 : List Fact} {a0_0 : Option Addr} {c0_0 : Nat} {e0_0 : TypeId} {x1 : Int} {r : Int × (List Fact)} (h : laws_markFactS x0 x1 = some r)  :
    GivesM Tryz.prog 115 #[.slice a0_0 x0.length c0_0, .int .i64 x1] W [SlRes e0_0 x0 a0_0 c0_0] [SlRes e0_0 r.2 a0_0 c0_0] (.int .i64 r.1) := by
 unfold laws_markFactS at h
 refine enM Tryz.func115 Tryz.ntmps115 (fun Fs => ?_)
 refine qs (qr (oN 1 [] [0, 1] ?_))
 refine oe (nt (qs (qs (qr (oN 1 [(5, vi 0)] [0, 1] ?_)))))
 refine oe (nt ?_)
 obtain ⟨r24, hL25, h26⟩ := bS h
 obtain ⟨k27, hk28, h26⟩ := brkS h26
 refine JC_cutP (τ := ((List Fact) × Int) × (Unit)) (fun y => k27 y.1 = some r) (fun y32 => [(0, .v (.slice a0_0 y32.1.1.length c0_0)), (1, vi y32.1.2)]) (fun y32 => []) (fun y32 => [SlRes e0_0 y32.1.1 a0_0 c0_0]) ?_ (fun y32 h33p => ?_)
 · refine qb (lp Unit hL25 (fun s21 y22 => [(5, vi s21.1), (0, .v (.slice a0_0 s21.2.1.length c0_0)), (1, vi s21.2.2)]) (fun s21 y22 => []) (fun s21 y22 => [SlRes e0_0 s21.2.1 a0_0 c0_0]) () [5, 0, 1] [0] 0 (fun s21 y22 t23 h29 hd30 => ?_))
   refine qs (qs (qr (oN 4 [(9, vb (decide (s21.1 < (s21.2.1.length : Int))))] [5, 0, 1] ?_)))
   refine oe (nt (cC h29 (fun h35 => ?_) (fun h36 => ?_)))
   · refine qk (nt (qs (qb (qs (qr (oN 3 [(14, vi s21.2.2), (13, vi s21.1), (12, .v (.slice a0_0 s21.2.1.length c0_0))] [5, 0, 1] ?_))))))
     obtain ⟨x37, hx38, h39⟩ := bS h35
     refine oi 5 (fun γ w hs => (hs.view 0 rfl)) hx38 ?_
     refine oN 1 [(16, .q a0_0 (Int.toNat s21.1 * 5))] [14, 5, 0, 1] ?_
     obtain ⟨l40, hm41, h42⟩ := bS h39
     replace hm41 := (sI hm41).symm
     refine JO_storeq (α := Fact) (d := a0_0) (vs := [.int .i64 s21.2.2]) (j := s21.1) (x' := (Fact.mk s21.2.2 x37.From x37.To x37.Known x37.Value)) rfl (by kernel_rfl) 0 (by kernel_rfl) hx38 (Rc := []) (Rr := []) rfl (by kernel_rfl) (fun w c F Fs ho _ _ => own_flat_set (by kernel_rfl) ho) hm41 rfl ?_
     have hl43 := len_set hm41
     refine JO_keep [14, 5, 0, 1] (sl' := [(14, vi s21.2.2), (5, vi s21.1), (0, .v (.slice a0_0 s21.2.1.length c0_0)), (1, vi s21.2.2)]) (by kernel_rfl) ?_
     refine JO_eqE (sl' := [(14, vi s21.2.2), (5, vi s21.1), (0, .v (.slice a0_0 l40.length c0_0)), (1, vi s21.2.2)]) (bx' := []) (by simp only [hl43]) rfl ?_
     refine oe (nt (qs (qr (oN 3 [(1, vi (w64 (s21.2.2 + 1)))] [5, 0] ?_))))
     refine oe (nt (qs (qr (oN 3 [(21, vi (w64 (s21.2.2 + 1))), (20, vi s21.1), (19, .v (.slice a0_0 l40.length c0_0))] [1, 5, 0] ?_))))
     obtain ⟨x44, hx45, h46⟩ := bS h42
     refine oi 5 (fun γ w hs => (hs.view 0 rfl)) hx45 ?_
     refine oN 1 [(23, .q a0_0 (Int.toNat s21.1 * 5 + 1))] [21, 1, 5, 0] ?_
     obtain ⟨l47, hm48, h49⟩ := bS h46
     replace hm48 := (sI hm48).symm
     refine JO_storeq (α := Fact) (d := a0_0) (vs := [.int .i64 (w64 (s21.2.2 + 1))]) (j := s21.1) (x' := (Fact.mk x44.Key (w64 (s21.2.2 + 1)) x44.To x44.Known x44.Value)) rfl (by kernel_rfl) 1 (by kernel_rfl) hx45 (Rc := []) (Rr := []) rfl (by kernel_rfl) (fun w c F Fs ho _ _ => own_flat_set (by kernel_rfl) ho) hm48 rfl ?_
     have hl50 := len_set hm48
     refine JO_keep [21, 1, 5, 0] (sl' := [(21, vi (w64 (s21.2.2 + 1))), (1, vi (w64 (s21.2.2 + 1))), (5, vi s21.1), (0, .v (.slice a0_0 l40.length c0_0))]) (by kernel_rfl) ?_
     refine JO_eqE (sl' := [(21, vi (w64 (s21.2.2 + 1))), (1, vi (w64 (s21.2.2 + 1))), (5, vi s21.1), (0, .v (.slice a0_0 l47.length c0_0))]) (bx' := []) (by simp only [hl50]) rfl ?_
     refine oe (nt (qs (qr (oN 3 [(1, vi (w64 ((w64 (s21.2.2 + 1)) + 1)))] [5, 0] ?_))))
     refine oe (nt (qs (qr (oN 3 [(28, vi (w64 ((w64 (s21.2.2 + 1)) + 1))), (27, vi s21.1), (26, .v (.slice a0_0 l47.length c0_0))] [1, 5, 0] ?_))))
     obtain ⟨x51, hx52, h53⟩ := bS h49
     refine oi 5 (fun γ w hs => (hs.view 0 rfl)) hx52 ?_
     refine oN 1 [(30, .q a0_0 (Int.toNat s21.1 * 5 + 2))] [28, 1, 5, 0] ?_
     obtain ⟨l54, hm55, h56⟩ := bS h53
     replace hm55 := (sI hm55).symm
     refine JO_storeq (α := Fact) (d := a0_0) (vs := [.int .i64 (w64 ((w64 (s21.2.2 + 1)) + 1))]) (j := s21.1) (x' := (Fact.mk x51.Key x51.From (w64 ((w64 (s21.2.2 + 1)) + 1)) x51.Known x51.Value)) rfl (by kernel_rfl) 2 (by kernel_rfl) hx52 (Rc := []) (Rr := []) rfl (by kernel_rfl) (fun w c F Fs ho _ _ => own_flat_set (by kernel_rfl) ho) hm55 rfl ?_
     have hl57 := len_set hm55
     refine JO_keep [28, 1, 5, 0] (sl' := [(28, vi (w64 ((w64 (s21.2.2 + 1)) + 1))), (1, vi (w64 ((w64 (s21.2.2 + 1)) + 1))), (5, vi s21.1), (0, .v (.slice a0_0 l47.length c0_0))]) (by kernel_rfl) ?_
     refine JO_eqE (sl' := [(28, vi (w64 ((w64 (s21.2.2 + 1)) + 1))), (1, vi (w64 ((w64 (s21.2.2 + 1)) + 1))), (5, vi s21.1), (0, .v (.slice a0_0 l54.length c0_0))]) (bx' := []) (by simp only [hl57]) rfl ?_
     refine oe (nt (qs (qr (oN 3 [(1, vi (w64 ((w64 ((w64 (s21.2.2 + 1)) + 1)) + 1)))] [5, 0] ?_))))
     refine oe (nt (qs (qr (oN 3 [(35, vi (w64 ((w64 ((w64 (s21.2.2 + 1)) + 1)) + 1))), (34, vi s21.1), (33, .v (.slice a0_0 l54.length c0_0))] [1, 5, 0] ?_))))
     obtain ⟨x58, hx59, h60⟩ := bS h56
     refine oi 5 (fun γ w hs => (hs.view 0 rfl)) hx59 ?_
     refine oN 1 [(37, .q a0_0 (Int.toNat s21.1 * 5 + 3))] [35, 1, 5, 0] ?_
     obtain ⟨l61, hm62, h63⟩ := bS h60
     replace hm62 := (sI hm62).symm
     refine JO_storeq (α := Fact) (d := a0_0) (vs := [.int .i64 (w64 ((w64 ((w64 (s21.2.2 + 1)) + 1)) + 1))]) (j := s21.1) (x' := (Fact.mk x58.Key x58.From x58.To (w64 ((w64 ((w64 (s21.2.2 + 1)) + 1)) + 1)) x58.Value)) rfl (by kernel_rfl) 3 (by kernel_rfl) hx59 (Rc := []) (Rr := []) rfl (by kernel_rfl) (fun w c F Fs ho _ _ => own_flat_set (by kernel_rfl) ho) hm62 rfl ?_
     have hl64 := len_set hm62
     refine JO_keep [35, 1, 5, 0] (sl' := [(35, vi (w64 ((w64 ((w64 (s21.2.2 + 1)) + 1)) + 1))), (1, vi (w64 ((w64 ((w64 (s21.2.2 + 1)) + 1)) + 1))), (5, vi s21.1), (0, .v (.slice a0_0 l54.length c0_0))]) (by kernel_rfl) ?_
     refine JO_eqE (sl' := [(35, vi (w64 ((w64 ((w64 (s21.2.2 + 1)) + 1)) + 1))), (1, vi (w64 ((w64 ((w64 (s21.2.2 + 1)) + 1)) + 1))), (5, vi s21.1), (0, .v (.slice a0_0 l61.length c0_0))]) (bx' := []) (by simp only [hl64]) rfl ?_
     refine oe (nt (qs (qr (oN 3 [(1, vi (w64 ((w64 ((w64 ((w64 (s21.2.2 + 1)) + 1)) + 1)) + 1)))] [5, 0] ?_))))
     refine oe (nt (qs (qr (oN 3 [(42, vi (w64 ((w64 ((w64 ((w64 (s21.2.2 + 1)) + 1)) + 1)) + 1))), (41, vi s21.1), (40, .v (.slice a0_0 l61.length c0_0))] [1, 5, 0] ?_))))
     obtain ⟨x65, hx66, h67⟩ := bS h63
     refine oi 5 (fun γ w hs => (hs.view 0 rfl)) hx66 ?_
     refine oN 1 [(44, .q a0_0 (Int.toNat s21.1 * 5 + 4))] [42, 1, 5, 0] ?_
     obtain ⟨l68, hm69, h70⟩ := bS h67
     replace hm69 := (sI hm69).symm
     refine JO_storeq (α := Fact) (d := a0_0) (vs := [.int .i64 (w64 ((w64 ((w64 ((w64 (s21.2.2 + 1)) + 1)) + 1)) + 1))]) (j := s21.1) (x' := (Fact.mk x65.Key x65.From x65.To x65.Known (w64 ((w64 ((w64 ((w64 (s21.2.2 + 1)) + 1)) + 1)) + 1)))) rfl (by kernel_rfl) 4 (by kernel_rfl) hx66 (Rc := []) (Rr := []) rfl (by kernel_rfl) (fun w c F Fs ho _ _ => own_flat_set (by kernel_rfl) ho) hm69 rfl ?_
     have hl71 := len_set hm69
     refine JO_keep [42, 1, 5, 0] (sl' := [(42, vi (w64 ((w64 ((w64 ((w64 (s21.2.2 + 1)) + 1)) + 1)) + 1))), (1, vi (w64 ((w64 ((w64 ((w64 (s21.2.2 + 1)) + 1)) + 1)) + 1))), (5, vi s21.1), (0, .v (.slice a0_0 l61.length c0_0))]) (by kernel_rfl) ?_
     refine JO_eqE (sl' := [(42, vi (w64 ((w64 ((w64 ((w64 (s21.2.2 + 1)) + 1)) + 1)) + 1))), (1, vi (w64 ((w64 ((w64 ((w64 (s21.2.2 + 1)) + 1)) + 1)) + 1))), (5, vi s21.1), (0, .v (.slice a0_0 l68.length c0_0))]) (bx' := []) (by simp only [hl71]) rfl ?_
     refine oe (nt (qr (oN 3 [(1, vi (w64 ((w64 ((w64 ((w64 ((w64 (s21.2.2 + 1)) + 1)) + 1)) + 1)) + 1)))] [5, 0] ?_)))
     refine oe (bn (nt (qr (oN 3 [(5, vi (w64 (s21.1 + 1)))] [1, 0] ?_))))
     exact oe (ct h70 () [5, 0, 1] [0] 0)
   refine qx (nx (nx (bh ?_)))
   have h72 := leafB hd30 h36 h26
   exact mp ((s21.2.1, s21.2.2), ()) h72 [0, 1] [0] 0
 have h33 := (congrFun hk28 _).symm.trans h33p
 refine nt (qs (qr (oN 2 [(4, vi y32.1.2)] [0] ?_)))
 refine oe (nt (qe (rt [.int .i64 y32.1.2] (fun γ w hs => ?_))))
 rw [← sI h33]
 exact hs.turned (is := [0]) rfl

theorem c_laws_markStore {W : World} {x0 : Store} {a0_0 : Option Addr} {c0_0 : Nat} {e0_0 : TypeId} {x1 : Int} {r : Int × (List Fact)} (h : laws_markStore x0 x1 = some r)  :
    GivesM Tryz.prog 69 #[vStore x0 (a0_0, c0_0), .int .i64 x1] W [SlRes e0_0 x0.Facts a0_0 c0_0] [SlRes e0_0 r.2 a0_0 c0_0] (.int .i64 r.1) := by
 unfold laws_markStore at h
 refine enM Tryz.func69 Tryz.ntmps69 (fun Fs => ?_)
 refine qs (qr (oB 2 [(2, .p 0 0)] [0, 1] [(45, (eStore x0 (a0_0, c0_0)))] ?_))
 refine oe (nt (qs (qr (oN 3 [(7, vi x1), (6, .v (.slice a0_0 x0.Facts.length c0_0))] [0] ?_))))
 obtain ⟨t21, h22, h23⟩ := bS h
 obtain ⟨u25, hu26, h27⟩ := bS h23
 have hl28 := (sameLen_some hu26).symm
 refine JO_callM rfl (by kernel_rfl) (f := 115) (args := #[.slice a0_0 x0.Facts.length c0_0, .int .i64 x1]) (by kernel_rfl) (x := .int .i64 t21.1) (Rin := [SlRes e0_0 x0.Facts a0_0 c0_0]) (Rout := [SlRes e0_0 t21.2 a0_0 c0_0]) (Rr := []) rfl (fun w => (by have vv := c_laws_markFactS (e0_0 := e0_0) (a0_0 := a0_0) (c0_0 := c0_0) (W := w) h22; exact vv)) (sl' := [(8, vi t21.1), (7, vi x1), (6, .v (.slice a0_0 x0.Facts.length c0_0)), (0, .v (vStore x0 (a0_0, c0_0)))]) (by kernel_rfl) ?_
 refine JO_eqE (sl' := [(8, vi t21.1), (7, vi x1), (6, .v (.slice a0_0 t21.2.length c0_0)), (0, .v (vStore (Store.mk t21.2) (a0_0, c0_0)))]) (bx' := [(45, [.slice a0_0 t21.2.length c0_0])]) (by simp only [eStore, vStore, hl28]) (by simp only [eStore, vStore, hl28]) ?_
 refine oN 1 [(1, vi t21.1)] [0] ?_
 refine oe (nt (qs (qr (oN 2 [(4, vi t21.1)] [0] ?_))))
 refine oe (nt (qe (rt [.int .i64 t21.1] (fun γ w hs => ?_))))
 rw [← sI h27]
 exact hs.turned (is := [0]) rfl

theorem c_laws_markPointS {W : World} {x0 : List Point} {a0_0 : Option Addr} {c0_0 : Nat} {e0_0 : TypeId} {x1 : Int} {r : Int × (List Point)} (h : laws_markPointS x0 x1 = some r)  :
    GivesM Tryz.prog 116 #[.slice a0_0 x0.length c0_0, .int .i64 x1] W [SlRes e0_0 x0 a0_0 c0_0] [SlRes e0_0 r.2 a0_0 c0_0] (.int .i64 r.1) := by
 unfold laws_markPointS at h
 refine enM Tryz.func116 Tryz.ntmps116 (fun Fs => ?_)
 refine qs (qr (oN 1 [] [0, 1] ?_))
 refine oe (nt (qs (qs (qr (oN 1 [(5, vi 0)] [0, 1] ?_)))))
 refine oe (nt ?_)
 obtain ⟨r24, hL25, h26⟩ := bS h
 obtain ⟨k27, hk28, h26⟩ := brkS h26
 refine JC_cutP (τ := ((List Point) × Int) × (Unit)) (fun y => k27 y.1 = some r) (fun y32 => [(0, .v (.slice a0_0 y32.1.1.length c0_0)), (1, vi y32.1.2)]) (fun y32 => []) (fun y32 => [SlRes e0_0 y32.1.1 a0_0 c0_0]) ?_ (fun y32 h33p => ?_)
 · refine qb (lp Unit hL25 (fun s21 y22 => [(5, vi s21.1), (0, .v (.slice a0_0 s21.2.1.length c0_0)), (1, vi s21.2.2)]) (fun s21 y22 => []) (fun s21 y22 => [SlRes e0_0 s21.2.1 a0_0 c0_0]) () [5, 0, 1] [0] 0 (fun s21 y22 t23 h29 hd30 => ?_))
   refine qs (qs (qr (oN 4 [(9, vb (decide (s21.1 < (s21.2.1.length : Int))))] [5, 0, 1] ?_)))
   refine oe (nt (cC h29 (fun h35 => ?_) (fun h36 => ?_)))
   · refine qk (nt (qs (qb (qs (qr (oN 3 [(14, vi s21.2.2), (13, vi s21.1), (12, .v (.slice a0_0 s21.2.1.length c0_0))] [5, 0, 1] ?_))))))
     obtain ⟨x37, hx38, h39⟩ := bS h35
     refine oi 3 (fun γ w hs => (hs.view 0 rfl)) hx38 ?_
     refine oN 1 [(16, .q a0_0 (Int.toNat s21.1 * 3))] [14, 5, 0, 1] ?_
     obtain ⟨l40, hm41, h42⟩ := bS h39
     replace hm41 := (sI hm41).symm
     refine JO_storeq (α := Point) (d := a0_0) (vs := [.int .i64 s21.2.2]) (j := s21.1) (x' := (Point.mk s21.2.2 x37.Known x37.Value)) rfl (by kernel_rfl) 0 (by kernel_rfl) hx38 (Rc := []) (Rr := []) rfl (by kernel_rfl) (fun w c F Fs ho _ _ => own_flat_set (by kernel_rfl) ho) hm41 rfl ?_
     have hl43 := len_set hm41
     refine JO_keep [14, 5, 0, 1] (sl' := [(14, vi s21.2.2), (5, vi s21.1), (0, .v (.slice a0_0 s21.2.1.length c0_0)), (1, vi s21.2.2)]) (by kernel_rfl) ?_
     refine JO_eqE (sl' := [(14, vi s21.2.2), (5, vi s21.1), (0, .v (.slice a0_0 l40.length c0_0)), (1, vi s21.2.2)]) (bx' := []) (by simp only [hl43]) rfl ?_
     refine oe (nt (qs (qr (oN 3 [(1, vi (w64 (s21.2.2 + 1)))] [5, 0] ?_))))
     refine oe (nt (qs (qr (oN 3 [(21, vi (w64 (s21.2.2 + 1))), (20, vi s21.1), (19, .v (.slice a0_0 l40.length c0_0))] [1, 5, 0] ?_))))
     obtain ⟨x44, hx45, h46⟩ := bS h42
     refine oi 3 (fun γ w hs => (hs.view 0 rfl)) hx45 ?_
     refine oN 1 [(23, .q a0_0 (Int.toNat s21.1 * 3 + 1))] [21, 1, 5, 0] ?_
     obtain ⟨l47, hm48, h49⟩ := bS h46
     replace hm48 := (sI hm48).symm
     refine JO_storeq (α := Point) (d := a0_0) (vs := [.int .i64 (w64 (s21.2.2 + 1))]) (j := s21.1) (x' := (Point.mk x44.Month (w64 (s21.2.2 + 1)) x44.Value)) rfl (by kernel_rfl) 1 (by kernel_rfl) hx45 (Rc := []) (Rr := []) rfl (by kernel_rfl) (fun w c F Fs ho _ _ => own_flat_set (by kernel_rfl) ho) hm48 rfl ?_
     have hl50 := len_set hm48
     refine JO_keep [21, 1, 5, 0] (sl' := [(21, vi (w64 (s21.2.2 + 1))), (1, vi (w64 (s21.2.2 + 1))), (5, vi s21.1), (0, .v (.slice a0_0 l40.length c0_0))]) (by kernel_rfl) ?_
     refine JO_eqE (sl' := [(21, vi (w64 (s21.2.2 + 1))), (1, vi (w64 (s21.2.2 + 1))), (5, vi s21.1), (0, .v (.slice a0_0 l47.length c0_0))]) (bx' := []) (by simp only [hl50]) rfl ?_
     refine oe (nt (qs (qr (oN 3 [(1, vi (w64 ((w64 (s21.2.2 + 1)) + 1)))] [5, 0] ?_))))
     refine oe (nt (qs (qr (oN 3 [(28, vi (w64 ((w64 (s21.2.2 + 1)) + 1))), (27, vi s21.1), (26, .v (.slice a0_0 l47.length c0_0))] [1, 5, 0] ?_))))
     obtain ⟨x51, hx52, h53⟩ := bS h49
     refine oi 3 (fun γ w hs => (hs.view 0 rfl)) hx52 ?_
     refine oN 1 [(30, .q a0_0 (Int.toNat s21.1 * 3 + 2))] [28, 1, 5, 0] ?_
     obtain ⟨l54, hm55, h56⟩ := bS h53
     replace hm55 := (sI hm55).symm
     refine JO_storeq (α := Point) (d := a0_0) (vs := [.int .i64 (w64 ((w64 (s21.2.2 + 1)) + 1))]) (j := s21.1) (x' := (Point.mk x51.Month x51.Known (w64 ((w64 (s21.2.2 + 1)) + 1)))) rfl (by kernel_rfl) 2 (by kernel_rfl) hx52 (Rc := []) (Rr := []) rfl (by kernel_rfl) (fun w c F Fs ho _ _ => own_flat_set (by kernel_rfl) ho) hm55 rfl ?_
     have hl57 := len_set hm55
     refine JO_keep [28, 1, 5, 0] (sl' := [(28, vi (w64 ((w64 (s21.2.2 + 1)) + 1))), (1, vi (w64 ((w64 (s21.2.2 + 1)) + 1))), (5, vi s21.1), (0, .v (.slice a0_0 l47.length c0_0))]) (by kernel_rfl) ?_
     refine JO_eqE (sl' := [(28, vi (w64 ((w64 (s21.2.2 + 1)) + 1))), (1, vi (w64 ((w64 (s21.2.2 + 1)) + 1))), (5, vi s21.1), (0, .v (.slice a0_0 l54.length c0_0))]) (bx' := []) (by simp only [hl57]) rfl ?_
     refine oe (nt (qr (oN 3 [(1, vi (w64 ((w64 ((w64 (s21.2.2 + 1)) + 1)) + 1)))] [5, 0] ?_)))
     refine oe (bn (nt (qr (oN 3 [(5, vi (w64 (s21.1 + 1)))] [1, 0] ?_))))
     exact oe (ct h56 () [5, 0, 1] [0] 0)
   refine qx (nx (nx (bh ?_)))
   have h58 := leafB hd30 h36 h26
   exact mp ((s21.2.1, s21.2.2), ()) h58 [0, 1] [0] 0
 have h33 := (congrFun hk28 _).symm.trans h33p
 refine nt (qs (qr (oN 2 [(4, vi y32.1.2)] [0] ?_)))
 refine oe (nt (qe (rt [.int .i64 y32.1.2] (fun γ w hs => ?_))))
 rw [← sI h33]
 exact hs.turned (is := [0]) rfl

theorem c_laws_markSeries {W : World} {x0 : Series} {a0_0 : Option Addr} {c0_0 : Nat} {e0_0 : TypeId} {x1 : Int} {r : Int × (List Point)} (h : laws_markSeries x0 x1 = some r)  :
    GivesM Tryz.prog 70 #[vSeries x0 (a0_0, c0_0), .int .i64 x1] W [SlRes e0_0 x0.Points a0_0 c0_0] [SlRes e0_0 r.2 a0_0 c0_0] (.int .i64 r.1) := by
 unfold laws_markSeries at h
 refine enM Tryz.func70 Tryz.ntmps70 (fun Fs => ?_)
 refine qs (qr (oB 2 [(2, .p 0 0)] [0, 1] [(48, (eSeries x0 (a0_0, c0_0)))] ?_))
 refine oe (nt (qs (qr (oN 3 [(7, vi x1), (6, .v (.slice a0_0 x0.Points.length c0_0))] [0] ?_))))
 obtain ⟨t21, h22, h23⟩ := bS h
 obtain ⟨u25, hu26, h27⟩ := bS h23
 have hl28 := (sameLen_some hu26).symm
 refine JO_callM rfl (by kernel_rfl) (f := 116) (args := #[.slice a0_0 x0.Points.length c0_0, .int .i64 x1]) (by kernel_rfl) (x := .int .i64 t21.1) (Rin := [SlRes e0_0 x0.Points a0_0 c0_0]) (Rout := [SlRes e0_0 t21.2 a0_0 c0_0]) (Rr := []) rfl (fun w => (by have vv := c_laws_markPointS (e0_0 := e0_0) (a0_0 := a0_0) (c0_0 := c0_0) (W := w) h22; exact vv)) (sl' := [(8, vi t21.1), (7, vi x1), (6, .v (.slice a0_0 x0.Points.length c0_0)), (0, .v (vSeries x0 (a0_0, c0_0)))]) (by kernel_rfl) ?_
 refine JO_eqE (sl' := [(8, vi t21.1), (7, vi x1), (6, .v (.slice a0_0 t21.2.length c0_0)), (0, .v (.agg #[.slice a0_0 t21.2.length c0_0]))]) (bx' := [(48, [.slice a0_0 t21.2.length c0_0])]) (by simp only [eSeries, vSeries, hl28]) (by simp only [eSeries, vSeries, hl28]) ?_
 refine oN 1 [(1, vi t21.1)] [0] ?_
 refine oe (nt (qs (qr (oN 2 [(4, vi t21.1)] [0] ?_))))
 refine oe (nt (qe (rt [.int .i64 t21.1] (fun γ w hs => ?_))))
 rw [← sI h27]
 exact hs.turned (is := [0]) rfl

theorem c_laws_markSpellS {W : World} {x0 : List Spell} {a0_0 : Option Addr} {c0_0 : Nat} {e0_0 : TypeId} {x1 : Int} {r : Int × (List Spell)} (h : laws_markSpellS x0 x1 = some r)  :
    GivesM Tryz.prog 117 #[.slice a0_0 x0.length c0_0, .int .i64 x1] W [SlRes e0_0 x0 a0_0 c0_0] [SlRes e0_0 r.2 a0_0 c0_0] (.int .i64 r.1) := by
 unfold laws_markSpellS at h
 refine enM Tryz.func117 Tryz.ntmps117 (fun Fs => ?_)
 refine qs (qr (oN 1 [] [0, 1] ?_))
 refine oe (nt (qs (qs (qr (oN 1 [(5, vi 0)] [0, 1] ?_)))))
 refine oe (nt ?_)
 obtain ⟨r24, hL25, h26⟩ := bS h
 obtain ⟨k27, hk28, h26⟩ := brkS h26
 refine JC_cutP (τ := ((List Spell) × Int) × (Unit)) (fun y => k27 y.1 = some r) (fun y32 => [(0, .v (.slice a0_0 y32.1.1.length c0_0)), (1, vi y32.1.2)]) (fun y32 => []) (fun y32 => [SlRes e0_0 y32.1.1 a0_0 c0_0]) ?_ (fun y32 h33p => ?_)
 · refine qb (lp Unit hL25 (fun s21 y22 => [(5, vi s21.1), (0, .v (.slice a0_0 s21.2.1.length c0_0)), (1, vi s21.2.2)]) (fun s21 y22 => []) (fun s21 y22 => [SlRes e0_0 s21.2.1 a0_0 c0_0]) () [5, 0, 1] [0] 0 (fun s21 y22 t23 h29 hd30 => ?_))
   refine qs (qs (qr (oN 4 [(9, vb (decide (s21.1 < (s21.2.1.length : Int))))] [5, 0, 1] ?_)))
   refine oe (nt (cC h29 (fun h35 => ?_) (fun h36 => ?_)))
   · refine qk (nt (qs (qb (qs (qr (oN 3 [(14, vi s21.2.2), (13, vi s21.1), (12, .v (.slice a0_0 s21.2.1.length c0_0))] [5, 0, 1] ?_))))))
     obtain ⟨x37, hx38, h39⟩ := bS h35
     refine oi 4 (fun γ w hs => (hs.view 0 rfl)) hx38 ?_
     refine oN 1 [(16, .q a0_0 (Int.toNat s21.1 * 4))] [14, 5, 0, 1] ?_
     obtain ⟨l40, hm41, h42⟩ := bS h39
     replace hm41 := (sI hm41).symm
     refine JO_storeq (α := Spell) (d := a0_0) (vs := [.int .i64 s21.2.2]) (j := s21.1) (x' := (Spell.mk s21.2.2 x37.To x37.Percent x37.Leave)) rfl (by kernel_rfl) 0 (by kernel_rfl) hx38 (Rc := []) (Rr := []) rfl (by kernel_rfl) (fun w c F Fs ho _ _ => own_flat_set (by kernel_rfl) ho) hm41 rfl ?_
     have hl43 := len_set hm41
     refine JO_keep [14, 5, 0, 1] (sl' := [(14, vi s21.2.2), (5, vi s21.1), (0, .v (.slice a0_0 s21.2.1.length c0_0)), (1, vi s21.2.2)]) (by kernel_rfl) ?_
     refine JO_eqE (sl' := [(14, vi s21.2.2), (5, vi s21.1), (0, .v (.slice a0_0 l40.length c0_0)), (1, vi s21.2.2)]) (bx' := []) (by simp only [hl43]) rfl ?_
     refine oe (nt (qs (qr (oN 3 [(1, vi (w64 (s21.2.2 + 1)))] [5, 0] ?_))))
     refine oe (nt (qs (qr (oN 3 [(21, vi (w64 (s21.2.2 + 1))), (20, vi s21.1), (19, .v (.slice a0_0 l40.length c0_0))] [1, 5, 0] ?_))))
     obtain ⟨x44, hx45, h46⟩ := bS h42
     refine oi 4 (fun γ w hs => (hs.view 0 rfl)) hx45 ?_
     refine oN 1 [(23, .q a0_0 (Int.toNat s21.1 * 4 + 1))] [21, 1, 5, 0] ?_
     obtain ⟨l47, hm48, h49⟩ := bS h46
     replace hm48 := (sI hm48).symm
     refine JO_storeq (α := Spell) (d := a0_0) (vs := [.int .i64 (w64 (s21.2.2 + 1))]) (j := s21.1) (x' := (Spell.mk x44.From (w64 (s21.2.2 + 1)) x44.Percent x44.Leave)) rfl (by kernel_rfl) 1 (by kernel_rfl) hx45 (Rc := []) (Rr := []) rfl (by kernel_rfl) (fun w c F Fs ho _ _ => own_flat_set (by kernel_rfl) ho) hm48 rfl ?_
     have hl50 := len_set hm48
     refine JO_keep [21, 1, 5, 0] (sl' := [(21, vi (w64 (s21.2.2 + 1))), (1, vi (w64 (s21.2.2 + 1))), (5, vi s21.1), (0, .v (.slice a0_0 l40.length c0_0))]) (by kernel_rfl) ?_
     refine JO_eqE (sl' := [(21, vi (w64 (s21.2.2 + 1))), (1, vi (w64 (s21.2.2 + 1))), (5, vi s21.1), (0, .v (.slice a0_0 l47.length c0_0))]) (bx' := []) (by simp only [hl50]) rfl ?_
     refine oe (nt (qs (qr (oN 3 [(1, vi (w64 ((w64 (s21.2.2 + 1)) + 1)))] [5, 0] ?_))))
     refine oe (nt (qs (qr (oN 3 [(28, vi (w64 ((w64 (s21.2.2 + 1)) + 1))), (27, vi s21.1), (26, .v (.slice a0_0 l47.length c0_0))] [1, 5, 0] ?_))))
     obtain ⟨x51, hx52, h53⟩ := bS h49
     refine oi 4 (fun γ w hs => (hs.view 0 rfl)) hx52 ?_
     refine oN 1 [(30, .q a0_0 (Int.toNat s21.1 * 4 + 2))] [28, 1, 5, 0] ?_
     obtain ⟨l54, hm55, h56⟩ := bS h53
     replace hm55 := (sI hm55).symm
     refine JO_storeq (α := Spell) (d := a0_0) (vs := [.int .i64 (w64 ((w64 (s21.2.2 + 1)) + 1))]) (j := s21.1) (x' := (Spell.mk x51.From x51.To (w64 ((w64 (s21.2.2 + 1)) + 1)) x51.Leave)) rfl (by kernel_rfl) 2 (by kernel_rfl) hx52 (Rc := []) (Rr := []) rfl (by kernel_rfl) (fun w c F Fs ho _ _ => own_flat_set (by kernel_rfl) ho) hm55 rfl ?_
     have hl57 := len_set hm55
     refine JO_keep [28, 1, 5, 0] (sl' := [(28, vi (w64 ((w64 (s21.2.2 + 1)) + 1))), (1, vi (w64 ((w64 (s21.2.2 + 1)) + 1))), (5, vi s21.1), (0, .v (.slice a0_0 l47.length c0_0))]) (by kernel_rfl) ?_
     refine JO_eqE (sl' := [(28, vi (w64 ((w64 (s21.2.2 + 1)) + 1))), (1, vi (w64 ((w64 (s21.2.2 + 1)) + 1))), (5, vi s21.1), (0, .v (.slice a0_0 l54.length c0_0))]) (bx' := []) (by simp only [hl57]) rfl ?_
     refine oe (nt (qs (qr (oN 3 [(1, vi (w64 ((w64 ((w64 (s21.2.2 + 1)) + 1)) + 1)))] [5, 0] ?_))))
     refine oe (nt (qs (qr (oN 5 [(37, vb ((Int.tmod (w64 ((w64 ((w64 (s21.2.2 + 1)) + 1)) + 1)) 3) == 0)), (34, vi s21.1), (33, .v (.slice a0_0 l54.length c0_0))] [1, 5, 0] ?_))))
     obtain ⟨x58, hx59, h60⟩ := bS h56
     refine oi 4 (fun γ w hs => (hs.view 0 rfl)) hx59 ?_
     refine oN 1 [(39, .q a0_0 (Int.toNat s21.1 * 4 + 3))] [37, 1, 5, 0] ?_
     obtain ⟨l61, hm62, h63⟩ := bS h60
     replace hm62 := (sI hm62).symm
     refine JO_storeq (α := Spell) (d := a0_0) (vs := [.bool ((Int.tmod (w64 ((w64 ((w64 (s21.2.2 + 1)) + 1)) + 1)) 3) == 0)]) (j := s21.1) (x' := (Spell.mk x58.From x58.To x58.Percent ((Int.tmod (w64 ((w64 ((w64 (s21.2.2 + 1)) + 1)) + 1)) 3) == 0))) rfl (by kernel_rfl) 3 (by kernel_rfl) hx59 (Rc := []) (Rr := []) rfl (by kernel_rfl) (fun w c F Fs ho _ _ => own_flat_set (by kernel_rfl) ho) hm62 rfl ?_
     have hl64 := len_set hm62
     refine JO_keep [37, 1, 5, 0] (sl' := [(37, vb ((Int.tmod (w64 ((w64 ((w64 (s21.2.2 + 1)) + 1)) + 1)) 3) == 0)), (1, vi (w64 ((w64 ((w64 (s21.2.2 + 1)) + 1)) + 1))), (5, vi s21.1), (0, .v (.slice a0_0 l54.length c0_0))]) (by kernel_rfl) ?_
     refine JO_eqE (sl' := [(37, vb ((Int.tmod (w64 ((w64 ((w64 (s21.2.2 + 1)) + 1)) + 1)) 3) == 0)), (1, vi (w64 ((w64 ((w64 (s21.2.2 + 1)) + 1)) + 1))), (5, vi s21.1), (0, .v (.slice a0_0 l61.length c0_0))]) (bx' := []) (by simp only [hl64]) rfl ?_
     refine oe (nt (qr (oN 3 [(1, vi (w64 ((w64 ((w64 ((w64 (s21.2.2 + 1)) + 1)) + 1)) + 1)))] [5, 0] ?_)))
     refine oe (bn (nt (qr (oN 3 [(5, vi (w64 (s21.1 + 1)))] [1, 0] ?_))))
     exact oe (ct h63 () [5, 0, 1] [0] 0)
   refine qx (nx (nx (bh ?_)))
   have h65 := leafB hd30 h36 h26
   exact mp ((s21.2.1, s21.2.2), ()) h65 [0, 1] [0] 0
 have h33 := (congrFun hk28 _).symm.trans h33p
 refine nt (qs (qr (oN 2 [(4, vi y32.1.2)] [0] ?_)))
 refine oe (nt (qe (rt [.int .i64 y32.1.2] (fun γ w hs => ?_))))
 rw [← sI h33]
 exact hs.turned (is := [0]) rfl

theorem c_laws_markEventS {W : World} {x0 : List Event} {a0_0 : Option Addr} {c0_0 : Nat} {e0_0 : TypeId} {x1 : Int} {r : Int × (List Event)} (h : laws_markEventS x0 x1 = some r)  :
    GivesM Tryz.prog 118 #[.slice a0_0 x0.length c0_0, .int .i64 x1] W [SlRes e0_0 x0 a0_0 c0_0] [SlRes e0_0 r.2 a0_0 c0_0] (.int .i64 r.1) := by
 unfold laws_markEventS at h
 refine enM Tryz.func118 Tryz.ntmps118 (fun Fs => ?_)
 refine qs (qr (oN 1 [] [0, 1] ?_))
 refine oe (nt (qs (qs (qr (oN 1 [(5, vi 0)] [0, 1] ?_)))))
 refine oe (nt ?_)
 obtain ⟨r24, hL25, h26⟩ := bS h
 obtain ⟨k27, hk28, h26⟩ := brkS h26
 refine JC_cutP (τ := ((List Event) × Int) × (Unit)) (fun y => k27 y.1 = some r) (fun y32 => [(0, .v (.slice a0_0 y32.1.1.length c0_0)), (1, vi y32.1.2)]) (fun y32 => []) (fun y32 => [SlRes e0_0 y32.1.1 a0_0 c0_0]) ?_ (fun y32 h33p => ?_)
 · refine qb (lp Unit hL25 (fun s21 y22 => [(5, vi s21.1), (0, .v (.slice a0_0 s21.2.1.length c0_0)), (1, vi s21.2.2)]) (fun s21 y22 => []) (fun s21 y22 => [SlRes e0_0 s21.2.1 a0_0 c0_0]) () [5, 0, 1] [0] 0 (fun s21 y22 t23 h29 hd30 => ?_))
   refine qs (qs (qr (oN 4 [(9, vb (decide (s21.1 < (s21.2.1.length : Int))))] [5, 0, 1] ?_)))
   refine oe (nt (cC h29 (fun h35 => ?_) (fun h36 => ?_)))
   · refine qk (nt (qs (qb (qs (qr (oN 3 [(14, vi s21.2.2), (13, vi s21.1), (12, .v (.slice a0_0 s21.2.1.length c0_0))] [5, 0, 1] ?_))))))
     obtain ⟨x37, hx38, h39⟩ := bS h35
     refine oi 2 (fun γ w hs => (hs.view 0 rfl)) hx38 ?_
     refine oN 1 [(16, .q a0_0 (Int.toNat s21.1 * 2))] [14, 5, 0, 1] ?_
     obtain ⟨l40, hm41, h42⟩ := bS h39
     replace hm41 := (sI hm41).symm
     refine JO_storeq (α := Event) (d := a0_0) (vs := [.int .i64 s21.2.2]) (j := s21.1) (x' := (Event.mk s21.2.2 x37.Month)) rfl (by kernel_rfl) 0 (by kernel_rfl) hx38 (Rc := []) (Rr := []) rfl (by kernel_rfl) (fun w c F Fs ho _ _ => own_flat_set (by kernel_rfl) ho) hm41 rfl ?_
     have hl43 := len_set hm41
     refine JO_keep [14, 5, 0, 1] (sl' := [(14, vi s21.2.2), (5, vi s21.1), (0, .v (.slice a0_0 s21.2.1.length c0_0)), (1, vi s21.2.2)]) (by kernel_rfl) ?_
     refine JO_eqE (sl' := [(14, vi s21.2.2), (5, vi s21.1), (0, .v (.slice a0_0 l40.length c0_0)), (1, vi s21.2.2)]) (bx' := []) (by simp only [hl43]) rfl ?_
     refine oe (nt (qs (qr (oN 3 [(1, vi (w64 (s21.2.2 + 1)))] [5, 0] ?_))))
     refine oe (nt (qs (qr (oN 3 [(21, vi (w64 (s21.2.2 + 1))), (20, vi s21.1), (19, .v (.slice a0_0 l40.length c0_0))] [1, 5, 0] ?_))))
     obtain ⟨x44, hx45, h46⟩ := bS h42
     refine oi 2 (fun γ w hs => (hs.view 0 rfl)) hx45 ?_
     refine oN 1 [(23, .q a0_0 (Int.toNat s21.1 * 2 + 1))] [21, 1, 5, 0] ?_
     obtain ⟨l47, hm48, h49⟩ := bS h46
     replace hm48 := (sI hm48).symm
     refine JO_storeq (α := Event) (d := a0_0) (vs := [.int .i64 (w64 (s21.2.2 + 1))]) (j := s21.1) (x' := (Event.mk x44.Kind (w64 (s21.2.2 + 1)))) rfl (by kernel_rfl) 1 (by kernel_rfl) hx45 (Rc := []) (Rr := []) rfl (by kernel_rfl) (fun w c F Fs ho _ _ => own_flat_set (by kernel_rfl) ho) hm48 rfl ?_
     have hl50 := len_set hm48
     refine JO_keep [21, 1, 5, 0] (sl' := [(21, vi (w64 (s21.2.2 + 1))), (1, vi (w64 (s21.2.2 + 1))), (5, vi s21.1), (0, .v (.slice a0_0 l40.length c0_0))]) (by kernel_rfl) ?_
     refine JO_eqE (sl' := [(21, vi (w64 (s21.2.2 + 1))), (1, vi (w64 (s21.2.2 + 1))), (5, vi s21.1), (0, .v (.slice a0_0 l47.length c0_0))]) (bx' := []) (by simp only [hl50]) rfl ?_
     refine oe (nt (qr (oN 3 [(1, vi (w64 ((w64 (s21.2.2 + 1)) + 1)))] [5, 0] ?_)))
     refine oe (bn (nt (qr (oN 3 [(5, vi (w64 (s21.1 + 1)))] [1, 0] ?_))))
     exact oe (ct h49 () [5, 0, 1] [0] 0)
   refine qx (nx (nx (bh ?_)))
   have h51 := leafB hd30 h36 h26
   exact mp ((s21.2.1, s21.2.2), ()) h51 [0, 1] [0] 0
 have h33 := (congrFun hk28 _).symm.trans h33p
 refine nt (qs (qr (oN 2 [(4, vi y32.1.2)] [0] ?_)))
 refine oe (nt (qe (rt [.int .i64 y32.1.2] (fun γ w hs => ?_))))
 rw [← sI h33]
 exact hs.turned (is := [0]) rfl

theorem c_laws_markMember {W : World} {x0 : Member} {a0_0 : Option Addr} {c0_0 : Nat} {e0_0 : TypeId} {a0_1 : Option Addr} {c0_1 : Nat} {e0_1 : TypeId} {x1 : Int} {r : Int × (List Spell) × (List Event)} (h : laws_markMember x0 x1 = some r)  :
    GivesM Tryz.prog 71 #[vMember x0 ((a0_0, c0_0), (a0_1, c0_1)), .int .i64 x1] W [SlRes e0_0 x0.Spells a0_0 c0_0, SlRes e0_1 x0.Events a0_1 c0_1] [SlRes e0_0 r.2.1 a0_0 c0_0, SlRes e0_1 r.2.2 a0_1 c0_1] (.int .i64 r.1) := by
 unfold laws_markMember at h
 refine enM Tryz.func71 Tryz.ntmps71 (fun Fs => ?_)
 refine qs (qr (oB 2 [(2, .p 0 0)] [0, 1] [(52, (eMember x0 ((a0_0, c0_0), (a0_1, c0_1))))] ?_))
 refine oe (nt (qs (qr (oN 3 [(7, vi x1), (6, .v (.slice a0_0 x0.Spells.length c0_0))] [2, 0] ?_))))
 obtain ⟨t21, h22, h23⟩ := bS h
 obtain ⟨u25, hu26, h27⟩ := bS h23
 have hl28 := (sameLen_some hu26).symm
 refine JO_callM rfl (by kernel_rfl) (f := 117) (args := #[.slice a0_0 x0.Spells.length c0_0, .int .i64 x1]) (by kernel_rfl) (x := .int .i64 t21.1) (Rin := [SlRes e0_0 x0.Spells a0_0 c0_0]) (Rout := [SlRes e0_0 t21.2 a0_0 c0_0]) (Rr := [SlRes e0_1 x0.Events a0_1 c0_1]) rfl (fun w => (by have vv := c_laws_markSpellS (e0_0 := e0_0) (a0_0 := a0_0) (c0_0 := c0_0) (W := w) h22; exact vv)) (sl' := [(8, vi t21.1), (7, vi x1), (6, .v (.slice a0_0 x0.Spells.length c0_0)), (2, .p 0 0), (0, .v (vMember x0 ((a0_0, c0_0), (a0_1, c0_1))))]) (by kernel_rfl) ?_
 refine JO_eqE (sl' := [(8, vi t21.1), (7, vi x1), (6, .v (.slice a0_0 t21.2.length c0_0)), (2, .p 0 0), (0, .v (vMember (Member.mk x0.Birth x0.Joined t21.2 x0.Events) ((a0_0, c0_0), (a0_1, c0_1))))]) (bx' := [(52, (eMember (Member.mk x0.Birth x0.Joined t21.2 x0.Events) ((a0_0, c0_0), (a0_1, c0_1))))]) (by simp only [eMember, vMember, hl28]) (by simp only [eMember, vMember, hl28]) ?_
 refine oN 1 [(1, vi t21.1)] [2, 0] ?_
 refine oe (nt (qs (qr (oN 3 [(11, vi t21.1), (10, .v (.slice a0_1 x0.Events.length c0_1))] [0] ?_))))
 refine or_ [1, 0] ?_
 obtain ⟨t29, h30, h31⟩ := bS h27
 obtain ⟨u33, hu34, h35⟩ := bS h31
 have hl36 := (sameLen_some hu34).symm
 refine JO_callM rfl (by kernel_rfl) (f := 118) (args := #[.slice a0_1 x0.Events.length c0_1, .int .i64 t21.1]) (by kernel_rfl) (x := .int .i64 t29.1) (Rin := [SlRes e0_1 x0.Events a0_1 c0_1]) (Rout := [SlRes e0_1 t29.2 a0_1 c0_1]) (Rr := [SlRes e0_0 t21.2 a0_0 c0_0]) rfl (fun w => (by have vv := c_laws_markEventS (e0_0 := e0_1) (a0_0 := a0_1) (c0_0 := c0_1) (W := w) h30; exact vv)) (sl' := [(12, vi t29.1), (11, vi t21.1), (10, .v (.slice a0_1 x0.Events.length c0_1)), (0, .v (vMember (Member.mk x0.Birth x0.Joined t21.2 x0.Events) ((a0_0, c0_0), (a0_1, c0_1))))]) (by kernel_rfl) ?_
 refine JO_eqE (sl' := [(12, vi t29.1), (11, vi t21.1), (10, .v (.slice a0_1 t29.2.length c0_1)), (0, .v (vMember (Member.mk x0.Birth x0.Joined t21.2 t29.2) ((a0_0, c0_0), (a0_1, c0_1))))]) (bx' := [(52, (eMember (Member.mk x0.Birth x0.Joined t21.2 t29.2) ((a0_0, c0_0), (a0_1, c0_1))))]) (by simp only [eMember, vMember, hl36]) (by simp only [eMember, vMember, hl36]) ?_
 refine oN 1 [(1, vi t29.1)] [0] ?_
 refine oe (nt (qs (qr (oN 2 [(4, vi t29.1)] [0] ?_))))
 refine oe (nt (qe (rt [.int .i64 t29.1] (fun γ w hs => ?_))))
 rw [← sI h35]
 exact hs.turned (is := [1, 0]) rfl

theorem c_laws_markCase {W : World} {x0 : Case} {a0_0 : Option Addr} {c0_0 : Nat} {e0_0 : TypeId} {a0_1 : Option Addr} {c0_1 : Nat} {e0_1 : TypeId} {a0_2 : Option Addr} {c0_2 : Nat} {e0_2 : TypeId} {a0_3 : Option Addr} {c0_3 : Nat} {e0_3 : TypeId} {a0_4 : Option Addr} {c0_4 : Nat} {e0_4 : TypeId} {x1 : Int} {r : Int × (List Rule) × (List Fact) × (List Point) × (List Spell) × (List Event)} (h : laws_markCase x0 x1 = some r)  :
    GivesM Tryz.prog 23 #[vCase x0 ((a0_0, c0_0), (a0_1, c0_1), (a0_2, c0_2), (a0_3, c0_3), (a0_4, c0_4)), .int .i64 x1] W [SlRes e0_0 x0.Book.Rules a0_0 c0_0, SlRes e0_1 x0.Store.Facts a0_1 c0_1, SlRes e0_2 x0.Series.Points a0_2 c0_2, SlRes e0_3 x0.Member.Spells a0_3 c0_3, SlRes e0_4 x0.Member.Events a0_4 c0_4] [SlRes e0_0 r.2.1 a0_0 c0_0, SlRes e0_1 r.2.2.1 a0_1 c0_1, SlRes e0_2 r.2.2.2.1 a0_2 c0_2, SlRes e0_3 r.2.2.2.2.1 a0_3 c0_3, SlRes e0_4 r.2.2.2.2.2 a0_4 c0_4] (.int .i64 r.1) := by
 unfold laws_markCase at h
 refine enM Tryz.func23 Tryz.ntmps23 (fun Fs => ?_)
 refine qs (qr (oB 2 [(2, .p 0 0)] [0, 1] [(54, (eCase x0 ((a0_0, c0_0), (a0_1, c0_1), (a0_2, c0_2), (a0_3, c0_3), (a0_4, c0_4))))] ?_))
 refine oe (nt (qs (qr (oN 3 [(7, vi x1), (6, .v (vBook x0.Book (a0_0, c0_0)))] [2, 0] ?_))))
 obtain ⟨t21, h22, h23⟩ := bS h
 obtain ⟨u25, hu26, h27⟩ := bS h23
 have hl28 := (sameLen_some hu26).symm
 refine JO_callM rfl (by kernel_rfl) (f := 68) (args := #[vBook x0.Book (a0_0, c0_0), .int .i64 x1]) (by kernel_rfl) (x := .int .i64 t21.1) (Rin := [SlRes e0_0 x0.Book.Rules a0_0 c0_0]) (Rout := [SlRes e0_0 t21.2 a0_0 c0_0]) (Rr := [SlRes e0_1 x0.Store.Facts a0_1 c0_1, SlRes e0_2 x0.Series.Points a0_2 c0_2, SlRes e0_3 x0.Member.Spells a0_3 c0_3, SlRes e0_4 x0.Member.Events a0_4 c0_4]) rfl (fun w => (by have vv := c_laws_markBook (e0_0 := e0_0) (a0_0 := a0_0) (c0_0 := c0_0) (W := w) h22; exact vv)) (sl' := [(8, vi t21.1), (7, vi x1), (6, .v (vBook x0.Book (a0_0, c0_0))), (2, .p 0 0), (0, .v (vCase x0 ((a0_0, c0_0), (a0_1, c0_1), (a0_2, c0_2), (a0_3, c0_3), (a0_4, c0_4))))]) (by kernel_rfl) ?_
 refine JO_eqE (sl' := [(8, vi t21.1), (7, vi x1), (6, .v (vBook (Book.mk t21.2) (a0_0, c0_0))), (2, .p 0 0), (0, .v (vCase (Case.mk (Book.mk t21.2) x0.Store x0.Series x0.Member) ((a0_0, c0_0), (a0_1, c0_1), (a0_2, c0_2), (a0_3, c0_3), (a0_4, c0_4))))]) (bx' := [(54, (eCase (Case.mk (Book.mk t21.2) x0.Store x0.Series x0.Member) ((a0_0, c0_0), (a0_1, c0_1), (a0_2, c0_2), (a0_3, c0_3), (a0_4, c0_4))))]) (by simp only [eBook, eCase, vBook, vCase, hl28]) (by simp only [eCase, vCase, hl28]) ?_
 refine oN 1 [(1, vi t21.1)] [2, 0] ?_
 refine oe (nt (qs (qr (oN 3 [(11, vi t21.1), (10, .v (vStore x0.Store (a0_1, c0_1)))] [2, 0] ?_))))
 refine JO_res (R' := [SlRes e0_1 x0.Store.Facts a0_1 c0_1, SlRes e0_0 t21.2 a0_0 c0_0, SlRes e0_2 x0.Series.Points a0_2 c0_2, SlRes e0_3 x0.Member.Spells a0_3 c0_3, SlRes e0_4 x0.Member.Events a0_4 c0_4]) [1, 0, 0, 0, 0] (by kernel_rfl) ?_
 obtain ⟨t29, h30, h31⟩ := bS h27
 obtain ⟨u33, hu34, h35⟩ := bS h31
 have hl36 := (sameLen_some hu34).symm
 refine JO_callM rfl (by kernel_rfl) (f := 69) (args := #[vStore x0.Store (a0_1, c0_1), .int .i64 t21.1]) (by kernel_rfl) (x := .int .i64 t29.1) (Rin := [SlRes e0_1 x0.Store.Facts a0_1 c0_1]) (Rout := [SlRes e0_1 t29.2 a0_1 c0_1]) (Rr := [SlRes e0_0 t21.2 a0_0 c0_0, SlRes e0_2 x0.Series.Points a0_2 c0_2, SlRes e0_3 x0.Member.Spells a0_3 c0_3, SlRes e0_4 x0.Member.Events a0_4 c0_4]) rfl (fun w => (by have vv := c_laws_markStore (e0_0 := e0_1) (a0_0 := a0_1) (c0_0 := c0_1) (W := w) h30; exact vv)) (sl' := [(12, vi t29.1), (11, vi t21.1), (10, .v (vStore x0.Store (a0_1, c0_1))), (2, .p 0 0), (0, .v (vCase (Case.mk (Book.mk t21.2) x0.Store x0.Series x0.Member) ((a0_0, c0_0), (a0_1, c0_1), (a0_2, c0_2), (a0_3, c0_3), (a0_4, c0_4))))]) (by kernel_rfl) ?_
 refine JO_eqE (sl' := [(12, vi t29.1), (11, vi t21.1), (10, .v (vStore (Store.mk t29.2) (a0_1, c0_1))), (2, .p 0 0), (0, .v (vCase (Case.mk (Book.mk t21.2) (Store.mk t29.2) x0.Series x0.Member) ((a0_0, c0_0), (a0_1, c0_1), (a0_2, c0_2), (a0_3, c0_3), (a0_4, c0_4))))]) (bx' := [(54, (eCase (Case.mk (Book.mk t21.2) (Store.mk t29.2) x0.Series x0.Member) ((a0_0, c0_0), (a0_1, c0_1), (a0_2, c0_2), (a0_3, c0_3), (a0_4, c0_4))))]) (by simp only [eCase, eStore, vCase, vStore, hl36]) (by simp only [eCase, vCase, hl36]) ?_
 refine oN 1 [(1, vi t29.1)] [2, 0] ?_
 refine oe (nt (qs (qr (oN 3 [(15, vi t29.1), (14, .v (vSeries x0.Series (a0_2, c0_2)))] [2, 0] ?_))))
 refine JO_res (R' := [SlRes e0_2 x0.Series.Points a0_2 c0_2, SlRes e0_1 t29.2 a0_1 c0_1, SlRes e0_0 t21.2 a0_0 c0_0, SlRes e0_3 x0.Member.Spells a0_3 c0_3, SlRes e0_4 x0.Member.Events a0_4 c0_4]) [2, 0, 0, 0, 0] (by kernel_rfl) ?_
 obtain ⟨t37, h38, h39⟩ := bS h35
 obtain ⟨u41, hu42, h43⟩ := bS h39
 have hl44 := (sameLen_some hu42).symm
 refine JO_callM rfl (by kernel_rfl) (f := 70) (args := #[vSeries x0.Series (a0_2, c0_2), .int .i64 t29.1]) (by kernel_rfl) (x := .int .i64 t37.1) (Rin := [SlRes e0_2 x0.Series.Points a0_2 c0_2]) (Rout := [SlRes e0_2 t37.2 a0_2 c0_2]) (Rr := [SlRes e0_1 t29.2 a0_1 c0_1, SlRes e0_0 t21.2 a0_0 c0_0, SlRes e0_3 x0.Member.Spells a0_3 c0_3, SlRes e0_4 x0.Member.Events a0_4 c0_4]) rfl (fun w => (by have vv := c_laws_markSeries (e0_0 := e0_2) (a0_0 := a0_2) (c0_0 := c0_2) (W := w) h38; exact vv)) (sl' := [(16, vi t37.1), (15, vi t29.1), (14, .v (vSeries x0.Series (a0_2, c0_2))), (2, .p 0 0), (0, .v (vCase (Case.mk (Book.mk t21.2) (Store.mk t29.2) x0.Series x0.Member) ((a0_0, c0_0), (a0_1, c0_1), (a0_2, c0_2), (a0_3, c0_3), (a0_4, c0_4))))]) (by kernel_rfl) ?_
 refine JO_eqE (sl' := [(16, vi t37.1), (15, vi t29.1), (14, .v (.agg #[.slice a0_2 t37.2.length c0_2])), (2, .p 0 0), (0, .v (vCase (Case.mk (Book.mk t21.2) (Store.mk t29.2) (Series.mk t37.2) x0.Member) ((a0_0, c0_0), (a0_1, c0_1), (a0_2, c0_2), (a0_3, c0_3), (a0_4, c0_4))))]) (bx' := [(54, (eCase (Case.mk (Book.mk t21.2) (Store.mk t29.2) (Series.mk t37.2) x0.Member) ((a0_0, c0_0), (a0_1, c0_1), (a0_2, c0_2), (a0_3, c0_3), (a0_4, c0_4))))]) (by simp only [eCase, eSeries, vCase, vSeries, hl44]) (by simp only [eCase, vCase, hl44]) ?_
 refine oN 1 [(1, vi t37.1)] [2, 0] ?_
 refine oe (nt (qs (qr (oN 3 [(19, vi t37.1), (18, .v (vMember x0.Member ((a0_3, c0_3), (a0_4, c0_4))))] [0] ?_))))
 refine JO_res (R' := [SlRes e0_3 x0.Member.Spells a0_3 c0_3, SlRes e0_4 x0.Member.Events a0_4 c0_4, SlRes e0_2 t37.2 a0_2 c0_2, SlRes e0_1 t29.2 a0_1 c0_1, SlRes e0_0 t21.2 a0_0 c0_0]) [3, 3, 0, 0, 0] (by kernel_rfl) ?_
 obtain ⟨t45, h46, h47⟩ := bS h43
 obtain ⟨u49, hu50, h51⟩ := bS h47
 have hl52 := (sameLen_some hu50).symm
 obtain ⟨u53, hu54, h55⟩ := bS h51
 have hl56 := (sameLen_some hu54).symm
 refine JO_callM rfl (by kernel_rfl) (f := 71) (args := #[vMember x0.Member ((a0_3, c0_3), (a0_4, c0_4)), .int .i64 t37.1]) (by kernel_rfl) (x := .int .i64 t45.1) (Rin := [SlRes e0_3 x0.Member.Spells a0_3 c0_3, SlRes e0_4 x0.Member.Events a0_4 c0_4]) (Rout := [SlRes e0_3 t45.2.1 a0_3 c0_3, SlRes e0_4 t45.2.2 a0_4 c0_4]) (Rr := [SlRes e0_2 t37.2 a0_2 c0_2, SlRes e0_1 t29.2 a0_1 c0_1, SlRes e0_0 t21.2 a0_0 c0_0]) rfl (fun w => (by have vv := c_laws_markMember (e0_0 := e0_3) (a0_0 := a0_3) (c0_0 := c0_3) (e0_1 := e0_4) (a0_1 := a0_4) (c0_1 := c0_4) (W := w) h46; exact vv)) (sl' := [(20, vi t45.1), (19, vi t37.1), (18, .v (vMember x0.Member ((a0_3, c0_3), (a0_4, c0_4)))), (0, .v (vCase (Case.mk (Book.mk t21.2) (Store.mk t29.2) (Series.mk t37.2) x0.Member) ((a0_0, c0_0), (a0_1, c0_1), (a0_2, c0_2), (a0_3, c0_3), (a0_4, c0_4))))]) (by kernel_rfl) ?_
 refine JO_eqE (sl' := [(20, vi t45.1), (19, vi t37.1), (18, .v (vMember (Member.mk x0.Member.Birth x0.Member.Joined t45.2.1 t45.2.2) ((a0_3, c0_3), (a0_4, c0_4)))), (0, .v (vCase (Case.mk (Book.mk t21.2) (Store.mk t29.2) (Series.mk t37.2) (Member.mk x0.Member.Birth x0.Member.Joined t45.2.1 t45.2.2)) ((a0_0, c0_0), (a0_1, c0_1), (a0_2, c0_2), (a0_3, c0_3), (a0_4, c0_4))))]) (bx' := [(54, (eCase (Case.mk (Book.mk t21.2) (Store.mk t29.2) (Series.mk t37.2) (Member.mk x0.Member.Birth x0.Member.Joined t45.2.1 t45.2.2)) ((a0_0, c0_0), (a0_1, c0_1), (a0_2, c0_2), (a0_3, c0_3), (a0_4, c0_4))))]) (by simp only [eCase, eMember, vCase, vMember, hl52, hl56]) (by simp only [eCase, vCase, hl52, hl56]) ?_
 refine oN 1 [(1, vi t45.1)] [0] ?_
 refine oe (nt (qs (qr (oN 2 [(4, vi t45.1)] [0] ?_))))
 refine oe (nt (qe (rt [.int .i64 t45.1] (fun γ w hs => ?_))))
 rw [← sI h55]
 exact hs.turned (is := [4, 3, 2, 0, 0]) rfl

theorem c_laws_markIntS {W : World} {x0 : List Int} {a0_0 : Option Addr} {c0_0 : Nat} {e0_0 : TypeId} {x1 : Int} {r : Int × (List Int)} (h : laws_markIntS x0 x1 = some r)  :
    GivesM Tryz.prog 26 #[.slice a0_0 x0.length c0_0, .int .i64 x1] W [SlRes e0_0 x0 a0_0 c0_0] [SlRes e0_0 r.2 a0_0 c0_0] (.int .i64 r.1) := by
 unfold laws_markIntS at h
 refine enM Tryz.func26 Tryz.ntmps26 (fun Fs => ?_)
 refine qs (qr (oN 1 [] [0, 1] ?_))
 refine oe (nt (qs (qs (qr (oN 1 [(5, vi 0)] [0, 1] ?_)))))
 refine oe (nt ?_)
 obtain ⟨r24, hL25, h26⟩ := bS h
 obtain ⟨k27, hk28, h26⟩ := brkS h26
 refine JC_cutP (τ := ((List Int) × Int) × (Unit)) (fun y => k27 y.1 = some r) (fun y32 => [(0, .v (.slice a0_0 y32.1.1.length c0_0)), (1, vi y32.1.2)]) (fun y32 => []) (fun y32 => [SlRes e0_0 y32.1.1 a0_0 c0_0]) ?_ (fun y32 h33p => ?_)
 · refine qb (lp Unit hL25 (fun s21 y22 => [(5, vi s21.1), (0, .v (.slice a0_0 s21.2.1.length c0_0)), (1, vi s21.2.2)]) (fun s21 y22 => []) (fun s21 y22 => [SlRes e0_0 s21.2.1 a0_0 c0_0]) () [5, 0, 1] [0] 0 (fun s21 y22 t23 h29 hd30 => ?_))
   refine qs (qs (qr (oN 4 [(9, vb (decide (s21.1 < (s21.2.1.length : Int))))] [5, 0, 1] ?_)))
   refine oe (nt (cC h29 (fun h35 => ?_) (fun h36 => ?_)))
   · refine qk (nt (qs (qb (qs (qr (oN 3 [(14, vi s21.2.2), (13, vi s21.1), (12, .v (.slice a0_0 s21.2.1.length c0_0))] [5, 0, 1] ?_))))))
     obtain ⟨x37, hx38, h39⟩ := bS h35
     refine oi 1 (fun γ w hs => (hs.view 0 rfl)) hx38 ?_
     obtain ⟨l40, hm41, h42⟩ := bS h39
     replace hm41 := (sI hm41).symm
     refine JO_storeq (α := Int) (d := a0_0) (vs := [.int .i64 s21.2.2]) (j := s21.1) (x' := s21.2.2) rfl (by kernel_rfl) 0 (by kernel_rfl) hx38 (Rc := []) (Rr := []) rfl (by kernel_rfl) (fun w c F Fs ho _ _ => own_flat_set (by kernel_rfl) ho) hm41 rfl ?_
     have hl43 := len_set hm41
     refine JO_keep [14, 13, 12, 5, 0, 1] (sl' := [(14, vi s21.2.2), (13, vi s21.1), (12, .v (.slice a0_0 s21.2.1.length c0_0)), (5, vi s21.1), (0, .v (.slice a0_0 s21.2.1.length c0_0)), (1, vi s21.2.2)]) (by kernel_rfl) ?_
     refine JO_eqE (sl' := [(14, vi s21.2.2), (13, vi s21.1), (12, .v (.slice a0_0 l40.length c0_0)), (5, vi s21.1), (0, .v (.slice a0_0 l40.length c0_0)), (1, vi s21.2.2)]) (bx' := []) (by simp only [hl43]) rfl ?_
     refine oe (nt (qr (oN 3 [(1, vi (w64 (s21.2.2 + 1)))] [5, 0] ?_)))
     refine oe (bn (nt (qr (oN 3 [(5, vi (w64 (s21.1 + 1)))] [1, 0] ?_))))
     exact oe (ct h42 () [5, 0, 1] [0] 0)
   refine qx (nx (nx (bh ?_)))
   have h44 := leafB hd30 h36 h26
   exact mp ((s21.2.1, s21.2.2), ()) h44 [0, 1] [0] 0
 have h33 := (congrFun hk28 _).symm.trans h33p
 refine nt (qs (qr (oN 2 [(4, vi y32.1.2)] [0] ?_)))
 refine oe (nt (qe (rt [.int .i64 y32.1.2] (fun γ w hs => ?_))))
 rw [← sI h33]
 exact hs.turned (is := [0]) rfl

theorem c_laws_markOffice {W : World} {x0 : Office} {a0_0 : Option Addr} {c0_0 : Nat} {e0_0 : TypeId} {a0_1 : Option Addr} {c0_1 : Nat} {e0_1 : TypeId} {a0_2 : Option Addr} {c0_2 : Nat} {e0_2 : TypeId} {a0_3 : Option Addr} {c0_3 : Nat} {e0_3 : TypeId} {a0_4 : Option Addr} {c0_4 : Nat} {e0_4 : TypeId} {a0_5 : Option Addr} {c0_5 : Nat} {e0_5 : TypeId} {x1 : Int} {r : Int × (List Rule) × (List Fact) × (List Point) × (List Spell) × (List Event) × (List Int)} (h : laws_markOffice x0 x1 = some r)  :
    GivesM Tryz.prog 25 #[vOffice x0 ((a0_0, c0_0), (a0_1, c0_1), (a0_2, c0_2), (a0_3, c0_3), (a0_4, c0_4), (a0_5, c0_5)), .int .i64 x1] W [SlRes e0_0 x0.Case.Book.Rules a0_0 c0_0, SlRes e0_1 x0.Case.Store.Facts a0_1 c0_1, SlRes e0_2 x0.Case.Series.Points a0_2 c0_2, SlRes e0_3 x0.Case.Member.Spells a0_3 c0_3, SlRes e0_4 x0.Case.Member.Events a0_4 c0_4, SlRes e0_5 x0.Paid a0_5 c0_5] [SlRes e0_0 r.2.1 a0_0 c0_0, SlRes e0_1 r.2.2.1 a0_1 c0_1, SlRes e0_2 r.2.2.2.1 a0_2 c0_2, SlRes e0_3 r.2.2.2.2.1 a0_3 c0_3, SlRes e0_4 r.2.2.2.2.2.1 a0_4 c0_4, SlRes e0_5 r.2.2.2.2.2.2 a0_5 c0_5] (.int .i64 r.1) := by
 unfold laws_markOffice at h
 refine enM Tryz.func25 Tryz.ntmps25 (fun Fs => ?_)
 refine qs (qr (oB 2 [(2, .p 0 0)] [0, 1] [(57, (eOffice x0 ((a0_0, c0_0), (a0_1, c0_1), (a0_2, c0_2), (a0_3, c0_3), (a0_4, c0_4), (a0_5, c0_5))))] ?_))
 refine oe (nt (qs (qr (oN 3 [(7, vi x1), (6, .v (vCase x0.Case ((a0_0, c0_0), (a0_1, c0_1), (a0_2, c0_2), (a0_3, c0_3), (a0_4, c0_4))))] [2, 0] ?_))))
 obtain ⟨t21, h22, h23⟩ := bS h
 obtain ⟨u25, hu26, h27⟩ := bS h23
 have hl28 := (sameLen_some hu26).symm
 obtain ⟨u29, hu30, h31⟩ := bS h27
 have hl32 := (sameLen_some hu30).symm
 obtain ⟨u33, hu34, h35⟩ := bS h31
 have hl36 := (sameLen_some hu34).symm
 obtain ⟨u37, hu38, h39⟩ := bS h35
 have hl40 := (sameLen_some hu38).symm
 obtain ⟨u41, hu42, h43⟩ := bS h39
 have hl44 := (sameLen_some hu42).symm
 refine JO_callM rfl (by kernel_rfl) (f := 23) (args := #[vCase x0.Case ((a0_0, c0_0), (a0_1, c0_1), (a0_2, c0_2), (a0_3, c0_3), (a0_4, c0_4)), .int .i64 x1]) (by kernel_rfl) (x := .int .i64 t21.1) (Rin := [SlRes e0_0 x0.Case.Book.Rules a0_0 c0_0, SlRes e0_1 x0.Case.Store.Facts a0_1 c0_1, SlRes e0_2 x0.Case.Series.Points a0_2 c0_2, SlRes e0_3 x0.Case.Member.Spells a0_3 c0_3, SlRes e0_4 x0.Case.Member.Events a0_4 c0_4]) (Rout := [SlRes e0_0 t21.2.1 a0_0 c0_0, SlRes e0_1 t21.2.2.1 a0_1 c0_1, SlRes e0_2 t21.2.2.2.1 a0_2 c0_2, SlRes e0_3 t21.2.2.2.2.1 a0_3 c0_3, SlRes e0_4 t21.2.2.2.2.2 a0_4 c0_4]) (Rr := [SlRes e0_5 x0.Paid a0_5 c0_5]) rfl (fun w => (by have vv := c_laws_markCase (e0_0 := e0_0) (a0_0 := a0_0) (c0_0 := c0_0) (e0_1 := e0_1) (a0_1 := a0_1) (c0_1 := c0_1) (e0_2 := e0_2) (a0_2 := a0_2) (c0_2 := c0_2) (e0_3 := e0_3) (a0_3 := a0_3) (c0_3 := c0_3) (e0_4 := e0_4) (a0_4 := a0_4) (c0_4 := c0_4) (W := w) h22; exact vv)) (sl' := [(8, vi t21.1), (7, vi x1), (6, .v (vCase x0.Case ((a0_0, c0_0), (a0_1, c0_1), (a0_2, c0_2), (a0_3, c0_3), (a0_4, c0_4)))), (2, .p 0 0), (0, .v (vOffice x0 ((a0_0, c0_0), (a0_1, c0_1), (a0_2, c0_2), (a0_3, c0_3), (a0_4, c0_4), (a0_5, c0_5))))]) (by kernel_rfl) ?_
 refine JO_eqE (sl' := [(8, vi t21.1), (7, vi x1), (6, .v (vCase (Case.mk (Book.mk t21.2.1) (Store.mk t21.2.2.1) (Series.mk t21.2.2.2.1) (Member.mk x0.Case.Member.Birth x0.Case.Member.Joined t21.2.2.2.2.1 t21.2.2.2.2.2)) ((a0_0, c0_0), (a0_1, c0_1), (a0_2, c0_2), (a0_3, c0_3), (a0_4, c0_4)))), (2, .p 0 0), (0, .v (vOffice (Office.mk (Case.mk (Book.mk t21.2.1) (Store.mk t21.2.2.1) (Series.mk t21.2.2.2.1) (Member.mk x0.Case.Member.Birth x0.Case.Member.Joined t21.2.2.2.2.1 t21.2.2.2.2.2)) x0.Start x0.Paid) ((a0_0, c0_0), (a0_1, c0_1), (a0_2, c0_2), (a0_3, c0_3), (a0_4, c0_4), (a0_5, c0_5))))]) (bx' := [(57, (eOffice (Office.mk (Case.mk (Book.mk t21.2.1) (Store.mk t21.2.2.1) (Series.mk t21.2.2.2.1) (Member.mk x0.Case.Member.Birth x0.Case.Member.Joined t21.2.2.2.2.1 t21.2.2.2.2.2)) x0.Start x0.Paid) ((a0_0, c0_0), (a0_1, c0_1), (a0_2, c0_2), (a0_3, c0_3), (a0_4, c0_4), (a0_5, c0_5))))]) (by simp only [eCase, eOffice, vCase, vOffice, hl28, hl32, hl36, hl40, hl44]) (by simp only [eOffice, vOffice, hl28, hl32, hl36, hl40, hl44]) ?_
 refine oN 1 [(1, vi t21.1)] [2, 0] ?_
 refine oe (nt (qs (qr (oN 3 [(11, vi t21.1), (10, .v (.slice a0_5 x0.Paid.length c0_5))] [0] ?_))))
 refine JO_res (R' := [SlRes e0_5 x0.Paid a0_5 c0_5, SlRes e0_0 t21.2.1 a0_0 c0_0, SlRes e0_1 t21.2.2.1 a0_1 c0_1, SlRes e0_2 t21.2.2.2.1 a0_2 c0_2, SlRes e0_3 t21.2.2.2.2.1 a0_3 c0_3, SlRes e0_4 t21.2.2.2.2.2 a0_4 c0_4]) [5, 0, 0, 0, 0, 0] (by kernel_rfl) ?_
 obtain ⟨t45, h46, h47⟩ := bS h43
 obtain ⟨u49, hu50, h51⟩ := bS h47
 have hl52 := (sameLen_some hu50).symm
 refine JO_callM rfl (by kernel_rfl) (f := 26) (args := #[.slice a0_5 x0.Paid.length c0_5, .int .i64 t21.1]) (by kernel_rfl) (x := .int .i64 t45.1) (Rin := [SlRes e0_5 x0.Paid a0_5 c0_5]) (Rout := [SlRes e0_5 t45.2 a0_5 c0_5]) (Rr := [SlRes e0_0 t21.2.1 a0_0 c0_0, SlRes e0_1 t21.2.2.1 a0_1 c0_1, SlRes e0_2 t21.2.2.2.1 a0_2 c0_2, SlRes e0_3 t21.2.2.2.2.1 a0_3 c0_3, SlRes e0_4 t21.2.2.2.2.2 a0_4 c0_4]) rfl (fun w => (by have vv := c_laws_markIntS (e0_0 := e0_5) (a0_0 := a0_5) (c0_0 := c0_5) (W := w) h46; exact vv)) (sl' := [(12, vi t45.1), (11, vi t21.1), (10, .v (.slice a0_5 x0.Paid.length c0_5)), (0, .v (vOffice (Office.mk (Case.mk (Book.mk t21.2.1) (Store.mk t21.2.2.1) (Series.mk t21.2.2.2.1) (Member.mk x0.Case.Member.Birth x0.Case.Member.Joined t21.2.2.2.2.1 t21.2.2.2.2.2)) x0.Start x0.Paid) ((a0_0, c0_0), (a0_1, c0_1), (a0_2, c0_2), (a0_3, c0_3), (a0_4, c0_4), (a0_5, c0_5))))]) (by kernel_rfl) ?_
 refine JO_eqE (sl' := [(12, vi t45.1), (11, vi t21.1), (10, .v (.slice a0_5 t45.2.length c0_5)), (0, .v (vOffice (Office.mk (Case.mk (Book.mk t21.2.1) (Store.mk t21.2.2.1) (Series.mk t21.2.2.2.1) (Member.mk x0.Case.Member.Birth x0.Case.Member.Joined t21.2.2.2.2.1 t21.2.2.2.2.2)) x0.Start t45.2) ((a0_0, c0_0), (a0_1, c0_1), (a0_2, c0_2), (a0_3, c0_3), (a0_4, c0_4), (a0_5, c0_5))))]) (bx' := [(57, (eOffice (Office.mk (Case.mk (Book.mk t21.2.1) (Store.mk t21.2.2.1) (Series.mk t21.2.2.2.1) (Member.mk x0.Case.Member.Birth x0.Case.Member.Joined t21.2.2.2.2.1 t21.2.2.2.2.2)) x0.Start t45.2) ((a0_0, c0_0), (a0_1, c0_1), (a0_2, c0_2), (a0_3, c0_3), (a0_4, c0_4), (a0_5, c0_5))))]) (by simp only [eOffice, vOffice, hl52]) (by simp only [eOffice, vOffice, hl52]) ?_
 refine oN 1 [(1, vi t45.1)] [0] ?_
 refine oe (nt (qs (qr (oN 2 [(4, vi t45.1)] [0] ?_))))
 refine oe (nt (qe (rt [.int .i64 t45.1] (fun γ w hs => ?_))))
 rw [← sI h51]
 exact hs.turned (is := [1, 1, 1, 1, 1, 0]) rfl

theorem c_laws_heldNodeS {W : World} {x0 : List Node} {a0_0 : Option Addr} {c0_0 : Nat} {x1 : Int} {r : Int} (h : laws_heldNodeS x0 x1 = some r) (hv0_0 : SlView W x0 a0_0 c0_0) :
    Gives0 Tryz.prog 207 #[.slice a0_0 x0.length c0_0, .int .i64 x1] W (.int .i64 r) := by
 unfold laws_heldNodeS at h
 refine en Tryz.func207 Tryz.ntmps207 ?_
 refine qs (qr (oN 1 [] [0, 1] ?_))
 refine oe (nt (qs (qs (qr (oN 1 [(5, vi 0)] [0, 1] ?_)))))
 refine oe (nt ?_)
 obtain ⟨r24, hL25, h26⟩ := bS h
 obtain ⟨k27, hk28, h26⟩ := brkS h26
 refine JC_cutP (τ := (Int) × (Unit)) (fun y => k27 y.1 = some r) (fun y32 => [(1, vi y32.1)]) (fun y32 => []) (fun y32 => []) ?_ (fun y32 h33p => ?_)
 · refine qb (lp Unit hL25 (fun s21 y22 => [(5, vi s21.1), (0, .v (.slice a0_0 x0.length c0_0)), (1, vi s21.2)]) (fun s21 y22 => []) (fun s21 y22 => []) () [5, 0, 1] [] 0 (fun s21 y22 t23 h29 hd30 => ?_))
   refine qs (qs (qr (oN 4 [(9, vb (decide (s21.1 < (x0.length : Int))))] [5, 0, 1] ?_)))
   refine oe (nt (cC h29 (fun h35 => ?_) (fun h36 => ?_)))
   · refine qk (nt (qs (qb (qs (qs (qr (oN 2 [(13, vi s21.1), (12, .v (.slice a0_0 x0.length c0_0))] [5, 0, 1] ?_)))))))
     obtain ⟨x37, hx38, h39⟩ := bS h35
     refine oi 6 (fun γ w hs => (hv0_0.kept hs.kept)) hx38 ?_
     refine oN 1 [(15, .q a0_0 (Int.toNat s21.1 * 6))] [5, 0, 1] ?_
     refine ol 3 0 (.int .i64 x37.Kind) (fun γ w hs => (hv0_0.kept hs.kept).flatq hx38) ?_
     refine oN 2 [(18, vb (x37.Kind != s21.2))] [5, 0, 1] ?_
     refine oe (nt (cC h39 (fun h41 => ?_) (fun h42 => ?_)))
     · refine qs (qr (oN 1 [(4, vi (-1))] [] ?_))
       refine oe (nt (qe (nr (br (nr (nr ?_))))))
       have h43 := leafR hd30 h41 h26
       refine br (nr (nr ?_))
       obtain rfl := sI h43
       exact re [.int .i64 (-1)]
     refine qk (nt (qs (qr (oN 3 [(1, vi (w64 (s21.2 + 1)))] [5, 0] ?_))))
     refine oe (nt (qs (qs (qr (oN 2 [(22, vi s21.1), (21, .v (.slice a0_0 x0.length c0_0))] [1, 5, 0] ?_)))))
     obtain ⟨x44, hx45, h46⟩ := bS h42
     refine oi 6 (fun γ w hs => (hv0_0.kept hs.kept)) hx45 ?_
     refine oN 1 [(24, .q a0_0 (Int.toNat s21.1 * 6 + 1))] [1, 5, 0] ?_
     refine ol 3 1 (.int .i64 x44.A) (fun γ w hs => (hv0_0.kept hs.kept).flatq hx45) ?_
     refine oN 2 [(27, vb (x44.A != (w64 (s21.2 + 1))))] [1, 5, 0] ?_
     refine oe (nt (cC h46 (fun h48 => ?_) (fun h49 => ?_)))
     · refine qs (qr (oN 1 [(4, vi (-1))] [] ?_))
       refine oe (nt (qe (nr (br (nr (nr ?_))))))
       have h50 := leafR hd30 h48 h26
       refine br (nr (nr ?_))
       obtain rfl := sI h50
       exact re [.int .i64 (-1)]
     refine qk (nt (qs (qr (oN 3 [(1, vi (w64 ((w64 (s21.2 + 1)) + 1)))] [5, 0] ?_))))
     refine oe (nt (qs (qs (qr (oN 2 [(31, vi s21.1), (30, .v (.slice a0_0 x0.length c0_0))] [1, 5, 0] ?_)))))
     obtain ⟨x51, hx52, h53⟩ := bS h49
     refine oi 6 (fun γ w hs => (hv0_0.kept hs.kept)) hx52 ?_
     refine oN 1 [(33, .q a0_0 (Int.toNat s21.1 * 6 + 2))] [1, 5, 0] ?_
     refine ol 3 2 (.int .i64 x51.B) (fun γ w hs => (hv0_0.kept hs.kept).flatq hx52) ?_
     refine oN 2 [(36, vb (x51.B != (w64 ((w64 (s21.2 + 1)) + 1))))] [1, 5, 0] ?_
     refine oe (nt (cC h53 (fun h55 => ?_) (fun h56 => ?_)))
     · refine qs (qr (oN 1 [(4, vi (-1))] [] ?_))
       refine oe (nt (qe (nr (br (nr (nr ?_))))))
       have h57 := leafR hd30 h55 h26
       refine br (nr (nr ?_))
       obtain rfl := sI h57
       exact re [.int .i64 (-1)]
     refine qk (nt (qs (qr (oN 3 [(1, vi (w64 ((w64 ((w64 (s21.2 + 1)) + 1)) + 1)))] [5, 0] ?_))))
     refine oe (nt (qs (qs (qr (oN 2 [(40, vi s21.1), (39, .v (.slice a0_0 x0.length c0_0))] [1, 5, 0] ?_)))))
     obtain ⟨x58, hx59, h60⟩ := bS h56
     refine oi 6 (fun γ w hs => (hv0_0.kept hs.kept)) hx59 ?_
     refine oN 1 [(42, .q a0_0 (Int.toNat s21.1 * 6 + 3))] [1, 5, 0] ?_
     refine ol 3 3 (.int .i64 x58.C) (fun γ w hs => (hv0_0.kept hs.kept).flatq hx59) ?_
     refine oN 2 [(45, vb (x58.C != (w64 ((w64 ((w64 (s21.2 + 1)) + 1)) + 1))))] [1, 5, 0] ?_
     refine oe (nt (cC h60 (fun h62 => ?_) (fun h63 => ?_)))
     · refine qs (qr (oN 1 [(4, vi (-1))] [] ?_))
       refine oe (nt (qe (nr (br (nr (nr ?_))))))
       have h64 := leafR hd30 h62 h26
       refine br (nr (nr ?_))
       obtain rfl := sI h64
       exact re [.int .i64 (-1)]
     refine qk (nt (qs (qr (oN 3 [(1, vi (w64 ((w64 ((w64 ((w64 (s21.2 + 1)) + 1)) + 1)) + 1)))] [5, 0] ?_))))
     refine oe (nt (qs (qs (qr (oN 2 [(49, vi s21.1), (48, .v (.slice a0_0 x0.length c0_0))] [1, 5, 0] ?_)))))
     obtain ⟨x65, hx66, h67⟩ := bS h63
     refine oi 6 (fun γ w hs => (hv0_0.kept hs.kept)) hx66 ?_
     refine oN 2 [(52, .q a0_0 (Int.toNat s21.1 * 6 + 4))] [1, 5, 0] ?_
     refine ol 3 4 (.int .i64 x65.Value.Num) (fun γ w hs => (hv0_0.kept hs.kept).flatq hx66) ?_
     refine oN 2 [(55, vb (x65.Value.Num != (w64 ((w64 ((w64 ((w64 (s21.2 + 1)) + 1)) + 1)) + 1))))] [1, 5, 0] ?_
     refine oe (nt (cC h67 (fun h69 => ?_) (fun h70 => ?_)))
     · refine qs (qr (oN 1 [(4, vi (-1))] [] ?_))
       refine oe (nt (qe (nr (br (nr (nr ?_))))))
       have h71 := leafR hd30 h69 h26
       refine br (nr (nr ?_))
       obtain rfl := sI h71
       exact re [.int .i64 (-1)]
     refine qk (nt (qs (qr (oN 3 [(1, vi (w64 ((w64 ((w64 ((w64 ((w64 (s21.2 + 1)) + 1)) + 1)) + 1)) + 1)))] [5, 0] ?_))))
     refine oe (nt (qs (qs (qr (oN 2 [(59, vi s21.1), (58, .v (.slice a0_0 x0.length c0_0))] [1, 5, 0] ?_)))))
     obtain ⟨x72, hx73, h74⟩ := bS h70
     refine oi 6 (fun γ w hs => (hv0_0.kept hs.kept)) hx73 ?_
     refine oN 2 [(62, .q a0_0 (Int.toNat s21.1 * 6 + 5))] [1, 5, 0] ?_
     refine ol 3 5 (.int .i64 x72.Value.Den) (fun γ w hs => (hv0_0.kept hs.kept).flatq hx73) ?_
     refine oN 2 [(65, vb (x72.Value.Den != (w64 ((w64 ((w64 ((w64 ((w64 (s21.2 + 1)) + 1)) + 1)) + 1)) + 1))))] [1, 5, 0] ?_
     refine oe (nt (cC h74 (fun h76 => ?_) (fun h77 => ?_)))
     · refine qs (qr (oN 1 [(4, vi (-1))] [] ?_))
       refine oe (nt (qe (nr (br (nr (nr ?_))))))
       have h78 := leafR hd30 h76 h26
       refine br (nr (nr ?_))
       obtain rfl := sI h78
       exact re [.int .i64 (-1)]
     refine qk (nt (qr (oN 3 [(1, vi (w64 ((w64 ((w64 ((w64 ((w64 ((w64 (s21.2 + 1)) + 1)) + 1)) + 1)) + 1)) + 1)))] [5, 0] ?_)))
     refine oe (bn (nt (qr (oN 3 [(5, vi (w64 (s21.1 + 1)))] [1, 0] ?_))))
     exact oe (ct h77 () [5, 0, 1] [] 0)
   refine qx (nx (nx (bh ?_)))
   have h79 := leafB hd30 h36 h26
   exact mp (s21.2, ()) h79 [1] [] 0
 have h33 := (congrFun hk28 _).symm.trans h33p
 refine nt (qs (qr (oN 2 [(4, vi y32.1)] [] ?_)))
 refine oe (nt (qe ?_))
 obtain rfl := sI h33
 exact re [.int .i64 y32.1]

theorem c_laws_heldRuleS {W : World} {x0 : List Rule} {a0_0 : Option Addr} {c0_0 : Nat} {x1 : Int} {r : Int} (h : laws_heldRuleS x0 x1 = some r) (hv0_0 : SlView W x0 a0_0 c0_0) :
    Gives0 Tryz.prog 159 #[.slice a0_0 x0.length c0_0, .int .i64 x1] W (.int .i64 r) := by
 unfold laws_heldRuleS at h
 refine en Tryz.func159 Tryz.ntmps159 ?_
 refine qs (qr (oN 1 [] [0, 1] ?_))
 refine oe (nt (qs (qs (qr (oN 1 [(5, vi 0)] [0, 1] ?_)))))
 refine oe (nt ?_)
 obtain ⟨r24, hL25, h26⟩ := bS h
 obtain ⟨k27, hk28, h26⟩ := brkS h26
 refine JC_cutP (τ := (Int) × (Unit)) (fun y => k27 y.1 = some r) (fun y32 => [(1, vi y32.1)]) (fun y32 => []) (fun y32 => []) ?_ (fun y32 h33p => ?_)
 · refine qb (lp Unit hL25 (fun s21 y22 => [(5, vi s21.1), (0, .v (.slice a0_0 x0.length c0_0)), (1, vi s21.2)]) (fun s21 y22 => []) (fun s21 y22 => []) () [5, 0, 1] [] 0 (fun s21 y22 t23 h29 hd30 => ?_))
   refine qs (qs (qr (oN 4 [(9, vb (decide (s21.1 < (x0.length : Int))))] [5, 0, 1] ?_)))
   refine oe (nt (cC h29 (fun h35 => ?_) (fun h36 => ?_)))
   · refine qk (nt (qs (qb (qs (qs (qr (oN 2 [(13, vi s21.1), (12, .v (.slice a0_0 x0.length c0_0))] [5, 0, 1] ?_)))))))
     obtain ⟨x37, hx38, h39⟩ := bS h35
     refine oi 7 (fun γ w hs => (hv0_0.kept hs.kept)) hx38 ?_
     refine oN 1 [(15, .q a0_0 (Int.toNat s21.1 * 7))] [5, 0, 1] ?_
     obtain ⟨_, ⟨a40, c41, rfl, hv42⟩, hc43⟩ := SlView.at hv0_0 (idx_some hx38).2.2
     refine ol 3 0 (.int .i64 x37.Name) (fun γ w hs => ⟨(hv0_0.kept hs.kept).ne (idx_some hx38).2.2, hc43.kept hs.kept⟩) ?_
     refine oN 2 [(18, vb (x37.Name != s21.2))] [5, 0, 1] ?_
     refine oe (nt (cC h39 (fun h45 => ?_) (fun h46 => ?_)))
     · refine qs (qr (oN 1 [(4, vi (-1))] [] ?_))
       refine oe (nt (qe (nr (br (nr (nr ?_))))))
       have h47 := leafR hd30 h45 h26
       refine br (nr (nr ?_))
       obtain rfl := sI h47
       exact re [.int .i64 (-1)]
     refine qk (nt (qs (qr (oN 3 [(1, vi (w64 (s21.2 + 1)))] [5, 0] ?_))))
     refine oe (nt (qs (qs (qr (oN 2 [(22, vi s21.1), (21, .v (.slice a0_0 x0.length c0_0))] [1, 5, 0] ?_)))))
     obtain ⟨x48, hx49, h50⟩ := bS h46
     refine oi 7 (fun γ w hs => (hv0_0.kept hs.kept)) hx49 ?_
     refine oN 1 [(24, .q a0_0 (Int.toNat s21.1 * 7 + 1))] [1, 5, 0] ?_
     obtain ⟨_, ⟨a51, c52, rfl, hv53⟩, hc54⟩ := SlView.at hv0_0 (idx_some hx49).2.2
     refine ol 3 1 (.int .i64 x48.From) (fun γ w hs => ⟨(hv0_0.kept hs.kept).ne (idx_some hx49).2.2, hc54.kept hs.kept⟩) ?_
     refine oN 2 [(27, vb (x48.From != (w64 (s21.2 + 1))))] [1, 5, 0] ?_
     refine oe (nt (cC h50 (fun h56 => ?_) (fun h57 => ?_)))
     · refine qs (qr (oN 1 [(4, vi (-1))] [] ?_))
       refine oe (nt (qe (nr (br (nr (nr ?_))))))
       have h58 := leafR hd30 h56 h26
       refine br (nr (nr ?_))
       obtain rfl := sI h58
       exact re [.int .i64 (-1)]
     refine qk (nt (qs (qr (oN 3 [(1, vi (w64 ((w64 (s21.2 + 1)) + 1)))] [5, 0] ?_))))
     refine oe (nt (qs (qs (qr (oN 2 [(31, vi s21.1), (30, .v (.slice a0_0 x0.length c0_0))] [1, 5, 0] ?_)))))
     obtain ⟨x59, hx60, h61⟩ := bS h57
     refine oi 7 (fun γ w hs => (hv0_0.kept hs.kept)) hx60 ?_
     refine oN 1 [(33, .q a0_0 (Int.toNat s21.1 * 7 + 2))] [1, 5, 0] ?_
     obtain ⟨_, ⟨a62, c63, rfl, hv64⟩, hc65⟩ := SlView.at hv0_0 (idx_some hx60).2.2
     refine ol 3 2 (.int .i64 x59.To) (fun γ w hs => ⟨(hv0_0.kept hs.kept).ne (idx_some hx60).2.2, hc65.kept hs.kept⟩) ?_
     refine oN 2 [(36, vb (x59.To != (w64 ((w64 (s21.2 + 1)) + 1))))] [1, 5, 0] ?_
     refine oe (nt (cC h61 (fun h67 => ?_) (fun h68 => ?_)))
     · refine qs (qr (oN 1 [(4, vi (-1))] [] ?_))
       refine oe (nt (qe (nr (br (nr (nr ?_))))))
       have h69 := leafR hd30 h67 h26
       refine br (nr (nr ?_))
       obtain rfl := sI h69
       exact re [.int .i64 (-1)]
     refine qk (nt (qs (qr (oN 3 [(1, vi (w64 ((w64 ((w64 (s21.2 + 1)) + 1)) + 1)))] [5, 0] ?_))))
     refine oe (nt (qs (qs (qr (oN 2 [(40, vi s21.1), (39, .v (.slice a0_0 x0.length c0_0))] [1, 5, 0] ?_)))))
     obtain ⟨x70, hx71, h72⟩ := bS h68
     refine oi 7 (fun γ w hs => (hv0_0.kept hs.kept)) hx71 ?_
     refine oN 1 [(42, .q a0_0 (Int.toNat s21.1 * 7 + 3))] [1, 5, 0] ?_
     obtain ⟨_, ⟨a73, c74, rfl, hv75⟩, hc76⟩ := SlView.at hv0_0 (idx_some hx71).2.2
     refine ol 3 3 (.int .i64 x70.Joined) (fun γ w hs => ⟨(hv0_0.kept hs.kept).ne (idx_some hx71).2.2, hc76.kept hs.kept⟩) ?_
     refine oN 2 [(45, vb (x70.Joined != (w64 ((w64 ((w64 (s21.2 + 1)) + 1)) + 1))))] [1, 5, 0] ?_
     refine oe (nt (cC h72 (fun h78 => ?_) (fun h79 => ?_)))
     · refine qs (qr (oN 1 [(4, vi (-1))] [] ?_))
       refine oe (nt (qe (nr (br (nr (nr ?_))))))
       have h80 := leafR hd30 h78 h26
       refine br (nr (nr ?_))
       obtain rfl := sI h80
       exact re [.int .i64 (-1)]
     refine qk (nt (qs (qr (oN 3 [(1, vi (w64 ((w64 ((w64 ((w64 (s21.2 + 1)) + 1)) + 1)) + 1)))] [5, 0] ?_))))
     refine oe (nt (qs (qs (qr (oN 2 [(49, vi s21.1), (48, .v (.slice a0_0 x0.length c0_0))] [1, 5, 0] ?_)))))
     obtain ⟨x81, hx82, h83⟩ := bS h79
     refine oi 7 (fun γ w hs => (hv0_0.kept hs.kept)) hx82 ?_
     refine oN 1 [(51, .q a0_0 (Int.toNat s21.1 * 7 + 4))] [1, 5, 0] ?_
     obtain ⟨_, ⟨a84, c85, rfl, hv86⟩, hc87⟩ := SlView.at hv0_0 (idx_some hx82).2.2
     refine ol 3 4 (.int .i64 x81.Rank) (fun γ w hs => ⟨(hv0_0.kept hs.kept).ne (idx_some hx82).2.2, hc87.kept hs.kept⟩) ?_
     refine oN 2 [(54, vb (x81.Rank != (w64 ((w64 ((w64 ((w64 (s21.2 + 1)) + 1)) + 1)) + 1))))] [1, 5, 0] ?_
     refine oe (nt (cC h83 (fun h89 => ?_) (fun h90 => ?_)))
     · refine qs (qr (oN 1 [(4, vi (-1))] [] ?_))
       refine oe (nt (qe (nr (br (nr (nr ?_))))))
       have h91 := leafR hd30 h89 h26
       refine br (nr (nr ?_))
       obtain rfl := sI h91
       exact re [.int .i64 (-1)]
     refine qk (nt (qs (qr (oN 3 [(1, vi (w64 ((w64 ((w64 ((w64 ((w64 (s21.2 + 1)) + 1)) + 1)) + 1)) + 1)))] [5, 0] ?_))))
     refine oe (nt (qs (qs (qr (oN 2 [(58, vi s21.1), (57, .v (.slice a0_0 x0.length c0_0))] [1, 5, 0] ?_)))))
     obtain ⟨x92, hx93, h94⟩ := bS h90
     refine oi 7 (fun γ w hs => (hv0_0.kept hs.kept)) hx93 ?_
     refine oN 1 [(60, .q a0_0 (Int.toNat s21.1 * 7 + 5))] [1, 5, 0] ?_
     obtain ⟨_, ⟨a95, c96, rfl, hv97⟩, hc98⟩ := SlView.at hv0_0 (idx_some hx93).2.2
     refine ol 3 5 (.int .i64 x92.Mode) (fun γ w hs => ⟨(hv0_0.kept hs.kept).ne (idx_some hx93).2.2, hc98.kept hs.kept⟩) ?_
     refine oN 2 [(63, vb (x92.Mode != (w64 ((w64 ((w64 ((w64 ((w64 (s21.2 + 1)) + 1)) + 1)) + 1)) + 1))))] [1, 5, 0] ?_
     refine oe (nt (cC h94 (fun h100 => ?_) (fun h101 => ?_)))
     · refine qs (qr (oN 1 [(4, vi (-1))] [] ?_))
       refine oe (nt (qe (nr (br (nr (nr ?_))))))
       have h102 := leafR hd30 h100 h26
       refine br (nr (nr ?_))
       obtain rfl := sI h102
       exact re [.int .i64 (-1)]
     refine qk (nt (qs (qr (oN 3 [(1, vi (w64 ((w64 ((w64 ((w64 ((w64 ((w64 (s21.2 + 1)) + 1)) + 1)) + 1)) + 1)) + 1)))] [5, 0] ?_))))
     refine oe (nt (qs (qr (oN 2 [(67, vi s21.1), (66, .v (.slice a0_0 x0.length c0_0))] [1, 5, 0] ?_))))
     obtain ⟨x103, hx104, h105⟩ := bS h101
     refine oi 7 (fun γ w hs => (hv0_0.kept hs.kept)) hx104 ?_
     refine oN 1 [(69, .q a0_0 (Int.toNat s21.1 * 7 + 6))] [1, 5, 0] ?_
     obtain ⟨_, ⟨a106, c107, rfl, hv108⟩, hc109⟩ := SlView.at hv0_0 (idx_some hx104).2.2
     refine ol 186 6 (.slice a106 x103.Nodes.length c107) (fun γ w hs => ⟨(hv0_0.kept hs.kept).ne (idx_some hx104).2.2, hc109.kept hs.kept⟩) ?_
     refine oN 1 [(71, vi (w64 ((w64 ((w64 ((w64 ((w64 ((w64 (s21.2 + 1)) + 1)) + 1)) + 1)) + 1)) + 1)))] [70, 5, 0] ?_
     obtain ⟨t110, h111, h112⟩ := bS h105
     refine k0 (fun γ w hs => c_laws_heldNodeS h111 (hv108.kept hs.kept)) ?_
     refine oN 1 [(1, vi t110)] [5, 0] ?_
     refine oe (nt (qs (qr (oN 2 [(74, vb (decide (t110 < 0)))] [1, 5, 0] ?_))))
     refine oe (nt (cC h112 (fun h115 => ?_) (fun h116 => ?_)))
     · refine qs (qr (oN 1 [(4, vi (-1))] [] ?_))
       refine oe (nt (qe (br (nr (nr ?_)))))
       have h117 := leafR hd30 h115 h26
       refine br (nr (nr ?_))
       obtain rfl := sI h117
       exact re [.int .i64 (-1)]
     refine qk (bn (nt (qr (oN 3 [(5, vi (w64 (s21.1 + 1)))] [1, 0] ?_))))
     exact oe (ct h116 () [5, 0, 1] [] 0)
   refine qx (nx (nx (bh ?_)))
   have h118 := leafB hd30 h36 h26
   exact mp (s21.2, ()) h118 [1] [] 0
 have h33 := (congrFun hk28 _).symm.trans h33p
 refine nt (qs (qr (oN 2 [(4, vi y32.1)] [] ?_)))
 refine oe (nt (qe ?_))
 obtain rfl := sI h33
 exact re [.int .i64 y32.1]

theorem c_laws_heldBook {W : World} {x0 : Book} {a0_0 : Option Addr} {c0_0 : Nat} {x1 : Int} {r : Int} (h : laws_heldBook x0 x1 = some r) (hv0_0 : SlView W x0.Rules a0_0 c0_0) :
    Gives0 Tryz.prog 119 #[vBook x0 (a0_0, c0_0), .int .i64 x1] W (.int .i64 r) := by
 unfold laws_heldBook at h
 refine en Tryz.func119 Tryz.ntmps119 ?_
 refine qs (qr (oB 2 [(2, .p 0 0)] [1] [(42, (eBook x0 (a0_0, c0_0)))] ?_))
 refine oe (nt (qs (qr (oN 3 [(7, vi x1), (6, .v (.slice a0_0 x0.Rules.length c0_0))] [] ?_))))
 obtain ⟨t21, h22, h23⟩ := bS h
 refine k0 (fun γ w hs => c_laws_heldRuleS h22 (hv0_0.kept hs.kept)) ?_
 refine oN 1 [(1, vi t21)] [] ?_
 refine oe (nt (qs (qs (qr (oN 2 [(10, vb (decide (t21 < 0)))] [1] ?_)))))
 refine oe (nt (cC h23 (fun h26 => ?_) (fun h27 => ?_)))
 · refine qs (qr (oN 1 [(4, vi (-1))] [] ?_))
   refine oe (nt (qe (nr ?_)))
   obtain rfl := sI h26
   exact re [.int .i64 (-1)]
 refine qk (nt (qs (qr (oN 2 [(4, vi t21)] [] ?_))))
 refine oe (nt (qe ?_))
 obtain rfl := sI h27
 exact re [.int .i64 t21]

theorem c_laws_heldFactS {W : World} {x0 : List Fact} {a0_0 : Option Addr} {c0_0 : Nat} {x1 : Int} {r : Int} (h : laws_heldFactS x0 x1 = some r) (hv0_0 : SlView W x0 a0_0 c0_0) :
    Gives0 Tryz.prog 160 #[.slice a0_0 x0.length c0_0, .int .i64 x1] W (.int .i64 r) := by
 unfold laws_heldFactS at h
 refine en Tryz.func160 Tryz.ntmps160 ?_
 refine qs (qr (oN 1 [] [0, 1] ?_))
 refine oe (nt (qs (qs (qr (oN 1 [(5, vi 0)] [0, 1] ?_)))))
 refine oe (nt ?_)
 obtain ⟨r24, hL25, h26⟩ := bS h
 obtain ⟨k27, hk28, h26⟩ := brkS h26
 refine JC_cutP (τ := (Int) × (Unit)) (fun y => k27 y.1 = some r) (fun y32 => [(1, vi y32.1)]) (fun y32 => []) (fun y32 => []) ?_ (fun y32 h33p => ?_)
 · refine qb (lp Unit hL25 (fun s21 y22 => [(5, vi s21.1), (0, .v (.slice a0_0 x0.length c0_0)), (1, vi s21.2)]) (fun s21 y22 => []) (fun s21 y22 => []) () [5, 0, 1] [] 0 (fun s21 y22 t23 h29 hd30 => ?_))
   refine qs (qs (qr (oN 4 [(9, vb (decide (s21.1 < (x0.length : Int))))] [5, 0, 1] ?_)))
   refine oe (nt (cC h29 (fun h35 => ?_) (fun h36 => ?_)))
   · refine qk (nt (qs (qb (qs (qs (qr (oN 2 [(13, vi s21.1), (12, .v (.slice a0_0 x0.length c0_0))] [5, 0, 1] ?_)))))))
     obtain ⟨x37, hx38, h39⟩ := bS h35
     refine oi 5 (fun γ w hs => (hv0_0.kept hs.kept)) hx38 ?_
     refine oN 1 [(15, .q a0_0 (Int.toNat s21.1 * 5))] [5, 0, 1] ?_
     refine ol 3 0 (.int .i64 x37.Key) (fun γ w hs => (hv0_0.kept hs.kept).flatq hx38) ?_
     refine oN 2 [(18, vb (x37.Key != s21.2))] [5, 0, 1] ?_
     refine oe (nt (cC h39 (fun h41 => ?_) (fun h42 => ?_)))
     · refine qs (qr (oN 1 [(4, vi (-1))] [] ?_))
       refine oe (nt (qe (nr (br (nr (nr ?_))))))
       have h43 := leafR hd30 h41 h26
       refine br (nr (nr ?_))
       obtain rfl := sI h43
       exact re [.int .i64 (-1)]
     refine qk (nt (qs (qr (oN 3 [(1, vi (w64 (s21.2 + 1)))] [5, 0] ?_))))
     refine oe (nt (qs (qs (qr (oN 2 [(22, vi s21.1), (21, .v (.slice a0_0 x0.length c0_0))] [1, 5, 0] ?_)))))
     obtain ⟨x44, hx45, h46⟩ := bS h42
     refine oi 5 (fun γ w hs => (hv0_0.kept hs.kept)) hx45 ?_
     refine oN 1 [(24, .q a0_0 (Int.toNat s21.1 * 5 + 1))] [1, 5, 0] ?_
     refine ol 3 1 (.int .i64 x44.From) (fun γ w hs => (hv0_0.kept hs.kept).flatq hx45) ?_
     refine oN 2 [(27, vb (x44.From != (w64 (s21.2 + 1))))] [1, 5, 0] ?_
     refine oe (nt (cC h46 (fun h48 => ?_) (fun h49 => ?_)))
     · refine qs (qr (oN 1 [(4, vi (-1))] [] ?_))
       refine oe (nt (qe (nr (br (nr (nr ?_))))))
       have h50 := leafR hd30 h48 h26
       refine br (nr (nr ?_))
       obtain rfl := sI h50
       exact re [.int .i64 (-1)]
     refine qk (nt (qs (qr (oN 3 [(1, vi (w64 ((w64 (s21.2 + 1)) + 1)))] [5, 0] ?_))))
     refine oe (nt (qs (qs (qr (oN 2 [(31, vi s21.1), (30, .v (.slice a0_0 x0.length c0_0))] [1, 5, 0] ?_)))))
     obtain ⟨x51, hx52, h53⟩ := bS h49
     refine oi 5 (fun γ w hs => (hv0_0.kept hs.kept)) hx52 ?_
     refine oN 1 [(33, .q a0_0 (Int.toNat s21.1 * 5 + 2))] [1, 5, 0] ?_
     refine ol 3 2 (.int .i64 x51.To) (fun γ w hs => (hv0_0.kept hs.kept).flatq hx52) ?_
     refine oN 2 [(36, vb (x51.To != (w64 ((w64 (s21.2 + 1)) + 1))))] [1, 5, 0] ?_
     refine oe (nt (cC h53 (fun h55 => ?_) (fun h56 => ?_)))
     · refine qs (qr (oN 1 [(4, vi (-1))] [] ?_))
       refine oe (nt (qe (nr (br (nr (nr ?_))))))
       have h57 := leafR hd30 h55 h26
       refine br (nr (nr ?_))
       obtain rfl := sI h57
       exact re [.int .i64 (-1)]
     refine qk (nt (qs (qr (oN 3 [(1, vi (w64 ((w64 ((w64 (s21.2 + 1)) + 1)) + 1)))] [5, 0] ?_))))
     refine oe (nt (qs (qs (qr (oN 2 [(40, vi s21.1), (39, .v (.slice a0_0 x0.length c0_0))] [1, 5, 0] ?_)))))
     obtain ⟨x58, hx59, h60⟩ := bS h56
     refine oi 5 (fun γ w hs => (hv0_0.kept hs.kept)) hx59 ?_
     refine oN 1 [(42, .q a0_0 (Int.toNat s21.1 * 5 + 3))] [1, 5, 0] ?_
     refine ol 3 3 (.int .i64 x58.Known) (fun γ w hs => (hv0_0.kept hs.kept).flatq hx59) ?_
     refine oN 2 [(45, vb (x58.Known != (w64 ((w64 ((w64 (s21.2 + 1)) + 1)) + 1))))] [1, 5, 0] ?_
     refine oe (nt (cC h60 (fun h62 => ?_) (fun h63 => ?_)))
     · refine qs (qr (oN 1 [(4, vi (-1))] [] ?_))
       refine oe (nt (qe (nr (br (nr (nr ?_))))))
       have h64 := leafR hd30 h62 h26
       refine br (nr (nr ?_))
       obtain rfl := sI h64
       exact re [.int .i64 (-1)]
     refine qk (nt (qs (qr (oN 3 [(1, vi (w64 ((w64 ((w64 ((w64 (s21.2 + 1)) + 1)) + 1)) + 1)))] [5, 0] ?_))))
     refine oe (nt (qs (qs (qr (oN 2 [(49, vi s21.1), (48, .v (.slice a0_0 x0.length c0_0))] [1, 5, 0] ?_)))))
     obtain ⟨x65, hx66, h67⟩ := bS h63
     refine oi 5 (fun γ w hs => (hv0_0.kept hs.kept)) hx66 ?_
     refine oN 1 [(51, .q a0_0 (Int.toNat s21.1 * 5 + 4))] [1, 5, 0] ?_
     refine ol 3 4 (.int .i64 x65.Value) (fun γ w hs => (hv0_0.kept hs.kept).flatq hx66) ?_
     refine oN 2 [(54, vb (x65.Value != (w64 ((w64 ((w64 ((w64 (s21.2 + 1)) + 1)) + 1)) + 1))))] [1, 5, 0] ?_
     refine oe (nt (cC h67 (fun h69 => ?_) (fun h70 => ?_)))
     · refine qs (qr (oN 1 [(4, vi (-1))] [] ?_))
       refine oe (nt (qe (nr (br (nr (nr ?_))))))
       have h71 := leafR hd30 h69 h26
       refine br (nr (nr ?_))
       obtain rfl := sI h71
       exact re [.int .i64 (-1)]
     refine qk (nt (qr (oN 3 [(1, vi (w64 ((w64 ((w64 ((w64 ((w64 (s21.2 + 1)) + 1)) + 1)) + 1)) + 1)))] [5, 0] ?_)))
     refine oe (bn (nt (qr (oN 3 [(5, vi (w64 (s21.1 + 1)))] [1, 0] ?_))))
     exact oe (ct h70 () [5, 0, 1] [] 0)
   refine qx (nx (nx (bh ?_)))
   have h72 := leafB hd30 h36 h26
   exact mp (s21.2, ()) h72 [1] [] 0
 have h33 := (congrFun hk28 _).symm.trans h33p
 refine nt (qs (qr (oN 2 [(4, vi y32.1)] [] ?_)))
 refine oe (nt (qe ?_))
 obtain rfl := sI h33
 exact re [.int .i64 y32.1]

theorem c_laws_heldStore {W : World} {x0 : Store} {a0_0 : Option Addr} {c0_0 : Nat} {x1 : Int} {r : Int} (h : laws_heldStore x0 x1 = some r) (hv0_0 : SlView W x0.Facts a0_0 c0_0) :
    Gives0 Tryz.prog 120 #[vStore x0 (a0_0, c0_0), .int .i64 x1] W (.int .i64 r) := by
 unfold laws_heldStore at h
 refine en Tryz.func120 Tryz.ntmps120 ?_
 refine qs (qr (oB 2 [(2, .p 0 0)] [1] [(45, (eStore x0 (a0_0, c0_0)))] ?_))
 refine oe (nt (qs (qr (oN 3 [(7, vi x1), (6, .v (.slice a0_0 x0.Facts.length c0_0))] [] ?_))))
 obtain ⟨t21, h22, h23⟩ := bS h
 refine k0 (fun γ w hs => c_laws_heldFactS h22 (hv0_0.kept hs.kept)) ?_
 refine oN 1 [(1, vi t21)] [] ?_
 refine oe (nt (qs (qs (qr (oN 2 [(10, vb (decide (t21 < 0)))] [1] ?_)))))
 refine oe (nt (cC h23 (fun h26 => ?_) (fun h27 => ?_)))
 · refine qs (qr (oN 1 [(4, vi (-1))] [] ?_))
   refine oe (nt (qe (nr ?_)))
   obtain rfl := sI h26
   exact re [.int .i64 (-1)]
 refine qk (nt (qs (qr (oN 2 [(4, vi t21)] [] ?_))))
 refine oe (nt (qe ?_))
 obtain rfl := sI h27
 exact re [.int .i64 t21]

theorem c_laws_heldPointS {W : World} {x0 : List Point} {a0_0 : Option Addr} {c0_0 : Nat} {x1 : Int} {r : Int} (h : laws_heldPointS x0 x1 = some r) (hv0_0 : SlView W x0 a0_0 c0_0) :
    Gives0 Tryz.prog 161 #[.slice a0_0 x0.length c0_0, .int .i64 x1] W (.int .i64 r) := by
 unfold laws_heldPointS at h
 refine en Tryz.func161 Tryz.ntmps161 ?_
 refine qs (qr (oN 1 [] [0, 1] ?_))
 refine oe (nt (qs (qs (qr (oN 1 [(5, vi 0)] [0, 1] ?_)))))
 refine oe (nt ?_)
 obtain ⟨r24, hL25, h26⟩ := bS h
 obtain ⟨k27, hk28, h26⟩ := brkS h26
 refine JC_cutP (τ := (Int) × (Unit)) (fun y => k27 y.1 = some r) (fun y32 => [(1, vi y32.1)]) (fun y32 => []) (fun y32 => []) ?_ (fun y32 h33p => ?_)
 · refine qb (lp Unit hL25 (fun s21 y22 => [(5, vi s21.1), (0, .v (.slice a0_0 x0.length c0_0)), (1, vi s21.2)]) (fun s21 y22 => []) (fun s21 y22 => []) () [5, 0, 1] [] 0 (fun s21 y22 t23 h29 hd30 => ?_))
   refine qs (qs (qr (oN 4 [(9, vb (decide (s21.1 < (x0.length : Int))))] [5, 0, 1] ?_)))
   refine oe (nt (cC h29 (fun h35 => ?_) (fun h36 => ?_)))
   · refine qk (nt (qs (qb (qs (qs (qr (oN 2 [(13, vi s21.1), (12, .v (.slice a0_0 x0.length c0_0))] [5, 0, 1] ?_)))))))
     obtain ⟨x37, hx38, h39⟩ := bS h35
     refine oi 3 (fun γ w hs => (hv0_0.kept hs.kept)) hx38 ?_
     refine oN 1 [(15, .q a0_0 (Int.toNat s21.1 * 3))] [5, 0, 1] ?_
     refine ol 3 0 (.int .i64 x37.Month) (fun γ w hs => (hv0_0.kept hs.kept).flatq hx38) ?_
     refine oN 2 [(18, vb (x37.Month != s21.2))] [5, 0, 1] ?_
     refine oe (nt (cC h39 (fun h41 => ?_) (fun h42 => ?_)))
     · refine qs (qr (oN 1 [(4, vi (-1))] [] ?_))
       refine oe (nt (qe (nr (br (nr (nr ?_))))))
       have h43 := leafR hd30 h41 h26
       refine br (nr (nr ?_))
       obtain rfl := sI h43
       exact re [.int .i64 (-1)]
     refine qk (nt (qs (qr (oN 3 [(1, vi (w64 (s21.2 + 1)))] [5, 0] ?_))))
     refine oe (nt (qs (qs (qr (oN 2 [(22, vi s21.1), (21, .v (.slice a0_0 x0.length c0_0))] [1, 5, 0] ?_)))))
     obtain ⟨x44, hx45, h46⟩ := bS h42
     refine oi 3 (fun γ w hs => (hv0_0.kept hs.kept)) hx45 ?_
     refine oN 1 [(24, .q a0_0 (Int.toNat s21.1 * 3 + 1))] [1, 5, 0] ?_
     refine ol 3 1 (.int .i64 x44.Known) (fun γ w hs => (hv0_0.kept hs.kept).flatq hx45) ?_
     refine oN 2 [(27, vb (x44.Known != (w64 (s21.2 + 1))))] [1, 5, 0] ?_
     refine oe (nt (cC h46 (fun h48 => ?_) (fun h49 => ?_)))
     · refine qs (qr (oN 1 [(4, vi (-1))] [] ?_))
       refine oe (nt (qe (nr (br (nr (nr ?_))))))
       have h50 := leafR hd30 h48 h26
       refine br (nr (nr ?_))
       obtain rfl := sI h50
       exact re [.int .i64 (-1)]
     refine qk (nt (qs (qr (oN 3 [(1, vi (w64 ((w64 (s21.2 + 1)) + 1)))] [5, 0] ?_))))
     refine oe (nt (qs (qs (qr (oN 2 [(31, vi s21.1), (30, .v (.slice a0_0 x0.length c0_0))] [1, 5, 0] ?_)))))
     obtain ⟨x51, hx52, h53⟩ := bS h49
     refine oi 3 (fun γ w hs => (hv0_0.kept hs.kept)) hx52 ?_
     refine oN 1 [(33, .q a0_0 (Int.toNat s21.1 * 3 + 2))] [1, 5, 0] ?_
     refine ol 3 2 (.int .i64 x51.Value) (fun γ w hs => (hv0_0.kept hs.kept).flatq hx52) ?_
     refine oN 2 [(36, vb (x51.Value != (w64 ((w64 (s21.2 + 1)) + 1))))] [1, 5, 0] ?_
     refine oe (nt (cC h53 (fun h55 => ?_) (fun h56 => ?_)))
     · refine qs (qr (oN 1 [(4, vi (-1))] [] ?_))
       refine oe (nt (qe (nr (br (nr (nr ?_))))))
       have h57 := leafR hd30 h55 h26
       refine br (nr (nr ?_))
       obtain rfl := sI h57
       exact re [.int .i64 (-1)]
     refine qk (nt (qr (oN 3 [(1, vi (w64 ((w64 ((w64 (s21.2 + 1)) + 1)) + 1)))] [5, 0] ?_)))
     refine oe (bn (nt (qr (oN 3 [(5, vi (w64 (s21.1 + 1)))] [1, 0] ?_))))
     exact oe (ct h56 () [5, 0, 1] [] 0)
   refine qx (nx (nx (bh ?_)))
   have h58 := leafB hd30 h36 h26
   exact mp (s21.2, ()) h58 [1] [] 0
 have h33 := (congrFun hk28 _).symm.trans h33p
 refine nt (qs (qr (oN 2 [(4, vi y32.1)] [] ?_)))
 refine oe (nt (qe ?_))
 obtain rfl := sI h33
 exact re [.int .i64 y32.1]

theorem c_laws_heldSeries {W : World} {x0 : Series} {a0_0 : Option Addr} {c0_0 : Nat} {x1 : Int} {r : Int} (h : laws_heldSeries x0 x1 = some r) (hv0_0 : SlView W x0.Points a0_0 c0_0) :
    Gives0 Tryz.prog 121 #[vSeries x0 (a0_0, c0_0), .int .i64 x1] W (.int .i64 r) := by
 unfold laws_heldSeries at h
 refine en Tryz.func121 Tryz.ntmps121 ?_
 refine qs (qr (oB 2 [(2, .p 0 0)] [1] [(48, (eSeries x0 (a0_0, c0_0)))] ?_))
 refine oe (nt (qs (qr (oN 3 [(7, vi x1), (6, .v (.slice a0_0 x0.Points.length c0_0))] [] ?_))))
 obtain ⟨t21, h22, h23⟩ := bS h
 refine k0 (fun γ w hs => c_laws_heldPointS h22 (hv0_0.kept hs.kept)) ?_
 refine oN 1 [(1, vi t21)] [] ?_
 refine oe (nt (qs (qs (qr (oN 2 [(10, vb (decide (t21 < 0)))] [1] ?_)))))
 refine oe (nt (cC h23 (fun h26 => ?_) (fun h27 => ?_)))
 · refine qs (qr (oN 1 [(4, vi (-1))] [] ?_))
   refine oe (nt (qe (nr ?_)))
   obtain rfl := sI h26
   exact re [.int .i64 (-1)]
 refine qk (nt (qs (qr (oN 2 [(4, vi t21)] [] ?_))))
 refine oe (nt (qe ?_))
 obtain rfl := sI h27
 exact re [.int .i64 t21]

theorem c_laws_heldSpellS {W : World} {x0 : List Spell} {a0_0 : Option Addr} {c0_0 : Nat} {x1 : Int} {r : Int} (h : laws_heldSpellS x0 x1 = some r) (hv0_0 : SlView W x0 a0_0 c0_0) :
    Gives0 Tryz.prog 162 #[.slice a0_0 x0.length c0_0, .int .i64 x1] W (.int .i64 r) := by
 unfold laws_heldSpellS at h
 refine en Tryz.func162 Tryz.ntmps162 ?_
 refine qs (qr (oN 1 [] [0, 1] ?_))
 refine oe (nt (qs (qs (qr (oN 1 [(5, vi 0)] [0, 1] ?_)))))
 refine oe (nt ?_)
 obtain ⟨r24, hL25, h26⟩ := bS h
 obtain ⟨k27, hk28, h26⟩ := brkS h26
 refine JC_cutP (τ := (Int) × (Unit)) (fun y => k27 y.1 = some r) (fun y32 => [(1, vi y32.1)]) (fun y32 => []) (fun y32 => []) ?_ (fun y32 h33p => ?_)
 · refine qb (lp Unit hL25 (fun s21 y22 => [(5, vi s21.1), (0, .v (.slice a0_0 x0.length c0_0)), (1, vi s21.2)]) (fun s21 y22 => []) (fun s21 y22 => []) () [5, 0, 1] [] 0 (fun s21 y22 t23 h29 hd30 => ?_))
   refine qs (qs (qr (oN 4 [(9, vb (decide (s21.1 < (x0.length : Int))))] [5, 0, 1] ?_)))
   refine oe (nt (cC h29 (fun h35 => ?_) (fun h36 => ?_)))
   · refine qk (nt (qs (qb (qs (qs (qr (oN 2 [(13, vi s21.1), (12, .v (.slice a0_0 x0.length c0_0))] [5, 0, 1] ?_)))))))
     obtain ⟨x37, hx38, h39⟩ := bS h35
     refine oi 4 (fun γ w hs => (hv0_0.kept hs.kept)) hx38 ?_
     refine oN 1 [(15, .q a0_0 (Int.toNat s21.1 * 4))] [5, 0, 1] ?_
     refine ol 3 0 (.int .i64 x37.From) (fun γ w hs => (hv0_0.kept hs.kept).flatq hx38) ?_
     refine oN 2 [(18, vb (x37.From != s21.2))] [5, 0, 1] ?_
     refine oe (nt (cC h39 (fun h41 => ?_) (fun h42 => ?_)))
     · refine qs (qr (oN 1 [(4, vi (-1))] [] ?_))
       refine oe (nt (qe (nr (br (nr (nr ?_))))))
       have h43 := leafR hd30 h41 h26
       refine br (nr (nr ?_))
       obtain rfl := sI h43
       exact re [.int .i64 (-1)]
     refine qk (nt (qs (qr (oN 3 [(1, vi (w64 (s21.2 + 1)))] [5, 0] ?_))))
     refine oe (nt (qs (qs (qr (oN 2 [(22, vi s21.1), (21, .v (.slice a0_0 x0.length c0_0))] [1, 5, 0] ?_)))))
     obtain ⟨x44, hx45, h46⟩ := bS h42
     refine oi 4 (fun γ w hs => (hv0_0.kept hs.kept)) hx45 ?_
     refine oN 1 [(24, .q a0_0 (Int.toNat s21.1 * 4 + 1))] [1, 5, 0] ?_
     refine ol 3 1 (.int .i64 x44.To) (fun γ w hs => (hv0_0.kept hs.kept).flatq hx45) ?_
     refine oN 2 [(27, vb (x44.To != (w64 (s21.2 + 1))))] [1, 5, 0] ?_
     refine oe (nt (cC h46 (fun h48 => ?_) (fun h49 => ?_)))
     · refine qs (qr (oN 1 [(4, vi (-1))] [] ?_))
       refine oe (nt (qe (nr (br (nr (nr ?_))))))
       have h50 := leafR hd30 h48 h26
       refine br (nr (nr ?_))
       obtain rfl := sI h50
       exact re [.int .i64 (-1)]
     refine qk (nt (qs (qr (oN 3 [(1, vi (w64 ((w64 (s21.2 + 1)) + 1)))] [5, 0] ?_))))
     refine oe (nt (qs (qs (qr (oN 2 [(31, vi s21.1), (30, .v (.slice a0_0 x0.length c0_0))] [1, 5, 0] ?_)))))
     obtain ⟨x51, hx52, h53⟩ := bS h49
     refine oi 4 (fun γ w hs => (hv0_0.kept hs.kept)) hx52 ?_
     refine oN 1 [(33, .q a0_0 (Int.toNat s21.1 * 4 + 2))] [1, 5, 0] ?_
     refine ol 3 2 (.int .i64 x51.Percent) (fun γ w hs => (hv0_0.kept hs.kept).flatq hx52) ?_
     refine oN 2 [(36, vb (x51.Percent != (w64 ((w64 (s21.2 + 1)) + 1))))] [1, 5, 0] ?_
     refine oe (nt (cC h53 (fun h55 => ?_) (fun h56 => ?_)))
     · refine qs (qr (oN 1 [(4, vi (-1))] [] ?_))
       refine oe (nt (qe (nr (br (nr (nr ?_))))))
       have h57 := leafR hd30 h55 h26
       refine br (nr (nr ?_))
       obtain rfl := sI h57
       exact re [.int .i64 (-1)]
     refine qk (nt (qs (qr (oN 3 [(1, vi (w64 ((w64 ((w64 (s21.2 + 1)) + 1)) + 1)))] [5, 0] ?_))))
     refine oe (nt (qs (qs (qr (oN 2 [(40, vi s21.1), (39, .v (.slice a0_0 x0.length c0_0))] [1, 5, 0] ?_)))))
     obtain ⟨x58, hx59, h60⟩ := bS h56
     refine oi 4 (fun γ w hs => (hv0_0.kept hs.kept)) hx59 ?_
     refine oN 1 [(42, .q a0_0 (Int.toNat s21.1 * 4 + 3))] [1, 5, 0] ?_
     refine ol 4 3 (.bool x58.Leave) (fun γ w hs => (hv0_0.kept hs.kept).flatq hx59) ?_
     refine oN 4 [(47, vb (!(x58.Leave == ((Int.tmod (w64 ((w64 ((w64 (s21.2 + 1)) + 1)) + 1)) 3) == 0))))] [1, 5, 0] ?_
     refine oe (nt (cC h60 (fun h62 => ?_) (fun h63 => ?_)))
     · refine qs (qr (oN 1 [(4, vi (-1))] [] ?_))
       refine oe (nt (qe (nr (br (nr (nr ?_))))))
       have h64 := leafR hd30 h62 h26
       refine br (nr (nr ?_))
       obtain rfl := sI h64
       exact re [.int .i64 (-1)]
     refine qk (nt (qr (oN 3 [(1, vi (w64 ((w64 ((w64 ((w64 (s21.2 + 1)) + 1)) + 1)) + 1)))] [5, 0] ?_)))
     refine oe (bn (nt (qr (oN 3 [(5, vi (w64 (s21.1 + 1)))] [1, 0] ?_))))
     exact oe (ct h63 () [5, 0, 1] [] 0)
   refine qx (nx (nx (bh ?_)))
   have h65 := leafB hd30 h36 h26
   exact mp (s21.2, ()) h65 [1] [] 0
 have h33 := (congrFun hk28 _).symm.trans h33p
 refine nt (qs (qr (oN 2 [(4, vi y32.1)] [] ?_)))
 refine oe (nt (qe ?_))
 obtain rfl := sI h33
 exact re [.int .i64 y32.1]

theorem c_laws_heldEventS {W : World} {x0 : List Event} {a0_0 : Option Addr} {c0_0 : Nat} {x1 : Int} {r : Int} (h : laws_heldEventS x0 x1 = some r) (hv0_0 : SlView W x0 a0_0 c0_0) :
    Gives0 Tryz.prog 163 #[.slice a0_0 x0.length c0_0, .int .i64 x1] W (.int .i64 r) := by
 unfold laws_heldEventS at h
 refine en Tryz.func163 Tryz.ntmps163 ?_
 refine qs (qr (oN 1 [] [0, 1] ?_))
 refine oe (nt (qs (qs (qr (oN 1 [(5, vi 0)] [0, 1] ?_)))))
 refine oe (nt ?_)
 obtain ⟨r24, hL25, h26⟩ := bS h
 obtain ⟨k27, hk28, h26⟩ := brkS h26
 refine JC_cutP (τ := (Int) × (Unit)) (fun y => k27 y.1 = some r) (fun y32 => [(1, vi y32.1)]) (fun y32 => []) (fun y32 => []) ?_ (fun y32 h33p => ?_)
 · refine qb (lp Unit hL25 (fun s21 y22 => [(5, vi s21.1), (0, .v (.slice a0_0 x0.length c0_0)), (1, vi s21.2)]) (fun s21 y22 => []) (fun s21 y22 => []) () [5, 0, 1] [] 0 (fun s21 y22 t23 h29 hd30 => ?_))
   refine qs (qs (qr (oN 4 [(9, vb (decide (s21.1 < (x0.length : Int))))] [5, 0, 1] ?_)))
   refine oe (nt (cC h29 (fun h35 => ?_) (fun h36 => ?_)))
   · refine qk (nt (qs (qb (qs (qs (qr (oN 2 [(13, vi s21.1), (12, .v (.slice a0_0 x0.length c0_0))] [5, 0, 1] ?_)))))))
     obtain ⟨x37, hx38, h39⟩ := bS h35
     refine oi 2 (fun γ w hs => (hv0_0.kept hs.kept)) hx38 ?_
     refine oN 1 [(15, .q a0_0 (Int.toNat s21.1 * 2))] [5, 0, 1] ?_
     refine ol 3 0 (.int .i64 x37.Kind) (fun γ w hs => (hv0_0.kept hs.kept).flatq hx38) ?_
     refine oN 2 [(18, vb (x37.Kind != s21.2))] [5, 0, 1] ?_
     refine oe (nt (cC h39 (fun h41 => ?_) (fun h42 => ?_)))
     · refine qs (qr (oN 1 [(4, vi (-1))] [] ?_))
       refine oe (nt (qe (nr (br (nr (nr ?_))))))
       have h43 := leafR hd30 h41 h26
       refine br (nr (nr ?_))
       obtain rfl := sI h43
       exact re [.int .i64 (-1)]
     refine qk (nt (qs (qr (oN 3 [(1, vi (w64 (s21.2 + 1)))] [5, 0] ?_))))
     refine oe (nt (qs (qs (qr (oN 2 [(22, vi s21.1), (21, .v (.slice a0_0 x0.length c0_0))] [1, 5, 0] ?_)))))
     obtain ⟨x44, hx45, h46⟩ := bS h42
     refine oi 2 (fun γ w hs => (hv0_0.kept hs.kept)) hx45 ?_
     refine oN 1 [(24, .q a0_0 (Int.toNat s21.1 * 2 + 1))] [1, 5, 0] ?_
     refine ol 3 1 (.int .i64 x44.Month) (fun γ w hs => (hv0_0.kept hs.kept).flatq hx45) ?_
     refine oN 2 [(27, vb (x44.Month != (w64 (s21.2 + 1))))] [1, 5, 0] ?_
     refine oe (nt (cC h46 (fun h48 => ?_) (fun h49 => ?_)))
     · refine qs (qr (oN 1 [(4, vi (-1))] [] ?_))
       refine oe (nt (qe (nr (br (nr (nr ?_))))))
       have h50 := leafR hd30 h48 h26
       refine br (nr (nr ?_))
       obtain rfl := sI h50
       exact re [.int .i64 (-1)]
     refine qk (nt (qr (oN 3 [(1, vi (w64 ((w64 (s21.2 + 1)) + 1)))] [5, 0] ?_)))
     refine oe (bn (nt (qr (oN 3 [(5, vi (w64 (s21.1 + 1)))] [1, 0] ?_))))
     exact oe (ct h49 () [5, 0, 1] [] 0)
   refine qx (nx (nx (bh ?_)))
   have h51 := leafB hd30 h36 h26
   exact mp (s21.2, ()) h51 [1] [] 0
 have h33 := (congrFun hk28 _).symm.trans h33p
 refine nt (qs (qr (oN 2 [(4, vi y32.1)] [] ?_)))
 refine oe (nt (qe ?_))
 obtain rfl := sI h33
 exact re [.int .i64 y32.1]

theorem c_laws_heldMember {W : World} {x0 : Member} {b0 : AC × AC} {x1 : Int} {r : Int} (h : laws_heldMember x0 x1 = some r) (hv0_0 : SlView W x0.Spells b0.1.1 b0.1.2) (hv0_1 : SlView W x0.Events b0.2.1 b0.2.2) :
    Gives0 Tryz.prog 122 #[vMember x0 b0, .int .i64 x1] W (.int .i64 r) := by
 unfold laws_heldMember at h
 refine en Tryz.func122 Tryz.ntmps122 ?_
 refine qs (qr (oB 2 [(2, .p 0 0)] [1] [(52, (eMember x0 b0))] ?_))
 refine oe (nt (qs (qr (oN 3 [(7, vi x1), (6, .v (.slice b0.1.1 x0.Spells.length b0.1.2))] [2] ?_))))
 obtain ⟨t21, h22, h23⟩ := bS h
 refine k0 (fun γ w hs => c_laws_heldSpellS h22 (hv0_0.kept hs.kept)) ?_
 refine oN 1 [(1, vi t21)] [2] ?_
 refine oe (nt (qs (qs (qr (oN 2 [(10, vb (decide (t21 < 0)))] [1, 2] ?_)))))
 refine oe (nt (cC h23 (fun h26 => ?_) (fun h27 => ?_)))
 · refine qs (qr (oN 1 [(4, vi (-1))] [] ?_))
   refine oe (nt (qe (nr ?_)))
   obtain rfl := sI h26
   exact re [.int .i64 (-1)]
 refine qk (nt (qs (qr (oN 3 [(13, vi t21), (12, .v (.slice b0.2.1 x0.Events.length b0.2.2))] [] ?_))))
 obtain ⟨t28, h29, h30⟩ := bS h27
 refine k0 (fun γ w hs => c_laws_heldEventS h29 (hv0_1.kept hs.kept)) ?_
 refine oN 1 [(1, vi t28)] [] ?_
 refine oe (nt (qs (qs (qr (oN 2 [(16, vb (decide (t28 < 0)))] [1] ?_)))))
 refine oe (nt (cC h30 (fun h33 => ?_) (fun h34 => ?_)))
 · refine qs (qr (oN 1 [(4, vi (-1))] [] ?_))
   refine oe (nt (qe (nr ?_)))
   obtain rfl := sI h33
   exact re [.int .i64 (-1)]
 refine qk (nt (qs (qr (oN 2 [(4, vi t28)] [] ?_))))
 refine oe (nt (qe ?_))
 obtain rfl := sI h34
 exact re [.int .i64 t28]

theorem c_laws_heldCase {W : World} {x0 : Case} {b0 : AC × AC × AC × AC × AC} {x1 : Int} {r : Int} (h : laws_heldCase x0 x1 = some r) (hv0_0 : SlView W x0.Book.Rules b0.1.1 b0.1.2) (hv0_1 : SlView W x0.Store.Facts b0.2.1.1 b0.2.1.2) (hv0_2 : SlView W x0.Series.Points b0.2.2.1.1 b0.2.2.1.2) (hv0_3 : SlView W x0.Member.Spells b0.2.2.2.1.1 b0.2.2.2.1.2) (hv0_4 : SlView W x0.Member.Events b0.2.2.2.2.1 b0.2.2.2.2.2) :
    Gives0 Tryz.prog 72 #[vCase x0 b0, .int .i64 x1] W (.int .i64 r) := by
 unfold laws_heldCase at h
 refine en Tryz.func72 Tryz.ntmps72 ?_
 refine qs (qr (oB 2 [(2, .p 0 0)] [1] [(54, (eCase x0 b0))] ?_))
 refine oe (nt (qs (qr (oN 3 [(7, vi x1), (6, .v (vBook x0.Book b0.1))] [2] ?_))))
 obtain ⟨t21, h22, h23⟩ := bS h
 refine k0 (fun γ w hs => c_laws_heldBook h22 (hv0_0.kept hs.kept)) ?_
 refine oN 1 [(1, vi t21)] [2] ?_
 refine oe (nt (qs (qs (qr (oN 2 [(10, vb (decide (t21 < 0)))] [1, 2] ?_)))))
 refine oe (nt (cC h23 (fun h26 => ?_) (fun h27 => ?_)))
 · refine qs (qr (oN 1 [(4, vi (-1))] [] ?_))
   refine oe (nt (qe (nr ?_)))
   obtain rfl := sI h26
   exact re [.int .i64 (-1)]
 refine qk (nt (qs (qr (oN 3 [(13, vi t21), (12, .v (vStore x0.Store b0.2.1))] [2] ?_))))
 obtain ⟨t28, h29, h30⟩ := bS h27
 refine k0 (fun γ w hs => c_laws_heldStore h29 (hv0_1.kept hs.kept)) ?_
 refine oN 1 [(1, vi t28)] [2] ?_
 refine oe (nt (qs (qs (qr (oN 2 [(16, vb (decide (t28 < 0)))] [1, 2] ?_)))))
 refine oe (nt (cC h30 (fun h33 => ?_) (fun h34 => ?_)))
 · refine qs (qr (oN 1 [(4, vi (-1))] [] ?_))
   refine oe (nt (qe (nr ?_)))
   obtain rfl := sI h33
   exact re [.int .i64 (-1)]
 refine qk (nt (qs (qr (oN 3 [(19, vi t28), (18, .v (vSeries x0.Series b0.2.2.1))] [2] ?_))))
 obtain ⟨t35, h36, h37⟩ := bS h34
 refine k0 (fun γ w hs => c_laws_heldSeries h36 (hv0_2.kept hs.kept)) ?_
 refine oN 1 [(1, vi t35)] [2] ?_
 refine oe (nt (qs (qs (qr (oN 2 [(22, vb (decide (t35 < 0)))] [1, 2] ?_)))))
 refine oe (nt (cC h37 (fun h40 => ?_) (fun h41 => ?_)))
 · refine qs (qr (oN 1 [(4, vi (-1))] [] ?_))
   refine oe (nt (qe (nr ?_)))
   obtain rfl := sI h40
   exact re [.int .i64 (-1)]
 refine qk (nt (qs (qr (oN 3 [(25, vi t35), (24, .v (vMember x0.Member b0.2.2.2))] [] ?_))))
 obtain ⟨t42, h43, h44⟩ := bS h41
 refine k0 (fun γ w hs => c_laws_heldMember (b0 := b0.2.2.2) h43 (hv0_3.kept hs.kept) (hv0_4.kept hs.kept)) ?_
 refine oN 1 [(1, vi t42)] [] ?_
 refine oe (nt (qs (qs (qr (oN 2 [(28, vb (decide (t42 < 0)))] [1] ?_)))))
 refine oe (nt (cC h44 (fun h47 => ?_) (fun h48 => ?_)))
 · refine qs (qr (oN 1 [(4, vi (-1))] [] ?_))
   refine oe (nt (qe (nr ?_)))
   obtain rfl := sI h47
   exact re [.int .i64 (-1)]
 refine qk (nt (qs (qr (oN 2 [(4, vi t42)] [] ?_))))
 refine oe (nt (qe ?_))
 obtain rfl := sI h48
 exact re [.int .i64 t42]

theorem c_laws_heldIntS {W : World} {x0 : List Int} {a0_0 : Option Addr} {c0_0 : Nat} {x1 : Int} {r : Int} (h : laws_heldIntS x0 x1 = some r) (hv0_0 : SlView W x0 a0_0 c0_0) :
    Gives0 Tryz.prog 28 #[.slice a0_0 x0.length c0_0, .int .i64 x1] W (.int .i64 r) := by
 unfold laws_heldIntS at h
 refine en Tryz.func28 Tryz.ntmps28 ?_
 refine qs (qr (oN 1 [] [0, 1] ?_))
 refine oe (nt (qs (qs (qr (oN 1 [(5, vi 0)] [0, 1] ?_)))))
 refine oe (nt ?_)
 obtain ⟨r24, hL25, h26⟩ := bS h
 obtain ⟨k27, hk28, h26⟩ := brkS h26
 refine JC_cutP (τ := (Int) × (Unit)) (fun y => k27 y.1 = some r) (fun y32 => [(1, vi y32.1)]) (fun y32 => []) (fun y32 => []) ?_ (fun y32 h33p => ?_)
 · refine qb (lp Unit hL25 (fun s21 y22 => [(5, vi s21.1), (0, .v (.slice a0_0 x0.length c0_0)), (1, vi s21.2)]) (fun s21 y22 => []) (fun s21 y22 => []) () [5, 0, 1] [] 0 (fun s21 y22 t23 h29 hd30 => ?_))
   refine qs (qs (qr (oN 4 [(9, vb (decide (s21.1 < (x0.length : Int))))] [5, 0, 1] ?_)))
   refine oe (nt (cC h29 (fun h35 => ?_) (fun h36 => ?_)))
   · refine qk (nt (qs (qb (qs (qs (qr (oN 2 [(13, vi s21.1), (12, .v (.slice a0_0 x0.length c0_0))] [5, 0, 1] ?_)))))))
     obtain ⟨x37, hx38, h39⟩ := bS h35
     refine oi 1 (fun γ w hs => (hv0_0.kept hs.kept)) hx38 ?_
     refine ol 3 0 (.int .i64 x37) (fun γ w hs => (hv0_0.kept hs.kept).flatq hx38) ?_
     refine oN 2 [(17, vb (x37 != s21.2))] [5, 0, 1] ?_
     refine oe (nt (cC h39 (fun h41 => ?_) (fun h42 => ?_)))
     · refine qs (qr (oN 1 [(4, vi (-1))] [] ?_))
       refine oe (nt (qe (nr (br (nr (nr ?_))))))
       have h43 := leafR hd30 h41 h26
       refine br (nr (nr ?_))
       obtain rfl := sI h43
       exact re [.int .i64 (-1)]
     refine qk (nt (qr (oN 3 [(1, vi (w64 (s21.2 + 1)))] [5, 0] ?_)))
     refine oe (bn (nt (qr (oN 3 [(5, vi (w64 (s21.1 + 1)))] [1, 0] ?_))))
     exact oe (ct h42 () [5, 0, 1] [] 0)
   refine qx (nx (nx (bh ?_)))
   have h44 := leafB hd30 h36 h26
   exact mp (s21.2, ()) h44 [1] [] 0
 have h33 := (congrFun hk28 _).symm.trans h33p
 refine nt (qs (qr (oN 2 [(4, vi y32.1)] [] ?_)))
 refine oe (nt (qe ?_))
 obtain rfl := sI h33
 exact re [.int .i64 y32.1]

theorem c_laws_heldOffice {W : World} {x0 : Office} {b0 : AC × AC × AC × AC × AC × AC} {x1 : Int} {r : Int} (h : laws_heldOffice x0 x1 = some r) (hv0_0 : SlView W x0.Case.Book.Rules b0.1.1 b0.1.2) (hv0_1 : SlView W x0.Case.Store.Facts b0.2.1.1 b0.2.1.2) (hv0_2 : SlView W x0.Case.Series.Points b0.2.2.1.1 b0.2.2.1.2) (hv0_3 : SlView W x0.Case.Member.Spells b0.2.2.2.1.1 b0.2.2.2.1.2) (hv0_4 : SlView W x0.Case.Member.Events b0.2.2.2.2.1.1 b0.2.2.2.2.1.2) (hv0_5 : SlView W x0.Paid b0.2.2.2.2.2.1 b0.2.2.2.2.2.2) :
    Gives0 Tryz.prog 27 #[vOffice x0 b0, .int .i64 x1] W (.int .i64 r) := by
 unfold laws_heldOffice at h
 refine en Tryz.func27 Tryz.ntmps27 ?_
 refine qs (qr (oB 2 [(2, .p 0 0)] [1] [(57, (eOffice x0 b0))] ?_))
 refine oe (nt (qs (qr (oN 3 [(7, vi x1), (6, .v (vCase x0.Case (b0.1, b0.2.1, b0.2.2.1, b0.2.2.2.1, b0.2.2.2.2.1)))] [2] ?_))))
 obtain ⟨t21, h22, h23⟩ := bS h
 refine k0 (fun γ w hs => c_laws_heldCase (b0 := (b0.1, b0.2.1, b0.2.2.1, b0.2.2.2.1, b0.2.2.2.2.1)) h22 (hv0_0.kept hs.kept) (hv0_1.kept hs.kept) (hv0_2.kept hs.kept) (hv0_3.kept hs.kept) (hv0_4.kept hs.kept)) ?_
 refine oN 1 [(1, vi t21)] [2] ?_
 refine oe (nt (qs (qs (qr (oN 2 [(10, vb (decide (t21 < 0)))] [1, 2] ?_)))))
 refine oe (nt (cC h23 (fun h26 => ?_) (fun h27 => ?_)))
 · refine qs (qr (oN 1 [(4, vi (-1))] [] ?_))
   refine oe (nt (qe (nr ?_)))
   obtain rfl := sI h26
   exact re [.int .i64 (-1)]
 refine qk (nt (qs (qr (oN 3 [(13, vi t21), (12, .v (.slice b0.2.2.2.2.2.1 x0.Paid.length b0.2.2.2.2.2.2))] [] ?_))))
 obtain ⟨t28, h29, h30⟩ := bS h27
 refine k0 (fun γ w hs => c_laws_heldIntS h29 (hv0_5.kept hs.kept)) ?_
 refine oN 1 [(1, vi t28)] [] ?_
 refine oe (nt (qs (qs (qr (oN 2 [(16, vb (decide (t28 < 0)))] [1] ?_)))))
 refine oe (nt (cC h30 (fun h33 => ?_) (fun h34 => ?_)))
 · refine qs (qr (oN 1 [(4, vi (-1))] [] ?_))
   refine oe (nt (qe (nr ?_)))
   obtain rfl := sI h33
   exact re [.int .i64 (-1)]
 refine qk (nt (qs (qr (oN 2 [(4, vi t28)] [] ?_))))
 refine oe (nt (qe ?_))
 obtain rfl := sI h34
 exact re [.int .i64 t28]
end Go.Pen
