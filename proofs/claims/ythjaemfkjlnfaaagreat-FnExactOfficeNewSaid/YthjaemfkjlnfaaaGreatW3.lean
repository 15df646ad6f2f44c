/-
  Each Go function does what its plain function says: written by a program of ours.
-/
import Derived.Test.YthjaemfkjlnfaaaGreatW2
import Derived.Test.YthjaemfkjlnfaaaGreatProg
import Derived.Test.YthjaemfkjlnfaaaGreatPenK
namespace Go.Pen
open Go.Proofs Go.RowKit
set_option linter.unusedVariables false
set_option linter.unusedSimpArgs false
set_option maxRecDepth 100000
set_option maxHeartbeats 4000000

theorem c_laws_FnExactOfficeNew {W : World} {x0 : Case} {b0 : AC × AC × AC × AC × AC} {x1 : Int} {r : Bool} (h : laws_FnExactOfficeNew x0 x1 = some r) (hv0_0 : SlView W x0.Book.Rules b0.1.1 b0.1.2) (hv0_1 : SlView W x0.Store.Facts b0.2.1.1 b0.2.1.2) (hv0_2 : SlView W x0.Series.Points b0.2.2.1.1 b0.2.2.1.2) (hv0_3 : SlView W x0.Member.Spells b0.2.2.2.1.1 b0.2.2.2.1.2) (hv0_4 : SlView W x0.Member.Events b0.2.2.2.2.1 b0.2.2.2.2.2) :
    Gives0 Tryz.prog 8 #[vCase x0 b0, .int .i64 x1] W (.bool r) := by
 unfold laws_FnExactOfficeNew at h
 refine en Tryz.func8 Tryz.ntmps8 ?_
 refine qs (qr (oB 2 [(2, .p 0 0)] [1] [(36, (eCase x0 b0))] ?_))
 refine oe (nt (qs (qr (oN 1 [(5, vi 1048576)] [2, 1] ?_))))
 refine oe (nt (qs (qr (oN 2 [(17, vi 1048576), (16, .v (vCase x0 b0))] [2, 1] ?_))))
 obtain ⟨t21, h22, h23⟩ := bS h
 refine k0 (fun γ w hs => c_laws_szCase (b0 := b0) h22 (hv0_0.kept hs.kept) (hv0_1.kept hs.kept) (hv0_2.kept hs.kept) (hv0_3.kept hs.kept) (hv0_4.kept hs.kept)) ?_
 refine oN 1 [(5, vi t21)] [2, 1] ?_
 refine oe (nt (qs (qs (qr (oN 2 [(20, vb (decide (t21 < 0)))] [2, 1] ?_)))))
 refine oe (nt (cC h23 (fun h26 => ?_) (fun h27 => ?_)))
 · refine qs (qr (oN 1 [(4, vb true)] [] ?_))
   refine oe (nt (qe (nr ?_)))
   obtain rfl := sI h26
   exact re [.bool true]
 refine qk (nt (qs (qr (oN 1 [(22, .v (vCase x0 b0))] [2, 1] ?_))))
 obtain ⟨t28, h29, h30⟩ := bS h27
 refine k1 (fun γ w hs => c_laws_toCase (b0 := b0) h29 (hv0_0.kept hs.kept) (hv0_1.kept hs.kept) (hv0_2.kept hs.kept) (hv0_3.kept hs.kept) (hv0_4.kept hs.kept)) (fun y31 => ?_)
 refine oN 1 [(24, vi x1)] [23, 2, 1] ?_
 obtain ⟨t32, h33, h34⟩ := bS h30
 refine k1 (fun γ w hs => c_spec_OfficeNew (b0 := y31) h33 (hs.view 0 rfl) (hs.view 1 rfl) (hs.view 2 rfl) (hs.view 3 rfl) (hs.view 4 rfl)) (fun y35 => ?_)
 refine oB 6 [(7, vb t32.2), (6, .p 1 0)] [2, 1] [(36, (eCase x0 b0)), (57, (eOffice t32.1 y35))] ?_
 refine oe (nt (qs (qr (oN 1 [(28, .v (vCase x0 b0))] [7, 6, 2, 1] ?_))))
 obtain ⟨t36, h37, h38⟩ := bS h34
 refine k1 (fun γ w hs => c_laws_toCase (b0 := b0) h37 (hv0_0.kept hs.kept) (hv0_1.kept hs.kept) (hv0_2.kept hs.kept) (hv0_3.kept hs.kept) (hv0_4.kept hs.kept)) (fun y39 => ?_)
 refine oB 2 [(8, .p 2 0)] [7, 6, 2, 1] [(36, (eCase x0 b0)), (57, (eOffice t32.1 y35)), (54, (eCase t36 y39))] ?_
 refine oe (nt (qs (qr (oN 2 [(32, vi x1), (31, .v (vCase t36 y39))] [8, 7, 6, 2, 1] ?_))))
 obtain ⟨t40, h41, h42⟩ := bS h38
 refine k1 (fun γ w hs => c_impl_OfficeNew (b0 := y39) h41 (hs.view 0 rfl) (hs.view 1 rfl) (hs.view 2 rfl) (hs.view 3 rfl) (hs.view 4 rfl)) (fun y43 => ?_)
 refine oB 6 [(10, vb t40.2), (9, .p 3 0)] [8, 7, 6, 2, 1] [(36, (eCase x0 b0)), (57, (eOffice t32.1 y35)), (54, (eCase t36 y39)), (57, (eOffice t40.1 y43))] ?_
 refine oe (nt (qs (qs ?_)))
 obtain ⟨p44, hE45, h46⟩ := bS h42
 refine JC_cut (τ := Unit) (fun _ => [(1, vi x1), (2, .p 0 0), (6, .p 1 0), (7, vb t32.2), (8, .p 2 0), (9, .p 3 0), (10, vb t40.2), (44, vb p44)]) (fun _ => [(36, (eCase x0 b0)), (57, (eOffice t32.1 y35)), (54, (eCase t36 y39)), (57, (eOffice t40.1 y43))]) (fun _ => [SlRes 188 t32.1.Case.Book.Rules y35.1.1 y35.1.2, SlRes 84 t32.1.Case.Store.Facts y35.2.1.1 y35.2.1.2, SlRes 85 t32.1.Case.Series.Points y35.2.2.1.1 y35.2.2.1.2, SlRes 191 t32.1.Case.Member.Spells y35.2.2.2.1.1 y35.2.2.2.1.2, SlRes 195 t32.1.Case.Member.Events y35.2.2.2.2.1.1 y35.2.2.2.2.1.2, SlRes 3 t32.1.Paid y35.2.2.2.2.2.1 y35.2.2.2.2.2.2, SlRes 188 t36.Book.Rules y39.1.1 y39.1.2, SlRes 84 t36.Store.Facts y39.2.1.1 y39.2.1.2, SlRes 85 t36.Series.Points y39.2.2.1.1 y39.2.2.1.2, SlRes 191 t36.Member.Spells y39.2.2.2.1.1 y39.2.2.2.1.2, SlRes 195 t36.Member.Events y39.2.2.2.2.1 y39.2.2.2.2.2, SlRes 188 t40.1.Case.Book.Rules y43.1.1 y43.1.2, SlRes 84 t40.1.Case.Store.Facts y43.2.1.1 y43.2.1.2, SlRes 85 t40.1.Case.Series.Points y43.2.2.1.1 y43.2.2.1.2, SlRes 191 t40.1.Case.Member.Spells y43.2.2.2.1.1 y43.2.2.2.1.2, SlRes 195 t40.1.Case.Member.Events y43.2.2.2.2.1.1 y43.2.2.2.2.1.2, SlRes 3 t40.1.Paid y43.2.2.2.2.2.1 y43.2.2.2.2.2.2]) ?_ (fun _ => ?_)
 · refine qr (oN 2 [(37, .v (vOffice t32.1 y35)), (36, .v (vOffice t40.1 y43))] [10, 9, 8, 7, 6, 2, 1] ?_)
   obtain ⟨t47, h48, h49⟩ := bS hE45
   refine k0 (fun γ w hs => c_laws_eqOffice (b0 := y43) (b1 := y35) h48 (hs.view 0 rfl) (hs.view 1 rfl) (hs.view 2 rfl) (hs.view 3 rfl) (hs.view 4 rfl) (hs.view 5 rfl) (hs.view 11 rfl) (hs.view 12 rfl) (hs.view 13 rfl) (hs.view 14 rfl) (hs.view 15 rfl) (hs.view 16 rfl)) ?_
   refine oN 2 [(40, vb (!t47))] [10, 9, 8, 7, 6, 2, 1] ?_
   refine oS 40 h49 (fun h52 => ?_) (fun h53 => ?_)
   · refine oN 4 [(44, vb true)] [10, 9, 8, 7, 6, 2, 1] ?_
     refine oe ?_
     obtain rfl := sI h52
     exact mt () [1, 2, 6, 7, 8, 9, 10, 44] [11, 11, 11, 11, 11, 11, 6, 6, 6, 6, 6, 0, 0, 0, 0, 0, 0] 4
   refine oN 4 [(44, vb (!(t40.2 == t32.2)))] [10, 9, 8, 7, 6, 2, 1] ?_
   refine oe ?_
   obtain rfl := sI h53
   exact mt () [1, 2, 6, 7, 8, 9, 10, 44] [11, 11, 11, 11, 11, 11, 6, 6, 6, 6, 6, 0, 0, 0, 0, 0, 0] 4
 refine nt (cC h46 (fun h55 => ?_) (fun h56 => ?_))
 · refine qs (qr (oN 1 [(4, vb false)] [] ?_))
   refine oe (nt (qe (nr ?_)))
   obtain rfl := sI h55
   exact re [.bool false]
 refine qk (nt (qs (qs ?_)))
 obtain ⟨t57, h58, h59⟩ := bS h56
 obtain ⟨t61, h62, h63⟩ := bS h59
 refine JC_cut (τ := Unit) (fun _ => [(49, vb (!t61)), (1, vi x1), (2, .p 0 0), (6, .p 1 0), (7, vb t32.2), (8, .p 2 0), (9, .p 3 0), (10, vb t40.2)]) (fun _ => [(36, (eCase x0 b0)), (57, (eOffice t32.1 y35)), (54, (eCase t36 y39)), (57, (eOffice t40.1 y43))]) (fun _ => [SlRes 188 t32.1.Case.Book.Rules y35.1.1 y35.1.2, SlRes 84 t32.1.Case.Store.Facts y35.2.1.1 y35.2.1.2, SlRes 85 t32.1.Case.Series.Points y35.2.2.1.1 y35.2.2.1.2, SlRes 191 t32.1.Case.Member.Spells y35.2.2.2.1.1 y35.2.2.2.1.2, SlRes 195 t32.1.Case.Member.Events y35.2.2.2.2.1.1 y35.2.2.2.2.1.2, SlRes 3 t32.1.Paid y35.2.2.2.2.2.1 y35.2.2.2.2.2.2, SlRes 188 t36.Book.Rules y39.1.1 y39.1.2, SlRes 84 t36.Store.Facts y39.2.1.1 y39.2.1.2, SlRes 85 t36.Series.Points y39.2.2.1.1 y39.2.2.1.2, SlRes 191 t36.Member.Spells y39.2.2.2.1.1 y39.2.2.2.1.2, SlRes 195 t36.Member.Events y39.2.2.2.2.1 y39.2.2.2.2.2, SlRes 188 t40.1.Case.Book.Rules y43.1.1 y43.1.2, SlRes 84 t40.1.Case.Store.Facts y43.2.1.1 y43.2.1.2, SlRes 85 t40.1.Case.Series.Points y43.2.2.1.1 y43.2.2.1.2, SlRes 191 t40.1.Case.Member.Spells y43.2.2.2.1.1 y43.2.2.2.1.2, SlRes 195 t40.1.Case.Member.Events y43.2.2.2.2.1.1 y43.2.2.2.2.1.2, SlRes 3 t40.1.Paid y43.2.2.2.2.2.1 y43.2.2.2.2.2.2]) ?_ (fun _ => ?_)
 · refine JC_weak [1, 2, 6, 7, 8, 9, 10] [0, 0, 0, 0, 0, 0, 0, 0, 0, 0, 0, 0, 0, 0, 0, 0, 0] 4 (sl' := [(1, vi x1), (2, .p 0 0), (6, .p 1 0), (7, vb t32.2), (8, .p 2 0), (9, .p 3 0), (10, vb t40.2)]) (bx' := [(36, (eCase x0 b0)), (57, (eOffice t32.1 y35)), (54, (eCase t36 y39)), (57, (eOffice t40.1 y43))]) (R' := [SlRes 188 t32.1.Case.Book.Rules y35.1.1 y35.1.2, SlRes 84 t32.1.Case.Store.Facts y35.2.1.1 y35.2.1.2, SlRes 85 t32.1.Case.Series.Points y35.2.2.1.1 y35.2.2.1.2, SlRes 191 t32.1.Case.Member.Spells y35.2.2.2.1.1 y35.2.2.2.1.2, SlRes 195 t32.1.Case.Member.Events y35.2.2.2.2.1.1 y35.2.2.2.2.1.2, SlRes 3 t32.1.Paid y35.2.2.2.2.2.1 y35.2.2.2.2.2.2, SlRes 188 t36.Book.Rules y39.1.1 y39.1.2, SlRes 84 t36.Store.Facts y39.2.1.1 y39.2.1.2, SlRes 85 t36.Series.Points y39.2.2.1.1 y39.2.2.1.2, SlRes 191 t36.Member.Spells y39.2.2.2.1.1 y39.2.2.2.1.2, SlRes 195 t36.Member.Events y39.2.2.2.2.1 y39.2.2.2.2.2, SlRes 188 t40.1.Case.Book.Rules y43.1.1 y43.1.2, SlRes 84 t40.1.Case.Store.Facts y43.2.1.1 y43.2.1.2, SlRes 85 t40.1.Case.Series.Points y43.2.2.1.1 y43.2.2.1.2, SlRes 191 t40.1.Case.Member.Spells y43.2.2.2.1.1 y43.2.2.2.1.2, SlRes 195 t40.1.Case.Member.Events y43.2.2.2.2.1.1 y43.2.2.2.2.1.2, SlRes 3 t40.1.Paid y43.2.2.2.2.2.1 y43.2.2.2.2.2.2]) (by kernel_rfl) (by kernel_rfl) (by kernel_rfl) (by kernel_rfl) ?_
   refine JC_heldN (ks := [0, 1, 2, 3]) (Rk := [SlRes 188 t32.1.Case.Book.Rules y35.1.1 y35.1.2, SlRes 84 t32.1.Case.Store.Facts y35.2.1.1 y35.2.1.2, SlRes 85 t32.1.Case.Series.Points y35.2.2.1.1 y35.2.2.1.2, SlRes 191 t32.1.Case.Member.Spells y35.2.2.2.1.1 y35.2.2.2.1.2, SlRes 195 t32.1.Case.Member.Events y35.2.2.2.2.1.1 y35.2.2.2.2.1.2, SlRes 3 t32.1.Paid y35.2.2.2.2.2.1 y35.2.2.2.2.2.2, SlRes 188 t36.Book.Rules y39.1.1 y39.1.2, SlRes 84 t36.Store.Facts y39.2.1.1 y39.2.1.2, SlRes 85 t36.Series.Points y39.2.2.1.1 y39.2.2.1.2, SlRes 191 t36.Member.Spells y39.2.2.2.1.1 y39.2.2.2.1.2, SlRes 195 t36.Member.Events y39.2.2.2.2.1 y39.2.2.2.2.2, SlRes 188 t40.1.Case.Book.Rules y43.1.1 y43.1.2, SlRes 84 t40.1.Case.Store.Facts y43.2.1.1 y43.2.1.2, SlRes 85 t40.1.Case.Series.Points y43.2.2.1.1 y43.2.2.1.2, SlRes 191 t40.1.Case.Member.Spells y43.2.2.2.1.1 y43.2.2.2.1.2, SlRes 195 t40.1.Case.Member.Events y43.2.2.2.2.1.1 y43.2.2.2.2.1.2, SlRes 3 t40.1.Paid y43.2.2.2.2.2.1 y43.2.2.2.2.2.2]) 5 (by kernel_rfl) (by kernel_rfl) ?_
   refine htq 0 (.v (vCase t36 y39)) [0, 0, 0, 0, 0, 0, 0, 0, 0, 0, 0, 0, 0, 0, 0, 0, 0] ?_
   refine htq 1 (.v (vCase x0 b0)) [0, 0, 0, 0, 0, 0, 0, 0, 0, 0, 0, 0, 0, 0, 0, 0, 0] ?_
   refine ha1 2 ?_
   refine hi (fun γ0 δ hm => ?_)
   refine g1 (fun w hs => c_laws_toCase (b0 := b0) h58 (hv0_0.kept hs.kept) (hv0_1.kept hs.kept) (hv0_2.kept hs.kept) (hv0_3.kept hs.kept) (hv0_4.kept hs.kept)) (fun y60 => ?_)
   refine gn hm [47, 45, 1, 2, 6, 7, 8, 9, 10] [5, 5, 5, 5, 5, 5, 5, 5, 5, 5, 5, 5, 5, 5, 5, 5, 5] ?_
   refine ha1 3 ?_
   refine hi (fun γ0 δ hm => ?_)
   refine g0 (fun w hs => c_laws_eqCase (b0 := y39) (b1 := y60) h62 (hs.view 11 rfl) (hs.view 12 rfl) (hs.view 13 rfl) (hs.view 14 rfl) (hs.view 15 rfl) (hs.view 0 rfl) (hs.view 1 rfl) (hs.view 2 rfl) (hs.view 3 rfl) (hs.view 4 rfl)) ?_
   refine gn hm [48, 1, 2, 6, 7, 8, 9, 10] [5, 5, 5, 5, 5, 5, 5, 5, 5, 5, 5, 5, 5, 5, 5, 5, 5] ?_
   refine htq 4 (vb (!t61)) [5, 5, 5, 5, 5, 5, 5, 5, 5, 5, 5, 5, 5, 5, 5, 5, 5] ?_
   refine hk [49, 1, 2, 6, 7, 8, 9, 10] ?_
   exact hd () [49, 1, 2, 6, 7, 8, 9, 10] [5, 5, 5, 5, 5, 5, 5, 5, 5, 5, 5, 5, 5, 5, 5, 5, 5] 4
 refine nt (cC h63 (fun h67 => ?_) (fun h68 => ?_))
 · refine qs (qr (oN 1 [(4, vb false)] [] ?_))
   refine oe (nt (qe (nr ?_)))
   obtain rfl := sI h67
   exact re [.bool false]
 refine qk (nt (qs (qr (oN 1 [(11, vi 1)] [1, 2, 6, 7, 8, 9, 10] ?_))))
 refine oe (nt (qs (qr (oN 2 [(51, vi 1), (50, .v (vCase t36 y39))] [1, 2, 6, 7, 9, 10] ?_))))
 refine JO_res (R' := [SlRes 188 t36.Book.Rules y39.1.1 y39.1.2, SlRes 84 t36.Store.Facts y39.2.1.1 y39.2.1.2, SlRes 85 t36.Series.Points y39.2.2.1.1 y39.2.2.1.2, SlRes 191 t36.Member.Spells y39.2.2.2.1.1 y39.2.2.2.1.2, SlRes 195 t36.Member.Events y39.2.2.2.2.1 y39.2.2.2.2.2, SlRes 188 t32.1.Case.Book.Rules y35.1.1 y35.1.2, SlRes 84 t32.1.Case.Store.Facts y35.2.1.1 y35.2.1.2, SlRes 85 t32.1.Case.Series.Points y35.2.2.1.1 y35.2.2.1.2, SlRes 191 t32.1.Case.Member.Spells y35.2.2.2.1.1 y35.2.2.2.1.2, SlRes 195 t32.1.Case.Member.Events y35.2.2.2.2.1.1 y35.2.2.2.2.1.2, SlRes 3 t32.1.Paid y35.2.2.2.2.2.1 y35.2.2.2.2.2.2, SlRes 188 t40.1.Case.Book.Rules y43.1.1 y43.1.2, SlRes 84 t40.1.Case.Store.Facts y43.2.1.1 y43.2.1.2, SlRes 85 t40.1.Case.Series.Points y43.2.2.1.1 y43.2.2.1.2, SlRes 191 t40.1.Case.Member.Spells y43.2.2.2.1.1 y43.2.2.2.1.2, SlRes 195 t40.1.Case.Member.Events y43.2.2.2.2.1.1 y43.2.2.2.2.1.2, SlRes 3 t40.1.Paid y43.2.2.2.2.2.1 y43.2.2.2.2.2.2]) [6, 6, 6, 6, 6, 0, 0, 0, 0, 0, 0, 0, 0, 0, 0, 0, 0] (by kernel_rfl) ?_
 obtain ⟨t69, h70, h71⟩ := bS h68
 obtain ⟨u73, hu74, h75⟩ := bS h71
 have hl76 := (sameLen_some hu74).symm
 obtain ⟨u77, hu78, h79⟩ := bS h75
 have hl80 := (sameLen_some hu78).symm
 obtain ⟨u81, hu82, h83⟩ := bS h79
 have hl84 := (sameLen_some hu82).symm
 obtain ⟨u85, hu86, h87⟩ := bS h83
 have hl88 := (sameLen_some hu86).symm
 obtain ⟨u89, hu90, h91⟩ := bS h87
 have hl92 := (sameLen_some hu90).symm
 refine JO_callM rfl (by kernel_rfl) (f := 23) (args := #[vCase t36 y39, .int .i64 1]) (by kernel_rfl) (x := .int .i64 t69.1) (Rin := [SlRes 188 t36.Book.Rules y39.1.1 y39.1.2, SlRes 84 t36.Store.Facts y39.2.1.1 y39.2.1.2, SlRes 85 t36.Series.Points y39.2.2.1.1 y39.2.2.1.2, SlRes 191 t36.Member.Spells y39.2.2.2.1.1 y39.2.2.2.1.2, SlRes 195 t36.Member.Events y39.2.2.2.2.1 y39.2.2.2.2.2]) (Rout := [SlRes 188 t69.2.1 y39.1.1 y39.1.2, SlRes 84 t69.2.2.1 y39.2.1.1 y39.2.1.2, SlRes 85 t69.2.2.2.1 y39.2.2.1.1 y39.2.2.1.2, SlRes 191 t69.2.2.2.2.1 y39.2.2.2.1.1 y39.2.2.2.1.2, SlRes 195 t69.2.2.2.2.2 y39.2.2.2.2.1 y39.2.2.2.2.2]) (Rr := [SlRes 188 t32.1.Case.Book.Rules y35.1.1 y35.1.2, SlRes 84 t32.1.Case.Store.Facts y35.2.1.1 y35.2.1.2, SlRes 85 t32.1.Case.Series.Points y35.2.2.1.1 y35.2.2.1.2, SlRes 191 t32.1.Case.Member.Spells y35.2.2.2.1.1 y35.2.2.2.1.2, SlRes 195 t32.1.Case.Member.Events y35.2.2.2.2.1.1 y35.2.2.2.2.1.2, SlRes 3 t32.1.Paid y35.2.2.2.2.2.1 y35.2.2.2.2.2.2, SlRes 188 t40.1.Case.Book.Rules y43.1.1 y43.1.2, SlRes 84 t40.1.Case.Store.Facts y43.2.1.1 y43.2.1.2, SlRes 85 t40.1.Case.Series.Points y43.2.2.1.1 y43.2.2.1.2, SlRes 191 t40.1.Case.Member.Spells y43.2.2.2.1.1 y43.2.2.2.1.2, SlRes 195 t40.1.Case.Member.Events y43.2.2.2.2.1.1 y43.2.2.2.2.1.2, SlRes 3 t40.1.Paid y43.2.2.2.2.2.1 y43.2.2.2.2.2.2]) rfl (fun w => (by have vv := c_laws_markCase (e0_0 := 188) (a0_0 := y39.1.1) (c0_0 := y39.1.2) (e0_1 := 84) (a0_1 := y39.2.1.1) (c0_1 := y39.2.1.2) (e0_2 := 85) (a0_2 := y39.2.2.1.1) (c0_2 := y39.2.2.1.2) (e0_3 := 191) (a0_3 := y39.2.2.2.1.1) (c0_3 := y39.2.2.2.1.2) (e0_4 := 195) (a0_4 := y39.2.2.2.2.1) (c0_4 := y39.2.2.2.2.2) (W := w) h70; exact vv)) (sl' := [(52, vi t69.1), (51, vi 1), (50, .v (vCase t36 y39)), (1, vi x1), (2, .p 0 0), (6, .p 1 0), (7, vb t32.2), (9, .p 3 0), (10, vb t40.2)]) (by kernel_rfl) ?_
 refine JO_eqE (sl' := [(52, vi t69.1), (51, vi 1), (50, .v (vCase (Case.mk (Book.mk t69.2.1) (Store.mk t69.2.2.1) (Series.mk t69.2.2.2.1) (Member.mk t36.Member.Birth t36.Member.Joined t69.2.2.2.2.1 t69.2.2.2.2.2)) y39)), (1, vi x1), (2, .p 0 0), (6, .p 1 0), (7, vb t32.2), (9, .p 3 0), (10, vb t40.2)]) (bx' := [(36, (eCase x0 b0)), (57, (eOffice t32.1 y35)), (54, (eCase (Case.mk (Book.mk t69.2.1) (Store.mk t69.2.2.1) (Series.mk t69.2.2.2.1) (Member.mk t36.Member.Birth t36.Member.Joined t69.2.2.2.2.1 t69.2.2.2.2.2)) y39)), (57, (eOffice t40.1 y43))]) (by simp only [eCase, vCase, hl76, hl80, hl84, hl88, hl92]) (by simp only [eCase, eOffice, vCase, vOffice, hl76, hl80, hl84, hl88, hl92]) ?_
 refine oN 1 [(11, vi t69.1)] [1, 2, 6, 7, 9, 10] ?_
 refine oe (nt (qs (qs ?_)))
 obtain ⟨p93, hE94, h95⟩ := bS h91
 refine JC_cut (τ := Unit) (fun _ => [(1, vi x1), (2, .p 0 0), (6, .p 1 0), (7, vb t32.2), (9, .p 3 0), (65, vb p93)]) (fun _ => [(36, (eCase x0 b0)), (57, (eOffice t32.1 y35)), (54, (eCase (Case.mk (Book.mk t69.2.1) (Store.mk t69.2.2.1) (Series.mk t69.2.2.2.1) (Member.mk t36.Member.Birth t36.Member.Joined t69.2.2.2.2.1 t69.2.2.2.2.2)) y39)), (57, (eOffice t40.1 y43))]) (fun _ => [SlRes 188 t32.1.Case.Book.Rules y35.1.1 y35.1.2, SlRes 84 t32.1.Case.Store.Facts y35.2.1.1 y35.2.1.2, SlRes 85 t32.1.Case.Series.Points y35.2.2.1.1 y35.2.2.1.2, SlRes 191 t32.1.Case.Member.Spells y35.2.2.2.1.1 y35.2.2.2.1.2, SlRes 195 t32.1.Case.Member.Events y35.2.2.2.2.1.1 y35.2.2.2.2.1.2, SlRes 3 t32.1.Paid y35.2.2.2.2.2.1 y35.2.2.2.2.2.2, SlRes 188 t69.2.1 y39.1.1 y39.1.2, SlRes 84 t69.2.2.1 y39.2.1.1 y39.2.1.2, SlRes 85 t69.2.2.2.1 y39.2.2.1.1 y39.2.2.1.2, SlRes 191 t69.2.2.2.2.1 y39.2.2.2.1.1 y39.2.2.2.1.2, SlRes 195 t69.2.2.2.2.2 y39.2.2.2.2.1 y39.2.2.2.2.2, SlRes 188 t40.1.Case.Book.Rules y43.1.1 y43.1.2, SlRes 84 t40.1.Case.Store.Facts y43.2.1.1 y43.2.1.2, SlRes 85 t40.1.Case.Series.Points y43.2.2.1.1 y43.2.2.1.2, SlRes 191 t40.1.Case.Member.Spells y43.2.2.2.1.1 y43.2.2.2.1.2, SlRes 195 t40.1.Case.Member.Events y43.2.2.2.2.1.1 y43.2.2.2.2.1.2, SlRes 3 t40.1.Paid y43.2.2.2.2.2.1 y43.2.2.2.2.2.2]) ?_ (fun _ => ?_)
 · refine qr (oN 3 [(55, vb (decide (t69.1 < 0)))] [1, 2, 6, 7, 9, 10] ?_)
   refine oS 55 hE94 (fun h97 => ?_) (fun h98 => ?_)
   · refine oN 10 [(65, vb true)] [1, 2, 6, 7, 9] ?_
     refine oe ?_
     obtain rfl := sI h97
     exact mt () [1, 2, 6, 7, 9, 65] [5, 5, 5, 5, 5, 5, 0, 0, 0, 0, 0, 0, 0, 0, 0, 0, 0] 4
   refine oN 2 [(57, .v (vOffice t32.1 y35)), (56, .v (vOffice t40.1 y43))] [55, 1, 2, 6, 7, 9, 10] ?_
   obtain ⟨t99, h100, h101⟩ := bS h98
   refine k0 (fun γ w hs => c_laws_eqOffice (b0 := y43) (b1 := y35) h100 (hs.view 11 rfl) (hs.view 12 rfl) (hs.view 13 rfl) (hs.view 14 rfl) (hs.view 15 rfl) (hs.view 16 rfl) (hs.view 5 rfl) (hs.view 6 rfl) (hs.view 7 rfl) (hs.view 8 rfl) (hs.view 9 rfl) (hs.view 10 rfl)) ?_
   refine oN 3 [(61, vb (!t99))] [1, 2, 6, 7, 9, 10] ?_
   refine oS 61 h101 (fun h104 => ?_) (fun h105 => ?_)
   · refine oN 4 [(65, vb true)] [1, 2, 6, 7, 9] ?_
     refine oe ?_
     obtain rfl := sI h104
     exact mt () [1, 2, 6, 7, 9, 65] [5, 5, 5, 5, 5, 5, 0, 0, 0, 0, 0, 0, 0, 0, 0, 0, 0] 4
   refine oN 4 [(65, vb (!(t40.2 == t32.2)))] [1, 2, 6, 7, 9] ?_
   refine oe ?_
   obtain rfl := sI h105
   exact mt () [1, 2, 6, 7, 9, 65] [5, 5, 5, 5, 5, 5, 0, 0, 0, 0, 0, 0, 0, 0, 0, 0, 0] 4
 refine nt (cC h95 (fun h107 => ?_) (fun h108 => ?_))
 · refine qs (qr (oN 1 [(4, vb false)] [] ?_))
   refine oe (nt (qe (nr ?_)))
   obtain rfl := sI h107
   exact re [.bool false]
 refine qk (nt (qs (qr (oN 1 [(12, vi 1)] [1, 2, 6, 7, 9] ?_))))
 refine oe (nt (qs (qr (oN 2 [(67, vi 1), (66, .v (vOffice t40.1 y43))] [1, 2, 6, 7, 9] ?_))))
 refine JO_res (R' := [SlRes 188 t40.1.Case.Book.Rules y43.1.1 y43.1.2, SlRes 84 t40.1.Case.Store.Facts y43.2.1.1 y43.2.1.2, SlRes 85 t40.1.Case.Series.Points y43.2.2.1.1 y43.2.2.1.2, SlRes 191 t40.1.Case.Member.Spells y43.2.2.2.1.1 y43.2.2.2.1.2, SlRes 195 t40.1.Case.Member.Events y43.2.2.2.2.1.1 y43.2.2.2.2.1.2, SlRes 3 t40.1.Paid y43.2.2.2.2.2.1 y43.2.2.2.2.2.2, SlRes 188 t32.1.Case.Book.Rules y35.1.1 y35.1.2, SlRes 84 t32.1.Case.Store.Facts y35.2.1.1 y35.2.1.2, SlRes 85 t32.1.Case.Series.Points y35.2.2.1.1 y35.2.2.1.2, SlRes 191 t32.1.Case.Member.Spells y35.2.2.2.1.1 y35.2.2.2.1.2, SlRes 195 t32.1.Case.Member.Events y35.2.2.2.2.1.1 y35.2.2.2.2.1.2, SlRes 3 t32.1.Paid y35.2.2.2.2.2.1 y35.2.2.2.2.2.2, SlRes 188 t69.2.1 y39.1.1 y39.1.2, SlRes 84 t69.2.2.1 y39.2.1.1 y39.2.1.2, SlRes 85 t69.2.2.2.1 y39.2.2.1.1 y39.2.2.1.2, SlRes 191 t69.2.2.2.2.1 y39.2.2.2.1.1 y39.2.2.2.1.2, SlRes 195 t69.2.2.2.2.2 y39.2.2.2.2.1 y39.2.2.2.2.2]) [11, 11, 11, 11, 11, 11, 0, 0, 0, 0, 0, 0, 0, 0, 0, 0, 0] (by kernel_rfl) ?_
 obtain ⟨t109, h110, h111⟩ := bS h108
 obtain ⟨u113, hu114, h115⟩ := bS h111
 have hl116 := (sameLen_some hu114).symm
 obtain ⟨u117, hu118, h119⟩ := bS h115
 have hl120 := (sameLen_some hu118).symm
 obtain ⟨u121, hu122, h123⟩ := bS h119
 have hl124 := (sameLen_some hu122).symm
 obtain ⟨u125, hu126, h127⟩ := bS h123
 have hl128 := (sameLen_some hu126).symm
 obtain ⟨u129, hu130, h131⟩ := bS h127
 have hl132 := (sameLen_some hu130).symm
 obtain ⟨u133, hu134, h135⟩ := bS h131
 have hl136 := (sameLen_some hu134).symm
 refine JO_callM rfl (by kernel_rfl) (f := 25) (args := #[vOffice t40.1 y43, .int .i64 1]) (by kernel_rfl) (x := .int .i64 t109.1) (Rin := [SlRes 188 t40.1.Case.Book.Rules y43.1.1 y43.1.2, SlRes 84 t40.1.Case.Store.Facts y43.2.1.1 y43.2.1.2, SlRes 85 t40.1.Case.Series.Points y43.2.2.1.1 y43.2.2.1.2, SlRes 191 t40.1.Case.Member.Spells y43.2.2.2.1.1 y43.2.2.2.1.2, SlRes 195 t40.1.Case.Member.Events y43.2.2.2.2.1.1 y43.2.2.2.2.1.2, SlRes 3 t40.1.Paid y43.2.2.2.2.2.1 y43.2.2.2.2.2.2]) (Rout := [SlRes 188 t109.2.1 y43.1.1 y43.1.2, SlRes 84 t109.2.2.1 y43.2.1.1 y43.2.1.2, SlRes 85 t109.2.2.2.1 y43.2.2.1.1 y43.2.2.1.2, SlRes 191 t109.2.2.2.2.1 y43.2.2.2.1.1 y43.2.2.2.1.2, SlRes 195 t109.2.2.2.2.2.1 y43.2.2.2.2.1.1 y43.2.2.2.2.1.2, SlRes 3 t109.2.2.2.2.2.2 y43.2.2.2.2.2.1 y43.2.2.2.2.2.2]) (Rr := [SlRes 188 t32.1.Case.Book.Rules y35.1.1 y35.1.2, SlRes 84 t32.1.Case.Store.Facts y35.2.1.1 y35.2.1.2, SlRes 85 t32.1.Case.Series.Points y35.2.2.1.1 y35.2.2.1.2, SlRes 191 t32.1.Case.Member.Spells y35.2.2.2.1.1 y35.2.2.2.1.2, SlRes 195 t32.1.Case.Member.Events y35.2.2.2.2.1.1 y35.2.2.2.2.1.2, SlRes 3 t32.1.Paid y35.2.2.2.2.2.1 y35.2.2.2.2.2.2, SlRes 188 t69.2.1 y39.1.1 y39.1.2, SlRes 84 t69.2.2.1 y39.2.1.1 y39.2.1.2, SlRes 85 t69.2.2.2.1 y39.2.2.1.1 y39.2.2.1.2, SlRes 191 t69.2.2.2.2.1 y39.2.2.2.1.1 y39.2.2.2.1.2, SlRes 195 t69.2.2.2.2.2 y39.2.2.2.2.1 y39.2.2.2.2.2]) rfl (fun w => (by have vv := c_laws_markOffice (e0_0 := 188) (a0_0 := y43.1.1) (c0_0 := y43.1.2) (e0_1 := 84) (a0_1 := y43.2.1.1) (c0_1 := y43.2.1.2) (e0_2 := 85) (a0_2 := y43.2.2.1.1) (c0_2 := y43.2.2.1.2) (e0_3 := 191) (a0_3 := y43.2.2.2.1.1) (c0_3 := y43.2.2.2.1.2) (e0_4 := 195) (a0_4 := y43.2.2.2.2.1.1) (c0_4 := y43.2.2.2.2.1.2) (e0_5 := 3) (a0_5 := y43.2.2.2.2.2.1) (c0_5 := y43.2.2.2.2.2.2) (W := w) h110; exact vv)) (sl' := [(68, vi t109.1), (67, vi 1), (66, .v (vOffice t40.1 y43)), (1, vi x1), (2, .p 0 0), (6, .p 1 0), (7, vb t32.2), (9, .p 3 0)]) (by kernel_rfl) ?_
 refine JO_eqE (sl' := [(68, vi t109.1), (67, vi 1), (66, .v (vOffice (Office.mk (Case.mk (Book.mk t109.2.1) (Store.mk t109.2.2.1) (Series.mk t109.2.2.2.1) (Member.mk t40.1.Case.Member.Birth t40.1.Case.Member.Joined t109.2.2.2.2.1 t109.2.2.2.2.2.1)) t40.1.Start t109.2.2.2.2.2.2) y43)), (1, vi x1), (2, .p 0 0), (6, .p 1 0), (7, vb t32.2), (9, .p 3 0)]) (bx' := [(36, (eCase x0 b0)), (57, (eOffice t32.1 y35)), (54, (eCase (Case.mk (Book.mk t69.2.1) (Store.mk t69.2.2.1) (Series.mk t69.2.2.2.1) (Member.mk t36.Member.Birth t36.Member.Joined t69.2.2.2.2.1 t69.2.2.2.2.2)) y39)), (57, (eOffice (Office.mk (Case.mk (Book.mk t109.2.1) (Store.mk t109.2.2.1) (Series.mk t109.2.2.2.1) (Member.mk t40.1.Case.Member.Birth t40.1.Case.Member.Joined t109.2.2.2.2.1 t109.2.2.2.2.2.1)) t40.1.Start t109.2.2.2.2.2.2) y43))]) (by simp only [eOffice, vOffice, hl116, hl120, hl124, hl128, hl132, hl136]) (by simp only [eCase, eOffice, vCase, vOffice, hl116, hl120, hl124, hl128, hl132, hl136]) ?_
 refine oN 1 [(12, vi t109.1)] [1, 2, 6, 7, 9] ?_
 refine oe (nt (qs (qr (oN 1 [(13, vi 1)] [12, 1, 2, 6, 7, 9] ?_))))
 refine oe (nt (qs (qr (oN 2 [(70, vi 1), (69, .v (vOffice (Office.mk (Case.mk (Book.mk t109.2.1) (Store.mk t109.2.2.1) (Series.mk t109.2.2.2.1) (Member.mk t40.1.Case.Member.Birth t40.1.Case.Member.Joined t109.2.2.2.2.1 t109.2.2.2.2.2.1)) t40.1.Start t109.2.2.2.2.2.2) y43))] [12, 1, 2, 6, 7, 9] ?_))))
 obtain ⟨t137, h138, h139⟩ := bS h135
 refine k0 (fun γ w hs => c_laws_heldOffice (b0 := y43) h138 (hs.view 0 rfl) (hs.view 1 rfl) (hs.view 2 rfl) (hs.view 3 rfl) (hs.view 4 rfl) (hs.view 5 rfl)) ?_
 refine oN 1 [(13, vi t137)] [12, 1, 2, 6, 7, 9] ?_
 refine oe (nt (qs (qs (qr (oN 2 [(73, vb (decide (t137 < 0)))] [13, 12, 1, 2, 6, 7, 9] ?_)))))
 refine oe (nt (cC h139 (fun h142 => ?_) (fun h143 => ?_)))
 · refine qs (qr (oN 1 [(4, vb false)] [] ?_))
   refine oe (nt (qe (nr ?_)))
   obtain rfl := sI h142
   exact re [.bool false]
 refine qk (nt (qs (qs (qr (oN 3 [(76, vb (t137 != t109.1))] [12, 1, 2, 6, 7, 9] ?_)))))
 refine oe (nt (cC h143 (fun h145 => ?_) (fun h146 => ?_)))
 · refine qs (qr (oN 1 [(4, vb false)] [] ?_))
   refine oe (nt (qe (nr ?_)))
   obtain rfl := sI h145
   exact re [.bool false]
 refine qk (nt (qs (qr (oN 1 [(78, .v (vCase x0 b0))] [12, 1, 6, 7, 9] ?_))))
 obtain ⟨t147, h148, h149⟩ := bS h146
 refine k1 (fun γ w hs => c_laws_toCase (b0 := b0) h148 (hv0_0.kept hs.kept) (hv0_1.kept hs.kept) (hv0_2.kept hs.kept) (hv0_3.kept hs.kept) (hv0_4.kept hs.kept)) (fun y150 => ?_)
 refine oN 1 [(80, vi x1)] [79, 12, 6, 7, 9] ?_
 obtain ⟨t151, h152, h153⟩ := bS h149
 refine k1 (fun γ w hs => c_impl_OfficeNew (b0 := y150) h152 (hs.view 0 rfl) (hs.view 1 rfl) (hs.view 2 rfl) (hs.view 3 rfl) (hs.view 4 rfl)) (fun y154 => ?_)
 refine oB 6 [(15, vb t151.2), (14, .p 4 0)] [12, 6, 7, 9] [(36, (eCase x0 b0)), (57, (eOffice t32.1 y35)), (54, (eCase (Case.mk (Book.mk t69.2.1) (Store.mk t69.2.2.1) (Series.mk t69.2.2.2.1) (Member.mk t36.Member.Birth t36.Member.Joined t69.2.2.2.2.1 t69.2.2.2.2.2)) y39)), (57, (eOffice (Office.mk (Case.mk (Book.mk t109.2.1) (Store.mk t109.2.2.1) (Series.mk t109.2.2.2.1) (Member.mk t40.1.Case.Member.Birth t40.1.Case.Member.Joined t109.2.2.2.2.1 t109.2.2.2.2.2.1)) t40.1.Start t109.2.2.2.2.2.2) y43)), (57, (eOffice t151.1 y154))] ?_
 refine oe (nt (qs (qs ?_)))
 obtain ⟨p155, hE156, h157⟩ := bS h153
 refine JC_cut (τ := Unit) (fun _ => [(9, .p 3 0), (12, vi t109.1), (92, vb p155)]) (fun _ => [(36, (eCase x0 b0)), (57, (eOffice t32.1 y35)), (54, (eCase (Case.mk (Book.mk t69.2.1) (Store.mk t69.2.2.1) (Series.mk t69.2.2.2.1) (Member.mk t36.Member.Birth t36.Member.Joined t69.2.2.2.2.1 t69.2.2.2.2.2)) y39)), (57, (eOffice (Office.mk (Case.mk (Book.mk t109.2.1) (Store.mk t109.2.2.1) (Series.mk t109.2.2.2.1) (Member.mk t40.1.Case.Member.Birth t40.1.Case.Member.Joined t109.2.2.2.2.1 t109.2.2.2.2.2.1)) t40.1.Start t109.2.2.2.2.2.2) y43)), (57, (eOffice t151.1 y154))]) (fun _ => [SlRes 188 t32.1.Case.Book.Rules y35.1.1 y35.1.2, SlRes 84 t32.1.Case.Store.Facts y35.2.1.1 y35.2.1.2, SlRes 85 t32.1.Case.Series.Points y35.2.2.1.1 y35.2.2.1.2, SlRes 191 t32.1.Case.Member.Spells y35.2.2.2.1.1 y35.2.2.2.1.2, SlRes 195 t32.1.Case.Member.Events y35.2.2.2.2.1.1 y35.2.2.2.2.1.2, SlRes 3 t32.1.Paid y35.2.2.2.2.2.1 y35.2.2.2.2.2.2, SlRes 188 t69.2.1 y39.1.1 y39.1.2, SlRes 84 t69.2.2.1 y39.2.1.1 y39.2.1.2, SlRes 85 t69.2.2.2.1 y39.2.2.1.1 y39.2.2.1.2, SlRes 191 t69.2.2.2.2.1 y39.2.2.2.1.1 y39.2.2.2.1.2, SlRes 195 t69.2.2.2.2.2 y39.2.2.2.2.1 y39.2.2.2.2.2, SlRes 188 t109.2.1 y43.1.1 y43.1.2, SlRes 84 t109.2.2.1 y43.2.1.1 y43.2.1.2, SlRes 85 t109.2.2.2.1 y43.2.2.1.1 y43.2.2.1.2, SlRes 191 t109.2.2.2.2.1 y43.2.2.2.1.1 y43.2.2.2.1.2, SlRes 195 t109.2.2.2.2.2.1 y43.2.2.2.2.1.1 y43.2.2.2.2.1.2, SlRes 3 t109.2.2.2.2.2.2 y43.2.2.2.2.2.1 y43.2.2.2.2.2.2, SlRes 188 t151.1.Case.Book.Rules y154.1.1 y154.1.2, SlRes 84 t151.1.Case.Store.Facts y154.2.1.1 y154.2.1.2, SlRes 85 t151.1.Case.Series.Points y154.2.2.1.1 y154.2.2.1.2, SlRes 191 t151.1.Case.Member.Spells y154.2.2.2.1.1 y154.2.2.2.1.2, SlRes 195 t151.1.Case.Member.Events y154.2.2.2.2.1.1 y154.2.2.2.2.1.2, SlRes 3 t151.1.Paid y154.2.2.2.2.2.1 y154.2.2.2.2.2.2]) ?_ (fun _ => ?_)
 · refine qr (oN 2 [(85, .v (vOffice t32.1 y35)), (84, .v (vOffice t151.1 y154))] [15, 12, 7, 9] ?_)
   obtain ⟨t158, h159, h160⟩ := bS hE156
   refine k0 (fun γ w hs => c_laws_eqOffice (b0 := y154) (b1 := y35) h159 (hs.view 0 rfl) (hs.view 1 rfl) (hs.view 2 rfl) (hs.view 3 rfl) (hs.view 4 rfl) (hs.view 5 rfl) (hs.view 17 rfl) (hs.view 18 rfl) (hs.view 19 rfl) (hs.view 20 rfl) (hs.view 21 rfl) (hs.view 22 rfl)) ?_
   refine oN 2 [(88, vb (!t158))] [15, 12, 7, 9] ?_
   refine oS 88 h160 (fun h163 => ?_) (fun h164 => ?_)
   · refine oN 4 [(92, vb true)] [12, 9] ?_
     refine oe ?_
     obtain rfl := sI h163
     exact mt () [9, 12, 92] [17, 17, 17, 17, 17, 17, 17, 17, 17, 17, 17, 11, 11, 11, 11, 11, 11, 0, 0, 0, 0, 0, 0] 5
   refine oN 4 [(92, vb (!(t151.2 == t32.2)))] [12, 9] ?_
   refine oe ?_
   obtain rfl := sI h164
   exact mt () [9, 12, 92] [17, 17, 17, 17, 17, 17, 17, 17, 17, 17, 17, 11, 11, 11, 11, 11, 11, 0, 0, 0, 0, 0, 0] 5
 refine nt (cC h157 (fun h166 => ?_) (fun h167 => ?_))
 · refine qs (qr (oN 1 [(4, vb false)] [] ?_))
   refine oe (nt (qe (nr ?_)))
   obtain rfl := sI h166
   exact re [.bool false]
 refine qk (nt (qs (qr (oN 1 [(13, vi 1)] [9, 12] ?_))))
 refine oe (nt (qs (qr (oN 2 [(94, vi 1), (93, .v (vOffice (Office.mk (Case.mk (Book.mk t109.2.1) (Store.mk t109.2.2.1) (Series.mk t109.2.2.2.1) (Member.mk t40.1.Case.Member.Birth t40.1.Case.Member.Joined t109.2.2.2.2.1 t109.2.2.2.2.2.1)) t40.1.Start t109.2.2.2.2.2.2) y43))] [12] ?_))))
 obtain ⟨t168, h169, h170⟩ := bS h167
 refine k0 (fun γ w hs => c_laws_heldOffice (b0 := y43) h169 (hs.view 11 rfl) (hs.view 12 rfl) (hs.view 13 rfl) (hs.view 14 rfl) (hs.view 15 rfl) (hs.view 16 rfl)) ?_
 refine oN 1 [(13, vi t168)] [12] ?_
 refine oe (nt (qs (qs (qr (oN 2 [(97, vb (decide (t168 < 0)))] [13, 12] ?_)))))
 refine oe (nt (cC h170 (fun h173 => ?_) (fun h174 => ?_)))
 · refine qs (qr (oN 1 [(4, vb false)] [] ?_))
   refine oe (nt (qe (nr ?_)))
   obtain rfl := sI h173
   exact re [.bool false]
 refine qk (nt (qs (qs (qr (oN 3 [(100, vb (t168 != t109.1))] [] ?_)))))
 refine oe (nt (cC h174 (fun h176 => ?_) (fun h177 => ?_)))
 · refine qs (qr (oN 1 [(4, vb false)] [] ?_))
   refine oe (nt (qe (nr ?_)))
   obtain rfl := sI h176
   exact re [.bool false]
 refine qk (nt (qs (qr (oN 1 [(4, vb true)] [] ?_))))
 refine oe (nt (qe ?_))
 obtain rfl := sI h177
 exact re [.bool true]
end Go.Pen
