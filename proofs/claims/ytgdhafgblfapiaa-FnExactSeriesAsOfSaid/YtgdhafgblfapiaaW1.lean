/-
  Each Go function does what its plain function says: written by a program of ours.
-/
import Derived.Test.YtgdhafgblfapiaaF
import Derived.Test.YtgdhafgblfapiaaProg
import Derived.Test.YtgdhafgblfapiaaPenK
import Derived.Test.YtgdhafgblfapiaaPenJ
namespace Go.Pen
open Go.Proofs Go.RowKit
set_option linter.unusedVariables false
set_option linter.unusedSimpArgs false
set_option maxRecDepth 100000
set_option maxHeartbeats 4000000

theorem c_laws_szPointS {W : World} {x0 : List Point} {a0_0 : Option Addr} {c0_0 : Nat} {x1 : Int} {r : Int} (h : laws_szPointS x0 x1 = some r) (hv0_0 : SlView W x0 a0_0 c0_0) :
    Gives0 Try.prog 46 #[.slice a0_0 x0.length c0_0, .int .i64 x1] W (.int .i64 r) := by
 unfold laws_szPointS at h
 refine en Try.func46 Try.ntmps46 ?_
 refine qs (qr (oN 1 [] [0, 1] ?_))
 refine oe (nt (qs (qr (oN 5 [(1, vi (w64 (x1 - (x0.length : Int))))] [] ?_))))
 refine oe (nt (qs (qs (qr (oN 2 [(10, vb (decide ((w64 (x1 - (x0.length : Int))) < 0)))] [1] ?_)))))
 refine oe (nt (cC h (fun h22 => ?_) (fun h23 => ?_)))
 · refine qs (qr (oN 1 [(4, vi (-1))] [] ?_))
   refine oe (nt (qe (nr ?_)))
   obtain rfl := sI h22
   exact re [.int .i64 (-1)]
 refine qk (nt (qs (qr (oN 2 [(4, vi (w64 (x1 - (x0.length : Int))))] [] ?_))))
 refine oe (nt (qe ?_))
 obtain rfl := sI h23
 exact re [.int .i64 (w64 (x1 - (x0.length : Int)))]

theorem c_laws_szSeries {W : World} {x0 : Series} {a0_0 : Option Addr} {c0_0 : Nat} {x1 : Int} {r : Int} (h : laws_szSeries x0 x1 = some r) (hv0_0 : SlView W x0.Points a0_0 c0_0) :
    Gives0 Try.prog 21 #[vSeries x0 (a0_0, c0_0), .int .i64 x1] W (.int .i64 r) := by
 unfold laws_szSeries at h
 refine en Try.func21 Try.ntmps21 ?_
 refine qs (qr (oB 2 [(2, .p 0 0)] [1] [(32, (eSeries x0 (a0_0, c0_0)))] ?_))
 refine oe (nt (qs (qr (oN 3 [(7, vi x1), (6, .v (.slice a0_0 x0.Points.length c0_0))] [] ?_))))
 obtain ⟨t21, h22, h23⟩ := bS h
 refine k0 (fun γ w hs => c_laws_szPointS h22 (hv0_0.kept hs.kept)) ?_
 refine oN 1 [(1, vi t21)] [] ?_
 refine oe (nt (qs (qs (qr (oN 2 [(10, vb (decide (t21 < 0)))] [1] ?_)))))
 refine oe (nt (cC h23 (fun h26 => ?_) (fun h27 => ?_)))
 · refine qs (qr (oN 1 [(4, vi (-1))] [] ?_))
   refine oe (nt (qe (nr ?_)))
   obtain rfl := sI h26
   exact re [.int .i64 (-1)]
 refine qk (nt (qs (qr (oN 2 [(4, vi t21)] [] ?_))))
 refine oe (nt (qe ?_))
 obtain rfl := sI h27
 exact re [.int .i64 t21]

theorem c_laws_toPoint {W : World} {x0 : Point} {r : Point} (h : laws_toPoint x0 = some r)  :
    Gives0 Try.prog 69 #[vPoint x0] W (vPoint r) := by
 unfold laws_toPoint at h
 refine en Try.func69 Try.ntmps69 ?_
 refine qs (qr (oB 2 [(2, .p 1 0), (1, .p 0 0)] [] [(80, (ePoint x0)), (63, (ePoint (Point.mk 0 0 0)))] ?_))
 refine oe (nt (qs (qr (oB 1 [(3, .p 2 0)] [2, 1] [(80, (ePoint x0)), (63, (ePoint (Point.mk 0 0 0))), (63, (ePoint (Point.mk 0 0 0)))] ?_))))
 refine oe (nt (qs (qr (oB 4 [] [3, 2, 1] [(80, (ePoint x0)), (63, (ePoint (Point.mk 0 0 0))), (63, (ePoint (Point.mk x0.Month 0 0)))] ?_))))
 refine oe (nt (qs (qr (oB 4 [] [3, 2, 1] [(80, (ePoint x0)), (63, (ePoint (Point.mk 0 0 0))), (63, (ePoint (Point.mk x0.Month x0.Known 0)))] ?_))))
 refine oe (nt (qs (qr (oB 4 [] [3, 2] [(80, (ePoint x0)), (63, (ePoint (Point.mk 0 0 0))), (63, (ePoint x0))] ?_))))
 refine oe (nt (qs (qr (oB 2 [] [2] [(80, (ePoint x0)), (63, (ePoint x0)), (63, (ePoint x0))] ?_))))
 refine oe (nt (qe ?_))
 obtain rfl := sI h
 exact re [vPoint x0]

theorem c_laws_toPointS {W : World} {x0 : List Point} {a0_0 : Option Addr} {c0_0 : Nat} {r : (List Point)} (h : laws_toPointS x0 = some r) (hv0_0 : SlView W x0 a0_0 c0_0) :
    Gives Try.prog 47 #[.slice a0_0 x0.length c0_0] W (fun y : AC => .slice y.1 r.length y.2) (fun y => [SlRes 63 r y.1 y.2]) := by
 unfold laws_toPointS at h
 refine en Try.func47 Try.ntmps47 ?_
 refine qs (qr (oN 1 [] [0] ?_))
 refine oe (nt (qs (qr (oN 2 [(6, vi (x0.length : Int))] [0] ?_))))
 obtain ⟨l22, hm23, h24⟩ := bS h
 refine JO_make (α := Point) rfl (by kernel_rfl) (t := 34) (e := 63) (m := (x0.length : Int)) (by kernel_rfl) (i := Try.t63) (by kernel_rfl) (z := (vPoint (Point.mk 0 0 0))) (by kernel_rfl) (by kernel_rfl) (by kernel_rfl) (by kernel_rfl) (fun w => ⟨rfl, rfl⟩) hm23 _ (fun _ => rfl) (fun y21 => ?_)
 refine oN 1 [(3, .v (.slice y21.1 l22.length y21.2))] [0] ?_
 refine oe (nt (qs (qs (qr (oN 1 [(4, vi 0)] [3, 0] ?_)))))
 refine oe (nt ?_)
 obtain ⟨r28, hL29, h30⟩ := bS h24
 obtain ⟨k31, hk32, h30⟩ := brkS h30
 refine JC_cutP (τ := ((List Point)) × (Unit)) (fun y => k31 y.1 = some r) (fun y36 => [(3, .v (.slice y21.1 y36.1.length y21.2))]) (fun y36 => []) (fun y36 => [SlRes 63 y36.1 y21.1 y21.2]) ?_ (fun y36 h37p => ?_)
 · refine qb (lp Unit hL29 (fun s25 y26 => [(4, vi s25.1), (3, .v (.slice y21.1 s25.2.length y21.2)), (0, .v (.slice a0_0 x0.length c0_0))]) (fun s25 y26 => []) (fun s25 y26 => [SlRes 63 s25.2 y21.1 y21.2]) () [4, 3, 0] [0] 0 (fun s25 y26 t27 h33 hd34 => ?_))
   refine qs (qs (qr (oN 4 [(11, vb (decide (s25.1 < (x0.length : Int))))] [4, 3, 0] ?_)))
   refine oe (nt (cC h33 (fun h39 => ?_) (fun h40 => ?_)))
   · refine qk (nt (qs (qb (qr (oN 4 [(17, vi s25.1), (16, .v (.slice a0_0 x0.length c0_0)), (15, vi s25.1), (14, .v (.slice y21.1 s25.2.length y21.2))] [4, 3, 0] ?_)))))
     obtain ⟨x41, hx42, h43⟩ := bS h39
     refine oi 3 (fun γ w hs => (hv0_0.kept hs.kept)) hx42 ?_
     refine ol 80 0 (vPoint x41) (fun γ w hs => (hv0_0.kept hs.kept).flatq hx42) ?_
     obtain ⟨t44, h45, h46⟩ := bS h43
     refine k0 (fun γ w hs => c_laws_toPoint h45) ?_
     obtain ⟨x48, hx49, h50⟩ := bS h46
     refine oi 3 (fun γ w hs => (hs.view 0 rfl)) hx49 ?_
     obtain ⟨l51, hm52, h53⟩ := bS h50
     replace hm52 := (sI hm52).symm
     refine JO_storeq (α := Point) (d := y21.1) (vs := [.int .i64 t44.Month, .int .i64 t44.Known, .int .i64 t44.Value]) (j := s25.1) (x' := t44) rfl (by kernel_rfl) 0 (by kernel_rfl) hx49 (Rc := []) (Rr := []) rfl (by kernel_rfl) (fun w c F Fs ho _ _ => own_flat_set (by kernel_rfl) ho) hm52 rfl ?_
     have hl54 := len_set hm52
     refine JO_keep [20, 19, 18, 17, 16, 15, 14, 4, 3, 0] (sl' := [(20, .v (vPoint t44)), (19, .v (vPoint x41)), (18, .q a0_0 (Int.toNat s25.1 * 3)), (17, vi s25.1), (16, .v (.slice a0_0 x0.length c0_0)), (15, vi s25.1), (14, .v (.slice y21.1 s25.2.length y21.2)), (4, vi s25.1), (3, .v (.slice y21.1 s25.2.length y21.2)), (0, .v (.slice a0_0 x0.length c0_0))]) (by kernel_rfl) ?_
     refine JO_eqE (sl' := [(20, .v (vPoint t44)), (19, .v (vPoint x41)), (18, .q a0_0 (Int.toNat s25.1 * 3)), (17, vi s25.1), (16, .v (.slice a0_0 x0.length c0_0)), (15, vi s25.1), (14, .v (.slice y21.1 l51.length y21.2)), (4, vi s25.1), (3, .v (.slice y21.1 l51.length y21.2)), (0, .v (.slice a0_0 x0.length c0_0))]) (bx' := []) (by simp only [ePoint, vPoint, hl54]) rfl ?_
     refine oe (bn (nt (qr (oN 3 [(4, vi (w64 (s25.1 + 1)))] [3, 0] ?_))))
     exact oe (ct h53 () [4, 3, 0] [0] 0)
   refine qx (nx (nx (bh ?_)))
   have h55 := leafB hd34 h40 h30
   exact mp (s25.2, ()) h55 [3] [0] 0
 have h37 := (congrFun hk32 _).symm.trans h37p
 refine nt (qs (qr (oN 2 [(2, .v (.slice y21.1 y36.1.length y21.2))] [] ?_)))
 refine oe (nt (qe (rt [.slice y21.1 y36.1.length y21.2] (fun γ w hs => ?_))))
 rw [← sI h37]
 exact ⟨y21, rfl, hs.kept.toBelow, (hs.takeR (is := [0]) rfl).fresh⟩

theorem c_laws_toSeries {W : World} {x0 : Series} {a0_0 : Option Addr} {c0_0 : Nat} {r : Series} (h : laws_toSeries x0 = some r) (hv0_0 : SlView W x0.Points a0_0 c0_0) :
    Gives Try.prog 23 #[vSeries x0 (a0_0, c0_0)] W (fun y : AC => vSeries r y) (fun y => [SlRes 63 r.Points y.1 y.2]) := by
 unfold laws_toSeries at h
 refine en Try.func23 Try.ntmps23 ?_
 refine qs (qr (oB 2 [(2, .p 1 0), (1, .p 0 0)] [] [(32, (eSeries x0 (a0_0, c0_0))), (36, [.slice none 0 0])] ?_))
 refine oe (nt (qs (qr (oB 1 [(3, .p 2 0)] [2, 1] [(32, (eSeries x0 (a0_0, c0_0))), (36, [.slice none 0 0]), (36, [.slice none 0 0])] ?_))))
 refine oe (nt (qs (qr (oN 2 [(5, .v (.slice a0_0 x0.Points.length c0_0))] [3, 2] ?_))))
 obtain ⟨t21, h22, h23⟩ := bS h
 refine k1 (fun γ w hs => c_laws_toPointS h22 (hv0_0.kept hs.kept)) (fun y24 => ?_)
 refine oB 2 [] [3, 2] [(32, (eSeries x0 (a0_0, c0_0))), (36, [.slice none 0 0]), (36, (eSeries (Series.mk t21) y24))] ?_
 refine oe (nt (qs (qr (oB 2 [] [2] [(32, (eSeries x0 (a0_0, c0_0))), (36, (eSeries (Series.mk t21) y24)), (36, (eSeries (Series.mk t21) y24))] ?_))))
 refine oe (nt (qe (rt [vSeries (Series.mk t21) y24] (fun γ w hs => ?_))))
 rw [← sI h23]
 exact ⟨y24, rfl, hs.kept.toBelow, (hs.takeR (is := [0]) rfl).fresh⟩

theorem c_spec_SeriesAsOf {W : World} {x0 : Series} {a0_0 : Option Addr} {c0_0 : Nat} {x1 : Int} {r : Series} (h : spec_SeriesAsOf x0 x1 = some r) (hv0_0 : SlView W x0.Points a0_0 c0_0) :
    Gives Try.prog 22 #[vSeries x0 (a0_0, c0_0), .int .i64 x1] W (fun y : AC => vSeries r y) (fun y => [SlRes 63 r.Points y.1 y.2]) := by
 unfold spec_SeriesAsOf at h
 refine en Try.func22 Try.ntmps22 ?_
 refine qs (qr (oB 2 [(4, .p 1 0), (2, .p 0 0)] [1] [(36, (eSeries x0 (a0_0, c0_0))), (36, [.slice none 0 0])] ?_))
 refine oe (nt (qs (qr (oB 3 [(5, .p 2 0)] [4, 2, 1] [(36, (eSeries x0 (a0_0, c0_0))), (36, [.slice none 0 0]), (36, [.slice none 0 0])] ?_))))
 refine oe (nt (qs (qs (qr (oN 1 [(6, vi 0)] [5, 4, 2, 1] ?_)))))
 refine oe (nt (JC_addnil 63 (List.nil (α := Point)) rfl ?_))
 obtain ⟨r24, hL25, h26⟩ := bS h
 obtain ⟨k27, hk28, h26⟩ := brkS h26
 refine JC_cutP (τ := ((List Point)) × (AC)) (fun y => k27 y.1 = some r) (fun y32 => [(5, .p 2 0), (4, .p 1 0)]) (fun y32 => [(36, (eSeries x0 (a0_0, c0_0))), (36, [.slice none 0 0]), (36, (eSeries (Series.mk y32.1) y32.2))]) (fun y32 => [SlRes 63 y32.1 y32.2.1 y32.2.2]) ?_ (fun y32 h33p => ?_)
 · refine qb (lp AC hL25 (fun s21 y22 => [(6, vi s21.1), (5, .p 2 0), (4, .p 1 0), (2, .p 0 0), (1, vi x1)]) (fun s21 y22 => [(36, (eSeries x0 (a0_0, c0_0))), (36, [.slice none 0 0]), (36, (eSeries (Series.mk s21.2) y22))]) (fun s21 y22 => [SlRes 63 s21.2 y22.1 y22.2]) (none, 0) [6, 5, 4, 2, 1] [0] 3 (fun s21 y22 t23 h29 hd30 => ?_))
   refine qs (qs (qr (oN 5 [(12, vb (decide (s21.1 < (x0.Points.length : Int))))] [6, 5, 4, 2, 1] ?_)))
   refine oe (nt (cC h29 (fun h35 => ?_) (fun h36 => ?_)))
   · refine qk (nt (qs (qb (qs (qr (oN 3 [(17, vi s21.1), (16, .v (.slice a0_0 x0.Points.length c0_0))] [6, 5, 4, 2, 1] ?_))))))
     obtain ⟨x37, hx38, h39⟩ := bS h35
     refine oi 3 (fun γ w hs => (hv0_0.kept hs.kept)) hx38 ?_
     refine oN 1 [(19, .q a0_0 (Int.toNat s21.1 * 3 + 1))] [6, 5, 4, 2, 1] ?_
     refine ol 3 1 (.int .i64 x37.Known) (fun γ w hs => (hv0_0.kept hs.kept).flatq hx38) ?_
     refine oN 2 [(22, vb (decide (x37.Known ≤ x1)))] [6, 5, 4, 2, 1] ?_
     refine oe (nt ?_)
     obtain ⟨k52, hk53, h55⟩ := jS h39
     refine JC_cutP (τ := ((List Point)) × (AC)) (fun y => k52 y.1 = some t23) (fun y51 => [(6, vi s21.1), (5, .p 2 0), (4, .p 1 0), (2, .p 0 0), (1, vi x1)]) (fun y51 => [(36, (eSeries x0 (a0_0, c0_0))), (36, [.slice none 0 0]), (36, (eSeries (Series.mk y51.1) y51.2))]) (fun y51 => [SlRes 63 y51.1 y51.2.1 y51.2.2]) ?_ (fun y51 h54p => ?_)
     · refine cC h55 (fun h57 => ?_) (fun h58 => ?_)
       · obtain ⟨x59, hx60, h61⟩ := bS h57
         obtain ⟨l64, hm65, h66⟩ := bS h61
         refine JC_cut (τ := AC) (fun y67 => [(6, vi s21.1), (5, .p 2 0), (4, .p 1 0), (2, .p 0 0), (1, vi x1)]) (fun y67 => [(36, (eSeries x0 (a0_0, c0_0))), (36, [.slice none 0 0]), (36, (eSeries (Series.mk l64) y67))]) (fun y67 => [SlRes 63 l64 y67.1 y67.2]) ?_ (fun y67 => ?_)
         · refine jw [6, 5, 4, 2, 1] [0] ?_
           refine JC_heldN (ks := [0, 1]) (Rk := []) 11 (by kernel_rfl) (by kernel_rfl) ?_
           refine htq 0 (.p 2 0) [] ?_
           refine htq 2 (.p 0 0) [] ?_
           refine htq 3 (.v (.slice a0_0 x0.Points.length c0_0)) [] ?_
           refine hk [26, 23, 6, 5, 4, 2, 1] ?_
           refine htq 4 (vi s21.1) [] ?_
           refine ht 5 (.q a0_0 (Int.toNat s21.1 * 3)) [] (index_held (d := a0_0) (m := x0.Points.length) (j := s21.1) (s := 3) (by kernel_rfl) (fun γ0 w hs => (hv0_0.kept hs.kept)) rfl hx60) ?_
           refine hk [28, 23, 6, 5, 4, 2, 1] ?_
           refine ht 6 (.v (vPoint x59)) [] (loadq_held (t := 63) (d := a0_0) (Int.toNat s21.1 * 3) 0 (by kernel_rfl) (cs := (ePoint x59)) (v := vPoint x59) (fun γ0 w hs => (hv0_0.kept hs.kept).flatq hx60) (by kernel_rfl)) ?_
           refine hk [29, 23, 6, 5, 4, 2, 1] ?_
           refine ha2 1 7 ?_ ?_
           · refine hi (fun γ0 δ hm => ?_)
             refine gs [(24, .v (.slice y22.1 s21.2.length y22.2)), (29, .v (vPoint x59)), (23, .p 2 0), (6, vi s21.1), (5, .p 2 0), (4, .p 1 0), (2, .p 0 0), (1, vi x1)] [(36, (eSeries x0 (a0_0, c0_0))), (36, [.slice none 0 0]), (36, (eSeries (Series.mk s21.2) y22))] (fun δ2 => ?_)
             refine gd hm [24, 29, 6, 5, 4, 2, 1] [] ?_
             refine ha1 7 ?_
             refine hi (fun γ0 δ hm => ?_)
             refine gb [] [SlRes 63 s21.2 y22.1 y22.2] 63 1 [.int .i64 x59.Month, .int .i64 x59.Known, .int .i64 x59.Value] ([x59] : List Point) (own_flat (by kernel_rfl)) (fun y62 => ?_)
             refine gn hm [30, 24, 6, 5, 4, 2, 1] [] ?_
             refine ha1 8 ?_
             refine hr_ [1, 0] ?_
             refine hi (fun γ0 δ hm => ?_)
             refine ga 34 y62.2 Try.t63 (vPoint (Point.mk 0 0 0)) (fun w hs => ⟨y62.2, (hs.view 1 rfl)⟩) hm65 (fun y63 => ?_)
             refine gn hm [31, 6, 5, 4, 2, 1] [] ?_
             refine htq 9 (.p 2 0) [] ?_
             refine ha1 10 ?_
             refine hi (fun γ0 δ hm => ?_)
             refine gs [(32, .p 2 0), (31, .v (.slice y63.1 l64.length y63.2)), (6, vi s21.1), (5, .p 2 0), (4, .p 1 0), (2, .p 0 0), (1, vi x1)] [(36, (eSeries x0 (a0_0, c0_0))), (36, [.slice none 0 0]), (36, (eSeries (Series.mk l64) y63))] (fun δ2 => ?_)
             refine gd hm [6, 5, 4, 2, 1] [] ?_
             exact hd y63 [6, 5, 4, 2, 1] [0] 3
           · refine hi (fun γ0 δ hm => ?_)
             refine gb [] [SlRes 63 s21.2 y22.1 y22.2] 63 1 [.int .i64 x59.Month, .int .i64 x59.Known, .int .i64 x59.Value] ([x59] : List Point) (own_flat (by kernel_rfl)) (fun y62 => ?_)
             refine gn hm [30, 23, 6, 5, 4, 2, 1] [] ?_
             refine ha1 1 ?_
             refine hi (fun γ0 δ hm => ?_)
             refine gs [(24, .v (.slice y22.1 s21.2.length y22.2)), (30, .v (.slice y62.1 ([x59] : List Point).length y62.2)), (23, .p 2 0), (6, vi s21.1), (5, .p 2 0), (4, .p 1 0), (2, .p 0 0), (1, vi x1)] [(36, (eSeries x0 (a0_0, c0_0))), (36, [.slice none 0 0]), (36, (eSeries (Series.mk s21.2) y22))] (fun δ2 => ?_)
             refine gd hm [24, 30, 6, 5, 4, 2, 1] [] ?_
             refine ha1 8 ?_
             refine hr_ [1, 0] ?_
             refine hi (fun γ0 δ hm => ?_)
             refine ga 34 y62.2 Try.t63 (vPoint (Point.mk 0 0 0)) (fun w hs => ⟨y62.2, (hs.view 1 rfl)⟩) hm65 (fun y63 => ?_)
             refine gn hm [31, 6, 5, 4, 2, 1] [] ?_
             refine htq 9 (.p 2 0) [] ?_
             refine ha1 10 ?_
             refine hi (fun γ0 δ hm => ?_)
             refine gs [(32, .p 2 0), (31, .v (.slice y63.1 l64.length y63.2)), (6, vi s21.1), (5, .p 2 0), (4, .p 1 0), (2, .p 0 0), (1, vi x1)] [(36, (eSeries x0 (a0_0, c0_0))), (36, [.slice none 0 0]), (36, (eSeries (Series.mk l64) y63))] (fun δ2 => ?_)
             refine gd hm [6, 5, 4, 2, 1] [] ?_
             exact hd y63 [6, 5, 4, 2, 1] [0] 3
         exact mp (l64, (y67.1, y67.2)) h66 [6, 5, 4, 2, 1] [0] 3
       exact qk (mp (s21.2, (y22.1, y22.2)) h58 [6, 5, 4, 2, 1] [0] 3)
     have h54 := (congrFun hk53 _).symm.trans h54p
     refine bn (nt (qr (oN 3 [(6, vi (w64 (s21.1 + 1)))] [5, 4, 2, 1] ?_)))
     exact oe (ct h54 (y51.2.1, y51.2.2) [6, 5, 4, 2, 1] [0] 3)
   refine qx (nx (nx (bh ?_)))
   have h68 := leafB hd30 h36 h26
   exact mp (s21.2, (y22.1, y22.2)) h68 [5, 4] [0] 3
 have h33 := (congrFun hk28 _).symm.trans h33p
 refine nt (qs (qr (oB 2 [] [4] [(36, (eSeries x0 (a0_0, c0_0))), (36, (eSeries (Series.mk y32.1) y32.2)), (36, (eSeries (Series.mk y32.1) y32.2))] ?_)))
 refine oe (nt (qe (rt [vSeries (Series.mk y32.1) y32.2] (fun γ w hs => ?_))))
 rw [← sI h33]
 exact ⟨y32.2, rfl, hs.kept.toBelow, (hs.takeR (is := [0]) rfl).fresh⟩

theorem c_slices_Clone_Point {W : World} {x0 : List Point} {a0_0 : Option Addr} {c0_0 : Nat} {r : (List Point)} (h : slices_Clone_Point x0 = some r) (hv0_0 : SlView W x0 a0_0 c0_0) :
    Gives Try.prog 49 #[.slice a0_0 x0.length c0_0] W (fun y : AC => .slice y.1 r.length y.2) (fun y => [SlRes 63 r y.1 y.2]) := by
 unfold slices_Clone_Point at h
 refine en Try.func49 Try.ntmps49 ?_
 refine qs (qr (oN 1 [] [0] ?_))
 refine oe (nt (qs (qs (qr (oN 1 [(3, .v (.slice a0_0 x0.length c0_0))] [0] ?_)))))
 rcases a0_0 with _ | d21
 · obtain rfl := hv0_0.nil rfl
   obtain rfl := hv0_0.nilE
   have h22 : (some ([] : List Point)) = some r := h
   refine oN 1 [(4, vb true)] [0] ?_
   refine oe (nt (JC_cond true (by kernel_rfl) (fun _ => ?_) (fun hb => by cases hb)))
   refine qs (qr (oN 1 [(2, .v (.slice none 0 0))] [] ?_))
   refine oe (nt (qe (nr (JE_addnil 63 (List.nil (α := Point)) rfl ?_))))
   refine rt [.slice none 0 0] (fun γ w hs => ?_)
   rw [← sI h22]
   exact ⟨(none, 0), rfl, hs.kept.toBelow, (hs.takeR (is := [0]) rfl).fresh⟩
 refine oN 1 [(4, vb false)] [0] ?_
 refine oe (nt (JC_cond false (by kernel_rfl) (fun hb => by cases hb) (fun _ => ?_)))
 refine qk (nt (qs (qr (ob [] [] 63 0 [] ([] : List Point) (own_flat (by kernel_rfl)) (fun y24 => ?_)))))
 refine oN 1 [(6, .v (.slice (some d21) x0.length c0_0))] [5] ?_
 obtain ⟨l27, hm28, h29⟩ := bS h
 refine oa 34 c0_0 Try.t63 (vPoint (Point.mk 0 0 0)) (fun γ w hs => ⟨c0_0, (hv0_0.kept hs.kept)⟩) hm28 (fun y26 => ?_)
 refine oN 1 [(2, .v (.slice y26.1 l27.length y26.2))] [] ?_
 refine oe (nt (qe (rt [.slice y26.1 l27.length y26.2] (fun γ w hs => ?_))))
 rw [← sI h29]
 exact ⟨y26, rfl, hs.kept.toBelow, (hs.takeR (is := [0]) rfl).fresh⟩

theorem c_impl_SeriesAsOf_1 {W : World} {x0 : Point} {gf_0 : Nat} {zf_0 : Int} {r : Bool} (h : impl_SeriesAsOf_1 x0 zf_0 = some r) (hcf_0 : CellsAt W (some ⟨gf_0, 0, none⟩) 0 [.int .i64 zf_0]) :
    Gives0 Try.prog 50 #[vPoint x0, .pointer (some ⟨gf_0, 0, none⟩)] W (.bool r) := by
 unfold impl_SeriesAsOf_1 at h
 refine enterD [.v (vPoint x0), .q (some ⟨gf_0, 0, none⟩) (0)] (args := [vPoint x0, .pointer (some ⟨gf_0, 0, none⟩)]) (by kernel_rfl) (by kernel_rfl) Try.func50 rfl Try.ntmps50 (by kernel_rfl) ?_
 refine qs (qr (oB 2 [(2, .p 0 0)] [1] [(63, (ePoint x0))] ?_))
 refine oe (nt (qs (qr (oN 2 [(5, vi x0.Known)] [1] ?_))))
 refine ol 3 0 (.int .i64 zf_0) (fun γ w hs => ⟨by simp, hcf_0.kept hs.kept⟩) ?_
 refine oN 2 [(3, vb (decide (x0.Known > zf_0)))] [] ?_
 refine oe (nt (qe ?_))
 obtain rfl := sI h
 exact re [.bool (decide (x0.Known > zf_0))]

theorem c_slices_IndexFunc_Point__impl_SeriesAsOf_1 {W : World} {x0 : List Point} {a0_0 : Option Addr} {c0_0 : Nat} {g1_0 : Nat} {z1_0 : Int} {r : Int} (h : slices_IndexFunc_Point__impl_SeriesAsOf_1 x0 z1_0 = some r) (hv0_0 : SlView W x0 a0_0 c0_0) (hc1_0 : CellsAt W (some ⟨g1_0, 0, none⟩) 0 [.int .i64 z1_0]) :
    Gives0 Try.prog 70 #[.slice a0_0 x0.length c0_0, .func (.func 50) #[] #[.pointer (some ⟨g1_0, 0, none⟩)]] W (.int .i64 r) := by
 unfold slices_IndexFunc_Point__impl_SeriesAsOf_1 at h
 refine en Try.func70 Try.ntmps70 ?_
 refine qs (qr (oN 1 [] [0, 1] ?_))
 refine oe (nt (qs (qs (qr (oN 3 [(8, vi 0), (7, vi (x0.length : Int))] [0, 1] ?_)))))
 refine oe (nt ?_)
 obtain ⟨r24, hL25, h26⟩ := bS h
 obtain ⟨k27, hk28, h26⟩ := brkS h26
 refine JC_cutP (τ := (Unit) × (Unit)) (fun y => k27 y.1 = some r) (fun y32 => []) (fun y32 => []) (fun y32 => []) ?_ (fun y32 h33p => ?_)
 · refine qb (lp Unit hL25 (fun s21 y22 => [(8, vi s21), (7, vi (x0.length : Int)), (0, .v (.slice a0_0 x0.length c0_0)), (1, .v (.func (.func 50) #[] #[.pointer (some ⟨g1_0, 0, none⟩)]))]) (fun s21 y22 => []) (fun s21 y22 => []) () [8, 7, 0, 1] [] 0 (fun s21 y22 t23 h29 hd30 => ?_))
   refine qs (qr (oN 1 [(9, vb (decide (s21 < (x0.length : Int))))] [8, 7, 0, 1] ?_))
   refine oe (nt (qs (cC h29 (fun h35 => ?_) (fun h36 => ?_))))
   · refine qk (nt (qs (qb (qs (qr (oN 2 [(5, vi s21)] [8, 7, 0, 1] ?_))))))
     refine oe (nt (qs (qr (oN 3 [(13, vi s21), (12, .v (.slice a0_0 x0.length c0_0)), (11, .v (.func (.func 50) #[] #[.pointer (some ⟨g1_0, 0, none⟩)]))] [5, 8, 7, 0, 1] ?_))))
     obtain ⟨x37, hx38, h39⟩ := bS h35
     refine oi 3 (fun γ w hs => (hv0_0.kept hs.kept)) hx38 ?_
     refine ol 63 0 (vPoint x37) (fun γ w hs => (hv0_0.kept hs.kept).flatq hx38) ?_
     obtain ⟨t40, h41, h42⟩ := bS h39
     refine k0 (fun γ w hs => c_impl_SeriesAsOf_1 h41 (hc1_0.kept hs.kept)) ?_
     refine oe (nt (cC h42 (fun h45 => ?_) (fun h46 => ?_)))
     · refine qs (qr (oN 2 [(4, vi s21)] [] ?_))
       refine oe (nt (qe (br (nr (nr ?_)))))
       have h47 := leafR hd30 h45 h26
       refine br (nr (nr ?_))
       obtain rfl := sI h47
       exact re [.int .i64 s21]
     refine qk (bn (nt (qr (oN 2 [(8, vi (w64 (s21 + 1)))] [7, 0, 1] ?_))))
     exact oe (ct h46 () [8, 7, 0, 1] [] 0)
   refine qx (nx (nx (bh ?_)))
   have h48 := leafB hd30 h36 h26
   exact mp ((), ()) h48 [] [] 0
 have h33 := (congrFun hk28 _).symm.trans h33p
 refine nt (qs (qr (oN 1 [(4, vi (-1))] [] ?_)))
 refine oe (nt (qe ?_))
 obtain rfl := sI h33
 exact re [.int .i64 (-1)]

theorem c_slices_DeleteFunc_Point__impl_SeriesAsOf_1 {W : World} {x0 : List Point} {a0_0 : Option Addr} {c0_0 : Nat} {g1_0 : Nat} {z1_0 : Int} {r : (List Point)} (h : slices_DeleteFunc_Point__impl_SeriesAsOf_1 x0 z1_0 = some r) (hc1_0 : CellsAt W (some ⟨g1_0, 0, none⟩) 0 [.int .i64 z1_0]) :
    GivesMD Try.prog [g1_0] 48 #[.slice a0_0 x0.length c0_0, .func (.func 50) #[] #[.pointer (some ⟨g1_0, 0, none⟩)]] W [SlRes 63 x0 a0_0 c0_0] [SlRes 63 r a0_0 c0_0] (.slice a0_0 r.length c0_0) := by
 unfold slices_DeleteFunc_Point__impl_SeriesAsOf_1 at h
 refine enterMD [.v (.slice a0_0 x0.length c0_0), .v (.func (.func 50) #[] #[.pointer (some ⟨g1_0, 0, none⟩)])] (args := [.slice a0_0 x0.length c0_0, .func (.func 50) #[] #[.pointer (some ⟨g1_0, 0, none⟩)]]) (by kernel_rfl) (by kernel_rfl) Try.func48 rfl Try.ntmps48 (by kernel_rfl) (fun Fs hG => ?_)
 refine qs (qr (oN 1 [] [0, 1] ?_))
 refine oe (nt (qs (qr (oN 2 [(9, .v (.func (.func 50) #[] #[.pointer (some ⟨g1_0, 0, none⟩)])), (8, .v (.slice a0_0 x0.length c0_0))] [0, 1] ?_))))
 obtain ⟨t21, h22, h23⟩ := bS h
 refine k0 (fun γ w hs => c_slices_IndexFunc_Point__impl_SeriesAsOf_1 h22 (hs.view 0 rfl) (hc1_0.keptM hs.kept (hG _ (by simp)))) ?_
 refine oN 1 [(5, vi t21)] [0, 1] ?_
 refine oe (nt (qs (qs (qr (oN 2 [(12, vb (t21 == (-1)))] [5, 0, 1] ?_)))))
 refine oe (nt (cC h23 (fun h26 => ?_) (fun h27 => ?_)))
 · refine qs (qr (oN 2 [(4, .v (.slice a0_0 x0.length c0_0))] [] ?_))
   refine oe (nt (qe (nr (rt [.slice a0_0 x0.length c0_0] (fun γ w hs => ?_)))))
   rw [← sI h26]
   exact hs.turned (is := [0]) rfl
 refine qk (nt (qs (qs (qr (oN 3 [(6, vi (w64 (t21 + 1)))] [5, 0, 1] ?_)))))
 refine oe (nt ?_)
 obtain ⟨r31, hL32, h33⟩ := bS h27
 obtain ⟨k34, hk35, h33⟩ := brkS h33
 refine JC_cutP (τ := (Int × (List Point)) × (Unit)) (fun y => k34 y.1 = some r) (fun y39 => [(5, vi y39.1.1), (0, .v (.slice a0_0 y39.1.2.length c0_0))]) (fun y39 => []) (fun y39 => [SlRes 63 y39.1.2 a0_0 c0_0]) ?_ (fun y39 h40p => ?_)
 · refine qb (lp Unit hL32 (fun s28 y29 => [(6, vi s28.1), (5, vi s28.2.1), (0, .v (.slice a0_0 s28.2.2.length c0_0)), (1, .v (.func (.func 50) #[] #[.pointer (some ⟨g1_0, 0, none⟩)]))]) (fun s28 y29 => []) (fun s28 y29 => [SlRes 63 s28.2.2 a0_0 c0_0]) () [6, 5, 0, 1] [0] 0 (fun s28 y29 t30 h36 hd37 => ?_))
   refine qs (qs (qr (oN 4 [(19, vb (decide (s28.1 < (s28.2.2.length : Int))))] [6, 5, 0, 1] ?_)))
   refine oe (nt (cC h36 (fun h49 => ?_) (fun h50 => ?_)))
   · refine qk (nt (qs (qb (qs (qr (oN 2 [(23, vi s28.1), (22, .v (.slice a0_0 s28.2.2.length c0_0))] [6, 5, 0, 1] ?_))))))
     obtain ⟨x51, hx52, h53⟩ := bS h49
     refine oi 3 (fun γ w hs => (hs.view 0 rfl)) hx52 ?_
     refine ol 63 0 (vPoint x51) (fun γ w hs => (hs.view 0 rfl).flatq hx52) ?_
     refine oB 2 [(7, .p 0 0)] [6, 5, 0, 1] [(63, (ePoint x51))] ?_
     refine oe (nt (qs (qr (oN 2 [(27, .v (vPoint x51)), (26, .v (.func (.func 50) #[] #[.pointer (some ⟨g1_0, 0, none⟩)]))] [7, 6, 5, 0, 1] ?_))))
     obtain ⟨t54, h55, h56⟩ := bS h53
     refine k0 (fun γ w hs => c_impl_SeriesAsOf_1 h55 (hc1_0.keptM hs.kept (hG _ (by simp)))) ?_
     refine oN 1 [(29, vb (!t54))] [7, 6, 5, 0, 1] ?_
     refine oe (nt ?_)
     obtain ⟨k68, hk69, h71⟩ := jS h56
     refine JC_cutP (τ := (Int × (List Point)) × (Unit)) (fun y => k68 y.1 = some t30) (fun y67 => [(6, vi s28.1), (5, vi y67.1.1), (0, .v (.slice a0_0 y67.1.2.length c0_0)), (1, .v (.func (.func 50) #[] #[.pointer (some ⟨g1_0, 0, none⟩)]))]) (fun y67 => [(63, (ePoint x51))]) (fun y67 => [SlRes 63 y67.1.2 a0_0 c0_0]) ?_ (fun y67 h70p => ?_)
     · refine cC h71 (fun h73 => ?_) (fun h74 => ?_)
       · refine qs (qr (oN 3 [(32, .v (vPoint x51)), (31, vi s28.2.1), (30, .v (.slice a0_0 s28.2.2.length c0_0))] [6, 5, 0, 1] ?_))
         obtain ⟨x75, hx76, h77⟩ := bS h73
         refine oi 3 (fun γ w hs => (hs.view 0 rfl)) hx76 ?_
         obtain ⟨l78, hm79, h80⟩ := bS h77
         replace hm79 := (sI hm79).symm
         refine JO_storeq (α := Point) (d := a0_0) (vs := [.int .i64 x51.Month, .int .i64 x51.Known, .int .i64 x51.Value]) (j := s28.2.1) (x' := x51) rfl (by kernel_rfl) 0 (by kernel_rfl) hx76 (Rc := []) (Rr := []) rfl (by kernel_rfl) (fun w c F Fs ho _ _ => own_flat_set (by kernel_rfl) ho) hm79 rfl ?_
         have hl81 := len_set hm79
         refine JO_keep [32, 31, 30, 6, 5, 0, 1] (sl' := [(32, .v (vPoint x51)), (31, vi s28.2.1), (30, .v (.slice a0_0 s28.2.2.length c0_0)), (6, vi s28.1), (5, vi s28.2.1), (0, .v (.slice a0_0 s28.2.2.length c0_0)), (1, .v (.func (.func 50) #[] #[.pointer (some ⟨g1_0, 0, none⟩)]))]) (by kernel_rfl) ?_
         refine JO_eqE (sl' := [(32, .v (vPoint x51)), (31, vi s28.2.1), (30, .v (.slice a0_0 l78.length c0_0)), (6, vi s28.1), (5, vi s28.2.1), (0, .v (.slice a0_0 l78.length c0_0)), (1, .v (.func (.func 50) #[] #[.pointer (some ⟨g1_0, 0, none⟩)]))]) (bx' := [(63, (ePoint x51))]) (by simp only [ePoint, vPoint, hl81]) rfl ?_
         refine oe (nt (qr (oN 3 [(5, vi (w64 (s28.2.1 + 1)))] [6, 0, 1] ?_)))
         exact oe (mp ((w64 (s28.2.1 + 1), l78), ()) h80 [6, 5, 0, 1] [0] 1)
       exact qk (mp ((s28.2.1, s28.2.2), ()) h74 [6, 5, 0, 1] [0] 1)
     have h70 := (congrFun hk69 _).symm.trans h70p
     refine bn (nt (qr (oN 3 [(6, vi (w64 (s28.1 + 1)))] [5, 0, 1] ?_)))
     exact oe (ct h70 () [6, 5, 0, 1] [0] 0)
   refine qx (nx (nx (bh ?_)))
   have h82 := leafB hd37 h50 h33
   exact mp ((s28.2.1, s28.2.2), ()) h82 [5, 0] [0] 0
 have h40 := (congrFun hk35 _).symm.trans h40p
 refine nt (qs (qr (oN 2 [(37, vi y39.1.1), (36, .v (.slice a0_0 y39.1.2.length c0_0))] [5, 0] ?_)))
 obtain ⟨l41, hm42, h43⟩ := bS h40
 refine JO_tail (α := Point) (s := 3) (a0 := a0_0) (c0 := c0_0) (lo := y39.1.1) rfl (by kernel_rfl) (by kernel_rfl) hm42 (sl' := [(38, .v (.slice (tailA a0_0 c0_0 y39.1.1 3) (y39.1.2.length - Int.toNat y39.1.1) (c0_0 - Int.toNat y39.1.1))), (37, vi y39.1.1), (36, .v (.slice a0_0 y39.1.2.length c0_0)), (5, vi y39.1.1), (0, .v (.slice a0_0 y39.1.2.length c0_0))]) (by kernel_rfl) ?_
 refine JO_clear (α := Point) (e := 63) (a0 := a0_0) (c0 := c0_0) (lo := y39.1.1) rfl (by kernel_rfl) (by kernel_rfl) (i := Try.t63) (by kernel_rfl) (z := vPoint (Point.mk 0 0 0)) (by kernel_rfl) (by kernel_rfl) hm42 (Rr := []) rfl (sl' := [(38, .v (.slice (tailA a0_0 c0_0 y39.1.1 3) (y39.1.2.length - Int.toNat y39.1.1) (c0_0 - Int.toNat y39.1.1))), (37, vi y39.1.1), (36, .v (.slice a0_0 y39.1.2.length c0_0)), (5, vi y39.1.1), (0, .v (.slice a0_0 y39.1.2.length c0_0))]) (by kernel_rfl) ?_
 have hl44 := (zeroTail_some hm42).2.2.2.symm
 refine JO_keep [37, 36, 5, 0] (sl' := [(37, vi y39.1.1), (36, .v (.slice a0_0 y39.1.2.length c0_0)), (5, vi y39.1.1), (0, .v (.slice a0_0 y39.1.2.length c0_0))]) (by kernel_rfl) ?_
 refine JO_eqE (sl' := [(37, vi y39.1.1), (36, .v (.slice a0_0 l41.length c0_0)), (5, vi y39.1.1), (0, .v (.slice a0_0 l41.length c0_0))]) (bx' := []) (by simp only [hl44]) rfl ?_
 refine oe (nt (qs (qr (oN 2 [(40, vi y39.1.1), (39, .v (.slice a0_0 l41.length c0_0))] [] ?_))))
 obtain ⟨l45, hm46, h47⟩ := bS h43
 refine JO_headR (α := Point) rfl (by kernel_rfl) (a0 := a0_0) (n0 := l41.length) (c0 := c0_0) (hi := y39.1.1) (by kernel_rfl) hm46 (Rr := []) rfl (sl' := [(41, .v (.slice a0_0 l45.length c0_0)), (40, vi y39.1.1), (39, .v (.slice a0_0 l41.length c0_0))]) (by kernel_rfl) ?_
 refine JO_keep [41, 40] (sl' := [(41, .v (.slice a0_0 l45.length c0_0)), (40, vi y39.1.1)]) (by kernel_rfl) ?_
 refine oN 1 [(4, .v (.slice a0_0 l45.length c0_0))] [] ?_
 refine oe (nt (qe (rt [.slice a0_0 l45.length c0_0] (fun γ w hs => ?_))))
 rw [← sI h47]
 exact hs.turned (is := [0]) rfl

theorem c_impl_SeriesAsOf {W : World} {x0 : Series} {a0_0 : Option Addr} {c0_0 : Nat} {x1 : Int} {r : Series} (h : impl_SeriesAsOf x0 x1 = some r) (hv0_0 : SlView W x0.Points a0_0 c0_0) :
    Gives Try.prog 24 #[vSeries x0 (a0_0, c0_0), .int .i64 x1] W (fun y : AC => vSeries r y) (fun y => [SlRes 63 r.Points y.1 y.2]) := by
 unfold impl_SeriesAsOf at h
 refine en Try.func24 Try.ntmps24 ?_
 refine qs (qr (oB 3 [(4, .p 2 0), (3, .p 1 0), (2, .p 0 0)] [] [(36, (eSeries x0 (a0_0, c0_0))), (3, [.int .i64 x1]), (36, [.slice none 0 0])] ?_))
 refine oe (nt (qs (qr (oN 2 [(6, .v (.slice a0_0 x0.Points.length c0_0))] [4, 3] ?_))))
 obtain ⟨t21, h22, h23⟩ := bS h
 refine k1 (fun γ w hs => c_slices_Clone_Point h22 (hv0_0.kept hs.kept)) (fun y24 => ?_)
 refine JO_mkfunc rfl (by kernel_rfl) (x := .f 50 [(1, 0)]) (by kernel_rfl) rfl ?_
 obtain ⟨t25, h26, h27⟩ := bS h23
 refine JO_callMD [1] rfl (by kernel_rfl) (f := 48) (args := fun γ => #[.slice y24.1 t21.length y24.2, .func (.func 50) #[] #[.pointer (some ⟨γ.getD 1 0, 0, none⟩)]]) (fun γ => by kernel_rfl) (x := .slice y24.1 t25.length y24.2) (by kernel_rfl) (Rin := [SlRes 63 t21 y24.1 y24.2]) (Rout := [SlRes 63 t25 y24.1 y24.2]) (Rr := []) rfl (fun γ w hs => (by have vv := c_slices_DeleteFunc_Point__impl_SeriesAsOf_1 (a0_0 := y24.1) (c0_0 := y24.2) (W := w) h26 (hs.boxCells (k := 1) (e := 3) (by kernel_rfl)); exact vv)) (sl' := [(9, .v (.slice y24.1 t25.length y24.2)), (8, .f 50 [(1, 0)]), (7, .v (.slice y24.1 t21.length y24.2)), (6, .v (.slice a0_0 x0.Points.length c0_0)), (4, .p 2 0), (3, .p 1 0)]) (by kernel_rfl) ?_
 refine JO_keep [9, 8, 6, 4, 3] (sl' := [(9, .v (.slice y24.1 t25.length y24.2)), (8, .f 50 [(1, 0)]), (6, .v (.slice a0_0 x0.Points.length c0_0)), (4, .p 2 0), (3, .p 1 0)]) (by kernel_rfl) ?_
 refine oB 2 [] [4] [(36, (eSeries x0 (a0_0, c0_0))), (3, [.int .i64 x1]), (36, (eSeries (Series.mk t25) y24))] ?_
 refine oe (nt (qe (rt [vSeries (Series.mk t25) y24] (fun γ w hs => ?_))))
 rw [← sI h27]
 exact ⟨y24, rfl, hs.kept.toBelow, (hs.takeR (is := [0]) rfl).fresh⟩

theorem c_laws_eqPoint {W : World} {x0 : Point} {x1 : Point} {r : Bool} (h : laws_eqPoint x0 x1 = some r)  :
    Gives0 Try.prog 71 #[vPoint x0, vPoint x1] W (.bool r) := by
 unfold laws_eqPoint at h
 refine en Try.func71 Try.ntmps71 ?_
 refine qs (qr (oB 3 [(3, .p 1 0), (2, .p 0 0)] [] [(63, (ePoint x0)), (63, (ePoint x1))] ?_))
 refine oe (nt (qs (qs (qr (oN 5 [(9, vb (x0.Month != x1.Month))] [3, 2] ?_)))))
 refine oe (nt (cC h (fun h22 => ?_) (fun h23 => ?_)))
 · refine qs (qr (oN 1 [(4, vb false)] [] ?_))
   refine oe (nt (qe (nr ?_)))
   obtain rfl := sI h22
   exact re [.bool false]
 refine qk (nt (qs (qs (qr (oN 5 [(14, vb (x0.Known != x1.Known))] [3, 2] ?_)))))
 refine oe (nt (cC h23 (fun h25 => ?_) (fun h26 => ?_)))
 · refine qs (qr (oN 1 [(4, vb false)] [] ?_))
   refine oe (nt (qe (nr ?_)))
   obtain rfl := sI h25
   exact re [.bool false]
 refine qk (nt (qs (qs (qr (oN 5 [(19, vb (x0.Value != x1.Value))] [] ?_)))))
 refine oe (nt (cC h26 (fun h28 => ?_) (fun h29 => ?_)))
 · refine qs (qr (oN 1 [(4, vb false)] [] ?_))
   refine oe (nt (qe (nr ?_)))
   obtain rfl := sI h28
   exact re [.bool false]
 refine qk (nt (qs (qr (oN 1 [(4, vb true)] [] ?_))))
 refine oe (nt (qe ?_))
 obtain rfl := sI h29
 exact re [.bool true]

theorem c_laws_eqPointS {W : World} {x0 : List Point} {a0_0 : Option Addr} {c0_0 : Nat} {x1 : List Point} {a1_0 : Option Addr} {c1_0 : Nat} {r : Bool} (h : laws_eqPointS x0 x1 = some r) (hv0_0 : SlView W x0 a0_0 c0_0) (hv1_0 : SlView W x1 a1_0 c1_0) :
    Gives0 Try.prog 51 #[.slice a0_0 x0.length c0_0, .slice a1_0 x1.length c1_0] W (.bool r) := by
 unfold laws_eqPointS at h
 refine en Try.func51 Try.ntmps51 ?_
 refine qs (qr (oN 1 [] [0, 1] ?_))
 refine oe (nt (qs (qs (qr (oN 5 [(10, vb ((x0.length : Int) != (x1.length : Int)))] [0, 1] ?_)))))
 refine oe (nt (cC h (fun h22 => ?_) (fun h23 => ?_)))
 · refine qs (qr (oN 1 [(4, vb false)] [] ?_))
   refine oe (nt (qe (nr ?_)))
   obtain rfl := sI h22
   exact re [.bool false]
 refine qk (nt (qs (qs (qr (oN 1 [(5, vi 0)] [0, 1] ?_)))))
 refine oe (nt ?_)
 obtain ⟨r27, hL28, h29⟩ := bS h23
 obtain ⟨k30, hk31, h29⟩ := brkS h29
 refine JC_cutP (τ := (Unit) × (Unit)) (fun y => k30 y.1 = some r) (fun y35 => []) (fun y35 => []) (fun y35 => []) ?_ (fun y35 h36p => ?_)
 · refine qb (lp Unit hL28 (fun s24 y25 => [(5, vi s24), (0, .v (.slice a0_0 x0.length c0_0)), (1, .v (.slice a1_0 x1.length c1_0))]) (fun s24 y25 => []) (fun s24 y25 => []) () [5, 0, 1] [] 0 (fun s24 y25 t26 h32 hd33 => ?_))
   refine qs (qs (qr (oN 4 [(14, vb (decide (s24 < (x0.length : Int))))] [5, 0, 1] ?_)))
   refine oe (nt (cC h32 (fun h38 => ?_) (fun h39 => ?_)))
   · refine qk (nt (qs (qb (qs (JC_quiet (by kernel_rfl) (by kernel_rfl) ?_)))))
     refine qN 2 [(18, vi s24), (17, .v (.slice a0_0 x0.length c0_0))] [5, 0, 1] ?_
     obtain ⟨x40, hx41, h42⟩ := bS h38
     refine qi 3 (fun γ w hs => (hv0_0.kept hs.kept)) hx41 ?_
     refine ql 63 0 (vPoint x40) (fun γ w hs => (hv0_0.kept hs.kept).flatq hx41) ?_
     refine qN 2 [(22, vi s24), (21, .v (.slice a1_0 x1.length c1_0))] [20, 5, 0, 1] ?_
     obtain ⟨x43, hx44, h45⟩ := bS h42
     refine qi 3 (fun γ w hs => (hv1_0.kept hs.kept)) hx44 ?_
     refine ql 63 0 (vPoint x43) (fun γ w hs => (hv1_0.kept hs.kept).flatq hx44) ?_
     obtain ⟨t46, h47, h48⟩ := bS h45
     refine q0 (fun γ w hs => c_laws_eqPoint h47) ?_
     refine qN 1 [(26, vb (!t46))] [5, 0, 1] ?_
     refine qz (nt (cC h48 (fun h51 => ?_) (fun h52 => ?_)))
     · refine qs (qr (oN 1 [(4, vb false)] [] ?_))
       refine oe (nt (qe (br (nr (nr ?_)))))
       have h53 := leafR hd33 h51 h29
       refine br (nr (nr ?_))
       obtain rfl := sI h53
       exact re [.bool false]
     refine qk (bn (nt (qr (oN 3 [(5, vi (w64 (s24 + 1)))] [0, 1] ?_))))
     exact oe (ct h52 () [5, 0, 1] [] 0)
   refine qx (nx (nx (bh ?_)))
   have h54 := leafB hd33 h39 h29
   exact mp ((), ()) h54 [] [] 0
 have h36 := (congrFun hk31 _).symm.trans h36p
 refine nt (qs (qr (oN 1 [(4, vb true)] [] ?_)))
 refine oe (nt (qe ?_))
 obtain rfl := sI h36
 exact re [.bool true]

theorem c_laws_eqSeries {W : World} {x0 : Series} {a0_0 : Option Addr} {c0_0 : Nat} {x1 : Series} {a1_0 : Option Addr} {c1_0 : Nat} {r : Bool} (h : laws_eqSeries x0 x1 = some r) (hv0_0 : SlView W x0.Points a0_0 c0_0) (hv1_0 : SlView W x1.Points a1_0 c1_0) :
    Gives0 Try.prog 25 #[vSeries x0 (a0_0, c0_0), vSeries x1 (a1_0, c1_0)] W (.bool r) := by
 unfold laws_eqSeries at h
 refine en Try.func25 Try.ntmps25 ?_
 refine qs (qr (oB 3 [(3, .p 1 0), (2, .p 0 0)] [] [(36, (eSeries x0 (a0_0, c0_0))), (36, (eSeries x1 (a1_0, c1_0)))] ?_))
 refine oe (nt (qs (qs (qr (oN 4 [(8, .v (.slice a1_0 x1.Points.length c1_0)), (6, .v (.slice a0_0 x0.Points.length c0_0))] [] ?_)))))
 obtain ⟨t21, h22, h23⟩ := bS h
 refine k0 (fun γ w hs => c_laws_eqPointS h22 (hv0_0.kept hs.kept) (hv1_0.kept hs.kept)) ?_
 refine oN 1 [(10, vb (!t21))] [] ?_
 refine oe (nt (cC h23 (fun h26 => ?_) (fun h27 => ?_)))
 · refine qs (qr (oN 1 [(4, vb false)] [] ?_))
   refine oe (nt (qe (nr ?_)))
   obtain rfl := sI h26
   exact re [.bool false]
 refine qk (nt (qs (qr (oN 1 [(4, vb true)] [] ?_))))
 refine oe (nt (qe ?_))
 obtain rfl := sI h27
 exact re [.bool true]

theorem c_laws_markPointS {W : World} {x0 : List Point} {a0_0 : Option Addr} {c0_0 : Nat} {e0_0 : TypeId} {x1 : Int} {r : Int × (List Point)} (h : laws_markPointS x0 x1 = some r)  :
    GivesM Try.prog 52 #[.slice a0_0 x0.length c0_0, .int .i64 x1] W [SlRes e0_0 x0 a0_0 c0_0] [SlRes e0_0 r.2 a0_0 c0_0] (.int .i64 r.1) := by
 unfold laws_markPointS at h
 refine enM Try.func52 Try.ntmps52 (fun Fs => ?_)
 refine qs (qr (oN 1 [] [0, 1] ?_))
 refine oe (nt (qs (qs (qr (oN 1 [(5, vi 0)] [0, 1] ?_)))))
 refine oe (nt ?_)
 obtain ⟨r24, hL25, h26⟩ := bS h
 obtain ⟨k27, hk28, h26⟩ := brkS h26
 refine JC_cutP (τ := ((List Point) × Int) × (Unit)) (fun y => k27 y.1 = some r) (fun y32 => [(0, .v (.slice a0_0 y32.1.1.length c0_0)), (1, vi y32.1.2)]) (fun y32 => []) (fun y32 => [SlRes e0_0 y32.1.1 a0_0 c0_0]) ?_ (fun y32 h33p => ?_)
 · refine qb (lp Unit hL25 (fun s21 y22 => [(5, vi s21.1), (0, .v (.slice a0_0 s21.2.1.length c0_0)), (1, vi s21.2.2)]) (fun s21 y22 => []) (fun s21 y22 => [SlRes e0_0 s21.2.1 a0_0 c0_0]) () [5, 0, 1] [0] 0 (fun s21 y22 t23 h29 hd30 => ?_))
   refine qs (qs (qr (oN 4 [(9, vb (decide (s21.1 < (s21.2.1.length : Int))))] [5, 0, 1] ?_)))
   refine oe (nt (cC h29 (fun h35 => ?_) (fun h36 => ?_)))
   · refine qk (nt (qs (qb (qs (qr (oN 3 [(14, vi s21.2.2), (13, vi s21.1), (12, .v (.slice a0_0 s21.2.1.length c0_0))] [5, 0, 1] ?_))))))
     obtain ⟨x37, hx38, h39⟩ := bS h35
     refine oi 3 (fun γ w hs => (hs.view 0 rfl)) hx38 ?_
     refine oN 1 [(16, .q a0_0 (Int.toNat s21.1 * 3))] [14, 5, 0, 1] ?_
     obtain ⟨l40, hm41, h42⟩ := bS h39
     replace hm41 := (sI hm41).symm
     refine JO_storeq (α := Point) (d := a0_0) (vs := [.int .i64 s21.2.2]) (j := s21.1) (x' := (Point.mk s21.2.2 x37.Known x37.Value)) rfl (by kernel_rfl) 0 (by kernel_rfl) hx38 (Rc := []) (Rr := []) rfl (by kernel_rfl) (fun w c F Fs ho _ _ => own_flat_set (by kernel_rfl) ho) hm41 rfl ?_
     have hl43 := len_set hm41
     refine JO_keep [14, 5, 0, 1] (sl' := [(14, vi s21.2.2), (5, vi s21.1), (0, .v (.slice a0_0 s21.2.1.length c0_0)), (1, vi s21.2.2)]) (by kernel_rfl) ?_
     refine JO_eqE (sl' := [(14, vi s21.2.2), (5, vi s21.1), (0, .v (.slice a0_0 l40.length c0_0)), (1, vi s21.2.2)]) (bx' := []) (by simp only [hl43]) rfl ?_
     refine oe (nt (qs (qr (oN 3 [(1, vi (w64 (s21.2.2 + 1)))] [5, 0] ?_))))
     refine oe (nt (qs (qr (oN 3 [(21, vi (w64 (s21.2.2 + 1))), (20, vi s21.1), (19, .v (.slice a0_0 l40.length c0_0))] [1, 5, 0] ?_))))
     obtain ⟨x44, hx45, h46⟩ := bS h42
     refine oi 3 (fun γ w hs => (hs.view 0 rfl)) hx45 ?_
     refine oN 1 [(23, .q a0_0 (Int.toNat s21.1 * 3 + 1))] [21, 1, 5, 0] ?_
     obtain ⟨l47, hm48, h49⟩ := bS h46
     replace hm48 := (sI hm48).symm
     refine JO_storeq (α := Point) (d := a0_0) (vs := [.int .i64 (w64 (s21.2.2 + 1))]) (j := s21.1) (x' := (Point.mk x44.Month (w64 (s21.2.2 + 1)) x44.Value)) rfl (by kernel_rfl) 1 (by kernel_rfl) hx45 (Rc := []) (Rr := []) rfl (by kernel_rfl) (fun w c F Fs ho _ _ => own_flat_set (by kernel_rfl) ho) hm48 rfl ?_
     have hl50 := len_set hm48
     refine JO_keep [21, 1, 5, 0] (sl' := [(21, vi (w64 (s21.2.2 + 1))), (1, vi (w64 (s21.2.2 + 1))), (5, vi s21.1), (0, .v (.slice a0_0 l40.length c0_0))]) (by kernel_rfl) ?_
     refine JO_eqE (sl' := [(21, vi (w64 (s21.2.2 + 1))), (1, vi (w64 (s21.2.2 + 1))), (5, vi s21.1), (0, .v (.slice a0_0 l47.length c0_0))]) (bx' := []) (by simp only [hl50]) rfl ?_
     refine oe (nt (qs (qr (oN 3 [(1, vi (w64 ((w64 (s21.2.2 + 1)) + 1)))] [5, 0] ?_))))
     refine oe (nt (qs (qr (oN 3 [(28, vi (w64 ((w64 (s21.2.2 + 1)) + 1))), (27, vi s21.1), (26, .v (.slice a0_0 l47.length c0_0))] [1, 5, 0] ?_))))
     obtain ⟨x51, hx52, h53⟩ := bS h49
     refine oi 3 (fun γ w hs => (hs.view 0 rfl)) hx52 ?_
     refine oN 1 [(30, .q a0_0 (Int.toNat s21.1 * 3 + 2))] [28, 1, 5, 0] ?_
     obtain ⟨l54, hm55, h56⟩ := bS h53
     replace hm55 := (sI hm55).symm
     refine JO_storeq (α := Point) (d := a0_0) (vs := [.int .i64 (w64 ((w64 (s21.2.2 + 1)) + 1))]) (j := s21.1) (x' := (Point.mk x51.Month x51.Known (w64 ((w64 (s21.2.2 + 1)) + 1)))) rfl (by kernel_rfl) 2 (by kernel_rfl) hx52 (Rc := []) (Rr := []) rfl (by kernel_rfl) (fun w c F Fs ho _ _ => own_flat_set (by kernel_rfl) ho) hm55 rfl ?_
     have hl57 := len_set hm55
     refine JO_keep [28, 1, 5, 0] (sl' := [(28, vi (w64 ((w64 (s21.2.2 + 1)) + 1))), (1, vi (w64 ((w64 (s21.2.2 + 1)) + 1))), (5, vi s21.1), (0, .v (.slice a0_0 l47.length c0_0))]) (by kernel_rfl) ?_
     refine JO_eqE (sl' := [(28, vi (w64 ((w64 (s21.2.2 + 1)) + 1))), (1, vi (w64 ((w64 (s21.2.2 + 1)) + 1))), (5, vi s21.1), (0, .v (.slice a0_0 l54.length c0_0))]) (bx' := []) (by simp only [hl57]) rfl ?_
     refine oe (nt (qr (oN 3 [(1, vi (w64 ((w64 ((w64 (s21.2.2 + 1)) + 1)) + 1)))] [5, 0] ?_)))
     refine oe (bn (nt (qr (oN 3 [(5, vi (w64 (s21.1 + 1)))] [1, 0] ?_))))
     exact oe (ct h56 () [5, 0, 1] [0] 0)
   refine qx (nx (nx (bh ?_)))
   have h58 := leafB hd30 h36 h26
   exact mp ((s21.2.1, s21.2.2), ()) h58 [0, 1] [0] 0
 have h33 := (congrFun hk28 _).symm.trans h33p
 refine nt (qs (qr (oN 2 [(4, vi y32.1.2)] [0] ?_)))
 refine oe (nt (qe (rt [.int .i64 y32.1.2] (fun γ w hs => ?_))))
 rw [← sI h33]
 exact hs.turned (is := [0]) rfl

theorem c_laws_markSeries {W : World} {x0 : Series} {a0_0 : Option Addr} {c0_0 : Nat} {e0_0 : TypeId} {x1 : Int} {r : Int × (List Point)} (h : laws_markSeries x0 x1 = some r)  :
    GivesM Try.prog 26 #[vSeries x0 (a0_0, c0_0), .int .i64 x1] W [SlRes e0_0 x0.Points a0_0 c0_0] [SlRes e0_0 r.2 a0_0 c0_0] (.int .i64 r.1) := by
 unfold laws_markSeries at h
 refine enM Try.func26 Try.ntmps26 (fun Fs => ?_)
 refine qs (qr (oB 2 [(2, .p 0 0)] [0, 1] [(36, (eSeries x0 (a0_0, c0_0)))] ?_))
 refine oe (nt (qs (qr (oN 3 [(7, vi x1), (6, .v (.slice a0_0 x0.Points.length c0_0))] [0] ?_))))
 obtain ⟨t21, h22, h23⟩ := bS h
 obtain ⟨u25, hu26, h27⟩ := bS h23
 have hl28 := (sameLen_some hu26).symm
 refine JO_callM rfl (by kernel_rfl) (f := 52) (args := #[.slice a0_0 x0.Points.length c0_0, .int .i64 x1]) (by kernel_rfl) (x := .int .i64 t21.1) (Rin := [SlRes e0_0 x0.Points a0_0 c0_0]) (Rout := [SlRes e0_0 t21.2 a0_0 c0_0]) (Rr := []) rfl (fun w => (by have vv := c_laws_markPointS (e0_0 := e0_0) (a0_0 := a0_0) (c0_0 := c0_0) (W := w) h22; exact vv)) (sl' := [(8, vi t21.1), (7, vi x1), (6, .v (.slice a0_0 x0.Points.length c0_0)), (0, .v (vSeries x0 (a0_0, c0_0)))]) (by kernel_rfl) ?_
 refine JO_eqE (sl' := [(8, vi t21.1), (7, vi x1), (6, .v (.slice a0_0 t21.2.length c0_0)), (0, .v (.agg #[.slice a0_0 t21.2.length c0_0]))]) (bx' := [(36, [.slice a0_0 t21.2.length c0_0])]) (by simp only [eSeries, vSeries, hl28]) (by simp only [eSeries, vSeries, hl28]) ?_
 refine oN 1 [(1, vi t21.1)] [0] ?_
 refine oe (nt (qs (qr (oN 2 [(4, vi t21.1)] [0] ?_))))
 refine oe (nt (qe (rt [.int .i64 t21.1] (fun γ w hs => ?_))))
 rw [← sI h27]
 exact hs.turned (is := [0]) rfl

theorem c_laws_heldPointS {W : World} {x0 : List Point} {a0_0 : Option Addr} {c0_0 : Nat} {x1 : Int} {r : Int} (h : laws_heldPointS x0 x1 = some r) (hv0_0 : SlView W x0 a0_0 c0_0) :
    Gives0 Try.prog 53 #[.slice a0_0 x0.length c0_0, .int .i64 x1] W (.int .i64 r) := by
 unfold laws_heldPointS at h
 refine en Try.func53 Try.ntmps53 ?_
 refine qs (qr (oN 1 [] [0, 1] ?_))
 refine oe (nt (qs (qs (qr (oN 1 [(5, vi 0)] [0, 1] ?_)))))
 refine oe (nt ?_)
 obtain ⟨r24, hL25, h26⟩ := bS h
 obtain ⟨k27, hk28, h26⟩ := brkS h26
 refine JC_cutP (τ := (Int) × (Unit)) (fun y => k27 y.1 = some r) (fun y32 => [(1, vi y32.1)]) (fun y32 => []) (fun y32 => []) ?_ (fun y32 h33p => ?_)
 · refine qb (lp Unit hL25 (fun s21 y22 => [(5, vi s21.1), (0, .v (.slice a0_0 x0.length c0_0)), (1, vi s21.2)]) (fun s21 y22 => []) (fun s21 y22 => []) () [5, 0, 1] [] 0 (fun s21 y22 t23 h29 hd30 => ?_))
   refine qs (qs (qr (oN 4 [(9, vb (decide (s21.1 < (x0.length : Int))))] [5, 0, 1] ?_)))
   refine oe (nt (cC h29 (fun h35 => ?_) (fun h36 => ?_)))
   · refine qk (nt (qs (qb (qs (qs (qr (oN 2 [(13, vi s21.1), (12, .v (.slice a0_0 x0.length c0_0))] [5, 0, 1] ?_)))))))
     obtain ⟨x37, hx38, h39⟩ := bS h35
     refine oi 3 (fun γ w hs => (hv0_0.kept hs.kept)) hx38 ?_
     refine oN 1 [(15, .q a0_0 (Int.toNat s21.1 * 3))] [5, 0, 1] ?_
     refine ol 3 0 (.int .i64 x37.Month) (fun γ w hs => (hv0_0.kept hs.kept).flatq hx38) ?_
     refine oN 2 [(18, vb (x37.Month != s21.2))] [5, 0, 1] ?_
     refine oe (nt (cC h39 (fun h41 => ?_) (fun h42 => ?_)))
     · refine qs (qr (oN 1 [(4, vi (-1))] [] ?_))
       refine oe (nt (qe (nr (br (nr (nr ?_))))))
       have h43 := leafR hd30 h41 h26
       refine br (nr (nr ?_))
       obtain rfl := sI h43
       exact re [.int .i64 (-1)]
     refine qk (nt (qs (qr (oN 3 [(1, vi (w64 (s21.2 + 1)))] [5, 0] ?_))))
     refine oe (nt (qs (qs (qr (oN 2 [(22, vi s21.1), (21, .v (.slice a0_0 x0.length c0_0))] [1, 5, 0] ?_)))))
     obtain ⟨x44, hx45, h46⟩ := bS h42
     refine oi 3 (fun γ w hs => (hv0_0.kept hs.kept)) hx45 ?_
     refine oN 1 [(24, .q a0_0 (Int.toNat s21.1 * 3 + 1))] [1, 5, 0] ?_
     refine ol 3 1 (.int .i64 x44.Known) (fun γ w hs => (hv0_0.kept hs.kept).flatq hx45) ?_
     refine oN 2 [(27, vb (x44.Known != (w64 (s21.2 + 1))))] [1, 5, 0] ?_
     refine oe (nt (cC h46 (fun h48 => ?_) (fun h49 => ?_)))
     · refine qs (qr (oN 1 [(4, vi (-1))] [] ?_))
       refine oe (nt (qe (nr (br (nr (nr ?_))))))
       have h50 := leafR hd30 h48 h26
       refine br (nr (nr ?_))
       obtain rfl := sI h50
       exact re [.int .i64 (-1)]
     refine qk (nt (qs (qr (oN 3 [(1, vi (w64 ((w64 (s21.2 + 1)) + 1)))] [5, 0] ?_))))
     refine oe (nt (qs (qs (qr (oN 2 [(31, vi s21.1), (30, .v (.slice a0_0 x0.length c0_0))] [1, 5, 0] ?_)))))
     obtain ⟨x51, hx52, h53⟩ := bS h49
     refine oi 3 (fun γ w hs => (hv0_0.kept hs.kept)) hx52 ?_
     refine oN 1 [(33, .q a0_0 (Int.toNat s21.1 * 3 + 2))] [1, 5, 0] ?_
     refine ol 3 2 (.int .i64 x51.Value) (fun γ w hs => (hv0_0.kept hs.kept).flatq hx52) ?_
     refine oN 2 [(36, vb (x51.Value != (w64 ((w64 (s21.2 + 1)) + 1))))] [1, 5, 0] ?_
     refine oe (nt (cC h53 (fun h55 => ?_) (fun h56 => ?_)))
     · refine qs (qr (oN 1 [(4, vi (-1))] [] ?_))
       refine oe (nt (qe (nr (br (nr (nr ?_))))))
       have h57 := leafR hd30 h55 h26
       refine br (nr (nr ?_))
       obtain rfl := sI h57
       exact re [.int .i64 (-1)]
     refine qk (nt (qr (oN 3 [(1, vi (w64 ((w64 ((w64 (s21.2 + 1)) + 1)) + 1)))] [5, 0] ?_)))
     refine oe (bn (nt (qr (oN 3 [(5, vi (w64 (s21.1 + 1)))] [1, 0] ?_))))
     exact oe (ct h56 () [5, 0, 1] [] 0)
   refine qx (nx (nx (bh ?_)))
   have h58 := leafB hd30 h36 h26
   exact mp (s21.2, ()) h58 [1] [] 0
 have h33 := (congrFun hk28 _).symm.trans h33p
 refine nt (qs (qr (oN 2 [(4, vi y32.1)] [] ?_)))
 refine oe (nt (qe ?_))
 obtain rfl := sI h33
 exact re [.int .i64 y32.1]

theorem c_laws_heldSeries {W : World} {x0 : Series} {a0_0 : Option Addr} {c0_0 : Nat} {x1 : Int} {r : Int} (h : laws_heldSeries x0 x1 = some r) (hv0_0 : SlView W x0.Points a0_0 c0_0) :
    Gives0 Try.prog 27 #[vSeries x0 (a0_0, c0_0), .int .i64 x1] W (.int .i64 r) := by
 unfold laws_heldSeries at h
 refine en Try.func27 Try.ntmps27 ?_
 refine qs (qr (oB 2 [(2, .p 0 0)] [1] [(36, (eSeries x0 (a0_0, c0_0)))] ?_))
 refine oe (nt (qs (qr (oN 3 [(7, vi x1), (6, .v (.slice a0_0 x0.Points.length c0_0))] [] ?_))))
 obtain ⟨t21, h22, h23⟩ := bS h
 refine k0 (fun γ w hs => c_laws_heldPointS h22 (hv0_0.kept hs.kept)) ?_
 refine oN 1 [(1, vi t21)] [] ?_
 refine oe (nt (qs (qs (qr (oN 2 [(10, vb (decide (t21 < 0)))] [1] ?_)))))
 refine oe (nt (cC h23 (fun h26 => ?_) (fun h27 => ?_)))
 · refine qs (qr (oN 1 [(4, vi (-1))] [] ?_))
   refine oe (nt (qe (nr ?_)))
   obtain rfl := sI h26
   exact re [.int .i64 (-1)]
 refine qk (nt (qs (qr (oN 2 [(4, vi t21)] [] ?_))))
 refine oe (nt (qe ?_))
 obtain rfl := sI h27
 exact re [.int .i64 t21]

theorem c_laws_FnExactSeriesAsOf {W : World} {x0 : Series} {a0_0 : Option Addr} {c0_0 : Nat} {x1 : Int} {r : Bool} (h : laws_FnExactSeriesAsOf x0 x1 = some r) (hv0_0 : SlView W x0.Points a0_0 c0_0) :
    Gives0 Try.prog 4 #[vSeries x0 (a0_0, c0_0), .int .i64 x1] W (.bool r) := by
 unfold laws_FnExactSeriesAsOf at h
 refine en Try.func4 Try.ntmps4 ?_
 refine qs (qr (oB 2 [(2, .p 0 0)] [1] [(32, (eSeries x0 (a0_0, c0_0)))] ?_))
 refine oe (nt (qs (qr (oN 1 [(5, vi 1048576)] [2, 1] ?_))))
 refine oe (nt (qs (qr (oN 2 [(14, vi 1048576), (13, .v (vSeries x0 (a0_0, c0_0)))] [2, 1] ?_))))
 obtain ⟨t21, h22, h23⟩ := bS h
 refine k0 (fun γ w hs => c_laws_szSeries h22 (hv0_0.kept hs.kept)) ?_
 refine oN 1 [(5, vi t21)] [2, 1] ?_
 refine oe (nt (qs (qs (qr (oN 2 [(17, vb (decide (t21 < 0)))] [2, 1] ?_)))))
 refine oe (nt (cC h23 (fun h26 => ?_) (fun h27 => ?_)))
 · refine qs (qr (oN 1 [(4, vb true)] [] ?_))
   refine oe (nt (qe (nr ?_)))
   obtain rfl := sI h26
   exact re [.bool true]
 refine qk (nt (qs (qr (oN 1 [(18, .v (vSeries x0 (a0_0, c0_0)))] [2, 1] ?_))))
 obtain ⟨t28, h29, h30⟩ := bS h27
 refine k1 (fun γ w hs => c_laws_toSeries h29 (hv0_0.kept hs.kept)) (fun y31 => ?_)
 refine oN 1 [(20, vi x1)] [19, 2, 1] ?_
 obtain ⟨t32, h33, h34⟩ := bS h30
 refine k1 (fun γ w hs => c_spec_SeriesAsOf h33 (hs.view 0 rfl)) (fun y35 => ?_)
 refine oB 2 [(6, .p 1 0)] [2, 1] [(32, (eSeries x0 (a0_0, c0_0))), (36, (eSeries t32 y35))] ?_
 refine oe (nt (qs (qr (oN 1 [(22, .v (vSeries x0 (a0_0, c0_0)))] [6, 2, 1] ?_))))
 obtain ⟨t36, h37, h38⟩ := bS h34
 refine k1 (fun γ w hs => c_laws_toSeries h37 (hv0_0.kept hs.kept)) (fun y39 => ?_)
 refine oB 2 [(7, .p 2 0)] [6, 2, 1] [(32, (eSeries x0 (a0_0, c0_0))), (36, (eSeries t32 y35)), (36, (eSeries t36 y39))] ?_
 refine oe (nt (qs (qr (oN 2 [(25, vi x1), (24, .v (vSeries t36 y39))] [7, 6, 2, 1] ?_))))
 obtain ⟨t40, h41, h42⟩ := bS h38
 refine k1 (fun γ w hs => c_impl_SeriesAsOf h41 (hs.view 0 rfl)) (fun y43 => ?_)
 refine oB 2 [(8, .p 3 0)] [7, 6, 2, 1] [(32, (eSeries x0 (a0_0, c0_0))), (36, (eSeries t32 y35)), (36, (eSeries t36 y39)), (36, (eSeries t40 y43))] ?_
 refine oe (nt (qs (qs (qr (oN 2 [(28, .v (vSeries t32 y35)), (27, .v (vSeries t40 y43))] [8, 7, 6, 2, 1] ?_)))))
 obtain ⟨t44, h45, h46⟩ := bS h42
 refine k0 (fun γ w hs => c_laws_eqSeries h45 (hs.view 0 rfl) (hs.view 2 rfl)) ?_
 refine oN 1 [(30, vb (!t44))] [8, 7, 6, 2, 1] ?_
 refine oe (nt (cC h46 (fun h49 => ?_) (fun h50 => ?_)))
 · refine qs (qr (oN 1 [(4, vb false)] [] ?_))
   refine oe (nt (qe (nr ?_)))
   obtain rfl := sI h49
   exact re [.bool false]
 refine qk (nt (qs (qs ?_)))
 obtain ⟨t51, h52, h53⟩ := bS h50
 obtain ⟨t55, h56, h57⟩ := bS h53
 refine JC_cut (τ := Unit) (fun _ => [(35, vb (!t55)), (8, .p 3 0), (7, .p 2 0), (6, .p 1 0), (2, .p 0 0), (1, vi x1)]) (fun _ => [(32, (eSeries x0 (a0_0, c0_0))), (36, (eSeries t32 y35)), (36, (eSeries t36 y39)), (36, (eSeries t40 y43))]) (fun _ => [SlRes 63 t40.Points y43.1 y43.2, SlRes 63 t36.Points y39.1 y39.2, SlRes 63 t32.Points y35.1 y35.2, SlRes 63 t28.Points y31.1 y31.2]) ?_ (fun _ => ?_)
 · refine jw [8, 7, 6, 2, 1] [0, 0, 0, 0] ?_
   refine JC_heldN (ks := [0, 1, 2, 3]) (Rk := [SlRes 63 t40.Points y43.1 y43.2, SlRes 63 t36.Points y39.1 y39.2, SlRes 63 t32.Points y35.1 y35.2, SlRes 63 t28.Points y31.1 y31.2]) 5 (by kernel_rfl) (by kernel_rfl) ?_
   refine htq 0 (.v (vSeries t36 y39)) [0, 0, 0, 0] ?_
   refine htq 1 (.v (vSeries x0 (a0_0, c0_0))) [0, 0, 0, 0] ?_
   refine ha1 2 ?_
   refine hi (fun γ0 δ hm => ?_)
   refine g1 (fun w hs => c_laws_toSeries h52 (hv0_0.kept hs.kept)) (fun y54 => ?_)
   refine gn hm [33, 31, 8, 7, 6, 2, 1] [1, 1, 1, 1] ?_
   refine ha1 3 ?_
   refine hi (fun γ0 δ hm => ?_)
   refine g0 (fun w hs => c_laws_eqSeries h56 (hs.view 2 rfl) (hs.view 0 rfl)) ?_
   refine gn hm [34, 8, 7, 6, 2, 1] [1, 1, 1, 1] ?_
   refine htq 4 (vb (!t55)) [1, 1, 1, 1] ?_
   refine hk [35, 8, 7, 6, 2, 1] ?_
   exact hd () [35, 8, 7, 6, 2, 1] [1, 1, 1, 1] 4
 refine nt (cC h57 (fun h61 => ?_) (fun h62 => ?_))
 · refine qs (qr (oN 1 [(4, vb false)] [] ?_))
   refine oe (nt (qe (nr ?_)))
   obtain rfl := sI h61
   exact re [.bool false]
 refine qk (nt (qs (qr (oN 1 [(9, vi 1)] [8, 7, 6, 2, 1] ?_))))
 refine oe (nt (qs (qr (oN 2 [(37, vi 1), (36, .v (vSeries t36 y39))] [8, 6, 2, 1] ?_))))
 refine or_ [1, 0, 0, 0] ?_
 obtain ⟨t63, h64, h65⟩ := bS h62
 obtain ⟨u67, hu68, h69⟩ := bS h65
 have hl70 := (sameLen_some hu68).symm
 refine JO_callM rfl (by kernel_rfl) (f := 26) (args := #[vSeries t36 y39, .int .i64 1]) (by kernel_rfl) (x := .int .i64 t63.1) (Rin := [SlRes 63 t36.Points y39.1 y39.2]) (Rout := [SlRes 63 t63.2 y39.1 y39.2]) (Rr := [SlRes 63 t40.Points y43.1 y43.2, SlRes 63 t32.Points y35.1 y35.2, SlRes 63 t28.Points y31.1 y31.2]) rfl (fun w => (by have vv := c_laws_markSeries (e0_0 := 63) (a0_0 := y39.1) (c0_0 := y39.2) (W := w) h64; exact vv)) (sl' := [(38, vi t63.1), (37, vi 1), (36, .v (vSeries t36 y39)), (8, .p 3 0), (6, .p 1 0), (2, .p 0 0), (1, vi x1)]) (by kernel_rfl) ?_
 refine JO_eqE (sl' := [(38, vi t63.1), (37, vi 1), (36, .v (vSeries (Series.mk t63.2) y39)), (8, .p 3 0), (6, .p 1 0), (2, .p 0 0), (1, vi x1)]) (bx' := [(32, (eSeries x0 (a0_0, c0_0))), (36, (eSeries t32 y35)), (36, (eSeries (Series.mk t63.2) y39)), (36, (eSeries t40 y43))]) (by simp only [eSeries, vSeries, hl70]) (by simp only [eSeries, vSeries, hl70]) ?_
 refine oN 1 [(9, vi t63.1)] [8, 6, 2, 1] ?_
 refine oe (nt (qs (qs ?_)))
 obtain ⟨p71, hE72, h73⟩ := bS h69
 refine JC_cut (τ := Unit) (fun _ => [(1, vi x1), (2, .p 0 0), (6, .p 1 0), (8, .p 3 0), (46, vb p71)]) (fun _ => [(32, (eSeries x0 (a0_0, c0_0))), (36, (eSeries t32 y35)), (36, (eSeries (Series.mk t63.2) y39)), (36, (eSeries t40 y43))]) (fun _ => [SlRes 63 t32.Points y35.1 y35.2, SlRes 63 t63.2 y39.1 y39.2, SlRes 63 t40.Points y43.1 y43.2]) ?_ (fun _ => ?_)
 · refine qr (oN 3 [(41, vb (decide (t63.1 < 0)))] [8, 6, 2, 1] ?_)
   refine oS 41 hE72 (fun h75 => ?_) (fun h76 => ?_)
   · refine oN 5 [(46, vb true)] [8, 6, 2, 1] ?_
     refine oe ?_
     obtain rfl := sI h75
     exact mt () [1, 2, 6, 8, 46] [2, 0, 0] 4
   refine oN 2 [(43, .v (vSeries t32 y35)), (42, .v (vSeries t40 y43))] [41, 8, 6, 2, 1] ?_
   obtain ⟨t77, h78, h79⟩ := bS h76
   refine k0 (fun γ w hs => c_laws_eqSeries h78 (hs.view 1 rfl) (hs.view 2 rfl)) ?_
   refine oN 2 [(46, vb (!t77))] [8, 6, 2, 1] ?_
   refine oe ?_
   obtain rfl := sI h79
   exact mt () [1, 2, 6, 8, 46] [2, 0, 0] 4
 refine nt (cC h73 (fun h82 => ?_) (fun h83 => ?_))
 · refine qs (qr (oN 1 [(4, vb false)] [] ?_))
   refine oe (nt (qe (nr ?_)))
   obtain rfl := sI h82
   exact re [.bool false]
 refine qk (nt (qs (qr (oN 1 [(10, vi 1)] [1, 2, 6, 8] ?_))))
 refine oe (nt (qs (qr (oN 2 [(48, vi 1), (47, .v (vSeries t40 y43))] [1, 2, 6, 8] ?_))))
 refine or_ [2, 0, 0] ?_
 obtain ⟨t84, h85, h86⟩ := bS h83
 obtain ⟨u88, hu89, h90⟩ := bS h86
 have hl91 := (sameLen_some hu89).symm
 refine JO_callM rfl (by kernel_rfl) (f := 26) (args := #[vSeries t40 y43, .int .i64 1]) (by kernel_rfl) (x := .int .i64 t84.1) (Rin := [SlRes 63 t40.Points y43.1 y43.2]) (Rout := [SlRes 63 t84.2 y43.1 y43.2]) (Rr := [SlRes 63 t32.Points y35.1 y35.2, SlRes 63 t63.2 y39.1 y39.2]) rfl (fun w => (by have vv := c_laws_markSeries (e0_0 := 63) (a0_0 := y43.1) (c0_0 := y43.2) (W := w) h85; exact vv)) (sl' := [(49, vi t84.1), (48, vi 1), (47, .v (vSeries t40 y43)), (1, vi x1), (2, .p 0 0), (6, .p 1 0), (8, .p 3 0)]) (by kernel_rfl) ?_
 refine JO_eqE (sl' := [(49, vi t84.1), (48, vi 1), (47, .v (vSeries (Series.mk t84.2) y43)), (1, vi x1), (2, .p 0 0), (6, .p 1 0), (8, .p 3 0)]) (bx' := [(32, (eSeries x0 (a0_0, c0_0))), (36, (eSeries t32 y35)), (36, (eSeries (Series.mk t63.2) y39)), (36, (eSeries (Series.mk t84.2) y43))]) (by simp only [eSeries, vSeries, hl91]) (by simp only [eSeries, vSeries, hl91]) ?_
 refine oN 1 [(10, vi t84.1)] [1, 2, 6, 8] ?_
 refine oe (nt (qs (qr (oN 1 [(11, vi 1)] [10, 1, 2, 6, 8] ?_))))
 refine oe (nt (qs (qr (oN 2 [(51, vi 1), (50, .v (vSeries (Series.mk t84.2) y43))] [10, 1, 2, 6, 8] ?_))))
 obtain ⟨t92, h93, h94⟩ := bS h90
 refine k0 (fun γ w hs => c_laws_heldSeries h93 (hs.view 0 rfl)) ?_
 refine oN 1 [(11, vi t92)] [10, 1, 2, 6, 8] ?_
 refine oe (nt (qs (qs (qr (oN 2 [(54, vb (decide (t92 < 0)))] [11, 10, 1, 2, 6, 8] ?_)))))
 refine oe (nt (cC h94 (fun h97 => ?_) (fun h98 => ?_)))
 · refine qs (qr (oN 1 [(4, vb false)] [] ?_))
   refine oe (nt (qe (nr ?_)))
   obtain rfl := sI h97
   exact re [.bool false]
 refine qk (nt (qs (qs (qr (oN 3 [(57, vb (t92 != t84.1))] [10, 1, 2, 6, 8] ?_)))))
 refine oe (nt (cC h98 (fun h100 => ?_) (fun h101 => ?_)))
 · refine qs (qr (oN 1 [(4, vb false)] [] ?_))
   refine oe (nt (qe (nr ?_)))
   obtain rfl := sI h100
   exact re [.bool false]
 refine qk (nt (qs (qr (oN 1 [(58, .v (vSeries x0 (a0_0, c0_0)))] [10, 1, 6, 8] ?_))))
 obtain ⟨t102, h103, h104⟩ := bS h101
 refine k1 (fun γ w hs => c_laws_toSeries h103 (hv0_0.kept hs.kept)) (fun y105 => ?_)
 refine oN 1 [(60, vi x1)] [59, 10, 6, 8] ?_
 obtain ⟨t106, h107, h108⟩ := bS h104
 refine k1 (fun γ w hs => c_impl_SeriesAsOf h107 (hs.view 0 rfl)) (fun y109 => ?_)
 refine oB 2 [(12, .p 4 0)] [10, 6, 8] [(32, (eSeries x0 (a0_0, c0_0))), (36, (eSeries t32 y35)), (36, (eSeries (Series.mk t63.2) y39)), (36, (eSeries (Series.mk t84.2) y43)), (36, (eSeries t106 y109))] ?_
 refine oe (nt (qs (qs (qr (oN 2 [(63, .v (vSeries t32 y35)), (62, .v (vSeries t106 y109))] [10, 8] ?_)))))
 obtain ⟨t110, h111, h112⟩ := bS h108
 refine k0 (fun γ w hs => c_laws_eqSeries h111 (hs.view 0 rfl) (hs.view 3 rfl)) ?_
 refine oN 1 [(65, vb (!t110))] [10, 8] ?_
 refine oe (nt (cC h112 (fun h115 => ?_) (fun h116 => ?_)))
 · refine qs (qr (oN 1 [(4, vb false)] [] ?_))
   refine oe (nt (qe (nr ?_)))
   obtain rfl := sI h115
   exact re [.bool false]
 refine qk (nt (qs (qr (oN 1 [(11, vi 1)] [10, 8] ?_))))
 refine oe (nt (qs (qr (oN 2 [(67, vi 1), (66, .v (vSeries (Series.mk t84.2) y43))] [10] ?_))))
 obtain ⟨t117, h118, h119⟩ := bS h116
 refine k0 (fun γ w hs => c_laws_heldSeries h118 (hs.view 2 rfl)) ?_
 refine oN 1 [(11, vi t117)] [10] ?_
 refine oe (nt (qs (qs (qr (oN 2 [(70, vb (decide (t117 < 0)))] [11, 10] ?_)))))
 refine oe (nt (cC h119 (fun h122 => ?_) (fun h123 => ?_)))
 · refine qs (qr (oN 1 [(4, vb false)] [] ?_))
   refine oe (nt (qe (nr ?_)))
   obtain rfl := sI h122
   exact re [.bool false]
 refine qk (nt (qs (qs (qr (oN 3 [(73, vb (t117 != t84.1))] [] ?_)))))
 refine oe (nt (cC h123 (fun h125 => ?_) (fun h126 => ?_)))
 · refine qs (qr (oN 1 [(4, vb false)] [] ?_))
   refine oe (nt (qe (nr ?_)))
   obtain rfl := sI h125
   exact re [.bool false]
 refine qk (nt (qs (qr (oN 1 [(4, vb true)] [] ?_))))
 refine oe (nt (qe ?_))
 obtain rfl := sI h126
 exact re [.bool true]
end Go.Pen
