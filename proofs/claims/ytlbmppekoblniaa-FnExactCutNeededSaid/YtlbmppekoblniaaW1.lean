/-
  Each Go function does what its plain function says: written by a program of ours.
-/
import Derived.Test.YtlbmppekoblniaaF
import Derived.Test.YtlbmppekoblniaaProg
import Derived.Test.YtlbmppekoblniaaPenK
import Derived.Test.YtlbmppekoblniaaPenJ
import Derived.Test.YtlbmppekoblniaaPenM
namespace Go.Pen
open Go.Proofs Go.RowKit
set_option linter.unusedVariables false
set_option linter.unusedSimpArgs false
set_option maxRecDepth 100000
set_option maxHeartbeats 4000000

theorem c_laws_toIntS {W : World} {x0 : List Int} {a0_0 : Option Addr} {c0_0 : Nat} {r : (List Int)} (h : laws_toIntS x0 = some r) (hv0_0 : SlView W x0 a0_0 c0_0) :
    Gives Try.prog 8 #[.slice a0_0 x0.length c0_0] W (fun y : AC => .slice y.1 r.length y.2) (fun y => [SlRes 3 r y.1 y.2]) := by
 unfold laws_toIntS at h
 refine en Try.func8 Try.ntmps8 ?_
 refine qs (qr (oN 1 [] [0] ?_))
 refine oe (nt (qs (qr (oN 2 [(6, vi (x0.length : Int))] [0] ?_))))
 obtain ⟨l22, hm23, h24⟩ := bS h
 refine JO_make (α := Int) rfl (by kernel_rfl) (t := 22) (e := 3) (m := (x0.length : Int)) (by kernel_rfl) (i := Try.t3) (by kernel_rfl) (z := (.int .i64 0)) (by kernel_rfl) (by kernel_rfl) (by kernel_rfl) (by kernel_rfl) (fun w => ⟨rfl, rfl⟩) hm23 _ (fun _ => rfl) (fun y21 => ?_)
 refine oN 1 [(3, .v (.slice y21.1 l22.length y21.2))] [0] ?_
 refine oe (nt (qs (qs (qr (oN 1 [(4, vi 0)] [3, 0] ?_)))))
 refine oe (nt ?_)
 obtain ⟨r28, hL29, h30⟩ := bS h24
 obtain ⟨k31, hk32, h30⟩ := brkS h30
 refine JC_cutP (τ := ((List Int)) × (Unit)) (fun y => k31 y.1 = some r) (fun y36 => [(3, .v (.slice y21.1 y36.1.length y21.2))]) (fun y36 => []) (fun y36 => [SlRes 3 y36.1 y21.1 y21.2]) ?_ (fun y36 h37p => ?_)
 · refine qb (lp Unit hL29 (fun s25 y26 => [(4, vi s25.1), (3, .v (.slice y21.1 s25.2.length y21.2)), (0, .v (.slice a0_0 x0.length c0_0))]) (fun s25 y26 => []) (fun s25 y26 => [SlRes 3 s25.2 y21.1 y21.2]) () [4, 3, 0] [0] 0 (fun s25 y26 t27 h33 hd34 => ?_))
   refine qs (qs (qr (oN 4 [(11, vb (decide (s25.1 < (x0.length : Int))))] [4, 3, 0] ?_)))
   refine oe (nt (cC h33 (fun h39 => ?_) (fun h40 => ?_)))
   · refine qk (nt (qs (qb (qr (oN 4 [(17, vi s25.1), (16, .v (.slice a0_0 x0.length c0_0)), (15, vi s25.1), (14, .v (.slice y21.1 s25.2.length y21.2))] [4, 3, 0] ?_)))))
     obtain ⟨x41, hx42, h43⟩ := bS h39
     refine oi 1 (fun γ w hs => (hv0_0.kept hs.kept)) hx42 ?_
     refine ol 3 0 (.int .i64 x41) (fun γ w hs => (hv0_0.kept hs.kept).flatq hx42) ?_
     obtain ⟨x44, hx45, h46⟩ := bS h43
     refine oi 1 (fun γ w hs => (hs.view 0 rfl)) hx45 ?_
     obtain ⟨l47, hm48, h49⟩ := bS h46
     replace hm48 := (sI hm48).symm
     refine JO_storeq (α := Int) (d := y21.1) (vs := [.int .i64 x41]) (j := s25.1) (x' := x41) rfl (by kernel_rfl) 0 (by kernel_rfl) hx45 (Rc := []) (Rr := []) rfl (by kernel_rfl) (fun w c F Fs ho _ _ => own_flat_set (by kernel_rfl) ho) hm48 rfl ?_
     have hl50 := len_set hm48
     refine JO_keep [19, 18, 17, 16, 15, 14, 4, 3, 0] (sl' := [(19, vi x41), (18, .q a0_0 (Int.toNat s25.1 * 1)), (17, vi s25.1), (16, .v (.slice a0_0 x0.length c0_0)), (15, vi s25.1), (14, .v (.slice y21.1 s25.2.length y21.2)), (4, vi s25.1), (3, .v (.slice y21.1 s25.2.length y21.2)), (0, .v (.slice a0_0 x0.length c0_0))]) (by kernel_rfl) ?_
     refine JO_eqE (sl' := [(19, vi x41), (18, .q a0_0 (Int.toNat s25.1 * 1)), (17, vi s25.1), (16, .v (.slice a0_0 x0.length c0_0)), (15, vi s25.1), (14, .v (.slice y21.1 l47.length y21.2)), (4, vi s25.1), (3, .v (.slice y21.1 l47.length y21.2)), (0, .v (.slice a0_0 x0.length c0_0))]) (bx' := []) (by simp only [hl50]) rfl ?_
     refine oe (bn (nt (qr (oN 3 [(4, vi (w64 (s25.1 + 1)))] [3, 0] ?_))))
     exact oe (ct h49 () [4, 3, 0] [0] 0)
   refine qx (nx (nx (bh ?_)))
   have h51 := leafB hd34 h40 h30
   exact mp (s25.2, ()) h51 [3] [0] 0
 have h37 := (congrFun hk32 _).symm.trans h37p
 refine nt (qs (qr (oN 2 [(2, .v (.slice y21.1 y36.1.length y21.2))] [] ?_)))
 refine oe (nt (qe (rt [.slice y21.1 y36.1.length y21.2] (fun γ w hs => ?_))))
 rw [← sI h37]
 exact ⟨y21, rfl, hs.kept.toBelow, (hs.takeR (is := [0]) rfl).fresh⟩

theorem c_spec_l01In {W : World} {x0 : Int} {x1 : Int} {x2 : Int} {r : Bool} (h : spec_l01In x0 x1 x2 = some r)  :
    Gives0 Try.prog 29 #[.int .i64 x0, .int .i64 x1, .int .i64 x2] W (.bool r) := by
 unfold spec_l01In at h
 refine en Try.func29 Try.ntmps29 ?_
 refine qs (qr (oN 1 [] [0, 1, 2] ?_))
 refine oe (nt (qs ?_))
 obtain ⟨p21, hE22, h23⟩ := bS h
 refine JC_cut (τ := Unit) (fun _ => [(6, vb p21)]) (fun _ => []) (fun _ => []) ?_ (fun _ => ?_)
 · refine qr (oN 4 [(10, vb (decide (x0 ≥ x1)))] [0, 2] ?_)
   refine oS 10 hE22 (fun h25 => ?_) (fun h26 => ?_)
   · refine oN 5 [(6, vb (decide (x0 ≤ x2)))] [] ?_
     refine oe ?_
     obtain rfl := sI h25
     exact mt () [6] [] 0
   refine oN 5 [(6, vb false)] [] ?_
   refine oe ?_
   obtain rfl := sI h26
   exact mt () [6] [] 0
 refine nt (qe ?_)
 obtain rfl := sI h23
 exact re [.bool p21]

theorem c_spec_l31Ask {W : World} {x0 : List Int} {a0_0 : Option Addr} {c0_0 : Nat} {x1 : Int} {r : Bool} (h : spec_l31Ask x0 x1 = some r) (hv0_0 : SlView W x0 a0_0 c0_0) :
    Gives0 Try.prog 21 #[.slice a0_0 x0.length c0_0, .int .i64 x1] W (.bool r) := by
 unfold spec_l31Ask at h
 refine en Try.func21 Try.ntmps21 ?_
 refine qs (qr (oN 1 [] [0, 1] ?_))
 refine oe (nt (qs (qs (qr (oN 1 [(5, vi 0)] [0, 1] ?_)))))
 refine oe (nt ?_)
 obtain ⟨r24, hL25, h26⟩ := bS h
 obtain ⟨k27, hk28, h26⟩ := brkS h26
 refine JC_cutP (τ := (Int) × (Unit)) (fun y => k27 y.1 = some r) (fun y32 => [(0, .v (.slice a0_0 x0.length c0_0)), (1, vi y32.1)]) (fun y32 => []) (fun y32 => []) ?_ (fun y32 h33p => ?_)
 · refine qb (lp Unit hL25 (fun s21 y22 => [(5, vi s21), (0, .v (.slice a0_0 x0.length c0_0)), (1, vi x1)]) (fun s21 y22 => []) (fun s21 y22 => []) () [5, 0, 1] [] 0 (fun s21 y22 t23 h29 hd30 => ?_))
   refine qs (qs (qr (oN 4 [(9, vb (decide (s21 < (x0.length : Int))))] [5, 0, 1] ?_)))
   refine oe (nt (cC h29 (fun h45 => ?_) (fun h46 => ?_)))
   · refine qk (nt (qs (qb (qs (qr (oN 2 [(13, vi s21), (12, .v (.slice a0_0 x0.length c0_0))] [5, 0, 1] ?_))))))
     obtain ⟨x47, hx48, h49⟩ := bS h45
     refine oi 1 (fun γ w hs => (hv0_0.kept hs.kept)) hx48 ?_
     refine ol 3 0 (.int .i64 x47) (fun γ w hs => (hv0_0.kept hs.kept).flatq hx48) ?_
     obtain ⟨t50, h51, h52⟩ := bS h49
     refine k0 (fun γ w hs => c_spec_l01In h51) ?_
     refine oN 1 [(17, vb (!t50))] [5, 0, 1] ?_
     refine oe (nt (cC h52 (fun h55 => ?_) (fun h56 => ?_)))
     · refine qs (qr (oN 1 [(4, vb false)] [] ?_))
       refine oe (nt (qe (br (nr (nr ?_)))))
       have h57 := leafR hd30 h55 h26
       refine br (nr (nr ?_))
       obtain rfl := sI h57
       exact re [.bool false]
     refine qk (bn (nt (qr (oN 3 [(5, vi (w64 (s21 + 1)))] [0, 1] ?_))))
     exact oe (ct h56 () [5, 0, 1] [] 0)
   refine qx (nx (nx (bh ?_)))
   have h58 := leafB hd30 h46 h26
   exact mp (x1, ()) h58 [0, 1] [] 0
 have h33 := (congrFun hk28 _).symm.trans h33p
 refine nt (qs ?_)
 obtain ⟨p34, hE35, h36⟩ := bS h33
 refine JC_cut (τ := Unit) (fun _ => [(4, vb p34)]) (fun _ => []) (fun _ => []) ?_ (fun _ => ?_)
 · refine qr (oN 4 [(21, vb (decide ((x0.length : Int) ≤ 40)))] [1] ?_)
   refine oS 21 hE35 (fun h38 => ?_) (fun h39 => ?_)
   · refine oN 1 [(22, vi y32.1)] [21] ?_
     obtain ⟨t40, h41, h42⟩ := bS h38
     refine k0 (fun γ w hs => c_spec_l01In h41) ?_
     refine oN 2 [(4, vb t40)] [] ?_
     refine oe ?_
     obtain rfl := sI h42
     exact mt () [4] [] 0
   refine oN 4 [(4, vb false)] [] ?_
   refine oe ?_
   obtain rfl := sI h39
   exact mt () [4] [] 0
 refine nt (qe ?_)
 obtain rfl := sI h36
 exact re [.bool p34]

theorem c_spec_l31Sum {W : World} {x0 : List Int} {a0_0 : Option Addr} {c0_0 : Nat} {r : Int} (h : spec_l31Sum x0 = some r) (hv0_0 : SlView W x0 a0_0 c0_0) :
    Gives0 Try.prog 23 #[.slice a0_0 x0.length c0_0] W (.int .i64 r) := by
 unfold spec_l31Sum at h
 refine en Try.func23 Try.ntmps23 ?_
 refine qs (qr (oN 1 [] [0] ?_))
 refine oe (nt (qs (qr (oN 1 [(3, vi 0)] [0] ?_))))
 refine oe (nt (qs (qs (qr (oN 1 [(4, vi 0)] [3, 0] ?_)))))
 refine oe (nt ?_)
 obtain ⟨r24, hL25, h26⟩ := bS h
 obtain ⟨k27, hk28, h26⟩ := brkS h26
 refine JC_cutP (τ := (Int) × (Unit)) (fun y => k27 y.1 = some r) (fun y32 => [(3, vi y32.1)]) (fun y32 => []) (fun y32 => []) ?_ (fun y32 h33p => ?_)
 · refine qb (lp Unit hL25 (fun s21 y22 => [(4, vi s21.1), (3, vi s21.2), (0, .v (.slice a0_0 x0.length c0_0))]) (fun s21 y22 => []) (fun s21 y22 => []) () [4, 3, 0] [] 0 (fun s21 y22 t23 h29 hd30 => ?_))
   refine qs (qs (qr (oN 4 [(8, vb (decide (s21.1 < (x0.length : Int))))] [4, 3, 0] ?_)))
   refine oe (nt (cC h29 (fun h35 => ?_) (fun h36 => ?_)))
   · refine qk (nt (qs (qb (qr (oN 3 [(13, vi s21.1), (12, .v (.slice a0_0 x0.length c0_0)), (11, vi s21.2)] [4, 0] ?_)))))
     obtain ⟨x37, hx38, h39⟩ := bS h35
     refine oi 1 (fun γ w hs => (hv0_0.kept hs.kept)) hx38 ?_
     refine ol 3 0 (.int .i64 x37) (fun γ w hs => (hv0_0.kept hs.kept).flatq hx38) ?_
     refine oN 2 [(3, vi (w64 (s21.2 + x37)))] [4, 0] ?_
     refine oe (bn (nt (qr (oN 3 [(4, vi (w64 (s21.1 + 1)))] [3, 0] ?_))))
     exact oe (ct h39 () [4, 3, 0] [] 0)
   refine qx (nx (nx (bh ?_)))
   have h40 := leafB hd30 h36 h26
   exact mp (s21.2, ()) h40 [3] [] 0
 have h33 := (congrFun hk28 _).symm.trans h33p
 refine nt (qs (qr (oN 2 [(2, vi y32.1)] [] ?_)))
 refine oe (nt (qe ?_))
 obtain rfl := sI h33
 exact re [.int .i64 y32.1]

theorem c_spec_CutNeeded {W : World} {x0 : Int} {x1 : List Int} {a1_0 : Option Addr} {c1_0 : Nat} {x2 : Int} {r : Int} (h : spec_CutNeeded x0 x1 x2 = some r) (hv1_0 : SlView W x1 a1_0 c1_0) :
    Gives0 Try.prog 13 #[.int .i64 x0, .slice a1_0 x1.length c1_0, .int .i64 x2] W (.int .i64 r) := by
 unfold spec_CutNeeded at h
 refine en Try.func13 Try.ntmps13 ?_
 refine qs (qr (oN 1 [] [0, 1, 2] ?_))
 refine oe (nt (qs (qs ?_)))
 obtain ⟨p21, hE22, h23⟩ := bS h
 refine JC_cut (τ := Unit) (fun _ => [(0, vi x0), (1, .v (.slice a1_0 x1.length c1_0)), (2, vi x2), (21, vb p21)]) (fun _ => []) (fun _ => []) ?_ (fun _ => ?_)
 · refine qr (oN 1 [(9, vi x0)] [0, 1, 2] ?_)
   obtain ⟨t24, h25, h26⟩ := bS hE22
   refine k0 (fun γ w hs => c_spec_l01In h25) ?_
   refine oN 2 [(12, vb (!t24))] [0, 1, 2] ?_
   refine oS 12 h26 (fun h29 => ?_) (fun h30 => ?_)
   · refine oN 9 [(21, vb true)] [0, 1, 2] ?_
     refine oe ?_
     obtain rfl := sI h29
     exact mt () [0, 1, 2, 21] [] 0
   refine oN 1 [(13, vi x2)] [12, 0, 1, 2] ?_
   obtain ⟨t31, h32, h33⟩ := bS h30
   refine k0 (fun γ w hs => c_spec_l01In h32) ?_
   refine oN 3 [(17, vb (!t31))] [0, 1, 2] ?_
   refine oS 17 h33 (fun h36 => ?_) (fun h37 => ?_)
   · refine oN 4 [(21, vb true)] [0, 1, 2] ?_
     refine oe ?_
     obtain rfl := sI h36
     exact mt () [0, 1, 2, 21] [] 0
   refine oN 1 [(18, .v (.slice a1_0 x1.length c1_0))] [17, 0, 1, 2] ?_
   obtain ⟨t38, h39, h40⟩ := bS h37
   refine k0 (fun γ w hs => c_spec_l31Ask h39 (hv1_0.kept hs.kept)) ?_
   refine oN 2 [(21, vb (!t38))] [0, 1, 2] ?_
   refine oe ?_
   obtain rfl := sI h40
   exact mt () [0, 1, 2, 21] [] 0
 refine nt (cC h23 (fun h43 => ?_) (fun h44 => ?_))
 · refine qs (qr (oN 1 [(6, vi (-1))] [] ?_))
   refine oe (nt (qe (nr ?_)))
   obtain rfl := sI h43
   exact re [.int .i64 (-1)]
 refine qk (nt (qs (qr (oN 1 [(22, .v (.slice a1_0 x1.length c1_0))] [0, 2] ?_))))
 obtain ⟨t45, h46, h47⟩ := bS h44
 refine k0 (fun γ w hs => c_spec_l31Sum h46 (hv1_0.kept hs.kept)) ?_
 refine oN 1 [(7, vi t45)] [0, 2] ?_
 refine oe (nt (qs (qs (qr (oN 1 [(8, vi 0)] [7, 0, 2] ?_)))))
 refine oe (nt ?_)
 obtain ⟨r52, hL53, h54⟩ := bS h47
 obtain ⟨k55, hk56, h54⟩ := brkS h54
 refine JC_cutP (τ := (Unit) × (Unit)) (fun y => k55 y.1 = some r) (fun y60 => []) (fun y60 => []) (fun y60 => []) ?_ (fun y60 h61p => ?_)
 · refine qb (lp Unit hL53 (fun s49 y50 => [(8, vi s49), (7, vi t45), (0, vi x0), (2, vi x2)]) (fun s49 y50 => []) (fun s49 y50 => []) () [8, 7, 0, 2] [] 0 (fun s49 y50 t51 h57 hd58 => ?_))
   refine qs (qs (qr (oN 2 [(25, vb (decide (s49 < 1000)))] [8, 7, 0, 2] ?_)))
   refine oe (nt (cC h57 (fun h63 => ?_) (fun h64 => ?_)))
   · refine qk (nt (qs (qb (qs (qr (oN 10 [(37, vb (decide ((w64 ((w64 (t45 - (w64 (Int.tdiv (w64 (t45 * s49)) 1000)))) * x2)) ≤ x0)))] [8, 7, 0, 2] ?_))))))
     refine oe (nt (cC h63 (fun h66 => ?_) (fun h67 => ?_)))
     · refine qs (qr (oN 2 [(6, vi s49)] [] ?_))
       refine oe (nt (qe (br (nr (nr ?_)))))
       have h68 := leafR hd58 h66 h54
       refine br (nr (nr ?_))
       obtain rfl := sI h68
       exact re [.int .i64 s49]
     refine qk (bn (nt (qr (oN 3 [(8, vi (w64 (s49 + 1)))] [7, 0, 2] ?_))))
     exact oe (ct h67 () [8, 7, 0, 2] [] 0)
   refine qx (nx (nx (bh ?_)))
   have h69 := leafB hd58 h64 h54
   exact mp ((), ()) h69 [] [] 0
 have h61 := (congrFun hk56 _).symm.trans h61p
 refine nt (qs (qr (oN 1 [(6, vi 1000)] [] ?_)))
 refine oe (nt (qe ?_))
 obtain rfl := sI h61
 exact re [.int .i64 1000]

theorem c_impl_within {W : World} {x0 : Int} {x1 : Int} {x2 : Int} {r : Bool} (h : impl_within x0 x1 x2 = some r)  :
    Gives0 Try.prog 25 #[.int .i64 x0, .int .i64 x1, .int .i64 x2] W (.bool r) := by
 unfold impl_within at h
 refine en Try.func25 Try.ntmps25 ?_
 refine qs (qr (oN 1 [] [0, 1, 2] ?_))
 refine oe (nt (qs ?_))
 obtain ⟨p21, hE22, h23⟩ := bS h
 refine JC_cut (τ := Unit) (fun _ => [(6, vb p21)]) (fun _ => []) (fun _ => []) ?_ (fun _ => ?_)
 · refine qr (oN 4 [(10, vb (decide (x1 ≤ x0)))] [0, 2] ?_)
   refine oS 10 hE22 (fun h25 => ?_) (fun h26 => ?_)
   · refine oN 5 [(6, vb (decide (x0 ≤ x2)))] [] ?_
     refine oe ?_
     obtain rfl := sI h25
     exact mt () [6] [] 0
   refine oN 5 [(6, vb false)] [] ?_
   refine oe ?_
   obtain rfl := sI h26
   exact mt () [6] [] 0
 refine nt (qe ?_)
 obtain rfl := sI h23
 exact re [.bool p21]

theorem c_impl_allWithin_1 {W : World} {x0 : Int} {gf_0 : Nat} {zf_0 : Int} {gf_1 : Nat} {zf_1 : Int} {r : Bool} (h : impl_allWithin_1 x0 zf_0 zf_1 = some r) (hcf_0 : CellsAt W (some ⟨gf_0, 0, none⟩) 0 [.int .i64 zf_0]) (hcf_1 : CellsAt W (some ⟨gf_1, 0, none⟩) 0 [.int .i64 zf_1]) :
    Gives0 Try.prog 39 #[.int .i64 x0, .pointer (some ⟨gf_0, 0, none⟩), .pointer (some ⟨gf_1, 0, none⟩)] W (.bool r) := by
 unfold impl_allWithin_1 at h
 refine enterD [vi x0, .q (some ⟨gf_0, 0, none⟩) (0), .q (some ⟨gf_1, 0, none⟩) (0)] (args := [.int .i64 x0, .pointer (some ⟨gf_0, 0, none⟩), .pointer (some ⟨gf_1, 0, none⟩)]) (by kernel_rfl) (by kernel_rfl) Try.func39 rfl Try.ntmps39 (by kernel_rfl) ?_
 refine qs (qr (oN 1 [] [0, 1, 2] ?_))
 refine oe (nt (qs (qr (oN 1 [(5, vi x0)] [1, 2] ?_))))
 refine ol 3 0 (.int .i64 zf_0) (fun γ w hs => ⟨by simp, hcf_0.kept hs.kept⟩) ?_
 refine ol 3 0 (.int .i64 zf_1) (fun γ w hs => ⟨by simp, hcf_1.kept hs.kept⟩) ?_
 obtain ⟨t21, h22, h23⟩ := bS h
 refine k0 (fun γ w hs => c_impl_within h22) ?_
 refine oN 2 [(4, vb (!t21))] [] ?_
 refine oe (nt (qe ?_))
 obtain rfl := sI h23
 exact re [.bool (!t21)]

theorem c_slices_IndexFunc_int__impl_allWithin_1 {W : World} {x0 : List Int} {a0_0 : Option Addr} {c0_0 : Nat} {g1_0 : Nat} {z1_0 : Int} {g1_1 : Nat} {z1_1 : Int} {r : Int} (h : slices_IndexFunc_int__impl_allWithin_1 x0 z1_0 z1_1 = some r) (hv0_0 : SlView W x0 a0_0 c0_0) (hc1_0 : CellsAt W (some ⟨g1_0, 0, none⟩) 0 [.int .i64 z1_0]) (hc1_1 : CellsAt W (some ⟨g1_1, 0, none⟩) 0 [.int .i64 z1_1]) :
    Gives0 Try.prog 42 #[.slice a0_0 x0.length c0_0, .func (.func 39) #[] #[.pointer (some ⟨g1_0, 0, none⟩), .pointer (some ⟨g1_1, 0, none⟩)]] W (.int .i64 r) := by
 unfold slices_IndexFunc_int__impl_allWithin_1 at h
 refine en Try.func42 Try.ntmps42 ?_
 refine qs (qr (oN 1 [] [0, 1] ?_))
 refine oe (nt (qs (qs (qr (oN 3 [(8, vi 0), (7, vi (x0.length : Int))] [0, 1] ?_)))))
 refine oe (nt ?_)
 obtain ⟨r24, hL25, h26⟩ := bS h
 obtain ⟨k27, hk28, h26⟩ := brkS h26
 refine JC_cutP (τ := (Unit) × (Unit)) (fun y => k27 y.1 = some r) (fun y32 => []) (fun y32 => []) (fun y32 => []) ?_ (fun y32 h33p => ?_)
 · refine qb (lp Unit hL25 (fun s21 y22 => [(8, vi s21), (7, vi (x0.length : Int)), (0, .v (.slice a0_0 x0.length c0_0)), (1, .v (.func (.func 39) #[] #[.pointer (some ⟨g1_0, 0, none⟩), .pointer (some ⟨g1_1, 0, none⟩)]))]) (fun s21 y22 => []) (fun s21 y22 => []) () [8, 7, 0, 1] [] 0 (fun s21 y22 t23 h29 hd30 => ?_))
   refine qs (qr (oN 1 [(9, vb (decide (s21 < (x0.length : Int))))] [8, 7, 0, 1] ?_))
   refine oe (nt (qs (cC h29 (fun h35 => ?_) (fun h36 => ?_))))
   · refine qk (nt (qs (qb (qs (qr (oN 2 [(5, vi s21)] [8, 7, 0, 1] ?_))))))
     refine oe (nt (qs (qr (oN 3 [(13, vi s21), (12, .v (.slice a0_0 x0.length c0_0)), (11, .v (.func (.func 39) #[] #[.pointer (some ⟨g1_0, 0, none⟩), .pointer (some ⟨g1_1, 0, none⟩)]))] [5, 8, 7, 0, 1] ?_))))
     obtain ⟨x37, hx38, h39⟩ := bS h35
     refine oi 1 (fun γ w hs => (hv0_0.kept hs.kept)) hx38 ?_
     refine ol 3 0 (.int .i64 x37) (fun γ w hs => (hv0_0.kept hs.kept).flatq hx38) ?_
     obtain ⟨t40, h41, h42⟩ := bS h39
     refine k0 (fun γ w hs => c_impl_allWithin_1 h41 (hc1_0.kept hs.kept) (hc1_1.kept hs.kept)) ?_
     refine oe (nt (cC h42 (fun h45 => ?_) (fun h46 => ?_)))
     · refine qs (qr (oN 2 [(4, vi s21)] [] ?_))
       refine oe (nt (qe (br (nr (nr ?_)))))
       have h47 := leafR hd30 h45 h26
       refine br (nr (nr ?_))
       obtain rfl := sI h47
       exact re [.int .i64 s21]
     refine qk (bn (nt (qr (oN 2 [(8, vi (w64 (s21 + 1)))] [7, 0, 1] ?_))))
     exact oe (ct h46 () [8, 7, 0, 1] [] 0)
   refine qx (nx (nx (bh ?_)))
   have h48 := leafB hd30 h36 h26
   exact mp ((), ()) h48 [] [] 0
 have h33 := (congrFun hk28 _).symm.trans h33p
 refine nt (qs (qr (oN 1 [(4, vi (-1))] [] ?_)))
 refine oe (nt (qe ?_))
 obtain rfl := sI h33
 exact re [.int .i64 (-1)]

theorem c_slices_ContainsFunc_int__impl_allWithin_1 {W : World} {x0 : List Int} {a0_0 : Option Addr} {c0_0 : Nat} {g1_0 : Nat} {z1_0 : Int} {g1_1 : Nat} {z1_1 : Int} {r : Bool} (h : slices_ContainsFunc_int__impl_allWithin_1 x0 z1_0 z1_1 = some r) (hv0_0 : SlView W x0 a0_0 c0_0) (hc1_0 : CellsAt W (some ⟨g1_0, 0, none⟩) 0 [.int .i64 z1_0]) (hc1_1 : CellsAt W (some ⟨g1_1, 0, none⟩) 0 [.int .i64 z1_1]) :
    Gives0 Try.prog 38 #[.slice a0_0 x0.length c0_0, .func (.func 39) #[] #[.pointer (some ⟨g1_0, 0, none⟩), .pointer (some ⟨g1_1, 0, none⟩)]] W (.bool r) := by
 unfold slices_ContainsFunc_int__impl_allWithin_1 at h
 refine en Try.func38 Try.ntmps38 ?_
 refine qs (qr (oN 1 [] [0, 1] ?_))
 refine oe (nt (qs (qr (oN 2 [(6, .v (.func (.func 39) #[] #[.pointer (some ⟨g1_0, 0, none⟩), .pointer (some ⟨g1_1, 0, none⟩)])), (5, .v (.slice a0_0 x0.length c0_0))] [] ?_))))
 obtain ⟨t21, h22, h23⟩ := bS h
 refine k0 (fun γ w hs => c_slices_IndexFunc_int__impl_allWithin_1 h22 (hv0_0.kept hs.kept) (hc1_0.kept hs.kept) (hc1_1.kept hs.kept)) ?_
 refine oN 2 [(4, vb (decide (t21 ≥ 0)))] [] ?_
 refine oe (nt (qe ?_))
 obtain rfl := sI h23
 exact re [.bool (decide (t21 ≥ 0))]

theorem c_impl_allWithin {W : World} {x0 : List Int} {a0_0 : Option Addr} {c0_0 : Nat} {x1 : Int} {x2 : Int} {r : Bool} (h : impl_allWithin x0 x1 x2 = some r) (hv0_0 : SlView W x0 a0_0 c0_0) :
    Gives0 Try.prog 33 #[.slice a0_0 x0.length c0_0, .int .i64 x1, .int .i64 x2] W (.bool r) := by
 unfold impl_allWithin at h
 refine en Try.func33 Try.ntmps33 ?_
 refine qs (qr (oB 3 [(5, .p 1 0), (4, .p 0 0)] [0] [(3, [.int .i64 x1]), (3, [.int .i64 x2])] ?_))
 refine oe (nt (qs (qr (oN 1 [(7, .v (.slice a0_0 x0.length c0_0))] [5, 4] ?_))))
 refine JO_mkfunc rfl (by kernel_rfl) (x := .f 39 [(0, 0), (1, 0)]) (by kernel_rfl) rfl ?_
 obtain ⟨t21, h22, h23⟩ := bS h
 refine JO_callD0 rfl (by kernel_rfl) (f := 38) (args := fun γ => #[.slice a0_0 x0.length c0_0, .func (.func 39) #[] #[.pointer (some ⟨γ.getD 0 0, 0, none⟩), .pointer (some ⟨γ.getD 1 0, 0, none⟩)]]) (fun γ => by kernel_rfl) (x := .bool t21) (fun γ w hs => (by have vv := c_slices_ContainsFunc_int__impl_allWithin_1 (W := w) h22 (hv0_0.kept hs.kept) (hs.boxCells (k := 0) (e := 3) (by kernel_rfl)) (hs.boxCells (k := 1) (e := 3) (by kernel_rfl)); exact vv)) rfl ?_
 refine oN 2 [(6, vb (!t21))] [] ?_
 refine oe (nt (qe ?_))
 obtain rfl := sI h23
 exact re [.bool (!t21)]

theorem c_impl_arePensions {W : World} {x0 : List Int} {a0_0 : Option Addr} {c0_0 : Nat} {r : Bool} (h : impl_arePensions x0 = some r) (hv0_0 : SlView W x0 a0_0 c0_0) :
    Gives0 Try.prog 24 #[.slice a0_0 x0.length c0_0] W (.bool r) := by
 unfold impl_arePensions at h
 refine en Try.func24 Try.ntmps24 ?_
 refine qs (qr (oN 1 [] [0] ?_))
 refine oe (nt (qs ?_))
 obtain ⟨p21, hE22, h23⟩ := bS h
 refine JC_cut (τ := Unit) (fun _ => [(2, vb p21)]) (fun _ => []) (fun _ => []) ?_ (fun _ => ?_)
 · refine qr (oN 4 [(6, vb (decide ((x0.length : Int) ≤ 40)))] [0] ?_)
   refine oS 6 hE22 (fun h25 => ?_) (fun h26 => ?_)
   · refine oN 1 [(7, .v (.slice a0_0 x0.length c0_0))] [6] ?_
     obtain ⟨t27, h28, h29⟩ := bS h25
     refine k0 (fun γ w hs => c_impl_allWithin h28 (hv0_0.kept hs.kept)) ?_
     refine oN 2 [(2, vb t27)] [] ?_
     refine oe ?_
     obtain rfl := sI h29
     exact mt () [2] [] 0
   refine oN 4 [(2, vb false)] [] ?_
   refine oe ?_
   obtain rfl := sI h26
   exact mt () [2] [] 0
 refine nt (qe ?_)
 obtain rfl := sI h23
 exact re [.bool p21]

theorem c_slices_Clone_int {W : World} {x0 : List Int} {a0_0 : Option Addr} {c0_0 : Nat} {r : (List Int)} (h : slices_Clone_int x0 = some r) (hv0_0 : SlView W x0 a0_0 c0_0) :
    Gives Try.prog 26 #[.slice a0_0 x0.length c0_0] W (fun y : AC => .slice y.1 r.length y.2) (fun y => [SlRes 3 r y.1 y.2]) := by
 unfold slices_Clone_int at h
 refine en Try.func26 Try.ntmps26 ?_
 refine qs (qr (oN 1 [] [0] ?_))
 refine oe (nt (qs (qs (qr (oN 1 [(3, .v (.slice a0_0 x0.length c0_0))] [0] ?_)))))
 rcases a0_0 with _ | d21
 · obtain rfl := hv0_0.nil rfl
   obtain rfl := hv0_0.nilE
   have h22 : (some ([] : List Int)) = some r := h
   refine oN 1 [(4, vb true)] [0] ?_
   refine oe (nt (JC_cond true (by kernel_rfl) (fun _ => ?_) (fun hb => by cases hb)))
   refine qs (qr (oN 1 [(2, .v (.slice none 0 0))] [] ?_))
   refine oe (nt (qe (nr (JE_addnil 3 (List.nil (α := Int)) rfl ?_))))
   refine rt [.slice none 0 0] (fun γ w hs => ?_)
   rw [← sI h22]
   exact ⟨(none, 0), rfl, hs.kept.toBelow, (hs.takeR (is := [0]) rfl).fresh⟩
 refine oN 1 [(4, vb false)] [0] ?_
 refine oe (nt (JC_cond false (by kernel_rfl) (fun hb => by cases hb) (fun _ => ?_)))
 refine qk (nt (qs (qr (ob [] [] 3 0 [] ([] : List Int) (own_flat (by kernel_rfl)) (fun y24 => ?_)))))
 refine oN 1 [(6, .v (.slice (some d21) x0.length c0_0))] [5] ?_
 obtain ⟨l27, hm28, h29⟩ := bS h
 refine oa 22 c0_0 Try.t3 (.int .i64 0) (fun γ w hs => ⟨c0_0, (hv0_0.kept hs.kept)⟩) hm28 (fun y26 => ?_)
 refine oN 1 [(2, .v (.slice y26.1 l27.length y26.2))] [] ?_
 refine oe (nt (qe (rt [.slice y26.1 l27.length y26.2] (fun γ w hs => ?_))))
 rw [← sI h29]
 exact ⟨y26, rfl, hs.kept.toBelow, (hs.takeR (is := [0]) rfl).fresh⟩

theorem c_impl_total {W : World} {x0 : List Int} {a0_0 : Option Addr} {c0_0 : Nat} {r : Int} (h : impl_total x0 = some r) (hv0_0 : SlView W x0 a0_0 c0_0) :
    Gives0 Try.prog 28 #[.slice a0_0 x0.length c0_0] W (.int .i64 r) := by
 unfold impl_total at h
 refine en Try.func28 Try.ntmps28 ?_
 refine qs (qr (oN 1 [] [0] ?_))
 refine oe (nt (qs (qr (oN 1 [(3, vi 0)] [0] ?_))))
 refine oe (nt (qs (qs (qr (oN 3 [(8, vi 0), (7, vi (x0.length : Int)), (6, .v (.slice a0_0 x0.length c0_0))] [3] ?_)))))
 refine oe (nt ?_)
 obtain ⟨r24, hL25, h26⟩ := bS h
 obtain ⟨k27, hk28, h26⟩ := brkS h26
 refine JC_cutP (τ := (Int) × (Unit)) (fun y => k27 y.1 = some r) (fun y32 => [(3, vi y32.1)]) (fun y32 => []) (fun y32 => []) ?_ (fun y32 h33p => ?_)
 · refine qb (lp Unit hL25 (fun s21 y22 => [(8, vi s21.1), (7, vi (x0.length : Int)), (6, .v (.slice a0_0 x0.length c0_0)), (3, vi s21.2)]) (fun s21 y22 => []) (fun s21 y22 => []) () [8, 7, 6, 3] [] 0 (fun s21 y22 t23 h29 hd30 => ?_))
   refine qs (qr (oN 1 [(9, vb (decide (s21.1 < (x0.length : Int))))] [8, 7, 6, 3] ?_))
   refine oe (nt (qs (cC h29 (fun h35 => ?_) (fun h36 => ?_))))
   · refine qk (nt (qs (qb (qs (qr ?_)))))
     obtain ⟨x37, hx38, h39⟩ := bS h35
     refine oi 1 (fun γ w hs => (hv0_0.kept hs.kept)) hx38 ?_
     refine ol 3 0 (.int .i64 x37) (fun γ w hs => (hv0_0.kept hs.kept).flatq hx38) ?_
     refine oN 1 [(5, vi x37)] [8, 7, 6, 3] ?_
     refine oe (nt (qr (oN 4 [(3, vi (w64 (s21.2 + x37)))] [8, 7, 6] ?_)))
     refine oe (bn (nt (qr (oN 2 [(8, vi (w64 (s21.1 + 1)))] [3, 7, 6] ?_))))
     exact oe (ct h39 () [8, 7, 6, 3] [] 0)
   refine qx (nx (nx (bh ?_)))
   have h40 := leafB hd30 h36 h26
   exact mp (s21.2, ()) h40 [3] [] 0
 have h33 := (congrFun hk28 _).symm.trans h33p
 refine nt (qs (qr (oN 2 [(2, vi y32.1)] [] ?_)))
 refine oe (nt (qe ?_))
 obtain rfl := sI h33
 exact re [.int .i64 y32.1]

theorem c_cmp_isNaN_int {W : World} {x0 : Int} {r : Bool} (h : cmp_isNaN_int x0 = some r)  :
    Gives0 Try.prog 41 #[.int .i64 x0] W (.bool r) := by
 unfold cmp_isNaN_int at h
 refine en Try.func41 Try.ntmps41 ?_
 refine qs (qr (oN 1 [] [0] ?_))
 refine oe (nt (qs (qr (oN 4 [(2, vb (x0 != x0))] [] ?_))))
 refine oe (nt (qe ?_))
 obtain rfl := sI h
 exact re [.bool (x0 != x0)]

theorem c_cmp_Compare_int {W : World} {x0 : Int} {x1 : Int} {r : Int} (h : cmp_Compare_int x0 x1 = some r)  :
    Gives0 Try.prog 36 #[.int .i64 x0, .int .i64 x1] W (.int .i64 r) := by
 unfold cmp_Compare_int at h
 refine en Try.func36 Try.ntmps36 ?_
 refine qs (qr (oN 1 [] [0, 1] ?_))
 refine oe (nt (qs (qr (oN 1 [(7, vi x0)] [0, 1] ?_))))
 obtain ⟨t21, h22, h23⟩ := bS h
 refine k0 (fun γ w hs => c_cmp_isNaN_int h22) ?_
 refine oN 1 [(5, vb t21)] [0, 1] ?_
 refine oe (nt (qs (qr (oN 1 [(9, vi x1)] [5, 0, 1] ?_))))
 obtain ⟨t25, h26, h27⟩ := bS h23
 refine k0 (fun γ w hs => c_cmp_isNaN_int h26) ?_
 refine oN 1 [(6, vb t25)] [5, 0, 1] ?_
 refine oe (nt (qs (qs (qr (oN 1 [(11, vb t21)] [6, 0, 1] ?_)))))
 refine oe (nt (cC h27 (fun h33 => ?_) (fun h34 => ?_)))
 · refine qs (qs (qr (oN 1 [(12, vb t25)] [] ?_)))
   refine oe (nt (cC h33 (fun h36 => ?_) (fun h37 => ?_)))
   · refine qs (qr (oN 1 [(4, vi 0)] [] ?_))
     refine oe (nt (qe (nr (nr ?_))))
     obtain rfl := sI h36
     exact re [.int .i64 0]
   refine qk (nt (qs (qr (oN 1 [(4, vi (-1))] [] ?_))))
   refine oe (nt (qe (nr ?_)))
   obtain rfl := sI h37
   exact re [.int .i64 (-1)]
 refine qk (nt (qs (qs (qr (oN 1 [(13, vb t25)] [0, 1] ?_)))))
 refine oe (nt (cC h34 (fun h39 => ?_) (fun h40 => ?_)))
 · refine qs (qr (oN 1 [(4, vi 1)] [] ?_))
   refine oe (nt (qe (nr ?_)))
   obtain rfl := sI h39
   exact re [.int .i64 1]
 refine qk (nt (qs (qs (qr (oN 3 [(16, vb (decide (x0 < x1)))] [0, 1] ?_)))))
 refine oe (nt (cC h40 (fun h42 => ?_) (fun h43 => ?_)))
 · refine qs (qr (oN 1 [(4, vi (-1))] [] ?_))
   refine oe (nt (qe (nr ?_)))
   obtain rfl := sI h42
   exact re [.int .i64 (-1)]
 refine qk (nt (qs (qs (qr (oN 3 [(19, vb (decide (x0 > x1)))] [] ?_)))))
 refine oe (nt (cC h43 (fun h45 => ?_) (fun h46 => ?_)))
 · refine qs (qr (oN 1 [(4, vi 1)] [] ?_))
   refine oe (nt (qe (nr ?_)))
   obtain rfl := sI h45
   exact re [.int .i64 1]
 refine qk (nt (qs (qr (oN 1 [(4, vi 0)] [] ?_))))
 refine oe (nt (qe ?_))
 obtain rfl := sI h46
 exact re [.int .i64 0]

theorem c_impl_Allocate_1 {W : World} {x0 : Int} {x1 : Int} {gf_0 : Nat} {zf_0 : Int} {gf_1 : Nat} {zf_1 : List Int} {af_1_0 : Option Addr} {cf_1_0 : Nat} {gf_2 : Nat} {zf_2 : Int} {r : Int} (h : impl_Allocate_1 x0 x1 zf_0 zf_1 zf_2 = some r) (hcf_0 : CellsAt W (some ⟨gf_0, 0, none⟩) 0 [.int .i64 zf_0]) (hvf_1_0 : SlView W zf_1 af_1_0 cf_1_0) (hcf_1 : CellsAt W (some ⟨gf_1, 0, none⟩) 0 [.slice af_1_0 zf_1.length cf_1_0]) (hcf_2 : CellsAt W (some ⟨gf_2, 0, none⟩) 0 [.int .i64 zf_2]) :
    Gives0 Try.prog 35 #[.int .i64 x0, .int .i64 x1, .pointer (some ⟨gf_0, 0, none⟩), .pointer (some ⟨gf_1, 0, none⟩), .pointer (some ⟨gf_2, 0, none⟩)] W (.int .i64 r) := by
 unfold impl_Allocate_1 at h
 refine enterD [vi x0, vi x1, .q (some ⟨gf_0, 0, none⟩) (0), .q (some ⟨gf_1, 0, none⟩) (0), .q (some ⟨gf_2, 0, none⟩) (0)] (args := [.int .i64 x0, .int .i64 x1, .pointer (some ⟨gf_0, 0, none⟩), .pointer (some ⟨gf_1, 0, none⟩), .pointer (some ⟨gf_2, 0, none⟩)]) (by kernel_rfl) (by kernel_rfl) Try.func35 rfl Try.ntmps35 (by kernel_rfl) ?_
 refine qs (qr (oN 1 [] [0, 1, 2, 3, 4] ?_))
 refine oe (nt (qs (JC_quiet (by kernel_rfl) (by kernel_rfl) ?_)))
 refine ql 3 0 (.int .i64 zf_0) (fun γ w hs => ⟨by simp, hcf_0.kept hs.kept⟩) ?_
 refine ql 22 0 (.slice af_1_0 zf_1.length cf_1_0) (fun γ w hs => ⟨by simp, hcf_1.kept hs.kept⟩) ?_
 refine qN 1 [(10, vi x1)] [9, 8, 0, 2, 3, 4] ?_
 obtain ⟨x21, hx22, h23⟩ := bS h
 refine qi 1 (fun γ w hs => (hvf_1_0.kept hs.kept)) hx22 ?_
 refine ql 3 0 (.int .i64 x21) (fun γ w hs => (hvf_1_0.kept hs.kept).flatq hx22) ?_
 refine qN 1 [(13, vi (w64 (zf_0 * x21)))] [0, 2, 3, 4] ?_
 refine ql 3 0 (.int .i64 zf_2) (fun γ w hs => ⟨by simp, hcf_2.kept hs.kept⟩) ?_
 obtain ⟨u26, hz25, h24⟩ := bS h23
 refine JQ_div rfl (by kernel_rfl) (op := .rem) (k := .i64) (x := (w64 (zf_0 * x21))) (y := zf_2) (by kernel_rfl) (nz_some hz25) rfl ?_
 refine ql 3 0 (.int .i64 zf_0) (fun γ w hs => ⟨by simp, hcf_0.kept hs.kept⟩) ?_
 refine ql 22 0 (.slice af_1_0 zf_1.length cf_1_0) (fun γ w hs => ⟨by simp, hcf_1.kept hs.kept⟩) ?_
 refine qN 1 [(18, vi x0)] [17, 16, 15, 4] ?_
 obtain ⟨x27, hx28, h29⟩ := bS h24
 refine qi 1 (fun γ w hs => (hvf_1_0.kept hs.kept)) hx28 ?_
 refine ql 3 0 (.int .i64 x27) (fun γ w hs => (hvf_1_0.kept hs.kept).flatq hx28) ?_
 refine qN 1 [(21, vi (w64 (zf_0 * x27)))] [15, 4] ?_
 refine ql 3 0 (.int .i64 zf_2) (fun γ w hs => ⟨by simp, hcf_2.kept hs.kept⟩) ?_
 obtain ⟨u32, hz31, h30⟩ := bS h29
 refine JQ_div rfl (by kernel_rfl) (op := .rem) (k := .i64) (x := (w64 (zf_0 * x27))) (y := zf_2) (by kernel_rfl) (nz_some hz31) rfl ?_
 obtain ⟨t33, h34, h35⟩ := bS h30
 refine q0 (fun γ w hs => c_cmp_Compare_int h34) ?_
 refine qN 1 [(7, vi t33)] [] ?_
 refine qz (nt (qe ?_))
 obtain rfl := sI h35
 exact re [.int .i64 t33]

theorem c_slices_insertionSortCmpFunc_int__impl_Allocate_1 {W : World} {x0 : List Int} {a0_0 : Option Addr} {c0_0 : Nat} {e0_0 : TypeId} {x1 : Int} {x2 : Int} {g3_0 : Nat} {z3_0 : Int} {g3_1 : Nat} {z3_1 : List Int} {g3_2 : Nat} {z3_2 : Int} {r : (List Int)} (h : slices_insertionSortCmpFunc_int__impl_Allocate_1 x0 x1 x2 z3_0 z3_1 z3_2 = some r)  :
    GivesMQ Try.prog (fun w => ∀ (q0 : Int) (q1 : Int) (r : Int), impl_Allocate_1 q0 q1 z3_0 z3_1 z3_2 = some r → Gives0 Try.prog 35 #[.int .i64 q0, .int .i64 q1, .pointer (some ⟨g3_0, 0, none⟩), .pointer (some ⟨g3_1, 0, none⟩), .pointer (some ⟨g3_2, 0, none⟩)] w (.int .i64 r)) 43 #[.slice a0_0 x0.length c0_0, .int .i64 x1, .int .i64 x2, .func (.func 35) #[] #[.pointer (some ⟨g3_0, 0, none⟩), .pointer (some ⟨g3_1, 0, none⟩), .pointer (some ⟨g3_2, 0, none⟩)]] W [SlRes e0_0 x0 a0_0 c0_0] [SlRes e0_0 r a0_0 c0_0] (.tuple #[]) := by
 unfold slices_insertionSortCmpFunc_int__impl_Allocate_1 at h
 refine enterMQ [.v (.slice a0_0 x0.length c0_0), vi x1, vi x2, .v (.func (.func 35) #[] #[.pointer (some ⟨g3_0, 0, none⟩), .pointer (some ⟨g3_1, 0, none⟩), .pointer (some ⟨g3_2, 0, none⟩)])] (args := [.slice a0_0 x0.length c0_0, .int .i64 x1, .int .i64 x2, .func (.func 35) #[] #[.pointer (some ⟨g3_0, 0, none⟩), .pointer (some ⟨g3_1, 0, none⟩), .pointer (some ⟨g3_2, 0, none⟩)]]) (by kernel_rfl) (by kernel_rfl) Try.func43 rfl Try.ntmps43 (by kernel_rfl) (fun Fs hq => ?_)
 refine qs (qr (oN 3 [(8, vi (w64 (x1 + 1)))] [0, 1, 2, 3] ?_))
 refine oe (nt ?_)
 obtain ⟨r24, hL25, h26⟩ := bS h
 obtain ⟨k27, hk28, h26⟩ := brkS h26
 refine JC_cutP (τ := ((List Int)) × (Unit)) (fun y => k27 y.1 = some r) (fun y32 => [(0, .v (.slice a0_0 y32.1.length c0_0)), (3, .v (.func (.func 35) #[] #[.pointer (some ⟨g3_0, 0, none⟩), .pointer (some ⟨g3_1, 0, none⟩), .pointer (some ⟨g3_2, 0, none⟩)]))]) (fun y32 => []) (fun y32 => [SlRes e0_0 y32.1 a0_0 c0_0]) ?_ (fun y32 h33p => ?_)
 · refine qb (lp Unit hL25 (fun s21 y22 => [(8, vi s21.1), (0, .v (.slice a0_0 s21.2.1.length c0_0)), (1, vi s21.2.2.1), (2, vi s21.2.2.2), (3, .v (.func (.func 35) #[] #[.pointer (some ⟨g3_0, 0, none⟩), .pointer (some ⟨g3_1, 0, none⟩), .pointer (some ⟨g3_2, 0, none⟩)]))]) (fun s21 y22 => []) (fun s21 y22 => [SlRes e0_0 s21.2.1 a0_0 c0_0]) () [8, 0, 1, 2, 3] [0] 0 (fun s21 y22 t23 h29 hd30 => ?_))
   refine qs (qs (qr (oN 3 [(14, vb (decide (s21.1 < s21.2.2.2)))] [8, 0, 1, 2, 3] ?_)))
   refine oe (nt (cC h29 (fun h35 => ?_) (fun h36 => ?_)))
   · refine qk (nt (qs (qb (qs (qr (oN 2 [(9, vi s21.1)] [8, 0, 1, 2, 3] ?_))))))
     refine oe (nt ?_)
     obtain ⟨r40, hL41, h42⟩ := bS h35
     obtain ⟨k43, hk44, h42⟩ := brkS h42
     refine JC_cutP (τ := (Int × (List Int) × Int × Int) × (Unit)) (fun y => k43 y.1 = some t23) (fun y48 => [(8, vi y48.1.1), (0, .v (.slice a0_0 y48.1.2.1.length c0_0)), (1, vi y48.1.2.2.1), (2, vi y48.1.2.2.2), (3, .v (.func (.func 35) #[] #[.pointer (some ⟨g3_0, 0, none⟩), .pointer (some ⟨g3_1, 0, none⟩), .pointer (some ⟨g3_2, 0, none⟩)]))]) (fun y48 => []) (fun y48 => [SlRes e0_0 y48.1.2.1 a0_0 c0_0]) ?_ (fun y48 h49p => ?_)
     · refine qb (lp Unit hL41 (fun s37 y38 => [(9, vi s37.1), (8, vi s21.1), (0, .v (.slice a0_0 s37.2.length c0_0)), (1, vi s21.2.2.1), (2, vi s21.2.2.2), (3, .v (.func (.func 35) #[] #[.pointer (some ⟨g3_0, 0, none⟩), .pointer (some ⟨g3_1, 0, none⟩), .pointer (some ⟨g3_2, 0, none⟩)]))]) (fun s37 y38 => []) (fun s37 y38 => [SlRes e0_0 s37.2 a0_0 c0_0]) () [9, 8, 0, 1, 2, 3] [0] 0 (fun s37 y38 t39 h45 hd46 => ?_))
       refine qs (qs ?_)
       obtain ⟨p50, hE51, h52⟩ := bS h45
       refine JC_cut (τ := Unit) (fun _ => [(0, .v (.slice a0_0 s37.2.length c0_0)), (1, vi s21.2.2.1), (2, vi s21.2.2.2), (3, .v (.func (.func 35) #[] #[.pointer (some ⟨g3_0, 0, none⟩), .pointer (some ⟨g3_1, 0, none⟩), .pointer (some ⟨g3_2, 0, none⟩)])), (8, vi s21.1), (9, vi s37.1), (34, vb p50)]) (fun _ => []) (fun _ => [SlRes e0_0 s37.2 a0_0 c0_0]) ?_ (fun _ => ?_)
       · refine JC_quiet (by kernel_rfl) (by kernel_rfl) ?_
         refine qN 4 [(21, vb (decide (s37.1 > s21.2.2.1)))] [9, 8, 0, 1, 2, 3] ?_
         refine qS 21 hE51 (fun h54 => ?_) (fun h55 => ?_)
         · refine qN 3 [(24, vi s37.1), (23, .v (.slice a0_0 s37.2.length c0_0)), (22, .v (.func (.func 35) #[] #[.pointer (some ⟨g3_0, 0, none⟩), .pointer (some ⟨g3_1, 0, none⟩), .pointer (some ⟨g3_2, 0, none⟩)]))] [21, 9, 8, 0, 1, 2, 3] ?_
           obtain ⟨x56, hx57, h58⟩ := bS h54
           refine qi 1 (fun γ w hs => (hs.view 0 rfl)) hx57 ?_
           refine ql 3 0 (.int .i64 x56) (fun γ w hs => (hs.view 0 rfl).flatq hx57) ?_
           refine qN 3 [(29, vi (w64 (s37.1 - 1))), (27, .v (.slice a0_0 s37.2.length c0_0))] [26, 22, 21, 9, 8, 0, 1, 2, 3] ?_
           obtain ⟨x59, hx60, h61⟩ := bS h58
           refine qi 1 (fun γ w hs => (hs.view 0 rfl)) hx60 ?_
           refine ql 3 0 (.int .i64 x59) (fun γ w hs => (hs.view 0 rfl).flatq hx60) ?_
           obtain ⟨t62, h63, h64⟩ := bS h61
           refine q0 (fun γ w hs => hq w hs.kept _ _ _ h63) ?_
           refine qN 2 [(34, vb (decide (t62 < 0)))] [9, 8, 0, 1, 2, 3] ?_
           refine qz ?_
           obtain rfl := sI h64
           exact mt () [0, 1, 2, 3, 8, 9, 34] [0] 0
         refine qN 13 [(34, vb false)] [9, 8, 0, 1, 2, 3] ?_
         refine qz ?_
         obtain rfl := sI h55
         exact mt () [0, 1, 2, 3, 8, 9, 34] [0] 0
       refine nt (cC h52 (fun h67 => ?_) (fun h68 => ?_))
       · refine qk (nt (qs (qb ?_)))
         obtain ⟨x69, hx70, h71⟩ := bS h67
         obtain ⟨x72, hx73, h74⟩ := bS h71
         obtain ⟨x75, hx76, h77⟩ := bS h74
         obtain ⟨l78, hm79, h80⟩ := bS h77
         replace hm79 := (sI hm79).symm
         have hl81 := len_set hm79
         obtain ⟨x82, hx83, h84⟩ := bS h80
         obtain ⟨l85, hm86, h87⟩ := bS h84
         replace hm86 := (sI hm86).symm
         have hl88 := len_set hm86
         refine JC_cut (τ := Unit) (fun _ => [(0, .v (.slice a0_0 l85.length c0_0)), (1, vi s21.2.2.1), (2, vi s21.2.2.2), (3, .v (.func (.func 35) #[] #[.pointer (some ⟨g3_0, 0, none⟩), .pointer (some ⟨g3_1, 0, none⟩), .pointer (some ⟨g3_2, 0, none⟩)])), (8, vi s21.1), (9, vi s37.1)]) (fun _ => []) (fun _ => [SlRes e0_0 l85 a0_0 c0_0]) ?_ (fun _ => ?_)
         · refine jw [0, 1, 2, 3, 8, 9] [0] ?_
           refine JC_heldN (ks := []) (Rk := []) 18 (by kernel_rfl) (by kernel_rfl) ?_
           refine htq 0 (.v (.slice a0_0 s37.2.length c0_0)) [] ?_
           refine htq 1 (vi s37.1) [] ?_
           refine htq 2 (.v (.slice a0_0 s37.2.length c0_0)) [] ?_
           refine htq 3 (vi s37.1) [] ?_
           refine htq 4 (vi (w64 (s37.1 - 1))) [] ?_
           refine hk [41, 39, 38, 37, 0, 1, 2, 3, 8, 9] ?_
           refine htq 5 (.v (.slice a0_0 s37.2.length c0_0)) [] ?_
           refine htq 6 (vi s37.1) [] ?_
           refine htq 7 (vi (w64 (s37.1 - 1))) [] ?_
           refine hk [44, 42, 41, 39, 38, 37, 0, 1, 2, 3, 8, 9] ?_
           refine htq 10 (.v (.slice a0_0 s37.2.length c0_0)) [] ?_
           refine htq 11 (vi s37.1) [] ?_
           refine ha2 8 12 ?_ ?_
           · refine hi (fun γ0 δ hm => ?_)
             refine JG_index (by kernel_rfl) (d := a0_0) (m := s37.2.length) (j := (w64 (s37.1 - 1))) (s := 1) (by kernel_rfl) (fun w hs => (hs.view 0 rfl)) rfl hx70 rfl ?_
             refine gn hm [45, 48, 47, 41, 39, 38, 37, 0, 1, 2, 3, 8, 9] [] ?_
             refine ha2 9 12 ?_ ?_
             · refine hi (fun γ0 δ hm => ?_)
               refine JG_loadq (by kernel_rfl) (t := 3) (d := a0_0) (Int.toNat (w64 (s37.1 - 1)) * 1) 0 (by kernel_rfl) (cs := [.int .i64 x69]) (v := .int .i64 x69) (fun w hs => (hs.view 0 rfl).flatq hx70) (by kernel_rfl) rfl ?_
               refine gn hm [46, 48, 47, 41, 39, 38, 37, 0, 1, 2, 3, 8, 9] [] ?_
               refine ha1 12 ?_
               refine hi (fun γ0 δ hm => ?_)
               refine JG_index (by kernel_rfl) (d := a0_0) (m := s37.2.length) (j := s37.1) (s := 1) (by kernel_rfl) (fun w hs => (hs.view 0 rfl)) rfl hx73 rfl ?_
               refine gn hm [49, 46, 41, 39, 38, 37, 0, 1, 2, 3, 8, 9] [] ?_
               refine ha1 13 ?_
               refine hi (fun γ0 δ hm => ?_)
               refine JG_loadq (by kernel_rfl) (t := 3) (d := a0_0) (Int.toNat s37.1 * 1) 0 (by kernel_rfl) (cs := [.int .i64 x72]) (v := .int .i64 x72) (fun w hs => (hs.view 0 rfl).flatq hx73) (by kernel_rfl) rfl ?_
               refine gn hm [50, 46, 41, 39, 38, 37, 0, 1, 2, 3, 8, 9] [] ?_
               refine ha1 14 ?_
               refine hi (fun γ0 δ hm => ?_)
               refine JG_index (by kernel_rfl) (d := a0_0) (m := s37.2.length) (j := s37.1) (s := 1) (by kernel_rfl) (fun w hs => (hs.view 0 rfl)) rfl hx76 rfl ?_
               refine gn hm [51, 50, 46, 41, 39, 0, 1, 2, 3, 8, 9] [] ?_
               refine ha1 15 ?_
               refine hi (fun γ0 δ hm => ?_)
               refine JG_storeq (α := Int) (d := a0_0) (vs := [.int .i64 x69]) (j := s37.1) (x' := x69) (by kernel_rfl) 0 (by kernel_rfl) hx76 (Rc := []) (Rr := []) rfl (by kernel_rfl) (fun w c F Fs ho _ _ => own_flat_set (by kernel_rfl) ho) hm79 (sl' := [(51, .q a0_0 (Int.toNat s37.1 * 1)), (50, vi x72), (46, vi x69), (41, vi (w64 (s37.1 - 1))), (39, .v (.slice a0_0 s37.2.length c0_0)), (0, .v (.slice a0_0 s37.2.length c0_0)), (1, vi s21.2.2.1), (2, vi s21.2.2.2), (3, .v (.func (.func 35) #[] #[.pointer (some ⟨g3_0, 0, none⟩), .pointer (some ⟨g3_1, 0, none⟩), .pointer (some ⟨g3_2, 0, none⟩)])), (8, vi s21.1), (9, vi s37.1)]) (by kernel_rfl) ?_
               refine KG_eqE (sl' := [(51, .q a0_0 (Int.toNat s37.1 * 1)), (50, vi x72), (46, vi x69), (41, vi (w64 (s37.1 - 1))), (39, .v (.slice a0_0 l78.length c0_0)), (0, .v (.slice a0_0 l78.length c0_0)), (1, vi s21.2.2.1), (2, vi s21.2.2.2), (3, .v (.func (.func 35) #[] #[.pointer (some ⟨g3_0, 0, none⟩), .pointer (some ⟨g3_1, 0, none⟩), .pointer (some ⟨g3_2, 0, none⟩)])), (8, vi s21.1), (9, vi s37.1)]) (bx' := []) (by simp only [hl81]) rfl ?_
               refine gn hm [50, 41, 39, 0, 1, 2, 3, 8, 9] [] ?_
               refine ha1 16 ?_
               refine hi (fun γ0 δ hm => ?_)
               refine JG_index (by kernel_rfl) (d := a0_0) (m := l78.length) (j := (w64 (s37.1 - 1))) (s := 1) (by kernel_rfl) (fun w hs => (hs.view 0 rfl)) rfl hx83 rfl ?_
               refine gn hm [52, 50, 0, 1, 2, 3, 8, 9] [] ?_
               refine ha1 17 ?_
               refine hi (fun γ0 δ hm => ?_)
               refine JG_storeq (α := Int) (d := a0_0) (vs := [.int .i64 x72]) (j := (w64 (s37.1 - 1))) (x' := x72) (by kernel_rfl) 0 (by kernel_rfl) hx83 (Rc := []) (Rr := []) rfl (by kernel_rfl) (fun w c F Fs ho _ _ => own_flat_set (by kernel_rfl) ho) hm86 (sl' := [(52, .q a0_0 (Int.toNat (w64 (s37.1 - 1)) * 1)), (50, vi x72), (0, .v (.slice a0_0 l78.length c0_0)), (1, vi s21.2.2.1), (2, vi s21.2.2.2), (3, .v (.func (.func 35) #[] #[.pointer (some ⟨g3_0, 0, none⟩), .pointer (some ⟨g3_1, 0, none⟩), .pointer (some ⟨g3_2, 0, none⟩)])), (8, vi s21.1), (9, vi s37.1)]) (by kernel_rfl) ?_
               refine KG_eqE (sl' := [(52, .q a0_0 (Int.toNat (w64 (s37.1 - 1)) * 1)), (50, vi x72), (0, .v (.slice a0_0 l85.length c0_0)), (1, vi s21.2.2.1), (2, vi s21.2.2.2), (3, .v (.func (.func 35) #[] #[.pointer (some ⟨g3_0, 0, none⟩), .pointer (some ⟨g3_1, 0, none⟩), .pointer (some ⟨g3_2, 0, none⟩)])), (8, vi s21.1), (9, vi s37.1)]) (bx' := []) (by simp only [hl88]) rfl ?_
               refine gn hm [0, 1, 2, 3, 8, 9] [] ?_
               exact hd () [0, 1, 2, 3, 8, 9] [0] 0
             · refine hi (fun γ0 δ hm => ?_)
               refine JG_index (by kernel_rfl) (d := a0_0) (m := s37.2.length) (j := s37.1) (s := 1) (by kernel_rfl) (fun w hs => (hs.view 0 rfl)) rfl hx73 rfl ?_
               refine gn hm [49, 45, 41, 39, 38, 37, 0, 1, 2, 3, 8, 9] [] ?_
               refine ha2 9 13 ?_ ?_
               · refine hi (fun γ0 δ hm => ?_)
                 refine JG_loadq (by kernel_rfl) (t := 3) (d := a0_0) (Int.toNat (w64 (s37.1 - 1)) * 1) 0 (by kernel_rfl) (cs := [.int .i64 x69]) (v := .int .i64 x69) (fun w hs => (hs.view 0 rfl).flatq hx70) (by kernel_rfl) rfl ?_
                 refine gn hm [46, 49, 41, 39, 38, 37, 0, 1, 2, 3, 8, 9] [] ?_
                 refine ha1 13 ?_
                 refine hi (fun γ0 δ hm => ?_)
                 refine JG_loadq (by kernel_rfl) (t := 3) (d := a0_0) (Int.toNat s37.1 * 1) 0 (by kernel_rfl) (cs := [.int .i64 x72]) (v := .int .i64 x72) (fun w hs => (hs.view 0 rfl).flatq hx73) (by kernel_rfl) rfl ?_
                 refine gn hm [50, 46, 41, 39, 38, 37, 0, 1, 2, 3, 8, 9] [] ?_
                 refine ha1 14 ?_
                 refine hi (fun γ0 δ hm => ?_)
                 refine JG_index (by kernel_rfl) (d := a0_0) (m := s37.2.length) (j := s37.1) (s := 1) (by kernel_rfl) (fun w hs => (hs.view 0 rfl)) rfl hx76 rfl ?_
                 refine gn hm [51, 50, 46, 41, 39, 0, 1, 2, 3, 8, 9] [] ?_
                 refine ha1 15 ?_
                 refine hi (fun γ0 δ hm => ?_)
                 refine JG_storeq (α := Int) (d := a0_0) (vs := [.int .i64 x69]) (j := s37.1) (x' := x69) (by kernel_rfl) 0 (by kernel_rfl) hx76 (Rc := []) (Rr := []) rfl (by kernel_rfl) (fun w c F Fs ho _ _ => own_flat_set (by kernel_rfl) ho) hm79 (sl' := [(51, .q a0_0 (Int.toNat s37.1 * 1)), (50, vi x72), (46, vi x69), (41, vi (w64 (s37.1 - 1))), (39, .v (.slice a0_0 s37.2.length c0_0)), (0, .v (.slice a0_0 s37.2.length c0_0)), (1, vi s21.2.2.1), (2, vi s21.2.2.2), (3, .v (.func (.func 35) #[] #[.pointer (some ⟨g3_0, 0, none⟩), .pointer (some ⟨g3_1, 0, none⟩), .pointer (some ⟨g3_2, 0, none⟩)])), (8, vi s21.1), (9, vi s37.1)]) (by kernel_rfl) ?_
                 refine KG_eqE (sl' := [(51, .q a0_0 (Int.toNat s37.1 * 1)), (50, vi x72), (46, vi x69), (41, vi (w64 (s37.1 - 1))), (39, .v (.slice a0_0 l78.length c0_0)), (0, .v (.slice a0_0 l78.length c0_0)), (1, vi s21.2.2.1), (2, vi s21.2.2.2), (3, .v (.func (.func 35) #[] #[.pointer (some ⟨g3_0, 0, none⟩), .pointer (some ⟨g3_1, 0, none⟩), .pointer (some ⟨g3_2, 0, none⟩)])), (8, vi s21.1), (9, vi s37.1)]) (bx' := []) (by simp only [hl81]) rfl ?_
                 refine gn hm [50, 41, 39, 0, 1, 2, 3, 8, 9] [] ?_
                 refine ha1 16 ?_
                 refine hi (fun γ0 δ hm => ?_)
                 refine JG_index (by kernel_rfl) (d := a0_0) (m := l78.length) (j := (w64 (s37.1 - 1))) (s := 1) (by kernel_rfl) (fun w hs => (hs.view 0 rfl)) rfl hx83 rfl ?_
                 refine gn hm [52, 50, 0, 1, 2, 3, 8, 9] [] ?_
                 refine ha1 17 ?_
                 refine hi (fun γ0 δ hm => ?_)
                 refine JG_storeq (α := Int) (d := a0_0) (vs := [.int .i64 x72]) (j := (w64 (s37.1 - 1))) (x' := x72) (by kernel_rfl) 0 (by kernel_rfl) hx83 (Rc := []) (Rr := []) rfl (by kernel_rfl) (fun w c F Fs ho _ _ => own_flat_set (by kernel_rfl) ho) hm86 (sl' := [(52, .q a0_0 (Int.toNat (w64 (s37.1 - 1)) * 1)), (50, vi x72), (0, .v (.slice a0_0 l78.length c0_0)), (1, vi s21.2.2.1), (2, vi s21.2.2.2), (3, .v (.func (.func 35) #[] #[.pointer (some ⟨g3_0, 0, none⟩), .pointer (some ⟨g3_1, 0, none⟩), .pointer (some ⟨g3_2, 0, none⟩)])), (8, vi s21.1), (9, vi s37.1)]) (by kernel_rfl) ?_
                 refine KG_eqE (sl' := [(52, .q a0_0 (Int.toNat (w64 (s37.1 - 1)) * 1)), (50, vi x72), (0, .v (.slice a0_0 l85.length c0_0)), (1, vi s21.2.2.1), (2, vi s21.2.2.2), (3, .v (.func (.func 35) #[] #[.pointer (some ⟨g3_0, 0, none⟩), .pointer (some ⟨g3_1, 0, none⟩), .pointer (some ⟨g3_2, 0, none⟩)])), (8, vi s21.1), (9, vi s37.1)]) (bx' := []) (by simp only [hl88]) rfl ?_
                 refine gn hm [0, 1, 2, 3, 8, 9] [] ?_
                 exact hd () [0, 1, 2, 3, 8, 9] [0] 0
               · refine hi (fun γ0 δ hm => ?_)
                 refine JG_loadq (by kernel_rfl) (t := 3) (d := a0_0) (Int.toNat s37.1 * 1) 0 (by kernel_rfl) (cs := [.int .i64 x72]) (v := .int .i64 x72) (fun w hs => (hs.view 0 rfl).flatq hx73) (by kernel_rfl) rfl ?_
                 refine gn hm [50, 45, 41, 39, 38, 37, 0, 1, 2, 3, 8, 9] [] ?_
                 refine ha1 9 ?_
                 refine hi (fun γ0 δ hm => ?_)
                 refine JG_loadq (by kernel_rfl) (t := 3) (d := a0_0) (Int.toNat (w64 (s37.1 - 1)) * 1) 0 (by kernel_rfl) (cs := [.int .i64 x69]) (v := .int .i64 x69) (fun w hs => (hs.view 0 rfl).flatq hx70) (by kernel_rfl) rfl ?_
                 refine gn hm [46, 50, 41, 39, 38, 37, 0, 1, 2, 3, 8, 9] [] ?_
                 refine ha1 14 ?_
                 refine hi (fun γ0 δ hm => ?_)
                 refine JG_index (by kernel_rfl) (d := a0_0) (m := s37.2.length) (j := s37.1) (s := 1) (by kernel_rfl) (fun w hs => (hs.view 0 rfl)) rfl hx76 rfl ?_
                 refine gn hm [51, 46, 50, 41, 39, 0, 1, 2, 3, 8, 9] [] ?_
                 refine ha1 15 ?_
                 refine hi (fun γ0 δ hm => ?_)
                 refine JG_storeq (α := Int) (d := a0_0) (vs := [.int .i64 x69]) (j := s37.1) (x' := x69) (by kernel_rfl) 0 (by kernel_rfl) hx76 (Rc := []) (Rr := []) rfl (by kernel_rfl) (fun w c F Fs ho _ _ => own_flat_set (by kernel_rfl) ho) hm79 (sl' := [(51, .q a0_0 (Int.toNat s37.1 * 1)), (46, vi x69), (50, vi x72), (41, vi (w64 (s37.1 - 1))), (39, .v (.slice a0_0 s37.2.length c0_0)), (0, .v (.slice a0_0 s37.2.length c0_0)), (1, vi s21.2.2.1), (2, vi s21.2.2.2), (3, .v (.func (.func 35) #[] #[.pointer (some ⟨g3_0, 0, none⟩), .pointer (some ⟨g3_1, 0, none⟩), .pointer (some ⟨g3_2, 0, none⟩)])), (8, vi s21.1), (9, vi s37.1)]) (by kernel_rfl) ?_
                 refine KG_eqE (sl' := [(51, .q a0_0 (Int.toNat s37.1 * 1)), (46, vi x69), (50, vi x72), (41, vi (w64 (s37.1 - 1))), (39, .v (.slice a0_0 l78.length c0_0)), (0, .v (.slice a0_0 l78.length c0_0)), (1, vi s21.2.2.1), (2, vi s21.2.2.2), (3, .v (.func (.func 35) #[] #[.pointer (some ⟨g3_0, 0, none⟩), .pointer (some ⟨g3_1, 0, none⟩), .pointer (some ⟨g3_2, 0, none⟩)])), (8, vi s21.1), (9, vi s37.1)]) (bx' := []) (by simp only [hl81]) rfl ?_
                 refine gn hm [50, 41, 39, 0, 1, 2, 3, 8, 9] [] ?_
                 refine ha1 16 ?_
                 refine hi (fun γ0 δ hm => ?_)
                 refine JG_index (by kernel_rfl) (d := a0_0) (m := l78.length) (j := (w64 (s37.1 - 1))) (s := 1) (by kernel_rfl) (fun w hs => (hs.view 0 rfl)) rfl hx83 rfl ?_
                 refine gn hm [52, 50, 0, 1, 2, 3, 8, 9] [] ?_
                 refine ha1 17 ?_
                 refine hi (fun γ0 δ hm => ?_)
                 refine JG_storeq (α := Int) (d := a0_0) (vs := [.int .i64 x72]) (j := (w64 (s37.1 - 1))) (x' := x72) (by kernel_rfl) 0 (by kernel_rfl) hx83 (Rc := []) (Rr := []) rfl (by kernel_rfl) (fun w c F Fs ho _ _ => own_flat_set (by kernel_rfl) ho) hm86 (sl' := [(52, .q a0_0 (Int.toNat (w64 (s37.1 - 1)) * 1)), (50, vi x72), (0, .v (.slice a0_0 l78.length c0_0)), (1, vi s21.2.2.1), (2, vi s21.2.2.2), (3, .v (.func (.func 35) #[] #[.pointer (some ⟨g3_0, 0, none⟩), .pointer (some ⟨g3_1, 0, none⟩), .pointer (some ⟨g3_2, 0, none⟩)])), (8, vi s21.1), (9, vi s37.1)]) (by kernel_rfl) ?_
                 refine KG_eqE (sl' := [(52, .q a0_0 (Int.toNat (w64 (s37.1 - 1)) * 1)), (50, vi x72), (0, .v (.slice a0_0 l85.length c0_0)), (1, vi s21.2.2.1), (2, vi s21.2.2.2), (3, .v (.func (.func 35) #[] #[.pointer (some ⟨g3_0, 0, none⟩), .pointer (some ⟨g3_1, 0, none⟩), .pointer (some ⟨g3_2, 0, none⟩)])), (8, vi s21.1), (9, vi s37.1)]) (bx' := []) (by simp only [hl88]) rfl ?_
                 refine gn hm [0, 1, 2, 3, 8, 9] [] ?_
                 exact hd () [0, 1, 2, 3, 8, 9] [0] 0
           · refine hi (fun γ0 δ hm => ?_)
             refine JG_index (by kernel_rfl) (d := a0_0) (m := s37.2.length) (j := s37.1) (s := 1) (by kernel_rfl) (fun w hs => (hs.view 0 rfl)) rfl hx73 rfl ?_
             refine gn hm [49, 44, 42, 41, 39, 38, 37, 0, 1, 2, 3, 8, 9] [] ?_
             refine ha2 8 13 ?_ ?_
             · refine hi (fun γ0 δ hm => ?_)
               refine JG_index (by kernel_rfl) (d := a0_0) (m := s37.2.length) (j := (w64 (s37.1 - 1))) (s := 1) (by kernel_rfl) (fun w hs => (hs.view 0 rfl)) rfl hx70 rfl ?_
               refine gn hm [45, 49, 41, 39, 38, 37, 0, 1, 2, 3, 8, 9] [] ?_
               refine ha2 9 13 ?_ ?_
               · refine hi (fun γ0 δ hm => ?_)
                 refine JG_loadq (by kernel_rfl) (t := 3) (d := a0_0) (Int.toNat (w64 (s37.1 - 1)) * 1) 0 (by kernel_rfl) (cs := [.int .i64 x69]) (v := .int .i64 x69) (fun w hs => (hs.view 0 rfl).flatq hx70) (by kernel_rfl) rfl ?_
                 refine gn hm [46, 49, 41, 39, 38, 37, 0, 1, 2, 3, 8, 9] [] ?_
                 refine ha1 13 ?_
                 refine hi (fun γ0 δ hm => ?_)
                 refine JG_loadq (by kernel_rfl) (t := 3) (d := a0_0) (Int.toNat s37.1 * 1) 0 (by kernel_rfl) (cs := [.int .i64 x72]) (v := .int .i64 x72) (fun w hs => (hs.view 0 rfl).flatq hx73) (by kernel_rfl) rfl ?_
                 refine gn hm [50, 46, 41, 39, 38, 37, 0, 1, 2, 3, 8, 9] [] ?_
                 refine ha1 14 ?_
                 refine hi (fun γ0 δ hm => ?_)
                 refine JG_index (by kernel_rfl) (d := a0_0) (m := s37.2.length) (j := s37.1) (s := 1) (by kernel_rfl) (fun w hs => (hs.view 0 rfl)) rfl hx76 rfl ?_
                 refine gn hm [51, 50, 46, 41, 39, 0, 1, 2, 3, 8, 9] [] ?_
                 refine ha1 15 ?_
                 refine hi (fun γ0 δ hm => ?_)
                 refine JG_storeq (α := Int) (d := a0_0) (vs := [.int .i64 x69]) (j := s37.1) (x' := x69) (by kernel_rfl) 0 (by kernel_rfl) hx76 (Rc := []) (Rr := []) rfl (by kernel_rfl) (fun w c F Fs ho _ _ => own_flat_set (by kernel_rfl) ho) hm79 (sl' := [(51, .q a0_0 (Int.toNat s37.1 * 1)), (50, vi x72), (46, vi x69), (41, vi (w64 (s37.1 - 1))), (39, .v (.slice a0_0 s37.2.length c0_0)), (0, .v (.slice a0_0 s37.2.length c0_0)), (1, vi s21.2.2.1), (2, vi s21.2.2.2), (3, .v (.func (.func 35) #[] #[.pointer (some ⟨g3_0, 0, none⟩), .pointer (some ⟨g3_1, 0, none⟩), .pointer (some ⟨g3_2, 0, none⟩)])), (8, vi s21.1), (9, vi s37.1)]) (by kernel_rfl) ?_
                 refine KG_eqE (sl' := [(51, .q a0_0 (Int.toNat s37.1 * 1)), (50, vi x72), (46, vi x69), (41, vi (w64 (s37.1 - 1))), (39, .v (.slice a0_0 l78.length c0_0)), (0, .v (.slice a0_0 l78.length c0_0)), (1, vi s21.2.2.1), (2, vi s21.2.2.2), (3, .v (.func (.func 35) #[] #[.pointer (some ⟨g3_0, 0, none⟩), .pointer (some ⟨g3_1, 0, none⟩), .pointer (some ⟨g3_2, 0, none⟩)])), (8, vi s21.1), (9, vi s37.1)]) (bx' := []) (by simp only [hl81]) rfl ?_
                 refine gn hm [50, 41, 39, 0, 1, 2, 3, 8, 9] [] ?_
                 refine ha1 16 ?_
                 refine hi (fun γ0 δ hm => ?_)
                 refine JG_index (by kernel_rfl) (d := a0_0) (m := l78.length) (j := (w64 (s37.1 - 1))) (s := 1) (by kernel_rfl) (fun w hs => (hs.view 0 rfl)) rfl hx83 rfl ?_
                 refine gn hm [52, 50, 0, 1, 2, 3, 8, 9] [] ?_
                 refine ha1 17 ?_
                 refine hi (fun γ0 δ hm => ?_)
                 refine JG_storeq (α := Int) (d := a0_0) (vs := [.int .i64 x72]) (j := (w64 (s37.1 - 1))) (x' := x72) (by kernel_rfl) 0 (by kernel_rfl) hx83 (Rc := []) (Rr := []) rfl (by kernel_rfl) (fun w c F Fs ho _ _ => own_flat_set (by kernel_rfl) ho) hm86 (sl' := [(52, .q a0_0 (Int.toNat (w64 (s37.1 - 1)) * 1)), (50, vi x72), (0, .v (.slice a0_0 l78.length c0_0)), (1, vi s21.2.2.1), (2, vi s21.2.2.2), (3, .v (.func (.func 35) #[] #[.pointer (some ⟨g3_0, 0, none⟩), .pointer (some ⟨g3_1, 0, none⟩), .pointer (some ⟨g3_2, 0, none⟩)])), (8, vi s21.1), (9, vi s37.1)]) (by kernel_rfl) ?_
                 refine KG_eqE (sl' := [(52, .q a0_0 (Int.toNat (w64 (s37.1 - 1)) * 1)), (50, vi x72), (0, .v (.slice a0_0 l85.length c0_0)), (1, vi s21.2.2.1), (2, vi s21.2.2.2), (3, .v (.func (.func 35) #[] #[.pointer (some ⟨g3_0, 0, none⟩), .pointer (some ⟨g3_1, 0, none⟩), .pointer (some ⟨g3_2, 0, none⟩)])), (8, vi s21.1), (9, vi s37.1)]) (bx' := []) (by simp only [hl88]) rfl ?_
                 refine gn hm [0, 1, 2, 3, 8, 9] [] ?_
                 exact hd () [0, 1, 2, 3, 8, 9] [0] 0
               · refine hi (fun γ0 δ hm => ?_)
                 refine JG_loadq (by kernel_rfl) (t := 3) (d := a0_0) (Int.toNat s37.1 * 1) 0 (by kernel_rfl) (cs := [.int .i64 x72]) (v := .int .i64 x72) (fun w hs => (hs.view 0 rfl).flatq hx73) (by kernel_rfl) rfl ?_
                 refine gn hm [50, 45, 41, 39, 38, 37, 0, 1, 2, 3, 8, 9] [] ?_
                 refine ha1 9 ?_
                 refine hi (fun γ0 δ hm => ?_)
                 refine JG_loadq (by kernel_rfl) (t := 3) (d := a0_0) (Int.toNat (w64 (s37.1 - 1)) * 1) 0 (by kernel_rfl) (cs := [.int .i64 x69]) (v := .int .i64 x69) (fun w hs => (hs.view 0 rfl).flatq hx70) (by kernel_rfl) rfl ?_
                 refine gn hm [46, 50, 41, 39, 38, 37, 0, 1, 2, 3, 8, 9] [] ?_
                 refine ha1 14 ?_
                 refine hi (fun γ0 δ hm => ?_)
                 refine JG_index (by kernel_rfl) (d := a0_0) (m := s37.2.length) (j := s37.1) (s := 1) (by kernel_rfl) (fun w hs => (hs.view 0 rfl)) rfl hx76 rfl ?_
                 refine gn hm [51, 46, 50, 41, 39, 0, 1, 2, 3, 8, 9] [] ?_
                 refine ha1 15 ?_
                 refine hi (fun γ0 δ hm => ?_)
                 refine JG_storeq (α := Int) (d := a0_0) (vs := [.int .i64 x69]) (j := s37.1) (x' := x69) (by kernel_rfl) 0 (by kernel_rfl) hx76 (Rc := []) (Rr := []) rfl (by kernel_rfl) (fun w c F Fs ho _ _ => own_flat_set (by kernel_rfl) ho) hm79 (sl' := [(51, .q a0_0 (Int.toNat s37.1 * 1)), (46, vi x69), (50, vi x72), (41, vi (w64 (s37.1 - 1))), (39, .v (.slice a0_0 s37.2.length c0_0)), (0, .v (.slice a0_0 s37.2.length c0_0)), (1, vi s21.2.2.1), (2, vi s21.2.2.2), (3, .v (.func (.func 35) #[] #[.pointer (some ⟨g3_0, 0, none⟩), .pointer (some ⟨g3_1, 0, none⟩), .pointer (some ⟨g3_2, 0, none⟩)])), (8, vi s21.1), (9, vi s37.1)]) (by kernel_rfl) ?_
                 refine KG_eqE (sl' := [(51, .q a0_0 (Int.toNat s37.1 * 1)), (46, vi x69), (50, vi x72), (41, vi (w64 (s37.1 - 1))), (39, .v (.slice a0_0 l78.length c0_0)), (0, .v (.slice a0_0 l78.length c0_0)), (1, vi s21.2.2.1), (2, vi s21.2.2.2), (3, .v (.func (.func 35) #[] #[.pointer (some ⟨g3_0, 0, none⟩), .pointer (some ⟨g3_1, 0, none⟩), .pointer (some ⟨g3_2, 0, none⟩)])), (8, vi s21.1), (9, vi s37.1)]) (bx' := []) (by simp only [hl81]) rfl ?_
                 refine gn hm [50, 41, 39, 0, 1, 2, 3, 8, 9] [] ?_
                 refine ha1 16 ?_
                 refine hi (fun γ0 δ hm => ?_)
                 refine JG_index (by kernel_rfl) (d := a0_0) (m := l78.length) (j := (w64 (s37.1 - 1))) (s := 1) (by kernel_rfl) (fun w hs => (hs.view 0 rfl)) rfl hx83 rfl ?_
                 refine gn hm [52, 50, 0, 1, 2, 3, 8, 9] [] ?_
                 refine ha1 17 ?_
                 refine hi (fun γ0 δ hm => ?_)
                 refine JG_storeq (α := Int) (d := a0_0) (vs := [.int .i64 x72]) (j := (w64 (s37.1 - 1))) (x' := x72) (by kernel_rfl) 0 (by kernel_rfl) hx83 (Rc := []) (Rr := []) rfl (by kernel_rfl) (fun w c F Fs ho _ _ => own_flat_set (by kernel_rfl) ho) hm86 (sl' := [(52, .q a0_0 (Int.toNat (w64 (s37.1 - 1)) * 1)), (50, vi x72), (0, .v (.slice a0_0 l78.length c0_0)), (1, vi s21.2.2.1), (2, vi s21.2.2.2), (3, .v (.func (.func 35) #[] #[.pointer (some ⟨g3_0, 0, none⟩), .pointer (some ⟨g3_1, 0, none⟩), .pointer (some ⟨g3_2, 0, none⟩)])), (8, vi s21.1), (9, vi s37.1)]) (by kernel_rfl) ?_
                 refine KG_eqE (sl' := [(52, .q a0_0 (Int.toNat (w64 (s37.1 - 1)) * 1)), (50, vi x72), (0, .v (.slice a0_0 l85.length c0_0)), (1, vi s21.2.2.1), (2, vi s21.2.2.2), (3, .v (.func (.func 35) #[] #[.pointer (some ⟨g3_0, 0, none⟩), .pointer (some ⟨g3_1, 0, none⟩), .pointer (some ⟨g3_2, 0, none⟩)])), (8, vi s21.1), (9, vi s37.1)]) (bx' := []) (by simp only [hl88]) rfl ?_
                 refine gn hm [0, 1, 2, 3, 8, 9] [] ?_
                 exact hd () [0, 1, 2, 3, 8, 9] [0] 0
             · refine hi (fun γ0 δ hm => ?_)
               refine JG_loadq (by kernel_rfl) (t := 3) (d := a0_0) (Int.toNat s37.1 * 1) 0 (by kernel_rfl) (cs := [.int .i64 x72]) (v := .int .i64 x72) (fun w hs => (hs.view 0 rfl).flatq hx73) (by kernel_rfl) rfl ?_
               refine gn hm [50, 44, 42, 41, 39, 38, 37, 0, 1, 2, 3, 8, 9] [] ?_
               refine ha1 8 ?_
               refine hi (fun γ0 δ hm => ?_)
               refine JG_index (by kernel_rfl) (d := a0_0) (m := s37.2.length) (j := (w64 (s37.1 - 1))) (s := 1) (by kernel_rfl) (fun w hs => (hs.view 0 rfl)) rfl hx70 rfl ?_
               refine gn hm [45, 50, 41, 39, 38, 37, 0, 1, 2, 3, 8, 9] [] ?_
               refine ha1 9 ?_
               refine hi (fun γ0 δ hm => ?_)
               refine JG_loadq (by kernel_rfl) (t := 3) (d := a0_0) (Int.toNat (w64 (s37.1 - 1)) * 1) 0 (by kernel_rfl) (cs := [.int .i64 x69]) (v := .int .i64 x69) (fun w hs => (hs.view 0 rfl).flatq hx70) (by kernel_rfl) rfl ?_
               refine gn hm [46, 50, 41, 39, 38, 37, 0, 1, 2, 3, 8, 9] [] ?_
               refine ha1 14 ?_
               refine hi (fun γ0 δ hm => ?_)
               refine JG_index (by kernel_rfl) (d := a0_0) (m := s37.2.length) (j := s37.1) (s := 1) (by kernel_rfl) (fun w hs => (hs.view 0 rfl)) rfl hx76 rfl ?_
               refine gn hm [51, 46, 50, 41, 39, 0, 1, 2, 3, 8, 9] [] ?_
               refine ha1 15 ?_
               refine hi (fun γ0 δ hm => ?_)
               refine JG_storeq (α := Int) (d := a0_0) (vs := [.int .i64 x69]) (j := s37.1) (x' := x69) (by kernel_rfl) 0 (by kernel_rfl) hx76 (Rc := []) (Rr := []) rfl (by kernel_rfl) (fun w c F Fs ho _ _ => own_flat_set (by kernel_rfl) ho) hm79 (sl' := [(51, .q a0_0 (Int.toNat s37.1 * 1)), (46, vi x69), (50, vi x72), (41, vi (w64 (s37.1 - 1))), (39, .v (.slice a0_0 s37.2.length c0_0)), (0, .v (.slice a0_0 s37.2.length c0_0)), (1, vi s21.2.2.1), (2, vi s21.2.2.2), (3, .v (.func (.func 35) #[] #[.pointer (some ⟨g3_0, 0, none⟩), .pointer (some ⟨g3_1, 0, none⟩), .pointer (some ⟨g3_2, 0, none⟩)])), (8, vi s21.1), (9, vi s37.1)]) (by kernel_rfl) ?_
               refine KG_eqE (sl' := [(51, .q a0_0 (Int.toNat s37.1 * 1)), (46, vi x69), (50, vi x72), (41, vi (w64 (s37.1 - 1))), (39, .v (.slice a0_0 l78.length c0_0)), (0, .v (.slice a0_0 l78.length c0_0)), (1, vi s21.2.2.1), (2, vi s21.2.2.2), (3, .v (.func (.func 35) #[] #[.pointer (some ⟨g3_0, 0, none⟩), .pointer (some ⟨g3_1, 0, none⟩), .pointer (some ⟨g3_2, 0, none⟩)])), (8, vi s21.1), (9, vi s37.1)]) (bx' := []) (by simp only [hl81]) rfl ?_
               refine gn hm [50, 41, 39, 0, 1, 2, 3, 8, 9] [] ?_
               refine ha1 16 ?_
               refine hi (fun γ0 δ hm => ?_)
               refine JG_index (by kernel_rfl) (d := a0_0) (m := l78.length) (j := (w64 (s37.1 - 1))) (s := 1) (by kernel_rfl) (fun w hs => (hs.view 0 rfl)) rfl hx83 rfl ?_
               refine gn hm [52, 50, 0, 1, 2, 3, 8, 9] [] ?_
               refine ha1 17 ?_
               refine hi (fun γ0 δ hm => ?_)
               refine JG_storeq (α := Int) (d := a0_0) (vs := [.int .i64 x72]) (j := (w64 (s37.1 - 1))) (x' := x72) (by kernel_rfl) 0 (by kernel_rfl) hx83 (Rc := []) (Rr := []) rfl (by kernel_rfl) (fun w c F Fs ho _ _ => own_flat_set (by kernel_rfl) ho) hm86 (sl' := [(52, .q a0_0 (Int.toNat (w64 (s37.1 - 1)) * 1)), (50, vi x72), (0, .v (.slice a0_0 l78.length c0_0)), (1, vi s21.2.2.1), (2, vi s21.2.2.2), (3, .v (.func (.func 35) #[] #[.pointer (some ⟨g3_0, 0, none⟩), .pointer (some ⟨g3_1, 0, none⟩), .pointer (some ⟨g3_2, 0, none⟩)])), (8, vi s21.1), (9, vi s37.1)]) (by kernel_rfl) ?_
               refine KG_eqE (sl' := [(52, .q a0_0 (Int.toNat (w64 (s37.1 - 1)) * 1)), (50, vi x72), (0, .v (.slice a0_0 l85.length c0_0)), (1, vi s21.2.2.1), (2, vi s21.2.2.2), (3, .v (.func (.func 35) #[] #[.pointer (some ⟨g3_0, 0, none⟩), .pointer (some ⟨g3_1, 0, none⟩), .pointer (some ⟨g3_2, 0, none⟩)])), (8, vi s21.1), (9, vi s37.1)]) (bx' := []) (by simp only [hl88]) rfl ?_
               refine gn hm [0, 1, 2, 3, 8, 9] [] ?_
               exact hd () [0, 1, 2, 3, 8, 9] [0] 0
         refine bn (nt (qr (oN 3 [(9, vi (w64 (s37.1 - 1)))] [0, 1, 2, 3, 8] ?_)))
         exact oe (ct h87 () [9, 8, 0, 1, 2, 3] [0] 0)
       refine qx (nx (nx (bh ?_)))
       have h90 := leafB hd46 h68 h42
       exact mp ((s21.1, s37.2, s21.2.2.1, s21.2.2.2), ()) h90 [8, 0, 1, 2, 3] [0] 0
     have h49 := (congrFun hk44 _).symm.trans h49p
     refine bn (nt (qr (oN 3 [(8, vi (w64 (y48.1.1 + 1)))] [0, 1, 2, 3] ?_)))
     exact oe (ct h49 () [8, 0, 1, 2, 3] [0] 0)
   refine qx (nx (nx (bh ?_)))
   have h91 := leafB hd30 h36 h26
   exact mp (s21.2.1, ()) h91 [0, 3] [0] 0
 have h33 := (congrFun hk28 _).symm.trans h33p
 refine JE_fall (vs := []) (by kernel_rfl) (fun γ w hs => ?_)
 rw [← sI h33]
 exact hs.turned (is := [0]) rfl

theorem c_slices_swapRangeCmpFunc_int__impl_Allocate_1 {W : World} {x0 : List Int} {a0_0 : Option Addr} {c0_0 : Nat} {e0_0 : TypeId} {x1 : Int} {x2 : Int} {x3 : Int} {g4_0 : Nat} {z4_0 : Int} {g4_1 : Nat} {z4_1 : List Int} {g4_2 : Nat} {z4_2 : Int} {r : (List Int)} (h : slices_swapRangeCmpFunc_int__impl_Allocate_1 x0 x1 x2 x3 z4_0 z4_1 z4_2 = some r)  :
    GivesMQ Try.prog (fun w => ∀ (q0 : Int) (q1 : Int) (r : Int), impl_Allocate_1 q0 q1 z4_0 z4_1 z4_2 = some r → Gives0 Try.prog 35 #[.int .i64 q0, .int .i64 q1, .pointer (some ⟨g4_0, 0, none⟩), .pointer (some ⟨g4_1, 0, none⟩), .pointer (some ⟨g4_2, 0, none⟩)] w (.int .i64 r)) 46 #[.slice a0_0 x0.length c0_0, .int .i64 x1, .int .i64 x2, .int .i64 x3, .func (.func 35) #[] #[.pointer (some ⟨g4_0, 0, none⟩), .pointer (some ⟨g4_1, 0, none⟩), .pointer (some ⟨g4_2, 0, none⟩)]] W [SlRes e0_0 x0 a0_0 c0_0] [SlRes e0_0 r a0_0 c0_0] (.tuple #[]) := by
 unfold slices_swapRangeCmpFunc_int__impl_Allocate_1 at h
 refine enterMQ [.v (.slice a0_0 x0.length c0_0), vi x1, vi x2, vi x3, .v (.func (.func 35) #[] #[.pointer (some ⟨g4_0, 0, none⟩), .pointer (some ⟨g4_1, 0, none⟩), .pointer (some ⟨g4_2, 0, none⟩)])] (args := [.slice a0_0 x0.length c0_0, .int .i64 x1, .int .i64 x2, .int .i64 x3, .func (.func 35) #[] #[.pointer (some ⟨g4_0, 0, none⟩), .pointer (some ⟨g4_1, 0, none⟩), .pointer (some ⟨g4_2, 0, none⟩)]]) (by kernel_rfl) (by kernel_rfl) Try.func46 rfl Try.ntmps46 (by kernel_rfl) (fun Fs hq => ?_)
 refine qs (qr (oN 1 [(10, vi 0)] [0, 1, 2, 3, 4] ?_))
 refine oe (nt ?_)
 obtain ⟨r24, hL25, h26⟩ := bS h
 obtain ⟨k27, hk28, h26⟩ := brkS h26
 refine JC_cutP (τ := ((List Int)) × (Unit)) (fun y => k27 y.1 = some r) (fun y32 => [(0, .v (.slice a0_0 y32.1.length c0_0)), (4, .v (.func (.func 35) #[] #[.pointer (some ⟨g4_0, 0, none⟩), .pointer (some ⟨g4_1, 0, none⟩), .pointer (some ⟨g4_2, 0, none⟩)]))]) (fun y32 => []) (fun y32 => [SlRes e0_0 y32.1 a0_0 c0_0]) ?_ (fun y32 h33p => ?_)
 · refine qb (lp Unit hL25 (fun s21 y22 => [(10, vi s21.1), (0, .v (.slice a0_0 s21.2.length c0_0)), (1, vi x1), (2, vi x2), (3, vi x3), (4, .v (.func (.func 35) #[] #[.pointer (some ⟨g4_0, 0, none⟩), .pointer (some ⟨g4_1, 0, none⟩), .pointer (some ⟨g4_2, 0, none⟩)]))]) (fun s21 y22 => []) (fun s21 y22 => [SlRes e0_0 s21.2 a0_0 c0_0]) () [10, 0, 1, 2, 3, 4] [0] 0 (fun s21 y22 t23 h29 hd30 => ?_))
   refine qs (qs (qr (oN 3 [(13, vb (decide (s21.1 < x3)))] [10, 0, 1, 2, 3, 4] ?_)))
   refine oe (nt (cC h29 (fun h35 => ?_) (fun h36 => ?_)))
   · refine qk (nt (qs (qb ?_)))
     obtain ⟨x37, hx38, h39⟩ := bS h35
     obtain ⟨x40, hx41, h42⟩ := bS h39
     obtain ⟨x43, hx44, h45⟩ := bS h42
     obtain ⟨l46, hm47, h48⟩ := bS h45
     replace hm47 := (sI hm47).symm
     have hl49 := len_set hm47
     obtain ⟨x50, hx51, h52⟩ := bS h48
     obtain ⟨l53, hm54, h55⟩ := bS h52
     replace hm54 := (sI hm54).symm
     have hl56 := len_set hm54
     refine JC_cut (τ := Unit) (fun _ => [(10, vi s21.1), (0, .v (.slice a0_0 l53.length c0_0)), (1, vi x1), (2, vi x2), (3, vi x3), (4, .v (.func (.func 35) #[] #[.pointer (some ⟨g4_0, 0, none⟩), .pointer (some ⟨g4_1, 0, none⟩), .pointer (some ⟨g4_2, 0, none⟩)]))]) (fun _ => []) (fun _ => [SlRes e0_0 l53 a0_0 c0_0]) ?_ (fun _ => ?_)
     · refine jw [10, 0, 1, 2, 3, 4] [0] ?_
       refine JC_heldN (ks := []) (Rk := []) 24 (by kernel_rfl) (by kernel_rfl) ?_
       refine htq 0 (.v (.slice a0_0 s21.2.length c0_0)) [] ?_
       refine htq 1 (vi x1) [] ?_
       refine htq 2 (vi s21.1) [] ?_
       refine htq 3 (vi (w64 (x1 + s21.1))) [] ?_
       refine hk [19, 16, 10, 0, 1, 2, 3, 4] ?_
       refine htq 4 (.v (.slice a0_0 s21.2.length c0_0)) [] ?_
       refine htq 5 (vi x2) [] ?_
       refine htq 6 (vi s21.1) [] ?_
       refine htq 7 (vi (w64 (x2 + s21.1))) [] ?_
       refine hk [23, 20, 19, 16, 10, 0, 1, 2, 3, 4] ?_
       refine htq 8 (.v (.slice a0_0 s21.2.length c0_0)) [] ?_
       refine htq 9 (vi x2) [] ?_
       refine htq 10 (vi s21.1) [] ?_
       refine htq 11 (vi (w64 (x2 + s21.1))) [] ?_
       refine hk [27, 24, 23, 20, 19, 16, 10, 0, 1, 2, 3, 4] ?_
       refine htq 14 (.v (.slice a0_0 s21.2.length c0_0)) [] ?_
       refine htq 15 (vi x1) [] ?_
       refine htq 16 (vi s21.1) [] ?_
       refine htq 17 (vi (w64 (x1 + s21.1))) [] ?_
       refine hk [33, 30, 27, 24, 23, 20, 19, 16, 10, 0, 1, 2, 3, 4] ?_
       refine ha2 12 18 ?_ ?_
       · refine hi (fun γ0 δ hm => ?_)
         refine JG_index (by kernel_rfl) (d := a0_0) (m := s21.2.length) (j := (w64 (x2 + s21.1))) (s := 1) (by kernel_rfl) (fun w hs => (hs.view 0 rfl)) rfl hx38 rfl ?_
         refine gn hm [28, 33, 30, 23, 20, 19, 16, 10, 0, 1, 2, 3, 4] [] ?_
         refine ha2 13 18 ?_ ?_
         · refine hi (fun γ0 δ hm => ?_)
           refine JG_loadq (by kernel_rfl) (t := 3) (d := a0_0) (Int.toNat (w64 (x2 + s21.1)) * 1) 0 (by kernel_rfl) (cs := [.int .i64 x37]) (v := .int .i64 x37) (fun w hs => (hs.view 0 rfl).flatq hx38) (by kernel_rfl) rfl ?_
           refine gn hm [29, 33, 30, 23, 20, 19, 16, 10, 0, 1, 2, 3, 4] [] ?_
           refine ha1 18 ?_
           refine hi (fun γ0 δ hm => ?_)
           refine JG_index (by kernel_rfl) (d := a0_0) (m := s21.2.length) (j := (w64 (x1 + s21.1))) (s := 1) (by kernel_rfl) (fun w hs => (hs.view 0 rfl)) rfl hx41 rfl ?_
           refine gn hm [34, 29, 23, 20, 19, 16, 10, 0, 1, 2, 3, 4] [] ?_
           refine ha1 19 ?_
           refine hi (fun γ0 δ hm => ?_)
           refine JG_loadq (by kernel_rfl) (t := 3) (d := a0_0) (Int.toNat (w64 (x1 + s21.1)) * 1) 0 (by kernel_rfl) (cs := [.int .i64 x40]) (v := .int .i64 x40) (fun w hs => (hs.view 0 rfl).flatq hx41) (by kernel_rfl) rfl ?_
           refine gn hm [35, 29, 23, 20, 19, 16, 10, 0, 1, 2, 3, 4] [] ?_
           refine ha1 20 ?_
           refine hi (fun γ0 δ hm => ?_)
           refine JG_index (by kernel_rfl) (d := a0_0) (m := s21.2.length) (j := (w64 (x1 + s21.1))) (s := 1) (by kernel_rfl) (fun w hs => (hs.view 0 rfl)) rfl hx44 rfl ?_
           refine gn hm [36, 35, 29, 23, 20, 10, 0, 1, 2, 3, 4] [] ?_
           refine ha1 21 ?_
           refine hi (fun γ0 δ hm => ?_)
           refine JG_storeq (α := Int) (d := a0_0) (vs := [.int .i64 x37]) (j := (w64 (x1 + s21.1))) (x' := x37) (by kernel_rfl) 0 (by kernel_rfl) hx44 (Rc := []) (Rr := []) rfl (by kernel_rfl) (fun w c F Fs ho _ _ => own_flat_set (by kernel_rfl) ho) hm47 (sl' := [(36, .q a0_0 (Int.toNat (w64 (x1 + s21.1)) * 1)), (35, vi x40), (29, vi x37), (23, vi (w64 (x2 + s21.1))), (20, .v (.slice a0_0 s21.2.length c0_0)), (10, vi s21.1), (0, .v (.slice a0_0 s21.2.length c0_0)), (1, vi x1), (2, vi x2), (3, vi x3), (4, .v (.func (.func 35) #[] #[.pointer (some ⟨g4_0, 0, none⟩), .pointer (some ⟨g4_1, 0, none⟩), .pointer (some ⟨g4_2, 0, none⟩)]))]) (by kernel_rfl) ?_
           refine KG_eqE (sl' := [(36, .q a0_0 (Int.toNat (w64 (x1 + s21.1)) * 1)), (35, vi x40), (29, vi x37), (23, vi (w64 (x2 + s21.1))), (20, .v (.slice a0_0 l46.length c0_0)), (10, vi s21.1), (0, .v (.slice a0_0 l46.length c0_0)), (1, vi x1), (2, vi x2), (3, vi x3), (4, .v (.func (.func 35) #[] #[.pointer (some ⟨g4_0, 0, none⟩), .pointer (some ⟨g4_1, 0, none⟩), .pointer (some ⟨g4_2, 0, none⟩)]))]) (bx' := []) (by simp only [hl49]) rfl ?_
           refine gn hm [35, 23, 20, 10, 0, 1, 2, 3, 4] [] ?_
           refine ha1 22 ?_
           refine hi (fun γ0 δ hm => ?_)
           refine JG_index (by kernel_rfl) (d := a0_0) (m := l46.length) (j := (w64 (x2 + s21.1))) (s := 1) (by kernel_rfl) (fun w hs => (hs.view 0 rfl)) rfl hx51 rfl ?_
           refine gn hm [37, 35, 10, 0, 1, 2, 3, 4] [] ?_
           refine ha1 23 ?_
           refine hi (fun γ0 δ hm => ?_)
           refine JG_storeq (α := Int) (d := a0_0) (vs := [.int .i64 x40]) (j := (w64 (x2 + s21.1))) (x' := x40) (by kernel_rfl) 0 (by kernel_rfl) hx51 (Rc := []) (Rr := []) rfl (by kernel_rfl) (fun w c F Fs ho _ _ => own_flat_set (by kernel_rfl) ho) hm54 (sl' := [(37, .q a0_0 (Int.toNat (w64 (x2 + s21.1)) * 1)), (35, vi x40), (10, vi s21.1), (0, .v (.slice a0_0 l46.length c0_0)), (1, vi x1), (2, vi x2), (3, vi x3), (4, .v (.func (.func 35) #[] #[.pointer (some ⟨g4_0, 0, none⟩), .pointer (some ⟨g4_1, 0, none⟩), .pointer (some ⟨g4_2, 0, none⟩)]))]) (by kernel_rfl) ?_
           refine KG_eqE (sl' := [(37, .q a0_0 (Int.toNat (w64 (x2 + s21.1)) * 1)), (35, vi x40), (10, vi s21.1), (0, .v (.slice a0_0 l53.length c0_0)), (1, vi x1), (2, vi x2), (3, vi x3), (4, .v (.func (.func 35) #[] #[.pointer (some ⟨g4_0, 0, none⟩), .pointer (some ⟨g4_1, 0, none⟩), .pointer (some ⟨g4_2, 0, none⟩)]))]) (bx' := []) (by simp only [hl56]) rfl ?_
           refine gn hm [10, 0, 1, 2, 3, 4] [] ?_
           exact hd () [10, 0, 1, 2, 3, 4] [0] 0
         · refine hi (fun γ0 δ hm => ?_)
           refine JG_index (by kernel_rfl) (d := a0_0) (m := s21.2.length) (j := (w64 (x1 + s21.1))) (s := 1) (by kernel_rfl) (fun w hs => (hs.view 0 rfl)) rfl hx41 rfl ?_
           refine gn hm [34, 28, 23, 20, 19, 16, 10, 0, 1, 2, 3, 4] [] ?_
           refine ha2 13 19 ?_ ?_
           · refine hi (fun γ0 δ hm => ?_)
             refine JG_loadq (by kernel_rfl) (t := 3) (d := a0_0) (Int.toNat (w64 (x2 + s21.1)) * 1) 0 (by kernel_rfl) (cs := [.int .i64 x37]) (v := .int .i64 x37) (fun w hs => (hs.view 0 rfl).flatq hx38) (by kernel_rfl) rfl ?_
             refine gn hm [29, 34, 23, 20, 19, 16, 10, 0, 1, 2, 3, 4] [] ?_
             refine ha1 19 ?_
             refine hi (fun γ0 δ hm => ?_)
             refine JG_loadq (by kernel_rfl) (t := 3) (d := a0_0) (Int.toNat (w64 (x1 + s21.1)) * 1) 0 (by kernel_rfl) (cs := [.int .i64 x40]) (v := .int .i64 x40) (fun w hs => (hs.view 0 rfl).flatq hx41) (by kernel_rfl) rfl ?_
             refine gn hm [35, 29, 23, 20, 19, 16, 10, 0, 1, 2, 3, 4] [] ?_
             refine ha1 20 ?_
             refine hi (fun γ0 δ hm => ?_)
             refine JG_index (by kernel_rfl) (d := a0_0) (m := s21.2.length) (j := (w64 (x1 + s21.1))) (s := 1) (by kernel_rfl) (fun w hs => (hs.view 0 rfl)) rfl hx44 rfl ?_
             refine gn hm [36, 35, 29, 23, 20, 10, 0, 1, 2, 3, 4] [] ?_
             refine ha1 21 ?_
             refine hi (fun γ0 δ hm => ?_)
             refine JG_storeq (α := Int) (d := a0_0) (vs := [.int .i64 x37]) (j := (w64 (x1 + s21.1))) (x' := x37) (by kernel_rfl) 0 (by kernel_rfl) hx44 (Rc := []) (Rr := []) rfl (by kernel_rfl) (fun w c F Fs ho _ _ => own_flat_set (by kernel_rfl) ho) hm47 (sl' := [(36, .q a0_0 (Int.toNat (w64 (x1 + s21.1)) * 1)), (35, vi x40), (29, vi x37), (23, vi (w64 (x2 + s21.1))), (20, .v (.slice a0_0 s21.2.length c0_0)), (10, vi s21.1), (0, .v (.slice a0_0 s21.2.length c0_0)), (1, vi x1), (2, vi x2), (3, vi x3), (4, .v (.func (.func 35) #[] #[.pointer (some ⟨g4_0, 0, none⟩), .pointer (some ⟨g4_1, 0, none⟩), .pointer (some ⟨g4_2, 0, none⟩)]))]) (by kernel_rfl) ?_
             refine KG_eqE (sl' := [(36, .q a0_0 (Int.toNat (w64 (x1 + s21.1)) * 1)), (35, vi x40), (29, vi x37), (23, vi (w64 (x2 + s21.1))), (20, .v (.slice a0_0 l46.length c0_0)), (10, vi s21.1), (0, .v (.slice a0_0 l46.length c0_0)), (1, vi x1), (2, vi x2), (3, vi x3), (4, .v (.func (.func 35) #[] #[.pointer (some ⟨g4_0, 0, none⟩), .pointer (some ⟨g4_1, 0, none⟩), .pointer (some ⟨g4_2, 0, none⟩)]))]) (bx' := []) (by simp only [hl49]) rfl ?_
             refine gn hm [35, 23, 20, 10, 0, 1, 2, 3, 4] [] ?_
             refine ha1 22 ?_
             refine hi (fun γ0 δ hm => ?_)
             refine JG_index (by kernel_rfl) (d := a0_0) (m := l46.length) (j := (w64 (x2 + s21.1))) (s := 1) (by kernel_rfl) (fun w hs => (hs.view 0 rfl)) rfl hx51 rfl ?_
             refine gn hm [37, 35, 10, 0, 1, 2, 3, 4] [] ?_
             refine ha1 23 ?_
             refine hi (fun γ0 δ hm => ?_)
             refine JG_storeq (α := Int) (d := a0_0) (vs := [.int .i64 x40]) (j := (w64 (x2 + s21.1))) (x' := x40) (by kernel_rfl) 0 (by kernel_rfl) hx51 (Rc := []) (Rr := []) rfl (by kernel_rfl) (fun w c F Fs ho _ _ => own_flat_set (by kernel_rfl) ho) hm54 (sl' := [(37, .q a0_0 (Int.toNat (w64 (x2 + s21.1)) * 1)), (35, vi x40), (10, vi s21.1), (0, .v (.slice a0_0 l46.length c0_0)), (1, vi x1), (2, vi x2), (3, vi x3), (4, .v (.func (.func 35) #[] #[.pointer (some ⟨g4_0, 0, none⟩), .pointer (some ⟨g4_1, 0, none⟩), .pointer (some ⟨g4_2, 0, none⟩)]))]) (by kernel_rfl) ?_
             refine KG_eqE (sl' := [(37, .q a0_0 (Int.toNat (w64 (x2 + s21.1)) * 1)), (35, vi x40), (10, vi s21.1), (0, .v (.slice a0_0 l53.length c0_0)), (1, vi x1), (2, vi x2), (3, vi x3), (4, .v (.func (.func 35) #[] #[.pointer (some ⟨g4_0, 0, none⟩), .pointer (some ⟨g4_1, 0, none⟩), .pointer (some ⟨g4_2, 0, none⟩)]))]) (bx' := []) (by simp only [hl56]) rfl ?_
             refine gn hm [10, 0, 1, 2, 3, 4] [] ?_
             exact hd () [10, 0, 1, 2, 3, 4] [0] 0
           · refine hi (fun γ0 δ hm => ?_)
             refine JG_loadq (by kernel_rfl) (t := 3) (d := a0_0) (Int.toNat (w64 (x1 + s21.1)) * 1) 0 (by kernel_rfl) (cs := [.int .i64 x40]) (v := .int .i64 x40) (fun w hs => (hs.view 0 rfl).flatq hx41) (by kernel_rfl) rfl ?_
             refine gn hm [35, 28, 23, 20, 19, 16, 10, 0, 1, 2, 3, 4] [] ?_
             refine ha1 13 ?_
             refine hi (fun γ0 δ hm => ?_)
             refine JG_loadq (by kernel_rfl) (t := 3) (d := a0_0) (Int.toNat (w64 (x2 + s21.1)) * 1) 0 (by kernel_rfl) (cs := [.int .i64 x37]) (v := .int .i64 x37) (fun w hs => (hs.view 0 rfl).flatq hx38) (by kernel_rfl) rfl ?_
             refine gn hm [29, 35, 23, 20, 19, 16, 10, 0, 1, 2, 3, 4] [] ?_
             refine ha1 20 ?_
             refine hi (fun γ0 δ hm => ?_)
             refine JG_index (by kernel_rfl) (d := a0_0) (m := s21.2.length) (j := (w64 (x1 + s21.1))) (s := 1) (by kernel_rfl) (fun w hs => (hs.view 0 rfl)) rfl hx44 rfl ?_
             refine gn hm [36, 29, 35, 23, 20, 10, 0, 1, 2, 3, 4] [] ?_
             refine ha1 21 ?_
             refine hi (fun γ0 δ hm => ?_)
             refine JG_storeq (α := Int) (d := a0_0) (vs := [.int .i64 x37]) (j := (w64 (x1 + s21.1))) (x' := x37) (by kernel_rfl) 0 (by kernel_rfl) hx44 (Rc := []) (Rr := []) rfl (by kernel_rfl) (fun w c F Fs ho _ _ => own_flat_set (by kernel_rfl) ho) hm47 (sl' := [(36, .q a0_0 (Int.toNat (w64 (x1 + s21.1)) * 1)), (29, vi x37), (35, vi x40), (23, vi (w64 (x2 + s21.1))), (20, .v (.slice a0_0 s21.2.length c0_0)), (10, vi s21.1), (0, .v (.slice a0_0 s21.2.length c0_0)), (1, vi x1), (2, vi x2), (3, vi x3), (4, .v (.func (.func 35) #[] #[.pointer (some ⟨g4_0, 0, none⟩), .pointer (some ⟨g4_1, 0, none⟩), .pointer (some ⟨g4_2, 0, none⟩)]))]) (by kernel_rfl) ?_
             refine KG_eqE (sl' := [(36, .q a0_0 (Int.toNat (w64 (x1 + s21.1)) * 1)), (29, vi x37), (35, vi x40), (23, vi (w64 (x2 + s21.1))), (20, .v (.slice a0_0 l46.length c0_0)), (10, vi s21.1), (0, .v (.slice a0_0 l46.length c0_0)), (1, vi x1), (2, vi x2), (3, vi x3), (4, .v (.func (.func 35) #[] #[.pointer (some ⟨g4_0, 0, none⟩), .pointer (some ⟨g4_1, 0, none⟩), .pointer (some ⟨g4_2, 0, none⟩)]))]) (bx' := []) (by simp only [hl49]) rfl ?_
             refine gn hm [35, 23, 20, 10, 0, 1, 2, 3, 4] [] ?_
             refine ha1 22 ?_
             refine hi (fun γ0 δ hm => ?_)
             refine JG_index (by kernel_rfl) (d := a0_0) (m := l46.length) (j := (w64 (x2 + s21.1))) (s := 1) (by kernel_rfl) (fun w hs => (hs.view 0 rfl)) rfl hx51 rfl ?_
             refine gn hm [37, 35, 10, 0, 1, 2, 3, 4] [] ?_
             refine ha1 23 ?_
             refine hi (fun γ0 δ hm => ?_)
             refine JG_storeq (α := Int) (d := a0_0) (vs := [.int .i64 x40]) (j := (w64 (x2 + s21.1))) (x' := x40) (by kernel_rfl) 0 (by kernel_rfl) hx51 (Rc := []) (Rr := []) rfl (by kernel_rfl) (fun w c F Fs ho _ _ => own_flat_set (by kernel_rfl) ho) hm54 (sl' := [(37, .q a0_0 (Int.toNat (w64 (x2 + s21.1)) * 1)), (35, vi x40), (10, vi s21.1), (0, .v (.slice a0_0 l46.length c0_0)), (1, vi x1), (2, vi x2), (3, vi x3), (4, .v (.func (.func 35) #[] #[.pointer (some ⟨g4_0, 0, none⟩), .pointer (some ⟨g4_1, 0, none⟩), .pointer (some ⟨g4_2, 0, none⟩)]))]) (by kernel_rfl) ?_
             refine KG_eqE (sl' := [(37, .q a0_0 (Int.toNat (w64 (x2 + s21.1)) * 1)), (35, vi x40), (10, vi s21.1), (0, .v (.slice a0_0 l53.length c0_0)), (1, vi x1), (2, vi x2), (3, vi x3), (4, .v (.func (.func 35) #[] #[.pointer (some ⟨g4_0, 0, none⟩), .pointer (some ⟨g4_1, 0, none⟩), .pointer (some ⟨g4_2, 0, none⟩)]))]) (bx' := []) (by simp only [hl56]) rfl ?_
             refine gn hm [10, 0, 1, 2, 3, 4] [] ?_
             exact hd () [10, 0, 1, 2, 3, 4] [0] 0
       · refine hi (fun γ0 δ hm => ?_)
         refine JG_index (by kernel_rfl) (d := a0_0) (m := s21.2.length) (j := (w64 (x1 + s21.1))) (s := 1) (by kernel_rfl) (fun w hs => (hs.view 0 rfl)) rfl hx41 rfl ?_
         refine gn hm [34, 27, 24, 23, 20, 19, 16, 10, 0, 1, 2, 3, 4] [] ?_
         refine ha2 12 19 ?_ ?_
         · refine hi (fun γ0 δ hm => ?_)
           refine JG_index (by kernel_rfl) (d := a0_0) (m := s21.2.length) (j := (w64 (x2 + s21.1))) (s := 1) (by kernel_rfl) (fun w hs => (hs.view 0 rfl)) rfl hx38 rfl ?_
           refine gn hm [28, 34, 23, 20, 19, 16, 10, 0, 1, 2, 3, 4] [] ?_
           refine ha2 13 19 ?_ ?_
           · refine hi (fun γ0 δ hm => ?_)
             refine JG_loadq (by kernel_rfl) (t := 3) (d := a0_0) (Int.toNat (w64 (x2 + s21.1)) * 1) 0 (by kernel_rfl) (cs := [.int .i64 x37]) (v := .int .i64 x37) (fun w hs => (hs.view 0 rfl).flatq hx38) (by kernel_rfl) rfl ?_
             refine gn hm [29, 34, 23, 20, 19, 16, 10, 0, 1, 2, 3, 4] [] ?_
             refine ha1 19 ?_
             refine hi (fun γ0 δ hm => ?_)
             refine JG_loadq (by kernel_rfl) (t := 3) (d := a0_0) (Int.toNat (w64 (x1 + s21.1)) * 1) 0 (by kernel_rfl) (cs := [.int .i64 x40]) (v := .int .i64 x40) (fun w hs => (hs.view 0 rfl).flatq hx41) (by kernel_rfl) rfl ?_
             refine gn hm [35, 29, 23, 20, 19, 16, 10, 0, 1, 2, 3, 4] [] ?_
             refine ha1 20 ?_
             refine hi (fun γ0 δ hm => ?_)
             refine JG_index (by kernel_rfl) (d := a0_0) (m := s21.2.length) (j := (w64 (x1 + s21.1))) (s := 1) (by kernel_rfl) (fun w hs => (hs.view 0 rfl)) rfl hx44 rfl ?_
             refine gn hm [36, 35, 29, 23, 20, 10, 0, 1, 2, 3, 4] [] ?_
             refine ha1 21 ?_
             refine hi (fun γ0 δ hm => ?_)
             refine JG_storeq (α := Int) (d := a0_0) (vs := [.int .i64 x37]) (j := (w64 (x1 + s21.1))) (x' := x37) (by kernel_rfl) 0 (by kernel_rfl) hx44 (Rc := []) (Rr := []) rfl (by kernel_rfl) (fun w c F Fs ho _ _ => own_flat_set (by kernel_rfl) ho) hm47 (sl' := [(36, .q a0_0 (Int.toNat (w64 (x1 + s21.1)) * 1)), (35, vi x40), (29, vi x37), (23, vi (w64 (x2 + s21.1))), (20, .v (.slice a0_0 s21.2.length c0_0)), (10, vi s21.1), (0, .v (.slice a0_0 s21.2.length c0_0)), (1, vi x1), (2, vi x2), (3, vi x3), (4, .v (.func (.func 35) #[] #[.pointer (some ⟨g4_0, 0, none⟩), .pointer (some ⟨g4_1, 0, none⟩), .pointer (some ⟨g4_2, 0, none⟩)]))]) (by kernel_rfl) ?_
             refine KG_eqE (sl' := [(36, .q a0_0 (Int.toNat (w64 (x1 + s21.1)) * 1)), (35, vi x40), (29, vi x37), (23, vi (w64 (x2 + s21.1))), (20, .v (.slice a0_0 l46.length c0_0)), (10, vi s21.1), (0, .v (.slice a0_0 l46.length c0_0)), (1, vi x1), (2, vi x2), (3, vi x3), (4, .v (.func (.func 35) #[] #[.pointer (some ⟨g4_0, 0, none⟩), .pointer (some ⟨g4_1, 0, none⟩), .pointer (some ⟨g4_2, 0, none⟩)]))]) (bx' := []) (by simp only [hl49]) rfl ?_
             refine gn hm [35, 23, 20, 10, 0, 1, 2, 3, 4] [] ?_
             refine ha1 22 ?_
             refine hi (fun γ0 δ hm => ?_)
             refine JG_index (by kernel_rfl) (d := a0_0) (m := l46.length) (j := (w64 (x2 + s21.1))) (s := 1) (by kernel_rfl) (fun w hs => (hs.view 0 rfl)) rfl hx51 rfl ?_
             refine gn hm [37, 35, 10, 0, 1, 2, 3, 4] [] ?_
             refine ha1 23 ?_
             refine hi (fun γ0 δ hm => ?_)
             refine JG_storeq (α := Int) (d := a0_0) (vs := [.int .i64 x40]) (j := (w64 (x2 + s21.1))) (x' := x40) (by kernel_rfl) 0 (by kernel_rfl) hx51 (Rc := []) (Rr := []) rfl (by kernel_rfl) (fun w c F Fs ho _ _ => own_flat_set (by kernel_rfl) ho) hm54 (sl' := [(37, .q a0_0 (Int.toNat (w64 (x2 + s21.1)) * 1)), (35, vi x40), (10, vi s21.1), (0, .v (.slice a0_0 l46.length c0_0)), (1, vi x1), (2, vi x2), (3, vi x3), (4, .v (.func (.func 35) #[] #[.pointer (some ⟨g4_0, 0, none⟩), .pointer (some ⟨g4_1, 0, none⟩), .pointer (some ⟨g4_2, 0, none⟩)]))]) (by kernel_rfl) ?_
             refine KG_eqE (sl' := [(37, .q a0_0 (Int.toNat (w64 (x2 + s21.1)) * 1)), (35, vi x40), (10, vi s21.1), (0, .v (.slice a0_0 l53.length c0_0)), (1, vi x1), (2, vi x2), (3, vi x3), (4, .v (.func (.func 35) #[] #[.pointer (some ⟨g4_0, 0, none⟩), .pointer (some ⟨g4_1, 0, none⟩), .pointer (some ⟨g4_2, 0, none⟩)]))]) (bx' := []) (by simp only [hl56]) rfl ?_
             refine gn hm [10, 0, 1, 2, 3, 4] [] ?_
             exact hd () [10, 0, 1, 2, 3, 4] [0] 0
           · refine hi (fun γ0 δ hm => ?_)
             refine JG_loadq (by kernel_rfl) (t := 3) (d := a0_0) (Int.toNat (w64 (x1 + s21.1)) * 1) 0 (by kernel_rfl) (cs := [.int .i64 x40]) (v := .int .i64 x40) (fun w hs => (hs.view 0 rfl).flatq hx41) (by kernel_rfl) rfl ?_
             refine gn hm [35, 28, 23, 20, 19, 16, 10, 0, 1, 2, 3, 4] [] ?_
             refine ha1 13 ?_
             refine hi (fun γ0 δ hm => ?_)
             refine JG_loadq (by kernel_rfl) (t := 3) (d := a0_0) (Int.toNat (w64 (x2 + s21.1)) * 1) 0 (by kernel_rfl) (cs := [.int .i64 x37]) (v := .int .i64 x37) (fun w hs => (hs.view 0 rfl).flatq hx38) (by kernel_rfl) rfl ?_
             refine gn hm [29, 35, 23, 20, 19, 16, 10, 0, 1, 2, 3, 4] [] ?_
             refine ha1 20 ?_
             refine hi (fun γ0 δ hm => ?_)
             refine JG_index (by kernel_rfl) (d := a0_0) (m := s21.2.length) (j := (w64 (x1 + s21.1))) (s := 1) (by kernel_rfl) (fun w hs => (hs.view 0 rfl)) rfl hx44 rfl ?_
             refine gn hm [36, 29, 35, 23, 20, 10, 0, 1, 2, 3, 4] [] ?_
             refine ha1 21 ?_
             refine hi (fun γ0 δ hm => ?_)
             refine JG_storeq (α := Int) (d := a0_0) (vs := [.int .i64 x37]) (j := (w64 (x1 + s21.1))) (x' := x37) (by kernel_rfl) 0 (by kernel_rfl) hx44 (Rc := []) (Rr := []) rfl (by kernel_rfl) (fun w c F Fs ho _ _ => own_flat_set (by kernel_rfl) ho) hm47 (sl' := [(36, .q a0_0 (Int.toNat (w64 (x1 + s21.1)) * 1)), (29, vi x37), (35, vi x40), (23, vi (w64 (x2 + s21.1))), (20, .v (.slice a0_0 s21.2.length c0_0)), (10, vi s21.1), (0, .v (.slice a0_0 s21.2.length c0_0)), (1, vi x1), (2, vi x2), (3, vi x3), (4, .v (.func (.func 35) #[] #[.pointer (some ⟨g4_0, 0, none⟩), .pointer (some ⟨g4_1, 0, none⟩), .pointer (some ⟨g4_2, 0, none⟩)]))]) (by kernel_rfl) ?_
             refine KG_eqE (sl' := [(36, .q a0_0 (Int.toNat (w64 (x1 + s21.1)) * 1)), (29, vi x37), (35, vi x40), (23, vi (w64 (x2 + s21.1))), (20, .v (.slice a0_0 l46.length c0_0)), (10, vi s21.1), (0, .v (.slice a0_0 l46.length c0_0)), (1, vi x1), (2, vi x2), (3, vi x3), (4, .v (.func (.func 35) #[] #[.pointer (some ⟨g4_0, 0, none⟩), .pointer (some ⟨g4_1, 0, none⟩), .pointer (some ⟨g4_2, 0, none⟩)]))]) (bx' := []) (by simp only [hl49]) rfl ?_
             refine gn hm [35, 23, 20, 10, 0, 1, 2, 3, 4] [] ?_
             refine ha1 22 ?_
             refine hi (fun γ0 δ hm => ?_)
             refine JG_index (by kernel_rfl) (d := a0_0) (m := l46.length) (j := (w64 (x2 + s21.1))) (s := 1) (by kernel_rfl) (fun w hs => (hs.view 0 rfl)) rfl hx51 rfl ?_
             refine gn hm [37, 35, 10, 0, 1, 2, 3, 4] [] ?_
             refine ha1 23 ?_
             refine hi (fun γ0 δ hm => ?_)
             refine JG_storeq (α := Int) (d := a0_0) (vs := [.int .i64 x40]) (j := (w64 (x2 + s21.1))) (x' := x40) (by kernel_rfl) 0 (by kernel_rfl) hx51 (Rc := []) (Rr := []) rfl (by kernel_rfl) (fun w c F Fs ho _ _ => own_flat_set (by kernel_rfl) ho) hm54 (sl' := [(37, .q a0_0 (Int.toNat (w64 (x2 + s21.1)) * 1)), (35, vi x40), (10, vi s21.1), (0, .v (.slice a0_0 l46.length c0_0)), (1, vi x1), (2, vi x2), (3, vi x3), (4, .v (.func (.func 35) #[] #[.pointer (some ⟨g4_0, 0, none⟩), .pointer (some ⟨g4_1, 0, none⟩), .pointer (some ⟨g4_2, 0, none⟩)]))]) (by kernel_rfl) ?_
             refine KG_eqE (sl' := [(37, .q a0_0 (Int.toNat (w64 (x2 + s21.1)) * 1)), (35, vi x40), (10, vi s21.1), (0, .v (.slice a0_0 l53.length c0_0)), (1, vi x1), (2, vi x2), (3, vi x3), (4, .v (.func (.func 35) #[] #[.pointer (some ⟨g4_0, 0, none⟩), .pointer (some ⟨g4_1, 0, none⟩), .pointer (some ⟨g4_2, 0, none⟩)]))]) (bx' := []) (by simp only [hl56]) rfl ?_
             refine gn hm [10, 0, 1, 2, 3, 4] [] ?_
             exact hd () [10, 0, 1, 2, 3, 4] [0] 0
         · refine hi (fun γ0 δ hm => ?_)
           refine JG_loadq (by kernel_rfl) (t := 3) (d := a0_0) (Int.toNat (w64 (x1 + s21.1)) * 1) 0 (by kernel_rfl) (cs := [.int .i64 x40]) (v := .int .i64 x40) (fun w hs => (hs.view 0 rfl).flatq hx41) (by kernel_rfl) rfl ?_
           refine gn hm [35, 27, 24, 23, 20, 19, 16, 10, 0, 1, 2, 3, 4] [] ?_
           refine ha1 12 ?_
           refine hi (fun γ0 δ hm => ?_)
           refine JG_index (by kernel_rfl) (d := a0_0) (m := s21.2.length) (j := (w64 (x2 + s21.1))) (s := 1) (by kernel_rfl) (fun w hs => (hs.view 0 rfl)) rfl hx38 rfl ?_
           refine gn hm [28, 35, 23, 20, 19, 16, 10, 0, 1, 2, 3, 4] [] ?_
           refine ha1 13 ?_
           refine hi (fun γ0 δ hm => ?_)
           refine JG_loadq (by kernel_rfl) (t := 3) (d := a0_0) (Int.toNat (w64 (x2 + s21.1)) * 1) 0 (by kernel_rfl) (cs := [.int .i64 x37]) (v := .int .i64 x37) (fun w hs => (hs.view 0 rfl).flatq hx38) (by kernel_rfl) rfl ?_
           refine gn hm [29, 35, 23, 20, 19, 16, 10, 0, 1, 2, 3, 4] [] ?_
           refine ha1 20 ?_
           refine hi (fun γ0 δ hm => ?_)
           refine JG_index (by kernel_rfl) (d := a0_0) (m := s21.2.length) (j := (w64 (x1 + s21.1))) (s := 1) (by kernel_rfl) (fun w hs => (hs.view 0 rfl)) rfl hx44 rfl ?_
           refine gn hm [36, 29, 35, 23, 20, 10, 0, 1, 2, 3, 4] [] ?_
           refine ha1 21 ?_
           refine hi (fun γ0 δ hm => ?_)
           refine JG_storeq (α := Int) (d := a0_0) (vs := [.int .i64 x37]) (j := (w64 (x1 + s21.1))) (x' := x37) (by kernel_rfl) 0 (by kernel_rfl) hx44 (Rc := []) (Rr := []) rfl (by kernel_rfl) (fun w c F Fs ho _ _ => own_flat_set (by kernel_rfl) ho) hm47 (sl' := [(36, .q a0_0 (Int.toNat (w64 (x1 + s21.1)) * 1)), (29, vi x37), (35, vi x40), (23, vi (w64 (x2 + s21.1))), (20, .v (.slice a0_0 s21.2.length c0_0)), (10, vi s21.1), (0, .v (.slice a0_0 s21.2.length c0_0)), (1, vi x1), (2, vi x2), (3, vi x3), (4, .v (.func (.func 35) #[] #[.pointer (some ⟨g4_0, 0, none⟩), .pointer (some ⟨g4_1, 0, none⟩), .pointer (some ⟨g4_2, 0, none⟩)]))]) (by kernel_rfl) ?_
           refine KG_eqE (sl' := [(36, .q a0_0 (Int.toNat (w64 (x1 + s21.1)) * 1)), (29, vi x37), (35, vi x40), (23, vi (w64 (x2 + s21.1))), (20, .v (.slice a0_0 l46.length c0_0)), (10, vi s21.1), (0, .v (.slice a0_0 l46.length c0_0)), (1, vi x1), (2, vi x2), (3, vi x3), (4, .v (.func (.func 35) #[] #[.pointer (some ⟨g4_0, 0, none⟩), .pointer (some ⟨g4_1, 0, none⟩), .pointer (some ⟨g4_2, 0, none⟩)]))]) (bx' := []) (by simp only [hl49]) rfl ?_
           refine gn hm [35, 23, 20, 10, 0, 1, 2, 3, 4] [] ?_
           refine ha1 22 ?_
           refine hi (fun γ0 δ hm => ?_)
           refine JG_index (by kernel_rfl) (d := a0_0) (m := l46.length) (j := (w64 (x2 + s21.1))) (s := 1) (by kernel_rfl) (fun w hs => (hs.view 0 rfl)) rfl hx51 rfl ?_
           refine gn hm [37, 35, 10, 0, 1, 2, 3, 4] [] ?_
           refine ha1 23 ?_
           refine hi (fun γ0 δ hm => ?_)
           refine JG_storeq (α := Int) (d := a0_0) (vs := [.int .i64 x40]) (j := (w64 (x2 + s21.1))) (x' := x40) (by kernel_rfl) 0 (by kernel_rfl) hx51 (Rc := []) (Rr := []) rfl (by kernel_rfl) (fun w c F Fs ho _ _ => own_flat_set (by kernel_rfl) ho) hm54 (sl' := [(37, .q a0_0 (Int.toNat (w64 (x2 + s21.1)) * 1)), (35, vi x40), (10, vi s21.1), (0, .v (.slice a0_0 l46.length c0_0)), (1, vi x1), (2, vi x2), (3, vi x3), (4, .v (.func (.func 35) #[] #[.pointer (some ⟨g4_0, 0, none⟩), .pointer (some ⟨g4_1, 0, none⟩), .pointer (some ⟨g4_2, 0, none⟩)]))]) (by kernel_rfl) ?_
           refine KG_eqE (sl' := [(37, .q a0_0 (Int.toNat (w64 (x2 + s21.1)) * 1)), (35, vi x40), (10, vi s21.1), (0, .v (.slice a0_0 l53.length c0_0)), (1, vi x1), (2, vi x2), (3, vi x3), (4, .v (.func (.func 35) #[] #[.pointer (some ⟨g4_0, 0, none⟩), .pointer (some ⟨g4_1, 0, none⟩), .pointer (some ⟨g4_2, 0, none⟩)]))]) (bx' := []) (by simp only [hl56]) rfl ?_
           refine gn hm [10, 0, 1, 2, 3, 4] [] ?_
           exact hd () [10, 0, 1, 2, 3, 4] [0] 0
     refine bn (nt (qr (oN 3 [(10, vi (w64 (s21.1 + 1)))] [0, 1, 2, 3, 4] ?_)))
     exact oe (ct h55 () [10, 0, 1, 2, 3, 4] [0] 0)
   refine qx (nx (nx (bh ?_)))
   have h58 := leafB hd30 h36 h26
   exact mp (s21.2, ()) h58 [0, 4] [0] 0
 have h33 := (congrFun hk28 _).symm.trans h33p
 refine JE_fall (vs := []) (by kernel_rfl) (fun γ w hs => ?_)
 rw [← sI h33]
 exact hs.turned (is := [0]) rfl

theorem c_slices_rotateCmpFunc_int__impl_Allocate_1 {W : World} {x0 : List Int} {a0_0 : Option Addr} {c0_0 : Nat} {e0_0 : TypeId} {x1 : Int} {x2 : Int} {x3 : Int} {g4_0 : Nat} {z4_0 : Int} {g4_1 : Nat} {z4_1 : List Int} {g4_2 : Nat} {z4_2 : Int} {r : (List Int)} (h : slices_rotateCmpFunc_int__impl_Allocate_1 x0 x1 x2 x3 z4_0 z4_1 z4_2 = some r)  :
    GivesMQ Try.prog (fun w => ∀ (q0 : Int) (q1 : Int) (r : Int), impl_Allocate_1 q0 q1 z4_0 z4_1 z4_2 = some r → Gives0 Try.prog 35 #[.int .i64 q0, .int .i64 q1, .pointer (some ⟨g4_0, 0, none⟩), .pointer (some ⟨g4_1, 0, none⟩), .pointer (some ⟨g4_2, 0, none⟩)] w (.int .i64 r)) 45 #[.slice a0_0 x0.length c0_0, .int .i64 x1, .int .i64 x2, .int .i64 x3, .func (.func 35) #[] #[.pointer (some ⟨g4_0, 0, none⟩), .pointer (some ⟨g4_1, 0, none⟩), .pointer (some ⟨g4_2, 0, none⟩)]] W [SlRes e0_0 x0 a0_0 c0_0] [SlRes e0_0 r a0_0 c0_0] (.tuple #[]) := by
 unfold slices_rotateCmpFunc_int__impl_Allocate_1 at h
 refine enterMQ [.v (.slice a0_0 x0.length c0_0), vi x1, vi x2, vi x3, .v (.func (.func 35) #[] #[.pointer (some ⟨g4_0, 0, none⟩), .pointer (some ⟨g4_1, 0, none⟩), .pointer (some ⟨g4_2, 0, none⟩)])] (args := [.slice a0_0 x0.length c0_0, .int .i64 x1, .int .i64 x2, .int .i64 x3, .func (.func 35) #[] #[.pointer (some ⟨g4_0, 0, none⟩), .pointer (some ⟨g4_1, 0, none⟩), .pointer (some ⟨g4_2, 0, none⟩)]]) (by kernel_rfl) (by kernel_rfl) Try.func45 rfl Try.ntmps45 (by kernel_rfl) (fun Fs hq => ?_)
 refine qs (qr (oN 4 [(10, vi (w64 (x2 - x1)))] [0, 2, 3, 4] ?_))
 refine oe (nt (qs (qr (oN 4 [(11, vi (w64 (x3 - x2)))] [10, 0, 2, 4] ?_))))
 refine oe (nt (qs ?_))
 obtain ⟨r24, hL25, h26⟩ := bS h
 obtain ⟨k27, hk28, h26⟩ := brkS h26
 refine JC_cutP (τ := (Int × (List Int) × Int) × (Unit)) (fun y => k27 y.1 = some r) (fun y32 => [(10, vi y32.1.1), (0, .v (.slice a0_0 y32.1.2.1.length c0_0)), (2, vi y32.1.2.2), (4, .v (.func (.func 35) #[] #[.pointer (some ⟨g4_0, 0, none⟩), .pointer (some ⟨g4_1, 0, none⟩), .pointer (some ⟨g4_2, 0, none⟩)]))]) (fun y32 => []) (fun y32 => [SlRes e0_0 y32.1.2.1 a0_0 c0_0]) ?_ (fun y32 h33p => ?_)
 · refine qb (lp Unit hL25 (fun s21 y22 => [(11, vi s21.1), (10, vi s21.2.1), (0, .v (.slice a0_0 s21.2.2.length c0_0)), (2, vi x2), (4, .v (.func (.func 35) #[] #[.pointer (some ⟨g4_0, 0, none⟩), .pointer (some ⟨g4_1, 0, none⟩), .pointer (some ⟨g4_2, 0, none⟩)]))]) (fun s21 y22 => []) (fun s21 y22 => [SlRes e0_0 s21.2.2 a0_0 c0_0]) () [11, 10, 0, 2, 4] [0] 0 (fun s21 y22 t23 h29 hd30 => ?_))
   refine qs (qs (qr (oN 3 [(20, vb (s21.2.1 != s21.1))] [11, 10, 0, 2, 4] ?_)))
   refine oe (nt (cC h29 (fun h43 => ?_) (fun h44 => ?_)))
   · refine qk (nt (qb (qs (qr (oN 3 [(23, vb (decide (s21.2.1 > s21.1)))] [11, 10, 0, 2, 4] ?_)))))
     refine oe (nt (cC h43 (fun h46 => ?_) (fun h47 => ?_)))
     · refine qs (qr (oN 7 [(30, .v (.func (.func 35) #[] #[.pointer (some ⟨g4_0, 0, none⟩), .pointer (some ⟨g4_1, 0, none⟩), .pointer (some ⟨g4_2, 0, none⟩)])), (29, vi s21.1), (28, vi x2), (27, vi (w64 (x2 - s21.2.1))), (24, .v (.slice a0_0 s21.2.2.length c0_0))] [11, 10, 0, 2, 4] ?_))
       obtain ⟨t48, h49, h50⟩ := bS h46
       obtain ⟨u52, hu53, h54⟩ := bS h50
       have hl55 := (sameLen_some hu53).symm
       refine JO_callMQ rfl (by kernel_rfl) (f := 46) (C := fun γ => (fun w => ∀ (q0 : Int) (q1 : Int) (r : Int), impl_Allocate_1 q0 q1 z4_0 z4_1 z4_2 = some r → Gives0 Try.prog 35 #[.int .i64 q0, .int .i64 q1, .pointer (some ⟨g4_0, 0, none⟩), .pointer (some ⟨g4_1, 0, none⟩), .pointer (some ⟨g4_2, 0, none⟩)] w (.int .i64 r))) (args := fun γ => #[.slice a0_0 s21.2.2.length c0_0, .int .i64 (w64 (x2 - s21.2.1)), .int .i64 x2, .int .i64 s21.1, .func (.func 35) #[] #[.pointer (some ⟨g4_0, 0, none⟩), .pointer (some ⟨g4_1, 0, none⟩), .pointer (some ⟨g4_2, 0, none⟩)]]) (fun γ => by kernel_rfl) (x := .tuple #[]) (Rin := [SlRes e0_0 s21.2.2 a0_0 c0_0]) (Rout := [SlRes e0_0 t48 a0_0 c0_0]) (Rr := []) rfl (fun γ w hs => (by have vv := c_slices_swapRangeCmpFunc_int__impl_Allocate_1 (e0_0 := e0_0) (a0_0 := a0_0) (c0_0 := c0_0) (g4_0 := g4_0) (g4_1 := g4_1) (g4_2 := g4_2) (W := w) h49; exact vv)) (fun γ w hk hb => hq w hk) (sl' := [(31, .v (.tuple #[])), (30, .v (.func (.func 35) #[] #[.pointer (some ⟨g4_0, 0, none⟩), .pointer (some ⟨g4_1, 0, none⟩), .pointer (some ⟨g4_2, 0, none⟩)])), (29, vi s21.1), (28, vi x2), (27, vi (w64 (x2 - s21.2.1))), (24, .v (.slice a0_0 s21.2.2.length c0_0)), (11, vi s21.1), (10, vi s21.2.1), (0, .v (.slice a0_0 s21.2.2.length c0_0)), (2, vi x2), (4, .v (.func (.func 35) #[] #[.pointer (some ⟨g4_0, 0, none⟩), .pointer (some ⟨g4_1, 0, none⟩), .pointer (some ⟨g4_2, 0, none⟩)]))]) (by kernel_rfl) ?_
       refine JO_eqE (sl' := [(31, .v (.tuple #[])), (30, .v (.func (.func 35) #[] #[.pointer (some ⟨g4_0, 0, none⟩), .pointer (some ⟨g4_1, 0, none⟩), .pointer (some ⟨g4_2, 0, none⟩)])), (29, vi s21.1), (28, vi x2), (27, vi (w64 (x2 - s21.2.1))), (24, .v (.slice a0_0 t48.length c0_0)), (11, vi s21.1), (10, vi s21.2.1), (0, .v (.slice a0_0 t48.length c0_0)), (2, vi x2), (4, .v (.func (.func 35) #[] #[.pointer (some ⟨g4_0, 0, none⟩), .pointer (some ⟨g4_1, 0, none⟩), .pointer (some ⟨g4_2, 0, none⟩)]))]) (bx' := []) (by simp only [hl55]) rfl ?_
       refine oe (nt (qr (oN 4 [(10, vi (w64 (s21.2.1 - s21.1)))] [11, 0, 2, 4] ?_)))
       exact oe (bn (ct h54 () [11, 10, 0, 2, 4] [0] 0))
     refine qs (qr (oN 11 [(45, .v (.func (.func 35) #[] #[.pointer (some ⟨g4_0, 0, none⟩), .pointer (some ⟨g4_1, 0, none⟩), .pointer (some ⟨g4_2, 0, none⟩)])), (44, vi s21.2.1), (43, vi (w64 ((w64 (x2 + s21.1)) - s21.2.1))), (38, vi (w64 (x2 - s21.2.1))), (35, .v (.slice a0_0 s21.2.2.length c0_0))] [11, 10, 0, 2, 4] ?_))
     obtain ⟨t56, h57, h58⟩ := bS h47
     obtain ⟨u60, hu61, h62⟩ := bS h58
     have hl63 := (sameLen_some hu61).symm
     refine JO_callMQ rfl (by kernel_rfl) (f := 46) (C := fun γ => (fun w => ∀ (q0 : Int) (q1 : Int) (r : Int), impl_Allocate_1 q0 q1 z4_0 z4_1 z4_2 = some r → Gives0 Try.prog 35 #[.int .i64 q0, .int .i64 q1, .pointer (some ⟨g4_0, 0, none⟩), .pointer (some ⟨g4_1, 0, none⟩), .pointer (some ⟨g4_2, 0, none⟩)] w (.int .i64 r))) (args := fun γ => #[.slice a0_0 s21.2.2.length c0_0, .int .i64 (w64 (x2 - s21.2.1)), .int .i64 (w64 ((w64 (x2 + s21.1)) - s21.2.1)), .int .i64 s21.2.1, .func (.func 35) #[] #[.pointer (some ⟨g4_0, 0, none⟩), .pointer (some ⟨g4_1, 0, none⟩), .pointer (some ⟨g4_2, 0, none⟩)]]) (fun γ => by kernel_rfl) (x := .tuple #[]) (Rin := [SlRes e0_0 s21.2.2 a0_0 c0_0]) (Rout := [SlRes e0_0 t56 a0_0 c0_0]) (Rr := []) rfl (fun γ w hs => (by have vv := c_slices_swapRangeCmpFunc_int__impl_Allocate_1 (e0_0 := e0_0) (a0_0 := a0_0) (c0_0 := c0_0) (g4_0 := g4_0) (g4_1 := g4_1) (g4_2 := g4_2) (W := w) h57; exact vv)) (fun γ w hk hb => hq w hk) (sl' := [(46, .v (.tuple #[])), (45, .v (.func (.func 35) #[] #[.pointer (some ⟨g4_0, 0, none⟩), .pointer (some ⟨g4_1, 0, none⟩), .pointer (some ⟨g4_2, 0, none⟩)])), (44, vi s21.2.1), (43, vi (w64 ((w64 (x2 + s21.1)) - s21.2.1))), (38, vi (w64 (x2 - s21.2.1))), (35, .v (.slice a0_0 s21.2.2.length c0_0)), (11, vi s21.1), (10, vi s21.2.1), (0, .v (.slice a0_0 s21.2.2.length c0_0)), (2, vi x2), (4, .v (.func (.func 35) #[] #[.pointer (some ⟨g4_0, 0, none⟩), .pointer (some ⟨g4_1, 0, none⟩), .pointer (some ⟨g4_2, 0, none⟩)]))]) (by kernel_rfl) ?_
     refine JO_eqE (sl' := [(46, .v (.tuple #[])), (45, .v (.func (.func 35) #[] #[.pointer (some ⟨g4_0, 0, none⟩), .pointer (some ⟨g4_1, 0, none⟩), .pointer (some ⟨g4_2, 0, none⟩)])), (44, vi s21.2.1), (43, vi (w64 ((w64 (x2 + s21.1)) - s21.2.1))), (38, vi (w64 (x2 - s21.2.1))), (35, .v (.slice a0_0 t56.length c0_0)), (11, vi s21.1), (10, vi s21.2.1), (0, .v (.slice a0_0 t56.length c0_0)), (2, vi x2), (4, .v (.func (.func 35) #[] #[.pointer (some ⟨g4_0, 0, none⟩), .pointer (some ⟨g4_1, 0, none⟩), .pointer (some ⟨g4_2, 0, none⟩)]))]) (bx' := []) (by simp only [hl63]) rfl ?_
     refine oe (nt (qr (oN 4 [(11, vi (w64 (s21.1 - s21.2.1)))] [10, 0, 2, 4] ?_)))
     exact oe (bn (ct h62 () [11, 10, 0, 2, 4] [0] 0))
   refine qx (nx (nx (bh ?_)))
   have h64 := leafB hd30 h44 h26
   exact mp ((s21.2.1, s21.2.2, x2), ()) h64 [10, 0, 2, 4] [0] 0
 have h33 := (congrFun hk28 _).symm.trans h33p
 refine nt (qr (oN 7 [(56, .v (.func (.func 35) #[] #[.pointer (some ⟨g4_0, 0, none⟩), .pointer (some ⟨g4_1, 0, none⟩), .pointer (some ⟨g4_2, 0, none⟩)])), (55, vi y32.1.1), (54, vi y32.1.2.2), (53, vi (w64 (y32.1.2.2 - y32.1.1))), (50, .v (.slice a0_0 y32.1.2.1.length c0_0))] [0, 4] ?_))
 obtain ⟨t34, h35, h36⟩ := bS h33
 obtain ⟨u38, hu39, h40⟩ := bS h36
 have hl41 := (sameLen_some hu39).symm
 refine JO_callMQ rfl (by kernel_rfl) (f := 46) (C := fun γ => (fun w => ∀ (q0 : Int) (q1 : Int) (r : Int), impl_Allocate_1 q0 q1 z4_0 z4_1 z4_2 = some r → Gives0 Try.prog 35 #[.int .i64 q0, .int .i64 q1, .pointer (some ⟨g4_0, 0, none⟩), .pointer (some ⟨g4_1, 0, none⟩), .pointer (some ⟨g4_2, 0, none⟩)] w (.int .i64 r))) (args := fun γ => #[.slice a0_0 y32.1.2.1.length c0_0, .int .i64 (w64 (y32.1.2.2 - y32.1.1)), .int .i64 y32.1.2.2, .int .i64 y32.1.1, .func (.func 35) #[] #[.pointer (some ⟨g4_0, 0, none⟩), .pointer (some ⟨g4_1, 0, none⟩), .pointer (some ⟨g4_2, 0, none⟩)]]) (fun γ => by kernel_rfl) (x := .tuple #[]) (Rin := [SlRes e0_0 y32.1.2.1 a0_0 c0_0]) (Rout := [SlRes e0_0 t34 a0_0 c0_0]) (Rr := []) rfl (fun γ w hs => (by have vv := c_slices_swapRangeCmpFunc_int__impl_Allocate_1 (e0_0 := e0_0) (a0_0 := a0_0) (c0_0 := c0_0) (g4_0 := g4_0) (g4_1 := g4_1) (g4_2 := g4_2) (W := w) h35; exact vv)) (fun γ w hk hb => hq w hk) (sl' := [(57, .v (.tuple #[])), (56, .v (.func (.func 35) #[] #[.pointer (some ⟨g4_0, 0, none⟩), .pointer (some ⟨g4_1, 0, none⟩), .pointer (some ⟨g4_2, 0, none⟩)])), (55, vi y32.1.1), (54, vi y32.1.2.2), (53, vi (w64 (y32.1.2.2 - y32.1.1))), (50, .v (.slice a0_0 y32.1.2.1.length c0_0)), (0, .v (.slice a0_0 y32.1.2.1.length c0_0)), (4, .v (.func (.func 35) #[] #[.pointer (some ⟨g4_0, 0, none⟩), .pointer (some ⟨g4_1, 0, none⟩), .pointer (some ⟨g4_2, 0, none⟩)]))]) (by kernel_rfl) ?_
 refine JO_eqE (sl' := [(57, .v (.tuple #[])), (56, .v (.func (.func 35) #[] #[.pointer (some ⟨g4_0, 0, none⟩), .pointer (some ⟨g4_1, 0, none⟩), .pointer (some ⟨g4_2, 0, none⟩)])), (55, vi y32.1.1), (54, vi y32.1.2.2), (53, vi (w64 (y32.1.2.2 - y32.1.1))), (50, .v (.slice a0_0 t34.length c0_0)), (0, .v (.slice a0_0 t34.length c0_0)), (4, .v (.func (.func 35) #[] #[.pointer (some ⟨g4_0, 0, none⟩), .pointer (some ⟨g4_1, 0, none⟩), .pointer (some ⟨g4_2, 0, none⟩)]))]) (bx' := []) (by simp only [hl41]) rfl ?_
 refine oe (JE_fall (vs := []) (by kernel_rfl) (fun γ w hs => ?_))
 rw [← sI h40]
 exact hs.turned (is := [0]) rfl

theorem c_slices_symMergeCmpFunc_int__impl_Allocate_1 (fuel : Nat) : ∀ {W : World} {x0 : List Int} {a0_0 : Option Addr} {c0_0 : Nat} {e0_0 : TypeId} {x1 : Int} {x2 : Int} {x3 : Int} {g4_0 : Nat} {z4_0 : Int} {g4_1 : Nat} {z4_1 : List Int} {g4_2 : Nat} {z4_2 : Int} {r : (List Int)} (h : slices_symMergeCmpFunc_int__impl_Allocate_1 fuel x0 x1 x2 x3 z4_0 z4_1 z4_2 = some r) ,
    GivesMQ Try.prog (fun w => ∀ (q0 : Int) (q1 : Int) (r : Int), impl_Allocate_1 q0 q1 z4_0 z4_1 z4_2 = some r → Gives0 Try.prog 35 #[.int .i64 q0, .int .i64 q1, .pointer (some ⟨g4_0, 0, none⟩), .pointer (some ⟨g4_1, 0, none⟩), .pointer (some ⟨g4_2, 0, none⟩)] w (.int .i64 r)) 44 #[.slice a0_0 x0.length c0_0, .int .i64 x1, .int .i64 x2, .int .i64 x3, .func (.func 35) #[] #[.pointer (some ⟨g4_0, 0, none⟩), .pointer (some ⟨g4_1, 0, none⟩), .pointer (some ⟨g4_2, 0, none⟩)]] W [SlRes e0_0 x0 a0_0 c0_0] [SlRes e0_0 r a0_0 c0_0] (.tuple #[]) := by
 induction fuel with
 | zero =>
  intro W x0 a0_0 c0_0 e0_0 x1 x2 x3 g4_0 z4_0 g4_1 z4_1 g4_2 z4_2 r h
  cases (show (none : Option ((List Int))) = some r from h)
 | succ fuel ih =>
  intro W x0 a0_0 c0_0 e0_0 x1 x2 x3 g4_0 z4_0 g4_1 z4_1 g4_2 z4_2 r h
  have h : slices_symMergeCmpFunc_int__impl_Allocate_1_step (slices_symMergeCmpFunc_int__impl_Allocate_1 fuel) x0 x1 x2 x3 z4_0 z4_1 z4_2 = some r := h
  unfold slices_symMergeCmpFunc_int__impl_Allocate_1_step at h
  refine enterMQ [.v (.slice a0_0 x0.length c0_0), vi x1, vi x2, vi x3, .v (.func (.func 35) #[] #[.pointer (some ⟨g4_0, 0, none⟩), .pointer (some ⟨g4_1, 0, none⟩), .pointer (some ⟨g4_2, 0, none⟩)])] (args := [.slice a0_0 x0.length c0_0, .int .i64 x1, .int .i64 x2, .int .i64 x3, .func (.func 35) #[] #[.pointer (some ⟨g4_0, 0, none⟩), .pointer (some ⟨g4_1, 0, none⟩), .pointer (some ⟨g4_2, 0, none⟩)]]) (by kernel_rfl) (by kernel_rfl) Try.func44 rfl Try.ntmps44 (by kernel_rfl) (fun Fs hq => ?_)
  refine qs (qs (qr (oN 4 [(28, vb ((w64 (x2 - x1)) == 1))] [0, 1, 2, 3, 4] ?_)))
  refine oe (nt (cC h (fun h90 => ?_) (fun h91 => ?_)))
  · refine qs (qr (oN 2 [(10, vi x2)] [0, 1, 3, 4] ?_))
    refine oe (nt (qs (qr (oN 2 [(11, vi x3)] [10, 0, 1, 4] ?_))))
    refine oe (nt (qs ?_))
    obtain ⟨r95, hL96, h97⟩ := bS h90
    obtain ⟨k98, hk99, h97⟩ := brkS h97
    refine JC_cutP (τ := (Int) × (Unit)) (fun y => k98 y.1 = some r) (fun y103 => [(10, vi y103.1), (0, .v (.slice a0_0 x0.length c0_0)), (1, vi x1), (4, .v (.func (.func 35) #[] #[.pointer (some ⟨g4_0, 0, none⟩), .pointer (some ⟨g4_1, 0, none⟩), .pointer (some ⟨g4_2, 0, none⟩)]))]) (fun y103 => []) (fun y103 => [SlRes e0_0 x0 a0_0 c0_0]) ?_ (fun y103 h104p => ?_)
    · refine qb (lp Unit hL96 (fun s92 y93 => [(11, vi s92.1), (10, vi s92.2), (0, .v (.slice a0_0 x0.length c0_0)), (1, vi x1), (4, .v (.func (.func 35) #[] #[.pointer (some ⟨g4_0, 0, none⟩), .pointer (some ⟨g4_1, 0, none⟩), .pointer (some ⟨g4_2, 0, none⟩)]))]) (fun s92 y93 => []) (fun s92 y93 => [SlRes e0_0 x0 a0_0 c0_0]) () [11, 10, 0, 1, 4] [0] 0 (fun s92 y93 t94 h100 hd101 => ?_))
      refine qs (qs (qr (oN 3 [(33, vb (decide (s92.2 < s92.1)))] [11, 10, 0, 1, 4] ?_)))
      refine oe (nt (cC h100 (fun h144 => ?_) (fun h145 => ?_)))
      · refine qk (nt (qb (qs (qr (oN 7 [(12, vi (w64 (Int.fdiv (wu64 (w64 (s92.2 + s92.1))) 2)))] [11, 10, 0, 1, 4] ?_)))))
        refine oe (nt (qs (JC_quiet (by kernel_rfl) (by kernel_rfl) ?_)))
        refine qN 3 [(42, vi (w64 (Int.fdiv (wu64 (w64 (s92.2 + s92.1))) 2))), (41, .v (.slice a0_0 x0.length c0_0)), (40, .v (.func (.func 35) #[] #[.pointer (some ⟨g4_0, 0, none⟩), .pointer (some ⟨g4_1, 0, none⟩), .pointer (some ⟨g4_2, 0, none⟩)]))] [12, 11, 10, 0, 1, 4] ?_
        obtain ⟨x146, hx147, h148⟩ := bS h144
        refine qi 1 (fun γ w hs => (hs.view 0 rfl)) hx147 ?_
        refine ql 3 0 (.int .i64 x146) (fun γ w hs => (hs.view 0 rfl).flatq hx147) ?_
        refine qN 2 [(46, vi x1), (45, .v (.slice a0_0 x0.length c0_0))] [44, 40, 12, 11, 10, 0, 1, 4] ?_
        obtain ⟨x149, hx150, h151⟩ := bS h148
        refine qi 1 (fun γ w hs => (hs.view 0 rfl)) hx150 ?_
        refine ql 3 0 (.int .i64 x149) (fun γ w hs => (hs.view 0 rfl).flatq hx150) ?_
        obtain ⟨t152, h153, h154⟩ := bS h151
        refine q0 (fun γ w hs => hq w hs.kept _ _ _ h153) ?_
        refine qN 1 [(50, vb (decide (t152 < 0)))] [12, 11, 10, 0, 1, 4] ?_
        refine qz (nt (cC h154 (fun h157 => ?_) (fun h158 => ?_)))
        · refine qr (oN 3 [(10, vi (w64 ((w64 (Int.fdiv (wu64 (w64 (s92.2 + s92.1))) 2)) + 1)))] [11, 0, 1, 4] ?_)
          exact oe (bn (ct h157 () [11, 10, 0, 1, 4] [0] 0))
        refine qr (oN 2 [(11, vi (w64 (Int.fdiv (wu64 (w64 (s92.2 + s92.1))) 2)))] [10, 0, 1, 4] ?_)
        exact oe (bn (ct h158 () [11, 10, 0, 1, 4] [0] 0))
      refine qx (nx (nx (bh ?_)))
      have h159 := leafB hd101 h145 h97
      exact mp (s92.2, ()) h159 [10, 0, 1, 4] [0] 0
    have h104 := (congrFun hk99 _).symm.trans h104p
    refine nt (qs (qs (qr (oN 2 [(13, vi x1)] [10, 0, 4] ?_))))
    refine oe (nt ?_)
    obtain ⟨r108, hL109, h110⟩ := bS h104
    obtain ⟨k111, hk112, h110⟩ := brkS h110
    refine JC_cutP (τ := ((List Int)) × (Unit)) (fun y => k111 y.1 = some r) (fun y116 => [(0, .v (.slice a0_0 y116.1.length c0_0)), (4, .v (.func (.func 35) #[] #[.pointer (some ⟨g4_0, 0, none⟩), .pointer (some ⟨g4_1, 0, none⟩), .pointer (some ⟨g4_2, 0, none⟩)]))]) (fun y116 => []) (fun y116 => [SlRes e0_0 y116.1 a0_0 c0_0]) ?_ (fun y116 h117p => ?_)
    · refine qb (lp Unit hL109 (fun s105 y106 => [(13, vi s105.1), (10, vi y103.1), (0, .v (.slice a0_0 s105.2.length c0_0)), (4, .v (.func (.func 35) #[] #[.pointer (some ⟨g4_0, 0, none⟩), .pointer (some ⟨g4_1, 0, none⟩), .pointer (some ⟨g4_2, 0, none⟩)]))]) (fun s105 y106 => []) (fun s105 y106 => [SlRes e0_0 s105.2 a0_0 c0_0]) () [13, 10, 0, 4] [0] 0 (fun s105 y106 t107 h113 hd114 => ?_))
      refine qs (qs (qr (oN 4 [(58, vb (decide (s105.1 < (w64 (y103.1 - 1)))))] [13, 10, 0, 4] ?_)))
      refine oe (nt (cC h113 (fun h119 => ?_) (fun h120 => ?_)))
      · refine qk (nt (qs (qb ?_)))
        obtain ⟨x121, hx122, h123⟩ := bS h119
        obtain ⟨x124, hx125, h126⟩ := bS h123
        obtain ⟨x127, hx128, h129⟩ := bS h126
        obtain ⟨l130, hm131, h132⟩ := bS h129
        replace hm131 := (sI hm131).symm
        have hl133 := len_set hm131
        obtain ⟨x134, hx135, h136⟩ := bS h132
        obtain ⟨l137, hm138, h139⟩ := bS h136
        replace hm138 := (sI hm138).symm
        have hl140 := len_set hm138
        refine JC_cut (τ := Unit) (fun _ => [(13, vi s105.1), (10, vi y103.1), (0, .v (.slice a0_0 l137.length c0_0)), (4, .v (.func (.func 35) #[] #[.pointer (some ⟨g4_0, 0, none⟩), .pointer (some ⟨g4_1, 0, none⟩), .pointer (some ⟨g4_2, 0, none⟩)]))]) (fun _ => []) (fun _ => [SlRes e0_0 l137 a0_0 c0_0]) ?_ (fun _ => ?_)
        · refine jw [13, 10, 0, 4] [0] ?_
          refine JC_heldN (ks := []) (Rk := []) 18 (by kernel_rfl) (by kernel_rfl) ?_
          refine htq 0 (.v (.slice a0_0 s105.2.length c0_0)) [] ?_
          refine htq 1 (vi s105.1) [] ?_
          refine htq 2 (.v (.slice a0_0 s105.2.length c0_0)) [] ?_
          refine htq 3 (vi s105.1) [] ?_
          refine htq 4 (vi (w64 (s105.1 + 1))) [] ?_
          refine hk [65, 63, 62, 61, 13, 10, 0, 4] ?_
          refine htq 5 (.v (.slice a0_0 s105.2.length c0_0)) [] ?_
          refine htq 6 (vi s105.1) [] ?_
          refine htq 7 (vi (w64 (s105.1 + 1))) [] ?_
          refine hk [68, 66, 65, 63, 62, 61, 13, 10, 0, 4] ?_
          refine htq 10 (.v (.slice a0_0 s105.2.length c0_0)) [] ?_
          refine htq 11 (vi s105.1) [] ?_
          refine ha2 8 12 ?_ ?_
          · refine hi (fun γ0 δ hm => ?_)
            refine JG_index (by kernel_rfl) (d := a0_0) (m := s105.2.length) (j := (w64 (s105.1 + 1))) (s := 1) (by kernel_rfl) (fun w hs => (hs.view 0 rfl)) rfl hx122 rfl ?_
            refine gn hm [69, 72, 71, 65, 63, 62, 61, 13, 10, 0, 4] [] ?_
            refine ha2 9 12 ?_ ?_
            · refine hi (fun γ0 δ hm => ?_)
              refine JG_loadq (by kernel_rfl) (t := 3) (d := a0_0) (Int.toNat (w64 (s105.1 + 1)) * 1) 0 (by kernel_rfl) (cs := [.int .i64 x121]) (v := .int .i64 x121) (fun w hs => (hs.view 0 rfl).flatq hx122) (by kernel_rfl) rfl ?_
              refine gn hm [70, 72, 71, 65, 63, 62, 61, 13, 10, 0, 4] [] ?_
              refine ha1 12 ?_
              refine hi (fun γ0 δ hm => ?_)
              refine JG_index (by kernel_rfl) (d := a0_0) (m := s105.2.length) (j := s105.1) (s := 1) (by kernel_rfl) (fun w hs => (hs.view 0 rfl)) rfl hx125 rfl ?_
              refine gn hm [73, 70, 65, 63, 62, 61, 13, 10, 0, 4] [] ?_
              refine ha1 13 ?_
              refine hi (fun γ0 δ hm => ?_)
              refine JG_loadq (by kernel_rfl) (t := 3) (d := a0_0) (Int.toNat s105.1 * 1) 0 (by kernel_rfl) (cs := [.int .i64 x124]) (v := .int .i64 x124) (fun w hs => (hs.view 0 rfl).flatq hx125) (by kernel_rfl) rfl ?_
              refine gn hm [74, 70, 65, 63, 62, 61, 13, 10, 0, 4] [] ?_
              refine ha1 14 ?_
              refine hi (fun γ0 δ hm => ?_)
              refine JG_index (by kernel_rfl) (d := a0_0) (m := s105.2.length) (j := s105.1) (s := 1) (by kernel_rfl) (fun w hs => (hs.view 0 rfl)) rfl hx128 rfl ?_
              refine gn hm [75, 74, 70, 65, 63, 13, 10, 0, 4] [] ?_
              refine ha1 15 ?_
              refine hi (fun γ0 δ hm => ?_)
              refine JG_storeq (α := Int) (d := a0_0) (vs := [.int .i64 x121]) (j := s105.1) (x' := x121) (by kernel_rfl) 0 (by kernel_rfl) hx128 (Rc := []) (Rr := []) rfl (by kernel_rfl) (fun w c F Fs ho _ _ => own_flat_set (by kernel_rfl) ho) hm131 (sl' := [(75, .q a0_0 (Int.toNat s105.1 * 1)), (74, vi x124), (70, vi x121), (65, vi (w64 (s105.1 + 1))), (63, .v (.slice a0_0 s105.2.length c0_0)), (13, vi s105.1), (10, vi y103.1), (0, .v (.slice a0_0 s105.2.length c0_0)), (4, .v (.func (.func 35) #[] #[.pointer (some ⟨g4_0, 0, none⟩), .pointer (some ⟨g4_1, 0, none⟩), .pointer (some ⟨g4_2, 0, none⟩)]))]) (by kernel_rfl) ?_
              refine KG_eqE (sl' := [(75, .q a0_0 (Int.toNat s105.1 * 1)), (74, vi x124), (70, vi x121), (65, vi (w64 (s105.1 + 1))), (63, .v (.slice a0_0 l130.length c0_0)), (13, vi s105.1), (10, vi y103.1), (0, .v (.slice a0_0 l130.length c0_0)), (4, .v (.func (.func 35) #[] #[.pointer (some ⟨g4_0, 0, none⟩), .pointer (some ⟨g4_1, 0, none⟩), .pointer (some ⟨g4_2, 0, none⟩)]))]) (bx' := []) (by simp only [hl133]) rfl ?_
              refine gn hm [74, 65, 63, 13, 10, 0, 4] [] ?_
              refine ha1 16 ?_
              refine hi (fun γ0 δ hm => ?_)
              refine JG_index (by kernel_rfl) (d := a0_0) (m := l130.length) (j := (w64 (s105.1 + 1))) (s := 1) (by kernel_rfl) (fun w hs => (hs.view 0 rfl)) rfl hx135 rfl ?_
              refine gn hm [76, 74, 13, 10, 0, 4] [] ?_
              refine ha1 17 ?_
              refine hi (fun γ0 δ hm => ?_)
              refine JG_storeq (α := Int) (d := a0_0) (vs := [.int .i64 x124]) (j := (w64 (s105.1 + 1))) (x' := x124) (by kernel_rfl) 0 (by kernel_rfl) hx135 (Rc := []) (Rr := []) rfl (by kernel_rfl) (fun w c F Fs ho _ _ => own_flat_set (by kernel_rfl) ho) hm138 (sl' := [(76, .q a0_0 (Int.toNat (w64 (s105.1 + 1)) * 1)), (74, vi x124), (13, vi s105.1), (10, vi y103.1), (0, .v (.slice a0_0 l130.length c0_0)), (4, .v (.func (.func 35) #[] #[.pointer (some ⟨g4_0, 0, none⟩), .pointer (some ⟨g4_1, 0, none⟩), .pointer (some ⟨g4_2, 0, none⟩)]))]) (by kernel_rfl) ?_
              refine KG_eqE (sl' := [(76, .q a0_0 (Int.toNat (w64 (s105.1 + 1)) * 1)), (74, vi x124), (13, vi s105.1), (10, vi y103.1), (0, .v (.slice a0_0 l137.length c0_0)), (4, .v (.func (.func 35) #[] #[.pointer (some ⟨g4_0, 0, none⟩), .pointer (some ⟨g4_1, 0, none⟩), .pointer (some ⟨g4_2, 0, none⟩)]))]) (bx' := []) (by simp only [hl140]) rfl ?_
              refine gn hm [13, 10, 0, 4] [] ?_
              exact hd () [13, 10, 0, 4] [0] 0
            · refine hi (fun γ0 δ hm => ?_)
              refine JG_index (by kernel_rfl) (d := a0_0) (m := s105.2.length) (j := s105.1) (s := 1) (by kernel_rfl) (fun w hs => (hs.view 0 rfl)) rfl hx125 rfl ?_
              refine gn hm [73, 69, 65, 63, 62, 61, 13, 10, 0, 4] [] ?_
              refine ha2 9 13 ?_ ?_
              · refine hi (fun γ0 δ hm => ?_)
                refine JG_loadq (by kernel_rfl) (t := 3) (d := a0_0) (Int.toNat (w64 (s105.1 + 1)) * 1) 0 (by kernel_rfl) (cs := [.int .i64 x121]) (v := .int .i64 x121) (fun w hs => (hs.view 0 rfl).flatq hx122) (by kernel_rfl) rfl ?_
                refine gn hm [70, 73, 65, 63, 62, 61, 13, 10, 0, 4] [] ?_
                refine ha1 13 ?_
                refine hi (fun γ0 δ hm => ?_)
                refine JG_loadq (by kernel_rfl) (t := 3) (d := a0_0) (Int.toNat s105.1 * 1) 0 (by kernel_rfl) (cs := [.int .i64 x124]) (v := .int .i64 x124) (fun w hs => (hs.view 0 rfl).flatq hx125) (by kernel_rfl) rfl ?_
                refine gn hm [74, 70, 65, 63, 62, 61, 13, 10, 0, 4] [] ?_
                refine ha1 14 ?_
                refine hi (fun γ0 δ hm => ?_)
                refine JG_index (by kernel_rfl) (d := a0_0) (m := s105.2.length) (j := s105.1) (s := 1) (by kernel_rfl) (fun w hs => (hs.view 0 rfl)) rfl hx128 rfl ?_
                refine gn hm [75, 74, 70, 65, 63, 13, 10, 0, 4] [] ?_
                refine ha1 15 ?_
                refine hi (fun γ0 δ hm => ?_)
                refine JG_storeq (α := Int) (d := a0_0) (vs := [.int .i64 x121]) (j := s105.1) (x' := x121) (by kernel_rfl) 0 (by kernel_rfl) hx128 (Rc := []) (Rr := []) rfl (by kernel_rfl) (fun w c F Fs ho _ _ => own_flat_set (by kernel_rfl) ho) hm131 (sl' := [(75, .q a0_0 (Int.toNat s105.1 * 1)), (74, vi x124), (70, vi x121), (65, vi (w64 (s105.1 + 1))), (63, .v (.slice a0_0 s105.2.length c0_0)), (13, vi s105.1), (10, vi y103.1), (0, .v (.slice a0_0 s105.2.length c0_0)), (4, .v (.func (.func 35) #[] #[.pointer (some ⟨g4_0, 0, none⟩), .pointer (some ⟨g4_1, 0, none⟩), .pointer (some ⟨g4_2, 0, none⟩)]))]) (by kernel_rfl) ?_
                refine KG_eqE (sl' := [(75, .q a0_0 (Int.toNat s105.1 * 1)), (74, vi x124), (70, vi x121), (65, vi (w64 (s105.1 + 1))), (63, .v (.slice a0_0 l130.length c0_0)), (13, vi s105.1), (10, vi y103.1), (0, .v (.slice a0_0 l130.length c0_0)), (4, .v (.func (.func 35) #[] #[.pointer (some ⟨g4_0, 0, none⟩), .pointer (some ⟨g4_1, 0, none⟩), .pointer (some ⟨g4_2, 0, none⟩)]))]) (bx' := []) (by simp only [hl133]) rfl ?_
                refine gn hm [74, 65, 63, 13, 10, 0, 4] [] ?_
                refine ha1 16 ?_
                refine hi (fun γ0 δ hm => ?_)
                refine JG_index (by kernel_rfl) (d := a0_0) (m := l130.length) (j := (w64 (s105.1 + 1))) (s := 1) (by kernel_rfl) (fun w hs => (hs.view 0 rfl)) rfl hx135 rfl ?_
                refine gn hm [76, 74, 13, 10, 0, 4] [] ?_
                refine ha1 17 ?_
                refine hi (fun γ0 δ hm => ?_)
                refine JG_storeq (α := Int) (d := a0_0) (vs := [.int .i64 x124]) (j := (w64 (s105.1 + 1))) (x' := x124) (by kernel_rfl) 0 (by kernel_rfl) hx135 (Rc := []) (Rr := []) rfl (by kernel_rfl) (fun w c F Fs ho _ _ => own_flat_set (by kernel_rfl) ho) hm138 (sl' := [(76, .q a0_0 (Int.toNat (w64 (s105.1 + 1)) * 1)), (74, vi x124), (13, vi s105.1), (10, vi y103.1), (0, .v (.slice a0_0 l130.length c0_0)), (4, .v (.func (.func 35) #[] #[.pointer (some ⟨g4_0, 0, none⟩), .pointer (some ⟨g4_1, 0, none⟩), .pointer (some ⟨g4_2, 0, none⟩)]))]) (by kernel_rfl) ?_
                refine KG_eqE (sl' := [(76, .q a0_0 (Int.toNat (w64 (s105.1 + 1)) * 1)), (74, vi x124), (13, vi s105.1), (10, vi y103.1), (0, .v (.slice a0_0 l137.length c0_0)), (4, .v (.func (.func 35) #[] #[.pointer (some ⟨g4_0, 0, none⟩), .pointer (some ⟨g4_1, 0, none⟩), .pointer (some ⟨g4_2, 0, none⟩)]))]) (bx' := []) (by simp only [hl140]) rfl ?_
                refine gn hm [13, 10, 0, 4] [] ?_
                exact hd () [13, 10, 0, 4] [0] 0
              · refine hi (fun γ0 δ hm => ?_)
                refine JG_loadq (by kernel_rfl) (t := 3) (d := a0_0) (Int.toNat s105.1 * 1) 0 (by kernel_rfl) (cs := [.int .i64 x124]) (v := .int .i64 x124) (fun w hs => (hs.view 0 rfl).flatq hx125) (by kernel_rfl) rfl ?_
                refine gn hm [74, 69, 65, 63, 62, 61, 13, 10, 0, 4] [] ?_
                refine ha1 9 ?_
                refine hi (fun γ0 δ hm => ?_)
                refine JG_loadq (by kernel_rfl) (t := 3) (d := a0_0) (Int.toNat (w64 (s105.1 + 1)) * 1) 0 (by kernel_rfl) (cs := [.int .i64 x121]) (v := .int .i64 x121) (fun w hs => (hs.view 0 rfl).flatq hx122) (by kernel_rfl) rfl ?_
                refine gn hm [70, 74, 65, 63, 62, 61, 13, 10, 0, 4] [] ?_
                refine ha1 14 ?_
                refine hi (fun γ0 δ hm => ?_)
                refine JG_index (by kernel_rfl) (d := a0_0) (m := s105.2.length) (j := s105.1) (s := 1) (by kernel_rfl) (fun w hs => (hs.view 0 rfl)) rfl hx128 rfl ?_
                refine gn hm [75, 70, 74, 65, 63, 13, 10, 0, 4] [] ?_
                refine ha1 15 ?_
                refine hi (fun γ0 δ hm => ?_)
                refine JG_storeq (α := Int) (d := a0_0) (vs := [.int .i64 x121]) (j := s105.1) (x' := x121) (by kernel_rfl) 0 (by kernel_rfl) hx128 (Rc := []) (Rr := []) rfl (by kernel_rfl) (fun w c F Fs ho _ _ => own_flat_set (by kernel_rfl) ho) hm131 (sl' := [(75, .q a0_0 (Int.toNat s105.1 * 1)), (70, vi x121), (74, vi x124), (65, vi (w64 (s105.1 + 1))), (63, .v (.slice a0_0 s105.2.length c0_0)), (13, vi s105.1), (10, vi y103.1), (0, .v (.slice a0_0 s105.2.length c0_0)), (4, .v (.func (.func 35) #[] #[.pointer (some ⟨g4_0, 0, none⟩), .pointer (some ⟨g4_1, 0, none⟩), .pointer (some ⟨g4_2, 0, none⟩)]))]) (by kernel_rfl) ?_
                refine KG_eqE (sl' := [(75, .q a0_0 (Int.toNat s105.1 * 1)), (70, vi x121), (74, vi x124), (65, vi (w64 (s105.1 + 1))), (63, .v (.slice a0_0 l130.length c0_0)), (13, vi s105.1), (10, vi y103.1), (0, .v (.slice a0_0 l130.length c0_0)), (4, .v (.func (.func 35) #[] #[.pointer (some ⟨g4_0, 0, none⟩), .pointer (some ⟨g4_1, 0, none⟩), .pointer (some ⟨g4_2, 0, none⟩)]))]) (bx' := []) (by simp only [hl133]) rfl ?_
                refine gn hm [74, 65, 63, 13, 10, 0, 4] [] ?_
                refine ha1 16 ?_
                refine hi (fun γ0 δ hm => ?_)
                refine JG_index (by kernel_rfl) (d := a0_0) (m := l130.length) (j := (w64 (s105.1 + 1))) (s := 1) (by kernel_rfl) (fun w hs => (hs.view 0 rfl)) rfl hx135 rfl ?_
                refine gn hm [76, 74, 13, 10, 0, 4] [] ?_
                refine ha1 17 ?_
                refine hi (fun γ0 δ hm => ?_)
                refine JG_storeq (α := Int) (d := a0_0) (vs := [.int .i64 x124]) (j := (w64 (s105.1 + 1))) (x' := x124) (by kernel_rfl) 0 (by kernel_rfl) hx135 (Rc := []) (Rr := []) rfl (by kernel_rfl) (fun w c F Fs ho _ _ => own_flat_set (by kernel_rfl) ho) hm138 (sl' := [(76, .q a0_0 (Int.toNat (w64 (s105.1 + 1)) * 1)), (74, vi x124), (13, vi s105.1), (10, vi y103.1), (0, .v (.slice a0_0 l130.length c0_0)), (4, .v (.func (.func 35) #[] #[.pointer (some ⟨g4_0, 0, none⟩), .pointer (some ⟨g4_1, 0, none⟩), .pointer (some ⟨g4_2, 0, none⟩)]))]) (by kernel_rfl) ?_
                refine KG_eqE (sl' := [(76, .q a0_0 (Int.toNat (w64 (s105.1 + 1)) * 1)), (74, vi x124), (13, vi s105.1), (10, vi y103.1), (0, .v (.slice a0_0 l137.length c0_0)), (4, .v (.func (.func 35) #[] #[.pointer (some ⟨g4_0, 0, none⟩), .pointer (some ⟨g4_1, 0, none⟩), .pointer (some ⟨g4_2, 0, none⟩)]))]) (bx' := []) (by simp only [hl140]) rfl ?_
                refine gn hm [13, 10, 0, 4] [] ?_
                exact hd () [13, 10, 0, 4] [0] 0
          · refine hi (fun γ0 δ hm => ?_)
            refine JG_index (by kernel_rfl) (d := a0_0) (m := s105.2.length) (j := s105.1) (s := 1) (by kernel_rfl) (fun w hs => (hs.view 0 rfl)) rfl hx125 rfl ?_
            refine gn hm [73, 68, 66, 65, 63, 62, 61, 13, 10, 0, 4] [] ?_
            refine ha2 8 13 ?_ ?_
            · refine hi (fun γ0 δ hm => ?_)
              refine JG_index (by kernel_rfl) (d := a0_0) (m := s105.2.length) (j := (w64 (s105.1 + 1))) (s := 1) (by kernel_rfl) (fun w hs => (hs.view 0 rfl)) rfl hx122 rfl ?_
              refine gn hm [69, 73, 65, 63, 62, 61, 13, 10, 0, 4] [] ?_
              refine ha2 9 13 ?_ ?_
              · refine hi (fun γ0 δ hm => ?_)
                refine JG_loadq (by kernel_rfl) (t := 3) (d := a0_0) (Int.toNat (w64 (s105.1 + 1)) * 1) 0 (by kernel_rfl) (cs := [.int .i64 x121]) (v := .int .i64 x121) (fun w hs => (hs.view 0 rfl).flatq hx122) (by kernel_rfl) rfl ?_
                refine gn hm [70, 73, 65, 63, 62, 61, 13, 10, 0, 4] [] ?_
                refine ha1 13 ?_
                refine hi (fun γ0 δ hm => ?_)
                refine JG_loadq (by kernel_rfl) (t := 3) (d := a0_0) (Int.toNat s105.1 * 1) 0 (by kernel_rfl) (cs := [.int .i64 x124]) (v := .int .i64 x124) (fun w hs => (hs.view 0 rfl).flatq hx125) (by kernel_rfl) rfl ?_
                refine gn hm [74, 70, 65, 63, 62, 61, 13, 10, 0, 4] [] ?_
                refine ha1 14 ?_
                refine hi (fun γ0 δ hm => ?_)
                refine JG_index (by kernel_rfl) (d := a0_0) (m := s105.2.length) (j := s105.1) (s := 1) (by kernel_rfl) (fun w hs => (hs.view 0 rfl)) rfl hx128 rfl ?_
                refine gn hm [75, 74, 70, 65, 63, 13, 10, 0, 4] [] ?_
                refine ha1 15 ?_
                refine hi (fun γ0 δ hm => ?_)
                refine JG_storeq (α := Int) (d := a0_0) (vs := [.int .i64 x121]) (j := s105.1) (x' := x121) (by kernel_rfl) 0 (by kernel_rfl) hx128 (Rc := []) (Rr := []) rfl (by kernel_rfl) (fun w c F Fs ho _ _ => own_flat_set (by kernel_rfl) ho) hm131 (sl' := [(75, .q a0_0 (Int.toNat s105.1 * 1)), (74, vi x124), (70, vi x121), (65, vi (w64 (s105.1 + 1))), (63, .v (.slice a0_0 s105.2.length c0_0)), (13, vi s105.1), (10, vi y103.1), (0, .v (.slice a0_0 s105.2.length c0_0)), (4, .v (.func (.func 35) #[] #[.pointer (some ⟨g4_0, 0, none⟩), .pointer (some ⟨g4_1, 0, none⟩), .pointer (some ⟨g4_2, 0, none⟩)]))]) (by kernel_rfl) ?_
                refine KG_eqE (sl' := [(75, .q a0_0 (Int.toNat s105.1 * 1)), (74, vi x124), (70, vi x121), (65, vi (w64 (s105.1 + 1))), (63, .v (.slice a0_0 l130.length c0_0)), (13, vi s105.1), (10, vi y103.1), (0, .v (.slice a0_0 l130.length c0_0)), (4, .v (.func (.func 35) #[] #[.pointer (some ⟨g4_0, 0, none⟩), .pointer (some ⟨g4_1, 0, none⟩), .pointer (some ⟨g4_2, 0, none⟩)]))]) (bx' := []) (by simp only [hl133]) rfl ?_
                refine gn hm [74, 65, 63, 13, 10, 0, 4] [] ?_
                refine ha1 16 ?_
                refine hi (fun γ0 δ hm => ?_)
                refine JG_index (by kernel_rfl) (d := a0_0) (m := l130.length) (j := (w64 (s105.1 + 1))) (s := 1) (by kernel_rfl) (fun w hs => (hs.view 0 rfl)) rfl hx135 rfl ?_
                refine gn hm [76, 74, 13, 10, 0, 4] [] ?_
                refine ha1 17 ?_
                refine hi (fun γ0 δ hm => ?_)
                refine JG_storeq (α := Int) (d := a0_0) (vs := [.int .i64 x124]) (j := (w64 (s105.1 + 1))) (x' := x124) (by kernel_rfl) 0 (by kernel_rfl) hx135 (Rc := []) (Rr := []) rfl (by kernel_rfl) (fun w c F Fs ho _ _ => own_flat_set (by kernel_rfl) ho) hm138 (sl' := [(76, .q a0_0 (Int.toNat (w64 (s105.1 + 1)) * 1)), (74, vi x124), (13, vi s105.1), (10, vi y103.1), (0, .v (.slice a0_0 l130.length c0_0)), (4, .v (.func (.func 35) #[] #[.pointer (some ⟨g4_0, 0, none⟩), .pointer (some ⟨g4_1, 0, none⟩), .pointer (some ⟨g4_2, 0, none⟩)]))]) (by kernel_rfl) ?_
                refine KG_eqE (sl' := [(76, .q a0_0 (Int.toNat (w64 (s105.1 + 1)) * 1)), (74, vi x124), (13, vi s105.1), (10, vi y103.1), (0, .v (.slice a0_0 l137.length c0_0)), (4, .v (.func (.func 35) #[] #[.pointer (some ⟨g4_0, 0, none⟩), .pointer (some ⟨g4_1, 0, none⟩), .pointer (some ⟨g4_2, 0, none⟩)]))]) (bx' := []) (by simp only [hl140]) rfl ?_
                refine gn hm [13, 10, 0, 4] [] ?_
                exact hd () [13, 10, 0, 4] [0] 0
              · refine hi (fun γ0 δ hm => ?_)
                refine JG_loadq (by kernel_rfl) (t := 3) (d := a0_0) (Int.toNat s105.1 * 1) 0 (by kernel_rfl) (cs := [.int .i64 x124]) (v := .int .i64 x124) (fun w hs => (hs.view 0 rfl).flatq hx125) (by kernel_rfl) rfl ?_
                refine gn hm [74, 69, 65, 63, 62, 61, 13, 10, 0, 4] [] ?_
                refine ha1 9 ?_
                refine hi (fun γ0 δ hm => ?_)
                refine JG_loadq (by kernel_rfl) (t := 3) (d := a0_0) (Int.toNat (w64 (s105.1 + 1)) * 1) 0 (by kernel_rfl) (cs := [.int .i64 x121]) (v := .int .i64 x121) (fun w hs => (hs.view 0 rfl).flatq hx122) (by kernel_rfl) rfl ?_
                refine gn hm [70, 74, 65, 63, 62, 61, 13, 10, 0, 4] [] ?_
                refine ha1 14 ?_
                refine hi (fun γ0 δ hm => ?_)
                refine JG_index (by kernel_rfl) (d := a0_0) (m := s105.2.length) (j := s105.1) (s := 1) (by kernel_rfl) (fun w hs => (hs.view 0 rfl)) rfl hx128 rfl ?_
                refine gn hm [75, 70, 74, 65, 63, 13, 10, 0, 4] [] ?_
                refine ha1 15 ?_
                refine hi (fun γ0 δ hm => ?_)
                refine JG_storeq (α := Int) (d := a0_0) (vs := [.int .i64 x121]) (j := s105.1) (x' := x121) (by kernel_rfl) 0 (by kernel_rfl) hx128 (Rc := []) (Rr := []) rfl (by kernel_rfl) (fun w c F Fs ho _ _ => own_flat_set (by kernel_rfl) ho) hm131 (sl' := [(75, .q a0_0 (Int.toNat s105.1 * 1)), (70, vi x121), (74, vi x124), (65, vi (w64 (s105.1 + 1))), (63, .v (.slice a0_0 s105.2.length c0_0)), (13, vi s105.1), (10, vi y103.1), (0, .v (.slice a0_0 s105.2.length c0_0)), (4, .v (.func (.func 35) #[] #[.pointer (some ⟨g4_0, 0, none⟩), .pointer (some ⟨g4_1, 0, none⟩), .pointer (some ⟨g4_2, 0, none⟩)]))]) (by kernel_rfl) ?_
                refine KG_eqE (sl' := [(75, .q a0_0 (Int.toNat s105.1 * 1)), (70, vi x121), (74, vi x124), (65, vi (w64 (s105.1 + 1))), (63, .v (.slice a0_0 l130.length c0_0)), (13, vi s105.1), (10, vi y103.1), (0, .v (.slice a0_0 l130.length c0_0)), (4, .v (.func (.func 35) #[] #[.pointer (some ⟨g4_0, 0, none⟩), .pointer (some ⟨g4_1, 0, none⟩), .pointer (some ⟨g4_2, 0, none⟩)]))]) (bx' := []) (by simp only [hl133]) rfl ?_
                refine gn hm [74, 65, 63, 13, 10, 0, 4] [] ?_
                refine ha1 16 ?_
                refine hi (fun γ0 δ hm => ?_)
                refine JG_index (by kernel_rfl) (d := a0_0) (m := l130.length) (j := (w64 (s105.1 + 1))) (s := 1) (by kernel_rfl) (fun w hs => (hs.view 0 rfl)) rfl hx135 rfl ?_
                refine gn hm [76, 74, 13, 10, 0, 4] [] ?_
                refine ha1 17 ?_
                refine hi (fun γ0 δ hm => ?_)
                refine JG_storeq (α := Int) (d := a0_0) (vs := [.int .i64 x124]) (j := (w64 (s105.1 + 1))) (x' := x124) (by kernel_rfl) 0 (by kernel_rfl) hx135 (Rc := []) (Rr := []) rfl (by kernel_rfl) (fun w c F Fs ho _ _ => own_flat_set (by kernel_rfl) ho) hm138 (sl' := [(76, .q a0_0 (Int.toNat (w64 (s105.1 + 1)) * 1)), (74, vi x124), (13, vi s105.1), (10, vi y103.1), (0, .v (.slice a0_0 l130.length c0_0)), (4, .v (.func (.func 35) #[] #[.pointer (some ⟨g4_0, 0, none⟩), .pointer (some ⟨g4_1, 0, none⟩), .pointer (some ⟨g4_2, 0, none⟩)]))]) (by kernel_rfl) ?_
                refine KG_eqE (sl' := [(76, .q a0_0 (Int.toNat (w64 (s105.1 + 1)) * 1)), (74, vi x124), (13, vi s105.1), (10, vi y103.1), (0, .v (.slice a0_0 l137.length c0_0)), (4, .v (.func (.func 35) #[] #[.pointer (some ⟨g4_0, 0, none⟩), .pointer (some ⟨g4_1, 0, none⟩), .pointer (some ⟨g4_2, 0, none⟩)]))]) (bx' := []) (by simp only [hl140]) rfl ?_
                refine gn hm [13, 10, 0, 4] [] ?_
                exact hd () [13, 10, 0, 4] [0] 0
            · refine hi (fun γ0 δ hm => ?_)
              refine JG_loadq (by kernel_rfl) (t := 3) (d := a0_0) (Int.toNat s105.1 * 1) 0 (by kernel_rfl) (cs := [.int .i64 x124]) (v := .int .i64 x124) (fun w hs => (hs.view 0 rfl).flatq hx125) (by kernel_rfl) rfl ?_
              refine gn hm [74, 68, 66, 65, 63, 62, 61, 13, 10, 0, 4] [] ?_
              refine ha1 8 ?_
              refine hi (fun γ0 δ hm => ?_)
              refine JG_index (by kernel_rfl) (d := a0_0) (m := s105.2.length) (j := (w64 (s105.1 + 1))) (s := 1) (by kernel_rfl) (fun w hs => (hs.view 0 rfl)) rfl hx122 rfl ?_
              refine gn hm [69, 74, 65, 63, 62, 61, 13, 10, 0, 4] [] ?_
              refine ha1 9 ?_
              refine hi (fun γ0 δ hm => ?_)
              refine JG_loadq (by kernel_rfl) (t := 3) (d := a0_0) (Int.toNat (w64 (s105.1 + 1)) * 1) 0 (by kernel_rfl) (cs := [.int .i64 x121]) (v := .int .i64 x121) (fun w hs => (hs.view 0 rfl).flatq hx122) (by kernel_rfl) rfl ?_
              refine gn hm [70, 74, 65, 63, 62, 61, 13, 10, 0, 4] [] ?_
              refine ha1 14 ?_
              refine hi (fun γ0 δ hm => ?_)
              refine JG_index (by kernel_rfl) (d := a0_0) (m := s105.2.length) (j := s105.1) (s := 1) (by kernel_rfl) (fun w hs => (hs.view 0 rfl)) rfl hx128 rfl ?_
              refine gn hm [75, 70, 74, 65, 63, 13, 10, 0, 4] [] ?_
              refine ha1 15 ?_
              refine hi (fun γ0 δ hm => ?_)
              refine JG_storeq (α := Int) (d := a0_0) (vs := [.int .i64 x121]) (j := s105.1) (x' := x121) (by kernel_rfl) 0 (by kernel_rfl) hx128 (Rc := []) (Rr := []) rfl (by kernel_rfl) (fun w c F Fs ho _ _ => own_flat_set (by kernel_rfl) ho) hm131 (sl' := [(75, .q a0_0 (Int.toNat s105.1 * 1)), (70, vi x121), (74, vi x124), (65, vi (w64 (s105.1 + 1))), (63, .v (.slice a0_0 s105.2.length c0_0)), (13, vi s105.1), (10, vi y103.1), (0, .v (.slice a0_0 s105.2.length c0_0)), (4, .v (.func (.func 35) #[] #[.pointer (some ⟨g4_0, 0, none⟩), .pointer (some ⟨g4_1, 0, none⟩), .pointer (some ⟨g4_2, 0, none⟩)]))]) (by kernel_rfl) ?_
              refine KG_eqE (sl' := [(75, .q a0_0 (Int.toNat s105.1 * 1)), (70, vi x121), (74, vi x124), (65, vi (w64 (s105.1 + 1))), (63, .v (.slice a0_0 l130.length c0_0)), (13, vi s105.1), (10, vi y103.1), (0, .v (.slice a0_0 l130.length c0_0)), (4, .v (.func (.func 35) #[] #[.pointer (some ⟨g4_0, 0, none⟩), .pointer (some ⟨g4_1, 0, none⟩), .pointer (some ⟨g4_2, 0, none⟩)]))]) (bx' := []) (by simp only [hl133]) rfl ?_
              refine gn hm [74, 65, 63, 13, 10, 0, 4] [] ?_
              refine ha1 16 ?_
              refine hi (fun γ0 δ hm => ?_)
              refine JG_index (by kernel_rfl) (d := a0_0) (m := l130.length) (j := (w64 (s105.1 + 1))) (s := 1) (by kernel_rfl) (fun w hs => (hs.view 0 rfl)) rfl hx135 rfl ?_
              refine gn hm [76, 74, 13, 10, 0, 4] [] ?_
              refine ha1 17 ?_
              refine hi (fun γ0 δ hm => ?_)
              refine JG_storeq (α := Int) (d := a0_0) (vs := [.int .i64 x124]) (j := (w64 (s105.1 + 1))) (x' := x124) (by kernel_rfl) 0 (by kernel_rfl) hx135 (Rc := []) (Rr := []) rfl (by kernel_rfl) (fun w c F Fs ho _ _ => own_flat_set (by kernel_rfl) ho) hm138 (sl' := [(76, .q a0_0 (Int.toNat (w64 (s105.1 + 1)) * 1)), (74, vi x124), (13, vi s105.1), (10, vi y103.1), (0, .v (.slice a0_0 l130.length c0_0)), (4, .v (.func (.func 35) #[] #[.pointer (some ⟨g4_0, 0, none⟩), .pointer (some ⟨g4_1, 0, none⟩), .pointer (some ⟨g4_2, 0, none⟩)]))]) (by kernel_rfl) ?_
              refine KG_eqE (sl' := [(76, .q a0_0 (Int.toNat (w64 (s105.1 + 1)) * 1)), (74, vi x124), (13, vi s105.1), (10, vi y103.1), (0, .v (.slice a0_0 l137.length c0_0)), (4, .v (.func (.func 35) #[] #[.pointer (some ⟨g4_0, 0, none⟩), .pointer (some ⟨g4_1, 0, none⟩), .pointer (some ⟨g4_2, 0, none⟩)]))]) (bx' := []) (by simp only [hl140]) rfl ?_
              refine gn hm [13, 10, 0, 4] [] ?_
              exact hd () [13, 10, 0, 4] [0] 0
        refine bn (nt (qr (oN 3 [(13, vi (w64 (s105.1 + 1)))] [10, 0, 4] ?_)))
        exact oe (ct h139 () [13, 10, 0, 4] [0] 0)
      refine qx (nx (nx (bh ?_)))
      have h142 := leafB hd114 h120 h110
      exact mp (s105.2, ()) h142 [0, 4] [0] 0
    have h117 := (congrFun hk112 _).symm.trans h117p
    refine nt (qe (nr (rt [] (fun γ w hs => ?_))))
    rw [← sI h117]
    exact hs.turned (is := [0]) rfl
  refine qk (nt (qs (qs (qr (oN 4 [(80, vb ((w64 (x3 - x2)) == 1))] [0, 1, 2, 3, 4] ?_)))))
  refine oe (nt (cC h91 (fun h229 => ?_) (fun h230 => ?_)))
  · refine qs (qr (oN 2 [(14, vi x1)] [0, 2, 4] ?_))
    refine oe (nt (qs (qr (oN 2 [(15, vi x2)] [14, 0, 2, 4] ?_))))
    refine oe (nt (qs ?_))
    obtain ⟨r234, hL235, h236⟩ := bS h229
    obtain ⟨k237, hk238, h236⟩ := brkS h236
    refine JC_cutP (τ := (Int) × (Unit)) (fun y => k237 y.1 = some r) (fun y242 => [(14, vi y242.1), (0, .v (.slice a0_0 x0.length c0_0)), (2, vi x2), (4, .v (.func (.func 35) #[] #[.pointer (some ⟨g4_0, 0, none⟩), .pointer (some ⟨g4_1, 0, none⟩), .pointer (some ⟨g4_2, 0, none⟩)]))]) (fun y242 => []) (fun y242 => [SlRes e0_0 x0 a0_0 c0_0]) ?_ (fun y242 h243p => ?_)
    · refine qb (lp Unit hL235 (fun s231 y232 => [(15, vi s231.1), (14, vi s231.2), (0, .v (.slice a0_0 x0.length c0_0)), (2, vi x2), (4, .v (.func (.func 35) #[] #[.pointer (some ⟨g4_0, 0, none⟩), .pointer (some ⟨g4_1, 0, none⟩), .pointer (some ⟨g4_2, 0, none⟩)]))]) (fun s231 y232 => []) (fun s231 y232 => [SlRes e0_0 x0 a0_0 c0_0]) () [15, 14, 0, 2, 4] [0] 0 (fun s231 y232 t233 h239 hd240 => ?_))
      refine qs (qs (qr (oN 3 [(85, vb (decide (s231.2 < s231.1)))] [15, 14, 0, 2, 4] ?_)))
      refine oe (nt (cC h239 (fun h283 => ?_) (fun h284 => ?_)))
      · refine qk (nt (qb (qs (qr (oN 7 [(16, vi (w64 (Int.fdiv (wu64 (w64 (s231.2 + s231.1))) 2)))] [15, 14, 0, 2, 4] ?_)))))
        refine oe (nt (qs (JC_quiet (by kernel_rfl) (by kernel_rfl) ?_)))
        refine qN 3 [(94, vi x2), (93, .v (.slice a0_0 x0.length c0_0)), (92, .v (.func (.func 35) #[] #[.pointer (some ⟨g4_0, 0, none⟩), .pointer (some ⟨g4_1, 0, none⟩), .pointer (some ⟨g4_2, 0, none⟩)]))] [16, 15, 14, 0, 2, 4] ?_
        obtain ⟨x285, hx286, h287⟩ := bS h283
        refine qi 1 (fun γ w hs => (hs.view 0 rfl)) hx286 ?_
        refine ql 3 0 (.int .i64 x285) (fun γ w hs => (hs.view 0 rfl).flatq hx286) ?_
        refine qN 2 [(98, vi (w64 (Int.fdiv (wu64 (w64 (s231.2 + s231.1))) 2))), (97, .v (.slice a0_0 x0.length c0_0))] [96, 92, 16, 15, 14, 0, 2, 4] ?_
        obtain ⟨x288, hx289, h290⟩ := bS h287
        refine qi 1 (fun γ w hs => (hs.view 0 rfl)) hx289 ?_
        refine ql 3 0 (.int .i64 x288) (fun γ w hs => (hs.view 0 rfl).flatq hx289) ?_
        obtain ⟨t291, h292, h293⟩ := bS h290
        refine q0 (fun γ w hs => hq w hs.kept _ _ _ h292) ?_
        refine qN 2 [(103, vb (!(decide (t291 < 0))))] [16, 15, 14, 0, 2, 4] ?_
        refine qz (nt (cC h293 (fun h296 => ?_) (fun h297 => ?_)))
        · refine qr (oN 3 [(14, vi (w64 ((w64 (Int.fdiv (wu64 (w64 (s231.2 + s231.1))) 2)) + 1)))] [15, 0, 2, 4] ?_)
          exact oe (bn (ct h296 () [15, 14, 0, 2, 4] [0] 0))
        refine qr (oN 2 [(15, vi (w64 (Int.fdiv (wu64 (w64 (s231.2 + s231.1))) 2)))] [14, 0, 2, 4] ?_)
        exact oe (bn (ct h297 () [15, 14, 0, 2, 4] [0] 0))
      refine qx (nx (nx (bh ?_)))
      have h298 := leafB hd240 h284 h236
      exact mp (s231.2, ()) h298 [14, 0, 2, 4] [0] 0
    have h243 := (congrFun hk238 _).symm.trans h243p
    refine nt (qs (qs (qr (oN 2 [(17, vi x2)] [14, 0, 4] ?_))))
    refine oe (nt ?_)
    obtain ⟨r247, hL248, h249⟩ := bS h243
    obtain ⟨k250, hk251, h249⟩ := brkS h249
    refine JC_cutP (τ := ((List Int)) × (Unit)) (fun y => k250 y.1 = some r) (fun y255 => [(0, .v (.slice a0_0 y255.1.length c0_0)), (4, .v (.func (.func 35) #[] #[.pointer (some ⟨g4_0, 0, none⟩), .pointer (some ⟨g4_1, 0, none⟩), .pointer (some ⟨g4_2, 0, none⟩)]))]) (fun y255 => []) (fun y255 => [SlRes e0_0 y255.1 a0_0 c0_0]) ?_ (fun y255 h256p => ?_)
    · refine qb (lp Unit hL248 (fun s244 y245 => [(17, vi s244.1), (14, vi y242.1), (0, .v (.slice a0_0 s244.2.length c0_0)), (4, .v (.func (.func 35) #[] #[.pointer (some ⟨g4_0, 0, none⟩), .pointer (some ⟨g4_1, 0, none⟩), .pointer (some ⟨g4_2, 0, none⟩)]))]) (fun s244 y245 => []) (fun s244 y245 => [SlRes e0_0 s244.2 a0_0 c0_0]) () [17, 14, 0, 4] [0] 0 (fun s244 y245 t246 h252 hd253 => ?_))
      refine qs (qs (qr (oN 3 [(110, vb (decide (s244.1 > y242.1)))] [17, 14, 0, 4] ?_)))
      refine oe (nt (cC h252 (fun h258 => ?_) (fun h259 => ?_)))
      · refine qk (nt (qs (qb ?_)))
        obtain ⟨x260, hx261, h262⟩ := bS h258
        obtain ⟨x263, hx264, h265⟩ := bS h262
        obtain ⟨x266, hx267, h268⟩ := bS h265
        obtain ⟨l269, hm270, h271⟩ := bS h268
        replace hm270 := (sI hm270).symm
        have hl272 := len_set hm270
        obtain ⟨x273, hx274, h275⟩ := bS h271
        obtain ⟨l276, hm277, h278⟩ := bS h275
        replace hm277 := (sI hm277).symm
        have hl279 := len_set hm277
        refine JC_cut (τ := Unit) (fun _ => [(17, vi s244.1), (14, vi y242.1), (0, .v (.slice a0_0 l276.length c0_0)), (4, .v (.func (.func 35) #[] #[.pointer (some ⟨g4_0, 0, none⟩), .pointer (some ⟨g4_1, 0, none⟩), .pointer (some ⟨g4_2, 0, none⟩)]))]) (fun _ => []) (fun _ => [SlRes e0_0 l276 a0_0 c0_0]) ?_ (fun _ => ?_)
        · refine jw [17, 14, 0, 4] [0] ?_
          refine JC_heldN (ks := []) (Rk := []) 18 (by kernel_rfl) (by kernel_rfl) ?_
          refine htq 0 (.v (.slice a0_0 s244.2.length c0_0)) [] ?_
          refine htq 1 (vi s244.1) [] ?_
          refine htq 2 (.v (.slice a0_0 s244.2.length c0_0)) [] ?_
          refine htq 3 (vi s244.1) [] ?_
          refine htq 4 (vi (w64 (s244.1 - 1))) [] ?_
          refine hk [117, 115, 114, 113, 17, 14, 0, 4] ?_
          refine htq 5 (.v (.slice a0_0 s244.2.length c0_0)) [] ?_
          refine htq 6 (vi s244.1) [] ?_
          refine htq 7 (vi (w64 (s244.1 - 1))) [] ?_
          refine hk [120, 118, 117, 115, 114, 113, 17, 14, 0, 4] ?_
          refine htq 10 (.v (.slice a0_0 s244.2.length c0_0)) [] ?_
          refine htq 11 (vi s244.1) [] ?_
          refine ha2 8 12 ?_ ?_
          · refine hi (fun γ0 δ hm => ?_)
            refine JG_index (by kernel_rfl) (d := a0_0) (m := s244.2.length) (j := (w64 (s244.1 - 1))) (s := 1) (by kernel_rfl) (fun w hs => (hs.view 0 rfl)) rfl hx261 rfl ?_
            refine gn hm [121, 124, 123, 117, 115, 114, 113, 17, 14, 0, 4] [] ?_
            refine ha2 9 12 ?_ ?_
            · refine hi (fun γ0 δ hm => ?_)
              refine JG_loadq (by kernel_rfl) (t := 3) (d := a0_0) (Int.toNat (w64 (s244.1 - 1)) * 1) 0 (by kernel_rfl) (cs := [.int .i64 x260]) (v := .int .i64 x260) (fun w hs => (hs.view 0 rfl).flatq hx261) (by kernel_rfl) rfl ?_
              refine gn hm [122, 124, 123, 117, 115, 114, 113, 17, 14, 0, 4] [] ?_
              refine ha1 12 ?_
              refine hi (fun γ0 δ hm => ?_)
              refine JG_index (by kernel_rfl) (d := a0_0) (m := s244.2.length) (j := s244.1) (s := 1) (by kernel_rfl) (fun w hs => (hs.view 0 rfl)) rfl hx264 rfl ?_
              refine gn hm [125, 122, 117, 115, 114, 113, 17, 14, 0, 4] [] ?_
              refine ha1 13 ?_
              refine hi (fun γ0 δ hm => ?_)
              refine JG_loadq (by kernel_rfl) (t := 3) (d := a0_0) (Int.toNat s244.1 * 1) 0 (by kernel_rfl) (cs := [.int .i64 x263]) (v := .int .i64 x263) (fun w hs => (hs.view 0 rfl).flatq hx264) (by kernel_rfl) rfl ?_
              refine gn hm [126, 122, 117, 115, 114, 113, 17, 14, 0, 4] [] ?_
              refine ha1 14 ?_
              refine hi (fun γ0 δ hm => ?_)
              refine JG_index (by kernel_rfl) (d := a0_0) (m := s244.2.length) (j := s244.1) (s := 1) (by kernel_rfl) (fun w hs => (hs.view 0 rfl)) rfl hx267 rfl ?_
              refine gn hm [127, 126, 122, 117, 115, 17, 14, 0, 4] [] ?_
              refine ha1 15 ?_
              refine hi (fun γ0 δ hm => ?_)
              refine JG_storeq (α := Int) (d := a0_0) (vs := [.int .i64 x260]) (j := s244.1) (x' := x260) (by kernel_rfl) 0 (by kernel_rfl) hx267 (Rc := []) (Rr := []) rfl (by kernel_rfl) (fun w c F Fs ho _ _ => own_flat_set (by kernel_rfl) ho) hm270 (sl' := [(127, .q a0_0 (Int.toNat s244.1 * 1)), (126, vi x263), (122, vi x260), (117, vi (w64 (s244.1 - 1))), (115, .v (.slice a0_0 s244.2.length c0_0)), (17, vi s244.1), (14, vi y242.1), (0, .v (.slice a0_0 s244.2.length c0_0)), (4, .v (.func (.func 35) #[] #[.pointer (some ⟨g4_0, 0, none⟩), .pointer (some ⟨g4_1, 0, none⟩), .pointer (some ⟨g4_2, 0, none⟩)]))]) (by kernel_rfl) ?_
              refine KG_eqE (sl' := [(127, .q a0_0 (Int.toNat s244.1 * 1)), (126, vi x263), (122, vi x260), (117, vi (w64 (s244.1 - 1))), (115, .v (.slice a0_0 l269.length c0_0)), (17, vi s244.1), (14, vi y242.1), (0, .v (.slice a0_0 l269.length c0_0)), (4, .v (.func (.func 35) #[] #[.pointer (some ⟨g4_0, 0, none⟩), .pointer (some ⟨g4_1, 0, none⟩), .pointer (some ⟨g4_2, 0, none⟩)]))]) (bx' := []) (by simp only [hl272]) rfl ?_
              refine gn hm [126, 117, 115, 17, 14, 0, 4] [] ?_
              refine ha1 16 ?_
              refine hi (fun γ0 δ hm => ?_)
              refine JG_index (by kernel_rfl) (d := a0_0) (m := l269.length) (j := (w64 (s244.1 - 1))) (s := 1) (by kernel_rfl) (fun w hs => (hs.view 0 rfl)) rfl hx274 rfl ?_
              refine gn hm [128, 126, 17, 14, 0, 4] [] ?_
              refine ha1 17 ?_
              refine hi (fun γ0 δ hm => ?_)
              refine JG_storeq (α := Int) (d := a0_0) (vs := [.int .i64 x263]) (j := (w64 (s244.1 - 1))) (x' := x263) (by kernel_rfl) 0 (by kernel_rfl) hx274 (Rc := []) (Rr := []) rfl (by kernel_rfl) (fun w c F Fs ho _ _ => own_flat_set (by kernel_rfl) ho) hm277 (sl' := [(128, .q a0_0 (Int.toNat (w64 (s244.1 - 1)) * 1)), (126, vi x263), (17, vi s244.1), (14, vi y242.1), (0, .v (.slice a0_0 l269.length c0_0)), (4, .v (.func (.func 35) #[] #[.pointer (some ⟨g4_0, 0, none⟩), .pointer (some ⟨g4_1, 0, none⟩), .pointer (some ⟨g4_2, 0, none⟩)]))]) (by kernel_rfl) ?_
              refine KG_eqE (sl' := [(128, .q a0_0 (Int.toNat (w64 (s244.1 - 1)) * 1)), (126, vi x263), (17, vi s244.1), (14, vi y242.1), (0, .v (.slice a0_0 l276.length c0_0)), (4, .v (.func (.func 35) #[] #[.pointer (some ⟨g4_0, 0, none⟩), .pointer (some ⟨g4_1, 0, none⟩), .pointer (some ⟨g4_2, 0, none⟩)]))]) (bx' := []) (by simp only [hl279]) rfl ?_
              refine gn hm [17, 14, 0, 4] [] ?_
              exact hd () [17, 14, 0, 4] [0] 0
            · refine hi (fun γ0 δ hm => ?_)
              refine JG_index (by kernel_rfl) (d := a0_0) (m := s244.2.length) (j := s244.1) (s := 1) (by kernel_rfl) (fun w hs => (hs.view 0 rfl)) rfl hx264 rfl ?_
              refine gn hm [125, 121, 117, 115, 114, 113, 17, 14, 0, 4] [] ?_
              refine ha2 9 13 ?_ ?_
              · refine hi (fun γ0 δ hm => ?_)
                refine JG_loadq (by kernel_rfl) (t := 3) (d := a0_0) (Int.toNat (w64 (s244.1 - 1)) * 1) 0 (by kernel_rfl) (cs := [.int .i64 x260]) (v := .int .i64 x260) (fun w hs => (hs.view 0 rfl).flatq hx261) (by kernel_rfl) rfl ?_
                refine gn hm [122, 125, 117, 115, 114, 113, 17, 14, 0, 4] [] ?_
                refine ha1 13 ?_
                refine hi (fun γ0 δ hm => ?_)
                refine JG_loadq (by kernel_rfl) (t := 3) (d := a0_0) (Int.toNat s244.1 * 1) 0 (by kernel_rfl) (cs := [.int .i64 x263]) (v := .int .i64 x263) (fun w hs => (hs.view 0 rfl).flatq hx264) (by kernel_rfl) rfl ?_
                refine gn hm [126, 122, 117, 115, 114, 113, 17, 14, 0, 4] [] ?_
                refine ha1 14 ?_
                refine hi (fun γ0 δ hm => ?_)
                refine JG_index (by kernel_rfl) (d := a0_0) (m := s244.2.length) (j := s244.1) (s := 1) (by kernel_rfl) (fun w hs => (hs.view 0 rfl)) rfl hx267 rfl ?_
                refine gn hm [127, 126, 122, 117, 115, 17, 14, 0, 4] [] ?_
                refine ha1 15 ?_
                refine hi (fun γ0 δ hm => ?_)
                refine JG_storeq (α := Int) (d := a0_0) (vs := [.int .i64 x260]) (j := s244.1) (x' := x260) (by kernel_rfl) 0 (by kernel_rfl) hx267 (Rc := []) (Rr := []) rfl (by kernel_rfl) (fun w c F Fs ho _ _ => own_flat_set (by kernel_rfl) ho) hm270 (sl' := [(127, .q a0_0 (Int.toNat s244.1 * 1)), (126, vi x263), (122, vi x260), (117, vi (w64 (s244.1 - 1))), (115, .v (.slice a0_0 s244.2.length c0_0)), (17, vi s244.1), (14, vi y242.1), (0, .v (.slice a0_0 s244.2.length c0_0)), (4, .v (.func (.func 35) #[] #[.pointer (some ⟨g4_0, 0, none⟩), .pointer (some ⟨g4_1, 0, none⟩), .pointer (some ⟨g4_2, 0, none⟩)]))]) (by kernel_rfl) ?_
                refine KG_eqE (sl' := [(127, .q a0_0 (Int.toNat s244.1 * 1)), (126, vi x263), (122, vi x260), (117, vi (w64 (s244.1 - 1))), (115, .v (.slice a0_0 l269.length c0_0)), (17, vi s244.1), (14, vi y242.1), (0, .v (.slice a0_0 l269.length c0_0)), (4, .v (.func (.func 35) #[] #[.pointer (some ⟨g4_0, 0, none⟩), .pointer (some ⟨g4_1, 0, none⟩), .pointer (some ⟨g4_2, 0, none⟩)]))]) (bx' := []) (by simp only [hl272]) rfl ?_
                refine gn hm [126, 117, 115, 17, 14, 0, 4] [] ?_
                refine ha1 16 ?_
                refine hi (fun γ0 δ hm => ?_)
                refine JG_index (by kernel_rfl) (d := a0_0) (m := l269.length) (j := (w64 (s244.1 - 1))) (s := 1) (by kernel_rfl) (fun w hs => (hs.view 0 rfl)) rfl hx274 rfl ?_
                refine gn hm [128, 126, 17, 14, 0, 4] [] ?_
                refine ha1 17 ?_
                refine hi (fun γ0 δ hm => ?_)
                refine JG_storeq (α := Int) (d := a0_0) (vs := [.int .i64 x263]) (j := (w64 (s244.1 - 1))) (x' := x263) (by kernel_rfl) 0 (by kernel_rfl) hx274 (Rc := []) (Rr := []) rfl (by kernel_rfl) (fun w c F Fs ho _ _ => own_flat_set (by kernel_rfl) ho) hm277 (sl' := [(128, .q a0_0 (Int.toNat (w64 (s244.1 - 1)) * 1)), (126, vi x263), (17, vi s244.1), (14, vi y242.1), (0, .v (.slice a0_0 l269.length c0_0)), (4, .v (.func (.func 35) #[] #[.pointer (some ⟨g4_0, 0, none⟩), .pointer (some ⟨g4_1, 0, none⟩), .pointer (some ⟨g4_2, 0, none⟩)]))]) (by kernel_rfl) ?_
                refine KG_eqE (sl' := [(128, .q a0_0 (Int.toNat (w64 (s244.1 - 1)) * 1)), (126, vi x263), (17, vi s244.1), (14, vi y242.1), (0, .v (.slice a0_0 l276.length c0_0)), (4, .v (.func (.func 35) #[] #[.pointer (some ⟨g4_0, 0, none⟩), .pointer (some ⟨g4_1, 0, none⟩), .pointer (some ⟨g4_2, 0, none⟩)]))]) (bx' := []) (by simp only [hl279]) rfl ?_
                refine gn hm [17, 14, 0, 4] [] ?_
                exact hd () [17, 14, 0, 4] [0] 0
              · refine hi (fun γ0 δ hm => ?_)
                refine JG_loadq (by kernel_rfl) (t := 3) (d := a0_0) (Int.toNat s244.1 * 1) 0 (by kernel_rfl) (cs := [.int .i64 x263]) (v := .int .i64 x263) (fun w hs => (hs.view 0 rfl).flatq hx264) (by kernel_rfl) rfl ?_
                refine gn hm [126, 121, 117, 115, 114, 113, 17, 14, 0, 4] [] ?_
                refine ha1 9 ?_
                refine hi (fun γ0 δ hm => ?_)
                refine JG_loadq (by kernel_rfl) (t := 3) (d := a0_0) (Int.toNat (w64 (s244.1 - 1)) * 1) 0 (by kernel_rfl) (cs := [.int .i64 x260]) (v := .int .i64 x260) (fun w hs => (hs.view 0 rfl).flatq hx261) (by kernel_rfl) rfl ?_
                refine gn hm [122, 126, 117, 115, 114, 113, 17, 14, 0, 4] [] ?_
                refine ha1 14 ?_
                refine hi (fun γ0 δ hm => ?_)
                refine JG_index (by kernel_rfl) (d := a0_0) (m := s244.2.length) (j := s244.1) (s := 1) (by kernel_rfl) (fun w hs => (hs.view 0 rfl)) rfl hx267 rfl ?_
                refine gn hm [127, 122, 126, 117, 115, 17, 14, 0, 4] [] ?_
                refine ha1 15 ?_
                refine hi (fun γ0 δ hm => ?_)
                refine JG_storeq (α := Int) (d := a0_0) (vs := [.int .i64 x260]) (j := s244.1) (x' := x260) (by kernel_rfl) 0 (by kernel_rfl) hx267 (Rc := []) (Rr := []) rfl (by kernel_rfl) (fun w c F Fs ho _ _ => own_flat_set (by kernel_rfl) ho) hm270 (sl' := [(127, .q a0_0 (Int.toNat s244.1 * 1)), (122, vi x260), (126, vi x263), (117, vi (w64 (s244.1 - 1))), (115, .v (.slice a0_0 s244.2.length c0_0)), (17, vi s244.1), (14, vi y242.1), (0, .v (.slice a0_0 s244.2.length c0_0)), (4, .v (.func (.func 35) #[] #[.pointer (some ⟨g4_0, 0, none⟩), .pointer (some ⟨g4_1, 0, none⟩), .pointer (some ⟨g4_2, 0, none⟩)]))]) (by kernel_rfl) ?_
                refine KG_eqE (sl' := [(127, .q a0_0 (Int.toNat s244.1 * 1)), (122, vi x260), (126, vi x263), (117, vi (w64 (s244.1 - 1))), (115, .v (.slice a0_0 l269.length c0_0)), (17, vi s244.1), (14, vi y242.1), (0, .v (.slice a0_0 l269.length c0_0)), (4, .v (.func (.func 35) #[] #[.pointer (some ⟨g4_0, 0, none⟩), .pointer (some ⟨g4_1, 0, none⟩), .pointer (some ⟨g4_2, 0, none⟩)]))]) (bx' := []) (by simp only [hl272]) rfl ?_
                refine gn hm [126, 117, 115, 17, 14, 0, 4] [] ?_
                refine ha1 16 ?_
                refine hi (fun γ0 δ hm => ?_)
                refine JG_index (by kernel_rfl) (d := a0_0) (m := l269.length) (j := (w64 (s244.1 - 1))) (s := 1) (by kernel_rfl) (fun w hs => (hs.view 0 rfl)) rfl hx274 rfl ?_
                refine gn hm [128, 126, 17, 14, 0, 4] [] ?_
                refine ha1 17 ?_
                refine hi (fun γ0 δ hm => ?_)
                refine JG_storeq (α := Int) (d := a0_0) (vs := [.int .i64 x263]) (j := (w64 (s244.1 - 1))) (x' := x263) (by kernel_rfl) 0 (by kernel_rfl) hx274 (Rc := []) (Rr := []) rfl (by kernel_rfl) (fun w c F Fs ho _ _ => own_flat_set (by kernel_rfl) ho) hm277 (sl' := [(128, .q a0_0 (Int.toNat (w64 (s244.1 - 1)) * 1)), (126, vi x263), (17, vi s244.1), (14, vi y242.1), (0, .v (.slice a0_0 l269.length c0_0)), (4, .v (.func (.func 35) #[] #[.pointer (some ⟨g4_0, 0, none⟩), .pointer (some ⟨g4_1, 0, none⟩), .pointer (some ⟨g4_2, 0, none⟩)]))]) (by kernel_rfl) ?_
                refine KG_eqE (sl' := [(128, .q a0_0 (Int.toNat (w64 (s244.1 - 1)) * 1)), (126, vi x263), (17, vi s244.1), (14, vi y242.1), (0, .v (.slice a0_0 l276.length c0_0)), (4, .v (.func (.func 35) #[] #[.pointer (some ⟨g4_0, 0, none⟩), .pointer (some ⟨g4_1, 0, none⟩), .pointer (some ⟨g4_2, 0, none⟩)]))]) (bx' := []) (by simp only [hl279]) rfl ?_
                refine gn hm [17, 14, 0, 4] [] ?_
                exact hd () [17, 14, 0, 4] [0] 0
          · refine hi (fun γ0 δ hm => ?_)
            refine JG_index (by kernel_rfl) (d := a0_0) (m := s244.2.length) (j := s244.1) (s := 1) (by kernel_rfl) (fun w hs => (hs.view 0 rfl)) rfl hx264 rfl ?_
            refine gn hm [125, 120, 118, 117, 115, 114, 113, 17, 14, 0, 4] [] ?_
            refine ha2 8 13 ?_ ?_
            · refine hi (fun γ0 δ hm => ?_)
              refine JG_index (by kernel_rfl) (d := a0_0) (m := s244.2.length) (j := (w64 (s244.1 - 1))) (s := 1) (by kernel_rfl) (fun w hs => (hs.view 0 rfl)) rfl hx261 rfl ?_
              refine gn hm [121, 125, 117, 115, 114, 113, 17, 14, 0, 4] [] ?_
              refine ha2 9 13 ?_ ?_
              · refine hi (fun γ0 δ hm => ?_)
                refine JG_loadq (by kernel_rfl) (t := 3) (d := a0_0) (Int.toNat (w64 (s244.1 - 1)) * 1) 0 (by kernel_rfl) (cs := [.int .i64 x260]) (v := .int .i64 x260) (fun w hs => (hs.view 0 rfl).flatq hx261) (by kernel_rfl) rfl ?_
                refine gn hm [122, 125, 117, 115, 114, 113, 17, 14, 0, 4] [] ?_
                refine ha1 13 ?_
                refine hi (fun γ0 δ hm => ?_)
                refine JG_loadq (by kernel_rfl) (t := 3) (d := a0_0) (Int.toNat s244.1 * 1) 0 (by kernel_rfl) (cs := [.int .i64 x263]) (v := .int .i64 x263) (fun w hs => (hs.view 0 rfl).flatq hx264) (by kernel_rfl) rfl ?_
                refine gn hm [126, 122, 117, 115, 114, 113, 17, 14, 0, 4] [] ?_
                refine ha1 14 ?_
                refine hi (fun γ0 δ hm => ?_)
                refine JG_index (by kernel_rfl) (d := a0_0) (m := s244.2.length) (j := s244.1) (s := 1) (by kernel_rfl) (fun w hs => (hs.view 0 rfl)) rfl hx267 rfl ?_
                refine gn hm [127, 126, 122, 117, 115, 17, 14, 0, 4] [] ?_
                refine ha1 15 ?_
                refine hi (fun γ0 δ hm => ?_)
                refine JG_storeq (α := Int) (d := a0_0) (vs := [.int .i64 x260]) (j := s244.1) (x' := x260) (by kernel_rfl) 0 (by kernel_rfl) hx267 (Rc := []) (Rr := []) rfl (by kernel_rfl) (fun w c F Fs ho _ _ => own_flat_set (by kernel_rfl) ho) hm270 (sl' := [(127, .q a0_0 (Int.toNat s244.1 * 1)), (126, vi x263), (122, vi x260), (117, vi (w64 (s244.1 - 1))), (115, .v (.slice a0_0 s244.2.length c0_0)), (17, vi s244.1), (14, vi y242.1), (0, .v (.slice a0_0 s244.2.length c0_0)), (4, .v (.func (.func 35) #[] #[.pointer (some ⟨g4_0, 0, none⟩), .pointer (some ⟨g4_1, 0, none⟩), .pointer (some ⟨g4_2, 0, none⟩)]))]) (by kernel_rfl) ?_
                refine KG_eqE (sl' := [(127, .q a0_0 (Int.toNat s244.1 * 1)), (126, vi x263), (122, vi x260), (117, vi (w64 (s244.1 - 1))), (115, .v (.slice a0_0 l269.length c0_0)), (17, vi s244.1), (14, vi y242.1), (0, .v (.slice a0_0 l269.length c0_0)), (4, .v (.func (.func 35) #[] #[.pointer (some ⟨g4_0, 0, none⟩), .pointer (some ⟨g4_1, 0, none⟩), .pointer (some ⟨g4_2, 0, none⟩)]))]) (bx' := []) (by simp only [hl272]) rfl ?_
                refine gn hm [126, 117, 115, 17, 14, 0, 4] [] ?_
                refine ha1 16 ?_
                refine hi (fun γ0 δ hm => ?_)
                refine JG_index (by kernel_rfl) (d := a0_0) (m := l269.length) (j := (w64 (s244.1 - 1))) (s := 1) (by kernel_rfl) (fun w hs => (hs.view 0 rfl)) rfl hx274 rfl ?_
                refine gn hm [128, 126, 17, 14, 0, 4] [] ?_
                refine ha1 17 ?_
                refine hi (fun γ0 δ hm => ?_)
                refine JG_storeq (α := Int) (d := a0_0) (vs := [.int .i64 x263]) (j := (w64 (s244.1 - 1))) (x' := x263) (by kernel_rfl) 0 (by kernel_rfl) hx274 (Rc := []) (Rr := []) rfl (by kernel_rfl) (fun w c F Fs ho _ _ => own_flat_set (by kernel_rfl) ho) hm277 (sl' := [(128, .q a0_0 (Int.toNat (w64 (s244.1 - 1)) * 1)), (126, vi x263), (17, vi s244.1), (14, vi y242.1), (0, .v (.slice a0_0 l269.length c0_0)), (4, .v (.func (.func 35) #[] #[.pointer (some ⟨g4_0, 0, none⟩), .pointer (some ⟨g4_1, 0, none⟩), .pointer (some ⟨g4_2, 0, none⟩)]))]) (by kernel_rfl) ?_
                refine KG_eqE (sl' := [(128, .q a0_0 (Int.toNat (w64 (s244.1 - 1)) * 1)), (126, vi x263), (17, vi s244.1), (14, vi y242.1), (0, .v (.slice a0_0 l276.length c0_0)), (4, .v (.func (.func 35) #[] #[.pointer (some ⟨g4_0, 0, none⟩), .pointer (some ⟨g4_1, 0, none⟩), .pointer (some ⟨g4_2, 0, none⟩)]))]) (bx' := []) (by simp only [hl279]) rfl ?_
                refine gn hm [17, 14, 0, 4] [] ?_
                exact hd () [17, 14, 0, 4] [0] 0
              · refine hi (fun γ0 δ hm => ?_)
                refine JG_loadq (by kernel_rfl) (t := 3) (d := a0_0) (Int.toNat s244.1 * 1) 0 (by kernel_rfl) (cs := [.int .i64 x263]) (v := .int .i64 x263) (fun w hs => (hs.view 0 rfl).flatq hx264) (by kernel_rfl) rfl ?_
                refine gn hm [126, 121, 117, 115, 114, 113, 17, 14, 0, 4] [] ?_
                refine ha1 9 ?_
                refine hi (fun γ0 δ hm => ?_)
                refine JG_loadq (by kernel_rfl) (t := 3) (d := a0_0) (Int.toNat (w64 (s244.1 - 1)) * 1) 0 (by kernel_rfl) (cs := [.int .i64 x260]) (v := .int .i64 x260) (fun w hs => (hs.view 0 rfl).flatq hx261) (by kernel_rfl) rfl ?_
                refine gn hm [122, 126, 117, 115, 114, 113, 17, 14, 0, 4] [] ?_
                refine ha1 14 ?_
                refine hi (fun γ0 δ hm => ?_)
                refine JG_index (by kernel_rfl) (d := a0_0) (m := s244.2.length) (j := s244.1) (s := 1) (by kernel_rfl) (fun w hs => (hs.view 0 rfl)) rfl hx267 rfl ?_
                refine gn hm [127, 122, 126, 117, 115, 17, 14, 0, 4] [] ?_
                refine ha1 15 ?_
                refine hi (fun γ0 δ hm => ?_)
                refine JG_storeq (α := Int) (d := a0_0) (vs := [.int .i64 x260]) (j := s244.1) (x' := x260) (by kernel_rfl) 0 (by kernel_rfl) hx267 (Rc := []) (Rr := []) rfl (by kernel_rfl) (fun w c F Fs ho _ _ => own_flat_set (by kernel_rfl) ho) hm270 (sl' := [(127, .q a0_0 (Int.toNat s244.1 * 1)), (122, vi x260), (126, vi x263), (117, vi (w64 (s244.1 - 1))), (115, .v (.slice a0_0 s244.2.length c0_0)), (17, vi s244.1), (14, vi y242.1), (0, .v (.slice a0_0 s244.2.length c0_0)), (4, .v (.func (.func 35) #[] #[.pointer (some ⟨g4_0, 0, none⟩), .pointer (some ⟨g4_1, 0, none⟩), .pointer (some ⟨g4_2, 0, none⟩)]))]) (by kernel_rfl) ?_
                refine KG_eqE (sl' := [(127, .q a0_0 (Int.toNat s244.1 * 1)), (122, vi x260), (126, vi x263), (117, vi (w64 (s244.1 - 1))), (115, .v (.slice a0_0 l269.length c0_0)), (17, vi s244.1), (14, vi y242.1), (0, .v (.slice a0_0 l269.length c0_0)), (4, .v (.func (.func 35) #[] #[.pointer (some ⟨g4_0, 0, none⟩), .pointer (some ⟨g4_1, 0, none⟩), .pointer (some ⟨g4_2, 0, none⟩)]))]) (bx' := []) (by simp only [hl272]) rfl ?_
                refine gn hm [126, 117, 115, 17, 14, 0, 4] [] ?_
                refine ha1 16 ?_
                refine hi (fun γ0 δ hm => ?_)
                refine JG_index (by kernel_rfl) (d := a0_0) (m := l269.length) (j := (w64 (s244.1 - 1))) (s := 1) (by kernel_rfl) (fun w hs => (hs.view 0 rfl)) rfl hx274 rfl ?_
                refine gn hm [128, 126, 17, 14, 0, 4] [] ?_
                refine ha1 17 ?_
                refine hi (fun γ0 δ hm => ?_)
                refine JG_storeq (α := Int) (d := a0_0) (vs := [.int .i64 x263]) (j := (w64 (s244.1 - 1))) (x' := x263) (by kernel_rfl) 0 (by kernel_rfl) hx274 (Rc := []) (Rr := []) rfl (by kernel_rfl) (fun w c F Fs ho _ _ => own_flat_set (by kernel_rfl) ho) hm277 (sl' := [(128, .q a0_0 (Int.toNat (w64 (s244.1 - 1)) * 1)), (126, vi x263), (17, vi s244.1), (14, vi y242.1), (0, .v (.slice a0_0 l269.length c0_0)), (4, .v (.func (.func 35) #[] #[.pointer (some ⟨g4_0, 0, none⟩), .pointer (some ⟨g4_1, 0, none⟩), .pointer (some ⟨g4_2, 0, none⟩)]))]) (by kernel_rfl) ?_
                refine KG_eqE (sl' := [(128, .q a0_0 (Int.toNat (w64 (s244.1 - 1)) * 1)), (126, vi x263), (17, vi s244.1), (14, vi y242.1), (0, .v (.slice a0_0 l276.length c0_0)), (4, .v (.func (.func 35) #[] #[.pointer (some ⟨g4_0, 0, none⟩), .pointer (some ⟨g4_1, 0, none⟩), .pointer (some ⟨g4_2, 0, none⟩)]))]) (bx' := []) (by simp only [hl279]) rfl ?_
                refine gn hm [17, 14, 0, 4] [] ?_
                exact hd () [17, 14, 0, 4] [0] 0
            · refine hi (fun γ0 δ hm => ?_)
              refine JG_loadq (by kernel_rfl) (t := 3) (d := a0_0) (Int.toNat s244.1 * 1) 0 (by kernel_rfl) (cs := [.int .i64 x263]) (v := .int .i64 x263) (fun w hs => (hs.view 0 rfl).flatq hx264) (by kernel_rfl) rfl ?_
              refine gn hm [126, 120, 118, 117, 115, 114, 113, 17, 14, 0, 4] [] ?_
              refine ha1 8 ?_
              refine hi (fun γ0 δ hm => ?_)
              refine JG_index (by kernel_rfl) (d := a0_0) (m := s244.2.length) (j := (w64 (s244.1 - 1))) (s := 1) (by kernel_rfl) (fun w hs => (hs.view 0 rfl)) rfl hx261 rfl ?_
              refine gn hm [121, 126, 117, 115, 114, 113, 17, 14, 0, 4] [] ?_
              refine ha1 9 ?_
              refine hi (fun γ0 δ hm => ?_)
              refine JG_loadq (by kernel_rfl) (t := 3) (d := a0_0) (Int.toNat (w64 (s244.1 - 1)) * 1) 0 (by kernel_rfl) (cs := [.int .i64 x260]) (v := .int .i64 x260) (fun w hs => (hs.view 0 rfl).flatq hx261) (by kernel_rfl) rfl ?_
              refine gn hm [122, 126, 117, 115, 114, 113, 17, 14, 0, 4] [] ?_
              refine ha1 14 ?_
              refine hi (fun γ0 δ hm => ?_)
              refine JG_index (by kernel_rfl) (d := a0_0) (m := s244.2.length) (j := s244.1) (s := 1) (by kernel_rfl) (fun w hs => (hs.view 0 rfl)) rfl hx267 rfl ?_
              refine gn hm [127, 122, 126, 117, 115, 17, 14, 0, 4] [] ?_
              refine ha1 15 ?_
              refine hi (fun γ0 δ hm => ?_)
              refine JG_storeq (α := Int) (d := a0_0) (vs := [.int .i64 x260]) (j := s244.1) (x' := x260) (by kernel_rfl) 0 (by kernel_rfl) hx267 (Rc := []) (Rr := []) rfl (by kernel_rfl) (fun w c F Fs ho _ _ => own_flat_set (by kernel_rfl) ho) hm270 (sl' := [(127, .q a0_0 (Int.toNat s244.1 * 1)), (122, vi x260), (126, vi x263), (117, vi (w64 (s244.1 - 1))), (115, .v (.slice a0_0 s244.2.length c0_0)), (17, vi s244.1), (14, vi y242.1), (0, .v (.slice a0_0 s244.2.length c0_0)), (4, .v (.func (.func 35) #[] #[.pointer (some ⟨g4_0, 0, none⟩), .pointer (some ⟨g4_1, 0, none⟩), .pointer (some ⟨g4_2, 0, none⟩)]))]) (by kernel_rfl) ?_
              refine KG_eqE (sl' := [(127, .q a0_0 (Int.toNat s244.1 * 1)), (122, vi x260), (126, vi x263), (117, vi (w64 (s244.1 - 1))), (115, .v (.slice a0_0 l269.length c0_0)), (17, vi s244.1), (14, vi y242.1), (0, .v (.slice a0_0 l269.length c0_0)), (4, .v (.func (.func 35) #[] #[.pointer (some ⟨g4_0, 0, none⟩), .pointer (some ⟨g4_1, 0, none⟩), .pointer (some ⟨g4_2, 0, none⟩)]))]) (bx' := []) (by simp only [hl272]) rfl ?_
              refine gn hm [126, 117, 115, 17, 14, 0, 4] [] ?_
              refine ha1 16 ?_
              refine hi (fun γ0 δ hm => ?_)
              refine JG_index (by kernel_rfl) (d := a0_0) (m := l269.length) (j := (w64 (s244.1 - 1))) (s := 1) (by kernel_rfl) (fun w hs => (hs.view 0 rfl)) rfl hx274 rfl ?_
              refine gn hm [128, 126, 17, 14, 0, 4] [] ?_
              refine ha1 17 ?_
              refine hi (fun γ0 δ hm => ?_)
              refine JG_storeq (α := Int) (d := a0_0) (vs := [.int .i64 x263]) (j := (w64 (s244.1 - 1))) (x' := x263) (by kernel_rfl) 0 (by kernel_rfl) hx274 (Rc := []) (Rr := []) rfl (by kernel_rfl) (fun w c F Fs ho _ _ => own_flat_set (by kernel_rfl) ho) hm277 (sl' := [(128, .q a0_0 (Int.toNat (w64 (s244.1 - 1)) * 1)), (126, vi x263), (17, vi s244.1), (14, vi y242.1), (0, .v (.slice a0_0 l269.length c0_0)), (4, .v (.func (.func 35) #[] #[.pointer (some ⟨g4_0, 0, none⟩), .pointer (some ⟨g4_1, 0, none⟩), .pointer (some ⟨g4_2, 0, none⟩)]))]) (by kernel_rfl) ?_
              refine KG_eqE (sl' := [(128, .q a0_0 (Int.toNat (w64 (s244.1 - 1)) * 1)), (126, vi x263), (17, vi s244.1), (14, vi y242.1), (0, .v (.slice a0_0 l276.length c0_0)), (4, .v (.func (.func 35) #[] #[.pointer (some ⟨g4_0, 0, none⟩), .pointer (some ⟨g4_1, 0, none⟩), .pointer (some ⟨g4_2, 0, none⟩)]))]) (bx' := []) (by simp only [hl279]) rfl ?_
              refine gn hm [17, 14, 0, 4] [] ?_
              exact hd () [17, 14, 0, 4] [0] 0
        refine bn (nt (qr (oN 3 [(17, vi (w64 (s244.1 - 1)))] [14, 0, 4] ?_)))
        exact oe (ct h278 () [17, 14, 0, 4] [0] 0)
      refine qx (nx (nx (bh ?_)))
      have h281 := leafB hd253 h259 h249
      exact mp (s244.2, ()) h281 [0, 4] [0] 0
    have h256 := (congrFun hk251 _).symm.trans h256p
    refine nt (qe (nr (rt [] (fun γ w hs => ?_))))
    rw [← sI h256]
    exact hs.turned (is := [0]) rfl
  refine qk (nt (qs (qr (oN 7 [(18, vi (w64 (Int.fdiv (wu64 (w64 (x1 + x3))) 2)))] [0, 1, 2, 3, 4] ?_))))
  refine oe (nt (qs (qr (oN 4 [(19, vi (w64 ((w64 (Int.fdiv (wu64 (w64 (x1 + x3))) 2)) + x2)))] [18, 0, 1, 2, 3, 4] ?_))))
  refine oe (nt (qs (qr (oN 2 [] [19, 18, 0, 1, 2, 3, 4] ?_))))
  refine oe (nt (qs (qs (qr (oN 3 [(140, vb (decide (x2 > (w64 (Int.fdiv (wu64 (w64 (x1 + x3))) 2)))))] [19, 18, 0, 1, 2, 3, 4] ?_)))))
  refine oe (nt ?_)
  obtain ⟨k302, hk303, h416⟩ := jS h230
  refine JC_cutP (τ := (Int × Int) × (Unit)) (fun y => k302 y.1 = some r) (fun y301 => [(19, vi (w64 ((w64 (Int.fdiv (wu64 (w64 (x1 + x3))) 2)) + x2))), (18, vi (w64 (Int.fdiv (wu64 (w64 (x1 + x3))) 2))), (0, .v (.slice a0_0 x0.length c0_0)), (1, vi x1), (2, vi x2), (3, vi x3), (4, .v (.func (.func 35) #[] #[.pointer (some ⟨g4_0, 0, none⟩), .pointer (some ⟨g4_1, 0, none⟩), .pointer (some ⟨g4_2, 0, none⟩)])), (21, vi y301.1.1), (20, vi y301.1.2)]) (fun y301 => []) (fun y301 => [SlRes e0_0 x0 a0_0 c0_0]) ?_ (fun y301 h304p => ?_)
  · refine cC h416 (fun h418 => ?_) (fun h419 => ?_)
    · refine qs (qr (oN 4 [(20, vi (w64 ((w64 ((w64 (Int.fdiv (wu64 (w64 (x1 + x3))) 2)) + x2)) - x3)))] [19, 18, 0, 1, 2, 3, 4] ?_))
      refine oe (nt (qr (oN 2 [(21, vi (w64 (Int.fdiv (wu64 (w64 (x1 + x3))) 2)))] [20, 19, 18, 0, 1, 2, 3, 4] ?_)))
      exact oe (mp ((w64 (Int.fdiv (wu64 (w64 (x1 + x3))) 2), w64 ((w64 ((w64 (Int.fdiv (wu64 (w64 (x1 + x3))) 2)) + x2)) - x3)), ()) h418 [19, 18, 0, 1, 2, 3, 4, 21, 20] [0] 0)
    refine qs (qr (oN 2 [(20, vi x1)] [19, 18, 0, 1, 2, 3, 4] ?_))
    refine oe (nt (qr (oN 2 [(21, vi x2)] [20, 19, 18, 0, 1, 2, 3, 4] ?_)))
    exact oe (mp ((x2, x1), ()) h419 [19, 18, 0, 1, 2, 3, 4, 21, 20] [0] 0)
  have h304 := (congrFun hk303 _).symm.trans h304p
  refine nt (qs (qr (oN 3 [(22, vi (w64 ((w64 ((w64 (Int.fdiv (wu64 (w64 (x1 + x3))) 2)) + x2)) - 1)))] [19, 18, 0, 1, 2, 3, 4, 21, 20] ?_)))
  refine oe (nt (qs ?_))
  obtain ⟨r308, hL309, h310⟩ := bS h304
  obtain ⟨k311, hk312, h310⟩ := brkS h310
  refine JC_cutP (τ := (Int) × (Unit)) (fun y => k311 y.1 = some r) (fun y316 => [(19, vi (w64 ((w64 (Int.fdiv (wu64 (w64 (x1 + x3))) 2)) + x2))), (18, vi (w64 (Int.fdiv (wu64 (w64 (x1 + x3))) 2))), (0, .v (.slice a0_0 x0.length c0_0)), (1, vi x1), (2, vi x2), (3, vi x3), (4, .v (.func (.func 35) #[] #[.pointer (some ⟨g4_0, 0, none⟩), .pointer (some ⟨g4_1, 0, none⟩), .pointer (some ⟨g4_2, 0, none⟩)])), (20, vi y316.1)]) (fun y316 => []) (fun y316 => [SlRes e0_0 x0 a0_0 c0_0]) ?_ (fun y316 h317p => ?_)
  · refine qb (lp Unit hL309 (fun s305 y306 => [(22, vi (w64 ((w64 ((w64 (Int.fdiv (wu64 (w64 (x1 + x3))) 2)) + x2)) - 1))), (19, vi (w64 ((w64 (Int.fdiv (wu64 (w64 (x1 + x3))) 2)) + x2))), (18, vi (w64 (Int.fdiv (wu64 (w64 (x1 + x3))) 2))), (0, .v (.slice a0_0 x0.length c0_0)), (1, vi x1), (2, vi x2), (3, vi x3), (4, .v (.func (.func 35) #[] #[.pointer (some ⟨g4_0, 0, none⟩), .pointer (some ⟨g4_1, 0, none⟩), .pointer (some ⟨g4_2, 0, none⟩)])), (21, vi s305.1), (20, vi s305.2)]) (fun s305 y306 => []) (fun s305 y306 => [SlRes e0_0 x0 a0_0 c0_0]) () [22, 19, 18, 0, 1, 2, 3, 4, 21, 20] [0] 0 (fun s305 y306 t307 h313 hd314 => ?_))
    refine qs (qs (qr (oN 3 [(151, vb (decide (s305.2 < s305.1)))] [22, 19, 18, 0, 1, 2, 3, 4, 21, 20] ?_)))
    refine oe (nt (cC h313 (fun h400 => ?_) (fun h401 => ?_)))
    · refine qk (nt (qb (qs (qr (oN 7 [(23, vi (w64 (Int.fdiv (wu64 (w64 (s305.2 + s305.1))) 2)))] [22, 19, 18, 0, 1, 2, 3, 4, 21, 20] ?_)))))
      refine oe (nt (qs (JC_quiet (by kernel_rfl) (by kernel_rfl) ?_)))
      refine qN 5 [(162, vi (w64 ((w64 ((w64 ((w64 (Int.fdiv (wu64 (w64 (x1 + x3))) 2)) + x2)) - 1)) - (w64 (Int.fdiv (wu64 (w64 (s305.2 + s305.1))) 2))))), (159, .v (.slice a0_0 x0.length c0_0)), (158, .v (.func (.func 35) #[] #[.pointer (some ⟨g4_0, 0, none⟩), .pointer (some ⟨g4_1, 0, none⟩), .pointer (some ⟨g4_2, 0, none⟩)]))] [23, 22, 19, 18, 0, 1, 2, 3, 4, 21, 20] ?_
      obtain ⟨x402, hx403, h404⟩ := bS h400
      refine qi 1 (fun γ w hs => (hs.view 0 rfl)) hx403 ?_
      refine ql 3 0 (.int .i64 x402) (fun γ w hs => (hs.view 0 rfl).flatq hx403) ?_
      refine qN 2 [(166, vi (w64 (Int.fdiv (wu64 (w64 (s305.2 + s305.1))) 2))), (165, .v (.slice a0_0 x0.length c0_0))] [164, 158, 23, 22, 19, 18, 0, 1, 2, 3, 4, 21, 20] ?_
      obtain ⟨x405, hx406, h407⟩ := bS h404
      refine qi 1 (fun γ w hs => (hs.view 0 rfl)) hx406 ?_
      refine ql 3 0 (.int .i64 x405) (fun γ w hs => (hs.view 0 rfl).flatq hx406) ?_
      obtain ⟨t408, h409, h410⟩ := bS h407
      refine q0 (fun γ w hs => hq w hs.kept _ _ _ h409) ?_
      refine qN 2 [(171, vb (!(decide (t408 < 0))))] [23, 22, 19, 18, 0, 1, 2, 3, 4, 21, 20] ?_
      refine qz (nt (cC h410 (fun h413 => ?_) (fun h414 => ?_)))
      · refine qr (oN 3 [(20, vi (w64 ((w64 (Int.fdiv (wu64 (w64 (s305.2 + s305.1))) 2)) + 1)))] [22, 19, 18, 0, 1, 2, 3, 4, 21] ?_)
        exact oe (bn (ct h413 () [22, 19, 18, 0, 1, 2, 3, 4, 21, 20] [0] 0))
      refine qr (oN 2 [(21, vi (w64 (Int.fdiv (wu64 (w64 (s305.2 + s305.1))) 2)))] [22, 19, 18, 0, 1, 2, 3, 4, 20] ?_)
      exact oe (bn (ct h414 () [22, 19, 18, 0, 1, 2, 3, 4, 21, 20] [0] 0))
    refine qx (nx (nx (bh ?_)))
    have h415 := leafB hd314 h401 h310
    exact mp (s305.2, ()) h415 [19, 18, 0, 1, 2, 3, 4, 20] [0] 0
  have h317 := (congrFun hk312 _).symm.trans h317p
  refine nt (qs (qr (oN 4 [(24, vi (w64 ((w64 ((w64 (Int.fdiv (wu64 (w64 (x1 + x3))) 2)) + x2)) - y316.1)))] [18, 0, 1, 2, 3, 4, 20] ?_)))
  refine oe (nt (qs (qs ?_)))
  obtain ⟨p318, hE319, h320⟩ := bS h317
  refine JC_cut (τ := Unit) (fun _ => [(0, .v (.slice a0_0 x0.length c0_0)), (1, vi x1), (2, vi x2), (3, vi x3), (4, .v (.func (.func 35) #[] #[.pointer (some ⟨g4_0, 0, none⟩), .pointer (some ⟨g4_1, 0, none⟩), .pointer (some ⟨g4_2, 0, none⟩)])), (18, vi (w64 (Int.fdiv (wu64 (w64 (x1 + x3))) 2))), (20, vi y316.1), (24, vi (w64 ((w64 ((w64 (Int.fdiv (wu64 (w64 (x1 + x3))) 2)) + x2)) - y316.1))), (185, vb p318)]) (fun _ => []) (fun _ => [SlRes e0_0 x0 a0_0 c0_0]) ?_ (fun _ => ?_)
  · refine qr (oN 4 [(181, vb (decide (y316.1 < x2)))] [24, 18, 0, 1, 2, 3, 4, 20] ?_)
    refine oS 181 hE319 (fun h322 => ?_) (fun h323 => ?_)
    · refine oN 4 [(185, vb (decide (x2 < (w64 ((w64 ((w64 (Int.fdiv (wu64 (w64 (x1 + x3))) 2)) + x2)) - y316.1)))))] [24, 18, 0, 1, 2, 3, 4, 20] ?_
      refine oe ?_
      obtain rfl := sI h322
      exact mt () [0, 1, 2, 3, 4, 18, 20, 24, 185] [0] 0
    refine oN 4 [(185, vb false)] [24, 18, 0, 1, 2, 3, 4, 20] ?_
    refine oe ?_
    obtain rfl := sI h323
    exact mt () [0, 1, 2, 3, 4, 18, 20, 24, 185] [0] 0
  refine nt ?_
  obtain ⟨k335, hk336, h387⟩ := jS h320
  refine JC_cutP (τ := ((List Int)) × (Unit)) (fun y => k335 y.1 = some r) (fun y334 => [(0, .v (.slice a0_0 y334.1.length c0_0)), (1, vi x1), (3, vi x3), (4, .v (.func (.func 35) #[] #[.pointer (some ⟨g4_0, 0, none⟩), .pointer (some ⟨g4_1, 0, none⟩), .pointer (some ⟨g4_2, 0, none⟩)])), (18, vi (w64 (Int.fdiv (wu64 (w64 (x1 + x3))) 2))), (20, vi y316.1), (24, vi (w64 ((w64 ((w64 (Int.fdiv (wu64 (w64 (x1 + x3))) 2)) + x2)) - y316.1)))]) (fun y334 => []) (fun y334 => [SlRes e0_0 y334.1 a0_0 c0_0]) ?_ (fun y334 h337p => ?_)
  · refine cC h387 (fun h389 => ?_) (fun h390 => ?_)
    · refine qr (oN 5 [(190, .v (.func (.func 35) #[] #[.pointer (some ⟨g4_0, 0, none⟩), .pointer (some ⟨g4_1, 0, none⟩), .pointer (some ⟨g4_2, 0, none⟩)])), (189, vi (w64 ((w64 ((w64 (Int.fdiv (wu64 (w64 (x1 + x3))) 2)) + x2)) - y316.1))), (188, vi x2), (187, vi y316.1), (186, .v (.slice a0_0 x0.length c0_0))] [0, 1, 3, 4, 18, 20, 24] ?_)
      obtain ⟨t391, h392, h393⟩ := bS h389
      obtain ⟨u395, hu396, h397⟩ := bS h393
      have hl398 := (sameLen_some hu396).symm
      refine JO_callMQ rfl (by kernel_rfl) (f := 45) (C := fun γ => (fun w => ∀ (q0 : Int) (q1 : Int) (r : Int), impl_Allocate_1 q0 q1 z4_0 z4_1 z4_2 = some r → Gives0 Try.prog 35 #[.int .i64 q0, .int .i64 q1, .pointer (some ⟨g4_0, 0, none⟩), .pointer (some ⟨g4_1, 0, none⟩), .pointer (some ⟨g4_2, 0, none⟩)] w (.int .i64 r))) (args := fun γ => #[.slice a0_0 x0.length c0_0, .int .i64 y316.1, .int .i64 x2, .int .i64 (w64 ((w64 ((w64 (Int.fdiv (wu64 (w64 (x1 + x3))) 2)) + x2)) - y316.1)), .func (.func 35) #[] #[.pointer (some ⟨g4_0, 0, none⟩), .pointer (some ⟨g4_1, 0, none⟩), .pointer (some ⟨g4_2, 0, none⟩)]]) (fun γ => by kernel_rfl) (x := .tuple #[]) (Rin := [SlRes e0_0 x0 a0_0 c0_0]) (Rout := [SlRes e0_0 t391 a0_0 c0_0]) (Rr := []) rfl (fun γ w hs => (by have vv := c_slices_rotateCmpFunc_int__impl_Allocate_1 (e0_0 := e0_0) (a0_0 := a0_0) (c0_0 := c0_0) (g4_0 := g4_0) (g4_1 := g4_1) (g4_2 := g4_2) (W := w) h392; exact vv)) (fun γ w hk hb => hq w hk) (sl' := [(191, .v (.tuple #[])), (190, .v (.func (.func 35) #[] #[.pointer (some ⟨g4_0, 0, none⟩), .pointer (some ⟨g4_1, 0, none⟩), .pointer (some ⟨g4_2, 0, none⟩)])), (189, vi (w64 ((w64 ((w64 (Int.fdiv (wu64 (w64 (x1 + x3))) 2)) + x2)) - y316.1))), (188, vi x2), (187, vi y316.1), (186, .v (.slice a0_0 x0.length c0_0)), (0, .v (.slice a0_0 x0.length c0_0)), (1, vi x1), (3, vi x3), (4, .v (.func (.func 35) #[] #[.pointer (some ⟨g4_0, 0, none⟩), .pointer (some ⟨g4_1, 0, none⟩), .pointer (some ⟨g4_2, 0, none⟩)])), (18, vi (w64 (Int.fdiv (wu64 (w64 (x1 + x3))) 2))), (20, vi y316.1), (24, vi (w64 ((w64 ((w64 (Int.fdiv (wu64 (w64 (x1 + x3))) 2)) + x2)) - y316.1)))]) (by kernel_rfl) ?_
      refine JO_eqE (sl' := [(191, .v (.tuple #[])), (190, .v (.func (.func 35) #[] #[.pointer (some ⟨g4_0, 0, none⟩), .pointer (some ⟨g4_1, 0, none⟩), .pointer (some ⟨g4_2, 0, none⟩)])), (189, vi (w64 ((w64 ((w64 (Int.fdiv (wu64 (w64 (x1 + x3))) 2)) + x2)) - y316.1))), (188, vi x2), (187, vi y316.1), (186, .v (.slice a0_0 t391.length c0_0)), (0, .v (.slice a0_0 t391.length c0_0)), (1, vi x1), (3, vi x3), (4, .v (.func (.func 35) #[] #[.pointer (some ⟨g4_0, 0, none⟩), .pointer (some ⟨g4_1, 0, none⟩), .pointer (some ⟨g4_2, 0, none⟩)])), (18, vi (w64 (Int.fdiv (wu64 (w64 (x1 + x3))) 2))), (20, vi y316.1), (24, vi (w64 ((w64 ((w64 (Int.fdiv (wu64 (w64 (x1 + x3))) 2)) + x2)) - y316.1)))]) (bx' := []) (by simp only [hl398]) rfl ?_
      exact oe (mp (t391, ()) h397 [0, 1, 3, 4, 18, 20, 24] [0] 0)
    exact qk (mp (x0, ()) h390 [0, 1, 3, 4, 18, 20, 24] [0] 0)
  have h337 := (congrFun hk336 _).symm.trans h337p
  refine nt (qs (qs ?_))
  obtain ⟨p338, hE339, h340⟩ := bS h337
  refine JC_cut (τ := Unit) (fun _ => [(0, .v (.slice a0_0 y334.1.length c0_0)), (1, vi x1), (3, vi x3), (4, .v (.func (.func 35) #[] #[.pointer (some ⟨g4_0, 0, none⟩), .pointer (some ⟨g4_1, 0, none⟩), .pointer (some ⟨g4_2, 0, none⟩)])), (18, vi (w64 (Int.fdiv (wu64 (w64 (x1 + x3))) 2))), (20, vi y316.1), (24, vi (w64 ((w64 ((w64 (Int.fdiv (wu64 (w64 (x1 + x3))) 2)) + x2)) - y316.1))), (199, vb p338)]) (fun _ => []) (fun _ => [SlRes e0_0 y334.1 a0_0 c0_0]) ?_ (fun _ => ?_)
  · refine qr (oN 4 [(195, vb (decide (x1 < y316.1)))] [0, 1, 3, 4, 18, 20, 24] ?_)
    refine oS 195 hE339 (fun h342 => ?_) (fun h343 => ?_)
    · refine oN 4 [(199, vb (decide (y316.1 < (w64 (Int.fdiv (wu64 (w64 (x1 + x3))) 2)))))] [0, 1, 3, 4, 18, 20, 24] ?_
      refine oe ?_
      obtain rfl := sI h342
      exact mt () [0, 1, 3, 4, 18, 20, 24, 199] [0] 0
    refine oN 4 [(199, vb false)] [0, 1, 3, 4, 18, 20, 24] ?_
    refine oe ?_
    obtain rfl := sI h343
    exact mt () [0, 1, 3, 4, 18, 20, 24, 199] [0] 0
  refine nt ?_
  obtain ⟨k355, hk356, h375⟩ := jS h340
  refine JC_cutP (τ := ((List Int)) × (Unit)) (fun y => k355 y.1 = some r) (fun y354 => [(0, .v (.slice a0_0 y354.1.length c0_0)), (3, vi x3), (4, .v (.func (.func 35) #[] #[.pointer (some ⟨g4_0, 0, none⟩), .pointer (some ⟨g4_1, 0, none⟩), .pointer (some ⟨g4_2, 0, none⟩)])), (18, vi (w64 (Int.fdiv (wu64 (w64 (x1 + x3))) 2))), (24, vi (w64 ((w64 ((w64 (Int.fdiv (wu64 (w64 (x1 + x3))) 2)) + x2)) - y316.1)))]) (fun y354 => []) (fun y354 => [SlRes e0_0 y354.1 a0_0 c0_0]) ?_ (fun y354 h357p => ?_)
  · refine cC h375 (fun h377 => ?_) (fun h378 => ?_)
    · refine qr (oN 5 [(204, .v (.func (.func 35) #[] #[.pointer (some ⟨g4_0, 0, none⟩), .pointer (some ⟨g4_1, 0, none⟩), .pointer (some ⟨g4_2, 0, none⟩)])), (203, vi (w64 (Int.fdiv (wu64 (w64 (x1 + x3))) 2))), (202, vi y316.1), (201, vi x1), (200, .v (.slice a0_0 y334.1.length c0_0))] [0, 3, 4, 18, 24] ?_)
      obtain ⟨t379, h380, h381⟩ := bS h377
      obtain ⟨u383, hu384, h385⟩ := bS h381
      have hl386 := (sameLen_some hu384).symm
      refine JO_callMQ rfl (by kernel_rfl) (f := 44) (C := fun γ => (fun w => ∀ (q0 : Int) (q1 : Int) (r : Int), impl_Allocate_1 q0 q1 z4_0 z4_1 z4_2 = some r → Gives0 Try.prog 35 #[.int .i64 q0, .int .i64 q1, .pointer (some ⟨g4_0, 0, none⟩), .pointer (some ⟨g4_1, 0, none⟩), .pointer (some ⟨g4_2, 0, none⟩)] w (.int .i64 r))) (args := fun γ => #[.slice a0_0 y334.1.length c0_0, .int .i64 x1, .int .i64 y316.1, .int .i64 (w64 (Int.fdiv (wu64 (w64 (x1 + x3))) 2)), .func (.func 35) #[] #[.pointer (some ⟨g4_0, 0, none⟩), .pointer (some ⟨g4_1, 0, none⟩), .pointer (some ⟨g4_2, 0, none⟩)]]) (fun γ => by kernel_rfl) (x := .tuple #[]) (Rin := [SlRes e0_0 y334.1 a0_0 c0_0]) (Rout := [SlRes e0_0 t379 a0_0 c0_0]) (Rr := []) rfl (fun γ w hs => (by have vv := ih (e0_0 := e0_0) (a0_0 := a0_0) (c0_0 := c0_0) (g4_0 := g4_0) (g4_1 := g4_1) (g4_2 := g4_2) (W := w) h380; exact vv)) (fun γ w hk hb => hq w hk) (sl' := [(205, .v (.tuple #[])), (204, .v (.func (.func 35) #[] #[.pointer (some ⟨g4_0, 0, none⟩), .pointer (some ⟨g4_1, 0, none⟩), .pointer (some ⟨g4_2, 0, none⟩)])), (203, vi (w64 (Int.fdiv (wu64 (w64 (x1 + x3))) 2))), (202, vi y316.1), (201, vi x1), (200, .v (.slice a0_0 y334.1.length c0_0)), (0, .v (.slice a0_0 y334.1.length c0_0)), (3, vi x3), (4, .v (.func (.func 35) #[] #[.pointer (some ⟨g4_0, 0, none⟩), .pointer (some ⟨g4_1, 0, none⟩), .pointer (some ⟨g4_2, 0, none⟩)])), (18, vi (w64 (Int.fdiv (wu64 (w64 (x1 + x3))) 2))), (24, vi (w64 ((w64 ((w64 (Int.fdiv (wu64 (w64 (x1 + x3))) 2)) + x2)) - y316.1)))]) (by kernel_rfl) ?_
      refine JO_eqE (sl' := [(205, .v (.tuple #[])), (204, .v (.func (.func 35) #[] #[.pointer (some ⟨g4_0, 0, none⟩), .pointer (some ⟨g4_1, 0, none⟩), .pointer (some ⟨g4_2, 0, none⟩)])), (203, vi (w64 (Int.fdiv (wu64 (w64 (x1 + x3))) 2))), (202, vi y316.1), (201, vi x1), (200, .v (.slice a0_0 t379.length c0_0)), (0, .v (.slice a0_0 t379.length c0_0)), (3, vi x3), (4, .v (.func (.func 35) #[] #[.pointer (some ⟨g4_0, 0, none⟩), .pointer (some ⟨g4_1, 0, none⟩), .pointer (some ⟨g4_2, 0, none⟩)])), (18, vi (w64 (Int.fdiv (wu64 (w64 (x1 + x3))) 2))), (24, vi (w64 ((w64 ((w64 (Int.fdiv (wu64 (w64 (x1 + x3))) 2)) + x2)) - y316.1)))]) (bx' := []) (by simp only [hl386]) rfl ?_
      exact oe (mp (t379, ()) h385 [0, 3, 4, 18, 24] [0] 0)
    exact qk (mp (y334.1, ()) h378 [0, 3, 4, 18, 24] [0] 0)
  have h357 := (congrFun hk356 _).symm.trans h357p
  refine nt (qs ?_)
  obtain ⟨p358, hE359, h360⟩ := bS h357
  refine JC_cut (τ := Unit) (fun _ => [(0, .v (.slice a0_0 y354.1.length c0_0)), (3, vi x3), (4, .v (.func (.func 35) #[] #[.pointer (some ⟨g4_0, 0, none⟩), .pointer (some ⟨g4_1, 0, none⟩), .pointer (some ⟨g4_2, 0, none⟩)])), (18, vi (w64 (Int.fdiv (wu64 (w64 (x1 + x3))) 2))), (24, vi (w64 ((w64 ((w64 (Int.fdiv (wu64 (w64 (x1 + x3))) 2)) + x2)) - y316.1))), (213, vb p358)]) (fun _ => []) (fun _ => [SlRes e0_0 y354.1 a0_0 c0_0]) ?_ (fun _ => ?_)
  · refine qr (oN 4 [(209, vb (decide ((w64 (Int.fdiv (wu64 (w64 (x1 + x3))) 2)) < (w64 ((w64 ((w64 (Int.fdiv (wu64 (w64 (x1 + x3))) 2)) + x2)) - y316.1)))))] [0, 3, 4, 18, 24] ?_)
    refine oS 209 hE359 (fun h362 => ?_) (fun h363 => ?_)
    · refine oN 4 [(213, vb (decide ((w64 ((w64 ((w64 (Int.fdiv (wu64 (w64 (x1 + x3))) 2)) + x2)) - y316.1)) < x3)))] [0, 3, 4, 18, 24] ?_
      refine oe ?_
      obtain rfl := sI h362
      exact mt () [0, 3, 4, 18, 24, 213] [0] 0
    refine oN 4 [(213, vb false)] [0, 3, 4, 18, 24] ?_
    refine oe ?_
    obtain rfl := sI h363
    exact mt () [0, 3, 4, 18, 24, 213] [0] 0
  refine nt (cC h360 (fun h365 => ?_) (fun h366 => ?_))
  · refine qr (oN 5 [(218, .v (.func (.func 35) #[] #[.pointer (some ⟨g4_0, 0, none⟩), .pointer (some ⟨g4_1, 0, none⟩), .pointer (some ⟨g4_2, 0, none⟩)])), (217, vi x3), (216, vi (w64 ((w64 ((w64 (Int.fdiv (wu64 (w64 (x1 + x3))) 2)) + x2)) - y316.1))), (215, vi (w64 (Int.fdiv (wu64 (w64 (x1 + x3))) 2))), (214, .v (.slice a0_0 y354.1.length c0_0))] [0, 4] ?_)
    obtain ⟨t367, h368, h369⟩ := bS h365
    obtain ⟨u371, hu372, h373⟩ := bS h369
    have hl374 := (sameLen_some hu372).symm
    refine JO_callMQ rfl (by kernel_rfl) (f := 44) (C := fun γ => (fun w => ∀ (q0 : Int) (q1 : Int) (r : Int), impl_Allocate_1 q0 q1 z4_0 z4_1 z4_2 = some r → Gives0 Try.prog 35 #[.int .i64 q0, .int .i64 q1, .pointer (some ⟨g4_0, 0, none⟩), .pointer (some ⟨g4_1, 0, none⟩), .pointer (some ⟨g4_2, 0, none⟩)] w (.int .i64 r))) (args := fun γ => #[.slice a0_0 y354.1.length c0_0, .int .i64 (w64 (Int.fdiv (wu64 (w64 (x1 + x3))) 2)), .int .i64 (w64 ((w64 ((w64 (Int.fdiv (wu64 (w64 (x1 + x3))) 2)) + x2)) - y316.1)), .int .i64 x3, .func (.func 35) #[] #[.pointer (some ⟨g4_0, 0, none⟩), .pointer (some ⟨g4_1, 0, none⟩), .pointer (some ⟨g4_2, 0, none⟩)]]) (fun γ => by kernel_rfl) (x := .tuple #[]) (Rin := [SlRes e0_0 y354.1 a0_0 c0_0]) (Rout := [SlRes e0_0 t367 a0_0 c0_0]) (Rr := []) rfl (fun γ w hs => (by have vv := ih (e0_0 := e0_0) (a0_0 := a0_0) (c0_0 := c0_0) (g4_0 := g4_0) (g4_1 := g4_1) (g4_2 := g4_2) (W := w) h368; exact vv)) (fun γ w hk hb => hq w hk) (sl' := [(219, .v (.tuple #[])), (218, .v (.func (.func 35) #[] #[.pointer (some ⟨g4_0, 0, none⟩), .pointer (some ⟨g4_1, 0, none⟩), .pointer (some ⟨g4_2, 0, none⟩)])), (217, vi x3), (216, vi (w64 ((w64 ((w64 (Int.fdiv (wu64 (w64 (x1 + x3))) 2)) + x2)) - y316.1))), (215, vi (w64 (Int.fdiv (wu64 (w64 (x1 + x3))) 2))), (214, .v (.slice a0_0 y354.1.length c0_0)), (0, .v (.slice a0_0 y354.1.length c0_0)), (4, .v (.func (.func 35) #[] #[.pointer (some ⟨g4_0, 0, none⟩), .pointer (some ⟨g4_1, 0, none⟩), .pointer (some ⟨g4_2, 0, none⟩)]))]) (by kernel_rfl) ?_
    refine JO_eqE (sl' := [(219, .v (.tuple #[])), (218, .v (.func (.func 35) #[] #[.pointer (some ⟨g4_0, 0, none⟩), .pointer (some ⟨g4_1, 0, none⟩), .pointer (some ⟨g4_2, 0, none⟩)])), (217, vi x3), (216, vi (w64 ((w64 ((w64 (Int.fdiv (wu64 (w64 (x1 + x3))) 2)) + x2)) - y316.1))), (215, vi (w64 (Int.fdiv (wu64 (w64 (x1 + x3))) 2))), (214, .v (.slice a0_0 t367.length c0_0)), (0, .v (.slice a0_0 t367.length c0_0)), (4, .v (.func (.func 35) #[] #[.pointer (some ⟨g4_0, 0, none⟩), .pointer (some ⟨g4_1, 0, none⟩), .pointer (some ⟨g4_2, 0, none⟩)]))]) (bx' := []) (by simp only [hl374]) rfl ?_
    refine oe (JE_fall (vs := []) (by kernel_rfl) (fun γ w hs => ?_))
    rw [← sI h373]
    exact hs.turned (is := [0]) rfl
  refine qk (JE_fall (vs := []) (by kernel_rfl) (fun γ w hs => ?_))
  rw [← sI h366]
  exact hs.turned (is := [0]) rfl

theorem c_slices_stableCmpFunc_int__impl_Allocate_1 {W : World} {x0 : List Int} {a0_0 : Option Addr} {c0_0 : Nat} {e0_0 : TypeId} {x1 : Int} {g2_0 : Nat} {z2_0 : Int} {g2_1 : Nat} {z2_1 : List Int} {g2_2 : Nat} {z2_2 : Int} {r : (List Int)} (h : slices_stableCmpFunc_int__impl_Allocate_1 x0 x1 z2_0 z2_1 z2_2 = some r)  :
    GivesMQ Try.prog (fun w => ∀ (q0 : Int) (q1 : Int) (r : Int), impl_Allocate_1 q0 q1 z2_0 z2_1 z2_2 = some r → Gives0 Try.prog 35 #[.int .i64 q0, .int .i64 q1, .pointer (some ⟨g2_0, 0, none⟩), .pointer (some ⟨g2_1, 0, none⟩), .pointer (some ⟨g2_2, 0, none⟩)] w (.int .i64 r)) 40 #[.slice a0_0 x0.length c0_0, .int .i64 x1, .func (.func 35) #[] #[.pointer (some ⟨g2_0, 0, none⟩), .pointer (some ⟨g2_1, 0, none⟩), .pointer (some ⟨g2_2, 0, none⟩)]] W [SlRes e0_0 x0 a0_0 c0_0] [SlRes e0_0 r a0_0 c0_0] (.tuple #[]) := by
 unfold slices_stableCmpFunc_int__impl_Allocate_1 at h
 refine enterMQ [.v (.slice a0_0 x0.length c0_0), vi x1, .v (.func (.func 35) #[] #[.pointer (some ⟨g2_0, 0, none⟩), .pointer (some ⟨g2_1, 0, none⟩), .pointer (some ⟨g2_2, 0, none⟩)])] (args := [.slice a0_0 x0.length c0_0, .int .i64 x1, .func (.func 35) #[] #[.pointer (some ⟨g2_0, 0, none⟩), .pointer (some ⟨g2_1, 0, none⟩), .pointer (some ⟨g2_2, 0, none⟩)]]) (by kernel_rfl) (by kernel_rfl) Try.func40 rfl Try.ntmps40 (by kernel_rfl) (fun Fs hq => ?_)
 refine qs (qr (oN 1 [(6, vi 20)] [0, 1, 2] ?_))
 refine oe (nt (qs (qr (oN 3 [(8, vi 20), (7, vi 0)] [6, 0, 1, 2] ?_))))
 refine oe (nt (qs ?_))
 obtain ⟨r24, hL25, h26⟩ := bS h
 obtain ⟨k27, hk28, h26⟩ := brkS h26
 refine JC_cutP (τ := (Int × Int × (List Int) × Int) × (Unit)) (fun y => k27 y.1 = some r) (fun y32 => [(7, vi y32.1.1), (6, vi y32.1.2.1), (0, .v (.slice a0_0 y32.1.2.2.1.length c0_0)), (1, vi y32.1.2.2.2), (2, .v (.func (.func 35) #[] #[.pointer (some ⟨g2_0, 0, none⟩), .pointer (some ⟨g2_1, 0, none⟩), .pointer (some ⟨g2_2, 0, none⟩)]))]) (fun y32 => []) (fun y32 => [SlRes e0_0 y32.1.2.2.1 a0_0 c0_0]) ?_ (fun y32 h33p => ?_)
 · refine qb (lp Unit hL25 (fun s21 y22 => [(8, vi s21.1), (7, vi s21.2.1), (6, vi 20), (0, .v (.slice a0_0 s21.2.2.length c0_0)), (1, vi x1), (2, .v (.func (.func 35) #[] #[.pointer (some ⟨g2_0, 0, none⟩), .pointer (some ⟨g2_1, 0, none⟩), .pointer (some ⟨g2_2, 0, none⟩)]))]) (fun s21 y22 => []) (fun s21 y22 => [SlRes e0_0 s21.2.2 a0_0 c0_0]) () [8, 7, 6, 0, 1, 2] [0] 0 (fun s21 y22 t23 h29 hd30 => ?_))
   refine qs (qs (qr (oN 3 [(13, vb (decide (s21.1 ≤ x1)))] [8, 7, 6, 0, 1, 2] ?_)))
   refine oe (nt (cC h29 (fun h111 => ?_) (fun h112 => ?_)))
   · refine qk (nt (qb (qs (qr (oN 4 [(17, .v (.func (.func 35) #[] #[.pointer (some ⟨g2_0, 0, none⟩), .pointer (some ⟨g2_1, 0, none⟩), .pointer (some ⟨g2_2, 0, none⟩)])), (16, vi s21.1), (15, vi s21.2.1), (14, .v (.slice a0_0 s21.2.2.length c0_0))] [8, 6, 0, 1, 2] ?_)))))
     obtain ⟨t113, h114, h115⟩ := bS h111
     obtain ⟨u117, hu118, h119⟩ := bS h115
     have hl120 := (sameLen_some hu118).symm
     refine JO_callMQ rfl (by kernel_rfl) (f := 43) (C := fun γ => (fun w => ∀ (q0 : Int) (q1 : Int) (r : Int), impl_Allocate_1 q0 q1 z2_0 z2_1 z2_2 = some r → Gives0 Try.prog 35 #[.int .i64 q0, .int .i64 q1, .pointer (some ⟨g2_0, 0, none⟩), .pointer (some ⟨g2_1, 0, none⟩), .pointer (some ⟨g2_2, 0, none⟩)] w (.int .i64 r))) (args := fun γ => #[.slice a0_0 s21.2.2.length c0_0, .int .i64 s21.2.1, .int .i64 s21.1, .func (.func 35) #[] #[.pointer (some ⟨g2_0, 0, none⟩), .pointer (some ⟨g2_1, 0, none⟩), .pointer (some ⟨g2_2, 0, none⟩)]]) (fun γ => by kernel_rfl) (x := .tuple #[]) (Rin := [SlRes e0_0 s21.2.2 a0_0 c0_0]) (Rout := [SlRes e0_0 t113 a0_0 c0_0]) (Rr := []) rfl (fun γ w hs => (by have vv := c_slices_insertionSortCmpFunc_int__impl_Allocate_1 (e0_0 := e0_0) (a0_0 := a0_0) (c0_0 := c0_0) (g3_0 := g2_0) (g3_1 := g2_1) (g3_2 := g2_2) (W := w) h114; exact vv)) (fun γ w hk hb => hq w hk) (sl' := [(18, .v (.tuple #[])), (17, .v (.func (.func 35) #[] #[.pointer (some ⟨g2_0, 0, none⟩), .pointer (some ⟨g2_1, 0, none⟩), .pointer (some ⟨g2_2, 0, none⟩)])), (16, vi s21.1), (15, vi s21.2.1), (14, .v (.slice a0_0 s21.2.2.length c0_0)), (8, vi s21.1), (6, vi 20), (0, .v (.slice a0_0 s21.2.2.length c0_0)), (1, vi x1), (2, .v (.func (.func 35) #[] #[.pointer (some ⟨g2_0, 0, none⟩), .pointer (some ⟨g2_1, 0, none⟩), .pointer (some ⟨g2_2, 0, none⟩)]))]) (by kernel_rfl) ?_
     refine JO_eqE (sl' := [(18, .v (.tuple #[])), (17, .v (.func (.func 35) #[] #[.pointer (some ⟨g2_0, 0, none⟩), .pointer (some ⟨g2_1, 0, none⟩), .pointer (some ⟨g2_2, 0, none⟩)])), (16, vi s21.1), (15, vi s21.2.1), (14, .v (.slice a0_0 t113.length c0_0)), (8, vi s21.1), (6, vi 20), (0, .v (.slice a0_0 t113.length c0_0)), (1, vi x1), (2, .v (.func (.func 35) #[] #[.pointer (some ⟨g2_0, 0, none⟩), .pointer (some ⟨g2_1, 0, none⟩), .pointer (some ⟨g2_2, 0, none⟩)]))]) (bx' := []) (by simp only [hl120]) rfl ?_
     refine oe (nt (qs (qr (oN 2 [(7, vi s21.1)] [8, 6, 0, 1, 2] ?_))))
     refine oe (nt (qr (oN 4 [(8, vi (w64 (s21.1 + 20)))] [7, 6, 0, 1, 2] ?_)))
     exact oe (bn (ct h119 () [8, 7, 6, 0, 1, 2] [0] 0))
   refine qx (nx (nx (bh ?_)))
   have h121 := leafB hd30 h112 h26
   exact mp ((s21.2.1, 20, s21.2.2, x1), ()) h121 [7, 6, 0, 1, 2] [0] 0
 have h33 := (congrFun hk28 _).symm.trans h33p
 refine nt (qs (qr (oN 4 [(26, .v (.func (.func 35) #[] #[.pointer (some ⟨g2_0, 0, none⟩), .pointer (some ⟨g2_1, 0, none⟩), .pointer (some ⟨g2_2, 0, none⟩)])), (25, vi y32.1.2.2.2), (24, vi y32.1.1), (23, .v (.slice a0_0 y32.1.2.2.1.length c0_0))] [6, 0, 1, 2] ?_)))
 obtain ⟨t34, h35, h36⟩ := bS h33
 obtain ⟨u38, hu39, h40⟩ := bS h36
 have hl41 := (sameLen_some hu39).symm
 refine JO_callMQ rfl (by kernel_rfl) (f := 43) (C := fun γ => (fun w => ∀ (q0 : Int) (q1 : Int) (r : Int), impl_Allocate_1 q0 q1 z2_0 z2_1 z2_2 = some r → Gives0 Try.prog 35 #[.int .i64 q0, .int .i64 q1, .pointer (some ⟨g2_0, 0, none⟩), .pointer (some ⟨g2_1, 0, none⟩), .pointer (some ⟨g2_2, 0, none⟩)] w (.int .i64 r))) (args := fun γ => #[.slice a0_0 y32.1.2.2.1.length c0_0, .int .i64 y32.1.1, .int .i64 y32.1.2.2.2, .func (.func 35) #[] #[.pointer (some ⟨g2_0, 0, none⟩), .pointer (some ⟨g2_1, 0, none⟩), .pointer (some ⟨g2_2, 0, none⟩)]]) (fun γ => by kernel_rfl) (x := .tuple #[]) (Rin := [SlRes e0_0 y32.1.2.2.1 a0_0 c0_0]) (Rout := [SlRes e0_0 t34 a0_0 c0_0]) (Rr := []) rfl (fun γ w hs => (by have vv := c_slices_insertionSortCmpFunc_int__impl_Allocate_1 (e0_0 := e0_0) (a0_0 := a0_0) (c0_0 := c0_0) (g3_0 := g2_0) (g3_1 := g2_1) (g3_2 := g2_2) (W := w) h35; exact vv)) (fun γ w hk hb => hq w hk) (sl' := [(27, .v (.tuple #[])), (26, .v (.func (.func 35) #[] #[.pointer (some ⟨g2_0, 0, none⟩), .pointer (some ⟨g2_1, 0, none⟩), .pointer (some ⟨g2_2, 0, none⟩)])), (25, vi y32.1.2.2.2), (24, vi y32.1.1), (23, .v (.slice a0_0 y32.1.2.2.1.length c0_0)), (6, vi y32.1.2.1), (0, .v (.slice a0_0 y32.1.2.2.1.length c0_0)), (1, vi y32.1.2.2.2), (2, .v (.func (.func 35) #[] #[.pointer (some ⟨g2_0, 0, none⟩), .pointer (some ⟨g2_1, 0, none⟩), .pointer (some ⟨g2_2, 0, none⟩)]))]) (by kernel_rfl) ?_
 refine JO_eqE (sl' := [(27, .v (.tuple #[])), (26, .v (.func (.func 35) #[] #[.pointer (some ⟨g2_0, 0, none⟩), .pointer (some ⟨g2_1, 0, none⟩), .pointer (some ⟨g2_2, 0, none⟩)])), (25, vi y32.1.2.2.2), (24, vi y32.1.1), (23, .v (.slice a0_0 t34.length c0_0)), (6, vi y32.1.2.1), (0, .v (.slice a0_0 t34.length c0_0)), (1, vi y32.1.2.2.2), (2, .v (.func (.func 35) #[] #[.pointer (some ⟨g2_0, 0, none⟩), .pointer (some ⟨g2_1, 0, none⟩), .pointer (some ⟨g2_2, 0, none⟩)]))]) (bx' := []) (by simp only [hl41]) rfl ?_
 refine oe (nt ?_)
 obtain ⟨r45, hL46, h47⟩ := bS h40
 obtain ⟨k48, hk49, h47⟩ := brkS h47
 refine JC_cutP (τ := ((List Int)) × (Unit)) (fun y => k48 y.1 = some r) (fun y53 => [(0, .v (.slice a0_0 y53.1.length c0_0)), (2, .v (.func (.func 35) #[] #[.pointer (some ⟨g2_0, 0, none⟩), .pointer (some ⟨g2_1, 0, none⟩), .pointer (some ⟨g2_2, 0, none⟩)]))]) (fun y53 => []) (fun y53 => [SlRes e0_0 y53.1 a0_0 c0_0]) ?_ (fun y53 h54p => ?_)
 · refine qb (lp Unit hL46 (fun s42 y43 => [(6, vi s42.1), (0, .v (.slice a0_0 s42.2.1.length c0_0)), (1, vi s42.2.2), (2, .v (.func (.func 35) #[] #[.pointer (some ⟨g2_0, 0, none⟩), .pointer (some ⟨g2_1, 0, none⟩), .pointer (some ⟨g2_2, 0, none⟩)]))]) (fun s42 y43 => []) (fun s42 y43 => [SlRes e0_0 s42.2.1 a0_0 c0_0]) () [6, 0, 1, 2] [0] 0 (fun s42 y43 t44 h50 hd51 => ?_))
   refine qs (qs (qr (oN 3 [(30, vb (decide (s42.1 < s42.2.2)))] [6, 0, 1, 2] ?_)))
   refine oe (nt (cC h50 (fun h56 => ?_) (fun h57 => ?_)))
   · refine qk (nt (qb (qs (qr (oN 4 [(8, vi (w64 (2 * s42.1))), (7, vi 0)] [6, 0, 1, 2] ?_)))))
     refine oe (nt (qs ?_))
     obtain ⟨r61, hL62, h63⟩ := bS h56
     obtain ⟨k64, hk65, h63⟩ := brkS h63
     refine JC_cutP (τ := (Int × Int × (List Int) × Int) × (Unit)) (fun y => k64 y.1 = some t44) (fun y69 => [(7, vi y69.1.1), (6, vi y69.1.2.1), (0, .v (.slice a0_0 y69.1.2.2.1.length c0_0)), (1, vi y69.1.2.2.2), (2, .v (.func (.func 35) #[] #[.pointer (some ⟨g2_0, 0, none⟩), .pointer (some ⟨g2_1, 0, none⟩), .pointer (some ⟨g2_2, 0, none⟩)]))]) (fun y69 => []) (fun y69 => [SlRes e0_0 y69.1.2.2.1 a0_0 c0_0]) ?_ (fun y69 h70p => ?_)
     · refine qb (lp Unit hL62 (fun s58 y59 => [(8, vi s58.1), (7, vi s58.2.1), (6, vi s42.1), (0, .v (.slice a0_0 s58.2.2.length c0_0)), (1, vi s42.2.2), (2, .v (.func (.func 35) #[] #[.pointer (some ⟨g2_0, 0, none⟩), .pointer (some ⟨g2_1, 0, none⟩), .pointer (some ⟨g2_2, 0, none⟩)]))]) (fun s58 y59 => []) (fun s58 y59 => [SlRes e0_0 s58.2.2 a0_0 c0_0]) () [8, 7, 6, 0, 1, 2] [0] 0 (fun s58 y59 t60 h66 hd67 => ?_))
       refine qs (qs (qr (oN 3 [(35, vb (decide (s58.1 ≤ s42.2.2)))] [8, 7, 6, 0, 1, 2] ?_)))
       refine oe (nt (cC h66 (fun h98 => ?_) (fun h99 => ?_)))
       · refine qk (nt (qb (qs (qr (oN 7 [(42, .v (.func (.func 35) #[] #[.pointer (some ⟨g2_0, 0, none⟩), .pointer (some ⟨g2_1, 0, none⟩), .pointer (some ⟨g2_2, 0, none⟩)])), (41, vi s58.1), (40, vi (w64 (s58.2.1 + s42.1))), (37, vi s58.2.1), (36, .v (.slice a0_0 s58.2.2.length c0_0))] [8, 6, 0, 1, 2] ?_)))))
         obtain ⟨t100, h101, h102⟩ := bS h98
         obtain ⟨u104, hu105, h106⟩ := bS h102
         have hl107 := (sameLen_some hu105).symm
         refine JO_callMQ rfl (by kernel_rfl) (f := 44) (C := fun γ => (fun w => ∀ (q0 : Int) (q1 : Int) (r : Int), impl_Allocate_1 q0 q1 z2_0 z2_1 z2_2 = some r → Gives0 Try.prog 35 #[.int .i64 q0, .int .i64 q1, .pointer (some ⟨g2_0, 0, none⟩), .pointer (some ⟨g2_1, 0, none⟩), .pointer (some ⟨g2_2, 0, none⟩)] w (.int .i64 r))) (args := fun γ => #[.slice a0_0 s58.2.2.length c0_0, .int .i64 s58.2.1, .int .i64 (w64 (s58.2.1 + s42.1)), .int .i64 s58.1, .func (.func 35) #[] #[.pointer (some ⟨g2_0, 0, none⟩), .pointer (some ⟨g2_1, 0, none⟩), .pointer (some ⟨g2_2, 0, none⟩)]]) (fun γ => by kernel_rfl) (x := .tuple #[]) (Rin := [SlRes e0_0 s58.2.2 a0_0 c0_0]) (Rout := [SlRes e0_0 t100 a0_0 c0_0]) (Rr := []) rfl (fun γ w hs => (by have vv := c_slices_symMergeCmpFunc_int__impl_Allocate_1 64 (e0_0 := e0_0) (a0_0 := a0_0) (c0_0 := c0_0) (g4_0 := g2_0) (g4_1 := g2_1) (g4_2 := g2_2) (W := w) h101; exact vv)) (fun γ w hk hb => hq w hk) (sl' := [(43, .v (.tuple #[])), (42, .v (.func (.func 35) #[] #[.pointer (some ⟨g2_0, 0, none⟩), .pointer (some ⟨g2_1, 0, none⟩), .pointer (some ⟨g2_2, 0, none⟩)])), (41, vi s58.1), (40, vi (w64 (s58.2.1 + s42.1))), (37, vi s58.2.1), (36, .v (.slice a0_0 s58.2.2.length c0_0)), (8, vi s58.1), (6, vi s42.1), (0, .v (.slice a0_0 s58.2.2.length c0_0)), (1, vi s42.2.2), (2, .v (.func (.func 35) #[] #[.pointer (some ⟨g2_0, 0, none⟩), .pointer (some ⟨g2_1, 0, none⟩), .pointer (some ⟨g2_2, 0, none⟩)]))]) (by kernel_rfl) ?_
         refine JO_eqE (sl' := [(43, .v (.tuple #[])), (42, .v (.func (.func 35) #[] #[.pointer (some ⟨g2_0, 0, none⟩), .pointer (some ⟨g2_1, 0, none⟩), .pointer (some ⟨g2_2, 0, none⟩)])), (41, vi s58.1), (40, vi (w64 (s58.2.1 + s42.1))), (37, vi s58.2.1), (36, .v (.slice a0_0 t100.length c0_0)), (8, vi s58.1), (6, vi s42.1), (0, .v (.slice a0_0 t100.length c0_0)), (1, vi s42.2.2), (2, .v (.func (.func 35) #[] #[.pointer (some ⟨g2_0, 0, none⟩), .pointer (some ⟨g2_1, 0, none⟩), .pointer (some ⟨g2_2, 0, none⟩)]))]) (bx' := []) (by simp only [hl107]) rfl ?_
         refine oe (nt (qs (qr (oN 2 [(7, vi s58.1)] [8, 6, 0, 1, 2] ?_))))
         refine oe (nt (qr (oN 5 [(8, vi (w64 (s58.1 + (w64 (2 * s42.1)))))] [7, 6, 0, 1, 2] ?_)))
         exact oe (bn (ct h106 () [8, 7, 6, 0, 1, 2] [0] 0))
       refine qx (nx (nx (bh ?_)))
       have h108 := leafB hd67 h99 h63
       exact mp ((s58.2.1, s42.1, s58.2.2, s42.2.2), ()) h108 [7, 6, 0, 1, 2] [0] 0
     have h70 := (congrFun hk65 _).symm.trans h70p
     refine nt (qs (qs (qr (oN 4 [(9, vi (w64 (y69.1.1 + y69.1.2.1)))] [7, 6, 0, 1, 2] ?_))))
     refine oe (nt (qs (qr (oN 3 [(54, vb (decide ((w64 (y69.1.1 + y69.1.2.1)) < y69.1.2.2.2)))] [9, 7, 6, 0, 1, 2] ?_))))
     refine oe (nt ?_)
     obtain ⟨k82, hk83, h85⟩ := jS h70
     refine JC_cutP (τ := ((List Int)) × (Unit)) (fun y => k82 y.1 = some t44) (fun y81 => [(6, vi y69.1.2.1), (0, .v (.slice a0_0 y81.1.length c0_0)), (1, vi y69.1.2.2.2), (2, .v (.func (.func 35) #[] #[.pointer (some ⟨g2_0, 0, none⟩), .pointer (some ⟨g2_1, 0, none⟩), .pointer (some ⟨g2_2, 0, none⟩)]))]) (fun y81 => []) (fun y81 => [SlRes e0_0 y81.1 a0_0 c0_0]) ?_ (fun y81 h84p => ?_)
     · refine cC h85 (fun h87 => ?_) (fun h88 => ?_)
       · refine qr (oN 5 [(59, .v (.func (.func 35) #[] #[.pointer (some ⟨g2_0, 0, none⟩), .pointer (some ⟨g2_1, 0, none⟩), .pointer (some ⟨g2_2, 0, none⟩)])), (58, vi y69.1.2.2.2), (57, vi (w64 (y69.1.1 + y69.1.2.1))), (56, vi y69.1.1), (55, .v (.slice a0_0 y69.1.2.2.1.length c0_0))] [6, 0, 1, 2] ?_)
         obtain ⟨t89, h90, h91⟩ := bS h87
         obtain ⟨u93, hu94, h95⟩ := bS h91
         have hl96 := (sameLen_some hu94).symm
         refine JO_callMQ rfl (by kernel_rfl) (f := 44) (C := fun γ => (fun w => ∀ (q0 : Int) (q1 : Int) (r : Int), impl_Allocate_1 q0 q1 z2_0 z2_1 z2_2 = some r → Gives0 Try.prog 35 #[.int .i64 q0, .int .i64 q1, .pointer (some ⟨g2_0, 0, none⟩), .pointer (some ⟨g2_1, 0, none⟩), .pointer (some ⟨g2_2, 0, none⟩)] w (.int .i64 r))) (args := fun γ => #[.slice a0_0 y69.1.2.2.1.length c0_0, .int .i64 y69.1.1, .int .i64 (w64 (y69.1.1 + y69.1.2.1)), .int .i64 y69.1.2.2.2, .func (.func 35) #[] #[.pointer (some ⟨g2_0, 0, none⟩), .pointer (some ⟨g2_1, 0, none⟩), .pointer (some ⟨g2_2, 0, none⟩)]]) (fun γ => by kernel_rfl) (x := .tuple #[]) (Rin := [SlRes e0_0 y69.1.2.2.1 a0_0 c0_0]) (Rout := [SlRes e0_0 t89 a0_0 c0_0]) (Rr := []) rfl (fun γ w hs => (by have vv := c_slices_symMergeCmpFunc_int__impl_Allocate_1 64 (e0_0 := e0_0) (a0_0 := a0_0) (c0_0 := c0_0) (g4_0 := g2_0) (g4_1 := g2_1) (g4_2 := g2_2) (W := w) h90; exact vv)) (fun γ w hk hb => hq w hk) (sl' := [(60, .v (.tuple #[])), (59, .v (.func (.func 35) #[] #[.pointer (some ⟨g2_0, 0, none⟩), .pointer (some ⟨g2_1, 0, none⟩), .pointer (some ⟨g2_2, 0, none⟩)])), (58, vi y69.1.2.2.2), (57, vi (w64 (y69.1.1 + y69.1.2.1))), (56, vi y69.1.1), (55, .v (.slice a0_0 y69.1.2.2.1.length c0_0)), (6, vi y69.1.2.1), (0, .v (.slice a0_0 y69.1.2.2.1.length c0_0)), (1, vi y69.1.2.2.2), (2, .v (.func (.func 35) #[] #[.pointer (some ⟨g2_0, 0, none⟩), .pointer (some ⟨g2_1, 0, none⟩), .pointer (some ⟨g2_2, 0, none⟩)]))]) (by kernel_rfl) ?_
         refine JO_eqE (sl' := [(60, .v (.tuple #[])), (59, .v (.func (.func 35) #[] #[.pointer (some ⟨g2_0, 0, none⟩), .pointer (some ⟨g2_1, 0, none⟩), .pointer (some ⟨g2_2, 0, none⟩)])), (58, vi y69.1.2.2.2), (57, vi (w64 (y69.1.1 + y69.1.2.1))), (56, vi y69.1.1), (55, .v (.slice a0_0 t89.length c0_0)), (6, vi y69.1.2.1), (0, .v (.slice a0_0 t89.length c0_0)), (1, vi y69.1.2.2.2), (2, .v (.func (.func 35) #[] #[.pointer (some ⟨g2_0, 0, none⟩), .pointer (some ⟨g2_1, 0, none⟩), .pointer (some ⟨g2_2, 0, none⟩)]))]) (bx' := []) (by simp only [hl96]) rfl ?_
         exact oe (mp (t89, ()) h95 [6, 0, 1, 2] [0] 0)
       exact qk (mp (y69.1.2.2.1, ()) h88 [6, 0, 1, 2] [0] 0)
     have h84 := (congrFun hk83 _).symm.trans h84p
     refine nt (qr (oN 3 [(6, vi (w64 (y69.1.2.1 * 2)))] [0, 1, 2] ?_))
     exact oe (bn (ct h84 () [6, 0, 1, 2] [0] 0))
   refine qx (nx (nx (bh ?_)))
   have h109 := leafB hd51 h57 h47
   exact mp (s42.2.1, ()) h109 [0, 2] [0] 0
 have h54 := (congrFun hk49 _).symm.trans h54p
 refine JE_fall (vs := []) (by kernel_rfl) (fun γ w hs => ?_)
 rw [← sI h54]
 exact hs.turned (is := [0]) rfl
end Go.Pen
