/-
  Each Go function does what its plain function says: written by a program of ours.
-/
import Derived.Test.YtgdhafgblfapiaaF
import Derived.Test.YtgdhafgblfapiaaProg
import Derived.Test.YtgdhafgblfapiaaPenK
import Derived.Test.YtgdhafgblfapiaaPenT
namespace Go.Pen
open Go.Proofs Go.RowKit
set_option linter.unusedVariables false
set_option linter.unusedSimpArgs false
set_option maxRecDepth 100000
set_option maxHeartbeats 4000000

theorem c_laws_szStringS {W : World} {x0 : List ByteArray} {a0_0 : Option Addr} {c0_0 : Nat} {x1 : Int} {r : Int} (h : laws_szStringS x0 x1 = some r) (hv0_0 : SlView W x0 a0_0 c0_0) :
    Gives0 Try.prog 12 #[.slice a0_0 x0.length c0_0, .int .i64 x1] W (.int .i64 r) := by
 unfold laws_szStringS at h
 refine en Try.func12 Try.ntmps12 ?_
 refine qs (qr (oN 1 [] [0, 1] ?_))
 refine oe (nt (qs (qr (oN 5 [(1, vi (w64 (x1 - (x0.length : Int))))] [0] ?_))))
 refine oe (nt (qs (qs (qr (oN 2 [(11, vb (decide ((w64 (x1 - (x0.length : Int))) < 0)))] [1, 0] ?_)))))
 refine oe (nt (cC h (fun h22 => ?_) (fun h23 => ?_)))
 · refine qs (qr (oN 1 [(4, vi (-1))] [] ?_))
   refine oe (nt (qe (nr ?_)))
   obtain rfl := sI h22
   exact re [.int .i64 (-1)]
 refine qk (nt (qs (qs (qr (oN 1 [(5, vi 0)] [1, 0] ?_)))))
 refine oe (nt ?_)
 obtain ⟨r27, hL28, h29⟩ := bS h23
 obtain ⟨k30, hk31, h29⟩ := brkS h29
 refine JC_cutP (τ := (Int) × (Unit)) (fun y => k30 y.1 = some r) (fun y35 => [(1, vi y35.1)]) (fun y35 => []) (fun y35 => []) ?_ (fun y35 h36p => ?_)
 · refine qb (lp Unit hL28 (fun s24 y25 => [(5, vi s24.1), (1, vi s24.2), (0, .v (.slice a0_0 x0.length c0_0))]) (fun s24 y25 => []) (fun s24 y25 => []) () [5, 1, 0] [] 0 (fun s24 y25 t26 h32 hd33 => ?_))
   refine qs (qs (qr (oN 4 [(15, vb (decide (s24.1 < (x0.length : Int))))] [5, 1, 0] ?_)))
   refine oe (nt (cC h32 (fun h38 => ?_) (fun h39 => ?_)))
   · refine qk (nt (qs (qb (qs (qr (oN 3 [(20, vi s24.1), (19, .v (.slice a0_0 x0.length c0_0)), (18, vi s24.2)] [5, 0] ?_))))))
     obtain ⟨x40, hx41, h42⟩ := bS h38
     refine oi 1 (fun γ w hs => (hv0_0.kept hs.kept)) hx41 ?_
     refine ol 9 0 (.string x40) (fun γ w hs => (hv0_0.kept hs.kept).flatq hx41) ?_
     refine oN 3 [(1, vi (w64 (s24.2 - (x40.size : Int))))] [5, 0] ?_
     refine oe (nt (qs (qr (oN 2 [(26, vb (decide ((w64 (s24.2 - (x40.size : Int))) < 0)))] [1, 5, 0] ?_))))
     refine oe (nt (cC h42 (fun h44 => ?_) (fun h45 => ?_)))
     · refine qs (qr (oN 1 [(4, vi (-1))] [] ?_))
       refine oe (nt (qe (br (nr (nr ?_)))))
       have h46 := leafR hd33 h44 h29
       refine br (nr (nr ?_))
       obtain rfl := sI h46
       exact re [.int .i64 (-1)]
     refine qk (bn (nt (qr (oN 3 [(5, vi (w64 (s24.1 + 1)))] [1, 0] ?_))))
     exact oe (ct h45 () [5, 1, 0] [] 0)
   refine qx (nx (nx (bh ?_)))
   have h47 := leafB hd33 h39 h29
   exact mp (s24.2, ()) h47 [1] [] 0
 have h36 := (congrFun hk31 _).symm.trans h36p
 refine nt (qs (qr (oN 2 [(4, vi y35.1)] [] ?_)))
 refine oe (nt (qe ?_))
 obtain rfl := sI h36
 exact re [.int .i64 y35.1]

theorem c_laws_toStringS {W : World} {x0 : List ByteArray} {a0_0 : Option Addr} {c0_0 : Nat} {r : (List ByteArray)} (h : laws_toStringS x0 = some r) (hv0_0 : SlView W x0 a0_0 c0_0) :
    Gives Try.prog 14 #[.slice a0_0 x0.length c0_0] W (fun y : AC => .slice y.1 r.length y.2) (fun y => [SlRes 9 r y.1 y.2]) := by
 unfold laws_toStringS at h
 refine en Try.func14 Try.ntmps14 ?_
 refine qs (qr (oN 1 [] [0] ?_))
 refine oe (nt (qs (qr (oN 2 [(6, vi (x0.length : Int))] [0] ?_))))
 obtain ⟨l22, hm23, h24⟩ := bS h
 refine JO_make (α := ByteArray) rfl (by kernel_rfl) (t := 22) (e := 9) (m := (x0.length : Int)) (by kernel_rfl) (i := Try.t9) (by kernel_rfl) (z := (.string (ByteArray.mk #[]))) (by kernel_rfl) (by kernel_rfl) (by kernel_rfl) (by kernel_rfl) (fun w => ⟨rfl, rfl⟩) hm23 _ (fun _ => rfl) (fun y21 => ?_)
 refine oN 1 [(3, .v (.slice y21.1 l22.length y21.2))] [0] ?_
 refine oe (nt (qs (qs (qr (oN 1 [(4, vi 0)] [3, 0] ?_)))))
 refine oe (nt ?_)
 obtain ⟨r28, hL29, h30⟩ := bS h24
 obtain ⟨k31, hk32, h30⟩ := brkS h30
 refine JC_cutP (τ := ((List ByteArray)) × (Unit)) (fun y => k31 y.1 = some r) (fun y36 => [(3, .v (.slice y21.1 y36.1.length y21.2))]) (fun y36 => []) (fun y36 => [SlRes 9 y36.1 y21.1 y21.2]) ?_ (fun y36 h37p => ?_)
 · refine qb (lp Unit hL29 (fun s25 y26 => [(4, vi s25.1), (3, .v (.slice y21.1 s25.2.length y21.2)), (0, .v (.slice a0_0 x0.length c0_0))]) (fun s25 y26 => []) (fun s25 y26 => [SlRes 9 s25.2 y21.1 y21.2]) () [4, 3, 0] [0] 0 (fun s25 y26 t27 h33 hd34 => ?_))
   refine qs (qs (qr (oN 4 [(11, vb (decide (s25.1 < (x0.length : Int))))] [4, 3, 0] ?_)))
   refine oe (nt (cC h33 (fun h39 => ?_) (fun h40 => ?_)))
   · refine qk (nt (qs (qb (qr (oN 4 [(17, vi s25.1), (16, .v (.slice a0_0 x0.length c0_0)), (15, vi s25.1), (14, .v (.slice y21.1 s25.2.length y21.2))] [4, 3, 0] ?_)))))
     obtain ⟨x41, hx42, h43⟩ := bS h39
     refine oi 1 (fun γ w hs => (hv0_0.kept hs.kept)) hx42 ?_
     refine ol 9 0 (.string x41) (fun γ w hs => (hv0_0.kept hs.kept).flatq hx42) ?_
     obtain ⟨x44, hx45, h46⟩ := bS h43
     refine oi 1 (fun γ w hs => (hs.view 0 rfl)) hx45 ?_
     obtain ⟨l47, hm48, h49⟩ := bS h46
     replace hm48 := (sI hm48).symm
     refine JO_storeq (α := ByteArray) (d := y21.1) (vs := [.string x41]) (j := s25.1) (x' := x41) rfl (by kernel_rfl) 0 (by kernel_rfl) hx45 (Rc := []) (Rr := []) rfl (by kernel_rfl) (fun w c F Fs ho _ _ => own_flat_set (by kernel_rfl) ho) hm48 rfl ?_
     have hl50 := len_set hm48
     refine JO_keep [19, 18, 17, 16, 15, 14, 4, 3, 0] (sl' := [(19, .v (.string x41)), (18, .q a0_0 (Int.toNat s25.1 * 1)), (17, vi s25.1), (16, .v (.slice a0_0 x0.length c0_0)), (15, vi s25.1), (14, .v (.slice y21.1 s25.2.length y21.2)), (4, vi s25.1), (3, .v (.slice y21.1 s25.2.length y21.2)), (0, .v (.slice a0_0 x0.length c0_0))]) (by kernel_rfl) ?_
     refine JO_eqE (sl' := [(19, .v (.string x41)), (18, .q a0_0 (Int.toNat s25.1 * 1)), (17, vi s25.1), (16, .v (.slice a0_0 x0.length c0_0)), (15, vi s25.1), (14, .v (.slice y21.1 l47.length y21.2)), (4, vi s25.1), (3, .v (.slice y21.1 l47.length y21.2)), (0, .v (.slice a0_0 x0.length c0_0))]) (bx' := []) (by simp only [hl50]) rfl ?_
     refine oe (bn (nt (qr (oN 3 [(4, vi (w64 (s25.1 + 1)))] [3, 0] ?_))))
     exact oe (ct h49 () [4, 3, 0] [0] 0)
   refine qx (nx (nx (bh ?_)))
   have h51 := leafB hd34 h40 h30
   exact mp (s25.2, ()) h51 [3] [0] 0
 have h37 := (congrFun hk32 _).symm.trans h37p
 refine nt (qs (qr (oN 2 [(2, .v (.slice y21.1 y36.1.length y21.2))] [] ?_)))
 refine oe (nt (qe (rt [.slice y21.1 y36.1.length y21.2] (fun γ w hs => ?_))))
 rw [← sI h37]
 exact ⟨y21, rfl, hs.kept.toBelow, (hs.takeR (is := [0]) rfl).fresh⟩

theorem c_spec_DiffLines {W : World} {x0 : List ByteArray} {a0_0 : Option Addr} {c0_0 : Nat} {x1 : List ByteArray} {a1_0 : Option Addr} {c1_0 : Nat} {r : (List Int)} (h : spec_DiffLines x0 x1 = some r) (hv0_0 : SlView W x0 a0_0 c0_0) (hv1_0 : SlView W x1 a1_0 c1_0) :
    Gives Try.prog 13 #[.slice a0_0 x0.length c0_0, .slice a1_0 x1.length c1_0] W (fun y : AC => .slice y.1 r.length y.2) (fun y => [SlRes 3 r y.1 y.2]) := by
 unfold spec_DiffLines at h
 refine en Try.func13 Try.ntmps13 ?_
 refine qs (qr (oN 1 [] [0, 1] ?_))
 refine oe (nt (qs (qr (ob [] [] 3 0 [] ([] : List Int) (own_flat (by kernel_rfl)) (fun y21 => ?_)))))
 refine oN 1 [(5, .v (.slice y21.1 ([] : List Int).length y21.2))] [0, 1] ?_
 refine oe (nt (qs (qs (qr (oN 1 [(6, vi 0)] [5, 0, 1] ?_)))))
 refine oe (nt ?_)
 obtain ⟨r26, hL27, h28⟩ := bS h
 obtain ⟨k29, hk30, h28⟩ := brkS h28
 refine JC_cutP (τ := ((List Int)) × (AC)) (fun y => k29 y.1 = some r) (fun y34 => [(5, .v (.slice y34.2.1 y34.1.length y34.2.2))]) (fun y34 => []) (fun y34 => [SlRes 3 y34.1 y34.2.1 y34.2.2]) ?_ (fun y34 h35p => ?_)
 · refine qb (lp AC hL27 (fun s23 y24 => [(6, vi s23.1), (5, .v (.slice y24.1 s23.2.length y24.2)), (0, .v (.slice a0_0 x0.length c0_0)), (1, .v (.slice a1_0 x1.length c1_0))]) (fun s23 y24 => []) (fun s23 y24 => [SlRes 3 s23.2 y24.1 y24.2]) (y21.1, y21.2) [6, 5, 0, 1] [0] 0 (fun s23 y24 t25 h31 hd32 => ?_))
   refine qs (qs ?_)
   obtain ⟨p36, hE37, h38⟩ := bS h31
   refine JC_cut (τ := Unit) (fun _ => [(0, .v (.slice a0_0 x0.length c0_0)), (1, .v (.slice a1_0 x1.length c1_0)), (5, .v (.slice y24.1 s23.2.length y24.2)), (6, vi s23.1), (17, vb p36)]) (fun _ => []) (fun _ => [SlRes 3 s23.2 y24.1 y24.2]) ?_ (fun _ => ?_)
   · refine qr (oN 5 [(12, vb (decide (s23.1 < (x0.length : Int))))] [6, 5, 0, 1] ?_)
     refine oS 12 hE37 (fun h40 => ?_) (fun h41 => ?_)
     · refine oN 5 [(17, vb true)] [6, 5, 0, 1] ?_
       refine oe ?_
       obtain rfl := sI h40
       exact mt () [0, 1, 5, 6, 17] [0] 0
     refine oN 5 [(17, vb (decide (s23.1 < (x1.length : Int))))] [6, 5, 0, 1] ?_
     refine oe ?_
     obtain rfl := sI h41
     exact mt () [0, 1, 5, 6, 17] [0] 0
   refine nt (cC h38 (fun h43 => ?_) (fun h44 => ?_))
   · refine qk (nt (qs (qb (qs ?_))))
     obtain ⟨p45, hE46, h47⟩ := bS h43
     refine JC_cut (τ := Unit) (fun _ => [(0, .v (.slice a0_0 x0.length c0_0)), (1, .v (.slice a1_0 x1.length c1_0)), (5, .v (.slice y24.1 s23.2.length y24.2)), (6, vi s23.1), (40, vb p45)]) (fun _ => []) (fun _ => [SlRes 3 s23.2 y24.1 y24.2]) ?_ (fun _ => ?_)
     · refine JC_quiet (by kernel_rfl) (by kernel_rfl) ?_
       refine qN 5 [(24, vb (decide (s23.1 ≥ (x0.length : Int))))] [0, 1, 5, 6] ?_
       refine qS 24 hE46 (fun h49 => ?_) (fun h50 => ?_)
       · refine qN 16 [(40, vb true)] [0, 1, 5, 6] ?_
         refine qz ?_
         obtain rfl := sI h49
         exact mt () [0, 1, 5, 6, 40] [0] 0
       refine qN 6 [(30, vb (decide (s23.1 ≥ (x1.length : Int))))] [0, 1, 5, 6] ?_
       refine qS 30 h50 (fun h52 => ?_) (fun h53 => ?_)
       · refine qN 10 [(40, vb true)] [0, 1, 5, 6] ?_
         refine qz ?_
         obtain rfl := sI h52
         exact mt () [0, 1, 5, 6, 40] [0] 0
       refine qN 2 [(32, vi s23.1), (31, .v (.slice a0_0 x0.length c0_0))] [30, 0, 1, 5, 6] ?_
       obtain ⟨x54, hx55, h56⟩ := bS h53
       refine qi 1 (fun γ w hs => (hv0_0.kept hs.kept)) hx55 ?_
       refine ql 9 0 (.string x54) (fun γ w hs => (hv0_0.kept hs.kept).flatq hx55) ?_
       refine qN 2 [(36, vi s23.1), (35, .v (.slice a1_0 x1.length c1_0))] [34, 30, 0, 1, 5, 6] ?_
       obtain ⟨x57, hx58, h59⟩ := bS h56
       refine qi 1 (fun γ w hs => (hv1_0.kept hs.kept)) hx58 ?_
       refine ql 9 0 (.string x57) (fun γ w hs => (hv1_0.kept hs.kept).flatq hx58) ?_
       refine qN 2 [(40, vb (!(x54.toList == x57.toList)))] [0, 1, 5, 6] ?_
       refine qz ?_
       obtain rfl := sI h59
       exact mt () [0, 1, 5, 6, 40] [0] 0
     refine nt ?_
     obtain ⟨k69, hk70, h72⟩ := jS h47
     refine JC_cutP (τ := ((List Int)) × (AC)) (fun y => k69 y.1 = some t25) (fun y68 => [(0, .v (.slice a0_0 x0.length c0_0)), (1, .v (.slice a1_0 x1.length c1_0)), (5, .v (.slice y68.2.1 y68.1.length y68.2.2)), (6, vi s23.1)]) (fun y68 => []) (fun y68 => [SlRes 3 y68.1 y68.2.1 y68.2.2]) ?_ (fun y68 h71p => ?_)
     · refine cC h72 (fun h74 => ?_) (fun h75 => ?_)
       · refine qr (oN 2 [(42, vi s23.1), (41, .v (.slice y24.1 s23.2.length y24.2))] [0, 1, 6] ?_)
         refine ob [] [SlRes 3 s23.2 y24.1 y24.2] 3 1 [.int .i64 s23.1] ([s23.1] : List Int) (own_flat (by kernel_rfl)) (fun y76 => ?_)
         refine or_ [1, 0] ?_
         obtain ⟨l79, hm80, h81⟩ := bS h74
         refine oa 24 y76.2 Try.t3 (.int .i64 0) (fun γ w hs => ⟨y76.2, (hs.view 1 rfl)⟩) hm80 (fun y78 => ?_)
         refine oN 1 [(5, .v (.slice y78.1 l79.length y78.2))] [0, 1, 6] ?_
         exact oe (mp (l79, (y78.1, y78.2)) h81 [0, 1, 5, 6] [0] 0)
       exact qk (mp (s23.2, (y24.1, y24.2)) h75 [0, 1, 5, 6] [0] 0)
     have h71 := (congrFun hk70 _).symm.trans h71p
     refine bn (nt (qr (oN 3 [(6, vi (w64 (s23.1 + 1)))] [0, 1, 5] ?_)))
     exact oe (ct h71 (y68.2.1, y68.2.2) [6, 5, 0, 1] [0] 0)
   refine qx (nx (nx (bh ?_)))
   have h82 := leafB hd32 h44 h28
   exact mp (s23.2, (y24.1, y24.2)) h82 [5] [0] 0
 have h35 := (congrFun hk30 _).symm.trans h35p
 refine nt (qs (qr (oN 2 [(4, .v (.slice y34.2.1 y34.1.length y34.2.2))] [] ?_)))
 refine oe (nt (qe (rt [.slice y34.2.1 y34.1.length y34.2.2] (fun γ w hs => ?_))))
 rw [← sI h35]
 exact ⟨y34.2, rfl, hs.kept.toBelow, (hs.takeR (is := [0]) rfl).fresh⟩

theorem c_impl_DiffLines {W : World} {x0 : List ByteArray} {a0_0 : Option Addr} {c0_0 : Nat} {x1 : List ByteArray} {a1_0 : Option Addr} {c1_0 : Nat} {r : (List Int)} (h : impl_DiffLines x0 x1 = some r) (hv0_0 : SlView W x0 a0_0 c0_0) (hv1_0 : SlView W x1 a1_0 c1_0) :
    Gives Try.prog 15 #[.slice a0_0 x0.length c0_0, .slice a1_0 x1.length c1_0] W (fun y : AC => .slice y.1 r.length y.2) (fun y => [SlRes 3 r y.1 y.2]) := by
 unfold impl_DiffLines at h
 refine en Try.func15 Try.ntmps15 ?_
 refine qs (qr (oN 1 [] [0, 1] ?_))
 refine oe (nt (qs (qr (ob [] [] 3 0 [] ([] : List Int) (own_flat (by kernel_rfl)) (fun y21 => ?_)))))
 refine oN 1 [(5, .v (.slice y21.1 ([] : List Int).length y21.2))] [0, 1] ?_
 refine oe (nt (qs (qs (qr (oN 6 [(13, vi 0), (12, vi (imax (x0.length : Int) (x1.length : Int)))] [5, 0, 1] ?_)))))
 refine oe (nt ?_)
 obtain ⟨r26, hL27, h28⟩ := bS h
 obtain ⟨k29, hk30, h28⟩ := brkS h28
 refine JC_cutP (τ := ((List Int)) × (AC)) (fun y => k29 y.1 = some r) (fun y34 => [(5, .v (.slice y34.2.1 y34.1.length y34.2.2))]) (fun y34 => []) (fun y34 => [SlRes 3 y34.1 y34.2.1 y34.2.2]) ?_ (fun y34 h35p => ?_)
 · refine qb (lp AC hL27 (fun s23 y24 => [(13, vi s23.1), (12, vi (imax (x0.length : Int) (x1.length : Int))), (5, .v (.slice y24.1 s23.2.length y24.2)), (0, .v (.slice a0_0 x0.length c0_0)), (1, .v (.slice a1_0 x1.length c1_0))]) (fun s23 y24 => []) (fun s23 y24 => [SlRes 3 s23.2 y24.1 y24.2]) (y21.1, y21.2) [13, 12, 5, 0, 1] [0] 0 (fun s23 y24 t25 h31 hd32 => ?_))
   refine qs (qr (oN 1 [(14, vb (decide (s23.1 < (imax (x0.length : Int) (x1.length : Int)))))] [13, 12, 5, 0, 1] ?_))
   refine oe (nt (qs (cC h31 (fun h37 => ?_) (fun h38 => ?_))))
   · refine qk (nt (qs (qb (qs (qr (oN 2 [(6, vi s23.1)] [13, 12, 5, 0, 1] ?_))))))
     refine oe (nt (qs ?_))
     obtain ⟨p39, hE40, h41⟩ := bS h37
     refine JC_cut (τ := Unit) (fun _ => [(0, .v (.slice a0_0 x0.length c0_0)), (1, .v (.slice a1_0 x1.length c1_0)), (5, .v (.slice y24.1 s23.2.length y24.2)), (6, vi s23.1), (12, vi (imax (x0.length : Int) (x1.length : Int))), (13, vi s23.1), (36, vb p39)]) (fun _ => []) (fun _ => [SlRes 3 s23.2 y24.1 y24.2]) ?_ (fun _ => ?_)
     · refine JC_quiet (by kernel_rfl) (by kernel_rfl) ?_
       refine qN 5 [(20, vb (decide (s23.1 ≥ (x0.length : Int))))] [6, 13, 12, 5, 0, 1] ?_
       refine qS 20 hE40 (fun h43 => ?_) (fun h44 => ?_)
       · refine qN 16 [(36, vb true)] [6, 13, 12, 5, 0, 1] ?_
         refine qz ?_
         obtain rfl := sI h43
         exact mt () [0, 1, 5, 6, 12, 13, 36] [0] 0
       refine qN 6 [(26, vb (decide (s23.1 ≥ (x1.length : Int))))] [6, 13, 12, 5, 0, 1] ?_
       refine qS 26 h44 (fun h46 => ?_) (fun h47 => ?_)
       · refine qN 10 [(36, vb true)] [6, 13, 12, 5, 0, 1] ?_
         refine qz ?_
         obtain rfl := sI h46
         exact mt () [0, 1, 5, 6, 12, 13, 36] [0] 0
       refine qN 2 [(28, vi s23.1), (27, .v (.slice a0_0 x0.length c0_0))] [26, 6, 13, 12, 5, 0, 1] ?_
       obtain ⟨x48, hx49, h50⟩ := bS h47
       refine qi 1 (fun γ w hs => (hv0_0.kept hs.kept)) hx49 ?_
       refine ql 9 0 (.string x48) (fun γ w hs => (hv0_0.kept hs.kept).flatq hx49) ?_
       refine qN 2 [(32, vi s23.1), (31, .v (.slice a1_0 x1.length c1_0))] [30, 26, 6, 13, 12, 5, 0, 1] ?_
       obtain ⟨x51, hx52, h53⟩ := bS h50
       refine qi 1 (fun γ w hs => (hv1_0.kept hs.kept)) hx52 ?_
       refine ql 9 0 (.string x51) (fun γ w hs => (hv1_0.kept hs.kept).flatq hx52) ?_
       refine qN 2 [(36, vb (!(x48.toList == x51.toList)))] [6, 13, 12, 5, 0, 1] ?_
       refine qz ?_
       obtain rfl := sI h53
       exact mt () [0, 1, 5, 6, 12, 13, 36] [0] 0
     refine nt ?_
     obtain ⟨k63, hk64, h66⟩ := jS h41
     refine JC_cutP (τ := ((List Int)) × (AC)) (fun y => k63 y.1 = some t25) (fun y62 => [(0, .v (.slice a0_0 x0.length c0_0)), (1, .v (.slice a1_0 x1.length c1_0)), (5, .v (.slice y62.2.1 y62.1.length y62.2.2)), (12, vi (imax (x0.length : Int) (x1.length : Int))), (13, vi s23.1)]) (fun y62 => []) (fun y62 => [SlRes 3 y62.1 y62.2.1 y62.2.2]) ?_ (fun y62 h65p => ?_)
     · refine cC h66 (fun h68 => ?_) (fun h69 => ?_)
       · refine qr (oN 2 [(38, vi s23.1), (37, .v (.slice y24.1 s23.2.length y24.2))] [0, 1, 12, 13] ?_)
         refine ob [] [SlRes 3 s23.2 y24.1 y24.2] 3 1 [.int .i64 s23.1] ([s23.1] : List Int) (own_flat (by kernel_rfl)) (fun y70 => ?_)
         refine or_ [1, 0] ?_
         obtain ⟨l73, hm74, h75⟩ := bS h68
         refine oa 24 y70.2 Try.t3 (.int .i64 0) (fun γ w hs => ⟨y70.2, (hs.view 1 rfl)⟩) hm74 (fun y72 => ?_)
         refine oN 1 [(5, .v (.slice y72.1 l73.length y72.2))] [0, 1, 12, 13] ?_
         exact oe (mp (l73, (y72.1, y72.2)) h75 [0, 1, 5, 12, 13] [0] 0)
       exact qk (mp (s23.2, (y24.1, y24.2)) h69 [0, 1, 5, 12, 13] [0] 0)
     have h65 := (congrFun hk64 _).symm.trans h65p
     refine bn (nt (qr (oN 2 [(13, vi (w64 (s23.1 + 1)))] [0, 1, 5, 12] ?_)))
     exact oe (ct h65 (y62.2.1, y62.2.2) [13, 12, 5, 0, 1] [0] 0)
   refine qx (nx (nx (bh ?_)))
   have h76 := leafB hd32 h38 h28
   exact mp (s23.2, (y24.1, y24.2)) h76 [5] [0] 0
 have h35 := (congrFun hk30 _).symm.trans h35p
 refine nt (qs (qr (oN 2 [(4, .v (.slice y34.2.1 y34.1.length y34.2.2))] [] ?_)))
 refine oe (nt (qe (rt [.slice y34.2.1 y34.1.length y34.2.2] (fun γ w hs => ?_))))
 rw [← sI h35]
 exact ⟨y34.2, rfl, hs.kept.toBelow, (hs.takeR (is := [0]) rfl).fresh⟩

theorem c_laws_eqIntS {W : World} {x0 : List Int} {a0_0 : Option Addr} {c0_0 : Nat} {x1 : List Int} {a1_0 : Option Addr} {c1_0 : Nat} {r : Bool} (h : laws_eqIntS x0 x1 = some r) (hv0_0 : SlView W x0 a0_0 c0_0) (hv1_0 : SlView W x1 a1_0 c1_0) :
    Gives0 Try.prog 16 #[.slice a0_0 x0.length c0_0, .slice a1_0 x1.length c1_0] W (.bool r) := by
 unfold laws_eqIntS at h
 refine en Try.func16 Try.ntmps16 ?_
 refine qs (qr (oN 1 [] [0, 1] ?_))
 refine oe (nt (qs (qs (qr (oN 5 [(10, vb ((x0.length : Int) != (x1.length : Int)))] [0, 1] ?_)))))
 refine oe (nt (cC h (fun h22 => ?_) (fun h23 => ?_)))
 · refine qs (qr (oN 1 [(4, vb false)] [] ?_))
   refine oe (nt (qe (nr ?_)))
   obtain rfl := sI h22
   exact re [.bool false]
 refine qk (nt (qs (qs (qr (oN 1 [(5, vi 0)] [0, 1] ?_)))))
 refine oe (nt ?_)
 obtain ⟨r27, hL28, h29⟩ := bS h23
 obtain ⟨k30, hk31, h29⟩ := brkS h29
 refine JC_cutP (τ := (Unit) × (Unit)) (fun y => k30 y.1 = some r) (fun y35 => []) (fun y35 => []) (fun y35 => []) ?_ (fun y35 h36p => ?_)
 · refine qb (lp Unit hL28 (fun s24 y25 => [(5, vi s24), (0, .v (.slice a0_0 x0.length c0_0)), (1, .v (.slice a1_0 x1.length c1_0))]) (fun s24 y25 => []) (fun s24 y25 => []) () [5, 0, 1] [] 0 (fun s24 y25 t26 h32 hd33 => ?_))
   refine qs (qs (qr (oN 4 [(14, vb (decide (s24 < (x0.length : Int))))] [5, 0, 1] ?_)))
   refine oe (nt (cC h32 (fun h38 => ?_) (fun h39 => ?_)))
   · refine qk (nt (qs (qb (qs (JC_quiet (by kernel_rfl) (by kernel_rfl) ?_)))))
     refine qN 2 [(18, vi s24), (17, .v (.slice a0_0 x0.length c0_0))] [5, 0, 1] ?_
     obtain ⟨x40, hx41, h42⟩ := bS h38
     refine qi 1 (fun γ w hs => (hv0_0.kept hs.kept)) hx41 ?_
     refine ql 3 0 (.int .i64 x40) (fun γ w hs => (hv0_0.kept hs.kept).flatq hx41) ?_
     refine qN 2 [(22, vi s24), (21, .v (.slice a1_0 x1.length c1_0))] [20, 5, 0, 1] ?_
     obtain ⟨x43, hx44, h45⟩ := bS h42
     refine qi 1 (fun γ w hs => (hv1_0.kept hs.kept)) hx44 ?_
     refine ql 3 0 (.int .i64 x43) (fun γ w hs => (hv1_0.kept hs.kept).flatq hx44) ?_
     refine qN 1 [(25, vb (x40 != x43))] [5, 0, 1] ?_
     refine qz (nt (cC h45 (fun h47 => ?_) (fun h48 => ?_)))
     · refine qs (qr (oN 1 [(4, vb false)] [] ?_))
       refine oe (nt (qe (br (nr (nr ?_)))))
       have h49 := leafR hd33 h47 h29
       refine br (nr (nr ?_))
       obtain rfl := sI h49
       exact re [.bool false]
     refine qk (bn (nt (qr (oN 3 [(5, vi (w64 (s24 + 1)))] [0, 1] ?_))))
     exact oe (ct h48 () [5, 0, 1] [] 0)
   refine qx (nx (nx (bh ?_)))
   have h50 := leafB hd33 h39 h29
   exact mp ((), ()) h50 [] [] 0
 have h36 := (congrFun hk31 _).symm.trans h36p
 refine nt (qs (qr (oN 1 [(4, vb true)] [] ?_)))
 refine oe (nt (qe ?_))
 obtain rfl := sI h36
 exact re [.bool true]

theorem c_laws_eqStringS {W : World} {x0 : List ByteArray} {a0_0 : Option Addr} {c0_0 : Nat} {x1 : List ByteArray} {a1_0 : Option Addr} {c1_0 : Nat} {r : Bool} (h : laws_eqStringS x0 x1 = some r) (hv0_0 : SlView W x0 a0_0 c0_0) (hv1_0 : SlView W x1 a1_0 c1_0) :
    Gives0 Try.prog 17 #[.slice a0_0 x0.length c0_0, .slice a1_0 x1.length c1_0] W (.bool r) := by
 unfold laws_eqStringS at h
 refine en Try.func17 Try.ntmps17 ?_
 refine qs (qr (oN 1 [] [0, 1] ?_))
 refine oe (nt (qs (qs (qr (oN 5 [(10, vb ((x0.length : Int) != (x1.length : Int)))] [0, 1] ?_)))))
 refine oe (nt (cC h (fun h22 => ?_) (fun h23 => ?_)))
 · refine qs (qr (oN 1 [(4, vb false)] [] ?_))
   refine oe (nt (qe (nr ?_)))
   obtain rfl := sI h22
   exact re [.bool false]
 refine qk (nt (qs (qs (qr (oN 1 [(5, vi 0)] [0, 1] ?_)))))
 refine oe (nt ?_)
 obtain ⟨r27, hL28, h29⟩ := bS h23
 obtain ⟨k30, hk31, h29⟩ := brkS h29
 refine JC_cutP (τ := (Unit) × (Unit)) (fun y => k30 y.1 = some r) (fun y35 => []) (fun y35 => []) (fun y35 => []) ?_ (fun y35 h36p => ?_)
 · refine qb (lp Unit hL28 (fun s24 y25 => [(5, vi s24), (0, .v (.slice a0_0 x0.length c0_0)), (1, .v (.slice a1_0 x1.length c1_0))]) (fun s24 y25 => []) (fun s24 y25 => []) () [5, 0, 1] [] 0 (fun s24 y25 t26 h32 hd33 => ?_))
   refine qs (qs (qr (oN 4 [(14, vb (decide (s24 < (x0.length : Int))))] [5, 0, 1] ?_)))
   refine oe (nt (cC h32 (fun h38 => ?_) (fun h39 => ?_)))
   · refine qk (nt (qs (qb (qs (JC_quiet (by kernel_rfl) (by kernel_rfl) ?_)))))
     refine qN 2 [(18, vi s24), (17, .v (.slice a0_0 x0.length c0_0))] [5, 0, 1] ?_
     obtain ⟨x40, hx41, h42⟩ := bS h38
     refine qi 1 (fun γ w hs => (hv0_0.kept hs.kept)) hx41 ?_
     refine ql 9 0 (.string x40) (fun γ w hs => (hv0_0.kept hs.kept).flatq hx41) ?_
     refine qN 2 [(22, vi s24), (21, .v (.slice a1_0 x1.length c1_0))] [20, 5, 0, 1] ?_
     obtain ⟨x43, hx44, h45⟩ := bS h42
     refine qi 1 (fun γ w hs => (hv1_0.kept hs.kept)) hx44 ?_
     refine ql 9 0 (.string x43) (fun γ w hs => (hv1_0.kept hs.kept).flatq hx44) ?_
     refine qN 1 [(25, vb (!(x40.toList == x43.toList)))] [5, 0, 1] ?_
     refine qz (nt (cC h45 (fun h47 => ?_) (fun h48 => ?_)))
     · refine qs (qr (oN 1 [(4, vb false)] [] ?_))
       refine oe (nt (qe (br (nr (nr ?_)))))
       have h49 := leafR hd33 h47 h29
       refine br (nr (nr ?_))
       obtain rfl := sI h49
       exact re [.bool false]
     refine qk (bn (nt (qr (oN 3 [(5, vi (w64 (s24 + 1)))] [0, 1] ?_))))
     exact oe (ct h48 () [5, 0, 1] [] 0)
   refine qx (nx (nx (bh ?_)))
   have h50 := leafB hd33 h39 h29
   exact mp ((), ()) h50 [] [] 0
 have h36 := (congrFun hk31 _).symm.trans h36p
 refine nt (qs (qr (oN 1 [(4, vb true)] [] ?_)))
 refine oe (nt (qe ?_))
 obtain rfl := sI h36
 exact re [.bool true]

theorem c_laws_markText {W : World} {x0 : Int} {r : ByteArray} (h : laws_markText x0 = some r)  :
    Gives0 Try.prog 45 #[.int .i64 x0] W (.string r) := by
 unfold laws_markText at h
 refine en Try.func45 Try.ntmps45 ?_
 refine qs (qr (oN 1 [] [0] ?_))
 refine oe (nt (qs (qs (qr (oN 2 [(5, vb (decide (x0 ≤ 0)))] [0] ?_)))))
 refine oe (nt (cC h (fun h22 => ?_) (fun h23 => ?_)))
 · refine qs (qr (oN 1 [(2, .v (.string (ByteArray.mk #[109, 48])))] [] ?_))
   refine oe (nt (qe (nr ?_)))
   obtain rfl := sI h22
   exact re [.string (ByteArray.mk #[109, 48])]
 refine qk (nt (qs (qr (oN 1 [(3, .v (.string (ByteArray.mk #[])))] [0] ?_))))
 refine oe (nt (qs ?_))
 obtain ⟨r27, hL28, h29⟩ := bS h23
 obtain ⟨k30, hk31, h29⟩ := brkS h29
 refine JC_cutP (τ := (ByteArray) × (Unit)) (fun y => k30 y.1 = some r) (fun y35 => [(3, .v (.string y35.1))]) (fun y35 => []) (fun y35 => []) ?_ (fun y35 h36p => ?_)
 · refine qb (lp Unit hL28 (fun s24 y25 => [(3, .v (.string s24.1)), (0, vi s24.2)]) (fun s24 y25 => []) (fun s24 y25 => []) () [3, 0] [] 0 (fun s24 y25 t26 h32 hd33 => ?_))
   refine qs (qs (qr (oN 2 [(7, vb (decide (s24.2 > 0)))] [3, 0] ?_)))
   refine oe (nt (cC h32 (fun h41 => ?_) (fun h42 => ?_)))
   · refine qk (nt (qb (qs (qr (oN 4 [(11, .v (.int .u8 (w8 (w64 (48 + (Int.tmod s24.2 10))))))] [3, 0] ?_)))))
     refine ob [] [] 5 1 [.int .u8 (w8 (w64 (48 + (Int.tmod s24.2 10))))] ([U8.mk (w8 (w64 (48 + (Int.tmod s24.2 10))))] : List U8) (own_flat (by kernel_rfl)) (fun y43 => ?_)
     refine JO_bstr rfl (by kernel_rfl) (ad := y43.1) (c := y43.2) (xs := ([U8.mk (w8 (w64 (48 + (Int.tmod s24.2 10))))] : List U8)) (by kernel_rfl) (fun γ w hs => (hs.view 0 rfl)) (sl' := [(13, .v (.string (bytesS ([U8.mk (w8 (w64 (48 + (Int.tmod s24.2 10))))] : List U8)))), (12, .v (.slice y43.1 ([U8.mk (w8 (w64 (48 + (Int.tmod s24.2 10))))] : List U8).length y43.2)), (11, .v (.int .u8 (w8 (w64 (48 + (Int.tmod s24.2 10)))))), (3, .v (.string s24.1)), (0, vi s24.2)]) (by kernel_rfl) ?_
     refine oN 1 [(14, .v (.string s24.1))] [13, 0] ?_
     obtain ⟨s45, hm46, h47⟩ := bS h41
     refine JO_sadd rfl (by kernel_rfl) (x := (bytesS ([U8.mk (w8 (w64 (48 + (Int.tmod s24.2 10))))] : List U8))) (y := s24.1) (by kernel_rfl) hm46 (sl' := [(15, .v (.string s45)), (14, .v (.string s24.1)), (13, .v (.string (bytesS ([U8.mk (w8 (w64 (48 + (Int.tmod s24.2 10))))] : List U8)))), (0, vi s24.2)]) (by kernel_rfl) ?_
     refine oN 1 [(3, .v (.string s45))] [0] ?_
     refine oe (nt (qr (oN 3 [(0, vi (w64 (Int.tdiv s24.2 10)))] [3] ?_)))
     exact oe (bn (ct h47 () [3, 0] [] 0))
   refine qx (nx (nx (bh ?_)))
   have h48 := leafB hd33 h42 h29
   exact mp (s24.1, ()) h48 [3] [] 0
 have h36 := (congrFun hk31 _).symm.trans h36p
 refine nt (qs (qr (oN 1 [(18, .v (.string y35.1))] [] ?_)))
 obtain ⟨s37, hm38, h39⟩ := bS h36
 refine JO_sadd rfl (by kernel_rfl) (x := (ByteArray.mk #[109])) (y := y35.1) (by kernel_rfl) hm38 (sl' := [(19, .v (.string s37)), (18, .v (.string y35.1))]) (by kernel_rfl) ?_
 refine oN 1 [(2, .v (.string s37))] [] ?_
 refine oe (nt (qe ?_))
 obtain rfl := sI h39
 exact re [.string s37]

theorem c_laws_markStringS {W : World} {x0 : List ByteArray} {a0_0 : Option Addr} {c0_0 : Nat} {e0_0 : TypeId} {x1 : Int} {r : Int × (List ByteArray)} (h : laws_markStringS x0 x1 = some r)  :
    GivesM Try.prog 18 #[.slice a0_0 x0.length c0_0, .int .i64 x1] W [SlRes e0_0 x0 a0_0 c0_0] [SlRes e0_0 r.2 a0_0 c0_0] (.int .i64 r.1) := by
 unfold laws_markStringS at h
 refine enM Try.func18 Try.ntmps18 (fun Fs => ?_)
 refine qs (qr (oN 1 [] [0, 1] ?_))
 refine oe (nt (qs (qs (qr (oN 1 [(5, vi 0)] [0, 1] ?_)))))
 refine oe (nt ?_)
 obtain ⟨r24, hL25, h26⟩ := bS h
 obtain ⟨k27, hk28, h26⟩ := brkS h26
 refine JC_cutP (τ := ((List ByteArray) × Int) × (Unit)) (fun y => k27 y.1 = some r) (fun y32 => [(0, .v (.slice a0_0 y32.1.1.length c0_0)), (1, vi y32.1.2)]) (fun y32 => []) (fun y32 => [SlRes e0_0 y32.1.1 a0_0 c0_0]) ?_ (fun y32 h33p => ?_)
 · refine qb (lp Unit hL25 (fun s21 y22 => [(5, vi s21.1), (0, .v (.slice a0_0 s21.2.1.length c0_0)), (1, vi s21.2.2)]) (fun s21 y22 => []) (fun s21 y22 => [SlRes e0_0 s21.2.1 a0_0 c0_0]) () [5, 0, 1] [0] 0 (fun s21 y22 t23 h29 hd30 => ?_))
   refine qs (qs (qr (oN 4 [(9, vb (decide (s21.1 < (s21.2.1.length : Int))))] [5, 0, 1] ?_)))
   refine oe (nt (cC h29 (fun h35 => ?_) (fun h36 => ?_)))
   · refine qk (nt (qs (qb (qs (qr (oN 3 [(14, vi s21.2.2), (13, vi s21.1), (12, .v (.slice a0_0 s21.2.1.length c0_0))] [5, 0, 1] ?_))))))
     obtain ⟨t37, h38, h39⟩ := bS h35
     refine k0 (fun γ w hs => c_laws_markText h38) ?_
     obtain ⟨x41, hx42, h43⟩ := bS h39
     refine oi 1 (fun γ w hs => (hs.view 0 rfl)) hx42 ?_
     obtain ⟨l44, hm45, h46⟩ := bS h43
     replace hm45 := (sI hm45).symm
     refine JO_storeq (α := ByteArray) (d := a0_0) (vs := [.string t37]) (j := s21.1) (x' := t37) rfl (by kernel_rfl) 0 (by kernel_rfl) hx42 (Rc := []) (Rr := []) rfl (by kernel_rfl) (fun w c F Fs ho _ _ => own_flat_set (by kernel_rfl) ho) hm45 rfl ?_
     have hl47 := len_set hm45
     refine JO_keep [15, 14, 13, 12, 5, 0, 1] (sl' := [(15, .v (.string t37)), (14, vi s21.2.2), (13, vi s21.1), (12, .v (.slice a0_0 s21.2.1.length c0_0)), (5, vi s21.1), (0, .v (.slice a0_0 s21.2.1.length c0_0)), (1, vi s21.2.2)]) (by kernel_rfl) ?_
     refine JO_eqE (sl' := [(15, .v (.string t37)), (14, vi s21.2.2), (13, vi s21.1), (12, .v (.slice a0_0 l44.length c0_0)), (5, vi s21.1), (0, .v (.slice a0_0 l44.length c0_0)), (1, vi s21.2.2)]) (bx' := []) (by simp only [hl47]) rfl ?_
     refine oe (nt (qr (oN 3 [(1, vi (w64 (s21.2.2 + 1)))] [5, 0] ?_)))
     refine oe (bn (nt (qr (oN 3 [(5, vi (w64 (s21.1 + 1)))] [1, 0] ?_))))
     exact oe (ct h46 () [5, 0, 1] [0] 0)
   refine qx (nx (nx (bh ?_)))
   have h48 := leafB hd30 h36 h26
   exact mp ((s21.2.1, s21.2.2), ()) h48 [0, 1] [0] 0
 have h33 := (congrFun hk28 _).symm.trans h33p
 refine nt (qs (qr (oN 2 [(4, vi y32.1.2)] [0] ?_)))
 refine oe (nt (qe (rt [.int .i64 y32.1.2] (fun γ w hs => ?_))))
 rw [← sI h33]
 exact hs.turned (is := [0]) rfl

theorem c_laws_markIntS {W : World} {x0 : List Int} {a0_0 : Option Addr} {c0_0 : Nat} {e0_0 : TypeId} {x1 : Int} {r : Int × (List Int)} (h : laws_markIntS x0 x1 = some r)  :
    GivesM Try.prog 19 #[.slice a0_0 x0.length c0_0, .int .i64 x1] W [SlRes e0_0 x0 a0_0 c0_0] [SlRes e0_0 r.2 a0_0 c0_0] (.int .i64 r.1) := by
 unfold laws_markIntS at h
 refine enM Try.func19 Try.ntmps19 (fun Fs => ?_)
 refine qs (qr (oN 1 [] [0, 1] ?_))
 refine oe (nt (qs (qs (qr (oN 1 [(5, vi 0)] [0, 1] ?_)))))
 refine oe (nt ?_)
 obtain ⟨r24, hL25, h26⟩ := bS h
 obtain ⟨k27, hk28, h26⟩ := brkS h26
 refine JC_cutP (τ := ((List Int) × Int) × (Unit)) (fun y => k27 y.1 = some r) (fun y32 => [(0, .v (.slice a0_0 y32.1.1.length c0_0)), (1, vi y32.1.2)]) (fun y32 => []) (fun y32 => [SlRes e0_0 y32.1.1 a0_0 c0_0]) ?_ (fun y32 h33p => ?_)
 · refine qb (lp Unit hL25 (fun s21 y22 => [(5, vi s21.1), (0, .v (.slice a0_0 s21.2.1.length c0_0)), (1, vi s21.2.2)]) (fun s21 y22 => []) (fun s21 y22 => [SlRes e0_0 s21.2.1 a0_0 c0_0]) () [5, 0, 1] [0] 0 (fun s21 y22 t23 h29 hd30 => ?_))
   refine qs (qs (qr (oN 4 [(9, vb (decide (s21.1 < (s21.2.1.length : Int))))] [5, 0, 1] ?_)))
   refine oe (nt (cC h29 (fun h35 => ?_) (fun h36 => ?_)))
   · refine qk (nt (qs (qb (qs (qr (oN 3 [(14, vi s21.2.2), (13, vi s21.1), (12, .v (.slice a0_0 s21.2.1.length c0_0))] [5, 0, 1] ?_))))))
     obtain ⟨x37, hx38, h39⟩ := bS h35
     refine oi 1 (fun γ w hs => (hs.view 0 rfl)) hx38 ?_
     obtain ⟨l40, hm41, h42⟩ := bS h39
     replace hm41 := (sI hm41).symm
     refine JO_storeq (α := Int) (d := a0_0) (vs := [.int .i64 s21.2.2]) (j := s21.1) (x' := s21.2.2) rfl (by kernel_rfl) 0 (by kernel_rfl) hx38 (Rc := []) (Rr := []) rfl (by kernel_rfl) (fun w c F Fs ho _ _ => own_flat_set (by kernel_rfl) ho) hm41 rfl ?_
     have hl43 := len_set hm41
     refine JO_keep [14, 13, 12, 5, 0, 1] (sl' := [(14, vi s21.2.2), (13, vi s21.1), (12, .v (.slice a0_0 s21.2.1.length c0_0)), (5, vi s21.1), (0, .v (.slice a0_0 s21.2.1.length c0_0)), (1, vi s21.2.2)]) (by kernel_rfl) ?_
     refine JO_eqE (sl' := [(14, vi s21.2.2), (13, vi s21.1), (12, .v (.slice a0_0 l40.length c0_0)), (5, vi s21.1), (0, .v (.slice a0_0 l40.length c0_0)), (1, vi s21.2.2)]) (bx' := []) (by simp only [hl43]) rfl ?_
     refine oe (nt (qr (oN 3 [(1, vi (w64 (s21.2.2 + 1)))] [5, 0] ?_)))
     refine oe (bn (nt (qr (oN 3 [(5, vi (w64 (s21.1 + 1)))] [1, 0] ?_))))
     exact oe (ct h42 () [5, 0, 1] [0] 0)
   refine qx (nx (nx (bh ?_)))
   have h44 := leafB hd30 h36 h26
   exact mp ((s21.2.1, s21.2.2), ()) h44 [0, 1] [0] 0
 have h33 := (congrFun hk28 _).symm.trans h33p
 refine nt (qs (qr (oN 2 [(4, vi y32.1.2)] [0] ?_)))
 refine oe (nt (qe (rt [.int .i64 y32.1.2] (fun γ w hs => ?_))))
 rw [← sI h33]
 exact hs.turned (is := [0]) rfl

theorem c_laws_heldIntS {W : World} {x0 : List Int} {a0_0 : Option Addr} {c0_0 : Nat} {x1 : Int} {r : Int} (h : laws_heldIntS x0 x1 = some r) (hv0_0 : SlView W x0 a0_0 c0_0) :
    Gives0 Try.prog 20 #[.slice a0_0 x0.length c0_0, .int .i64 x1] W (.int .i64 r) := by
 unfold laws_heldIntS at h
 refine en Try.func20 Try.ntmps20 ?_
 refine qs (qr (oN 1 [] [0, 1] ?_))
 refine oe (nt (qs (qs (qr (oN 1 [(5, vi 0)] [0, 1] ?_)))))
 refine oe (nt ?_)
 obtain ⟨r24, hL25, h26⟩ := bS h
 obtain ⟨k27, hk28, h26⟩ := brkS h26
 refine JC_cutP (τ := (Int) × (Unit)) (fun y => k27 y.1 = some r) (fun y32 => [(1, vi y32.1)]) (fun y32 => []) (fun y32 => []) ?_ (fun y32 h33p => ?_)
 · refine qb (lp Unit hL25 (fun s21 y22 => [(5, vi s21.1), (0, .v (.slice a0_0 x0.length c0_0)), (1, vi s21.2)]) (fun s21 y22 => []) (fun s21 y22 => []) () [5, 0, 1] [] 0 (fun s21 y22 t23 h29 hd30 => ?_))
   refine qs (qs (qr (oN 4 [(9, vb (decide (s21.1 < (x0.length : Int))))] [5, 0, 1] ?_)))
   refine oe (nt (cC h29 (fun h35 => ?_) (fun h36 => ?_)))
   · refine qk (nt (qs (qb (qs (qs (qr (oN 2 [(13, vi s21.1), (12, .v (.slice a0_0 x0.length c0_0))] [5, 0, 1] ?_)))))))
     obtain ⟨x37, hx38, h39⟩ := bS h35
     refine oi 1 (fun γ w hs => (hv0_0.kept hs.kept)) hx38 ?_
     refine ol 3 0 (.int .i64 x37) (fun γ w hs => (hv0_0.kept hs.kept).flatq hx38) ?_
     refine oN 2 [(17, vb (x37 != s21.2))] [5, 0, 1] ?_
     refine oe (nt (cC h39 (fun h41 => ?_) (fun h42 => ?_)))
     · refine qs (qr (oN 1 [(4, vi (-1))] [] ?_))
       refine oe (nt (qe (nr (br (nr (nr ?_))))))
       have h43 := leafR hd30 h41 h26
       refine br (nr (nr ?_))
       obtain rfl := sI h43
       exact re [.int .i64 (-1)]
     refine qk (nt (qr (oN 3 [(1, vi (w64 (s21.2 + 1)))] [5, 0] ?_)))
     refine oe (bn (nt (qr (oN 3 [(5, vi (w64 (s21.1 + 1)))] [1, 0] ?_))))
     exact oe (ct h42 () [5, 0, 1] [] 0)
   refine qx (nx (nx (bh ?_)))
   have h44 := leafB hd30 h36 h26
   exact mp (s21.2, ()) h44 [1] [] 0
 have h33 := (congrFun hk28 _).symm.trans h33p
 refine nt (qs (qr (oN 2 [(4, vi y32.1)] [] ?_)))
 refine oe (nt (qe ?_))
 obtain rfl := sI h33
 exact re [.int .i64 y32.1]

theorem c_laws_FnExactDiffLines {W : World} {x0 : List ByteArray} {a0_0 : Option Addr} {c0_0 : Nat} {x1 : List ByteArray} {a1_0 : Option Addr} {c1_0 : Nat} {r : Bool} (h : laws_FnExactDiffLines x0 x1 = some r) (hv0_0 : SlView W x0 a0_0 c0_0) (hv1_0 : SlView W x1 a1_0 c1_0) :
    Gives0 Try.prog 3 #[.slice a0_0 x0.length c0_0, .slice a1_0 x1.length c1_0] W (.bool r) := by
 unfold laws_FnExactDiffLines at h
 refine en Try.func3 Try.ntmps3 ?_
 refine qs (qr (oN 1 [] [0, 1] ?_))
 refine oe (nt (qs (qr (oN 1 [(5, vi 1048576)] [0, 1] ?_))))
 refine oe (nt (qs (qr (oN 2 [(15, vi 1048576), (14, .v (.slice a0_0 x0.length c0_0))] [0, 1] ?_))))
 obtain ⟨t21, h22, h23⟩ := bS h
 refine k0 (fun γ w hs => c_laws_szStringS h22 (hv0_0.kept hs.kept)) ?_
 refine oN 1 [(5, vi t21)] [0, 1] ?_
 refine oe (nt (qs (qs (qr (oN 2 [(18, vb (decide (t21 < 0)))] [5, 0, 1] ?_)))))
 refine oe (nt (cC h23 (fun h26 => ?_) (fun h27 => ?_)))
 · refine qs (qr (oN 1 [(4, vb true)] [] ?_))
   refine oe (nt (qe (nr ?_)))
   obtain rfl := sI h26
   exact re [.bool true]
 refine qk (nt (qs (qr (oN 2 [(20, vi t21), (19, .v (.slice a1_0 x1.length c1_0))] [0, 1] ?_))))
 obtain ⟨t28, h29, h30⟩ := bS h27
 refine k0 (fun γ w hs => c_laws_szStringS h29 (hv1_0.kept hs.kept)) ?_
 refine oN 1 [(5, vi t28)] [0, 1] ?_
 refine oe (nt (qs (qs (qr (oN 2 [(23, vb (decide (t28 < 0)))] [0, 1] ?_)))))
 refine oe (nt (cC h30 (fun h33 => ?_) (fun h34 => ?_)))
 · refine qs (qr (oN 1 [(4, vb true)] [] ?_))
   refine oe (nt (qe (nr ?_)))
   obtain rfl := sI h33
   exact re [.bool true]
 refine qk (nt (qs (qr (oN 1 [(24, .v (.slice a0_0 x0.length c0_0))] [0, 1] ?_))))
 obtain ⟨t35, h36, h37⟩ := bS h34
 refine k1 (fun γ w hs => c_laws_toStringS h36 (hv0_0.kept hs.kept)) (fun y38 => ?_)
 refine oN 1 [(26, .v (.slice a1_0 x1.length c1_0))] [25, 0, 1] ?_
 obtain ⟨t39, h40, h41⟩ := bS h37
 refine k1 (fun γ w hs => c_laws_toStringS h40 (hv1_0.kept hs.kept)) (fun y42 => ?_)
 obtain ⟨t43, h44, h45⟩ := bS h41
 refine k1 (fun γ w hs => c_spec_DiffLines h44 (hs.view 1 rfl) (hs.view 0 rfl)) (fun y46 => ?_)
 refine oN 1 [(6, .v (.slice y46.1 t43.length y46.2))] [0, 1] ?_
 refine oe (nt (qs (qr (oN 1 [(29, .v (.slice a0_0 x0.length c0_0))] [6, 0, 1] ?_))))
 obtain ⟨t47, h48, h49⟩ := bS h45
 refine k1 (fun γ w hs => c_laws_toStringS h48 (hv0_0.kept hs.kept)) (fun y50 => ?_)
 refine oN 1 [(7, .v (.slice y50.1 t47.length y50.2))] [6, 0, 1] ?_
 refine oe (nt (qs (qr (oN 1 [(31, .v (.slice a1_0 x1.length c1_0))] [7, 6, 0, 1] ?_))))
 obtain ⟨t51, h52, h53⟩ := bS h49
 refine k1 (fun γ w hs => c_laws_toStringS h52 (hv1_0.kept hs.kept)) (fun y54 => ?_)
 refine oN 1 [(8, .v (.slice y54.1 t51.length y54.2))] [7, 6, 0, 1] ?_
 refine oe (nt (qs (qr (oN 2 [(34, .v (.slice y54.1 t51.length y54.2)), (33, .v (.slice y50.1 t47.length y50.2))] [8, 7, 6, 0, 1] ?_))))
 obtain ⟨t55, h56, h57⟩ := bS h53
 refine k1 (fun γ w hs => c_impl_DiffLines h56 (hs.view 1 rfl) (hs.view 0 rfl)) (fun y58 => ?_)
 refine oN 1 [(9, .v (.slice y58.1 t55.length y58.2))] [8, 7, 6, 0, 1] ?_
 refine oe (nt (qs (qs (qr (oN 2 [(37, .v (.slice y46.1 t43.length y46.2)), (36, .v (.slice y58.1 t55.length y58.2))] [9, 8, 7, 6, 0, 1] ?_)))))
 obtain ⟨t59, h60, h61⟩ := bS h57
 refine k0 (fun γ w hs => c_laws_eqIntS h60 (hs.view 0 rfl) (hs.view 3 rfl)) ?_
 refine oN 1 [(39, vb (!t59))] [9, 8, 7, 6, 0, 1] ?_
 refine oe (nt (cC h61 (fun h64 => ?_) (fun h65 => ?_)))
 · refine qs (qr (oN 1 [(4, vb false)] [] ?_))
   refine oe (nt (qe (nr ?_)))
   obtain rfl := sI h64
   exact re [.bool false]
 refine qk (nt (qs (qs (qr (oN 2 [(41, .v (.slice a0_0 x0.length c0_0)), (40, .v (.slice y50.1 t47.length y50.2))] [9, 8, 7, 6, 0, 1] ?_)))))
 obtain ⟨t66, h67, h68⟩ := bS h65
 refine k1 (fun γ w hs => c_laws_toStringS h67 (hv0_0.kept hs.kept)) (fun y69 => ?_)
 obtain ⟨t70, h71, h72⟩ := bS h68
 refine k0 (fun γ w hs => c_laws_eqStringS h71 (hs.view 3 rfl) (hs.view 0 rfl)) ?_
 refine oN 1 [(44, vb (!t70))] [9, 8, 7, 6, 0, 1] ?_
 refine oe (nt (cC h72 (fun h75 => ?_) (fun h76 => ?_)))
 · refine qs (qr (oN 1 [(4, vb false)] [] ?_))
   refine oe (nt (qe (nr ?_)))
   obtain rfl := sI h75
   exact re [.bool false]
 refine qk (nt (qs (qs (qr (oN 2 [(46, .v (.slice a1_0 x1.length c1_0)), (45, .v (.slice y54.1 t51.length y54.2))] [9, 8, 7, 6, 0, 1] ?_)))))
 obtain ⟨t77, h78, h79⟩ := bS h76
 refine k1 (fun γ w hs => c_laws_toStringS h78 (hv1_0.kept hs.kept)) (fun y80 => ?_)
 obtain ⟨t81, h82, h83⟩ := bS h79
 refine k0 (fun γ w hs => c_laws_eqStringS h82 (hs.view 3 rfl) (hs.view 0 rfl)) ?_
 refine oN 1 [(49, vb (!t81))] [9, 8, 7, 6, 0, 1] ?_
 refine oe (nt (cC h83 (fun h86 => ?_) (fun h87 => ?_)))
 · refine qs (qr (oN 1 [(4, vb false)] [] ?_))
   refine oe (nt (qe (nr ?_)))
   obtain rfl := sI h86
   exact re [.bool false]
 refine qk (nt (qs (qr (oN 1 [(10, vi 1)] [9, 8, 7, 6, 0, 1] ?_))))
 refine oe (nt (qs (qr (oN 2 [(51, vi 1), (50, .v (.slice y50.1 t47.length y50.2))] [9, 8, 6, 0, 1] ?_))))
 refine JO_res (R' := [SlRes 9 t47 y50.1 y50.2, SlRes 9 t77 y80.1 y80.2, SlRes 9 t66 y69.1 y69.2, SlRes 3 t55 y58.1 y58.2, SlRes 9 t51 y54.1 y54.2, SlRes 3 t43 y46.1 y46.2, SlRes 9 t39 y42.1 y42.2, SlRes 9 t35 y38.1 y38.2]) [4, 0, 0, 0, 0, 0, 0, 0] (by kernel_rfl) ?_
 obtain ⟨t88, h89, h90⟩ := bS h87
 obtain ⟨u92, hu93, h94⟩ := bS h90
 have hl95 := (sameLen_some hu93).symm
 refine JO_callM rfl (by kernel_rfl) (f := 18) (args := #[.slice y50.1 t47.length y50.2, .int .i64 1]) (by kernel_rfl) (x := .int .i64 t88.1) (Rin := [SlRes 9 t47 y50.1 y50.2]) (Rout := [SlRes 9 t88.2 y50.1 y50.2]) (Rr := [SlRes 9 t77 y80.1 y80.2, SlRes 9 t66 y69.1 y69.2, SlRes 3 t55 y58.1 y58.2, SlRes 9 t51 y54.1 y54.2, SlRes 3 t43 y46.1 y46.2, SlRes 9 t39 y42.1 y42.2, SlRes 9 t35 y38.1 y38.2]) rfl (fun w => (by have vv := c_laws_markStringS (e0_0 := 9) (a0_0 := y50.1) (c0_0 := y50.2) (W := w) h89; exact vv)) (sl' := [(52, vi t88.1), (51, vi 1), (50, .v (.slice y50.1 t47.length y50.2)), (9, .v (.slice y58.1 t55.length y58.2)), (8, .v (.slice y54.1 t51.length y54.2)), (6, .v (.slice y46.1 t43.length y46.2)), (0, .v (.slice a0_0 x0.length c0_0)), (1, .v (.slice a1_0 x1.length c1_0))]) (by kernel_rfl) ?_
 refine JO_eqE (sl' := [(52, vi t88.1), (51, vi 1), (50, .v (.slice y50.1 t88.2.length y50.2)), (9, .v (.slice y58.1 t55.length y58.2)), (8, .v (.slice y54.1 t51.length y54.2)), (6, .v (.slice y46.1 t43.length y46.2)), (0, .v (.slice a0_0 x0.length c0_0)), (1, .v (.slice a1_0 x1.length c1_0))]) (bx' := []) (by simp only [hl95]) rfl ?_
 refine oN 1 [(10, vi t88.1)] [9, 8, 6, 0, 1] ?_
 refine oe (nt (qs (qr (oN 2 [(54, vi t88.1), (53, .v (.slice y54.1 t51.length y54.2))] [9, 6, 0, 1] ?_))))
 refine JO_res (R' := [SlRes 9 t51 y54.1 y54.2, SlRes 9 t88.2 y50.1 y50.2, SlRes 9 t77 y80.1 y80.2, SlRes 9 t66 y69.1 y69.2, SlRes 3 t55 y58.1 y58.2, SlRes 3 t43 y46.1 y46.2, SlRes 9 t39 y42.1 y42.2, SlRes 9 t35 y38.1 y38.2]) [4, 0, 0, 0, 0, 0, 0, 0] (by kernel_rfl) ?_
 obtain ⟨t96, h97, h98⟩ := bS h94
 obtain ⟨u100, hu101, h102⟩ := bS h98
 have hl103 := (sameLen_some hu101).symm
 refine JO_callM rfl (by kernel_rfl) (f := 18) (args := #[.slice y54.1 t51.length y54.2, .int .i64 t88.1]) (by kernel_rfl) (x := .int .i64 t96.1) (Rin := [SlRes 9 t51 y54.1 y54.2]) (Rout := [SlRes 9 t96.2 y54.1 y54.2]) (Rr := [SlRes 9 t88.2 y50.1 y50.2, SlRes 9 t77 y80.1 y80.2, SlRes 9 t66 y69.1 y69.2, SlRes 3 t55 y58.1 y58.2, SlRes 3 t43 y46.1 y46.2, SlRes 9 t39 y42.1 y42.2, SlRes 9 t35 y38.1 y38.2]) rfl (fun w => (by have vv := c_laws_markStringS (e0_0 := 9) (a0_0 := y54.1) (c0_0 := y54.2) (W := w) h97; exact vv)) (sl' := [(55, vi t96.1), (54, vi t88.1), (53, .v (.slice y54.1 t51.length y54.2)), (9, .v (.slice y58.1 t55.length y58.2)), (6, .v (.slice y46.1 t43.length y46.2)), (0, .v (.slice a0_0 x0.length c0_0)), (1, .v (.slice a1_0 x1.length c1_0))]) (by kernel_rfl) ?_
 refine JO_eqE (sl' := [(55, vi t96.1), (54, vi t88.1), (53, .v (.slice y54.1 t96.2.length y54.2)), (9, .v (.slice y58.1 t55.length y58.2)), (6, .v (.slice y46.1 t43.length y46.2)), (0, .v (.slice a0_0 x0.length c0_0)), (1, .v (.slice a1_0 x1.length c1_0))]) (bx' := []) (by simp only [hl103]) rfl ?_
 refine oN 1 [(10, vi t96.1)] [9, 6, 0, 1] ?_
 refine oe (nt (qs (qs ?_)))
 obtain ⟨p104, hE105, h106⟩ := bS h102
 refine JC_cut (τ := Unit) (fun _ => [(0, .v (.slice a0_0 x0.length c0_0)), (1, .v (.slice a1_0 x1.length c1_0)), (6, .v (.slice y46.1 t43.length y46.2)), (9, .v (.slice y58.1 t55.length y58.2)), (63, vb p104)]) (fun _ => []) (fun _ => [SlRes 3 t43 y46.1 y46.2, SlRes 3 t55 y58.1 y58.2]) ?_ (fun _ => ?_)
 · refine qr (oN 3 [(58, vb (decide (t96.1 < 0)))] [9, 6, 0, 1] ?_)
   refine oS 58 hE105 (fun h108 => ?_) (fun h109 => ?_)
   · refine oN 5 [(63, vb true)] [9, 6, 0, 1] ?_
     refine oe ?_
     obtain rfl := sI h108
     exact mt () [0, 1, 6, 9, 63] [5, 4] 0
   refine oN 2 [(60, .v (.slice y46.1 t43.length y46.2)), (59, .v (.slice y58.1 t55.length y58.2))] [58, 9, 6, 0, 1] ?_
   obtain ⟨t110, h111, h112⟩ := bS h109
   refine k0 (fun γ w hs => c_laws_eqIntS h111 (hs.view 4 rfl) (hs.view 5 rfl)) ?_
   refine oN 2 [(63, vb (!t110))] [9, 6, 0, 1] ?_
   refine oe ?_
   obtain rfl := sI h112
   exact mt () [0, 1, 6, 9, 63] [5, 4] 0
 refine nt (cC h106 (fun h115 => ?_) (fun h116 => ?_))
 · refine qs (qr (oN 1 [(4, vb false)] [] ?_))
   refine oe (nt (qe (nr ?_)))
   obtain rfl := sI h115
   exact re [.bool false]
 refine qk (nt (qs (qr (oN 1 [(11, vi 1)] [0, 1, 6, 9] ?_))))
 refine oe (nt (qs (qr (oN 2 [(65, vi 1), (64, .v (.slice y58.1 t55.length y58.2))] [0, 1, 6, 9] ?_))))
 refine or_ [1, 0] ?_
 obtain ⟨t117, h118, h119⟩ := bS h116
 obtain ⟨u121, hu122, h123⟩ := bS h119
 have hl124 := (sameLen_some hu122).symm
 refine JO_callM rfl (by kernel_rfl) (f := 19) (args := #[.slice y58.1 t55.length y58.2, .int .i64 1]) (by kernel_rfl) (x := .int .i64 t117.1) (Rin := [SlRes 3 t55 y58.1 y58.2]) (Rout := [SlRes 3 t117.2 y58.1 y58.2]) (Rr := [SlRes 3 t43 y46.1 y46.2]) rfl (fun w => (by have vv := c_laws_markIntS (e0_0 := 3) (a0_0 := y58.1) (c0_0 := y58.2) (W := w) h118; exact vv)) (sl' := [(66, vi t117.1), (65, vi 1), (64, .v (.slice y58.1 t55.length y58.2)), (0, .v (.slice a0_0 x0.length c0_0)), (1, .v (.slice a1_0 x1.length c1_0)), (6, .v (.slice y46.1 t43.length y46.2)), (9, .v (.slice y58.1 t55.length y58.2))]) (by kernel_rfl) ?_
 refine JO_eqE (sl' := [(66, vi t117.1), (65, vi 1), (64, .v (.slice y58.1 t117.2.length y58.2)), (0, .v (.slice a0_0 x0.length c0_0)), (1, .v (.slice a1_0 x1.length c1_0)), (6, .v (.slice y46.1 t43.length y46.2)), (9, .v (.slice y58.1 t117.2.length y58.2))]) (bx' := []) (by simp only [hl124]) rfl ?_
 refine oN 1 [(11, vi t117.1)] [0, 1, 6, 9] ?_
 refine oe (nt (qs (qr (oN 1 [(12, vi 1)] [11, 0, 1, 6, 9] ?_))))
 refine oe (nt (qs (qr (oN 2 [(68, vi 1), (67, .v (.slice y58.1 t117.2.length y58.2))] [11, 0, 1, 6, 9] ?_))))
 obtain ⟨t125, h126, h127⟩ := bS h123
 refine k0 (fun γ w hs => c_laws_heldIntS h126 (hs.view 0 rfl)) ?_
 refine oN 1 [(12, vi t125)] [11, 0, 1, 6, 9] ?_
 refine oe (nt (qs (qs (qr (oN 2 [(71, vb (decide (t125 < 0)))] [12, 11, 0, 1, 6, 9] ?_)))))
 refine oe (nt (cC h127 (fun h130 => ?_) (fun h131 => ?_)))
 · refine qs (qr (oN 1 [(4, vb false)] [] ?_))
   refine oe (nt (qe (nr ?_)))
   obtain rfl := sI h130
   exact re [.bool false]
 refine qk (nt (qs (qs (qr (oN 3 [(74, vb (t125 != t117.1))] [11, 0, 1, 6, 9] ?_)))))
 refine oe (nt (cC h131 (fun h133 => ?_) (fun h134 => ?_)))
 · refine qs (qr (oN 1 [(4, vb false)] [] ?_))
   refine oe (nt (qe (nr ?_)))
   obtain rfl := sI h133
   exact re [.bool false]
 refine qk (nt (qs (qr (oN 1 [(75, .v (.slice a0_0 x0.length c0_0))] [11, 1, 6, 9] ?_))))
 obtain ⟨t135, h136, h137⟩ := bS h134
 refine k1 (fun γ w hs => c_laws_toStringS h136 (hv0_0.kept hs.kept)) (fun y138 => ?_)
 refine oN 1 [(77, .v (.slice a1_0 x1.length c1_0))] [76, 11, 6, 9] ?_
 obtain ⟨t139, h140, h141⟩ := bS h137
 refine k1 (fun γ w hs => c_laws_toStringS h140 (hv1_0.kept hs.kept)) (fun y142 => ?_)
 obtain ⟨t143, h144, h145⟩ := bS h141
 refine k1 (fun γ w hs => c_impl_DiffLines h144 (hs.view 1 rfl) (hs.view 0 rfl)) (fun y146 => ?_)
 refine oN 1 [(13, .v (.slice y146.1 t143.length y146.2))] [11, 6, 9] ?_
 refine oe (nt (qs (qs (qr (oN 2 [(81, .v (.slice y46.1 t43.length y46.2)), (80, .v (.slice y146.1 t143.length y146.2))] [11, 9] ?_)))))
 obtain ⟨t147, h148, h149⟩ := bS h145
 refine k0 (fun γ w hs => c_laws_eqIntS h148 (hs.view 0 rfl) (hs.view 4 rfl)) ?_
 refine oN 1 [(83, vb (!t147))] [11, 9] ?_
 refine oe (nt (cC h149 (fun h152 => ?_) (fun h153 => ?_)))
 · refine qs (qr (oN 1 [(4, vb false)] [] ?_))
   refine oe (nt (qe (nr ?_)))
   obtain rfl := sI h152
   exact re [.bool false]
 refine qk (nt (qs (qr (oN 1 [(12, vi 1)] [11, 9] ?_))))
 refine oe (nt (qs (qr (oN 2 [(85, vi 1), (84, .v (.slice y58.1 t117.2.length y58.2))] [11] ?_))))
 obtain ⟨t154, h155, h156⟩ := bS h153
 refine k0 (fun γ w hs => c_laws_heldIntS h155 (hs.view 3 rfl)) ?_
 refine oN 1 [(12, vi t154)] [11] ?_
 refine oe (nt (qs (qs (qr (oN 2 [(88, vb (decide (t154 < 0)))] [12, 11] ?_)))))
 refine oe (nt (cC h156 (fun h159 => ?_) (fun h160 => ?_)))
 · refine qs (qr (oN 1 [(4, vb false)] [] ?_))
   refine oe (nt (qe (nr ?_)))
   obtain rfl := sI h159
   exact re [.bool false]
 refine qk (nt (qs (qs (qr (oN 3 [(91, vb (t154 != t117.1))] [] ?_)))))
 refine oe (nt (cC h160 (fun h162 => ?_) (fun h163 => ?_)))
 · refine qs (qr (oN 1 [(4, vb false)] [] ?_))
   refine oe (nt (qe (nr ?_)))
   obtain rfl := sI h162
   exact re [.bool false]
 refine qk (nt (qs (qr (oN 1 [(4, vb true)] [] ?_))))
 refine oe (nt (qe ?_))
 obtain rfl := sI h163
 exact re [.bool true]
end Go.Pen
