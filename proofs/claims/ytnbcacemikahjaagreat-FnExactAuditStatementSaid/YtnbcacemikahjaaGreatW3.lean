/-
  Each Go function does what its plain function says: written by a program of ours.
-/
import Derived.Test.YtnbcacemikahjaaGreatW2
import Derived.Test.YtnbcacemikahjaaGreatProg
import Derived.Test.YtnbcacemikahjaaGreatPenK
import Derived.Test.YtnbcacemikahjaaGreatPenQ
import Derived.Test.YtnbcacemikahjaaGreatPenU
namespace Go.Pen
open Go.Proofs Go.RowKit
set_option linter.unusedVariables false
set_option linter.unusedSimpArgs false
set_option maxRecDepth 100000
set_option maxHeartbeats 4000000

theorem c_impl_EvalAll {W : World} {x0 : List Node} {a0_0 : Option Addr} {c0_0 : Nat} {x1 : List Frac} {a1_0 : Option Addr} {c1_0 : Nat} {r : (List Frac) × Bool} (h : impl_EvalAll x0 x1 = some r) (hv0_0 : SlView W x0 a0_0 c0_0) (hv1_0 : SlView W x1 a1_0 c1_0) :
    Gives Tryz.prog 234 #[.slice a0_0 x0.length c0_0, .slice a1_0 x1.length c1_0] W (fun y : AC => .tuple #[.slice y.1 r.1.length y.2, .bool r.2]) (fun y => [SlRes 118 r.1 y.1 y.2]) := by
 unfold impl_EvalAll at h
 refine en Tryz.func234 Tryz.ntmps234 ?_
 refine qs (qr (oN 2 [] [0, 1] ?_))
 refine oe (nt (qs (qs ?_)))
 obtain ⟨p21, hE22, h23⟩ := bS h
 refine JC_cut (τ := Unit) (fun _ => [(0, .v (.slice a0_0 x0.length c0_0)), (1, .v (.slice a1_0 x1.length c1_0)), (22, vb p21)]) (fun _ => []) (fun _ => []) ?_ (fun _ => ?_)
 · refine qr (oN 1 [(11, .v (.slice a0_0 x0.length c0_0))] [0, 1] ?_)
   obtain ⟨t24, h25, h26⟩ := bS hE22
   refine k0 (fun γ w hs => c_impl_FormulaOk h25 (hv0_0.kept hs.kept)) ?_
   refine oN 2 [(14, vb (!t24))] [0, 1] ?_
   refine oS 14 h26 (fun h29 => ?_) (fun h30 => ?_)
   · refine oN 8 [(22, vb true)] [0, 1] ?_
     refine oe ?_
     obtain rfl := sI h29
     exact mt () [0, 1, 22] [] 0
   refine oN 5 [(19, vb ((x1.length : Int) != 8))] [0, 1] ?_
   refine oS 19 h30 (fun h32 => ?_) (fun h33 => ?_)
   · refine oN 3 [(22, vb true)] [0, 1] ?_
     refine oe ?_
     obtain rfl := sI h32
     exact mt () [0, 1, 22] [] 0
   refine oN 1 [(20, .v (.slice a1_0 x1.length c1_0))] [19, 0, 1] ?_
   obtain ⟨t34, h35, h36⟩ := bS h33
   refine k0 (fun γ w hs => c_slices_ContainsFunc_Frac__impl_EvalAll_1 h35 (hv1_0.kept hs.kept)) ?_
   refine oN 1 [(22, vb t34)] [0, 1] ?_
   refine oe ?_
   obtain rfl := sI h36
   exact mt () [0, 1, 22] [] 0
 refine nt (cC h23 (fun h39 => ?_) (fun h40 => ?_))
 · refine qs (qr (oN 2 [(5, vb false), (4, .v (.slice none 0 0))] [] ?_))
   refine oe (nt (qe (nr (JE_addnil 118 (List.nil (α := Frac)) rfl ?_))))
   refine rt [.slice none 0 0, .bool false] (fun γ w hs => ?_)
   rw [← sI h39]
   exact ⟨(none, 0), rfl, hs.kept.toBelow, (hs.takeR (is := [0]) rfl).fresh⟩
 refine qk (nt (qs (qr (ob [] [] 118 0 [] ([] : List Frac) (own_flat (by kernel_rfl)) (fun y41 => ?_)))))
 refine oN 1 [(6, .v (.slice y41.1 ([] : List Frac).length y41.2))] [0, 1] ?_
 refine oe (nt (qs (qs (qr (oN 3 [(26, vi 0), (25, vi (x0.length : Int)), (24, .v (.slice a0_0 x0.length c0_0))] [6, 1] ?_)))))
 refine oe (nt ?_)
 obtain ⟨r46, hL47, h48⟩ := bS h40
 obtain ⟨k49, hk50, h48⟩ := brkS h48
 refine JC_cutP (τ := ((List Frac)) × (AC)) (fun y => k49 y.1 = some r) (fun y54 => [(6, .v (.slice y54.2.1 y54.1.length y54.2.2))]) (fun y54 => []) (fun y54 => [SlRes 118 y54.1 y54.2.1 y54.2.2]) ?_ (fun y54 h55p => ?_)
 · refine qb (lp AC hL47 (fun s43 y44 => [(26, vi s43.1), (25, vi (x0.length : Int)), (24, .v (.slice a0_0 x0.length c0_0)), (6, .v (.slice y44.1 s43.2.length y44.2)), (1, .v (.slice a1_0 x1.length c1_0))]) (fun s43 y44 => []) (fun s43 y44 => [SlRes 118 s43.2 y44.1 y44.2]) (y41.1, y41.2) [26, 25, 24, 6, 1] [0] 0 (fun s43 y44 t45 h51 hd52 => ?_))
   refine qs (qr (oN 1 [(27, vb (decide (s43.1 < (x0.length : Int))))] [26, 25, 24, 6, 1] ?_))
   refine oe (nt (qs (cC h51 (fun h57 => ?_) (fun h58 => ?_))))
   · refine qk (nt (qs (qb (qs (qr ?_)))))
     obtain ⟨x59, hx60, h61⟩ := bS h57
     refine oi 6 (fun γ w hs => (hv0_0.kept hs.kept)) hx60 ?_
     refine ol 120 0 (vNode x59) (fun γ w hs => (hv0_0.kept hs.kept).flatq hx60) ?_
     refine oB 2 [(8, .p 0 0)] [26, 25, 24, 6, 1] [(120, (eNode x59))] ?_
     refine oe (nt (qs (qr (oN 3 [(33, .v (.slice a1_0 x1.length c1_0)), (32, .v (.slice y44.1 s43.2.length y44.2)), (31, .v (vNode x59))] [26, 25, 24, 6, 1] ?_))))
     obtain ⟨t62, h63, h64⟩ := bS h61
     refine k0 (fun γ w hs => c_impl_evalNode h63 (hs.view 0 rfl) (hv1_0.kept hs.kept)) ?_
     refine oB 6 [(10, vb t62.2), (9, .p 1 0)] [26, 25, 24, 6, 1] [(120, (eNode x59)), (118, (eFrac t62.1))] ?_
     refine oe (nt (qs (qs (qr (oN 2 [(38, vb (!t62.2))] [9, 26, 25, 24, 6, 1] ?_)))))
     refine oe (nt (cC h64 (fun h67 => ?_) (fun h68 => ?_)))
     · refine qs (qr (oN 2 [(5, vb false), (4, .v (.slice none 0 0))] [] ?_))
       refine oe (nt (qe (nr (br (nr (nr ?_))))))
       have h69 := leafR hd52 h67 h48
       refine br (nr (nr (JE_addnil 118 (List.nil (α := Frac)) rfl ?_)))
       refine rt [.slice none 0 0, .bool false] (fun γ w hs => ?_)
       rw [← sI h69]
       exact ⟨(none, 0), rfl, hs.kept.toBelow, (hs.takeR (is := [0]) rfl).fresh⟩
     refine qk (nt (qr (oN 2 [(40, .v (vFrac t62.1)), (39, .v (.slice y44.1 s43.2.length y44.2))] [26, 25, 24, 1] ?_)))
     refine ob [] [SlRes 118 s43.2 y44.1 y44.2] 118 1 [.int .i64 t62.1.Num, .int .i64 t62.1.Den] ([t62.1] : List Frac) (own_flat (by kernel_rfl)) (fun y70 => ?_)
     refine or_ [1, 0] ?_
     obtain ⟨l73, hm74, h75⟩ := bS h68
     refine oa 140 y70.2 Tryz.t118 (vFrac (Frac.mk 0 0)) (fun γ w hs => ⟨y70.2, (hs.view 1 rfl)⟩) hm74 (fun y72 => ?_)
     refine oN 1 [(6, .v (.slice y72.1 l73.length y72.2))] [26, 25, 24, 1] ?_
     refine oe (bn (nt (qr (oN 2 [(26, vi (w64 (s43.1 + 1)))] [6, 25, 24, 1] ?_))))
     exact oe (ct h75 (y72.1, y72.2) [26, 25, 24, 6, 1] [0] 0)
   refine qx (nx (nx (bh ?_)))
   have h76 := leafB hd52 h58 h48
   exact mp (s43.2, (y44.1, y44.2)) h76 [6] [0] 0
 have h55 := (congrFun hk50 _).symm.trans h55p
 refine nt (qs (qr (oN 3 [(5, vb true), (4, .v (.slice y54.2.1 y54.1.length y54.2.2))] [] ?_)))
 refine oe (nt (qe (rt [.slice y54.2.1 y54.1.length y54.2.2, .bool true] (fun γ w hs => ?_))))
 rw [← sI h55]
 exact ⟨y54.2, rfl, hs.kept.toBelow, (hs.takeR (is := [0]) rfl).fresh⟩

theorem c_impl_Eval {W : World} {x0 : List Node} {a0_0 : Option Addr} {c0_0 : Nat} {x1 : List Frac} {a1_0 : Option Addr} {c1_0 : Nat} {r : Frac × Bool} (h : impl_Eval x0 x1 = some r) (hv0_0 : SlView W x0 a0_0 c0_0) (hv1_0 : SlView W x1 a1_0 c1_0) :
    Gives0 Tryz.prog 220 #[.slice a0_0 x0.length c0_0, .slice a1_0 x1.length c1_0] W (.tuple #[vFrac r.1, .bool r.2]) := by
 unfold impl_Eval at h
 refine en Tryz.func220 Tryz.ntmps220 ?_
 refine qs (qr (oB 2 [(4, .p 0 0)] [0, 1] [(118, (eFrac (Frac.mk 0 0)))] ?_))
 refine oe (nt (qs (qr (oN 2 [(10, .v (.slice a1_0 x1.length c1_0)), (9, .v (.slice a0_0 x0.length c0_0))] [4] ?_))))
 obtain ⟨t21, h22, h23⟩ := bS h
 refine k1 (fun γ w hs => c_impl_EvalAll h22 (hv0_0.kept hs.kept) (hv1_0.kept hs.kept)) (fun y24 => ?_)
 refine oN 5 [(7, vb t21.2), (6, .v (.slice y24.1 t21.1.length y24.2))] [4] ?_
 refine oe (nt (qs (qs (qr (oN 2 [(15, vb (!t21.2))] [6, 4] ?_)))))
 refine oe (nt (cC h23 (fun h26 => ?_) (fun h27 => ?_)))
 · refine qs (qr (oN 3 [(5, vb false)] [4] ?_))
   refine oe (nt (qe (nr ?_)))
   obtain rfl := sI h26
   exact re [vFrac (Frac.mk 0 0), .bool false]
 refine qk (nt (qs (qr (oN 4 [(20, vi (w64 ((t21.1.length : Int) - 1))), (17, .v (.slice y24.1 t21.1.length y24.2))] [4] ?_))))
 obtain ⟨x28, hx29, h30⟩ := bS h27
 refine oi 2 (fun γ w hs => (hs.view 0 rfl)) hx29 ?_
 refine ol 118 0 (vFrac x28) (fun γ w hs => (hs.view 0 rfl).flatq hx29) ?_
 refine oB 2 [(5, vb true)] [4] [(118, (eFrac x28))] ?_
 refine oe (nt (qe ?_))
 obtain rfl := sI h30
 exact re [vFrac x28, .bool true]

theorem c_impl_floorDiv {W : World} {x0 : Int} {x1 : Int} {r : Int} (h : impl_floorDiv x0 x1 = some r)  :
    Gives0 Tryz.prog 235 #[.int .i64 x0, .int .i64 x1] W (.int .i64 r) := by
 unfold impl_floorDiv at h
 refine en Tryz.func235 Tryz.ntmps235 ?_
 refine qs (qr (oN 1 [] [0, 1] ?_))
 refine oe (nt (qs (qr (oN 2 [(7, vi x1), (6, vi x0)] [0, 1] ?_))))
 obtain ⟨u23, hz22, h21⟩ := bS h
 refine JO_div rfl (by kernel_rfl) (op := .quo) (k := .i64) (x := x0) (y := x1) (by kernel_rfl) (nz_some hz22) rfl ?_
 refine oN 1 [(5, vi (w64 (Int.tdiv x0 x1)))] [0, 1] ?_
 refine oe (nt (qs (qs (qr (oN 2 [(10, vi x1), (9, vi x0)] [5] ?_)))))
 obtain ⟨u26, hz25, h24⟩ := bS h21
 refine JO_div rfl (by kernel_rfl) (op := .rem) (k := .i64) (x := x0) (y := x1) (by kernel_rfl) (nz_some hz25) rfl ?_
 refine oN 1 [(12, vb (decide ((Int.tmod x0 x1) < 0)))] [5] ?_
 refine oe (nt ?_)
 obtain ⟨k30, hk31, h33⟩ := jS h24
 refine JC_cutP (τ := (Int) × (Unit)) (fun y => k30 y.1 = some r) (fun y29 => [(5, vi y29.1)]) (fun y29 => []) (fun y29 => []) ?_ (fun y29 h32p => ?_)
 · refine cC h33 (fun h35 => ?_) (fun h36 => ?_)
   · refine qr (oN 3 [(5, vi (w64 ((w64 (Int.tdiv x0 x1)) - 1)))] [] ?_)
     exact oe (mp (w64 ((w64 (Int.tdiv x0 x1)) - 1), ()) h35 [5] [] 0)
   exact qk (mp (w64 (Int.tdiv x0 x1), ()) h36 [5] [] 0)
 have h32 := (congrFun hk31 _).symm.trans h32p
 refine nt (qs (qr (oN 2 [(4, vi y29.1)] [] ?_)))
 refine oe (nt (qe ?_))
 obtain rfl := sI h32
 exact re [.int .i64 y29.1]

theorem c_impl_RoundFrac {W : World} {x0 : Frac} {x1 : Int} {r : Int × Bool} (h : impl_RoundFrac x0 x1 = some r)  :
    Gives0 Tryz.prog 221 #[vFrac x0, .int .i64 x1] W (.tuple #[.int .i64 r.1, .bool r.2]) := by
 unfold impl_RoundFrac at h
 refine en Tryz.func221 Tryz.ntmps221 ?_
 refine qs (qr (oB 3 [(2, .p 0 0)] [1] [(118, (eFrac x0))] ?_))
 refine oe (nt (qs (qs ?_)))
 obtain ⟨p21, hE22, h23⟩ := bS h
 refine JC_cut (τ := Unit) (fun _ => [(1, vi x1), (2, .p 0 0), (16, vb p21)]) (fun _ => [(118, (eFrac x0))]) (fun _ => []) ?_ (fun _ => ?_)
 · refine qr (oN 1 [(9, .v (vFrac x0))] [2, 1] ?_)
   obtain ⟨t24, h25, h26⟩ := bS hE22
   refine k0 (fun γ w hs => c_impl_FracOk h25) ?_
   refine oN 2 [(12, vb (!t24))] [2, 1] ?_
   refine oS 12 h26 (fun h29 => ?_) (fun h30 => ?_)
   · refine oN 4 [(16, vb true)] [2, 1] ?_
     refine oe ?_
     obtain rfl := sI h29
     exact mt () [1, 2, 16] [] 1
   refine oN 1 [(13, vi x1)] [12, 2, 1] ?_
   obtain ⟨t31, h32, h33⟩ := bS h30
   refine k0 (fun γ w hs => c_impl_within h32) ?_
   refine oN 2 [(16, vb (!t31))] [2, 1] ?_
   refine oe ?_
   obtain rfl := sI h33
   exact mt () [1, 2, 16] [] 1
 refine nt (cC h23 (fun h36 => ?_) (fun h37 => ?_))
 · refine qs (qr (oN 2 [(5, vb false), (4, vi 0)] [] ?_))
   refine oe (nt (qe (nr ?_)))
   obtain rfl := sI h36
   exact re [.int .i64 0, .bool false]
 refine qk (nt (qs (qr (oN 4 [(20, vi x0.Den), (18, vi x0.Num)] [1, 2] ?_))))
 obtain ⟨t38, h39, h40⟩ := bS h37
 refine k0 (fun γ w hs => c_impl_floorDiv h39) ?_
 refine oN 1 [(6, vi t38)] [1, 2] ?_
 refine oe (nt (qs (qr (oN 8 [(7, vi (w64 (x0.Num - (w64 (t38 * x0.Den)))))] [6, 1, 2] ?_))))
 refine oe (nt (qs (qr (oN 1 [(8, vb false)] [7, 6, 1, 2] ?_))))
 refine oe (nt (qs (qs (qr (oN 1 [(29, vi x1)] [8, 7, 6, 2] ?_)))))
 refine oe (nt (qb (qs (qr (oN 2 [(30, vb (x1 == 2))] [29, 8, 7, 6, 2] ?_)))))
 refine oe (nt ?_)
 obtain ⟨k60, hk61, h73⟩ := jS h40
 refine JC_cutP (τ := (Bool) × (Unit)) (fun y => k60 y.1 = some r) (fun y59 => [(8, vb y59.1), (6, vi t38)]) (fun y59 => [(118, (eFrac x0))]) (fun y59 => []) ?_ (fun y59 h62p => ?_)
 · refine cC h73 (fun h75 => ?_) (fun h76 => ?_)
   · refine qr (oN 3 [(8, vb (decide ((w64 (x0.Num - (w64 (t38 * x0.Den)))) > 0)))] [6] ?_)
     exact oe (mp (decide ((w64 (x0.Num - (w64 (t38 * x0.Den)))) > 0), ()) h75 [8, 6] [] 1)
   refine qs (qr (oN 2 [(34, vb (x1 == 3))] [29, 8, 7, 6, 2] ?_))
   refine oe (nt (cC h76 (fun h78 => ?_) (fun h79 => ?_)))
   · refine qr (oN 6 [(8, vb (decide ((w64 (2 * (w64 (x0.Num - (w64 (t38 * x0.Den)))))) ≥ x0.Den)))] [6] ?_)
     exact oe (mp (decide ((w64 (2 * (w64 (x0.Num - (w64 (t38 * x0.Den)))))) ≥ x0.Den), ()) h78 [8, 6] [] 1)
   refine qs (qr (oN 2 [(41, vb (x1 == 4))] [8, 7, 6, 2] ?_))
   refine oe (nt (cC h79 (fun h81 => ?_) (fun h82 => ?_)))
   · obtain ⟨p83, hE84, h85⟩ := bS h81
     refine JC_cut (τ := Unit) (fun _ => [(6, vi t38), (8, vb p83)]) (fun _ => [(118, (eFrac x0))]) (fun _ => []) ?_ (fun _ => ?_)
     · refine qr (oN 6 [(48, vb (decide ((w64 (2 * (w64 (x0.Num - (w64 (t38 * x0.Den)))))) > x0.Den)))] [7, 6, 2] ?_)
       refine oS 48 hE84 (fun h87 => ?_) (fun h88 => ?_)
       · refine oN 12 [(8, vb true)] [6] ?_
         refine oe ?_
         obtain rfl := sI h87
         exact mt () [6, 8] [] 1
       refine oN 6 [(54, vb ((w64 (2 * (w64 (x0.Num - (w64 (t38 * x0.Den)))))) == x0.Den))] [48, 6] ?_
       refine oS 54 h88 (fun h90 => ?_) (fun h91 => ?_)
       · refine oN 6 [(8, vb ((Int.tmod t38 2) != 0))] [6] ?_
         refine oe ?_
         obtain rfl := sI h90
         exact mt () [6, 8] [] 1
       refine oN 6 [(8, vb false)] [6] ?_
       refine oe ?_
       obtain rfl := sI h91
       exact mt () [6, 8] [] 1
     exact mp (p83, ()) h85 [8, 6] [] 1
   exact qk (mp (false, ()) h82 [8, 6] [] 1)
 have h62 := (congrFun hk61 _).symm.trans h62p
 refine bn (nt (qs (qs (qr (oN 1 [(60, vb y59.1)] [6] ?_)))))
 refine oe (nt ?_)
 obtain ⟨k66, hk67, h69⟩ := jS h62
 refine JC_cutP (τ := (Int) × (Unit)) (fun y => k66 y.1 = some r) (fun y65 => [(6, vi y65.1)]) (fun y65 => [(118, (eFrac x0))]) (fun y65 => []) ?_ (fun y65 h68p => ?_)
 · refine cC h69 (fun h71 => ?_) (fun h72 => ?_)
   · refine qr (oN 3 [(6, vi (w64 (t38 + 1)))] [] ?_)
     exact oe (mp (w64 (t38 + 1), ()) h71 [6] [] 1)
   exact qk (mp (t38, ()) h72 [6] [] 1)
 have h68 := (congrFun hk67 _).symm.trans h68p
 refine nt (qs (qr (oN 3 [(5, vb true), (4, vi y65.1)] [] ?_)))
 refine oe (nt (qe ?_))
 obtain rfl := sI h68
 exact re [.int .i64 y65.1, .bool true]

theorem c_impl_Figure {W : World} {x0 : Book} {a0_0 : Option Addr} {c0_0 : Nat} {x1 : Int} {x2 : Int} {x3 : Int} {x4 : List Frac} {a4_0 : Option Addr} {c4_0 : Nat} {r : Int × Int × Bool} (h : impl_Figure x0 x1 x2 x3 x4 = some r) (hv0_0 : SlView W x0.Rules a0_0 c0_0) (hv4_0 : SlView W x4 a4_0 c4_0) :
    Gives0 Tryz.prog 171 #[vBook x0 (a0_0, c0_0), .int .i64 x1, .int .i64 x2, .int .i64 x3, .slice a4_0 x4.length c4_0] W (.tuple #[.int .i64 r.1, .int .i64 r.2.1, .bool r.2.2]) := by
 unfold impl_Figure at h
 refine en Tryz.func171 Tryz.ntmps171 ?_
 refine qs (qr (oB 4 [(5, .p 0 0)] [1, 2, 3, 4] [(42, (eBook x0 (a0_0, c0_0)))] ?_))
 refine oe (nt (qs (qr (oN 4 [(21, vi x3), (20, vi x2), (19, vi x1), (18, .v (vBook x0 (a0_0, c0_0)))] [5, 4] ?_))))
 obtain ⟨t21, h22, h23⟩ := bS h
 refine k0 (fun γ w hs => c_impl_RuleFor h22 (hv0_0.kept hs.kept)) ?_
 refine oN 1 [(13, vi t21)] [5, 4] ?_
 refine oe (nt (qs (qs (qr (oN 2 [(24, vb (decide (t21 < 0)))] [13, 5, 4] ?_)))))
 refine oe (nt (cC h23 (fun h26 => ?_) (fun h27 => ?_)))
 · refine qs (qr (oN 3 [(12, vb false), (11, vi 0), (10, vi 0)] [] ?_))
   refine oe (nt (qe (nr ?_)))
   obtain rfl := sI h26
   exact re [.int .i64 0, .int .i64 0, .bool false]
 refine qk (nt (qs (qr (oN 3 [(28, vi t21), (27, .v (.slice a0_0 x0.Rules.length c0_0))] [13, 5, 4] ?_))))
 obtain ⟨x28, hx29, h30⟩ := bS h27
 refine oi 7 (fun γ w hs => (hv0_0.kept hs.kept)) hx29 ?_
 refine oN 1 [(30, .q a0_0 (Int.toNat t21 * 7 + 6))] [13, 5, 4] ?_
 obtain ⟨_, ⟨a31, c32, rfl, hv33⟩, hc34⟩ := SlView.at hv0_0 (idx_some hx29).2.2
 refine ol 67 6 (.slice a31 x28.Nodes.length c32) (fun γ w hs => ⟨(hv0_0.kept hs.kept).ne (idx_some hx29).2.2, hc34.kept hs.kept⟩) ?_
 refine oN 1 [(32, .v (.slice a4_0 x4.length c4_0))] [31, 13, 5] ?_
 obtain ⟨t35, h36, h37⟩ := bS h30
 refine k0 (fun γ w hs => c_impl_Eval h36 (hv33.kept hs.kept) (hv4_0.kept hs.kept)) ?_
 refine oB 6 [(15, vb t35.2), (14, .p 1 0)] [13, 5] [(42, (eBook x0 (a0_0, c0_0))), (118, (eFrac t35.1))] ?_
 refine oe (nt (qs (JC_quiet (by kernel_rfl) (by kernel_rfl) ?_)))
 refine qN 4 [(40, vi t21), (39, .v (.slice a0_0 x0.Rules.length c0_0)), (37, .v (vFrac t35.1))] [15, 13] ?_
 obtain ⟨x39, hx40, h41⟩ := bS h37
 refine qi 7 (fun γ w hs => (hv0_0.kept hs.kept)) hx40 ?_
 refine qN 1 [(42, .q a0_0 (Int.toNat t21 * 7 + 5))] [37, 15, 13] ?_
 obtain ⟨_, ⟨a42, c43, rfl, hv44⟩, hc45⟩ := SlView.at hv0_0 (idx_some hx40).2.2
 refine ql 3 5 (.int .i64 x39.Mode) (fun γ w hs => ⟨(hv0_0.kept hs.kept).ne (idx_some hx40).2.2, hc45.kept hs.kept⟩) ?_
 obtain ⟨t46, h47, h48⟩ := bS h41
 refine q0 (fun γ w hs => c_impl_RoundFrac h47) ?_
 refine qN 5 [(17, vb t46.2), (16, vi t46.1)] [15, 13] ?_
 refine qz (nt (qs (qs ?_)))
 obtain ⟨p50, hE51, h52⟩ := bS h48
 refine JC_cut (τ := Unit) (fun _ => [(13, vi t21), (16, vi t46.1), (52, vb p50)]) (fun _ => [(42, (eBook x0 (a0_0, c0_0))), (118, (eFrac t35.1))]) (fun _ => []) ?_ (fun _ => ?_)
 · refine qr (oN 3 [(49, vb (!t35.2))] [17, 16, 13] ?_)
   refine oS 49 hE51 (fun h54 => ?_) (fun h55 => ?_)
   · refine oN 3 [(52, vb true)] [16, 13] ?_
     refine oe ?_
     obtain rfl := sI h54
     exact mt () [13, 16, 52] [] 2
   refine oN 3 [(52, vb (!t46.2))] [16, 13] ?_
   refine oe ?_
   obtain rfl := sI h55
   exact mt () [13, 16, 52] [] 2
 refine nt (cC h52 (fun h57 => ?_) (fun h58 => ?_))
 · refine qs (qr (oN 3 [(12, vb false), (11, vi 0), (10, vi 0)] [] ?_))
   refine oe (nt (qe (nr ?_)))
   obtain rfl := sI h57
   exact re [.int .i64 0, .int .i64 0, .bool false]
 refine qk (nt (qs (qr (oN 5 [(12, vb true), (11, vi t21), (10, vi t46.1)] [] ?_))))
 refine oe (nt (qe ?_))
 obtain rfl := sI h58
 exact re [.int .i64 t46.1, .int .i64 t21, .bool true]

theorem c_impl_EntitlementAt {W : World} {x0 : Case} {b0 : AC × AC × AC × AC × AC} {x1 : Int} {x2 : Int} {r : Int} (h : impl_EntitlementAt x0 x1 x2 = some r) (hv0_0 : SlView W x0.Book.Rules b0.1.1 b0.1.2) (hv0_1 : SlView W x0.Store.Facts b0.2.1.1 b0.2.1.2) (hv0_2 : SlView W x0.Series.Points b0.2.2.1.1 b0.2.2.1.2) (hv0_3 : SlView W x0.Member.Spells b0.2.2.2.1.1 b0.2.2.2.1.2) (hv0_4 : SlView W x0.Member.Events b0.2.2.2.2.1 b0.2.2.2.2.2) :
    Gives0 Tryz.prog 103 #[vCase x0 b0, .int .i64 x1, .int .i64 x2] W (.int .i64 r) := by
 unfold impl_EntitlementAt at h
 refine en Tryz.func103 Tryz.ntmps103 ?_
 refine qs (qr (oB 2 [(3, .p 0 0)] [1, 2] [(54, (eCase x0 b0))] ?_))
 refine oe (nt (qs (qs ?_)))
 obtain ⟨p21, hE22, h23⟩ := bS h
 refine JC_cut (τ := Unit) (fun _ => [(1, vi x1), (2, vi x2), (3, .p 0 0), (22, vb p21)]) (fun _ => [(54, (eCase x0 b0))]) (fun _ => []) ?_ (fun _ => ?_)
 · refine qr (oN 1 [(12, .v (vCase x0 b0))] [3, 1, 2] ?_)
   obtain ⟨t24, h25, h26⟩ := bS hE22
   refine k0 (fun γ w hs => c_impl_CaseOk (b0 := b0) h25 (hv0_0.kept hs.kept) (hv0_1.kept hs.kept) (hv0_2.kept hs.kept) (hv0_3.kept hs.kept) (hv0_4.kept hs.kept)) ?_
   refine oN 2 [(15, vb (!t24))] [3, 1, 2] ?_
   refine oS 15 h26 (fun h29 => ?_) (fun h30 => ?_)
   · refine oN 7 [(22, vb true)] [3, 1, 2] ?_
     refine oe ?_
     obtain rfl := sI h29
     exact mt () [1, 2, 3, 22] [] 1
   refine oN 4 [(19, vi x1), (18, .v (.slice b0.2.2.2.2.1 x0.Member.Events.length b0.2.2.2.2.2))] [15, 3, 1, 2] ?_
   obtain ⟨t31, h32, h33⟩ := bS h30
   refine k0 (fun γ w hs => c_impl_StatusAt h32 (hv0_4.kept hs.kept)) ?_
   refine oN 2 [(22, vb (t31 != 3))] [3, 1, 2] ?_
   refine oe ?_
   obtain rfl := sI h33
   exact mt () [1, 2, 3, 22] [] 1
 refine nt (cC h23 (fun h36 => ?_) (fun h37 => ?_))
 · refine qs (qr (oN 1 [(6, vi 0)] [] ?_))
   refine oe (nt (qe (nr ?_)))
   obtain rfl := sI h36
   exact re [.int .i64 0]
 refine qk (nt (qs (qr (oN 3 [(26, vi x2), (25, vi x1), (24, .v (vCase x0 b0))] [1, 3] ?_))))
 obtain ⟨t38, h39, h40⟩ := bS h37
 refine k1 (fun γ w hs => c_impl_VarsFor (b0 := b0) h39 (hv0_0.kept hs.kept) (hv0_1.kept hs.kept) (hv0_2.kept hs.kept) (hv0_3.kept hs.kept) (hv0_4.kept hs.kept)) (fun y41 => ?_)
 refine oN 5 [(8, vb t38.2), (7, .v (.slice y41.1 t38.1.length y41.2))] [1, 3] ?_
 refine oe (nt (qs (qr (oN 7 [(37, .v (.slice y41.1 t38.1.length y41.2)), (36, vi x0.Member.Joined), (33, vi x1), (32, .v (vBook x0.Book b0.1))] [8] ?_))))
 obtain ⟨t42, h43, h44⟩ := bS h40
 refine k0 (fun γ w hs => c_impl_Figure h43 (hv0_0.kept hs.kept) (hs.view 0 rfl)) ?_
 refine oN 7 [(11, vb t42.2.2), (9, vi t42.1)] [8] ?_
 refine oe (nt (qs (qs ?_)))
 obtain ⟨p46, hE47, h48⟩ := bS h44
 refine JC_cut (τ := Unit) (fun _ => [(9, vi t42.1), (47, vb p46)]) (fun _ => [(54, (eCase x0 b0))]) (fun _ => []) ?_ (fun _ => ?_)
 · refine qr (oN 3 [(44, vb (!t38.2))] [11, 9] ?_)
   refine oS 44 hE47 (fun h50 => ?_) (fun h51 => ?_)
   · refine oN 3 [(47, vb true)] [9] ?_
     refine oe ?_
     obtain rfl := sI h50
     exact mt () [9, 47] [] 1
   refine oN 3 [(47, vb (!t42.2.2))] [9] ?_
   refine oe ?_
   obtain rfl := sI h51
   exact mt () [9, 47] [] 1
 refine nt (cC h48 (fun h53 => ?_) (fun h54 => ?_))
 · refine qs (qr (oN 1 [(6, vi 0)] [] ?_))
   refine oe (nt (qe (nr ?_)))
   obtain rfl := sI h53
   exact re [.int .i64 0]
 refine qk (nt (qs (qr (oN 4 [(6, vi (imax 0 (imin t42.1 10000000)))] [] ?_))))
 refine oe (nt (qe ?_))
 obtain rfl := sI h54
 exact re [.int .i64 (imax 0 (imin t42.1 10000000))]

theorem c_impl_StatementFor {W : World} {x0 : Case} {b0 : AC × AC × AC × AC × AC} {x1 : Int} {x2 : Int} {r : Statement × Bool} (h : impl_StatementFor x0 x1 x2 = some r) (hv0_0 : SlView W x0.Book.Rules b0.1.1 b0.1.2) (hv0_1 : SlView W x0.Store.Facts b0.2.1.1 b0.2.1.2) (hv0_2 : SlView W x0.Series.Points b0.2.2.1.1 b0.2.2.1.2) (hv0_3 : SlView W x0.Member.Spells b0.2.2.2.1.1 b0.2.2.2.1.2) (hv0_4 : SlView W x0.Member.Events b0.2.2.2.2.1 b0.2.2.2.2.2) :
    Gives0 Tryz.prog 35 #[vCase x0 b0, .int .i64 x1, .int .i64 x2] W (.tuple #[vStatement r.1, .bool r.2]) := by
 unfold impl_StatementFor at h
 refine en Tryz.func35 Tryz.ntmps35 ?_
 refine qs (qr (oB 3 [(6, .p 1 0), (3, .p 0 0)] [1, 2] [(54, (eCase x0 b0)), (77, (eStatement (Statement.mk 0 0 0)))] ?_))
 refine oe (nt (qs (qs ?_)))
 obtain ⟨p21, hE22, h23⟩ := bS h
 refine JC_cut (τ := Unit) (fun _ => [(1, vi x1), (2, vi x2), (3, .p 0 0), (6, .p 1 0), (20, vb p21)]) (fun _ => [(54, (eCase x0 b0)), (77, (eStatement (Statement.mk 0 0 0)))]) (fun _ => []) ?_ (fun _ => ?_)
 · refine qr (oN 1 [(8, .v (vCase x0 b0))] [6, 3, 1, 2] ?_)
   obtain ⟨t24, h25, h26⟩ := bS hE22
   refine k0 (fun γ w hs => c_impl_CaseOk (b0 := b0) h25 (hv0_0.kept hs.kept) (hv0_1.kept hs.kept) (hv0_2.kept hs.kept) (hv0_3.kept hs.kept) (hv0_4.kept hs.kept)) ?_
   refine oN 2 [(11, vb (!t24))] [6, 3, 1, 2] ?_
   refine oS 11 h26 (fun h29 => ?_) (fun h30 => ?_)
   · refine oN 9 [(20, vb true)] [6, 3, 1, 2] ?_
     refine oe ?_
     obtain rfl := sI h29
     exact mt () [1, 2, 3, 6, 20] [] 2
   refine oN 1 [(12, vi x1)] [11, 6, 3, 1, 2] ?_
   obtain ⟨t31, h32, h33⟩ := bS h30
   refine k0 (fun γ w hs => c_impl_MonthOk h32) ?_
   refine oN 3 [(16, vb (!t31))] [6, 3, 1, 2] ?_
   refine oS 16 h33 (fun h36 => ?_) (fun h37 => ?_)
   · refine oN 4 [(20, vb true)] [6, 3, 1, 2] ?_
     refine oe ?_
     obtain rfl := sI h36
     exact mt () [1, 2, 3, 6, 20] [] 2
   refine oN 1 [(17, vi x2)] [16, 6, 3, 1, 2] ?_
   obtain ⟨t38, h39, h40⟩ := bS h37
   refine k0 (fun γ w hs => c_impl_MonthOk h39) ?_
   refine oN 2 [(20, vb (!t38))] [6, 3, 1, 2] ?_
   refine oe ?_
   obtain rfl := sI h40
   exact mt () [1, 2, 3, 6, 20] [] 2
 refine nt (cC h23 (fun h43 => ?_) (fun h44 => ?_))
 · refine qs (qr (oN 3 [(7, vb false)] [6] ?_))
   refine oe (nt (qe (nr ?_)))
   obtain rfl := sI h43
   exact re [vStatement (Statement.mk 0 0 0), .bool false]
 refine qk (nt (qs (qr (oN 5 [(26, vi x2), (25, vi x1), (24, .v (vCase x0 b0)), (23, vi x2), (22, vi x1)] [6] ?_))))
 obtain ⟨t45, h46, h47⟩ := bS h44
 refine k0 (fun γ w hs => c_impl_EntitlementAt (b0 := b0) h46 (hv0_0.kept hs.kept) (hv0_1.kept hs.kept) (hv0_2.kept hs.kept) (hv0_3.kept hs.kept) (hv0_4.kept hs.kept)) ?_
 refine oB 3 [(7, vb true)] [6] [(54, (eCase x0 b0)), (77, (eStatement (Statement.mk x1 x2 t45)))] ?_
 refine oe (nt (qe ?_))
 obtain rfl := sI h47
 exact re [vStatement (Statement.mk x1 x2 t45), .bool true]

theorem c_impl_AuditStatement {W : World} {x0 : Case} {b0 : AC × AC × AC × AC × AC} {x1 : Statement} {r : Bool} (h : impl_AuditStatement x0 x1 = some r) (hv0_0 : SlView W x0.Book.Rules b0.1.1 b0.1.2) (hv0_1 : SlView W x0.Store.Facts b0.2.1.1 b0.2.1.2) (hv0_2 : SlView W x0.Series.Points b0.2.2.1.1 b0.2.2.1.2) (hv0_3 : SlView W x0.Member.Spells b0.2.2.2.1.1 b0.2.2.2.1.2) (hv0_4 : SlView W x0.Member.Events b0.2.2.2.2.1 b0.2.2.2.2.2) :
    Gives0 Tryz.prog 39 #[vCase x0 b0, vStatement x1] W (.bool r) := by
 unfold impl_AuditStatement at h
 refine en Tryz.func39 Tryz.ntmps39 ?_
 refine qs (qr (oB 3 [(3, .p 1 0), (2, .p 0 0)] [] [(54, (eCase x0 b0)), (77, (eStatement x1))] ?_))
 refine oe (nt (qs (qr (oN 5 [(12, vi x1.Known), (10, vi x1.Month), (8, .v (vCase x0 b0))] [3] ?_))))
 obtain ⟨t21, h22, h23⟩ := bS h
 refine k0 (fun γ w hs => c_impl_StatementFor (b0 := b0) h22 (hv0_0.kept hs.kept) (hv0_1.kept hs.kept) (hv0_2.kept hs.kept) (hv0_3.kept hs.kept) (hv0_4.kept hs.kept)) ?_
 refine oB 6 [(6, vb t21.2), (5, .p 2 0)] [3] [(54, (eCase x0 b0)), (77, (eStatement x1)), (77, (eStatement t21.1))] ?_
 refine oe (nt (qs ?_))
 obtain ⟨p25, hE26, h27⟩ := bS h23
 refine JC_cut (τ := Unit) (fun _ => [(4, vb p25)]) (fun _ => [(54, (eCase x0 b0)), (77, (eStatement x1)), (77, (eStatement t21.1))]) (fun _ => []) ?_ (fun _ => ?_)
 · refine qr (oN 2 [(17, vb t21.2)] [5, 3] ?_)
   refine oS 17 hE26 (fun h29 => ?_) (fun h30 => ?_)
   · refine oN 5 [(4, vb ((t21.1.Month == x1.Month) && ((t21.1.Known == x1.Known) && ((t21.1.Cents == x1.Cents) && true))))] [] ?_
     refine oe ?_
     obtain rfl := sI h29
     exact mt () [4] [] 3
   refine oN 5 [(4, vb false)] [] ?_
   refine oe ?_
   obtain rfl := sI h30
   exact mt () [4] [] 3
 refine nt (qe ?_)
 obtain rfl := sI h27
 exact re [.bool p25]

theorem c_laws_eqFrac {W : World} {x0 : Frac} {x1 : Frac} {r : Bool} (h : laws_eqFrac x0 x1 = some r)  :
    Gives0 Tryz.prog 193 #[vFrac x0, vFrac x1] W (.bool r) := by
 unfold laws_eqFrac at h
 refine en Tryz.func193 Tryz.ntmps193 ?_
 refine qs (qr (oB 3 [(3, .p 1 0), (2, .p 0 0)] [] [(118, (eFrac x0)), (118, (eFrac x1))] ?_))
 refine oe (nt (qs (qs (qr (oN 5 [(9, vb (x0.Num != x1.Num))] [3, 2] ?_)))))
 refine oe (nt (cC h (fun h22 => ?_) (fun h23 => ?_)))
 · refine qs (qr (oN 1 [(4, vb false)] [] ?_))
   refine oe (nt (qe (nr ?_)))
   obtain rfl := sI h22
   exact re [.bool false]
 refine qk (nt (qs (qs (qr (oN 5 [(14, vb (x0.Den != x1.Den))] [] ?_)))))
 refine oe (nt (cC h23 (fun h25 => ?_) (fun h26 => ?_)))
 · refine qs (qr (oN 1 [(4, vb false)] [] ?_))
   refine oe (nt (qe (nr ?_)))
   obtain rfl := sI h25
   exact re [.bool false]
 refine qk (nt (qs (qr (oN 1 [(4, vb true)] [] ?_))))
 refine oe (nt (qe ?_))
 obtain rfl := sI h26
 exact re [.bool true]

theorem c_laws_eqNode {W : World} {x0 : Node} {x1 : Node} {r : Bool} (h : laws_eqNode x0 x1 = some r)  :
    Gives0 Tryz.prog 143 #[vNode x0, vNode x1] W (.bool r) := by
 unfold laws_eqNode at h
 refine en Tryz.func143 Tryz.ntmps143 ?_
 refine qs (qr (oB 3 [(3, .p 1 0), (2, .p 0 0)] [] [(120, (eNode x0)), (120, (eNode x1))] ?_))
 refine oe (nt (qs (qs (qr (oN 5 [(9, vb (x0.Kind != x1.Kind))] [3, 2] ?_)))))
 refine oe (nt (cC h (fun h22 => ?_) (fun h23 => ?_)))
 · refine qs (qr (oN 1 [(4, vb false)] [] ?_))
   refine oe (nt (qe (nr ?_)))
   obtain rfl := sI h22
   exact re [.bool false]
 refine qk (nt (qs (qs (qr (oN 5 [(14, vb (x0.A != x1.A))] [3, 2] ?_)))))
 refine oe (nt (cC h23 (fun h25 => ?_) (fun h26 => ?_)))
 · refine qs (qr (oN 1 [(4, vb false)] [] ?_))
   refine oe (nt (qe (nr ?_)))
   obtain rfl := sI h25
   exact re [.bool false]
 refine qk (nt (qs (qs (qr (oN 5 [(19, vb (x0.B != x1.B))] [3, 2] ?_)))))
 refine oe (nt (cC h26 (fun h28 => ?_) (fun h29 => ?_)))
 · refine qs (qr (oN 1 [(4, vb false)] [] ?_))
   refine oe (nt (qe (nr ?_)))
   obtain rfl := sI h28
   exact re [.bool false]
 refine qk (nt (qs (qs (qr (oN 5 [(24, vb (x0.C != x1.C))] [3, 2] ?_)))))
 refine oe (nt (cC h29 (fun h31 => ?_) (fun h32 => ?_)))
 · refine qs (qr (oN 1 [(4, vb false)] [] ?_))
   refine oe (nt (qe (nr ?_)))
   obtain rfl := sI h31
   exact re [.bool false]
 refine qk (nt (qs (qs (qr (oN 4 [(28, .v (vFrac x1.Value)), (26, .v (vFrac x0.Value))] [] ?_)))))
 obtain ⟨t33, h34, h35⟩ := bS h32
 refine k0 (fun γ w hs => c_laws_eqFrac h34) ?_
 refine oN 1 [(30, vb (!t33))] [] ?_
 refine oe (nt (cC h35 (fun h38 => ?_) (fun h39 => ?_)))
 · refine qs (qr (oN 1 [(4, vb false)] [] ?_))
   refine oe (nt (qe (nr ?_)))
   obtain rfl := sI h38
   exact re [.bool false]
 refine qk (nt (qs (qr (oN 1 [(4, vb true)] [] ?_))))
 refine oe (nt (qe ?_))
 obtain rfl := sI h39
 exact re [.bool true]

theorem c_laws_eqNodeS {W : World} {x0 : List Node} {a0_0 : Option Addr} {c0_0 : Nat} {x1 : List Node} {a1_0 : Option Addr} {c1_0 : Nat} {r : Bool} (h : laws_eqNodeS x0 x1 = some r) (hv0_0 : SlView W x0 a0_0 c0_0) (hv1_0 : SlView W x1 a1_0 c1_0) :
    Gives0 Tryz.prog 87 #[.slice a0_0 x0.length c0_0, .slice a1_0 x1.length c1_0] W (.bool r) := by
 unfold laws_eqNodeS at h
 refine en Tryz.func87 Tryz.ntmps87 ?_
 refine qs (qr (oN 1 [] [0, 1] ?_))
 refine oe (nt (qs (qs (qr (oN 5 [(10, vb ((x0.length : Int) != (x1.length : Int)))] [0, 1] ?_)))))
 refine oe (nt (cC h (fun h22 => ?_) (fun h23 => ?_)))
 · refine qs (qr (oN 1 [(4, vb false)] [] ?_))
   refine oe (nt (qe (nr ?_)))
   obtain rfl := sI h22
   exact re [.bool false]
 refine qk (nt (qs (qs (qr (oN 1 [(5, vi 0)] [0, 1] ?_)))))
 refine oe (nt ?_)
 obtain ⟨r27, hL28, h29⟩ := bS h23
 obtain ⟨k30, hk31, h29⟩ := brkS h29
 refine JC_cutP (τ := (Unit) × (Unit)) (fun y => k30 y.1 = some r) (fun y35 => []) (fun y35 => []) (fun y35 => []) ?_ (fun y35 h36p => ?_)
 · refine qb (lp Unit hL28 (fun s24 y25 => [(5, vi s24), (0, .v (.slice a0_0 x0.length c0_0)), (1, .v (.slice a1_0 x1.length c1_0))]) (fun s24 y25 => []) (fun s24 y25 => []) () [5, 0, 1] [] 0 (fun s24 y25 t26 h32 hd33 => ?_))
   refine qs (qs (qr (oN 4 [(14, vb (decide (s24 < (x0.length : Int))))] [5, 0, 1] ?_)))
   refine oe (nt (cC h32 (fun h38 => ?_) (fun h39 => ?_)))
   · refine qk (nt (qs (qb (qs (JC_quiet (by kernel_rfl) (by kernel_rfl) ?_)))))
     refine qN 2 [(18, vi s24), (17, .v (.slice a0_0 x0.length c0_0))] [5, 0, 1] ?_
     obtain ⟨x40, hx41, h42⟩ := bS h38
     refine qi 6 (fun γ w hs => (hv0_0.kept hs.kept)) hx41 ?_
     refine ql 120 0 (vNode x40) (fun γ w hs => (hv0_0.kept hs.kept).flatq hx41) ?_
     refine qN 2 [(22, vi s24), (21, .v (.slice a1_0 x1.length c1_0))] [20, 5, 0, 1] ?_
     obtain ⟨x43, hx44, h45⟩ := bS h42
     refine qi 6 (fun γ w hs => (hv1_0.kept hs.kept)) hx44 ?_
     refine ql 120 0 (vNode x43) (fun γ w hs => (hv1_0.kept hs.kept).flatq hx44) ?_
     obtain ⟨t46, h47, h48⟩ := bS h45
     refine q0 (fun γ w hs => c_laws_eqNode h47) ?_
     refine qN 1 [(26, vb (!t46))] [5, 0, 1] ?_
     refine qz (nt (cC h48 (fun h51 => ?_) (fun h52 => ?_)))
     · refine qs (qr (oN 1 [(4, vb false)] [] ?_))
       refine oe (nt (qe (br (nr (nr ?_)))))
       have h53 := leafR hd33 h51 h29
       refine br (nr (nr ?_))
       obtain rfl := sI h53
       exact re [.bool false]
     refine qk (bn (nt (qr (oN 3 [(5, vi (w64 (s24 + 1)))] [0, 1] ?_))))
     exact oe (ct h52 () [5, 0, 1] [] 0)
   refine qx (nx (nx (bh ?_)))
   have h54 := leafB hd33 h39 h29
   exact mp ((), ()) h54 [] [] 0
 have h36 := (congrFun hk31 _).symm.trans h36p
 refine nt (qs (qr (oN 1 [(4, vb true)] [] ?_)))
 refine oe (nt (qe ?_))
 obtain rfl := sI h36
 exact re [.bool true]

theorem c_laws_eqRule {W : World} {x0 : Rule} {a0_0 : Option Addr} {c0_0 : Nat} {x1 : Rule} {a1_0 : Option Addr} {c1_0 : Nat} {r : Bool} (h : laws_eqRule x0 x1 = some r) (hv0_0 : SlView W x0.Nodes a0_0 c0_0) (hv1_0 : SlView W x1.Nodes a1_0 c1_0) :
    Gives0 Tryz.prog 27 #[vRule x0 (a0_0, c0_0), vRule x1 (a1_0, c1_0)] W (.bool r) := by
 unfold laws_eqRule at h
 refine en Tryz.func27 Tryz.ntmps27 ?_
 refine qs (qr (oB 3 [(3, .p 1 0), (2, .p 0 0)] [] [(69, (eRule x0 (a0_0, c0_0))), (69, (eRule x1 (a1_0, c1_0)))] ?_))
 refine oe (nt (qs (qs (qr (oN 5 [(9, vb (x0.Name != x1.Name))] [3, 2] ?_)))))
 refine oe (nt (cC h (fun h22 => ?_) (fun h23 => ?_)))
 · refine qs (qr (oN 1 [(4, vb false)] [] ?_))
   refine oe (nt (qe (nr ?_)))
   obtain rfl := sI h22
   exact re [.bool false]
 refine qk (nt (qs (qs (qr (oN 5 [(14, vb (x0.From != x1.From))] [3, 2] ?_)))))
 refine oe (nt (cC h23 (fun h25 => ?_) (fun h26 => ?_)))
 · refine qs (qr (oN 1 [(4, vb false)] [] ?_))
   refine oe (nt (qe (nr ?_)))
   obtain rfl := sI h25
   exact re [.bool false]
 refine qk (nt (qs (qs (qr (oN 5 [(19, vb (x0.To != x1.To))] [3, 2] ?_)))))
 refine oe (nt (cC h26 (fun h28 => ?_) (fun h29 => ?_)))
 · refine qs (qr (oN 1 [(4, vb false)] [] ?_))
   refine oe (nt (qe (nr ?_)))
   obtain rfl := sI h28
   exact re [.bool false]
 refine qk (nt (qs (qs (qr (oN 5 [(24, vb (x0.Joined != x1.Joined))] [3, 2] ?_)))))
 refine oe (nt (cC h29 (fun h31 => ?_) (fun h32 => ?_)))
 · refine qs (qr (oN 1 [(4, vb false)] [] ?_))
   refine oe (nt (qe (nr ?_)))
   obtain rfl := sI h31
   exact re [.bool false]
 refine qk (nt (qs (qs (qr (oN 5 [(29, vb (x0.Rank != x1.Rank))] [3, 2] ?_)))))
 refine oe (nt (cC h32 (fun h34 => ?_) (fun h35 => ?_)))
 · refine qs (qr (oN 1 [(4, vb false)] [] ?_))
   refine oe (nt (qe (nr ?_)))
   obtain rfl := sI h34
   exact re [.bool false]
 refine qk (nt (qs (qs (qr (oN 5 [(34, vb (x0.Mode != x1.Mode))] [3, 2] ?_)))))
 refine oe (nt (cC h35 (fun h37 => ?_) (fun h38 => ?_)))
 · refine qs (qr (oN 1 [(4, vb false)] [] ?_))
   refine oe (nt (qe (nr ?_)))
   obtain rfl := sI h37
   exact re [.bool false]
 refine qk (nt (qs (qs (qr (oN 4 [(38, .v (.slice a1_0 x1.Nodes.length c1_0)), (36, .v (.slice a0_0 x0.Nodes.length c0_0))] [] ?_)))))
 obtain ⟨t39, h40, h41⟩ := bS h38
 refine k0 (fun γ w hs => c_laws_eqNodeS h40 (hv0_0.kept hs.kept) (hv1_0.kept hs.kept)) ?_
 refine oN 1 [(40, vb (!t39))] [] ?_
 refine oe (nt (cC h41 (fun h44 => ?_) (fun h45 => ?_)))
 · refine qs (qr (oN 1 [(4, vb false)] [] ?_))
   refine oe (nt (qe (nr ?_)))
   obtain rfl := sI h44
   exact re [.bool false]
 refine qk (nt (qs (qr (oN 1 [(4, vb true)] [] ?_))))
 refine oe (nt (qe ?_))
 obtain rfl := sI h45
 exact re [.bool true]

theorem c_laws_eqRuleS {W : World} {x0 : List Rule} {a0_0 : Option Addr} {c0_0 : Nat} {x1 : List Rule} {a1_0 : Option Addr} {c1_0 : Nat} {r : Bool} (h : laws_eqRuleS x0 x1 = some r) (hv0_0 : SlView W x0 a0_0 c0_0) (hv1_0 : SlView W x1 a1_0 c1_0) :
    Gives0 Tryz.prog 121 #[.slice a0_0 x0.length c0_0, .slice a1_0 x1.length c1_0] W (.bool r) := by
 unfold laws_eqRuleS at h
 refine en Tryz.func121 Tryz.ntmps121 ?_
 refine qs (qr (oN 1 [] [0, 1] ?_))
 refine oe (nt (qs (qs (qr (oN 5 [(10, vb ((x0.length : Int) != (x1.length : Int)))] [0, 1] ?_)))))
 refine oe (nt (cC h (fun h22 => ?_) (fun h23 => ?_)))
 · refine qs (qr (oN 1 [(4, vb false)] [] ?_))
   refine oe (nt (qe (nr ?_)))
   obtain rfl := sI h22
   exact re [.bool false]
 refine qk (nt (qs (qs (qr (oN 1 [(5, vi 0)] [0, 1] ?_)))))
 refine oe (nt ?_)
 obtain ⟨r27, hL28, h29⟩ := bS h23
 obtain ⟨k30, hk31, h29⟩ := brkS h29
 refine JC_cutP (τ := (Unit) × (Unit)) (fun y => k30 y.1 = some r) (fun y35 => []) (fun y35 => []) (fun y35 => []) ?_ (fun y35 h36p => ?_)
 · refine qb (lp Unit hL28 (fun s24 y25 => [(5, vi s24), (0, .v (.slice a0_0 x0.length c0_0)), (1, .v (.slice a1_0 x1.length c1_0))]) (fun s24 y25 => []) (fun s24 y25 => []) () [5, 0, 1] [] 0 (fun s24 y25 t26 h32 hd33 => ?_))
   refine qs (qs (qr (oN 4 [(14, vb (decide (s24 < (x0.length : Int))))] [5, 0, 1] ?_)))
   refine oe (nt (cC h32 (fun h38 => ?_) (fun h39 => ?_)))
   · refine qk (nt (qs (qb (qs (JC_quiet (by kernel_rfl) (by kernel_rfl) ?_)))))
     refine qN 2 [(18, vi s24), (17, .v (.slice a0_0 x0.length c0_0))] [5, 0, 1] ?_
     obtain ⟨x40, hx41, h42⟩ := bS h38
     refine qi 7 (fun γ w hs => (hv0_0.kept hs.kept)) hx41 ?_
     obtain ⟨_, ⟨a43, c44, rfl, hv45⟩, hc46⟩ := SlView.at hv0_0 (idx_some hx41).2.2
     refine ql 69 0 (vRule x40 (a43, c44)) (fun γ w hs => ⟨(hv0_0.kept hs.kept).ne (idx_some hx41).2.2, hc46.kept hs.kept⟩) ?_
     refine qN 2 [(22, vi s24), (21, .v (.slice a1_0 x1.length c1_0))] [20, 5, 0, 1] ?_
     obtain ⟨x47, hx48, h49⟩ := bS h42
     refine qi 7 (fun γ w hs => (hv1_0.kept hs.kept)) hx48 ?_
     obtain ⟨_, ⟨a50, c51, rfl, hv52⟩, hc53⟩ := SlView.at hv1_0 (idx_some hx48).2.2
     refine ql 69 0 (vRule x47 (a50, c51)) (fun γ w hs => ⟨(hv1_0.kept hs.kept).ne (idx_some hx48).2.2, hc53.kept hs.kept⟩) ?_
     obtain ⟨t54, h55, h56⟩ := bS h49
     refine q0 (fun γ w hs => c_laws_eqRule h55 (hv45.kept hs.kept) (hv52.kept hs.kept)) ?_
     refine qN 1 [(26, vb (!t54))] [5, 0, 1] ?_
     refine qz (nt (cC h56 (fun h59 => ?_) (fun h60 => ?_)))
     · refine qs (qr (oN 1 [(4, vb false)] [] ?_))
       refine oe (nt (qe (br (nr (nr ?_)))))
       have h61 := leafR hd33 h59 h29
       refine br (nr (nr ?_))
       obtain rfl := sI h61
       exact re [.bool false]
     refine qk (bn (nt (qr (oN 3 [(5, vi (w64 (s24 + 1)))] [0, 1] ?_))))
     exact oe (ct h60 () [5, 0, 1] [] 0)
   refine qx (nx (nx (bh ?_)))
   have h62 := leafB hd33 h39 h29
   exact mp ((), ()) h62 [] [] 0
 have h36 := (congrFun hk31 _).symm.trans h36p
 refine nt (qs (qr (oN 1 [(4, vb true)] [] ?_)))
 refine oe (nt (qe ?_))
 obtain rfl := sI h36
 exact re [.bool true]

theorem c_laws_eqBook {W : World} {x0 : Book} {a0_0 : Option Addr} {c0_0 : Nat} {x1 : Book} {a1_0 : Option Addr} {c1_0 : Nat} {r : Bool} (h : laws_eqBook x0 x1 = some r) (hv0_0 : SlView W x0.Rules a0_0 c0_0) (hv1_0 : SlView W x1.Rules a1_0 c1_0) :
    Gives0 Tryz.prog 73 #[vBook x0 (a0_0, c0_0), vBook x1 (a1_0, c1_0)] W (.bool r) := by
 unfold laws_eqBook at h
 refine en Tryz.func73 Tryz.ntmps73 ?_
 refine qs (qr (oB 3 [(3, .p 1 0), (2, .p 0 0)] [] [(42, (eBook x0 (a0_0, c0_0))), (42, (eBook x1 (a1_0, c1_0)))] ?_))
 refine oe (nt (qs (qs (qr (oN 4 [(8, .v (.slice a1_0 x1.Rules.length c1_0)), (6, .v (.slice a0_0 x0.Rules.length c0_0))] [] ?_)))))
 obtain ⟨t21, h22, h23⟩ := bS h
 refine k0 (fun γ w hs => c_laws_eqRuleS h22 (hv0_0.kept hs.kept) (hv1_0.kept hs.kept)) ?_
 refine oN 1 [(10, vb (!t21))] [] ?_
 refine oe (nt (cC h23 (fun h26 => ?_) (fun h27 => ?_)))
 · refine qs (qr (oN 1 [(4, vb false)] [] ?_))
   refine oe (nt (qe (nr ?_)))
   obtain rfl := sI h26
   exact re [.bool false]
 refine qk (nt (qs (qr (oN 1 [(4, vb true)] [] ?_))))
 refine oe (nt (qe ?_))
 obtain rfl := sI h27
 exact re [.bool true]

theorem c_laws_eqFact {W : World} {x0 : Fact} {x1 : Fact} {r : Bool} (h : laws_eqFact x0 x1 = some r)  :
    Gives0 Tryz.prog 180 #[vFact x0, vFact x1] W (.bool r) := by
 unfold laws_eqFact at h
 refine en Tryz.func180 Tryz.ntmps180 ?_
 refine qs (qr (oB 3 [(3, .p 1 0), (2, .p 0 0)] [] [(203, (eFact x0)), (203, (eFact x1))] ?_))
 refine oe (nt (qs (qs (qr (oN 5 [(9, vb (x0.Key != x1.Key))] [3, 2] ?_)))))
 refine oe (nt (cC h (fun h22 => ?_) (fun h23 => ?_)))
 · refine qs (qr (oN 1 [(4, vb false)] [] ?_))
   refine oe (nt (qe (nr ?_)))
   obtain rfl := sI h22
   exact re [.bool false]
 refine qk (nt (qs (qs (qr (oN 5 [(14, vb (x0.From != x1.From))] [3, 2] ?_)))))
 refine oe (nt (cC h23 (fun h25 => ?_) (fun h26 => ?_)))
 · refine qs (qr (oN 1 [(4, vb false)] [] ?_))
   refine oe (nt (qe (nr ?_)))
   obtain rfl := sI h25
   exact re [.bool false]
 refine qk (nt (qs (qs (qr (oN 5 [(19, vb (x0.To != x1.To))] [3, 2] ?_)))))
 refine oe (nt (cC h26 (fun h28 => ?_) (fun h29 => ?_)))
 · refine qs (qr (oN 1 [(4, vb false)] [] ?_))
   refine oe (nt (qe (nr ?_)))
   obtain rfl := sI h28
   exact re [.bool false]
 refine qk (nt (qs (qs (qr (oN 5 [(24, vb (x0.Known != x1.Known))] [3, 2] ?_)))))
 refine oe (nt (cC h29 (fun h31 => ?_) (fun h32 => ?_)))
 · refine qs (qr (oN 1 [(4, vb false)] [] ?_))
   refine oe (nt (qe (nr ?_)))
   obtain rfl := sI h31
   exact re [.bool false]
 refine qk (nt (qs (qs (qr (oN 5 [(29, vb (x0.Value != x1.Value))] [] ?_)))))
 refine oe (nt (cC h32 (fun h34 => ?_) (fun h35 => ?_)))
 · refine qs (qr (oN 1 [(4, vb false)] [] ?_))
   refine oe (nt (qe (nr ?_)))
   obtain rfl := sI h34
   exact re [.bool false]
 refine qk (nt (qs (qr (oN 1 [(4, vb true)] [] ?_))))
 refine oe (nt (qe ?_))
 obtain rfl := sI h35
 exact re [.bool true]

theorem c_laws_eqFactS {W : World} {x0 : List Fact} {a0_0 : Option Addr} {c0_0 : Nat} {x1 : List Fact} {a1_0 : Option Addr} {c1_0 : Nat} {r : Bool} (h : laws_eqFactS x0 x1 = some r) (hv0_0 : SlView W x0 a0_0 c0_0) (hv1_0 : SlView W x1 a1_0 c1_0) :
    Gives0 Tryz.prog 122 #[.slice a0_0 x0.length c0_0, .slice a1_0 x1.length c1_0] W (.bool r) := by
 unfold laws_eqFactS at h
 refine en Tryz.func122 Tryz.ntmps122 ?_
 refine qs (qr (oN 1 [] [0, 1] ?_))
 refine oe (nt (qs (qs (qr (oN 5 [(10, vb ((x0.length : Int) != (x1.length : Int)))] [0, 1] ?_)))))
 refine oe (nt (cC h (fun h22 => ?_) (fun h23 => ?_)))
 · refine qs (qr (oN 1 [(4, vb false)] [] ?_))
   refine oe (nt (qe (nr ?_)))
   obtain rfl := sI h22
   exact re [.bool false]
 refine qk (nt (qs (qs (qr (oN 1 [(5, vi 0)] [0, 1] ?_)))))
 refine oe (nt ?_)
 obtain ⟨r27, hL28, h29⟩ := bS h23
 obtain ⟨k30, hk31, h29⟩ := brkS h29
 refine JC_cutP (τ := (Unit) × (Unit)) (fun y => k30 y.1 = some r) (fun y35 => []) (fun y35 => []) (fun y35 => []) ?_ (fun y35 h36p => ?_)
 · refine qb (lp Unit hL28 (fun s24 y25 => [(5, vi s24), (0, .v (.slice a0_0 x0.length c0_0)), (1, .v (.slice a1_0 x1.length c1_0))]) (fun s24 y25 => []) (fun s24 y25 => []) () [5, 0, 1] [] 0 (fun s24 y25 t26 h32 hd33 => ?_))
   refine qs (qs (qr (oN 4 [(14, vb (decide (s24 < (x0.length : Int))))] [5, 0, 1] ?_)))
   refine oe (nt (cC h32 (fun h38 => ?_) (fun h39 => ?_)))
   · refine qk (nt (qs (qb (qs (JC_quiet (by kernel_rfl) (by kernel_rfl) ?_)))))
     refine qN 2 [(18, vi s24), (17, .v (.slice a0_0 x0.length c0_0))] [5, 0, 1] ?_
     obtain ⟨x40, hx41, h42⟩ := bS h38
     refine qi 5 (fun γ w hs => (hv0_0.kept hs.kept)) hx41 ?_
     refine ql 203 0 (vFact x40) (fun γ w hs => (hv0_0.kept hs.kept).flatq hx41) ?_
     refine qN 2 [(22, vi s24), (21, .v (.slice a1_0 x1.length c1_0))] [20, 5, 0, 1] ?_
     obtain ⟨x43, hx44, h45⟩ := bS h42
     refine qi 5 (fun γ w hs => (hv1_0.kept hs.kept)) hx44 ?_
     refine ql 203 0 (vFact x43) (fun γ w hs => (hv1_0.kept hs.kept).flatq hx44) ?_
     obtain ⟨t46, h47, h48⟩ := bS h45
     refine q0 (fun γ w hs => c_laws_eqFact h47) ?_
     refine qN 1 [(26, vb (!t46))] [5, 0, 1] ?_
     refine qz (nt (cC h48 (fun h51 => ?_) (fun h52 => ?_)))
     · refine qs (qr (oN 1 [(4, vb false)] [] ?_))
       refine oe (nt (qe (br (nr (nr ?_)))))
       have h53 := leafR hd33 h51 h29
       refine br (nr (nr ?_))
       obtain rfl := sI h53
       exact re [.bool false]
     refine qk (bn (nt (qr (oN 3 [(5, vi (w64 (s24 + 1)))] [0, 1] ?_))))
     exact oe (ct h52 () [5, 0, 1] [] 0)
   refine qx (nx (nx (bh ?_)))
   have h54 := leafB hd33 h39 h29
   exact mp ((), ()) h54 [] [] 0
 have h36 := (congrFun hk31 _).symm.trans h36p
 refine nt (qs (qr (oN 1 [(4, vb true)] [] ?_)))
 refine oe (nt (qe ?_))
 obtain rfl := sI h36
 exact re [.bool true]

theorem c_laws_eqStore {W : World} {x0 : Store} {a0_0 : Option Addr} {c0_0 : Nat} {x1 : Store} {a1_0 : Option Addr} {c1_0 : Nat} {r : Bool} (h : laws_eqStore x0 x1 = some r) (hv0_0 : SlView W x0.Facts a0_0 c0_0) (hv1_0 : SlView W x1.Facts a1_0 c1_0) :
    Gives0 Tryz.prog 74 #[vStore x0 (a0_0, c0_0), vStore x1 (a1_0, c1_0)] W (.bool r) := by
 unfold laws_eqStore at h
 refine en Tryz.func74 Tryz.ntmps74 ?_
 refine qs (qr (oB 3 [(3, .p 1 0), (2, .p 0 0)] [] [(45, (eStore x0 (a0_0, c0_0))), (45, (eStore x1 (a1_0, c1_0)))] ?_))
 refine oe (nt (qs (qs (qr (oN 4 [(8, .v (.slice a1_0 x1.Facts.length c1_0)), (6, .v (.slice a0_0 x0.Facts.length c0_0))] [] ?_)))))
 obtain ⟨t21, h22, h23⟩ := bS h
 refine k0 (fun γ w hs => c_laws_eqFactS h22 (hv0_0.kept hs.kept) (hv1_0.kept hs.kept)) ?_
 refine oN 1 [(10, vb (!t21))] [] ?_
 refine oe (nt (cC h23 (fun h26 => ?_) (fun h27 => ?_)))
 · refine qs (qr (oN 1 [(4, vb false)] [] ?_))
   refine oe (nt (qe (nr ?_)))
   obtain rfl := sI h26
   exact re [.bool false]
 refine qk (nt (qs (qr (oN 1 [(4, vb true)] [] ?_))))
 refine oe (nt (qe ?_))
 obtain rfl := sI h27
 exact re [.bool true]

theorem c_laws_eqPoint {W : World} {x0 : Point} {x1 : Point} {r : Bool} (h : laws_eqPoint x0 x1 = some r)  :
    Gives0 Tryz.prog 181 #[vPoint x0, vPoint x1] W (.bool r) := by
 unfold laws_eqPoint at h
 refine en Tryz.func181 Tryz.ntmps181 ?_
 refine qs (qr (oB 3 [(3, .p 1 0), (2, .p 0 0)] [] [(207, (ePoint x0)), (207, (ePoint x1))] ?_))
 refine oe (nt (qs (qs (qr (oN 5 [(9, vb (x0.Month != x1.Month))] [3, 2] ?_)))))
 refine oe (nt (cC h (fun h22 => ?_) (fun h23 => ?_)))
 · refine qs (qr (oN 1 [(4, vb false)] [] ?_))
   refine oe (nt (qe (nr ?_)))
   obtain rfl := sI h22
   exact re [.bool false]
 refine qk (nt (qs (qs (qr (oN 5 [(14, vb (x0.Known != x1.Known))] [3, 2] ?_)))))
 refine oe (nt (cC h23 (fun h25 => ?_) (fun h26 => ?_)))
 · refine qs (qr (oN 1 [(4, vb false)] [] ?_))
   refine oe (nt (qe (nr ?_)))
   obtain rfl := sI h25
   exact re [.bool false]
 refine qk (nt (qs (qs (qr (oN 5 [(19, vb (x0.Value != x1.Value))] [] ?_)))))
 refine oe (nt (cC h26 (fun h28 => ?_) (fun h29 => ?_)))
 · refine qs (qr (oN 1 [(4, vb false)] [] ?_))
   refine oe (nt (qe (nr ?_)))
   obtain rfl := sI h28
   exact re [.bool false]
 refine qk (nt (qs (qr (oN 1 [(4, vb true)] [] ?_))))
 refine oe (nt (qe ?_))
 obtain rfl := sI h29
 exact re [.bool true]

theorem c_laws_eqPointS {W : World} {x0 : List Point} {a0_0 : Option Addr} {c0_0 : Nat} {x1 : List Point} {a1_0 : Option Addr} {c1_0 : Nat} {r : Bool} (h : laws_eqPointS x0 x1 = some r) (hv0_0 : SlView W x0 a0_0 c0_0) (hv1_0 : SlView W x1 a1_0 c1_0) :
    Gives0 Tryz.prog 123 #[.slice a0_0 x0.length c0_0, .slice a1_0 x1.length c1_0] W (.bool r) := by
 unfold laws_eqPointS at h
 refine en Tryz.func123 Tryz.ntmps123 ?_
 refine qs (qr (oN 1 [] [0, 1] ?_))
 refine oe (nt (qs (qs (qr (oN 5 [(10, vb ((x0.length : Int) != (x1.length : Int)))] [0, 1] ?_)))))
 refine oe (nt (cC h (fun h22 => ?_) (fun h23 => ?_)))
 · refine qs (qr (oN 1 [(4, vb false)] [] ?_))
   refine oe (nt (qe (nr ?_)))
   obtain rfl := sI h22
   exact re [.bool false]
 refine qk (nt (qs (qs (qr (oN 1 [(5, vi 0)] [0, 1] ?_)))))
 refine oe (nt ?_)
 obtain ⟨r27, hL28, h29⟩ := bS h23
 obtain ⟨k30, hk31, h29⟩ := brkS h29
 refine JC_cutP (τ := (Unit) × (Unit)) (fun y => k30 y.1 = some r) (fun y35 => []) (fun y35 => []) (fun y35 => []) ?_ (fun y35 h36p => ?_)
 · refine qb (lp Unit hL28 (fun s24 y25 => [(5, vi s24), (0, .v (.slice a0_0 x0.length c0_0)), (1, .v (.slice a1_0 x1.length c1_0))]) (fun s24 y25 => []) (fun s24 y25 => []) () [5, 0, 1] [] 0 (fun s24 y25 t26 h32 hd33 => ?_))
   refine qs (qs (qr (oN 4 [(14, vb (decide (s24 < (x0.length : Int))))] [5, 0, 1] ?_)))
   refine oe (nt (cC h32 (fun h38 => ?_) (fun h39 => ?_)))
   · refine qk (nt (qs (qb (qs (JC_quiet (by kernel_rfl) (by kernel_rfl) ?_)))))
     refine qN 2 [(18, vi s24), (17, .v (.slice a0_0 x0.length c0_0))] [5, 0, 1] ?_
     obtain ⟨x40, hx41, h42⟩ := bS h38
     refine qi 3 (fun γ w hs => (hv0_0.kept hs.kept)) hx41 ?_
     refine ql 207 0 (vPoint x40) (fun γ w hs => (hv0_0.kept hs.kept).flatq hx41) ?_
     refine qN 2 [(22, vi s24), (21, .v (.slice a1_0 x1.length c1_0))] [20, 5, 0, 1] ?_
     obtain ⟨x43, hx44, h45⟩ := bS h42
     refine qi 3 (fun γ w hs => (hv1_0.kept hs.kept)) hx44 ?_
     refine ql 207 0 (vPoint x43) (fun γ w hs => (hv1_0.kept hs.kept).flatq hx44) ?_
     obtain ⟨t46, h47, h48⟩ := bS h45
     refine q0 (fun γ w hs => c_laws_eqPoint h47) ?_
     refine qN 1 [(26, vb (!t46))] [5, 0, 1] ?_
     refine qz (nt (cC h48 (fun h51 => ?_) (fun h52 => ?_)))
     · refine qs (qr (oN 1 [(4, vb false)] [] ?_))
       refine oe (nt (qe (br (nr (nr ?_)))))
       have h53 := leafR hd33 h51 h29
       refine br (nr (nr ?_))
       obtain rfl := sI h53
       exact re [.bool false]
     refine qk (bn (nt (qr (oN 3 [(5, vi (w64 (s24 + 1)))] [0, 1] ?_))))
     exact oe (ct h52 () [5, 0, 1] [] 0)
   refine qx (nx (nx (bh ?_)))
   have h54 := leafB hd33 h39 h29
   exact mp ((), ()) h54 [] [] 0
 have h36 := (congrFun hk31 _).symm.trans h36p
 refine nt (qs (qr (oN 1 [(4, vb true)] [] ?_)))
 refine oe (nt (qe ?_))
 obtain rfl := sI h36
 exact re [.bool true]

theorem c_laws_eqSeries {W : World} {x0 : Series} {a0_0 : Option Addr} {c0_0 : Nat} {x1 : Series} {a1_0 : Option Addr} {c1_0 : Nat} {r : Bool} (h : laws_eqSeries x0 x1 = some r) (hv0_0 : SlView W x0.Points a0_0 c0_0) (hv1_0 : SlView W x1.Points a1_0 c1_0) :
    Gives0 Tryz.prog 75 #[vSeries x0 (a0_0, c0_0), vSeries x1 (a1_0, c1_0)] W (.bool r) := by
 unfold laws_eqSeries at h
 refine en Tryz.func75 Tryz.ntmps75 ?_
 refine qs (qr (oB 3 [(3, .p 1 0), (2, .p 0 0)] [] [(48, (eSeries x0 (a0_0, c0_0))), (48, (eSeries x1 (a1_0, c1_0)))] ?_))
 refine oe (nt (qs (qs (qr (oN 4 [(8, .v (.slice a1_0 x1.Points.length c1_0)), (6, .v (.slice a0_0 x0.Points.length c0_0))] [] ?_)))))
 obtain ⟨t21, h22, h23⟩ := bS h
 refine k0 (fun γ w hs => c_laws_eqPointS h22 (hv0_0.kept hs.kept) (hv1_0.kept hs.kept)) ?_
 refine oN 1 [(10, vb (!t21))] [] ?_
 refine oe (nt (cC h23 (fun h26 => ?_) (fun h27 => ?_)))
 · refine qs (qr (oN 1 [(4, vb false)] [] ?_))
   refine oe (nt (qe (nr ?_)))
   obtain rfl := sI h26
   exact re [.bool false]
 refine qk (nt (qs (qr (oN 1 [(4, vb true)] [] ?_))))
 refine oe (nt (qe ?_))
 obtain rfl := sI h27
 exact re [.bool true]

theorem c_laws_eqSpell {W : World} {x0 : Spell} {x1 : Spell} {r : Bool} (h : laws_eqSpell x0 x1 = some r)  :
    Gives0 Tryz.prog 182 #[vSpell x0, vSpell x1] W (.bool r) := by
 unfold laws_eqSpell at h
 refine en Tryz.func182 Tryz.ntmps182 ?_
 refine qs (qr (oB 3 [(3, .p 1 0), (2, .p 0 0)] [] [(211, (eSpell x0)), (211, (eSpell x1))] ?_))
 refine oe (nt (qs (qs (qr (oN 5 [(9, vb (x0.From != x1.From))] [3, 2] ?_)))))
 refine oe (nt (cC h (fun h22 => ?_) (fun h23 => ?_)))
 · refine qs (qr (oN 1 [(4, vb false)] [] ?_))
   refine oe (nt (qe (nr ?_)))
   obtain rfl := sI h22
   exact re [.bool false]
 refine qk (nt (qs (qs (qr (oN 5 [(14, vb (x0.To != x1.To))] [3, 2] ?_)))))
 refine oe (nt (cC h23 (fun h25 => ?_) (fun h26 => ?_)))
 · refine qs (qr (oN 1 [(4, vb false)] [] ?_))
   refine oe (nt (qe (nr ?_)))
   obtain rfl := sI h25
   exact re [.bool false]
 refine qk (nt (qs (qs (qr (oN 5 [(19, vb (x0.Percent != x1.Percent))] [3, 2] ?_)))))
 refine oe (nt (cC h26 (fun h28 => ?_) (fun h29 => ?_)))
 · refine qs (qr (oN 1 [(4, vb false)] [] ?_))
   refine oe (nt (qe (nr ?_)))
   obtain rfl := sI h28
   exact re [.bool false]
 refine qk (nt (qs (qs (qr (oN 5 [(24, vb (!(x0.Leave == x1.Leave)))] [] ?_)))))
 refine oe (nt (cC h29 (fun h31 => ?_) (fun h32 => ?_)))
 · refine qs (qr (oN 1 [(4, vb false)] [] ?_))
   refine oe (nt (qe (nr ?_)))
   obtain rfl := sI h31
   exact re [.bool false]
 refine qk (nt (qs (qr (oN 1 [(4, vb true)] [] ?_))))
 refine oe (nt (qe ?_))
 obtain rfl := sI h32
 exact re [.bool true]

theorem c_laws_eqSpellS {W : World} {x0 : List Spell} {a0_0 : Option Addr} {c0_0 : Nat} {x1 : List Spell} {a1_0 : Option Addr} {c1_0 : Nat} {r : Bool} (h : laws_eqSpellS x0 x1 = some r) (hv0_0 : SlView W x0 a0_0 c0_0) (hv1_0 : SlView W x1 a1_0 c1_0) :
    Gives0 Tryz.prog 124 #[.slice a0_0 x0.length c0_0, .slice a1_0 x1.length c1_0] W (.bool r) := by
 unfold laws_eqSpellS at h
 refine en Tryz.func124 Tryz.ntmps124 ?_
 refine qs (qr (oN 1 [] [0, 1] ?_))
 refine oe (nt (qs (qs (qr (oN 5 [(10, vb ((x0.length : Int) != (x1.length : Int)))] [0, 1] ?_)))))
 refine oe (nt (cC h (fun h22 => ?_) (fun h23 => ?_)))
 · refine qs (qr (oN 1 [(4, vb false)] [] ?_))
   refine oe (nt (qe (nr ?_)))
   obtain rfl := sI h22
   exact re [.bool false]
 refine qk (nt (qs (qs (qr (oN 1 [(5, vi 0)] [0, 1] ?_)))))
 refine oe (nt ?_)
 obtain ⟨r27, hL28, h29⟩ := bS h23
 obtain ⟨k30, hk31, h29⟩ := brkS h29
 refine JC_cutP (τ := (Unit) × (Unit)) (fun y => k30 y.1 = some r) (fun y35 => []) (fun y35 => []) (fun y35 => []) ?_ (fun y35 h36p => ?_)
 · refine qb (lp Unit hL28 (fun s24 y25 => [(5, vi s24), (0, .v (.slice a0_0 x0.length c0_0)), (1, .v (.slice a1_0 x1.length c1_0))]) (fun s24 y25 => []) (fun s24 y25 => []) () [5, 0, 1] [] 0 (fun s24 y25 t26 h32 hd33 => ?_))
   refine qs (qs (qr (oN 4 [(14, vb (decide (s24 < (x0.length : Int))))] [5, 0, 1] ?_)))
   refine oe (nt (cC h32 (fun h38 => ?_) (fun h39 => ?_)))
   · refine qk (nt (qs (qb (qs (JC_quiet (by kernel_rfl) (by kernel_rfl) ?_)))))
     refine qN 2 [(18, vi s24), (17, .v (.slice a0_0 x0.length c0_0))] [5, 0, 1] ?_
     obtain ⟨x40, hx41, h42⟩ := bS h38
     refine qi 4 (fun γ w hs => (hv0_0.kept hs.kept)) hx41 ?_
     refine ql 211 0 (vSpell x40) (fun γ w hs => (hv0_0.kept hs.kept).flatq hx41) ?_
     refine qN 2 [(22, vi s24), (21, .v (.slice a1_0 x1.length c1_0))] [20, 5, 0, 1] ?_
     obtain ⟨x43, hx44, h45⟩ := bS h42
     refine qi 4 (fun γ w hs => (hv1_0.kept hs.kept)) hx44 ?_
     refine ql 211 0 (vSpell x43) (fun γ w hs => (hv1_0.kept hs.kept).flatq hx44) ?_
     obtain ⟨t46, h47, h48⟩ := bS h45
     refine q0 (fun γ w hs => c_laws_eqSpell h47) ?_
     refine qN 1 [(26, vb (!t46))] [5, 0, 1] ?_
     refine qz (nt (cC h48 (fun h51 => ?_) (fun h52 => ?_)))
     · refine qs (qr (oN 1 [(4, vb false)] [] ?_))
       refine oe (nt (qe (br (nr (nr ?_)))))
       have h53 := leafR hd33 h51 h29
       refine br (nr (nr ?_))
       obtain rfl := sI h53
       exact re [.bool false]
     refine qk (bn (nt (qr (oN 3 [(5, vi (w64 (s24 + 1)))] [0, 1] ?_))))
     exact oe (ct h52 () [5, 0, 1] [] 0)
   refine qx (nx (nx (bh ?_)))
   have h54 := leafB hd33 h39 h29
   exact mp ((), ()) h54 [] [] 0
 have h36 := (congrFun hk31 _).symm.trans h36p
 refine nt (qs (qr (oN 1 [(4, vb true)] [] ?_)))
 refine oe (nt (qe ?_))
 obtain rfl := sI h36
 exact re [.bool true]

theorem c_laws_eqEvent {W : World} {x0 : Event} {x1 : Event} {r : Bool} (h : laws_eqEvent x0 x1 = some r)  :
    Gives0 Tryz.prog 183 #[vEvent x0, vEvent x1] W (.bool r) := by
 unfold laws_eqEvent at h
 refine en Tryz.func183 Tryz.ntmps183 ?_
 refine qs (qr (oB 3 [(3, .p 1 0), (2, .p 0 0)] [] [(215, (eEvent x0)), (215, (eEvent x1))] ?_))
 refine oe (nt (qs (qs (qr (oN 5 [(9, vb (x0.Kind != x1.Kind))] [3, 2] ?_)))))
 refine oe (nt (cC h (fun h22 => ?_) (fun h23 => ?_)))
 · refine qs (qr (oN 1 [(4, vb false)] [] ?_))
   refine oe (nt (qe (nr ?_)))
   obtain rfl := sI h22
   exact re [.bool false]
 refine qk (nt (qs (qs (qr (oN 5 [(14, vb (x0.Month != x1.Month))] [] ?_)))))
 refine oe (nt (cC h23 (fun h25 => ?_) (fun h26 => ?_)))
 · refine qs (qr (oN 1 [(4, vb false)] [] ?_))
   refine oe (nt (qe (nr ?_)))
   obtain rfl := sI h25
   exact re [.bool false]
 refine qk (nt (qs (qr (oN 1 [(4, vb true)] [] ?_))))
 refine oe (nt (qe ?_))
 obtain rfl := sI h26
 exact re [.bool true]

theorem c_laws_eqEventS {W : World} {x0 : List Event} {a0_0 : Option Addr} {c0_0 : Nat} {x1 : List Event} {a1_0 : Option Addr} {c1_0 : Nat} {r : Bool} (h : laws_eqEventS x0 x1 = some r) (hv0_0 : SlView W x0 a0_0 c0_0) (hv1_0 : SlView W x1 a1_0 c1_0) :
    Gives0 Tryz.prog 125 #[.slice a0_0 x0.length c0_0, .slice a1_0 x1.length c1_0] W (.bool r) := by
 unfold laws_eqEventS at h
 refine en Tryz.func125 Tryz.ntmps125 ?_
 refine qs (qr (oN 1 [] [0, 1] ?_))
 refine oe (nt (qs (qs (qr (oN 5 [(10, vb ((x0.length : Int) != (x1.length : Int)))] [0, 1] ?_)))))
 refine oe (nt (cC h (fun h22 => ?_) (fun h23 => ?_)))
 · refine qs (qr (oN 1 [(4, vb false)] [] ?_))
   refine oe (nt (qe (nr ?_)))
   obtain rfl := sI h22
   exact re [.bool false]
 refine qk (nt (qs (qs (qr (oN 1 [(5, vi 0)] [0, 1] ?_)))))
 refine oe (nt ?_)
 obtain ⟨r27, hL28, h29⟩ := bS h23
 obtain ⟨k30, hk31, h29⟩ := brkS h29
 refine JC_cutP (τ := (Unit) × (Unit)) (fun y => k30 y.1 = some r) (fun y35 => []) (fun y35 => []) (fun y35 => []) ?_ (fun y35 h36p => ?_)
 · refine qb (lp Unit hL28 (fun s24 y25 => [(5, vi s24), (0, .v (.slice a0_0 x0.length c0_0)), (1, .v (.slice a1_0 x1.length c1_0))]) (fun s24 y25 => []) (fun s24 y25 => []) () [5, 0, 1] [] 0 (fun s24 y25 t26 h32 hd33 => ?_))
   refine qs (qs (qr (oN 4 [(14, vb (decide (s24 < (x0.length : Int))))] [5, 0, 1] ?_)))
   refine oe (nt (cC h32 (fun h38 => ?_) (fun h39 => ?_)))
   · refine qk (nt (qs (qb (qs (JC_quiet (by kernel_rfl) (by kernel_rfl) ?_)))))
     refine qN 2 [(18, vi s24), (17, .v (.slice a0_0 x0.length c0_0))] [5, 0, 1] ?_
     obtain ⟨x40, hx41, h42⟩ := bS h38
     refine qi 2 (fun γ w hs => (hv0_0.kept hs.kept)) hx41 ?_
     refine ql 215 0 (vEvent x40) (fun γ w hs => (hv0_0.kept hs.kept).flatq hx41) ?_
     refine qN 2 [(22, vi s24), (21, .v (.slice a1_0 x1.length c1_0))] [20, 5, 0, 1] ?_
     obtain ⟨x43, hx44, h45⟩ := bS h42
     refine qi 2 (fun γ w hs => (hv1_0.kept hs.kept)) hx44 ?_
     refine ql 215 0 (vEvent x43) (fun γ w hs => (hv1_0.kept hs.kept).flatq hx44) ?_
     obtain ⟨t46, h47, h48⟩ := bS h45
     refine q0 (fun γ w hs => c_laws_eqEvent h47) ?_
     refine qN 1 [(26, vb (!t46))] [5, 0, 1] ?_
     refine qz (nt (cC h48 (fun h51 => ?_) (fun h52 => ?_)))
     · refine qs (qr (oN 1 [(4, vb false)] [] ?_))
       refine oe (nt (qe (br (nr (nr ?_)))))
       have h53 := leafR hd33 h51 h29
       refine br (nr (nr ?_))
       obtain rfl := sI h53
       exact re [.bool false]
     refine qk (bn (nt (qr (oN 3 [(5, vi (w64 (s24 + 1)))] [0, 1] ?_))))
     exact oe (ct h52 () [5, 0, 1] [] 0)
   refine qx (nx (nx (bh ?_)))
   have h54 := leafB hd33 h39 h29
   exact mp ((), ()) h54 [] [] 0
 have h36 := (congrFun hk31 _).symm.trans h36p
 refine nt (qs (qr (oN 1 [(4, vb true)] [] ?_)))
 refine oe (nt (qe ?_))
 obtain rfl := sI h36
 exact re [.bool true]

theorem c_laws_eqMember {W : World} {x0 : Member} {b0 : AC × AC} {x1 : Member} {b1 : AC × AC} {r : Bool} (h : laws_eqMember x0 x1 = some r) (hv0_0 : SlView W x0.Spells b0.1.1 b0.1.2) (hv0_1 : SlView W x0.Events b0.2.1 b0.2.2) (hv1_0 : SlView W x1.Spells b1.1.1 b1.1.2) (hv1_1 : SlView W x1.Events b1.2.1 b1.2.2) :
    Gives0 Tryz.prog 76 #[vMember x0 b0, vMember x1 b1] W (.bool r) := by
 unfold laws_eqMember at h
 refine en Tryz.func76 Tryz.ntmps76 ?_
 refine qs (qr (oB 3 [(3, .p 1 0), (2, .p 0 0)] [] [(52, (eMember x0 b0)), (52, (eMember x1 b1))] ?_))
 refine oe (nt (qs (qs (qr (oN 5 [(9, vb (x0.Birth != x1.Birth))] [3, 2] ?_)))))
 refine oe (nt (cC h (fun h22 => ?_) (fun h23 => ?_)))
 · refine qs (qr (oN 1 [(4, vb false)] [] ?_))
   refine oe (nt (qe (nr ?_)))
   obtain rfl := sI h22
   exact re [.bool false]
 refine qk (nt (qs (qs (qr (oN 5 [(14, vb (x0.Joined != x1.Joined))] [3, 2] ?_)))))
 refine oe (nt (cC h23 (fun h25 => ?_) (fun h26 => ?_)))
 · refine qs (qr (oN 1 [(4, vb false)] [] ?_))
   refine oe (nt (qe (nr ?_)))
   obtain rfl := sI h25
   exact re [.bool false]
 refine qk (nt (qs (qs (qr (oN 4 [(18, .v (.slice b1.1.1 x1.Spells.length b1.1.2)), (16, .v (.slice b0.1.1 x0.Spells.length b0.1.2))] [3, 2] ?_)))))
 obtain ⟨t27, h28, h29⟩ := bS h26
 refine k0 (fun γ w hs => c_laws_eqSpellS h28 (hv0_0.kept hs.kept) (hv1_0.kept hs.kept)) ?_
 refine oN 1 [(20, vb (!t27))] [3, 2] ?_
 refine oe (nt (cC h29 (fun h32 => ?_) (fun h33 => ?_)))
 · refine qs (qr (oN 1 [(4, vb false)] [] ?_))
   refine oe (nt (qe (nr ?_)))
   obtain rfl := sI h32
   exact re [.bool false]
 refine qk (nt (qs (qs (qr (oN 4 [(24, .v (.slice b1.2.1 x1.Events.length b1.2.2)), (22, .v (.slice b0.2.1 x0.Events.length b0.2.2))] [] ?_)))))
 obtain ⟨t34, h35, h36⟩ := bS h33
 refine k0 (fun γ w hs => c_laws_eqEventS h35 (hv0_1.kept hs.kept) (hv1_1.kept hs.kept)) ?_
 refine oN 1 [(26, vb (!t34))] [] ?_
 refine oe (nt (cC h36 (fun h39 => ?_) (fun h40 => ?_)))
 · refine qs (qr (oN 1 [(4, vb false)] [] ?_))
   refine oe (nt (qe (nr ?_)))
   obtain rfl := sI h39
   exact re [.bool false]
 refine qk (nt (qs (qr (oN 1 [(4, vb true)] [] ?_))))
 refine oe (nt (qe ?_))
 obtain rfl := sI h40
 exact re [.bool true]

theorem c_laws_eqCase {W : World} {x0 : Case} {b0 : AC × AC × AC × AC × AC} {x1 : Case} {b1 : AC × AC × AC × AC × AC} {r : Bool} (h : laws_eqCase x0 x1 = some r) (hv0_0 : SlView W x0.Book.Rules b0.1.1 b0.1.2) (hv0_1 : SlView W x0.Store.Facts b0.2.1.1 b0.2.1.2) (hv0_2 : SlView W x0.Series.Points b0.2.2.1.1 b0.2.2.1.2) (hv0_3 : SlView W x0.Member.Spells b0.2.2.2.1.1 b0.2.2.2.1.2) (hv0_4 : SlView W x0.Member.Events b0.2.2.2.2.1 b0.2.2.2.2.2) (hv1_0 : SlView W x1.Book.Rules b1.1.1 b1.1.2) (hv1_1 : SlView W x1.Store.Facts b1.2.1.1 b1.2.1.2) (hv1_2 : SlView W x1.Series.Points b1.2.2.1.1 b1.2.2.1.2) (hv1_3 : SlView W x1.Member.Spells b1.2.2.2.1.1 b1.2.2.2.1.2) (hv1_4 : SlView W x1.Member.Events b1.2.2.2.2.1 b1.2.2.2.2.2) :
    Gives0 Tryz.prog 19 #[vCase x0 b0, vCase x1 b1] W (.bool r) := by
 unfold laws_eqCase at h
 refine en Tryz.func19 Tryz.ntmps19 ?_
 refine qs (qr (oB 3 [(3, .p 1 0), (2, .p 0 0)] [] [(54, (eCase x0 b0)), (54, (eCase x1 b1))] ?_))
 refine oe (nt (qs (qs (qr (oN 4 [(8, .v (vBook x1.Book b1.1)), (6, .v (vBook x0.Book b0.1))] [3, 2] ?_)))))
 obtain ⟨t21, h22, h23⟩ := bS h
 refine k0 (fun γ w hs => c_laws_eqBook h22 (hv0_0.kept hs.kept) (hv1_0.kept hs.kept)) ?_
 refine oN 1 [(10, vb (!t21))] [3, 2] ?_
 refine oe (nt (cC h23 (fun h26 => ?_) (fun h27 => ?_)))
 · refine qs (qr (oN 1 [(4, vb false)] [] ?_))
   refine oe (nt (qe (nr ?_)))
   obtain rfl := sI h26
   exact re [.bool false]
 refine qk (nt (qs (qs (qr (oN 4 [(14, .v (vStore x1.Store b1.2.1)), (12, .v (vStore x0.Store b0.2.1))] [3, 2] ?_)))))
 obtain ⟨t28, h29, h30⟩ := bS h27
 refine k0 (fun γ w hs => c_laws_eqStore h29 (hv0_1.kept hs.kept) (hv1_1.kept hs.kept)) ?_
 refine oN 1 [(16, vb (!t28))] [3, 2] ?_
 refine oe (nt (cC h30 (fun h33 => ?_) (fun h34 => ?_)))
 · refine qs (qr (oN 1 [(4, vb false)] [] ?_))
   refine oe (nt (qe (nr ?_)))
   obtain rfl := sI h33
   exact re [.bool false]
 refine qk (nt (qs (qs (qr (oN 4 [(20, .v (vSeries x1.Series b1.2.2.1)), (18, .v (vSeries x0.Series b0.2.2.1))] [3, 2] ?_)))))
 obtain ⟨t35, h36, h37⟩ := bS h34
 refine k0 (fun γ w hs => c_laws_eqSeries h36 (hv0_2.kept hs.kept) (hv1_2.kept hs.kept)) ?_
 refine oN 1 [(22, vb (!t35))] [3, 2] ?_
 refine oe (nt (cC h37 (fun h40 => ?_) (fun h41 => ?_)))
 · refine qs (qr (oN 1 [(4, vb false)] [] ?_))
   refine oe (nt (qe (nr ?_)))
   obtain rfl := sI h40
   exact re [.bool false]
 refine qk (nt (qs (qs (qr (oN 4 [(26, .v (vMember x1.Member b1.2.2.2)), (24, .v (vMember x0.Member b0.2.2.2))] [] ?_)))))
 obtain ⟨t42, h43, h44⟩ := bS h41
 refine k0 (fun γ w hs => c_laws_eqMember (b0 := b0.2.2.2) (b1 := b1.2.2.2) h43 (hv0_3.kept hs.kept) (hv0_4.kept hs.kept) (hv1_3.kept hs.kept) (hv1_4.kept hs.kept)) ?_
 refine oN 1 [(28, vb (!t42))] [] ?_
 refine oe (nt (cC h44 (fun h47 => ?_) (fun h48 => ?_)))
 · refine qs (qr (oN 1 [(4, vb false)] [] ?_))
   refine oe (nt (qe (nr ?_)))
   obtain rfl := sI h47
   exact re [.bool false]
 refine qk (nt (qs (qr (oN 1 [(4, vb true)] [] ?_))))
 refine oe (nt (qe ?_))
 obtain rfl := sI h48
 exact re [.bool true]

theorem c_laws_FnExactAuditStatement {W : World} {x0 : Case} {b0 : AC × AC × AC × AC × AC} {x1 : Statement} {r : Bool} (h : laws_FnExactAuditStatement x0 x1 = some r) (hv0_0 : SlView W x0.Book.Rules b0.1.1 b0.1.2) (hv0_1 : SlView W x0.Store.Facts b0.2.1.1 b0.2.1.2) (hv0_2 : SlView W x0.Series.Points b0.2.2.1.1 b0.2.2.1.2) (hv0_3 : SlView W x0.Member.Spells b0.2.2.2.1.1 b0.2.2.2.1.2) (hv0_4 : SlView W x0.Member.Events b0.2.2.2.2.1 b0.2.2.2.2.2) :
    Gives0 Tryz.prog 8 #[vCase x0 b0, vStatement x1] W (.bool r) := by
 unfold laws_FnExactAuditStatement at h
 refine en Tryz.func8 Tryz.ntmps8 ?_
 refine qs (qr (oB 3 [(3, .p 1 0), (2, .p 0 0)] [] [(36, (eCase x0 b0)), (82, (eStatement x1))] ?_))
 refine oe (nt (qs (qr (oN 1 [(5, vi 1048576)] [3, 2] ?_))))
 refine oe (nt (qs (qr (oN 2 [(10, vi 1048576), (9, .v (vCase x0 b0))] [3, 2] ?_))))
 obtain ⟨t21, h22, h23⟩ := bS h
 refine k0 (fun γ w hs => c_laws_szCase (b0 := b0) h22 (hv0_0.kept hs.kept) (hv0_1.kept hs.kept) (hv0_2.kept hs.kept) (hv0_3.kept hs.kept) (hv0_4.kept hs.kept)) ?_
 refine oN 1 [(5, vi t21)] [3, 2] ?_
 refine oe (nt (qs (qs (qr (oN 2 [(13, vb (decide (t21 < 0)))] [3, 2] ?_)))))
 refine oe (nt (cC h23 (fun h26 => ?_) (fun h27 => ?_)))
 · refine qs (qr (oN 1 [(4, vb true)] [] ?_))
   refine oe (nt (qe (nr ?_)))
   obtain rfl := sI h26
   exact re [.bool true]
 refine qk (nt (qs ?_))
 obtain ⟨t28, h29, h30⟩ := bS h27
 obtain ⟨t32, h33, h34⟩ := bS h30
 obtain ⟨t36, h37, h38⟩ := bS h34
 refine JC_cut (τ := Unit) (fun _ => [(6, vb t36), (3, .p 1 0), (2, .p 0 0)]) (fun _ => [(36, (eCase x0 b0)), (82, (eStatement x1))]) (fun _ => []) ?_ (fun _ => ?_)
 · refine jw [3, 2] [] ?_
   refine JC_heldN (ks := [0, 1]) (Rk := []) 6 (by kernel_rfl) (by kernel_rfl) ?_
   refine htq 0 (.v (vCase x0 b0)) [] ?_
   refine htq 2 (.v (vStatement x1)) [] ?_
   refine ha1 1 ?_
   refine hi (fun γ0 δ hm => ?_)
   refine g1 (fun w hs => c_laws_toCase (b0 := b0) h29 (hv0_0.kept hs.kept) (hv0_1.kept hs.kept) (hv0_2.kept hs.kept) (hv0_3.kept hs.kept) (hv0_4.kept hs.kept)) (fun y31 => ?_)
   refine gn hm [15, 16, 3, 2] [] ?_
   refine ha1 3 ?_
   refine hi (fun γ0 δ hm => ?_)
   refine g0 (fun w hs => c_laws_toStatement h33) ?_
   refine gn hm [17, 15, 3, 2] [] ?_
   refine ha1 4 ?_
   refine hi (fun γ0 δ hm => ?_)
   refine g0 (fun w hs => c_spec_AuditStatement (b0 := y31) h37 (hs.view 0 rfl) (hs.view 1 rfl) (hs.view 2 rfl) (hs.view 3 rfl) (hs.view 4 rfl)) ?_
   refine gn hm [18, 3, 2] [] ?_
   refine htq 5 (vb t36) [] ?_
   refine hk [6, 3, 2] ?_
   exact hd () [6, 3, 2] [] 2
 refine nt (qs (qr (oN 1 [(19, .v (vCase x0 b0))] [6, 3, 2] ?_)))
 obtain ⟨t41, h42, h43⟩ := bS h38
 refine k1 (fun γ w hs => c_laws_toCase (b0 := b0) h42 (hv0_0.kept hs.kept) (hv0_1.kept hs.kept) (hv0_2.kept hs.kept) (hv0_3.kept hs.kept) (hv0_4.kept hs.kept)) (fun y44 => ?_)
 refine oB 2 [(7, .p 2 0)] [6, 3, 2] [(36, (eCase x0 b0)), (82, (eStatement x1)), (54, (eCase t41 y44))] ?_
 refine oe (nt (qs (JC_quiet (by kernel_rfl) (by kernel_rfl) ?_)))
 refine qN 2 [(22, .v (vStatement x1)), (21, .v (vCase t41 y44))] [7, 6, 2] ?_
 obtain ⟨t45, h46, h47⟩ := bS h43
 refine q0 (fun γ w hs => c_laws_toStatement h46) ?_
 obtain ⟨t49, h50, h51⟩ := bS h47
 refine q0 (fun γ w hs => c_impl_AuditStatement (b0 := y44) h50 (hs.view 0 rfl) (hs.view 1 rfl) (hs.view 2 rfl) (hs.view 3 rfl) (hs.view 4 rfl)) ?_
 refine qN 1 [(8, vb t49)] [7, 6, 2] ?_
 refine qz (nt (qs (qs (qr (oN 3 [(27, vb (!(t49 == t36)))] [7, 2] ?_)))))
 refine oe (nt (cC h51 (fun h54 => ?_) (fun h55 => ?_)))
 · refine qs (qr (oN 1 [(4, vb false)] [] ?_))
   refine oe (nt (qe (nr ?_)))
   obtain rfl := sI h54
   exact re [.bool false]
 refine qk (nt (qs (qs ?_)))
 obtain ⟨t56, h57, h58⟩ := bS h55
 obtain ⟨t60, h61, h62⟩ := bS h58
 refine JC_cut (τ := Unit) (fun _ => [(32, vb (!t60))]) (fun _ => [(36, (eCase x0 b0)), (82, (eStatement x1)), (54, (eCase t41 y44))]) (fun _ => [SlRes 69 t41.Book.Rules y44.1.1 y44.1.2, SlRes 203 t41.Store.Facts y44.2.1.1 y44.2.1.2, SlRes 207 t41.Series.Points y44.2.2.1.1 y44.2.2.1.2, SlRes 211 t41.Member.Spells y44.2.2.2.1.1 y44.2.2.2.1.2, SlRes 215 t41.Member.Events y44.2.2.2.2.1 y44.2.2.2.2.2]) ?_ (fun _ => ?_)
 · refine JC_weak [7, 2] [0, 0, 0, 0, 0] 3 (sl' := [(7, .p 2 0), (2, .p 0 0)]) (bx' := [(36, (eCase x0 b0)), (82, (eStatement x1)), (54, (eCase t41 y44))]) (R' := [SlRes 69 t41.Book.Rules y44.1.1 y44.1.2, SlRes 203 t41.Store.Facts y44.2.1.1 y44.2.1.2, SlRes 207 t41.Series.Points y44.2.2.1.1 y44.2.2.1.2, SlRes 211 t41.Member.Spells y44.2.2.2.1.1 y44.2.2.2.1.2, SlRes 215 t41.Member.Events y44.2.2.2.2.1 y44.2.2.2.2.2]) (by kernel_rfl) (by kernel_rfl) (by kernel_rfl) (by kernel_rfl) ?_
   refine JC_heldN (ks := [0, 1, 2]) (Rk := [SlRes 69 t41.Book.Rules y44.1.1 y44.1.2, SlRes 203 t41.Store.Facts y44.2.1.1 y44.2.1.2, SlRes 207 t41.Series.Points y44.2.2.1.1 y44.2.2.1.2, SlRes 211 t41.Member.Spells y44.2.2.2.1.1 y44.2.2.2.1.2, SlRes 215 t41.Member.Events y44.2.2.2.2.1 y44.2.2.2.2.2]) 5 (by kernel_rfl) (by kernel_rfl) ?_
   refine htq 0 (.v (vCase t41 y44)) [0, 0, 0, 0, 0] ?_
   refine hk [28, 2] ?_
   refine htq 1 (.v (vCase x0 b0)) [0, 0, 0, 0, 0] ?_
   refine hk [29, 28] ?_
   refine ha1 2 ?_
   refine hi (fun γ0 δ hm => ?_)
   refine g1 (fun w hs => c_laws_toCase (b0 := b0) h57 (hv0_0.kept hs.kept) (hv0_1.kept hs.kept) (hv0_2.kept hs.kept) (hv0_3.kept hs.kept) (hv0_4.kept hs.kept)) (fun y59 => ?_)
   refine gn hm [30, 28] [5, 5, 5, 5, 5] ?_
   refine ha1 3 ?_
   refine hi (fun γ0 δ hm => ?_)
   refine g0 (fun w hs => c_laws_eqCase (b0 := y44) (b1 := y59) h61 (hs.view 5 rfl) (hs.view 6 rfl) (hs.view 7 rfl) (hs.view 8 rfl) (hs.view 9 rfl) (hs.view 0 rfl) (hs.view 1 rfl) (hs.view 2 rfl) (hs.view 3 rfl) (hs.view 4 rfl)) ?_
   refine gn hm [31] [5, 5, 5, 5, 5] ?_
   refine htq 4 (vb (!t60)) [5, 5, 5, 5, 5] ?_
   refine hk [32] ?_
   exact hd () [32] [5, 5, 5, 5, 5] 3
 refine nt (cC h62 (fun h66 => ?_) (fun h67 => ?_))
 · refine qs (qr (oN 1 [(4, vb false)] [] ?_))
   refine oe (nt (qe (nr ?_)))
   obtain rfl := sI h66
   exact re [.bool false]
 refine qk (nt (qs (qr (oN 1 [(4, vb true)] [] ?_))))
 refine oe (nt (qe ?_))
 obtain rfl := sI h67
 exact re [.bool true]
end Go.Pen
