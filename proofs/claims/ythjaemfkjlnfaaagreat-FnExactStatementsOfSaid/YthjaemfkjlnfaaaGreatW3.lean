/-
  Each Go function does what its plain function says: written by a program of ours.
-/
import Derived.Test.YthjaemfkjlnfaaaGreatW2
import Derived.Test.YthjaemfkjlnfaaaGreatProg
import Derived.Test.YthjaemfkjlnfaaaGreatPenK
import Derived.Test.YthjaemfkjlnfaaaGreatPenQ
import Derived.Test.YthjaemfkjlnfaaaGreatPenU
namespace Go.Pen
open Go.Proofs Go.RowKit
set_option linter.unusedVariables false
set_option linter.unusedSimpArgs false
set_option maxRecDepth 100000
set_option maxHeartbeats 4000000

theorem c_impl_areFactors {W : World} {x0 : Frac} {x1 : Frac} {r : Bool} (h : impl_areFactors x0 x1 = some r)  :
    Gives0 Tryz.prog 260 #[vFrac x0, vFrac x1] W (.bool r) := by
 unfold impl_areFactors at h
 refine en Tryz.func260 Tryz.ntmps260 ?_
 refine qs (qr (oB 3 [(3, .p 1 0), (2, .p 0 0)] [] [(216, (eFrac x0)), (216, (eFrac x1))] ?_))
 refine oe (nt (qs ?_))
 obtain ⟨p21, hE22, h23⟩ := bS h
 refine JC_cut (τ := Unit) (fun _ => [(4, vb p21)]) (fun _ => [(216, (eFrac x0)), (216, (eFrac x1))]) (fun _ => []) ?_ (fun _ => ?_)
 · refine qr (oN 1 [(5, .v (vFrac x0))] [3, 2] ?_)
   obtain ⟨t24, h25, h26⟩ := bS hE22
   refine k0 (fun γ w hs => c_impl_FracOk h25) ?_
   refine oN 1 [(7, vb t24)] [3, 2] ?_
   refine oS 7 h26 (fun h29 => ?_) (fun h30 => ?_)
   · refine oN 1 [(8, .v (vFrac x1))] [7, 3, 2] ?_
     obtain ⟨t31, h32, h33⟩ := bS h29
     refine k0 (fun γ w hs => c_impl_FracOk h32) ?_
     refine oN 2 [(11, vb t31)] [3, 2] ?_
     refine oS 11 h33 (fun h36 => ?_) (fun h37 => ?_)
     · refine oN 2 [(13, vi x0.Num)] [11, 3] ?_
       obtain ⟨t38, h39, h40⟩ := bS h36
       refine k0 (fun γ w hs => c_impl_within h39) ?_
       refine oN 2 [(16, vb t38)] [3] ?_
       refine oS 16 h40 (fun h43 => ?_) (fun h44 => ?_)
       · refine oN 2 [(18, vi x1.Num)] [16] ?_
         obtain ⟨t45, h46, h47⟩ := bS h43
         refine k0 (fun γ w hs => c_impl_within h46) ?_
         refine oN 2 [(4, vb t45)] [] ?_
         refine oe ?_
         obtain rfl := sI h47
         exact mt () [4] [] 2
       refine oN 5 [(4, vb false)] [] ?_
       refine oe ?_
       obtain rfl := sI h44
       exact mt () [4] [] 2
     refine oN 10 [(4, vb false)] [] ?_
     refine oe ?_
     obtain rfl := sI h37
     exact mt () [4] [] 2
   refine oN 14 [(4, vb false)] [] ?_
   refine oe ?_
   obtain rfl := sI h30
   exact mt () [4] [] 2
 refine nt (qe ?_)
 obtain rfl := sI h23
 exact re [.bool p21]

theorem c_impl_FracMul {W : World} {x0 : Frac} {x1 : Frac} {r : Frac × Bool} (h : impl_FracMul x0 x1 = some r)  :
    Gives0 Tryz.prog 252 #[vFrac x0, vFrac x1] W (.tuple #[vFrac r.1, .bool r.2]) := by
 unfold impl_FracMul at h
 refine en Tryz.func252 Tryz.ntmps252 ?_
 refine qs (qr (oB 4 [(4, .p 2 0), (3, .p 1 0), (2, .p 0 0)] [] [(216, (eFrac x0)), (216, (eFrac x1)), (216, (eFrac (Frac.mk 0 0)))] ?_))
 refine oe (nt (qs (qs (qr (oN 2 [(7, .v (vFrac x1)), (6, .v (vFrac x0))] [4, 3, 2] ?_)))))
 obtain ⟨t21, h22, h23⟩ := bS h
 refine k0 (fun γ w hs => c_impl_areFactors h22) ?_
 refine oN 1 [(9, vb (!t21))] [4, 3, 2] ?_
 refine oe (nt (cC h23 (fun h26 => ?_) (fun h27 => ?_)))
 · refine qs (qr (oN 3 [(5, vb false)] [4] ?_))
   refine oe (nt (qe (nr ?_)))
   obtain rfl := sI h26
   exact re [vFrac (Frac.mk 0 0), .bool false]
 refine qk (nt (qs (qr (oN 10 [(20, vi (w64 (x0.Den * x1.Den))), (15, vi (w64 (x0.Num * x1.Num)))] [4] ?_))))
 obtain ⟨t28, h29, h30⟩ := bS h27
 refine k0 (fun γ w hs => c_impl_reduced h29) ?_
 refine oB 4 [(5, vb t28.2)] [4] [(216, (eFrac x0)), (216, (eFrac x1)), (216, (eFrac t28.1))] ?_
 refine oe (nt (qe ?_))
 obtain rfl := sI h30
 exact re [vFrac t28.1, .bool t28.2]

theorem c_impl_FracDiv {W : World} {x0 : Frac} {x1 : Frac} {r : Frac × Bool} (h : impl_FracDiv x0 x1 = some r)  :
    Gives0 Tryz.prog 253 #[vFrac x0, vFrac x1] W (.tuple #[vFrac r.1, .bool r.2]) := by
 unfold impl_FracDiv at h
 refine en Tryz.func253 Tryz.ntmps253 ?_
 refine qs (qr (oB 4 [(4, .p 2 0), (3, .p 1 0), (2, .p 0 0)] [] [(216, (eFrac x0)), (216, (eFrac x1)), (216, (eFrac (Frac.mk 0 0)))] ?_))
 refine oe (nt (qs (qs ?_)))
 obtain ⟨p21, hE22, h23⟩ := bS h
 refine JC_cut (τ := Unit) (fun _ => [(2, .p 0 0), (3, .p 1 0), (4, .p 2 0), (14, vb p21)]) (fun _ => [(216, (eFrac x0)), (216, (eFrac x1)), (216, (eFrac (Frac.mk 0 0)))]) (fun _ => []) ?_ (fun _ => ?_)
 · refine qr (oN 2 [(7, .v (vFrac x1)), (6, .v (vFrac x0))] [4, 3, 2] ?_)
   obtain ⟨t24, h25, h26⟩ := bS hE22
   refine k0 (fun γ w hs => c_impl_areFactors h25) ?_
   refine oN 2 [(10, vb (!t24))] [4, 3, 2] ?_
   refine oS 10 h26 (fun h29 => ?_) (fun h30 => ?_)
   · refine oN 4 [(14, vb true)] [4, 3, 2] ?_
     refine oe ?_
     obtain rfl := sI h29
     exact mt () [2, 3, 4, 14] [] 3
   refine oN 4 [(14, vb (x1.Num == 0))] [4, 3, 2] ?_
   refine oe ?_
   obtain rfl := sI h30
   exact mt () [2, 3, 4, 14] [] 3
 refine nt (cC h23 (fun h32 => ?_) (fun h33 => ?_))
 · refine qs (qr (oN 3 [(5, vb false)] [4] ?_))
   refine oe (nt (qe (nr ?_)))
   obtain rfl := sI h32
   exact re [vFrac (Frac.mk 0 0), .bool false]
 refine qk (nt (qs (qr (oN 10 [(25, vi (w64 (x0.Den * x1.Num))), (20, vi (w64 (x0.Num * x1.Den)))] [4] ?_))))
 obtain ⟨t34, h35, h36⟩ := bS h33
 refine k0 (fun γ w hs => c_impl_reduced h35) ?_
 refine oB 4 [(5, vb t34.2)] [4] [(216, (eFrac x0)), (216, (eFrac x1)), (216, (eFrac t34.1))] ?_
 refine oe (nt (qe ?_))
 obtain rfl := sI h36
 exact re [vFrac t34.1, .bool t34.2]

theorem c_impl_evalNode {W : World} {x0 : Node} {x1 : List Frac} {a1_0 : Option Addr} {c1_0 : Nat} {x2 : List Frac} {a2_0 : Option Addr} {c2_0 : Nat} {r : Frac × Bool} (h : impl_evalNode x0 x1 x2 = some r) (hv1_0 : SlView W x1 a1_0 c1_0) (hv2_0 : SlView W x2 a2_0 c2_0) :
    Gives0 Tryz.prog 239 #[vNode x0, .slice a1_0 x1.length c1_0, .slice a2_0 x2.length c2_0] W (.tuple #[vFrac r.1, .bool r.2]) := by
 unfold impl_evalNode at h
 refine en Tryz.func239 Tryz.ntmps239 ?_
 refine qs (qr (oB 3 [(6, .p 1 0), (3, .p 0 0)] [1, 2] [(233, (eNode x0)), (216, (eFrac (Frac.mk 0 0)))] ?_))
 refine oe (nt (qs (qs (qr (oN 2 [(12, vi x0.Kind)] [6, 3, 1, 2] ?_)))))
 refine oe (nt (qb (qs (qr (oN 2 [(13, vb (x0.Kind == 1))] [12, 6, 3, 1, 2] ?_)))))
 refine oe (nt (cC h (fun h28 => ?_) (fun h29 => ?_)))
 · refine qs (qr (oB 4 [(7, vb true)] [6] [(233, (eNode x0)), (216, (eFrac x0.Value))] ?_))
   refine oe (nt (qe (br (nr ?_))))
   obtain rfl := sI h28
   exact re [vFrac x0.Value, .bool true]
 refine qs (qr (oN 2 [(17, vb (x0.Kind == 2))] [6, 3, 1, 2] ?_))
 refine oe (nt (cC h29 (fun h34 => ?_) (fun h35 => ?_)))
 · refine qs (qr (oN 3 [(21, vi x0.A), (19, .v (.slice a2_0 x2.length c2_0))] [6] ?_))
   obtain ⟨x36, hx37, h38⟩ := bS h34
   refine oi 2 (fun γ w hs => (hv2_0.kept hs.kept)) hx37 ?_
   refine ol 216 0 (vFrac x36) (fun γ w hs => (hv2_0.kept hs.kept).flatq hx37) ?_
   refine oB 2 [(7, vb true)] [6] [(233, (eNode x0)), (216, (eFrac x36))] ?_
   refine oe (nt (qe (br (nr ?_))))
   obtain rfl := sI h38
   exact re [vFrac x36, .bool true]
 refine qk (bn (nt (qs ?_)))
 obtain ⟨x39, hx40, h41⟩ := bS h35
 obtain ⟨x42, hx43, h44⟩ := bS h41
 refine JC_cut (τ := Unit) (fun _ => [(9, .p 3 0), (8, .p 2 0), (6, .p 1 0), (3, .p 0 0), (1, .v (.slice a1_0 x1.length c1_0))]) (fun _ => [(233, (eNode x0)), (216, (eFrac (Frac.mk 0 0))), (216, (eFrac x39)), (216, (eFrac x42))]) (fun _ => []) ?_ (fun _ => ?_)
 · refine jw [6, 3, 1] [] ?_
   refine JC_heldN (ks := [0, 1]) (Rk := []) 14 (by kernel_rfl) (by kernel_rfl) ?_
   refine htq 0 (.v (.slice a1_0 x1.length c1_0)) [] ?_
   refine htq 1 (.p 0 1) [] ?_
   refine htq 2 (vi x0.A) [] ?_
   refine hk [26, 24, 6, 3, 1] ?_
   refine ht 3 (.q a1_0 (Int.toNat x0.A * 2)) [] (index_held (d := a1_0) (m := x1.length) (j := x0.A) (s := 2) (by kernel_rfl) (fun γ0 w hs => (hv1_0.kept hs.kept)) rfl hx40) ?_
   refine hk [27, 6, 3, 1] ?_
   refine ht 4 (.v (vFrac x39)) [] (loadq_held (t := 216) (d := a1_0) (Int.toNat x0.A * 2) 0 (by kernel_rfl) (cs := (eFrac x39)) (v := vFrac x39) (fun γ0 w hs => (hv1_0.kept hs.kept).flatq hx40) (by kernel_rfl)) ?_
   refine hk [28, 6, 3, 1] ?_
   refine htq 5 (.v (.slice a1_0 x1.length c1_0)) [] ?_
   refine htq 6 (.p 0 2) [] ?_
   refine htq 7 (vi x0.B) [] ?_
   refine hk [31, 29, 28, 6, 3, 1] ?_
   refine ht 8 (.q a1_0 (Int.toNat x0.B * 2)) [] (index_held (d := a1_0) (m := x1.length) (j := x0.B) (s := 2) (by kernel_rfl) (fun γ0 w hs => (hv1_0.kept hs.kept)) rfl hx43) ?_
   refine hk [32, 28, 6, 3, 1] ?_
   refine ht 9 (.v (vFrac x42)) [] (loadq_held (t := 216) (d := a1_0) (Int.toNat x0.B * 2) 0 (by kernel_rfl) (cs := (eFrac x42)) (v := vFrac x42) (fun γ0 w hs => (hv1_0.kept hs.kept).flatq hx43) (by kernel_rfl)) ?_
   refine hk [33, 28, 6, 3, 1] ?_
   refine ha2 10 11 ?_ ?_
   · refine hi (fun γ0 δ hm => ?_)
     refine gs [(8, .p 2 0), (33, .v (vFrac x42)), (28, .v (vFrac x39)), (6, .p 1 0), (3, .p 0 0), (1, .v (.slice a1_0 x1.length c1_0))] [(233, (eNode x0)), (216, (eFrac (Frac.mk 0 0))), (216, (eFrac (Frac.mk 0 0)))] (fun δ2 => ?_)
     refine gd hm [8, 33, 28, 6, 3, 1] [] ?_
     refine ha1 11 ?_
     refine hi (fun γ0 δ hm => ?_)
     refine gs [(9, .p 3 0), (8, .p 2 0), (33, .v (vFrac x42)), (28, .v (vFrac x39)), (6, .p 1 0), (3, .p 0 0), (1, .v (.slice a1_0 x1.length c1_0))] [(233, (eNode x0)), (216, (eFrac (Frac.mk 0 0))), (216, (eFrac (Frac.mk 0 0))), (216, (eFrac (Frac.mk 0 0)))] (fun δ2 => ?_)
     refine gd hm [9, 8, 33, 28, 6, 3, 1] [] ?_
     refine ha1 12 ?_
     refine hi (fun γ0 δ hm => ?_)
     refine gs [(9, .p 3 0), (8, .p 2 0), (33, .v (vFrac x42)), (28, .v (vFrac x39)), (6, .p 1 0), (3, .p 0 0), (1, .v (.slice a1_0 x1.length c1_0))] [(233, (eNode x0)), (216, (eFrac (Frac.mk 0 0))), (216, (eFrac x39)), (216, (eFrac (Frac.mk 0 0)))] (fun δ2 => ?_)
     refine gd hm [9, 8, 33, 6, 3, 1] [] ?_
     refine ha1 13 ?_
     refine hi (fun γ0 δ hm => ?_)
     refine gs [(9, .p 3 0), (8, .p 2 0), (33, .v (vFrac x42)), (6, .p 1 0), (3, .p 0 0), (1, .v (.slice a1_0 x1.length c1_0))] [(233, (eNode x0)), (216, (eFrac (Frac.mk 0 0))), (216, (eFrac x39)), (216, (eFrac x42))] (fun δ2 => ?_)
     refine gd hm [9, 8, 6, 3, 1] [] ?_
     exact hd () [9, 8, 6, 3, 1] [] 4
   · refine hi (fun γ0 δ hm => ?_)
     refine gs [(9, .p 2 0), (33, .v (vFrac x42)), (28, .v (vFrac x39)), (6, .p 1 0), (3, .p 0 0), (1, .v (.slice a1_0 x1.length c1_0))] [(233, (eNode x0)), (216, (eFrac (Frac.mk 0 0))), (216, (eFrac (Frac.mk 0 0)))] (fun δ2 => ?_)
     refine gd hm [9, 33, 28, 6, 3, 1] [] ?_
     refine ha1 10 ?_
     refine hi (fun γ0 δ hm => ?_)
     refine gs [(8, .p 3 0), (9, .p 2 0), (33, .v (vFrac x42)), (28, .v (vFrac x39)), (6, .p 1 0), (3, .p 0 0), (1, .v (.slice a1_0 x1.length c1_0))] [(233, (eNode x0)), (216, (eFrac (Frac.mk 0 0))), (216, (eFrac (Frac.mk 0 0))), (216, (eFrac (Frac.mk 0 0)))] (fun δ2 => ?_)
     refine gd hm [8, 9, 33, 28, 6, 3, 1] [] ?_
     refine ha1 12 ?_
     refine hi (fun γ0 δ hm => ?_)
     refine gs [(8, .p 3 0), (9, .p 2 0), (33, .v (vFrac x42)), (28, .v (vFrac x39)), (6, .p 1 0), (3, .p 0 0), (1, .v (.slice a1_0 x1.length c1_0))] [(233, (eNode x0)), (216, (eFrac (Frac.mk 0 0))), (216, (eFrac (Frac.mk 0 0))), (216, (eFrac x39))] (fun δ2 => ?_)
     refine gd hm [8, 9, 33, 6, 3, 1] [] ?_
     refine ha1 13 ?_
     refine hi (fun γ0 δ hm => ?_)
     refine gs [(8, .p 3 0), (9, .p 2 0), (33, .v (vFrac x42)), (6, .p 1 0), (3, .p 0 0), (1, .v (.slice a1_0 x1.length c1_0))] [(233, (eNode x0)), (216, (eFrac (Frac.mk 0 0))), (216, (eFrac x42)), (216, (eFrac x39))] (fun δ2 => ?_)
     refine gd hm [8, 9, 6, 3, 1] [] ?_
     exact JH_doneP (by kernel_rfl) () [9, 8, 6, 3, 1] [] 4 [0, 1, 3, 2] [0, 1, 3, 2] (by kernel_rfl) (by kernel_rfl) (by kernel_rfl) (by kernel_rfl) (by kernel_rfl)
 refine nt (qs (qr (oN 2 [(35, .v (vFrac x42)), (34, .v (vFrac x39))] [9, 8, 6, 3, 1] ?_)))
 obtain ⟨t46, h47, h48⟩ := bS h44
 refine k0 (fun γ w hs => c_impl_FracCmp h47) ?_
 refine oN 2 [(10, vb (decide (t46 ≤ 0)))] [9, 8, 6, 3, 1] ?_
 refine oe (nt (qs (qs (qr (oN 2 [(39, vi x0.Kind)] [10, 9, 8, 6, 3, 1] ?_)))))
 refine oe (nt (qb (qs (qr (oN 2 [(40, vb (x0.Kind == 3))] [39, 10, 9, 8, 6, 3, 1] ?_)))))
 refine oe (nt ?_)
 obtain ⟨k94, hk95, h103⟩ := jS h48
 refine JC_cutP (τ := (Unit) × (Unit)) (fun y => k94 y.1 = some r) (fun y93 => [(9, .p 3 0), (8, .p 2 0), (6, .p 1 0), (3, .p 0 0), (1, .v (.slice a1_0 x1.length c1_0))]) (fun y93 => [(233, (eNode x0)), (216, (eFrac (Frac.mk 0 0))), (216, (eFrac x39)), (216, (eFrac x42))]) (fun y93 => []) ?_ (fun y93 h96p => ?_)
 · refine cC h103 (fun h105 => ?_) (fun h106 => ?_)
   · refine qs (qr (oN 2 [(43, .v (vFrac x42)), (42, .v (vFrac x39))] [6] ?_))
     obtain ⟨t107, h108, h109⟩ := bS h105
     refine k0 (fun γ w hs => c_impl_FracAdd h108) ?_
     refine oB 4 [(7, vb t107.2)] [6] [(233, (eNode x0)), (216, (eFrac t107.1)), (216, (eFrac x39)), (216, (eFrac x42))] ?_
     refine oe (nt (qe (nr (br (nr ?_)))))
     obtain rfl := sI h109
     exact re [vFrac t107.1, .bool t107.2]
   refine qs (qr (oN 2 [(47, vb (x0.Kind == 4))] [39, 10, 9, 8, 6, 3, 1] ?_))
   refine oe (nt (cC h106 (fun h112 => ?_) (fun h113 => ?_)))
   · refine qs (qr (oN 2 [(50, .v (vFrac x42)), (49, .v (vFrac x39))] [6] ?_))
     obtain ⟨t114, h115, h116⟩ := bS h112
     refine k0 (fun γ w hs => c_impl_FracSub h115) ?_
     refine oB 4 [(7, vb t114.2)] [6] [(233, (eNode x0)), (216, (eFrac t114.1)), (216, (eFrac x39)), (216, (eFrac x42))] ?_
     refine oe (nt (qe (nr (br (nr ?_)))))
     obtain rfl := sI h116
     exact re [vFrac t114.1, .bool t114.2]
   refine qs (qr (oN 2 [(54, vb (x0.Kind == 5))] [39, 10, 9, 8, 6, 3, 1] ?_))
   refine oe (nt (cC h113 (fun h119 => ?_) (fun h120 => ?_)))
   · refine qs (qr (oN 2 [(57, .v (vFrac x42)), (56, .v (vFrac x39))] [6] ?_))
     obtain ⟨t121, h122, h123⟩ := bS h119
     refine k0 (fun γ w hs => c_impl_FracMul h122) ?_
     refine oB 4 [(7, vb t121.2)] [6] [(233, (eNode x0)), (216, (eFrac t121.1)), (216, (eFrac x39)), (216, (eFrac x42))] ?_
     refine oe (nt (qe (nr (br (nr ?_)))))
     obtain rfl := sI h123
     exact re [vFrac t121.1, .bool t121.2]
   refine qs (qr (oN 2 [(61, vb (x0.Kind == 6))] [39, 10, 9, 8, 6, 3, 1] ?_))
   refine oe (nt (cC h120 (fun h126 => ?_) (fun h127 => ?_)))
   · refine qs (qr (oN 2 [(64, .v (vFrac x42)), (63, .v (vFrac x39))] [6] ?_))
     obtain ⟨t128, h129, h130⟩ := bS h126
     refine k0 (fun γ w hs => c_impl_FracDiv h129) ?_
     refine oB 4 [(7, vb t128.2)] [6] [(233, (eNode x0)), (216, (eFrac t128.1)), (216, (eFrac x39)), (216, (eFrac x42))] ?_
     refine oe (nt (qe (nr (br (nr ?_)))))
     obtain rfl := sI h130
     exact re [vFrac t128.1, .bool t128.2]
   refine qs (qs (qr (oN 2 [(68, vb (x0.Kind == 7))] [39, 10, 9, 8, 6, 3, 1] ?_)))
   refine oe (nt ?_)
   obtain ⟨k135, hk136, h144⟩ := jS h127
   refine JC_cutP (τ := (Bool) × (Unit)) (fun y => k135 y.1 = some r) (fun y134 => [(68, vb y134.1), (10, vb (decide (t46 ≤ 0))), (9, .p 3 0), (8, .p 2 0), (6, .p 1 0), (3, .p 0 0), (1, .v (.slice a1_0 x1.length c1_0))]) (fun y134 => [(233, (eNode x0)), (216, (eFrac (Frac.mk 0 0))), (216, (eFrac x39)), (216, (eFrac x42))]) (fun y134 => []) ?_ (fun y134 h137p => ?_)
   · refine cC h144 (fun h146 => ?_) (fun h147 => ?_)
     · exact qk (mp (x0.Kind == 7, ()) h146 [68, 10, 9, 8, 6, 3, 1] [] 4)
     refine qr (oN 2 [(68, vb (x0.Kind == 8))] [10, 9, 8, 6, 3, 1] ?_)
     exact oe (mp (x0.Kind == 8, ()) h147 [68, 10, 9, 8, 6, 3, 1] [] 4)
   have h137 := (congrFun hk136 _).symm.trans h137p
   refine nt (cC h137 (fun h139 => ?_) (fun h140 => ?_))
   · refine qs (qs (qr (oN 5 [(75, vb ((decide (t46 ≤ 0)) == (x0.Kind == 7)))] [9, 8, 6] ?_)))
     refine oe (nt (cC h139 (fun h142 => ?_) (fun h143 => ?_)))
     · refine qs (qr (oB 3 [(7, vb true)] [6] [(233, (eNode x0)), (216, (eFrac x39)), (216, (eFrac x39)), (216, (eFrac x42))] ?_))
       refine oe (nt (qe (nr (nr (br (nr ?_))))))
       obtain rfl := sI h142
       exact re [vFrac x39, .bool true]
     refine qk (nt (qs (qr (oB 3 [(7, vb true)] [6] [(233, (eNode x0)), (216, (eFrac x42)), (216, (eFrac x39)), (216, (eFrac x42))] ?_))))
     refine oe (nt (qe (nr (br (nr ?_)))))
     obtain rfl := sI h143
     exact re [vFrac x42, .bool true]
   exact qk (mp ((), ()) h140 [9, 8, 6, 3, 1] [] 4)
 have h96 := (congrFun hk95 _).symm.trans h96p
 refine bn (nt (qs (qs (qr (oN 3 [(80, vb (decide (x39.Num > 0)))] [9, 6, 3, 1] ?_)))))
 refine oe (nt (cC h96 (fun h98 => ?_) (fun h99 => ?_)))
 · refine qs (qr (oB 3 [(7, vb true)] [6] [(233, (eNode x0)), (216, (eFrac x42)), (216, (eFrac x39)), (216, (eFrac x42))] ?_))
   refine oe (nt (qe (nr ?_)))
   obtain rfl := sI h98
   exact re [vFrac x42, .bool true]
 refine qk (nt (qs (qr (oN 3 [(84, vi x0.C), (82, .v (.slice a1_0 x1.length c1_0))] [6] ?_))))
 obtain ⟨x100, hx101, h102⟩ := bS h99
 refine oi 2 (fun γ w hs => (hv1_0.kept hs.kept)) hx101 ?_
 refine ol 216 0 (vFrac x100) (fun γ w hs => (hv1_0.kept hs.kept).flatq hx101) ?_
 refine oB 2 [(7, vb true)] [6] [(233, (eNode x0)), (216, (eFrac x100)), (216, (eFrac x39)), (216, (eFrac x42))] ?_
 refine oe (nt (qe ?_))
 obtain rfl := sI h102
 exact re [vFrac x100, .bool true]

theorem c_impl_EvalAll {W : World} {x0 : List Node} {a0_0 : Option Addr} {c0_0 : Nat} {x1 : List Frac} {a1_0 : Option Addr} {c1_0 : Nat} {r : (List Frac) × Bool} (h : impl_EvalAll x0 x1 = some r) (hv0_0 : SlView W x0 a0_0 c0_0) (hv1_0 : SlView W x1 a1_0 c1_0) :
    Gives Tryz.prog 223 #[.slice a0_0 x0.length c0_0, .slice a1_0 x1.length c1_0] W (fun y : AC => .tuple #[.slice y.1 r.1.length y.2, .bool r.2]) (fun y => [SlRes 216 r.1 y.1 y.2]) := by
 unfold impl_EvalAll at h
 refine en Tryz.func223 Tryz.ntmps223 ?_
 refine qs (qr (oN 2 [] [0, 1] ?_))
 refine oe (nt (qs (qs ?_)))
 obtain ⟨p21, hE22, h23⟩ := bS h
 refine JC_cut (τ := Unit) (fun _ => [(0, .v (.slice a0_0 x0.length c0_0)), (1, .v (.slice a1_0 x1.length c1_0)), (22, vb p21)]) (fun _ => []) (fun _ => []) ?_ (fun _ => ?_)
 · refine qr (oN 1 [(11, .v (.slice a0_0 x0.length c0_0))] [0, 1] ?_)
   obtain ⟨t24, h25, h26⟩ := bS hE22
   refine k0 (fun γ w hs => c_impl_FormulaOk h25 (hv0_0.kept hs.kept)) ?_
   refine oN 2 [(14, vb (!t24))] [0, 1] ?_
   refine oS 14 h26 (fun h29 => ?_) (fun h30 => ?_)
   · refine oN 8 [(22, vb true)] [0, 1] ?_
     refine oe ?_
     obtain rfl := sI h29
     exact mt () [0, 1, 22] [] 0
   refine oN 5 [(19, vb ((x1.length : Int) != 8))] [0, 1] ?_
   refine oS 19 h30 (fun h32 => ?_) (fun h33 => ?_)
   · refine oN 3 [(22, vb true)] [0, 1] ?_
     refine oe ?_
     obtain rfl := sI h32
     exact mt () [0, 1, 22] [] 0
   refine oN 1 [(20, .v (.slice a1_0 x1.length c1_0))] [19, 0, 1] ?_
   obtain ⟨t34, h35, h36⟩ := bS h33
   refine k0 (fun γ w hs => c_slices_ContainsFunc_Frac__impl_EvalAll_1 h35 (hv1_0.kept hs.kept)) ?_
   refine oN 1 [(22, vb t34)] [0, 1] ?_
   refine oe ?_
   obtain rfl := sI h36
   exact mt () [0, 1, 22] [] 0
 refine nt (cC h23 (fun h39 => ?_) (fun h40 => ?_))
 · refine qs (qr (oN 2 [(5, vb false), (4, .v (.slice none 0 0))] [] ?_))
   refine oe (nt (qe (nr (JE_addnil 216 (List.nil (α := Frac)) rfl ?_))))
   refine rt [.slice none 0 0, .bool false] (fun γ w hs => ?_)
   rw [← sI h39]
   exact ⟨(none, 0), rfl, hs.kept.toBelow, (hs.takeR (is := [0]) rfl).fresh⟩
 refine qk (nt (qs (qr (ob [] [] 216 0 [] ([] : List Frac) (own_flat (by kernel_rfl)) (fun y41 => ?_)))))
 refine oN 1 [(6, .v (.slice y41.1 ([] : List Frac).length y41.2))] [0, 1] ?_
 refine oe (nt (qs (qs (qr (oN 3 [(26, vi 0), (25, vi (x0.length : Int)), (24, .v (.slice a0_0 x0.length c0_0))] [6, 1] ?_)))))
 refine oe (nt ?_)
 obtain ⟨r46, hL47, h48⟩ := bS h40
 obtain ⟨k49, hk50, h48⟩ := brkS h48
 refine JC_cutP (τ := ((List Frac)) × (AC)) (fun y => k49 y.1 = some r) (fun y54 => [(6, .v (.slice y54.2.1 y54.1.length y54.2.2))]) (fun y54 => []) (fun y54 => [SlRes 216 y54.1 y54.2.1 y54.2.2]) ?_ (fun y54 h55p => ?_)
 · refine qb (lp AC hL47 (fun s43 y44 => [(26, vi s43.1), (25, vi (x0.length : Int)), (24, .v (.slice a0_0 x0.length c0_0)), (6, .v (.slice y44.1 s43.2.length y44.2)), (1, .v (.slice a1_0 x1.length c1_0))]) (fun s43 y44 => []) (fun s43 y44 => [SlRes 216 s43.2 y44.1 y44.2]) (y41.1, y41.2) [26, 25, 24, 6, 1] [0] 0 (fun s43 y44 t45 h51 hd52 => ?_))
   refine qs (qr (oN 1 [(27, vb (decide (s43.1 < (x0.length : Int))))] [26, 25, 24, 6, 1] ?_))
   refine oe (nt (qs (cC h51 (fun h57 => ?_) (fun h58 => ?_))))
   · refine qk (nt (qs (qb (qs (qr ?_)))))
     obtain ⟨x59, hx60, h61⟩ := bS h57
     refine oi 6 (fun γ w hs => (hv0_0.kept hs.kept)) hx60 ?_
     refine ol 233 0 (vNode x59) (fun γ w hs => (hv0_0.kept hs.kept).flatq hx60) ?_
     refine oB 2 [(8, .p 0 0)] [26, 25, 24, 6, 1] [(233, (eNode x59))] ?_
     refine oe (nt (qs (qr (oN 3 [(33, .v (.slice a1_0 x1.length c1_0)), (32, .v (.slice y44.1 s43.2.length y44.2)), (31, .v (vNode x59))] [26, 25, 24, 6, 1] ?_))))
     obtain ⟨t62, h63, h64⟩ := bS h61
     refine k0 (fun γ w hs => c_impl_evalNode h63 (hs.view 0 rfl) (hv1_0.kept hs.kept)) ?_
     refine oB 6 [(10, vb t62.2), (9, .p 1 0)] [26, 25, 24, 6, 1] [(233, (eNode x59)), (216, (eFrac t62.1))] ?_
     refine oe (nt (qs (qs (qr (oN 2 [(38, vb (!t62.2))] [9, 26, 25, 24, 6, 1] ?_)))))
     refine oe (nt (cC h64 (fun h67 => ?_) (fun h68 => ?_)))
     · refine qs (qr (oN 2 [(5, vb false), (4, .v (.slice none 0 0))] [] ?_))
       refine oe (nt (qe (nr (br (nr (nr ?_))))))
       have h69 := leafR hd52 h67 h48
       refine br (nr (nr (JE_addnil 216 (List.nil (α := Frac)) rfl ?_)))
       refine rt [.slice none 0 0, .bool false] (fun γ w hs => ?_)
       rw [← sI h69]
       exact ⟨(none, 0), rfl, hs.kept.toBelow, (hs.takeR (is := [0]) rfl).fresh⟩
     refine qk (nt (qr (oN 2 [(40, .v (vFrac t62.1)), (39, .v (.slice y44.1 s43.2.length y44.2))] [26, 25, 24, 1] ?_)))
     refine ob [] [SlRes 216 s43.2 y44.1 y44.2] 216 1 [.int .i64 t62.1.Num, .int .i64 t62.1.Den] ([t62.1] : List Frac) (own_flat (by kernel_rfl)) (fun y70 => ?_)
     refine or_ [1, 0] ?_
     obtain ⟨l73, hm74, h75⟩ := bS h68
     refine oa 177 y70.2 Tryz.t216 (vFrac (Frac.mk 0 0)) (fun γ w hs => ⟨y70.2, (hs.view 1 rfl)⟩) hm74 (fun y72 => ?_)
     refine oN 1 [(6, .v (.slice y72.1 l73.length y72.2))] [26, 25, 24, 1] ?_
     refine oe (bn (nt (qr (oN 2 [(26, vi (w64 (s43.1 + 1)))] [6, 25, 24, 1] ?_))))
     exact oe (ct h75 (y72.1, y72.2) [26, 25, 24, 6, 1] [0] 0)
   refine qx (nx (nx (bh ?_)))
   have h76 := leafB hd52 h58 h48
   exact mp (s43.2, (y44.1, y44.2)) h76 [6] [0] 0
 have h55 := (congrFun hk50 _).symm.trans h55p
 refine nt (qs (qr (oN 3 [(5, vb true), (4, .v (.slice y54.2.1 y54.1.length y54.2.2))] [] ?_)))
 refine oe (nt (qe (rt [.slice y54.2.1 y54.1.length y54.2.2, .bool true] (fun γ w hs => ?_))))
 rw [← sI h55]
 exact ⟨y54.2, rfl, hs.kept.toBelow, (hs.takeR (is := [0]) rfl).fresh⟩

theorem c_impl_Eval {W : World} {x0 : List Node} {a0_0 : Option Addr} {c0_0 : Nat} {x1 : List Frac} {a1_0 : Option Addr} {c1_0 : Nat} {r : Frac × Bool} (h : impl_Eval x0 x1 = some r) (hv0_0 : SlView W x0 a0_0 c0_0) (hv1_0 : SlView W x1 a1_0 c1_0) :
    Gives0 Tryz.prog 191 #[.slice a0_0 x0.length c0_0, .slice a1_0 x1.length c1_0] W (.tuple #[vFrac r.1, .bool r.2]) := by
 unfold impl_Eval at h
 refine en Tryz.func191 Tryz.ntmps191 ?_
 refine qs (qr (oB 2 [(4, .p 0 0)] [0, 1] [(216, (eFrac (Frac.mk 0 0)))] ?_))
 refine oe (nt (qs (qr (oN 2 [(10, .v (.slice a1_0 x1.length c1_0)), (9, .v (.slice a0_0 x0.length c0_0))] [4] ?_))))
 obtain ⟨t21, h22, h23⟩ := bS h
 refine k1 (fun γ w hs => c_impl_EvalAll h22 (hv0_0.kept hs.kept) (hv1_0.kept hs.kept)) (fun y24 => ?_)
 refine oN 5 [(7, vb t21.2), (6, .v (.slice y24.1 t21.1.length y24.2))] [4] ?_
 refine oe (nt (qs (qs (qr (oN 2 [(15, vb (!t21.2))] [6, 4] ?_)))))
 refine oe (nt (cC h23 (fun h26 => ?_) (fun h27 => ?_)))
 · refine qs (qr (oN 3 [(5, vb false)] [4] ?_))
   refine oe (nt (qe (nr ?_)))
   obtain rfl := sI h26
   exact re [vFrac (Frac.mk 0 0), .bool false]
 refine qk (nt (qs (qr (oN 4 [(20, vi (w64 ((t21.1.length : Int) - 1))), (17, .v (.slice y24.1 t21.1.length y24.2))] [4] ?_))))
 obtain ⟨x28, hx29, h30⟩ := bS h27
 refine oi 2 (fun γ w hs => (hs.view 0 rfl)) hx29 ?_
 refine ol 216 0 (vFrac x28) (fun γ w hs => (hs.view 0 rfl).flatq hx29) ?_
 refine oB 2 [(5, vb true)] [4] [(216, (eFrac x28))] ?_
 refine oe (nt (qe ?_))
 obtain rfl := sI h30
 exact re [vFrac x28, .bool true]

theorem c_impl_floorDiv {W : World} {x0 : Int} {x1 : Int} {r : Int} (h : impl_floorDiv x0 x1 = some r)  :
    Gives0 Tryz.prog 224 #[.int .i64 x0, .int .i64 x1] W (.int .i64 r) := by
 unfold impl_floorDiv at h
 refine en Tryz.func224 Tryz.ntmps224 ?_
 refine qs (qr (oN 1 [] [0, 1] ?_))
 refine oe (nt (qs (qr (oN 2 [(7, vi x1), (6, vi x0)] [0, 1] ?_))))
 obtain ⟨u23, hz22, h21⟩ := bS h
 refine JO_div rfl (by kernel_rfl) (op := .quo) (k := .i64) (x := x0) (y := x1) (by kernel_rfl) (nz_some hz22) rfl ?_
 refine oN 1 [(5, vi (w64 (Int.tdiv x0 x1)))] [0, 1] ?_
 refine oe (nt (qs (qs (qr (oN 2 [(10, vi x1), (9, vi x0)] [5] ?_)))))
 obtain ⟨u26, hz25, h24⟩ := bS h21
 refine JO_div rfl (by kernel_rfl) (op := .rem) (k := .i64) (x := x0) (y := x1) (by kernel_rfl) (nz_some hz25) rfl ?_
 refine oN 1 [(12, vb (decide ((Int.tmod x0 x1) < 0)))] [5] ?_
 refine oe (nt ?_)
 obtain ⟨k30, hk31, h33⟩ := jS h24
 refine JC_cutP (τ := (Int) × (Unit)) (fun y => k30 y.1 = some r) (fun y29 => [(5, vi y29.1)]) (fun y29 => []) (fun y29 => []) ?_ (fun y29 h32p => ?_)
 · refine cC h33 (fun h35 => ?_) (fun h36 => ?_)
   · refine qr (oN 3 [(5, vi (w64 ((w64 (Int.tdiv x0 x1)) - 1)))] [] ?_)
     exact oe (mp (w64 ((w64 (Int.tdiv x0 x1)) - 1), ()) h35 [5] [] 0)
   exact qk (mp (w64 (Int.tdiv x0 x1), ()) h36 [5] [] 0)
 have h32 := (congrFun hk31 _).symm.trans h32p
 refine nt (qs (qr (oN 2 [(4, vi y29.1)] [] ?_)))
 refine oe (nt (qe ?_))
 obtain rfl := sI h32
 exact re [.int .i64 y29.1]

theorem c_impl_RoundFrac {W : World} {x0 : Frac} {x1 : Int} {r : Int × Bool} (h : impl_RoundFrac x0 x1 = some r)  :
    Gives0 Tryz.prog 192 #[vFrac x0, .int .i64 x1] W (.tuple #[.int .i64 r.1, .bool r.2]) := by
 unfold impl_RoundFrac at h
 refine en Tryz.func192 Tryz.ntmps192 ?_
 refine qs (qr (oB 3 [(2, .p 0 0)] [1] [(216, (eFrac x0))] ?_))
 refine oe (nt (qs (qs ?_)))
 obtain ⟨p21, hE22, h23⟩ := bS h
 refine JC_cut (τ := Unit) (fun _ => [(1, vi x1), (2, .p 0 0), (16, vb p21)]) (fun _ => [(216, (eFrac x0))]) (fun _ => []) ?_ (fun _ => ?_)
 · refine qr (oN 1 [(9, .v (vFrac x0))] [2, 1] ?_)
   obtain ⟨t24, h25, h26⟩ := bS hE22
   refine k0 (fun γ w hs => c_impl_FracOk h25) ?_
   refine oN 2 [(12, vb (!t24))] [2, 1] ?_
   refine oS 12 h26 (fun h29 => ?_) (fun h30 => ?_)
   · refine oN 4 [(16, vb true)] [2, 1] ?_
     refine oe ?_
     obtain rfl := sI h29
     exact mt () [1, 2, 16] [] 1
   refine oN 1 [(13, vi x1)] [12, 2, 1] ?_
   obtain ⟨t31, h32, h33⟩ := bS h30
   refine k0 (fun γ w hs => c_impl_within h32) ?_
   refine oN 2 [(16, vb (!t31))] [2, 1] ?_
   refine oe ?_
   obtain rfl := sI h33
   exact mt () [1, 2, 16] [] 1
 refine nt (cC h23 (fun h36 => ?_) (fun h37 => ?_))
 · refine qs (qr (oN 2 [(5, vb false), (4, vi 0)] [] ?_))
   refine oe (nt (qe (nr ?_)))
   obtain rfl := sI h36
   exact re [.int .i64 0, .bool false]
 refine qk (nt (qs (qr (oN 4 [(20, vi x0.Den), (18, vi x0.Num)] [1, 2] ?_))))
 obtain ⟨t38, h39, h40⟩ := bS h37
 refine k0 (fun γ w hs => c_impl_floorDiv h39) ?_
 refine oN 1 [(6, vi t38)] [1, 2] ?_
 refine oe (nt (qs (qr (oN 8 [(7, vi (w64 (x0.Num - (w64 (t38 * x0.Den)))))] [6, 1, 2] ?_))))
 refine oe (nt (qs (qr (oN 1 [(8, vb false)] [7, 6, 1, 2] ?_))))
 refine oe (nt (qs (qs (qr (oN 1 [(29, vi x1)] [8, 7, 6, 2] ?_)))))
 refine oe (nt (qb (qs (qr (oN 2 [(30, vb (x1 == 2))] [29, 8, 7, 6, 2] ?_)))))
 refine oe (nt ?_)
 obtain ⟨k60, hk61, h73⟩ := jS h40
 refine JC_cutP (τ := (Bool) × (Unit)) (fun y => k60 y.1 = some r) (fun y59 => [(8, vb y59.1), (6, vi t38)]) (fun y59 => [(216, (eFrac x0))]) (fun y59 => []) ?_ (fun y59 h62p => ?_)
 · refine cC h73 (fun h75 => ?_) (fun h76 => ?_)
   · refine qr (oN 3 [(8, vb (decide ((w64 (x0.Num - (w64 (t38 * x0.Den)))) > 0)))] [6] ?_)
     exact oe (mp (decide ((w64 (x0.Num - (w64 (t38 * x0.Den)))) > 0), ()) h75 [8, 6] [] 1)
   refine qs (qr (oN 2 [(34, vb (x1 == 3))] [29, 8, 7, 6, 2] ?_))
   refine oe (nt (cC h76 (fun h78 => ?_) (fun h79 => ?_)))
   · refine qr (oN 6 [(8, vb (decide ((w64 (2 * (w64 (x0.Num - (w64 (t38 * x0.Den)))))) ≥ x0.Den)))] [6] ?_)
     exact oe (mp (decide ((w64 (2 * (w64 (x0.Num - (w64 (t38 * x0.Den)))))) ≥ x0.Den), ()) h78 [8, 6] [] 1)
   refine qs (qr (oN 2 [(41, vb (x1 == 4))] [8, 7, 6, 2] ?_))
   refine oe (nt (cC h79 (fun h81 => ?_) (fun h82 => ?_)))
   · obtain ⟨p83, hE84, h85⟩ := bS h81
     refine JC_cut (τ := Unit) (fun _ => [(6, vi t38), (8, vb p83)]) (fun _ => [(216, (eFrac x0))]) (fun _ => []) ?_ (fun _ => ?_)
     · refine qr (oN 6 [(48, vb (decide ((w64 (2 * (w64 (x0.Num - (w64 (t38 * x0.Den)))))) > x0.Den)))] [7, 6, 2] ?_)
       refine oS 48 hE84 (fun h87 => ?_) (fun h88 => ?_)
       · refine oN 12 [(8, vb true)] [6] ?_
         refine oe ?_
         obtain rfl := sI h87
         exact mt () [6, 8] [] 1
       refine oN 6 [(54, vb ((w64 (2 * (w64 (x0.Num - (w64 (t38 * x0.Den)))))) == x0.Den))] [48, 6] ?_
       refine oS 54 h88 (fun h90 => ?_) (fun h91 => ?_)
       · refine oN 6 [(8, vb ((Int.tmod t38 2) != 0))] [6] ?_
         refine oe ?_
         obtain rfl := sI h90
         exact mt () [6, 8] [] 1
       refine oN 6 [(8, vb false)] [6] ?_
       refine oe ?_
       obtain rfl := sI h91
       exact mt () [6, 8] [] 1
     exact mp (p83, ()) h85 [8, 6] [] 1
   exact qk (mp (false, ()) h82 [8, 6] [] 1)
 have h62 := (congrFun hk61 _).symm.trans h62p
 refine bn (nt (qs (qs (qr (oN 1 [(60, vb y59.1)] [6] ?_)))))
 refine oe (nt ?_)
 obtain ⟨k66, hk67, h69⟩ := jS h62
 refine JC_cutP (τ := (Int) × (Unit)) (fun y => k66 y.1 = some r) (fun y65 => [(6, vi y65.1)]) (fun y65 => [(216, (eFrac x0))]) (fun y65 => []) ?_ (fun y65 h68p => ?_)
 · refine cC h69 (fun h71 => ?_) (fun h72 => ?_)
   · refine qr (oN 3 [(6, vi (w64 (t38 + 1)))] [] ?_)
     exact oe (mp (w64 (t38 + 1), ()) h71 [6] [] 1)
   exact qk (mp (t38, ()) h72 [6] [] 1)
 have h68 := (congrFun hk67 _).symm.trans h68p
 refine nt (qs (qr (oN 3 [(5, vb true), (4, vi y65.1)] [] ?_)))
 refine oe (nt (qe ?_))
 obtain rfl := sI h68
 exact re [.int .i64 y65.1, .bool true]

theorem c_impl_Figure {W : World} {x0 : Book} {a0_0 : Option Addr} {c0_0 : Nat} {x1 : Int} {x2 : Int} {x3 : Int} {x4 : List Frac} {a4_0 : Option Addr} {c4_0 : Nat} {r : Int × Int × Bool} (h : impl_Figure x0 x1 x2 x3 x4 = some r) (hv0_0 : SlView W x0.Rules a0_0 c0_0) (hv4_0 : SlView W x4 a4_0 c4_0) :
    Gives0 Tryz.prog 147 #[vBook x0 (a0_0, c0_0), .int .i64 x1, .int .i64 x2, .int .i64 x3, .slice a4_0 x4.length c4_0] W (.tuple #[.int .i64 r.1, .int .i64 r.2.1, .bool r.2.2]) := by
 unfold impl_Figure at h
 refine en Tryz.func147 Tryz.ntmps147 ?_
 refine qs (qr (oB 4 [(5, .p 0 0)] [1, 2, 3, 4] [(42, (eBook x0 (a0_0, c0_0)))] ?_))
 refine oe (nt (qs (qr (oN 4 [(21, vi x3), (20, vi x2), (19, vi x1), (18, .v (vBook x0 (a0_0, c0_0)))] [5, 4] ?_))))
 obtain ⟨t21, h22, h23⟩ := bS h
 refine k0 (fun γ w hs => c_impl_RuleFor h22 (hv0_0.kept hs.kept)) ?_
 refine oN 1 [(13, vi t21)] [5, 4] ?_
 refine oe (nt (qs (qs (qr (oN 2 [(24, vb (decide (t21 < 0)))] [13, 5, 4] ?_)))))
 refine oe (nt (cC h23 (fun h26 => ?_) (fun h27 => ?_)))
 · refine qs (qr (oN 3 [(12, vb false), (11, vi 0), (10, vi 0)] [] ?_))
   refine oe (nt (qe (nr ?_)))
   obtain rfl := sI h26
   exact re [.int .i64 0, .int .i64 0, .bool false]
 refine qk (nt (qs (qr (oN 3 [(28, vi t21), (27, .v (.slice a0_0 x0.Rules.length c0_0))] [13, 5, 4] ?_))))
 obtain ⟨x28, hx29, h30⟩ := bS h27
 refine oi 7 (fun γ w hs => (hv0_0.kept hs.kept)) hx29 ?_
 refine oN 1 [(30, .q a0_0 (Int.toNat t21 * 7 + 6))] [13, 5, 4] ?_
 obtain ⟨_, ⟨a31, c32, rfl, hv33⟩, hc34⟩ := SlView.at hv0_0 (idx_some hx29).2.2
 refine ol 186 6 (.slice a31 x28.Nodes.length c32) (fun γ w hs => ⟨(hv0_0.kept hs.kept).ne (idx_some hx29).2.2, hc34.kept hs.kept⟩) ?_
 refine oN 1 [(32, .v (.slice a4_0 x4.length c4_0))] [31, 13, 5] ?_
 obtain ⟨t35, h36, h37⟩ := bS h30
 refine k0 (fun γ w hs => c_impl_Eval h36 (hv33.kept hs.kept) (hv4_0.kept hs.kept)) ?_
 refine oB 6 [(15, vb t35.2), (14, .p 1 0)] [13, 5] [(42, (eBook x0 (a0_0, c0_0))), (216, (eFrac t35.1))] ?_
 refine oe (nt (qs (JC_quiet (by kernel_rfl) (by kernel_rfl) ?_)))
 refine qN 4 [(40, vi t21), (39, .v (.slice a0_0 x0.Rules.length c0_0)), (37, .v (vFrac t35.1))] [15, 13] ?_
 obtain ⟨x39, hx40, h41⟩ := bS h37
 refine qi 7 (fun γ w hs => (hv0_0.kept hs.kept)) hx40 ?_
 refine qN 1 [(42, .q a0_0 (Int.toNat t21 * 7 + 5))] [37, 15, 13] ?_
 obtain ⟨_, ⟨a42, c43, rfl, hv44⟩, hc45⟩ := SlView.at hv0_0 (idx_some hx40).2.2
 refine ql 3 5 (.int .i64 x39.Mode) (fun γ w hs => ⟨(hv0_0.kept hs.kept).ne (idx_some hx40).2.2, hc45.kept hs.kept⟩) ?_
 obtain ⟨t46, h47, h48⟩ := bS h41
 refine q0 (fun γ w hs => c_impl_RoundFrac h47) ?_
 refine qN 5 [(17, vb t46.2), (16, vi t46.1)] [15, 13] ?_
 refine qz (nt (qs (qs ?_)))
 obtain ⟨p50, hE51, h52⟩ := bS h48
 refine JC_cut (τ := Unit) (fun _ => [(13, vi t21), (16, vi t46.1), (52, vb p50)]) (fun _ => [(42, (eBook x0 (a0_0, c0_0))), (216, (eFrac t35.1))]) (fun _ => []) ?_ (fun _ => ?_)
 · refine qr (oN 3 [(49, vb (!t35.2))] [17, 16, 13] ?_)
   refine oS 49 hE51 (fun h54 => ?_) (fun h55 => ?_)
   · refine oN 3 [(52, vb true)] [16, 13] ?_
     refine oe ?_
     obtain rfl := sI h54
     exact mt () [13, 16, 52] [] 2
   refine oN 3 [(52, vb (!t46.2))] [16, 13] ?_
   refine oe ?_
   obtain rfl := sI h55
   exact mt () [13, 16, 52] [] 2
 refine nt (cC h52 (fun h57 => ?_) (fun h58 => ?_))
 · refine qs (qr (oN 3 [(12, vb false), (11, vi 0), (10, vi 0)] [] ?_))
   refine oe (nt (qe (nr ?_)))
   obtain rfl := sI h57
   exact re [.int .i64 0, .int .i64 0, .bool false]
 refine qk (nt (qs (qr (oN 5 [(12, vb true), (11, vi t21), (10, vi t46.1)] [] ?_))))
 refine oe (nt (qe ?_))
 obtain rfl := sI h58
 exact re [.int .i64 t46.1, .int .i64 t21, .bool true]

theorem c_impl_EntitlementAt {W : World} {x0 : Case} {b0 : AC × AC × AC × AC × AC} {x1 : Int} {x2 : Int} {r : Int} (h : impl_EntitlementAt x0 x1 x2 = some r) (hv0_0 : SlView W x0.Book.Rules b0.1.1 b0.1.2) (hv0_1 : SlView W x0.Store.Facts b0.2.1.1 b0.2.1.2) (hv0_2 : SlView W x0.Series.Points b0.2.2.1.1 b0.2.2.1.2) (hv0_3 : SlView W x0.Member.Spells b0.2.2.2.1.1 b0.2.2.2.1.2) (hv0_4 : SlView W x0.Member.Events b0.2.2.2.2.1 b0.2.2.2.2.2) :
    Gives0 Tryz.prog 94 #[vCase x0 b0, .int .i64 x1, .int .i64 x2] W (.int .i64 r) := by
 unfold impl_EntitlementAt at h
 refine en Tryz.func94 Tryz.ntmps94 ?_
 refine qs (qr (oB 2 [(3, .p 0 0)] [1, 2] [(54, (eCase x0 b0))] ?_))
 refine oe (nt (qs (qs ?_)))
 obtain ⟨p21, hE22, h23⟩ := bS h
 refine JC_cut (τ := Unit) (fun _ => [(1, vi x1), (2, vi x2), (3, .p 0 0), (22, vb p21)]) (fun _ => [(54, (eCase x0 b0))]) (fun _ => []) ?_ (fun _ => ?_)
 · refine qr (oN 1 [(12, .v (vCase x0 b0))] [3, 1, 2] ?_)
   obtain ⟨t24, h25, h26⟩ := bS hE22
   refine k0 (fun γ w hs => c_impl_CaseOk (b0 := b0) h25 (hv0_0.kept hs.kept) (hv0_1.kept hs.kept) (hv0_2.kept hs.kept) (hv0_3.kept hs.kept) (hv0_4.kept hs.kept)) ?_
   refine oN 2 [(15, vb (!t24))] [3, 1, 2] ?_
   refine oS 15 h26 (fun h29 => ?_) (fun h30 => ?_)
   · refine oN 7 [(22, vb true)] [3, 1, 2] ?_
     refine oe ?_
     obtain rfl := sI h29
     exact mt () [1, 2, 3, 22] [] 1
   refine oN 4 [(19, vi x1), (18, .v (.slice b0.2.2.2.2.1 x0.Member.Events.length b0.2.2.2.2.2))] [15, 3, 1, 2] ?_
   obtain ⟨t31, h32, h33⟩ := bS h30
   refine k0 (fun γ w hs => c_impl_StatusAt h32 (hv0_4.kept hs.kept)) ?_
   refine oN 2 [(22, vb (t31 != 3))] [3, 1, 2] ?_
   refine oe ?_
   obtain rfl := sI h33
   exact mt () [1, 2, 3, 22] [] 1
 refine nt (cC h23 (fun h36 => ?_) (fun h37 => ?_))
 · refine qs (qr (oN 1 [(6, vi 0)] [] ?_))
   refine oe (nt (qe (nr ?_)))
   obtain rfl := sI h36
   exact re [.int .i64 0]
 refine qk (nt (qs (qr (oN 3 [(26, vi x2), (25, vi x1), (24, .v (vCase x0 b0))] [1, 3] ?_))))
 obtain ⟨t38, h39, h40⟩ := bS h37
 refine k1 (fun γ w hs => c_impl_VarsFor (b0 := b0) h39 (hv0_0.kept hs.kept) (hv0_1.kept hs.kept) (hv0_2.kept hs.kept) (hv0_3.kept hs.kept) (hv0_4.kept hs.kept)) (fun y41 => ?_)
 refine oN 5 [(8, vb t38.2), (7, .v (.slice y41.1 t38.1.length y41.2))] [1, 3] ?_
 refine oe (nt (qs (qr (oN 7 [(37, .v (.slice y41.1 t38.1.length y41.2)), (36, vi x0.Member.Joined), (33, vi x1), (32, .v (vBook x0.Book b0.1))] [8] ?_))))
 obtain ⟨t42, h43, h44⟩ := bS h40
 refine k0 (fun γ w hs => c_impl_Figure h43 (hv0_0.kept hs.kept) (hs.view 0 rfl)) ?_
 refine oN 7 [(11, vb t42.2.2), (9, vi t42.1)] [8] ?_
 refine oe (nt (qs (qs ?_)))
 obtain ⟨p46, hE47, h48⟩ := bS h44
 refine JC_cut (τ := Unit) (fun _ => [(9, vi t42.1), (47, vb p46)]) (fun _ => [(54, (eCase x0 b0))]) (fun _ => []) ?_ (fun _ => ?_)
 · refine qr (oN 3 [(44, vb (!t38.2))] [11, 9] ?_)
   refine oS 44 hE47 (fun h50 => ?_) (fun h51 => ?_)
   · refine oN 3 [(47, vb true)] [9] ?_
     refine oe ?_
     obtain rfl := sI h50
     exact mt () [9, 47] [] 1
   refine oN 3 [(47, vb (!t42.2.2))] [9] ?_
   refine oe ?_
   obtain rfl := sI h51
   exact mt () [9, 47] [] 1
 refine nt (cC h48 (fun h53 => ?_) (fun h54 => ?_))
 · refine qs (qr (oN 1 [(6, vi 0)] [] ?_))
   refine oe (nt (qe (nr ?_)))
   obtain rfl := sI h53
   exact re [.int .i64 0]
 refine qk (nt (qs (qr (oN 4 [(6, vi (imax 0 (imin t42.1 10000000)))] [] ?_))))
 refine oe (nt (qe ?_))
 obtain rfl := sI h54
 exact re [.int .i64 (imax 0 (imin t42.1 10000000))]

theorem c_impl_StatementsOf {W : World} {x0 : Office} {b0 : AC × AC × AC × AC × AC × AC} {r : (List Statement)} (h : impl_StatementsOf x0 = some r) (hv0_0 : SlView W x0.Case.Book.Rules b0.1.1 b0.1.2) (hv0_1 : SlView W x0.Case.Store.Facts b0.2.1.1 b0.2.1.2) (hv0_2 : SlView W x0.Case.Series.Points b0.2.2.1.1 b0.2.2.1.2) (hv0_3 : SlView W x0.Case.Member.Spells b0.2.2.2.1.1 b0.2.2.2.1.2) (hv0_4 : SlView W x0.Case.Member.Events b0.2.2.2.2.1.1 b0.2.2.2.2.1.2) (hv0_5 : SlView W x0.Paid b0.2.2.2.2.2.1 b0.2.2.2.2.2.2) :
    Gives Tryz.prog 51 #[vOffice x0 b0] W (fun y : AC => .slice y.1 r.length y.2) (fun y => [SlRes 140 r y.1 y.2]) := by
 unfold impl_StatementsOf at h
 refine en Tryz.func51 Tryz.ntmps51 ?_
 refine qs (qr (oB 2 [(1, .p 0 0)] [] [(57, (eOffice x0 b0))] ?_))
 refine oe (nt (qs (qs (qr (oN 1 [(6, .v (vOffice x0 b0))] [1] ?_)))))
 obtain ⟨t21, h22, h23⟩ := bS h
 refine k0 (fun γ w hs => c_impl_OfficeOk (b0 := b0) h22 (hv0_0.kept hs.kept) (hv0_1.kept hs.kept) (hv0_2.kept hs.kept) (hv0_3.kept hs.kept) (hv0_4.kept hs.kept) (hv0_5.kept hs.kept)) ?_
 refine oN 1 [(8, vb (!t21))] [1] ?_
 refine oe (nt (cC h23 (fun h26 => ?_) (fun h27 => ?_)))
 · refine qs (qr (oN 1 [(2, .v (.slice none 0 0))] [] ?_))
   refine oe (nt (qe (nr (JE_addnil 140 (List.nil (α := Statement)) rfl ?_))))
   refine rt [.slice none 0 0] (fun γ w hs => ?_)
   rw [← sI h26]
   exact ⟨(none, 0), rfl, hs.kept.toBelow, (hs.takeR (is := [0]) rfl).fresh⟩
 refine qk (nt (qs (qr (ob [] [] 140 0 [] ([] : List Statement) (own_flat (by kernel_rfl)) (fun y28 => ?_)))))
 refine oN 1 [(3, .v (.slice y28.1 ([] : List Statement).length y28.2))] [1] ?_
 refine oe (nt (qs (qs (qr (oN 4 [(13, vi 0), (12, vi (x0.Paid.length : Int))] [3, 1] ?_)))))
 refine oe (nt ?_)
 obtain ⟨r33, hL34, h35⟩ := bS h27
 obtain ⟨k36, hk37, h35⟩ := brkS h35
 refine JC_cutP (τ := ((List Statement) × Int × Int × Int) × (AC)) (fun y => k36 y.1 = some r) (fun y41 => [(3, .v (.slice y41.2.1 y41.1.1.length y41.2.2))]) (fun y41 => [(57, (eOffice (Office.mk (Case.mk x0.Case.Book x0.Case.Store x0.Case.Series (Member.mk y41.1.2.1 y41.1.2.2.1 x0.Case.Member.Spells x0.Case.Member.Events)) y41.1.2.2.2 x0.Paid) b0))]) (fun y41 => [SlRes 140 y41.1.1 y41.2.1 y41.2.2]) ?_ (fun y41 h42p => ?_)
 · refine qb (lp AC hL34 (fun s30 y31 => [(13, vi s30.1), (12, vi (x0.Paid.length : Int)), (3, .v (.slice y31.1 s30.2.length y31.2)), (1, .p 0 0)]) (fun s30 y31 => [(57, (eOffice x0 b0))]) (fun s30 y31 => [SlRes 140 s30.2 y31.1 y31.2]) (y28.1, y28.2) [13, 12, 3, 1] [0] 1 (fun s30 y31 t32 h38 hd39 => ?_))
   refine qs (qr (oN 1 [(14, vb (decide (s30.1 < (x0.Paid.length : Int))))] [13, 12, 3, 1] ?_))
   refine oe (nt (qs (cC h38 (fun h44 => ?_) (fun h45 => ?_))))
   · refine qk (nt (qs (qb (qs (qr (oN 2 [(4, vi s30.1)] [13, 12, 3, 1] ?_))))))
     refine oe (nt (qs (qr (oN 5 [(5, vi (w64 (x0.Start + s30.1)))] [13, 12, 3, 1] ?_))))
     refine oe (nt (qr (oN 7 [(26, vi (w64 (x0.Start + s30.1))), (25, vi (w64 (x0.Start + s30.1))), (24, .v (vCase x0.Case (b0.1, b0.2.1, b0.2.2.1, b0.2.2.2.1, b0.2.2.2.2.1))), (22, vi (w64 (x0.Start + s30.1))), (21, vi (w64 (x0.Start + s30.1))), (20, .v (.slice y31.1 s30.2.length y31.2))] [13, 12, 1] ?_)))
     obtain ⟨t46, h47, h48⟩ := bS h44
     refine k0 (fun γ w hs => c_impl_EntitlementAt (b0 := (b0.1, b0.2.1, b0.2.2.1, b0.2.2.2.1, b0.2.2.2.2.1)) h47 (hv0_0.kept hs.kept) (hv0_1.kept hs.kept) (hv0_2.kept hs.kept) (hv0_3.kept hs.kept) (hv0_4.kept hs.kept)) ?_
     refine oN 1 [(28, .v (vStatement (Statement.mk (w64 (x0.Start + s30.1)) (w64 (x0.Start + s30.1)) t46)))] [20, 13, 12, 1] ?_
     refine ob [] [SlRes 140 s30.2 y31.1 y31.2] 140 1 [.int .i64 (w64 (x0.Start + s30.1)), .int .i64 (w64 (x0.Start + s30.1)), .int .i64 t46] ([Statement.mk (w64 (x0.Start + s30.1)) (w64 (x0.Start + s30.1)) t46] : List Statement) (own_flat (by kernel_rfl)) (fun y50 => ?_)
     refine or_ [1, 0] ?_
     obtain ⟨l53, hm54, h55⟩ := bS h48
     refine oa 104 y50.2 Tryz.t140 (vStatement (Statement.mk 0 0 0)) (fun γ w hs => ⟨y50.2, (hs.view 1 rfl)⟩) hm54 (fun y52 => ?_)
     refine oN 1 [(3, .v (.slice y52.1 l53.length y52.2))] [13, 12, 1] ?_
     refine oe (bn (nt (qr (oN 2 [(13, vi (w64 (s30.1 + 1)))] [3, 12, 1] ?_))))
     exact oe (ct h55 (y52.1, y52.2) [13, 12, 3, 1] [0] 1)
   refine qx (nx (nx (bh ?_)))
   have h56 := leafB hd39 h45 h35
   exact mp ((s30.2, x0.Case.Member.Birth, x0.Case.Member.Joined, x0.Start), (y31.1, y31.2)) h56 [3] [0] 1
 have h42 := (congrFun hk37 _).symm.trans h42p
 refine nt (qs (qr (oN 2 [(2, .v (.slice y41.2.1 y41.1.1.length y41.2.2))] [] ?_)))
 refine oe (nt (qe (rt [.slice y41.2.1 y41.1.1.length y41.2.2] (fun γ w hs => ?_))))
 rw [← sI h42]
 exact ⟨y41.2, rfl, hs.kept.toBelow, (hs.takeR (is := [0]) rfl).fresh⟩

theorem c_laws_eqStatement {W : World} {x0 : Statement} {x1 : Statement} {r : Bool} (h : laws_eqStatement x0 x1 = some r)  :
    Gives0 Tryz.prog 96 #[vStatement x0, vStatement x1] W (.bool r) := by
 unfold laws_eqStatement at h
 refine en Tryz.func96 Tryz.ntmps96 ?_
 refine qs (qr (oB 3 [(3, .p 1 0), (2, .p 0 0)] [] [(140, (eStatement x0)), (140, (eStatement x1))] ?_))
 refine oe (nt (qs (qs (qr (oN 5 [(9, vb (x0.Month != x1.Month))] [3, 2] ?_)))))
 refine oe (nt (cC h (fun h22 => ?_) (fun h23 => ?_)))
 · refine qs (qr (oN 1 [(4, vb false)] [] ?_))
   refine oe (nt (qe (nr ?_)))
   obtain rfl := sI h22
   exact re [.bool false]
 refine qk (nt (qs (qs (qr (oN 5 [(14, vb (x0.Known != x1.Known))] [3, 2] ?_)))))
 refine oe (nt (cC h23 (fun h25 => ?_) (fun h26 => ?_)))
 · refine qs (qr (oN 1 [(4, vb false)] [] ?_))
   refine oe (nt (qe (nr ?_)))
   obtain rfl := sI h25
   exact re [.bool false]
 refine qk (nt (qs (qs (qr (oN 5 [(19, vb (x0.Cents != x1.Cents))] [] ?_)))))
 refine oe (nt (cC h26 (fun h28 => ?_) (fun h29 => ?_)))
 · refine qs (qr (oN 1 [(4, vb false)] [] ?_))
   refine oe (nt (qe (nr ?_)))
   obtain rfl := sI h28
   exact re [.bool false]
 refine qk (nt (qs (qr (oN 1 [(4, vb true)] [] ?_))))
 refine oe (nt (qe ?_))
 obtain rfl := sI h29
 exact re [.bool true]

theorem c_laws_eqStatementS {W : World} {x0 : List Statement} {a0_0 : Option Addr} {c0_0 : Nat} {x1 : List Statement} {a1_0 : Option Addr} {c1_0 : Nat} {r : Bool} (h : laws_eqStatementS x0 x1 = some r) (hv0_0 : SlView W x0 a0_0 c0_0) (hv1_0 : SlView W x1 a1_0 c1_0) :
    Gives0 Tryz.prog 52 #[.slice a0_0 x0.length c0_0, .slice a1_0 x1.length c1_0] W (.bool r) := by
 unfold laws_eqStatementS at h
 refine en Tryz.func52 Tryz.ntmps52 ?_
 refine qs (qr (oN 1 [] [0, 1] ?_))
 refine oe (nt (qs (qs (qr (oN 5 [(10, vb ((x0.length : Int) != (x1.length : Int)))] [0, 1] ?_)))))
 refine oe (nt (cC h (fun h22 => ?_) (fun h23 => ?_)))
 · refine qs (qr (oN 1 [(4, vb false)] [] ?_))
   refine oe (nt (qe (nr ?_)))
   obtain rfl := sI h22
   exact re [.bool false]
 refine qk (nt (qs (qs (qr (oN 1 [(5, vi 0)] [0, 1] ?_)))))
 refine oe (nt ?_)
 obtain ⟨r27, hL28, h29⟩ := bS h23
 obtain ⟨k30, hk31, h29⟩ := brkS h29
 refine JC_cutP (τ := (Unit) × (Unit)) (fun y => k30 y.1 = some r) (fun y35 => []) (fun y35 => []) (fun y35 => []) ?_ (fun y35 h36p => ?_)
 · refine qb (lp Unit hL28 (fun s24 y25 => [(5, vi s24), (0, .v (.slice a0_0 x0.length c0_0)), (1, .v (.slice a1_0 x1.length c1_0))]) (fun s24 y25 => []) (fun s24 y25 => []) () [5, 0, 1] [] 0 (fun s24 y25 t26 h32 hd33 => ?_))
   refine qs (qs (qr (oN 4 [(14, vb (decide (s24 < (x0.length : Int))))] [5, 0, 1] ?_)))
   refine oe (nt (cC h32 (fun h38 => ?_) (fun h39 => ?_)))
   · refine qk (nt (qs (qb (qs (JC_quiet (by kernel_rfl) (by kernel_rfl) ?_)))))
     refine qN 2 [(18, vi s24), (17, .v (.slice a0_0 x0.length c0_0))] [5, 0, 1] ?_
     obtain ⟨x40, hx41, h42⟩ := bS h38
     refine qi 3 (fun γ w hs => (hv0_0.kept hs.kept)) hx41 ?_
     refine ql 140 0 (vStatement x40) (fun γ w hs => (hv0_0.kept hs.kept).flatq hx41) ?_
     refine qN 2 [(22, vi s24), (21, .v (.slice a1_0 x1.length c1_0))] [20, 5, 0, 1] ?_
     obtain ⟨x43, hx44, h45⟩ := bS h42
     refine qi 3 (fun γ w hs => (hv1_0.kept hs.kept)) hx44 ?_
     refine ql 140 0 (vStatement x43) (fun γ w hs => (hv1_0.kept hs.kept).flatq hx44) ?_
     obtain ⟨t46, h47, h48⟩ := bS h45
     refine q0 (fun γ w hs => c_laws_eqStatement h47) ?_
     refine qN 1 [(26, vb (!t46))] [5, 0, 1] ?_
     refine qz (nt (cC h48 (fun h51 => ?_) (fun h52 => ?_)))
     · refine qs (qr (oN 1 [(4, vb false)] [] ?_))
       refine oe (nt (qe (br (nr (nr ?_)))))
       have h53 := leafR hd33 h51 h29
       refine br (nr (nr ?_))
       obtain rfl := sI h53
       exact re [.bool false]
     refine qk (bn (nt (qr (oN 3 [(5, vi (w64 (s24 + 1)))] [0, 1] ?_))))
     exact oe (ct h52 () [5, 0, 1] [] 0)
   refine qx (nx (nx (bh ?_)))
   have h54 := leafB hd33 h39 h29
   exact mp ((), ()) h54 [] [] 0
 have h36 := (congrFun hk31 _).symm.trans h36p
 refine nt (qs (qr (oN 1 [(4, vb true)] [] ?_)))
 refine oe (nt (qe ?_))
 obtain rfl := sI h36
 exact re [.bool true]

theorem c_laws_eqFrac {W : World} {x0 : Frac} {x1 : Frac} {r : Bool} (h : laws_eqFrac x0 x1 = some r)  :
    Gives0 Tryz.prog 244 #[vFrac x0, vFrac x1] W (.bool r) := by
 unfold laws_eqFrac at h
 refine en Tryz.func244 Tryz.ntmps244 ?_
 refine qs (qr (oB 3 [(3, .p 1 0), (2, .p 0 0)] [] [(216, (eFrac x0)), (216, (eFrac x1))] ?_))
 refine oe (nt (qs (qs (qr (oN 5 [(9, vb (x0.Num != x1.Num))] [3, 2] ?_)))))
 refine oe (nt (cC h (fun h22 => ?_) (fun h23 => ?_)))
 · refine qs (qr (oN 1 [(4, vb false)] [] ?_))
   refine oe (nt (qe (nr ?_)))
   obtain rfl := sI h22
   exact re [.bool false]
 refine qk (nt (qs (qs (qr (oN 5 [(14, vb (x0.Den != x1.Den))] [] ?_)))))
 refine oe (nt (cC h23 (fun h25 => ?_) (fun h26 => ?_)))
 · refine qs (qr (oN 1 [(4, vb false)] [] ?_))
   refine oe (nt (qe (nr ?_)))
   obtain rfl := sI h25
   exact re [.bool false]
 refine qk (nt (qs (qr (oN 1 [(4, vb true)] [] ?_))))
 refine oe (nt (qe ?_))
 obtain rfl := sI h26
 exact re [.bool true]

theorem c_laws_eqNode {W : World} {x0 : Node} {x1 : Node} {r : Bool} (h : laws_eqNode x0 x1 = some r)  :
    Gives0 Tryz.prog 233 #[vNode x0, vNode x1] W (.bool r) := by
 unfold laws_eqNode at h
 refine en Tryz.func233 Tryz.ntmps233 ?_
 refine qs (qr (oB 3 [(3, .p 1 0), (2, .p 0 0)] [] [(233, (eNode x0)), (233, (eNode x1))] ?_))
 refine oe (nt (qs (qs (qr (oN 5 [(9, vb (x0.Kind != x1.Kind))] [3, 2] ?_)))))
 refine oe (nt (cC h (fun h22 => ?_) (fun h23 => ?_)))
 · refine qs (qr (oN 1 [(4, vb false)] [] ?_))
   refine oe (nt (qe (nr ?_)))
   obtain rfl := sI h22
   exact re [.bool false]
 refine qk (nt (qs (qs (qr (oN 5 [(14, vb (x0.A != x1.A))] [3, 2] ?_)))))
 refine oe (nt (cC h23 (fun h25 => ?_) (fun h26 => ?_)))
 · refine qs (qr (oN 1 [(4, vb false)] [] ?_))
   refine oe (nt (qe (nr ?_)))
   obtain rfl := sI h25
   exact re [.bool false]
 refine qk (nt (qs (qs (qr (oN 5 [(19, vb (x0.B != x1.B))] [3, 2] ?_)))))
 refine oe (nt (cC h26 (fun h28 => ?_) (fun h29 => ?_)))
 · refine qs (qr (oN 1 [(4, vb false)] [] ?_))
   refine oe (nt (qe (nr ?_)))
   obtain rfl := sI h28
   exact re [.bool false]
 refine qk (nt (qs (qs (qr (oN 5 [(24, vb (x0.C != x1.C))] [3, 2] ?_)))))
 refine oe (nt (cC h29 (fun h31 => ?_) (fun h32 => ?_)))
 · refine qs (qr (oN 1 [(4, vb false)] [] ?_))
   refine oe (nt (qe (nr ?_)))
   obtain rfl := sI h31
   exact re [.bool false]
 refine qk (nt (qs (qs (qr (oN 4 [(28, .v (vFrac x1.Value)), (26, .v (vFrac x0.Value))] [] ?_)))))
 obtain ⟨t33, h34, h35⟩ := bS h32
 refine k0 (fun γ w hs => c_laws_eqFrac h34) ?_
 refine oN 1 [(30, vb (!t33))] [] ?_
 refine oe (nt (cC h35 (fun h38 => ?_) (fun h39 => ?_)))
 · refine qs (qr (oN 1 [(4, vb false)] [] ?_))
   refine oe (nt (qe (nr ?_)))
   obtain rfl := sI h38
   exact re [.bool false]
 refine qk (nt (qs (qr (oN 1 [(4, vb true)] [] ?_))))
 refine oe (nt (qe ?_))
 obtain rfl := sI h39
 exact re [.bool true]

theorem c_laws_eqNodeS {W : World} {x0 : List Node} {a0_0 : Option Addr} {c0_0 : Nat} {x1 : List Node} {a1_0 : Option Addr} {c1_0 : Nat} {r : Bool} (h : laws_eqNodeS x0 x1 = some r) (hv0_0 : SlView W x0 a0_0 c0_0) (hv1_0 : SlView W x1 a1_0 c1_0) :
    Gives0 Tryz.prog 206 #[.slice a0_0 x0.length c0_0, .slice a1_0 x1.length c1_0] W (.bool r) := by
 unfold laws_eqNodeS at h
 refine en Tryz.func206 Tryz.ntmps206 ?_
 refine qs (qr (oN 1 [] [0, 1] ?_))
 refine oe (nt (qs (qs (qr (oN 5 [(10, vb ((x0.length : Int) != (x1.length : Int)))] [0, 1] ?_)))))
 refine oe (nt (cC h (fun h22 => ?_) (fun h23 => ?_)))
 · refine qs (qr (oN 1 [(4, vb false)] [] ?_))
   refine oe (nt (qe (nr ?_)))
   obtain rfl := sI h22
   exact re [.bool false]
 refine qk (nt (qs (qs (qr (oN 1 [(5, vi 0)] [0, 1] ?_)))))
 refine oe (nt ?_)
 obtain ⟨r27, hL28, h29⟩ := bS h23
 obtain ⟨k30, hk31, h29⟩ := brkS h29
 refine JC_cutP (τ := (Unit) × (Unit)) (fun y => k30 y.1 = some r) (fun y35 => []) (fun y35 => []) (fun y35 => []) ?_ (fun y35 h36p => ?_)
 · refine qb (lp Unit hL28 (fun s24 y25 => [(5, vi s24), (0, .v (.slice a0_0 x0.length c0_0)), (1, .v (.slice a1_0 x1.length c1_0))]) (fun s24 y25 => []) (fun s24 y25 => []) () [5, 0, 1] [] 0 (fun s24 y25 t26 h32 hd33 => ?_))
   refine qs (qs (qr (oN 4 [(14, vb (decide (s24 < (x0.length : Int))))] [5, 0, 1] ?_)))
   refine oe (nt (cC h32 (fun h38 => ?_) (fun h39 => ?_)))
   · refine qk (nt (qs (qb (qs (JC_quiet (by kernel_rfl) (by kernel_rfl) ?_)))))
     refine qN 2 [(18, vi s24), (17, .v (.slice a0_0 x0.length c0_0))] [5, 0, 1] ?_
     obtain ⟨x40, hx41, h42⟩ := bS h38
     refine qi 6 (fun γ w hs => (hv0_0.kept hs.kept)) hx41 ?_
     refine ql 233 0 (vNode x40) (fun γ w hs => (hv0_0.kept hs.kept).flatq hx41) ?_
     refine qN 2 [(22, vi s24), (21, .v (.slice a1_0 x1.length c1_0))] [20, 5, 0, 1] ?_
     obtain ⟨x43, hx44, h45⟩ := bS h42
     refine qi 6 (fun γ w hs => (hv1_0.kept hs.kept)) hx44 ?_
     refine ql 233 0 (vNode x43) (fun γ w hs => (hv1_0.kept hs.kept).flatq hx44) ?_
     obtain ⟨t46, h47, h48⟩ := bS h45
     refine q0 (fun γ w hs => c_laws_eqNode h47) ?_
     refine qN 1 [(26, vb (!t46))] [5, 0, 1] ?_
     refine qz (nt (cC h48 (fun h51 => ?_) (fun h52 => ?_)))
     · refine qs (qr (oN 1 [(4, vb false)] [] ?_))
       refine oe (nt (qe (br (nr (nr ?_)))))
       have h53 := leafR hd33 h51 h29
       refine br (nr (nr ?_))
       obtain rfl := sI h53
       exact re [.bool false]
     refine qk (bn (nt (qr (oN 3 [(5, vi (w64 (s24 + 1)))] [0, 1] ?_))))
     exact oe (ct h52 () [5, 0, 1] [] 0)
   refine qx (nx (nx (bh ?_)))
   have h54 := leafB hd33 h39 h29
   exact mp ((), ()) h54 [] [] 0
 have h36 := (congrFun hk31 _).symm.trans h36p
 refine nt (qs (qr (oN 1 [(4, vb true)] [] ?_)))
 refine oe (nt (qe ?_))
 obtain rfl := sI h36
 exact re [.bool true]

theorem c_laws_eqRule {W : World} {x0 : Rule} {a0_0 : Option Addr} {c0_0 : Nat} {x1 : Rule} {a1_0 : Option Addr} {c1_0 : Nat} {r : Bool} (h : laws_eqRule x0 x1 = some r) (hv0_0 : SlView W x0.Nodes a0_0 c0_0) (hv1_0 : SlView W x1.Nodes a1_0 c1_0) :
    Gives0 Tryz.prog 155 #[vRule x0 (a0_0, c0_0), vRule x1 (a1_0, c1_0)] W (.bool r) := by
 unfold laws_eqRule at h
 refine en Tryz.func155 Tryz.ntmps155 ?_
 refine qs (qr (oB 3 [(3, .p 1 0), (2, .p 0 0)] [] [(188, (eRule x0 (a0_0, c0_0))), (188, (eRule x1 (a1_0, c1_0)))] ?_))
 refine oe (nt (qs (qs (qr (oN 5 [(9, vb (x0.Name != x1.Name))] [3, 2] ?_)))))
 refine oe (nt (cC h (fun h22 => ?_) (fun h23 => ?_)))
 · refine qs (qr (oN 1 [(4, vb false)] [] ?_))
   refine oe (nt (qe (nr ?_)))
   obtain rfl := sI h22
   exact re [.bool false]
 refine qk (nt (qs (qs (qr (oN 5 [(14, vb (x0.From != x1.From))] [3, 2] ?_)))))
 refine oe (nt (cC h23 (fun h25 => ?_) (fun h26 => ?_)))
 · refine qs (qr (oN 1 [(4, vb false)] [] ?_))
   refine oe (nt (qe (nr ?_)))
   obtain rfl := sI h25
   exact re [.bool false]
 refine qk (nt (qs (qs (qr (oN 5 [(19, vb (x0.To != x1.To))] [3, 2] ?_)))))
 refine oe (nt (cC h26 (fun h28 => ?_) (fun h29 => ?_)))
 · refine qs (qr (oN 1 [(4, vb false)] [] ?_))
   refine oe (nt (qe (nr ?_)))
   obtain rfl := sI h28
   exact re [.bool false]
 refine qk (nt (qs (qs (qr (oN 5 [(24, vb (x0.Joined != x1.Joined))] [3, 2] ?_)))))
 refine oe (nt (cC h29 (fun h31 => ?_) (fun h32 => ?_)))
 · refine qs (qr (oN 1 [(4, vb false)] [] ?_))
   refine oe (nt (qe (nr ?_)))
   obtain rfl := sI h31
   exact re [.bool false]
 refine qk (nt (qs (qs (qr (oN 5 [(29, vb (x0.Rank != x1.Rank))] [3, 2] ?_)))))
 refine oe (nt (cC h32 (fun h34 => ?_) (fun h35 => ?_)))
 · refine qs (qr (oN 1 [(4, vb false)] [] ?_))
   refine oe (nt (qe (nr ?_)))
   obtain rfl := sI h34
   exact re [.bool false]
 refine qk (nt (qs (qs (qr (oN 5 [(34, vb (x0.Mode != x1.Mode))] [3, 2] ?_)))))
 refine oe (nt (cC h35 (fun h37 => ?_) (fun h38 => ?_)))
 · refine qs (qr (oN 1 [(4, vb false)] [] ?_))
   refine oe (nt (qe (nr ?_)))
   obtain rfl := sI h37
   exact re [.bool false]
 refine qk (nt (qs (qs (qr (oN 4 [(38, .v (.slice a1_0 x1.Nodes.length c1_0)), (36, .v (.slice a0_0 x0.Nodes.length c0_0))] [] ?_)))))
 obtain ⟨t39, h40, h41⟩ := bS h38
 refine k0 (fun γ w hs => c_laws_eqNodeS h40 (hv0_0.kept hs.kept) (hv1_0.kept hs.kept)) ?_
 refine oN 1 [(40, vb (!t39))] [] ?_
 refine oe (nt (cC h41 (fun h44 => ?_) (fun h45 => ?_)))
 · refine qs (qr (oN 1 [(4, vb false)] [] ?_))
   refine oe (nt (qe (nr ?_)))
   obtain rfl := sI h44
   exact re [.bool false]
 refine qk (nt (qs (qr (oN 1 [(4, vb true)] [] ?_))))
 refine oe (nt (qe ?_))
 obtain rfl := sI h45
 exact re [.bool true]

theorem c_laws_eqRuleS {W : World} {x0 : List Rule} {a0_0 : Option Addr} {c0_0 : Nat} {x1 : List Rule} {a1_0 : Option Addr} {c1_0 : Nat} {r : Bool} (h : laws_eqRuleS x0 x1 = some r) (hv0_0 : SlView W x0 a0_0 c0_0) (hv1_0 : SlView W x1 a1_0 c1_0) :
    Gives0 Tryz.prog 107 #[.slice a0_0 x0.length c0_0, .slice a1_0 x1.length c1_0] W (.bool r) := by
 unfold laws_eqRuleS at h
 refine en Tryz.func107 Tryz.ntmps107 ?_
 refine qs (qr (oN 1 [] [0, 1] ?_))
 refine oe (nt (qs (qs (qr (oN 5 [(10, vb ((x0.length : Int) != (x1.length : Int)))] [0, 1] ?_)))))
 refine oe (nt (cC h (fun h22 => ?_) (fun h23 => ?_)))
 · refine qs (qr (oN 1 [(4, vb false)] [] ?_))
   refine oe (nt (qe (nr ?_)))
   obtain rfl := sI h22
   exact re [.bool false]
 refine qk (nt (qs (qs (qr (oN 1 [(5, vi 0)] [0, 1] ?_)))))
 refine oe (nt ?_)
 obtain ⟨r27, hL28, h29⟩ := bS h23
 obtain ⟨k30, hk31, h29⟩ := brkS h29
 refine JC_cutP (τ := (Unit) × (Unit)) (fun y => k30 y.1 = some r) (fun y35 => []) (fun y35 => []) (fun y35 => []) ?_ (fun y35 h36p => ?_)
 · refine qb (lp Unit hL28 (fun s24 y25 => [(5, vi s24), (0, .v (.slice a0_0 x0.length c0_0)), (1, .v (.slice a1_0 x1.length c1_0))]) (fun s24 y25 => []) (fun s24 y25 => []) () [5, 0, 1] [] 0 (fun s24 y25 t26 h32 hd33 => ?_))
   refine qs (qs (qr (oN 4 [(14, vb (decide (s24 < (x0.length : Int))))] [5, 0, 1] ?_)))
   refine oe (nt (cC h32 (fun h38 => ?_) (fun h39 => ?_)))
   · refine qk (nt (qs (qb (qs (JC_quiet (by kernel_rfl) (by kernel_rfl) ?_)))))
     refine qN 2 [(18, vi s24), (17, .v (.slice a0_0 x0.length c0_0))] [5, 0, 1] ?_
     obtain ⟨x40, hx41, h42⟩ := bS h38
     refine qi 7 (fun γ w hs => (hv0_0.kept hs.kept)) hx41 ?_
     obtain ⟨_, ⟨a43, c44, rfl, hv45⟩, hc46⟩ := SlView.at hv0_0 (idx_some hx41).2.2
     refine ql 188 0 (vRule x40 (a43, c44)) (fun γ w hs => ⟨(hv0_0.kept hs.kept).ne (idx_some hx41).2.2, hc46.kept hs.kept⟩) ?_
     refine qN 2 [(22, vi s24), (21, .v (.slice a1_0 x1.length c1_0))] [20, 5, 0, 1] ?_
     obtain ⟨x47, hx48, h49⟩ := bS h42
     refine qi 7 (fun γ w hs => (hv1_0.kept hs.kept)) hx48 ?_
     obtain ⟨_, ⟨a50, c51, rfl, hv52⟩, hc53⟩ := SlView.at hv1_0 (idx_some hx48).2.2
     refine ql 188 0 (vRule x47 (a50, c51)) (fun γ w hs => ⟨(hv1_0.kept hs.kept).ne (idx_some hx48).2.2, hc53.kept hs.kept⟩) ?_
     obtain ⟨t54, h55, h56⟩ := bS h49
     refine q0 (fun γ w hs => c_laws_eqRule h55 (hv45.kept hs.kept) (hv52.kept hs.kept)) ?_
     refine qN 1 [(26, vb (!t54))] [5, 0, 1] ?_
     refine qz (nt (cC h56 (fun h59 => ?_) (fun h60 => ?_)))
     · refine qs (qr (oN 1 [(4, vb false)] [] ?_))
       refine oe (nt (qe (br (nr (nr ?_)))))
       have h61 := leafR hd33 h59 h29
       refine br (nr (nr ?_))
       obtain rfl := sI h61
       exact re [.bool false]
     refine qk (bn (nt (qr (oN 3 [(5, vi (w64 (s24 + 1)))] [0, 1] ?_))))
     exact oe (ct h60 () [5, 0, 1] [] 0)
   refine qx (nx (nx (bh ?_)))
   have h62 := leafB hd33 h39 h29
   exact mp ((), ()) h62 [] [] 0
 have h36 := (congrFun hk31 _).symm.trans h36p
 refine nt (qs (qr (oN 1 [(4, vb true)] [] ?_)))
 refine oe (nt (qe ?_))
 obtain rfl := sI h36
 exact re [.bool true]

theorem c_laws_eqBook {W : World} {x0 : Book} {a0_0 : Option Addr} {c0_0 : Nat} {x1 : Book} {a1_0 : Option Addr} {c1_0 : Nat} {r : Bool} (h : laws_eqBook x0 x1 = some r) (hv0_0 : SlView W x0.Rules a0_0 c0_0) (hv1_0 : SlView W x1.Rules a1_0 c1_0) :
    Gives0 Tryz.prog 63 #[vBook x0 (a0_0, c0_0), vBook x1 (a1_0, c1_0)] W (.bool r) := by
 unfold laws_eqBook at h
 refine en Tryz.func63 Tryz.ntmps63 ?_
 refine qs (qr (oB 3 [(3, .p 1 0), (2, .p 0 0)] [] [(42, (eBook x0 (a0_0, c0_0))), (42, (eBook x1 (a1_0, c1_0)))] ?_))
 refine oe (nt (qs (qs (qr (oN 4 [(8, .v (.slice a1_0 x1.Rules.length c1_0)), (6, .v (.slice a0_0 x0.Rules.length c0_0))] [] ?_)))))
 obtain ⟨t21, h22, h23⟩ := bS h
 refine k0 (fun γ w hs => c_laws_eqRuleS h22 (hv0_0.kept hs.kept) (hv1_0.kept hs.kept)) ?_
 refine oN 1 [(10, vb (!t21))] [] ?_
 refine oe (nt (cC h23 (fun h26 => ?_) (fun h27 => ?_)))
 · refine qs (qr (oN 1 [(4, vb false)] [] ?_))
   refine oe (nt (qe (nr ?_)))
   obtain rfl := sI h26
   exact re [.bool false]
 refine qk (nt (qs (qr (oN 1 [(4, vb true)] [] ?_))))
 refine oe (nt (qe ?_))
 obtain rfl := sI h27
 exact re [.bool true]

theorem c_laws_eqFact {W : World} {x0 : Fact} {x1 : Fact} {r : Bool} (h : laws_eqFact x0 x1 = some r)  :
    Gives0 Tryz.prog 112 #[vFact x0, vFact x1] W (.bool r) := by
 unfold laws_eqFact at h
 refine en Tryz.func112 Tryz.ntmps112 ?_
 refine qs (qr (oB 3 [(3, .p 1 0), (2, .p 0 0)] [] [(84, (eFact x0)), (84, (eFact x1))] ?_))
 refine oe (nt (qs (qs (qr (oN 5 [(9, vb (x0.Key != x1.Key))] [3, 2] ?_)))))
 refine oe (nt (cC h (fun h22 => ?_) (fun h23 => ?_)))
 · refine qs (qr (oN 1 [(4, vb false)] [] ?_))
   refine oe (nt (qe (nr ?_)))
   obtain rfl := sI h22
   exact re [.bool false]
 refine qk (nt (qs (qs (qr (oN 5 [(14, vb (x0.From != x1.From))] [3, 2] ?_)))))
 refine oe (nt (cC h23 (fun h25 => ?_) (fun h26 => ?_)))
 · refine qs (qr (oN 1 [(4, vb false)] [] ?_))
   refine oe (nt (qe (nr ?_)))
   obtain rfl := sI h25
   exact re [.bool false]
 refine qk (nt (qs (qs (qr (oN 5 [(19, vb (x0.To != x1.To))] [3, 2] ?_)))))
 refine oe (nt (cC h26 (fun h28 => ?_) (fun h29 => ?_)))
 · refine qs (qr (oN 1 [(4, vb false)] [] ?_))
   refine oe (nt (qe (nr ?_)))
   obtain rfl := sI h28
   exact re [.bool false]
 refine qk (nt (qs (qs (qr (oN 5 [(24, vb (x0.Known != x1.Known))] [3, 2] ?_)))))
 refine oe (nt (cC h29 (fun h31 => ?_) (fun h32 => ?_)))
 · refine qs (qr (oN 1 [(4, vb false)] [] ?_))
   refine oe (nt (qe (nr ?_)))
   obtain rfl := sI h31
   exact re [.bool false]
 refine qk (nt (qs (qs (qr (oN 5 [(29, vb (x0.Value != x1.Value))] [] ?_)))))
 refine oe (nt (cC h32 (fun h34 => ?_) (fun h35 => ?_)))
 · refine qs (qr (oN 1 [(4, vb false)] [] ?_))
   refine oe (nt (qe (nr ?_)))
   obtain rfl := sI h34
   exact re [.bool false]
 refine qk (nt (qs (qr (oN 1 [(4, vb true)] [] ?_))))
 refine oe (nt (qe ?_))
 obtain rfl := sI h35
 exact re [.bool true]

theorem c_laws_eqFactS {W : World} {x0 : List Fact} {a0_0 : Option Addr} {c0_0 : Nat} {x1 : List Fact} {a1_0 : Option Addr} {c1_0 : Nat} {r : Bool} (h : laws_eqFactS x0 x1 = some r) (hv0_0 : SlView W x0 a0_0 c0_0) (hv1_0 : SlView W x1 a1_0 c1_0) :
    Gives0 Tryz.prog 108 #[.slice a0_0 x0.length c0_0, .slice a1_0 x1.length c1_0] W (.bool r) := by
 unfold laws_eqFactS at h
 refine en Tryz.func108 Tryz.ntmps108 ?_
 refine qs (qr (oN 1 [] [0, 1] ?_))
 refine oe (nt (qs (qs (qr (oN 5 [(10, vb ((x0.length : Int) != (x1.length : Int)))] [0, 1] ?_)))))
 refine oe (nt (cC h (fun h22 => ?_) (fun h23 => ?_)))
 · refine qs (qr (oN 1 [(4, vb false)] [] ?_))
   refine oe (nt (qe (nr ?_)))
   obtain rfl := sI h22
   exact re [.bool false]
 refine qk (nt (qs (qs (qr (oN 1 [(5, vi 0)] [0, 1] ?_)))))
 refine oe (nt ?_)
 obtain ⟨r27, hL28, h29⟩ := bS h23
 obtain ⟨k30, hk31, h29⟩ := brkS h29
 refine JC_cutP (τ := (Unit) × (Unit)) (fun y => k30 y.1 = some r) (fun y35 => []) (fun y35 => []) (fun y35 => []) ?_ (fun y35 h36p => ?_)
 · refine qb (lp Unit hL28 (fun s24 y25 => [(5, vi s24), (0, .v (.slice a0_0 x0.length c0_0)), (1, .v (.slice a1_0 x1.length c1_0))]) (fun s24 y25 => []) (fun s24 y25 => []) () [5, 0, 1] [] 0 (fun s24 y25 t26 h32 hd33 => ?_))
   refine qs (qs (qr (oN 4 [(14, vb (decide (s24 < (x0.length : Int))))] [5, 0, 1] ?_)))
   refine oe (nt (cC h32 (fun h38 => ?_) (fun h39 => ?_)))
   · refine qk (nt (qs (qb (qs (JC_quiet (by kernel_rfl) (by kernel_rfl) ?_)))))
     refine qN 2 [(18, vi s24), (17, .v (.slice a0_0 x0.length c0_0))] [5, 0, 1] ?_
     obtain ⟨x40, hx41, h42⟩ := bS h38
     refine qi 5 (fun γ w hs => (hv0_0.kept hs.kept)) hx41 ?_
     refine ql 84 0 (vFact x40) (fun γ w hs => (hv0_0.kept hs.kept).flatq hx41) ?_
     refine qN 2 [(22, vi s24), (21, .v (.slice a1_0 x1.length c1_0))] [20, 5, 0, 1] ?_
     obtain ⟨x43, hx44, h45⟩ := bS h42
     refine qi 5 (fun γ w hs => (hv1_0.kept hs.kept)) hx44 ?_
     refine ql 84 0 (vFact x43) (fun γ w hs => (hv1_0.kept hs.kept).flatq hx44) ?_
     obtain ⟨t46, h47, h48⟩ := bS h45
     refine q0 (fun γ w hs => c_laws_eqFact h47) ?_
     refine qN 1 [(26, vb (!t46))] [5, 0, 1] ?_
     refine qz (nt (cC h48 (fun h51 => ?_) (fun h52 => ?_)))
     · refine qs (qr (oN 1 [(4, vb false)] [] ?_))
       refine oe (nt (qe (br (nr (nr ?_)))))
       have h53 := leafR hd33 h51 h29
       refine br (nr (nr ?_))
       obtain rfl := sI h53
       exact re [.bool false]
     refine qk (bn (nt (qr (oN 3 [(5, vi (w64 (s24 + 1)))] [0, 1] ?_))))
     exact oe (ct h52 () [5, 0, 1] [] 0)
   refine qx (nx (nx (bh ?_)))
   have h54 := leafB hd33 h39 h29
   exact mp ((), ()) h54 [] [] 0
 have h36 := (congrFun hk31 _).symm.trans h36p
 refine nt (qs (qr (oN 1 [(4, vb true)] [] ?_)))
 refine oe (nt (qe ?_))
 obtain rfl := sI h36
 exact re [.bool true]

theorem c_laws_eqStore {W : World} {x0 : Store} {a0_0 : Option Addr} {c0_0 : Nat} {x1 : Store} {a1_0 : Option Addr} {c1_0 : Nat} {r : Bool} (h : laws_eqStore x0 x1 = some r) (hv0_0 : SlView W x0.Facts a0_0 c0_0) (hv1_0 : SlView W x1.Facts a1_0 c1_0) :
    Gives0 Tryz.prog 64 #[vStore x0 (a0_0, c0_0), vStore x1 (a1_0, c1_0)] W (.bool r) := by
 unfold laws_eqStore at h
 refine en Tryz.func64 Tryz.ntmps64 ?_
 refine qs (qr (oB 3 [(3, .p 1 0), (2, .p 0 0)] [] [(45, (eStore x0 (a0_0, c0_0))), (45, (eStore x1 (a1_0, c1_0)))] ?_))
 refine oe (nt (qs (qs (qr (oN 4 [(8, .v (.slice a1_0 x1.Facts.length c1_0)), (6, .v (.slice a0_0 x0.Facts.length c0_0))] [] ?_)))))
 obtain ⟨t21, h22, h23⟩ := bS h
 refine k0 (fun γ w hs => c_laws_eqFactS h22 (hv0_0.kept hs.kept) (hv1_0.kept hs.kept)) ?_
 refine oN 1 [(10, vb (!t21))] [] ?_
 refine oe (nt (cC h23 (fun h26 => ?_) (fun h27 => ?_)))
 · refine qs (qr (oN 1 [(4, vb false)] [] ?_))
   refine oe (nt (qe (nr ?_)))
   obtain rfl := sI h26
   exact re [.bool false]
 refine qk (nt (qs (qr (oN 1 [(4, vb true)] [] ?_))))
 refine oe (nt (qe ?_))
 obtain rfl := sI h27
 exact re [.bool true]

theorem c_laws_eqPoint {W : World} {x0 : Point} {x1 : Point} {r : Bool} (h : laws_eqPoint x0 x1 = some r)  :
    Gives0 Tryz.prog 113 #[vPoint x0, vPoint x1] W (.bool r) := by
 unfold laws_eqPoint at h
 refine en Tryz.func113 Tryz.ntmps113 ?_
 refine qs (qr (oB 3 [(3, .p 1 0), (2, .p 0 0)] [] [(85, (ePoint x0)), (85, (ePoint x1))] ?_))
 refine oe (nt (qs (qs (qr (oN 5 [(9, vb (x0.Month != x1.Month))] [3, 2] ?_)))))
 refine oe (nt (cC h (fun h22 => ?_) (fun h23 => ?_)))
 · refine qs (qr (oN 1 [(4, vb false)] [] ?_))
   refine oe (nt (qe (nr ?_)))
   obtain rfl := sI h22
   exact re [.bool false]
 refine qk (nt (qs (qs (qr (oN 5 [(14, vb (x0.Known != x1.Known))] [3, 2] ?_)))))
 refine oe (nt (cC h23 (fun h25 => ?_) (fun h26 => ?_)))
 · refine qs (qr (oN 1 [(4, vb false)] [] ?_))
   refine oe (nt (qe (nr ?_)))
   obtain rfl := sI h25
   exact re [.bool false]
 refine qk (nt (qs (qs (qr (oN 5 [(19, vb (x0.Value != x1.Value))] [] ?_)))))
 refine oe (nt (cC h26 (fun h28 => ?_) (fun h29 => ?_)))
 · refine qs (qr (oN 1 [(4, vb false)] [] ?_))
   refine oe (nt (qe (nr ?_)))
   obtain rfl := sI h28
   exact re [.bool false]
 refine qk (nt (qs (qr (oN 1 [(4, vb true)] [] ?_))))
 refine oe (nt (qe ?_))
 obtain rfl := sI h29
 exact re [.bool true]

theorem c_laws_eqPointS {W : World} {x0 : List Point} {a0_0 : Option Addr} {c0_0 : Nat} {x1 : List Point} {a1_0 : Option Addr} {c1_0 : Nat} {r : Bool} (h : laws_eqPointS x0 x1 = some r) (hv0_0 : SlView W x0 a0_0 c0_0) (hv1_0 : SlView W x1 a1_0 c1_0) :
    Gives0 Tryz.prog 109 #[.slice a0_0 x0.length c0_0, .slice a1_0 x1.length c1_0] W (.bool r) := by
 unfold laws_eqPointS at h
 refine en Tryz.func109 Tryz.ntmps109 ?_
 refine qs (qr (oN 1 [] [0, 1] ?_))
 refine oe (nt (qs (qs (qr (oN 5 [(10, vb ((x0.length : Int) != (x1.length : Int)))] [0, 1] ?_)))))
 refine oe (nt (cC h (fun h22 => ?_) (fun h23 => ?_)))
 · refine qs (qr (oN 1 [(4, vb false)] [] ?_))
   refine oe (nt (qe (nr ?_)))
   obtain rfl := sI h22
   exact re [.bool false]
 refine qk (nt (qs (qs (qr (oN 1 [(5, vi 0)] [0, 1] ?_)))))
 refine oe (nt ?_)
 obtain ⟨r27, hL28, h29⟩ := bS h23
 obtain ⟨k30, hk31, h29⟩ := brkS h29
 refine JC_cutP (τ := (Unit) × (Unit)) (fun y => k30 y.1 = some r) (fun y35 => []) (fun y35 => []) (fun y35 => []) ?_ (fun y35 h36p => ?_)
 · refine qb (lp Unit hL28 (fun s24 y25 => [(5, vi s24), (0, .v (.slice a0_0 x0.length c0_0)), (1, .v (.slice a1_0 x1.length c1_0))]) (fun s24 y25 => []) (fun s24 y25 => []) () [5, 0, 1] [] 0 (fun s24 y25 t26 h32 hd33 => ?_))
   refine qs (qs (qr (oN 4 [(14, vb (decide (s24 < (x0.length : Int))))] [5, 0, 1] ?_)))
   refine oe (nt (cC h32 (fun h38 => ?_) (fun h39 => ?_)))
   · refine qk (nt (qs (qb (qs (JC_quiet (by kernel_rfl) (by kernel_rfl) ?_)))))
     refine qN 2 [(18, vi s24), (17, .v (.slice a0_0 x0.length c0_0))] [5, 0, 1] ?_
     obtain ⟨x40, hx41, h42⟩ := bS h38
     refine qi 3 (fun γ w hs => (hv0_0.kept hs.kept)) hx41 ?_
     refine ql 85 0 (vPoint x40) (fun γ w hs => (hv0_0.kept hs.kept).flatq hx41) ?_
     refine qN 2 [(22, vi s24), (21, .v (.slice a1_0 x1.length c1_0))] [20, 5, 0, 1] ?_
     obtain ⟨x43, hx44, h45⟩ := bS h42
     refine qi 3 (fun γ w hs => (hv1_0.kept hs.kept)) hx44 ?_
     refine ql 85 0 (vPoint x43) (fun γ w hs => (hv1_0.kept hs.kept).flatq hx44) ?_
     obtain ⟨t46, h47, h48⟩ := bS h45
     refine q0 (fun γ w hs => c_laws_eqPoint h47) ?_
     refine qN 1 [(26, vb (!t46))] [5, 0, 1] ?_
     refine qz (nt (cC h48 (fun h51 => ?_) (fun h52 => ?_)))
     · refine qs (qr (oN 1 [(4, vb false)] [] ?_))
       refine oe (nt (qe (br (nr (nr ?_)))))
       have h53 := leafR hd33 h51 h29
       refine br (nr (nr ?_))
       obtain rfl := sI h53
       exact re [.bool false]
     refine qk (bn (nt (qr (oN 3 [(5, vi (w64 (s24 + 1)))] [0, 1] ?_))))
     exact oe (ct h52 () [5, 0, 1] [] 0)
   refine qx (nx (nx (bh ?_)))
   have h54 := leafB hd33 h39 h29
   exact mp ((), ()) h54 [] [] 0
 have h36 := (congrFun hk31 _).symm.trans h36p
 refine nt (qs (qr (oN 1 [(4, vb true)] [] ?_)))
 refine oe (nt (qe ?_))
 obtain rfl := sI h36
 exact re [.bool true]

theorem c_laws_eqSeries {W : World} {x0 : Series} {a0_0 : Option Addr} {c0_0 : Nat} {x1 : Series} {a1_0 : Option Addr} {c1_0 : Nat} {r : Bool} (h : laws_eqSeries x0 x1 = some r) (hv0_0 : SlView W x0.Points a0_0 c0_0) (hv1_0 : SlView W x1.Points a1_0 c1_0) :
    Gives0 Tryz.prog 65 #[vSeries x0 (a0_0, c0_0), vSeries x1 (a1_0, c1_0)] W (.bool r) := by
 unfold laws_eqSeries at h
 refine en Tryz.func65 Tryz.ntmps65 ?_
 refine qs (qr (oB 3 [(3, .p 1 0), (2, .p 0 0)] [] [(48, (eSeries x0 (a0_0, c0_0))), (48, (eSeries x1 (a1_0, c1_0)))] ?_))
 refine oe (nt (qs (qs (qr (oN 4 [(8, .v (.slice a1_0 x1.Points.length c1_0)), (6, .v (.slice a0_0 x0.Points.length c0_0))] [] ?_)))))
 obtain ⟨t21, h22, h23⟩ := bS h
 refine k0 (fun γ w hs => c_laws_eqPointS h22 (hv0_0.kept hs.kept) (hv1_0.kept hs.kept)) ?_
 refine oN 1 [(10, vb (!t21))] [] ?_
 refine oe (nt (cC h23 (fun h26 => ?_) (fun h27 => ?_)))
 · refine qs (qr (oN 1 [(4, vb false)] [] ?_))
   refine oe (nt (qe (nr ?_)))
   obtain rfl := sI h26
   exact re [.bool false]
 refine qk (nt (qs (qr (oN 1 [(4, vb true)] [] ?_))))
 refine oe (nt (qe ?_))
 obtain rfl := sI h27
 exact re [.bool true]

theorem c_laws_eqSpell {W : World} {x0 : Spell} {x1 : Spell} {r : Bool} (h : laws_eqSpell x0 x1 = some r)  :
    Gives0 Tryz.prog 156 #[vSpell x0, vSpell x1] W (.bool r) := by
 unfold laws_eqSpell at h
 refine en Tryz.func156 Tryz.ntmps156 ?_
 refine qs (qr (oB 3 [(3, .p 1 0), (2, .p 0 0)] [] [(191, (eSpell x0)), (191, (eSpell x1))] ?_))
 refine oe (nt (qs (qs (qr (oN 5 [(9, vb (x0.From != x1.From))] [3, 2] ?_)))))
 refine oe (nt (cC h (fun h22 => ?_) (fun h23 => ?_)))
 · refine qs (qr (oN 1 [(4, vb false)] [] ?_))
   refine oe (nt (qe (nr ?_)))
   obtain rfl := sI h22
   exact re [.bool false]
 refine qk (nt (qs (qs (qr (oN 5 [(14, vb (x0.To != x1.To))] [3, 2] ?_)))))
 refine oe (nt (cC h23 (fun h25 => ?_) (fun h26 => ?_)))
 · refine qs (qr (oN 1 [(4, vb false)] [] ?_))
   refine oe (nt (qe (nr ?_)))
   obtain rfl := sI h25
   exact re [.bool false]
 refine qk (nt (qs (qs (qr (oN 5 [(19, vb (x0.Percent != x1.Percent))] [3, 2] ?_)))))
 refine oe (nt (cC h26 (fun h28 => ?_) (fun h29 => ?_)))
 · refine qs (qr (oN 1 [(4, vb false)] [] ?_))
   refine oe (nt (qe (nr ?_)))
   obtain rfl := sI h28
   exact re [.bool false]
 refine qk (nt (qs (qs (qr (oN 5 [(24, vb (!(x0.Leave == x1.Leave)))] [] ?_)))))
 refine oe (nt (cC h29 (fun h31 => ?_) (fun h32 => ?_)))
 · refine qs (qr (oN 1 [(4, vb false)] [] ?_))
   refine oe (nt (qe (nr ?_)))
   obtain rfl := sI h31
   exact re [.bool false]
 refine qk (nt (qs (qr (oN 1 [(4, vb true)] [] ?_))))
 refine oe (nt (qe ?_))
 obtain rfl := sI h32
 exact re [.bool true]

theorem c_laws_eqSpellS {W : World} {x0 : List Spell} {a0_0 : Option Addr} {c0_0 : Nat} {x1 : List Spell} {a1_0 : Option Addr} {c1_0 : Nat} {r : Bool} (h : laws_eqSpellS x0 x1 = some r) (hv0_0 : SlView W x0 a0_0 c0_0) (hv1_0 : SlView W x1 a1_0 c1_0) :
    Gives0 Tryz.prog 110 #[.slice a0_0 x0.length c0_0, .slice a1_0 x1.length c1_0] W (.bool r) := by
 unfold laws_eqSpellS at h
 refine en Tryz.func110 Tryz.ntmps110 ?_
 refine qs (qr (oN 1 [] [0, 1] ?_))
 refine oe (nt (qs (qs (qr (oN 5 [(10, vb ((x0.length : Int) != (x1.length : Int)))] [0, 1] ?_)))))
 refine oe (nt (cC h (fun h22 => ?_) (fun h23 => ?_)))
 · refine qs (qr (oN 1 [(4, vb false)] [] ?_))
   refine oe (nt (qe (nr ?_)))
   obtain rfl := sI h22
   exact re [.bool false]
 refine qk (nt (qs (qs (qr (oN 1 [(5, vi 0)] [0, 1] ?_)))))
 refine oe (nt ?_)
 obtain ⟨r27, hL28, h29⟩ := bS h23
 obtain ⟨k30, hk31, h29⟩ := brkS h29
 refine JC_cutP (τ := (Unit) × (Unit)) (fun y => k30 y.1 = some r) (fun y35 => []) (fun y35 => []) (fun y35 => []) ?_ (fun y35 h36p => ?_)
 · refine qb (lp Unit hL28 (fun s24 y25 => [(5, vi s24), (0, .v (.slice a0_0 x0.length c0_0)), (1, .v (.slice a1_0 x1.length c1_0))]) (fun s24 y25 => []) (fun s24 y25 => []) () [5, 0, 1] [] 0 (fun s24 y25 t26 h32 hd33 => ?_))
   refine qs (qs (qr (oN 4 [(14, vb (decide (s24 < (x0.length : Int))))] [5, 0, 1] ?_)))
   refine oe (nt (cC h32 (fun h38 => ?_) (fun h39 => ?_)))
   · refine qk (nt (qs (qb (qs (JC_quiet (by kernel_rfl) (by kernel_rfl) ?_)))))
     refine qN 2 [(18, vi s24), (17, .v (.slice a0_0 x0.length c0_0))] [5, 0, 1] ?_
     obtain ⟨x40, hx41, h42⟩ := bS h38
     refine qi 4 (fun γ w hs => (hv0_0.kept hs.kept)) hx41 ?_
     refine ql 191 0 (vSpell x40) (fun γ w hs => (hv0_0.kept hs.kept).flatq hx41) ?_
     refine qN 2 [(22, vi s24), (21, .v (.slice a1_0 x1.length c1_0))] [20, 5, 0, 1] ?_
     obtain ⟨x43, hx44, h45⟩ := bS h42
     refine qi 4 (fun γ w hs => (hv1_0.kept hs.kept)) hx44 ?_
     refine ql 191 0 (vSpell x43) (fun γ w hs => (hv1_0.kept hs.kept).flatq hx44) ?_
     obtain ⟨t46, h47, h48⟩ := bS h45
     refine q0 (fun γ w hs => c_laws_eqSpell h47) ?_
     refine qN 1 [(26, vb (!t46))] [5, 0, 1] ?_
     refine qz (nt (cC h48 (fun h51 => ?_) (fun h52 => ?_)))
     · refine qs (qr (oN 1 [(4, vb false)] [] ?_))
       refine oe (nt (qe (br (nr (nr ?_)))))
       have h53 := leafR hd33 h51 h29
       refine br (nr (nr ?_))
       obtain rfl := sI h53
       exact re [.bool false]
     refine qk (bn (nt (qr (oN 3 [(5, vi (w64 (s24 + 1)))] [0, 1] ?_))))
     exact oe (ct h52 () [5, 0, 1] [] 0)
   refine qx (nx (nx (bh ?_)))
   have h54 := leafB hd33 h39 h29
   exact mp ((), ()) h54 [] [] 0
 have h36 := (congrFun hk31 _).symm.trans h36p
 refine nt (qs (qr (oN 1 [(4, vb true)] [] ?_)))
 refine oe (nt (qe ?_))
 obtain rfl := sI h36
 exact re [.bool true]

theorem c_laws_eqEvent {W : World} {x0 : Event} {x1 : Event} {r : Bool} (h : laws_eqEvent x0 x1 = some r)  :
    Gives0 Tryz.prog 157 #[vEvent x0, vEvent x1] W (.bool r) := by
 unfold laws_eqEvent at h
 refine en Tryz.func157 Tryz.ntmps157 ?_
 refine qs (qr (oB 3 [(3, .p 1 0), (2, .p 0 0)] [] [(195, (eEvent x0)), (195, (eEvent x1))] ?_))
 refine oe (nt (qs (qs (qr (oN 5 [(9, vb (x0.Kind != x1.Kind))] [3, 2] ?_)))))
 refine oe (nt (cC h (fun h22 => ?_) (fun h23 => ?_)))
 · refine qs (qr (oN 1 [(4, vb false)] [] ?_))
   refine oe (nt (qe (nr ?_)))
   obtain rfl := sI h22
   exact re [.bool false]
 refine qk (nt (qs (qs (qr (oN 5 [(14, vb (x0.Month != x1.Month))] [] ?_)))))
 refine oe (nt (cC h23 (fun h25 => ?_) (fun h26 => ?_)))
 · refine qs (qr (oN 1 [(4, vb false)] [] ?_))
   refine oe (nt (qe (nr ?_)))
   obtain rfl := sI h25
   exact re [.bool false]
 refine qk (nt (qs (qr (oN 1 [(4, vb true)] [] ?_))))
 refine oe (nt (qe ?_))
 obtain rfl := sI h26
 exact re [.bool true]

theorem c_laws_eqEventS {W : World} {x0 : List Event} {a0_0 : Option Addr} {c0_0 : Nat} {x1 : List Event} {a1_0 : Option Addr} {c1_0 : Nat} {r : Bool} (h : laws_eqEventS x0 x1 = some r) (hv0_0 : SlView W x0 a0_0 c0_0) (hv1_0 : SlView W x1 a1_0 c1_0) :
    Gives0 Tryz.prog 111 #[.slice a0_0 x0.length c0_0, .slice a1_0 x1.length c1_0] W (.bool r) := by
 unfold laws_eqEventS at h
 refine en Tryz.func111 Tryz.ntmps111 ?_
 refine qs (qr (oN 1 [] [0, 1] ?_))
 refine oe (nt (qs (qs (qr (oN 5 [(10, vb ((x0.length : Int) != (x1.length : Int)))] [0, 1] ?_)))))
 refine oe (nt (cC h (fun h22 => ?_) (fun h23 => ?_)))
 · refine qs (qr (oN 1 [(4, vb false)] [] ?_))
   refine oe (nt (qe (nr ?_)))
   obtain rfl := sI h22
   exact re [.bool false]
 refine qk (nt (qs (qs (qr (oN 1 [(5, vi 0)] [0, 1] ?_)))))
 refine oe (nt ?_)
 obtain ⟨r27, hL28, h29⟩ := bS h23
 obtain ⟨k30, hk31, h29⟩ := brkS h29
 refine JC_cutP (τ := (Unit) × (Unit)) (fun y => k30 y.1 = some r) (fun y35 => []) (fun y35 => []) (fun y35 => []) ?_ (fun y35 h36p => ?_)
 · refine qb (lp Unit hL28 (fun s24 y25 => [(5, vi s24), (0, .v (.slice a0_0 x0.length c0_0)), (1, .v (.slice a1_0 x1.length c1_0))]) (fun s24 y25 => []) (fun s24 y25 => []) () [5, 0, 1] [] 0 (fun s24 y25 t26 h32 hd33 => ?_))
   refine qs (qs (qr (oN 4 [(14, vb (decide (s24 < (x0.length : Int))))] [5, 0, 1] ?_)))
   refine oe (nt (cC h32 (fun h38 => ?_) (fun h39 => ?_)))
   · refine qk (nt (qs (qb (qs (JC_quiet (by kernel_rfl) (by kernel_rfl) ?_)))))
     refine qN 2 [(18, vi s24), (17, .v (.slice a0_0 x0.length c0_0))] [5, 0, 1] ?_
     obtain ⟨x40, hx41, h42⟩ := bS h38
     refine qi 2 (fun γ w hs => (hv0_0.kept hs.kept)) hx41 ?_
     refine ql 195 0 (vEvent x40) (fun γ w hs => (hv0_0.kept hs.kept).flatq hx41) ?_
     refine qN 2 [(22, vi s24), (21, .v (.slice a1_0 x1.length c1_0))] [20, 5, 0, 1] ?_
     obtain ⟨x43, hx44, h45⟩ := bS h42
     refine qi 2 (fun γ w hs => (hv1_0.kept hs.kept)) hx44 ?_
     refine ql 195 0 (vEvent x43) (fun γ w hs => (hv1_0.kept hs.kept).flatq hx44) ?_
     obtain ⟨t46, h47, h48⟩ := bS h45
     refine q0 (fun γ w hs => c_laws_eqEvent h47) ?_
     refine qN 1 [(26, vb (!t46))] [5, 0, 1] ?_
     refine qz (nt (cC h48 (fun h51 => ?_) (fun h52 => ?_)))
     · refine qs (qr (oN 1 [(4, vb false)] [] ?_))
       refine oe (nt (qe (br (nr (nr ?_)))))
       have h53 := leafR hd33 h51 h29
       refine br (nr (nr ?_))
       obtain rfl := sI h53
       exact re [.bool false]
     refine qk (bn (nt (qr (oN 3 [(5, vi (w64 (s24 + 1)))] [0, 1] ?_))))
     exact oe (ct h52 () [5, 0, 1] [] 0)
   refine qx (nx (nx (bh ?_)))
   have h54 := leafB hd33 h39 h29
   exact mp ((), ()) h54 [] [] 0
 have h36 := (congrFun hk31 _).symm.trans h36p
 refine nt (qs (qr (oN 1 [(4, vb true)] [] ?_)))
 refine oe (nt (qe ?_))
 obtain rfl := sI h36
 exact re [.bool true]

theorem c_laws_eqMember {W : World} {x0 : Member} {b0 : AC × AC} {x1 : Member} {b1 : AC × AC} {r : Bool} (h : laws_eqMember x0 x1 = some r) (hv0_0 : SlView W x0.Spells b0.1.1 b0.1.2) (hv0_1 : SlView W x0.Events b0.2.1 b0.2.2) (hv1_0 : SlView W x1.Spells b1.1.1 b1.1.2) (hv1_1 : SlView W x1.Events b1.2.1 b1.2.2) :
    Gives0 Tryz.prog 66 #[vMember x0 b0, vMember x1 b1] W (.bool r) := by
 unfold laws_eqMember at h
 refine en Tryz.func66 Tryz.ntmps66 ?_
 refine qs (qr (oB 3 [(3, .p 1 0), (2, .p 0 0)] [] [(52, (eMember x0 b0)), (52, (eMember x1 b1))] ?_))
 refine oe (nt (qs (qs (qr (oN 5 [(9, vb (x0.Birth != x1.Birth))] [3, 2] ?_)))))
 refine oe (nt (cC h (fun h22 => ?_) (fun h23 => ?_)))
 · refine qs (qr (oN 1 [(4, vb false)] [] ?_))
   refine oe (nt (qe (nr ?_)))
   obtain rfl := sI h22
   exact re [.bool false]
 refine qk (nt (qs (qs (qr (oN 5 [(14, vb (x0.Joined != x1.Joined))] [3, 2] ?_)))))
 refine oe (nt (cC h23 (fun h25 => ?_) (fun h26 => ?_)))
 · refine qs (qr (oN 1 [(4, vb false)] [] ?_))
   refine oe (nt (qe (nr ?_)))
   obtain rfl := sI h25
   exact re [.bool false]
 refine qk (nt (qs (qs (qr (oN 4 [(18, .v (.slice b1.1.1 x1.Spells.length b1.1.2)), (16, .v (.slice b0.1.1 x0.Spells.length b0.1.2))] [3, 2] ?_)))))
 obtain ⟨t27, h28, h29⟩ := bS h26
 refine k0 (fun γ w hs => c_laws_eqSpellS h28 (hv0_0.kept hs.kept) (hv1_0.kept hs.kept)) ?_
 refine oN 1 [(20, vb (!t27))] [3, 2] ?_
 refine oe (nt (cC h29 (fun h32 => ?_) (fun h33 => ?_)))
 · refine qs (qr (oN 1 [(4, vb false)] [] ?_))
   refine oe (nt (qe (nr ?_)))
   obtain rfl := sI h32
   exact re [.bool false]
 refine qk (nt (qs (qs (qr (oN 4 [(24, .v (.slice b1.2.1 x1.Events.length b1.2.2)), (22, .v (.slice b0.2.1 x0.Events.length b0.2.2))] [] ?_)))))
 obtain ⟨t34, h35, h36⟩ := bS h33
 refine k0 (fun γ w hs => c_laws_eqEventS h35 (hv0_1.kept hs.kept) (hv1_1.kept hs.kept)) ?_
 refine oN 1 [(26, vb (!t34))] [] ?_
 refine oe (nt (cC h36 (fun h39 => ?_) (fun h40 => ?_)))
 · refine qs (qr (oN 1 [(4, vb false)] [] ?_))
   refine oe (nt (qe (nr ?_)))
   obtain rfl := sI h39
   exact re [.bool false]
 refine qk (nt (qs (qr (oN 1 [(4, vb true)] [] ?_))))
 refine oe (nt (qe ?_))
 obtain rfl := sI h40
 exact re [.bool true]

theorem c_laws_eqCase {W : World} {x0 : Case} {b0 : AC × AC × AC × AC × AC} {x1 : Case} {b1 : AC × AC × AC × AC × AC} {r : Bool} (h : laws_eqCase x0 x1 = some r) (hv0_0 : SlView W x0.Book.Rules b0.1.1 b0.1.2) (hv0_1 : SlView W x0.Store.Facts b0.2.1.1 b0.2.1.2) (hv0_2 : SlView W x0.Series.Points b0.2.2.1.1 b0.2.2.1.2) (hv0_3 : SlView W x0.Member.Spells b0.2.2.2.1.1 b0.2.2.2.1.2) (hv0_4 : SlView W x0.Member.Events b0.2.2.2.2.1 b0.2.2.2.2.2) (hv1_0 : SlView W x1.Book.Rules b1.1.1 b1.1.2) (hv1_1 : SlView W x1.Store.Facts b1.2.1.1 b1.2.1.2) (hv1_2 : SlView W x1.Series.Points b1.2.2.1.1 b1.2.2.1.2) (hv1_3 : SlView W x1.Member.Spells b1.2.2.2.1.1 b1.2.2.2.1.2) (hv1_4 : SlView W x1.Member.Events b1.2.2.2.2.1 b1.2.2.2.2.2) :
    Gives0 Tryz.prog 21 #[vCase x0 b0, vCase x1 b1] W (.bool r) := by
 unfold laws_eqCase at h
 refine en Tryz.func21 Tryz.ntmps21 ?_
 refine qs (qr (oB 3 [(3, .p 1 0), (2, .p 0 0)] [] [(54, (eCase x0 b0)), (54, (eCase x1 b1))] ?_))
 refine oe (nt (qs (qs (qr (oN 4 [(8, .v (vBook x1.Book b1.1)), (6, .v (vBook x0.Book b0.1))] [3, 2] ?_)))))
 obtain ⟨t21, h22, h23⟩ := bS h
 refine k0 (fun γ w hs => c_laws_eqBook h22 (hv0_0.kept hs.kept) (hv1_0.kept hs.kept)) ?_
 refine oN 1 [(10, vb (!t21))] [3, 2] ?_
 refine oe (nt (cC h23 (fun h26 => ?_) (fun h27 => ?_)))
 · refine qs (qr (oN 1 [(4, vb false)] [] ?_))
   refine oe (nt (qe (nr ?_)))
   obtain rfl := sI h26
   exact re [.bool false]
 refine qk (nt (qs (qs (qr (oN 4 [(14, .v (vStore x1.Store b1.2.1)), (12, .v (vStore x0.Store b0.2.1))] [3, 2] ?_)))))
 obtain ⟨t28, h29, h30⟩ := bS h27
 refine k0 (fun γ w hs => c_laws_eqStore h29 (hv0_1.kept hs.kept) (hv1_1.kept hs.kept)) ?_
 refine oN 1 [(16, vb (!t28))] [3, 2] ?_
 refine oe (nt (cC h30 (fun h33 => ?_) (fun h34 => ?_)))
 · refine qs (qr (oN 1 [(4, vb false)] [] ?_))
   refine oe (nt (qe (nr ?_)))
   obtain rfl := sI h33
   exact re [.bool false]
 refine qk (nt (qs (qs (qr (oN 4 [(20, .v (vSeries x1.Series b1.2.2.1)), (18, .v (vSeries x0.Series b0.2.2.1))] [3, 2] ?_)))))
 obtain ⟨t35, h36, h37⟩ := bS h34
 refine k0 (fun γ w hs => c_laws_eqSeries h36 (hv0_2.kept hs.kept) (hv1_2.kept hs.kept)) ?_
 refine oN 1 [(22, vb (!t35))] [3, 2] ?_
 refine oe (nt (cC h37 (fun h40 => ?_) (fun h41 => ?_)))
 · refine qs (qr (oN 1 [(4, vb false)] [] ?_))
   refine oe (nt (qe (nr ?_)))
   obtain rfl := sI h40
   exact re [.bool false]
 refine qk (nt (qs (qs (qr (oN 4 [(26, .v (vMember x1.Member b1.2.2.2)), (24, .v (vMember x0.Member b0.2.2.2))] [] ?_)))))
 obtain ⟨t42, h43, h44⟩ := bS h41
 refine k0 (fun γ w hs => c_laws_eqMember (b0 := b0.2.2.2) (b1 := b1.2.2.2) h43 (hv0_3.kept hs.kept) (hv0_4.kept hs.kept) (hv1_3.kept hs.kept) (hv1_4.kept hs.kept)) ?_
 refine oN 1 [(28, vb (!t42))] [] ?_
 refine oe (nt (cC h44 (fun h47 => ?_) (fun h48 => ?_)))
 · refine qs (qr (oN 1 [(4, vb false)] [] ?_))
   refine oe (nt (qe (nr ?_)))
   obtain rfl := sI h47
   exact re [.bool false]
 refine qk (nt (qs (qr (oN 1 [(4, vb true)] [] ?_))))
 refine oe (nt (qe ?_))
 obtain rfl := sI h48
 exact re [.bool true]

theorem c_laws_eqIntS {W : World} {x0 : List Int} {a0_0 : Option Addr} {c0_0 : Nat} {x1 : List Int} {a1_0 : Option Addr} {c1_0 : Nat} {r : Bool} (h : laws_eqIntS x0 x1 = some r) (hv0_0 : SlView W x0 a0_0 c0_0) (hv1_0 : SlView W x1 a1_0 c1_0) :
    Gives0 Tryz.prog 20 #[.slice a0_0 x0.length c0_0, .slice a1_0 x1.length c1_0] W (.bool r) := by
 unfold laws_eqIntS at h
 refine en Tryz.func20 Tryz.ntmps20 ?_
 refine qs (qr (oN 1 [] [0, 1] ?_))
 refine oe (nt (qs (qs (qr (oN 5 [(10, vb ((x0.length : Int) != (x1.length : Int)))] [0, 1] ?_)))))
 refine oe (nt (cC h (fun h22 => ?_) (fun h23 => ?_)))
 · refine qs (qr (oN 1 [(4, vb false)] [] ?_))
   refine oe (nt (qe (nr ?_)))
   obtain rfl := sI h22
   exact re [.bool false]
 refine qk (nt (qs (qs (qr (oN 1 [(5, vi 0)] [0, 1] ?_)))))
 refine oe (nt ?_)
 obtain ⟨r27, hL28, h29⟩ := bS h23
 obtain ⟨k30, hk31, h29⟩ := brkS h29
 refine JC_cutP (τ := (Unit) × (Unit)) (fun y => k30 y.1 = some r) (fun y35 => []) (fun y35 => []) (fun y35 => []) ?_ (fun y35 h36p => ?_)
 · refine qb (lp Unit hL28 (fun s24 y25 => [(5, vi s24), (0, .v (.slice a0_0 x0.length c0_0)), (1, .v (.slice a1_0 x1.length c1_0))]) (fun s24 y25 => []) (fun s24 y25 => []) () [5, 0, 1] [] 0 (fun s24 y25 t26 h32 hd33 => ?_))
   refine qs (qs (qr (oN 4 [(14, vb (decide (s24 < (x0.length : Int))))] [5, 0, 1] ?_)))
   refine oe (nt (cC h32 (fun h38 => ?_) (fun h39 => ?_)))
   · refine qk (nt (qs (qb (qs (JC_quiet (by kernel_rfl) (by kernel_rfl) ?_)))))
     refine qN 2 [(18, vi s24), (17, .v (.slice a0_0 x0.length c0_0))] [5, 0, 1] ?_
     obtain ⟨x40, hx41, h42⟩ := bS h38
     refine qi 1 (fun γ w hs => (hv0_0.kept hs.kept)) hx41 ?_
     refine ql 3 0 (.int .i64 x40) (fun γ w hs => (hv0_0.kept hs.kept).flatq hx41) ?_
     refine qN 2 [(22, vi s24), (21, .v (.slice a1_0 x1.length c1_0))] [20, 5, 0, 1] ?_
     obtain ⟨x43, hx44, h45⟩ := bS h42
     refine qi 1 (fun γ w hs => (hv1_0.kept hs.kept)) hx44 ?_
     refine ql 3 0 (.int .i64 x43) (fun γ w hs => (hv1_0.kept hs.kept).flatq hx44) ?_
     refine qN 1 [(25, vb (x40 != x43))] [5, 0, 1] ?_
     refine qz (nt (cC h45 (fun h47 => ?_) (fun h48 => ?_)))
     · refine qs (qr (oN 1 [(4, vb false)] [] ?_))
       refine oe (nt (qe (br (nr (nr ?_)))))
       have h49 := leafR hd33 h47 h29
       refine br (nr (nr ?_))
       obtain rfl := sI h49
       exact re [.bool false]
     refine qk (bn (nt (qr (oN 3 [(5, vi (w64 (s24 + 1)))] [0, 1] ?_))))
     exact oe (ct h48 () [5, 0, 1] [] 0)
   refine qx (nx (nx (bh ?_)))
   have h50 := leafB hd33 h39 h29
   exact mp ((), ()) h50 [] [] 0
 have h36 := (congrFun hk31 _).symm.trans h36p
 refine nt (qs (qr (oN 1 [(4, vb true)] [] ?_)))
 refine oe (nt (qe ?_))
 obtain rfl := sI h36
 exact re [.bool true]

theorem c_laws_eqOffice {W : World} {x0 : Office} {b0 : AC × AC × AC × AC × AC × AC} {x1 : Office} {b1 : AC × AC × AC × AC × AC × AC} {r : Bool} (h : laws_eqOffice x0 x1 = some r) (hv0_0 : SlView W x0.Case.Book.Rules b0.1.1 b0.1.2) (hv0_1 : SlView W x0.Case.Store.Facts b0.2.1.1 b0.2.1.2) (hv0_2 : SlView W x0.Case.Series.Points b0.2.2.1.1 b0.2.2.1.2) (hv0_3 : SlView W x0.Case.Member.Spells b0.2.2.2.1.1 b0.2.2.2.1.2) (hv0_4 : SlView W x0.Case.Member.Events b0.2.2.2.2.1.1 b0.2.2.2.2.1.2) (hv0_5 : SlView W x0.Paid b0.2.2.2.2.2.1 b0.2.2.2.2.2.2) (hv1_0 : SlView W x1.Case.Book.Rules b1.1.1 b1.1.2) (hv1_1 : SlView W x1.Case.Store.Facts b1.2.1.1 b1.2.1.2) (hv1_2 : SlView W x1.Case.Series.Points b1.2.2.1.1 b1.2.2.1.2) (hv1_3 : SlView W x1.Case.Member.Spells b1.2.2.2.1.1 b1.2.2.2.1.2) (hv1_4 : SlView W x1.Case.Member.Events b1.2.2.2.2.1.1 b1.2.2.2.2.1.2) (hv1_5 : SlView W x1.Paid b1.2.2.2.2.2.1 b1.2.2.2.2.2.2) :
    Gives0 Tryz.prog 19 #[vOffice x0 b0, vOffice x1 b1] W (.bool r) := by
 unfold laws_eqOffice at h
 refine en Tryz.func19 Tryz.ntmps19 ?_
 refine qs (qr (oB 3 [(3, .p 1 0), (2, .p 0 0)] [] [(57, (eOffice x0 b0)), (57, (eOffice x1 b1))] ?_))
 refine oe (nt (qs (qs (qr (oN 4 [(8, .v (vCase x1.Case (b1.1, b1.2.1, b1.2.2.1, b1.2.2.2.1, b1.2.2.2.2.1))), (6, .v (vCase x0.Case (b0.1, b0.2.1, b0.2.2.1, b0.2.2.2.1, b0.2.2.2.2.1)))] [3, 2] ?_)))))
 obtain ⟨t21, h22, h23⟩ := bS h
 refine k0 (fun γ w hs => c_laws_eqCase (b0 := (b0.1, b0.2.1, b0.2.2.1, b0.2.2.2.1, b0.2.2.2.2.1)) (b1 := (b1.1, b1.2.1, b1.2.2.1, b1.2.2.2.1, b1.2.2.2.2.1)) h22 (hv0_0.kept hs.kept) (hv0_1.kept hs.kept) (hv0_2.kept hs.kept) (hv0_3.kept hs.kept) (hv0_4.kept hs.kept) (hv1_0.kept hs.kept) (hv1_1.kept hs.kept) (hv1_2.kept hs.kept) (hv1_3.kept hs.kept) (hv1_4.kept hs.kept)) ?_
 refine oN 1 [(10, vb (!t21))] [3, 2] ?_
 refine oe (nt (cC h23 (fun h26 => ?_) (fun h27 => ?_)))
 · refine qs (qr (oN 1 [(4, vb false)] [] ?_))
   refine oe (nt (qe (nr ?_)))
   obtain rfl := sI h26
   exact re [.bool false]
 refine qk (nt (qs (qs (qr (oN 5 [(15, vb (x0.Start != x1.Start))] [3, 2] ?_)))))
 refine oe (nt (cC h27 (fun h29 => ?_) (fun h30 => ?_)))
 · refine qs (qr (oN 1 [(4, vb false)] [] ?_))
   refine oe (nt (qe (nr ?_)))
   obtain rfl := sI h29
   exact re [.bool false]
 refine qk (nt (qs (qs (qr (oN 4 [(19, .v (.slice b1.2.2.2.2.2.1 x1.Paid.length b1.2.2.2.2.2.2)), (17, .v (.slice b0.2.2.2.2.2.1 x0.Paid.length b0.2.2.2.2.2.2))] [] ?_)))))
 obtain ⟨t31, h32, h33⟩ := bS h30
 refine k0 (fun γ w hs => c_laws_eqIntS h32 (hv0_5.kept hs.kept) (hv1_5.kept hs.kept)) ?_
 refine oN 1 [(21, vb (!t31))] [] ?_
 refine oe (nt (cC h33 (fun h36 => ?_) (fun h37 => ?_)))
 · refine qs (qr (oN 1 [(4, vb false)] [] ?_))
   refine oe (nt (qe (nr ?_)))
   obtain rfl := sI h36
   exact re [.bool false]
 refine qk (nt (qs (qr (oN 1 [(4, vb true)] [] ?_))))
 refine oe (nt (qe ?_))
 obtain rfl := sI h37
 exact re [.bool true]

theorem c_laws_markNodeS {W : World} {x0 : List Node} {a0_0 : Option Addr} {c0_0 : Nat} {e0_0 : TypeId} {x1 : Int} {r : Int × (List Node)} (h : laws_markNodeS x0 x1 = some r)  :
    GivesM Tryz.prog 158 #[.slice a0_0 x0.length c0_0, .int .i64 x1] W [SlRes e0_0 x0 a0_0 c0_0] [SlRes e0_0 r.2 a0_0 c0_0] (.int .i64 r.1) := by
 unfold laws_markNodeS at h
 refine enM Tryz.func158 Tryz.ntmps158 (fun Fs => ?_)
 refine qs (qr (oN 1 [] [0, 1] ?_))
 refine oe (nt (qs (qs (qr (oN 1 [(5, vi 0)] [0, 1] ?_)))))
 refine oe (nt ?_)
 obtain ⟨r24, hL25, h26⟩ := bS h
 obtain ⟨k27, hk28, h26⟩ := brkS h26
 refine JC_cutP (τ := ((List Node) × Int) × (Unit)) (fun y => k27 y.1 = some r) (fun y32 => [(0, .v (.slice a0_0 y32.1.1.length c0_0)), (1, vi y32.1.2)]) (fun y32 => []) (fun y32 => [SlRes e0_0 y32.1.1 a0_0 c0_0]) ?_ (fun y32 h33p => ?_)
 · refine qb (lp Unit hL25 (fun s21 y22 => [(5, vi s21.1), (0, .v (.slice a0_0 s21.2.1.length c0_0)), (1, vi s21.2.2)]) (fun s21 y22 => []) (fun s21 y22 => [SlRes e0_0 s21.2.1 a0_0 c0_0]) () [5, 0, 1] [0] 0 (fun s21 y22 t23 h29 hd30 => ?_))
   refine qs (qs (qr (oN 4 [(9, vb (decide (s21.1 < (s21.2.1.length : Int))))] [5, 0, 1] ?_)))
   refine oe (nt (cC h29 (fun h35 => ?_) (fun h36 => ?_)))
   · refine qk (nt (qs (qb (qs (qr (oN 3 [(14, vi s21.2.2), (13, vi s21.1), (12, .v (.slice a0_0 s21.2.1.length c0_0))] [5, 0, 1] ?_))))))
     obtain ⟨x37, hx38, h39⟩ := bS h35
     refine oi 6 (fun γ w hs => (hs.view 0 rfl)) hx38 ?_
     refine oN 1 [(16, .q a0_0 (Int.toNat s21.1 * 6))] [14, 5, 0, 1] ?_
     obtain ⟨l40, hm41, h42⟩ := bS h39
     replace hm41 := (sI hm41).symm
     refine JO_storeq (α := Node) (d := a0_0) (vs := [.int .i64 s21.2.2]) (j := s21.1) (x' := (Node.mk s21.2.2 x37.A x37.B x37.C x37.Value)) rfl (by kernel_rfl) 0 (by kernel_rfl) hx38 (Rc := []) (Rr := []) rfl (by kernel_rfl) (fun w c F Fs ho _ _ => own_flat_set (by kernel_rfl) ho) hm41 rfl ?_
     have hl43 := len_set hm41
     refine JO_keep [14, 5, 0, 1] (sl' := [(14, vi s21.2.2), (5, vi s21.1), (0, .v (.slice a0_0 s21.2.1.length c0_0)), (1, vi s21.2.2)]) (by kernel_rfl) ?_
     refine JO_eqE (sl' := [(14, vi s21.2.2), (5, vi s21.1), (0, .v (.slice a0_0 l40.length c0_0)), (1, vi s21.2.2)]) (bx' := []) (by simp only [hl43]) rfl ?_
     refine oe (nt (qs (qr (oN 3 [(1, vi (w64 (s21.2.2 + 1)))] [5, 0] ?_))))
     refine oe (nt (qs (qr (oN 3 [(21, vi (w64 (s21.2.2 + 1))), (20, vi s21.1), (19, .v (.slice a0_0 l40.length c0_0))] [1, 5, 0] ?_))))
     obtain ⟨x44, hx45, h46⟩ := bS h42
     refine oi 6 (fun γ w hs => (hs.view 0 rfl)) hx45 ?_
     refine oN 1 [(23, .q a0_0 (Int.toNat s21.1 * 6 + 1))] [21, 1, 5, 0] ?_
     obtain ⟨l47, hm48, h49⟩ := bS h46
     replace hm48 := (sI hm48).symm
     refine JO_storeq (α := Node) (d := a0_0) (vs := [.int .i64 (w64 (s21.2.2 + 1))]) (j := s21.1) (x' := (Node.mk x44.Kind (w64 (s21.2.2 + 1)) x44.B x44.C x44.Value)) rfl (by kernel_rfl) 1 (by kernel_rfl) hx45 (Rc := []) (Rr := []) rfl (by kernel_rfl) (fun w c F Fs ho _ _ => own_flat_set (by kernel_rfl) ho) hm48 rfl ?_
     have hl50 := len_set hm48
     refine JO_keep [21, 1, 5, 0] (sl' := [(21, vi (w64 (s21.2.2 + 1))), (1, vi (w64 (s21.2.2 + 1))), (5, vi s21.1), (0, .v (.slice a0_0 l40.length c0_0))]) (by kernel_rfl) ?_
     refine JO_eqE (sl' := [(21, vi (w64 (s21.2.2 + 1))), (1, vi (w64 (s21.2.2 + 1))), (5, vi s21.1), (0, .v (.slice a0_0 l47.length c0_0))]) (bx' := []) (by simp only [hl50]) rfl ?_
     refine oe (nt (qs (qr (oN 3 [(1, vi (w64 ((w64 (s21.2.2 + 1)) + 1)))] [5, 0] ?_))))
     refine oe (nt (qs (qr (oN 3 [(28, vi (w64 ((w64 (s21.2.2 + 1)) + 1))), (27, vi s21.1), (26, .v (.slice a0_0 l47.length c0_0))] [1, 5, 0] ?_))))
     obtain ⟨x51, hx52, h53⟩ := bS h49
     refine oi 6 (fun γ w hs => (hs.view 0 rfl)) hx52 ?_
     refine oN 1 [(30, .q a0_0 (Int.toNat s21.1 * 6 + 2))] [28, 1, 5, 0] ?_
     obtain ⟨l54, hm55, h56⟩ := bS h53
     replace hm55 := (sI hm55).symm
     refine JO_storeq (α := Node) (d := a0_0) (vs := [.int .i64 (w64 ((w64 (s21.2.2 + 1)) + 1))]) (j := s21.1) (x' := (Node.mk x51.Kind x51.A (w64 ((w64 (s21.2.2 + 1)) + 1)) x51.C x51.Value)) rfl (by kernel_rfl) 2 (by kernel_rfl) hx52 (Rc := []) (Rr := []) rfl (by kernel_rfl) (fun w c F Fs ho _ _ => own_flat_set (by kernel_rfl) ho) hm55 rfl ?_
     have hl57 := len_set hm55
     refine JO_keep [28, 1, 5, 0] (sl' := [(28, vi (w64 ((w64 (s21.2.2 + 1)) + 1))), (1, vi (w64 ((w64 (s21.2.2 + 1)) + 1))), (5, vi s21.1), (0, .v (.slice a0_0 l47.length c0_0))]) (by kernel_rfl) ?_
     refine JO_eqE (sl' := [(28, vi (w64 ((w64 (s21.2.2 + 1)) + 1))), (1, vi (w64 ((w64 (s21.2.2 + 1)) + 1))), (5, vi s21.1), (0, .v (.slice a0_0 l54.length c0_0))]) (bx' := []) (by simp only [hl57]) rfl ?_
     refine oe (nt (qs (qr (oN 3 [(1, vi (w64 ((w64 ((w64 (s21.2.2 + 1)) + 1)) + 1)))] [5, 0] ?_))))
     refine oe (nt (qs (qr (oN 3 [(35, vi (w64 ((w64 ((w64 (s21.2.2 + 1)) + 1)) + 1))), (34, vi s21.1), (33, .v (.slice a0_0 l54.length c0_0))] [1, 5, 0] ?_))))
     obtain ⟨x58, hx59, h60⟩ := bS h56
     refine oi 6 (fun γ w hs => (hs.view 0 rfl)) hx59 ?_
     refine oN 1 [(37, .q a0_0 (Int.toNat s21.1 * 6 + 3))] [35, 1, 5, 0] ?_
     obtain ⟨l61, hm62, h63⟩ := bS h60
     replace hm62 := (sI hm62).symm
     refine JO_storeq (α := Node) (d := a0_0) (vs := [.int .i64 (w64 ((w64 ((w64 (s21.2.2 + 1)) + 1)) + 1))]) (j := s21.1) (x' := (Node.mk x58.Kind x58.A x58.B (w64 ((w64 ((w64 (s21.2.2 + 1)) + 1)) + 1)) x58.Value)) rfl (by kernel_rfl) 3 (by kernel_rfl) hx59 (Rc := []) (Rr := []) rfl (by kernel_rfl) (fun w c F Fs ho _ _ => own_flat_set (by kernel_rfl) ho) hm62 rfl ?_
     have hl64 := len_set hm62
     refine JO_keep [35, 1, 5, 0] (sl' := [(35, vi (w64 ((w64 ((w64 (s21.2.2 + 1)) + 1)) + 1))), (1, vi (w64 ((w64 ((w64 (s21.2.2 + 1)) + 1)) + 1))), (5, vi s21.1), (0, .v (.slice a0_0 l54.length c0_0))]) (by kernel_rfl) ?_
     refine JO_eqE (sl' := [(35, vi (w64 ((w64 ((w64 (s21.2.2 + 1)) + 1)) + 1))), (1, vi (w64 ((w64 ((w64 (s21.2.2 + 1)) + 1)) + 1))), (5, vi s21.1), (0, .v (.slice a0_0 l61.length c0_0))]) (bx' := []) (by simp only [hl64]) rfl ?_
     refine oe (nt (qs (qr (oN 3 [(1, vi (w64 ((w64 ((w64 ((w64 (s21.2.2 + 1)) + 1)) + 1)) + 1)))] [5, 0] ?_))))
     refine oe (nt (qs (qr (oN 3 [(42, vi (w64 ((w64 ((w64 ((w64 (s21.2.2 + 1)) + 1)) + 1)) + 1))), (41, vi s21.1), (40, .v (.slice a0_0 l61.length c0_0))] [1, 5, 0] ?_))))
     obtain ⟨x65, hx66, h67⟩ := bS h63
     refine oi 6 (fun γ w hs => (hs.view 0 rfl)) hx66 ?_
     refine oN 2 [(45, .q a0_0 (Int.toNat s21.1 * 6 + 4))] [42, 1, 5, 0] ?_
     obtain ⟨l68, hm69, h70⟩ := bS h67
     replace hm69 := (sI hm69).symm
     refine JO_storeq (α := Node) (d := a0_0) (vs := [.int .i64 (w64 ((w64 ((w64 ((w64 (s21.2.2 + 1)) + 1)) + 1)) + 1))]) (j := s21.1) (x' := (Node.mk x65.Kind x65.A x65.B x65.C (Frac.mk (w64 ((w64 ((w64 ((w64 (s21.2.2 + 1)) + 1)) + 1)) + 1)) x65.Value.Den))) rfl (by kernel_rfl) 4 (by kernel_rfl) hx66 (Rc := []) (Rr := []) rfl (by kernel_rfl) (fun w c F Fs ho _ _ => own_flat_set (by kernel_rfl) ho) hm69 rfl ?_
     have hl71 := len_set hm69
     refine JO_keep [42, 1, 5, 0] (sl' := [(42, vi (w64 ((w64 ((w64 ((w64 (s21.2.2 + 1)) + 1)) + 1)) + 1))), (1, vi (w64 ((w64 ((w64 ((w64 (s21.2.2 + 1)) + 1)) + 1)) + 1))), (5, vi s21.1), (0, .v (.slice a0_0 l61.length c0_0))]) (by kernel_rfl) ?_
     refine JO_eqE (sl' := [(42, vi (w64 ((w64 ((w64 ((w64 (s21.2.2 + 1)) + 1)) + 1)) + 1))), (1, vi (w64 ((w64 ((w64 ((w64 (s21.2.2 + 1)) + 1)) + 1)) + 1))), (5, vi s21.1), (0, .v (.slice a0_0 l68.length c0_0))]) (bx' := []) (by simp only [hl71]) rfl ?_
     refine oe (nt (qs (qr (oN 3 [(1, vi (w64 ((w64 ((w64 ((w64 ((w64 (s21.2.2 + 1)) + 1)) + 1)) + 1)) + 1)))] [5, 0] ?_))))
     refine oe (nt (qs (qr (oN 3 [(50, vi (w64 ((w64 ((w64 ((w64 ((w64 (s21.2.2 + 1)) + 1)) + 1)) + 1)) + 1))), (49, vi s21.1), (48, .v (.slice a0_0 l68.length c0_0))] [1, 5, 0] ?_))))
     obtain ⟨x72, hx73, h74⟩ := bS h70
     refine oi 6 (fun γ w hs => (hs.view 0 rfl)) hx73 ?_
     refine oN 2 [(53, .q a0_0 (Int.toNat s21.1 * 6 + 5))] [50, 1, 5, 0] ?_
     obtain ⟨l75, hm76, h77⟩ := bS h74
     replace hm76 := (sI hm76).symm
     refine JO_storeq (α := Node) (d := a0_0) (vs := [.int .i64 (w64 ((w64 ((w64 ((w64 ((w64 (s21.2.2 + 1)) + 1)) + 1)) + 1)) + 1))]) (j := s21.1) (x' := (Node.mk x72.Kind x72.A x72.B x72.C (Frac.mk x72.Value.Num (w64 ((w64 ((w64 ((w64 ((w64 (s21.2.2 + 1)) + 1)) + 1)) + 1)) + 1))))) rfl (by kernel_rfl) 5 (by kernel_rfl) hx73 (Rc := []) (Rr := []) rfl (by kernel_rfl) (fun w c F Fs ho _ _ => own_flat_set (by kernel_rfl) ho) hm76 rfl ?_
     have hl78 := len_set hm76
     refine JO_keep [50, 1, 5, 0] (sl' := [(50, vi (w64 ((w64 ((w64 ((w64 ((w64 (s21.2.2 + 1)) + 1)) + 1)) + 1)) + 1))), (1, vi (w64 ((w64 ((w64 ((w64 ((w64 (s21.2.2 + 1)) + 1)) + 1)) + 1)) + 1))), (5, vi s21.1), (0, .v (.slice a0_0 l68.length c0_0))]) (by kernel_rfl) ?_
     refine JO_eqE (sl' := [(50, vi (w64 ((w64 ((w64 ((w64 ((w64 (s21.2.2 + 1)) + 1)) + 1)) + 1)) + 1))), (1, vi (w64 ((w64 ((w64 ((w64 ((w64 (s21.2.2 + 1)) + 1)) + 1)) + 1)) + 1))), (5, vi s21.1), (0, .v (.slice a0_0 l75.length c0_0))]) (bx' := []) (by simp only [hl78]) rfl ?_
     refine oe (nt (qr (oN 3 [(1, vi (w64 ((w64 ((w64 ((w64 ((w64 ((w64 (s21.2.2 + 1)) + 1)) + 1)) + 1)) + 1)) + 1)))] [5, 0] ?_)))
     refine oe (bn (nt (qr (oN 3 [(5, vi (w64 (s21.1 + 1)))] [1, 0] ?_))))
     exact oe (ct h77 () [5, 0, 1] [0] 0)
   refine qx (nx (nx (bh ?_)))
   have h79 := leafB hd30 h36 h26
   exact mp ((s21.2.1, s21.2.2), ()) h79 [0, 1] [0] 0
 have h33 := (congrFun hk28 _).symm.trans h33p
 refine nt (qs (qr (oN 2 [(4, vi y32.1.2)] [0] ?_)))
 refine oe (nt (qe (rt [.int .i64 y32.1.2] (fun γ w hs => ?_))))
 rw [← sI h33]
 exact hs.turned (is := [0]) rfl

theorem c_laws_markRuleS {W : World} {x0 : List Rule} {a0_0 : Option Addr} {c0_0 : Nat} {e0_0 : TypeId} {x1 : Int} {r : Int × (List Rule)} (h : laws_markRuleS x0 x1 = some r)  :
    GivesM Tryz.prog 114 #[.slice a0_0 x0.length c0_0, .int .i64 x1] W [SlRes e0_0 x0 a0_0 c0_0] [SlRes e0_0 r.2 a0_0 c0_0] (.int .i64 r.1) := by
 unfold laws_markRuleS at h
 refine enM Tryz.func114 Tryz.ntmps114 (fun Fs => ?_)
 refine qs (qr (oN 1 [] [0, 1] ?_))
 refine oe (nt (qs (qs (qr (oN 1 [(5, vi 0)] [0, 1] ?_)))))
 refine oe (nt ?_)
 obtain ⟨r24, hL25, h26⟩ := bS h
 obtain ⟨k27, hk28, h26⟩ := brkS h26
 refine JC_cutP (τ := ((List Rule) × Int) × (Unit)) (fun y => k27 y.1 = some r) (fun y32 => [(0, .v (.slice a0_0 y32.1.1.length c0_0)), (1, vi y32.1.2)]) (fun y32 => []) (fun y32 => [SlRes e0_0 y32.1.1 a0_0 c0_0]) ?_ (fun y32 h33p => ?_)
 · refine qb (lp Unit hL25 (fun s21 y22 => [(5, vi s21.1), (0, .v (.slice a0_0 s21.2.1.length c0_0)), (1, vi s21.2.2)]) (fun s21 y22 => []) (fun s21 y22 => [SlRes e0_0 s21.2.1 a0_0 c0_0]) () [5, 0, 1] [0] 0 (fun s21 y22 t23 h29 hd30 => ?_))
   refine qs (qs (qr (oN 4 [(9, vb (decide (s21.1 < (s21.2.1.length : Int))))] [5, 0, 1] ?_)))
   refine oe (nt (cC h29 (fun h35 => ?_) (fun h36 => ?_)))
   · refine qk (nt (qs (qb (qs (qr (oN 3 [(14, vi s21.2.2), (13, vi s21.1), (12, .v (.slice a0_0 s21.2.1.length c0_0))] [5, 0, 1] ?_))))))
     obtain ⟨x37, hx38, h39⟩ := bS h35
     refine oi 7 (fun γ w hs => (hs.view 0 rfl)) hx38 ?_
     refine oN 1 [(16, .q a0_0 (Int.toNat s21.1 * 7))] [14, 5, 0, 1] ?_
     obtain ⟨l40, hm41, h42⟩ := bS h39
     replace hm41 := (sI hm41).symm
     refine JO_storeq (α := Rule) (d := a0_0) (vs := [.int .i64 s21.2.2]) (j := s21.1) (x' := (Rule.mk s21.2.2 x37.From x37.To x37.Joined x37.Rank x37.Mode x37.Nodes)) rfl (by kernel_rfl) 0 (by kernel_rfl) hx38 (Rc := []) (Rr := []) rfl (by kernel_rfl) (by rintro w c F Fs ⟨e0, a0, c0, F0, hF, rfl, q0⟩ _ hn; exact ⟨F, ⟨e0, a0, c0, F0, hF, rfl, q0⟩, (List.nodup_append.1 hn).1, fun g hg => by simp [hg]⟩) hm41 rfl ?_
     have hl43 := len_set hm41
     refine JO_keep [14, 5, 0, 1] (sl' := [(14, vi s21.2.2), (5, vi s21.1), (0, .v (.slice a0_0 s21.2.1.length c0_0)), (1, vi s21.2.2)]) (by kernel_rfl) ?_
     refine JO_eqE (sl' := [(14, vi s21.2.2), (5, vi s21.1), (0, .v (.slice a0_0 l40.length c0_0)), (1, vi s21.2.2)]) (bx' := []) (by simp only [hl43]) rfl ?_
     refine oe (nt (qs (qr (oN 3 [(1, vi (w64 (s21.2.2 + 1)))] [5, 0] ?_))))
     refine oe (nt (qs (qr (oN 3 [(21, vi (w64 (s21.2.2 + 1))), (20, vi s21.1), (19, .v (.slice a0_0 l40.length c0_0))] [1, 5, 0] ?_))))
     obtain ⟨x44, hx45, h46⟩ := bS h42
     refine oi 7 (fun γ w hs => (hs.view 0 rfl)) hx45 ?_
     refine oN 1 [(23, .q a0_0 (Int.toNat s21.1 * 7 + 1))] [21, 1, 5, 0] ?_
     obtain ⟨l47, hm48, h49⟩ := bS h46
     replace hm48 := (sI hm48).symm
     refine JO_storeq (α := Rule) (d := a0_0) (vs := [.int .i64 (w64 (s21.2.2 + 1))]) (j := s21.1) (x' := (Rule.mk x44.Name (w64 (s21.2.2 + 1)) x44.To x44.Joined x44.Rank x44.Mode x44.Nodes)) rfl (by kernel_rfl) 1 (by kernel_rfl) hx45 (Rc := []) (Rr := []) rfl (by kernel_rfl) (by rintro w c F Fs ⟨e0, a0, c0, F0, hF, rfl, q0⟩ _ hn; exact ⟨F, ⟨e0, a0, c0, F0, hF, rfl, q0⟩, (List.nodup_append.1 hn).1, fun g hg => by simp [hg]⟩) hm48 rfl ?_
     have hl50 := len_set hm48
     refine JO_keep [21, 1, 5, 0] (sl' := [(21, vi (w64 (s21.2.2 + 1))), (1, vi (w64 (s21.2.2 + 1))), (5, vi s21.1), (0, .v (.slice a0_0 l40.length c0_0))]) (by kernel_rfl) ?_
     refine JO_eqE (sl' := [(21, vi (w64 (s21.2.2 + 1))), (1, vi (w64 (s21.2.2 + 1))), (5, vi s21.1), (0, .v (.slice a0_0 l47.length c0_0))]) (bx' := []) (by simp only [hl50]) rfl ?_
     refine oe (nt (qs (qr (oN 3 [(1, vi (w64 ((w64 (s21.2.2 + 1)) + 1)))] [5, 0] ?_))))
     refine oe (nt (qs (qr (oN 3 [(28, vi (w64 ((w64 (s21.2.2 + 1)) + 1))), (27, vi s21.1), (26, .v (.slice a0_0 l47.length c0_0))] [1, 5, 0] ?_))))
     obtain ⟨x51, hx52, h53⟩ := bS h49
     refine oi 7 (fun γ w hs => (hs.view 0 rfl)) hx52 ?_
     refine oN 1 [(30, .q a0_0 (Int.toNat s21.1 * 7 + 2))] [28, 1, 5, 0] ?_
     obtain ⟨l54, hm55, h56⟩ := bS h53
     replace hm55 := (sI hm55).symm
     refine JO_storeq (α := Rule) (d := a0_0) (vs := [.int .i64 (w64 ((w64 (s21.2.2 + 1)) + 1))]) (j := s21.1) (x' := (Rule.mk x51.Name x51.From (w64 ((w64 (s21.2.2 + 1)) + 1)) x51.Joined x51.Rank x51.Mode x51.Nodes)) rfl (by kernel_rfl) 2 (by kernel_rfl) hx52 (Rc := []) (Rr := []) rfl (by kernel_rfl) (by rintro w c F Fs ⟨e0, a0, c0, F0, hF, rfl, q0⟩ _ hn; exact ⟨F, ⟨e0, a0, c0, F0, hF, rfl, q0⟩, (List.nodup_append.1 hn).1, fun g hg => by simp [hg]⟩) hm55 rfl ?_
     have hl57 := len_set hm55
     refine JO_keep [28, 1, 5, 0] (sl' := [(28, vi (w64 ((w64 (s21.2.2 + 1)) + 1))), (1, vi (w64 ((w64 (s21.2.2 + 1)) + 1))), (5, vi s21.1), (0, .v (.slice a0_0 l47.length c0_0))]) (by kernel_rfl) ?_
     refine JO_eqE (sl' := [(28, vi (w64 ((w64 (s21.2.2 + 1)) + 1))), (1, vi (w64 ((w64 (s21.2.2 + 1)) + 1))), (5, vi s21.1), (0, .v (.slice a0_0 l54.length c0_0))]) (bx' := []) (by simp only [hl57]) rfl ?_
     refine oe (nt (qs (qr (oN 3 [(1, vi (w64 ((w64 ((w64 (s21.2.2 + 1)) + 1)) + 1)))] [5, 0] ?_))))
     refine oe (nt (qs (qr (oN 3 [(35, vi (w64 ((w64 ((w64 (s21.2.2 + 1)) + 1)) + 1))), (34, vi s21.1), (33, .v (.slice a0_0 l54.length c0_0))] [1, 5, 0] ?_))))
     obtain ⟨x58, hx59, h60⟩ := bS h56
     refine oi 7 (fun γ w hs => (hs.view 0 rfl)) hx59 ?_
     refine oN 1 [(37, .q a0_0 (Int.toNat s21.1 * 7 + 3))] [35, 1, 5, 0] ?_
     obtain ⟨l61, hm62, h63⟩ := bS h60
     replace hm62 := (sI hm62).symm
     refine JO_storeq (α := Rule) (d := a0_0) (vs := [.int .i64 (w64 ((w64 ((w64 (s21.2.2 + 1)) + 1)) + 1))]) (j := s21.1) (x' := (Rule.mk x58.Name x58.From x58.To (w64 ((w64 ((w64 (s21.2.2 + 1)) + 1)) + 1)) x58.Rank x58.Mode x58.Nodes)) rfl (by kernel_rfl) 3 (by kernel_rfl) hx59 (Rc := []) (Rr := []) rfl (by kernel_rfl) (by rintro w c F Fs ⟨e0, a0, c0, F0, hF, rfl, q0⟩ _ hn; exact ⟨F, ⟨e0, a0, c0, F0, hF, rfl, q0⟩, (List.nodup_append.1 hn).1, fun g hg => by simp [hg]⟩) hm62 rfl ?_
     have hl64 := len_set hm62
     refine JO_keep [35, 1, 5, 0] (sl' := [(35, vi (w64 ((w64 ((w64 (s21.2.2 + 1)) + 1)) + 1))), (1, vi (w64 ((w64 ((w64 (s21.2.2 + 1)) + 1)) + 1))), (5, vi s21.1), (0, .v (.slice a0_0 l54.length c0_0))]) (by kernel_rfl) ?_
     refine JO_eqE (sl' := [(35, vi (w64 ((w64 ((w64 (s21.2.2 + 1)) + 1)) + 1))), (1, vi (w64 ((w64 ((w64 (s21.2.2 + 1)) + 1)) + 1))), (5, vi s21.1), (0, .v (.slice a0_0 l61.length c0_0))]) (bx' := []) (by simp only [hl64]) rfl ?_
     refine oe (nt (qs (qr (oN 3 [(1, vi (w64 ((w64 ((w64 ((w64 (s21.2.2 + 1)) + 1)) + 1)) + 1)))] [5, 0] ?_))))
     refine oe (nt (qs (qr (oN 3 [(42, vi (w64 ((w64 ((w64 ((w64 (s21.2.2 + 1)) + 1)) + 1)) + 1))), (41, vi s21.1), (40, .v (.slice a0_0 l61.length c0_0))] [1, 5, 0] ?_))))
     obtain ⟨x65, hx66, h67⟩ := bS h63
     refine oi 7 (fun γ w hs => (hs.view 0 rfl)) hx66 ?_
     refine oN 1 [(44, .q a0_0 (Int.toNat s21.1 * 7 + 4))] [42, 1, 5, 0] ?_
     obtain ⟨l68, hm69, h70⟩ := bS h67
     replace hm69 := (sI hm69).symm
     refine JO_storeq (α := Rule) (d := a0_0) (vs := [.int .i64 (w64 ((w64 ((w64 ((w64 (s21.2.2 + 1)) + 1)) + 1)) + 1))]) (j := s21.1) (x' := (Rule.mk x65.Name x65.From x65.To x65.Joined (w64 ((w64 ((w64 ((w64 (s21.2.2 + 1)) + 1)) + 1)) + 1)) x65.Mode x65.Nodes)) rfl (by kernel_rfl) 4 (by kernel_rfl) hx66 (Rc := []) (Rr := []) rfl (by kernel_rfl) (by rintro w c F Fs ⟨e0, a0, c0, F0, hF, rfl, q0⟩ _ hn; exact ⟨F, ⟨e0, a0, c0, F0, hF, rfl, q0⟩, (List.nodup_append.1 hn).1, fun g hg => by simp [hg]⟩) hm69 rfl ?_
     have hl71 := len_set hm69
     refine JO_keep [42, 1, 5, 0] (sl' := [(42, vi (w64 ((w64 ((w64 ((w64 (s21.2.2 + 1)) + 1)) + 1)) + 1))), (1, vi (w64 ((w64 ((w64 ((w64 (s21.2.2 + 1)) + 1)) + 1)) + 1))), (5, vi s21.1), (0, .v (.slice a0_0 l61.length c0_0))]) (by kernel_rfl) ?_
     refine JO_eqE (sl' := [(42, vi (w64 ((w64 ((w64 ((w64 (s21.2.2 + 1)) + 1)) + 1)) + 1))), (1, vi (w64 ((w64 ((w64 ((w64 (s21.2.2 + 1)) + 1)) + 1)) + 1))), (5, vi s21.1), (0, .v (.slice a0_0 l68.length c0_0))]) (bx' := []) (by simp only [hl71]) rfl ?_
     refine oe (nt (qs (qr (oN 3 [(1, vi (w64 ((w64 ((w64 ((w64 ((w64 (s21.2.2 + 1)) + 1)) + 1)) + 1)) + 1)))] [5, 0] ?_))))
     refine oe (nt (qs (qr (oN 3 [(49, vi (w64 ((w64 ((w64 ((w64 ((w64 (s21.2.2 + 1)) + 1)) + 1)) + 1)) + 1))), (48, vi s21.1), (47, .v (.slice a0_0 l68.length c0_0))] [1, 5, 0] ?_))))
     obtain ⟨x72, hx73, h74⟩ := bS h70
     refine oi 7 (fun γ w hs => (hs.view 0 rfl)) hx73 ?_
     refine oN 1 [(51, .q a0_0 (Int.toNat s21.1 * 7 + 5))] [49, 1, 5, 0] ?_
     obtain ⟨l75, hm76, h77⟩ := bS h74
     replace hm76 := (sI hm76).symm
     refine JO_storeq (α := Rule) (d := a0_0) (vs := [.int .i64 (w64 ((w64 ((w64 ((w64 ((w64 (s21.2.2 + 1)) + 1)) + 1)) + 1)) + 1))]) (j := s21.1) (x' := (Rule.mk x72.Name x72.From x72.To x72.Joined x72.Rank (w64 ((w64 ((w64 ((w64 ((w64 (s21.2.2 + 1)) + 1)) + 1)) + 1)) + 1)) x72.Nodes)) rfl (by kernel_rfl) 5 (by kernel_rfl) hx73 (Rc := []) (Rr := []) rfl (by kernel_rfl) (by rintro w c F Fs ⟨e0, a0, c0, F0, hF, rfl, q0⟩ _ hn; exact ⟨F, ⟨e0, a0, c0, F0, hF, rfl, q0⟩, (List.nodup_append.1 hn).1, fun g hg => by simp [hg]⟩) hm76 rfl ?_
     have hl78 := len_set hm76
     refine JO_keep [49, 1, 5, 0] (sl' := [(49, vi (w64 ((w64 ((w64 ((w64 ((w64 (s21.2.2 + 1)) + 1)) + 1)) + 1)) + 1))), (1, vi (w64 ((w64 ((w64 ((w64 ((w64 (s21.2.2 + 1)) + 1)) + 1)) + 1)) + 1))), (5, vi s21.1), (0, .v (.slice a0_0 l68.length c0_0))]) (by kernel_rfl) ?_
     refine JO_eqE (sl' := [(49, vi (w64 ((w64 ((w64 ((w64 ((w64 (s21.2.2 + 1)) + 1)) + 1)) + 1)) + 1))), (1, vi (w64 ((w64 ((w64 ((w64 ((w64 (s21.2.2 + 1)) + 1)) + 1)) + 1)) + 1))), (5, vi s21.1), (0, .v (.slice a0_0 l75.length c0_0))]) (bx' := []) (by simp only [hl78]) rfl ?_
     refine oe (nt (qs (qr (oN 3 [(1, vi (w64 ((w64 ((w64 ((w64 ((w64 ((w64 (s21.2.2 + 1)) + 1)) + 1)) + 1)) + 1)) + 1)))] [5, 0] ?_))))
     refine oe (nt (qr (oN 2 [(55, vi s21.1), (54, .v (.slice a0_0 l75.length c0_0))] [1, 5, 0] ?_)))
     obtain ⟨x79, hx80, h81⟩ := bS h77
     refine oi 7 (fun γ w hs => (hs.view 0 rfl)) hx80 ?_
     refine oN 1 [(57, .q a0_0 (Int.toNat s21.1 * 7 + 6))] [1, 5, 0] ?_
     refine JO_open1 (Rr := []) rfl hx80 (fun a83 c84 => [.int .i64 x79.Name, .int .i64 x79.From, .int .i64 x79.To, .int .i64 x79.Joined, .int .i64 x79.Rank, .int .i64 x79.Mode, .slice a83 x79.Nodes.length c84]) x79.Nodes (by rintro w F c ⟨e0, a0, c0, F0, rfl, rfl, h0⟩; exact ⟨e0, a0, c0, rfl, h0⟩) (fun e82 a83 c84 => ?_)
     refine ol 186 6 (.slice a83 x79.Nodes.length c84) (fun γ w hs => hs.holeCells 0 rfl hx80 rfl) ?_
     refine oN 1 [(59, vi (w64 ((w64 ((w64 ((w64 ((w64 ((w64 (s21.2.2 + 1)) + 1)) + 1)) + 1)) + 1)) + 1)))] [58, 5, 0] ?_
     refine or_ [1, 0] ?_
     obtain ⟨t85, h86, h87⟩ := bS h81
     obtain ⟨u89, hu90, h91⟩ := bS h87
     have hl92 := (sameLen_some hu90).symm
     refine JO_callM rfl (by kernel_rfl) (f := 158) (args := #[.slice a83 x79.Nodes.length c84, .int .i64 (w64 ((w64 ((w64 ((w64 ((w64 ((w64 (s21.2.2 + 1)) + 1)) + 1)) + 1)) + 1)) + 1))]) (by kernel_rfl) (x := .int .i64 t85.1) (Rin := [SlRes e82 x79.Nodes a83 c84]) (Rout := [SlRes e82 t85.2 a83 c84]) (Rr := [HoleRes e0_0 l75 a0_0 c0_0 (Int.toNat s21.1) [.int .i64 x79.Name, .int .i64 x79.From, .int .i64 x79.To, .int .i64 x79.Joined, .int .i64 x79.Rank, .int .i64 x79.Mode, .slice a83 x79.Nodes.length c84]]) rfl (fun w => (by have vv := c_laws_markNodeS (e0_0 := e82) (a0_0 := a83) (c0_0 := c84) (W := w) h86; exact vv)) (sl' := [(60, vi t85.1), (59, vi (w64 ((w64 ((w64 ((w64 ((w64 ((w64 (s21.2.2 + 1)) + 1)) + 1)) + 1)) + 1)) + 1))), (58, .v (.slice a83 x79.Nodes.length c84)), (5, vi s21.1), (0, .v (.slice a0_0 l75.length c0_0))]) (by kernel_rfl) ?_
     refine JO_eqE (sl' := [(60, vi t85.1), (59, vi (w64 ((w64 ((w64 ((w64 ((w64 ((w64 (s21.2.2 + 1)) + 1)) + 1)) + 1)) + 1)) + 1))), (58, .v (.slice a83 t85.2.length c84)), (5, vi s21.1), (0, .v (.slice a0_0 l75.length c0_0))]) (bx' := []) (by simp only [hl92]) rfl ?_
     obtain ⟨l93, hm94, h96⟩ := bS h91
     replace hm94 := (sI hm94).symm
     refine JO_close1 (Rr := []) (x' := (Rule.mk x79.Name x79.From x79.To x79.Joined x79.Rank x79.Mode t85.2)) rfl (fun w F hF => ⟨e82, a83, c84, F, rfl, by simp only [hl92], hF⟩) hm94 ?_
     have hl95 := len_set hm94
     refine JO_keep [60, 59, 5, 0] (sl' := [(60, vi t85.1), (59, vi (w64 ((w64 ((w64 ((w64 ((w64 ((w64 (s21.2.2 + 1)) + 1)) + 1)) + 1)) + 1)) + 1))), (5, vi s21.1), (0, .v (.slice a0_0 l75.length c0_0))]) (by kernel_rfl) ?_
     refine JO_eqE (sl' := [(60, vi t85.1), (59, vi (w64 ((w64 ((w64 ((w64 ((w64 ((w64 (s21.2.2 + 1)) + 1)) + 1)) + 1)) + 1)) + 1))), (5, vi s21.1), (0, .v (.slice a0_0 l93.length c0_0))]) (bx' := []) (by simp only [hl95]) rfl ?_
     refine oN 1 [(1, vi t85.1)] [5, 0] ?_
     refine oe (bn (nt (qr (oN 3 [(5, vi (w64 (s21.1 + 1)))] [1, 0] ?_))))
     exact oe (ct h96 () [5, 0, 1] [0] 0)
   refine qx (nx (nx (bh ?_)))
   have h97 := leafB hd30 h36 h26
   exact mp ((s21.2.1, s21.2.2), ()) h97 [0, 1] [0] 0
 have h33 := (congrFun hk28 _).symm.trans h33p
 refine nt (qs (qr (oN 2 [(4, vi y32.1.2)] [0] ?_)))
 refine oe (nt (qe (rt [.int .i64 y32.1.2] (fun γ w hs => ?_))))
 rw [← sI h33]
 exact hs.turned (is := [0]) rfl

theorem c_laws_markBook {W : World} {x0 : Book} {a0_0 : Option Addr} {c0_0 : Nat} {e0_0 : TypeId} {x1 : Int} {r : Int × (List Rule)} (h : laws_markBook x0 x1 = some r)  :
    GivesM Tryz.prog 68 #[vBook x0 (a0_0, c0_0), .int .i64 x1] W [SlRes e0_0 x0.Rules a0_0 c0_0] [SlRes e0_0 r.2 a0_0 c0_0] (.int .i64 r.1) := by
 unfold laws_markBook at h
 refine enM Tryz.func68 Tryz.ntmps68 (fun Fs => ?_)
 refine qs (qr (oB 2 [(2, .p 0 0)] [0, 1] [(42, (eBook x0 (a0_0, c0_0)))] ?_))
 refine oe (nt (qs (qr (oN 3 [(7, vi x1), (6, .v (.slice a0_0 x0.Rules.length c0_0))] [0] ?_))))
 obtain ⟨t21, h22, h23⟩ := bS h
 obtain ⟨u25, hu26, h27⟩ := bS h23
 have hl28 := (sameLen_some hu26).symm
 refine JO_callM rfl (by kernel_rfl) (f := 114) (args := #[.slice a0_0 x0.Rules.length c0_0, .int .i64 x1]) (by kernel_rfl) (x := .int .i64 t21.1) (Rin := [SlRes e0_0 x0.Rules a0_0 c0_0]) (Rout := [SlRes e0_0 t21.2 a0_0 c0_0]) (Rr := []) rfl (fun w => (by have vv := c_laws_markRuleS (e0_0 := e0_0) (a0_0 := a0_0) (c0_0 := c0_0) (W := w) h22; exact vv)) (sl' := [(8, vi t21.1), (7, vi x1), (6, .v (.slice a0_0 x0.Rules.length c0_0)), (0, .v (vBook x0 (a0_0, c0_0)))]) (by kernel_rfl) ?_
 refine JO_eqE (sl' := [(8, vi t21.1), (7, vi x1), (6, .v (.slice a0_0 t21.2.length c0_0)), (0, .v (vBook (Book.mk t21.2) (a0_0, c0_0)))]) (bx' := [(42, [.slice a0_0 t21.2.length c0_0])]) (by simp only [eBook, vBook, hl28]) (by simp only [eBook, vBook, hl28]) ?_
 refine oN 1 [(1, vi t21.1)] [0] ?_
 refine oe (nt (qs (qr (oN 2 [(4, vi t21.1)] [0] ?_))))
 refine oe (nt (qe (rt [.int .i64 t21.1] (fun γ w hs => ?_))))
 rw [← sI h27]
 exact hs.turned (is := [0]) rfl

theorem c_laws_markFactS {W : World} {x0 : List Fact} {a0_0 : Option Addr} {c0_0 : Nat} {e0_0 : TypeId} {x1 : Int} {r : Int × (List Fact)} (h : laws_markFactS x0 x1 = some r)  :
    GivesM Tryz.prog 115 #[.slice a0_0 x0.length c0_0, .int .i64 x1] W [SlRes e0_0 x0 a0_0 c0_0] [SlRes e0_0 r.2 a0_0 c0_0] (.int .i64 r.1) := by
 unfold laws_markFactS at h
 refine enM Tryz.func115 Tryz.ntmps115 (fun Fs => ?_)
 refine qs (qr (oN 1 [] [0, 1] ?_))
 refine oe (nt (qs (qs (qr (oN 1 [(5, vi 0)] [0, 1] ?_)))))
 refine oe (nt ?_)
 obtain ⟨r24, hL25, h26⟩ := bS h
 obtain ⟨k27, hk28, h26⟩ := brkS h26
 refine JC_cutP (τ := ((List Fact) × Int) × (Unit)) (fun y => k27 y.1 = some r) (fun y32 => [(0, .v (.slice a0_0 y32.1.1.length c0_0)), (1, vi y32.1.2)]) (fun y32 => []) (fun y32 => [SlRes e0_0 y32.1.1 a0_0 c0_0]) ?_ (fun y32 h33p => ?_)
 · refine qb (lp Unit hL25 (fun s21 y22 => [(5, vi s21.1), (0, .v (.slice a0_0 s21.2.1.length c0_0)), (1, vi s21.2.2)]) (fun s21 y22 => []) (fun s21 y22 => [SlRes e0_0 s21.2.1 a0_0 c0_0]) () [5, 0, 1] [0] 0 (fun s21 y22 t23 h29 hd30 => ?_))
   refine qs (qs (qr (oN 4 [(9, vb (decide (s21.1 < (s21.2.1.length : Int))))] [5, 0, 1] ?_)))
   refine oe (nt (cC h29 (fun h35 => ?_) (fun h36 => ?_)))
   · refine qk (nt (qs (qb (qs (qr (oN 3 [(14, vi s21.2.2), (13, vi s21.1), (12, .v (.slice a0_0 s21.2.1.length c0_0))] [5, 0, 1] ?_))))))
     obtain ⟨x37, hx38, h39⟩ := bS h35
     refine oi 5 (fun γ w hs => (hs.view 0 rfl)) hx38 ?_
     refine oN 1 [(16, .q a0_0 (Int.toNat s21.1 * 5))] [14, 5, 0, 1] ?_
     obtain ⟨l40, hm41, h42⟩ := bS h39
     replace hm41 := (sI hm41).symm
     refine JO_storeq (α := Fact) (d := a0_0) (vs := [.int .i64 s21.2.2]) (j := s21.1) (x' := (Fact.mk s21.2.2 x37.From x37.To x37.Known x37.Value)) rfl (by kernel_rfl) 0 (by kernel_rfl) hx38 (Rc := []) (Rr := []) rfl (by kernel_rfl) (fun w c F Fs ho _ _ => own_flat_set (by kernel_rfl) ho) hm41 rfl ?_
     have hl43 := len_set hm41
     refine JO_keep [14, 5, 0, 1] (sl' := [(14, vi s21.2.2), (5, vi s21.1), (0, .v (.slice a0_0 s21.2.1.length c0_0)), (1, vi s21.2.2)]) (by kernel_rfl) ?_
     refine JO_eqE (sl' := [(14, vi s21.2.2), (5, vi s21.1), (0, .v (.slice a0_0 l40.length c0_0)), (1, vi s21.2.2)]) (bx' := []) (by simp only [hl43]) rfl ?_
     refine oe (nt (qs (qr (oN 3 [(1, vi (w64 (s21.2.2 + 1)))] [5, 0] ?_))))
     refine oe (nt (qs (qr (oN 3 [(21, vi (w64 (s21.2.2 + 1))), (20, vi s21.1), (19, .v (.slice a0_0 l40.length c0_0))] [1, 5, 0] ?_))))
     obtain ⟨x44, hx45, h46⟩ := bS h42
     refine oi 5 (fun γ w hs => (hs.view 0 rfl)) hx45 ?_
     refine oN 1 [(23, .q a0_0 (Int.toNat s21.1 * 5 + 1))] [21, 1, 5, 0] ?_
     obtain ⟨l47, hm48, h49⟩ := bS h46
     replace hm48 := (sI hm48).symm
     refine JO_storeq (α := Fact) (d := a0_0) (vs := [.int .i64 (w64 (s21.2.2 + 1))]) (j := s21.1) (x' := (Fact.mk x44.Key (w64 (s21.2.2 + 1)) x44.To x44.Known x44.Value)) rfl (by kernel_rfl) 1 (by kernel_rfl) hx45 (Rc := []) (Rr := []) rfl (by kernel_rfl) (fun w c F Fs ho _ _ => own_flat_set (by kernel_rfl) ho) hm48 rfl ?_
     have hl50 := len_set hm48
     refine JO_keep [21, 1, 5, 0] (sl' := [(21, vi (w64 (s21.2.2 + 1))), (1, vi (w64 (s21.2.2 + 1))), (5, vi s21.1), (0, .v (.slice a0_0 l40.length c0_0))]) (by kernel_rfl) ?_
     refine JO_eqE (sl' := [(21, vi (w64 (s21.2.2 + 1))), (1, vi (w64 (s21.2.2 + 1))), (5, vi s21.1), (0, .v (.slice a0_0 l47.length c0_0))]) (bx' := []) (by simp only [hl50]) rfl ?_
     refine oe (nt (qs (qr (oN 3 [(1, vi (w64 ((w64 (s21.2.2 + 1)) + 1)))] [5, 0] ?_))))
     refine oe (nt (qs (qr (oN 3 [(28, vi (w64 ((w64 (s21.2.2 + 1)) + 1))), (27, vi s21.1), (26, .v (.slice a0_0 l47.length c0_0))] [1, 5, 0] ?_))))
     obtain ⟨x51, hx52, h53⟩ := bS h49
     refine oi 5 (fun γ w hs => (hs.view 0 rfl)) hx52 ?_
     refine oN 1 [(30, .q a0_0 (Int.toNat s21.1 * 5 + 2))] [28, 1, 5, 0] ?_
     obtain ⟨l54, hm55, h56⟩ := bS h53
     replace hm55 := (sI hm55).symm
     refine JO_storeq (α := Fact) (d := a0_0) (vs := [.int .i64 (w64 ((w64 (s21.2.2 + 1)) + 1))]) (j := s21.1) (x' := (Fact.mk x51.Key x51.From (w64 ((w64 (s21.2.2 + 1)) + 1)) x51.Known x51.Value)) rfl (by kernel_rfl) 2 (by kernel_rfl) hx52 (Rc := []) (Rr := []) rfl (by kernel_rfl) (fun w c F Fs ho _ _ => own_flat_set (by kernel_rfl) ho) hm55 rfl ?_
     have hl57 := len_set hm55
     refine JO_keep [28, 1, 5, 0] (sl' := [(28, vi (w64 ((w64 (s21.2.2 + 1)) + 1))), (1, vi (w64 ((w64 (s21.2.2 + 1)) + 1))), (5, vi s21.1), (0, .v (.slice a0_0 l47.length c0_0))]) (by kernel_rfl) ?_
     refine JO_eqE (sl' := [(28, vi (w64 ((w64 (s21.2.2 + 1)) + 1))), (1, vi (w64 ((w64 (s21.2.2 + 1)) + 1))), (5, vi s21.1), (0, .v (.slice a0_0 l54.length c0_0))]) (bx' := []) (by simp only [hl57]) rfl ?_
     refine oe (nt (qs (qr (oN 3 [(1, vi (w64 ((w64 ((w64 (s21.2.2 + 1)) + 1)) + 1)))] [5, 0] ?_))))
     refine oe (nt (qs (qr (oN 3 [(35, vi (w64 ((w64 ((w64 (s21.2.2 + 1)) + 1)) + 1))), (34, vi s21.1), (33, .v (.slice a0_0 l54.length c0_0))] [1, 5, 0] ?_))))
     obtain ⟨x58, hx59, h60⟩ := bS h56
     refine oi 5 (fun γ w hs => (hs.view 0 rfl)) hx59 ?_
     refine oN 1 [(37, .q a0_0 (Int.toNat s21.1 * 5 + 3))] [35, 1, 5, 0] ?_
     obtain ⟨l61, hm62, h63⟩ := bS h60
     replace hm62 := (sI hm62).symm
     refine JO_storeq (α := Fact) (d := a0_0) (vs := [.int .i64 (w64 ((w64 ((w64 (s21.2.2 + 1)) + 1)) + 1))]) (j := s21.1) (x' := (Fact.mk x58.Key x58.From x58.To (w64 ((w64 ((w64 (s21.2.2 + 1)) + 1)) + 1)) x58.Value)) rfl (by kernel_rfl) 3 (by kernel_rfl) hx59 (Rc := []) (Rr := []) rfl (by kernel_rfl) (fun w c F Fs ho _ _ => own_flat_set (by kernel_rfl) ho) hm62 rfl ?_
     have hl64 := len_set hm62
     refine JO_keep [35, 1, 5, 0] (sl' := [(35, vi (w64 ((w64 ((w64 (s21.2.2 + 1)) + 1)) + 1))), (1, vi (w64 ((w64 ((w64 (s21.2.2 + 1)) + 1)) + 1))), (5, vi s21.1), (0, .v (.slice a0_0 l54.length c0_0))]) (by kernel_rfl) ?_
     refine JO_eqE (sl' := [(35, vi (w64 ((w64 ((w64 (s21.2.2 + 1)) + 1)) + 1))), (1, vi (w64 ((w64 ((w64 (s21.2.2 + 1)) + 1)) + 1))), (5, vi s21.1), (0, .v (.slice a0_0 l61.length c0_0))]) (bx' := []) (by simp only [hl64]) rfl ?_
     refine oe (nt (qs (qr (oN 3 [(1, vi (w64 ((w64 ((w64 ((w64 (s21.2.2 + 1)) + 1)) + 1)) + 1)))] [5, 0] ?_))))
     refine oe (nt (qs (qr (oN 3 [(42, vi (w64 ((w64 ((w64 ((w64 (s21.2.2 + 1)) + 1)) + 1)) + 1))), (41, vi s21.1), (40, .v (.slice a0_0 l61.length c0_0))] [1, 5, 0] ?_))))
     obtain ⟨x65, hx66, h67⟩ := bS h63
     refine oi 5 (fun γ w hs => (hs.view 0 rfl)) hx66 ?_
     refine oN 1 [(44, .q a0_0 (Int.toNat s21.1 * 5 + 4))] [42, 1, 5, 0] ?_
     obtain ⟨l68, hm69, h70⟩ := bS h67
     replace hm69 := (sI hm69).symm
     refine JO_storeq (α := Fact) (d := a0_0) (vs := [.int .i64 (w64 ((w64 ((w64 ((w64 (s21.2.2 + 1)) + 1)) + 1)) + 1))]) (j := s21.1) (x' := (Fact.mk x65.Key x65.From x65.To x65.Known (w64 ((w64 ((w64 ((w64 (s21.2.2 + 1)) + 1)) + 1)) + 1)))) rfl (by kernel_rfl) 4 (by kernel_rfl) hx66 (Rc := []) (Rr := []) rfl (by kernel_rfl) (fun w c F Fs ho _ _ => own_flat_set (by kernel_rfl) ho) hm69 rfl ?_
     have hl71 := len_set hm69
     refine JO_keep [42, 1, 5, 0] (sl' := [(42, vi (w64 ((w64 ((w64 ((w64 (s21.2.2 + 1)) + 1)) + 1)) + 1))), (1, vi (w64 ((w64 ((w64 ((w64 (s21.2.2 + 1)) + 1)) + 1)) + 1))), (5, vi s21.1), (0, .v (.slice a0_0 l61.length c0_0))]) (by kernel_rfl) ?_
     refine JO_eqE (sl' := [(42, vi (w64 ((w64 ((w64 ((w64 (s21.2.2 + 1)) + 1)) + 1)) + 1))), (1, vi (w64 ((w64 ((w64 ((w64 (s21.2.2 + 1)) + 1)) + 1)) + 1))), (5, vi s21.1), (0, .v (.slice a0_0 l68.length c0_0))]) (bx' := []) (by simp only [hl71]) rfl ?_
     refine oe (nt (qr (oN 3 [(1, vi (w64 ((w64 ((w64 ((w64 ((w64 (s21.2.2 + 1)) + 1)) + 1)) + 1)) + 1)))] [5, 0] ?_)))
     refine oe (bn (nt (qr (oN 3 [(5, vi (w64 (s21.1 + 1)))] [1, 0] ?_))))
     exact oe (ct h70 () [5, 0, 1] [0] 0)
   refine qx (nx (nx (bh ?_)))
   have h72 := leafB hd30 h36 h26
   exact mp ((s21.2.1, s21.2.2), ()) h72 [0, 1] [0] 0
 have h33 := (congrFun hk28 _).symm.trans h33p
 refine nt (qs (qr (oN 2 [(4, vi y32.1.2)] [0] ?_)))
 refine oe (nt (qe (rt [.int .i64 y32.1.2] (fun γ w hs => ?_))))
 rw [← sI h33]
 exact hs.turned (is := [0]) rfl

theorem c_laws_markStore {W : World} {x0 : Store} {a0_0 : Option Addr} {c0_0 : Nat} {e0_0 : TypeId} {x1 : Int} {r : Int × (List Fact)} (h : laws_markStore x0 x1 = some r)  :
    GivesM Tryz.prog 69 #[vStore x0 (a0_0, c0_0), .int .i64 x1] W [SlRes e0_0 x0.Facts a0_0 c0_0] [SlRes e0_0 r.2 a0_0 c0_0] (.int .i64 r.1) := by
 unfold laws_markStore at h
 refine enM Tryz.func69 Tryz.ntmps69 (fun Fs => ?_)
 refine qs (qr (oB 2 [(2, .p 0 0)] [0, 1] [(45, (eStore x0 (a0_0, c0_0)))] ?_))
 refine oe (nt (qs (qr (oN 3 [(7, vi x1), (6, .v (.slice a0_0 x0.Facts.length c0_0))] [0] ?_))))
 obtain ⟨t21, h22, h23⟩ := bS h
 obtain ⟨u25, hu26, h27⟩ := bS h23
 have hl28 := (sameLen_some hu26).symm
 refine JO_callM rfl (by kernel_rfl) (f := 115) (args := #[.slice a0_0 x0.Facts.length c0_0, .int .i64 x1]) (by kernel_rfl) (x := .int .i64 t21.1) (Rin := [SlRes e0_0 x0.Facts a0_0 c0_0]) (Rout := [SlRes e0_0 t21.2 a0_0 c0_0]) (Rr := []) rfl (fun w => (by have vv := c_laws_markFactS (e0_0 := e0_0) (a0_0 := a0_0) (c0_0 := c0_0) (W := w) h22; exact vv)) (sl' := [(8, vi t21.1), (7, vi x1), (6, .v (.slice a0_0 x0.Facts.length c0_0)), (0, .v (vStore x0 (a0_0, c0_0)))]) (by kernel_rfl) ?_
 refine JO_eqE (sl' := [(8, vi t21.1), (7, vi x1), (6, .v (.slice a0_0 t21.2.length c0_0)), (0, .v (vStore (Store.mk t21.2) (a0_0, c0_0)))]) (bx' := [(45, [.slice a0_0 t21.2.length c0_0])]) (by simp only [eStore, vStore, hl28]) (by simp only [eStore, vStore, hl28]) ?_
 refine oN 1 [(1, vi t21.1)] [0] ?_
 refine oe (nt (qs (qr (oN 2 [(4, vi t21.1)] [0] ?_))))
 refine oe (nt (qe (rt [.int .i64 t21.1] (fun γ w hs => ?_))))
 rw [← sI h27]
 exact hs.turned (is := [0]) rfl

theorem c_laws_markPointS {W : World} {x0 : List Point} {a0_0 : Option Addr} {c0_0 : Nat} {e0_0 : TypeId} {x1 : Int} {r : Int × (List Point)} (h : laws_markPointS x0 x1 = some r)  :
    GivesM Tryz.prog 116 #[.slice a0_0 x0.length c0_0, .int .i64 x1] W [SlRes e0_0 x0 a0_0 c0_0] [SlRes e0_0 r.2 a0_0 c0_0] (.int .i64 r.1) := by
 unfold laws_markPointS at h
 refine enM Tryz.func116 Tryz.ntmps116 (fun Fs => ?_)
 refine qs (qr (oN 1 [] [0, 1] ?_))
 refine oe (nt (qs (qs (qr (oN 1 [(5, vi 0)] [0, 1] ?_)))))
 refine oe (nt ?_)
 obtain ⟨r24, hL25, h26⟩ := bS h
 obtain ⟨k27, hk28, h26⟩ := brkS h26
 refine JC_cutP (τ := ((List Point) × Int) × (Unit)) (fun y => k27 y.1 = some r) (fun y32 => [(0, .v (.slice a0_0 y32.1.1.length c0_0)), (1, vi y32.1.2)]) (fun y32 => []) (fun y32 => [SlRes e0_0 y32.1.1 a0_0 c0_0]) ?_ (fun y32 h33p => ?_)
 · refine qb (lp Unit hL25 (fun s21 y22 => [(5, vi s21.1), (0, .v (.slice a0_0 s21.2.1.length c0_0)), (1, vi s21.2.2)]) (fun s21 y22 => []) (fun s21 y22 => [SlRes e0_0 s21.2.1 a0_0 c0_0]) () [5, 0, 1] [0] 0 (fun s21 y22 t23 h29 hd30 => ?_))
   refine qs (qs (qr (oN 4 [(9, vb (decide (s21.1 < (s21.2.1.length : Int))))] [5, 0, 1] ?_)))
   refine oe (nt (cC h29 (fun h35 => ?_) (fun h36 => ?_)))
   · refine qk (nt (qs (qb (qs (qr (oN 3 [(14, vi s21.2.2), (13, vi s21.1), (12, .v (.slice a0_0 s21.2.1.length c0_0))] [5, 0, 1] ?_))))))
     obtain ⟨x37, hx38, h39⟩ := bS h35
     refine oi 3 (fun γ w hs => (hs.view 0 rfl)) hx38 ?_
     refine oN 1 [(16, .q a0_0 (Int.toNat s21.1 * 3))] [14, 5, 0, 1] ?_
     obtain ⟨l40, hm41, h42⟩ := bS h39
     replace hm41 := (sI hm41).symm
     refine JO_storeq (α := Point) (d := a0_0) (vs := [.int .i64 s21.2.2]) (j := s21.1) (x' := (Point.mk s21.2.2 x37.Known x37.Value)) rfl (by kernel_rfl) 0 (by kernel_rfl) hx38 (Rc := []) (Rr := []) rfl (by kernel_rfl) (fun w c F Fs ho _ _ => own_flat_set (by kernel_rfl) ho) hm41 rfl ?_
     have hl43 := len_set hm41
     refine JO_keep [14, 5, 0, 1] (sl' := [(14, vi s21.2.2), (5, vi s21.1), (0, .v (.slice a0_0 s21.2.1.length c0_0)), (1, vi s21.2.2)]) (by kernel_rfl) ?_
     refine JO_eqE (sl' := [(14, vi s21.2.2), (5, vi s21.1), (0, .v (.slice a0_0 l40.length c0_0)), (1, vi s21.2.2)]) (bx' := []) (by simp only [hl43]) rfl ?_
     refine oe (nt (qs (qr (oN 3 [(1, vi (w64 (s21.2.2 + 1)))] [5, 0] ?_))))
     refine oe (nt (qs (qr (oN 3 [(21, vi (w64 (s21.2.2 + 1))), (20, vi s21.1), (19, .v (.slice a0_0 l40.length c0_0))] [1, 5, 0] ?_))))
     obtain ⟨x44, hx45, h46⟩ := bS h42
     refine oi 3 (fun γ w hs => (hs.view 0 rfl)) hx45 ?_
     refine oN 1 [(23, .q a0_0 (Int.toNat s21.1 * 3 + 1))] [21, 1, 5, 0] ?_
     obtain ⟨l47, hm48, h49⟩ := bS h46
     replace hm48 := (sI hm48).symm
     refine JO_storeq (α := Point) (d := a0_0) (vs := [.int .i64 (w64 (s21.2.2 + 1))]) (j := s21.1) (x' := (Point.mk x44.Month (w64 (s21.2.2 + 1)) x44.Value)) rfl (by kernel_rfl) 1 (by kernel_rfl) hx45 (Rc := []) (Rr := []) rfl (by kernel_rfl) (fun w c F Fs ho _ _ => own_flat_set (by kernel_rfl) ho) hm48 rfl ?_
     have hl50 := len_set hm48
     refine JO_keep [21, 1, 5, 0] (sl' := [(21, vi (w64 (s21.2.2 + 1))), (1, vi (w64 (s21.2.2 + 1))), (5, vi s21.1), (0, .v (.slice a0_0 l40.length c0_0))]) (by kernel_rfl) ?_
     refine JO_eqE (sl' := [(21, vi (w64 (s21.2.2 + 1))), (1, vi (w64 (s21.2.2 + 1))), (5, vi s21.1), (0, .v (.slice a0_0 l47.length c0_0))]) (bx' := []) (by simp only [hl50]) rfl ?_
     refine oe (nt (qs (qr (oN 3 [(1, vi (w64 ((w64 (s21.2.2 + 1)) + 1)))] [5, 0] ?_))))
     refine oe (nt (qs (qr (oN 3 [(28, vi (w64 ((w64 (s21.2.2 + 1)) + 1))), (27, vi s21.1), (26, .v (.slice a0_0 l47.length c0_0))] [1, 5, 0] ?_))))
     obtain ⟨x51, hx52, h53⟩ := bS h49
     refine oi 3 (fun γ w hs => (hs.view 0 rfl)) hx52 ?_
     refine oN 1 [(30, .q a0_0 (Int.toNat s21.1 * 3 + 2))] [28, 1, 5, 0] ?_
     obtain ⟨l54, hm55, h56⟩ := bS h53
     replace hm55 := (sI hm55).symm
     refine JO_storeq (α := Point) (d := a0_0) (vs := [.int .i64 (w64 ((w64 (s21.2.2 + 1)) + 1))]) (j := s21.1) (x' := (Point.mk x51.Month x51.Known (w64 ((w64 (s21.2.2 + 1)) + 1)))) rfl (by kernel_rfl) 2 (by kernel_rfl) hx52 (Rc := []) (Rr := []) rfl (by kernel_rfl) (fun w c F Fs ho _ _ => own_flat_set (by kernel_rfl) ho) hm55 rfl ?_
     have hl57 := len_set hm55
     refine JO_keep [28, 1, 5, 0] (sl' := [(28, vi (w64 ((w64 (s21.2.2 + 1)) + 1))), (1, vi (w64 ((w64 (s21.2.2 + 1)) + 1))), (5, vi s21.1), (0, .v (.slice a0_0 l47.length c0_0))]) (by kernel_rfl) ?_
     refine JO_eqE (sl' := [(28, vi (w64 ((w64 (s21.2.2 + 1)) + 1))), (1, vi (w64 ((w64 (s21.2.2 + 1)) + 1))), (5, vi s21.1), (0, .v (.slice a0_0 l54.length c0_0))]) (bx' := []) (by simp only [hl57]) rfl ?_
     refine oe (nt (qr (oN 3 [(1, vi (w64 ((w64 ((w64 (s21.2.2 + 1)) + 1)) + 1)))] [5, 0] ?_)))
     refine oe (bn (nt (qr (oN 3 [(5, vi (w64 (s21.1 + 1)))] [1, 0] ?_))))
     exact oe (ct h56 () [5, 0, 1] [0] 0)
   refine qx (nx (nx (bh ?_)))
   have h58 := leafB hd30 h36 h26
   exact mp ((s21.2.1, s21.2.2), ()) h58 [0, 1] [0] 0
 have h33 := (congrFun hk28 _).symm.trans h33p
 refine nt (qs (qr (oN 2 [(4, vi y32.1.2)] [0] ?_)))
 refine oe (nt (qe (rt [.int .i64 y32.1.2] (fun γ w hs => ?_))))
 rw [← sI h33]
 exact hs.turned (is := [0]) rfl

theorem c_laws_markSeries {W : World} {x0 : Series} {a0_0 : Option Addr} {c0_0 : Nat} {e0_0 : TypeId} {x1 : Int} {r : Int × (List Point)} (h : laws_markSeries x0 x1 = some r)  :
    GivesM Tryz.prog 70 #[vSeries x0 (a0_0, c0_0), .int .i64 x1] W [SlRes e0_0 x0.Points a0_0 c0_0] [SlRes e0_0 r.2 a0_0 c0_0] (.int .i64 r.1) := by
 unfold laws_markSeries at h
 refine enM Tryz.func70 Tryz.ntmps70 (fun Fs => ?_)
 refine qs (qr (oB 2 [(2, .p 0 0)] [0, 1] [(48, (eSeries x0 (a0_0, c0_0)))] ?_))
 refine oe (nt (qs (qr (oN 3 [(7, vi x1), (6, .v (.slice a0_0 x0.Points.length c0_0))] [0] ?_))))
 obtain ⟨t21, h22, h23⟩ := bS h
 obtain ⟨u25, hu26, h27⟩ := bS h23
 have hl28 := (sameLen_some hu26).symm
 refine JO_callM rfl (by kernel_rfl) (f := 116) (args := #[.slice a0_0 x0.Points.length c0_0, .int .i64 x1]) (by kernel_rfl) (x := .int .i64 t21.1) (Rin := [SlRes e0_0 x0.Points a0_0 c0_0]) (Rout := [SlRes e0_0 t21.2 a0_0 c0_0]) (Rr := []) rfl (fun w => (by have vv := c_laws_markPointS (e0_0 := e0_0) (a0_0 := a0_0) (c0_0 := c0_0) (W := w) h22; exact vv)) (sl' := [(8, vi t21.1), (7, vi x1), (6, .v (.slice a0_0 x0.Points.length c0_0)), (0, .v (vSeries x0 (a0_0, c0_0)))]) (by kernel_rfl) ?_
 refine JO_eqE (sl' := [(8, vi t21.1), (7, vi x1), (6, .v (.slice a0_0 t21.2.length c0_0)), (0, .v (.agg #[.slice a0_0 t21.2.length c0_0]))]) (bx' := [(48, [.slice a0_0 t21.2.length c0_0])]) (by simp only [eSeries, vSeries, hl28]) (by simp only [eSeries, vSeries, hl28]) ?_
 refine oN 1 [(1, vi t21.1)] [0] ?_
 refine oe (nt (qs (qr (oN 2 [(4, vi t21.1)] [0] ?_))))
 refine oe (nt (qe (rt [.int .i64 t21.1] (fun γ w hs => ?_))))
 rw [← sI h27]
 exact hs.turned (is := [0]) rfl

theorem c_laws_markSpellS {W : World} {x0 : List Spell} {a0_0 : Option Addr} {c0_0 : Nat} {e0_0 : TypeId} {x1 : Int} {r : Int × (List Spell)} (h : laws_markSpellS x0 x1 = some r)  :
    GivesM Tryz.prog 117 #[.slice a0_0 x0.length c0_0, .int .i64 x1] W [SlRes e0_0 x0 a0_0 c0_0] [SlRes e0_0 r.2 a0_0 c0_0] (.int .i64 r.1) := by
 unfold laws_markSpellS at h
 refine enM Tryz.func117 Tryz.ntmps117 (fun Fs => ?_)
 refine qs (qr (oN 1 [] [0, 1] ?_))
 refine oe (nt (qs (qs (qr (oN 1 [(5, vi 0)] [0, 1] ?_)))))
 refine oe (nt ?_)
 obtain ⟨r24, hL25, h26⟩ := bS h
 obtain ⟨k27, hk28, h26⟩ := brkS h26
 refine JC_cutP (τ := ((List Spell) × Int) × (Unit)) (fun y => k27 y.1 = some r) (fun y32 => [(0, .v (.slice a0_0 y32.1.1.length c0_0)), (1, vi y32.1.2)]) (fun y32 => []) (fun y32 => [SlRes e0_0 y32.1.1 a0_0 c0_0]) ?_ (fun y32 h33p => ?_)
 · refine qb (lp Unit hL25 (fun s21 y22 => [(5, vi s21.1), (0, .v (.slice a0_0 s21.2.1.length c0_0)), (1, vi s21.2.2)]) (fun s21 y22 => []) (fun s21 y22 => [SlRes e0_0 s21.2.1 a0_0 c0_0]) () [5, 0, 1] [0] 0 (fun s21 y22 t23 h29 hd30 => ?_))
   refine qs (qs (qr (oN 4 [(9, vb (decide (s21.1 < (s21.2.1.length : Int))))] [5, 0, 1] ?_)))
   refine oe (nt (cC h29 (fun h35 => ?_) (fun h36 => ?_)))
   · refine qk (nt (qs (qb (qs (qr (oN 3 [(14, vi s21.2.2), (13, vi s21.1), (12, .v (.slice a0_0 s21.2.1.length c0_0))] [5, 0, 1] ?_))))))
     obtain ⟨x37, hx38, h39⟩ := bS h35
     refine oi 4 (fun γ w hs => (hs.view 0 rfl)) hx38 ?_
     refine oN 1 [(16, .q a0_0 (Int.toNat s21.1 * 4))] [14, 5, 0, 1] ?_
     obtain ⟨l40, hm41, h42⟩ := bS h39
     replace hm41 := (sI hm41).symm
     refine JO_storeq (α := Spell) (d := a0_0) (vs := [.int .i64 s21.2.2]) (j := s21.1) (x' := (Spell.mk s21.2.2 x37.To x37.Percent x37.Leave)) rfl (by kernel_rfl) 0 (by kernel_rfl) hx38 (Rc := []) (Rr := []) rfl (by kernel_rfl) (fun w c F Fs ho _ _ => own_flat_set (by kernel_rfl) ho) hm41 rfl ?_
     have hl43 := len_set hm41
     refine JO_keep [14, 5, 0, 1] (sl' := [(14, vi s21.2.2), (5, vi s21.1), (0, .v (.slice a0_0 s21.2.1.length c0_0)), (1, vi s21.2.2)]) (by kernel_rfl) ?_
     refine JO_eqE (sl' := [(14, vi s21.2.2), (5, vi s21.1), (0, .v (.slice a0_0 l40.length c0_0)), (1, vi s21.2.2)]) (bx' := []) (by simp only [hl43]) rfl ?_
     refine oe (nt (qs (qr (oN 3 [(1, vi (w64 (s21.2.2 + 1)))] [5, 0] ?_))))
     refine oe (nt (qs (qr (oN 3 [(21, vi (w64 (s21.2.2 + 1))), (20, vi s21.1), (19, .v (.slice a0_0 l40.length c0_0))] [1, 5, 0] ?_))))
     obtain ⟨x44, hx45, h46⟩ := bS h42
     refine oi 4 (fun γ w hs => (hs.view 0 rfl)) hx45 ?_
     refine oN 1 [(23, .q a0_0 (Int.toNat s21.1 * 4 + 1))] [21, 1, 5, 0] ?_
     obtain ⟨l47, hm48, h49⟩ := bS h46
     replace hm48 := (sI hm48).symm
     refine JO_storeq (α := Spell) (d := a0_0) (vs := [.int .i64 (w64 (s21.2.2 + 1))]) (j := s21.1) (x' := (Spell.mk x44.From (w64 (s21.2.2 + 1)) x44.Percent x44.Leave)) rfl (by kernel_rfl) 1 (by kernel_rfl) hx45 (Rc := []) (Rr := []) rfl (by kernel_rfl) (fun w c F Fs ho _ _ => own_flat_set (by kernel_rfl) ho) hm48 rfl ?_
     have hl50 := len_set hm48
     refine JO_keep [21, 1, 5, 0] (sl' := [(21, vi (w64 (s21.2.2 + 1))), (1, vi (w64 (s21.2.2 + 1))), (5, vi s21.1), (0, .v (.slice a0_0 l40.length c0_0))]) (by kernel_rfl) ?_
     refine JO_eqE (sl' := [(21, vi (w64 (s21.2.2 + 1))), (1, vi (w64 (s21.2.2 + 1))), (5, vi s21.1), (0, .v (.slice a0_0 l47.length c0_0))]) (bx' := []) (by simp only [hl50]) rfl ?_
     refine oe (nt (qs (qr (oN 3 [(1, vi (w64 ((w64 (s21.2.2 + 1)) + 1)))] [5, 0] ?_))))
     refine oe (nt (qs (qr (oN 3 [(28, vi (w64 ((w64 (s21.2.2 + 1)) + 1))), (27, vi s21.1), (26, .v (.slice a0_0 l47.length c0_0))] [1, 5, 0] ?_))))
     obtain ⟨x51, hx52, h53⟩ := bS h49
     refine oi 4 (fun γ w hs => (hs.view 0 rfl)) hx52 ?_
     refine oN 1 [(30, .q a0_0 (Int.toNat s21.1 * 4 + 2))] [28, 1, 5, 0] ?_
     obtain ⟨l54, hm55, h56⟩ := bS h53
     replace hm55 := (sI hm55).symm
     refine JO_storeq (α := Spell) (d := a0_0) (vs := [.int .i64 (w64 ((w64 (s21.2.2 + 1)) + 1))]) (j := s21.1) (x' := (Spell.mk x51.From x51.To (w64 ((w64 (s21.2.2 + 1)) + 1)) x51.Leave)) rfl (by kernel_rfl) 2 (by kernel_rfl) hx52 (Rc := []) (Rr := []) rfl (by kernel_rfl) (fun w c F Fs ho _ _ => own_flat_set (by kernel_rfl) ho) hm55 rfl ?_
     have hl57 := len_set hm55
     refine JO_keep [28, 1, 5, 0] (sl' := [(28, vi (w64 ((w64 (s21.2.2 + 1)) + 1))), (1, vi (w64 ((w64 (s21.2.2 + 1)) + 1))), (5, vi s21.1), (0, .v (.slice a0_0 l47.length c0_0))]) (by kernel_rfl) ?_
     refine JO_eqE (sl' := [(28, vi (w64 ((w64 (s21.2.2 + 1)) + 1))), (1, vi (w64 ((w64 (s21.2.2 + 1)) + 1))), (5, vi s21.1), (0, .v (.slice a0_0 l54.length c0_0))]) (bx' := []) (by simp only [hl57]) rfl ?_
     refine oe (nt (qs (qr (oN 3 [(1, vi (w64 ((w64 ((w64 (s21.2.2 + 1)) + 1)) + 1)))] [5, 0] ?_))))
     refine oe (nt (qs (qr (oN 5 [(37, vb ((Int.tmod (w64 ((w64 ((w64 (s21.2.2 + 1)) + 1)) + 1)) 3) == 0)), (34, vi s21.1), (33, .v (.slice a0_0 l54.length c0_0))] [1, 5, 0] ?_))))
     obtain ⟨x58, hx59, h60⟩ := bS h56
     refine oi 4 (fun γ w hs => (hs.view 0 rfl)) hx59 ?_
     refine oN 1 [(39, .q a0_0 (Int.toNat s21.1 * 4 + 3))] [37, 1, 5, 0] ?_
     obtain ⟨l61, hm62, h63⟩ := bS h60
     replace hm62 := (sI hm62).symm
     refine JO_storeq (α := Spell) (d := a0_0) (vs := [.bool ((Int.tmod (w64 ((w64 ((w64 (s21.2.2 + 1)) + 1)) + 1)) 3) == 0)]) (j := s21.1) (x' := (Spell.mk x58.From x58.To x58.Percent ((Int.tmod (w64 ((w64 ((w64 (s21.2.2 + 1)) + 1)) + 1)) 3) == 0))) rfl (by kernel_rfl) 3 (by kernel_rfl) hx59 (Rc := []) (Rr := []) rfl (by kernel_rfl) (fun w c F Fs ho _ _ => own_flat_set (by kernel_rfl) ho) hm62 rfl ?_
     have hl64 := len_set hm62
     refine JO_keep [37, 1, 5, 0] (sl' := [(37, vb ((Int.tmod (w64 ((w64 ((w64 (s21.2.2 + 1)) + 1)) + 1)) 3) == 0)), (1, vi (w64 ((w64 ((w64 (s21.2.2 + 1)) + 1)) + 1))), (5, vi s21.1), (0, .v (.slice a0_0 l54.length c0_0))]) (by kernel_rfl) ?_
     refine JO_eqE (sl' := [(37, vb ((Int.tmod (w64 ((w64 ((w64 (s21.2.2 + 1)) + 1)) + 1)) 3) == 0)), (1, vi (w64 ((w64 ((w64 (s21.2.2 + 1)) + 1)) + 1))), (5, vi s21.1), (0, .v (.slice a0_0 l61.length c0_0))]) (bx' := []) (by simp only [hl64]) rfl ?_
     refine oe (nt (qr (oN 3 [(1, vi (w64 ((w64 ((w64 ((w64 (s21.2.2 + 1)) + 1)) + 1)) + 1)))] [5, 0] ?_)))
     refine oe (bn (nt (qr (oN 3 [(5, vi (w64 (s21.1 + 1)))] [1, 0] ?_))))
     exact oe (ct h63 () [5, 0, 1] [0] 0)
   refine qx (nx (nx (bh ?_)))
   have h65 := leafB hd30 h36 h26
   exact mp ((s21.2.1, s21.2.2), ()) h65 [0, 1] [0] 0
 have h33 := (congrFun hk28 _).symm.trans h33p
 refine nt (qs (qr (oN 2 [(4, vi y32.1.2)] [0] ?_)))
 refine oe (nt (qe (rt [.int .i64 y32.1.2] (fun γ w hs => ?_))))
 rw [← sI h33]
 exact hs.turned (is := [0]) rfl

theorem c_laws_markEventS {W : World} {x0 : List Event} {a0_0 : Option Addr} {c0_0 : Nat} {e0_0 : TypeId} {x1 : Int} {r : Int × (List Event)} (h : laws_markEventS x0 x1 = some r)  :
    GivesM Tryz.prog 118 #[.slice a0_0 x0.length c0_0, .int .i64 x1] W [SlRes e0_0 x0 a0_0 c0_0] [SlRes e0_0 r.2 a0_0 c0_0] (.int .i64 r.1) := by
 unfold laws_markEventS at h
 refine enM Tryz.func118 Tryz.ntmps118 (fun Fs => ?_)
 refine qs (qr (oN 1 [] [0, 1] ?_))
 refine oe (nt (qs (qs (qr (oN 1 [(5, vi 0)] [0, 1] ?_)))))
 refine oe (nt ?_)
 obtain ⟨r24, hL25, h26⟩ := bS h
 obtain ⟨k27, hk28, h26⟩ := brkS h26
 refine JC_cutP (τ := ((List Event) × Int) × (Unit)) (fun y => k27 y.1 = some r) (fun y32 => [(0, .v (.slice a0_0 y32.1.1.length c0_0)), (1, vi y32.1.2)]) (fun y32 => []) (fun y32 => [SlRes e0_0 y32.1.1 a0_0 c0_0]) ?_ (fun y32 h33p => ?_)
 · refine qb (lp Unit hL25 (fun s21 y22 => [(5, vi s21.1), (0, .v (.slice a0_0 s21.2.1.length c0_0)), (1, vi s21.2.2)]) (fun s21 y22 => []) (fun s21 y22 => [SlRes e0_0 s21.2.1 a0_0 c0_0]) () [5, 0, 1] [0] 0 (fun s21 y22 t23 h29 hd30 => ?_))
   refine qs (qs (qr (oN 4 [(9, vb (decide (s21.1 < (s21.2.1.length : Int))))] [5, 0, 1] ?_)))
   refine oe (nt (cC h29 (fun h35 => ?_) (fun h36 => ?_)))
   · refine qk (nt (qs (qb (qs (qr (oN 3 [(14, vi s21.2.2), (13, vi s21.1), (12, .v (.slice a0_0 s21.2.1.length c0_0))] [5, 0, 1] ?_))))))
     obtain ⟨x37, hx38, h39⟩ := bS h35
     refine oi 2 (fun γ w hs => (hs.view 0 rfl)) hx38 ?_
     refine oN 1 [(16, .q a0_0 (Int.toNat s21.1 * 2))] [14, 5, 0, 1] ?_
     obtain ⟨l40, hm41, h42⟩ := bS h39
     replace hm41 := (sI hm41).symm
     refine JO_storeq (α := Event) (d := a0_0) (vs := [.int .i64 s21.2.2]) (j := s21.1) (x' := (Event.mk s21.2.2 x37.Month)) rfl (by kernel_rfl) 0 (by kernel_rfl) hx38 (Rc := []) (Rr := []) rfl (by kernel_rfl) (fun w c F Fs ho _ _ => own_flat_set (by kernel_rfl) ho) hm41 rfl ?_
     have hl43 := len_set hm41
     refine JO_keep [14, 5, 0, 1] (sl' := [(14, vi s21.2.2), (5, vi s21.1), (0, .v (.slice a0_0 s21.2.1.length c0_0)), (1, vi s21.2.2)]) (by kernel_rfl) ?_
     refine JO_eqE (sl' := [(14, vi s21.2.2), (5, vi s21.1), (0, .v (.slice a0_0 l40.length c0_0)), (1, vi s21.2.2)]) (bx' := []) (by simp only [hl43]) rfl ?_
     refine oe (nt (qs (qr (oN 3 [(1, vi (w64 (s21.2.2 + 1)))] [5, 0] ?_))))
     refine oe (nt (qs (qr (oN 3 [(21, vi (w64 (s21.2.2 + 1))), (20, vi s21.1), (19, .v (.slice a0_0 l40.length c0_0))] [1, 5, 0] ?_))))
     obtain ⟨x44, hx45, h46⟩ := bS h42
     refine oi 2 (fun γ w hs => (hs.view 0 rfl)) hx45 ?_
     refine oN 1 [(23, .q a0_0 (Int.toNat s21.1 * 2 + 1))] [21, 1, 5, 0] ?_
     obtain ⟨l47, hm48, h49⟩ := bS h46
     replace hm48 := (sI hm48).symm
     refine JO_storeq (α := Event) (d := a0_0) (vs := [.int .i64 (w64 (s21.2.2 + 1))]) (j := s21.1) (x' := (Event.mk x44.Kind (w64 (s21.2.2 + 1)))) rfl (by kernel_rfl) 1 (by kernel_rfl) hx45 (Rc := []) (Rr := []) rfl (by kernel_rfl) (fun w c F Fs ho _ _ => own_flat_set (by kernel_rfl) ho) hm48 rfl ?_
     have hl50 := len_set hm48
     refine JO_keep [21, 1, 5, 0] (sl' := [(21, vi (w64 (s21.2.2 + 1))), (1, vi (w64 (s21.2.2 + 1))), (5, vi s21.1), (0, .v (.slice a0_0 l40.length c0_0))]) (by kernel_rfl) ?_
     refine JO_eqE (sl' := [(21, vi (w64 (s21.2.2 + 1))), (1, vi (w64 (s21.2.2 + 1))), (5, vi s21.1), (0, .v (.slice a0_0 l47.length c0_0))]) (bx' := []) (by simp only [hl50]) rfl ?_
     refine oe (nt (qr (oN 3 [(1, vi (w64 ((w64 (s21.2.2 + 1)) + 1)))] [5, 0] ?_)))
     refine oe (bn (nt (qr (oN 3 [(5, vi (w64 (s21.1 + 1)))] [1, 0] ?_))))
     exact oe (ct h49 () [5, 0, 1] [0] 0)
   refine qx (nx (nx (bh ?_)))
   have h51 := leafB hd30 h36 h26
   exact mp ((s21.2.1, s21.2.2), ()) h51 [0, 1] [0] 0
 have h33 := (congrFun hk28 _).symm.trans h33p
 refine nt (qs (qr (oN 2 [(4, vi y32.1.2)] [0] ?_)))
 refine oe (nt (qe (rt [.int .i64 y32.1.2] (fun γ w hs => ?_))))
 rw [← sI h33]
 exact hs.turned (is := [0]) rfl

theorem c_laws_markMember {W : World} {x0 : Member} {a0_0 : Option Addr} {c0_0 : Nat} {e0_0 : TypeId} {a0_1 : Option Addr} {c0_1 : Nat} {e0_1 : TypeId} {x1 : Int} {r : Int × (List Spell) × (List Event)} (h : laws_markMember x0 x1 = some r)  :
    GivesM Tryz.prog 71 #[vMember x0 ((a0_0, c0_0), (a0_1, c0_1)), .int .i64 x1] W [SlRes e0_0 x0.Spells a0_0 c0_0, SlRes e0_1 x0.Events a0_1 c0_1] [SlRes e0_0 r.2.1 a0_0 c0_0, SlRes e0_1 r.2.2 a0_1 c0_1] (.int .i64 r.1) := by
 unfold laws_markMember at h
 refine enM Tryz.func71 Tryz.ntmps71 (fun Fs => ?_)
 refine qs (qr (oB 2 [(2, .p 0 0)] [0, 1] [(52, (eMember x0 ((a0_0, c0_0), (a0_1, c0_1))))] ?_))
 refine oe (nt (qs (qr (oN 3 [(7, vi x1), (6, .v (.slice a0_0 x0.Spells.length c0_0))] [2, 0] ?_))))
 obtain ⟨t21, h22, h23⟩ := bS h
 obtain ⟨u25, hu26, h27⟩ := bS h23
 have hl28 := (sameLen_some hu26).symm
 refine JO_callM rfl (by kernel_rfl) (f := 117) (args := #[.slice a0_0 x0.Spells.length c0_0, .int .i64 x1]) (by kernel_rfl) (x := .int .i64 t21.1) (Rin := [SlRes e0_0 x0.Spells a0_0 c0_0]) (Rout := [SlRes e0_0 t21.2 a0_0 c0_0]) (Rr := [SlRes e0_1 x0.Events a0_1 c0_1]) rfl (fun w => (by have vv := c_laws_markSpellS (e0_0 := e0_0) (a0_0 := a0_0) (c0_0 := c0_0) (W := w) h22; exact vv)) (sl' := [(8, vi t21.1), (7, vi x1), (6, .v (.slice a0_0 x0.Spells.length c0_0)), (2, .p 0 0), (0, .v (vMember x0 ((a0_0, c0_0), (a0_1, c0_1))))]) (by kernel_rfl) ?_
 refine JO_eqE (sl' := [(8, vi t21.1), (7, vi x1), (6, .v (.slice a0_0 t21.2.length c0_0)), (2, .p 0 0), (0, .v (vMember (Member.mk x0.Birth x0.Joined t21.2 x0.Events) ((a0_0, c0_0), (a0_1, c0_1))))]) (bx' := [(52, (eMember (Member.mk x0.Birth x0.Joined t21.2 x0.Events) ((a0_0, c0_0), (a0_1, c0_1))))]) (by simp only [eMember, vMember, hl28]) (by simp only [eMember, vMember, hl28]) ?_
 refine oN 1 [(1, vi t21.1)] [2, 0] ?_
 refine oe (nt (qs (qr (oN 3 [(11, vi t21.1), (10, .v (.slice a0_1 x0.Events.length c0_1))] [0] ?_))))
 refine or_ [1, 0] ?_
 obtain ⟨t29, h30, h31⟩ := bS h27
 obtain ⟨u33, hu34, h35⟩ := bS h31
 have hl36 := (sameLen_some hu34).symm
 refine JO_callM rfl (by kernel_rfl) (f := 118) (args := #[.slice a0_1 x0.Events.length c0_1, .int .i64 t21.1]) (by kernel_rfl) (x := .int .i64 t29.1) (Rin := [SlRes e0_1 x0.Events a0_1 c0_1]) (Rout := [SlRes e0_1 t29.2 a0_1 c0_1]) (Rr := [SlRes e0_0 t21.2 a0_0 c0_0]) rfl (fun w => (by have vv := c_laws_markEventS (e0_0 := e0_1) (a0_0 := a0_1) (c0_0 := c0_1) (W := w) h30; exact vv)) (sl' := [(12, vi t29.1), (11, vi t21.1), (10, .v (.slice a0_1 x0.Events.length c0_1)), (0, .v (vMember (Member.mk x0.Birth x0.Joined t21.2 x0.Events) ((a0_0, c0_0), (a0_1, c0_1))))]) (by kernel_rfl) ?_
 refine JO_eqE (sl' := [(12, vi t29.1), (11, vi t21.1), (10, .v (.slice a0_1 t29.2.length c0_1)), (0, .v (vMember (Member.mk x0.Birth x0.Joined t21.2 t29.2) ((a0_0, c0_0), (a0_1, c0_1))))]) (bx' := [(52, (eMember (Member.mk x0.Birth x0.Joined t21.2 t29.2) ((a0_0, c0_0), (a0_1, c0_1))))]) (by simp only [eMember, vMember, hl36]) (by simp only [eMember, vMember, hl36]) ?_
 refine oN 1 [(1, vi t29.1)] [0] ?_
 refine oe (nt (qs (qr (oN 2 [(4, vi t29.1)] [0] ?_))))
 refine oe (nt (qe (rt [.int .i64 t29.1] (fun γ w hs => ?_))))
 rw [← sI h35]
 exact hs.turned (is := [1, 0]) rfl

theorem c_laws_markCase {W : World} {x0 : Case} {a0_0 : Option Addr} {c0_0 : Nat} {e0_0 : TypeId} {a0_1 : Option Addr} {c0_1 : Nat} {e0_1 : TypeId} {a0_2 : Option Addr} {c0_2 : Nat} {e0_2 : TypeId} {a0_3 : Option Addr} {c0_3 : Nat} {e0_3 : TypeId} {a0_4 : Option Addr} {c0_4 : Nat} {e0_4 : TypeId} {x1 : Int} {r : Int × (List Rule) × (List Fact) × (List Point) × (List Spell) × (List Event)} (h : laws_markCase x0 x1 = some r)  :
    GivesM Tryz.prog 23 #[vCase x0 ((a0_0, c0_0), (a0_1, c0_1), (a0_2, c0_2), (a0_3, c0_3), (a0_4, c0_4)), .int .i64 x1] W [SlRes e0_0 x0.Book.Rules a0_0 c0_0, SlRes e0_1 x0.Store.Facts a0_1 c0_1, SlRes e0_2 x0.Series.Points a0_2 c0_2, SlRes e0_3 x0.Member.Spells a0_3 c0_3, SlRes e0_4 x0.Member.Events a0_4 c0_4] [SlRes e0_0 r.2.1 a0_0 c0_0, SlRes e0_1 r.2.2.1 a0_1 c0_1, SlRes e0_2 r.2.2.2.1 a0_2 c0_2, SlRes e0_3 r.2.2.2.2.1 a0_3 c0_3, SlRes e0_4 r.2.2.2.2.2 a0_4 c0_4] (.int .i64 r.1) := by
 unfold laws_markCase at h
 refine enM Tryz.func23 Tryz.ntmps23 (fun Fs => ?_)
 refine qs (qr (oB 2 [(2, .p 0 0)] [0, 1] [(54, (eCase x0 ((a0_0, c0_0), (a0_1, c0_1), (a0_2, c0_2), (a0_3, c0_3), (a0_4, c0_4))))] ?_))
 refine oe (nt (qs (qr (oN 3 [(7, vi x1), (6, .v (vBook x0.Book (a0_0, c0_0)))] [2, 0] ?_))))
 obtain ⟨t21, h22, h23⟩ := bS h
 obtain ⟨u25, hu26, h27⟩ := bS h23
 have hl28 := (sameLen_some hu26).symm
 refine JO_callM rfl (by kernel_rfl) (f := 68) (args := #[vBook x0.Book (a0_0, c0_0), .int .i64 x1]) (by kernel_rfl) (x := .int .i64 t21.1) (Rin := [SlRes e0_0 x0.Book.Rules a0_0 c0_0]) (Rout := [SlRes e0_0 t21.2 a0_0 c0_0]) (Rr := [SlRes e0_1 x0.Store.Facts a0_1 c0_1, SlRes e0_2 x0.Series.Points a0_2 c0_2, SlRes e0_3 x0.Member.Spells a0_3 c0_3, SlRes e0_4 x0.Member.Events a0_4 c0_4]) rfl (fun w => (by have vv := c_laws_markBook (e0_0 := e0_0) (a0_0 := a0_0) (c0_0 := c0_0) (W := w) h22; exact vv)) (sl' := [(8, vi t21.1), (7, vi x1), (6, .v (vBook x0.Book (a0_0, c0_0))), (2, .p 0 0), (0, .v (vCase x0 ((a0_0, c0_0), (a0_1, c0_1), (a0_2, c0_2), (a0_3, c0_3), (a0_4, c0_4))))]) (by kernel_rfl) ?_
 refine JO_eqE (sl' := [(8, vi t21.1), (7, vi x1), (6, .v (vBook (Book.mk t21.2) (a0_0, c0_0))), (2, .p 0 0), (0, .v (vCase (Case.mk (Book.mk t21.2) x0.Store x0.Series x0.Member) ((a0_0, c0_0), (a0_1, c0_1), (a0_2, c0_2), (a0_3, c0_3), (a0_4, c0_4))))]) (bx' := [(54, (eCase (Case.mk (Book.mk t21.2) x0.Store x0.Series x0.Member) ((a0_0, c0_0), (a0_1, c0_1), (a0_2, c0_2), (a0_3, c0_3), (a0_4, c0_4))))]) (by simp only [eBook, eCase, vBook, vCase, hl28]) (by simp only [eCase, vCase, hl28]) ?_
 refine oN 1 [(1, vi t21.1)] [2, 0] ?_
 refine oe (nt (qs (qr (oN 3 [(11, vi t21.1), (10, .v (vStore x0.Store (a0_1, c0_1)))] [2, 0] ?_))))
 refine JO_res (R' := [SlRes e0_1 x0.Store.Facts a0_1 c0_1, SlRes e0_0 t21.2 a0_0 c0_0, SlRes e0_2 x0.Series.Points a0_2 c0_2, SlRes e0_3 x0.Member.Spells a0_3 c0_3, SlRes e0_4 x0.Member.Events a0_4 c0_4]) [1, 0, 0, 0, 0] (by kernel_rfl) ?_
 obtain ⟨t29, h30, h31⟩ := bS h27
 obtain ⟨u33, hu34, h35⟩ := bS h31
 have hl36 := (sameLen_some hu34).symm
 refine JO_callM rfl (by kernel_rfl) (f := 69) (args := #[vStore x0.Store (a0_1, c0_1), .int .i64 t21.1]) (by kernel_rfl) (x := .int .i64 t29.1) (Rin := [SlRes e0_1 x0.Store.Facts a0_1 c0_1]) (Rout := [SlRes e0_1 t29.2 a0_1 c0_1]) (Rr := [SlRes e0_0 t21.2 a0_0 c0_0, SlRes e0_2 x0.Series.Points a0_2 c0_2, SlRes e0_3 x0.Member.Spells a0_3 c0_3, SlRes e0_4 x0.Member.Events a0_4 c0_4]) rfl (fun w => (by have vv := c_laws_markStore (e0_0 := e0_1) (a0_0 := a0_1) (c0_0 := c0_1) (W := w) h30; exact vv)) (sl' := [(12, vi t29.1), (11, vi t21.1), (10, .v (vStore x0.Store (a0_1, c0_1))), (2, .p 0 0), (0, .v (vCase (Case.mk (Book.mk t21.2) x0.Store x0.Series x0.Member) ((a0_0, c0_0), (a0_1, c0_1), (a0_2, c0_2), (a0_3, c0_3), (a0_4, c0_4))))]) (by kernel_rfl) ?_
 refine JO_eqE (sl' := [(12, vi t29.1), (11, vi t21.1), (10, .v (vStore (Store.mk t29.2) (a0_1, c0_1))), (2, .p 0 0), (0, .v (vCase (Case.mk (Book.mk t21.2) (Store.mk t29.2) x0.Series x0.Member) ((a0_0, c0_0), (a0_1, c0_1), (a0_2, c0_2), (a0_3, c0_3), (a0_4, c0_4))))]) (bx' := [(54, (eCase (Case.mk (Book.mk t21.2) (Store.mk t29.2) x0.Series x0.Member) ((a0_0, c0_0), (a0_1, c0_1), (a0_2, c0_2), (a0_3, c0_3), (a0_4, c0_4))))]) (by simp only [eCase, eStore, vCase, vStore, hl36]) (by simp only [eCase, vCase, hl36]) ?_
 refine oN 1 [(1, vi t29.1)] [2, 0] ?_
 refine oe (nt (qs (qr (oN 3 [(15, vi t29.1), (14, .v (vSeries x0.Series (a0_2, c0_2)))] [2, 0] ?_))))
 refine JO_res (R' := [SlRes e0_2 x0.Series.Points a0_2 c0_2, SlRes e0_1 t29.2 a0_1 c0_1, SlRes e0_0 t21.2 a0_0 c0_0, SlRes e0_3 x0.Member.Spells a0_3 c0_3, SlRes e0_4 x0.Member.Events a0_4 c0_4]) [2, 0, 0, 0, 0] (by kernel_rfl) ?_
 obtain ⟨t37, h38, h39⟩ := bS h35
 obtain ⟨u41, hu42, h43⟩ := bS h39
 have hl44 := (sameLen_some hu42).symm
 refine JO_callM rfl (by kernel_rfl) (f := 70) (args := #[vSeries x0.Series (a0_2, c0_2), .int .i64 t29.1]) (by kernel_rfl) (x := .int .i64 t37.1) (Rin := [SlRes e0_2 x0.Series.Points a0_2 c0_2]) (Rout := [SlRes e0_2 t37.2 a0_2 c0_2]) (Rr := [SlRes e0_1 t29.2 a0_1 c0_1, SlRes e0_0 t21.2 a0_0 c0_0, SlRes e0_3 x0.Member.Spells a0_3 c0_3, SlRes e0_4 x0.Member.Events a0_4 c0_4]) rfl (fun w => (by have vv := c_laws_markSeries (e0_0 := e0_2) (a0_0 := a0_2) (c0_0 := c0_2) (W := w) h38; exact vv)) (sl' := [(16, vi t37.1), (15, vi t29.1), (14, .v (vSeries x0.Series (a0_2, c0_2))), (2, .p 0 0), (0, .v (vCase (Case.mk (Book.mk t21.2) (Store.mk t29.2) x0.Series x0.Member) ((a0_0, c0_0), (a0_1, c0_1), (a0_2, c0_2), (a0_3, c0_3), (a0_4, c0_4))))]) (by kernel_rfl) ?_
 refine JO_eqE (sl' := [(16, vi t37.1), (15, vi t29.1), (14, .v (.agg #[.slice a0_2 t37.2.length c0_2])), (2, .p 0 0), (0, .v (vCase (Case.mk (Book.mk t21.2) (Store.mk t29.2) (Series.mk t37.2) x0.Member) ((a0_0, c0_0), (a0_1, c0_1), (a0_2, c0_2), (a0_3, c0_3), (a0_4, c0_4))))]) (bx' := [(54, (eCase (Case.mk (Book.mk t21.2) (Store.mk t29.2) (Series.mk t37.2) x0.Member) ((a0_0, c0_0), (a0_1, c0_1), (a0_2, c0_2), (a0_3, c0_3), (a0_4, c0_4))))]) (by simp only [eCase, eSeries, vCase, vSeries, hl44]) (by simp only [eCase, vCase, hl44]) ?_
 refine oN 1 [(1, vi t37.1)] [2, 0] ?_
 refine oe (nt (qs (qr (oN 3 [(19, vi t37.1), (18, .v (vMember x0.Member ((a0_3, c0_3), (a0_4, c0_4))))] [0] ?_))))
 refine JO_res (R' := [SlRes e0_3 x0.Member.Spells a0_3 c0_3, SlRes e0_4 x0.Member.Events a0_4 c0_4, SlRes e0_2 t37.2 a0_2 c0_2, SlRes e0_1 t29.2 a0_1 c0_1, SlRes e0_0 t21.2 a0_0 c0_0]) [3, 3, 0, 0, 0] (by kernel_rfl) ?_
 obtain ⟨t45, h46, h47⟩ := bS h43
 obtain ⟨u49, hu50, h51⟩ := bS h47
 have hl52 := (sameLen_some hu50).symm
 obtain ⟨u53, hu54, h55⟩ := bS h51
 have hl56 := (sameLen_some hu54).symm
 refine JO_callM rfl (by kernel_rfl) (f := 71) (args := #[vMember x0.Member ((a0_3, c0_3), (a0_4, c0_4)), .int .i64 t37.1]) (by kernel_rfl) (x := .int .i64 t45.1) (Rin := [SlRes e0_3 x0.Member.Spells a0_3 c0_3, SlRes e0_4 x0.Member.Events a0_4 c0_4]) (Rout := [SlRes e0_3 t45.2.1 a0_3 c0_3, SlRes e0_4 t45.2.2 a0_4 c0_4]) (Rr := [SlRes e0_2 t37.2 a0_2 c0_2, SlRes e0_1 t29.2 a0_1 c0_1, SlRes e0_0 t21.2 a0_0 c0_0]) rfl (fun w => (by have vv := c_laws_markMember (e0_0 := e0_3) (a0_0 := a0_3) (c0_0 := c0_3) (e0_1 := e0_4) (a0_1 := a0_4) (c0_1 := c0_4) (W := w) h46; exact vv)) (sl' := [(20, vi t45.1), (19, vi t37.1), (18, .v (vMember x0.Member ((a0_3, c0_3), (a0_4, c0_4)))), (0, .v (vCase (Case.mk (Book.mk t21.2) (Store.mk t29.2) (Series.mk t37.2) x0.Member) ((a0_0, c0_0), (a0_1, c0_1), (a0_2, c0_2), (a0_3, c0_3), (a0_4, c0_4))))]) (by kernel_rfl) ?_
 refine JO_eqE (sl' := [(20, vi t45.1), (19, vi t37.1), (18, .v (vMember (Member.mk x0.Member.Birth x0.Member.Joined t45.2.1 t45.2.2) ((a0_3, c0_3), (a0_4, c0_4)))), (0, .v (vCase (Case.mk (Book.mk t21.2) (Store.mk t29.2) (Series.mk t37.2) (Member.mk x0.Member.Birth x0.Member.Joined t45.2.1 t45.2.2)) ((a0_0, c0_0), (a0_1, c0_1), (a0_2, c0_2), (a0_3, c0_3), (a0_4, c0_4))))]) (bx' := [(54, (eCase (Case.mk (Book.mk t21.2) (Store.mk t29.2) (Series.mk t37.2) (Member.mk x0.Member.Birth x0.Member.Joined t45.2.1 t45.2.2)) ((a0_0, c0_0), (a0_1, c0_1), (a0_2, c0_2), (a0_3, c0_3), (a0_4, c0_4))))]) (by simp only [eCase, eMember, vCase, vMember, hl52, hl56]) (by simp only [eCase, vCase, hl52, hl56]) ?_
 refine oN 1 [(1, vi t45.1)] [0] ?_
 refine oe (nt (qs (qr (oN 2 [(4, vi t45.1)] [0] ?_))))
 refine oe (nt (qe (rt [.int .i64 t45.1] (fun γ w hs => ?_))))
 rw [← sI h55]
 exact hs.turned (is := [4, 3, 2, 0, 0]) rfl

theorem c_laws_markIntS {W : World} {x0 : List Int} {a0_0 : Option Addr} {c0_0 : Nat} {e0_0 : TypeId} {x1 : Int} {r : Int × (List Int)} (h : laws_markIntS x0 x1 = some r)  :
    GivesM Tryz.prog 26 #[.slice a0_0 x0.length c0_0, .int .i64 x1] W [SlRes e0_0 x0 a0_0 c0_0] [SlRes e0_0 r.2 a0_0 c0_0] (.int .i64 r.1) := by
 unfold laws_markIntS at h
 refine enM Tryz.func26 Tryz.ntmps26 (fun Fs => ?_)
 refine qs (qr (oN 1 [] [0, 1] ?_))
 refine oe (nt (qs (qs (qr (oN 1 [(5, vi 0)] [0, 1] ?_)))))
 refine oe (nt ?_)
 obtain ⟨r24, hL25, h26⟩ := bS h
 obtain ⟨k27, hk28, h26⟩ := brkS h26
 refine JC_cutP (τ := ((List Int) × Int) × (Unit)) (fun y => k27 y.1 = some r) (fun y32 => [(0, .v (.slice a0_0 y32.1.1.length c0_0)), (1, vi y32.1.2)]) (fun y32 => []) (fun y32 => [SlRes e0_0 y32.1.1 a0_0 c0_0]) ?_ (fun y32 h33p => ?_)
 · refine qb (lp Unit hL25 (fun s21 y22 => [(5, vi s21.1), (0, .v (.slice a0_0 s21.2.1.length c0_0)), (1, vi s21.2.2)]) (fun s21 y22 => []) (fun s21 y22 => [SlRes e0_0 s21.2.1 a0_0 c0_0]) () [5, 0, 1] [0] 0 (fun s21 y22 t23 h29 hd30 => ?_))
   refine qs (qs (qr (oN 4 [(9, vb (decide (s21.1 < (s21.2.1.length : Int))))] [5, 0, 1] ?_)))
   refine oe (nt (cC h29 (fun h35 => ?_) (fun h36 => ?_)))
   · refine qk (nt (qs (qb (qs (qr (oN 3 [(14, vi s21.2.2), (13, vi s21.1), (12, .v (.slice a0_0 s21.2.1.length c0_0))] [5, 0, 1] ?_))))))
     obtain ⟨x37, hx38, h39⟩ := bS h35
     refine oi 1 (fun γ w hs => (hs.view 0 rfl)) hx38 ?_
     obtain ⟨l40, hm41, h42⟩ := bS h39
     replace hm41 := (sI hm41).symm
     refine JO_storeq (α := Int) (d := a0_0) (vs := [.int .i64 s21.2.2]) (j := s21.1) (x' := s21.2.2) rfl (by kernel_rfl) 0 (by kernel_rfl) hx38 (Rc := []) (Rr := []) rfl (by kernel_rfl) (fun w c F Fs ho _ _ => own_flat_set (by kernel_rfl) ho) hm41 rfl ?_
     have hl43 := len_set hm41
     refine JO_keep [14, 13, 12, 5, 0, 1] (sl' := [(14, vi s21.2.2), (13, vi s21.1), (12, .v (.slice a0_0 s21.2.1.length c0_0)), (5, vi s21.1), (0, .v (.slice a0_0 s21.2.1.length c0_0)), (1, vi s21.2.2)]) (by kernel_rfl) ?_
     refine JO_eqE (sl' := [(14, vi s21.2.2), (13, vi s21.1), (12, .v (.slice a0_0 l40.length c0_0)), (5, vi s21.1), (0, .v (.slice a0_0 l40.length c0_0)), (1, vi s21.2.2)]) (bx' := []) (by simp only [hl43]) rfl ?_
     refine oe (nt (qr (oN 3 [(1, vi (w64 (s21.2.2 + 1)))] [5, 0] ?_)))
     refine oe (bn (nt (qr (oN 3 [(5, vi (w64 (s21.1 + 1)))] [1, 0] ?_))))
     exact oe (ct h42 () [5, 0, 1] [0] 0)
   refine qx (nx (nx (bh ?_)))
   have h44 := leafB hd30 h36 h26
   exact mp ((s21.2.1, s21.2.2), ()) h44 [0, 1] [0] 0
 have h33 := (congrFun hk28 _).symm.trans h33p
 refine nt (qs (qr (oN 2 [(4, vi y32.1.2)] [0] ?_)))
 refine oe (nt (qe (rt [.int .i64 y32.1.2] (fun γ w hs => ?_))))
 rw [← sI h33]
 exact hs.turned (is := [0]) rfl

theorem c_laws_markOffice {W : World} {x0 : Office} {a0_0 : Option Addr} {c0_0 : Nat} {e0_0 : TypeId} {a0_1 : Option Addr} {c0_1 : Nat} {e0_1 : TypeId} {a0_2 : Option Addr} {c0_2 : Nat} {e0_2 : TypeId} {a0_3 : Option Addr} {c0_3 : Nat} {e0_3 : TypeId} {a0_4 : Option Addr} {c0_4 : Nat} {e0_4 : TypeId} {a0_5 : Option Addr} {c0_5 : Nat} {e0_5 : TypeId} {x1 : Int} {r : Int × (List Rule) × (List Fact) × (List Point) × (List Spell) × (List Event) × (List Int)} (h : laws_markOffice x0 x1 = some r)  :
    GivesM Tryz.prog 25 #[vOffice x0 ((a0_0, c0_0), (a0_1, c0_1), (a0_2, c0_2), (a0_3, c0_3), (a0_4, c0_4), (a0_5, c0_5)), .int .i64 x1] W [SlRes e0_0 x0.Case.Book.Rules a0_0 c0_0, SlRes e0_1 x0.Case.Store.Facts a0_1 c0_1, SlRes e0_2 x0.Case.Series.Points a0_2 c0_2, SlRes e0_3 x0.Case.Member.Spells a0_3 c0_3, SlRes e0_4 x0.Case.Member.Events a0_4 c0_4, SlRes e0_5 x0.Paid a0_5 c0_5] [SlRes e0_0 r.2.1 a0_0 c0_0, SlRes e0_1 r.2.2.1 a0_1 c0_1, SlRes e0_2 r.2.2.2.1 a0_2 c0_2, SlRes e0_3 r.2.2.2.2.1 a0_3 c0_3, SlRes e0_4 r.2.2.2.2.2.1 a0_4 c0_4, SlRes e0_5 r.2.2.2.2.2.2 a0_5 c0_5] (.int .i64 r.1) := by
 unfold laws_markOffice at h
 refine enM Tryz.func25 Tryz.ntmps25 (fun Fs => ?_)
 refine qs (qr (oB 2 [(2, .p 0 0)] [0, 1] [(57, (eOffice x0 ((a0_0, c0_0), (a0_1, c0_1), (a0_2, c0_2), (a0_3, c0_3), (a0_4, c0_4), (a0_5, c0_5))))] ?_))
 refine oe (nt (qs (qr (oN 3 [(7, vi x1), (6, .v (vCase x0.Case ((a0_0, c0_0), (a0_1, c0_1), (a0_2, c0_2), (a0_3, c0_3), (a0_4, c0_4))))] [2, 0] ?_))))
 obtain ⟨t21, h22, h23⟩ := bS h
 obtain ⟨u25, hu26, h27⟩ := bS h23
 have hl28 := (sameLen_some hu26).symm
 obtain ⟨u29, hu30, h31⟩ := bS h27
 have hl32 := (sameLen_some hu30).symm
 obtain ⟨u33, hu34, h35⟩ := bS h31
 have hl36 := (sameLen_some hu34).symm
 obtain ⟨u37, hu38, h39⟩ := bS h35
 have hl40 := (sameLen_some hu38).symm
 obtain ⟨u41, hu42, h43⟩ := bS h39
 have hl44 := (sameLen_some hu42).symm
 refine JO_callM rfl (by kernel_rfl) (f := 23) (args := #[vCase x0.Case ((a0_0, c0_0), (a0_1, c0_1), (a0_2, c0_2), (a0_3, c0_3), (a0_4, c0_4)), .int .i64 x1]) (by kernel_rfl) (x := .int .i64 t21.1) (Rin := [SlRes e0_0 x0.Case.Book.Rules a0_0 c0_0, SlRes e0_1 x0.Case.Store.Facts a0_1 c0_1, SlRes e0_2 x0.Case.Series.Points a0_2 c0_2, SlRes e0_3 x0.Case.Member.Spells a0_3 c0_3, SlRes e0_4 x0.Case.Member.Events a0_4 c0_4]) (Rout := [SlRes e0_0 t21.2.1 a0_0 c0_0, SlRes e0_1 t21.2.2.1 a0_1 c0_1, SlRes e0_2 t21.2.2.2.1 a0_2 c0_2, SlRes e0_3 t21.2.2.2.2.1 a0_3 c0_3, SlRes e0_4 t21.2.2.2.2.2 a0_4 c0_4]) (Rr := [SlRes e0_5 x0.Paid a0_5 c0_5]) rfl (fun w => (by have vv := c_laws_markCase (e0_0 := e0_0) (a0_0 := a0_0) (c0_0 := c0_0) (e0_1 := e0_1) (a0_1 := a0_1) (c0_1 := c0_1) (e0_2 := e0_2) (a0_2 := a0_2) (c0_2 := c0_2) (e0_3 := e0_3) (a0_3 := a0_3) (c0_3 := c0_3) (e0_4 := e0_4) (a0_4 := a0_4) (c0_4 := c0_4) (W := w) h22; exact vv)) (sl' := [(8, vi t21.1), (7, vi x1), (6, .v (vCase x0.Case ((a0_0, c0_0), (a0_1, c0_1), (a0_2, c0_2), (a0_3, c0_3), (a0_4, c0_4)))), (2, .p 0 0), (0, .v (vOffice x0 ((a0_0, c0_0), (a0_1, c0_1), (a0_2, c0_2), (a0_3, c0_3), (a0_4, c0_4), (a0_5, c0_5))))]) (by kernel_rfl) ?_
 refine JO_eqE (sl' := [(8, vi t21.1), (7, vi x1), (6, .v (vCase (Case.mk (Book.mk t21.2.1) (Store.mk t21.2.2.1) (Series.mk t21.2.2.2.1) (Member.mk x0.Case.Member.Birth x0.Case.Member.Joined t21.2.2.2.2.1 t21.2.2.2.2.2)) ((a0_0, c0_0), (a0_1, c0_1), (a0_2, c0_2), (a0_3, c0_3), (a0_4, c0_4)))), (2, .p 0 0), (0, .v (vOffice (Office.mk (Case.mk (Book.mk t21.2.1) (Store.mk t21.2.2.1) (Series.mk t21.2.2.2.1) (Member.mk x0.Case.Member.Birth x0.Case.Member.Joined t21.2.2.2.2.1 t21.2.2.2.2.2)) x0.Start x0.Paid) ((a0_0, c0_0), (a0_1, c0_1), (a0_2, c0_2), (a0_3, c0_3), (a0_4, c0_4), (a0_5, c0_5))))]) (bx' := [(57, (eOffice (Office.mk (Case.mk (Book.mk t21.2.1) (Store.mk t21.2.2.1) (Series.mk t21.2.2.2.1) (Member.mk x0.Case.Member.Birth x0.Case.Member.Joined t21.2.2.2.2.1 t21.2.2.2.2.2)) x0.Start x0.Paid) ((a0_0, c0_0), (a0_1, c0_1), (a0_2, c0_2), (a0_3, c0_3), (a0_4, c0_4), (a0_5, c0_5))))]) (by simp only [eCase, eOffice, vCase, vOffice, hl28, hl32, hl36, hl40, hl44]) (by simp only [eOffice, vOffice, hl28, hl32, hl36, hl40, hl44]) ?_
 refine oN 1 [(1, vi t21.1)] [2, 0] ?_
 refine oe (nt (qs (qr (oN 3 [(11, vi t21.1), (10, .v (.slice a0_5 x0.Paid.length c0_5))] [0] ?_))))
 refine JO_res (R' := [SlRes e0_5 x0.Paid a0_5 c0_5, SlRes e0_0 t21.2.1 a0_0 c0_0, SlRes e0_1 t21.2.2.1 a0_1 c0_1, SlRes e0_2 t21.2.2.2.1 a0_2 c0_2, SlRes e0_3 t21.2.2.2.2.1 a0_3 c0_3, SlRes e0_4 t21.2.2.2.2.2 a0_4 c0_4]) [5, 0, 0, 0, 0, 0] (by kernel_rfl) ?_
 obtain ⟨t45, h46, h47⟩ := bS h43
 obtain ⟨u49, hu50, h51⟩ := bS h47
 have hl52 := (sameLen_some hu50).symm
 refine JO_callM rfl (by kernel_rfl) (f := 26) (args := #[.slice a0_5 x0.Paid.length c0_5, .int .i64 t21.1]) (by kernel_rfl) (x := .int .i64 t45.1) (Rin := [SlRes e0_5 x0.Paid a0_5 c0_5]) (Rout := [SlRes e0_5 t45.2 a0_5 c0_5]) (Rr := [SlRes e0_0 t21.2.1 a0_0 c0_0, SlRes e0_1 t21.2.2.1 a0_1 c0_1, SlRes e0_2 t21.2.2.2.1 a0_2 c0_2, SlRes e0_3 t21.2.2.2.2.1 a0_3 c0_3, SlRes e0_4 t21.2.2.2.2.2 a0_4 c0_4]) rfl (fun w => (by have vv := c_laws_markIntS (e0_0 := e0_5) (a0_0 := a0_5) (c0_0 := c0_5) (W := w) h46; exact vv)) (sl' := [(12, vi t45.1), (11, vi t21.1), (10, .v (.slice a0_5 x0.Paid.length c0_5)), (0, .v (vOffice (Office.mk (Case.mk (Book.mk t21.2.1) (Store.mk t21.2.2.1) (Series.mk t21.2.2.2.1) (Member.mk x0.Case.Member.Birth x0.Case.Member.Joined t21.2.2.2.2.1 t21.2.2.2.2.2)) x0.Start x0.Paid) ((a0_0, c0_0), (a0_1, c0_1), (a0_2, c0_2), (a0_3, c0_3), (a0_4, c0_4), (a0_5, c0_5))))]) (by kernel_rfl) ?_
 refine JO_eqE (sl' := [(12, vi t45.1), (11, vi t21.1), (10, .v (.slice a0_5 t45.2.length c0_5)), (0, .v (vOffice (Office.mk (Case.mk (Book.mk t21.2.1) (Store.mk t21.2.2.1) (Series.mk t21.2.2.2.1) (Member.mk x0.Case.Member.Birth x0.Case.Member.Joined t21.2.2.2.2.1 t21.2.2.2.2.2)) x0.Start t45.2) ((a0_0, c0_0), (a0_1, c0_1), (a0_2, c0_2), (a0_3, c0_3), (a0_4, c0_4), (a0_5, c0_5))))]) (bx' := [(57, (eOffice (Office.mk (Case.mk (Book.mk t21.2.1) (Store.mk t21.2.2.1) (Series.mk t21.2.2.2.1) (Member.mk x0.Case.Member.Birth x0.Case.Member.Joined t21.2.2.2.2.1 t21.2.2.2.2.2)) x0.Start t45.2) ((a0_0, c0_0), (a0_1, c0_1), (a0_2, c0_2), (a0_3, c0_3), (a0_4, c0_4), (a0_5, c0_5))))]) (by simp only [eOffice, vOffice, hl52]) (by simp only [eOffice, vOffice, hl52]) ?_
 refine oN 1 [(1, vi t45.1)] [0] ?_
 refine oe (nt (qs (qr (oN 2 [(4, vi t45.1)] [0] ?_))))
 refine oe (nt (qe (rt [.int .i64 t45.1] (fun γ w hs => ?_))))
 rw [← sI h51]
 exact hs.turned (is := [1, 1, 1, 1, 1, 0]) rfl

theorem c_laws_markStatementS {W : World} {x0 : List Statement} {a0_0 : Option Addr} {c0_0 : Nat} {e0_0 : TypeId} {x1 : Int} {r : Int × (List Statement)} (h : laws_markStatementS x0 x1 = some r)  :
    GivesM Tryz.prog 53 #[.slice a0_0 x0.length c0_0, .int .i64 x1] W [SlRes e0_0 x0 a0_0 c0_0] [SlRes e0_0 r.2 a0_0 c0_0] (.int .i64 r.1) := by
 unfold laws_markStatementS at h
 refine enM Tryz.func53 Tryz.ntmps53 (fun Fs => ?_)
 refine qs (qr (oN 1 [] [0, 1] ?_))
 refine oe (nt (qs (qs (qr (oN 1 [(5, vi 0)] [0, 1] ?_)))))
 refine oe (nt ?_)
 obtain ⟨r24, hL25, h26⟩ := bS h
 obtain ⟨k27, hk28, h26⟩ := brkS h26
 refine JC_cutP (τ := ((List Statement) × Int) × (Unit)) (fun y => k27 y.1 = some r) (fun y32 => [(0, .v (.slice a0_0 y32.1.1.length c0_0)), (1, vi y32.1.2)]) (fun y32 => []) (fun y32 => [SlRes e0_0 y32.1.1 a0_0 c0_0]) ?_ (fun y32 h33p => ?_)
 · refine qb (lp Unit hL25 (fun s21 y22 => [(5, vi s21.1), (0, .v (.slice a0_0 s21.2.1.length c0_0)), (1, vi s21.2.2)]) (fun s21 y22 => []) (fun s21 y22 => [SlRes e0_0 s21.2.1 a0_0 c0_0]) () [5, 0, 1] [0] 0 (fun s21 y22 t23 h29 hd30 => ?_))
   refine qs (qs (qr (oN 4 [(9, vb (decide (s21.1 < (s21.2.1.length : Int))))] [5, 0, 1] ?_)))
   refine oe (nt (cC h29 (fun h35 => ?_) (fun h36 => ?_)))
   · refine qk (nt (qs (qb (qs (qr (oN 3 [(14, vi s21.2.2), (13, vi s21.1), (12, .v (.slice a0_0 s21.2.1.length c0_0))] [5, 0, 1] ?_))))))
     obtain ⟨x37, hx38, h39⟩ := bS h35
     refine oi 3 (fun γ w hs => (hs.view 0 rfl)) hx38 ?_
     refine oN 1 [(16, .q a0_0 (Int.toNat s21.1 * 3))] [14, 5, 0, 1] ?_
     obtain ⟨l40, hm41, h42⟩ := bS h39
     replace hm41 := (sI hm41).symm
     refine JO_storeq (α := Statement) (d := a0_0) (vs := [.int .i64 s21.2.2]) (j := s21.1) (x' := (Statement.mk s21.2.2 x37.Known x37.Cents)) rfl (by kernel_rfl) 0 (by kernel_rfl) hx38 (Rc := []) (Rr := []) rfl (by kernel_rfl) (fun w c F Fs ho _ _ => own_flat_set (by kernel_rfl) ho) hm41 rfl ?_
     have hl43 := len_set hm41
     refine JO_keep [14, 5, 0, 1] (sl' := [(14, vi s21.2.2), (5, vi s21.1), (0, .v (.slice a0_0 s21.2.1.length c0_0)), (1, vi s21.2.2)]) (by kernel_rfl) ?_
     refine JO_eqE (sl' := [(14, vi s21.2.2), (5, vi s21.1), (0, .v (.slice a0_0 l40.length c0_0)), (1, vi s21.2.2)]) (bx' := []) (by simp only [hl43]) rfl ?_
     refine oe (nt (qs (qr (oN 3 [(1, vi (w64 (s21.2.2 + 1)))] [5, 0] ?_))))
     refine oe (nt (qs (qr (oN 3 [(21, vi (w64 (s21.2.2 + 1))), (20, vi s21.1), (19, .v (.slice a0_0 l40.length c0_0))] [1, 5, 0] ?_))))
     obtain ⟨x44, hx45, h46⟩ := bS h42
     refine oi 3 (fun γ w hs => (hs.view 0 rfl)) hx45 ?_
     refine oN 1 [(23, .q a0_0 (Int.toNat s21.1 * 3 + 1))] [21, 1, 5, 0] ?_
     obtain ⟨l47, hm48, h49⟩ := bS h46
     replace hm48 := (sI hm48).symm
     refine JO_storeq (α := Statement) (d := a0_0) (vs := [.int .i64 (w64 (s21.2.2 + 1))]) (j := s21.1) (x' := (Statement.mk x44.Month (w64 (s21.2.2 + 1)) x44.Cents)) rfl (by kernel_rfl) 1 (by kernel_rfl) hx45 (Rc := []) (Rr := []) rfl (by kernel_rfl) (fun w c F Fs ho _ _ => own_flat_set (by kernel_rfl) ho) hm48 rfl ?_
     have hl50 := len_set hm48
     refine JO_keep [21, 1, 5, 0] (sl' := [(21, vi (w64 (s21.2.2 + 1))), (1, vi (w64 (s21.2.2 + 1))), (5, vi s21.1), (0, .v (.slice a0_0 l40.length c0_0))]) (by kernel_rfl) ?_
     refine JO_eqE (sl' := [(21, vi (w64 (s21.2.2 + 1))), (1, vi (w64 (s21.2.2 + 1))), (5, vi s21.1), (0, .v (.slice a0_0 l47.length c0_0))]) (bx' := []) (by simp only [hl50]) rfl ?_
     refine oe (nt (qs (qr (oN 3 [(1, vi (w64 ((w64 (s21.2.2 + 1)) + 1)))] [5, 0] ?_))))
     refine oe (nt (qs (qr (oN 3 [(28, vi (w64 ((w64 (s21.2.2 + 1)) + 1))), (27, vi s21.1), (26, .v (.slice a0_0 l47.length c0_0))] [1, 5, 0] ?_))))
     obtain ⟨x51, hx52, h53⟩ := bS h49
     refine oi 3 (fun γ w hs => (hs.view 0 rfl)) hx52 ?_
     refine oN 1 [(30, .q a0_0 (Int.toNat s21.1 * 3 + 2))] [28, 1, 5, 0] ?_
     obtain ⟨l54, hm55, h56⟩ := bS h53
     replace hm55 := (sI hm55).symm
     refine JO_storeq (α := Statement) (d := a0_0) (vs := [.int .i64 (w64 ((w64 (s21.2.2 + 1)) + 1))]) (j := s21.1) (x' := (Statement.mk x51.Month x51.Known (w64 ((w64 (s21.2.2 + 1)) + 1)))) rfl (by kernel_rfl) 2 (by kernel_rfl) hx52 (Rc := []) (Rr := []) rfl (by kernel_rfl) (fun w c F Fs ho _ _ => own_flat_set (by kernel_rfl) ho) hm55 rfl ?_
     have hl57 := len_set hm55
     refine JO_keep [28, 1, 5, 0] (sl' := [(28, vi (w64 ((w64 (s21.2.2 + 1)) + 1))), (1, vi (w64 ((w64 (s21.2.2 + 1)) + 1))), (5, vi s21.1), (0, .v (.slice a0_0 l47.length c0_0))]) (by kernel_rfl) ?_
     refine JO_eqE (sl' := [(28, vi (w64 ((w64 (s21.2.2 + 1)) + 1))), (1, vi (w64 ((w64 (s21.2.2 + 1)) + 1))), (5, vi s21.1), (0, .v (.slice a0_0 l54.length c0_0))]) (bx' := []) (by simp only [hl57]) rfl ?_
     refine oe (nt (qr (oN 3 [(1, vi (w64 ((w64 ((w64 (s21.2.2 + 1)) + 1)) + 1)))] [5, 0] ?_)))
     refine oe (bn (nt (qr (oN 3 [(5, vi (w64 (s21.1 + 1)))] [1, 0] ?_))))
     exact oe (ct h56 () [5, 0, 1] [0] 0)
   refine qx (nx (nx (bh ?_)))
   have h58 := leafB hd30 h36 h26
   exact mp ((s21.2.1, s21.2.2), ()) h58 [0, 1] [0] 0
 have h33 := (congrFun hk28 _).symm.trans h33p
 refine nt (qs (qr (oN 2 [(4, vi y32.1.2)] [0] ?_)))
 refine oe (nt (qe (rt [.int .i64 y32.1.2] (fun γ w hs => ?_))))
 rw [← sI h33]
 exact hs.turned (is := [0]) rfl

theorem c_laws_heldStatementS {W : World} {x0 : List Statement} {a0_0 : Option Addr} {c0_0 : Nat} {x1 : Int} {r : Int} (h : laws_heldStatementS x0 x1 = some r) (hv0_0 : SlView W x0 a0_0 c0_0) :
    Gives0 Tryz.prog 54 #[.slice a0_0 x0.length c0_0, .int .i64 x1] W (.int .i64 r) := by
 unfold laws_heldStatementS at h
 refine en Tryz.func54 Tryz.ntmps54 ?_
 refine qs (qr (oN 1 [] [0, 1] ?_))
 refine oe (nt (qs (qs (qr (oN 1 [(5, vi 0)] [0, 1] ?_)))))
 refine oe (nt ?_)
 obtain ⟨r24, hL25, h26⟩ := bS h
 obtain ⟨k27, hk28, h26⟩ := brkS h26
 refine JC_cutP (τ := (Int) × (Unit)) (fun y => k27 y.1 = some r) (fun y32 => [(1, vi y32.1)]) (fun y32 => []) (fun y32 => []) ?_ (fun y32 h33p => ?_)
 · refine qb (lp Unit hL25 (fun s21 y22 => [(5, vi s21.1), (0, .v (.slice a0_0 x0.length c0_0)), (1, vi s21.2)]) (fun s21 y22 => []) (fun s21 y22 => []) () [5, 0, 1] [] 0 (fun s21 y22 t23 h29 hd30 => ?_))
   refine qs (qs (qr (oN 4 [(9, vb (decide (s21.1 < (x0.length : Int))))] [5, 0, 1] ?_)))
   refine oe (nt (cC h29 (fun h35 => ?_) (fun h36 => ?_)))
   · refine qk (nt (qs (qb (qs (qs (qr (oN 2 [(13, vi s21.1), (12, .v (.slice a0_0 x0.length c0_0))] [5, 0, 1] ?_)))))))
     obtain ⟨x37, hx38, h39⟩ := bS h35
     refine oi 3 (fun γ w hs => (hv0_0.kept hs.kept)) hx38 ?_
     refine oN 1 [(15, .q a0_0 (Int.toNat s21.1 * 3))] [5, 0, 1] ?_
     refine ol 3 0 (.int .i64 x37.Month) (fun γ w hs => (hv0_0.kept hs.kept).flatq hx38) ?_
     refine oN 2 [(18, vb (x37.Month != s21.2))] [5, 0, 1] ?_
     refine oe (nt (cC h39 (fun h41 => ?_) (fun h42 => ?_)))
     · refine qs (qr (oN 1 [(4, vi (-1))] [] ?_))
       refine oe (nt (qe (nr (br (nr (nr ?_))))))
       have h43 := leafR hd30 h41 h26
       refine br (nr (nr ?_))
       obtain rfl := sI h43
       exact re [.int .i64 (-1)]
     refine qk (nt (qs (qr (oN 3 [(1, vi (w64 (s21.2 + 1)))] [5, 0] ?_))))
     refine oe (nt (qs (qs (qr (oN 2 [(22, vi s21.1), (21, .v (.slice a0_0 x0.length c0_0))] [1, 5, 0] ?_)))))
     obtain ⟨x44, hx45, h46⟩ := bS h42
     refine oi 3 (fun γ w hs => (hv0_0.kept hs.kept)) hx45 ?_
     refine oN 1 [(24, .q a0_0 (Int.toNat s21.1 * 3 + 1))] [1, 5, 0] ?_
     refine ol 3 1 (.int .i64 x44.Known) (fun γ w hs => (hv0_0.kept hs.kept).flatq hx45) ?_
     refine oN 2 [(27, vb (x44.Known != (w64 (s21.2 + 1))))] [1, 5, 0] ?_
     refine oe (nt (cC h46 (fun h48 => ?_) (fun h49 => ?_)))
     · refine qs (qr (oN 1 [(4, vi (-1))] [] ?_))
       refine oe (nt (qe (nr (br (nr (nr ?_))))))
       have h50 := leafR hd30 h48 h26
       refine br (nr (nr ?_))
       obtain rfl := sI h50
       exact re [.int .i64 (-1)]
     refine qk (nt (qs (qr (oN 3 [(1, vi (w64 ((w64 (s21.2 + 1)) + 1)))] [5, 0] ?_))))
     refine oe (nt (qs (qs (qr (oN 2 [(31, vi s21.1), (30, .v (.slice a0_0 x0.length c0_0))] [1, 5, 0] ?_)))))
     obtain ⟨x51, hx52, h53⟩ := bS h49
     refine oi 3 (fun γ w hs => (hv0_0.kept hs.kept)) hx52 ?_
     refine oN 1 [(33, .q a0_0 (Int.toNat s21.1 * 3 + 2))] [1, 5, 0] ?_
     refine ol 3 2 (.int .i64 x51.Cents) (fun γ w hs => (hv0_0.kept hs.kept).flatq hx52) ?_
     refine oN 2 [(36, vb (x51.Cents != (w64 ((w64 (s21.2 + 1)) + 1))))] [1, 5, 0] ?_
     refine oe (nt (cC h53 (fun h55 => ?_) (fun h56 => ?_)))
     · refine qs (qr (oN 1 [(4, vi (-1))] [] ?_))
       refine oe (nt (qe (nr (br (nr (nr ?_))))))
       have h57 := leafR hd30 h55 h26
       refine br (nr (nr ?_))
       obtain rfl := sI h57
       exact re [.int .i64 (-1)]
     refine qk (nt (qr (oN 3 [(1, vi (w64 ((w64 ((w64 (s21.2 + 1)) + 1)) + 1)))] [5, 0] ?_)))
     refine oe (bn (nt (qr (oN 3 [(5, vi (w64 (s21.1 + 1)))] [1, 0] ?_))))
     exact oe (ct h56 () [5, 0, 1] [] 0)
   refine qx (nx (nx (bh ?_)))
   have h58 := leafB hd30 h36 h26
   exact mp (s21.2, ()) h58 [1] [] 0
 have h33 := (congrFun hk28 _).symm.trans h33p
 refine nt (qs (qr (oN 2 [(4, vi y32.1)] [] ?_)))
 refine oe (nt (qe ?_))
 obtain rfl := sI h33
 exact re [.int .i64 y32.1]

theorem c_laws_FnExactStatementsOf {W : World} {x0 : Office} {b0 : AC × AC × AC × AC × AC × AC} {r : Bool} (h : laws_FnExactStatementsOf x0 = some r) (hv0_0 : SlView W x0.Case.Book.Rules b0.1.1 b0.1.2) (hv0_1 : SlView W x0.Case.Store.Facts b0.2.1.1 b0.2.1.2) (hv0_2 : SlView W x0.Case.Series.Points b0.2.2.1.1 b0.2.2.1.2) (hv0_3 : SlView W x0.Case.Member.Spells b0.2.2.2.1.1 b0.2.2.2.1.2) (hv0_4 : SlView W x0.Case.Member.Events b0.2.2.2.2.1.1 b0.2.2.2.2.1.2) (hv0_5 : SlView W x0.Paid b0.2.2.2.2.2.1 b0.2.2.2.2.2.2) :
    Gives0 Tryz.prog 12 #[vOffice x0 b0] W (.bool r) := by
 unfold laws_FnExactStatementsOf at h
 refine en Tryz.func12 Tryz.ntmps12 ?_
 refine qs (qr (oB 2 [(1, .p 0 0)] [] [(73, (eOffice x0 b0))] ?_))
 refine oe (nt (qs (qr (oN 1 [(3, vi 1048576)] [1] ?_))))
 refine oe (nt (qs (qr (oN 2 [(12, vi 1048576), (11, .v (vOffice x0 b0))] [1] ?_))))
 obtain ⟨t21, h22, h23⟩ := bS h
 refine k0 (fun γ w hs => c_laws_szOffice (b0 := b0) h22 (hv0_0.kept hs.kept) (hv0_1.kept hs.kept) (hv0_2.kept hs.kept) (hv0_3.kept hs.kept) (hv0_4.kept hs.kept) (hv0_5.kept hs.kept)) ?_
 refine oN 1 [(3, vi t21)] [1] ?_
 refine oe (nt (qs (qs (qr (oN 2 [(15, vb (decide (t21 < 0)))] [1] ?_)))))
 refine oe (nt (cC h23 (fun h26 => ?_) (fun h27 => ?_)))
 · refine qs (qr (oN 1 [(2, vb true)] [] ?_))
   refine oe (nt (qe (nr ?_)))
   obtain rfl := sI h26
   exact re [.bool true]
 refine qk (nt (qs (qr (oN 1 [(16, .v (vOffice x0 b0))] [1] ?_))))
 obtain ⟨t28, h29, h30⟩ := bS h27
 refine k1 (fun γ w hs => c_laws_toOffice (b0 := b0) h29 (hv0_0.kept hs.kept) (hv0_1.kept hs.kept) (hv0_2.kept hs.kept) (hv0_3.kept hs.kept) (hv0_4.kept hs.kept) (hv0_5.kept hs.kept)) (fun y31 => ?_)
 obtain ⟨t32, h33, h34⟩ := bS h30
 refine k1 (fun γ w hs => c_spec_StatementsOf (b0 := y31) h33 (hs.view 0 rfl) (hs.view 1 rfl) (hs.view 2 rfl) (hs.view 3 rfl) (hs.view 4 rfl) (hs.view 5 rfl)) (fun y35 => ?_)
 refine oN 1 [(4, .v (.slice y35.1 t32.length y35.2))] [1] ?_
 refine oe (nt (qs (qr (oN 1 [(19, .v (vOffice x0 b0))] [4, 1] ?_))))
 obtain ⟨t36, h37, h38⟩ := bS h34
 refine k1 (fun γ w hs => c_laws_toOffice (b0 := b0) h37 (hv0_0.kept hs.kept) (hv0_1.kept hs.kept) (hv0_2.kept hs.kept) (hv0_3.kept hs.kept) (hv0_4.kept hs.kept) (hv0_5.kept hs.kept)) (fun y39 => ?_)
 refine oB 2 [(5, .p 1 0)] [4, 1] [(73, (eOffice x0 b0)), (57, (eOffice t36 y39))] ?_
 refine oe (nt (qs (qr (oN 1 [(21, .v (vOffice t36 y39))] [5, 4, 1] ?_))))
 obtain ⟨t40, h41, h42⟩ := bS h38
 refine k1 (fun γ w hs => c_impl_StatementsOf (b0 := y39) h41 (hs.view 0 rfl) (hs.view 1 rfl) (hs.view 2 rfl) (hs.view 3 rfl) (hs.view 4 rfl) (hs.view 5 rfl)) (fun y43 => ?_)
 refine oN 1 [(6, .v (.slice y43.1 t40.length y43.2))] [5, 4, 1] ?_
 refine oe (nt (qs (qs (qr (oN 2 [(24, .v (.slice y35.1 t32.length y35.2)), (23, .v (.slice y43.1 t40.length y43.2))] [6, 5, 4, 1] ?_)))))
 obtain ⟨t44, h45, h46⟩ := bS h42
 refine k0 (fun γ w hs => c_laws_eqStatementS h45 (hs.view 0 rfl) (hs.view 7 rfl)) ?_
 refine oN 1 [(26, vb (!t44))] [6, 5, 4, 1] ?_
 refine oe (nt (cC h46 (fun h49 => ?_) (fun h50 => ?_)))
 · refine qs (qr (oN 1 [(2, vb false)] [] ?_))
   refine oe (nt (qe (nr ?_)))
   obtain rfl := sI h49
   exact re [.bool false]
 refine qk (nt (qs (qs ?_)))
 obtain ⟨t51, h52, h53⟩ := bS h50
 obtain ⟨t55, h56, h57⟩ := bS h53
 refine JC_cut (τ := Unit) (fun _ => [(31, vb (!t55)), (6, .v (.slice y43.1 t40.length y43.2)), (5, .p 1 0), (4, .v (.slice y35.1 t32.length y35.2)), (1, .p 0 0)]) (fun _ => [(73, (eOffice x0 b0)), (57, (eOffice t36 y39))]) (fun _ => [SlRes 140 t40 y43.1 y43.2, SlRes 188 t36.Case.Book.Rules y39.1.1 y39.1.2, SlRes 84 t36.Case.Store.Facts y39.2.1.1 y39.2.1.2, SlRes 85 t36.Case.Series.Points y39.2.2.1.1 y39.2.2.1.2, SlRes 191 t36.Case.Member.Spells y39.2.2.2.1.1 y39.2.2.2.1.2, SlRes 195 t36.Case.Member.Events y39.2.2.2.2.1.1 y39.2.2.2.2.1.2, SlRes 3 t36.Paid y39.2.2.2.2.2.1 y39.2.2.2.2.2.2, SlRes 140 t32 y35.1 y35.2, SlRes 188 t28.Case.Book.Rules y31.1.1 y31.1.2, SlRes 84 t28.Case.Store.Facts y31.2.1.1 y31.2.1.2, SlRes 85 t28.Case.Series.Points y31.2.2.1.1 y31.2.2.1.2, SlRes 191 t28.Case.Member.Spells y31.2.2.2.1.1 y31.2.2.2.1.2, SlRes 195 t28.Case.Member.Events y31.2.2.2.2.1.1 y31.2.2.2.2.1.2, SlRes 3 t28.Paid y31.2.2.2.2.2.1 y31.2.2.2.2.2.2]) ?_ (fun _ => ?_)
 · refine JC_weak [6, 5, 4, 1] [0, 0, 0, 0, 0, 0, 0, 0, 0, 0, 0, 0, 0, 0] 2 (sl' := [(6, .v (.slice y43.1 t40.length y43.2)), (5, .p 1 0), (4, .v (.slice y35.1 t32.length y35.2)), (1, .p 0 0)]) (bx' := [(73, (eOffice x0 b0)), (57, (eOffice t36 y39))]) (R' := [SlRes 140 t40 y43.1 y43.2, SlRes 188 t36.Case.Book.Rules y39.1.1 y39.1.2, SlRes 84 t36.Case.Store.Facts y39.2.1.1 y39.2.1.2, SlRes 85 t36.Case.Series.Points y39.2.2.1.1 y39.2.2.1.2, SlRes 191 t36.Case.Member.Spells y39.2.2.2.1.1 y39.2.2.2.1.2, SlRes 195 t36.Case.Member.Events y39.2.2.2.2.1.1 y39.2.2.2.2.1.2, SlRes 3 t36.Paid y39.2.2.2.2.2.1 y39.2.2.2.2.2.2, SlRes 140 t32 y35.1 y35.2, SlRes 188 t28.Case.Book.Rules y31.1.1 y31.1.2, SlRes 84 t28.Case.Store.Facts y31.2.1.1 y31.2.1.2, SlRes 85 t28.Case.Series.Points y31.2.2.1.1 y31.2.2.1.2, SlRes 191 t28.Case.Member.Spells y31.2.2.2.1.1 y31.2.2.2.1.2, SlRes 195 t28.Case.Member.Events y31.2.2.2.2.1.1 y31.2.2.2.2.1.2, SlRes 3 t28.Paid y31.2.2.2.2.2.1 y31.2.2.2.2.2.2]) (by kernel_rfl) (by kernel_rfl) (by kernel_rfl) (by kernel_rfl) ?_
   refine JC_heldN (ks := [0, 1]) (Rk := [SlRes 140 t40 y43.1 y43.2, SlRes 188 t36.Case.Book.Rules y39.1.1 y39.1.2, SlRes 84 t36.Case.Store.Facts y39.2.1.1 y39.2.1.2, SlRes 85 t36.Case.Series.Points y39.2.2.1.1 y39.2.2.1.2, SlRes 191 t36.Case.Member.Spells y39.2.2.2.1.1 y39.2.2.2.1.2, SlRes 195 t36.Case.Member.Events y39.2.2.2.2.1.1 y39.2.2.2.2.1.2, SlRes 3 t36.Paid y39.2.2.2.2.2.1 y39.2.2.2.2.2.2, SlRes 140 t32 y35.1 y35.2, SlRes 188 t28.Case.Book.Rules y31.1.1 y31.1.2, SlRes 84 t28.Case.Store.Facts y31.2.1.1 y31.2.1.2, SlRes 85 t28.Case.Series.Points y31.2.2.1.1 y31.2.2.1.2, SlRes 191 t28.Case.Member.Spells y31.2.2.2.1.1 y31.2.2.2.1.2, SlRes 195 t28.Case.Member.Events y31.2.2.2.2.1.1 y31.2.2.2.2.1.2, SlRes 3 t28.Paid y31.2.2.2.2.2.1 y31.2.2.2.2.2.2]) 5 (by kernel_rfl) (by kernel_rfl) ?_
   refine htq 0 (.v (vOffice t36 y39)) [0, 0, 0, 0, 0, 0, 0, 0, 0, 0, 0, 0, 0, 0] ?_
   refine htq 1 (.v (vOffice x0 b0)) [0, 0, 0, 0, 0, 0, 0, 0, 0, 0, 0, 0, 0, 0] ?_
   refine ha1 2 ?_
   refine hi (fun γ0 δ hm => ?_)
   refine g1 (fun w hs => c_laws_toOffice (b0 := b0) h52 (hv0_0.kept hs.kept) (hv0_1.kept hs.kept) (hv0_2.kept hs.kept) (hv0_3.kept hs.kept) (hv0_4.kept hs.kept) (hv0_5.kept hs.kept)) (fun y54 => ?_)
   refine gn hm [29, 27, 6, 5, 4, 1] [6, 6, 6, 6, 6, 6, 6, 6, 6, 6, 6, 6, 6, 6] ?_
   refine ha1 3 ?_
   refine hi (fun γ0 δ hm => ?_)
   refine g0 (fun w hs => c_laws_eqOffice (b0 := y39) (b1 := y54) h56 (hs.view 7 rfl) (hs.view 8 rfl) (hs.view 9 rfl) (hs.view 10 rfl) (hs.view 11 rfl) (hs.view 12 rfl) (hs.view 0 rfl) (hs.view 1 rfl) (hs.view 2 rfl) (hs.view 3 rfl) (hs.view 4 rfl) (hs.view 5 rfl)) ?_
   refine gn hm [30, 6, 5, 4, 1] [6, 6, 6, 6, 6, 6, 6, 6, 6, 6, 6, 6, 6, 6] ?_
   refine htq 4 (vb (!t55)) [6, 6, 6, 6, 6, 6, 6, 6, 6, 6, 6, 6, 6, 6] ?_
   refine hk [31, 6, 5, 4, 1] ?_
   exact hd () [31, 6, 5, 4, 1] [6, 6, 6, 6, 6, 6, 6, 6, 6, 6, 6, 6, 6, 6] 2
 refine nt (cC h57 (fun h61 => ?_) (fun h62 => ?_))
 · refine qs (qr (oN 1 [(2, vb false)] [] ?_))
   refine oe (nt (qe (nr ?_)))
   obtain rfl := sI h61
   exact re [.bool false]
 refine qk (nt (qs (qr (oN 1 [(7, vi 1)] [6, 5, 4, 1] ?_))))
 refine oe (nt (qs (qr (oN 2 [(33, vi 1), (32, .v (vOffice t36 y39))] [6, 4, 1] ?_))))
 refine JO_res (R' := [SlRes 188 t36.Case.Book.Rules y39.1.1 y39.1.2, SlRes 84 t36.Case.Store.Facts y39.2.1.1 y39.2.1.2, SlRes 85 t36.Case.Series.Points y39.2.2.1.1 y39.2.2.1.2, SlRes 191 t36.Case.Member.Spells y39.2.2.2.1.1 y39.2.2.2.1.2, SlRes 195 t36.Case.Member.Events y39.2.2.2.2.1.1 y39.2.2.2.2.1.2, SlRes 3 t36.Paid y39.2.2.2.2.2.1 y39.2.2.2.2.2.2, SlRes 140 t40 y43.1 y43.2, SlRes 140 t32 y35.1 y35.2, SlRes 188 t28.Case.Book.Rules y31.1.1 y31.1.2, SlRes 84 t28.Case.Store.Facts y31.2.1.1 y31.2.1.2, SlRes 85 t28.Case.Series.Points y31.2.2.1.1 y31.2.2.1.2, SlRes 191 t28.Case.Member.Spells y31.2.2.2.1.1 y31.2.2.2.1.2, SlRes 195 t28.Case.Member.Events y31.2.2.2.2.1.1 y31.2.2.2.2.1.2, SlRes 3 t28.Paid y31.2.2.2.2.2.1 y31.2.2.2.2.2.2]) [1, 1, 1, 1, 1, 1, 0, 0, 0, 0, 0, 0, 0, 0] (by kernel_rfl) ?_
 obtain ⟨t63, h64, h65⟩ := bS h62
 obtain ⟨u67, hu68, h69⟩ := bS h65
 have hl70 := (sameLen_some hu68).symm
 obtain ⟨u71, hu72, h73⟩ := bS h69
 have hl74 := (sameLen_some hu72).symm
 obtain ⟨u75, hu76, h77⟩ := bS h73
 have hl78 := (sameLen_some hu76).symm
 obtain ⟨u79, hu80, h81⟩ := bS h77
 have hl82 := (sameLen_some hu80).symm
 obtain ⟨u83, hu84, h85⟩ := bS h81
 have hl86 := (sameLen_some hu84).symm
 obtain ⟨u87, hu88, h89⟩ := bS h85
 have hl90 := (sameLen_some hu88).symm
 refine JO_callM rfl (by kernel_rfl) (f := 25) (args := #[vOffice t36 y39, .int .i64 1]) (by kernel_rfl) (x := .int .i64 t63.1) (Rin := [SlRes 188 t36.Case.Book.Rules y39.1.1 y39.1.2, SlRes 84 t36.Case.Store.Facts y39.2.1.1 y39.2.1.2, SlRes 85 t36.Case.Series.Points y39.2.2.1.1 y39.2.2.1.2, SlRes 191 t36.Case.Member.Spells y39.2.2.2.1.1 y39.2.2.2.1.2, SlRes 195 t36.Case.Member.Events y39.2.2.2.2.1.1 y39.2.2.2.2.1.2, SlRes 3 t36.Paid y39.2.2.2.2.2.1 y39.2.2.2.2.2.2]) (Rout := [SlRes 188 t63.2.1 y39.1.1 y39.1.2, SlRes 84 t63.2.2.1 y39.2.1.1 y39.2.1.2, SlRes 85 t63.2.2.2.1 y39.2.2.1.1 y39.2.2.1.2, SlRes 191 t63.2.2.2.2.1 y39.2.2.2.1.1 y39.2.2.2.1.2, SlRes 195 t63.2.2.2.2.2.1 y39.2.2.2.2.1.1 y39.2.2.2.2.1.2, SlRes 3 t63.2.2.2.2.2.2 y39.2.2.2.2.2.1 y39.2.2.2.2.2.2]) (Rr := [SlRes 140 t40 y43.1 y43.2, SlRes 140 t32 y35.1 y35.2, SlRes 188 t28.Case.Book.Rules y31.1.1 y31.1.2, SlRes 84 t28.Case.Store.Facts y31.2.1.1 y31.2.1.2, SlRes 85 t28.Case.Series.Points y31.2.2.1.1 y31.2.2.1.2, SlRes 191 t28.Case.Member.Spells y31.2.2.2.1.1 y31.2.2.2.1.2, SlRes 195 t28.Case.Member.Events y31.2.2.2.2.1.1 y31.2.2.2.2.1.2, SlRes 3 t28.Paid y31.2.2.2.2.2.1 y31.2.2.2.2.2.2]) rfl (fun w => (by have vv := c_laws_markOffice (e0_0 := 188) (a0_0 := y39.1.1) (c0_0 := y39.1.2) (e0_1 := 84) (a0_1 := y39.2.1.1) (c0_1 := y39.2.1.2) (e0_2 := 85) (a0_2 := y39.2.2.1.1) (c0_2 := y39.2.2.1.2) (e0_3 := 191) (a0_3 := y39.2.2.2.1.1) (c0_3 := y39.2.2.2.1.2) (e0_4 := 195) (a0_4 := y39.2.2.2.2.1.1) (c0_4 := y39.2.2.2.2.1.2) (e0_5 := 3) (a0_5 := y39.2.2.2.2.2.1) (c0_5 := y39.2.2.2.2.2.2) (W := w) h64; exact vv)) (sl' := [(34, vi t63.1), (33, vi 1), (32, .v (vOffice t36 y39)), (6, .v (.slice y43.1 t40.length y43.2)), (4, .v (.slice y35.1 t32.length y35.2)), (1, .p 0 0)]) (by kernel_rfl) ?_
 refine JO_eqE (sl' := [(34, vi t63.1), (33, vi 1), (32, .v (vOffice (Office.mk (Case.mk (Book.mk t63.2.1) (Store.mk t63.2.2.1) (Series.mk t63.2.2.2.1) (Member.mk t36.Case.Member.Birth t36.Case.Member.Joined t63.2.2.2.2.1 t63.2.2.2.2.2.1)) t36.Start t63.2.2.2.2.2.2) y39)), (6, .v (.slice y43.1 t40.length y43.2)), (4, .v (.slice y35.1 t32.length y35.2)), (1, .p 0 0)]) (bx' := [(73, (eOffice x0 b0)), (57, (eOffice (Office.mk (Case.mk (Book.mk t63.2.1) (Store.mk t63.2.2.1) (Series.mk t63.2.2.2.1) (Member.mk t36.Case.Member.Birth t36.Case.Member.Joined t63.2.2.2.2.1 t63.2.2.2.2.2.1)) t36.Start t63.2.2.2.2.2.2) y39))]) (by simp only [eOffice, vOffice, hl70, hl74, hl78, hl82, hl86, hl90]) (by simp only [eOffice, vOffice, hl70, hl74, hl78, hl82, hl86, hl90]) ?_
 refine oN 1 [(7, vi t63.1)] [6, 4, 1] ?_
 refine oe (nt (qs (qs ?_)))
 obtain ⟨p91, hE92, h93⟩ := bS h89
 refine JC_cut (τ := Unit) (fun _ => [(1, .p 0 0), (4, .v (.slice y35.1 t32.length y35.2)), (6, .v (.slice y43.1 t40.length y43.2)), (42, vb p91)]) (fun _ => [(73, (eOffice x0 b0)), (57, (eOffice (Office.mk (Case.mk (Book.mk t63.2.1) (Store.mk t63.2.2.1) (Series.mk t63.2.2.2.1) (Member.mk t36.Case.Member.Birth t36.Case.Member.Joined t63.2.2.2.2.1 t63.2.2.2.2.2.1)) t36.Start t63.2.2.2.2.2.2) y39))]) (fun _ => [SlRes 140 t32 y35.1 y35.2, SlRes 140 t40 y43.1 y43.2, SlRes 188 t63.2.1 y39.1.1 y39.1.2, SlRes 84 t63.2.2.1 y39.2.1.1 y39.2.1.2, SlRes 85 t63.2.2.2.1 y39.2.2.1.1 y39.2.2.1.2, SlRes 191 t63.2.2.2.2.1 y39.2.2.2.1.1 y39.2.2.2.1.2, SlRes 195 t63.2.2.2.2.2.1 y39.2.2.2.2.1.1 y39.2.2.2.2.1.2, SlRes 3 t63.2.2.2.2.2.2 y39.2.2.2.2.2.1 y39.2.2.2.2.2.2]) ?_ (fun _ => ?_)
 · refine qr (oN 3 [(37, vb (decide (t63.1 < 0)))] [6, 4, 1] ?_)
   refine oS 37 hE92 (fun h95 => ?_) (fun h96 => ?_)
   · refine oN 5 [(42, vb true)] [6, 4, 1] ?_
     refine oe ?_
     obtain rfl := sI h95
     exact mt () [1, 4, 6, 42] [7, 6, 0, 0, 0, 0, 0, 0] 2
   refine oN 2 [(39, .v (.slice y35.1 t32.length y35.2)), (38, .v (.slice y43.1 t40.length y43.2))] [37, 6, 4, 1] ?_
   obtain ⟨t97, h98, h99⟩ := bS h96
   refine k0 (fun γ w hs => c_laws_eqStatementS h98 (hs.view 6 rfl) (hs.view 7 rfl)) ?_
   refine oN 2 [(42, vb (!t97))] [6, 4, 1] ?_
   refine oe ?_
   obtain rfl := sI h99
   exact mt () [1, 4, 6, 42] [7, 6, 0, 0, 0, 0, 0, 0] 2
 refine nt (cC h93 (fun h102 => ?_) (fun h103 => ?_))
 · refine qs (qr (oN 1 [(2, vb false)] [] ?_))
   refine oe (nt (qe (nr ?_)))
   obtain rfl := sI h102
   exact re [.bool false]
 refine qk (nt (qs (qr (oN 1 [(8, vi 1)] [1, 4, 6] ?_))))
 refine oe (nt (qs (qr (oN 2 [(44, vi 1), (43, .v (.slice y43.1 t40.length y43.2))] [1, 4, 6] ?_))))
 refine JO_res (R' := [SlRes 140 t40 y43.1 y43.2, SlRes 140 t32 y35.1 y35.2, SlRes 188 t63.2.1 y39.1.1 y39.1.2, SlRes 84 t63.2.2.1 y39.2.1.1 y39.2.1.2, SlRes 85 t63.2.2.2.1 y39.2.2.1.1 y39.2.2.1.2, SlRes 191 t63.2.2.2.2.1 y39.2.2.2.1.1 y39.2.2.2.1.2, SlRes 195 t63.2.2.2.2.2.1 y39.2.2.2.2.1.1 y39.2.2.2.2.1.2, SlRes 3 t63.2.2.2.2.2.2 y39.2.2.2.2.2.1 y39.2.2.2.2.2.2]) [1, 0, 0, 0, 0, 0, 0, 0] (by kernel_rfl) ?_
 obtain ⟨t104, h105, h106⟩ := bS h103
 obtain ⟨u108, hu109, h110⟩ := bS h106
 have hl111 := (sameLen_some hu109).symm
 refine JO_callM rfl (by kernel_rfl) (f := 53) (args := #[.slice y43.1 t40.length y43.2, .int .i64 1]) (by kernel_rfl) (x := .int .i64 t104.1) (Rin := [SlRes 140 t40 y43.1 y43.2]) (Rout := [SlRes 140 t104.2 y43.1 y43.2]) (Rr := [SlRes 140 t32 y35.1 y35.2, SlRes 188 t63.2.1 y39.1.1 y39.1.2, SlRes 84 t63.2.2.1 y39.2.1.1 y39.2.1.2, SlRes 85 t63.2.2.2.1 y39.2.2.1.1 y39.2.2.1.2, SlRes 191 t63.2.2.2.2.1 y39.2.2.2.1.1 y39.2.2.2.1.2, SlRes 195 t63.2.2.2.2.2.1 y39.2.2.2.2.1.1 y39.2.2.2.2.1.2, SlRes 3 t63.2.2.2.2.2.2 y39.2.2.2.2.2.1 y39.2.2.2.2.2.2]) rfl (fun w => (by have vv := c_laws_markStatementS (e0_0 := 140) (a0_0 := y43.1) (c0_0 := y43.2) (W := w) h105; exact vv)) (sl' := [(45, vi t104.1), (44, vi 1), (43, .v (.slice y43.1 t40.length y43.2)), (1, .p 0 0), (4, .v (.slice y35.1 t32.length y35.2)), (6, .v (.slice y43.1 t40.length y43.2))]) (by kernel_rfl) ?_
 refine JO_eqE (sl' := [(45, vi t104.1), (44, vi 1), (43, .v (.slice y43.1 t104.2.length y43.2)), (1, .p 0 0), (4, .v (.slice y35.1 t32.length y35.2)), (6, .v (.slice y43.1 t104.2.length y43.2))]) (bx' := [(73, (eOffice x0 b0)), (57, (eOffice (Office.mk (Case.mk (Book.mk t63.2.1) (Store.mk t63.2.2.1) (Series.mk t63.2.2.2.1) (Member.mk t36.Case.Member.Birth t36.Case.Member.Joined t63.2.2.2.2.1 t63.2.2.2.2.2.1)) t36.Start t63.2.2.2.2.2.2) y39))]) (by simp only [hl111]) rfl ?_
 refine oN 1 [(8, vi t104.1)] [1, 4, 6] ?_
 refine oe (nt (qs (qr (oN 1 [(9, vi 1)] [8, 1, 4, 6] ?_))))
 refine oe (nt (qs (qr (oN 2 [(47, vi 1), (46, .v (.slice y43.1 t104.2.length y43.2))] [8, 1, 4, 6] ?_))))
 obtain ⟨t112, h113, h114⟩ := bS h110
 refine k0 (fun γ w hs => c_laws_heldStatementS h113 (hs.view 0 rfl)) ?_
 refine oN 1 [(9, vi t112)] [8, 1, 4, 6] ?_
 refine oe (nt (qs (qs (qr (oN 2 [(50, vb (decide (t112 < 0)))] [9, 8, 1, 4, 6] ?_)))))
 refine oe (nt (cC h114 (fun h117 => ?_) (fun h118 => ?_)))
 · refine qs (qr (oN 1 [(2, vb false)] [] ?_))
   refine oe (nt (qe (nr ?_)))
   obtain rfl := sI h117
   exact re [.bool false]
 refine qk (nt (qs (qs (qr (oN 3 [(53, vb (t112 != t104.1))] [8, 1, 4, 6] ?_)))))
 refine oe (nt (cC h118 (fun h120 => ?_) (fun h121 => ?_)))
 · refine qs (qr (oN 1 [(2, vb false)] [] ?_))
   refine oe (nt (qe (nr ?_)))
   obtain rfl := sI h120
   exact re [.bool false]
 refine qk (nt (qs (qr (oN 1 [(54, .v (vOffice x0 b0))] [8, 4, 6] ?_))))
 obtain ⟨t122, h123, h124⟩ := bS h121
 refine k1 (fun γ w hs => c_laws_toOffice (b0 := b0) h123 (hv0_0.kept hs.kept) (hv0_1.kept hs.kept) (hv0_2.kept hs.kept) (hv0_3.kept hs.kept) (hv0_4.kept hs.kept) (hv0_5.kept hs.kept)) (fun y125 => ?_)
 obtain ⟨t126, h127, h128⟩ := bS h124
 refine k1 (fun γ w hs => c_impl_StatementsOf (b0 := y125) h127 (hs.view 0 rfl) (hs.view 1 rfl) (hs.view 2 rfl) (hs.view 3 rfl) (hs.view 4 rfl) (hs.view 5 rfl)) (fun y129 => ?_)
 refine oN 1 [(10, .v (.slice y129.1 t126.length y129.2))] [8, 4, 6] ?_
 refine oe (nt (qs (qs (qr (oN 2 [(58, .v (.slice y35.1 t32.length y35.2)), (57, .v (.slice y129.1 t126.length y129.2))] [8, 6] ?_)))))
 obtain ⟨t130, h131, h132⟩ := bS h128
 refine k0 (fun γ w hs => c_laws_eqStatementS h131 (hs.view 0 rfl) (hs.view 8 rfl)) ?_
 refine oN 1 [(60, vb (!t130))] [8, 6] ?_
 refine oe (nt (cC h132 (fun h135 => ?_) (fun h136 => ?_)))
 · refine qs (qr (oN 1 [(2, vb false)] [] ?_))
   refine oe (nt (qe (nr ?_)))
   obtain rfl := sI h135
   exact re [.bool false]
 refine qk (nt (qs (qr (oN 1 [(9, vi 1)] [8, 6] ?_))))
 refine oe (nt (qs (qr (oN 2 [(62, vi 1), (61, .v (.slice y43.1 t104.2.length y43.2))] [8] ?_))))
 obtain ⟨t137, h138, h139⟩ := bS h136
 refine k0 (fun γ w hs => c_laws_heldStatementS h138 (hs.view 7 rfl)) ?_
 refine oN 1 [(9, vi t137)] [8] ?_
 refine oe (nt (qs (qs (qr (oN 2 [(65, vb (decide (t137 < 0)))] [9, 8] ?_)))))
 refine oe (nt (cC h139 (fun h142 => ?_) (fun h143 => ?_)))
 · refine qs (qr (oN 1 [(2, vb false)] [] ?_))
   refine oe (nt (qe (nr ?_)))
   obtain rfl := sI h142
   exact re [.bool false]
 refine qk (nt (qs (qs (qr (oN 3 [(68, vb (t137 != t104.1))] [] ?_)))))
 refine oe (nt (cC h143 (fun h145 => ?_) (fun h146 => ?_)))
 · refine qs (qr (oN 1 [(2, vb false)] [] ?_))
   refine oe (nt (qe (nr ?_)))
   obtain rfl := sI h145
   exact re [.bool false]
 refine qk (nt (qs (qr (oN 1 [(2, vb true)] [] ?_))))
 refine oe (nt (qe ?_))
 obtain rfl := sI h146
 exact re [.bool true]
end Go.Pen
