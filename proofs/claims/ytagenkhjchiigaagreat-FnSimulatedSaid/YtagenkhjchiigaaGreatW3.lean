/-
  Each Go function does what its plain function says: written by a program of ours.
-/
import Derived.Test.YtagenkhjchiigaaGreatW2
import Derived.Test.YtagenkhjchiigaaGreatProg
import Derived.Test.YtagenkhjchiigaaGreatPenK
import Derived.Test.YtagenkhjchiigaaGreatPenJ
import Derived.Test.YtagenkhjchiigaaGreatPenP
import Derived.Test.YtagenkhjchiigaaGreatPenQ
import Derived.Test.YtagenkhjchiigaaGreatPenU
namespace Go.Pen
open Go.Proofs Go.RowKit
set_option linter.unusedVariables false
set_option linter.unusedSimpArgs false
set_option maxRecDepth 100000
set_option maxHeartbeats 4000000

theorem c_slices_ContainsFunc_Frac__impl_EvalAll_1 {W : World} {x0 : List Frac} {a0_0 : Option Addr} {c0_0 : Nat} {r : Bool} (h : slices_ContainsFunc_Frac__impl_EvalAll_1 x0 = some r) (hv0_0 : SlView W x0 a0_0 c0_0) :
    Gives0 Tryz.prog 135 #[.slice a0_0 x0.length c0_0, .func (.func 203) #[] #[]] W (.bool r) := by
 unfold slices_ContainsFunc_Frac__impl_EvalAll_1 at h
 refine en Tryz.func135 Tryz.ntmps135 ?_
 refine qs (qr (oN 1 [] [0, 1] ?_))
 refine oe (nt (qs (qr (oN 2 [(6, .v (.func (.func 203) #[] #[])), (5, .v (.slice a0_0 x0.length c0_0))] [] ?_))))
 obtain ⟨t21, h22, h23⟩ := bS h
 refine k0 (fun γ w hs => c_slices_IndexFunc_Frac__impl_EvalAll_1 h22 (hv0_0.kept hs.kept)) ?_
 refine oN 2 [(4, vb (decide (t21 ≥ 0)))] [] ?_
 refine oe (nt (qe ?_))
 obtain rfl := sI h23
 exact re [.bool (decide (t21 ≥ 0))]

theorem c_cmp_isNaN_int {W : World} {x0 : Int} {r : Bool} (h : cmp_isNaN_int x0 = some r)  :
    Gives0 Tryz.prog 226 #[.int .i64 x0] W (.bool r) := by
 unfold cmp_isNaN_int at h
 refine en Tryz.func226 Tryz.ntmps226 ?_
 refine qs (qr (oN 1 [] [0] ?_))
 refine oe (nt (qs (qr (oN 4 [(2, vb (x0 != x0))] [] ?_))))
 refine oe (nt (qe ?_))
 obtain rfl := sI h
 exact re [.bool (x0 != x0)]

theorem c_cmp_Compare_int {W : World} {x0 : Int} {x1 : Int} {r : Int} (h : cmp_Compare_int x0 x1 = some r)  :
    Gives0 Tryz.prog 222 #[.int .i64 x0, .int .i64 x1] W (.int .i64 r) := by
 unfold cmp_Compare_int at h
 refine en Tryz.func222 Tryz.ntmps222 ?_
 refine qs (qr (oN 1 [] [0, 1] ?_))
 refine oe (nt (qs (qr (oN 1 [(7, vi x0)] [0, 1] ?_))))
 obtain ⟨t21, h22, h23⟩ := bS h
 refine k0 (fun γ w hs => c_cmp_isNaN_int h22) ?_
 refine oN 1 [(5, vb t21)] [0, 1] ?_
 refine oe (nt (qs (qr (oN 1 [(9, vi x1)] [5, 0, 1] ?_))))
 obtain ⟨t25, h26, h27⟩ := bS h23
 refine k0 (fun γ w hs => c_cmp_isNaN_int h26) ?_
 refine oN 1 [(6, vb t25)] [5, 0, 1] ?_
 refine oe (nt (qs (qs (qr (oN 1 [(11, vb t21)] [6, 0, 1] ?_)))))
 refine oe (nt (cC h27 (fun h33 => ?_) (fun h34 => ?_)))
 · refine qs (qs (qr (oN 1 [(12, vb t25)] [] ?_)))
   refine oe (nt (cC h33 (fun h36 => ?_) (fun h37 => ?_)))
   · refine qs (qr (oN 1 [(4, vi 0)] [] ?_))
     refine oe (nt (qe (nr (nr ?_))))
     obtain rfl := sI h36
     exact re [.int .i64 0]
   refine qk (nt (qs (qr (oN 1 [(4, vi (-1))] [] ?_))))
   refine oe (nt (qe (nr ?_)))
   obtain rfl := sI h37
   exact re [.int .i64 (-1)]
 refine qk (nt (qs (qs (qr (oN 1 [(13, vb t25)] [0, 1] ?_)))))
 refine oe (nt (cC h34 (fun h39 => ?_) (fun h40 => ?_)))
 · refine qs (qr (oN 1 [(4, vi 1)] [] ?_))
   refine oe (nt (qe (nr ?_)))
   obtain rfl := sI h39
   exact re [.int .i64 1]
 refine qk (nt (qs (qs (qr (oN 3 [(16, vb (decide (x0 < x1)))] [0, 1] ?_)))))
 refine oe (nt (cC h40 (fun h42 => ?_) (fun h43 => ?_)))
 · refine qs (qr (oN 1 [(4, vi (-1))] [] ?_))
   refine oe (nt (qe (nr ?_)))
   obtain rfl := sI h42
   exact re [.int .i64 (-1)]
 refine qk (nt (qs (qs (qr (oN 3 [(19, vb (decide (x0 > x1)))] [] ?_)))))
 refine oe (nt (cC h43 (fun h45 => ?_) (fun h46 => ?_)))
 · refine qs (qr (oN 1 [(4, vi 1)] [] ?_))
   refine oe (nt (qe (nr ?_)))
   obtain rfl := sI h45
   exact re [.int .i64 1]
 refine qk (nt (qs (qr (oN 1 [(4, vi 0)] [] ?_))))
 refine oe (nt (qe ?_))
 obtain rfl := sI h46
 exact re [.int .i64 0]

theorem c_impl_FracCmp {W : World} {x0 : Frac} {x1 : Frac} {r : Int} (h : impl_FracCmp x0 x1 = some r)  :
    Gives0 Tryz.prog 210 #[vFrac x0, vFrac x1] W (.int .i64 r) := by
 unfold impl_FracCmp at h
 refine en Tryz.func210 Tryz.ntmps210 ?_
 refine qs (qr (oB 3 [(3, .p 1 0), (2, .p 0 0)] [] [(133, (eFrac x0)), (133, (eFrac x1))] ?_))
 refine oe (nt (qs (qs ?_)))
 obtain ⟨p21, hE22, h23⟩ := bS h
 refine JC_cut (τ := Unit) (fun _ => [(2, .p 0 0), (3, .p 1 0), (12, vb p21)]) (fun _ => [(133, (eFrac x0)), (133, (eFrac x1))]) (fun _ => []) ?_ (fun _ => ?_)
 · refine qr (oN 1 [(5, .v (vFrac x0))] [3, 2] ?_)
   obtain ⟨t24, h25, h26⟩ := bS hE22
   refine k0 (fun γ w hs => c_impl_FracOk h25) ?_
   refine oN 2 [(8, vb (!t24))] [3, 2] ?_
   refine oS 8 h26 (fun h29 => ?_) (fun h30 => ?_)
   · refine oN 4 [(12, vb true)] [3, 2] ?_
     refine oe ?_
     obtain rfl := sI h29
     exact mt () [2, 3, 12] [] 2
   refine oN 1 [(9, .v (vFrac x1))] [8, 3, 2] ?_
   obtain ⟨t31, h32, h33⟩ := bS h30
   refine k0 (fun γ w hs => c_impl_FracOk h32) ?_
   refine oN 2 [(12, vb (!t31))] [3, 2] ?_
   refine oe ?_
   obtain rfl := sI h33
   exact mt () [2, 3, 12] [] 2
 refine nt (cC h23 (fun h36 => ?_) (fun h37 => ?_))
 · refine qs (qr (oN 1 [(4, vi 2)] [] ?_))
   refine oe (nt (qe (nr ?_)))
   obtain rfl := sI h36
   exact re [.int .i64 2]
 refine qk (nt (qs (qr (oN 10 [(22, vi (w64 (x1.Num * x0.Den))), (17, vi (w64 (x0.Num * x1.Den)))] [] ?_))))
 obtain ⟨t38, h39, h40⟩ := bS h37
 refine k0 (fun γ w hs => c_cmp_Compare_int h39) ?_
 refine oN 1 [(4, vi t38)] [] ?_
 refine oe (nt (qe ?_))
 obtain rfl := sI h40
 exact re [.int .i64 t38]

theorem c_impl_FracAdd {W : World} {x0 : Frac} {x1 : Frac} {r : Frac × Bool} (h : impl_FracAdd x0 x1 = some r)  :
    Gives0 Tryz.prog 211 #[vFrac x0, vFrac x1] W (.tuple #[vFrac r.1, .bool r.2]) := by
 unfold impl_FracAdd at h
 refine en Tryz.func211 Tryz.ntmps211 ?_
 refine qs (qr (oB 4 [(4, .p 2 0), (3, .p 1 0), (2, .p 0 0)] [] [(133, (eFrac x0)), (133, (eFrac x1)), (133, (eFrac (Frac.mk 0 0)))] ?_))
 refine oe (nt (qs (qs ?_)))
 obtain ⟨p21, hE22, h23⟩ := bS h
 refine JC_cut (τ := Unit) (fun _ => [(2, .p 0 0), (3, .p 1 0), (4, .p 2 0), (13, vb p21)]) (fun _ => [(133, (eFrac x0)), (133, (eFrac x1)), (133, (eFrac (Frac.mk 0 0)))]) (fun _ => []) ?_ (fun _ => ?_)
 · refine qr (oN 1 [(6, .v (vFrac x0))] [4, 3, 2] ?_)
   obtain ⟨t24, h25, h26⟩ := bS hE22
   refine k0 (fun γ w hs => c_impl_FracOk h25) ?_
   refine oN 2 [(9, vb (!t24))] [4, 3, 2] ?_
   refine oS 9 h26 (fun h29 => ?_) (fun h30 => ?_)
   · refine oN 4 [(13, vb true)] [4, 3, 2] ?_
     refine oe ?_
     obtain rfl := sI h29
     exact mt () [2, 3, 4, 13] [] 3
   refine oN 1 [(10, .v (vFrac x1))] [9, 4, 3, 2] ?_
   obtain ⟨t31, h32, h33⟩ := bS h30
   refine k0 (fun γ w hs => c_impl_FracOk h32) ?_
   refine oN 2 [(13, vb (!t31))] [4, 3, 2] ?_
   refine oe ?_
   obtain rfl := sI h33
   exact mt () [2, 3, 4, 13] [] 3
 refine nt (cC h23 (fun h36 => ?_) (fun h37 => ?_))
 · refine qs (qr (oN 3 [(5, vb false)] [4] ?_))
   refine oe (nt (qe (nr ?_)))
   obtain rfl := sI h36
   exact re [vFrac (Frac.mk 0 0), .bool false]
 refine qk (nt (qs (qr (oN 16 [(30, vi (w64 (x0.Den * x1.Den))), (25, vi (w64 ((w64 (x0.Num * x1.Den)) + (w64 (x1.Num * x0.Den)))))] [4] ?_))))
 obtain ⟨t38, h39, h40⟩ := bS h37
 refine k0 (fun γ w hs => c_impl_reduced h39) ?_
 refine oB 4 [(5, vb t38.2)] [4] [(133, (eFrac x0)), (133, (eFrac x1)), (133, (eFrac t38.1))] ?_
 refine oe (nt (qe ?_))
 obtain rfl := sI h40
 exact re [vFrac t38.1, .bool t38.2]

theorem c_impl_FracSub {W : World} {x0 : Frac} {x1 : Frac} {r : Frac × Bool} (h : impl_FracSub x0 x1 = some r)  :
    Gives0 Tryz.prog 212 #[vFrac x0, vFrac x1] W (.tuple #[vFrac r.1, .bool r.2]) := by
 unfold impl_FracSub at h
 refine en Tryz.func212 Tryz.ntmps212 ?_
 refine qs (qr (oB 4 [(4, .p 2 0), (3, .p 1 0), (2, .p 0 0)] [] [(133, (eFrac x0)), (133, (eFrac x1)), (133, (eFrac (Frac.mk 0 0)))] ?_))
 refine oe (nt (qs (qs ?_)))
 obtain ⟨p21, hE22, h23⟩ := bS h
 refine JC_cut (τ := Unit) (fun _ => [(2, .p 0 0), (3, .p 1 0), (4, .p 2 0), (13, vb p21)]) (fun _ => [(133, (eFrac x0)), (133, (eFrac x1)), (133, (eFrac (Frac.mk 0 0)))]) (fun _ => []) ?_ (fun _ => ?_)
 · refine qr (oN 1 [(6, .v (vFrac x0))] [4, 3, 2] ?_)
   obtain ⟨t24, h25, h26⟩ := bS hE22
   refine k0 (fun γ w hs => c_impl_FracOk h25) ?_
   refine oN 2 [(9, vb (!t24))] [4, 3, 2] ?_
   refine oS 9 h26 (fun h29 => ?_) (fun h30 => ?_)
   · refine oN 4 [(13, vb true)] [4, 3, 2] ?_
     refine oe ?_
     obtain rfl := sI h29
     exact mt () [2, 3, 4, 13] [] 3
   refine oN 1 [(10, .v (vFrac x1))] [9, 4, 3, 2] ?_
   obtain ⟨t31, h32, h33⟩ := bS h30
   refine k0 (fun γ w hs => c_impl_FracOk h32) ?_
   refine oN 2 [(13, vb (!t31))] [4, 3, 2] ?_
   refine oe ?_
   obtain rfl := sI h33
   exact mt () [2, 3, 4, 13] [] 3
 refine nt (cC h23 (fun h36 => ?_) (fun h37 => ?_))
 · refine qs (qr (oN 3 [(5, vb false)] [4] ?_))
   refine oe (nt (qe (nr ?_)))
   obtain rfl := sI h36
   exact re [vFrac (Frac.mk 0 0), .bool false]
 refine qk (nt (qs (qr (oN 16 [(30, vi (w64 (x0.Den * x1.Den))), (25, vi (w64 ((w64 (x0.Num * x1.Den)) - (w64 (x1.Num * x0.Den)))))] [4] ?_))))
 obtain ⟨t38, h39, h40⟩ := bS h37
 refine k0 (fun γ w hs => c_impl_reduced h39) ?_
 refine oB 4 [(5, vb t38.2)] [4] [(133, (eFrac x0)), (133, (eFrac x1)), (133, (eFrac t38.1))] ?_
 refine oe (nt (qe ?_))
 obtain rfl := sI h40
 exact re [vFrac t38.1, .bool t38.2]

theorem c_impl_areFactors {W : World} {x0 : Frac} {x1 : Frac} {r : Bool} (h : impl_areFactors x0 x1 = some r)  :
    Gives0 Tryz.prog 223 #[vFrac x0, vFrac x1] W (.bool r) := by
 unfold impl_areFactors at h
 refine en Tryz.func223 Tryz.ntmps223 ?_
 refine qs (qr (oB 3 [(3, .p 1 0), (2, .p 0 0)] [] [(133, (eFrac x0)), (133, (eFrac x1))] ?_))
 refine oe (nt (qs ?_))
 obtain ⟨p21, hE22, h23⟩ := bS h
 refine JC_cut (τ := Unit) (fun _ => [(4, vb p21)]) (fun _ => [(133, (eFrac x0)), (133, (eFrac x1))]) (fun _ => []) ?_ (fun _ => ?_)
 · refine qr (oN 1 [(5, .v (vFrac x0))] [3, 2] ?_)
   obtain ⟨t24, h25, h26⟩ := bS hE22
   refine k0 (fun γ w hs => c_impl_FracOk h25) ?_
   refine oN 1 [(7, vb t24)] [3, 2] ?_
   refine oS 7 h26 (fun h29 => ?_) (fun h30 => ?_)
   · refine oN 1 [(8, .v (vFrac x1))] [7, 3, 2] ?_
     obtain ⟨t31, h32, h33⟩ := bS h29
     refine k0 (fun γ w hs => c_impl_FracOk h32) ?_
     refine oN 2 [(11, vb t31)] [3, 2] ?_
     refine oS 11 h33 (fun h36 => ?_) (fun h37 => ?_)
     · refine oN 2 [(13, vi x0.Num)] [11, 3] ?_
       obtain ⟨t38, h39, h40⟩ := bS h36
       refine k0 (fun γ w hs => c_impl_within h39) ?_
       refine oN 2 [(16, vb t38)] [3] ?_
       refine oS 16 h40 (fun h43 => ?_) (fun h44 => ?_)
       · refine oN 2 [(18, vi x1.Num)] [16] ?_
         obtain ⟨t45, h46, h47⟩ := bS h43
         refine k0 (fun γ w hs => c_impl_within h46) ?_
         refine oN 2 [(4, vb t45)] [] ?_
         refine oe ?_
         obtain rfl := sI h47
         exact mt () [4] [] 2
       refine oN 5 [(4, vb false)] [] ?_
       refine oe ?_
       obtain rfl := sI h44
       exact mt () [4] [] 2
     refine oN 10 [(4, vb false)] [] ?_
     refine oe ?_
     obtain rfl := sI h37
     exact mt () [4] [] 2
   refine oN 14 [(4, vb false)] [] ?_
   refine oe ?_
   obtain rfl := sI h30
   exact mt () [4] [] 2
 refine nt (qe ?_)
 obtain rfl := sI h23
 exact re [.bool p21]

theorem c_impl_FracMul {W : World} {x0 : Frac} {x1 : Frac} {r : Frac × Bool} (h : impl_FracMul x0 x1 = some r)  :
    Gives0 Tryz.prog 213 #[vFrac x0, vFrac x1] W (.tuple #[vFrac r.1, .bool r.2]) := by
 unfold impl_FracMul at h
 refine en Tryz.func213 Tryz.ntmps213 ?_
 refine qs (qr (oB 4 [(4, .p 2 0), (3, .p 1 0), (2, .p 0 0)] [] [(133, (eFrac x0)), (133, (eFrac x1)), (133, (eFrac (Frac.mk 0 0)))] ?_))
 refine oe (nt (qs (qs (qr (oN 2 [(7, .v (vFrac x1)), (6, .v (vFrac x0))] [4, 3, 2] ?_)))))
 obtain ⟨t21, h22, h23⟩ := bS h
 refine k0 (fun γ w hs => c_impl_areFactors h22) ?_
 refine oN 1 [(9, vb (!t21))] [4, 3, 2] ?_
 refine oe (nt (cC h23 (fun h26 => ?_) (fun h27 => ?_)))
 · refine qs (qr (oN 3 [(5, vb false)] [4] ?_))
   refine oe (nt (qe (nr ?_)))
   obtain rfl := sI h26
   exact re [vFrac (Frac.mk 0 0), .bool false]
 refine qk (nt (qs (qr (oN 10 [(20, vi (w64 (x0.Den * x1.Den))), (15, vi (w64 (x0.Num * x1.Num)))] [4] ?_))))
 obtain ⟨t28, h29, h30⟩ := bS h27
 refine k0 (fun γ w hs => c_impl_reduced h29) ?_
 refine oB 4 [(5, vb t28.2)] [4] [(133, (eFrac x0)), (133, (eFrac x1)), (133, (eFrac t28.1))] ?_
 refine oe (nt (qe ?_))
 obtain rfl := sI h30
 exact re [vFrac t28.1, .bool t28.2]

theorem c_impl_FracDiv {W : World} {x0 : Frac} {x1 : Frac} {r : Frac × Bool} (h : impl_FracDiv x0 x1 = some r)  :
    Gives0 Tryz.prog 214 #[vFrac x0, vFrac x1] W (.tuple #[vFrac r.1, .bool r.2]) := by
 unfold impl_FracDiv at h
 refine en Tryz.func214 Tryz.ntmps214 ?_
 refine qs (qr (oB 4 [(4, .p 2 0), (3, .p 1 0), (2, .p 0 0)] [] [(133, (eFrac x0)), (133, (eFrac x1)), (133, (eFrac (Frac.mk 0 0)))] ?_))
 refine oe (nt (qs (qs ?_)))
 obtain ⟨p21, hE22, h23⟩ := bS h
 refine JC_cut (τ := Unit) (fun _ => [(2, .p 0 0), (3, .p 1 0), (4, .p 2 0), (14, vb p21)]) (fun _ => [(133, (eFrac x0)), (133, (eFrac x1)), (133, (eFrac (Frac.mk 0 0)))]) (fun _ => []) ?_ (fun _ => ?_)
 · refine qr (oN 2 [(7, .v (vFrac x1)), (6, .v (vFrac x0))] [4, 3, 2] ?_)
   obtain ⟨t24, h25, h26⟩ := bS hE22
   refine k0 (fun γ w hs => c_impl_areFactors h25) ?_
   refine oN 2 [(10, vb (!t24))] [4, 3, 2] ?_
   refine oS 10 h26 (fun h29 => ?_) (fun h30 => ?_)
   · refine oN 4 [(14, vb true)] [4, 3, 2] ?_
     refine oe ?_
     obtain rfl := sI h29
     exact mt () [2, 3, 4, 14] [] 3
   refine oN 4 [(14, vb (x1.Num == 0))] [4, 3, 2] ?_
   refine oe ?_
   obtain rfl := sI h30
   exact mt () [2, 3, 4, 14] [] 3
 refine nt (cC h23 (fun h32 => ?_) (fun h33 => ?_))
 · refine qs (qr (oN 3 [(5, vb false)] [4] ?_))
   refine oe (nt (qe (nr ?_)))
   obtain rfl := sI h32
   exact re [vFrac (Frac.mk 0 0), .bool false]
 refine qk (nt (qs (qr (oN 10 [(25, vi (w64 (x0.Den * x1.Num))), (20, vi (w64 (x0.Num * x1.Den)))] [4] ?_))))
 obtain ⟨t34, h35, h36⟩ := bS h33
 refine k0 (fun γ w hs => c_impl_reduced h35) ?_
 refine oB 4 [(5, vb t34.2)] [4] [(133, (eFrac x0)), (133, (eFrac x1)), (133, (eFrac t34.1))] ?_
 refine oe (nt (qe ?_))
 obtain rfl := sI h36
 exact re [vFrac t34.1, .bool t34.2]

theorem c_impl_evalNode {W : World} {x0 : Node} {x1 : List Frac} {a1_0 : Option Addr} {c1_0 : Nat} {x2 : List Frac} {a2_0 : Option Addr} {c2_0 : Nat} {r : Frac × Bool} (h : impl_evalNode x0 x1 x2 = some r) (hv1_0 : SlView W x1 a1_0 c1_0) (hv2_0 : SlView W x2 a2_0 c2_0) :
    Gives0 Tryz.prog 204 #[vNode x0, .slice a1_0 x1.length c1_0, .slice a2_0 x2.length c2_0] W (.tuple #[vFrac r.1, .bool r.2]) := by
 unfold impl_evalNode at h
 refine en Tryz.func204 Tryz.ntmps204 ?_
 refine qs (qr (oB 3 [(6, .p 1 0), (3, .p 0 0)] [1, 2] [(154, (eNode x0)), (133, (eFrac (Frac.mk 0 0)))] ?_))
 refine oe (nt (qs (qs (qr (oN 2 [(12, vi x0.Kind)] [6, 3, 1, 2] ?_)))))
 refine oe (nt (qb (qs (qr (oN 2 [(13, vb (x0.Kind == 1))] [12, 6, 3, 1, 2] ?_)))))
 refine oe (nt (cC h (fun h28 => ?_) (fun h29 => ?_)))
 · refine qs (qr (oB 4 [(7, vb true)] [6] [(154, (eNode x0)), (133, (eFrac x0.Value))] ?_))
   refine oe (nt (qe (br (nr ?_))))
   obtain rfl := sI h28
   exact re [vFrac x0.Value, .bool true]
 refine qs (qr (oN 2 [(17, vb (x0.Kind == 2))] [6, 3, 1, 2] ?_))
 refine oe (nt (cC h29 (fun h34 => ?_) (fun h35 => ?_)))
 · refine qs (qr (oN 3 [(21, vi x0.A), (19, .v (.slice a2_0 x2.length c2_0))] [6] ?_))
   obtain ⟨x36, hx37, h38⟩ := bS h34
   refine oi 2 (fun γ w hs => (hv2_0.kept hs.kept)) hx37 ?_
   refine ol 133 0 (vFrac x36) (fun γ w hs => (hv2_0.kept hs.kept).flatq hx37) ?_
   refine oB 2 [(7, vb true)] [6] [(154, (eNode x0)), (133, (eFrac x36))] ?_
   refine oe (nt (qe (br (nr ?_))))
   obtain rfl := sI h38
   exact re [vFrac x36, .bool true]
 refine qk (bn (nt (qs ?_)))
 obtain ⟨x39, hx40, h41⟩ := bS h35
 obtain ⟨x42, hx43, h44⟩ := bS h41
 refine JC_cut (τ := Unit) (fun _ => [(9, .p 3 0), (8, .p 2 0), (6, .p 1 0), (3, .p 0 0), (1, .v (.slice a1_0 x1.length c1_0))]) (fun _ => [(154, (eNode x0)), (133, (eFrac (Frac.mk 0 0))), (133, (eFrac x39)), (133, (eFrac x42))]) (fun _ => []) ?_ (fun _ => ?_)
 · refine jw [6, 3, 1] [] ?_
   refine JC_heldN (ks := [0, 1]) (Rk := []) 14 (by kernel_rfl) (by kernel_rfl) ?_
   refine htq 0 (.v (.slice a1_0 x1.length c1_0)) [] ?_
   refine htq 1 (.p 0 1) [] ?_
   refine htq 2 (vi x0.A) [] ?_
   refine hk [26, 24, 6, 3, 1] ?_
   refine ht 3 (.q a1_0 (Int.toNat x0.A * 2)) [] (index_held (d := a1_0) (m := x1.length) (j := x0.A) (s := 2) (by kernel_rfl) (fun γ0 w hs => (hv1_0.kept hs.kept)) rfl hx40) ?_
   refine hk [27, 6, 3, 1] ?_
   refine ht 4 (.v (vFrac x39)) [] (loadq_held (t := 133) (d := a1_0) (Int.toNat x0.A * 2) 0 (by kernel_rfl) (cs := (eFrac x39)) (v := vFrac x39) (fun γ0 w hs => (hv1_0.kept hs.kept).flatq hx40) (by kernel_rfl)) ?_
   refine hk [28, 6, 3, 1] ?_
   refine htq 5 (.v (.slice a1_0 x1.length c1_0)) [] ?_
   refine htq 6 (.p 0 2) [] ?_
   refine htq 7 (vi x0.B) [] ?_
   refine hk [31, 29, 28, 6, 3, 1] ?_
   refine ht 8 (.q a1_0 (Int.toNat x0.B * 2)) [] (index_held (d := a1_0) (m := x1.length) (j := x0.B) (s := 2) (by kernel_rfl) (fun γ0 w hs => (hv1_0.kept hs.kept)) rfl hx43) ?_
   refine hk [32, 28, 6, 3, 1] ?_
   refine ht 9 (.v (vFrac x42)) [] (loadq_held (t := 133) (d := a1_0) (Int.toNat x0.B * 2) 0 (by kernel_rfl) (cs := (eFrac x42)) (v := vFrac x42) (fun γ0 w hs => (hv1_0.kept hs.kept).flatq hx43) (by kernel_rfl)) ?_
   refine hk [33, 28, 6, 3, 1] ?_
   refine ha2 10 11 ?_ ?_
   · refine hi (fun γ0 δ hm => ?_)
     refine gs [(8, .p 2 0), (33, .v (vFrac x42)), (28, .v (vFrac x39)), (6, .p 1 0), (3, .p 0 0), (1, .v (.slice a1_0 x1.length c1_0))] [(154, (eNode x0)), (133, (eFrac (Frac.mk 0 0))), (133, (eFrac (Frac.mk 0 0)))] (fun δ2 => ?_)
     refine gd hm [8, 33, 28, 6, 3, 1] [] ?_
     refine ha1 11 ?_
     refine hi (fun γ0 δ hm => ?_)
     refine gs [(9, .p 3 0), (8, .p 2 0), (33, .v (vFrac x42)), (28, .v (vFrac x39)), (6, .p 1 0), (3, .p 0 0), (1, .v (.slice a1_0 x1.length c1_0))] [(154, (eNode x0)), (133, (eFrac (Frac.mk 0 0))), (133, (eFrac (Frac.mk 0 0))), (133, (eFrac (Frac.mk 0 0)))] (fun δ2 => ?_)
     refine gd hm [9, 8, 33, 28, 6, 3, 1] [] ?_
     refine ha1 12 ?_
     refine hi (fun γ0 δ hm => ?_)
     refine gs [(9, .p 3 0), (8, .p 2 0), (33, .v (vFrac x42)), (28, .v (vFrac x39)), (6, .p 1 0), (3, .p 0 0), (1, .v (.slice a1_0 x1.length c1_0))] [(154, (eNode x0)), (133, (eFrac (Frac.mk 0 0))), (133, (eFrac x39)), (133, (eFrac (Frac.mk 0 0)))] (fun δ2 => ?_)
     refine gd hm [9, 8, 33, 6, 3, 1] [] ?_
     refine ha1 13 ?_
     refine hi (fun γ0 δ hm => ?_)
     refine gs [(9, .p 3 0), (8, .p 2 0), (33, .v (vFrac x42)), (6, .p 1 0), (3, .p 0 0), (1, .v (.slice a1_0 x1.length c1_0))] [(154, (eNode x0)), (133, (eFrac (Frac.mk 0 0))), (133, (eFrac x39)), (133, (eFrac x42))] (fun δ2 => ?_)
     refine gd hm [9, 8, 6, 3, 1] [] ?_
     exact hd () [9, 8, 6, 3, 1] [] 4
   · refine hi (fun γ0 δ hm => ?_)
     refine gs [(9, .p 2 0), (33, .v (vFrac x42)), (28, .v (vFrac x39)), (6, .p 1 0), (3, .p 0 0), (1, .v (.slice a1_0 x1.length c1_0))] [(154, (eNode x0)), (133, (eFrac (Frac.mk 0 0))), (133, (eFrac (Frac.mk 0 0)))] (fun δ2 => ?_)
     refine gd hm [9, 33, 28, 6, 3, 1] [] ?_
     refine ha1 10 ?_
     refine hi (fun γ0 δ hm => ?_)
     refine gs [(8, .p 3 0), (9, .p 2 0), (33, .v (vFrac x42)), (28, .v (vFrac x39)), (6, .p 1 0), (3, .p 0 0), (1, .v (.slice a1_0 x1.length c1_0))] [(154, (eNode x0)), (133, (eFrac (Frac.mk 0 0))), (133, (eFrac (Frac.mk 0 0))), (133, (eFrac (Frac.mk 0 0)))] (fun δ2 => ?_)
     refine gd hm [8, 9, 33, 28, 6, 3, 1] [] ?_
     refine ha1 12 ?_
     refine hi (fun γ0 δ hm => ?_)
     refine gs [(8, .p 3 0), (9, .p 2 0), (33, .v (vFrac x42)), (28, .v (vFrac x39)), (6, .p 1 0), (3, .p 0 0), (1, .v (.slice a1_0 x1.length c1_0))] [(154, (eNode x0)), (133, (eFrac (Frac.mk 0 0))), (133, (eFrac (Frac.mk 0 0))), (133, (eFrac x39))] (fun δ2 => ?_)
     refine gd hm [8, 9, 33, 6, 3, 1] [] ?_
     refine ha1 13 ?_
     refine hi (fun γ0 δ hm => ?_)
     refine gs [(8, .p 3 0), (9, .p 2 0), (33, .v (vFrac x42)), (6, .p 1 0), (3, .p 0 0), (1, .v (.slice a1_0 x1.length c1_0))] [(154, (eNode x0)), (133, (eFrac (Frac.mk 0 0))), (133, (eFrac x42)), (133, (eFrac x39))] (fun δ2 => ?_)
     refine gd hm [8, 9, 6, 3, 1] [] ?_
     exact JH_doneP (by kernel_rfl) () [9, 8, 6, 3, 1] [] 4 [0, 1, 3, 2] [0, 1, 3, 2] (by kernel_rfl) (by kernel_rfl) (by kernel_rfl) (by kernel_rfl) (by kernel_rfl)
 refine nt (qs (qr (oN 2 [(35, .v (vFrac x42)), (34, .v (vFrac x39))] [9, 8, 6, 3, 1] ?_)))
 obtain ⟨t46, h47, h48⟩ := bS h44
 refine k0 (fun γ w hs => c_impl_FracCmp h47) ?_
 refine oN 2 [(10, vb (decide (t46 ≤ 0)))] [9, 8, 6, 3, 1] ?_
 refine oe (nt (qs (qs (qr (oN 2 [(39, vi x0.Kind)] [10, 9, 8, 6, 3, 1] ?_)))))
 refine oe (nt (qb (qs (qr (oN 2 [(40, vb (x0.Kind == 3))] [39, 10, 9, 8, 6, 3, 1] ?_)))))
 refine oe (nt ?_)
 obtain ⟨k94, hk95, h103⟩ := jS h48
 refine JC_cutP (τ := (Unit) × (Unit)) (fun y => k94 y.1 = some r) (fun y93 => [(9, .p 3 0), (8, .p 2 0), (6, .p 1 0), (3, .p 0 0), (1, .v (.slice a1_0 x1.length c1_0))]) (fun y93 => [(154, (eNode x0)), (133, (eFrac (Frac.mk 0 0))), (133, (eFrac x39)), (133, (eFrac x42))]) (fun y93 => []) ?_ (fun y93 h96p => ?_)
 · refine cC h103 (fun h105 => ?_) (fun h106 => ?_)
   · refine qs (qr (oN 2 [(43, .v (vFrac x42)), (42, .v (vFrac x39))] [6] ?_))
     obtain ⟨t107, h108, h109⟩ := bS h105
     refine k0 (fun γ w hs => c_impl_FracAdd h108) ?_
     refine oB 4 [(7, vb t107.2)] [6] [(154, (eNode x0)), (133, (eFrac t107.1)), (133, (eFrac x39)), (133, (eFrac x42))] ?_
     refine oe (nt (qe (nr (br (nr ?_)))))
     obtain rfl := sI h109
     exact re [vFrac t107.1, .bool t107.2]
   refine qs (qr (oN 2 [(47, vb (x0.Kind == 4))] [39, 10, 9, 8, 6, 3, 1] ?_))
   refine oe (nt (cC h106 (fun h112 => ?_) (fun h113 => ?_)))
   · refine qs (qr (oN 2 [(50, .v (vFrac x42)), (49, .v (vFrac x39))] [6] ?_))
     obtain ⟨t114, h115, h116⟩ := bS h112
     refine k0 (fun γ w hs => c_impl_FracSub h115) ?_
     refine oB 4 [(7, vb t114.2)] [6] [(154, (eNode x0)), (133, (eFrac t114.1)), (133, (eFrac x39)), (133, (eFrac x42))] ?_
     refine oe (nt (qe (nr (br (nr ?_)))))
     obtain rfl := sI h116
     exact re [vFrac t114.1, .bool t114.2]
   refine qs (qr (oN 2 [(54, vb (x0.Kind == 5))] [39, 10, 9, 8, 6, 3, 1] ?_))
   refine oe (nt (cC h113 (fun h119 => ?_) (fun h120 => ?_)))
   · refine qs (qr (oN 2 [(57, .v (vFrac x42)), (56, .v (vFrac x39))] [6] ?_))
     obtain ⟨t121, h122, h123⟩ := bS h119
     refine k0 (fun γ w hs => c_impl_FracMul h122) ?_
     refine oB 4 [(7, vb t121.2)] [6] [(154, (eNode x0)), (133, (eFrac t121.1)), (133, (eFrac x39)), (133, (eFrac x42))] ?_
     refine oe (nt (qe (nr (br (nr ?_)))))
     obtain rfl := sI h123
     exact re [vFrac t121.1, .bool t121.2]
   refine qs (qr (oN 2 [(61, vb (x0.Kind == 6))] [39, 10, 9, 8, 6, 3, 1] ?_))
   refine oe (nt (cC h120 (fun h126 => ?_) (fun h127 => ?_)))
   · refine qs (qr (oN 2 [(64, .v (vFrac x42)), (63, .v (vFrac x39))] [6] ?_))
     obtain ⟨t128, h129, h130⟩ := bS h126
     refine k0 (fun γ w hs => c_impl_FracDiv h129) ?_
     refine oB 4 [(7, vb t128.2)] [6] [(154, (eNode x0)), (133, (eFrac t128.1)), (133, (eFrac x39)), (133, (eFrac x42))] ?_
     refine oe (nt (qe (nr (br (nr ?_)))))
     obtain rfl := sI h130
     exact re [vFrac t128.1, .bool t128.2]
   refine qs (qs (qr (oN 2 [(68, vb (x0.Kind == 7))] [39, 10, 9, 8, 6, 3, 1] ?_)))
   refine oe (nt ?_)
   obtain ⟨k135, hk136, h144⟩ := jS h127
   refine JC_cutP (τ := (Bool) × (Unit)) (fun y => k135 y.1 = some r) (fun y134 => [(68, vb y134.1), (10, vb (decide (t46 ≤ 0))), (9, .p 3 0), (8, .p 2 0), (6, .p 1 0), (3, .p 0 0), (1, .v (.slice a1_0 x1.length c1_0))]) (fun y134 => [(154, (eNode x0)), (133, (eFrac (Frac.mk 0 0))), (133, (eFrac x39)), (133, (eFrac x42))]) (fun y134 => []) ?_ (fun y134 h137p => ?_)
   · refine cC h144 (fun h146 => ?_) (fun h147 => ?_)
     · exact qk (mp (x0.Kind == 7, ()) h146 [68, 10, 9, 8, 6, 3, 1] [] 4)
     refine qr (oN 2 [(68, vb (x0.Kind == 8))] [10, 9, 8, 6, 3, 1] ?_)
     exact oe (mp (x0.Kind == 8, ()) h147 [68, 10, 9, 8, 6, 3, 1] [] 4)
   have h137 := (congrFun hk136 _).symm.trans h137p
   refine nt (cC h137 (fun h139 => ?_) (fun h140 => ?_))
   · refine qs (qs (qr (oN 5 [(75, vb ((decide (t46 ≤ 0)) == (x0.Kind == 7)))] [9, 8, 6] ?_)))
     refine oe (nt (cC h139 (fun h142 => ?_) (fun h143 => ?_)))
     · refine qs (qr (oB 3 [(7, vb true)] [6] [(154, (eNode x0)), (133, (eFrac x39)), (133, (eFrac x39)), (133, (eFrac x42))] ?_))
       refine oe (nt (qe (nr (nr (br (nr ?_))))))
       obtain rfl := sI h142
       exact re [vFrac x39, .bool true]
     refine qk (nt (qs (qr (oB 3 [(7, vb true)] [6] [(154, (eNode x0)), (133, (eFrac x42)), (133, (eFrac x39)), (133, (eFrac x42))] ?_))))
     refine oe (nt (qe (nr (br (nr ?_)))))
     obtain rfl := sI h143
     exact re [vFrac x42, .bool true]
   exact qk (mp ((), ()) h140 [9, 8, 6, 3, 1] [] 4)
 have h96 := (congrFun hk95 _).symm.trans h96p
 refine bn (nt (qs (qs (qr (oN 3 [(80, vb (decide (x39.Num > 0)))] [9, 6, 3, 1] ?_)))))
 refine oe (nt (cC h96 (fun h98 => ?_) (fun h99 => ?_)))
 · refine qs (qr (oB 3 [(7, vb true)] [6] [(154, (eNode x0)), (133, (eFrac x42)), (133, (eFrac x39)), (133, (eFrac x42))] ?_))
   refine oe (nt (qe (nr ?_)))
   obtain rfl := sI h98
   exact re [vFrac x42, .bool true]
 refine qk (nt (qs (qr (oN 3 [(84, vi x0.C), (82, .v (.slice a1_0 x1.length c1_0))] [6] ?_))))
 obtain ⟨x100, hx101, h102⟩ := bS h99
 refine oi 2 (fun γ w hs => (hv1_0.kept hs.kept)) hx101 ?_
 refine ol 133 0 (vFrac x100) (fun γ w hs => (hv1_0.kept hs.kept).flatq hx101) ?_
 refine oB 2 [(7, vb true)] [6] [(154, (eNode x0)), (133, (eFrac x100)), (133, (eFrac x39)), (133, (eFrac x42))] ?_
 refine oe (nt (qe ?_))
 obtain rfl := sI h102
 exact re [vFrac x100, .bool true]

theorem c_impl_EvalAll {W : World} {x0 : List Node} {a0_0 : Option Addr} {c0_0 : Nat} {x1 : List Frac} {a1_0 : Option Addr} {c1_0 : Nat} {r : (List Frac) × Bool} (h : impl_EvalAll x0 x1 = some r) (hv0_0 : SlView W x0 a0_0 c0_0) (hv1_0 : SlView W x1 a1_0 c1_0) :
    Gives Tryz.prog 191 #[.slice a0_0 x0.length c0_0, .slice a1_0 x1.length c1_0] W (fun y : AC => .tuple #[.slice y.1 r.1.length y.2, .bool r.2]) (fun y => [SlRes 133 r.1 y.1 y.2]) := by
 unfold impl_EvalAll at h
 refine en Tryz.func191 Tryz.ntmps191 ?_
 refine qs (qr (oN 2 [] [0, 1] ?_))
 refine oe (nt (qs (qs ?_)))
 obtain ⟨p21, hE22, h23⟩ := bS h
 refine JC_cut (τ := Unit) (fun _ => [(0, .v (.slice a0_0 x0.length c0_0)), (1, .v (.slice a1_0 x1.length c1_0)), (22, vb p21)]) (fun _ => []) (fun _ => []) ?_ (fun _ => ?_)
 · refine qr (oN 1 [(11, .v (.slice a0_0 x0.length c0_0))] [0, 1] ?_)
   obtain ⟨t24, h25, h26⟩ := bS hE22
   refine k0 (fun γ w hs => c_impl_FormulaOk h25 (hv0_0.kept hs.kept)) ?_
   refine oN 2 [(14, vb (!t24))] [0, 1] ?_
   refine oS 14 h26 (fun h29 => ?_) (fun h30 => ?_)
   · refine oN 8 [(22, vb true)] [0, 1] ?_
     refine oe ?_
     obtain rfl := sI h29
     exact mt () [0, 1, 22] [] 0
   refine oN 5 [(19, vb ((x1.length : Int) != 8))] [0, 1] ?_
   refine oS 19 h30 (fun h32 => ?_) (fun h33 => ?_)
   · refine oN 3 [(22, vb true)] [0, 1] ?_
     refine oe ?_
     obtain rfl := sI h32
     exact mt () [0, 1, 22] [] 0
   refine oN 1 [(20, .v (.slice a1_0 x1.length c1_0))] [19, 0, 1] ?_
   obtain ⟨t34, h35, h36⟩ := bS h33
   refine k0 (fun γ w hs => c_slices_ContainsFunc_Frac__impl_EvalAll_1 h35 (hv1_0.kept hs.kept)) ?_
   refine oN 1 [(22, vb t34)] [0, 1] ?_
   refine oe ?_
   obtain rfl := sI h36
   exact mt () [0, 1, 22] [] 0
 refine nt (cC h23 (fun h39 => ?_) (fun h40 => ?_))
 · refine qs (qr (oN 2 [(5, vb false), (4, .v (.slice none 0 0))] [] ?_))
   refine oe (nt (qe (nr (JE_addnil 133 (List.nil (α := Frac)) rfl ?_))))
   refine rt [.slice none 0 0, .bool false] (fun γ w hs => ?_)
   rw [← sI h39]
   exact ⟨(none, 0), rfl, hs.kept.toBelow, (hs.takeR (is := [0]) rfl).fresh⟩
 refine qk (nt (qs (qr (ob [] [] 133 0 [] ([] : List Frac) (own_flat (by kernel_rfl)) (fun y41 => ?_)))))
 refine oN 1 [(6, .v (.slice y41.1 ([] : List Frac).length y41.2))] [0, 1] ?_
 refine oe (nt (qs (qs (qr (oN 3 [(26, vi 0), (25, vi (x0.length : Int)), (24, .v (.slice a0_0 x0.length c0_0))] [6, 1] ?_)))))
 refine oe (nt ?_)
 obtain ⟨r46, hL47, h48⟩ := bS h40
 obtain ⟨k49, hk50, h48⟩ := brkS h48
 refine JC_cutP (τ := ((List Frac)) × (AC)) (fun y => k49 y.1 = some r) (fun y54 => [(6, .v (.slice y54.2.1 y54.1.length y54.2.2))]) (fun y54 => []) (fun y54 => [SlRes 133 y54.1 y54.2.1 y54.2.2]) ?_ (fun y54 h55p => ?_)
 · refine qb (lp AC hL47 (fun s43 y44 => [(26, vi s43.1), (25, vi (x0.length : Int)), (24, .v (.slice a0_0 x0.length c0_0)), (6, .v (.slice y44.1 s43.2.length y44.2)), (1, .v (.slice a1_0 x1.length c1_0))]) (fun s43 y44 => []) (fun s43 y44 => [SlRes 133 s43.2 y44.1 y44.2]) (y41.1, y41.2) [26, 25, 24, 6, 1] [0] 0 (fun s43 y44 t45 h51 hd52 => ?_))
   refine qs (qr (oN 1 [(27, vb (decide (s43.1 < (x0.length : Int))))] [26, 25, 24, 6, 1] ?_))
   refine oe (nt (qs (cC h51 (fun h57 => ?_) (fun h58 => ?_))))
   · refine qk (nt (qs (qb (qs (qr ?_)))))
     obtain ⟨x59, hx60, h61⟩ := bS h57
     refine oi 6 (fun γ w hs => (hv0_0.kept hs.kept)) hx60 ?_
     refine ol 154 0 (vNode x59) (fun γ w hs => (hv0_0.kept hs.kept).flatq hx60) ?_
     refine oB 2 [(8, .p 0 0)] [26, 25, 24, 6, 1] [(154, (eNode x59))] ?_
     refine oe (nt (qs (qr (oN 3 [(33, .v (.slice a1_0 x1.length c1_0)), (32, .v (.slice y44.1 s43.2.length y44.2)), (31, .v (vNode x59))] [26, 25, 24, 6, 1] ?_))))
     obtain ⟨t62, h63, h64⟩ := bS h61
     refine k0 (fun γ w hs => c_impl_evalNode h63 (hs.view 0 rfl) (hv1_0.kept hs.kept)) ?_
     refine oB 6 [(10, vb t62.2), (9, .p 1 0)] [26, 25, 24, 6, 1] [(154, (eNode x59)), (133, (eFrac t62.1))] ?_
     refine oe (nt (qs (qs (qr (oN 2 [(38, vb (!t62.2))] [9, 26, 25, 24, 6, 1] ?_)))))
     refine oe (nt (cC h64 (fun h67 => ?_) (fun h68 => ?_)))
     · refine qs (qr (oN 2 [(5, vb false), (4, .v (.slice none 0 0))] [] ?_))
       refine oe (nt (qe (nr (br (nr (nr ?_))))))
       have h69 := leafR hd52 h67 h48
       refine br (nr (nr (JE_addnil 133 (List.nil (α := Frac)) rfl ?_)))
       refine rt [.slice none 0 0, .bool false] (fun γ w hs => ?_)
       rw [← sI h69]
       exact ⟨(none, 0), rfl, hs.kept.toBelow, (hs.takeR (is := [0]) rfl).fresh⟩
     refine qk (nt (qr (oN 2 [(40, .v (vFrac t62.1)), (39, .v (.slice y44.1 s43.2.length y44.2))] [26, 25, 24, 1] ?_)))
     refine ob [] [SlRes 133 s43.2 y44.1 y44.2] 133 1 [.int .i64 t62.1.Num, .int .i64 t62.1.Den] ([t62.1] : List Frac) (own_flat (by kernel_rfl)) (fun y70 => ?_)
     refine or_ [1, 0] ?_
     obtain ⟨l73, hm74, h75⟩ := bS h68
     refine oa 128 y70.2 Tryz.t133 (vFrac (Frac.mk 0 0)) (fun γ w hs => ⟨y70.2, (hs.view 1 rfl)⟩) hm74 (fun y72 => ?_)
     refine oN 1 [(6, .v (.slice y72.1 l73.length y72.2))] [26, 25, 24, 1] ?_
     refine oe (bn (nt (qr (oN 2 [(26, vi (w64 (s43.1 + 1)))] [6, 25, 24, 1] ?_))))
     exact oe (ct h75 (y72.1, y72.2) [26, 25, 24, 6, 1] [0] 0)
   refine qx (nx (nx (bh ?_)))
   have h76 := leafB hd52 h58 h48
   exact mp (s43.2, (y44.1, y44.2)) h76 [6] [0] 0
 have h55 := (congrFun hk50 _).symm.trans h55p
 refine nt (qs (qr (oN 3 [(5, vb true), (4, .v (.slice y54.2.1 y54.1.length y54.2.2))] [] ?_)))
 refine oe (nt (qe (rt [.slice y54.2.1 y54.1.length y54.2.2, .bool true] (fun γ w hs => ?_))))
 rw [← sI h55]
 exact ⟨y54.2, rfl, hs.kept.toBelow, (hs.takeR (is := [0]) rfl).fresh⟩

theorem c_impl_Eval {W : World} {x0 : List Node} {a0_0 : Option Addr} {c0_0 : Nat} {x1 : List Frac} {a1_0 : Option Addr} {c1_0 : Nat} {r : Frac × Bool} (h : impl_Eval x0 x1 = some r) (hv0_0 : SlView W x0 a0_0 c0_0) (hv1_0 : SlView W x1 a1_0 c1_0) :
    Gives0 Tryz.prog 152 #[.slice a0_0 x0.length c0_0, .slice a1_0 x1.length c1_0] W (.tuple #[vFrac r.1, .bool r.2]) := by
 unfold impl_Eval at h
 refine en Tryz.func152 Tryz.ntmps152 ?_
 refine qs (qr (oB 2 [(4, .p 0 0)] [0, 1] [(133, (eFrac (Frac.mk 0 0)))] ?_))
 refine oe (nt (qs (qr (oN 2 [(10, .v (.slice a1_0 x1.length c1_0)), (9, .v (.slice a0_0 x0.length c0_0))] [4] ?_))))
 obtain ⟨t21, h22, h23⟩ := bS h
 refine k1 (fun γ w hs => c_impl_EvalAll h22 (hv0_0.kept hs.kept) (hv1_0.kept hs.kept)) (fun y24 => ?_)
 refine oN 5 [(7, vb t21.2), (6, .v (.slice y24.1 t21.1.length y24.2))] [4] ?_
 refine oe (nt (qs (qs (qr (oN 2 [(15, vb (!t21.2))] [6, 4] ?_)))))
 refine oe (nt (cC h23 (fun h26 => ?_) (fun h27 => ?_)))
 · refine qs (qr (oN 3 [(5, vb false)] [4] ?_))
   refine oe (nt (qe (nr ?_)))
   obtain rfl := sI h26
   exact re [vFrac (Frac.mk 0 0), .bool false]
 refine qk (nt (qs (qr (oN 4 [(20, vi (w64 ((t21.1.length : Int) - 1))), (17, .v (.slice y24.1 t21.1.length y24.2))] [4] ?_))))
 obtain ⟨x28, hx29, h30⟩ := bS h27
 refine oi 2 (fun γ w hs => (hs.view 0 rfl)) hx29 ?_
 refine ol 133 0 (vFrac x28) (fun γ w hs => (hs.view 0 rfl).flatq hx29) ?_
 refine oB 2 [(5, vb true)] [4] [(133, (eFrac x28))] ?_
 refine oe (nt (qe ?_))
 obtain rfl := sI h30
 exact re [vFrac x28, .bool true]

theorem c_impl_floorDiv {W : World} {x0 : Int} {x1 : Int} {r : Int} (h : impl_floorDiv x0 x1 = some r)  :
    Gives0 Tryz.prog 192 #[.int .i64 x0, .int .i64 x1] W (.int .i64 r) := by
 unfold impl_floorDiv at h
 refine en Tryz.func192 Tryz.ntmps192 ?_
 refine qs (qr (oN 1 [] [0, 1] ?_))
 refine oe (nt (qs (qr (oN 2 [(7, vi x1), (6, vi x0)] [0, 1] ?_))))
 obtain ⟨u23, hz22, h21⟩ := bS h
 refine JO_div rfl (by kernel_rfl) (op := .quo) (k := .i64) (x := x0) (y := x1) (by kernel_rfl) (nz_some hz22) rfl ?_
 refine oN 1 [(5, vi (w64 (Int.tdiv x0 x1)))] [0, 1] ?_
 refine oe (nt (qs (qs (qr (oN 2 [(10, vi x1), (9, vi x0)] [5] ?_)))))
 obtain ⟨u26, hz25, h24⟩ := bS h21
 refine JO_div rfl (by kernel_rfl) (op := .rem) (k := .i64) (x := x0) (y := x1) (by kernel_rfl) (nz_some hz25) rfl ?_
 refine oN 1 [(12, vb (decide ((Int.tmod x0 x1) < 0)))] [5] ?_
 refine oe (nt ?_)
 obtain ⟨k30, hk31, h33⟩ := jS h24
 refine JC_cutP (τ := (Int) × (Unit)) (fun y => k30 y.1 = some r) (fun y29 => [(5, vi y29.1)]) (fun y29 => []) (fun y29 => []) ?_ (fun y29 h32p => ?_)
 · refine cC h33 (fun h35 => ?_) (fun h36 => ?_)
   · refine qr (oN 3 [(5, vi (w64 ((w64 (Int.tdiv x0 x1)) - 1)))] [] ?_)
     exact oe (mp (w64 ((w64 (Int.tdiv x0 x1)) - 1), ()) h35 [5] [] 0)
   exact qk (mp (w64 (Int.tdiv x0 x1), ()) h36 [5] [] 0)
 have h32 := (congrFun hk31 _).symm.trans h32p
 refine nt (qs (qr (oN 2 [(4, vi y29.1)] [] ?_)))
 refine oe (nt (qe ?_))
 obtain rfl := sI h32
 exact re [.int .i64 y29.1]

theorem c_impl_RoundFrac {W : World} {x0 : Frac} {x1 : Int} {r : Int × Bool} (h : impl_RoundFrac x0 x1 = some r)  :
    Gives0 Tryz.prog 153 #[vFrac x0, .int .i64 x1] W (.tuple #[.int .i64 r.1, .bool r.2]) := by
 unfold impl_RoundFrac at h
 refine en Tryz.func153 Tryz.ntmps153 ?_
 refine qs (qr (oB 3 [(2, .p 0 0)] [1] [(133, (eFrac x0))] ?_))
 refine oe (nt (qs (qs ?_)))
 obtain ⟨p21, hE22, h23⟩ := bS h
 refine JC_cut (τ := Unit) (fun _ => [(1, vi x1), (2, .p 0 0), (16, vb p21)]) (fun _ => [(133, (eFrac x0))]) (fun _ => []) ?_ (fun _ => ?_)
 · refine qr (oN 1 [(9, .v (vFrac x0))] [2, 1] ?_)
   obtain ⟨t24, h25, h26⟩ := bS hE22
   refine k0 (fun γ w hs => c_impl_FracOk h25) ?_
   refine oN 2 [(12, vb (!t24))] [2, 1] ?_
   refine oS 12 h26 (fun h29 => ?_) (fun h30 => ?_)
   · refine oN 4 [(16, vb true)] [2, 1] ?_
     refine oe ?_
     obtain rfl := sI h29
     exact mt () [1, 2, 16] [] 1
   refine oN 1 [(13, vi x1)] [12, 2, 1] ?_
   obtain ⟨t31, h32, h33⟩ := bS h30
   refine k0 (fun γ w hs => c_impl_within h32) ?_
   refine oN 2 [(16, vb (!t31))] [2, 1] ?_
   refine oe ?_
   obtain rfl := sI h33
   exact mt () [1, 2, 16] [] 1
 refine nt (cC h23 (fun h36 => ?_) (fun h37 => ?_))
 · refine qs (qr (oN 2 [(5, vb false), (4, vi 0)] [] ?_))
   refine oe (nt (qe (nr ?_)))
   obtain rfl := sI h36
   exact re [.int .i64 0, .bool false]
 refine qk (nt (qs (qr (oN 4 [(20, vi x0.Den), (18, vi x0.Num)] [1, 2] ?_))))
 obtain ⟨t38, h39, h40⟩ := bS h37
 refine k0 (fun γ w hs => c_impl_floorDiv h39) ?_
 refine oN 1 [(6, vi t38)] [1, 2] ?_
 refine oe (nt (qs (qr (oN 8 [(7, vi (w64 (x0.Num - (w64 (t38 * x0.Den)))))] [6, 1, 2] ?_))))
 refine oe (nt (qs (qr (oN 1 [(8, vb false)] [7, 6, 1, 2] ?_))))
 refine oe (nt (qs (qs (qr (oN 1 [(29, vi x1)] [8, 7, 6, 2] ?_)))))
 refine oe (nt (qb (qs (qr (oN 2 [(30, vb (x1 == 2))] [29, 8, 7, 6, 2] ?_)))))
 refine oe (nt ?_)
 obtain ⟨k60, hk61, h73⟩ := jS h40
 refine JC_cutP (τ := (Bool) × (Unit)) (fun y => k60 y.1 = some r) (fun y59 => [(8, vb y59.1), (6, vi t38)]) (fun y59 => [(133, (eFrac x0))]) (fun y59 => []) ?_ (fun y59 h62p => ?_)
 · refine cC h73 (fun h75 => ?_) (fun h76 => ?_)
   · refine qr (oN 3 [(8, vb (decide ((w64 (x0.Num - (w64 (t38 * x0.Den)))) > 0)))] [6] ?_)
     exact oe (mp (decide ((w64 (x0.Num - (w64 (t38 * x0.Den)))) > 0), ()) h75 [8, 6] [] 1)
   refine qs (qr (oN 2 [(34, vb (x1 == 3))] [29, 8, 7, 6, 2] ?_))
   refine oe (nt (cC h76 (fun h78 => ?_) (fun h79 => ?_)))
   · refine qr (oN 6 [(8, vb (decide ((w64 (2 * (w64 (x0.Num - (w64 (t38 * x0.Den)))))) ≥ x0.Den)))] [6] ?_)
     exact oe (mp (decide ((w64 (2 * (w64 (x0.Num - (w64 (t38 * x0.Den)))))) ≥ x0.Den), ()) h78 [8, 6] [] 1)
   refine qs (qr (oN 2 [(41, vb (x1 == 4))] [8, 7, 6, 2] ?_))
   refine oe (nt (cC h79 (fun h81 => ?_) (fun h82 => ?_)))
   · obtain ⟨p83, hE84, h85⟩ := bS h81
     refine JC_cut (τ := Unit) (fun _ => [(6, vi t38), (8, vb p83)]) (fun _ => [(133, (eFrac x0))]) (fun _ => []) ?_ (fun _ => ?_)
     · refine qr (oN 6 [(48, vb (decide ((w64 (2 * (w64 (x0.Num - (w64 (t38 * x0.Den)))))) > x0.Den)))] [7, 6, 2] ?_)
       refine oS 48 hE84 (fun h87 => ?_) (fun h88 => ?_)
       · refine oN 12 [(8, vb true)] [6] ?_
         refine oe ?_
         obtain rfl := sI h87
         exact mt () [6, 8] [] 1
       refine oN 6 [(54, vb ((w64 (2 * (w64 (x0.Num - (w64 (t38 * x0.Den)))))) == x0.Den))] [48, 6] ?_
       refine oS 54 h88 (fun h90 => ?_) (fun h91 => ?_)
       · refine oN 6 [(8, vb ((Int.tmod t38 2) != 0))] [6] ?_
         refine oe ?_
         obtain rfl := sI h90
         exact mt () [6, 8] [] 1
       refine oN 6 [(8, vb false)] [6] ?_
       refine oe ?_
       obtain rfl := sI h91
       exact mt () [6, 8] [] 1
     exact mp (p83, ()) h85 [8, 6] [] 1
   exact qk (mp (false, ()) h82 [8, 6] [] 1)
 have h62 := (congrFun hk61 _).symm.trans h62p
 refine bn (nt (qs (qs (qr (oN 1 [(60, vb y59.1)] [6] ?_)))))
 refine oe (nt ?_)
 obtain ⟨k66, hk67, h69⟩ := jS h62
 refine JC_cutP (τ := (Int) × (Unit)) (fun y => k66 y.1 = some r) (fun y65 => [(6, vi y65.1)]) (fun y65 => [(133, (eFrac x0))]) (fun y65 => []) ?_ (fun y65 h68p => ?_)
 · refine cC h69 (fun h71 => ?_) (fun h72 => ?_)
   · refine qr (oN 3 [(6, vi (w64 (t38 + 1)))] [] ?_)
     exact oe (mp (w64 (t38 + 1), ()) h71 [6] [] 1)
   exact qk (mp (t38, ()) h72 [6] [] 1)
 have h68 := (congrFun hk67 _).symm.trans h68p
 refine nt (qs (qr (oN 3 [(5, vb true), (4, vi y65.1)] [] ?_)))
 refine oe (nt (qe ?_))
 obtain rfl := sI h68
 exact re [.int .i64 y65.1, .bool true]

theorem c_impl_Figure {W : World} {x0 : Book} {a0_0 : Option Addr} {c0_0 : Nat} {x1 : Int} {x2 : Int} {x3 : Int} {x4 : List Frac} {a4_0 : Option Addr} {c4_0 : Nat} {r : Int × Int × Bool} (h : impl_Figure x0 x1 x2 x3 x4 = some r) (hv0_0 : SlView W x0.Rules a0_0 c0_0) (hv4_0 : SlView W x4 a4_0 c4_0) :
    Gives0 Tryz.prog 103 #[vBook x0 (a0_0, c0_0), .int .i64 x1, .int .i64 x2, .int .i64 x3, .slice a4_0 x4.length c4_0] W (.tuple #[.int .i64 r.1, .int .i64 r.2.1, .bool r.2.2]) := by
 unfold impl_Figure at h
 refine en Tryz.func103 Tryz.ntmps103 ?_
 refine qs (qr (oB 4 [(5, .p 0 0)] [1, 2, 3, 4] [(26, (eBook x0 (a0_0, c0_0)))] ?_))
 refine oe (nt (qs (qr (oN 4 [(21, vi x3), (20, vi x2), (19, vi x1), (18, .v (vBook x0 (a0_0, c0_0)))] [5, 4] ?_))))
 obtain ⟨t21, h22, h23⟩ := bS h
 refine k0 (fun γ w hs => c_impl_RuleFor h22 (hv0_0.kept hs.kept)) ?_
 refine oN 1 [(13, vi t21)] [5, 4] ?_
 refine oe (nt (qs (qs (qr (oN 2 [(24, vb (decide (t21 < 0)))] [13, 5, 4] ?_)))))
 refine oe (nt (cC h23 (fun h26 => ?_) (fun h27 => ?_)))
 · refine qs (qr (oN 3 [(12, vb false), (11, vi 0), (10, vi 0)] [] ?_))
   refine oe (nt (qe (nr ?_)))
   obtain rfl := sI h26
   exact re [.int .i64 0, .int .i64 0, .bool false]
 refine qk (nt (qs (qr (oN 3 [(28, vi t21), (27, .v (.slice a0_0 x0.Rules.length c0_0))] [13, 5, 4] ?_))))
 obtain ⟨x28, hx29, h30⟩ := bS h27
 refine oi 7 (fun γ w hs => (hv0_0.kept hs.kept)) hx29 ?_
 refine oN 1 [(30, .q a0_0 (Int.toNat t21 * 7 + 6))] [13, 5, 4] ?_
 obtain ⟨_, ⟨a31, c32, rfl, hv33⟩, hc34⟩ := SlView.at hv0_0 (idx_some hx29).2.2
 refine ol 74 6 (.slice a31 x28.Nodes.length c32) (fun γ w hs => ⟨(hv0_0.kept hs.kept).ne (idx_some hx29).2.2, hc34.kept hs.kept⟩) ?_
 refine oN 1 [(32, .v (.slice a4_0 x4.length c4_0))] [31, 13, 5] ?_
 obtain ⟨t35, h36, h37⟩ := bS h30
 refine k0 (fun γ w hs => c_impl_Eval h36 (hv33.kept hs.kept) (hv4_0.kept hs.kept)) ?_
 refine oB 6 [(15, vb t35.2), (14, .p 1 0)] [13, 5] [(26, (eBook x0 (a0_0, c0_0))), (133, (eFrac t35.1))] ?_
 refine oe (nt (qs (JC_quiet (by kernel_rfl) (by kernel_rfl) ?_)))
 refine qN 4 [(40, vi t21), (39, .v (.slice a0_0 x0.Rules.length c0_0)), (37, .v (vFrac t35.1))] [15, 13] ?_
 obtain ⟨x39, hx40, h41⟩ := bS h37
 refine qi 7 (fun γ w hs => (hv0_0.kept hs.kept)) hx40 ?_
 refine qN 1 [(42, .q a0_0 (Int.toNat t21 * 7 + 5))] [37, 15, 13] ?_
 obtain ⟨_, ⟨a42, c43, rfl, hv44⟩, hc45⟩ := SlView.at hv0_0 (idx_some hx40).2.2
 refine ql 3 5 (.int .i64 x39.Mode) (fun γ w hs => ⟨(hv0_0.kept hs.kept).ne (idx_some hx40).2.2, hc45.kept hs.kept⟩) ?_
 obtain ⟨t46, h47, h48⟩ := bS h41
 refine q0 (fun γ w hs => c_impl_RoundFrac h47) ?_
 refine qN 5 [(17, vb t46.2), (16, vi t46.1)] [15, 13] ?_
 refine qz (nt (qs (qs ?_)))
 obtain ⟨p50, hE51, h52⟩ := bS h48
 refine JC_cut (τ := Unit) (fun _ => [(13, vi t21), (16, vi t46.1), (52, vb p50)]) (fun _ => [(26, (eBook x0 (a0_0, c0_0))), (133, (eFrac t35.1))]) (fun _ => []) ?_ (fun _ => ?_)
 · refine qr (oN 3 [(49, vb (!t35.2))] [17, 16, 13] ?_)
   refine oS 49 hE51 (fun h54 => ?_) (fun h55 => ?_)
   · refine oN 3 [(52, vb true)] [16, 13] ?_
     refine oe ?_
     obtain rfl := sI h54
     exact mt () [13, 16, 52] [] 2
   refine oN 3 [(52, vb (!t46.2))] [16, 13] ?_
   refine oe ?_
   obtain rfl := sI h55
   exact mt () [13, 16, 52] [] 2
 refine nt (cC h52 (fun h57 => ?_) (fun h58 => ?_))
 · refine qs (qr (oN 3 [(12, vb false), (11, vi 0), (10, vi 0)] [] ?_))
   refine oe (nt (qe (nr ?_)))
   obtain rfl := sI h57
   exact re [.int .i64 0, .int .i64 0, .bool false]
 refine qk (nt (qs (qr (oN 5 [(12, vb true), (11, vi t21), (10, vi t46.1)] [] ?_))))
 refine oe (nt (qe ?_))
 obtain rfl := sI h58
 exact re [.int .i64 t46.1, .int .i64 t21, .bool true]

theorem c_impl_EntitlementAt {W : World} {x0 : Case} {b0 : AC × AC × AC × AC × AC} {x1 : Int} {x2 : Int} {r : Int} (h : impl_EntitlementAt x0 x1 x2 = some r) (hv0_0 : SlView W x0.Book.Rules b0.1.1 b0.1.2) (hv0_1 : SlView W x0.Store.Facts b0.2.1.1 b0.2.1.2) (hv0_2 : SlView W x0.Series.Points b0.2.2.1.1 b0.2.2.1.2) (hv0_3 : SlView W x0.Member.Spells b0.2.2.2.1.1 b0.2.2.2.1.2) (hv0_4 : SlView W x0.Member.Events b0.2.2.2.2.1 b0.2.2.2.2.2) :
    Gives0 Tryz.prog 60 #[vCase x0 b0, .int .i64 x1, .int .i64 x2] W (.int .i64 r) := by
 unfold impl_EntitlementAt at h
 refine en Tryz.func60 Tryz.ntmps60 ?_
 refine qs (qr (oB 2 [(3, .p 0 0)] [1, 2] [(38, (eCase x0 b0))] ?_))
 refine oe (nt (qs (qs ?_)))
 obtain ⟨p21, hE22, h23⟩ := bS h
 refine JC_cut (τ := Unit) (fun _ => [(1, vi x1), (2, vi x2), (3, .p 0 0), (22, vb p21)]) (fun _ => [(38, (eCase x0 b0))]) (fun _ => []) ?_ (fun _ => ?_)
 · refine qr (oN 1 [(12, .v (vCase x0 b0))] [3, 1, 2] ?_)
   obtain ⟨t24, h25, h26⟩ := bS hE22
   refine k0 (fun γ w hs => c_impl_CaseOk (b0 := b0) h25 (hv0_0.kept hs.kept) (hv0_1.kept hs.kept) (hv0_2.kept hs.kept) (hv0_3.kept hs.kept) (hv0_4.kept hs.kept)) ?_
   refine oN 2 [(15, vb (!t24))] [3, 1, 2] ?_
   refine oS 15 h26 (fun h29 => ?_) (fun h30 => ?_)
   · refine oN 7 [(22, vb true)] [3, 1, 2] ?_
     refine oe ?_
     obtain rfl := sI h29
     exact mt () [1, 2, 3, 22] [] 1
   refine oN 4 [(19, vi x1), (18, .v (.slice b0.2.2.2.2.1 x0.Member.Events.length b0.2.2.2.2.2))] [15, 3, 1, 2] ?_
   obtain ⟨t31, h32, h33⟩ := bS h30
   refine k0 (fun γ w hs => c_impl_StatusAt h32 (hv0_4.kept hs.kept)) ?_
   refine oN 2 [(22, vb (t31 != 3))] [3, 1, 2] ?_
   refine oe ?_
   obtain rfl := sI h33
   exact mt () [1, 2, 3, 22] [] 1
 refine nt (cC h23 (fun h36 => ?_) (fun h37 => ?_))
 · refine qs (qr (oN 1 [(6, vi 0)] [] ?_))
   refine oe (nt (qe (nr ?_)))
   obtain rfl := sI h36
   exact re [.int .i64 0]
 refine qk (nt (qs (qr (oN 3 [(26, vi x2), (25, vi x1), (24, .v (vCase x0 b0))] [1, 3] ?_))))
 obtain ⟨t38, h39, h40⟩ := bS h37
 refine k1 (fun γ w hs => c_impl_VarsFor (b0 := b0) h39 (hv0_0.kept hs.kept) (hv0_1.kept hs.kept) (hv0_2.kept hs.kept) (hv0_3.kept hs.kept) (hv0_4.kept hs.kept)) (fun y41 => ?_)
 refine oN 5 [(8, vb t38.2), (7, .v (.slice y41.1 t38.1.length y41.2))] [1, 3] ?_
 refine oe (nt (qs (qr (oN 7 [(37, .v (.slice y41.1 t38.1.length y41.2)), (36, vi x0.Member.Joined), (33, vi x1), (32, .v (vBook x0.Book b0.1))] [8] ?_))))
 obtain ⟨t42, h43, h44⟩ := bS h40
 refine k0 (fun γ w hs => c_impl_Figure h43 (hv0_0.kept hs.kept) (hs.view 0 rfl)) ?_
 refine oN 7 [(11, vb t42.2.2), (9, vi t42.1)] [8] ?_
 refine oe (nt (qs (qs ?_)))
 obtain ⟨p46, hE47, h48⟩ := bS h44
 refine JC_cut (τ := Unit) (fun _ => [(9, vi t42.1), (47, vb p46)]) (fun _ => [(38, (eCase x0 b0))]) (fun _ => []) ?_ (fun _ => ?_)
 · refine qr (oN 3 [(44, vb (!t38.2))] [11, 9] ?_)
   refine oS 44 hE47 (fun h50 => ?_) (fun h51 => ?_)
   · refine oN 3 [(47, vb true)] [9] ?_
     refine oe ?_
     obtain rfl := sI h50
     exact mt () [9, 47] [] 1
   refine oN 3 [(47, vb (!t42.2.2))] [9] ?_
   refine oe ?_
   obtain rfl := sI h51
   exact mt () [9, 47] [] 1
 refine nt (cC h48 (fun h53 => ?_) (fun h54 => ?_))
 · refine qs (qr (oN 1 [(6, vi 0)] [] ?_))
   refine oe (nt (qe (nr ?_)))
   obtain rfl := sI h53
   exact re [.int .i64 0]
 refine qk (nt (qs (qr (oN 4 [(6, vi (imax 0 (imin t42.1 10000000)))] [] ?_))))
 refine oe (nt (qe ?_))
 obtain rfl := sI h54
 exact re [.int .i64 (imax 0 (imin t42.1 10000000))]

theorem c_impl_Entitlements {W : World} {x0 : Case} {b0 : AC × AC × AC × AC × AC} {x1 : Int} {x2 : Int} {x3 : Int} {r : (List Int)} (h : impl_Entitlements x0 x1 x2 x3 = some r) (hv0_0 : SlView W x0.Book.Rules b0.1.1 b0.1.2) (hv0_1 : SlView W x0.Store.Facts b0.2.1.1 b0.2.1.2) (hv0_2 : SlView W x0.Series.Points b0.2.2.1.1 b0.2.2.1.2) (hv0_3 : SlView W x0.Member.Spells b0.2.2.2.1.1 b0.2.2.2.1.2) (hv0_4 : SlView W x0.Member.Events b0.2.2.2.2.1 b0.2.2.2.2.2) :
    Gives Tryz.prog 72 #[vCase x0 b0, .int .i64 x1, .int .i64 x2, .int .i64 x3] W (fun y : AC => .slice y.1 r.length y.2) (fun y => [SlRes 3 r y.1 y.2]) := by
 unfold impl_Entitlements at h
 refine en Tryz.func72 Tryz.ntmps72 ?_
 refine qs (qr (oB 2 [(4, .p 0 0)] [1, 2, 3] [(38, (eCase x0 b0))] ?_))
 refine oe (nt (qs (qs ?_)))
 obtain ⟨p21, hE22, h23⟩ := bS h
 refine JC_cut (τ := Unit) (fun _ => [(1, vi x1), (2, vi x2), (3, vi x3), (4, .p 0 0), (29, vb p21)]) (fun _ => [(38, (eCase x0 b0))]) (fun _ => []) ?_ (fun _ => ?_)
 · refine qr (oN 1 [(11, .v (vCase x0 b0))] [4, 1, 2, 3] ?_)
   obtain ⟨t24, h25, h26⟩ := bS hE22
   refine k0 (fun γ w hs => c_impl_CaseOk (b0 := b0) h25 (hv0_0.kept hs.kept) (hv0_1.kept hs.kept) (hv0_2.kept hs.kept) (hv0_3.kept hs.kept) (hv0_4.kept hs.kept)) ?_
   refine oN 2 [(14, vb (!t24))] [4, 1, 2, 3] ?_
   refine oS 14 h26 (fun h29 => ?_) (fun h30 => ?_)
   · refine oN 15 [(29, vb true)] [4, 1, 2, 3] ?_
     refine oe ?_
     obtain rfl := sI h29
     exact mt () [1, 2, 3, 4, 29] [] 1
   refine oN 1 [(15, vi x1)] [14, 4, 1, 2, 3] ?_
   obtain ⟨t31, h32, h33⟩ := bS h30
   refine k0 (fun γ w hs => c_impl_isEnd h32) ?_
   refine oN 3 [(19, vb (!t31))] [4, 1, 2, 3] ?_
   refine oS 19 h33 (fun h36 => ?_) (fun h37 => ?_)
   · refine oN 10 [(29, vb true)] [4, 1, 2, 3] ?_
     refine oe ?_
     obtain rfl := sI h36
     exact mt () [1, 2, 3, 4, 29] [] 1
   refine oN 1 [(20, vi x2)] [19, 4, 1, 2, 3] ?_
   obtain ⟨t38, h39, h40⟩ := bS h37
   refine k0 (fun γ w hs => c_impl_isEnd h39) ?_
   refine oN 3 [(24, vb (!t38))] [4, 1, 2, 3] ?_
   refine oS 24 h40 (fun h43 => ?_) (fun h44 => ?_)
   · refine oN 5 [(29, vb true)] [4, 1, 2, 3] ?_
     refine oe ?_
     obtain rfl := sI h43
     exact mt () [1, 2, 3, 4, 29] [] 1
   refine oN 5 [(29, vb (decide (x2 > (w64 (x1 + 240)))))] [4, 1, 2, 3] ?_
   refine oe ?_
   obtain rfl := sI h44
   exact mt () [1, 2, 3, 4, 29] [] 1
 refine nt (cC h23 (fun h46 => ?_) (fun h47 => ?_))
 · refine qs (qr (oN 1 [(8, .v (.slice none 0 0))] [] ?_))
   refine oe (nt (qe (nr (JE_addnil 3 (List.nil (α := Int)) rfl ?_))))
   refine rt [.slice none 0 0] (fun γ w hs => ?_)
   rw [← sI h46]
   exact ⟨(none, 0), rfl, hs.kept.toBelow, (hs.takeR (is := [0]) rfl).fresh⟩
 refine qk (nt (qs (qr (ob [] [] 3 0 [] ([] : List Int) (own_flat (by kernel_rfl)) (fun y48 => ?_)))))
 refine oN 1 [(9, .v (.slice y48.1 ([] : List Int).length y48.2))] [1, 2, 3, 4] ?_
 refine oe (nt (qs (qs (qr (oN 2 [(10, vi x1)] [9, 2, 3, 4] ?_)))))
 refine oe (nt ?_)
 obtain ⟨r53, hL54, h55⟩ := bS h47
 obtain ⟨k56, hk57, h55⟩ := brkS h55
 refine JC_cutP (τ := ((List Int) × Int × Int) × (AC)) (fun y => k56 y.1 = some r) (fun y61 => [(9, .v (.slice y61.2.1 y61.1.1.length y61.2.2))]) (fun y61 => [(38, (eCase (Case.mk x0.Book x0.Store x0.Series (Member.mk y61.1.2.1 y61.1.2.2 x0.Member.Spells x0.Member.Events)) b0))]) (fun y61 => [SlRes 3 y61.1.1 y61.2.1 y61.2.2]) ?_ (fun y61 h62p => ?_)
 · refine qb (lp AC hL54 (fun s50 y51 => [(10, vi s50.1), (9, .v (.slice y51.1 s50.2.length y51.2)), (2, vi x2), (3, vi x3), (4, .p 0 0)]) (fun s50 y51 => [(38, (eCase x0 b0))]) (fun s50 y51 => [SlRes 3 s50.2 y51.1 y51.2]) (y48.1, y48.2) [10, 9, 2, 3, 4] [0] 1 (fun s50 y51 t52 h58 hd59 => ?_))
   refine qs (qs (qr (oN 3 [(34, vb (decide (s50.1 < x2)))] [10, 9, 2, 3, 4] ?_)))
   refine oe (nt (cC h58 (fun h64 => ?_) (fun h65 => ?_)))
   · refine qk (nt (qs (qb (qr (oN 4 [(40, vi x3), (39, vi s50.1), (38, .v (vCase x0 b0)), (37, .v (.slice y51.1 s50.2.length y51.2))] [10, 2, 3, 4] ?_)))))
     obtain ⟨t66, h67, h68⟩ := bS h64
     refine k0 (fun γ w hs => c_impl_EntitlementAt (b0 := b0) h67 (hv0_0.kept hs.kept) (hv0_1.kept hs.kept) (hv0_2.kept hs.kept) (hv0_3.kept hs.kept) (hv0_4.kept hs.kept)) ?_
     refine ob [] [SlRes 3 s50.2 y51.1 y51.2] 3 1 [.int .i64 t66] ([t66] : List Int) (own_flat (by kernel_rfl)) (fun y70 => ?_)
     refine or_ [1, 0] ?_
     obtain ⟨l73, hm74, h75⟩ := bS h68
     refine oa 39 y70.2 Tryz.t3 (.int .i64 0) (fun γ w hs => ⟨y70.2, (hs.view 1 rfl)⟩) hm74 (fun y72 => ?_)
     refine oN 1 [(9, .v (.slice y72.1 l73.length y72.2))] [10, 2, 3, 4] ?_
     refine oe (bn (nt (qr (oN 3 [(10, vi (w64 (s50.1 + 1)))] [9, 2, 3, 4] ?_))))
     exact oe (ct h75 (y72.1, y72.2) [10, 9, 2, 3, 4] [0] 1)
   refine qx (nx (nx (bh ?_)))
   have h76 := leafB hd59 h65 h55
   exact mp ((s50.2, x0.Member.Birth, x0.Member.Joined), (y51.1, y51.2)) h76 [9] [0] 1
 have h62 := (congrFun hk57 _).symm.trans h62p
 refine nt (qs (qr (oN 2 [(8, .v (.slice y61.2.1 y61.1.1.length y61.2.2))] [] ?_)))
 refine oe (nt (qe (rt [.slice y61.2.1 y61.1.1.length y61.2.2] (fun γ w hs => ?_))))
 rw [← sI h62]
 exact ⟨y61.2, rfl, hs.kept.toBelow, (hs.takeR (is := [0]) rfl).fresh⟩

theorem c_impl_ImpactOf {W : World} {x0 : Case} {b0 : AC × AC × AC × AC × AC} {x1 : Rule} {a1_0 : Option Addr} {c1_0 : Nat} {x2 : Int} {x3 : Int} {x4 : Int} {r : (List Correction)} (h : impl_ImpactOf x0 x1 x2 x3 x4 = some r) (hv0_0 : SlView W x0.Book.Rules b0.1.1 b0.1.2) (hv0_1 : SlView W x0.Store.Facts b0.2.1.1 b0.2.1.2) (hv0_2 : SlView W x0.Series.Points b0.2.2.1.1 b0.2.2.1.2) (hv0_3 : SlView W x0.Member.Spells b0.2.2.2.1.1 b0.2.2.2.1.2) (hv0_4 : SlView W x0.Member.Events b0.2.2.2.2.1 b0.2.2.2.2.2) (hv1_0 : SlView W x1.Nodes a1_0 c1_0) :
    Gives Tryz.prog 33 #[vCase x0 b0, vRule x1 (a1_0, c1_0), .int .i64 x2, .int .i64 x3, .int .i64 x4] W (fun y : AC => .slice y.1 r.length y.2) (fun y => [SlRes 85 r y.1 y.2]) := by
 unfold impl_ImpactOf at h
 refine en Tryz.func33 Tryz.ntmps33 ?_
 refine qs (qr (oB 3 [(6, .p 1 0), (5, .p 0 0)] [2, 3, 4] [(38, (eCase x0 b0)), (76, (eRule x1 (a1_0, c1_0)))] ?_))
 refine oe (nt (qs (qr (oN 2 [(19, .v (vRule x1 (a1_0, c1_0))), (18, .v (vCase x0 b0))] [5, 2, 3, 4] ?_))))
 obtain ⟨t21, h22, h23⟩ := bS h
 refine k1 (fun γ w hs => c_impl_WithRule (b0 := b0) h22 (hv0_0.kept hs.kept) (hv0_1.kept hs.kept) (hv0_2.kept hs.kept) (hv0_3.kept hs.kept) (hv0_4.kept hs.kept) (hv1_0.kept hs.kept)) (fun y24 => ?_)
 refine oB 6 [(12, vb t21.2), (11, .p 2 0)] [5, 2, 3, 4] [(38, (eCase x0 b0)), (76, (eRule x1 (a1_0, c1_0))), (38, (eCase t21.1 y24))] ?_
 refine oe (nt (qs (qs (qr (oN 2 [(24, vb (!t21.2))] [11, 5, 2, 3, 4] ?_)))))
 refine oe (nt (cC h23 (fun h26 => ?_) (fun h27 => ?_)))
 · refine qs (qr (oN 1 [(10, .v (.slice none 0 0))] [] ?_))
   refine oe (nt (qe (nr (JE_addnil 85 (List.nil (α := Correction)) rfl ?_))))
   refine rt [.slice none 0 0] (fun γ w hs => ?_)
   rw [← sI h26]
   exact ⟨(none, 0), rfl, hs.kept.toBelow, (hs.takeR (is := [0]) rfl).fresh⟩
 refine qk (nt (qs (qr (ob [] [SlRes 76 t21.1.Book.Rules y24.1.1 y24.1.2, SlRes 47 t21.1.Store.Facts y24.2.1.1 y24.2.1.2, SlRes 52 t21.1.Series.Points y24.2.2.1.1 y24.2.2.1.2, SlRes 156 t21.1.Member.Spells y24.2.2.2.1.1 y24.2.2.2.1.2, SlRes 158 t21.1.Member.Events y24.2.2.2.2.1 y24.2.2.2.2.2] 85 0 [] ([] : List Correction) (own_flat (by kernel_rfl)) (fun y28 => ?_)))))
 refine oN 1 [(13, .v (.slice y28.1 ([] : List Correction).length y28.2))] [11, 5, 2, 3, 4] ?_
 refine oe (nt (qs (qr (oN 4 [(29, vi x4), (28, vi x3), (27, vi x2), (26, .v (vCase t21.1 y24))] [13, 5, 2, 3, 4] ?_))))
 obtain ⟨t30, h31, h32⟩ := bS h27
 refine k1 (fun γ w hs => c_impl_Entitlements (b0 := y24) h31 (hs.view 1 rfl) (hs.view 2 rfl) (hs.view 3 rfl) (hs.view 4 rfl) (hs.view 5 rfl)) (fun y33 => ?_)
 refine oN 1 [(14, .v (.slice y33.1 t30.length y33.2))] [13, 5, 2, 3, 4] ?_
 refine oe (nt (qs (qs (qr (oN 4 [(34, vi x4), (33, vi x3), (32, vi x2), (31, .v (vCase x0 b0))] [14, 13, 2] ?_)))))
 obtain ⟨t34, h35, h36⟩ := bS h32
 refine k1 (fun γ w hs => c_impl_Entitlements (b0 := b0) h35 (hv0_0.kept hs.kept) (hv0_1.kept hs.kept) (hv0_2.kept hs.kept) (hv0_3.kept hs.kept) (hv0_4.kept hs.kept)) (fun y37 => ?_)
 refine oN 2 [(37, vi 0), (36, vi (t34.length : Int))] [35, 14, 13, 2] ?_
 refine oe (nt ?_)
 obtain ⟨r41, hL42, h43⟩ := bS h36
 obtain ⟨k44, hk45, h43⟩ := brkS h43
 refine JC_cutP (τ := ((List Correction) × Int × Int × Int × Int × Int × Int × Int × Int × Int × Int) × (AC)) (fun y => k44 y.1 = some r) (fun y49 => [(13, .v (.slice y49.2.1 y49.1.1.length y49.2.2))]) (fun y49 => [(38, (eCase (Case.mk x0.Book x0.Store x0.Series (Member.mk y49.1.2.1 y49.1.2.2.1 x0.Member.Spells x0.Member.Events)) b0)), (76, (eRule (Rule.mk y49.1.2.2.2.1 y49.1.2.2.2.2.1 y49.1.2.2.2.2.2.1 y49.1.2.2.2.2.2.2.1 y49.1.2.2.2.2.2.2.2.1 y49.1.2.2.2.2.2.2.2.2.1 x1.Nodes) (a1_0, c1_0))), (38, (eCase (Case.mk t21.1.Book t21.1.Store t21.1.Series (Member.mk y49.1.2.2.2.2.2.2.2.2.2.1 y49.1.2.2.2.2.2.2.2.2.2.2 t21.1.Member.Spells t21.1.Member.Events)) y24))]) (fun y49 => [SlRes 85 y49.1.1 y49.2.1 y49.2.2, SlRes 76 t21.1.Book.Rules y24.1.1 y24.1.2, SlRes 47 t21.1.Store.Facts y24.2.1.1 y24.2.1.2, SlRes 52 t21.1.Series.Points y24.2.2.1.1 y24.2.2.1.2, SlRes 156 t21.1.Member.Spells y24.2.2.2.1.1 y24.2.2.2.1.2, SlRes 158 t21.1.Member.Events y24.2.2.2.2.1 y24.2.2.2.2.2]) ?_ (fun y49 h50p => ?_)
 · refine qb (lp AC hL42 (fun s38 y39 => [(37, vi s38.1), (36, vi (t34.length : Int)), (35, .v (.slice y37.1 t34.length y37.2)), (14, .v (.slice y33.1 t30.length y33.2)), (13, .v (.slice y39.1 s38.2.length y39.2)), (2, vi x2)]) (fun s38 y39 => [(38, (eCase x0 b0)), (76, (eRule x1 (a1_0, c1_0))), (38, (eCase t21.1 y24))]) (fun s38 y39 => [SlRes 3 t34 y37.1 y37.2, SlRes 3 t30 y33.1 y33.2, SlRes 85 s38.2 y39.1 y39.2, SlRes 76 t21.1.Book.Rules y24.1.1 y24.1.2, SlRes 47 t21.1.Store.Facts y24.2.1.1 y24.2.1.2, SlRes 52 t21.1.Series.Points y24.2.2.1.1 y24.2.2.1.2, SlRes 156 t21.1.Member.Spells y24.2.2.2.1.1 y24.2.2.2.1.2, SlRes 158 t21.1.Member.Events y24.2.2.2.2.1 y24.2.2.2.2.2]) (y28.1, y28.2) [37, 36, 35, 14, 13, 2] [0, 0, 0, 0, 0, 0, 0, 0] 3 (fun s38 y39 t40 h46 hd47 => ?_))
   refine qs (qr (oN 1 [(38, vb (decide (s38.1 < (t34.length : Int))))] [37, 36, 35, 14, 13, 2] ?_))
   refine oe (nt (qs (cC h46 (fun h52 => ?_) (fun h53 => ?_))))
   · refine qk (nt (qs (qb (qs (qr (oN 1 [(39, vi s38.1)] [37, 36, 35, 14, 13, 2] ?_))))))
     obtain ⟨x54, hx55, h56⟩ := bS h52
     refine oi 1 (fun γ w hs => (hs.view 0 rfl)) hx55 ?_
     refine ol 3 0 (.int .i64 x54) (fun γ w hs => (hs.view 0 rfl).flatq hx55) ?_
     refine oN 2 [(16, vi x54), (15, vi s38.1)] [37, 36, 35, 14, 13, 2] ?_
     refine oe (nt (qs (qr (oN 3 [(44, vi s38.1), (43, .v (.slice y33.1 t30.length y33.2)), (42, vi x54)] [16, 15, 37, 36, 35, 14, 13, 2] ?_))))
     obtain ⟨x57, hx58, h59⟩ := bS h56
     refine oi 1 (fun γ w hs => (hs.view 1 rfl)) hx58 ?_
     refine ol 3 0 (.int .i64 x57) (fun γ w hs => (hs.view 1 rfl).flatq hx58) ?_
     refine oN 1 [(47, vb (x54 != x57))] [16, 15, 37, 36, 35, 14, 13, 2] ?_
     refine oe (nt ?_)
     obtain ⟨k72, hk73, h75⟩ := jS h59
     refine JC_cutP (τ := ((List Correction)) × (AC)) (fun y => k72 y.1 = some t40) (fun y71 => [(37, vi s38.1), (36, vi (t34.length : Int)), (35, .v (.slice y37.1 t34.length y37.2)), (14, .v (.slice y33.1 t30.length y33.2)), (13, .v (.slice y71.2.1 y71.1.length y71.2.2)), (2, vi x2)]) (fun y71 => [(38, (eCase x0 b0)), (76, (eRule x1 (a1_0, c1_0))), (38, (eCase t21.1 y24))]) (fun y71 => [SlRes 3 t34 y37.1 y37.2, SlRes 3 t30 y33.1 y33.2, SlRes 85 y71.1 y71.2.1 y71.2.2, SlRes 76 t21.1.Book.Rules y24.1.1 y24.1.2, SlRes 47 t21.1.Store.Facts y24.2.1.1 y24.2.1.2, SlRes 52 t21.1.Series.Points y24.2.2.1.1 y24.2.2.1.2, SlRes 156 t21.1.Member.Spells y24.2.2.2.1.1 y24.2.2.2.1.2, SlRes 158 t21.1.Member.Events y24.2.2.2.2.1 y24.2.2.2.2.2]) ?_ (fun y71 h74p => ?_)
     · refine cC h75 (fun h77 => ?_) (fun h78 => ?_)
       · refine qr (oN 7 [(54, vi s38.1), (53, .v (.slice y33.1 t30.length y33.2)), (52, vi x54), (51, vi (w64 (x2 + s38.1))), (48, .v (.slice y39.1 s38.2.length y39.2))] [37, 36, 35, 14, 2] ?_)
         obtain ⟨x79, hx80, h81⟩ := bS h77
         refine oi 1 (fun γ w hs => (hs.view 1 rfl)) hx80 ?_
         refine ol 3 0 (.int .i64 x79) (fun γ w hs => (hs.view 1 rfl).flatq hx80) ?_
         refine oN 1 [(57, .v (vCorrection (Correction.mk (w64 (x2 + s38.1)) x54 x79)))] [48, 37, 36, 35, 14, 2] ?_
         refine ob [] [SlRes 3 t34 y37.1 y37.2, SlRes 3 t30 y33.1 y33.2, SlRes 85 s38.2 y39.1 y39.2, SlRes 76 t21.1.Book.Rules y24.1.1 y24.1.2, SlRes 47 t21.1.Store.Facts y24.2.1.1 y24.2.1.2, SlRes 52 t21.1.Series.Points y24.2.2.1.1 y24.2.2.1.2, SlRes 156 t21.1.Member.Spells y24.2.2.2.1.1 y24.2.2.2.1.2, SlRes 158 t21.1.Member.Events y24.2.2.2.2.1 y24.2.2.2.2.2] 85 1 [.int .i64 (w64 (x2 + s38.1)), .int .i64 x54, .int .i64 x79] ([Correction.mk (w64 (x2 + s38.1)) x54 x79] : List Correction) (own_flat (by kernel_rfl)) (fun y82 => ?_)
         refine JO_res (R' := [SlRes 85 s38.2 y39.1 y39.2, SlRes 85 ([Correction.mk (w64 (x2 + s38.1)) x54 x79] : List Correction) y82.1 y82.2, SlRes 3 t34 y37.1 y37.2, SlRes 3 t30 y33.1 y33.2, SlRes 76 t21.1.Book.Rules y24.1.1 y24.1.2, SlRes 47 t21.1.Store.Facts y24.2.1.1 y24.2.1.2, SlRes 52 t21.1.Series.Points y24.2.2.1.1 y24.2.2.1.2, SlRes 156 t21.1.Member.Spells y24.2.2.2.1.1 y24.2.2.2.1.2, SlRes 158 t21.1.Member.Events y24.2.2.2.2.1 y24.2.2.2.2.2]) [3, 0, 0, 0, 0, 0, 0, 0, 0] (by kernel_rfl) ?_
         obtain ⟨l85, hm86, h87⟩ := bS h81
         refine oa 81 y82.2 Tryz.t85 (vCorrection (Correction.mk 0 0 0)) (fun γ w hs => ⟨y82.2, (hs.view 1 rfl)⟩) hm86 (fun y84 => ?_)
         refine oN 1 [(13, .v (.slice y84.1 l85.length y84.2))] [37, 36, 35, 14, 2] ?_
         exact oe (mp (l85, (y84.1, y84.2)) h87 [37, 36, 35, 14, 13, 2] [2, 2, 0, 1, 1, 1, 1, 1] 3)
       exact qk (mp (s38.2, (y39.1, y39.2)) h78 [37, 36, 35, 14, 13, 2] [0, 0, 0, 0, 0, 0, 0, 0] 3)
     have h74 := (congrFun hk73 _).symm.trans h74p
     refine bn (nt (qr (oN 2 [(37, vi (w64 (s38.1 + 1)))] [36, 35, 14, 13, 2] ?_)))
     exact oe (ct h74 (y71.2.1, y71.2.2) [37, 36, 35, 14, 13, 2] [0, 0, 0, 0, 0, 0, 0, 0] 3)
   refine qx (nx (nx (bh ?_)))
   have h88 := leafB hd47 h53 h43
   exact mp ((s38.2, x0.Member.Birth, x0.Member.Joined, x1.Name, x1.From, x1.To, x1.Joined, x1.Rank, x1.Mode, t21.1.Member.Birth, t21.1.Member.Joined), (y39.1, y39.2)) h88 [13] [2, 2, 2, 2, 2, 2] 3
 have h50 := (congrFun hk45 _).symm.trans h50p
 refine nt (qs (qr (oN 2 [(10, .v (.slice y49.2.1 y49.1.1.length y49.2.2))] [] ?_)))
 refine oe (nt (qe (rt [.slice y49.2.1 y49.1.1.length y49.2.2] (fun γ w hs => ?_))))
 rw [← sI h50]
 exact ⟨y49.2, rfl, hs.kept.toBelow, (hs.takeR (is := [0]) rfl).fresh⟩

theorem c_spec_FactOk {W : World} {x0 : Fact} {r : Bool} (h : spec_FactOk x0 = some r)  :
    Gives0 Tryz.prog 126 #[vFact x0] W (.bool r) := by
 unfold spec_FactOk at h
 refine en Tryz.func126 Tryz.ntmps126 ?_
 refine qs (qr (oB 2 [(1, .p 0 0)] [] [(47, (eFact x0))] ?_))
 refine oe (nt (qs ?_))
 obtain ⟨p21, hE22, h23⟩ := bS h
 refine JC_cut (τ := Unit) (fun _ => [(2, vb p21)]) (fun _ => [(47, (eFact x0))]) (fun _ => []) ?_ (fun _ => ?_)
 · refine qr (oN 2 [(4, vi x0.Key)] [1] ?_)
   obtain ⟨t24, h25, h26⟩ := bS hE22
   refine k0 (fun γ w hs => c_spec_l01In h25) ?_
   refine oN 1 [(6, vb t24)] [1] ?_
   refine oS 6 h26 (fun h29 => ?_) (fun h30 => ?_)
   · refine oN 5 [(11, vb (decide (x0.From ≥ 0)))] [1] ?_
     refine oS 11 h29 (fun h32 => ?_) (fun h33 => ?_)
     · refine oN 7 [(18, vb (decide (x0.From < x0.To)))] [1] ?_
       refine oS 18 h32 (fun h35 => ?_) (fun h36 => ?_)
       · refine oN 5 [(23, vb (decide (x0.To ≤ 3600)))] [1] ?_
         refine oS 23 h35 (fun h38 => ?_) (fun h39 => ?_)
         · refine oN 2 [(25, vi x0.Known)] [23, 1] ?_
           obtain ⟨t40, h41, h42⟩ := bS h38
           refine k0 (fun γ w hs => c_spec_MonthOk h41) ?_
           refine oN 2 [(28, vb t40)] [1] ?_
           refine oS 28 h42 (fun h45 => ?_) (fun h46 => ?_)
           · refine oN 2 [(30, vi x0.Value)] [28] ?_
             obtain ⟨t47, h48, h49⟩ := bS h45
             refine k0 (fun γ w hs => c_spec_l01In h48) ?_
             refine oN 2 [(2, vb t47)] [] ?_
             refine oe ?_
             obtain rfl := sI h49
             exact mt () [2] [] 1
           refine oN 5 [(2, vb false)] [] ?_
           refine oe ?_
           obtain rfl := sI h46
           exact mt () [2] [] 1
         refine oN 10 [(2, vb false)] [] ?_
         refine oe ?_
         obtain rfl := sI h39
         exact mt () [2] [] 1
       refine oN 15 [(2, vb false)] [] ?_
       refine oe ?_
       obtain rfl := sI h36
       exact mt () [2] [] 1
     refine oN 22 [(2, vb false)] [] ?_
     refine oe ?_
     obtain rfl := sI h33
     exact mt () [2] [] 1
   refine oN 27 [(2, vb false)] [] ?_
   refine oe ?_
   obtain rfl := sI h30
   exact mt () [2] [] 1
 refine nt (qe ?_)
 obtain rfl := sI h23
 exact re [.bool p21]

theorem c_spec_StoreOk {W : World} {x0 : Store} {a0_0 : Option Addr} {c0_0 : Nat} {r : Bool} (h : spec_StoreOk x0 = some r) (hv0_0 : SlView W x0.Facts a0_0 c0_0) :
    Gives0 Tryz.prog 78 #[vStore x0 (a0_0, c0_0)] W (.bool r) := by
 unfold spec_StoreOk at h
 refine en Tryz.func78 Tryz.ntmps78 ?_
 refine qs (qr (oB 2 [(1, .p 0 0)] [] [(29, (eStore x0 (a0_0, c0_0)))] ?_))
 refine oe (nt (qs (qs (qr (oN 1 [(3, vi 0)] [1] ?_)))))
 refine oe (nt ?_)
 obtain ⟨r24, hL25, h26⟩ := bS h
 obtain ⟨k27, hk28, h26⟩ := brkS h26
 refine JC_cutP (τ := (Unit) × (Unit)) (fun y => k27 y.1 = some r) (fun y32 => [(1, .p 0 0)]) (fun y32 => [(29, (eStore x0 (a0_0, c0_0)))]) (fun y32 => []) ?_ (fun y32 h33p => ?_)
 · refine qb (lp Unit hL25 (fun s21 y22 => [(3, vi s21), (1, .p 0 0)]) (fun s21 y22 => [(29, (eStore x0 (a0_0, c0_0)))]) (fun s21 y22 => []) () [3, 1] [] 1 (fun s21 y22 t23 h29 hd30 => ?_))
   refine qs (qs (qr (oN 5 [(8, vb (decide (s21 < (x0.Facts.length : Int))))] [3, 1] ?_)))
   refine oe (nt (cC h29 (fun h35 => ?_) (fun h36 => ?_)))
   · refine qk (nt (qs (qb (qs ?_))))
     obtain ⟨p37, hE38, h39⟩ := bS h35
     refine JC_cut (τ := Unit) (fun _ => [(1, .p 0 0), (3, vi s21), (37, vb p37)]) (fun _ => [(29, (eStore x0 (a0_0, c0_0)))]) (fun _ => []) ?_ (fun _ => ?_)
     · refine JC_quiet (by kernel_rfl) (by kernel_rfl) ?_
       refine qN 3 [(13, vi s21), (12, .v (.slice a0_0 x0.Facts.length c0_0))] [3, 1] ?_
       obtain ⟨x40, hx41, h42⟩ := bS hE38
       refine qi 5 (fun γ w hs => (hv0_0.kept hs.kept)) hx41 ?_
       refine ql 47 0 (vFact x40) (fun γ w hs => (hv0_0.kept hs.kept).flatq hx41) ?_
       obtain ⟨t43, h44, h45⟩ := bS h42
       refine q0 (fun γ w hs => c_spec_FactOk h44) ?_
       refine qN 2 [(18, vb (!t43))] [3, 1] ?_
       refine qS 18 h45 (fun h48 => ?_) (fun h49 => ?_)
       · refine qN 19 [(37, vb true)] [3, 1] ?_
         refine qz ?_
         obtain rfl := sI h48
         exact mt () [1, 3, 37] [] 1
       refine qN 3 [(21, vb (decide (s21 > 0)))] [18, 3, 1] ?_
       refine qS 21 h49 (fun h51 => ?_) (fun h52 => ?_)
       · refine qN 4 [(25, vi (w64 (s21 - 1))), (23, .v (.slice a0_0 x0.Facts.length c0_0))] [21, 18, 3, 1] ?_
         obtain ⟨x53, hx54, h55⟩ := bS h51
         refine qi 5 (fun γ w hs => (hv0_0.kept hs.kept)) hx54 ?_
         refine qN 1 [(27, .q a0_0 (Int.toNat (w64 (s21 - 1)) * 5 + 3))] [21, 18, 3, 1] ?_
         refine ql 3 3 (.int .i64 x53.Known) (fun γ w hs => (hv0_0.kept hs.kept).flatq hx54) ?_
         refine qN 3 [(31, vi s21), (30, .v (.slice a0_0 x0.Facts.length c0_0))] [28, 21, 18, 3, 1] ?_
         obtain ⟨x56, hx57, h58⟩ := bS h55
         refine qi 5 (fun γ w hs => (hv0_0.kept hs.kept)) hx57 ?_
         refine qN 1 [(33, .q a0_0 (Int.toNat s21 * 5 + 3))] [28, 21, 18, 3, 1] ?_
         refine ql 3 3 (.int .i64 x56.Known) (fun γ w hs => (hv0_0.kept hs.kept).flatq hx57) ?_
         refine qN 3 [(37, vb (decide (x53.Known > x56.Known)))] [3, 1] ?_
         refine qz ?_
         obtain rfl := sI h58
         exact mt () [1, 3, 37] [] 1
       refine qN 16 [(37, vb false)] [3, 1] ?_
       refine qz ?_
       obtain rfl := sI h52
       exact mt () [1, 3, 37] [] 1
     refine nt (cC h39 (fun h60 => ?_) (fun h61 => ?_))
     · refine qs (qr (oN 1 [(2, vb false)] [] ?_))
       refine oe (nt (qe (br (nr (nr ?_)))))
       have h62 := leafR hd30 h60 h26
       refine br (nr (nr ?_))
       obtain rfl := sI h62
       exact re [.bool false]
     refine qk (bn (nt (qr (oN 3 [(3, vi (w64 (s21 + 1)))] [1] ?_))))
     exact oe (ct h61 () [3, 1] [] 1)
   refine qx (nx (nx (bh ?_)))
   have h63 := leafB hd30 h36 h26
   exact mp ((), ()) h63 [1] [] 1
 have h33 := (congrFun hk28 _).symm.trans h33p
 refine nt (qs (qr (oN 5 [(2, vb (decide ((x0.Facts.length : Int) ≤ 200)))] [] ?_)))
 refine oe (nt (qe ?_))
 obtain rfl := sI h33
 exact re [.bool (decide ((x0.Facts.length : Int) ≤ 200))]

theorem c_spec_SeriesOk {W : World} {x0 : Series} {a0_0 : Option Addr} {c0_0 : Nat} {r : Bool} (h : spec_SeriesOk x0 = some r) (hv0_0 : SlView W x0.Points a0_0 c0_0) :
    Gives0 Tryz.prog 107 #[vSeries x0 (a0_0, c0_0)] W (.bool r) := by
 unfold spec_SeriesOk at h
 refine en Tryz.func107 Tryz.ntmps107 ?_
 refine qs (qr (oB 2 [(1, .p 0 0)] [] [(32, (eSeries x0 (a0_0, c0_0)))] ?_))
 refine oe (nt (qs (qs (qr (oN 1 [(3, vi 0)] [1] ?_)))))
 refine oe (nt ?_)
 obtain ⟨r24, hL25, h26⟩ := bS h
 obtain ⟨k27, hk28, h26⟩ := brkS h26
 refine JC_cutP (τ := (Unit) × (Unit)) (fun y => k27 y.1 = some r) (fun y32 => [(1, .p 0 0)]) (fun y32 => [(32, (eSeries x0 (a0_0, c0_0)))]) (fun y32 => []) ?_ (fun y32 h33p => ?_)
 · refine qb (lp Unit hL25 (fun s21 y22 => [(3, vi s21), (1, .p 0 0)]) (fun s21 y22 => [(32, (eSeries x0 (a0_0, c0_0)))]) (fun s21 y22 => []) () [3, 1] [] 1 (fun s21 y22 t23 h29 hd30 => ?_))
   refine qs (qs (qr (oN 5 [(9, vb (decide (s21 < (x0.Points.length : Int))))] [3, 1] ?_)))
   refine oe (nt (cC h29 (fun h35 => ?_) (fun h36 => ?_)))
   · refine qk (nt (qs (qb (qs (qr (oN 3 [(14, vi s21), (13, .v (.slice a0_0 x0.Points.length c0_0))] [3, 1] ?_))))))
     obtain ⟨x37, hx38, h39⟩ := bS h35
     refine oi 3 (fun γ w hs => (hv0_0.kept hs.kept)) hx38 ?_
     refine ol 52 0 (vPoint x37) (fun γ w hs => (hv0_0.kept hs.kept).flatq hx38) ?_
     refine oB 2 [(4, .p 1 0)] [3, 1] [(32, (eSeries x0 (a0_0, c0_0))), (52, (ePoint x37))] ?_
     refine oe (nt (qs ?_))
     obtain ⟨p40, hE41, h42⟩ := bS h39
     refine JC_cut (τ := Unit) (fun _ => [(1, .p 0 0), (3, vi s21), (55, vb p40)]) (fun _ => [(32, (eSeries x0 (a0_0, c0_0))), (52, (ePoint x37))]) (fun _ => []) ?_ (fun _ => ?_)
     · refine JC_quiet (by kernel_rfl) (by kernel_rfl) ?_
       refine qN 2 [(18, vi x37.Month)] [4, 3, 1] ?_
       obtain ⟨t43, h44, h45⟩ := bS hE41
       refine q0 (fun γ w hs => c_spec_MonthOk h44) ?_
       refine qN 2 [(21, vb (!t43))] [4, 3, 1] ?_
       refine qS 21 h45 (fun h48 => ?_) (fun h49 => ?_)
       · refine qN 34 [(55, vb true)] [3, 1] ?_
         refine qz ?_
         obtain rfl := sI h48
         exact mt () [1, 3, 55] [] 2
       refine qN 2 [(23, vi x37.Known)] [21, 4, 3, 1] ?_
       obtain ⟨t50, h51, h52⟩ := bS h49
       refine q0 (fun γ w hs => c_spec_MonthOk h51) ?_
       refine qN 3 [(27, vb (!t50))] [4, 3, 1] ?_
       refine qS 27 h52 (fun h55 => ?_) (fun h56 => ?_)
       · refine qN 28 [(55, vb true)] [3, 1] ?_
         refine qz ?_
         obtain rfl := sI h55
         exact mt () [1, 3, 55] [] 2
       refine qN 7 [(34, vb (decide (x37.Known < x37.Month)))] [4, 3, 1] ?_
       refine qS 34 h56 (fun h58 => ?_) (fun h59 => ?_)
       · refine qN 21 [(55, vb true)] [3, 1] ?_
         refine qz ?_
         obtain rfl := sI h58
         exact mt () [1, 3, 55] [] 2
       refine qN 2 [(36, vi x37.Value)] [34, 4, 3, 1] ?_
       obtain ⟨t60, h61, h62⟩ := bS h59
       refine q0 (fun γ w hs => c_spec_l01In h61) ?_
       refine qN 3 [(40, vb (!t60))] [4, 3, 1] ?_
       refine qS 40 h62 (fun h65 => ?_) (fun h66 => ?_)
       · refine qN 15 [(55, vb true)] [3, 1] ?_
         refine qz ?_
         obtain rfl := sI h65
         exact mt () [1, 3, 55] [] 2
       refine qN 3 [(43, vb (decide (s21 > 0)))] [40, 4, 3, 1] ?_
       refine qS 43 h66 (fun h68 => ?_) (fun h69 => ?_)
       · refine qN 4 [(47, vi (w64 (s21 - 1))), (45, .v (.slice a0_0 x0.Points.length c0_0))] [43, 40, 4, 3, 1] ?_
         obtain ⟨x70, hx71, h72⟩ := bS h68
         refine qi 3 (fun γ w hs => (hv0_0.kept hs.kept)) hx71 ?_
         refine qN 1 [(49, .q a0_0 (Int.toNat (w64 (s21 - 1)) * 3 + 1))] [43, 40, 4, 3, 1] ?_
         refine ql 3 1 (.int .i64 x70.Known) (fun γ w hs => (hv0_0.kept hs.kept).flatq hx71) ?_
         refine qN 5 [(55, vb (decide (x70.Known > x37.Known)))] [3, 1] ?_
         refine qz ?_
         obtain rfl := sI h72
         exact mt () [1, 3, 55] [] 2
       refine qN 12 [(55, vb false)] [3, 1] ?_
       refine qz ?_
       obtain rfl := sI h69
       exact mt () [1, 3, 55] [] 2
     refine nt (cC h42 (fun h74 => ?_) (fun h75 => ?_))
     · refine qs (qr (oN 1 [(2, vb false)] [] ?_))
       refine oe (nt (qe (br (nr (nr ?_)))))
       have h76 := leafR hd30 h74 h26
       refine br (nr (nr ?_))
       obtain rfl := sI h76
       exact re [.bool false]
     refine qk (bn (nt (qr (oN 3 [(3, vi (w64 (s21 + 1)))] [1] ?_))))
     exact oe (ct h75 () [3, 1] [] 1)
   refine qx (nx (nx (bh ?_)))
   have h77 := leafB hd30 h36 h26
   exact mp ((), ()) h77 [1] [] 1
 have h33 := (congrFun hk28 _).symm.trans h33p
 refine nt (qs (qr (oN 5 [(2, vb (decide ((x0.Points.length : Int) ≤ 200)))] [] ?_)))
 refine oe (nt (qe ?_))
 obtain rfl := sI h33
 exact re [.bool (decide ((x0.Points.length : Int) ≤ 200))]

theorem c_spec_SpellsOk {W : World} {x0 : List Spell} {a0_0 : Option Addr} {c0_0 : Nat} {r : Bool} (h : spec_SpellsOk x0 = some r) (hv0_0 : SlView W x0 a0_0 c0_0) :
    Gives0 Tryz.prog 158 #[.slice a0_0 x0.length c0_0] W (.bool r) := by
 unfold spec_SpellsOk at h
 refine en Tryz.func158 Tryz.ntmps158 ?_
 refine qs (qr (oN 1 [] [0] ?_))
 refine oe (nt (qs (qs (qr (oN 1 [(3, vi 0)] [0] ?_)))))
 refine oe (nt ?_)
 obtain ⟨r24, hL25, h26⟩ := bS h
 obtain ⟨k27, hk28, h26⟩ := brkS h26
 refine JC_cutP (τ := (Unit) × (Unit)) (fun y => k27 y.1 = some r) (fun y32 => [(0, .v (.slice a0_0 x0.length c0_0))]) (fun y32 => []) (fun y32 => []) ?_ (fun y32 h33p => ?_)
 · refine qb (lp Unit hL25 (fun s21 y22 => [(3, vi s21), (0, .v (.slice a0_0 x0.length c0_0))]) (fun s21 y22 => []) (fun s21 y22 => []) () [3, 0] [] 0 (fun s21 y22 t23 h29 hd30 => ?_))
   refine qs (qs (qr (oN 4 [(8, vb (decide (s21 < (x0.length : Int))))] [3, 0] ?_)))
   refine oe (nt (cC h29 (fun h35 => ?_) (fun h36 => ?_)))
   · refine qk (nt (qs (qb (qs (qr (oN 2 [(12, vi s21), (11, .v (.slice a0_0 x0.length c0_0))] [3, 0] ?_))))))
     obtain ⟨x37, hx38, h39⟩ := bS h35
     refine oi 4 (fun γ w hs => (hv0_0.kept hs.kept)) hx38 ?_
     refine ol 156 0 (vSpell x37) (fun γ w hs => (hv0_0.kept hs.kept).flatq hx38) ?_
     refine oB 2 [(4, .p 0 0)] [3, 0] [(156, (eSpell x37))] ?_
     refine oe (nt (qs ?_))
     obtain ⟨p40, hE41, h42⟩ := bS h39
     refine JC_cut (τ := Unit) (fun _ => [(0, .v (.slice a0_0 x0.length c0_0)), (3, vi s21), (50, vb p40)]) (fun _ => [(156, (eSpell x37))]) (fun _ => []) ?_ (fun _ => ?_)
     · refine JC_quiet (by kernel_rfl) (by kernel_rfl) ?_
       refine qN 4 [(18, vb (decide (x37.From < 0)))] [4, 3, 0] ?_
       refine qS 18 hE41 (fun h44 => ?_) (fun h45 => ?_)
       · refine qN 32 [(50, vb true)] [3, 0] ?_
         refine qz ?_
         obtain rfl := sI h44
         exact mt () [0, 3, 50] [] 1
       refine qN 7 [(25, vb (decide (x37.From ≥ x37.To)))] [4, 3, 0] ?_
       refine qS 25 h45 (fun h47 => ?_) (fun h48 => ?_)
       · refine qN 25 [(50, vb true)] [3, 0] ?_
         refine qz ?_
         obtain rfl := sI h47
         exact mt () [0, 3, 50] [] 1
       refine qN 5 [(30, vb (decide (x37.To > 3600)))] [4, 3, 0] ?_
       refine qS 30 h48 (fun h50 => ?_) (fun h51 => ?_)
       · refine qN 20 [(50, vb true)] [3, 0] ?_
         refine qz ?_
         obtain rfl := sI h50
         exact mt () [0, 3, 50] [] 1
       refine qN 2 [(32, vi x37.Percent)] [30, 4, 3, 0] ?_
       obtain ⟨t52, h53, h54⟩ := bS h51
       refine q0 (fun γ w hs => c_spec_l01In h53) ?_
       refine qN 3 [(36, vb (!t52))] [4, 3, 0] ?_
       refine qS 36 h54 (fun h57 => ?_) (fun h58 => ?_)
       · refine qN 14 [(50, vb true)] [3, 0] ?_
         refine qz ?_
         obtain rfl := sI h57
         exact mt () [0, 3, 50] [] 1
       refine qN 3 [(39, vb (decide (s21 > 0)))] [36, 4, 3, 0] ?_
       refine qS 39 h58 (fun h60 => ?_) (fun h61 => ?_)
       · refine qN 3 [(42, vi (w64 (s21 - 1))), (40, .v (.slice a0_0 x0.length c0_0))] [39, 36, 4, 3, 0] ?_
         obtain ⟨x62, hx63, h64⟩ := bS h60
         refine qi 4 (fun γ w hs => (hv0_0.kept hs.kept)) hx63 ?_
         refine qN 1 [(44, .q a0_0 (Int.toNat (w64 (s21 - 1)) * 4 + 1))] [39, 36, 4, 3, 0] ?_
         refine ql 3 1 (.int .i64 x62.To) (fun γ w hs => (hv0_0.kept hs.kept).flatq hx63) ?_
         refine qN 5 [(50, vb (decide (x62.To > x37.From)))] [3, 0] ?_
         refine qz ?_
         obtain rfl := sI h64
         exact mt () [0, 3, 50] [] 1
       refine qN 11 [(50, vb false)] [3, 0] ?_
       refine qz ?_
       obtain rfl := sI h61
       exact mt () [0, 3, 50] [] 1
     refine nt (cC h42 (fun h66 => ?_) (fun h67 => ?_))
     · refine qs (qr (oN 1 [(2, vb false)] [] ?_))
       refine oe (nt (qe (br (nr (nr ?_)))))
       have h68 := leafR hd30 h66 h26
       refine br (nr (nr ?_))
       obtain rfl := sI h68
       exact re [.bool false]
     refine qk (bn (nt (qr (oN 3 [(3, vi (w64 (s21 + 1)))] [0] ?_))))
     exact oe (ct h67 () [3, 0] [] 0)
   refine qx (nx (nx (bh ?_)))
   have h69 := leafB hd30 h36 h26
   exact mp ((), ()) h69 [0] [] 0
 have h33 := (congrFun hk28 _).symm.trans h33p
 refine nt (qs (qr (oN 4 [(2, vb (decide ((x0.length : Int) ≤ 30)))] [] ?_)))
 refine oe (nt (qe ?_))
 obtain rfl := sI h33
 exact re [.bool (decide ((x0.length : Int) ≤ 30))]

theorem c_spec_MemberOk {W : World} {x0 : Member} {b0 : AC × AC} {r : Bool} (h : spec_MemberOk x0 = some r) (hv0_0 : SlView W x0.Spells b0.1.1 b0.1.2) (hv0_1 : SlView W x0.Events b0.2.1 b0.2.2) :
    Gives0 Tryz.prog 108 #[vMember x0 b0] W (.bool r) := by
 unfold spec_MemberOk at h
 refine en Tryz.func108 Tryz.ntmps108 ?_
 refine qs (qr (oB 2 [(1, .p 0 0)] [] [(36, (eMember x0 b0))] ?_))
 refine oe (nt (qs ?_))
 obtain ⟨p21, hE22, h23⟩ := bS h
 refine JC_cut (τ := Unit) (fun _ => [(2, vb p21)]) (fun _ => [(36, (eMember x0 b0))]) (fun _ => []) ?_ (fun _ => ?_)
 · refine qr (oN 2 [(4, vi x0.Birth)] [1] ?_)
   obtain ⟨t24, h25, h26⟩ := bS hE22
   refine k0 (fun γ w hs => c_spec_MonthOk h25) ?_
   refine oN 1 [(6, vb t24)] [1] ?_
   refine oS 6 h26 (fun h29 => ?_) (fun h30 => ?_)
   · refine oN 2 [(8, vi x0.Joined)] [6, 1] ?_
     obtain ⟨t31, h32, h33⟩ := bS h29
     refine k0 (fun γ w hs => c_spec_MonthOk h32) ?_
     refine oN 2 [(11, vb t31)] [1] ?_
     refine oS 11 h33 (fun h36 => ?_) (fun h37 => ?_)
     · refine oN 7 [(18, vb (decide (x0.Birth ≤ x0.Joined)))] [1] ?_
       refine oS 18 h36 (fun h39 => ?_) (fun h40 => ?_)
       · refine oN 2 [(20, .v (.slice b0.1.1 x0.Spells.length b0.1.2))] [18, 1] ?_
         obtain ⟨t41, h42, h43⟩ := bS h39
         refine k0 (fun γ w hs => c_spec_SpellsOk h42 (hv0_0.kept hs.kept)) ?_
         refine oN 2 [(23, vb t41)] [1] ?_
         refine oS 23 h43 (fun h46 => ?_) (fun h47 => ?_)
         · refine oN 2 [(25, .v (.slice b0.2.1 x0.Events.length b0.2.2))] [23] ?_
           obtain ⟨t48, h49, h50⟩ := bS h46
           refine k0 (fun γ w hs => c_spec_EventsOk h49 (hv0_1.kept hs.kept)) ?_
           refine oN 2 [(2, vb t48)] [] ?_
           refine oe ?_
           obtain rfl := sI h50
           exact mt () [2] [] 1
         refine oN 5 [(2, vb false)] [] ?_
         refine oe ?_
         obtain rfl := sI h47
         exact mt () [2] [] 1
       refine oN 10 [(2, vb false)] [] ?_
       refine oe ?_
       obtain rfl := sI h40
       exact mt () [2] [] 1
     refine oN 17 [(2, vb false)] [] ?_
     refine oe ?_
     obtain rfl := sI h37
     exact mt () [2] [] 1
   refine oN 22 [(2, vb false)] [] ?_
   refine oe ?_
   obtain rfl := sI h30
   exact mt () [2] [] 1
 refine nt (qe ?_)
 obtain rfl := sI h23
 exact re [.bool p21]

theorem c_spec_CaseOk {W : World} {x0 : Case} {b0 : AC × AC × AC × AC × AC} {r : Bool} (h : spec_CaseOk x0 = some r) (hv0_0 : SlView W x0.Book.Rules b0.1.1 b0.1.2) (hv0_1 : SlView W x0.Store.Facts b0.2.1.1 b0.2.1.2) (hv0_2 : SlView W x0.Series.Points b0.2.2.1.1 b0.2.2.1.2) (hv0_3 : SlView W x0.Member.Spells b0.2.2.2.1.1 b0.2.2.2.1.2) (hv0_4 : SlView W x0.Member.Events b0.2.2.2.2.1 b0.2.2.2.2.2) :
    Gives0 Tryz.prog 66 #[vCase x0 b0] W (.bool r) := by
 unfold spec_CaseOk at h
 refine en Tryz.func66 Tryz.ntmps66 ?_
 refine qs (qr (oB 2 [(1, .p 0 0)] [] [(38, (eCase x0 b0))] ?_))
 refine oe (nt (qs ?_))
 obtain ⟨p21, hE22, h23⟩ := bS h
 refine JC_cut (τ := Unit) (fun _ => [(2, vb p21)]) (fun _ => [(38, (eCase x0 b0))]) (fun _ => []) ?_ (fun _ => ?_)
 · refine qr (oN 2 [(4, .v (vBook x0.Book b0.1))] [1] ?_)
   obtain ⟨t24, h25, h26⟩ := bS hE22
   refine k0 (fun γ w hs => c_spec_BookOk h25 (hv0_0.kept hs.kept)) ?_
   refine oN 1 [(6, vb t24)] [1] ?_
   refine oS 6 h26 (fun h29 => ?_) (fun h30 => ?_)
   · refine oN 2 [(8, .v (vStore x0.Store b0.2.1))] [6, 1] ?_
     obtain ⟨t31, h32, h33⟩ := bS h29
     refine k0 (fun γ w hs => c_spec_StoreOk h32 (hv0_1.kept hs.kept)) ?_
     refine oN 2 [(11, vb t31)] [1] ?_
     refine oS 11 h33 (fun h36 => ?_) (fun h37 => ?_)
     · refine oN 2 [(13, .v (vSeries x0.Series b0.2.2.1))] [11, 1] ?_
       obtain ⟨t38, h39, h40⟩ := bS h36
       refine k0 (fun γ w hs => c_spec_SeriesOk h39 (hv0_2.kept hs.kept)) ?_
       refine oN 2 [(16, vb t38)] [1] ?_
       refine oS 16 h40 (fun h43 => ?_) (fun h44 => ?_)
       · refine oN 2 [(18, .v (vMember x0.Member b0.2.2.2))] [16] ?_
         obtain ⟨t45, h46, h47⟩ := bS h43
         refine k0 (fun γ w hs => c_spec_MemberOk (b0 := b0.2.2.2) h46 (hv0_3.kept hs.kept) (hv0_4.kept hs.kept)) ?_
         refine oN 2 [(2, vb t45)] [] ?_
         refine oe ?_
         obtain rfl := sI h47
         exact mt () [2] [] 1
       refine oN 5 [(2, vb false)] [] ?_
       refine oe ?_
       obtain rfl := sI h44
       exact mt () [2] [] 1
     refine oN 10 [(2, vb false)] [] ?_
     refine oe ?_
     obtain rfl := sI h37
     exact mt () [2] [] 1
   refine oN 15 [(2, vb false)] [] ?_
   refine oe ?_
   obtain rfl := sI h30
   exact mt () [2] [] 1
 refine nt (qe ?_)
 obtain rfl := sI h23
 exact re [.bool p21]

theorem c_spec_StatusAt {W : World} {x0 : List Event} {a0_0 : Option Addr} {c0_0 : Nat} {x1 : Int} {r : Int} (h : spec_StatusAt x0 x1 = some r) (hv0_0 : SlView W x0 a0_0 c0_0) :
    Gives0 Tryz.prog 109 #[.slice a0_0 x0.length c0_0, .int .i64 x1] W (.int .i64 r) := by
 unfold spec_StatusAt at h
 refine en Tryz.func109 Tryz.ntmps109 ?_
 refine qs (qr (oN 1 [] [0, 1] ?_))
 refine oe (nt (qs (qr (oN 1 [(5, vi 0)] [0, 1] ?_))))
 refine oe (nt (qs (qs (qr (oN 1 [(6, vi 0)] [5, 0, 1] ?_)))))
 refine oe (nt ?_)
 obtain ⟨r24, hL25, h26⟩ := bS h
 obtain ⟨k27, hk28, h26⟩ := brkS h26
 refine JC_cutP (τ := (Int) × (Unit)) (fun y => k27 y.1 = some r) (fun y32 => [(5, vi y32.1)]) (fun y32 => []) (fun y32 => []) ?_ (fun y32 h33p => ?_)
 · refine qb (lp Unit hL25 (fun s21 y22 => [(6, vi s21.1), (5, vi s21.2), (0, .v (.slice a0_0 x0.length c0_0)), (1, vi x1)]) (fun s21 y22 => []) (fun s21 y22 => []) () [6, 5, 0, 1] [] 0 (fun s21 y22 t23 h29 hd30 => ?_))
   refine qs (qs ?_)
   obtain ⟨p34, hE35, h36⟩ := bS h29
   refine JC_cut (τ := Unit) (fun _ => [(0, .v (.slice a0_0 x0.length c0_0)), (1, vi x1), (5, vi s21.2), (6, vi s21.1), (23, vb p34)]) (fun _ => []) (fun _ => []) ?_ (fun _ => ?_)
   · refine qr (oN 5 [(11, vb (decide (s21.1 < (x0.length : Int))))] [6, 5, 0, 1] ?_)
     refine oS 11 hE35 (fun h38 => ?_) (fun h39 => ?_)
     · refine oN 1 [(12, .v (.slice a0_0 x0.length c0_0))] [11, 6, 5, 0, 1] ?_
       obtain ⟨t40, h41, h42⟩ := bS h38
       refine k0 (fun γ w hs => c_spec_EventsOk h41 (hv0_0.kept hs.kept)) ?_
       refine oN 2 [(15, vb t40)] [6, 5, 0, 1] ?_
       refine oS 15 h42 (fun h45 => ?_) (fun h46 => ?_)
       · refine oN 2 [(17, vi s21.1), (16, .v (.slice a0_0 x0.length c0_0))] [15, 6, 5, 0, 1] ?_
         obtain ⟨x47, hx48, h49⟩ := bS h45
         refine oi 2 (fun γ w hs => (hv0_0.kept hs.kept)) hx48 ?_
         refine oN 1 [(19, .q a0_0 (Int.toNat s21.1 * 2 + 1))] [15, 6, 5, 0, 1] ?_
         refine ol 3 1 (.int .i64 x47.Month) (fun γ w hs => (hv0_0.kept hs.kept).flatq hx48) ?_
         refine oN 3 [(23, vb (decide (x47.Month ≤ x1)))] [6, 5, 0, 1] ?_
         refine oe ?_
         obtain rfl := sI h49
         exact mt () [0, 1, 5, 6, 23] [] 0
       refine oN 8 [(23, vb false)] [6, 5, 0, 1] ?_
       refine oe ?_
       obtain rfl := sI h46
       exact mt () [0, 1, 5, 6, 23] [] 0
     refine oN 12 [(23, vb false)] [6, 5, 0, 1] ?_
     refine oe ?_
     obtain rfl := sI h39
     exact mt () [0, 1, 5, 6, 23] [] 0
   refine nt (cC h36 (fun h51 => ?_) (fun h52 => ?_))
   · refine qk (nt (qs (qb (qr (oN 3 [(29, vi s21.1), (28, .v (.slice a0_0 x0.length c0_0)), (27, vi s21.2)] [0, 1, 6] ?_)))))
     obtain ⟨x53, hx54, h55⟩ := bS h51
     refine oi 2 (fun γ w hs => (hv0_0.kept hs.kept)) hx54 ?_
     refine oN 1 [(31, .q a0_0 (Int.toNat s21.1 * 2))] [27, 0, 1, 6] ?_
     refine ol 3 0 (.int .i64 x53.Kind) (fun γ w hs => (hv0_0.kept hs.kept).flatq hx54) ?_
     obtain ⟨t56, h57, h58⟩ := bS h55
     refine k0 (fun γ w hs => c_spec_StatusAfter h57) ?_
     refine oN 4 [(5, vi t56.1)] [0, 1, 6] ?_
     refine oe (bn (nt (qr (oN 3 [(6, vi (w64 (s21.1 + 1)))] [5, 0, 1] ?_))))
     exact oe (ct h58 () [6, 5, 0, 1] [] 0)
   refine qx (nx (nx (bh ?_)))
   have h60 := leafB hd30 h52 h26
   exact mp (s21.2, ()) h60 [5] [] 0
 have h33 := (congrFun hk28 _).symm.trans h33p
 refine nt (qs (qr (oN 2 [(4, vi y32.1)] [] ?_)))
 refine oe (nt (qe ?_))
 obtain rfl := sI h33
 exact re [.int .i64 y32.1]

theorem c_spec_ServiceIn {W : World} {x0 : List Spell} {a0_0 : Option Addr} {c0_0 : Nat} {x1 : Int} {x2 : Int} {r : Int} (h : spec_ServiceIn x0 x1 x2 = some r) (hv0_0 : SlView W x0 a0_0 c0_0) :
    Gives0 Tryz.prog 162 #[.slice a0_0 x0.length c0_0, .int .i64 x1, .int .i64 x2] W (.int .i64 r) := by
 unfold spec_ServiceIn at h
 refine en Tryz.func162 Tryz.ntmps162 ?_
 refine qs (qr (oN 1 [] [0, 1, 2] ?_))
 refine oe (nt (qs (qr (oN 1 [(7, vi 0)] [0, 1, 2] ?_))))
 refine oe (nt (qs (qs (qr (oN 1 [(8, vi 0)] [7, 0, 1, 2] ?_)))))
 refine oe (nt ?_)
 obtain ⟨r24, hL25, h26⟩ := bS h
 obtain ⟨k27, hk28, h26⟩ := brkS h26
 refine JC_cutP (τ := (Int) × (Unit)) (fun y => k27 y.1 = some r) (fun y32 => [(7, vi y32.1)]) (fun y32 => []) (fun y32 => []) ?_ (fun y32 h33p => ?_)
 · refine qb (lp Unit hL25 (fun s21 y22 => [(8, vi s21.1), (7, vi s21.2), (0, .v (.slice a0_0 x0.length c0_0)), (1, vi x1), (2, vi x2)]) (fun s21 y22 => []) (fun s21 y22 => []) () [8, 7, 0, 1, 2] [] 0 (fun s21 y22 t23 h29 hd30 => ?_))
   refine qs (qs ?_)
   obtain ⟨p34, hE35, h36⟩ := bS h29
   refine JC_cut (τ := Unit) (fun _ => [(0, .v (.slice a0_0 x0.length c0_0)), (1, vi x1), (2, vi x2), (7, vi s21.2), (8, vi s21.1), (16, vb p34)]) (fun _ => []) (fun _ => []) ?_ (fun _ => ?_)
   · refine qr (oN 5 [(13, vb (decide (s21.1 < (x0.length : Int))))] [8, 7, 0, 1, 2] ?_)
     refine oS 13 hE35 (fun h38 => ?_) (fun h39 => ?_)
     · refine oN 1 [(14, .v (.slice a0_0 x0.length c0_0))] [13, 8, 7, 0, 1, 2] ?_
       obtain ⟨t40, h41, h42⟩ := bS h38
       refine k0 (fun γ w hs => c_spec_SpellsOk h41 (hv0_0.kept hs.kept)) ?_
       refine oN 1 [(16, vb t40)] [8, 7, 0, 1, 2] ?_
       refine oe ?_
       obtain rfl := sI h42
       exact mt () [0, 1, 2, 7, 8, 16] [] 0
     refine oN 3 [(16, vb false)] [8, 7, 0, 1, 2] ?_
     refine oe ?_
     obtain rfl := sI h39
     exact mt () [0, 1, 2, 7, 8, 16] [] 0
   refine nt (cC h36 (fun h45 => ?_) (fun h46 => ?_))
   · refine qk (nt (qs (qb (qs (qr (oN 2 [(20, vi s21.1), (19, .v (.slice a0_0 x0.length c0_0))] [0, 1, 2, 7, 8] ?_))))))
     obtain ⟨x47, hx48, h49⟩ := bS h45
     refine oi 4 (fun γ w hs => (hv0_0.kept hs.kept)) hx48 ?_
     refine oN 1 [(22, .q a0_0 (Int.toNat s21.1 * 4 + 3))] [0, 1, 2, 7, 8] ?_
     refine ol 4 3 (.bool x47.Leave) (fun γ w hs => (hv0_0.kept hs.kept).flatq hx48) ?_
     refine oN 1 [(24, vb (!x47.Leave))] [0, 1, 2, 7, 8] ?_
     refine oe (nt ?_)
     obtain ⟨k66, hk67, h69⟩ := jS h49
     refine JC_cutP (τ := (Int) × (Unit)) (fun y => k66 y.1 = some t23) (fun y65 => [(0, .v (.slice a0_0 x0.length c0_0)), (1, vi x1), (2, vi x2), (7, vi y65.1), (8, vi s21.1)]) (fun y65 => []) (fun y65 => []) ?_ (fun y65 h68p => ?_)
     · refine cC h69 (fun h71 => ?_) (fun h72 => ?_)
       · refine JC_quiet (by kernel_rfl) (by kernel_rfl) ?_
         refine qN 3 [(27, vi s21.1), (26, .v (.slice a0_0 x0.length c0_0)), (25, vi s21.2)] [0, 1, 2, 8] ?_
         obtain ⟨x73, hx74, h75⟩ := bS h71
         refine qi 4 (fun γ w hs => (hv0_0.kept hs.kept)) hx74 ?_
         refine qN 1 [(29, .q a0_0 (Int.toNat s21.1 * 4 + 2))] [25, 0, 1, 2, 8] ?_
         refine ql 3 2 (.int .i64 x73.Percent) (fun γ w hs => (hv0_0.kept hs.kept).flatq hx74) ?_
         refine qN 2 [(32, vi s21.1), (31, .v (.slice a0_0 x0.length c0_0))] [30, 25, 0, 1, 2, 8] ?_
         obtain ⟨x76, hx77, h78⟩ := bS h75
         refine qi 4 (fun γ w hs => (hv0_0.kept hs.kept)) hx77 ?_
         refine qN 1 [(34, .q a0_0 (Int.toNat s21.1 * 4))] [30, 25, 0, 1, 2, 8] ?_
         refine ql 3 0 (.int .i64 x76.From) (fun γ w hs => (hv0_0.kept hs.kept).flatq hx77) ?_
         refine qN 2 [(37, vi s21.1), (36, .v (.slice a0_0 x0.length c0_0))] [35, 30, 25, 0, 1, 2, 8] ?_
         obtain ⟨x79, hx80, h81⟩ := bS h78
         refine qi 4 (fun γ w hs => (hv0_0.kept hs.kept)) hx80 ?_
         refine qN 1 [(39, .q a0_0 (Int.toNat s21.1 * 4 + 1))] [35, 30, 25, 0, 1, 2, 8] ?_
         refine ql 3 1 (.int .i64 x79.To) (fun γ w hs => (hv0_0.kept hs.kept).flatq hx80) ?_
         refine qN 2 [(42, vi x2), (41, vi x1)] [40, 35, 30, 25, 0, 1, 2, 8] ?_
         obtain ⟨t82, h83, h84⟩ := bS h81
         refine q0 (fun γ w hs => c_spec_MonthsIn h83) ?_
         refine qN 3 [(7, vi (w64 (s21.2 + (w64 (x73.Percent * t82)))))] [0, 1, 2, 8] ?_
         exact qz (mp (w64 (s21.2 + (w64 (x73.Percent * t82))), ()) h84 [0, 1, 2, 7, 8] [] 0)
       exact qk (mp (s21.2, ()) h72 [0, 1, 2, 7, 8] [] 0)
     have h68 := (congrFun hk67 _).symm.trans h68p
     refine bn (nt (qr (oN 3 [(8, vi (w64 (s21.1 + 1)))] [0, 1, 2, 7] ?_)))
     exact oe (ct h68 () [8, 7, 0, 1, 2] [] 0)
   refine qx (nx (nx (bh ?_)))
   have h86 := leafB hd30 h46 h26
   exact mp (s21.2, ()) h86 [7] [] 0
 have h33 := (congrFun hk28 _).symm.trans h33p
 refine nt (qs (qr (oN 2 [(6, vi y32.1)] [] ?_)))
 refine oe (nt (qe ?_))
 obtain rfl := sI h33
 exact re [.int .i64 y32.1]

theorem c_spec_ValueAt {W : World} {x0 : Store} {a0_0 : Option Addr} {c0_0 : Nat} {x1 : Int} {x2 : Int} {x3 : Int} {r : Int × Bool} (h : spec_ValueAt x0 x1 x2 x3 = some r) (hv0_0 : SlView W x0.Facts a0_0 c0_0) :
    Gives0 Tryz.prog 16 #[vStore x0 (a0_0, c0_0), .int .i64 x1, .int .i64 x2, .int .i64 x3] W (.tuple #[.int .i64 r.1, .bool r.2]) := by
 unfold spec_ValueAt at h
 refine en Tryz.func16 Tryz.ntmps16 ?_
 refine qs (qr (oB 3 [(4, .p 0 0)] [1, 2, 3] [(29, (eStore x0 (a0_0, c0_0)))] ?_))
 refine oe (nt (qs (qs (qr (oN 5 [(10, vi (w64 ((x0.Facts.length : Int) - 1)))] [4, 1, 2, 3] ?_)))))
 refine oe (nt ?_)
 obtain ⟨r24, hL25, h26⟩ := bS h
 obtain ⟨k27, hk28, h26⟩ := brkS h26
 refine JC_cutP (τ := (Unit) × (Unit)) (fun y => k27 y.1 = some r) (fun y32 => []) (fun y32 => [(29, (eStore x0 (a0_0, c0_0)))]) (fun y32 => []) ?_ (fun y32 h33p => ?_)
 · refine qb (lp Unit hL25 (fun s21 y22 => [(10, vi s21), (4, .p 0 0), (1, vi x1), (2, vi x2), (3, vi x3)]) (fun s21 y22 => [(29, (eStore x0 (a0_0, c0_0)))]) (fun s21 y22 => []) () [10, 4, 1, 2, 3] [] 1 (fun s21 y22 t23 h29 hd30 => ?_))
   refine qs (qs (qr (oN 2 [(17, vb (decide (s21 ≥ 0)))] [10, 4, 1, 2, 3] ?_)))
   refine oe (nt (cC h29 (fun h35 => ?_) (fun h36 => ?_)))
   · refine qk (nt (qs (qb (qs (qr (oN 3 [(22, vi s21), (21, .v (.slice a0_0 x0.Facts.length c0_0))] [10, 4, 1, 2, 3] ?_))))))
     obtain ⟨x37, hx38, h39⟩ := bS h35
     refine oi 5 (fun γ w hs => (hv0_0.kept hs.kept)) hx38 ?_
     refine ol 47 0 (vFact x37) (fun γ w hs => (hv0_0.kept hs.kept).flatq hx38) ?_
     refine oB 2 [(11, .p 1 0)] [10, 4, 1, 2, 3] [(29, (eStore x0 (a0_0, c0_0))), (47, (eFact x37))] ?_
     refine oe (nt (qs ?_))
     obtain ⟨p40, hE41, h42⟩ := bS h39
     refine JC_cut (τ := Unit) (fun _ => [(1, vi x1), (2, vi x2), (3, vi x3), (4, .p 0 0), (10, vi s21), (11, .p 1 0), (46, vb p40)]) (fun _ => [(29, (eStore x0 (a0_0, c0_0))), (47, (eFact x37))]) (fun _ => []) ?_ (fun _ => ?_)
     · refine qr (oN 5 [(29, vb (x37.Key == x1))] [11, 10, 4, 1, 2, 3] ?_)
       refine oS 29 hE41 (fun h44 => ?_) (fun h45 => ?_)
       · refine oN 6 [(35, vb (decide (x37.From ≤ x2)))] [11, 10, 4, 1, 2, 3] ?_
         refine oS 35 h44 (fun h47 => ?_) (fun h48 => ?_)
         · refine oN 6 [(41, vb (decide (x2 < x37.To)))] [11, 10, 4, 1, 2, 3] ?_
           refine oS 41 h47 (fun h50 => ?_) (fun h51 => ?_)
           · refine oN 5 [(46, vb (decide (x37.Known ≤ x3)))] [11, 10, 4, 1, 2, 3] ?_
             refine oe ?_
             obtain rfl := sI h50
             exact mt () [1, 2, 3, 4, 10, 11, 46] [] 2
           refine oN 5 [(46, vb false)] [11, 10, 4, 1, 2, 3] ?_
           refine oe ?_
           obtain rfl := sI h51
           exact mt () [1, 2, 3, 4, 10, 11, 46] [] 2
         refine oN 11 [(46, vb false)] [11, 10, 4, 1, 2, 3] ?_
         refine oe ?_
         obtain rfl := sI h48
         exact mt () [1, 2, 3, 4, 10, 11, 46] [] 2
       refine oN 17 [(46, vb false)] [11, 10, 4, 1, 2, 3] ?_
       refine oe ?_
       obtain rfl := sI h45
       exact mt () [1, 2, 3, 4, 10, 11, 46] [] 2
     refine nt (cC h42 (fun h53 => ?_) (fun h54 => ?_))
     · refine qs (qr (oN 4 [(9, vb true), (8, vi x37.Value)] [] ?_))
       refine oe (nt (qe (br (nr (nr ?_)))))
       have h55 := leafR hd30 h53 h26
       refine br (nr (nr ?_))
       obtain rfl := sI h55
       exact re [.int .i64 x37.Value, .bool true]
     refine qk (bn (nt (qr (oN 3 [(10, vi (w64 (s21 - 1)))] [1, 2, 3, 4] ?_))))
     exact oe (ct h54 () [10, 4, 1, 2, 3] [] 1)
   refine qx (nx (nx (bh ?_)))
   have h56 := leafB hd30 h36 h26
   exact mp ((), ()) h56 [] [] 1
 have h33 := (congrFun hk28 _).symm.trans h33p
 refine nt (qs (qr (oN 2 [(9, vb false), (8, vi 0)] [] ?_)))
 refine oe (nt (qe ?_))
 obtain rfl := sI h33
 exact re [.int .i64 0, .bool false]

theorem c_spec_FinalPay {W : World} {x0 : Store} {a0_0 : Option Addr} {c0_0 : Nat} {x1 : Int} {x2 : Int} {r : Int × Bool} (h : spec_FinalPay x0 x1 x2 = some r) (hv0_0 : SlView W x0.Facts a0_0 c0_0) :
    Gives0 Tryz.prog 163 #[vStore x0 (a0_0, c0_0), .int .i64 x1, .int .i64 x2] W (.tuple #[.int .i64 r.1, .bool r.2]) := by
 unfold spec_FinalPay at h
 refine en Tryz.func163 Tryz.ntmps163 ?_
 refine qs (qr (oB 3 [(3, .p 0 0)] [1, 2] [(29, (eStore x0 (a0_0, c0_0)))] ?_))
 refine oe (nt (qs (qs ?_)))
 obtain ⟨p21, hE22, h23⟩ := bS h
 refine JC_cut (τ := Unit) (fun _ => [(1, vi x1), (2, vi x2), (3, .p 0 0), (18, vb p21)]) (fun _ => [(29, (eStore x0 (a0_0, c0_0)))]) (fun _ => []) ?_ (fun _ => ?_)
 · refine qr (oN 1 [(11, .v (vStore x0 (a0_0, c0_0)))] [3, 1, 2] ?_)
   obtain ⟨t24, h25, h26⟩ := bS hE22
   refine k0 (fun γ w hs => c_spec_StoreOk h25 (hv0_0.kept hs.kept)) ?_
   refine oN 2 [(14, vb (!t24))] [3, 1, 2] ?_
   refine oS 14 h26 (fun h29 => ?_) (fun h30 => ?_)
   · refine oN 4 [(18, vb true)] [3, 1, 2] ?_
     refine oe ?_
     obtain rfl := sI h29
     exact mt () [1, 2, 3, 18] [] 1
   refine oN 1 [(15, vi x1)] [14, 3, 1, 2] ?_
   obtain ⟨t31, h32, h33⟩ := bS h30
   refine k0 (fun γ w hs => c_spec_l04End h32) ?_
   refine oN 2 [(18, vb (!t31))] [3, 1, 2] ?_
   refine oe ?_
   obtain rfl := sI h33
   exact mt () [1, 2, 3, 18] [] 1
 refine nt (cC h23 (fun h36 => ?_) (fun h37 => ?_))
 · refine qs (qr (oN 2 [(7, vb false), (6, vi 0)] [] ?_))
   refine oe (nt (qe (nr ?_)))
   obtain rfl := sI h36
   exact re [.int .i64 0, .bool false]
 refine qk (nt (qs (qs (qr (oN 3 [(8, vi (w64 (x1 - 1)))] [2, 3] ?_)))))
 refine oe (nt ?_)
 obtain ⟨r41, hL42, h43⟩ := bS h37
 obtain ⟨k44, hk45, h43⟩ := brkS h43
 refine JC_cutP (τ := (Unit) × (Unit)) (fun y => k44 y.1 = some r) (fun y49 => []) (fun y49 => [(29, (eStore x0 (a0_0, c0_0)))]) (fun y49 => []) ?_ (fun y49 h50p => ?_)
 · refine qb (lp Unit hL42 (fun s38 y39 => [(8, vi s38), (2, vi x2), (3, .p 0 0)]) (fun s38 y39 => [(29, (eStore x0 (a0_0, c0_0)))]) (fun s38 y39 => []) () [8, 2, 3] [] 1 (fun s38 y39 t40 h46 hd47 => ?_))
   refine qs (qs (qr (oN 2 [(22, vb (decide (s38 ≥ 0)))] [8, 2, 3] ?_)))
   refine oe (nt (cC h46 (fun h52 => ?_) (fun h53 => ?_)))
   · refine qk (nt (qs (qb (qs (qr (oN 3 [(28, vi x2), (27, vi s38), (26, .v (vStore x0 (a0_0, c0_0)))] [8, 2, 3] ?_))))))
     obtain ⟨t54, h55, h56⟩ := bS h52
     refine k0 (fun γ w hs => c_spec_ValueAt h55 (hv0_0.kept hs.kept)) ?_
     refine oN 5 [(10, vb t54.2), (9, vi t54.1)] [8, 2, 3] ?_
     refine oe (nt (qs (qr (oN 1 [(32, vb t54.2)] [9, 8, 2, 3] ?_))))
     refine oe (nt (cC h56 (fun h59 => ?_) (fun h60 => ?_)))
     · refine qs (qr (oN 3 [(7, vb true), (6, vi t54.1)] [] ?_))
       refine oe (nt (qe (br (nr (nr ?_)))))
       have h61 := leafR hd47 h59 h43
       refine br (nr (nr ?_))
       obtain rfl := sI h61
       exact re [.int .i64 t54.1, .bool true]
     refine qk (bn (nt (qr (oN 3 [(8, vi (w64 (s38 - 1)))] [2, 3] ?_))))
     exact oe (ct h60 () [8, 2, 3] [] 1)
   refine qx (nx (nx (bh ?_)))
   have h62 := leafB hd47 h53 h43
   exact mp ((), ()) h62 [] [] 1
 have h50 := (congrFun hk45 _).symm.trans h50p
 refine nt (qs (qr (oN 2 [(7, vb false), (6, vi 0)] [] ?_)))
 refine oe (nt (qe ?_))
 obtain rfl := sI h50
 exact re [.int .i64 0, .bool false]

theorem c_spec_IndexAt {W : World} {x0 : Series} {a0_0 : Option Addr} {c0_0 : Nat} {x1 : Int} {x2 : Int} {r : Int × Bool} (h : spec_IndexAt x0 x1 x2 = some r) (hv0_0 : SlView W x0.Points a0_0 c0_0) :
    Gives0 Tryz.prog 18 #[vSeries x0 (a0_0, c0_0), .int .i64 x1, .int .i64 x2] W (.tuple #[.int .i64 r.1, .bool r.2]) := by
 unfold spec_IndexAt at h
 refine en Tryz.func18 Tryz.ntmps18 ?_
 refine qs (qr (oB 3 [(3, .p 0 0)] [1, 2] [(32, (eSeries x0 (a0_0, c0_0)))] ?_))
 refine oe (nt (qs (qr (oN 1 [(8, vi (-1))] [3, 1, 2] ?_))))
 refine oe (nt (qs (qs (qr (oN 1 [(9, vi 0)] [8, 3, 1, 2] ?_)))))
 refine oe (nt ?_)
 obtain ⟨r24, hL25, h26⟩ := bS h
 obtain ⟨k27, hk28, h26⟩ := brkS h26
 refine JC_cutP (τ := (Int) × (Unit)) (fun y => k27 y.1 = some r) (fun y32 => [(8, vi y32.1), (3, .p 0 0)]) (fun y32 => [(32, (eSeries x0 (a0_0, c0_0)))]) (fun y32 => []) ?_ (fun y32 h33p => ?_)
 · refine qb (lp Unit hL25 (fun s21 y22 => [(9, vi s21.1), (8, vi s21.2), (3, .p 0 0), (1, vi x1), (2, vi x2)]) (fun s21 y22 => [(32, (eSeries x0 (a0_0, c0_0)))]) (fun s21 y22 => []) () [9, 8, 3, 1, 2] [] 1 (fun s21 y22 t23 h29 hd30 => ?_))
   refine qs (qs (qr (oN 5 [(15, vb (decide (s21.1 < (x0.Points.length : Int))))] [9, 8, 3, 1, 2] ?_)))
   refine oe (nt (cC h29 (fun h41 => ?_) (fun h42 => ?_)))
   · refine qk (nt (qs (qb (qs (qr (oN 3 [(20, vi s21.1), (19, .v (.slice a0_0 x0.Points.length c0_0))] [9, 8, 3, 1, 2] ?_))))))
     obtain ⟨x43, hx44, h45⟩ := bS h41
     refine oi 3 (fun γ w hs => (hv0_0.kept hs.kept)) hx44 ?_
     refine ol 52 0 (vPoint x43) (fun γ w hs => (hv0_0.kept hs.kept).flatq hx44) ?_
     refine oB 2 [(10, .p 1 0)] [9, 8, 3, 1, 2] [(32, (eSeries x0 (a0_0, c0_0))), (52, (ePoint x43))] ?_
     refine oe (nt (qs ?_))
     obtain ⟨p46, hE47, h48⟩ := bS h45
     refine JC_cut (τ := Unit) (fun _ => [(1, vi x1), (2, vi x2), (3, .p 0 0), (8, vi s21.2), (9, vi s21.1), (47, vb p46)]) (fun _ => [(32, (eSeries x0 (a0_0, c0_0))), (52, (ePoint x43))]) (fun _ => []) ?_ (fun _ => ?_)
     · refine JC_quiet (by kernel_rfl) (by kernel_rfl) ?_
       refine qN 5 [(27, vb (decide (x43.Month ≤ x1)))] [10, 9, 8, 3, 1, 2] ?_
       refine qS 27 hE47 (fun h50 => ?_) (fun h51 => ?_)
       · refine qN 6 [(33, vb (decide (x43.Known ≤ x2)))] [10, 9, 8, 3, 1, 2] ?_
         refine qS 33 h50 (fun h53 => ?_) (fun h54 => ?_)
         · refine qN 3 [(36, vb (decide (s21.2 < 0)))] [33, 10, 9, 8, 3, 1, 2] ?_
           refine qS 36 h53 (fun h56 => ?_) (fun h57 => ?_)
           · refine qN 11 [(47, vb true)] [9, 8, 3, 1, 2] ?_
             refine qz ?_
             obtain rfl := sI h56
             exact mt () [1, 2, 3, 8, 9, 47] [] 2
           refine qN 5 [(41, vi s21.2), (40, .v (.slice a0_0 x0.Points.length c0_0)), (38, vi x43.Month)] [36, 33, 9, 8, 3, 1, 2] ?_
           obtain ⟨x58, hx59, h60⟩ := bS h57
           refine qi 3 (fun γ w hs => (hv0_0.kept hs.kept)) hx59 ?_
           refine qN 1 [(43, .q a0_0 (Int.toNat s21.2 * 3))] [38, 36, 33, 9, 8, 3, 1, 2] ?_
           refine ql 3 0 (.int .i64 x58.Month) (fun γ w hs => (hv0_0.kept hs.kept).flatq hx59) ?_
           refine qN 3 [(47, vb (decide (x43.Month ≥ x58.Month)))] [9, 8, 3, 1, 2] ?_
           refine qz ?_
           obtain rfl := sI h60
           exact mt () [1, 2, 3, 8, 9, 47] [] 2
         refine qN 14 [(47, vb false)] [9, 8, 3, 1, 2] ?_
         refine qz ?_
         obtain rfl := sI h54
         exact mt () [1, 2, 3, 8, 9, 47] [] 2
       refine qN 20 [(47, vb false)] [9, 8, 3, 1, 2] ?_
       refine qz ?_
       obtain rfl := sI h51
       exact mt () [1, 2, 3, 8, 9, 47] [] 2
     refine nt ?_
     obtain ⟨k64, hk65, h67⟩ := jS h48
     refine JC_cutP (τ := (Int) × (Unit)) (fun y => k64 y.1 = some t23) (fun y63 => [(1, vi x1), (2, vi x2), (3, .p 0 0), (8, vi y63.1), (9, vi s21.1)]) (fun y63 => [(32, (eSeries x0 (a0_0, c0_0))), (52, (ePoint x43))]) (fun y63 => []) ?_ (fun y63 h66p => ?_)
     · refine cC h67 (fun h69 => ?_) (fun h70 => ?_)
       · refine qr (oN 2 [(8, vi s21.1)] [1, 2, 3, 9] ?_)
         exact oe (mp (s21.1, ()) h69 [1, 2, 3, 8, 9] [] 2)
       exact qk (mp (s21.2, ()) h70 [1, 2, 3, 8, 9] [] 2)
     have h66 := (congrFun hk65 _).symm.trans h66p
     refine bn (nt (qr (oN 3 [(9, vi (w64 (s21.1 + 1)))] [1, 2, 3, 8] ?_)))
     exact oe (ct h66 () [9, 8, 3, 1, 2] [] 1)
   refine qx (nx (nx (bh ?_)))
   have h71 := leafB hd30 h42 h26
   exact mp (s21.2, ()) h71 [8, 3] [] 1
 have h33 := (congrFun hk28 _).symm.trans h33p
 refine nt (qs (qs (qr (oN 2 [(50, vb (decide (y32.1 < 0)))] [8, 3] ?_))))
 refine oe (nt (cC h33 (fun h35 => ?_) (fun h36 => ?_)))
 · refine qs (qr (oN 2 [(7, vb false), (6, vi 0)] [] ?_))
   refine oe (nt (qe (nr ?_)))
   obtain rfl := sI h35
   exact re [.int .i64 0, .bool false]
 refine qk (nt (qs (qr (oN 3 [(53, vi y32.1), (52, .v (.slice a0_0 x0.Points.length c0_0))] [] ?_))))
 obtain ⟨x37, hx38, h39⟩ := bS h36
 refine oi 3 (fun γ w hs => (hv0_0.kept hs.kept)) hx38 ?_
 refine oN 1 [(55, .q a0_0 (Int.toNat y32.1 * 3 + 2))] [] ?_
 refine ol 3 2 (.int .i64 x37.Value) (fun γ w hs => (hv0_0.kept hs.kept).flatq hx38) ?_
 refine oN 2 [(7, vb true), (6, vi x37.Value)] [] ?_
 refine oe (nt (qe ?_))
 obtain rfl := sI h39
 exact re [.int .i64 x37.Value, .bool true]

theorem c_spec_IndexRatio {W : World} {x0 : Series} {a0_0 : Option Addr} {c0_0 : Nat} {x1 : Int} {x2 : Int} {x3 : Int} {r : Frac × Bool} (h : spec_IndexRatio x0 x1 x2 x3 = some r) (hv0_0 : SlView W x0.Points a0_0 c0_0) :
    Gives0 Tryz.prog 164 #[vSeries x0 (a0_0, c0_0), .int .i64 x1, .int .i64 x2, .int .i64 x3] W (.tuple #[vFrac r.1, .bool r.2]) := by
 unfold spec_IndexRatio at h
 refine en Tryz.func164 Tryz.ntmps164 ?_
 refine qs (qr (oB 3 [(8, .p 1 0), (4, .p 0 0)] [1, 2, 3] [(32, (eSeries x0 (a0_0, c0_0))), (133, (eFrac (Frac.mk 0 0)))] ?_))
 refine oe (nt (qs (qr (oN 3 [(17, vi x3), (16, vi x1), (15, .v (vSeries x0 (a0_0, c0_0)))] [8, 4, 2, 3] ?_))))
 obtain ⟨t21, h22, h23⟩ := bS h
 refine k0 (fun γ w hs => c_spec_IndexAt h22 (hv0_0.kept hs.kept)) ?_
 refine oN 5 [(11, vb t21.2), (10, vi t21.1)] [8, 4, 2, 3] ?_
 refine oe (nt (qs (qr (oN 3 [(24, vi x3), (23, vi x2), (22, .v (vSeries x0 (a0_0, c0_0)))] [11, 10, 8] ?_))))
 obtain ⟨t25, h26, h27⟩ := bS h23
 refine k0 (fun γ w hs => c_spec_IndexAt h26 (hv0_0.kept hs.kept)) ?_
 refine oN 5 [(13, vb t25.2), (12, vi t25.1)] [11, 10, 8] ?_
 refine oe (nt (qs (qs ?_)))
 obtain ⟨p29, hE30, h31⟩ := bS h27
 refine JC_cut (τ := Unit) (fun _ => [(8, .p 1 0), (10, vi t21.1), (12, vi t25.1), (33, vb p29)]) (fun _ => [(32, (eSeries x0 (a0_0, c0_0))), (133, (eFrac (Frac.mk 0 0)))]) (fun _ => []) ?_ (fun _ => ?_)
 · refine qr (oN 3 [(30, vb (!t21.2))] [13, 12, 10, 8] ?_)
   refine oS 30 hE30 (fun h33 => ?_) (fun h34 => ?_)
   · refine oN 3 [(33, vb true)] [12, 10, 8] ?_
     refine oe ?_
     obtain rfl := sI h33
     exact mt () [8, 10, 12, 33] [] 2
   refine oN 3 [(33, vb (!t25.2))] [12, 10, 8] ?_
   refine oe ?_
   obtain rfl := sI h34
   exact mt () [8, 10, 12, 33] [] 2
 refine nt (cC h31 (fun h36 => ?_) (fun h37 => ?_))
 · refine qs (qr (oN 3 [(9, vb false)] [8] ?_))
   refine oe (nt (qe (nr ?_)))
   obtain rfl := sI h36
   exact re [vFrac (Frac.mk 0 0), .bool false]
 refine qk (nt (qs (qr (oN 2 [(36, vi t21.1), (35, vi t25.1)] [8] ?_))))
 obtain ⟨t38, h39, h40⟩ := bS h37
 refine k0 (fun γ w hs => c_spec_FracNew h39) ?_
 refine oB 4 [(9, vb t38.2)] [8] [(32, (eSeries x0 (a0_0, c0_0))), (133, (eFrac t38.1))] ?_
 refine oe (nt (qe ?_))
 obtain rfl := sI h40
 exact re [vFrac t38.1, .bool t38.2]

theorem c_spec_MonthOfKind {W : World} {x0 : List Event} {a0_0 : Option Addr} {c0_0 : Nat} {x1 : Int} {r : Int} (h : spec_MonthOfKind x0 x1 = some r) (hv0_0 : SlView W x0 a0_0 c0_0) :
    Gives0 Tryz.prog 165 #[.slice a0_0 x0.length c0_0, .int .i64 x1] W (.int .i64 r) := by
 unfold spec_MonthOfKind at h
 refine en Tryz.func165 Tryz.ntmps165 ?_
 refine qs (qr (oN 1 [] [0, 1] ?_))
 refine oe (nt (qs (qr (oN 1 [(5, vi (-1))] [0, 1] ?_))))
 refine oe (nt (qs (qs (qr (oN 1 [(6, vi 0)] [5, 0, 1] ?_)))))
 refine oe (nt ?_)
 obtain ⟨r24, hL25, h26⟩ := bS h
 obtain ⟨k27, hk28, h26⟩ := brkS h26
 refine JC_cutP (τ := (Int) × (Unit)) (fun y => k27 y.1 = some r) (fun y32 => [(5, vi y32.1)]) (fun y32 => []) (fun y32 => []) ?_ (fun y32 h33p => ?_)
 · refine qb (lp Unit hL25 (fun s21 y22 => [(6, vi s21.1), (5, vi s21.2), (0, .v (.slice a0_0 x0.length c0_0)), (1, vi x1)]) (fun s21 y22 => []) (fun s21 y22 => []) () [6, 5, 0, 1] [] 0 (fun s21 y22 t23 h29 hd30 => ?_))
   refine qs (qs ?_)
   obtain ⟨p34, hE35, h36⟩ := bS h29
   refine JC_cut (τ := Unit) (fun _ => [(0, .v (.slice a0_0 x0.length c0_0)), (1, vi x1), (5, vi s21.2), (6, vi s21.1), (14, vb p34)]) (fun _ => []) (fun _ => []) ?_ (fun _ => ?_)
   · refine qr (oN 5 [(11, vb (decide (s21.1 < (x0.length : Int))))] [6, 5, 0, 1] ?_)
     refine oS 11 hE35 (fun h38 => ?_) (fun h39 => ?_)
     · refine oN 1 [(12, .v (.slice a0_0 x0.length c0_0))] [11, 6, 5, 0, 1] ?_
       obtain ⟨t40, h41, h42⟩ := bS h38
       refine k0 (fun γ w hs => c_spec_EventsOk h41 (hv0_0.kept hs.kept)) ?_
       refine oN 1 [(14, vb t40)] [6, 5, 0, 1] ?_
       refine oe ?_
       obtain rfl := sI h42
       exact mt () [0, 1, 5, 6, 14] [] 0
     refine oN 3 [(14, vb false)] [6, 5, 0, 1] ?_
     refine oe ?_
     obtain rfl := sI h39
     exact mt () [0, 1, 5, 6, 14] [] 0
   refine nt (cC h36 (fun h45 => ?_) (fun h46 => ?_))
   · refine qk (nt (qs (qb (qs (qr (oN 2 [(18, vi s21.1), (17, .v (.slice a0_0 x0.length c0_0))] [0, 1, 5, 6] ?_))))))
     obtain ⟨x47, hx48, h49⟩ := bS h45
     refine oi 2 (fun γ w hs => (hv0_0.kept hs.kept)) hx48 ?_
     refine oN 1 [(20, .q a0_0 (Int.toNat s21.1 * 2))] [0, 1, 5, 6] ?_
     refine ol 3 0 (.int .i64 x47.Kind) (fun γ w hs => (hv0_0.kept hs.kept).flatq hx48) ?_
     refine oN 2 [(23, vb (x47.Kind == x1))] [0, 1, 5, 6] ?_
     refine oe (nt ?_)
     obtain ⟨k56, hk57, h59⟩ := jS h49
     refine JC_cutP (τ := (Int) × (Unit)) (fun y => k56 y.1 = some t23) (fun y55 => [(0, .v (.slice a0_0 x0.length c0_0)), (1, vi x1), (5, vi y55.1), (6, vi s21.1)]) (fun y55 => []) (fun y55 => []) ?_ (fun y55 h58p => ?_)
     · refine cC h59 (fun h61 => ?_) (fun h62 => ?_)
       · refine qr (oN 2 [(25, vi s21.1), (24, .v (.slice a0_0 x0.length c0_0))] [0, 1, 6] ?_)
         obtain ⟨x63, hx64, h65⟩ := bS h61
         refine oi 2 (fun γ w hs => (hv0_0.kept hs.kept)) hx64 ?_
         refine oN 1 [(27, .q a0_0 (Int.toNat s21.1 * 2 + 1))] [0, 1, 6] ?_
         refine ol 3 1 (.int .i64 x63.Month) (fun γ w hs => (hv0_0.kept hs.kept).flatq hx64) ?_
         refine oN 1 [(5, vi x63.Month)] [0, 1, 6] ?_
         exact oe (mp (x63.Month, ()) h65 [0, 1, 5, 6] [] 0)
       exact qk (mp (s21.2, ()) h62 [0, 1, 5, 6] [] 0)
     have h58 := (congrFun hk57 _).symm.trans h58p
     refine bn (nt (qr (oN 3 [(6, vi (w64 (s21.1 + 1)))] [0, 1, 5] ?_)))
     exact oe (ct h58 () [6, 5, 0, 1] [] 0)
   refine qx (nx (nx (bh ?_)))
   have h66 := leafB hd30 h46 h26
   exact mp (s21.2, ()) h66 [5] [] 0
 have h33 := (congrFun hk28 _).symm.trans h33p
 refine nt (qs (qr (oN 2 [(4, vi y32.1)] [] ?_)))
 refine oe (nt (qe ?_))
 obtain rfl := sI h33
 exact re [.int .i64 y32.1]

theorem c_spec_AgeAt {W : World} {x0 : Int} {x1 : Int} {x2 : Int} {r : Int} (h : spec_AgeAt x0 x1 x2 = some r)  :
    Gives0 Tryz.prog 166 #[.int .i64 x0, .int .i64 x1, .int .i64 x2] W (.int .i64 r) := by
 unfold spec_AgeAt at h
 refine en Tryz.func166 Tryz.ntmps166 ?_
 refine qs (qr (oN 1 [] [0, 1, 2] ?_))
 refine oe (nt (qs (qs ?_)))
 obtain ⟨p21, hE22, h23⟩ := bS h
 refine JC_cut (τ := Unit) (fun _ => [(0, vi x0), (1, vi x1), (2, vi x2), (20, vb p21)]) (fun _ => []) (fun _ => []) ?_ (fun _ => ?_)
 · refine qr (oN 1 [(8, vi x0)] [0, 1, 2] ?_)
   obtain ⟨t24, h25, h26⟩ := bS hE22
   refine k0 (fun γ w hs => c_spec_MonthOk h25) ?_
   refine oN 2 [(11, vb (!t24))] [0, 1, 2] ?_
   refine oS 11 h26 (fun h29 => ?_) (fun h30 => ?_)
   · refine oN 9 [(20, vb true)] [0, 1, 2] ?_
     refine oe ?_
     obtain rfl := sI h29
     exact mt () [0, 1, 2, 20] [] 0
   refine oN 1 [(12, vi x1)] [11, 0, 1, 2] ?_
   obtain ⟨t31, h32, h33⟩ := bS h30
   refine k0 (fun γ w hs => c_spec_MonthOk h32) ?_
   refine oN 3 [(16, vb (!t31))] [0, 1, 2] ?_
   refine oS 16 h33 (fun h36 => ?_) (fun h37 => ?_)
   · refine oN 4 [(20, vb true)] [0, 1, 2] ?_
     refine oe ?_
     obtain rfl := sI h36
     exact mt () [0, 1, 2, 20] [] 0
   refine oN 4 [(20, vb (decide (x1 < x0)))] [0, 1, 2] ?_
   refine oe ?_
   obtain rfl := sI h37
   exact mt () [0, 1, 2, 20] [] 0
 refine nt (cC h23 (fun h39 => ?_) (fun h40 => ?_))
 · refine qs (qr (oN 1 [(6, vi (-1))] [] ?_))
   refine oe (nt (qe (nr ?_)))
   obtain rfl := sI h39
   exact re [.int .i64 (-1)]
 refine qk (nt (qs (qr (oN 4 [(7, vi (w64 (x1 - x0)))] [2] ?_))))
 refine oe (nt (qs (qs (qr (oN 1 [(24, vi x2)] [7] ?_)))))
 refine oe (nt (qb (qs (qr (oN 2 [(25, vb (x2 == 1))] [24, 7] ?_)))))
 refine oe (nt (cC h40 (fun h48 => ?_) (fun h49 => ?_)))
 · refine qs (qr (oN 3 [(6, vi (w64 (Int.tdiv (w64 (x1 - x0)) 12)))] [] ?_))
   refine oe (nt (qe (br (nr ?_))))
   obtain rfl := sI h48
   exact re [.int .i64 (w64 (Int.tdiv (w64 (x1 - x0)) 12))]
 refine qs (qr (oN 2 [(29, vb (x2 == 2))] [24, 7] ?_))
 refine oe (nt (cC h49 (fun h54 => ?_) (fun h55 => ?_)))
 · refine qs (qr (oN 4 [(6, vi (w64 (Int.tdiv (w64 ((w64 (x1 - x0)) + 6)) 12)))] [] ?_))
   refine oe (nt (qe (br (nr ?_))))
   obtain rfl := sI h54
   exact re [.int .i64 (w64 (Int.tdiv (w64 ((w64 (x1 - x0)) + 6)) 12))]
 refine qs (qr (oN 2 [(34, vb (x2 == 3))] [7] ?_))
 refine oe (nt (cC h55 (fun h57 => ?_) (fun h58 => ?_)))
 · refine qs (qr (oN 4 [(6, vi (w64 ((w64 (Int.tdiv (w64 (x1 - x0)) 12)) + 1)))] [] ?_))
   refine oe (nt (qe (br (nr ?_))))
   obtain rfl := sI h57
   exact re [.int .i64 (w64 ((w64 (Int.tdiv (w64 (x1 - x0)) 12)) + 1))]
 refine qk (bn (nt (qs (qr (oN 1 [(6, vi (-1))] [] ?_)))))
 refine oe (nt (qe ?_))
 obtain rfl := sI h58
 exact re [.int .i64 (-1)]

theorem c_spec_l08Vars {W : World} {x0 : List Frac} {a0_0 : Option Addr} {c0_0 : Nat} {r : Bool} (h : spec_l08Vars x0 = some r) (hv0_0 : SlView W x0 a0_0 c0_0) :
    Gives0 Tryz.prog 167 #[.slice a0_0 x0.length c0_0] W (.bool r) := by
 unfold spec_l08Vars at h
 refine en Tryz.func167 Tryz.ntmps167 ?_
 refine qs (qr (oN 1 [] [0] ?_))
 refine oe (nt (qs (qs (qr (oN 1 [(3, vi 0)] [0] ?_)))))
 refine oe (nt ?_)
 obtain ⟨r24, hL25, h26⟩ := bS h
 obtain ⟨k27, hk28, h26⟩ := brkS h26
 refine JC_cutP (τ := (Unit) × (Unit)) (fun y => k27 y.1 = some r) (fun y32 => [(0, .v (.slice a0_0 x0.length c0_0))]) (fun y32 => []) (fun y32 => []) ?_ (fun y32 h33p => ?_)
 · refine qb (lp Unit hL25 (fun s21 y22 => [(3, vi s21), (0, .v (.slice a0_0 x0.length c0_0))]) (fun s21 y22 => []) (fun s21 y22 => []) () [3, 0] [] 0 (fun s21 y22 t23 h29 hd30 => ?_))
   refine qs (qs (qr (oN 4 [(7, vb (decide (s21 < (x0.length : Int))))] [3, 0] ?_)))
   refine oe (nt (cC h29 (fun h35 => ?_) (fun h36 => ?_)))
   · refine qk (nt (qs (qb (qs (qr (oN 2 [(11, vi s21), (10, .v (.slice a0_0 x0.length c0_0))] [3, 0] ?_))))))
     obtain ⟨x37, hx38, h39⟩ := bS h35
     refine oi 2 (fun γ w hs => (hv0_0.kept hs.kept)) hx38 ?_
     refine ol 133 0 (vFrac x37) (fun γ w hs => (hv0_0.kept hs.kept).flatq hx38) ?_
     obtain ⟨t40, h41, h42⟩ := bS h39
     refine k0 (fun γ w hs => c_spec_FracOk h41) ?_
     refine oN 1 [(15, vb (!t40))] [3, 0] ?_
     refine oe (nt (cC h42 (fun h45 => ?_) (fun h46 => ?_)))
     · refine qs (qr (oN 1 [(2, vb false)] [] ?_))
       refine oe (nt (qe (br (nr (nr ?_)))))
       have h47 := leafR hd30 h45 h26
       refine br (nr (nr ?_))
       obtain rfl := sI h47
       exact re [.bool false]
     refine qk (bn (nt (qr (oN 3 [(3, vi (w64 (s21 + 1)))] [0] ?_))))
     exact oe (ct h46 () [3, 0] [] 0)
   refine qx (nx (nx (bh ?_)))
   have h48 := leafB hd30 h36 h26
   exact mp ((), ()) h48 [0] [] 0
 have h33 := (congrFun hk28 _).symm.trans h33p
 refine nt (qs (qr (oN 4 [(2, vb ((x0.length : Int) == 8))] [] ?_)))
 refine oe (nt (qe ?_))
 obtain rfl := sI h33
 exact re [.bool ((x0.length : Int) == 8)]

theorem c_spec_l22Vars {W : World} {x0 : Case} {b0 : AC × AC × AC × AC × AC} {x1 : Int} {x2 : Int} {r : (List Frac) × Bool} (h : spec_l22Vars x0 x1 x2 = some r) (hv0_0 : SlView W x0.Book.Rules b0.1.1 b0.1.2) (hv0_1 : SlView W x0.Store.Facts b0.2.1.1 b0.2.1.2) (hv0_2 : SlView W x0.Series.Points b0.2.2.1.1 b0.2.2.1.2) (hv0_3 : SlView W x0.Member.Spells b0.2.2.2.1.1 b0.2.2.2.1.2) (hv0_4 : SlView W x0.Member.Events b0.2.2.2.2.1 b0.2.2.2.2.2) :
    Gives Tryz.prog 110 #[vCase x0 b0, .int .i64 x1, .int .i64 x2] W (fun y : AC => .tuple #[.slice y.1 r.1.length y.2, .bool r.2]) (fun y => [SlRes 133 r.1 y.1 y.2]) := by
 unfold spec_l22Vars at h
 refine en Tryz.func110 Tryz.ntmps110 ?_
 refine qs (qr (oB 3 [(3, .p 0 0)] [1, 2] [(38, (eCase x0 b0))] ?_))
 refine oe (nt (qs (qs ?_)))
 obtain ⟨p21, hE22, h23⟩ := bS h
 refine JC_cut (τ := Unit) (fun _ => [(1, vi x1), (2, vi x2), (3, .p 0 0), (32, vb p21)]) (fun _ => [(38, (eCase x0 b0))]) (fun _ => []) ?_ (fun _ => ?_)
 · refine qr (oN 1 [(18, vi x1)] [3, 1, 2] ?_)
   obtain ⟨t24, h25, h26⟩ := bS hE22
   refine k0 (fun γ w hs => c_spec_MonthOk h25) ?_
   refine oN 2 [(21, vb (!t24))] [3, 1, 2] ?_
   refine oS 21 h26 (fun h29 => ?_) (fun h30 => ?_)
   · refine oN 11 [(32, vb true)] [3, 1, 2] ?_
     refine oe ?_
     obtain rfl := sI h29
     exact mt () [1, 2, 3, 32] [] 1
   refine oN 1 [(22, vi x2)] [21, 3, 1, 2] ?_
   obtain ⟨t31, h32, h33⟩ := bS h30
   refine k0 (fun γ w hs => c_spec_MonthOk h32) ?_
   refine oN 3 [(26, vb (!t31))] [3, 1, 2] ?_
   refine oS 26 h33 (fun h36 => ?_) (fun h37 => ?_)
   · refine oN 6 [(32, vb true)] [3, 1, 2] ?_
     refine oe ?_
     obtain rfl := sI h36
     exact mt () [1, 2, 3, 32] [] 1
   refine oN 6 [(32, vb (decide (x1 < x0.Member.Joined)))] [3, 1, 2] ?_
   refine oe ?_
   obtain rfl := sI h37
   exact mt () [1, 2, 3, 32] [] 1
 refine nt (cC h23 (fun h41 => ?_) (fun h42 => ?_))
 · refine qs (qr (ob [] [] 133 0 [] ([] : List Frac) (own_flat (by kernel_rfl)) (fun y43 => ?_)))
   refine oN 2 [(7, vb false), (6, .v (.slice y43.1 ([] : List Frac).length y43.2))] [] ?_
   refine oe (nt (qe (nr (rt [.slice y43.1 ([] : List Frac).length y43.2, .bool false] (fun γ w hs => ?_)))))
   rw [← sI h41]
   exact ⟨y43, rfl, hs.kept.toBelow, (hs.takeR (is := [0]) rfl).fresh⟩
 refine qk (nt (qs (qr (oN 4 [(38, vi x1), (37, .v (.slice b0.2.2.2.1.1 x0.Member.Spells.length b0.2.2.2.1.2))] [1, 2, 3] ?_))))
 obtain ⟨t45, h46, h47⟩ := bS h42
 refine k0 (fun γ w hs => c_spec_ServiceIn h46 (hv0_3.kept hs.kept)) ?_
 obtain ⟨t49, h50, h51⟩ := bS h47
 refine k0 (fun γ w hs => c_spec_FracNew h50) ?_
 refine oB 6 [(8, .p 1 0)] [1, 2, 3] [(38, (eCase x0 b0)), (133, (eFrac t49.1))] ?_
 refine oe (nt (qs (qr (oN 4 [(47, vi x2), (46, vi x1), (45, .v (vStore x0.Store b0.2.1))] [8, 1, 2, 3] ?_))))
 obtain ⟨t53, h54, h55⟩ := bS h51
 refine k0 (fun γ w hs => c_spec_FinalPay h54 (hv0_1.kept hs.kept)) ?_
 refine oN 5 [(10, vi t53.1)] [8, 1, 2, 3] ?_
 refine oe (nt (qs (qr (oN 7 [(58, vi x2), (57, vi x1), (56, vi x0.Member.Joined), (53, .v (vSeries x0.Series b0.2.2.1))] [10, 8, 1, 3] ?_))))
 obtain ⟨t57, h58, h59⟩ := bS h55
 refine k0 (fun γ w hs => c_spec_IndexRatio h58 (hv0_2.kept hs.kept)) ?_
 refine oB 6 [(13, vb t57.2), (12, .p 2 0)] [10, 8, 1, 3] [(38, (eCase x0 b0)), (133, (eFrac t49.1)), (133, (eFrac t57.1))] ?_
 refine oe (nt (qs (qs (qr (oN 2 [(63, vb (!t57.2))] [12, 10, 8, 1, 3] ?_)))))
 refine oe (nt ?_)
 obtain ⟨k64, hk65, h104⟩ := jS h59
 refine JC_cutP (τ := (Int × Int) × (Unit)) (fun y => k64 y.1 = some r) (fun y63 => [(12, .p 2 0), (10, vi t53.1), (8, .p 1 0), (1, vi x1), (3, .p 0 0)]) (fun y63 => [(38, (eCase x0 b0)), (133, (eFrac t49.1)), (133, (eFrac (Frac.mk y63.1.1 y63.1.2)))]) (fun y63 => []) ?_ (fun y63 h66p => ?_)
 · refine cC h104 (fun h106 => ?_) (fun h107 => ?_)
   · refine qr (oB 2 [] [12, 10, 8, 1, 3] [(38, (eCase x0 b0)), (133, (eFrac t49.1)), (133, (eFrac (Frac.mk 1 1)))] ?_)
     exact oe (mp ((1, 1), ()) h106 [12, 10, 8, 1, 3] [] 3)
   exact qk (mp ((t57.1.Num, t57.1.Den), ()) h107 [12, 10, 8, 1, 3] [] 3)
 have h66 := (congrFun hk65 _).symm.trans h66p
 refine nt (qs (qr (oN 1 [(14, vi 0)] [12, 10, 8, 1, 3] ?_)))
 refine oe (nt (qs (qr (oN 3 [(67, .v (.slice b0.2.2.2.2.1 x0.Member.Events.length b0.2.2.2.2.2))] [14, 12, 10, 8, 1, 3] ?_))))
 obtain ⟨t67, h68, h69⟩ := bS h66
 refine k0 (fun γ w hs => c_spec_MonthOfKind h68 (hv0_4.kept hs.kept)) ?_
 refine oN 1 [(15, vi t67)] [14, 12, 10, 8, 1, 3] ?_
 refine oe (nt (qs (qs ?_)))
 obtain ⟨p71, hE72, h73⟩ := bS h69
 refine JC_cut (τ := Unit) (fun _ => [(1, vi x1), (3, .p 0 0), (8, .p 1 0), (10, vi t53.1), (12, .p 2 0), (14, vi 0), (15, vi t67), (75, vb p71)]) (fun _ => [(38, (eCase x0 b0)), (133, (eFrac t49.1)), (133, (eFrac (Frac.mk y63.1.1 y63.1.2)))]) (fun _ => []) ?_ (fun _ => ?_)
 · refine qr (oN 3 [(71, vb (decide (t67 ≥ 0)))] [15, 14, 12, 10, 8, 1, 3] ?_)
   refine oS 71 hE72 (fun h75 => ?_) (fun h76 => ?_)
   · refine oN 4 [(75, vb (decide (t67 ≤ x1)))] [15, 14, 12, 10, 8, 1, 3] ?_
     refine oe ?_
     obtain rfl := sI h75
     exact mt () [1, 3, 8, 10, 12, 14, 15, 75] [] 3
   refine oN 4 [(75, vb false)] [15, 14, 12, 10, 8, 1, 3] ?_
   refine oe ?_
   obtain rfl := sI h76
   exact mt () [1, 3, 8, 10, 12, 14, 15, 75] [] 3
 refine nt ?_
 obtain ⟨k80, hk81, h100⟩ := jS h73
 refine JC_cutP (τ := (Int) × (Unit)) (fun y => k80 y.1 = some r) (fun y79 => [(1, vi x1), (3, .p 0 0), (8, .p 1 0), (10, vi t53.1), (12, .p 2 0), (14, vi y79.1)]) (fun y79 => [(38, (eCase x0 b0)), (133, (eFrac t49.1)), (133, (eFrac (Frac.mk y63.1.1 y63.1.2)))]) (fun y79 => []) ?_ (fun y79 h82p => ?_)
 · refine cC h100 (fun h102 => ?_) (fun h103 => ?_)
   · refine qr (oN 4 [(14, vi (w64 (x1 - t67)))] [1, 3, 8, 10, 12] ?_)
     exact oe (mp (w64 (x1 - t67), ()) h102 [1, 3, 8, 10, 12, 14] [] 3)
   exact qk (mp (0, ()) h103 [1, 3, 8, 10, 12, 14] [] 3)
 have h82 := (congrFun hk81 _).symm.trans h82p
 refine nt (qs (qr (oB 3 [(16, .p 3 0)] [1, 3, 8, 10, 12, 14] [(38, (eCase x0 b0)), (133, (eFrac t49.1)), (133, (eFrac (Frac.mk y63.1.1 y63.1.2))), (133, (eFrac (Frac.mk 0 1)))] ?_)))
 refine oe (nt (qs ?_))
 obtain ⟨t83, h84, h85⟩ := bS h82
 refine JC_cut (τ := AC) (fun y88 => [(17, .v (.slice y88.1 ([t49.1, Frac.mk t53.1 1, Frac.mk t83 1, Frac.mk y63.1.1 y63.1.2, Frac.mk y79.1 1, Frac.mk x1 1, Frac.mk 0 1, Frac.mk 0 1] : List Frac).length y88.2))]) (fun y88 => [(38, (eCase x0 b0)), (133, (eFrac t49.1)), (133, (eFrac (Frac.mk y63.1.1 y63.1.2))), (133, (eFrac (Frac.mk 0 1)))]) (fun y88 => [SlRes 133 ([t49.1, Frac.mk t53.1 1, Frac.mk t83 1, Frac.mk y63.1.1 y63.1.2, Frac.mk y79.1 1, Frac.mk x1 1, Frac.mk 0 1, Frac.mk 0 1] : List Frac) y88.1 y88.2]) ?_ (fun y88 => ?_)
 · refine jw [16, 1, 3, 8, 10, 12, 14] [] ?_
   refine JC_heldN (ks := [0, 1, 2, 3]) (Rk := []) 18 (by kernel_rfl) (by kernel_rfl) ?_
   refine htq 0 (.v (vFrac t49.1)) [] ?_
   refine hk [80, 16, 1, 3, 10, 12, 14] ?_
   refine htq 1 (vi t53.1) [] ?_
   refine hk [81, 80, 16, 1, 3, 12, 14] ?_
   refine htq 2 (.v (vFrac (Frac.mk t53.1 1))) [] ?_
   refine hk [82, 80, 16, 1, 3, 12, 14] ?_
   refine htq 3 (.p 0 3) [] ?_
   refine hk [83, 82, 80, 16, 1, 12, 14] ?_
   refine htq 4 (.p 0 3) [] ?_
   refine hk [84, 82, 80, 16, 1, 12, 14] ?_
   refine htq 5 (vi x0.Member.Birth) [] ?_
   refine hk [85, 82, 80, 16, 1, 12, 14] ?_
   refine htq 6 (vi x1) [] ?_
   refine htq 9 (.v (vFrac (Frac.mk y63.1.1 y63.1.2))) [] ?_
   refine hk [89, 86, 85, 82, 80, 16, 1, 14] ?_
   refine htq 10 (vi y79.1) [] ?_
   refine hk [90, 89, 86, 85, 82, 80, 16, 1] ?_
   refine htq 11 (.v (vFrac (Frac.mk y79.1 1))) [] ?_
   refine hk [91, 89, 86, 85, 82, 80, 16, 1] ?_
   refine htq 12 (vi x1) [] ?_
   refine hk [92, 91, 89, 86, 85, 82, 80, 16] ?_
   refine htq 13 (.v (vFrac (Frac.mk x1 1))) [] ?_
   refine hk [93, 91, 89, 86, 85, 82, 80, 16] ?_
   refine htq 14 (.v (vFrac (Frac.mk 0 1))) [] ?_
   refine htq 15 (.v (vFrac (Frac.mk 0 1))) [] ?_
   refine hk [95, 94, 93, 91, 89, 86, 85, 82, 80] ?_
   refine ha1 7 ?_
   refine hi (fun γ0 δ hm => ?_)
   refine g0 (fun w hs => c_spec_AgeAt h84) ?_
   refine gn hm [87, 95, 94, 93, 91, 89, 82, 80] [] ?_
   refine htq 8 (.v (vFrac (Frac.mk t83 1))) [] ?_
   refine hk [88, 95, 94, 93, 91, 89, 82, 80] ?_
   refine ha1 16 ?_
   refine hi (fun γ0 δ hm => ?_)
   refine gb [] [] 133 8 [.int .i64 t49.1.Num, .int .i64 t49.1.Den, .int .i64 t53.1, .int .i64 1, .int .i64 t83, .int .i64 1, .int .i64 y63.1.1, .int .i64 y63.1.2, .int .i64 y79.1, .int .i64 1, .int .i64 x1, .int .i64 1, .int .i64 0, .int .i64 1, .int .i64 0, .int .i64 1] ([t49.1, Frac.mk t53.1 1, Frac.mk t83 1, Frac.mk y63.1.1 y63.1.2, Frac.mk y79.1 1, Frac.mk x1 1, Frac.mk 0 1, Frac.mk 0 1] : List Frac) (own_flat (by kernel_rfl)) (fun y87 => ?_)
   refine gn hm [96] [] ?_
   refine htq 17 (.v (.slice y87.1 ([t49.1, Frac.mk t53.1 1, Frac.mk t83 1, Frac.mk y63.1.1 y63.1.2, Frac.mk y79.1 1, Frac.mk x1 1, Frac.mk 0 1, Frac.mk 0 1] : List Frac).length y87.2)) [] ?_
   refine hk [17] ?_
   exact hd y87 [17] [0] 4
 refine nt (qs (qs (qr (oN 1 [(97, .v (.slice y88.1 ([t49.1, Frac.mk t53.1 1, Frac.mk t83 1, Frac.mk y63.1.1 y63.1.2, Frac.mk y79.1 1, Frac.mk x1 1, Frac.mk 0 1, Frac.mk 0 1] : List Frac).length y88.2))] [17] ?_))))
 obtain ⟨t89, h90, h91⟩ := bS h85
 refine k0 (fun γ w hs => c_spec_l08Vars h90 (hs.view 0 rfl)) ?_
 refine oN 1 [(99, vb (!t89))] [17] ?_
 refine oe (nt (cC h91 (fun h96 => ?_) (fun h97 => ?_)))
 · refine qs (qr (ob [] [SlRes 133 ([t49.1, Frac.mk t53.1 1, Frac.mk t83 1, Frac.mk y63.1.1 y63.1.2, Frac.mk y79.1 1, Frac.mk x1 1, Frac.mk 0 1, Frac.mk 0 1] : List Frac) y88.1 y88.2] 133 0 [] ([] : List Frac) (own_flat (by kernel_rfl)) (fun y98 => ?_)))
   refine oN 2 [(7, vb false), (6, .v (.slice y98.1 ([] : List Frac).length y98.2))] [] ?_
   refine oe (nt (qe (nr (rt [.slice y98.1 ([] : List Frac).length y98.2, .bool false] (fun γ w hs => ?_)))))
   rw [← sI h96]
   exact ⟨y98, rfl, hs.kept.toBelow, (hs.takeR (is := [0]) rfl).fresh⟩
 refine qk (nt (qs (qr (oN 3 [(7, vb true), (6, .v (.slice y88.1 ([t49.1, Frac.mk t53.1 1, Frac.mk t83 1, Frac.mk y63.1.1 y63.1.2, Frac.mk y79.1 1, Frac.mk x1 1, Frac.mk 0 1, Frac.mk 0 1] : List Frac).length y88.2))] [] ?_))))
 refine oe (nt (qe (rt [.slice y88.1 ([t49.1, Frac.mk t53.1 1, Frac.mk t83 1, Frac.mk y63.1.1 y63.1.2, Frac.mk y79.1 1, Frac.mk x1 1, Frac.mk 0 1, Frac.mk 0 1] : List Frac).length y88.2, .bool true] (fun γ w hs => ?_))))
 rw [← sI h97]
 exact ⟨y88, rfl, hs.kept.toBelow, (hs.takeR (is := [0]) rfl).fresh⟩

theorem c_spec_l10For {W : World} {x0 : Book} {a0_0 : Option Addr} {c0_0 : Nat} {x1 : Int} {x2 : Int} {x3 : Int} {r : Int} (h : spec_l10For x0 x1 x2 x3 = some r) (hv0_0 : SlView W x0.Rules a0_0 c0_0) :
    Gives0 Tryz.prog 196 #[vBook x0 (a0_0, c0_0), .int .i64 x1, .int .i64 x2, .int .i64 x3] W (.int .i64 r) := by
 unfold spec_l10For at h
 refine en Tryz.func196 Tryz.ntmps196 ?_
 refine qs (qr (oB 2 [(4, .p 0 0)] [1, 2, 3] [(26, (eBook x0 (a0_0, c0_0)))] ?_))
 refine oe (nt (qs (qr (oN 1 [(9, vi (-1))] [4, 1, 2, 3] ?_))))
 refine oe (nt (qs (qs (qr (oN 1 [(10, vi 0)] [9, 4, 1, 2, 3] ?_)))))
 refine oe (nt ?_)
 obtain ⟨r24, hL25, h26⟩ := bS h
 obtain ⟨k27, hk28, h26⟩ := brkS h26
 refine JC_cutP (τ := (Int) × (Unit)) (fun y => k27 y.1 = some r) (fun y32 => [(9, vi y32.1)]) (fun y32 => [(26, (eBook x0 (a0_0, c0_0)))]) (fun y32 => []) ?_ (fun y32 h33p => ?_)
 · refine qb (lp Unit hL25 (fun s21 y22 => [(10, vi s21.1), (9, vi s21.2), (4, .p 0 0), (1, vi x1), (2, vi x2), (3, vi x3)]) (fun s21 y22 => [(26, (eBook x0 (a0_0, c0_0)))]) (fun s21 y22 => []) () [10, 9, 4, 1, 2, 3] [] 1 (fun s21 y22 t23 h29 hd30 => ?_))
   refine qs (qs (qr (oN 5 [(16, vb (decide (s21.1 < (x0.Rules.length : Int))))] [10, 9, 4, 1, 2, 3] ?_)))
   refine oe (nt (cC h29 (fun h35 => ?_) (fun h36 => ?_)))
   · refine qk (nt (qs (qb (qs (qr (oN 3 [(21, vi s21.1), (20, .v (.slice a0_0 x0.Rules.length c0_0))] [10, 9, 4, 1, 2, 3] ?_))))))
     obtain ⟨x37, hx38, h39⟩ := bS h35
     refine oi 7 (fun γ w hs => (hv0_0.kept hs.kept)) hx38 ?_
     obtain ⟨_, ⟨a40, c41, rfl, hv42⟩, hc43⟩ := SlView.at hv0_0 (idx_some hx38).2.2
     refine ol 76 0 (vRule x37 (a40, c41)) (fun γ w hs => ⟨(hv0_0.kept hs.kept).ne (idx_some hx38).2.2, hc43.kept hs.kept⟩) ?_
     refine oB 2 [(11, .p 1 0)] [10, 9, 4, 1, 2, 3] [(26, (eBook x0 (a0_0, c0_0))), (76, (eRule x37 (a40, c41)))] ?_
     refine oe (nt (qs ?_))
     obtain ⟨p44, hE45, h46⟩ := bS h39
     refine JC_cut (τ := Unit) (fun _ => [(1, vi x1), (2, vi x2), (3, vi x3), (4, .p 0 0), (9, vi s21.2), (10, vi s21.1), (60, vb p44)]) (fun _ => [(26, (eBook x0 (a0_0, c0_0))), (76, (eRule x37 (a40, c41)))]) (fun _ => []) ?_ (fun _ => ?_)
     · refine JC_quiet (by kernel_rfl) (by kernel_rfl) ?_
       refine qN 5 [(28, vb (x37.Name == x1))] [11, 10, 9, 4, 1, 2, 3] ?_
       refine qS 28 hE45 (fun h48 => ?_) (fun h49 => ?_)
       · refine qN 6 [(34, vb (decide (x37.From ≤ x2)))] [11, 10, 9, 4, 1, 2, 3] ?_
         refine qS 34 h48 (fun h51 => ?_) (fun h52 => ?_)
         · refine qN 6 [(40, vb (decide (x2 < x37.To)))] [11, 10, 9, 4, 1, 2, 3] ?_
           refine qS 40 h51 (fun h54 => ?_) (fun h55 => ?_)
           · refine qN 6 [(46, vb (decide (x3 < x37.Joined)))] [11, 10, 9, 4, 1, 2, 3] ?_
             refine qS 46 h54 (fun h57 => ?_) (fun h58 => ?_)
             · refine qN 3 [(49, vb (decide (s21.2 < 0)))] [46, 11, 10, 9, 4, 1, 2, 3] ?_
               refine qS 49 h57 (fun h60 => ?_) (fun h61 => ?_)
               · refine qN 11 [(60, vb true)] [10, 9, 4, 1, 2, 3] ?_
                 refine qz ?_
                 obtain rfl := sI h60
                 exact mt () [1, 2, 3, 4, 9, 10, 60] [] 2
               refine qN 5 [(54, vi s21.2), (53, .v (.slice a0_0 x0.Rules.length c0_0)), (51, vi x37.Rank)] [49, 46, 10, 9, 4, 1, 2, 3] ?_
               obtain ⟨x62, hx63, h64⟩ := bS h61
               refine qi 7 (fun γ w hs => (hv0_0.kept hs.kept)) hx63 ?_
               refine qN 1 [(56, .q a0_0 (Int.toNat s21.2 * 7 + 4))] [51, 49, 46, 10, 9, 4, 1, 2, 3] ?_
               obtain ⟨_, ⟨a65, c66, rfl, hv67⟩, hc68⟩ := SlView.at hv0_0 (idx_some hx63).2.2
               refine ql 3 4 (.int .i64 x62.Rank) (fun γ w hs => ⟨(hv0_0.kept hs.kept).ne (idx_some hx63).2.2, hc68.kept hs.kept⟩) ?_
               refine qN 3 [(60, vb (decide (x37.Rank > x62.Rank)))] [10, 9, 4, 1, 2, 3] ?_
               refine qz ?_
               obtain rfl := sI h64
               exact mt () [1, 2, 3, 4, 9, 10, 60] [] 2
             refine qN 14 [(60, vb false)] [10, 9, 4, 1, 2, 3] ?_
             refine qz ?_
             obtain rfl := sI h58
             exact mt () [1, 2, 3, 4, 9, 10, 60] [] 2
           refine qN 20 [(60, vb false)] [10, 9, 4, 1, 2, 3] ?_
           refine qz ?_
           obtain rfl := sI h55
           exact mt () [1, 2, 3, 4, 9, 10, 60] [] 2
         refine qN 26 [(60, vb false)] [10, 9, 4, 1, 2, 3] ?_
         refine qz ?_
         obtain rfl := sI h52
         exact mt () [1, 2, 3, 4, 9, 10, 60] [] 2
       refine qN 32 [(60, vb false)] [10, 9, 4, 1, 2, 3] ?_
       refine qz ?_
       obtain rfl := sI h49
       exact mt () [1, 2, 3, 4, 9, 10, 60] [] 2
     refine nt ?_
     obtain ⟨k72, hk73, h75⟩ := jS h46
     refine JC_cutP (τ := (Int) × (Unit)) (fun y => k72 y.1 = some t23) (fun y71 => [(1, vi x1), (2, vi x2), (3, vi x3), (4, .p 0 0), (9, vi y71.1), (10, vi s21.1)]) (fun y71 => [(26, (eBook x0 (a0_0, c0_0))), (76, (eRule x37 (a40, c41)))]) (fun y71 => []) ?_ (fun y71 h74p => ?_)
     · refine cC h75 (fun h77 => ?_) (fun h78 => ?_)
       · refine qr (oN 2 [(9, vi s21.1)] [1, 2, 3, 4, 10] ?_)
         exact oe (mp (s21.1, ()) h77 [1, 2, 3, 4, 9, 10] [] 2)
       exact qk (mp (s21.2, ()) h78 [1, 2, 3, 4, 9, 10] [] 2)
     have h74 := (congrFun hk73 _).symm.trans h74p
     refine bn (nt (qr (oN 3 [(10, vi (w64 (s21.1 + 1)))] [1, 2, 3, 4, 9] ?_)))
     exact oe (ct h74 () [10, 9, 4, 1, 2, 3] [] 1)
   refine qx (nx (nx (bh ?_)))
   have h79 := leafB hd30 h36 h26
   exact mp (s21.2, ()) h79 [9] [] 1
 have h33 := (congrFun hk28 _).symm.trans h33p
 refine nt (qs (qr (oN 2 [(8, vi y32.1)] [] ?_)))
 refine oe (nt (qe ?_))
 obtain rfl := sI h33
 exact re [.int .i64 y32.1]

theorem c_spec_RuleFor {W : World} {x0 : Book} {a0_0 : Option Addr} {c0_0 : Nat} {x1 : Int} {x2 : Int} {x3 : Int} {r : Int} (h : spec_RuleFor x0 x1 x2 x3 = some r) (hv0_0 : SlView W x0.Rules a0_0 c0_0) :
    Gives0 Tryz.prog 168 #[vBook x0 (a0_0, c0_0), .int .i64 x1, .int .i64 x2, .int .i64 x3] W (.int .i64 r) := by
 unfold spec_RuleFor at h
 refine en Tryz.func168 Tryz.ntmps168 ?_
 refine qs (qr (oB 2 [(4, .p 0 0)] [1, 2, 3] [(26, (eBook x0 (a0_0, c0_0)))] ?_))
 refine oe (nt (qs (qs (qr (oN 1 [(9, .v (vBook x0 (a0_0, c0_0)))] [4, 1, 2, 3] ?_)))))
 obtain ⟨t21, h22, h23⟩ := bS h
 refine k0 (fun γ w hs => c_spec_BookOk h22 (hv0_0.kept hs.kept)) ?_
 refine oN 1 [(11, vb (!t21))] [4, 1, 2, 3] ?_
 refine oe (nt (cC h23 (fun h26 => ?_) (fun h27 => ?_)))
 · refine qs (qr (oN 1 [(8, vi (-1))] [] ?_))
   refine oe (nt (qe (nr ?_)))
   obtain rfl := sI h26
   exact re [.int .i64 (-1)]
 refine qk (nt (qs (qr (oN 4 [(15, vi x3), (14, vi x2), (13, vi x1), (12, .v (vBook x0 (a0_0, c0_0)))] [] ?_))))
 obtain ⟨t28, h29, h30⟩ := bS h27
 refine k0 (fun γ w hs => c_spec_l10For h29 (hv0_0.kept hs.kept)) ?_
 refine oN 1 [(8, vi t28)] [] ?_
 refine oe (nt (qe ?_))
 obtain rfl := sI h30
 exact re [.int .i64 t28]

theorem c_spec_l02Sum {W : World} {x0 : Frac} {x1 : Frac} {x2 : Int} {r : Frac × Bool} (h : spec_l02Sum x0 x1 x2 = some r)  :
    Gives0 Tryz.prog 224 #[vFrac x0, vFrac x1, .int .i64 x2] W (.tuple #[vFrac r.1, .bool r.2]) := by
 unfold spec_l02Sum at h
 refine en Tryz.func224 Tryz.ntmps224 ?_
 refine qs (qr (oB 4 [(6, .p 2 0), (4, .p 1 0), (3, .p 0 0)] [2] [(133, (eFrac x0)), (133, (eFrac x1)), (133, (eFrac (Frac.mk 0 0)))] ?_))
 refine oe (nt (qs (qs ?_)))
 obtain ⟨p21, hE22, h23⟩ := bS h
 refine JC_cut (τ := Unit) (fun _ => [(2, vi x2), (3, .p 0 0), (4, .p 1 0), (6, .p 2 0), (16, vb p21)]) (fun _ => [(133, (eFrac x0)), (133, (eFrac x1)), (133, (eFrac (Frac.mk 0 0)))]) (fun _ => []) ?_ (fun _ => ?_)
 · refine qr (oN 1 [(9, .v (vFrac x0))] [6, 4, 3, 2] ?_)
   obtain ⟨t24, h25, h26⟩ := bS hE22
   refine k0 (fun γ w hs => c_spec_FracOk h25) ?_
   refine oN 2 [(12, vb (!t24))] [6, 4, 3, 2] ?_
   refine oS 12 h26 (fun h29 => ?_) (fun h30 => ?_)
   · refine oN 4 [(16, vb true)] [6, 4, 3, 2] ?_
     refine oe ?_
     obtain rfl := sI h29
     exact mt () [2, 3, 4, 6, 16] [] 3
   refine oN 1 [(13, .v (vFrac x1))] [12, 6, 4, 3, 2] ?_
   obtain ⟨t31, h32, h33⟩ := bS h30
   refine k0 (fun γ w hs => c_spec_FracOk h32) ?_
   refine oN 2 [(16, vb (!t31))] [6, 4, 3, 2] ?_
   refine oe ?_
   obtain rfl := sI h33
   exact mt () [2, 3, 4, 6, 16] [] 3
 refine nt (cC h23 (fun h36 => ?_) (fun h37 => ?_))
 · refine qs (qr (oN 3 [(7, vb false)] [6] ?_))
   refine oe (nt (qe (nr ?_)))
   obtain rfl := sI h36
   exact re [vFrac (Frac.mk 0 0), .bool false]
 refine qk (nt (qs (qr (oN 4 [(21, vi x1.Den), (19, vi x0.Den)] [2, 3, 4, 6] ?_))))
 obtain ⟨t38, h39, h40⟩ := bS h37
 refine k0 (fun γ w hs => c_spec_l02Gcd h39) ?_
 refine oN 1 [(8, vi t38)] [2, 3, 4, 6] ?_
 refine oe (nt (qs ?_))
 obtain ⟨u44, hz43, h42⟩ := bS h40
 obtain ⟨u47, hz46, h45⟩ := bS h42
 obtain ⟨u50, hz49, h48⟩ := bS h45
 obtain ⟨t51, h52, h53⟩ := bS h48
 refine JC_cut (τ := Unit) (fun _ => [(7, vb t51.2), (6, .p 2 0)]) (fun _ => [(133, (eFrac x0)), (133, (eFrac x1)), (133, (eFrac t51.1))]) (fun _ => []) ?_ (fun _ => ?_)
 · refine jw [8, 2, 3, 4, 6] [] ?_
   refine JC_heldN (ks := [0, 1]) (Rk := []) 29 (by kernel_rfl) (by kernel_rfl) ?_
   refine htq 0 (.p 0 0) [] ?_
   refine htq 1 (vi x0.Num) [] ?_
   refine hk [24, 8, 2, 3, 4, 6] ?_
   refine htq 2 (.p 1 1) [] ?_
   refine htq 3 (vi x1.Den) [] ?_
   refine hk [26, 24, 8, 2, 3, 4, 6] ?_
   refine htq 4 (vi t38) [] ?_
   refine ht 5 (vi (w64 (Int.tdiv x1.Den t38))) [] (div_held (op := .quo) (k := .i64) (x := x1.Den) (y := t38) (by kernel_rfl) (nz_some hz43)) ?_
   refine hk [28, 24, 8, 2, 3, 4, 6] ?_
   refine htq 6 (vi (w64 (x0.Num * (w64 (Int.tdiv x1.Den t38))))) [] ?_
   refine hk [29, 8, 2, 3, 4, 6] ?_
   refine htq 7 (vi x2) [] ?_
   refine hk [30, 29, 8, 3, 4, 6] ?_
   refine htq 8 (.p 1 0) [] ?_
   refine htq 9 (vi x1.Num) [] ?_
   refine hk [32, 30, 29, 8, 3, 4, 6] ?_
   refine htq 10 (vi (w64 (x2 * x1.Num))) [] ?_
   refine hk [33, 29, 8, 3, 4, 6] ?_
   refine htq 11 (.p 0 1) [] ?_
   refine htq 12 (vi x0.Den) [] ?_
   refine hk [35, 33, 29, 8, 3, 4, 6] ?_
   refine htq 13 (vi t38) [] ?_
   refine ht 14 (vi (w64 (Int.tdiv x0.Den t38))) [] (div_held (op := .quo) (k := .i64) (x := x0.Den) (y := t38) (by kernel_rfl) (nz_some hz46)) ?_
   refine hk [37, 33, 29, 8, 3, 4, 6] ?_
   refine htq 15 (vi (w64 ((w64 (x2 * x1.Num)) * (w64 (Int.tdiv x0.Den t38))))) [] ?_
   refine hk [38, 29, 8, 3, 4, 6] ?_
   refine htq 16 (vi (w64 ((w64 (x0.Num * (w64 (Int.tdiv x1.Den t38)))) + (w64 ((w64 (x2 * x1.Num)) * (w64 (Int.tdiv x0.Den t38))))))) [] ?_
   refine hk [39, 8, 3, 4, 6] ?_
   refine htq 17 (.p 0 1) [] ?_
   refine hk [40, 39, 8, 4, 6] ?_
   refine htq 18 (vi x0.Den) [] ?_
   refine hk [41, 39, 8, 4, 6] ?_
   refine htq 19 (vi t38) [] ?_
   refine hk [42, 41, 39, 4, 6] ?_
   refine ht 20 (vi (w64 (Int.tdiv x0.Den t38))) [] (div_held (op := .quo) (k := .i64) (x := x0.Den) (y := t38) (by kernel_rfl) (nz_some hz49)) ?_
   refine hk [43, 39, 4, 6] ?_
   refine htq 21 (.p 1 1) [] ?_
   refine hk [44, 43, 39, 6] ?_
   refine htq 22 (vi x1.Den) [] ?_
   refine hk [45, 43, 39, 6] ?_
   refine htq 23 (vi (w64 ((w64 (Int.tdiv x0.Den t38)) * x1.Den))) [] ?_
   refine hk [46, 39, 6] ?_
   refine ha1 24 ?_
   refine hi (fun γ0 δ hm => ?_)
   refine g0 (fun w hs => c_spec_l02Make h52) ?_
   refine gn hm [47, 6] [] ?_
   refine htq 25 (.v (vFrac t51.1)) [] ?_
   refine htq 26 (vb t51.2) [] ?_
   refine hk [49, 48, 6] ?_
   refine ha1 27 ?_
   refine hi (fun γ0 δ hm => ?_)
   refine gs [(49, vb t51.2), (48, .v (vFrac t51.1)), (6, .p 2 0)] [(133, (eFrac x0)), (133, (eFrac x1)), (133, (eFrac t51.1))] (fun δ2 => ?_)
   refine gd hm [49, 6] [] ?_
   refine htq 28 (vb t51.2) [] ?_
   refine hk [7, 6] ?_
   exact hd () [7, 6] [] 3
 refine nt (qe ?_)
 obtain rfl := sI h53
 exact re [vFrac t51.1, .bool t51.2]

theorem c_spec_FracAdd {W : World} {x0 : Frac} {x1 : Frac} {r : Frac × Bool} (h : spec_FracAdd x0 x1 = some r)  :
    Gives0 Tryz.prog 217 #[vFrac x0, vFrac x1] W (.tuple #[vFrac r.1, .bool r.2]) := by
 unfold spec_FracAdd at h
 refine en Tryz.func217 Tryz.ntmps217 ?_
 refine qs (qr (oB 4 [(4, .p 2 0), (3, .p 1 0), (2, .p 0 0)] [] [(133, (eFrac x0)), (133, (eFrac x1)), (133, (eFrac (Frac.mk 0 0)))] ?_))
 refine oe (nt (qs (qr (oN 2 [(7, .v (vFrac x1)), (6, .v (vFrac x0))] [4] ?_))))
 obtain ⟨t21, h22, h23⟩ := bS h
 refine k0 (fun γ w hs => c_spec_l02Sum h22) ?_
 refine oB 4 [(5, vb t21.2)] [4] [(133, (eFrac x0)), (133, (eFrac x1)), (133, (eFrac t21.1))] ?_
 refine oe (nt (qe ?_))
 obtain rfl := sI h23
 exact re [vFrac t21.1, .bool t21.2]

theorem c_spec_FracSub {W : World} {x0 : Frac} {x1 : Frac} {r : Frac × Bool} (h : spec_FracSub x0 x1 = some r)  :
    Gives0 Tryz.prog 218 #[vFrac x0, vFrac x1] W (.tuple #[vFrac r.1, .bool r.2]) := by
 unfold spec_FracSub at h
 refine en Tryz.func218 Tryz.ntmps218 ?_
 refine qs (qr (oB 4 [(4, .p 2 0), (3, .p 1 0), (2, .p 0 0)] [] [(133, (eFrac x0)), (133, (eFrac x1)), (133, (eFrac (Frac.mk 0 0)))] ?_))
 refine oe (nt (qs (qr (oN 2 [(7, .v (vFrac x1)), (6, .v (vFrac x0))] [4] ?_))))
 obtain ⟨t21, h22, h23⟩ := bS h
 refine k0 (fun γ w hs => c_spec_l02Sum h22) ?_
 refine oB 4 [(5, vb t21.2)] [4] [(133, (eFrac x0)), (133, (eFrac x1)), (133, (eFrac t21.1))] ?_
 refine oe (nt (qe ?_))
 obtain rfl := sI h23
 exact re [vFrac t21.1, .bool t21.2]

theorem c_spec_l02Small {W : World} {x0 : Frac} {r : Bool} (h : spec_l02Small x0 = some r)  :
    Gives0 Tryz.prog 225 #[vFrac x0] W (.bool r) := by
 unfold spec_l02Small at h
 refine en Tryz.func225 Tryz.ntmps225 ?_
 refine qs (qr (oB 2 [(1, .p 0 0)] [] [(133, (eFrac x0))] ?_))
 refine oe (nt (qs ?_))
 obtain ⟨p21, hE22, h23⟩ := bS h
 refine JC_cut (τ := Unit) (fun _ => [(2, vb p21)]) (fun _ => [(133, (eFrac x0))]) (fun _ => []) ?_ (fun _ => ?_)
 · refine qr (oN 1 [(3, .v (vFrac x0))] [1] ?_)
   obtain ⟨t24, h25, h26⟩ := bS hE22
   refine k0 (fun γ w hs => c_spec_FracOk h25) ?_
   refine oN 1 [(5, vb t24)] [1] ?_
   refine oS 5 h26 (fun h29 => ?_) (fun h30 => ?_)
   · refine oN 2 [(7, vi x0.Num)] [5] ?_
     obtain ⟨t31, h32, h33⟩ := bS h29
     refine k0 (fun γ w hs => c_spec_l01In h32) ?_
     refine oN 2 [(2, vb t31)] [] ?_
     refine oe ?_
     obtain rfl := sI h33
     exact mt () [2] [] 1
   refine oN 5 [(2, vb false)] [] ?_
   refine oe ?_
   obtain rfl := sI h30
   exact mt () [2] [] 1
 refine nt (qe ?_)
 obtain rfl := sI h23
 exact re [.bool p21]

theorem c_spec_FracMul {W : World} {x0 : Frac} {x1 : Frac} {r : Frac × Bool} (h : spec_FracMul x0 x1 = some r)  :
    Gives0 Tryz.prog 219 #[vFrac x0, vFrac x1] W (.tuple #[vFrac r.1, .bool r.2]) := by
 unfold spec_FracMul at h
 refine en Tryz.func219 Tryz.ntmps219 ?_
 refine qs (qr (oB 4 [(4, .p 2 0), (3, .p 1 0), (2, .p 0 0)] [] [(133, (eFrac x0)), (133, (eFrac x1)), (133, (eFrac (Frac.mk 0 0)))] ?_))
 refine oe (nt (qs (qs ?_)))
 obtain ⟨p21, hE22, h23⟩ := bS h
 refine JC_cut (τ := Unit) (fun _ => [(2, .p 0 0), (3, .p 1 0), (4, .p 2 0), (13, vb p21)]) (fun _ => [(133, (eFrac x0)), (133, (eFrac x1)), (133, (eFrac (Frac.mk 0 0)))]) (fun _ => []) ?_ (fun _ => ?_)
 · refine qr (oN 1 [(6, .v (vFrac x0))] [4, 3, 2] ?_)
   obtain ⟨t24, h25, h26⟩ := bS hE22
   refine k0 (fun γ w hs => c_spec_l02Small h25) ?_
   refine oN 2 [(9, vb (!t24))] [4, 3, 2] ?_
   refine oS 9 h26 (fun h29 => ?_) (fun h30 => ?_)
   · refine oN 4 [(13, vb true)] [4, 3, 2] ?_
     refine oe ?_
     obtain rfl := sI h29
     exact mt () [2, 3, 4, 13] [] 3
   refine oN 1 [(10, .v (vFrac x1))] [9, 4, 3, 2] ?_
   obtain ⟨t31, h32, h33⟩ := bS h30
   refine k0 (fun γ w hs => c_spec_l02Small h32) ?_
   refine oN 2 [(13, vb (!t31))] [4, 3, 2] ?_
   refine oe ?_
   obtain rfl := sI h33
   exact mt () [2, 3, 4, 13] [] 3
 refine nt (cC h23 (fun h36 => ?_) (fun h37 => ?_))
 · refine qs (qr (oN 3 [(5, vb false)] [4] ?_))
   refine oe (nt (qe (nr ?_)))
   obtain rfl := sI h36
   exact re [vFrac (Frac.mk 0 0), .bool false]
 refine qk (nt (qs (qr (oN 10 [(24, vi (w64 (x0.Den * x1.Den))), (19, vi (w64 (x0.Num * x1.Num)))] [4] ?_))))
 obtain ⟨t38, h39, h40⟩ := bS h37
 refine k0 (fun γ w hs => c_spec_l02Make h39) ?_
 refine oB 4 [(5, vb t38.2)] [4] [(133, (eFrac x0)), (133, (eFrac x1)), (133, (eFrac t38.1))] ?_
 refine oe (nt (qe ?_))
 obtain rfl := sI h40
 exact re [vFrac t38.1, .bool t38.2]

theorem c_spec_FracDiv {W : World} {x0 : Frac} {x1 : Frac} {r : Frac × Bool} (h : spec_FracDiv x0 x1 = some r)  :
    Gives0 Tryz.prog 220 #[vFrac x0, vFrac x1] W (.tuple #[vFrac r.1, .bool r.2]) := by
 unfold spec_FracDiv at h
 refine en Tryz.func220 Tryz.ntmps220 ?_
 refine qs (qr (oB 4 [(4, .p 2 0), (3, .p 1 0), (2, .p 0 0)] [] [(133, (eFrac x0)), (133, (eFrac x1)), (133, (eFrac (Frac.mk 0 0)))] ?_))
 refine oe (nt (qs (qs ?_)))
 obtain ⟨p21, hE22, h23⟩ := bS h
 refine JC_cut (τ := Unit) (fun _ => [(2, .p 0 0), (3, .p 1 0), (4, .p 2 0), (18, vb p21)]) (fun _ => [(133, (eFrac x0)), (133, (eFrac x1)), (133, (eFrac (Frac.mk 0 0)))]) (fun _ => []) ?_ (fun _ => ?_)
 · refine qr (oN 1 [(6, .v (vFrac x0))] [4, 3, 2] ?_)
   obtain ⟨t24, h25, h26⟩ := bS hE22
   refine k0 (fun γ w hs => c_spec_l02Small h25) ?_
   refine oN 2 [(9, vb (!t24))] [4, 3, 2] ?_
   refine oS 9 h26 (fun h29 => ?_) (fun h30 => ?_)
   · refine oN 9 [(18, vb true)] [4, 3, 2] ?_
     refine oe ?_
     obtain rfl := sI h29
     exact mt () [2, 3, 4, 18] [] 3
   refine oN 1 [(10, .v (vFrac x1))] [9, 4, 3, 2] ?_
   obtain ⟨t31, h32, h33⟩ := bS h30
   refine k0 (fun γ w hs => c_spec_l02Small h32) ?_
   refine oN 3 [(14, vb (!t31))] [4, 3, 2] ?_
   refine oS 14 h33 (fun h36 => ?_) (fun h37 => ?_)
   · refine oN 4 [(18, vb true)] [4, 3, 2] ?_
     refine oe ?_
     obtain rfl := sI h36
     exact mt () [2, 3, 4, 18] [] 3
   refine oN 4 [(18, vb (x1.Num == 0))] [4, 3, 2] ?_
   refine oe ?_
   obtain rfl := sI h37
   exact mt () [2, 3, 4, 18] [] 3
 refine nt (cC h23 (fun h39 => ?_) (fun h40 => ?_))
 · refine qs (qr (oN 3 [(5, vb false)] [4] ?_))
   refine oe (nt (qe (nr ?_)))
   obtain rfl := sI h39
   exact re [vFrac (Frac.mk 0 0), .bool false]
 refine qk (nt (qs (qr (oN 10 [(29, vi (w64 (x0.Den * x1.Num))), (24, vi (w64 (x0.Num * x1.Den)))] [4] ?_))))
 obtain ⟨t41, h42, h43⟩ := bS h40
 refine k0 (fun γ w hs => c_spec_l02Make h42) ?_
 refine oB 4 [(5, vb t41.2)] [4] [(133, (eFrac x0)), (133, (eFrac x1)), (133, (eFrac t41.1))] ?_
 refine oe (nt (qe ?_))
 obtain rfl := sI h43
 exact re [vFrac t41.1, .bool t41.2]

theorem c_spec_FracCmp {W : World} {x0 : Frac} {x1 : Frac} {r : Int} (h : spec_FracCmp x0 x1 = some r)  :
    Gives0 Tryz.prog 221 #[vFrac x0, vFrac x1] W (.int .i64 r) := by
 unfold spec_FracCmp at h
 refine en Tryz.func221 Tryz.ntmps221 ?_
 refine qs (qr (oB 3 [(3, .p 1 0), (2, .p 0 0)] [] [(133, (eFrac x0)), (133, (eFrac x1))] ?_))
 refine oe (nt (qs (qs ?_)))
 obtain ⟨p21, hE22, h23⟩ := bS h
 refine JC_cut (τ := Unit) (fun _ => [(2, .p 0 0), (3, .p 1 0), (14, vb p21)]) (fun _ => [(133, (eFrac x0)), (133, (eFrac x1))]) (fun _ => []) ?_ (fun _ => ?_)
 · refine qr (oN 1 [(7, .v (vFrac x0))] [3, 2] ?_)
   obtain ⟨t24, h25, h26⟩ := bS hE22
   refine k0 (fun γ w hs => c_spec_FracOk h25) ?_
   refine oN 2 [(10, vb (!t24))] [3, 2] ?_
   refine oS 10 h26 (fun h29 => ?_) (fun h30 => ?_)
   · refine oN 4 [(14, vb true)] [3, 2] ?_
     refine oe ?_
     obtain rfl := sI h29
     exact mt () [2, 3, 14] [] 2
   refine oN 1 [(11, .v (vFrac x1))] [10, 3, 2] ?_
   obtain ⟨t31, h32, h33⟩ := bS h30
   refine k0 (fun γ w hs => c_spec_FracOk h32) ?_
   refine oN 2 [(14, vb (!t31))] [3, 2] ?_
   refine oe ?_
   obtain rfl := sI h33
   exact mt () [2, 3, 14] [] 2
 refine nt (cC h23 (fun h36 => ?_) (fun h37 => ?_))
 · refine qs (qr (oN 1 [(4, vi 2)] [] ?_))
   refine oe (nt (qe (nr ?_)))
   obtain rfl := sI h36
   exact re [.int .i64 2]
 refine qk (nt (qs (qr (oN 6 [(5, vi (w64 (x0.Num * x1.Den)))] [2, 3] ?_))))
 refine oe (nt (qs (qr (oN 6 [(6, vi (w64 (x1.Num * x0.Den)))] [5] ?_))))
 refine oe (nt (qs (qb (qs (qr (oN 4 [(25, vb (decide ((w64 (x0.Num * x1.Den)) < (w64 (x1.Num * x0.Den)))))] [6, 5] ?_))))))
 refine oe (nt (cC h37 (fun h42 => ?_) (fun h43 => ?_)))
 · refine qs (qr (oN 1 [(4, vi (-1))] [] ?_))
   refine oe (nt (qe (br (nr ?_))))
   obtain rfl := sI h42
   exact re [.int .i64 (-1)]
 refine qs (qr (oN 4 [(29, vb (decide ((w64 (x0.Num * x1.Den)) > (w64 (x1.Num * x0.Den)))))] [] ?_))
 refine oe (nt (cC h43 (fun h45 => ?_) (fun h46 => ?_)))
 · refine qs (qr (oN 1 [(4, vi 1)] [] ?_))
   refine oe (nt (qe (br (nr ?_))))
   obtain rfl := sI h45
   exact re [.int .i64 1]
 refine qk (bn (nt (qs (qr (oN 1 [(4, vi 0)] [] ?_)))))
 refine oe (nt (qe ?_))
 obtain rfl := sI h46
 exact re [.int .i64 0]

theorem c_spec_l08Value {W : World} {x0 : Node} {x1 : List Frac} {a1_0 : Option Addr} {c1_0 : Nat} {x2 : List Frac} {a2_0 : Option Addr} {c2_0 : Nat} {r : Frac × Bool} (h : spec_l08Value x0 x1 x2 = some r) (hv1_0 : SlView W x1 a1_0 c1_0) (hv2_0 : SlView W x2 a2_0 c2_0) :
    Gives0 Tryz.prog 208 #[vNode x0, .slice a1_0 x1.length c1_0, .slice a2_0 x2.length c2_0] W (.tuple #[vFrac r.1, .bool r.2]) := by
 unfold spec_l08Value at h
 refine en Tryz.func208 Tryz.ntmps208 ?_
 refine qs (qr (oB 3 [(6, .p 1 0), (3, .p 0 0)] [1, 2] [(154, (eNode x0)), (133, (eFrac (Frac.mk 0 0)))] ?_))
 refine oe (nt (qs (qs (qr (oN 2 [(11, vi x0.Kind)] [6, 3, 1, 2] ?_)))))
 refine oe (nt (qb (qs (qr (oN 2 [(12, vb (x0.Kind == 1))] [11, 6, 3, 1, 2] ?_)))))
 refine oe (nt (cC h (fun h28 => ?_) (fun h29 => ?_)))
 · refine qs (qr (oB 4 [(7, vb true)] [6] [(154, (eNode x0)), (133, (eFrac x0.Value))] ?_))
   refine oe (nt (qe (br (nr ?_))))
   obtain rfl := sI h28
   exact re [vFrac x0.Value, .bool true]
 refine qs (qr (oN 2 [(16, vb (x0.Kind == 2))] [6, 3, 1, 2] ?_))
 refine oe (nt (cC h29 (fun h34 => ?_) (fun h35 => ?_)))
 · refine qs (qr (oN 3 [(20, vi x0.A), (18, .v (.slice a2_0 x2.length c2_0))] [6] ?_))
   obtain ⟨x36, hx37, h38⟩ := bS h34
   refine oi 2 (fun γ w hs => (hv2_0.kept hs.kept)) hx37 ?_
   refine ol 133 0 (vFrac x36) (fun γ w hs => (hv2_0.kept hs.kept).flatq hx37) ?_
   refine oB 2 [(7, vb true)] [6] [(154, (eNode x0)), (133, (eFrac x36))] ?_
   refine oe (nt (qe (br (nr ?_))))
   obtain rfl := sI h38
   exact re [vFrac x36, .bool true]
 refine qk (bn (nt (qs (qr (oN 3 [(25, vi x0.A), (23, .v (.slice a1_0 x1.length c1_0))] [6, 3, 1] ?_)))))
 obtain ⟨x39, hx40, h41⟩ := bS h35
 refine oi 2 (fun γ w hs => (hv1_0.kept hs.kept)) hx40 ?_
 refine ol 133 0 (vFrac x39) (fun γ w hs => (hv1_0.kept hs.kept).flatq hx40) ?_
 refine oB 2 [(8, .p 2 0)] [6, 3, 1] [(154, (eNode x0)), (133, (eFrac (Frac.mk 0 0))), (133, (eFrac x39))] ?_
 refine oe (nt (qs (qr (oN 3 [(30, vi x0.B), (28, .v (.slice a1_0 x1.length c1_0))] [8, 6, 3, 1] ?_))))
 obtain ⟨x42, hx43, h44⟩ := bS h41
 refine oi 2 (fun γ w hs => (hv1_0.kept hs.kept)) hx43 ?_
 refine ol 133 0 (vFrac x42) (fun γ w hs => (hv1_0.kept hs.kept).flatq hx43) ?_
 refine oB 2 [(9, .p 3 0)] [8, 6, 3, 1] [(154, (eNode x0)), (133, (eFrac (Frac.mk 0 0))), (133, (eFrac x39)), (133, (eFrac x42))] ?_
 refine oe (nt (qs (qs (qr (oN 2 [(34, vi x0.Kind)] [9, 8, 6, 3, 1] ?_)))))
 refine oe (nt (qb (qs (qr (oN 2 [(35, vb (x0.Kind == 3))] [34, 9, 8, 6, 3, 1] ?_)))))
 refine oe (nt (cC h44 (fun h91 => ?_) (fun h92 => ?_)))
 · refine qs (qr (oN 2 [(38, .v (vFrac x42)), (37, .v (vFrac x39))] [6] ?_))
   obtain ⟨t93, h94, h95⟩ := bS h91
   refine k0 (fun γ w hs => c_spec_FracAdd h94) ?_
   refine oB 4 [(7, vb t93.2)] [6] [(154, (eNode x0)), (133, (eFrac t93.1)), (133, (eFrac x39)), (133, (eFrac x42))] ?_
   refine oe (nt (qe (br (nr ?_))))
   obtain rfl := sI h95
   exact re [vFrac t93.1, .bool t93.2]
 refine qs (qr (oN 2 [(42, vb (x0.Kind == 4))] [34, 9, 8, 6, 3, 1] ?_))
 refine oe (nt (cC h92 (fun h136 => ?_) (fun h137 => ?_)))
 · refine qs (qr (oN 2 [(45, .v (vFrac x42)), (44, .v (vFrac x39))] [6] ?_))
   obtain ⟨t138, h139, h140⟩ := bS h136
   refine k0 (fun γ w hs => c_spec_FracSub h139) ?_
   refine oB 4 [(7, vb t138.2)] [6] [(154, (eNode x0)), (133, (eFrac t138.1)), (133, (eFrac x39)), (133, (eFrac x42))] ?_
   refine oe (nt (qe (br (nr ?_))))
   obtain rfl := sI h140
   exact re [vFrac t138.1, .bool t138.2]
 refine qs (qr (oN 2 [(49, vb (x0.Kind == 5))] [34, 9, 8, 6, 3, 1] ?_))
 refine oe (nt (cC h137 (fun h174 => ?_) (fun h175 => ?_)))
 · refine qs (qr (oN 2 [(52, .v (vFrac x42)), (51, .v (vFrac x39))] [6] ?_))
   obtain ⟨t176, h177, h178⟩ := bS h174
   refine k0 (fun γ w hs => c_spec_FracMul h177) ?_
   refine oB 4 [(7, vb t176.2)] [6] [(154, (eNode x0)), (133, (eFrac t176.1)), (133, (eFrac x39)), (133, (eFrac x42))] ?_
   refine oe (nt (qe (br (nr ?_))))
   obtain rfl := sI h178
   exact re [vFrac t176.1, .bool t176.2]
 refine qs (qr (oN 2 [(56, vb (x0.Kind == 6))] [34, 9, 8, 6, 3, 1] ?_))
 refine oe (nt (cC h175 (fun h205 => ?_) (fun h206 => ?_)))
 · refine qs (qr (oN 2 [(59, .v (vFrac x42)), (58, .v (vFrac x39))] [6] ?_))
   obtain ⟨t207, h208, h209⟩ := bS h205
   refine k0 (fun γ w hs => c_spec_FracDiv h208) ?_
   refine oB 4 [(7, vb t207.2)] [6] [(154, (eNode x0)), (133, (eFrac t207.1)), (133, (eFrac x39)), (133, (eFrac x42))] ?_
   refine oe (nt (qe (br (nr ?_))))
   obtain rfl := sI h209
   exact re [vFrac t207.1, .bool t207.2]
 refine qs (qr (oN 2 [(63, vb (x0.Kind == 7))] [34, 9, 8, 6, 3, 1] ?_))
 refine oe (nt (cC h206 (fun h229 => ?_) (fun h230 => ?_)))
 · refine qs (qs (qr (oN 2 [(66, .v (vFrac x39)), (65, .v (vFrac x42))] [9, 8, 6] ?_)))
   obtain ⟨t231, h232, h233⟩ := bS h229
   refine k0 (fun γ w hs => c_spec_FracCmp h232) ?_
   refine oN 1 [(68, vb (decide (t231 < 0)))] [9, 8, 6] ?_
   refine oe (nt (cC h233 (fun h236 => ?_) (fun h237 => ?_)))
   · refine qs (qr (oB 3 [(7, vb true)] [6] [(154, (eNode x0)), (133, (eFrac x42)), (133, (eFrac x39)), (133, (eFrac x42))] ?_))
     refine oe (nt (qe (nr (br (nr ?_)))))
     obtain rfl := sI h236
     exact re [vFrac x42, .bool true]
   refine qk (nt (qs (qr (oB 3 [(7, vb true)] [6] [(154, (eNode x0)), (133, (eFrac x39)), (133, (eFrac x39)), (133, (eFrac x42))] ?_))))
   refine oe (nt (qe (br (nr ?_))))
   obtain rfl := sI h237
   exact re [vFrac x39, .bool true]
 refine qs (qr (oN 2 [(71, vb (x0.Kind == 8))] [9, 8, 6, 3, 1] ?_))
 refine oe (nt (cC h230 (fun h246 => ?_) (fun h247 => ?_)))
 · refine qs (qs (qr (oN 2 [(74, .v (vFrac x39)), (73, .v (vFrac x42))] [9, 8, 6] ?_)))
   obtain ⟨t248, h249, h250⟩ := bS h246
   refine k0 (fun γ w hs => c_spec_FracCmp h249) ?_
   refine oN 1 [(76, vb (decide (t248 > 0)))] [9, 8, 6] ?_
   refine oe (nt (cC h250 (fun h253 => ?_) (fun h254 => ?_)))
   · refine qs (qr (oB 3 [(7, vb true)] [6] [(154, (eNode x0)), (133, (eFrac x42)), (133, (eFrac x39)), (133, (eFrac x42))] ?_))
     refine oe (nt (qe (nr (br (nr ?_)))))
     obtain rfl := sI h253
     exact re [vFrac x42, .bool true]
   refine qk (nt (qs (qr (oB 3 [(7, vb true)] [6] [(154, (eNode x0)), (133, (eFrac x39)), (133, (eFrac x39)), (133, (eFrac x42))] ?_))))
   refine oe (nt (qe (br (nr ?_))))
   obtain rfl := sI h254
   exact re [vFrac x39, .bool true]
 refine qk (bn (nt (qs (qs (qr (oN 3 [(81, vb (decide (x39.Num > 0)))] [9, 6, 3, 1] ?_))))))
 refine oe (nt (cC h247 (fun h256 => ?_) (fun h257 => ?_)))
 · refine qs (qr (oB 3 [(7, vb true)] [6] [(154, (eNode x0)), (133, (eFrac x42)), (133, (eFrac x39)), (133, (eFrac x42))] ?_))
   refine oe (nt (qe (nr ?_)))
   obtain rfl := sI h256
   exact re [vFrac x42, .bool true]
 refine qk (nt (qs (qr (oN 3 [(85, vi x0.C), (83, .v (.slice a1_0 x1.length c1_0))] [6] ?_))))
 obtain ⟨x258, hx259, h260⟩ := bS h257
 refine oi 2 (fun γ w hs => (hv1_0.kept hs.kept)) hx259 ?_
 refine ol 133 0 (vFrac x258) (fun γ w hs => (hv1_0.kept hs.kept).flatq hx259) ?_
 refine oB 2 [(7, vb true)] [6] [(154, (eNode x0)), (133, (eFrac x258)), (133, (eFrac x39)), (133, (eFrac x42))] ?_
 refine oe (nt (qe ?_))
 obtain rfl := sI h260
 exact re [vFrac x258, .bool true]

theorem c_spec_EvalAll {W : World} {x0 : List Node} {a0_0 : Option Addr} {c0_0 : Nat} {x1 : List Frac} {a1_0 : Option Addr} {c1_0 : Nat} {r : (List Frac) × Bool} (h : spec_EvalAll x0 x1 = some r) (hv0_0 : SlView W x0 a0_0 c0_0) (hv1_0 : SlView W x1 a1_0 c1_0) :
    Gives Tryz.prog 197 #[.slice a0_0 x0.length c0_0, .slice a1_0 x1.length c1_0] W (fun y : AC => .tuple #[.slice y.1 r.1.length y.2, .bool r.2]) (fun y => [SlRes 133 r.1 y.1 y.2]) := by
 unfold spec_EvalAll at h
 refine en Tryz.func197 Tryz.ntmps197 ?_
 refine qs (qr (oN 2 [] [0, 1] ?_))
 refine oe (nt (qs (qr (ob [] [] 133 0 [] ([] : List Frac) (own_flat (by kernel_rfl)) (fun y21 => ?_)))))
 refine oN 1 [(6, .v (.slice y21.1 ([] : List Frac).length y21.2))] [0, 1] ?_
 refine oe (nt (qs (qs ?_)))
 obtain ⟨p23, hE24, h25⟩ := bS h
 refine JC_cut (τ := Unit) (fun _ => [(0, .v (.slice a0_0 x0.length c0_0)), (1, .v (.slice a1_0 x1.length c1_0)), (6, .v (.slice y21.1 ([] : List Frac).length y21.2)), (18, vb p23)]) (fun _ => []) (fun _ => [SlRes 133 ([] : List Frac) y21.1 y21.2]) ?_ (fun _ => ?_)
 · refine qr (oN 1 [(11, .v (.slice a0_0 x0.length c0_0))] [6, 0, 1] ?_)
   obtain ⟨t26, h27, h28⟩ := bS hE24
   refine k0 (fun γ w hs => c_spec_FormulaOk h27 (hv0_0.kept hs.kept)) ?_
   refine oN 2 [(14, vb (!t26))] [6, 0, 1] ?_
   refine oS 14 h28 (fun h31 => ?_) (fun h32 => ?_)
   · refine oN 4 [(18, vb true)] [6, 0, 1] ?_
     refine oe ?_
     obtain rfl := sI h31
     exact mt () [0, 1, 6, 18] [0] 0
   refine oN 1 [(15, .v (.slice a1_0 x1.length c1_0))] [14, 6, 0, 1] ?_
   obtain ⟨t33, h34, h35⟩ := bS h32
   refine k0 (fun γ w hs => c_spec_l08Vars h34 (hv1_0.kept hs.kept)) ?_
   refine oN 2 [(18, vb (!t33))] [6, 0, 1] ?_
   refine oe ?_
   obtain rfl := sI h35
   exact mt () [0, 1, 6, 18] [0] 0
 refine nt (cC h25 (fun h38 => ?_) (fun h39 => ?_))
 · refine qs (qr (oN 3 [(5, vb false), (4, .v (.slice y21.1 ([] : List Frac).length y21.2))] [] ?_))
   refine oe (nt (qe (nr (rt [.slice y21.1 ([] : List Frac).length y21.2, .bool false] (fun γ w hs => ?_)))))
   rw [← sI h38]
   exact ⟨y21, rfl, hs.kept.toBelow, (hs.takeR (is := [0]) rfl).fresh⟩
 refine qk (nt (qs (qs (qr (oN 1 [(7, vi 0)] [0, 1, 6] ?_)))))
 refine oe (nt ?_)
 obtain ⟨r43, hL44, h45⟩ := bS h39
 obtain ⟨k46, hk47, h45⟩ := brkS h45
 refine JC_cutP (τ := ((List Frac)) × (AC)) (fun y => k46 y.1 = some r) (fun y51 => [(6, .v (.slice y51.2.1 y51.1.length y51.2.2))]) (fun y51 => []) (fun y51 => [SlRes 133 y51.1 y51.2.1 y51.2.2]) ?_ (fun y51 h52p => ?_)
 · refine qb (lp AC hL44 (fun s40 y41 => [(7, vi s40.1), (0, .v (.slice a0_0 x0.length c0_0)), (1, .v (.slice a1_0 x1.length c1_0)), (6, .v (.slice y41.1 s40.2.length y41.2))]) (fun s40 y41 => []) (fun s40 y41 => [SlRes 133 s40.2 y41.1 y41.2]) (y21.1, y21.2) [7, 0, 1, 6] [0] 0 (fun s40 y41 t42 h48 hd49 => ?_))
   refine qs (qs (qr (oN 4 [(23, vb (decide (s40.1 < (x0.length : Int))))] [7, 0, 1, 6] ?_)))
   refine oe (nt (cC h48 (fun h54 => ?_) (fun h55 => ?_)))
   · refine qk (nt (qs (qb (qs (qr (oN 2 [(28, vi s40.1), (27, .v (.slice a0_0 x0.length c0_0))] [7, 0, 1, 6] ?_))))))
     obtain ⟨x56, hx57, h58⟩ := bS h54
     refine oi 6 (fun γ w hs => (hv0_0.kept hs.kept)) hx57 ?_
     refine ol 154 0 (vNode x56) (fun γ w hs => (hv0_0.kept hs.kept).flatq hx57) ?_
     refine oN 2 [(32, .v (.slice a1_0 x1.length c1_0)), (31, .v (.slice y41.1 s40.2.length y41.2))] [30, 7, 0, 1, 6] ?_
     obtain ⟨t59, h60, h61⟩ := bS h58
     refine k0 (fun γ w hs => c_spec_l08Value h60 (hs.view 0 rfl) (hv1_0.kept hs.kept)) ?_
     refine oB 6 [(9, vb t59.2), (8, .p 0 0)] [7, 0, 1, 6] [(133, (eFrac t59.1))] ?_
     refine oe (nt (qs (qs (qr (oN 2 [(37, vb (!t59.2))] [8, 7, 0, 1, 6] ?_)))))
     refine oe (nt (cC h61 (fun h66 => ?_) (fun h67 => ?_)))
     · refine qs (qr (ob [] [SlRes 133 s40.2 y41.1 y41.2] 133 0 [] ([] : List Frac) (own_flat (by kernel_rfl)) (fun y68 => ?_)))
       refine oN 2 [(5, vb false), (4, .v (.slice y68.1 ([] : List Frac).length y68.2))] [] ?_
       refine oe (nt (qe (nr (br (nr (nr ?_))))))
       have h70 := leafR hd49 h66 h45
       refine br (nr (nr (rt [.slice y68.1 ([] : List Frac).length y68.2, .bool false] (fun γ w hs => ?_))))
       rw [← sI h70]
       exact ⟨y68, rfl, hs.kept.toBelow, (hs.takeR (is := [0]) rfl).fresh⟩
     refine qk (nt (qr (oN 2 [(40, .v (vFrac t59.1)), (39, .v (.slice y41.1 s40.2.length y41.2))] [7, 0, 1] ?_)))
     refine ob [] [SlRes 133 s40.2 y41.1 y41.2] 133 1 [.int .i64 t59.1.Num, .int .i64 t59.1.Den] ([t59.1] : List Frac) (own_flat (by kernel_rfl)) (fun y71 => ?_)
     refine or_ [1, 0] ?_
     obtain ⟨l74, hm75, h76⟩ := bS h67
     refine oa 128 y71.2 Tryz.t133 (vFrac (Frac.mk 0 0)) (fun γ w hs => ⟨y71.2, (hs.view 1 rfl)⟩) hm75 (fun y73 => ?_)
     refine oN 1 [(6, .v (.slice y73.1 l74.length y73.2))] [7, 0, 1] ?_
     refine oe (bn (nt (qr (oN 3 [(7, vi (w64 (s40.1 + 1)))] [6, 0, 1] ?_))))
     exact oe (ct h76 (y73.1, y73.2) [7, 0, 1, 6] [0] 0)
   refine qx (nx (nx (bh ?_)))
   have h77 := leafB hd49 h55 h45
   exact mp (s40.2, (y41.1, y41.2)) h77 [6] [0] 0
 have h52 := (congrFun hk47 _).symm.trans h52p
 refine nt (qs (qr (oN 3 [(5, vb true), (4, .v (.slice y51.2.1 y51.1.length y51.2.2))] [] ?_)))
 refine oe (nt (qe (rt [.slice y51.2.1 y51.1.length y51.2.2, .bool true] (fun γ w hs => ?_))))
 rw [← sI h52]
 exact ⟨y51.2, rfl, hs.kept.toBelow, (hs.takeR (is := [0]) rfl).fresh⟩

theorem c_spec_Eval {W : World} {x0 : List Node} {a0_0 : Option Addr} {c0_0 : Nat} {x1 : List Frac} {a1_0 : Option Addr} {c1_0 : Nat} {r : Frac × Bool} (h : spec_Eval x0 x1 = some r) (hv0_0 : SlView W x0 a0_0 c0_0) (hv1_0 : SlView W x1 a1_0 c1_0) :
    Gives0 Tryz.prog 169 #[.slice a0_0 x0.length c0_0, .slice a1_0 x1.length c1_0] W (.tuple #[vFrac r.1, .bool r.2]) := by
 unfold spec_Eval at h
 refine en Tryz.func169 Tryz.ntmps169 ?_
 refine qs (qr (oB 2 [(4, .p 0 0)] [0, 1] [(133, (eFrac (Frac.mk 0 0)))] ?_))
 refine oe (nt (qs (qr (oN 2 [(10, .v (.slice a1_0 x1.length c1_0)), (9, .v (.slice a0_0 x0.length c0_0))] [4] ?_))))
 obtain ⟨t21, h22, h23⟩ := bS h
 refine k1 (fun γ w hs => c_spec_EvalAll h22 (hv0_0.kept hs.kept) (hv1_0.kept hs.kept)) (fun y24 => ?_)
 refine oN 5 [(7, vb t21.2), (6, .v (.slice y24.1 t21.1.length y24.2))] [4] ?_
 refine oe (nt (qs (qs (qr (oN 2 [(15, vb (!t21.2))] [6, 4] ?_)))))
 refine oe (nt (cC h23 (fun h26 => ?_) (fun h27 => ?_)))
 · refine qs (qr (oN 3 [(5, vb false)] [4] ?_))
   refine oe (nt (qe (nr ?_)))
   obtain rfl := sI h26
   exact re [vFrac (Frac.mk 0 0), .bool false]
 refine qk (nt (qs (qr (oN 4 [(20, vi (w64 ((t21.1.length : Int) - 1))), (17, .v (.slice y24.1 t21.1.length y24.2))] [4] ?_))))
 obtain ⟨x28, hx29, h30⟩ := bS h27
 refine oi 2 (fun γ w hs => (hs.view 0 rfl)) hx29 ?_
 refine ol 133 0 (vFrac x28) (fun γ w hs => (hs.view 0 rfl).flatq hx29) ?_
 refine oB 2 [(5, vb true)] [4] [(133, (eFrac x28))] ?_
 refine oe (nt (qe ?_))
 obtain rfl := sI h30
 exact re [vFrac x28, .bool true]

theorem c_spec_FloorFrac {W : World} {x0 : Frac} {r : Int} (h : spec_FloorFrac x0 = some r)  :
    Gives0 Tryz.prog 198 #[vFrac x0] W (.int .i64 r) := by
 unfold spec_FloorFrac at h
 refine en Tryz.func198 Tryz.ntmps198 ?_
 refine qs (qr (oB 2 [(1, .p 0 0)] [] [(133, (eFrac x0))] ?_))
 refine oe (nt (qs (qs (qr (oN 1 [(4, .v (vFrac x0))] [1] ?_)))))
 obtain ⟨t21, h22, h23⟩ := bS h
 refine k0 (fun γ w hs => c_spec_FracOk h22) ?_
 refine oN 1 [(6, vb (!t21))] [1] ?_
 refine oe (nt (cC h23 (fun h26 => ?_) (fun h27 => ?_)))
 · refine qs (qr (oN 1 [(2, vi 0)] [] ?_))
   refine oe (nt (qe (nr ?_)))
   obtain rfl := sI h26
   exact re [.int .i64 0]
 refine qk (nt (qs (qr (oN 4 [(10, vi x0.Den), (8, vi x0.Num)] [1] ?_))))
 obtain ⟨u30, hz29, h28⟩ := bS h27
 refine JO_div rfl (by kernel_rfl) (op := .quo) (k := .i64) (x := x0.Num) (y := x0.Den) (by kernel_rfl) (nz_some hz29) rfl ?_
 refine oN 1 [(3, vi (w64 (Int.tdiv x0.Num x0.Den)))] [1] ?_
 refine oe (nt (qs (qs ?_)))
 obtain ⟨p31, hE32, h33⟩ := bS h28
 refine JC_cut (τ := Unit) (fun _ => [(3, vi (w64 (Int.tdiv x0.Num x0.Den))), (22, vb p31)]) (fun _ => [(133, (eFrac x0))]) (fun _ => []) ?_ (fun _ => ?_)
 · refine qr (oN 4 [(15, vb (decide (x0.Num < 0)))] [3, 1] ?_)
   refine oS 15 hE32 (fun h35 => ?_) (fun h36 => ?_)
   · refine oN 4 [(19, vi x0.Den), (17, vi x0.Num)] [15, 3] ?_
     obtain ⟨u39, hz38, h37⟩ := bS h35
     refine JO_div rfl (by kernel_rfl) (op := .rem) (k := .i64) (x := x0.Num) (y := x0.Den) (by kernel_rfl) (nz_some hz38) rfl ?_
     refine oN 2 [(22, vb ((Int.tmod x0.Num x0.Den) != 0))] [3] ?_
     refine oe ?_
     obtain rfl := sI h37
     exact mt () [3, 22] [] 1
   refine oN 7 [(22, vb false)] [3] ?_
   refine oe ?_
   obtain rfl := sI h36
   exact mt () [3, 22] [] 1
 refine nt ?_
 obtain ⟨k43, hk44, h46⟩ := jS h33
 refine JC_cutP (τ := (Int) × (Unit)) (fun y => k43 y.1 = some r) (fun y42 => [(3, vi y42.1)]) (fun y42 => [(133, (eFrac x0))]) (fun y42 => []) ?_ (fun y42 h45p => ?_)
 · refine cC h46 (fun h48 => ?_) (fun h49 => ?_)
   · refine qr (oN 3 [(3, vi (w64 ((w64 (Int.tdiv x0.Num x0.Den)) - 1)))] [] ?_)
     exact oe (mp (w64 ((w64 (Int.tdiv x0.Num x0.Den)) - 1), ()) h48 [3] [] 1)
   exact qk (mp (w64 (Int.tdiv x0.Num x0.Den), ()) h49 [3] [] 1)
 have h45 := (congrFun hk44 _).symm.trans h45p
 refine nt (qs (qr (oN 2 [(2, vi y42.1)] [] ?_)))
 refine oe (nt (qe ?_))
 obtain rfl := sI h45
 exact re [.int .i64 y42.1]

theorem c_spec_RoundFrac {W : World} {x0 : Frac} {x1 : Int} {r : Int × Bool} (h : spec_RoundFrac x0 x1 = some r)  :
    Gives0 Tryz.prog 170 #[vFrac x0, .int .i64 x1] W (.tuple #[.int .i64 r.1, .bool r.2]) := by
 unfold spec_RoundFrac at h
 refine en Tryz.func170 Tryz.ntmps170 ?_
 refine qs (qr (oB 3 [(2, .p 0 0)] [1] [(133, (eFrac x0))] ?_))
 refine oe (nt (qs (qs ?_)))
 obtain ⟨p21, hE22, h23⟩ := bS h
 refine JC_cut (τ := Unit) (fun _ => [(1, vi x1), (2, .p 0 0), (15, vb p21)]) (fun _ => [(133, (eFrac x0))]) (fun _ => []) ?_ (fun _ => ?_)
 · refine qr (oN 1 [(8, .v (vFrac x0))] [2, 1] ?_)
   obtain ⟨t24, h25, h26⟩ := bS hE22
   refine k0 (fun γ w hs => c_spec_FracOk h25) ?_
   refine oN 2 [(11, vb (!t24))] [2, 1] ?_
   refine oS 11 h26 (fun h29 => ?_) (fun h30 => ?_)
   · refine oN 4 [(15, vb true)] [2, 1] ?_
     refine oe ?_
     obtain rfl := sI h29
     exact mt () [1, 2, 15] [] 1
   refine oN 1 [(12, vi x1)] [11, 2, 1] ?_
   obtain ⟨t31, h32, h33⟩ := bS h30
   refine k0 (fun γ w hs => c_spec_l01In h32) ?_
   refine oN 2 [(15, vb (!t31))] [2, 1] ?_
   refine oe ?_
   obtain rfl := sI h33
   exact mt () [1, 2, 15] [] 1
 refine nt (cC h23 (fun h36 => ?_) (fun h37 => ?_))
 · refine qs (qr (oN 2 [(5, vb false), (4, vi 0)] [] ?_))
   refine oe (nt (qe (nr ?_)))
   obtain rfl := sI h36
   exact re [.int .i64 0, .bool false]
 refine qk (nt (qs (qr (oN 1 [(16, .v (vFrac x0))] [1, 2] ?_))))
 obtain ⟨t38, h39, h40⟩ := bS h37
 refine k0 (fun γ w hs => c_spec_FloorFrac h39) ?_
 refine oN 1 [(6, vi t38)] [1, 2] ?_
 refine oe (nt (qs (qr (oN 8 [(7, vi (w64 (x0.Num - (w64 (t38 * x0.Den)))))] [6, 1, 2] ?_))))
 refine oe (nt (qs (qs (qr (oN 1 [(25, vi x1)] [7, 6, 2] ?_)))))
 refine oe (nt (qb (qs (qr (oN 2 [(26, vb (x1 == 2))] [25, 7, 6, 2] ?_)))))
 refine oe (nt ?_)
 obtain ⟨k69, hk70, h72⟩ := jS h40
 refine JC_cutP (τ := (Int) × (Unit)) (fun y => k69 y.1 = some r) (fun y68 => [(6, vi y68.1)]) (fun y68 => [(133, (eFrac x0))]) (fun y68 => []) ?_ (fun y68 h71p => ?_)
 · refine cC h72 (fun h74 => ?_) (fun h75 => ?_)
   · refine qs (qr (oN 2 [(29, vb (decide ((w64 (x0.Num - (w64 (t38 * x0.Den)))) > 0)))] [6] ?_))
     refine oe (nt (cC h74 (fun h77 => ?_) (fun h78 => ?_)))
     · refine qr (oN 3 [(6, vi (w64 (t38 + 1)))] [] ?_)
       exact oe (mp (w64 (t38 + 1), ()) h77 [6] [] 1)
     exact qk (mp (t38, ()) h78 [6] [] 1)
   refine qs (qr (oN 2 [(32, vb (x1 == 3))] [25, 7, 6, 2] ?_))
   refine oe (nt (cC h75 (fun h80 => ?_) (fun h81 => ?_)))
   · refine qs (qr (oN 5 [(38, vb (decide ((w64 (2 * (w64 (x0.Num - (w64 (t38 * x0.Den)))))) ≥ x0.Den)))] [6] ?_))
     refine oe (nt (cC h80 (fun h83 => ?_) (fun h84 => ?_)))
     · refine qr (oN 3 [(6, vi (w64 (t38 + 1)))] [] ?_)
       exact oe (mp (w64 (t38 + 1), ()) h83 [6] [] 1)
     exact qk (mp (t38, ()) h84 [6] [] 1)
   refine qs (qr (oN 2 [(41, vb (x1 == 4))] [7, 6, 2] ?_))
   refine oe (nt (cC h81 (fun h86 => ?_) (fun h87 => ?_)))
   · refine qs ?_
     obtain ⟨p88, hE89, h90⟩ := bS h86
     refine JC_cut (τ := Unit) (fun _ => [(6, vi t38), (59, vb p88)]) (fun _ => [(133, (eFrac x0))]) (fun _ => []) ?_ (fun _ => ?_)
     · refine qr (oN 6 [(48, vb (decide ((w64 (2 * (w64 (x0.Num - (w64 (t38 * x0.Den)))))) > x0.Den)))] [7, 6, 2] ?_)
       refine oS 48 hE89 (fun h92 => ?_) (fun h93 => ?_)
       · refine oN 11 [(59, vb true)] [6] ?_
         refine oe ?_
         obtain rfl := sI h92
         exact mt () [6, 59] [] 1
       refine oN 6 [(54, vb ((w64 (2 * (w64 (x0.Num - (w64 (t38 * x0.Den)))))) == x0.Den))] [48, 6] ?_
       refine oS 54 h93 (fun h95 => ?_) (fun h96 => ?_)
       · refine oN 5 [(59, vb ((and64 t38 1) == 1))] [6] ?_
         refine oe ?_
         obtain rfl := sI h95
         exact mt () [6, 59] [] 1
       refine oN 5 [(59, vb false)] [6] ?_
       refine oe ?_
       obtain rfl := sI h96
       exact mt () [6, 59] [] 1
     refine nt (cC h90 (fun h98 => ?_) (fun h99 => ?_))
     · refine qr (oN 3 [(6, vi (w64 (t38 + 1)))] [] ?_)
       exact oe (mp (w64 (t38 + 1), ()) h98 [6] [] 1)
     exact qk (mp (t38, ()) h99 [6] [] 1)
   exact qk (mp (t38, ()) h87 [6] [] 1)
 have h71 := (congrFun hk70 _).symm.trans h71p
 refine bn (nt (qs (qr (oN 3 [(5, vb true), (4, vi y68.1)] [] ?_))))
 refine oe (nt (qe ?_))
 obtain rfl := sI h71
 exact re [.int .i64 y68.1, .bool true]

theorem c_spec_Figure {W : World} {x0 : Book} {a0_0 : Option Addr} {c0_0 : Nat} {x1 : Int} {x2 : Int} {x3 : Int} {x4 : List Frac} {a4_0 : Option Addr} {c4_0 : Nat} {r : Int × Int × Bool} (h : spec_Figure x0 x1 x2 x3 x4 = some r) (hv0_0 : SlView W x0.Rules a0_0 c0_0) (hv4_0 : SlView W x4 a4_0 c4_0) :
    Gives0 Tryz.prog 111 #[vBook x0 (a0_0, c0_0), .int .i64 x1, .int .i64 x2, .int .i64 x3, .slice a4_0 x4.length c4_0] W (.tuple #[.int .i64 r.1, .int .i64 r.2.1, .bool r.2.2]) := by
 unfold spec_Figure at h
 refine en Tryz.func111 Tryz.ntmps111 ?_
 refine qs (qr (oB 4 [(5, .p 0 0)] [1, 2, 3, 4] [(26, (eBook x0 (a0_0, c0_0)))] ?_))
 refine oe (nt (qs (qr (oN 4 [(21, vi x3), (20, vi x2), (19, vi x1), (18, .v (vBook x0 (a0_0, c0_0)))] [5, 4] ?_))))
 obtain ⟨t21, h22, h23⟩ := bS h
 refine k0 (fun γ w hs => c_spec_RuleFor h22 (hv0_0.kept hs.kept)) ?_
 refine oN 1 [(13, vi t21)] [5, 4] ?_
 refine oe (nt (qs (qs (qr (oN 2 [(24, vb (decide (t21 < 0)))] [13, 5, 4] ?_)))))
 refine oe (nt (cC h23 (fun h26 => ?_) (fun h27 => ?_)))
 · refine qs (qr (oN 3 [(12, vb false), (11, vi 0), (10, vi 0)] [] ?_))
   refine oe (nt (qe (nr ?_)))
   obtain rfl := sI h26
   exact re [.int .i64 0, .int .i64 0, .bool false]
 refine qk (nt (qs (qr (oN 3 [(28, vi t21), (27, .v (.slice a0_0 x0.Rules.length c0_0))] [13, 5, 4] ?_))))
 obtain ⟨x28, hx29, h30⟩ := bS h27
 refine oi 7 (fun γ w hs => (hv0_0.kept hs.kept)) hx29 ?_
 refine oN 1 [(30, .q a0_0 (Int.toNat t21 * 7 + 6))] [13, 5, 4] ?_
 obtain ⟨_, ⟨a31, c32, rfl, hv33⟩, hc34⟩ := SlView.at hv0_0 (idx_some hx29).2.2
 refine ol 74 6 (.slice a31 x28.Nodes.length c32) (fun γ w hs => ⟨(hv0_0.kept hs.kept).ne (idx_some hx29).2.2, hc34.kept hs.kept⟩) ?_
 refine oN 1 [(32, .v (.slice a4_0 x4.length c4_0))] [31, 13, 5] ?_
 obtain ⟨t35, h36, h37⟩ := bS h30
 refine k0 (fun γ w hs => c_spec_Eval h36 (hv33.kept hs.kept) (hv4_0.kept hs.kept)) ?_
 refine oB 6 [(15, vb t35.2), (14, .p 1 0)] [13, 5] [(26, (eBook x0 (a0_0, c0_0))), (133, (eFrac t35.1))] ?_
 refine oe (nt (qs (qs (qr (oN 2 [(37, vb (!t35.2))] [14, 13, 5] ?_)))))
 refine oe (nt (cC h37 (fun h40 => ?_) (fun h41 => ?_)))
 · refine qs (qr (oN 3 [(12, vb false), (11, vi 0), (10, vi 0)] [] ?_))
   refine oe (nt (qe (nr ?_)))
   obtain rfl := sI h40
   exact re [.int .i64 0, .int .i64 0, .bool false]
 refine qk (nt (qs (JC_quiet (by kernel_rfl) (by kernel_rfl) ?_)))
 refine qN 4 [(42, vi t21), (41, .v (.slice a0_0 x0.Rules.length c0_0)), (39, .v (vFrac t35.1))] [13] ?_
 obtain ⟨x42, hx43, h44⟩ := bS h41
 refine qi 7 (fun γ w hs => (hv0_0.kept hs.kept)) hx43 ?_
 refine qN 1 [(44, .q a0_0 (Int.toNat t21 * 7 + 5))] [39, 13] ?_
 obtain ⟨_, ⟨a45, c46, rfl, hv47⟩, hc48⟩ := SlView.at hv0_0 (idx_some hx43).2.2
 refine ql 3 5 (.int .i64 x42.Mode) (fun γ w hs => ⟨(hv0_0.kept hs.kept).ne (idx_some hx43).2.2, hc48.kept hs.kept⟩) ?_
 obtain ⟨t49, h50, h51⟩ := bS h44
 refine q0 (fun γ w hs => c_spec_RoundFrac h50) ?_
 refine qN 5 [(16, vi t49.1)] [13] ?_
 refine qz (nt (qs (qr (oN 5 [(12, vb true), (11, vi t21), (10, vi t49.1)] [] ?_))))
 refine oe (nt (qe ?_))
 obtain rfl := sI h51
 exact re [.int .i64 t49.1, .int .i64 t21, .bool true]

theorem c_spec_l22At {W : World} {x0 : Case} {b0 : AC × AC × AC × AC × AC} {x1 : Int} {x2 : Int} {r : Int} (h : spec_l22At x0 x1 x2 = some r) (hv0_0 : SlView W x0.Book.Rules b0.1.1 b0.1.2) (hv0_1 : SlView W x0.Store.Facts b0.2.1.1 b0.2.1.2) (hv0_2 : SlView W x0.Series.Points b0.2.2.1.1 b0.2.2.1.2) (hv0_3 : SlView W x0.Member.Spells b0.2.2.2.1.1 b0.2.2.2.1.2) (hv0_4 : SlView W x0.Member.Events b0.2.2.2.2.1 b0.2.2.2.2.2) :
    Gives0 Tryz.prog 67 #[vCase x0 b0, .int .i64 x1, .int .i64 x2] W (.int .i64 r) := by
 unfold spec_l22At at h
 refine en Tryz.func67 Tryz.ntmps67 ?_
 refine qs (qr (oB 2 [(3, .p 0 0)] [1, 2] [(38, (eCase x0 b0))] ?_))
 refine oe (nt (qs (qs (qr (oN 4 [(15, vi x1), (14, .v (.slice b0.2.2.2.2.1 x0.Member.Events.length b0.2.2.2.2.2))] [3, 1, 2] ?_)))))
 obtain ⟨t21, h22, h23⟩ := bS h
 refine k0 (fun γ w hs => c_spec_StatusAt h22 (hv0_4.kept hs.kept)) ?_
 refine oN 1 [(17, vb (t21 != 3))] [3, 1, 2] ?_
 refine oe (nt (cC h23 (fun h26 => ?_) (fun h27 => ?_)))
 · refine qs (qr (oN 1 [(6, vi 0)] [] ?_))
   refine oe (nt (qe (nr ?_)))
   obtain rfl := sI h26
   exact re [.int .i64 0]
 refine qk (nt (qs (qr (oN 3 [(21, vi x2), (20, vi x1), (19, .v (vCase x0 b0))] [3, 1] ?_))))
 obtain ⟨t28, h29, h30⟩ := bS h27
 refine k1 (fun γ w hs => c_spec_l22Vars (b0 := b0) h29 (hv0_0.kept hs.kept) (hv0_1.kept hs.kept) (hv0_2.kept hs.kept) (hv0_3.kept hs.kept) (hv0_4.kept hs.kept)) (fun y31 => ?_)
 refine oN 5 [(8, vb t28.2), (7, .v (.slice y31.1 t28.1.length y31.2))] [3, 1] ?_
 refine oe (nt (qs (qs (qr (oN 2 [(26, vb (!t28.2))] [7, 3, 1] ?_)))))
 refine oe (nt (cC h30 (fun h33 => ?_) (fun h34 => ?_)))
 · refine qs (qr (oN 1 [(6, vi 0)] [] ?_))
   refine oe (nt (qe (nr ?_)))
   obtain rfl := sI h33
   exact re [.int .i64 0]
 refine qk (nt (qs (qr (oN 7 [(34, .v (.slice y31.1 t28.1.length y31.2)), (33, vi x0.Member.Joined), (30, vi x1), (29, .v (vBook x0.Book b0.1))] [] ?_))))
 obtain ⟨t35, h36, h37⟩ := bS h34
 refine k0 (fun γ w hs => c_spec_Figure h36 (hv0_0.kept hs.kept) (hs.view 0 rfl)) ?_
 refine oN 7 [(11, vb t35.2.2), (9, vi t35.1)] [] ?_
 refine oe (nt (qs (qs (qr (oN 2 [(40, vb (!t35.2.2))] [9] ?_)))))
 refine oe (nt (cC h37 (fun h40 => ?_) (fun h41 => ?_)))
 · refine qs (qr (oN 1 [(6, vi 0)] [] ?_))
   refine oe (nt (qe (nr ?_)))
   obtain rfl := sI h40
   exact re [.int .i64 0]
 refine qk (nt (qs (qr (oN 4 [(6, vi (imin (imax t35.1 0) 10000000))] [] ?_))))
 refine oe (nt (qe ?_))
 obtain rfl := sI h41
 exact re [.int .i64 (imin (imax t35.1 0) 10000000)]

theorem c_spec_Entitlements {W : World} {x0 : Case} {b0 : AC × AC × AC × AC × AC} {x1 : Int} {x2 : Int} {x3 : Int} {r : (List Int)} (h : spec_Entitlements x0 x1 x2 x3 = some r) (hv0_0 : SlView W x0.Book.Rules b0.1.1 b0.1.2) (hv0_1 : SlView W x0.Store.Facts b0.2.1.1 b0.2.1.2) (hv0_2 : SlView W x0.Series.Points b0.2.2.1.1 b0.2.2.1.2) (hv0_3 : SlView W x0.Member.Spells b0.2.2.2.1.1 b0.2.2.2.1.2) (hv0_4 : SlView W x0.Member.Events b0.2.2.2.2.1 b0.2.2.2.2.2) :
    Gives Tryz.prog 34 #[vCase x0 b0, .int .i64 x1, .int .i64 x2, .int .i64 x3] W (fun y : AC => .slice y.1 r.length y.2) (fun y => [SlRes 3 r y.1 y.2]) := by
 unfold spec_Entitlements at h
 refine en Tryz.func34 Tryz.ntmps34 ?_
 refine qs (qr (oB 2 [(4, .p 0 0)] [1, 2, 3] [(38, (eCase x0 b0))] ?_))
 refine oe (nt (qs (qr (ob [] [] 3 0 [] ([] : List Int) (own_flat (by kernel_rfl)) (fun y21 => ?_)))))
 refine oN 1 [(9, .v (.slice y21.1 ([] : List Int).length y21.2))] [4, 1, 2, 3] ?_
 refine oe (nt (qs (qs ?_)))
 obtain ⟨p23, hE24, h25⟩ := bS h
 refine JC_cut (τ := Unit) (fun _ => [(1, vi x1), (2, vi x2), (3, vi x3), (4, .p 0 0), (9, .v (.slice y21.1 ([] : List Int).length y21.2)), (30, vb p23)]) (fun _ => [(38, (eCase x0 b0))]) (fun _ => [SlRes 3 ([] : List Int) y21.1 y21.2]) ?_ (fun _ => ?_)
 · refine qr (oN 1 [(12, .v (vCase x0 b0))] [9, 4, 1, 2, 3] ?_)
   obtain ⟨t26, h27, h28⟩ := bS hE24
   refine k0 (fun γ w hs => c_spec_CaseOk (b0 := b0) h27 (hv0_0.kept hs.kept) (hv0_1.kept hs.kept) (hv0_2.kept hs.kept) (hv0_3.kept hs.kept) (hv0_4.kept hs.kept)) ?_
   refine oN 2 [(15, vb (!t26))] [9, 4, 1, 2, 3] ?_
   refine oS 15 h28 (fun h31 => ?_) (fun h32 => ?_)
   · refine oN 15 [(30, vb true)] [9, 4, 1, 2, 3] ?_
     refine oe ?_
     obtain rfl := sI h31
     exact mt () [1, 2, 3, 4, 9, 30] [0] 1
   refine oN 1 [(16, vi x1)] [15, 9, 4, 1, 2, 3] ?_
   obtain ⟨t33, h34, h35⟩ := bS h32
   refine k0 (fun γ w hs => c_spec_l04End h34) ?_
   refine oN 3 [(20, vb (!t33))] [9, 4, 1, 2, 3] ?_
   refine oS 20 h35 (fun h38 => ?_) (fun h39 => ?_)
   · refine oN 10 [(30, vb true)] [9, 4, 1, 2, 3] ?_
     refine oe ?_
     obtain rfl := sI h38
     exact mt () [1, 2, 3, 4, 9, 30] [0] 1
   refine oN 1 [(21, vi x2)] [20, 9, 4, 1, 2, 3] ?_
   obtain ⟨t40, h41, h42⟩ := bS h39
   refine k0 (fun γ w hs => c_spec_l04End h41) ?_
   refine oN 3 [(25, vb (!t40))] [9, 4, 1, 2, 3] ?_
   refine oS 25 h42 (fun h45 => ?_) (fun h46 => ?_)
   · refine oN 5 [(30, vb true)] [9, 4, 1, 2, 3] ?_
     refine oe ?_
     obtain rfl := sI h45
     exact mt () [1, 2, 3, 4, 9, 30] [0] 1
   refine oN 5 [(30, vb (decide (x2 > (w64 (x1 + 240)))))] [9, 4, 1, 2, 3] ?_
   refine oe ?_
   obtain rfl := sI h46
   exact mt () [1, 2, 3, 4, 9, 30] [0] 1
 refine nt (cC h25 (fun h48 => ?_) (fun h49 => ?_))
 · refine qs (qr (oN 2 [(8, .v (.slice y21.1 ([] : List Int).length y21.2))] [] ?_))
   refine oe (nt (qe (nr (rt [.slice y21.1 ([] : List Int).length y21.2] (fun γ w hs => ?_)))))
   rw [← sI h48]
   exact ⟨y21, rfl, hs.kept.toBelow, (hs.takeR (is := [0]) rfl).fresh⟩
 refine qk (nt (qs (qs (qr (oN 2 [(10, vi x1)] [2, 3, 4, 9] ?_)))))
 refine oe (nt ?_)
 obtain ⟨r53, hL54, h55⟩ := bS h49
 obtain ⟨k56, hk57, h55⟩ := brkS h55
 refine JC_cutP (τ := ((List Int) × Int × Int) × (AC)) (fun y => k56 y.1 = some r) (fun y61 => [(9, .v (.slice y61.2.1 y61.1.1.length y61.2.2))]) (fun y61 => [(38, (eCase (Case.mk x0.Book x0.Store x0.Series (Member.mk y61.1.2.1 y61.1.2.2 x0.Member.Spells x0.Member.Events)) b0))]) (fun y61 => [SlRes 3 y61.1.1 y61.2.1 y61.2.2]) ?_ (fun y61 h62p => ?_)
 · refine qb (lp AC hL54 (fun s50 y51 => [(10, vi s50.1), (2, vi x2), (3, vi x3), (4, .p 0 0), (9, .v (.slice y51.1 s50.2.length y51.2))]) (fun s50 y51 => [(38, (eCase x0 b0))]) (fun s50 y51 => [SlRes 3 s50.2 y51.1 y51.2]) (y21.1, y21.2) [10, 2, 3, 4, 9] [0] 1 (fun s50 y51 t52 h58 hd59 => ?_))
   refine qs (qs (qr (oN 3 [(35, vb (decide (s50.1 < x2)))] [10, 2, 3, 4, 9] ?_)))
   refine oe (nt (cC h58 (fun h64 => ?_) (fun h65 => ?_)))
   · refine qk (nt (qs (qb (qr (oN 4 [(41, vi x3), (40, vi s50.1), (39, .v (vCase x0 b0)), (38, .v (.slice y51.1 s50.2.length y51.2))] [10, 2, 3, 4] ?_)))))
     obtain ⟨t66, h67, h68⟩ := bS h64
     refine k0 (fun γ w hs => c_spec_l22At (b0 := b0) h67 (hv0_0.kept hs.kept) (hv0_1.kept hs.kept) (hv0_2.kept hs.kept) (hv0_3.kept hs.kept) (hv0_4.kept hs.kept)) ?_
     refine ob [] [SlRes 3 s50.2 y51.1 y51.2] 3 1 [.int .i64 t66] ([t66] : List Int) (own_flat (by kernel_rfl)) (fun y70 => ?_)
     refine or_ [1, 0] ?_
     obtain ⟨l73, hm74, h75⟩ := bS h68
     refine oa 39 y70.2 Tryz.t3 (.int .i64 0) (fun γ w hs => ⟨y70.2, (hs.view 1 rfl)⟩) hm74 (fun y72 => ?_)
     refine oN 1 [(9, .v (.slice y72.1 l73.length y72.2))] [10, 2, 3, 4] ?_
     refine oe (bn (nt (qr (oN 3 [(10, vi (w64 (s50.1 + 1)))] [9, 2, 3, 4] ?_))))
     exact oe (ct h75 (y72.1, y72.2) [10, 2, 3, 4, 9] [0] 1)
   refine qx (nx (nx (bh ?_)))
   have h76 := leafB hd59 h65 h55
   exact mp ((s50.2, x0.Member.Birth, x0.Member.Joined), (y51.1, y51.2)) h76 [9] [0] 1
 have h62 := (congrFun hk57 _).symm.trans h62p
 refine nt (qs (qr (oN 2 [(8, .v (.slice y61.2.1 y61.1.1.length y61.2.2))] [] ?_)))
 refine oe (nt (qe (rt [.slice y61.2.1 y61.1.1.length y61.2.2] (fun γ w hs => ?_))))
 rw [← sI h62]
 exact ⟨y61.2, rfl, hs.kept.toBelow, (hs.takeR (is := [0]) rfl).fresh⟩

theorem c_impl_areAmounts {W : World} {x0 : List Correction} {a0_0 : Option Addr} {c0_0 : Nat} {r : Bool} (h : impl_areAmounts x0 = some r) (hv0_0 : SlView W x0 a0_0 c0_0) :
    Gives0 Tryz.prog 121 #[.slice a0_0 x0.length c0_0] W (.bool r) := by
 unfold impl_areAmounts at h
 refine en Tryz.func121 Tryz.ntmps121 ?_
 refine qs (qr (oN 1 [] [0] ?_))
 refine oe (nt (qs (qs (qr (oN 3 [(7, vi 0), (6, vi (x0.length : Int)), (5, .v (.slice a0_0 x0.length c0_0))] [0] ?_)))))
 refine oe (nt ?_)
 obtain ⟨r24, hL25, h26⟩ := bS h
 obtain ⟨k27, hk28, h26⟩ := brkS h26
 refine JC_cutP (τ := (Unit) × (Unit)) (fun y => k27 y.1 = some r) (fun y32 => [(0, .v (.slice a0_0 x0.length c0_0))]) (fun y32 => []) (fun y32 => []) ?_ (fun y32 h33p => ?_)
 · refine qb (lp Unit hL25 (fun s21 y22 => [(7, vi s21), (6, vi (x0.length : Int)), (5, .v (.slice a0_0 x0.length c0_0)), (0, .v (.slice a0_0 x0.length c0_0))]) (fun s21 y22 => []) (fun s21 y22 => []) () [7, 6, 5, 0] [] 0 (fun s21 y22 t23 h29 hd30 => ?_))
   refine qs (qr (oN 1 [(8, vb (decide (s21 < (x0.length : Int))))] [7, 6, 5, 0] ?_))
   refine oe (nt (qs (cC h29 (fun h35 => ?_) (fun h36 => ?_))))
   · refine qk (nt (qs (qb (qs (qr ?_)))))
     obtain ⟨x37, hx38, h39⟩ := bS h35
     refine oi 3 (fun γ w hs => (hv0_0.kept hs.kept)) hx38 ?_
     refine ol 85 0 (vCorrection x37) (fun γ w hs => (hv0_0.kept hs.kept).flatq hx38) ?_
     refine oB 2 [(4, .p 0 0)] [7, 6, 5, 0] [(85, (eCorrection x37))] ?_
     refine oe (nt (qs ?_))
     obtain ⟨p40, hE41, h42⟩ := bS h39
     refine JC_cut (τ := Unit) (fun _ => [(0, .v (.slice a0_0 x0.length c0_0)), (5, .v (.slice a0_0 x0.length c0_0)), (6, vi (x0.length : Int)), (7, vi s21), (20, vb p40)]) (fun _ => [(85, (eCorrection x37))]) (fun _ => []) ?_ (fun _ => ?_)
     · refine qr (oN 2 [(12, vi x37.Old)] [4, 7, 6, 5, 0] ?_)
       obtain ⟨t43, h44, h45⟩ := bS hE41
       refine k0 (fun γ w hs => c_impl_within h44) ?_
       refine oN 2 [(15, vb (!t43))] [4, 7, 6, 5, 0] ?_
       refine oS 15 h45 (fun h48 => ?_) (fun h49 => ?_)
       · refine oN 5 [(20, vb true)] [7, 6, 5, 0] ?_
         refine oe ?_
         obtain rfl := sI h48
         exact mt () [0, 5, 6, 7, 20] [] 1
       refine oN 2 [(17, vi x37.New)] [15, 7, 6, 5, 0] ?_
       obtain ⟨t50, h51, h52⟩ := bS h49
       refine k0 (fun γ w hs => c_impl_within h51) ?_
       refine oN 2 [(20, vb (!t50))] [7, 6, 5, 0] ?_
       refine oe ?_
       obtain rfl := sI h52
       exact mt () [0, 5, 6, 7, 20] [] 1
     refine nt (cC h42 (fun h55 => ?_) (fun h56 => ?_))
     · refine qs (qr (oN 1 [(2, vb false)] [] ?_))
       refine oe (nt (qe (br (nr (nr ?_)))))
       have h57 := leafR hd30 h55 h26
       refine br (nr (nr ?_))
       obtain rfl := sI h57
       exact re [.bool false]
     refine qk (bn (nt (qr (oN 2 [(7, vi (w64 (s21 + 1)))] [0, 5, 6] ?_))))
     exact oe (ct h56 () [7, 6, 5, 0] [] 0)
   refine qx (nx (nx (bh ?_)))
   have h58 := leafB hd30 h36 h26
   exact mp ((), ()) h58 [0] [] 0
 have h33 := (congrFun hk28 _).symm.trans h33p
 refine nt (qs (qr (oN 4 [(2, vb (decide ((x0.length : Int) ≤ 240)))] [] ?_)))
 refine oe (nt (qe ?_))
 obtain rfl := sI h33
 exact re [.bool (decide ((x0.length : Int) ≤ 240))]

theorem c_impl_NetOf {W : World} {x0 : List Correction} {a0_0 : Option Addr} {c0_0 : Nat} {r : Int} (h : impl_NetOf x0 = some r) (hv0_0 : SlView W x0 a0_0 c0_0) :
    Gives0 Tryz.prog 74 #[.slice a0_0 x0.length c0_0] W (.int .i64 r) := by
 unfold impl_NetOf at h
 refine en Tryz.func74 Tryz.ntmps74 ?_
 refine qs (qr (oN 1 [] [0] ?_))
 refine oe (nt (qs (qs (qr (oN 1 [(6, .v (.slice a0_0 x0.length c0_0))] [0] ?_)))))
 obtain ⟨t21, h22, h23⟩ := bS h
 refine k0 (fun γ w hs => c_impl_areAmounts h22 (hv0_0.kept hs.kept)) ?_
 refine oN 1 [(8, vb (!t21))] [0] ?_
 refine oe (nt (cC h23 (fun h26 => ?_) (fun h27 => ?_)))
 · refine qs (qr (oN 1 [(2, vi 0)] [] ?_))
   refine oe (nt (qe (nr ?_)))
   obtain rfl := sI h26
   exact re [.int .i64 0]
 refine qk (nt (qs (qr (oN 1 [(3, vi 0)] [0] ?_))))
 refine oe (nt (qs (qs (qr (oN 3 [(11, vi 0), (10, vi (x0.length : Int)), (9, .v (.slice a0_0 x0.length c0_0))] [3] ?_)))))
 refine oe (nt ?_)
 obtain ⟨r31, hL32, h33⟩ := bS h27
 obtain ⟨k34, hk35, h33⟩ := brkS h33
 refine JC_cutP (τ := (Int) × (Unit)) (fun y => k34 y.1 = some r) (fun y39 => [(3, vi y39.1)]) (fun y39 => []) (fun y39 => []) ?_ (fun y39 h40p => ?_)
 · refine qb (lp Unit hL32 (fun s28 y29 => [(11, vi s28.1), (10, vi (x0.length : Int)), (9, .v (.slice a0_0 x0.length c0_0)), (3, vi s28.2)]) (fun s28 y29 => []) (fun s28 y29 => []) () [11, 10, 9, 3] [] 0 (fun s28 y29 t30 h36 hd37 => ?_))
   refine qs (qr (oN 1 [(12, vb (decide (s28.1 < (x0.length : Int))))] [11, 10, 9, 3] ?_))
   refine oe (nt (qs (cC h36 (fun h42 => ?_) (fun h43 => ?_))))
   · refine qk (nt (qs (qb (qs (qr ?_)))))
     obtain ⟨x44, hx45, h46⟩ := bS h42
     refine oi 3 (fun γ w hs => (hv0_0.kept hs.kept)) hx45 ?_
     refine ol 85 0 (vCorrection x44) (fun γ w hs => (hv0_0.kept hs.kept).flatq hx45) ?_
     refine oB 2 [(5, .p 0 0)] [11, 10, 9, 3] [(85, (eCorrection x44))] ?_
     refine oe (nt (qr (oN 8 [(3, vi (w64 (s28.2 + (w64 (x44.New - x44.Old)))))] [11, 10, 9] ?_)))
     refine oe (bn (nt (qr (oN 2 [(11, vi (w64 (s28.1 + 1)))] [3, 10, 9] ?_))))
     exact oe (ct h46 () [11, 10, 9, 3] [] 0)
   refine qx (nx (nx (bh ?_)))
   have h47 := leafB hd37 h43 h33
   exact mp (s28.2, ()) h47 [3] [] 0
 have h40 := (congrFun hk35 _).symm.trans h40p
 refine nt (qs (qr (oN 2 [(2, vi y39.1)] [] ?_)))
 refine oe (nt (qe ?_))
 obtain rfl := sI h40
 exact re [.int .i64 y39.1]

theorem c_impl_CountWinners {W : World} {x0 : List Case} {a0_0 : Option Addr} {c0_0 : Nat} {x1 : Rule} {a1_0 : Option Addr} {c1_0 : Nat} {x2 : Int} {x3 : Int} {x4 : Int} {r : Int × Int} (h : impl_CountWinners x0 x1 x2 x3 x4 = some r) (hv0_0 : SlView W x0 a0_0 c0_0) (hv1_0 : SlView W x1.Nodes a1_0 c1_0) :
    Gives0 Tryz.prog 35 #[.slice a0_0 x0.length c0_0, vRule x1 (a1_0, c1_0), .int .i64 x2, .int .i64 x3, .int .i64 x4] W (.tuple #[.int .i64 r.1, .int .i64 r.2]) := by
 unfold impl_CountWinners at h
 refine en Tryz.func35 Tryz.ntmps35 ?_
 refine qs (qr (oB 3 [(6, .p 0 0)] [0, 2, 3, 4] [(76, (eRule x1 (a1_0, c1_0)))] ?_))
 refine oe (nt (qs (qr (oN 2 [(13, vi 0), (12, vi 0)] [6, 0, 2, 3, 4] ?_))))
 refine oe (nt (qs (qs (qr (oN 3 [(19, vb (decide ((x0.length : Int) > 20)))] [13, 12, 6, 0, 2, 3, 4] ?_)))))
 refine oe (nt (cC h (fun h22 => ?_) (fun h23 => ?_)))
 · refine qs (qr (oN 2 [(11, vi 0), (10, vi 0)] [] ?_))
   refine oe (nt (qe (nr ?_)))
   obtain rfl := sI h22
   exact re [.int .i64 0, .int .i64 0]
 refine qk (nt (qs (qs (qr (oN 3 [(22, vi 0), (21, vi (x0.length : Int)), (20, .v (.slice a0_0 x0.length c0_0))] [13, 12, 6, 2, 3, 4] ?_)))))
 refine oe (nt ?_)
 obtain ⟨r27, hL28, h29⟩ := bS h23
 obtain ⟨k30, hk31, h29⟩ := brkS h29
 refine JC_cutP (τ := (Int × Int × Int × Int × Int × Int × Int × Int) × (Unit)) (fun y => k30 y.1 = some r) (fun y35 => [(13, vi y35.1.1), (12, vi y35.1.2.1)]) (fun y35 => [(76, (eRule (Rule.mk y35.1.2.2.1 y35.1.2.2.2.1 y35.1.2.2.2.2.1 y35.1.2.2.2.2.2.1 y35.1.2.2.2.2.2.2.1 y35.1.2.2.2.2.2.2.2 x1.Nodes) (a1_0, c1_0)))]) (fun y35 => []) ?_ (fun y35 h36p => ?_)
 · refine qb (lp Unit hL28 (fun s24 y25 => [(22, vi s24.1), (21, vi (x0.length : Int)), (20, .v (.slice a0_0 x0.length c0_0)), (13, vi s24.2.1), (12, vi s24.2.2), (6, .p 0 0), (2, vi x2), (3, vi x3), (4, vi x4)]) (fun s24 y25 => [(76, (eRule x1 (a1_0, c1_0)))]) (fun s24 y25 => []) () [22, 21, 20, 13, 12, 6, 2, 3, 4] [] 1 (fun s24 y25 t26 h32 hd33 => ?_))
   refine qs (qr (oN 1 [(23, vb (decide (s24.1 < (x0.length : Int))))] [22, 21, 20, 13, 12, 6, 2, 3, 4] ?_))
   refine oe (nt (qs (cC h32 (fun h38 => ?_) (fun h39 => ?_))))
   · refine qk (nt (qs (qb (qs (qr ?_)))))
     obtain ⟨x40, hx41, h42⟩ := bS h38
     refine oi 7 (fun γ w hs => (hv0_0.kept hs.kept)) hx41 ?_
     obtain ⟨_, ⟨a43, c44, a46, c47, a49, c50, a52, c53, a55, c56, rfl, hv45, hv48, hv51, hv54, hv57⟩, hc58⟩ := SlView.at hv0_0 (idx_some hx41).2.2
     refine ol 38 0 (vCase x40 ((a43, c44), (a46, c47), (a49, c50), (a52, c53), (a55, c56))) (fun γ w hs => ⟨(hv0_0.kept hs.kept).ne (idx_some hx41).2.2, hc58.kept hs.kept⟩) ?_
     refine oB 2 [(15, .p 1 0)] [22, 21, 20, 13, 12, 6, 2, 3, 4] [(76, (eRule x1 (a1_0, c1_0))), (38, (eCase x40 ((a43, c44), (a46, c47), (a49, c50), (a52, c53), (a55, c56))))] ?_
     refine oe (nt (qs (qr (oN 5 [(30, vi x4), (29, vi x3), (28, vi x2), (27, .v (vRule x1 (a1_0, c1_0))), (26, .v (vCase x40 ((a43, c44), (a46, c47), (a49, c50), (a52, c53), (a55, c56))))] [22, 21, 20, 13, 12, 6, 2, 3, 4] ?_))))
     obtain ⟨t59, h60, h61⟩ := bS h42
     refine k1 (fun γ w hs => c_impl_ImpactOf (b0 := ((a43, c44), (a46, c47), (a49, c50), (a52, c53), (a55, c56))) h60 (hv45.kept hs.kept) (hv48.kept hs.kept) (hv51.kept hs.kept) (hv54.kept hs.kept) (hv57.kept hs.kept) (hv1_0.kept hs.kept)) (fun y62 => ?_)
     obtain ⟨t63, h64, h65⟩ := bS h61
     refine k0 (fun γ w hs => c_impl_NetOf h64 (hs.view 0 rfl)) ?_
     refine oN 1 [(16, vi t63)] [22, 21, 20, 13, 12, 6, 2, 3, 4] ?_
     refine oe (nt (qb (qs (qr (oN 3 [(33, vb (decide (t63 > 0)))] [16, 22, 21, 20, 13, 12, 6, 2, 3, 4] ?_)))))
     refine oe (nt ?_)
     obtain ⟨k73, hk74, h76⟩ := jS h65
     refine JC_cutP (τ := (Int × Int) × (Unit)) (fun y => k73 y.1 = some t26) (fun y72 => [(22, vi s24.1), (21, vi (x0.length : Int)), (20, .v (.slice a0_0 x0.length c0_0)), (13, vi y72.1.1), (12, vi y72.1.2), (6, .p 0 0), (2, vi x2), (3, vi x3), (4, vi x4)]) (fun y72 => [(76, (eRule x1 (a1_0, c1_0))), (38, (eCase x40 ((a43, c44), (a46, c47), (a49, c50), (a52, c53), (a55, c56))))]) (fun y72 => []) ?_ (fun y72 h75p => ?_)
     · refine cC h76 (fun h78 => ?_) (fun h79 => ?_)
       · refine qr (oN 3 [(12, vi (w64 (s24.2.2 + 1)))] [22, 21, 20, 13, 6, 2, 3, 4] ?_)
         exact oe (mp ((s24.2.1, w64 (s24.2.2 + 1)), ()) h78 [22, 21, 20, 13, 12, 6, 2, 3, 4] [] 2)
       refine qs (qr (oN 3 [(38, vb (decide (t63 < 0)))] [22, 21, 20, 13, 12, 6, 2, 3, 4] ?_))
       refine oe (nt (cC h79 (fun h81 => ?_) (fun h82 => ?_)))
       · refine qr (oN 3 [(13, vi (w64 (s24.2.1 + 1)))] [22, 21, 20, 12, 6, 2, 3, 4] ?_)
         exact oe (mp ((w64 (s24.2.1 + 1), s24.2.2), ()) h81 [22, 21, 20, 13, 12, 6, 2, 3, 4] [] 2)
       exact qk (mp ((s24.2.1, s24.2.2), ()) h82 [22, 21, 20, 13, 12, 6, 2, 3, 4] [] 2)
     have h75 := (congrFun hk74 _).symm.trans h75p
     refine bn (bn (nt (qr (oN 2 [(22, vi (w64 (s24.1 + 1)))] [21, 20, 13, 12, 6, 2, 3, 4] ?_))))
     exact oe (ct h75 () [22, 21, 20, 13, 12, 6, 2, 3, 4] [] 1)
   refine qx (nx (nx (bh ?_)))
   have h83 := leafB hd33 h39 h29
   exact mp ((s24.2.1, s24.2.2, x1.Name, x1.From, x1.To, x1.Joined, x1.Rank, x1.Mode), ()) h83 [13, 12] [] 1
 have h36 := (congrFun hk31 _).symm.trans h36p
 refine nt (qs (qr (oN 4 [(11, vi y35.1.1), (10, vi y35.1.2.1)] [] ?_)))
 refine oe (nt (qe ?_))
 obtain rfl := sI h36
 exact re [.int .i64 y35.1.2.1, .int .i64 y35.1.1]

theorem c_impl_CostOf {W : World} {x0 : List Case} {a0_0 : Option Addr} {c0_0 : Nat} {x1 : Rule} {a1_0 : Option Addr} {c1_0 : Nat} {x2 : Int} {x3 : Int} {x4 : Int} {r : Int} (h : impl_CostOf x0 x1 x2 x3 x4 = some r) (hv0_0 : SlView W x0 a0_0 c0_0) (hv1_0 : SlView W x1.Nodes a1_0 c1_0) :
    Gives0 Tryz.prog 36 #[.slice a0_0 x0.length c0_0, vRule x1 (a1_0, c1_0), .int .i64 x2, .int .i64 x3, .int .i64 x4] W (.int .i64 r) := by
 unfold impl_CostOf at h
 refine en Tryz.func36 Tryz.ntmps36 ?_
 refine qs (qr (oB 2 [(6, .p 0 0)] [0, 2, 3, 4] [(76, (eRule x1 (a1_0, c1_0)))] ?_))
 refine oe (nt (qs (qr (oN 1 [(11, vi 0)] [6, 0, 2, 3, 4] ?_))))
 refine oe (nt (qs (qs (qr (oN 3 [(16, vb (decide ((x0.length : Int) > 20)))] [11, 6, 0, 2, 3, 4] ?_)))))
 refine oe (nt (cC h (fun h22 => ?_) (fun h23 => ?_)))
 · refine qs (qr (oN 1 [(10, vi 0)] [] ?_))
   refine oe (nt (qe (nr ?_)))
   obtain rfl := sI h22
   exact re [.int .i64 0]
 refine qk (nt (qs (qs (qr (oN 3 [(19, vi 0), (18, vi (x0.length : Int)), (17, .v (.slice a0_0 x0.length c0_0))] [11, 6, 2, 3, 4] ?_)))))
 refine oe (nt ?_)
 obtain ⟨r27, hL28, h29⟩ := bS h23
 obtain ⟨k30, hk31, h29⟩ := brkS h29
 refine JC_cutP (τ := (Int × Int × Int × Int × Int × Int × Int) × (Unit)) (fun y => k30 y.1 = some r) (fun y35 => [(11, vi y35.1.1)]) (fun y35 => [(76, (eRule (Rule.mk y35.1.2.1 y35.1.2.2.1 y35.1.2.2.2.1 y35.1.2.2.2.2.1 y35.1.2.2.2.2.2.1 y35.1.2.2.2.2.2.2 x1.Nodes) (a1_0, c1_0)))]) (fun y35 => []) ?_ (fun y35 h36p => ?_)
 · refine qb (lp Unit hL28 (fun s24 y25 => [(19, vi s24.1), (18, vi (x0.length : Int)), (17, .v (.slice a0_0 x0.length c0_0)), (11, vi s24.2), (6, .p 0 0), (2, vi x2), (3, vi x3), (4, vi x4)]) (fun s24 y25 => [(76, (eRule x1 (a1_0, c1_0)))]) (fun s24 y25 => []) () [19, 18, 17, 11, 6, 2, 3, 4] [] 1 (fun s24 y25 t26 h32 hd33 => ?_))
   refine qs (qr (oN 1 [(20, vb (decide (s24.1 < (x0.length : Int))))] [19, 18, 17, 11, 6, 2, 3, 4] ?_))
   refine oe (nt (qs (cC h32 (fun h38 => ?_) (fun h39 => ?_))))
   · refine qk (nt (qs (qb (qs (qr ?_)))))
     obtain ⟨x40, hx41, h42⟩ := bS h38
     refine oi 7 (fun γ w hs => (hv0_0.kept hs.kept)) hx41 ?_
     obtain ⟨_, ⟨a43, c44, a46, c47, a49, c50, a52, c53, a55, c56, rfl, hv45, hv48, hv51, hv54, hv57⟩, hc58⟩ := SlView.at hv0_0 (idx_some hx41).2.2
     refine ol 38 0 (vCase x40 ((a43, c44), (a46, c47), (a49, c50), (a52, c53), (a55, c56))) (fun γ w hs => ⟨(hv0_0.kept hs.kept).ne (idx_some hx41).2.2, hc58.kept hs.kept⟩) ?_
     refine oB 2 [(13, .p 1 0)] [19, 18, 17, 11, 6, 2, 3, 4] [(76, (eRule x1 (a1_0, c1_0))), (38, (eCase x40 ((a43, c44), (a46, c47), (a49, c50), (a52, c53), (a55, c56))))] ?_
     refine oe (nt (qr (oN 6 [(28, vi x4), (27, vi x3), (26, vi x2), (25, .v (vRule x1 (a1_0, c1_0))), (24, .v (vCase x40 ((a43, c44), (a46, c47), (a49, c50), (a52, c53), (a55, c56)))), (23, vi s24.2)] [19, 18, 17, 6, 2, 3, 4] ?_)))
     obtain ⟨t59, h60, h61⟩ := bS h42
     refine k1 (fun γ w hs => c_impl_ImpactOf (b0 := ((a43, c44), (a46, c47), (a49, c50), (a52, c53), (a55, c56))) h60 (hv45.kept hs.kept) (hv48.kept hs.kept) (hv51.kept hs.kept) (hv54.kept hs.kept) (hv57.kept hs.kept) (hv1_0.kept hs.kept)) (fun y62 => ?_)
     obtain ⟨t63, h64, h65⟩ := bS h61
     refine k0 (fun γ w hs => c_impl_NetOf h64 (hs.view 0 rfl)) ?_
     refine oN 2 [(11, vi (w64 (s24.2 + t63)))] [19, 18, 17, 6, 2, 3, 4] ?_
     refine oe (bn (nt (qr (oN 2 [(19, vi (w64 (s24.1 + 1)))] [11, 18, 17, 6, 2, 3, 4] ?_))))
     exact oe (ct h65 () [19, 18, 17, 11, 6, 2, 3, 4] [] 1)
   refine qx (nx (nx (bh ?_)))
   have h67 := leafB hd33 h39 h29
   exact mp ((s24.2, x1.Name, x1.From, x1.To, x1.Joined, x1.Rank, x1.Mode), ()) h67 [11] [] 1
 have h36 := (congrFun hk31 _).symm.trans h36p
 refine nt (qs (qr (oN 2 [(10, vi y35.1.1)] [] ?_)))
 refine oe (nt (qe ?_))
 obtain rfl := sI h36
 exact re [.int .i64 y35.1.1]
end Go.Pen
