/-
  Each Go function does what its plain function says: written by a program of ours.
-/
import Derived.Test.YtagenkhjchiigaaW1
import Derived.Test.YtagenkhjchiigaaProg
import Derived.Test.YtagenkhjchiigaaPenK
import Derived.Test.YtagenkhjchiigaaPenJ
import Derived.Test.YtagenkhjchiigaaPenP
namespace Go.Pen
open Go.Proofs Go.RowKit
set_option linter.unusedVariables false
set_option linter.unusedSimpArgs false
set_option maxRecDepth 100000
set_option maxHeartbeats 4000000

theorem c_spec_DrawPlaces {W : World} {x0 : List U8} {a0_0 : Option Addr} {c0_0 : Nat} {r : (List Int)} (h : spec_DrawPlaces x0 = some r) (hv0_0 : SlView W x0 a0_0 c0_0) :
    Gives Try.prog 8 #[.slice a0_0 x0.length c0_0] W (fun y : AC => .slice y.1 r.length y.2) (fun y => [SlRes 3 r y.1 y.2]) := by
 unfold spec_DrawPlaces at h
 refine en Try.func8 Try.ntmps8 ?_
 refine qs (qr (oN 1 [] [0] ?_))
 refine oe (nt (qs (qr (oN 1 [(6, .v (.slice a0_0 x0.length c0_0))] [] ?_))))
 obtain ⟨t21, h22, h23⟩ := bS h
 refine JO_callN rfl (by kernel_rfl) (f := 22) (args := #[.slice a0_0 x0.length c0_0]) (by kernel_rfl) (fun γ w hs => (by have vv := c_spec_l01New (W := w) h22 (hv0_0.kept hs.kept); exact vv)) (fun y24 => [(7, .q y24.1 0), (6, .v (.slice a0_0 x0.length c0_0))]) (fun y24 => by kernel_rfl) (fun y24 => ?_)
 refine oN 1 [(3, .q y24.1 0)] [] ?_
 refine oe (nt (qs (qr (ob [] [CurRes 106 (CurD.mk x0 t21.1 t21.2) y24.1 a0_0 c0_0] 3 0 [] ([] : List Int) (own_flat (by kernel_rfl)) (fun y25 => ?_)))))
 refine oN 1 [(4, .v (.slice y25.1 ([] : List Int).length y25.2))] [3] ?_
 refine oe (nt (qs (qs (qr (oN 1 [(5, vi 0)] [4, 3] ?_)))))
 refine oe (nt ?_)
 obtain ⟨r30, hL31, h32⟩ := bS h23
 obtain ⟨k33, hk34, h32⟩ := brkS h32
 refine JC_cutP (τ := ((List Int)) × (AC)) (fun y => k33 y.1 = some r) (fun y38 => [(4, .v (.slice y38.2.1 y38.1.length y38.2.2))]) (fun y38 => []) (fun y38 => [SlRes 3 y38.1 y38.2.1 y38.2.2]) ?_ (fun y38 h39p => ?_)
 · refine qb (lp AC hL31 (fun s27 y28 => [(5, vi s27.1), (4, .v (.slice y28.1 s27.2.1.length y28.2)), (3, .q y24.1 0)]) (fun s27 y28 => []) (fun s27 y28 => [SlRes 3 s27.2.1 y28.1 y28.2, CurRes 106 (CurD.mk x0 s27.2.2.1 s27.2.2.2) y24.1 a0_0 c0_0]) (y25.1, y25.2) [5, 4, 3] [0, 0] 0 (fun s27 y28 t29 h35 hd36 => ?_))
   refine qs (qs (qr (oN 2 [(10, vb (decide (s27.1 < 12)))] [5, 4, 3] ?_)))
   refine oe (nt (cC h35 (fun h41 => ?_) (fun h42 => ?_)))
   · refine qk (nt (qs (qb (qr (oN 2 [(14, .q y24.1 0), (13, .v (.slice y28.1 s27.2.1.length y28.2))] [5, 3] ?_)))))
     refine or_ [1, 0] ?_
     obtain ⟨t43, h44, h45⟩ := bS h41
     refine JO_callC rfl (by kernel_rfl) (f := 23) (args := fun γ => #[(SV.q y24.1 0).den [], .int .i64 10000]) (fun γ => by kernel_rfl) (x0 := CurD.mk x0 s27.2.2.1 s27.2.2.2) (x1 := CurD.mk x0 t43.2.1 t43.2.2) (Rr := [SlRes 3 s27.2.1 y28.1 y28.2]) rfl (Seen.of hv0_0) (fun γ w hs => (by have vv := c_spec_l01Below (p0 := y24.1) (W := w) h44 (hv0_0.kept hs.kept); exact vv)) (fun (y46 : Unit) => [(15, vi t43.1), (14, .q y24.1 0), (13, .v (.slice y28.1 s27.2.1.length y28.2)), (5, vi s27.1), (3, .q y24.1 0)]) (fun y46 => by kernel_rfl) (fun y46 => ?_)
     refine ob [] [CurRes 106 (CurD.mk x0 t43.2.1 t43.2.2) y24.1 a0_0 c0_0, SlRes 3 s27.2.1 y28.1 y28.2] 3 1 [.int .i64 t43.1] ([t43.1] : List Int) (own_flat (by kernel_rfl)) (fun y47 => ?_)
     refine or_ [2, 0, 0] ?_
     obtain ⟨l50, hm51, h52⟩ := bS h45
     refine oa 40 y47.2 Try.t3 (.int .i64 0) (fun γ w hs => ⟨y47.2, (hs.view 1 rfl)⟩) hm51 (fun y49 => ?_)
     refine oN 1 [(4, .v (.slice y49.1 l50.length y49.2))] [5, 3] ?_
     refine oe (bn (nt (qr (oN 3 [(5, vi (w64 (s27.1 + 1)))] [4, 3] ?_))))
     exact oe (ct h52 (y49.1, y49.2) [5, 4, 3] [0, 1] 0)
   refine qx (nx (nx (bh ?_)))
   have h53 := leafB hd36 h42 h32
   exact mp (s27.2.1, (y28.1, y28.2)) h53 [4] [0] 0
 have h39 := (congrFun hk34 _).symm.trans h39p
 refine nt (qs (qr (oN 2 [(2, .v (.slice y38.2.1 y38.1.length y38.2.2))] [] ?_)))
 refine oe (nt (qe (rt [.slice y38.2.1 y38.1.length y38.2.2] (fun γ w hs => ?_))))
 rw [← sI h39]
 exact ⟨y38.2, rfl, hs.kept.toBelow, (hs.takeR (is := [0]) rfl).fresh⟩

theorem c_impl_within {W : World} {x0 : Int} {x1 : Int} {x2 : Int} {r : Bool} (h : impl_within x0 x1 x2 = some r)  :
    Gives0 Try.prog 34 #[.int .i64 x0, .int .i64 x1, .int .i64 x2] W (.bool r) := by
 unfold impl_within at h
 refine en Try.func34 Try.ntmps34 ?_
 refine qs (qr (oN 1 [] [0, 1, 2] ?_))
 refine oe (nt (qs ?_))
 obtain ⟨p21, hE22, h23⟩ := bS h
 refine JC_cut (τ := Unit) (fun _ => [(6, vb p21)]) (fun _ => []) (fun _ => []) ?_ (fun _ => ?_)
 · refine qr (oN 4 [(10, vb (decide (x1 ≤ x0)))] [0, 2] ?_)
   refine oS 10 hE22 (fun h25 => ?_) (fun h26 => ?_)
   · refine oN 5 [(6, vb (decide (x0 ≤ x2)))] [] ?_
     refine oe ?_
     obtain rfl := sI h25
     exact mt () [6] [] 0
   refine oN 5 [(6, vb false)] [] ?_
   refine oe ?_
   obtain rfl := sI h26
   exact mt () [6] [] 0
 refine nt (qe ?_)
 obtain rfl := sI h23
 exact re [.bool p21]

theorem c_impl_isSpan {W : World} {x0 : Int} {x1 : Int} {r : Bool} (h : impl_isSpan x0 x1 = some r)  :
    Gives0 Try.prog 102 #[.int .i64 x0, .int .i64 x1] W (.bool r) := by
 unfold impl_isSpan at h
 refine en Try.func102 Try.ntmps102 ?_
 refine qs (qr (oN 1 [] [0, 1] ?_))
 refine oe (nt (qs ?_))
 obtain ⟨p21, hE22, h23⟩ := bS h
 refine JC_cut (τ := Unit) (fun _ => [(4, vb p21)]) (fun _ => []) (fun _ => []) ?_ (fun _ => ?_)
 · refine qr (oN 3 [(7, vb (decide (0 ≤ x0)))] [0, 1] ?_)
   refine oS 7 hE22 (fun h25 => ?_) (fun h26 => ?_)
   · refine oN 5 [(12, vb (decide (x0 < x1)))] [1] ?_
     refine oS 12 h25 (fun h28 => ?_) (fun h29 => ?_)
     · refine oN 4 [(4, vb (decide (x1 ≤ 3600)))] [] ?_
       refine oe ?_
       obtain rfl := sI h28
       exact mt () [4] [] 0
     refine oN 4 [(4, vb false)] [] ?_
     refine oe ?_
     obtain rfl := sI h29
     exact mt () [4] [] 0
   refine oN 9 [(4, vb false)] [] ?_
   refine oe ?_
   obtain rfl := sI h26
   exact mt () [4] [] 0
 refine nt (qe ?_)
 obtain rfl := sI h23
 exact re [.bool p21]

theorem c_impl_gcd {W : World} {x0 : Int} {x1 : Int} {r : Int} (h : impl_gcd x0 x1 = some r)  :
    Gives0 Try.prog 134 #[.int .i64 x0, .int .i64 x1] W (.int .i64 r) := by
 unfold impl_gcd at h
 refine en Try.func134 Try.ntmps134 ?_
 refine qs (qr (oN 1 [] [0, 1] ?_))
 refine oe (nt (qs ?_))
 obtain ⟨r24, hL25, h26⟩ := bS h
 obtain ⟨k27, hk28, h26⟩ := brkS h26
 refine JC_cutP (τ := (Int) × (Unit)) (fun y => k27 y.1 = some r) (fun y32 => [(0, vi y32.1)]) (fun y32 => []) (fun y32 => []) ?_ (fun y32 h33p => ?_)
 · refine qb (lp Unit hL25 (fun s21 y22 => [(0, vi s21.1), (1, vi s21.2)]) (fun s21 y22 => []) (fun s21 y22 => []) () [0, 1] [] 0 (fun s21 y22 t23 h29 hd30 => ?_))
   refine qs (qs (qr (oN 2 [(6, vb (s21.2 != 0))] [0, 1] ?_)))
   refine oe (nt (cC h29 (fun h35 => ?_) (fun h36 => ?_)))
   · refine qk (nt (qb (JC_quiet (by kernel_rfl) (by kernel_rfl) ?_)))
     refine qN 3 [(9, vi s21.2), (8, vi s21.1), (7, vi s21.2)] [] ?_
     obtain ⟨u39, hz38, h37⟩ := bS h35
     refine JQ_div rfl (by kernel_rfl) (op := .rem) (k := .i64) (x := s21.1) (y := s21.2) (by kernel_rfl) (nz_some hz38) rfl ?_
     refine qN 2 [(1, vi (Int.tmod s21.1 s21.2)), (0, vi s21.2)] [] ?_
     exact qz (bn (ct h37 () [0, 1] [] 0))
   refine qx (nx (nx (bh ?_)))
   have h40 := leafB hd30 h36 h26
   exact mp (s21.1, ()) h40 [0] [] 0
 have h33 := (congrFun hk28 _).symm.trans h33p
 refine nt (qs (qr (oN 5 [(4, vi (imax y32.1 (w64 (0 - y32.1))))] [] ?_)))
 refine oe (nt (qe ?_))
 obtain rfl := sI h33
 exact re [.int .i64 (imax y32.1 (w64 (0 - y32.1)))]

theorem c_impl_FracOk {W : World} {x0 : Frac} {r : Bool} (h : impl_FracOk x0 = some r)  :
    Gives0 Try.prog 129 #[vFrac x0] W (.bool r) := by
 unfold impl_FracOk at h
 refine en Try.func129 Try.ntmps129 ?_
 refine qs (qr (oB 2 [(1, .p 0 0)] [] [(66, (eFrac x0))] ?_))
 refine oe (nt (qs ?_))
 obtain ⟨p21, hE22, h23⟩ := bS h
 refine JC_cut (τ := Unit) (fun _ => [(2, vb p21)]) (fun _ => [(66, (eFrac x0))]) (fun _ => []) ?_ (fun _ => ?_)
 · refine qr (oN 2 [(4, vi x0.Den)] [1] ?_)
   obtain ⟨t24, h25, h26⟩ := bS hE22
   refine k0 (fun γ w hs => c_impl_within h25) ?_
   refine oN 1 [(6, vb t24)] [1] ?_
   refine oS 6 h26 (fun h29 => ?_) (fun h30 => ?_)
   · refine oN 2 [(8, vi x0.Num)] [6, 1] ?_
     obtain ⟨t31, h32, h33⟩ := bS h29
     refine k0 (fun γ w hs => c_impl_within h32) ?_
     refine oN 2 [(11, vb t31)] [1] ?_
     refine oS 11 h33 (fun h36 => ?_) (fun h37 => ?_)
     · refine oN 4 [(15, vi x0.Den), (13, vi x0.Num)] [11] ?_
       obtain ⟨t38, h39, h40⟩ := bS h36
       refine k0 (fun γ w hs => c_impl_gcd h39) ?_
       refine oN 3 [(2, vb (t38 == 1))] [] ?_
       refine oe ?_
       obtain rfl := sI h40
       exact mt () [2] [] 1
     refine oN 8 [(2, vb false)] [] ?_
     refine oe ?_
     obtain rfl := sI h37
     exact mt () [2] [] 1
   refine oN 13 [(2, vb false)] [] ?_
   refine oe ?_
   obtain rfl := sI h30
   exact mt () [2] [] 1
 refine nt (qe ?_)
 obtain rfl := sI h23
 exact re [.bool p21]

theorem c_impl_NodeOk {W : World} {x0 : Node} {x1 : Int} {r : Bool} (h : impl_NodeOk x0 x1 = some r)  :
    Gives0 Try.prog 119 #[vNode x0, .int .i64 x1] W (.bool r) := by
 unfold impl_NodeOk at h
 refine en Try.func119 Try.ntmps119 ?_
 refine qs (qr (oB 2 [(2, .p 0 0)] [1] [(68, (eNode x0))] ?_))
 refine oe (nt (qs (qr (oB 5 [(5, .p 1 0)] [2, 1] [(68, (eNode x0)), (68, (eNode (Node.mk x0.Kind 0 0 0 (Frac.mk 0 0))))] ?_))))
 refine oe (nt (qs (qb (qs (qr (oN 4 [(9, vb (x0.Kind == 1))] [5, 2, 1] ?_))))))
 refine oe (nt (cC h (fun h52 => ?_) (fun h53 => ?_)))
 · refine qs (qr (oB 4 [] [5, 2] [(68, (eNode x0)), (68, (eNode (Node.mk x0.Kind 0 0 0 x0.Value)))] ?_))
   refine oe (nt (qs ?_))
   obtain ⟨p54, hE55, h56⟩ := bS h52
   refine JC_cut (τ := Unit) (fun _ => [(4, vb p54)]) (fun _ => [(68, (eNode x0)), (68, (eNode (Node.mk x0.Kind 0 0 0 x0.Value)))]) (fun _ => []) ?_ (fun _ => ?_)
   · refine qr (oN 4 [(19, vb ((x0.Kind == x0.Kind) && ((x0.A == 0) && ((x0.B == 0) && ((x0.C == 0) && (((x0.Value.Num == x0.Value.Num) && ((x0.Value.Den == x0.Value.Den) && true)) && true))))))] [2] ?_)
     refine oS 19 hE55 (fun h58 => ?_) (fun h59 => ?_)
     · refine oN 2 [(21, .v (vFrac x0.Value))] [19] ?_
       obtain ⟨t60, h61, h62⟩ := bS h58
       refine k0 (fun γ w hs => c_impl_FracOk h61) ?_
       refine oN 2 [(4, vb t60)] [] ?_
       refine oe ?_
       obtain rfl := sI h62
       exact mt () [4] [] 2
     refine oN 5 [(4, vb false)] [] ?_
     refine oe ?_
     obtain rfl := sI h59
     exact mt () [4] [] 2
   refine nt (qe (br (nr ?_)))
   obtain rfl := sI h56
   exact re [.bool p54]
 refine qs (qr (oN 4 [(24, vb (x0.Kind == 2))] [5, 2, 1] ?_))
 refine oe (nt (cC h53 (fun h82 => ?_) (fun h83 => ?_)))
 · refine qs (qr (oB 4 [] [5, 2] [(68, (eNode x0)), (68, (eNode (Node.mk x0.Kind x0.A 0 0 (Frac.mk 0 0))))] ?_))
   refine oe (nt (qs ?_))
   obtain ⟨p84, hE85, h86⟩ := bS h82
   refine JC_cut (τ := Unit) (fun _ => [(4, vb p84)]) (fun _ => [(68, (eNode x0)), (68, (eNode (Node.mk x0.Kind x0.A 0 0 (Frac.mk 0 0))))]) (fun _ => []) ?_ (fun _ => ?_)
   · refine qr (oN 4 [(34, vb ((x0.Kind == x0.Kind) && ((x0.A == x0.A) && ((x0.B == 0) && ((x0.C == 0) && (((x0.Value.Num == 0) && ((x0.Value.Den == 0) && true)) && true))))))] [2] ?_)
     refine oS 34 hE85 (fun h88 => ?_) (fun h89 => ?_)
     · refine oN 2 [(36, vi x0.A)] [34] ?_
       obtain ⟨t90, h91, h92⟩ := bS h88
       refine k0 (fun γ w hs => c_impl_within h91) ?_
       refine oN 2 [(4, vb t90)] [] ?_
       refine oe ?_
       obtain rfl := sI h92
       exact mt () [4] [] 2
     refine oN 5 [(4, vb false)] [] ?_
     refine oe ?_
     obtain rfl := sI h89
     exact mt () [4] [] 2
   refine nt (qe (br (nr ?_)))
   obtain rfl := sI h86
   exact re [.bool p84]
 refine qs (qr (oN 2 [(41, vi x0.Kind)] [5, 2, 1] ?_))
 obtain ⟨t94, h95, h96⟩ := bS h83
 refine k0 (fun γ w hs => c_impl_within h95) ?_
 refine oN 2 [(39, vb (!t94))] [5, 2, 1] ?_
 refine oe (nt (cC h96 (fun h99 => ?_) (fun h100 => ?_)))
 · refine qs (qr (oN 1 [(4, vb false)] [] ?_))
   refine oe (nt (qe (br (nr ?_))))
   obtain rfl := sI h99
   exact re [.bool false]
 refine qk (bn (nt (qs (JC_cut (τ := Unit) (fun _ => [(5, .p 1 0), (2, .p 0 0), (1, vi x1)]) (fun _ => [(68, (eNode x0)), (68, (eNode (Node.mk x0.Kind x0.A x0.B 0 (Frac.mk 0 0))))]) (fun _ => []) ?_ (fun _ => ?_)))))
 · refine jw [5, 2, 1] [] ?_
   refine JC_heldN (ks := [0]) (Rk := []) 8 (by kernel_rfl) (by kernel_rfl) ?_
   refine htq 0 (.p 0 1) [] ?_
   refine htq 1 (vi x0.A) [] ?_
   refine hk [45, 5, 2, 1] ?_
   refine htq 2 (.p 0 2) [] ?_
   refine htq 3 (vi x0.B) [] ?_
   refine hk [47, 45, 5, 2, 1] ?_
   refine htq 4 (.p 1 1) [] ?_
   refine ha1 5 ?_
   refine hi (fun γ0 δ hm => ?_)
   refine gs [(48, .p 1 1), (47, vi x0.B), (45, vi x0.A), (5, .p 1 0), (2, .p 0 0), (1, vi x1)] [(68, (eNode x0)), (68, (eNode (Node.mk x0.Kind x0.A 0 0 (Frac.mk 0 0))))] (fun δ2 => ?_)
   refine gd hm [47, 5, 2, 1] [] ?_
   refine htq 6 (.p 1 2) [] ?_
   refine ha1 7 ?_
   refine hi (fun γ0 δ hm => ?_)
   refine gs [(49, .p 1 2), (47, vi x0.B), (5, .p 1 0), (2, .p 0 0), (1, vi x1)] [(68, (eNode x0)), (68, (eNode (Node.mk x0.Kind x0.A x0.B 0 (Frac.mk 0 0))))] (fun δ2 => ?_)
   refine gd hm [5, 2, 1] [] ?_
   exact hd () [5, 2, 1] [] 2
 refine nt (qs (qs (qr (oN 3 [(52, vb (x0.Kind == 9))] [5, 2, 1] ?_))))
 refine oe (nt ?_)
 obtain ⟨k105, hk106, h135⟩ := jS h100
 refine JC_cutP (τ := (Int) × (Unit)) (fun y => k105 y.1 = some r) (fun y104 => [(5, .p 1 0), (2, .p 0 0), (1, vi x1)]) (fun y104 => [(68, (eNode x0)), (68, (eNode (Node.mk x0.Kind x0.A x0.B y104.1 (Frac.mk 0 0))))]) (fun y104 => []) ?_ (fun y104 h107p => ?_)
 · refine cC h135 (fun h137 => ?_) (fun h138 => ?_)
   · refine qr (oB 4 [] [5, 2, 1] [(68, (eNode x0)), (68, (eNode (Node.mk x0.Kind x0.A x0.B x0.C (Frac.mk 0 0))))] ?_)
     exact oe (mp (x0.C, ()) h137 [5, 2, 1] [] 2)
   exact qk (mp (0, ()) h138 [5, 2, 1] [] 2)
 have h107 := (congrFun hk106 _).symm.trans h107p
 refine nt (qs ?_)
 obtain ⟨p108, hE109, h110⟩ := bS h107
 refine JC_cut (τ := Unit) (fun _ => [(4, vb p108)]) (fun _ => [(68, (eNode x0)), (68, (eNode (Node.mk x0.Kind x0.A x0.B y104.1 (Frac.mk 0 0))))]) (fun _ => []) ?_ (fun _ => ?_)
 · refine qr (oN 4 [(59, vb ((x0.Kind == x0.Kind) && ((x0.A == x0.A) && ((x0.B == x0.B) && ((x0.C == y104.1) && (((x0.Value.Num == 0) && ((x0.Value.Den == 0) && true)) && true))))))] [2, 1] ?_)
   refine oS 59 hE109 (fun h112 => ?_) (fun h113 => ?_)
   · refine oN 4 [(63, vb (decide (x1 > 0)))] [2, 1] ?_
     refine oS 63 h112 (fun h115 => ?_) (fun h116 => ?_)
     · refine oN 4 [(67, vi (w64 (x1 - 1))), (65, vi x0.A)] [63, 2, 1] ?_
       obtain ⟨t117, h118, h119⟩ := bS h115
       refine k0 (fun γ w hs => c_impl_within h118) ?_
       refine oN 2 [(70, vb t117)] [2, 1] ?_
       refine oS 70 h119 (fun h122 => ?_) (fun h123 => ?_)
       · refine oN 4 [(74, vi (w64 (x1 - 1))), (72, vi x0.B)] [70, 2, 1] ?_
         obtain ⟨t124, h125, h126⟩ := bS h122
         refine k0 (fun γ w hs => c_impl_within h125) ?_
         refine oN 2 [(77, vb t124)] [2, 1] ?_
         refine oS 77 h126 (fun h129 => ?_) (fun h130 => ?_)
         · refine oN 4 [(81, vi (w64 (x1 - 1))), (79, vi x0.C)] [77] ?_
           obtain ⟨t131, h132, h133⟩ := bS h129
           refine k0 (fun γ w hs => c_impl_within h132) ?_
           refine oN 2 [(4, vb t131)] [] ?_
           refine oe ?_
           obtain rfl := sI h133
           exact mt () [4] [] 2
         refine oN 7 [(4, vb false)] [] ?_
         refine oe ?_
         obtain rfl := sI h130
         exact mt () [4] [] 2
       refine oN 14 [(4, vb false)] [] ?_
       refine oe ?_
       obtain rfl := sI h123
       exact mt () [4] [] 2
     refine oN 21 [(4, vb false)] [] ?_
     refine oe ?_
     obtain rfl := sI h116
     exact mt () [4] [] 2
   refine oN 25 [(4, vb false)] [] ?_
   refine oe ?_
   obtain rfl := sI h113
   exact mt () [4] [] 2
 refine nt (qe ?_)
 obtain rfl := sI h110
 exact re [.bool p108]

theorem c_impl_FormulaOk {W : World} {x0 : List Node} {a0_0 : Option Addr} {c0_0 : Nat} {r : Bool} (h : impl_FormulaOk x0 = some r) (hv0_0 : SlView W x0 a0_0 c0_0) :
    Gives0 Try.prog 103 #[.slice a0_0 x0.length c0_0] W (.bool r) := by
 unfold impl_FormulaOk at h
 refine en Try.func103 Try.ntmps103 ?_
 refine qs (qr (oN 1 [] [0] ?_))
 refine oe (nt (qs (qs (qr (oN 3 [(7, vi 0), (6, vi (x0.length : Int)), (5, .v (.slice a0_0 x0.length c0_0))] [0] ?_)))))
 refine oe (nt ?_)
 obtain ⟨r24, hL25, h26⟩ := bS h
 obtain ⟨k27, hk28, h26⟩ := brkS h26
 refine JC_cutP (τ := (Unit) × (Unit)) (fun y => k27 y.1 = some r) (fun y32 => [(0, .v (.slice a0_0 x0.length c0_0))]) (fun y32 => []) (fun y32 => []) ?_ (fun y32 h33p => ?_)
 · refine qb (lp Unit hL25 (fun s21 y22 => [(7, vi s21), (6, vi (x0.length : Int)), (5, .v (.slice a0_0 x0.length c0_0)), (0, .v (.slice a0_0 x0.length c0_0))]) (fun s21 y22 => []) (fun s21 y22 => []) () [7, 6, 5, 0] [] 0 (fun s21 y22 t23 h29 hd30 => ?_))
   refine qs (qr (oN 1 [(8, vb (decide (s21 < (x0.length : Int))))] [7, 6, 5, 0] ?_))
   refine oe (nt (qs (cC h29 (fun h39 => ?_) (fun h40 => ?_))))
   · refine qk (nt (qs (qb (qs (qr (oN 1 [(9, vi s21)] [7, 6, 5, 0] ?_))))))
     obtain ⟨x41, hx42, h43⟩ := bS h39
     refine oi 6 (fun γ w hs => (hv0_0.kept hs.kept)) hx42 ?_
     refine ol 68 0 (vNode x41) (fun γ w hs => (hv0_0.kept hs.kept).flatq hx42) ?_
     refine oB 3 [(3, vi s21), (4, .p 0 0)] [7, 6, 5, 0] [(68, (eNode x41))] ?_
     refine oe (nt (qs (qr (oN 2 [(13, vi s21), (12, .v (vNode x41))] [7, 6, 5, 0] ?_))))
     obtain ⟨t44, h45, h46⟩ := bS h43
     refine k0 (fun γ w hs => c_impl_NodeOk h45) ?_
     refine oN 1 [(15, vb (!t44))] [7, 6, 5, 0] ?_
     refine oe (nt (cC h46 (fun h49 => ?_) (fun h50 => ?_)))
     · refine qs (qr (oN 1 [(2, vb false)] [] ?_))
       refine oe (nt (qe (br (nr (nr ?_)))))
       have h51 := leafR hd30 h49 h26
       refine br (nr (nr ?_))
       obtain rfl := sI h51
       exact re [.bool false]
     refine qk (bn (nt (qr (oN 2 [(7, vi (w64 (s21 + 1)))] [6, 5, 0] ?_))))
     exact oe (ct h50 () [7, 6, 5, 0] [] 0)
   refine qx (nx (nx (bh ?_)))
   have h52 := leafB hd30 h40 h26
   exact mp ((), ()) h52 [0] [] 0
 have h33 := (congrFun hk28 _).symm.trans h33p
 refine nt (qs (qr (oN 2 [(18, vi (x0.length : Int))] [] ?_)))
 obtain ⟨t34, h35, h36⟩ := bS h33
 refine k0 (fun γ w hs => c_impl_within h35) ?_
 refine oN 1 [(2, vb t34)] [] ?_
 refine oe (nt (qe ?_))
 obtain rfl := sI h36
 exact re [.bool t34]

theorem c_impl_RuleOk {W : World} {x0 : Rule} {a0_0 : Option Addr} {c0_0 : Nat} {r : Bool} (h : impl_RuleOk x0 = some r) (hv0_0 : SlView W x0.Nodes a0_0 c0_0) :
    Gives0 Try.prog 71 #[vRule x0 (a0_0, c0_0)] W (.bool r) := by
 unfold impl_RuleOk at h
 refine en Try.func71 Try.ntmps71 ?_
 refine qs (qr (oB 2 [(1, .p 0 0)] [] [(48, (eRule x0 (a0_0, c0_0)))] ?_))
 refine oe (nt (qs ?_))
 obtain ⟨p21, hE22, h23⟩ := bS h
 refine JC_cut (τ := Unit) (fun _ => [(2, vb p21)]) (fun _ => [(48, (eRule x0 (a0_0, c0_0)))]) (fun _ => []) ?_ (fun _ => ?_)
 · refine qr (oN 2 [(4, vi x0.Name)] [1] ?_)
   obtain ⟨t24, h25, h26⟩ := bS hE22
   refine k0 (fun γ w hs => c_impl_within h25) ?_
   refine oN 1 [(6, vb t24)] [1] ?_
   refine oS 6 h26 (fun h29 => ?_) (fun h30 => ?_)
   · refine oN 4 [(10, vi x0.To), (8, vi x0.From)] [6, 1] ?_
     obtain ⟨t31, h32, h33⟩ := bS h29
     refine k0 (fun γ w hs => c_impl_isSpan h32) ?_
     refine oN 2 [(13, vb t31)] [1] ?_
     refine oS 13 h33 (fun h36 => ?_) (fun h37 => ?_)
     · refine oN 2 [(15, vi x0.Joined)] [13, 1] ?_
       obtain ⟨t38, h39, h40⟩ := bS h36
       refine k0 (fun γ w hs => c_impl_within h39) ?_
       refine oN 2 [(18, vb t38)] [1] ?_
       refine oS 18 h40 (fun h43 => ?_) (fun h44 => ?_)
       · refine oN 2 [(20, vi x0.Rank)] [18, 1] ?_
         obtain ⟨t45, h46, h47⟩ := bS h43
         refine k0 (fun γ w hs => c_impl_within h46) ?_
         refine oN 2 [(23, vb t45)] [1] ?_
         refine oS 23 h47 (fun h50 => ?_) (fun h51 => ?_)
         · refine oN 2 [(25, vi x0.Mode)] [23, 1] ?_
           obtain ⟨t52, h53, h54⟩ := bS h50
           refine k0 (fun γ w hs => c_impl_within h53) ?_
           refine oN 2 [(28, vb t52)] [1] ?_
           refine oS 28 h54 (fun h57 => ?_) (fun h58 => ?_)
           · refine oN 2 [(30, .v (.slice a0_0 x0.Nodes.length c0_0))] [28] ?_
             obtain ⟨t59, h60, h61⟩ := bS h57
             refine k0 (fun γ w hs => c_impl_FormulaOk h60 (hv0_0.kept hs.kept)) ?_
             refine oN 2 [(2, vb t59)] [] ?_
             refine oe ?_
             obtain rfl := sI h61
             exact mt () [2] [] 1
           refine oN 5 [(2, vb false)] [] ?_
           refine oe ?_
           obtain rfl := sI h58
           exact mt () [2] [] 1
         refine oN 10 [(2, vb false)] [] ?_
         refine oe ?_
         obtain rfl := sI h51
         exact mt () [2] [] 1
       refine oN 15 [(2, vb false)] [] ?_
       refine oe ?_
       obtain rfl := sI h44
       exact mt () [2] [] 1
     refine oN 20 [(2, vb false)] [] ?_
     refine oe ?_
     obtain rfl := sI h37
     exact mt () [2] [] 1
   refine oN 27 [(2, vb false)] [] ?_
   refine oe ?_
   obtain rfl := sI h30
   exact mt () [2] [] 1
 refine nt (qe ?_)
 obtain rfl := sI h23
 exact re [.bool p21]

theorem c_impl_BookOk {W : World} {x0 : Book} {a0_0 : Option Addr} {c0_0 : Nat} {r : Bool} (h : impl_BookOk x0 = some r) (hv0_0 : SlView W x0.Rules a0_0 c0_0) :
    Gives0 Try.prog 35 #[vBook x0 (a0_0, c0_0)] W (.bool r) := by
 unfold impl_BookOk at h
 refine en Try.func35 Try.ntmps35 ?_
 refine qs (qr (oB 2 [(1, .p 0 0)] [] [(26, (eBook x0 (a0_0, c0_0)))] ?_))
 refine oe (nt (qs (qs (qr (oN 4 [(10, vi 0), (9, vi (x0.Rules.length : Int)), (8, .v (.slice a0_0 x0.Rules.length c0_0))] [1] ?_)))))
 refine oe (nt ?_)
 obtain ⟨r24, hL25, h26⟩ := bS h
 obtain ⟨k27, hk28, h26⟩ := brkS h26
 refine JC_cutP (τ := (Unit) × (Unit)) (fun y => k27 y.1 = some r) (fun y32 => [(1, .p 0 0)]) (fun y32 => [(26, (eBook x0 (a0_0, c0_0)))]) (fun y32 => []) ?_ (fun y32 h33p => ?_)
 · refine qb (lp Unit hL25 (fun s21 y22 => [(10, vi s21.1), (9, vi s21.2), (8, .v (.slice a0_0 x0.Rules.length c0_0)), (1, .p 0 0)]) (fun s21 y22 => [(26, (eBook x0 (a0_0, c0_0)))]) (fun s21 y22 => []) () [10, 9, 8, 1] [] 1 (fun s21 y22 t23 h29 hd30 => ?_))
   refine qs (qr (oN 1 [(11, vb (decide (s21.1 < s21.2)))] [10, 9, 8, 1] ?_))
   refine oe (nt (qs (cC h29 (fun h35 => ?_) (fun h36 => ?_))))
   · refine qk (nt (qs (qb (qs (qr (oN 1 [(12, vi s21.1)] [10, 9, 8, 1] ?_))))))
     obtain ⟨x37, hx38, h39⟩ := bS h35
     refine oi 7 (fun γ w hs => (hv0_0.kept hs.kept)) hx38 ?_
     obtain ⟨_, ⟨a40, c41, rfl, hv42⟩, hc43⟩ := SlView.at hv0_0 (idx_some hx38).2.2
     refine ol 48 0 (vRule x37 (a40, c41)) (fun γ w hs => ⟨(hv0_0.kept hs.kept).ne (idx_some hx38).2.2, hc43.kept hs.kept⟩) ?_
     refine oB 3 [(3, vi s21.1), (4, .p 1 0)] [10, 9, 8, 1] [(26, (eBook x0 (a0_0, c0_0))), (48, (eRule x37 (a40, c41)))] ?_
     refine oe (nt (qs (qs (qr (oN 1 [(15, .v (vRule x37 (a40, c41)))] [3, 4, 10, 9, 8, 1] ?_)))))
     obtain ⟨t44, h45, h46⟩ := bS h39
     refine k0 (fun γ w hs => c_impl_RuleOk h45 (hv42.kept hs.kept)) ?_
     refine oN 1 [(17, vb (!t44))] [3, 4, 10, 9, 8, 1] ?_
     refine oe (nt (cC h46 (fun h49 => ?_) (fun h50 => ?_)))
     · refine qs (qr (oN 1 [(2, vb false)] [] ?_))
       refine oe (nt (qe (nr (br (nr (nr ?_))))))
       have h51 := leafR hd30 h49 h26
       refine br (nr (nr ?_))
       obtain rfl := sI h51
       exact re [.bool false]
     refine qk (nt (qs (qr (oN 3 [(20, vi s21.1), (19, .v (.slice a0_0 x0.Rules.length c0_0))] [4, 10, 9, 8, 1] ?_))))
     obtain ⟨l52, hm53, h54⟩ := bS h50
     have hv55 := SlView.head hv0_0 hm53
     refine JO_head (α := Rule) rfl (by kernel_rfl) (a0 := a0_0) (n0 := x0.Rules.length) (c0 := c0_0) (hi := s21.1) (by kernel_rfl) hm53 (hv0_0).fit rfl ?_
     refine oN 2 [(23, vi 0), (22, vi (l52.length : Int))] [21, 4, 10, 9, 8, 1] ?_
     refine oe (nt ?_)
     obtain ⟨r59, hL60, h61⟩ := bS h54
     obtain ⟨k62, hk63, h61⟩ := brkS h61
     refine JC_cutP (τ := (Int × Int × Int × Int × Int × Int × Int × Int) × (Unit)) (fun y => k62 y.1 = some t23) (fun y67 => [(10, vi y67.1.1), (9, vi y67.1.2.1), (8, .v (.slice a0_0 x0.Rules.length c0_0)), (1, .p 0 0)]) (fun y67 => [(26, (eBook x0 (a0_0, c0_0))), (48, (eRule (Rule.mk y67.1.2.2.1 y67.1.2.2.2.1 y67.1.2.2.2.2.1 y67.1.2.2.2.2.2.1 y67.1.2.2.2.2.2.2.1 y67.1.2.2.2.2.2.2.2 x37.Nodes) (a40, c41)))]) (fun y67 => []) ?_ (fun y67 h68p => ?_)
     · refine qb (lp Unit hL60 (fun s56 y57 => [(23, vi s56), (22, vi (l52.length : Int)), (21, .v (.slice a0_0 l52.length c0_0)), (4, .p 1 0), (10, vi s21.1), (9, vi s21.2), (8, .v (.slice a0_0 x0.Rules.length c0_0)), (1, .p 0 0)]) (fun s56 y57 => [(26, (eBook x0 (a0_0, c0_0))), (48, (eRule x37 (a40, c41)))]) (fun s56 y57 => []) () [23, 22, 21, 4, 10, 9, 8, 1] [] 2 (fun s56 y57 t58 h64 hd65 => ?_))
       refine qs (qr (oN 1 [(24, vb (decide (s56 < (l52.length : Int))))] [23, 22, 21, 4, 10, 9, 8, 1] ?_))
       refine oe (nt (qs (cC h64 (fun h70 => ?_) (fun h71 => ?_))))
       · refine qk (nt (qs (qb (qs (qr ?_)))))
         obtain ⟨x72, hx73, h74⟩ := bS h70
         refine oi 7 (fun γ w hs => (hv55.kept hs.kept)) hx73 ?_
         obtain ⟨_, ⟨a75, c76, rfl, hv77⟩, hc78⟩ := SlView.at hv55 (idx_some hx73).2.2
         refine ol 48 0 (vRule x72 (a75, c76)) (fun γ w hs => ⟨(hv55.kept hs.kept).ne (idx_some hx73).2.2, hc78.kept hs.kept⟩) ?_
         refine oB 2 [(6, .p 2 0)] [23, 22, 21, 4, 10, 9, 8, 1] [(26, (eBook x0 (a0_0, c0_0))), (48, (eRule x37 (a40, c41))), (48, (eRule x72 (a75, c76)))] ?_
         refine oe (nt (qs ?_))
         obtain ⟨p79, hE80, h81⟩ := bS h74
         refine JC_cut (τ := Unit) (fun _ => [(1, .p 0 0), (4, .p 1 0), (8, .v (.slice a0_0 x0.Rules.length c0_0)), (9, vi s21.2), (10, vi s21.1), (21, .v (.slice a0_0 l52.length c0_0)), (22, vi (l52.length : Int)), (23, vi s56), (52, vb p79)]) (fun _ => [(26, (eBook x0 (a0_0, c0_0))), (48, (eRule x37 (a40, c41))), (48, (eRule x72 (a75, c76)))]) (fun _ => []) ?_ (fun _ => ?_)
         · refine qr (oN 6 [(32, vb (x72.Name == x37.Name))] [6, 23, 22, 21, 4, 10, 9, 8, 1] ?_)
           refine oS 32 hE80 (fun h83 => ?_) (fun h84 => ?_)
           · refine oN 7 [(39, vb (x72.Rank == x37.Rank))] [6, 23, 22, 21, 4, 10, 9, 8, 1] ?_
             refine oS 39 h83 (fun h86 => ?_) (fun h87 => ?_)
             · refine oN 7 [(46, vb (decide (x72.From < x37.To)))] [6, 23, 22, 21, 4, 10, 9, 8, 1] ?_
               refine oS 46 h86 (fun h89 => ?_) (fun h90 => ?_)
               · refine oN 6 [(52, vb (decide (x37.From < x72.To)))] [23, 22, 21, 4, 10, 9, 8, 1] ?_
                 refine oe ?_
                 obtain rfl := sI h89
                 exact mt () [1, 4, 8, 9, 10, 21, 22, 23, 52] [] 3
               refine oN 6 [(52, vb false)] [23, 22, 21, 4, 10, 9, 8, 1] ?_
               refine oe ?_
               obtain rfl := sI h90
               exact mt () [1, 4, 8, 9, 10, 21, 22, 23, 52] [] 3
             refine oN 13 [(52, vb false)] [23, 22, 21, 4, 10, 9, 8, 1] ?_
             refine oe ?_
             obtain rfl := sI h87
             exact mt () [1, 4, 8, 9, 10, 21, 22, 23, 52] [] 3
           refine oN 20 [(52, vb false)] [23, 22, 21, 4, 10, 9, 8, 1] ?_
           refine oe ?_
           obtain rfl := sI h84
           exact mt () [1, 4, 8, 9, 10, 21, 22, 23, 52] [] 3
         refine nt (cC h81 (fun h92 => ?_) (fun h93 => ?_))
         · refine qs (qr (oN 1 [(2, vb false)] [] ?_))
           refine oe (nt (qe (br (nr (nr ?_)))))
           have h94 := leafR hd65 h92 h61
           refine br (nr (br (nr (nr ?_))))
           have h95 := leafR hd30 h94 h26
           refine br (nr (nr ?_))
           obtain rfl := sI h95
           exact re [.bool false]
         refine qk (bn (nt (qr (oN 2 [(23, vi (w64 (s56 + 1)))] [1, 4, 8, 9, 10, 21, 22] ?_))))
         exact oe (ct h93 () [23, 22, 21, 4, 10, 9, 8, 1] [] 2)
       refine qx (nx (nx (bh ?_)))
       have h96 := leafB hd65 h71 h61
       exact mp ((s21.1, s21.2, x37.Name, x37.From, x37.To, x37.Joined, x37.Rank, x37.Mode), ()) h96 [10, 9, 8, 1] [] 2
     have h68 := (congrFun hk63 _).symm.trans h68p
     refine bn (nt (qr (oN 2 [(10, vi (w64 (y67.1.1 + 1)))] [9, 8, 1] ?_)))
     exact oe (ct h68 () [10, 9, 8, 1] [] 1)
   refine qx (nx (nx (bh ?_)))
   have h97 := leafB hd30 h36 h26
   exact mp ((), ()) h97 [1] [] 1
 have h33 := (congrFun hk28 _).symm.trans h33p
 refine nt (qs (qr (oN 5 [(2, vb (decide ((x0.Rules.length : Int) ≤ 20)))] [] ?_)))
 refine oe (nt (qe ?_))
 obtain rfl := sI h33
 exact re [.bool (decide ((x0.Rules.length : Int) ≤ 20))]

theorem c_impl_MonthOk {W : World} {x0 : Int} {r : Bool} (h : impl_MonthOk x0 = some r)  :
    Gives0 Try.prog 33 #[.int .i64 x0] W (.bool r) := by
 unfold impl_MonthOk at h
 refine en Try.func33 Try.ntmps33 ?_
 refine qs (qr (oN 1 [] [0] ?_))
 refine oe (nt (qs (qr (oN 1 [(3, vi x0)] [] ?_))))
 obtain ⟨t21, h22, h23⟩ := bS h
 refine k0 (fun γ w hs => c_impl_within h22) ?_
 refine oN 1 [(2, vb t21)] [] ?_
 refine oe (nt (qe ?_))
 obtain rfl := sI h23
 exact re [.bool t21]

theorem c_impl_FactOk {W : World} {x0 : Fact} {r : Bool} (h : impl_FactOk x0 = some r)  :
    Gives0 Try.prog 72 #[vFact x0] W (.bool r) := by
 unfold impl_FactOk at h
 refine en Try.func72 Try.ntmps72 ?_
 refine qs (qr (oB 2 [(1, .p 0 0)] [] [(79, (eFact x0))] ?_))
 refine oe (nt (qs ?_))
 obtain ⟨p21, hE22, h23⟩ := bS h
 refine JC_cut (τ := Unit) (fun _ => [(2, vb p21)]) (fun _ => [(79, (eFact x0))]) (fun _ => []) ?_ (fun _ => ?_)
 · refine qr (oN 2 [(4, vi x0.Key)] [1] ?_)
   obtain ⟨t24, h25, h26⟩ := bS hE22
   refine k0 (fun γ w hs => c_impl_within h25) ?_
   refine oN 1 [(6, vb t24)] [1] ?_
   refine oS 6 h26 (fun h29 => ?_) (fun h30 => ?_)
   · refine oN 4 [(10, vi x0.To), (8, vi x0.From)] [6, 1] ?_
     obtain ⟨t31, h32, h33⟩ := bS h29
     refine k0 (fun γ w hs => c_impl_isSpan h32) ?_
     refine oN 2 [(13, vb t31)] [1] ?_
     refine oS 13 h33 (fun h36 => ?_) (fun h37 => ?_)
     · refine oN 2 [(15, vi x0.Known)] [13, 1] ?_
       obtain ⟨t38, h39, h40⟩ := bS h36
       refine k0 (fun γ w hs => c_impl_MonthOk h39) ?_
       refine oN 2 [(18, vb t38)] [1] ?_
       refine oS 18 h40 (fun h43 => ?_) (fun h44 => ?_)
       · refine oN 2 [(20, vi x0.Value)] [18] ?_
         obtain ⟨t45, h46, h47⟩ := bS h43
         refine k0 (fun γ w hs => c_impl_within h46) ?_
         refine oN 2 [(2, vb t45)] [] ?_
         refine oe ?_
         obtain rfl := sI h47
         exact mt () [2] [] 1
       refine oN 5 [(2, vb false)] [] ?_
       refine oe ?_
       obtain rfl := sI h44
       exact mt () [2] [] 1
     refine oN 10 [(2, vb false)] [] ?_
     refine oe ?_
     obtain rfl := sI h37
     exact mt () [2] [] 1
   refine oN 17 [(2, vb false)] [] ?_
   refine oe ?_
   obtain rfl := sI h30
   exact mt () [2] [] 1
 refine nt (qe ?_)
 obtain rfl := sI h23
 exact re [.bool p21]

theorem c_impl_StoreOk {W : World} {x0 : Store} {a0_0 : Option Addr} {c0_0 : Nat} {r : Bool} (h : impl_StoreOk x0 = some r) (hv0_0 : SlView W x0.Facts a0_0 c0_0) :
    Gives0 Try.prog 36 #[vStore x0 (a0_0, c0_0)] W (.bool r) := by
 unfold impl_StoreOk at h
 refine en Try.func36 Try.ntmps36 ?_
 refine qs (qr (oB 2 [(1, .p 0 0)] [] [(29, (eStore x0 (a0_0, c0_0)))] ?_))
 refine oe (nt (qs (qs (qr (oN 4 [(8, vi 0), (7, vi (x0.Facts.length : Int)), (6, .v (.slice a0_0 x0.Facts.length c0_0))] [1] ?_)))))
 refine oe (nt ?_)
 obtain ⟨r24, hL25, h26⟩ := bS h
 obtain ⟨k27, hk28, h26⟩ := brkS h26
 refine JC_cutP (τ := (Unit) × (Unit)) (fun y => k27 y.1 = some r) (fun y32 => [(1, .p 0 0)]) (fun y32 => [(29, (eStore x0 (a0_0, c0_0)))]) (fun y32 => []) ?_ (fun y32 h33p => ?_)
 · refine qb (lp Unit hL25 (fun s21 y22 => [(8, vi s21), (7, vi (x0.Facts.length : Int)), (6, .v (.slice a0_0 x0.Facts.length c0_0)), (1, .p 0 0)]) (fun s21 y22 => [(29, (eStore x0 (a0_0, c0_0)))]) (fun s21 y22 => []) () [8, 7, 6, 1] [] 1 (fun s21 y22 t23 h29 hd30 => ?_))
   refine qs (qr (oN 1 [(9, vb (decide (s21 < (x0.Facts.length : Int))))] [8, 7, 6, 1] ?_))
   refine oe (nt (qs (cC h29 (fun h35 => ?_) (fun h36 => ?_))))
   · refine qk (nt (qs (qb (qs (qr (oN 1 [(10, vi s21)] [8, 7, 6, 1] ?_))))))
     obtain ⟨x37, hx38, h39⟩ := bS h35
     refine oi 5 (fun γ w hs => (hv0_0.kept hs.kept)) hx38 ?_
     refine ol 79 0 (vFact x37) (fun γ w hs => (hv0_0.kept hs.kept).flatq hx38) ?_
     refine oB 3 [(3, vi s21), (4, .p 1 0)] [8, 7, 6, 1] [(29, (eStore x0 (a0_0, c0_0))), (79, (eFact x37))] ?_
     refine oe (nt (qs ?_))
     obtain ⟨p40, hE41, h42⟩ := bS h39
     refine JC_cut (τ := Unit) (fun _ => [(1, .p 0 0), (6, .v (.slice a0_0 x0.Facts.length c0_0)), (7, vi (x0.Facts.length : Int)), (8, vi s21), (31, vb p40)]) (fun _ => [(29, (eStore x0 (a0_0, c0_0))), (79, (eFact x37))]) (fun _ => []) ?_ (fun _ => ?_)
     · refine JC_quiet (by kernel_rfl) (by kernel_rfl) ?_
       refine qN 1 [(13, .v (vFact x37))] [3, 4, 8, 7, 6, 1] ?_
       obtain ⟨t43, h44, h45⟩ := bS hE41
       refine q0 (fun γ w hs => c_impl_FactOk h44) ?_
       refine qN 2 [(16, vb (!t43))] [3, 4, 8, 7, 6, 1] ?_
       refine qS 16 h45 (fun h48 => ?_) (fun h49 => ?_)
       · refine qN 15 [(31, vb true)] [8, 7, 6, 1] ?_
         refine qz ?_
         obtain rfl := sI h48
         exact mt () [1, 6, 7, 8, 31] [] 2
       refine qN 3 [(19, vb (decide (s21 > 0)))] [16, 3, 4, 8, 7, 6, 1] ?_
       refine qS 19 h49 (fun h51 => ?_) (fun h52 => ?_)
       · refine qN 4 [(23, vi (w64 (s21 - 1))), (21, .v (.slice a0_0 x0.Facts.length c0_0))] [19, 16, 4, 8, 7, 6, 1] ?_
         obtain ⟨x53, hx54, h55⟩ := bS h51
         refine qi 5 (fun γ w hs => (hv0_0.kept hs.kept)) hx54 ?_
         refine qN 1 [(25, .q a0_0 (Int.toNat (w64 (s21 - 1)) * 5 + 3))] [19, 16, 4, 8, 7, 6, 1] ?_
         refine ql 3 3 (.int .i64 x53.Known) (fun γ w hs => (hv0_0.kept hs.kept).flatq hx54) ?_
         refine qN 5 [(31, vb (decide (x53.Known > x37.Known)))] [8, 7, 6, 1] ?_
         refine qz ?_
         obtain rfl := sI h55
         exact mt () [1, 6, 7, 8, 31] [] 2
       refine qN 12 [(31, vb false)] [8, 7, 6, 1] ?_
       refine qz ?_
       obtain rfl := sI h52
       exact mt () [1, 6, 7, 8, 31] [] 2
     refine nt (cC h42 (fun h57 => ?_) (fun h58 => ?_))
     · refine qs (qr (oN 1 [(2, vb false)] [] ?_))
       refine oe (nt (qe (br (nr (nr ?_)))))
       have h59 := leafR hd30 h57 h26
       refine br (nr (nr ?_))
       obtain rfl := sI h59
       exact re [.bool false]
     refine qk (bn (nt (qr (oN 2 [(8, vi (w64 (s21 + 1)))] [1, 6, 7] ?_))))
     exact oe (ct h58 () [8, 7, 6, 1] [] 1)
   refine qx (nx (nx (bh ?_)))
   have h60 := leafB hd30 h36 h26
   exact mp ((), ()) h60 [1] [] 1
 have h33 := (congrFun hk28 _).symm.trans h33p
 refine nt (qs (qr (oN 5 [(2, vb (decide ((x0.Facts.length : Int) ≤ 200)))] [] ?_)))
 refine oe (nt (qe ?_))
 obtain rfl := sI h33
 exact re [.bool (decide ((x0.Facts.length : Int) ≤ 200))]

theorem c_impl_SeriesOk {W : World} {x0 : Series} {a0_0 : Option Addr} {c0_0 : Nat} {r : Bool} (h : impl_SeriesOk x0 = some r) (hv0_0 : SlView W x0.Points a0_0 c0_0) :
    Gives0 Try.prog 16 #[vSeries x0 (a0_0, c0_0)] W (.bool r) := by
 unfold impl_SeriesOk at h
 refine en Try.func16 Try.ntmps16 ?_
 refine qs (qr (oB 2 [(1, .p 0 0)] [] [(32, (eSeries x0 (a0_0, c0_0)))] ?_))
 refine oe (nt (qs (qs (qr (oN 4 [(8, vi 0), (7, vi (x0.Points.length : Int)), (6, .v (.slice a0_0 x0.Points.length c0_0))] [1] ?_)))))
 refine oe (nt ?_)
 obtain ⟨r24, hL25, h26⟩ := bS h
 obtain ⟨k27, hk28, h26⟩ := brkS h26
 refine JC_cutP (τ := (Unit) × (Unit)) (fun y => k27 y.1 = some r) (fun y32 => [(1, .p 0 0)]) (fun y32 => [(32, (eSeries x0 (a0_0, c0_0)))]) (fun y32 => []) ?_ (fun y32 h33p => ?_)
 · refine qb (lp Unit hL25 (fun s21 y22 => [(8, vi s21), (7, vi (x0.Points.length : Int)), (6, .v (.slice a0_0 x0.Points.length c0_0)), (1, .p 0 0)]) (fun s21 y22 => [(32, (eSeries x0 (a0_0, c0_0)))]) (fun s21 y22 => []) () [8, 7, 6, 1] [] 1 (fun s21 y22 t23 h29 hd30 => ?_))
   refine qs (qr (oN 1 [(9, vb (decide (s21 < (x0.Points.length : Int))))] [8, 7, 6, 1] ?_))
   refine oe (nt (qs (cC h29 (fun h35 => ?_) (fun h36 => ?_))))
   · refine qk (nt (qs (qb (qs (qr (oN 1 [(10, vi s21)] [8, 7, 6, 1] ?_))))))
     obtain ⟨x37, hx38, h39⟩ := bS h35
     refine oi 3 (fun γ w hs => (hv0_0.kept hs.kept)) hx38 ?_
     refine ol 75 0 (vPoint x37) (fun γ w hs => (hv0_0.kept hs.kept).flatq hx38) ?_
     refine oB 3 [(3, vi s21), (4, .p 1 0)] [8, 7, 6, 1] [(32, (eSeries x0 (a0_0, c0_0))), (75, (ePoint x37))] ?_
     refine oe (nt (qs ?_))
     obtain ⟨p40, hE41, h42⟩ := bS h39
     refine JC_cut (τ := Unit) (fun _ => [(1, .p 0 0), (6, .v (.slice a0_0 x0.Points.length c0_0)), (7, vi (x0.Points.length : Int)), (8, vi s21), (51, vb p40)]) (fun _ => [(32, (eSeries x0 (a0_0, c0_0))), (75, (ePoint x37))]) (fun _ => []) ?_ (fun _ => ?_)
     · refine JC_quiet (by kernel_rfl) (by kernel_rfl) ?_
       refine qN 2 [(14, vi x37.Month)] [3, 4, 8, 7, 6, 1] ?_
       obtain ⟨t43, h44, h45⟩ := bS hE41
       refine q0 (fun γ w hs => c_impl_MonthOk h44) ?_
       refine qN 2 [(17, vb (!t43))] [3, 4, 8, 7, 6, 1] ?_
       refine qS 17 h45 (fun h48 => ?_) (fun h49 => ?_)
       · refine qN 34 [(51, vb true)] [8, 7, 6, 1] ?_
         refine qz ?_
         obtain rfl := sI h48
         exact mt () [1, 6, 7, 8, 51] [] 2
       refine qN 2 [(19, vi x37.Known)] [17, 3, 4, 8, 7, 6, 1] ?_
       obtain ⟨t50, h51, h52⟩ := bS h49
       refine q0 (fun γ w hs => c_impl_MonthOk h51) ?_
       refine qN 3 [(23, vb (!t50))] [3, 4, 8, 7, 6, 1] ?_
       refine qS 23 h52 (fun h55 => ?_) (fun h56 => ?_)
       · refine qN 28 [(51, vb true)] [8, 7, 6, 1] ?_
         refine qz ?_
         obtain rfl := sI h55
         exact mt () [1, 6, 7, 8, 51] [] 2
       refine qN 7 [(30, vb (decide (x37.Known < x37.Month)))] [3, 4, 8, 7, 6, 1] ?_
       refine qS 30 h56 (fun h58 => ?_) (fun h59 => ?_)
       · refine qN 21 [(51, vb true)] [8, 7, 6, 1] ?_
         refine qz ?_
         obtain rfl := sI h58
         exact mt () [1, 6, 7, 8, 51] [] 2
       refine qN 2 [(32, vi x37.Value)] [30, 3, 4, 8, 7, 6, 1] ?_
       obtain ⟨t60, h61, h62⟩ := bS h59
       refine q0 (fun γ w hs => c_impl_within h61) ?_
       refine qN 3 [(36, vb (!t60))] [3, 4, 8, 7, 6, 1] ?_
       refine qS 36 h62 (fun h65 => ?_) (fun h66 => ?_)
       · refine qN 15 [(51, vb true)] [8, 7, 6, 1] ?_
         refine qz ?_
         obtain rfl := sI h65
         exact mt () [1, 6, 7, 8, 51] [] 2
       refine qN 3 [(39, vb (decide (s21 > 0)))] [36, 3, 4, 8, 7, 6, 1] ?_
       refine qS 39 h66 (fun h68 => ?_) (fun h69 => ?_)
       · refine qN 4 [(43, vi (w64 (s21 - 1))), (41, .v (.slice a0_0 x0.Points.length c0_0))] [39, 36, 4, 8, 7, 6, 1] ?_
         obtain ⟨x70, hx71, h72⟩ := bS h68
         refine qi 3 (fun γ w hs => (hv0_0.kept hs.kept)) hx71 ?_
         refine qN 1 [(45, .q a0_0 (Int.toNat (w64 (s21 - 1)) * 3 + 1))] [39, 36, 4, 8, 7, 6, 1] ?_
         refine ql 3 1 (.int .i64 x70.Known) (fun γ w hs => (hv0_0.kept hs.kept).flatq hx71) ?_
         refine qN 5 [(51, vb (decide (x70.Known > x37.Known)))] [8, 7, 6, 1] ?_
         refine qz ?_
         obtain rfl := sI h72
         exact mt () [1, 6, 7, 8, 51] [] 2
       refine qN 12 [(51, vb false)] [8, 7, 6, 1] ?_
       refine qz ?_
       obtain rfl := sI h69
       exact mt () [1, 6, 7, 8, 51] [] 2
     refine nt (cC h42 (fun h74 => ?_) (fun h75 => ?_))
     · refine qs (qr (oN 1 [(2, vb false)] [] ?_))
       refine oe (nt (qe (br (nr (nr ?_)))))
       have h76 := leafR hd30 h74 h26
       refine br (nr (nr ?_))
       obtain rfl := sI h76
       exact re [.bool false]
     refine qk (bn (nt (qr (oN 2 [(8, vi (w64 (s21 + 1)))] [1, 6, 7] ?_))))
     exact oe (ct h75 () [8, 7, 6, 1] [] 1)
   refine qx (nx (nx (bh ?_)))
   have h77 := leafB hd30 h36 h26
   exact mp ((), ()) h77 [1] [] 1
 have h33 := (congrFun hk28 _).symm.trans h33p
 refine nt (qs (qr (oN 5 [(2, vb (decide ((x0.Points.length : Int) ≤ 200)))] [] ?_)))
 refine oe (nt (qe ?_))
 obtain rfl := sI h33
 exact re [.bool (decide ((x0.Points.length : Int) ≤ 200))]

theorem c_impl_SpellsOk {W : World} {x0 : List Spell} {a0_0 : Option Addr} {c0_0 : Nat} {r : Bool} (h : impl_SpellsOk x0 = some r) (hv0_0 : SlView W x0 a0_0 c0_0) :
    Gives0 Try.prog 73 #[.slice a0_0 x0.length c0_0] W (.bool r) := by
 unfold impl_SpellsOk at h
 refine en Try.func73 Try.ntmps73 ?_
 refine qs (qr (oN 1 [] [0] ?_))
 refine oe (nt (qs (qs (qr (oN 3 [(7, vi 0), (6, vi (x0.length : Int)), (5, .v (.slice a0_0 x0.length c0_0))] [0] ?_)))))
 refine oe (nt ?_)
 obtain ⟨r24, hL25, h26⟩ := bS h
 obtain ⟨k27, hk28, h26⟩ := brkS h26
 refine JC_cutP (τ := (Unit) × (Unit)) (fun y => k27 y.1 = some r) (fun y32 => [(0, .v (.slice a0_0 x0.length c0_0))]) (fun y32 => []) (fun y32 => []) ?_ (fun y32 h33p => ?_)
 · refine qb (lp Unit hL25 (fun s21 y22 => [(7, vi s21), (6, vi (x0.length : Int)), (5, .v (.slice a0_0 x0.length c0_0)), (0, .v (.slice a0_0 x0.length c0_0))]) (fun s21 y22 => []) (fun s21 y22 => []) () [7, 6, 5, 0] [] 0 (fun s21 y22 t23 h29 hd30 => ?_))
   refine qs (qr (oN 1 [(8, vb (decide (s21 < (x0.length : Int))))] [7, 6, 5, 0] ?_))
   refine oe (nt (qs (cC h29 (fun h35 => ?_) (fun h36 => ?_))))
   · refine qk (nt (qs (qb (qs (qr (oN 1 [(9, vi s21)] [7, 6, 5, 0] ?_))))))
     obtain ⟨x37, hx38, h39⟩ := bS h35
     refine oi 4 (fun γ w hs => (hv0_0.kept hs.kept)) hx38 ?_
     refine ol 94 0 (vSpell x37) (fun γ w hs => (hv0_0.kept hs.kept).flatq hx38) ?_
     refine oB 3 [(3, vi s21), (4, .p 0 0)] [7, 6, 5, 0] [(94, (eSpell x37))] ?_
     refine oe (nt (qs ?_))
     obtain ⟨p40, hE41, h42⟩ := bS h39
     refine JC_cut (τ := Unit) (fun _ => [(0, .v (.slice a0_0 x0.length c0_0)), (5, .v (.slice a0_0 x0.length c0_0)), (6, vi (x0.length : Int)), (7, vi s21), (38, vb p40)]) (fun _ => [(94, (eSpell x37))]) (fun _ => []) ?_ (fun _ => ?_)
     · refine JC_quiet (by kernel_rfl) (by kernel_rfl) ?_
       refine qN 4 [(15, vi x37.To), (13, vi x37.From)] [3, 4, 7, 6, 5, 0] ?_
       obtain ⟨t43, h44, h45⟩ := bS hE41
       refine q0 (fun γ w hs => c_impl_isSpan h44) ?_
       refine qN 2 [(18, vb (!t43))] [3, 4, 7, 6, 5, 0] ?_
       refine qS 18 h45 (fun h48 => ?_) (fun h49 => ?_)
       · refine qN 20 [(38, vb true)] [7, 6, 5, 0] ?_
         refine qz ?_
         obtain rfl := sI h48
         exact mt () [0, 5, 6, 7, 38] [] 1
       refine qN 2 [(20, vi x37.Percent)] [18, 3, 4, 7, 6, 5, 0] ?_
       obtain ⟨t50, h51, h52⟩ := bS h49
       refine q0 (fun γ w hs => c_impl_within h51) ?_
       refine qN 3 [(24, vb (!t50))] [3, 4, 7, 6, 5, 0] ?_
       refine qS 24 h52 (fun h55 => ?_) (fun h56 => ?_)
       · refine qN 14 [(38, vb true)] [7, 6, 5, 0] ?_
         refine qz ?_
         obtain rfl := sI h55
         exact mt () [0, 5, 6, 7, 38] [] 1
       refine qN 3 [(27, vb (decide (s21 > 0)))] [24, 3, 4, 7, 6, 5, 0] ?_
       refine qS 27 h56 (fun h58 => ?_) (fun h59 => ?_)
       · refine qN 5 [(32, vi (w64 (s21 - 1))), (30, .v (.slice a0_0 x0.length c0_0)), (29, vi x37.From)] [27, 24, 7, 6, 5, 0] ?_
         obtain ⟨x60, hx61, h62⟩ := bS h58
         refine qi 4 (fun γ w hs => (hv0_0.kept hs.kept)) hx61 ?_
         refine qN 1 [(34, .q a0_0 (Int.toNat (w64 (s21 - 1)) * 4 + 1))] [29, 27, 24, 7, 6, 5, 0] ?_
         refine ql 3 1 (.int .i64 x60.To) (fun γ w hs => (hv0_0.kept hs.kept).flatq hx61) ?_
         refine qN 3 [(38, vb (decide (x37.From < x60.To)))] [7, 6, 5, 0] ?_
         refine qz ?_
         obtain rfl := sI h62
         exact mt () [0, 5, 6, 7, 38] [] 1
       refine qN 11 [(38, vb false)] [7, 6, 5, 0] ?_
       refine qz ?_
       obtain rfl := sI h59
       exact mt () [0, 5, 6, 7, 38] [] 1
     refine nt (cC h42 (fun h64 => ?_) (fun h65 => ?_))
     · refine qs (qr (oN 1 [(2, vb false)] [] ?_))
       refine oe (nt (qe (br (nr (nr ?_)))))
       have h66 := leafR hd30 h64 h26
       refine br (nr (nr ?_))
       obtain rfl := sI h66
       exact re [.bool false]
     refine qk (bn (nt (qr (oN 2 [(7, vi (w64 (s21 + 1)))] [0, 5, 6] ?_))))
     exact oe (ct h65 () [7, 6, 5, 0] [] 0)
   refine qx (nx (nx (bh ?_)))
   have h67 := leafB hd30 h36 h26
   exact mp ((), ()) h67 [0] [] 0
 have h33 := (congrFun hk28 _).symm.trans h33p
 refine nt (qs (qr (oN 4 [(2, vb (decide ((x0.length : Int) ≤ 30)))] [] ?_)))
 refine oe (nt (qe ?_))
 obtain rfl := sI h33
 exact re [.bool (decide ((x0.length : Int) ≤ 30))]

theorem c_impl_StatusAfter {W : World} {x0 : Int} {x1 : Int} {r : Int × Bool} (h : impl_StatusAfter x0 x1 = some r)  :
    Gives0 Try.prog 104 #[.int .i64 x0, .int .i64 x1] W (.tuple #[.int .i64 r.1, .bool r.2]) := by
 unfold impl_StatusAfter at h
 refine en Try.func104 Try.ntmps104 ?_
 refine qs (qr (oN 2 [] [0, 1] ?_))
 refine oe (nt (qs (qb (qs ?_))))
 obtain ⟨p21, hE22, h23⟩ := bS h
 refine JC_cut (τ := Unit) (fun _ => [(0, vi x0), (1, vi x1), (6, vb p21)]) (fun _ => []) (fun _ => []) ?_ (fun _ => ?_)
 · refine qr (oN 3 [(9, vb (x1 == 1))] [0, 1] ?_)
   refine oS 9 hE22 (fun h25 => ?_) (fun h26 => ?_)
   · refine oN 3 [(12, vb (x0 == 0))] [9, 0, 1] ?_
     refine oS 12 h25 (fun h28 => ?_) (fun h29 => ?_)
     · refine oN 5 [(6, vb true)] [0, 1] ?_
       refine oe ?_
       obtain rfl := sI h28
       exact mt () [0, 1, 6] [] 0
     refine oN 5 [(6, vb (x0 == 2))] [0, 1] ?_
     refine oe ?_
     obtain rfl := sI h29
     exact mt () [0, 1, 6] [] 0
   refine oN 8 [(6, vb false)] [0, 1] ?_
   refine oe ?_
   obtain rfl := sI h26
   exact mt () [0, 1, 6] [] 0
 refine nt (cC h23 (fun h65 => ?_) (fun h66 => ?_))
 · refine qs (qr (oN 2 [(5, vb true), (4, vi 1)] [] ?_))
   refine oe (nt (qe (br (nr ?_))))
   obtain rfl := sI h65
   exact re [.int .i64 1, .bool true]
 refine qs ?_
 obtain ⟨p67, hE68, h69⟩ := bS h66
 refine JC_cut (τ := Unit) (fun _ => [(0, vi x0), (1, vi x1), (17, vb p67)]) (fun _ => []) (fun _ => []) ?_ (fun _ => ?_)
 · refine qr (oN 3 [(20, vb (x1 == 2))] [0, 1] ?_)
   refine oS 20 hE68 (fun h71 => ?_) (fun h72 => ?_)
   · refine oN 4 [(17, vb (x0 == 1))] [0, 1] ?_
     refine oe ?_
     obtain rfl := sI h71
     exact mt () [0, 1, 17] [] 0
   refine oN 4 [(17, vb false)] [0, 1] ?_
   refine oe ?_
   obtain rfl := sI h72
   exact mt () [0, 1, 17] [] 0
 refine nt (cC h69 (fun h99 => ?_) (fun h100 => ?_))
 · refine qs (qr (oN 2 [(5, vb true), (4, vi 2)] [] ?_))
   refine oe (nt (qe (br (nr ?_))))
   obtain rfl := sI h99
   exact re [.int .i64 2, .bool true]
 refine qs ?_
 obtain ⟨p101, hE102, h103⟩ := bS h100
 refine JC_cut (τ := Unit) (fun _ => [(0, vi x0), (1, vi x1), (24, vb p101)]) (fun _ => []) (fun _ => []) ?_ (fun _ => ?_)
 · refine qr (oN 3 [(27, vb (x1 == 3))] [0, 1] ?_)
   refine oS 27 hE102 (fun h105 => ?_) (fun h106 => ?_)
   · refine oN 3 [(30, vb (x0 == 1))] [27, 0, 1] ?_
     refine oS 30 h105 (fun h108 => ?_) (fun h109 => ?_)
     · refine oN 5 [(24, vb true)] [0, 1] ?_
       refine oe ?_
       obtain rfl := sI h108
       exact mt () [0, 1, 24] [] 0
     refine oN 5 [(24, vb (x0 == 2))] [0, 1] ?_
     refine oe ?_
     obtain rfl := sI h109
     exact mt () [0, 1, 24] [] 0
   refine oN 8 [(24, vb false)] [0, 1] ?_
   refine oe ?_
   obtain rfl := sI h106
   exact mt () [0, 1, 24] [] 0
 refine nt (cC h103 (fun h124 => ?_) (fun h125 => ?_))
 · refine qs (qr (oN 2 [(5, vb true), (4, vi 3)] [] ?_))
   refine oe (nt (qe (br (nr ?_))))
   obtain rfl := sI h124
   exact re [.int .i64 3, .bool true]
 refine qs ?_
 obtain ⟨p126, hE127, h128⟩ := bS h125
 refine JC_cut (τ := Unit) (fun _ => [(0, vi x0), (35, vb p126)]) (fun _ => []) (fun _ => []) ?_ (fun _ => ?_)
 · refine qr (oN 3 [(38, vb (x1 == 4))] [0] ?_)
   refine oS 38 hE127 (fun h130 => ?_) (fun h131 => ?_)
   · refine oN 1 [(39, vi x0)] [38, 0] ?_
     obtain ⟨t132, h133, h134⟩ := bS h130
     refine k0 (fun γ w hs => c_impl_within h133) ?_
     refine oN 2 [(35, vb t132)] [0] ?_
     refine oe ?_
     obtain rfl := sI h134
     exact mt () [0, 35] [] 0
   refine oN 4 [(35, vb false)] [0] ?_
   refine oe ?_
   obtain rfl := sI h131
   exact mt () [0, 35] [] 0
 refine nt (cC h128 (fun h137 => ?_) (fun h138 => ?_))
 · refine qs (qr (oN 2 [(5, vb true), (4, vi 4)] [] ?_))
   refine oe (nt (qe (br (nr ?_))))
   obtain rfl := sI h137
   exact re [.int .i64 4, .bool true]
 refine qk (bn (nt (qs (qr (oN 3 [(5, vb false), (4, vi x0)] [] ?_)))))
 refine oe (nt (qe ?_))
 obtain rfl := sI h138
 exact re [.int .i64 x0, .bool false]

theorem c_impl_EventsOk {W : World} {x0 : List Event} {a0_0 : Option Addr} {c0_0 : Nat} {r : Bool} (h : impl_EventsOk x0 = some r) (hv0_0 : SlView W x0 a0_0 c0_0) :
    Gives0 Try.prog 74 #[.slice a0_0 x0.length c0_0] W (.bool r) := by
 unfold impl_EventsOk at h
 refine en Try.func74 Try.ntmps74 ?_
 refine qs (qr (oN 1 [] [0] ?_))
 refine oe (nt (qs (qr (oN 2 [(3, vi 0)] [0] ?_))))
 refine oe (nt (qs (qs (qr (oN 3 [(9, vi 0), (8, vi (x0.length : Int)), (7, .v (.slice a0_0 x0.length c0_0))] [3, 0] ?_)))))
 refine oe (nt ?_)
 obtain ⟨r24, hL25, h26⟩ := bS h
 obtain ⟨k27, hk28, h26⟩ := brkS h26
 refine JC_cutP (τ := (Unit) × (Unit)) (fun y => k27 y.1 = some r) (fun y32 => [(0, .v (.slice a0_0 x0.length c0_0))]) (fun y32 => []) (fun y32 => []) ?_ (fun y32 h33p => ?_)
 · refine qb (lp Unit hL25 (fun s21 y22 => [(9, vi s21.1), (8, vi (x0.length : Int)), (7, .v (.slice a0_0 x0.length c0_0)), (3, vi s21.2), (0, .v (.slice a0_0 x0.length c0_0))]) (fun s21 y22 => []) (fun s21 y22 => []) () [9, 8, 7, 3, 0] [] 0 (fun s21 y22 t23 h29 hd30 => ?_))
   refine qs (qr (oN 1 [(10, vb (decide (s21.1 < (x0.length : Int))))] [9, 8, 7, 3, 0] ?_))
   refine oe (nt (qs (cC h29 (fun h35 => ?_) (fun h36 => ?_))))
   · refine qk (nt (qs (qb (qs (qr (oN 1 [(11, vi s21.1)] [9, 8, 7, 3, 0] ?_))))))
     obtain ⟨x37, hx38, h39⟩ := bS h35
     refine oi 2 (fun γ w hs => (hv0_0.kept hs.kept)) hx38 ?_
     refine ol 97 0 (vEvent x37) (fun γ w hs => (hv0_0.kept hs.kept).flatq hx38) ?_
     refine oB 3 [(5, vi s21.1), (6, .p 0 0)] [9, 8, 7, 3, 0] [(97, (eEvent x37))] ?_
     refine oe (nt (qs (qr (oN 3 [(17, vi x37.Kind), (15, vi s21.2)] [5, 6, 9, 8, 7, 0] ?_))))
     obtain ⟨t40, h41, h42⟩ := bS h39
     refine k0 (fun γ w hs => c_impl_StatusAfter h41) ?_
     refine oN 5 [(4, vb t40.2), (3, vi t40.1)] [5, 6, 9, 8, 7, 0] ?_
     refine oe (nt (qs ?_))
     obtain ⟨p44, hE45, h46⟩ := bS h42
     refine JC_cut (τ := Unit) (fun _ => [(0, .v (.slice a0_0 x0.length c0_0)), (3, vi t40.1), (7, .v (.slice a0_0 x0.length c0_0)), (8, vi (x0.length : Int)), (9, vi s21.1), (43, vb p44)]) (fun _ => [(97, (eEvent x37))]) (fun _ => []) ?_ (fun _ => ?_)
     · refine JC_quiet (by kernel_rfl) (by kernel_rfl) ?_
       refine qN 3 [(23, vb (!t40.2))] [3, 5, 6, 9, 8, 7, 0] ?_
       refine qS 23 hE45 (fun h48 => ?_) (fun h49 => ?_)
       · refine qN 20 [(43, vb true)] [3, 9, 8, 7, 0] ?_
         refine qz ?_
         obtain rfl := sI h48
         exact mt () [0, 3, 7, 8, 9, 43] [] 1
       refine qN 2 [(25, vi x37.Month)] [23, 3, 5, 6, 9, 8, 7, 0] ?_
       obtain ⟨t50, h51, h52⟩ := bS h49
       refine q0 (fun γ w hs => c_impl_MonthOk h51) ?_
       refine qN 3 [(29, vb (!t50))] [3, 5, 6, 9, 8, 7, 0] ?_
       refine qS 29 h52 (fun h55 => ?_) (fun h56 => ?_)
       · refine qN 14 [(43, vb true)] [3, 9, 8, 7, 0] ?_
         refine qz ?_
         obtain rfl := sI h55
         exact mt () [0, 3, 7, 8, 9, 43] [] 1
       refine qN 3 [(32, vb (decide (s21.1 > 0)))] [29, 3, 5, 6, 9, 8, 7, 0] ?_
       refine qS 32 h56 (fun h58 => ?_) (fun h59 => ?_)
       · refine qN 3 [(35, vi (w64 (s21.1 - 1))), (33, .v (.slice a0_0 x0.length c0_0))] [32, 29, 3, 6, 9, 8, 7, 0] ?_
         obtain ⟨x60, hx61, h62⟩ := bS h58
         refine qi 2 (fun γ w hs => (hv0_0.kept hs.kept)) hx61 ?_
         refine qN 1 [(37, .q a0_0 (Int.toNat (w64 (s21.1 - 1)) * 2 + 1))] [32, 29, 3, 6, 9, 8, 7, 0] ?_
         refine ql 3 1 (.int .i64 x60.Month) (fun γ w hs => (hv0_0.kept hs.kept).flatq hx61) ?_
         refine qN 5 [(43, vb (decide (x60.Month ≥ x37.Month)))] [3, 9, 8, 7, 0] ?_
         refine qz ?_
         obtain rfl := sI h62
         exact mt () [0, 3, 7, 8, 9, 43] [] 1
       refine qN 11 [(43, vb false)] [3, 9, 8, 7, 0] ?_
       refine qz ?_
       obtain rfl := sI h59
       exact mt () [0, 3, 7, 8, 9, 43] [] 1
     refine nt (cC h46 (fun h64 => ?_) (fun h65 => ?_))
     · refine qs (qr (oN 1 [(2, vb false)] [] ?_))
       refine oe (nt (qe (br (nr (nr ?_)))))
       have h66 := leafR hd30 h64 h26
       refine br (nr (nr ?_))
       obtain rfl := sI h66
       exact re [.bool false]
     refine qk (bn (nt (qr (oN 2 [(9, vi (w64 (s21.1 + 1)))] [0, 3, 7, 8] ?_))))
     exact oe (ct h65 () [9, 8, 7, 3, 0] [] 0)
   refine qx (nx (nx (bh ?_)))
   have h67 := leafB hd30 h36 h26
   exact mp ((), ()) h67 [0] [] 0
 have h33 := (congrFun hk28 _).symm.trans h33p
 refine nt (qs (qr (oN 4 [(2, vb (decide ((x0.length : Int) ≤ 30)))] [] ?_)))
 refine oe (nt (qe ?_))
 obtain rfl := sI h33
 exact re [.bool (decide ((x0.length : Int) ≤ 30))]

theorem c_impl_MemberOk {W : World} {x0 : Member} {b0 : AC × AC} {r : Bool} (h : impl_MemberOk x0 = some r) (hv0_0 : SlView W x0.Spells b0.1.1 b0.1.2) (hv0_1 : SlView W x0.Events b0.2.1 b0.2.2) :
    Gives0 Try.prog 37 #[vMember x0 b0] W (.bool r) := by
 unfold impl_MemberOk at h
 refine en Try.func37 Try.ntmps37 ?_
 refine qs (qr (oB 2 [(1, .p 0 0)] [] [(36, (eMember x0 b0))] ?_))
 refine oe (nt (qs ?_))
 obtain ⟨p21, hE22, h23⟩ := bS h
 refine JC_cut (τ := Unit) (fun _ => [(2, vb p21)]) (fun _ => [(36, (eMember x0 b0))]) (fun _ => []) ?_ (fun _ => ?_)
 · refine qr (oN 2 [(4, vi x0.Birth)] [1] ?_)
   obtain ⟨t24, h25, h26⟩ := bS hE22
   refine k0 (fun γ w hs => c_impl_MonthOk h25) ?_
   refine oN 1 [(6, vb t24)] [1] ?_
   refine oS 6 h26 (fun h29 => ?_) (fun h30 => ?_)
   · refine oN 2 [(8, vi x0.Joined)] [6, 1] ?_
     obtain ⟨t31, h32, h33⟩ := bS h29
     refine k0 (fun γ w hs => c_impl_MonthOk h32) ?_
     refine oN 2 [(11, vb t31)] [1] ?_
     refine oS 11 h33 (fun h36 => ?_) (fun h37 => ?_)
     · refine oN 7 [(18, vb (decide (x0.Birth ≤ x0.Joined)))] [1] ?_
       refine oS 18 h36 (fun h39 => ?_) (fun h40 => ?_)
       · refine oN 2 [(20, .v (.slice b0.1.1 x0.Spells.length b0.1.2))] [18, 1] ?_
         obtain ⟨t41, h42, h43⟩ := bS h39
         refine k0 (fun γ w hs => c_impl_SpellsOk h42 (hv0_0.kept hs.kept)) ?_
         refine oN 2 [(23, vb t41)] [1] ?_
         refine oS 23 h43 (fun h46 => ?_) (fun h47 => ?_)
         · refine oN 2 [(25, .v (.slice b0.2.1 x0.Events.length b0.2.2))] [23] ?_
           obtain ⟨t48, h49, h50⟩ := bS h46
           refine k0 (fun γ w hs => c_impl_EventsOk h49 (hv0_1.kept hs.kept)) ?_
           refine oN 2 [(2, vb t48)] [] ?_
           refine oe ?_
           obtain rfl := sI h50
           exact mt () [2] [] 1
         refine oN 5 [(2, vb false)] [] ?_
         refine oe ?_
         obtain rfl := sI h47
         exact mt () [2] [] 1
       refine oN 10 [(2, vb false)] [] ?_
       refine oe ?_
       obtain rfl := sI h40
       exact mt () [2] [] 1
     refine oN 17 [(2, vb false)] [] ?_
     refine oe ?_
     obtain rfl := sI h37
     exact mt () [2] [] 1
   refine oN 22 [(2, vb false)] [] ?_
   refine oe ?_
   obtain rfl := sI h30
   exact mt () [2] [] 1
 refine nt (qe ?_)
 obtain rfl := sI h23
 exact re [.bool p21]

theorem c_impl_CaseOk {W : World} {x0 : Case} {b0 : AC × AC × AC × AC × AC} {r : Bool} (h : impl_CaseOk x0 = some r) (hv0_0 : SlView W x0.Book.Rules b0.1.1 b0.1.2) (hv0_1 : SlView W x0.Store.Facts b0.2.1.1 b0.2.1.2) (hv0_2 : SlView W x0.Series.Points b0.2.2.1.1 b0.2.2.1.2) (hv0_3 : SlView W x0.Member.Spells b0.2.2.2.1.1 b0.2.2.2.1.2) (hv0_4 : SlView W x0.Member.Events b0.2.2.2.2.1 b0.2.2.2.2.2) :
    Gives0 Try.prog 17 #[vCase x0 b0] W (.bool r) := by
 unfold impl_CaseOk at h
 refine en Try.func17 Try.ntmps17 ?_
 refine qs (qr (oB 2 [(1, .p 0 0)] [] [(38, (eCase x0 b0))] ?_))
 refine oe (nt (qs ?_))
 obtain ⟨p21, hE22, h23⟩ := bS h
 refine JC_cut (τ := Unit) (fun _ => [(2, vb p21)]) (fun _ => [(38, (eCase x0 b0))]) (fun _ => []) ?_ (fun _ => ?_)
 · refine qr (oN 2 [(4, .v (vBook x0.Book b0.1))] [1] ?_)
   obtain ⟨t24, h25, h26⟩ := bS hE22
   refine k0 (fun γ w hs => c_impl_BookOk h25 (hv0_0.kept hs.kept)) ?_
   refine oN 1 [(6, vb t24)] [1] ?_
   refine oS 6 h26 (fun h29 => ?_) (fun h30 => ?_)
   · refine oN 2 [(8, .v (vStore x0.Store b0.2.1))] [6, 1] ?_
     obtain ⟨t31, h32, h33⟩ := bS h29
     refine k0 (fun γ w hs => c_impl_StoreOk h32 (hv0_1.kept hs.kept)) ?_
     refine oN 2 [(11, vb t31)] [1] ?_
     refine oS 11 h33 (fun h36 => ?_) (fun h37 => ?_)
     · refine oN 2 [(13, .v (vSeries x0.Series b0.2.2.1))] [11, 1] ?_
       obtain ⟨t38, h39, h40⟩ := bS h36
       refine k0 (fun γ w hs => c_impl_SeriesOk h39 (hv0_2.kept hs.kept)) ?_
       refine oN 2 [(16, vb t38)] [1] ?_
       refine oS 16 h40 (fun h43 => ?_) (fun h44 => ?_)
       · refine oN 2 [(18, .v (vMember x0.Member b0.2.2.2))] [16] ?_
         obtain ⟨t45, h46, h47⟩ := bS h43
         refine k0 (fun γ w hs => c_impl_MemberOk (b0 := b0.2.2.2) h46 (hv0_3.kept hs.kept) (hv0_4.kept hs.kept)) ?_
         refine oN 2 [(2, vb t45)] [] ?_
         refine oe ?_
         obtain rfl := sI h47
         exact mt () [2] [] 1
       refine oN 5 [(2, vb false)] [] ?_
       refine oe ?_
       obtain rfl := sI h44
       exact mt () [2] [] 1
     refine oN 10 [(2, vb false)] [] ?_
     refine oe ?_
     obtain rfl := sI h37
     exact mt () [2] [] 1
   refine oN 15 [(2, vb false)] [] ?_
   refine oe ?_
   obtain rfl := sI h30
   exact mt () [2] [] 1
 refine nt (qe ?_)
 obtain rfl := sI h23
 exact re [.bool p21]

theorem c_impl_RuleFor {W : World} {x0 : Book} {a0_0 : Option Addr} {c0_0 : Nat} {x1 : Int} {x2 : Int} {x3 : Int} {r : Int} (h : impl_RuleFor x0 x1 x2 x3 = some r) (hv0_0 : SlView W x0.Rules a0_0 c0_0) :
    Gives0 Try.prog 56 #[vBook x0 (a0_0, c0_0), .int .i64 x1, .int .i64 x2, .int .i64 x3] W (.int .i64 r) := by
 unfold impl_RuleFor at h
 refine en Try.func56 Try.ntmps56 ?_
 refine qs (qr (oB 2 [(4, .p 0 0)] [1, 2, 3] [(26, (eBook x0 (a0_0, c0_0)))] ?_))
 refine oe (nt (qs (qr (oN 1 [(9, vi (-1))] [4, 1, 2, 3] ?_))))
 refine oe (nt (qs (qs (qr (oN 4 [(15, vi 0), (14, vi (x0.Rules.length : Int)), (13, .v (.slice a0_0 x0.Rules.length c0_0))] [9, 4, 1, 2, 3] ?_)))))
 refine oe (nt ?_)
 obtain ⟨r24, hL25, h26⟩ := bS h
 obtain ⟨k27, hk28, h26⟩ := brkS h26
 refine JC_cutP (τ := (Int) × (Unit)) (fun y => k27 y.1 = some r) (fun y32 => [(9, vi y32.1), (4, .p 0 0)]) (fun y32 => [(26, (eBook x0 (a0_0, c0_0)))]) (fun y32 => []) ?_ (fun y32 h33p => ?_)
 · refine qb (lp Unit hL25 (fun s21 y22 => [(15, vi s21.1), (14, vi (x0.Rules.length : Int)), (13, .v (.slice a0_0 x0.Rules.length c0_0)), (9, vi s21.2), (4, .p 0 0), (1, vi x1), (2, vi x2), (3, vi x3)]) (fun s21 y22 => [(26, (eBook x0 (a0_0, c0_0)))]) (fun s21 y22 => []) () [15, 14, 13, 9, 4, 1, 2, 3] [] 1 (fun s21 y22 t23 h29 hd30 => ?_))
   refine qs (qr (oN 1 [(16, vb (decide (s21.1 < (x0.Rules.length : Int))))] [15, 14, 13, 9, 4, 1, 2, 3] ?_))
   refine oe (nt (qs (cC h29 (fun h42 => ?_) (fun h43 => ?_))))
   · refine qk (nt (qs (qb (qs (qr (oN 1 [(17, vi s21.1)] [15, 14, 13, 9, 4, 1, 2, 3] ?_))))))
     obtain ⟨x44, hx45, h46⟩ := bS h42
     refine oi 7 (fun γ w hs => (hv0_0.kept hs.kept)) hx45 ?_
     obtain ⟨_, ⟨a47, c48, rfl, hv49⟩, hc50⟩ := SlView.at hv0_0 (idx_some hx45).2.2
     refine ol 48 0 (vRule x44 (a47, c48)) (fun γ w hs => ⟨(hv0_0.kept hs.kept).ne (idx_some hx45).2.2, hc50.kept hs.kept⟩) ?_
     refine oB 3 [(10, vi s21.1), (11, .p 1 0)] [15, 14, 13, 9, 4, 1, 2, 3] [(26, (eBook x0 (a0_0, c0_0))), (48, (eRule x44 (a47, c48)))] ?_
     refine oe (nt (qs ?_))
     obtain ⟨p51, hE52, h53⟩ := bS h46
     refine JC_cut (τ := Unit) (fun _ => [(1, vi x1), (2, vi x2), (3, vi x3), (4, .p 0 0), (9, vi s21.2), (10, vi s21.1), (13, .v (.slice a0_0 x0.Rules.length c0_0)), (14, vi (x0.Rules.length : Int)), (15, vi s21.1), (56, vb p51)]) (fun _ => [(26, (eBook x0 (a0_0, c0_0))), (48, (eRule x44 (a47, c48)))]) (fun _ => []) ?_ (fun _ => ?_)
     · refine JC_quiet (by kernel_rfl) (by kernel_rfl) ?_
       refine qN 5 [(24, vb (x44.Name == x1))] [10, 11, 15, 14, 13, 9, 4, 1, 2, 3] ?_
       refine qS 24 hE52 (fun h55 => ?_) (fun h56 => ?_)
       · refine qN 6 [(30, vb (decide (x44.From ≤ x2)))] [10, 11, 15, 14, 13, 9, 4, 1, 2, 3] ?_
         refine qS 30 h55 (fun h58 => ?_) (fun h59 => ?_)
         · refine qN 6 [(36, vb (decide (x2 < x44.To)))] [10, 11, 15, 14, 13, 9, 4, 1, 2, 3] ?_
           refine qS 36 h58 (fun h61 => ?_) (fun h62 => ?_)
           · refine qN 6 [(42, vb (decide (x44.Joined > x3)))] [10, 11, 15, 14, 13, 9, 4, 1, 2, 3] ?_
             refine qS 42 h61 (fun h64 => ?_) (fun h65 => ?_)
             · refine qN 3 [(45, vb (decide (s21.2 < 0)))] [42, 10, 11, 15, 14, 13, 9, 4, 1, 2, 3] ?_
               refine qS 45 h64 (fun h67 => ?_) (fun h68 => ?_)
               · refine qN 11 [(56, vb true)] [10, 15, 14, 13, 9, 4, 1, 2, 3] ?_
                 refine qz ?_
                 obtain rfl := sI h67
                 exact mt () [1, 2, 3, 4, 9, 10, 13, 14, 15, 56] [] 2
               refine qN 5 [(50, vi s21.2), (49, .v (.slice a0_0 x0.Rules.length c0_0)), (47, vi x44.Rank)] [45, 42, 10, 15, 14, 13, 9, 4, 1, 2, 3] ?_
               obtain ⟨x69, hx70, h71⟩ := bS h68
               refine qi 7 (fun γ w hs => (hv0_0.kept hs.kept)) hx70 ?_
               refine qN 1 [(52, .q a0_0 (Int.toNat s21.2 * 7 + 4))] [47, 45, 42, 10, 15, 14, 13, 9, 4, 1, 2, 3] ?_
               obtain ⟨_, ⟨a72, c73, rfl, hv74⟩, hc75⟩ := SlView.at hv0_0 (idx_some hx70).2.2
               refine ql 3 4 (.int .i64 x69.Rank) (fun γ w hs => ⟨(hv0_0.kept hs.kept).ne (idx_some hx70).2.2, hc75.kept hs.kept⟩) ?_
               refine qN 3 [(56, vb (decide (x44.Rank > x69.Rank)))] [10, 15, 14, 13, 9, 4, 1, 2, 3] ?_
               refine qz ?_
               obtain rfl := sI h71
               exact mt () [1, 2, 3, 4, 9, 10, 13, 14, 15, 56] [] 2
             refine qN 14 [(56, vb false)] [10, 15, 14, 13, 9, 4, 1, 2, 3] ?_
             refine qz ?_
             obtain rfl := sI h65
             exact mt () [1, 2, 3, 4, 9, 10, 13, 14, 15, 56] [] 2
           refine qN 20 [(56, vb false)] [10, 15, 14, 13, 9, 4, 1, 2, 3] ?_
           refine qz ?_
           obtain rfl := sI h62
           exact mt () [1, 2, 3, 4, 9, 10, 13, 14, 15, 56] [] 2
         refine qN 26 [(56, vb false)] [10, 15, 14, 13, 9, 4, 1, 2, 3] ?_
         refine qz ?_
         obtain rfl := sI h59
         exact mt () [1, 2, 3, 4, 9, 10, 13, 14, 15, 56] [] 2
       refine qN 32 [(56, vb false)] [10, 15, 14, 13, 9, 4, 1, 2, 3] ?_
       refine qz ?_
       obtain rfl := sI h56
       exact mt () [1, 2, 3, 4, 9, 10, 13, 14, 15, 56] [] 2
     refine nt ?_
     obtain ⟨k79, hk80, h82⟩ := jS h53
     refine JC_cutP (τ := (Int) × (Unit)) (fun y => k79 y.1 = some t23) (fun y78 => [(1, vi x1), (2, vi x2), (3, vi x3), (4, .p 0 0), (9, vi y78.1), (13, .v (.slice a0_0 x0.Rules.length c0_0)), (14, vi (x0.Rules.length : Int)), (15, vi s21.1)]) (fun y78 => [(26, (eBook x0 (a0_0, c0_0))), (48, (eRule x44 (a47, c48)))]) (fun y78 => []) ?_ (fun y78 h81p => ?_)
     · refine cC h82 (fun h84 => ?_) (fun h85 => ?_)
       · refine qr (oN 2 [(9, vi s21.1)] [1, 2, 3, 4, 13, 14, 15] ?_)
         exact oe (mp (s21.1, ()) h84 [1, 2, 3, 4, 9, 13, 14, 15] [] 2)
       exact qk (mp (s21.2, ()) h85 [1, 2, 3, 4, 9, 13, 14, 15] [] 2)
     have h81 := (congrFun hk80 _).symm.trans h81p
     refine bn (nt (qr (oN 2 [(15, vi (w64 (s21.1 + 1)))] [1, 2, 3, 4, 9, 13, 14] ?_)))
     exact oe (ct h81 () [15, 14, 13, 9, 4, 1, 2, 3] [] 1)
   refine qx (nx (nx (bh ?_)))
   have h86 := leafB hd30 h43 h26
   exact mp (s21.2, ()) h86 [9, 4] [] 1
 have h33 := (congrFun hk28 _).symm.trans h33p
 refine nt (qs (qs (qr (oN 1 [(59, .v (vBook x0 (a0_0, c0_0)))] [9] ?_))))
 obtain ⟨t34, h35, h36⟩ := bS h33
 refine k0 (fun γ w hs => c_impl_BookOk h35 (hv0_0.kept hs.kept)) ?_
 refine oN 1 [(61, vb (!t34))] [9] ?_
 refine oe (nt (cC h36 (fun h39 => ?_) (fun h40 => ?_)))
 · refine qs (qr (oN 1 [(8, vi (-1))] [] ?_))
   refine oe (nt (qe (nr ?_)))
   obtain rfl := sI h39
   exact re [.int .i64 (-1)]
 refine qk (nt (qs (qr (oN 2 [(8, vi y32.1)] [] ?_))))
 refine oe (nt (qe ?_))
 obtain rfl := sI h40
 exact re [.int .i64 y32.1]

theorem c_impl_RuleUsed {W : World} {x0 : Case} {b0 : AC × AC × AC × AC × AC} {x1 : Int} {r : Int} (h : impl_RuleUsed x0 x1 = some r) (hv0_0 : SlView W x0.Book.Rules b0.1.1 b0.1.2) (hv0_1 : SlView W x0.Store.Facts b0.2.1.1 b0.2.1.2) (hv0_2 : SlView W x0.Series.Points b0.2.2.1.1 b0.2.2.1.2) (hv0_3 : SlView W x0.Member.Spells b0.2.2.2.1.1 b0.2.2.2.1.2) (hv0_4 : SlView W x0.Member.Events b0.2.2.2.2.1 b0.2.2.2.2.2) :
    Gives0 Try.prog 24 #[vCase x0 b0, .int .i64 x1] W (.int .i64 r) := by
 unfold impl_RuleUsed at h
 refine en Try.func24 Try.ntmps24 ?_
 refine qs (qr (oB 2 [(2, .p 0 0)] [1] [(38, (eCase x0 b0))] ?_))
 refine oe (nt (qs (qs (qr (oN 1 [(5, .v (vCase x0 b0))] [2, 1] ?_)))))
 obtain ⟨t21, h22, h23⟩ := bS h
 refine k0 (fun γ w hs => c_impl_CaseOk (b0 := b0) h22 (hv0_0.kept hs.kept) (hv0_1.kept hs.kept) (hv0_2.kept hs.kept) (hv0_3.kept hs.kept) (hv0_4.kept hs.kept)) ?_
 refine oN 1 [(7, vb (!t21))] [2, 1] ?_
 refine oe (nt (cC h23 (fun h26 => ?_) (fun h27 => ?_)))
 · refine qs (qr (oN 1 [(4, vi (-1))] [] ?_))
   refine oe (nt (qe (nr ?_)))
   obtain rfl := sI h26
   exact re [.int .i64 (-1)]
 refine qk (nt (qs (qr (oN 6 [(13, vi x0.Member.Joined), (10, vi x1), (9, .v (vBook x0.Book b0.1))] [] ?_))))
 obtain ⟨t28, h29, h30⟩ := bS h27
 refine k0 (fun γ w hs => c_impl_RuleFor h29 (hv0_0.kept hs.kept)) ?_
 refine oN 1 [(4, vi t28)] [] ?_
 refine oe (nt (qe ?_))
 obtain rfl := sI h30
 exact re [.int .i64 t28]

theorem c_impl_RuleInputs {W : World} {x0 : Case} {b0 : AC × AC × AC × AC × AC} {x1 : Int} {r : (List Bool)} (h : impl_RuleInputs x0 x1 = some r) (hv0_0 : SlView W x0.Book.Rules b0.1.1 b0.1.2) (hv0_1 : SlView W x0.Store.Facts b0.2.1.1 b0.2.1.2) (hv0_2 : SlView W x0.Series.Points b0.2.2.1.1 b0.2.2.1.2) (hv0_3 : SlView W x0.Member.Spells b0.2.2.2.1.1 b0.2.2.2.1.2) (hv0_4 : SlView W x0.Member.Events b0.2.2.2.2.1 b0.2.2.2.2.2) :
    Gives Try.prog 9 #[vCase x0 b0, .int .i64 x1] W (fun y : AC => .slice y.1 r.length y.2) (fun y => [SlRes 4 r y.1 y.2]) := by
 unfold impl_RuleInputs at h
 refine en Try.func9 Try.ntmps9 ?_
 refine qs (qr (oB 2 [(2, .p 0 0)] [1] [(38, (eCase x0 b0))] ?_))
 refine oe (nt (qs (qr (oN 2 [(10, vi x1), (9, .v (vCase x0 b0))] [2] ?_))))
 obtain ⟨t21, h22, h23⟩ := bS h
 refine k0 (fun γ w hs => c_impl_RuleUsed (b0 := b0) h22 (hv0_0.kept hs.kept) (hv0_1.kept hs.kept) (hv0_2.kept hs.kept) (hv0_3.kept hs.kept) (hv0_4.kept hs.kept)) ?_
 refine oN 1 [(5, vi t21)] [2] ?_
 refine oe (nt (qs (qs (qr (oN 2 [(13, vb (decide (t21 < 0)))] [5, 2] ?_)))))
 refine oe (nt (cC h23 (fun h26 => ?_) (fun h27 => ?_)))
 · refine qs (qr (oN 1 [(4, .v (.slice none 0 0))] [] ?_))
   refine oe (nt (qe (nr (JE_addnil 4 (List.nil (α := Bool)) rfl ?_))))
   refine rt [.slice none 0 0] (fun γ w hs => ?_)
   rw [← sI h26]
   exact ⟨(none, 0), rfl, hs.kept.toBelow, (hs.takeR (is := [0]) rfl).fresh⟩
 refine qk (nt (qs (qr ?_)))
 obtain ⟨l29, hm30, h31⟩ := bS h27
 refine JO_make (α := Bool) rfl (by kernel_rfl) (t := 42) (e := 4) (m := 8) (by kernel_rfl) (i := Try.t4) (by kernel_rfl) (z := (.bool false)) (by kernel_rfl) (by kernel_rfl) (by kernel_rfl) (by kernel_rfl) (fun w => ⟨rfl, rfl⟩) hm30 _ (fun _ => rfl) (fun y28 => ?_)
 refine oN 1 [(6, .v (.slice y28.1 l29.length y28.2))] [5, 2] ?_
 refine oe (nt (qs (qs (qr (oN 4 [(18, vi t21), (17, .v (.slice b0.1.1 x0.Book.Rules.length b0.1.2))] [6] ?_)))))
 obtain ⟨x32, hx33, h34⟩ := bS h31
 refine oi 7 (fun γ w hs => (hv0_0.kept hs.kept)) hx33 ?_
 refine oN 1 [(20, .q b0.1.1 (Int.toNat t21 * 7 + 6))] [6] ?_
 obtain ⟨_, ⟨a35, c36, rfl, hv37⟩, hc38⟩ := SlView.at hv0_0 (idx_some hx33).2.2
 refine ol 46 6 (.slice a35 x32.Nodes.length c36) (fun γ w hs => ⟨(hv0_0.kept hs.kept).ne (idx_some hx33).2.2, hc38.kept hs.kept⟩) ?_
 refine oN 2 [(23, vi 0), (22, vi (x32.Nodes.length : Int))] [21, 6] ?_
 refine oe (nt ?_)
 obtain ⟨r42, hL43, h44⟩ := bS h34
 obtain ⟨k45, hk46, h44⟩ := brkS h44
 refine JC_cutP (τ := ((List Bool) × Int × Int) × (Unit)) (fun y => k45 y.1 = some r) (fun y50 => [(6, .v (.slice y28.1 y50.1.1.length y28.2))]) (fun y50 => [(38, (eCase (Case.mk x0.Book x0.Store x0.Series (Member.mk y50.1.2.1 y50.1.2.2 x0.Member.Spells x0.Member.Events)) b0))]) (fun y50 => [SlRes 4 y50.1.1 y28.1 y28.2]) ?_ (fun y50 h51p => ?_)
 · refine qb (lp Unit hL43 (fun s39 y40 => [(23, vi s39.1), (22, vi (x32.Nodes.length : Int)), (21, .v (.slice a35 x32.Nodes.length c36)), (6, .v (.slice y28.1 s39.2.length y28.2))]) (fun s39 y40 => [(38, (eCase x0 b0))]) (fun s39 y40 => [SlRes 4 s39.2 y28.1 y28.2]) () [23, 22, 21, 6] [0] 1 (fun s39 y40 t41 h47 hd48 => ?_))
   refine qs (qr (oN 1 [(24, vb (decide (s39.1 < (x32.Nodes.length : Int))))] [23, 22, 21, 6] ?_))
   refine oe (nt (qs (cC h47 (fun h53 => ?_) (fun h54 => ?_))))
   · refine qk (nt (qs (qb (qs (qr ?_)))))
     obtain ⟨x55, hx56, h57⟩ := bS h53
     refine oi 6 (fun γ w hs => (hv37.kept hs.kept)) hx56 ?_
     refine ol 68 0 (vNode x55) (fun γ w hs => (hv37.kept hs.kept).flatq hx56) ?_
     refine oB 2 [(8, .p 1 0)] [23, 22, 21, 6] [(38, (eCase x0 b0)), (68, (eNode x55))] ?_
     refine oe (nt (qs (qr (oN 3 [(29, vb (x55.Kind == 2))] [8, 23, 22, 21, 6] ?_))))
     refine oe (nt ?_)
     obtain ⟨k68, hk69, h71⟩ := jS h57
     refine JC_cutP (τ := ((List Bool)) × (Unit)) (fun y => k68 y.1 = some t41) (fun y67 => [(23, vi s39.1), (22, vi (x32.Nodes.length : Int)), (21, .v (.slice a35 x32.Nodes.length c36)), (6, .v (.slice y28.1 y67.1.length y28.2))]) (fun y67 => [(38, (eCase x0 b0)), (68, (eNode x55))]) (fun y67 => [SlRes 4 y67.1 y28.1 y28.2]) ?_ (fun y67 h70p => ?_)
     · refine cC h71 (fun h73 => ?_) (fun h74 => ?_)
       · refine qr (oN 3 [(32, vi x55.A), (30, .v (.slice y28.1 s39.2.length y28.2))] [23, 22, 21, 6] ?_)
         obtain ⟨x75, hx76, h77⟩ := bS h73
         refine oi 1 (fun γ w hs => (hs.view 0 rfl)) hx76 ?_
         obtain ⟨l78, hm79, h80⟩ := bS h77
         replace hm79 := (sI hm79).symm
         refine JO_storeq (α := Bool) (d := y28.1) (vs := [.bool true]) (j := x55.A) (x' := true) rfl (by kernel_rfl) 0 (by kernel_rfl) hx76 (Rc := []) (Rr := []) rfl (by kernel_rfl) (fun w c F Fs ho _ _ => own_flat_set (by kernel_rfl) ho) hm79 rfl ?_
         have hl81 := len_set hm79
         refine JO_keep [32, 30, 23, 22, 21, 6] (sl' := [(32, vi x55.A), (30, .v (.slice y28.1 s39.2.length y28.2)), (23, vi s39.1), (22, vi (x32.Nodes.length : Int)), (21, .v (.slice a35 x32.Nodes.length c36)), (6, .v (.slice y28.1 s39.2.length y28.2))]) (by kernel_rfl) ?_
         refine JO_eqE (sl' := [(32, vi x55.A), (30, .v (.slice y28.1 l78.length y28.2)), (23, vi s39.1), (22, vi (x32.Nodes.length : Int)), (21, .v (.slice a35 x32.Nodes.length c36)), (6, .v (.slice y28.1 l78.length y28.2))]) (bx' := [(38, (eCase x0 b0)), (68, (eNode x55))]) (by simp only [hl81]) rfl ?_
         exact oe (mp (l78, ()) h80 [23, 22, 21, 6] [0] 2)
       exact qk (mp (s39.2, ()) h74 [23, 22, 21, 6] [0] 2)
     have h70 := (congrFun hk69 _).symm.trans h70p
     refine bn (nt (qr (oN 2 [(23, vi (w64 (s39.1 + 1)))] [22, 21, 6] ?_)))
     exact oe (ct h70 () [23, 22, 21, 6] [0] 1)
   refine qx (nx (nx (bh ?_)))
   have h82 := leafB hd48 h54 h44
   exact mp ((s39.2, x0.Member.Birth, x0.Member.Joined), ()) h82 [6] [0] 1
 have h51 := (congrFun hk46 _).symm.trans h51p
 refine nt (qs (qr (oN 2 [(4, .v (.slice y28.1 y50.1.1.length y28.2))] [] ?_)))
 refine oe (nt (qe (rt [.slice y28.1 y50.1.1.length y28.2] (fun γ w hs => ?_))))
 rw [← sI h51]
 exact ⟨y28, rfl, hs.kept.toBelow, (hs.takeR (is := [0]) rfl).fresh⟩

theorem c_spec_FactOk {W : World} {x0 : Fact} {r : Bool} (h : spec_FactOk x0 = some r)  :
    Gives0 Try.prog 92 #[vFact x0] W (.bool r) := by
 unfold spec_FactOk at h
 refine en Try.func92 Try.ntmps92 ?_
 refine qs (qr (oB 2 [(1, .p 0 0)] [] [(79, (eFact x0))] ?_))
 refine oe (nt (qs ?_))
 obtain ⟨p21, hE22, h23⟩ := bS h
 refine JC_cut (τ := Unit) (fun _ => [(2, vb p21)]) (fun _ => [(79, (eFact x0))]) (fun _ => []) ?_ (fun _ => ?_)
 · refine qr (oN 2 [(4, vi x0.Key)] [1] ?_)
   obtain ⟨t24, h25, h26⟩ := bS hE22
   refine k0 (fun γ w hs => c_spec_l01In h25) ?_
   refine oN 1 [(6, vb t24)] [1] ?_
   refine oS 6 h26 (fun h29 => ?_) (fun h30 => ?_)
   · refine oN 5 [(11, vb (decide (x0.From ≥ 0)))] [1] ?_
     refine oS 11 h29 (fun h32 => ?_) (fun h33 => ?_)
     · refine oN 7 [(18, vb (decide (x0.From < x0.To)))] [1] ?_
       refine oS 18 h32 (fun h35 => ?_) (fun h36 => ?_)
       · refine oN 5 [(23, vb (decide (x0.To ≤ 3600)))] [1] ?_
         refine oS 23 h35 (fun h38 => ?_) (fun h39 => ?_)
         · refine oN 2 [(25, vi x0.Known)] [23, 1] ?_
           obtain ⟨t40, h41, h42⟩ := bS h38
           refine k0 (fun γ w hs => c_spec_MonthOk h41) ?_
           refine oN 2 [(28, vb t40)] [1] ?_
           refine oS 28 h42 (fun h45 => ?_) (fun h46 => ?_)
           · refine oN 2 [(30, vi x0.Value)] [28] ?_
             obtain ⟨t47, h48, h49⟩ := bS h45
             refine k0 (fun γ w hs => c_spec_l01In h48) ?_
             refine oN 2 [(2, vb t47)] [] ?_
             refine oe ?_
             obtain rfl := sI h49
             exact mt () [2] [] 1
           refine oN 5 [(2, vb false)] [] ?_
           refine oe ?_
           obtain rfl := sI h46
           exact mt () [2] [] 1
         refine oN 10 [(2, vb false)] [] ?_
         refine oe ?_
         obtain rfl := sI h39
         exact mt () [2] [] 1
       refine oN 15 [(2, vb false)] [] ?_
       refine oe ?_
       obtain rfl := sI h36
       exact mt () [2] [] 1
     refine oN 22 [(2, vb false)] [] ?_
     refine oe ?_
     obtain rfl := sI h33
     exact mt () [2] [] 1
   refine oN 27 [(2, vb false)] [] ?_
   refine oe ?_
   obtain rfl := sI h30
   exact mt () [2] [] 1
 refine nt (qe ?_)
 obtain rfl := sI h23
 exact re [.bool p21]

theorem c_spec_StoreOk {W : World} {x0 : Store} {a0_0 : Option Addr} {c0_0 : Nat} {r : Bool} (h : spec_StoreOk x0 = some r) (hv0_0 : SlView W x0.Facts a0_0 c0_0) :
    Gives0 Try.prog 58 #[vStore x0 (a0_0, c0_0)] W (.bool r) := by
 unfold spec_StoreOk at h
 refine en Try.func58 Try.ntmps58 ?_
 refine qs (qr (oB 2 [(1, .p 0 0)] [] [(29, (eStore x0 (a0_0, c0_0)))] ?_))
 refine oe (nt (qs (qs (qr (oN 1 [(3, vi 0)] [1] ?_)))))
 refine oe (nt ?_)
 obtain ⟨r24, hL25, h26⟩ := bS h
 obtain ⟨k27, hk28, h26⟩ := brkS h26
 refine JC_cutP (τ := (Unit) × (Unit)) (fun y => k27 y.1 = some r) (fun y32 => [(1, .p 0 0)]) (fun y32 => [(29, (eStore x0 (a0_0, c0_0)))]) (fun y32 => []) ?_ (fun y32 h33p => ?_)
 · refine qb (lp Unit hL25 (fun s21 y22 => [(3, vi s21), (1, .p 0 0)]) (fun s21 y22 => [(29, (eStore x0 (a0_0, c0_0)))]) (fun s21 y22 => []) () [3, 1] [] 1 (fun s21 y22 t23 h29 hd30 => ?_))
   refine qs (qs (qr (oN 5 [(8, vb (decide (s21 < (x0.Facts.length : Int))))] [3, 1] ?_)))
   refine oe (nt (cC h29 (fun h35 => ?_) (fun h36 => ?_)))
   · refine qk (nt (qs (qb (qs ?_))))
     obtain ⟨p37, hE38, h39⟩ := bS h35
     refine JC_cut (τ := Unit) (fun _ => [(1, .p 0 0), (3, vi s21), (37, vb p37)]) (fun _ => [(29, (eStore x0 (a0_0, c0_0)))]) (fun _ => []) ?_ (fun _ => ?_)
     · refine JC_quiet (by kernel_rfl) (by kernel_rfl) ?_
       refine qN 3 [(13, vi s21), (12, .v (.slice a0_0 x0.Facts.length c0_0))] [3, 1] ?_
       obtain ⟨x40, hx41, h42⟩ := bS hE38
       refine qi 5 (fun γ w hs => (hv0_0.kept hs.kept)) hx41 ?_
       refine ql 79 0 (vFact x40) (fun γ w hs => (hv0_0.kept hs.kept).flatq hx41) ?_
       obtain ⟨t43, h44, h45⟩ := bS h42
       refine q0 (fun γ w hs => c_spec_FactOk h44) ?_
       refine qN 2 [(18, vb (!t43))] [3, 1] ?_
       refine qS 18 h45 (fun h48 => ?_) (fun h49 => ?_)
       · refine qN 19 [(37, vb true)] [3, 1] ?_
         refine qz ?_
         obtain rfl := sI h48
         exact mt () [1, 3, 37] [] 1
       refine qN 3 [(21, vb (decide (s21 > 0)))] [18, 3, 1] ?_
       refine qS 21 h49 (fun h51 => ?_) (fun h52 => ?_)
       · refine qN 4 [(25, vi (w64 (s21 - 1))), (23, .v (.slice a0_0 x0.Facts.length c0_0))] [21, 18, 3, 1] ?_
         obtain ⟨x53, hx54, h55⟩ := bS h51
         refine qi 5 (fun γ w hs => (hv0_0.kept hs.kept)) hx54 ?_
         refine qN 1 [(27, .q a0_0 (Int.toNat (w64 (s21 - 1)) * 5 + 3))] [21, 18, 3, 1] ?_
         refine ql 3 3 (.int .i64 x53.Known) (fun γ w hs => (hv0_0.kept hs.kept).flatq hx54) ?_
         refine qN 3 [(31, vi s21), (30, .v (.slice a0_0 x0.Facts.length c0_0))] [28, 21, 18, 3, 1] ?_
         obtain ⟨x56, hx57, h58⟩ := bS h55
         refine qi 5 (fun γ w hs => (hv0_0.kept hs.kept)) hx57 ?_
         refine qN 1 [(33, .q a0_0 (Int.toNat s21 * 5 + 3))] [28, 21, 18, 3, 1] ?_
         refine ql 3 3 (.int .i64 x56.Known) (fun γ w hs => (hv0_0.kept hs.kept).flatq hx57) ?_
         refine qN 3 [(37, vb (decide (x53.Known > x56.Known)))] [3, 1] ?_
         refine qz ?_
         obtain rfl := sI h58
         exact mt () [1, 3, 37] [] 1
       refine qN 16 [(37, vb false)] [3, 1] ?_
       refine qz ?_
       obtain rfl := sI h52
       exact mt () [1, 3, 37] [] 1
     refine nt (cC h39 (fun h60 => ?_) (fun h61 => ?_))
     · refine qs (qr (oN 1 [(2, vb false)] [] ?_))
       refine oe (nt (qe (br (nr (nr ?_)))))
       have h62 := leafR hd30 h60 h26
       refine br (nr (nr ?_))
       obtain rfl := sI h62
       exact re [.bool false]
     refine qk (bn (nt (qr (oN 3 [(3, vi (w64 (s21 + 1)))] [1] ?_))))
     exact oe (ct h61 () [3, 1] [] 1)
   refine qx (nx (nx (bh ?_)))
   have h63 := leafB hd30 h36 h26
   exact mp ((), ()) h63 [1] [] 1
 have h33 := (congrFun hk28 _).symm.trans h33p
 refine nt (qs (qr (oN 5 [(2, vb (decide ((x0.Facts.length : Int) ≤ 200)))] [] ?_)))
 refine oe (nt (qe ?_))
 obtain rfl := sI h33
 exact re [.bool (decide ((x0.Facts.length : Int) ≤ 200))]

theorem c_spec_SeriesOk {W : World} {x0 : Series} {a0_0 : Option Addr} {c0_0 : Nat} {r : Bool} (h : spec_SeriesOk x0 = some r) (hv0_0 : SlView W x0.Points a0_0 c0_0) :
    Gives0 Try.prog 59 #[vSeries x0 (a0_0, c0_0)] W (.bool r) := by
 unfold spec_SeriesOk at h
 refine en Try.func59 Try.ntmps59 ?_
 refine qs (qr (oB 2 [(1, .p 0 0)] [] [(32, (eSeries x0 (a0_0, c0_0)))] ?_))
 refine oe (nt (qs (qs (qr (oN 1 [(3, vi 0)] [1] ?_)))))
 refine oe (nt ?_)
 obtain ⟨r24, hL25, h26⟩ := bS h
 obtain ⟨k27, hk28, h26⟩ := brkS h26
 refine JC_cutP (τ := (Unit) × (Unit)) (fun y => k27 y.1 = some r) (fun y32 => [(1, .p 0 0)]) (fun y32 => [(32, (eSeries x0 (a0_0, c0_0)))]) (fun y32 => []) ?_ (fun y32 h33p => ?_)
 · refine qb (lp Unit hL25 (fun s21 y22 => [(3, vi s21), (1, .p 0 0)]) (fun s21 y22 => [(32, (eSeries x0 (a0_0, c0_0)))]) (fun s21 y22 => []) () [3, 1] [] 1 (fun s21 y22 t23 h29 hd30 => ?_))
   refine qs (qs (qr (oN 5 [(9, vb (decide (s21 < (x0.Points.length : Int))))] [3, 1] ?_)))
   refine oe (nt (cC h29 (fun h35 => ?_) (fun h36 => ?_)))
   · refine qk (nt (qs (qb (qs (qr (oN 3 [(14, vi s21), (13, .v (.slice a0_0 x0.Points.length c0_0))] [3, 1] ?_))))))
     obtain ⟨x37, hx38, h39⟩ := bS h35
     refine oi 3 (fun γ w hs => (hv0_0.kept hs.kept)) hx38 ?_
     refine ol 75 0 (vPoint x37) (fun γ w hs => (hv0_0.kept hs.kept).flatq hx38) ?_
     refine oB 2 [(4, .p 1 0)] [3, 1] [(32, (eSeries x0 (a0_0, c0_0))), (75, (ePoint x37))] ?_
     refine oe (nt (qs ?_))
     obtain ⟨p40, hE41, h42⟩ := bS h39
     refine JC_cut (τ := Unit) (fun _ => [(1, .p 0 0), (3, vi s21), (55, vb p40)]) (fun _ => [(32, (eSeries x0 (a0_0, c0_0))), (75, (ePoint x37))]) (fun _ => []) ?_ (fun _ => ?_)
     · refine JC_quiet (by kernel_rfl) (by kernel_rfl) ?_
       refine qN 2 [(18, vi x37.Month)] [4, 3, 1] ?_
       obtain ⟨t43, h44, h45⟩ := bS hE41
       refine q0 (fun γ w hs => c_spec_MonthOk h44) ?_
       refine qN 2 [(21, vb (!t43))] [4, 3, 1] ?_
       refine qS 21 h45 (fun h48 => ?_) (fun h49 => ?_)
       · refine qN 34 [(55, vb true)] [3, 1] ?_
         refine qz ?_
         obtain rfl := sI h48
         exact mt () [1, 3, 55] [] 2
       refine qN 2 [(23, vi x37.Known)] [21, 4, 3, 1] ?_
       obtain ⟨t50, h51, h52⟩ := bS h49
       refine q0 (fun γ w hs => c_spec_MonthOk h51) ?_
       refine qN 3 [(27, vb (!t50))] [4, 3, 1] ?_
       refine qS 27 h52 (fun h55 => ?_) (fun h56 => ?_)
       · refine qN 28 [(55, vb true)] [3, 1] ?_
         refine qz ?_
         obtain rfl := sI h55
         exact mt () [1, 3, 55] [] 2
       refine qN 7 [(34, vb (decide (x37.Known < x37.Month)))] [4, 3, 1] ?_
       refine qS 34 h56 (fun h58 => ?_) (fun h59 => ?_)
       · refine qN 21 [(55, vb true)] [3, 1] ?_
         refine qz ?_
         obtain rfl := sI h58
         exact mt () [1, 3, 55] [] 2
       refine qN 2 [(36, vi x37.Value)] [34, 4, 3, 1] ?_
       obtain ⟨t60, h61, h62⟩ := bS h59
       refine q0 (fun γ w hs => c_spec_l01In h61) ?_
       refine qN 3 [(40, vb (!t60))] [4, 3, 1] ?_
       refine qS 40 h62 (fun h65 => ?_) (fun h66 => ?_)
       · refine qN 15 [(55, vb true)] [3, 1] ?_
         refine qz ?_
         obtain rfl := sI h65
         exact mt () [1, 3, 55] [] 2
       refine qN 3 [(43, vb (decide (s21 > 0)))] [40, 4, 3, 1] ?_
       refine qS 43 h66 (fun h68 => ?_) (fun h69 => ?_)
       · refine qN 4 [(47, vi (w64 (s21 - 1))), (45, .v (.slice a0_0 x0.Points.length c0_0))] [43, 40, 4, 3, 1] ?_
         obtain ⟨x70, hx71, h72⟩ := bS h68
         refine qi 3 (fun γ w hs => (hv0_0.kept hs.kept)) hx71 ?_
         refine qN 1 [(49, .q a0_0 (Int.toNat (w64 (s21 - 1)) * 3 + 1))] [43, 40, 4, 3, 1] ?_
         refine ql 3 1 (.int .i64 x70.Known) (fun γ w hs => (hv0_0.kept hs.kept).flatq hx71) ?_
         refine qN 5 [(55, vb (decide (x70.Known > x37.Known)))] [3, 1] ?_
         refine qz ?_
         obtain rfl := sI h72
         exact mt () [1, 3, 55] [] 2
       refine qN 12 [(55, vb false)] [3, 1] ?_
       refine qz ?_
       obtain rfl := sI h69
       exact mt () [1, 3, 55] [] 2
     refine nt (cC h42 (fun h74 => ?_) (fun h75 => ?_))
     · refine qs (qr (oN 1 [(2, vb false)] [] ?_))
       refine oe (nt (qe (br (nr (nr ?_)))))
       have h76 := leafR hd30 h74 h26
       refine br (nr (nr ?_))
       obtain rfl := sI h76
       exact re [.bool false]
     refine qk (bn (nt (qr (oN 3 [(3, vi (w64 (s21 + 1)))] [1] ?_))))
     exact oe (ct h75 () [3, 1] [] 1)
   refine qx (nx (nx (bh ?_)))
   have h77 := leafB hd30 h36 h26
   exact mp ((), ()) h77 [1] [] 1
 have h33 := (congrFun hk28 _).symm.trans h33p
 refine nt (qs (qr (oN 5 [(2, vb (decide ((x0.Points.length : Int) ≤ 200)))] [] ?_)))
 refine oe (nt (qe ?_))
 obtain rfl := sI h33
 exact re [.bool (decide ((x0.Points.length : Int) ≤ 200))]

theorem c_spec_SpellsOk {W : World} {x0 : List Spell} {a0_0 : Option Addr} {c0_0 : Nat} {r : Bool} (h : spec_SpellsOk x0 = some r) (hv0_0 : SlView W x0 a0_0 c0_0) :
    Gives0 Try.prog 93 #[.slice a0_0 x0.length c0_0] W (.bool r) := by
 unfold spec_SpellsOk at h
 refine en Try.func93 Try.ntmps93 ?_
 refine qs (qr (oN 1 [] [0] ?_))
 refine oe (nt (qs (qs (qr (oN 1 [(3, vi 0)] [0] ?_)))))
 refine oe (nt ?_)
 obtain ⟨r24, hL25, h26⟩ := bS h
 obtain ⟨k27, hk28, h26⟩ := brkS h26
 refine JC_cutP (τ := (Unit) × (Unit)) (fun y => k27 y.1 = some r) (fun y32 => [(0, .v (.slice a0_0 x0.length c0_0))]) (fun y32 => []) (fun y32 => []) ?_ (fun y32 h33p => ?_)
 · refine qb (lp Unit hL25 (fun s21 y22 => [(3, vi s21), (0, .v (.slice a0_0 x0.length c0_0))]) (fun s21 y22 => []) (fun s21 y22 => []) () [3, 0] [] 0 (fun s21 y22 t23 h29 hd30 => ?_))
   refine qs (qs (qr (oN 4 [(8, vb (decide (s21 < (x0.length : Int))))] [3, 0] ?_)))
   refine oe (nt (cC h29 (fun h35 => ?_) (fun h36 => ?_)))
   · refine qk (nt (qs (qb (qs (qr (oN 2 [(12, vi s21), (11, .v (.slice a0_0 x0.length c0_0))] [3, 0] ?_))))))
     obtain ⟨x37, hx38, h39⟩ := bS h35
     refine oi 4 (fun γ w hs => (hv0_0.kept hs.kept)) hx38 ?_
     refine ol 94 0 (vSpell x37) (fun γ w hs => (hv0_0.kept hs.kept).flatq hx38) ?_
     refine oB 2 [(4, .p 0 0)] [3, 0] [(94, (eSpell x37))] ?_
     refine oe (nt (qs ?_))
     obtain ⟨p40, hE41, h42⟩ := bS h39
     refine JC_cut (τ := Unit) (fun _ => [(0, .v (.slice a0_0 x0.length c0_0)), (3, vi s21), (50, vb p40)]) (fun _ => [(94, (eSpell x37))]) (fun _ => []) ?_ (fun _ => ?_)
     · refine JC_quiet (by kernel_rfl) (by kernel_rfl) ?_
       refine qN 4 [(18, vb (decide (x37.From < 0)))] [4, 3, 0] ?_
       refine qS 18 hE41 (fun h44 => ?_) (fun h45 => ?_)
       · refine qN 32 [(50, vb true)] [3, 0] ?_
         refine qz ?_
         obtain rfl := sI h44
         exact mt () [0, 3, 50] [] 1
       refine qN 7 [(25, vb (decide (x37.From ≥ x37.To)))] [4, 3, 0] ?_
       refine qS 25 h45 (fun h47 => ?_) (fun h48 => ?_)
       · refine qN 25 [(50, vb true)] [3, 0] ?_
         refine qz ?_
         obtain rfl := sI h47
         exact mt () [0, 3, 50] [] 1
       refine qN 5 [(30, vb (decide (x37.To > 3600)))] [4, 3, 0] ?_
       refine qS 30 h48 (fun h50 => ?_) (fun h51 => ?_)
       · refine qN 20 [(50, vb true)] [3, 0] ?_
         refine qz ?_
         obtain rfl := sI h50
         exact mt () [0, 3, 50] [] 1
       refine qN 2 [(32, vi x37.Percent)] [30, 4, 3, 0] ?_
       obtain ⟨t52, h53, h54⟩ := bS h51
       refine q0 (fun γ w hs => c_spec_l01In h53) ?_
       refine qN 3 [(36, vb (!t52))] [4, 3, 0] ?_
       refine qS 36 h54 (fun h57 => ?_) (fun h58 => ?_)
       · refine qN 14 [(50, vb true)] [3, 0] ?_
         refine qz ?_
         obtain rfl := sI h57
         exact mt () [0, 3, 50] [] 1
       refine qN 3 [(39, vb (decide (s21 > 0)))] [36, 4, 3, 0] ?_
       refine qS 39 h58 (fun h60 => ?_) (fun h61 => ?_)
       · refine qN 3 [(42, vi (w64 (s21 - 1))), (40, .v (.slice a0_0 x0.length c0_0))] [39, 36, 4, 3, 0] ?_
         obtain ⟨x62, hx63, h64⟩ := bS h60
         refine qi 4 (fun γ w hs => (hv0_0.kept hs.kept)) hx63 ?_
         refine qN 1 [(44, .q a0_0 (Int.toNat (w64 (s21 - 1)) * 4 + 1))] [39, 36, 4, 3, 0] ?_
         refine ql 3 1 (.int .i64 x62.To) (fun γ w hs => (hv0_0.kept hs.kept).flatq hx63) ?_
         refine qN 5 [(50, vb (decide (x62.To > x37.From)))] [3, 0] ?_
         refine qz ?_
         obtain rfl := sI h64
         exact mt () [0, 3, 50] [] 1
       refine qN 11 [(50, vb false)] [3, 0] ?_
       refine qz ?_
       obtain rfl := sI h61
       exact mt () [0, 3, 50] [] 1
     refine nt (cC h42 (fun h66 => ?_) (fun h67 => ?_))
     · refine qs (qr (oN 1 [(2, vb false)] [] ?_))
       refine oe (nt (qe (br (nr (nr ?_)))))
       have h68 := leafR hd30 h66 h26
       refine br (nr (nr ?_))
       obtain rfl := sI h68
       exact re [.bool false]
     refine qk (bn (nt (qr (oN 3 [(3, vi (w64 (s21 + 1)))] [0] ?_))))
     exact oe (ct h67 () [3, 0] [] 0)
   refine qx (nx (nx (bh ?_)))
   have h69 := leafB hd30 h36 h26
   exact mp ((), ()) h69 [0] [] 0
 have h33 := (congrFun hk28 _).symm.trans h33p
 refine nt (qs (qr (oN 4 [(2, vb (decide ((x0.length : Int) ≤ 30)))] [] ?_)))
 refine oe (nt (qe ?_))
 obtain rfl := sI h33
 exact re [.bool (decide ((x0.length : Int) ≤ 30))]

theorem c_spec_MemberOk {W : World} {x0 : Member} {b0 : AC × AC} {r : Bool} (h : spec_MemberOk x0 = some r) (hv0_0 : SlView W x0.Spells b0.1.1 b0.1.2) (hv0_1 : SlView W x0.Events b0.2.1 b0.2.2) :
    Gives0 Try.prog 60 #[vMember x0 b0] W (.bool r) := by
 unfold spec_MemberOk at h
 refine en Try.func60 Try.ntmps60 ?_
 refine qs (qr (oB 2 [(1, .p 0 0)] [] [(36, (eMember x0 b0))] ?_))
 refine oe (nt (qs ?_))
 obtain ⟨p21, hE22, h23⟩ := bS h
 refine JC_cut (τ := Unit) (fun _ => [(2, vb p21)]) (fun _ => [(36, (eMember x0 b0))]) (fun _ => []) ?_ (fun _ => ?_)
 · refine qr (oN 2 [(4, vi x0.Birth)] [1] ?_)
   obtain ⟨t24, h25, h26⟩ := bS hE22
   refine k0 (fun γ w hs => c_spec_MonthOk h25) ?_
   refine oN 1 [(6, vb t24)] [1] ?_
   refine oS 6 h26 (fun h29 => ?_) (fun h30 => ?_)
   · refine oN 2 [(8, vi x0.Joined)] [6, 1] ?_
     obtain ⟨t31, h32, h33⟩ := bS h29
     refine k0 (fun γ w hs => c_spec_MonthOk h32) ?_
     refine oN 2 [(11, vb t31)] [1] ?_
     refine oS 11 h33 (fun h36 => ?_) (fun h37 => ?_)
     · refine oN 7 [(18, vb (decide (x0.Birth ≤ x0.Joined)))] [1] ?_
       refine oS 18 h36 (fun h39 => ?_) (fun h40 => ?_)
       · refine oN 2 [(20, .v (.slice b0.1.1 x0.Spells.length b0.1.2))] [18, 1] ?_
         obtain ⟨t41, h42, h43⟩ := bS h39
         refine k0 (fun γ w hs => c_spec_SpellsOk h42 (hv0_0.kept hs.kept)) ?_
         refine oN 2 [(23, vb t41)] [1] ?_
         refine oS 23 h43 (fun h46 => ?_) (fun h47 => ?_)
         · refine oN 2 [(25, .v (.slice b0.2.1 x0.Events.length b0.2.2))] [23] ?_
           obtain ⟨t48, h49, h50⟩ := bS h46
           refine k0 (fun γ w hs => c_spec_EventsOk h49 (hv0_1.kept hs.kept)) ?_
           refine oN 2 [(2, vb t48)] [] ?_
           refine oe ?_
           obtain rfl := sI h50
           exact mt () [2] [] 1
         refine oN 5 [(2, vb false)] [] ?_
         refine oe ?_
         obtain rfl := sI h47
         exact mt () [2] [] 1
       refine oN 10 [(2, vb false)] [] ?_
       refine oe ?_
       obtain rfl := sI h40
       exact mt () [2] [] 1
     refine oN 17 [(2, vb false)] [] ?_
     refine oe ?_
     obtain rfl := sI h37
     exact mt () [2] [] 1
   refine oN 22 [(2, vb false)] [] ?_
   refine oe ?_
   obtain rfl := sI h30
   exact mt () [2] [] 1
 refine nt (qe ?_)
 obtain rfl := sI h23
 exact re [.bool p21]

theorem c_spec_CaseOk {W : World} {x0 : Case} {b0 : AC × AC × AC × AC × AC} {r : Bool} (h : spec_CaseOk x0 = some r) (hv0_0 : SlView W x0.Book.Rules b0.1.1 b0.1.2) (hv0_1 : SlView W x0.Store.Facts b0.2.1.1 b0.2.1.2) (hv0_2 : SlView W x0.Series.Points b0.2.2.1.1 b0.2.2.1.2) (hv0_3 : SlView W x0.Member.Spells b0.2.2.2.1.1 b0.2.2.2.1.2) (hv0_4 : SlView W x0.Member.Events b0.2.2.2.2.1 b0.2.2.2.2.2) :
    Gives0 Try.prog 25 #[vCase x0 b0] W (.bool r) := by
 unfold spec_CaseOk at h
 refine en Try.func25 Try.ntmps25 ?_
 refine qs (qr (oB 2 [(1, .p 0 0)] [] [(38, (eCase x0 b0))] ?_))
 refine oe (nt (qs ?_))
 obtain ⟨p21, hE22, h23⟩ := bS h
 refine JC_cut (τ := Unit) (fun _ => [(2, vb p21)]) (fun _ => [(38, (eCase x0 b0))]) (fun _ => []) ?_ (fun _ => ?_)
 · refine qr (oN 2 [(4, .v (vBook x0.Book b0.1))] [1] ?_)
   obtain ⟨t24, h25, h26⟩ := bS hE22
   refine k0 (fun γ w hs => c_spec_BookOk h25 (hv0_0.kept hs.kept)) ?_
   refine oN 1 [(6, vb t24)] [1] ?_
   refine oS 6 h26 (fun h29 => ?_) (fun h30 => ?_)
   · refine oN 2 [(8, .v (vStore x0.Store b0.2.1))] [6, 1] ?_
     obtain ⟨t31, h32, h33⟩ := bS h29
     refine k0 (fun γ w hs => c_spec_StoreOk h32 (hv0_1.kept hs.kept)) ?_
     refine oN 2 [(11, vb t31)] [1] ?_
     refine oS 11 h33 (fun h36 => ?_) (fun h37 => ?_)
     · refine oN 2 [(13, .v (vSeries x0.Series b0.2.2.1))] [11, 1] ?_
       obtain ⟨t38, h39, h40⟩ := bS h36
       refine k0 (fun γ w hs => c_spec_SeriesOk h39 (hv0_2.kept hs.kept)) ?_
       refine oN 2 [(16, vb t38)] [1] ?_
       refine oS 16 h40 (fun h43 => ?_) (fun h44 => ?_)
       · refine oN 2 [(18, .v (vMember x0.Member b0.2.2.2))] [16] ?_
         obtain ⟨t45, h46, h47⟩ := bS h43
         refine k0 (fun γ w hs => c_spec_MemberOk (b0 := b0.2.2.2) h46 (hv0_3.kept hs.kept) (hv0_4.kept hs.kept)) ?_
         refine oN 2 [(2, vb t45)] [] ?_
         refine oe ?_
         obtain rfl := sI h47
         exact mt () [2] [] 1
       refine oN 5 [(2, vb false)] [] ?_
       refine oe ?_
       obtain rfl := sI h44
       exact mt () [2] [] 1
     refine oN 10 [(2, vb false)] [] ?_
     refine oe ?_
     obtain rfl := sI h37
     exact mt () [2] [] 1
   refine oN 15 [(2, vb false)] [] ?_
   refine oe ?_
   obtain rfl := sI h30
   exact mt () [2] [] 1
 refine nt (qe ?_)
 obtain rfl := sI h23
 exact re [.bool p21]

theorem c_spec_l10For {W : World} {x0 : Book} {a0_0 : Option Addr} {c0_0 : Nat} {x1 : Int} {x2 : Int} {x3 : Int} {r : Int} (h : spec_l10For x0 x1 x2 x3 = some r) (hv0_0 : SlView W x0.Rules a0_0 c0_0) :
    Gives0 Try.prog 26 #[vBook x0 (a0_0, c0_0), .int .i64 x1, .int .i64 x2, .int .i64 x3] W (.int .i64 r) := by
 unfold spec_l10For at h
 refine en Try.func26 Try.ntmps26 ?_
 refine qs (qr (oB 2 [(4, .p 0 0)] [1, 2, 3] [(26, (eBook x0 (a0_0, c0_0)))] ?_))
 refine oe (nt (qs (qr (oN 1 [(9, vi (-1))] [4, 1, 2, 3] ?_))))
 refine oe (nt (qs (qs (qr (oN 1 [(10, vi 0)] [9, 4, 1, 2, 3] ?_)))))
 refine oe (nt ?_)
 obtain ⟨r24, hL25, h26⟩ := bS h
 obtain ⟨k27, hk28, h26⟩ := brkS h26
 refine JC_cutP (τ := (Int) × (Unit)) (fun y => k27 y.1 = some r) (fun y32 => [(9, vi y32.1)]) (fun y32 => [(26, (eBook x0 (a0_0, c0_0)))]) (fun y32 => []) ?_ (fun y32 h33p => ?_)
 · refine qb (lp Unit hL25 (fun s21 y22 => [(10, vi s21.1), (9, vi s21.2), (4, .p 0 0), (1, vi x1), (2, vi x2), (3, vi x3)]) (fun s21 y22 => [(26, (eBook x0 (a0_0, c0_0)))]) (fun s21 y22 => []) () [10, 9, 4, 1, 2, 3] [] 1 (fun s21 y22 t23 h29 hd30 => ?_))
   refine qs (qs (qr (oN 5 [(16, vb (decide (s21.1 < (x0.Rules.length : Int))))] [10, 9, 4, 1, 2, 3] ?_)))
   refine oe (nt (cC h29 (fun h35 => ?_) (fun h36 => ?_)))
   · refine qk (nt (qs (qb (qs (qr (oN 3 [(21, vi s21.1), (20, .v (.slice a0_0 x0.Rules.length c0_0))] [10, 9, 4, 1, 2, 3] ?_))))))
     obtain ⟨x37, hx38, h39⟩ := bS h35
     refine oi 7 (fun γ w hs => (hv0_0.kept hs.kept)) hx38 ?_
     obtain ⟨_, ⟨a40, c41, rfl, hv42⟩, hc43⟩ := SlView.at hv0_0 (idx_some hx38).2.2
     refine ol 48 0 (vRule x37 (a40, c41)) (fun γ w hs => ⟨(hv0_0.kept hs.kept).ne (idx_some hx38).2.2, hc43.kept hs.kept⟩) ?_
     refine oB 2 [(11, .p 1 0)] [10, 9, 4, 1, 2, 3] [(26, (eBook x0 (a0_0, c0_0))), (48, (eRule x37 (a40, c41)))] ?_
     refine oe (nt (qs ?_))
     obtain ⟨p44, hE45, h46⟩ := bS h39
     refine JC_cut (τ := Unit) (fun _ => [(1, vi x1), (2, vi x2), (3, vi x3), (4, .p 0 0), (9, vi s21.2), (10, vi s21.1), (60, vb p44)]) (fun _ => [(26, (eBook x0 (a0_0, c0_0))), (48, (eRule x37 (a40, c41)))]) (fun _ => []) ?_ (fun _ => ?_)
     · refine JC_quiet (by kernel_rfl) (by kernel_rfl) ?_
       refine qN 5 [(28, vb (x37.Name == x1))] [11, 10, 9, 4, 1, 2, 3] ?_
       refine qS 28 hE45 (fun h48 => ?_) (fun h49 => ?_)
       · refine qN 6 [(34, vb (decide (x37.From ≤ x2)))] [11, 10, 9, 4, 1, 2, 3] ?_
         refine qS 34 h48 (fun h51 => ?_) (fun h52 => ?_)
         · refine qN 6 [(40, vb (decide (x2 < x37.To)))] [11, 10, 9, 4, 1, 2, 3] ?_
           refine qS 40 h51 (fun h54 => ?_) (fun h55 => ?_)
           · refine qN 6 [(46, vb (decide (x3 < x37.Joined)))] [11, 10, 9, 4, 1, 2, 3] ?_
             refine qS 46 h54 (fun h57 => ?_) (fun h58 => ?_)
             · refine qN 3 [(49, vb (decide (s21.2 < 0)))] [46, 11, 10, 9, 4, 1, 2, 3] ?_
               refine qS 49 h57 (fun h60 => ?_) (fun h61 => ?_)
               · refine qN 11 [(60, vb true)] [10, 9, 4, 1, 2, 3] ?_
                 refine qz ?_
                 obtain rfl := sI h60
                 exact mt () [1, 2, 3, 4, 9, 10, 60] [] 2
               refine qN 5 [(54, vi s21.2), (53, .v (.slice a0_0 x0.Rules.length c0_0)), (51, vi x37.Rank)] [49, 46, 10, 9, 4, 1, 2, 3] ?_
               obtain ⟨x62, hx63, h64⟩ := bS h61
               refine qi 7 (fun γ w hs => (hv0_0.kept hs.kept)) hx63 ?_
               refine qN 1 [(56, .q a0_0 (Int.toNat s21.2 * 7 + 4))] [51, 49, 46, 10, 9, 4, 1, 2, 3] ?_
               obtain ⟨_, ⟨a65, c66, rfl, hv67⟩, hc68⟩ := SlView.at hv0_0 (idx_some hx63).2.2
               refine ql 3 4 (.int .i64 x62.Rank) (fun γ w hs => ⟨(hv0_0.kept hs.kept).ne (idx_some hx63).2.2, hc68.kept hs.kept⟩) ?_
               refine qN 3 [(60, vb (decide (x37.Rank > x62.Rank)))] [10, 9, 4, 1, 2, 3] ?_
               refine qz ?_
               obtain rfl := sI h64
               exact mt () [1, 2, 3, 4, 9, 10, 60] [] 2
             refine qN 14 [(60, vb false)] [10, 9, 4, 1, 2, 3] ?_
             refine qz ?_
             obtain rfl := sI h58
             exact mt () [1, 2, 3, 4, 9, 10, 60] [] 2
           refine qN 20 [(60, vb false)] [10, 9, 4, 1, 2, 3] ?_
           refine qz ?_
           obtain rfl := sI h55
           exact mt () [1, 2, 3, 4, 9, 10, 60] [] 2
         refine qN 26 [(60, vb false)] [10, 9, 4, 1, 2, 3] ?_
         refine qz ?_
         obtain rfl := sI h52
         exact mt () [1, 2, 3, 4, 9, 10, 60] [] 2
       refine qN 32 [(60, vb false)] [10, 9, 4, 1, 2, 3] ?_
       refine qz ?_
       obtain rfl := sI h49
       exact mt () [1, 2, 3, 4, 9, 10, 60] [] 2
     refine nt ?_
     obtain ⟨k72, hk73, h75⟩ := jS h46
     refine JC_cutP (τ := (Int) × (Unit)) (fun y => k72 y.1 = some t23) (fun y71 => [(1, vi x1), (2, vi x2), (3, vi x3), (4, .p 0 0), (9, vi y71.1), (10, vi s21.1)]) (fun y71 => [(26, (eBook x0 (a0_0, c0_0))), (48, (eRule x37 (a40, c41)))]) (fun y71 => []) ?_ (fun y71 h74p => ?_)
     · refine cC h75 (fun h77 => ?_) (fun h78 => ?_)
       · refine qr (oN 2 [(9, vi s21.1)] [1, 2, 3, 4, 10] ?_)
         exact oe (mp (s21.1, ()) h77 [1, 2, 3, 4, 9, 10] [] 2)
       exact qk (mp (s21.2, ()) h78 [1, 2, 3, 4, 9, 10] [] 2)
     have h74 := (congrFun hk73 _).symm.trans h74p
     refine bn (nt (qr (oN 3 [(10, vi (w64 (s21.1 + 1)))] [1, 2, 3, 4, 9] ?_)))
     exact oe (ct h74 () [10, 9, 4, 1, 2, 3] [] 1)
   refine qx (nx (nx (bh ?_)))
   have h79 := leafB hd30 h36 h26
   exact mp (s21.2, ()) h79 [9] [] 1
 have h33 := (congrFun hk28 _).symm.trans h33p
 refine nt (qs (qr (oN 2 [(8, vi y32.1)] [] ?_)))
 refine oe (nt (qe ?_))
 obtain rfl := sI h33
 exact re [.int .i64 y32.1]

theorem c_spec_RuleUsed {W : World} {x0 : Case} {b0 : AC × AC × AC × AC × AC} {x1 : Int} {r : Int} (h : spec_RuleUsed x0 x1 = some r) (hv0_0 : SlView W x0.Book.Rules b0.1.1 b0.1.2) (hv0_1 : SlView W x0.Store.Facts b0.2.1.1 b0.2.1.2) (hv0_2 : SlView W x0.Series.Points b0.2.2.1.1 b0.2.2.1.2) (hv0_3 : SlView W x0.Member.Spells b0.2.2.2.1.1 b0.2.2.2.1.2) (hv0_4 : SlView W x0.Member.Events b0.2.2.2.2.1 b0.2.2.2.2.2) :
    Gives0 Try.prog 10 #[vCase x0 b0, .int .i64 x1] W (.int .i64 r) := by
 unfold spec_RuleUsed at h
 refine en Try.func10 Try.ntmps10 ?_
 refine qs (qr (oB 2 [(2, .p 0 0)] [1] [(38, (eCase x0 b0))] ?_))
 refine oe (nt (qs (qs (qr (oN 1 [(5, .v (vCase x0 b0))] [2, 1] ?_)))))
 obtain ⟨t21, h22, h23⟩ := bS h
 refine k0 (fun γ w hs => c_spec_CaseOk (b0 := b0) h22 (hv0_0.kept hs.kept) (hv0_1.kept hs.kept) (hv0_2.kept hs.kept) (hv0_3.kept hs.kept) (hv0_4.kept hs.kept)) ?_
 refine oN 1 [(7, vb (!t21))] [2, 1] ?_
 refine oe (nt (cC h23 (fun h26 => ?_) (fun h27 => ?_)))
 · refine qs (qr (oN 1 [(4, vi (-1))] [] ?_))
   refine oe (nt (qe (nr ?_)))
   obtain rfl := sI h26
   exact re [.int .i64 (-1)]
 refine qk (nt (qs (qr (oN 6 [(13, vi x0.Member.Joined), (10, vi x1), (9, .v (vBook x0.Book b0.1))] [] ?_))))
 obtain ⟨t28, h29, h30⟩ := bS h27
 refine k0 (fun γ w hs => c_spec_l10For h29 (hv0_0.kept hs.kept)) ?_
 refine oN 1 [(4, vi t28)] [] ?_
 refine oe (nt (qe ?_))
 obtain rfl := sI h30
 exact re [.int .i64 t28]

theorem c_spec_VarsOf {W : World} {x0 : List Node} {a0_0 : Option Addr} {c0_0 : Nat} {r : (List Bool)} (h : spec_VarsOf x0 = some r) (hv0_0 : SlView W x0 a0_0 c0_0) :
    Gives Try.prog 11 #[.slice a0_0 x0.length c0_0] W (fun y : AC => .slice y.1 r.length y.2) (fun y => [SlRes 4 r y.1 y.2]) := by
 unfold spec_VarsOf at h
 refine en Try.func11 Try.ntmps11 ?_
 refine qs (qr (oN 1 [] [0] ?_))
 refine oe (nt (qs (qs (qr (oN 1 [(7, .v (.slice a0_0 x0.length c0_0))] [0] ?_)))))
 obtain ⟨t21, h22, h23⟩ := bS h
 refine k0 (fun γ w hs => c_spec_FormulaOk h22 (hv0_0.kept hs.kept)) ?_
 refine oN 1 [(9, vb (!t21))] [0] ?_
 refine oe (nt (cC h23 (fun h28 => ?_) (fun h29 => ?_)))
 · refine qs (qr (ob [] [] 4 0 [] ([] : List Bool) (own_flat (by kernel_rfl)) (fun y30 => ?_)))
   refine oN 1 [(2, .v (.slice y30.1 ([] : List Bool).length y30.2))] [] ?_
   refine oe (nt (qe (nr (rt [.slice y30.1 ([] : List Bool).length y30.2] (fun γ w hs => ?_)))))
   rw [← sI h28]
   exact ⟨y30, rfl, hs.kept.toBelow, (hs.takeR (is := [0]) rfl).fresh⟩
 refine qk (nt (qs (qr ?_)))
 obtain ⟨l33, hm34, h35⟩ := bS h29
 refine JO_make (α := Bool) rfl (by kernel_rfl) (t := 42) (e := 4) (m := 8) (by kernel_rfl) (i := Try.t4) (by kernel_rfl) (z := (.bool false)) (by kernel_rfl) (by kernel_rfl) (by kernel_rfl) (by kernel_rfl) (fun w => ⟨rfl, rfl⟩) hm34 _ (fun _ => rfl) (fun y32 => ?_)
 refine oN 1 [(3, .v (.slice y32.1 l33.length y32.2))] [0] ?_
 refine oe (nt (qs (qr (oN 2 [(13, vi (x0.length : Int))] [3, 0] ?_))))
 obtain ⟨l37, hm38, h39⟩ := bS h35
 refine JO_make (α := Bool) rfl (by kernel_rfl) (t := 42) (e := 4) (m := (x0.length : Int)) (by kernel_rfl) (i := Try.t4) (by kernel_rfl) (z := (.bool false)) (by kernel_rfl) (by kernel_rfl) (by kernel_rfl) (by kernel_rfl) (fun w => ⟨rfl, rfl⟩) hm38 _ (fun _ => rfl) (fun y36 => ?_)
 refine oN 1 [(4, .v (.slice y36.1 l37.length y36.2))] [3, 0] ?_
 refine oe (nt (qs (qr (oN 4 [(18, vi (w64 ((x0.length : Int) - 1))), (15, .v (.slice y36.1 l37.length y36.2))] [4, 3, 0] ?_))))
 obtain ⟨x40, hx41, h42⟩ := bS h39
 refine oi 1 (fun γ w hs => (hs.view 0 rfl)) hx41 ?_
 obtain ⟨l43, hm44, h45⟩ := bS h42
 replace hm44 := (sI hm44).symm
 refine JO_storeq (α := Bool) (d := y36.1) (vs := [.bool true]) (j := (w64 ((x0.length : Int) - 1))) (x' := true) rfl (by kernel_rfl) 0 (by kernel_rfl) hx41 (Rc := []) (Rr := [SlRes 4 l33 y32.1 y32.2]) rfl (by kernel_rfl) (fun w c F Fs ho _ _ => own_flat_set (by kernel_rfl) ho) hm44 rfl ?_
 have hl46 := len_set hm44
 refine JO_keep [18, 15, 4, 3, 0] (sl' := [(18, vi (w64 ((x0.length : Int) - 1))), (15, .v (.slice y36.1 l37.length y36.2)), (4, .v (.slice y36.1 l37.length y36.2)), (3, .v (.slice y32.1 l33.length y32.2)), (0, .v (.slice a0_0 x0.length c0_0))]) (by kernel_rfl) ?_
 refine JO_eqE (sl' := [(18, vi (w64 ((x0.length : Int) - 1))), (15, .v (.slice y36.1 l43.length y36.2)), (4, .v (.slice y36.1 l43.length y36.2)), (3, .v (.slice y32.1 l33.length y32.2)), (0, .v (.slice a0_0 x0.length c0_0))]) (bx' := []) (by simp only [hl46]) rfl ?_
 refine oe (nt (qs (qs (qr (oN 4 [(5, vi (w64 ((x0.length : Int) - 1)))] [4, 3, 0] ?_)))))
 refine oe (nt ?_)
 obtain ⟨r50, hL51, h52⟩ := bS h45
 obtain ⟨k53, hk54, h52⟩ := brkS h52
 refine JC_cutP (τ := ((List Bool)) × (Unit)) (fun y => k53 y.1 = some r) (fun y58 => [(3, .v (.slice y32.1 y58.1.length y32.2))]) (fun y58 => []) (fun y58 => [SlRes 4 y58.1 y32.1 y32.2]) ?_ (fun y58 h59p => ?_)
 · refine qb (lp Unit hL51 (fun s47 y48 => [(5, vi s47.1), (4, .v (.slice y36.1 s47.2.1.length y36.2)), (3, .v (.slice y32.1 s47.2.2.length y32.2)), (0, .v (.slice a0_0 x0.length c0_0))]) (fun s47 y48 => []) (fun s47 y48 => [SlRes 4 s47.2.1 y36.1 y36.2, SlRes 4 s47.2.2 y32.1 y32.2]) () [5, 4, 3, 0] [0, 0] 0 (fun s47 y48 t49 h55 hd56 => ?_))
   refine qs (qs (qr (oN 2 [(24, vb (decide (s47.1 ≥ 0)))] [5, 4, 3, 0] ?_)))
   refine oe (nt (cC h55 (fun h61 => ?_) (fun h62 => ?_)))
   · refine qk (nt (qs (qb (qs (qr (oN 2 [(28, vi s47.1), (27, .v (.slice a0_0 x0.length c0_0))] [5, 4, 3, 0] ?_))))))
     obtain ⟨x63, hx64, h65⟩ := bS h61
     refine oi 6 (fun γ w hs => (hv0_0.kept hs.kept)) hx64 ?_
     refine ol 68 0 (vNode x63) (fun γ w hs => (hv0_0.kept hs.kept).flatq hx64) ?_
     refine oB 2 [(6, .p 0 0)] [5, 4, 3, 0] [(68, (eNode x63))] ?_
     refine oe (nt (qs (qs ?_)))
     obtain ⟨p66, hE67, h68⟩ := bS h65
     refine JC_cut (τ := Unit) (fun _ => [(0, .v (.slice a0_0 x0.length c0_0)), (3, .v (.slice y32.1 s47.2.2.length y32.2)), (4, .v (.slice y36.1 s47.2.1.length y36.2)), (5, vi s47.1), (6, .p 0 0), (40, vb p66)]) (fun _ => [(68, (eNode x63))]) (fun _ => [SlRes 4 s47.2.2 y32.1 y32.2, SlRes 4 s47.2.1 y36.1 y36.2]) ?_ (fun _ => ?_)
     · refine qr (oN 2 [(32, vi s47.1), (31, .v (.slice y36.1 s47.2.1.length y36.2))] [6, 5, 4, 3, 0] ?_)
       obtain ⟨x69, hx70, h71⟩ := bS hE67
       refine oi 1 (fun γ w hs => (hs.view 0 rfl)) hx70 ?_
       refine ol 4 0 (.bool x69) (fun γ w hs => (hs.view 0 rfl).flatq hx70) ?_
       refine oN 2 [(36, vb (!x69))] [6, 5, 4, 3, 0] ?_
       refine oS 36 h71 (fun h73 => ?_) (fun h74 => ?_)
       · refine oN 4 [(40, vb true)] [6, 5, 4, 3, 0] ?_
         refine oe ?_
         obtain rfl := sI h73
         exact mt () [0, 3, 4, 5, 6, 40] [1, 0] 1
       refine oN 4 [(40, vb (x63.Kind == 1))] [6, 5, 4, 3, 0] ?_
       refine oe ?_
       obtain rfl := sI h74
       exact mt () [0, 3, 4, 5, 6, 40] [1, 0] 1
     refine nt (cC h68 (fun h76 => ?_) (fun h77 => ?_))
     · refine qx (nx (bh (nt (qr (oN 3 [(5, vi (w64 (s47.1 - 1)))] [0, 3, 4] ?_)))))
       exact oe (ct h76 () [5, 4, 3, 0] [1, 0] 0)
     refine qk (nt (qs (qs (qr (oN 3 [(43, vb (x63.Kind == 2))] [0, 3, 4, 5, 6] ?_)))))
     refine oe (nt (cC h77 (fun h86 => ?_) (fun h87 => ?_)))
     · refine qs (qr (oN 3 [(46, vi x63.A), (44, .v (.slice y32.1 s47.2.2.length y32.2))] [0, 3, 4, 5] ?_))
       obtain ⟨x88, hx89, h90⟩ := bS h86
       refine oi 1 (fun γ w hs => (hs.view 0 rfl)) hx89 ?_
       obtain ⟨l91, hm92, h93⟩ := bS h90
       replace hm92 := (sI hm92).symm
       refine JO_storeq (α := Bool) (d := y32.1) (vs := [.bool true]) (j := x63.A) (x' := true) rfl (by kernel_rfl) 0 (by kernel_rfl) hx89 (Rc := []) (Rr := [SlRes 4 s47.2.1 y36.1 y36.2]) rfl (by kernel_rfl) (fun w c F Fs ho _ _ => own_flat_set (by kernel_rfl) ho) hm92 rfl ?_
       have hl94 := len_set hm92
       refine JO_keep [46, 44, 0, 3, 4, 5] (sl' := [(46, vi x63.A), (44, .v (.slice y32.1 s47.2.2.length y32.2)), (0, .v (.slice a0_0 x0.length c0_0)), (3, .v (.slice y32.1 s47.2.2.length y32.2)), (4, .v (.slice y36.1 s47.2.1.length y36.2)), (5, vi s47.1)]) (by kernel_rfl) ?_
       refine JO_eqE (sl' := [(46, vi x63.A), (44, .v (.slice y32.1 l91.length y32.2)), (0, .v (.slice a0_0 x0.length c0_0)), (3, .v (.slice y32.1 l91.length y32.2)), (4, .v (.slice y36.1 s47.2.1.length y36.2)), (5, vi s47.1)]) (bx' := [(68, (eNode x63))]) (by simp only [hl94]) rfl ?_
       refine oe (nt (qx (nx (bh (nt (qr (oN 3 [(5, vi (w64 (s47.1 - 1)))] [0, 3, 4] ?_)))))))
       exact oe (ct h93 () [5, 4, 3, 0] [1, 0] 0)
     refine qk (nt (qs (qr (oN 3 [(50, vi x63.A), (48, .v (.slice y36.1 s47.2.1.length y36.2))] [0, 3, 4, 5, 6] ?_))))
     obtain ⟨x95, hx96, h97⟩ := bS h87
     refine oi 1 (fun γ w hs => (hs.view 1 rfl)) hx96 ?_
     refine or_ [1, 0] ?_
     obtain ⟨l98, hm99, h100⟩ := bS h97
     replace hm99 := (sI hm99).symm
     refine JO_storeq (α := Bool) (d := y36.1) (vs := [.bool true]) (j := x63.A) (x' := true) rfl (by kernel_rfl) 0 (by kernel_rfl) hx96 (Rc := []) (Rr := [SlRes 4 s47.2.2 y32.1 y32.2]) rfl (by kernel_rfl) (fun w c F Fs ho _ _ => own_flat_set (by kernel_rfl) ho) hm99 rfl ?_
     have hl101 := len_set hm99
     refine JO_keep [50, 48, 0, 3, 4, 5, 6] (sl' := [(50, vi x63.A), (48, .v (.slice y36.1 s47.2.1.length y36.2)), (0, .v (.slice a0_0 x0.length c0_0)), (3, .v (.slice y32.1 s47.2.2.length y32.2)), (4, .v (.slice y36.1 s47.2.1.length y36.2)), (5, vi s47.1), (6, .p 0 0)]) (by kernel_rfl) ?_
     refine JO_eqE (sl' := [(50, vi x63.A), (48, .v (.slice y36.1 l98.length y36.2)), (0, .v (.slice a0_0 x0.length c0_0)), (3, .v (.slice y32.1 s47.2.2.length y32.2)), (4, .v (.slice y36.1 l98.length y36.2)), (5, vi s47.1), (6, .p 0 0)]) (bx' := [(68, (eNode x63))]) (by simp only [hl101]) rfl ?_
     refine oe (nt (qs (qr (oN 3 [(54, vi x63.B), (52, .v (.slice y36.1 l98.length y36.2))] [0, 3, 4, 5, 6] ?_))))
     obtain ⟨x102, hx103, h104⟩ := bS h100
     refine oi 1 (fun γ w hs => (hs.view 0 rfl)) hx103 ?_
     obtain ⟨l105, hm106, h107⟩ := bS h104
     replace hm106 := (sI hm106).symm
     refine JO_storeq (α := Bool) (d := y36.1) (vs := [.bool true]) (j := x63.B) (x' := true) rfl (by kernel_rfl) 0 (by kernel_rfl) hx103 (Rc := []) (Rr := [SlRes 4 s47.2.2 y32.1 y32.2]) rfl (by kernel_rfl) (fun w c F Fs ho _ _ => own_flat_set (by kernel_rfl) ho) hm106 rfl ?_
     have hl108 := len_set hm106
     refine JO_keep [54, 52, 0, 3, 4, 5, 6] (sl' := [(54, vi x63.B), (52, .v (.slice y36.1 l98.length y36.2)), (0, .v (.slice a0_0 x0.length c0_0)), (3, .v (.slice y32.1 s47.2.2.length y32.2)), (4, .v (.slice y36.1 l98.length y36.2)), (5, vi s47.1), (6, .p 0 0)]) (by kernel_rfl) ?_
     refine JO_eqE (sl' := [(54, vi x63.B), (52, .v (.slice y36.1 l105.length y36.2)), (0, .v (.slice a0_0 x0.length c0_0)), (3, .v (.slice y32.1 s47.2.2.length y32.2)), (4, .v (.slice y36.1 l105.length y36.2)), (5, vi s47.1), (6, .p 0 0)]) (bx' := [(68, (eNode x63))]) (by simp only [hl108]) rfl ?_
     refine oe (nt (qs (qr (oN 3 [(58, vb (x63.Kind == 9))] [0, 3, 4, 5, 6] ?_))))
     refine oe (nt ?_)
     obtain ⟨k119, hk120, h122⟩ := jS h107
     refine JC_cutP (τ := ((List Bool)) × (Unit)) (fun y => k119 y.1 = some t49) (fun y118 => [(0, .v (.slice a0_0 x0.length c0_0)), (3, .v (.slice y32.1 s47.2.2.length y32.2)), (4, .v (.slice y36.1 y118.1.length y36.2)), (5, vi s47.1)]) (fun y118 => [(68, (eNode x63))]) (fun y118 => [SlRes 4 s47.2.2 y32.1 y32.2, SlRes 4 y118.1 y36.1 y36.2]) ?_ (fun y118 h121p => ?_)
     · refine cC h122 (fun h124 => ?_) (fun h125 => ?_)
       · refine qr (oN 3 [(61, vi x63.C), (59, .v (.slice y36.1 l105.length y36.2))] [0, 3, 4, 5] ?_)
         obtain ⟨x126, hx127, h128⟩ := bS h124
         refine oi 1 (fun γ w hs => (hs.view 0 rfl)) hx127 ?_
         obtain ⟨l129, hm130, h131⟩ := bS h128
         replace hm130 := (sI hm130).symm
         refine JO_storeq (α := Bool) (d := y36.1) (vs := [.bool true]) (j := x63.C) (x' := true) rfl (by kernel_rfl) 0 (by kernel_rfl) hx127 (Rc := []) (Rr := [SlRes 4 s47.2.2 y32.1 y32.2]) rfl (by kernel_rfl) (fun w c F Fs ho _ _ => own_flat_set (by kernel_rfl) ho) hm130 rfl ?_
         have hl132 := len_set hm130
         refine JO_keep [61, 59, 0, 3, 4, 5] (sl' := [(61, vi x63.C), (59, .v (.slice y36.1 l105.length y36.2)), (0, .v (.slice a0_0 x0.length c0_0)), (3, .v (.slice y32.1 s47.2.2.length y32.2)), (4, .v (.slice y36.1 l105.length y36.2)), (5, vi s47.1)]) (by kernel_rfl) ?_
         refine JO_eqE (sl' := [(61, vi x63.C), (59, .v (.slice y36.1 l129.length y36.2)), (0, .v (.slice a0_0 x0.length c0_0)), (3, .v (.slice y32.1 s47.2.2.length y32.2)), (4, .v (.slice y36.1 l129.length y36.2)), (5, vi s47.1)]) (bx' := [(68, (eNode x63))]) (by simp only [hl132]) rfl ?_
         exact oe (mp (l129, ()) h131 [0, 3, 4, 5] [1, 0] 1)
       exact qk (mp (l105, ()) h125 [0, 3, 4, 5] [1, 0] 1)
     have h121 := (congrFun hk120 _).symm.trans h121p
     refine bn (nt (qr (oN 3 [(5, vi (w64 (s47.1 - 1)))] [0, 3, 4] ?_)))
     exact oe (ct h121 () [5, 4, 3, 0] [1, 0] 0)
   refine qx (nx (nx (bh ?_)))
   have h133 := leafB hd56 h62 h52
   exact mp (s47.2.2, ()) h133 [3] [1] 0
 have h59 := (congrFun hk54 _).symm.trans h59p
 refine nt (qs (qr (oN 2 [(2, .v (.slice y32.1 y58.1.length y32.2))] [] ?_)))
 refine oe (nt (qe (rt [.slice y32.1 y58.1.length y32.2] (fun γ w hs => ?_))))
 rw [← sI h59]
 exact ⟨y32, rfl, hs.kept.toBelow, (hs.takeR (is := [0]) rfl).fresh⟩

theorem c_laws_FnRuleInputs {W : World} {x0 : List U8} {a0_0 : Option Addr} {c0_0 : Nat} {r : Bool} (h : laws_FnRuleInputs x0 = some r) (hv0_0 : SlView W x0 a0_0 c0_0) :
    Gives0 Try.prog 3 #[.slice a0_0 x0.length c0_0] W (.bool r) := by
 unfold laws_FnRuleInputs at h
 refine en Try.func3 Try.ntmps3 ?_
 refine qs (qr (oN 1 [] [0] ?_))
 refine oe (nt (qs (qs (qr (oN 1 [(10, .v (.slice a0_0 x0.length c0_0))] [0] ?_)))))
 obtain ⟨t21, h22, h23⟩ := bS h
 refine k0 (fun γ w hs => c_laws_big h22 (hv0_0.kept hs.kept)) ?_
 refine oe (nt (cC h23 (fun h26 => ?_) (fun h27 => ?_)))
 · refine qs (qr (oN 1 [(2, vb true)] [] ?_))
   refine oe (nt (qe (nr ?_)))
   obtain rfl := sI h26
   exact re [.bool true]
 refine qk (nt (qs (qr (oN 1 [(12, .v (.slice a0_0 x0.length c0_0))] [0] ?_))))
 obtain ⟨t28, h29, h30⟩ := bS h27
 refine k1 (fun γ w hs => c_spec_DrawCase h29 (hv0_0.kept hs.kept)) (fun y31 => ?_)
 refine oB 2 [(3, .p 0 0)] [0] [(38, (eCase t28 y31))] ?_
 refine oe (nt (qs (qr (oN 1 [(14, .v (.slice a0_0 x0.length c0_0))] [3] ?_))))
 obtain ⟨t32, h33, h34⟩ := bS h30
 refine k1 (fun γ w hs => c_spec_DrawPlaces h33 (hv0_0.kept hs.kept)) (fun y35 => ?_)
 refine oN 1 [(4, .v (.slice y35.1 t32.length y35.2))] [3] ?_
 refine oe (nt (qs (qr (oN 1 [(16, .v (.slice y35.1 t32.length y35.2))] [3] ?_))))
 obtain ⟨x36, hx37, h38⟩ := bS h34
 refine oi 1 (fun γ w hs => (hs.view 0 rfl)) hx37 ?_
 refine ol 3 0 (.int .i64 x36) (fun γ w hs => (hs.view 0 rfl).flatq hx37) ?_
 refine oN 2 [(5, vi (Int.tmod x36 100))] [3] ?_
 refine oe (nt (qs (qr (oN 2 [(21, vi (Int.tmod x36 100)), (20, .v (vCase t28 y31))] [5, 3] ?_))))
 obtain ⟨t39, h40, h41⟩ := bS h38
 refine k1 (fun γ w hs => c_impl_RuleInputs (b0 := y31) h40 (hs.view 1 rfl) (hs.view 2 rfl) (hs.view 3 rfl) (hs.view 4 rfl) (hs.view 5 rfl)) (fun y42 => ?_)
 refine oN 1 [(6, .v (.slice y42.1 t39.length y42.2))] [5, 3] ?_
 refine oe (nt (qs (qr (oN 2 [(24, vi (Int.tmod x36 100)), (23, .v (vCase t28 y31))] [6, 3] ?_))))
 obtain ⟨t43, h44, h45⟩ := bS h41
 refine k0 (fun γ w hs => c_spec_RuleUsed (b0 := y31) h44 (hs.view 2 rfl) (hs.view 3 rfl) (hs.view 4 rfl) (hs.view 5 rfl) (hs.view 6 rfl)) ?_
 refine oN 1 [(7, vi t43)] [6, 3] ?_
 refine oe (nt (qs (qs (qr (oN 2 [(27, vb (decide (t43 < 0)))] [7, 6, 3] ?_)))))
 refine oe (nt (cC h45 (fun h48 => ?_) (fun h49 => ?_)))
 · refine qs (qr (oN 4 [(2, vb ((t39.length : Int) == 0))] [] ?_))
   refine oe (nt (qe (nr ?_)))
   obtain rfl := sI h48
   exact re [.bool ((t39.length : Int) == 0)]
 refine qk (nt (qs (qr (oN 4 [(34, vi t43), (33, .v (.slice y31.1.1 t28.Book.Rules.length y31.1.2))] [6] ?_))))
 obtain ⟨x50, hx51, h52⟩ := bS h49
 refine oi 7 (fun γ w hs => (hs.view 2 rfl)) hx51 ?_
 refine oN 1 [(36, .q y31.1.1 (Int.toNat t43 * 7 + 6))] [6] ?_
 refine JO_res (R' := [SlRes 48 t28.Book.Rules y31.1.1 y31.1.2, SlRes 4 t39 y42.1 y42.2, SlRes 3 t32 y35.1 y35.2, SlRes 79 t28.Store.Facts y31.2.1.1 y31.2.1.2, SlRes 75 t28.Series.Points y31.2.2.1.1 y31.2.2.1.2, SlRes 94 t28.Member.Spells y31.2.2.2.1.1 y31.2.2.2.1.2, SlRes 97 t28.Member.Events y31.2.2.2.2.1 y31.2.2.2.2.2]) [2, 0, 0, 0, 0, 0, 0] (by kernel_rfl) ?_
 refine JO_open1 (Rr := [SlRes 4 t39 y42.1 y42.2, SlRes 3 t32 y35.1 y35.2, SlRes 79 t28.Store.Facts y31.2.1.1 y31.2.1.2, SlRes 75 t28.Series.Points y31.2.2.1.1 y31.2.2.1.2, SlRes 94 t28.Member.Spells y31.2.2.2.1.1 y31.2.2.2.1.2, SlRes 97 t28.Member.Events y31.2.2.2.2.1 y31.2.2.2.2.2]) rfl hx51 (fun a54 c55 => [.int .i64 x50.Name, .int .i64 x50.From, .int .i64 x50.To, .int .i64 x50.Joined, .int .i64 x50.Rank, .int .i64 x50.Mode, .slice a54 x50.Nodes.length c55]) x50.Nodes (by rintro w F c ⟨e0, a0, c0, F0, rfl, rfl, h0⟩; exact ⟨e0, a0, c0, rfl, h0⟩) (fun e53 a54 c55 => ?_)
 refine ol 46 6 (.slice a54 x50.Nodes.length c55) (fun γ w hs => hs.holeCells 0 rfl hx51 rfl) ?_
 obtain ⟨t56, h57, h58⟩ := bS h52
 refine k1 (fun γ w hs => c_spec_VarsOf h57 (hs.view 1 rfl)) (fun y59 => ?_)
 refine oN 1 [(8, .v (.slice y59.1 t56.length y59.2))] [6] ?_
 refine oe (nt (qs (qs (qr (oN 3 [(41, vb ((t39.length : Int) != 8))] [8, 6] ?_)))))
 refine oe (nt (cC h58 (fun h61 => ?_) (fun h62 => ?_)))
 · refine qs (qr (oN 1 [(2, vb false)] [] ?_))
   refine oe (nt (qe (nr ?_)))
   obtain rfl := sI h61
   exact re [.bool false]
 refine qk (nt (qs (qs (qr (oN 1 [(9, vi 0)] [8, 6] ?_)))))
 refine oe (nt ?_)
 obtain ⟨r66, hL67, h68⟩ := bS h62
 obtain ⟨k69, hk70, h68⟩ := brkS h68
 refine JC_cutP (τ := (Int × Int) × (Unit)) (fun y => k69 y.1 = some r) (fun y74 => []) (fun y74 => [(38, (eCase (Case.mk t28.Book t28.Store t28.Series (Member.mk y74.1.1 y74.1.2 t28.Member.Spells t28.Member.Events)) y31))]) (fun y74 => [SlRes 79 t28.Store.Facts y31.2.1.1 y31.2.1.2, SlRes 75 t28.Series.Points y31.2.2.1.1 y31.2.2.1.2, SlRes 94 t28.Member.Spells y31.2.2.2.1.1 y31.2.2.2.1.2, SlRes 97 t28.Member.Events y31.2.2.2.2.1 y31.2.2.2.2.2]) ?_ (fun y74 h75p => ?_)
 · refine qb (lp Unit hL67 (fun s63 y64 => [(9, vi s63), (8, .v (.slice y59.1 t56.length y59.2)), (6, .v (.slice y42.1 t39.length y42.2))]) (fun s63 y64 => [(38, (eCase t28 y31))]) (fun s63 y64 => [SlRes 4 t56 y59.1 y59.2, SlRes 4 t39 y42.1 y42.2, SlRes 79 t28.Store.Facts y31.2.1.1 y31.2.1.2, SlRes 75 t28.Series.Points y31.2.2.1.1 y31.2.2.1.2, SlRes 94 t28.Member.Spells y31.2.2.2.1.1 y31.2.2.2.1.2, SlRes 97 t28.Member.Events y31.2.2.2.2.1 y31.2.2.2.2.2]) () [9, 8, 6] [0, 2, 3, 3, 3, 3] 1 (fun s63 y64 t65 h71 hd72 => ?_))
   refine qs (qs (qr (oN 2 [(43, vb (decide (s63 < 8)))] [9, 8, 6] ?_)))
   refine oe (nt (cC h71 (fun h77 => ?_) (fun h78 => ?_)))
   · refine qk (nt (qs (qb (qs ?_))))
     obtain ⟨p79, hE80, h81⟩ := bS h77
     refine JC_cut (τ := Unit) (fun _ => [(6, .v (.slice y42.1 t39.length y42.2)), (8, .v (.slice y59.1 t56.length y59.2)), (9, vi s63), (56, vb p79)]) (fun _ => [(38, (eCase t28 y31))]) (fun _ => [SlRes 4 t39 y42.1 y42.2, SlRes 4 t56 y59.1 y59.2, SlRes 79 t28.Store.Facts y31.2.1.1 y31.2.1.2, SlRes 75 t28.Series.Points y31.2.2.1.1 y31.2.2.1.2, SlRes 94 t28.Member.Spells y31.2.2.2.1.1 y31.2.2.2.1.2, SlRes 97 t28.Member.Events y31.2.2.2.2.1 y31.2.2.2.2.2]) ?_ (fun _ => ?_)
     · refine qr (oN 2 [(47, vi s63), (46, .v (.slice y59.1 t56.length y59.2))] [9, 8, 6] ?_)
       obtain ⟨x82, hx83, h84⟩ := bS hE80
       refine oi 1 (fun γ w hs => (hs.view 0 rfl)) hx83 ?_
       refine ol 4 0 (.bool x82) (fun γ w hs => (hs.view 0 rfl).flatq hx83) ?_
       refine oN 1 [(50, vb x82)] [9, 8, 6] ?_
       refine oS 50 h84 (fun h86 => ?_) (fun h87 => ?_)
       · refine oN 2 [(52, vi s63), (51, .v (.slice y42.1 t39.length y42.2))] [50, 9, 8, 6] ?_
         obtain ⟨x88, hx89, h90⟩ := bS h86
         refine oi 1 (fun γ w hs => (hs.view 1 rfl)) hx89 ?_
         refine ol 4 0 (.bool x88) (fun γ w hs => (hs.view 1 rfl).flatq hx89) ?_
         refine oN 2 [(56, vb (!x88))] [9, 8, 6] ?_
         refine oe ?_
         obtain rfl := sI h90
         exact mt () [6, 8, 9, 56] [1, 0, 0, 0, 0, 0] 1
       refine oN 6 [(56, vb false)] [9, 8, 6] ?_
       refine oe ?_
       obtain rfl := sI h87
       exact mt () [6, 8, 9, 56] [1, 0, 0, 0, 0, 0] 1
     refine nt (cC h81 (fun h92 => ?_) (fun h93 => ?_))
     · refine qs (qr (oN 1 [(2, vb false)] [] ?_))
       refine oe (nt (qe (br (nr (nr ?_)))))
       have h94 := leafR hd72 h92 h68
       refine br (nr (nr ?_))
       obtain rfl := sI h94
       exact re [.bool false]
     refine qk (bn (nt (qr (oN 3 [(9, vi (w64 (s63 + 1)))] [6, 8] ?_))))
     exact oe (ct h93 () [9, 8, 6] [1, 0, 0, 0, 0, 0] 1)
   refine qx (nx (nx (bh ?_)))
   have h95 := leafB hd72 h78 h68
   exact mp ((t28.Member.Birth, t28.Member.Joined), ()) h95 [] [2, 2, 2, 2] 1
 have h75 := (congrFun hk70 _).symm.trans h75p
 refine nt (qs (qr (oN 1 [(2, vb true)] [] ?_)))
 refine oe (nt (qe ?_))
 obtain rfl := sI h75
 exact re [.bool true]
end Go.Pen
