/-
  Each Go function does what its plain function says: written by a program of ours.
-/
import Derived.Test.YthjaemfkjlnfaaaGreatW1
import Derived.Test.YthjaemfkjlnfaaaGreatProg
import Derived.Test.YthjaemfkjlnfaaaGreatPenK
import Derived.Test.YthjaemfkjlnfaaaGreatPenQ
import Derived.Test.YthjaemfkjlnfaaaGreatPenU
namespace Go.Pen
open Go.Proofs Go.RowKit
set_option linter.unusedVariables false
set_option linter.unusedSimpArgs false
set_option maxRecDepth 100000
set_option maxHeartbeats 4000000
theorem c_spec_Publish {W : World} {x0 : Series} {a0_0 : Option Addr} {c0_0 : Nat} {x1 : Point} {r : Series × Bool} (h : spec_Publish x0 x1 = some r) (hv0_0 : SlView W x0.Points a0_0 c0_0) :
  Gives Tryz.prog 86 #[vSeries x0 (a0_0,c0_0),vPoint x1] W (fun y : AC=>.tuple #[vSeries r.1 y,.bool r.2]) (fun y=>[SlRes 85 r.1.Points y.1 y.2]):=by
 unfold spec_Publish at h
 refine en Tryz.func86 Tryz.ntmps86 ?_
 refine qs (qr (oB 4 [(4,.p 2 0),(3,.p 1 0),(2,.p 0 0)] [] [(48,(eSeries x0 (a0_0,c0_0))),(85,(ePoint x1)),(48,[.slice none 0 0])] ?_))
 refine oe (nt (qs (qr (ob [] [] 85 0 [] ([] : List Point) (own_flat (by kernel_rfl)) (fun ay=>?_)))))
 refine oN 2 [(10,vs a0_0 x0.Points c0_0)] [8,4,3,2] ?_
 obtain ⟨a6,af,ag⟩:=bS h
 refine oa 46 c0_0 Tryz.t85 (vPoint (Point.mk 0 0 0)) (fun γ w hs=>⟨c0_0,(hv0_0.k hs)⟩) af (fun a4=>?_)
 refine oB 3 [(6,.p 3 0)] [4,3,2] [(48,(eSeries x0 (a0_0,c0_0))),(85,(ePoint x1)),(48,[.slice none 0 0]),(48,(eSeries (Series.mk a6) a4))] ?_
 refine oe (nt (qs ?_))
 obtain ⟨ae,ac,ah⟩:=bS ag
 obtain ⟨a5,a9,ai⟩:=bS ah
 refine JC_cut (τ:=AC) (fun aa=>[(7,.p 4 0),(6,.p 3 0),(4,.p 2 0),(2,.p 0 0)]) (fun aa=>[(48,(eSeries x0 (a0_0,c0_0))),(85,(ePoint x1)),(48,[.slice none 0 0]),(48,(eSeries (Series.mk a6) a4)),(48,(eSeries (Series.mk a5) aa))]) (fun aa=>[SlRes 85 a5 aa.1 aa.2,SlRes 85 a6 a4.1 a4.2]) ?_ (fun aa=>?_)
 ·refine jw [6,4,3,2] [0] ?_
  refine JC_heldN (ks:=[0,1,2,3]) (Rk:=[SlRes 85 a6 a4.1 a4.2]) 10 (by kernel_rfl) (by kernel_rfl) ?_
  refine htq 1 (.p 0 0) [0] ?_
  refine htq 2 (vs a0_0 x0.Points c0_0) [0] ?_
  refine hk [15,6,4,3,2] ?_
  refine htq 4 (.v (vPoint x1)) [0] ?_
  refine hk [17,15,6,4,2] ?_
  refine ha3 0 5 8 ?_ ?_ ?_
  ·refine hi (fun γ0 δ hm=>?_)
   refine gb [] [SlRes 85 a6 a4.1 a4.2] 85 0 [] ([] : List Point) (own_flat (by kernel_rfl)) (fun ab=>?_)
   refine gn hm [13,17,15,6,4,2] [1] ?_
   refine ha3 3 5 8 ?_ ?_ ?_
   ·refine hi (fun γ0 δ hm=>?_)
    refine ga 46 c0_0 Tryz.t85 (vPoint (Point.mk 0 0 0)) (fun w hs=>⟨c0_0,(hv0_0.k hs)⟩) ac (fun a8=>?_)
    refine gn hm [16,17,6,4,2] [1] ?_
    refine ha2 5 8 ?_ ?_
    ·refine hi (fun γ0 δ hm=>?_)
     refine gb [] [SlRes 85 ae a8.1 a8.2,SlRes 85 a6 a4.1 a4.2] 85 1 [.int .i64 x1.Month,.int .i64 x1.Known,.int .i64 x1.Value] ([x1] : List Point) (own_flat (by kernel_rfl)) (fun a7=>?_)
     refine gn hm [18,16,6,4,2] [2] ?_
     refine ha2 6 8 ?_ ?_
     ·refine hr_ [1,0,0] ?_
      refine hi (fun γ0 δ hm=>?_)
      refine ga 46 a7.2 Tryz.t85 (vPoint (Point.mk 0 0 0)) (fun w hs=>⟨a7.2,(hs.view 1 rfl)⟩) a9 (fun a3=>?_)
      refine gn hm [19,6,4,2] [2] ?_
      refine htq 7 (.v (vSeries (Series.mk a5) a3)) [2] ?_
      refine hk [20,6,4,2] ?_
      refine ha1 8 ?_
      refine hi (fun γ0 δ hm=>?_)
      refine gs [(7,.p 4 0),(20,.v (vSeries (Series.mk a5) a3)),(6,.p 3 0),(4,.p 2 0),(2,.p 0 0)] [(48,(eSeries x0 (a0_0,c0_0))),(85,(ePoint x1)),(48,[.slice none 0 0]),(48,(eSeries (Series.mk a6) a4)),(48,[.slice none 0 0])] (fun δ2=>?_)
      refine gd hm [7,20,6,4,2] [2] ?_
      refine ha1 9 ?_
      refine hi (fun γ0 δ hm=>?_)
      refine gs [(7,.p 4 0),(20,.v (vSeries (Series.mk a5) a3)),(6,.p 3 0),(4,.p 2 0),(2,.p 0 0)] [(48,(eSeries x0 (a0_0,c0_0))),(85,(ePoint x1)),(48,[.slice none 0 0]),(48,(eSeries (Series.mk a6) a4)),(48,(eSeries (Series.mk a5) a3))] (fun δ2=>?_)
      refine gd hm [7,6,4,2] [2] ?_
      exact hd a3 [7,6,4,2] [0,1] 5
     ·refine hi (fun γ0 δ hm=>?_)
      refine gs [(7,.p 4 0),(18,sv a7 ([x1] : List Point)),(16,sv a8 ae),(6,.p 3 0),(4,.p 2 0),(2,.p 0 0)] [(48,(eSeries x0 (a0_0,c0_0))),(85,(ePoint x1)),(48,[.slice none 0 0]),(48,(eSeries (Series.mk a6) a4)),(48,[.slice none 0 0])] (fun δ2=>?_)
      refine gd hm [7,18,16,6,4,2] [2] ?_
      refine ha1 6 ?_
      refine hr_ [1,0,0] ?_
      refine hi (fun γ0 δ hm=>?_)
      refine ga 46 a7.2 Tryz.t85 (vPoint (Point.mk 0 0 0)) (fun w hs=>⟨a7.2,(hs.view 1 rfl)⟩) a9 (fun a3=>?_)
      refine gn hm [19,7,6,4,2] [2] ?_
      refine htq 7 (.v (vSeries (Series.mk a5) a3)) [2] ?_
      refine hk [20,7,6,4,2] ?_
      refine ha1 9 ?_
      refine hi (fun γ0 δ hm=>?_)
      refine gs [(20,.v (vSeries (Series.mk a5) a3)),(7,.p 4 0),(6,.p 3 0),(4,.p 2 0),(2,.p 0 0)] [(48,(eSeries x0 (a0_0,c0_0))),(85,(ePoint x1)),(48,[.slice none 0 0]),(48,(eSeries (Series.mk a6) a4)),(48,(eSeries (Series.mk a5) a3))] (fun δ2=>?_)
      refine gd hm [7,6,4,2] [2] ?_
      exact hd a3 [7,6,4,2] [0,1] 5
    ·refine hi (fun γ0 δ hm=>?_)
     refine gs [(7,.p 4 0),(16,sv a8 ae),(17,.v (vPoint x1)),(6,.p 3 0),(4,.p 2 0),(2,.p 0 0)] [(48,(eSeries x0 (a0_0,c0_0))),(85,(ePoint x1)),(48,[.slice none 0 0]),(48,(eSeries (Series.mk a6) a4)),(48,[.slice none 0 0])] (fun δ2=>?_)
     refine gd hm [7,16,17,6,4,2] [1] ?_
     refine ha1 5 ?_
     refine hi (fun γ0 δ hm=>?_)
     refine gb [] [SlRes 85 ae a8.1 a8.2,SlRes 85 a6 a4.1 a4.2] 85 1 [.int .i64 x1.Month,.int .i64 x1.Known,.int .i64 x1.Value] ([x1] : List Point) (own_flat (by kernel_rfl)) (fun a7=>?_)
     refine gn hm [18,7,16,6,4,2] [2] ?_
     refine ha1 6 ?_
     refine hr_ [1,0,0] ?_
     refine hi (fun γ0 δ hm=>?_)
     refine ga 46 a7.2 Tryz.t85 (vPoint (Point.mk 0 0 0)) (fun w hs=>⟨a7.2,(hs.view 1 rfl)⟩) a9 (fun a3=>?_)
     refine gn hm [19,7,6,4,2] [2] ?_
     refine htq 7 (.v (vSeries (Series.mk a5) a3)) [2] ?_
     refine hk [20,7,6,4,2] ?_
     refine ha1 9 ?_
     refine hi (fun γ0 δ hm=>?_)
     refine gs [(20,.v (vSeries (Series.mk a5) a3)),(7,.p 4 0),(6,.p 3 0),(4,.p 2 0),(2,.p 0 0)] [(48,(eSeries x0 (a0_0,c0_0))),(85,(ePoint x1)),(48,[.slice none 0 0]),(48,(eSeries (Series.mk a6) a4)),(48,(eSeries (Series.mk a5) a3))] (fun δ2=>?_)
     refine gd hm [7,6,4,2] [2] ?_
     exact hd a3 [7,6,4,2] [0,1] 5
   ·refine hi (fun γ0 δ hm=>?_)
    refine gb [] [SlRes 85 ([] : List Point) ab.1 ab.2,SlRes 85 a6 a4.1 a4.2] 85 1 [.int .i64 x1.Month,.int .i64 x1.Known,.int .i64 x1.Value] ([x1] : List Point) (own_flat (by kernel_rfl)) (fun a7=>?_)
    refine gn hm [18,13,15,6,4,2] [2] ?_
    refine ha2 3 8 ?_ ?_
    ·refine hr_ [1,0,0] ?_
     refine hi (fun γ0 δ hm=>?_)
     refine ga 46 c0_0 Tryz.t85 (vPoint (Point.mk 0 0 0)) (fun w hs=>⟨c0_0,(hv0_0.k hs)⟩) ac (fun a8=>?_)
     refine gn hm [16,18,6,4,2] [2] ?_
     refine ha2 6 8 ?_ ?_
     ·refine hi (fun γ0 δ hm=>?_)
      refine ga 46 a7.2 Tryz.t85 (vPoint (Point.mk 0 0 0)) (fun w hs=>⟨a7.2,(hs.view 1 rfl)⟩) a9 (fun a3=>?_)
      refine gn hm [19,6,4,2] [2] ?_
      refine htq 7 (.v (vSeries (Series.mk a5) a3)) [2] ?_
      refine hk [20,6,4,2] ?_
      refine ha1 8 ?_
      refine hi (fun γ0 δ hm=>?_)
      refine gs [(7,.p 4 0),(20,.v (vSeries (Series.mk a5) a3)),(6,.p 3 0),(4,.p 2 0),(2,.p 0 0)] [(48,(eSeries x0 (a0_0,c0_0))),(85,(ePoint x1)),(48,[.slice none 0 0]),(48,(eSeries (Series.mk a6) a4)),(48,[.slice none 0 0])] (fun δ2=>?_)
      refine gd hm [7,20,6,4,2] [2] ?_
      refine ha1 9 ?_
      refine hi (fun γ0 δ hm=>?_)
      refine gs [(7,.p 4 0),(20,.v (vSeries (Series.mk a5) a3)),(6,.p 3 0),(4,.p 2 0),(2,.p 0 0)] [(48,(eSeries x0 (a0_0,c0_0))),(85,(ePoint x1)),(48,[.slice none 0 0]),(48,(eSeries (Series.mk a6) a4)),(48,(eSeries (Series.mk a5) a3))] (fun δ2=>?_)
      refine gd hm [7,6,4,2] [2] ?_
      exact hd a3 [7,6,4,2] [0,1] 5
     ·refine hi (fun γ0 δ hm=>?_)
      refine gs [(7,.p 4 0),(16,sv a8 ae),(18,sv a7 ([x1] : List Point)),(6,.p 3 0),(4,.p 2 0),(2,.p 0 0)] [(48,(eSeries x0 (a0_0,c0_0))),(85,(ePoint x1)),(48,[.slice none 0 0]),(48,(eSeries (Series.mk a6) a4)),(48,[.slice none 0 0])] (fun δ2=>?_)
      refine gd hm [7,16,18,6,4,2] [2] ?_
      refine ha1 6 ?_
      refine hi (fun γ0 δ hm=>?_)
      refine ga 46 a7.2 Tryz.t85 (vPoint (Point.mk 0 0 0)) (fun w hs=>⟨a7.2,(hs.view 1 rfl)⟩) a9 (fun a3=>?_)
      refine gn hm [19,7,6,4,2] [2] ?_
      refine htq 7 (.v (vSeries (Series.mk a5) a3)) [2] ?_
      refine hk [20,7,6,4,2] ?_
      refine ha1 9 ?_
      refine hi (fun γ0 δ hm=>?_)
      refine gs [(20,.v (vSeries (Series.mk a5) a3)),(7,.p 4 0),(6,.p 3 0),(4,.p 2 0),(2,.p 0 0)] [(48,(eSeries x0 (a0_0,c0_0))),(85,(ePoint x1)),(48,[.slice none 0 0]),(48,(eSeries (Series.mk a6) a4)),(48,(eSeries (Series.mk a5) a3))] (fun δ2=>?_)
      refine gd hm [7,6,4,2] [2] ?_
      exact hd a3 [7,6,4,2] [0,1] 5
    ·refine hi (fun γ0 δ hm=>?_)
     refine gs [(7,.p 4 0),(18,sv a7 ([x1] : List Point)),(13,sv ab ([] : List Point)),(15,vs a0_0 x0.Points c0_0),(6,.p 3 0),(4,.p 2 0),(2,.p 0 0)] [(48,(eSeries x0 (a0_0,c0_0))),(85,(ePoint x1)),(48,[.slice none 0 0]),(48,(eSeries (Series.mk a6) a4)),(48,[.slice none 0 0])] (fun δ2=>?_)
     refine gd hm [7,18,13,15,6,4,2] [2] ?_
     refine ha1 3 ?_
     refine hr_ [1,0,0] ?_
     refine hi (fun γ0 δ hm=>?_)
     refine ga 46 c0_0 Tryz.t85 (vPoint (Point.mk 0 0 0)) (fun w hs=>⟨c0_0,(hv0_0.k hs)⟩) ac (fun a8=>?_)
     refine gn hm [16,7,18,6,4,2] [2] ?_
     refine ha1 6 ?_
     refine hi (fun γ0 δ hm=>?_)
     refine ga 46 a7.2 Tryz.t85 (vPoint (Point.mk 0 0 0)) (fun w hs=>⟨a7.2,(hs.view 1 rfl)⟩) a9 (fun a3=>?_)
     refine gn hm [19,7,6,4,2] [2] ?_
     refine htq 7 (.v (vSeries (Series.mk a5) a3)) [2] ?_
     refine hk [20,7,6,4,2] ?_
     refine ha1 9 ?_
     refine hi (fun γ0 δ hm=>?_)
     refine gs [(20,.v (vSeries (Series.mk a5) a3)),(7,.p 4 0),(6,.p 3 0),(4,.p 2 0),(2,.p 0 0)] [(48,(eSeries x0 (a0_0,c0_0))),(85,(ePoint x1)),(48,[.slice none 0 0]),(48,(eSeries (Series.mk a6) a4)),(48,(eSeries (Series.mk a5) a3))] (fun δ2=>?_)
     refine gd hm [7,6,4,2] [2] ?_
     exact hd a3 [7,6,4,2] [0,1] 5
   ·refine hi (fun γ0 δ hm=>?_)
    refine gs [(7,.p 4 0),(13,sv ab ([] : List Point)),(17,.v (vPoint x1)),(15,vs a0_0 x0.Points c0_0),(6,.p 3 0),(4,.p 2 0),(2,.p 0 0)] [(48,(eSeries x0 (a0_0,c0_0))),(85,(ePoint x1)),(48,[.slice none 0 0]),(48,(eSeries (Series.mk a6) a4)),(48,[.slice none 0 0])] (fun δ2=>?_)
    refine gd hm [7,13,17,15,6,4,2] [1] ?_
    refine ha2 3 5 ?_ ?_
    ·refine hi (fun γ0 δ hm=>?_)
     refine ga 46 c0_0 Tryz.t85 (vPoint (Point.mk 0 0 0)) (fun w hs=>⟨c0_0,(hv0_0.k hs)⟩) ac (fun a8=>?_)
     refine gn hm [16,7,17,6,4,2] [1] ?_
     refine ha1 5 ?_
     refine hi (fun γ0 δ hm=>?_)
     refine gb [] [SlRes 85 ae a8.1 a8.2,SlRes 85 a6 a4.1 a4.2] 85 1 [.int .i64 x1.Month,.int .i64 x1.Known,.int .i64 x1.Value] ([x1] : List Point) (own_flat (by kernel_rfl)) (fun a7=>?_)
     refine gn hm [18,16,7,6,4,2] [2] ?_
     refine ha1 6 ?_
     refine hr_ [1,0,0] ?_
     refine hi (fun γ0 δ hm=>?_)
     refine ga 46 a7.2 Tryz.t85 (vPoint (Point.mk 0 0 0)) (fun w hs=>⟨a7.2,(hs.view 1 rfl)⟩) a9 (fun a3=>?_)
     refine gn hm [19,7,6,4,2] [2] ?_
     refine htq 7 (.v (vSeries (Series.mk a5) a3)) [2] ?_
     refine hk [20,7,6,4,2] ?_
     refine ha1 9 ?_
     refine hi (fun γ0 δ hm=>?_)
     refine gs [(20,.v (vSeries (Series.mk a5) a3)),(7,.p 4 0),(6,.p 3 0),(4,.p 2 0),(2,.p 0 0)] [(48,(eSeries x0 (a0_0,c0_0))),(85,(ePoint x1)),(48,[.slice none 0 0]),(48,(eSeries (Series.mk a6) a4)),(48,(eSeries (Series.mk a5) a3))] (fun δ2=>?_)
     refine gd hm [7,6,4,2] [2] ?_
     exact hd a3 [7,6,4,2] [0,1] 5
    ·refine hi (fun γ0 δ hm=>?_)
     refine gb [] [SlRes 85 ([] : List Point) ab.1 ab.2,SlRes 85 a6 a4.1 a4.2] 85 1 [.int .i64 x1.Month,.int .i64 x1.Known,.int .i64 x1.Value] ([x1] : List Point) (own_flat (by kernel_rfl)) (fun a7=>?_)
     refine gn hm [18,7,13,15,6,4,2] [2] ?_
     refine ha1 3 ?_
     refine hr_ [1,0,0] ?_
     refine hi (fun γ0 δ hm=>?_)
     refine ga 46 c0_0 Tryz.t85 (vPoint (Point.mk 0 0 0)) (fun w hs=>⟨c0_0,(hv0_0.k hs)⟩) ac (fun a8=>?_)
     refine gn hm [16,18,7,6,4,2] [2] ?_
     refine ha1 6 ?_
     refine hi (fun γ0 δ hm=>?_)
     refine ga 46 a7.2 Tryz.t85 (vPoint (Point.mk 0 0 0)) (fun w hs=>⟨a7.2,(hs.view 1 rfl)⟩) a9 (fun a3=>?_)
     refine gn hm [19,7,6,4,2] [2] ?_
     refine htq 7 (.v (vSeries (Series.mk a5) a3)) [2] ?_
     refine hk [20,7,6,4,2] ?_
     refine ha1 9 ?_
     refine hi (fun γ0 δ hm=>?_)
     refine gs [(20,.v (vSeries (Series.mk a5) a3)),(7,.p 4 0),(6,.p 3 0),(4,.p 2 0),(2,.p 0 0)] [(48,(eSeries x0 (a0_0,c0_0))),(85,(ePoint x1)),(48,[.slice none 0 0]),(48,(eSeries (Series.mk a6) a4)),(48,(eSeries (Series.mk a5) a3))] (fun δ2=>?_)
     refine gd hm [7,6,4,2] [2] ?_
     exact hd a3 [7,6,4,2] [0,1] 5
  ·refine hi (fun γ0 δ hm=>?_)
   refine gb [] [SlRes 85 a6 a4.1 a4.2] 85 1 [.int .i64 x1.Month,.int .i64 x1.Known,.int .i64 x1.Value] ([x1] : List Point) (own_flat (by kernel_rfl)) (fun a7=>?_)
   refine gn hm [18,15,6,4,2] [1] ?_
   refine ha2 0 8 ?_ ?_
   ·refine hi (fun γ0 δ hm=>?_)
    refine gb [] [SlRes 85 ([x1] : List Point) a7.1 a7.2,SlRes 85 a6 a4.1 a4.2] 85 0 [] ([] : List Point) (own_flat (by kernel_rfl)) (fun ab=>?_)
    refine gn hm [13,18,15,6,4,2] [2] ?_
    refine ha2 3 8 ?_ ?_
    ·refine hi (fun γ0 δ hm=>?_)
     refine ga 46 c0_0 Tryz.t85 (vPoint (Point.mk 0 0 0)) (fun w hs=>⟨c0_0,(hv0_0.k hs)⟩) ac (fun a8=>?_)
     refine gn hm [16,18,6,4,2] [2] ?_
     refine ha2 6 8 ?_ ?_
     ·refine hi (fun γ0 δ hm=>?_)
      refine ga 46 a7.2 Tryz.t85 (vPoint (Point.mk 0 0 0)) (fun w hs=>⟨a7.2,(hs.view 1 rfl)⟩) a9 (fun a3=>?_)
      refine gn hm [19,6,4,2] [2] ?_
      refine htq 7 (.v (vSeries (Series.mk a5) a3)) [2] ?_
      refine hk [20,6,4,2] ?_
      refine ha1 8 ?_
      refine hi (fun γ0 δ hm=>?_)
      refine gs [(7,.p 4 0),(20,.v (vSeries (Series.mk a5) a3)),(6,.p 3 0),(4,.p 2 0),(2,.p 0 0)] [(48,(eSeries x0 (a0_0,c0_0))),(85,(ePoint x1)),(48,[.slice none 0 0]),(48,(eSeries (Series.mk a6) a4)),(48,[.slice none 0 0])] (fun δ2=>?_)
      refine gd hm [7,20,6,4,2] [2] ?_
      refine ha1 9 ?_
      refine hi (fun γ0 δ hm=>?_)
      refine gs [(7,.p 4 0),(20,.v (vSeries (Series.mk a5) a3)),(6,.p 3 0),(4,.p 2 0),(2,.p 0 0)] [(48,(eSeries x0 (a0_0,c0_0))),(85,(ePoint x1)),(48,[.slice none 0 0]),(48,(eSeries (Series.mk a6) a4)),(48,(eSeries (Series.mk a5) a3))] (fun δ2=>?_)
      refine gd hm [7,6,4,2] [2] ?_
      exact hd a3 [7,6,4,2] [0,1] 5
     ·refine hi (fun γ0 δ hm=>?_)
      refine gs [(7,.p 4 0),(16,sv a8 ae),(18,sv a7 ([x1] : List Point)),(6,.p 3 0),(4,.p 2 0),(2,.p 0 0)] [(48,(eSeries x0 (a0_0,c0_0))),(85,(ePoint x1)),(48,[.slice none 0 0]),(48,(eSeries (Series.mk a6) a4)),(48,[.slice none 0 0])] (fun δ2=>?_)
      refine gd hm [7,16,18,6,4,2] [2] ?_
      refine ha1 6 ?_
      refine hi (fun γ0 δ hm=>?_)
      refine ga 46 a7.2 Tryz.t85 (vPoint (Point.mk 0 0 0)) (fun w hs=>⟨a7.2,(hs.view 1 rfl)⟩) a9 (fun a3=>?_)
      refine gn hm [19,7,6,4,2] [2] ?_
      refine htq 7 (.v (vSeries (Series.mk a5) a3)) [2] ?_
      refine hk [20,7,6,4,2] ?_
      refine ha1 9 ?_
      refine hi (fun γ0 δ hm=>?_)
      refine gs [(20,.v (vSeries (Series.mk a5) a3)),(7,.p 4 0),(6,.p 3 0),(4,.p 2 0),(2,.p 0 0)] [(48,(eSeries x0 (a0_0,c0_0))),(85,(ePoint x1)),(48,[.slice none 0 0]),(48,(eSeries (Series.mk a6) a4)),(48,(eSeries (Series.mk a5) a3))] (fun δ2=>?_)
      refine gd hm [7,6,4,2] [2] ?_
      exact hd a3 [7,6,4,2] [0,1] 5
    ·refine hi (fun γ0 δ hm=>?_)
     refine gs [(7,.p 4 0),(13,sv ab ([] : List Point)),(18,sv a7 ([x1] : List Point)),(15,vs a0_0 x0.Points c0_0),(6,.p 3 0),(4,.p 2 0),(2,.p 0 0)] [(48,(eSeries x0 (a0_0,c0_0))),(85,(ePoint x1)),(48,[.slice none 0 0]),(48,(eSeries (Series.mk a6) a4)),(48,[.slice none 0 0])] (fun δ2=>?_)
     refine gd hm [7,13,18,15,6,4,2] [2] ?_
     refine ha1 3 ?_
     refine hi (fun γ0 δ hm=>?_)
     refine ga 46 c0_0 Tryz.t85 (vPoint (Point.mk 0 0 0)) (fun w hs=>⟨c0_0,(hv0_0.k hs)⟩) ac (fun a8=>?_)
     refine gn hm [16,7,18,6,4,2] [2] ?_
     refine ha1 6 ?_
     refine hi (fun γ0 δ hm=>?_)
     refine ga 46 a7.2 Tryz.t85 (vPoint (Point.mk 0 0 0)) (fun w hs=>⟨a7.2,(hs.view 1 rfl)⟩) a9 (fun a3=>?_)
     refine gn hm [19,7,6,4,2] [2] ?_
     refine htq 7 (.v (vSeries (Series.mk a5) a3)) [2] ?_
     refine hk [20,7,6,4,2] ?_
     refine ha1 9 ?_
     refine hi (fun γ0 δ hm=>?_)
     refine gs [(20,.v (vSeries (Series.mk a5) a3)),(7,.p 4 0),(6,.p 3 0),(4,.p 2 0),(2,.p 0 0)] [(48,(eSeries x0 (a0_0,c0_0))),(85,(ePoint x1)),(48,[.slice none 0 0]),(48,(eSeries (Series.mk a6) a4)),(48,(eSeries (Series.mk a5) a3))] (fun δ2=>?_)
     refine gd hm [7,6,4,2] [2] ?_
     exact hd a3 [7,6,4,2] [0,1] 5
   ·refine hi (fun γ0 δ hm=>?_)
    refine gs [(7,.p 4 0),(18,sv a7 ([x1] : List Point)),(15,vs a0_0 x0.Points c0_0),(6,.p 3 0),(4,.p 2 0),(2,.p 0 0)] [(48,(eSeries x0 (a0_0,c0_0))),(85,(ePoint x1)),(48,[.slice none 0 0]),(48,(eSeries (Series.mk a6) a4)),(48,[.slice none 0 0])] (fun δ2=>?_)
    refine gd hm [7,18,15,6,4,2] [1] ?_
    refine ha1 0 ?_
    refine hi (fun γ0 δ hm=>?_)
    refine gb [] [SlRes 85 ([x1] : List Point) a7.1 a7.2,SlRes 85 a6 a4.1 a4.2] 85 0 [] ([] : List Point) (own_flat (by kernel_rfl)) (fun ab=>?_)
    refine gn hm [13,7,18,15,6,4,2] [2] ?_
    refine ha1 3 ?_
    refine hi (fun γ0 δ hm=>?_)
    refine ga 46 c0_0 Tryz.t85 (vPoint (Point.mk 0 0 0)) (fun w hs=>⟨c0_0,(hv0_0.k hs)⟩) ac (fun a8=>?_)
    refine gn hm [16,7,18,6,4,2] [2] ?_
    refine ha1 6 ?_
    refine hi (fun γ0 δ hm=>?_)
    refine ga 46 a7.2 Tryz.t85 (vPoint (Point.mk 0 0 0)) (fun w hs=>⟨a7.2,(hs.view 1 rfl)⟩) a9 (fun a3=>?_)
    refine gn hm [19,7,6,4,2] [2] ?_
    refine htq 7 (.v (vSeries (Series.mk a5) a3)) [2] ?_
    refine hk [20,7,6,4,2] ?_
    refine ha1 9 ?_
    refine hi (fun γ0 δ hm=>?_)
    refine gs [(20,.v (vSeries (Series.mk a5) a3)),(7,.p 4 0),(6,.p 3 0),(4,.p 2 0),(2,.p 0 0)] [(48,(eSeries x0 (a0_0,c0_0))),(85,(ePoint x1)),(48,[.slice none 0 0]),(48,(eSeries (Series.mk a6) a4)),(48,(eSeries (Series.mk a5) a3))] (fun δ2=>?_)
    refine gd hm [7,6,4,2] [2] ?_
    exact hd a3 [7,6,4,2] [0,1] 5
  ·refine hi (fun γ0 δ hm=>?_)
   refine gs [(7,.p 4 0),(17,.v (vPoint x1)),(15,vs a0_0 x0.Points c0_0),(6,.p 3 0),(4,.p 2 0),(2,.p 0 0)] [(48,(eSeries x0 (a0_0,c0_0))),(85,(ePoint x1)),(48,[.slice none 0 0]),(48,(eSeries (Series.mk a6) a4)),(48,[.slice none 0 0])] (fun δ2=>?_)
   refine gd hm [7,17,15,6,4,2] [0] ?_
   refine ha2 0 5 ?_ ?_
   ·refine hi (fun γ0 δ hm=>?_)
    refine gb [] [SlRes 85 a6 a4.1 a4.2] 85 0 [] ([] : List Point) (own_flat (by kernel_rfl)) (fun ab=>?_)
    refine gn hm [13,7,17,15,6,4,2] [1] ?_
    refine ha2 3 5 ?_ ?_
    ·refine hi (fun γ0 δ hm=>?_)
     refine ga 46 c0_0 Tryz.t85 (vPoint (Point.mk 0 0 0)) (fun w hs=>⟨c0_0,(hv0_0.k hs)⟩) ac (fun a8=>?_)
     refine gn hm [16,7,17,6,4,2] [1] ?_
     refine ha1 5 ?_
     refine hi (fun γ0 δ hm=>?_)
     refine gb [] [SlRes 85 ae a8.1 a8.2,SlRes 85 a6 a4.1 a4.2] 85 1 [.int .i64 x1.Month,.int .i64 x1.Known,.int .i64 x1.Value] ([x1] : List Point) (own_flat (by kernel_rfl)) (fun a7=>?_)
     refine gn hm [18,16,7,6,4,2] [2] ?_
     refine ha1 6 ?_
     refine hr_ [1,0,0] ?_
     refine hi (fun γ0 δ hm=>?_)
     refine ga 46 a7.2 Tryz.t85 (vPoint (Point.mk 0 0 0)) (fun w hs=>⟨a7.2,(hs.view 1 rfl)⟩) a9 (fun a3=>?_)
     refine gn hm [19,7,6,4,2] [2] ?_
     refine htq 7 (.v (vSeries (Series.mk a5) a3)) [2] ?_
     refine hk [20,7,6,4,2] ?_
     refine ha1 9 ?_
     refine hi (fun γ0 δ hm=>?_)
     refine gs [(20,.v (vSeries (Series.mk a5) a3)),(7,.p 4 0),(6,.p 3 0),(4,.p 2 0),(2,.p 0 0)] [(48,(eSeries x0 (a0_0,c0_0))),(85,(ePoint x1)),(48,[.slice none 0 0]),(48,(eSeries (Series.mk a6) a4)),(48,(eSeries (Series.mk a5) a3))] (fun δ2=>?_)
     refine gd hm [7,6,4,2] [2] ?_
     exact hd a3 [7,6,4,2] [0,1] 5
    ·refine hi (fun γ0 δ hm=>?_)
     refine gb [] [SlRes 85 ([] : List Point) ab.1 ab.2,SlRes 85 a6 a4.1 a4.2] 85 1 [.int .i64 x1.Month,.int .i64 x1.Known,.int .i64 x1.Value] ([x1] : List Point) (own_flat (by kernel_rfl)) (fun a7=>?_)
     refine gn hm [18,13,7,15,6,4,2] [2] ?_
     refine ha1 3 ?_
     refine hr_ [1,0,0] ?_
     refine hi (fun γ0 δ hm=>?_)
     refine ga 46 c0_0 Tryz.t85 (vPoint (Point.mk 0 0 0)) (fun w hs=>⟨c0_0,(hv0_0.k hs)⟩) ac (fun a8=>?_)
     refine gn hm [16,18,7,6,4,2] [2] ?_
     refine ha1 6 ?_
     refine hi (fun γ0 δ hm=>?_)
     refine ga 46 a7.2 Tryz.t85 (vPoint (Point.mk 0 0 0)) (fun w hs=>⟨a7.2,(hs.view 1 rfl)⟩) a9 (fun a3=>?_)
     refine gn hm [19,7,6,4,2] [2] ?_
     refine htq 7 (.v (vSeries (Series.mk a5) a3)) [2] ?_
     refine hk [20,7,6,4,2] ?_
     refine ha1 9 ?_
     refine hi (fun γ0 δ hm=>?_)
     refine gs [(20,.v (vSeries (Series.mk a5) a3)),(7,.p 4 0),(6,.p 3 0),(4,.p 2 0),(2,.p 0 0)] [(48,(eSeries x0 (a0_0,c0_0))),(85,(ePoint x1)),(48,[.slice none 0 0]),(48,(eSeries (Series.mk a6) a4)),(48,(eSeries (Series.mk a5) a3))] (fun δ2=>?_)
     refine gd hm [7,6,4,2] [2] ?_
     exact hd a3 [7,6,4,2] [0,1] 5
   ·refine hi (fun γ0 δ hm=>?_)
    refine gb [] [SlRes 85 a6 a4.1 a4.2] 85 1 [.int .i64 x1.Month,.int .i64 x1.Known,.int .i64 x1.Value] ([x1] : List Point) (own_flat (by kernel_rfl)) (fun a7=>?_)
    refine gn hm [18,7,15,6,4,2] [1] ?_
    refine ha1 0 ?_
    refine hi (fun γ0 δ hm=>?_)
    refine gb [] [SlRes 85 ([x1] : List Point) a7.1 a7.2,SlRes 85 a6 a4.1 a4.2] 85 0 [] ([] : List Point) (own_flat (by kernel_rfl)) (fun ab=>?_)
    refine gn hm [13,18,7,15,6,4,2] [2] ?_
    refine ha1 3 ?_
    refine hi (fun γ0 δ hm=>?_)
    refine ga 46 c0_0 Tryz.t85 (vPoint (Point.mk 0 0 0)) (fun w hs=>⟨c0_0,(hv0_0.k hs)⟩) ac (fun a8=>?_)
    refine gn hm [16,18,7,6,4,2] [2] ?_
    refine ha1 6 ?_
    refine hi (fun γ0 δ hm=>?_)
    refine ga 46 a7.2 Tryz.t85 (vPoint (Point.mk 0 0 0)) (fun w hs=>⟨a7.2,(hs.view 1 rfl)⟩) a9 (fun a3=>?_)
    refine gn hm [19,7,6,4,2] [2] ?_
    refine htq 7 (.v (vSeries (Series.mk a5) a3)) [2] ?_
    refine hk [20,7,6,4,2] ?_
    refine ha1 9 ?_
    refine hi (fun γ0 δ hm=>?_)
    refine gs [(20,.v (vSeries (Series.mk a5) a3)),(7,.p 4 0),(6,.p 3 0),(4,.p 2 0),(2,.p 0 0)] [(48,(eSeries x0 (a0_0,c0_0))),(85,(ePoint x1)),(48,[.slice none 0 0]),(48,(eSeries (Series.mk a6) a4)),(48,(eSeries (Series.mk a5) a3))] (fun δ2=>?_)
    refine gd hm [7,6,4,2] [2] ?_
    exact hd a3 [7,6,4,2] [0,1] 5
 refine nt (qs (qs ?_))
 obtain ⟨aj,ak,al⟩:=bS ai
 refine JC_cut (τ:=Unit) (fun _=>[(4,.p 2 0),(6,.p 3 0),(7,.p 4 0),(28,vb aj)]) (fun _=>[(48,(eSeries x0 (a0_0,c0_0))),(85,(ePoint x1)),(48,[.slice none 0 0]),(48,(eSeries (Series.mk a6) a4)),(48,(eSeries (Series.mk a5) aa))]) (fun _=>[SlRes 85 a6 a4.1 a4.2,SlRes 85 a5 aa.1 aa.2]) ?_ (fun _=>?_)
 ·refine qr (oN 1 [(21,.v (vSeries x0 (a0_0,c0_0)))] [7,6,4] ?_)
  obtain ⟨am,an,ao⟩:=bS ak
  refine k0 (fun γ w hs=>c_spec_SeriesOk an (hv0_0.k hs)) ?_
  refine oN 2 [(24,vb (!am))] [7,6,4] ?_
  refine oS 24 ao (fun ap=>?_) (fun aq=>?_)
  ·refine oN 4 [(28,vb true)] [7,6,4] ?_
   refine oe ?_
   obtain rfl:=sI ap
   exact mt () [4,6,7,28] [1,0] 5
  refine oN 1 [(25,.v (vSeries (Series.mk a5) aa))] [24,7,6,4] ?_
  obtain ⟨ar,au,av⟩:=bS aq
  refine k0 (fun γ w hs=>c_spec_SeriesOk au (hs.view 0 rfl)) ?_
  refine oN 2 [(28,vb (!ar))] [7,6,4] ?_
  refine oe ?_
  obtain rfl:=sI av
  exact mt () [4,6,7,28] [1,0] 5
 refine nt (cC al (fun aw=>?_) (fun ax=>?_))
 ·refine qs (qr (oB 3 [(5,vb false)] [4] [(48,(eSeries x0 (a0_0,c0_0))),(85,(ePoint x1)),(48,(eSeries (Series.mk a6) a4)),(48,(eSeries (Series.mk a6) a4)),(48,(eSeries (Series.mk a5) aa))] ?_))
  refine oe (nt (qe (nr (rt [vSeries (Series.mk a6) a4,.bool false] (fun γ w hs=>?_)))))
  rw [← sI aw]
  exact ⟨a4,rfl,hs.kept.toBelow,(hs.takeR (is:=[0]) rfl).fresh⟩
 refine qk (nt (qs (qr (oB 3 [(5,vb true)] [4] [(48,(eSeries x0 (a0_0,c0_0))),(85,(ePoint x1)),(48,(eSeries (Series.mk a5) aa)),(48,(eSeries (Series.mk a6) a4)),(48,(eSeries (Series.mk a5) aa))] ?_))))
 refine oe (nt (qe (rt [vSeries (Series.mk a5) aa,.bool true] (fun γ w hs=>?_))))
 rw [← sI ax]
 exact ⟨aa,rfl,hs.kept.toBelow,(hs.takeR (is:=[1]) rfl).fresh⟩
theorem c_spec_LearnPoint {W : World} {x0 : Office} {b0 : AC × AC × AC × AC × AC × AC} {x1 : Point} {r : Office × Bool} (h : spec_LearnPoint x0 x1 = some r) (hv0_0 : SlView W x0.Case.Book.Rules b0.1.1 b0.1.2) (hv0_1 : SlView W x0.Case.Store.Facts b0.2.1.1 b0.2.1.2) (hv0_2 : SlView W x0.Case.Series.Points b0.2.2.1.1 b0.2.2.1.2) (hv0_3 : SlView W x0.Case.Member.Spells b0.2.2.2.1.1 b0.2.2.2.1.2) (hv0_4 : SlView W x0.Case.Member.Events b0.2.2.2.2.1.1 b0.2.2.2.2.1.2) (hv0_5 : SlView W x0.Paid b0.2.2.2.2.2.1 b0.2.2.2.2.2.2) :
  Gives Tryz.prog 39 #[vOffice x0 b0,vPoint x1] W (fun y : AC × AC × AC × AC × AC × AC=>.tuple #[vOffice r.1 y,.bool r.2]) (fun y=>(rOffice r.1 y)):=by
 unfold spec_LearnPoint at h
 refine en Tryz.func39 Tryz.ntmps39 ?_
 refine qs (qr (oB 4 [(4,.p 2 0),(3,.p 1 0),(2,.p 0 0)] [] [(57,(eOffice x0 b0)),(85,(ePoint x1)),(57,[.slice none 0 0,.slice none 0 0,.slice none 0 0,.int .i64 0,.int .i64 0,.slice none 0 0,.slice none 0 0,.int .i64 0,.slice none 0 0])] ?_))
 refine oe (nt (qs (qr (oN 1 [(9,.v (vOffice x0 b0))] [4,3,2] ?_))))
 obtain ⟨a4,a7,a8⟩:=bS h
 refine k1 (fun _ w hs=>c_spec_l37Copy (b0:=b0) a7 (hv0_0.k hs) (hv0_1.k hs) (hv0_2.k hs) (hv0_3.k hs) (hv0_4.k hs) (hv0_5.k hs)) (fun a3=>?_)
 refine oB 2 [(6,.p 3 0)] [4,3,2] [(57,(eOffice x0 b0)),(85,(ePoint x1)),(57,[.slice none 0 0,.slice none 0 0,.slice none 0 0,.int .i64 0,.int .i64 0,.slice none 0 0,.slice none 0 0,.int .i64 0,.slice none 0 0]),(57,(eOffice a4 a3))] ?_
 refine oe (nt (qs (qr (oB 8 [] [6,4,3,2] [(57,(eOffice x0 b0)),(85,(ePoint (Point.mk x1.Month (w64 (x0.Start + (x0.Paid.length : Int))) x1.Value))),(57,[.slice none 0 0,.slice none 0 0,.slice none 0 0,.int .i64 0,.int .i64 0,.slice none 0 0,.slice none 0 0,.int .i64 0,.slice none 0 0]),(57,(eOffice a4 a3))] ?_))))
 refine oe (nt (qs (qr (oN 4 [(22,.v (vPoint (Point.mk x1.Month (w64 (x0.Start + (x0.Paid.length : Int))) x1.Value))),(21,.v (vSeries x0.Case.Series b0.2.2.1))] [6,4,2] ?_))))
 obtain ⟨a5,a9,aa⟩:=bS a8
 refine k1 (fun _ w hs=>c_spec_Publish a9 (hv0_2.k hs)) (fun a6=>?_)
 refine oB 6 [(8,vb a5.2),(7,.p 4 0)] [6,4,2] [(57,(eOffice x0 b0)),(85,(ePoint (Point.mk x1.Month (w64 (x0.Start + (x0.Paid.length : Int))) x1.Value))),(57,[.slice none 0 0,.slice none 0 0,.slice none 0 0,.int .i64 0,.int .i64 0,.slice none 0 0,.slice none 0 0,.int .i64 0,.slice none 0 0]),(57,(eOffice a4 a3)),(48,(eSeries a5.1 a6))] ?_
 refine oe (nt (qs (qs ?_)))
 obtain ⟨ab,ac,ae⟩:=bS aa
 refine JC_cut (τ:=Unit) (fun _=>[(4,.p 2 0),(6,.p 3 0),(7,.p 4 0),(32,vb ab)]) (fun _=>[(57,(eOffice x0 b0)),(85,(ePoint (Point.mk x1.Month (w64 (x0.Start + (x0.Paid.length : Int))) x1.Value))),(57,[.slice none 0 0,.slice none 0 0,.slice none 0 0,.int .i64 0,.int .i64 0,.slice none 0 0,.slice none 0 0,.int .i64 0,.slice none 0 0]),(57,(eOffice a4 a3)),(48,(eSeries a5.1 a6))]) (fun _=>(rOffice a4 a3 ++ [SlRes 85 a5.1.Points a6.1 a6.2])) ?_ (fun _=>?_)
 ·refine qr (oN 1 [(26,.v (vOffice x0 b0))] [8,7,6,4] ?_)
  obtain ⟨af,ag,ah⟩:=bS ac
  refine k0 (fun _ w hs=>c_spec_OfficeOk (b0:=b0) ag (hv0_0.k hs) (hv0_1.k hs) (hv0_2.k hs) (hv0_3.k hs) (hv0_4.k hs) (hv0_5.k hs)) ?_
  refine oN 2 [(29,vb (!af))] [8,7,6,4] ?_
  refine oS 29 ah (fun ai=>?_) (fun aj=>?_)
  ·refine oN 3 [(32,vb true)] [7,6,4] ?_
   refine oe ?_
   obtain rfl:=sI ai
   exact mt () [4,6,7,32] [1,1,1,1,1,1,0] 5
  refine oN 3 [(32,vb (!a5.2))] [7,6,4] ?_
  refine oe ?_
  obtain rfl:=sI aj
  exact mt () [4,6,7,32] [1,1,1,1,1,1,0] 5
 refine nt (cC ae (fun ak=>?_) (fun al=>?_))
 ·refine qs (qr (oB 3 [(5,vb false)] [4] [(57,(eOffice x0 b0)),(85,(ePoint (Point.mk x1.Month (w64 (x0.Start + (x0.Paid.length : Int))) x1.Value))),(57,(eOffice a4 a3)),(57,(eOffice a4 a3)),(48,(eSeries a5.1 a6))] ?_))
  refine oe (nt (qe (nr (rt [vOffice a4 a3,.bool false] (fun _ w hs=>?_)))))
  rw [← sI ak]
  exact ⟨(a3.1,a3.2.1,a3.2.2.1,a3.2.2.2.1,a3.2.2.2.2.1,a3.2.2.2.2.2),rfl,hs.kept.toBelow,(hs.takeR (is:=[0,0,0,0,0,0]) rfl).fresh⟩
 refine qk (nt (qs (qr (oB 4 [] [4,6] [(57,(eOffice x0 b0)),(85,(ePoint (Point.mk x1.Month (w64 (x0.Start + (x0.Paid.length : Int))) x1.Value))),(57,[.slice none 0 0,.slice none 0 0,.slice none 0 0,.int .i64 0,.int .i64 0,.slice none 0 0,.slice none 0 0,.int .i64 0,.slice none 0 0]),(57,(eOffice (Office.mk (Case.mk a4.Case.Book a4.Case.Store a5.1 a4.Case.Member) a4.Start a4.Paid) (a3.1,a3.2.1,a6,a3.2.2.2.1,a3.2.2.2.2.1,a3.2.2.2.2.2))),(48,(eSeries a5.1 a6))] ?_))))
 refine oe (nt (qs (qr (oB 3 [(5,vb true)] [4] [(57,(eOffice x0 b0)),(85,(ePoint (Point.mk x1.Month (w64 (x0.Start + (x0.Paid.length : Int))) x1.Value))),(57,(eOffice (Office.mk (Case.mk a4.Case.Book a4.Case.Store a5.1 a4.Case.Member) a4.Start a4.Paid) (a3.1,a3.2.1,a6,a3.2.2.2.1,a3.2.2.2.2.1,a3.2.2.2.2.2))),(57,(eOffice (Office.mk (Case.mk a4.Case.Book a4.Case.Store a5.1 a4.Case.Member) a4.Start a4.Paid) (a3.1,a3.2.1,a6,a3.2.2.2.1,a3.2.2.2.2.1,a3.2.2.2.2.2))),(48,(eSeries a5.1 a6))] ?_))))
 refine oe (nt (qe (rt [vOffice (Office.mk (Case.mk a4.Case.Book a4.Case.Store a5.1 a4.Case.Member) a4.Start a4.Paid) (a3.1,a3.2.1,a6,a3.2.2.2.1,a3.2.2.2.2.1,a3.2.2.2.2.2),.bool true] (fun _ w hs=>?_))))
 rw [← sI al]
 exact ⟨(a3.1,a3.2.1,a6,a3.2.2.2.1,a3.2.2.2.2.1,a3.2.2.2.2.2),rfl,hs.kept.toBelow,(hs.takeR (is:=[0,0,4,1,1,1]) rfl).fresh⟩
theorem c_spec_StatusAt {W : World} {x0 : List Event} {a0_0 : Option Addr} {c0_0 : Nat} {x1 : Int} {r : Int} (h : spec_StatusAt x0 x1 = some r) (hv0_0 : SlView W x0 a0_0 c0_0) :
  Gives0 Tryz.prog 148 #[.slice a0_0 x0.length c0_0,.int .i64 x1] W (.int .i64 r):=by
 unfold spec_StatusAt at h
 refine en Tryz.func148 Tryz.ntmps148 ?_
 refine qs (qr (oN 1 [] [0,1] ?_))
 refine oe (nt (qs (qr (oN 1 [(5,vi 0)] [0,1] ?_))))
 refine oe (nt (qs (qs (qr (oN 1 [(6,vi 0)] [5,0,1] ?_)))))
 refine oe (nt ?_)
 obtain ⟨b7,aa,a5⟩:=bS h
 obtain ⟨ab,ac,a5⟩:=brkS a5
 refine JC_cutP (τ:=(Int) × (Unit)) (fun y=>ab y.1 = some r) (fun a4=>[(5,vi a4.1)]) (fun a4=>[]) (fun a4=>[]) ?_ (fun a4 ae=>?_)
 ·refine qb (lp Unit aa (fun a3 a6=>[(6,vi a3.1),(5,vi a3.2),(0,vs a0_0 x0 c0_0),(1,vi x1)]) (fun a3 a6=>[]) (fun a3 a6=>[]) () [6,5,0,1] [] 0 (fun a3 a6 b8 af ag=>?_))
  refine qs (qs ?_)
  obtain ⟨ah,ai,aj⟩:=bS af
  refine JC_cut (τ:=Unit) (fun _=>[(0,vs a0_0 x0 c0_0),(1,vi x1),(5,vi a3.2),(6,vi a3.1),(23,vb ah)]) (fun _=>[]) (fun _=>[]) ?_ (fun _=>?_)
  ·refine qr (oN 5 [(11,vb (decide (a3.1 < (x0.length : Int))))] [6,5,0,1] ?_)
   refine oS 11 ai (fun ak=>?_) (fun al=>?_)
   ·refine oN 1 [(12,vs a0_0 x0 c0_0)] [11,6,5,0,1] ?_
    obtain ⟨am,an,ao⟩:=bS ak
    refine k0 (fun _ w hs=>c_spec_EventsOk an (hv0_0.k hs)) ?_
    refine oN 2 [(15,vb am)] [6,5,0,1] ?_
    refine oS 15 ao (fun ap=>?_) (fun aq=>?_)
    ·refine oN 2 [(17,vi a3.1),(16,vs a0_0 x0 c0_0)] [15,6,5,0,1] ?_
     obtain ⟨a7,a8,ar⟩:=bS ap
     refine oi 2 (fun _ w hs=>(hv0_0.k hs)) a8 ?_
     refine oN 1 [(19,.q a0_0 (Int.toNat a3.1 * 2 + 1))] [15,6,5,0,1] ?_
     refine ol 3 1 (.int .i64 a7.Month) (fun _ w hs=>(hv0_0.k hs).flatq a8) ?_
     refine oN 3 [(23,vb (decide (a7.Month ≤ x1)))] [6,5,0,1] ?_
     refine oe ?_
     obtain rfl:=sI ar
     exact mt () [0,1,5,6,23] [] 0
    refine oN 8 [(23,vb false)] [6,5,0,1] ?_
    refine oe ?_
    obtain rfl:=sI aq
    exact mt () [0,1,5,6,23] [] 0
   refine oN 12 [(23,vb false)] [6,5,0,1] ?_
   refine oe ?_
   obtain rfl:=sI al
   exact mt () [0,1,5,6,23] [] 0
  refine nt (cC aj (fun au=>?_) (fun av=>?_))
  ·refine qk (nt (qs (qb (qr (oN 3 [(29,vi a3.1),(28,vs a0_0 x0 c0_0),(27,vi a3.2)] [0,1,6] ?_)))))
   obtain ⟨aw,a9,ax⟩:=bS au
   refine oi 2 (fun _ w hs=>(hv0_0.k hs)) a9 ?_
   refine oN 1 [(31,.q a0_0 (Int.toNat a3.1 * 2))] [27,0,1,6] ?_
   refine ol 3 0 (.int .i64 aw.Kind) (fun _ w hs=>(hv0_0.k hs).flatq a9) ?_
   obtain ⟨ay,az,b4⟩:=bS ax
   refine k0 (fun _ w hs=>c_spec_StatusAfter az) ?_
   refine oN 4 [(5,vi ay.1)] [0,1,6] ?_
   refine oe (bn (nt (qr (oN 3 [(6,vi (w64 (a3.1 + 1)))] [5,0,1] ?_))))
   exact oe (ct b4 () [6,5,0,1] [] 0)
  refine qx (nx (nx (bh ?_)))
  have b5:=leafB ag av a5
  exact mp (a3.2,()) b5 [5] [] 0
 have b6:=(congrFun ac _).symm.trans ae
 refine nt (qs (qr (oN 2 [(4,vi a4.1)] [] ?_)))
 refine oe (nt (qe ?_))
 obtain rfl:=sI b6
 exact re [.int .i64 a4.1]
theorem c_spec_ServiceIn {W : World} {x0 : List Spell} {a0_0 : Option Addr} {c0_0 : Nat} {x1 : Int} {x2 : Int} {r : Int} (h : spec_ServiceIn x0 x1 x2 = some r) (hv0_0 : SlView W x0 a0_0 c0_0) :
  Gives0 Tryz.prog 195 #[.slice a0_0 x0.length c0_0,.int .i64 x1,.int .i64 x2] W (.int .i64 r):=by
 unfold spec_ServiceIn at h
 refine en Tryz.func195 Tryz.ntmps195 ?_
 refine qs (qr (oN 1 [] [0,1,2] ?_))
 refine oe (nt (qs (qr (oN 1 [(7,vi 0)] [0,1,2] ?_))))
 refine oe (nt (qs (qs (qr (oN 1 [(8,vi 0)] [7,0,1,2] ?_)))))
 refine oe (nt ?_)
 obtain ⟨bl,ag,a6⟩:=bS h
 obtain ⟨ah,ai,a6⟩:=brkS a6
 refine JC_cutP (τ:=(Int) × (Unit)) (fun y=>ah y.1 = some r) (fun a4=>[(7,vi a4.1)]) (fun a4=>[]) (fun a4=>[]) ?_ (fun a4 aj=>?_)
 ·refine qb (lp Unit ag (fun a3 a7=>[(8,vi a3.1),(7,vi a3.2),(0,vs a0_0 x0 c0_0),(1,vi x1),(2,vi x2)]) (fun a3 a7=>[]) (fun a3 a7=>[]) () [8,7,0,1,2] [] 0 (fun a3 a7 ak al am=>?_))
  refine qs (qs ?_)
  obtain ⟨an,ao,ap⟩:=bS al
  refine JC_cut (τ:=Unit) (fun _=>[(0,vs a0_0 x0 c0_0),(1,vi x1),(2,vi x2),(7,vi a3.2),(8,vi a3.1),(16,vb an)]) (fun _=>[]) (fun _=>[]) ?_ (fun _=>?_)
  ·refine qr (oN 5 [(13,vb (decide (a3.1 < (x0.length : Int))))] [8,7,0,1,2] ?_)
   refine oS 13 ao (fun aq=>?_) (fun ar=>?_)
   ·refine oN 1 [(14,vs a0_0 x0 c0_0)] [13,8,7,0,1,2] ?_
    obtain ⟨au,av,aw⟩:=bS aq
    refine k0 (fun _ w hs=>c_spec_SpellsOk av (hv0_0.k hs)) ?_
    refine oN 1 [(16,vb au)] [8,7,0,1,2] ?_
    refine oe ?_
    obtain rfl:=sI aw
    exact mt () [0,1,2,7,8,16] [] 0
   refine oN 3 [(16,vb false)] [8,7,0,1,2] ?_
   refine oe ?_
   obtain rfl:=sI ar
   exact mt () [0,1,2,7,8,16] [] 0
  refine nt (cC ap (fun ax=>?_) (fun ay=>?_))
  ·refine qk (nt (qs (qb (qs (qr (oN 2 [(20,vi a3.1),(19,vs a0_0 x0 c0_0)] [0,1,2,7,8] ?_))))))
   obtain ⟨a9,aa,az⟩:=bS ax
   refine oi 4 (fun _ w hs=>(hv0_0.k hs)) aa ?_
   refine oN 1 [(22,.q a0_0 (Int.toNat a3.1 * 4 + 3))] [0,1,2,7,8] ?_
   refine ol 4 3 (.bool a9.Leave) (fun _ w hs=>(hv0_0.k hs).flatq aa) ?_
   refine oN 1 [(24,vb (!a9.Leave))] [0,1,2,7,8] ?_
   refine oe (nt ?_)
   obtain ⟨b4,b5,b6⟩:=jS az
   refine JC_cutP (τ:=(Int) × (Unit)) (fun y=>b4 y.1 = some ak) (fun a5=>[(0,vs a0_0 x0 c0_0),(1,vi x1),(2,vi x2),(7,vi a5.1),(8,vi a3.1)]) (fun a5=>[]) (fun a5=>[]) ?_ (fun a5 b7=>?_)
   ·refine cC b6 (fun b8=>?_) (fun b9=>?_)
    ·refine JC_quiet (by kernel_rfl) (by kernel_rfl) ?_
     refine qN 3 [(27,vi a3.1),(26,vs a0_0 x0 c0_0),(25,vi a3.2)] [0,1,2,8] ?_
     obtain ⟨a8,ab,ba⟩:=bS b8
     refine qi 4 (fun _ w hs=>(hv0_0.k hs)) ab ?_
     refine qN 1 [(29,.q a0_0 (Int.toNat a3.1 * 4 + 2))] [25,0,1,2,8] ?_
     refine ql 3 2 (.int .i64 a8.Percent) (fun _ w hs=>(hv0_0.k hs).flatq ab) ?_
     refine qN 2 [(32,vi a3.1),(31,vs a0_0 x0 c0_0)] [30,25,0,1,2,8] ?_
     obtain ⟨bb,ac,bc⟩:=bS ba
     refine qi 4 (fun _ w hs=>(hv0_0.k hs)) ac ?_
     refine qN 1 [(34,.q a0_0 (Int.toNat a3.1 * 4))] [30,25,0,1,2,8] ?_
     refine ql 3 0 (.int .i64 bb.From) (fun _ w hs=>(hv0_0.k hs).flatq ac) ?_
     refine qN 2 [(37,vi a3.1),(36,vs a0_0 x0 c0_0)] [35,30,25,0,1,2,8] ?_
     obtain ⟨bd,ae,be⟩:=bS bc
     refine qi 4 (fun _ w hs=>(hv0_0.k hs)) ae ?_
     refine qN 1 [(39,.q a0_0 (Int.toNat a3.1 * 4 + 1))] [35,30,25,0,1,2,8] ?_
     refine ql 3 1 (.int .i64 bd.To) (fun _ w hs=>(hv0_0.k hs).flatq ae) ?_
     refine qN 2 [(42,vi x2),(41,vi x1)] [40,35,30,25,0,1,2,8] ?_
     obtain ⟨af,bf,bg⟩:=bS be
     refine q0 (fun _ w hs=>c_spec_MonthsIn bf) ?_
     refine qN 3 [(7,vi (w64 (a3.2 + (w64 (a8.Percent * af)))))] [0,1,2,8] ?_
     exact qz (mp (w64 (a3.2 + (w64 (a8.Percent * af))),()) bg [0,1,2,7,8] [] 0)
    exact qk (mp (a3.2,()) b9 [0,1,2,7,8] [] 0)
   have bi:=(congrFun b5 _).symm.trans b7
   refine bn (nt (qr (oN 3 [(8,vi (w64 (a3.1 + 1)))] [0,1,2,7] ?_)))
   exact oe (ct bi () [8,7,0,1,2] [] 0)
  refine qx (nx (nx (bh ?_)))
  have bj:=leafB am ay a6
  exact mp (a3.2,()) bj [7] [] 0
 have bk:=(congrFun ai _).symm.trans aj
 refine nt (qs (qr (oN 2 [(6,vi a4.1)] [] ?_)))
 refine oe (nt (qe ?_))
 obtain rfl:=sI bk
 exact re [.int .i64 a4.1]
theorem c_spec_l02Make {W : World} {x0 : Int} {x1 : Int} {r : Frac × Bool} (h : spec_l02Make x0 x1 = some r)  :
  Gives0 Tryz.prog 225 #[.int .i64 x0,.int .i64 x1] W (.tuple #[vFrac r.1,.bool r.2]):=by
 unfold spec_l02Make at h
 refine en Tryz.func225 Tryz.ntmps225 ?_
 refine qs (qr (oB 2 [(4,.p 0 0)] [0,1] [(216,(eFrac (Frac.mk 0 0)))] ?_))
 refine oe (nt (qs (qs (qr (oN 2 [(9,vb (decide (x1 < 0)))] [4,0,1] ?_)))))
 refine oe (nt ?_)
 obtain ⟨a5,a6,a7⟩:=jS h
 refine JC_cutP (τ:=(Int × Int) × (Unit)) (fun y=>a5 y.1 = some r) (fun a3=>[(4,.p 0 0),(0,vi a3.1.1),(1,vi a3.1.2)]) (fun a3=>[(216,(eFrac (Frac.mk 0 0)))]) (fun a3=>[]) ?_ (fun a3 a8=>?_)
 ·refine cC a7 (fun a9=>?_) (fun aa=>?_)
  ·refine qs (qr (oN 3 [(0,vi (w64 (0 - x0)))] [4,1] ?_))
   refine oe (nt (qr (oN 3 [(1,vi (w64 (0 - x1)))] [0,4] ?_)))
   exact oe (mp ((w64 (0 - x0),w64 (0 - x1)),()) a9 [4,0,1] [] 1)
  exact qk (mp ((x0,x1),()) aa [4,0,1] [] 1)
 have ab:=(congrFun a6 _).symm.trans a8
 refine nt (qs (qr (oN 1 [(14,vi a3.1.1)] [4,0,1] ?_)))
 obtain ⟨aq,ac,ae⟩:=bS ab
 refine k0 (fun γ w hs=>c_spec_l02Abs ac) ?_
 refine oN 1 [(16,vi a3.1.2)] [15,4,0,1] ?_
 obtain ⟨a4,af,ag⟩:=bS ae
 refine k0 (fun γ w hs=>c_spec_l02Gcd af) ?_
 refine oN 1 [(6,vi a4)] [4,0,1] ?_
 refine oe (nt (qs ?_))
 obtain ⟨ar,ah,ai⟩:=bS ag
 obtain ⟨au,aj,ak⟩:=bS ai
 refine JC_cut (τ:=Unit) (fun _=>[(7,.p 1 0),(4,.p 0 0)]) (fun _=>[(216,(eFrac (Frac.mk 0 0))),(216,(eFrac (Frac.mk (w64 (Int.tdiv a3.1.1 a4)) (w64 (Int.tdiv a3.1.2 a4)))))]) (fun _=>[]) ?_ (fun _=>?_)
 ·refine jw [6,4,0,1] [] ?_
  refine JC_heldN (ks:=[0]) (Rk:=[]) 9 (by kernel_rfl) (by kernel_rfl) ?_
  refine htq 0 (vi a3.1.1) [] ?_
  refine hk [18,6,4,1] ?_
  refine htq 1 (vi a4) [] ?_
  refine ht 2 (vi (w64 (Int.tdiv a3.1.1 a4))) [] (div_held (op:=.quo) (k:=.i64) (x:=a3.1.1) (y:=a4) (by kernel_rfl) (nz_some ah)) ?_
  refine hk [20,6,4,1] ?_
  refine htq 3 (vi a3.1.2) [] ?_
  refine hk [21,20,6,4] ?_
  refine htq 4 (vi a4) [] ?_
  refine hk [22,21,20,4] ?_
  refine ht 5 (vi (w64 (Int.tdiv a3.1.2 a4))) [] (div_held (op:=.quo) (k:=.i64) (x:=a3.1.2) (y:=a4) (by kernel_rfl) (nz_some aj)) ?_
  refine hk [23,20,4] ?_
  refine htq 6 (.v (vFrac (Frac.mk (w64 (Int.tdiv a3.1.1 a4)) (w64 (Int.tdiv a3.1.2 a4))))) [] ?_
  refine hk [24,4] ?_
  refine ha1 7 ?_
  refine hi (fun γ0 δ hm=>?_)
  refine gs [(7,.p 1 0),(24,.v (vFrac (Frac.mk (w64 (Int.tdiv a3.1.1 a4)) (w64 (Int.tdiv a3.1.2 a4))))),(4,.p 0 0)] [(216,(eFrac (Frac.mk 0 0))),(216,(eFrac (Frac.mk 0 0)))] (fun δ2=>?_)
  refine gd hm [7,24,4] [] ?_
  refine ha1 8 ?_
  refine hi (fun γ0 δ hm=>?_)
  refine gs [(7,.p 1 0),(24,.v (vFrac (Frac.mk (w64 (Int.tdiv a3.1.1 a4)) (w64 (Int.tdiv a3.1.2 a4))))),(4,.p 0 0)] [(216,(eFrac (Frac.mk 0 0))),(216,(eFrac (Frac.mk (w64 (Int.tdiv a3.1.1 a4)) (w64 (Int.tdiv a3.1.2 a4)))))] (fun δ2=>?_)
  refine gd hm [7,4] [] ?_
  exact hd () [7,4] [] 2
 refine nt (qs (qs (qr (oN 1 [(25,.v (vFrac (Frac.mk (w64 (Int.tdiv a3.1.1 a4)) (w64 (Int.tdiv a3.1.2 a4)))))] [7,4] ?_))))
 obtain ⟨al,am,an⟩:=bS ak
 refine k0 (fun γ w hs=>c_spec_FracOk am) ?_
 refine oN 1 [(27,vb (!al))] [7,4] ?_
 refine oe (nt (cC an (fun ao=>?_) (fun ap=>?_)))
 ·refine qs (qr (oN 3 [(5,vb false)] [4] ?_))
  refine oe (nt (qe (nr ?_)))
  obtain rfl:=sI ao
  exact re [vFrac (Frac.mk 0 0),.bool false]
 refine qk (nt (qs (qr (oB 3 [(5,vb true)] [4] [(216,(eFrac (Frac.mk (w64 (Int.tdiv a3.1.1 a4)) (w64 (Int.tdiv a3.1.2 a4))))),(216,(eFrac (Frac.mk (w64 (Int.tdiv a3.1.1 a4)) (w64 (Int.tdiv a3.1.2 a4)))))] ?_))))
 refine oe (nt (qe ?_))
 obtain rfl:=sI ap
 exact re [vFrac (Frac.mk (w64 (Int.tdiv a3.1.1 a4)) (w64 (Int.tdiv a3.1.2 a4))),.bool true]
theorem c_spec_FracNew {W : World} {x0 : Int} {x1 : Int} {r : Frac × Bool} (h : spec_FracNew x0 x1 = some r)  :
  Gives0 Tryz.prog 194 #[.int .i64 x0,.int .i64 x1] W (.tuple #[vFrac r.1,.bool r.2]):=by
 unfold spec_FracNew at h
 refine en Tryz.func194 Tryz.ntmps194 ?_
 refine qs (qr (oB 2 [(4,.p 0 0)] [0,1] [(216,(eFrac (Frac.mk 0 0)))] ?_))
 refine oe (nt (qs (qs ?_)))
 obtain ⟨a4,a5,a6⟩:=bS h
 refine JC_cut (τ:=Unit) (fun _=>[(0,vi x0),(1,vi x1),(4,.p 0 0),(17,vb a4)]) (fun _=>[(216,(eFrac (Frac.mk 0 0)))]) (fun _=>[]) ?_ (fun _=>?_)
 ·refine qr (oN 3 [(8,vb (x1 == 0))] [4,0,1] ?_)
  refine oS 8 a5 (fun a7=>?_) (fun a8=>?_)
  ·refine oN 9 [(17,vb true)] [4,0,1] ?_
   refine oe ?_
   obtain rfl:=sI a7
   exact mt () [0,1,4,17] [] 1
  refine oN 1 [(9,vi x0)] [8,4,0,1] ?_
  obtain ⟨a9,aa,ab⟩:=bS a8
  refine k0 (fun _ w hs=>c_spec_l01In aa) ?_
  refine oN 3 [(13,vb (!a9))] [4,0,1] ?_
  refine oS 13 ab (fun ac=>?_) (fun ae=>?_)
  ·refine oN 4 [(17,vb true)] [4,0,1] ?_
   refine oe ?_
   obtain rfl:=sI ac
   exact mt () [0,1,4,17] [] 1
  refine oN 1 [(14,vi x1)] [13,4,0,1] ?_
  obtain ⟨af,ag,ah⟩:=bS ae
  refine k0 (fun _ w hs=>c_spec_l01In ag) ?_
  refine oN 2 [(17,vb (!af))] [4,0,1] ?_
  refine oe ?_
  obtain rfl:=sI ah
  exact mt () [0,1,4,17] [] 1
 refine nt (cC a6 (fun ai=>?_) (fun aj=>?_))
 ·refine qs (qr (oN 3 [(5,vb false)] [4] ?_))
  refine oe (nt (qe (nr ?_)))
  obtain rfl:=sI ai
  exact re [vFrac (Frac.mk 0 0),.bool false]
 refine qk (nt (qs (qr (oN 2 [(20,vi x1),(19,vi x0)] [4] ?_))))
 obtain ⟨a3,ak,al⟩:=bS aj
 refine k0 (fun _ w hs=>c_spec_l02Make ak) ?_
 refine oB 4 [(5,vb a3.2)] [4] [(216,(eFrac a3.1))] ?_
 refine oe (nt (qe ?_))
 obtain rfl:=sI al
 exact re [vFrac a3.1,.bool a3.2]
theorem c_spec_ValueAt {W : World} {x0 : Store} {a0_0 : Option Addr} {c0_0 : Nat} {x1 : Int} {x2 : Int} {x3 : Int} {r : Int × Bool} (h : spec_ValueAt x0 x1 x2 x3 = some r) (hv0_0 : SlView W x0.Facts a0_0 c0_0) :
  Gives0 Tryz.prog 226 #[vStore x0 (a0_0,c0_0),.int .i64 x1,.int .i64 x2,.int .i64 x3] W (.tuple #[.int .i64 r.1,.bool r.2]):=by
 unfold spec_ValueAt at h
 refine en Tryz.func226 Tryz.ntmps226 ?_
 refine qs (qr (oB 3 [(4,.p 0 0)] [1,2,3] [(45,(eStore x0 (a0_0,c0_0)))] ?_))
 refine oe (nt (qs (qs (qr (oN 5 [(10,vi (w64 ((x0.Facts.length : Int) - 1)))] [4,1,2,3] ?_)))))
 refine oe (nt ?_)
 obtain ⟨az,aa,a5⟩:=bS h
 obtain ⟨ab,ac,a5⟩:=brkS a5
 refine JC_cutP (τ:=(Unit) × (Unit)) (fun y=>ab y.1 = some r) (fun a6=>[]) (fun a6=>[(45,(eStore x0 (a0_0,c0_0)))]) (fun a6=>[]) ?_ (fun a6 ae=>?_)
 ·refine qb (lp Unit aa (fun a4 a7=>[(10,vi a4),(4,.p 0 0),(1,vi x1),(2,vi x2),(3,vi x3)]) (fun a4 a7=>[(45,(eStore x0 (a0_0,c0_0)))]) (fun a4 a7=>[]) () [10,4,1,2,3] [] 1 (fun a4 a7 b4 af a8=>?_))
  refine qs (qs (qr (oN 2 [(17,vb (decide (a4 ≥ 0)))] [10,4,1,2,3] ?_)))
  refine oe (nt (cC af (fun ag=>?_) (fun ah=>?_)))
  ·refine qk (nt (qs (qb (qs (qr (oN 3 [(22,vi a4),(21,vs a0_0 x0.Facts c0_0)] [10,4,1,2,3] ?_))))))
   obtain ⟨a3,a9,ai⟩:=bS ag
   refine oi 5 (fun _ w hs=>(hv0_0.k hs)) a9 ?_
   refine ol 84 0 (vFact a3) (fun _ w hs=>(hv0_0.k hs).flatq a9) ?_
   refine oB 2 [(11,.p 1 0)] [10,4,1,2,3] [(45,(eStore x0 (a0_0,c0_0))),(84,(eFact a3))] ?_
   refine oe (nt (qs ?_))
   obtain ⟨aj,ak,al⟩:=bS ai
   refine JC_cut (τ:=Unit) (fun _=>[(1,vi x1),(2,vi x2),(3,vi x3),(4,.p 0 0),(10,vi a4),(11,.p 1 0),(46,vb aj)]) (fun _=>[(45,(eStore x0 (a0_0,c0_0))),(84,(eFact a3))]) (fun _=>[]) ?_ (fun _=>?_)
   ·refine qr (oN 5 [(29,vb (a3.Key == x1))] [11,10,4,1,2,3] ?_)
    refine oS 29 ak (fun am=>?_) (fun an=>?_)
    ·refine oN 6 [(35,vb (decide (a3.From ≤ x2)))] [11,10,4,1,2,3] ?_
     refine oS 35 am (fun ao=>?_) (fun ap=>?_)
     ·refine oN 6 [(41,vb (decide (x2 < a3.To)))] [11,10,4,1,2,3] ?_
      refine oS 41 ao (fun aq=>?_) (fun ar=>?_)
      ·refine oN 5 [(46,vb (decide (a3.Known ≤ x3)))] [11,10,4,1,2,3] ?_
       refine oe ?_
       obtain rfl:=sI aq
       exact mt () [1,2,3,4,10,11,46] [] 2
      refine oN 5 [(46,vb false)] [11,10,4,1,2,3] ?_
      refine oe ?_
      obtain rfl:=sI ar
      exact mt () [1,2,3,4,10,11,46] [] 2
     refine oN 11 [(46,vb false)] [11,10,4,1,2,3] ?_
     refine oe ?_
     obtain rfl:=sI ap
     exact mt () [1,2,3,4,10,11,46] [] 2
    refine oN 17 [(46,vb false)] [11,10,4,1,2,3] ?_
    refine oe ?_
    obtain rfl:=sI an
    exact mt () [1,2,3,4,10,11,46] [] 2
   refine nt (cC al (fun au=>?_) (fun av=>?_))
   ·refine qs (qr (oN 4 [(9,vb true),(8,vi a3.Value)] [] ?_))
    refine oe (nt (qe (br (nr (nr ?_)))))
    have aw:=leafR a8 au a5
    refine br (nr (nr ?_))
    obtain rfl:=sI aw
    exact re [.int .i64 a3.Value,.bool true]
   refine qk (bn (nt (qr (oN 3 [(10,vi (w64 (a4 - 1)))] [1,2,3,4] ?_))))
   exact oe (ct av () [10,4,1,2,3] [] 1)
  refine qx (nx (nx (bh ?_)))
  have ax:=leafB a8 ah a5
  exact mp ((),()) ax [] [] 1
 have ay:=(congrFun ac _).symm.trans ae
 refine nt (qs (qr (oN 2 [(9,vb false),(8,vi 0)] [] ?_)))
 refine oe (nt (qe ?_))
 obtain rfl:=sI ay
 exact re [.int .i64 0,.bool false]
theorem c_spec_FinalPay {W : World} {x0 : Store} {a0_0 : Option Addr} {c0_0 : Nat} {x1 : Int} {x2 : Int} {r : Int × Bool} (h : spec_FinalPay x0 x1 x2 = some r) (hv0_0 : SlView W x0.Facts a0_0 c0_0) :
  Gives0 Tryz.prog 196 #[vStore x0 (a0_0,c0_0),.int .i64 x1,.int .i64 x2] W (.tuple #[.int .i64 r.1,.bool r.2]):=by
 unfold spec_FinalPay at h
 refine en Tryz.func196 Tryz.ntmps196 ?_
 refine qs (qr (oB 3 [(3,.p 0 0)] [1,2] [(45,(eStore x0 (a0_0,c0_0)))] ?_))
 refine oe (nt (qs (qs ?_)))
 obtain ⟨a9,aa,ab⟩:=bS h
 refine JC_cut (τ:=Unit) (fun _=>[(1,vi x1),(2,vi x2),(3,.p 0 0),(18,vb a9)]) (fun _=>[(45,(eStore x0 (a0_0,c0_0)))]) (fun _=>[]) ?_ (fun _=>?_)
 ·refine qr (oN 1 [(11,.v (vStore x0 (a0_0,c0_0)))] [3,1,2] ?_)
  obtain ⟨ac,ae,af⟩:=bS aa
  refine k0 (fun _ w hs=>c_spec_StoreOk ae (hv0_0.k hs)) ?_
  refine oN 2 [(14,vb (!ac))] [3,1,2] ?_
  refine oS 14 af (fun ag=>?_) (fun ah=>?_)
  ·refine oN 4 [(18,vb true)] [3,1,2] ?_
   refine oe ?_
   obtain rfl:=sI ag
   exact mt () [1,2,3,18] [] 1
  refine oN 1 [(15,vi x1)] [14,3,1,2] ?_
  obtain ⟨ai,aj,ak⟩:=bS ah
  refine k0 (fun _ w hs=>c_spec_l04End aj) ?_
  refine oN 2 [(18,vb (!ai))] [3,1,2] ?_
  refine oe ?_
  obtain rfl:=sI ak
  exact mt () [1,2,3,18] [] 1
 refine nt (cC ab (fun al=>?_) (fun am=>?_))
 ·refine qs (qr (oN 2 [(7,vb false),(6,vi 0)] [] ?_))
  refine oe (nt (qe (nr ?_)))
  obtain rfl:=sI al
  exact re [.int .i64 0,.bool false]
 refine qk (nt (qs (qs (qr (oN 3 [(8,vi (w64 (x1 - 1)))] [2,3] ?_)))))
 refine oe (nt ?_)
 obtain ⟨b7,an,a5⟩:=bS am
 obtain ⟨ao,ap,a5⟩:=brkS a5
 refine JC_cutP (τ:=(Unit) × (Unit)) (fun y=>ao y.1 = some r) (fun a6=>[]) (fun a6=>[(45,(eStore x0 (a0_0,c0_0)))]) (fun a6=>[]) ?_ (fun a6 aq=>?_)
 ·refine qb (lp Unit an (fun a3 a7=>[(8,vi a3),(2,vi x2),(3,.p 0 0)]) (fun a3 a7=>[(45,(eStore x0 (a0_0,c0_0)))]) (fun a3 a7=>[]) () [8,2,3] [] 1 (fun a3 a7 b8 ar a8=>?_))
  refine qs (qs (qr (oN 2 [(22,vb (decide (a3 ≥ 0)))] [8,2,3] ?_)))
  refine oe (nt (cC ar (fun au=>?_) (fun av=>?_)))
  ·refine qk (nt (qs (qb (qs (qr (oN 3 [(28,vi x2),(27,vi a3),(26,.v (vStore x0 (a0_0,c0_0)))] [8,2,3] ?_))))))
   obtain ⟨a4,aw,ax⟩:=bS au
   refine k0 (fun _ w hs=>c_spec_ValueAt aw (hv0_0.k hs)) ?_
   refine oN 5 [(10,vb a4.2),(9,vi a4.1)] [8,2,3] ?_
   refine oe (nt (qs (qr (oN 1 [(32,vb a4.2)] [9,8,2,3] ?_))))
   refine oe (nt (cC ax (fun ay=>?_) (fun az=>?_)))
   ·refine qs (qr (oN 3 [(7,vb true),(6,vi a4.1)] [] ?_))
    refine oe (nt (qe (br (nr (nr ?_)))))
    have b4:=leafR a8 ay a5
    refine br (nr (nr ?_))
    obtain rfl:=sI b4
    exact re [.int .i64 a4.1,.bool true]
   refine qk (bn (nt (qr (oN 3 [(8,vi (w64 (a3 - 1)))] [2,3] ?_))))
   exact oe (ct az () [8,2,3] [] 1)
  refine qx (nx (nx (bh ?_)))
  have b5:=leafB a8 av a5
  exact mp ((),()) b5 [] [] 1
 have b6:=(congrFun ap _).symm.trans aq
 refine nt (qs (qr (oN 2 [(7,vb false),(6,vi 0)] [] ?_)))
 refine oe (nt (qe ?_))
 obtain rfl:=sI b6
 exact re [.int .i64 0,.bool false]
theorem c_spec_IndexAt {W : World} {x0 : Series} {a0_0 : Option Addr} {c0_0 : Nat} {x1 : Int} {x2 : Int} {r : Int × Bool} (h : spec_IndexAt x0 x1 x2 = some r) (hv0_0 : SlView W x0.Points a0_0 c0_0) :
  Gives0 Tryz.prog 227 #[vSeries x0 (a0_0,c0_0),.int .i64 x1,.int .i64 x2] W (.tuple #[.int .i64 r.1,.bool r.2]):=by
 unfold spec_IndexAt at h
 refine en Tryz.func227 Tryz.ntmps227 ?_
 refine qs (qr (oB 3 [(3,.p 0 0)] [1,2] [(48,(eSeries x0 (a0_0,c0_0)))] ?_))
 refine oe (nt (qs (qr (oN 1 [(8,vi (-1))] [3,1,2] ?_))))
 refine oe (nt (qs (qs (qr (oN 1 [(9,vi 0)] [8,3,1,2] ?_)))))
 refine oe (nt ?_)
 obtain ⟨bi,af,a7⟩:=bS h
 obtain ⟨ag,ah,a7⟩:=brkS a7
 refine JC_cutP (τ:=(Int) × (Unit)) (fun y=>ag y.1 = some r) (fun a5=>[(8,vi a5.1),(3,.p 0 0)]) (fun a5=>[(48,(eSeries x0 (a0_0,c0_0)))]) (fun a5=>[]) ?_ (fun a5 ai=>?_)
 ·refine qb (lp Unit af (fun a3 a8=>[(9,vi a3.1),(8,vi a3.2),(3,.p 0 0),(1,vi x1),(2,vi x2)]) (fun a3 a8=>[(48,(eSeries x0 (a0_0,c0_0)))]) (fun a3 a8=>[]) () [9,8,3,1,2] [] 1 (fun a3 a8 aj ak al=>?_))
  refine qs (qs (qr (oN 5 [(15,vb (decide (a3.1 < (x0.Points.length : Int))))] [9,8,3,1,2] ?_)))
  refine oe (nt (cC ak (fun am=>?_) (fun an=>?_)))
  ·refine qk (nt (qs (qb (qs (qr (oN 3 [(20,vi a3.1),(19,vs a0_0 x0.Points c0_0)] [9,8,3,1,2] ?_))))))
   obtain ⟨a4,aa,ao⟩:=bS am
   refine oi 3 (fun _ w hs=>(hv0_0.k hs)) aa ?_
   refine ol 85 0 (vPoint a4) (fun _ w hs=>(hv0_0.k hs).flatq aa) ?_
   refine oB 2 [(10,.p 1 0)] [9,8,3,1,2] [(48,(eSeries x0 (a0_0,c0_0))),(85,(ePoint a4))] ?_
   refine oe (nt (qs ?_))
   obtain ⟨ap,aq,ar⟩:=bS ao
   refine JC_cut (τ:=Unit) (fun _=>[(1,vi x1),(2,vi x2),(3,.p 0 0),(8,vi a3.2),(9,vi a3.1),(47,vb ap)]) (fun _=>[(48,(eSeries x0 (a0_0,c0_0))),(85,(ePoint a4))]) (fun _=>[]) ?_ (fun _=>?_)
   ·refine JC_quiet (by kernel_rfl) (by kernel_rfl) ?_
    refine qN 5 [(27,vb (decide (a4.Month ≤ x1)))] [10,9,8,3,1,2] ?_
    refine qS 27 aq (fun au=>?_) (fun av=>?_)
    ·refine qN 6 [(33,vb (decide (a4.Known ≤ x2)))] [10,9,8,3,1,2] ?_
     refine qS 33 au (fun aw=>?_) (fun ax=>?_)
     ·refine qN 3 [(36,vb (decide (a3.2 < 0)))] [33,10,9,8,3,1,2] ?_
      refine qS 36 aw (fun ay=>?_) (fun az=>?_)
      ·refine qN 11 [(47,vb true)] [9,8,3,1,2] ?_
       refine qz ?_
       obtain rfl:=sI ay
       exact mt () [1,2,3,8,9,47] [] 2
      refine qN 5 [(41,vi a3.2),(40,vs a0_0 x0.Points c0_0),(38,vi a4.Month)] [36,33,9,8,3,1,2] ?_
      obtain ⟨ab,ac,b4⟩:=bS az
      refine qi 3 (fun _ w hs=>(hv0_0.k hs)) ac ?_
      refine qN 1 [(43,.q a0_0 (Int.toNat a3.2 * 3))] [38,36,33,9,8,3,1,2] ?_
      refine ql 3 0 (.int .i64 ab.Month) (fun _ w hs=>(hv0_0.k hs).flatq ac) ?_
      refine qN 3 [(47,vb (decide (a4.Month ≥ ab.Month)))] [9,8,3,1,2] ?_
      refine qz ?_
      obtain rfl:=sI b4
      exact mt () [1,2,3,8,9,47] [] 2
     refine qN 14 [(47,vb false)] [9,8,3,1,2] ?_
     refine qz ?_
     obtain rfl:=sI ax
     exact mt () [1,2,3,8,9,47] [] 2
    refine qN 20 [(47,vb false)] [9,8,3,1,2] ?_
    refine qz ?_
    obtain rfl:=sI av
    exact mt () [1,2,3,8,9,47] [] 2
   refine nt ?_
   obtain ⟨b5,b6,b7⟩:=jS ar
   refine JC_cutP (τ:=(Int) × (Unit)) (fun y=>b5 y.1 = some aj) (fun a6=>[(1,vi x1),(2,vi x2),(3,.p 0 0),(8,vi a6.1),(9,vi a3.1)]) (fun a6=>[(48,(eSeries x0 (a0_0,c0_0))),(85,(ePoint a4))]) (fun a6=>[]) ?_ (fun a6 b8=>?_)
   ·refine cC b7 (fun b9=>?_) (fun ba=>?_)
    ·refine qr (oN 2 [(8,vi a3.1)] [1,2,3,9] ?_)
     exact oe (mp (a3.1,()) b9 [1,2,3,8,9] [] 2)
    exact qk (mp (a3.2,()) ba [1,2,3,8,9] [] 2)
   have bb:=(congrFun b6 _).symm.trans b8
   refine bn (nt (qr (oN 3 [(9,vi (w64 (a3.1 + 1)))] [1,2,3,8] ?_)))
   exact oe (ct bb () [9,8,3,1,2] [] 1)
  refine qx (nx (nx (bh ?_)))
  have bc:=leafB al an a7
  exact mp (a3.2,()) bc [8,3] [] 1
 have bd:=(congrFun ah _).symm.trans ai
 refine nt (qs (qs (qr (oN 2 [(50,vb (decide (a5.1 < 0)))] [8,3] ?_))))
 refine oe (nt (cC bd (fun be=>?_) (fun bf=>?_)))
 ·refine qs (qr (oN 2 [(7,vb false),(6,vi 0)] [] ?_))
  refine oe (nt (qe (nr ?_)))
  obtain rfl:=sI be
  exact re [.int .i64 0,.bool false]
 refine qk (nt (qs (qr (oN 3 [(53,vi a5.1),(52,vs a0_0 x0.Points c0_0)] [] ?_))))
 obtain ⟨a9,ae,bg⟩:=bS bf
 refine oi 3 (fun _ w hs=>(hv0_0.k hs)) ae ?_
 refine oN 1 [(55,.q a0_0 (Int.toNat a5.1 * 3 + 2))] [] ?_
 refine ol 3 2 (.int .i64 a9.Value) (fun _ w hs=>(hv0_0.k hs).flatq ae) ?_
 refine oN 2 [(7,vb true),(6,vi a9.Value)] [] ?_
 refine oe (nt (qe ?_))
 obtain rfl:=sI bg
 exact re [.int .i64 a9.Value,.bool true]
theorem c_spec_IndexRatio {W : World} {x0 : Series} {a0_0 : Option Addr} {c0_0 : Nat} {x1 : Int} {x2 : Int} {x3 : Int} {r : Frac × Bool} (h : spec_IndexRatio x0 x1 x2 x3 = some r) (hv0_0 : SlView W x0.Points a0_0 c0_0) :
  Gives0 Tryz.prog 197 #[vSeries x0 (a0_0,c0_0),.int .i64 x1,.int .i64 x2,.int .i64 x3] W (.tuple #[vFrac r.1,.bool r.2]):=by
 unfold spec_IndexRatio at h
 refine en Tryz.func197 Tryz.ntmps197 ?_
 refine qs (qr (oB 3 [(8,.p 1 0),(4,.p 0 0)] [1,2,3] [(48,(eSeries x0 (a0_0,c0_0))),(216,(eFrac (Frac.mk 0 0)))] ?_))
 refine oe (nt (qs (qr (oN 3 [(17,vi x3),(16,vi x1),(15,.v (vSeries x0 (a0_0,c0_0)))] [8,4,2,3] ?_))))
 obtain ⟨a3,a6,a7⟩:=bS h
 refine k0 (fun _ w hs=>c_spec_IndexAt a6 (hv0_0.k hs)) ?_
 refine oN 5 [(11,vb a3.2),(10,vi a3.1)] [8,4,2,3] ?_
 refine oe (nt (qs (qr (oN 3 [(24,vi x3),(23,vi x2),(22,.v (vSeries x0 (a0_0,c0_0)))] [11,10,8] ?_))))
 obtain ⟨a4,a8,a9⟩:=bS a7
 refine k0 (fun _ w hs=>c_spec_IndexAt a8 (hv0_0.k hs)) ?_
 refine oN 5 [(13,vb a4.2),(12,vi a4.1)] [11,10,8] ?_
 refine oe (nt (qs (qs ?_)))
 obtain ⟨aa,ab,ac⟩:=bS a9
 refine JC_cut (τ:=Unit) (fun _=>[(8,.p 1 0),(10,vi a3.1),(12,vi a4.1),(33,vb aa)]) (fun _=>[(48,(eSeries x0 (a0_0,c0_0))),(216,(eFrac (Frac.mk 0 0)))]) (fun _=>[]) ?_ (fun _=>?_)
 ·refine qr (oN 3 [(30,vb (!a3.2))] [13,12,10,8] ?_)
  refine oS 30 ab (fun ae=>?_) (fun af=>?_)
  ·refine oN 3 [(33,vb true)] [12,10,8] ?_
   refine oe ?_
   obtain rfl:=sI ae
   exact mt () [8,10,12,33] [] 2
  refine oN 3 [(33,vb (!a4.2))] [12,10,8] ?_
  refine oe ?_
  obtain rfl:=sI af
  exact mt () [8,10,12,33] [] 2
 refine nt (cC ac (fun ag=>?_) (fun ah=>?_))
 ·refine qs (qr (oN 3 [(9,vb false)] [8] ?_))
  refine oe (nt (qe (nr ?_)))
  obtain rfl:=sI ag
  exact re [vFrac (Frac.mk 0 0),.bool false]
 refine qk (nt (qs (qr (oN 2 [(36,vi a3.1),(35,vi a4.1)] [8] ?_))))
 obtain ⟨a5,ai,aj⟩:=bS ah
 refine k0 (fun _ w hs=>c_spec_FracNew ai) ?_
 refine oB 4 [(9,vb a5.2)] [8] [(48,(eSeries x0 (a0_0,c0_0))),(216,(eFrac a5.1))] ?_
 refine oe (nt (qe ?_))
 obtain rfl:=sI aj
 exact re [vFrac a5.1,.bool a5.2]
theorem c_spec_MonthOfKind {W : World} {x0 : List Event} {a0_0 : Option Addr} {c0_0 : Nat} {x1 : Int} {r : Int} (h : spec_MonthOfKind x0 x1 = some r) (hv0_0 : SlView W x0 a0_0 c0_0) :
  Gives0 Tryz.prog 198 #[.slice a0_0 x0.length c0_0,.int .i64 x1] W (.int .i64 r):=by
 unfold spec_MonthOfKind at h
 refine en Tryz.func198 Tryz.ntmps198 ?_
 refine qs (qr (oN 1 [] [0,1] ?_))
 refine oe (nt (qs (qr (oN 1 [(5,vi (-1))] [0,1] ?_))))
 refine oe (nt (qs (qs (qr (oN 1 [(6,vi 0)] [5,0,1] ?_)))))
 refine oe (nt ?_)
 obtain ⟨bb,ac,a6⟩:=bS h
 obtain ⟨ae,af,a6⟩:=brkS a6
 refine JC_cutP (τ:=(Int) × (Unit)) (fun y=>ae y.1 = some r) (fun a4=>[(5,vi a4.1)]) (fun a4=>[]) (fun a4=>[]) ?_ (fun a4 ag=>?_)
 ·refine qb (lp Unit ac (fun a3 a7=>[(6,vi a3.1),(5,vi a3.2),(0,vs a0_0 x0 c0_0),(1,vi x1)]) (fun a3 a7=>[]) (fun a3 a7=>[]) () [6,5,0,1] [] 0 (fun a3 a7 ah ai aj=>?_))
  refine qs (qs ?_)
  obtain ⟨ak,al,am⟩:=bS ai
  refine JC_cut (τ:=Unit) (fun _=>[(0,vs a0_0 x0 c0_0),(1,vi x1),(5,vi a3.2),(6,vi a3.1),(14,vb ak)]) (fun _=>[]) (fun _=>[]) ?_ (fun _=>?_)
  ·refine qr (oN 5 [(11,vb (decide (a3.1 < (x0.length : Int))))] [6,5,0,1] ?_)
   refine oS 11 al (fun an=>?_) (fun ao=>?_)
   ·refine oN 1 [(12,vs a0_0 x0 c0_0)] [11,6,5,0,1] ?_
    obtain ⟨ap,aq,ar⟩:=bS an
    refine k0 (fun _ w hs=>c_spec_EventsOk aq (hv0_0.k hs)) ?_
    refine oN 1 [(14,vb ap)] [6,5,0,1] ?_
    refine oe ?_
    obtain rfl:=sI ar
    exact mt () [0,1,5,6,14] [] 0
   refine oN 3 [(14,vb false)] [6,5,0,1] ?_
   refine oe ?_
   obtain rfl:=sI ao
   exact mt () [0,1,5,6,14] [] 0
  refine nt (cC am (fun au=>?_) (fun av=>?_))
  ·refine qk (nt (qs (qb (qs (qr (oN 2 [(18,vi a3.1),(17,vs a0_0 x0 c0_0)] [0,1,5,6] ?_))))))
   obtain ⟨a9,aa,aw⟩:=bS au
   refine oi 2 (fun _ w hs=>(hv0_0.k hs)) aa ?_
   refine oN 1 [(20,.q a0_0 (Int.toNat a3.1 * 2))] [0,1,5,6] ?_
   refine ol 3 0 (.int .i64 a9.Kind) (fun _ w hs=>(hv0_0.k hs).flatq aa) ?_
   refine oN 2 [(23,vb (a9.Kind == x1))] [0,1,5,6] ?_
   refine oe (nt ?_)
   obtain ⟨ax,ay,az⟩:=jS aw
   refine JC_cutP (τ:=(Int) × (Unit)) (fun y=>ax y.1 = some ah) (fun a5=>[(0,vs a0_0 x0 c0_0),(1,vi x1),(5,vi a5.1),(6,vi a3.1)]) (fun a5=>[]) (fun a5=>[]) ?_ (fun a5 b4=>?_)
   ·refine cC az (fun b5=>?_) (fun b6=>?_)
    ·refine qr (oN 2 [(25,vi a3.1),(24,vs a0_0 x0 c0_0)] [0,1,6] ?_)
     obtain ⟨a8,ab,b7⟩:=bS b5
     refine oi 2 (fun _ w hs=>(hv0_0.k hs)) ab ?_
     refine oN 1 [(27,.q a0_0 (Int.toNat a3.1 * 2 + 1))] [0,1,6] ?_
     refine ol 3 1 (.int .i64 a8.Month) (fun _ w hs=>(hv0_0.k hs).flatq ab) ?_
     refine oN 1 [(5,vi a8.Month)] [0,1,6] ?_
     exact oe (mp (a8.Month,()) b7 [0,1,5,6] [] 0)
    exact qk (mp (a3.2,()) b6 [0,1,5,6] [] 0)
   have b8:=(congrFun ay _).symm.trans b4
   refine bn (nt (qr (oN 3 [(6,vi (w64 (a3.1 + 1)))] [0,1,5] ?_)))
   exact oe (ct b8 () [6,5,0,1] [] 0)
  refine qx (nx (nx (bh ?_)))
  have b9:=leafB aj av a6
  exact mp (a3.2,()) b9 [5] [] 0
 have ba:=(congrFun af _).symm.trans ag
 refine nt (qs (qr (oN 2 [(4,vi a4.1)] [] ?_)))
 refine oe (nt (qe ?_))
 obtain rfl:=sI ba
 exact re [.int .i64 a4.1]
theorem c_spec_AgeAt {W : World} {x0 : Int} {x1 : Int} {x2 : Int} {r : Int} (h : spec_AgeAt x0 x1 x2 = some r)  :
  Gives0 Tryz.prog 199 #[.int .i64 x0,.int .i64 x1,.int .i64 x2] W (.int .i64 r):=by
 unfold spec_AgeAt at h
 refine en Tryz.func199 Tryz.ntmps199 ?_
 refine qs (qr (oN 1 [] [0,1,2] ?_))
 refine oe (nt (qs (qs ?_)))
 obtain ⟨a3,a4,a5⟩:=bS h
 refine JC_cut (τ:=Unit) (fun _=>[(0,vi x0),(1,vi x1),(2,vi x2),(20,vb a3)]) (fun _=>[]) (fun _=>[]) ?_ (fun _=>?_)
 ·refine qr (oN 1 [(8,vi x0)] [0,1,2] ?_)
  obtain ⟨a6,a7,a8⟩:=bS a4
  refine k0 (fun _ w hs=>c_spec_MonthOk a7) ?_
  refine oN 2 [(11,vb (!a6))] [0,1,2] ?_
  refine oS 11 a8 (fun a9=>?_) (fun aa=>?_)
  ·refine oN 9 [(20,vb true)] [0,1,2] ?_
   refine oe ?_
   obtain rfl:=sI a9
   exact mt () [0,1,2,20] [] 0
  refine oN 1 [(12,vi x1)] [11,0,1,2] ?_
  obtain ⟨ab,ac,ae⟩:=bS aa
  refine k0 (fun _ w hs=>c_spec_MonthOk ac) ?_
  refine oN 3 [(16,vb (!ab))] [0,1,2] ?_
  refine oS 16 ae (fun af=>?_) (fun ag=>?_)
  ·refine oN 4 [(20,vb true)] [0,1,2] ?_
   refine oe ?_
   obtain rfl:=sI af
   exact mt () [0,1,2,20] [] 0
  refine oN 4 [(20,vb (decide (x1 < x0)))] [0,1,2] ?_
  refine oe ?_
  obtain rfl:=sI ag
  exact mt () [0,1,2,20] [] 0
 refine nt (cC a5 (fun ah=>?_) (fun ai=>?_))
 ·refine qs (qr (oN 1 [(6,vi (-1))] [] ?_))
  refine oe (nt (qe (nr ?_)))
  obtain rfl:=sI ah
  exact re [.int .i64 (-1)]
 refine qk (nt (qs (qr (oN 4 [(7,vi (w64 (x1 - x0)))] [2] ?_))))
 refine oe (nt (qs (qs (qr (oN 1 [(24,vi x2)] [7] ?_)))))
 refine oe (nt (qb (qs (qr (oN 2 [(25,vb (x2 == 1))] [24,7] ?_)))))
 refine oe (nt (cC ai (fun aj=>?_) (fun ak=>?_)))
 ·refine qs (qr (oN 3 [(6,vi (w64 (Int.tdiv (w64 (x1 - x0)) 12)))] [] ?_))
  refine oe (nt (qe (br (nr ?_))))
  obtain rfl:=sI aj
  exact re [.int .i64 (w64 (Int.tdiv (w64 (x1 - x0)) 12))]
 refine qs (qr (oN 2 [(29,vb (x2 == 2))] [24,7] ?_))
 refine oe (nt (cC ak (fun al=>?_) (fun am=>?_)))
 ·refine qs (qr (oN 4 [(6,vi (w64 (Int.tdiv (w64 ((w64 (x1 - x0)) + 6)) 12)))] [] ?_))
  refine oe (nt (qe (br (nr ?_))))
  obtain rfl:=sI al
  exact re [.int .i64 (w64 (Int.tdiv (w64 ((w64 (x1 - x0)) + 6)) 12))]
 refine qs (qr (oN 2 [(34,vb (x2 == 3))] [7] ?_))
 refine oe (nt (cC am (fun an=>?_) (fun ao=>?_)))
 ·refine qs (qr (oN 4 [(6,vi (w64 ((w64 (Int.tdiv (w64 (x1 - x0)) 12)) + 1)))] [] ?_))
  refine oe (nt (qe (br (nr ?_))))
  obtain rfl:=sI an
  exact re [.int .i64 (w64 ((w64 (Int.tdiv (w64 (x1 - x0)) 12)) + 1))]
 refine qk (bn (nt (qs (qr (oN 1 [(6,vi (-1))] [] ?_)))))
 refine oe (nt (qe ?_))
 obtain rfl:=sI ao
 exact re [.int .i64 (-1)]
theorem c_spec_l08Vars {W : World} {x0 : List Frac} {a0_0 : Option Addr} {c0_0 : Nat} {r : Bool} (h : spec_l08Vars x0 = some r) (hv0_0 : SlView W x0 a0_0 c0_0) :
  Gives0 Tryz.prog 200 #[.slice a0_0 x0.length c0_0] W (.bool r):=by
 unfold spec_l08Vars at h
 refine en Tryz.func200 Tryz.ntmps200 ?_
 refine qs (qr (oN 1 [] [0] ?_))
 refine oe (nt (qs (qs (qr (oN 1 [(3,vi 0)] [0] ?_)))))
 refine oe (nt ?_)
 obtain ⟨ar,a9,a4⟩:=bS h
 obtain ⟨aa,ab,a4⟩:=brkS a4
 refine JC_cutP (τ:=(Unit) × (Unit)) (fun y=>aa y.1 = some r) (fun a5=>[(0,vs a0_0 x0 c0_0)]) (fun a5=>[]) (fun a5=>[]) ?_ (fun a5 ac=>?_)
 ·refine qb (lp Unit a9 (fun a3 a6=>[(3,vi a3),(0,vs a0_0 x0 c0_0)]) (fun a3 a6=>[]) (fun a3 a6=>[]) () [3,0] [] 0 (fun a3 a6 au ae a7=>?_))
  refine qs (qs (qr (oN 4 [(7,vb (decide (a3 < (x0.length : Int))))] [3,0] ?_)))
  refine oe (nt (cC ae (fun af=>?_) (fun ag=>?_)))
  ·refine qk (nt (qs (qb (qs (qr (oN 2 [(11,vi a3),(10,vs a0_0 x0 c0_0)] [3,0] ?_))))))
   obtain ⟨ah,a8,ai⟩:=bS af
   refine oi 2 (fun _ w hs=>(hv0_0.k hs)) a8 ?_
   refine ol 216 0 (vFrac ah) (fun _ w hs=>(hv0_0.k hs).flatq a8) ?_
   obtain ⟨aj,ak,al⟩:=bS ai
   refine k0 (fun _ w hs=>c_spec_FracOk ak) ?_
   refine oN 1 [(15,vb (!aj))] [3,0] ?_
   refine oe (nt (cC al (fun am=>?_) (fun an=>?_)))
   ·refine qs (qr (oN 1 [(2,vb false)] [] ?_))
    refine oe (nt (qe (br (nr (nr ?_)))))
    have ao:=leafR a7 am a4
    refine br (nr (nr ?_))
    obtain rfl:=sI ao
    exact re [.bool false]
   refine qk (bn (nt (qr (oN 3 [(3,vi (w64 (a3 + 1)))] [0] ?_))))
   exact oe (ct an () [3,0] [] 0)
  refine qx (nx (nx (bh ?_)))
  have ap:=leafB a7 ag a4
  exact mp ((),()) ap [0] [] 0
 have aq:=(congrFun ab _).symm.trans ac
 refine nt (qs (qr (oN 4 [(2,vb ((x0.length : Int) == 8))] [] ?_)))
 refine oe (nt (qe ?_))
 obtain rfl:=sI aq
 exact re [.bool ((x0.length : Int) == 8)]
theorem c_spec_l22Vars {W : World} {x0 : Case} {b0 : AC × AC × AC × AC × AC} {x1 : Int} {x2 : Int} {r : (List Frac) × Bool} (h : spec_l22Vars x0 x1 x2 = some r) (hv0_0 : SlView W x0.Book.Rules b0.1.1 b0.1.2) (hv0_1 : SlView W x0.Store.Facts b0.2.1.1 b0.2.1.2) (hv0_2 : SlView W x0.Series.Points b0.2.2.1.1 b0.2.2.1.2) (hv0_3 : SlView W x0.Member.Spells b0.2.2.2.1.1 b0.2.2.2.1.2) (hv0_4 : SlView W x0.Member.Events b0.2.2.2.2.1 b0.2.2.2.2.2) :
  Gives Tryz.prog 149 #[vCase x0 b0,.int .i64 x1,.int .i64 x2] W (fun y : AC=>.tuple #[.slice y.1 r.1.length y.2,.bool r.2]) (fun y=>[SlRes 216 r.1 y.1 y.2]):=by
 unfold spec_l22Vars at h
 refine en Tryz.func149 Tryz.ntmps149 ?_
 refine qs (qr (oB 3 [(3,.p 0 0)] [1,2] [(54,(eCase x0 b0))] ?_))
 refine oe (nt (qs (qs ?_)))
 obtain ⟨af,ag,ah⟩:=bS h
 refine JC_cut (τ:=Unit) (fun _=>[(1,vi x1),(2,vi x2),(3,.p 0 0),(32,vb af)]) (fun _=>[(54,(eCase x0 b0))]) (fun _=>[]) ?_ (fun _=>?_)
 ·refine qr (oN 1 [(18,vi x1)] [3,1,2] ?_)
  obtain ⟨ai,aj,ak⟩:=bS ag
  refine k0 (fun γ w hs=>c_spec_MonthOk aj) ?_
  refine oN 2 [(21,vb (!ai))] [3,1,2] ?_
  refine oS 21 ak (fun al=>?_) (fun am=>?_)
  ·refine oN 11 [(32,vb true)] [3,1,2] ?_
   refine oe ?_
   obtain rfl:=sI al
   exact mt () [1,2,3,32] [] 1
  refine oN 1 [(22,vi x2)] [21,3,1,2] ?_
  obtain ⟨an,ao,ap⟩:=bS am
  refine k0 (fun γ w hs=>c_spec_MonthOk ao) ?_
  refine oN 3 [(26,vb (!an))] [3,1,2] ?_
  refine oS 26 ap (fun aq=>?_) (fun ar=>?_)
  ·refine oN 6 [(32,vb true)] [3,1,2] ?_
   refine oe ?_
   obtain rfl:=sI aq
   exact mt () [1,2,3,32] [] 1
  refine oN 6 [(32,vb (decide (x1 < x0.Member.Joined)))] [3,1,2] ?_
  refine oe ?_
  obtain rfl:=sI ar
  exact mt () [1,2,3,32] [] 1
 refine nt (cC ah (fun au=>?_) (fun av=>?_))
 ·refine qs (qr (ob [] [] 216 0 [] ([] : List Frac) (own_flat (by kernel_rfl)) (fun ab=>?_)))
  refine oN 2 [(7,vb false),(6,sv ab ([] : List Frac))] [] ?_
  refine oe (nt (qe (nr (rt [.slice ab.1 ([] : List Frac).length ab.2,.bool false] (fun γ w hs=>?_)))))
  rw [← sI au]
  exact ⟨ab,rfl,hs.kept.toBelow,(hs.takeR (is:=[0]) rfl).fresh⟩
 refine qk (nt (qs (qr (oN 4 [(38,vi x1),(37,sv b0.2.2.2.1 x0.Member.Spells)] [1,2,3] ?_))))
 obtain ⟨c9,aw,ax⟩:=bS av
 refine k0 (fun γ w hs=>c_spec_ServiceIn aw (hv0_3.k hs)) ?_
 obtain ⟨a4,ay,az⟩:=bS ax
 refine k0 (fun γ w hs=>c_spec_FracNew ay) ?_
 refine oB 6 [(8,.p 1 0)] [1,2,3] [(54,(eCase x0 b0)),(216,(eFrac a4.1))] ?_
 refine oe (nt (qs (qr (oN 4 [(47,vi x2),(46,vi x1),(45,.v (vStore x0.Store b0.2.1))] [8,1,2,3] ?_))))
 obtain ⟨a5,b4,b5⟩:=bS az
 refine k0 (fun γ w hs=>c_spec_FinalPay b4 (hv0_1.k hs)) ?_
 refine oN 5 [(10,vi a5.1)] [8,1,2,3] ?_
 refine oe (nt (qs (qr (oN 7 [(58,vi x2),(57,vi x1),(56,vi x0.Member.Joined),(53,.v (vSeries x0.Series b0.2.2.1))] [10,8,1,3] ?_))))
 obtain ⟨aa,b6,b7⟩:=bS b5
 refine k0 (fun γ w hs=>c_spec_IndexRatio b6 (hv0_2.k hs)) ?_
 refine oB 6 [(13,vb aa.2),(12,.p 2 0)] [10,8,1,3] [(54,(eCase x0 b0)),(216,(eFrac a4.1)),(216,(eFrac aa.1))] ?_
 refine oe (nt (qs (qs (qr (oN 2 [(63,vb (!aa.2))] [12,10,8,1,3] ?_)))))
 refine oe (nt ?_)
 obtain ⟨b8,b9,ba⟩:=jS b7
 refine JC_cutP (τ:=(Int × Int) × (Unit)) (fun y=>b8 y.1 = some r) (fun a3=>[(12,.p 2 0),(10,vi a5.1),(8,.p 1 0),(1,vi x1),(3,.p 0 0)]) (fun a3=>[(54,(eCase x0 b0)),(216,(eFrac a4.1)),(216,(eFrac (Frac.mk a3.1.1 a3.1.2)))]) (fun a3=>[]) ?_ (fun a3 bb=>?_)
 ·refine cC ba (fun bc=>?_) (fun bd=>?_)
  ·refine qr (oB 2 [] [12,10,8,1,3] [(54,(eCase x0 b0)),(216,(eFrac a4.1)),(216,(eFrac (Frac.mk 1 1)))] ?_)
   exact oe (mp ((1,1),()) bc [12,10,8,1,3] [] 3)
  exact qk (mp ((aa.1.Num,aa.1.Den),()) bd [12,10,8,1,3] [] 3)
 have be:=(congrFun b9 _).symm.trans bb
 refine nt (qs (qr (oN 1 [(14,vi 0)] [12,10,8,1,3] ?_)))
 refine oe (nt (qs (qr (oN 3 [(67,sv b0.2.2.2.2 x0.Member.Events)] [14,12,10,8,1,3] ?_))))
 obtain ⟨a9,bf,bg⟩:=bS be
 refine k0 (fun γ w hs=>c_spec_MonthOfKind bf (hv0_4.k hs)) ?_
 refine oN 1 [(15,vi a9)] [14,12,10,8,1,3] ?_
 refine oe (nt (qs (qs ?_)))
 obtain ⟨bi,bj,bk⟩:=bS bg
 refine JC_cut (τ:=Unit) (fun _=>[(1,vi x1),(3,.p 0 0),(8,.p 1 0),(10,vi a5.1),(12,.p 2 0),(14,vi 0),(15,vi a9),(75,vb bi)]) (fun _=>[(54,(eCase x0 b0)),(216,(eFrac a4.1)),(216,(eFrac (Frac.mk a3.1.1 a3.1.2)))]) (fun _=>[]) ?_ (fun _=>?_)
 ·refine qr (oN 3 [(71,vb (decide (a9 ≥ 0)))] [15,14,12,10,8,1,3] ?_)
  refine oS 71 bj (fun bl=>?_) (fun bm=>?_)
  ·refine oN 4 [(75,vb (decide (a9 ≤ x1)))] [15,14,12,10,8,1,3] ?_
   refine oe ?_
   obtain rfl:=sI bl
   exact mt () [1,3,8,10,12,14,15,75] [] 3
  refine oN 4 [(75,vb false)] [15,14,12,10,8,1,3] ?_
  refine oe ?_
  obtain rfl:=sI bm
  exact mt () [1,3,8,10,12,14,15,75] [] 3
 refine nt ?_
 obtain ⟨bo,bp,bq⟩:=jS bk
 refine JC_cutP (τ:=(Int) × (Unit)) (fun y=>bo y.1 = some r) (fun a6=>[(1,vi x1),(3,.p 0 0),(8,.p 1 0),(10,vi a5.1),(12,.p 2 0),(14,vi a6.1)]) (fun a6=>[(54,(eCase x0 b0)),(216,(eFrac a4.1)),(216,(eFrac (Frac.mk a3.1.1 a3.1.2)))]) (fun a6=>[]) ?_ (fun a6 bs=>?_)
 ·refine cC bq (fun bu=>?_) (fun bv=>?_)
  ·refine qr (oN 4 [(14,vi (w64 (x1 - a9)))] [1,3,8,10,12] ?_)
   exact oe (mp (w64 (x1 - a9),()) bu [1,3,8,10,12,14] [] 3)
  exact qk (mp (0,()) bv [1,3,8,10,12,14] [] 3)
 have bw:=(congrFun bp _).symm.trans bs
 refine nt (qs (qr (oB 3 [(16,.p 3 0)] [1,3,8,10,12,14] [(54,(eCase x0 b0)),(216,(eFrac a4.1)),(216,(eFrac (Frac.mk a3.1.1 a3.1.2))),(216,(eFrac (Frac.mk 0 1)))] ?_)))
 refine oe (nt (qs ?_))
 obtain ⟨a8,bz,c3⟩:=bS bw
 refine JC_cut (τ:=AC) (fun a7=>[(17,sv a7 ([a4.1,Frac.mk a5.1 1,Frac.mk a8 1,Frac.mk a3.1.1 a3.1.2,Frac.mk a6.1 1,Frac.mk x1 1,Frac.mk 0 1,Frac.mk 0 1] : List Frac))]) (fun a7=>[(54,(eCase x0 b0)),(216,(eFrac a4.1)),(216,(eFrac (Frac.mk a3.1.1 a3.1.2))),(216,(eFrac (Frac.mk 0 1)))]) (fun a7=>[SlRes 216 ([a4.1,Frac.mk a5.1 1,Frac.mk a8 1,Frac.mk a3.1.1 a3.1.2,Frac.mk a6.1 1,Frac.mk x1 1,Frac.mk 0 1,Frac.mk 0 1] : List Frac) a7.1 a7.2]) ?_ (fun a7=>?_)
 ·refine jw [16,1,3,8,10,12,14] [] ?_
  refine JC_heldN (ks:=[0,1,2,3]) (Rk:=[]) 18 (by kernel_rfl) (by kernel_rfl) ?_
  refine htq 0 (.v (vFrac a4.1)) [] ?_
  refine hk [80,16,1,3,10,12,14] ?_
  refine htq 1 (vi a5.1) [] ?_
  refine hk [81,80,16,1,3,12,14] ?_
  refine htq 2 (.v (vFrac (Frac.mk a5.1 1))) [] ?_
  refine hk [82,80,16,1,3,12,14] ?_
  refine htq 3 (.p 0 3) [] ?_
  refine hk [83,82,80,16,1,12,14] ?_
  refine htq 4 (.p 0 3) [] ?_
  refine hk [84,82,80,16,1,12,14] ?_
  refine htq 5 (vi x0.Member.Birth) [] ?_
  refine hk [85,82,80,16,1,12,14] ?_
  refine htq 6 (vi x1) [] ?_
  refine htq 9 (.v (vFrac (Frac.mk a3.1.1 a3.1.2))) [] ?_
  refine hk [89,86,85,82,80,16,1,14] ?_
  refine htq 10 (vi a6.1) [] ?_
  refine hk [90,89,86,85,82,80,16,1] ?_
  refine htq 11 (.v (vFrac (Frac.mk a6.1 1))) [] ?_
  refine hk [91,89,86,85,82,80,16,1] ?_
  refine htq 12 (vi x1) [] ?_
  refine hk [92,91,89,86,85,82,80,16] ?_
  refine htq 13 (.v (vFrac (Frac.mk x1 1))) [] ?_
  refine hk [93,91,89,86,85,82,80,16] ?_
  refine htq 14 (.v (vFrac (Frac.mk 0 1))) [] ?_
  refine htq 15 (.v (vFrac (Frac.mk 0 1))) [] ?_
  refine hk [95,94,93,91,89,86,85,82,80] ?_
  refine ha1 7 ?_
  refine hi (fun γ0 δ hm=>?_)
  refine g0 (fun w hs=>c_spec_AgeAt bz) ?_
  refine gn hm [87,95,94,93,91,89,82,80] [] ?_
  refine htq 8 (.v (vFrac (Frac.mk a8 1))) [] ?_
  refine hk [88,95,94,93,91,89,82,80] ?_
  refine ha1 16 ?_
  refine hi (fun γ0 δ hm=>?_)
  refine gb [] [] 216 8 [.int .i64 a4.1.Num,.int .i64 a4.1.Den,.int .i64 a5.1,.int .i64 1,.int .i64 a8,.int .i64 1,.int .i64 a3.1.1,.int .i64 a3.1.2,.int .i64 a6.1,.int .i64 1,.int .i64 x1,.int .i64 1,.int .i64 0,.int .i64 1,.int .i64 0,.int .i64 1] ([a4.1,Frac.mk a5.1 1,Frac.mk a8 1,Frac.mk a3.1.1 a3.1.2,Frac.mk a6.1 1,Frac.mk x1 1,Frac.mk 0 1,Frac.mk 0 1] : List Frac) (own_flat (by kernel_rfl)) (fun ae=>?_)
  refine gn hm [96] [] ?_
  refine htq 17 (sv ae ([a4.1,Frac.mk a5.1 1,Frac.mk a8 1,Frac.mk a3.1.1 a3.1.2,Frac.mk a6.1 1,Frac.mk x1 1,Frac.mk 0 1,Frac.mk 0 1] : List Frac)) [] ?_
  refine hk [17] ?_
  exact hd ae [17] [0] 4
 refine nt (qs (qs (qr (oN 1 [(97,sv a7 ([a4.1,Frac.mk a5.1 1,Frac.mk a8 1,Frac.mk a3.1.1 a3.1.2,Frac.mk a6.1 1,Frac.mk x1 1,Frac.mk 0 1,Frac.mk 0 1] : List Frac))] [17] ?_))))
 obtain ⟨c4,c5,c6⟩:=bS c3
 refine k0 (fun γ w hs=>c_spec_l08Vars c5 (hs.view 0 rfl)) ?_
 refine oN 1 [(99,vb (!c4))] [17] ?_
 refine oe (nt (cC c6 (fun c7=>?_) (fun c8=>?_)))
 ·refine qs (qr (ob [] [SlRes 216 ([a4.1,Frac.mk a5.1 1,Frac.mk a8 1,Frac.mk a3.1.1 a3.1.2,Frac.mk a6.1 1,Frac.mk x1 1,Frac.mk 0 1,Frac.mk 0 1] : List Frac) a7.1 a7.2] 216 0 [] ([] : List Frac) (own_flat (by kernel_rfl)) (fun ac=>?_)))
  refine oN 2 [(7,vb false),(6,sv ac ([] : List Frac))] [] ?_
  refine oe (nt (qe (nr (rt [.slice ac.1 ([] : List Frac).length ac.2,.bool false] (fun γ w hs=>?_)))))
  rw [← sI c7]
  exact ⟨ac,rfl,hs.kept.toBelow,(hs.takeR (is:=[0]) rfl).fresh⟩
 refine qk (nt (qs (qr (oN 3 [(7,vb true),(6,sv a7 ([a4.1,Frac.mk a5.1 1,Frac.mk a8 1,Frac.mk a3.1.1 a3.1.2,Frac.mk a6.1 1,Frac.mk x1 1,Frac.mk 0 1,Frac.mk 0 1] : List Frac))] [] ?_))))
 refine oe (nt (qe (rt [.slice a7.1 ([a4.1,Frac.mk a5.1 1,Frac.mk a8 1,Frac.mk a3.1.1 a3.1.2,Frac.mk a6.1 1,Frac.mk x1 1,Frac.mk 0 1,Frac.mk 0 1] : List Frac).length a7.2,.bool true] (fun γ w hs=>?_))))
 rw [← sI c8]
 exact ⟨a7,rfl,hs.kept.toBelow,(hs.takeR (is:=[0]) rfl).fresh⟩
theorem c_spec_l10For {W : World} {x0 : Book} {a0_0 : Option Addr} {c0_0 : Nat} {x1 : Int} {x2 : Int} {x3 : Int} {r : Int} (h : spec_l10For x0 x1 x2 x3 = some r) (hv0_0 : SlView W x0.Rules a0_0 c0_0) :
  Gives0 Tryz.prog 229 #[vBook x0 (a0_0,c0_0),.int .i64 x1,.int .i64 x2,.int .i64 x3] W (.int .i64 r):=by
 unfold spec_l10For at h
 refine en Tryz.func229 Tryz.ntmps229 ?_
 refine qs (qr (oB 2 [(4,.p 0 0)] [1,2,3] [(42,(eBook x0 (a0_0,c0_0)))] ?_))
 refine oe (nt (qs (qr (oN 1 [(9,vi (-1))] [4,1,2,3] ?_))))
 refine oe (nt (qs (qs (qr (oN 1 [(10,vi 0)] [9,4,1,2,3] ?_)))))
 refine oe (nt ?_)
 obtain ⟨bl,af,a9⟩:=bS h
 obtain ⟨ag,ah,a9⟩:=brkS a9
 refine JC_cutP (τ:=(Int) × (Unit)) (fun y=>ag y.1 = some r) (fun a5=>[(9,vi a5.1)]) (fun a5=>[(42,(eBook x0 (a0_0,c0_0)))]) (fun a5=>[]) ?_ (fun a5 ai=>?_)
 ·refine qb (lp Unit af (fun a3 aa=>[(10,vi a3.1),(9,vi a3.2),(4,.p 0 0),(1,vi x1),(2,vi x2),(3,vi x3)]) (fun a3 aa=>[(42,(eBook x0 (a0_0,c0_0)))]) (fun a3 aa=>[]) () [10,9,4,1,2,3] [] 1 (fun a3 aa aj ak al=>?_))
  refine qs (qs (qr (oN 5 [(16,vb (decide (a3.1 < (x0.Rules.length : Int))))] [10,9,4,1,2,3] ?_)))
  refine oe (nt (cC ak (fun am=>?_) (fun an=>?_)))
  ·refine qk (nt (qs (qb (qs (qr (oN 3 [(21,vi a3.1),(20,vs a0_0 x0.Rules c0_0)] [10,9,4,1,2,3] ?_))))))
   obtain ⟨a4,ab,ao⟩:=bS am
   refine oi 7 (fun _ w hs=>(hv0_0.k hs)) ab ?_
   obtain ⟨_,⟨a6,a7,rfl,bm⟩,ap⟩:=SlView.at hv0_0 (idx_some ab).2.2
   refine ol 188 0 (vRule a4 (a6,a7)) (fun _ w hs=>⟨(hv0_0.k hs).ne (idx_some ab).2.2,ap.kept hs.kept⟩) ?_
   refine oB 2 [(11,.p 1 0)] [10,9,4,1,2,3] [(42,(eBook x0 (a0_0,c0_0))),(188,(eRule a4 (a6,a7)))] ?_
   refine oe (nt (qs ?_))
   obtain ⟨aq,ar,au⟩:=bS ao
   refine JC_cut (τ:=Unit) (fun _=>[(1,vi x1),(2,vi x2),(3,vi x3),(4,.p 0 0),(9,vi a3.2),(10,vi a3.1),(60,vb aq)]) (fun _=>[(42,(eBook x0 (a0_0,c0_0))),(188,(eRule a4 (a6,a7)))]) (fun _=>[]) ?_ (fun _=>?_)
   ·refine JC_quiet (by kernel_rfl) (by kernel_rfl) ?_
    refine qN 5 [(28,vb (a4.Name == x1))] [11,10,9,4,1,2,3] ?_
    refine qS 28 ar (fun av=>?_) (fun aw=>?_)
    ·refine qN 6 [(34,vb (decide (a4.From ≤ x2)))] [11,10,9,4,1,2,3] ?_
     refine qS 34 av (fun ax=>?_) (fun ay=>?_)
     ·refine qN 6 [(40,vb (decide (x2 < a4.To)))] [11,10,9,4,1,2,3] ?_
      refine qS 40 ax (fun az=>?_) (fun b4=>?_)
      ·refine qN 6 [(46,vb (decide (x3 < a4.Joined)))] [11,10,9,4,1,2,3] ?_
       refine qS 46 az (fun b5=>?_) (fun b6=>?_)
       ·refine qN 3 [(49,vb (decide (a3.2 < 0)))] [46,11,10,9,4,1,2,3] ?_
        refine qS 49 b5 (fun b7=>?_) (fun b8=>?_)
        ·refine qN 11 [(60,vb true)] [10,9,4,1,2,3] ?_
         refine qz ?_
         obtain rfl:=sI b7
         exact mt () [1,2,3,4,9,10,60] [] 2
        refine qN 5 [(54,vi a3.2),(53,vs a0_0 x0.Rules c0_0),(51,vi a4.Rank)] [49,46,10,9,4,1,2,3] ?_
        obtain ⟨ae,ac,b9⟩:=bS b8
        refine qi 7 (fun _ w hs=>(hv0_0.k hs)) ac ?_
        refine qN 1 [(56,.q a0_0 (Int.toNat a3.2 * 7 + 4))] [51,49,46,10,9,4,1,2,3] ?_
        obtain ⟨_,⟨bo,bp,rfl,bq⟩,ba⟩:=SlView.at hv0_0 (idx_some ac).2.2
        refine ql 3 4 (.int .i64 ae.Rank) (fun _ w hs=>⟨(hv0_0.k hs).ne (idx_some ac).2.2,ba.kept hs.kept⟩) ?_
        refine qN 3 [(60,vb (decide (a4.Rank > ae.Rank)))] [10,9,4,1,2,3] ?_
        refine qz ?_
        obtain rfl:=sI b9
        exact mt () [1,2,3,4,9,10,60] [] 2
       refine qN 14 [(60,vb false)] [10,9,4,1,2,3] ?_
       refine qz ?_
       obtain rfl:=sI b6
       exact mt () [1,2,3,4,9,10,60] [] 2
      refine qN 20 [(60,vb false)] [10,9,4,1,2,3] ?_
      refine qz ?_
      obtain rfl:=sI b4
      exact mt () [1,2,3,4,9,10,60] [] 2
     refine qN 26 [(60,vb false)] [10,9,4,1,2,3] ?_
     refine qz ?_
     obtain rfl:=sI ay
     exact mt () [1,2,3,4,9,10,60] [] 2
    refine qN 32 [(60,vb false)] [10,9,4,1,2,3] ?_
    refine qz ?_
    obtain rfl:=sI aw
    exact mt () [1,2,3,4,9,10,60] [] 2
   refine nt ?_
   obtain ⟨bb,bc,bd⟩:=jS au
   refine JC_cutP (τ:=(Int) × (Unit)) (fun y=>bb y.1 = some aj) (fun a8=>[(1,vi x1),(2,vi x2),(3,vi x3),(4,.p 0 0),(9,vi a8.1),(10,vi a3.1)]) (fun a8=>[(42,(eBook x0 (a0_0,c0_0))),(188,(eRule a4 (a6,a7)))]) (fun a8=>[]) ?_ (fun a8 be=>?_)
   ·refine cC bd (fun bf=>?_) (fun bg=>?_)
    ·refine qr (oN 2 [(9,vi a3.1)] [1,2,3,4,10] ?_)
     exact oe (mp (a3.1,()) bf [1,2,3,4,9,10] [] 2)
    exact qk (mp (a3.2,()) bg [1,2,3,4,9,10] [] 2)
   have bi:=(congrFun bc _).symm.trans be
   refine bn (nt (qr (oN 3 [(10,vi (w64 (a3.1 + 1)))] [1,2,3,4,9] ?_)))
   exact oe (ct bi () [10,9,4,1,2,3] [] 1)
  refine qx (nx (nx (bh ?_)))
  have bj:=leafB al an a9
  exact mp (a3.2,()) bj [9] [] 1
 have bk:=(congrFun ah _).symm.trans ai
 refine nt (qs (qr (oN 2 [(8,vi a5.1)] [] ?_)))
 refine oe (nt (qe ?_))
 obtain rfl:=sI bk
 exact re [.int .i64 a5.1]
theorem c_spec_RuleFor {W : World} {x0 : Book} {a0_0 : Option Addr} {c0_0 : Nat} {x1 : Int} {x2 : Int} {x3 : Int} {r : Int} (h : spec_RuleFor x0 x1 x2 x3 = some r) (hv0_0 : SlView W x0.Rules a0_0 c0_0) :
  Gives0 Tryz.prog 201 #[vBook x0 (a0_0,c0_0),.int .i64 x1,.int .i64 x2,.int .i64 x3] W (.int .i64 r):=by
 unfold spec_RuleFor at h
 refine en Tryz.func201 Tryz.ntmps201 ?_
 refine qs (qr (oB 2 [(4,.p 0 0)] [1,2,3] [(42,(eBook x0 (a0_0,c0_0)))] ?_))
 refine oe (nt (qs (qs (qr (oN 1 [(9,.v (vBook x0 (a0_0,c0_0)))] [4,1,2,3] ?_)))))
 obtain ⟨a4,a5,a6⟩:=bS h
 refine k0 (fun _ w hs=>c_spec_BookOk a5 (hv0_0.k hs)) ?_
 refine oN 1 [(11,vb (!a4))] [4,1,2,3] ?_
 refine oe (nt (cC a6 (fun a7=>?_) (fun a8=>?_)))
 ·refine qs (qr (oN 1 [(8,vi (-1))] [] ?_))
  refine oe (nt (qe (nr ?_)))
  obtain rfl:=sI a7
  exact re [.int .i64 (-1)]
 refine qk (nt (qs (qr (oN 4 [(15,vi x3),(14,vi x2),(13,vi x1),(12,.v (vBook x0 (a0_0,c0_0)))] [] ?_))))
 obtain ⟨a3,a9,aa⟩:=bS a8
 refine k0 (fun _ w hs=>c_spec_l10For a9 (hv0_0.k hs)) ?_
 refine oN 1 [(8,vi a3)] [] ?_
 refine oe (nt (qe ?_))
 obtain rfl:=sI aa
 exact re [.int .i64 a3]
theorem c_spec_l02Sum {W : World} {x0 : Frac} {x1 : Frac} {x2 : Int} {r : Frac × Bool} (h : spec_l02Sum x0 x1 x2 = some r)  :
  Gives0 Tryz.prog 261 #[vFrac x0,vFrac x1,.int .i64 x2] W (.tuple #[vFrac r.1,.bool r.2]):=by
 unfold spec_l02Sum at h
 refine en Tryz.func261 Tryz.ntmps261 ?_
 refine qs (qr (oB 4 [(6,.p 2 0),(4,.p 1 0),(3,.p 0 0)] [2] [(216,(eFrac x0)),(216,(eFrac x1)),(216,(eFrac (Frac.mk 0 0)))] ?_))
 refine oe (nt (qs (qs ?_)))
 obtain ⟨a5,a6,a7⟩:=bS h
 refine JC_cut (τ:=Unit) (fun _=>[(2,vi x2),(3,.p 0 0),(4,.p 1 0),(6,.p 2 0),(16,vb a5)]) (fun _=>[(216,(eFrac x0)),(216,(eFrac x1)),(216,(eFrac (Frac.mk 0 0)))]) (fun _=>[]) ?_ (fun _=>?_)
 ·refine qr (oN 1 [(9,.v (vFrac x0))] [6,4,3,2] ?_)
  obtain ⟨a8,a9,aa⟩:=bS a6
  refine k0 (fun γ w hs=>c_spec_FracOk a9) ?_
  refine oN 2 [(12,vb (!a8))] [6,4,3,2] ?_
  refine oS 12 aa (fun ab=>?_) (fun ac=>?_)
  ·refine oN 4 [(16,vb true)] [6,4,3,2] ?_
   refine oe ?_
   obtain rfl:=sI ab
   exact mt () [2,3,4,6,16] [] 3
  refine oN 1 [(13,.v (vFrac x1))] [12,6,4,3,2] ?_
  obtain ⟨ae,af,ag⟩:=bS ac
  refine k0 (fun γ w hs=>c_spec_FracOk af) ?_
  refine oN 2 [(16,vb (!ae))] [6,4,3,2] ?_
  refine oe ?_
  obtain rfl:=sI ag
  exact mt () [2,3,4,6,16] [] 3
 refine nt (cC a7 (fun ah=>?_) (fun ai=>?_))
 ·refine qs (qr (oN 3 [(7,vb false)] [6] ?_))
  refine oe (nt (qe (nr ?_)))
  obtain rfl:=sI ah
  exact re [vFrac (Frac.mk 0 0),.bool false]
 refine qk (nt (qs (qr (oN 4 [(21,vi x1.Den),(19,vi x0.Den)] [2,3,4,6] ?_))))
 obtain ⟨a3,aj,ak⟩:=bS ai
 refine k0 (fun γ w hs=>c_spec_l02Gcd aj) ?_
 refine oN 1 [(8,vi a3)] [2,3,4,6] ?_
 refine oe (nt (qs ?_))
 obtain ⟨av,al,am⟩:=bS ak
 obtain ⟨aw,an,ao⟩:=bS am
 obtain ⟨ax,ap,aq⟩:=bS ao
 obtain ⟨a4,ar,au⟩:=bS aq
 refine JC_cut (τ:=Unit) (fun _=>[(7,vb a4.2),(6,.p 2 0)]) (fun _=>[(216,(eFrac x0)),(216,(eFrac x1)),(216,(eFrac a4.1))]) (fun _=>[]) ?_ (fun _=>?_)
 ·refine jw [8,2,3,4,6] [] ?_
  refine JC_heldN (ks:=[0,1]) (Rk:=[]) 29 (by kernel_rfl) (by kernel_rfl) ?_
  refine htq 0 (.p 0 0) [] ?_
  refine htq 1 (vi x0.Num) [] ?_
  refine hk [24,8,2,3,4,6] ?_
  refine htq 2 (.p 1 1) [] ?_
  refine htq 3 (vi x1.Den) [] ?_
  refine hk [26,24,8,2,3,4,6] ?_
  refine htq 4 (vi a3) [] ?_
  refine ht 5 (vi (w64 (Int.tdiv x1.Den a3))) [] (div_held (op:=.quo) (k:=.i64) (x:=x1.Den) (y:=a3) (by kernel_rfl) (nz_some al)) ?_
  refine hk [28,24,8,2,3,4,6] ?_
  refine htq 6 (vi (w64 (x0.Num * (w64 (Int.tdiv x1.Den a3))))) [] ?_
  refine hk [29,8,2,3,4,6] ?_
  refine htq 7 (vi x2) [] ?_
  refine hk [30,29,8,3,4,6] ?_
  refine htq 8 (.p 1 0) [] ?_
  refine htq 9 (vi x1.Num) [] ?_
  refine hk [32,30,29,8,3,4,6] ?_
  refine htq 10 (vi (w64 (x2 * x1.Num))) [] ?_
  refine hk [33,29,8,3,4,6] ?_
  refine htq 11 (.p 0 1) [] ?_
  refine htq 12 (vi x0.Den) [] ?_
  refine hk [35,33,29,8,3,4,6] ?_
  refine htq 13 (vi a3) [] ?_
  refine ht 14 (vi (w64 (Int.tdiv x0.Den a3))) [] (div_held (op:=.quo) (k:=.i64) (x:=x0.Den) (y:=a3) (by kernel_rfl) (nz_some an)) ?_
  refine hk [37,33,29,8,3,4,6] ?_
  refine htq 15 (vi (w64 ((w64 (x2 * x1.Num)) * (w64 (Int.tdiv x0.Den a3))))) [] ?_
  refine hk [38,29,8,3,4,6] ?_
  refine htq 16 (vi (w64 ((w64 (x0.Num * (w64 (Int.tdiv x1.Den a3)))) + (w64 ((w64 (x2 * x1.Num)) * (w64 (Int.tdiv x0.Den a3))))))) [] ?_
  refine hk [39,8,3,4,6] ?_
  refine htq 17 (.p 0 1) [] ?_
  refine hk [40,39,8,4,6] ?_
  refine htq 18 (vi x0.Den) [] ?_
  refine hk [41,39,8,4,6] ?_
  refine htq 19 (vi a3) [] ?_
  refine hk [42,41,39,4,6] ?_
  refine ht 20 (vi (w64 (Int.tdiv x0.Den a3))) [] (div_held (op:=.quo) (k:=.i64) (x:=x0.Den) (y:=a3) (by kernel_rfl) (nz_some ap)) ?_
  refine hk [43,39,4,6] ?_
  refine htq 21 (.p 1 1) [] ?_
  refine hk [44,43,39,6] ?_
  refine htq 22 (vi x1.Den) [] ?_
  refine hk [45,43,39,6] ?_
  refine htq 23 (vi (w64 ((w64 (Int.tdiv x0.Den a3)) * x1.Den))) [] ?_
  refine hk [46,39,6] ?_
  refine ha1 24 ?_
  refine hi (fun γ0 δ hm=>?_)
  refine g0 (fun w hs=>c_spec_l02Make ar) ?_
  refine gn hm [47,6] [] ?_
  refine htq 25 (.v (vFrac a4.1)) [] ?_
  refine htq 26 (vb a4.2) [] ?_
  refine hk [49,48,6] ?_
  refine ha1 27 ?_
  refine hi (fun γ0 δ hm=>?_)
  refine gs [(49,vb a4.2),(48,.v (vFrac a4.1)),(6,.p 2 0)] [(216,(eFrac x0)),(216,(eFrac x1)),(216,(eFrac a4.1))] (fun δ2=>?_)
  refine gd hm [49,6] [] ?_
  refine htq 28 (vb a4.2) [] ?_
  refine hk [7,6] ?_
  exact hd () [7,6] [] 3
 refine nt (qe ?_)
 obtain rfl:=sI au
 exact re [vFrac a4.1,.bool a4.2]
theorem c_spec_FracAdd {W : World} {x0 : Frac} {x1 : Frac} {r : Frac × Bool} (h : spec_FracAdd x0 x1 = some r)  :
  Gives0 Tryz.prog 254 #[vFrac x0,vFrac x1] W (.tuple #[vFrac r.1,.bool r.2]):=by
 unfold spec_FracAdd at h
 refine en Tryz.func254 Tryz.ntmps254 ?_
 refine qs (qr (oB 4 [(4,.p 2 0),(3,.p 1 0),(2,.p 0 0)] [] [(216,(eFrac x0)),(216,(eFrac x1)),(216,(eFrac (Frac.mk 0 0)))] ?_))
 refine oe (nt (qs (qr (oN 2 [(7,.v (vFrac x1)),(6,.v (vFrac x0))] [4] ?_))))
 obtain ⟨a3,a4,a5⟩:=bS h
 refine k0 (fun _ w hs=>c_spec_l02Sum a4) ?_
 refine oB 4 [(5,vb a3.2)] [4] [(216,(eFrac x0)),(216,(eFrac x1)),(216,(eFrac a3.1))] ?_
 refine oe (nt (qe ?_))
 obtain rfl:=sI a5
 exact re [vFrac a3.1,.bool a3.2]
theorem c_spec_FracSub {W : World} {x0 : Frac} {x1 : Frac} {r : Frac × Bool} (h : spec_FracSub x0 x1 = some r)  :
  Gives0 Tryz.prog 255 #[vFrac x0,vFrac x1] W (.tuple #[vFrac r.1,.bool r.2]):=by
 unfold spec_FracSub at h
 refine en Tryz.func255 Tryz.ntmps255 ?_
 refine qs (qr (oB 4 [(4,.p 2 0),(3,.p 1 0),(2,.p 0 0)] [] [(216,(eFrac x0)),(216,(eFrac x1)),(216,(eFrac (Frac.mk 0 0)))] ?_))
 refine oe (nt (qs (qr (oN 2 [(7,.v (vFrac x1)),(6,.v (vFrac x0))] [4] ?_))))
 obtain ⟨a3,a4,a5⟩:=bS h
 refine k0 (fun _ w hs=>c_spec_l02Sum a4) ?_
 refine oB 4 [(5,vb a3.2)] [4] [(216,(eFrac x0)),(216,(eFrac x1)),(216,(eFrac a3.1))] ?_
 refine oe (nt (qe ?_))
 obtain rfl:=sI a5
 exact re [vFrac a3.1,.bool a3.2]
theorem c_spec_l02Small {W : World} {x0 : Frac} {r : Bool} (h : spec_l02Small x0 = some r)  :
  Gives0 Tryz.prog 262 #[vFrac x0] W (.bool r):=by
 unfold spec_l02Small at h
 refine en Tryz.func262 Tryz.ntmps262 ?_
 refine qs (qr (oB 2 [(1,.p 0 0)] [] [(216,(eFrac x0))] ?_))
 refine oe (nt (qs ?_))
 obtain ⟨a3,a4,a5⟩:=bS h
 refine JC_cut (τ:=Unit) (fun _=>[(2,vb a3)]) (fun _=>[(216,(eFrac x0))]) (fun _=>[]) ?_ (fun _=>?_)
 ·refine qr (oN 1 [(3,.v (vFrac x0))] [1] ?_)
  obtain ⟨a6,a7,a8⟩:=bS a4
  refine k0 (fun _ w hs=>c_spec_FracOk a7) ?_
  refine oN 1 [(5,vb a6)] [1] ?_
  refine oS 5 a8 (fun a9=>?_) (fun aa=>?_)
  ·refine oN 2 [(7,vi x0.Num)] [5] ?_
   obtain ⟨ab,ac,ae⟩:=bS a9
   refine k0 (fun _ w hs=>c_spec_l01In ac) ?_
   refine oN 2 [(2,vb ab)] [] ?_
   refine oe ?_
   obtain rfl:=sI ae
   exact mt () [2] [] 1
  refine oN 5 [(2,vb false)] [] ?_
  refine oe ?_
  obtain rfl:=sI aa
  exact mt () [2] [] 1
 refine nt (qe ?_)
 obtain rfl:=sI a5
 exact re [.bool a3]
theorem c_spec_FracMul {W : World} {x0 : Frac} {x1 : Frac} {r : Frac × Bool} (h : spec_FracMul x0 x1 = some r)  :
  Gives0 Tryz.prog 256 #[vFrac x0,vFrac x1] W (.tuple #[vFrac r.1,.bool r.2]):=by
 unfold spec_FracMul at h
 refine en Tryz.func256 Tryz.ntmps256 ?_
 refine qs (qr (oB 4 [(4,.p 2 0),(3,.p 1 0),(2,.p 0 0)] [] [(216,(eFrac x0)),(216,(eFrac x1)),(216,(eFrac (Frac.mk 0 0)))] ?_))
 refine oe (nt (qs (qs ?_)))
 obtain ⟨a4,a5,a6⟩:=bS h
 refine JC_cut (τ:=Unit) (fun _=>[(2,.p 0 0),(3,.p 1 0),(4,.p 2 0),(13,vb a4)]) (fun _=>[(216,(eFrac x0)),(216,(eFrac x1)),(216,(eFrac (Frac.mk 0 0)))]) (fun _=>[]) ?_ (fun _=>?_)
 ·refine qr (oN 1 [(6,.v (vFrac x0))] [4,3,2] ?_)
  obtain ⟨a7,a8,a9⟩:=bS a5
  refine k0 (fun _ w hs=>c_spec_l02Small a8) ?_
  refine oN 2 [(9,vb (!a7))] [4,3,2] ?_
  refine oS 9 a9 (fun aa=>?_) (fun ab=>?_)
  ·refine oN 4 [(13,vb true)] [4,3,2] ?_
   refine oe ?_
   obtain rfl:=sI aa
   exact mt () [2,3,4,13] [] 3
  refine oN 1 [(10,.v (vFrac x1))] [9,4,3,2] ?_
  obtain ⟨ac,ae,af⟩:=bS ab
  refine k0 (fun _ w hs=>c_spec_l02Small ae) ?_
  refine oN 2 [(13,vb (!ac))] [4,3,2] ?_
  refine oe ?_
  obtain rfl:=sI af
  exact mt () [2,3,4,13] [] 3
 refine nt (cC a6 (fun ag=>?_) (fun ah=>?_))
 ·refine qs (qr (oN 3 [(5,vb false)] [4] ?_))
  refine oe (nt (qe (nr ?_)))
  obtain rfl:=sI ag
  exact re [vFrac (Frac.mk 0 0),.bool false]
 refine qk (nt (qs (qr (oN 10 [(24,vi (w64 (x0.Den * x1.Den))),(19,vi (w64 (x0.Num * x1.Num)))] [4] ?_))))
 obtain ⟨a3,ai,aj⟩:=bS ah
 refine k0 (fun _ w hs=>c_spec_l02Make ai) ?_
 refine oB 4 [(5,vb a3.2)] [4] [(216,(eFrac x0)),(216,(eFrac x1)),(216,(eFrac a3.1))] ?_
 refine oe (nt (qe ?_))
 obtain rfl:=sI aj
 exact re [vFrac a3.1,.bool a3.2]
theorem c_spec_FracDiv {W : World} {x0 : Frac} {x1 : Frac} {r : Frac × Bool} (h : spec_FracDiv x0 x1 = some r)  :
  Gives0 Tryz.prog 257 #[vFrac x0,vFrac x1] W (.tuple #[vFrac r.1,.bool r.2]):=by
 unfold spec_FracDiv at h
 refine en Tryz.func257 Tryz.ntmps257 ?_
 refine qs (qr (oB 4 [(4,.p 2 0),(3,.p 1 0),(2,.p 0 0)] [] [(216,(eFrac x0)),(216,(eFrac x1)),(216,(eFrac (Frac.mk 0 0)))] ?_))
 refine oe (nt (qs (qs ?_)))
 obtain ⟨a4,a5,a6⟩:=bS h
 refine JC_cut (τ:=Unit) (fun _=>[(2,.p 0 0),(3,.p 1 0),(4,.p 2 0),(18,vb a4)]) (fun _=>[(216,(eFrac x0)),(216,(eFrac x1)),(216,(eFrac (Frac.mk 0 0)))]) (fun _=>[]) ?_ (fun _=>?_)
 ·refine qr (oN 1 [(6,.v (vFrac x0))] [4,3,2] ?_)
  obtain ⟨a7,a8,a9⟩:=bS a5
  refine k0 (fun _ w hs=>c_spec_l02Small a8) ?_
  refine oN 2 [(9,vb (!a7))] [4,3,2] ?_
  refine oS 9 a9 (fun aa=>?_) (fun ab=>?_)
  ·refine oN 9 [(18,vb true)] [4,3,2] ?_
   refine oe ?_
   obtain rfl:=sI aa
   exact mt () [2,3,4,18] [] 3
  refine oN 1 [(10,.v (vFrac x1))] [9,4,3,2] ?_
  obtain ⟨ac,ae,af⟩:=bS ab
  refine k0 (fun _ w hs=>c_spec_l02Small ae) ?_
  refine oN 3 [(14,vb (!ac))] [4,3,2] ?_
  refine oS 14 af (fun ag=>?_) (fun ah=>?_)
  ·refine oN 4 [(18,vb true)] [4,3,2] ?_
   refine oe ?_
   obtain rfl:=sI ag
   exact mt () [2,3,4,18] [] 3
  refine oN 4 [(18,vb (x1.Num == 0))] [4,3,2] ?_
  refine oe ?_
  obtain rfl:=sI ah
  exact mt () [2,3,4,18] [] 3
 refine nt (cC a6 (fun ai=>?_) (fun aj=>?_))
 ·refine qs (qr (oN 3 [(5,vb false)] [4] ?_))
  refine oe (nt (qe (nr ?_)))
  obtain rfl:=sI ai
  exact re [vFrac (Frac.mk 0 0),.bool false]
 refine qk (nt (qs (qr (oN 10 [(29,vi (w64 (x0.Den * x1.Num))),(24,vi (w64 (x0.Num * x1.Den)))] [4] ?_))))
 obtain ⟨a3,ak,al⟩:=bS aj
 refine k0 (fun _ w hs=>c_spec_l02Make ak) ?_
 refine oB 4 [(5,vb a3.2)] [4] [(216,(eFrac x0)),(216,(eFrac x1)),(216,(eFrac a3.1))] ?_
 refine oe (nt (qe ?_))
 obtain rfl:=sI al
 exact re [vFrac a3.1,.bool a3.2]
theorem c_spec_FracCmp {W : World} {x0 : Frac} {x1 : Frac} {r : Int} (h : spec_FracCmp x0 x1 = some r)  :
  Gives0 Tryz.prog 258 #[vFrac x0,vFrac x1] W (.int .i64 r):=by
 unfold spec_FracCmp at h
 refine en Tryz.func258 Tryz.ntmps258 ?_
 refine qs (qr (oB 3 [(3,.p 1 0),(2,.p 0 0)] [] [(216,(eFrac x0)),(216,(eFrac x1))] ?_))
 refine oe (nt (qs (qs ?_)))
 obtain ⟨a3,a4,a5⟩:=bS h
 refine JC_cut (τ:=Unit) (fun _=>[(2,.p 0 0),(3,.p 1 0),(14,vb a3)]) (fun _=>[(216,(eFrac x0)),(216,(eFrac x1))]) (fun _=>[]) ?_ (fun _=>?_)
 ·refine qr (oN 1 [(7,.v (vFrac x0))] [3,2] ?_)
  obtain ⟨a6,a7,a8⟩:=bS a4
  refine k0 (fun _ w hs=>c_spec_FracOk a7) ?_
  refine oN 2 [(10,vb (!a6))] [3,2] ?_
  refine oS 10 a8 (fun a9=>?_) (fun aa=>?_)
  ·refine oN 4 [(14,vb true)] [3,2] ?_
   refine oe ?_
   obtain rfl:=sI a9
   exact mt () [2,3,14] [] 2
  refine oN 1 [(11,.v (vFrac x1))] [10,3,2] ?_
  obtain ⟨ab,ac,ae⟩:=bS aa
  refine k0 (fun _ w hs=>c_spec_FracOk ac) ?_
  refine oN 2 [(14,vb (!ab))] [3,2] ?_
  refine oe ?_
  obtain rfl:=sI ae
  exact mt () [2,3,14] [] 2
 refine nt (cC a5 (fun af=>?_) (fun ag=>?_))
 ·refine qs (qr (oN 1 [(4,vi 2)] [] ?_))
  refine oe (nt (qe (nr ?_)))
  obtain rfl:=sI af
  exact re [.int .i64 2]
 refine qk (nt (qs (qr (oN 6 [(5,vi (w64 (x0.Num * x1.Den)))] [2,3] ?_))))
 refine oe (nt (qs (qr (oN 6 [(6,vi (w64 (x1.Num * x0.Den)))] [5] ?_))))
 refine oe (nt (qs (qb (qs (qr (oN 4 [(25,vb (decide ((w64 (x0.Num * x1.Den)) < (w64 (x1.Num * x0.Den)))))] [6,5] ?_))))))
 refine oe (nt (cC ag (fun ah=>?_) (fun ai=>?_)))
 ·refine qs (qr (oN 1 [(4,vi (-1))] [] ?_))
  refine oe (nt (qe (br (nr ?_))))
  obtain rfl:=sI ah
  exact re [.int .i64 (-1)]
 refine qs (qr (oN 4 [(29,vb (decide ((w64 (x0.Num * x1.Den)) > (w64 (x1.Num * x0.Den)))))] [] ?_))
 refine oe (nt (cC ai (fun aj=>?_) (fun ak=>?_)))
 ·refine qs (qr (oN 1 [(4,vi 1)] [] ?_))
  refine oe (nt (qe (br (nr ?_))))
  obtain rfl:=sI aj
  exact re [.int .i64 1]
 refine qk (bn (nt (qs (qr (oN 1 [(4,vi 0)] [] ?_)))))
 refine oe (nt (qe ?_))
 obtain rfl:=sI ak
 exact re [.int .i64 0]
theorem c_spec_l08Value {W : World} {x0 : Node} {x1 : List Frac} {a1_0 : Option Addr} {c1_0 : Nat} {x2 : List Frac} {a2_0 : Option Addr} {c2_0 : Nat} {r : Frac × Bool} (h : spec_l08Value x0 x1 x2 = some r) (hv1_0 : SlView W x1 a1_0 c1_0) (hv2_0 : SlView W x2 a2_0 c2_0) :
  Gives0 Tryz.prog 242 #[vNode x0,.slice a1_0 x1.length c1_0,.slice a2_0 x2.length c2_0] W (.tuple #[vFrac r.1,.bool r.2]):=by
 unfold spec_l08Value at h
 refine en Tryz.func242 Tryz.ntmps242 ?_
 refine qs (qr (oB 3 [(6,.p 1 0),(3,.p 0 0)] [1,2] [(233,(eNode x0)),(216,(eFrac (Frac.mk 0 0)))] ?_))
 refine oe (nt (qs (qs (qr (oN 2 [(11,vi x0.Kind)] [6,3,1,2] ?_)))))
 refine oe (nt (qb (qs (qr (oN 2 [(12,vb (x0.Kind == 1))] [11,6,3,1,2] ?_)))))
 refine oe (nt (cC h (fun ag=>?_) (fun ah=>?_)))
 ·refine qs (qr (oB 4 [(7,vb true)] [6] [(233,(eNode x0)),(216,(eFrac x0.Value))] ?_))
  refine oe (nt (qe (br (nr ?_))))
  obtain rfl:=sI ag
  exact re [vFrac x0.Value,.bool true]
 refine qs (qr (oN 2 [(16,vb (x0.Kind == 2))] [6,3,1,2] ?_))
 refine oe (nt (cC ah (fun ai=>?_) (fun aj=>?_)))
 ·refine qs (qr (oN 3 [(20,vi x0.A),(18,vs a2_0 x2 c2_0)] [6] ?_))
  obtain ⟨a9,ab,ak⟩:=bS ai
  refine oi 2 (fun _ w hs=>(hv2_0.k hs)) ab ?_
  refine ol 216 0 (vFrac a9) (fun _ w hs=>(hv2_0.k hs).flatq ab) ?_
  refine oB 2 [(7,vb true)] [6] [(233,(eNode x0)),(216,(eFrac a9))] ?_
  refine oe (nt (qe (br (nr ?_))))
  obtain rfl:=sI ak
  exact re [vFrac a9,.bool true]
 refine qk (bn (nt (qs (qr (oN 3 [(25,vi x0.A),(23,vs a1_0 x1 c1_0)] [6,3,1] ?_)))))
 obtain ⟨a3,ac,al⟩:=bS aj
 refine oi 2 (fun _ w hs=>(hv1_0.k hs)) ac ?_
 refine ol 216 0 (vFrac a3) (fun _ w hs=>(hv1_0.k hs).flatq ac) ?_
 refine oB 2 [(8,.p 2 0)] [6,3,1] [(233,(eNode x0)),(216,(eFrac (Frac.mk 0 0))),(216,(eFrac a3))] ?_
 refine oe (nt (qs (qr (oN 3 [(30,vi x0.B),(28,vs a1_0 x1 c1_0)] [8,6,3,1] ?_))))
 obtain ⟨a4,ae,am⟩:=bS al
 refine oi 2 (fun _ w hs=>(hv1_0.k hs)) ae ?_
 refine ol 216 0 (vFrac a4) (fun _ w hs=>(hv1_0.k hs).flatq ae) ?_
 refine oB 2 [(9,.p 3 0)] [8,6,3,1] [(233,(eNode x0)),(216,(eFrac (Frac.mk 0 0))),(216,(eFrac a3)),(216,(eFrac a4))] ?_
 refine oe (nt (qs (qs (qr (oN 2 [(34,vi x0.Kind)] [9,8,6,3,1] ?_)))))
 refine oe (nt (qb (qs (qr (oN 2 [(35,vb (x0.Kind == 3))] [34,9,8,6,3,1] ?_)))))
 refine oe (nt (cC am (fun an=>?_) (fun ao=>?_)))
 ·refine qs (qr (oN 2 [(38,.v (vFrac a4)),(37,.v (vFrac a3))] [6] ?_))
  obtain ⟨a5,ap,aq⟩:=bS an
  refine k0 (fun _ w hs=>c_spec_FracAdd ap) ?_
  refine oB 4 [(7,vb a5.2)] [6] [(233,(eNode x0)),(216,(eFrac a5.1)),(216,(eFrac a3)),(216,(eFrac a4))] ?_
  refine oe (nt (qe (br (nr ?_))))
  obtain rfl:=sI aq
  exact re [vFrac a5.1,.bool a5.2]
 refine qs (qr (oN 2 [(42,vb (x0.Kind == 4))] [34,9,8,6,3,1] ?_))
 refine oe (nt (cC ao (fun ar=>?_) (fun au=>?_)))
 ·refine qs (qr (oN 2 [(45,.v (vFrac a4)),(44,.v (vFrac a3))] [6] ?_))
  obtain ⟨a6,av,aw⟩:=bS ar
  refine k0 (fun _ w hs=>c_spec_FracSub av) ?_
  refine oB 4 [(7,vb a6.2)] [6] [(233,(eNode x0)),(216,(eFrac a6.1)),(216,(eFrac a3)),(216,(eFrac a4))] ?_
  refine oe (nt (qe (br (nr ?_))))
  obtain rfl:=sI aw
  exact re [vFrac a6.1,.bool a6.2]
 refine qs (qr (oN 2 [(49,vb (x0.Kind == 5))] [34,9,8,6,3,1] ?_))
 refine oe (nt (cC au (fun ax=>?_) (fun ay=>?_)))
 ·refine qs (qr (oN 2 [(52,.v (vFrac a4)),(51,.v (vFrac a3))] [6] ?_))
  obtain ⟨a7,az,b4⟩:=bS ax
  refine k0 (fun _ w hs=>c_spec_FracMul az) ?_
  refine oB 4 [(7,vb a7.2)] [6] [(233,(eNode x0)),(216,(eFrac a7.1)),(216,(eFrac a3)),(216,(eFrac a4))] ?_
  refine oe (nt (qe (br (nr ?_))))
  obtain rfl:=sI b4
  exact re [vFrac a7.1,.bool a7.2]
 refine qs (qr (oN 2 [(56,vb (x0.Kind == 6))] [34,9,8,6,3,1] ?_))
 refine oe (nt (cC ay (fun b5=>?_) (fun b6=>?_)))
 ·refine qs (qr (oN 2 [(59,.v (vFrac a4)),(58,.v (vFrac a3))] [6] ?_))
  obtain ⟨a8,b7,b8⟩:=bS b5
  refine k0 (fun _ w hs=>c_spec_FracDiv b7) ?_
  refine oB 4 [(7,vb a8.2)] [6] [(233,(eNode x0)),(216,(eFrac a8.1)),(216,(eFrac a3)),(216,(eFrac a4))] ?_
  refine oe (nt (qe (br (nr ?_))))
  obtain rfl:=sI b8
  exact re [vFrac a8.1,.bool a8.2]
 refine qs (qr (oN 2 [(63,vb (x0.Kind == 7))] [34,9,8,6,3,1] ?_))
 refine oe (nt (cC b6 (fun b9=>?_) (fun ba=>?_)))
 ·refine qs (qs (qr (oN 2 [(66,.v (vFrac a3)),(65,.v (vFrac a4))] [9,8,6] ?_)))
  obtain ⟨bb,bc,bd⟩:=bS b9
  refine k0 (fun _ w hs=>c_spec_FracCmp bc) ?_
  refine oN 1 [(68,vb (decide (bb < 0)))] [9,8,6] ?_
  refine oe (nt (cC bd (fun be=>?_) (fun bf=>?_)))
  ·refine qs (qr (oB 3 [(7,vb true)] [6] [(233,(eNode x0)),(216,(eFrac a4)),(216,(eFrac a3)),(216,(eFrac a4))] ?_))
   refine oe (nt (qe (nr (br (nr ?_)))))
   obtain rfl:=sI be
   exact re [vFrac a4,.bool true]
  refine qk (nt (qs (qr (oB 3 [(7,vb true)] [6] [(233,(eNode x0)),(216,(eFrac a3)),(216,(eFrac a3)),(216,(eFrac a4))] ?_))))
  refine oe (nt (qe (br (nr ?_))))
  obtain rfl:=sI bf
  exact re [vFrac a3,.bool true]
 refine qs (qr (oN 2 [(71,vb (x0.Kind == 8))] [9,8,6,3,1] ?_))
 refine oe (nt (cC ba (fun bg=>?_) (fun bi=>?_)))
 ·refine qs (qs (qr (oN 2 [(74,.v (vFrac a3)),(73,.v (vFrac a4))] [9,8,6] ?_)))
  obtain ⟨bj,bk,bl⟩:=bS bg
  refine k0 (fun _ w hs=>c_spec_FracCmp bk) ?_
  refine oN 1 [(76,vb (decide (bj > 0)))] [9,8,6] ?_
  refine oe (nt (cC bl (fun bm=>?_) (fun bo=>?_)))
  ·refine qs (qr (oB 3 [(7,vb true)] [6] [(233,(eNode x0)),(216,(eFrac a4)),(216,(eFrac a3)),(216,(eFrac a4))] ?_))
   refine oe (nt (qe (nr (br (nr ?_)))))
   obtain rfl:=sI bm
   exact re [vFrac a4,.bool true]
  refine qk (nt (qs (qr (oB 3 [(7,vb true)] [6] [(233,(eNode x0)),(216,(eFrac a3)),(216,(eFrac a3)),(216,(eFrac a4))] ?_))))
  refine oe (nt (qe (br (nr ?_))))
  obtain rfl:=sI bo
  exact re [vFrac a3,.bool true]
 refine qk (bn (nt (qs (qs (qr (oN 3 [(81,vb (decide (a3.Num > 0)))] [9,6,3,1] ?_))))))
 refine oe (nt (cC bi (fun bp=>?_) (fun bq=>?_)))
 ·refine qs (qr (oB 3 [(7,vb true)] [6] [(233,(eNode x0)),(216,(eFrac a4)),(216,(eFrac a3)),(216,(eFrac a4))] ?_))
  refine oe (nt (qe (nr ?_)))
  obtain rfl:=sI bp
  exact re [vFrac a4,.bool true]
 refine qk (nt (qs (qr (oN 3 [(85,vi x0.C),(83,vs a1_0 x1 c1_0)] [6] ?_))))
 obtain ⟨aa,af,bs⟩:=bS bq
 refine oi 2 (fun _ w hs=>(hv1_0.k hs)) af ?_
 refine ol 216 0 (vFrac aa) (fun _ w hs=>(hv1_0.k hs).flatq af) ?_
 refine oB 2 [(7,vb true)] [6] [(233,(eNode x0)),(216,(eFrac aa)),(216,(eFrac a3)),(216,(eFrac a4))] ?_
 refine oe (nt (qe ?_))
 obtain rfl:=sI bs
 exact re [vFrac aa,.bool true]
theorem c_spec_EvalAll {W : World} {x0 : List Node} {a0_0 : Option Addr} {c0_0 : Nat} {x1 : List Frac} {a1_0 : Option Addr} {c1_0 : Nat} {r : (List Frac) × Bool} (h : spec_EvalAll x0 x1 = some r) (hv0_0 : SlView W x0 a0_0 c0_0) (hv1_0 : SlView W x1 a1_0 c1_0) :
  Gives Tryz.prog 230 #[.slice a0_0 x0.length c0_0,.slice a1_0 x1.length c1_0] W (fun y : AC=>.tuple #[.slice y.1 r.1.length y.2,.bool r.2]) (fun y=>[SlRes 216 r.1 y.1 y.2]):=by
 unfold spec_EvalAll at h
 refine en Tryz.func230 Tryz.ntmps230 ?_
 refine qs (qr (oN 2 [] [0,1] ?_))
 refine oe (nt (qs (qr (ob [] [] 216 0 [] ([] : List Frac) (own_flat (by kernel_rfl)) (fun a6=>?_)))))
 refine oN 1 [(6,sv a6 ([] : List Frac))] [0,1] ?_
 refine oe (nt (qs (qs ?_)))
 obtain ⟨af,ag,ah⟩:=bS h
 refine JC_cut (τ:=Unit) (fun _=>[(0,vs a0_0 x0 c0_0),(1,vs a1_0 x1 c1_0),(6,sv a6 ([] : List Frac)),(18,vb af)]) (fun _=>[]) (fun _=>[SlRes 216 ([] : List Frac) a6.1 a6.2]) ?_ (fun _=>?_)
 ·refine qr (oN 1 [(11,vs a0_0 x0 c0_0)] [6,0,1] ?_)
  obtain ⟨ai,aj,ak⟩:=bS ag
  refine k0 (fun _ w hs=>c_spec_FormulaOk aj (hv0_0.k hs)) ?_
  refine oN 2 [(14,vb (!ai))] [6,0,1] ?_
  refine oS 14 ak (fun al=>?_) (fun am=>?_)
  ·refine oN 4 [(18,vb true)] [6,0,1] ?_
   refine oe ?_
   obtain rfl:=sI al
   exact mt () [0,1,6,18] [0] 0
  refine oN 1 [(15,vs a1_0 x1 c1_0)] [14,6,0,1] ?_
  obtain ⟨an,ao,ap⟩:=bS am
  refine k0 (fun _ w hs=>c_spec_l08Vars ao (hv1_0.k hs)) ?_
  refine oN 2 [(18,vb (!an))] [6,0,1] ?_
  refine oe ?_
  obtain rfl:=sI ap
  exact mt () [0,1,6,18] [0] 0
 refine nt (cC ah (fun aq=>?_) (fun ar=>?_))
 ·refine qs (qr (oN 3 [(5,vb false),(4,sv a6 ([] : List Frac))] [] ?_))
  refine oe (nt (qe (nr (rt [.slice a6.1 ([] : List Frac).length a6.2,.bool false] (fun _ w hs=>?_)))))
  rw [← sI aq]
  exact ⟨a6,rfl,hs.kept.toBelow,(hs.takeR (is:=[0]) rfl).fresh⟩
 refine qk (nt (qs (qs (qr (oN 1 [(7,vi 0)] [0,1,6] ?_)))))
 refine oe (nt ?_)
 obtain ⟨bi,au,a8⟩:=bS ar
 obtain ⟨av,aw,a8⟩:=brkS a8
 refine JC_cutP (τ:=((List Frac)) × (AC)) (fun y=>av y.1 = some r) (fun a3=>[(6,sv a3.2 a3.1)]) (fun a3=>[]) (fun a3=>[SlRes 216 a3.1 a3.2.1 a3.2.2]) ?_ (fun a3 ax=>?_)
 ·refine qb (lp AC au (fun a4 a5=>[(7,vi a4.1),(0,vs a0_0 x0 c0_0),(1,vs a1_0 x1 c1_0),(6,sv a5 a4.2)]) (fun a4 a5=>[]) (fun a4 a5=>[SlRes 216 a4.2 a5.1 a5.2]) (a6.1,a6.2) [7,0,1,6] [0] 0 (fun a4 a5 bj ay ab=>?_))
  refine qs (qs (qr (oN 4 [(23,vb (decide (a4.1 < (x0.length : Int))))] [7,0,1,6] ?_)))
  refine oe (nt (cC ay (fun az=>?_) (fun b4=>?_)))
  ·refine qk (nt (qs (qb (qs (qr (oN 2 [(28,vi a4.1),(27,vs a0_0 x0 c0_0)] [7,0,1,6] ?_))))))
   obtain ⟨b5,ac,b6⟩:=bS az
   refine oi 6 (fun _ w hs=>(hv0_0.k hs)) ac ?_
   refine ol 233 0 (vNode b5) (fun _ w hs=>(hv0_0.k hs).flatq ac) ?_
   refine oN 2 [(32,vs a1_0 x1 c1_0),(31,sv a5 a4.2)] [30,7,0,1,6] ?_
   obtain ⟨a7,b7,b8⟩:=bS b6
   refine k0 (fun _ w hs=>c_spec_l08Value b7 (hs.view 0 rfl) (hv1_0.k hs)) ?_
   refine oB 6 [(9,vb a7.2),(8,.p 0 0)] [7,0,1,6] [(216,(eFrac a7.1))] ?_
   refine oe (nt (qs (qs (qr (oN 2 [(37,vb (!a7.2))] [8,7,0,1,6] ?_)))))
   refine oe (nt (cC b8 (fun b9=>?_) (fun ba=>?_)))
   ·refine qs (qr (ob [] [SlRes 216 a4.2 a5.1 a5.2] 216 0 [] ([] : List Frac) (own_flat (by kernel_rfl)) (fun a9=>?_)))
    refine oN 2 [(5,vb false),(4,sv a9 ([] : List Frac))] [] ?_
    refine oe (nt (qe (nr (br (nr (nr ?_))))))
    have bb:=leafR ab b9 a8
    refine br (nr (nr (rt [.slice a9.1 ([] : List Frac).length a9.2,.bool false] (fun _ w hs=>?_))))
    rw [← sI bb]
    exact ⟨a9,rfl,hs.kept.toBelow,(hs.takeR (is:=[0]) rfl).fresh⟩
   refine qk (nt (qr (oN 2 [(40,.v (vFrac a7.1)),(39,sv a5 a4.2)] [7,0,1] ?_)))
   refine ob [] [SlRes 216 a4.2 a5.1 a5.2] 216 1 [.int .i64 a7.1.Num,.int .i64 a7.1.Den] ([a7.1] : List Frac) (own_flat (by kernel_rfl)) (fun ae=>?_)
   refine or_ [1,0] ?_
   obtain ⟨bc,bd,be⟩:=bS ba
   refine oa 177 ae.2 Tryz.t216 (vFrac (Frac.mk 0 0)) (fun _ w hs=>⟨ae.2,(hs.view 1 rfl)⟩) bd (fun aa=>?_)
   refine oN 1 [(6,sv aa bc)] [7,0,1] ?_
   refine oe (bn (nt (qr (oN 3 [(7,vi (w64 (a4.1 + 1)))] [6,0,1] ?_))))
   exact oe (ct be (aa.1,aa.2) [7,0,1,6] [0] 0)
  refine qx (nx (nx (bh ?_)))
  have bf:=leafB ab b4 a8
  exact mp (a4.2,(a5.1,a5.2)) bf [6] [0] 0
 have bg:=(congrFun aw _).symm.trans ax
 refine nt (qs (qr (oN 3 [(5,vb true),(4,sv a3.2 a3.1)] [] ?_)))
 refine oe (nt (qe (rt [.slice a3.2.1 a3.1.length a3.2.2,.bool true] (fun _ w hs=>?_))))
 rw [← sI bg]
 exact ⟨a3.2,rfl,hs.kept.toBelow,(hs.takeR (is:=[0]) rfl).fresh⟩
theorem c_spec_Eval {W : World} {x0 : List Node} {a0_0 : Option Addr} {c0_0 : Nat} {x1 : List Frac} {a1_0 : Option Addr} {c1_0 : Nat} {r : Frac × Bool} (h : spec_Eval x0 x1 = some r) (hv0_0 : SlView W x0 a0_0 c0_0) (hv1_0 : SlView W x1 a1_0 c1_0) :
  Gives0 Tryz.prog 202 #[.slice a0_0 x0.length c0_0,.slice a1_0 x1.length c1_0] W (.tuple #[vFrac r.1,.bool r.2]):=by
 unfold spec_Eval at h
 refine en Tryz.func202 Tryz.ntmps202 ?_
 refine qs (qr (oB 2 [(4,.p 0 0)] [0,1] [(216,(eFrac (Frac.mk 0 0)))] ?_))
 refine oe (nt (qs (qr (oN 2 [(10,vs a1_0 x1 c1_0),(9,vs a0_0 x0 c0_0)] [4] ?_))))
 obtain ⟨a3,a7,a8⟩:=bS h
 refine k1 (fun _ w hs=>c_spec_EvalAll a7 (hv0_0.k hs) (hv1_0.k hs)) (fun a5=>?_)
 refine oN 5 [(7,vb a3.2),(6,sv a5 a3.1)] [4] ?_
 refine oe (nt (qs (qs (qr (oN 2 [(15,vb (!a3.2))] [6,4] ?_)))))
 refine oe (nt (cC a8 (fun a9=>?_) (fun aa=>?_)))
 ·refine qs (qr (oN 3 [(5,vb false)] [4] ?_))
  refine oe (nt (qe (nr ?_)))
  obtain rfl:=sI a9
  exact re [vFrac (Frac.mk 0 0),.bool false]
 refine qk (nt (qs (qr (oN 4 [(20,vi (w64 ((a3.1.length : Int) - 1))),(17,sv a5 a3.1)] [4] ?_))))
 obtain ⟨a4,a6,ab⟩:=bS aa
 refine oi 2 (fun _ w hs=>(hs.view 0 rfl)) a6 ?_
 refine ol 216 0 (vFrac a4) (fun _ w hs=>(hs.view 0 rfl).flatq a6) ?_
 refine oB 2 [(5,vb true)] [4] [(216,(eFrac a4))] ?_
 refine oe (nt (qe ?_))
 obtain rfl:=sI ab
 exact re [vFrac a4,.bool true]
theorem c_spec_FloorFrac {W : World} {x0 : Frac} {r : Int} (h : spec_FloorFrac x0 = some r)  :
  Gives0 Tryz.prog 231 #[vFrac x0] W (.int .i64 r):=by
 unfold spec_FloorFrac at h
 refine en Tryz.func231 Tryz.ntmps231 ?_
 refine qs (qr (oB 2 [(1,.p 0 0)] [] [(216,(eFrac x0))] ?_))
 refine oe (nt (qs (qs (qr (oN 1 [(4,.v (vFrac x0))] [1] ?_)))))
 obtain ⟨a4,a5,a6⟩:=bS h
 refine k0 (fun _ w hs=>c_spec_FracOk a5) ?_
 refine oN 1 [(6,vb (!a4))] [1] ?_
 refine oe (nt (cC a6 (fun a7=>?_) (fun a8=>?_)))
 ·refine qs (qr (oN 1 [(2,vi 0)] [] ?_))
  refine oe (nt (qe (nr ?_)))
  obtain rfl:=sI a7
  exact re [.int .i64 0]
 refine qk (nt (qs (qr (oN 4 [(10,vi x0.Den),(8,vi x0.Num)] [1] ?_))))
 obtain ⟨aq,a9,aa⟩:=bS a8
 refine JO_div rfl (by kernel_rfl) (op:=.quo) (k:=.i64) (x:=x0.Num) (y:=x0.Den) (by kernel_rfl) (nz_some a9) rfl ?_
 refine oN 1 [(3,vi (w64 (Int.tdiv x0.Num x0.Den)))] [1] ?_
 refine oe (nt (qs (qs ?_)))
 obtain ⟨ab,ac,ae⟩:=bS aa
 refine JC_cut (τ:=Unit) (fun _=>[(3,vi (w64 (Int.tdiv x0.Num x0.Den))),(22,vb ab)]) (fun _=>[(216,(eFrac x0))]) (fun _=>[]) ?_ (fun _=>?_)
 ·refine qr (oN 4 [(15,vb (decide (x0.Num < 0)))] [3,1] ?_)
  refine oS 15 ac (fun af=>?_) (fun ag=>?_)
  ·refine oN 4 [(19,vi x0.Den),(17,vi x0.Num)] [15,3] ?_
   obtain ⟨ar,ah,ai⟩:=bS af
   refine JO_div rfl (by kernel_rfl) (op:=.rem) (k:=.i64) (x:=x0.Num) (y:=x0.Den) (by kernel_rfl) (nz_some ah) rfl ?_
   refine oN 2 [(22,vb ((Int.tmod x0.Num x0.Den) != 0))] [3] ?_
   refine oe ?_
   obtain rfl:=sI ai
   exact mt () [3,22] [] 1
  refine oN 7 [(22,vb false)] [3] ?_
  refine oe ?_
  obtain rfl:=sI ag
  exact mt () [3,22] [] 1
 refine nt ?_
 obtain ⟨aj,ak,al⟩:=jS ae
 refine JC_cutP (τ:=(Int) × (Unit)) (fun y=>aj y.1 = some r) (fun a3=>[(3,vi a3.1)]) (fun a3=>[(216,(eFrac x0))]) (fun a3=>[]) ?_ (fun a3 am=>?_)
 ·refine cC al (fun an=>?_) (fun ao=>?_)
  ·refine qr (oN 3 [(3,vi (w64 ((w64 (Int.tdiv x0.Num x0.Den)) - 1)))] [] ?_)
   exact oe (mp (w64 ((w64 (Int.tdiv x0.Num x0.Den)) - 1),()) an [3] [] 1)
  exact qk (mp (w64 (Int.tdiv x0.Num x0.Den),()) ao [3] [] 1)
 have ap:=(congrFun ak _).symm.trans am
 refine nt (qs (qr (oN 2 [(2,vi a3.1)] [] ?_)))
 refine oe (nt (qe ?_))
 obtain rfl:=sI ap
 exact re [.int .i64 a3.1]
theorem c_spec_RoundFrac {W : World} {x0 : Frac} {x1 : Int} {r : Int × Bool} (h : spec_RoundFrac x0 x1 = some r)  :
  Gives0 Tryz.prog 203 #[vFrac x0,.int .i64 x1] W (.tuple #[.int .i64 r.1,.bool r.2]):=by
 unfold spec_RoundFrac at h
 refine en Tryz.func203 Tryz.ntmps203 ?_
 refine qs (qr (oB 3 [(2,.p 0 0)] [1] [(216,(eFrac x0))] ?_))
 refine oe (nt (qs (qs ?_)))
 obtain ⟨a5,a6,a7⟩:=bS h
 refine JC_cut (τ:=Unit) (fun _=>[(1,vi x1),(2,.p 0 0),(15,vb a5)]) (fun _=>[(216,(eFrac x0))]) (fun _=>[]) ?_ (fun _=>?_)
 ·refine qr (oN 1 [(8,.v (vFrac x0))] [2,1] ?_)
  obtain ⟨a8,a9,aa⟩:=bS a6
  refine k0 (fun _ w hs=>c_spec_FracOk a9) ?_
  refine oN 2 [(11,vb (!a8))] [2,1] ?_
  refine oS 11 aa (fun ab=>?_) (fun ac=>?_)
  ·refine oN 4 [(15,vb true)] [2,1] ?_
   refine oe ?_
   obtain rfl:=sI ab
   exact mt () [1,2,15] [] 1
  refine oN 1 [(12,vi x1)] [11,2,1] ?_
  obtain ⟨ae,af,ag⟩:=bS ac
  refine k0 (fun _ w hs=>c_spec_l01In af) ?_
  refine oN 2 [(15,vb (!ae))] [2,1] ?_
  refine oe ?_
  obtain rfl:=sI ag
  exact mt () [1,2,15] [] 1
 refine nt (cC a7 (fun ah=>?_) (fun ai=>?_))
 ·refine qs (qr (oN 2 [(5,vb false),(4,vi 0)] [] ?_))
  refine oe (nt (qe (nr ?_)))
  obtain rfl:=sI ah
  exact re [.int .i64 0,.bool false]
 refine qk (nt (qs (qr (oN 1 [(16,.v (vFrac x0))] [1,2] ?_))))
 obtain ⟨a3,aj,ak⟩:=bS ai
 refine k0 (fun _ w hs=>c_spec_FloorFrac aj) ?_
 refine oN 1 [(6,vi a3)] [1,2] ?_
 refine oe (nt (qs (qr (oN 8 [(7,vi (w64 (x0.Num - (w64 (a3 * x0.Den)))))] [6,1,2] ?_))))
 refine oe (nt (qs (qs (qr (oN 1 [(25,vi x1)] [7,6,2] ?_)))))
 refine oe (nt (qb (qs (qr (oN 2 [(26,vb (x1 == 2))] [25,7,6,2] ?_)))))
 refine oe (nt ?_)
 obtain ⟨al,am,an⟩:=jS ak
 refine JC_cutP (τ:=(Int) × (Unit)) (fun y=>al y.1 = some r) (fun a4=>[(6,vi a4.1)]) (fun a4=>[(216,(eFrac x0))]) (fun a4=>[]) ?_ (fun a4 ao=>?_)
 ·refine cC an (fun ap=>?_) (fun aq=>?_)
  ·refine qs (qr (oN 2 [(29,vb (decide ((w64 (x0.Num - (w64 (a3 * x0.Den)))) > 0)))] [6] ?_))
   refine oe (nt (cC ap (fun ar=>?_) (fun au=>?_)))
   ·refine qr (oN 3 [(6,vi (w64 (a3 + 1)))] [] ?_)
    exact oe (mp (w64 (a3 + 1),()) ar [6] [] 1)
   exact qk (mp (a3,()) au [6] [] 1)
  refine qs (qr (oN 2 [(32,vb (x1 == 3))] [25,7,6,2] ?_))
  refine oe (nt (cC aq (fun av=>?_) (fun aw=>?_)))
  ·refine qs (qr (oN 5 [(38,vb (decide ((w64 (2 * (w64 (x0.Num - (w64 (a3 * x0.Den)))))) ≥ x0.Den)))] [6] ?_))
   refine oe (nt (cC av (fun ax=>?_) (fun ay=>?_)))
   ·refine qr (oN 3 [(6,vi (w64 (a3 + 1)))] [] ?_)
    exact oe (mp (w64 (a3 + 1),()) ax [6] [] 1)
   exact qk (mp (a3,()) ay [6] [] 1)
  refine qs (qr (oN 2 [(41,vb (x1 == 4))] [7,6,2] ?_))
  refine oe (nt (cC aw (fun az=>?_) (fun b4=>?_)))
  ·refine qs ?_
   obtain ⟨b5,b6,b7⟩:=bS az
   refine JC_cut (τ:=Unit) (fun _=>[(6,vi a3),(59,vb b5)]) (fun _=>[(216,(eFrac x0))]) (fun _=>[]) ?_ (fun _=>?_)
   ·refine qr (oN 6 [(48,vb (decide ((w64 (2 * (w64 (x0.Num - (w64 (a3 * x0.Den)))))) > x0.Den)))] [7,6,2] ?_)
    refine oS 48 b6 (fun b8=>?_) (fun b9=>?_)
    ·refine oN 11 [(59,vb true)] [6] ?_
     refine oe ?_
     obtain rfl:=sI b8
     exact mt () [6,59] [] 1
    refine oN 6 [(54,vb ((w64 (2 * (w64 (x0.Num - (w64 (a3 * x0.Den)))))) == x0.Den))] [48,6] ?_
    refine oS 54 b9 (fun ba=>?_) (fun bb=>?_)
    ·refine oN 5 [(59,vb ((and64 a3 1) == 1))] [6] ?_
     refine oe ?_
     obtain rfl:=sI ba
     exact mt () [6,59] [] 1
    refine oN 5 [(59,vb false)] [6] ?_
    refine oe ?_
    obtain rfl:=sI bb
    exact mt () [6,59] [] 1
   refine nt (cC b7 (fun bc=>?_) (fun bd=>?_))
   ·refine qr (oN 3 [(6,vi (w64 (a3 + 1)))] [] ?_)
    exact oe (mp (w64 (a3 + 1),()) bc [6] [] 1)
   exact qk (mp (a3,()) bd [6] [] 1)
  exact qk (mp (a3,()) b4 [6] [] 1)
 have be:=(congrFun am _).symm.trans ao
 refine bn (nt (qs (qr (oN 3 [(5,vb true),(4,vi a4.1)] [] ?_))))
 refine oe (nt (qe ?_))
 obtain rfl:=sI be
 exact re [.int .i64 a4.1,.bool true]
theorem c_spec_Figure {W : World} {x0 : Book} {a0_0 : Option Addr} {c0_0 : Nat} {x1 : Int} {x2 : Int} {x3 : Int} {x4 : List Frac} {a4_0 : Option Addr} {c4_0 : Nat} {r : Int × Int × Bool} (h : spec_Figure x0 x1 x2 x3 x4 = some r) (hv0_0 : SlView W x0.Rules a0_0 c0_0) (hv4_0 : SlView W x4 a4_0 c4_0) :
  Gives0 Tryz.prog 150 #[vBook x0 (a0_0,c0_0),.int .i64 x1,.int .i64 x2,.int .i64 x3,.slice a4_0 x4.length c4_0] W (.tuple #[.int .i64 r.1,.int .i64 r.2.1,.bool r.2.2]):=by
 unfold spec_Figure at h
 refine en Tryz.func150 Tryz.ntmps150 ?_
 refine qs (qr (oB 4 [(5,.p 0 0)] [1,2,3,4] [(42,(eBook x0 (a0_0,c0_0)))] ?_))
 refine oe (nt (qs (qr (oN 4 [(21,vi x3),(20,vi x2),(19,vi x1),(18,.v (vBook x0 (a0_0,c0_0)))] [5,4] ?_))))
 obtain ⟨a3,a8,a9⟩:=bS h
 refine k0 (fun _ w hs=>c_spec_RuleFor a8 (hv0_0.k hs)) ?_
 refine oN 1 [(13,vi a3)] [5,4] ?_
 refine oe (nt (qs (qs (qr (oN 2 [(24,vb (decide (a3 < 0)))] [13,5,4] ?_)))))
 refine oe (nt (cC a9 (fun aa=>?_) (fun ab=>?_)))
 ·refine qs (qr (oN 3 [(12,vb false),(11,vi 0),(10,vi 0)] [] ?_))
  refine oe (nt (qe (nr ?_)))
  obtain rfl:=sI aa
  exact re [.int .i64 0,.int .i64 0,.bool false]
 refine qk (nt (qs (qr (oN 3 [(28,vi a3),(27,vs a0_0 x0.Rules c0_0)] [13,5,4] ?_))))
 obtain ⟨ac,a5,ae⟩:=bS ab
 refine oi 7 (fun _ w hs=>(hv0_0.k hs)) a5 ?_
 refine oN 1 [(30,.q a0_0 (Int.toNat a3 * 7 + 6))] [13,5,4] ?_
 obtain ⟨_,⟨af,ag,rfl,ah⟩,ai⟩:=SlView.at hv0_0 (idx_some a5).2.2
 refine ol 186 6 (.slice af ac.Nodes.length ag) (fun _ w hs=>⟨(hv0_0.k hs).ne (idx_some a5).2.2,ai.kept hs.kept⟩) ?_
 refine oN 1 [(32,vs a4_0 x4 c4_0)] [31,13,5] ?_
 obtain ⟨a4,aj,ak⟩:=bS ae
 refine k0 (fun _ w hs=>c_spec_Eval aj (ah.k hs) (hv4_0.k hs)) ?_
 refine oB 6 [(15,vb a4.2),(14,.p 1 0)] [13,5] [(42,(eBook x0 (a0_0,c0_0))),(216,(eFrac a4.1))] ?_
 refine oe (nt (qs (qs (qr (oN 2 [(37,vb (!a4.2))] [14,13,5] ?_)))))
 refine oe (nt (cC ak (fun al=>?_) (fun am=>?_)))
 ·refine qs (qr (oN 3 [(12,vb false),(11,vi 0),(10,vi 0)] [] ?_))
  refine oe (nt (qe (nr ?_)))
  obtain rfl:=sI al
  exact re [.int .i64 0,.int .i64 0,.bool false]
 refine qk (nt (qs (JC_quiet (by kernel_rfl) (by kernel_rfl) ?_)))
 refine qN 4 [(42,vi a3),(41,vs a0_0 x0.Rules c0_0),(39,.v (vFrac a4.1))] [13] ?_
 obtain ⟨an,a6,ao⟩:=bS am
 refine qi 7 (fun _ w hs=>(hv0_0.k hs)) a6 ?_
 refine qN 1 [(44,.q a0_0 (Int.toNat a3 * 7 + 5))] [39,13] ?_
 obtain ⟨_,⟨au,av,rfl,aw⟩,ap⟩:=SlView.at hv0_0 (idx_some a6).2.2
 refine ql 3 5 (.int .i64 an.Mode) (fun _ w hs=>⟨(hv0_0.k hs).ne (idx_some a6).2.2,ap.kept hs.kept⟩) ?_
 obtain ⟨a7,aq,ar⟩:=bS ao
 refine q0 (fun _ w hs=>c_spec_RoundFrac aq) ?_
 refine qN 5 [(16,vi a7.1)] [13] ?_
 refine qz (nt (qs (qr (oN 5 [(12,vb true),(11,vi a3),(10,vi a7.1)] [] ?_))))
 refine oe (nt (qe ?_))
 obtain rfl:=sI ar
 exact re [.int .i64 a7.1,.int .i64 a3,.bool true]
theorem c_spec_l22At {W : World} {x0 : Case} {b0 : AC × AC × AC × AC × AC} {x1 : Int} {x2 : Int} {r : Int} (h : spec_l22At x0 x1 x2 = some r) (hv0_0 : SlView W x0.Book.Rules b0.1.1 b0.1.2) (hv0_1 : SlView W x0.Store.Facts b0.2.1.1 b0.2.1.2) (hv0_2 : SlView W x0.Series.Points b0.2.2.1.1 b0.2.2.1.2) (hv0_3 : SlView W x0.Member.Spells b0.2.2.2.1.1 b0.2.2.2.1.2) (hv0_4 : SlView W x0.Member.Events b0.2.2.2.2.1 b0.2.2.2.2.2) :
  Gives0 Tryz.prog 95 #[vCase x0 b0,.int .i64 x1,.int .i64 x2] W (.int .i64 r):=by
 unfold spec_l22At at h
 refine en Tryz.func95 Tryz.ntmps95 ?_
 refine qs (qr (oB 2 [(3,.p 0 0)] [1,2] [(54,(eCase x0 b0))] ?_))
 refine oe (nt (qs (qs (qr (oN 4 [(15,vi x1),(14,sv b0.2.2.2.2 x0.Member.Events)] [3,1,2] ?_)))))
 obtain ⟨a6,a7,a8⟩:=bS h
 refine k0 (fun _ w hs=>c_spec_StatusAt a7 (hv0_4.k hs)) ?_
 refine oN 1 [(17,vb (a6 != 3))] [3,1,2] ?_
 refine oe (nt (cC a8 (fun a9=>?_) (fun aa=>?_)))
 ·refine qs (qr (oN 1 [(6,vi 0)] [] ?_))
  refine oe (nt (qe (nr ?_)))
  obtain rfl:=sI a9
  exact re [.int .i64 0]
 refine qk (nt (qs (qr (oN 3 [(21,vi x2),(20,vi x1),(19,.v (vCase x0 b0))] [3,1] ?_))))
 obtain ⟨a4,ab,ac⟩:=bS aa
 refine k1 (fun _ w hs=>c_spec_l22Vars (b0:=b0) ab (hv0_0.k hs) (hv0_1.k hs) (hv0_2.k hs) (hv0_3.k hs) (hv0_4.k hs)) (fun a5=>?_)
 refine oN 5 [(8,vb a4.2),(7,sv a5 a4.1)] [3,1] ?_
 refine oe (nt (qs (qs (qr (oN 2 [(26,vb (!a4.2))] [7,3,1] ?_)))))
 refine oe (nt (cC ac (fun ae=>?_) (fun af=>?_)))
 ·refine qs (qr (oN 1 [(6,vi 0)] [] ?_))
  refine oe (nt (qe (nr ?_)))
  obtain rfl:=sI ae
  exact re [.int .i64 0]
 refine qk (nt (qs (qr (oN 7 [(34,sv a5 a4.1),(33,vi x0.Member.Joined),(30,vi x1),(29,.v (vBook x0.Book b0.1))] [] ?_))))
 obtain ⟨a3,ag,ah⟩:=bS af
 refine k0 (fun _ w hs=>c_spec_Figure ag (hv0_0.k hs) (hs.view 0 rfl)) ?_
 refine oN 7 [(11,vb a3.2.2),(9,vi a3.1)] [] ?_
 refine oe (nt (qs (qs (qr (oN 2 [(40,vb (!a3.2.2))] [9] ?_)))))
 refine oe (nt (cC ah (fun ai=>?_) (fun aj=>?_)))
 ·refine qs (qr (oN 1 [(6,vi 0)] [] ?_))
  refine oe (nt (qe (nr ?_)))
  obtain rfl:=sI ai
  exact re [.int .i64 0]
 refine qk (nt (qs (qr (oN 4 [(6,vi (imin (imax a3.1 0) 10000000))] [] ?_))))
 refine oe (nt (qe ?_))
 obtain rfl:=sI aj
 exact re [.int .i64 (imin (imax a3.1 0) 10000000)]
theorem c_spec_l31Sum {W : World} {x0 : List Int} {a0_0 : Option Addr} {c0_0 : Nat} {r : Int} (h : spec_l31Sum x0 = some r) (hv0_0 : SlView W x0 a0_0 c0_0) :
  Gives0 Tryz.prog 92 #[.slice a0_0 x0.length c0_0] W (.int .i64 r):=by
 unfold spec_l31Sum at h
 refine en Tryz.func92 Tryz.ntmps92 ?_
 refine qs (qr (oN 1 [] [0] ?_))
 refine oe (nt (qs (qr (oN 1 [(3,vi 0)] [0] ?_))))
 refine oe (nt (qs (qs (qr (oN 1 [(4,vi 0)] [3,0] ?_)))))
 refine oe (nt ?_)
 obtain ⟨al,a9,a5⟩:=bS h
 obtain ⟨aa,ab,a5⟩:=brkS a5
 refine JC_cutP (τ:=(Int) × (Unit)) (fun y=>aa y.1 = some r) (fun a4=>[(3,vi a4.1)]) (fun a4=>[]) (fun a4=>[]) ?_ (fun a4 ac=>?_)
 ·refine qb (lp Unit a9 (fun a3 a6=>[(4,vi a3.1),(3,vi a3.2),(0,vs a0_0 x0 c0_0)]) (fun a3 a6=>[]) (fun a3 a6=>[]) () [4,3,0] [] 0 (fun a3 a6 am ae af=>?_))
  refine qs (qs (qr (oN 4 [(8,vb (decide (a3.1 < (x0.length : Int))))] [4,3,0] ?_)))
  refine oe (nt (cC ae (fun ag=>?_) (fun ah=>?_)))
  ·refine qk (nt (qs (qb (qr (oN 3 [(13,vi a3.1),(12,vs a0_0 x0 c0_0),(11,vi a3.2)] [4,0] ?_)))))
   obtain ⟨a7,a8,ai⟩:=bS ag
   refine oi 1 (fun _ w hs=>(hv0_0.k hs)) a8 ?_
   refine ol 3 0 (.int .i64 a7) (fun _ w hs=>(hv0_0.k hs).flatq a8) ?_
   refine oN 2 [(3,vi (w64 (a3.2 + a7)))] [4,0] ?_
   refine oe (bn (nt (qr (oN 3 [(4,vi (w64 (a3.1 + 1)))] [3,0] ?_))))
   exact oe (ct ai () [4,3,0] [] 0)
  refine qx (nx (nx (bh ?_)))
  have aj:=leafB af ah a5
  exact mp (a3.2,()) aj [3] [] 0
 have ak:=(congrFun ab _).symm.trans ac
 refine nt (qs (qr (oN 2 [(2,vi a4.1)] [] ?_)))
 refine oe (nt (qe ?_))
 obtain rfl:=sI ak
 exact re [.int .i64 a4.1]
theorem c_spec_l37Due {W : World} {x0 : Office} {b0 : AC × AC × AC × AC × AC × AC} {r : Int} (h : spec_l37Due x0 = some r) (hv0_0 : SlView W x0.Case.Book.Rules b0.1.1 b0.1.2) (hv0_1 : SlView W x0.Case.Store.Facts b0.2.1.1 b0.2.1.2) (hv0_2 : SlView W x0.Case.Series.Points b0.2.2.1.1 b0.2.2.1.2) (hv0_3 : SlView W x0.Case.Member.Spells b0.2.2.2.1.1 b0.2.2.2.1.2) (hv0_4 : SlView W x0.Case.Member.Events b0.2.2.2.2.1.1 b0.2.2.2.2.1.2) (hv0_5 : SlView W x0.Paid b0.2.2.2.2.2.1 b0.2.2.2.2.2.2) :
  Gives0 Tryz.prog 82 #[vOffice x0 b0] W (.int .i64 r):=by
 unfold spec_l37Due at h
 refine en Tryz.func82 Tryz.ntmps82 ?_
 refine qs (qr (oB 2 [(1,.p 0 0)] [] [(57,(eOffice x0 b0))] ?_))
 refine oe (nt (qs (qr (oN 7 [(3,vi (w64 (x0.Start + (x0.Paid.length : Int))))] [1] ?_))))
 refine oe (nt (qs (qr (oN 1 [(4,vi 0)] [3,1] ?_))))
 refine oe (nt (qs (qs (qr (oN 3 [(5,vi x0.Start)] [4,3,1] ?_)))))
 refine oe (nt ?_)
 obtain ⟨ao,a8,a5⟩:=bS h
 obtain ⟨a9,aa,a5⟩:=brkS a5
 refine JC_cutP (τ:=(Int × Int × Int × Int) × (Unit)) (fun y=>a9 y.1 = some r) (fun a4=>[(4,vi a4.1.1),(1,.p 0 0)]) (fun a4=>[(57,(eOffice (Office.mk (Case.mk x0.Case.Book x0.Case.Store x0.Case.Series (Member.mk a4.1.2.1 a4.1.2.2.1 x0.Case.Member.Spells x0.Case.Member.Events)) a4.1.2.2.2 x0.Paid) b0))]) (fun a4=>[]) ?_ (fun a4 ab=>?_)
 ·refine qb (lp Unit a8 (fun a3 a6=>[(5,vi a3.1),(4,vi a3.2),(3,vi (w64 (x0.Start + (x0.Paid.length : Int)))),(1,.p 0 0)]) (fun a3 a6=>[(57,(eOffice x0 b0))]) (fun a3 a6=>[]) () [5,4,3,1] [] 1 (fun a3 a6 ap ac ae=>?_))
  refine qs (qs (qr (oN 3 [(16,vb (decide (a3.1 ≤ (w64 (x0.Start + (x0.Paid.length : Int))))))] [5,4,3,1] ?_)))
  refine oe (nt (cC ac (fun af=>?_) (fun ag=>?_)))
  ·refine qk (nt (qs (qb (qr (oN 5 [(23,vi (w64 (x0.Start + (x0.Paid.length : Int)))),(22,vi a3.1),(21,.v (vCase x0.Case (b0.1,b0.2.1,b0.2.2.1,b0.2.2.2.1,b0.2.2.2.2.1))),(19,vi a3.2)] [5,3,1] ?_)))))
   obtain ⟨ah,ai,aj⟩:=bS af
   refine k0 (fun _ w hs=>c_spec_l22At (b0:=(b0.1,b0.2.1,b0.2.2.1,b0.2.2.2.1,b0.2.2.2.2.1)) ai (hv0_0.k hs) (hv0_1.k hs) (hv0_2.k hs) (hv0_3.k hs) (hv0_4.k hs)) ?_
   refine oN 2 [(4,vi (w64 (a3.2 + ah)))] [5,3,1] ?_
   refine oe (bn (nt (qr (oN 3 [(5,vi (w64 (a3.1 + 1)))] [4,3,1] ?_))))
   exact oe (ct aj () [5,4,3,1] [] 1)
  refine qx (nx (nx (bh ?_)))
  have ak:=leafB ae ag a5
  exact mp ((a3.2,x0.Case.Member.Birth,x0.Case.Member.Joined,x0.Start),()) ak [4,1] [] 1
 have al:=(congrFun aa _).symm.trans ab
 refine nt (qs (qr (oN 3 [(28,sv b0.2.2.2.2.2 x0.Paid),(26,vi a4.1.1)] [] ?_)))
 obtain ⟨a7,am,an⟩:=bS al
 refine k0 (fun _ w hs=>c_spec_l31Sum am (hv0_5.k hs)) ?_
 refine oN 2 [(2,vi (w64 (a4.1.1 - a7)))] [] ?_
 refine oe (nt (qe ?_))
 obtain rfl:=sI an
 exact re [.int .i64 (w64 (a4.1.1 - a7))]
theorem c_spec_PayMonth {W : World} {x0 : Office} {b0 : AC × AC × AC × AC × AC × AC} {r : Office × Int × Bool} (h : spec_PayMonth x0 = some r) (hv0_0 : SlView W x0.Case.Book.Rules b0.1.1 b0.1.2) (hv0_1 : SlView W x0.Case.Store.Facts b0.2.1.1 b0.2.1.2) (hv0_2 : SlView W x0.Case.Series.Points b0.2.2.1.1 b0.2.2.1.2) (hv0_3 : SlView W x0.Case.Member.Spells b0.2.2.2.1.1 b0.2.2.2.1.2) (hv0_4 : SlView W x0.Case.Member.Events b0.2.2.2.2.1.1 b0.2.2.2.2.1.2) (hv0_5 : SlView W x0.Paid b0.2.2.2.2.2.1 b0.2.2.2.2.2.2) :
  Gives Tryz.prog 34 #[vOffice x0 b0] W (fun y : AC × AC × AC × AC × AC × AC=>.tuple #[vOffice r.1 y,.int .i64 r.2.1,.bool r.2.2]) (fun y=>(rOffice r.1 y)):=by
 unfold spec_PayMonth at h
 refine en Tryz.func34 Tryz.ntmps34 ?_
 refine qs (qr (oB 4 [(2,.p 1 0),(1,.p 0 0)] [] [(57,(eOffice x0 b0)),(57,[.slice none 0 0,.slice none 0 0,.slice none 0 0,.int .i64 0,.int .i64 0,.slice none 0 0,.slice none 0 0,.int .i64 0,.slice none 0 0])] ?_))
 refine oe (nt (qs (qr (oN 1 [(7,.v (vOffice x0 b0))] [2,1] ?_))))
 obtain ⟨a4,ae,af⟩:=bS h
 refine k1 (fun _ w hs=>c_spec_l37Copy (b0:=b0) ae (hv0_0.k hs) (hv0_1.k hs) (hv0_2.k hs) (hv0_3.k hs) (hv0_4.k hs) (hv0_5.k hs)) (fun a3=>?_)
 refine oB 2 [(5,.p 2 0)] [2,1] [(57,(eOffice x0 b0)),(57,[.slice none 0 0,.slice none 0 0,.slice none 0 0,.int .i64 0,.int .i64 0,.slice none 0 0,.slice none 0 0,.int .i64 0,.slice none 0 0]),(57,(eOffice a4 a3))] ?_
 refine oe (nt (qs (qs (qr (oN 1 [(9,.v (vOffice x0 b0))] [5,2,1] ?_)))))
 obtain ⟨ag,ah,ai⟩:=bS af
 refine k0 (fun _ w hs=>c_spec_OfficeOk (b0:=b0) ah (hv0_0.k hs) (hv0_1.k hs) (hv0_2.k hs) (hv0_3.k hs) (hv0_4.k hs) (hv0_5.k hs)) ?_
 refine oN 1 [(11,vb (!ag))] [5,2,1] ?_
 refine oe (nt (cC ai (fun aj=>?_) (fun ak=>?_)))
 ·refine qs (qr (oB 4 [(4,vb false),(3,vi 0)] [2] [(57,(eOffice x0 b0)),(57,(eOffice a4 a3)),(57,(eOffice a4 a3))] ?_))
  refine oe (nt (qe (nr (rt [vOffice a4 a3,.int .i64 0,.bool false] (fun _ w hs=>?_)))))
  rw [← sI aj]
  exact ⟨(a3.1,a3.2.1,a3.2.2.1,a3.2.2.2.1,a3.2.2.2.2.1,a3.2.2.2.2.2),rfl,hs.kept.toBelow,(hs.takeR (is:=[0,0,0,0,0,0]) rfl).fresh⟩
 refine qk (nt (qs (qr (oN 1 [(13,.v (vOffice x0 b0))] [5,2,1] ?_))))
 obtain ⟨a7,al,am⟩:=bS ak
 refine k0 (fun _ w hs=>c_spec_l37Due (b0:=b0) al (hv0_0.k hs) (hv0_1.k hs) (hv0_2.k hs) (hv0_3.k hs) (hv0_4.k hs) (hv0_5.k hs)) ?_
 refine oN 2 [(6,vi (imax 0 a7))] [5,2,1] ?_
 refine oe (nt (qs (qr (oN 3 [(18,vi (imax 0 a7)),(17,sv a3.2.2.2.2.2 a4.Paid)] [6,5,2,1] ?_))))
 refine ob [] (rOffice a4 a3) 3 1 [.int .i64 (imax 0 a7)] ([imax 0 a7] : List Int) (own_flat (by kernel_rfl)) (fun aa=>?_)
 refine JO_res (R':=[SlRes 3 a4.Paid a3.2.2.2.2.2.1 a3.2.2.2.2.2.2,SlRes 3 ([imax 0 a7] : List Int) aa.1 aa.2,SlRes 188 a4.Case.Book.Rules a3.1.1 a3.1.2,SlRes 84 a4.Case.Store.Facts a3.2.1.1 a3.2.1.2,SlRes 85 a4.Case.Series.Points a3.2.2.1.1 a3.2.2.1.2,SlRes 191 a4.Case.Member.Spells a3.2.2.2.1.1 a3.2.2.2.1.2,SlRes 195 a4.Case.Member.Events a3.2.2.2.2.1.1 a3.2.2.2.2.1.2]) [6,0,0,0,0,0,0] (by kernel_rfl) ?_
 obtain ⟨a9,an,ao⟩:=bS am
 refine oa 55 aa.2 Tryz.t3 (.int .i64 0) (fun _ w hs=>⟨aa.2,(hs.view 1 rfl)⟩) an (fun a8=>?_)
 refine oB 2 [] [6,5,2,1] [(57,(eOffice x0 b0)),(57,[.slice none 0 0,.slice none 0 0,.slice none 0 0,.int .i64 0,.int .i64 0,.slice none 0 0,.slice none 0 0,.int .i64 0,.slice none 0 0]),(57,(eOffice (Office.mk a4.Case a4.Start a9) (a3.1,a3.2.1,a3.2.2.1,a3.2.2.2.1,a3.2.2.2.2.1,a8)))] ?_
 refine oe (nt (qs (qs (qr (oN 1 [(22,.v (vOffice (Office.mk a4.Case a4.Start a9) (a3.1,a3.2.1,a3.2.2.1,a3.2.2.2.1,a3.2.2.2.2.1,a8)))] [6,5,2,1] ?_)))))
 obtain ⟨ap,aq,ar⟩:=bS ao
 refine k0 (fun _ w hs=>c_spec_OfficeOk (b0:=(a3.1,a3.2.1,a3.2.2.1,a3.2.2.2.1,a3.2.2.2.2.1,a8)) aq (hs.view 2 rfl) (hs.view 3 rfl) (hs.view 4 rfl) (hs.view 5 rfl) (hs.view 6 rfl) (hs.view 0 rfl)) ?_
 refine oN 1 [(24,vb (!ap))] [6,5,2,1] ?_
 refine oe (nt (cC ar (fun au=>?_) (fun av=>?_)))
 ·refine qs (qr (oN 1 [(25,.v (vOffice x0 b0))] [2] ?_))
  obtain ⟨ab,aw,ax⟩:=bS au
  refine k1 (fun _ w hs=>c_spec_l37Copy (b0:=b0) aw (hv0_0.k hs) (hv0_1.k hs) (hv0_2.k hs) (hv0_3.k hs) (hv0_4.k hs) (hv0_5.k hs)) (fun a5=>?_)
  refine oB 3 [(4,vb false),(3,vi 0)] [2] [(57,(eOffice x0 b0)),(57,(eOffice ab a5)),(57,(eOffice (Office.mk a4.Case a4.Start a9) (a3.1,a3.2.1,a3.2.2.1,a3.2.2.2.1,a3.2.2.2.2.1,a8)))] ?_
  refine oe (nt (qe (nr (rt [vOffice ab a5,.int .i64 0,.bool false] (fun _ w hs=>?_)))))
  rw [← sI ax]
  exact ⟨(a5.1,a5.2.1,a5.2.2.1,a5.2.2.2.1,a5.2.2.2.2.1,a5.2.2.2.2.2),rfl,hs.kept.toBelow,(hs.takeR (is:=[0,0,0,0,0,0]) rfl).fresh⟩
 refine qk (nt (qs (qr (oN 1 [(27,.v (vOffice (Office.mk a4.Case a4.Start a9) (a3.1,a3.2.1,a3.2.2.1,a3.2.2.2.1,a3.2.2.2.2.1,a8)))] [6,2] ?_))))
 obtain ⟨ac,ay,az⟩:=bS av
 refine k1 (fun _ w hs=>c_spec_l37Copy (b0:=(a3.1,a3.2.1,a3.2.2.1,a3.2.2.2.1,a3.2.2.2.2.1,a8)) ay (hs.view 2 rfl) (hs.view 3 rfl) (hs.view 4 rfl) (hs.view 5 rfl) (hs.view 6 rfl) (hs.view 0 rfl)) (fun a6=>?_)
 refine oB 4 [(4,vb true),(3,vi (imax 0 a7))] [2] [(57,(eOffice x0 b0)),(57,(eOffice ac a6)),(57,(eOffice (Office.mk a4.Case a4.Start a9) (a3.1,a3.2.1,a3.2.2.1,a3.2.2.2.1,a3.2.2.2.2.1,a8)))] ?_
 refine oe (nt (qe (rt [vOffice ac a6,.int .i64 (imax 0 a7),.bool true] (fun _ w hs=>?_))))
 rw [← sI az]
 exact ⟨(a6.1,a6.2.1,a6.2.2.1,a6.2.2.2.1,a6.2.2.2.2.1,a6.2.2.2.2.2),rfl,hs.kept.toBelow,(hs.takeR (is:=[0,0,0,0,0,0]) rfl).fresh⟩
theorem c_spec_DoAct {W : World} {x0 : Office} {b0 : AC × AC × AC × AC × AC × AC} {x1 : Act} {r : Office × Int} (h : spec_DoAct x0 x1 = some r) (hv0_0 : SlView W x0.Case.Book.Rules b0.1.1 b0.1.2) (hv0_1 : SlView W x0.Case.Store.Facts b0.2.1.1 b0.2.1.2) (hv0_2 : SlView W x0.Case.Series.Points b0.2.2.1.1 b0.2.2.1.2) (hv0_3 : SlView W x0.Case.Member.Spells b0.2.2.2.1.1 b0.2.2.2.1.2) (hv0_4 : SlView W x0.Case.Member.Events b0.2.2.2.2.1.1 b0.2.2.2.2.1.2) (hv0_5 : SlView W x0.Paid b0.2.2.2.2.2.1 b0.2.2.2.2.2.2) :
  Gives Tryz.prog 30 #[vOffice x0 b0,vAct x1] W (fun y : AC × AC × AC × AC × AC × AC=>.tuple #[vOffice r.1 y,.int .i64 r.2]) (fun y=>(rOffice r.1 y)):=by
 unfold spec_DoAct at h
 refine en Tryz.func30 Tryz.ntmps30 ?_
 refine qs (qr (oB 4 [(4,.p 2 0),(3,.p 1 0),(2,.p 0 0)] [] [(57,(eOffice x0 b0)),(87,(eAct x1)),(57,[.slice none 0 0,.slice none 0 0,.slice none 0 0,.int .i64 0,.int .i64 0,.slice none 0 0,.slice none 0 0,.int .i64 0,.slice none 0 0])] ?_))
 refine oe (nt (qs (qs ?_)))
 obtain ⟨aj,ak,al⟩:=bS h
 refine JC_cut (τ:=Unit) (fun _=>[(2,.p 0 0),(3,.p 1 0),(4,.p 2 0),(23,vb aj)]) (fun _=>[(57,(eOffice x0 b0)),(87,(eAct x1)),(57,[.slice none 0 0,.slice none 0 0,.slice none 0 0,.int .i64 0,.int .i64 0,.slice none 0 0,.slice none 0 0,.int .i64 0,.slice none 0 0])]) (fun _=>[]) ?_ (fun _=>?_)
 ·refine qr (oN 1 [(16,.v (vOffice x0 b0))] [4,3,2] ?_)
  obtain ⟨am,an,ao⟩:=bS ak
  refine k0 (fun γ w hs=>c_spec_OfficeOk (b0:=b0) an (hv0_0.k hs) (hv0_1.k hs) (hv0_2.k hs) (hv0_3.k hs) (hv0_4.k hs) (hv0_5.k hs)) ?_
  refine oN 2 [(19,vb (!am))] [4,3,2] ?_
  refine oS 19 ao (fun ap=>?_) (fun aq=>?_)
  ·refine oN 4 [(23,vb true)] [4,3,2] ?_
   refine oe ?_
   obtain rfl:=sI ap
   exact mt () [2,3,4,23] [] 3
  refine oN 1 [(20,.v (vAct x1))] [19,4,3,2] ?_
  obtain ⟨ar,au,av⟩:=bS aq
  refine k0 (fun γ w hs=>c_spec_ActOk au) ?_
  refine oN 2 [(23,vb (!ar))] [4,3,2] ?_
  refine oe ?_
  obtain rfl:=sI av
  exact mt () [2,3,4,23] [] 3
 refine nt (cC al (fun aw=>?_) (fun ax=>?_))
 ·refine qs (qr (oN 1 [(24,.v (vOffice x0 b0))] [4] ?_))
  obtain ⟨ai,ay,az⟩:=bS aw
  refine k1 (fun γ w hs=>c_spec_l37Copy (b0:=b0) ay (hv0_0.k hs) (hv0_1.k hs) (hv0_2.k hs) (hv0_3.k hs) (hv0_4.k hs) (hv0_5.k hs)) (fun ac=>?_)
  refine oB 2 [(5,vi (-1))] [4] [(57,(eOffice x0 b0)),(87,(eAct x1)),(57,(eOffice ai ac))] ?_
  refine oe (nt (qe (nr (rt [vOffice ai ac,.int .i64 (-1)] (fun γ w hs=>?_)))))
  rw [← sI az]
  exact ⟨(ac.1,ac.2.1,ac.2.2.1,ac.2.2.2.1,ac.2.2.2.2.1,ac.2.2.2.2.2),rfl,hs.kept.toBelow,(hs.takeR (is:=[0,0,0,0,0,0]) rfl).fresh⟩
 refine qk (nt (qs (qs (qr (oN 2 [(27,vi x1.Kind)] [2,3,4] ?_)))))
 refine oe (nt (qb (qs (qr (oN 2 [(28,vb (x1.Kind == 1))] [27,2,3,4] ?_)))))
 refine oe (nt (cC ax (fun b4=>?_) (fun b5=>?_)))
 ·refine qs (qr (oN 3 [(33,.v (vFact x1.Fact)),(31,.v (vOffice x0 b0))] [4] ?_))
  obtain ⟨a8,b6,b7⟩:=bS b4
  refine k1 (fun γ w hs=>c_spec_LearnFact (b0:=b0) b6 (hv0_0.k hs) (hv0_1.k hs) (hv0_2.k hs) (hv0_3.k hs) (hv0_4.k hs) (hv0_5.k hs)) (fun a6=>?_)
  refine oB 6 [(7,vb a8.2),(6,.p 3 0)] [4] [(57,(eOffice x0 b0)),(87,(eAct x1)),(57,[.slice none 0 0,.slice none 0 0,.slice none 0 0,.int .i64 0,.int .i64 0,.slice none 0 0,.slice none 0 0,.int .i64 0,.slice none 0 0]),(57,(eOffice a8.1 a6))] ?_
  refine oe (nt (qs ?_))
  obtain ⟨af,b8,b9⟩:=bS b7
  refine JC_cut (τ:=Unit) (fun _=>[(5,vi af),(4,.p 2 0)]) (fun _=>[(57,(eOffice x0 b0)),(87,(eAct x1)),(57,(eOffice a8.1 a6)),(57,(eOffice a8.1 a6))]) (fun _=>(rOffice a8.1 a6)) ?_ (fun _=>?_)
  ·refine JC_weak [7,6,4] [0,0,0,0,0,0] 4 (sl':=[(7,vb a8.2),(6,.p 3 0),(4,.p 2 0)]) (bx':=[(57,(eOffice x0 b0)),(87,(eAct x1)),(57,[.slice none 0 0,.slice none 0 0,.slice none 0 0,.int .i64 0,.int .i64 0,.slice none 0 0,.slice none 0 0,.int .i64 0,.slice none 0 0]),(57,(eOffice a8.1 a6))]) (R':=(rOffice a8.1 a6)) (by kernel_rfl) (by kernel_rfl) (by kernel_rfl) (by kernel_rfl) ?_
   refine JC_heldN (ks:=[0,1,3]) (Rk:=(rOffice a8.1 a6)) 5 (by kernel_rfl) (by kernel_rfl) ?_
   refine htq 0 (.v (vOffice a8.1 a6)) [0,0,0,0,0,0] ?_
   refine hk [37,7,4] ?_
   refine htq 1 (vb a8.2) [0,0,0,0,0,0] ?_
   refine hk [38,37,4] ?_
   refine ha1 2 ?_
   refine hi (fun γ0 δ hm=>?_)
   refine g0 (fun w hs=>c_spec_l38If b8) ?_
   refine gn hm [39,37,4] [0,0,0,0,0,0] ?_
   refine ha1 3 ?_
   refine hi (fun γ0 δ hm=>?_)
   refine gs [(39,vi af),(37,.v (vOffice a8.1 a6)),(4,.p 2 0)] [(57,(eOffice x0 b0)),(87,(eAct x1)),(57,(eOffice a8.1 a6)),(57,(eOffice a8.1 a6))] (fun δ2=>?_)
   refine gd hm [39,4] [0,0,0,0,0,0] ?_
   refine htq 4 (vi af) [0,0,0,0,0,0] ?_
   refine hk [5,4] ?_
   exact hd () [5,4] [0,0,0,0,0,0] 4
  refine nt (qe (br (nr (rt [vOffice a8.1 a6,.int .i64 af] (fun γ w hs=>?_)))))
  rw [← sI b9]
  exact ⟨(a6.1,a6.2.1,a6.2.2.1,a6.2.2.2.1,a6.2.2.2.2.1,a6.2.2.2.2.2),rfl,hs.kept.toBelow,(hs.takeR (is:=[0,0,0,0,0,0]) rfl).fresh⟩
 refine qs (qr (oN 2 [(40,vb (x1.Kind == 2))] [2,3,4] ?_))
 refine oe (nt (cC b5 (fun ba=>?_) (fun bb=>?_)))
 ·refine qs (qr (oN 3 [(45,.v (vPoint x1.Point)),(43,.v (vOffice x0 b0))] [4] ?_))
  obtain ⟨a9,bc,bd⟩:=bS ba
  refine k1 (fun γ w hs=>c_spec_LearnPoint (b0:=b0) bc (hv0_0.k hs) (hv0_1.k hs) (hv0_2.k hs) (hv0_3.k hs) (hv0_4.k hs) (hv0_5.k hs)) (fun a7=>?_)
  refine oB 6 [(9,vb a9.2),(8,.p 3 0)] [4] [(57,(eOffice x0 b0)),(87,(eAct x1)),(57,[.slice none 0 0,.slice none 0 0,.slice none 0 0,.int .i64 0,.int .i64 0,.slice none 0 0,.slice none 0 0,.int .i64 0,.slice none 0 0]),(57,(eOffice a9.1 a7))] ?_
  refine oe (nt (qs ?_))
  obtain ⟨ag,be,bf⟩:=bS bd
  refine JC_cut (τ:=Unit) (fun _=>[(5,vi ag),(4,.p 2 0)]) (fun _=>[(57,(eOffice x0 b0)),(87,(eAct x1)),(57,(eOffice a9.1 a7)),(57,(eOffice a9.1 a7))]) (fun _=>(rOffice a9.1 a7)) ?_ (fun _=>?_)
  ·refine JC_weak [9,8,4] [0,0,0,0,0,0] 4 (sl':=[(9,vb a9.2),(8,.p 3 0),(4,.p 2 0)]) (bx':=[(57,(eOffice x0 b0)),(87,(eAct x1)),(57,[.slice none 0 0,.slice none 0 0,.slice none 0 0,.int .i64 0,.int .i64 0,.slice none 0 0,.slice none 0 0,.int .i64 0,.slice none 0 0]),(57,(eOffice a9.1 a7))]) (R':=(rOffice a9.1 a7)) (by kernel_rfl) (by kernel_rfl) (by kernel_rfl) (by kernel_rfl) ?_
   refine JC_heldN (ks:=[0,1,3]) (Rk:=(rOffice a9.1 a7)) 5 (by kernel_rfl) (by kernel_rfl) ?_
   refine htq 0 (.v (vOffice a9.1 a7)) [0,0,0,0,0,0] ?_
   refine hk [49,9,4] ?_
   refine htq 1 (vb a9.2) [0,0,0,0,0,0] ?_
   refine hk [50,49,4] ?_
   refine ha1 2 ?_
   refine hi (fun γ0 δ hm=>?_)
   refine g0 (fun w hs=>c_spec_l38If be) ?_
   refine gn hm [51,49,4] [0,0,0,0,0,0] ?_
   refine ha1 3 ?_
   refine hi (fun γ0 δ hm=>?_)
   refine gs [(51,vi ag),(49,.v (vOffice a9.1 a7)),(4,.p 2 0)] [(57,(eOffice x0 b0)),(87,(eAct x1)),(57,(eOffice a9.1 a7)),(57,(eOffice a9.1 a7))] (fun δ2=>?_)
   refine gd hm [51,4] [0,0,0,0,0,0] ?_
   refine htq 4 (vi ag) [0,0,0,0,0,0] ?_
   refine hk [5,4] ?_
   exact hd () [5,4] [0,0,0,0,0,0] 4
  refine nt (qe (br (nr (rt [vOffice a9.1 a7,.int .i64 ag] (fun γ w hs=>?_)))))
  rw [← sI bf]
  exact ⟨(a7.1,a7.2.1,a7.2.2.1,a7.2.2.2.1,a7.2.2.2.2.1,a7.2.2.2.2.2),rfl,hs.kept.toBelow,(hs.takeR (is:=[0,0,0,0,0,0]) rfl).fresh⟩
 refine qk (bn (nt (qs (qr (oN 1 [(10,vi 0)] [2,3,4] ?_)))))
 refine oe (nt (qs (qr (oN 1 [(52,.v (vOffice x0 b0))] [10,3,4] ?_))))
 obtain ⟨bg,bi,bj⟩:=bS bb
 refine k1 (fun γ w hs=>c_spec_l37Copy (b0:=b0) bi (hv0_0.k hs) (hv0_1.k hs) (hv0_2.k hs) (hv0_3.k hs) (hv0_4.k hs) (hv0_5.k hs)) (fun ab=>?_)
 refine oB 2 [(11,.p 3 0)] [10,3,4] [(57,(eOffice x0 b0)),(87,(eAct x1)),(57,[.slice none 0 0,.slice none 0 0,.slice none 0 0,.int .i64 0,.int .i64 0,.slice none 0 0,.slice none 0 0,.int .i64 0,.slice none 0 0]),(57,(eOffice bg ab))] ?_
 refine oe (nt (qs (qs (qr (oN 1 [(12,vi 0)] [11,10,3,4] ?_)))))
 refine oe (nt ?_)
 obtain ⟨c4,bk,ah⟩:=bS bj
 obtain ⟨bl,bm,ah⟩:=brkS ah
 refine JC_cutP (τ:=(Int × (List Rule) × (List Fact) × (List Point) × Int × Int × (List Spell) × (List Event) × Int × (List Int)) × (AC × AC × AC × AC × AC × AC)) (fun y=>bl y.1 = some r) (fun a3=>[(11,.p 3 0),(10,vi a3.1.1),(4,.p 2 0)]) (fun a3=>[(57,(eOffice x0 b0)),(87,(eAct x1)),(57,[.slice none 0 0,.slice none 0 0,.slice none 0 0,.int .i64 0,.int .i64 0,.slice none 0 0,.slice none 0 0,.int .i64 0,.slice none 0 0]),(57,(eOffice (Office.mk (Case.mk (Book.mk a3.1.2.1) (Store.mk a3.1.2.2.1) (Series.mk a3.1.2.2.2.1) (Member.mk a3.1.2.2.2.2.1 a3.1.2.2.2.2.2.1 a3.1.2.2.2.2.2.2.1 a3.1.2.2.2.2.2.2.2.1)) a3.1.2.2.2.2.2.2.2.2.1 a3.1.2.2.2.2.2.2.2.2.2) a3.2))]) (fun a3=>[SlRes 188 a3.1.2.1 a3.2.1.1 a3.2.1.2,SlRes 84 a3.1.2.2.1 a3.2.2.1.1 a3.2.2.1.2,SlRes 85 a3.1.2.2.2.1 a3.2.2.2.1.1 a3.2.2.2.1.2,SlRes 191 a3.1.2.2.2.2.2.2.1 a3.2.2.2.2.1.1 a3.2.2.2.2.1.2,SlRes 195 a3.1.2.2.2.2.2.2.2.1 a3.2.2.2.2.2.1.1 a3.2.2.2.2.2.1.2,SlRes 3 a3.1.2.2.2.2.2.2.2.2.2 a3.2.2.2.2.2.2.1 a3.2.2.2.2.2.2.2]) ?_ (fun a3 bo=>?_)
 ·refine qb (lp (AC × AC × AC × AC × AC × AC) bk (fun a4 a5=>[(12,vi a4.1),(11,.p 3 0),(10,vi a4.2.1),(3,.p 1 0),(4,.p 2 0)]) (fun a4 a5=>[(57,(eOffice x0 b0)),(87,(eAct x1)),(57,[.slice none 0 0,.slice none 0 0,.slice none 0 0,.int .i64 0,.int .i64 0,.slice none 0 0,.slice none 0 0,.int .i64 0,.slice none 0 0]),(57,(eOffice (Office.mk (Case.mk (Book.mk a4.2.2.1) (Store.mk a4.2.2.2.1) (Series.mk a4.2.2.2.2.1) (Member.mk a4.2.2.2.2.2.1 a4.2.2.2.2.2.2.1 a4.2.2.2.2.2.2.2.1 a4.2.2.2.2.2.2.2.2.1)) a4.2.2.2.2.2.2.2.2.2.1 a4.2.2.2.2.2.2.2.2.2.2) a5))]) (fun a4 a5=>[SlRes 188 a4.2.2.1 a5.1.1 a5.1.2,SlRes 84 a4.2.2.2.1 a5.2.1.1 a5.2.1.2,SlRes 85 a4.2.2.2.2.1 a5.2.2.1.1 a5.2.2.1.2,SlRes 191 a4.2.2.2.2.2.2.2.1 a5.2.2.2.1.1 a5.2.2.2.1.2,SlRes 195 a4.2.2.2.2.2.2.2.2.1 a5.2.2.2.2.1.1 a5.2.2.2.2.1.2,SlRes 3 a4.2.2.2.2.2.2.2.2.2.2 a5.2.2.2.2.2.1 a5.2.2.2.2.2.2]) ((ab.1.1,ab.1.2),(ab.2.1.1,ab.2.1.2),(ab.2.2.1.1,ab.2.2.1.2),(ab.2.2.2.1.1,ab.2.2.2.1.2),(ab.2.2.2.2.1.1,ab.2.2.2.2.1.2),(ab.2.2.2.2.2.1,ab.2.2.2.2.2.2)) [12,11,10,3,4] [0,0,0,0,0,0] 4 (fun a4 a5 c5 bp bq=>?_))
  refine qs (qs (qr (oN 4 [(57,vb (decide (a4.1 < x1.N)))] [12,11,10,3,4] ?_)))
  refine oe (nt (cC bp (fun bs=>?_) (fun bu=>?_)))
  ·refine qk (nt (qs (qb (qs (qr (oN 1 [(61,.v (vOffice (Office.mk (Case.mk (Book.mk a4.2.2.1) (Store.mk a4.2.2.2.1) (Series.mk a4.2.2.2.2.1) (Member.mk a4.2.2.2.2.2.1 a4.2.2.2.2.2.2.1 a4.2.2.2.2.2.2.2.1 a4.2.2.2.2.2.2.2.2.1)) a4.2.2.2.2.2.2.2.2.2.1 a4.2.2.2.2.2.2.2.2.2.2) a5))] [12,11,10,3,4] ?_))))))
   obtain ⟨ae,bv,bw⟩:=bS bs
   refine k1 (fun γ w hs=>c_spec_PayMonth (b0:=a5) bv (hs.view 0 rfl) (hs.view 1 rfl) (hs.view 2 rfl) (hs.view 3 rfl) (hs.view 4 rfl) (hs.view 5 rfl)) (fun aa=>?_)
   refine oB 8 [(14,vi ae.2.1),(13,.p 4 0)] [12,11,10,3,4] [(57,(eOffice x0 b0)),(87,(eAct x1)),(57,[.slice none 0 0,.slice none 0 0,.slice none 0 0,.int .i64 0,.int .i64 0,.slice none 0 0,.slice none 0 0,.int .i64 0,.slice none 0 0]),(57,(eOffice (Office.mk (Case.mk (Book.mk a4.2.2.1) (Store.mk a4.2.2.2.1) (Series.mk a4.2.2.2.2.1) (Member.mk a4.2.2.2.2.2.1 a4.2.2.2.2.2.2.1 a4.2.2.2.2.2.2.2.1 a4.2.2.2.2.2.2.2.2.1)) a4.2.2.2.2.2.2.2.2.2.1 a4.2.2.2.2.2.2.2.2.2.2) a5)),(57,(eOffice ae.1 aa))] ?_
   refine oe (nt (qs (qr (oB 2 [] [14,12,11,10,3,4] [(57,(eOffice x0 b0)),(87,(eAct x1)),(57,[.slice none 0 0,.slice none 0 0,.slice none 0 0,.int .i64 0,.int .i64 0,.slice none 0 0,.slice none 0 0,.int .i64 0,.slice none 0 0]),(57,(eOffice ae.1 aa)),(57,(eOffice ae.1 aa))] ?_))))
   refine oe (nt (qr (oN 4 [(10,vi (w64 (a4.2.1 + ae.2.1)))] [12,11,3,4] ?_)))
   refine oe (bn (nt (qr (oN 3 [(12,vi (w64 (a4.1 + 1)))] [10,11,3,4] ?_))))
   exact oe (ct bw ((aa.1.1,aa.1.2),(aa.2.1.1,aa.2.1.2),(aa.2.2.1.1,aa.2.2.1.2),(aa.2.2.2.1.1,aa.2.2.2.1.2),(aa.2.2.2.2.1.1,aa.2.2.2.2.1.2),(aa.2.2.2.2.2.1,aa.2.2.2.2.2.2)) [12,11,10,3,4] [0,0,0,0,0,0] 4)
  refine qx (nx (nx (bh ?_)))
  have bz:=leafB bq bu ah
  exact mp ((a4.2.1,a4.2.2.1,a4.2.2.2.1,a4.2.2.2.2.1,a4.2.2.2.2.2.1,a4.2.2.2.2.2.2.1,a4.2.2.2.2.2.2.2.1,a4.2.2.2.2.2.2.2.2.1,a4.2.2.2.2.2.2.2.2.2.1,a4.2.2.2.2.2.2.2.2.2.2),((a5.1.1,a5.1.2),(a5.2.1.1,a5.2.1.2),(a5.2.2.1.1,a5.2.2.1.2),(a5.2.2.2.1.1,a5.2.2.2.1.2),(a5.2.2.2.2.1.1,a5.2.2.2.2.1.2),(a5.2.2.2.2.2.1,a5.2.2.2.2.2.2))) bz [11,10,4] [0,0,0,0,0,0] 4
 have c3:=(congrFun bm _).symm.trans bo
 refine nt (qs (qr (oB 4 [(5,vi a3.1.1)] [4] [(57,(eOffice x0 b0)),(87,(eAct x1)),(57,(eOffice (Office.mk (Case.mk (Book.mk a3.1.2.1) (Store.mk a3.1.2.2.1) (Series.mk a3.1.2.2.2.1) (Member.mk a3.1.2.2.2.2.1 a3.1.2.2.2.2.2.1 a3.1.2.2.2.2.2.2.1 a3.1.2.2.2.2.2.2.2.1)) a3.1.2.2.2.2.2.2.2.2.1 a3.1.2.2.2.2.2.2.2.2.2) a3.2)),(57,(eOffice (Office.mk (Case.mk (Book.mk a3.1.2.1) (Store.mk a3.1.2.2.1) (Series.mk a3.1.2.2.2.1) (Member.mk a3.1.2.2.2.2.1 a3.1.2.2.2.2.2.1 a3.1.2.2.2.2.2.2.1 a3.1.2.2.2.2.2.2.2.1)) a3.1.2.2.2.2.2.2.2.2.1 a3.1.2.2.2.2.2.2.2.2.2) a3.2))] ?_)))
 refine oe (nt (qe (rt [vOffice (Office.mk (Case.mk (Book.mk a3.1.2.1) (Store.mk a3.1.2.2.1) (Series.mk a3.1.2.2.2.1) (Member.mk a3.1.2.2.2.2.1 a3.1.2.2.2.2.2.1 a3.1.2.2.2.2.2.2.1 a3.1.2.2.2.2.2.2.2.1)) a3.1.2.2.2.2.2.2.2.2.1 a3.1.2.2.2.2.2.2.2.2.2) a3.2,.int .i64 a3.1.1] (fun γ w hs=>?_))))
 rw [← sI c3]
 exact ⟨(a3.2.1,a3.2.2.1,a3.2.2.2.1,a3.2.2.2.2.1,a3.2.2.2.2.2.1,a3.2.2.2.2.2.2),rfl,hs.kept.toBelow,(hs.takeR (is:=[0,0,0,0,0,0]) rfl).fresh⟩
theorem c_spec_RunActs {W : World} {x0 : Case} {b0 : AC × AC × AC × AC × AC} {x1 : Int} {x2 : List Act} {a2_0 : Option Addr} {c2_0 : Nat} {r : Office × (List Int)} (h : spec_RunActs x0 x1 x2 = some r) (hv0_0 : SlView W x0.Book.Rules b0.1.1 b0.1.2) (hv0_1 : SlView W x0.Store.Facts b0.2.1.1 b0.2.1.2) (hv0_2 : SlView W x0.Series.Points b0.2.2.1.1 b0.2.2.1.2) (hv0_3 : SlView W x0.Member.Spells b0.2.2.2.1.1 b0.2.2.2.1.2) (hv0_4 : SlView W x0.Member.Events b0.2.2.2.2.1 b0.2.2.2.2.2) (hv2_0 : SlView W x2 a2_0 c2_0) :
  Gives Tryz.prog 15 #[vCase x0 b0,.int .i64 x1,.slice a2_0 x2.length c2_0] W (fun y : (AC × AC × AC × AC × AC × AC) × AC=>.tuple #[vOffice r.1 y.1,.slice y.2.1 r.2.length y.2.2]) (fun y=>(rOffice r.1 y.1 ++ [SlRes 3 r.2 y.2.1 y.2.2])):=by
 unfold spec_RunActs at h
 refine en Tryz.func15 Tryz.ntmps15 ?_
 refine qs (qr (oB 3 [(6,.p 1 0),(3,.p 0 0)] [1,2] [(54,(eCase x0 b0)),(57,[.slice none 0 0,.slice none 0 0,.slice none 0 0,.int .i64 0,.int .i64 0,.slice none 0 0,.slice none 0 0,.int .i64 0,.slice none 0 0])] ?_))
 refine oe (nt (qs (qr (ob [] [] 3 0 [] ([] : List Int) (own_flat (by kernel_rfl)) (fun aa=>?_)))))
 refine oN 1 [(8,sv aa ([] : List Int))] [6,3,1,2] ?_
 refine oe (nt (qs (qr (oN 2 [(17,vi x1),(16,.v (vCase x0 b0))] [8,6,2] ?_))))
 obtain ⟨ab,aj,ak⟩:=bS h
 refine k1 (fun γ w hs=>c_spec_OfficeNew (b0:=b0) aj (hv0_0.k hs) (hv0_1.k hs) (hv0_2.k hs) (hv0_3.k hs) (hv0_4.k hs)) (fun a8=>?_)
 refine oB 6 [(10,vb ab.2),(9,.p 2 0)] [8,6,2] [(54,(eCase x0 b0)),(57,[.slice none 0 0,.slice none 0 0,.slice none 0 0,.int .i64 0,.int .i64 0,.slice none 0 0,.slice none 0 0,.int .i64 0,.slice none 0 0]),(57,(eOffice ab.1 a8))] ?_
 refine oe (nt (qs (qs ?_)))
 obtain ⟨al,am,an⟩:=bS ak
 refine JC_cut (τ:=Unit) (fun _=>[(2,vs a2_0 x2 c2_0),(6,.p 1 0),(8,sv aa ([] : List Int)),(9,.p 2 0),(27,vb al)]) (fun _=>[(54,(eCase x0 b0)),(57,[.slice none 0 0,.slice none 0 0,.slice none 0 0,.int .i64 0,.int .i64 0,.slice none 0 0,.slice none 0 0,.int .i64 0,.slice none 0 0]),(57,(eOffice ab.1 a8))]) (fun _=>([SlRes 3 ([] : List Int) aa.1 aa.2] ++ rOffice ab.1 a8)) ?_ (fun _=>?_)
 ·refine qr (oN 3 [(23,vb (!ab.2))] [9,8,6,2] ?_)
  refine oS 23 am (fun ao=>?_) (fun ap=>?_)
  ·refine oN 4 [(27,vb true)] [9,8,6,2] ?_
   refine oe ?_
   obtain rfl:=sI ao
   exact mt () [2,6,8,9,27] [6,0,0,0,0,0,0] 3
  refine oN 4 [(27,vb (decide ((x2.length : Int) > 60)))] [9,8,6,2] ?_
  refine oe ?_
  obtain rfl:=sI ap
  exact mt () [2,6,8,9,27] [6,0,0,0,0,0,0] 3
 refine nt (cC an (fun aq=>?_) (fun ar=>?_))
 ·refine qs (qr (oN 4 [(7,sv aa ([] : List Int))] [6] ?_))
  refine oe (nt (qe (nr (JE_addnil 188 (List.nil (α:=Rule)) rfl ?_))))
  refine JE_addnil 84 (List.nil (α:=Fact)) rfl ?_
  refine JE_addnil 85 (List.nil (α:=Point)) rfl ?_
  refine JE_addnil 191 (List.nil (α:=Spell)) rfl ?_
  refine JE_addnil 195 (List.nil (α:=Event)) rfl ?_
  refine JE_addnil 3 (List.nil (α:=Int)) rfl ?_
  refine rt [.agg #[.slice none 0 0,.slice none 0 0,.slice none 0 0,.int .i64 0,.int .i64 0,.slice none 0 0,.slice none 0 0,.int .i64 0,.slice none 0 0],.slice aa.1 ([] : List Int).length aa.2] (fun γ w hs=>?_)
  rw [← sI aq]
  exact ⟨(((none,0),(none,0),(none,0),(none,0),(none,0),(none,0)),aa),rfl,hs.kept.toBelow,(hs.takeR (is:=[5,4,3,2,1,0,0]) rfl).fresh⟩
 refine qk (nt (qs (qs (qr (oN 1 [(11,vi 0)] [2,6,8,9] ?_)))))
 refine oe (nt ?_)
 obtain ⟨bd,au,af⟩:=bS ar
 obtain ⟨av,aw,af⟩:=brkS af
 refine JC_cutP (τ:=((List Int) × Int × Int × Int × Int × Int × (List Rule) × (List Fact) × (List Point) × Int × Int × (List Spell) × (List Event) × Int × (List Int)) × (AC × AC × AC × AC × AC × AC × AC)) (fun y=>av y.1 = some r) (fun a5=>[(6,.p 1 0),(8,sv a5.2.1 a5.1.1),(9,.p 2 0)]) (fun a5=>[(54,(eCase (Case.mk x0.Book x0.Store x0.Series (Member.mk a5.1.2.1 a5.1.2.2.1 x0.Member.Spells x0.Member.Events)) b0)),(57,[.slice none 0 0,.slice none 0 0,.slice none 0 0,.int .i64 a5.1.2.2.2.1,.int .i64 a5.1.2.2.2.2.1,.slice none 0 0,.slice none 0 0,.int .i64 a5.1.2.2.2.2.2.1,.slice none 0 0]),(57,(eOffice (Office.mk (Case.mk (Book.mk a5.1.2.2.2.2.2.2.1) (Store.mk a5.1.2.2.2.2.2.2.2.1) (Series.mk a5.1.2.2.2.2.2.2.2.2.1) (Member.mk a5.1.2.2.2.2.2.2.2.2.2.1 a5.1.2.2.2.2.2.2.2.2.2.2.1 a5.1.2.2.2.2.2.2.2.2.2.2.2.1 a5.1.2.2.2.2.2.2.2.2.2.2.2.2.1)) a5.1.2.2.2.2.2.2.2.2.2.2.2.2.2.1 a5.1.2.2.2.2.2.2.2.2.2.2.2.2.2.2) a5.2.2))]) (fun a5=>[SlRes 3 a5.1.1 a5.2.1.1 a5.2.1.2,SlRes 188 a5.1.2.2.2.2.2.2.1 a5.2.2.1.1 a5.2.2.1.2,SlRes 84 a5.1.2.2.2.2.2.2.2.1 a5.2.2.2.1.1 a5.2.2.2.1.2,SlRes 85 a5.1.2.2.2.2.2.2.2.2.1 a5.2.2.2.2.1.1 a5.2.2.2.2.1.2,SlRes 191 a5.1.2.2.2.2.2.2.2.2.2.2.2.1 a5.2.2.2.2.2.1.1 a5.2.2.2.2.2.1.2,SlRes 195 a5.1.2.2.2.2.2.2.2.2.2.2.2.2.1 a5.2.2.2.2.2.2.1.1 a5.2.2.2.2.2.2.1.2,SlRes 3 a5.1.2.2.2.2.2.2.2.2.2.2.2.2.2.2 a5.2.2.2.2.2.2.2.1 a5.2.2.2.2.2.2.2.2]) ?_ (fun a5 ax=>?_)
 ·refine qb (lp (AC × AC × AC × AC × AC × AC × AC) au (fun a3 a4=>[(11,vi a3.1),(2,vs a2_0 x2 c2_0),(6,.p 1 0),(8,sv a4.1 a3.2.1),(9,.p 2 0)]) (fun a3 a4=>[(54,(eCase x0 b0)),(57,[.slice none 0 0,.slice none 0 0,.slice none 0 0,.int .i64 0,.int .i64 0,.slice none 0 0,.slice none 0 0,.int .i64 0,.slice none 0 0]),(57,(eOffice (Office.mk (Case.mk (Book.mk a3.2.2.1) (Store.mk a3.2.2.2.1) (Series.mk a3.2.2.2.2.1) (Member.mk a3.2.2.2.2.2.1 a3.2.2.2.2.2.2.1 a3.2.2.2.2.2.2.2.1 a3.2.2.2.2.2.2.2.2.1)) a3.2.2.2.2.2.2.2.2.2.1 a3.2.2.2.2.2.2.2.2.2.2) a4.2))]) (fun a3 a4=>[SlRes 3 a3.2.1 a4.1.1 a4.1.2,SlRes 188 a3.2.2.1 a4.2.1.1 a4.2.1.2,SlRes 84 a3.2.2.2.1 a4.2.2.1.1 a4.2.2.1.2,SlRes 85 a3.2.2.2.2.1 a4.2.2.2.1.1 a4.2.2.2.1.2,SlRes 191 a3.2.2.2.2.2.2.2.1 a4.2.2.2.2.1.1 a4.2.2.2.2.1.2,SlRes 195 a3.2.2.2.2.2.2.2.2.1 a4.2.2.2.2.2.1.1 a4.2.2.2.2.2.1.2,SlRes 3 a3.2.2.2.2.2.2.2.2.2.2 a4.2.2.2.2.2.2.1 a4.2.2.2.2.2.2.2]) ((aa.1,aa.2),(a8.1.1,a8.1.2),(a8.2.1.1,a8.2.1.2),(a8.2.2.1.1,a8.2.2.1.2),(a8.2.2.2.1.1,a8.2.2.2.1.2),(a8.2.2.2.2.1.1,a8.2.2.2.2.1.2),(a8.2.2.2.2.2.1,a8.2.2.2.2.2.2)) [11,2,6,8,9] [0,0,0,0,0,0,0] 3 (fun a3 a4 be ay az=>?_))
  refine qs (qs (qr (oN 4 [(33,vb (decide (a3.1 < (x2.length : Int))))] [11,2,6,8,9] ?_)))
  refine oe (nt (cC ay (fun b4=>?_) (fun b5=>?_)))
  ·refine qk (nt (qs (qb (qs ?_))))
   obtain ⟨ac,ah,b6⟩:=bS b4
   obtain ⟨a6,ai,b7⟩:=bS b6
   refine JC_cut (τ:=(AC × AC × AC × AC × AC × AC)) (fun a7=>[(13,vi a6.2),(12,.p 3 0),(11,vi a3.1),(2,vs a2_0 x2 c2_0),(6,.p 1 0),(8,sv a4.1 a3.2.1),(9,.p 2 0)]) (fun a7=>[(54,(eCase x0 b0)),(57,[.slice none 0 0,.slice none 0 0,.slice none 0 0,.int .i64 0,.int .i64 0,.slice none 0 0,.slice none 0 0,.int .i64 0,.slice none 0 0]),(57,(eOffice (Office.mk (Case.mk (Book.mk a3.2.2.1) (Store.mk a3.2.2.2.1) (Series.mk a3.2.2.2.2.1) (Member.mk a3.2.2.2.2.2.1 a3.2.2.2.2.2.2.1 a3.2.2.2.2.2.2.2.1 a3.2.2.2.2.2.2.2.2.1)) a3.2.2.2.2.2.2.2.2.2.1 a3.2.2.2.2.2.2.2.2.2.2) a4.2)),(57,(eOffice a6.1 a7))]) (fun a7=>(rOffice a6.1 a7 ++ [SlRes 3 a3.2.1 a4.1.1 a4.1.2,SlRes 188 a3.2.2.1 a4.2.1.1 a4.2.1.2,SlRes 84 a3.2.2.2.1 a4.2.2.1.1 a4.2.2.1.2,SlRes 85 a3.2.2.2.2.1 a4.2.2.2.1.1 a4.2.2.2.1.2,SlRes 191 a3.2.2.2.2.2.2.2.1 a4.2.2.2.2.1.1 a4.2.2.2.2.1.2,SlRes 195 a3.2.2.2.2.2.2.2.2.1 a4.2.2.2.2.2.1.1 a4.2.2.2.2.2.1.2,SlRes 3 a3.2.2.2.2.2.2.2.2.2.2 a4.2.2.2.2.2.2.1 a4.2.2.2.2.2.2.2])) ?_ (fun a7=>?_)
   ·refine JC_weak [11,2,6,8,9] [0,0,0,0,0,0,0] 3 (sl':=[(11,vi a3.1),(2,vs a2_0 x2 c2_0),(6,.p 1 0),(8,sv a4.1 a3.2.1),(9,.p 2 0)]) (bx':=[(54,(eCase x0 b0)),(57,[.slice none 0 0,.slice none 0 0,.slice none 0 0,.int .i64 0,.int .i64 0,.slice none 0 0,.slice none 0 0,.int .i64 0,.slice none 0 0]),(57,(eOffice (Office.mk (Case.mk (Book.mk a3.2.2.1) (Store.mk a3.2.2.2.1) (Series.mk a3.2.2.2.2.1) (Member.mk a3.2.2.2.2.2.1 a3.2.2.2.2.2.2.1 a3.2.2.2.2.2.2.2.1 a3.2.2.2.2.2.2.2.2.1)) a3.2.2.2.2.2.2.2.2.2.1 a3.2.2.2.2.2.2.2.2.2.2) a4.2))]) (R':=[SlRes 3 a3.2.1 a4.1.1 a4.1.2,SlRes 188 a3.2.2.1 a4.2.1.1 a4.2.1.2,SlRes 84 a3.2.2.2.1 a4.2.2.1.1 a4.2.2.1.2,SlRes 85 a3.2.2.2.2.1 a4.2.2.2.1.1 a4.2.2.2.1.2,SlRes 191 a3.2.2.2.2.2.2.2.1 a4.2.2.2.2.1.1 a4.2.2.2.2.1.2,SlRes 195 a3.2.2.2.2.2.2.2.2.1 a4.2.2.2.2.2.1.1 a4.2.2.2.2.2.1.2,SlRes 3 a3.2.2.2.2.2.2.2.2.2.2 a4.2.2.2.2.2.2.1 a4.2.2.2.2.2.2.2]) (by kernel_rfl) (by kernel_rfl) (by kernel_rfl) (by kernel_rfl) ?_
    refine JC_heldN (ks:=[0,1,2]) (Rk:=[SlRes 3 a3.2.1 a4.1.1 a4.1.2,SlRes 188 a3.2.2.1 a4.2.1.1 a4.2.1.2,SlRes 84 a3.2.2.2.1 a4.2.2.1.1 a4.2.2.1.2,SlRes 85 a3.2.2.2.2.1 a4.2.2.2.1.1 a4.2.2.2.1.2,SlRes 191 a3.2.2.2.2.2.2.2.1 a4.2.2.2.2.1.1 a4.2.2.2.2.1.2,SlRes 195 a3.2.2.2.2.2.2.2.2.1 a4.2.2.2.2.2.1.1 a4.2.2.2.2.2.1.2,SlRes 3 a3.2.2.2.2.2.2.2.2.2.2 a4.2.2.2.2.2.2.1 a4.2.2.2.2.2.2.2]) 12 (by kernel_rfl) (by kernel_rfl) ?_
    refine htq 0 (.v (vOffice (Office.mk (Case.mk (Book.mk a3.2.2.1) (Store.mk a3.2.2.2.1) (Series.mk a3.2.2.2.2.1) (Member.mk a3.2.2.2.2.2.1 a3.2.2.2.2.2.2.1 a3.2.2.2.2.2.2.2.1 a3.2.2.2.2.2.2.2.2.1)) a3.2.2.2.2.2.2.2.2.2.1 a3.2.2.2.2.2.2.2.2.2.2) a4.2)) [0,0,0,0,0,0,0] ?_
    refine htq 1 (vs a2_0 x2 c2_0) [0,0,0,0,0,0,0] ?_
    refine htq 2 (vi a3.1) [0,0,0,0,0,0,0] ?_
    refine ht 3 (.q a2_0 (Int.toNat a3.1 * 10)) [0,0,0,0,0,0,0] (index_held (d:=a2_0) (m:=x2.length) (j:=a3.1) (s:=10) (by kernel_rfl) (fun γ0 w hs=>(hv2_0.k hs)) rfl ah) ?_
    refine hk [40,37,11,2,6,8,9] ?_
    refine ht 4 (.v (vAct ac)) [0,0,0,0,0,0,0] (loadq_held (t:=87) (d:=a2_0) (Int.toNat a3.1 * 10) 0 (by kernel_rfl) (cs:=(eAct ac)) (v:=vAct ac) (fun γ0 w hs=>(hv2_0.k hs).flatq ah) (by kernel_rfl)) ?_
    refine hk [41,37,11,2,6,8,9] ?_
    refine ha2 5 9 ?_ ?_
    ·refine hi (fun γ0 δ hm=>?_)
     refine g1 (fun w hs=>c_spec_DoAct (b0:=a4.2) ai (hs.view 1 rfl) (hs.view 2 rfl) (hs.view 3 rfl) (hs.view 4 rfl) (hs.view 5 rfl) (hs.view 6 rfl)) (fun a9=>?_)
     refine gn hm [42,11,2,6,8,9] [6,6,6,6,6,6,6] ?_
     refine htq 6 (.v (.tuple #[vOffice a6.1 a9,.int .i64 a6.2])) [6,6,6,6,6,6,6] ?_
     refine hk [36,11,2,6,8,9] ?_
     refine htq 7 (.v (vOffice a6.1 a9)) [6,6,6,6,6,6,6] ?_
     refine htq 8 (vi a6.2) [6,6,6,6,6,6,6] ?_
     refine hk [44,43,11,2,6,8,9] ?_
     refine ha1 9 ?_
     refine hi (fun γ0 δ hm=>?_)
     refine gs [(12,.p 3 0),(44,vi a6.2),(43,.v (vOffice a6.1 a9)),(11,vi a3.1),(2,vs a2_0 x2 c2_0),(6,.p 1 0),(8,sv a4.1 a3.2.1),(9,.p 2 0)] [(54,(eCase x0 b0)),(57,[.slice none 0 0,.slice none 0 0,.slice none 0 0,.int .i64 0,.int .i64 0,.slice none 0 0,.slice none 0 0,.int .i64 0,.slice none 0 0]),(57,(eOffice (Office.mk (Case.mk (Book.mk a3.2.2.1) (Store.mk a3.2.2.2.1) (Series.mk a3.2.2.2.2.1) (Member.mk a3.2.2.2.2.2.1 a3.2.2.2.2.2.2.1 a3.2.2.2.2.2.2.2.1 a3.2.2.2.2.2.2.2.2.1)) a3.2.2.2.2.2.2.2.2.2.1 a3.2.2.2.2.2.2.2.2.2.2) a4.2)),(57,[.slice none 0 0,.slice none 0 0,.slice none 0 0,.int .i64 0,.int .i64 0,.slice none 0 0,.slice none 0 0,.int .i64 0,.slice none 0 0])] (fun δ2=>?_)
     refine gd hm [12,44,43,11,2,6,8,9] [6,6,6,6,6,6,6] ?_
     refine ha1 10 ?_
     refine hi (fun γ0 δ hm=>?_)
     refine gs [(12,.p 3 0),(44,vi a6.2),(43,.v (vOffice a6.1 a9)),(11,vi a3.1),(2,vs a2_0 x2 c2_0),(6,.p 1 0),(8,sv a4.1 a3.2.1),(9,.p 2 0)] [(54,(eCase x0 b0)),(57,[.slice none 0 0,.slice none 0 0,.slice none 0 0,.int .i64 0,.int .i64 0,.slice none 0 0,.slice none 0 0,.int .i64 0,.slice none 0 0]),(57,(eOffice (Office.mk (Case.mk (Book.mk a3.2.2.1) (Store.mk a3.2.2.2.1) (Series.mk a3.2.2.2.2.1) (Member.mk a3.2.2.2.2.2.1 a3.2.2.2.2.2.2.1 a3.2.2.2.2.2.2.2.1 a3.2.2.2.2.2.2.2.2.1)) a3.2.2.2.2.2.2.2.2.2.1 a3.2.2.2.2.2.2.2.2.2.2) a4.2)),(57,(eOffice a6.1 a9))] (fun δ2=>?_)
     refine gd hm [12,44,11,2,6,8,9] [6,6,6,6,6,6,6] ?_
     refine htq 11 (vi a6.2) [6,6,6,6,6,6,6] ?_
     refine hk [13,12,11,2,6,8,9] ?_
     exact hd a9 [13,12,11,2,6,8,9] [0,0,0,0,0,0,0,0,0,0,0,0,0] 4
    ·refine hi (fun γ0 δ hm=>?_)
     refine gs [(12,.p 3 0),(41,.v (vAct ac)),(37,.v (vOffice (Office.mk (Case.mk (Book.mk a3.2.2.1) (Store.mk a3.2.2.2.1) (Series.mk a3.2.2.2.2.1) (Member.mk a3.2.2.2.2.2.1 a3.2.2.2.2.2.2.1 a3.2.2.2.2.2.2.2.1 a3.2.2.2.2.2.2.2.2.1)) a3.2.2.2.2.2.2.2.2.2.1 a3.2.2.2.2.2.2.2.2.2.2) a4.2)),(11,vi a3.1),(2,vs a2_0 x2 c2_0),(6,.p 1 0),(8,sv a4.1 a3.2.1),(9,.p 2 0)] [(54,(eCase x0 b0)),(57,[.slice none 0 0,.slice none 0 0,.slice none 0 0,.int .i64 0,.int .i64 0,.slice none 0 0,.slice none 0 0,.int .i64 0,.slice none 0 0]),(57,(eOffice (Office.mk (Case.mk (Book.mk a3.2.2.1) (Store.mk a3.2.2.2.1) (Series.mk a3.2.2.2.2.1) (Member.mk a3.2.2.2.2.2.1 a3.2.2.2.2.2.2.1 a3.2.2.2.2.2.2.2.1 a3.2.2.2.2.2.2.2.2.1)) a3.2.2.2.2.2.2.2.2.2.1 a3.2.2.2.2.2.2.2.2.2.2) a4.2)),(57,[.slice none 0 0,.slice none 0 0,.slice none 0 0,.int .i64 0,.int .i64 0,.slice none 0 0,.slice none 0 0,.int .i64 0,.slice none 0 0])] (fun δ2=>?_)
     refine gd hm [12,41,37,11,2,6,8,9] [0,0,0,0,0,0,0] ?_
     refine ha1 5 ?_
     refine hi (fun γ0 δ hm=>?_)
     refine g1 (fun w hs=>c_spec_DoAct (b0:=a4.2) ai (hs.view 1 rfl) (hs.view 2 rfl) (hs.view 3 rfl) (hs.view 4 rfl) (hs.view 5 rfl) (hs.view 6 rfl)) (fun a9=>?_)
     refine gn hm [42,12,11,2,6,8,9] [6,6,6,6,6,6,6] ?_
     refine htq 6 (.v (.tuple #[vOffice a6.1 a9,.int .i64 a6.2])) [6,6,6,6,6,6,6] ?_
     refine hk [36,12,11,2,6,8,9] ?_
     refine htq 7 (.v (vOffice a6.1 a9)) [6,6,6,6,6,6,6] ?_
     refine htq 8 (vi a6.2) [6,6,6,6,6,6,6] ?_
     refine hk [44,43,12,11,2,6,8,9] ?_
     refine ha1 10 ?_
     refine hi (fun γ0 δ hm=>?_)
     refine gs [(44,vi a6.2),(43,.v (vOffice a6.1 a9)),(12,.p 3 0),(11,vi a3.1),(2,vs a2_0 x2 c2_0),(6,.p 1 0),(8,sv a4.1 a3.2.1),(9,.p 2 0)] [(54,(eCase x0 b0)),(57,[.slice none 0 0,.slice none 0 0,.slice none 0 0,.int .i64 0,.int .i64 0,.slice none 0 0,.slice none 0 0,.int .i64 0,.slice none 0 0]),(57,(eOffice (Office.mk (Case.mk (Book.mk a3.2.2.1) (Store.mk a3.2.2.2.1) (Series.mk a3.2.2.2.2.1) (Member.mk a3.2.2.2.2.2.1 a3.2.2.2.2.2.2.1 a3.2.2.2.2.2.2.2.1 a3.2.2.2.2.2.2.2.2.1)) a3.2.2.2.2.2.2.2.2.2.1 a3.2.2.2.2.2.2.2.2.2.2) a4.2)),(57,(eOffice a6.1 a9))] (fun δ2=>?_)
     refine gd hm [44,12,11,2,6,8,9] [6,6,6,6,6,6,6] ?_
     refine htq 11 (vi a6.2) [6,6,6,6,6,6,6] ?_
     refine hk [13,12,11,2,6,8,9] ?_
     exact hd a9 [13,12,11,2,6,8,9] [0,0,0,0,0,0,0,0,0,0,0,0,0] 4
   refine nt (qs (qr (oB 2 [] [13,11,2,6,8,9] [(54,(eCase x0 b0)),(57,[.slice none 0 0,.slice none 0 0,.slice none 0 0,.int .i64 0,.int .i64 0,.slice none 0 0,.slice none 0 0,.int .i64 0,.slice none 0 0]),(57,(eOffice a6.1 a7)),(57,(eOffice a6.1 a7))] ?_)))
   refine oe (nt (qr (oN 2 [(47,vi a6.2),(46,sv a4.1 a3.2.1)] [11,2,6,9] ?_)))
   refine ob [] (rOffice a6.1 a7 ++ [SlRes 3 a3.2.1 a4.1.1 a4.1.2,SlRes 188 a3.2.2.1 a4.2.1.1 a4.2.1.2,SlRes 84 a3.2.2.2.1 a4.2.2.1.1 a4.2.2.1.2,SlRes 85 a3.2.2.2.2.1 a4.2.2.2.1.1 a4.2.2.2.1.2,SlRes 191 a3.2.2.2.2.2.2.2.1 a4.2.2.2.2.1.1 a4.2.2.2.2.1.2,SlRes 195 a3.2.2.2.2.2.2.2.2.1 a4.2.2.2.2.2.1.1 a4.2.2.2.2.2.1.2,SlRes 3 a3.2.2.2.2.2.2.2.2.2.2 a4.2.2.2.2.2.2.1 a4.2.2.2.2.2.2.2]) 3 1 [.int .i64 a6.2] ([a6.2] : List Int) (own_flat (by kernel_rfl)) (fun ae=>?_)
   refine JO_res (R':=([SlRes 3 a3.2.1 a4.1.1 a4.1.2,SlRes 3 ([a6.2] : List Int) ae.1 ae.2] ++ (rOffice a6.1 a7 ++ [SlRes 188 a3.2.2.1 a4.2.1.1 a4.2.1.2,SlRes 84 a3.2.2.2.1 a4.2.2.1.1 a4.2.2.1.2,SlRes 85 a3.2.2.2.2.1 a4.2.2.2.1.1 a4.2.2.2.1.2,SlRes 191 a3.2.2.2.2.2.2.2.1 a4.2.2.2.2.1.1 a4.2.2.2.2.1.2,SlRes 195 a3.2.2.2.2.2.2.2.2.1 a4.2.2.2.2.2.1.1 a4.2.2.2.2.2.1.2,SlRes 3 a3.2.2.2.2.2.2.2.2.2.2 a4.2.2.2.2.2.2.1 a4.2.2.2.2.2.2.2]))) [7,0,0,0,0,0,0,0,0,0,0,0,0,0] (by kernel_rfl) ?_
   obtain ⟨b8,b9,ba⟩:=bS b7
   refine oa 55 ae.2 Tryz.t3 (.int .i64 0) (fun γ w hs=>⟨ae.2,(hs.view 1 rfl)⟩) b9 (fun ag=>?_)
   refine oN 1 [(8,sv ag b8)] [11,2,6,9] ?_
   refine oe (bn (nt (qr (oN 3 [(11,vi (w64 (a3.1 + 1)))] [8,2,6,9] ?_))))
   exact oe (ct ba ((ag.1,ag.2),(a7.1.1,a7.1.2),(a7.2.1.1,a7.2.1.2),(a7.2.2.1.1,a7.2.2.1.2),(a7.2.2.2.1.1,a7.2.2.2.1.2),(a7.2.2.2.2.1.1,a7.2.2.2.2.1.2),(a7.2.2.2.2.2.1,a7.2.2.2.2.2.2)) [11,2,6,8,9] [0,1,1,1,1,1,1] 3)
  refine qx (nx (nx (bh ?_)))
  have bb:=leafB az b5 af
  exact mp ((a3.2.1,x0.Member.Birth,x0.Member.Joined,0,0,0,a3.2.2.1,a3.2.2.2.1,a3.2.2.2.2.1,a3.2.2.2.2.2.1,a3.2.2.2.2.2.2.1,a3.2.2.2.2.2.2.2.1,a3.2.2.2.2.2.2.2.2.1,a3.2.2.2.2.2.2.2.2.2.1,a3.2.2.2.2.2.2.2.2.2.2),((a4.1.1,a4.1.2),(a4.2.1.1,a4.2.1.2),(a4.2.2.1.1,a4.2.2.1.2),(a4.2.2.2.1.1,a4.2.2.2.1.2),(a4.2.2.2.2.1.1,a4.2.2.2.2.1.2),(a4.2.2.2.2.2.1.1,a4.2.2.2.2.2.1.2),(a4.2.2.2.2.2.2.1,a4.2.2.2.2.2.2.2))) bb [6,8,9] [0,0,0,0,0,0,0] 3
 have bc:=(congrFun aw _).symm.trans ax
 refine nt (qs (qr (oB 4 [(7,sv a5.2.1 a5.1.1)] [6] [(54,(eCase (Case.mk x0.Book x0.Store x0.Series (Member.mk a5.1.2.1 a5.1.2.2.1 x0.Member.Spells x0.Member.Events)) b0)),(57,(eOffice (Office.mk (Case.mk (Book.mk a5.1.2.2.2.2.2.2.1) (Store.mk a5.1.2.2.2.2.2.2.2.1) (Series.mk a5.1.2.2.2.2.2.2.2.2.1) (Member.mk a5.1.2.2.2.2.2.2.2.2.2.1 a5.1.2.2.2.2.2.2.2.2.2.2.1 a5.1.2.2.2.2.2.2.2.2.2.2.2.1 a5.1.2.2.2.2.2.2.2.2.2.2.2.2.1)) a5.1.2.2.2.2.2.2.2.2.2.2.2.2.2.1 a5.1.2.2.2.2.2.2.2.2.2.2.2.2.2.2) a5.2.2)),(57,(eOffice (Office.mk (Case.mk (Book.mk a5.1.2.2.2.2.2.2.1) (Store.mk a5.1.2.2.2.2.2.2.2.1) (Series.mk a5.1.2.2.2.2.2.2.2.2.1) (Member.mk a5.1.2.2.2.2.2.2.2.2.2.1 a5.1.2.2.2.2.2.2.2.2.2.2.1 a5.1.2.2.2.2.2.2.2.2.2.2.2.1 a5.1.2.2.2.2.2.2.2.2.2.2.2.2.1)) a5.1.2.2.2.2.2.2.2.2.2.2.2.2.2.1 a5.1.2.2.2.2.2.2.2.2.2.2.2.2.2.2) a5.2.2))] ?_)))
 refine oe (nt (qe (rt [vOffice (Office.mk (Case.mk (Book.mk a5.1.2.2.2.2.2.2.1) (Store.mk a5.1.2.2.2.2.2.2.2.1) (Series.mk a5.1.2.2.2.2.2.2.2.2.1) (Member.mk a5.1.2.2.2.2.2.2.2.2.2.1 a5.1.2.2.2.2.2.2.2.2.2.2.1 a5.1.2.2.2.2.2.2.2.2.2.2.2.1 a5.1.2.2.2.2.2.2.2.2.2.2.2.2.1)) a5.1.2.2.2.2.2.2.2.2.2.2.2.2.2.1 a5.1.2.2.2.2.2.2.2.2.2.2.2.2.2.2) a5.2.2,.slice a5.2.1.1 a5.1.1.length a5.2.1.2] (fun γ w hs=>?_))))
 rw [← sI bc]
 exact ⟨((a5.2.2.1,a5.2.2.2.1,a5.2.2.2.2.1,a5.2.2.2.2.2.1,a5.2.2.2.2.2.2.1,a5.2.2.2.2.2.2.2),a5.2.1),rfl,hs.kept.toBelow,(hs.takeR (is:=[1,1,1,1,1,1,0]) rfl).fresh⟩
theorem c_slices_Clone_Node {W : World} {x0 : List Node} {a0_0 : Option Addr} {c0_0 : Nat} {r : (List Node)} (h : slices_Clone_Node x0 = some r) (hv0_0 : SlView W x0 a0_0 c0_0) :
  Gives Tryz.prog 214 #[.slice a0_0 x0.length c0_0] W (fun y : AC=>.slice y.1 r.length y.2) (fun y=>[SlRes 233 r y.1 y.2]):=by
 unfold slices_Clone_Node at h
 refine en Tryz.func214 Tryz.ntmps214 ?_
 refine qs (qr (oN 1 [] [0] ?_))
 refine oe (nt (qs (qs (qr (oN 1 [(3,vs a0_0 x0 c0_0)] [0] ?_)))))
 rcases a0_0 with _ | a5
 ·obtain rfl:=hv0_0.nil rfl
  obtain rfl:=hv0_0.nilE
  have a6 : (some ([] : List Node)) = some r:=h
  refine oN 1 [(4,vb true)] [0] ?_
  refine oe (nt (JC_cond true (by kernel_rfl) (fun _=>?_) (fun hb=>by cases hb)))
  refine qs (qr (oN 1 [(2,.v (.slice none 0 0))] [] ?_))
  refine oe (nt (qe (nr (JE_addnil 233 (List.nil (α:=Node)) rfl ?_))))
  refine rt [.slice none 0 0] (fun _ w hs=>?_)
  rw [← sI a6]
  exact ⟨(none,0),rfl,hs.kept.toBelow,(hs.takeR (is:=[0]) rfl).fresh⟩
 refine oN 1 [(4,vb false)] [0] ?_
 refine oe (nt (JC_cond false (by kernel_rfl) (fun hb=>by cases hb) (fun _=>?_)))
 refine qk (nt (qs (qr (ob [] [] 233 0 [] ([] : List Node) (own_flat (by kernel_rfl)) (fun a9=>?_)))))
 refine oN 1 [(6,vs (some a5) x0 c0_0)] [5] ?_
 obtain ⟨a4,a7,a8⟩:=bS h
 refine oa 186 c0_0 Tryz.t233 (vNode (Node.mk 0 0 0 0 (Frac.mk 0 0))) (fun _ w hs=>⟨c0_0,(hv0_0.k hs)⟩) a7 (fun a3=>?_)
 refine oN 1 [(2,sv a3 a4)] [] ?_
 refine oe (nt (qe (rt [.slice a3.1 a4.length a3.2] (fun _ w hs=>?_))))
 rw [← sI a8]
 exact ⟨a3,rfl,hs.kept.toBelow,(hs.takeR (is:=[0]) rfl).fresh⟩
theorem c_impl_copyNodes {W : World} {x0 : List Node} {a0_0 : Option Addr} {c0_0 : Nat} {r : (List Node)} (h : impl_copyNodes x0 = some r) (hv0_0 : SlView W x0 a0_0 c0_0) :
  Gives Tryz.prog 175 #[.slice a0_0 x0.length c0_0] W (fun y : AC=>.slice y.1 r.length y.2) (fun y=>[SlRes 233 r y.1 y.2]):=by
 unfold impl_copyNodes at h
 refine en Tryz.func175 Tryz.ntmps175 ?_
 refine qs (qr (oN 1 [] [0] ?_))
 refine oe (nt (qs (qr (oN 1 [(3,vs a0_0 x0 c0_0)] [] ?_))))
 obtain ⟨a4,a5,a6⟩:=bS h
 refine k1 (fun _ w hs=>c_slices_Clone_Node a5 (hv0_0.k hs)) (fun a3=>?_)
 refine oN 1 [(2,sv a3 a4)] [] ?_
 refine oe (nt (qe (rt [.slice a3.1 a4.length a3.2] (fun _ w hs=>?_))))
 rw [← sI a6]
 exact ⟨a3,rfl,hs.kept.toBelow,(hs.takeR (is:=[0]) rfl).fresh⟩
theorem c_impl_copyBook {W : World} {x0 : Book} {a0_0 : Option Addr} {c0_0 : Nat} {r : Book} (h : impl_copyBook x0 = some r) (hv0_0 : SlView W x0.Rules a0_0 c0_0) :
  Gives Tryz.prog 143 #[vBook x0 (a0_0,c0_0)] W (fun y : AC=>vBook r y) (fun y=>[SlRes 188 r.Rules y.1 y.2]):=by
 unfold impl_copyBook at h
 refine en Tryz.func143 Tryz.ntmps143 ?_
 refine qs (qr (oB 2 [(2,.p 1 0),(1,.p 0 0)] [] [(42,(eBook x0 (a0_0,c0_0))),(42,[.slice none 0 0])] ?_))
 refine oe (nt (qs (qr (oB 3 [(3,.p 2 0)] [2,1] [(42,(eBook x0 (a0_0,c0_0))),(42,[.slice none 0 0]),(42,[.slice none 0 0])] ?_))))
 refine oe (nt (qs (qs (qr (oN 4 [(10,vi 0),(9,vi (x0.Rules.length : Int)),(8,vs a0_0 x0.Rules c0_0)] [3,2] ?_)))))
 refine oe (nt (JC_addnil 188 (List.nil (α:=Rule)) rfl ?_))
 obtain ⟨b4,ag,a9⟩:=bS h
 obtain ⟨ah,ai,a9⟩:=brkS a9
 refine JC_cutP (τ:=((List Rule)) × (AC)) (fun y=>ah y.1 = some r) (fun a4=>[(3,.p 2 0),(2,.p 1 0)]) (fun a4=>[(42,(eBook x0 (a0_0,c0_0))),(42,[.slice none 0 0]),(42,(eBook (Book.mk a4.1) a4.2))]) (fun a4=>[SlRes 188 a4.1 a4.2.1 a4.2.2]) ?_ (fun a4 aj=>?_)
 ·refine qb (lp AC ag (fun a6 a5=>[(10,vi a6.1),(9,vi (x0.Rules.length : Int)),(8,vs a0_0 x0.Rules c0_0),(3,.p 2 0),(2,.p 1 0)]) (fun a6 a5=>[(42,(eBook x0 (a0_0,c0_0))),(42,[.slice none 0 0]),(42,(eBook (Book.mk a6.2) a5))]) (fun a6 a5=>[SlRes 188 a6.2 a5.1 a5.2]) (none,0) [10,9,8,3,2] [0] 3 (fun a6 a5 b5 ak al=>?_))
  refine qs (qr (oN 1 [(11,vb (decide (a6.1 < (x0.Rules.length : Int))))] [10,9,8,3,2] ?_))
  refine oe (nt (qs (cC ak (fun am=>?_) (fun an=>?_))))
  ·refine qk (nt (qs (qb (qs (qr ?_)))))
   obtain ⟨a3,aa,ao⟩:=bS am
   refine oi 7 (fun _ w hs=>(hv0_0.k hs)) aa ?_
   obtain ⟨_,⟨ab,ac,rfl,ap⟩,aq⟩:=SlView.at hv0_0 (idx_some aa).2.2
   refine ol 188 0 (vRule a3 (ab,ac)) (fun _ w hs=>⟨(hv0_0.k hs).ne (idx_some aa).2.2,aq.kept hs.kept⟩) ?_
   refine oB 2 [(5,.p 3 0)] [10,9,8,3,2] [(42,(eBook x0 (a0_0,c0_0))),(42,[.slice none 0 0]),(42,(eBook (Book.mk a6.2) a5)),(188,(eRule a3 (ab,ac)))] ?_
   refine oe (nt (qs (qr (oN 2 [(15,vs ab a3.Nodes ac)] [5,10,9,8,3,2] ?_))))
   obtain ⟨a8,ar,au⟩:=bS ao
   refine k1 (fun _ w hs=>c_impl_copyNodes ar (ap.k hs)) (fun a7=>?_)
   refine oB 2 [] [5,10,9,8,3,2] [(42,(eBook x0 (a0_0,c0_0))),(42,[.slice none 0 0]),(42,(eBook (Book.mk a6.2) a5)),(188,(eRule (Rule.mk a3.Name a3.From a3.To a3.Joined a3.Rank a3.Mode a8) a7))] ?_
   refine oe (nt (qr (oN 3 [(20,.v (vRule (Rule.mk a3.Name a3.From a3.To a3.Joined a3.Rank a3.Mode a8) a7)),(19,sv a5 a6.2)] [10,9,8,3,2] ?_)))
   refine ob [SlRes 233 a8 a7.1 a7.2] [SlRes 188 a6.2 a5.1 a5.2] 188 1 [.int .i64 a3.Name,.int .i64 a3.From,.int .i64 a3.To,.int .i64 a3.Joined,.int .i64 a3.Rank,.int .i64 a3.Mode,.slice a7.1 a8.length a7.2] ([Rule.mk a3.Name a3.From a3.To a3.Joined a3.Rank a3.Mode a8] : List Rule) (own_single (by rintro w Fs ⟨G0,_,rfl,h0,rfl⟩; exact ⟨233,a7.1,a7.2,G0,by simp,rfl,h0⟩)) (fun af=>?_)
   refine or_ [1,0] ?_
   obtain ⟨av,aw,ax⟩:=bS au
   refine JO_appendR (α:=Rule) rfl (by kernel_rfl) (t:=40) (e:=188) (a1:=a5.1) (a2:=af.1) (c1:=a5.2) (c2:=af.2) (l1:=a6.2) (l2:=([Rule.mk a3.Name a3.From a3.To a3.Joined a3.Rank a3.Mode a8] : List Rule)) (by kernel_rfl) (i:=Tryz.t188) (by kernel_rfl) (z:=(vRule (Rule.mk 0 0 0 0 0 0 ([] : List Node)) (none,0))) (by kernel_rfl) (by kernel_rfl) (by kernel_rfl) (by kernel_rfl) (Rr:=[]) rfl aw _ (fun _=>rfl) (fun ae=>?_)
   refine oB 2 [] [10,9,8,3,2] [(42,(eBook x0 (a0_0,c0_0))),(42,[.slice none 0 0]),(42,(eBook (Book.mk av) ae)),(188,(eRule (Rule.mk a3.Name a3.From a3.To a3.Joined a3.Rank a3.Mode a8) a7))] ?_
   refine oe (bn (nt (qr (oN 2 [(10,vi (w64 (a6.1 + 1)))] [9,8,3,2] ?_))))
   exact oe (ct ax (ae.1,ae.2) [10,9,8,3,2] [0] 3)
  refine qx (nx (nx (bh ?_)))
  have ay:=leafB al an a9
  exact mp (a6.2,(a5.1,a5.2)) ay [3,2] [0] 3
 have az:=(congrFun ai _).symm.trans aj
 refine nt (qs (qr (oB 2 [] [2] [(42,(eBook x0 (a0_0,c0_0))),(42,(eBook (Book.mk a4.1) a4.2)),(42,(eBook (Book.mk a4.1) a4.2))] ?_)))
 refine oe (nt (qe (rt [vBook (Book.mk a4.1) a4.2] (fun _ w hs=>?_))))
 rw [← sI az]
 exact ⟨a4.2,rfl,hs.kept.toBelow,(hs.takeR (is:=[0]) rfl).fresh⟩
theorem c_slices_Clone_Fact {W : World} {x0 : List Fact} {a0_0 : Option Addr} {c0_0 : Nat} {r : (List Fact)} (h : slices_Clone_Fact x0 = some r) (hv0_0 : SlView W x0 a0_0 c0_0) :
  Gives Tryz.prog 132 #[.slice a0_0 x0.length c0_0] W (fun y : AC=>.slice y.1 r.length y.2) (fun y=>[SlRes 84 r y.1 y.2]):=by
 unfold slices_Clone_Fact at h
 refine en Tryz.func132 Tryz.ntmps132 ?_
 refine qs (qr (oN 1 [] [0] ?_))
 refine oe (nt (qs (qs (qr (oN 1 [(3,vs a0_0 x0 c0_0)] [0] ?_)))))
 rcases a0_0 with _ | a5
 ·obtain rfl:=hv0_0.nil rfl
  obtain rfl:=hv0_0.nilE
  have a6 : (some ([] : List Fact)) = some r:=h
  refine oN 1 [(4,vb true)] [0] ?_
  refine oe (nt (JC_cond true (by kernel_rfl) (fun _=>?_) (fun hb=>by cases hb)))
  refine qs (qr (oN 1 [(2,.v (.slice none 0 0))] [] ?_))
  refine oe (nt (qe (nr (JE_addnil 84 (List.nil (α:=Fact)) rfl ?_))))
  refine rt [.slice none 0 0] (fun _ w hs=>?_)
  rw [← sI a6]
  exact ⟨(none,0),rfl,hs.kept.toBelow,(hs.takeR (is:=[0]) rfl).fresh⟩
 refine oN 1 [(4,vb false)] [0] ?_
 refine oe (nt (JC_cond false (by kernel_rfl) (fun hb=>by cases hb) (fun _=>?_)))
 refine qk (nt (qs (qr (ob [] [] 84 0 [] ([] : List Fact) (own_flat (by kernel_rfl)) (fun a9=>?_)))))
 refine oN 1 [(6,vs (some a5) x0 c0_0)] [5] ?_
 obtain ⟨a4,a7,a8⟩:=bS h
 refine oa 43 c0_0 Tryz.t84 (vFact (Fact.mk 0 0 0 0 0)) (fun _ w hs=>⟨c0_0,(hv0_0.k hs)⟩) a7 (fun a3=>?_)
 refine oN 1 [(2,sv a3 a4)] [] ?_
 refine oe (nt (qe (rt [.slice a3.1 a4.length a3.2] (fun _ w hs=>?_))))
 rw [← sI a8]
 exact ⟨a3,rfl,hs.kept.toBelow,(hs.takeR (is:=[0]) rfl).fresh⟩
theorem c_impl_copyStore {W : World} {x0 : Store} {a0_0 : Option Addr} {c0_0 : Nat} {r : Store} (h : impl_copyStore x0 = some r) (hv0_0 : SlView W x0.Facts a0_0 c0_0) :
  Gives Tryz.prog 134 #[vStore x0 (a0_0,c0_0)] W (fun y : AC=>vStore r y) (fun y=>[SlRes 84 r.Facts y.1 y.2]):=by
 unfold impl_copyStore at h
 refine en Tryz.func134 Tryz.ntmps134 ?_
 refine qs (qr (oB 2 [(2,.p 1 0),(1,.p 0 0)] [] [(45,(eStore x0 (a0_0,c0_0))),(45,[.slice none 0 0])] ?_))
 refine oe (nt (qs (qr (oN 2 [(4,vs a0_0 x0.Facts c0_0)] [2] ?_))))
 obtain ⟨a4,a5,a6⟩:=bS h
 refine k1 (fun _ w hs=>c_slices_Clone_Fact a5 (hv0_0.k hs)) (fun a3=>?_)
 refine oB 2 [] [2] [(45,(eStore x0 (a0_0,c0_0))),(45,(eStore (Store.mk a4) a3))] ?_
 refine oe (nt (qe (rt [vStore (Store.mk a4) a3] (fun _ w hs=>?_))))
 rw [← sI a6]
 exact ⟨a3,rfl,hs.kept.toBelow,(hs.takeR (is:=[0]) rfl).fresh⟩
theorem c_slices_Clone_Point {W : World} {x0 : List Point} {a0_0 : Option Addr} {c0_0 : Nat} {r : (List Point)} (h : slices_Clone_Point x0 = some r) (hv0_0 : SlView W x0 a0_0 c0_0) :
  Gives Tryz.prog 136 #[.slice a0_0 x0.length c0_0] W (fun y : AC=>.slice y.1 r.length y.2) (fun y=>[SlRes 85 r y.1 y.2]):=by
 unfold slices_Clone_Point at h
 refine en Tryz.func136 Tryz.ntmps136 ?_
 refine qs (qr (oN 1 [] [0] ?_))
 refine oe (nt (qs (qs (qr (oN 1 [(3,vs a0_0 x0 c0_0)] [0] ?_)))))
 rcases a0_0 with _ | a5
 ·obtain rfl:=hv0_0.nil rfl
  obtain rfl:=hv0_0.nilE
  have a6 : (some ([] : List Point)) = some r:=h
  refine oN 1 [(4,vb true)] [0] ?_
  refine oe (nt (JC_cond true (by kernel_rfl) (fun _=>?_) (fun hb=>by cases hb)))
  refine qs (qr (oN 1 [(2,.v (.slice none 0 0))] [] ?_))
  refine oe (nt (qe (nr (JE_addnil 85 (List.nil (α:=Point)) rfl ?_))))
  refine rt [.slice none 0 0] (fun _ w hs=>?_)
  rw [← sI a6]
  exact ⟨(none,0),rfl,hs.kept.toBelow,(hs.takeR (is:=[0]) rfl).fresh⟩
 refine oN 1 [(4,vb false)] [0] ?_
 refine oe (nt (JC_cond false (by kernel_rfl) (fun hb=>by cases hb) (fun _=>?_)))
 refine qk (nt (qs (qr (ob [] [] 85 0 [] ([] : List Point) (own_flat (by kernel_rfl)) (fun a9=>?_)))))
 refine oN 1 [(6,vs (some a5) x0 c0_0)] [5] ?_
 obtain ⟨a4,a7,a8⟩:=bS h
 refine oa 46 c0_0 Tryz.t85 (vPoint (Point.mk 0 0 0)) (fun _ w hs=>⟨c0_0,(hv0_0.k hs)⟩) a7 (fun a3=>?_)
 refine oN 1 [(2,sv a3 a4)] [] ?_
 refine oe (nt (qe (rt [.slice a3.1 a4.length a3.2] (fun _ w hs=>?_))))
 rw [← sI a8]
 exact ⟨a3,rfl,hs.kept.toBelow,(hs.takeR (is:=[0]) rfl).fresh⟩
theorem c_impl_copySeries {W : World} {x0 : Series} {a0_0 : Option Addr} {c0_0 : Nat} {r : Series} (h : impl_copySeries x0 = some r) (hv0_0 : SlView W x0.Points a0_0 c0_0) :
  Gives Tryz.prog 138 #[vSeries x0 (a0_0,c0_0)] W (fun y : AC=>vSeries r y) (fun y=>[SlRes 85 r.Points y.1 y.2]):=by
 unfold impl_copySeries at h
 refine en Tryz.func138 Tryz.ntmps138 ?_
 refine qs (qr (oB 2 [(2,.p 1 0),(1,.p 0 0)] [] [(48,(eSeries x0 (a0_0,c0_0))),(48,[.slice none 0 0])] ?_))
 refine oe (nt (qs (qr (oN 2 [(4,vs a0_0 x0.Points c0_0)] [2] ?_))))
 obtain ⟨a4,a5,a6⟩:=bS h
 refine k1 (fun _ w hs=>c_slices_Clone_Point a5 (hv0_0.k hs)) (fun a3=>?_)
 refine oB 2 [] [2] [(48,(eSeries x0 (a0_0,c0_0))),(48,(eSeries (Series.mk a4) a3))] ?_
 refine oe (nt (qe (rt [vSeries (Series.mk a4) a3] (fun _ w hs=>?_))))
 rw [← sI a6]
 exact ⟨a3,rfl,hs.kept.toBelow,(hs.takeR (is:=[0]) rfl).fresh⟩
theorem c_slices_Clone_Spell {W : World} {x0 : List Spell} {a0_0 : Option Addr} {c0_0 : Nat} {r : (List Spell)} (h : slices_Clone_Spell x0 = some r) (hv0_0 : SlView W x0 a0_0 c0_0) :
  Gives Tryz.prog 176 #[.slice a0_0 x0.length c0_0] W (fun y : AC=>.slice y.1 r.length y.2) (fun y=>[SlRes 191 r y.1 y.2]):=by
 unfold slices_Clone_Spell at h
 refine en Tryz.func176 Tryz.ntmps176 ?_
 refine qs (qr (oN 1 [] [0] ?_))
 refine oe (nt (qs (qs (qr (oN 1 [(3,vs a0_0 x0 c0_0)] [0] ?_)))))
 rcases a0_0 with _ | a5
 ·obtain rfl:=hv0_0.nil rfl
  obtain rfl:=hv0_0.nilE
  have a6 : (some ([] : List Spell)) = some r:=h
  refine oN 1 [(4,vb true)] [0] ?_
  refine oe (nt (JC_cond true (by kernel_rfl) (fun _=>?_) (fun hb=>by cases hb)))
  refine qs (qr (oN 1 [(2,.v (.slice none 0 0))] [] ?_))
  refine oe (nt (qe (nr (JE_addnil 191 (List.nil (α:=Spell)) rfl ?_))))
  refine rt [.slice none 0 0] (fun _ w hs=>?_)
  rw [← sI a6]
  exact ⟨(none,0),rfl,hs.kept.toBelow,(hs.takeR (is:=[0]) rfl).fresh⟩
 refine oN 1 [(4,vb false)] [0] ?_
 refine oe (nt (JC_cond false (by kernel_rfl) (fun hb=>by cases hb) (fun _=>?_)))
 refine qk (nt (qs (qr (ob [] [] 191 0 [] ([] : List Spell) (own_flat (by kernel_rfl)) (fun a9=>?_)))))
 refine oN 1 [(6,vs (some a5) x0 c0_0)] [5] ?_
 obtain ⟨a4,a7,a8⟩:=bS h
 refine oa 49 c0_0 Tryz.t191 (vSpell (Spell.mk 0 0 0 false)) (fun _ w hs=>⟨c0_0,(hv0_0.k hs)⟩) a7 (fun a3=>?_)
 refine oN 1 [(2,sv a3 a4)] [] ?_
 refine oe (nt (qe (rt [.slice a3.1 a4.length a3.2] (fun _ w hs=>?_))))
 rw [← sI a8]
 exact ⟨a3,rfl,hs.kept.toBelow,(hs.takeR (is:=[0]) rfl).fresh⟩
theorem c_slices_Clone_Event {W : World} {x0 : List Event} {a0_0 : Option Addr} {c0_0 : Nat} {r : (List Event)} (h : slices_Clone_Event x0 = some r) (hv0_0 : SlView W x0 a0_0 c0_0) :
  Gives Tryz.prog 177 #[.slice a0_0 x0.length c0_0] W (fun y : AC=>.slice y.1 r.length y.2) (fun y=>[SlRes 195 r y.1 y.2]):=by
 unfold slices_Clone_Event at h
 refine en Tryz.func177 Tryz.ntmps177 ?_
 refine qs (qr (oN 1 [] [0] ?_))
 refine oe (nt (qs (qs (qr (oN 1 [(3,vs a0_0 x0 c0_0)] [0] ?_)))))
 rcases a0_0 with _ | a5
 ·obtain rfl:=hv0_0.nil rfl
  obtain rfl:=hv0_0.nilE
  have a6 : (some ([] : List Event)) = some r:=h
  refine oN 1 [(4,vb true)] [0] ?_
  refine oe (nt (JC_cond true (by kernel_rfl) (fun _=>?_) (fun hb=>by cases hb)))
  refine qs (qr (oN 1 [(2,.v (.slice none 0 0))] [] ?_))
  refine oe (nt (qe (nr (JE_addnil 195 (List.nil (α:=Event)) rfl ?_))))
  refine rt [.slice none 0 0] (fun _ w hs=>?_)
  rw [← sI a6]
  exact ⟨(none,0),rfl,hs.kept.toBelow,(hs.takeR (is:=[0]) rfl).fresh⟩
 refine oN 1 [(4,vb false)] [0] ?_
 refine oe (nt (JC_cond false (by kernel_rfl) (fun hb=>by cases hb) (fun _=>?_)))
 refine qk (nt (qs (qr (ob [] [] 195 0 [] ([] : List Event) (own_flat (by kernel_rfl)) (fun a9=>?_)))))
 refine oN 1 [(6,vs (some a5) x0 c0_0)] [5] ?_
 obtain ⟨a4,a7,a8⟩:=bS h
 refine oa 50 c0_0 Tryz.t195 (vEvent (Event.mk 0 0)) (fun _ w hs=>⟨c0_0,(hv0_0.k hs)⟩) a7 (fun a3=>?_)
 refine oN 1 [(2,sv a3 a4)] [] ?_
 refine oe (nt (qe (rt [.slice a3.1 a4.length a3.2] (fun _ w hs=>?_))))
 rw [← sI a8]
 exact ⟨a3,rfl,hs.kept.toBelow,(hs.takeR (is:=[0]) rfl).fresh⟩
theorem c_impl_copyMember {W : World} {x0 : Member} {b0 : AC × AC} {r : Member} (h : impl_copyMember x0 = some r) (hv0_0 : SlView W x0.Spells b0.1.1 b0.1.2) (hv0_1 : SlView W x0.Events b0.2.1 b0.2.2) :
  Gives Tryz.prog 144 #[vMember x0 b0] W (fun y : AC × AC=>vMember r y) (fun y=>(rMember2 r y)):=by
 unfold impl_copyMember at h
 refine en Tryz.func144 Tryz.ntmps144 ?_
 refine qs (qr (oB 2 [(2,.p 1 0),(1,.p 0 0)] [] [(52,(eMember x0 b0)),(52,[.int .i64 0,.int .i64 0,.slice none 0 0,.slice none 0 0])] ?_))
 refine oe (nt (qs (qr (oN 2 [(4,sv b0.1 x0.Spells)] [2,1] ?_))))
 obtain ⟨a4,a7,a8⟩:=bS h
 refine k1 (fun _ w hs=>c_slices_Clone_Spell a7 (hv0_0.k hs)) (fun a3=>?_)
 refine oB 2 [] [2,1] [(52,(eMember (Member.mk x0.Birth x0.Joined a4 x0.Events) (a3,b0.2))),(52,[.int .i64 0,.int .i64 0,.slice none 0 0,.slice none 0 0])] ?_
 refine oe (nt (qs (qr (oN 2 [(8,sv b0.2 x0.Events)] [2,1] ?_))))
 obtain ⟨a6,a9,aa⟩:=bS a8
 refine k1 (fun _ w hs=>c_slices_Clone_Event a9 (hv0_1.k hs)) (fun a5=>?_)
 refine oB 2 [] [2,1] [(52,(eMember (Member.mk x0.Birth x0.Joined a4 a6) (a3,a5))),(52,[.int .i64 0,.int .i64 0,.slice none 0 0,.slice none 0 0])] ?_
 refine oe (nt (qs (qr (oB 2 [] [2] [(52,(eMember (Member.mk x0.Birth x0.Joined a4 a6) (a3,a5))),(52,(eMember (Member.mk x0.Birth x0.Joined a4 a6) (a3,a5)))] ?_))))
 refine oe (nt (qe (rt [vMember (Member.mk x0.Birth x0.Joined a4 a6) (a3,a5)] (fun _ w hs=>?_))))
 rw [← sI aa]
 exact ⟨(a3,a5),rfl,hs.kept.toBelow,(hs.takeR (is:=[1,0]) rfl).fresh⟩
theorem c_impl_copyCase {W : World} {x0 : Case} {b0 : AC × AC × AC × AC × AC} {r : Case} (h : impl_copyCase x0 = some r) (hv0_0 : SlView W x0.Book.Rules b0.1.1 b0.1.2) (hv0_1 : SlView W x0.Store.Facts b0.2.1.1 b0.2.1.2) (hv0_2 : SlView W x0.Series.Points b0.2.2.1.1 b0.2.2.1.2) (hv0_3 : SlView W x0.Member.Spells b0.2.2.2.1.1 b0.2.2.2.1.2) (hv0_4 : SlView W x0.Member.Events b0.2.2.2.2.1 b0.2.2.2.2.2) :
  Gives Tryz.prog 91 #[vCase x0 b0] W (fun y : AC × AC × AC × AC × AC=>vCase r y) (fun y=>(rCase2 r y)):=by
 unfold impl_copyCase at h
 refine en Tryz.func91 Tryz.ntmps91 ?_
 refine qs (qr (oB 2 [(2,.p 1 0),(1,.p 0 0)] [] [(54,(eCase x0 b0)),(54,[.slice none 0 0,.slice none 0 0,.slice none 0 0,.int .i64 0,.int .i64 0,.slice none 0 0,.slice none 0 0])] ?_))
 refine oe (nt (qs ?_))
 obtain ⟨a5,ac,ae⟩:=bS h
 obtain ⟨a6,af,ag⟩:=bS ae
 obtain ⟨a7,ah,ai⟩:=bS ag
 obtain ⟨a8,aj,ak⟩:=bS ai
 refine JC_cut (τ:=AC × AC × AC × (AC × AC)) (fun a3=>[(2,.p 1 0)]) (fun a3=>[(54,(eCase x0 b0)),(54,(eCase (Case.mk a5 a6 a7 a8) a3))]) (fun a3=>(rMember2 a8 a3.2.2.2 ++ [SlRes 85 a7.Points a3.2.2.1.1 a3.2.2.1.2,SlRes 84 a6.Facts a3.2.1.1 a3.2.1.2,SlRes 188 a5.Rules a3.1.1 a3.1.2])) ?_ (fun a3=>?_)
 ·refine jw [2,1] [] ?_
  refine JC_heldN (ks:=[0]) (Rk:=[]) 14 (by kernel_rfl) (by kernel_rfl) ?_
  refine htq 0 (.p 0 0) [] ?_
  refine htq 1 (.v (vBook x0.Book b0.1)) [] ?_
  refine hk [4,2,1] ?_
  refine htq 3 (.p 0 1) [] ?_
  refine htq 4 (.v (vStore x0.Store b0.2.1)) [] ?_
  refine hk [7,4,2,1] ?_
  refine htq 6 (.p 0 2) [] ?_
  refine htq 7 (.v (vSeries x0.Series b0.2.2.1)) [] ?_
  refine hk [10,7,4,2,1] ?_
  refine htq 9 (.p 0 3) [] ?_
  refine hk [12,10,7,4,2] ?_
  refine htq 10 (.v (vMember x0.Member b0.2.2.2)) [] ?_
  refine hk [13,10,7,4,2] ?_
  refine ha1 2 ?_
  refine hi (fun γ0 δ hm=>?_)
  refine g1 (fun w hs=>c_impl_copyBook ac (hv0_0.k hs)) (fun a9=>?_)
  refine gn hm [5,13,10,7,2] [] ?_
  refine ha1 5 ?_
  refine hi (fun γ0 δ hm=>?_)
  refine g1 (fun w hs=>c_impl_copyStore af (hv0_1.k hs)) (fun aa=>?_)
  refine gn hm [8,5,13,10,2] [] ?_
  refine ha1 8 ?_
  refine hi (fun γ0 δ hm=>?_)
  refine g1 (fun w hs=>c_impl_copySeries ah (hv0_2.k hs)) (fun ab=>?_)
  refine gn hm [11,8,5,13,2] [] ?_
  refine ha1 11 ?_
  refine hi (fun γ0 δ hm=>?_)
  refine g1 (fun w hs=>c_impl_copyMember (b0:=b0.2.2.2) aj (hv0_3.k hs) (hv0_4.k hs)) (fun a4=>?_)
  refine gn hm [14,11,8,5,2] [] ?_
  refine htq 12 (.v (vCase (Case.mk a5 a6 a7 a8) (a9,aa,ab,a4.1,a4.2))) [] ?_
  refine hk [15,2] ?_
  refine ha1 13 ?_
  refine hi (fun γ0 δ hm=>?_)
  refine gs [(15,.v (vCase (Case.mk a5 a6 a7 a8) (a9,aa,ab,a4.1,a4.2))),(2,.p 1 0)] [(54,(eCase x0 b0)),(54,(eCase (Case.mk a5 a6 a7 a8) (a9,aa,ab,a4.1,a4.2)))] (fun δ2=>?_)
  refine gd hm [2] [] ?_
  exact hd (a9,aa,ab,a4) [2] [0,0,0,0,0] 2
 refine nt (qe (rt [vCase (Case.mk a5 a6 a7 a8) a3] (fun γ w hs=>?_)))
 rw [← sI ak]
 exact ⟨(a3.1,a3.2.1,a3.2.2.1,a3.2.2.2.1,a3.2.2.2.2),rfl,hs.kept.toBelow,(hs.takeR (is:=[4,3,2,0,0]) rfl).fresh⟩
end Go.Pen
