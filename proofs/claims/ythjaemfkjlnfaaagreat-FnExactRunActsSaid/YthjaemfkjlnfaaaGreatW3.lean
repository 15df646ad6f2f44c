/-
  Each Go function does what its plain function says: written by a program of ours.
-/
import Derived.Test.YthjaemfkjlnfaaaGreatW2
import Derived.Test.YthjaemfkjlnfaaaGreatProg
import Derived.Test.YthjaemfkjlnfaaaGreatPenK
import Derived.Test.YthjaemfkjlnfaaaGreatPenQ
import Derived.Test.YthjaemfkjlnfaaaGreatPenU
namespace Go.Pen
open Go.Proofs Go.RowKit
set_option linter.unusedVariables false
set_option linter.unusedSimpArgs false
set_option maxRecDepth 100000
set_option maxHeartbeats 4000000
theorem c_impl_within {W : World} {x0 : Int} {x1 : Int} {x2 : Int} {r : Bool} (h : impl_within x0 x1 x2 = some r)  :
  Gives0 Tryz.prog 129 #[.int .i64 x0,.int .i64 x1,.int .i64 x2] W (.bool r):=by
 unfold impl_within at h
 refine en Tryz.func129 Tryz.ntmps129 ?_
 refine qs (qr (oN 1 [] [0,1,2] ?_))
 refine oe (nt (qs ?_))
 obtain ⟨a3,a4,a5⟩:=bS h
 refine JC_cut (τ:=Unit) (fun _=>[(6,vb a3)]) (fun _=>[]) (fun _=>[]) ?_ (fun _=>?_)
 ·refine qr (oN 4 [(10,vb (decide (x1 ≤ x0)))] [0,2] ?_)
  refine oS 10 a4 (fun a6=>?_) (fun a7=>?_)
  ·refine oN 5 [(6,vb (decide (x0 ≤ x2)))] [] ?_
   refine oe ?_
   obtain rfl:=sI a6
   exact mt () [6] [] 0
  refine oN 5 [(6,vb false)] [] ?_
  refine oe ?_
  obtain rfl:=sI a7
  exact mt () [6] [] 0
 refine nt (qe ?_)
 obtain rfl:=sI a5
 exact re [.bool a3]
theorem c_impl_isSpan {W : World} {x0 : Int} {x1 : Int} {r : Bool} (h : impl_isSpan x0 x1 = some r)  :
  Gives0 Tryz.prog 211 #[.int .i64 x0,.int .i64 x1] W (.bool r):=by
 unfold impl_isSpan at h
 refine en Tryz.func211 Tryz.ntmps211 ?_
 refine qs (qr (oN 1 [] [0,1] ?_))
 refine oe (nt (qs ?_))
 obtain ⟨a3,a4,a5⟩:=bS h
 refine JC_cut (τ:=Unit) (fun _=>[(4,vb a3)]) (fun _=>[]) (fun _=>[]) ?_ (fun _=>?_)
 ·refine qr (oN 3 [(7,vb (decide (0 ≤ x0)))] [0,1] ?_)
  refine oS 7 a4 (fun a6=>?_) (fun a7=>?_)
  ·refine oN 5 [(12,vb (decide (x0 < x1)))] [1] ?_
   refine oS 12 a6 (fun a8=>?_) (fun a9=>?_)
   ·refine oN 4 [(4,vb (decide (x1 ≤ 3600)))] [] ?_
    refine oe ?_
    obtain rfl:=sI a8
    exact mt () [4] [] 0
   refine oN 4 [(4,vb false)] [] ?_
   refine oe ?_
   obtain rfl:=sI a9
   exact mt () [4] [] 0
  refine oN 9 [(4,vb false)] [] ?_
  refine oe ?_
  obtain rfl:=sI a7
  exact mt () [4] [] 0
 refine nt (qe ?_)
 obtain rfl:=sI a5
 exact re [.bool a3]
theorem c_impl_gcd {W : World} {x0 : Int} {x1 : Int} {r : Int} (h : impl_gcd x0 x1 = some r)  :
  Gives0 Tryz.prog 220 #[.int .i64 x0,.int .i64 x1] W (.int .i64 r):=by
 unfold impl_gcd at h
 refine en Tryz.func220 Tryz.ntmps220 ?_
 refine qs (qr (oN 1 [] [0,1] ?_))
 refine oe (nt (qs ?_))
 obtain ⟨ak,a7,a5⟩:=bS h
 obtain ⟨a8,a9,a5⟩:=brkS a5
 refine JC_cutP (τ:=(Int) × (Unit)) (fun y=>a8 y.1 = some r) (fun a4=>[(0,vi a4.1)]) (fun a4=>[]) (fun a4=>[]) ?_ (fun a4 aa=>?_)
 ·refine qb (lp Unit a7 (fun a3 a6=>[(0,vi a3.1),(1,vi a3.2)]) (fun a3 a6=>[]) (fun a3 a6=>[]) () [0,1] [] 0 (fun a3 a6 al ab ac=>?_))
  refine qs (qs (qr (oN 2 [(6,vb (a3.2 != 0))] [0,1] ?_)))
  refine oe (nt (cC ab (fun ae=>?_) (fun af=>?_)))
  ·refine qk (nt (qb (JC_quiet (by kernel_rfl) (by kernel_rfl) ?_)))
   refine qN 3 [(9,vi a3.2),(8,vi a3.1),(7,vi a3.2)] [] ?_
   obtain ⟨am,ag,ah⟩:=bS ae
   refine JQ_div rfl (by kernel_rfl) (op:=.rem) (k:=.i64) (x:=a3.1) (y:=a3.2) (by kernel_rfl) (nz_some ag) rfl ?_
   refine qN 2 [(1,vi (Int.tmod a3.1 a3.2)),(0,vi a3.2)] [] ?_
   exact qz (bn (ct ah () [0,1] [] 0))
  refine qx (nx (nx (bh ?_)))
  have ai:=leafB ac af a5
  exact mp (a3.1,()) ai [0] [] 0
 have aj:=(congrFun a9 _).symm.trans aa
 refine nt (qs (qr (oN 5 [(4,vi (imax a4.1 (w64 (0 - a4.1))))] [] ?_)))
 refine oe (nt (qe ?_))
 obtain rfl:=sI aj
 exact re [.int .i64 (imax a4.1 (w64 (0 - a4.1)))]
theorem c_impl_FracOk {W : World} {x0 : Frac} {r : Bool} (h : impl_FracOk x0 = some r)  :
  Gives0 Tryz.prog 189 #[vFrac x0] W (.bool r):=by
 unfold impl_FracOk at h
 refine en Tryz.func189 Tryz.ntmps189 ?_
 refine qs (qr (oB 2 [(1,.p 0 0)] [] [(216,(eFrac x0))] ?_))
 refine oe (nt (qs ?_))
 obtain ⟨a3,a4,a5⟩:=bS h
 refine JC_cut (τ:=Unit) (fun _=>[(2,vb a3)]) (fun _=>[(216,(eFrac x0))]) (fun _=>[]) ?_ (fun _=>?_)
 ·refine qr (oN 2 [(4,vi x0.Den)] [1] ?_)
  obtain ⟨a6,a7,a8⟩:=bS a4
  refine k0 (fun _ w hs=>c_impl_within a7) ?_
  refine oN 1 [(6,vb a6)] [1] ?_
  refine oS 6 a8 (fun a9=>?_) (fun aa=>?_)
  ·refine oN 2 [(8,vi x0.Num)] [6,1] ?_
   obtain ⟨ab,ac,ae⟩:=bS a9
   refine k0 (fun _ w hs=>c_impl_within ac) ?_
   refine oN 2 [(11,vb ab)] [1] ?_
   refine oS 11 ae (fun af=>?_) (fun ag=>?_)
   ·refine oN 4 [(15,vi x0.Den),(13,vi x0.Num)] [11] ?_
    obtain ⟨ah,ai,aj⟩:=bS af
    refine k0 (fun _ w hs=>c_impl_gcd ai) ?_
    refine oN 3 [(2,vb (ah == 1))] [] ?_
    refine oe ?_
    obtain rfl:=sI aj
    exact mt () [2] [] 1
   refine oN 8 [(2,vb false)] [] ?_
   refine oe ?_
   obtain rfl:=sI ag
   exact mt () [2] [] 1
  refine oN 13 [(2,vb false)] [] ?_
  refine oe ?_
  obtain rfl:=sI aa
  exact mt () [2] [] 1
 refine nt (qe ?_)
 obtain rfl:=sI a5
 exact re [.bool a3]
theorem c_impl_NodeOk {W : World} {x0 : Node} {x1 : Int} {r : Bool} (h : impl_NodeOk x0 x1 = some r)  :
  Gives0 Tryz.prog 245 #[vNode x0,.int .i64 x1] W (.bool r):=by
 unfold impl_NodeOk at h
 refine en Tryz.func245 Tryz.ntmps245 ?_
 refine qs (qr (oB 2 [(2,.p 0 0)] [1] [(233,(eNode x0))] ?_))
 refine oe (nt (qs (qr (oB 5 [(5,.p 1 0)] [2,1] [(233,(eNode x0)),(233,(eNode (Node.mk x0.Kind 0 0 0 (Frac.mk 0 0))))] ?_))))
 refine oe (nt (qs (qb (qs (qr (oN 4 [(9,vb (x0.Kind == 1))] [5,2,1] ?_))))))
 refine oe (nt (cC h (fun a7=>?_) (fun a8=>?_)))
 ·refine qs (qr (oB 4 [] [5,2] [(233,(eNode x0)),(233,(eNode (Node.mk x0.Kind 0 0 0 x0.Value)))] ?_))
  refine oe (nt (qs ?_))
  obtain ⟨a4,a9,aa⟩:=bS a7
  refine JC_cut (τ:=Unit) (fun _=>[(4,vb a4)]) (fun _=>[(233,(eNode x0)),(233,(eNode (Node.mk x0.Kind 0 0 0 x0.Value)))]) (fun _=>[]) ?_ (fun _=>?_)
  ·refine qr (oN 4 [(19,vb ((x0.Kind == x0.Kind) && ((x0.A == 0) && ((x0.B == 0) && ((x0.C == 0) && (((x0.Value.Num == x0.Value.Num) && ((x0.Value.Den == x0.Value.Den) && true)) && true))))))] [2] ?_)
   refine oS 19 a9 (fun ab=>?_) (fun ac=>?_)
   ·refine oN 2 [(21,.v (vFrac x0.Value))] [19] ?_
    obtain ⟨ae,af,ag⟩:=bS ab
    refine k0 (fun γ w hs=>c_impl_FracOk af) ?_
    refine oN 2 [(4,vb ae)] [] ?_
    refine oe ?_
    obtain rfl:=sI ag
    exact mt () [4] [] 2
   refine oN 5 [(4,vb false)] [] ?_
   refine oe ?_
   obtain rfl:=sI ac
   exact mt () [4] [] 2
  refine nt (qe (br (nr ?_)))
  obtain rfl:=sI aa
  exact re [.bool a4]
 refine qs (qr (oN 4 [(24,vb (x0.Kind == 2))] [5,2,1] ?_))
 refine oe (nt (cC a8 (fun ah=>?_) (fun ai=>?_)))
 ·refine qs (qr (oB 4 [] [5,2] [(233,(eNode x0)),(233,(eNode (Node.mk x0.Kind x0.A 0 0 (Frac.mk 0 0))))] ?_))
  refine oe (nt (qs ?_))
  obtain ⟨a5,aj,ak⟩:=bS ah
  refine JC_cut (τ:=Unit) (fun _=>[(4,vb a5)]) (fun _=>[(233,(eNode x0)),(233,(eNode (Node.mk x0.Kind x0.A 0 0 (Frac.mk 0 0))))]) (fun _=>[]) ?_ (fun _=>?_)
  ·refine qr (oN 4 [(34,vb ((x0.Kind == x0.Kind) && ((x0.A == x0.A) && ((x0.B == 0) && ((x0.C == 0) && (((x0.Value.Num == 0) && ((x0.Value.Den == 0) && true)) && true))))))] [2] ?_)
   refine oS 34 aj (fun al=>?_) (fun am=>?_)
   ·refine oN 2 [(36,vi x0.A)] [34] ?_
    obtain ⟨an,ao,ap⟩:=bS al
    refine k0 (fun γ w hs=>c_impl_within ao) ?_
    refine oN 2 [(4,vb an)] [] ?_
    refine oe ?_
    obtain rfl:=sI ap
    exact mt () [4] [] 2
   refine oN 5 [(4,vb false)] [] ?_
   refine oe ?_
   obtain rfl:=sI am
   exact mt () [4] [] 2
  refine nt (qe (br (nr ?_)))
  obtain rfl:=sI ak
  exact re [.bool a5]
 refine qs (qr (oN 2 [(41,vi x0.Kind)] [5,2,1] ?_))
 obtain ⟨aq,ar,au⟩:=bS ai
 refine k0 (fun γ w hs=>c_impl_within ar) ?_
 refine oN 2 [(39,vb (!aq))] [5,2,1] ?_
 refine oe (nt (cC au (fun av=>?_) (fun aw=>?_)))
 ·refine qs (qr (oN 1 [(4,vb false)] [] ?_))
  refine oe (nt (qe (br (nr ?_))))
  obtain rfl:=sI av
  exact re [.bool false]
 refine qk (bn (nt (qs (JC_cut (τ:=Unit) (fun _=>[(5,.p 1 0),(2,.p 0 0),(1,vi x1)]) (fun _=>[(233,(eNode x0)),(233,(eNode (Node.mk x0.Kind x0.A x0.B 0 (Frac.mk 0 0))))]) (fun _=>[]) ?_ (fun _=>?_)))))
 ·refine jw [5,2,1] [] ?_
  refine JC_heldN (ks:=[0]) (Rk:=[]) 8 (by kernel_rfl) (by kernel_rfl) ?_
  refine htq 0 (.p 0 1) [] ?_
  refine htq 1 (vi x0.A) [] ?_
  refine hk [45,5,2,1] ?_
  refine htq 2 (.p 0 2) [] ?_
  refine htq 3 (vi x0.B) [] ?_
  refine hk [47,45,5,2,1] ?_
  refine htq 4 (.p 1 1) [] ?_
  refine ha1 5 ?_
  refine hi (fun γ0 δ hm=>?_)
  refine gs [(48,.p 1 1),(47,vi x0.B),(45,vi x0.A),(5,.p 1 0),(2,.p 0 0),(1,vi x1)] [(233,(eNode x0)),(233,(eNode (Node.mk x0.Kind x0.A 0 0 (Frac.mk 0 0))))] (fun δ2=>?_)
  refine gd hm [47,5,2,1] [] ?_
  refine htq 6 (.p 1 2) [] ?_
  refine ha1 7 ?_
  refine hi (fun γ0 δ hm=>?_)
  refine gs [(49,.p 1 2),(47,vi x0.B),(5,.p 1 0),(2,.p 0 0),(1,vi x1)] [(233,(eNode x0)),(233,(eNode (Node.mk x0.Kind x0.A x0.B 0 (Frac.mk 0 0))))] (fun δ2=>?_)
  refine gd hm [5,2,1] [] ?_
  exact hd () [5,2,1] [] 2
 refine nt (qs (qs (qr (oN 3 [(52,vb (x0.Kind == 9))] [5,2,1] ?_))))
 refine oe (nt ?_)
 obtain ⟨ax,ay,az⟩:=jS aw
 refine JC_cutP (τ:=(Int) × (Unit)) (fun y=>ax y.1 = some r) (fun a3=>[(5,.p 1 0),(2,.p 0 0),(1,vi x1)]) (fun a3=>[(233,(eNode x0)),(233,(eNode (Node.mk x0.Kind x0.A x0.B a3.1 (Frac.mk 0 0))))]) (fun a3=>[]) ?_ (fun a3 b4=>?_)
 ·refine cC az (fun b5=>?_) (fun b6=>?_)
  ·refine qr (oB 4 [] [5,2,1] [(233,(eNode x0)),(233,(eNode (Node.mk x0.Kind x0.A x0.B x0.C (Frac.mk 0 0))))] ?_)
   exact oe (mp (x0.C,()) b5 [5,2,1] [] 2)
  exact qk (mp (0,()) b6 [5,2,1] [] 2)
 have b7:=(congrFun ay _).symm.trans b4
 refine nt (qs ?_)
 obtain ⟨a6,b8,b9⟩:=bS b7
 refine JC_cut (τ:=Unit) (fun _=>[(4,vb a6)]) (fun _=>[(233,(eNode x0)),(233,(eNode (Node.mk x0.Kind x0.A x0.B a3.1 (Frac.mk 0 0))))]) (fun _=>[]) ?_ (fun _=>?_)
 ·refine qr (oN 4 [(59,vb ((x0.Kind == x0.Kind) && ((x0.A == x0.A) && ((x0.B == x0.B) && ((x0.C == a3.1) && (((x0.Value.Num == 0) && ((x0.Value.Den == 0) && true)) && true))))))] [2,1] ?_)
  refine oS 59 b8 (fun ba=>?_) (fun bb=>?_)
  ·refine oN 4 [(63,vb (decide (x1 > 0)))] [2,1] ?_
   refine oS 63 ba (fun bc=>?_) (fun bd=>?_)
   ·refine oN 4 [(67,vi (w64 (x1 - 1))),(65,vi x0.A)] [63,2,1] ?_
    obtain ⟨be,bf,bg⟩:=bS bc
    refine k0 (fun γ w hs=>c_impl_within bf) ?_
    refine oN 2 [(70,vb be)] [2,1] ?_
    refine oS 70 bg (fun bi=>?_) (fun bj=>?_)
    ·refine oN 4 [(74,vi (w64 (x1 - 1))),(72,vi x0.B)] [70,2,1] ?_
     obtain ⟨bk,bl,bm⟩:=bS bi
     refine k0 (fun γ w hs=>c_impl_within bl) ?_
     refine oN 2 [(77,vb bk)] [2,1] ?_
     refine oS 77 bm (fun bo=>?_) (fun bp=>?_)
     ·refine oN 4 [(81,vi (w64 (x1 - 1))),(79,vi x0.C)] [77] ?_
      obtain ⟨bq,bs,bu⟩:=bS bo
      refine k0 (fun γ w hs=>c_impl_within bs) ?_
      refine oN 2 [(4,vb bq)] [] ?_
      refine oe ?_
      obtain rfl:=sI bu
      exact mt () [4] [] 2
     refine oN 7 [(4,vb false)] [] ?_
     refine oe ?_
     obtain rfl:=sI bp
     exact mt () [4] [] 2
    refine oN 14 [(4,vb false)] [] ?_
    refine oe ?_
    obtain rfl:=sI bj
    exact mt () [4] [] 2
   refine oN 21 [(4,vb false)] [] ?_
   refine oe ?_
   obtain rfl:=sI bd
   exact mt () [4] [] 2
  refine oN 25 [(4,vb false)] [] ?_
  refine oe ?_
  obtain rfl:=sI bb
  exact mt () [4] [] 2
 refine nt (qe ?_)
 obtain rfl:=sI b9
 exact re [.bool a6]
theorem c_impl_FormulaOk {W : World} {x0 : List Node} {a0_0 : Option Addr} {c0_0 : Nat} {r : Bool} (h : impl_FormulaOk x0 = some r) (hv0_0 : SlView W x0 a0_0 c0_0) :
  Gives0 Tryz.prog 234 #[.slice a0_0 x0.length c0_0] W (.bool r):=by
 unfold impl_FormulaOk at h
 refine en Tryz.func234 Tryz.ntmps234 ?_
 refine qs (qr (oN 1 [] [0] ?_))
 refine oe (nt (qs (qs (qr (oN 3 [(7,vi 0),(6,vi (x0.length : Int)),(5,vs a0_0 x0 c0_0)] [0] ?_)))))
 refine oe (nt ?_)
 obtain ⟨aw,ab,a4⟩:=bS h
 obtain ⟨ac,ae,a4⟩:=brkS a4
 refine JC_cutP (τ:=(Unit) × (Unit)) (fun y=>ac y.1 = some r) (fun a5=>[(0,vs a0_0 x0 c0_0)]) (fun a5=>[]) (fun a5=>[]) ?_ (fun a5 af=>?_)
 ·refine qb (lp Unit ab (fun a3 a6=>[(7,vi a3),(6,vi (x0.length : Int)),(5,vs a0_0 x0 c0_0),(0,vs a0_0 x0 c0_0)]) (fun a3 a6=>[]) (fun a3 a6=>[]) () [7,6,5,0] [] 0 (fun a3 a6 ax ag a8=>?_))
  refine qs (qr (oN 1 [(8,vb (decide (a3 < (x0.length : Int))))] [7,6,5,0] ?_))
  refine oe (nt (qs (cC ag (fun ah=>?_) (fun ai=>?_))))
  ·refine qk (nt (qs (qb (qs (qr (oN 1 [(9,vi a3)] [7,6,5,0] ?_))))))
   obtain ⟨a7,a9,aj⟩:=bS ah
   refine oi 6 (fun _ w hs=>(hv0_0.k hs)) a9 ?_
   refine ol 233 0 (vNode a7) (fun _ w hs=>(hv0_0.k hs).flatq a9) ?_
   refine oB 3 [(3,vi a3),(4,.p 0 0)] [7,6,5,0] [(233,(eNode a7))] ?_
   refine oe (nt (qs (qr (oN 2 [(13,vi a3),(12,.v (vNode a7))] [7,6,5,0] ?_))))
   obtain ⟨ak,al,am⟩:=bS aj
   refine k0 (fun _ w hs=>c_impl_NodeOk al) ?_
   refine oN 1 [(15,vb (!ak))] [7,6,5,0] ?_
   refine oe (nt (cC am (fun an=>?_) (fun ao=>?_)))
   ·refine qs (qr (oN 1 [(2,vb false)] [] ?_))
    refine oe (nt (qe (br (nr (nr ?_)))))
    have ap:=leafR a8 an a4
    refine br (nr (nr ?_))
    obtain rfl:=sI ap
    exact re [.bool false]
   refine qk (bn (nt (qr (oN 2 [(7,vi (w64 (a3 + 1)))] [6,5,0] ?_))))
   exact oe (ct ao () [7,6,5,0] [] 0)
  refine qx (nx (nx (bh ?_)))
  have aq:=leafB a8 ai a4
  exact mp ((),()) aq [0] [] 0
 have ar:=(congrFun ae _).symm.trans af
 refine nt (qs (qr (oN 2 [(18,vi (x0.length : Int))] [] ?_)))
 obtain ⟨aa,au,av⟩:=bS ar
 refine k0 (fun _ w hs=>c_impl_within au) ?_
 refine oN 1 [(2,vb aa)] [] ?_
 refine oe (nt (qe ?_))
 obtain rfl:=sI av
 exact re [.bool aa]
theorem c_impl_RuleOk {W : World} {x0 : Rule} {a0_0 : Option Addr} {c0_0 : Nat} {r : Bool} (h : impl_RuleOk x0 = some r) (hv0_0 : SlView W x0.Nodes a0_0 c0_0) :
  Gives0 Tryz.prog 208 #[vRule x0 (a0_0,c0_0)] W (.bool r):=by
 unfold impl_RuleOk at h
 refine en Tryz.func208 Tryz.ntmps208 ?_
 refine qs (qr (oB 2 [(1,.p 0 0)] [] [(188,(eRule x0 (a0_0,c0_0)))] ?_))
 refine oe (nt (qs ?_))
 obtain ⟨a3,a4,a5⟩:=bS h
 refine JC_cut (τ:=Unit) (fun _=>[(2,vb a3)]) (fun _=>[(188,(eRule x0 (a0_0,c0_0)))]) (fun _=>[]) ?_ (fun _=>?_)
 ·refine qr (oN 2 [(4,vi x0.Name)] [1] ?_)
  obtain ⟨a6,a7,a8⟩:=bS a4
  refine k0 (fun _ w hs=>c_impl_within a7) ?_
  refine oN 1 [(6,vb a6)] [1] ?_
  refine oS 6 a8 (fun a9=>?_) (fun aa=>?_)
  ·refine oN 4 [(10,vi x0.To),(8,vi x0.From)] [6,1] ?_
   obtain ⟨ab,ac,ae⟩:=bS a9
   refine k0 (fun _ w hs=>c_impl_isSpan ac) ?_
   refine oN 2 [(13,vb ab)] [1] ?_
   refine oS 13 ae (fun af=>?_) (fun ag=>?_)
   ·refine oN 2 [(15,vi x0.Joined)] [13,1] ?_
    obtain ⟨ah,ai,aj⟩:=bS af
    refine k0 (fun _ w hs=>c_impl_within ai) ?_
    refine oN 2 [(18,vb ah)] [1] ?_
    refine oS 18 aj (fun ak=>?_) (fun al=>?_)
    ·refine oN 2 [(20,vi x0.Rank)] [18,1] ?_
     obtain ⟨am,an,ao⟩:=bS ak
     refine k0 (fun _ w hs=>c_impl_within an) ?_
     refine oN 2 [(23,vb am)] [1] ?_
     refine oS 23 ao (fun ap=>?_) (fun aq=>?_)
     ·refine oN 2 [(25,vi x0.Mode)] [23,1] ?_
      obtain ⟨ar,au,av⟩:=bS ap
      refine k0 (fun _ w hs=>c_impl_within au) ?_
      refine oN 2 [(28,vb ar)] [1] ?_
      refine oS 28 av (fun aw=>?_) (fun ax=>?_)
      ·refine oN 2 [(30,vs a0_0 x0.Nodes c0_0)] [28] ?_
       obtain ⟨ay,az,b4⟩:=bS aw
       refine k0 (fun _ w hs=>c_impl_FormulaOk az (hv0_0.k hs)) ?_
       refine oN 2 [(2,vb ay)] [] ?_
       refine oe ?_
       obtain rfl:=sI b4
       exact mt () [2] [] 1
      refine oN 5 [(2,vb false)] [] ?_
      refine oe ?_
      obtain rfl:=sI ax
      exact mt () [2] [] 1
     refine oN 10 [(2,vb false)] [] ?_
     refine oe ?_
     obtain rfl:=sI aq
     exact mt () [2] [] 1
    refine oN 15 [(2,vb false)] [] ?_
    refine oe ?_
    obtain rfl:=sI al
    exact mt () [2] [] 1
   refine oN 20 [(2,vb false)] [] ?_
   refine oe ?_
   obtain rfl:=sI ag
   exact mt () [2] [] 1
  refine oN 27 [(2,vb false)] [] ?_
  refine oe ?_
  obtain rfl:=sI aa
  exact mt () [2] [] 1
 refine nt (qe ?_)
 obtain rfl:=sI a5
 exact re [.bool a3]
theorem c_impl_BookOk {W : World} {x0 : Book} {a0_0 : Option Addr} {c0_0 : Nat} {r : Bool} (h : impl_BookOk x0 = some r) (hv0_0 : SlView W x0.Rules a0_0 c0_0) :
  Gives0 Tryz.prog 164 #[vBook x0 (a0_0,c0_0)] W (.bool r):=by
 unfold impl_BookOk at h
 refine en Tryz.func164 Tryz.ntmps164 ?_
 refine qs (qr (oB 2 [(1,.p 0 0)] [] [(42,(eBook x0 (a0_0,c0_0)))] ?_))
 refine oe (nt (qs (qs (qr (oN 4 [(10,vi 0),(9,vi (x0.Rules.length : Int)),(8,vs a0_0 x0.Rules c0_0)] [1] ?_)))))
 refine oe (nt ?_)
 obtain ⟨cc,ap,ab⟩:=bS h
 obtain ⟨aq,ar,ab⟩:=brkS ab
 refine JC_cutP (τ:=(Unit) × (Unit)) (fun y=>aq y.1 = some r) (fun ae=>[(1,.p 0 0)]) (fun ae=>[(42,(eBook x0 (a0_0,c0_0)))]) (fun ae=>[]) ?_ (fun ae au=>?_)
 ·refine qb (lp Unit ap (fun a3 af=>[(10,vi a3.1),(9,vi a3.2),(8,vs a0_0 x0.Rules c0_0),(1,.p 0 0)]) (fun a3 af=>[(42,(eBook x0 (a0_0,c0_0)))]) (fun a3 af=>[]) () [10,9,8,1] [] 1 (fun a3 af av aw ag=>?_))
  refine qs (qr (oN 1 [(11,vb (decide (a3.1 < a3.2)))] [10,9,8,1] ?_))
  refine oe (nt (qs (cC aw (fun ax=>?_) (fun ay=>?_))))
  ·refine qk (nt (qs (qb (qs (qr (oN 1 [(12,vi a3.1)] [10,9,8,1] ?_))))))
   obtain ⟨a4,ah,az⟩:=bS ax
   refine oi 7 (fun _ w hs=>(hv0_0.k hs)) ah ?_
   obtain ⟨_,⟨a6,a7,rfl,b4⟩,b5⟩:=SlView.at hv0_0 (idx_some ah).2.2
   refine ol 188 0 (vRule a4 (a6,a7)) (fun _ w hs=>⟨(hv0_0.k hs).ne (idx_some ah).2.2,b5.kept hs.kept⟩) ?_
   refine oB 3 [(3,vi a3.1),(4,.p 1 0)] [10,9,8,1] [(42,(eBook x0 (a0_0,c0_0))),(188,(eRule a4 (a6,a7)))] ?_
   refine oe (nt (qs (qs (qr (oN 1 [(15,.v (vRule a4 (a6,a7)))] [3,4,10,9,8,1] ?_)))))
   obtain ⟨b6,b7,b8⟩:=bS az
   refine k0 (fun _ w hs=>c_impl_RuleOk b7 (b4.k hs)) ?_
   refine oN 1 [(17,vb (!b6))] [3,4,10,9,8,1] ?_
   refine oe (nt (cC b8 (fun b9=>?_) (fun ba=>?_)))
   ·refine qs (qr (oN 1 [(2,vb false)] [] ?_))
    refine oe (nt (qe (nr (br (nr (nr ?_))))))
    have bb:=leafR ag b9 ab
    refine br (nr (nr ?_))
    obtain rfl:=sI bb
    exact re [.bool false]
   refine qk (nt (qs (qr (oN 3 [(20,vi a3.1),(19,vs a0_0 x0.Rules c0_0)] [4,10,9,8,1] ?_))))
   obtain ⟨aa,an,bc⟩:=bS ba
   have ai:=SlView.head hv0_0 an
   refine JO_head (α:=Rule) rfl (by kernel_rfl) (a0:=a0_0) (n0:=x0.Rules.length) (c0:=c0_0) (hi:=a3.1) (by kernel_rfl) an (hv0_0).fit rfl ?_
   refine oN 2 [(23,vi 0),(22,vi (aa.length : Int))] [21,4,10,9,8,1] ?_
   refine oe (nt ?_)
   obtain ⟨cd,bd,ac⟩:=bS bc
   obtain ⟨be,bf,ac⟩:=brkS ac
   refine JC_cutP (τ:=(Int × Int × Int × Int × Int × Int × Int × Int) × (Unit)) (fun y=>be y.1 = some av) (fun a5=>[(10,vi a5.1.1),(9,vi a5.1.2.1),(8,vs a0_0 x0.Rules c0_0),(1,.p 0 0)]) (fun a5=>[(42,(eBook x0 (a0_0,c0_0))),(188,(eRule (Rule.mk a5.1.2.2.1 a5.1.2.2.2.1 a5.1.2.2.2.2.1 a5.1.2.2.2.2.2.1 a5.1.2.2.2.2.2.2.1 a5.1.2.2.2.2.2.2.2 a4.Nodes) (a6,a7)))]) (fun a5=>[]) ?_ (fun a5 bg=>?_)
   ·refine qb (lp Unit bd (fun a8 aj=>[(23,vi a8),(22,vi (aa.length : Int)),(21,vs a0_0 aa c0_0),(4,.p 1 0),(10,vi a3.1),(9,vi a3.2),(8,vs a0_0 x0.Rules c0_0),(1,.p 0 0)]) (fun a8 aj=>[(42,(eBook x0 (a0_0,c0_0))),(188,(eRule a4 (a6,a7)))]) (fun a8 aj=>[]) () [23,22,21,4,10,9,8,1] [] 2 (fun a8 aj ce bi ao=>?_))
    refine qs (qr (oN 1 [(24,vb (decide (a8 < (aa.length : Int))))] [23,22,21,4,10,9,8,1] ?_))
    refine oe (nt (qs (cC bi (fun bj=>?_) (fun bk=>?_))))
    ·refine qk (nt (qs (qb (qs (qr ?_)))))
     obtain ⟨a9,ak,bl⟩:=bS bj
     refine oi 7 (fun _ w hs=>(ai.k hs)) ak ?_
     obtain ⟨_,⟨al,am,rfl,cf⟩,bm⟩:=SlView.at ai (idx_some ak).2.2
     refine ol 188 0 (vRule a9 (al,am)) (fun _ w hs=>⟨(ai.k hs).ne (idx_some ak).2.2,bm.kept hs.kept⟩) ?_
     refine oB 2 [(6,.p 2 0)] [23,22,21,4,10,9,8,1] [(42,(eBook x0 (a0_0,c0_0))),(188,(eRule a4 (a6,a7))),(188,(eRule a9 (al,am)))] ?_
     refine oe (nt (qs ?_))
     obtain ⟨bo,bp,bq⟩:=bS bl
     refine JC_cut (τ:=Unit) (fun _=>[(1,.p 0 0),(4,.p 1 0),(8,vs a0_0 x0.Rules c0_0),(9,vi a3.2),(10,vi a3.1),(21,vs a0_0 aa c0_0),(22,vi (aa.length : Int)),(23,vi a8),(52,vb bo)]) (fun _=>[(42,(eBook x0 (a0_0,c0_0))),(188,(eRule a4 (a6,a7))),(188,(eRule a9 (al,am)))]) (fun _=>[]) ?_ (fun _=>?_)
     ·refine qr (oN 6 [(32,vb (a9.Name == a4.Name))] [6,23,22,21,4,10,9,8,1] ?_)
      refine oS 32 bp (fun bs=>?_) (fun bu=>?_)
      ·refine oN 7 [(39,vb (a9.Rank == a4.Rank))] [6,23,22,21,4,10,9,8,1] ?_
       refine oS 39 bs (fun bv=>?_) (fun bw=>?_)
       ·refine oN 7 [(46,vb (decide (a9.From < a4.To)))] [6,23,22,21,4,10,9,8,1] ?_
        refine oS 46 bv (fun bz=>?_) (fun c3=>?_)
        ·refine oN 6 [(52,vb (decide (a4.From < a9.To)))] [23,22,21,4,10,9,8,1] ?_
         refine oe ?_
         obtain rfl:=sI bz
         exact mt () [1,4,8,9,10,21,22,23,52] [] 3
        refine oN 6 [(52,vb false)] [23,22,21,4,10,9,8,1] ?_
        refine oe ?_
        obtain rfl:=sI c3
        exact mt () [1,4,8,9,10,21,22,23,52] [] 3
       refine oN 13 [(52,vb false)] [23,22,21,4,10,9,8,1] ?_
       refine oe ?_
       obtain rfl:=sI bw
       exact mt () [1,4,8,9,10,21,22,23,52] [] 3
      refine oN 20 [(52,vb false)] [23,22,21,4,10,9,8,1] ?_
      refine oe ?_
      obtain rfl:=sI bu
      exact mt () [1,4,8,9,10,21,22,23,52] [] 3
     refine nt (cC bq (fun c4=>?_) (fun c5=>?_))
     ·refine qs (qr (oN 1 [(2,vb false)] [] ?_))
      refine oe (nt (qe (br (nr (nr ?_)))))
      have c6:=leafR ao c4 ac
      refine br (nr (br (nr (nr ?_))))
      have c7:=leafR ag c6 ab
      refine br (nr (nr ?_))
      obtain rfl:=sI c7
      exact re [.bool false]
     refine qk (bn (nt (qr (oN 2 [(23,vi (w64 (a8 + 1)))] [1,4,8,9,10,21,22] ?_))))
     exact oe (ct c5 () [23,22,21,4,10,9,8,1] [] 2)
    refine qx (nx (nx (bh ?_)))
    have c8:=leafB ao bk ac
    exact mp ((a3.1,a3.2,a4.Name,a4.From,a4.To,a4.Joined,a4.Rank,a4.Mode),()) c8 [10,9,8,1] [] 2
   have c9:=(congrFun bf _).symm.trans bg
   refine bn (nt (qr (oN 2 [(10,vi (w64 (a5.1.1 + 1)))] [9,8,1] ?_)))
   exact oe (ct c9 () [10,9,8,1] [] 1)
  refine qx (nx (nx (bh ?_)))
  have ca:=leafB ag ay ab
  exact mp ((),()) ca [1] [] 1
 have cb:=(congrFun ar _).symm.trans au
 refine nt (qs (qr (oN 5 [(2,vb (decide ((x0.Rules.length : Int) ≤ 20)))] [] ?_)))
 refine oe (nt (qe ?_))
 obtain rfl:=sI cb
 exact re [.bool (decide ((x0.Rules.length : Int) ≤ 20))]
theorem c_impl_MonthOk {W : World} {x0 : Int} {r : Bool} (h : impl_MonthOk x0 = some r)  :
  Gives0 Tryz.prog 127 #[.int .i64 x0] W (.bool r):=by
 unfold impl_MonthOk at h
 refine en Tryz.func127 Tryz.ntmps127 ?_
 refine qs (qr (oN 1 [] [0] ?_))
 refine oe (nt (qs (qr (oN 1 [(3,vi x0)] [] ?_))))
 obtain ⟨a3,a4,a5⟩:=bS h
 refine k0 (fun _ w hs=>c_impl_within a4) ?_
 refine oN 1 [(2,vb a3)] [] ?_
 refine oe (nt (qe ?_))
 obtain rfl:=sI a5
 exact re [.bool a3]
theorem c_impl_FactOk {W : World} {x0 : Fact} {r : Bool} (h : impl_FactOk x0 = some r)  :
  Gives0 Tryz.prog 169 #[vFact x0] W (.bool r):=by
 unfold impl_FactOk at h
 refine en Tryz.func169 Tryz.ntmps169 ?_
 refine qs (qr (oB 2 [(1,.p 0 0)] [] [(84,(eFact x0))] ?_))
 refine oe (nt (qs ?_))
 obtain ⟨a3,a4,a5⟩:=bS h
 refine JC_cut (τ:=Unit) (fun _=>[(2,vb a3)]) (fun _=>[(84,(eFact x0))]) (fun _=>[]) ?_ (fun _=>?_)
 ·refine qr (oN 2 [(4,vi x0.Key)] [1] ?_)
  obtain ⟨a6,a7,a8⟩:=bS a4
  refine k0 (fun _ w hs=>c_impl_within a7) ?_
  refine oN 1 [(6,vb a6)] [1] ?_
  refine oS 6 a8 (fun a9=>?_) (fun aa=>?_)
  ·refine oN 4 [(10,vi x0.To),(8,vi x0.From)] [6,1] ?_
   obtain ⟨ab,ac,ae⟩:=bS a9
   refine k0 (fun _ w hs=>c_impl_isSpan ac) ?_
   refine oN 2 [(13,vb ab)] [1] ?_
   refine oS 13 ae (fun af=>?_) (fun ag=>?_)
   ·refine oN 2 [(15,vi x0.Known)] [13,1] ?_
    obtain ⟨ah,ai,aj⟩:=bS af
    refine k0 (fun _ w hs=>c_impl_MonthOk ai) ?_
    refine oN 2 [(18,vb ah)] [1] ?_
    refine oS 18 aj (fun ak=>?_) (fun al=>?_)
    ·refine oN 2 [(20,vi x0.Value)] [18] ?_
     obtain ⟨am,an,ao⟩:=bS ak
     refine k0 (fun _ w hs=>c_impl_within an) ?_
     refine oN 2 [(2,vb am)] [] ?_
     refine oe ?_
     obtain rfl:=sI ao
     exact mt () [2] [] 1
    refine oN 5 [(2,vb false)] [] ?_
    refine oe ?_
    obtain rfl:=sI al
    exact mt () [2] [] 1
   refine oN 10 [(2,vb false)] [] ?_
   refine oe ?_
   obtain rfl:=sI ag
   exact mt () [2] [] 1
  refine oN 17 [(2,vb false)] [] ?_
  refine oe ?_
  obtain rfl:=sI aa
  exact mt () [2] [] 1
 refine nt (qe ?_)
 obtain rfl:=sI a5
 exact re [.bool a3]
theorem c_impl_StoreOk {W : World} {x0 : Store} {a0_0 : Option Addr} {c0_0 : Nat} {r : Bool} (h : impl_StoreOk x0 = some r) (hv0_0 : SlView W x0.Facts a0_0 c0_0) :
  Gives0 Tryz.prog 133 #[vStore x0 (a0_0,c0_0)] W (.bool r):=by
 unfold impl_StoreOk at h
 refine en Tryz.func133 Tryz.ntmps133 ?_
 refine qs (qr (oB 2 [(1,.p 0 0)] [] [(45,(eStore x0 (a0_0,c0_0)))] ?_))
 refine oe (nt (qs (qs (qr (oN 4 [(8,vi 0),(7,vi (x0.Facts.length : Int)),(6,vs a0_0 x0.Facts c0_0)] [1] ?_)))))
 refine oe (nt ?_)
 obtain ⟨b7,ac,a5⟩:=bS h
 obtain ⟨ae,af,a5⟩:=brkS a5
 refine JC_cutP (τ:=(Unit) × (Unit)) (fun y=>ae y.1 = some r) (fun a6=>[(1,.p 0 0)]) (fun a6=>[(45,(eStore x0 (a0_0,c0_0)))]) (fun a6=>[]) ?_ (fun a6 ag=>?_)
 ·refine qb (lp Unit ac (fun a3 a7=>[(8,vi a3),(7,vi (x0.Facts.length : Int)),(6,vs a0_0 x0.Facts c0_0),(1,.p 0 0)]) (fun a3 a7=>[(45,(eStore x0 (a0_0,c0_0)))]) (fun a3 a7=>[]) () [8,7,6,1] [] 1 (fun a3 a7 b8 ah a8=>?_))
  refine qs (qr (oN 1 [(9,vb (decide (a3 < (x0.Facts.length : Int))))] [8,7,6,1] ?_))
  refine oe (nt (qs (cC ah (fun ai=>?_) (fun aj=>?_))))
  ·refine qk (nt (qs (qb (qs (qr (oN 1 [(10,vi a3)] [8,7,6,1] ?_))))))
   obtain ⟨a4,a9,ak⟩:=bS ai
   refine oi 5 (fun _ w hs=>(hv0_0.k hs)) a9 ?_
   refine ol 84 0 (vFact a4) (fun _ w hs=>(hv0_0.k hs).flatq a9) ?_
   refine oB 3 [(3,vi a3),(4,.p 1 0)] [8,7,6,1] [(45,(eStore x0 (a0_0,c0_0))),(84,(eFact a4))] ?_
   refine oe (nt (qs ?_))
   obtain ⟨al,am,an⟩:=bS ak
   refine JC_cut (τ:=Unit) (fun _=>[(1,.p 0 0),(6,vs a0_0 x0.Facts c0_0),(7,vi (x0.Facts.length : Int)),(8,vi a3),(31,vb al)]) (fun _=>[(45,(eStore x0 (a0_0,c0_0))),(84,(eFact a4))]) (fun _=>[]) ?_ (fun _=>?_)
   ·refine JC_quiet (by kernel_rfl) (by kernel_rfl) ?_
    refine qN 1 [(13,.v (vFact a4))] [3,4,8,7,6,1] ?_
    obtain ⟨ao,ap,aq⟩:=bS am
    refine q0 (fun _ w hs=>c_impl_FactOk ap) ?_
    refine qN 2 [(16,vb (!ao))] [3,4,8,7,6,1] ?_
    refine qS 16 aq (fun ar=>?_) (fun au=>?_)
    ·refine qN 15 [(31,vb true)] [8,7,6,1] ?_
     refine qz ?_
     obtain rfl:=sI ar
     exact mt () [1,6,7,8,31] [] 2
    refine qN 3 [(19,vb (decide (a3 > 0)))] [16,3,4,8,7,6,1] ?_
    refine qS 19 au (fun av=>?_) (fun aw=>?_)
    ·refine qN 4 [(23,vi (w64 (a3 - 1))),(21,vs a0_0 x0.Facts c0_0)] [19,16,4,8,7,6,1] ?_
     obtain ⟨aa,ab,ax⟩:=bS av
     refine qi 5 (fun _ w hs=>(hv0_0.k hs)) ab ?_
     refine qN 1 [(25,.q a0_0 (Int.toNat (w64 (a3 - 1)) * 5 + 3))] [19,16,4,8,7,6,1] ?_
     refine ql 3 3 (.int .i64 aa.Known) (fun _ w hs=>(hv0_0.k hs).flatq ab) ?_
     refine qN 5 [(31,vb (decide (aa.Known > a4.Known)))] [8,7,6,1] ?_
     refine qz ?_
     obtain rfl:=sI ax
     exact mt () [1,6,7,8,31] [] 2
    refine qN 12 [(31,vb false)] [8,7,6,1] ?_
    refine qz ?_
    obtain rfl:=sI aw
    exact mt () [1,6,7,8,31] [] 2
   refine nt (cC an (fun ay=>?_) (fun az=>?_))
   ·refine qs (qr (oN 1 [(2,vb false)] [] ?_))
    refine oe (nt (qe (br (nr (nr ?_)))))
    have b4:=leafR a8 ay a5
    refine br (nr (nr ?_))
    obtain rfl:=sI b4
    exact re [.bool false]
   refine qk (bn (nt (qr (oN 2 [(8,vi (w64 (a3 + 1)))] [1,6,7] ?_))))
   exact oe (ct az () [8,7,6,1] [] 1)
  refine qx (nx (nx (bh ?_)))
  have b5:=leafB a8 aj a5
  exact mp ((),()) b5 [1] [] 1
 have b6:=(congrFun af _).symm.trans ag
 refine nt (qs (qr (oN 5 [(2,vb (decide ((x0.Facts.length : Int) ≤ 200)))] [] ?_)))
 refine oe (nt (qe ?_))
 obtain rfl:=sI b6
 exact re [.bool (decide ((x0.Facts.length : Int) ≤ 200))]
theorem c_impl_SeriesOk {W : World} {x0 : Series} {a0_0 : Option Addr} {c0_0 : Nat} {r : Bool} (h : impl_SeriesOk x0 = some r) (hv0_0 : SlView W x0.Points a0_0 c0_0) :
  Gives0 Tryz.prog 137 #[vSeries x0 (a0_0,c0_0)] W (.bool r):=by
 unfold impl_SeriesOk at h
 refine en Tryz.func137 Tryz.ntmps137 ?_
 refine qs (qr (oB 2 [(1,.p 0 0)] [] [(48,(eSeries x0 (a0_0,c0_0)))] ?_))
 refine oe (nt (qs (qs (qr (oN 4 [(8,vi 0),(7,vi (x0.Points.length : Int)),(6,vs a0_0 x0.Points c0_0)] [1] ?_)))))
 refine oe (nt ?_)
 obtain ⟨bk,ac,a5⟩:=bS h
 obtain ⟨ae,af,a5⟩:=brkS a5
 refine JC_cutP (τ:=(Unit) × (Unit)) (fun y=>ae y.1 = some r) (fun a6=>[(1,.p 0 0)]) (fun a6=>[(48,(eSeries x0 (a0_0,c0_0)))]) (fun a6=>[]) ?_ (fun a6 ag=>?_)
 ·refine qb (lp Unit ac (fun a3 a7=>[(8,vi a3),(7,vi (x0.Points.length : Int)),(6,vs a0_0 x0.Points c0_0),(1,.p 0 0)]) (fun a3 a7=>[(48,(eSeries x0 (a0_0,c0_0)))]) (fun a3 a7=>[]) () [8,7,6,1] [] 1 (fun a3 a7 bl ah a8=>?_))
  refine qs (qr (oN 1 [(9,vb (decide (a3 < (x0.Points.length : Int))))] [8,7,6,1] ?_))
  refine oe (nt (qs (cC ah (fun ai=>?_) (fun aj=>?_))))
  ·refine qk (nt (qs (qb (qs (qr (oN 1 [(10,vi a3)] [8,7,6,1] ?_))))))
   obtain ⟨a4,a9,ak⟩:=bS ai
   refine oi 3 (fun _ w hs=>(hv0_0.k hs)) a9 ?_
   refine ol 85 0 (vPoint a4) (fun _ w hs=>(hv0_0.k hs).flatq a9) ?_
   refine oB 3 [(3,vi a3),(4,.p 1 0)] [8,7,6,1] [(48,(eSeries x0 (a0_0,c0_0))),(85,(ePoint a4))] ?_
   refine oe (nt (qs ?_))
   obtain ⟨al,am,an⟩:=bS ak
   refine JC_cut (τ:=Unit) (fun _=>[(1,.p 0 0),(6,vs a0_0 x0.Points c0_0),(7,vi (x0.Points.length : Int)),(8,vi a3),(51,vb al)]) (fun _=>[(48,(eSeries x0 (a0_0,c0_0))),(85,(ePoint a4))]) (fun _=>[]) ?_ (fun _=>?_)
   ·refine JC_quiet (by kernel_rfl) (by kernel_rfl) ?_
    refine qN 2 [(14,vi a4.Month)] [3,4,8,7,6,1] ?_
    obtain ⟨ao,ap,aq⟩:=bS am
    refine q0 (fun _ w hs=>c_impl_MonthOk ap) ?_
    refine qN 2 [(17,vb (!ao))] [3,4,8,7,6,1] ?_
    refine qS 17 aq (fun ar=>?_) (fun au=>?_)
    ·refine qN 34 [(51,vb true)] [8,7,6,1] ?_
     refine qz ?_
     obtain rfl:=sI ar
     exact mt () [1,6,7,8,51] [] 2
    refine qN 2 [(19,vi a4.Known)] [17,3,4,8,7,6,1] ?_
    obtain ⟨av,aw,ax⟩:=bS au
    refine q0 (fun _ w hs=>c_impl_MonthOk aw) ?_
    refine qN 3 [(23,vb (!av))] [3,4,8,7,6,1] ?_
    refine qS 23 ax (fun ay=>?_) (fun az=>?_)
    ·refine qN 28 [(51,vb true)] [8,7,6,1] ?_
     refine qz ?_
     obtain rfl:=sI ay
     exact mt () [1,6,7,8,51] [] 2
    refine qN 7 [(30,vb (decide (a4.Known < a4.Month)))] [3,4,8,7,6,1] ?_
    refine qS 30 az (fun b4=>?_) (fun b5=>?_)
    ·refine qN 21 [(51,vb true)] [8,7,6,1] ?_
     refine qz ?_
     obtain rfl:=sI b4
     exact mt () [1,6,7,8,51] [] 2
    refine qN 2 [(32,vi a4.Value)] [30,3,4,8,7,6,1] ?_
    obtain ⟨b6,b7,b8⟩:=bS b5
    refine q0 (fun _ w hs=>c_impl_within b7) ?_
    refine qN 3 [(36,vb (!b6))] [3,4,8,7,6,1] ?_
    refine qS 36 b8 (fun b9=>?_) (fun ba=>?_)
    ·refine qN 15 [(51,vb true)] [8,7,6,1] ?_
     refine qz ?_
     obtain rfl:=sI b9
     exact mt () [1,6,7,8,51] [] 2
    refine qN 3 [(39,vb (decide (a3 > 0)))] [36,3,4,8,7,6,1] ?_
    refine qS 39 ba (fun bb=>?_) (fun bc=>?_)
    ·refine qN 4 [(43,vi (w64 (a3 - 1))),(41,vs a0_0 x0.Points c0_0)] [39,36,4,8,7,6,1] ?_
     obtain ⟨aa,ab,bd⟩:=bS bb
     refine qi 3 (fun _ w hs=>(hv0_0.k hs)) ab ?_
     refine qN 1 [(45,.q a0_0 (Int.toNat (w64 (a3 - 1)) * 3 + 1))] [39,36,4,8,7,6,1] ?_
     refine ql 3 1 (.int .i64 aa.Known) (fun _ w hs=>(hv0_0.k hs).flatq ab) ?_
     refine qN 5 [(51,vb (decide (aa.Known > a4.Known)))] [8,7,6,1] ?_
     refine qz ?_
     obtain rfl:=sI bd
     exact mt () [1,6,7,8,51] [] 2
    refine qN 12 [(51,vb false)] [8,7,6,1] ?_
    refine qz ?_
    obtain rfl:=sI bc
    exact mt () [1,6,7,8,51] [] 2
   refine nt (cC an (fun be=>?_) (fun bf=>?_))
   ·refine qs (qr (oN 1 [(2,vb false)] [] ?_))
    refine oe (nt (qe (br (nr (nr ?_)))))
    have bg:=leafR a8 be a5
    refine br (nr (nr ?_))
    obtain rfl:=sI bg
    exact re [.bool false]
   refine qk (bn (nt (qr (oN 2 [(8,vi (w64 (a3 + 1)))] [1,6,7] ?_))))
   exact oe (ct bf () [8,7,6,1] [] 1)
  refine qx (nx (nx (bh ?_)))
  have bi:=leafB a8 aj a5
  exact mp ((),()) bi [1] [] 1
 have bj:=(congrFun af _).symm.trans ag
 refine nt (qs (qr (oN 5 [(2,vb (decide ((x0.Points.length : Int) ≤ 200)))] [] ?_)))
 refine oe (nt (qe ?_))
 obtain rfl:=sI bj
 exact re [.bool (decide ((x0.Points.length : Int) ≤ 200))]
theorem c_impl_SpellsOk {W : World} {x0 : List Spell} {a0_0 : Option Addr} {c0_0 : Nat} {r : Bool} (h : impl_SpellsOk x0 = some r) (hv0_0 : SlView W x0 a0_0 c0_0) :
  Gives0 Tryz.prog 209 #[.slice a0_0 x0.length c0_0] W (.bool r):=by
 unfold impl_SpellsOk at h
 refine en Tryz.func209 Tryz.ntmps209 ?_
 refine qs (qr (oN 1 [] [0] ?_))
 refine oe (nt (qs (qs (qr (oN 3 [(7,vi 0),(6,vi (x0.length : Int)),(5,vs a0_0 x0 c0_0)] [0] ?_)))))
 refine oe (nt ?_)
 obtain ⟨bc,ac,a5⟩:=bS h
 obtain ⟨ae,af,a5⟩:=brkS a5
 refine JC_cutP (τ:=(Unit) × (Unit)) (fun y=>ae y.1 = some r) (fun a6=>[(0,vs a0_0 x0 c0_0)]) (fun a6=>[]) (fun a6=>[]) ?_ (fun a6 ag=>?_)
 ·refine qb (lp Unit ac (fun a3 a7=>[(7,vi a3),(6,vi (x0.length : Int)),(5,vs a0_0 x0 c0_0),(0,vs a0_0 x0 c0_0)]) (fun a3 a7=>[]) (fun a3 a7=>[]) () [7,6,5,0] [] 0 (fun a3 a7 bd ah a8=>?_))
  refine qs (qr (oN 1 [(8,vb (decide (a3 < (x0.length : Int))))] [7,6,5,0] ?_))
  refine oe (nt (qs (cC ah (fun ai=>?_) (fun aj=>?_))))
  ·refine qk (nt (qs (qb (qs (qr (oN 1 [(9,vi a3)] [7,6,5,0] ?_))))))
   obtain ⟨a4,a9,ak⟩:=bS ai
   refine oi 4 (fun _ w hs=>(hv0_0.k hs)) a9 ?_
   refine ol 191 0 (vSpell a4) (fun _ w hs=>(hv0_0.k hs).flatq a9) ?_
   refine oB 3 [(3,vi a3),(4,.p 0 0)] [7,6,5,0] [(191,(eSpell a4))] ?_
   refine oe (nt (qs ?_))
   obtain ⟨al,am,an⟩:=bS ak
   refine JC_cut (τ:=Unit) (fun _=>[(0,vs a0_0 x0 c0_0),(5,vs a0_0 x0 c0_0),(6,vi (x0.length : Int)),(7,vi a3),(38,vb al)]) (fun _=>[(191,(eSpell a4))]) (fun _=>[]) ?_ (fun _=>?_)
   ·refine JC_quiet (by kernel_rfl) (by kernel_rfl) ?_
    refine qN 4 [(15,vi a4.To),(13,vi a4.From)] [3,4,7,6,5,0] ?_
    obtain ⟨ao,ap,aq⟩:=bS am
    refine q0 (fun _ w hs=>c_impl_isSpan ap) ?_
    refine qN 2 [(18,vb (!ao))] [3,4,7,6,5,0] ?_
    refine qS 18 aq (fun ar=>?_) (fun au=>?_)
    ·refine qN 20 [(38,vb true)] [7,6,5,0] ?_
     refine qz ?_
     obtain rfl:=sI ar
     exact mt () [0,5,6,7,38] [] 1
    refine qN 2 [(20,vi a4.Percent)] [18,3,4,7,6,5,0] ?_
    obtain ⟨av,aw,ax⟩:=bS au
    refine q0 (fun _ w hs=>c_impl_within aw) ?_
    refine qN 3 [(24,vb (!av))] [3,4,7,6,5,0] ?_
    refine qS 24 ax (fun ay=>?_) (fun az=>?_)
    ·refine qN 14 [(38,vb true)] [7,6,5,0] ?_
     refine qz ?_
     obtain rfl:=sI ay
     exact mt () [0,5,6,7,38] [] 1
    refine qN 3 [(27,vb (decide (a3 > 0)))] [24,3,4,7,6,5,0] ?_
    refine qS 27 az (fun b4=>?_) (fun b5=>?_)
    ·refine qN 5 [(32,vi (w64 (a3 - 1))),(30,vs a0_0 x0 c0_0),(29,vi a4.From)] [27,24,7,6,5,0] ?_
     obtain ⟨aa,ab,b6⟩:=bS b4
     refine qi 4 (fun _ w hs=>(hv0_0.k hs)) ab ?_
     refine qN 1 [(34,.q a0_0 (Int.toNat (w64 (a3 - 1)) * 4 + 1))] [29,27,24,7,6,5,0] ?_
     refine ql 3 1 (.int .i64 aa.To) (fun _ w hs=>(hv0_0.k hs).flatq ab) ?_
     refine qN 3 [(38,vb (decide (a4.From < aa.To)))] [7,6,5,0] ?_
     refine qz ?_
     obtain rfl:=sI b6
     exact mt () [0,5,6,7,38] [] 1
    refine qN 11 [(38,vb false)] [7,6,5,0] ?_
    refine qz ?_
    obtain rfl:=sI b5
    exact mt () [0,5,6,7,38] [] 1
   refine nt (cC an (fun b7=>?_) (fun b8=>?_))
   ·refine qs (qr (oN 1 [(2,vb false)] [] ?_))
    refine oe (nt (qe (br (nr (nr ?_)))))
    have b9:=leafR a8 b7 a5
    refine br (nr (nr ?_))
    obtain rfl:=sI b9
    exact re [.bool false]
   refine qk (bn (nt (qr (oN 2 [(7,vi (w64 (a3 + 1)))] [0,5,6] ?_))))
   exact oe (ct b8 () [7,6,5,0] [] 0)
  refine qx (nx (nx (bh ?_)))
  have ba:=leafB a8 aj a5
  exact mp ((),()) ba [0] [] 0
 have bb:=(congrFun af _).symm.trans ag
 refine nt (qs (qr (oN 4 [(2,vb (decide ((x0.length : Int) ≤ 30)))] [] ?_)))
 refine oe (nt (qe ?_))
 obtain rfl:=sI bb
 exact re [.bool (decide ((x0.length : Int) ≤ 30))]
theorem c_impl_StatusAfter {W : World} {x0 : Int} {x1 : Int} {r : Int × Bool} (h : impl_StatusAfter x0 x1 = some r)  :
  Gives0 Tryz.prog 179 #[.int .i64 x0,.int .i64 x1] W (.tuple #[.int .i64 r.1,.bool r.2]):=by
 unfold impl_StatusAfter at h
 refine en Tryz.func179 Tryz.ntmps179 ?_
 refine qs (qr (oN 2 [] [0,1] ?_))
 refine oe (nt (qs (qb (qs ?_))))
 obtain ⟨a3,a4,a5⟩:=bS h
 refine JC_cut (τ:=Unit) (fun _=>[(0,vi x0),(1,vi x1),(6,vb a3)]) (fun _=>[]) (fun _=>[]) ?_ (fun _=>?_)
 ·refine qr (oN 3 [(9,vb (x1 == 1))] [0,1] ?_)
  refine oS 9 a4 (fun a6=>?_) (fun a7=>?_)
  ·refine oN 3 [(12,vb (x0 == 0))] [9,0,1] ?_
   refine oS 12 a6 (fun a8=>?_) (fun a9=>?_)
   ·refine oN 5 [(6,vb true)] [0,1] ?_
    refine oe ?_
    obtain rfl:=sI a8
    exact mt () [0,1,6] [] 0
   refine oN 5 [(6,vb (x0 == 2))] [0,1] ?_
   refine oe ?_
   obtain rfl:=sI a9
   exact mt () [0,1,6] [] 0
  refine oN 8 [(6,vb false)] [0,1] ?_
  refine oe ?_
  obtain rfl:=sI a7
  exact mt () [0,1,6] [] 0
 refine nt (cC a5 (fun aa=>?_) (fun ab=>?_))
 ·refine qs (qr (oN 2 [(5,vb true),(4,vi 1)] [] ?_))
  refine oe (nt (qe (br (nr ?_))))
  obtain rfl:=sI aa
  exact re [.int .i64 1,.bool true]
 refine qs ?_
 obtain ⟨ac,ae,af⟩:=bS ab
 refine JC_cut (τ:=Unit) (fun _=>[(0,vi x0),(1,vi x1),(17,vb ac)]) (fun _=>[]) (fun _=>[]) ?_ (fun _=>?_)
 ·refine qr (oN 3 [(20,vb (x1 == 2))] [0,1] ?_)
  refine oS 20 ae (fun ag=>?_) (fun ah=>?_)
  ·refine oN 4 [(17,vb (x0 == 1))] [0,1] ?_
   refine oe ?_
   obtain rfl:=sI ag
   exact mt () [0,1,17] [] 0
  refine oN 4 [(17,vb false)] [0,1] ?_
  refine oe ?_
  obtain rfl:=sI ah
  exact mt () [0,1,17] [] 0
 refine nt (cC af (fun ai=>?_) (fun aj=>?_))
 ·refine qs (qr (oN 2 [(5,vb true),(4,vi 2)] [] ?_))
  refine oe (nt (qe (br (nr ?_))))
  obtain rfl:=sI ai
  exact re [.int .i64 2,.bool true]
 refine qs ?_
 obtain ⟨ak,al,am⟩:=bS aj
 refine JC_cut (τ:=Unit) (fun _=>[(0,vi x0),(1,vi x1),(24,vb ak)]) (fun _=>[]) (fun _=>[]) ?_ (fun _=>?_)
 ·refine qr (oN 3 [(27,vb (x1 == 3))] [0,1] ?_)
  refine oS 27 al (fun an=>?_) (fun ao=>?_)
  ·refine oN 3 [(30,vb (x0 == 1))] [27,0,1] ?_
   refine oS 30 an (fun ap=>?_) (fun aq=>?_)
   ·refine oN 5 [(24,vb true)] [0,1] ?_
    refine oe ?_
    obtain rfl:=sI ap
    exact mt () [0,1,24] [] 0
   refine oN 5 [(24,vb (x0 == 2))] [0,1] ?_
   refine oe ?_
   obtain rfl:=sI aq
   exact mt () [0,1,24] [] 0
  refine oN 8 [(24,vb false)] [0,1] ?_
  refine oe ?_
  obtain rfl:=sI ao
  exact mt () [0,1,24] [] 0
 refine nt (cC am (fun ar=>?_) (fun au=>?_))
 ·refine qs (qr (oN 2 [(5,vb true),(4,vi 3)] [] ?_))
  refine oe (nt (qe (br (nr ?_))))
  obtain rfl:=sI ar
  exact re [.int .i64 3,.bool true]
 refine qs ?_
 obtain ⟨av,aw,ax⟩:=bS au
 refine JC_cut (τ:=Unit) (fun _=>[(0,vi x0),(35,vb av)]) (fun _=>[]) (fun _=>[]) ?_ (fun _=>?_)
 ·refine qr (oN 3 [(38,vb (x1 == 4))] [0] ?_)
  refine oS 38 aw (fun ay=>?_) (fun az=>?_)
  ·refine oN 1 [(39,vi x0)] [38,0] ?_
   obtain ⟨b4,b5,b6⟩:=bS ay
   refine k0 (fun _ w hs=>c_impl_within b5) ?_
   refine oN 2 [(35,vb b4)] [0] ?_
   refine oe ?_
   obtain rfl:=sI b6
   exact mt () [0,35] [] 0
  refine oN 4 [(35,vb false)] [0] ?_
  refine oe ?_
  obtain rfl:=sI az
  exact mt () [0,35] [] 0
 refine nt (cC ax (fun b7=>?_) (fun b8=>?_))
 ·refine qs (qr (oN 2 [(5,vb true),(4,vi 4)] [] ?_))
  refine oe (nt (qe (br (nr ?_))))
  obtain rfl:=sI b7
  exact re [.int .i64 4,.bool true]
 refine qk (bn (nt (qs (qr (oN 3 [(5,vb false),(4,vi x0)] [] ?_)))))
 refine oe (nt (qe ?_))
 obtain rfl:=sI b8
 exact re [.int .i64 x0,.bool false]
theorem c_impl_EventsOk {W : World} {x0 : List Event} {a0_0 : Option Addr} {c0_0 : Nat} {r : Bool} (h : impl_EventsOk x0 = some r) (hv0_0 : SlView W x0 a0_0 c0_0) :
  Gives0 Tryz.prog 178 #[.slice a0_0 x0.length c0_0] W (.bool r):=by
 unfold impl_EventsOk at h
 refine en Tryz.func178 Tryz.ntmps178 ?_
 refine qs (qr (oN 1 [] [0] ?_))
 refine oe (nt (qs (qr (oN 2 [(3,vi 0)] [0] ?_))))
 refine oe (nt (qs (qs (qr (oN 3 [(9,vi 0),(8,vi (x0.length : Int)),(7,vs a0_0 x0 c0_0)] [3,0] ?_)))))
 refine oe (nt ?_)
 obtain ⟨bc,ae,a5⟩:=bS h
 obtain ⟨af,ag,a5⟩:=brkS a5
 refine JC_cutP (τ:=(Unit) × (Unit)) (fun y=>af y.1 = some r) (fun a7=>[(0,vs a0_0 x0 c0_0)]) (fun a7=>[]) (fun a7=>[]) ?_ (fun a7 ah=>?_)
 ·refine qb (lp Unit ae (fun a3 a8=>[(9,vi a3.1),(8,vi (x0.length : Int)),(7,vs a0_0 x0 c0_0),(3,vi a3.2),(0,vs a0_0 x0 c0_0)]) (fun a3 a8=>[]) (fun a3 a8=>[]) () [9,8,7,3,0] [] 0 (fun a3 a8 bd ai a9=>?_))
  refine qs (qr (oN 1 [(10,vb (decide (a3.1 < (x0.length : Int))))] [9,8,7,3,0] ?_))
  refine oe (nt (qs (cC ai (fun aj=>?_) (fun ak=>?_))))
  ·refine qk (nt (qs (qb (qs (qr (oN 1 [(11,vi a3.1)] [9,8,7,3,0] ?_))))))
   obtain ⟨a4,aa,al⟩:=bS aj
   refine oi 2 (fun _ w hs=>(hv0_0.k hs)) aa ?_
   refine ol 195 0 (vEvent a4) (fun _ w hs=>(hv0_0.k hs).flatq aa) ?_
   refine oB 3 [(5,vi a3.1),(6,.p 0 0)] [9,8,7,3,0] [(195,(eEvent a4))] ?_
   refine oe (nt (qs (qr (oN 3 [(17,vi a4.Kind),(15,vi a3.2)] [5,6,9,8,7,0] ?_))))
   obtain ⟨a6,am,an⟩:=bS al
   refine k0 (fun _ w hs=>c_impl_StatusAfter am) ?_
   refine oN 5 [(4,vb a6.2),(3,vi a6.1)] [5,6,9,8,7,0] ?_
   refine oe (nt (qs ?_))
   obtain ⟨ao,ap,aq⟩:=bS an
   refine JC_cut (τ:=Unit) (fun _=>[(0,vs a0_0 x0 c0_0),(3,vi a6.1),(7,vs a0_0 x0 c0_0),(8,vi (x0.length : Int)),(9,vi a3.1),(43,vb ao)]) (fun _=>[(195,(eEvent a4))]) (fun _=>[]) ?_ (fun _=>?_)
   ·refine JC_quiet (by kernel_rfl) (by kernel_rfl) ?_
    refine qN 3 [(23,vb (!a6.2))] [3,5,6,9,8,7,0] ?_
    refine qS 23 ap (fun ar=>?_) (fun au=>?_)
    ·refine qN 20 [(43,vb true)] [3,9,8,7,0] ?_
     refine qz ?_
     obtain rfl:=sI ar
     exact mt () [0,3,7,8,9,43] [] 1
    refine qN 2 [(25,vi a4.Month)] [23,3,5,6,9,8,7,0] ?_
    obtain ⟨av,aw,ax⟩:=bS au
    refine q0 (fun _ w hs=>c_impl_MonthOk aw) ?_
    refine qN 3 [(29,vb (!av))] [3,5,6,9,8,7,0] ?_
    refine qS 29 ax (fun ay=>?_) (fun az=>?_)
    ·refine qN 14 [(43,vb true)] [3,9,8,7,0] ?_
     refine qz ?_
     obtain rfl:=sI ay
     exact mt () [0,3,7,8,9,43] [] 1
    refine qN 3 [(32,vb (decide (a3.1 > 0)))] [29,3,5,6,9,8,7,0] ?_
    refine qS 32 az (fun b4=>?_) (fun b5=>?_)
    ·refine qN 3 [(35,vi (w64 (a3.1 - 1))),(33,vs a0_0 x0 c0_0)] [32,29,3,6,9,8,7,0] ?_
     obtain ⟨ab,ac,b6⟩:=bS b4
     refine qi 2 (fun _ w hs=>(hv0_0.k hs)) ac ?_
     refine qN 1 [(37,.q a0_0 (Int.toNat (w64 (a3.1 - 1)) * 2 + 1))] [32,29,3,6,9,8,7,0] ?_
     refine ql 3 1 (.int .i64 ab.Month) (fun _ w hs=>(hv0_0.k hs).flatq ac) ?_
     refine qN 5 [(43,vb (decide (ab.Month ≥ a4.Month)))] [3,9,8,7,0] ?_
     refine qz ?_
     obtain rfl:=sI b6
     exact mt () [0,3,7,8,9,43] [] 1
    refine qN 11 [(43,vb false)] [3,9,8,7,0] ?_
    refine qz ?_
    obtain rfl:=sI b5
    exact mt () [0,3,7,8,9,43] [] 1
   refine nt (cC aq (fun b7=>?_) (fun b8=>?_))
   ·refine qs (qr (oN 1 [(2,vb false)] [] ?_))
    refine oe (nt (qe (br (nr (nr ?_)))))
    have b9:=leafR a9 b7 a5
    refine br (nr (nr ?_))
    obtain rfl:=sI b9
    exact re [.bool false]
   refine qk (bn (nt (qr (oN 2 [(9,vi (w64 (a3.1 + 1)))] [0,3,7,8] ?_))))
   exact oe (ct b8 () [9,8,7,3,0] [] 0)
  refine qx (nx (nx (bh ?_)))
  have ba:=leafB a9 ak a5
  exact mp ((),()) ba [0] [] 0
 have bb:=(congrFun ag _).symm.trans ah
 refine nt (qs (qr (oN 4 [(2,vb (decide ((x0.length : Int) ≤ 30)))] [] ?_)))
 refine oe (nt (qe ?_))
 obtain rfl:=sI bb
 exact re [.bool (decide ((x0.length : Int) ≤ 30))]
theorem c_impl_MemberOk {W : World} {x0 : Member} {b0 : AC × AC} {r : Bool} (h : impl_MemberOk x0 = some r) (hv0_0 : SlView W x0.Spells b0.1.1 b0.1.2) (hv0_1 : SlView W x0.Events b0.2.1 b0.2.2) :
  Gives0 Tryz.prog 165 #[vMember x0 b0] W (.bool r):=by
 unfold impl_MemberOk at h
 refine en Tryz.func165 Tryz.ntmps165 ?_
 refine qs (qr (oB 2 [(1,.p 0 0)] [] [(52,(eMember x0 b0))] ?_))
 refine oe (nt (qs ?_))
 obtain ⟨a3,a4,a5⟩:=bS h
 refine JC_cut (τ:=Unit) (fun _=>[(2,vb a3)]) (fun _=>[(52,(eMember x0 b0))]) (fun _=>[]) ?_ (fun _=>?_)
 ·refine qr (oN 2 [(4,vi x0.Birth)] [1] ?_)
  obtain ⟨a6,a7,a8⟩:=bS a4
  refine k0 (fun _ w hs=>c_impl_MonthOk a7) ?_
  refine oN 1 [(6,vb a6)] [1] ?_
  refine oS 6 a8 (fun a9=>?_) (fun aa=>?_)
  ·refine oN 2 [(8,vi x0.Joined)] [6,1] ?_
   obtain ⟨ab,ac,ae⟩:=bS a9
   refine k0 (fun _ w hs=>c_impl_MonthOk ac) ?_
   refine oN 2 [(11,vb ab)] [1] ?_
   refine oS 11 ae (fun af=>?_) (fun ag=>?_)
   ·refine oN 7 [(18,vb (decide (x0.Birth ≤ x0.Joined)))] [1] ?_
    refine oS 18 af (fun ah=>?_) (fun ai=>?_)
    ·refine oN 2 [(20,sv b0.1 x0.Spells)] [18,1] ?_
     obtain ⟨aj,ak,al⟩:=bS ah
     refine k0 (fun _ w hs=>c_impl_SpellsOk ak (hv0_0.k hs)) ?_
     refine oN 2 [(23,vb aj)] [1] ?_
     refine oS 23 al (fun am=>?_) (fun an=>?_)
     ·refine oN 2 [(25,sv b0.2 x0.Events)] [23] ?_
      obtain ⟨ao,ap,aq⟩:=bS am
      refine k0 (fun _ w hs=>c_impl_EventsOk ap (hv0_1.k hs)) ?_
      refine oN 2 [(2,vb ao)] [] ?_
      refine oe ?_
      obtain rfl:=sI aq
      exact mt () [2] [] 1
     refine oN 5 [(2,vb false)] [] ?_
     refine oe ?_
     obtain rfl:=sI an
     exact mt () [2] [] 1
    refine oN 10 [(2,vb false)] [] ?_
    refine oe ?_
    obtain rfl:=sI ai
    exact mt () [2] [] 1
   refine oN 17 [(2,vb false)] [] ?_
   refine oe ?_
   obtain rfl:=sI ag
   exact mt () [2] [] 1
  refine oN 22 [(2,vb false)] [] ?_
  refine oe ?_
  obtain rfl:=sI aa
  exact mt () [2] [] 1
 refine nt (qe ?_)
 obtain rfl:=sI a5
 exact re [.bool a3]
theorem c_impl_CaseOk {W : World} {x0 : Case} {b0 : AC × AC × AC × AC × AC} {r : Bool} (h : impl_CaseOk x0 = some r) (hv0_0 : SlView W x0.Book.Rules b0.1.1 b0.1.2) (hv0_1 : SlView W x0.Store.Facts b0.2.1.1 b0.2.1.2) (hv0_2 : SlView W x0.Series.Points b0.2.2.1.1 b0.2.2.1.2) (hv0_3 : SlView W x0.Member.Spells b0.2.2.2.1.1 b0.2.2.2.1.2) (hv0_4 : SlView W x0.Member.Events b0.2.2.2.2.1 b0.2.2.2.2.2) :
  Gives0 Tryz.prog 126 #[vCase x0 b0] W (.bool r):=by
 unfold impl_CaseOk at h
 refine en Tryz.func126 Tryz.ntmps126 ?_
 refine qs (qr (oB 2 [(1,.p 0 0)] [] [(54,(eCase x0 b0))] ?_))
 refine oe (nt (qs ?_))
 obtain ⟨a3,a4,a5⟩:=bS h
 refine JC_cut (τ:=Unit) (fun _=>[(2,vb a3)]) (fun _=>[(54,(eCase x0 b0))]) (fun _=>[]) ?_ (fun _=>?_)
 ·refine qr (oN 2 [(4,.v (vBook x0.Book b0.1))] [1] ?_)
  obtain ⟨a6,a7,a8⟩:=bS a4
  refine k0 (fun _ w hs=>c_impl_BookOk a7 (hv0_0.k hs)) ?_
  refine oN 1 [(6,vb a6)] [1] ?_
  refine oS 6 a8 (fun a9=>?_) (fun aa=>?_)
  ·refine oN 2 [(8,.v (vStore x0.Store b0.2.1))] [6,1] ?_
   obtain ⟨ab,ac,ae⟩:=bS a9
   refine k0 (fun _ w hs=>c_impl_StoreOk ac (hv0_1.k hs)) ?_
   refine oN 2 [(11,vb ab)] [1] ?_
   refine oS 11 ae (fun af=>?_) (fun ag=>?_)
   ·refine oN 2 [(13,.v (vSeries x0.Series b0.2.2.1))] [11,1] ?_
    obtain ⟨ah,ai,aj⟩:=bS af
    refine k0 (fun _ w hs=>c_impl_SeriesOk ai (hv0_2.k hs)) ?_
    refine oN 2 [(16,vb ah)] [1] ?_
    refine oS 16 aj (fun ak=>?_) (fun al=>?_)
    ·refine oN 2 [(18,.v (vMember x0.Member b0.2.2.2))] [16] ?_
     obtain ⟨am,an,ao⟩:=bS ak
     refine k0 (fun _ w hs=>c_impl_MemberOk (b0:=b0.2.2.2) an (hv0_3.k hs) (hv0_4.k hs)) ?_
     refine oN 2 [(2,vb am)] [] ?_
     refine oe ?_
     obtain rfl:=sI ao
     exact mt () [2] [] 1
    refine oN 5 [(2,vb false)] [] ?_
    refine oe ?_
    obtain rfl:=sI al
    exact mt () [2] [] 1
   refine oN 10 [(2,vb false)] [] ?_
   refine oe ?_
   obtain rfl:=sI ag
   exact mt () [2] [] 1
  refine oN 15 [(2,vb false)] [] ?_
  refine oe ?_
  obtain rfl:=sI aa
  exact mt () [2] [] 1
 refine nt (qe ?_)
 obtain rfl:=sI a5
 exact re [.bool a3]
theorem c_impl_now {W : World} {x0 : Office} {b0 : AC × AC × AC × AC × AC × AC} {r : Int} (h : impl_now x0 = some r) (hv0_0 : SlView W x0.Case.Book.Rules b0.1.1 b0.1.2) (hv0_1 : SlView W x0.Case.Store.Facts b0.2.1.1 b0.2.1.2) (hv0_2 : SlView W x0.Case.Series.Points b0.2.2.1.1 b0.2.2.1.2) (hv0_3 : SlView W x0.Case.Member.Spells b0.2.2.2.1.1 b0.2.2.2.1.2) (hv0_4 : SlView W x0.Case.Member.Events b0.2.2.2.2.1.1 b0.2.2.2.2.1.2) (hv0_5 : SlView W x0.Paid b0.2.2.2.2.2.1 b0.2.2.2.2.2.2) :
  Gives0 Tryz.prog 84 #[vOffice x0 b0] W (.int .i64 r):=by
 unfold impl_now at h
 refine en Tryz.func84 Tryz.ntmps84 ?_
 refine qs (qr (oB 2 [(1,.p 0 0)] [] [(57,(eOffice x0 b0))] ?_))
 refine oe (nt (qs (qr (oN 7 [(2,vi (w64 (x0.Start + (x0.Paid.length : Int))))] [] ?_))))
 refine oe (nt (qe ?_))
 obtain rfl:=sI h
 exact re [.int .i64 (w64 (x0.Start + (x0.Paid.length : Int)))]
theorem c_impl_allWithin_1 {W : World} {x0 : Int} {gf_0 : Nat} {zf_0 : Int} {gf_1 : Nat} {zf_1 : Int} {r : Bool} (h : impl_allWithin_1 x0 zf_0 zf_1 = some r) (hcf_0 : CellsAt W (some ⟨gf_0,0,none⟩) 0 [.int .i64 zf_0]) (hcf_1 : CellsAt W (some ⟨gf_1,0,none⟩) 0 [.int .i64 zf_1]) :
  Gives0 Tryz.prog 167 #[.int .i64 x0,.pointer (some ⟨gf_0,0,none⟩),.pointer (some ⟨gf_1,0,none⟩)] W (.bool r):=by
 unfold impl_allWithin_1 at h
 refine enterD [vi x0,.q (some ⟨gf_0,0,none⟩) (0),.q (some ⟨gf_1,0,none⟩) (0)] (args:=[.int .i64 x0,.pointer (some ⟨gf_0,0,none⟩),.pointer (some ⟨gf_1,0,none⟩)]) (by kernel_rfl) (by kernel_rfl) Tryz.func167 rfl Tryz.ntmps167 (by kernel_rfl) ?_
 refine qs (qr (oN 1 [] [0,1,2] ?_))
 refine oe (nt (qs (qr (oN 1 [(5,vi x0)] [1,2] ?_))))
 refine ol 3 0 (.int .i64 zf_0) (fun _ w hs=>⟨by simp,hcf_0.kept hs.kept⟩) ?_
 refine ol 3 0 (.int .i64 zf_1) (fun _ w hs=>⟨by simp,hcf_1.kept hs.kept⟩) ?_
 obtain ⟨a3,a4,a5⟩:=bS h
 refine k0 (fun _ w hs=>c_impl_within a4) ?_
 refine oN 2 [(4,vb (!a3))] [] ?_
 refine oe (nt (qe ?_))
 obtain rfl:=sI a5
 exact re [.bool (!a3)]
theorem c_slices_IndexFunc_int__impl_allWithin_1 {W : World} {x0 : List Int} {a0_0 : Option Addr} {c0_0 : Nat} {g1_0 : Nat} {z1_0 : Int} {g1_1 : Nat} {z1_1 : Int} {r : Int} (h : slices_IndexFunc_int__impl_allWithin_1 x0 z1_0 z1_1 = some r) (hv0_0 : SlView W x0 a0_0 c0_0) (hc1_0 : CellsAt W (some ⟨g1_0,0,none⟩) 0 [.int .i64 z1_0]) (hc1_1 : CellsAt W (some ⟨g1_1,0,none⟩) 0 [.int .i64 z1_1]) :
  Gives0 Tryz.prog 210 #[.slice a0_0 x0.length c0_0,.func (.func 167) #[] #[.pointer (some ⟨g1_0,0,none⟩),.pointer (some ⟨g1_1,0,none⟩)]] W (.int .i64 r):=by
 unfold slices_IndexFunc_int__impl_allWithin_1 at h
 refine en Tryz.func210 Tryz.ntmps210 ?_
 refine qs (qr (oN 1 [] [0,1] ?_))
 refine oe (nt (qs (qs (qr (oN 3 [(8,vi 0),(7,vi (x0.length : Int))] [0,1] ?_)))))
 refine oe (nt ?_)
 obtain ⟨aq,a9,a4⟩:=bS h
 obtain ⟨aa,ab,a4⟩:=brkS a4
 refine JC_cutP (τ:=(Unit) × (Unit)) (fun y=>aa y.1 = some r) (fun a5=>[]) (fun a5=>[]) (fun a5=>[]) ?_ (fun a5 ac=>?_)
 ·refine qb (lp Unit a9 (fun a3 a6=>[(8,vi a3),(7,vi (x0.length : Int)),(0,vs a0_0 x0 c0_0),(1,.v (.func (.func 167) #[] #[.pointer (some ⟨g1_0,0,none⟩),.pointer (some ⟨g1_1,0,none⟩)]))]) (fun a3 a6=>[]) (fun a3 a6=>[]) () [8,7,0,1] [] 0 (fun a3 a6 ar ae a7=>?_))
  refine qs (qr (oN 1 [(9,vb (decide (a3 < (x0.length : Int))))] [8,7,0,1] ?_))
  refine oe (nt (qs (cC ae (fun af=>?_) (fun ag=>?_))))
  ·refine qk (nt (qs (qb (qs (qr (oN 2 [(5,vi a3)] [8,7,0,1] ?_))))))
   refine oe (nt (qs (qr (oN 3 [(13,vi a3),(12,vs a0_0 x0 c0_0),(11,.v (.func (.func 167) #[] #[.pointer (some ⟨g1_0,0,none⟩),.pointer (some ⟨g1_1,0,none⟩)]))] [5,8,7,0,1] ?_))))
   obtain ⟨ah,a8,ai⟩:=bS af
   refine oi 1 (fun _ w hs=>(hv0_0.k hs)) a8 ?_
   refine ol 3 0 (.int .i64 ah) (fun _ w hs=>(hv0_0.k hs).flatq a8) ?_
   obtain ⟨au,aj,ak⟩:=bS ai
   refine k0 (fun _ w hs=>c_impl_allWithin_1 aj (hc1_0.k hs) (hc1_1.k hs)) ?_
   refine oe (nt (cC ak (fun al=>?_) (fun am=>?_)))
   ·refine qs (qr (oN 2 [(4,vi a3)] [] ?_))
    refine oe (nt (qe (br (nr (nr ?_)))))
    have an:=leafR a7 al a4
    refine br (nr (nr ?_))
    obtain rfl:=sI an
    exact re [.int .i64 a3]
   refine qk (bn (nt (qr (oN 2 [(8,vi (w64 (a3 + 1)))] [7,0,1] ?_))))
   exact oe (ct am () [8,7,0,1] [] 0)
  refine qx (nx (nx (bh ?_)))
  have ao:=leafB a7 ag a4
  exact mp ((),()) ao [] [] 0
 have ap:=(congrFun ab _).symm.trans ac
 refine nt (qs (qr (oN 1 [(4,vi (-1))] [] ?_)))
 refine oe (nt (qe ?_))
 obtain rfl:=sI ap
 exact re [.int .i64 (-1)]
theorem c_slices_ContainsFunc_int__impl_allWithin_1 {W : World} {x0 : List Int} {a0_0 : Option Addr} {c0_0 : Nat} {g1_0 : Nat} {z1_0 : Int} {g1_1 : Nat} {z1_1 : Int} {r : Bool} (h : slices_ContainsFunc_int__impl_allWithin_1 x0 z1_0 z1_1 = some r) (hv0_0 : SlView W x0 a0_0 c0_0) (hc1_0 : CellsAt W (some ⟨g1_0,0,none⟩) 0 [.int .i64 z1_0]) (hc1_1 : CellsAt W (some ⟨g1_1,0,none⟩) 0 [.int .i64 z1_1]) :
  Gives0 Tryz.prog 166 #[.slice a0_0 x0.length c0_0,.func (.func 167) #[] #[.pointer (some ⟨g1_0,0,none⟩),.pointer (some ⟨g1_1,0,none⟩)]] W (.bool r):=by
 unfold slices_ContainsFunc_int__impl_allWithin_1 at h
 refine en Tryz.func166 Tryz.ntmps166 ?_
 refine qs (qr (oN 1 [] [0,1] ?_))
 refine oe (nt (qs (qr (oN 2 [(6,.v (.func (.func 167) #[] #[.pointer (some ⟨g1_0,0,none⟩),.pointer (some ⟨g1_1,0,none⟩)])),(5,vs a0_0 x0 c0_0)] [] ?_))))
 obtain ⟨a3,a4,a5⟩:=bS h
 refine k0 (fun _ w hs=>c_slices_IndexFunc_int__impl_allWithin_1 a4 (hv0_0.k hs) (hc1_0.k hs) (hc1_1.k hs)) ?_
 refine oN 2 [(4,vb (decide (a3 ≥ 0)))] [] ?_
 refine oe (nt (qe ?_))
 obtain rfl:=sI a5
 exact re [.bool (decide (a3 ≥ 0))]
theorem c_impl_allWithin {W : World} {x0 : List Int} {a0_0 : Option Addr} {c0_0 : Nat} {x1 : Int} {x2 : Int} {r : Bool} (h : impl_allWithin x0 x1 x2 = some r) (hv0_0 : SlView W x0 a0_0 c0_0) :
  Gives0 Tryz.prog 128 #[.slice a0_0 x0.length c0_0,.int .i64 x1,.int .i64 x2] W (.bool r):=by
 unfold impl_allWithin at h
 refine en Tryz.func128 Tryz.ntmps128 ?_
 refine qs (qr (oB 3 [(5,.p 1 0),(4,.p 0 0)] [0] [(3,[.int .i64 x1]),(3,[.int .i64 x2])] ?_))
 refine oe (nt (qs (qr (oN 1 [(7,vs a0_0 x0 c0_0)] [5,4] ?_))))
 refine JO_mkfunc rfl (by kernel_rfl) (x:=.f 167 [(0,0),(1,0)]) (by kernel_rfl) rfl ?_
 obtain ⟨a3,a4,a5⟩:=bS h
 refine JO_callD0 rfl (by kernel_rfl) (f:=166) (args:=fun γ=>#[.slice a0_0 x0.length c0_0,.func (.func 167) #[] #[.pointer (some ⟨γ.getD 0 0,0,none⟩),.pointer (some ⟨γ.getD 1 0,0,none⟩)]]) (fun γ=>by kernel_rfl) (x:=.bool a3) (fun γ w hs=>(by have vv:=c_slices_ContainsFunc_int__impl_allWithin_1 (W:=w) a4 (hv0_0.k hs) (hs.boxCells (k:=0) (e:=3) (by kernel_rfl)) (hs.boxCells (k:=1) (e:=3) (by kernel_rfl)); exact vv)) rfl ?_
 refine oN 2 [(6,vb (!a3))] [] ?_
 refine oe (nt (qe ?_))
 obtain rfl:=sI a5
 exact re [.bool (!a3)]
theorem c_impl_OfficeOk {W : World} {x0 : Office} {b0 : AC × AC × AC × AC × AC × AC} {r : Bool} (h : impl_OfficeOk x0 = some r) (hv0_0 : SlView W x0.Case.Book.Rules b0.1.1 b0.1.2) (hv0_1 : SlView W x0.Case.Store.Facts b0.2.1.1 b0.2.1.2) (hv0_2 : SlView W x0.Case.Series.Points b0.2.2.1.1 b0.2.2.1.2) (hv0_3 : SlView W x0.Case.Member.Spells b0.2.2.2.1.1 b0.2.2.2.1.2) (hv0_4 : SlView W x0.Case.Member.Events b0.2.2.2.2.1.1 b0.2.2.2.2.1.2) (hv0_5 : SlView W x0.Paid b0.2.2.2.2.2.1 b0.2.2.2.2.2.2) :
  Gives0 Tryz.prog 80 #[vOffice x0 b0] W (.bool r):=by
 unfold impl_OfficeOk at h
 refine en Tryz.func80 Tryz.ntmps80 ?_
 refine qs (qr (oB 2 [(1,.p 0 0)] [] [(57,(eOffice x0 b0))] ?_))
 refine oe (nt (qs ?_))
 obtain ⟨a3,a4,a5⟩:=bS h
 refine JC_cut (τ:=Unit) (fun _=>[(2,vb a3)]) (fun _=>[(57,(eOffice x0 b0))]) (fun _=>[]) ?_ (fun _=>?_)
 ·refine qr (oN 2 [(4,.v (vCase x0.Case (b0.1,b0.2.1,b0.2.2.1,b0.2.2.2.1,b0.2.2.2.2.1)))] [1] ?_)
  obtain ⟨a6,a7,a8⟩:=bS a4
  refine k0 (fun _ w hs=>c_impl_CaseOk (b0:=(b0.1,b0.2.1,b0.2.2.1,b0.2.2.2.1,b0.2.2.2.2.1)) a7 (hv0_0.k hs) (hv0_1.k hs) (hv0_2.k hs) (hv0_3.k hs) (hv0_4.k hs)) ?_
  refine oN 1 [(6,vb a6)] [1] ?_
  refine oS 6 a8 (fun a9=>?_) (fun aa=>?_)
  ·refine oN 2 [(8,vi x0.Start)] [6,1] ?_
   obtain ⟨ab,ac,ae⟩:=bS a9
   refine k0 (fun _ w hs=>c_impl_MonthOk ac) ?_
   refine oN 2 [(11,vb ab)] [1] ?_
   refine oS 11 ae (fun af=>?_) (fun ag=>?_)
   ·refine oN 1 [(12,.v (vOffice x0 b0))] [11,1] ?_
    obtain ⟨av,ah,ai⟩:=bS af
    refine k0 (fun _ w hs=>c_impl_now (b0:=b0) ah (hv0_0.k hs) (hv0_1.k hs) (hv0_2.k hs) (hv0_3.k hs) (hv0_4.k hs) (hv0_5.k hs)) ?_
    obtain ⟨aj,ak,al⟩:=bS ai
    refine k0 (fun _ w hs=>c_impl_MonthOk ak) ?_
    refine oN 2 [(16,vb aj)] [1] ?_
    refine oS 16 al (fun am=>?_) (fun an=>?_)
    ·refine oN 6 [(22,vb (decide ((x0.Paid.length : Int) ≤ 240)))] [1] ?_
     refine oS 22 am (fun ao=>?_) (fun ap=>?_)
     ·refine oN 2 [(24,sv b0.2.2.2.2.2 x0.Paid)] [22] ?_
      obtain ⟨aq,ar,au⟩:=bS ao
      refine k0 (fun _ w hs=>c_impl_allWithin ar (hv0_5.k hs)) ?_
      refine oN 2 [(2,vb aq)] [] ?_
      refine oe ?_
      obtain rfl:=sI au
      exact mt () [2] [] 1
     refine oN 5 [(2,vb false)] [] ?_
     refine oe ?_
     obtain rfl:=sI ap
     exact mt () [2] [] 1
    refine oN 11 [(2,vb false)] [] ?_
    refine oe ?_
    obtain rfl:=sI an
    exact mt () [2] [] 1
   refine oN 16 [(2,vb false)] [] ?_
   refine oe ?_
   obtain rfl:=sI ag
   exact mt () [2] [] 1
  refine oN 21 [(2,vb false)] [] ?_
  refine oe ?_
  obtain rfl:=sI aa
  exact mt () [2] [] 1
 refine nt (qe ?_)
 obtain rfl:=sI a5
 exact re [.bool a3]
theorem c_impl_OfficeNew {W : World} {x0 : Case} {b0 : AC × AC × AC × AC × AC} {x1 : Int} {r : Office × Bool} (h : impl_OfficeNew x0 x1 = some r) (hv0_0 : SlView W x0.Book.Rules b0.1.1 b0.1.2) (hv0_1 : SlView W x0.Store.Facts b0.2.1.1 b0.2.1.2) (hv0_2 : SlView W x0.Series.Points b0.2.2.1.1 b0.2.2.1.2) (hv0_3 : SlView W x0.Member.Spells b0.2.2.2.1.1 b0.2.2.2.1.2) (hv0_4 : SlView W x0.Member.Events b0.2.2.2.2.1 b0.2.2.2.2.2) :
  Gives Tryz.prog 43 #[vCase x0 b0,.int .i64 x1] W (fun y : AC × AC × AC × AC × AC × AC=>.tuple #[vOffice r.1 y,.bool r.2]) (fun y=>(rOffice r.1 y)):=by
 unfold impl_OfficeNew at h
 refine en Tryz.func43 Tryz.ntmps43 ?_
 refine qs (qr (oB 3 [(4,.p 1 0),(2,.p 0 0)] [1] [(54,(eCase x0 b0)),(57,[.slice none 0 0,.slice none 0 0,.slice none 0 0,.int .i64 0,.int .i64 0,.slice none 0 0,.slice none 0 0,.int .i64 0,.slice none 0 0])] ?_))
 refine oe (nt (qs (qr (oN 1 [(7,.v (vCase x0 b0))] [4,1] ?_))))
 obtain ⟨a4,a5,a6⟩:=bS h
 refine k1 (fun _ w hs=>c_impl_copyCase (b0:=b0) a5 (hv0_0.k hs) (hv0_1.k hs) (hv0_2.k hs) (hv0_3.k hs) (hv0_4.k hs)) (fun a3=>?_)
 refine oB 4 [(6,.p 2 0)] [4] [(54,(eCase x0 b0)),(57,[.slice none 0 0,.slice none 0 0,.slice none 0 0,.int .i64 0,.int .i64 0,.slice none 0 0,.slice none 0 0,.int .i64 0,.slice none 0 0]),(57,(eOffice (Office.mk a4 x1 ([] : List Int)) (a3.1,a3.2.1,a3.2.2.1,a3.2.2.2.1,a3.2.2.2.2,(none,0))))] ?_
 refine oe (nt (qs (qs (qr (oN 1 [(11,.v (vOffice (Office.mk a4 x1 ([] : List Int)) (a3.1,a3.2.1,a3.2.2.1,a3.2.2.2.1,a3.2.2.2.2,(none,0))))] [6,4] ?_)))))
 obtain ⟨a7,a8,a9⟩:=bS a6
 refine k0 (fun _ w hs=>c_impl_OfficeOk (b0:=(a3.1,a3.2.1,a3.2.2.1,a3.2.2.2.1,a3.2.2.2.2,(none,0))) a8 (hs.view 0 rfl) (hs.view 1 rfl) (hs.view 2 rfl) (hs.view 3 rfl) (hs.view 4 rfl) (SlView.ofNil _)) ?_
 refine oN 1 [(13,vb (!a7))] [6,4] ?_
 refine oe (nt (cC a9 (fun aa=>?_) (fun ab=>?_)))
 ·refine qs (qr (oN 3 [(5,vb false)] [4] ?_))
  refine oe (nt (qe (nr (JE_addnil 188 (List.nil (α:=Rule)) rfl ?_))))
  refine JE_addnil 84 (List.nil (α:=Fact)) rfl ?_
  refine JE_addnil 85 (List.nil (α:=Point)) rfl ?_
  refine JE_addnil 191 (List.nil (α:=Spell)) rfl ?_
  refine JE_addnil 195 (List.nil (α:=Event)) rfl ?_
  refine JE_addnil 3 (List.nil (α:=Int)) rfl ?_
  refine rt [.agg #[.slice none 0 0,.slice none 0 0,.slice none 0 0,.int .i64 0,.int .i64 0,.slice none 0 0,.slice none 0 0,.int .i64 0,.slice none 0 0],.bool false] (fun _ w hs=>?_)
  rw [← sI aa]
  exact ⟨((none,0),(none,0),(none,0),(none,0),(none,0),(none,0)),rfl,hs.kept.toBelow,(hs.takeR (is:=[5,4,3,2,1,0]) rfl).fresh⟩
 refine qk (nt (qs (qr (oB 3 [(5,vb true)] [4] [(54,(eCase x0 b0)),(57,(eOffice (Office.mk a4 x1 ([] : List Int)) (a3.1,a3.2.1,a3.2.2.1,a3.2.2.2.1,a3.2.2.2.2,(none,0)))),(57,(eOffice (Office.mk a4 x1 ([] : List Int)) (a3.1,a3.2.1,a3.2.2.1,a3.2.2.2.1,a3.2.2.2.2,(none,0))))] ?_))))
 refine oe (nt (qe (JE_addnil 3 (List.nil (α:=Int)) rfl ?_)))
 refine rt [vOffice (Office.mk a4 x1 ([] : List Int)) (a3.1,a3.2.1,a3.2.2.1,a3.2.2.2.1,a3.2.2.2.2,(none,0)),.bool true] (fun _ w hs=>?_)
 rw [← sI ab]
 exact ⟨(a3.1,a3.2.1,a3.2.2.1,a3.2.2.2.1,a3.2.2.2.2,(none,0)),rfl,hs.kept.toBelow,(hs.takeR (is:=[1,1,1,1,1,0]) rfl).fresh⟩
theorem c_slices_Clone_int {W : World} {x0 : List Int} {a0_0 : Option Addr} {c0_0 : Nat} {r : (List Int)} (h : slices_Clone_int x0 = some r) (hv0_0 : SlView W x0 a0_0 c0_0) :
  Gives Tryz.prog 125 #[.slice a0_0 x0.length c0_0] W (fun y : AC=>.slice y.1 r.length y.2) (fun y=>[SlRes 3 r y.1 y.2]):=by
 unfold slices_Clone_int at h
 refine en Tryz.func125 Tryz.ntmps125 ?_
 refine qs (qr (oN 1 [] [0] ?_))
 refine oe (nt (qs (qs (qr (oN 1 [(3,vs a0_0 x0 c0_0)] [0] ?_)))))
 rcases a0_0 with _ | a5
 ·obtain rfl:=hv0_0.nil rfl
  obtain rfl:=hv0_0.nilE
  have a6 : (some ([] : List Int)) = some r:=h
  refine oN 1 [(4,vb true)] [0] ?_
  refine oe (nt (JC_cond true (by kernel_rfl) (fun _=>?_) (fun hb=>by cases hb)))
  refine qs (qr (oN 1 [(2,.v (.slice none 0 0))] [] ?_))
  refine oe (nt (qe (nr (JE_addnil 3 (List.nil (α:=Int)) rfl ?_))))
  refine rt [.slice none 0 0] (fun _ w hs=>?_)
  rw [← sI a6]
  exact ⟨(none,0),rfl,hs.kept.toBelow,(hs.takeR (is:=[0]) rfl).fresh⟩
 refine oN 1 [(4,vb false)] [0] ?_
 refine oe (nt (JC_cond false (by kernel_rfl) (fun hb=>by cases hb) (fun _=>?_)))
 refine qk (nt (qs (qr (ob [] [] 3 0 [] ([] : List Int) (own_flat (by kernel_rfl)) (fun a9=>?_)))))
 refine oN 1 [(6,vs (some a5) x0 c0_0)] [5] ?_
 obtain ⟨a4,a7,a8⟩:=bS h
 refine oa 55 c0_0 Tryz.t3 (.int .i64 0) (fun _ w hs=>⟨c0_0,(hv0_0.k hs)⟩) a7 (fun a3=>?_)
 refine oN 1 [(2,sv a3 a4)] [] ?_
 refine oe (nt (qe (rt [.slice a3.1 a4.length a3.2] (fun _ w hs=>?_))))
 rw [← sI a8]
 exact ⟨a3,rfl,hs.kept.toBelow,(hs.takeR (is:=[0]) rfl).fresh⟩
theorem c_impl_copyOffice {W : World} {x0 : Office} {b0 : AC × AC × AC × AC × AC × AC} {r : Office} (h : impl_copyOffice x0 = some r) (hv0_0 : SlView W x0.Case.Book.Rules b0.1.1 b0.1.2) (hv0_1 : SlView W x0.Case.Store.Facts b0.2.1.1 b0.2.1.2) (hv0_2 : SlView W x0.Case.Series.Points b0.2.2.1.1 b0.2.2.1.2) (hv0_3 : SlView W x0.Case.Member.Spells b0.2.2.2.1.1 b0.2.2.2.1.2) (hv0_4 : SlView W x0.Case.Member.Events b0.2.2.2.2.1.1 b0.2.2.2.2.1.2) (hv0_5 : SlView W x0.Paid b0.2.2.2.2.2.1 b0.2.2.2.2.2.2) :
  Gives Tryz.prog 79 #[vOffice x0 b0] W (fun y : AC × AC × AC × AC × AC × AC=>vOffice r y) (fun y=>(rOffice r y)):=by
 unfold impl_copyOffice at h
 refine en Tryz.func79 Tryz.ntmps79 ?_
 refine qs (qr (oB 2 [(2,.p 1 0),(1,.p 0 0)] [] [(57,(eOffice x0 b0)),(57,[.slice none 0 0,.slice none 0 0,.slice none 0 0,.int .i64 0,.int .i64 0,.slice none 0 0,.slice none 0 0,.int .i64 0,.slice none 0 0])] ?_))
 refine oe (nt (qs ?_))
 obtain ⟨a5,a8,a9⟩:=bS h
 obtain ⟨a6,aa,ab⟩:=bS a9
 refine JC_cut (τ:=(AC × AC × AC × AC × AC) × AC) (fun a3=>[(2,.p 1 0)]) (fun a3=>[(57,(eOffice x0 b0)),(57,(eOffice (Office.mk a5 x0.Start a6) (a3.1.1,a3.1.2.1,a3.1.2.2.1,a3.1.2.2.2.1,a3.1.2.2.2.2,a3.2)))]) (fun a3=>([SlRes 3 a6 a3.2.1 a3.2.2] ++ rCase2 a5 a3.1)) ?_ (fun a3=>?_)
 ·refine jw [2,1] [] ?_
  refine JC_heldN (ks:=[0]) (Rk:=[]) 10 (by kernel_rfl) (by kernel_rfl) ?_
  refine htq 0 (.p 0 0) [] ?_
  refine htq 1 (.v (vCase x0.Case (b0.1,b0.2.1,b0.2.2.1,b0.2.2.2.1,b0.2.2.2.2.1))) [] ?_
  refine hk [4,2,1] ?_
  refine htq 3 (.p 0 7) [] ?_
  refine htq 4 (vi x0.Start) [] ?_
  refine hk [7,4,2,1] ?_
  refine htq 5 (.p 0 8) [] ?_
  refine hk [8,7,4,2] ?_
  refine htq 6 (sv b0.2.2.2.2.2 x0.Paid) [] ?_
  refine hk [9,7,4,2] ?_
  refine ha1 2 ?_
  refine hi (fun γ0 δ hm=>?_)
  refine g1 (fun w hs=>c_impl_copyCase (b0:=(b0.1,b0.2.1,b0.2.2.1,b0.2.2.2.1,b0.2.2.2.2.1)) a8 (hv0_0.k hs) (hv0_1.k hs) (hv0_2.k hs) (hv0_3.k hs) (hv0_4.k hs)) (fun a4=>?_)
  refine gn hm [5,9,7,2] [] ?_
  refine ha1 7 ?_
  refine hi (fun γ0 δ hm=>?_)
  refine g1 (fun w hs=>c_slices_Clone_int aa (hv0_5.k hs)) (fun a7=>?_)
  refine gn hm [10,5,7,2] [] ?_
  refine htq 8 (.v (vOffice (Office.mk a5 x0.Start a6) (a4.1,a4.2.1,a4.2.2.1,a4.2.2.2.1,a4.2.2.2.2,a7))) [] ?_
  refine hk [11,2] ?_
  refine ha1 9 ?_
  refine hi (fun γ0 δ hm=>?_)
  refine gs [(11,.v (vOffice (Office.mk a5 x0.Start a6) (a4.1,a4.2.1,a4.2.2.1,a4.2.2.2.1,a4.2.2.2.2,a7))),(2,.p 1 0)] [(57,(eOffice x0 b0)),(57,(eOffice (Office.mk a5 x0.Start a6) (a4.1,a4.2.1,a4.2.2.1,a4.2.2.2.1,a4.2.2.2.2,a7)))] (fun δ2=>?_)
  refine gd hm [2] [] ?_
  exact hd (a4,a7) [2] [0,0,0,0,0,0] 2
 refine nt (qe (rt [vOffice (Office.mk a5 x0.Start a6) (a3.1.1,a3.1.2.1,a3.1.2.2.1,a3.1.2.2.2.1,a3.1.2.2.2.2,a3.2)] (fun γ w hs=>?_)))
 rw [← sI ab]
 exact ⟨(a3.1.1,a3.1.2.1,a3.1.2.2.1,a3.1.2.2.2.1,a3.1.2.2.2.2,a3.2),rfl,hs.kept.toBelow,(hs.takeR (is:=[1,1,1,1,1,0]) rfl).fresh⟩
theorem c_impl_ActOk {W : World} {x0 : Act} {r : Bool} (h : impl_ActOk x0 = some r)  :
  Gives0 Tryz.prog 81 #[vAct x0] W (.bool r):=by
 unfold impl_ActOk at h
 refine en Tryz.func81 Tryz.ntmps81 ?_
 refine qs (qr (oB 2 [(1,.p 0 0)] [] [(87,(eAct x0))] ?_))
 refine oe (nt (qs (qr (oB 5 [(3,.p 1 0)] [1] [(87,(eAct x0)),(87,(eAct (Act.mk x0.Kind (Fact.mk 0 0 0 0 0) (Point.mk 0 0 0) 0)))] ?_))))
 refine oe (nt (qs (qs (qr (oN 2 [(8,vi x0.Kind)] [3,1] ?_)))))
 refine oe (nt (qb (qs (qr (oN 2 [(9,vb (x0.Kind == 1))] [8,3,1] ?_)))))
 refine oe (nt ?_)
 obtain ⟨a5,a6,a7⟩:=jS h
 refine JC_cutP (τ:=(Int × Int × Int × Int × Int × Int × Int × Int × Int) × (Unit)) (fun y=>a5 y.1 = some r) (fun a3=>[(3,.p 1 0),(1,.p 0 0)]) (fun a3=>[(87,(eAct x0)),(87,(eAct (Act.mk x0.Kind (Fact.mk a3.1.1 a3.1.2.1 a3.1.2.2.1 a3.1.2.2.2.1 a3.1.2.2.2.2.1) (Point.mk a3.1.2.2.2.2.2.1 a3.1.2.2.2.2.2.2.1 a3.1.2.2.2.2.2.2.2.1) a3.1.2.2.2.2.2.2.2.2)))]) (fun a3=>[]) ?_ (fun a3 a8=>?_)
 ·refine cC a7 (fun a9=>?_) (fun aa=>?_)
  ·refine qr (oB 4 [] [3,1] [(87,(eAct x0)),(87,(eAct (Act.mk x0.Kind x0.Fact (Point.mk 0 0 0) 0)))] ?_)
   exact oe (mp ((x0.Fact.Key,x0.Fact.From,x0.Fact.To,x0.Fact.Known,x0.Fact.Value,0,0,0,0),()) a9 [3,1] [] 2)
  refine qs (qr (oN 2 [(14,vb (x0.Kind == 2))] [8,3,1] ?_))
  refine oe (nt (cC aa (fun ab=>?_) (fun ac=>?_)))
  ·refine qr (oB 4 [] [3,1] [(87,(eAct x0)),(87,(eAct (Act.mk x0.Kind (Fact.mk 0 0 0 0 0) x0.Point 0)))] ?_)
   exact oe (mp ((0,0,0,0,0,x0.Point.Month,x0.Point.Known,x0.Point.Value,0),()) ab [3,1] [] 2)
  refine qs (qr (oN 2 [(19,vb (x0.Kind == 3))] [3,1] ?_))
  refine oe (nt (cC ac (fun ae=>?_) (fun af=>?_)))
  ·refine qs (qr (oB 4 [] [3,1] [(87,(eAct x0)),(87,(eAct (Act.mk x0.Kind (Fact.mk 0 0 0 0 0) (Point.mk 0 0 0) x0.N)))] ?_))
   refine oe (nt (qs (qr (oN 2 [(25,vi x0.N)] [3,1] ?_))))
   obtain ⟨ag,ah,ai⟩:=bS ae
   refine k0 (fun _ w hs=>c_impl_within ah) ?_
   refine oN 1 [(27,vb (!ag))] [3,1] ?_
   refine oe (nt (cC ai (fun aj=>?_) (fun ak=>?_)))
   ·refine qs (qr (oN 1 [(2,vb false)] [] ?_))
    refine oe (nt (qe (nr (br (nr ?_)))))
    obtain rfl:=sI aj
    exact re [.bool false]
   exact qk (mp ((0,0,0,0,0,0,0,0,x0.N),()) ak [3,1] [] 2)
  refine qs (qr (oN 1 [(2,vb false)] [] ?_))
  refine oe (nt (qe (nr (br (nr ?_)))))
  obtain rfl:=sI af
  exact re [.bool false]
 have al:=(congrFun a6 _).symm.trans a8
 refine bn (nt (qs ?_))
 obtain ⟨a4,am,an⟩:=bS al
 refine JC_cut (τ:=Unit) (fun _=>[(2,vb a4)]) (fun _=>[(87,(eAct x0)),(87,(eAct (Act.mk x0.Kind (Fact.mk a3.1.1 a3.1.2.1 a3.1.2.2.1 a3.1.2.2.2.1 a3.1.2.2.2.2.1) (Point.mk a3.1.2.2.2.2.2.1 a3.1.2.2.2.2.2.2.1 a3.1.2.2.2.2.2.2.2.1) a3.1.2.2.2.2.2.2.2.2)))]) (fun _=>[]) ?_ (fun _=>?_)
 ·refine qr (oN 4 [(31,vb ((x0.Kind == x0.Kind) && (((x0.Fact.Key == a3.1.1) && ((x0.Fact.From == a3.1.2.1) && ((x0.Fact.To == a3.1.2.2.1) && ((x0.Fact.Known == a3.1.2.2.2.1) && ((x0.Fact.Value == a3.1.2.2.2.2.1) && true))))) && (((x0.Point.Month == a3.1.2.2.2.2.2.1) && ((x0.Point.Known == a3.1.2.2.2.2.2.2.1) && ((x0.Point.Value == a3.1.2.2.2.2.2.2.2.1) && true))) && ((x0.N == a3.1.2.2.2.2.2.2.2.2) && true)))))] [1] ?_)
  refine oS 31 am (fun ao=>?_) (fun ap=>?_)
  ·refine oN 6 [(37,vb (x0.Fact.Known == 0))] [1] ?_
   refine oS 37 ao (fun aq=>?_) (fun ar=>?_)
   ·refine oN 6 [(2,vb (x0.Point.Known == 0))] [] ?_
    refine oe ?_
    obtain rfl:=sI aq
    exact mt () [2] [] 2
   refine oN 6 [(2,vb false)] [] ?_
   refine oe ?_
   obtain rfl:=sI ar
   exact mt () [2] [] 2
  refine oN 12 [(2,vb false)] [] ?_
  refine oe ?_
  obtain rfl:=sI ap
  exact mt () [2] [] 2
 refine nt (qe ?_)
 obtain rfl:=sI an
 exact re [.bool a4]
theorem c_impl_AddFact {W : World} {x0 : Store} {a0_0 : Option Addr} {c0_0 : Nat} {x1 : Fact} {r : Store × Bool} (h : impl_AddFact x0 x1 = some r) (hv0_0 : SlView W x0.Facts a0_0 c0_0) :
  Gives Tryz.prog 85 #[vStore x0 (a0_0,c0_0),vFact x1] W (fun y : AC=>.tuple #[vStore r.1 y,.bool r.2]) (fun y=>[SlRes 84 r.1.Facts y.1 y.2]):=by
 unfold impl_AddFact at h
 refine en Tryz.func85 Tryz.ntmps85 ?_
 refine qs (qr (oB 4 [(4,.p 2 0),(3,.p 1 0),(2,.p 0 0)] [] [(45,(eStore x0 (a0_0,c0_0))),(84,(eFact x1)),(45,[.slice none 0 0])] ?_))
 refine oe (nt (qs ?_))
 obtain ⟨a9,aa,ae⟩:=bS h
 obtain ⟨a4,a8,af⟩:=bS ae
 refine JC_cut (τ:=AC) (fun a6=>[(6,.p 3 0),(4,.p 2 0),(2,.p 0 0)]) (fun a6=>[(45,(eStore x0 (a0_0,c0_0))),(84,(eFact x1)),(45,[.slice none 0 0]),(45,(eStore (Store.mk a4) a6))]) (fun a6=>[SlRes 84 a4 a6.1 a6.2]) ?_ (fun a6=>?_)
 ·refine jw [4,3,2] [] ?_
  refine JC_heldN (ks:=[0,1,2]) (Rk:=[]) 9 (by kernel_rfl) (by kernel_rfl) ?_
  refine htq 0 (.p 0 0) [] ?_
  refine htq 1 (vs a0_0 x0.Facts c0_0) [] ?_
  refine hk [8,4,3,2] ?_
  refine htq 3 (.v (vFact x1)) [] ?_
  refine hk [10,8,4,2] ?_
  refine ha3 2 4 7 ?_ ?_ ?_
  ·refine hi (fun γ0 δ hm=>?_)
   refine g1 (fun w hs=>c_slices_Clone_Fact aa (hv0_0.k hs)) (fun a7=>?_)
   refine gn hm [9,10,4,2] [] ?_
   refine ha2 4 7 ?_ ?_
   ·refine hi (fun γ0 δ hm=>?_)
    refine gb [] [SlRes 84 a9 a7.1 a7.2] 84 1 [.int .i64 x1.Key,.int .i64 x1.From,.int .i64 x1.To,.int .i64 x1.Known,.int .i64 x1.Value] ([x1] : List Fact) (own_flat (by kernel_rfl)) (fun a5=>?_)
    refine gn hm [11,9,4,2] [] ?_
    refine ha2 5 7 ?_ ?_
    ·refine hr_ [1,0] ?_
     refine hi (fun γ0 δ hm=>?_)
     refine ga 43 a5.2 Tryz.t84 (vFact (Fact.mk 0 0 0 0 0)) (fun w hs=>⟨a5.2,(hs.view 1 rfl)⟩) a8 (fun a3=>?_)
     refine gn hm [12,4,2] [] ?_
     refine htq 6 (.v (vStore (Store.mk a4) a3)) [] ?_
     refine hk [13,4,2] ?_
     refine ha1 7 ?_
     refine hi (fun γ0 δ hm=>?_)
     refine gs [(6,.p 3 0),(13,.v (vStore (Store.mk a4) a3)),(4,.p 2 0),(2,.p 0 0)] [(45,(eStore x0 (a0_0,c0_0))),(84,(eFact x1)),(45,[.slice none 0 0]),(45,[.slice none 0 0])] (fun δ2=>?_)
     refine gd hm [6,13,4,2] [] ?_
     refine ha1 8 ?_
     refine hi (fun γ0 δ hm=>?_)
     refine gs [(6,.p 3 0),(13,.v (vStore (Store.mk a4) a3)),(4,.p 2 0),(2,.p 0 0)] [(45,(eStore x0 (a0_0,c0_0))),(84,(eFact x1)),(45,[.slice none 0 0]),(45,(eStore (Store.mk a4) a3))] (fun δ2=>?_)
     refine gd hm [6,4,2] [] ?_
     exact hd a3 [6,4,2] [0] 4
    ·refine hi (fun γ0 δ hm=>?_)
     refine gs [(6,.p 3 0),(11,sv a5 ([x1] : List Fact)),(9,sv a7 a9),(4,.p 2 0),(2,.p 0 0)] [(45,(eStore x0 (a0_0,c0_0))),(84,(eFact x1)),(45,[.slice none 0 0]),(45,[.slice none 0 0])] (fun δ2=>?_)
     refine gd hm [6,11,9,4,2] [] ?_
     refine ha1 5 ?_
     refine hr_ [1,0] ?_
     refine hi (fun γ0 δ hm=>?_)
     refine ga 43 a5.2 Tryz.t84 (vFact (Fact.mk 0 0 0 0 0)) (fun w hs=>⟨a5.2,(hs.view 1 rfl)⟩) a8 (fun a3=>?_)
     refine gn hm [12,6,4,2] [] ?_
     refine htq 6 (.v (vStore (Store.mk a4) a3)) [] ?_
     refine hk [13,6,4,2] ?_
     refine ha1 8 ?_
     refine hi (fun γ0 δ hm=>?_)
     refine gs [(13,.v (vStore (Store.mk a4) a3)),(6,.p 3 0),(4,.p 2 0),(2,.p 0 0)] [(45,(eStore x0 (a0_0,c0_0))),(84,(eFact x1)),(45,[.slice none 0 0]),(45,(eStore (Store.mk a4) a3))] (fun δ2=>?_)
     refine gd hm [6,4,2] [] ?_
     exact hd a3 [6,4,2] [0] 4
   ·refine hi (fun γ0 δ hm=>?_)
    refine gs [(6,.p 3 0),(9,sv a7 a9),(10,.v (vFact x1)),(4,.p 2 0),(2,.p 0 0)] [(45,(eStore x0 (a0_0,c0_0))),(84,(eFact x1)),(45,[.slice none 0 0]),(45,[.slice none 0 0])] (fun δ2=>?_)
    refine gd hm [6,9,10,4,2] [] ?_
    refine ha1 4 ?_
    refine hi (fun γ0 δ hm=>?_)
    refine gb [] [SlRes 84 a9 a7.1 a7.2] 84 1 [.int .i64 x1.Key,.int .i64 x1.From,.int .i64 x1.To,.int .i64 x1.Known,.int .i64 x1.Value] ([x1] : List Fact) (own_flat (by kernel_rfl)) (fun a5=>?_)
    refine gn hm [11,6,9,4,2] [] ?_
    refine ha1 5 ?_
    refine hr_ [1,0] ?_
    refine hi (fun γ0 δ hm=>?_)
    refine ga 43 a5.2 Tryz.t84 (vFact (Fact.mk 0 0 0 0 0)) (fun w hs=>⟨a5.2,(hs.view 1 rfl)⟩) a8 (fun a3=>?_)
    refine gn hm [12,6,4,2] [] ?_
    refine htq 6 (.v (vStore (Store.mk a4) a3)) [] ?_
    refine hk [13,6,4,2] ?_
    refine ha1 8 ?_
    refine hi (fun γ0 δ hm=>?_)
    refine gs [(13,.v (vStore (Store.mk a4) a3)),(6,.p 3 0),(4,.p 2 0),(2,.p 0 0)] [(45,(eStore x0 (a0_0,c0_0))),(84,(eFact x1)),(45,[.slice none 0 0]),(45,(eStore (Store.mk a4) a3))] (fun δ2=>?_)
    refine gd hm [6,4,2] [] ?_
    exact hd a3 [6,4,2] [0] 4
  ·refine hi (fun γ0 δ hm=>?_)
   refine gb [] [] 84 1 [.int .i64 x1.Key,.int .i64 x1.From,.int .i64 x1.To,.int .i64 x1.Known,.int .i64 x1.Value] ([x1] : List Fact) (own_flat (by kernel_rfl)) (fun a5=>?_)
   refine gn hm [11,8,4,2] [] ?_
   refine ha2 2 7 ?_ ?_
   ·refine hi (fun γ0 δ hm=>?_)
    refine g1 (fun w hs=>c_slices_Clone_Fact aa (hv0_0.k hs)) (fun a7=>?_)
    refine gn hm [9,11,4,2] [] ?_
    refine ha2 5 7 ?_ ?_
    ·refine hi (fun γ0 δ hm=>?_)
     refine ga 43 a5.2 Tryz.t84 (vFact (Fact.mk 0 0 0 0 0)) (fun w hs=>⟨a5.2,(hs.view 1 rfl)⟩) a8 (fun a3=>?_)
     refine gn hm [12,4,2] [] ?_
     refine htq 6 (.v (vStore (Store.mk a4) a3)) [] ?_
     refine hk [13,4,2] ?_
     refine ha1 7 ?_
     refine hi (fun γ0 δ hm=>?_)
     refine gs [(6,.p 3 0),(13,.v (vStore (Store.mk a4) a3)),(4,.p 2 0),(2,.p 0 0)] [(45,(eStore x0 (a0_0,c0_0))),(84,(eFact x1)),(45,[.slice none 0 0]),(45,[.slice none 0 0])] (fun δ2=>?_)
     refine gd hm [6,13,4,2] [] ?_
     refine ha1 8 ?_
     refine hi (fun γ0 δ hm=>?_)
     refine gs [(6,.p 3 0),(13,.v (vStore (Store.mk a4) a3)),(4,.p 2 0),(2,.p 0 0)] [(45,(eStore x0 (a0_0,c0_0))),(84,(eFact x1)),(45,[.slice none 0 0]),(45,(eStore (Store.mk a4) a3))] (fun δ2=>?_)
     refine gd hm [6,4,2] [] ?_
     exact hd a3 [6,4,2] [0] 4
    ·refine hi (fun γ0 δ hm=>?_)
     refine gs [(6,.p 3 0),(9,sv a7 a9),(11,sv a5 ([x1] : List Fact)),(4,.p 2 0),(2,.p 0 0)] [(45,(eStore x0 (a0_0,c0_0))),(84,(eFact x1)),(45,[.slice none 0 0]),(45,[.slice none 0 0])] (fun δ2=>?_)
     refine gd hm [6,9,11,4,2] [] ?_
     refine ha1 5 ?_
     refine hi (fun γ0 δ hm=>?_)
     refine ga 43 a5.2 Tryz.t84 (vFact (Fact.mk 0 0 0 0 0)) (fun w hs=>⟨a5.2,(hs.view 1 rfl)⟩) a8 (fun a3=>?_)
     refine gn hm [12,6,4,2] [] ?_
     refine htq 6 (.v (vStore (Store.mk a4) a3)) [] ?_
     refine hk [13,6,4,2] ?_
     refine ha1 8 ?_
     refine hi (fun γ0 δ hm=>?_)
     refine gs [(13,.v (vStore (Store.mk a4) a3)),(6,.p 3 0),(4,.p 2 0),(2,.p 0 0)] [(45,(eStore x0 (a0_0,c0_0))),(84,(eFact x1)),(45,[.slice none 0 0]),(45,(eStore (Store.mk a4) a3))] (fun δ2=>?_)
     refine gd hm [6,4,2] [] ?_
     exact hd a3 [6,4,2] [0] 4
   ·refine hi (fun γ0 δ hm=>?_)
    refine gs [(6,.p 3 0),(11,sv a5 ([x1] : List Fact)),(8,vs a0_0 x0.Facts c0_0),(4,.p 2 0),(2,.p 0 0)] [(45,(eStore x0 (a0_0,c0_0))),(84,(eFact x1)),(45,[.slice none 0 0]),(45,[.slice none 0 0])] (fun δ2=>?_)
    refine gd hm [6,11,8,4,2] [] ?_
    refine ha1 2 ?_
    refine hi (fun γ0 δ hm=>?_)
    refine g1 (fun w hs=>c_slices_Clone_Fact aa (hv0_0.k hs)) (fun a7=>?_)
    refine gn hm [9,6,11,4,2] [] ?_
    refine ha1 5 ?_
    refine hi (fun γ0 δ hm=>?_)
    refine ga 43 a5.2 Tryz.t84 (vFact (Fact.mk 0 0 0 0 0)) (fun w hs=>⟨a5.2,(hs.view 1 rfl)⟩) a8 (fun a3=>?_)
    refine gn hm [12,6,4,2] [] ?_
    refine htq 6 (.v (vStore (Store.mk a4) a3)) [] ?_
    refine hk [13,6,4,2] ?_
    refine ha1 8 ?_
    refine hi (fun γ0 δ hm=>?_)
    refine gs [(13,.v (vStore (Store.mk a4) a3)),(6,.p 3 0),(4,.p 2 0),(2,.p 0 0)] [(45,(eStore x0 (a0_0,c0_0))),(84,(eFact x1)),(45,[.slice none 0 0]),(45,(eStore (Store.mk a4) a3))] (fun δ2=>?_)
    refine gd hm [6,4,2] [] ?_
    exact hd a3 [6,4,2] [0] 4
  ·refine hi (fun γ0 δ hm=>?_)
   refine gs [(6,.p 3 0),(10,.v (vFact x1)),(8,vs a0_0 x0.Facts c0_0),(4,.p 2 0),(2,.p 0 0)] [(45,(eStore x0 (a0_0,c0_0))),(84,(eFact x1)),(45,[.slice none 0 0]),(45,[.slice none 0 0])] (fun δ2=>?_)
   refine gd hm [6,10,8,4,2] [] ?_
   refine ha2 2 4 ?_ ?_
   ·refine hi (fun γ0 δ hm=>?_)
    refine g1 (fun w hs=>c_slices_Clone_Fact aa (hv0_0.k hs)) (fun a7=>?_)
    refine gn hm [9,6,10,4,2] [] ?_
    refine ha1 4 ?_
    refine hi (fun γ0 δ hm=>?_)
    refine gb [] [SlRes 84 a9 a7.1 a7.2] 84 1 [.int .i64 x1.Key,.int .i64 x1.From,.int .i64 x1.To,.int .i64 x1.Known,.int .i64 x1.Value] ([x1] : List Fact) (own_flat (by kernel_rfl)) (fun a5=>?_)
    refine gn hm [11,9,6,4,2] [] ?_
    refine ha1 5 ?_
    refine hr_ [1,0] ?_
    refine hi (fun γ0 δ hm=>?_)
    refine ga 43 a5.2 Tryz.t84 (vFact (Fact.mk 0 0 0 0 0)) (fun w hs=>⟨a5.2,(hs.view 1 rfl)⟩) a8 (fun a3=>?_)
    refine gn hm [12,6,4,2] [] ?_
    refine htq 6 (.v (vStore (Store.mk a4) a3)) [] ?_
    refine hk [13,6,4,2] ?_
    refine ha1 8 ?_
    refine hi (fun γ0 δ hm=>?_)
    refine gs [(13,.v (vStore (Store.mk a4) a3)),(6,.p 3 0),(4,.p 2 0),(2,.p 0 0)] [(45,(eStore x0 (a0_0,c0_0))),(84,(eFact x1)),(45,[.slice none 0 0]),(45,(eStore (Store.mk a4) a3))] (fun δ2=>?_)
    refine gd hm [6,4,2] [] ?_
    exact hd a3 [6,4,2] [0] 4
   ·refine hi (fun γ0 δ hm=>?_)
    refine gb [] [] 84 1 [.int .i64 x1.Key,.int .i64 x1.From,.int .i64 x1.To,.int .i64 x1.Known,.int .i64 x1.Value] ([x1] : List Fact) (own_flat (by kernel_rfl)) (fun a5=>?_)
    refine gn hm [11,6,8,4,2] [] ?_
    refine ha1 2 ?_
    refine hi (fun γ0 δ hm=>?_)
    refine g1 (fun w hs=>c_slices_Clone_Fact aa (hv0_0.k hs)) (fun a7=>?_)
    refine gn hm [9,11,6,4,2] [] ?_
    refine ha1 5 ?_
    refine hi (fun γ0 δ hm=>?_)
    refine ga 43 a5.2 Tryz.t84 (vFact (Fact.mk 0 0 0 0 0)) (fun w hs=>⟨a5.2,(hs.view 1 rfl)⟩) a8 (fun a3=>?_)
    refine gn hm [12,6,4,2] [] ?_
    refine htq 6 (.v (vStore (Store.mk a4) a3)) [] ?_
    refine hk [13,6,4,2] ?_
    refine ha1 8 ?_
    refine hi (fun γ0 δ hm=>?_)
    refine gs [(13,.v (vStore (Store.mk a4) a3)),(6,.p 3 0),(4,.p 2 0),(2,.p 0 0)] [(45,(eStore x0 (a0_0,c0_0))),(84,(eFact x1)),(45,[.slice none 0 0]),(45,(eStore (Store.mk a4) a3))] (fun δ2=>?_)
    refine gd hm [6,4,2] [] ?_
    exact hd a3 [6,4,2] [0] 4
 refine nt (qs (qs ?_))
 obtain ⟨ag,ah,ai⟩:=bS af
 refine JC_cut (τ:=Unit) (fun _=>[(2,.p 0 0),(4,.p 2 0),(6,.p 3 0),(21,vb ag)]) (fun _=>[(45,(eStore x0 (a0_0,c0_0))),(84,(eFact x1)),(45,[.slice none 0 0]),(45,(eStore (Store.mk a4) a6))]) (fun _=>[SlRes 84 a4 a6.1 a6.2]) ?_ (fun _=>?_)
 ·refine qr (oN 1 [(14,.v (vStore x0 (a0_0,c0_0)))] [6,4,2] ?_)
  obtain ⟨aj,ak,al⟩:=bS ah
  refine k0 (fun γ w hs=>c_impl_StoreOk ak (hv0_0.k hs)) ?_
  refine oN 2 [(17,vb (!aj))] [6,4,2] ?_
  refine oS 17 al (fun am=>?_) (fun an=>?_)
  ·refine oN 4 [(21,vb true)] [6,4,2] ?_
   refine oe ?_
   obtain rfl:=sI am
   exact mt () [2,4,6,21] [0] 4
  refine oN 1 [(18,.v (vStore (Store.mk a4) a6))] [17,6,4,2] ?_
  obtain ⟨ao,ap,aq⟩:=bS an
  refine k0 (fun γ w hs=>c_impl_StoreOk ap (hs.view 0 rfl)) ?_
  refine oN 2 [(21,vb (!ao))] [6,4,2] ?_
  refine oe ?_
  obtain rfl:=sI aq
  exact mt () [2,4,6,21] [0] 4
 refine nt (cC ai (fun ar=>?_) (fun au=>?_))
 ·refine qs (qr (oN 1 [(22,.v (vStore x0 (a0_0,c0_0)))] [4] ?_))
  obtain ⟨ac,av,aw⟩:=bS ar
  refine k1 (fun γ w hs=>c_impl_copyStore av (hv0_0.k hs)) (fun ab=>?_)
  refine oB 2 [(5,vb false)] [4] [(45,(eStore x0 (a0_0,c0_0))),(84,(eFact x1)),(45,(eStore ac ab)),(45,(eStore (Store.mk a4) a6))] ?_
  refine oe (nt (qe (nr (rt [vStore ac ab,.bool false] (fun γ w hs=>?_)))))
  rw [← sI aw]
  exact ⟨ab,rfl,hs.kept.toBelow,(hs.takeR (is:=[0]) rfl).fresh⟩
 refine qk (nt (qs (qr (oB 3 [(5,vb true)] [4] [(45,(eStore x0 (a0_0,c0_0))),(84,(eFact x1)),(45,(eStore (Store.mk a4) a6)),(45,(eStore (Store.mk a4) a6))] ?_))))
 refine oe (nt (qe (rt [vStore (Store.mk a4) a6,.bool true] (fun γ w hs=>?_))))
 rw [← sI au]
 exact ⟨a6,rfl,hs.kept.toBelow,(hs.takeR (is:=[0]) rfl).fresh⟩
theorem c_impl_LearnFact {W : World} {x0 : Office} {b0 : AC × AC × AC × AC × AC × AC} {x1 : Fact} {r : Office × Bool} (h : impl_LearnFact x0 x1 = some r) (hv0_0 : SlView W x0.Case.Book.Rules b0.1.1 b0.1.2) (hv0_1 : SlView W x0.Case.Store.Facts b0.2.1.1 b0.2.1.2) (hv0_2 : SlView W x0.Case.Series.Points b0.2.2.1.1 b0.2.2.1.2) (hv0_3 : SlView W x0.Case.Member.Spells b0.2.2.2.1.1 b0.2.2.2.1.2) (hv0_4 : SlView W x0.Case.Member.Events b0.2.2.2.2.1.1 b0.2.2.2.2.1.2) (hv0_5 : SlView W x0.Paid b0.2.2.2.2.2.1 b0.2.2.2.2.2.2) :
  Gives Tryz.prog 38 #[vOffice x0 b0,vFact x1] W (fun y : AC × AC × AC × AC × AC × AC=>.tuple #[vOffice r.1 y,.bool r.2]) (fun y=>(rOffice r.1 y)):=by
 unfold impl_LearnFact at h
 refine en Tryz.func38 Tryz.ntmps38 ?_
 refine qs (qr (oB 4 [(4,.p 2 0),(3,.p 1 0),(2,.p 0 0)] [] [(57,(eOffice x0 b0)),(84,(eFact x1)),(57,[.slice none 0 0,.slice none 0 0,.slice none 0 0,.int .i64 0,.int .i64 0,.slice none 0 0,.slice none 0 0,.int .i64 0,.slice none 0 0])] ?_))
 refine oe (nt (qs (qr (oN 1 [(9,.v (vOffice x0 b0))] [4,3,2] ?_))))
 obtain ⟨a4,a8,a9⟩:=bS h
 refine k1 (fun _ w hs=>c_impl_copyOffice (b0:=b0) a8 (hv0_0.k hs) (hv0_1.k hs) (hv0_2.k hs) (hv0_3.k hs) (hv0_4.k hs) (hv0_5.k hs)) (fun a3=>?_)
 refine oB 2 [(6,.p 3 0)] [4,3,2] [(57,(eOffice x0 b0)),(84,(eFact x1)),(57,[.slice none 0 0,.slice none 0 0,.slice none 0 0,.int .i64 0,.int .i64 0,.slice none 0 0,.slice none 0 0,.int .i64 0,.slice none 0 0]),(57,(eOffice a4 a3))] ?_
 refine oe (nt (qs (qr (oN 1 [(11,.v (vOffice x0 b0))] [6,4,3,2] ?_))))
 obtain ⟨a7,aa,ab⟩:=bS a9
 refine k0 (fun _ w hs=>c_impl_now (b0:=b0) aa (hv0_0.k hs) (hv0_1.k hs) (hv0_2.k hs) (hv0_3.k hs) (hv0_4.k hs) (hv0_5.k hs)) ?_
 refine oB 2 [] [6,4,3,2] [(57,(eOffice x0 b0)),(84,(eFact (Fact.mk x1.Key x1.From x1.To a7 x1.Value))),(57,[.slice none 0 0,.slice none 0 0,.slice none 0 0,.int .i64 0,.int .i64 0,.slice none 0 0,.slice none 0 0,.int .i64 0,.slice none 0 0]),(57,(eOffice a4 a3))] ?_
 refine oe (nt (qs (qr (oN 4 [(18,.v (vFact (Fact.mk x1.Key x1.From x1.To a7 x1.Value))),(17,.v (vStore x0.Case.Store b0.2.1))] [6,4,2] ?_))))
 obtain ⟨a5,ac,ae⟩:=bS ab
 refine k1 (fun _ w hs=>c_impl_AddFact ac (hv0_1.k hs)) (fun a6=>?_)
 refine oB 6 [(8,vb a5.2),(7,.p 4 0)] [6,4,2] [(57,(eOffice x0 b0)),(84,(eFact (Fact.mk x1.Key x1.From x1.To a7 x1.Value))),(57,[.slice none 0 0,.slice none 0 0,.slice none 0 0,.int .i64 0,.int .i64 0,.slice none 0 0,.slice none 0 0,.int .i64 0,.slice none 0 0]),(57,(eOffice a4 a3)),(45,(eStore a5.1 a6))] ?_
 refine oe (nt (qs (qs ?_)))
 obtain ⟨af,ag,ah⟩:=bS ae
 refine JC_cut (τ:=Unit) (fun _=>[(4,.p 2 0),(6,.p 3 0),(7,.p 4 0),(28,vb af)]) (fun _=>[(57,(eOffice x0 b0)),(84,(eFact (Fact.mk x1.Key x1.From x1.To a7 x1.Value))),(57,[.slice none 0 0,.slice none 0 0,.slice none 0 0,.int .i64 0,.int .i64 0,.slice none 0 0,.slice none 0 0,.int .i64 0,.slice none 0 0]),(57,(eOffice a4 a3)),(45,(eStore a5.1 a6))]) (fun _=>(rOffice a4 a3 ++ [SlRes 84 a5.1.Facts a6.1 a6.2])) ?_ (fun _=>?_)
 ·refine qr (oN 3 [(24,vb (!a5.2))] [7,6,4,2] ?_)
  refine oS 24 ag (fun ai=>?_) (fun aj=>?_)
  ·refine oN 4 [(28,vb true)] [7,6,4] ?_
   refine oe ?_
   obtain rfl:=sI ai
   exact mt () [4,6,7,28] [1,1,1,1,1,1,0] 5
  refine oN 1 [(25,.v (vOffice x0 b0))] [24,7,6,4] ?_
  obtain ⟨ak,al,am⟩:=bS aj
  refine k0 (fun _ w hs=>c_impl_OfficeOk (b0:=b0) al (hv0_0.k hs) (hv0_1.k hs) (hv0_2.k hs) (hv0_3.k hs) (hv0_4.k hs) (hv0_5.k hs)) ?_
  refine oN 2 [(28,vb (!ak))] [7,6,4] ?_
  refine oe ?_
  obtain rfl:=sI am
  exact mt () [4,6,7,28] [1,1,1,1,1,1,0] 5
 refine nt (cC ah (fun an=>?_) (fun ao=>?_))
 ·refine qs (qr (oB 3 [(5,vb false)] [4] [(57,(eOffice x0 b0)),(84,(eFact (Fact.mk x1.Key x1.From x1.To a7 x1.Value))),(57,(eOffice a4 a3)),(57,(eOffice a4 a3)),(45,(eStore a5.1 a6))] ?_))
  refine oe (nt (qe (nr (rt [vOffice a4 a3,.bool false] (fun _ w hs=>?_)))))
  rw [← sI an]
  exact ⟨(a3.1,a3.2.1,a3.2.2.1,a3.2.2.2.1,a3.2.2.2.2.1,a3.2.2.2.2.2),rfl,hs.kept.toBelow,(hs.takeR (is:=[0,0,0,0,0,0]) rfl).fresh⟩
 refine qk (nt (qs (qr (oB 4 [] [4,6] [(57,(eOffice x0 b0)),(84,(eFact (Fact.mk x1.Key x1.From x1.To a7 x1.Value))),(57,[.slice none 0 0,.slice none 0 0,.slice none 0 0,.int .i64 0,.int .i64 0,.slice none 0 0,.slice none 0 0,.int .i64 0,.slice none 0 0]),(57,(eOffice (Office.mk (Case.mk a4.Case.Book a5.1 a4.Case.Series a4.Case.Member) a4.Start a4.Paid) (a3.1,a6,a3.2.2.1,a3.2.2.2.1,a3.2.2.2.2.1,a3.2.2.2.2.2))),(45,(eStore a5.1 a6))] ?_))))
 refine oe (nt (qs (qr (oB 3 [(5,vb true)] [4] [(57,(eOffice x0 b0)),(84,(eFact (Fact.mk x1.Key x1.From x1.To a7 x1.Value))),(57,(eOffice (Office.mk (Case.mk a4.Case.Book a5.1 a4.Case.Series a4.Case.Member) a4.Start a4.Paid) (a3.1,a6,a3.2.2.1,a3.2.2.2.1,a3.2.2.2.2.1,a3.2.2.2.2.2))),(57,(eOffice (Office.mk (Case.mk a4.Case.Book a5.1 a4.Case.Series a4.Case.Member) a4.Start a4.Paid) (a3.1,a6,a3.2.2.1,a3.2.2.2.1,a3.2.2.2.2.1,a3.2.2.2.2.2))),(45,(eStore a5.1 a6))] ?_))))
 refine oe (nt (qe (rt [vOffice (Office.mk (Case.mk a4.Case.Book a5.1 a4.Case.Series a4.Case.Member) a4.Start a4.Paid) (a3.1,a6,a3.2.2.1,a3.2.2.2.1,a3.2.2.2.2.1,a3.2.2.2.2.2),.bool true] (fun _ w hs=>?_))))
 rw [← sI ao]
 exact ⟨(a3.1,a6,a3.2.2.1,a3.2.2.2.1,a3.2.2.2.2.1,a3.2.2.2.2.2),rfl,hs.kept.toBelow,(hs.takeR (is:=[0,5,1,1,1,1]) rfl).fresh⟩
theorem c_impl_Publish {W : World} {x0 : Series} {a0_0 : Option Addr} {c0_0 : Nat} {x1 : Point} {r : Series × Bool} (h : impl_Publish x0 x1 = some r) (hv0_0 : SlView W x0.Points a0_0 c0_0) :
  Gives Tryz.prog 87 #[vSeries x0 (a0_0,c0_0),vPoint x1] W (fun y : AC=>.tuple #[vSeries r.1 y,.bool r.2]) (fun y=>[SlRes 85 r.1.Points y.1 y.2]):=by
 unfold impl_Publish at h
 refine en Tryz.func87 Tryz.ntmps87 ?_
 refine qs (qr (oB 4 [(4,.p 2 0),(3,.p 1 0),(2,.p 0 0)] [] [(48,(eSeries x0 (a0_0,c0_0))),(85,(ePoint x1)),(48,[.slice none 0 0])] ?_))
 refine oe (nt (qs ?_))
 obtain ⟨a9,aa,ae⟩:=bS h
 obtain ⟨a4,a8,af⟩:=bS ae
 refine JC_cut (τ:=AC) (fun a6=>[(6,.p 3 0),(4,.p 2 0),(2,.p 0 0)]) (fun a6=>[(48,(eSeries x0 (a0_0,c0_0))),(85,(ePoint x1)),(48,[.slice none 0 0]),(48,(eSeries (Series.mk a4) a6))]) (fun a6=>[SlRes 85 a4 a6.1 a6.2]) ?_ (fun a6=>?_)
 ·refine jw [4,3,2] [] ?_
  refine JC_heldN (ks:=[0,1,2]) (Rk:=[]) 9 (by kernel_rfl) (by kernel_rfl) ?_
  refine htq 0 (.p 0 0) [] ?_
  refine htq 1 (vs a0_0 x0.Points c0_0) [] ?_
  refine hk [8,4,3,2] ?_
  refine htq 3 (.v (vPoint x1)) [] ?_
  refine hk [10,8,4,2] ?_
  refine ha3 2 4 7 ?_ ?_ ?_
  ·refine hi (fun γ0 δ hm=>?_)
   refine g1 (fun w hs=>c_slices_Clone_Point aa (hv0_0.k hs)) (fun a7=>?_)
   refine gn hm [9,10,4,2] [] ?_
   refine ha2 4 7 ?_ ?_
   ·refine hi (fun γ0 δ hm=>?_)
    refine gb [] [SlRes 85 a9 a7.1 a7.2] 85 1 [.int .i64 x1.Month,.int .i64 x1.Known,.int .i64 x1.Value] ([x1] : List Point) (own_flat (by kernel_rfl)) (fun a5=>?_)
    refine gn hm [11,9,4,2] [] ?_
    refine ha2 5 7 ?_ ?_
    ·refine hr_ [1,0] ?_
     refine hi (fun γ0 δ hm=>?_)
     refine ga 46 a5.2 Tryz.t85 (vPoint (Point.mk 0 0 0)) (fun w hs=>⟨a5.2,(hs.view 1 rfl)⟩) a8 (fun a3=>?_)
     refine gn hm [12,4,2] [] ?_
     refine htq 6 (.v (vSeries (Series.mk a4) a3)) [] ?_
     refine hk [13,4,2] ?_
     refine ha1 7 ?_
     refine hi (fun γ0 δ hm=>?_)
     refine gs [(6,.p 3 0),(13,.v (vSeries (Series.mk a4) a3)),(4,.p 2 0),(2,.p 0 0)] [(48,(eSeries x0 (a0_0,c0_0))),(85,(ePoint x1)),(48,[.slice none 0 0]),(48,[.slice none 0 0])] (fun δ2=>?_)
     refine gd hm [6,13,4,2] [] ?_
     refine ha1 8 ?_
     refine hi (fun γ0 δ hm=>?_)
     refine gs [(6,.p 3 0),(13,.v (vSeries (Series.mk a4) a3)),(4,.p 2 0),(2,.p 0 0)] [(48,(eSeries x0 (a0_0,c0_0))),(85,(ePoint x1)),(48,[.slice none 0 0]),(48,(eSeries (Series.mk a4) a3))] (fun δ2=>?_)
     refine gd hm [6,4,2] [] ?_
     exact hd a3 [6,4,2] [0] 4
    ·refine hi (fun γ0 δ hm=>?_)
     refine gs [(6,.p 3 0),(11,sv a5 ([x1] : List Point)),(9,sv a7 a9),(4,.p 2 0),(2,.p 0 0)] [(48,(eSeries x0 (a0_0,c0_0))),(85,(ePoint x1)),(48,[.slice none 0 0]),(48,[.slice none 0 0])] (fun δ2=>?_)
     refine gd hm [6,11,9,4,2] [] ?_
     refine ha1 5 ?_
     refine hr_ [1,0] ?_
     refine hi (fun γ0 δ hm=>?_)
     refine ga 46 a5.2 Tryz.t85 (vPoint (Point.mk 0 0 0)) (fun w hs=>⟨a5.2,(hs.view 1 rfl)⟩) a8 (fun a3=>?_)
     refine gn hm [12,6,4,2] [] ?_
     refine htq 6 (.v (vSeries (Series.mk a4) a3)) [] ?_
     refine hk [13,6,4,2] ?_
     refine ha1 8 ?_
     refine hi (fun γ0 δ hm=>?_)
     refine gs [(13,.v (vSeries (Series.mk a4) a3)),(6,.p 3 0),(4,.p 2 0),(2,.p 0 0)] [(48,(eSeries x0 (a0_0,c0_0))),(85,(ePoint x1)),(48,[.slice none 0 0]),(48,(eSeries (Series.mk a4) a3))] (fun δ2=>?_)
     refine gd hm [6,4,2] [] ?_
     exact hd a3 [6,4,2] [0] 4
   ·refine hi (fun γ0 δ hm=>?_)
    refine gs [(6,.p 3 0),(9,sv a7 a9),(10,.v (vPoint x1)),(4,.p 2 0),(2,.p 0 0)] [(48,(eSeries x0 (a0_0,c0_0))),(85,(ePoint x1)),(48,[.slice none 0 0]),(48,[.slice none 0 0])] (fun δ2=>?_)
    refine gd hm [6,9,10,4,2] [] ?_
    refine ha1 4 ?_
    refine hi (fun γ0 δ hm=>?_)
    refine gb [] [SlRes 85 a9 a7.1 a7.2] 85 1 [.int .i64 x1.Month,.int .i64 x1.Known,.int .i64 x1.Value] ([x1] : List Point) (own_flat (by kernel_rfl)) (fun a5=>?_)
    refine gn hm [11,6,9,4,2] [] ?_
    refine ha1 5 ?_
    refine hr_ [1,0] ?_
    refine hi (fun γ0 δ hm=>?_)
    refine ga 46 a5.2 Tryz.t85 (vPoint (Point.mk 0 0 0)) (fun w hs=>⟨a5.2,(hs.view 1 rfl)⟩) a8 (fun a3=>?_)
    refine gn hm [12,6,4,2] [] ?_
    refine htq 6 (.v (vSeries (Series.mk a4) a3)) [] ?_
    refine hk [13,6,4,2] ?_
    refine ha1 8 ?_
    refine hi (fun γ0 δ hm=>?_)
    refine gs [(13,.v (vSeries (Series.mk a4) a3)),(6,.p 3 0),(4,.p 2 0),(2,.p 0 0)] [(48,(eSeries x0 (a0_0,c0_0))),(85,(ePoint x1)),(48,[.slice none 0 0]),(48,(eSeries (Series.mk a4) a3))] (fun δ2=>?_)
    refine gd hm [6,4,2] [] ?_
    exact hd a3 [6,4,2] [0] 4
  ·refine hi (fun γ0 δ hm=>?_)
   refine gb [] [] 85 1 [.int .i64 x1.Month,.int .i64 x1.Known,.int .i64 x1.Value] ([x1] : List Point) (own_flat (by kernel_rfl)) (fun a5=>?_)
   refine gn hm [11,8,4,2] [] ?_
   refine ha2 2 7 ?_ ?_
   ·refine hi (fun γ0 δ hm=>?_)
    refine g1 (fun w hs=>c_slices_Clone_Point aa (hv0_0.k hs)) (fun a7=>?_)
    refine gn hm [9,11,4,2] [] ?_
    refine ha2 5 7 ?_ ?_
    ·refine hi (fun γ0 δ hm=>?_)
     refine ga 46 a5.2 Tryz.t85 (vPoint (Point.mk 0 0 0)) (fun w hs=>⟨a5.2,(hs.view 1 rfl)⟩) a8 (fun a3=>?_)
     refine gn hm [12,4,2] [] ?_
     refine htq 6 (.v (vSeries (Series.mk a4) a3)) [] ?_
     refine hk [13,4,2] ?_
     refine ha1 7 ?_
     refine hi (fun γ0 δ hm=>?_)
     refine gs [(6,.p 3 0),(13,.v (vSeries (Series.mk a4) a3)),(4,.p 2 0),(2,.p 0 0)] [(48,(eSeries x0 (a0_0,c0_0))),(85,(ePoint x1)),(48,[.slice none 0 0]),(48,[.slice none 0 0])] (fun δ2=>?_)
     refine gd hm [6,13,4,2] [] ?_
     refine ha1 8 ?_
     refine hi (fun γ0 δ hm=>?_)
     refine gs [(6,.p 3 0),(13,.v (vSeries (Series.mk a4) a3)),(4,.p 2 0),(2,.p 0 0)] [(48,(eSeries x0 (a0_0,c0_0))),(85,(ePoint x1)),(48,[.slice none 0 0]),(48,(eSeries (Series.mk a4) a3))] (fun δ2=>?_)
     refine gd hm [6,4,2] [] ?_
     exact hd a3 [6,4,2] [0] 4
    ·refine hi (fun γ0 δ hm=>?_)
     refine gs [(6,.p 3 0),(9,sv a7 a9),(11,sv a5 ([x1] : List Point)),(4,.p 2 0),(2,.p 0 0)] [(48,(eSeries x0 (a0_0,c0_0))),(85,(ePoint x1)),(48,[.slice none 0 0]),(48,[.slice none 0 0])] (fun δ2=>?_)
     refine gd hm [6,9,11,4,2] [] ?_
     refine ha1 5 ?_
     refine hi (fun γ0 δ hm=>?_)
     refine ga 46 a5.2 Tryz.t85 (vPoint (Point.mk 0 0 0)) (fun w hs=>⟨a5.2,(hs.view 1 rfl)⟩) a8 (fun a3=>?_)
     refine gn hm [12,6,4,2] [] ?_
     refine htq 6 (.v (vSeries (Series.mk a4) a3)) [] ?_
     refine hk [13,6,4,2] ?_
     refine ha1 8 ?_
     refine hi (fun γ0 δ hm=>?_)
     refine gs [(13,.v (vSeries (Series.mk a4) a3)),(6,.p 3 0),(4,.p 2 0),(2,.p 0 0)] [(48,(eSeries x0 (a0_0,c0_0))),(85,(ePoint x1)),(48,[.slice none 0 0]),(48,(eSeries (Series.mk a4) a3))] (fun δ2=>?_)
     refine gd hm [6,4,2] [] ?_
     exact hd a3 [6,4,2] [0] 4
   ·refine hi (fun γ0 δ hm=>?_)
    refine gs [(6,.p 3 0),(11,sv a5 ([x1] : List Point)),(8,vs a0_0 x0.Points c0_0),(4,.p 2 0),(2,.p 0 0)] [(48,(eSeries x0 (a0_0,c0_0))),(85,(ePoint x1)),(48,[.slice none 0 0]),(48,[.slice none 0 0])] (fun δ2=>?_)
    refine gd hm [6,11,8,4,2] [] ?_
    refine ha1 2 ?_
    refine hi (fun γ0 δ hm=>?_)
    refine g1 (fun w hs=>c_slices_Clone_Point aa (hv0_0.k hs)) (fun a7=>?_)
    refine gn hm [9,6,11,4,2] [] ?_
    refine ha1 5 ?_
    refine hi (fun γ0 δ hm=>?_)
    refine ga 46 a5.2 Tryz.t85 (vPoint (Point.mk 0 0 0)) (fun w hs=>⟨a5.2,(hs.view 1 rfl)⟩) a8 (fun a3=>?_)
    refine gn hm [12,6,4,2] [] ?_
    refine htq 6 (.v (vSeries (Series.mk a4) a3)) [] ?_
    refine hk [13,6,4,2] ?_
    refine ha1 8 ?_
    refine hi (fun γ0 δ hm=>?_)
    refine gs [(13,.v (vSeries (Series.mk a4) a3)),(6,.p 3 0),(4,.p 2 0),(2,.p 0 0)] [(48,(eSeries x0 (a0_0,c0_0))),(85,(ePoint x1)),(48,[.slice none 0 0]),(48,(eSeries (Series.mk a4) a3))] (fun δ2=>?_)
    refine gd hm [6,4,2] [] ?_
    exact hd a3 [6,4,2] [0] 4
  ·refine hi (fun γ0 δ hm=>?_)
   refine gs [(6,.p 3 0),(10,.v (vPoint x1)),(8,vs a0_0 x0.Points c0_0),(4,.p 2 0),(2,.p 0 0)] [(48,(eSeries x0 (a0_0,c0_0))),(85,(ePoint x1)),(48,[.slice none 0 0]),(48,[.slice none 0 0])] (fun δ2=>?_)
   refine gd hm [6,10,8,4,2] [] ?_
   refine ha2 2 4 ?_ ?_
   ·refine hi (fun γ0 δ hm=>?_)
    refine g1 (fun w hs=>c_slices_Clone_Point aa (hv0_0.k hs)) (fun a7=>?_)
    refine gn hm [9,6,10,4,2] [] ?_
    refine ha1 4 ?_
    refine hi (fun γ0 δ hm=>?_)
    refine gb [] [SlRes 85 a9 a7.1 a7.2] 85 1 [.int .i64 x1.Month,.int .i64 x1.Known,.int .i64 x1.Value] ([x1] : List Point) (own_flat (by kernel_rfl)) (fun a5=>?_)
    refine gn hm [11,9,6,4,2] [] ?_
    refine ha1 5 ?_
    refine hr_ [1,0] ?_
    refine hi (fun γ0 δ hm=>?_)
    refine ga 46 a5.2 Tryz.t85 (vPoint (Point.mk 0 0 0)) (fun w hs=>⟨a5.2,(hs.view 1 rfl)⟩) a8 (fun a3=>?_)
    refine gn hm [12,6,4,2] [] ?_
    refine htq 6 (.v (vSeries (Series.mk a4) a3)) [] ?_
    refine hk [13,6,4,2] ?_
    refine ha1 8 ?_
    refine hi (fun γ0 δ hm=>?_)
    refine gs [(13,.v (vSeries (Series.mk a4) a3)),(6,.p 3 0),(4,.p 2 0),(2,.p 0 0)] [(48,(eSeries x0 (a0_0,c0_0))),(85,(ePoint x1)),(48,[.slice none 0 0]),(48,(eSeries (Series.mk a4) a3))] (fun δ2=>?_)
    refine gd hm [6,4,2] [] ?_
    exact hd a3 [6,4,2] [0] 4
   ·refine hi (fun γ0 δ hm=>?_)
    refine gb [] [] 85 1 [.int .i64 x1.Month,.int .i64 x1.Known,.int .i64 x1.Value] ([x1] : List Point) (own_flat (by kernel_rfl)) (fun a5=>?_)
    refine gn hm [11,6,8,4,2] [] ?_
    refine ha1 2 ?_
    refine hi (fun γ0 δ hm=>?_)
    refine g1 (fun w hs=>c_slices_Clone_Point aa (hv0_0.k hs)) (fun a7=>?_)
    refine gn hm [9,11,6,4,2] [] ?_
    refine ha1 5 ?_
    refine hi (fun γ0 δ hm=>?_)
    refine ga 46 a5.2 Tryz.t85 (vPoint (Point.mk 0 0 0)) (fun w hs=>⟨a5.2,(hs.view 1 rfl)⟩) a8 (fun a3=>?_)
    refine gn hm [12,6,4,2] [] ?_
    refine htq 6 (.v (vSeries (Series.mk a4) a3)) [] ?_
    refine hk [13,6,4,2] ?_
    refine ha1 8 ?_
    refine hi (fun γ0 δ hm=>?_)
    refine gs [(13,.v (vSeries (Series.mk a4) a3)),(6,.p 3 0),(4,.p 2 0),(2,.p 0 0)] [(48,(eSeries x0 (a0_0,c0_0))),(85,(ePoint x1)),(48,[.slice none 0 0]),(48,(eSeries (Series.mk a4) a3))] (fun δ2=>?_)
    refine gd hm [6,4,2] [] ?_
    exact hd a3 [6,4,2] [0] 4
 refine nt (qs (qs ?_))
 obtain ⟨ag,ah,ai⟩:=bS af
 refine JC_cut (τ:=Unit) (fun _=>[(2,.p 0 0),(4,.p 2 0),(6,.p 3 0),(21,vb ag)]) (fun _=>[(48,(eSeries x0 (a0_0,c0_0))),(85,(ePoint x1)),(48,[.slice none 0 0]),(48,(eSeries (Series.mk a4) a6))]) (fun _=>[SlRes 85 a4 a6.1 a6.2]) ?_ (fun _=>?_)
 ·refine qr (oN 1 [(14,.v (vSeries x0 (a0_0,c0_0)))] [6,4,2] ?_)
  obtain ⟨aj,ak,al⟩:=bS ah
  refine k0 (fun γ w hs=>c_impl_SeriesOk ak (hv0_0.k hs)) ?_
  refine oN 2 [(17,vb (!aj))] [6,4,2] ?_
  refine oS 17 al (fun am=>?_) (fun an=>?_)
  ·refine oN 4 [(21,vb true)] [6,4,2] ?_
   refine oe ?_
   obtain rfl:=sI am
   exact mt () [2,4,6,21] [0] 4
  refine oN 1 [(18,.v (vSeries (Series.mk a4) a6))] [17,6,4,2] ?_
  obtain ⟨ao,ap,aq⟩:=bS an
  refine k0 (fun γ w hs=>c_impl_SeriesOk ap (hs.view 0 rfl)) ?_
  refine oN 2 [(21,vb (!ao))] [6,4,2] ?_
  refine oe ?_
  obtain rfl:=sI aq
  exact mt () [2,4,6,21] [0] 4
 refine nt (cC ai (fun ar=>?_) (fun au=>?_))
 ·refine qs (qr (oN 1 [(22,.v (vSeries x0 (a0_0,c0_0)))] [4] ?_))
  obtain ⟨ac,av,aw⟩:=bS ar
  refine k1 (fun γ w hs=>c_impl_copySeries av (hv0_0.k hs)) (fun ab=>?_)
  refine oB 2 [(5,vb false)] [4] [(48,(eSeries x0 (a0_0,c0_0))),(85,(ePoint x1)),(48,(eSeries ac ab)),(48,(eSeries (Series.mk a4) a6))] ?_
  refine oe (nt (qe (nr (rt [vSeries ac ab,.bool false] (fun γ w hs=>?_)))))
  rw [← sI aw]
  exact ⟨ab,rfl,hs.kept.toBelow,(hs.takeR (is:=[0]) rfl).fresh⟩
 refine qk (nt (qs (qr (oB 3 [(5,vb true)] [4] [(48,(eSeries x0 (a0_0,c0_0))),(85,(ePoint x1)),(48,(eSeries (Series.mk a4) a6)),(48,(eSeries (Series.mk a4) a6))] ?_))))
 refine oe (nt (qe (rt [vSeries (Series.mk a4) a6,.bool true] (fun γ w hs=>?_))))
 rw [← sI au]
 exact ⟨a6,rfl,hs.kept.toBelow,(hs.takeR (is:=[0]) rfl).fresh⟩
theorem c_impl_LearnPoint {W : World} {x0 : Office} {b0 : AC × AC × AC × AC × AC × AC} {x1 : Point} {r : Office × Bool} (h : impl_LearnPoint x0 x1 = some r) (hv0_0 : SlView W x0.Case.Book.Rules b0.1.1 b0.1.2) (hv0_1 : SlView W x0.Case.Store.Facts b0.2.1.1 b0.2.1.2) (hv0_2 : SlView W x0.Case.Series.Points b0.2.2.1.1 b0.2.2.1.2) (hv0_3 : SlView W x0.Case.Member.Spells b0.2.2.2.1.1 b0.2.2.2.1.2) (hv0_4 : SlView W x0.Case.Member.Events b0.2.2.2.2.1.1 b0.2.2.2.2.1.2) (hv0_5 : SlView W x0.Paid b0.2.2.2.2.2.1 b0.2.2.2.2.2.2) :
  Gives Tryz.prog 41 #[vOffice x0 b0,vPoint x1] W (fun y : AC × AC × AC × AC × AC × AC=>.tuple #[vOffice r.1 y,.bool r.2]) (fun y=>(rOffice r.1 y)):=by
 unfold impl_LearnPoint at h
 refine en Tryz.func41 Tryz.ntmps41 ?_
 refine qs (qr (oB 4 [(4,.p 2 0),(3,.p 1 0),(2,.p 0 0)] [] [(57,(eOffice x0 b0)),(85,(ePoint x1)),(57,[.slice none 0 0,.slice none 0 0,.slice none 0 0,.int .i64 0,.int .i64 0,.slice none 0 0,.slice none 0 0,.int .i64 0,.slice none 0 0])] ?_))
 refine oe (nt (qs (qr (oN 1 [(9,.v (vOffice x0 b0))] [4,3,2] ?_))))
 obtain ⟨a4,a8,a9⟩:=bS h
 refine k1 (fun _ w hs=>c_impl_copyOffice (b0:=b0) a8 (hv0_0.k hs) (hv0_1.k hs) (hv0_2.k hs) (hv0_3.k hs) (hv0_4.k hs) (hv0_5.k hs)) (fun a3=>?_)
 refine oB 2 [(6,.p 3 0)] [4,3,2] [(57,(eOffice x0 b0)),(85,(ePoint x1)),(57,[.slice none 0 0,.slice none 0 0,.slice none 0 0,.int .i64 0,.int .i64 0,.slice none 0 0,.slice none 0 0,.int .i64 0,.slice none 0 0]),(57,(eOffice a4 a3))] ?_
 refine oe (nt (qs (qr (oN 1 [(11,.v (vOffice x0 b0))] [6,4,3,2] ?_))))
 obtain ⟨a7,aa,ab⟩:=bS a9
 refine k0 (fun _ w hs=>c_impl_now (b0:=b0) aa (hv0_0.k hs) (hv0_1.k hs) (hv0_2.k hs) (hv0_3.k hs) (hv0_4.k hs) (hv0_5.k hs)) ?_
 refine oB 2 [] [6,4,3,2] [(57,(eOffice x0 b0)),(85,(ePoint (Point.mk x1.Month a7 x1.Value))),(57,[.slice none 0 0,.slice none 0 0,.slice none 0 0,.int .i64 0,.int .i64 0,.slice none 0 0,.slice none 0 0,.int .i64 0,.slice none 0 0]),(57,(eOffice a4 a3))] ?_
 refine oe (nt (qs (qr (oN 4 [(18,.v (vPoint (Point.mk x1.Month a7 x1.Value))),(17,.v (vSeries x0.Case.Series b0.2.2.1))] [6,4,2] ?_))))
 obtain ⟨a5,ac,ae⟩:=bS ab
 refine k1 (fun _ w hs=>c_impl_Publish ac (hv0_2.k hs)) (fun a6=>?_)
 refine oB 6 [(8,vb a5.2),(7,.p 4 0)] [6,4,2] [(57,(eOffice x0 b0)),(85,(ePoint (Point.mk x1.Month a7 x1.Value))),(57,[.slice none 0 0,.slice none 0 0,.slice none 0 0,.int .i64 0,.int .i64 0,.slice none 0 0,.slice none 0 0,.int .i64 0,.slice none 0 0]),(57,(eOffice a4 a3)),(48,(eSeries a5.1 a6))] ?_
 refine oe (nt (qs (qs ?_)))
 obtain ⟨af,ag,ah⟩:=bS ae
 refine JC_cut (τ:=Unit) (fun _=>[(4,.p 2 0),(6,.p 3 0),(7,.p 4 0),(28,vb af)]) (fun _=>[(57,(eOffice x0 b0)),(85,(ePoint (Point.mk x1.Month a7 x1.Value))),(57,[.slice none 0 0,.slice none 0 0,.slice none 0 0,.int .i64 0,.int .i64 0,.slice none 0 0,.slice none 0 0,.int .i64 0,.slice none 0 0]),(57,(eOffice a4 a3)),(48,(eSeries a5.1 a6))]) (fun _=>(rOffice a4 a3 ++ [SlRes 85 a5.1.Points a6.1 a6.2])) ?_ (fun _=>?_)
 ·refine qr (oN 3 [(24,vb (!a5.2))] [7,6,4,2] ?_)
  refine oS 24 ag (fun ai=>?_) (fun aj=>?_)
  ·refine oN 4 [(28,vb true)] [7,6,4] ?_
   refine oe ?_
   obtain rfl:=sI ai
   exact mt () [4,6,7,28] [1,1,1,1,1,1,0] 5
  refine oN 1 [(25,.v (vOffice x0 b0))] [24,7,6,4] ?_
  obtain ⟨ak,al,am⟩:=bS aj
  refine k0 (fun _ w hs=>c_impl_OfficeOk (b0:=b0) al (hv0_0.k hs) (hv0_1.k hs) (hv0_2.k hs) (hv0_3.k hs) (hv0_4.k hs) (hv0_5.k hs)) ?_
  refine oN 2 [(28,vb (!ak))] [7,6,4] ?_
  refine oe ?_
  obtain rfl:=sI am
  exact mt () [4,6,7,28] [1,1,1,1,1,1,0] 5
 refine nt (cC ah (fun an=>?_) (fun ao=>?_))
 ·refine qs (qr (oB 3 [(5,vb false)] [4] [(57,(eOffice x0 b0)),(85,(ePoint (Point.mk x1.Month a7 x1.Value))),(57,(eOffice a4 a3)),(57,(eOffice a4 a3)),(48,(eSeries a5.1 a6))] ?_))
  refine oe (nt (qe (nr (rt [vOffice a4 a3,.bool false] (fun _ w hs=>?_)))))
  rw [← sI an]
  exact ⟨(a3.1,a3.2.1,a3.2.2.1,a3.2.2.2.1,a3.2.2.2.2.1,a3.2.2.2.2.2),rfl,hs.kept.toBelow,(hs.takeR (is:=[0,0,0,0,0,0]) rfl).fresh⟩
 refine qk (nt (qs (qr (oB 4 [] [4,6] [(57,(eOffice x0 b0)),(85,(ePoint (Point.mk x1.Month a7 x1.Value))),(57,[.slice none 0 0,.slice none 0 0,.slice none 0 0,.int .i64 0,.int .i64 0,.slice none 0 0,.slice none 0 0,.int .i64 0,.slice none 0 0]),(57,(eOffice (Office.mk (Case.mk a4.Case.Book a4.Case.Store a5.1 a4.Case.Member) a4.Start a4.Paid) (a3.1,a3.2.1,a6,a3.2.2.2.1,a3.2.2.2.2.1,a3.2.2.2.2.2))),(48,(eSeries a5.1 a6))] ?_))))
 refine oe (nt (qs (qr (oB 3 [(5,vb true)] [4] [(57,(eOffice x0 b0)),(85,(ePoint (Point.mk x1.Month a7 x1.Value))),(57,(eOffice (Office.mk (Case.mk a4.Case.Book a4.Case.Store a5.1 a4.Case.Member) a4.Start a4.Paid) (a3.1,a3.2.1,a6,a3.2.2.2.1,a3.2.2.2.2.1,a3.2.2.2.2.2))),(57,(eOffice (Office.mk (Case.mk a4.Case.Book a4.Case.Store a5.1 a4.Case.Member) a4.Start a4.Paid) (a3.1,a3.2.1,a6,a3.2.2.2.1,a3.2.2.2.2.1,a3.2.2.2.2.2))),(48,(eSeries a5.1 a6))] ?_))))
 refine oe (nt (qe (rt [vOffice (Office.mk (Case.mk a4.Case.Book a4.Case.Store a5.1 a4.Case.Member) a4.Start a4.Paid) (a3.1,a3.2.1,a6,a3.2.2.2.1,a3.2.2.2.2.1,a3.2.2.2.2.2),.bool true] (fun _ w hs=>?_))))
 rw [← sI ao]
 exact ⟨(a3.1,a3.2.1,a6,a3.2.2.2.1,a3.2.2.2.2.1,a3.2.2.2.2.2),rfl,hs.kept.toBelow,(hs.takeR (is:=[0,0,4,1,1,1]) rfl).fresh⟩
theorem c_impl_total {W : World} {x0 : List Int} {a0_0 : Option Addr} {c0_0 : Nat} {r : Int} (h : impl_total x0 = some r) (hv0_0 : SlView W x0 a0_0 c0_0) :
  Gives0 Tryz.prog 93 #[.slice a0_0 x0.length c0_0] W (.int .i64 r):=by
 unfold impl_total at h
 refine en Tryz.func93 Tryz.ntmps93 ?_
 refine qs (qr (oN 1 [] [0] ?_))
 refine oe (nt (qs (qr (oN 1 [(3,vi 0)] [0] ?_))))
 refine oe (nt (qs (qs (qr (oN 3 [(8,vi 0),(7,vi (x0.length : Int)),(6,vs a0_0 x0 c0_0)] [3] ?_)))))
 refine oe (nt ?_)
 obtain ⟨al,a9,a5⟩:=bS h
 obtain ⟨aa,ab,a5⟩:=brkS a5
 refine JC_cutP (τ:=(Int) × (Unit)) (fun y=>aa y.1 = some r) (fun a4=>[(3,vi a4.1)]) (fun a4=>[]) (fun a4=>[]) ?_ (fun a4 ac=>?_)
 ·refine qb (lp Unit a9 (fun a3 a6=>[(8,vi a3.1),(7,vi (x0.length : Int)),(6,vs a0_0 x0 c0_0),(3,vi a3.2)]) (fun a3 a6=>[]) (fun a3 a6=>[]) () [8,7,6,3] [] 0 (fun a3 a6 am ae af=>?_))
  refine qs (qr (oN 1 [(9,vb (decide (a3.1 < (x0.length : Int))))] [8,7,6,3] ?_))
  refine oe (nt (qs (cC ae (fun ag=>?_) (fun ah=>?_))))
  ·refine qk (nt (qs (qb (qs (qr ?_)))))
   obtain ⟨a7,a8,ai⟩:=bS ag
   refine oi 1 (fun _ w hs=>(hv0_0.k hs)) a8 ?_
   refine ol 3 0 (.int .i64 a7) (fun _ w hs=>(hv0_0.k hs).flatq a8) ?_
   refine oN 1 [(5,vi a7)] [8,7,6,3] ?_
   refine oe (nt (qr (oN 4 [(3,vi (w64 (a3.2 + a7)))] [8,7,6] ?_)))
   refine oe (bn (nt (qr (oN 2 [(8,vi (w64 (a3.1 + 1)))] [3,7,6] ?_))))
   exact oe (ct ai () [8,7,6,3] [] 0)
  refine qx (nx (nx (bh ?_)))
  have aj:=leafB af ah a5
  exact mp (a3.2,()) aj [3] [] 0
 have ak:=(congrFun ab _).symm.trans ac
 refine nt (qs (qr (oN 2 [(2,vi a4.1)] [] ?_)))
 refine oe (nt (qe ?_))
 obtain rfl:=sI ak
 exact re [.int .i64 a4.1]
theorem c_impl_StatusAt {W : World} {x0 : List Event} {a0_0 : Option Addr} {c0_0 : Nat} {x1 : Int} {r : Int} (h : impl_StatusAt x0 x1 = some r) (hv0_0 : SlView W x0 a0_0 c0_0) :
  Gives0 Tryz.prog 145 #[.slice a0_0 x0.length c0_0,.int .i64 x1] W (.int .i64 r):=by
 unfold impl_StatusAt at h
 refine en Tryz.func145 Tryz.ntmps145 ?_
 refine qs (qr (oN 1 [] [0,1] ?_))
 refine oe (nt (qs (qr (oN 1 [(5,vi 0)] [0,1] ?_))))
 refine oe (nt (qs (qs (qr (oN 1 [(8,vs a0_0 x0 c0_0)] [5,0,1] ?_)))))
 obtain ⟨ab,ac,ae⟩:=bS h
 refine k0 (fun _ w hs=>c_impl_EventsOk ac (hv0_0.k hs)) ?_
 refine oN 1 [(10,vb (!ab))] [5,0,1] ?_
 refine oe (nt (cC ae (fun af=>?_) (fun ag=>?_)))
 ·refine qs (qr (oN 2 [(4,vi 0)] [] ?_))
  refine oe (nt (qe (nr ?_)))
  obtain rfl:=sI af
  exact re [.int .i64 0]
 refine qk (nt (qs (qs (qr (oN 3 [(14,vi 0),(13,vi (x0.length : Int)),(12,vs a0_0 x0 c0_0)] [5,1] ?_)))))
 refine oe (nt ?_)
 obtain ⟨b8,ah,a7⟩:=bS ag
 obtain ⟨ai,aj,a7⟩:=brkS a7
 refine JC_cutP (τ:=(Int) × (Unit)) (fun y=>ai y.1 = some r) (fun a4=>[(5,vi a4.1)]) (fun a4=>[]) (fun a4=>[]) ?_ (fun a4 ak=>?_)
 ·refine qb (lp Unit ah (fun a3 a8=>[(14,vi a3.1),(13,vi (x0.length : Int)),(12,vs a0_0 x0 c0_0),(5,vi a3.2),(1,vi x1)]) (fun a3 a8=>[]) (fun a3 a8=>[]) () [14,13,12,5,1] [] 0 (fun a3 a8 al am an=>?_))
  refine qs (qr (oN 1 [(15,vb (decide (a3.1 < (x0.length : Int))))] [14,13,12,5,1] ?_))
  refine oe (nt (qs (cC am (fun ao=>?_) (fun ap=>?_))))
  ·refine qk (nt (qs (qb (qs (qr ?_)))))
   obtain ⟨a5,a9,aq⟩:=bS ao
   refine oi 2 (fun _ w hs=>(hv0_0.k hs)) a9 ?_
   refine ol 195 0 (vEvent a5) (fun _ w hs=>(hv0_0.k hs).flatq a9) ?_
   refine oB 2 [(7,.p 0 0)] [14,13,12,5,1] [(195,(eEvent a5))] ?_
   refine oe (nt (qs (qr (oN 4 [(21,vb (decide (a5.Month ≤ x1)))] [7,14,13,12,5,1] ?_))))
   refine oe (nt ?_)
   obtain ⟨ar,au,av⟩:=jS aq
   refine JC_cutP (τ:=(Int) × (Unit)) (fun y=>ar y.1 = some al) (fun a6=>[(14,vi a3.1),(13,vi (x0.length : Int)),(12,vs a0_0 x0 c0_0),(5,vi a6.1),(1,vi x1)]) (fun a6=>[(195,(eEvent a5))]) (fun a6=>[]) ?_ (fun a6 aw=>?_)
   ·refine cC av (fun ax=>?_) (fun ay=>?_)
    ·refine qr (oN 3 [(25,vi a5.Kind),(23,vi a3.2)] [14,13,12,1] ?_)
     obtain ⟨aa,az,b4⟩:=bS ax
     refine k0 (fun _ w hs=>c_impl_StatusAfter az) ?_
     refine oN 4 [(5,vi aa.1)] [14,13,12,1] ?_
     exact oe (mp (aa.1,()) b4 [14,13,12,5,1] [] 1)
    exact qk (mp (a3.2,()) ay [14,13,12,5,1] [] 1)
   have b5:=(congrFun au _).symm.trans aw
   refine bn (nt (qr (oN 2 [(14,vi (w64 (a3.1 + 1)))] [13,12,5,1] ?_)))
   exact oe (ct b5 () [14,13,12,5,1] [] 0)
  refine qx (nx (nx (bh ?_)))
  have b6:=leafB an ap a7
  exact mp (a3.2,()) b6 [5] [] 0
 have b7:=(congrFun aj _).symm.trans ak
 refine nt (qs (qr (oN 2 [(4,vi a4.1)] [] ?_)))
 refine oe (nt (qe ?_))
 obtain rfl:=sI b7
 exact re [.int .i64 a4.1]
theorem c_impl_isEnd {W : World} {x0 : Int} {r : Bool} (h : impl_isEnd x0 = some r)  :
  Gives0 Tryz.prog 215 #[.int .i64 x0] W (.bool r):=by
 unfold impl_isEnd at h
 refine en Tryz.func215 Tryz.ntmps215 ?_
 refine qs (qr (oN 1 [] [0] ?_))
 refine oe (nt (qs (qr (oN 1 [(3,vi x0)] [] ?_))))
 obtain ⟨a3,a4,a5⟩:=bS h
 refine k0 (fun _ w hs=>c_impl_within a4) ?_
 refine oN 1 [(2,vb a3)] [] ?_
 refine oe (nt (qe ?_))
 obtain rfl:=sI a5
 exact re [.bool a3]
/-- Which function value slices.Backward gives. -/
theorem back_Fact_new (ad : Option Addr) (n cap : Nat) (w : World) : Calls Tryz.prog 236 #[.slice ad n cap] w fun e w'=>e = .returned (.func (.func 248) #[] #[.pointer (some ⟨w.heap.size,0,none⟩)]) ∧ w' = w.alloc (.cells #[.slice ad n cap] 43):=by
 refine (callsIn_wide (n:=5)).1 (callsIn_of_wp Tryz.func236 rfl trivial ?_ rfl)
 simp only [Tryz.ntmps236,List.size_toArray,List.length_cons,List.length_nil,Nat.reduceAdd,Nat.reduceSub,Array.replicate_succ,Array.replicate_zero,List.push_toArray,List.append_toArray,List.nil_append,List.cons_append]
 gi_wp2
 go_ret
 exact ⟨rfl,rfl⟩
set_option maxHeartbeats 1000000 in
/-- The iterator over a slice from its end. -/
theorem back_Fact {W0 : World} {xs : List Fact} {ad : Option Addr} {cap : Nat} (hv : SlView W0 xs ad cap) (hlen : xs.length ≤ 1099511627776) (m : Nat) (Bn : Nat) (w1 : World) (hb1 : Below W0.heap.size W0 w1) (hB0 : W0.heap.size ≤ Bn) (hbox : w1.heap[Bn]? = some (.cells #[.slice ad xs.length cap] 43 (0,0))) :
  SeqStopsK Fence.wide m Tryz.prog 248 #[.pointer (some ⟨Bn,0,none⟩)] (fun x : Int × Fact=>#[.int .i64 x.1,.agg #[.int .i64 x.2.Key,.int .i64 x.2.From,.int .i64 x.2.To,.int .i64 x.2.Known,.int .i64 x.2.Value]]) (KpB W0.heap.size Bn) (fun ys=>ys.map (·.2) = xs.reverse) (fun pre=>∃ k,pre.map (·.2) = xs.reverse.take k) xs.length w1:=by
 intro l J Jx W hW hJ hJx hY h0
 have hbl:=(Array.getElem?_eq_some_iff.1 hbox).1
 have hbW : W.heap[Bn]? = some (.cells #[.slice ad xs.length cap] 43 (0,0)):=(hW.block Bn hbl).trans hbox
 have hBW : Below W0.heap.size W0 W:=hb1.trans (hW.mono hb1.size)
 have hview : ∀ X,Below W0.heap.size W0 X → SlView X xs ad cap:=fun X h=>hv.stable (fun g hg=>h.block g hg)
 refine callsIn_of_wp Tryz.func248 rfl trivial ?_ rfl
 rw [Tryz.ntmps248]
 refine (show JCI Fence.wide m Tryz.prog (fun _=>False) W [] 19 [] _ (argSV 0 [.v (.func (.yield l) #[] #[]),.q (some ⟨Bn,0,none⟩) 0]) [] [] _ from ?_) [] _ W (live_args (args:=[.func (.yield l) #[] #[],.pointer (some ⟨Bn,0,none⟩)]) [.v (.func (.yield l) #[] #[]),.q (some ⟨Bn,0,none⟩) 0] (by simp [SV.den]) rfl rfl) (sat_start W)
 refine JCI_seq ?_
 refine JCI_region ?_
 refine JOI_loadq wl_wide rfl rfl (by kernel_rfl) (t:=43) (d:=some ⟨Bn,0,none⟩) 0 0 (by kernel_rfl) (cs:=[.slice ad xs.length cap]) (v:=.slice ad xs.length cap) (fun γ w hs=>⟨by simp,(CellsAt.ofBox hbW).kept hs.kept⟩) (by kernel_rfl) (sl':=(4,vs ad xs cap) :: [(0,.v (.func (.yield l) #[] #[])),(1,.q (some ⟨Bn,0,none⟩) 0)]) (by kernel_rfl) ?_
 refine JOI_stepsK wl_wide 3 [3,0,1] (by kernel_rfl) (sl':=(3,.v (.int .i64 (w64 ((xs.length : Int) - 1)))) :: [(0,.v (.func (.yield l) #[] #[])),(1,.q (some ⟨Bn,0,none⟩) 0)]) (bx':=[]) (by kernel_rfl) ?_
 refine JOI_end (by kernel_rfl) ?_
 refine JEI_then ?_
 refine JCI_block ?_
 intro δ a w hl hs
 obtain rfl : δ = []:=List.length_eq_zero_iff.1 (by simpa using hs.len)
 refine wpIn_loop (fun a w=>∃ (pre : List (Int × Fact)) (k : Nat),k ≤ xs.length ∧ pre.map (·.2) = xs.reverse.take (xs.length - k) ∧ LiveD [] 19 [] ((3,.v (.int .i64 ((k : Int) - 1))) :: [(0,.v (.func (.yield l) #[] #[])),(1,.q (some ⟨Bn,0,none⟩) 0)]) a ∧ J pre w ∧ Below W0.heap.size W0 w ∧ w.heap[Bn]? = some (.cells #[.slice ad xs.length cap] 43 (0,0)))
  (fun a w=>mu3 a)
  ⟨[],xs.length,Nat.le_refl _,by simp,by rw [w64_id (by omega)] at hl; exact hl,abides_kept hJ h0 hs.kept,hBW.trans (hs.kept.below hBW.size),(hs.kept.block Bn (Array.getElem?_eq_some_iff.1 hbW).1 (fun x=>x)).trans hbW⟩ ?_
 rintro a w ⟨pre,k,hk,hpre,hl,hJ1,hB1,hbx⟩
 have hmu : mu3 a = k:=by
  rw [mu3_of hl rfl]
  omega
 rw [hmu]
 have hprel : pre.length = xs.length - k:=by
  have:=congrArg List.length hpre
  simpa using this
 refine (show JCI Fence.wide m Tryz.prog (fun _=>False) w [] 19 [] _ ((3,.v (.int .i64 ((k : Int) - 1))) :: [(0,.v (.func (.yield l) #[] #[])),(1,.q (some ⟨Bn,0,none⟩) 0)]) [] [] _ from ?_) [] a w hl (sat_start w)
 refine JCI_seq ?_
 refine JCI_seq ?_
 refine JCI_region ?_
 refine JOI_stepsK wl_wide 2 [8,3,0,1] (by kernel_rfl) (sl':=(8,.v (.bool (decide ((k : Int) - 1 ≥ 0)))) :: (3,.v (.int .i64 ((k : Int) - 1))) :: [(0,.v (.func (.yield l) #[] #[])),(1,.q (some ⟨Bn,0,none⟩) 0)]) (bx':=[]) (by kernel_rfl) ?_
 refine JOI_end (by kernel_rfl) ?_
 refine JEI_then ?_
 refine JCI_cond (decide ((k : Int) - 1 ≥ 0)) (by kernel_rfl) (fun hb=>?_) (fun hb=>?_)
 ·have hk1 : 1 ≤ k:=by have:=of_decide_eq_true hb; omega
  obtain ⟨x,hx⟩ : ∃ x,xs[k - 1]? = some x:=⟨_,List.getElem?_eq_getElem (by omega)⟩
  have hidx : idx xs ((k : Int) - 1) = some x:=by
   unfold idx
   rw [if_pos (by omega),show ((k : Int) - 1).toNat = k - 1 by omega]
   exact hx
  refine JCI_skip ?_
  refine JEI_then ?_
  refine JCI_seq ?_
  refine JCI_block ?_
  refine JCI_seq ?_
  refine JCI_region ?_
  refine JOI_stepsK wl_wide 2 [12,11,3,0,1] (by kernel_rfl) (sl':=(12,.v (.int .i64 ((k : Int) - 1))) :: (11,.v (.func (.yield l) #[] #[])) :: (3,.v (.int .i64 ((k : Int) - 1))) :: [(0,.v (.func (.yield l) #[] #[])),(1,.q (some ⟨Bn,0,none⟩) 0)]) (bx':=[]) (by kernel_rfl) ?_
  refine JOI_loadq wl_wide rfl rfl (by kernel_rfl) (t:=43) (d:=some ⟨Bn,0,none⟩) 0 0 (by kernel_rfl) (cs:=[.slice ad xs.length cap]) (v:=.slice ad xs.length cap) (fun γ w hs=>⟨by simp,(CellsAt.ofBox hbx).kept hs.kept⟩) (by kernel_rfl) (sl':=(13,vs ad xs cap) :: (12,.v (.int .i64 ((k : Int) - 1))) :: (11,.v (.func (.yield l) #[] #[])) :: (3,.v (.int .i64 ((k : Int) - 1))) :: [(0,.v (.func (.yield l) #[] #[])),(1,.q (some ⟨Bn,0,none⟩) 0)]) (by kernel_rfl) ?_
  refine JOI_stepsK wl_wide 1 [14,13,12,11,3,0,1] (by kernel_rfl) (sl':=(14,.v (.int .i64 ((k : Int) - 1))) :: (13,vs ad xs cap) :: (12,.v (.int .i64 ((k : Int) - 1))) :: (11,.v (.func (.yield l) #[] #[])) :: (3,.v (.int .i64 ((k : Int) - 1))) :: [(0,.v (.func (.yield l) #[] #[])),(1,.q (some ⟨Bn,0,none⟩) 0)]) (bx':=[]) (by kernel_rfl) ?_
  refine JOI_index wl_wide rfl rfl (by kernel_rfl) (d:=ad) (mm:=xs.length) (j:=(k : Int) - 1) (s:=5) (by kernel_rfl) (fun γ w' hs=>(hview w hB1).k hs) rfl hidx (sl':=(15,.q ad (Int.toNat ((k : Int) - 1) * 5)) :: (14,.v (.int .i64 ((k : Int) - 1))) :: (13,vs ad xs cap) :: (12,.v (.int .i64 ((k : Int) - 1))) :: (11,.v (.func (.yield l) #[] #[])) :: (3,.v (.int .i64 ((k : Int) - 1))) :: [(0,.v (.func (.yield l) #[] #[])),(1,.q (some ⟨Bn,0,none⟩) 0)]) (by kernel_rfl) ?_
  refine JOI_loadq wl_wide rfl rfl (by kernel_rfl) (t:=84) (d:=ad) (Int.toNat ((k : Int) - 1) * 5) 0 (by kernel_rfl) (cs:=[.int .i64 x.Key,.int .i64 x.From,.int .i64 x.To,.int .i64 x.Known,.int .i64 x.Value]) (v:=.agg #[.int .i64 x.Key,.int .i64 x.From,.int .i64 x.To,.int .i64 x.Known,.int .i64 x.Value]) (fun γ w' hs=>((hview w hB1).k hs).flatq hidx) (by kernel_rfl) (sl':=(16,.v (.agg #[.int .i64 x.Key,.int .i64 x.From,.int .i64 x.To,.int .i64 x.Known,.int .i64 x.Value])) :: (15,.q ad (Int.toNat ((k : Int) - 1) * 5)) :: (14,.v (.int .i64 ((k : Int) - 1))) :: (13,vs ad xs cap) :: (12,.v (.int .i64 ((k : Int) - 1))) :: (11,.v (.func (.yield l) #[] #[])) :: (3,.v (.int .i64 ((k : Int) - 1))) :: [(0,.v (.func (.yield l) #[] #[])),(1,.q (some ⟨Bn,0,none⟩) 0)]) (by kernel_rfl) ?_
  refine JOI_yield wl_wide rfl rfl (by kernel_rfl) rfl rfl (y:=l) (by kernel_rfl) (args:=[.int .i64 ((k : Int) - 1),.agg #[.int .i64 x.Key,.int .i64 x.From,.int .i64 x.To,.int .i64 x.Known,.int .i64 x.Value]]) (by kernel_rfl) rfl (by kernel_rfl) (fun γ w' hs=>hY pre ((k : Int) - 1,x) w' (abides_kept hJ hJ1 hs.kept) (by omega)) ?_
  rintro γ w' hs e W3 (⟨rfl,hJ3,hk3⟩ | ⟨rfl,hJx3⟩)
  ·refine ⟨true,rfl,fun a' hla=>?_⟩
   have hg0 : γ = []:=List.length_eq_zero_iff.1 (by simpa using hs.len)
   subst hg0
   have hBw' : Below W0.heap.size W0 w':=hB1.trans (hs.kept.below hB1.size)
   have hbx' : w'.heap[Bn]? = some (.cells #[.slice ad xs.length cap] 43 (0,0)):=(hs.kept.block Bn (Array.getElem?_eq_some_iff.1 hbx).1 (fun x=>x)).trans hbx
   have hB3 : Below W0.heap.size W0 W3:=hBw'.trans hk3.1
   have hbx3 : W3.heap[Bn]? = some (.cells #[.slice ad xs.length cap] 43 (0,0)):=hk3.2.trans hbx'
   refine (show JOI Fence.wide m Tryz.prog (fun _=>False) W3 [] 19 [] _ _ _ [] [] _ from ?_) [] a' W3 hla (sat_start W3)
   refine JOI_stepsK wl_wide 1 [18,3,0,1] (by kernel_rfl) (sl':=(18,.v (.bool false)) :: (3,.v (.int .i64 ((k : Int) - 1))) :: [(0,.v (.func (.yield l) #[] #[])),(1,.q (some ⟨Bn,0,none⟩) 0)]) (bx':=[]) (by kernel_rfl) ?_
   refine JOI_end (by kernel_rfl) ?_
   refine JEI_then ?_
   refine JCI_cond false (by kernel_rfl) (fun h=>by cases h) (fun _=>?_)
   refine JCI_skip ?_
   refine JEI_block_normal ?_
   refine JEI_then ?_
   refine JCI_region ?_
   refine JOI_stepsK wl_wide 3 [3,0,1] (by kernel_rfl) (sl':=(3,.v (.int .i64 (w64 ((k : Int) - 1 - 1)))) :: [(0,.v (.func (.yield l) #[] #[])),(1,.q (some ⟨Bn,0,none⟩) 0)]) (bx':=[]) (by kernel_rfl) ?_
   refine JOI_end (by kernel_rfl) ?_
   intro δ2 a2 w2 hl2 hs2
   obtain rfl : δ2 = []:=List.length_eq_zero_iff.1 (by simpa using hs2.len)
   have e1 : w64 ((k : Int) - 1 - 1) = ((k - 1 : Nat) : Int) - 1:=by rw [w64_id (by omega)]; omega
   rw [e1] at hl2
   refine ⟨⟨pre ++ [((k : Int) - 1,x)],k - 1,by omega,?_,hl2,abides_kept hJ hJ3 hs2.kept,hB3.trans (hs2.kept.below hB3.size),(hs2.kept.block Bn (Array.getElem?_eq_some_iff.1 hbx3).1 (fun x=>x)).trans hbx3⟩,?_⟩
   ·rw [List.map_append,hpre,show xs.length - (k - 1) = (xs.length - k) + 1 by omega,List.take_add_one,List.getElem?_reverse (by omega),show xs.length - 1 - (xs.length - k) = k - 1 by omega,hx]
    rfl
   ·rw [mu3_of hl2 rfl]
    omega
  ·refine ⟨false,rfl,fun a' hla=>?_⟩
   have hg0 : γ = []:=List.length_eq_zero_iff.1 (by simpa using hs.len)
   subst hg0
   refine (show JOI Fence.wide m Tryz.prog (fun _=>False) W3 [] 19 [] _ _ _ [] [] _ from ?_) [] a' W3 hla (sat_start W3)
   refine JOI_stepsK wl_wide 1 [18] (by kernel_rfl) (sl':=[(18,.v (.bool true))]) (bx':=[]) (by kernel_rfl) ?_
   refine JOI_end (by kernel_rfl) ?_
   refine JEI_then ?_
   refine JCI_cond true (by kernel_rfl) (fun _=>?_) (fun h=>by cases h)
   refine JCI_ret ?_
   intro δ2 a2 w2 hl2 hs2
   have h9:=results_ok (P:=Tryz.prog) (fn:=Tryz.f248) (a:={ a2 with defers:=[] }) (vs:=[]) hl2.1 hs2 (by kernel_rfl)
   refine ⟨hl2.2,_,h9,⟨_,rfl⟩,.inr ⟨pre ++ [((k : Int) - 1,x)],⟨xs.length - (k - 1),?_⟩,abides_kept hJx hJx3 hs2.kept⟩⟩
   rw [List.map_append,hpre,show xs.length - (k - 1) = (xs.length - k) + 1 by omega,List.take_add_one,List.getElem?_reverse (by omega),show xs.length - 1 - (xs.length - k) = k - 1 by omega,hx]
   rfl
 ·have hk0 : k = 0:=by have:=of_decide_eq_false hb; omega
  subst hk0
  refine JCI_exit ?_
  refine JEI_then_exit ?_
  refine JEI_then_exit ?_
  refine JEI_block_hit ?_
  intro δ2 a2 w2 hl2 hs2
  have h9:=results_ok (P:=Tryz.prog) (fn:=Tryz.f248) (a:={ a2 with defers:=[] }) (vs:=[]) hl2.1 hs2 (by kernel_rfl)
  refine ⟨hl2.2,_,h9,⟨_,rfl⟩,.inl ⟨pre,?_,abides_kept hJ hJ1 hs2.kept⟩⟩
  show pre.map (·.2) = xs.reverse
  rw [hpre,Nat.sub_zero,List.take_of_length_le (by simp)]
theorem c_impl_ValueAt {W : World} {x0 : Store} {a0 : Option Addr} {c0 : Nat} {x1 x2 x3 : Int} {r : Int × Bool} (h : impl_ValueAt x0 x1 x2 x3 = some r) (hv : SlView W x0.Facts a0 c0) :
  Gives0 Tryz.prog 216 #[.agg #[.slice a0 x0.Facts.length c0],.int .i64 x1,.int .i64 x2,.int .i64 x3] W (.tuple #[.int .i64 r.1,.bool r.2]):=by
 unfold impl_ValueAt at h
 cases hlb : decide ((x0.Facts.length : Int) ≤ 1099511627776) with
 | false=>rw [hlb] at h; cases h
 | true =>
 rw [hlb] at h
 have hlen : x0.Facts.length ≤ 1099511627776:=by have:=of_decide_eq_true hlb; omega
 replace h:=Option.some.inj h
 refine enterMk (args:=[.agg #[.slice a0 x0.Facts.length c0],.int .i64 x1,.int .i64 x2,.int .i64 x3]) 9 Tryz.func216 rfl Tryz.ntmps216 (by kernel_rfl) ?_
 refine JCI_seq ?_
 refine JCI_region ?_
 refine JOI_stepsK wl_wide 6 [4,5,6,7,8,9] (by kernel_rfl) (sl':=[(4,.p 0 0),(5,.p 1 0),(6,.p 2 0),(7,.p 3 0),(8,.p 4 0),(9,.p 5 0)]) (bx':=[(45,[.slice a0 x0.Facts.length c0]),(3,[.int .i64 x1]),(3,[.int .i64 x2]),(3,[.int .i64 x3]),(3,[.int .i64 0]),(4,[.bool false])]) (by kernel_rfl) ?_
 refine JOI_end (by kernel_rfl) ?_
 refine JEI_then ?_
 refine JCI_seq ?_
 refine JCI_seq ?_
 refine JCI_region ?_
 refine JOI_stepsK wl_wide 2 [13,4,5,6,7,8,9] (by kernel_rfl) (sl':=[(13,vs a0 x0.Facts c0),(4,.p 0 0),(5,.p 1 0),(6,.p 2 0),(7,.p 3 0),(8,.p 4 0),(9,.p 5 0)]) (bx':=[(45,[.slice a0 x0.Facts.length c0]),(3,[.int .i64 x1]),(3,[.int .i64 x2]),(3,[.int .i64 x3]),(3,[.int .i64 0]),(4,[.bool false])]) (by kernel_rfl) ?_
 refine JOI_callbox wl_wide rfl rfl (by kernel_rfl) (f:=236) (gf:=248) (args:=#[.slice a0 x0.Facts.length c0]) (by kernel_rfl) (e:=43) (cs:=[.slice a0 x0.Facts.length c0]) (fun w=>back_Fact_new a0 x0.Facts.length c0 w) (sl':=[(14,.f 248 [(6,0)]),(13,vs a0 x0.Facts c0),(4,.p 0 0),(5,.p 1 0),(6,.p 2 0),(7,.p 3 0),(8,.p 4 0),(9,.p 5 0)]) (by kernel_rfl) ?_
 refine JOI_end (by kernel_rfl) ?_
 refine JEI_then ?_
 refine JCI_block ?_
 refine JCI_back (xs:=x0.Facts) (kb:=6) (gf:=248) (slB:=[(11,.p 7 0),(5,.p 1 0),(6,.p 2 0),(7,.p 3 0),(8,.p 4 0),(9,.p 5 0)]) (ad:=a0) (cap:=c0) (tS:=43) (tv:=84) (bx:=[(45,[.slice a0 x0.Facts.length c0]),(3,[.int .i64 x1]),(3,[.int .i64 x2]),(3,[.int .i64 x3]),(3,[.int .i64 0]),(4,[.bool false]),(43,[.slice a0 x0.Facts.length c0])])
  (fun x=>.agg #[.int .i64 x.Key,.int .i64 x.From,.int .i64 x.To,.int .i64 x.Known,.int .i64 x.Value]) (hitFact x1 x2 x3) (fun v=>[(45,[.slice a0 x0.Facts.length c0]),(3,[.int .i64 x1]),(3,[.int .i64 x2]),(3,[.int .i64 x3]),(3,[.int .i64 v]),(4,[.bool true]),(43,[.slice a0 x0.Facts.length c0])]) (by decide) (by kernel_rfl) rfl (Go.Proofs.enters_of Tryz.func248 (by kernel_rfl) rfl) (by kernel_rfl) (by kernel_rfl)
  (fun Bn w1 hb1 hB0 hbox=>back_Fact hv hlen 8 Bn w1 hb1 hB0 hbox) ?hA ?hB ?hdone ?hstop
 case hA =>
  intro l x W2 γ Q hγ hQ
  refine JCI_region ?_
  refine JOI_stepsK (wl_round l) 2 [11,5,6,7,8,9] (by kernel_rfl) (sl':=[(11,.p 7 0),(5,.p 1 0),(6,.p 2 0),(7,.p 3 0),(8,.p 4 0),(9,.p 5 0)]) (bx':=[(45,[.slice a0 x0.Facts.length c0]),(3,[.int .i64 x1]),(3,[.int .i64 x2]),(3,[.int .i64 x3]),(3,[.int .i64 0]),(4,[.bool false]),(43,[.slice a0 x0.Facts.length c0])] ++ [(84,[.int .i64 x.2.Key,.int .i64 x.2.From,.int .i64 x.2.To,.int .i64 x.2.Known,.int .i64 x.2.Value])]) (by kernel_rfl) ?_
  refine JOI_end (by kernel_rfl) ?_
  intro δ a w hl hs
  have hδ : δ.length = 1:=by have:=hs.len; simp only [List.length_append,hγ] at this; simp at this; omega
  obtain ⟨gx,rfl⟩:=List.length_eq_one_iff.1 hδ
  exact hQ gx a w hl hs
 case hB =>
  intro l x W2 γ hγ
  refine JCI_block ?_
  refine JCI_seq ?_
  refine JCI_region ?_
  have fin : ∀ b : Bool,(b = false → hitFact x1 x2 x3 x = none) → (b = true → hitFact x1 x2 x3 x = some x.Value) → JEI (fun b=>b ∈ γ) W2 [] 41 γ .normal [(38,.v (.bool b)),(11,.p 7 0),(5,.p 1 0),(6,.p 2 0),(7,.p 3 0),(8,.p 4 0),(9,.p 5 0)] ([(45,[.slice a0 x0.Facts.length c0]),(3,[.int .i64 x1]),(3,[.int .i64 x2]),(3,[.int .i64 x3]),(3,[.int .i64 0]),(4,[.bool false]),(43,[.slice a0 x0.Facts.length c0])] ++ [(84,[.int .i64 x.Key,.int .i64 x.From,.int .i64 x.To,.int .i64 x.Known,.int .i64 x.Value])]) []
    (Exit.then (fun a w=>(Code.cond (.tmp 38) (Code.seq (Code.region 4 #[(Oper.mk (some 39) (Op.fieldAddr 84 (Operand.tmp 11) 4) 0 "l05_facts.go:49" #[] none),(Oper.mk (some 40) (Op.load 3 (Operand.tmp 39)) 3 "l05_facts.go:49" #[(Edge.mk 0 Ground.data)] none),(Oper.mk none (Op.store 3 (Operand.tmp 8) (Operand.tmp 40)) 0 "l05_facts.go:49" #[(Edge.mk 1 Ground.data),(Edge.mk 0 Ground.phase),(Edge.mk 1 Ground.phase)] none),(Oper.mk none (Op.store 4 (Operand.tmp 9) (Operand.const (Value.bool true))) 0 "l05_facts.go:49" #[(Edge.mk 2 Ground.chain),(Edge.mk 0 Ground.phase),(Edge.mk 1 Ground.phase),(Edge.mk 2 Ground.phase)] none)] false) .ret) .skip).wpIn (Fence.wide.inRound l) 7 Tryz.prog (Exit.inBlock 1 (QB (hitFact x1 x2 x3) (fun v=>[(45,[.slice a0 x0.Facts.length c0]),(3,[.int .i64 x1]),(3,[.int .i64 x2]),(3,[.int .i64 x3]),(3,[.int .i64 v]),(4,[.bool true]),(43,[.slice a0 x0.Facts.length c0])]) ([(45,[.slice a0 x0.Facts.length c0]),(3,[.int .i64 x1]),(3,[.int .i64 x2]),(3,[.int .i64 x3]),(3,[.int .i64 0]),(4,[.bool false]),(43,[.slice a0 x0.Facts.length c0])]) x W2 γ γ)) a w) (Exit.inBlock 1 (QB (hitFact x1 x2 x3) (fun v=>[(45,[.slice a0 x0.Facts.length c0]),(3,[.int .i64 x1]),(3,[.int .i64 x2]),(3,[.int .i64 x3]),(3,[.int .i64 v]),(4,[.bool true]),(43,[.slice a0 x0.Facts.length c0])]) ([(45,[.slice a0 x0.Facts.length c0]),(3,[.int .i64 x1]),(3,[.int .i64 x2]),(3,[.int .i64 x3]),(3,[.int .i64 0]),(4,[.bool false]),(43,[.slice a0 x0.Facts.length c0])]) x W2 γ γ))):=by
   intro b hbf hbt
   refine JEI_then ?_
   refine JCI_cond b rfl (fun e=>?_) (fun e=>?_)
   ·subst e
    refine JCI_seq ?_
    refine JCI_region ?_
    refine JOI_stepsK (wl_round l) 4 [8,9] (by kernel_rfl) (sl':=[(8,.p 4 0),(9,.p 5 0)]) (bx':=[(45,[.slice a0 x0.Facts.length c0]),(3,[.int .i64 x1]),(3,[.int .i64 x2]),(3,[.int .i64 x3]),(3,[.int .i64 x.Value]),(4,[.bool true]),(43,[.slice a0 x0.Facts.length c0]),(84,[.int .i64 x.Key,.int .i64 x.From,.int .i64 x.To,.int .i64 x.Known,.int .i64 x.Value])]) (by kernel_rfl) ?_
    refine JOI_end (by kernel_rfl) ?_
    refine JEI_then ?_
    refine JCI_ret ?_
    refine JEI_block_ret ?_
    exact fun δ a w hl hs=>⟨x.Value,hbt rfl,δ,_,rfl,hs⟩
   ·subst e
    refine JCI_skip ?_
    refine JEI_block_normal ?_
    exact fun δ a w hl hs=>⟨hbf rfl,δ,_,rfl,hs⟩
  refine JOI_stepsK (wl_round l) 4 [20,11,5,6,7,8,9] (by kernel_rfl) (sl':=[(20,.v (.bool (x.Key == x1))),(11,.p 7 0),(5,.p 1 0),(6,.p 2 0),(7,.p 3 0),(8,.p 4 0),(9,.p 5 0)]) (bx':=[(45,[.slice a0 x0.Facts.length c0]),(3,[.int .i64 x1]),(3,[.int .i64 x2]),(3,[.int .i64 x3]),(3,[.int .i64 0]),(4,[.bool false]),(43,[.slice a0 x0.Facts.length c0])] ++ [(84,[.int .i64 x.Key,.int .i64 x.From,.int .i64 x.To,.int .i64 x.Known,.int .i64 x.Value])]) (by kernel_rfl) ?_
  refine JOI_stepsK (wl_round l) 1 [21,11,5,6,7,8,9] (by kernel_rfl) (sl':=[(21,.v (.bool (x.Key == x1))),(11,.p 7 0),(5,.p 1 0),(6,.p 2 0),(7,.p 3 0),(8,.p 4 0),(9,.p 5 0)]) (bx':=[(45,[.slice a0 x0.Facts.length c0]),(3,[.int .i64 x1]),(3,[.int .i64 x2]),(3,[.int .i64 x3]),(3,[.int .i64 0]),(4,[.bool false]),(43,[.slice a0 x0.Facts.length c0])] ++ [(84,[.int .i64 x.Key,.int .i64 x.From,.int .i64 x.To,.int .i64 x.Known,.int .i64 x.Value])]) (by kernel_rfl) ?_
  refine JOI_split 21 (x.Key == x1) (by kernel_rfl) (fun b1=>?_) (fun b1=>?_)
  ·refine JOI_stepsK (wl_round l) 6 [27,11,5,6,7,8,9] (by kernel_rfl) (sl':=[(27,.v (.bool (decide (x.From ≤ x2)))),(11,.p 7 0),(5,.p 1 0),(6,.p 2 0),(7,.p 3 0),(8,.p 4 0),(9,.p 5 0)]) (bx':=[(45,[.slice a0 x0.Facts.length c0]),(3,[.int .i64 x1]),(3,[.int .i64 x2]),(3,[.int .i64 x3]),(3,[.int .i64 0]),(4,[.bool false]),(43,[.slice a0 x0.Facts.length c0])] ++ [(84,[.int .i64 x.Key,.int .i64 x.From,.int .i64 x.To,.int .i64 x.Known,.int .i64 x.Value])]) (by kernel_rfl) ?_
   refine JOI_split 27 (decide (x.From ≤ x2)) (by kernel_rfl) (fun b2=>?_) (fun b2=>?_)
   ·refine JOI_stepsK (wl_round l) 6 [33,11,5,6,7,8,9] (by kernel_rfl) (sl':=[(33,.v (.bool (decide (x2 < x.To)))),(11,.p 7 0),(5,.p 1 0),(6,.p 2 0),(7,.p 3 0),(8,.p 4 0),(9,.p 5 0)]) (bx':=[(45,[.slice a0 x0.Facts.length c0]),(3,[.int .i64 x1]),(3,[.int .i64 x2]),(3,[.int .i64 x3]),(3,[.int .i64 0]),(4,[.bool false]),(43,[.slice a0 x0.Facts.length c0])] ++ [(84,[.int .i64 x.Key,.int .i64 x.From,.int .i64 x.To,.int .i64 x.Known,.int .i64 x.Value])]) (by kernel_rfl) ?_
    refine JOI_split 33 (decide (x2 < x.To)) (by kernel_rfl) (fun b3=>?_) (fun b3=>?_)
    ·refine JOI_stepsK (wl_round l) 5 [38,11,5,6,7,8,9] (by kernel_rfl) (sl':=[(38,.v (.bool (decide (x.Known ≤ x3)))),(11,.p 7 0),(5,.p 1 0),(6,.p 2 0),(7,.p 3 0),(8,.p 4 0),(9,.p 5 0)]) (bx':=[(45,[.slice a0 x0.Facts.length c0]),(3,[.int .i64 x1]),(3,[.int .i64 x2]),(3,[.int .i64 x3]),(3,[.int .i64 0]),(4,[.bool false]),(43,[.slice a0 x0.Facts.length c0])] ++ [(84,[.int .i64 x.Key,.int .i64 x.From,.int .i64 x.To,.int .i64 x.Known,.int .i64 x.Value])]) (by kernel_rfl) ?_
     refine JOI_end (by kernel_rfl) ?_
     exact fin _ (fun e=>by simp [hitFact,b1,b2,b3,e]) (fun e=>by simp [hitFact,b1,b2,b3,e])
    ·refine JOI_stepsK (wl_round l) 5 [38,11,5,6,7,8,9] (by kernel_rfl) (sl':=[(38,.v (.bool false)),(11,.p 7 0),(5,.p 1 0),(6,.p 2 0),(7,.p 3 0),(8,.p 4 0),(9,.p 5 0)]) (bx':=[(45,[.slice a0 x0.Facts.length c0]),(3,[.int .i64 x1]),(3,[.int .i64 x2]),(3,[.int .i64 x3]),(3,[.int .i64 0]),(4,[.bool false]),(43,[.slice a0 x0.Facts.length c0])] ++ [(84,[.int .i64 x.Key,.int .i64 x.From,.int .i64 x.To,.int .i64 x.Known,.int .i64 x.Value])]) (by kernel_rfl) ?_
     refine JOI_end (by kernel_rfl) ?_
     exact fin _ (fun e=>by simp [hitFact,b1,b2,b3]) (fun e=>by cases e)
   ·refine JOI_stepsK (wl_round l) 11 [38,11,5,6,7,8,9] (by kernel_rfl) (sl':=[(38,.v (.bool false)),(11,.p 7 0),(5,.p 1 0),(6,.p 2 0),(7,.p 3 0),(8,.p 4 0),(9,.p 5 0)]) (bx':=[(45,[.slice a0 x0.Facts.length c0]),(3,[.int .i64 x1]),(3,[.int .i64 x2]),(3,[.int .i64 x3]),(3,[.int .i64 0]),(4,[.bool false]),(43,[.slice a0 x0.Facts.length c0])] ++ [(84,[.int .i64 x.Key,.int .i64 x.From,.int .i64 x.To,.int .i64 x.Known,.int .i64 x.Value])]) (by kernel_rfl) ?_
    refine JOI_end (by kernel_rfl) ?_
    exact fin _ (fun e=>by simp [hitFact,b1,b2]) (fun e=>by cases e)
  ·refine JOI_stepsK (wl_round l) 17 [38,11,5,6,7,8,9] (by kernel_rfl) (sl':=[(38,.v (.bool false)),(11,.p 7 0),(5,.p 1 0),(6,.p 2 0),(7,.p 3 0),(8,.p 4 0),(9,.p 5 0)]) (bx':=[(45,[.slice a0 x0.Facts.length c0]),(3,[.int .i64 x1]),(3,[.int .i64 x2]),(3,[.int .i64 x3]),(3,[.int .i64 0]),(4,[.bool false]),(43,[.slice a0 x0.Facts.length c0])] ++ [(84,[.int .i64 x.Key,.int .i64 x.From,.int .i64 x.To,.int .i64 x.Known,.int .i64 x.Value])]) (by kernel_rfl) ?_
   refine JOI_end (by kernel_rfl) ?_
   exact fin _ (fun e=>by simp [hitFact,b1]) (fun e=>by cases e)
 case hdone =>
  intro hn D W2 γ hD hK hs0
  rw [hn] at h
  subst h
  refine JEI_block_normal ?_
  refine JEI_then ?_
  refine JCI_seq ?_
  refine JCI_region ?_
  refine JOI_stepsK wl_wide 2 [8,9] (by kernel_rfl) (sl':=[(8,.p 4 0),(9,.p 5 0)]) (bx':=[(45,[.slice a0 x0.Facts.length c0]),(3,[.int .i64 x1]),(3,[.int .i64 x2]),(3,[.int .i64 x3]),(3,[.int .i64 0]),(4,[.bool false]),(43,[.slice a0 x0.Facts.length c0])]) (by kernel_rfl) ?_
  refine JOI_end (by kernel_rfl) ?_
  refine JEI_then ?_
  refine JCI_ret ?_
  exact JEI_retM (vs:=[.int .i64 0,.bool false]) (by kernel_rfl) hD hK hs0 (fun w' hb=>⟨rfl,hb⟩)
 case hstop =>
  intro v hn D W2 γ hD hK hs0
  rw [hn] at h
  subst h
  refine JEI_block_ret ?_
  refine JEI_then_ret ?_
  exact JEI_retM (vs:=[.int .i64 v,.bool true]) (by kernel_rfl) hD hK hs0 (fun w' hb=>⟨rfl,hb⟩)
theorem c_impl_FinalPay {W : World} {x0 : Store} {a0_0 : Option Addr} {c0_0 : Nat} {x1 : Int} {x2 : Int} {r : Int × Bool} (h : impl_FinalPay x0 x1 x2 = some r) (hv0_0 : SlView W x0.Facts a0_0 c0_0) :
  Gives0 Tryz.prog 180 #[vStore x0 (a0_0,c0_0),.int .i64 x1,.int .i64 x2] W (.tuple #[.int .i64 r.1,.bool r.2]):=by
 unfold impl_FinalPay at h
 refine en Tryz.func180 Tryz.ntmps180 ?_
 refine qs (qr (oB 3 [(3,.p 0 0)] [1,2] [(45,(eStore x0 (a0_0,c0_0)))] ?_))
 refine oe (nt (qs (qs ?_)))
 obtain ⟨a9,aa,ab⟩:=bS h
 refine JC_cut (τ:=Unit) (fun _=>[(1,vi x1),(2,vi x2),(3,.p 0 0),(18,vb a9)]) (fun _=>[(45,(eStore x0 (a0_0,c0_0)))]) (fun _=>[]) ?_ (fun _=>?_)
 ·refine qr (oN 1 [(11,.v (vStore x0 (a0_0,c0_0)))] [3,1,2] ?_)
  obtain ⟨ac,ae,af⟩:=bS aa
  refine k0 (fun _ w hs=>c_impl_StoreOk ae (hv0_0.k hs)) ?_
  refine oN 2 [(14,vb (!ac))] [3,1,2] ?_
  refine oS 14 af (fun ag=>?_) (fun ah=>?_)
  ·refine oN 4 [(18,vb true)] [3,1,2] ?_
   refine oe ?_
   obtain rfl:=sI ag
   exact mt () [1,2,3,18] [] 1
  refine oN 1 [(15,vi x1)] [14,3,1,2] ?_
  obtain ⟨ai,aj,ak⟩:=bS ah
  refine k0 (fun _ w hs=>c_impl_isEnd aj) ?_
  refine oN 2 [(18,vb (!ai))] [3,1,2] ?_
  refine oe ?_
  obtain rfl:=sI ak
  exact mt () [1,2,3,18] [] 1
 refine nt (cC ab (fun al=>?_) (fun am=>?_))
 ·refine qs (qr (oN 2 [(7,vb false),(6,vi 0)] [] ?_))
  refine oe (nt (qe (nr ?_)))
  obtain rfl:=sI al
  exact re [.int .i64 0,.bool false]
 refine qk (nt (qs (qs (qr (oN 3 [(8,vi (w64 (x1 - 1)))] [2,3] ?_)))))
 refine oe (nt ?_)
 obtain ⟨b7,an,a5⟩:=bS am
 obtain ⟨ao,ap,a5⟩:=brkS a5
 refine JC_cutP (τ:=(Unit) × (Unit)) (fun y=>ao y.1 = some r) (fun a6=>[]) (fun a6=>[(45,(eStore x0 (a0_0,c0_0)))]) (fun a6=>[]) ?_ (fun a6 aq=>?_)
 ·refine qb (lp Unit an (fun a3 a7=>[(8,vi a3),(2,vi x2),(3,.p 0 0)]) (fun a3 a7=>[(45,(eStore x0 (a0_0,c0_0)))]) (fun a3 a7=>[]) () [8,2,3] [] 1 (fun a3 a7 b8 ar a8=>?_))
  refine qs (qs (qr (oN 2 [(22,vb (decide (a3 ≥ 0)))] [8,2,3] ?_)))
  refine oe (nt (cC ar (fun au=>?_) (fun av=>?_)))
  ·refine qk (nt (qs (qb (qs (qr (oN 3 [(28,vi x2),(27,vi a3),(26,.v (vStore x0 (a0_0,c0_0)))] [8,2,3] ?_))))))
   obtain ⟨a4,aw,ax⟩:=bS au
   refine k0 (fun _ w hs=>c_impl_ValueAt aw (hv0_0.k hs)) ?_
   refine oN 5 [(10,vb a4.2),(9,vi a4.1)] [8,2,3] ?_
   refine oe (nt (qs (qr (oN 1 [(32,vb a4.2)] [9,8,2,3] ?_))))
   refine oe (nt (cC ax (fun ay=>?_) (fun az=>?_)))
   ·refine qs (qr (oN 3 [(7,vb true),(6,vi a4.1)] [] ?_))
    refine oe (nt (qe (br (nr (nr ?_)))))
    have b4:=leafR a8 ay a5
    refine br (nr (nr ?_))
    obtain rfl:=sI b4
    exact re [.int .i64 a4.1,.bool true]
   refine qk (bn (nt (qr (oN 3 [(8,vi (w64 (a3 - 1)))] [2,3] ?_))))
   exact oe (ct az () [8,2,3] [] 1)
  refine qx (nx (nx (bh ?_)))
  have b5:=leafB a8 av a5
  exact mp ((),()) b5 [] [] 1
 have b6:=(congrFun ap _).symm.trans aq
 refine nt (qs (qr (oN 2 [(7,vb false),(6,vi 0)] [] ?_)))
 refine oe (nt (qe ?_))
 obtain rfl:=sI b6
 exact re [.int .i64 0,.bool false]
theorem c_impl_IndexAt {W : World} {x0 : Series} {a0_0 : Option Addr} {c0_0 : Nat} {x1 : Int} {x2 : Int} {r : Int × Bool} (h : impl_IndexAt x0 x1 x2 = some r) (hv0_0 : SlView W x0.Points a0_0 c0_0) :
  Gives0 Tryz.prog 217 #[vSeries x0 (a0_0,c0_0),.int .i64 x1,.int .i64 x2] W (.tuple #[.int .i64 r.1,.bool r.2]):=by
 unfold impl_IndexAt at h
 refine en Tryz.func217 Tryz.ntmps217 ?_
 refine qs (qr (oB 3 [(3,.p 0 0)] [1,2] [(48,(eSeries x0 (a0_0,c0_0)))] ?_))
 refine oe (nt (qs (qr (oB 3 [(8,.p 1 0)] [3,1,2] [(48,(eSeries x0 (a0_0,c0_0))),(85,(ePoint (Point.mk 0 0 0)))] ?_))))
 refine oe (nt (qs (qr (oN 1 [(9,vb false)] [8,3,1,2] ?_))))
 refine oe (nt (qs (qs (qr (oN 4 [(16,vi 0),(15,vi (x0.Points.length : Int)),(14,vs a0_0 x0.Points c0_0)] [9,8,1,2] ?_)))))
 refine oe (nt ?_)
 obtain ⟨b9,aa,a7⟩:=bS h
 obtain ⟨ab,ac,a7⟩:=brkS a7
 refine JC_cutP (τ:=(Bool × Int × Int × Int) × (Unit)) (fun y=>ab y.1 = some r) (fun a5=>[(9,vb a5.1.1),(8,.p 1 0)]) (fun a5=>[(48,(eSeries x0 (a0_0,c0_0))),(85,(ePoint (Point.mk a5.1.2.1 a5.1.2.2.1 a5.1.2.2.2)))]) (fun a5=>[]) ?_ (fun a5 ae=>?_)
 ·refine qb (lp Unit aa (fun a3 a8=>[(16,vi a3.1),(15,vi (x0.Points.length : Int)),(14,vs a0_0 x0.Points c0_0),(9,vb a3.2.1),(8,.p 1 0),(1,vi x1),(2,vi x2)]) (fun a3 a8=>[(48,(eSeries x0 (a0_0,c0_0))),(85,(ePoint (Point.mk a3.2.2.1 a3.2.2.2.1 a3.2.2.2.2)))]) (fun a3 a8=>[]) () [16,15,14,9,8,1,2] [] 2 (fun a3 a8 af ag ah=>?_))
  refine qs (qr (oN 1 [(17,vb (decide (a3.1 < (x0.Points.length : Int))))] [16,15,14,9,8,1,2] ?_))
  refine oe (nt (qs (cC ag (fun ai=>?_) (fun aj=>?_))))
  ·refine qk (nt (qs (qb (qs (qr ?_)))))
   obtain ⟨a4,a9,ak⟩:=bS ai
   refine oi 3 (fun _ w hs=>(hv0_0.k hs)) a9 ?_
   refine ol 85 0 (vPoint a4) (fun _ w hs=>(hv0_0.k hs).flatq a9) ?_
   refine oB 2 [(11,.p 2 0)] [16,15,14,9,8,1,2] [(48,(eSeries x0 (a0_0,c0_0))),(85,(ePoint (Point.mk a3.2.2.1 a3.2.2.2.1 a3.2.2.2.2))),(85,(ePoint a4))] ?_
   refine oe (nt (qs ?_))
   obtain ⟨al,am,an⟩:=bS ak
   refine JC_cut (τ:=Unit) (fun _=>[(1,vi x1),(2,vi x2),(8,.p 1 0),(9,vb a3.2.1),(11,.p 2 0),(14,vs a0_0 x0.Points c0_0),(15,vi (x0.Points.length : Int)),(16,vi a3.1),(40,vb al)]) (fun _=>[(48,(eSeries x0 (a0_0,c0_0))),(85,(ePoint (Point.mk a3.2.2.1 a3.2.2.2.1 a3.2.2.2.2))),(85,(ePoint a4))]) (fun _=>[]) ?_ (fun _=>?_)
   ·refine qr (oN 5 [(24,vb (decide (a4.Month ≤ x1)))] [11,16,15,14,9,8,1,2] ?_)
    refine oS 24 am (fun ao=>?_) (fun ap=>?_)
    ·refine oN 6 [(30,vb (decide (a4.Known ≤ x2)))] [11,16,15,14,9,8,1,2] ?_
     refine oS 30 ao (fun aq=>?_) (fun ar=>?_)
     ·refine oN 3 [(33,vb (!a3.2.1))] [30,11,16,15,14,9,8,1,2] ?_
      refine oS 33 aq (fun au=>?_) (fun av=>?_)
      ·refine oN 7 [(40,vb true)] [11,16,15,14,9,8,1,2] ?_
       refine oe ?_
       obtain rfl:=sI au
       exact mt () [1,2,8,9,11,14,15,16,40] [] 3
      refine oN 7 [(40,vb (decide (a4.Month ≥ a3.2.2.1)))] [11,16,15,14,9,8,1,2] ?_
      refine oe ?_
      obtain rfl:=sI av
      exact mt () [1,2,8,9,11,14,15,16,40] [] 3
     refine oN 10 [(40,vb false)] [11,16,15,14,9,8,1,2] ?_
     refine oe ?_
     obtain rfl:=sI ar
     exact mt () [1,2,8,9,11,14,15,16,40] [] 3
    refine oN 16 [(40,vb false)] [11,16,15,14,9,8,1,2] ?_
    refine oe ?_
    obtain rfl:=sI ap
    exact mt () [1,2,8,9,11,14,15,16,40] [] 3
   refine nt ?_
   obtain ⟨aw,ax,ay⟩:=jS an
   refine JC_cutP (τ:=(Bool × Int × Int × Int) × (Unit)) (fun y=>aw y.1 = some af) (fun a6=>[(1,vi x1),(2,vi x2),(8,.p 1 0),(9,vb a6.1.1),(14,vs a0_0 x0.Points c0_0),(15,vi (x0.Points.length : Int)),(16,vi a3.1)]) (fun a6=>[(48,(eSeries x0 (a0_0,c0_0))),(85,(ePoint (Point.mk a6.1.2.1 a6.1.2.2.1 a6.1.2.2.2))),(85,(ePoint a4))]) (fun a6=>[]) ?_ (fun a6 az=>?_)
   ·refine cC ay (fun b4=>?_) (fun b5=>?_)
    ·refine qr (oB 3 [(9,vb true)] [1,2,8,14,15,16] [(48,(eSeries x0 (a0_0,c0_0))),(85,(ePoint a4)),(85,(ePoint a4))] ?_)
     exact oe (mp ((true,a4.Month,a4.Known,a4.Value),()) b4 [1,2,8,9,14,15,16] [] 3)
    exact qk (mp ((a3.2.1,a3.2.2.1,a3.2.2.2.1,a3.2.2.2.2),()) b5 [1,2,8,9,14,15,16] [] 3)
   have b6:=(congrFun ax _).symm.trans az
   refine bn (nt (qr (oN 2 [(16,vi (w64 (a3.1 + 1)))] [1,2,8,9,14,15] ?_)))
   exact oe (ct b6 () [16,15,14,9,8,1,2] [] 2)
  refine qx (nx (nx (bh ?_)))
  have b7:=leafB ah aj a7
  exact mp ((a3.2.1,a3.2.2.1,a3.2.2.2.1,a3.2.2.2.2),()) b7 [9,8] [] 2
 have b8:=(congrFun ac _).symm.trans ae
 refine nt (qs (qr (oN 5 [(7,vb a5.1.1),(6,vi a5.1.2.2.2)] [] ?_)))
 refine oe (nt (qe ?_))
 obtain rfl:=sI b8
 exact re [.int .i64 a5.1.2.2.2,.bool a5.1.1]
theorem c_impl_reduced {W : World} {x0 : Int} {x1 : Int} {r : Frac × Bool} (h : impl_reduced x0 x1 = some r)  :
  Gives0 Tryz.prog 183 #[.int .i64 x0,.int .i64 x1] W (.tuple #[vFrac r.1,.bool r.2]):=by
 unfold impl_reduced at h
 refine en Tryz.func183 Tryz.ntmps183 ?_
 refine qs (qr (oB 2 [(4,.p 0 0)] [0,1] [(216,(eFrac (Frac.mk 0 0)))] ?_))
 refine oe (nt (qs (qs (qr (oN 2 [(9,vb (decide (x1 < 0)))] [4,0,1] ?_)))))
 refine oe (nt ?_)
 obtain ⟨a5,a6,a7⟩:=jS h
 refine JC_cutP (τ:=(Int × Int) × (Unit)) (fun y=>a5 y.1 = some r) (fun a3=>[(4,.p 0 0),(0,vi a3.1.1),(1,vi a3.1.2)]) (fun a3=>[(216,(eFrac (Frac.mk 0 0)))]) (fun a3=>[]) ?_ (fun a3 a8=>?_)
 ·refine cC a7 (fun a9=>?_) (fun aa=>?_)
  ·refine qr (oN 6 [(1,vi (w64 (0 - x1))),(0,vi (w64 (0 - x0)))] [4] ?_)
   exact oe (mp ((w64 (0 - x0),w64 (0 - x1)),()) a9 [4,0,1] [] 1)
  exact qk (mp ((x0,x1),()) aa [4,0,1] [] 1)
 have ab:=(congrFun a6 _).symm.trans a8
 refine nt (qs (qr (oN 2 [(15,vi a3.1.2),(14,vi a3.1.1)] [4,0,1] ?_)))
 obtain ⟨a4,ac,ae⟩:=bS ab
 refine k0 (fun γ w hs=>c_impl_gcd ac) ?_
 refine oN 1 [(6,vi a4)] [4,0,1] ?_
 refine oe (nt (qs ?_))
 obtain ⟨ao,af,ag⟩:=bS ae
 obtain ⟨ap,ah,ai⟩:=bS ag
 refine JC_cut (τ:=Unit) (fun _=>[(7,.p 1 0),(4,.p 0 0)]) (fun _=>[(216,(eFrac (Frac.mk 0 0))),(216,(eFrac (Frac.mk (w64 (Int.tdiv a3.1.1 a4)) (w64 (Int.tdiv a3.1.2 a4)))))]) (fun _=>[]) ?_ (fun _=>?_)
 ·refine jw [6,4,0,1] [] ?_
  refine JC_heldN (ks:=[0]) (Rk:=[]) 9 (by kernel_rfl) (by kernel_rfl) ?_
  refine htq 0 (vi a3.1.1) [] ?_
  refine hk [17,6,4,1] ?_
  refine htq 1 (vi a4) [] ?_
  refine ht 2 (vi (w64 (Int.tdiv a3.1.1 a4))) [] (div_held (op:=.quo) (k:=.i64) (x:=a3.1.1) (y:=a4) (by kernel_rfl) (nz_some af)) ?_
  refine hk [19,6,4,1] ?_
  refine htq 3 (vi a3.1.2) [] ?_
  refine hk [20,19,6,4] ?_
  refine htq 4 (vi a4) [] ?_
  refine hk [21,20,19,4] ?_
  refine ht 5 (vi (w64 (Int.tdiv a3.1.2 a4))) [] (div_held (op:=.quo) (k:=.i64) (x:=a3.1.2) (y:=a4) (by kernel_rfl) (nz_some ah)) ?_
  refine hk [22,19,4] ?_
  refine htq 6 (.v (vFrac (Frac.mk (w64 (Int.tdiv a3.1.1 a4)) (w64 (Int.tdiv a3.1.2 a4))))) [] ?_
  refine hk [23,4] ?_
  refine ha1 7 ?_
  refine hi (fun γ0 δ hm=>?_)
  refine gs [(7,.p 1 0),(23,.v (vFrac (Frac.mk (w64 (Int.tdiv a3.1.1 a4)) (w64 (Int.tdiv a3.1.2 a4))))),(4,.p 0 0)] [(216,(eFrac (Frac.mk 0 0))),(216,(eFrac (Frac.mk 0 0)))] (fun δ2=>?_)
  refine gd hm [7,23,4] [] ?_
  refine ha1 8 ?_
  refine hi (fun γ0 δ hm=>?_)
  refine gs [(7,.p 1 0),(23,.v (vFrac (Frac.mk (w64 (Int.tdiv a3.1.1 a4)) (w64 (Int.tdiv a3.1.2 a4))))),(4,.p 0 0)] [(216,(eFrac (Frac.mk 0 0))),(216,(eFrac (Frac.mk (w64 (Int.tdiv a3.1.1 a4)) (w64 (Int.tdiv a3.1.2 a4)))))] (fun δ2=>?_)
  refine gd hm [7,4] [] ?_
  exact hd () [7,4] [] 2
 refine nt (qs (qs (qr (oN 1 [(24,.v (vFrac (Frac.mk (w64 (Int.tdiv a3.1.1 a4)) (w64 (Int.tdiv a3.1.2 a4)))))] [7,4] ?_))))
 obtain ⟨aj,ak,al⟩:=bS ai
 refine k0 (fun γ w hs=>c_impl_FracOk ak) ?_
 refine oN 1 [(26,vb (!aj))] [7,4] ?_
 refine oe (nt (cC al (fun am=>?_) (fun an=>?_)))
 ·refine qs (qr (oN 3 [(5,vb false)] [4] ?_))
  refine oe (nt (qe (nr ?_)))
  obtain rfl:=sI am
  exact re [vFrac (Frac.mk 0 0),.bool false]
 refine qk (nt (qs (qr (oB 3 [(5,vb true)] [4] [(216,(eFrac (Frac.mk (w64 (Int.tdiv a3.1.1 a4)) (w64 (Int.tdiv a3.1.2 a4))))),(216,(eFrac (Frac.mk (w64 (Int.tdiv a3.1.1 a4)) (w64 (Int.tdiv a3.1.2 a4)))))] ?_))))
 refine oe (nt (qe ?_))
 obtain rfl:=sI an
 exact re [vFrac (Frac.mk (w64 (Int.tdiv a3.1.1 a4)) (w64 (Int.tdiv a3.1.2 a4))),.bool true]
theorem c_impl_FracNew {W : World} {x0 : Int} {x1 : Int} {r : Frac × Bool} (h : impl_FracNew x0 x1 = some r)  :
  Gives0 Tryz.prog 218 #[.int .i64 x0,.int .i64 x1] W (.tuple #[vFrac r.1,.bool r.2]):=by
 unfold impl_FracNew at h
 refine en Tryz.func218 Tryz.ntmps218 ?_
 refine qs (qr (oB 2 [(4,.p 0 0)] [0,1] [(216,(eFrac (Frac.mk 0 0)))] ?_))
 refine oe (nt (qs (qs ?_)))
 obtain ⟨a4,a5,a6⟩:=bS h
 refine JC_cut (τ:=Unit) (fun _=>[(0,vi x0),(1,vi x1),(4,.p 0 0),(17,vb a4)]) (fun _=>[(216,(eFrac (Frac.mk 0 0)))]) (fun _=>[]) ?_ (fun _=>?_)
 ·refine qr (oN 3 [(8,vb (x1 == 0))] [4,0,1] ?_)
  refine oS 8 a5 (fun a7=>?_) (fun a8=>?_)
  ·refine oN 9 [(17,vb true)] [4,0,1] ?_
   refine oe ?_
   obtain rfl:=sI a7
   exact mt () [0,1,4,17] [] 1
  refine oN 1 [(9,vi x0)] [8,4,0,1] ?_
  obtain ⟨a9,aa,ab⟩:=bS a8
  refine k0 (fun _ w hs=>c_impl_within aa) ?_
  refine oN 3 [(13,vb (!a9))] [4,0,1] ?_
  refine oS 13 ab (fun ac=>?_) (fun ae=>?_)
  ·refine oN 4 [(17,vb true)] [4,0,1] ?_
   refine oe ?_
   obtain rfl:=sI ac
   exact mt () [0,1,4,17] [] 1
  refine oN 1 [(14,vi x1)] [13,4,0,1] ?_
  obtain ⟨af,ag,ah⟩:=bS ae
  refine k0 (fun _ w hs=>c_impl_within ag) ?_
  refine oN 2 [(17,vb (!af))] [4,0,1] ?_
  refine oe ?_
  obtain rfl:=sI ah
  exact mt () [0,1,4,17] [] 1
 refine nt (cC a6 (fun ai=>?_) (fun aj=>?_))
 ·refine qs (qr (oN 3 [(5,vb false)] [4] ?_))
  refine oe (nt (qe (nr ?_)))
  obtain rfl:=sI ai
  exact re [vFrac (Frac.mk 0 0),.bool false]
 refine qk (nt (qs (qr (oN 2 [(20,vi x1),(19,vi x0)] [4] ?_))))
 obtain ⟨a3,ak,al⟩:=bS aj
 refine k0 (fun _ w hs=>c_impl_reduced ak) ?_
 refine oB 4 [(5,vb a3.2)] [4] [(216,(eFrac a3.1))] ?_
 refine oe (nt (qe ?_))
 obtain rfl:=sI al
 exact re [vFrac a3.1,.bool a3.2]
theorem c_impl_IndexRatio {W : World} {x0 : Series} {a0_0 : Option Addr} {c0_0 : Nat} {x1 : Int} {x2 : Int} {x3 : Int} {r : Frac × Bool} (h : impl_IndexRatio x0 x1 x2 x3 = some r) (hv0_0 : SlView W x0.Points a0_0 c0_0) :
  Gives0 Tryz.prog 181 #[vSeries x0 (a0_0,c0_0),.int .i64 x1,.int .i64 x2,.int .i64 x3] W (.tuple #[vFrac r.1,.bool r.2]):=by
 unfold impl_IndexRatio at h
 refine en Tryz.func181 Tryz.ntmps181 ?_
 refine qs (qr (oB 3 [(8,.p 1 0),(4,.p 0 0)] [1,2,3] [(48,(eSeries x0 (a0_0,c0_0))),(216,(eFrac (Frac.mk 0 0)))] ?_))
 refine oe (nt (qs (qr (oN 3 [(17,vi x3),(16,vi x1),(15,.v (vSeries x0 (a0_0,c0_0)))] [8,4,2,3] ?_))))
 obtain ⟨a3,a6,a7⟩:=bS h
 refine k0 (fun _ w hs=>c_impl_IndexAt a6 (hv0_0.k hs)) ?_
 refine oN 5 [(11,vb a3.2),(10,vi a3.1)] [8,4,2,3] ?_
 refine oe (nt (qs (qr (oN 3 [(24,vi x3),(23,vi x2),(22,.v (vSeries x0 (a0_0,c0_0)))] [11,10,8] ?_))))
 obtain ⟨a4,a8,a9⟩:=bS a7
 refine k0 (fun _ w hs=>c_impl_IndexAt a8 (hv0_0.k hs)) ?_
 refine oN 5 [(13,vb a4.2),(12,vi a4.1)] [11,10,8] ?_
 refine oe (nt (qs (qs ?_)))
 obtain ⟨aa,ab,ac⟩:=bS a9
 refine JC_cut (τ:=Unit) (fun _=>[(8,.p 1 0),(10,vi a3.1),(12,vi a4.1),(33,vb aa)]) (fun _=>[(48,(eSeries x0 (a0_0,c0_0))),(216,(eFrac (Frac.mk 0 0)))]) (fun _=>[]) ?_ (fun _=>?_)
 ·refine qr (oN 3 [(30,vb (!a3.2))] [13,12,10,8] ?_)
  refine oS 30 ab (fun ae=>?_) (fun af=>?_)
  ·refine oN 3 [(33,vb true)] [12,10,8] ?_
   refine oe ?_
   obtain rfl:=sI ae
   exact mt () [8,10,12,33] [] 2
  refine oN 3 [(33,vb (!a4.2))] [12,10,8] ?_
  refine oe ?_
  obtain rfl:=sI af
  exact mt () [8,10,12,33] [] 2
 refine nt (cC ac (fun ag=>?_) (fun ah=>?_))
 ·refine qs (qr (oN 3 [(9,vb false)] [8] ?_))
  refine oe (nt (qe (nr ?_)))
  obtain rfl:=sI ag
  exact re [vFrac (Frac.mk 0 0),.bool false]
 refine qk (nt (qs (qr (oN 2 [(36,vi a3.1),(35,vi a4.1)] [8] ?_))))
 obtain ⟨a5,ai,aj⟩:=bS ah
 refine k0 (fun _ w hs=>c_impl_FracNew ai) ?_
 refine oB 4 [(9,vb a5.2)] [8] [(48,(eSeries x0 (a0_0,c0_0))),(216,(eFrac a5.1))] ?_
 refine oe (nt (qe ?_))
 obtain rfl:=sI aj
 exact re [vFrac a5.1,.bool a5.2]
/-- Which function value slices.Backward gives. -/
theorem back_Event_new (ad : Option Addr) (n cap : Nat) (w : World) : Calls Tryz.prog 219 #[.slice ad n cap] w fun e w'=>e = .returned (.func (.func 237) #[] #[.pointer (some ⟨w.heap.size,0,none⟩)]) ∧ w' = w.alloc (.cells #[.slice ad n cap] 50):=by
 refine (callsIn_wide (n:=5)).1 (callsIn_of_wp Tryz.func219 rfl trivial ?_ rfl)
 simp only [Tryz.ntmps219,List.size_toArray,List.length_cons,List.length_nil,Nat.reduceAdd,Nat.reduceSub,Array.replicate_succ,Array.replicate_zero,List.push_toArray,List.append_toArray,List.nil_append,List.cons_append]
 gi_wp2
 go_ret
 exact ⟨rfl,rfl⟩
set_option maxHeartbeats 1000000 in
/-- The iterator over a slice from its end. -/
theorem back_Event {W0 : World} {xs : List Event} {ad : Option Addr} {cap : Nat} (hv : SlView W0 xs ad cap) (hlen : xs.length ≤ 1099511627776) (m : Nat) (Bn : Nat) (w1 : World) (hb1 : Below W0.heap.size W0 w1) (hB0 : W0.heap.size ≤ Bn) (hbox : w1.heap[Bn]? = some (.cells #[.slice ad xs.length cap] 50 (0,0))) :
  SeqStopsK Fence.wide m Tryz.prog 237 #[.pointer (some ⟨Bn,0,none⟩)] (fun x : Int × Event=>#[.int .i64 x.1,.agg #[.int .i64 x.2.Kind,.int .i64 x.2.Month]]) (KpB W0.heap.size Bn) (fun ys=>ys.map (·.2) = xs.reverse) (fun pre=>∃ k,pre.map (·.2) = xs.reverse.take k) xs.length w1:=by
 intro l J Jx W hW hJ hJx hY h0
 have hbl:=(Array.getElem?_eq_some_iff.1 hbox).1
 have hbW : W.heap[Bn]? = some (.cells #[.slice ad xs.length cap] 50 (0,0)):=(hW.block Bn hbl).trans hbox
 have hBW : Below W0.heap.size W0 W:=hb1.trans (hW.mono hb1.size)
 have hview : ∀ X,Below W0.heap.size W0 X → SlView X xs ad cap:=fun X h=>hv.stable (fun g hg=>h.block g hg)
 refine callsIn_of_wp Tryz.func237 rfl trivial ?_ rfl
 rw [Tryz.ntmps237]
 refine (show JCI Fence.wide m Tryz.prog (fun _=>False) W [] 19 [] _ (argSV 0 [.v (.func (.yield l) #[] #[]),.q (some ⟨Bn,0,none⟩) 0]) [] [] _ from ?_) [] _ W (live_args (args:=[.func (.yield l) #[] #[],.pointer (some ⟨Bn,0,none⟩)]) [.v (.func (.yield l) #[] #[]),.q (some ⟨Bn,0,none⟩) 0] (by simp [SV.den]) rfl rfl) (sat_start W)
 refine JCI_seq ?_
 refine JCI_region ?_
 refine JOI_loadq wl_wide rfl rfl (by kernel_rfl) (t:=50) (d:=some ⟨Bn,0,none⟩) 0 0 (by kernel_rfl) (cs:=[.slice ad xs.length cap]) (v:=.slice ad xs.length cap) (fun γ w hs=>⟨by simp,(CellsAt.ofBox hbW).kept hs.kept⟩) (by kernel_rfl) (sl':=(4,vs ad xs cap) :: [(0,.v (.func (.yield l) #[] #[])),(1,.q (some ⟨Bn,0,none⟩) 0)]) (by kernel_rfl) ?_
 refine JOI_stepsK wl_wide 3 [3,0,1] (by kernel_rfl) (sl':=(3,.v (.int .i64 (w64 ((xs.length : Int) - 1)))) :: [(0,.v (.func (.yield l) #[] #[])),(1,.q (some ⟨Bn,0,none⟩) 0)]) (bx':=[]) (by kernel_rfl) ?_
 refine JOI_end (by kernel_rfl) ?_
 refine JEI_then ?_
 refine JCI_block ?_
 intro δ a w hl hs
 obtain rfl : δ = []:=List.length_eq_zero_iff.1 (by simpa using hs.len)
 refine wpIn_loop (fun a w=>∃ (pre : List (Int × Event)) (k : Nat),k ≤ xs.length ∧ pre.map (·.2) = xs.reverse.take (xs.length - k) ∧ LiveD [] 19 [] ((3,.v (.int .i64 ((k : Int) - 1))) :: [(0,.v (.func (.yield l) #[] #[])),(1,.q (some ⟨Bn,0,none⟩) 0)]) a ∧ J pre w ∧ Below W0.heap.size W0 w ∧ w.heap[Bn]? = some (.cells #[.slice ad xs.length cap] 50 (0,0)))
  (fun a w=>mu3 a)
  ⟨[],xs.length,Nat.le_refl _,by simp,by rw [w64_id (by omega)] at hl; exact hl,abides_kept hJ h0 hs.kept,hBW.trans (hs.kept.below hBW.size),(hs.kept.block Bn (Array.getElem?_eq_some_iff.1 hbW).1 (fun x=>x)).trans hbW⟩ ?_
 rintro a w ⟨pre,k,hk,hpre,hl,hJ1,hB1,hbx⟩
 have hmu : mu3 a = k:=by
  rw [mu3_of hl rfl]
  omega
 rw [hmu]
 have hprel : pre.length = xs.length - k:=by
  have:=congrArg List.length hpre
  simpa using this
 refine (show JCI Fence.wide m Tryz.prog (fun _=>False) w [] 19 [] _ ((3,.v (.int .i64 ((k : Int) - 1))) :: [(0,.v (.func (.yield l) #[] #[])),(1,.q (some ⟨Bn,0,none⟩) 0)]) [] [] _ from ?_) [] a w hl (sat_start w)
 refine JCI_seq ?_
 refine JCI_seq ?_
 refine JCI_region ?_
 refine JOI_stepsK wl_wide 2 [8,3,0,1] (by kernel_rfl) (sl':=(8,.v (.bool (decide ((k : Int) - 1 ≥ 0)))) :: (3,.v (.int .i64 ((k : Int) - 1))) :: [(0,.v (.func (.yield l) #[] #[])),(1,.q (some ⟨Bn,0,none⟩) 0)]) (bx':=[]) (by kernel_rfl) ?_
 refine JOI_end (by kernel_rfl) ?_
 refine JEI_then ?_
 refine JCI_cond (decide ((k : Int) - 1 ≥ 0)) (by kernel_rfl) (fun hb=>?_) (fun hb=>?_)
 ·have hk1 : 1 ≤ k:=by have:=of_decide_eq_true hb; omega
  obtain ⟨x,hx⟩ : ∃ x,xs[k - 1]? = some x:=⟨_,List.getElem?_eq_getElem (by omega)⟩
  have hidx : idx xs ((k : Int) - 1) = some x:=by
   unfold idx
   rw [if_pos (by omega),show ((k : Int) - 1).toNat = k - 1 by omega]
   exact hx
  refine JCI_skip ?_
  refine JEI_then ?_
  refine JCI_seq ?_
  refine JCI_block ?_
  refine JCI_seq ?_
  refine JCI_region ?_
  refine JOI_stepsK wl_wide 2 [12,11,3,0,1] (by kernel_rfl) (sl':=(12,.v (.int .i64 ((k : Int) - 1))) :: (11,.v (.func (.yield l) #[] #[])) :: (3,.v (.int .i64 ((k : Int) - 1))) :: [(0,.v (.func (.yield l) #[] #[])),(1,.q (some ⟨Bn,0,none⟩) 0)]) (bx':=[]) (by kernel_rfl) ?_
  refine JOI_loadq wl_wide rfl rfl (by kernel_rfl) (t:=50) (d:=some ⟨Bn,0,none⟩) 0 0 (by kernel_rfl) (cs:=[.slice ad xs.length cap]) (v:=.slice ad xs.length cap) (fun γ w hs=>⟨by simp,(CellsAt.ofBox hbx).kept hs.kept⟩) (by kernel_rfl) (sl':=(13,vs ad xs cap) :: (12,.v (.int .i64 ((k : Int) - 1))) :: (11,.v (.func (.yield l) #[] #[])) :: (3,.v (.int .i64 ((k : Int) - 1))) :: [(0,.v (.func (.yield l) #[] #[])),(1,.q (some ⟨Bn,0,none⟩) 0)]) (by kernel_rfl) ?_
  refine JOI_stepsK wl_wide 1 [14,13,12,11,3,0,1] (by kernel_rfl) (sl':=(14,.v (.int .i64 ((k : Int) - 1))) :: (13,vs ad xs cap) :: (12,.v (.int .i64 ((k : Int) - 1))) :: (11,.v (.func (.yield l) #[] #[])) :: (3,.v (.int .i64 ((k : Int) - 1))) :: [(0,.v (.func (.yield l) #[] #[])),(1,.q (some ⟨Bn,0,none⟩) 0)]) (bx':=[]) (by kernel_rfl) ?_
  refine JOI_index wl_wide rfl rfl (by kernel_rfl) (d:=ad) (mm:=xs.length) (j:=(k : Int) - 1) (s:=2) (by kernel_rfl) (fun γ w' hs=>(hview w hB1).k hs) rfl hidx (sl':=(15,.q ad (Int.toNat ((k : Int) - 1) * 2)) :: (14,.v (.int .i64 ((k : Int) - 1))) :: (13,vs ad xs cap) :: (12,.v (.int .i64 ((k : Int) - 1))) :: (11,.v (.func (.yield l) #[] #[])) :: (3,.v (.int .i64 ((k : Int) - 1))) :: [(0,.v (.func (.yield l) #[] #[])),(1,.q (some ⟨Bn,0,none⟩) 0)]) (by kernel_rfl) ?_
  refine JOI_loadq wl_wide rfl rfl (by kernel_rfl) (t:=195) (d:=ad) (Int.toNat ((k : Int) - 1) * 2) 0 (by kernel_rfl) (cs:=[.int .i64 x.Kind,.int .i64 x.Month]) (v:=.agg #[.int .i64 x.Kind,.int .i64 x.Month]) (fun γ w' hs=>((hview w hB1).k hs).flatq hidx) (by kernel_rfl) (sl':=(16,.v (.agg #[.int .i64 x.Kind,.int .i64 x.Month])) :: (15,.q ad (Int.toNat ((k : Int) - 1) * 2)) :: (14,.v (.int .i64 ((k : Int) - 1))) :: (13,vs ad xs cap) :: (12,.v (.int .i64 ((k : Int) - 1))) :: (11,.v (.func (.yield l) #[] #[])) :: (3,.v (.int .i64 ((k : Int) - 1))) :: [(0,.v (.func (.yield l) #[] #[])),(1,.q (some ⟨Bn,0,none⟩) 0)]) (by kernel_rfl) ?_
  refine JOI_yield wl_wide rfl rfl (by kernel_rfl) rfl rfl (y:=l) (by kernel_rfl) (args:=[.int .i64 ((k : Int) - 1),.agg #[.int .i64 x.Kind,.int .i64 x.Month]]) (by kernel_rfl) rfl (by kernel_rfl) (fun γ w' hs=>hY pre ((k : Int) - 1,x) w' (abides_kept hJ hJ1 hs.kept) (by omega)) ?_
  rintro γ w' hs e W3 (⟨rfl,hJ3,hk3⟩ | ⟨rfl,hJx3⟩)
  ·refine ⟨true,rfl,fun a' hla=>?_⟩
   have hg0 : γ = []:=List.length_eq_zero_iff.1 (by simpa using hs.len)
   subst hg0
   have hBw' : Below W0.heap.size W0 w':=hB1.trans (hs.kept.below hB1.size)
   have hbx' : w'.heap[Bn]? = some (.cells #[.slice ad xs.length cap] 50 (0,0)):=(hs.kept.block Bn (Array.getElem?_eq_some_iff.1 hbx).1 (fun x=>x)).trans hbx
   have hB3 : Below W0.heap.size W0 W3:=hBw'.trans hk3.1
   have hbx3 : W3.heap[Bn]? = some (.cells #[.slice ad xs.length cap] 50 (0,0)):=hk3.2.trans hbx'
   refine (show JOI Fence.wide m Tryz.prog (fun _=>False) W3 [] 19 [] _ _ _ [] [] _ from ?_) [] a' W3 hla (sat_start W3)
   refine JOI_stepsK wl_wide 1 [18,3,0,1] (by kernel_rfl) (sl':=(18,.v (.bool false)) :: (3,.v (.int .i64 ((k : Int) - 1))) :: [(0,.v (.func (.yield l) #[] #[])),(1,.q (some ⟨Bn,0,none⟩) 0)]) (bx':=[]) (by kernel_rfl) ?_
   refine JOI_end (by kernel_rfl) ?_
   refine JEI_then ?_
   refine JCI_cond false (by kernel_rfl) (fun h=>by cases h) (fun _=>?_)
   refine JCI_skip ?_
   refine JEI_block_normal ?_
   refine JEI_then ?_
   refine JCI_region ?_
   refine JOI_stepsK wl_wide 3 [3,0,1] (by kernel_rfl) (sl':=(3,.v (.int .i64 (w64 ((k : Int) - 1 - 1)))) :: [(0,.v (.func (.yield l) #[] #[])),(1,.q (some ⟨Bn,0,none⟩) 0)]) (bx':=[]) (by kernel_rfl) ?_
   refine JOI_end (by kernel_rfl) ?_
   intro δ2 a2 w2 hl2 hs2
   obtain rfl : δ2 = []:=List.length_eq_zero_iff.1 (by simpa using hs2.len)
   have e1 : w64 ((k : Int) - 1 - 1) = ((k - 1 : Nat) : Int) - 1:=by rw [w64_id (by omega)]; omega
   rw [e1] at hl2
   refine ⟨⟨pre ++ [((k : Int) - 1,x)],k - 1,by omega,?_,hl2,abides_kept hJ hJ3 hs2.kept,hB3.trans (hs2.kept.below hB3.size),(hs2.kept.block Bn (Array.getElem?_eq_some_iff.1 hbx3).1 (fun x=>x)).trans hbx3⟩,?_⟩
   ·rw [List.map_append,hpre,show xs.length - (k - 1) = (xs.length - k) + 1 by omega,List.take_add_one,List.getElem?_reverse (by omega),show xs.length - 1 - (xs.length - k) = k - 1 by omega,hx]
    rfl
   ·rw [mu3_of hl2 rfl]
    omega
  ·refine ⟨false,rfl,fun a' hla=>?_⟩
   have hg0 : γ = []:=List.length_eq_zero_iff.1 (by simpa using hs.len)
   subst hg0
   refine (show JOI Fence.wide m Tryz.prog (fun _=>False) W3 [] 19 [] _ _ _ [] [] _ from ?_) [] a' W3 hla (sat_start W3)
   refine JOI_stepsK wl_wide 1 [18] (by kernel_rfl) (sl':=[(18,.v (.bool true))]) (bx':=[]) (by kernel_rfl) ?_
   refine JOI_end (by kernel_rfl) ?_
   refine JEI_then ?_
   refine JCI_cond true (by kernel_rfl) (fun _=>?_) (fun h=>by cases h)
   refine JCI_ret ?_
   intro δ2 a2 w2 hl2 hs2
   have h9:=results_ok (P:=Tryz.prog) (fn:=Tryz.f237) (a:={ a2 with defers:=[] }) (vs:=[]) hl2.1 hs2 (by kernel_rfl)
   refine ⟨hl2.2,_,h9,⟨_,rfl⟩,.inr ⟨pre ++ [((k : Int) - 1,x)],⟨xs.length - (k - 1),?_⟩,abides_kept hJx hJx3 hs2.kept⟩⟩
   rw [List.map_append,hpre,show xs.length - (k - 1) = (xs.length - k) + 1 by omega,List.take_add_one,List.getElem?_reverse (by omega),show xs.length - 1 - (xs.length - k) = k - 1 by omega,hx]
   rfl
 ·have hk0 : k = 0:=by have:=of_decide_eq_false hb; omega
  subst hk0
  refine JCI_exit ?_
  refine JEI_then_exit ?_
  refine JEI_then_exit ?_
  refine JEI_block_hit ?_
  intro δ2 a2 w2 hl2 hs2
  have h9:=results_ok (P:=Tryz.prog) (fn:=Tryz.f237) (a:={ a2 with defers:=[] }) (vs:=[]) hl2.1 hs2 (by kernel_rfl)
  refine ⟨hl2.2,_,h9,⟨_,rfl⟩,.inl ⟨pre,?_,abides_kept hJ hJ1 hs2.kept⟩⟩
  show pre.map (·.2) = xs.reverse
  rw [hpre,Nat.sub_zero,List.take_of_length_le (by simp)]
theorem c_impl_MonthOfKind {W : World} {x0 : List Event} {a0 : Option Addr} {c0 : Nat} {x1 : Int} {r : Int} (h : impl_MonthOfKind x0 x1 = some r) (hv : SlView W x0 a0 c0) :
  Gives0 Tryz.prog 182 #[.slice a0 x0.length c0,.int .i64 x1] W (.int .i64 r):=by
 unfold impl_MonthOfKind at h
 obtain ⟨t,ht,h⟩:=bS h
 refine enterMk (args:=[.slice a0 x0.length c0,.int .i64 x1]) 9 Tryz.func182 rfl Tryz.ntmps182 (by kernel_rfl) ?_
 refine JCI_seq ?_
 refine JCI_region ?_
 refine JOI_stepsK wl_wide 2 [0,3,4] (by kernel_rfl) (sl':=[(0,vs a0 x0 c0),(3,.p 0 0),(4,.p 1 0)]) (bx':=[(3,[.int .i64 x1]),(3,[.int .i64 0])]) (by kernel_rfl) ?_
 refine JOI_end (by kernel_rfl) ?_
 refine JEI_then ?_
 refine JCI_seq ?_
 refine JCI_seq ?_
 refine JCI_region ?_
 refine JOI_stepsK wl_wide 1 [7,0,3,4] (by kernel_rfl) (sl':=[(7,vs a0 x0 c0),(0,vs a0 x0 c0),(3,.p 0 0),(4,.p 1 0)]) (bx':=[(3,[.int .i64 x1]),(3,[.int .i64 0])]) (by kernel_rfl) ?_
 refine JOI_call0 wl_wide rfl rfl (by kernel_rfl) (f:=178) (args:=#[.slice a0 x0.length c0]) (by kernel_rfl) (x:=.bool t) (fun γ w hs=>(by have vv:=c_impl_EventsOk (W:=w) ht (hv.k hs); exact vv)) (sl':=[(8,.v (.bool t)),(7,vs a0 x0 c0),(0,vs a0 x0 c0),(3,.p 0 0),(4,.p 1 0)]) (by kernel_rfl) ?_
 refine JOI_stepsK wl_wide 1 [9,0,3,4] (by kernel_rfl) (sl':=[(9,.v (.bool (!t))),(0,vs a0 x0 c0),(3,.p 0 0),(4,.p 1 0)]) (bx':=[(3,[.int .i64 x1]),(3,[.int .i64 0])]) (by kernel_rfl) ?_
 refine JOI_end (by kernel_rfl) ?_
 refine JEI_then ?_
 refine JCI_cond (!t) (by kernel_rfl) (fun bt=>?_) (fun bt=>?_)
 ·rw [bt] at h
  have hr : (-1 : Int) = r:=Option.some.inj h
  subst hr
  refine JCI_seq ?_
  refine JCI_region ?_
  refine JOI_stepsK wl_wide 1 [4] (by kernel_rfl) (sl':=[(4,.p 1 0)]) (bx':=[(3,[.int .i64 x1]),(3,[.int .i64 (-1)])]) (by kernel_rfl) ?_
  refine JOI_end (by kernel_rfl) ?_
  refine JEI_then ?_
  refine JCI_ret ?_
  refine JEI_then_ret ?_
  exact JEI_ret0 (vs:=[.int .i64 (-1)]) (by kernel_rfl) (fun γ w hs=>⟨rfl,hs.kept.toBelow⟩)
 rw [bt] at h
 refine JCI_skip ?_
 refine JEI_then ?_
 cases hlb : decide ((x0.length : Int) ≤ 1099511627776) with
 | false=>rw [hlb] at h; cases h
 | true =>
 rw [hlb] at h
 have hlen : x0.length ≤ 1099511627776:=by have:=of_decide_eq_true hlb; omega
 replace h:=Option.some.inj h
 refine JCI_seq ?_
 refine JCI_seq ?_
 refine JCI_region ?_
 refine JOI_stepsK wl_wide 1 [10,3,4] (by kernel_rfl) (sl':=[(10,vs a0 x0 c0),(3,.p 0 0),(4,.p 1 0)]) (bx':=[(3,[.int .i64 x1]),(3,[.int .i64 0])]) (by kernel_rfl) ?_
 refine JOI_callbox wl_wide rfl rfl (by kernel_rfl) (f:=219) (gf:=237) (args:=#[.slice a0 x0.length c0]) (by kernel_rfl) (e:=50) (cs:=[.slice a0 x0.length c0]) (fun w=>back_Event_new a0 x0.length c0 w) (sl':=[(11,.f 237 [(2,0)]),(10,vs a0 x0 c0),(3,.p 0 0),(4,.p 1 0)]) (by kernel_rfl) ?_
 refine JOI_end (by kernel_rfl) ?_
 refine JEI_then ?_
 refine JCI_block ?_
 refine JCI_back (xs:=x0) (kb:=2) (gf:=237) (slB:=[(6,.p 3 0),(3,.p 0 0),(4,.p 1 0)]) (ad:=a0) (cap:=c0) (tS:=50) (tv:=195) (bx:=[(3,[.int .i64 x1]),(3,[.int .i64 0]),(50,[.slice a0 x0.length c0])])
  (fun x=>.agg #[.int .i64 x.Kind,.int .i64 x.Month]) (hitEvent x1) (fun v=>[(3,[.int .i64 x1]),(3,[.int .i64 v]),(50,[.slice a0 x0.length c0])]) (by decide) (by kernel_rfl) rfl (Go.Proofs.enters_of Tryz.func237 (by kernel_rfl) rfl) (by kernel_rfl) (by kernel_rfl)
  (fun Bn w1 hb1 hB0 hbox=>back_Event hv hlen 8 Bn w1 hb1 hB0 hbox) ?hA ?hB ?hdone ?hstop
 case hA =>
  intro l x W2 γ Q hγ hQ
  refine JCI_region ?_
  refine JOI_stepsK (wl_round l) 2 [6,3,4] (by kernel_rfl) (sl':=[(6,.p 3 0),(3,.p 0 0),(4,.p 1 0)]) (bx':=[(3,[.int .i64 x1]),(3,[.int .i64 0]),(50,[.slice a0 x0.length c0]),(195,[.int .i64 x.2.Kind,.int .i64 x.2.Month])]) (by kernel_rfl) ?_
  refine JOI_end (by kernel_rfl) ?_
  intro δ a w hl hs
  have hδ : δ.length = 1:=by have:=hs.len; simp only [List.length_append,hγ] at this; simp at this; omega
  obtain ⟨gx,rfl⟩:=List.length_eq_one_iff.1 hδ
  exact hQ gx a w hl hs
 case hB =>
  intro l x W2 γ hγ
  refine JCI_block ?_
  refine JCI_seq ?_
  refine JCI_region ?_
  refine JOI_stepsK (wl_round l) 4 [17,6,3,4] (by kernel_rfl) (sl':=[(17,.v (.bool (x.Kind == x1))),(6,.p 3 0),(3,.p 0 0),(4,.p 1 0)]) (bx':=[(3,[.int .i64 x1]),(3,[.int .i64 0]),(50,[.slice a0 x0.length c0]),(195,[.int .i64 x.Kind,.int .i64 x.Month])]) (by kernel_rfl) ?_
  refine JOI_end (by kernel_rfl) ?_
  refine JEI_then ?_
  refine JCI_cond (x.Kind == x1) rfl (fun b1=>?_) (fun b1=>?_)
  ·refine JCI_seq ?_
   refine JCI_region ?_
   refine JOI_stepsK (wl_round l) 3 [4] (by kernel_rfl) (sl':=[(4,.p 1 0)]) (bx':=[(3,[.int .i64 x1]),(3,[.int .i64 x.Month]),(50,[.slice a0 x0.length c0]),(195,[.int .i64 x.Kind,.int .i64 x.Month])]) (by kernel_rfl) ?_
   refine JOI_end (by kernel_rfl) ?_
   refine JEI_then ?_
   refine JCI_ret ?_
   refine JEI_block_ret ?_
   exact fun δ a w hl hs=>⟨x.Month,by simp [hitEvent,b1],δ,_,rfl,hs⟩
  ·refine JCI_skip ?_
   refine JEI_block_normal ?_
   exact fun δ a w hl hs=>⟨by simp [hitEvent,b1],δ,_,rfl,hs⟩
 case hdone =>
  intro hn D W2 γ hD hK hs0
  rw [hn] at h
  have hr : (-1 : Int) = r:=h
  subst hr
  refine JEI_block_normal ?_
  refine JEI_then ?_
  refine JCI_seq ?_
  refine JCI_region ?_
  refine JOI_stepsK wl_wide 1 [4] (by kernel_rfl) (sl':=[(4,.p 1 0)]) (bx':=[(3,[.int .i64 x1]),(3,[.int .i64 (-1)]),(50,[.slice a0 x0.length c0])]) (by kernel_rfl) ?_
  refine JOI_end (by kernel_rfl) ?_
  refine JEI_then ?_
  refine JCI_ret ?_
  exact JEI_retM (vs:=[.int .i64 (-1)]) (by kernel_rfl) hD hK hs0 (fun w' hb=>⟨rfl,hb⟩)
 case hstop =>
  intro v hn D W2 γ hD hK hs0
  rw [hn] at h
  have hr : v = r:=h
  subst hr
  refine JEI_block_ret ?_
  refine JEI_then_ret ?_
  exact JEI_retM (vs:=[.int .i64 v]) (by kernel_rfl) hD hK hs0 (fun w' hb=>⟨rfl,hb⟩)
theorem c_impl_MonthsIn {W : World} {x0 : Int} {x1 : Int} {x2 : Int} {x3 : Int} {r : Int} (h : impl_MonthsIn x0 x1 x2 x3 = some r)  :
  Gives0 Tryz.prog 221 #[.int .i64 x0,.int .i64 x1,.int .i64 x2,.int .i64 x3] W (.int .i64 r):=by
 unfold impl_MonthsIn at h
 refine en Tryz.func221 Tryz.ntmps221 ?_
 refine qs (qr (oN 1 [] [0,1,2,3] ?_))
 refine oe (nt (qs (qs (qr (oN 4 [(12,vi x3),(11,vi x2),(10,vi x1),(9,vi x0)] [0,1,2,3] ?_)))))
 refine ob [] [] 3 4 [.int .i64 x0,.int .i64 x1,.int .i64 x2,.int .i64 x3] ([x0,x1,x2,x3] : List Int) (own_flat (by kernel_rfl)) (fun a8=>?_)
 obtain ⟨a3,a4,a5⟩:=bS h
 refine k0 (fun _ w hs=>c_impl_allWithin a4 (hs.view 0 rfl)) ?_
 refine oN 1 [(15,vb (!a3))] [0,1,2,3] ?_
 refine oe (nt (cC a5 (fun a6=>?_) (fun a7=>?_)))
 ·refine qs (qr (oN 1 [(8,vi 0)] [] ?_))
  refine oe (nt (qe (nr ?_)))
  obtain rfl:=sI a6
  exact re [.int .i64 0]
 refine qk (nt (qs (qr (oN 9 [(8,vi (imax 0 (w64 ((imin x1 x3) - (imax x0 x2)))))] [] ?_))))
 refine oe (nt (qe ?_))
 obtain rfl:=sI a7
 exact re [.int .i64 (imax 0 (w64 ((imin x1 x3) - (imax x0 x2))))]
theorem c_impl_ServiceIn {W : World} {x0 : List Spell} {a0_0 : Option Addr} {c0_0 : Nat} {x1 : Int} {x2 : Int} {r : Int} (h : impl_ServiceIn x0 x1 x2 = some r) (hv0_0 : SlView W x0 a0_0 c0_0) :
  Gives0 Tryz.prog 184 #[.slice a0_0 x0.length c0_0,.int .i64 x1,.int .i64 x2] W (.int .i64 r):=by
 unfold impl_ServiceIn at h
 refine en Tryz.func184 Tryz.ntmps184 ?_
 refine qs (qr (oN 1 [] [0,1,2] ?_))
 refine oe (nt (qs (qs ?_)))
 obtain ⟨ab,ac,ae⟩:=bS h
 refine JC_cut (τ:=Unit) (fun _=>[(0,vs a0_0 x0 c0_0),(1,vi x1),(2,vi x2),(22,vb ab)]) (fun _=>[]) (fun _=>[]) ?_ (fun _=>?_)
 ·refine qr (oN 1 [(10,vs a0_0 x0 c0_0)] [0,1,2] ?_)
  obtain ⟨af,ag,ah⟩:=bS ac
  refine k0 (fun _ w hs=>c_impl_SpellsOk ag (hv0_0.k hs)) ?_
  refine oN 2 [(13,vb (!af))] [0,1,2] ?_
  refine oS 13 ah (fun ai=>?_) (fun aj=>?_)
  ·refine oN 9 [(22,vb true)] [0,1,2] ?_
   refine oe ?_
   obtain rfl:=sI ai
   exact mt () [0,1,2,22] [] 0
  refine oN 1 [(14,vi x1)] [13,0,1,2] ?_
  obtain ⟨ak,al,am⟩:=bS aj
  refine k0 (fun _ w hs=>c_impl_isEnd al) ?_
  refine oN 3 [(18,vb (!ak))] [0,1,2] ?_
  refine oS 18 am (fun an=>?_) (fun ao=>?_)
  ·refine oN 4 [(22,vb true)] [0,1,2] ?_
   refine oe ?_
   obtain rfl:=sI an
   exact mt () [0,1,2,22] [] 0
  refine oN 1 [(19,vi x2)] [18,0,1,2] ?_
  obtain ⟨ap,aq,ar⟩:=bS ao
  refine k0 (fun _ w hs=>c_impl_isEnd aq) ?_
  refine oN 2 [(22,vb (!ap))] [0,1,2] ?_
  refine oe ?_
  obtain rfl:=sI ar
  exact mt () [0,1,2,22] [] 0
 refine nt (cC ae (fun au=>?_) (fun av=>?_))
 ·refine qs (qr (oN 1 [(6,vi 0)] [] ?_))
  refine oe (nt (qe (nr ?_)))
  obtain rfl:=sI au
  exact re [.int .i64 0]
 refine qk (nt (qs (qr (oN 1 [(7,vi 0)] [0,1,2] ?_))))
 refine oe (nt (qs (qs (qr (oN 3 [(25,vi 0),(24,vi (x0.length : Int)),(23,vs a0_0 x0 c0_0)] [7,1,2] ?_)))))
 refine oe (nt ?_)
 obtain ⟨bm,aw,a7⟩:=bS av
 obtain ⟨ax,ay,a7⟩:=brkS a7
 refine JC_cutP (τ:=(Int) × (Unit)) (fun y=>ax y.1 = some r) (fun a5=>[(7,vi a5.1)]) (fun a5=>[]) (fun a5=>[]) ?_ (fun a5 az=>?_)
 ·refine qb (lp Unit aw (fun a3 a8=>[(25,vi a3.1),(24,vi (x0.length : Int)),(23,vs a0_0 x0 c0_0),(7,vi a3.2),(1,vi x1),(2,vi x2)]) (fun a3 a8=>[]) (fun a3 a8=>[]) () [25,24,23,7,1,2] [] 0 (fun a3 a8 b4 b5 b6=>?_))
  refine qs (qr (oN 1 [(26,vb (decide (a3.1 < (x0.length : Int))))] [25,24,23,7,1,2] ?_))
  refine oe (nt (qs (cC b5 (fun b7=>?_) (fun b8=>?_))))
  ·refine qk (nt (qs (qb (qs (qr ?_)))))
   obtain ⟨a4,a9,b9⟩:=bS b7
   refine oi 4 (fun _ w hs=>(hv0_0.k hs)) a9 ?_
   refine ol 191 0 (vSpell a4) (fun _ w hs=>(hv0_0.k hs).flatq a9) ?_
   refine oB 2 [(9,.p 0 0)] [25,24,23,7,1,2] [(191,(eSpell a4))] ?_
   refine oe (nt (qs (qr (oN 3 [(31,vb (!a4.Leave))] [9,25,24,23,7,1,2] ?_))))
   refine oe (nt ?_)
   obtain ⟨ba,bb,bc⟩:=jS b9
   refine JC_cutP (τ:=(Int) × (Unit)) (fun y=>ba y.1 = some b4) (fun a6=>[(25,vi a3.1),(24,vi (x0.length : Int)),(23,vs a0_0 x0 c0_0),(7,vi a6.1),(1,vi x1),(2,vi x2)]) (fun a6=>[(191,(eSpell a4))]) (fun a6=>[]) ?_ (fun a6 bd=>?_)
   ·refine cC bc (fun be=>?_) (fun bf=>?_)
    ·refine JC_quiet (by kernel_rfl) (by kernel_rfl) ?_
     refine qN 9 [(40,vi a4.To),(38,vi a4.From),(36,vi x2),(35,vi x1),(34,vi a4.Percent),(32,vi a3.2)] [25,24,23,1,2] ?_
     obtain ⟨aa,bg,bi⟩:=bS be
     refine q0 (fun _ w hs=>c_impl_MonthsIn bg) ?_
     refine qN 3 [(7,vi (w64 (a3.2 + (w64 (a4.Percent * aa)))))] [25,24,23,1,2] ?_
     exact qz (mp (w64 (a3.2 + (w64 (a4.Percent * aa))),()) bi [25,24,23,7,1,2] [] 1)
    exact qk (mp (a3.2,()) bf [25,24,23,7,1,2] [] 1)
   have bj:=(congrFun bb _).symm.trans bd
   refine bn (nt (qr (oN 2 [(25,vi (w64 (a3.1 + 1)))] [24,23,7,1,2] ?_)))
   exact oe (ct bj () [25,24,23,7,1,2] [] 0)
  refine qx (nx (nx (bh ?_)))
  have bk:=leafB b6 b8 a7
  exact mp (a3.2,()) bk [7] [] 0
 have bl:=(congrFun ay _).symm.trans az
 refine nt (qs (qr (oN 2 [(6,vi a5.1)] [] ?_)))
 refine oe (nt (qe ?_))
 obtain rfl:=sI bl
 exact re [.int .i64 a5.1]
theorem c_impl_whole {W : World} {x0 : Int} {r : Frac} (h : impl_whole x0 = some r)  :
  Gives0 Tryz.prog 185 #[.int .i64 x0] W (vFrac r):=by
 unfold impl_whole at h
 refine en Tryz.func185 Tryz.ntmps185 ?_
 refine qs (qr (oB 1 [(2,.p 0 0)] [0] [(216,(eFrac (Frac.mk 0 0)))] ?_))
 refine oe (nt (qs (qr (oB 3 [] [2] [(216,(eFrac (Frac.mk x0 1)))] ?_))))
 refine oe (nt (qe ?_))
 obtain rfl:=sI h
 exact re [vFrac (Frac.mk x0 1)]
theorem c_impl_AgeAt {W : World} {x0 : Int} {x1 : Int} {x2 : Int} {r : Int} (h : impl_AgeAt x0 x1 x2 = some r)  :
  Gives0 Tryz.prog 186 #[.int .i64 x0,.int .i64 x1,.int .i64 x2] W (.int .i64 r):=by
 unfold impl_AgeAt at h
 refine en Tryz.func186 Tryz.ntmps186 ?_
 refine qs (qr (oN 1 [] [0,1,2] ?_))
 refine oe (nt (qs (qs ?_)))
 obtain ⟨a3,a4,a5⟩:=bS h
 refine JC_cut (τ:=Unit) (fun _=>[(0,vi x0),(1,vi x1),(2,vi x2),(20,vb a3)]) (fun _=>[]) (fun _=>[]) ?_ (fun _=>?_)
 ·refine qr (oN 1 [(8,vi x0)] [0,1,2] ?_)
  obtain ⟨a6,a7,a8⟩:=bS a4
  refine k0 (fun _ w hs=>c_impl_MonthOk a7) ?_
  refine oN 2 [(11,vb (!a6))] [0,1,2] ?_
  refine oS 11 a8 (fun a9=>?_) (fun aa=>?_)
  ·refine oN 9 [(20,vb true)] [0,1,2] ?_
   refine oe ?_
   obtain rfl:=sI a9
   exact mt () [0,1,2,20] [] 0
  refine oN 1 [(12,vi x1)] [11,0,1,2] ?_
  obtain ⟨ab,ac,ae⟩:=bS aa
  refine k0 (fun _ w hs=>c_impl_MonthOk ac) ?_
  refine oN 3 [(16,vb (!ab))] [0,1,2] ?_
  refine oS 16 ae (fun af=>?_) (fun ag=>?_)
  ·refine oN 4 [(20,vb true)] [0,1,2] ?_
   refine oe ?_
   obtain rfl:=sI af
   exact mt () [0,1,2,20] [] 0
  refine oN 4 [(20,vb (decide (x1 < x0)))] [0,1,2] ?_
  refine oe ?_
  obtain rfl:=sI ag
  exact mt () [0,1,2,20] [] 0
 refine nt (cC a5 (fun ah=>?_) (fun ai=>?_))
 ·refine qs (qr (oN 1 [(6,vi (-1))] [] ?_))
  refine oe (nt (qe (nr ?_)))
  obtain rfl:=sI ah
  exact re [.int .i64 (-1)]
 refine qk (nt (qs (qr (oN 4 [(7,vi (w64 (x1 - x0)))] [2] ?_))))
 refine oe (nt (qs (qs (qr (oN 1 [(24,vi x2)] [7] ?_)))))
 refine oe (nt (qb (qs (qr (oN 2 [(25,vb (x2 == 1))] [24,7] ?_)))))
 refine oe (nt (cC ai (fun aj=>?_) (fun ak=>?_)))
 ·refine qs (qr (oN 3 [(6,vi (w64 (Int.tdiv (w64 (x1 - x0)) 12)))] [] ?_))
  refine oe (nt (qe (br (nr ?_))))
  obtain rfl:=sI aj
  exact re [.int .i64 (w64 (Int.tdiv (w64 (x1 - x0)) 12))]
 refine qs (qr (oN 2 [(29,vb (x2 == 2))] [24,7] ?_))
 refine oe (nt (cC ak (fun al=>?_) (fun am=>?_)))
 ·refine qs (qr (oN 4 [(6,vi (w64 (Int.tdiv (w64 ((w64 (x1 - x0)) + 6)) 12)))] [] ?_))
  refine oe (nt (qe (br (nr ?_))))
  obtain rfl:=sI al
  exact re [.int .i64 (w64 (Int.tdiv (w64 ((w64 (x1 - x0)) + 6)) 12))]
 refine qs (qr (oN 2 [(34,vb (x2 == 3))] [7] ?_))
 refine oe (nt (cC am (fun an=>?_) (fun ao=>?_)))
 ·refine qs (qr (oN 4 [(6,vi (w64 ((w64 (Int.tdiv (w64 (x1 - x0)) 12)) + 1)))] [] ?_))
  refine oe (nt (qe (br (nr ?_))))
  obtain rfl:=sI an
  exact re [.int .i64 (w64 ((w64 (Int.tdiv (w64 (x1 - x0)) 12)) + 1))]
 refine qk (bn (nt (qs (qr (oN 1 [(6,vi (-1))] [] ?_)))))
 refine oe (nt (qe ?_))
 obtain rfl:=sI ao
 exact re [.int .i64 (-1)]
theorem c_impl_VarsFor_1 {W : World} {x0 : Frac} {r : Bool} (h : impl_VarsFor_1 x0 = some r)  :
  Gives0 Tryz.prog 188 #[vFrac x0] W (.bool r):=by
 unfold impl_VarsFor_1 at h
 refine en Tryz.func188 Tryz.ntmps188 ?_
 refine qs (qr (oB 2 [(1,.p 0 0)] [] [(216,(eFrac x0))] ?_))
 refine oe (nt (qs (qr (oN 1 [(3,.v (vFrac x0))] [] ?_))))
 obtain ⟨a3,a4,a5⟩:=bS h
 refine k0 (fun _ w hs=>c_impl_FracOk a4) ?_
 refine oN 2 [(2,vb (!a3))] [] ?_
 refine oe (nt (qe ?_))
 obtain rfl:=sI a5
 exact re [.bool (!a3)]
theorem c_slices_IndexFunc_Frac__impl_VarsFor_1 {W : World} {x0 : List Frac} {a0_0 : Option Addr} {c0_0 : Nat} {r : Int} (h : slices_IndexFunc_Frac__impl_VarsFor_1 x0 = some r) (hv0_0 : SlView W x0 a0_0 c0_0) :
  Gives0 Tryz.prog 222 #[.slice a0_0 x0.length c0_0,.func (.func 188) #[] #[]] W (.int .i64 r):=by
 unfold slices_IndexFunc_Frac__impl_VarsFor_1 at h
 refine en Tryz.func222 Tryz.ntmps222 ?_
 refine qs (qr (oN 1 [] [0,1] ?_))
 refine oe (nt (qs (qs (qr (oN 3 [(8,vi 0),(7,vi (x0.length : Int))] [0,1] ?_)))))
 refine oe (nt ?_)
 obtain ⟨aq,a9,a4⟩:=bS h
 obtain ⟨aa,ab,a4⟩:=brkS a4
 refine JC_cutP (τ:=(Unit) × (Unit)) (fun y=>aa y.1 = some r) (fun a5=>[]) (fun a5=>[]) (fun a5=>[]) ?_ (fun a5 ac=>?_)
 ·refine qb (lp Unit a9 (fun a3 a6=>[(8,vi a3),(7,vi (x0.length : Int)),(0,vs a0_0 x0 c0_0),(1,.v (.func (.func 188) #[] #[]))]) (fun a3 a6=>[]) (fun a3 a6=>[]) () [8,7,0,1] [] 0 (fun a3 a6 ar ae a7=>?_))
  refine qs (qr (oN 1 [(9,vb (decide (a3 < (x0.length : Int))))] [8,7,0,1] ?_))
  refine oe (nt (qs (cC ae (fun af=>?_) (fun ag=>?_))))
  ·refine qk (nt (qs (qb (qs (qr (oN 2 [(5,vi a3)] [8,7,0,1] ?_))))))
   refine oe (nt (qs (qr (oN 3 [(13,vi a3),(12,vs a0_0 x0 c0_0),(11,.v (.func (.func 188) #[] #[]))] [5,8,7,0,1] ?_))))
   obtain ⟨ah,a8,ai⟩:=bS af
   refine oi 2 (fun _ w hs=>(hv0_0.k hs)) a8 ?_
   refine ol 216 0 (vFrac ah) (fun _ w hs=>(hv0_0.k hs).flatq a8) ?_
   obtain ⟨au,aj,ak⟩:=bS ai
   refine k0 (fun _ w hs=>c_impl_VarsFor_1 aj) ?_
   refine oe (nt (cC ak (fun al=>?_) (fun am=>?_)))
   ·refine qs (qr (oN 2 [(4,vi a3)] [] ?_))
    refine oe (nt (qe (br (nr (nr ?_)))))
    have an:=leafR a7 al a4
    refine br (nr (nr ?_))
    obtain rfl:=sI an
    exact re [.int .i64 a3]
   refine qk (bn (nt (qr (oN 2 [(8,vi (w64 (a3 + 1)))] [7,0,1] ?_))))
   exact oe (ct am () [8,7,0,1] [] 0)
  refine qx (nx (nx (bh ?_)))
  have ao:=leafB a7 ag a4
  exact mp ((),()) ao [] [] 0
 have ap:=(congrFun ab _).symm.trans ac
 refine nt (qs (qr (oN 1 [(4,vi (-1))] [] ?_)))
 refine oe (nt (qe ?_))
 obtain rfl:=sI ap
 exact re [.int .i64 (-1)]
theorem c_slices_ContainsFunc_Frac__impl_VarsFor_1 {W : World} {x0 : List Frac} {a0_0 : Option Addr} {c0_0 : Nat} {r : Bool} (h : slices_ContainsFunc_Frac__impl_VarsFor_1 x0 = some r) (hv0_0 : SlView W x0 a0_0 c0_0) :
  Gives0 Tryz.prog 187 #[.slice a0_0 x0.length c0_0,.func (.func 188) #[] #[]] W (.bool r):=by
 unfold slices_ContainsFunc_Frac__impl_VarsFor_1 at h
 refine en Tryz.func187 Tryz.ntmps187 ?_
 refine qs (qr (oN 1 [] [0,1] ?_))
 refine oe (nt (qs (qr (oN 2 [(6,.v (.func (.func 188) #[] #[])),(5,vs a0_0 x0 c0_0)] [] ?_))))
 obtain ⟨a3,a4,a5⟩:=bS h
 refine k0 (fun _ w hs=>c_slices_IndexFunc_Frac__impl_VarsFor_1 a4 (hv0_0.k hs)) ?_
 refine oN 2 [(4,vb (decide (a3 ≥ 0)))] [] ?_
 refine oe (nt (qe ?_))
 obtain rfl:=sI a5
 exact re [.bool (decide (a3 ≥ 0))]
end Go.Pen
