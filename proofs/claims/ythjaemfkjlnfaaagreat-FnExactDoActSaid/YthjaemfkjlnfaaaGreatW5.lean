/-
  Each Go function does what its plain function says: written by a program of ours.
-/
import Derived.Test.YthjaemfkjlnfaaaGreatW4
import Derived.Test.YthjaemfkjlnfaaaGreatProg
import Derived.Test.YthjaemfkjlnfaaaGreatPenK
import Derived.Test.YthjaemfkjlnfaaaGreatPenQ
import Derived.Test.YthjaemfkjlnfaaaGreatPenU
namespace Go.Pen
open Go.Proofs Go.RowKit
set_option linter.unusedVariables false
set_option linter.unusedSimpArgs false
set_option maxRecDepth 100000
set_option maxHeartbeats 4000000
theorem c_laws_heldFactS {W : World} {x0 : List Fact} {a0_0 : Option Addr} {c0_0 : Nat} {x1 : Int} {r : Int} (h : laws_heldFactS x0 x1 = some r) (hv0_0 : SlView W x0 a0_0 c0_0) :
  Gives0 Tryz.prog 160 #[.slice a0_0 x0.length c0_0,.int .i64 x1] W (.int .i64 r):=by
 unfold laws_heldFactS at h
 refine en Tryz.func160 Tryz.ntmps160 ?_
 refine qs (qr (oN 1 [] [0,1] ?_))
 refine oe (nt (qs (qs (qr (oN 1 [(5,vi 0)] [0,1] ?_)))))
 refine oe (nt ?_)
 obtain ⟨bj,aj,a4⟩:=bS h
 obtain ⟨ak,al,a4⟩:=brkS a4
 refine JC_cutP (τ:=(Int) × (Unit)) (fun y=>ak y.1 = some r) (fun a5=>[(1,vi a5.1)]) (fun a5=>[]) (fun a5=>[]) ?_ (fun a5 am=>?_)
 ·refine qb (lp Unit aj (fun a3 a7=>[(5,vi a3.1),(0,vs a0_0 x0 c0_0),(1,vi a3.2)]) (fun a3 a7=>[]) (fun a3 a7=>[]) () [5,0,1] [] 0 (fun a3 a7 bk an a6=>?_))
  refine qs (qs (qr (oN 4 [(9,vb (decide (a3.1 < (x0.length : Int))))] [5,0,1] ?_)))
  refine oe (nt (cC an (fun ao=>?_) (fun ap=>?_)))
  ·refine qk (nt (qs (qb (qs (qs (qr (oN 2 [(13,vi a3.1),(12,vs a0_0 x0 c0_0)] [5,0,1] ?_)))))))
   obtain ⟨a8,a9,aq⟩:=bS ao
   refine oi 5 (fun _ w hs=>(hv0_0.k hs)) a9 ?_
   refine oN 1 [(15,.q a0_0 (Int.toNat a3.1 * 5))] [5,0,1] ?_
   refine ol 3 0 (.int .i64 a8.Key) (fun _ w hs=>(hv0_0.k hs).flatq a9) ?_
   refine oN 2 [(18,vb (a8.Key != a3.2))] [5,0,1] ?_
   refine oe (nt (cC aq (fun ar=>?_) (fun au=>?_)))
   ·refine qs (qr (oN 1 [(4,vi (-1))] [] ?_))
    refine oe (nt (qe (nr (br (nr (nr ?_))))))
    have av:=leafR a6 ar a4
    refine br (nr (nr ?_))
    obtain rfl:=sI av
    exact re [.int .i64 (-1)]
   refine qk (nt (qs (qr (oN 3 [(1,vi (w64 (a3.2 + 1)))] [5,0] ?_))))
   refine oe (nt (qs (qs (qr (oN 2 [(22,vi a3.1),(21,vs a0_0 x0 c0_0)] [1,5,0] ?_)))))
   obtain ⟨aa,ab,aw⟩:=bS au
   refine oi 5 (fun _ w hs=>(hv0_0.k hs)) ab ?_
   refine oN 1 [(24,.q a0_0 (Int.toNat a3.1 * 5 + 1))] [1,5,0] ?_
   refine ol 3 1 (.int .i64 aa.From) (fun _ w hs=>(hv0_0.k hs).flatq ab) ?_
   refine oN 2 [(27,vb (aa.From != (w64 (a3.2 + 1))))] [1,5,0] ?_
   refine oe (nt (cC aw (fun ax=>?_) (fun ay=>?_)))
   ·refine qs (qr (oN 1 [(4,vi (-1))] [] ?_))
    refine oe (nt (qe (nr (br (nr (nr ?_))))))
    have az:=leafR a6 ax a4
    refine br (nr (nr ?_))
    obtain rfl:=sI az
    exact re [.int .i64 (-1)]
   refine qk (nt (qs (qr (oN 3 [(1,vi (w64 ((w64 (a3.2 + 1)) + 1)))] [5,0] ?_))))
   refine oe (nt (qs (qs (qr (oN 2 [(31,vi a3.1),(30,vs a0_0 x0 c0_0)] [1,5,0] ?_)))))
   obtain ⟨ac,ae,b4⟩:=bS ay
   refine oi 5 (fun _ w hs=>(hv0_0.k hs)) ae ?_
   refine oN 1 [(33,.q a0_0 (Int.toNat a3.1 * 5 + 2))] [1,5,0] ?_
   refine ol 3 2 (.int .i64 ac.To) (fun _ w hs=>(hv0_0.k hs).flatq ae) ?_
   refine oN 2 [(36,vb (ac.To != (w64 ((w64 (a3.2 + 1)) + 1))))] [1,5,0] ?_
   refine oe (nt (cC b4 (fun b5=>?_) (fun b6=>?_)))
   ·refine qs (qr (oN 1 [(4,vi (-1))] [] ?_))
    refine oe (nt (qe (nr (br (nr (nr ?_))))))
    have b7:=leafR a6 b5 a4
    refine br (nr (nr ?_))
    obtain rfl:=sI b7
    exact re [.int .i64 (-1)]
   refine qk (nt (qs (qr (oN 3 [(1,vi (w64 ((w64 ((w64 (a3.2 + 1)) + 1)) + 1)))] [5,0] ?_))))
   refine oe (nt (qs (qs (qr (oN 2 [(40,vi a3.1),(39,vs a0_0 x0 c0_0)] [1,5,0] ?_)))))
   obtain ⟨af,ag,b8⟩:=bS b6
   refine oi 5 (fun _ w hs=>(hv0_0.k hs)) ag ?_
   refine oN 1 [(42,.q a0_0 (Int.toNat a3.1 * 5 + 3))] [1,5,0] ?_
   refine ol 3 3 (.int .i64 af.Known) (fun _ w hs=>(hv0_0.k hs).flatq ag) ?_
   refine oN 2 [(45,vb (af.Known != (w64 ((w64 ((w64 (a3.2 + 1)) + 1)) + 1))))] [1,5,0] ?_
   refine oe (nt (cC b8 (fun b9=>?_) (fun ba=>?_)))
   ·refine qs (qr (oN 1 [(4,vi (-1))] [] ?_))
    refine oe (nt (qe (nr (br (nr (nr ?_))))))
    have bb:=leafR a6 b9 a4
    refine br (nr (nr ?_))
    obtain rfl:=sI bb
    exact re [.int .i64 (-1)]
   refine qk (nt (qs (qr (oN 3 [(1,vi (w64 ((w64 ((w64 ((w64 (a3.2 + 1)) + 1)) + 1)) + 1)))] [5,0] ?_))))
   refine oe (nt (qs (qs (qr (oN 2 [(49,vi a3.1),(48,vs a0_0 x0 c0_0)] [1,5,0] ?_)))))
   obtain ⟨ah,ai,bc⟩:=bS ba
   refine oi 5 (fun _ w hs=>(hv0_0.k hs)) ai ?_
   refine oN 1 [(51,.q a0_0 (Int.toNat a3.1 * 5 + 4))] [1,5,0] ?_
   refine ol 3 4 (.int .i64 ah.Value) (fun _ w hs=>(hv0_0.k hs).flatq ai) ?_
   refine oN 2 [(54,vb (ah.Value != (w64 ((w64 ((w64 ((w64 (a3.2 + 1)) + 1)) + 1)) + 1))))] [1,5,0] ?_
   refine oe (nt (cC bc (fun bd=>?_) (fun be=>?_)))
   ·refine qs (qr (oN 1 [(4,vi (-1))] [] ?_))
    refine oe (nt (qe (nr (br (nr (nr ?_))))))
    have bf:=leafR a6 bd a4
    refine br (nr (nr ?_))
    obtain rfl:=sI bf
    exact re [.int .i64 (-1)]
   refine qk (nt (qr (oN 3 [(1,vi (w64 ((w64 ((w64 ((w64 ((w64 (a3.2 + 1)) + 1)) + 1)) + 1)) + 1)))] [5,0] ?_)))
   refine oe (bn (nt (qr (oN 3 [(5,vi (w64 (a3.1 + 1)))] [1,0] ?_))))
   exact oe (ct be () [5,0,1] [] 0)
  refine qx (nx (nx (bh ?_)))
  have bg:=leafB a6 ap a4
  exact mp (a3.2,()) bg [1] [] 0
 have bi:=(congrFun al _).symm.trans am
 refine nt (qs (qr (oN 2 [(4,vi a5.1)] [] ?_)))
 refine oe (nt (qe ?_))
 obtain rfl:=sI bi
 exact re [.int .i64 a5.1]
theorem c_laws_heldStore {W : World} {x0 : Store} {a0_0 : Option Addr} {c0_0 : Nat} {x1 : Int} {r : Int} (h : laws_heldStore x0 x1 = some r) (hv0_0 : SlView W x0.Facts a0_0 c0_0) :
  Gives0 Tryz.prog 120 #[vStore x0 (a0_0,c0_0),.int .i64 x1] W (.int .i64 r):=by
 unfold laws_heldStore at h
 refine en Tryz.func120 Tryz.ntmps120 ?_
 refine qs (qr (oB 2 [(2,.p 0 0)] [1] [(45,(eStore x0 (a0_0,c0_0)))] ?_))
 refine oe (nt (qs (qr (oN 3 [(7,vi x1),(6,vs a0_0 x0.Facts c0_0)] [] ?_))))
 obtain ⟨a3,a4,a5⟩:=bS h
 refine k0 (fun _ w hs=>c_laws_heldFactS a4 (hv0_0.k hs)) ?_
 refine oN 1 [(1,vi a3)] [] ?_
 refine oe (nt (qs (qs (qr (oN 2 [(10,vb (decide (a3 < 0)))] [1] ?_)))))
 refine oe (nt (cC a5 (fun a6=>?_) (fun a7=>?_)))
 ·refine qs (qr (oN 1 [(4,vi (-1))] [] ?_))
  refine oe (nt (qe (nr ?_)))
  obtain rfl:=sI a6
  exact re [.int .i64 (-1)]
 refine qk (nt (qs (qr (oN 2 [(4,vi a3)] [] ?_))))
 refine oe (nt (qe ?_))
 obtain rfl:=sI a7
 exact re [.int .i64 a3]
theorem c_laws_heldPointS {W : World} {x0 : List Point} {a0_0 : Option Addr} {c0_0 : Nat} {x1 : Int} {r : Int} (h : laws_heldPointS x0 x1 = some r) (hv0_0 : SlView W x0 a0_0 c0_0) :
  Gives0 Tryz.prog 161 #[.slice a0_0 x0.length c0_0,.int .i64 x1] W (.int .i64 r):=by
 unfold laws_heldPointS at h
 refine en Tryz.func161 Tryz.ntmps161 ?_
 refine qs (qr (oN 1 [] [0,1] ?_))
 refine oe (nt (qs (qs (qr (oN 1 [(5,vi 0)] [0,1] ?_)))))
 refine oe (nt ?_)
 obtain ⟨b6,af,a4⟩:=bS h
 obtain ⟨ag,ah,a4⟩:=brkS a4
 refine JC_cutP (τ:=(Int) × (Unit)) (fun y=>ag y.1 = some r) (fun a5=>[(1,vi a5.1)]) (fun a5=>[]) (fun a5=>[]) ?_ (fun a5 ai=>?_)
 ·refine qb (lp Unit af (fun a3 a7=>[(5,vi a3.1),(0,vs a0_0 x0 c0_0),(1,vi a3.2)]) (fun a3 a7=>[]) (fun a3 a7=>[]) () [5,0,1] [] 0 (fun a3 a7 b7 aj a6=>?_))
  refine qs (qs (qr (oN 4 [(9,vb (decide (a3.1 < (x0.length : Int))))] [5,0,1] ?_)))
  refine oe (nt (cC aj (fun ak=>?_) (fun al=>?_)))
  ·refine qk (nt (qs (qb (qs (qs (qr (oN 2 [(13,vi a3.1),(12,vs a0_0 x0 c0_0)] [5,0,1] ?_)))))))
   obtain ⟨a8,a9,am⟩:=bS ak
   refine oi 3 (fun _ w hs=>(hv0_0.k hs)) a9 ?_
   refine oN 1 [(15,.q a0_0 (Int.toNat a3.1 * 3))] [5,0,1] ?_
   refine ol 3 0 (.int .i64 a8.Month) (fun _ w hs=>(hv0_0.k hs).flatq a9) ?_
   refine oN 2 [(18,vb (a8.Month != a3.2))] [5,0,1] ?_
   refine oe (nt (cC am (fun an=>?_) (fun ao=>?_)))
   ·refine qs (qr (oN 1 [(4,vi (-1))] [] ?_))
    refine oe (nt (qe (nr (br (nr (nr ?_))))))
    have ap:=leafR a6 an a4
    refine br (nr (nr ?_))
    obtain rfl:=sI ap
    exact re [.int .i64 (-1)]
   refine qk (nt (qs (qr (oN 3 [(1,vi (w64 (a3.2 + 1)))] [5,0] ?_))))
   refine oe (nt (qs (qs (qr (oN 2 [(22,vi a3.1),(21,vs a0_0 x0 c0_0)] [1,5,0] ?_)))))
   obtain ⟨aa,ab,aq⟩:=bS ao
   refine oi 3 (fun _ w hs=>(hv0_0.k hs)) ab ?_
   refine oN 1 [(24,.q a0_0 (Int.toNat a3.1 * 3 + 1))] [1,5,0] ?_
   refine ol 3 1 (.int .i64 aa.Known) (fun _ w hs=>(hv0_0.k hs).flatq ab) ?_
   refine oN 2 [(27,vb (aa.Known != (w64 (a3.2 + 1))))] [1,5,0] ?_
   refine oe (nt (cC aq (fun ar=>?_) (fun au=>?_)))
   ·refine qs (qr (oN 1 [(4,vi (-1))] [] ?_))
    refine oe (nt (qe (nr (br (nr (nr ?_))))))
    have av:=leafR a6 ar a4
    refine br (nr (nr ?_))
    obtain rfl:=sI av
    exact re [.int .i64 (-1)]
   refine qk (nt (qs (qr (oN 3 [(1,vi (w64 ((w64 (a3.2 + 1)) + 1)))] [5,0] ?_))))
   refine oe (nt (qs (qs (qr (oN 2 [(31,vi a3.1),(30,vs a0_0 x0 c0_0)] [1,5,0] ?_)))))
   obtain ⟨ac,ae,aw⟩:=bS au
   refine oi 3 (fun _ w hs=>(hv0_0.k hs)) ae ?_
   refine oN 1 [(33,.q a0_0 (Int.toNat a3.1 * 3 + 2))] [1,5,0] ?_
   refine ol 3 2 (.int .i64 ac.Value) (fun _ w hs=>(hv0_0.k hs).flatq ae) ?_
   refine oN 2 [(36,vb (ac.Value != (w64 ((w64 (a3.2 + 1)) + 1))))] [1,5,0] ?_
   refine oe (nt (cC aw (fun ax=>?_) (fun ay=>?_)))
   ·refine qs (qr (oN 1 [(4,vi (-1))] [] ?_))
    refine oe (nt (qe (nr (br (nr (nr ?_))))))
    have az:=leafR a6 ax a4
    refine br (nr (nr ?_))
    obtain rfl:=sI az
    exact re [.int .i64 (-1)]
   refine qk (nt (qr (oN 3 [(1,vi (w64 ((w64 ((w64 (a3.2 + 1)) + 1)) + 1)))] [5,0] ?_)))
   refine oe (bn (nt (qr (oN 3 [(5,vi (w64 (a3.1 + 1)))] [1,0] ?_))))
   exact oe (ct ay () [5,0,1] [] 0)
  refine qx (nx (nx (bh ?_)))
  have b4:=leafB a6 al a4
  exact mp (a3.2,()) b4 [1] [] 0
 have b5:=(congrFun ah _).symm.trans ai
 refine nt (qs (qr (oN 2 [(4,vi a5.1)] [] ?_)))
 refine oe (nt (qe ?_))
 obtain rfl:=sI b5
 exact re [.int .i64 a5.1]
theorem c_laws_heldSeries {W : World} {x0 : Series} {a0_0 : Option Addr} {c0_0 : Nat} {x1 : Int} {r : Int} (h : laws_heldSeries x0 x1 = some r) (hv0_0 : SlView W x0.Points a0_0 c0_0) :
  Gives0 Tryz.prog 121 #[vSeries x0 (a0_0,c0_0),.int .i64 x1] W (.int .i64 r):=by
 unfold laws_heldSeries at h
 refine en Tryz.func121 Tryz.ntmps121 ?_
 refine qs (qr (oB 2 [(2,.p 0 0)] [1] [(48,(eSeries x0 (a0_0,c0_0)))] ?_))
 refine oe (nt (qs (qr (oN 3 [(7,vi x1),(6,vs a0_0 x0.Points c0_0)] [] ?_))))
 obtain ⟨a3,a4,a5⟩:=bS h
 refine k0 (fun _ w hs=>c_laws_heldPointS a4 (hv0_0.k hs)) ?_
 refine oN 1 [(1,vi a3)] [] ?_
 refine oe (nt (qs (qs (qr (oN 2 [(10,vb (decide (a3 < 0)))] [1] ?_)))))
 refine oe (nt (cC a5 (fun a6=>?_) (fun a7=>?_)))
 ·refine qs (qr (oN 1 [(4,vi (-1))] [] ?_))
  refine oe (nt (qe (nr ?_)))
  obtain rfl:=sI a6
  exact re [.int .i64 (-1)]
 refine qk (nt (qs (qr (oN 2 [(4,vi a3)] [] ?_))))
 refine oe (nt (qe ?_))
 obtain rfl:=sI a7
 exact re [.int .i64 a3]
theorem c_laws_heldSpellS {W : World} {x0 : List Spell} {a0_0 : Option Addr} {c0_0 : Nat} {x1 : Int} {r : Int} (h : laws_heldSpellS x0 x1 = some r) (hv0_0 : SlView W x0 a0_0 c0_0) :
  Gives0 Tryz.prog 162 #[.slice a0_0 x0.length c0_0,.int .i64 x1] W (.int .i64 r):=by
 unfold laws_heldSpellS at h
 refine en Tryz.func162 Tryz.ntmps162 ?_
 refine qs (qr (oN 1 [] [0,1] ?_))
 refine oe (nt (qs (qs (qr (oN 1 [(5,vi 0)] [0,1] ?_)))))
 refine oe (nt ?_)
 obtain ⟨bc,ah,a4⟩:=bS h
 obtain ⟨ai,aj,a4⟩:=brkS a4
 refine JC_cutP (τ:=(Int) × (Unit)) (fun y=>ai y.1 = some r) (fun a5=>[(1,vi a5.1)]) (fun a5=>[]) (fun a5=>[]) ?_ (fun a5 ak=>?_)
 ·refine qb (lp Unit ah (fun a3 a7=>[(5,vi a3.1),(0,vs a0_0 x0 c0_0),(1,vi a3.2)]) (fun a3 a7=>[]) (fun a3 a7=>[]) () [5,0,1] [] 0 (fun a3 a7 bd al a6=>?_))
  refine qs (qs (qr (oN 4 [(9,vb (decide (a3.1 < (x0.length : Int))))] [5,0,1] ?_)))
  refine oe (nt (cC al (fun am=>?_) (fun an=>?_)))
  ·refine qk (nt (qs (qb (qs (qs (qr (oN 2 [(13,vi a3.1),(12,vs a0_0 x0 c0_0)] [5,0,1] ?_)))))))
   obtain ⟨a8,a9,ao⟩:=bS am
   refine oi 4 (fun _ w hs=>(hv0_0.k hs)) a9 ?_
   refine oN 1 [(15,.q a0_0 (Int.toNat a3.1 * 4))] [5,0,1] ?_
   refine ol 3 0 (.int .i64 a8.From) (fun _ w hs=>(hv0_0.k hs).flatq a9) ?_
   refine oN 2 [(18,vb (a8.From != a3.2))] [5,0,1] ?_
   refine oe (nt (cC ao (fun ap=>?_) (fun aq=>?_)))
   ·refine qs (qr (oN 1 [(4,vi (-1))] [] ?_))
    refine oe (nt (qe (nr (br (nr (nr ?_))))))
    have ar:=leafR a6 ap a4
    refine br (nr (nr ?_))
    obtain rfl:=sI ar
    exact re [.int .i64 (-1)]
   refine qk (nt (qs (qr (oN 3 [(1,vi (w64 (a3.2 + 1)))] [5,0] ?_))))
   refine oe (nt (qs (qs (qr (oN 2 [(22,vi a3.1),(21,vs a0_0 x0 c0_0)] [1,5,0] ?_)))))
   obtain ⟨aa,ab,au⟩:=bS aq
   refine oi 4 (fun _ w hs=>(hv0_0.k hs)) ab ?_
   refine oN 1 [(24,.q a0_0 (Int.toNat a3.1 * 4 + 1))] [1,5,0] ?_
   refine ol 3 1 (.int .i64 aa.To) (fun _ w hs=>(hv0_0.k hs).flatq ab) ?_
   refine oN 2 [(27,vb (aa.To != (w64 (a3.2 + 1))))] [1,5,0] ?_
   refine oe (nt (cC au (fun av=>?_) (fun aw=>?_)))
   ·refine qs (qr (oN 1 [(4,vi (-1))] [] ?_))
    refine oe (nt (qe (nr (br (nr (nr ?_))))))
    have ax:=leafR a6 av a4
    refine br (nr (nr ?_))
    obtain rfl:=sI ax
    exact re [.int .i64 (-1)]
   refine qk (nt (qs (qr (oN 3 [(1,vi (w64 ((w64 (a3.2 + 1)) + 1)))] [5,0] ?_))))
   refine oe (nt (qs (qs (qr (oN 2 [(31,vi a3.1),(30,vs a0_0 x0 c0_0)] [1,5,0] ?_)))))
   obtain ⟨ac,ae,ay⟩:=bS aw
   refine oi 4 (fun _ w hs=>(hv0_0.k hs)) ae ?_
   refine oN 1 [(33,.q a0_0 (Int.toNat a3.1 * 4 + 2))] [1,5,0] ?_
   refine ol 3 2 (.int .i64 ac.Percent) (fun _ w hs=>(hv0_0.k hs).flatq ae) ?_
   refine oN 2 [(36,vb (ac.Percent != (w64 ((w64 (a3.2 + 1)) + 1))))] [1,5,0] ?_
   refine oe (nt (cC ay (fun az=>?_) (fun b4=>?_)))
   ·refine qs (qr (oN 1 [(4,vi (-1))] [] ?_))
    refine oe (nt (qe (nr (br (nr (nr ?_))))))
    have b5:=leafR a6 az a4
    refine br (nr (nr ?_))
    obtain rfl:=sI b5
    exact re [.int .i64 (-1)]
   refine qk (nt (qs (qr (oN 3 [(1,vi (w64 ((w64 ((w64 (a3.2 + 1)) + 1)) + 1)))] [5,0] ?_))))
   refine oe (nt (qs (qs (qr (oN 2 [(40,vi a3.1),(39,vs a0_0 x0 c0_0)] [1,5,0] ?_)))))
   obtain ⟨af,ag,b6⟩:=bS b4
   refine oi 4 (fun _ w hs=>(hv0_0.k hs)) ag ?_
   refine oN 1 [(42,.q a0_0 (Int.toNat a3.1 * 4 + 3))] [1,5,0] ?_
   refine ol 4 3 (.bool af.Leave) (fun _ w hs=>(hv0_0.k hs).flatq ag) ?_
   refine oN 4 [(47,vb (!(af.Leave == ((Int.tmod (w64 ((w64 ((w64 (a3.2 + 1)) + 1)) + 1)) 3) == 0))))] [1,5,0] ?_
   refine oe (nt (cC b6 (fun b7=>?_) (fun b8=>?_)))
   ·refine qs (qr (oN 1 [(4,vi (-1))] [] ?_))
    refine oe (nt (qe (nr (br (nr (nr ?_))))))
    have b9:=leafR a6 b7 a4
    refine br (nr (nr ?_))
    obtain rfl:=sI b9
    exact re [.int .i64 (-1)]
   refine qk (nt (qr (oN 3 [(1,vi (w64 ((w64 ((w64 ((w64 (a3.2 + 1)) + 1)) + 1)) + 1)))] [5,0] ?_)))
   refine oe (bn (nt (qr (oN 3 [(5,vi (w64 (a3.1 + 1)))] [1,0] ?_))))
   exact oe (ct b8 () [5,0,1] [] 0)
  refine qx (nx (nx (bh ?_)))
  have ba:=leafB a6 an a4
  exact mp (a3.2,()) ba [1] [] 0
 have bb:=(congrFun aj _).symm.trans ak
 refine nt (qs (qr (oN 2 [(4,vi a5.1)] [] ?_)))
 refine oe (nt (qe ?_))
 obtain rfl:=sI bb
 exact re [.int .i64 a5.1]
theorem c_laws_heldEventS {W : World} {x0 : List Event} {a0_0 : Option Addr} {c0_0 : Nat} {x1 : Int} {r : Int} (h : laws_heldEventS x0 x1 = some r) (hv0_0 : SlView W x0 a0_0 c0_0) :
  Gives0 Tryz.prog 163 #[.slice a0_0 x0.length c0_0,.int .i64 x1] W (.int .i64 r):=by
 unfold laws_heldEventS at h
 refine en Tryz.func163 Tryz.ntmps163 ?_
 refine qs (qr (oN 1 [] [0,1] ?_))
 refine oe (nt (qs (qs (qr (oN 1 [(5,vi 0)] [0,1] ?_)))))
 refine oe (nt ?_)
 obtain ⟨aw,ac,a5⟩:=bS h
 obtain ⟨ae,af,a5⟩:=brkS a5
 refine JC_cutP (τ:=(Int) × (Unit)) (fun y=>ae y.1 = some r) (fun a4=>[(1,vi a4.1)]) (fun a4=>[]) (fun a4=>[]) ?_ (fun a4 ag=>?_)
 ·refine qb (lp Unit ac (fun a3 a6=>[(5,vi a3.1),(0,vs a0_0 x0 c0_0),(1,vi a3.2)]) (fun a3 a6=>[]) (fun a3 a6=>[]) () [5,0,1] [] 0 (fun a3 a6 ax ah a7=>?_))
  refine qs (qs (qr (oN 4 [(9,vb (decide (a3.1 < (x0.length : Int))))] [5,0,1] ?_)))
  refine oe (nt (cC ah (fun ai=>?_) (fun aj=>?_)))
  ·refine qk (nt (qs (qb (qs (qs (qr (oN 2 [(13,vi a3.1),(12,vs a0_0 x0 c0_0)] [5,0,1] ?_)))))))
   obtain ⟨a8,a9,ak⟩:=bS ai
   refine oi 2 (fun _ w hs=>(hv0_0.k hs)) a9 ?_
   refine oN 1 [(15,.q a0_0 (Int.toNat a3.1 * 2))] [5,0,1] ?_
   refine ol 3 0 (.int .i64 a8.Kind) (fun _ w hs=>(hv0_0.k hs).flatq a9) ?_
   refine oN 2 [(18,vb (a8.Kind != a3.2))] [5,0,1] ?_
   refine oe (nt (cC ak (fun al=>?_) (fun am=>?_)))
   ·refine qs (qr (oN 1 [(4,vi (-1))] [] ?_))
    refine oe (nt (qe (nr (br (nr (nr ?_))))))
    have an:=leafR a7 al a5
    refine br (nr (nr ?_))
    obtain rfl:=sI an
    exact re [.int .i64 (-1)]
   refine qk (nt (qs (qr (oN 3 [(1,vi (w64 (a3.2 + 1)))] [5,0] ?_))))
   refine oe (nt (qs (qs (qr (oN 2 [(22,vi a3.1),(21,vs a0_0 x0 c0_0)] [1,5,0] ?_)))))
   obtain ⟨aa,ab,ao⟩:=bS am
   refine oi 2 (fun _ w hs=>(hv0_0.k hs)) ab ?_
   refine oN 1 [(24,.q a0_0 (Int.toNat a3.1 * 2 + 1))] [1,5,0] ?_
   refine ol 3 1 (.int .i64 aa.Month) (fun _ w hs=>(hv0_0.k hs).flatq ab) ?_
   refine oN 2 [(27,vb (aa.Month != (w64 (a3.2 + 1))))] [1,5,0] ?_
   refine oe (nt (cC ao (fun ap=>?_) (fun aq=>?_)))
   ·refine qs (qr (oN 1 [(4,vi (-1))] [] ?_))
    refine oe (nt (qe (nr (br (nr (nr ?_))))))
    have ar:=leafR a7 ap a5
    refine br (nr (nr ?_))
    obtain rfl:=sI ar
    exact re [.int .i64 (-1)]
   refine qk (nt (qr (oN 3 [(1,vi (w64 ((w64 (a3.2 + 1)) + 1)))] [5,0] ?_)))
   refine oe (bn (nt (qr (oN 3 [(5,vi (w64 (a3.1 + 1)))] [1,0] ?_))))
   exact oe (ct aq () [5,0,1] [] 0)
  refine qx (nx (nx (bh ?_)))
  have au:=leafB a7 aj a5
  exact mp (a3.2,()) au [1] [] 0
 have av:=(congrFun af _).symm.trans ag
 refine nt (qs (qr (oN 2 [(4,vi a4.1)] [] ?_)))
 refine oe (nt (qe ?_))
 obtain rfl:=sI av
 exact re [.int .i64 a4.1]
theorem c_laws_heldMember {W : World} {x0 : Member} {b0 : AC × AC} {x1 : Int} {r : Int} (h : laws_heldMember x0 x1 = some r) (hv0_0 : SlView W x0.Spells b0.1.1 b0.1.2) (hv0_1 : SlView W x0.Events b0.2.1 b0.2.2) :
  Gives0 Tryz.prog 122 #[vMember x0 b0,.int .i64 x1] W (.int .i64 r):=by
 unfold laws_heldMember at h
 refine en Tryz.func122 Tryz.ntmps122 ?_
 refine qs (qr (oB 2 [(2,.p 0 0)] [1] [(52,(eMember x0 b0))] ?_))
 refine oe (nt (qs (qr (oN 3 [(7,vi x1),(6,sv b0.1 x0.Spells)] [2] ?_))))
 obtain ⟨a4,a5,a6⟩:=bS h
 refine k0 (fun _ w hs=>c_laws_heldSpellS a5 (hv0_0.k hs)) ?_
 refine oN 1 [(1,vi a4)] [2] ?_
 refine oe (nt (qs (qs (qr (oN 2 [(10,vb (decide (a4 < 0)))] [1,2] ?_)))))
 refine oe (nt (cC a6 (fun a7=>?_) (fun a8=>?_)))
 ·refine qs (qr (oN 1 [(4,vi (-1))] [] ?_))
  refine oe (nt (qe (nr ?_)))
  obtain rfl:=sI a7
  exact re [.int .i64 (-1)]
 refine qk (nt (qs (qr (oN 3 [(13,vi a4),(12,sv b0.2 x0.Events)] [] ?_))))
 obtain ⟨a3,a9,aa⟩:=bS a8
 refine k0 (fun _ w hs=>c_laws_heldEventS a9 (hv0_1.k hs)) ?_
 refine oN 1 [(1,vi a3)] [] ?_
 refine oe (nt (qs (qs (qr (oN 2 [(16,vb (decide (a3 < 0)))] [1] ?_)))))
 refine oe (nt (cC aa (fun ab=>?_) (fun ac=>?_)))
 ·refine qs (qr (oN 1 [(4,vi (-1))] [] ?_))
  refine oe (nt (qe (nr ?_)))
  obtain rfl:=sI ab
  exact re [.int .i64 (-1)]
 refine qk (nt (qs (qr (oN 2 [(4,vi a3)] [] ?_))))
 refine oe (nt (qe ?_))
 obtain rfl:=sI ac
 exact re [.int .i64 a3]
theorem c_laws_heldCase {W : World} {x0 : Case} {b0 : AC × AC × AC × AC × AC} {x1 : Int} {r : Int} (h : laws_heldCase x0 x1 = some r) (hv0_0 : SlView W x0.Book.Rules b0.1.1 b0.1.2) (hv0_1 : SlView W x0.Store.Facts b0.2.1.1 b0.2.1.2) (hv0_2 : SlView W x0.Series.Points b0.2.2.1.1 b0.2.2.1.2) (hv0_3 : SlView W x0.Member.Spells b0.2.2.2.1.1 b0.2.2.2.1.2) (hv0_4 : SlView W x0.Member.Events b0.2.2.2.2.1 b0.2.2.2.2.2) :
  Gives0 Tryz.prog 72 #[vCase x0 b0,.int .i64 x1] W (.int .i64 r):=by
 unfold laws_heldCase at h
 refine en Tryz.func72 Tryz.ntmps72 ?_
 refine qs (qr (oB 2 [(2,.p 0 0)] [1] [(54,(eCase x0 b0))] ?_))
 refine oe (nt (qs (qr (oN 3 [(7,vi x1),(6,.v (vBook x0.Book b0.1))] [2] ?_))))
 obtain ⟨a4,a7,a8⟩:=bS h
 refine k0 (fun _ w hs=>c_laws_heldBook a7 (hv0_0.k hs)) ?_
 refine oN 1 [(1,vi a4)] [2] ?_
 refine oe (nt (qs (qs (qr (oN 2 [(10,vb (decide (a4 < 0)))] [1,2] ?_)))))
 refine oe (nt (cC a8 (fun a9=>?_) (fun aa=>?_)))
 ·refine qs (qr (oN 1 [(4,vi (-1))] [] ?_))
  refine oe (nt (qe (nr ?_)))
  obtain rfl:=sI a9
  exact re [.int .i64 (-1)]
 refine qk (nt (qs (qr (oN 3 [(13,vi a4),(12,.v (vStore x0.Store b0.2.1))] [2] ?_))))
 obtain ⟨a5,ab,ac⟩:=bS aa
 refine k0 (fun _ w hs=>c_laws_heldStore ab (hv0_1.k hs)) ?_
 refine oN 1 [(1,vi a5)] [2] ?_
 refine oe (nt (qs (qs (qr (oN 2 [(16,vb (decide (a5 < 0)))] [1,2] ?_)))))
 refine oe (nt (cC ac (fun ae=>?_) (fun af=>?_)))
 ·refine qs (qr (oN 1 [(4,vi (-1))] [] ?_))
  refine oe (nt (qe (nr ?_)))
  obtain rfl:=sI ae
  exact re [.int .i64 (-1)]
 refine qk (nt (qs (qr (oN 3 [(19,vi a5),(18,.v (vSeries x0.Series b0.2.2.1))] [2] ?_))))
 obtain ⟨a6,ag,ah⟩:=bS af
 refine k0 (fun _ w hs=>c_laws_heldSeries ag (hv0_2.k hs)) ?_
 refine oN 1 [(1,vi a6)] [2] ?_
 refine oe (nt (qs (qs (qr (oN 2 [(22,vb (decide (a6 < 0)))] [1,2] ?_)))))
 refine oe (nt (cC ah (fun ai=>?_) (fun aj=>?_)))
 ·refine qs (qr (oN 1 [(4,vi (-1))] [] ?_))
  refine oe (nt (qe (nr ?_)))
  obtain rfl:=sI ai
  exact re [.int .i64 (-1)]
 refine qk (nt (qs (qr (oN 3 [(25,vi a6),(24,.v (vMember x0.Member b0.2.2.2))] [] ?_))))
 obtain ⟨a3,ak,al⟩:=bS aj
 refine k0 (fun _ w hs=>c_laws_heldMember (b0:=b0.2.2.2) ak (hv0_3.k hs) (hv0_4.k hs)) ?_
 refine oN 1 [(1,vi a3)] [] ?_
 refine oe (nt (qs (qs (qr (oN 2 [(28,vb (decide (a3 < 0)))] [1] ?_)))))
 refine oe (nt (cC al (fun am=>?_) (fun an=>?_)))
 ·refine qs (qr (oN 1 [(4,vi (-1))] [] ?_))
  refine oe (nt (qe (nr ?_)))
  obtain rfl:=sI am
  exact re [.int .i64 (-1)]
 refine qk (nt (qs (qr (oN 2 [(4,vi a3)] [] ?_))))
 refine oe (nt (qe ?_))
 obtain rfl:=sI an
 exact re [.int .i64 a3]
theorem c_laws_heldIntS {W : World} {x0 : List Int} {a0_0 : Option Addr} {c0_0 : Nat} {x1 : Int} {r : Int} (h : laws_heldIntS x0 x1 = some r) (hv0_0 : SlView W x0 a0_0 c0_0) :
  Gives0 Tryz.prog 28 #[.slice a0_0 x0.length c0_0,.int .i64 x1] W (.int .i64 r):=by
 unfold laws_heldIntS at h
 refine en Tryz.func28 Tryz.ntmps28 ?_
 refine qs (qr (oN 1 [] [0,1] ?_))
 refine oe (nt (qs (qs (qr (oN 1 [(5,vi 0)] [0,1] ?_)))))
 refine oe (nt ?_)
 obtain ⟨ao,aa,a5⟩:=bS h
 obtain ⟨ab,ac,a5⟩:=brkS a5
 refine JC_cutP (τ:=(Int) × (Unit)) (fun y=>ab y.1 = some r) (fun a4=>[(1,vi a4.1)]) (fun a4=>[]) (fun a4=>[]) ?_ (fun a4 ae=>?_)
 ·refine qb (lp Unit aa (fun a3 a6=>[(5,vi a3.1),(0,vs a0_0 x0 c0_0),(1,vi a3.2)]) (fun a3 a6=>[]) (fun a3 a6=>[]) () [5,0,1] [] 0 (fun a3 a6 ap af a7=>?_))
  refine qs (qs (qr (oN 4 [(9,vb (decide (a3.1 < (x0.length : Int))))] [5,0,1] ?_)))
  refine oe (nt (cC af (fun ag=>?_) (fun ah=>?_)))
  ·refine qk (nt (qs (qb (qs (qs (qr (oN 2 [(13,vi a3.1),(12,vs a0_0 x0 c0_0)] [5,0,1] ?_)))))))
   obtain ⟨a8,a9,ai⟩:=bS ag
   refine oi 1 (fun _ w hs=>(hv0_0.k hs)) a9 ?_
   refine ol 3 0 (.int .i64 a8) (fun _ w hs=>(hv0_0.k hs).flatq a9) ?_
   refine oN 2 [(17,vb (a8 != a3.2))] [5,0,1] ?_
   refine oe (nt (cC ai (fun aj=>?_) (fun ak=>?_)))
   ·refine qs (qr (oN 1 [(4,vi (-1))] [] ?_))
    refine oe (nt (qe (nr (br (nr (nr ?_))))))
    have al:=leafR a7 aj a5
    refine br (nr (nr ?_))
    obtain rfl:=sI al
    exact re [.int .i64 (-1)]
   refine qk (nt (qr (oN 3 [(1,vi (w64 (a3.2 + 1)))] [5,0] ?_)))
   refine oe (bn (nt (qr (oN 3 [(5,vi (w64 (a3.1 + 1)))] [1,0] ?_))))
   exact oe (ct ak () [5,0,1] [] 0)
  refine qx (nx (nx (bh ?_)))
  have am:=leafB a7 ah a5
  exact mp (a3.2,()) am [1] [] 0
 have an:=(congrFun ac _).symm.trans ae
 refine nt (qs (qr (oN 2 [(4,vi a4.1)] [] ?_)))
 refine oe (nt (qe ?_))
 obtain rfl:=sI an
 exact re [.int .i64 a4.1]
theorem c_laws_heldOffice {W : World} {x0 : Office} {b0 : AC × AC × AC × AC × AC × AC} {x1 : Int} {r : Int} (h : laws_heldOffice x0 x1 = some r) (hv0_0 : SlView W x0.Case.Book.Rules b0.1.1 b0.1.2) (hv0_1 : SlView W x0.Case.Store.Facts b0.2.1.1 b0.2.1.2) (hv0_2 : SlView W x0.Case.Series.Points b0.2.2.1.1 b0.2.2.1.2) (hv0_3 : SlView W x0.Case.Member.Spells b0.2.2.2.1.1 b0.2.2.2.1.2) (hv0_4 : SlView W x0.Case.Member.Events b0.2.2.2.2.1.1 b0.2.2.2.2.1.2) (hv0_5 : SlView W x0.Paid b0.2.2.2.2.2.1 b0.2.2.2.2.2.2) :
  Gives0 Tryz.prog 27 #[vOffice x0 b0,.int .i64 x1] W (.int .i64 r):=by
 unfold laws_heldOffice at h
 refine en Tryz.func27 Tryz.ntmps27 ?_
 refine qs (qr (oB 2 [(2,.p 0 0)] [1] [(57,(eOffice x0 b0))] ?_))
 refine oe (nt (qs (qr (oN 3 [(7,vi x1),(6,.v (vCase x0.Case (b0.1,b0.2.1,b0.2.2.1,b0.2.2.2.1,b0.2.2.2.2.1)))] [2] ?_))))
 obtain ⟨a4,a5,a6⟩:=bS h
 refine k0 (fun _ w hs=>c_laws_heldCase (b0:=(b0.1,b0.2.1,b0.2.2.1,b0.2.2.2.1,b0.2.2.2.2.1)) a5 (hv0_0.k hs) (hv0_1.k hs) (hv0_2.k hs) (hv0_3.k hs) (hv0_4.k hs)) ?_
 refine oN 1 [(1,vi a4)] [2] ?_
 refine oe (nt (qs (qs (qr (oN 2 [(10,vb (decide (a4 < 0)))] [1,2] ?_)))))
 refine oe (nt (cC a6 (fun a7=>?_) (fun a8=>?_)))
 ·refine qs (qr (oN 1 [(4,vi (-1))] [] ?_))
  refine oe (nt (qe (nr ?_)))
  obtain rfl:=sI a7
  exact re [.int .i64 (-1)]
 refine qk (nt (qs (qr (oN 3 [(13,vi a4),(12,sv b0.2.2.2.2.2 x0.Paid)] [] ?_))))
 obtain ⟨a3,a9,aa⟩:=bS a8
 refine k0 (fun _ w hs=>c_laws_heldIntS a9 (hv0_5.k hs)) ?_
 refine oN 1 [(1,vi a3)] [] ?_
 refine oe (nt (qs (qs (qr (oN 2 [(16,vb (decide (a3 < 0)))] [1] ?_)))))
 refine oe (nt (cC aa (fun ab=>?_) (fun ac=>?_)))
 ·refine qs (qr (oN 1 [(4,vi (-1))] [] ?_))
  refine oe (nt (qe (nr ?_)))
  obtain rfl:=sI ab
  exact re [.int .i64 (-1)]
 refine qk (nt (qs (qr (oN 2 [(4,vi a3)] [] ?_))))
 refine oe (nt (qe ?_))
 obtain rfl:=sI ac
 exact re [.int .i64 a3]
theorem c_laws_FnExactDoAct {W : World} {x0 : Office} {b0 : AC × AC × AC × AC × AC × AC} {x1 : Act} {r : Bool} (h : laws_FnExactDoAct x0 x1 = some r) (hv0_0 : SlView W x0.Case.Book.Rules b0.1.1 b0.1.2) (hv0_1 : SlView W x0.Case.Store.Facts b0.2.1.1 b0.2.1.2) (hv0_2 : SlView W x0.Case.Series.Points b0.2.2.1.1 b0.2.2.1.2) (hv0_3 : SlView W x0.Case.Member.Spells b0.2.2.2.1.1 b0.2.2.2.1.2) (hv0_4 : SlView W x0.Case.Member.Events b0.2.2.2.2.1.1 b0.2.2.2.2.1.2) (hv0_5 : SlView W x0.Paid b0.2.2.2.2.2.1 b0.2.2.2.2.2.2) :
  Gives0 Tryz.prog 4 #[vOffice x0 b0,vAct x1] W (.bool r):=by
 unfold laws_FnExactDoAct at h
 refine en Tryz.func4 Tryz.ntmps4 ?_
 refine qs (qr (oB 3 [(3,.p 1 0),(2,.p 0 0)] [] [(73,(eOffice x0 b0)),(79,(eAct x1))] ?_))
 refine oe (nt (qs (qr (oN 1 [(5,vi 1048576)] [3,2] ?_))))
 refine oe (nt (qs (qr (oN 2 [(17,vi 1048576),(16,.v (vOffice x0 b0))] [3,2] ?_))))
 obtain ⟨aq,bf,bg⟩:=bS h
 refine k0 (fun γ w hs=>c_laws_szOffice (b0:=b0) bf (hv0_0.k hs) (hv0_1.k hs) (hv0_2.k hs) (hv0_3.k hs) (hv0_4.k hs) (hv0_5.k hs)) ?_
 refine oN 1 [(5,vi aq)] [3,2] ?_
 refine oe (nt (qs (qs (qr (oN 2 [(20,vb (decide (aq < 0)))] [3,2] ?_)))))
 refine oe (nt (cC bg (fun bi=>?_) (fun bj=>?_)))
 ·refine qs (qr (oN 1 [(4,vb true)] [] ?_))
  refine oe (nt (qe (nr ?_)))
  obtain rfl:=sI bi
  exact re [.bool true]
 refine qk (nt (qs ?_))
 obtain ⟨ar,au,bk⟩:=bS bj
 obtain ⟨bl,al,bm⟩:=bS bk
 obtain ⟨a7,aj,bo⟩:=bS bm
 refine JC_cut (τ:=(AC × AC × AC × AC × AC × AC)) (fun aa=>[(7,vi a7.2),(6,.p 2 0),(3,.p 1 0),(2,.p 0 0)]) (fun aa=>[(73,(eOffice x0 b0)),(79,(eAct x1)),(57,(eOffice a7.1 aa))]) (fun aa=>(rOffice a7.1 aa)) ?_ (fun aa=>?_)
 ·refine jw [3,2] [] ?_
  refine JC_heldN (ks:=[0,1]) (Rk:=[]) 11 (by kernel_rfl) (by kernel_rfl) ?_
  refine htq 0 (.v (vOffice x0 b0)) [] ?_
  refine htq 2 (.v (vAct x1)) [] ?_
  refine ha2 1 8 ?_ ?_
  ·refine hi (fun γ0 δ hm=>?_)
   refine g1 (fun w hs=>c_laws_toOffice (b0:=b0) au (hv0_0.k hs) (hv0_1.k hs) (hv0_2.k hs) (hv0_3.k hs) (hv0_4.k hs) (hv0_5.k hs)) (fun ah=>?_)
   refine gn hm [23,24,3,2] [] ?_
   refine ha2 3 8 ?_ ?_
   ·refine hi (fun γ0 δ hm=>?_)
    refine g0 (fun w hs=>c_laws_toAct al) ?_
    refine gn hm [25,23,3,2] [] ?_
    refine ha2 4 8 ?_ ?_
    ·refine hi (fun γ0 δ hm=>?_)
     refine g1 (fun w hs=>c_spec_DoAct (b0:=ah) aj (hs.view 0 rfl) (hs.view 1 rfl) (hs.view 2 rfl) (hs.view 3 rfl) (hs.view 4 rfl) (hs.view 5 rfl)) (fun ac=>?_)
     refine gn hm [26,3,2] [] ?_
     refine htq 5 (.v (.tuple #[vOffice a7.1 ac,.int .i64 a7.2])) [] ?_
     refine hk [21,3,2] ?_
     refine htq 6 (.v (vOffice a7.1 ac)) [] ?_
     refine htq 7 (vi a7.2) [] ?_
     refine hk [28,27,3,2] ?_
     refine ha1 8 ?_
     refine hi (fun γ0 δ hm=>?_)
     refine gs [(6,.p 2 0),(28,vi a7.2),(27,.v (vOffice a7.1 ac)),(3,.p 1 0),(2,.p 0 0)] [(73,(eOffice x0 b0)),(79,(eAct x1)),(57,[.slice none 0 0,.slice none 0 0,.slice none 0 0,.int .i64 0,.int .i64 0,.slice none 0 0,.slice none 0 0,.int .i64 0,.slice none 0 0])] (fun δ2=>?_)
     refine gd hm [6,28,27,3,2] [] ?_
     refine ha1 9 ?_
     refine hi (fun γ0 δ hm=>?_)
     refine gs [(6,.p 2 0),(28,vi a7.2),(27,.v (vOffice a7.1 ac)),(3,.p 1 0),(2,.p 0 0)] [(73,(eOffice x0 b0)),(79,(eAct x1)),(57,(eOffice a7.1 ac))] (fun δ2=>?_)
     refine gd hm [6,28,3,2] [] ?_
     refine htq 10 (vi a7.2) [] ?_
     refine hk [7,6,3,2] ?_
     exact hd ac [7,6,3,2] [0,0,0,0,0,0] 3
    ·refine hi (fun γ0 δ hm=>?_)
     refine gs [(6,.p 2 0),(25,.v (vAct bl)),(23,.v (vOffice ar ah)),(3,.p 1 0),(2,.p 0 0)] [(73,(eOffice x0 b0)),(79,(eAct x1)),(57,[.slice none 0 0,.slice none 0 0,.slice none 0 0,.int .i64 0,.int .i64 0,.slice none 0 0,.slice none 0 0,.int .i64 0,.slice none 0 0])] (fun δ2=>?_)
     refine gd hm [6,25,23,3,2] [] ?_
     refine ha1 4 ?_
     refine hi (fun γ0 δ hm=>?_)
     refine g1 (fun w hs=>c_spec_DoAct (b0:=ah) aj (hs.view 0 rfl) (hs.view 1 rfl) (hs.view 2 rfl) (hs.view 3 rfl) (hs.view 4 rfl) (hs.view 5 rfl)) (fun ac=>?_)
     refine gn hm [26,6,3,2] [] ?_
     refine htq 5 (.v (.tuple #[vOffice a7.1 ac,.int .i64 a7.2])) [] ?_
     refine hk [21,6,3,2] ?_
     refine htq 6 (.v (vOffice a7.1 ac)) [] ?_
     refine htq 7 (vi a7.2) [] ?_
     refine hk [28,27,6,3,2] ?_
     refine ha1 9 ?_
     refine hi (fun γ0 δ hm=>?_)
     refine gs [(28,vi a7.2),(27,.v (vOffice a7.1 ac)),(6,.p 2 0),(3,.p 1 0),(2,.p 0 0)] [(73,(eOffice x0 b0)),(79,(eAct x1)),(57,(eOffice a7.1 ac))] (fun δ2=>?_)
     refine gd hm [28,6,3,2] [] ?_
     refine htq 10 (vi a7.2) [] ?_
     refine hk [7,6,3,2] ?_
     exact hd ac [7,6,3,2] [0,0,0,0,0,0] 3
   ·refine hi (fun γ0 δ hm=>?_)
    refine gs [(6,.p 2 0),(23,.v (vOffice ar ah)),(24,.v (vAct x1)),(3,.p 1 0),(2,.p 0 0)] [(73,(eOffice x0 b0)),(79,(eAct x1)),(57,[.slice none 0 0,.slice none 0 0,.slice none 0 0,.int .i64 0,.int .i64 0,.slice none 0 0,.slice none 0 0,.int .i64 0,.slice none 0 0])] (fun δ2=>?_)
    refine gd hm [6,23,24,3,2] [] ?_
    refine ha1 3 ?_
    refine hi (fun γ0 δ hm=>?_)
    refine g0 (fun w hs=>c_laws_toAct al) ?_
    refine gn hm [25,6,23,3,2] [] ?_
    refine ha1 4 ?_
    refine hi (fun γ0 δ hm=>?_)
    refine g1 (fun w hs=>c_spec_DoAct (b0:=ah) aj (hs.view 0 rfl) (hs.view 1 rfl) (hs.view 2 rfl) (hs.view 3 rfl) (hs.view 4 rfl) (hs.view 5 rfl)) (fun ac=>?_)
    refine gn hm [26,6,3,2] [] ?_
    refine htq 5 (.v (.tuple #[vOffice a7.1 ac,.int .i64 a7.2])) [] ?_
    refine hk [21,6,3,2] ?_
    refine htq 6 (.v (vOffice a7.1 ac)) [] ?_
    refine htq 7 (vi a7.2) [] ?_
    refine hk [28,27,6,3,2] ?_
    refine ha1 9 ?_
    refine hi (fun γ0 δ hm=>?_)
    refine gs [(28,vi a7.2),(27,.v (vOffice a7.1 ac)),(6,.p 2 0),(3,.p 1 0),(2,.p 0 0)] [(73,(eOffice x0 b0)),(79,(eAct x1)),(57,(eOffice a7.1 ac))] (fun δ2=>?_)
    refine gd hm [28,6,3,2] [] ?_
    refine htq 10 (vi a7.2) [] ?_
    refine hk [7,6,3,2] ?_
    exact hd ac [7,6,3,2] [0,0,0,0,0,0] 3
  ·refine hi (fun γ0 δ hm=>?_)
   refine gs [(6,.p 2 0),(24,.v (vAct x1)),(22,.v (vOffice x0 b0)),(3,.p 1 0),(2,.p 0 0)] [(73,(eOffice x0 b0)),(79,(eAct x1)),(57,[.slice none 0 0,.slice none 0 0,.slice none 0 0,.int .i64 0,.int .i64 0,.slice none 0 0,.slice none 0 0,.int .i64 0,.slice none 0 0])] (fun δ2=>?_)
   refine gd hm [6,24,22,3,2] [] ?_
   refine ha1 1 ?_
   refine hi (fun γ0 δ hm=>?_)
   refine g1 (fun w hs=>c_laws_toOffice (b0:=b0) au (hv0_0.k hs) (hv0_1.k hs) (hv0_2.k hs) (hv0_3.k hs) (hv0_4.k hs) (hv0_5.k hs)) (fun ah=>?_)
   refine gn hm [23,6,24,3,2] [] ?_
   refine ha1 3 ?_
   refine hi (fun γ0 δ hm=>?_)
   refine g0 (fun w hs=>c_laws_toAct al) ?_
   refine gn hm [25,23,6,3,2] [] ?_
   refine ha1 4 ?_
   refine hi (fun γ0 δ hm=>?_)
   refine g1 (fun w hs=>c_spec_DoAct (b0:=ah) aj (hs.view 0 rfl) (hs.view 1 rfl) (hs.view 2 rfl) (hs.view 3 rfl) (hs.view 4 rfl) (hs.view 5 rfl)) (fun ac=>?_)
   refine gn hm [26,6,3,2] [] ?_
   refine htq 5 (.v (.tuple #[vOffice a7.1 ac,.int .i64 a7.2])) [] ?_
   refine hk [21,6,3,2] ?_
   refine htq 6 (.v (vOffice a7.1 ac)) [] ?_
   refine htq 7 (vi a7.2) [] ?_
   refine hk [28,27,6,3,2] ?_
   refine ha1 9 ?_
   refine hi (fun γ0 δ hm=>?_)
   refine gs [(28,vi a7.2),(27,.v (vOffice a7.1 ac)),(6,.p 2 0),(3,.p 1 0),(2,.p 0 0)] [(73,(eOffice x0 b0)),(79,(eAct x1)),(57,(eOffice a7.1 ac))] (fun δ2=>?_)
   refine gd hm [28,6,3,2] [] ?_
   refine htq 10 (vi a7.2) [] ?_
   refine hk [7,6,3,2] ?_
   exact hd ac [7,6,3,2] [0,0,0,0,0,0] 3
 refine nt (qs (qr (oN 1 [(29,.v (vOffice x0 b0))] [7,6,3,2] ?_)))
 obtain ⟨a9,bp,bq⟩:=bS bo
 refine k1 (fun γ w hs=>c_laws_toOffice (b0:=b0) bp (hv0_0.k hs) (hv0_1.k hs) (hv0_2.k hs) (hv0_3.k hs) (hv0_4.k hs) (hv0_5.k hs)) (fun a3=>?_)
 refine oB 2 [(8,.p 3 0)] [7,6,3,2] [(73,(eOffice x0 b0)),(79,(eAct x1)),(57,(eOffice a7.1 aa)),(57,(eOffice a9 a3))] ?_
 refine oe (nt (qs ?_))
 obtain ⟨bs,av,bu⟩:=bS bq
 obtain ⟨a8,am,bv⟩:=bS bu
 refine JC_cut (τ:=(AC × AC × AC × AC × AC × AC)) (fun a6=>[(10,vi a8.2),(9,.p 4 0),(8,.p 3 0),(7,vi a7.2),(6,.p 2 0),(3,.p 1 0),(2,.p 0 0)]) (fun a6=>[(73,(eOffice x0 b0)),(79,(eAct x1)),(57,(eOffice a7.1 aa)),(57,(eOffice a9 a3)),(57,(eOffice a8.1 a6))]) (fun a6=>(rOffice a8.1 a6 ++ (rOffice a9 a3 ++ rOffice a7.1 aa))) ?_ (fun a6=>?_)
 ·refine JC_weak [8,7,6,3,2] [0,0,0,0,0,0,0,0,0,0,0,0] 4 (sl':=[(8,.p 3 0),(7,vi a7.2),(6,.p 2 0),(3,.p 1 0),(2,.p 0 0)]) (bx':=[(73,(eOffice x0 b0)),(79,(eAct x1)),(57,(eOffice a7.1 aa)),(57,(eOffice a9 a3))]) (R':=(rOffice a9 a3 ++ rOffice a7.1 aa)) (by kernel_rfl) (by kernel_rfl) (by kernel_rfl) (by kernel_rfl) ?_
  refine JC_heldN (ks:=[0,1,2,3]) (Rk:=(rOffice a9 a3 ++ rOffice a7.1 aa)) 10 (by kernel_rfl) (by kernel_rfl) ?_
  refine htq 0 (.v (vOffice a9 a3)) [0,0,0,0,0,0,0,0,0,0,0,0] ?_
  refine htq 1 (.v (vAct x1)) [0,0,0,0,0,0,0,0,0,0,0,0] ?_
  refine ha2 2 7 ?_ ?_
  ·refine hi (fun γ0 δ hm=>?_)
   refine g0 (fun w hs=>c_laws_toAct av) ?_
   refine gn hm [34,32,8,7,6,3,2] [0,0,0,0,0,0,0,0,0,0,0,0] ?_
   refine ha2 3 7 ?_ ?_
   ·refine hi (fun γ0 δ hm=>?_)
    refine g1 (fun w hs=>c_impl_DoAct (b0:=a3) am (hs.view 0 rfl) (hs.view 1 rfl) (hs.view 2 rfl) (hs.view 3 rfl) (hs.view 4 rfl) (hs.view 5 rfl)) (fun af=>?_)
    refine gn hm [35,8,7,6,3,2] [6,6,6,6,6,6,6,6,6,6,6,6] ?_
    refine htq 4 (.v (.tuple #[vOffice a8.1 af,.int .i64 a8.2])) [6,6,6,6,6,6,6,6,6,6,6,6] ?_
    refine hk [31,8,7,6,3,2] ?_
    refine htq 5 (.v (vOffice a8.1 af)) [6,6,6,6,6,6,6,6,6,6,6,6] ?_
    refine htq 6 (vi a8.2) [6,6,6,6,6,6,6,6,6,6,6,6] ?_
    refine hk [37,36,8,7,6,3,2] ?_
    refine ha1 7 ?_
    refine hi (fun γ0 δ hm=>?_)
    refine gs [(9,.p 4 0),(37,vi a8.2),(36,.v (vOffice a8.1 af)),(8,.p 3 0),(7,vi a7.2),(6,.p 2 0),(3,.p 1 0),(2,.p 0 0)] [(73,(eOffice x0 b0)),(79,(eAct x1)),(57,(eOffice a7.1 aa)),(57,(eOffice a9 a3)),(57,[.slice none 0 0,.slice none 0 0,.slice none 0 0,.int .i64 0,.int .i64 0,.slice none 0 0,.slice none 0 0,.int .i64 0,.slice none 0 0])] (fun δ2=>?_)
    refine gd hm [9,37,36,8,7,6,3,2] [6,6,6,6,6,6,6,6,6,6,6,6] ?_
    refine ha1 8 ?_
    refine hi (fun γ0 δ hm=>?_)
    refine gs [(9,.p 4 0),(37,vi a8.2),(36,.v (vOffice a8.1 af)),(8,.p 3 0),(7,vi a7.2),(6,.p 2 0),(3,.p 1 0),(2,.p 0 0)] [(73,(eOffice x0 b0)),(79,(eAct x1)),(57,(eOffice a7.1 aa)),(57,(eOffice a9 a3)),(57,(eOffice a8.1 af))] (fun δ2=>?_)
    refine gd hm [9,37,8,7,6,3,2] [6,6,6,6,6,6,6,6,6,6,6,6] ?_
    refine htq 9 (vi a8.2) [6,6,6,6,6,6,6,6,6,6,6,6] ?_
    refine hk [10,9,8,7,6,3,2] ?_
    exact hd af [10,9,8,7,6,3,2] [0,0,0,0,0,0,0,0,0,0,0,0,0,0,0,0,0,0] 5
   ·refine hi (fun γ0 δ hm=>?_)
    refine gs [(9,.p 4 0),(34,.v (vAct bs)),(32,.v (vOffice a9 a3)),(8,.p 3 0),(7,vi a7.2),(6,.p 2 0),(3,.p 1 0),(2,.p 0 0)] [(73,(eOffice x0 b0)),(79,(eAct x1)),(57,(eOffice a7.1 aa)),(57,(eOffice a9 a3)),(57,[.slice none 0 0,.slice none 0 0,.slice none 0 0,.int .i64 0,.int .i64 0,.slice none 0 0,.slice none 0 0,.int .i64 0,.slice none 0 0])] (fun δ2=>?_)
    refine gd hm [9,34,32,8,7,6,3,2] [0,0,0,0,0,0,0,0,0,0,0,0] ?_
    refine ha1 3 ?_
    refine hi (fun γ0 δ hm=>?_)
    refine g1 (fun w hs=>c_impl_DoAct (b0:=a3) am (hs.view 0 rfl) (hs.view 1 rfl) (hs.view 2 rfl) (hs.view 3 rfl) (hs.view 4 rfl) (hs.view 5 rfl)) (fun af=>?_)
    refine gn hm [35,9,8,7,6,3,2] [6,6,6,6,6,6,6,6,6,6,6,6] ?_
    refine htq 4 (.v (.tuple #[vOffice a8.1 af,.int .i64 a8.2])) [6,6,6,6,6,6,6,6,6,6,6,6] ?_
    refine hk [31,9,8,7,6,3,2] ?_
    refine htq 5 (.v (vOffice a8.1 af)) [6,6,6,6,6,6,6,6,6,6,6,6] ?_
    refine htq 6 (vi a8.2) [6,6,6,6,6,6,6,6,6,6,6,6] ?_
    refine hk [37,36,9,8,7,6,3,2] ?_
    refine ha1 8 ?_
    refine hi (fun γ0 δ hm=>?_)
    refine gs [(37,vi a8.2),(36,.v (vOffice a8.1 af)),(9,.p 4 0),(8,.p 3 0),(7,vi a7.2),(6,.p 2 0),(3,.p 1 0),(2,.p 0 0)] [(73,(eOffice x0 b0)),(79,(eAct x1)),(57,(eOffice a7.1 aa)),(57,(eOffice a9 a3)),(57,(eOffice a8.1 af))] (fun δ2=>?_)
    refine gd hm [37,9,8,7,6,3,2] [6,6,6,6,6,6,6,6,6,6,6,6] ?_
    refine htq 9 (vi a8.2) [6,6,6,6,6,6,6,6,6,6,6,6] ?_
    refine hk [10,9,8,7,6,3,2] ?_
    exact hd af [10,9,8,7,6,3,2] [0,0,0,0,0,0,0,0,0,0,0,0,0,0,0,0,0,0] 5
  ·refine hi (fun γ0 δ hm=>?_)
   refine gs [(9,.p 4 0),(33,.v (vAct x1)),(32,.v (vOffice a9 a3)),(8,.p 3 0),(7,vi a7.2),(6,.p 2 0),(3,.p 1 0),(2,.p 0 0)] [(73,(eOffice x0 b0)),(79,(eAct x1)),(57,(eOffice a7.1 aa)),(57,(eOffice a9 a3)),(57,[.slice none 0 0,.slice none 0 0,.slice none 0 0,.int .i64 0,.int .i64 0,.slice none 0 0,.slice none 0 0,.int .i64 0,.slice none 0 0])] (fun δ2=>?_)
   refine gd hm [9,33,32,8,7,6,3,2] [0,0,0,0,0,0,0,0,0,0,0,0] ?_
   refine ha1 2 ?_
   refine hi (fun γ0 δ hm=>?_)
   refine g0 (fun w hs=>c_laws_toAct av) ?_
   refine gn hm [34,9,32,8,7,6,3,2] [0,0,0,0,0,0,0,0,0,0,0,0] ?_
   refine ha1 3 ?_
   refine hi (fun γ0 δ hm=>?_)
   refine g1 (fun w hs=>c_impl_DoAct (b0:=a3) am (hs.view 0 rfl) (hs.view 1 rfl) (hs.view 2 rfl) (hs.view 3 rfl) (hs.view 4 rfl) (hs.view 5 rfl)) (fun af=>?_)
   refine gn hm [35,9,8,7,6,3,2] [6,6,6,6,6,6,6,6,6,6,6,6] ?_
   refine htq 4 (.v (.tuple #[vOffice a8.1 af,.int .i64 a8.2])) [6,6,6,6,6,6,6,6,6,6,6,6] ?_
   refine hk [31,9,8,7,6,3,2] ?_
   refine htq 5 (.v (vOffice a8.1 af)) [6,6,6,6,6,6,6,6,6,6,6,6] ?_
   refine htq 6 (vi a8.2) [6,6,6,6,6,6,6,6,6,6,6,6] ?_
   refine hk [37,36,9,8,7,6,3,2] ?_
   refine ha1 8 ?_
   refine hi (fun γ0 δ hm=>?_)
   refine gs [(37,vi a8.2),(36,.v (vOffice a8.1 af)),(9,.p 4 0),(8,.p 3 0),(7,vi a7.2),(6,.p 2 0),(3,.p 1 0),(2,.p 0 0)] [(73,(eOffice x0 b0)),(79,(eAct x1)),(57,(eOffice a7.1 aa)),(57,(eOffice a9 a3)),(57,(eOffice a8.1 af))] (fun δ2=>?_)
   refine gd hm [37,9,8,7,6,3,2] [6,6,6,6,6,6,6,6,6,6,6,6] ?_
   refine htq 9 (vi a8.2) [6,6,6,6,6,6,6,6,6,6,6,6] ?_
   refine hk [10,9,8,7,6,3,2] ?_
   exact hd af [10,9,8,7,6,3,2] [0,0,0,0,0,0,0,0,0,0,0,0,0,0,0,0,0,0] 5
 refine nt (qs (qs ?_))
 obtain ⟨bw,bz,c3⟩:=bS bv
 refine JC_cut (τ:=Unit) (fun _=>[(2,.p 0 0),(3,.p 1 0),(6,.p 2 0),(7,vi a7.2),(8,.p 3 0),(9,.p 4 0),(10,vi a8.2),(46,vb bw)]) (fun _=>[(73,(eOffice x0 b0)),(79,(eAct x1)),(57,(eOffice a7.1 aa)),(57,(eOffice a9 a3)),(57,(eOffice a8.1 a6))]) (fun _=>(rOffice a7.1 aa ++ (rOffice a9 a3 ++ rOffice a8.1 a6))) ?_ (fun _=>?_)
 ·refine qr (oN 2 [(39,.v (vOffice a7.1 aa)),(38,.v (vOffice a8.1 a6))] [10,9,8,7,6,3,2] ?_)
  obtain ⟨c4,c5,c6⟩:=bS bz
  refine k0 (fun γ w hs=>c_laws_eqOffice (b0:=a6) (b1:=aa) c5 (hs.view 0 rfl) (hs.view 1 rfl) (hs.view 2 rfl) (hs.view 3 rfl) (hs.view 4 rfl) (hs.view 5 rfl) (hs.view 12 rfl) (hs.view 13 rfl) (hs.view 14 rfl) (hs.view 15 rfl) (hs.view 16 rfl) (hs.view 17 rfl)) ?_
  refine oN 2 [(42,vb (!c4))] [10,9,8,7,6,3,2] ?_
  refine oS 42 c6 (fun c7=>?_) (fun c8=>?_)
  ·refine oN 4 [(46,vb true)] [10,9,8,7,6,3,2] ?_
   refine oe ?_
   obtain rfl:=sI c7
   exact mt () [2,3,6,7,8,9,10,46] [12,12,12,12,12,12,6,6,6,6,6,6,0,0,0,0,0,0] 5
  refine oN 4 [(46,vb (a8.2 != a7.2))] [10,9,8,7,6,3,2] ?_
  refine oe ?_
  obtain rfl:=sI c8
  exact mt () [2,3,6,7,8,9,10,46] [12,12,12,12,12,12,6,6,6,6,6,6,0,0,0,0,0,0] 5
 refine nt (cC c3 (fun c9=>?_) (fun ca=>?_))
 ·refine qs (qr (oN 1 [(4,vb false)] [] ?_))
  refine oe (nt (qe (nr ?_)))
  obtain rfl:=sI c9
  exact re [.bool false]
 refine qk (nt (qs (qs ?_)))
 obtain ⟨eh,cb,cc⟩:=bS ca
 obtain ⟨aw,cd,ce⟩:=bS cc
 refine JC_cut (τ:=Unit) (fun _=>[(51,vb (!aw)),(2,.p 0 0),(3,.p 1 0),(6,.p 2 0),(7,vi a7.2),(8,.p 3 0),(9,.p 4 0),(10,vi a8.2)]) (fun _=>[(73,(eOffice x0 b0)),(79,(eAct x1)),(57,(eOffice a7.1 aa)),(57,(eOffice a9 a3)),(57,(eOffice a8.1 a6))]) (fun _=>(rOffice a7.1 aa ++ (rOffice a9 a3 ++ rOffice a8.1 a6))) ?_ (fun _=>?_)
 ·refine JC_weak [2,3,6,7,8,9,10] [0,0,0,0,0,0,0,0,0,0,0,0,0,0,0,0,0,0] 5 (sl':=[(2,.p 0 0),(3,.p 1 0),(6,.p 2 0),(7,vi a7.2),(8,.p 3 0),(9,.p 4 0),(10,vi a8.2)]) (bx':=[(73,(eOffice x0 b0)),(79,(eAct x1)),(57,(eOffice a7.1 aa)),(57,(eOffice a9 a3)),(57,(eOffice a8.1 a6))]) (R':=(rOffice a7.1 aa ++ (rOffice a9 a3 ++ rOffice a8.1 a6))) (by kernel_rfl) (by kernel_rfl) (by kernel_rfl) (by kernel_rfl) ?_
  refine JC_heldN (ks:=[0,1,2,3,4]) (Rk:=(rOffice a7.1 aa ++ (rOffice a9 a3 ++ rOffice a8.1 a6))) 5 (by kernel_rfl) (by kernel_rfl) ?_
  refine htq 0 (.v (vOffice a9 a3)) [0,0,0,0,0,0,0,0,0,0,0,0,0,0,0,0,0,0] ?_
  refine htq 1 (.v (vOffice x0 b0)) [0,0,0,0,0,0,0,0,0,0,0,0,0,0,0,0,0,0] ?_
  refine ha1 2 ?_
  refine hi (fun γ0 δ hm=>?_)
  refine g1 (fun w hs=>c_laws_toOffice (b0:=b0) cb (hv0_0.k hs) (hv0_1.k hs) (hv0_2.k hs) (hv0_3.k hs) (hv0_4.k hs) (hv0_5.k hs)) (fun cf=>?_)
  refine gn hm [49,47,2,3,6,7,8,9,10] [6,6,6,6,6,6,6,6,6,6,6,6,6,6,6,6,6,6] ?_
  refine ha1 3 ?_
  refine hi (fun γ0 δ hm=>?_)
  refine g0 (fun w hs=>c_laws_eqOffice (b0:=a3) (b1:=cf) cd (hs.view 12 rfl) (hs.view 13 rfl) (hs.view 14 rfl) (hs.view 15 rfl) (hs.view 16 rfl) (hs.view 17 rfl) (hs.view 0 rfl) (hs.view 1 rfl) (hs.view 2 rfl) (hs.view 3 rfl) (hs.view 4 rfl) (hs.view 5 rfl)) ?_
  refine gn hm [50,2,3,6,7,8,9,10] [6,6,6,6,6,6,6,6,6,6,6,6,6,6,6,6,6,6] ?_
  refine htq 4 (vb (!aw)) [6,6,6,6,6,6,6,6,6,6,6,6,6,6,6,6,6,6] ?_
  refine hk [51,2,3,6,7,8,9,10] ?_
  exact hd () [51,2,3,6,7,8,9,10] [6,6,6,6,6,6,6,6,6,6,6,6,6,6,6,6,6,6] 5
 refine nt (cC ce (fun cg=>?_) (fun ch=>?_))
 ·refine qs (qr (oN 1 [(4,vb false)] [] ?_))
  refine oe (nt (qe (nr ?_)))
  obtain rfl:=sI cg
  exact re [.bool false]
 refine qk (nt (qs (qr (oN 1 [(11,vi 1)] [2,3,6,7,8,9,10] ?_))))
 refine oe (nt (qs (qr (oN 2 [(53,vi 1),(52,.v (vOffice a9 a3))] [2,3,6,7,9,10] ?_))))
 refine JO_res (R':=(rOffice a9 a3 ++ (rOffice a7.1 aa ++ rOffice a8.1 a6))) [6,6,6,6,6,6,0,0,0,0,0,0,0,0,0,0,0,0] (by kernel_rfl) ?_
 obtain ⟨a4,ci,cj⟩:=bS ch
 obtain ⟨ei,ck,cl⟩:=bS cj
 have ax:=(sameLen_some ck).symm
 obtain ⟨ej,cm,cn⟩:=bS cl
 have ay:=(sameLen_some cm).symm
 obtain ⟨ek,co,cp⟩:=bS cn
 have az:=(sameLen_some co).symm
 obtain ⟨el,cq,cr⟩:=bS cp
 have b4:=(sameLen_some cq).symm
 obtain ⟨em,cu,cv⟩:=bS cr
 have b5:=(sameLen_some cu).symm
 obtain ⟨eo,cw,cx⟩:=bS cv
 have b6:=(sameLen_some cw).symm
 refine JO_callM rfl (by kernel_rfl) (f:=25) (args:=#[vOffice a9 a3,.int .i64 1]) (by kernel_rfl) (x:=.int .i64 a4.1) (Rin:=(rOffice a9 a3)) (Rout:=[SlRes 188 a4.2.1 a3.1.1 a3.1.2,SlRes 84 a4.2.2.1 a3.2.1.1 a3.2.1.2,SlRes 85 a4.2.2.2.1 a3.2.2.1.1 a3.2.2.1.2,SlRes 191 a4.2.2.2.2.1 a3.2.2.2.1.1 a3.2.2.2.1.2,SlRes 195 a4.2.2.2.2.2.1 a3.2.2.2.2.1.1 a3.2.2.2.2.1.2,SlRes 3 a4.2.2.2.2.2.2 a3.2.2.2.2.2.1 a3.2.2.2.2.2.2]) (Rr:=(rOffice a7.1 aa ++ rOffice a8.1 a6)) rfl (fun w=>(by have vv:=c_laws_markOffice (e0_0:=188) (a0_0:=a3.1.1) (c0_0:=a3.1.2) (e0_1:=84) (a0_1:=a3.2.1.1) (c0_1:=a3.2.1.2) (e0_2:=85) (a0_2:=a3.2.2.1.1) (c0_2:=a3.2.2.1.2) (e0_3:=191) (a0_3:=a3.2.2.2.1.1) (c0_3:=a3.2.2.2.1.2) (e0_4:=195) (a0_4:=a3.2.2.2.2.1.1) (c0_4:=a3.2.2.2.2.1.2) (e0_5:=3) (a0_5:=a3.2.2.2.2.2.1) (c0_5:=a3.2.2.2.2.2.2) (W:=w) ci; exact vv)) (sl':=[(54,vi a4.1),(53,vi 1),(52,.v (vOffice a9 a3)),(2,.p 0 0),(3,.p 1 0),(6,.p 2 0),(7,vi a7.2),(9,.p 4 0),(10,vi a8.2)]) (by kernel_rfl) ?_
 refine JO_eqE (sl':=[(54,vi a4.1),(53,vi 1),(52,.v (vOffice (Office.mk (Case.mk (Book.mk a4.2.1) (Store.mk a4.2.2.1) (Series.mk a4.2.2.2.1) (Member.mk a9.Case.Member.Birth a9.Case.Member.Joined a4.2.2.2.2.1 a4.2.2.2.2.2.1)) a9.Start a4.2.2.2.2.2.2) a3)),(2,.p 0 0),(3,.p 1 0),(6,.p 2 0),(7,vi a7.2),(9,.p 4 0),(10,vi a8.2)]) (bx':=[(73,(eOffice x0 b0)),(79,(eAct x1)),(57,(eOffice a7.1 aa)),(57,(eOffice (Office.mk (Case.mk (Book.mk a4.2.1) (Store.mk a4.2.2.1) (Series.mk a4.2.2.2.1) (Member.mk a9.Case.Member.Birth a9.Case.Member.Joined a4.2.2.2.2.1 a4.2.2.2.2.2.1)) a9.Start a4.2.2.2.2.2.2) a3)),(57,(eOffice a8.1 a6))]) (by simp only [vs,sv,eOffice,vOffice,ax,ay,az,b4,b5,b6]) (by simp only [vs,sv,eAct,eOffice,vAct,vOffice,ax,ay,az,b4,b5,b6]) ?_
 refine oN 1 [(11,vi a4.1)] [2,3,6,7,9,10] ?_
 refine oe (nt (qs (qs ?_)))
 obtain ⟨cy,cz,d0⟩:=bS cx
 refine JC_cut (τ:=Unit) (fun _=>[(2,.p 0 0),(3,.p 1 0),(6,.p 2 0),(7,vi a7.2),(9,.p 4 0),(67,vb cy)]) (fun _=>[(73,(eOffice x0 b0)),(79,(eAct x1)),(57,(eOffice a7.1 aa)),(57,(eOffice (Office.mk (Case.mk (Book.mk a4.2.1) (Store.mk a4.2.2.1) (Series.mk a4.2.2.2.1) (Member.mk a9.Case.Member.Birth a9.Case.Member.Joined a4.2.2.2.2.1 a4.2.2.2.2.2.1)) a9.Start a4.2.2.2.2.2.2) a3)),(57,(eOffice a8.1 a6))]) (fun _=>(rOffice a7.1 aa ++ ([SlRes 188 a4.2.1 a3.1.1 a3.1.2,SlRes 84 a4.2.2.1 a3.2.1.1 a3.2.1.2,SlRes 85 a4.2.2.2.1 a3.2.2.1.1 a3.2.2.1.2,SlRes 191 a4.2.2.2.2.1 a3.2.2.2.1.1 a3.2.2.2.1.2,SlRes 195 a4.2.2.2.2.2.1 a3.2.2.2.2.1.1 a3.2.2.2.2.1.2,SlRes 3 a4.2.2.2.2.2.2 a3.2.2.2.2.2.1 a3.2.2.2.2.2.2] ++ rOffice a8.1 a6))) ?_ (fun _=>?_)
 ·refine qr (oN 3 [(57,vb (decide (a4.1 < 0)))] [2,3,6,7,9,10] ?_)
  refine oS 57 cz (fun d1=>?_) (fun d2=>?_)
  ·refine oN 10 [(67,vb true)] [2,3,6,7,9] ?_
   refine oe ?_
   obtain rfl:=sI d1
   exact mt () [2,3,6,7,9,67] [6,6,6,6,6,6,0,0,0,0,0,0,0,0,0,0,0,0] 5
  refine oN 2 [(59,.v (vOffice a7.1 aa)),(58,.v (vOffice a8.1 a6))] [57,2,3,6,7,9,10] ?_
  obtain ⟨d3,d4,d5⟩:=bS d2
  refine k0 (fun γ w hs=>c_laws_eqOffice (b0:=a6) (b1:=aa) d4 (hs.view 12 rfl) (hs.view 13 rfl) (hs.view 14 rfl) (hs.view 15 rfl) (hs.view 16 rfl) (hs.view 17 rfl) (hs.view 6 rfl) (hs.view 7 rfl) (hs.view 8 rfl) (hs.view 9 rfl) (hs.view 10 rfl) (hs.view 11 rfl)) ?_
  refine oN 3 [(63,vb (!d3))] [2,3,6,7,9,10] ?_
  refine oS 63 d5 (fun d6=>?_) (fun d7=>?_)
  ·refine oN 4 [(67,vb true)] [2,3,6,7,9] ?_
   refine oe ?_
   obtain rfl:=sI d6
   exact mt () [2,3,6,7,9,67] [6,6,6,6,6,6,0,0,0,0,0,0,0,0,0,0,0,0] 5
  refine oN 4 [(67,vb (a8.2 != a7.2))] [2,3,6,7,9] ?_
  refine oe ?_
  obtain rfl:=sI d7
  exact mt () [2,3,6,7,9,67] [6,6,6,6,6,6,0,0,0,0,0,0,0,0,0,0,0,0] 5
 refine nt (cC d0 (fun d8=>?_) (fun d9=>?_))
 ·refine qs (qr (oN 1 [(4,vb false)] [] ?_))
  refine oe (nt (qe (nr ?_)))
  obtain rfl:=sI d8
  exact re [.bool false]
 refine qk (nt (qs (qr (oN 1 [(12,vi 1)] [2,3,6,7,9] ?_))))
 refine oe (nt (qs (qr (oN 2 [(69,vi 1),(68,.v (vOffice a8.1 a6))] [2,3,6,7,9] ?_))))
 refine JO_res (R':=(rOffice a8.1 a6 ++ (rOffice a7.1 aa ++ [SlRes 188 a4.2.1 a3.1.1 a3.1.2,SlRes 84 a4.2.2.1 a3.2.1.1 a3.2.1.2,SlRes 85 a4.2.2.2.1 a3.2.2.1.1 a3.2.2.1.2,SlRes 191 a4.2.2.2.2.1 a3.2.2.2.1.1 a3.2.2.2.1.2,SlRes 195 a4.2.2.2.2.2.1 a3.2.2.2.2.1.1 a3.2.2.2.2.1.2,SlRes 3 a4.2.2.2.2.2.2 a3.2.2.2.2.2.1 a3.2.2.2.2.2.2]))) [12,12,12,12,12,12,0,0,0,0,0,0,0,0,0,0,0,0] (by kernel_rfl) ?_
 obtain ⟨a5,da,db⟩:=bS d9
 obtain ⟨ep,dc,dd⟩:=bS db
 have b7:=(sameLen_some dc).symm
 obtain ⟨eq,de,df⟩:=bS dd
 have b8:=(sameLen_some de).symm
 obtain ⟨er,dg,dh⟩:=bS df
 have b9:=(sameLen_some dg).symm
 obtain ⟨es,di,dj⟩:=bS dh
 have ba:=(sameLen_some di).symm
 obtain ⟨et,dk,dl⟩:=bS dj
 have bb:=(sameLen_some dk).symm
 obtain ⟨eu,dm,dn⟩:=bS dl
 have bc:=(sameLen_some dm).symm
 refine JO_callM rfl (by kernel_rfl) (f:=25) (args:=#[vOffice a8.1 a6,.int .i64 1]) (by kernel_rfl) (x:=.int .i64 a5.1) (Rin:=(rOffice a8.1 a6)) (Rout:=[SlRes 188 a5.2.1 a6.1.1 a6.1.2,SlRes 84 a5.2.2.1 a6.2.1.1 a6.2.1.2,SlRes 85 a5.2.2.2.1 a6.2.2.1.1 a6.2.2.1.2,SlRes 191 a5.2.2.2.2.1 a6.2.2.2.1.1 a6.2.2.2.1.2,SlRes 195 a5.2.2.2.2.2.1 a6.2.2.2.2.1.1 a6.2.2.2.2.1.2,SlRes 3 a5.2.2.2.2.2.2 a6.2.2.2.2.2.1 a6.2.2.2.2.2.2]) (Rr:=(rOffice a7.1 aa ++ [SlRes 188 a4.2.1 a3.1.1 a3.1.2,SlRes 84 a4.2.2.1 a3.2.1.1 a3.2.1.2,SlRes 85 a4.2.2.2.1 a3.2.2.1.1 a3.2.2.1.2,SlRes 191 a4.2.2.2.2.1 a3.2.2.2.1.1 a3.2.2.2.1.2,SlRes 195 a4.2.2.2.2.2.1 a3.2.2.2.2.1.1 a3.2.2.2.2.1.2,SlRes 3 a4.2.2.2.2.2.2 a3.2.2.2.2.2.1 a3.2.2.2.2.2.2])) rfl (fun w=>(by have vv:=c_laws_markOffice (e0_0:=188) (a0_0:=a6.1.1) (c0_0:=a6.1.2) (e0_1:=84) (a0_1:=a6.2.1.1) (c0_1:=a6.2.1.2) (e0_2:=85) (a0_2:=a6.2.2.1.1) (c0_2:=a6.2.2.1.2) (e0_3:=191) (a0_3:=a6.2.2.2.1.1) (c0_3:=a6.2.2.2.1.2) (e0_4:=195) (a0_4:=a6.2.2.2.2.1.1) (c0_4:=a6.2.2.2.2.1.2) (e0_5:=3) (a0_5:=a6.2.2.2.2.2.1) (c0_5:=a6.2.2.2.2.2.2) (W:=w) da; exact vv)) (sl':=[(70,vi a5.1),(69,vi 1),(68,.v (vOffice a8.1 a6)),(2,.p 0 0),(3,.p 1 0),(6,.p 2 0),(7,vi a7.2),(9,.p 4 0)]) (by kernel_rfl) ?_
 refine JO_eqE (sl':=[(70,vi a5.1),(69,vi 1),(68,.v (vOffice (Office.mk (Case.mk (Book.mk a5.2.1) (Store.mk a5.2.2.1) (Series.mk a5.2.2.2.1) (Member.mk a8.1.Case.Member.Birth a8.1.Case.Member.Joined a5.2.2.2.2.1 a5.2.2.2.2.2.1)) a8.1.Start a5.2.2.2.2.2.2) a6)),(2,.p 0 0),(3,.p 1 0),(6,.p 2 0),(7,vi a7.2),(9,.p 4 0)]) (bx':=[(73,(eOffice x0 b0)),(79,(eAct x1)),(57,(eOffice a7.1 aa)),(57,(eOffice (Office.mk (Case.mk (Book.mk a4.2.1) (Store.mk a4.2.2.1) (Series.mk a4.2.2.2.1) (Member.mk a9.Case.Member.Birth a9.Case.Member.Joined a4.2.2.2.2.1 a4.2.2.2.2.2.1)) a9.Start a4.2.2.2.2.2.2) a3)),(57,(eOffice (Office.mk (Case.mk (Book.mk a5.2.1) (Store.mk a5.2.2.1) (Series.mk a5.2.2.2.1) (Member.mk a8.1.Case.Member.Birth a8.1.Case.Member.Joined a5.2.2.2.2.1 a5.2.2.2.2.2.1)) a8.1.Start a5.2.2.2.2.2.2) a6))]) (by simp only [vs,sv,eOffice,vOffice,b7,b8,b9,ba,bb,bc]) (by simp only [vs,sv,eAct,eOffice,vAct,vOffice,b7,b8,b9,ba,bb,bc]) ?_
 refine oN 1 [(12,vi a5.1)] [2,3,6,7,9] ?_
 refine oe (nt (qs (qr (oN 1 [(13,vi 1)] [12,2,3,6,7,9] ?_))))
 refine oe (nt (qs (qr (oN 2 [(72,vi 1),(71,.v (vOffice (Office.mk (Case.mk (Book.mk a5.2.1) (Store.mk a5.2.2.1) (Series.mk a5.2.2.2.1) (Member.mk a8.1.Case.Member.Birth a8.1.Case.Member.Joined a5.2.2.2.2.1 a5.2.2.2.2.2.1)) a8.1.Start a5.2.2.2.2.2.2) a6))] [12,2,3,6,7,9] ?_))))
 obtain ⟨an,dp,dq⟩:=bS dn
 refine k0 (fun γ w hs=>c_laws_heldOffice (b0:=a6) dp (hs.view 0 rfl) (hs.view 1 rfl) (hs.view 2 rfl) (hs.view 3 rfl) (hs.view 4 rfl) (hs.view 5 rfl)) ?_
 refine oN 1 [(13,vi an)] [12,2,3,6,7,9] ?_
 refine oe (nt (qs (qs (qr (oN 2 [(75,vb (decide (an < 0)))] [13,12,2,3,6,7,9] ?_)))))
 refine oe (nt (cC dq (fun dr=>?_) (fun ds=>?_)))
 ·refine qs (qr (oN 1 [(4,vb false)] [] ?_))
  refine oe (nt (qe (nr ?_)))
  obtain rfl:=sI dr
  exact re [.bool false]
 refine qk (nt (qs (qs (qr (oN 3 [(78,vb (an != a5.1))] [12,2,3,6,7,9] ?_)))))
 refine oe (nt (cC ds (fun dt=>?_) (fun du=>?_)))
 ·refine qs (qr (oN 1 [(4,vb false)] [] ?_))
  refine oe (nt (qe (nr ?_)))
  obtain rfl:=sI dt
  exact re [.bool false]
 refine qk (nt (qs ?_))
 obtain ⟨bd,be,dv⟩:=bS du
 obtain ⟨dw,ao,dx⟩:=bS dv
 obtain ⟨ab,ak,dy⟩:=bS dx
 refine JC_cut (τ:=(AC × AC × AC × AC × AC × AC)) (fun ag=>[(15,vi ab.2),(14,.p 5 0),(12,vi a5.1),(6,.p 2 0),(7,vi a7.2),(9,.p 4 0)]) (fun ag=>[(73,(eOffice x0 b0)),(79,(eAct x1)),(57,(eOffice a7.1 aa)),(57,(eOffice (Office.mk (Case.mk (Book.mk a4.2.1) (Store.mk a4.2.2.1) (Series.mk a4.2.2.2.1) (Member.mk a9.Case.Member.Birth a9.Case.Member.Joined a4.2.2.2.2.1 a4.2.2.2.2.2.1)) a9.Start a4.2.2.2.2.2.2) a3)),(57,(eOffice (Office.mk (Case.mk (Book.mk a5.2.1) (Store.mk a5.2.2.1) (Series.mk a5.2.2.2.1) (Member.mk a8.1.Case.Member.Birth a8.1.Case.Member.Joined a5.2.2.2.2.1 a5.2.2.2.2.2.1)) a8.1.Start a5.2.2.2.2.2.2) a6)),(57,(eOffice ab.1 ag))]) (fun ag=>(rOffice ab.1 ag ++ ([SlRes 188 a5.2.1 a6.1.1 a6.1.2,SlRes 84 a5.2.2.1 a6.2.1.1 a6.2.1.2,SlRes 85 a5.2.2.2.1 a6.2.2.1.1 a6.2.2.1.2,SlRes 191 a5.2.2.2.2.1 a6.2.2.2.1.1 a6.2.2.2.1.2,SlRes 195 a5.2.2.2.2.2.1 a6.2.2.2.2.1.1 a6.2.2.2.2.1.2,SlRes 3 a5.2.2.2.2.2.2 a6.2.2.2.2.2.1 a6.2.2.2.2.2.2] ++ (rOffice a7.1 aa ++ [SlRes 188 a4.2.1 a3.1.1 a3.1.2,SlRes 84 a4.2.2.1 a3.2.1.1 a3.2.1.2,SlRes 85 a4.2.2.2.1 a3.2.2.1.1 a3.2.2.1.2,SlRes 191 a4.2.2.2.2.1 a3.2.2.2.1.1 a3.2.2.2.1.2,SlRes 195 a4.2.2.2.2.2.1 a3.2.2.2.2.1.1 a3.2.2.2.2.1.2,SlRes 3 a4.2.2.2.2.2.2 a3.2.2.2.2.2.1 a3.2.2.2.2.2.2])))) ?_ (fun ag=>?_)
 ·refine JC_weak [12,2,3,6,7,9] [0,0,0,0,0,0,0,0,0,0,0,0,0,0,0,0,0,0] 5 (sl':=[(12,vi a5.1),(2,.p 0 0),(3,.p 1 0),(6,.p 2 0),(7,vi a7.2),(9,.p 4 0)]) (bx':=[(73,(eOffice x0 b0)),(79,(eAct x1)),(57,(eOffice a7.1 aa)),(57,(eOffice (Office.mk (Case.mk (Book.mk a4.2.1) (Store.mk a4.2.2.1) (Series.mk a4.2.2.2.1) (Member.mk a9.Case.Member.Birth a9.Case.Member.Joined a4.2.2.2.2.1 a4.2.2.2.2.2.1)) a9.Start a4.2.2.2.2.2.2) a3)),(57,(eOffice (Office.mk (Case.mk (Book.mk a5.2.1) (Store.mk a5.2.2.1) (Series.mk a5.2.2.2.1) (Member.mk a8.1.Case.Member.Birth a8.1.Case.Member.Joined a5.2.2.2.2.1 a5.2.2.2.2.2.1)) a8.1.Start a5.2.2.2.2.2.2) a6))]) (R':=([SlRes 188 a5.2.1 a6.1.1 a6.1.2,SlRes 84 a5.2.2.1 a6.2.1.1 a6.2.1.2,SlRes 85 a5.2.2.2.1 a6.2.2.1.1 a6.2.2.1.2,SlRes 191 a5.2.2.2.2.1 a6.2.2.2.1.1 a6.2.2.2.1.2,SlRes 195 a5.2.2.2.2.2.1 a6.2.2.2.2.1.1 a6.2.2.2.2.1.2,SlRes 3 a5.2.2.2.2.2.2 a6.2.2.2.2.2.1 a6.2.2.2.2.2.2] ++ (rOffice a7.1 aa ++ [SlRes 188 a4.2.1 a3.1.1 a3.1.2,SlRes 84 a4.2.2.1 a3.2.1.1 a3.2.1.2,SlRes 85 a4.2.2.2.1 a3.2.2.1.1 a3.2.2.1.2,SlRes 191 a4.2.2.2.2.1 a3.2.2.2.1.1 a3.2.2.2.1.2,SlRes 195 a4.2.2.2.2.2.1 a3.2.2.2.2.1.1 a3.2.2.2.2.1.2,SlRes 3 a4.2.2.2.2.2.2 a3.2.2.2.2.2.1 a3.2.2.2.2.2.2]))) (by kernel_rfl) (by kernel_rfl) (by kernel_rfl) (by kernel_rfl) ?_
  refine JC_heldN (ks:=[0,1,2,3,4]) (Rk:=([SlRes 188 a5.2.1 a6.1.1 a6.1.2,SlRes 84 a5.2.2.1 a6.2.1.1 a6.2.1.2,SlRes 85 a5.2.2.2.1 a6.2.2.1.1 a6.2.2.1.2,SlRes 191 a5.2.2.2.2.1 a6.2.2.2.1.1 a6.2.2.2.1.2,SlRes 195 a5.2.2.2.2.2.1 a6.2.2.2.2.1.1 a6.2.2.2.2.1.2,SlRes 3 a5.2.2.2.2.2.2 a6.2.2.2.2.2.1 a6.2.2.2.2.2.2] ++ (rOffice a7.1 aa ++ [SlRes 188 a4.2.1 a3.1.1 a3.1.2,SlRes 84 a4.2.2.1 a3.2.1.1 a3.2.1.2,SlRes 85 a4.2.2.2.1 a3.2.2.1.1 a3.2.2.1.2,SlRes 191 a4.2.2.2.2.1 a3.2.2.2.1.1 a3.2.2.2.1.2,SlRes 195 a4.2.2.2.2.2.1 a3.2.2.2.2.1.1 a3.2.2.2.2.1.2,SlRes 3 a4.2.2.2.2.2.2 a3.2.2.2.2.2.1 a3.2.2.2.2.2.2]))) 11 (by kernel_rfl) (by kernel_rfl) ?_
  refine htq 0 (.v (vOffice x0 b0)) [0,0,0,0,0,0,0,0,0,0,0,0,0,0,0,0,0,0] ?_
  refine hk [80,12,3,6,7,9] ?_
  refine htq 2 (.v (vAct x1)) [0,0,0,0,0,0,0,0,0,0,0,0,0,0,0,0,0,0] ?_
  refine hk [82,80,12,6,7,9] ?_
  refine ha2 1 8 ?_ ?_
  ·refine hi (fun γ0 δ hm=>?_)
   refine g1 (fun w hs=>c_laws_toOffice (b0:=b0) be (hv0_0.k hs) (hv0_1.k hs) (hv0_2.k hs) (hv0_3.k hs) (hv0_4.k hs) (hv0_5.k hs)) (fun ai=>?_)
   refine gn hm [81,82,12,6,7,9] [6,6,6,6,6,6,6,6,6,6,6,6,6,6,6,6,6,6] ?_
   refine ha2 3 8 ?_ ?_
   ·refine hi (fun γ0 δ hm=>?_)
    refine g0 (fun w hs=>c_laws_toAct ao) ?_
    refine gn hm [83,81,12,6,7,9] [6,6,6,6,6,6,6,6,6,6,6,6,6,6,6,6,6,6] ?_
    refine ha2 4 8 ?_ ?_
    ·refine hi (fun γ0 δ hm=>?_)
     refine g1 (fun w hs=>c_impl_DoAct (b0:=ai) ak (hs.view 0 rfl) (hs.view 1 rfl) (hs.view 2 rfl) (hs.view 3 rfl) (hs.view 4 rfl) (hs.view 5 rfl)) (fun ae=>?_)
     refine gn hm [84,12,6,7,9] [12,12,12,12,12,12,12,12,12,12,12,12,12,12,12,12,12,12] ?_
     refine htq 5 (.v (.tuple #[vOffice ab.1 ae,.int .i64 ab.2])) [12,12,12,12,12,12,12,12,12,12,12,12,12,12,12,12,12,12] ?_
     refine hk [79,12,6,7,9] ?_
     refine htq 6 (.v (vOffice ab.1 ae)) [12,12,12,12,12,12,12,12,12,12,12,12,12,12,12,12,12,12] ?_
     refine htq 7 (vi ab.2) [12,12,12,12,12,12,12,12,12,12,12,12,12,12,12,12,12,12] ?_
     refine hk [86,85,12,6,7,9] ?_
     refine ha1 8 ?_
     refine hi (fun γ0 δ hm=>?_)
     refine gs [(14,.p 5 0),(86,vi ab.2),(85,.v (vOffice ab.1 ae)),(12,vi a5.1),(6,.p 2 0),(7,vi a7.2),(9,.p 4 0)] [(73,(eOffice x0 b0)),(79,(eAct x1)),(57,(eOffice a7.1 aa)),(57,(eOffice (Office.mk (Case.mk (Book.mk a4.2.1) (Store.mk a4.2.2.1) (Series.mk a4.2.2.2.1) (Member.mk a9.Case.Member.Birth a9.Case.Member.Joined a4.2.2.2.2.1 a4.2.2.2.2.2.1)) a9.Start a4.2.2.2.2.2.2) a3)),(57,(eOffice (Office.mk (Case.mk (Book.mk a5.2.1) (Store.mk a5.2.2.1) (Series.mk a5.2.2.2.1) (Member.mk a8.1.Case.Member.Birth a8.1.Case.Member.Joined a5.2.2.2.2.1 a5.2.2.2.2.2.1)) a8.1.Start a5.2.2.2.2.2.2) a6)),(57,[.slice none 0 0,.slice none 0 0,.slice none 0 0,.int .i64 0,.int .i64 0,.slice none 0 0,.slice none 0 0,.int .i64 0,.slice none 0 0])] (fun δ2=>?_)
     refine gd hm [14,86,85,12,6,7,9] [12,12,12,12,12,12,12,12,12,12,12,12,12,12,12,12,12,12] ?_
     refine ha1 9 ?_
     refine hi (fun γ0 δ hm=>?_)
     refine gs [(14,.p 5 0),(86,vi ab.2),(85,.v (vOffice ab.1 ae)),(12,vi a5.1),(6,.p 2 0),(7,vi a7.2),(9,.p 4 0)] [(73,(eOffice x0 b0)),(79,(eAct x1)),(57,(eOffice a7.1 aa)),(57,(eOffice (Office.mk (Case.mk (Book.mk a4.2.1) (Store.mk a4.2.2.1) (Series.mk a4.2.2.2.1) (Member.mk a9.Case.Member.Birth a9.Case.Member.Joined a4.2.2.2.2.1 a4.2.2.2.2.2.1)) a9.Start a4.2.2.2.2.2.2) a3)),(57,(eOffice (Office.mk (Case.mk (Book.mk a5.2.1) (Store.mk a5.2.2.1) (Series.mk a5.2.2.2.1) (Member.mk a8.1.Case.Member.Birth a8.1.Case.Member.Joined a5.2.2.2.2.1 a5.2.2.2.2.2.1)) a8.1.Start a5.2.2.2.2.2.2) a6)),(57,(eOffice ab.1 ae))] (fun δ2=>?_)
     refine gd hm [14,86,12,6,7,9] [12,12,12,12,12,12,12,12,12,12,12,12,12,12,12,12,12,12] ?_
     refine htq 10 (vi ab.2) [12,12,12,12,12,12,12,12,12,12,12,12,12,12,12,12,12,12] ?_
     refine hk [15,14,12,6,7,9] ?_
     exact hd ae [15,14,12,6,7,9] [0,0,0,0,0,0,6,6,6,6,6,6,6,6,6,6,6,6,6,6,6,6,6,6] 6
    ·refine hi (fun γ0 δ hm=>?_)
     refine gs [(14,.p 5 0),(83,.v (vAct dw)),(81,.v (vOffice bd ai)),(12,vi a5.1),(6,.p 2 0),(7,vi a7.2),(9,.p 4 0)] [(73,(eOffice x0 b0)),(79,(eAct x1)),(57,(eOffice a7.1 aa)),(57,(eOffice (Office.mk (Case.mk (Book.mk a4.2.1) (Store.mk a4.2.2.1) (Series.mk a4.2.2.2.1) (Member.mk a9.Case.Member.Birth a9.Case.Member.Joined a4.2.2.2.2.1 a4.2.2.2.2.2.1)) a9.Start a4.2.2.2.2.2.2) a3)),(57,(eOffice (Office.mk (Case.mk (Book.mk a5.2.1) (Store.mk a5.2.2.1) (Series.mk a5.2.2.2.1) (Member.mk a8.1.Case.Member.Birth a8.1.Case.Member.Joined a5.2.2.2.2.1 a5.2.2.2.2.2.1)) a8.1.Start a5.2.2.2.2.2.2) a6)),(57,[.slice none 0 0,.slice none 0 0,.slice none 0 0,.int .i64 0,.int .i64 0,.slice none 0 0,.slice none 0 0,.int .i64 0,.slice none 0 0])] (fun δ2=>?_)
     refine gd hm [14,83,81,12,6,7,9] [6,6,6,6,6,6,6,6,6,6,6,6,6,6,6,6,6,6] ?_
     refine ha1 4 ?_
     refine hi (fun γ0 δ hm=>?_)
     refine g1 (fun w hs=>c_impl_DoAct (b0:=ai) ak (hs.view 0 rfl) (hs.view 1 rfl) (hs.view 2 rfl) (hs.view 3 rfl) (hs.view 4 rfl) (hs.view 5 rfl)) (fun ae=>?_)
     refine gn hm [84,14,12,6,7,9] [12,12,12,12,12,12,12,12,12,12,12,12,12,12,12,12,12,12] ?_
     refine htq 5 (.v (.tuple #[vOffice ab.1 ae,.int .i64 ab.2])) [12,12,12,12,12,12,12,12,12,12,12,12,12,12,12,12,12,12] ?_
     refine hk [79,14,12,6,7,9] ?_
     refine htq 6 (.v (vOffice ab.1 ae)) [12,12,12,12,12,12,12,12,12,12,12,12,12,12,12,12,12,12] ?_
     refine htq 7 (vi ab.2) [12,12,12,12,12,12,12,12,12,12,12,12,12,12,12,12,12,12] ?_
     refine hk [86,85,14,12,6,7,9] ?_
     refine ha1 9 ?_
     refine hi (fun γ0 δ hm=>?_)
     refine gs [(86,vi ab.2),(85,.v (vOffice ab.1 ae)),(14,.p 5 0),(12,vi a5.1),(6,.p 2 0),(7,vi a7.2),(9,.p 4 0)] [(73,(eOffice x0 b0)),(79,(eAct x1)),(57,(eOffice a7.1 aa)),(57,(eOffice (Office.mk (Case.mk (Book.mk a4.2.1) (Store.mk a4.2.2.1) (Series.mk a4.2.2.2.1) (Member.mk a9.Case.Member.Birth a9.Case.Member.Joined a4.2.2.2.2.1 a4.2.2.2.2.2.1)) a9.Start a4.2.2.2.2.2.2) a3)),(57,(eOffice (Office.mk (Case.mk (Book.mk a5.2.1) (Store.mk a5.2.2.1) (Series.mk a5.2.2.2.1) (Member.mk a8.1.Case.Member.Birth a8.1.Case.Member.Joined a5.2.2.2.2.1 a5.2.2.2.2.2.1)) a8.1.Start a5.2.2.2.2.2.2) a6)),(57,(eOffice ab.1 ae))] (fun δ2=>?_)
     refine gd hm [86,14,12,6,7,9] [12,12,12,12,12,12,12,12,12,12,12,12,12,12,12,12,12,12] ?_
     refine htq 10 (vi ab.2) [12,12,12,12,12,12,12,12,12,12,12,12,12,12,12,12,12,12] ?_
     refine hk [15,14,12,6,7,9] ?_
     exact hd ae [15,14,12,6,7,9] [0,0,0,0,0,0,6,6,6,6,6,6,6,6,6,6,6,6,6,6,6,6,6,6] 6
   ·refine hi (fun γ0 δ hm=>?_)
    refine gs [(14,.p 5 0),(81,.v (vOffice bd ai)),(82,.v (vAct x1)),(12,vi a5.1),(6,.p 2 0),(7,vi a7.2),(9,.p 4 0)] [(73,(eOffice x0 b0)),(79,(eAct x1)),(57,(eOffice a7.1 aa)),(57,(eOffice (Office.mk (Case.mk (Book.mk a4.2.1) (Store.mk a4.2.2.1) (Series.mk a4.2.2.2.1) (Member.mk a9.Case.Member.Birth a9.Case.Member.Joined a4.2.2.2.2.1 a4.2.2.2.2.2.1)) a9.Start a4.2.2.2.2.2.2) a3)),(57,(eOffice (Office.mk (Case.mk (Book.mk a5.2.1) (Store.mk a5.2.2.1) (Series.mk a5.2.2.2.1) (Member.mk a8.1.Case.Member.Birth a8.1.Case.Member.Joined a5.2.2.2.2.1 a5.2.2.2.2.2.1)) a8.1.Start a5.2.2.2.2.2.2) a6)),(57,[.slice none 0 0,.slice none 0 0,.slice none 0 0,.int .i64 0,.int .i64 0,.slice none 0 0,.slice none 0 0,.int .i64 0,.slice none 0 0])] (fun δ2=>?_)
    refine gd hm [14,81,82,12,6,7,9] [6,6,6,6,6,6,6,6,6,6,6,6,6,6,6,6,6,6] ?_
    refine ha1 3 ?_
    refine hi (fun γ0 δ hm=>?_)
    refine g0 (fun w hs=>c_laws_toAct ao) ?_
    refine gn hm [83,14,81,12,6,7,9] [6,6,6,6,6,6,6,6,6,6,6,6,6,6,6,6,6,6] ?_
    refine ha1 4 ?_
    refine hi (fun γ0 δ hm=>?_)
    refine g1 (fun w hs=>c_impl_DoAct (b0:=ai) ak (hs.view 0 rfl) (hs.view 1 rfl) (hs.view 2 rfl) (hs.view 3 rfl) (hs.view 4 rfl) (hs.view 5 rfl)) (fun ae=>?_)
    refine gn hm [84,14,12,6,7,9] [12,12,12,12,12,12,12,12,12,12,12,12,12,12,12,12,12,12] ?_
    refine htq 5 (.v (.tuple #[vOffice ab.1 ae,.int .i64 ab.2])) [12,12,12,12,12,12,12,12,12,12,12,12,12,12,12,12,12,12] ?_
    refine hk [79,14,12,6,7,9] ?_
    refine htq 6 (.v (vOffice ab.1 ae)) [12,12,12,12,12,12,12,12,12,12,12,12,12,12,12,12,12,12] ?_
    refine htq 7 (vi ab.2) [12,12,12,12,12,12,12,12,12,12,12,12,12,12,12,12,12,12] ?_
    refine hk [86,85,14,12,6,7,9] ?_
    refine ha1 9 ?_
    refine hi (fun γ0 δ hm=>?_)
    refine gs [(86,vi ab.2),(85,.v (vOffice ab.1 ae)),(14,.p 5 0),(12,vi a5.1),(6,.p 2 0),(7,vi a7.2),(9,.p 4 0)] [(73,(eOffice x0 b0)),(79,(eAct x1)),(57,(eOffice a7.1 aa)),(57,(eOffice (Office.mk (Case.mk (Book.mk a4.2.1) (Store.mk a4.2.2.1) (Series.mk a4.2.2.2.1) (Member.mk a9.Case.Member.Birth a9.Case.Member.Joined a4.2.2.2.2.1 a4.2.2.2.2.2.1)) a9.Start a4.2.2.2.2.2.2) a3)),(57,(eOffice (Office.mk (Case.mk (Book.mk a5.2.1) (Store.mk a5.2.2.1) (Series.mk a5.2.2.2.1) (Member.mk a8.1.Case.Member.Birth a8.1.Case.Member.Joined a5.2.2.2.2.1 a5.2.2.2.2.2.1)) a8.1.Start a5.2.2.2.2.2.2) a6)),(57,(eOffice ab.1 ae))] (fun δ2=>?_)
    refine gd hm [86,14,12,6,7,9] [12,12,12,12,12,12,12,12,12,12,12,12,12,12,12,12,12,12] ?_
    refine htq 10 (vi ab.2) [12,12,12,12,12,12,12,12,12,12,12,12,12,12,12,12,12,12] ?_
    refine hk [15,14,12,6,7,9] ?_
    exact hd ae [15,14,12,6,7,9] [0,0,0,0,0,0,6,6,6,6,6,6,6,6,6,6,6,6,6,6,6,6,6,6] 6
  ·refine hi (fun γ0 δ hm=>?_)
   refine gs [(14,.p 5 0),(82,.v (vAct x1)),(80,.v (vOffice x0 b0)),(12,vi a5.1),(6,.p 2 0),(7,vi a7.2),(9,.p 4 0)] [(73,(eOffice x0 b0)),(79,(eAct x1)),(57,(eOffice a7.1 aa)),(57,(eOffice (Office.mk (Case.mk (Book.mk a4.2.1) (Store.mk a4.2.2.1) (Series.mk a4.2.2.2.1) (Member.mk a9.Case.Member.Birth a9.Case.Member.Joined a4.2.2.2.2.1 a4.2.2.2.2.2.1)) a9.Start a4.2.2.2.2.2.2) a3)),(57,(eOffice (Office.mk (Case.mk (Book.mk a5.2.1) (Store.mk a5.2.2.1) (Series.mk a5.2.2.2.1) (Member.mk a8.1.Case.Member.Birth a8.1.Case.Member.Joined a5.2.2.2.2.1 a5.2.2.2.2.2.1)) a8.1.Start a5.2.2.2.2.2.2) a6)),(57,[.slice none 0 0,.slice none 0 0,.slice none 0 0,.int .i64 0,.int .i64 0,.slice none 0 0,.slice none 0 0,.int .i64 0,.slice none 0 0])] (fun δ2=>?_)
   refine gd hm [14,82,80,12,6,7,9] [0,0,0,0,0,0,0,0,0,0,0,0,0,0,0,0,0,0] ?_
   refine ha1 1 ?_
   refine hi (fun γ0 δ hm=>?_)
   refine g1 (fun w hs=>c_laws_toOffice (b0:=b0) be (hv0_0.k hs) (hv0_1.k hs) (hv0_2.k hs) (hv0_3.k hs) (hv0_4.k hs) (hv0_5.k hs)) (fun ai=>?_)
   refine gn hm [81,14,82,12,6,7,9] [6,6,6,6,6,6,6,6,6,6,6,6,6,6,6,6,6,6] ?_
   refine ha1 3 ?_
   refine hi (fun γ0 δ hm=>?_)
   refine g0 (fun w hs=>c_laws_toAct ao) ?_
   refine gn hm [83,81,14,12,6,7,9] [6,6,6,6,6,6,6,6,6,6,6,6,6,6,6,6,6,6] ?_
   refine ha1 4 ?_
   refine hi (fun γ0 δ hm=>?_)
   refine g1 (fun w hs=>c_impl_DoAct (b0:=ai) ak (hs.view 0 rfl) (hs.view 1 rfl) (hs.view 2 rfl) (hs.view 3 rfl) (hs.view 4 rfl) (hs.view 5 rfl)) (fun ae=>?_)
   refine gn hm [84,14,12,6,7,9] [12,12,12,12,12,12,12,12,12,12,12,12,12,12,12,12,12,12] ?_
   refine htq 5 (.v (.tuple #[vOffice ab.1 ae,.int .i64 ab.2])) [12,12,12,12,12,12,12,12,12,12,12,12,12,12,12,12,12,12] ?_
   refine hk [79,14,12,6,7,9] ?_
   refine htq 6 (.v (vOffice ab.1 ae)) [12,12,12,12,12,12,12,12,12,12,12,12,12,12,12,12,12,12] ?_
   refine htq 7 (vi ab.2) [12,12,12,12,12,12,12,12,12,12,12,12,12,12,12,12,12,12] ?_
   refine hk [86,85,14,12,6,7,9] ?_
   refine ha1 9 ?_
   refine hi (fun γ0 δ hm=>?_)
   refine gs [(86,vi ab.2),(85,.v (vOffice ab.1 ae)),(14,.p 5 0),(12,vi a5.1),(6,.p 2 0),(7,vi a7.2),(9,.p 4 0)] [(73,(eOffice x0 b0)),(79,(eAct x1)),(57,(eOffice a7.1 aa)),(57,(eOffice (Office.mk (Case.mk (Book.mk a4.2.1) (Store.mk a4.2.2.1) (Series.mk a4.2.2.2.1) (Member.mk a9.Case.Member.Birth a9.Case.Member.Joined a4.2.2.2.2.1 a4.2.2.2.2.2.1)) a9.Start a4.2.2.2.2.2.2) a3)),(57,(eOffice (Office.mk (Case.mk (Book.mk a5.2.1) (Store.mk a5.2.2.1) (Series.mk a5.2.2.2.1) (Member.mk a8.1.Case.Member.Birth a8.1.Case.Member.Joined a5.2.2.2.2.1 a5.2.2.2.2.2.1)) a8.1.Start a5.2.2.2.2.2.2) a6)),(57,(eOffice ab.1 ae))] (fun δ2=>?_)
   refine gd hm [86,14,12,6,7,9] [12,12,12,12,12,12,12,12,12,12,12,12,12,12,12,12,12,12] ?_
   refine htq 10 (vi ab.2) [12,12,12,12,12,12,12,12,12,12,12,12,12,12,12,12,12,12] ?_
   refine hk [15,14,12,6,7,9] ?_
   exact hd ae [15,14,12,6,7,9] [0,0,0,0,0,0,6,6,6,6,6,6,6,6,6,6,6,6,6,6,6,6,6,6] 6
 refine nt (qs (qs ?_))
 obtain ⟨dz,e2,e3⟩:=bS dy
 refine JC_cut (τ:=Unit) (fun _=>[(9,.p 4 0),(12,vi a5.1),(95,vb dz)]) (fun _=>[(73,(eOffice x0 b0)),(79,(eAct x1)),(57,(eOffice a7.1 aa)),(57,(eOffice (Office.mk (Case.mk (Book.mk a4.2.1) (Store.mk a4.2.2.1) (Series.mk a4.2.2.2.1) (Member.mk a9.Case.Member.Birth a9.Case.Member.Joined a4.2.2.2.2.1 a4.2.2.2.2.2.1)) a9.Start a4.2.2.2.2.2.2) a3)),(57,(eOffice (Office.mk (Case.mk (Book.mk a5.2.1) (Store.mk a5.2.2.1) (Series.mk a5.2.2.2.1) (Member.mk a8.1.Case.Member.Birth a8.1.Case.Member.Joined a5.2.2.2.2.1 a5.2.2.2.2.2.1)) a8.1.Start a5.2.2.2.2.2.2) a6)),(57,(eOffice ab.1 ag))]) (fun _=>(rOffice a7.1 aa ++ ([SlRes 188 a4.2.1 a3.1.1 a3.1.2,SlRes 84 a4.2.2.1 a3.2.1.1 a3.2.1.2,SlRes 85 a4.2.2.2.1 a3.2.2.1.1 a3.2.2.1.2,SlRes 191 a4.2.2.2.2.1 a3.2.2.2.1.1 a3.2.2.2.1.2,SlRes 195 a4.2.2.2.2.2.1 a3.2.2.2.2.1.1 a3.2.2.2.2.1.2,SlRes 3 a4.2.2.2.2.2.2 a3.2.2.2.2.2.1 a3.2.2.2.2.2.2,SlRes 188 a5.2.1 a6.1.1 a6.1.2,SlRes 84 a5.2.2.1 a6.2.1.1 a6.2.1.2,SlRes 85 a5.2.2.2.1 a6.2.2.1.1 a6.2.2.1.2,SlRes 191 a5.2.2.2.2.1 a6.2.2.2.1.1 a6.2.2.2.1.2,SlRes 195 a5.2.2.2.2.2.1 a6.2.2.2.2.1.1 a6.2.2.2.2.1.2,SlRes 3 a5.2.2.2.2.2.2 a6.2.2.2.2.2.1 a6.2.2.2.2.2.2] ++ rOffice ab.1 ag))) ?_ (fun _=>?_)
 ·refine qr (oN 2 [(88,.v (vOffice a7.1 aa)),(87,.v (vOffice ab.1 ag))] [15,12,7,9] ?_)
  obtain ⟨e4,e5,e6⟩:=bS e2
  refine k0 (fun γ w hs=>c_laws_eqOffice (b0:=ag) (b1:=aa) e5 (hs.view 0 rfl) (hs.view 1 rfl) (hs.view 2 rfl) (hs.view 3 rfl) (hs.view 4 rfl) (hs.view 5 rfl) (hs.view 12 rfl) (hs.view 13 rfl) (hs.view 14 rfl) (hs.view 15 rfl) (hs.view 16 rfl) (hs.view 17 rfl)) ?_
  refine oN 2 [(91,vb (!e4))] [15,12,7,9] ?_
  refine oS 91 e6 (fun e7=>?_) (fun e8=>?_)
  ·refine oN 4 [(95,vb true)] [12,9] ?_
   refine oe ?_
   obtain rfl:=sI e7
   exact mt () [9,12,95] [12,12,12,12,12,12,12,12,12,12,12,12,6,6,6,6,6,6,0,0,0,0,0,0] 6
  refine oN 4 [(95,vb (ab.2 != a7.2))] [12,9] ?_
  refine oe ?_
  obtain rfl:=sI e8
  exact mt () [9,12,95] [12,12,12,12,12,12,12,12,12,12,12,12,6,6,6,6,6,6,0,0,0,0,0,0] 6
 refine nt (cC e3 (fun e9=>?_) (fun ea=>?_))
 ·refine qs (qr (oN 1 [(4,vb false)] [] ?_))
  refine oe (nt (qe (nr ?_)))
  obtain rfl:=sI e9
  exact re [.bool false]
 refine qk (nt (qs (qr (oN 1 [(13,vi 1)] [9,12] ?_))))
 refine oe (nt (qs (qr (oN 2 [(97,vi 1),(96,.v (vOffice (Office.mk (Case.mk (Book.mk a5.2.1) (Store.mk a5.2.2.1) (Series.mk a5.2.2.2.1) (Member.mk a8.1.Case.Member.Birth a8.1.Case.Member.Joined a5.2.2.2.2.1 a5.2.2.2.2.2.1)) a8.1.Start a5.2.2.2.2.2.2) a6))] [12] ?_))))
 obtain ⟨ap,eb,ec⟩:=bS ea
 refine k0 (fun γ w hs=>c_laws_heldOffice (b0:=a6) eb (hs.view 12 rfl) (hs.view 13 rfl) (hs.view 14 rfl) (hs.view 15 rfl) (hs.view 16 rfl) (hs.view 17 rfl)) ?_
 refine oN 1 [(13,vi ap)] [12] ?_
 refine oe (nt (qs (qs (qr (oN 2 [(100,vb (decide (ap < 0)))] [13,12] ?_)))))
 refine oe (nt (cC ec (fun ed=>?_) (fun ee=>?_)))
 ·refine qs (qr (oN 1 [(4,vb false)] [] ?_))
  refine oe (nt (qe (nr ?_)))
  obtain rfl:=sI ed
  exact re [.bool false]
 refine qk (nt (qs (qs (qr (oN 3 [(103,vb (ap != a5.1))] [] ?_)))))
 refine oe (nt (cC ee (fun ef=>?_) (fun eg=>?_)))
 ·refine qs (qr (oN 1 [(4,vb false)] [] ?_))
  refine oe (nt (qe (nr ?_)))
  obtain rfl:=sI ef
  exact re [.bool false]
 refine qk (nt (qs (qr (oN 1 [(4,vb true)] [] ?_))))
 refine oe (nt (qe ?_))
 obtain rfl:=sI eg
 exact re [.bool true]
end Go.Pen
