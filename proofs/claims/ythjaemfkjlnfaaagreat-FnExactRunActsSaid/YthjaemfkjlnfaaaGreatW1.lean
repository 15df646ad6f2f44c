/-
  Each Go function does what its plain function says: written by a program of ours.
-/
import Derived.Test.YthjaemfkjlnfaaaGreatF
import Derived.Test.YthjaemfkjlnfaaaGreatProg
import Derived.Test.YthjaemfkjlnfaaaGreatPenK
import Derived.Test.YthjaemfkjlnfaaaGreatPenQ
import Derived.Test.YthjaemfkjlnfaaaGreatPenU
namespace Go.Pen
open Go.Proofs Go.RowKit
set_option linter.unusedVariables false
set_option linter.unusedSimpArgs false
set_option maxRecDepth 100000
set_option maxHeartbeats 4000000
@[reducible] def vs {α : Type} (a : Option Addr) (l : List α) (c : Nat) : SV := .v (.slice a l.length c)
@[reducible] def sv {α : Type} (y : AC) (l : List α) : SV := .v (.slice y.1 l.length y.2)
class HK (p : Prop) (W0 w : outParam World) : Prop where
 k : p → Kept (fun _ => False) W0 w
instance {W0 w : World} {γ : List Nat} {bx : List (TypeId × List Value)} {R : List Res} : HK (SAT (fun _ => False) W0 γ bx R w) W0 w := ⟨fun h => h.kept⟩
instance {W0 w : World} {g ks : List Nat} {bx : List (TypeId × List Value)} {R : List Res} : HK (HeldS (fun _ => False) W0 g ks bx R w) W0 w := ⟨fun h => h.1⟩
theorem SlView.k {α : Type} [Rp α] {W0 w : World} {l : List α} {a : Option Addr} {c : Nat} {p : Prop} [HK p W0 w] (h : SlView W0 l a c) (hs : p) : SlView w l a c := h.kept (HK.k hs)
theorem CellsAt.k {W0 w : World} {a : Option Addr} {k : Nat} {cs : List Value} {p : Prop} [HK p W0 w] (h : CellsAt W0 a k cs) (hs : p) : CellsAt w a k cs := h.kept (HK.k hs)
@[reducible] def rCase2 (x : Go.Pen.Case) (y : AC × AC × AC × AC × AC) : List Res := [SlRes 188 x.Book.Rules y.1.1 y.1.2, SlRes 84 x.Store.Facts y.2.1.1 y.2.1.2, SlRes 85 x.Series.Points y.2.2.1.1 y.2.2.1.2, SlRes 191 x.Member.Spells y.2.2.2.1.1 y.2.2.2.1.2, SlRes 195 x.Member.Events y.2.2.2.2.1 y.2.2.2.2.2]
@[reducible] def rMember2 (x : Go.Pen.Member) (y : AC × AC) : List Res := [SlRes 191 x.Spells y.1.1 y.1.2, SlRes 195 x.Events y.2.1 y.2.2]
@[reducible] def rOffice (x : Go.Pen.Office) (y : AC × AC × AC × AC × AC × AC) : List Res := [SlRes 188 x.Case.Book.Rules y.1.1 y.1.2, SlRes 84 x.Case.Store.Facts y.2.1.1 y.2.1.2, SlRes 85 x.Case.Series.Points y.2.2.1.1 y.2.2.1.2, SlRes 191 x.Case.Member.Spells y.2.2.2.1.1 y.2.2.2.1.2, SlRes 195 x.Case.Member.Events y.2.2.2.2.1.1 y.2.2.2.2.1.2, SlRes 3 x.Paid y.2.2.2.2.2.1 y.2.2.2.2.2.2]
theorem c_laws_szNodeS {W : World} {x0 : List Node} {a0_0 : Option Addr} {c0_0 : Nat} {x1 : Int} {r : Int} (h : laws_szNodeS x0 x1 = some r) (hv0_0 : SlView W x0 a0_0 c0_0) :
  Gives0 Tryz.prog 204 #[.slice a0_0 x0.length c0_0,.int .i64 x1] W (.int .i64 r):=by
 unfold laws_szNodeS at h
 refine en Tryz.func204 Tryz.ntmps204 ?_
 refine qs (qr (oN 1 [] [0,1] ?_))
 refine oe (nt (qs (qr (oN 5 [(1,vi (w64 (x1 - (x0.length : Int))))] [] ?_))))
 refine oe (nt (qs (qs (qr (oN 2 [(10,vb (decide ((w64 (x1 - (x0.length : Int))) < 0)))] [1] ?_)))))
 refine oe (nt (cC h (fun a3=>?_) (fun a4=>?_)))
 ·refine qs (qr (oN 1 [(4,vi (-1))] [] ?_))
  refine oe (nt (qe (nr ?_)))
  obtain rfl:=sI a3
  exact re [.int .i64 (-1)]
 refine qk (nt (qs (qr (oN 2 [(4,vi (w64 (x1 - (x0.length : Int))))] [] ?_))))
 refine oe (nt (qe ?_))
 obtain rfl:=sI a4
 exact re [.int .i64 (w64 (x1 - (x0.length : Int)))]
theorem c_laws_szRule {W : World} {x0 : Rule} {a0_0 : Option Addr} {c0_0 : Nat} {x1 : Int} {r : Int} (h : laws_szRule x0 x1 = some r) (hv0_0 : SlView W x0.Nodes a0_0 c0_0) :
  Gives0 Tryz.prog 151 #[vRule x0 (a0_0,c0_0),.int .i64 x1] W (.int .i64 r):=by
 unfold laws_szRule at h
 refine en Tryz.func151 Tryz.ntmps151 ?_
 refine qs (qr (oB 2 [(2,.p 0 0)] [1] [(185,(eRule x0 (a0_0,c0_0)))] ?_))
 refine oe (nt (qs (qr (oN 3 [(7,vi x1),(6,vs a0_0 x0.Nodes c0_0)] [] ?_))))
 obtain ⟨a3,a4,a5⟩:=bS h
 refine k0 (fun _ w hs=>c_laws_szNodeS a4 (hv0_0.k hs)) ?_
 refine oN 1 [(1,vi a3)] [] ?_
 refine oe (nt (qs (qs (qr (oN 2 [(10,vb (decide (a3 < 0)))] [1] ?_)))))
 refine oe (nt (cC a5 (fun a6=>?_) (fun a7=>?_)))
 ·refine qs (qr (oN 1 [(4,vi (-1))] [] ?_))
  refine oe (nt (qe (nr ?_)))
  obtain rfl:=sI a6
  exact re [.int .i64 (-1)]
 refine qk (nt (qs (qr (oN 2 [(4,vi a3)] [] ?_))))
 refine oe (nt (qe ?_))
 obtain rfl:=sI a7
 exact re [.int .i64 a3]
theorem c_laws_szRuleS {W : World} {x0 : List Rule} {a0_0 : Option Addr} {c0_0 : Nat} {x1 : Int} {r : Int} (h : laws_szRuleS x0 x1 = some r) (hv0_0 : SlView W x0 a0_0 c0_0) :
  Gives0 Tryz.prog 97 #[.slice a0_0 x0.length c0_0,.int .i64 x1] W (.int .i64 r):=by
 unfold laws_szRuleS at h
 refine en Tryz.func97 Tryz.ntmps97 ?_
 refine qs (qr (oN 1 [] [0,1] ?_))
 refine oe (nt (qs (qr (oN 5 [(1,vi (w64 (x1 - (x0.length : Int))))] [0] ?_))))
 refine oe (nt (qs (qs (qr (oN 2 [(11,vb (decide ((w64 (x1 - (x0.length : Int))) < 0)))] [1,0] ?_)))))
 refine oe (nt (cC h (fun aa=>?_) (fun ab=>?_)))
 ·refine qs (qr (oN 1 [(4,vi (-1))] [] ?_))
  refine oe (nt (qe (nr ?_)))
  obtain rfl:=sI aa
  exact re [.int .i64 (-1)]
 refine qk (nt (qs (qs (qr (oN 1 [(5,vi 0)] [1,0] ?_)))))
 refine oe (nt ?_)
 obtain ⟨az,ac,a5⟩:=bS ab
 obtain ⟨ae,af,a5⟩:=brkS a5
 refine JC_cutP (τ:=(Int) × (Unit)) (fun y=>ae y.1 = some r) (fun a4=>[(1,vi a4.1)]) (fun a4=>[]) (fun a4=>[]) ?_ (fun a4 ag=>?_)
 ·refine qb (lp Unit ac (fun a3 a6=>[(5,vi a3.1),(1,vi a3.2),(0,vs a0_0 x0 c0_0)]) (fun a3 a6=>[]) (fun a3 a6=>[]) () [5,1,0] [] 0 (fun a3 a6 b4 ah a8=>?_))
  refine qs (qs (qr (oN 4 [(15,vb (decide (a3.1 < (x0.length : Int))))] [5,1,0] ?_)))
  refine oe (nt (cC ah (fun ai=>?_) (fun aj=>?_)))
  ·refine qk (nt (qs (qb (qs (qr (oN 2 [(19,vi a3.1),(18,vs a0_0 x0 c0_0)] [5,1,0] ?_))))))
   obtain ⟨ak,a7,al⟩:=bS ai
   refine oi 7 (fun _ w hs=>(hv0_0.k hs)) a7 ?_
   obtain ⟨_,⟨am,an,rfl,ao⟩,ap⟩:=SlView.at hv0_0 (idx_some a7).2.2
   refine ol 185 0 (vRule ak (am,an)) (fun _ w hs=>⟨(hv0_0.k hs).ne (idx_some a7).2.2,ap.kept hs.kept⟩) ?_
   refine oN 1 [(22,vi a3.2)] [21,5,0] ?_
   obtain ⟨a9,aq,ar⟩:=bS al
   refine k0 (fun _ w hs=>c_laws_szRule aq (ao.k hs)) ?_
   refine oN 1 [(1,vi a9)] [5,0] ?_
   refine oe (nt (qs (qr (oN 2 [(25,vb (decide (a9 < 0)))] [1,5,0] ?_))))
   refine oe (nt (cC ar (fun au=>?_) (fun av=>?_)))
   ·refine qs (qr (oN 1 [(4,vi (-1))] [] ?_))
    refine oe (nt (qe (br (nr (nr ?_)))))
    have aw:=leafR a8 au a5
    refine br (nr (nr ?_))
    obtain rfl:=sI aw
    exact re [.int .i64 (-1)]
   refine qk (bn (nt (qr (oN 3 [(5,vi (w64 (a3.1 + 1)))] [1,0] ?_))))
   exact oe (ct av () [5,1,0] [] 0)
  refine qx (nx (nx (bh ?_)))
  have ax:=leafB a8 aj a5
  exact mp (a3.2,()) ax [1] [] 0
 have ay:=(congrFun af _).symm.trans ag
 refine nt (qs (qr (oN 2 [(4,vi a4.1)] [] ?_)))
 refine oe (nt (qe ?_))
 obtain rfl:=sI ay
 exact re [.int .i64 a4.1]
theorem c_laws_szBook {W : World} {x0 : Book} {a0_0 : Option Addr} {c0_0 : Nat} {x1 : Int} {r : Int} (h : laws_szBook x0 x1 = some r) (hv0_0 : SlView W x0.Rules a0_0 c0_0) :
  Gives0 Tryz.prog 55 #[vBook x0 (a0_0,c0_0),.int .i64 x1] W (.int .i64 r):=by
 unfold laws_szBook at h
 refine en Tryz.func55 Tryz.ntmps55 ?_
 refine qs (qr (oB 2 [(2,.p 0 0)] [1] [(24,(eBook x0 (a0_0,c0_0)))] ?_))
 refine oe (nt (qs (qr (oN 3 [(7,vi x1),(6,vs a0_0 x0.Rules c0_0)] [] ?_))))
 obtain ⟨a3,a4,a5⟩:=bS h
 refine k0 (fun _ w hs=>c_laws_szRuleS a4 (hv0_0.k hs)) ?_
 refine oN 1 [(1,vi a3)] [] ?_
 refine oe (nt (qs (qs (qr (oN 2 [(10,vb (decide (a3 < 0)))] [1] ?_)))))
 refine oe (nt (cC a5 (fun a6=>?_) (fun a7=>?_)))
 ·refine qs (qr (oN 1 [(4,vi (-1))] [] ?_))
  refine oe (nt (qe (nr ?_)))
  obtain rfl:=sI a6
  exact re [.int .i64 (-1)]
 refine qk (nt (qs (qr (oN 2 [(4,vi a3)] [] ?_))))
 refine oe (nt (qe ?_))
 obtain rfl:=sI a7
 exact re [.int .i64 a3]
theorem c_laws_szFactS {W : World} {x0 : List Fact} {a0_0 : Option Addr} {c0_0 : Nat} {x1 : Int} {r : Int} (h : laws_szFactS x0 x1 = some r) (hv0_0 : SlView W x0 a0_0 c0_0) :
  Gives0 Tryz.prog 98 #[.slice a0_0 x0.length c0_0,.int .i64 x1] W (.int .i64 r):=by
 unfold laws_szFactS at h
 refine en Tryz.func98 Tryz.ntmps98 ?_
 refine qs (qr (oN 1 [] [0,1] ?_))
 refine oe (nt (qs (qr (oN 5 [(1,vi (w64 (x1 - (x0.length : Int))))] [] ?_))))
 refine oe (nt (qs (qs (qr (oN 2 [(10,vb (decide ((w64 (x1 - (x0.length : Int))) < 0)))] [1] ?_)))))
 refine oe (nt (cC h (fun a3=>?_) (fun a4=>?_)))
 ·refine qs (qr (oN 1 [(4,vi (-1))] [] ?_))
  refine oe (nt (qe (nr ?_)))
  obtain rfl:=sI a3
  exact re [.int .i64 (-1)]
 refine qk (nt (qs (qr (oN 2 [(4,vi (w64 (x1 - (x0.length : Int))))] [] ?_))))
 refine oe (nt (qe ?_))
 obtain rfl:=sI a4
 exact re [.int .i64 (w64 (x1 - (x0.length : Int)))]
theorem c_laws_szStore {W : World} {x0 : Store} {a0_0 : Option Addr} {c0_0 : Nat} {x1 : Int} {r : Int} (h : laws_szStore x0 x1 = some r) (hv0_0 : SlView W x0.Facts a0_0 c0_0) :
  Gives0 Tryz.prog 56 #[vStore x0 (a0_0,c0_0),.int .i64 x1] W (.int .i64 r):=by
 unfold laws_szStore at h
 refine en Tryz.func56 Tryz.ntmps56 ?_
 refine qs (qr (oB 2 [(2,.p 0 0)] [1] [(27,(eStore x0 (a0_0,c0_0)))] ?_))
 refine oe (nt (qs (qr (oN 3 [(7,vi x1),(6,vs a0_0 x0.Facts c0_0)] [] ?_))))
 obtain ⟨a3,a4,a5⟩:=bS h
 refine k0 (fun _ w hs=>c_laws_szFactS a4 (hv0_0.k hs)) ?_
 refine oN 1 [(1,vi a3)] [] ?_
 refine oe (nt (qs (qs (qr (oN 2 [(10,vb (decide (a3 < 0)))] [1] ?_)))))
 refine oe (nt (cC a5 (fun a6=>?_) (fun a7=>?_)))
 ·refine qs (qr (oN 1 [(4,vi (-1))] [] ?_))
  refine oe (nt (qe (nr ?_)))
  obtain rfl:=sI a6
  exact re [.int .i64 (-1)]
 refine qk (nt (qs (qr (oN 2 [(4,vi a3)] [] ?_))))
 refine oe (nt (qe ?_))
 obtain rfl:=sI a7
 exact re [.int .i64 a3]
theorem c_laws_szPointS {W : World} {x0 : List Point} {a0_0 : Option Addr} {c0_0 : Nat} {x1 : Int} {r : Int} (h : laws_szPointS x0 x1 = some r) (hv0_0 : SlView W x0 a0_0 c0_0) :
  Gives0 Tryz.prog 99 #[.slice a0_0 x0.length c0_0,.int .i64 x1] W (.int .i64 r):=by
 unfold laws_szPointS at h
 refine en Tryz.func99 Tryz.ntmps99 ?_
 refine qs (qr (oN 1 [] [0,1] ?_))
 refine oe (nt (qs (qr (oN 5 [(1,vi (w64 (x1 - (x0.length : Int))))] [] ?_))))
 refine oe (nt (qs (qs (qr (oN 2 [(10,vb (decide ((w64 (x1 - (x0.length : Int))) < 0)))] [1] ?_)))))
 refine oe (nt (cC h (fun a3=>?_) (fun a4=>?_)))
 ·refine qs (qr (oN 1 [(4,vi (-1))] [] ?_))
  refine oe (nt (qe (nr ?_)))
  obtain rfl:=sI a3
  exact re [.int .i64 (-1)]
 refine qk (nt (qs (qr (oN 2 [(4,vi (w64 (x1 - (x0.length : Int))))] [] ?_))))
 refine oe (nt (qe ?_))
 obtain rfl:=sI a4
 exact re [.int .i64 (w64 (x1 - (x0.length : Int)))]
theorem c_laws_szSeries {W : World} {x0 : Series} {a0_0 : Option Addr} {c0_0 : Nat} {x1 : Int} {r : Int} (h : laws_szSeries x0 x1 = some r) (hv0_0 : SlView W x0.Points a0_0 c0_0) :
  Gives0 Tryz.prog 57 #[vSeries x0 (a0_0,c0_0),.int .i64 x1] W (.int .i64 r):=by
 unfold laws_szSeries at h
 refine en Tryz.func57 Tryz.ntmps57 ?_
 refine qs (qr (oB 2 [(2,.p 0 0)] [1] [(30,(eSeries x0 (a0_0,c0_0)))] ?_))
 refine oe (nt (qs (qr (oN 3 [(7,vi x1),(6,vs a0_0 x0.Points c0_0)] [] ?_))))
 obtain ⟨a3,a4,a5⟩:=bS h
 refine k0 (fun _ w hs=>c_laws_szPointS a4 (hv0_0.k hs)) ?_
 refine oN 1 [(1,vi a3)] [] ?_
 refine oe (nt (qs (qs (qr (oN 2 [(10,vb (decide (a3 < 0)))] [1] ?_)))))
 refine oe (nt (cC a5 (fun a6=>?_) (fun a7=>?_)))
 ·refine qs (qr (oN 1 [(4,vi (-1))] [] ?_))
  refine oe (nt (qe (nr ?_)))
  obtain rfl:=sI a6
  exact re [.int .i64 (-1)]
 refine qk (nt (qs (qr (oN 2 [(4,vi a3)] [] ?_))))
 refine oe (nt (qe ?_))
 obtain rfl:=sI a7
 exact re [.int .i64 a3]
theorem c_laws_szSpellS {W : World} {x0 : List Spell} {a0_0 : Option Addr} {c0_0 : Nat} {x1 : Int} {r : Int} (h : laws_szSpellS x0 x1 = some r) (hv0_0 : SlView W x0 a0_0 c0_0) :
  Gives0 Tryz.prog 100 #[.slice a0_0 x0.length c0_0,.int .i64 x1] W (.int .i64 r):=by
 unfold laws_szSpellS at h
 refine en Tryz.func100 Tryz.ntmps100 ?_
 refine qs (qr (oN 1 [] [0,1] ?_))
 refine oe (nt (qs (qr (oN 5 [(1,vi (w64 (x1 - (x0.length : Int))))] [] ?_))))
 refine oe (nt (qs (qs (qr (oN 2 [(10,vb (decide ((w64 (x1 - (x0.length : Int))) < 0)))] [1] ?_)))))
 refine oe (nt (cC h (fun a3=>?_) (fun a4=>?_)))
 ·refine qs (qr (oN 1 [(4,vi (-1))] [] ?_))
  refine oe (nt (qe (nr ?_)))
  obtain rfl:=sI a3
  exact re [.int .i64 (-1)]
 refine qk (nt (qs (qr (oN 2 [(4,vi (w64 (x1 - (x0.length : Int))))] [] ?_))))
 refine oe (nt (qe ?_))
 obtain rfl:=sI a4
 exact re [.int .i64 (w64 (x1 - (x0.length : Int)))]
theorem c_laws_szEventS {W : World} {x0 : List Event} {a0_0 : Option Addr} {c0_0 : Nat} {x1 : Int} {r : Int} (h : laws_szEventS x0 x1 = some r) (hv0_0 : SlView W x0 a0_0 c0_0) :
  Gives0 Tryz.prog 101 #[.slice a0_0 x0.length c0_0,.int .i64 x1] W (.int .i64 r):=by
 unfold laws_szEventS at h
 refine en Tryz.func101 Tryz.ntmps101 ?_
 refine qs (qr (oN 1 [] [0,1] ?_))
 refine oe (nt (qs (qr (oN 5 [(1,vi (w64 (x1 - (x0.length : Int))))] [] ?_))))
 refine oe (nt (qs (qs (qr (oN 2 [(10,vb (decide ((w64 (x1 - (x0.length : Int))) < 0)))] [1] ?_)))))
 refine oe (nt (cC h (fun a3=>?_) (fun a4=>?_)))
 ·refine qs (qr (oN 1 [(4,vi (-1))] [] ?_))
  refine oe (nt (qe (nr ?_)))
  obtain rfl:=sI a3
  exact re [.int .i64 (-1)]
 refine qk (nt (qs (qr (oN 2 [(4,vi (w64 (x1 - (x0.length : Int))))] [] ?_))))
 refine oe (nt (qe ?_))
 obtain rfl:=sI a4
 exact re [.int .i64 (w64 (x1 - (x0.length : Int)))]
theorem c_laws_szMember {W : World} {x0 : Member} {b0 : AC × AC} {x1 : Int} {r : Int} (h : laws_szMember x0 x1 = some r) (hv0_0 : SlView W x0.Spells b0.1.1 b0.1.2) (hv0_1 : SlView W x0.Events b0.2.1 b0.2.2) :
  Gives0 Tryz.prog 58 #[vMember x0 b0,.int .i64 x1] W (.int .i64 r):=by
 unfold laws_szMember at h
 refine en Tryz.func58 Tryz.ntmps58 ?_
 refine qs (qr (oB 2 [(2,.p 0 0)] [1] [(34,(eMember x0 b0))] ?_))
 refine oe (nt (qs (qr (oN 3 [(7,vi x1),(6,sv b0.1 x0.Spells)] [2] ?_))))
 obtain ⟨a4,a5,a6⟩:=bS h
 refine k0 (fun _ w hs=>c_laws_szSpellS a5 (hv0_0.k hs)) ?_
 refine oN 1 [(1,vi a4)] [2] ?_
 refine oe (nt (qs (qs (qr (oN 2 [(10,vb (decide (a4 < 0)))] [1,2] ?_)))))
 refine oe (nt (cC a6 (fun a7=>?_) (fun a8=>?_)))
 ·refine qs (qr (oN 1 [(4,vi (-1))] [] ?_))
  refine oe (nt (qe (nr ?_)))
  obtain rfl:=sI a7
  exact re [.int .i64 (-1)]
 refine qk (nt (qs (qr (oN 3 [(13,vi a4),(12,sv b0.2 x0.Events)] [] ?_))))
 obtain ⟨a3,a9,aa⟩:=bS a8
 refine k0 (fun _ w hs=>c_laws_szEventS a9 (hv0_1.k hs)) ?_
 refine oN 1 [(1,vi a3)] [] ?_
 refine oe (nt (qs (qs (qr (oN 2 [(16,vb (decide (a3 < 0)))] [1] ?_)))))
 refine oe (nt (cC aa (fun ab=>?_) (fun ac=>?_)))
 ·refine qs (qr (oN 1 [(4,vi (-1))] [] ?_))
  refine oe (nt (qe (nr ?_)))
  obtain rfl:=sI ab
  exact re [.int .i64 (-1)]
 refine qk (nt (qs (qr (oN 2 [(4,vi a3)] [] ?_))))
 refine oe (nt (qe ?_))
 obtain rfl:=sI ac
 exact re [.int .i64 a3]
theorem c_laws_szCase {W : World} {x0 : Case} {b0 : AC × AC × AC × AC × AC} {x1 : Int} {r : Int} (h : laws_szCase x0 x1 = some r) (hv0_0 : SlView W x0.Book.Rules b0.1.1 b0.1.2) (hv0_1 : SlView W x0.Store.Facts b0.2.1.1 b0.2.1.2) (hv0_2 : SlView W x0.Series.Points b0.2.2.1.1 b0.2.2.1.2) (hv0_3 : SlView W x0.Member.Spells b0.2.2.2.1.1 b0.2.2.2.1.2) (hv0_4 : SlView W x0.Member.Events b0.2.2.2.2.1 b0.2.2.2.2.2) :
  Gives0 Tryz.prog 13 #[vCase x0 b0,.int .i64 x1] W (.int .i64 r):=by
 unfold laws_szCase at h
 refine en Tryz.func13 Tryz.ntmps13 ?_
 refine qs (qr (oB 2 [(2,.p 0 0)] [1] [(36,(eCase x0 b0))] ?_))
 refine oe (nt (qs (qr (oN 3 [(7,vi x1),(6,.v (vBook x0.Book b0.1))] [2] ?_))))
 obtain ⟨a4,a7,a8⟩:=bS h
 refine k0 (fun _ w hs=>c_laws_szBook a7 (hv0_0.k hs)) ?_
 refine oN 1 [(1,vi a4)] [2] ?_
 refine oe (nt (qs (qs (qr (oN 2 [(10,vb (decide (a4 < 0)))] [1,2] ?_)))))
 refine oe (nt (cC a8 (fun a9=>?_) (fun aa=>?_)))
 ·refine qs (qr (oN 1 [(4,vi (-1))] [] ?_))
  refine oe (nt (qe (nr ?_)))
  obtain rfl:=sI a9
  exact re [.int .i64 (-1)]
 refine qk (nt (qs (qr (oN 3 [(13,vi a4),(12,.v (vStore x0.Store b0.2.1))] [2] ?_))))
 obtain ⟨a5,ab,ac⟩:=bS aa
 refine k0 (fun _ w hs=>c_laws_szStore ab (hv0_1.k hs)) ?_
 refine oN 1 [(1,vi a5)] [2] ?_
 refine oe (nt (qs (qs (qr (oN 2 [(16,vb (decide (a5 < 0)))] [1,2] ?_)))))
 refine oe (nt (cC ac (fun ae=>?_) (fun af=>?_)))
 ·refine qs (qr (oN 1 [(4,vi (-1))] [] ?_))
  refine oe (nt (qe (nr ?_)))
  obtain rfl:=sI ae
  exact re [.int .i64 (-1)]
 refine qk (nt (qs (qr (oN 3 [(19,vi a5),(18,.v (vSeries x0.Series b0.2.2.1))] [2] ?_))))
 obtain ⟨a6,ag,ah⟩:=bS af
 refine k0 (fun _ w hs=>c_laws_szSeries ag (hv0_2.k hs)) ?_
 refine oN 1 [(1,vi a6)] [2] ?_
 refine oe (nt (qs (qs (qr (oN 2 [(22,vb (decide (a6 < 0)))] [1,2] ?_)))))
 refine oe (nt (cC ah (fun ai=>?_) (fun aj=>?_)))
 ·refine qs (qr (oN 1 [(4,vi (-1))] [] ?_))
  refine oe (nt (qe (nr ?_)))
  obtain rfl:=sI ai
  exact re [.int .i64 (-1)]
 refine qk (nt (qs (qr (oN 3 [(25,vi a6),(24,.v (vMember x0.Member b0.2.2.2))] [] ?_))))
 obtain ⟨a3,ak,al⟩:=bS aj
 refine k0 (fun _ w hs=>c_laws_szMember (b0:=b0.2.2.2) ak (hv0_3.k hs) (hv0_4.k hs)) ?_
 refine oN 1 [(1,vi a3)] [] ?_
 refine oe (nt (qs (qs (qr (oN 2 [(28,vb (decide (a3 < 0)))] [1] ?_)))))
 refine oe (nt (cC al (fun am=>?_) (fun an=>?_)))
 ·refine qs (qr (oN 1 [(4,vi (-1))] [] ?_))
  refine oe (nt (qe (nr ?_)))
  obtain rfl:=sI am
  exact re [.int .i64 (-1)]
 refine qk (nt (qs (qr (oN 2 [(4,vi a3)] [] ?_))))
 refine oe (nt (qe ?_))
 obtain rfl:=sI an
 exact re [.int .i64 a3]
theorem c_laws_szActS {W : World} {x0 : List Act} {a0_0 : Option Addr} {c0_0 : Nat} {x1 : Int} {r : Int} (h : laws_szActS x0 x1 = some r) (hv0_0 : SlView W x0 a0_0 c0_0) :
  Gives0 Tryz.prog 14 #[.slice a0_0 x0.length c0_0,.int .i64 x1] W (.int .i64 r):=by
 unfold laws_szActS at h
 refine en Tryz.func14 Tryz.ntmps14 ?_
 refine qs (qr (oN 1 [] [0,1] ?_))
 refine oe (nt (qs (qr (oN 5 [(1,vi (w64 (x1 - (x0.length : Int))))] [] ?_))))
 refine oe (nt (qs (qs (qr (oN 2 [(10,vb (decide ((w64 (x1 - (x0.length : Int))) < 0)))] [1] ?_)))))
 refine oe (nt (cC h (fun a3=>?_) (fun a4=>?_)))
 ·refine qs (qr (oN 1 [(4,vi (-1))] [] ?_))
  refine oe (nt (qe (nr ?_)))
  obtain rfl:=sI a3
  exact re [.int .i64 (-1)]
 refine qk (nt (qs (qr (oN 2 [(4,vi (w64 (x1 - (x0.length : Int))))] [] ?_))))
 refine oe (nt (qe ?_))
 obtain rfl:=sI a4
 exact re [.int .i64 (w64 (x1 - (x0.length : Int)))]
theorem c_laws_toFrac {W : World} {x0 : Frac} {r : Frac} (h : laws_toFrac x0 = some r)  :
  Gives0 Tryz.prog 243 #[vFrac x0] W (vFrac r):=by
 unfold laws_toFrac at h
 refine en Tryz.func243 Tryz.ntmps243 ?_
 refine qs (qr (oB 2 [(2,.p 1 0),(1,.p 0 0)] [] [(247,(eFrac x0)),(216,(eFrac (Frac.mk 0 0)))] ?_))
 refine oe (nt (qs (qr (oB 1 [(3,.p 2 0)] [2,1] [(247,(eFrac x0)),(216,(eFrac (Frac.mk 0 0))),(216,(eFrac (Frac.mk 0 0)))] ?_))))
 refine oe (nt (qs (qr (oB 4 [] [3,2,1] [(247,(eFrac x0)),(216,(eFrac (Frac.mk 0 0))),(216,(eFrac (Frac.mk x0.Num 0)))] ?_))))
 refine oe (nt (qs (qr (oB 4 [] [3,2] [(247,(eFrac x0)),(216,(eFrac (Frac.mk 0 0))),(216,(eFrac x0))] ?_))))
 refine oe (nt (qs (qr (oB 2 [] [2] [(247,(eFrac x0)),(216,(eFrac x0)),(216,(eFrac x0))] ?_))))
 refine oe (nt (qe ?_))
 obtain rfl:=sI h
 exact re [vFrac x0]
theorem c_laws_toNode {W : World} {x0 : Node} {r : Node} (h : laws_toNode x0 = some r)  :
  Gives0 Tryz.prog 232 #[vNode x0] W (vNode r):=by
 unfold laws_toNode at h
 refine en Tryz.func232 Tryz.ntmps232 ?_
 refine qs (qr (oB 2 [(2,.p 1 0),(1,.p 0 0)] [] [(249,(eNode x0)),(233,(eNode (Node.mk 0 0 0 0 (Frac.mk 0 0))))] ?_))
 refine oe (nt (qs (qr (oB 1 [(3,.p 2 0)] [2,1] [(249,(eNode x0)),(233,(eNode (Node.mk 0 0 0 0 (Frac.mk 0 0)))),(233,(eNode (Node.mk 0 0 0 0 (Frac.mk 0 0))))] ?_))))
 refine oe (nt (qs (qr (oB 4 [] [3,2,1] [(249,(eNode x0)),(233,(eNode (Node.mk 0 0 0 0 (Frac.mk 0 0)))),(233,(eNode (Node.mk x0.Kind 0 0 0 (Frac.mk 0 0))))] ?_))))
 refine oe (nt (qs (qr (oB 4 [] [3,2,1] [(249,(eNode x0)),(233,(eNode (Node.mk 0 0 0 0 (Frac.mk 0 0)))),(233,(eNode (Node.mk x0.Kind x0.A 0 0 (Frac.mk 0 0))))] ?_))))
 refine oe (nt (qs (qr (oB 4 [] [3,2,1] [(249,(eNode x0)),(233,(eNode (Node.mk 0 0 0 0 (Frac.mk 0 0)))),(233,(eNode (Node.mk x0.Kind x0.A x0.B 0 (Frac.mk 0 0))))] ?_))))
 refine oe (nt (qs (qr (oB 4 [] [3,2,1] [(249,(eNode x0)),(233,(eNode (Node.mk 0 0 0 0 (Frac.mk 0 0)))),(233,(eNode (Node.mk x0.Kind x0.A x0.B x0.C (Frac.mk 0 0))))] ?_))))
 refine oe (nt (qs (qr (oN 2 [(17,.v (vFrac x0.Value))] [3,2] ?_))))
 obtain ⟨a3,a4,a5⟩:=bS h
 refine k0 (fun _ w hs=>c_laws_toFrac a4) ?_
 refine oB 2 [] [3,2] [(249,(eNode x0)),(233,(eNode (Node.mk 0 0 0 0 (Frac.mk 0 0)))),(233,(eNode (Node.mk x0.Kind x0.A x0.B x0.C a3)))] ?_
 refine oe (nt (qs (qr (oB 2 [] [2] [(249,(eNode x0)),(233,(eNode (Node.mk x0.Kind x0.A x0.B x0.C a3))),(233,(eNode (Node.mk x0.Kind x0.A x0.B x0.C a3)))] ?_))))
 refine oe (nt (qe ?_))
 obtain rfl:=sI a5
 exact re [vNode (Node.mk x0.Kind x0.A x0.B x0.C a3)]
theorem c_laws_toNodeS {W : World} {x0 : List Node} {a0_0 : Option Addr} {c0_0 : Nat} {r : (List Node)} (h : laws_toNodeS x0 = some r) (hv0_0 : SlView W x0 a0_0 c0_0) :
  Gives Tryz.prog 205 #[.slice a0_0 x0.length c0_0] W (fun y : AC=>.slice y.1 r.length y.2) (fun y=>[SlRes 233 r y.1 y.2]):=by
 unfold laws_toNodeS at h
 refine en Tryz.func205 Tryz.ntmps205 ?_
 refine qs (qr (oN 1 [] [0] ?_))
 refine oe (nt (qs (qr (oN 2 [(6,vi (x0.length : Int))] [0] ?_))))
 obtain ⟨af,ag,ah⟩:=bS h
 refine JO_make (α:=Node) rfl (by kernel_rfl) (t:=186) (e:=233) (m:=(x0.length : Int)) (by kernel_rfl) (i:=Tryz.t233) (by kernel_rfl) (z:=(vNode (Node.mk 0 0 0 0 (Frac.mk 0 0)))) (by kernel_rfl) (by kernel_rfl) (by kernel_rfl) (by kernel_rfl) (fun w=>⟨rfl,rfl⟩) ag _ (fun _=>rfl) (fun a4=>?_)
 refine oN 1 [(3,sv a4 af)] [0] ?_
 refine oe (nt (qs (qs (qr (oN 1 [(4,vi 0)] [3,0] ?_)))))
 refine oe (nt ?_)
 obtain ⟨b4,ai,a8⟩:=bS ah
 obtain ⟨aj,ak,a8⟩:=brkS a8
 refine JC_cutP (τ:=((List Node)) × (Unit)) (fun y=>aj y.1 = some r) (fun a6=>[(3,sv a4 a6.1)]) (fun a6=>[]) (fun a6=>[SlRes 233 a6.1 a4.1 a4.2]) ?_ (fun a6 al=>?_)
 ·refine qb (lp Unit ai (fun a3 a9=>[(4,vi a3.1),(3,sv a4 a3.2),(0,vs a0_0 x0 c0_0)]) (fun a3 a9=>[]) (fun a3 a9=>[SlRes 233 a3.2 a4.1 a4.2]) () [4,3,0] [0] 0 (fun a3 a9 b5 am an=>?_))
  refine qs (qs (qr (oN 4 [(11,vb (decide (a3.1 < (x0.length : Int))))] [4,3,0] ?_)))
  refine oe (nt (cC am (fun ao=>?_) (fun ap=>?_)))
  ·refine qk (nt (qs (qb (qr (oN 4 [(17,vi a3.1),(16,vs a0_0 x0 c0_0),(15,vi a3.1),(14,sv a4 a3.2)] [4,3,0] ?_)))))
   obtain ⟨aa,ab,aq⟩:=bS ao
   refine oi 6 (fun _ w hs=>(hv0_0.k hs)) ab ?_
   refine ol 249 0 (vNode aa) (fun _ w hs=>(hv0_0.k hs).flatq ab) ?_
   obtain ⟨a5,ar,au⟩:=bS aq
   refine k0 (fun _ w hs=>c_laws_toNode ar) ?_
   obtain ⟨b6,ac,av⟩:=bS au
   refine oi 6 (fun _ w hs=>(hs.view 0 rfl)) ac ?_
   obtain ⟨ae,a7,aw⟩:=bS av
   replace a7:=(sI a7).symm
   refine JO_storeq (α:=Node) (d:=a4.1) (vs:=[.int .i64 a5.Kind,.int .i64 a5.A,.int .i64 a5.B,.int .i64 a5.C,.int .i64 a5.Value.Num,.int .i64 a5.Value.Den]) (j:=a3.1) (x':=a5) rfl (by kernel_rfl) 0 (by kernel_rfl) ac (Rc:=[]) (Rr:=[]) rfl (by kernel_rfl) (fun w c F Fs ho _ _=>own_flat_set (by kernel_rfl) ho) a7 rfl ?_
   have ax:=len_set a7
   refine JO_keep [20,19,18,17,16,15,14,4,3,0] (sl':=[(20,.v (vNode a5)),(19,.v (vNode aa)),(18,.q a0_0 (Int.toNat a3.1 * 6)),(17,vi a3.1),(16,vs a0_0 x0 c0_0),(15,vi a3.1),(14,sv a4 a3.2),(4,vi a3.1),(3,sv a4 a3.2),(0,vs a0_0 x0 c0_0)]) (by kernel_rfl) ?_
   refine JO_eqE (sl':=[(20,.v (vNode a5)),(19,.v (vNode aa)),(18,.q a0_0 (Int.toNat a3.1 * 6)),(17,vi a3.1),(16,vs a0_0 x0 c0_0),(15,vi a3.1),(14,sv a4 ae),(4,vi a3.1),(3,sv a4 ae),(0,vs a0_0 x0 c0_0)]) (bx':=[]) (by simp only [vs,sv,eNode,vNode,ax]) rfl ?_
   refine oe (bn (nt (qr (oN 3 [(4,vi (w64 (a3.1 + 1)))] [3,0] ?_))))
   exact oe (ct aw () [4,3,0] [0] 0)
  refine qx (nx (nx (bh ?_)))
  have ay:=leafB an ap a8
  exact mp (a3.2,()) ay [3] [0] 0
 have az:=(congrFun ak _).symm.trans al
 refine nt (qs (qr (oN 2 [(2,sv a4 a6.1)] [] ?_)))
 refine oe (nt (qe (rt [.slice a4.1 a6.1.length a4.2] (fun _ w hs=>?_))))
 rw [← sI az]
 exact ⟨a4,rfl,hs.kept.toBelow,(hs.takeR (is:=[0]) rfl).fresh⟩
theorem c_laws_toRule {W : World} {x0 : Rule} {a0_0 : Option Addr} {c0_0 : Nat} {r : Rule} (h : laws_toRule x0 = some r) (hv0_0 : SlView W x0.Nodes a0_0 c0_0) :
  Gives Tryz.prog 152 #[vRule x0 (a0_0,c0_0)] W (fun y : AC=>vRule r y) (fun y=>[SlRes 233 r.Nodes y.1 y.2]):=by
 unfold laws_toRule at h
 refine en Tryz.func152 Tryz.ntmps152 ?_
 refine qs (qr (oB 2 [(2,.p 1 0),(1,.p 0 0)] [] [(185,(eRule x0 (a0_0,c0_0))),(188,(eRule (Rule.mk 0 0 0 0 0 0 ([] : List Node)) (none,0)))] ?_))
 refine oe (nt (qs (qr (oB 1 [(3,.p 2 0)] [2,1] [(185,(eRule x0 (a0_0,c0_0))),(188,(eRule (Rule.mk 0 0 0 0 0 0 ([] : List Node)) (none,0))),(188,(eRule (Rule.mk 0 0 0 0 0 0 ([] : List Node)) (none,0)))] ?_))))
 refine oe (nt (qs (qr (oB 4 [] [3,2,1] [(185,(eRule x0 (a0_0,c0_0))),(188,(eRule (Rule.mk 0 0 0 0 0 0 ([] : List Node)) (none,0))),(188,(eRule (Rule.mk x0.Name 0 0 0 0 0 ([] : List Node)) (none,0)))] ?_))))
 refine oe (nt (qs (qr (oB 4 [] [3,2,1] [(185,(eRule x0 (a0_0,c0_0))),(188,(eRule (Rule.mk 0 0 0 0 0 0 ([] : List Node)) (none,0))),(188,(eRule (Rule.mk x0.Name x0.From 0 0 0 0 ([] : List Node)) (none,0)))] ?_))))
 refine oe (nt (qs (qr (oB 4 [] [3,2,1] [(185,(eRule x0 (a0_0,c0_0))),(188,(eRule (Rule.mk 0 0 0 0 0 0 ([] : List Node)) (none,0))),(188,(eRule (Rule.mk x0.Name x0.From x0.To 0 0 0 ([] : List Node)) (none,0)))] ?_))))
 refine oe (nt (qs (qr (oB 4 [] [3,2,1] [(185,(eRule x0 (a0_0,c0_0))),(188,(eRule (Rule.mk 0 0 0 0 0 0 ([] : List Node)) (none,0))),(188,(eRule (Rule.mk x0.Name x0.From x0.To x0.Joined 0 0 ([] : List Node)) (none,0)))] ?_))))
 refine oe (nt (qs (qr (oB 4 [] [3,2,1] [(185,(eRule x0 (a0_0,c0_0))),(188,(eRule (Rule.mk 0 0 0 0 0 0 ([] : List Node)) (none,0))),(188,(eRule (Rule.mk x0.Name x0.From x0.To x0.Joined x0.Rank 0 ([] : List Node)) (none,0)))] ?_))))
 refine oe (nt (qs (qr (oB 4 [] [3,2,1] [(185,(eRule x0 (a0_0,c0_0))),(188,(eRule (Rule.mk 0 0 0 0 0 0 ([] : List Node)) (none,0))),(188,(eRule (Rule.mk x0.Name x0.From x0.To x0.Joined x0.Rank x0.Mode ([] : List Node)) (none,0)))] ?_))))
 refine oe (nt (qs (qr (oN 2 [(23,vs a0_0 x0.Nodes c0_0)] [3,2] ?_))))
 obtain ⟨a4,a5,a6⟩:=bS h
 refine k1 (fun _ w hs=>c_laws_toNodeS a5 (hv0_0.k hs)) (fun a3=>?_)
 refine oB 2 [] [3,2] [(185,(eRule x0 (a0_0,c0_0))),(188,(eRule (Rule.mk 0 0 0 0 0 0 ([] : List Node)) (none,0))),(188,(eRule (Rule.mk x0.Name x0.From x0.To x0.Joined x0.Rank x0.Mode a4) a3))] ?_
 refine oe (nt (qs (qr (oB 2 [] [2] [(185,(eRule x0 (a0_0,c0_0))),(188,(eRule (Rule.mk x0.Name x0.From x0.To x0.Joined x0.Rank x0.Mode a4) a3)),(188,(eRule (Rule.mk x0.Name x0.From x0.To x0.Joined x0.Rank x0.Mode a4) a3))] ?_))))
 refine oe (nt (qe (rt [vRule (Rule.mk x0.Name x0.From x0.To x0.Joined x0.Rank x0.Mode a4) a3] (fun _ w hs=>?_))))
 rw [← sI a6]
 exact ⟨a3,rfl,hs.kept.toBelow,(hs.takeR (is:=[0]) rfl).fresh⟩
theorem c_laws_toRuleS {W : World} {x0 : List Rule} {a0_0 : Option Addr} {c0_0 : Nat} {r : (List Rule)} (h : laws_toRuleS x0 = some r) (hv0_0 : SlView W x0 a0_0 c0_0) :
  Gives Tryz.prog 102 #[.slice a0_0 x0.length c0_0] W (fun y : AC=>.slice y.1 r.length y.2) (fun y=>[SlRes 188 r y.1 y.2]):=by
 unfold laws_toRuleS at h
 refine en Tryz.func102 Tryz.ntmps102 ?_
 refine qs (qr (oN 1 [] [0] ?_))
 refine oe (nt (qs (qr (oN 2 [(6,vi (x0.length : Int))] [0] ?_))))
 obtain ⟨ai,aj,ak⟩:=bS h
 refine JO_make (α:=Rule) rfl (by kernel_rfl) (t:=40) (e:=188) (m:=(x0.length : Int)) (by kernel_rfl) (i:=Tryz.t188) (by kernel_rfl) (z:=(vRule (Rule.mk 0 0 0 0 0 0 ([] : List Node)) (none,0))) (by kernel_rfl) (by kernel_rfl) (by kernel_rfl) (by kernel_rfl) (fun w=>⟨0,none,0,[],rfl,rfl,.inl ⟨rfl,rfl,rfl⟩⟩) aj _ (fun _=>rfl) (fun a4=>?_)
 refine oN 1 [(3,sv a4 ai)] [0] ?_
 refine oe (nt (qs (qs (qr (oN 1 [(4,vi 0)] [3,0] ?_)))))
 refine oe (nt ?_)
 obtain ⟨b9,al,a9⟩:=bS ak
 obtain ⟨am,an,a9⟩:=brkS a9
 refine JC_cutP (τ:=((List Rule)) × (Unit)) (fun y=>am y.1 = some r) (fun a7=>[(3,sv a4 a7.1)]) (fun a7=>[]) (fun a7=>[SlRes 188 a7.1 a4.1 a4.2]) ?_ (fun a7 ao=>?_)
 ·refine qb (lp Unit al (fun a3 aa=>[(4,vi a3.1),(3,sv a4 a3.2),(0,vs a0_0 x0 c0_0)]) (fun a3 aa=>[]) (fun a3 aa=>[SlRes 188 a3.2 a4.1 a4.2]) () [4,3,0] [0] 0 (fun a3 aa ba ap aq=>?_))
  refine qs (qs (qr (oN 4 [(11,vb (decide (a3.1 < (x0.length : Int))))] [4,3,0] ?_)))
  refine oe (nt (cC ap (fun ar=>?_) (fun au=>?_)))
  ·refine qk (nt (qs (qb (qr (oN 4 [(17,vi a3.1),(16,vs a0_0 x0 c0_0),(15,vi a3.1),(14,sv a4 a3.2)] [4,3,0] ?_)))))
   obtain ⟨ab,ac,av⟩:=bS ar
   refine oi 7 (fun _ w hs=>(hv0_0.k hs)) ac ?_
   obtain ⟨_,⟨ae,af,rfl,aw⟩,ax⟩:=SlView.at hv0_0 (idx_some ac).2.2
   refine ol 185 0 (vRule ab (ae,af)) (fun _ w hs=>⟨(hv0_0.k hs).ne (idx_some ac).2.2,ax.kept hs.kept⟩) ?_
   obtain ⟨a5,ay,az⟩:=bS av
   refine k1 (fun _ w hs=>c_laws_toRule ay (aw.k hs)) (fun a6=>?_)
   obtain ⟨bb,ag,b4⟩:=bS az
   refine oi 7 (fun _ w hs=>(hs.view 1 rfl)) ag ?_
   obtain ⟨ah,a8,b5⟩:=bS b4
   replace a8:=(sI a8).symm
   refine JO_storeq (α:=Rule) (d:=a4.1) (vs:=[.int .i64 a5.Name,.int .i64 a5.From,.int .i64 a5.To,.int .i64 a5.Joined,.int .i64 a5.Rank,.int .i64 a5.Mode,.slice a6.1 a5.Nodes.length a6.2]) (j:=a3.1) (x':=a5) rfl (by kernel_rfl) 0 (by kernel_rfl) ag (Rc:=[SlRes 233 a5.Nodes a6.1 a6.2]) (Rr:=[]) rfl (by kernel_rfl) (own_full rfl (by rintro w Fs ⟨G0,_,rfl,h0,rfl⟩; exact ⟨233,a6.1,a6.2,G0,by simp,rfl,h0⟩)) a8 rfl ?_
   have b6:=len_set a8
   refine JO_keep [20,19,18,17,16,15,14,4,3,0] (sl':=[(20,.v (vRule a5 a6)),(19,.v (vRule ab (ae,af))),(18,.q a0_0 (Int.toNat a3.1 * 7)),(17,vi a3.1),(16,vs a0_0 x0 c0_0),(15,vi a3.1),(14,sv a4 a3.2),(4,vi a3.1),(3,sv a4 a3.2),(0,vs a0_0 x0 c0_0)]) (by kernel_rfl) ?_
   refine JO_eqE (sl':=[(20,.v (vRule a5 a6)),(19,.v (vRule ab (ae,af))),(18,.q a0_0 (Int.toNat a3.1 * 7)),(17,vi a3.1),(16,vs a0_0 x0 c0_0),(15,vi a3.1),(14,sv a4 ah),(4,vi a3.1),(3,sv a4 ah),(0,vs a0_0 x0 c0_0)]) (bx':=[]) (by simp only [vs,sv,eRule,vRule,b6]) rfl ?_
   refine oe (bn (nt (qr (oN 3 [(4,vi (w64 (a3.1 + 1)))] [3,0] ?_))))
   exact oe (ct b5 () [4,3,0] [0] 0)
  refine qx (nx (nx (bh ?_)))
  have b7:=leafB aq au a9
  exact mp (a3.2,()) b7 [3] [0] 0
 have b8:=(congrFun an _).symm.trans ao
 refine nt (qs (qr (oN 2 [(2,sv a4 a7.1)] [] ?_)))
 refine oe (nt (qe (rt [.slice a4.1 a7.1.length a4.2] (fun _ w hs=>?_))))
 rw [← sI b8]
 exact ⟨a4,rfl,hs.kept.toBelow,(hs.takeR (is:=[0]) rfl).fresh⟩
theorem c_laws_toBook {W : World} {x0 : Book} {a0_0 : Option Addr} {c0_0 : Nat} {r : Book} (h : laws_toBook x0 = some r) (hv0_0 : SlView W x0.Rules a0_0 c0_0) :
  Gives Tryz.prog 59 #[vBook x0 (a0_0,c0_0)] W (fun y : AC=>vBook r y) (fun y=>[SlRes 188 r.Rules y.1 y.2]):=by
 unfold laws_toBook at h
 refine en Tryz.func59 Tryz.ntmps59 ?_
 refine qs (qr (oB 2 [(2,.p 1 0),(1,.p 0 0)] [] [(24,(eBook x0 (a0_0,c0_0))),(42,[.slice none 0 0])] ?_))
 refine oe (nt (qs (qr (oB 1 [(3,.p 2 0)] [2,1] [(24,(eBook x0 (a0_0,c0_0))),(42,[.slice none 0 0]),(42,[.slice none 0 0])] ?_))))
 refine oe (nt (qs (qr (oN 2 [(5,vs a0_0 x0.Rules c0_0)] [3,2] ?_))))
 obtain ⟨a4,a5,a6⟩:=bS h
 refine k1 (fun _ w hs=>c_laws_toRuleS a5 (hv0_0.k hs)) (fun a3=>?_)
 refine oB 2 [] [3,2] [(24,(eBook x0 (a0_0,c0_0))),(42,[.slice none 0 0]),(42,(eBook (Book.mk a4) a3))] ?_
 refine oe (nt (qs (qr (oB 2 [] [2] [(24,(eBook x0 (a0_0,c0_0))),(42,(eBook (Book.mk a4) a3)),(42,(eBook (Book.mk a4) a3))] ?_))))
 refine oe (nt (qe (rt [vBook (Book.mk a4) a3] (fun _ w hs=>?_))))
 rw [← sI a6]
 exact ⟨a3,rfl,hs.kept.toBelow,(hs.takeR (is:=[0]) rfl).fresh⟩
theorem c_laws_toFact {W : World} {x0 : Fact} {r : Fact} (h : laws_toFact x0 = some r)  :
  Gives0 Tryz.prog 37 #[vFact x0] W (vFact r):=by
 unfold laws_toFact at h
 refine en Tryz.func37 Tryz.ntmps37 ?_
 refine qs (qr (oB 2 [(2,.p 1 0),(1,.p 0 0)] [] [(75,(eFact x0)),(84,(eFact (Fact.mk 0 0 0 0 0)))] ?_))
 refine oe (nt (qs (qr (oB 1 [(3,.p 2 0)] [2,1] [(75,(eFact x0)),(84,(eFact (Fact.mk 0 0 0 0 0))),(84,(eFact (Fact.mk 0 0 0 0 0)))] ?_))))
 refine oe (nt (qs (qr (oB 4 [] [3,2,1] [(75,(eFact x0)),(84,(eFact (Fact.mk 0 0 0 0 0))),(84,(eFact (Fact.mk x0.Key 0 0 0 0)))] ?_))))
 refine oe (nt (qs (qr (oB 4 [] [3,2,1] [(75,(eFact x0)),(84,(eFact (Fact.mk 0 0 0 0 0))),(84,(eFact (Fact.mk x0.Key x0.From 0 0 0)))] ?_))))
 refine oe (nt (qs (qr (oB 4 [] [3,2,1] [(75,(eFact x0)),(84,(eFact (Fact.mk 0 0 0 0 0))),(84,(eFact (Fact.mk x0.Key x0.From x0.To 0 0)))] ?_))))
 refine oe (nt (qs (qr (oB 4 [] [3,2,1] [(75,(eFact x0)),(84,(eFact (Fact.mk 0 0 0 0 0))),(84,(eFact (Fact.mk x0.Key x0.From x0.To x0.Known 0)))] ?_))))
 refine oe (nt (qs (qr (oB 4 [] [3,2] [(75,(eFact x0)),(84,(eFact (Fact.mk 0 0 0 0 0))),(84,(eFact x0))] ?_))))
 refine oe (nt (qs (qr (oB 2 [] [2] [(75,(eFact x0)),(84,(eFact x0)),(84,(eFact x0))] ?_))))
 refine oe (nt (qe ?_))
 obtain rfl:=sI h
 exact re [vFact x0]
theorem c_laws_toFactS {W : World} {x0 : List Fact} {a0_0 : Option Addr} {c0_0 : Nat} {r : (List Fact)} (h : laws_toFactS x0 = some r) (hv0_0 : SlView W x0 a0_0 c0_0) :
  Gives Tryz.prog 103 #[.slice a0_0 x0.length c0_0] W (fun y : AC=>.slice y.1 r.length y.2) (fun y=>[SlRes 84 r y.1 y.2]):=by
 unfold laws_toFactS at h
 refine en Tryz.func103 Tryz.ntmps103 ?_
 refine qs (qr (oN 1 [] [0] ?_))
 refine oe (nt (qs (qr (oN 2 [(6,vi (x0.length : Int))] [0] ?_))))
 obtain ⟨af,ag,ah⟩:=bS h
 refine JO_make (α:=Fact) rfl (by kernel_rfl) (t:=43) (e:=84) (m:=(x0.length : Int)) (by kernel_rfl) (i:=Tryz.t84) (by kernel_rfl) (z:=(vFact (Fact.mk 0 0 0 0 0))) (by kernel_rfl) (by kernel_rfl) (by kernel_rfl) (by kernel_rfl) (fun w=>⟨rfl,rfl⟩) ag _ (fun _=>rfl) (fun a4=>?_)
 refine oN 1 [(3,sv a4 af)] [0] ?_
 refine oe (nt (qs (qs (qr (oN 1 [(4,vi 0)] [3,0] ?_)))))
 refine oe (nt ?_)
 obtain ⟨b4,ai,a8⟩:=bS ah
 obtain ⟨aj,ak,a8⟩:=brkS a8
 refine JC_cutP (τ:=((List Fact)) × (Unit)) (fun y=>aj y.1 = some r) (fun a6=>[(3,sv a4 a6.1)]) (fun a6=>[]) (fun a6=>[SlRes 84 a6.1 a4.1 a4.2]) ?_ (fun a6 al=>?_)
 ·refine qb (lp Unit ai (fun a3 a9=>[(4,vi a3.1),(3,sv a4 a3.2),(0,vs a0_0 x0 c0_0)]) (fun a3 a9=>[]) (fun a3 a9=>[SlRes 84 a3.2 a4.1 a4.2]) () [4,3,0] [0] 0 (fun a3 a9 b5 am an=>?_))
  refine qs (qs (qr (oN 4 [(11,vb (decide (a3.1 < (x0.length : Int))))] [4,3,0] ?_)))
  refine oe (nt (cC am (fun ao=>?_) (fun ap=>?_)))
  ·refine qk (nt (qs (qb (qr (oN 4 [(17,vi a3.1),(16,vs a0_0 x0 c0_0),(15,vi a3.1),(14,sv a4 a3.2)] [4,3,0] ?_)))))
   obtain ⟨aa,ab,aq⟩:=bS ao
   refine oi 5 (fun _ w hs=>(hv0_0.k hs)) ab ?_
   refine ol 75 0 (vFact aa) (fun _ w hs=>(hv0_0.k hs).flatq ab) ?_
   obtain ⟨a5,ar,au⟩:=bS aq
   refine k0 (fun _ w hs=>c_laws_toFact ar) ?_
   obtain ⟨b6,ac,av⟩:=bS au
   refine oi 5 (fun _ w hs=>(hs.view 0 rfl)) ac ?_
   obtain ⟨ae,a7,aw⟩:=bS av
   replace a7:=(sI a7).symm
   refine JO_storeq (α:=Fact) (d:=a4.1) (vs:=[.int .i64 a5.Key,.int .i64 a5.From,.int .i64 a5.To,.int .i64 a5.Known,.int .i64 a5.Value]) (j:=a3.1) (x':=a5) rfl (by kernel_rfl) 0 (by kernel_rfl) ac (Rc:=[]) (Rr:=[]) rfl (by kernel_rfl) (fun w c F Fs ho _ _=>own_flat_set (by kernel_rfl) ho) a7 rfl ?_
   have ax:=len_set a7
   refine JO_keep [20,19,18,17,16,15,14,4,3,0] (sl':=[(20,.v (vFact a5)),(19,.v (vFact aa)),(18,.q a0_0 (Int.toNat a3.1 * 5)),(17,vi a3.1),(16,vs a0_0 x0 c0_0),(15,vi a3.1),(14,sv a4 a3.2),(4,vi a3.1),(3,sv a4 a3.2),(0,vs a0_0 x0 c0_0)]) (by kernel_rfl) ?_
   refine JO_eqE (sl':=[(20,.v (vFact a5)),(19,.v (vFact aa)),(18,.q a0_0 (Int.toNat a3.1 * 5)),(17,vi a3.1),(16,vs a0_0 x0 c0_0),(15,vi a3.1),(14,sv a4 ae),(4,vi a3.1),(3,sv a4 ae),(0,vs a0_0 x0 c0_0)]) (bx':=[]) (by simp only [vs,sv,eFact,vFact,ax]) rfl ?_
   refine oe (bn (nt (qr (oN 3 [(4,vi (w64 (a3.1 + 1)))] [3,0] ?_))))
   exact oe (ct aw () [4,3,0] [0] 0)
  refine qx (nx (nx (bh ?_)))
  have ay:=leafB an ap a8
  exact mp (a3.2,()) ay [3] [0] 0
 have az:=(congrFun ak _).symm.trans al
 refine nt (qs (qr (oN 2 [(2,sv a4 a6.1)] [] ?_)))
 refine oe (nt (qe (rt [.slice a4.1 a6.1.length a4.2] (fun _ w hs=>?_))))
 rw [← sI az]
 exact ⟨a4,rfl,hs.kept.toBelow,(hs.takeR (is:=[0]) rfl).fresh⟩
theorem c_laws_toStore {W : World} {x0 : Store} {a0_0 : Option Addr} {c0_0 : Nat} {r : Store} (h : laws_toStore x0 = some r) (hv0_0 : SlView W x0.Facts a0_0 c0_0) :
  Gives Tryz.prog 60 #[vStore x0 (a0_0,c0_0)] W (fun y : AC=>vStore r y) (fun y=>[SlRes 84 r.Facts y.1 y.2]):=by
 unfold laws_toStore at h
 refine en Tryz.func60 Tryz.ntmps60 ?_
 refine qs (qr (oB 2 [(2,.p 1 0),(1,.p 0 0)] [] [(27,(eStore x0 (a0_0,c0_0))),(45,[.slice none 0 0])] ?_))
 refine oe (nt (qs (qr (oB 1 [(3,.p 2 0)] [2,1] [(27,(eStore x0 (a0_0,c0_0))),(45,[.slice none 0 0]),(45,[.slice none 0 0])] ?_))))
 refine oe (nt (qs (qr (oN 2 [(5,vs a0_0 x0.Facts c0_0)] [3,2] ?_))))
 obtain ⟨a4,a5,a6⟩:=bS h
 refine k1 (fun _ w hs=>c_laws_toFactS a5 (hv0_0.k hs)) (fun a3=>?_)
 refine oB 2 [] [3,2] [(27,(eStore x0 (a0_0,c0_0))),(45,[.slice none 0 0]),(45,(eStore (Store.mk a4) a3))] ?_
 refine oe (nt (qs (qr (oB 2 [] [2] [(27,(eStore x0 (a0_0,c0_0))),(45,(eStore (Store.mk a4) a3)),(45,(eStore (Store.mk a4) a3))] ?_))))
 refine oe (nt (qe (rt [vStore (Store.mk a4) a3] (fun _ w hs=>?_))))
 rw [← sI a6]
 exact ⟨a3,rfl,hs.kept.toBelow,(hs.takeR (is:=[0]) rfl).fresh⟩
theorem c_laws_toPoint {W : World} {x0 : Point} {r : Point} (h : laws_toPoint x0 = some r)  :
  Gives0 Tryz.prog 40 #[vPoint x0] W (vPoint r):=by
 unfold laws_toPoint at h
 refine en Tryz.func40 Tryz.ntmps40 ?_
 refine qs (qr (oB 2 [(2,.p 1 0),(1,.p 0 0)] [] [(77,(ePoint x0)),(85,(ePoint (Point.mk 0 0 0)))] ?_))
 refine oe (nt (qs (qr (oB 1 [(3,.p 2 0)] [2,1] [(77,(ePoint x0)),(85,(ePoint (Point.mk 0 0 0))),(85,(ePoint (Point.mk 0 0 0)))] ?_))))
 refine oe (nt (qs (qr (oB 4 [] [3,2,1] [(77,(ePoint x0)),(85,(ePoint (Point.mk 0 0 0))),(85,(ePoint (Point.mk x0.Month 0 0)))] ?_))))
 refine oe (nt (qs (qr (oB 4 [] [3,2,1] [(77,(ePoint x0)),(85,(ePoint (Point.mk 0 0 0))),(85,(ePoint (Point.mk x0.Month x0.Known 0)))] ?_))))
 refine oe (nt (qs (qr (oB 4 [] [3,2] [(77,(ePoint x0)),(85,(ePoint (Point.mk 0 0 0))),(85,(ePoint x0))] ?_))))
 refine oe (nt (qs (qr (oB 2 [] [2] [(77,(ePoint x0)),(85,(ePoint x0)),(85,(ePoint x0))] ?_))))
 refine oe (nt (qe ?_))
 obtain rfl:=sI h
 exact re [vPoint x0]
theorem c_laws_toPointS {W : World} {x0 : List Point} {a0_0 : Option Addr} {c0_0 : Nat} {r : (List Point)} (h : laws_toPointS x0 = some r) (hv0_0 : SlView W x0 a0_0 c0_0) :
  Gives Tryz.prog 104 #[.slice a0_0 x0.length c0_0] W (fun y : AC=>.slice y.1 r.length y.2) (fun y=>[SlRes 85 r y.1 y.2]):=by
 unfold laws_toPointS at h
 refine en Tryz.func104 Tryz.ntmps104 ?_
 refine qs (qr (oN 1 [] [0] ?_))
 refine oe (nt (qs (qr (oN 2 [(6,vi (x0.length : Int))] [0] ?_))))
 obtain ⟨af,ag,ah⟩:=bS h
 refine JO_make (α:=Point) rfl (by kernel_rfl) (t:=46) (e:=85) (m:=(x0.length : Int)) (by kernel_rfl) (i:=Tryz.t85) (by kernel_rfl) (z:=(vPoint (Point.mk 0 0 0))) (by kernel_rfl) (by kernel_rfl) (by kernel_rfl) (by kernel_rfl) (fun w=>⟨rfl,rfl⟩) ag _ (fun _=>rfl) (fun a4=>?_)
 refine oN 1 [(3,sv a4 af)] [0] ?_
 refine oe (nt (qs (qs (qr (oN 1 [(4,vi 0)] [3,0] ?_)))))
 refine oe (nt ?_)
 obtain ⟨b4,ai,a8⟩:=bS ah
 obtain ⟨aj,ak,a8⟩:=brkS a8
 refine JC_cutP (τ:=((List Point)) × (Unit)) (fun y=>aj y.1 = some r) (fun a5=>[(3,sv a4 a5.1)]) (fun a5=>[]) (fun a5=>[SlRes 85 a5.1 a4.1 a4.2]) ?_ (fun a5 al=>?_)
 ·refine qb (lp Unit ai (fun a3 a9=>[(4,vi a3.1),(3,sv a4 a3.2),(0,vs a0_0 x0 c0_0)]) (fun a3 a9=>[]) (fun a3 a9=>[SlRes 85 a3.2 a4.1 a4.2]) () [4,3,0] [0] 0 (fun a3 a9 b5 am an=>?_))
  refine qs (qs (qr (oN 4 [(11,vb (decide (a3.1 < (x0.length : Int))))] [4,3,0] ?_)))
  refine oe (nt (cC am (fun ao=>?_) (fun ap=>?_)))
  ·refine qk (nt (qs (qb (qr (oN 4 [(17,vi a3.1),(16,vs a0_0 x0 c0_0),(15,vi a3.1),(14,sv a4 a3.2)] [4,3,0] ?_)))))
   obtain ⟨aa,ab,aq⟩:=bS ao
   refine oi 3 (fun _ w hs=>(hv0_0.k hs)) ab ?_
   refine ol 77 0 (vPoint aa) (fun _ w hs=>(hv0_0.k hs).flatq ab) ?_
   obtain ⟨a6,ar,au⟩:=bS aq
   refine k0 (fun _ w hs=>c_laws_toPoint ar) ?_
   obtain ⟨b6,ac,av⟩:=bS au
   refine oi 3 (fun _ w hs=>(hs.view 0 rfl)) ac ?_
   obtain ⟨ae,a7,aw⟩:=bS av
   replace a7:=(sI a7).symm
   refine JO_storeq (α:=Point) (d:=a4.1) (vs:=[.int .i64 a6.Month,.int .i64 a6.Known,.int .i64 a6.Value]) (j:=a3.1) (x':=a6) rfl (by kernel_rfl) 0 (by kernel_rfl) ac (Rc:=[]) (Rr:=[]) rfl (by kernel_rfl) (fun w c F Fs ho _ _=>own_flat_set (by kernel_rfl) ho) a7 rfl ?_
   have ax:=len_set a7
   refine JO_keep [20,19,18,17,16,15,14,4,3,0] (sl':=[(20,.v (vPoint a6)),(19,.v (vPoint aa)),(18,.q a0_0 (Int.toNat a3.1 * 3)),(17,vi a3.1),(16,vs a0_0 x0 c0_0),(15,vi a3.1),(14,sv a4 a3.2),(4,vi a3.1),(3,sv a4 a3.2),(0,vs a0_0 x0 c0_0)]) (by kernel_rfl) ?_
   refine JO_eqE (sl':=[(20,.v (vPoint a6)),(19,.v (vPoint aa)),(18,.q a0_0 (Int.toNat a3.1 * 3)),(17,vi a3.1),(16,vs a0_0 x0 c0_0),(15,vi a3.1),(14,sv a4 ae),(4,vi a3.1),(3,sv a4 ae),(0,vs a0_0 x0 c0_0)]) (bx':=[]) (by simp only [vs,sv,ePoint,vPoint,ax]) rfl ?_
   refine oe (bn (nt (qr (oN 3 [(4,vi (w64 (a3.1 + 1)))] [3,0] ?_))))
   exact oe (ct aw () [4,3,0] [0] 0)
  refine qx (nx (nx (bh ?_)))
  have ay:=leafB an ap a8
  exact mp (a3.2,()) ay [3] [0] 0
 have az:=(congrFun ak _).symm.trans al
 refine nt (qs (qr (oN 2 [(2,sv a4 a5.1)] [] ?_)))
 refine oe (nt (qe (rt [.slice a4.1 a5.1.length a4.2] (fun _ w hs=>?_))))
 rw [← sI az]
 exact ⟨a4,rfl,hs.kept.toBelow,(hs.takeR (is:=[0]) rfl).fresh⟩
theorem c_laws_toSeries {W : World} {x0 : Series} {a0_0 : Option Addr} {c0_0 : Nat} {r : Series} (h : laws_toSeries x0 = some r) (hv0_0 : SlView W x0.Points a0_0 c0_0) :
  Gives Tryz.prog 61 #[vSeries x0 (a0_0,c0_0)] W (fun y : AC=>vSeries r y) (fun y=>[SlRes 85 r.Points y.1 y.2]):=by
 unfold laws_toSeries at h
 refine en Tryz.func61 Tryz.ntmps61 ?_
 refine qs (qr (oB 2 [(2,.p 1 0),(1,.p 0 0)] [] [(30,(eSeries x0 (a0_0,c0_0))),(48,[.slice none 0 0])] ?_))
 refine oe (nt (qs (qr (oB 1 [(3,.p 2 0)] [2,1] [(30,(eSeries x0 (a0_0,c0_0))),(48,[.slice none 0 0]),(48,[.slice none 0 0])] ?_))))
 refine oe (nt (qs (qr (oN 2 [(5,vs a0_0 x0.Points c0_0)] [3,2] ?_))))
 obtain ⟨a4,a5,a6⟩:=bS h
 refine k1 (fun _ w hs=>c_laws_toPointS a5 (hv0_0.k hs)) (fun a3=>?_)
 refine oB 2 [] [3,2] [(30,(eSeries x0 (a0_0,c0_0))),(48,[.slice none 0 0]),(48,(eSeries (Series.mk a4) a3))] ?_
 refine oe (nt (qs (qr (oB 2 [] [2] [(30,(eSeries x0 (a0_0,c0_0))),(48,(eSeries (Series.mk a4) a3)),(48,(eSeries (Series.mk a4) a3))] ?_))))
 refine oe (nt (qe (rt [vSeries (Series.mk a4) a3] (fun _ w hs=>?_))))
 rw [← sI a6]
 exact ⟨a3,rfl,hs.kept.toBelow,(hs.takeR (is:=[0]) rfl).fresh⟩
theorem c_laws_toSpell {W : World} {x0 : Spell} {r : Spell} (h : laws_toSpell x0 = some r)  :
  Gives0 Tryz.prog 153 #[vSpell x0] W (vSpell r):=by
 unfold laws_toSpell at h
 refine en Tryz.func153 Tryz.ntmps153 ?_
 refine qs (qr (oB 2 [(2,.p 1 0),(1,.p 0 0)] [] [(193,(eSpell x0)),(191,(eSpell (Spell.mk 0 0 0 false)))] ?_))
 refine oe (nt (qs (qr (oB 1 [(3,.p 2 0)] [2,1] [(193,(eSpell x0)),(191,(eSpell (Spell.mk 0 0 0 false))),(191,(eSpell (Spell.mk 0 0 0 false)))] ?_))))
 refine oe (nt (qs (qr (oB 4 [] [3,2,1] [(193,(eSpell x0)),(191,(eSpell (Spell.mk 0 0 0 false))),(191,(eSpell (Spell.mk x0.From 0 0 false)))] ?_))))
 refine oe (nt (qs (qr (oB 4 [] [3,2,1] [(193,(eSpell x0)),(191,(eSpell (Spell.mk 0 0 0 false))),(191,(eSpell (Spell.mk x0.From x0.To 0 false)))] ?_))))
 refine oe (nt (qs (qr (oB 4 [] [3,2,1] [(193,(eSpell x0)),(191,(eSpell (Spell.mk 0 0 0 false))),(191,(eSpell (Spell.mk x0.From x0.To x0.Percent false)))] ?_))))
 refine oe (nt (qs (qr (oB 4 [] [3,2] [(193,(eSpell x0)),(191,(eSpell (Spell.mk 0 0 0 false))),(191,(eSpell x0))] ?_))))
 refine oe (nt (qs (qr (oB 2 [] [2] [(193,(eSpell x0)),(191,(eSpell x0)),(191,(eSpell x0))] ?_))))
 refine oe (nt (qe ?_))
 obtain rfl:=sI h
 exact re [vSpell x0]
theorem c_laws_toSpellS {W : World} {x0 : List Spell} {a0_0 : Option Addr} {c0_0 : Nat} {r : (List Spell)} (h : laws_toSpellS x0 = some r) (hv0_0 : SlView W x0 a0_0 c0_0) :
  Gives Tryz.prog 105 #[.slice a0_0 x0.length c0_0] W (fun y : AC=>.slice y.1 r.length y.2) (fun y=>[SlRes 191 r y.1 y.2]):=by
 unfold laws_toSpellS at h
 refine en Tryz.func105 Tryz.ntmps105 ?_
 refine qs (qr (oN 1 [] [0] ?_))
 refine oe (nt (qs (qr (oN 2 [(6,vi (x0.length : Int))] [0] ?_))))
 obtain ⟨af,ag,ah⟩:=bS h
 refine JO_make (α:=Spell) rfl (by kernel_rfl) (t:=49) (e:=191) (m:=(x0.length : Int)) (by kernel_rfl) (i:=Tryz.t191) (by kernel_rfl) (z:=(vSpell (Spell.mk 0 0 0 false))) (by kernel_rfl) (by kernel_rfl) (by kernel_rfl) (by kernel_rfl) (fun w=>⟨rfl,rfl⟩) ag _ (fun _=>rfl) (fun a4=>?_)
 refine oN 1 [(3,sv a4 af)] [0] ?_
 refine oe (nt (qs (qs (qr (oN 1 [(4,vi 0)] [3,0] ?_)))))
 refine oe (nt ?_)
 obtain ⟨b4,ai,a8⟩:=bS ah
 obtain ⟨aj,ak,a8⟩:=brkS a8
 refine JC_cutP (τ:=((List Spell)) × (Unit)) (fun y=>aj y.1 = some r) (fun a5=>[(3,sv a4 a5.1)]) (fun a5=>[]) (fun a5=>[SlRes 191 a5.1 a4.1 a4.2]) ?_ (fun a5 al=>?_)
 ·refine qb (lp Unit ai (fun a3 a9=>[(4,vi a3.1),(3,sv a4 a3.2),(0,vs a0_0 x0 c0_0)]) (fun a3 a9=>[]) (fun a3 a9=>[SlRes 191 a3.2 a4.1 a4.2]) () [4,3,0] [0] 0 (fun a3 a9 b5 am an=>?_))
  refine qs (qs (qr (oN 4 [(11,vb (decide (a3.1 < (x0.length : Int))))] [4,3,0] ?_)))
  refine oe (nt (cC am (fun ao=>?_) (fun ap=>?_)))
  ·refine qk (nt (qs (qb (qr (oN 4 [(17,vi a3.1),(16,vs a0_0 x0 c0_0),(15,vi a3.1),(14,sv a4 a3.2)] [4,3,0] ?_)))))
   obtain ⟨aa,ab,aq⟩:=bS ao
   refine oi 4 (fun _ w hs=>(hv0_0.k hs)) ab ?_
   refine ol 193 0 (vSpell aa) (fun _ w hs=>(hv0_0.k hs).flatq ab) ?_
   obtain ⟨a6,ar,au⟩:=bS aq
   refine k0 (fun _ w hs=>c_laws_toSpell ar) ?_
   obtain ⟨b6,ac,av⟩:=bS au
   refine oi 4 (fun _ w hs=>(hs.view 0 rfl)) ac ?_
   obtain ⟨ae,a7,aw⟩:=bS av
   replace a7:=(sI a7).symm
   refine JO_storeq (α:=Spell) (d:=a4.1) (vs:=[.int .i64 a6.From,.int .i64 a6.To,.int .i64 a6.Percent,.bool a6.Leave]) (j:=a3.1) (x':=a6) rfl (by kernel_rfl) 0 (by kernel_rfl) ac (Rc:=[]) (Rr:=[]) rfl (by kernel_rfl) (fun w c F Fs ho _ _=>own_flat_set (by kernel_rfl) ho) a7 rfl ?_
   have ax:=len_set a7
   refine JO_keep [20,19,18,17,16,15,14,4,3,0] (sl':=[(20,.v (vSpell a6)),(19,.v (vSpell aa)),(18,.q a0_0 (Int.toNat a3.1 * 4)),(17,vi a3.1),(16,vs a0_0 x0 c0_0),(15,vi a3.1),(14,sv a4 a3.2),(4,vi a3.1),(3,sv a4 a3.2),(0,vs a0_0 x0 c0_0)]) (by kernel_rfl) ?_
   refine JO_eqE (sl':=[(20,.v (vSpell a6)),(19,.v (vSpell aa)),(18,.q a0_0 (Int.toNat a3.1 * 4)),(17,vi a3.1),(16,vs a0_0 x0 c0_0),(15,vi a3.1),(14,sv a4 ae),(4,vi a3.1),(3,sv a4 ae),(0,vs a0_0 x0 c0_0)]) (bx':=[]) (by simp only [vs,sv,eSpell,vSpell,ax]) rfl ?_
   refine oe (bn (nt (qr (oN 3 [(4,vi (w64 (a3.1 + 1)))] [3,0] ?_))))
   exact oe (ct aw () [4,3,0] [0] 0)
  refine qx (nx (nx (bh ?_)))
  have ay:=leafB an ap a8
  exact mp (a3.2,()) ay [3] [0] 0
 have az:=(congrFun ak _).symm.trans al
 refine nt (qs (qr (oN 2 [(2,sv a4 a5.1)] [] ?_)))
 refine oe (nt (qe (rt [.slice a4.1 a5.1.length a4.2] (fun _ w hs=>?_))))
 rw [← sI az]
 exact ⟨a4,rfl,hs.kept.toBelow,(hs.takeR (is:=[0]) rfl).fresh⟩
theorem c_laws_toEvent {W : World} {x0 : Event} {r : Event} (h : laws_toEvent x0 = some r)  :
  Gives0 Tryz.prog 154 #[vEvent x0] W (vEvent r):=by
 unfold laws_toEvent at h
 refine en Tryz.func154 Tryz.ntmps154 ?_
 refine qs (qr (oB 2 [(2,.p 1 0),(1,.p 0 0)] [] [(197,(eEvent x0)),(195,(eEvent (Event.mk 0 0)))] ?_))
 refine oe (nt (qs (qr (oB 1 [(3,.p 2 0)] [2,1] [(197,(eEvent x0)),(195,(eEvent (Event.mk 0 0))),(195,(eEvent (Event.mk 0 0)))] ?_))))
 refine oe (nt (qs (qr (oB 4 [] [3,2,1] [(197,(eEvent x0)),(195,(eEvent (Event.mk 0 0))),(195,(eEvent (Event.mk x0.Kind 0)))] ?_))))
 refine oe (nt (qs (qr (oB 4 [] [3,2] [(197,(eEvent x0)),(195,(eEvent (Event.mk 0 0))),(195,(eEvent x0))] ?_))))
 refine oe (nt (qs (qr (oB 2 [] [2] [(197,(eEvent x0)),(195,(eEvent x0)),(195,(eEvent x0))] ?_))))
 refine oe (nt (qe ?_))
 obtain rfl:=sI h
 exact re [vEvent x0]
theorem c_laws_toEventS {W : World} {x0 : List Event} {a0_0 : Option Addr} {c0_0 : Nat} {r : (List Event)} (h : laws_toEventS x0 = some r) (hv0_0 : SlView W x0 a0_0 c0_0) :
  Gives Tryz.prog 106 #[.slice a0_0 x0.length c0_0] W (fun y : AC=>.slice y.1 r.length y.2) (fun y=>[SlRes 195 r y.1 y.2]):=by
 unfold laws_toEventS at h
 refine en Tryz.func106 Tryz.ntmps106 ?_
 refine qs (qr (oN 1 [] [0] ?_))
 refine oe (nt (qs (qr (oN 2 [(6,vi (x0.length : Int))] [0] ?_))))
 obtain ⟨af,ag,ah⟩:=bS h
 refine JO_make (α:=Event) rfl (by kernel_rfl) (t:=50) (e:=195) (m:=(x0.length : Int)) (by kernel_rfl) (i:=Tryz.t195) (by kernel_rfl) (z:=(vEvent (Event.mk 0 0))) (by kernel_rfl) (by kernel_rfl) (by kernel_rfl) (by kernel_rfl) (fun w=>⟨rfl,rfl⟩) ag _ (fun _=>rfl) (fun a4=>?_)
 refine oN 1 [(3,sv a4 af)] [0] ?_
 refine oe (nt (qs (qs (qr (oN 1 [(4,vi 0)] [3,0] ?_)))))
 refine oe (nt ?_)
 obtain ⟨b4,ai,a8⟩:=bS ah
 obtain ⟨aj,ak,a8⟩:=brkS a8
 refine JC_cutP (τ:=((List Event)) × (Unit)) (fun y=>aj y.1 = some r) (fun a5=>[(3,sv a4 a5.1)]) (fun a5=>[]) (fun a5=>[SlRes 195 a5.1 a4.1 a4.2]) ?_ (fun a5 al=>?_)
 ·refine qb (lp Unit ai (fun a3 a9=>[(4,vi a3.1),(3,sv a4 a3.2),(0,vs a0_0 x0 c0_0)]) (fun a3 a9=>[]) (fun a3 a9=>[SlRes 195 a3.2 a4.1 a4.2]) () [4,3,0] [0] 0 (fun a3 a9 b5 am an=>?_))
  refine qs (qs (qr (oN 4 [(11,vb (decide (a3.1 < (x0.length : Int))))] [4,3,0] ?_)))
  refine oe (nt (cC am (fun ao=>?_) (fun ap=>?_)))
  ·refine qk (nt (qs (qb (qr (oN 4 [(17,vi a3.1),(16,vs a0_0 x0 c0_0),(15,vi a3.1),(14,sv a4 a3.2)] [4,3,0] ?_)))))
   obtain ⟨aa,ab,aq⟩:=bS ao
   refine oi 2 (fun _ w hs=>(hv0_0.k hs)) ab ?_
   refine ol 197 0 (vEvent aa) (fun _ w hs=>(hv0_0.k hs).flatq ab) ?_
   obtain ⟨a6,ar,au⟩:=bS aq
   refine k0 (fun _ w hs=>c_laws_toEvent ar) ?_
   obtain ⟨b6,ac,av⟩:=bS au
   refine oi 2 (fun _ w hs=>(hs.view 0 rfl)) ac ?_
   obtain ⟨ae,a7,aw⟩:=bS av
   replace a7:=(sI a7).symm
   refine JO_storeq (α:=Event) (d:=a4.1) (vs:=[.int .i64 a6.Kind,.int .i64 a6.Month]) (j:=a3.1) (x':=a6) rfl (by kernel_rfl) 0 (by kernel_rfl) ac (Rc:=[]) (Rr:=[]) rfl (by kernel_rfl) (fun w c F Fs ho _ _=>own_flat_set (by kernel_rfl) ho) a7 rfl ?_
   have ax:=len_set a7
   refine JO_keep [20,19,18,17,16,15,14,4,3,0] (sl':=[(20,.v (vEvent a6)),(19,.v (vEvent aa)),(18,.q a0_0 (Int.toNat a3.1 * 2)),(17,vi a3.1),(16,vs a0_0 x0 c0_0),(15,vi a3.1),(14,sv a4 a3.2),(4,vi a3.1),(3,sv a4 a3.2),(0,vs a0_0 x0 c0_0)]) (by kernel_rfl) ?_
   refine JO_eqE (sl':=[(20,.v (vEvent a6)),(19,.v (vEvent aa)),(18,.q a0_0 (Int.toNat a3.1 * 2)),(17,vi a3.1),(16,vs a0_0 x0 c0_0),(15,vi a3.1),(14,sv a4 ae),(4,vi a3.1),(3,sv a4 ae),(0,vs a0_0 x0 c0_0)]) (bx':=[]) (by simp only [vs,sv,eEvent,vEvent,ax]) rfl ?_
   refine oe (bn (nt (qr (oN 3 [(4,vi (w64 (a3.1 + 1)))] [3,0] ?_))))
   exact oe (ct aw () [4,3,0] [0] 0)
  refine qx (nx (nx (bh ?_)))
  have ay:=leafB an ap a8
  exact mp (a3.2,()) ay [3] [0] 0
 have az:=(congrFun ak _).symm.trans al
 refine nt (qs (qr (oN 2 [(2,sv a4 a5.1)] [] ?_)))
 refine oe (nt (qe (rt [.slice a4.1 a5.1.length a4.2] (fun _ w hs=>?_))))
 rw [← sI az]
 exact ⟨a4,rfl,hs.kept.toBelow,(hs.takeR (is:=[0]) rfl).fresh⟩
theorem c_laws_toMember {W : World} {x0 : Member} {b0 : AC × AC} {r : Member} (h : laws_toMember x0 = some r) (hv0_0 : SlView W x0.Spells b0.1.1 b0.1.2) (hv0_1 : SlView W x0.Events b0.2.1 b0.2.2) :
  Gives Tryz.prog 62 #[vMember x0 b0] W (fun y : AC × AC=>vMember r y) (fun y=>(rMember2 r y)):=by
 unfold laws_toMember at h
 refine en Tryz.func62 Tryz.ntmps62 ?_
 refine qs (qr (oB 2 [(2,.p 1 0),(1,.p 0 0)] [] [(34,(eMember x0 b0)),(52,[.int .i64 0,.int .i64 0,.slice none 0 0,.slice none 0 0])] ?_))
 refine oe (nt (qs (qr (oB 1 [(3,.p 2 0)] [2,1] [(34,(eMember x0 b0)),(52,[.int .i64 0,.int .i64 0,.slice none 0 0,.slice none 0 0]),(52,[.int .i64 0,.int .i64 0,.slice none 0 0,.slice none 0 0])] ?_))))
 refine oe (nt (qs (qr (oB 4 [] [3,2,1] [(34,(eMember x0 b0)),(52,[.int .i64 0,.int .i64 0,.slice none 0 0,.slice none 0 0]),(52,[.int .i64 x0.Birth,.int .i64 0,.slice none 0 0,.slice none 0 0])] ?_))))
 refine oe (nt (qs (qr (oB 4 [] [3,2,1] [(34,(eMember x0 b0)),(52,[.int .i64 0,.int .i64 0,.slice none 0 0,.slice none 0 0]),(52,[.int .i64 x0.Birth,.int .i64 x0.Joined,.slice none 0 0,.slice none 0 0])] ?_))))
 refine oe (nt (qs (qr (oN 2 [(11,sv b0.1 x0.Spells)] [3,2,1] ?_))))
 obtain ⟨a4,a7,a8⟩:=bS h
 refine k1 (fun _ w hs=>c_laws_toSpellS a7 (hv0_0.k hs)) (fun a3=>?_)
 refine oB 2 [] [3,2,1] [(34,(eMember x0 b0)),(52,[.int .i64 0,.int .i64 0,.slice none 0 0,.slice none 0 0]),(52,(eMember (Member.mk x0.Birth x0.Joined a4 ([] : List Event)) (a3,(none,0))))] ?_
 refine oe (nt (qs (qr (oN 2 [(15,sv b0.2 x0.Events)] [3,2] ?_))))
 obtain ⟨a6,a9,aa⟩:=bS a8
 refine k1 (fun _ w hs=>c_laws_toEventS a9 (hv0_1.k hs)) (fun a5=>?_)
 refine oB 2 [] [3,2] [(34,(eMember x0 b0)),(52,[.int .i64 0,.int .i64 0,.slice none 0 0,.slice none 0 0]),(52,(eMember (Member.mk x0.Birth x0.Joined a4 a6) (a3,a5)))] ?_
 refine oe (nt (qs (qr (oB 2 [] [2] [(34,(eMember x0 b0)),(52,(eMember (Member.mk x0.Birth x0.Joined a4 a6) (a3,a5))),(52,(eMember (Member.mk x0.Birth x0.Joined a4 a6) (a3,a5)))] ?_))))
 refine oe (nt (qe (rt [vMember (Member.mk x0.Birth x0.Joined a4 a6) (a3,a5)] (fun _ w hs=>?_))))
 rw [← sI aa]
 exact ⟨(a3,a5),rfl,hs.kept.toBelow,(hs.takeR (is:=[1,0]) rfl).fresh⟩
theorem c_laws_toCase {W : World} {x0 : Case} {b0 : AC × AC × AC × AC × AC} {r : Case} (h : laws_toCase x0 = some r) (hv0_0 : SlView W x0.Book.Rules b0.1.1 b0.1.2) (hv0_1 : SlView W x0.Store.Facts b0.2.1.1 b0.2.1.2) (hv0_2 : SlView W x0.Series.Points b0.2.2.1.1 b0.2.2.1.2) (hv0_3 : SlView W x0.Member.Spells b0.2.2.2.1.1 b0.2.2.2.1.2) (hv0_4 : SlView W x0.Member.Events b0.2.2.2.2.1 b0.2.2.2.2.2) :
  Gives Tryz.prog 16 #[vCase x0 b0] W (fun y : AC × AC × AC × AC × AC=>vCase r y) (fun y=>(rCase2 r y)):=by
 unfold laws_toCase at h
 refine en Tryz.func16 Tryz.ntmps16 ?_
 refine qs (qr (oB 2 [(2,.p 1 0),(1,.p 0 0)] [] [(36,(eCase x0 b0)),(54,[.slice none 0 0,.slice none 0 0,.slice none 0 0,.int .i64 0,.int .i64 0,.slice none 0 0,.slice none 0 0])] ?_))
 refine oe (nt (qs (qr (oB 1 [(3,.p 2 0)] [2,1] [(36,(eCase x0 b0)),(54,[.slice none 0 0,.slice none 0 0,.slice none 0 0,.int .i64 0,.int .i64 0,.slice none 0 0,.slice none 0 0]),(54,[.slice none 0 0,.slice none 0 0,.slice none 0 0,.int .i64 0,.int .i64 0,.slice none 0 0,.slice none 0 0])] ?_))))
 refine oe (nt (qs (qr (oN 2 [(5,.v (vBook x0.Book b0.1))] [3,2,1] ?_))))
 obtain ⟨a6,ab,ac⟩:=bS h
 refine k1 (fun _ w hs=>c_laws_toBook ab (hv0_0.k hs)) (fun a3=>?_)
 refine oB 2 [] [3,2,1] [(36,(eCase x0 b0)),(54,[.slice none 0 0,.slice none 0 0,.slice none 0 0,.int .i64 0,.int .i64 0,.slice none 0 0,.slice none 0 0]),(54,[.slice a3.1 a6.Rules.length a3.2,.slice none 0 0,.slice none 0 0,.int .i64 0,.int .i64 0,.slice none 0 0,.slice none 0 0])] ?_
 refine oe (nt (qs (qr (oN 2 [(9,.v (vStore x0.Store b0.2.1))] [3,2,1] ?_))))
 obtain ⟨a7,ae,af⟩:=bS ac
 refine k1 (fun _ w hs=>c_laws_toStore ae (hv0_1.k hs)) (fun a5=>?_)
 refine oB 2 [] [3,2,1] [(36,(eCase x0 b0)),(54,[.slice none 0 0,.slice none 0 0,.slice none 0 0,.int .i64 0,.int .i64 0,.slice none 0 0,.slice none 0 0]),(54,[.slice a3.1 a6.Rules.length a3.2,.slice a5.1 a7.Facts.length a5.2,.slice none 0 0,.int .i64 0,.int .i64 0,.slice none 0 0,.slice none 0 0])] ?_
 refine oe (nt (qs (qr (oN 2 [(13,.v (vSeries x0.Series b0.2.2.1))] [3,2,1] ?_))))
 obtain ⟨a9,ag,ah⟩:=bS af
 refine k1 (fun _ w hs=>c_laws_toSeries ag (hv0_2.k hs)) (fun a8=>?_)
 refine oB 2 [] [3,2,1] [(36,(eCase x0 b0)),(54,[.slice none 0 0,.slice none 0 0,.slice none 0 0,.int .i64 0,.int .i64 0,.slice none 0 0,.slice none 0 0]),(54,(eCase (Case.mk a6 a7 a9 (Member.mk 0 0 ([] : List Spell) ([] : List Event))) (a3,a5,a8,(none,0),(none,0))))] ?_
 refine oe (nt (qs (qr (oN 2 [(17,.v (vMember x0.Member b0.2.2.2))] [3,2] ?_))))
 obtain ⟨aa,ai,aj⟩:=bS ah
 refine k1 (fun _ w hs=>c_laws_toMember (b0:=b0.2.2.2) ai (hv0_3.k hs) (hv0_4.k hs)) (fun a4=>?_)
 refine oB 2 [] [3,2] [(36,(eCase x0 b0)),(54,[.slice none 0 0,.slice none 0 0,.slice none 0 0,.int .i64 0,.int .i64 0,.slice none 0 0,.slice none 0 0]),(54,(eCase (Case.mk a6 a7 a9 aa) (a3,a5,a8,a4.1,a4.2)))] ?_
 refine oe (nt (qs (qr (oB 2 [] [2] [(36,(eCase x0 b0)),(54,(eCase (Case.mk a6 a7 a9 aa) (a3,a5,a8,a4.1,a4.2))),(54,(eCase (Case.mk a6 a7 a9 aa) (a3,a5,a8,a4.1,a4.2)))] ?_))))
 refine oe (nt (qe (rt [vCase (Case.mk a6 a7 a9 aa) (a3,a5,a8,a4.1,a4.2)] (fun _ w hs=>?_))))
 rw [← sI aj]
 exact ⟨(a3,a5,a8,a4.1,a4.2),rfl,hs.kept.toBelow,(hs.takeR (is:=[4,3,2,0,0]) rfl).fresh⟩
theorem c_laws_toAct {W : World} {x0 : Act} {r : Act} (h : laws_toAct x0 = some r)  :
  Gives0 Tryz.prog 32 #[vAct x0] W (vAct r):=by
 unfold laws_toAct at h
 refine en Tryz.func32 Tryz.ntmps32 ?_
 refine qs (qr (oB 2 [(2,.p 1 0),(1,.p 0 0)] [] [(79,(eAct x0)),(87,(eAct (Act.mk 0 (Fact.mk 0 0 0 0 0) (Point.mk 0 0 0) 0)))] ?_))
 refine oe (nt (qs (qr (oB 1 [(3,.p 2 0)] [2,1] [(79,(eAct x0)),(87,(eAct (Act.mk 0 (Fact.mk 0 0 0 0 0) (Point.mk 0 0 0) 0))),(87,(eAct (Act.mk 0 (Fact.mk 0 0 0 0 0) (Point.mk 0 0 0) 0)))] ?_))))
 refine oe (nt (qs (qr (oB 4 [] [3,2,1] [(79,(eAct x0)),(87,(eAct (Act.mk 0 (Fact.mk 0 0 0 0 0) (Point.mk 0 0 0) 0))),(87,(eAct (Act.mk x0.Kind (Fact.mk 0 0 0 0 0) (Point.mk 0 0 0) 0)))] ?_))))
 refine oe (nt (qs (qr (oN 2 [(8,.v (vFact x0.Fact))] [3,2,1] ?_))))
 obtain ⟨a3,a5,a6⟩:=bS h
 refine k0 (fun _ w hs=>c_laws_toFact a5) ?_
 refine oB 2 [] [3,2,1] [(79,(eAct x0)),(87,(eAct (Act.mk 0 (Fact.mk 0 0 0 0 0) (Point.mk 0 0 0) 0))),(87,(eAct (Act.mk x0.Kind a3 (Point.mk 0 0 0) 0)))] ?_
 refine oe (nt (qs (qr (oN 2 [(12,.v (vPoint x0.Point))] [3,2,1] ?_))))
 obtain ⟨a4,a7,a8⟩:=bS a6
 refine k0 (fun _ w hs=>c_laws_toPoint a7) ?_
 refine oB 2 [] [3,2,1] [(79,(eAct x0)),(87,(eAct (Act.mk 0 (Fact.mk 0 0 0 0 0) (Point.mk 0 0 0) 0))),(87,(eAct (Act.mk x0.Kind a3 a4 0)))] ?_
 refine oe (nt (qs (qr (oB 4 [] [3,2] [(79,(eAct x0)),(87,(eAct (Act.mk 0 (Fact.mk 0 0 0 0 0) (Point.mk 0 0 0) 0))),(87,(eAct (Act.mk x0.Kind a3 a4 x0.N)))] ?_))))
 refine oe (nt (qs (qr (oB 2 [] [2] [(79,(eAct x0)),(87,(eAct (Act.mk x0.Kind a3 a4 x0.N))),(87,(eAct (Act.mk x0.Kind a3 a4 x0.N)))] ?_))))
 refine oe (nt (qe ?_))
 obtain rfl:=sI a8
 exact re [vAct (Act.mk x0.Kind a3 a4 x0.N)]
theorem c_laws_toActS {W : World} {x0 : List Act} {a0_0 : Option Addr} {c0_0 : Nat} {r : (List Act)} (h : laws_toActS x0 = some r) (hv0_0 : SlView W x0 a0_0 c0_0) :
  Gives Tryz.prog 17 #[.slice a0_0 x0.length c0_0] W (fun y : AC=>.slice y.1 r.length y.2) (fun y=>[SlRes 87 r y.1 y.2]):=by
 unfold laws_toActS at h
 refine en Tryz.func17 Tryz.ntmps17 ?_
 refine qs (qr (oN 1 [] [0] ?_))
 refine oe (nt (qs (qr (oN 2 [(6,vi (x0.length : Int))] [0] ?_))))
 obtain ⟨af,ag,ah⟩:=bS h
 refine JO_make (α:=Act) rfl (by kernel_rfl) (t:=61) (e:=87) (m:=(x0.length : Int)) (by kernel_rfl) (i:=Tryz.t87) (by kernel_rfl) (z:=(vAct (Act.mk 0 (Fact.mk 0 0 0 0 0) (Point.mk 0 0 0) 0))) (by kernel_rfl) (by kernel_rfl) (by kernel_rfl) (by kernel_rfl) (fun w=>⟨rfl,rfl⟩) ag _ (fun _=>rfl) (fun a4=>?_)
 refine oN 1 [(3,sv a4 af)] [0] ?_
 refine oe (nt (qs (qs (qr (oN 1 [(4,vi 0)] [3,0] ?_)))))
 refine oe (nt ?_)
 obtain ⟨b4,ai,a8⟩:=bS ah
 obtain ⟨aj,ak,a8⟩:=brkS a8
 refine JC_cutP (τ:=((List Act)) × (Unit)) (fun y=>aj y.1 = some r) (fun a6=>[(3,sv a4 a6.1)]) (fun a6=>[]) (fun a6=>[SlRes 87 a6.1 a4.1 a4.2]) ?_ (fun a6 al=>?_)
 ·refine qb (lp Unit ai (fun a3 a9=>[(4,vi a3.1),(3,sv a4 a3.2),(0,vs a0_0 x0 c0_0)]) (fun a3 a9=>[]) (fun a3 a9=>[SlRes 87 a3.2 a4.1 a4.2]) () [4,3,0] [0] 0 (fun a3 a9 b5 am an=>?_))
  refine qs (qs (qr (oN 4 [(11,vb (decide (a3.1 < (x0.length : Int))))] [4,3,0] ?_)))
  refine oe (nt (cC am (fun ao=>?_) (fun ap=>?_)))
  ·refine qk (nt (qs (qb (qr (oN 4 [(17,vi a3.1),(16,vs a0_0 x0 c0_0),(15,vi a3.1),(14,sv a4 a3.2)] [4,3,0] ?_)))))
   obtain ⟨aa,ab,aq⟩:=bS ao
   refine oi 10 (fun _ w hs=>(hv0_0.k hs)) ab ?_
   refine ol 79 0 (vAct aa) (fun _ w hs=>(hv0_0.k hs).flatq ab) ?_
   obtain ⟨a5,ar,au⟩:=bS aq
   refine k0 (fun _ w hs=>c_laws_toAct ar) ?_
   obtain ⟨b6,ac,av⟩:=bS au
   refine oi 10 (fun _ w hs=>(hs.view 0 rfl)) ac ?_
   obtain ⟨ae,a7,aw⟩:=bS av
   replace a7:=(sI a7).symm
   refine JO_storeq (α:=Act) (d:=a4.1) (vs:=[.int .i64 a5.Kind,.int .i64 a5.Fact.Key,.int .i64 a5.Fact.From,.int .i64 a5.Fact.To,.int .i64 a5.Fact.Known,.int .i64 a5.Fact.Value,.int .i64 a5.Point.Month,.int .i64 a5.Point.Known,.int .i64 a5.Point.Value,.int .i64 a5.N]) (j:=a3.1) (x':=a5) rfl (by kernel_rfl) 0 (by kernel_rfl) ac (Rc:=[]) (Rr:=[]) rfl (by kernel_rfl) (fun w c F Fs ho _ _=>own_flat_set (by kernel_rfl) ho) a7 rfl ?_
   have ax:=len_set a7
   refine JO_keep [20,19,18,17,16,15,14,4,3,0] (sl':=[(20,.v (vAct a5)),(19,.v (vAct aa)),(18,.q a0_0 (Int.toNat a3.1 * 10)),(17,vi a3.1),(16,vs a0_0 x0 c0_0),(15,vi a3.1),(14,sv a4 a3.2),(4,vi a3.1),(3,sv a4 a3.2),(0,vs a0_0 x0 c0_0)]) (by kernel_rfl) ?_
   refine JO_eqE (sl':=[(20,.v (vAct a5)),(19,.v (vAct aa)),(18,.q a0_0 (Int.toNat a3.1 * 10)),(17,vi a3.1),(16,vs a0_0 x0 c0_0),(15,vi a3.1),(14,sv a4 ae),(4,vi a3.1),(3,sv a4 ae),(0,vs a0_0 x0 c0_0)]) (bx':=[]) (by simp only [vs,sv,eAct,vAct,ax]) rfl ?_
   refine oe (bn (nt (qr (oN 3 [(4,vi (w64 (a3.1 + 1)))] [3,0] ?_))))
   exact oe (ct aw () [4,3,0] [0] 0)
  refine qx (nx (nx (bh ?_)))
  have ay:=leafB an ap a8
  exact mp (a3.2,()) ay [3] [0] 0
 have az:=(congrFun ak _).symm.trans al
 refine nt (qs (qr (oN 2 [(2,sv a4 a6.1)] [] ?_)))
 refine oe (nt (qe (rt [.slice a4.1 a6.1.length a4.2] (fun _ w hs=>?_))))
 rw [← sI az]
 exact ⟨a4,rfl,hs.kept.toBelow,(hs.takeR (is:=[0]) rfl).fresh⟩
theorem c_spec_l01In {W : World} {x0 : Int} {x1 : Int} {x2 : Int} {r : Bool} (h : spec_l01In x0 x1 x2 = some r)  :
  Gives0 Tryz.prog 123 #[.int .i64 x0,.int .i64 x1,.int .i64 x2] W (.bool r):=by
 unfold spec_l01In at h
 refine en Tryz.func123 Tryz.ntmps123 ?_
 refine qs (qr (oN 1 [] [0,1,2] ?_))
 refine oe (nt (qs ?_))
 obtain ⟨a3,a4,a5⟩:=bS h
 refine JC_cut (τ:=Unit) (fun _=>[(6,vb a3)]) (fun _=>[]) (fun _=>[]) ?_ (fun _=>?_)
 ·refine qr (oN 4 [(10,vb (decide (x0 ≥ x1)))] [0,2] ?_)
  refine oS 10 a4 (fun a6=>?_) (fun a7=>?_)
  ·refine oN 5 [(6,vb (decide (x0 ≤ x2)))] [] ?_
   refine oe ?_
   obtain rfl:=sI a6
   exact mt () [6] [] 0
  refine oN 5 [(6,vb false)] [] ?_
  refine oe ?_
  obtain rfl:=sI a7
  exact mt () [6] [] 0
 refine nt (qe ?_)
 obtain rfl:=sI a5
 exact re [.bool a3]
theorem c_spec_l02Abs {W : World} {x0 : Int} {r : Int} (h : spec_l02Abs x0 = some r)  :
  Gives0 Tryz.prog 241 #[.int .i64 x0] W (.int .i64 r):=by
 unfold spec_l02Abs at h
 refine en Tryz.func241 Tryz.ntmps241 ?_
 refine qs (qr (oN 1 [] [0] ?_))
 refine oe (nt (qs (qs (qr (oN 2 [(4,vb (decide (x0 < 0)))] [0] ?_)))))
 refine oe (nt (cC h (fun a3=>?_) (fun a4=>?_)))
 ·refine qs (qr (oN 3 [(2,vi (w64 (0 - x0)))] [] ?_))
  refine oe (nt (qe (nr ?_)))
  obtain rfl:=sI a3
  exact re [.int .i64 (w64 (0 - x0))]
 refine qk (nt (qs (qr (oN 2 [(2,vi x0)] [] ?_))))
 refine oe (nt (qe ?_))
 obtain rfl:=sI a4
 exact re [.int .i64 x0]
theorem c_spec_l02Gcd {W : World} {x0 : Int} {x1 : Int} {r : Int} (h : spec_l02Gcd x0 x1 = some r)  :
  Gives0 Tryz.prog 240 #[.int .i64 x0,.int .i64 x1] W (.int .i64 r):=by
 unfold spec_l02Gcd at h
 refine en Tryz.func240 Tryz.ntmps240 ?_
 refine qs (qr (oN 1 [] [0,1] ?_))
 refine oe (nt (qs ?_))
 obtain ⟨ak,a7,a5⟩:=bS h
 obtain ⟨a8,a9,a5⟩:=brkS a5
 refine JC_cutP (τ:=(Int) × (Unit)) (fun y=>a8 y.1 = some r) (fun a4=>[(0,vi a4.1)]) (fun a4=>[]) (fun a4=>[]) ?_ (fun a4 aa=>?_)
 ·refine qb (lp Unit a7 (fun a3 a6=>[(0,vi a3.1),(1,vi a3.2)]) (fun a3 a6=>[]) (fun a3 a6=>[]) () [0,1] [] 0 (fun a3 a6 al ab ac=>?_))
  refine qs (qs (qr (oN 2 [(7,vb (a3.2 != 0))] [0,1] ?_)))
  refine oe (nt (cC ab (fun ae=>?_) (fun af=>?_)))
  ·refine qk (nt (qb (qs (qr (oN 2 [(9,vi a3.2),(8,vi a3.1)] [1] ?_)))))
   obtain ⟨am,ag,ah⟩:=bS ae
   refine JO_div rfl (by kernel_rfl) (op:=.rem) (k:=.i64) (x:=a3.1) (y:=a3.2) (by kernel_rfl) (nz_some ag) rfl ?_
   refine oN 1 [(5,vi (Int.tmod a3.1 a3.2))] [1] ?_
   refine oe (nt (qs (qr (oN 2 [(0,vi a3.2)] [5] ?_))))
   refine oe (nt (qr (oN 2 [(1,vi (Int.tmod a3.1 a3.2))] [0] ?_)))
   exact oe (bn (ct ah () [0,1] [] 0))
  refine qx (nx (nx (bh ?_)))
  have ai:=leafB ac af a5
  exact mp (a3.1,()) ai [0] [] 0
 have aj:=(congrFun a9 _).symm.trans aa
 refine nt (qs (qr (oN 2 [(4,vi a4.1)] [] ?_)))
 refine oe (nt (qe ?_))
 obtain rfl:=sI aj
 exact re [.int .i64 a4.1]
theorem c_spec_FracOk {W : World} {x0 : Frac} {r : Bool} (h : spec_FracOk x0 = some r)  :
  Gives0 Tryz.prog 228 #[vFrac x0] W (.bool r):=by
 unfold spec_FracOk at h
 refine en Tryz.func228 Tryz.ntmps228 ?_
 refine qs (qr (oB 2 [(1,.p 0 0)] [] [(216,(eFrac x0))] ?_))
 refine oe (nt (qs ?_))
 obtain ⟨a3,a4,a5⟩:=bS h
 refine JC_cut (τ:=Unit) (fun _=>[(2,vb a3)]) (fun _=>[(216,(eFrac x0))]) (fun _=>[]) ?_ (fun _=>?_)
 ·refine JC_quiet (by kernel_rfl) (by kernel_rfl) ?_
  refine qN 2 [(4,vi x0.Den)] [1] ?_
  obtain ⟨a6,a7,a8⟩:=bS a4
  refine q0 (fun _ w hs=>c_spec_l01In a7) ?_
  refine qN 1 [(6,vb a6)] [1] ?_
  refine qS 6 a8 (fun a9=>?_) (fun aa=>?_)
  ·refine qN 2 [(8,vi x0.Num)] [6,1] ?_
   obtain ⟨ab,ac,ae⟩:=bS a9
   refine q0 (fun _ w hs=>c_spec_l01In ac) ?_
   refine qN 2 [(11,vb ab)] [1] ?_
   refine qS 11 ae (fun af=>?_) (fun ag=>?_)
   ·refine qN 2 [(13,vi x0.Num)] [11,1] ?_
    obtain ⟨am,ah,ai⟩:=bS af
    refine q0 (fun _ w hs=>c_spec_l02Abs ah) ?_
    refine qN 2 [(16,vi x0.Den)] [14,11] ?_
    obtain ⟨aj,ak,al⟩:=bS ai
    refine q0 (fun _ w hs=>c_spec_l02Gcd ak) ?_
    refine qN 3 [(2,vb (aj == 1))] [] ?_
    refine qz ?_
    obtain rfl:=sI al
    exact mt () [2] [] 1
   refine qN 9 [(2,vb false)] [] ?_
   refine qz ?_
   obtain rfl:=sI ag
   exact mt () [2] [] 1
  refine qN 14 [(2,vb false)] [] ?_
  refine qz ?_
  obtain rfl:=sI aa
  exact mt () [2] [] 1
 refine nt (qe ?_)
 obtain rfl:=sI a5
 exact re [.bool a3]
theorem c_spec_l08Two {W : World} {x0 : Int} {r : Bool} (h : spec_l08Two x0 = some r)  :
  Gives0 Tryz.prog 246 #[.int .i64 x0] W (.bool r):=by
 unfold spec_l08Two at h
 refine en Tryz.func246 Tryz.ntmps246 ?_
 refine qs (qr (oN 1 [] [0] ?_))
 refine oe (nt (qs (qr (oN 1 [(3,vi x0)] [] ?_))))
 obtain ⟨a3,a4,a5⟩:=bS h
 refine k0 (fun _ w hs=>c_spec_l01In a4) ?_
 refine oN 1 [(2,vb a3)] [] ?_
 refine oe (nt (qe ?_))
 obtain rfl:=sI a5
 exact re [.bool a3]
theorem c_spec_l08At {W : World} {x0 : Int} {x1 : Int} {r : Bool} (h : spec_l08At x0 x1 = some r)  :
  Gives0 Tryz.prog 247 #[.int .i64 x0,.int .i64 x1] W (.bool r):=by
 unfold spec_l08At at h
 refine en Tryz.func247 Tryz.ntmps247 ?_
 refine qs (qr (oN 1 [] [0,1] ?_))
 refine oe (nt (qs ?_))
 obtain ⟨a3,a4,a5⟩:=bS h
 refine JC_cut (τ:=Unit) (fun _=>[(4,vb a3)]) (fun _=>[]) (fun _=>[]) ?_ (fun _=>?_)
 ·refine qr (oN 3 [(7,vb (decide (x0 ≥ 0)))] [0,1] ?_)
  refine oS 7 a4 (fun a6=>?_) (fun a7=>?_)
  ·refine oN 5 [(4,vb (decide (x0 < x1)))] [] ?_
   refine oe ?_
   obtain rfl:=sI a6
   exact mt () [4] [] 0
  refine oN 5 [(4,vb false)] [] ?_
  refine oe ?_
  obtain rfl:=sI a7
  exact mt () [4] [] 0
 refine nt (qe ?_)
 obtain rfl:=sI a5
 exact re [.bool a3]
theorem c_spec_NodeOk {W : World} {x0 : Node} {x1 : Int} {r : Bool} (h : spec_NodeOk x0 x1 = some r)  :
  Gives0 Tryz.prog 235 #[vNode x0,.int .i64 x1] W (.bool r):=by
 unfold spec_NodeOk at h
 refine en Tryz.func235 Tryz.ntmps235 ?_
 refine qs (qr (oB 2 [(2,.p 0 0)] [1] [(233,(eNode x0))] ?_))
 refine oe (nt (qs (qr (oB 3 [(5,.p 1 0)] [2,1] [(233,(eNode x0)),(216,(eFrac (Frac.mk 0 0)))] ?_))))
 refine oe (nt (qs (qb (qs (qr (oN 4 [(7,vb (x0.Kind == 1))] [5,2,1] ?_))))))
 refine oe (nt (cC h (fun a7=>?_) (fun a8=>?_)))
 ·refine qs ?_
  obtain ⟨a3,a9,aa⟩:=bS a7
  refine JC_cut (τ:=Unit) (fun _=>[(4,vb a3)]) (fun _=>[(233,(eNode x0)),(216,(eFrac (Frac.mk 0 0)))]) (fun _=>[]) ?_ (fun _=>?_)
  ·refine qr (oN 4 [(14,vb (x0.A == 0))] [2] ?_)
   refine oS 14 a9 (fun ab=>?_) (fun ac=>?_)
   ·refine oN 5 [(19,vb (x0.B == 0))] [2] ?_
    refine oS 19 ab (fun ae=>?_) (fun af=>?_)
    ·refine oN 5 [(24,vb (x0.C == 0))] [2] ?_
     refine oS 24 ae (fun ag=>?_) (fun ah=>?_)
     ·refine oN 2 [(26,.v (vFrac x0.Value))] [24] ?_
      obtain ⟨ai,aj,ak⟩:=bS ag
      refine k0 (fun _ w hs=>c_spec_FracOk aj) ?_
      refine oN 2 [(4,vb ai)] [] ?_
      refine oe ?_
      obtain rfl:=sI ak
      exact mt () [4] [] 2
     refine oN 5 [(4,vb false)] [] ?_
     refine oe ?_
     obtain rfl:=sI ah
     exact mt () [4] [] 2
    refine oN 10 [(4,vb false)] [] ?_
    refine oe ?_
    obtain rfl:=sI af
    exact mt () [4] [] 2
   refine oN 15 [(4,vb false)] [] ?_
   refine oe ?_
   obtain rfl:=sI ac
   exact mt () [4] [] 2
  refine nt (qe (br (nr ?_)))
  obtain rfl:=sI aa
  exact re [.bool a3]
 refine qs (qr (oN 5 [(29,vb (!((x0.Value.Num == 0) && ((x0.Value.Den == 0) && true))))] [2,1] ?_))
 refine oe (nt (cC a8 (fun al=>?_) (fun am=>?_)))
 ·refine qs (qr (oN 1 [(4,vb false)] [] ?_))
  refine oe (nt (qe (br (nr ?_))))
  obtain rfl:=sI al
  exact re [.bool false]
 refine qs (qr (oN 4 [(34,vb (x0.Kind == 2))] [2,1] ?_))
 refine oe (nt (cC am (fun an=>?_) (fun ao=>?_)))
 ·refine qs ?_
  obtain ⟨a4,ap,aq⟩:=bS an
  refine JC_cut (τ:=Unit) (fun _=>[(4,vb a4)]) (fun _=>[(233,(eNode x0)),(216,(eFrac (Frac.mk 0 0)))]) (fun _=>[]) ?_ (fun _=>?_)
  ·refine qr (oN 2 [(39,vi x0.A)] [2] ?_)
   obtain ⟨ar,au,av⟩:=bS ap
   refine k0 (fun _ w hs=>c_spec_l01In au) ?_
   refine oN 1 [(41,vb ar)] [2] ?_
   refine oS 41 av (fun aw=>?_) (fun ax=>?_)
   ·refine oN 5 [(46,vb (x0.B == 0))] [2] ?_
    refine oS 46 aw (fun ay=>?_) (fun az=>?_)
    ·refine oN 5 [(4,vb (x0.C == 0))] [] ?_
     refine oe ?_
     obtain rfl:=sI ay
     exact mt () [4] [] 2
    refine oN 5 [(4,vb false)] [] ?_
    refine oe ?_
    obtain rfl:=sI az
    exact mt () [4] [] 2
   refine oN 10 [(4,vb false)] [] ?_
   refine oe ?_
   obtain rfl:=sI ax
   exact mt () [4] [] 2
  refine nt (qe (br (nr ?_)))
  obtain rfl:=sI aq
  exact re [.bool a4]
 refine qs (qr (oN 2 [(53,vi x0.Kind)] [2,1] ?_))
 obtain ⟨b4,b5,b6⟩:=bS ao
 refine k0 (fun _ w hs=>c_spec_l08Two b5) ?_
 refine oN 1 [(51,vb b4)] [2,1] ?_
 refine oe (nt (cC b6 (fun b7=>?_) (fun b8=>?_)))
 ·refine qs ?_
  obtain ⟨a5,b9,ba⟩:=bS b7
  refine JC_cut (τ:=Unit) (fun _=>[(4,vb a5)]) (fun _=>[(233,(eNode x0)),(216,(eFrac (Frac.mk 0 0)))]) (fun _=>[]) ?_ (fun _=>?_)
  ·refine qr (oN 3 [(57,vi x1),(56,vi x0.A)] [2,1] ?_)
   obtain ⟨bb,bc,bd⟩:=bS b9
   refine k0 (fun _ w hs=>c_spec_l08At bc) ?_
   refine oN 1 [(59,vb bb)] [2,1] ?_
   refine oS 59 bd (fun be=>?_) (fun bf=>?_)
   ·refine oN 3 [(62,vi x1),(61,vi x0.B)] [59,2] ?_
    obtain ⟨bg,bi,bj⟩:=bS be
    refine k0 (fun _ w hs=>c_spec_l08At bi) ?_
    refine oN 2 [(65,vb bg)] [2] ?_
    refine oS 65 bj (fun bk=>?_) (fun bl=>?_)
    ·refine oN 5 [(4,vb (x0.C == 0))] [] ?_
     refine oe ?_
     obtain rfl:=sI bk
     exact mt () [4] [] 2
    refine oN 5 [(4,vb false)] [] ?_
    refine oe ?_
    obtain rfl:=sI bl
    exact mt () [4] [] 2
   refine oN 11 [(4,vb false)] [] ?_
   refine oe ?_
   obtain rfl:=sI bf
   exact mt () [4] [] 2
  refine nt (qe (br (nr ?_)))
  obtain rfl:=sI ba
  exact re [.bool a5]
 refine qk (bn (nt (qs ?_)))
 obtain ⟨a6,bm,bo⟩:=bS b8
 refine JC_cut (τ:=Unit) (fun _=>[(4,vb a6)]) (fun _=>[(233,(eNode x0)),(216,(eFrac (Frac.mk 0 0)))]) (fun _=>[]) ?_ (fun _=>?_)
 ·refine qr (oN 4 [(73,vb (x0.Kind == 9))] [2,1] ?_)
  refine oS 73 bm (fun bp=>?_) (fun bq=>?_)
  ·refine oN 3 [(76,vi x1),(75,vi x0.A)] [73,2,1] ?_
   obtain ⟨bs,bu,bv⟩:=bS bp
   refine k0 (fun _ w hs=>c_spec_l08At bu) ?_
   refine oN 2 [(79,vb bs)] [2,1] ?_
   refine oS 79 bv (fun bw=>?_) (fun bz=>?_)
   ·refine oN 3 [(82,vi x1),(81,vi x0.B)] [79,2,1] ?_
    obtain ⟨c3,c4,c5⟩:=bS bw
    refine k0 (fun _ w hs=>c_spec_l08At c4) ?_
    refine oN 2 [(85,vb c3)] [2,1] ?_
    refine oS 85 c5 (fun c6=>?_) (fun c7=>?_)
    ·refine oN 3 [(88,vi x1),(87,vi x0.C)] [85] ?_
     obtain ⟨c8,c9,ca⟩:=bS c6
     refine k0 (fun _ w hs=>c_spec_l08At c9) ?_
     refine oN 2 [(4,vb c8)] [] ?_
     refine oe ?_
     obtain rfl:=sI ca
     exact mt () [4] [] 2
    refine oN 6 [(4,vb false)] [] ?_
    refine oe ?_
    obtain rfl:=sI c7
    exact mt () [4] [] 2
   refine oN 12 [(4,vb false)] [] ?_
   refine oe ?_
   obtain rfl:=sI bz
   exact mt () [4] [] 2
  refine oN 18 [(4,vb false)] [] ?_
  refine oe ?_
  obtain rfl:=sI bq
  exact mt () [4] [] 2
 refine nt (qe ?_)
 obtain rfl:=sI bo
 exact re [.bool a6]
theorem c_spec_FormulaOk {W : World} {x0 : List Node} {a0_0 : Option Addr} {c0_0 : Nat} {r : Bool} (h : spec_FormulaOk x0 = some r) (hv0_0 : SlView W x0 a0_0 c0_0) :
  Gives0 Tryz.prog 212 #[.slice a0_0 x0.length c0_0] W (.bool r):=by
 unfold spec_FormulaOk at h
 refine en Tryz.func212 Tryz.ntmps212 ?_
 refine qs (qr (oN 1 [] [0] ?_))
 refine oe (nt (qs (qs (qr (oN 1 [(3,vi 0)] [0] ?_)))))
 refine oe (nt ?_)
 obtain ⟨aw,aa,a4⟩:=bS h
 obtain ⟨ab,ac,a4⟩:=brkS a4
 refine JC_cutP (τ:=(Unit) × (Unit)) (fun y=>ab y.1 = some r) (fun a5=>[(0,vs a0_0 x0 c0_0)]) (fun a5=>[]) (fun a5=>[]) ?_ (fun a5 ae=>?_)
 ·refine qb (lp Unit aa (fun a3 a6=>[(3,vi a3),(0,vs a0_0 x0 c0_0)]) (fun a3 a6=>[]) (fun a3 a6=>[]) () [3,0] [] 0 (fun a3 a6 ax af a7=>?_))
  refine qs (qs (qr (oN 4 [(7,vb (decide (a3 < (x0.length : Int))))] [3,0] ?_)))
  refine oe (nt (cC af (fun ag=>?_) (fun ah=>?_)))
  ·refine qk (nt (qs (qb (qs (qr (oN 2 [(11,vi a3),(10,vs a0_0 x0 c0_0)] [3,0] ?_))))))
   obtain ⟨ai,a8,aj⟩:=bS ag
   refine oi 6 (fun _ w hs=>(hv0_0.k hs)) a8 ?_
   refine ol 233 0 (vNode ai) (fun _ w hs=>(hv0_0.k hs).flatq a8) ?_
   refine oN 1 [(14,vi a3)] [13,3,0] ?_
   obtain ⟨ak,al,am⟩:=bS aj
   refine k0 (fun _ w hs=>c_spec_NodeOk al) ?_
   refine oN 1 [(16,vb (!ak))] [3,0] ?_
   refine oe (nt (cC am (fun an=>?_) (fun ao=>?_)))
   ·refine qs (qr (oN 1 [(2,vb false)] [] ?_))
    refine oe (nt (qe (br (nr (nr ?_)))))
    have ap:=leafR a7 an a4
    refine br (nr (nr ?_))
    obtain rfl:=sI ap
    exact re [.bool false]
   refine qk (bn (nt (qr (oN 3 [(3,vi (w64 (a3 + 1)))] [0] ?_))))
   exact oe (ct ao () [3,0] [] 0)
  refine qx (nx (nx (bh ?_)))
  have aq:=leafB a7 ah a4
  exact mp ((),()) aq [0] [] 0
 have ar:=(congrFun ac _).symm.trans ae
 refine nt (qs (qr (oN 2 [(18,vi (x0.length : Int))] [] ?_)))
 obtain ⟨a9,au,av⟩:=bS ar
 refine k0 (fun _ w hs=>c_spec_l01In au) ?_
 refine oN 1 [(2,vb a9)] [] ?_
 refine oe (nt (qe ?_))
 obtain rfl:=sI av
 exact re [.bool a9]
theorem c_spec_RuleOk {W : World} {x0 : Rule} {a0_0 : Option Addr} {c0_0 : Nat} {r : Bool} (h : spec_RuleOk x0 = some r) (hv0_0 : SlView W x0.Nodes a0_0 c0_0) :
  Gives0 Tryz.prog 170 #[vRule x0 (a0_0,c0_0)] W (.bool r):=by
 unfold spec_RuleOk at h
 refine en Tryz.func170 Tryz.ntmps170 ?_
 refine qs (qr (oB 2 [(1,.p 0 0)] [] [(188,(eRule x0 (a0_0,c0_0)))] ?_))
 refine oe (nt (qs ?_))
 obtain ⟨a3,a4,a5⟩:=bS h
 refine JC_cut (τ:=Unit) (fun _=>[(2,vb a3)]) (fun _=>[(188,(eRule x0 (a0_0,c0_0)))]) (fun _=>[]) ?_ (fun _=>?_)
 ·refine qr (oN 2 [(4,vi x0.Name)] [1] ?_)
  obtain ⟨a6,a7,a8⟩:=bS a4
  refine k0 (fun _ w hs=>c_spec_l01In a7) ?_
  refine oN 1 [(6,vb a6)] [1] ?_
  refine oS 6 a8 (fun a9=>?_) (fun aa=>?_)
  ·refine oN 5 [(11,vb (decide (x0.From ≥ 0)))] [1] ?_
   refine oS 11 a9 (fun ab=>?_) (fun ac=>?_)
   ·refine oN 7 [(18,vb (decide (x0.From < x0.To)))] [1] ?_
    refine oS 18 ab (fun ae=>?_) (fun af=>?_)
    ·refine oN 5 [(23,vb (decide (x0.To ≤ 3600)))] [1] ?_
     refine oS 23 ae (fun ag=>?_) (fun ah=>?_)
     ·refine oN 2 [(25,vi x0.Joined)] [23,1] ?_
      obtain ⟨ai,aj,ak⟩:=bS ag
      refine k0 (fun _ w hs=>c_spec_l01In aj) ?_
      refine oN 2 [(28,vb ai)] [1] ?_
      refine oS 28 ak (fun al=>?_) (fun am=>?_)
      ·refine oN 2 [(30,vi x0.Rank)] [28,1] ?_
       obtain ⟨an,ao,ap⟩:=bS al
       refine k0 (fun _ w hs=>c_spec_l01In ao) ?_
       refine oN 2 [(33,vb an)] [1] ?_
       refine oS 33 ap (fun aq=>?_) (fun ar=>?_)
       ·refine oN 2 [(35,vi x0.Mode)] [33,1] ?_
        obtain ⟨au,av,aw⟩:=bS aq
        refine k0 (fun _ w hs=>c_spec_l01In av) ?_
        refine oN 2 [(38,vb au)] [1] ?_
        refine oS 38 aw (fun ax=>?_) (fun ay=>?_)
        ·refine oN 2 [(40,vs a0_0 x0.Nodes c0_0)] [38] ?_
         obtain ⟨az,b4,b5⟩:=bS ax
         refine k0 (fun _ w hs=>c_spec_FormulaOk b4 (hv0_0.k hs)) ?_
         refine oN 2 [(2,vb az)] [] ?_
         refine oe ?_
         obtain rfl:=sI b5
         exact mt () [2] [] 1
        refine oN 5 [(2,vb false)] [] ?_
        refine oe ?_
        obtain rfl:=sI ay
        exact mt () [2] [] 1
       refine oN 10 [(2,vb false)] [] ?_
       refine oe ?_
       obtain rfl:=sI ar
       exact mt () [2] [] 1
      refine oN 15 [(2,vb false)] [] ?_
      refine oe ?_
      obtain rfl:=sI am
      exact mt () [2] [] 1
     refine oN 20 [(2,vb false)] [] ?_
     refine oe ?_
     obtain rfl:=sI ah
     exact mt () [2] [] 1
    refine oN 25 [(2,vb false)] [] ?_
    refine oe ?_
    obtain rfl:=sI af
    exact mt () [2] [] 1
   refine oN 32 [(2,vb false)] [] ?_
   refine oe ?_
   obtain rfl:=sI ac
   exact mt () [2] [] 1
  refine oN 37 [(2,vb false)] [] ?_
  refine oe ?_
  obtain rfl:=sI aa
  exact mt () [2] [] 1
 refine nt (qe ?_)
 obtain rfl:=sI a5
 exact re [.bool a3]
theorem c_spec_l04End {W : World} {x0 : Int} {r : Bool} (h : spec_l04End x0 = some r)  :
  Gives0 Tryz.prog 213 #[.int .i64 x0] W (.bool r):=by
 unfold spec_l04End at h
 refine en Tryz.func213 Tryz.ntmps213 ?_
 refine qs (qr (oN 1 [] [0] ?_))
 refine oe (nt (qs (qr (oN 1 [(3,vi x0)] [] ?_))))
 obtain ⟨a3,a4,a5⟩:=bS h
 refine k0 (fun _ w hs=>c_spec_l01In a4) ?_
 refine oN 1 [(2,vb a3)] [] ?_
 refine oe (nt (qe ?_))
 obtain rfl:=sI a5
 exact re [.bool a3]
theorem c_spec_MonthsIn {W : World} {x0 : Int} {x1 : Int} {x2 : Int} {x3 : Int} {r : Int} (h : spec_MonthsIn x0 x1 x2 x3 = some r)  :
  Gives0 Tryz.prog 171 #[.int .i64 x0,.int .i64 x1,.int .i64 x2,.int .i64 x3] W (.int .i64 r):=by
 unfold spec_MonthsIn at h
 refine en Tryz.func171 Tryz.ntmps171 ?_
 refine qs (qr (oN 1 [] [0,1,2,3] ?_))
 refine oe (nt (qs (qs ?_)))
 obtain ⟨a3,a4,a5⟩:=bS h
 refine JC_cut (τ:=Unit) (fun _=>[(0,vi x0),(1,vi x1),(2,vi x2),(3,vi x3),(26,vb a3)]) (fun _=>[]) (fun _=>[]) ?_ (fun _=>?_)
 ·refine qr (oN 1 [(9,vi x0)] [0,1,2,3] ?_)
  obtain ⟨a6,a7,a8⟩:=bS a4
  refine k0 (fun _ w hs=>c_spec_l04End a7) ?_
  refine oN 2 [(12,vb (!a6))] [0,1,2,3] ?_
  refine oS 12 a8 (fun a9=>?_) (fun aa=>?_)
  ·refine oN 14 [(26,vb true)] [0,1,2,3] ?_
   refine oe ?_
   obtain rfl:=sI a9
   exact mt () [0,1,2,3,26] [] 0
  refine oN 1 [(13,vi x1)] [12,0,1,2,3] ?_
  obtain ⟨ab,ac,ae⟩:=bS aa
  refine k0 (fun _ w hs=>c_spec_l04End ac) ?_
  refine oN 3 [(17,vb (!ab))] [0,1,2,3] ?_
  refine oS 17 ae (fun af=>?_) (fun ag=>?_)
  ·refine oN 9 [(26,vb true)] [0,1,2,3] ?_
   refine oe ?_
   obtain rfl:=sI af
   exact mt () [0,1,2,3,26] [] 0
  refine oN 1 [(18,vi x2)] [17,0,1,2,3] ?_
  obtain ⟨ah,ai,aj⟩:=bS ag
  refine k0 (fun _ w hs=>c_spec_l04End ai) ?_
  refine oN 3 [(22,vb (!ah))] [0,1,2,3] ?_
  refine oS 22 aj (fun ak=>?_) (fun al=>?_)
  ·refine oN 4 [(26,vb true)] [0,1,2,3] ?_
   refine oe ?_
   obtain rfl:=sI ak
   exact mt () [0,1,2,3,26] [] 0
  refine oN 1 [(23,vi x3)] [22,0,1,2,3] ?_
  obtain ⟨am,an,ao⟩:=bS al
  refine k0 (fun _ w hs=>c_spec_l04End an) ?_
  refine oN 2 [(26,vb (!am))] [0,1,2,3] ?_
  refine oe ?_
  obtain rfl:=sI ao
  exact mt () [0,1,2,3,26] [] 0
 refine nt (cC a5 (fun ap=>?_) (fun aq=>?_))
 ·refine qs (qr (oN 1 [(8,vi 0)] [] ?_))
  refine oe (nt (qe (nr ?_)))
  obtain rfl:=sI ap
  exact re [.int .i64 0]
 refine qk (nt (qs (qr (oN 9 [(8,vi (imax 0 (w64 ((imin x1 x3) - (imax x0 x2)))))] [] ?_))))
 refine oe (nt (qe ?_))
 obtain rfl:=sI aq
 exact re [.int .i64 (imax 0 (w64 ((imin x1 x3) - (imax x0 x2))))]
theorem c_spec_BookOk {W : World} {x0 : Book} {a0_0 : Option Addr} {c0_0 : Nat} {r : Bool} (h : spec_BookOk x0 = some r) (hv0_0 : SlView W x0.Rules a0_0 c0_0) :
  Gives0 Tryz.prog 139 #[vBook x0 (a0_0,c0_0)] W (.bool r):=by
 unfold spec_BookOk at h
 refine en Tryz.func139 Tryz.ntmps139 ?_
 refine qs (qr (oB 2 [(1,.p 0 0)] [] [(42,(eBook x0 (a0_0,c0_0)))] ?_))
 refine oe (nt (qs (qs (qr (oN 1 [(3,vi 0)] [1] ?_)))))
 refine oe (nt ?_)
 obtain ⟨c9,am,aa⟩:=bS h
 obtain ⟨an,ao,aa⟩:=brkS aa
 refine JC_cutP (τ:=(Unit) × (Unit)) (fun y=>an y.1 = some r) (fun ac=>[(1,.p 0 0)]) (fun ac=>[(42,(eBook x0 (a0_0,c0_0)))]) (fun ac=>[]) ?_ (fun ac ap=>?_)
 ·refine qb (lp Unit am (fun a5 ae=>[(3,vi a5),(1,.p 0 0)]) (fun a5 ae=>[(42,(eBook x0 (a0_0,c0_0)))]) (fun a5 ae=>[]) () [3,1] [] 1 (fun a5 ae aq ar af=>?_))
  refine qs (qs (qr (oN 5 [(11,vb (decide (a5 < (x0.Rules.length : Int))))] [3,1] ?_)))
  refine oe (nt (cC ar (fun au=>?_) (fun av=>?_)))
  ·refine qk (nt (qs (qb (qs (qr (oN 3 [(16,vi a5),(15,vs a0_0 x0.Rules c0_0)] [3,1] ?_))))))
   obtain ⟨a3,ag,aw⟩:=bS au
   refine oi 7 (fun _ w hs=>(hv0_0.k hs)) ag ?_
   obtain ⟨_,⟨a7,a8,rfl,ax⟩,ay⟩:=SlView.at hv0_0 (idx_some ag).2.2
   refine ol 188 0 (vRule a3 (a7,a8)) (fun _ w hs=>⟨(hv0_0.k hs).ne (idx_some ag).2.2,ay.kept hs.kept⟩) ?_
   refine oB 2 [(4,.p 1 0)] [3,1] [(42,(eBook x0 (a0_0,c0_0))),(188,(eRule a3 (a7,a8)))] ?_
   refine oe (nt (qs (qs (qr (oN 1 [(19,.v (vRule a3 (a7,a8)))] [4,3,1] ?_)))))
   obtain ⟨az,b4,b5⟩:=bS aw
   refine k0 (fun _ w hs=>c_spec_RuleOk b4 (ax.k hs)) ?_
   refine oN 1 [(21,vb (!az))] [4,3,1] ?_
   refine oe (nt (cC b5 (fun b6=>?_) (fun b7=>?_)))
   ·refine qs (qr (oN 1 [(2,vb false)] [] ?_))
    refine oe (nt (qe (nr (br (nr (nr ?_))))))
    have b8:=leafR af b6 aa
    refine br (nr (nr ?_))
    obtain rfl:=sI b8
    exact re [.bool false]
   refine qk (nt (qs (qr (oN 1 [(5,vi 0)] [4,3,1] ?_))))
   refine oe (nt ?_)
   obtain ⟨ca,b9,ab⟩:=bS b7
   obtain ⟨ba,bb,ab⟩:=brkS ab
   refine JC_cutP (τ:=(Int × Int × Int × Int × Int × Int × Int) × (Unit)) (fun y=>ba y.1 = some aq) (fun a4=>[(3,vi a4.1.1),(1,.p 0 0)]) (fun a4=>[(42,(eBook x0 (a0_0,c0_0))),(188,(eRule (Rule.mk a4.1.2.1 a4.1.2.2.1 a4.1.2.2.2.1 a4.1.2.2.2.2.1 a4.1.2.2.2.2.2.1 a4.1.2.2.2.2.2.2 a3.Nodes) (a7,a8)))]) (fun a4=>[]) ?_ (fun a4 bc=>?_)
   ·refine qb (lp Unit b9 (fun a6 ah=>[(5,vi a6),(4,.p 1 0),(3,vi a5),(1,.p 0 0)]) (fun a6 ah=>[(42,(eBook x0 (a0_0,c0_0))),(188,(eRule a3 (a7,a8)))]) (fun a6 ah=>[]) () [5,4,3,1] [] 2 (fun a6 ah cb bd al=>?_))
    refine qs (qs (qr (oN 3 [(24,vb (decide (a6 < a5)))] [5,4,3,1] ?_)))
    refine oe (nt (cC bd (fun be=>?_) (fun bf=>?_)))
    ·refine qk (nt (qs (qb (qs (qr (oN 3 [(29,vi a6),(28,vs a0_0 x0.Rules c0_0)] [5,4,3,1] ?_))))))
     obtain ⟨a9,ai,bg⟩:=bS be
     refine oi 7 (fun _ w hs=>(hv0_0.k hs)) ai ?_
     obtain ⟨_,⟨aj,ak,rfl,cc⟩,bi⟩:=SlView.at hv0_0 (idx_some ai).2.2
     refine ol 188 0 (vRule a9 (aj,ak)) (fun _ w hs=>⟨(hv0_0.k hs).ne (idx_some ai).2.2,bi.kept hs.kept⟩) ?_
     refine oB 2 [(6,.p 2 0)] [5,4,3,1] [(42,(eBook x0 (a0_0,c0_0))),(188,(eRule a3 (a7,a8))),(188,(eRule a9 (aj,ak)))] ?_
     refine oe (nt (qs ?_))
     obtain ⟨bj,bk,bl⟩:=bS bg
     refine JC_cut (τ:=Unit) (fun _=>[(1,.p 0 0),(3,vi a5),(4,.p 1 0),(5,vi a6),(55,vb bj)]) (fun _=>[(42,(eBook x0 (a0_0,c0_0))),(188,(eRule a3 (a7,a8))),(188,(eRule a9 (aj,ak)))]) (fun _=>[]) ?_ (fun _=>?_)
     ·refine qr (oN 6 [(37,vb (a9.Name == a3.Name))] [6,5,4,3,1] ?_)
      refine oS 37 bk (fun bm=>?_) (fun bo=>?_)
      ·refine oN 7 [(44,vb (a9.Rank == a3.Rank))] [6,5,4,3,1] ?_
       refine oS 44 bm (fun bp=>?_) (fun bq=>?_)
       ·refine oN 8 [(52,vi a3.To),(50,vi a3.From),(48,vi a9.To),(46,vi a9.From)] [44,5,4,3,1] ?_
        obtain ⟨bs,bu,bv⟩:=bS bp
        refine k0 (fun _ w hs=>c_spec_MonthsIn bu) ?_
        refine oN 2 [(55,vb (decide (bs > 0)))] [5,4,3,1] ?_
        refine oe ?_
        obtain rfl:=sI bv
        exact mt () [1,3,4,5,55] [] 3
       refine oN 11 [(55,vb false)] [5,4,3,1] ?_
       refine oe ?_
       obtain rfl:=sI bq
       exact mt () [1,3,4,5,55] [] 3
      refine oN 18 [(55,vb false)] [5,4,3,1] ?_
      refine oe ?_
      obtain rfl:=sI bo
      exact mt () [1,3,4,5,55] [] 3
     refine nt (cC bl (fun bw=>?_) (fun bz=>?_))
     ·refine qs (qr (oN 1 [(2,vb false)] [] ?_))
      refine oe (nt (qe (br (nr (nr ?_)))))
      have c3:=leafR al bw ab
      refine br (nr (br (nr (nr ?_))))
      have c4:=leafR af c3 aa
      refine br (nr (nr ?_))
      obtain rfl:=sI c4
      exact re [.bool false]
     refine qk (bn (nt (qr (oN 3 [(5,vi (w64 (a6 + 1)))] [1,3,4] ?_))))
     exact oe (ct bz () [5,4,3,1] [] 2)
    refine qx (nx (nx (bh ?_)))
    have c5:=leafB al bf ab
    exact mp ((a5,a3.Name,a3.From,a3.To,a3.Joined,a3.Rank,a3.Mode),()) c5 [3,1] [] 2
   have c6:=(congrFun bb _).symm.trans bc
   refine bn (nt (qr (oN 3 [(3,vi (w64 (a4.1.1 + 1)))] [1] ?_)))
   exact oe (ct c6 () [3,1] [] 1)
  refine qx (nx (nx (bh ?_)))
  have c7:=leafB af av aa
  exact mp ((),()) c7 [1] [] 1
 have c8:=(congrFun ao _).symm.trans ap
 refine nt (qs (qr (oN 5 [(2,vb (decide ((x0.Rules.length : Int) ≤ 20)))] [] ?_)))
 refine oe (nt (qe ?_))
 obtain rfl:=sI c8
 exact re [.bool (decide ((x0.Rules.length : Int) ≤ 20))]
theorem c_spec_MonthOk {W : World} {x0 : Int} {r : Bool} (h : spec_MonthOk x0 = some r)  :
  Gives0 Tryz.prog 89 #[.int .i64 x0] W (.bool r):=by
 unfold spec_MonthOk at h
 refine en Tryz.func89 Tryz.ntmps89 ?_
 refine qs (qr (oN 1 [] [0] ?_))
 refine oe (nt (qs (qr (oN 1 [(3,vi x0)] [] ?_))))
 obtain ⟨a3,a4,a5⟩:=bS h
 refine k0 (fun _ w hs=>c_spec_l01In a4) ?_
 refine oN 1 [(2,vb a3)] [] ?_
 refine oe (nt (qe ?_))
 obtain rfl:=sI a5
 exact re [.bool a3]
theorem c_spec_FactOk {W : World} {x0 : Fact} {r : Bool} (h : spec_FactOk x0 = some r)  :
  Gives0 Tryz.prog 168 #[vFact x0] W (.bool r):=by
 unfold spec_FactOk at h
 refine en Tryz.func168 Tryz.ntmps168 ?_
 refine qs (qr (oB 2 [(1,.p 0 0)] [] [(84,(eFact x0))] ?_))
 refine oe (nt (qs ?_))
 obtain ⟨a3,a4,a5⟩:=bS h
 refine JC_cut (τ:=Unit) (fun _=>[(2,vb a3)]) (fun _=>[(84,(eFact x0))]) (fun _=>[]) ?_ (fun _=>?_)
 ·refine qr (oN 2 [(4,vi x0.Key)] [1] ?_)
  obtain ⟨a6,a7,a8⟩:=bS a4
  refine k0 (fun _ w hs=>c_spec_l01In a7) ?_
  refine oN 1 [(6,vb a6)] [1] ?_
  refine oS 6 a8 (fun a9=>?_) (fun aa=>?_)
  ·refine oN 5 [(11,vb (decide (x0.From ≥ 0)))] [1] ?_
   refine oS 11 a9 (fun ab=>?_) (fun ac=>?_)
   ·refine oN 7 [(18,vb (decide (x0.From < x0.To)))] [1] ?_
    refine oS 18 ab (fun ae=>?_) (fun af=>?_)
    ·refine oN 5 [(23,vb (decide (x0.To ≤ 3600)))] [1] ?_
     refine oS 23 ae (fun ag=>?_) (fun ah=>?_)
     ·refine oN 2 [(25,vi x0.Known)] [23,1] ?_
      obtain ⟨ai,aj,ak⟩:=bS ag
      refine k0 (fun _ w hs=>c_spec_MonthOk aj) ?_
      refine oN 2 [(28,vb ai)] [1] ?_
      refine oS 28 ak (fun al=>?_) (fun am=>?_)
      ·refine oN 2 [(30,vi x0.Value)] [28] ?_
       obtain ⟨an,ao,ap⟩:=bS al
       refine k0 (fun _ w hs=>c_spec_l01In ao) ?_
       refine oN 2 [(2,vb an)] [] ?_
       refine oe ?_
       obtain rfl:=sI ap
       exact mt () [2] [] 1
      refine oN 5 [(2,vb false)] [] ?_
      refine oe ?_
      obtain rfl:=sI am
      exact mt () [2] [] 1
     refine oN 10 [(2,vb false)] [] ?_
     refine oe ?_
     obtain rfl:=sI ah
     exact mt () [2] [] 1
    refine oN 15 [(2,vb false)] [] ?_
    refine oe ?_
    obtain rfl:=sI af
    exact mt () [2] [] 1
   refine oN 22 [(2,vb false)] [] ?_
   refine oe ?_
   obtain rfl:=sI ac
   exact mt () [2] [] 1
  refine oN 27 [(2,vb false)] [] ?_
  refine oe ?_
  obtain rfl:=sI aa
  exact mt () [2] [] 1
 refine nt (qe ?_)
 obtain rfl:=sI a5
 exact re [.bool a3]
theorem c_spec_StoreOk {W : World} {x0 : Store} {a0_0 : Option Addr} {c0_0 : Nat} {r : Bool} (h : spec_StoreOk x0 = some r) (hv0_0 : SlView W x0.Facts a0_0 c0_0) :
  Gives0 Tryz.prog 131 #[vStore x0 (a0_0,c0_0)] W (.bool r):=by
 unfold spec_StoreOk at h
 refine en Tryz.func131 Tryz.ntmps131 ?_
 refine qs (qr (oB 2 [(1,.p 0 0)] [] [(45,(eStore x0 (a0_0,c0_0)))] ?_))
 refine oe (nt (qs (qs (qr (oN 1 [(3,vi 0)] [1] ?_)))))
 refine oe (nt ?_)
 obtain ⟨ba,ae,a4⟩:=bS h
 obtain ⟨af,ag,a4⟩:=brkS a4
 refine JC_cutP (τ:=(Unit) × (Unit)) (fun y=>af y.1 = some r) (fun a5=>[(1,.p 0 0)]) (fun a5=>[(45,(eStore x0 (a0_0,c0_0)))]) (fun a5=>[]) ?_ (fun a5 ah=>?_)
 ·refine qb (lp Unit ae (fun a3 a6=>[(3,vi a3),(1,.p 0 0)]) (fun a3 a6=>[(45,(eStore x0 (a0_0,c0_0)))]) (fun a3 a6=>[]) () [3,1] [] 1 (fun a3 a6 bb ai a7=>?_))
  refine qs (qs (qr (oN 5 [(8,vb (decide (a3 < (x0.Facts.length : Int))))] [3,1] ?_)))
  refine oe (nt (cC ai (fun aj=>?_) (fun ak=>?_)))
  ·refine qk (nt (qs (qb (qs ?_))))
   obtain ⟨al,am,an⟩:=bS aj
   refine JC_cut (τ:=Unit) (fun _=>[(1,.p 0 0),(3,vi a3),(37,vb al)]) (fun _=>[(45,(eStore x0 (a0_0,c0_0)))]) (fun _=>[]) ?_ (fun _=>?_)
   ·refine JC_quiet (by kernel_rfl) (by kernel_rfl) ?_
    refine qN 3 [(13,vi a3),(12,vs a0_0 x0.Facts c0_0)] [3,1] ?_
    obtain ⟨ao,a8,ap⟩:=bS am
    refine qi 5 (fun _ w hs=>(hv0_0.k hs)) a8 ?_
    refine ql 84 0 (vFact ao) (fun _ w hs=>(hv0_0.k hs).flatq a8) ?_
    obtain ⟨aq,ar,au⟩:=bS ap
    refine q0 (fun _ w hs=>c_spec_FactOk ar) ?_
    refine qN 2 [(18,vb (!aq))] [3,1] ?_
    refine qS 18 au (fun av=>?_) (fun aw=>?_)
    ·refine qN 19 [(37,vb true)] [3,1] ?_
     refine qz ?_
     obtain rfl:=sI av
     exact mt () [1,3,37] [] 1
    refine qN 3 [(21,vb (decide (a3 > 0)))] [18,3,1] ?_
    refine qS 21 aw (fun ax=>?_) (fun ay=>?_)
    ·refine qN 4 [(25,vi (w64 (a3 - 1))),(23,vs a0_0 x0.Facts c0_0)] [21,18,3,1] ?_
     obtain ⟨a9,aa,az⟩:=bS ax
     refine qi 5 (fun _ w hs=>(hv0_0.k hs)) aa ?_
     refine qN 1 [(27,.q a0_0 (Int.toNat (w64 (a3 - 1)) * 5 + 3))] [21,18,3,1] ?_
     refine ql 3 3 (.int .i64 a9.Known) (fun _ w hs=>(hv0_0.k hs).flatq aa) ?_
     refine qN 3 [(31,vi a3),(30,vs a0_0 x0.Facts c0_0)] [28,21,18,3,1] ?_
     obtain ⟨ab,ac,b4⟩:=bS az
     refine qi 5 (fun _ w hs=>(hv0_0.k hs)) ac ?_
     refine qN 1 [(33,.q a0_0 (Int.toNat a3 * 5 + 3))] [28,21,18,3,1] ?_
     refine ql 3 3 (.int .i64 ab.Known) (fun _ w hs=>(hv0_0.k hs).flatq ac) ?_
     refine qN 3 [(37,vb (decide (a9.Known > ab.Known)))] [3,1] ?_
     refine qz ?_
     obtain rfl:=sI b4
     exact mt () [1,3,37] [] 1
    refine qN 16 [(37,vb false)] [3,1] ?_
    refine qz ?_
    obtain rfl:=sI ay
    exact mt () [1,3,37] [] 1
   refine nt (cC an (fun b5=>?_) (fun b6=>?_))
   ·refine qs (qr (oN 1 [(2,vb false)] [] ?_))
    refine oe (nt (qe (br (nr (nr ?_)))))
    have b7:=leafR a7 b5 a4
    refine br (nr (nr ?_))
    obtain rfl:=sI b7
    exact re [.bool false]
   refine qk (bn (nt (qr (oN 3 [(3,vi (w64 (a3 + 1)))] [1] ?_))))
   exact oe (ct b6 () [3,1] [] 1)
  refine qx (nx (nx (bh ?_)))
  have b8:=leafB a7 ak a4
  exact mp ((),()) b8 [1] [] 1
 have b9:=(congrFun ag _).symm.trans ah
 refine nt (qs (qr (oN 5 [(2,vb (decide ((x0.Facts.length : Int) ≤ 200)))] [] ?_)))
 refine oe (nt (qe ?_))
 obtain rfl:=sI b9
 exact re [.bool (decide ((x0.Facts.length : Int) ≤ 200))]
theorem c_spec_SeriesOk {W : World} {x0 : Series} {a0_0 : Option Addr} {c0_0 : Nat} {r : Bool} (h : spec_SeriesOk x0 = some r) (hv0_0 : SlView W x0.Points a0_0 c0_0) :
  Gives0 Tryz.prog 135 #[vSeries x0 (a0_0,c0_0)] W (.bool r):=by
 unfold spec_SeriesOk at h
 refine en Tryz.func135 Tryz.ntmps135 ?_
 refine qs (qr (oB 2 [(1,.p 0 0)] [] [(48,(eSeries x0 (a0_0,c0_0)))] ?_))
 refine oe (nt (qs (qs (qr (oN 1 [(3,vi 0)] [1] ?_)))))
 refine oe (nt ?_)
 obtain ⟨bk,ac,a5⟩:=bS h
 obtain ⟨ae,af,a5⟩:=brkS a5
 refine JC_cutP (τ:=(Unit) × (Unit)) (fun y=>ae y.1 = some r) (fun a6=>[(1,.p 0 0)]) (fun a6=>[(48,(eSeries x0 (a0_0,c0_0)))]) (fun a6=>[]) ?_ (fun a6 ag=>?_)
 ·refine qb (lp Unit ac (fun a3 a7=>[(3,vi a3),(1,.p 0 0)]) (fun a3 a7=>[(48,(eSeries x0 (a0_0,c0_0)))]) (fun a3 a7=>[]) () [3,1] [] 1 (fun a3 a7 bl ah a8=>?_))
  refine qs (qs (qr (oN 5 [(9,vb (decide (a3 < (x0.Points.length : Int))))] [3,1] ?_)))
  refine oe (nt (cC ah (fun ai=>?_) (fun aj=>?_)))
  ·refine qk (nt (qs (qb (qs (qr (oN 3 [(14,vi a3),(13,vs a0_0 x0.Points c0_0)] [3,1] ?_))))))
   obtain ⟨a4,a9,ak⟩:=bS ai
   refine oi 3 (fun _ w hs=>(hv0_0.k hs)) a9 ?_
   refine ol 85 0 (vPoint a4) (fun _ w hs=>(hv0_0.k hs).flatq a9) ?_
   refine oB 2 [(4,.p 1 0)] [3,1] [(48,(eSeries x0 (a0_0,c0_0))),(85,(ePoint a4))] ?_
   refine oe (nt (qs ?_))
   obtain ⟨al,am,an⟩:=bS ak
   refine JC_cut (τ:=Unit) (fun _=>[(1,.p 0 0),(3,vi a3),(55,vb al)]) (fun _=>[(48,(eSeries x0 (a0_0,c0_0))),(85,(ePoint a4))]) (fun _=>[]) ?_ (fun _=>?_)
   ·refine JC_quiet (by kernel_rfl) (by kernel_rfl) ?_
    refine qN 2 [(18,vi a4.Month)] [4,3,1] ?_
    obtain ⟨ao,ap,aq⟩:=bS am
    refine q0 (fun _ w hs=>c_spec_MonthOk ap) ?_
    refine qN 2 [(21,vb (!ao))] [4,3,1] ?_
    refine qS 21 aq (fun ar=>?_) (fun au=>?_)
    ·refine qN 34 [(55,vb true)] [3,1] ?_
     refine qz ?_
     obtain rfl:=sI ar
     exact mt () [1,3,55] [] 2
    refine qN 2 [(23,vi a4.Known)] [21,4,3,1] ?_
    obtain ⟨av,aw,ax⟩:=bS au
    refine q0 (fun _ w hs=>c_spec_MonthOk aw) ?_
    refine qN 3 [(27,vb (!av))] [4,3,1] ?_
    refine qS 27 ax (fun ay=>?_) (fun az=>?_)
    ·refine qN 28 [(55,vb true)] [3,1] ?_
     refine qz ?_
     obtain rfl:=sI ay
     exact mt () [1,3,55] [] 2
    refine qN 7 [(34,vb (decide (a4.Known < a4.Month)))] [4,3,1] ?_
    refine qS 34 az (fun b4=>?_) (fun b5=>?_)
    ·refine qN 21 [(55,vb true)] [3,1] ?_
     refine qz ?_
     obtain rfl:=sI b4
     exact mt () [1,3,55] [] 2
    refine qN 2 [(36,vi a4.Value)] [34,4,3,1] ?_
    obtain ⟨b6,b7,b8⟩:=bS b5
    refine q0 (fun _ w hs=>c_spec_l01In b7) ?_
    refine qN 3 [(40,vb (!b6))] [4,3,1] ?_
    refine qS 40 b8 (fun b9=>?_) (fun ba=>?_)
    ·refine qN 15 [(55,vb true)] [3,1] ?_
     refine qz ?_
     obtain rfl:=sI b9
     exact mt () [1,3,55] [] 2
    refine qN 3 [(43,vb (decide (a3 > 0)))] [40,4,3,1] ?_
    refine qS 43 ba (fun bb=>?_) (fun bc=>?_)
    ·refine qN 4 [(47,vi (w64 (a3 - 1))),(45,vs a0_0 x0.Points c0_0)] [43,40,4,3,1] ?_
     obtain ⟨aa,ab,bd⟩:=bS bb
     refine qi 3 (fun _ w hs=>(hv0_0.k hs)) ab ?_
     refine qN 1 [(49,.q a0_0 (Int.toNat (w64 (a3 - 1)) * 3 + 1))] [43,40,4,3,1] ?_
     refine ql 3 1 (.int .i64 aa.Known) (fun _ w hs=>(hv0_0.k hs).flatq ab) ?_
     refine qN 5 [(55,vb (decide (aa.Known > a4.Known)))] [3,1] ?_
     refine qz ?_
     obtain rfl:=sI bd
     exact mt () [1,3,55] [] 2
    refine qN 12 [(55,vb false)] [3,1] ?_
    refine qz ?_
    obtain rfl:=sI bc
    exact mt () [1,3,55] [] 2
   refine nt (cC an (fun be=>?_) (fun bf=>?_))
   ·refine qs (qr (oN 1 [(2,vb false)] [] ?_))
    refine oe (nt (qe (br (nr (nr ?_)))))
    have bg:=leafR a8 be a5
    refine br (nr (nr ?_))
    obtain rfl:=sI bg
    exact re [.bool false]
   refine qk (bn (nt (qr (oN 3 [(3,vi (w64 (a3 + 1)))] [1] ?_))))
   exact oe (ct bf () [3,1] [] 1)
  refine qx (nx (nx (bh ?_)))
  have bi:=leafB a8 aj a5
  exact mp ((),()) bi [1] [] 1
 have bj:=(congrFun af _).symm.trans ag
 refine nt (qs (qr (oN 5 [(2,vb (decide ((x0.Points.length : Int) ≤ 200)))] [] ?_)))
 refine oe (nt (qe ?_))
 obtain rfl:=sI bj
 exact re [.bool (decide ((x0.Points.length : Int) ≤ 200))]
theorem c_spec_SpellsOk {W : World} {x0 : List Spell} {a0_0 : Option Addr} {c0_0 : Nat} {r : Bool} (h : spec_SpellsOk x0 = some r) (hv0_0 : SlView W x0 a0_0 c0_0) :
  Gives0 Tryz.prog 172 #[.slice a0_0 x0.length c0_0] W (.bool r):=by
 unfold spec_SpellsOk at h
 refine en Tryz.func172 Tryz.ntmps172 ?_
 refine qs (qr (oN 1 [] [0] ?_))
 refine oe (nt (qs (qs (qr (oN 1 [(3,vi 0)] [0] ?_)))))
 refine oe (nt ?_)
 obtain ⟨bd,ac,a5⟩:=bS h
 obtain ⟨ae,af,a5⟩:=brkS a5
 refine JC_cutP (τ:=(Unit) × (Unit)) (fun y=>ae y.1 = some r) (fun a6=>[(0,vs a0_0 x0 c0_0)]) (fun a6=>[]) (fun a6=>[]) ?_ (fun a6 ag=>?_)
 ·refine qb (lp Unit ac (fun a3 a7=>[(3,vi a3),(0,vs a0_0 x0 c0_0)]) (fun a3 a7=>[]) (fun a3 a7=>[]) () [3,0] [] 0 (fun a3 a7 be ah a8=>?_))
  refine qs (qs (qr (oN 4 [(8,vb (decide (a3 < (x0.length : Int))))] [3,0] ?_)))
  refine oe (nt (cC ah (fun ai=>?_) (fun aj=>?_)))
  ·refine qk (nt (qs (qb (qs (qr (oN 2 [(12,vi a3),(11,vs a0_0 x0 c0_0)] [3,0] ?_))))))
   obtain ⟨a4,a9,ak⟩:=bS ai
   refine oi 4 (fun _ w hs=>(hv0_0.k hs)) a9 ?_
   refine ol 191 0 (vSpell a4) (fun _ w hs=>(hv0_0.k hs).flatq a9) ?_
   refine oB 2 [(4,.p 0 0)] [3,0] [(191,(eSpell a4))] ?_
   refine oe (nt (qs ?_))
   obtain ⟨al,am,an⟩:=bS ak
   refine JC_cut (τ:=Unit) (fun _=>[(0,vs a0_0 x0 c0_0),(3,vi a3),(50,vb al)]) (fun _=>[(191,(eSpell a4))]) (fun _=>[]) ?_ (fun _=>?_)
   ·refine JC_quiet (by kernel_rfl) (by kernel_rfl) ?_
    refine qN 4 [(18,vb (decide (a4.From < 0)))] [4,3,0] ?_
    refine qS 18 am (fun ao=>?_) (fun ap=>?_)
    ·refine qN 32 [(50,vb true)] [3,0] ?_
     refine qz ?_
     obtain rfl:=sI ao
     exact mt () [0,3,50] [] 1
    refine qN 7 [(25,vb (decide (a4.From ≥ a4.To)))] [4,3,0] ?_
    refine qS 25 ap (fun aq=>?_) (fun ar=>?_)
    ·refine qN 25 [(50,vb true)] [3,0] ?_
     refine qz ?_
     obtain rfl:=sI aq
     exact mt () [0,3,50] [] 1
    refine qN 5 [(30,vb (decide (a4.To > 3600)))] [4,3,0] ?_
    refine qS 30 ar (fun au=>?_) (fun av=>?_)
    ·refine qN 20 [(50,vb true)] [3,0] ?_
     refine qz ?_
     obtain rfl:=sI au
     exact mt () [0,3,50] [] 1
    refine qN 2 [(32,vi a4.Percent)] [30,4,3,0] ?_
    obtain ⟨aw,ax,ay⟩:=bS av
    refine q0 (fun _ w hs=>c_spec_l01In ax) ?_
    refine qN 3 [(36,vb (!aw))] [4,3,0] ?_
    refine qS 36 ay (fun az=>?_) (fun b4=>?_)
    ·refine qN 14 [(50,vb true)] [3,0] ?_
     refine qz ?_
     obtain rfl:=sI az
     exact mt () [0,3,50] [] 1
    refine qN 3 [(39,vb (decide (a3 > 0)))] [36,4,3,0] ?_
    refine qS 39 b4 (fun b5=>?_) (fun b6=>?_)
    ·refine qN 3 [(42,vi (w64 (a3 - 1))),(40,vs a0_0 x0 c0_0)] [39,36,4,3,0] ?_
     obtain ⟨aa,ab,b7⟩:=bS b5
     refine qi 4 (fun _ w hs=>(hv0_0.k hs)) ab ?_
     refine qN 1 [(44,.q a0_0 (Int.toNat (w64 (a3 - 1)) * 4 + 1))] [39,36,4,3,0] ?_
     refine ql 3 1 (.int .i64 aa.To) (fun _ w hs=>(hv0_0.k hs).flatq ab) ?_
     refine qN 5 [(50,vb (decide (aa.To > a4.From)))] [3,0] ?_
     refine qz ?_
     obtain rfl:=sI b7
     exact mt () [0,3,50] [] 1
    refine qN 11 [(50,vb false)] [3,0] ?_
    refine qz ?_
    obtain rfl:=sI b6
    exact mt () [0,3,50] [] 1
   refine nt (cC an (fun b8=>?_) (fun b9=>?_))
   ·refine qs (qr (oN 1 [(2,vb false)] [] ?_))
    refine oe (nt (qe (br (nr (nr ?_)))))
    have ba:=leafR a8 b8 a5
    refine br (nr (nr ?_))
    obtain rfl:=sI ba
    exact re [.bool false]
   refine qk (bn (nt (qr (oN 3 [(3,vi (w64 (a3 + 1)))] [0] ?_))))
   exact oe (ct b9 () [3,0] [] 0)
  refine qx (nx (nx (bh ?_)))
  have bb:=leafB a8 aj a5
  exact mp ((),()) bb [0] [] 0
 have bc:=(congrFun af _).symm.trans ag
 refine nt (qs (qr (oN 4 [(2,vb (decide ((x0.length : Int) ≤ 30)))] [] ?_)))
 refine oe (nt (qe ?_))
 obtain rfl:=sI bc
 exact re [.bool (decide ((x0.length : Int) ≤ 30))]
theorem c_spec_StatusAfter {W : World} {x0 : Int} {x1 : Int} {r : Int × Bool} (h : spec_StatusAfter x0 x1 = some r)  :
  Gives0 Tryz.prog 193 #[.int .i64 x0,.int .i64 x1] W (.tuple #[.int .i64 r.1,.bool r.2]):=by
 unfold spec_StatusAfter at h
 refine en Tryz.func193 Tryz.ntmps193 ?_
 refine qs (qr (oN 2 [] [0,1] ?_))
 refine oe (nt (qs (qb (qs ?_))))
 obtain ⟨a3,a4,a5⟩:=bS h
 refine JC_cut (τ:=Unit) (fun _=>[(0,vi x0),(1,vi x1),(6,vb a3)]) (fun _=>[]) (fun _=>[]) ?_ (fun _=>?_)
 ·refine qr (oN 3 [(9,vb (x1 == 1))] [0,1] ?_)
  refine oS 9 a4 (fun a6=>?_) (fun a7=>?_)
  ·refine oN 3 [(12,vb (x0 == 0))] [9,0,1] ?_
   refine oS 12 a6 (fun a8=>?_) (fun a9=>?_)
   ·refine oN 5 [(6,vb true)] [0,1] ?_
    refine oe ?_
    obtain rfl:=sI a8
    exact mt () [0,1,6] [] 0
   refine oN 5 [(6,vb (x0 == 2))] [0,1] ?_
   refine oe ?_
   obtain rfl:=sI a9
   exact mt () [0,1,6] [] 0
  refine oN 8 [(6,vb false)] [0,1] ?_
  refine oe ?_
  obtain rfl:=sI a7
  exact mt () [0,1,6] [] 0
 refine nt (cC a5 (fun aa=>?_) (fun ab=>?_))
 ·refine qs (qr (oN 2 [(5,vb true),(4,vi 1)] [] ?_))
  refine oe (nt (qe (br (nr ?_))))
  obtain rfl:=sI aa
  exact re [.int .i64 1,.bool true]
 refine qs ?_
 obtain ⟨ac,ae,af⟩:=bS ab
 refine JC_cut (τ:=Unit) (fun _=>[(0,vi x0),(1,vi x1),(17,vb ac)]) (fun _=>[]) (fun _=>[]) ?_ (fun _=>?_)
 ·refine qr (oN 3 [(20,vb (x1 == 2))] [0,1] ?_)
  refine oS 20 ae (fun ag=>?_) (fun ah=>?_)
  ·refine oN 4 [(17,vb (x0 == 1))] [0,1] ?_
   refine oe ?_
   obtain rfl:=sI ag
   exact mt () [0,1,17] [] 0
  refine oN 4 [(17,vb false)] [0,1] ?_
  refine oe ?_
  obtain rfl:=sI ah
  exact mt () [0,1,17] [] 0
 refine nt (cC af (fun ai=>?_) (fun aj=>?_))
 ·refine qs (qr (oN 2 [(5,vb true),(4,vi 2)] [] ?_))
  refine oe (nt (qe (br (nr ?_))))
  obtain rfl:=sI ai
  exact re [.int .i64 2,.bool true]
 refine qs ?_
 obtain ⟨ak,al,am⟩:=bS aj
 refine JC_cut (τ:=Unit) (fun _=>[(0,vi x0),(1,vi x1),(24,vb ak)]) (fun _=>[]) (fun _=>[]) ?_ (fun _=>?_)
 ·refine qr (oN 3 [(27,vb (x1 == 3))] [0,1] ?_)
  refine oS 27 al (fun an=>?_) (fun ao=>?_)
  ·refine oN 3 [(30,vb (x0 == 1))] [27,0,1] ?_
   refine oS 30 an (fun ap=>?_) (fun aq=>?_)
   ·refine oN 5 [(24,vb true)] [0,1] ?_
    refine oe ?_
    obtain rfl:=sI ap
    exact mt () [0,1,24] [] 0
   refine oN 5 [(24,vb (x0 == 2))] [0,1] ?_
   refine oe ?_
   obtain rfl:=sI aq
   exact mt () [0,1,24] [] 0
  refine oN 8 [(24,vb false)] [0,1] ?_
  refine oe ?_
  obtain rfl:=sI ao
  exact mt () [0,1,24] [] 0
 refine nt (cC am (fun ar=>?_) (fun au=>?_))
 ·refine qs (qr (oN 2 [(5,vb true),(4,vi 3)] [] ?_))
  refine oe (nt (qe (br (nr ?_))))
  obtain rfl:=sI ar
  exact re [.int .i64 3,.bool true]
 refine qs ?_
 obtain ⟨av,aw,ax⟩:=bS au
 refine JC_cut (τ:=Unit) (fun _=>[(0,vi x0),(35,vb av)]) (fun _=>[]) (fun _=>[]) ?_ (fun _=>?_)
 ·refine qr (oN 3 [(38,vb (x1 == 4))] [0] ?_)
  refine oS 38 aw (fun ay=>?_) (fun az=>?_)
  ·refine oN 1 [(39,vi x0)] [38,0] ?_
   obtain ⟨b4,b5,b6⟩:=bS ay
   refine k0 (fun _ w hs=>c_spec_l01In b5) ?_
   refine oN 2 [(35,vb b4)] [0] ?_
   refine oe ?_
   obtain rfl:=sI b6
   exact mt () [0,35] [] 0
  refine oN 4 [(35,vb false)] [0] ?_
  refine oe ?_
  obtain rfl:=sI az
  exact mt () [0,35] [] 0
 refine nt (cC ax (fun b7=>?_) (fun b8=>?_))
 ·refine qs (qr (oN 2 [(5,vb true),(4,vi 4)] [] ?_))
  refine oe (nt (qe (br (nr ?_))))
  obtain rfl:=sI b7
  exact re [.int .i64 4,.bool true]
 refine qk (bn (nt (qs (qr (oN 3 [(5,vb false),(4,vi x0)] [] ?_)))))
 refine oe (nt (qe ?_))
 obtain rfl:=sI b8
 exact re [.int .i64 x0,.bool false]
theorem c_spec_EventsOk {W : World} {x0 : List Event} {a0_0 : Option Addr} {c0_0 : Nat} {r : Bool} (h : spec_EventsOk x0 = some r) (hv0_0 : SlView W x0 a0_0 c0_0) :
  Gives0 Tryz.prog 173 #[.slice a0_0 x0.length c0_0] W (.bool r):=by
 unfold spec_EventsOk at h
 refine en Tryz.func173 Tryz.ntmps173 ?_
 refine qs (qr (oN 1 [] [0] ?_))
 refine oe (nt (qs (qr (oN 1 [(3,vi 0)] [0] ?_))))
 refine oe (nt (qs (qs (qr (oN 1 [(4,vi 0)] [3,0] ?_)))))
 refine oe (nt ?_)
 obtain ⟨bj,ag,a5⟩:=bS h
 obtain ⟨ah,ai,a5⟩:=brkS a5
 refine JC_cutP (τ:=(Unit) × (Unit)) (fun y=>ah y.1 = some r) (fun a6=>[(0,vs a0_0 x0 c0_0)]) (fun a6=>[]) (fun a6=>[]) ?_ (fun a6 aj=>?_)
 ·refine qb (lp Unit ag (fun a3 a7=>[(4,vi a3.1),(3,vi a3.2),(0,vs a0_0 x0 c0_0)]) (fun a3 a7=>[]) (fun a3 a7=>[]) () [4,3,0] [] 0 (fun a3 a7 bk ak a8=>?_))
  refine qs (qs (qr (oN 4 [(10,vb (decide (a3.1 < (x0.length : Int))))] [4,3,0] ?_)))
  refine oe (nt (cC ak (fun al=>?_) (fun am=>?_)))
  ·refine qk (nt (qs (qb (qs (qr (oN 3 [(16,vi a3.1),(15,vs a0_0 x0 c0_0),(14,vi a3.2)] [4,0] ?_))))))
   obtain ⟨an,a9,ao⟩:=bS al
   refine oi 2 (fun _ w hs=>(hv0_0.k hs)) a9 ?_
   refine oN 1 [(18,.q a0_0 (Int.toNat a3.1 * 2))] [14,4,0] ?_
   refine ol 3 0 (.int .i64 an.Kind) (fun _ w hs=>(hv0_0.k hs).flatq a9) ?_
   obtain ⟨a4,ap,aq⟩:=bS ao
   refine k0 (fun _ w hs=>c_spec_StatusAfter ap) ?_
   refine oN 5 [(6,vb a4.2),(5,vi a4.1)] [4,0] ?_
   refine oe (nt (qs (qs ?_)))
   obtain ⟨ar,au,av⟩:=bS aq
   refine JC_cut (τ:=Unit) (fun _=>[(0,vs a0_0 x0 c0_0),(4,vi a3.1),(5,vi a4.1),(51,vb ar)]) (fun _=>[]) (fun _=>[]) ?_ (fun _=>?_)
   ·refine JC_quiet (by kernel_rfl) (by kernel_rfl) ?_
    refine qN 3 [(25,vb (!a4.2))] [5,4,0] ?_
    refine qS 25 au (fun aw=>?_) (fun ax=>?_)
    ·refine qN 26 [(51,vb true)] [5,4,0] ?_
     refine qz ?_
     obtain rfl:=sI aw
     exact mt () [0,4,5,51] [] 0
    refine qN 2 [(27,vi a3.1),(26,vs a0_0 x0 c0_0)] [25,5,4,0] ?_
    obtain ⟨ay,aa,az⟩:=bS ax
    refine qi 2 (fun _ w hs=>(hv0_0.k hs)) aa ?_
    refine qN 1 [(29,.q a0_0 (Int.toNat a3.1 * 2 + 1))] [25,5,4,0] ?_
    refine ql 3 1 (.int .i64 ay.Month) (fun _ w hs=>(hv0_0.k hs).flatq aa) ?_
    obtain ⟨b4,b5,b6⟩:=bS az
    refine q0 (fun _ w hs=>c_spec_MonthOk b5) ?_
    refine qN 3 [(34,vb (!b4))] [5,4,0] ?_
    refine qS 34 b6 (fun b7=>?_) (fun b8=>?_)
    ·refine qN 17 [(51,vb true)] [5,4,0] ?_
     refine qz ?_
     obtain rfl:=sI b7
     exact mt () [0,4,5,51] [] 0
    refine qN 3 [(37,vb (decide (a3.1 > 0)))] [34,5,4,0] ?_
    refine qS 37 b8 (fun b9=>?_) (fun ba=>?_)
    ·refine qN 3 [(40,vi (w64 (a3.1 - 1))),(38,vs a0_0 x0 c0_0)] [37,34,5,4,0] ?_
     obtain ⟨ab,ac,bb⟩:=bS b9
     refine qi 2 (fun _ w hs=>(hv0_0.k hs)) ac ?_
     refine qN 1 [(42,.q a0_0 (Int.toNat (w64 (a3.1 - 1)) * 2 + 1))] [37,34,5,4,0] ?_
     refine ql 3 1 (.int .i64 ab.Month) (fun _ w hs=>(hv0_0.k hs).flatq ac) ?_
     refine qN 2 [(45,vi a3.1),(44,vs a0_0 x0 c0_0)] [43,37,34,5,4,0] ?_
     obtain ⟨ae,af,bc⟩:=bS bb
     refine qi 2 (fun _ w hs=>(hv0_0.k hs)) af ?_
     refine qN 1 [(47,.q a0_0 (Int.toNat a3.1 * 2 + 1))] [43,37,34,5,4,0] ?_
     refine ql 3 1 (.int .i64 ae.Month) (fun _ w hs=>(hv0_0.k hs).flatq af) ?_
     refine qN 3 [(51,vb (decide (ab.Month ≥ ae.Month)))] [5,4,0] ?_
     refine qz ?_
     obtain rfl:=sI bc
     exact mt () [0,4,5,51] [] 0
    refine qN 14 [(51,vb false)] [5,4,0] ?_
    refine qz ?_
    obtain rfl:=sI ba
    exact mt () [0,4,5,51] [] 0
   refine nt (cC av (fun bd=>?_) (fun be=>?_))
   ·refine qs (qr (oN 1 [(2,vb false)] [] ?_))
    refine oe (nt (qe (nr (br (nr (nr ?_))))))
    have bf:=leafR a8 bd a5
    refine br (nr (nr ?_))
    obtain rfl:=sI bf
    exact re [.bool false]
   refine qk (nt (qr (oN 2 [(3,vi a4.1)] [0,4] ?_)))
   refine oe (bn (nt (qr (oN 3 [(4,vi (w64 (a3.1 + 1)))] [3,0] ?_))))
   exact oe (ct be () [4,3,0] [] 0)
  refine qx (nx (nx (bh ?_)))
  have bg:=leafB a8 am a5
  exact mp ((),()) bg [0] [] 0
 have bi:=(congrFun ai _).symm.trans aj
 refine nt (qs (qr (oN 4 [(2,vb (decide ((x0.length : Int) ≤ 30)))] [] ?_)))
 refine oe (nt (qe ?_))
 obtain rfl:=sI bi
 exact re [.bool (decide ((x0.length : Int) ≤ 30))]
theorem c_spec_MemberOk {W : World} {x0 : Member} {b0 : AC × AC} {r : Bool} (h : spec_MemberOk x0 = some r) (hv0_0 : SlView W x0.Spells b0.1.1 b0.1.2) (hv0_1 : SlView W x0.Events b0.2.1 b0.2.2) :
  Gives0 Tryz.prog 140 #[vMember x0 b0] W (.bool r):=by
 unfold spec_MemberOk at h
 refine en Tryz.func140 Tryz.ntmps140 ?_
 refine qs (qr (oB 2 [(1,.p 0 0)] [] [(52,(eMember x0 b0))] ?_))
 refine oe (nt (qs ?_))
 obtain ⟨a3,a4,a5⟩:=bS h
 refine JC_cut (τ:=Unit) (fun _=>[(2,vb a3)]) (fun _=>[(52,(eMember x0 b0))]) (fun _=>[]) ?_ (fun _=>?_)
 ·refine qr (oN 2 [(4,vi x0.Birth)] [1] ?_)
  obtain ⟨a6,a7,a8⟩:=bS a4
  refine k0 (fun _ w hs=>c_spec_MonthOk a7) ?_
  refine oN 1 [(6,vb a6)] [1] ?_
  refine oS 6 a8 (fun a9=>?_) (fun aa=>?_)
  ·refine oN 2 [(8,vi x0.Joined)] [6,1] ?_
   obtain ⟨ab,ac,ae⟩:=bS a9
   refine k0 (fun _ w hs=>c_spec_MonthOk ac) ?_
   refine oN 2 [(11,vb ab)] [1] ?_
   refine oS 11 ae (fun af=>?_) (fun ag=>?_)
   ·refine oN 7 [(18,vb (decide (x0.Birth ≤ x0.Joined)))] [1] ?_
    refine oS 18 af (fun ah=>?_) (fun ai=>?_)
    ·refine oN 2 [(20,sv b0.1 x0.Spells)] [18,1] ?_
     obtain ⟨aj,ak,al⟩:=bS ah
     refine k0 (fun _ w hs=>c_spec_SpellsOk ak (hv0_0.k hs)) ?_
     refine oN 2 [(23,vb aj)] [1] ?_
     refine oS 23 al (fun am=>?_) (fun an=>?_)
     ·refine oN 2 [(25,sv b0.2 x0.Events)] [23] ?_
      obtain ⟨ao,ap,aq⟩:=bS am
      refine k0 (fun _ w hs=>c_spec_EventsOk ap (hv0_1.k hs)) ?_
      refine oN 2 [(2,vb ao)] [] ?_
      refine oe ?_
      obtain rfl:=sI aq
      exact mt () [2] [] 1
     refine oN 5 [(2,vb false)] [] ?_
     refine oe ?_
     obtain rfl:=sI an
     exact mt () [2] [] 1
    refine oN 10 [(2,vb false)] [] ?_
    refine oe ?_
    obtain rfl:=sI ai
    exact mt () [2] [] 1
   refine oN 17 [(2,vb false)] [] ?_
   refine oe ?_
   obtain rfl:=sI ag
   exact mt () [2] [] 1
  refine oN 22 [(2,vb false)] [] ?_
  refine oe ?_
  obtain rfl:=sI aa
  exact mt () [2] [] 1
 refine nt (qe ?_)
 obtain rfl:=sI a5
 exact re [.bool a3]
theorem c_spec_CaseOk {W : World} {x0 : Case} {b0 : AC × AC × AC × AC × AC} {r : Bool} (h : spec_CaseOk x0 = some r) (hv0_0 : SlView W x0.Book.Rules b0.1.1 b0.1.2) (hv0_1 : SlView W x0.Store.Facts b0.2.1.1 b0.2.1.2) (hv0_2 : SlView W x0.Series.Points b0.2.2.1.1 b0.2.2.1.2) (hv0_3 : SlView W x0.Member.Spells b0.2.2.2.1.1 b0.2.2.2.1.2) (hv0_4 : SlView W x0.Member.Events b0.2.2.2.2.1 b0.2.2.2.2.2) :
  Gives0 Tryz.prog 88 #[vCase x0 b0] W (.bool r):=by
 unfold spec_CaseOk at h
 refine en Tryz.func88 Tryz.ntmps88 ?_
 refine qs (qr (oB 2 [(1,.p 0 0)] [] [(54,(eCase x0 b0))] ?_))
 refine oe (nt (qs ?_))
 obtain ⟨a3,a4,a5⟩:=bS h
 refine JC_cut (τ:=Unit) (fun _=>[(2,vb a3)]) (fun _=>[(54,(eCase x0 b0))]) (fun _=>[]) ?_ (fun _=>?_)
 ·refine qr (oN 2 [(4,.v (vBook x0.Book b0.1))] [1] ?_)
  obtain ⟨a6,a7,a8⟩:=bS a4
  refine k0 (fun _ w hs=>c_spec_BookOk a7 (hv0_0.k hs)) ?_
  refine oN 1 [(6,vb a6)] [1] ?_
  refine oS 6 a8 (fun a9=>?_) (fun aa=>?_)
  ·refine oN 2 [(8,.v (vStore x0.Store b0.2.1))] [6,1] ?_
   obtain ⟨ab,ac,ae⟩:=bS a9
   refine k0 (fun _ w hs=>c_spec_StoreOk ac (hv0_1.k hs)) ?_
   refine oN 2 [(11,vb ab)] [1] ?_
   refine oS 11 ae (fun af=>?_) (fun ag=>?_)
   ·refine oN 2 [(13,.v (vSeries x0.Series b0.2.2.1))] [11,1] ?_
    obtain ⟨ah,ai,aj⟩:=bS af
    refine k0 (fun _ w hs=>c_spec_SeriesOk ai (hv0_2.k hs)) ?_
    refine oN 2 [(16,vb ah)] [1] ?_
    refine oS 16 aj (fun ak=>?_) (fun al=>?_)
    ·refine oN 2 [(18,.v (vMember x0.Member b0.2.2.2))] [16] ?_
     obtain ⟨am,an,ao⟩:=bS ak
     refine k0 (fun _ w hs=>c_spec_MemberOk (b0:=b0.2.2.2) an (hv0_3.k hs) (hv0_4.k hs)) ?_
     refine oN 2 [(2,vb am)] [] ?_
     refine oe ?_
     obtain rfl:=sI ao
     exact mt () [2] [] 1
    refine oN 5 [(2,vb false)] [] ?_
    refine oe ?_
    obtain rfl:=sI al
    exact mt () [2] [] 1
   refine oN 10 [(2,vb false)] [] ?_
   refine oe ?_
   obtain rfl:=sI ag
   exact mt () [2] [] 1
  refine oN 15 [(2,vb false)] [] ?_
  refine oe ?_
  obtain rfl:=sI aa
  exact mt () [2] [] 1
 refine nt (qe ?_)
 obtain rfl:=sI a5
 exact re [.bool a3]
theorem c_spec_l10Rule {W : World} {x0 : Rule} {a0_0 : Option Addr} {c0_0 : Nat} {r : Rule} (h : spec_l10Rule x0 = some r) (hv0_0 : SlView W x0.Nodes a0_0 c0_0) :
  Gives Tryz.prog 174 #[vRule x0 (a0_0,c0_0)] W (fun y : AC=>vRule r y) (fun y=>[SlRes 233 r.Nodes y.1 y.2]):=by
 unfold spec_l10Rule at h
 refine en Tryz.func174 Tryz.ntmps174 ?_
 refine qs (qr (oB 2 [(2,.p 1 0),(1,.p 0 0)] [] [(188,(eRule x0 (a0_0,c0_0))),(188,(eRule (Rule.mk 0 0 0 0 0 0 ([] : List Node)) (none,0)))] ?_))
 refine oe (nt (qs (qr (ob [] [] 233 0 [] ([] : List Node) (own_flat (by kernel_rfl)) (fun a7=>?_)))))
 refine oN 2 [(5,vs a0_0 x0.Nodes c0_0)] [3,2,1] ?_
 obtain ⟨a4,a5,a6⟩:=bS h
 refine oa 186 c0_0 Tryz.t233 (vNode (Node.mk 0 0 0 0 (Frac.mk 0 0))) (fun _ w hs=>⟨c0_0,(hv0_0.k hs)⟩) a5 (fun a3=>?_)
 refine oB 2 [] [2,1] [(188,(eRule (Rule.mk x0.Name x0.From x0.To x0.Joined x0.Rank x0.Mode a4) a3)),(188,(eRule (Rule.mk 0 0 0 0 0 0 ([] : List Node)) (none,0)))] ?_
 refine oe (nt (qs (qr (oB 2 [] [2] [(188,(eRule (Rule.mk x0.Name x0.From x0.To x0.Joined x0.Rank x0.Mode a4) a3)),(188,(eRule (Rule.mk x0.Name x0.From x0.To x0.Joined x0.Rank x0.Mode a4) a3))] ?_))))
 refine oe (nt (qe (rt [vRule (Rule.mk x0.Name x0.From x0.To x0.Joined x0.Rank x0.Mode a4) a3] (fun _ w hs=>?_))))
 rw [← sI a6]
 exact ⟨a3,rfl,hs.kept.toBelow,(hs.takeR (is:=[0]) rfl).fresh⟩
theorem c_spec_l10Copy {W : World} {x0 : Book} {a0_0 : Option Addr} {c0_0 : Nat} {r : Book} (h : spec_l10Copy x0 = some r) (hv0_0 : SlView W x0.Rules a0_0 c0_0) :
  Gives Tryz.prog 141 #[vBook x0 (a0_0,c0_0)] W (fun y : AC=>vBook r y) (fun y=>[SlRes 188 r.Rules y.1 y.2]):=by
 unfold spec_l10Copy at h
 refine en Tryz.func141 Tryz.ntmps141 ?_
 refine qs (qr (oB 2 [(2,.p 1 0),(1,.p 0 0)] [] [(42,(eBook x0 (a0_0,c0_0))),(42,[.slice none 0 0])] ?_))
 refine oe (nt (qs (qr (oB 3 [(3,.p 2 0)] [2,1] [(42,(eBook x0 (a0_0,c0_0))),(42,[.slice none 0 0]),(42,[.slice none 0 0])] ?_))))
 refine oe (nt (qs (qs (qr (oN 1 [(4,vi 0)] [3,2,1] ?_)))))
 refine oe (nt (JC_addnil 188 (List.nil (α:=Rule)) rfl ?_))
 obtain ⟨b5,al,ag⟩:=bS h
 obtain ⟨am,an,ag⟩:=brkS ag
 refine JC_cutP (τ:=((List Rule)) × (AC)) (fun y=>am y.1 = some r) (fun a7=>[(3,.p 2 0),(2,.p 1 0)]) (fun a7=>[(42,(eBook x0 (a0_0,c0_0))),(42,[.slice none 0 0]),(42,(eBook (Book.mk a7.1) a7.2))]) (fun a7=>[SlRes 188 a7.1 a7.2.1 a7.2.2]) ?_ (fun a7 ao=>?_)
 ·refine qb (lp AC al (fun a3 a5=>[(4,vi a3.1),(3,.p 2 0),(2,.p 1 0),(1,.p 0 0)]) (fun a3 a5=>[(42,(eBook x0 (a0_0,c0_0))),(42,[.slice none 0 0]),(42,(eBook (Book.mk a3.2) a5))]) (fun a3 a5=>[SlRes 188 a3.2 a5.1 a5.2]) (none,0) [4,3,2,1] [0] 3 (fun a3 a5 b6 ap aq=>?_))
  refine qs (qs (qr (oN 5 [(10,vb (decide (a3.1 < (x0.Rules.length : Int))))] [4,3,2,1] ?_)))
  refine oe (nt (cC ap (fun ar=>?_) (fun au=>?_)))
  ·refine qk (nt (qs (qb ?_)))
   obtain ⟨ac,ah,av⟩:=bS ar
   obtain ⟨_,⟨ae,af,rfl,aj⟩,aw⟩:=SlView.at hv0_0 (idx_some ah).2.2
   obtain ⟨a4,ak,ax⟩:=bS av
   obtain ⟨aa,ai,ay⟩:=bS ax
   refine JC_cut (τ:=AC) (fun ab=>[(4,vi a3.1),(3,.p 2 0),(2,.p 1 0),(1,.p 0 0)]) (fun ab=>[(42,(eBook x0 (a0_0,c0_0))),(42,[.slice none 0 0]),(42,(eBook (Book.mk aa) ab))]) (fun ab=>[SlRes 188 aa ab.1 ab.2]) ?_ (fun ab=>?_)
   ·refine jw [4,3,2,1] [0] ?_
    refine JC_heldN (ks:=[0,1]) (Rk:=[]) 12 (by kernel_rfl) (by kernel_rfl) ?_
    refine htq 0 (.p 2 0) [] ?_
    refine htq 2 (.p 0 0) [] ?_
    refine htq 3 (vs a0_0 x0.Rules c0_0) [] ?_
    refine hk [16,13,4,3,2,1] ?_
    refine htq 4 (vi a3.1) [] ?_
    refine ht 5 (.q a0_0 (Int.toNat a3.1 * 7)) [] (index_held (d:=a0_0) (m:=x0.Rules.length) (j:=a3.1) (s:=7) (by kernel_rfl) (fun γ0 w hs=>(hv0_0.k hs)) rfl ah) ?_
    refine hk [18,13,4,3,2,1] ?_
    refine ht 6 (.v (vRule ac (ae,af))) [] (loadq_held (t:=188) (d:=a0_0) (Int.toNat a3.1 * 7) 0 (by kernel_rfl) (cs:=(eRule ac (ae,af))) (v:=vRule ac (ae,af)) (fun γ0 w hs=>⟨(hv0_0.k hs).ne (idx_some ah).2.2,aw.kept hs.kept⟩) (by kernel_rfl)) ?_
    refine hk [19,13,4,3,2,1] ?_
    refine ha2 1 7 ?_ ?_
    ·refine hi (fun γ0 δ hm=>?_)
     refine gs [(14,sv a5 a3.2),(19,.v (vRule ac (ae,af))),(13,.p 2 0),(4,vi a3.1),(3,.p 2 0),(2,.p 1 0),(1,.p 0 0)] [(42,(eBook x0 (a0_0,c0_0))),(42,[.slice none 0 0]),(42,(eBook (Book.mk a3.2) a5))] (fun δ2=>?_)
     refine gd hm [14,19,4,3,2,1] [] ?_
     refine ha1 7 ?_
     refine hi (fun γ0 δ hm=>?_)
     refine g1 (fun w hs=>c_spec_l10Rule ak (aj.k hs)) (fun a6=>?_)
     refine gn hm [20,14,4,3,2,1] [] ?_
     refine ha1 8 ?_
     refine hi (fun γ0 δ hm=>?_)
     refine gb [SlRes 233 a4.Nodes a6.1 a6.2] [SlRes 188 a3.2 a5.1 a5.2] 188 1 [.int .i64 a4.Name,.int .i64 a4.From,.int .i64 a4.To,.int .i64 a4.Joined,.int .i64 a4.Rank,.int .i64 a4.Mode,.slice a6.1 a4.Nodes.length a6.2] ([a4] : List Rule) (own_single (by rintro w Fs ⟨G0,_,rfl,h0,rfl⟩; exact ⟨233,a6.1,a6.2,G0,by simp,rfl,h0⟩)) (fun a9=>?_)
     refine gn hm [21,14,4,3,2,1] [] ?_
     refine ha1 9 ?_
     refine hr_ [1,0] ?_
     refine hi (fun γ0 δ hm=>?_)
     refine JG_appendR (α:=Rule) (by kernel_rfl) (t:=40) (e:=188) (a1:=a5.1) (a2:=a9.1) (c1:=a5.2) (c2:=a9.2) (l1:=a3.2) (l2:=([a4] : List Rule)) (by kernel_rfl) (i:=Tryz.t188) (by kernel_rfl) (z:=(vRule (Rule.mk 0 0 0 0 0 0 ([] : List Node)) (none,0))) (by kernel_rfl) (by kernel_rfl) (by kernel_rfl) (by kernel_rfl) (Rr:=[]) rfl ai _ (fun _=>rfl) (fun a8=>?_)
     refine gn hm [22,4,3,2,1] [] ?_
     refine htq 10 (.p 2 0) [] ?_
     refine ha1 11 ?_
     refine hi (fun γ0 δ hm=>?_)
     refine gs [(23,.p 2 0),(22,sv a8 aa),(4,vi a3.1),(3,.p 2 0),(2,.p 1 0),(1,.p 0 0)] [(42,(eBook x0 (a0_0,c0_0))),(42,[.slice none 0 0]),(42,(eBook (Book.mk aa) a8))] (fun δ2=>?_)
     refine gd hm [4,3,2,1] [] ?_
     exact hd a8 [4,3,2,1] [0] 3
    ·refine hi (fun γ0 δ hm=>?_)
     refine g1 (fun w hs=>c_spec_l10Rule ak (aj.k hs)) (fun a6=>?_)
     refine gn hm [20,13,4,3,2,1] [] ?_
     refine ha2 1 8 ?_ ?_
     ·refine hi (fun γ0 δ hm=>?_)
      refine gs [(14,sv a5 a3.2),(20,.v (vRule a4 a6)),(13,.p 2 0),(4,vi a3.1),(3,.p 2 0),(2,.p 1 0),(1,.p 0 0)] [(42,(eBook x0 (a0_0,c0_0))),(42,[.slice none 0 0]),(42,(eBook (Book.mk a3.2) a5))] (fun δ2=>?_)
      refine gd hm [14,20,4,3,2,1] [] ?_
      refine ha1 8 ?_
      refine hi (fun γ0 δ hm=>?_)
      refine gb [SlRes 233 a4.Nodes a6.1 a6.2] [SlRes 188 a3.2 a5.1 a5.2] 188 1 [.int .i64 a4.Name,.int .i64 a4.From,.int .i64 a4.To,.int .i64 a4.Joined,.int .i64 a4.Rank,.int .i64 a4.Mode,.slice a6.1 a4.Nodes.length a6.2] ([a4] : List Rule) (own_single (by rintro w Fs ⟨G0,_,rfl,h0,rfl⟩; exact ⟨233,a6.1,a6.2,G0,by simp,rfl,h0⟩)) (fun a9=>?_)
      refine gn hm [21,14,4,3,2,1] [] ?_
      refine ha1 9 ?_
      refine hr_ [1,0] ?_
      refine hi (fun γ0 δ hm=>?_)
      refine JG_appendR (α:=Rule) (by kernel_rfl) (t:=40) (e:=188) (a1:=a5.1) (a2:=a9.1) (c1:=a5.2) (c2:=a9.2) (l1:=a3.2) (l2:=([a4] : List Rule)) (by kernel_rfl) (i:=Tryz.t188) (by kernel_rfl) (z:=(vRule (Rule.mk 0 0 0 0 0 0 ([] : List Node)) (none,0))) (by kernel_rfl) (by kernel_rfl) (by kernel_rfl) (by kernel_rfl) (Rr:=[]) rfl ai _ (fun _=>rfl) (fun a8=>?_)
      refine gn hm [22,4,3,2,1] [] ?_
      refine htq 10 (.p 2 0) [] ?_
      refine ha1 11 ?_
      refine hi (fun γ0 δ hm=>?_)
      refine gs [(23,.p 2 0),(22,sv a8 aa),(4,vi a3.1),(3,.p 2 0),(2,.p 1 0),(1,.p 0 0)] [(42,(eBook x0 (a0_0,c0_0))),(42,[.slice none 0 0]),(42,(eBook (Book.mk aa) a8))] (fun δ2=>?_)
      refine gd hm [4,3,2,1] [] ?_
      exact hd a8 [4,3,2,1] [0] 3
     ·refine hi (fun γ0 δ hm=>?_)
      refine gb [SlRes 233 a4.Nodes a6.1 a6.2] [SlRes 188 a3.2 a5.1 a5.2] 188 1 [.int .i64 a4.Name,.int .i64 a4.From,.int .i64 a4.To,.int .i64 a4.Joined,.int .i64 a4.Rank,.int .i64 a4.Mode,.slice a6.1 a4.Nodes.length a6.2] ([a4] : List Rule) (own_single (by rintro w Fs ⟨G0,_,rfl,h0,rfl⟩; exact ⟨233,a6.1,a6.2,G0,by simp,rfl,h0⟩)) (fun a9=>?_)
      refine gn hm [21,13,4,3,2,1] [] ?_
      refine ha1 1 ?_
      refine hi (fun γ0 δ hm=>?_)
      refine gs [(14,sv a5 a3.2),(21,sv a9 ([a4] : List Rule)),(13,.p 2 0),(4,vi a3.1),(3,.p 2 0),(2,.p 1 0),(1,.p 0 0)] [(42,(eBook x0 (a0_0,c0_0))),(42,[.slice none 0 0]),(42,(eBook (Book.mk a3.2) a5))] (fun δ2=>?_)
      refine gd hm [14,21,4,3,2,1] [] ?_
      refine ha1 9 ?_
      refine hr_ [1,0] ?_
      refine hi (fun γ0 δ hm=>?_)
      refine JG_appendR (α:=Rule) (by kernel_rfl) (t:=40) (e:=188) (a1:=a5.1) (a2:=a9.1) (c1:=a5.2) (c2:=a9.2) (l1:=a3.2) (l2:=([a4] : List Rule)) (by kernel_rfl) (i:=Tryz.t188) (by kernel_rfl) (z:=(vRule (Rule.mk 0 0 0 0 0 0 ([] : List Node)) (none,0))) (by kernel_rfl) (by kernel_rfl) (by kernel_rfl) (by kernel_rfl) (Rr:=[]) rfl ai _ (fun _=>rfl) (fun a8=>?_)
      refine gn hm [22,4,3,2,1] [] ?_
      refine htq 10 (.p 2 0) [] ?_
      refine ha1 11 ?_
      refine hi (fun γ0 δ hm=>?_)
      refine gs [(23,.p 2 0),(22,sv a8 aa),(4,vi a3.1),(3,.p 2 0),(2,.p 1 0),(1,.p 0 0)] [(42,(eBook x0 (a0_0,c0_0))),(42,[.slice none 0 0]),(42,(eBook (Book.mk aa) a8))] (fun δ2=>?_)
      refine gd hm [4,3,2,1] [] ?_
      exact hd a8 [4,3,2,1] [0] 3
   refine bn (nt (qr (oN 3 [(4,vi (w64 (a3.1 + 1)))] [3,2,1] ?_)))
   exact oe (ct ay (ab.1,ab.2) [4,3,2,1] [0] 3)
  refine qx (nx (nx (bh ?_)))
  have az:=leafB aq au ag
  exact mp (a3.2,(a5.1,a5.2)) az [3,2] [0] 3
 have b4:=(congrFun an _).symm.trans ao
 refine nt (qs (qr (oB 2 [] [2] [(42,(eBook x0 (a0_0,c0_0))),(42,(eBook (Book.mk a7.1) a7.2)),(42,(eBook (Book.mk a7.1) a7.2))] ?_)))
 refine oe (nt (qe (rt [vBook (Book.mk a7.1) a7.2] (fun γ w hs=>?_))))
 rw [← sI b4]
 exact ⟨a7.2,rfl,hs.kept.toBelow,(hs.takeR (is:=[0]) rfl).fresh⟩
theorem c_spec_l05Copy {W : World} {x0 : Store} {a0_0 : Option Addr} {c0_0 : Nat} {r : Store} (h : spec_l05Copy x0 = some r) (hv0_0 : SlView W x0.Facts a0_0 c0_0) :
  Gives Tryz.prog 130 #[vStore x0 (a0_0,c0_0)] W (fun y : AC=>vStore r y) (fun y=>[SlRes 84 r.Facts y.1 y.2]):=by
 unfold spec_l05Copy at h
 refine en Tryz.func130 Tryz.ntmps130 ?_
 refine qs (qr (oB 2 [(2,.p 1 0),(1,.p 0 0)] [] [(45,(eStore x0 (a0_0,c0_0))),(45,[.slice none 0 0])] ?_))
 refine oe (nt (qs (qr (ob [] [] 84 0 [] ([] : List Fact) (own_flat (by kernel_rfl)) (fun a7=>?_)))))
 refine oN 2 [(5,vs a0_0 x0.Facts c0_0)] [3,2] ?_
 obtain ⟨a4,a5,a6⟩:=bS h
 refine oa 43 c0_0 Tryz.t84 (vFact (Fact.mk 0 0 0 0 0)) (fun _ w hs=>⟨c0_0,(hv0_0.k hs)⟩) a5 (fun a3=>?_)
 refine oB 2 [] [2] [(45,(eStore x0 (a0_0,c0_0))),(45,(eStore (Store.mk a4) a3))] ?_
 refine oe (nt (qe (rt [vStore (Store.mk a4) a3] (fun _ w hs=>?_))))
 rw [← sI a6]
 exact ⟨a3,rfl,hs.kept.toBelow,(hs.takeR (is:=[0]) rfl).fresh⟩
theorem c_spec_l34Member {W : World} {x0 : Member} {b0 : AC × AC} {r : Member} (h : spec_l34Member x0 = some r) (hv0_0 : SlView W x0.Spells b0.1.1 b0.1.2) (hv0_1 : SlView W x0.Events b0.2.1 b0.2.2) :
  Gives Tryz.prog 142 #[vMember x0 b0] W (fun y : AC × AC=>vMember r y) (fun y=>(rMember2 r y)):=by
 unfold spec_l34Member at h
 refine en Tryz.func142 Tryz.ntmps142 ?_
 refine qs (qr (oB 2 [(2,.p 1 0),(1,.p 0 0)] [] [(52,(eMember x0 b0)),(52,[.int .i64 0,.int .i64 0,.slice none 0 0,.slice none 0 0])] ?_))
 refine oe (nt (qs (qr (ob [] [] 191 0 [] ([] : List Spell) (own_flat (by kernel_rfl)) (fun ab=>?_)))))
 refine oN 2 [(5,sv b0.1 x0.Spells)] [3,2,1] ?_
 obtain ⟨a4,a7,a8⟩:=bS h
 refine oa 49 b0.1.2 Tryz.t191 (vSpell (Spell.mk 0 0 0 false)) (fun _ w hs=>⟨b0.1.2,(hv0_0.k hs)⟩) a7 (fun a3=>?_)
 refine oB 2 [] [2,1] [(52,(eMember (Member.mk x0.Birth x0.Joined a4 x0.Events) (a3,b0.2))),(52,[.int .i64 0,.int .i64 0,.slice none 0 0,.slice none 0 0])] ?_
 refine oe (nt (qs (qr (ob [] [SlRes 191 a4 a3.1 a3.2] 195 0 [] ([] : List Event) (own_flat (by kernel_rfl)) (fun ac=>?_)))))
 refine oN 2 [(10,sv b0.2 x0.Events)] [8,2,1] ?_
 obtain ⟨a6,a9,aa⟩:=bS a8
 refine oa 50 b0.2.2 Tryz.t195 (vEvent (Event.mk 0 0)) (fun _ w hs=>⟨b0.2.2,(hv0_1.k hs)⟩) a9 (fun a5=>?_)
 refine oB 2 [] [2,1] [(52,(eMember (Member.mk x0.Birth x0.Joined a4 a6) (a3,a5))),(52,[.int .i64 0,.int .i64 0,.slice none 0 0,.slice none 0 0])] ?_
 refine oe (nt (qs (qr (oB 2 [] [2] [(52,(eMember (Member.mk x0.Birth x0.Joined a4 a6) (a3,a5))),(52,(eMember (Member.mk x0.Birth x0.Joined a4 a6) (a3,a5)))] ?_))))
 refine oe (nt (qe (rt [vMember (Member.mk x0.Birth x0.Joined a4 a6) (a3,a5)] (fun _ w hs=>?_))))
 rw [← sI aa]
 exact ⟨(a3,a5),rfl,hs.kept.toBelow,(hs.takeR (is:=[1,0]) rfl).fresh⟩
theorem c_spec_l35Case {W : World} {x0 : Case} {b0 : AC × AC × AC × AC × AC} {r : Case} (h : spec_l35Case x0 = some r) (hv0_0 : SlView W x0.Book.Rules b0.1.1 b0.1.2) (hv0_1 : SlView W x0.Store.Facts b0.2.1.1 b0.2.1.2) (hv0_2 : SlView W x0.Series.Points b0.2.2.1.1 b0.2.2.1.2) (hv0_3 : SlView W x0.Member.Spells b0.2.2.2.1.1 b0.2.2.2.1.2) (hv0_4 : SlView W x0.Member.Events b0.2.2.2.2.1 b0.2.2.2.2.2) :
  Gives Tryz.prog 90 #[vCase x0 b0] W (fun y : AC × AC × AC × AC × AC=>vCase r y) (fun y=>(rCase2 r y)):=by
 unfold spec_l35Case at h
 refine en Tryz.func90 Tryz.ntmps90 ?_
 refine qs (qr (oB 2 [(2,.p 1 0),(1,.p 0 0)] [] [(54,(eCase x0 b0)),(54,[.slice none 0 0,.slice none 0 0,.slice none 0 0,.int .i64 0,.int .i64 0,.slice none 0 0,.slice none 0 0])] ?_))
 refine oe (nt (qs ?_))
 obtain ⟨a9,ag,ai⟩:=bS h
 obtain ⟨aa,ac,aj⟩:=bS ai
 obtain ⟨a8,ae,ak⟩:=bS aj
 obtain ⟨ab,af,al⟩:=bS ak
 refine JC_cut (τ:=AC × AC × AC × (AC × AC)) (fun a4=>[(2,.p 1 0)]) (fun a4=>[(54,(eCase x0 b0)),(54,(eCase (Case.mk a9 aa (Series.mk a8) ab) a4))]) (fun a4=>(rMember2 ab a4.2.2.2 ++ [SlRes 85 a8 a4.2.2.1.1 a4.2.2.1.2,SlRes 84 aa.Facts a4.2.1.1 a4.2.1.2,SlRes 188 a9.Rules a4.1.1 a4.1.2])) ?_ (fun a4=>?_)
 ·refine jw [2,1] [] ?_
  refine JC_heldN (ks:=[0]) (Rk:=[]) 17 (by kernel_rfl) (by kernel_rfl) ?_
  refine htq 0 (.p 0 0) [] ?_
  refine htq 1 (.v (vBook x0.Book b0.1)) [] ?_
  refine hk [4,2,1] ?_
  refine htq 3 (.p 0 1) [] ?_
  refine htq 4 (.v (vStore x0.Store b0.2.1)) [] ?_
  refine hk [7,4,2,1] ?_
  refine htq 7 (.p 0 2) [] ?_
  refine htq 8 (.p 0 2) [] ?_
  refine hk [11,7,4,2,1] ?_
  refine htq 9 (sv b0.2.2.1 x0.Series.Points) [] ?_
  refine hk [12,7,4,2,1] ?_
  refine htq 12 (.p 0 3) [] ?_
  refine hk [15,12,7,4,2] ?_
  refine htq 13 (.v (vMember x0.Member b0.2.2.2)) [] ?_
  refine hk [16,12,7,4,2] ?_
  refine ha2 2 6 ?_ ?_
  ·refine hi (fun γ0 δ hm=>?_)
   refine g1 (fun w hs=>c_spec_l10Copy ag (hv0_0.k hs)) (fun a5=>?_)
   refine gn hm [5,16,12,7,2] [] ?_
   refine ha2 5 6 ?_ ?_
   ·refine hi (fun γ0 δ hm=>?_)
    refine g1 (fun w hs=>c_spec_l05Copy ac (hv0_1.k hs)) (fun a7=>?_)
    refine gn hm [8,5,16,12,2] [] ?_
    refine ha1 6 ?_
    refine hi (fun γ0 δ hm=>?_)
    refine gb [] [SlRes 84 aa.Facts a7.1 a7.2,SlRes 188 a9.Rules a5.1 a5.2] 85 0 [] ([] : List Point) (own_flat (by kernel_rfl)) (fun ah=>?_)
    refine gn hm [9,8,5,16,12,2] [] ?_
    refine ha1 10 ?_
    refine hi (fun γ0 δ hm=>?_)
    refine ga 46 b0.2.2.1.2 Tryz.t85 (vPoint (Point.mk 0 0 0)) (fun w hs=>⟨b0.2.2.1.2,(hv0_2.k hs)⟩) ae (fun a6=>?_)
    refine gn hm [13,8,5,16,2] [] ?_
    refine htq 11 (.v (vSeries (Series.mk a8) a6)) [] ?_
    refine hk [14,8,5,16,2] ?_
    refine ha1 14 ?_
    refine hi (fun γ0 δ hm=>?_)
    refine g1 (fun w hs=>c_spec_l34Member (b0:=b0.2.2.2) af (hv0_3.k hs) (hv0_4.k hs)) (fun a3=>?_)
    refine gn hm [17,14,8,5,2] [] ?_
    refine htq 15 (.v (vCase (Case.mk a9 aa (Series.mk a8) ab) (a5,a7,a6,a3.1,a3.2))) [] ?_
    refine hk [18,2] ?_
    refine ha1 16 ?_
    refine hi (fun γ0 δ hm=>?_)
    refine gs [(18,.v (vCase (Case.mk a9 aa (Series.mk a8) ab) (a5,a7,a6,a3.1,a3.2))),(2,.p 1 0)] [(54,(eCase x0 b0)),(54,(eCase (Case.mk a9 aa (Series.mk a8) ab) (a5,a7,a6,a3.1,a3.2)))] (fun δ2=>?_)
    refine gd hm [2] [] ?_
    exact hd (a5,a7,a6,a3) [2] [0,0,0,0,0] 2
   ·refine hi (fun γ0 δ hm=>?_)
    refine gb [] [SlRes 188 a9.Rules a5.1 a5.2] 85 0 [] ([] : List Point) (own_flat (by kernel_rfl)) (fun ah=>?_)
    refine gn hm [9,5,16,12,7,2] [] ?_
    refine ha1 5 ?_
    refine hi (fun γ0 δ hm=>?_)
    refine g1 (fun w hs=>c_spec_l05Copy ac (hv0_1.k hs)) (fun a7=>?_)
    refine gn hm [8,9,5,16,12,2] [] ?_
    refine ha1 10 ?_
    refine hr_ [1,0,0] ?_
    refine hi (fun γ0 δ hm=>?_)
    refine ga 46 b0.2.2.1.2 Tryz.t85 (vPoint (Point.mk 0 0 0)) (fun w hs=>⟨b0.2.2.1.2,(hv0_2.k hs)⟩) ae (fun a6=>?_)
    refine gn hm [13,8,5,16,2] [] ?_
    refine htq 11 (.v (vSeries (Series.mk a8) a6)) [] ?_
    refine hk [14,8,5,16,2] ?_
    refine ha1 14 ?_
    refine hi (fun γ0 δ hm=>?_)
    refine g1 (fun w hs=>c_spec_l34Member (b0:=b0.2.2.2) af (hv0_3.k hs) (hv0_4.k hs)) (fun a3=>?_)
    refine gn hm [17,14,8,5,2] [] ?_
    refine htq 15 (.v (vCase (Case.mk a9 aa (Series.mk a8) ab) (a5,a7,a6,a3.1,a3.2))) [] ?_
    refine hk [18,2] ?_
    refine ha1 16 ?_
    refine hi (fun γ0 δ hm=>?_)
    refine gs [(18,.v (vCase (Case.mk a9 aa (Series.mk a8) ab) (a5,a7,a6,a3.1,a3.2))),(2,.p 1 0)] [(54,(eCase x0 b0)),(54,(eCase (Case.mk a9 aa (Series.mk a8) ab) (a5,a7,a6,a3.1,a3.2)))] (fun δ2=>?_)
    refine gd hm [2] [] ?_
    exact hd (a5,a7,a6,a3) [2] [0,0,0,0,0] 2
  ·refine hi (fun γ0 δ hm=>?_)
   refine gb [] [] 85 0 [] ([] : List Point) (own_flat (by kernel_rfl)) (fun ah=>?_)
   refine gn hm [9,16,12,7,4,2] [] ?_
   refine ha1 2 ?_
   refine hi (fun γ0 δ hm=>?_)
   refine g1 (fun w hs=>c_spec_l10Copy ag (hv0_0.k hs)) (fun a5=>?_)
   refine gn hm [5,9,16,12,7,2] [] ?_
   refine ha1 5 ?_
   refine hi (fun γ0 δ hm=>?_)
   refine g1 (fun w hs=>c_spec_l05Copy ac (hv0_1.k hs)) (fun a7=>?_)
   refine gn hm [8,5,9,16,12,2] [] ?_
   refine ha1 10 ?_
   refine hr_ [2,0,0] ?_
   refine hi (fun γ0 δ hm=>?_)
   refine ga 46 b0.2.2.1.2 Tryz.t85 (vPoint (Point.mk 0 0 0)) (fun w hs=>⟨b0.2.2.1.2,(hv0_2.k hs)⟩) ae (fun a6=>?_)
   refine gn hm [13,8,5,16,2] [] ?_
   refine htq 11 (.v (vSeries (Series.mk a8) a6)) [] ?_
   refine hk [14,8,5,16,2] ?_
   refine ha1 14 ?_
   refine hi (fun γ0 δ hm=>?_)
   refine g1 (fun w hs=>c_spec_l34Member (b0:=b0.2.2.2) af (hv0_3.k hs) (hv0_4.k hs)) (fun a3=>?_)
   refine gn hm [17,14,8,5,2] [] ?_
   refine htq 15 (.v (vCase (Case.mk a9 aa (Series.mk a8) ab) (a5,a7,a6,a3.1,a3.2))) [] ?_
   refine hk [18,2] ?_
   refine ha1 16 ?_
   refine hi (fun γ0 δ hm=>?_)
   refine gs [(18,.v (vCase (Case.mk a9 aa (Series.mk a8) ab) (a5,a7,a6,a3.1,a3.2))),(2,.p 1 0)] [(54,(eCase x0 b0)),(54,(eCase (Case.mk a9 aa (Series.mk a8) ab) (a5,a7,a6,a3.1,a3.2)))] (fun δ2=>?_)
   refine gd hm [2] [] ?_
   exact hd (a5,a7,a6,a3) [2] [0,0,0,0,0] 2
 refine nt (qe (rt [vCase (Case.mk a9 aa (Series.mk a8) ab) a4] (fun γ w hs=>?_)))
 rw [← sI al]
 exact ⟨(a4.1,a4.2.1,a4.2.2.1,a4.2.2.2.1,a4.2.2.2.2),rfl,hs.kept.toBelow,(hs.takeR (is:=[4,3,2,0,0]) rfl).fresh⟩
theorem c_spec_OfficeNew {W : World} {x0 : Case} {b0 : AC × AC × AC × AC × AC} {x1 : Int} {r : Office × Bool} (h : spec_OfficeNew x0 x1 = some r) (hv0_0 : SlView W x0.Book.Rules b0.1.1 b0.1.2) (hv0_1 : SlView W x0.Store.Facts b0.2.1.1 b0.2.1.2) (hv0_2 : SlView W x0.Series.Points b0.2.2.1.1 b0.2.2.1.2) (hv0_3 : SlView W x0.Member.Spells b0.2.2.2.1.1 b0.2.2.2.1.2) (hv0_4 : SlView W x0.Member.Events b0.2.2.2.2.1 b0.2.2.2.2.2) :
  Gives Tryz.prog 42 #[vCase x0 b0,.int .i64 x1] W (fun y : AC × AC × AC × AC × AC × AC=>.tuple #[vOffice r.1 y,.bool r.2]) (fun y=>(rOffice r.1 y)):=by
 unfold spec_OfficeNew at h
 refine en Tryz.func42 Tryz.ntmps42 ?_
 refine qs (qr (oB 3 [(4,.p 1 0),(2,.p 0 0)] [1] [(54,(eCase x0 b0)),(57,[.slice none 0 0,.slice none 0 0,.slice none 0 0,.int .i64 0,.int .i64 0,.slice none 0 0,.slice none 0 0,.int .i64 0,.slice none 0 0])] ?_))
 refine oe (nt (qs (qs ?_)))
 obtain ⟨a5,a6,a7⟩:=bS h
 refine JC_cut (τ:=Unit) (fun _=>[(1,vi x1),(2,.p 0 0),(4,.p 1 0),(13,vb a5)]) (fun _=>[(54,(eCase x0 b0)),(57,[.slice none 0 0,.slice none 0 0,.slice none 0 0,.int .i64 0,.int .i64 0,.slice none 0 0,.slice none 0 0,.int .i64 0,.slice none 0 0])]) (fun _=>[]) ?_ (fun _=>?_)
 ·refine qr (oN 1 [(6,.v (vCase x0 b0))] [4,2,1] ?_)
  obtain ⟨a8,a9,aa⟩:=bS a6
  refine k0 (fun _ w hs=>c_spec_CaseOk (b0:=b0) a9 (hv0_0.k hs) (hv0_1.k hs) (hv0_2.k hs) (hv0_3.k hs) (hv0_4.k hs)) ?_
  refine oN 2 [(9,vb (!a8))] [4,2,1] ?_
  refine oS 9 aa (fun ab=>?_) (fun ac=>?_)
  ·refine oN 4 [(13,vb true)] [4,2,1] ?_
   refine oe ?_
   obtain rfl:=sI ab
   exact mt () [1,2,4,13] [] 2
  refine oN 1 [(10,vi x1)] [9,4,2,1] ?_
  obtain ⟨ae,af,ag⟩:=bS ac
  refine k0 (fun _ w hs=>c_spec_MonthOk af) ?_
  refine oN 2 [(13,vb (!ae))] [4,2,1] ?_
  refine oe ?_
  obtain rfl:=sI ag
  exact mt () [1,2,4,13] [] 2
 refine nt (cC a7 (fun ah=>?_) (fun ai=>?_))
 ·refine qs (qr (oN 3 [(5,vb false)] [4] ?_))
  refine oe (nt (qe (nr (JE_addnil 188 (List.nil (α:=Rule)) rfl ?_))))
  refine JE_addnil 84 (List.nil (α:=Fact)) rfl ?_
  refine JE_addnil 85 (List.nil (α:=Point)) rfl ?_
  refine JE_addnil 191 (List.nil (α:=Spell)) rfl ?_
  refine JE_addnil 195 (List.nil (α:=Event)) rfl ?_
  refine JE_addnil 3 (List.nil (α:=Int)) rfl ?_
  refine rt [.agg #[.slice none 0 0,.slice none 0 0,.slice none 0 0,.int .i64 0,.int .i64 0,.slice none 0 0,.slice none 0 0,.int .i64 0,.slice none 0 0],.bool false] (fun _ w hs=>?_)
  rw [← sI ah]
  exact ⟨((none,0),(none,0),(none,0),(none,0),(none,0),(none,0)),rfl,hs.kept.toBelow,(hs.takeR (is:=[5,4,3,2,1,0]) rfl).fresh⟩
 refine qk (nt (qs (qr (oN 1 [(15,.v (vCase x0 b0))] [1,4] ?_))))
 obtain ⟨a4,aj,ak⟩:=bS ai
 refine k1 (fun _ w hs=>c_spec_l35Case (b0:=b0) aj (hv0_0.k hs) (hv0_1.k hs) (hv0_2.k hs) (hv0_3.k hs) (hv0_4.k hs)) (fun a3=>?_)
 refine oB 4 [(5,vb true)] [4] [(54,(eCase x0 b0)),(57,(eOffice (Office.mk a4 x1 ([] : List Int)) (a3.1,a3.2.1,a3.2.2.1,a3.2.2.2.1,a3.2.2.2.2,(none,0))))] ?_
 refine oe (nt (qe (JE_addnil 3 (List.nil (α:=Int)) rfl ?_)))
 refine rt [vOffice (Office.mk a4 x1 ([] : List Int)) (a3.1,a3.2.1,a3.2.2.1,a3.2.2.2.1,a3.2.2.2.2,(none,0)),.bool true] (fun _ w hs=>?_)
 rw [← sI ak]
 exact ⟨(a3.1,a3.2.1,a3.2.2.1,a3.2.2.2.1,a3.2.2.2.2,(none,0)),rfl,hs.kept.toBelow,(hs.takeR (is:=[1,1,1,1,1,0]) rfl).fresh⟩
theorem c_spec_OfficeOk {W : World} {x0 : Office} {b0 : AC × AC × AC × AC × AC × AC} {r : Bool} (h : spec_OfficeOk x0 = some r) (hv0_0 : SlView W x0.Case.Book.Rules b0.1.1 b0.1.2) (hv0_1 : SlView W x0.Case.Store.Facts b0.2.1.1 b0.2.1.2) (hv0_2 : SlView W x0.Case.Series.Points b0.2.2.1.1 b0.2.2.1.2) (hv0_3 : SlView W x0.Case.Member.Spells b0.2.2.2.1.1 b0.2.2.2.1.2) (hv0_4 : SlView W x0.Case.Member.Events b0.2.2.2.2.1.1 b0.2.2.2.2.1.2) (hv0_5 : SlView W x0.Paid b0.2.2.2.2.2.1 b0.2.2.2.2.2.2) :
  Gives0 Tryz.prog 74 #[vOffice x0 b0] W (.bool r):=by
 unfold spec_OfficeOk at h
 refine en Tryz.func74 Tryz.ntmps74 ?_
 refine qs (qr (oB 2 [(1,.p 0 0)] [] [(57,(eOffice x0 b0))] ?_))
 refine oe (nt (qs (qs (qr (oN 1 [(3,vi 0)] [1] ?_)))))
 refine oe (nt ?_)
 obtain ⟨bf,aa,a5⟩:=bS h
 obtain ⟨ab,ac,a5⟩:=brkS a5
 refine JC_cutP (τ:=(Int × Int × Int) × (Unit)) (fun y=>ab y.1 = some r) (fun a3=>[(1,.p 0 0)]) (fun a3=>[(57,(eOffice (Office.mk (Case.mk x0.Case.Book x0.Case.Store x0.Case.Series (Member.mk a3.1.1 a3.1.2.1 x0.Case.Member.Spells x0.Case.Member.Events)) a3.1.2.2 x0.Paid) b0))]) (fun a3=>[]) ?_ (fun a3 ae=>?_)
 ·refine qb (lp Unit aa (fun a4 a6=>[(3,vi a4),(1,.p 0 0)]) (fun a4 a6=>[(57,(eOffice x0 b0))]) (fun a4 a6=>[]) () [3,1] [] 1 (fun a4 a6 bg af a7=>?_))
  refine qs (qs (qr (oN 5 [(8,vb (decide (a4 < (x0.Paid.length : Int))))] [3,1] ?_)))
  refine oe (nt (cC af (fun ag=>?_) (fun ah=>?_)))
  ·refine qk (nt (qs (qb (qs (qr (oN 3 [(13,vi a4),(12,sv b0.2.2.2.2.2 x0.Paid)] [3,1] ?_))))))
   obtain ⟨ai,a8,aj⟩:=bS ag
   refine oi 1 (fun _ w hs=>(hv0_5.k hs)) a8 ?_
   refine ol 3 0 (.int .i64 ai) (fun _ w hs=>(hv0_5.k hs).flatq a8) ?_
   obtain ⟨ak,al,am⟩:=bS aj
   refine k0 (fun _ w hs=>c_spec_l01In al) ?_
   refine oN 1 [(17,vb (!ak))] [3,1] ?_
   refine oe (nt (cC am (fun an=>?_) (fun ao=>?_)))
   ·refine qs (qr (oN 1 [(2,vb false)] [] ?_))
    refine oe (nt (qe (br (nr (nr ?_)))))
    have ap:=leafR a7 an a5
    refine br (nr (nr ?_))
    obtain rfl:=sI ap
    exact re [.bool false]
   refine qk (bn (nt (qr (oN 3 [(3,vi (w64 (a4 + 1)))] [1] ?_))))
   exact oe (ct ao () [3,1] [] 1)
  refine qx (nx (nx (bh ?_)))
  have aq:=leafB a7 ah a5
  exact mp ((x0.Case.Member.Birth,x0.Case.Member.Joined,x0.Start),()) aq [1] [] 1
 have ar:=(congrFun ac _).symm.trans ae
 refine nt (qs ?_)
 obtain ⟨a9,au,av⟩:=bS ar
 refine JC_cut (τ:=Unit) (fun _=>[(2,vb a9)]) (fun _=>[(57,(eOffice (Office.mk (Case.mk x0.Case.Book x0.Case.Store x0.Case.Series (Member.mk a3.1.1 a3.1.2.1 x0.Case.Member.Spells x0.Case.Member.Events)) a3.1.2.2 x0.Paid) b0))]) (fun _=>[]) ?_ (fun _=>?_)
 ·refine qr (oN 2 [(19,.v (vCase (Case.mk x0.Case.Book x0.Case.Store x0.Case.Series (Member.mk a3.1.1 a3.1.2.1 x0.Case.Member.Spells x0.Case.Member.Events)) (b0.1,b0.2.1,b0.2.2.1,b0.2.2.2.1,b0.2.2.2.2.1)))] [1] ?_)
  obtain ⟨aw,ax,ay⟩:=bS au
  refine k0 (fun _ w hs=>c_spec_CaseOk (b0:=(b0.1,b0.2.1,b0.2.2.1,b0.2.2.2.1,b0.2.2.2.2.1)) ax (hv0_0.k hs) (hv0_1.k hs) (hv0_2.k hs) (hv0_3.k hs) (hv0_4.k hs)) ?_
  refine oN 1 [(21,vb aw)] [1] ?_
  refine oS 21 ay (fun az=>?_) (fun b4=>?_)
  ·refine oN 2 [(23,vi a3.1.2.2)] [21,1] ?_
   obtain ⟨b5,b6,b7⟩:=bS az
   refine k0 (fun _ w hs=>c_spec_MonthOk b6) ?_
   refine oN 2 [(26,vb b5)] [1] ?_
   refine oS 26 b7 (fun b8=>?_) (fun b9=>?_)
   ·refine oN 6 [(32,vb (decide ((x0.Paid.length : Int) ≤ 240)))] [1] ?_
    refine oS 32 b8 (fun ba=>?_) (fun bb=>?_)
    ·refine oN 6 [(38,vi (w64 (a3.1.2.2 + (x0.Paid.length : Int))))] [32] ?_
     obtain ⟨bc,bd,be⟩:=bS ba
     refine k0 (fun _ w hs=>c_spec_MonthOk bd) ?_
     refine oN 2 [(2,vb bc)] [] ?_
     refine oe ?_
     obtain rfl:=sI be
     exact mt () [2] [] 1
    refine oN 9 [(2,vb false)] [] ?_
    refine oe ?_
    obtain rfl:=sI bb
    exact mt () [2] [] 1
   refine oN 15 [(2,vb false)] [] ?_
   refine oe ?_
   obtain rfl:=sI b9
   exact mt () [2] [] 1
  refine oN 20 [(2,vb false)] [] ?_
  refine oe ?_
  obtain rfl:=sI b4
  exact mt () [2] [] 1
 refine nt (qe ?_)
 obtain rfl:=sI av
 exact re [.bool a9]
theorem c_spec_l38Plain {W : World} {x0 : Act} {r : Act} (h : spec_l38Plain x0 = some r)  :
  Gives0 Tryz.prog 124 #[vAct x0] W (vAct r):=by
 unfold spec_l38Plain at h
 refine en Tryz.func124 Tryz.ntmps124 ?_
 refine qs (qr (oB 2 [(2,.p 1 0),(1,.p 0 0)] [] [(87,(eAct x0)),(87,(eAct (Act.mk 0 (Fact.mk 0 0 0 0 0) (Point.mk 0 0 0) 0)))] ?_))
 refine oe (nt (qs (qr (oB 5 [(3,.p 2 0)] [2,1] [(87,(eAct x0)),(87,(eAct (Act.mk 0 (Fact.mk 0 0 0 0 0) (Point.mk 0 0 0) 0))),(87,(eAct (Act.mk x0.Kind (Fact.mk 0 0 0 0 0) (Point.mk 0 0 0) 0)))] ?_))))
 refine oe (nt (qs (qs (qr (oN 2 [(8,vi x0.Kind)] [3,2,1] ?_)))))
 refine oe (nt (qb (qs (qr (oN 2 [(9,vb (x0.Kind == 1))] [8,3,2,1] ?_)))))
 refine oe (nt ?_)
 obtain ⟨a4,a5,a6⟩:=jS h
 refine JC_cutP (τ:=(Int × Int × Int × Int × Int × Int × Int × Int × Int) × (Unit)) (fun y=>a4 y.1 = some r) (fun a3=>[(3,.p 2 0),(2,.p 1 0)]) (fun a3=>[(87,(eAct x0)),(87,(eAct (Act.mk 0 (Fact.mk 0 0 0 0 0) (Point.mk 0 0 0) 0))),(87,(eAct (Act.mk x0.Kind (Fact.mk a3.1.1 a3.1.2.1 a3.1.2.2.1 a3.1.2.2.2.1 a3.1.2.2.2.2.1) (Point.mk a3.1.2.2.2.2.2.1 a3.1.2.2.2.2.2.2.1 a3.1.2.2.2.2.2.2.2.1) a3.1.2.2.2.2.2.2.2.2)))]) (fun a3=>[]) ?_ (fun a3 a7=>?_)
 ·refine cC a6 (fun a8=>?_) (fun a9=>?_)
  ·refine qr (oB 4 [] [3,2] [(87,(eAct x0)),(87,(eAct (Act.mk 0 (Fact.mk 0 0 0 0 0) (Point.mk 0 0 0) 0))),(87,(eAct (Act.mk x0.Kind x0.Fact (Point.mk 0 0 0) 0)))] ?_)
   exact oe (mp ((x0.Fact.Key,x0.Fact.From,x0.Fact.To,x0.Fact.Known,x0.Fact.Value,0,0,0,0),()) a8 [3,2] [] 3)
  refine qs (qr (oN 2 [(14,vb (x0.Kind == 2))] [8,3,2,1] ?_))
  refine oe (nt (cC a9 (fun aa=>?_) (fun ab=>?_)))
  ·refine qr (oB 4 [] [3,2] [(87,(eAct x0)),(87,(eAct (Act.mk 0 (Fact.mk 0 0 0 0 0) (Point.mk 0 0 0) 0))),(87,(eAct (Act.mk x0.Kind (Fact.mk 0 0 0 0 0) x0.Point 0)))] ?_)
   exact oe (mp ((0,0,0,0,0,x0.Point.Month,x0.Point.Known,x0.Point.Value,0),()) aa [3,2] [] 3)
  refine qs (qr (oN 2 [(19,vb (x0.Kind == 3))] [3,2,1] ?_))
  refine oe (nt (cC ab (fun ac=>?_) (fun ae=>?_)))
  ·refine qr (oB 4 [] [3,2] [(87,(eAct x0)),(87,(eAct (Act.mk 0 (Fact.mk 0 0 0 0 0) (Point.mk 0 0 0) 0))),(87,(eAct (Act.mk x0.Kind (Fact.mk 0 0 0 0 0) (Point.mk 0 0 0) x0.N)))] ?_)
   exact oe (mp ((0,0,0,0,0,0,0,0,x0.N),()) ac [3,2] [] 3)
  exact qk (mp ((0,0,0,0,0,0,0,0,0),()) ae [3,2] [] 3)
 have af:=(congrFun a5 _).symm.trans a7
 refine bn (nt (qs (qr (oB 2 [] [2] [(87,(eAct x0)),(87,(eAct (Act.mk x0.Kind (Fact.mk a3.1.1 a3.1.2.1 a3.1.2.2.1 a3.1.2.2.2.1 a3.1.2.2.2.2.1) (Point.mk a3.1.2.2.2.2.2.1 a3.1.2.2.2.2.2.2.1 a3.1.2.2.2.2.2.2.2.1) a3.1.2.2.2.2.2.2.2.2))),(87,(eAct (Act.mk x0.Kind (Fact.mk a3.1.1 a3.1.2.1 a3.1.2.2.1 a3.1.2.2.2.1 a3.1.2.2.2.2.1) (Point.mk a3.1.2.2.2.2.2.1 a3.1.2.2.2.2.2.2.1 a3.1.2.2.2.2.2.2.2.1) a3.1.2.2.2.2.2.2.2.2)))] ?_))))
 refine oe (nt (qe ?_))
 obtain rfl:=sI af
 exact re [vAct (Act.mk x0.Kind (Fact.mk a3.1.1 a3.1.2.1 a3.1.2.2.1 a3.1.2.2.2.1 a3.1.2.2.2.2.1) (Point.mk a3.1.2.2.2.2.2.1 a3.1.2.2.2.2.2.2.1 a3.1.2.2.2.2.2.2.2.1) a3.1.2.2.2.2.2.2.2.2)]
theorem c_spec_ActOk {W : World} {x0 : Act} {r : Bool} (h : spec_ActOk x0 = some r)  :
  Gives0 Tryz.prog 75 #[vAct x0] W (.bool r):=by
 unfold spec_ActOk at h
 refine en Tryz.func75 Tryz.ntmps75 ?_
 refine qs (qr (oB 2 [(1,.p 0 0)] [] [(87,(eAct x0))] ?_))
 refine oe (nt (qs (qs ?_)))
 obtain ⟨a5,a6,a7⟩:=bS h
 refine JC_cut (τ:=Unit) (fun _=>[(1,.p 0 0),(18,vb a5)]) (fun _=>[(87,(eAct x0))]) (fun _=>[]) ?_ (fun _=>?_)
 ·refine JC_quiet (by kernel_rfl) (by kernel_rfl) ?_
  refine qN 2 [(4,.v (vAct x0)),(3,.v (vAct x0))] [1] ?_
  obtain ⟨a3,a8,a9⟩:=bS a6
  refine q0 (fun _ w hs=>c_spec_l38Plain a8) ?_
  refine qN 2 [(7,vb (!((x0.Kind == a3.Kind) && (((x0.Fact.Key == a3.Fact.Key) && ((x0.Fact.From == a3.Fact.From) && ((x0.Fact.To == a3.Fact.To) && ((x0.Fact.Known == a3.Fact.Known) && ((x0.Fact.Value == a3.Fact.Value) && true))))) && (((x0.Point.Month == a3.Point.Month) && ((x0.Point.Known == a3.Point.Known) && ((x0.Point.Value == a3.Point.Value) && true))) && ((x0.N == a3.N) && true))))))] [1] ?_
  refine qS 7 a9 (fun aa=>?_) (fun ab=>?_)
  ·refine qN 11 [(18,vb true)] [1] ?_
   refine qz ?_
   obtain rfl:=sI aa
   exact mt () [1,18] [] 1
  refine qN 6 [(13,vb (x0.Fact.Known != 0))] [1] ?_
  refine qS 13 ab (fun ac=>?_) (fun ae=>?_)
  ·refine qN 5 [(18,vb true)] [1] ?_
   refine qz ?_
   obtain rfl:=sI ac
   exact mt () [1,18] [] 1
  refine qN 5 [(18,vb (x0.Point.Known != 0))] [1] ?_
  refine qz ?_
  obtain rfl:=sI ae
  exact mt () [1,18] [] 1
 refine nt (cC a7 (fun af=>?_) (fun ag=>?_))
 ·refine qs (qr (oN 1 [(2,vb false)] [] ?_))
  refine oe (nt (qe (nr ?_)))
  obtain rfl:=sI af
  exact re [.bool false]
 refine qk (nt (qs ?_))
 obtain ⟨a4,ah,ai⟩:=bS ag
 refine JC_cut (τ:=Unit) (fun _=>[(2,vb a4)]) (fun _=>[(87,(eAct x0))]) (fun _=>[]) ?_ (fun _=>?_)
 ·refine qr (oN 4 [(22,vb (x0.Kind == 1))] [1] ?_)
  refine oS 22 ah (fun aj=>?_) (fun ak=>?_)
  ·refine oN 15 [(2,vb true)] [] ?_
   refine oe ?_
   obtain rfl:=sI aj
   exact mt () [2] [] 1
  refine oN 5 [(27,vb (x0.Kind == 2))] [1] ?_
  refine oS 27 ak (fun al=>?_) (fun am=>?_)
  ·refine oN 10 [(2,vb true)] [] ?_
   refine oe ?_
   obtain rfl:=sI al
   exact mt () [2] [] 1
  refine oN 4 [(31,vb (x0.Kind == 3))] [27,1] ?_
  refine oS 31 am (fun an=>?_) (fun ao=>?_)
  ·refine oN 2 [(33,vi x0.N)] [31,27] ?_
   obtain ⟨ap,aq,ar⟩:=bS an
   refine k0 (fun _ w hs=>c_spec_l01In aq) ?_
   refine oN 3 [(2,vb ap)] [] ?_
   refine oe ?_
   obtain rfl:=sI ar
   exact mt () [2] [] 1
  refine oN 6 [(2,vb false)] [] ?_
  refine oe ?_
  obtain rfl:=sI ao
  exact mt () [2] [] 1
 refine nt (qe ?_)
 obtain rfl:=sI ai
 exact re [.bool a4]
theorem c_spec_l37Copy {W : World} {x0 : Office} {b0 : AC × AC × AC × AC × AC × AC} {r : Office} (h : spec_l37Copy x0 = some r) (hv0_0 : SlView W x0.Case.Book.Rules b0.1.1 b0.1.2) (hv0_1 : SlView W x0.Case.Store.Facts b0.2.1.1 b0.2.1.2) (hv0_2 : SlView W x0.Case.Series.Points b0.2.2.1.1 b0.2.2.1.2) (hv0_3 : SlView W x0.Case.Member.Spells b0.2.2.2.1.1 b0.2.2.2.1.2) (hv0_4 : SlView W x0.Case.Member.Events b0.2.2.2.2.1.1 b0.2.2.2.2.1.2) (hv0_5 : SlView W x0.Paid b0.2.2.2.2.2.1 b0.2.2.2.2.2.2) :
  Gives Tryz.prog 76 #[vOffice x0 b0] W (fun y : AC × AC × AC × AC × AC × AC=>vOffice r y) (fun y=>(rOffice r y)):=by
 unfold spec_l37Copy at h
 refine en Tryz.func76 Tryz.ntmps76 ?_
 refine qs (qr (oB 2 [(2,.p 1 0),(1,.p 0 0)] [] [(57,(eOffice x0 b0)),(57,[.slice none 0 0,.slice none 0 0,.slice none 0 0,.int .i64 0,.int .i64 0,.slice none 0 0,.slice none 0 0,.int .i64 0,.slice none 0 0])] ?_))
 refine oe (nt (qs ?_))
 obtain ⟨a5,a9,ab⟩:=bS h
 obtain ⟨a6,aa,ac⟩:=bS ab
 refine JC_cut (τ:=(AC × AC × AC × AC × AC) × AC) (fun a4=>[(2,.p 1 0)]) (fun a4=>[(57,(eOffice x0 b0)),(57,(eOffice (Office.mk a5 x0.Start a6) (a4.1.1,a4.1.2.1,a4.1.2.2.1,a4.1.2.2.2.1,a4.1.2.2.2.2,a4.2)))]) (fun a4=>([SlRes 3 a6 a4.2.1 a4.2.2] ++ rCase2 a5 a4.1)) ?_ (fun a4=>?_)
 ·refine jw [2,1] [] ?_
  refine JC_heldN (ks:=[0]) (Rk:=[]) 11 (by kernel_rfl) (by kernel_rfl) ?_
  refine htq 0 (.p 0 0) [] ?_
  refine htq 1 (.v (vCase x0.Case (b0.1,b0.2.1,b0.2.2.1,b0.2.2.2.1,b0.2.2.2.2.1))) [] ?_
  refine hk [4,2,1] ?_
  refine htq 3 (.p 0 7) [] ?_
  refine htq 4 (vi x0.Start) [] ?_
  refine hk [7,4,2,1] ?_
  refine htq 6 (.p 0 8) [] ?_
  refine hk [9,7,4,2] ?_
  refine htq 7 (sv b0.2.2.2.2.2 x0.Paid) [] ?_
  refine hk [10,7,4,2] ?_
  refine ha2 2 5 ?_ ?_
  ·refine hi (fun γ0 δ hm=>?_)
   refine g1 (fun w hs=>c_spec_l35Case (b0:=(b0.1,b0.2.1,b0.2.2.1,b0.2.2.2.1,b0.2.2.2.2.1)) a9 (hv0_0.k hs) (hv0_1.k hs) (hv0_2.k hs) (hv0_3.k hs) (hv0_4.k hs)) (fun a3=>?_)
   refine gn hm [5,10,7,2] [] ?_
   refine ha1 5 ?_
   refine hi (fun γ0 δ hm=>?_)
   refine gb [] (rCase2 a5 a3) 3 0 [] ([] : List Int) (own_flat (by kernel_rfl)) (fun a8=>?_)
   refine gn hm [8,5,10,7,2] [] ?_
   refine ha1 8 ?_
   refine hi (fun γ0 δ hm=>?_)
   refine ga 55 b0.2.2.2.2.2.2 Tryz.t3 (.int .i64 0) (fun w hs=>⟨b0.2.2.2.2.2.2,(hv0_5.k hs)⟩) aa (fun a7=>?_)
   refine gn hm [11,5,7,2] [] ?_
   refine htq 9 (.v (vOffice (Office.mk a5 x0.Start a6) (a3.1,a3.2.1,a3.2.2.1,a3.2.2.2.1,a3.2.2.2.2,a7))) [] ?_
   refine hk [12,2] ?_
   refine ha1 10 ?_
   refine hi (fun γ0 δ hm=>?_)
   refine gs [(12,.v (vOffice (Office.mk a5 x0.Start a6) (a3.1,a3.2.1,a3.2.2.1,a3.2.2.2.1,a3.2.2.2.2,a7))),(2,.p 1 0)] [(57,(eOffice x0 b0)),(57,(eOffice (Office.mk a5 x0.Start a6) (a3.1,a3.2.1,a3.2.2.1,a3.2.2.2.1,a3.2.2.2.2,a7)))] (fun δ2=>?_)
   refine gd hm [2] [] ?_
   exact hd (a3,a7) [2] [0,0,0,0,0,0] 2
  ·refine hi (fun γ0 δ hm=>?_)
   refine gb [] [] 3 0 [] ([] : List Int) (own_flat (by kernel_rfl)) (fun a8=>?_)
   refine gn hm [8,10,7,4,2] [] ?_
   refine ha1 2 ?_
   refine hi (fun γ0 δ hm=>?_)
   refine g1 (fun w hs=>c_spec_l35Case (b0:=(b0.1,b0.2.1,b0.2.2.1,b0.2.2.2.1,b0.2.2.2.2.1)) a9 (hv0_0.k hs) (hv0_1.k hs) (hv0_2.k hs) (hv0_3.k hs) (hv0_4.k hs)) (fun a3=>?_)
   refine gn hm [5,8,10,7,2] [] ?_
   refine ha1 8 ?_
   refine JHi_res (R':=([SlRes 3 ([] : List Int) a8.1 a8.2] ++ rCase2 a5 a3)) [5,0,0,0,0,0] (by kernel_rfl) ?_
   refine hi (fun γ0 δ hm=>?_)
   refine ga 55 b0.2.2.2.2.2.2 Tryz.t3 (.int .i64 0) (fun w hs=>⟨b0.2.2.2.2.2.2,(hv0_5.k hs)⟩) aa (fun a7=>?_)
   refine gn hm [11,5,7,2] [] ?_
   refine htq 9 (.v (vOffice (Office.mk a5 x0.Start a6) (a3.1,a3.2.1,a3.2.2.1,a3.2.2.2.1,a3.2.2.2.2,a7))) [] ?_
   refine hk [12,2] ?_
   refine ha1 10 ?_
   refine hi (fun γ0 δ hm=>?_)
   refine gs [(12,.v (vOffice (Office.mk a5 x0.Start a6) (a3.1,a3.2.1,a3.2.2.1,a3.2.2.2.1,a3.2.2.2.2,a7))),(2,.p 1 0)] [(57,(eOffice x0 b0)),(57,(eOffice (Office.mk a5 x0.Start a6) (a3.1,a3.2.1,a3.2.2.1,a3.2.2.2.1,a3.2.2.2.2,a7)))] (fun δ2=>?_)
   refine gd hm [2] [] ?_
   exact hd (a3,a7) [2] [0,0,0,0,0,0] 2
 refine nt (qe (rt [vOffice (Office.mk a5 x0.Start a6) (a4.1.1,a4.1.2.1,a4.1.2.2.1,a4.1.2.2.2.1,a4.1.2.2.2.2,a4.2)] (fun γ w hs=>?_)))
 rw [← sI ac]
 exact ⟨(a4.1.1,a4.1.2.1,a4.1.2.2.1,a4.1.2.2.2.1,a4.1.2.2.2.2,a4.2),rfl,hs.kept.toBelow,(hs.takeR (is:=[1,1,1,1,1,0]) rfl).fresh⟩
theorem c_spec_AddFact {W : World} {x0 : Store} {a0_0 : Option Addr} {c0_0 : Nat} {x1 : Fact} {r : Store × Bool} (h : spec_AddFact x0 x1 = some r) (hv0_0 : SlView W x0.Facts a0_0 c0_0) :
  Gives Tryz.prog 83 #[vStore x0 (a0_0,c0_0),vFact x1] W (fun y : AC=>.tuple #[vStore r.1 y,.bool r.2]) (fun y=>[SlRes 84 r.1.Facts y.1 y.2]):=by
 unfold spec_AddFact at h
 refine en Tryz.func83 Tryz.ntmps83 ?_
 refine qs (qr (oB 4 [(4,.p 2 0),(3,.p 1 0),(2,.p 0 0)] [] [(45,(eStore x0 (a0_0,c0_0))),(84,(eFact x1)),(45,[.slice none 0 0])] ?_))
 refine oe (nt (qs (qr (oN 1 [(7,.v (vStore x0 (a0_0,c0_0)))] [4,3,2] ?_))))
 obtain ⟨a6,aa,ab⟩:=bS h
 refine k1 (fun _ w hs=>c_spec_l05Copy aa (hv0_0.k hs)) (fun a5=>?_)
 refine oB 2 [(6,.p 3 0)] [4,3,2] [(45,(eStore x0 (a0_0,c0_0))),(84,(eFact x1)),(45,[.slice none 0 0]),(45,(eStore a6 a5))] ?_
 refine oe (nt (qs (qr (oN 3 [(11,.v (vFact x1)),(10,sv a5 a6.Facts)] [6,4,2] ?_))))
 refine ob [] [SlRes 84 a6.Facts a5.1 a5.2] 84 1 [.int .i64 x1.Key,.int .i64 x1.From,.int .i64 x1.To,.int .i64 x1.Known,.int .i64 x1.Value] ([x1] : List Fact) (own_flat (by kernel_rfl)) (fun a8=>?_)
 refine or_ [1,0] ?_
 obtain ⟨a4,ac,ae⟩:=bS ab
 refine oa 43 a8.2 Tryz.t84 (vFact (Fact.mk 0 0 0 0 0)) (fun _ w hs=>⟨a8.2,(hs.view 1 rfl)⟩) ac (fun a3=>?_)
 refine oB 2 [] [6,4,2] [(45,(eStore x0 (a0_0,c0_0))),(84,(eFact x1)),(45,[.slice none 0 0]),(45,(eStore (Store.mk a4) a3))] ?_
 refine oe (nt (qs (qs ?_)))
 obtain ⟨af,ag,ah⟩:=bS ae
 refine JC_cut (τ:=Unit) (fun _=>[(2,.p 0 0),(4,.p 2 0),(6,.p 3 0),(22,vb af)]) (fun _=>[(45,(eStore x0 (a0_0,c0_0))),(84,(eFact x1)),(45,[.slice none 0 0]),(45,(eStore (Store.mk a4) a3))]) (fun _=>[SlRes 84 a4 a3.1 a3.2]) ?_ (fun _=>?_)
 ·refine qr (oN 1 [(15,.v (vStore x0 (a0_0,c0_0)))] [6,4,2] ?_)
  obtain ⟨ai,aj,ak⟩:=bS ag
  refine k0 (fun _ w hs=>c_spec_StoreOk aj (hv0_0.k hs)) ?_
  refine oN 2 [(18,vb (!ai))] [6,4,2] ?_
  refine oS 18 ak (fun al=>?_) (fun am=>?_)
  ·refine oN 4 [(22,vb true)] [6,4,2] ?_
   refine oe ?_
   obtain rfl:=sI al
   exact mt () [2,4,6,22] [0] 4
  refine oN 1 [(19,.v (vStore (Store.mk a4) a3))] [18,6,4,2] ?_
  obtain ⟨an,ao,ap⟩:=bS am
  refine k0 (fun _ w hs=>c_spec_StoreOk ao (hs.view 0 rfl)) ?_
  refine oN 2 [(22,vb (!an))] [6,4,2] ?_
  refine oe ?_
  obtain rfl:=sI ap
  exact mt () [2,4,6,22] [0] 4
 refine nt (cC ah (fun aq=>?_) (fun ar=>?_))
 ·refine qs (qr (oN 1 [(23,.v (vStore x0 (a0_0,c0_0)))] [4] ?_))
  obtain ⟨a9,au,av⟩:=bS aq
  refine k1 (fun _ w hs=>c_spec_l05Copy au (hv0_0.k hs)) (fun a7=>?_)
  refine oB 2 [(5,vb false)] [4] [(45,(eStore x0 (a0_0,c0_0))),(84,(eFact x1)),(45,(eStore a9 a7)),(45,(eStore (Store.mk a4) a3))] ?_
  refine oe (nt (qe (nr (rt [vStore a9 a7,.bool false] (fun _ w hs=>?_)))))
  rw [← sI av]
  exact ⟨a7,rfl,hs.kept.toBelow,(hs.takeR (is:=[0]) rfl).fresh⟩
 refine qk (nt (qs (qr (oB 3 [(5,vb true)] [4] [(45,(eStore x0 (a0_0,c0_0))),(84,(eFact x1)),(45,(eStore (Store.mk a4) a3)),(45,(eStore (Store.mk a4) a3))] ?_))))
 refine oe (nt (qe (rt [vStore (Store.mk a4) a3,.bool true] (fun _ w hs=>?_))))
 rw [← sI ar]
 exact ⟨a3,rfl,hs.kept.toBelow,(hs.takeR (is:=[0]) rfl).fresh⟩
theorem c_spec_LearnFact {W : World} {x0 : Office} {b0 : AC × AC × AC × AC × AC × AC} {x1 : Fact} {r : Office × Bool} (h : spec_LearnFact x0 x1 = some r) (hv0_0 : SlView W x0.Case.Book.Rules b0.1.1 b0.1.2) (hv0_1 : SlView W x0.Case.Store.Facts b0.2.1.1 b0.2.1.2) (hv0_2 : SlView W x0.Case.Series.Points b0.2.2.1.1 b0.2.2.1.2) (hv0_3 : SlView W x0.Case.Member.Spells b0.2.2.2.1.1 b0.2.2.2.1.2) (hv0_4 : SlView W x0.Case.Member.Events b0.2.2.2.2.1.1 b0.2.2.2.2.1.2) (hv0_5 : SlView W x0.Paid b0.2.2.2.2.2.1 b0.2.2.2.2.2.2) :
  Gives Tryz.prog 36 #[vOffice x0 b0,vFact x1] W (fun y : AC × AC × AC × AC × AC × AC=>.tuple #[vOffice r.1 y,.bool r.2]) (fun y=>(rOffice r.1 y)):=by
 unfold spec_LearnFact at h
 refine en Tryz.func36 Tryz.ntmps36 ?_
 refine qs (qr (oB 4 [(4,.p 2 0),(3,.p 1 0),(2,.p 0 0)] [] [(57,(eOffice x0 b0)),(84,(eFact x1)),(57,[.slice none 0 0,.slice none 0 0,.slice none 0 0,.int .i64 0,.int .i64 0,.slice none 0 0,.slice none 0 0,.int .i64 0,.slice none 0 0])] ?_))
 refine oe (nt (qs (qr (oN 1 [(9,.v (vOffice x0 b0))] [4,3,2] ?_))))
 obtain ⟨a4,a7,a8⟩:=bS h
 refine k1 (fun _ w hs=>c_spec_l37Copy (b0:=b0) a7 (hv0_0.k hs) (hv0_1.k hs) (hv0_2.k hs) (hv0_3.k hs) (hv0_4.k hs) (hv0_5.k hs)) (fun a3=>?_)
 refine oB 2 [(6,.p 3 0)] [4,3,2] [(57,(eOffice x0 b0)),(84,(eFact x1)),(57,[.slice none 0 0,.slice none 0 0,.slice none 0 0,.int .i64 0,.int .i64 0,.slice none 0 0,.slice none 0 0,.int .i64 0,.slice none 0 0]),(57,(eOffice a4 a3))] ?_
 refine oe (nt (qs (qr (oB 8 [] [6,4,3,2] [(57,(eOffice x0 b0)),(84,(eFact (Fact.mk x1.Key x1.From x1.To (w64 (x0.Start + (x0.Paid.length : Int))) x1.Value))),(57,[.slice none 0 0,.slice none 0 0,.slice none 0 0,.int .i64 0,.int .i64 0,.slice none 0 0,.slice none 0 0,.int .i64 0,.slice none 0 0]),(57,(eOffice a4 a3))] ?_))))
 refine oe (nt (qs (qr (oN 4 [(22,.v (vFact (Fact.mk x1.Key x1.From x1.To (w64 (x0.Start + (x0.Paid.length : Int))) x1.Value))),(21,.v (vStore x0.Case.Store b0.2.1))] [6,4,2] ?_))))
 obtain ⟨a5,a9,aa⟩:=bS a8
 refine k1 (fun _ w hs=>c_spec_AddFact a9 (hv0_1.k hs)) (fun a6=>?_)
 refine oB 6 [(8,vb a5.2),(7,.p 4 0)] [6,4,2] [(57,(eOffice x0 b0)),(84,(eFact (Fact.mk x1.Key x1.From x1.To (w64 (x0.Start + (x0.Paid.length : Int))) x1.Value))),(57,[.slice none 0 0,.slice none 0 0,.slice none 0 0,.int .i64 0,.int .i64 0,.slice none 0 0,.slice none 0 0,.int .i64 0,.slice none 0 0]),(57,(eOffice a4 a3)),(45,(eStore a5.1 a6))] ?_
 refine oe (nt (qs (qs ?_)))
 obtain ⟨ab,ac,ae⟩:=bS aa
 refine JC_cut (τ:=Unit) (fun _=>[(4,.p 2 0),(6,.p 3 0),(7,.p 4 0),(32,vb ab)]) (fun _=>[(57,(eOffice x0 b0)),(84,(eFact (Fact.mk x1.Key x1.From x1.To (w64 (x0.Start + (x0.Paid.length : Int))) x1.Value))),(57,[.slice none 0 0,.slice none 0 0,.slice none 0 0,.int .i64 0,.int .i64 0,.slice none 0 0,.slice none 0 0,.int .i64 0,.slice none 0 0]),(57,(eOffice a4 a3)),(45,(eStore a5.1 a6))]) (fun _=>(rOffice a4 a3 ++ [SlRes 84 a5.1.Facts a6.1 a6.2])) ?_ (fun _=>?_)
 ·refine qr (oN 1 [(26,.v (vOffice x0 b0))] [8,7,6,4] ?_)
  obtain ⟨af,ag,ah⟩:=bS ac
  refine k0 (fun _ w hs=>c_spec_OfficeOk (b0:=b0) ag (hv0_0.k hs) (hv0_1.k hs) (hv0_2.k hs) (hv0_3.k hs) (hv0_4.k hs) (hv0_5.k hs)) ?_
  refine oN 2 [(29,vb (!af))] [8,7,6,4] ?_
  refine oS 29 ah (fun ai=>?_) (fun aj=>?_)
  ·refine oN 3 [(32,vb true)] [7,6,4] ?_
   refine oe ?_
   obtain rfl:=sI ai
   exact mt () [4,6,7,32] [1,1,1,1,1,1,0] 5
  refine oN 3 [(32,vb (!a5.2))] [7,6,4] ?_
  refine oe ?_
  obtain rfl:=sI aj
  exact mt () [4,6,7,32] [1,1,1,1,1,1,0] 5
 refine nt (cC ae (fun ak=>?_) (fun al=>?_))
 ·refine qs (qr (oB 3 [(5,vb false)] [4] [(57,(eOffice x0 b0)),(84,(eFact (Fact.mk x1.Key x1.From x1.To (w64 (x0.Start + (x0.Paid.length : Int))) x1.Value))),(57,(eOffice a4 a3)),(57,(eOffice a4 a3)),(45,(eStore a5.1 a6))] ?_))
  refine oe (nt (qe (nr (rt [vOffice a4 a3,.bool false] (fun _ w hs=>?_)))))
  rw [← sI ak]
  exact ⟨(a3.1,a3.2.1,a3.2.2.1,a3.2.2.2.1,a3.2.2.2.2.1,a3.2.2.2.2.2),rfl,hs.kept.toBelow,(hs.takeR (is:=[0,0,0,0,0,0]) rfl).fresh⟩
 refine qk (nt (qs (qr (oB 4 [] [4,6] [(57,(eOffice x0 b0)),(84,(eFact (Fact.mk x1.Key x1.From x1.To (w64 (x0.Start + (x0.Paid.length : Int))) x1.Value))),(57,[.slice none 0 0,.slice none 0 0,.slice none 0 0,.int .i64 0,.int .i64 0,.slice none 0 0,.slice none 0 0,.int .i64 0,.slice none 0 0]),(57,(eOffice (Office.mk (Case.mk a4.Case.Book a5.1 a4.Case.Series a4.Case.Member) a4.Start a4.Paid) (a3.1,a6,a3.2.2.1,a3.2.2.2.1,a3.2.2.2.2.1,a3.2.2.2.2.2))),(45,(eStore a5.1 a6))] ?_))))
 refine oe (nt (qs (qr (oB 3 [(5,vb true)] [4] [(57,(eOffice x0 b0)),(84,(eFact (Fact.mk x1.Key x1.From x1.To (w64 (x0.Start + (x0.Paid.length : Int))) x1.Value))),(57,(eOffice (Office.mk (Case.mk a4.Case.Book a5.1 a4.Case.Series a4.Case.Member) a4.Start a4.Paid) (a3.1,a6,a3.2.2.1,a3.2.2.2.1,a3.2.2.2.2.1,a3.2.2.2.2.2))),(57,(eOffice (Office.mk (Case.mk a4.Case.Book a5.1 a4.Case.Series a4.Case.Member) a4.Start a4.Paid) (a3.1,a6,a3.2.2.1,a3.2.2.2.1,a3.2.2.2.2.1,a3.2.2.2.2.2))),(45,(eStore a5.1 a6))] ?_))))
 refine oe (nt (qe (rt [vOffice (Office.mk (Case.mk a4.Case.Book a5.1 a4.Case.Series a4.Case.Member) a4.Start a4.Paid) (a3.1,a6,a3.2.2.1,a3.2.2.2.1,a3.2.2.2.2.1,a3.2.2.2.2.2),.bool true] (fun _ w hs=>?_))))
 rw [← sI al]
 exact ⟨(a3.1,a6,a3.2.2.1,a3.2.2.2.1,a3.2.2.2.2.1,a3.2.2.2.2.2),rfl,hs.kept.toBelow,(hs.takeR (is:=[0,5,1,1,1,1]) rfl).fresh⟩
theorem c_spec_l38If {W : World} {x0 : Bool} {r : Int} (h : spec_l38If x0 = some r)  :
  Gives0 Tryz.prog 77 #[.bool x0] W (.int .i64 r):=by
 unfold spec_l38If at h
 refine en Tryz.func77 Tryz.ntmps77 ?_
 refine qs (qr (oN 1 [] [0] ?_))
 refine oe (nt (qs (qs (qr (oN 1 [(3,vb x0)] [] ?_)))))
 refine oe (nt (cC h (fun a3=>?_) (fun a4=>?_)))
 ·refine qs (qr (oN 1 [(2,vi 1)] [] ?_))
  refine oe (nt (qe (nr ?_)))
  obtain rfl:=sI a3
  exact re [.int .i64 1]
 refine qk (nt (qs (qr (oN 1 [(2,vi 0)] [] ?_))))
 refine oe (nt (qe ?_))
 obtain rfl:=sI a4
 exact re [.int .i64 0]
end Go.Pen
