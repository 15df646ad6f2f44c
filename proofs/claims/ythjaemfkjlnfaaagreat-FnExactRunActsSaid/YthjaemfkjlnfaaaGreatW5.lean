/-
  Each Go function does what its plain function says: written by a program of ours.
-/
import Derived.Test.YthjaemfkjlnfaaaGreatW4
import Derived.Test.YthjaemfkjlnfaaaGreatProg
import Derived.Test.YthjaemfkjlnfaaaGreatPenK
import Derived.Test.YthjaemfkjlnfaaaGreatPenQ
import Derived.Test.YthjaemfkjlnfaaaGreatPenU
namespace Go.Pen
open Go.Proofs Go.RowKit
set_option linter.unusedVariables false
set_option linter.unusedSimpArgs false
set_option maxRecDepth 100000
set_option maxHeartbeats 4000000
theorem c_laws_markSpellS {W : World} {x0 : List Spell} {a0_0 : Option Addr} {c0_0 : Nat} {e0_0 : TypeId} {x1 : Int} {r : Int × (List Spell)} (h : laws_markSpellS x0 x1 = some r)  :
  GivesM Tryz.prog 117 #[.slice a0_0 x0.length c0_0,.int .i64 x1] W [SlRes e0_0 x0 a0_0 c0_0] [SlRes e0_0 r.2 a0_0 c0_0] (.int .i64 r.1):=by
 unfold laws_markSpellS at h
 refine enM Tryz.func117 Tryz.ntmps117 (fun Fs=>?_)
 refine qs (qr (oN 1 [] [0,1] ?_))
 refine oe (nt (qs (qs (qr (oN 1 [(5,vi 0)] [0,1] ?_)))))
 refine oe (nt ?_)
 obtain ⟨bg,an,a9⟩:=bS h
 obtain ⟨ao,ap,a9⟩:=brkS a9
 refine JC_cutP (τ:=((List Spell) × Int) × (Unit)) (fun y=>ao y.1 = some r) (fun a4=>[(0,vs a0_0 a4.1.1 c0_0),(1,vi a4.1.2)]) (fun a4=>[]) (fun a4=>[SlRes e0_0 a4.1.1 a0_0 c0_0]) ?_ (fun a4 aq=>?_)
 ·refine qb (lp Unit an (fun a3 aa=>[(5,vi a3.1),(0,vs a0_0 a3.2.1 c0_0),(1,vi a3.2.2)]) (fun a3 aa=>[]) (fun a3 aa=>[SlRes e0_0 a3.2.1 a0_0 c0_0]) () [5,0,1] [0] 0 (fun a3 aa bi ar au=>?_))
  refine qs (qs (qr (oN 4 [(9,vb (decide (a3.1 < (a3.2.1.length : Int))))] [5,0,1] ?_)))
  refine oe (nt (cC ar (fun av=>?_) (fun aw=>?_)))
  ·refine qk (nt (qs (qb (qs (qr (oN 3 [(14,vi a3.2.2),(13,vi a3.1),(12,vs a0_0 a3.2.1 c0_0)] [5,0,1] ?_))))))
   obtain ⟨ab,aj,ax⟩:=bS av
   refine oi 4 (fun _ w hs=>(hs.view 0 rfl)) aj ?_
   refine oN 1 [(16,.q a0_0 (Int.toNat a3.1 * 4))] [14,5,0,1] ?_
   obtain ⟨ac,a5,ay⟩:=bS ax
   replace a5:=(sI a5).symm
   refine JO_storeq (α:=Spell) (d:=a0_0) (vs:=[.int .i64 a3.2.2]) (j:=a3.1) (x':=(Spell.mk a3.2.2 ab.To ab.Percent ab.Leave)) rfl (by kernel_rfl) 0 (by kernel_rfl) aj (Rc:=[]) (Rr:=[]) rfl (by kernel_rfl) (fun w c F Fs ho _ _=>own_flat_set (by kernel_rfl) ho) a5 rfl ?_
   have az:=len_set a5
   refine JO_keep [14,5,0,1] (sl':=[(14,vi a3.2.2),(5,vi a3.1),(0,vs a0_0 a3.2.1 c0_0),(1,vi a3.2.2)]) (by kernel_rfl) ?_
   refine JO_eqE (sl':=[(14,vi a3.2.2),(5,vi a3.1),(0,vs a0_0 ac c0_0),(1,vi a3.2.2)]) (bx':=[]) (by simp only [vs,sv,az]) rfl ?_
   refine oe (nt (qs (qr (oN 3 [(1,vi (w64 (a3.2.2 + 1)))] [5,0] ?_))))
   refine oe (nt (qs (qr (oN 3 [(21,vi (w64 (a3.2.2 + 1))),(20,vi a3.1),(19,vs a0_0 ac c0_0)] [1,5,0] ?_))))
   obtain ⟨ae,ak,b4⟩:=bS ay
   refine oi 4 (fun _ w hs=>(hs.view 0 rfl)) ak ?_
   refine oN 1 [(23,.q a0_0 (Int.toNat a3.1 * 4 + 1))] [21,1,5,0] ?_
   obtain ⟨af,a6,b5⟩:=bS b4
   replace a6:=(sI a6).symm
   refine JO_storeq (α:=Spell) (d:=a0_0) (vs:=[.int .i64 (w64 (a3.2.2 + 1))]) (j:=a3.1) (x':=(Spell.mk ae.From (w64 (a3.2.2 + 1)) ae.Percent ae.Leave)) rfl (by kernel_rfl) 1 (by kernel_rfl) ak (Rc:=[]) (Rr:=[]) rfl (by kernel_rfl) (fun w c F Fs ho _ _=>own_flat_set (by kernel_rfl) ho) a6 rfl ?_
   have b6:=len_set a6
   refine JO_keep [21,1,5,0] (sl':=[(21,vi (w64 (a3.2.2 + 1))),(1,vi (w64 (a3.2.2 + 1))),(5,vi a3.1),(0,vs a0_0 ac c0_0)]) (by kernel_rfl) ?_
   refine JO_eqE (sl':=[(21,vi (w64 (a3.2.2 + 1))),(1,vi (w64 (a3.2.2 + 1))),(5,vi a3.1),(0,vs a0_0 af c0_0)]) (bx':=[]) (by simp only [vs,sv,b6]) rfl ?_
   refine oe (nt (qs (qr (oN 3 [(1,vi (w64 ((w64 (a3.2.2 + 1)) + 1)))] [5,0] ?_))))
   refine oe (nt (qs (qr (oN 3 [(28,vi (w64 ((w64 (a3.2.2 + 1)) + 1))),(27,vi a3.1),(26,vs a0_0 af c0_0)] [1,5,0] ?_))))
   obtain ⟨ag,al,b7⟩:=bS b5
   refine oi 4 (fun _ w hs=>(hs.view 0 rfl)) al ?_
   refine oN 1 [(30,.q a0_0 (Int.toNat a3.1 * 4 + 2))] [28,1,5,0] ?_
   obtain ⟨ah,a7,b8⟩:=bS b7
   replace a7:=(sI a7).symm
   refine JO_storeq (α:=Spell) (d:=a0_0) (vs:=[.int .i64 (w64 ((w64 (a3.2.2 + 1)) + 1))]) (j:=a3.1) (x':=(Spell.mk ag.From ag.To (w64 ((w64 (a3.2.2 + 1)) + 1)) ag.Leave)) rfl (by kernel_rfl) 2 (by kernel_rfl) al (Rc:=[]) (Rr:=[]) rfl (by kernel_rfl) (fun w c F Fs ho _ _=>own_flat_set (by kernel_rfl) ho) a7 rfl ?_
   have b9:=len_set a7
   refine JO_keep [28,1,5,0] (sl':=[(28,vi (w64 ((w64 (a3.2.2 + 1)) + 1))),(1,vi (w64 ((w64 (a3.2.2 + 1)) + 1))),(5,vi a3.1),(0,vs a0_0 af c0_0)]) (by kernel_rfl) ?_
   refine JO_eqE (sl':=[(28,vi (w64 ((w64 (a3.2.2 + 1)) + 1))),(1,vi (w64 ((w64 (a3.2.2 + 1)) + 1))),(5,vi a3.1),(0,vs a0_0 ah c0_0)]) (bx':=[]) (by simp only [vs,sv,b9]) rfl ?_
   refine oe (nt (qs (qr (oN 3 [(1,vi (w64 ((w64 ((w64 (a3.2.2 + 1)) + 1)) + 1)))] [5,0] ?_))))
   refine oe (nt (qs (qr (oN 5 [(37,vb ((Int.tmod (w64 ((w64 ((w64 (a3.2.2 + 1)) + 1)) + 1)) 3) == 0)),(34,vi a3.1),(33,vs a0_0 ah c0_0)] [1,5,0] ?_))))
   obtain ⟨ai,am,ba⟩:=bS b8
   refine oi 4 (fun _ w hs=>(hs.view 0 rfl)) am ?_
   refine oN 1 [(39,.q a0_0 (Int.toNat a3.1 * 4 + 3))] [37,1,5,0] ?_
   obtain ⟨bb,a8,bc⟩:=bS ba
   replace a8:=(sI a8).symm
   refine JO_storeq (α:=Spell) (d:=a0_0) (vs:=[.bool ((Int.tmod (w64 ((w64 ((w64 (a3.2.2 + 1)) + 1)) + 1)) 3) == 0)]) (j:=a3.1) (x':=(Spell.mk ai.From ai.To ai.Percent ((Int.tmod (w64 ((w64 ((w64 (a3.2.2 + 1)) + 1)) + 1)) 3) == 0))) rfl (by kernel_rfl) 3 (by kernel_rfl) am (Rc:=[]) (Rr:=[]) rfl (by kernel_rfl) (fun w c F Fs ho _ _=>own_flat_set (by kernel_rfl) ho) a8 rfl ?_
   have bd:=len_set a8
   refine JO_keep [37,1,5,0] (sl':=[(37,vb ((Int.tmod (w64 ((w64 ((w64 (a3.2.2 + 1)) + 1)) + 1)) 3) == 0)),(1,vi (w64 ((w64 ((w64 (a3.2.2 + 1)) + 1)) + 1))),(5,vi a3.1),(0,vs a0_0 ah c0_0)]) (by kernel_rfl) ?_
   refine JO_eqE (sl':=[(37,vb ((Int.tmod (w64 ((w64 ((w64 (a3.2.2 + 1)) + 1)) + 1)) 3) == 0)),(1,vi (w64 ((w64 ((w64 (a3.2.2 + 1)) + 1)) + 1))),(5,vi a3.1),(0,vs a0_0 bb c0_0)]) (bx':=[]) (by simp only [vs,sv,bd]) rfl ?_
   refine oe (nt (qr (oN 3 [(1,vi (w64 ((w64 ((w64 ((w64 (a3.2.2 + 1)) + 1)) + 1)) + 1)))] [5,0] ?_)))
   refine oe (bn (nt (qr (oN 3 [(5,vi (w64 (a3.1 + 1)))] [1,0] ?_))))
   exact oe (ct bc () [5,0,1] [0] 0)
  refine qx (nx (nx (bh ?_)))
  have be:=leafB au aw a9
  exact mp ((a3.2.1,a3.2.2),()) be [0,1] [0] 0
 have bf:=(congrFun ap _).symm.trans aq
 refine nt (qs (qr (oN 2 [(4,vi a4.1.2)] [0] ?_)))
 refine oe (nt (qe (rt [.int .i64 a4.1.2] (fun _ w hs=>?_))))
 rw [← sI bf]
 exact hs.turned (is:=[0]) rfl
theorem c_laws_markEventS {W : World} {x0 : List Event} {a0_0 : Option Addr} {c0_0 : Nat} {e0_0 : TypeId} {x1 : Int} {r : Int × (List Event)} (h : laws_markEventS x0 x1 = some r)  :
  GivesM Tryz.prog 118 #[.slice a0_0 x0.length c0_0,.int .i64 x1] W [SlRes e0_0 x0 a0_0 c0_0] [SlRes e0_0 r.2 a0_0 c0_0] (.int .i64 r.1):=by
 unfold laws_markEventS at h
 refine enM Tryz.func118 Tryz.ntmps118 (fun Fs=>?_)
 refine qs (qr (oN 1 [] [0,1] ?_))
 refine oe (nt (qs (qs (qr (oN 1 [(5,vi 0)] [0,1] ?_)))))
 refine oe (nt ?_)
 obtain ⟨ay,ac,a7⟩:=bS h
 obtain ⟨ae,af,a7⟩:=brkS a7
 refine JC_cutP (τ:=((List Event) × Int) × (Unit)) (fun y=>ae y.1 = some r) (fun a4=>[(0,vs a0_0 a4.1.1 c0_0),(1,vi a4.1.2)]) (fun a4=>[]) (fun a4=>[SlRes e0_0 a4.1.1 a0_0 c0_0]) ?_ (fun a4 ag=>?_)
 ·refine qb (lp Unit ac (fun a3 a8=>[(5,vi a3.1),(0,vs a0_0 a3.2.1 c0_0),(1,vi a3.2.2)]) (fun a3 a8=>[]) (fun a3 a8=>[SlRes e0_0 a3.2.1 a0_0 c0_0]) () [5,0,1] [0] 0 (fun a3 a8 az ah ai=>?_))
  refine qs (qs (qr (oN 4 [(9,vb (decide (a3.1 < (a3.2.1.length : Int))))] [5,0,1] ?_)))
  refine oe (nt (cC ah (fun aj=>?_) (fun ak=>?_)))
  ·refine qk (nt (qs (qb (qs (qr (oN 3 [(14,vi a3.2.2),(13,vi a3.1),(12,vs a0_0 a3.2.1 c0_0)] [5,0,1] ?_))))))
   obtain ⟨al,aa,am⟩:=bS aj
   refine oi 2 (fun _ w hs=>(hs.view 0 rfl)) aa ?_
   refine oN 1 [(16,.q a0_0 (Int.toNat a3.1 * 2))] [14,5,0,1] ?_
   obtain ⟨a9,a5,an⟩:=bS am
   replace a5:=(sI a5).symm
   refine JO_storeq (α:=Event) (d:=a0_0) (vs:=[.int .i64 a3.2.2]) (j:=a3.1) (x':=(Event.mk a3.2.2 al.Month)) rfl (by kernel_rfl) 0 (by kernel_rfl) aa (Rc:=[]) (Rr:=[]) rfl (by kernel_rfl) (fun w c F Fs ho _ _=>own_flat_set (by kernel_rfl) ho) a5 rfl ?_
   have ao:=len_set a5
   refine JO_keep [14,5,0,1] (sl':=[(14,vi a3.2.2),(5,vi a3.1),(0,vs a0_0 a3.2.1 c0_0),(1,vi a3.2.2)]) (by kernel_rfl) ?_
   refine JO_eqE (sl':=[(14,vi a3.2.2),(5,vi a3.1),(0,vs a0_0 a9 c0_0),(1,vi a3.2.2)]) (bx':=[]) (by simp only [vs,sv,ao]) rfl ?_
   refine oe (nt (qs (qr (oN 3 [(1,vi (w64 (a3.2.2 + 1)))] [5,0] ?_))))
   refine oe (nt (qs (qr (oN 3 [(21,vi (w64 (a3.2.2 + 1))),(20,vi a3.1),(19,vs a0_0 a9 c0_0)] [1,5,0] ?_))))
   obtain ⟨ap,ab,aq⟩:=bS an
   refine oi 2 (fun _ w hs=>(hs.view 0 rfl)) ab ?_
   refine oN 1 [(23,.q a0_0 (Int.toNat a3.1 * 2 + 1))] [21,1,5,0] ?_
   obtain ⟨ar,a6,au⟩:=bS aq
   replace a6:=(sI a6).symm
   refine JO_storeq (α:=Event) (d:=a0_0) (vs:=[.int .i64 (w64 (a3.2.2 + 1))]) (j:=a3.1) (x':=(Event.mk ap.Kind (w64 (a3.2.2 + 1)))) rfl (by kernel_rfl) 1 (by kernel_rfl) ab (Rc:=[]) (Rr:=[]) rfl (by kernel_rfl) (fun w c F Fs ho _ _=>own_flat_set (by kernel_rfl) ho) a6 rfl ?_
   have av:=len_set a6
   refine JO_keep [21,1,5,0] (sl':=[(21,vi (w64 (a3.2.2 + 1))),(1,vi (w64 (a3.2.2 + 1))),(5,vi a3.1),(0,vs a0_0 a9 c0_0)]) (by kernel_rfl) ?_
   refine JO_eqE (sl':=[(21,vi (w64 (a3.2.2 + 1))),(1,vi (w64 (a3.2.2 + 1))),(5,vi a3.1),(0,vs a0_0 ar c0_0)]) (bx':=[]) (by simp only [vs,sv,av]) rfl ?_
   refine oe (nt (qr (oN 3 [(1,vi (w64 ((w64 (a3.2.2 + 1)) + 1)))] [5,0] ?_)))
   refine oe (bn (nt (qr (oN 3 [(5,vi (w64 (a3.1 + 1)))] [1,0] ?_))))
   exact oe (ct au () [5,0,1] [0] 0)
  refine qx (nx (nx (bh ?_)))
  have aw:=leafB ai ak a7
  exact mp ((a3.2.1,a3.2.2),()) aw [0,1] [0] 0
 have ax:=(congrFun af _).symm.trans ag
 refine nt (qs (qr (oN 2 [(4,vi a4.1.2)] [0] ?_)))
 refine oe (nt (qe (rt [.int .i64 a4.1.2] (fun _ w hs=>?_))))
 rw [← sI ax]
 exact hs.turned (is:=[0]) rfl
theorem c_laws_markMember {W : World} {x0 : Member} {a0_0 : Option Addr} {c0_0 : Nat} {e0_0 : TypeId} {a0_1 : Option Addr} {c0_1 : Nat} {e0_1 : TypeId} {x1 : Int} {r : Int × (List Spell) × (List Event)} (h : laws_markMember x0 x1 = some r)  :
  GivesM Tryz.prog 71 #[vMember x0 ((a0_0,c0_0),(a0_1,c0_1)),.int .i64 x1] W [SlRes e0_0 x0.Spells a0_0 c0_0,SlRes e0_1 x0.Events a0_1 c0_1] [SlRes e0_0 r.2.1 a0_0 c0_0,SlRes e0_1 r.2.2 a0_1 c0_1] (.int .i64 r.1):=by
 unfold laws_markMember at h
 refine enM Tryz.func71 Tryz.ntmps71 (fun Fs=>?_)
 refine qs (qr (oB 2 [(2,.p 0 0)] [0,1] [(52,(eMember x0 ((a0_0,c0_0),(a0_1,c0_1))))] ?_))
 refine oe (nt (qs (qr (oN 3 [(7,vi x1),(6,vs a0_0 x0.Spells c0_0)] [2,0] ?_))))
 obtain ⟨a3,a7,a8⟩:=bS h
 obtain ⟨ag,a9,aa⟩:=bS a8
 have a5:=(sameLen_some a9).symm
 refine JO_callM rfl (by kernel_rfl) (f:=117) (args:=#[.slice a0_0 x0.Spells.length c0_0,.int .i64 x1]) (by kernel_rfl) (x:=.int .i64 a3.1) (Rin:=[SlRes e0_0 x0.Spells a0_0 c0_0]) (Rout:=[SlRes e0_0 a3.2 a0_0 c0_0]) (Rr:=[SlRes e0_1 x0.Events a0_1 c0_1]) rfl (fun w=>(by have vv:=c_laws_markSpellS (e0_0:=e0_0) (a0_0:=a0_0) (c0_0:=c0_0) (W:=w) a7; exact vv)) (sl':=[(8,vi a3.1),(7,vi x1),(6,vs a0_0 x0.Spells c0_0),(2,.p 0 0),(0,.v (vMember x0 ((a0_0,c0_0),(a0_1,c0_1))))]) (by kernel_rfl) ?_
 refine JO_eqE (sl':=[(8,vi a3.1),(7,vi x1),(6,vs a0_0 a3.2 c0_0),(2,.p 0 0),(0,.v (vMember (Member.mk x0.Birth x0.Joined a3.2 x0.Events) ((a0_0,c0_0),(a0_1,c0_1))))]) (bx':=[(52,(eMember (Member.mk x0.Birth x0.Joined a3.2 x0.Events) ((a0_0,c0_0),(a0_1,c0_1))))]) (by simp only [vs,sv,eMember,vMember,a5]) (by simp only [vs,sv,eMember,vMember,a5]) ?_
 refine oN 1 [(1,vi a3.1)] [2,0] ?_
 refine oe (nt (qs (qr (oN 3 [(11,vi a3.1),(10,vs a0_1 x0.Events c0_1)] [0] ?_))))
 refine or_ [1,0] ?_
 obtain ⟨a4,ab,ac⟩:=bS aa
 obtain ⟨ah,ae,af⟩:=bS ac
 have a6:=(sameLen_some ae).symm
 refine JO_callM rfl (by kernel_rfl) (f:=118) (args:=#[.slice a0_1 x0.Events.length c0_1,.int .i64 a3.1]) (by kernel_rfl) (x:=.int .i64 a4.1) (Rin:=[SlRes e0_1 x0.Events a0_1 c0_1]) (Rout:=[SlRes e0_1 a4.2 a0_1 c0_1]) (Rr:=[SlRes e0_0 a3.2 a0_0 c0_0]) rfl (fun w=>(by have vv:=c_laws_markEventS (e0_0:=e0_1) (a0_0:=a0_1) (c0_0:=c0_1) (W:=w) ab; exact vv)) (sl':=[(12,vi a4.1),(11,vi a3.1),(10,vs a0_1 x0.Events c0_1),(0,.v (vMember (Member.mk x0.Birth x0.Joined a3.2 x0.Events) ((a0_0,c0_0),(a0_1,c0_1))))]) (by kernel_rfl) ?_
 refine JO_eqE (sl':=[(12,vi a4.1),(11,vi a3.1),(10,vs a0_1 a4.2 c0_1),(0,.v (vMember (Member.mk x0.Birth x0.Joined a3.2 a4.2) ((a0_0,c0_0),(a0_1,c0_1))))]) (bx':=[(52,(eMember (Member.mk x0.Birth x0.Joined a3.2 a4.2) ((a0_0,c0_0),(a0_1,c0_1))))]) (by simp only [vs,sv,eMember,vMember,a6]) (by simp only [vs,sv,eMember,vMember,a6]) ?_
 refine oN 1 [(1,vi a4.1)] [0] ?_
 refine oe (nt (qs (qr (oN 2 [(4,vi a4.1)] [0] ?_))))
 refine oe (nt (qe (rt [.int .i64 a4.1] (fun _ w hs=>?_))))
 rw [← sI af]
 exact hs.turned (is:=[1,0]) rfl
theorem c_laws_markCase {W : World} {x0 : Case} {a0_0 : Option Addr} {c0_0 : Nat} {e0_0 : TypeId} {a0_1 : Option Addr} {c0_1 : Nat} {e0_1 : TypeId} {a0_2 : Option Addr} {c0_2 : Nat} {e0_2 : TypeId} {a0_3 : Option Addr} {c0_3 : Nat} {e0_3 : TypeId} {a0_4 : Option Addr} {c0_4 : Nat} {e0_4 : TypeId} {x1 : Int} {r : Int × (List Rule) × (List Fact) × (List Point) × (List Spell) × (List Event)} (h : laws_markCase x0 x1 = some r)  :
  GivesM Tryz.prog 23 #[vCase x0 ((a0_0,c0_0),(a0_1,c0_1),(a0_2,c0_2),(a0_3,c0_3),(a0_4,c0_4)),.int .i64 x1] W [SlRes e0_0 x0.Book.Rules a0_0 c0_0,SlRes e0_1 x0.Store.Facts a0_1 c0_1,SlRes e0_2 x0.Series.Points a0_2 c0_2,SlRes e0_3 x0.Member.Spells a0_3 c0_3,SlRes e0_4 x0.Member.Events a0_4 c0_4] [SlRes e0_0 r.2.1 a0_0 c0_0,SlRes e0_1 r.2.2.1 a0_1 c0_1,SlRes e0_2 r.2.2.2.1 a0_2 c0_2,SlRes e0_3 r.2.2.2.2.1 a0_3 c0_3,SlRes e0_4 r.2.2.2.2.2 a0_4 c0_4] (.int .i64 r.1):=by
 unfold laws_markCase at h
 refine enM Tryz.func23 Tryz.ntmps23 (fun Fs=>?_)
 refine qs (qr (oB 2 [(2,.p 0 0)] [0,1] [(54,(eCase x0 ((a0_0,c0_0),(a0_1,c0_1),(a0_2,c0_2),(a0_3,c0_3),(a0_4,c0_4))))] ?_))
 refine oe (nt (qs (qr (oN 3 [(7,vi x1),(6,.v (vBook x0.Book (a0_0,c0_0)))] [2,0] ?_))))
 obtain ⟨a3,ac,ae⟩:=bS h
 obtain ⟨ax,af,ag⟩:=bS ae
 have a7:=(sameLen_some af).symm
 refine JO_callM rfl (by kernel_rfl) (f:=68) (args:=#[vBook x0.Book (a0_0,c0_0),.int .i64 x1]) (by kernel_rfl) (x:=.int .i64 a3.1) (Rin:=[SlRes e0_0 x0.Book.Rules a0_0 c0_0]) (Rout:=[SlRes e0_0 a3.2 a0_0 c0_0]) (Rr:=[SlRes e0_1 x0.Store.Facts a0_1 c0_1,SlRes e0_2 x0.Series.Points a0_2 c0_2,SlRes e0_3 x0.Member.Spells a0_3 c0_3,SlRes e0_4 x0.Member.Events a0_4 c0_4]) rfl (fun w=>(by have vv:=c_laws_markBook (e0_0:=e0_0) (a0_0:=a0_0) (c0_0:=c0_0) (W:=w) ac; exact vv)) (sl':=[(8,vi a3.1),(7,vi x1),(6,.v (vBook x0.Book (a0_0,c0_0))),(2,.p 0 0),(0,.v (vCase x0 ((a0_0,c0_0),(a0_1,c0_1),(a0_2,c0_2),(a0_3,c0_3),(a0_4,c0_4))))]) (by kernel_rfl) ?_
 refine JO_eqE (sl':=[(8,vi a3.1),(7,vi x1),(6,.v (vBook (Book.mk a3.2) (a0_0,c0_0))),(2,.p 0 0),(0,.v (vCase (Case.mk (Book.mk a3.2) x0.Store x0.Series x0.Member) ((a0_0,c0_0),(a0_1,c0_1),(a0_2,c0_2),(a0_3,c0_3),(a0_4,c0_4))))]) (bx':=[(54,(eCase (Case.mk (Book.mk a3.2) x0.Store x0.Series x0.Member) ((a0_0,c0_0),(a0_1,c0_1),(a0_2,c0_2),(a0_3,c0_3),(a0_4,c0_4))))]) (by simp only [vs,sv,eBook,eCase,vBook,vCase,a7]) (by simp only [vs,sv,eCase,vCase,a7]) ?_
 refine oN 1 [(1,vi a3.1)] [2,0] ?_
 refine oe (nt (qs (qr (oN 3 [(11,vi a3.1),(10,.v (vStore x0.Store (a0_1,c0_1)))] [2,0] ?_))))
 refine JO_res (R':=[SlRes e0_1 x0.Store.Facts a0_1 c0_1,SlRes e0_0 a3.2 a0_0 c0_0,SlRes e0_2 x0.Series.Points a0_2 c0_2,SlRes e0_3 x0.Member.Spells a0_3 c0_3,SlRes e0_4 x0.Member.Events a0_4 c0_4]) [1,0,0,0,0] (by kernel_rfl) ?_
 obtain ⟨a4,ah,ai⟩:=bS ag
 obtain ⟨ay,aj,ak⟩:=bS ai
 have a8:=(sameLen_some aj).symm
 refine JO_callM rfl (by kernel_rfl) (f:=69) (args:=#[vStore x0.Store (a0_1,c0_1),.int .i64 a3.1]) (by kernel_rfl) (x:=.int .i64 a4.1) (Rin:=[SlRes e0_1 x0.Store.Facts a0_1 c0_1]) (Rout:=[SlRes e0_1 a4.2 a0_1 c0_1]) (Rr:=[SlRes e0_0 a3.2 a0_0 c0_0,SlRes e0_2 x0.Series.Points a0_2 c0_2,SlRes e0_3 x0.Member.Spells a0_3 c0_3,SlRes e0_4 x0.Member.Events a0_4 c0_4]) rfl (fun w=>(by have vv:=c_laws_markStore (e0_0:=e0_1) (a0_0:=a0_1) (c0_0:=c0_1) (W:=w) ah; exact vv)) (sl':=[(12,vi a4.1),(11,vi a3.1),(10,.v (vStore x0.Store (a0_1,c0_1))),(2,.p 0 0),(0,.v (vCase (Case.mk (Book.mk a3.2) x0.Store x0.Series x0.Member) ((a0_0,c0_0),(a0_1,c0_1),(a0_2,c0_2),(a0_3,c0_3),(a0_4,c0_4))))]) (by kernel_rfl) ?_
 refine JO_eqE (sl':=[(12,vi a4.1),(11,vi a3.1),(10,.v (vStore (Store.mk a4.2) (a0_1,c0_1))),(2,.p 0 0),(0,.v (vCase (Case.mk (Book.mk a3.2) (Store.mk a4.2) x0.Series x0.Member) ((a0_0,c0_0),(a0_1,c0_1),(a0_2,c0_2),(a0_3,c0_3),(a0_4,c0_4))))]) (bx':=[(54,(eCase (Case.mk (Book.mk a3.2) (Store.mk a4.2) x0.Series x0.Member) ((a0_0,c0_0),(a0_1,c0_1),(a0_2,c0_2),(a0_3,c0_3),(a0_4,c0_4))))]) (by simp only [vs,sv,eCase,eStore,vCase,vStore,a8]) (by simp only [vs,sv,eCase,vCase,a8]) ?_
 refine oN 1 [(1,vi a4.1)] [2,0] ?_
 refine oe (nt (qs (qr (oN 3 [(15,vi a4.1),(14,.v (vSeries x0.Series (a0_2,c0_2)))] [2,0] ?_))))
 refine JO_res (R':=[SlRes e0_2 x0.Series.Points a0_2 c0_2,SlRes e0_1 a4.2 a0_1 c0_1,SlRes e0_0 a3.2 a0_0 c0_0,SlRes e0_3 x0.Member.Spells a0_3 c0_3,SlRes e0_4 x0.Member.Events a0_4 c0_4]) [2,0,0,0,0] (by kernel_rfl) ?_
 obtain ⟨a5,al,am⟩:=bS ak
 obtain ⟨az,an,ao⟩:=bS am
 have a9:=(sameLen_some an).symm
 refine JO_callM rfl (by kernel_rfl) (f:=70) (args:=#[vSeries x0.Series (a0_2,c0_2),.int .i64 a4.1]) (by kernel_rfl) (x:=.int .i64 a5.1) (Rin:=[SlRes e0_2 x0.Series.Points a0_2 c0_2]) (Rout:=[SlRes e0_2 a5.2 a0_2 c0_2]) (Rr:=[SlRes e0_1 a4.2 a0_1 c0_1,SlRes e0_0 a3.2 a0_0 c0_0,SlRes e0_3 x0.Member.Spells a0_3 c0_3,SlRes e0_4 x0.Member.Events a0_4 c0_4]) rfl (fun w=>(by have vv:=c_laws_markSeries (e0_0:=e0_2) (a0_0:=a0_2) (c0_0:=c0_2) (W:=w) al; exact vv)) (sl':=[(16,vi a5.1),(15,vi a4.1),(14,.v (vSeries x0.Series (a0_2,c0_2))),(2,.p 0 0),(0,.v (vCase (Case.mk (Book.mk a3.2) (Store.mk a4.2) x0.Series x0.Member) ((a0_0,c0_0),(a0_1,c0_1),(a0_2,c0_2),(a0_3,c0_3),(a0_4,c0_4))))]) (by kernel_rfl) ?_
 refine JO_eqE (sl':=[(16,vi a5.1),(15,vi a4.1),(14,.v (.agg #[.slice a0_2 a5.2.length c0_2])),(2,.p 0 0),(0,.v (vCase (Case.mk (Book.mk a3.2) (Store.mk a4.2) (Series.mk a5.2) x0.Member) ((a0_0,c0_0),(a0_1,c0_1),(a0_2,c0_2),(a0_3,c0_3),(a0_4,c0_4))))]) (bx':=[(54,(eCase (Case.mk (Book.mk a3.2) (Store.mk a4.2) (Series.mk a5.2) x0.Member) ((a0_0,c0_0),(a0_1,c0_1),(a0_2,c0_2),(a0_3,c0_3),(a0_4,c0_4))))]) (by simp only [vs,sv,eCase,eSeries,vCase,vSeries,a9]) (by simp only [vs,sv,eCase,vCase,a9]) ?_
 refine oN 1 [(1,vi a5.1)] [2,0] ?_
 refine oe (nt (qs (qr (oN 3 [(19,vi a5.1),(18,.v (vMember x0.Member ((a0_3,c0_3),(a0_4,c0_4))))] [0] ?_))))
 refine JO_res (R':=[SlRes e0_3 x0.Member.Spells a0_3 c0_3,SlRes e0_4 x0.Member.Events a0_4 c0_4,SlRes e0_2 a5.2 a0_2 c0_2,SlRes e0_1 a4.2 a0_1 c0_1,SlRes e0_0 a3.2 a0_0 c0_0]) [3,3,0,0,0] (by kernel_rfl) ?_
 obtain ⟨a6,ap,aq⟩:=bS ao
 obtain ⟨b4,ar,au⟩:=bS aq
 have aa:=(sameLen_some ar).symm
 obtain ⟨b5,av,aw⟩:=bS au
 have ab:=(sameLen_some av).symm
 refine JO_callM rfl (by kernel_rfl) (f:=71) (args:=#[vMember x0.Member ((a0_3,c0_3),(a0_4,c0_4)),.int .i64 a5.1]) (by kernel_rfl) (x:=.int .i64 a6.1) (Rin:=[SlRes e0_3 x0.Member.Spells a0_3 c0_3,SlRes e0_4 x0.Member.Events a0_4 c0_4]) (Rout:=[SlRes e0_3 a6.2.1 a0_3 c0_3,SlRes e0_4 a6.2.2 a0_4 c0_4]) (Rr:=[SlRes e0_2 a5.2 a0_2 c0_2,SlRes e0_1 a4.2 a0_1 c0_1,SlRes e0_0 a3.2 a0_0 c0_0]) rfl (fun w=>(by have vv:=c_laws_markMember (e0_0:=e0_3) (a0_0:=a0_3) (c0_0:=c0_3) (e0_1:=e0_4) (a0_1:=a0_4) (c0_1:=c0_4) (W:=w) ap; exact vv)) (sl':=[(20,vi a6.1),(19,vi a5.1),(18,.v (vMember x0.Member ((a0_3,c0_3),(a0_4,c0_4)))),(0,.v (vCase (Case.mk (Book.mk a3.2) (Store.mk a4.2) (Series.mk a5.2) x0.Member) ((a0_0,c0_0),(a0_1,c0_1),(a0_2,c0_2),(a0_3,c0_3),(a0_4,c0_4))))]) (by kernel_rfl) ?_
 refine JO_eqE (sl':=[(20,vi a6.1),(19,vi a5.1),(18,.v (vMember (Member.mk x0.Member.Birth x0.Member.Joined a6.2.1 a6.2.2) ((a0_3,c0_3),(a0_4,c0_4)))),(0,.v (vCase (Case.mk (Book.mk a3.2) (Store.mk a4.2) (Series.mk a5.2) (Member.mk x0.Member.Birth x0.Member.Joined a6.2.1 a6.2.2)) ((a0_0,c0_0),(a0_1,c0_1),(a0_2,c0_2),(a0_3,c0_3),(a0_4,c0_4))))]) (bx':=[(54,(eCase (Case.mk (Book.mk a3.2) (Store.mk a4.2) (Series.mk a5.2) (Member.mk x0.Member.Birth x0.Member.Joined a6.2.1 a6.2.2)) ((a0_0,c0_0),(a0_1,c0_1),(a0_2,c0_2),(a0_3,c0_3),(a0_4,c0_4))))]) (by simp only [vs,sv,eCase,eMember,vCase,vMember,aa,ab]) (by simp only [vs,sv,eCase,vCase,aa,ab]) ?_
 refine oN 1 [(1,vi a6.1)] [0] ?_
 refine oe (nt (qs (qr (oN 2 [(4,vi a6.1)] [0] ?_))))
 refine oe (nt (qe (rt [.int .i64 a6.1] (fun _ w hs=>?_))))
 rw [← sI aw]
 exact hs.turned (is:=[4,3,2,0,0]) rfl
theorem c_laws_markActS {W : World} {x0 : List Act} {a0_0 : Option Addr} {c0_0 : Nat} {e0_0 : TypeId} {x1 : Int} {r : Int × (List Act)} (h : laws_markActS x0 x1 = some r)  :
  GivesM Tryz.prog 24 #[.slice a0_0 x0.length c0_0,.int .i64 x1] W [SlRes e0_0 x0 a0_0 c0_0] [SlRes e0_0 r.2 a0_0 c0_0] (.int .i64 r.1):=by
 unfold laws_markActS at h
 refine enM Tryz.func24 Tryz.ntmps24 (fun Fs=>?_)
 refine qs (qr (oN 1 [] [0,1] ?_))
 refine oe (nt (qs (qs (qr (oN 1 [(5,vi 0)] [0,1] ?_)))))
 refine oe (nt ?_)
 obtain ⟨cx,bi,ao⟩:=bS h
 obtain ⟨bj,bk,ao⟩:=brkS ao
 refine JC_cutP (τ:=((List Act) × Int) × (Unit)) (fun y=>bj y.1 = some r) (fun a4=>[(0,vs a0_0 a4.1.1 c0_0),(1,vi a4.1.2)]) (fun a4=>[]) (fun a4=>[SlRes e0_0 a4.1.1 a0_0 c0_0]) ?_ (fun a4 bl=>?_)
 ·refine qb (lp Unit bi (fun a3 ap=>[(5,vi a3.1),(0,vs a0_0 a3.2.1 c0_0),(1,vi a3.2.2)]) (fun a3 ap=>[]) (fun a3 ap=>[SlRes e0_0 a3.2.1 a0_0 c0_0]) () [5,0,1] [0] 0 (fun a3 ap cy bm bo=>?_))
  refine qs (qs (qr (oN 4 [(9,vb (decide (a3.1 < (a3.2.1.length : Int))))] [5,0,1] ?_)))
  refine oe (nt (cC bm (fun bp=>?_) (fun bq=>?_)))
  ·refine qk (nt (qs (qb (qs (qr (oN 3 [(14,vi a3.2.2),(13,vi a3.1),(12,vs a0_0 a3.2.1 c0_0)] [5,0,1] ?_))))))
   obtain ⟨aq,b7,bs⟩:=bS bp
   refine oi 10 (fun _ w hs=>(hs.view 0 rfl)) b7 ?_
   refine oN 1 [(16,.q a0_0 (Int.toNat a3.1 * 10))] [14,5,0,1] ?_
   obtain ⟨ar,ae,bu⟩:=bS bs
   replace ae:=(sI ae).symm
   refine JO_storeq (α:=Act) (d:=a0_0) (vs:=[.int .i64 a3.2.2]) (j:=a3.1) (x':=(Act.mk a3.2.2 aq.Fact aq.Point aq.N)) rfl (by kernel_rfl) 0 (by kernel_rfl) b7 (Rc:=[]) (Rr:=[]) rfl (by kernel_rfl) (fun w c F Fs ho _ _=>own_flat_set (by kernel_rfl) ho) ae rfl ?_
   have bv:=len_set ae
   refine JO_keep [14,5,0,1] (sl':=[(14,vi a3.2.2),(5,vi a3.1),(0,vs a0_0 a3.2.1 c0_0),(1,vi a3.2.2)]) (by kernel_rfl) ?_
   refine JO_eqE (sl':=[(14,vi a3.2.2),(5,vi a3.1),(0,vs a0_0 ar c0_0),(1,vi a3.2.2)]) (bx':=[]) (by simp only [vs,sv,bv]) rfl ?_
   refine oe (nt (qs (qr (oN 3 [(1,vi (w64 (a3.2.2 + 1)))] [5,0] ?_))))
   refine oe (nt (qs (qr (oN 3 [(21,vi (w64 (a3.2.2 + 1))),(20,vi a3.1),(19,vs a0_0 ar c0_0)] [1,5,0] ?_))))
   obtain ⟨a5,b8,bw⟩:=bS bu
   refine oi 10 (fun _ w hs=>(hs.view 0 rfl)) b8 ?_
   refine oN 2 [(24,.q a0_0 (Int.toNat a3.1 * 10 + 1))] [21,1,5,0] ?_
   obtain ⟨au,af,bz⟩:=bS bw
   replace af:=(sI af).symm
   refine JO_storeq (α:=Act) (d:=a0_0) (vs:=[.int .i64 (w64 (a3.2.2 + 1))]) (j:=a3.1) (x':=(Act.mk a5.Kind (Fact.mk (w64 (a3.2.2 + 1)) a5.Fact.From a5.Fact.To a5.Fact.Known a5.Fact.Value) a5.Point a5.N)) rfl (by kernel_rfl) 1 (by kernel_rfl) b8 (Rc:=[]) (Rr:=[]) rfl (by kernel_rfl) (fun w c F Fs ho _ _=>own_flat_set (by kernel_rfl) ho) af rfl ?_
   have c3:=len_set af
   refine JO_keep [21,1,5,0] (sl':=[(21,vi (w64 (a3.2.2 + 1))),(1,vi (w64 (a3.2.2 + 1))),(5,vi a3.1),(0,vs a0_0 ar c0_0)]) (by kernel_rfl) ?_
   refine JO_eqE (sl':=[(21,vi (w64 (a3.2.2 + 1))),(1,vi (w64 (a3.2.2 + 1))),(5,vi a3.1),(0,vs a0_0 au c0_0)]) (bx':=[]) (by simp only [vs,sv,c3]) rfl ?_
   refine oe (nt (qs (qr (oN 3 [(1,vi (w64 ((w64 (a3.2.2 + 1)) + 1)))] [5,0] ?_))))
   refine oe (nt (qs (qr (oN 3 [(29,vi (w64 ((w64 (a3.2.2 + 1)) + 1))),(28,vi a3.1),(27,vs a0_0 au c0_0)] [1,5,0] ?_))))
   obtain ⟨a6,b9,c4⟩:=bS bz
   refine oi 10 (fun _ w hs=>(hs.view 0 rfl)) b9 ?_
   refine oN 2 [(32,.q a0_0 (Int.toNat a3.1 * 10 + 2))] [29,1,5,0] ?_
   obtain ⟨av,ag,c5⟩:=bS c4
   replace ag:=(sI ag).symm
   refine JO_storeq (α:=Act) (d:=a0_0) (vs:=[.int .i64 (w64 ((w64 (a3.2.2 + 1)) + 1))]) (j:=a3.1) (x':=(Act.mk a6.Kind (Fact.mk a6.Fact.Key (w64 ((w64 (a3.2.2 + 1)) + 1)) a6.Fact.To a6.Fact.Known a6.Fact.Value) a6.Point a6.N)) rfl (by kernel_rfl) 2 (by kernel_rfl) b9 (Rc:=[]) (Rr:=[]) rfl (by kernel_rfl) (fun w c F Fs ho _ _=>own_flat_set (by kernel_rfl) ho) ag rfl ?_
   have c6:=len_set ag
   refine JO_keep [29,1,5,0] (sl':=[(29,vi (w64 ((w64 (a3.2.2 + 1)) + 1))),(1,vi (w64 ((w64 (a3.2.2 + 1)) + 1))),(5,vi a3.1),(0,vs a0_0 au c0_0)]) (by kernel_rfl) ?_
   refine JO_eqE (sl':=[(29,vi (w64 ((w64 (a3.2.2 + 1)) + 1))),(1,vi (w64 ((w64 (a3.2.2 + 1)) + 1))),(5,vi a3.1),(0,vs a0_0 av c0_0)]) (bx':=[]) (by simp only [vs,sv,c6]) rfl ?_
   refine oe (nt (qs (qr (oN 3 [(1,vi (w64 ((w64 ((w64 (a3.2.2 + 1)) + 1)) + 1)))] [5,0] ?_))))
   refine oe (nt (qs (qr (oN 3 [(37,vi (w64 ((w64 ((w64 (a3.2.2 + 1)) + 1)) + 1))),(36,vi a3.1),(35,vs a0_0 av c0_0)] [1,5,0] ?_))))
   obtain ⟨a7,ba,c7⟩:=bS c5
   refine oi 10 (fun _ w hs=>(hs.view 0 rfl)) ba ?_
   refine oN 2 [(40,.q a0_0 (Int.toNat a3.1 * 10 + 3))] [37,1,5,0] ?_
   obtain ⟨aw,ah,c8⟩:=bS c7
   replace ah:=(sI ah).symm
   refine JO_storeq (α:=Act) (d:=a0_0) (vs:=[.int .i64 (w64 ((w64 ((w64 (a3.2.2 + 1)) + 1)) + 1))]) (j:=a3.1) (x':=(Act.mk a7.Kind (Fact.mk a7.Fact.Key a7.Fact.From (w64 ((w64 ((w64 (a3.2.2 + 1)) + 1)) + 1)) a7.Fact.Known a7.Fact.Value) a7.Point a7.N)) rfl (by kernel_rfl) 3 (by kernel_rfl) ba (Rc:=[]) (Rr:=[]) rfl (by kernel_rfl) (fun w c F Fs ho _ _=>own_flat_set (by kernel_rfl) ho) ah rfl ?_
   have c9:=len_set ah
   refine JO_keep [37,1,5,0] (sl':=[(37,vi (w64 ((w64 ((w64 (a3.2.2 + 1)) + 1)) + 1))),(1,vi (w64 ((w64 ((w64 (a3.2.2 + 1)) + 1)) + 1))),(5,vi a3.1),(0,vs a0_0 av c0_0)]) (by kernel_rfl) ?_
   refine JO_eqE (sl':=[(37,vi (w64 ((w64 ((w64 (a3.2.2 + 1)) + 1)) + 1))),(1,vi (w64 ((w64 ((w64 (a3.2.2 + 1)) + 1)) + 1))),(5,vi a3.1),(0,vs a0_0 aw c0_0)]) (bx':=[]) (by simp only [vs,sv,c9]) rfl ?_
   refine oe (nt (qs (qr (oN 3 [(1,vi (w64 ((w64 ((w64 ((w64 (a3.2.2 + 1)) + 1)) + 1)) + 1)))] [5,0] ?_))))
   refine oe (nt (qs (qr (oN 3 [(45,vi (w64 ((w64 ((w64 ((w64 (a3.2.2 + 1)) + 1)) + 1)) + 1))),(44,vi a3.1),(43,vs a0_0 aw c0_0)] [1,5,0] ?_))))
   obtain ⟨a8,bb,ca⟩:=bS c8
   refine oi 10 (fun _ w hs=>(hs.view 0 rfl)) bb ?_
   refine oN 2 [(48,.q a0_0 (Int.toNat a3.1 * 10 + 4))] [45,1,5,0] ?_
   obtain ⟨ax,ai,cb⟩:=bS ca
   replace ai:=(sI ai).symm
   refine JO_storeq (α:=Act) (d:=a0_0) (vs:=[.int .i64 (w64 ((w64 ((w64 ((w64 (a3.2.2 + 1)) + 1)) + 1)) + 1))]) (j:=a3.1) (x':=(Act.mk a8.Kind (Fact.mk a8.Fact.Key a8.Fact.From a8.Fact.To (w64 ((w64 ((w64 ((w64 (a3.2.2 + 1)) + 1)) + 1)) + 1)) a8.Fact.Value) a8.Point a8.N)) rfl (by kernel_rfl) 4 (by kernel_rfl) bb (Rc:=[]) (Rr:=[]) rfl (by kernel_rfl) (fun w c F Fs ho _ _=>own_flat_set (by kernel_rfl) ho) ai rfl ?_
   have cc:=len_set ai
   refine JO_keep [45,1,5,0] (sl':=[(45,vi (w64 ((w64 ((w64 ((w64 (a3.2.2 + 1)) + 1)) + 1)) + 1))),(1,vi (w64 ((w64 ((w64 ((w64 (a3.2.2 + 1)) + 1)) + 1)) + 1))),(5,vi a3.1),(0,vs a0_0 aw c0_0)]) (by kernel_rfl) ?_
   refine JO_eqE (sl':=[(45,vi (w64 ((w64 ((w64 ((w64 (a3.2.2 + 1)) + 1)) + 1)) + 1))),(1,vi (w64 ((w64 ((w64 ((w64 (a3.2.2 + 1)) + 1)) + 1)) + 1))),(5,vi a3.1),(0,vs a0_0 ax c0_0)]) (bx':=[]) (by simp only [vs,sv,cc]) rfl ?_
   refine oe (nt (qs (qr (oN 3 [(1,vi (w64 ((w64 ((w64 ((w64 ((w64 (a3.2.2 + 1)) + 1)) + 1)) + 1)) + 1)))] [5,0] ?_))))
   refine oe (nt (qs (qr (oN 3 [(53,vi (w64 ((w64 ((w64 ((w64 ((w64 (a3.2.2 + 1)) + 1)) + 1)) + 1)) + 1))),(52,vi a3.1),(51,vs a0_0 ax c0_0)] [1,5,0] ?_))))
   obtain ⟨a9,bc,cd⟩:=bS cb
   refine oi 10 (fun _ w hs=>(hs.view 0 rfl)) bc ?_
   refine oN 2 [(56,.q a0_0 (Int.toNat a3.1 * 10 + 5))] [53,1,5,0] ?_
   obtain ⟨ay,aj,ce⟩:=bS cd
   replace aj:=(sI aj).symm
   refine JO_storeq (α:=Act) (d:=a0_0) (vs:=[.int .i64 (w64 ((w64 ((w64 ((w64 ((w64 (a3.2.2 + 1)) + 1)) + 1)) + 1)) + 1))]) (j:=a3.1) (x':=(Act.mk a9.Kind (Fact.mk a9.Fact.Key a9.Fact.From a9.Fact.To a9.Fact.Known (w64 ((w64 ((w64 ((w64 ((w64 (a3.2.2 + 1)) + 1)) + 1)) + 1)) + 1))) a9.Point a9.N)) rfl (by kernel_rfl) 5 (by kernel_rfl) bc (Rc:=[]) (Rr:=[]) rfl (by kernel_rfl) (fun w c F Fs ho _ _=>own_flat_set (by kernel_rfl) ho) aj rfl ?_
   have cf:=len_set aj
   refine JO_keep [53,1,5,0] (sl':=[(53,vi (w64 ((w64 ((w64 ((w64 ((w64 (a3.2.2 + 1)) + 1)) + 1)) + 1)) + 1))),(1,vi (w64 ((w64 ((w64 ((w64 ((w64 (a3.2.2 + 1)) + 1)) + 1)) + 1)) + 1))),(5,vi a3.1),(0,vs a0_0 ax c0_0)]) (by kernel_rfl) ?_
   refine JO_eqE (sl':=[(53,vi (w64 ((w64 ((w64 ((w64 ((w64 (a3.2.2 + 1)) + 1)) + 1)) + 1)) + 1))),(1,vi (w64 ((w64 ((w64 ((w64 ((w64 (a3.2.2 + 1)) + 1)) + 1)) + 1)) + 1))),(5,vi a3.1),(0,vs a0_0 ay c0_0)]) (bx':=[]) (by simp only [vs,sv,cf]) rfl ?_
   refine oe (nt (qs (qr (oN 3 [(1,vi (w64 ((w64 ((w64 ((w64 ((w64 ((w64 (a3.2.2 + 1)) + 1)) + 1)) + 1)) + 1)) + 1)))] [5,0] ?_))))
   refine oe (nt (qs (qr (oN 3 [(61,vi (w64 ((w64 ((w64 ((w64 ((w64 ((w64 (a3.2.2 + 1)) + 1)) + 1)) + 1)) + 1)) + 1))),(60,vi a3.1),(59,vs a0_0 ay c0_0)] [1,5,0] ?_))))
   obtain ⟨aa,bd,cg⟩:=bS ce
   refine oi 10 (fun _ w hs=>(hs.view 0 rfl)) bd ?_
   refine oN 2 [(64,.q a0_0 (Int.toNat a3.1 * 10 + 6))] [61,1,5,0] ?_
   obtain ⟨az,ak,ch⟩:=bS cg
   replace ak:=(sI ak).symm
   refine JO_storeq (α:=Act) (d:=a0_0) (vs:=[.int .i64 (w64 ((w64 ((w64 ((w64 ((w64 ((w64 (a3.2.2 + 1)) + 1)) + 1)) + 1)) + 1)) + 1))]) (j:=a3.1) (x':=(Act.mk aa.Kind aa.Fact (Point.mk (w64 ((w64 ((w64 ((w64 ((w64 ((w64 (a3.2.2 + 1)) + 1)) + 1)) + 1)) + 1)) + 1)) aa.Point.Known aa.Point.Value) aa.N)) rfl (by kernel_rfl) 6 (by kernel_rfl) bd (Rc:=[]) (Rr:=[]) rfl (by kernel_rfl) (fun w c F Fs ho _ _=>own_flat_set (by kernel_rfl) ho) ak rfl ?_
   have ci:=len_set ak
   refine JO_keep [61,1,5,0] (sl':=[(61,vi (w64 ((w64 ((w64 ((w64 ((w64 ((w64 (a3.2.2 + 1)) + 1)) + 1)) + 1)) + 1)) + 1))),(1,vi (w64 ((w64 ((w64 ((w64 ((w64 ((w64 (a3.2.2 + 1)) + 1)) + 1)) + 1)) + 1)) + 1))),(5,vi a3.1),(0,vs a0_0 ay c0_0)]) (by kernel_rfl) ?_
   refine JO_eqE (sl':=[(61,vi (w64 ((w64 ((w64 ((w64 ((w64 ((w64 (a3.2.2 + 1)) + 1)) + 1)) + 1)) + 1)) + 1))),(1,vi (w64 ((w64 ((w64 ((w64 ((w64 ((w64 (a3.2.2 + 1)) + 1)) + 1)) + 1)) + 1)) + 1))),(5,vi a3.1),(0,vs a0_0 az c0_0)]) (bx':=[]) (by simp only [vs,sv,ci]) rfl ?_
   refine oe (nt (qs (qr (oN 3 [(1,vi (w64 ((w64 ((w64 ((w64 ((w64 ((w64 ((w64 (a3.2.2 + 1)) + 1)) + 1)) + 1)) + 1)) + 1)) + 1)))] [5,0] ?_))))
   refine oe (nt (qs (qr (oN 3 [(69,vi (w64 ((w64 ((w64 ((w64 ((w64 ((w64 ((w64 (a3.2.2 + 1)) + 1)) + 1)) + 1)) + 1)) + 1)) + 1))),(68,vi a3.1),(67,vs a0_0 az c0_0)] [1,5,0] ?_))))
   obtain ⟨ab,be,cj⟩:=bS ch
   refine oi 10 (fun _ w hs=>(hs.view 0 rfl)) be ?_
   refine oN 2 [(72,.q a0_0 (Int.toNat a3.1 * 10 + 7))] [69,1,5,0] ?_
   obtain ⟨b4,al,ck⟩:=bS cj
   replace al:=(sI al).symm
   refine JO_storeq (α:=Act) (d:=a0_0) (vs:=[.int .i64 (w64 ((w64 ((w64 ((w64 ((w64 ((w64 ((w64 (a3.2.2 + 1)) + 1)) + 1)) + 1)) + 1)) + 1)) + 1))]) (j:=a3.1) (x':=(Act.mk ab.Kind ab.Fact (Point.mk ab.Point.Month (w64 ((w64 ((w64 ((w64 ((w64 ((w64 ((w64 (a3.2.2 + 1)) + 1)) + 1)) + 1)) + 1)) + 1)) + 1)) ab.Point.Value) ab.N)) rfl (by kernel_rfl) 7 (by kernel_rfl) be (Rc:=[]) (Rr:=[]) rfl (by kernel_rfl) (fun w c F Fs ho _ _=>own_flat_set (by kernel_rfl) ho) al rfl ?_
   have cl:=len_set al
   refine JO_keep [69,1,5,0] (sl':=[(69,vi (w64 ((w64 ((w64 ((w64 ((w64 ((w64 ((w64 (a3.2.2 + 1)) + 1)) + 1)) + 1)) + 1)) + 1)) + 1))),(1,vi (w64 ((w64 ((w64 ((w64 ((w64 ((w64 ((w64 (a3.2.2 + 1)) + 1)) + 1)) + 1)) + 1)) + 1)) + 1))),(5,vi a3.1),(0,vs a0_0 az c0_0)]) (by kernel_rfl) ?_
   refine JO_eqE (sl':=[(69,vi (w64 ((w64 ((w64 ((w64 ((w64 ((w64 ((w64 (a3.2.2 + 1)) + 1)) + 1)) + 1)) + 1)) + 1)) + 1))),(1,vi (w64 ((w64 ((w64 ((w64 ((w64 ((w64 ((w64 (a3.2.2 + 1)) + 1)) + 1)) + 1)) + 1)) + 1)) + 1))),(5,vi a3.1),(0,vs a0_0 b4 c0_0)]) (bx':=[]) (by simp only [vs,sv,cl]) rfl ?_
   refine oe (nt (qs (qr (oN 3 [(1,vi (w64 ((w64 ((w64 ((w64 ((w64 ((w64 ((w64 ((w64 (a3.2.2 + 1)) + 1)) + 1)) + 1)) + 1)) + 1)) + 1)) + 1)))] [5,0] ?_))))
   refine oe (nt (qs (qr (oN 3 [(77,vi (w64 ((w64 ((w64 ((w64 ((w64 ((w64 ((w64 ((w64 (a3.2.2 + 1)) + 1)) + 1)) + 1)) + 1)) + 1)) + 1)) + 1))),(76,vi a3.1),(75,vs a0_0 b4 c0_0)] [1,5,0] ?_))))
   obtain ⟨ac,bf,cm⟩:=bS ck
   refine oi 10 (fun _ w hs=>(hs.view 0 rfl)) bf ?_
   refine oN 2 [(80,.q a0_0 (Int.toNat a3.1 * 10 + 8))] [77,1,5,0] ?_
   obtain ⟨b5,am,cn⟩:=bS cm
   replace am:=(sI am).symm
   refine JO_storeq (α:=Act) (d:=a0_0) (vs:=[.int .i64 (w64 ((w64 ((w64 ((w64 ((w64 ((w64 ((w64 ((w64 (a3.2.2 + 1)) + 1)) + 1)) + 1)) + 1)) + 1)) + 1)) + 1))]) (j:=a3.1) (x':=(Act.mk ac.Kind ac.Fact (Point.mk ac.Point.Month ac.Point.Known (w64 ((w64 ((w64 ((w64 ((w64 ((w64 ((w64 ((w64 (a3.2.2 + 1)) + 1)) + 1)) + 1)) + 1)) + 1)) + 1)) + 1))) ac.N)) rfl (by kernel_rfl) 8 (by kernel_rfl) bf (Rc:=[]) (Rr:=[]) rfl (by kernel_rfl) (fun w c F Fs ho _ _=>own_flat_set (by kernel_rfl) ho) am rfl ?_
   have co:=len_set am
   refine JO_keep [77,1,5,0] (sl':=[(77,vi (w64 ((w64 ((w64 ((w64 ((w64 ((w64 ((w64 ((w64 (a3.2.2 + 1)) + 1)) + 1)) + 1)) + 1)) + 1)) + 1)) + 1))),(1,vi (w64 ((w64 ((w64 ((w64 ((w64 ((w64 ((w64 ((w64 (a3.2.2 + 1)) + 1)) + 1)) + 1)) + 1)) + 1)) + 1)) + 1))),(5,vi a3.1),(0,vs a0_0 b4 c0_0)]) (by kernel_rfl) ?_
   refine JO_eqE (sl':=[(77,vi (w64 ((w64 ((w64 ((w64 ((w64 ((w64 ((w64 ((w64 (a3.2.2 + 1)) + 1)) + 1)) + 1)) + 1)) + 1)) + 1)) + 1))),(1,vi (w64 ((w64 ((w64 ((w64 ((w64 ((w64 ((w64 ((w64 (a3.2.2 + 1)) + 1)) + 1)) + 1)) + 1)) + 1)) + 1)) + 1))),(5,vi a3.1),(0,vs a0_0 b5 c0_0)]) (bx':=[]) (by simp only [vs,sv,co]) rfl ?_
   refine oe (nt (qs (qr (oN 3 [(1,vi (w64 ((w64 ((w64 ((w64 ((w64 ((w64 ((w64 ((w64 ((w64 (a3.2.2 + 1)) + 1)) + 1)) + 1)) + 1)) + 1)) + 1)) + 1)) + 1)))] [5,0] ?_))))
   refine oe (nt (qs (qr (oN 3 [(85,vi (w64 ((w64 ((w64 ((w64 ((w64 ((w64 ((w64 ((w64 ((w64 (a3.2.2 + 1)) + 1)) + 1)) + 1)) + 1)) + 1)) + 1)) + 1)) + 1))),(84,vi a3.1),(83,vs a0_0 b5 c0_0)] [1,5,0] ?_))))
   obtain ⟨b6,bg,cp⟩:=bS cn
   refine oi 10 (fun _ w hs=>(hs.view 0 rfl)) bg ?_
   refine oN 1 [(87,.q a0_0 (Int.toNat a3.1 * 10 + 9))] [85,1,5,0] ?_
   obtain ⟨cq,an,cr⟩:=bS cp
   replace an:=(sI an).symm
   refine JO_storeq (α:=Act) (d:=a0_0) (vs:=[.int .i64 (w64 ((w64 ((w64 ((w64 ((w64 ((w64 ((w64 ((w64 ((w64 (a3.2.2 + 1)) + 1)) + 1)) + 1)) + 1)) + 1)) + 1)) + 1)) + 1))]) (j:=a3.1) (x':=(Act.mk b6.Kind b6.Fact b6.Point (w64 ((w64 ((w64 ((w64 ((w64 ((w64 ((w64 ((w64 ((w64 (a3.2.2 + 1)) + 1)) + 1)) + 1)) + 1)) + 1)) + 1)) + 1)) + 1)))) rfl (by kernel_rfl) 9 (by kernel_rfl) bg (Rc:=[]) (Rr:=[]) rfl (by kernel_rfl) (fun w c F Fs ho _ _=>own_flat_set (by kernel_rfl) ho) an rfl ?_
   have cu:=len_set an
   refine JO_keep [85,1,5,0] (sl':=[(85,vi (w64 ((w64 ((w64 ((w64 ((w64 ((w64 ((w64 ((w64 ((w64 (a3.2.2 + 1)) + 1)) + 1)) + 1)) + 1)) + 1)) + 1)) + 1)) + 1))),(1,vi (w64 ((w64 ((w64 ((w64 ((w64 ((w64 ((w64 ((w64 ((w64 (a3.2.2 + 1)) + 1)) + 1)) + 1)) + 1)) + 1)) + 1)) + 1)) + 1))),(5,vi a3.1),(0,vs a0_0 b5 c0_0)]) (by kernel_rfl) ?_
   refine JO_eqE (sl':=[(85,vi (w64 ((w64 ((w64 ((w64 ((w64 ((w64 ((w64 ((w64 ((w64 (a3.2.2 + 1)) + 1)) + 1)) + 1)) + 1)) + 1)) + 1)) + 1)) + 1))),(1,vi (w64 ((w64 ((w64 ((w64 ((w64 ((w64 ((w64 ((w64 ((w64 (a3.2.2 + 1)) + 1)) + 1)) + 1)) + 1)) + 1)) + 1)) + 1)) + 1))),(5,vi a3.1),(0,vs a0_0 cq c0_0)]) (bx':=[]) (by simp only [vs,sv,cu]) rfl ?_
   refine oe (nt (qr (oN 3 [(1,vi (w64 ((w64 ((w64 ((w64 ((w64 ((w64 ((w64 ((w64 ((w64 ((w64 (a3.2.2 + 1)) + 1)) + 1)) + 1)) + 1)) + 1)) + 1)) + 1)) + 1)) + 1)))] [5,0] ?_)))
   refine oe (bn (nt (qr (oN 3 [(5,vi (w64 (a3.1 + 1)))] [1,0] ?_))))
   exact oe (ct cr () [5,0,1] [0] 0)
  refine qx (nx (nx (bh ?_)))
  have cv:=leafB bo bq ao
  exact mp ((a3.2.1,a3.2.2),()) cv [0,1] [0] 0
 have cw:=(congrFun bk _).symm.trans bl
 refine nt (qs (qr (oN 2 [(4,vi a4.1.2)] [0] ?_)))
 refine oe (nt (qe (rt [.int .i64 a4.1.2] (fun _ w hs=>?_))))
 rw [← sI cw]
 exact hs.turned (is:=[0]) rfl
theorem c_laws_markIntS {W : World} {x0 : List Int} {a0_0 : Option Addr} {c0_0 : Nat} {e0_0 : TypeId} {x1 : Int} {r : Int × (List Int)} (h : laws_markIntS x0 x1 = some r)  :
  GivesM Tryz.prog 26 #[.slice a0_0 x0.length c0_0,.int .i64 x1] W [SlRes e0_0 x0 a0_0 c0_0] [SlRes e0_0 r.2 a0_0 c0_0] (.int .i64 r.1):=by
 unfold laws_markIntS at h
 refine enM Tryz.func26 Tryz.ntmps26 (fun Fs=>?_)
 refine qs (qr (oN 1 [] [0,1] ?_))
 refine oe (nt (qs (qs (qr (oN 1 [(5,vi 0)] [0,1] ?_)))))
 refine oe (nt ?_)
 obtain ⟨ao,aa,a6⟩:=bS h
 obtain ⟨ab,ac,a6⟩:=brkS a6
 refine JC_cutP (τ:=((List Int) × Int) × (Unit)) (fun y=>ab y.1 = some r) (fun a4=>[(0,vs a0_0 a4.1.1 c0_0),(1,vi a4.1.2)]) (fun a4=>[]) (fun a4=>[SlRes e0_0 a4.1.1 a0_0 c0_0]) ?_ (fun a4 ae=>?_)
 ·refine qb (lp Unit aa (fun a3 a7=>[(5,vi a3.1),(0,vs a0_0 a3.2.1 c0_0),(1,vi a3.2.2)]) (fun a3 a7=>[]) (fun a3 a7=>[SlRes e0_0 a3.2.1 a0_0 c0_0]) () [5,0,1] [0] 0 (fun a3 a7 ap af ag=>?_))
  refine qs (qs (qr (oN 4 [(9,vb (decide (a3.1 < (a3.2.1.length : Int))))] [5,0,1] ?_)))
  refine oe (nt (cC af (fun ah=>?_) (fun ai=>?_)))
  ·refine qk (nt (qs (qb (qs (qr (oN 3 [(14,vi a3.2.2),(13,vi a3.1),(12,vs a0_0 a3.2.1 c0_0)] [5,0,1] ?_))))))
   obtain ⟨aq,a8,aj⟩:=bS ah
   refine oi 1 (fun _ w hs=>(hs.view 0 rfl)) a8 ?_
   obtain ⟨a9,a5,ak⟩:=bS aj
   replace a5:=(sI a5).symm
   refine JO_storeq (α:=Int) (d:=a0_0) (vs:=[.int .i64 a3.2.2]) (j:=a3.1) (x':=a3.2.2) rfl (by kernel_rfl) 0 (by kernel_rfl) a8 (Rc:=[]) (Rr:=[]) rfl (by kernel_rfl) (fun w c F Fs ho _ _=>own_flat_set (by kernel_rfl) ho) a5 rfl ?_
   have al:=len_set a5
   refine JO_keep [14,13,12,5,0,1] (sl':=[(14,vi a3.2.2),(13,vi a3.1),(12,vs a0_0 a3.2.1 c0_0),(5,vi a3.1),(0,vs a0_0 a3.2.1 c0_0),(1,vi a3.2.2)]) (by kernel_rfl) ?_
   refine JO_eqE (sl':=[(14,vi a3.2.2),(13,vi a3.1),(12,vs a0_0 a9 c0_0),(5,vi a3.1),(0,vs a0_0 a9 c0_0),(1,vi a3.2.2)]) (bx':=[]) (by simp only [vs,sv,al]) rfl ?_
   refine oe (nt (qr (oN 3 [(1,vi (w64 (a3.2.2 + 1)))] [5,0] ?_)))
   refine oe (bn (nt (qr (oN 3 [(5,vi (w64 (a3.1 + 1)))] [1,0] ?_))))
   exact oe (ct ak () [5,0,1] [0] 0)
  refine qx (nx (nx (bh ?_)))
  have am:=leafB ag ai a6
  exact mp ((a3.2.1,a3.2.2),()) am [0,1] [0] 0
 have an:=(congrFun ac _).symm.trans ae
 refine nt (qs (qr (oN 2 [(4,vi a4.1.2)] [0] ?_)))
 refine oe (nt (qe (rt [.int .i64 a4.1.2] (fun _ w hs=>?_))))
 rw [← sI an]
 exact hs.turned (is:=[0]) rfl
theorem c_laws_markOffice {W : World} {x0 : Office} {a0_0 : Option Addr} {c0_0 : Nat} {e0_0 : TypeId} {a0_1 : Option Addr} {c0_1 : Nat} {e0_1 : TypeId} {a0_2 : Option Addr} {c0_2 : Nat} {e0_2 : TypeId} {a0_3 : Option Addr} {c0_3 : Nat} {e0_3 : TypeId} {a0_4 : Option Addr} {c0_4 : Nat} {e0_4 : TypeId} {a0_5 : Option Addr} {c0_5 : Nat} {e0_5 : TypeId} {x1 : Int} {r : Int × (List Rule) × (List Fact) × (List Point) × (List Spell) × (List Event) × (List Int)} (h : laws_markOffice x0 x1 = some r)  :
  GivesM Tryz.prog 25 #[vOffice x0 ((a0_0,c0_0),(a0_1,c0_1),(a0_2,c0_2),(a0_3,c0_3),(a0_4,c0_4),(a0_5,c0_5)),.int .i64 x1] W [SlRes e0_0 x0.Case.Book.Rules a0_0 c0_0,SlRes e0_1 x0.Case.Store.Facts a0_1 c0_1,SlRes e0_2 x0.Case.Series.Points a0_2 c0_2,SlRes e0_3 x0.Case.Member.Spells a0_3 c0_3,SlRes e0_4 x0.Case.Member.Events a0_4 c0_4,SlRes e0_5 x0.Paid a0_5 c0_5] [SlRes e0_0 r.2.1 a0_0 c0_0,SlRes e0_1 r.2.2.1 a0_1 c0_1,SlRes e0_2 r.2.2.2.1 a0_2 c0_2,SlRes e0_3 r.2.2.2.2.1 a0_3 c0_3,SlRes e0_4 r.2.2.2.2.2.1 a0_4 c0_4,SlRes e0_5 r.2.2.2.2.2.2 a0_5 c0_5] (.int .i64 r.1):=by
 unfold laws_markOffice at h
 refine enM Tryz.func25 Tryz.ntmps25 (fun Fs=>?_)
 refine qs (qr (oB 2 [(2,.p 0 0)] [0,1] [(57,(eOffice x0 ((a0_0,c0_0),(a0_1,c0_1),(a0_2,c0_2),(a0_3,c0_3),(a0_4,c0_4),(a0_5,c0_5))))] ?_))
 refine oe (nt (qs (qr (oN 3 [(7,vi x1),(6,.v (vCase x0.Case ((a0_0,c0_0),(a0_1,c0_1),(a0_2,c0_2),(a0_3,c0_3),(a0_4,c0_4))))] [2,0] ?_))))
 obtain ⟨a3,ab,ac⟩:=bS h
 obtain ⟨au,ae,af⟩:=bS ac
 have a5:=(sameLen_some ae).symm
 obtain ⟨av,ag,ah⟩:=bS af
 have a6:=(sameLen_some ag).symm
 obtain ⟨aw,ai,aj⟩:=bS ah
 have a7:=(sameLen_some ai).symm
 obtain ⟨ax,ak,al⟩:=bS aj
 have a8:=(sameLen_some ak).symm
 obtain ⟨ay,am,an⟩:=bS al
 have a9:=(sameLen_some am).symm
 refine JO_callM rfl (by kernel_rfl) (f:=23) (args:=#[vCase x0.Case ((a0_0,c0_0),(a0_1,c0_1),(a0_2,c0_2),(a0_3,c0_3),(a0_4,c0_4)),.int .i64 x1]) (by kernel_rfl) (x:=.int .i64 a3.1) (Rin:=[SlRes e0_0 x0.Case.Book.Rules a0_0 c0_0,SlRes e0_1 x0.Case.Store.Facts a0_1 c0_1,SlRes e0_2 x0.Case.Series.Points a0_2 c0_2,SlRes e0_3 x0.Case.Member.Spells a0_3 c0_3,SlRes e0_4 x0.Case.Member.Events a0_4 c0_4]) (Rout:=[SlRes e0_0 a3.2.1 a0_0 c0_0,SlRes e0_1 a3.2.2.1 a0_1 c0_1,SlRes e0_2 a3.2.2.2.1 a0_2 c0_2,SlRes e0_3 a3.2.2.2.2.1 a0_3 c0_3,SlRes e0_4 a3.2.2.2.2.2 a0_4 c0_4]) (Rr:=[SlRes e0_5 x0.Paid a0_5 c0_5]) rfl (fun w=>(by have vv:=c_laws_markCase (e0_0:=e0_0) (a0_0:=a0_0) (c0_0:=c0_0) (e0_1:=e0_1) (a0_1:=a0_1) (c0_1:=c0_1) (e0_2:=e0_2) (a0_2:=a0_2) (c0_2:=c0_2) (e0_3:=e0_3) (a0_3:=a0_3) (c0_3:=c0_3) (e0_4:=e0_4) (a0_4:=a0_4) (c0_4:=c0_4) (W:=w) ab; exact vv)) (sl':=[(8,vi a3.1),(7,vi x1),(6,.v (vCase x0.Case ((a0_0,c0_0),(a0_1,c0_1),(a0_2,c0_2),(a0_3,c0_3),(a0_4,c0_4)))),(2,.p 0 0),(0,.v (vOffice x0 ((a0_0,c0_0),(a0_1,c0_1),(a0_2,c0_2),(a0_3,c0_3),(a0_4,c0_4),(a0_5,c0_5))))]) (by kernel_rfl) ?_
 refine JO_eqE (sl':=[(8,vi a3.1),(7,vi x1),(6,.v (vCase (Case.mk (Book.mk a3.2.1) (Store.mk a3.2.2.1) (Series.mk a3.2.2.2.1) (Member.mk x0.Case.Member.Birth x0.Case.Member.Joined a3.2.2.2.2.1 a3.2.2.2.2.2)) ((a0_0,c0_0),(a0_1,c0_1),(a0_2,c0_2),(a0_3,c0_3),(a0_4,c0_4)))),(2,.p 0 0),(0,.v (vOffice (Office.mk (Case.mk (Book.mk a3.2.1) (Store.mk a3.2.2.1) (Series.mk a3.2.2.2.1) (Member.mk x0.Case.Member.Birth x0.Case.Member.Joined a3.2.2.2.2.1 a3.2.2.2.2.2)) x0.Start x0.Paid) ((a0_0,c0_0),(a0_1,c0_1),(a0_2,c0_2),(a0_3,c0_3),(a0_4,c0_4),(a0_5,c0_5))))]) (bx':=[(57,(eOffice (Office.mk (Case.mk (Book.mk a3.2.1) (Store.mk a3.2.2.1) (Series.mk a3.2.2.2.1) (Member.mk x0.Case.Member.Birth x0.Case.Member.Joined a3.2.2.2.2.1 a3.2.2.2.2.2)) x0.Start x0.Paid) ((a0_0,c0_0),(a0_1,c0_1),(a0_2,c0_2),(a0_3,c0_3),(a0_4,c0_4),(a0_5,c0_5))))]) (by simp only [vs,sv,eCase,eOffice,vCase,vOffice,a5,a6,a7,a8,a9]) (by simp only [vs,sv,eOffice,vOffice,a5,a6,a7,a8,a9]) ?_
 refine oN 1 [(1,vi a3.1)] [2,0] ?_
 refine oe (nt (qs (qr (oN 3 [(11,vi a3.1),(10,vs a0_5 x0.Paid c0_5)] [0] ?_))))
 refine JO_res (R':=[SlRes e0_5 x0.Paid a0_5 c0_5,SlRes e0_0 a3.2.1 a0_0 c0_0,SlRes e0_1 a3.2.2.1 a0_1 c0_1,SlRes e0_2 a3.2.2.2.1 a0_2 c0_2,SlRes e0_3 a3.2.2.2.2.1 a0_3 c0_3,SlRes e0_4 a3.2.2.2.2.2 a0_4 c0_4]) [5,0,0,0,0,0] (by kernel_rfl) ?_
 obtain ⟨a4,ao,ap⟩:=bS an
 obtain ⟨az,aq,ar⟩:=bS ap
 have aa:=(sameLen_some aq).symm
 refine JO_callM rfl (by kernel_rfl) (f:=26) (args:=#[.slice a0_5 x0.Paid.length c0_5,.int .i64 a3.1]) (by kernel_rfl) (x:=.int .i64 a4.1) (Rin:=[SlRes e0_5 x0.Paid a0_5 c0_5]) (Rout:=[SlRes e0_5 a4.2 a0_5 c0_5]) (Rr:=[SlRes e0_0 a3.2.1 a0_0 c0_0,SlRes e0_1 a3.2.2.1 a0_1 c0_1,SlRes e0_2 a3.2.2.2.1 a0_2 c0_2,SlRes e0_3 a3.2.2.2.2.1 a0_3 c0_3,SlRes e0_4 a3.2.2.2.2.2 a0_4 c0_4]) rfl (fun w=>(by have vv:=c_laws_markIntS (e0_0:=e0_5) (a0_0:=a0_5) (c0_0:=c0_5) (W:=w) ao; exact vv)) (sl':=[(12,vi a4.1),(11,vi a3.1),(10,vs a0_5 x0.Paid c0_5),(0,.v (vOffice (Office.mk (Case.mk (Book.mk a3.2.1) (Store.mk a3.2.2.1) (Series.mk a3.2.2.2.1) (Member.mk x0.Case.Member.Birth x0.Case.Member.Joined a3.2.2.2.2.1 a3.2.2.2.2.2)) x0.Start x0.Paid) ((a0_0,c0_0),(a0_1,c0_1),(a0_2,c0_2),(a0_3,c0_3),(a0_4,c0_4),(a0_5,c0_5))))]) (by kernel_rfl) ?_
 refine JO_eqE (sl':=[(12,vi a4.1),(11,vi a3.1),(10,vs a0_5 a4.2 c0_5),(0,.v (vOffice (Office.mk (Case.mk (Book.mk a3.2.1) (Store.mk a3.2.2.1) (Series.mk a3.2.2.2.1) (Member.mk x0.Case.Member.Birth x0.Case.Member.Joined a3.2.2.2.2.1 a3.2.2.2.2.2)) x0.Start a4.2) ((a0_0,c0_0),(a0_1,c0_1),(a0_2,c0_2),(a0_3,c0_3),(a0_4,c0_4),(a0_5,c0_5))))]) (bx':=[(57,(eOffice (Office.mk (Case.mk (Book.mk a3.2.1) (Store.mk a3.2.2.1) (Series.mk a3.2.2.2.1) (Member.mk x0.Case.Member.Birth x0.Case.Member.Joined a3.2.2.2.2.1 a3.2.2.2.2.2)) x0.Start a4.2) ((a0_0,c0_0),(a0_1,c0_1),(a0_2,c0_2),(a0_3,c0_3),(a0_4,c0_4),(a0_5,c0_5))))]) (by simp only [vs,sv,eOffice,vOffice,aa]) (by simp only [vs,sv,eOffice,vOffice,aa]) ?_
 refine oN 1 [(1,vi a4.1)] [0] ?_
 refine oe (nt (qs (qr (oN 2 [(4,vi a4.1)] [0] ?_))))
 refine oe (nt (qe (rt [.int .i64 a4.1] (fun _ w hs=>?_))))
 rw [← sI ar]
 exact hs.turned (is:=[1,1,1,1,1,0]) rfl
theorem c_laws_heldNodeS {W : World} {x0 : List Node} {a0_0 : Option Addr} {c0_0 : Nat} {x1 : Int} {r : Int} (h : laws_heldNodeS x0 x1 = some r) (hv0_0 : SlView W x0 a0_0 c0_0) :
  Gives0 Tryz.prog 207 #[.slice a0_0 x0.length c0_0,.int .i64 x1] W (.int .i64 r):=by
 unfold laws_heldNodeS at h
 refine en Tryz.func207 Tryz.ntmps207 ?_
 refine qs (qr (oN 1 [] [0,1] ?_))
 refine oe (nt (qs (qs (qr (oN 1 [(5,vi 0)] [0,1] ?_)))))
 refine oe (nt ?_)
 obtain ⟨bq,al,a4⟩:=bS h
 obtain ⟨am,an,a4⟩:=brkS a4
 refine JC_cutP (τ:=(Int) × (Unit)) (fun y=>am y.1 = some r) (fun a6=>[(1,vi a6.1)]) (fun a6=>[]) (fun a6=>[]) ?_ (fun a6 ao=>?_)
 ·refine qb (lp Unit al (fun a3 a7=>[(5,vi a3.1),(0,vs a0_0 x0 c0_0),(1,vi a3.2)]) (fun a3 a7=>[]) (fun a3 a7=>[]) () [5,0,1] [] 0 (fun a3 a7 bs ap a5=>?_))
  refine qs (qs (qr (oN 4 [(9,vb (decide (a3.1 < (x0.length : Int))))] [5,0,1] ?_)))
  refine oe (nt (cC ap (fun aq=>?_) (fun ar=>?_)))
  ·refine qk (nt (qs (qb (qs (qs (qr (oN 2 [(13,vi a3.1),(12,vs a0_0 x0 c0_0)] [5,0,1] ?_)))))))
   obtain ⟨a8,a9,au⟩:=bS aq
   refine oi 6 (fun _ w hs=>(hv0_0.k hs)) a9 ?_
   refine oN 1 [(15,.q a0_0 (Int.toNat a3.1 * 6))] [5,0,1] ?_
   refine ol 3 0 (.int .i64 a8.Kind) (fun _ w hs=>(hv0_0.k hs).flatq a9) ?_
   refine oN 2 [(18,vb (a8.Kind != a3.2))] [5,0,1] ?_
   refine oe (nt (cC au (fun av=>?_) (fun aw=>?_)))
   ·refine qs (qr (oN 1 [(4,vi (-1))] [] ?_))
    refine oe (nt (qe (nr (br (nr (nr ?_))))))
    have ax:=leafR a5 av a4
    refine br (nr (nr ?_))
    obtain rfl:=sI ax
    exact re [.int .i64 (-1)]
   refine qk (nt (qs (qr (oN 3 [(1,vi (w64 (a3.2 + 1)))] [5,0] ?_))))
   refine oe (nt (qs (qs (qr (oN 2 [(22,vi a3.1),(21,vs a0_0 x0 c0_0)] [1,5,0] ?_)))))
   obtain ⟨aa,ab,ay⟩:=bS aw
   refine oi 6 (fun _ w hs=>(hv0_0.k hs)) ab ?_
   refine oN 1 [(24,.q a0_0 (Int.toNat a3.1 * 6 + 1))] [1,5,0] ?_
   refine ol 3 1 (.int .i64 aa.A) (fun _ w hs=>(hv0_0.k hs).flatq ab) ?_
   refine oN 2 [(27,vb (aa.A != (w64 (a3.2 + 1))))] [1,5,0] ?_
   refine oe (nt (cC ay (fun az=>?_) (fun b4=>?_)))
   ·refine qs (qr (oN 1 [(4,vi (-1))] [] ?_))
    refine oe (nt (qe (nr (br (nr (nr ?_))))))
    have b5:=leafR a5 az a4
    refine br (nr (nr ?_))
    obtain rfl:=sI b5
    exact re [.int .i64 (-1)]
   refine qk (nt (qs (qr (oN 3 [(1,vi (w64 ((w64 (a3.2 + 1)) + 1)))] [5,0] ?_))))
   refine oe (nt (qs (qs (qr (oN 2 [(31,vi a3.1),(30,vs a0_0 x0 c0_0)] [1,5,0] ?_)))))
   obtain ⟨ac,ae,b6⟩:=bS b4
   refine oi 6 (fun _ w hs=>(hv0_0.k hs)) ae ?_
   refine oN 1 [(33,.q a0_0 (Int.toNat a3.1 * 6 + 2))] [1,5,0] ?_
   refine ol 3 2 (.int .i64 ac.B) (fun _ w hs=>(hv0_0.k hs).flatq ae) ?_
   refine oN 2 [(36,vb (ac.B != (w64 ((w64 (a3.2 + 1)) + 1))))] [1,5,0] ?_
   refine oe (nt (cC b6 (fun b7=>?_) (fun b8=>?_)))
   ·refine qs (qr (oN 1 [(4,vi (-1))] [] ?_))
    refine oe (nt (qe (nr (br (nr (nr ?_))))))
    have b9:=leafR a5 b7 a4
    refine br (nr (nr ?_))
    obtain rfl:=sI b9
    exact re [.int .i64 (-1)]
   refine qk (nt (qs (qr (oN 3 [(1,vi (w64 ((w64 ((w64 (a3.2 + 1)) + 1)) + 1)))] [5,0] ?_))))
   refine oe (nt (qs (qs (qr (oN 2 [(40,vi a3.1),(39,vs a0_0 x0 c0_0)] [1,5,0] ?_)))))
   obtain ⟨af,ag,ba⟩:=bS b8
   refine oi 6 (fun _ w hs=>(hv0_0.k hs)) ag ?_
   refine oN 1 [(42,.q a0_0 (Int.toNat a3.1 * 6 + 3))] [1,5,0] ?_
   refine ol 3 3 (.int .i64 af.C) (fun _ w hs=>(hv0_0.k hs).flatq ag) ?_
   refine oN 2 [(45,vb (af.C != (w64 ((w64 ((w64 (a3.2 + 1)) + 1)) + 1))))] [1,5,0] ?_
   refine oe (nt (cC ba (fun bb=>?_) (fun bc=>?_)))
   ·refine qs (qr (oN 1 [(4,vi (-1))] [] ?_))
    refine oe (nt (qe (nr (br (nr (nr ?_))))))
    have bd:=leafR a5 bb a4
    refine br (nr (nr ?_))
    obtain rfl:=sI bd
    exact re [.int .i64 (-1)]
   refine qk (nt (qs (qr (oN 3 [(1,vi (w64 ((w64 ((w64 ((w64 (a3.2 + 1)) + 1)) + 1)) + 1)))] [5,0] ?_))))
   refine oe (nt (qs (qs (qr (oN 2 [(49,vi a3.1),(48,vs a0_0 x0 c0_0)] [1,5,0] ?_)))))
   obtain ⟨ah,ai,be⟩:=bS bc
   refine oi 6 (fun _ w hs=>(hv0_0.k hs)) ai ?_
   refine oN 2 [(52,.q a0_0 (Int.toNat a3.1 * 6 + 4))] [1,5,0] ?_
   refine ol 3 4 (.int .i64 ah.Value.Num) (fun _ w hs=>(hv0_0.k hs).flatq ai) ?_
   refine oN 2 [(55,vb (ah.Value.Num != (w64 ((w64 ((w64 ((w64 (a3.2 + 1)) + 1)) + 1)) + 1))))] [1,5,0] ?_
   refine oe (nt (cC be (fun bf=>?_) (fun bg=>?_)))
   ·refine qs (qr (oN 1 [(4,vi (-1))] [] ?_))
    refine oe (nt (qe (nr (br (nr (nr ?_))))))
    have bi:=leafR a5 bf a4
    refine br (nr (nr ?_))
    obtain rfl:=sI bi
    exact re [.int .i64 (-1)]
   refine qk (nt (qs (qr (oN 3 [(1,vi (w64 ((w64 ((w64 ((w64 ((w64 (a3.2 + 1)) + 1)) + 1)) + 1)) + 1)))] [5,0] ?_))))
   refine oe (nt (qs (qs (qr (oN 2 [(59,vi a3.1),(58,vs a0_0 x0 c0_0)] [1,5,0] ?_)))))
   obtain ⟨aj,ak,bj⟩:=bS bg
   refine oi 6 (fun _ w hs=>(hv0_0.k hs)) ak ?_
   refine oN 2 [(62,.q a0_0 (Int.toNat a3.1 * 6 + 5))] [1,5,0] ?_
   refine ol 3 5 (.int .i64 aj.Value.Den) (fun _ w hs=>(hv0_0.k hs).flatq ak) ?_
   refine oN 2 [(65,vb (aj.Value.Den != (w64 ((w64 ((w64 ((w64 ((w64 (a3.2 + 1)) + 1)) + 1)) + 1)) + 1))))] [1,5,0] ?_
   refine oe (nt (cC bj (fun bk=>?_) (fun bl=>?_)))
   ·refine qs (qr (oN 1 [(4,vi (-1))] [] ?_))
    refine oe (nt (qe (nr (br (nr (nr ?_))))))
    have bm:=leafR a5 bk a4
    refine br (nr (nr ?_))
    obtain rfl:=sI bm
    exact re [.int .i64 (-1)]
   refine qk (nt (qr (oN 3 [(1,vi (w64 ((w64 ((w64 ((w64 ((w64 ((w64 (a3.2 + 1)) + 1)) + 1)) + 1)) + 1)) + 1)))] [5,0] ?_)))
   refine oe (bn (nt (qr (oN 3 [(5,vi (w64 (a3.1 + 1)))] [1,0] ?_))))
   exact oe (ct bl () [5,0,1] [] 0)
  refine qx (nx (nx (bh ?_)))
  have bo:=leafB a5 ar a4
  exact mp (a3.2,()) bo [1] [] 0
 have bp:=(congrFun an _).symm.trans ao
 refine nt (qs (qr (oN 2 [(4,vi a6.1)] [] ?_)))
 refine oe (nt (qe ?_))
 obtain rfl:=sI bp
 exact re [.int .i64 a6.1]
theorem c_laws_heldRuleS {W : World} {x0 : List Rule} {a0_0 : Option Addr} {c0_0 : Nat} {x1 : Int} {r : Int} (h : laws_heldRuleS x0 x1 = some r) (hv0_0 : SlView W x0 a0_0 c0_0) :
  Gives0 Tryz.prog 159 #[.slice a0_0 x0.length c0_0,.int .i64 x1] W (.int .i64 r):=by
 unfold laws_heldRuleS at h
 refine en Tryz.func159 Tryz.ntmps159 ?_
 refine qs (qr (oN 1 [] [0,1] ?_))
 refine oe (nt (qs (qs (qr (oN 1 [(5,vi 0)] [0,1] ?_)))))
 refine oe (nt ?_)
 obtain ⟨cg,an,a4⟩:=bS h
 obtain ⟨ao,ap,a4⟩:=brkS a4
 refine JC_cutP (τ:=(Int) × (Unit)) (fun y=>ao y.1 = some r) (fun a6=>[(1,vi a6.1)]) (fun a6=>[]) (fun a6=>[]) ?_ (fun a6 aq=>?_)
 ·refine qb (lp Unit an (fun a3 a7=>[(5,vi a3.1),(0,vs a0_0 x0 c0_0),(1,vi a3.2)]) (fun a3 a7=>[]) (fun a3 a7=>[]) () [5,0,1] [] 0 (fun a3 a7 ch ar a5=>?_))
  refine qs (qs (qr (oN 4 [(9,vb (decide (a3.1 < (x0.length : Int))))] [5,0,1] ?_)))
  refine oe (nt (cC ar (fun au=>?_) (fun av=>?_)))
  ·refine qk (nt (qs (qb (qs (qs (qr (oN 2 [(13,vi a3.1),(12,vs a0_0 x0 c0_0)] [5,0,1] ?_)))))))
   obtain ⟨ag,a8,aw⟩:=bS au
   refine oi 7 (fun _ w hs=>(hv0_0.k hs)) a8 ?_
   refine oN 1 [(15,.q a0_0 (Int.toNat a3.1 * 7))] [5,0,1] ?_
   obtain ⟨_,⟨ci,cj,rfl,ck⟩,ax⟩:=SlView.at hv0_0 (idx_some a8).2.2
   refine ol 3 0 (.int .i64 ag.Name) (fun _ w hs=>⟨(hv0_0.k hs).ne (idx_some a8).2.2,ax.kept hs.kept⟩) ?_
   refine oN 2 [(18,vb (ag.Name != a3.2))] [5,0,1] ?_
   refine oe (nt (cC aw (fun ay=>?_) (fun az=>?_)))
   ·refine qs (qr (oN 1 [(4,vi (-1))] [] ?_))
    refine oe (nt (qe (nr (br (nr (nr ?_))))))
    have b4:=leafR a5 ay a4
    refine br (nr (nr ?_))
    obtain rfl:=sI b4
    exact re [.int .i64 (-1)]
   refine qk (nt (qs (qr (oN 3 [(1,vi (w64 (a3.2 + 1)))] [5,0] ?_))))
   refine oe (nt (qs (qs (qr (oN 2 [(22,vi a3.1),(21,vs a0_0 x0 c0_0)] [1,5,0] ?_)))))
   obtain ⟨ah,a9,b5⟩:=bS az
   refine oi 7 (fun _ w hs=>(hv0_0.k hs)) a9 ?_
   refine oN 1 [(24,.q a0_0 (Int.toNat a3.1 * 7 + 1))] [1,5,0] ?_
   obtain ⟨_,⟨cl,cm,rfl,cn⟩,b6⟩:=SlView.at hv0_0 (idx_some a9).2.2
   refine ol 3 1 (.int .i64 ah.From) (fun _ w hs=>⟨(hv0_0.k hs).ne (idx_some a9).2.2,b6.kept hs.kept⟩) ?_
   refine oN 2 [(27,vb (ah.From != (w64 (a3.2 + 1))))] [1,5,0] ?_
   refine oe (nt (cC b5 (fun b7=>?_) (fun b8=>?_)))
   ·refine qs (qr (oN 1 [(4,vi (-1))] [] ?_))
    refine oe (nt (qe (nr (br (nr (nr ?_))))))
    have b9:=leafR a5 b7 a4
    refine br (nr (nr ?_))
    obtain rfl:=sI b9
    exact re [.int .i64 (-1)]
   refine qk (nt (qs (qr (oN 3 [(1,vi (w64 ((w64 (a3.2 + 1)) + 1)))] [5,0] ?_))))
   refine oe (nt (qs (qs (qr (oN 2 [(31,vi a3.1),(30,vs a0_0 x0 c0_0)] [1,5,0] ?_)))))
   obtain ⟨ai,aa,ba⟩:=bS b8
   refine oi 7 (fun _ w hs=>(hv0_0.k hs)) aa ?_
   refine oN 1 [(33,.q a0_0 (Int.toNat a3.1 * 7 + 2))] [1,5,0] ?_
   obtain ⟨_,⟨co,cp,rfl,cq⟩,bb⟩:=SlView.at hv0_0 (idx_some aa).2.2
   refine ol 3 2 (.int .i64 ai.To) (fun _ w hs=>⟨(hv0_0.k hs).ne (idx_some aa).2.2,bb.kept hs.kept⟩) ?_
   refine oN 2 [(36,vb (ai.To != (w64 ((w64 (a3.2 + 1)) + 1))))] [1,5,0] ?_
   refine oe (nt (cC ba (fun bc=>?_) (fun bd=>?_)))
   ·refine qs (qr (oN 1 [(4,vi (-1))] [] ?_))
    refine oe (nt (qe (nr (br (nr (nr ?_))))))
    have be:=leafR a5 bc a4
    refine br (nr (nr ?_))
    obtain rfl:=sI be
    exact re [.int .i64 (-1)]
   refine qk (nt (qs (qr (oN 3 [(1,vi (w64 ((w64 ((w64 (a3.2 + 1)) + 1)) + 1)))] [5,0] ?_))))
   refine oe (nt (qs (qs (qr (oN 2 [(40,vi a3.1),(39,vs a0_0 x0 c0_0)] [1,5,0] ?_)))))
   obtain ⟨aj,ab,bf⟩:=bS bd
   refine oi 7 (fun _ w hs=>(hv0_0.k hs)) ab ?_
   refine oN 1 [(42,.q a0_0 (Int.toNat a3.1 * 7 + 3))] [1,5,0] ?_
   obtain ⟨_,⟨cr,cu,rfl,cv⟩,bg⟩:=SlView.at hv0_0 (idx_some ab).2.2
   refine ol 3 3 (.int .i64 aj.Joined) (fun _ w hs=>⟨(hv0_0.k hs).ne (idx_some ab).2.2,bg.kept hs.kept⟩) ?_
   refine oN 2 [(45,vb (aj.Joined != (w64 ((w64 ((w64 (a3.2 + 1)) + 1)) + 1))))] [1,5,0] ?_
   refine oe (nt (cC bf (fun bi=>?_) (fun bj=>?_)))
   ·refine qs (qr (oN 1 [(4,vi (-1))] [] ?_))
    refine oe (nt (qe (nr (br (nr (nr ?_))))))
    have bk:=leafR a5 bi a4
    refine br (nr (nr ?_))
    obtain rfl:=sI bk
    exact re [.int .i64 (-1)]
   refine qk (nt (qs (qr (oN 3 [(1,vi (w64 ((w64 ((w64 ((w64 (a3.2 + 1)) + 1)) + 1)) + 1)))] [5,0] ?_))))
   refine oe (nt (qs (qs (qr (oN 2 [(49,vi a3.1),(48,vs a0_0 x0 c0_0)] [1,5,0] ?_)))))
   obtain ⟨ak,ac,bl⟩:=bS bj
   refine oi 7 (fun _ w hs=>(hv0_0.k hs)) ac ?_
   refine oN 1 [(51,.q a0_0 (Int.toNat a3.1 * 7 + 4))] [1,5,0] ?_
   obtain ⟨_,⟨cw,cx,rfl,cy⟩,bm⟩:=SlView.at hv0_0 (idx_some ac).2.2
   refine ol 3 4 (.int .i64 ak.Rank) (fun _ w hs=>⟨(hv0_0.k hs).ne (idx_some ac).2.2,bm.kept hs.kept⟩) ?_
   refine oN 2 [(54,vb (ak.Rank != (w64 ((w64 ((w64 ((w64 (a3.2 + 1)) + 1)) + 1)) + 1))))] [1,5,0] ?_
   refine oe (nt (cC bl (fun bo=>?_) (fun bp=>?_)))
   ·refine qs (qr (oN 1 [(4,vi (-1))] [] ?_))
    refine oe (nt (qe (nr (br (nr (nr ?_))))))
    have bq:=leafR a5 bo a4
    refine br (nr (nr ?_))
    obtain rfl:=sI bq
    exact re [.int .i64 (-1)]
   refine qk (nt (qs (qr (oN 3 [(1,vi (w64 ((w64 ((w64 ((w64 ((w64 (a3.2 + 1)) + 1)) + 1)) + 1)) + 1)))] [5,0] ?_))))
   refine oe (nt (qs (qs (qr (oN 2 [(58,vi a3.1),(57,vs a0_0 x0 c0_0)] [1,5,0] ?_)))))
   obtain ⟨al,ae,bs⟩:=bS bp
   refine oi 7 (fun _ w hs=>(hv0_0.k hs)) ae ?_
   refine oN 1 [(60,.q a0_0 (Int.toNat a3.1 * 7 + 5))] [1,5,0] ?_
   obtain ⟨_,⟨cz,d0,rfl,d1⟩,bu⟩:=SlView.at hv0_0 (idx_some ae).2.2
   refine ol 3 5 (.int .i64 al.Mode) (fun _ w hs=>⟨(hv0_0.k hs).ne (idx_some ae).2.2,bu.kept hs.kept⟩) ?_
   refine oN 2 [(63,vb (al.Mode != (w64 ((w64 ((w64 ((w64 ((w64 (a3.2 + 1)) + 1)) + 1)) + 1)) + 1))))] [1,5,0] ?_
   refine oe (nt (cC bs (fun bv=>?_) (fun bw=>?_)))
   ·refine qs (qr (oN 1 [(4,vi (-1))] [] ?_))
    refine oe (nt (qe (nr (br (nr (nr ?_))))))
    have bz:=leafR a5 bv a4
    refine br (nr (nr ?_))
    obtain rfl:=sI bz
    exact re [.int .i64 (-1)]
   refine qk (nt (qs (qr (oN 3 [(1,vi (w64 ((w64 ((w64 ((w64 ((w64 ((w64 (a3.2 + 1)) + 1)) + 1)) + 1)) + 1)) + 1)))] [5,0] ?_))))
   refine oe (nt (qs (qr (oN 2 [(67,vi a3.1),(66,vs a0_0 x0 c0_0)] [1,5,0] ?_))))
   obtain ⟨c3,af,c4⟩:=bS bw
   refine oi 7 (fun _ w hs=>(hv0_0.k hs)) af ?_
   refine oN 1 [(69,.q a0_0 (Int.toNat a3.1 * 7 + 6))] [1,5,0] ?_
   obtain ⟨_,⟨c5,c6,rfl,c7⟩,c8⟩:=SlView.at hv0_0 (idx_some af).2.2
   refine ol 186 6 (.slice c5 c3.Nodes.length c6) (fun _ w hs=>⟨(hv0_0.k hs).ne (idx_some af).2.2,c8.kept hs.kept⟩) ?_
   refine oN 1 [(71,vi (w64 ((w64 ((w64 ((w64 ((w64 ((w64 (a3.2 + 1)) + 1)) + 1)) + 1)) + 1)) + 1)))] [70,5,0] ?_
   obtain ⟨am,c9,ca⟩:=bS c4
   refine k0 (fun _ w hs=>c_laws_heldNodeS c9 (c7.k hs)) ?_
   refine oN 1 [(1,vi am)] [5,0] ?_
   refine oe (nt (qs (qr (oN 2 [(74,vb (decide (am < 0)))] [1,5,0] ?_))))
   refine oe (nt (cC ca (fun cb=>?_) (fun cc=>?_)))
   ·refine qs (qr (oN 1 [(4,vi (-1))] [] ?_))
    refine oe (nt (qe (br (nr (nr ?_)))))
    have cd:=leafR a5 cb a4
    refine br (nr (nr ?_))
    obtain rfl:=sI cd
    exact re [.int .i64 (-1)]
   refine qk (bn (nt (qr (oN 3 [(5,vi (w64 (a3.1 + 1)))] [1,0] ?_))))
   exact oe (ct cc () [5,0,1] [] 0)
  refine qx (nx (nx (bh ?_)))
  have ce:=leafB a5 av a4
  exact mp (a3.2,()) ce [1] [] 0
 have cf:=(congrFun ap _).symm.trans aq
 refine nt (qs (qr (oN 2 [(4,vi a6.1)] [] ?_)))
 refine oe (nt (qe ?_))
 obtain rfl:=sI cf
 exact re [.int .i64 a6.1]
theorem c_laws_heldBook {W : World} {x0 : Book} {a0_0 : Option Addr} {c0_0 : Nat} {x1 : Int} {r : Int} (h : laws_heldBook x0 x1 = some r) (hv0_0 : SlView W x0.Rules a0_0 c0_0) :
  Gives0 Tryz.prog 119 #[vBook x0 (a0_0,c0_0),.int .i64 x1] W (.int .i64 r):=by
 unfold laws_heldBook at h
 refine en Tryz.func119 Tryz.ntmps119 ?_
 refine qs (qr (oB 2 [(2,.p 0 0)] [1] [(42,(eBook x0 (a0_0,c0_0)))] ?_))
 refine oe (nt (qs (qr (oN 3 [(7,vi x1),(6,vs a0_0 x0.Rules c0_0)] [] ?_))))
 obtain ⟨a3,a4,a5⟩:=bS h
 refine k0 (fun _ w hs=>c_laws_heldRuleS a4 (hv0_0.k hs)) ?_
 refine oN 1 [(1,vi a3)] [] ?_
 refine oe (nt (qs (qs (qr (oN 2 [(10,vb (decide (a3 < 0)))] [1] ?_)))))
 refine oe (nt (cC a5 (fun a6=>?_) (fun a7=>?_)))
 ·refine qs (qr (oN 1 [(4,vi (-1))] [] ?_))
  refine oe (nt (qe (nr ?_)))
  obtain rfl:=sI a6
  exact re [.int .i64 (-1)]
 refine qk (nt (qs (qr (oN 2 [(4,vi a3)] [] ?_))))
 refine oe (nt (qe ?_))
 obtain rfl:=sI a7
 exact re [.int .i64 a3]
theorem c_laws_heldFactS {W : World} {x0 : List Fact} {a0_0 : Option Addr} {c0_0 : Nat} {x1 : Int} {r : Int} (h : laws_heldFactS x0 x1 = some r) (hv0_0 : SlView W x0 a0_0 c0_0) :
  Gives0 Tryz.prog 160 #[.slice a0_0 x0.length c0_0,.int .i64 x1] W (.int .i64 r):=by
 unfold laws_heldFactS at h
 refine en Tryz.func160 Tryz.ntmps160 ?_
 refine qs (qr (oN 1 [] [0,1] ?_))
 refine oe (nt (qs (qs (qr (oN 1 [(5,vi 0)] [0,1] ?_)))))
 refine oe (nt ?_)
 obtain ⟨bj,aj,a4⟩:=bS h
 obtain ⟨ak,al,a4⟩:=brkS a4
 refine JC_cutP (τ:=(Int) × (Unit)) (fun y=>ak y.1 = some r) (fun a5=>[(1,vi a5.1)]) (fun a5=>[]) (fun a5=>[]) ?_ (fun a5 am=>?_)
 ·refine qb (lp Unit aj (fun a3 a7=>[(5,vi a3.1),(0,vs a0_0 x0 c0_0),(1,vi a3.2)]) (fun a3 a7=>[]) (fun a3 a7=>[]) () [5,0,1] [] 0 (fun a3 a7 bk an a6=>?_))
  refine qs (qs (qr (oN 4 [(9,vb (decide (a3.1 < (x0.length : Int))))] [5,0,1] ?_)))
  refine oe (nt (cC an (fun ao=>?_) (fun ap=>?_)))
  ·refine qk (nt (qs (qb (qs (qs (qr (oN 2 [(13,vi a3.1),(12,vs a0_0 x0 c0_0)] [5,0,1] ?_)))))))
   obtain ⟨a8,a9,aq⟩:=bS ao
   refine oi 5 (fun _ w hs=>(hv0_0.k hs)) a9 ?_
   refine oN 1 [(15,.q a0_0 (Int.toNat a3.1 * 5))] [5,0,1] ?_
   refine ol 3 0 (.int .i64 a8.Key) (fun _ w hs=>(hv0_0.k hs).flatq a9) ?_
   refine oN 2 [(18,vb (a8.Key != a3.2))] [5,0,1] ?_
   refine oe (nt (cC aq (fun ar=>?_) (fun au=>?_)))
   ·refine qs (qr (oN 1 [(4,vi (-1))] [] ?_))
    refine oe (nt (qe (nr (br (nr (nr ?_))))))
    have av:=leafR a6 ar a4
    refine br (nr (nr ?_))
    obtain rfl:=sI av
    exact re [.int .i64 (-1)]
   refine qk (nt (qs (qr (oN 3 [(1,vi (w64 (a3.2 + 1)))] [5,0] ?_))))
   refine oe (nt (qs (qs (qr (oN 2 [(22,vi a3.1),(21,vs a0_0 x0 c0_0)] [1,5,0] ?_)))))
   obtain ⟨aa,ab,aw⟩:=bS au
   refine oi 5 (fun _ w hs=>(hv0_0.k hs)) ab ?_
   refine oN 1 [(24,.q a0_0 (Int.toNat a3.1 * 5 + 1))] [1,5,0] ?_
   refine ol 3 1 (.int .i64 aa.From) (fun _ w hs=>(hv0_0.k hs).flatq ab) ?_
   refine oN 2 [(27,vb (aa.From != (w64 (a3.2 + 1))))] [1,5,0] ?_
   refine oe (nt (cC aw (fun ax=>?_) (fun ay=>?_)))
   ·refine qs (qr (oN 1 [(4,vi (-1))] [] ?_))
    refine oe (nt (qe (nr (br (nr (nr ?_))))))
    have az:=leafR a6 ax a4
    refine br (nr (nr ?_))
    obtain rfl:=sI az
    exact re [.int .i64 (-1)]
   refine qk (nt (qs (qr (oN 3 [(1,vi (w64 ((w64 (a3.2 + 1)) + 1)))] [5,0] ?_))))
   refine oe (nt (qs (qs (qr (oN 2 [(31,vi a3.1),(30,vs a0_0 x0 c0_0)] [1,5,0] ?_)))))
   obtain ⟨ac,ae,b4⟩:=bS ay
   refine oi 5 (fun _ w hs=>(hv0_0.k hs)) ae ?_
   refine oN 1 [(33,.q a0_0 (Int.toNat a3.1 * 5 + 2))] [1,5,0] ?_
   refine ol 3 2 (.int .i64 ac.To) (fun _ w hs=>(hv0_0.k hs).flatq ae) ?_
   refine oN 2 [(36,vb (ac.To != (w64 ((w64 (a3.2 + 1)) + 1))))] [1,5,0] ?_
   refine oe (nt (cC b4 (fun b5=>?_) (fun b6=>?_)))
   ·refine qs (qr (oN 1 [(4,vi (-1))] [] ?_))
    refine oe (nt (qe (nr (br (nr (nr ?_))))))
    have b7:=leafR a6 b5 a4
    refine br (nr (nr ?_))
    obtain rfl:=sI b7
    exact re [.int .i64 (-1)]
   refine qk (nt (qs (qr (oN 3 [(1,vi (w64 ((w64 ((w64 (a3.2 + 1)) + 1)) + 1)))] [5,0] ?_))))
   refine oe (nt (qs (qs (qr (oN 2 [(40,vi a3.1),(39,vs a0_0 x0 c0_0)] [1,5,0] ?_)))))
   obtain ⟨af,ag,b8⟩:=bS b6
   refine oi 5 (fun _ w hs=>(hv0_0.k hs)) ag ?_
   refine oN 1 [(42,.q a0_0 (Int.toNat a3.1 * 5 + 3))] [1,5,0] ?_
   refine ol 3 3 (.int .i64 af.Known) (fun _ w hs=>(hv0_0.k hs).flatq ag) ?_
   refine oN 2 [(45,vb (af.Known != (w64 ((w64 ((w64 (a3.2 + 1)) + 1)) + 1))))] [1,5,0] ?_
   refine oe (nt (cC b8 (fun b9=>?_) (fun ba=>?_)))
   ·refine qs (qr (oN 1 [(4,vi (-1))] [] ?_))
    refine oe (nt (qe (nr (br (nr (nr ?_))))))
    have bb:=leafR a6 b9 a4
    refine br (nr (nr ?_))
    obtain rfl:=sI bb
    exact re [.int .i64 (-1)]
   refine qk (nt (qs (qr (oN 3 [(1,vi (w64 ((w64 ((w64 ((w64 (a3.2 + 1)) + 1)) + 1)) + 1)))] [5,0] ?_))))
   refine oe (nt (qs (qs (qr (oN 2 [(49,vi a3.1),(48,vs a0_0 x0 c0_0)] [1,5,0] ?_)))))
   obtain ⟨ah,ai,bc⟩:=bS ba
   refine oi 5 (fun _ w hs=>(hv0_0.k hs)) ai ?_
   refine oN 1 [(51,.q a0_0 (Int.toNat a3.1 * 5 + 4))] [1,5,0] ?_
   refine ol 3 4 (.int .i64 ah.Value) (fun _ w hs=>(hv0_0.k hs).flatq ai) ?_
   refine oN 2 [(54,vb (ah.Value != (w64 ((w64 ((w64 ((w64 (a3.2 + 1)) + 1)) + 1)) + 1))))] [1,5,0] ?_
   refine oe (nt (cC bc (fun bd=>?_) (fun be=>?_)))
   ·refine qs (qr (oN 1 [(4,vi (-1))] [] ?_))
    refine oe (nt (qe (nr (br (nr (nr ?_))))))
    have bf:=leafR a6 bd a4
    refine br (nr (nr ?_))
    obtain rfl:=sI bf
    exact re [.int .i64 (-1)]
   refine qk (nt (qr (oN 3 [(1,vi (w64 ((w64 ((w64 ((w64 ((w64 (a3.2 + 1)) + 1)) + 1)) + 1)) + 1)))] [5,0] ?_)))
   refine oe (bn (nt (qr (oN 3 [(5,vi (w64 (a3.1 + 1)))] [1,0] ?_))))
   exact oe (ct be () [5,0,1] [] 0)
  refine qx (nx (nx (bh ?_)))
  have bg:=leafB a6 ap a4
  exact mp (a3.2,()) bg [1] [] 0
 have bi:=(congrFun al _).symm.trans am
 refine nt (qs (qr (oN 2 [(4,vi a5.1)] [] ?_)))
 refine oe (nt (qe ?_))
 obtain rfl:=sI bi
 exact re [.int .i64 a5.1]
theorem c_laws_heldStore {W : World} {x0 : Store} {a0_0 : Option Addr} {c0_0 : Nat} {x1 : Int} {r : Int} (h : laws_heldStore x0 x1 = some r) (hv0_0 : SlView W x0.Facts a0_0 c0_0) :
  Gives0 Tryz.prog 120 #[vStore x0 (a0_0,c0_0),.int .i64 x1] W (.int .i64 r):=by
 unfold laws_heldStore at h
 refine en Tryz.func120 Tryz.ntmps120 ?_
 refine qs (qr (oB 2 [(2,.p 0 0)] [1] [(45,(eStore x0 (a0_0,c0_0)))] ?_))
 refine oe (nt (qs (qr (oN 3 [(7,vi x1),(6,vs a0_0 x0.Facts c0_0)] [] ?_))))
 obtain ⟨a3,a4,a5⟩:=bS h
 refine k0 (fun _ w hs=>c_laws_heldFactS a4 (hv0_0.k hs)) ?_
 refine oN 1 [(1,vi a3)] [] ?_
 refine oe (nt (qs (qs (qr (oN 2 [(10,vb (decide (a3 < 0)))] [1] ?_)))))
 refine oe (nt (cC a5 (fun a6=>?_) (fun a7=>?_)))
 ·refine qs (qr (oN 1 [(4,vi (-1))] [] ?_))
  refine oe (nt (qe (nr ?_)))
  obtain rfl:=sI a6
  exact re [.int .i64 (-1)]
 refine qk (nt (qs (qr (oN 2 [(4,vi a3)] [] ?_))))
 refine oe (nt (qe ?_))
 obtain rfl:=sI a7
 exact re [.int .i64 a3]
theorem c_laws_heldPointS {W : World} {x0 : List Point} {a0_0 : Option Addr} {c0_0 : Nat} {x1 : Int} {r : Int} (h : laws_heldPointS x0 x1 = some r) (hv0_0 : SlView W x0 a0_0 c0_0) :
  Gives0 Tryz.prog 161 #[.slice a0_0 x0.length c0_0,.int .i64 x1] W (.int .i64 r):=by
 unfold laws_heldPointS at h
 refine en Tryz.func161 Tryz.ntmps161 ?_
 refine qs (qr (oN 1 [] [0,1] ?_))
 refine oe (nt (qs (qs (qr (oN 1 [(5,vi 0)] [0,1] ?_)))))
 refine oe (nt ?_)
 obtain ⟨b6,af,a4⟩:=bS h
 obtain ⟨ag,ah,a4⟩:=brkS a4
 refine JC_cutP (τ:=(Int) × (Unit)) (fun y=>ag y.1 = some r) (fun a5=>[(1,vi a5.1)]) (fun a5=>[]) (fun a5=>[]) ?_ (fun a5 ai=>?_)
 ·refine qb (lp Unit af (fun a3 a7=>[(5,vi a3.1),(0,vs a0_0 x0 c0_0),(1,vi a3.2)]) (fun a3 a7=>[]) (fun a3 a7=>[]) () [5,0,1] [] 0 (fun a3 a7 b7 aj a6=>?_))
  refine qs (qs (qr (oN 4 [(9,vb (decide (a3.1 < (x0.length : Int))))] [5,0,1] ?_)))
  refine oe (nt (cC aj (fun ak=>?_) (fun al=>?_)))
  ·refine qk (nt (qs (qb (qs (qs (qr (oN 2 [(13,vi a3.1),(12,vs a0_0 x0 c0_0)] [5,0,1] ?_)))))))
   obtain ⟨a8,a9,am⟩:=bS ak
   refine oi 3 (fun _ w hs=>(hv0_0.k hs)) a9 ?_
   refine oN 1 [(15,.q a0_0 (Int.toNat a3.1 * 3))] [5,0,1] ?_
   refine ol 3 0 (.int .i64 a8.Month) (fun _ w hs=>(hv0_0.k hs).flatq a9) ?_
   refine oN 2 [(18,vb (a8.Month != a3.2))] [5,0,1] ?_
   refine oe (nt (cC am (fun an=>?_) (fun ao=>?_)))
   ·refine qs (qr (oN 1 [(4,vi (-1))] [] ?_))
    refine oe (nt (qe (nr (br (nr (nr ?_))))))
    have ap:=leafR a6 an a4
    refine br (nr (nr ?_))
    obtain rfl:=sI ap
    exact re [.int .i64 (-1)]
   refine qk (nt (qs (qr (oN 3 [(1,vi (w64 (a3.2 + 1)))] [5,0] ?_))))
   refine oe (nt (qs (qs (qr (oN 2 [(22,vi a3.1),(21,vs a0_0 x0 c0_0)] [1,5,0] ?_)))))
   obtain ⟨aa,ab,aq⟩:=bS ao
   refine oi 3 (fun _ w hs=>(hv0_0.k hs)) ab ?_
   refine oN 1 [(24,.q a0_0 (Int.toNat a3.1 * 3 + 1))] [1,5,0] ?_
   refine ol 3 1 (.int .i64 aa.Known) (fun _ w hs=>(hv0_0.k hs).flatq ab) ?_
   refine oN 2 [(27,vb (aa.Known != (w64 (a3.2 + 1))))] [1,5,0] ?_
   refine oe (nt (cC aq (fun ar=>?_) (fun au=>?_)))
   ·refine qs (qr (oN 1 [(4,vi (-1))] [] ?_))
    refine oe (nt (qe (nr (br (nr (nr ?_))))))
    have av:=leafR a6 ar a4
    refine br (nr (nr ?_))
    obtain rfl:=sI av
    exact re [.int .i64 (-1)]
   refine qk (nt (qs (qr (oN 3 [(1,vi (w64 ((w64 (a3.2 + 1)) + 1)))] [5,0] ?_))))
   refine oe (nt (qs (qs (qr (oN 2 [(31,vi a3.1),(30,vs a0_0 x0 c0_0)] [1,5,0] ?_)))))
   obtain ⟨ac,ae,aw⟩:=bS au
   refine oi 3 (fun _ w hs=>(hv0_0.k hs)) ae ?_
   refine oN 1 [(33,.q a0_0 (Int.toNat a3.1 * 3 + 2))] [1,5,0] ?_
   refine ol 3 2 (.int .i64 ac.Value) (fun _ w hs=>(hv0_0.k hs).flatq ae) ?_
   refine oN 2 [(36,vb (ac.Value != (w64 ((w64 (a3.2 + 1)) + 1))))] [1,5,0] ?_
   refine oe (nt (cC aw (fun ax=>?_) (fun ay=>?_)))
   ·refine qs (qr (oN 1 [(4,vi (-1))] [] ?_))
    refine oe (nt (qe (nr (br (nr (nr ?_))))))
    have az:=leafR a6 ax a4
    refine br (nr (nr ?_))
    obtain rfl:=sI az
    exact re [.int .i64 (-1)]
   refine qk (nt (qr (oN 3 [(1,vi (w64 ((w64 ((w64 (a3.2 + 1)) + 1)) + 1)))] [5,0] ?_)))
   refine oe (bn (nt (qr (oN 3 [(5,vi (w64 (a3.1 + 1)))] [1,0] ?_))))
   exact oe (ct ay () [5,0,1] [] 0)
  refine qx (nx (nx (bh ?_)))
  have b4:=leafB a6 al a4
  exact mp (a3.2,()) b4 [1] [] 0
 have b5:=(congrFun ah _).symm.trans ai
 refine nt (qs (qr (oN 2 [(4,vi a5.1)] [] ?_)))
 refine oe (nt (qe ?_))
 obtain rfl:=sI b5
 exact re [.int .i64 a5.1]
theorem c_laws_heldSeries {W : World} {x0 : Series} {a0_0 : Option Addr} {c0_0 : Nat} {x1 : Int} {r : Int} (h : laws_heldSeries x0 x1 = some r) (hv0_0 : SlView W x0.Points a0_0 c0_0) :
  Gives0 Tryz.prog 121 #[vSeries x0 (a0_0,c0_0),.int .i64 x1] W (.int .i64 r):=by
 unfold laws_heldSeries at h
 refine en Tryz.func121 Tryz.ntmps121 ?_
 refine qs (qr (oB 2 [(2,.p 0 0)] [1] [(48,(eSeries x0 (a0_0,c0_0)))] ?_))
 refine oe (nt (qs (qr (oN 3 [(7,vi x1),(6,vs a0_0 x0.Points c0_0)] [] ?_))))
 obtain ⟨a3,a4,a5⟩:=bS h
 refine k0 (fun _ w hs=>c_laws_heldPointS a4 (hv0_0.k hs)) ?_
 refine oN 1 [(1,vi a3)] [] ?_
 refine oe (nt (qs (qs (qr (oN 2 [(10,vb (decide (a3 < 0)))] [1] ?_)))))
 refine oe (nt (cC a5 (fun a6=>?_) (fun a7=>?_)))
 ·refine qs (qr (oN 1 [(4,vi (-1))] [] ?_))
  refine oe (nt (qe (nr ?_)))
  obtain rfl:=sI a6
  exact re [.int .i64 (-1)]
 refine qk (nt (qs (qr (oN 2 [(4,vi a3)] [] ?_))))
 refine oe (nt (qe ?_))
 obtain rfl:=sI a7
 exact re [.int .i64 a3]
theorem c_laws_heldSpellS {W : World} {x0 : List Spell} {a0_0 : Option Addr} {c0_0 : Nat} {x1 : Int} {r : Int} (h : laws_heldSpellS x0 x1 = some r) (hv0_0 : SlView W x0 a0_0 c0_0) :
  Gives0 Tryz.prog 162 #[.slice a0_0 x0.length c0_0,.int .i64 x1] W (.int .i64 r):=by
 unfold laws_heldSpellS at h
 refine en Tryz.func162 Tryz.ntmps162 ?_
 refine qs (qr (oN 1 [] [0,1] ?_))
 refine oe (nt (qs (qs (qr (oN 1 [(5,vi 0)] [0,1] ?_)))))
 refine oe (nt ?_)
 obtain ⟨bc,ah,a4⟩:=bS h
 obtain ⟨ai,aj,a4⟩:=brkS a4
 refine JC_cutP (τ:=(Int) × (Unit)) (fun y=>ai y.1 = some r) (fun a5=>[(1,vi a5.1)]) (fun a5=>[]) (fun a5=>[]) ?_ (fun a5 ak=>?_)
 ·refine qb (lp Unit ah (fun a3 a7=>[(5,vi a3.1),(0,vs a0_0 x0 c0_0),(1,vi a3.2)]) (fun a3 a7=>[]) (fun a3 a7=>[]) () [5,0,1] [] 0 (fun a3 a7 bd al a6=>?_))
  refine qs (qs (qr (oN 4 [(9,vb (decide (a3.1 < (x0.length : Int))))] [5,0,1] ?_)))
  refine oe (nt (cC al (fun am=>?_) (fun an=>?_)))
  ·refine qk (nt (qs (qb (qs (qs (qr (oN 2 [(13,vi a3.1),(12,vs a0_0 x0 c0_0)] [5,0,1] ?_)))))))
   obtain ⟨a8,a9,ao⟩:=bS am
   refine oi 4 (fun _ w hs=>(hv0_0.k hs)) a9 ?_
   refine oN 1 [(15,.q a0_0 (Int.toNat a3.1 * 4))] [5,0,1] ?_
   refine ol 3 0 (.int .i64 a8.From) (fun _ w hs=>(hv0_0.k hs).flatq a9) ?_
   refine oN 2 [(18,vb (a8.From != a3.2))] [5,0,1] ?_
   refine oe (nt (cC ao (fun ap=>?_) (fun aq=>?_)))
   ·refine qs (qr (oN 1 [(4,vi (-1))] [] ?_))
    refine oe (nt (qe (nr (br (nr (nr ?_))))))
    have ar:=leafR a6 ap a4
    refine br (nr (nr ?_))
    obtain rfl:=sI ar
    exact re [.int .i64 (-1)]
   refine qk (nt (qs (qr (oN 3 [(1,vi (w64 (a3.2 + 1)))] [5,0] ?_))))
   refine oe (nt (qs (qs (qr (oN 2 [(22,vi a3.1),(21,vs a0_0 x0 c0_0)] [1,5,0] ?_)))))
   obtain ⟨aa,ab,au⟩:=bS aq
   refine oi 4 (fun _ w hs=>(hv0_0.k hs)) ab ?_
   refine oN 1 [(24,.q a0_0 (Int.toNat a3.1 * 4 + 1))] [1,5,0] ?_
   refine ol 3 1 (.int .i64 aa.To) (fun _ w hs=>(hv0_0.k hs).flatq ab) ?_
   refine oN 2 [(27,vb (aa.To != (w64 (a3.2 + 1))))] [1,5,0] ?_
   refine oe (nt (cC au (fun av=>?_) (fun aw=>?_)))
   ·refine qs (qr (oN 1 [(4,vi (-1))] [] ?_))
    refine oe (nt (qe (nr (br (nr (nr ?_))))))
    have ax:=leafR a6 av a4
    refine br (nr (nr ?_))
    obtain rfl:=sI ax
    exact re [.int .i64 (-1)]
   refine qk (nt (qs (qr (oN 3 [(1,vi (w64 ((w64 (a3.2 + 1)) + 1)))] [5,0] ?_))))
   refine oe (nt (qs (qs (qr (oN 2 [(31,vi a3.1),(30,vs a0_0 x0 c0_0)] [1,5,0] ?_)))))
   obtain ⟨ac,ae,ay⟩:=bS aw
   refine oi 4 (fun _ w hs=>(hv0_0.k hs)) ae ?_
   refine oN 1 [(33,.q a0_0 (Int.toNat a3.1 * 4 + 2))] [1,5,0] ?_
   refine ol 3 2 (.int .i64 ac.Percent) (fun _ w hs=>(hv0_0.k hs).flatq ae) ?_
   refine oN 2 [(36,vb (ac.Percent != (w64 ((w64 (a3.2 + 1)) + 1))))] [1,5,0] ?_
   refine oe (nt (cC ay (fun az=>?_) (fun b4=>?_)))
   ·refine qs (qr (oN 1 [(4,vi (-1))] [] ?_))
    refine oe (nt (qe (nr (br (nr (nr ?_))))))
    have b5:=leafR a6 az a4
    refine br (nr (nr ?_))
    obtain rfl:=sI b5
    exact re [.int .i64 (-1)]
   refine qk (nt (qs (qr (oN 3 [(1,vi (w64 ((w64 ((w64 (a3.2 + 1)) + 1)) + 1)))] [5,0] ?_))))
   refine oe (nt (qs (qs (qr (oN 2 [(40,vi a3.1),(39,vs a0_0 x0 c0_0)] [1,5,0] ?_)))))
   obtain ⟨af,ag,b6⟩:=bS b4
   refine oi 4 (fun _ w hs=>(hv0_0.k hs)) ag ?_
   refine oN 1 [(42,.q a0_0 (Int.toNat a3.1 * 4 + 3))] [1,5,0] ?_
   refine ol 4 3 (.bool af.Leave) (fun _ w hs=>(hv0_0.k hs).flatq ag) ?_
   refine oN 4 [(47,vb (!(af.Leave == ((Int.tmod (w64 ((w64 ((w64 (a3.2 + 1)) + 1)) + 1)) 3) == 0))))] [1,5,0] ?_
   refine oe (nt (cC b6 (fun b7=>?_) (fun b8=>?_)))
   ·refine qs (qr (oN 1 [(4,vi (-1))] [] ?_))
    refine oe (nt (qe (nr (br (nr (nr ?_))))))
    have b9:=leafR a6 b7 a4
    refine br (nr (nr ?_))
    obtain rfl:=sI b9
    exact re [.int .i64 (-1)]
   refine qk (nt (qr (oN 3 [(1,vi (w64 ((w64 ((w64 ((w64 (a3.2 + 1)) + 1)) + 1)) + 1)))] [5,0] ?_)))
   refine oe (bn (nt (qr (oN 3 [(5,vi (w64 (a3.1 + 1)))] [1,0] ?_))))
   exact oe (ct b8 () [5,0,1] [] 0)
  refine qx (nx (nx (bh ?_)))
  have ba:=leafB a6 an a4
  exact mp (a3.2,()) ba [1] [] 0
 have bb:=(congrFun aj _).symm.trans ak
 refine nt (qs (qr (oN 2 [(4,vi a5.1)] [] ?_)))
 refine oe (nt (qe ?_))
 obtain rfl:=sI bb
 exact re [.int .i64 a5.1]
theorem c_laws_heldEventS {W : World} {x0 : List Event} {a0_0 : Option Addr} {c0_0 : Nat} {x1 : Int} {r : Int} (h : laws_heldEventS x0 x1 = some r) (hv0_0 : SlView W x0 a0_0 c0_0) :
  Gives0 Tryz.prog 163 #[.slice a0_0 x0.length c0_0,.int .i64 x1] W (.int .i64 r):=by
 unfold laws_heldEventS at h
 refine en Tryz.func163 Tryz.ntmps163 ?_
 refine qs (qr (oN 1 [] [0,1] ?_))
 refine oe (nt (qs (qs (qr (oN 1 [(5,vi 0)] [0,1] ?_)))))
 refine oe (nt ?_)
 obtain ⟨aw,ac,a5⟩:=bS h
 obtain ⟨ae,af,a5⟩:=brkS a5
 refine JC_cutP (τ:=(Int) × (Unit)) (fun y=>ae y.1 = some r) (fun a4=>[(1,vi a4.1)]) (fun a4=>[]) (fun a4=>[]) ?_ (fun a4 ag=>?_)
 ·refine qb (lp Unit ac (fun a3 a6=>[(5,vi a3.1),(0,vs a0_0 x0 c0_0),(1,vi a3.2)]) (fun a3 a6=>[]) (fun a3 a6=>[]) () [5,0,1] [] 0 (fun a3 a6 ax ah a7=>?_))
  refine qs (qs (qr (oN 4 [(9,vb (decide (a3.1 < (x0.length : Int))))] [5,0,1] ?_)))
  refine oe (nt (cC ah (fun ai=>?_) (fun aj=>?_)))
  ·refine qk (nt (qs (qb (qs (qs (qr (oN 2 [(13,vi a3.1),(12,vs a0_0 x0 c0_0)] [5,0,1] ?_)))))))
   obtain ⟨a8,a9,ak⟩:=bS ai
   refine oi 2 (fun _ w hs=>(hv0_0.k hs)) a9 ?_
   refine oN 1 [(15,.q a0_0 (Int.toNat a3.1 * 2))] [5,0,1] ?_
   refine ol 3 0 (.int .i64 a8.Kind) (fun _ w hs=>(hv0_0.k hs).flatq a9) ?_
   refine oN 2 [(18,vb (a8.Kind != a3.2))] [5,0,1] ?_
   refine oe (nt (cC ak (fun al=>?_) (fun am=>?_)))
   ·refine qs (qr (oN 1 [(4,vi (-1))] [] ?_))
    refine oe (nt (qe (nr (br (nr (nr ?_))))))
    have an:=leafR a7 al a5
    refine br (nr (nr ?_))
    obtain rfl:=sI an
    exact re [.int .i64 (-1)]
   refine qk (nt (qs (qr (oN 3 [(1,vi (w64 (a3.2 + 1)))] [5,0] ?_))))
   refine oe (nt (qs (qs (qr (oN 2 [(22,vi a3.1),(21,vs a0_0 x0 c0_0)] [1,5,0] ?_)))))
   obtain ⟨aa,ab,ao⟩:=bS am
   refine oi 2 (fun _ w hs=>(hv0_0.k hs)) ab ?_
   refine oN 1 [(24,.q a0_0 (Int.toNat a3.1 * 2 + 1))] [1,5,0] ?_
   refine ol 3 1 (.int .i64 aa.Month) (fun _ w hs=>(hv0_0.k hs).flatq ab) ?_
   refine oN 2 [(27,vb (aa.Month != (w64 (a3.2 + 1))))] [1,5,0] ?_
   refine oe (nt (cC ao (fun ap=>?_) (fun aq=>?_)))
   ·refine qs (qr (oN 1 [(4,vi (-1))] [] ?_))
    refine oe (nt (qe (nr (br (nr (nr ?_))))))
    have ar:=leafR a7 ap a5
    refine br (nr (nr ?_))
    obtain rfl:=sI ar
    exact re [.int .i64 (-1)]
   refine qk (nt (qr (oN 3 [(1,vi (w64 ((w64 (a3.2 + 1)) + 1)))] [5,0] ?_)))
   refine oe (bn (nt (qr (oN 3 [(5,vi (w64 (a3.1 + 1)))] [1,0] ?_))))
   exact oe (ct aq () [5,0,1] [] 0)
  refine qx (nx (nx (bh ?_)))
  have au:=leafB a7 aj a5
  exact mp (a3.2,()) au [1] [] 0
 have av:=(congrFun af _).symm.trans ag
 refine nt (qs (qr (oN 2 [(4,vi a4.1)] [] ?_)))
 refine oe (nt (qe ?_))
 obtain rfl:=sI av
 exact re [.int .i64 a4.1]
theorem c_laws_heldMember {W : World} {x0 : Member} {b0 : AC × AC} {x1 : Int} {r : Int} (h : laws_heldMember x0 x1 = some r) (hv0_0 : SlView W x0.Spells b0.1.1 b0.1.2) (hv0_1 : SlView W x0.Events b0.2.1 b0.2.2) :
  Gives0 Tryz.prog 122 #[vMember x0 b0,.int .i64 x1] W (.int .i64 r):=by
 unfold laws_heldMember at h
 refine en Tryz.func122 Tryz.ntmps122 ?_
 refine qs (qr (oB 2 [(2,.p 0 0)] [1] [(52,(eMember x0 b0))] ?_))
 refine oe (nt (qs (qr (oN 3 [(7,vi x1),(6,sv b0.1 x0.Spells)] [2] ?_))))
 obtain ⟨a4,a5,a6⟩:=bS h
 refine k0 (fun _ w hs=>c_laws_heldSpellS a5 (hv0_0.k hs)) ?_
 refine oN 1 [(1,vi a4)] [2] ?_
 refine oe (nt (qs (qs (qr (oN 2 [(10,vb (decide (a4 < 0)))] [1,2] ?_)))))
 refine oe (nt (cC a6 (fun a7=>?_) (fun a8=>?_)))
 ·refine qs (qr (oN 1 [(4,vi (-1))] [] ?_))
  refine oe (nt (qe (nr ?_)))
  obtain rfl:=sI a7
  exact re [.int .i64 (-1)]
 refine qk (nt (qs (qr (oN 3 [(13,vi a4),(12,sv b0.2 x0.Events)] [] ?_))))
 obtain ⟨a3,a9,aa⟩:=bS a8
 refine k0 (fun _ w hs=>c_laws_heldEventS a9 (hv0_1.k hs)) ?_
 refine oN 1 [(1,vi a3)] [] ?_
 refine oe (nt (qs (qs (qr (oN 2 [(16,vb (decide (a3 < 0)))] [1] ?_)))))
 refine oe (nt (cC aa (fun ab=>?_) (fun ac=>?_)))
 ·refine qs (qr (oN 1 [(4,vi (-1))] [] ?_))
  refine oe (nt (qe (nr ?_)))
  obtain rfl:=sI ab
  exact re [.int .i64 (-1)]
 refine qk (nt (qs (qr (oN 2 [(4,vi a3)] [] ?_))))
 refine oe (nt (qe ?_))
 obtain rfl:=sI ac
 exact re [.int .i64 a3]
theorem c_laws_heldCase {W : World} {x0 : Case} {b0 : AC × AC × AC × AC × AC} {x1 : Int} {r : Int} (h : laws_heldCase x0 x1 = some r) (hv0_0 : SlView W x0.Book.Rules b0.1.1 b0.1.2) (hv0_1 : SlView W x0.Store.Facts b0.2.1.1 b0.2.1.2) (hv0_2 : SlView W x0.Series.Points b0.2.2.1.1 b0.2.2.1.2) (hv0_3 : SlView W x0.Member.Spells b0.2.2.2.1.1 b0.2.2.2.1.2) (hv0_4 : SlView W x0.Member.Events b0.2.2.2.2.1 b0.2.2.2.2.2) :
  Gives0 Tryz.prog 72 #[vCase x0 b0,.int .i64 x1] W (.int .i64 r):=by
 unfold laws_heldCase at h
 refine en Tryz.func72 Tryz.ntmps72 ?_
 refine qs (qr (oB 2 [(2,.p 0 0)] [1] [(54,(eCase x0 b0))] ?_))
 refine oe (nt (qs (qr (oN 3 [(7,vi x1),(6,.v (vBook x0.Book b0.1))] [2] ?_))))
 obtain ⟨a4,a7,a8⟩:=bS h
 refine k0 (fun _ w hs=>c_laws_heldBook a7 (hv0_0.k hs)) ?_
 refine oN 1 [(1,vi a4)] [2] ?_
 refine oe (nt (qs (qs (qr (oN 2 [(10,vb (decide (a4 < 0)))] [1,2] ?_)))))
 refine oe (nt (cC a8 (fun a9=>?_) (fun aa=>?_)))
 ·refine qs (qr (oN 1 [(4,vi (-1))] [] ?_))
  refine oe (nt (qe (nr ?_)))
  obtain rfl:=sI a9
  exact re [.int .i64 (-1)]
 refine qk (nt (qs (qr (oN 3 [(13,vi a4),(12,.v (vStore x0.Store b0.2.1))] [2] ?_))))
 obtain ⟨a5,ab,ac⟩:=bS aa
 refine k0 (fun _ w hs=>c_laws_heldStore ab (hv0_1.k hs)) ?_
 refine oN 1 [(1,vi a5)] [2] ?_
 refine oe (nt (qs (qs (qr (oN 2 [(16,vb (decide (a5 < 0)))] [1,2] ?_)))))
 refine oe (nt (cC ac (fun ae=>?_) (fun af=>?_)))
 ·refine qs (qr (oN 1 [(4,vi (-1))] [] ?_))
  refine oe (nt (qe (nr ?_)))
  obtain rfl:=sI ae
  exact re [.int .i64 (-1)]
 refine qk (nt (qs (qr (oN 3 [(19,vi a5),(18,.v (vSeries x0.Series b0.2.2.1))] [2] ?_))))
 obtain ⟨a6,ag,ah⟩:=bS af
 refine k0 (fun _ w hs=>c_laws_heldSeries ag (hv0_2.k hs)) ?_
 refine oN 1 [(1,vi a6)] [2] ?_
 refine oe (nt (qs (qs (qr (oN 2 [(22,vb (decide (a6 < 0)))] [1,2] ?_)))))
 refine oe (nt (cC ah (fun ai=>?_) (fun aj=>?_)))
 ·refine qs (qr (oN 1 [(4,vi (-1))] [] ?_))
  refine oe (nt (qe (nr ?_)))
  obtain rfl:=sI ai
  exact re [.int .i64 (-1)]
 refine qk (nt (qs (qr (oN 3 [(25,vi a6),(24,.v (vMember x0.Member b0.2.2.2))] [] ?_))))
 obtain ⟨a3,ak,al⟩:=bS aj
 refine k0 (fun _ w hs=>c_laws_heldMember (b0:=b0.2.2.2) ak (hv0_3.k hs) (hv0_4.k hs)) ?_
 refine oN 1 [(1,vi a3)] [] ?_
 refine oe (nt (qs (qs (qr (oN 2 [(28,vb (decide (a3 < 0)))] [1] ?_)))))
 refine oe (nt (cC al (fun am=>?_) (fun an=>?_)))
 ·refine qs (qr (oN 1 [(4,vi (-1))] [] ?_))
  refine oe (nt (qe (nr ?_)))
  obtain rfl:=sI am
  exact re [.int .i64 (-1)]
 refine qk (nt (qs (qr (oN 2 [(4,vi a3)] [] ?_))))
 refine oe (nt (qe ?_))
 obtain rfl:=sI an
 exact re [.int .i64 a3]
theorem c_laws_heldIntS {W : World} {x0 : List Int} {a0_0 : Option Addr} {c0_0 : Nat} {x1 : Int} {r : Int} (h : laws_heldIntS x0 x1 = some r) (hv0_0 : SlView W x0 a0_0 c0_0) :
  Gives0 Tryz.prog 28 #[.slice a0_0 x0.length c0_0,.int .i64 x1] W (.int .i64 r):=by
 unfold laws_heldIntS at h
 refine en Tryz.func28 Tryz.ntmps28 ?_
 refine qs (qr (oN 1 [] [0,1] ?_))
 refine oe (nt (qs (qs (qr (oN 1 [(5,vi 0)] [0,1] ?_)))))
 refine oe (nt ?_)
 obtain ⟨ao,aa,a5⟩:=bS h
 obtain ⟨ab,ac,a5⟩:=brkS a5
 refine JC_cutP (τ:=(Int) × (Unit)) (fun y=>ab y.1 = some r) (fun a4=>[(1,vi a4.1)]) (fun a4=>[]) (fun a4=>[]) ?_ (fun a4 ae=>?_)
 ·refine qb (lp Unit aa (fun a3 a6=>[(5,vi a3.1),(0,vs a0_0 x0 c0_0),(1,vi a3.2)]) (fun a3 a6=>[]) (fun a3 a6=>[]) () [5,0,1] [] 0 (fun a3 a6 ap af a7=>?_))
  refine qs (qs (qr (oN 4 [(9,vb (decide (a3.1 < (x0.length : Int))))] [5,0,1] ?_)))
  refine oe (nt (cC af (fun ag=>?_) (fun ah=>?_)))
  ·refine qk (nt (qs (qb (qs (qs (qr (oN 2 [(13,vi a3.1),(12,vs a0_0 x0 c0_0)] [5,0,1] ?_)))))))
   obtain ⟨a8,a9,ai⟩:=bS ag
   refine oi 1 (fun _ w hs=>(hv0_0.k hs)) a9 ?_
   refine ol 3 0 (.int .i64 a8) (fun _ w hs=>(hv0_0.k hs).flatq a9) ?_
   refine oN 2 [(17,vb (a8 != a3.2))] [5,0,1] ?_
   refine oe (nt (cC ai (fun aj=>?_) (fun ak=>?_)))
   ·refine qs (qr (oN 1 [(4,vi (-1))] [] ?_))
    refine oe (nt (qe (nr (br (nr (nr ?_))))))
    have al:=leafR a7 aj a5
    refine br (nr (nr ?_))
    obtain rfl:=sI al
    exact re [.int .i64 (-1)]
   refine qk (nt (qr (oN 3 [(1,vi (w64 (a3.2 + 1)))] [5,0] ?_)))
   refine oe (bn (nt (qr (oN 3 [(5,vi (w64 (a3.1 + 1)))] [1,0] ?_))))
   exact oe (ct ak () [5,0,1] [] 0)
  refine qx (nx (nx (bh ?_)))
  have am:=leafB a7 ah a5
  exact mp (a3.2,()) am [1] [] 0
 have an:=(congrFun ac _).symm.trans ae
 refine nt (qs (qr (oN 2 [(4,vi a4.1)] [] ?_)))
 refine oe (nt (qe ?_))
 obtain rfl:=sI an
 exact re [.int .i64 a4.1]
theorem c_laws_heldOffice {W : World} {x0 : Office} {b0 : AC × AC × AC × AC × AC × AC} {x1 : Int} {r : Int} (h : laws_heldOffice x0 x1 = some r) (hv0_0 : SlView W x0.Case.Book.Rules b0.1.1 b0.1.2) (hv0_1 : SlView W x0.Case.Store.Facts b0.2.1.1 b0.2.1.2) (hv0_2 : SlView W x0.Case.Series.Points b0.2.2.1.1 b0.2.2.1.2) (hv0_3 : SlView W x0.Case.Member.Spells b0.2.2.2.1.1 b0.2.2.2.1.2) (hv0_4 : SlView W x0.Case.Member.Events b0.2.2.2.2.1.1 b0.2.2.2.2.1.2) (hv0_5 : SlView W x0.Paid b0.2.2.2.2.2.1 b0.2.2.2.2.2.2) :
  Gives0 Tryz.prog 27 #[vOffice x0 b0,.int .i64 x1] W (.int .i64 r):=by
 unfold laws_heldOffice at h
 refine en Tryz.func27 Tryz.ntmps27 ?_
 refine qs (qr (oB 2 [(2,.p 0 0)] [1] [(57,(eOffice x0 b0))] ?_))
 refine oe (nt (qs (qr (oN 3 [(7,vi x1),(6,.v (vCase x0.Case (b0.1,b0.2.1,b0.2.2.1,b0.2.2.2.1,b0.2.2.2.2.1)))] [2] ?_))))
 obtain ⟨a4,a5,a6⟩:=bS h
 refine k0 (fun _ w hs=>c_laws_heldCase (b0:=(b0.1,b0.2.1,b0.2.2.1,b0.2.2.2.1,b0.2.2.2.2.1)) a5 (hv0_0.k hs) (hv0_1.k hs) (hv0_2.k hs) (hv0_3.k hs) (hv0_4.k hs)) ?_
 refine oN 1 [(1,vi a4)] [2] ?_
 refine oe (nt (qs (qs (qr (oN 2 [(10,vb (decide (a4 < 0)))] [1,2] ?_)))))
 refine oe (nt (cC a6 (fun a7=>?_) (fun a8=>?_)))
 ·refine qs (qr (oN 1 [(4,vi (-1))] [] ?_))
  refine oe (nt (qe (nr ?_)))
  obtain rfl:=sI a7
  exact re [.int .i64 (-1)]
 refine qk (nt (qs (qr (oN 3 [(13,vi a4),(12,sv b0.2.2.2.2.2 x0.Paid)] [] ?_))))
 obtain ⟨a3,a9,aa⟩:=bS a8
 refine k0 (fun _ w hs=>c_laws_heldIntS a9 (hv0_5.k hs)) ?_
 refine oN 1 [(1,vi a3)] [] ?_
 refine oe (nt (qs (qs (qr (oN 2 [(16,vb (decide (a3 < 0)))] [1] ?_)))))
 refine oe (nt (cC aa (fun ab=>?_) (fun ac=>?_)))
 ·refine qs (qr (oN 1 [(4,vi (-1))] [] ?_))
  refine oe (nt (qe (nr ?_)))
  obtain rfl:=sI ab
  exact re [.int .i64 (-1)]
 refine qk (nt (qs (qr (oN 2 [(4,vi a3)] [] ?_))))
 refine oe (nt (qe ?_))
 obtain rfl:=sI ac
 exact re [.int .i64 a3]
theorem c_laws_FnExactRunActs {W : World} {x0 : Case} {b0 : AC × AC × AC × AC × AC} {x1 : Int} {x2 : List Act} {a2_0 : Option Addr} {c2_0 : Nat} {r : Bool} (h : laws_FnExactRunActs x0 x1 x2 = some r) (hv0_0 : SlView W x0.Book.Rules b0.1.1 b0.1.2) (hv0_1 : SlView W x0.Store.Facts b0.2.1.1 b0.2.1.2) (hv0_2 : SlView W x0.Series.Points b0.2.2.1.1 b0.2.2.1.2) (hv0_3 : SlView W x0.Member.Spells b0.2.2.2.1.1 b0.2.2.2.1.2) (hv0_4 : SlView W x0.Member.Events b0.2.2.2.2.1 b0.2.2.2.2.2) (hv2_0 : SlView W x2 a2_0 c2_0) :
  Gives0 Tryz.prog 3 #[vCase x0 b0,.int .i64 x1,.slice a2_0 x2.length c2_0] W (.bool r):=by
 unfold laws_FnExactRunActs at h
 refine en Tryz.func3 Tryz.ntmps3 ?_
 refine qs (qr (oB 2 [(3,.p 0 0)] [1,2] [(36,(eCase x0 b0))] ?_))
 refine oe (nt (qs (qr (oN 1 [(7,vi 1048576)] [3,1,2] ?_))))
 refine oe (nt (qs (qr (oN 2 [(20,vi 1048576),(19,.v (vCase x0 b0))] [3,1,2] ?_))))
 obtain ⟨ak,b8,b9⟩:=bS h
 refine k0 (fun γ w hs=>c_laws_szCase (b0:=b0) b8 (hv0_0.k hs) (hv0_1.k hs) (hv0_2.k hs) (hv0_3.k hs) (hv0_4.k hs)) ?_
 refine oN 1 [(7,vi ak)] [3,1,2] ?_
 refine oe (nt (qs (qs (qr (oN 2 [(23,vb (decide (ak < 0)))] [7,3,1,2] ?_)))))
 refine oe (nt (cC b9 (fun ba=>?_) (fun bb=>?_)))
 ·refine qs (qr (oN 1 [(6,vb true)] [] ?_))
  refine oe (nt (qe (nr ?_)))
  obtain rfl:=sI ba
  exact re [.bool true]
 refine qk (nt (qs (qr (oN 2 [(25,vi ak),(24,vs a2_0 x2 c2_0)] [3,1,2] ?_))))
 obtain ⟨ap,bc,bd⟩:=bS bb
 refine k0 (fun γ w hs=>c_laws_szActS bc (hv2_0.k hs)) ?_
 refine oN 1 [(7,vi ap)] [3,1,2] ?_
 refine oe (nt (qs (qs (qr (oN 2 [(28,vb (decide (ap < 0)))] [3,1,2] ?_)))))
 refine oe (nt (cC bd (fun be=>?_) (fun bf=>?_)))
 ·refine qs (qr (oN 1 [(6,vb true)] [] ?_))
  refine oe (nt (qe (nr ?_)))
  obtain rfl:=sI be
  exact re [.bool true]
 refine qk (nt (qs (qr (oN 1 [(30,.v (vCase x0 b0))] [3,1,2] ?_))))
 obtain ⟨fi,bg,bi⟩:=bS bf
 refine k1 (fun γ w hs=>c_laws_toCase (b0:=b0) bg (hv0_0.k hs) (hv0_1.k hs) (hv0_2.k hs) (hv0_3.k hs) (hv0_4.k hs)) (fun bj=>?_)
 refine oN 2 [(33,vs a2_0 x2 c2_0),(32,vi x1)] [31,3,1,2] ?_
 obtain ⟨fj,bk,bl⟩:=bS bi
 refine k1 (fun γ w hs=>c_laws_toActS bk (hv2_0.k hs)) (fun fk=>?_)
 obtain ⟨a9,bm,bo⟩:=bS bl
 refine k1 (fun γ w hs=>c_spec_RunActs (b0:=bj) bm (hs.view 1 rfl) (hs.view 2 rfl) (hs.view 3 rfl) (hs.view 4 rfl) (hs.view 5 rfl) (hs.view 0 rfl)) (fun a6=>?_)
 refine oB 6 [(9,sv a6.2 a9.2),(8,.p 1 0)] [3,1,2] [(36,(eCase x0 b0)),(57,(eOffice a9.1 a6.1))] ?_
 refine oe (nt (qs (qr (oN 1 [(38,.v (vCase x0 b0))] [9,8,3,1,2] ?_))))
 obtain ⟨ab,bp,bq⟩:=bS bo
 refine k1 (fun γ w hs=>c_laws_toCase (b0:=b0) bp (hv0_0.k hs) (hv0_1.k hs) (hv0_2.k hs) (hv0_3.k hs) (hv0_4.k hs)) (fun a4=>?_)
 refine oB 2 [(10,.p 2 0)] [9,8,3,1,2] [(36,(eCase x0 b0)),(57,(eOffice a9.1 a6.1)),(54,(eCase ab a4))] ?_
 refine oe (nt (qs (qr (oN 1 [(40,vs a2_0 x2 c2_0)] [10,9,8,3,1,2] ?_))))
 obtain ⟨ac,bs,bu⟩:=bS bq
 refine k1 (fun γ w hs=>c_laws_toActS bs (hv2_0.k hs)) (fun aa=>?_)
 refine oN 1 [(11,sv aa ac)] [10,9,8,3,1,2] ?_
 refine oe (nt (qs (qr (oN 3 [(45,sv aa ac),(44,vi x1),(43,.v (vCase ab a4))] [11,10,9,8,3,1,2] ?_))))
 obtain ⟨a7,bv,bw⟩:=bS bu
 refine k1 (fun γ w hs=>c_impl_RunActs (b0:=a4) bv (hs.view 1 rfl) (hs.view 2 rfl) (hs.view 3 rfl) (hs.view 4 rfl) (hs.view 5 rfl) (hs.view 0 rfl)) (fun a3=>?_)
 refine oB 6 [(13,sv a3.2 a7.2),(12,.p 3 0)] [11,10,9,8,3,1,2] [(36,(eCase x0 b0)),(57,(eOffice a9.1 a6.1)),(54,(eCase ab a4)),(57,(eOffice a7.1 a3.1))] ?_
 refine oe (nt (qs (qs ?_)))
 obtain ⟨bz,c3,c4⟩:=bS bw
 refine JC_cut (τ:=Unit) (fun _=>[(1,vi x1),(2,vs a2_0 x2 c2_0),(3,.p 0 0),(8,.p 1 0),(9,sv a6.2 a9.2),(10,.p 2 0),(11,sv aa ac),(12,.p 3 0),(13,sv a3.2 a7.2),(58,vb bz)]) (fun _=>[(36,(eCase x0 b0)),(57,(eOffice a9.1 a6.1)),(54,(eCase ab a4)),(57,(eOffice a7.1 a3.1))]) (fun _=>([SlRes 3 a9.2 a6.2.1 a6.2.2,SlRes 87 ac aa.1 aa.2,SlRes 3 a7.2 a3.2.1 a3.2.2] ++ (rOffice a9.1 a6.1 ++ (rCase2 ab a4 ++ rOffice a7.1 a3.1)))) ?_ (fun _=>?_)
 ·refine qr (oN 2 [(50,.v (vOffice a9.1 a6.1)),(49,.v (vOffice a7.1 a3.1))] [13,12,11,10,9,8,3,1,2] ?_)
  obtain ⟨c5,c6,c7⟩:=bS c3
  refine k0 (fun γ w hs=>c_laws_eqOffice (b0:=a3.1) (b1:=a6.1) c6 (hs.view 0 rfl) (hs.view 1 rfl) (hs.view 2 rfl) (hs.view 3 rfl) (hs.view 4 rfl) (hs.view 5 rfl) (hs.view 13 rfl) (hs.view 14 rfl) (hs.view 15 rfl) (hs.view 16 rfl) (hs.view 17 rfl) (hs.view 18 rfl)) ?_
  refine oN 2 [(53,vb (!c5))] [13,12,11,10,9,8,3,1,2] ?_
  refine oS 53 c7 (fun c8=>?_) (fun c9=>?_)
  ·refine oN 5 [(58,vb true)] [13,12,11,10,9,8,3,1,2] ?_
   refine oe ?_
   obtain rfl:=sI c8
   exact mt () [1,2,3,8,9,10,11,12,13,58] [19,7,6,11,11,11,11,11,11,6,6,6,6,6,0,0,0,0,0,0] 4
  refine oN 2 [(55,sv a6.2 a9.2),(54,sv a3.2 a7.2)] [53,13,12,11,10,9,8,3,1,2] ?_
  obtain ⟨ca,cb,cc⟩:=bS c9
  refine k0 (fun γ w hs=>c_laws_eqIntS cb (hs.view 6 rfl) (hs.view 19 rfl)) ?_
  refine oN 2 [(58,vb (!ca))] [13,12,11,10,9,8,3,1,2] ?_
  refine oe ?_
  obtain rfl:=sI cc
  exact mt () [1,2,3,8,9,10,11,12,13,58] [19,7,6,11,11,11,11,11,11,6,6,6,6,6,0,0,0,0,0,0] 4
 refine nt (cC c4 (fun cd=>?_) (fun ce=>?_))
 ·refine qs (qr (oN 1 [(6,vb false)] [] ?_))
  refine oe (nt (qe (nr ?_)))
  obtain rfl:=sI cd
  exact re [.bool false]
 refine qk (nt (qs (qs ?_)))
 obtain ⟨fl,cf,cg⟩:=bS ce
 obtain ⟨aq,ch,ci⟩:=bS cg
 refine JC_cut (τ:=Unit) (fun _=>[(63,vb (!aq)),(1,vi x1),(2,vs a2_0 x2 c2_0),(3,.p 0 0),(8,.p 1 0),(9,sv a6.2 a9.2),(10,.p 2 0),(11,sv aa ac),(12,.p 3 0),(13,sv a3.2 a7.2)]) (fun _=>[(36,(eCase x0 b0)),(57,(eOffice a9.1 a6.1)),(54,(eCase ab a4)),(57,(eOffice a7.1 a3.1))]) (fun _=>([SlRes 3 a9.2 a6.2.1 a6.2.2,SlRes 87 ac aa.1 aa.2,SlRes 3 a7.2 a3.2.1 a3.2.2] ++ (rOffice a9.1 a6.1 ++ (rCase2 ab a4 ++ rOffice a7.1 a3.1)))) ?_ (fun _=>?_)
 ·refine JC_weak [1,2,3,8,9,10,11,12,13] [0,0,0,0,0,0,0,0,0,0,0,0,0,0,0,0,0,0,0,0] 4 (sl':=[(1,vi x1),(2,vs a2_0 x2 c2_0),(3,.p 0 0),(8,.p 1 0),(9,sv a6.2 a9.2),(10,.p 2 0),(11,sv aa ac),(12,.p 3 0),(13,sv a3.2 a7.2)]) (bx':=[(36,(eCase x0 b0)),(57,(eOffice a9.1 a6.1)),(54,(eCase ab a4)),(57,(eOffice a7.1 a3.1))]) (R':=([SlRes 3 a9.2 a6.2.1 a6.2.2,SlRes 87 ac aa.1 aa.2,SlRes 3 a7.2 a3.2.1 a3.2.2] ++ (rOffice a9.1 a6.1 ++ (rCase2 ab a4 ++ rOffice a7.1 a3.1)))) (by kernel_rfl) (by kernel_rfl) (by kernel_rfl) (by kernel_rfl) ?_
  refine JC_heldN (ks:=[0,1,2,3]) (Rk:=([SlRes 3 a9.2 a6.2.1 a6.2.2,SlRes 87 ac aa.1 aa.2,SlRes 3 a7.2 a3.2.1 a3.2.2] ++ (rOffice a9.1 a6.1 ++ (rCase2 ab a4 ++ rOffice a7.1 a3.1)))) 5 (by kernel_rfl) (by kernel_rfl) ?_
  refine htq 0 (.v (vCase ab a4)) [0,0,0,0,0,0,0,0,0,0,0,0,0,0,0,0,0,0,0,0] ?_
  refine htq 1 (.v (vCase x0 b0)) [0,0,0,0,0,0,0,0,0,0,0,0,0,0,0,0,0,0,0,0] ?_
  refine ha1 2 ?_
  refine hi (fun γ0 δ hm=>?_)
  refine g1 (fun w hs=>c_laws_toCase (b0:=b0) cf (hv0_0.k hs) (hv0_1.k hs) (hv0_2.k hs) (hv0_3.k hs) (hv0_4.k hs)) (fun cj=>?_)
  refine gn hm [61,59,1,2,3,8,9,10,11,12,13] [5,5,5,5,5,5,5,5,5,5,5,5,5,5,5,5,5,5,5,5] ?_
  refine ha1 3 ?_
  refine hi (fun γ0 δ hm=>?_)
  refine g0 (fun w hs=>c_laws_eqCase (b0:=a4) (b1:=cj) ch (hs.view 14 rfl) (hs.view 15 rfl) (hs.view 16 rfl) (hs.view 17 rfl) (hs.view 18 rfl) (hs.view 0 rfl) (hs.view 1 rfl) (hs.view 2 rfl) (hs.view 3 rfl) (hs.view 4 rfl)) ?_
  refine gn hm [62,1,2,3,8,9,10,11,12,13] [5,5,5,5,5,5,5,5,5,5,5,5,5,5,5,5,5,5,5,5] ?_
  refine htq 4 (vb (!aq)) [5,5,5,5,5,5,5,5,5,5,5,5,5,5,5,5,5,5,5,5] ?_
  refine hk [63,1,2,3,8,9,10,11,12,13] ?_
  exact hd () [63,1,2,3,8,9,10,11,12,13] [5,5,5,5,5,5,5,5,5,5,5,5,5,5,5,5,5,5,5,5] 4
 refine nt (cC ci (fun ck=>?_) (fun cl=>?_))
 ·refine qs (qr (oN 1 [(6,vb false)] [] ?_))
  refine oe (nt (qe (nr ?_)))
  obtain rfl:=sI ck
  exact re [.bool false]
 refine qk (nt (qs (qs (qr (oN 2 [(65,vs a2_0 x2 c2_0),(64,sv aa ac)] [1,2,3,8,9,10,11,12,13] ?_)))))
 obtain ⟨aj,cm,cn⟩:=bS cl
 refine k1 (fun γ w hs=>c_laws_toActS cm (hv2_0.k hs)) (fun af=>?_)
 obtain ⟨co,cp,cq⟩:=bS cn
 refine k0 (fun γ w hs=>c_laws_eqActS cp (hs.view 2 rfl) (hs.view 0 rfl)) ?_
 refine oN 1 [(68,vb (!co))] [1,2,3,8,9,10,11,12,13] ?_
 refine oe (nt (cC cq (fun cr=>?_) (fun cu=>?_)))
 ·refine qs (qr (oN 1 [(6,vb false)] [] ?_))
  refine oe (nt (qe (nr ?_)))
  obtain rfl:=sI cr
  exact re [.bool false]
 refine qk (nt (qs (qr (oN 1 [(14,vi 1)] [1,2,3,8,9,10,11,12,13] ?_))))
 refine oe (nt (qs (qr (oN 2 [(70,vi 1),(69,.v (vCase ab a4))] [1,2,3,8,9,11,12,13] ?_))))
 refine JO_res (R':=(rCase2 ab a4 ++ ([SlRes 87 aj af.1 af.2,SlRes 3 a9.2 a6.2.1 a6.2.2,SlRes 87 ac aa.1 aa.2,SlRes 3 a7.2 a3.2.1 a3.2.2] ++ (rOffice a9.1 a6.1 ++ rOffice a7.1 a3.1)))) [10,10,10,10,10,0,0,0,0,0,0,0,0,0,0,0,0,0,0,0,0] (by kernel_rfl) ?_
 obtain ⟨a5,cv,cw⟩:=bS cu
 obtain ⟨fm,cx,cy⟩:=bS cw
 have ar:=(sameLen_some cx).symm
 obtain ⟨fo,cz,d0⟩:=bS cy
 have au:=(sameLen_some cz).symm
 obtain ⟨fp,d1,d2⟩:=bS d0
 have av:=(sameLen_some d1).symm
 obtain ⟨fq,d3,d4⟩:=bS d2
 have aw:=(sameLen_some d3).symm
 obtain ⟨fr,d5,d6⟩:=bS d4
 have ax:=(sameLen_some d5).symm
 refine JO_callM rfl (by kernel_rfl) (f:=23) (args:=#[vCase ab a4,.int .i64 1]) (by kernel_rfl) (x:=.int .i64 a5.1) (Rin:=(rCase2 ab a4)) (Rout:=[SlRes 188 a5.2.1 a4.1.1 a4.1.2,SlRes 84 a5.2.2.1 a4.2.1.1 a4.2.1.2,SlRes 85 a5.2.2.2.1 a4.2.2.1.1 a4.2.2.1.2,SlRes 191 a5.2.2.2.2.1 a4.2.2.2.1.1 a4.2.2.2.1.2,SlRes 195 a5.2.2.2.2.2 a4.2.2.2.2.1 a4.2.2.2.2.2]) (Rr:=([SlRes 87 aj af.1 af.2,SlRes 3 a9.2 a6.2.1 a6.2.2,SlRes 87 ac aa.1 aa.2,SlRes 3 a7.2 a3.2.1 a3.2.2] ++ (rOffice a9.1 a6.1 ++ rOffice a7.1 a3.1))) rfl (fun w=>(by have vv:=c_laws_markCase (e0_0:=188) (a0_0:=a4.1.1) (c0_0:=a4.1.2) (e0_1:=84) (a0_1:=a4.2.1.1) (c0_1:=a4.2.1.2) (e0_2:=85) (a0_2:=a4.2.2.1.1) (c0_2:=a4.2.2.1.2) (e0_3:=191) (a0_3:=a4.2.2.2.1.1) (c0_3:=a4.2.2.2.1.2) (e0_4:=195) (a0_4:=a4.2.2.2.2.1) (c0_4:=a4.2.2.2.2.2) (W:=w) cv; exact vv)) (sl':=[(71,vi a5.1),(70,vi 1),(69,.v (vCase ab a4)),(1,vi x1),(2,vs a2_0 x2 c2_0),(3,.p 0 0),(8,.p 1 0),(9,sv a6.2 a9.2),(11,sv aa ac),(12,.p 3 0),(13,sv a3.2 a7.2)]) (by kernel_rfl) ?_
 refine JO_eqE (sl':=[(71,vi a5.1),(70,vi 1),(69,.v (vCase (Case.mk (Book.mk a5.2.1) (Store.mk a5.2.2.1) (Series.mk a5.2.2.2.1) (Member.mk ab.Member.Birth ab.Member.Joined a5.2.2.2.2.1 a5.2.2.2.2.2)) a4)),(1,vi x1),(2,vs a2_0 x2 c2_0),(3,.p 0 0),(8,.p 1 0),(9,sv a6.2 a9.2),(11,sv aa ac),(12,.p 3 0),(13,sv a3.2 a7.2)]) (bx':=[(36,(eCase x0 b0)),(57,(eOffice a9.1 a6.1)),(54,(eCase (Case.mk (Book.mk a5.2.1) (Store.mk a5.2.2.1) (Series.mk a5.2.2.2.1) (Member.mk ab.Member.Birth ab.Member.Joined a5.2.2.2.2.1 a5.2.2.2.2.2)) a4)),(57,(eOffice a7.1 a3.1))]) (by simp only [vs,sv,eCase,vCase,ar,au,av,aw,ax]) (by simp only [vs,sv,eCase,eOffice,vCase,vOffice,ar,au,av,aw,ax]) ?_
 refine oN 1 [(14,vi a5.1)] [1,2,3,8,9,11,12,13] ?_
 refine oe (nt (qs (qr (oN 2 [(73,vi a5.1),(72,sv aa ac)] [1,2,3,8,9,12,13] ?_))))
 refine JO_res (R':=([SlRes 87 ac aa.1 aa.2,SlRes 188 a5.2.1 a4.1.1 a4.1.2,SlRes 84 a5.2.2.1 a4.2.1.1 a4.2.1.2,SlRes 85 a5.2.2.2.1 a4.2.2.1.1 a4.2.2.1.2,SlRes 191 a5.2.2.2.2.1 a4.2.2.2.1.1 a4.2.2.2.1.2,SlRes 195 a5.2.2.2.2.2 a4.2.2.2.2.1 a4.2.2.2.2.2,SlRes 87 aj af.1 af.2,SlRes 3 a9.2 a6.2.1 a6.2.2,SlRes 3 a7.2 a3.2.1 a3.2.2] ++ (rOffice a9.1 a6.1 ++ rOffice a7.1 a3.1))) [7,0,0,0,0,0,0,0,0,0,0,0,0,0,0,0,0,0,0,0,0] (by kernel_rfl) ?_
 obtain ⟨ag,d7,d8⟩:=bS d6
 obtain ⟨fs,d9,da⟩:=bS d8
 have db:=(sameLen_some d9).symm
 refine JO_callM rfl (by kernel_rfl) (f:=24) (args:=#[.slice aa.1 ac.length aa.2,.int .i64 a5.1]) (by kernel_rfl) (x:=.int .i64 ag.1) (Rin:=[SlRes 87 ac aa.1 aa.2]) (Rout:=[SlRes 87 ag.2 aa.1 aa.2]) (Rr:=([SlRes 188 a5.2.1 a4.1.1 a4.1.2,SlRes 84 a5.2.2.1 a4.2.1.1 a4.2.1.2,SlRes 85 a5.2.2.2.1 a4.2.2.1.1 a4.2.2.1.2,SlRes 191 a5.2.2.2.2.1 a4.2.2.2.1.1 a4.2.2.2.1.2,SlRes 195 a5.2.2.2.2.2 a4.2.2.2.2.1 a4.2.2.2.2.2,SlRes 87 aj af.1 af.2,SlRes 3 a9.2 a6.2.1 a6.2.2,SlRes 3 a7.2 a3.2.1 a3.2.2] ++ (rOffice a9.1 a6.1 ++ rOffice a7.1 a3.1))) rfl (fun w=>(by have vv:=c_laws_markActS (e0_0:=87) (a0_0:=aa.1) (c0_0:=aa.2) (W:=w) d7; exact vv)) (sl':=[(74,vi ag.1),(73,vi a5.1),(72,sv aa ac),(1,vi x1),(2,vs a2_0 x2 c2_0),(3,.p 0 0),(8,.p 1 0),(9,sv a6.2 a9.2),(12,.p 3 0),(13,sv a3.2 a7.2)]) (by kernel_rfl) ?_
 refine JO_eqE (sl':=[(74,vi ag.1),(73,vi a5.1),(72,sv aa ag.2),(1,vi x1),(2,vs a2_0 x2 c2_0),(3,.p 0 0),(8,.p 1 0),(9,sv a6.2 a9.2),(12,.p 3 0),(13,sv a3.2 a7.2)]) (bx':=[(36,(eCase x0 b0)),(57,(eOffice a9.1 a6.1)),(54,(eCase (Case.mk (Book.mk a5.2.1) (Store.mk a5.2.2.1) (Series.mk a5.2.2.2.1) (Member.mk ab.Member.Birth ab.Member.Joined a5.2.2.2.2.1 a5.2.2.2.2.2)) a4)),(57,(eOffice a7.1 a3.1))]) (by simp only [vs,sv,db]) rfl ?_
 refine oN 1 [(14,vi ag.1)] [1,2,3,8,9,12,13] ?_
 refine oe (nt (qs (qs ?_)))
 obtain ⟨dc,dd,de⟩:=bS da
 refine JC_cut (τ:=Unit) (fun _=>[(1,vi x1),(2,vs a2_0 x2 c2_0),(3,.p 0 0),(8,.p 1 0),(9,sv a6.2 a9.2),(12,.p 3 0),(13,sv a3.2 a7.2),(88,vb dc)]) (fun _=>[(36,(eCase x0 b0)),(57,(eOffice a9.1 a6.1)),(54,(eCase (Case.mk (Book.mk a5.2.1) (Store.mk a5.2.2.1) (Series.mk a5.2.2.2.1) (Member.mk ab.Member.Birth ab.Member.Joined a5.2.2.2.2.1 a5.2.2.2.2.2)) a4)),(57,(eOffice a7.1 a3.1))]) (fun _=>([SlRes 3 a9.2 a6.2.1 a6.2.2,SlRes 3 a7.2 a3.2.1 a3.2.2] ++ (rOffice a9.1 a6.1 ++ ([SlRes 188 a5.2.1 a4.1.1 a4.1.2,SlRes 84 a5.2.2.1 a4.2.1.1 a4.2.1.2,SlRes 85 a5.2.2.2.1 a4.2.2.1.1 a4.2.2.1.2,SlRes 191 a5.2.2.2.2.1 a4.2.2.2.1.1 a4.2.2.2.1.2,SlRes 195 a5.2.2.2.2.2 a4.2.2.2.2.1 a4.2.2.2.2.2] ++ rOffice a7.1 a3.1)))) ?_ (fun _=>?_)
 ·refine qr (oN 3 [(77,vb (decide (ag.1 < 0)))] [1,2,3,8,9,12,13] ?_)
  refine oS 77 dd (fun df=>?_) (fun dg=>?_)
  ·refine oN 11 [(88,vb true)] [1,2,3,8,9,12,13] ?_
   refine oe ?_
   obtain rfl:=sI df
   exact mt () [1,2,3,8,9,12,13,88] [7,7,7,7,7,7,7,7,1,1,1,1,1,2,2,2,2,2,2] 4
  refine oN 2 [(79,.v (vOffice a9.1 a6.1)),(78,.v (vOffice a7.1 a3.1))] [77,1,2,3,8,9,12,13] ?_
  obtain ⟨dh,di,dj⟩:=bS dg
  refine k0 (fun γ w hs=>c_laws_eqOffice (b0:=a3.1) (b1:=a6.1) di (hs.view 15 rfl) (hs.view 16 rfl) (hs.view 17 rfl) (hs.view 18 rfl) (hs.view 19 rfl) (hs.view 20 rfl) (hs.view 9 rfl) (hs.view 10 rfl) (hs.view 11 rfl) (hs.view 12 rfl) (hs.view 13 rfl) (hs.view 14 rfl)) ?_
  refine oN 3 [(83,vb (!dh))] [1,2,3,8,9,12,13] ?_
  refine oS 83 dj (fun dk=>?_) (fun dl=>?_)
  ·refine oN 5 [(88,vb true)] [1,2,3,8,9,12,13] ?_
   refine oe ?_
   obtain rfl:=sI dk
   exact mt () [1,2,3,8,9,12,13,88] [7,7,7,7,7,7,7,7,1,1,1,1,1,2,2,2,2,2,2] 4
  refine oN 2 [(85,sv a6.2 a9.2),(84,sv a3.2 a7.2)] [83,1,2,3,8,9,12,13] ?_
  obtain ⟨dm,dn,dp⟩:=bS dl
  refine k0 (fun γ w hs=>c_laws_eqIntS dn (hs.view 8 rfl) (hs.view 7 rfl)) ?_
  refine oN 2 [(88,vb (!dm))] [1,2,3,8,9,12,13] ?_
  refine oe ?_
  obtain rfl:=sI dp
  exact mt () [1,2,3,8,9,12,13,88] [7,7,7,7,7,7,7,7,1,1,1,1,1,2,2,2,2,2,2] 4
 refine nt (cC de (fun dq=>?_) (fun dr=>?_))
 ·refine qs (qr (oN 1 [(6,vb false)] [] ?_))
  refine oe (nt (qe (nr ?_)))
  obtain rfl:=sI dq
  exact re [.bool false]
 refine qk (nt (qs (qr (oN 1 [(15,vi 1)] [1,2,3,8,9,12,13] ?_))))
 refine oe (nt (qs (qr (oN 2 [(90,vi 1),(89,.v (vOffice a7.1 a3.1))] [1,2,3,8,9,12,13] ?_))))
 refine JO_res (R':=(rOffice a7.1 a3.1 ++ ([SlRes 3 a9.2 a6.2.1 a6.2.2,SlRes 3 a7.2 a3.2.1 a3.2.2] ++ (rOffice a9.1 a6.1 ++ [SlRes 188 a5.2.1 a4.1.1 a4.1.2,SlRes 84 a5.2.2.1 a4.2.1.1 a4.2.1.2,SlRes 85 a5.2.2.2.1 a4.2.2.1.1 a4.2.2.1.2,SlRes 191 a5.2.2.2.2.1 a4.2.2.2.1.1 a4.2.2.2.1.2,SlRes 195 a5.2.2.2.2.2 a4.2.2.2.2.1 a4.2.2.2.2.2])))) [13,13,13,13,13,13,0,0,0,0,0,0,0,0,0,0,0,0,0] (by kernel_rfl) ?_
 obtain ⟨a8,ds,dt⟩:=bS dr
 obtain ⟨ft,du,dv⟩:=bS dt
 have ay:=(sameLen_some du).symm
 obtain ⟨fu,dw,dx⟩:=bS dv
 have az:=(sameLen_some dw).symm
 obtain ⟨fv,dy,dz⟩:=bS dx
 have b4:=(sameLen_some dy).symm
 obtain ⟨fw,e2,e3⟩:=bS dz
 have b5:=(sameLen_some e2).symm
 obtain ⟨fx,e4,e5⟩:=bS e3
 have b6:=(sameLen_some e4).symm
 obtain ⟨fy,e6,e7⟩:=bS e5
 have b7:=(sameLen_some e6).symm
 refine JO_callM rfl (by kernel_rfl) (f:=25) (args:=#[vOffice a7.1 a3.1,.int .i64 1]) (by kernel_rfl) (x:=.int .i64 a8.1) (Rin:=(rOffice a7.1 a3.1)) (Rout:=[SlRes 188 a8.2.1 a3.1.1.1 a3.1.1.2,SlRes 84 a8.2.2.1 a3.1.2.1.1 a3.1.2.1.2,SlRes 85 a8.2.2.2.1 a3.1.2.2.1.1 a3.1.2.2.1.2,SlRes 191 a8.2.2.2.2.1 a3.1.2.2.2.1.1 a3.1.2.2.2.1.2,SlRes 195 a8.2.2.2.2.2.1 a3.1.2.2.2.2.1.1 a3.1.2.2.2.2.1.2,SlRes 3 a8.2.2.2.2.2.2 a3.1.2.2.2.2.2.1 a3.1.2.2.2.2.2.2]) (Rr:=([SlRes 3 a9.2 a6.2.1 a6.2.2,SlRes 3 a7.2 a3.2.1 a3.2.2] ++ (rOffice a9.1 a6.1 ++ [SlRes 188 a5.2.1 a4.1.1 a4.1.2,SlRes 84 a5.2.2.1 a4.2.1.1 a4.2.1.2,SlRes 85 a5.2.2.2.1 a4.2.2.1.1 a4.2.2.1.2,SlRes 191 a5.2.2.2.2.1 a4.2.2.2.1.1 a4.2.2.2.1.2,SlRes 195 a5.2.2.2.2.2 a4.2.2.2.2.1 a4.2.2.2.2.2]))) rfl (fun w=>(by have vv:=c_laws_markOffice (e0_0:=188) (a0_0:=a3.1.1.1) (c0_0:=a3.1.1.2) (e0_1:=84) (a0_1:=a3.1.2.1.1) (c0_1:=a3.1.2.1.2) (e0_2:=85) (a0_2:=a3.1.2.2.1.1) (c0_2:=a3.1.2.2.1.2) (e0_3:=191) (a0_3:=a3.1.2.2.2.1.1) (c0_3:=a3.1.2.2.2.1.2) (e0_4:=195) (a0_4:=a3.1.2.2.2.2.1.1) (c0_4:=a3.1.2.2.2.2.1.2) (e0_5:=3) (a0_5:=a3.1.2.2.2.2.2.1) (c0_5:=a3.1.2.2.2.2.2.2) (W:=w) ds; exact vv)) (sl':=[(91,vi a8.1),(90,vi 1),(89,.v (vOffice a7.1 a3.1)),(1,vi x1),(2,vs a2_0 x2 c2_0),(3,.p 0 0),(8,.p 1 0),(9,sv a6.2 a9.2),(12,.p 3 0),(13,sv a3.2 a7.2)]) (by kernel_rfl) ?_
 refine JO_eqE (sl':=[(91,vi a8.1),(90,vi 1),(89,.v (vOffice (Office.mk (Case.mk (Book.mk a8.2.1) (Store.mk a8.2.2.1) (Series.mk a8.2.2.2.1) (Member.mk a7.1.Case.Member.Birth a7.1.Case.Member.Joined a8.2.2.2.2.1 a8.2.2.2.2.2.1)) a7.1.Start a8.2.2.2.2.2.2) a3.1)),(1,vi x1),(2,vs a2_0 x2 c2_0),(3,.p 0 0),(8,.p 1 0),(9,sv a6.2 a9.2),(12,.p 3 0),(13,sv a3.2 a7.2)]) (bx':=[(36,(eCase x0 b0)),(57,(eOffice a9.1 a6.1)),(54,(eCase (Case.mk (Book.mk a5.2.1) (Store.mk a5.2.2.1) (Series.mk a5.2.2.2.1) (Member.mk ab.Member.Birth ab.Member.Joined a5.2.2.2.2.1 a5.2.2.2.2.2)) a4)),(57,(eOffice (Office.mk (Case.mk (Book.mk a8.2.1) (Store.mk a8.2.2.1) (Series.mk a8.2.2.2.1) (Member.mk a7.1.Case.Member.Birth a7.1.Case.Member.Joined a8.2.2.2.2.1 a8.2.2.2.2.2.1)) a7.1.Start a8.2.2.2.2.2.2) a3.1))]) (by simp only [vs,sv,eOffice,vOffice,ay,az,b4,b5,b6,b7]) (by simp only [vs,sv,eCase,eOffice,vCase,vOffice,ay,az,b4,b5,b6,b7]) ?_
 refine oN 1 [(15,vi a8.1)] [1,2,3,8,9,12,13] ?_
 refine oe (nt (qs (qr (oN 2 [(93,vi a8.1),(92,sv a3.2 a7.2)] [1,2,3,8,9,12,13] ?_))))
 refine JO_res (R':=([SlRes 3 a7.2 a3.2.1 a3.2.2,SlRes 188 a8.2.1 a3.1.1.1 a3.1.1.2,SlRes 84 a8.2.2.1 a3.1.2.1.1 a3.1.2.1.2,SlRes 85 a8.2.2.2.1 a3.1.2.2.1.1 a3.1.2.2.1.2,SlRes 191 a8.2.2.2.2.1 a3.1.2.2.2.1.1 a3.1.2.2.2.1.2,SlRes 195 a8.2.2.2.2.2.1 a3.1.2.2.2.2.1.1 a3.1.2.2.2.2.1.2,SlRes 3 a8.2.2.2.2.2.2 a3.1.2.2.2.2.2.1 a3.1.2.2.2.2.2.2,SlRes 3 a9.2 a6.2.1 a6.2.2] ++ (rOffice a9.1 a6.1 ++ [SlRes 188 a5.2.1 a4.1.1 a4.1.2,SlRes 84 a5.2.2.1 a4.2.1.1 a4.2.1.2,SlRes 85 a5.2.2.2.1 a4.2.2.1.1 a4.2.2.1.2,SlRes 191 a5.2.2.2.2.1 a4.2.2.2.1.1 a4.2.2.2.1.2,SlRes 195 a5.2.2.2.2.2 a4.2.2.2.2.1 a4.2.2.2.2.2]))) [7,0,0,0,0,0,0,0,0,0,0,0,0,0,0,0,0,0,0] (by kernel_rfl) ?_
 obtain ⟨ae,e8,e9⟩:=bS e7
 obtain ⟨fz,ea,eb⟩:=bS e9
 have ec:=(sameLen_some ea).symm
 refine JO_callM rfl (by kernel_rfl) (f:=26) (args:=#[.slice a3.2.1 a7.2.length a3.2.2,.int .i64 a8.1]) (by kernel_rfl) (x:=.int .i64 ae.1) (Rin:=[SlRes 3 a7.2 a3.2.1 a3.2.2]) (Rout:=[SlRes 3 ae.2 a3.2.1 a3.2.2]) (Rr:=([SlRes 188 a8.2.1 a3.1.1.1 a3.1.1.2,SlRes 84 a8.2.2.1 a3.1.2.1.1 a3.1.2.1.2,SlRes 85 a8.2.2.2.1 a3.1.2.2.1.1 a3.1.2.2.1.2,SlRes 191 a8.2.2.2.2.1 a3.1.2.2.2.1.1 a3.1.2.2.2.1.2,SlRes 195 a8.2.2.2.2.2.1 a3.1.2.2.2.2.1.1 a3.1.2.2.2.2.1.2,SlRes 3 a8.2.2.2.2.2.2 a3.1.2.2.2.2.2.1 a3.1.2.2.2.2.2.2,SlRes 3 a9.2 a6.2.1 a6.2.2] ++ (rOffice a9.1 a6.1 ++ [SlRes 188 a5.2.1 a4.1.1 a4.1.2,SlRes 84 a5.2.2.1 a4.2.1.1 a4.2.1.2,SlRes 85 a5.2.2.2.1 a4.2.2.1.1 a4.2.2.1.2,SlRes 191 a5.2.2.2.2.1 a4.2.2.2.1.1 a4.2.2.2.1.2,SlRes 195 a5.2.2.2.2.2 a4.2.2.2.2.1 a4.2.2.2.2.2]))) rfl (fun w=>(by have vv:=c_laws_markIntS (e0_0:=3) (a0_0:=a3.2.1) (c0_0:=a3.2.2) (W:=w) e8; exact vv)) (sl':=[(94,vi ae.1),(93,vi a8.1),(92,sv a3.2 a7.2),(1,vi x1),(2,vs a2_0 x2 c2_0),(3,.p 0 0),(8,.p 1 0),(9,sv a6.2 a9.2),(12,.p 3 0),(13,sv a3.2 a7.2)]) (by kernel_rfl) ?_
 refine JO_eqE (sl':=[(94,vi ae.1),(93,vi a8.1),(92,sv a3.2 ae.2),(1,vi x1),(2,vs a2_0 x2 c2_0),(3,.p 0 0),(8,.p 1 0),(9,sv a6.2 a9.2),(12,.p 3 0),(13,sv a3.2 ae.2)]) (bx':=[(36,(eCase x0 b0)),(57,(eOffice a9.1 a6.1)),(54,(eCase (Case.mk (Book.mk a5.2.1) (Store.mk a5.2.2.1) (Series.mk a5.2.2.2.1) (Member.mk ab.Member.Birth ab.Member.Joined a5.2.2.2.2.1 a5.2.2.2.2.2)) a4)),(57,(eOffice (Office.mk (Case.mk (Book.mk a8.2.1) (Store.mk a8.2.2.1) (Series.mk a8.2.2.2.1) (Member.mk a7.1.Case.Member.Birth a7.1.Case.Member.Joined a8.2.2.2.2.1 a8.2.2.2.2.2.1)) a7.1.Start a8.2.2.2.2.2.2) a3.1))]) (by simp only [vs,sv,ec]) rfl ?_
 refine oN 1 [(15,vi ae.1)] [1,2,3,8,9,12,13] ?_
 refine oe (nt (qs (qr (oN 1 [(16,vi 1)] [15,1,2,3,8,9,12,13] ?_))))
 refine oe (nt (qs (qr (oN 2 [(96,vi 1),(95,.v (vOffice (Office.mk (Case.mk (Book.mk a8.2.1) (Store.mk a8.2.2.1) (Series.mk a8.2.2.2.1) (Member.mk a7.1.Case.Member.Birth a7.1.Case.Member.Joined a8.2.2.2.2.1 a8.2.2.2.2.2.1)) a7.1.Start a8.2.2.2.2.2.2) a3.1))] [15,1,2,3,8,9,12,13] ?_))))
 obtain ⟨al,ed,ee⟩:=bS eb
 refine k0 (fun γ w hs=>c_laws_heldOffice (b0:=a3.1) ed (hs.view 1 rfl) (hs.view 2 rfl) (hs.view 3 rfl) (hs.view 4 rfl) (hs.view 5 rfl) (hs.view 6 rfl)) ?_
 refine oN 1 [(16,vi al)] [15,1,2,3,8,9,12,13] ?_
 refine oe (nt (qs (qs (qr (oN 2 [(99,vb (decide (al < 0)))] [16,15,1,2,3,8,9,12,13] ?_)))))
 refine oe (nt (cC ee (fun ef=>?_) (fun eg=>?_)))
 ·refine qs (qr (oN 1 [(6,vb false)] [] ?_))
  refine oe (nt (qe (nr ?_)))
  obtain rfl:=sI ef
  exact re [.bool false]
 refine qk (nt (qs (qr (oN 2 [(101,vi al),(100,sv a3.2 ae.2)] [15,1,2,3,8,9,12,13] ?_))))
 obtain ⟨am,eh,ei⟩:=bS eg
 refine k0 (fun γ w hs=>c_laws_heldIntS eh (hs.view 0 rfl)) ?_
 refine oN 1 [(16,vi am)] [15,1,2,3,8,9,12,13] ?_
 refine oe (nt (qs (qs (qr (oN 2 [(104,vb (decide (am < 0)))] [16,15,1,2,3,8,9,12,13] ?_)))))
 refine oe (nt (cC ei (fun ej=>?_) (fun ek=>?_)))
 ·refine qs (qr (oN 1 [(6,vb false)] [] ?_))
  refine oe (nt (qe (nr ?_)))
  obtain rfl:=sI ej
  exact re [.bool false]
 refine qk (nt (qs (qs (qr (oN 3 [(107,vb (am != ae.1))] [15,1,2,3,8,9,12,13] ?_)))))
 refine oe (nt (cC ek (fun el=>?_) (fun em=>?_)))
 ·refine qs (qr (oN 1 [(6,vb false)] [] ?_))
  refine oe (nt (qe (nr ?_)))
  obtain rfl:=sI el
  exact re [.bool false]
 refine qk (nt (qs (qr (oN 1 [(109,.v (vCase x0 b0))] [15,1,2,8,9,12,13] ?_))))
 obtain ⟨g2,eo,ep⟩:=bS em
 refine k1 (fun γ w hs=>c_laws_toCase (b0:=b0) eo (hv0_0.k hs) (hv0_1.k hs) (hv0_2.k hs) (hv0_3.k hs) (hv0_4.k hs)) (fun eq=>?_)
 refine oN 2 [(112,vs a2_0 x2 c2_0),(111,vi x1)] [110,15,8,9,12,13] ?_
 obtain ⟨g3,er,es⟩:=bS ep
 refine k1 (fun γ w hs=>c_laws_toActS er (hv2_0.k hs)) (fun g4=>?_)
 obtain ⟨ai,et,eu⟩:=bS es
 refine k1 (fun γ w hs=>c_impl_RunActs (b0:=eq) et (hs.view 1 rfl) (hs.view 2 rfl) (hs.view 3 rfl) (hs.view 4 rfl) (hs.view 5 rfl) (hs.view 0 rfl)) (fun ah=>?_)
 refine oB 6 [(18,sv ah.2 ai.2),(17,.p 4 0)] [15,8,9,12,13] [(36,(eCase x0 b0)),(57,(eOffice a9.1 a6.1)),(54,(eCase (Case.mk (Book.mk a5.2.1) (Store.mk a5.2.2.1) (Series.mk a5.2.2.2.1) (Member.mk ab.Member.Birth ab.Member.Joined a5.2.2.2.2.1 a5.2.2.2.2.2)) a4)),(57,(eOffice (Office.mk (Case.mk (Book.mk a8.2.1) (Store.mk a8.2.2.1) (Series.mk a8.2.2.2.1) (Member.mk a7.1.Case.Member.Birth a7.1.Case.Member.Joined a8.2.2.2.2.1 a8.2.2.2.2.2.1)) a7.1.Start a8.2.2.2.2.2.2) a3.1)),(57,(eOffice ai.1 ah.1))] ?_
 refine oe (nt (qs (qs ?_)))
 obtain ⟨ev,ew,ex⟩:=bS eu
 refine JC_cut (τ:=Unit) (fun _=>[(12,.p 3 0),(13,sv a3.2 ae.2),(15,vi ae.1),(126,vb ev)]) (fun _=>[(36,(eCase x0 b0)),(57,(eOffice a9.1 a6.1)),(54,(eCase (Case.mk (Book.mk a5.2.1) (Store.mk a5.2.2.1) (Series.mk a5.2.2.2.1) (Member.mk ab.Member.Birth ab.Member.Joined a5.2.2.2.2.1 a5.2.2.2.2.2)) a4)),(57,(eOffice (Office.mk (Case.mk (Book.mk a8.2.1) (Store.mk a8.2.2.1) (Series.mk a8.2.2.2.1) (Member.mk a7.1.Case.Member.Birth a7.1.Case.Member.Joined a8.2.2.2.2.1 a8.2.2.2.2.2.1)) a7.1.Start a8.2.2.2.2.2.2) a3.1)),(57,(eOffice ai.1 ah.1))]) (fun _=>([SlRes 3 ae.2 a3.2.1 a3.2.2] ++ (rOffice a9.1 a6.1 ++ ([SlRes 188 a5.2.1 a4.1.1 a4.1.2,SlRes 84 a5.2.2.1 a4.2.1.1 a4.2.1.2,SlRes 85 a5.2.2.2.1 a4.2.2.1.1 a4.2.2.1.2,SlRes 191 a5.2.2.2.2.1 a4.2.2.2.1.1 a4.2.2.2.1.2,SlRes 195 a5.2.2.2.2.2 a4.2.2.2.2.1 a4.2.2.2.2.2,SlRes 188 a8.2.1 a3.1.1.1 a3.1.1.2,SlRes 84 a8.2.2.1 a3.1.2.1.1 a3.1.2.1.2,SlRes 85 a8.2.2.2.1 a3.1.2.2.1.1 a3.1.2.2.1.2,SlRes 191 a8.2.2.2.2.1 a3.1.2.2.2.1.1 a3.1.2.2.2.1.2,SlRes 195 a8.2.2.2.2.2.1 a3.1.2.2.2.2.1.1 a3.1.2.2.2.2.1.2,SlRes 3 a8.2.2.2.2.2.2 a3.1.2.2.2.2.2.1 a3.1.2.2.2.2.2.2] ++ rOffice ai.1 ah.1)))) ?_ (fun _=>?_)
 ·refine qr (oN 2 [(118,.v (vOffice a9.1 a6.1)),(117,.v (vOffice ai.1 ah.1))] [18,15,9,12,13] ?_)
  obtain ⟨ey,ez,f0⟩:=bS ew
  refine k0 (fun γ w hs=>c_laws_eqOffice (b0:=ah.1) (b1:=a6.1) ez (hs.view 0 rfl) (hs.view 1 rfl) (hs.view 2 rfl) (hs.view 3 rfl) (hs.view 4 rfl) (hs.view 5 rfl) (hs.view 21 rfl) (hs.view 22 rfl) (hs.view 23 rfl) (hs.view 24 rfl) (hs.view 25 rfl) (hs.view 26 rfl)) ?_
  refine oN 2 [(121,vb (!ey))] [18,15,9,12,13] ?_
  refine oS 121 f0 (fun f1=>?_) (fun f2=>?_)
  ·refine oN 5 [(126,vb true)] [15,12,13] ?_
   refine oe ?_
   obtain rfl:=sI f1
   exact mt () [12,13,15,126] [13,20,20,20,20,20,20,20,20,20,20,20,13,13,13,13,13,13,0,0,0,0,0,0] 5
  refine oN 2 [(123,sv a6.2 a9.2),(122,sv ah.2 ai.2)] [121,15,12,13] ?_
  obtain ⟨f3,f4,f5⟩:=bS f2
  refine k0 (fun γ w hs=>c_laws_eqIntS f4 (hs.view 6 rfl) (hs.view 20 rfl)) ?_
  refine oN 2 [(126,vb (!f3))] [15,12,13] ?_
  refine oe ?_
  obtain rfl:=sI f5
  exact mt () [12,13,15,126] [13,20,20,20,20,20,20,20,20,20,20,20,13,13,13,13,13,13,0,0,0,0,0,0] 5
 refine nt (cC ex (fun f6=>?_) (fun f7=>?_))
 ·refine qs (qr (oN 1 [(6,vb false)] [] ?_))
  refine oe (nt (qe (nr ?_)))
  obtain rfl:=sI f6
  exact re [.bool false]
 refine qk (nt (qs (qr (oN 1 [(16,vi 1)] [12,13,15] ?_))))
 refine oe (nt (qs (qr (oN 2 [(128,vi 1),(127,.v (vOffice (Office.mk (Case.mk (Book.mk a8.2.1) (Store.mk a8.2.2.1) (Series.mk a8.2.2.2.1) (Member.mk a7.1.Case.Member.Birth a7.1.Case.Member.Joined a8.2.2.2.2.1 a8.2.2.2.2.2.1)) a7.1.Start a8.2.2.2.2.2.2) a3.1))] [13,15] ?_))))
 obtain ⟨an,f8,f9⟩:=bS f7
 refine k0 (fun γ w hs=>c_laws_heldOffice (b0:=a3.1) f8 (hs.view 12 rfl) (hs.view 13 rfl) (hs.view 14 rfl) (hs.view 15 rfl) (hs.view 16 rfl) (hs.view 17 rfl)) ?_
 refine oN 1 [(16,vi an)] [13,15] ?_
 refine oe (nt (qs (qs (qr (oN 2 [(131,vb (decide (an < 0)))] [16,13,15] ?_)))))
 refine oe (nt (cC f9 (fun fa=>?_) (fun fb=>?_)))
 ·refine qs (qr (oN 1 [(6,vb false)] [] ?_))
  refine oe (nt (qe (nr ?_)))
  obtain rfl:=sI fa
  exact re [.bool false]
 refine qk (nt (qs (qr (oN 2 [(133,vi an),(132,sv a3.2 ae.2)] [15] ?_))))
 obtain ⟨ao,fc,fd⟩:=bS fb
 refine k0 (fun γ w hs=>c_laws_heldIntS fc (hs.view 0 rfl)) ?_
 refine oN 1 [(16,vi ao)] [15] ?_
 refine oe (nt (qs (qs (qr (oN 2 [(136,vb (decide (ao < 0)))] [16,15] ?_)))))
 refine oe (nt (cC fd (fun fe=>?_) (fun ff=>?_)))
 ·refine qs (qr (oN 1 [(6,vb false)] [] ?_))
  refine oe (nt (qe (nr ?_)))
  obtain rfl:=sI fe
  exact re [.bool false]
 refine qk (nt (qs (qs (qr (oN 3 [(139,vb (ao != ae.1))] [] ?_)))))
 refine oe (nt (cC ff (fun fg=>?_) (fun fh=>?_)))
 ·refine qs (qr (oN 1 [(6,vb false)] [] ?_))
  refine oe (nt (qe (nr ?_)))
  obtain rfl:=sI fg
  exact re [.bool false]
 refine qk (nt (qs (qr (oN 1 [(6,vb true)] [] ?_))))
 refine oe (nt (qe ?_))
 obtain rfl:=sI fh
 exact re [.bool true]
end Go.Pen
