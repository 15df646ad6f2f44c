/-
  Each Go function does what its plain function says: written by a program of ours.
-/
import Derived.Test.YtnbcacemikahjaaGreatF
import Derived.Test.YtnbcacemikahjaaGreatProg
import Derived.Test.YtnbcacemikahjaaGreatPenK
import Derived.Test.YtnbcacemikahjaaGreatPenQ
import Derived.Test.YtnbcacemikahjaaGreatPenU
namespace Go.Pen
open Go.Proofs Go.RowKit
set_option linter.unusedVariables false
set_option linter.unusedSimpArgs false
set_option maxRecDepth 100000
set_option maxHeartbeats 4000000

theorem c_laws_szNodeS {W : World} {x0 : List Node} {a0_0 : Option Addr} {c0_0 : Nat} {x1 : Int} {r : Int} (h : laws_szNodeS x0 x1 = some r) (hv0_0 : SlView W x0 a0_0 c0_0) :
    Gives0 Tryz.prog 81 #[.slice a0_0 x0.length c0_0, .int .i64 x1] W (.int .i64 r) := by
 unfold laws_szNodeS at h
 refine en Tryz.func81 Tryz.ntmps81 ?_
 refine qs (qr (oN 1 [] [0, 1] ?_))
 refine oe (nt (qs (qr (oN 5 [(1, vi (w64 (x1 - (x0.length : Int))))] [] ?_))))
 refine oe (nt (qs (qs (qr (oN 2 [(10, vb (decide ((w64 (x1 - (x0.length : Int))) < 0)))] [1] ?_)))))
 refine oe (nt (cC h (fun h22 => ?_) (fun h23 => ?_)))
 · refine qs (qr (oN 1 [(4, vi (-1))] [] ?_))
   refine oe (nt (qe (nr ?_)))
   obtain rfl := sI h22
   exact re [.int .i64 (-1)]
 refine qk (nt (qs (qr (oN 2 [(4, vi (w64 (x1 - (x0.length : Int))))] [] ?_))))
 refine oe (nt (qe ?_))
 obtain rfl := sI h23
 exact re [.int .i64 (w64 (x1 - (x0.length : Int)))]

theorem c_laws_szRule {W : World} {x0 : Rule} {a0_0 : Option Addr} {c0_0 : Nat} {x1 : Int} {r : Int} (h : laws_szRule x0 x1 = some r) (hv0_0 : SlView W x0.Nodes a0_0 c0_0) :
    Gives0 Tryz.prog 23 #[vRule x0 (a0_0, c0_0), .int .i64 x1] W (.int .i64 r) := by
 unfold laws_szRule at h
 refine en Tryz.func23 Tryz.ntmps23 ?_
 refine qs (qr (oB 2 [(2, .p 0 0)] [1] [(63, (eRule x0 (a0_0, c0_0)))] ?_))
 refine oe (nt (qs (qr (oN 3 [(7, vi x1), (6, .v (.slice a0_0 x0.Nodes.length c0_0))] [] ?_))))
 obtain ⟨t21, h22, h23⟩ := bS h
 refine k0 (fun γ w hs => c_laws_szNodeS h22 (hv0_0.kept hs.kept)) ?_
 refine oN 1 [(1, vi t21)] [] ?_
 refine oe (nt (qs (qs (qr (oN 2 [(10, vb (decide (t21 < 0)))] [1] ?_)))))
 refine oe (nt (cC h23 (fun h26 => ?_) (fun h27 => ?_)))
 · refine qs (qr (oN 1 [(4, vi (-1))] [] ?_))
   refine oe (nt (qe (nr ?_)))
   obtain rfl := sI h26
   exact re [.int .i64 (-1)]
 refine qk (nt (qs (qr (oN 2 [(4, vi t21)] [] ?_))))
 refine oe (nt (qe ?_))
 obtain rfl := sI h27
 exact re [.int .i64 t21]

theorem c_laws_szRuleS {W : World} {x0 : List Rule} {a0_0 : Option Addr} {c0_0 : Nat} {x1 : Int} {r : Int} (h : laws_szRuleS x0 x1 = some r) (hv0_0 : SlView W x0 a0_0 c0_0) :
    Gives0 Tryz.prog 109 #[.slice a0_0 x0.length c0_0, .int .i64 x1] W (.int .i64 r) := by
 unfold laws_szRuleS at h
 refine en Tryz.func109 Tryz.ntmps109 ?_
 refine qs (qr (oN 1 [] [0, 1] ?_))
 refine oe (nt (qs (qr (oN 5 [(1, vi (w64 (x1 - (x0.length : Int))))] [0] ?_))))
 refine oe (nt (qs (qs (qr (oN 2 [(11, vb (decide ((w64 (x1 - (x0.length : Int))) < 0)))] [1, 0] ?_)))))
 refine oe (nt (cC h (fun h22 => ?_) (fun h23 => ?_)))
 · refine qs (qr (oN 1 [(4, vi (-1))] [] ?_))
   refine oe (nt (qe (nr ?_)))
   obtain rfl := sI h22
   exact re [.int .i64 (-1)]
 refine qk (nt (qs (qs (qr (oN 1 [(5, vi 0)] [1, 0] ?_)))))
 refine oe (nt ?_)
 obtain ⟨r27, hL28, h29⟩ := bS h23
 obtain ⟨k30, hk31, h29⟩ := brkS h29
 refine JC_cutP (τ := (Int) × (Unit)) (fun y => k30 y.1 = some r) (fun y35 => [(1, vi y35.1)]) (fun y35 => []) (fun y35 => []) ?_ (fun y35 h36p => ?_)
 · refine qb (lp Unit hL28 (fun s24 y25 => [(5, vi s24.1), (1, vi s24.2), (0, .v (.slice a0_0 x0.length c0_0))]) (fun s24 y25 => []) (fun s24 y25 => []) () [5, 1, 0] [] 0 (fun s24 y25 t26 h32 hd33 => ?_))
   refine qs (qs (qr (oN 4 [(15, vb (decide (s24.1 < (x0.length : Int))))] [5, 1, 0] ?_)))
   refine oe (nt (cC h32 (fun h38 => ?_) (fun h39 => ?_)))
   · refine qk (nt (qs (qb (qs (qr (oN 2 [(19, vi s24.1), (18, .v (.slice a0_0 x0.length c0_0))] [5, 1, 0] ?_))))))
     obtain ⟨x40, hx41, h42⟩ := bS h38
     refine oi 7 (fun γ w hs => (hv0_0.kept hs.kept)) hx41 ?_
     obtain ⟨_, ⟨a43, c44, rfl, hv45⟩, hc46⟩ := SlView.at hv0_0 (idx_some hx41).2.2
     refine ol 63 0 (vRule x40 (a43, c44)) (fun γ w hs => ⟨(hv0_0.kept hs.kept).ne (idx_some hx41).2.2, hc46.kept hs.kept⟩) ?_
     refine oN 1 [(22, vi s24.2)] [21, 5, 0] ?_
     obtain ⟨t47, h48, h49⟩ := bS h42
     refine k0 (fun γ w hs => c_laws_szRule h48 (hv45.kept hs.kept)) ?_
     refine oN 1 [(1, vi t47)] [5, 0] ?_
     refine oe (nt (qs (qr (oN 2 [(25, vb (decide (t47 < 0)))] [1, 5, 0] ?_))))
     refine oe (nt (cC h49 (fun h52 => ?_) (fun h53 => ?_)))
     · refine qs (qr (oN 1 [(4, vi (-1))] [] ?_))
       refine oe (nt (qe (br (nr (nr ?_)))))
       have h54 := leafR hd33 h52 h29
       refine br (nr (nr ?_))
       obtain rfl := sI h54
       exact re [.int .i64 (-1)]
     refine qk (bn (nt (qr (oN 3 [(5, vi (w64 (s24.1 + 1)))] [1, 0] ?_))))
     exact oe (ct h53 () [5, 1, 0] [] 0)
   refine qx (nx (nx (bh ?_)))
   have h55 := leafB hd33 h39 h29
   exact mp (s24.2, ()) h55 [1] [] 0
 have h36 := (congrFun hk31 _).symm.trans h36p
 refine nt (qs (qr (oN 2 [(4, vi y35.1)] [] ?_)))
 refine oe (nt (qe ?_))
 obtain rfl := sI h36
 exact re [.int .i64 y35.1]

theorem c_laws_szBook {W : World} {x0 : Book} {a0_0 : Option Addr} {c0_0 : Nat} {x1 : Int} {r : Int} (h : laws_szBook x0 x1 = some r) (hv0_0 : SlView W x0.Rules a0_0 c0_0) :
    Gives0 Tryz.prog 63 #[vBook x0 (a0_0, c0_0), .int .i64 x1] W (.int .i64 r) := by
 unfold laws_szBook at h
 refine en Tryz.func63 Tryz.ntmps63 ?_
 refine qs (qr (oB 2 [(2, .p 0 0)] [1] [(24, (eBook x0 (a0_0, c0_0)))] ?_))
 refine oe (nt (qs (qr (oN 3 [(7, vi x1), (6, .v (.slice a0_0 x0.Rules.length c0_0))] [] ?_))))
 obtain ⟨t21, h22, h23⟩ := bS h
 refine k0 (fun γ w hs => c_laws_szRuleS h22 (hv0_0.kept hs.kept)) ?_
 refine oN 1 [(1, vi t21)] [] ?_
 refine oe (nt (qs (qs (qr (oN 2 [(10, vb (decide (t21 < 0)))] [1] ?_)))))
 refine oe (nt (cC h23 (fun h26 => ?_) (fun h27 => ?_)))
 · refine qs (qr (oN 1 [(4, vi (-1))] [] ?_))
   refine oe (nt (qe (nr ?_)))
   obtain rfl := sI h26
   exact re [.int .i64 (-1)]
 refine qk (nt (qs (qr (oN 2 [(4, vi t21)] [] ?_))))
 refine oe (nt (qe ?_))
 obtain rfl := sI h27
 exact re [.int .i64 t21]

theorem c_laws_szFactS {W : World} {x0 : List Fact} {a0_0 : Option Addr} {c0_0 : Nat} {x1 : Int} {r : Int} (h : laws_szFactS x0 x1 = some r) (hv0_0 : SlView W x0 a0_0 c0_0) :
    Gives0 Tryz.prog 110 #[.slice a0_0 x0.length c0_0, .int .i64 x1] W (.int .i64 r) := by
 unfold laws_szFactS at h
 refine en Tryz.func110 Tryz.ntmps110 ?_
 refine qs (qr (oN 1 [] [0, 1] ?_))
 refine oe (nt (qs (qr (oN 5 [(1, vi (w64 (x1 - (x0.length : Int))))] [] ?_))))
 refine oe (nt (qs (qs (qr (oN 2 [(10, vb (decide ((w64 (x1 - (x0.length : Int))) < 0)))] [1] ?_)))))
 refine oe (nt (cC h (fun h22 => ?_) (fun h23 => ?_)))
 · refine qs (qr (oN 1 [(4, vi (-1))] [] ?_))
   refine oe (nt (qe (nr ?_)))
   obtain rfl := sI h22
   exact re [.int .i64 (-1)]
 refine qk (nt (qs (qr (oN 2 [(4, vi (w64 (x1 - (x0.length : Int))))] [] ?_))))
 refine oe (nt (qe ?_))
 obtain rfl := sI h23
 exact re [.int .i64 (w64 (x1 - (x0.length : Int)))]

theorem c_laws_szStore {W : World} {x0 : Store} {a0_0 : Option Addr} {c0_0 : Nat} {x1 : Int} {r : Int} (h : laws_szStore x0 x1 = some r) (hv0_0 : SlView W x0.Facts a0_0 c0_0) :
    Gives0 Tryz.prog 64 #[vStore x0 (a0_0, c0_0), .int .i64 x1] W (.int .i64 r) := by
 unfold laws_szStore at h
 refine en Tryz.func64 Tryz.ntmps64 ?_
 refine qs (qr (oB 2 [(2, .p 0 0)] [1] [(27, (eStore x0 (a0_0, c0_0)))] ?_))
 refine oe (nt (qs (qr (oN 3 [(7, vi x1), (6, .v (.slice a0_0 x0.Facts.length c0_0))] [] ?_))))
 obtain ⟨t21, h22, h23⟩ := bS h
 refine k0 (fun γ w hs => c_laws_szFactS h22 (hv0_0.kept hs.kept)) ?_
 refine oN 1 [(1, vi t21)] [] ?_
 refine oe (nt (qs (qs (qr (oN 2 [(10, vb (decide (t21 < 0)))] [1] ?_)))))
 refine oe (nt (cC h23 (fun h26 => ?_) (fun h27 => ?_)))
 · refine qs (qr (oN 1 [(4, vi (-1))] [] ?_))
   refine oe (nt (qe (nr ?_)))
   obtain rfl := sI h26
   exact re [.int .i64 (-1)]
 refine qk (nt (qs (qr (oN 2 [(4, vi t21)] [] ?_))))
 refine oe (nt (qe ?_))
 obtain rfl := sI h27
 exact re [.int .i64 t21]

theorem c_laws_szPointS {W : World} {x0 : List Point} {a0_0 : Option Addr} {c0_0 : Nat} {x1 : Int} {r : Int} (h : laws_szPointS x0 x1 = some r) (hv0_0 : SlView W x0 a0_0 c0_0) :
    Gives0 Tryz.prog 111 #[.slice a0_0 x0.length c0_0, .int .i64 x1] W (.int .i64 r) := by
 unfold laws_szPointS at h
 refine en Tryz.func111 Tryz.ntmps111 ?_
 refine qs (qr (oN 1 [] [0, 1] ?_))
 refine oe (nt (qs (qr (oN 5 [(1, vi (w64 (x1 - (x0.length : Int))))] [] ?_))))
 refine oe (nt (qs (qs (qr (oN 2 [(10, vb (decide ((w64 (x1 - (x0.length : Int))) < 0)))] [1] ?_)))))
 refine oe (nt (cC h (fun h22 => ?_) (fun h23 => ?_)))
 · refine qs (qr (oN 1 [(4, vi (-1))] [] ?_))
   refine oe (nt (qe (nr ?_)))
   obtain rfl := sI h22
   exact re [.int .i64 (-1)]
 refine qk (nt (qs (qr (oN 2 [(4, vi (w64 (x1 - (x0.length : Int))))] [] ?_))))
 refine oe (nt (qe ?_))
 obtain rfl := sI h23
 exact re [.int .i64 (w64 (x1 - (x0.length : Int)))]

theorem c_laws_szSeries {W : World} {x0 : Series} {a0_0 : Option Addr} {c0_0 : Nat} {x1 : Int} {r : Int} (h : laws_szSeries x0 x1 = some r) (hv0_0 : SlView W x0.Points a0_0 c0_0) :
    Gives0 Tryz.prog 65 #[vSeries x0 (a0_0, c0_0), .int .i64 x1] W (.int .i64 r) := by
 unfold laws_szSeries at h
 refine en Tryz.func65 Tryz.ntmps65 ?_
 refine qs (qr (oB 2 [(2, .p 0 0)] [1] [(30, (eSeries x0 (a0_0, c0_0)))] ?_))
 refine oe (nt (qs (qr (oN 3 [(7, vi x1), (6, .v (.slice a0_0 x0.Points.length c0_0))] [] ?_))))
 obtain ⟨t21, h22, h23⟩ := bS h
 refine k0 (fun γ w hs => c_laws_szPointS h22 (hv0_0.kept hs.kept)) ?_
 refine oN 1 [(1, vi t21)] [] ?_
 refine oe (nt (qs (qs (qr (oN 2 [(10, vb (decide (t21 < 0)))] [1] ?_)))))
 refine oe (nt (cC h23 (fun h26 => ?_) (fun h27 => ?_)))
 · refine qs (qr (oN 1 [(4, vi (-1))] [] ?_))
   refine oe (nt (qe (nr ?_)))
   obtain rfl := sI h26
   exact re [.int .i64 (-1)]
 refine qk (nt (qs (qr (oN 2 [(4, vi t21)] [] ?_))))
 refine oe (nt (qe ?_))
 obtain rfl := sI h27
 exact re [.int .i64 t21]

theorem c_laws_szSpellS {W : World} {x0 : List Spell} {a0_0 : Option Addr} {c0_0 : Nat} {x1 : Int} {r : Int} (h : laws_szSpellS x0 x1 = some r) (hv0_0 : SlView W x0 a0_0 c0_0) :
    Gives0 Tryz.prog 112 #[.slice a0_0 x0.length c0_0, .int .i64 x1] W (.int .i64 r) := by
 unfold laws_szSpellS at h
 refine en Tryz.func112 Tryz.ntmps112 ?_
 refine qs (qr (oN 1 [] [0, 1] ?_))
 refine oe (nt (qs (qr (oN 5 [(1, vi (w64 (x1 - (x0.length : Int))))] [] ?_))))
 refine oe (nt (qs (qs (qr (oN 2 [(10, vb (decide ((w64 (x1 - (x0.length : Int))) < 0)))] [1] ?_)))))
 refine oe (nt (cC h (fun h22 => ?_) (fun h23 => ?_)))
 · refine qs (qr (oN 1 [(4, vi (-1))] [] ?_))
   refine oe (nt (qe (nr ?_)))
   obtain rfl := sI h22
   exact re [.int .i64 (-1)]
 refine qk (nt (qs (qr (oN 2 [(4, vi (w64 (x1 - (x0.length : Int))))] [] ?_))))
 refine oe (nt (qe ?_))
 obtain rfl := sI h23
 exact re [.int .i64 (w64 (x1 - (x0.length : Int)))]

theorem c_laws_szEventS {W : World} {x0 : List Event} {a0_0 : Option Addr} {c0_0 : Nat} {x1 : Int} {r : Int} (h : laws_szEventS x0 x1 = some r) (hv0_0 : SlView W x0 a0_0 c0_0) :
    Gives0 Tryz.prog 113 #[.slice a0_0 x0.length c0_0, .int .i64 x1] W (.int .i64 r) := by
 unfold laws_szEventS at h
 refine en Tryz.func113 Tryz.ntmps113 ?_
 refine qs (qr (oN 1 [] [0, 1] ?_))
 refine oe (nt (qs (qr (oN 5 [(1, vi (w64 (x1 - (x0.length : Int))))] [] ?_))))
 refine oe (nt (qs (qs (qr (oN 2 [(10, vb (decide ((w64 (x1 - (x0.length : Int))) < 0)))] [1] ?_)))))
 refine oe (nt (cC h (fun h22 => ?_) (fun h23 => ?_)))
 · refine qs (qr (oN 1 [(4, vi (-1))] [] ?_))
   refine oe (nt (qe (nr ?_)))
   obtain rfl := sI h22
   exact re [.int .i64 (-1)]
 refine qk (nt (qs (qr (oN 2 [(4, vi (w64 (x1 - (x0.length : Int))))] [] ?_))))
 refine oe (nt (qe ?_))
 obtain rfl := sI h23
 exact re [.int .i64 (w64 (x1 - (x0.length : Int)))]

theorem c_laws_szMember {W : World} {x0 : Member} {b0 : AC × AC} {x1 : Int} {r : Int} (h : laws_szMember x0 x1 = some r) (hv0_0 : SlView W x0.Spells b0.1.1 b0.1.2) (hv0_1 : SlView W x0.Events b0.2.1 b0.2.2) :
    Gives0 Tryz.prog 66 #[vMember x0 b0, .int .i64 x1] W (.int .i64 r) := by
 unfold laws_szMember at h
 refine en Tryz.func66 Tryz.ntmps66 ?_
 refine qs (qr (oB 2 [(2, .p 0 0)] [1] [(34, (eMember x0 b0))] ?_))
 refine oe (nt (qs (qr (oN 3 [(7, vi x1), (6, .v (.slice b0.1.1 x0.Spells.length b0.1.2))] [2] ?_))))
 obtain ⟨t21, h22, h23⟩ := bS h
 refine k0 (fun γ w hs => c_laws_szSpellS h22 (hv0_0.kept hs.kept)) ?_
 refine oN 1 [(1, vi t21)] [2] ?_
 refine oe (nt (qs (qs (qr (oN 2 [(10, vb (decide (t21 < 0)))] [1, 2] ?_)))))
 refine oe (nt (cC h23 (fun h26 => ?_) (fun h27 => ?_)))
 · refine qs (qr (oN 1 [(4, vi (-1))] [] ?_))
   refine oe (nt (qe (nr ?_)))
   obtain rfl := sI h26
   exact re [.int .i64 (-1)]
 refine qk (nt (qs (qr (oN 3 [(13, vi t21), (12, .v (.slice b0.2.1 x0.Events.length b0.2.2))] [] ?_))))
 obtain ⟨t28, h29, h30⟩ := bS h27
 refine k0 (fun γ w hs => c_laws_szEventS h29 (hv0_1.kept hs.kept)) ?_
 refine oN 1 [(1, vi t28)] [] ?_
 refine oe (nt (qs (qs (qr (oN 2 [(16, vb (decide (t28 < 0)))] [1] ?_)))))
 refine oe (nt (cC h30 (fun h33 => ?_) (fun h34 => ?_)))
 · refine qs (qr (oN 1 [(4, vi (-1))] [] ?_))
   refine oe (nt (qe (nr ?_)))
   obtain rfl := sI h33
   exact re [.int .i64 (-1)]
 refine qk (nt (qs (qr (oN 2 [(4, vi t28)] [] ?_))))
 refine oe (nt (qe ?_))
 obtain rfl := sI h34
 exact re [.int .i64 t28]

theorem c_laws_szCase {W : World} {x0 : Case} {b0 : AC × AC × AC × AC × AC} {x1 : Int} {r : Int} (h : laws_szCase x0 x1 = some r) (hv0_0 : SlView W x0.Book.Rules b0.1.1 b0.1.2) (hv0_1 : SlView W x0.Store.Facts b0.2.1.1 b0.2.1.2) (hv0_2 : SlView W x0.Series.Points b0.2.2.1.1 b0.2.2.1.2) (hv0_3 : SlView W x0.Member.Spells b0.2.2.2.1.1 b0.2.2.2.1.2) (hv0_4 : SlView W x0.Member.Events b0.2.2.2.2.1 b0.2.2.2.2.2) :
    Gives0 Tryz.prog 14 #[vCase x0 b0, .int .i64 x1] W (.int .i64 r) := by
 unfold laws_szCase at h
 refine en Tryz.func14 Tryz.ntmps14 ?_
 refine qs (qr (oB 2 [(2, .p 0 0)] [1] [(36, (eCase x0 b0))] ?_))
 refine oe (nt (qs (qr (oN 3 [(7, vi x1), (6, .v (vBook x0.Book b0.1))] [2] ?_))))
 obtain ⟨t21, h22, h23⟩ := bS h
 refine k0 (fun γ w hs => c_laws_szBook h22 (hv0_0.kept hs.kept)) ?_
 refine oN 1 [(1, vi t21)] [2] ?_
 refine oe (nt (qs (qs (qr (oN 2 [(10, vb (decide (t21 < 0)))] [1, 2] ?_)))))
 refine oe (nt (cC h23 (fun h26 => ?_) (fun h27 => ?_)))
 · refine qs (qr (oN 1 [(4, vi (-1))] [] ?_))
   refine oe (nt (qe (nr ?_)))
   obtain rfl := sI h26
   exact re [.int .i64 (-1)]
 refine qk (nt (qs (qr (oN 3 [(13, vi t21), (12, .v (vStore x0.Store b0.2.1))] [2] ?_))))
 obtain ⟨t28, h29, h30⟩ := bS h27
 refine k0 (fun γ w hs => c_laws_szStore h29 (hv0_1.kept hs.kept)) ?_
 refine oN 1 [(1, vi t28)] [2] ?_
 refine oe (nt (qs (qs (qr (oN 2 [(16, vb (decide (t28 < 0)))] [1, 2] ?_)))))
 refine oe (nt (cC h30 (fun h33 => ?_) (fun h34 => ?_)))
 · refine qs (qr (oN 1 [(4, vi (-1))] [] ?_))
   refine oe (nt (qe (nr ?_)))
   obtain rfl := sI h33
   exact re [.int .i64 (-1)]
 refine qk (nt (qs (qr (oN 3 [(19, vi t28), (18, .v (vSeries x0.Series b0.2.2.1))] [2] ?_))))
 obtain ⟨t35, h36, h37⟩ := bS h34
 refine k0 (fun γ w hs => c_laws_szSeries h36 (hv0_2.kept hs.kept)) ?_
 refine oN 1 [(1, vi t35)] [2] ?_
 refine oe (nt (qs (qs (qr (oN 2 [(22, vb (decide (t35 < 0)))] [1, 2] ?_)))))
 refine oe (nt (cC h37 (fun h40 => ?_) (fun h41 => ?_)))
 · refine qs (qr (oN 1 [(4, vi (-1))] [] ?_))
   refine oe (nt (qe (nr ?_)))
   obtain rfl := sI h40
   exact re [.int .i64 (-1)]
 refine qk (nt (qs (qr (oN 3 [(25, vi t35), (24, .v (vMember x0.Member b0.2.2.2))] [] ?_))))
 obtain ⟨t42, h43, h44⟩ := bS h41
 refine k0 (fun γ w hs => c_laws_szMember (b0 := b0.2.2.2) h43 (hv0_3.kept hs.kept) (hv0_4.kept hs.kept)) ?_
 refine oN 1 [(1, vi t42)] [] ?_
 refine oe (nt (qs (qs (qr (oN 2 [(28, vb (decide (t42 < 0)))] [1] ?_)))))
 refine oe (nt (cC h44 (fun h47 => ?_) (fun h48 => ?_)))
 · refine qs (qr (oN 1 [(4, vi (-1))] [] ?_))
   refine oe (nt (qe (nr ?_)))
   obtain rfl := sI h47
   exact re [.int .i64 (-1)]
 refine qk (nt (qs (qr (oN 2 [(4, vi t42)] [] ?_))))
 refine oe (nt (qe ?_))
 obtain rfl := sI h48
 exact re [.int .i64 t42]

theorem c_laws_szCaseS {W : World} {x0 : List Case} {a0_0 : Option Addr} {c0_0 : Nat} {x1 : Int} {r : Int} (h : laws_szCaseS x0 x1 = some r) (hv0_0 : SlView W x0 a0_0 c0_0) :
    Gives0 Tryz.prog 51 #[.slice a0_0 x0.length c0_0, .int .i64 x1] W (.int .i64 r) := by
 unfold laws_szCaseS at h
 refine en Tryz.func51 Tryz.ntmps51 ?_
 refine qs (qr (oN 1 [] [0, 1] ?_))
 refine oe (nt (qs (qr (oN 5 [(1, vi (w64 (x1 - (x0.length : Int))))] [0] ?_))))
 refine oe (nt (qs (qs (qr (oN 2 [(11, vb (decide ((w64 (x1 - (x0.length : Int))) < 0)))] [1, 0] ?_)))))
 refine oe (nt (cC h (fun h22 => ?_) (fun h23 => ?_)))
 · refine qs (qr (oN 1 [(4, vi (-1))] [] ?_))
   refine oe (nt (qe (nr ?_)))
   obtain rfl := sI h22
   exact re [.int .i64 (-1)]
 refine qk (nt (qs (qs (qr (oN 1 [(5, vi 0)] [1, 0] ?_)))))
 refine oe (nt ?_)
 obtain ⟨r27, hL28, h29⟩ := bS h23
 obtain ⟨k30, hk31, h29⟩ := brkS h29
 refine JC_cutP (τ := (Int) × (Unit)) (fun y => k30 y.1 = some r) (fun y35 => [(1, vi y35.1)]) (fun y35 => []) (fun y35 => []) ?_ (fun y35 h36p => ?_)
 · refine qb (lp Unit hL28 (fun s24 y25 => [(5, vi s24.1), (1, vi s24.2), (0, .v (.slice a0_0 x0.length c0_0))]) (fun s24 y25 => []) (fun s24 y25 => []) () [5, 1, 0] [] 0 (fun s24 y25 t26 h32 hd33 => ?_))
   refine qs (qs (qr (oN 4 [(15, vb (decide (s24.1 < (x0.length : Int))))] [5, 1, 0] ?_)))
   refine oe (nt (cC h32 (fun h38 => ?_) (fun h39 => ?_)))
   · refine qk (nt (qs (qb (qs (qr (oN 2 [(19, vi s24.1), (18, .v (.slice a0_0 x0.length c0_0))] [5, 1, 0] ?_))))))
     obtain ⟨x40, hx41, h42⟩ := bS h38
     refine oi 7 (fun γ w hs => (hv0_0.kept hs.kept)) hx41 ?_
     obtain ⟨_, ⟨a43, c44, a46, c47, a49, c50, a52, c53, a55, c56, rfl, hv45, hv48, hv51, hv54, hv57⟩, hc58⟩ := SlView.at hv0_0 (idx_some hx41).2.2
     refine ol 36 0 (vCase x40 ((a43, c44), (a46, c47), (a49, c50), (a52, c53), (a55, c56))) (fun γ w hs => ⟨(hv0_0.kept hs.kept).ne (idx_some hx41).2.2, hc58.kept hs.kept⟩) ?_
     refine oN 1 [(22, vi s24.2)] [21, 5, 0] ?_
     obtain ⟨t59, h60, h61⟩ := bS h42
     refine k0 (fun γ w hs => c_laws_szCase (b0 := ((a43, c44), (a46, c47), (a49, c50), (a52, c53), (a55, c56))) h60 (hv45.kept hs.kept) (hv48.kept hs.kept) (hv51.kept hs.kept) (hv54.kept hs.kept) (hv57.kept hs.kept)) ?_
     refine oN 1 [(1, vi t59)] [5, 0] ?_
     refine oe (nt (qs (qr (oN 2 [(25, vb (decide (t59 < 0)))] [1, 5, 0] ?_))))
     refine oe (nt (cC h61 (fun h64 => ?_) (fun h65 => ?_)))
     · refine qs (qr (oN 1 [(4, vi (-1))] [] ?_))
       refine oe (nt (qe (br (nr (nr ?_)))))
       have h66 := leafR hd33 h64 h29
       refine br (nr (nr ?_))
       obtain rfl := sI h66
       exact re [.int .i64 (-1)]
     refine qk (bn (nt (qr (oN 3 [(5, vi (w64 (s24.1 + 1)))] [1, 0] ?_))))
     exact oe (ct h65 () [5, 1, 0] [] 0)
   refine qx (nx (nx (bh ?_)))
   have h67 := leafB hd33 h39 h29
   exact mp (s24.2, ()) h67 [1] [] 0
 have h36 := (congrFun hk31 _).symm.trans h36p
 refine nt (qs (qr (oN 2 [(4, vi y35.1)] [] ?_)))
 refine oe (nt (qe ?_))
 obtain rfl := sI h36
 exact re [.int .i64 y35.1]

theorem c_laws_toFrac {W : World} {x0 : Frac} {r : Frac} (h : laws_toFrac x0 = some r)  :
    Gives0 Tryz.prog 186 #[vFrac x0] W (vFrac r) := by
 unfold laws_toFrac at h
 refine en Tryz.func186 Tryz.ntmps186 ?_
 refine qs (qr (oB 2 [(2, .p 1 0), (1, .p 0 0)] [] [(179, (eFrac x0)), (118, (eFrac (Frac.mk 0 0)))] ?_))
 refine oe (nt (qs (qr (oB 1 [(3, .p 2 0)] [2, 1] [(179, (eFrac x0)), (118, (eFrac (Frac.mk 0 0))), (118, (eFrac (Frac.mk 0 0)))] ?_))))
 refine oe (nt (qs (qr (oB 4 [] [3, 2, 1] [(179, (eFrac x0)), (118, (eFrac (Frac.mk 0 0))), (118, (eFrac (Frac.mk x0.Num 0)))] ?_))))
 refine oe (nt (qs (qr (oB 4 [] [3, 2] [(179, (eFrac x0)), (118, (eFrac (Frac.mk 0 0))), (118, (eFrac x0))] ?_))))
 refine oe (nt (qs (qr (oB 2 [] [2] [(179, (eFrac x0)), (118, (eFrac x0)), (118, (eFrac x0))] ?_))))
 refine oe (nt (qe ?_))
 obtain rfl := sI h
 exact re [vFrac x0]

theorem c_laws_toNode {W : World} {x0 : Node} {r : Node} (h : laws_toNode x0 = some r)  :
    Gives0 Tryz.prog 136 #[vNode x0] W (vNode r) := by
 unfold laws_toNode at h
 refine en Tryz.func136 Tryz.ntmps136 ?_
 refine qs (qr (oB 2 [(2, .p 1 0), (1, .p 0 0)] [] [(181, (eNode x0)), (120, (eNode (Node.mk 0 0 0 0 (Frac.mk 0 0))))] ?_))
 refine oe (nt (qs (qr (oB 1 [(3, .p 2 0)] [2, 1] [(181, (eNode x0)), (120, (eNode (Node.mk 0 0 0 0 (Frac.mk 0 0)))), (120, (eNode (Node.mk 0 0 0 0 (Frac.mk 0 0))))] ?_))))
 refine oe (nt (qs (qr (oB 4 [] [3, 2, 1] [(181, (eNode x0)), (120, (eNode (Node.mk 0 0 0 0 (Frac.mk 0 0)))), (120, (eNode (Node.mk x0.Kind 0 0 0 (Frac.mk 0 0))))] ?_))))
 refine oe (nt (qs (qr (oB 4 [] [3, 2, 1] [(181, (eNode x0)), (120, (eNode (Node.mk 0 0 0 0 (Frac.mk 0 0)))), (120, (eNode (Node.mk x0.Kind x0.A 0 0 (Frac.mk 0 0))))] ?_))))
 refine oe (nt (qs (qr (oB 4 [] [3, 2, 1] [(181, (eNode x0)), (120, (eNode (Node.mk 0 0 0 0 (Frac.mk 0 0)))), (120, (eNode (Node.mk x0.Kind x0.A x0.B 0 (Frac.mk 0 0))))] ?_))))
 refine oe (nt (qs (qr (oB 4 [] [3, 2, 1] [(181, (eNode x0)), (120, (eNode (Node.mk 0 0 0 0 (Frac.mk 0 0)))), (120, (eNode (Node.mk x0.Kind x0.A x0.B x0.C (Frac.mk 0 0))))] ?_))))
 refine oe (nt (qs (qr (oN 2 [(17, .v (vFrac x0.Value))] [3, 2] ?_))))
 obtain ⟨t21, h22, h23⟩ := bS h
 refine k0 (fun γ w hs => c_laws_toFrac h22) ?_
 refine oB 2 [] [3, 2] [(181, (eNode x0)), (120, (eNode (Node.mk 0 0 0 0 (Frac.mk 0 0)))), (120, (eNode (Node.mk x0.Kind x0.A x0.B x0.C t21)))] ?_
 refine oe (nt (qs (qr (oB 2 [] [2] [(181, (eNode x0)), (120, (eNode (Node.mk x0.Kind x0.A x0.B x0.C t21))), (120, (eNode (Node.mk x0.Kind x0.A x0.B x0.C t21)))] ?_))))
 refine oe (nt (qe ?_))
 obtain rfl := sI h23
 exact re [vNode (Node.mk x0.Kind x0.A x0.B x0.C t21)]

theorem c_laws_toNodeS {W : World} {x0 : List Node} {a0_0 : Option Addr} {c0_0 : Nat} {r : (List Node)} (h : laws_toNodeS x0 = some r) (hv0_0 : SlView W x0 a0_0 c0_0) :
    Gives Tryz.prog 84 #[.slice a0_0 x0.length c0_0] W (fun y : AC => .slice y.1 r.length y.2) (fun y => [SlRes 120 r y.1 y.2]) := by
 unfold laws_toNodeS at h
 refine en Tryz.func84 Tryz.ntmps84 ?_
 refine qs (qr (oN 1 [] [0] ?_))
 refine oe (nt (qs (qr (oN 2 [(6, vi (x0.length : Int))] [0] ?_))))
 obtain ⟨l22, hm23, h24⟩ := bS h
 refine JO_make (α := Node) rfl (by kernel_rfl) (t := 67) (e := 120) (m := (x0.length : Int)) (by kernel_rfl) (i := Tryz.t120) (by kernel_rfl) (z := (vNode (Node.mk 0 0 0 0 (Frac.mk 0 0)))) (by kernel_rfl) (by kernel_rfl) (by kernel_rfl) (by kernel_rfl) (fun w => ⟨rfl, rfl⟩) hm23 _ (fun _ => rfl) (fun y21 => ?_)
 refine oN 1 [(3, .v (.slice y21.1 l22.length y21.2))] [0] ?_
 refine oe (nt (qs (qs (qr (oN 1 [(4, vi 0)] [3, 0] ?_)))))
 refine oe (nt ?_)
 obtain ⟨r28, hL29, h30⟩ := bS h24
 obtain ⟨k31, hk32, h30⟩ := brkS h30
 refine JC_cutP (τ := ((List Node)) × (Unit)) (fun y => k31 y.1 = some r) (fun y36 => [(3, .v (.slice y21.1 y36.1.length y21.2))]) (fun y36 => []) (fun y36 => [SlRes 120 y36.1 y21.1 y21.2]) ?_ (fun y36 h37p => ?_)
 · refine qb (lp Unit hL29 (fun s25 y26 => [(4, vi s25.1), (3, .v (.slice y21.1 s25.2.length y21.2)), (0, .v (.slice a0_0 x0.length c0_0))]) (fun s25 y26 => []) (fun s25 y26 => [SlRes 120 s25.2 y21.1 y21.2]) () [4, 3, 0] [0] 0 (fun s25 y26 t27 h33 hd34 => ?_))
   refine qs (qs (qr (oN 4 [(11, vb (decide (s25.1 < (x0.length : Int))))] [4, 3, 0] ?_)))
   refine oe (nt (cC h33 (fun h39 => ?_) (fun h40 => ?_)))
   · refine qk (nt (qs (qb (qr (oN 4 [(17, vi s25.1), (16, .v (.slice a0_0 x0.length c0_0)), (15, vi s25.1), (14, .v (.slice y21.1 s25.2.length y21.2))] [4, 3, 0] ?_)))))
     obtain ⟨x41, hx42, h43⟩ := bS h39
     refine oi 6 (fun γ w hs => (hv0_0.kept hs.kept)) hx42 ?_
     refine ol 181 0 (vNode x41) (fun γ w hs => (hv0_0.kept hs.kept).flatq hx42) ?_
     obtain ⟨t44, h45, h46⟩ := bS h43
     refine k0 (fun γ w hs => c_laws_toNode h45) ?_
     obtain ⟨x48, hx49, h50⟩ := bS h46
     refine oi 6 (fun γ w hs => (hs.view 0 rfl)) hx49 ?_
     obtain ⟨l51, hm52, h53⟩ := bS h50
     replace hm52 := (sI hm52).symm
     refine JO_storeq (α := Node) (d := y21.1) (vs := [.int .i64 t44.Kind, .int .i64 t44.A, .int .i64 t44.B, .int .i64 t44.C, .int .i64 t44.Value.Num, .int .i64 t44.Value.Den]) (j := s25.1) (x' := t44) rfl (by kernel_rfl) 0 (by kernel_rfl) hx49 (Rc := []) (Rr := []) rfl (by kernel_rfl) (fun w c F Fs ho _ _ => own_flat_set (by kernel_rfl) ho) hm52 rfl ?_
     have hl54 := len_set hm52
     refine JO_keep [20, 19, 18, 17, 16, 15, 14, 4, 3, 0] (sl' := [(20, .v (vNode t44)), (19, .v (vNode x41)), (18, .q a0_0 (Int.toNat s25.1 * 6)), (17, vi s25.1), (16, .v (.slice a0_0 x0.length c0_0)), (15, vi s25.1), (14, .v (.slice y21.1 s25.2.length y21.2)), (4, vi s25.1), (3, .v (.slice y21.1 s25.2.length y21.2)), (0, .v (.slice a0_0 x0.length c0_0))]) (by kernel_rfl) ?_
     refine JO_eqE (sl' := [(20, .v (vNode t44)), (19, .v (vNode x41)), (18, .q a0_0 (Int.toNat s25.1 * 6)), (17, vi s25.1), (16, .v (.slice a0_0 x0.length c0_0)), (15, vi s25.1), (14, .v (.slice y21.1 l51.length y21.2)), (4, vi s25.1), (3, .v (.slice y21.1 l51.length y21.2)), (0, .v (.slice a0_0 x0.length c0_0))]) (bx' := []) (by simp only [eNode, vNode, hl54]) rfl ?_
     refine oe (bn (nt (qr (oN 3 [(4, vi (w64 (s25.1 + 1)))] [3, 0] ?_))))
     exact oe (ct h53 () [4, 3, 0] [0] 0)
   refine qx (nx (nx (bh ?_)))
   have h55 := leafB hd34 h40 h30
   exact mp (s25.2, ()) h55 [3] [0] 0
 have h37 := (congrFun hk32 _).symm.trans h37p
 refine nt (qs (qr (oN 2 [(2, .v (.slice y21.1 y36.1.length y21.2))] [] ?_)))
 refine oe (nt (qe (rt [.slice y21.1 y36.1.length y21.2] (fun γ w hs => ?_))))
 rw [← sI h37]
 exact ⟨y21, rfl, hs.kept.toBelow, (hs.takeR (is := [0]) rfl).fresh⟩

theorem c_laws_toRule {W : World} {x0 : Rule} {a0_0 : Option Addr} {c0_0 : Nat} {r : Rule} (h : laws_toRule x0 = some r) (hv0_0 : SlView W x0.Nodes a0_0 c0_0) :
    Gives Tryz.prog 25 #[vRule x0 (a0_0, c0_0)] W (fun y : AC => vRule r y) (fun y => [SlRes 120 r.Nodes y.1 y.2]) := by
 unfold laws_toRule at h
 refine en Tryz.func25 Tryz.ntmps25 ?_
 refine qs (qr (oB 2 [(2, .p 1 0), (1, .p 0 0)] [] [(63, (eRule x0 (a0_0, c0_0))), (69, (eRule (Rule.mk 0 0 0 0 0 0 ([] : List Node)) (none, 0)))] ?_))
 refine oe (nt (qs (qr (oB 1 [(3, .p 2 0)] [2, 1] [(63, (eRule x0 (a0_0, c0_0))), (69, (eRule (Rule.mk 0 0 0 0 0 0 ([] : List Node)) (none, 0))), (69, (eRule (Rule.mk 0 0 0 0 0 0 ([] : List Node)) (none, 0)))] ?_))))
 refine oe (nt (qs (qr (oB 4 [] [3, 2, 1] [(63, (eRule x0 (a0_0, c0_0))), (69, (eRule (Rule.mk 0 0 0 0 0 0 ([] : List Node)) (none, 0))), (69, (eRule (Rule.mk x0.Name 0 0 0 0 0 ([] : List Node)) (none, 0)))] ?_))))
 refine oe (nt (qs (qr (oB 4 [] [3, 2, 1] [(63, (eRule x0 (a0_0, c0_0))), (69, (eRule (Rule.mk 0 0 0 0 0 0 ([] : List Node)) (none, 0))), (69, (eRule (Rule.mk x0.Name x0.From 0 0 0 0 ([] : List Node)) (none, 0)))] ?_))))
 refine oe (nt (qs (qr (oB 4 [] [3, 2, 1] [(63, (eRule x0 (a0_0, c0_0))), (69, (eRule (Rule.mk 0 0 0 0 0 0 ([] : List Node)) (none, 0))), (69, (eRule (Rule.mk x0.Name x0.From x0.To 0 0 0 ([] : List Node)) (none, 0)))] ?_))))
 refine oe (nt (qs (qr (oB 4 [] [3, 2, 1] [(63, (eRule x0 (a0_0, c0_0))), (69, (eRule (Rule.mk 0 0 0 0 0 0 ([] : List Node)) (none, 0))), (69, (eRule (Rule.mk x0.Name x0.From x0.To x0.Joined 0 0 ([] : List Node)) (none, 0)))] ?_))))
 refine oe (nt (qs (qr (oB 4 [] [3, 2, 1] [(63, (eRule x0 (a0_0, c0_0))), (69, (eRule (Rule.mk 0 0 0 0 0 0 ([] : List Node)) (none, 0))), (69, (eRule (Rule.mk x0.Name x0.From x0.To x0.Joined x0.Rank 0 ([] : List Node)) (none, 0)))] ?_))))
 refine oe (nt (qs (qr (oB 4 [] [3, 2, 1] [(63, (eRule x0 (a0_0, c0_0))), (69, (eRule (Rule.mk 0 0 0 0 0 0 ([] : List Node)) (none, 0))), (69, (eRule (Rule.mk x0.Name x0.From x0.To x0.Joined x0.Rank x0.Mode ([] : List Node)) (none, 0)))] ?_))))
 refine oe (nt (qs (qr (oN 2 [(23, .v (.slice a0_0 x0.Nodes.length c0_0))] [3, 2] ?_))))
 obtain ⟨t21, h22, h23⟩ := bS h
 refine k1 (fun γ w hs => c_laws_toNodeS h22 (hv0_0.kept hs.kept)) (fun y24 => ?_)
 refine oB 2 [] [3, 2] [(63, (eRule x0 (a0_0, c0_0))), (69, (eRule (Rule.mk 0 0 0 0 0 0 ([] : List Node)) (none, 0))), (69, (eRule (Rule.mk x0.Name x0.From x0.To x0.Joined x0.Rank x0.Mode t21) y24))] ?_
 refine oe (nt (qs (qr (oB 2 [] [2] [(63, (eRule x0 (a0_0, c0_0))), (69, (eRule (Rule.mk x0.Name x0.From x0.To x0.Joined x0.Rank x0.Mode t21) y24)), (69, (eRule (Rule.mk x0.Name x0.From x0.To x0.Joined x0.Rank x0.Mode t21) y24))] ?_))))
 refine oe (nt (qe (rt [vRule (Rule.mk x0.Name x0.From x0.To x0.Joined x0.Rank x0.Mode t21) y24] (fun γ w hs => ?_))))
 rw [← sI h23]
 exact ⟨y24, rfl, hs.kept.toBelow, (hs.takeR (is := [0]) rfl).fresh⟩

theorem c_laws_toRuleS {W : World} {x0 : List Rule} {a0_0 : Option Addr} {c0_0 : Nat} {r : (List Rule)} (h : laws_toRuleS x0 = some r) (hv0_0 : SlView W x0 a0_0 c0_0) :
    Gives Tryz.prog 115 #[.slice a0_0 x0.length c0_0] W (fun y : AC => .slice y.1 r.length y.2) (fun y => [SlRes 69 r y.1 y.2]) := by
 unfold laws_toRuleS at h
 refine en Tryz.func115 Tryz.ntmps115 ?_
 refine qs (qr (oN 1 [] [0] ?_))
 refine oe (nt (qs (qr (oN 2 [(6, vi (x0.length : Int))] [0] ?_))))
 obtain ⟨l22, hm23, h24⟩ := bS h
 refine JO_make (α := Rule) rfl (by kernel_rfl) (t := 40) (e := 69) (m := (x0.length : Int)) (by kernel_rfl) (i := Tryz.t69) (by kernel_rfl) (z := (vRule (Rule.mk 0 0 0 0 0 0 ([] : List Node)) (none, 0))) (by kernel_rfl) (by kernel_rfl) (by kernel_rfl) (by kernel_rfl) (fun w => ⟨0, none, 0, [], rfl, rfl, .inl ⟨rfl, rfl, rfl⟩⟩) hm23 _ (fun _ => rfl) (fun y21 => ?_)
 refine oN 1 [(3, .v (.slice y21.1 l22.length y21.2))] [0] ?_
 refine oe (nt (qs (qs (qr (oN 1 [(4, vi 0)] [3, 0] ?_)))))
 refine oe (nt ?_)
 obtain ⟨r28, hL29, h30⟩ := bS h24
 obtain ⟨k31, hk32, h30⟩ := brkS h30
 refine JC_cutP (τ := ((List Rule)) × (Unit)) (fun y => k31 y.1 = some r) (fun y36 => [(3, .v (.slice y21.1 y36.1.length y21.2))]) (fun y36 => []) (fun y36 => [SlRes 69 y36.1 y21.1 y21.2]) ?_ (fun y36 h37p => ?_)
 · refine qb (lp Unit hL29 (fun s25 y26 => [(4, vi s25.1), (3, .v (.slice y21.1 s25.2.length y21.2)), (0, .v (.slice a0_0 x0.length c0_0))]) (fun s25 y26 => []) (fun s25 y26 => [SlRes 69 s25.2 y21.1 y21.2]) () [4, 3, 0] [0] 0 (fun s25 y26 t27 h33 hd34 => ?_))
   refine qs (qs (qr (oN 4 [(11, vb (decide (s25.1 < (x0.length : Int))))] [4, 3, 0] ?_)))
   refine oe (nt (cC h33 (fun h39 => ?_) (fun h40 => ?_)))
   · refine qk (nt (qs (qb (qr (oN 4 [(17, vi s25.1), (16, .v (.slice a0_0 x0.length c0_0)), (15, vi s25.1), (14, .v (.slice y21.1 s25.2.length y21.2))] [4, 3, 0] ?_)))))
     obtain ⟨x41, hx42, h43⟩ := bS h39
     refine oi 7 (fun γ w hs => (hv0_0.kept hs.kept)) hx42 ?_
     obtain ⟨_, ⟨a44, c45, rfl, hv46⟩, hc47⟩ := SlView.at hv0_0 (idx_some hx42).2.2
     refine ol 63 0 (vRule x41 (a44, c45)) (fun γ w hs => ⟨(hv0_0.kept hs.kept).ne (idx_some hx42).2.2, hc47.kept hs.kept⟩) ?_
     obtain ⟨t48, h49, h50⟩ := bS h43
     refine k1 (fun γ w hs => c_laws_toRule h49 (hv46.kept hs.kept)) (fun y51 => ?_)
     obtain ⟨x52, hx53, h54⟩ := bS h50
     refine oi 7 (fun γ w hs => (hs.view 1 rfl)) hx53 ?_
     obtain ⟨l55, hm56, h57⟩ := bS h54
     replace hm56 := (sI hm56).symm
     refine JO_storeq (α := Rule) (d := y21.1) (vs := [.int .i64 t48.Name, .int .i64 t48.From, .int .i64 t48.To, .int .i64 t48.Joined, .int .i64 t48.Rank, .int .i64 t48.Mode, .slice y51.1 t48.Nodes.length y51.2]) (j := s25.1) (x' := t48) rfl (by kernel_rfl) 0 (by kernel_rfl) hx53 (Rc := [SlRes 120 t48.Nodes y51.1 y51.2]) (Rr := []) rfl (by kernel_rfl) (own_full rfl (by rintro w Fs ⟨G0, _, rfl, h0, rfl⟩; exact ⟨120, y51.1, y51.2, G0, by simp, rfl, h0⟩)) hm56 rfl ?_
     have hl58 := len_set hm56
     refine JO_keep [20, 19, 18, 17, 16, 15, 14, 4, 3, 0] (sl' := [(20, .v (vRule t48 y51)), (19, .v (vRule x41 (a44, c45))), (18, .q a0_0 (Int.toNat s25.1 * 7)), (17, vi s25.1), (16, .v (.slice a0_0 x0.length c0_0)), (15, vi s25.1), (14, .v (.slice y21.1 s25.2.length y21.2)), (4, vi s25.1), (3, .v (.slice y21.1 s25.2.length y21.2)), (0, .v (.slice a0_0 x0.length c0_0))]) (by kernel_rfl) ?_
     refine JO_eqE (sl' := [(20, .v (vRule t48 y51)), (19, .v (vRule x41 (a44, c45))), (18, .q a0_0 (Int.toNat s25.1 * 7)), (17, vi s25.1), (16, .v (.slice a0_0 x0.length c0_0)), (15, vi s25.1), (14, .v (.slice y21.1 l55.length y21.2)), (4, vi s25.1), (3, .v (.slice y21.1 l55.length y21.2)), (0, .v (.slice a0_0 x0.length c0_0))]) (bx' := []) (by simp only [eRule, vRule, hl58]) rfl ?_
     refine oe (bn (nt (qr (oN 3 [(4, vi (w64 (s25.1 + 1)))] [3, 0] ?_))))
     exact oe (ct h57 () [4, 3, 0] [0] 0)
   refine qx (nx (nx (bh ?_)))
   have h59 := leafB hd34 h40 h30
   exact mp (s25.2, ()) h59 [3] [0] 0
 have h37 := (congrFun hk32 _).symm.trans h37p
 refine nt (qs (qr (oN 2 [(2, .v (.slice y21.1 y36.1.length y21.2))] [] ?_)))
 refine oe (nt (qe (rt [.slice y21.1 y36.1.length y21.2] (fun γ w hs => ?_))))
 rw [← sI h37]
 exact ⟨y21, rfl, hs.kept.toBelow, (hs.takeR (is := [0]) rfl).fresh⟩

theorem c_laws_toBook {W : World} {x0 : Book} {a0_0 : Option Addr} {c0_0 : Nat} {r : Book} (h : laws_toBook x0 = some r) (hv0_0 : SlView W x0.Rules a0_0 c0_0) :
    Gives Tryz.prog 68 #[vBook x0 (a0_0, c0_0)] W (fun y : AC => vBook r y) (fun y => [SlRes 69 r.Rules y.1 y.2]) := by
 unfold laws_toBook at h
 refine en Tryz.func68 Tryz.ntmps68 ?_
 refine qs (qr (oB 2 [(2, .p 1 0), (1, .p 0 0)] [] [(24, (eBook x0 (a0_0, c0_0))), (42, [.slice none 0 0])] ?_))
 refine oe (nt (qs (qr (oB 1 [(3, .p 2 0)] [2, 1] [(24, (eBook x0 (a0_0, c0_0))), (42, [.slice none 0 0]), (42, [.slice none 0 0])] ?_))))
 refine oe (nt (qs (qr (oN 2 [(5, .v (.slice a0_0 x0.Rules.length c0_0))] [3, 2] ?_))))
 obtain ⟨t21, h22, h23⟩ := bS h
 refine k1 (fun γ w hs => c_laws_toRuleS h22 (hv0_0.kept hs.kept)) (fun y24 => ?_)
 refine oB 2 [] [3, 2] [(24, (eBook x0 (a0_0, c0_0))), (42, [.slice none 0 0]), (42, (eBook (Book.mk t21) y24))] ?_
 refine oe (nt (qs (qr (oB 2 [] [2] [(24, (eBook x0 (a0_0, c0_0))), (42, (eBook (Book.mk t21) y24)), (42, (eBook (Book.mk t21) y24))] ?_))))
 refine oe (nt (qe (rt [vBook (Book.mk t21) y24] (fun γ w hs => ?_))))
 rw [← sI h23]
 exact ⟨y24, rfl, hs.kept.toBelow, (hs.takeR (is := [0]) rfl).fresh⟩

theorem c_laws_toFact {W : World} {x0 : Fact} {r : Fact} (h : laws_toFact x0 = some r)  :
    Gives0 Tryz.prog 176 #[vFact x0] W (vFact r) := by
 unfold laws_toFact at h
 refine en Tryz.func176 Tryz.ntmps176 ?_
 refine qs (qr (oB 2 [(2, .p 1 0), (1, .p 0 0)] [] [(205, (eFact x0)), (203, (eFact (Fact.mk 0 0 0 0 0)))] ?_))
 refine oe (nt (qs (qr (oB 1 [(3, .p 2 0)] [2, 1] [(205, (eFact x0)), (203, (eFact (Fact.mk 0 0 0 0 0))), (203, (eFact (Fact.mk 0 0 0 0 0)))] ?_))))
 refine oe (nt (qs (qr (oB 4 [] [3, 2, 1] [(205, (eFact x0)), (203, (eFact (Fact.mk 0 0 0 0 0))), (203, (eFact (Fact.mk x0.Key 0 0 0 0)))] ?_))))
 refine oe (nt (qs (qr (oB 4 [] [3, 2, 1] [(205, (eFact x0)), (203, (eFact (Fact.mk 0 0 0 0 0))), (203, (eFact (Fact.mk x0.Key x0.From 0 0 0)))] ?_))))
 refine oe (nt (qs (qr (oB 4 [] [3, 2, 1] [(205, (eFact x0)), (203, (eFact (Fact.mk 0 0 0 0 0))), (203, (eFact (Fact.mk x0.Key x0.From x0.To 0 0)))] ?_))))
 refine oe (nt (qs (qr (oB 4 [] [3, 2, 1] [(205, (eFact x0)), (203, (eFact (Fact.mk 0 0 0 0 0))), (203, (eFact (Fact.mk x0.Key x0.From x0.To x0.Known 0)))] ?_))))
 refine oe (nt (qs (qr (oB 4 [] [3, 2] [(205, (eFact x0)), (203, (eFact (Fact.mk 0 0 0 0 0))), (203, (eFact x0))] ?_))))
 refine oe (nt (qs (qr (oB 2 [] [2] [(205, (eFact x0)), (203, (eFact x0)), (203, (eFact x0))] ?_))))
 refine oe (nt (qe ?_))
 obtain rfl := sI h
 exact re [vFact x0]

theorem c_laws_toFactS {W : World} {x0 : List Fact} {a0_0 : Option Addr} {c0_0 : Nat} {r : (List Fact)} (h : laws_toFactS x0 = some r) (hv0_0 : SlView W x0 a0_0 c0_0) :
    Gives Tryz.prog 116 #[.slice a0_0 x0.length c0_0] W (fun y : AC => .slice y.1 r.length y.2) (fun y => [SlRes 203 r y.1 y.2]) := by
 unfold laws_toFactS at h
 refine en Tryz.func116 Tryz.ntmps116 ?_
 refine qs (qr (oN 1 [] [0] ?_))
 refine oe (nt (qs (qr (oN 2 [(6, vi (x0.length : Int))] [0] ?_))))
 obtain ⟨l22, hm23, h24⟩ := bS h
 refine JO_make (α := Fact) rfl (by kernel_rfl) (t := 43) (e := 203) (m := (x0.length : Int)) (by kernel_rfl) (i := Tryz.t203) (by kernel_rfl) (z := (vFact (Fact.mk 0 0 0 0 0))) (by kernel_rfl) (by kernel_rfl) (by kernel_rfl) (by kernel_rfl) (fun w => ⟨rfl, rfl⟩) hm23 _ (fun _ => rfl) (fun y21 => ?_)
 refine oN 1 [(3, .v (.slice y21.1 l22.length y21.2))] [0] ?_
 refine oe (nt (qs (qs (qr (oN 1 [(4, vi 0)] [3, 0] ?_)))))
 refine oe (nt ?_)
 obtain ⟨r28, hL29, h30⟩ := bS h24
 obtain ⟨k31, hk32, h30⟩ := brkS h30
 refine JC_cutP (τ := ((List Fact)) × (Unit)) (fun y => k31 y.1 = some r) (fun y36 => [(3, .v (.slice y21.1 y36.1.length y21.2))]) (fun y36 => []) (fun y36 => [SlRes 203 y36.1 y21.1 y21.2]) ?_ (fun y36 h37p => ?_)
 · refine qb (lp Unit hL29 (fun s25 y26 => [(4, vi s25.1), (3, .v (.slice y21.1 s25.2.length y21.2)), (0, .v (.slice a0_0 x0.length c0_0))]) (fun s25 y26 => []) (fun s25 y26 => [SlRes 203 s25.2 y21.1 y21.2]) () [4, 3, 0] [0] 0 (fun s25 y26 t27 h33 hd34 => ?_))
   refine qs (qs (qr (oN 4 [(11, vb (decide (s25.1 < (x0.length : Int))))] [4, 3, 0] ?_)))
   refine oe (nt (cC h33 (fun h39 => ?_) (fun h40 => ?_)))
   · refine qk (nt (qs (qb (qr (oN 4 [(17, vi s25.1), (16, .v (.slice a0_0 x0.length c0_0)), (15, vi s25.1), (14, .v (.slice y21.1 s25.2.length y21.2))] [4, 3, 0] ?_)))))
     obtain ⟨x41, hx42, h43⟩ := bS h39
     refine oi 5 (fun γ w hs => (hv0_0.kept hs.kept)) hx42 ?_
     refine ol 205 0 (vFact x41) (fun γ w hs => (hv0_0.kept hs.kept).flatq hx42) ?_
     obtain ⟨t44, h45, h46⟩ := bS h43
     refine k0 (fun γ w hs => c_laws_toFact h45) ?_
     obtain ⟨x48, hx49, h50⟩ := bS h46
     refine oi 5 (fun γ w hs => (hs.view 0 rfl)) hx49 ?_
     obtain ⟨l51, hm52, h53⟩ := bS h50
     replace hm52 := (sI hm52).symm
     refine JO_storeq (α := Fact) (d := y21.1) (vs := [.int .i64 t44.Key, .int .i64 t44.From, .int .i64 t44.To, .int .i64 t44.Known, .int .i64 t44.Value]) (j := s25.1) (x' := t44) rfl (by kernel_rfl) 0 (by kernel_rfl) hx49 (Rc := []) (Rr := []) rfl (by kernel_rfl) (fun w c F Fs ho _ _ => own_flat_set (by kernel_rfl) ho) hm52 rfl ?_
     have hl54 := len_set hm52
     refine JO_keep [20, 19, 18, 17, 16, 15, 14, 4, 3, 0] (sl' := [(20, .v (vFact t44)), (19, .v (vFact x41)), (18, .q a0_0 (Int.toNat s25.1 * 5)), (17, vi s25.1), (16, .v (.slice a0_0 x0.length c0_0)), (15, vi s25.1), (14, .v (.slice y21.1 s25.2.length y21.2)), (4, vi s25.1), (3, .v (.slice y21.1 s25.2.length y21.2)), (0, .v (.slice a0_0 x0.length c0_0))]) (by kernel_rfl) ?_
     refine JO_eqE (sl' := [(20, .v (vFact t44)), (19, .v (vFact x41)), (18, .q a0_0 (Int.toNat s25.1 * 5)), (17, vi s25.1), (16, .v (.slice a0_0 x0.length c0_0)), (15, vi s25.1), (14, .v (.slice y21.1 l51.length y21.2)), (4, vi s25.1), (3, .v (.slice y21.1 l51.length y21.2)), (0, .v (.slice a0_0 x0.length c0_0))]) (bx' := []) (by simp only [eFact, vFact, hl54]) rfl ?_
     refine oe (bn (nt (qr (oN 3 [(4, vi (w64 (s25.1 + 1)))] [3, 0] ?_))))
     exact oe (ct h53 () [4, 3, 0] [0] 0)
   refine qx (nx (nx (bh ?_)))
   have h55 := leafB hd34 h40 h30
   exact mp (s25.2, ()) h55 [3] [0] 0
 have h37 := (congrFun hk32 _).symm.trans h37p
 refine nt (qs (qr (oN 2 [(2, .v (.slice y21.1 y36.1.length y21.2))] [] ?_)))
 refine oe (nt (qe (rt [.slice y21.1 y36.1.length y21.2] (fun γ w hs => ?_))))
 rw [← sI h37]
 exact ⟨y21, rfl, hs.kept.toBelow, (hs.takeR (is := [0]) rfl).fresh⟩

theorem c_laws_toStore {W : World} {x0 : Store} {a0_0 : Option Addr} {c0_0 : Nat} {r : Store} (h : laws_toStore x0 = some r) (hv0_0 : SlView W x0.Facts a0_0 c0_0) :
    Gives Tryz.prog 69 #[vStore x0 (a0_0, c0_0)] W (fun y : AC => vStore r y) (fun y => [SlRes 203 r.Facts y.1 y.2]) := by
 unfold laws_toStore at h
 refine en Tryz.func69 Tryz.ntmps69 ?_
 refine qs (qr (oB 2 [(2, .p 1 0), (1, .p 0 0)] [] [(27, (eStore x0 (a0_0, c0_0))), (45, [.slice none 0 0])] ?_))
 refine oe (nt (qs (qr (oB 1 [(3, .p 2 0)] [2, 1] [(27, (eStore x0 (a0_0, c0_0))), (45, [.slice none 0 0]), (45, [.slice none 0 0])] ?_))))
 refine oe (nt (qs (qr (oN 2 [(5, .v (.slice a0_0 x0.Facts.length c0_0))] [3, 2] ?_))))
 obtain ⟨t21, h22, h23⟩ := bS h
 refine k1 (fun γ w hs => c_laws_toFactS h22 (hv0_0.kept hs.kept)) (fun y24 => ?_)
 refine oB 2 [] [3, 2] [(27, (eStore x0 (a0_0, c0_0))), (45, [.slice none 0 0]), (45, (eStore (Store.mk t21) y24))] ?_
 refine oe (nt (qs (qr (oB 2 [] [2] [(27, (eStore x0 (a0_0, c0_0))), (45, (eStore (Store.mk t21) y24)), (45, (eStore (Store.mk t21) y24))] ?_))))
 refine oe (nt (qe (rt [vStore (Store.mk t21) y24] (fun γ w hs => ?_))))
 rw [← sI h23]
 exact ⟨y24, rfl, hs.kept.toBelow, (hs.takeR (is := [0]) rfl).fresh⟩

theorem c_laws_toPoint {W : World} {x0 : Point} {r : Point} (h : laws_toPoint x0 = some r)  :
    Gives0 Tryz.prog 177 #[vPoint x0] W (vPoint r) := by
 unfold laws_toPoint at h
 refine en Tryz.func177 Tryz.ntmps177 ?_
 refine qs (qr (oB 2 [(2, .p 1 0), (1, .p 0 0)] [] [(209, (ePoint x0)), (207, (ePoint (Point.mk 0 0 0)))] ?_))
 refine oe (nt (qs (qr (oB 1 [(3, .p 2 0)] [2, 1] [(209, (ePoint x0)), (207, (ePoint (Point.mk 0 0 0))), (207, (ePoint (Point.mk 0 0 0)))] ?_))))
 refine oe (nt (qs (qr (oB 4 [] [3, 2, 1] [(209, (ePoint x0)), (207, (ePoint (Point.mk 0 0 0))), (207, (ePoint (Point.mk x0.Month 0 0)))] ?_))))
 refine oe (nt (qs (qr (oB 4 [] [3, 2, 1] [(209, (ePoint x0)), (207, (ePoint (Point.mk 0 0 0))), (207, (ePoint (Point.mk x0.Month x0.Known 0)))] ?_))))
 refine oe (nt (qs (qr (oB 4 [] [3, 2] [(209, (ePoint x0)), (207, (ePoint (Point.mk 0 0 0))), (207, (ePoint x0))] ?_))))
 refine oe (nt (qs (qr (oB 2 [] [2] [(209, (ePoint x0)), (207, (ePoint x0)), (207, (ePoint x0))] ?_))))
 refine oe (nt (qe ?_))
 obtain rfl := sI h
 exact re [vPoint x0]

theorem c_laws_toPointS {W : World} {x0 : List Point} {a0_0 : Option Addr} {c0_0 : Nat} {r : (List Point)} (h : laws_toPointS x0 = some r) (hv0_0 : SlView W x0 a0_0 c0_0) :
    Gives Tryz.prog 117 #[.slice a0_0 x0.length c0_0] W (fun y : AC => .slice y.1 r.length y.2) (fun y => [SlRes 207 r y.1 y.2]) := by
 unfold laws_toPointS at h
 refine en Tryz.func117 Tryz.ntmps117 ?_
 refine qs (qr (oN 1 [] [0] ?_))
 refine oe (nt (qs (qr (oN 2 [(6, vi (x0.length : Int))] [0] ?_))))
 obtain ⟨l22, hm23, h24⟩ := bS h
 refine JO_make (α := Point) rfl (by kernel_rfl) (t := 46) (e := 207) (m := (x0.length : Int)) (by kernel_rfl) (i := Tryz.t207) (by kernel_rfl) (z := (vPoint (Point.mk 0 0 0))) (by kernel_rfl) (by kernel_rfl) (by kernel_rfl) (by kernel_rfl) (fun w => ⟨rfl, rfl⟩) hm23 _ (fun _ => rfl) (fun y21 => ?_)
 refine oN 1 [(3, .v (.slice y21.1 l22.length y21.2))] [0] ?_
 refine oe (nt (qs (qs (qr (oN 1 [(4, vi 0)] [3, 0] ?_)))))
 refine oe (nt ?_)
 obtain ⟨r28, hL29, h30⟩ := bS h24
 obtain ⟨k31, hk32, h30⟩ := brkS h30
 refine JC_cutP (τ := ((List Point)) × (Unit)) (fun y => k31 y.1 = some r) (fun y36 => [(3, .v (.slice y21.1 y36.1.length y21.2))]) (fun y36 => []) (fun y36 => [SlRes 207 y36.1 y21.1 y21.2]) ?_ (fun y36 h37p => ?_)
 · refine qb (lp Unit hL29 (fun s25 y26 => [(4, vi s25.1), (3, .v (.slice y21.1 s25.2.length y21.2)), (0, .v (.slice a0_0 x0.length c0_0))]) (fun s25 y26 => []) (fun s25 y26 => [SlRes 207 s25.2 y21.1 y21.2]) () [4, 3, 0] [0] 0 (fun s25 y26 t27 h33 hd34 => ?_))
   refine qs (qs (qr (oN 4 [(11, vb (decide (s25.1 < (x0.length : Int))))] [4, 3, 0] ?_)))
   refine oe (nt (cC h33 (fun h39 => ?_) (fun h40 => ?_)))
   · refine qk (nt (qs (qb (qr (oN 4 [(17, vi s25.1), (16, .v (.slice a0_0 x0.length c0_0)), (15, vi s25.1), (14, .v (.slice y21.1 s25.2.length y21.2))] [4, 3, 0] ?_)))))
     obtain ⟨x41, hx42, h43⟩ := bS h39
     refine oi 3 (fun γ w hs => (hv0_0.kept hs.kept)) hx42 ?_
     refine ol 209 0 (vPoint x41) (fun γ w hs => (hv0_0.kept hs.kept).flatq hx42) ?_
     obtain ⟨t44, h45, h46⟩ := bS h43
     refine k0 (fun γ w hs => c_laws_toPoint h45) ?_
     obtain ⟨x48, hx49, h50⟩ := bS h46
     refine oi 3 (fun γ w hs => (hs.view 0 rfl)) hx49 ?_
     obtain ⟨l51, hm52, h53⟩ := bS h50
     replace hm52 := (sI hm52).symm
     refine JO_storeq (α := Point) (d := y21.1) (vs := [.int .i64 t44.Month, .int .i64 t44.Known, .int .i64 t44.Value]) (j := s25.1) (x' := t44) rfl (by kernel_rfl) 0 (by kernel_rfl) hx49 (Rc := []) (Rr := []) rfl (by kernel_rfl) (fun w c F Fs ho _ _ => own_flat_set (by kernel_rfl) ho) hm52 rfl ?_
     have hl54 := len_set hm52
     refine JO_keep [20, 19, 18, 17, 16, 15, 14, 4, 3, 0] (sl' := [(20, .v (vPoint t44)), (19, .v (vPoint x41)), (18, .q a0_0 (Int.toNat s25.1 * 3)), (17, vi s25.1), (16, .v (.slice a0_0 x0.length c0_0)), (15, vi s25.1), (14, .v (.slice y21.1 s25.2.length y21.2)), (4, vi s25.1), (3, .v (.slice y21.1 s25.2.length y21.2)), (0, .v (.slice a0_0 x0.length c0_0))]) (by kernel_rfl) ?_
     refine JO_eqE (sl' := [(20, .v (vPoint t44)), (19, .v (vPoint x41)), (18, .q a0_0 (Int.toNat s25.1 * 3)), (17, vi s25.1), (16, .v (.slice a0_0 x0.length c0_0)), (15, vi s25.1), (14, .v (.slice y21.1 l51.length y21.2)), (4, vi s25.1), (3, .v (.slice y21.1 l51.length y21.2)), (0, .v (.slice a0_0 x0.length c0_0))]) (bx' := []) (by simp only [ePoint, vPoint, hl54]) rfl ?_
     refine oe (bn (nt (qr (oN 3 [(4, vi (w64 (s25.1 + 1)))] [3, 0] ?_))))
     exact oe (ct h53 () [4, 3, 0] [0] 0)
   refine qx (nx (nx (bh ?_)))
   have h55 := leafB hd34 h40 h30
   exact mp (s25.2, ()) h55 [3] [0] 0
 have h37 := (congrFun hk32 _).symm.trans h37p
 refine nt (qs (qr (oN 2 [(2, .v (.slice y21.1 y36.1.length y21.2))] [] ?_)))
 refine oe (nt (qe (rt [.slice y21.1 y36.1.length y21.2] (fun γ w hs => ?_))))
 rw [← sI h37]
 exact ⟨y21, rfl, hs.kept.toBelow, (hs.takeR (is := [0]) rfl).fresh⟩

theorem c_laws_toSeries {W : World} {x0 : Series} {a0_0 : Option Addr} {c0_0 : Nat} {r : Series} (h : laws_toSeries x0 = some r) (hv0_0 : SlView W x0.Points a0_0 c0_0) :
    Gives Tryz.prog 70 #[vSeries x0 (a0_0, c0_0)] W (fun y : AC => vSeries r y) (fun y => [SlRes 207 r.Points y.1 y.2]) := by
 unfold laws_toSeries at h
 refine en Tryz.func70 Tryz.ntmps70 ?_
 refine qs (qr (oB 2 [(2, .p 1 0), (1, .p 0 0)] [] [(30, (eSeries x0 (a0_0, c0_0))), (48, [.slice none 0 0])] ?_))
 refine oe (nt (qs (qr (oB 1 [(3, .p 2 0)] [2, 1] [(30, (eSeries x0 (a0_0, c0_0))), (48, [.slice none 0 0]), (48, [.slice none 0 0])] ?_))))
 refine oe (nt (qs (qr (oN 2 [(5, .v (.slice a0_0 x0.Points.length c0_0))] [3, 2] ?_))))
 obtain ⟨t21, h22, h23⟩ := bS h
 refine k1 (fun γ w hs => c_laws_toPointS h22 (hv0_0.kept hs.kept)) (fun y24 => ?_)
 refine oB 2 [] [3, 2] [(30, (eSeries x0 (a0_0, c0_0))), (48, [.slice none 0 0]), (48, (eSeries (Series.mk t21) y24))] ?_
 refine oe (nt (qs (qr (oB 2 [] [2] [(30, (eSeries x0 (a0_0, c0_0))), (48, (eSeries (Series.mk t21) y24)), (48, (eSeries (Series.mk t21) y24))] ?_))))
 refine oe (nt (qe (rt [vSeries (Series.mk t21) y24] (fun γ w hs => ?_))))
 rw [← sI h23]
 exact ⟨y24, rfl, hs.kept.toBelow, (hs.takeR (is := [0]) rfl).fresh⟩

theorem c_laws_toSpell {W : World} {x0 : Spell} {r : Spell} (h : laws_toSpell x0 = some r)  :
    Gives0 Tryz.prog 178 #[vSpell x0] W (vSpell r) := by
 unfold laws_toSpell at h
 refine en Tryz.func178 Tryz.ntmps178 ?_
 refine qs (qr (oB 2 [(2, .p 1 0), (1, .p 0 0)] [] [(213, (eSpell x0)), (211, (eSpell (Spell.mk 0 0 0 false)))] ?_))
 refine oe (nt (qs (qr (oB 1 [(3, .p 2 0)] [2, 1] [(213, (eSpell x0)), (211, (eSpell (Spell.mk 0 0 0 false))), (211, (eSpell (Spell.mk 0 0 0 false)))] ?_))))
 refine oe (nt (qs (qr (oB 4 [] [3, 2, 1] [(213, (eSpell x0)), (211, (eSpell (Spell.mk 0 0 0 false))), (211, (eSpell (Spell.mk x0.From 0 0 false)))] ?_))))
 refine oe (nt (qs (qr (oB 4 [] [3, 2, 1] [(213, (eSpell x0)), (211, (eSpell (Spell.mk 0 0 0 false))), (211, (eSpell (Spell.mk x0.From x0.To 0 false)))] ?_))))
 refine oe (nt (qs (qr (oB 4 [] [3, 2, 1] [(213, (eSpell x0)), (211, (eSpell (Spell.mk 0 0 0 false))), (211, (eSpell (Spell.mk x0.From x0.To x0.Percent false)))] ?_))))
 refine oe (nt (qs (qr (oB 4 [] [3, 2] [(213, (eSpell x0)), (211, (eSpell (Spell.mk 0 0 0 false))), (211, (eSpell x0))] ?_))))
 refine oe (nt (qs (qr (oB 2 [] [2] [(213, (eSpell x0)), (211, (eSpell x0)), (211, (eSpell x0))] ?_))))
 refine oe (nt (qe ?_))
 obtain rfl := sI h
 exact re [vSpell x0]

theorem c_laws_toSpellS {W : World} {x0 : List Spell} {a0_0 : Option Addr} {c0_0 : Nat} {r : (List Spell)} (h : laws_toSpellS x0 = some r) (hv0_0 : SlView W x0 a0_0 c0_0) :
    Gives Tryz.prog 118 #[.slice a0_0 x0.length c0_0] W (fun y : AC => .slice y.1 r.length y.2) (fun y => [SlRes 211 r y.1 y.2]) := by
 unfold laws_toSpellS at h
 refine en Tryz.func118 Tryz.ntmps118 ?_
 refine qs (qr (oN 1 [] [0] ?_))
 refine oe (nt (qs (qr (oN 2 [(6, vi (x0.length : Int))] [0] ?_))))
 obtain ⟨l22, hm23, h24⟩ := bS h
 refine JO_make (α := Spell) rfl (by kernel_rfl) (t := 49) (e := 211) (m := (x0.length : Int)) (by kernel_rfl) (i := Tryz.t211) (by kernel_rfl) (z := (vSpell (Spell.mk 0 0 0 false))) (by kernel_rfl) (by kernel_rfl) (by kernel_rfl) (by kernel_rfl) (fun w => ⟨rfl, rfl⟩) hm23 _ (fun _ => rfl) (fun y21 => ?_)
 refine oN 1 [(3, .v (.slice y21.1 l22.length y21.2))] [0] ?_
 refine oe (nt (qs (qs (qr (oN 1 [(4, vi 0)] [3, 0] ?_)))))
 refine oe (nt ?_)
 obtain ⟨r28, hL29, h30⟩ := bS h24
 obtain ⟨k31, hk32, h30⟩ := brkS h30
 refine JC_cutP (τ := ((List Spell)) × (Unit)) (fun y => k31 y.1 = some r) (fun y36 => [(3, .v (.slice y21.1 y36.1.length y21.2))]) (fun y36 => []) (fun y36 => [SlRes 211 y36.1 y21.1 y21.2]) ?_ (fun y36 h37p => ?_)
 · refine qb (lp Unit hL29 (fun s25 y26 => [(4, vi s25.1), (3, .v (.slice y21.1 s25.2.length y21.2)), (0, .v (.slice a0_0 x0.length c0_0))]) (fun s25 y26 => []) (fun s25 y26 => [SlRes 211 s25.2 y21.1 y21.2]) () [4, 3, 0] [0] 0 (fun s25 y26 t27 h33 hd34 => ?_))
   refine qs (qs (qr (oN 4 [(11, vb (decide (s25.1 < (x0.length : Int))))] [4, 3, 0] ?_)))
   refine oe (nt (cC h33 (fun h39 => ?_) (fun h40 => ?_)))
   · refine qk (nt (qs (qb (qr (oN 4 [(17, vi s25.1), (16, .v (.slice a0_0 x0.length c0_0)), (15, vi s25.1), (14, .v (.slice y21.1 s25.2.length y21.2))] [4, 3, 0] ?_)))))
     obtain ⟨x41, hx42, h43⟩ := bS h39
     refine oi 4 (fun γ w hs => (hv0_0.kept hs.kept)) hx42 ?_
     refine ol 213 0 (vSpell x41) (fun γ w hs => (hv0_0.kept hs.kept).flatq hx42) ?_
     obtain ⟨t44, h45, h46⟩ := bS h43
     refine k0 (fun γ w hs => c_laws_toSpell h45) ?_
     obtain ⟨x48, hx49, h50⟩ := bS h46
     refine oi 4 (fun γ w hs => (hs.view 0 rfl)) hx49 ?_
     obtain ⟨l51, hm52, h53⟩ := bS h50
     replace hm52 := (sI hm52).symm
     refine JO_storeq (α := Spell) (d := y21.1) (vs := [.int .i64 t44.From, .int .i64 t44.To, .int .i64 t44.Percent, .bool t44.Leave]) (j := s25.1) (x' := t44) rfl (by kernel_rfl) 0 (by kernel_rfl) hx49 (Rc := []) (Rr := []) rfl (by kernel_rfl) (fun w c F Fs ho _ _ => own_flat_set (by kernel_rfl) ho) hm52 rfl ?_
     have hl54 := len_set hm52
     refine JO_keep [20, 19, 18, 17, 16, 15, 14, 4, 3, 0] (sl' := [(20, .v (vSpell t44)), (19, .v (vSpell x41)), (18, .q a0_0 (Int.toNat s25.1 * 4)), (17, vi s25.1), (16, .v (.slice a0_0 x0.length c0_0)), (15, vi s25.1), (14, .v (.slice y21.1 s25.2.length y21.2)), (4, vi s25.1), (3, .v (.slice y21.1 s25.2.length y21.2)), (0, .v (.slice a0_0 x0.length c0_0))]) (by kernel_rfl) ?_
     refine JO_eqE (sl' := [(20, .v (vSpell t44)), (19, .v (vSpell x41)), (18, .q a0_0 (Int.toNat s25.1 * 4)), (17, vi s25.1), (16, .v (.slice a0_0 x0.length c0_0)), (15, vi s25.1), (14, .v (.slice y21.1 l51.length y21.2)), (4, vi s25.1), (3, .v (.slice y21.1 l51.length y21.2)), (0, .v (.slice a0_0 x0.length c0_0))]) (bx' := []) (by simp only [eSpell, vSpell, hl54]) rfl ?_
     refine oe (bn (nt (qr (oN 3 [(4, vi (w64 (s25.1 + 1)))] [3, 0] ?_))))
     exact oe (ct h53 () [4, 3, 0] [0] 0)
   refine qx (nx (nx (bh ?_)))
   have h55 := leafB hd34 h40 h30
   exact mp (s25.2, ()) h55 [3] [0] 0
 have h37 := (congrFun hk32 _).symm.trans h37p
 refine nt (qs (qr (oN 2 [(2, .v (.slice y21.1 y36.1.length y21.2))] [] ?_)))
 refine oe (nt (qe (rt [.slice y21.1 y36.1.length y21.2] (fun γ w hs => ?_))))
 rw [← sI h37]
 exact ⟨y21, rfl, hs.kept.toBelow, (hs.takeR (is := [0]) rfl).fresh⟩

theorem c_laws_toEvent {W : World} {x0 : Event} {r : Event} (h : laws_toEvent x0 = some r)  :
    Gives0 Tryz.prog 179 #[vEvent x0] W (vEvent r) := by
 unfold laws_toEvent at h
 refine en Tryz.func179 Tryz.ntmps179 ?_
 refine qs (qr (oB 2 [(2, .p 1 0), (1, .p 0 0)] [] [(217, (eEvent x0)), (215, (eEvent (Event.mk 0 0)))] ?_))
 refine oe (nt (qs (qr (oB 1 [(3, .p 2 0)] [2, 1] [(217, (eEvent x0)), (215, (eEvent (Event.mk 0 0))), (215, (eEvent (Event.mk 0 0)))] ?_))))
 refine oe (nt (qs (qr (oB 4 [] [3, 2, 1] [(217, (eEvent x0)), (215, (eEvent (Event.mk 0 0))), (215, (eEvent (Event.mk x0.Kind 0)))] ?_))))
 refine oe (nt (qs (qr (oB 4 [] [3, 2] [(217, (eEvent x0)), (215, (eEvent (Event.mk 0 0))), (215, (eEvent x0))] ?_))))
 refine oe (nt (qs (qr (oB 2 [] [2] [(217, (eEvent x0)), (215, (eEvent x0)), (215, (eEvent x0))] ?_))))
 refine oe (nt (qe ?_))
 obtain rfl := sI h
 exact re [vEvent x0]

theorem c_laws_toEventS {W : World} {x0 : List Event} {a0_0 : Option Addr} {c0_0 : Nat} {r : (List Event)} (h : laws_toEventS x0 = some r) (hv0_0 : SlView W x0 a0_0 c0_0) :
    Gives Tryz.prog 119 #[.slice a0_0 x0.length c0_0] W (fun y : AC => .slice y.1 r.length y.2) (fun y => [SlRes 215 r y.1 y.2]) := by
 unfold laws_toEventS at h
 refine en Tryz.func119 Tryz.ntmps119 ?_
 refine qs (qr (oN 1 [] [0] ?_))
 refine oe (nt (qs (qr (oN 2 [(6, vi (x0.length : Int))] [0] ?_))))
 obtain ⟨l22, hm23, h24⟩ := bS h
 refine JO_make (α := Event) rfl (by kernel_rfl) (t := 50) (e := 215) (m := (x0.length : Int)) (by kernel_rfl) (i := Tryz.t215) (by kernel_rfl) (z := (vEvent (Event.mk 0 0))) (by kernel_rfl) (by kernel_rfl) (by kernel_rfl) (by kernel_rfl) (fun w => ⟨rfl, rfl⟩) hm23 _ (fun _ => rfl) (fun y21 => ?_)
 refine oN 1 [(3, .v (.slice y21.1 l22.length y21.2))] [0] ?_
 refine oe (nt (qs (qs (qr (oN 1 [(4, vi 0)] [3, 0] ?_)))))
 refine oe (nt ?_)
 obtain ⟨r28, hL29, h30⟩ := bS h24
 obtain ⟨k31, hk32, h30⟩ := brkS h30
 refine JC_cutP (τ := ((List Event)) × (Unit)) (fun y => k31 y.1 = some r) (fun y36 => [(3, .v (.slice y21.1 y36.1.length y21.2))]) (fun y36 => []) (fun y36 => [SlRes 215 y36.1 y21.1 y21.2]) ?_ (fun y36 h37p => ?_)
 · refine qb (lp Unit hL29 (fun s25 y26 => [(4, vi s25.1), (3, .v (.slice y21.1 s25.2.length y21.2)), (0, .v (.slice a0_0 x0.length c0_0))]) (fun s25 y26 => []) (fun s25 y26 => [SlRes 215 s25.2 y21.1 y21.2]) () [4, 3, 0] [0] 0 (fun s25 y26 t27 h33 hd34 => ?_))
   refine qs (qs (qr (oN 4 [(11, vb (decide (s25.1 < (x0.length : Int))))] [4, 3, 0] ?_)))
   refine oe (nt (cC h33 (fun h39 => ?_) (fun h40 => ?_)))
   · refine qk (nt (qs (qb (qr (oN 4 [(17, vi s25.1), (16, .v (.slice a0_0 x0.length c0_0)), (15, vi s25.1), (14, .v (.slice y21.1 s25.2.length y21.2))] [4, 3, 0] ?_)))))
     obtain ⟨x41, hx42, h43⟩ := bS h39
     refine oi 2 (fun γ w hs => (hv0_0.kept hs.kept)) hx42 ?_
     refine ol 217 0 (vEvent x41) (fun γ w hs => (hv0_0.kept hs.kept).flatq hx42) ?_
     obtain ⟨t44, h45, h46⟩ := bS h43
     refine k0 (fun γ w hs => c_laws_toEvent h45) ?_
     obtain ⟨x48, hx49, h50⟩ := bS h46
     refine oi 2 (fun γ w hs => (hs.view 0 rfl)) hx49 ?_
     obtain ⟨l51, hm52, h53⟩ := bS h50
     replace hm52 := (sI hm52).symm
     refine JO_storeq (α := Event) (d := y21.1) (vs := [.int .i64 t44.Kind, .int .i64 t44.Month]) (j := s25.1) (x' := t44) rfl (by kernel_rfl) 0 (by kernel_rfl) hx49 (Rc := []) (Rr := []) rfl (by kernel_rfl) (fun w c F Fs ho _ _ => own_flat_set (by kernel_rfl) ho) hm52 rfl ?_
     have hl54 := len_set hm52
     refine JO_keep [20, 19, 18, 17, 16, 15, 14, 4, 3, 0] (sl' := [(20, .v (vEvent t44)), (19, .v (vEvent x41)), (18, .q a0_0 (Int.toNat s25.1 * 2)), (17, vi s25.1), (16, .v (.slice a0_0 x0.length c0_0)), (15, vi s25.1), (14, .v (.slice y21.1 s25.2.length y21.2)), (4, vi s25.1), (3, .v (.slice y21.1 s25.2.length y21.2)), (0, .v (.slice a0_0 x0.length c0_0))]) (by kernel_rfl) ?_
     refine JO_eqE (sl' := [(20, .v (vEvent t44)), (19, .v (vEvent x41)), (18, .q a0_0 (Int.toNat s25.1 * 2)), (17, vi s25.1), (16, .v (.slice a0_0 x0.length c0_0)), (15, vi s25.1), (14, .v (.slice y21.1 l51.length y21.2)), (4, vi s25.1), (3, .v (.slice y21.1 l51.length y21.2)), (0, .v (.slice a0_0 x0.length c0_0))]) (bx' := []) (by simp only [eEvent, vEvent, hl54]) rfl ?_
     refine oe (bn (nt (qr (oN 3 [(4, vi (w64 (s25.1 + 1)))] [3, 0] ?_))))
     exact oe (ct h53 () [4, 3, 0] [0] 0)
   refine qx (nx (nx (bh ?_)))
   have h55 := leafB hd34 h40 h30
   exact mp (s25.2, ()) h55 [3] [0] 0
 have h37 := (congrFun hk32 _).symm.trans h37p
 refine nt (qs (qr (oN 2 [(2, .v (.slice y21.1 y36.1.length y21.2))] [] ?_)))
 refine oe (nt (qe (rt [.slice y21.1 y36.1.length y21.2] (fun γ w hs => ?_))))
 rw [← sI h37]
 exact ⟨y21, rfl, hs.kept.toBelow, (hs.takeR (is := [0]) rfl).fresh⟩

theorem c_laws_toMember {W : World} {x0 : Member} {b0 : AC × AC} {r : Member} (h : laws_toMember x0 = some r) (hv0_0 : SlView W x0.Spells b0.1.1 b0.1.2) (hv0_1 : SlView W x0.Events b0.2.1 b0.2.2) :
    Gives Tryz.prog 71 #[vMember x0 b0] W (fun y : AC × AC => vMember r y) (fun y => [SlRes 211 r.Spells y.1.1 y.1.2, SlRes 215 r.Events y.2.1 y.2.2]) := by
 unfold laws_toMember at h
 refine en Tryz.func71 Tryz.ntmps71 ?_
 refine qs (qr (oB 2 [(2, .p 1 0), (1, .p 0 0)] [] [(34, (eMember x0 b0)), (52, [.int .i64 0, .int .i64 0, .slice none 0 0, .slice none 0 0])] ?_))
 refine oe (nt (qs (qr (oB 1 [(3, .p 2 0)] [2, 1] [(34, (eMember x0 b0)), (52, [.int .i64 0, .int .i64 0, .slice none 0 0, .slice none 0 0]), (52, [.int .i64 0, .int .i64 0, .slice none 0 0, .slice none 0 0])] ?_))))
 refine oe (nt (qs (qr (oB 4 [] [3, 2, 1] [(34, (eMember x0 b0)), (52, [.int .i64 0, .int .i64 0, .slice none 0 0, .slice none 0 0]), (52, [.int .i64 x0.Birth, .int .i64 0, .slice none 0 0, .slice none 0 0])] ?_))))
 refine oe (nt (qs (qr (oB 4 [] [3, 2, 1] [(34, (eMember x0 b0)), (52, [.int .i64 0, .int .i64 0, .slice none 0 0, .slice none 0 0]), (52, [.int .i64 x0.Birth, .int .i64 x0.Joined, .slice none 0 0, .slice none 0 0])] ?_))))
 refine oe (nt (qs (qr (oN 2 [(11, .v (.slice b0.1.1 x0.Spells.length b0.1.2))] [3, 2, 1] ?_))))
 obtain ⟨t21, h22, h23⟩ := bS h
 refine k1 (fun γ w hs => c_laws_toSpellS h22 (hv0_0.kept hs.kept)) (fun y24 => ?_)
 refine oB 2 [] [3, 2, 1] [(34, (eMember x0 b0)), (52, [.int .i64 0, .int .i64 0, .slice none 0 0, .slice none 0 0]), (52, (eMember (Member.mk x0.Birth x0.Joined t21 ([] : List Event)) (y24, (none, 0))))] ?_
 refine oe (nt (qs (qr (oN 2 [(15, .v (.slice b0.2.1 x0.Events.length b0.2.2))] [3, 2] ?_))))
 obtain ⟨t25, h26, h27⟩ := bS h23
 refine k1 (fun γ w hs => c_laws_toEventS h26 (hv0_1.kept hs.kept)) (fun y28 => ?_)
 refine oB 2 [] [3, 2] [(34, (eMember x0 b0)), (52, [.int .i64 0, .int .i64 0, .slice none 0 0, .slice none 0 0]), (52, (eMember (Member.mk x0.Birth x0.Joined t21 t25) (y24, y28)))] ?_
 refine oe (nt (qs (qr (oB 2 [] [2] [(34, (eMember x0 b0)), (52, (eMember (Member.mk x0.Birth x0.Joined t21 t25) (y24, y28))), (52, (eMember (Member.mk x0.Birth x0.Joined t21 t25) (y24, y28)))] ?_))))
 refine oe (nt (qe (rt [vMember (Member.mk x0.Birth x0.Joined t21 t25) (y24, y28)] (fun γ w hs => ?_))))
 rw [← sI h27]
 exact ⟨(y24, y28), rfl, hs.kept.toBelow, (hs.takeR (is := [1, 0]) rfl).fresh⟩

theorem c_laws_toCase {W : World} {x0 : Case} {b0 : AC × AC × AC × AC × AC} {r : Case} (h : laws_toCase x0 = some r) (hv0_0 : SlView W x0.Book.Rules b0.1.1 b0.1.2) (hv0_1 : SlView W x0.Store.Facts b0.2.1.1 b0.2.1.2) (hv0_2 : SlView W x0.Series.Points b0.2.2.1.1 b0.2.2.1.2) (hv0_3 : SlView W x0.Member.Spells b0.2.2.2.1.1 b0.2.2.2.1.2) (hv0_4 : SlView W x0.Member.Events b0.2.2.2.2.1 b0.2.2.2.2.2) :
    Gives Tryz.prog 16 #[vCase x0 b0] W (fun y : AC × AC × AC × AC × AC => vCase r y) (fun y => [SlRes 69 r.Book.Rules y.1.1 y.1.2, SlRes 203 r.Store.Facts y.2.1.1 y.2.1.2, SlRes 207 r.Series.Points y.2.2.1.1 y.2.2.1.2, SlRes 211 r.Member.Spells y.2.2.2.1.1 y.2.2.2.1.2, SlRes 215 r.Member.Events y.2.2.2.2.1 y.2.2.2.2.2]) := by
 unfold laws_toCase at h
 refine en Tryz.func16 Tryz.ntmps16 ?_
 refine qs (qr (oB 2 [(2, .p 1 0), (1, .p 0 0)] [] [(36, (eCase x0 b0)), (54, [.slice none 0 0, .slice none 0 0, .slice none 0 0, .int .i64 0, .int .i64 0, .slice none 0 0, .slice none 0 0])] ?_))
 refine oe (nt (qs (qr (oB 1 [(3, .p 2 0)] [2, 1] [(36, (eCase x0 b0)), (54, [.slice none 0 0, .slice none 0 0, .slice none 0 0, .int .i64 0, .int .i64 0, .slice none 0 0, .slice none 0 0]), (54, [.slice none 0 0, .slice none 0 0, .slice none 0 0, .int .i64 0, .int .i64 0, .slice none 0 0, .slice none 0 0])] ?_))))
 refine oe (nt (qs (qr (oN 2 [(5, .v (vBook x0.Book b0.1))] [3, 2, 1] ?_))))
 obtain ⟨t21, h22, h23⟩ := bS h
 refine k1 (fun γ w hs => c_laws_toBook h22 (hv0_0.kept hs.kept)) (fun y24 => ?_)
 refine oB 2 [] [3, 2, 1] [(36, (eCase x0 b0)), (54, [.slice none 0 0, .slice none 0 0, .slice none 0 0, .int .i64 0, .int .i64 0, .slice none 0 0, .slice none 0 0]), (54, [.slice y24.1 t21.Rules.length y24.2, .slice none 0 0, .slice none 0 0, .int .i64 0, .int .i64 0, .slice none 0 0, .slice none 0 0])] ?_
 refine oe (nt (qs (qr (oN 2 [(9, .v (vStore x0.Store b0.2.1))] [3, 2, 1] ?_))))
 obtain ⟨t25, h26, h27⟩ := bS h23
 refine k1 (fun γ w hs => c_laws_toStore h26 (hv0_1.kept hs.kept)) (fun y28 => ?_)
 refine oB 2 [] [3, 2, 1] [(36, (eCase x0 b0)), (54, [.slice none 0 0, .slice none 0 0, .slice none 0 0, .int .i64 0, .int .i64 0, .slice none 0 0, .slice none 0 0]), (54, [.slice y24.1 t21.Rules.length y24.2, .slice y28.1 t25.Facts.length y28.2, .slice none 0 0, .int .i64 0, .int .i64 0, .slice none 0 0, .slice none 0 0])] ?_
 refine oe (nt (qs (qr (oN 2 [(13, .v (vSeries x0.Series b0.2.2.1))] [3, 2, 1] ?_))))
 obtain ⟨t29, h30, h31⟩ := bS h27
 refine k1 (fun γ w hs => c_laws_toSeries h30 (hv0_2.kept hs.kept)) (fun y32 => ?_)
 refine oB 2 [] [3, 2, 1] [(36, (eCase x0 b0)), (54, [.slice none 0 0, .slice none 0 0, .slice none 0 0, .int .i64 0, .int .i64 0, .slice none 0 0, .slice none 0 0]), (54, (eCase (Case.mk t21 t25 t29 (Member.mk 0 0 ([] : List Spell) ([] : List Event))) (y24, y28, y32, (none, 0), (none, 0))))] ?_
 refine oe (nt (qs (qr (oN 2 [(17, .v (vMember x0.Member b0.2.2.2))] [3, 2] ?_))))
 obtain ⟨t33, h34, h35⟩ := bS h31
 refine k1 (fun γ w hs => c_laws_toMember (b0 := b0.2.2.2) h34 (hv0_3.kept hs.kept) (hv0_4.kept hs.kept)) (fun y36 => ?_)
 refine oB 2 [] [3, 2] [(36, (eCase x0 b0)), (54, [.slice none 0 0, .slice none 0 0, .slice none 0 0, .int .i64 0, .int .i64 0, .slice none 0 0, .slice none 0 0]), (54, (eCase (Case.mk t21 t25 t29 t33) (y24, y28, y32, y36.1, y36.2)))] ?_
 refine oe (nt (qs (qr (oB 2 [] [2] [(36, (eCase x0 b0)), (54, (eCase (Case.mk t21 t25 t29 t33) (y24, y28, y32, y36.1, y36.2))), (54, (eCase (Case.mk t21 t25 t29 t33) (y24, y28, y32, y36.1, y36.2)))] ?_))))
 refine oe (nt (qe (rt [vCase (Case.mk t21 t25 t29 t33) (y24, y28, y32, y36.1, y36.2)] (fun γ w hs => ?_))))
 rw [← sI h35]
 exact ⟨(y24, y28, y32, y36.1, y36.2), rfl, hs.kept.toBelow, (hs.takeR (is := [4, 3, 2, 0, 0]) rfl).fresh⟩

theorem c_laws_toCaseS {W : World} {x0 : List Case} {a0_0 : Option Addr} {c0_0 : Nat} {r : (List Case)} (h : laws_toCaseS x0 = some r) (hv0_0 : SlView W x0 a0_0 c0_0) :
    Gives Tryz.prog 53 #[.slice a0_0 x0.length c0_0] W (fun y : AC => .slice y.1 r.length y.2) (fun y => [SlRes 54 r y.1 y.2]) := by
 unfold laws_toCaseS at h
 refine en Tryz.func53 Tryz.ntmps53 ?_
 refine qs (qr (oN 1 [] [0] ?_))
 refine oe (nt (qs (qr (oN 2 [(6, vi (x0.length : Int))] [0] ?_))))
 obtain ⟨l22, hm23, h24⟩ := bS h
 refine JO_make (α := Case) rfl (by kernel_rfl) (t := 102) (e := 54) (m := (x0.length : Int)) (by kernel_rfl) (i := Tryz.t54) (by kernel_rfl) (z := (.agg #[.slice none 0 0, .slice none 0 0, .slice none 0 0, .int .i64 0, .int .i64 0, .slice none 0 0, .slice none 0 0])) (by kernel_rfl) (by kernel_rfl) (by kernel_rfl) (by kernel_rfl) (fun w => ⟨0, 0, 0, 0, 0, none, 0, none, 0, none, 0, none, 0, none, 0, [], [], [], [], [], rfl, rfl, .inl ⟨rfl, rfl, rfl⟩, .inl ⟨rfl, rfl, rfl⟩, .inl ⟨rfl, rfl, rfl⟩, .inl ⟨rfl, rfl, rfl⟩, .inl ⟨rfl, rfl, rfl⟩⟩) hm23 _ (fun _ => rfl) (fun y21 => ?_)
 refine oN 1 [(3, .v (.slice y21.1 l22.length y21.2))] [0] ?_
 refine oe (nt (qs (qs (qr (oN 1 [(4, vi 0)] [3, 0] ?_)))))
 refine oe (nt ?_)
 obtain ⟨r28, hL29, h30⟩ := bS h24
 obtain ⟨k31, hk32, h30⟩ := brkS h30
 refine JC_cutP (τ := ((List Case)) × (Unit)) (fun y => k31 y.1 = some r) (fun y36 => [(3, .v (.slice y21.1 y36.1.length y21.2))]) (fun y36 => []) (fun y36 => [SlRes 54 y36.1 y21.1 y21.2]) ?_ (fun y36 h37p => ?_)
 · refine qb (lp Unit hL29 (fun s25 y26 => [(4, vi s25.1), (3, .v (.slice y21.1 s25.2.length y21.2)), (0, .v (.slice a0_0 x0.length c0_0))]) (fun s25 y26 => []) (fun s25 y26 => [SlRes 54 s25.2 y21.1 y21.2]) () [4, 3, 0] [0] 0 (fun s25 y26 t27 h33 hd34 => ?_))
   refine qs (qs (qr (oN 4 [(11, vb (decide (s25.1 < (x0.length : Int))))] [4, 3, 0] ?_)))
   refine oe (nt (cC h33 (fun h39 => ?_) (fun h40 => ?_)))
   · refine qk (nt (qs (qb (qr (oN 4 [(17, vi s25.1), (16, .v (.slice a0_0 x0.length c0_0)), (15, vi s25.1), (14, .v (.slice y21.1 s25.2.length y21.2))] [4, 3, 0] ?_)))))
     obtain ⟨x41, hx42, h43⟩ := bS h39
     refine oi 7 (fun γ w hs => (hv0_0.kept hs.kept)) hx42 ?_
     obtain ⟨_, ⟨a44, c45, a47, c48, a50, c51, a53, c54, a56, c57, rfl, hv46, hv49, hv52, hv55, hv58⟩, hc59⟩ := SlView.at hv0_0 (idx_some hx42).2.2
     refine ol 36 0 (vCase x41 ((a44, c45), (a47, c48), (a50, c51), (a53, c54), (a56, c57))) (fun γ w hs => ⟨(hv0_0.kept hs.kept).ne (idx_some hx42).2.2, hc59.kept hs.kept⟩) ?_
     obtain ⟨t60, h61, h62⟩ := bS h43
     refine k1 (fun γ w hs => c_laws_toCase (b0 := ((a44, c45), (a47, c48), (a50, c51), (a53, c54), (a56, c57))) h61 (hv46.kept hs.kept) (hv49.kept hs.kept) (hv52.kept hs.kept) (hv55.kept hs.kept) (hv58.kept hs.kept)) (fun y63 => ?_)
     obtain ⟨x64, hx65, h66⟩ := bS h62
     refine oi 7 (fun γ w hs => (hs.view 5 rfl)) hx65 ?_
     obtain ⟨l67, hm68, h69⟩ := bS h66
     replace hm68 := (sI hm68).symm
     refine JO_storeq (α := Case) (d := y21.1) (vs := [.slice y63.1.1 t60.Book.Rules.length y63.1.2, .slice y63.2.1.1 t60.Store.Facts.length y63.2.1.2, .slice y63.2.2.1.1 t60.Series.Points.length y63.2.2.1.2, .int .i64 t60.Member.Birth, .int .i64 t60.Member.Joined, .slice y63.2.2.2.1.1 t60.Member.Spells.length y63.2.2.2.1.2, .slice y63.2.2.2.2.1 t60.Member.Events.length y63.2.2.2.2.2]) (j := s25.1) (x' := t60) rfl (by kernel_rfl) 0 (by kernel_rfl) hx65 (Rc := [SlRes 69 t60.Book.Rules y63.1.1 y63.1.2, SlRes 203 t60.Store.Facts y63.2.1.1 y63.2.1.2, SlRes 207 t60.Series.Points y63.2.2.1.1 y63.2.2.1.2, SlRes 211 t60.Member.Spells y63.2.2.2.1.1 y63.2.2.2.1.2, SlRes 215 t60.Member.Events y63.2.2.2.2.1 y63.2.2.2.2.2]) (Rr := []) rfl (by kernel_rfl) (own_full rfl (by rintro w Fs ⟨G0, _, rfl, h0, ⟨G1, _, rfl, h1, ⟨G2, _, rfl, h2, ⟨G3, _, rfl, h3, ⟨G4, _, rfl, h4, rfl⟩⟩⟩⟩⟩; exact ⟨69, 203, 207, 211, 215, y63.1.1, y63.1.2, y63.2.1.1, y63.2.1.2, y63.2.2.1.1, y63.2.2.1.2, y63.2.2.2.1.1, y63.2.2.2.1.2, y63.2.2.2.2.1, y63.2.2.2.2.2, G0, G1, G2, G3, G4, by simp, rfl, h0, h1, h2, h3, h4⟩)) hm68 rfl ?_
     have hl70 := len_set hm68
     refine JO_keep [20, 19, 18, 17, 16, 15, 14, 4, 3, 0] (sl' := [(20, .v (vCase t60 y63)), (19, .v (vCase x41 ((a44, c45), (a47, c48), (a50, c51), (a53, c54), (a56, c57)))), (18, .q a0_0 (Int.toNat s25.1 * 7)), (17, vi s25.1), (16, .v (.slice a0_0 x0.length c0_0)), (15, vi s25.1), (14, .v (.slice y21.1 s25.2.length y21.2)), (4, vi s25.1), (3, .v (.slice y21.1 s25.2.length y21.2)), (0, .v (.slice a0_0 x0.length c0_0))]) (by kernel_rfl) ?_
     refine JO_eqE (sl' := [(20, .v (vCase t60 y63)), (19, .v (vCase x41 ((a44, c45), (a47, c48), (a50, c51), (a53, c54), (a56, c57)))), (18, .q a0_0 (Int.toNat s25.1 * 7)), (17, vi s25.1), (16, .v (.slice a0_0 x0.length c0_0)), (15, vi s25.1), (14, .v (.slice y21.1 l67.length y21.2)), (4, vi s25.1), (3, .v (.slice y21.1 l67.length y21.2)), (0, .v (.slice a0_0 x0.length c0_0))]) (bx' := []) (by simp only [eCase, vCase, hl70]) rfl ?_
     refine oe (bn (nt (qr (oN 3 [(4, vi (w64 (s25.1 + 1)))] [3, 0] ?_))))
     exact oe (ct h69 () [4, 3, 0] [0] 0)
   refine qx (nx (nx (bh ?_)))
   have h71 := leafB hd34 h40 h30
   exact mp (s25.2, ()) h71 [3] [0] 0
 have h37 := (congrFun hk32 _).symm.trans h37p
 refine nt (qs (qr (oN 2 [(2, .v (.slice y21.1 y36.1.length y21.2))] [] ?_)))
 refine oe (nt (qe (rt [.slice y21.1 y36.1.length y21.2] (fun γ w hs => ?_))))
 rw [← sI h37]
 exact ⟨y21, rfl, hs.kept.toBelow, (hs.takeR (is := [0]) rfl).fresh⟩

theorem c_spec_l10Rule {W : World} {x0 : Rule} {a0_0 : Option Addr} {c0_0 : Nat} {r : Rule} (h : spec_l10Rule x0 = some r) (hv0_0 : SlView W x0.Nodes a0_0 c0_0) :
    Gives Tryz.prog 134 #[vRule x0 (a0_0, c0_0)] W (fun y : AC => vRule r y) (fun y => [SlRes 120 r.Nodes y.1 y.2]) := by
 unfold spec_l10Rule at h
 refine en Tryz.func134 Tryz.ntmps134 ?_
 refine qs (qr (oB 2 [(2, .p 1 0), (1, .p 0 0)] [] [(69, (eRule x0 (a0_0, c0_0))), (69, (eRule (Rule.mk 0 0 0 0 0 0 ([] : List Node)) (none, 0)))] ?_))
 refine oe (nt (qs (qr (ob [] [] 120 0 [] ([] : List Node) (own_flat (by kernel_rfl)) (fun y21 => ?_)))))
 refine oN 2 [(5, .v (.slice a0_0 x0.Nodes.length c0_0))] [3, 2, 1] ?_
 obtain ⟨l24, hm25, h26⟩ := bS h
 refine oa 67 c0_0 Tryz.t120 (vNode (Node.mk 0 0 0 0 (Frac.mk 0 0))) (fun γ w hs => ⟨c0_0, (hv0_0.kept hs.kept)⟩) hm25 (fun y23 => ?_)
 refine oB 2 [] [2, 1] [(69, (eRule (Rule.mk x0.Name x0.From x0.To x0.Joined x0.Rank x0.Mode l24) y23)), (69, (eRule (Rule.mk 0 0 0 0 0 0 ([] : List Node)) (none, 0)))] ?_
 refine oe (nt (qs (qr (oB 2 [] [2] [(69, (eRule (Rule.mk x0.Name x0.From x0.To x0.Joined x0.Rank x0.Mode l24) y23)), (69, (eRule (Rule.mk x0.Name x0.From x0.To x0.Joined x0.Rank x0.Mode l24) y23))] ?_))))
 refine oe (nt (qe (rt [vRule (Rule.mk x0.Name x0.From x0.To x0.Joined x0.Rank x0.Mode l24) y23] (fun γ w hs => ?_))))
 rw [← sI h26]
 exact ⟨y23, rfl, hs.kept.toBelow, (hs.takeR (is := [0]) rfl).fresh⟩

theorem c_spec_l10Copy {W : World} {x0 : Book} {a0_0 : Option Addr} {c0_0 : Nat} {r : Book} (h : spec_l10Copy x0 = some r) (hv0_0 : SlView W x0.Rules a0_0 c0_0) :
    Gives Tryz.prog 131 #[vBook x0 (a0_0, c0_0)] W (fun y : AC => vBook r y) (fun y => [SlRes 69 r.Rules y.1 y.2]) := by
 unfold spec_l10Copy at h
 refine en Tryz.func131 Tryz.ntmps131 ?_
 refine qs (qr (oB 2 [(2, .p 1 0), (1, .p 0 0)] [] [(42, (eBook x0 (a0_0, c0_0))), (42, [.slice none 0 0])] ?_))
 refine oe (nt (qs (qr (oB 3 [(3, .p 2 0)] [2, 1] [(42, (eBook x0 (a0_0, c0_0))), (42, [.slice none 0 0]), (42, [.slice none 0 0])] ?_))))
 refine oe (nt (qs (qs (qr (oN 1 [(4, vi 0)] [3, 2, 1] ?_)))))
 refine oe (nt (JC_addnil 69 (List.nil (α := Rule)) rfl ?_))
 obtain ⟨r24, hL25, h26⟩ := bS h
 obtain ⟨k27, hk28, h26⟩ := brkS h26
 refine JC_cutP (τ := ((List Rule)) × (AC)) (fun y => k27 y.1 = some r) (fun y32 => [(3, .p 2 0), (2, .p 1 0)]) (fun y32 => [(42, (eBook x0 (a0_0, c0_0))), (42, [.slice none 0 0]), (42, (eBook (Book.mk y32.1) y32.2))]) (fun y32 => [SlRes 69 y32.1 y32.2.1 y32.2.2]) ?_ (fun y32 h33p => ?_)
 · refine qb (lp AC hL25 (fun s21 y22 => [(4, vi s21.1), (3, .p 2 0), (2, .p 1 0), (1, .p 0 0)]) (fun s21 y22 => [(42, (eBook x0 (a0_0, c0_0))), (42, [.slice none 0 0]), (42, (eBook (Book.mk s21.2) y22))]) (fun s21 y22 => [SlRes 69 s21.2 y22.1 y22.2]) (none, 0) [4, 3, 2, 1] [0] 3 (fun s21 y22 t23 h29 hd30 => ?_))
   refine qs (qs (qr (oN 5 [(10, vb (decide (s21.1 < (x0.Rules.length : Int))))] [4, 3, 2, 1] ?_)))
   refine oe (nt (cC h29 (fun h35 => ?_) (fun h36 => ?_)))
   · refine qk (nt (qs (qb ?_)))
     obtain ⟨x37, hx38, h39⟩ := bS h35
     obtain ⟨_, ⟨a40, c41, rfl, hv42⟩, hc43⟩ := SlView.at hv0_0 (idx_some hx38).2.2
     obtain ⟨t44, h45, h46⟩ := bS h39
     obtain ⟨l50, hm51, h52⟩ := bS h46
     refine JC_cut (τ := AC) (fun y53 => [(4, vi s21.1), (3, .p 2 0), (2, .p 1 0), (1, .p 0 0)]) (fun y53 => [(42, (eBook x0 (a0_0, c0_0))), (42, [.slice none 0 0]), (42, (eBook (Book.mk l50) y53))]) (fun y53 => [SlRes 69 l50 y53.1 y53.2]) ?_ (fun y53 => ?_)
     · refine jw [4, 3, 2, 1] [0] ?_
       refine JC_heldN (ks := [0, 1]) (Rk := []) 12 (by kernel_rfl) (by kernel_rfl) ?_
       refine htq 0 (.p 2 0) [] ?_
       refine htq 2 (.p 0 0) [] ?_
       refine htq 3 (.v (.slice a0_0 x0.Rules.length c0_0)) [] ?_
       refine hk [16, 13, 4, 3, 2, 1] ?_
       refine htq 4 (vi s21.1) [] ?_
       refine ht 5 (.q a0_0 (Int.toNat s21.1 * 7)) [] (index_held (d := a0_0) (m := x0.Rules.length) (j := s21.1) (s := 7) (by kernel_rfl) (fun γ0 w hs => (hv0_0.kept hs.kept)) rfl hx38) ?_
       refine hk [18, 13, 4, 3, 2, 1] ?_
       refine ht 6 (.v (vRule x37 (a40, c41))) [] (loadq_held (t := 69) (d := a0_0) (Int.toNat s21.1 * 7) 0 (by kernel_rfl) (cs := (eRule x37 (a40, c41))) (v := vRule x37 (a40, c41)) (fun γ0 w hs => ⟨(hv0_0.kept hs.kept).ne (idx_some hx38).2.2, hc43.kept hs.kept⟩) (by kernel_rfl)) ?_
       refine hk [19, 13, 4, 3, 2, 1] ?_
       refine ha2 1 7 ?_ ?_
       · refine hi (fun γ0 δ hm => ?_)
         refine gs [(14, .v (.slice y22.1 s21.2.length y22.2)), (19, .v (vRule x37 (a40, c41))), (13, .p 2 0), (4, vi s21.1), (3, .p 2 0), (2, .p 1 0), (1, .p 0 0)] [(42, (eBook x0 (a0_0, c0_0))), (42, [.slice none 0 0]), (42, (eBook (Book.mk s21.2) y22))] (fun δ2 => ?_)
         refine gd hm [14, 19, 4, 3, 2, 1] [] ?_
         refine ha1 7 ?_
         refine hi (fun γ0 δ hm => ?_)
         refine g1 (fun w hs => c_spec_l10Rule h45 (hv42.kept hs.kept)) (fun y47 => ?_)
         refine gn hm [20, 14, 4, 3, 2, 1] [] ?_
         refine ha1 8 ?_
         refine hi (fun γ0 δ hm => ?_)
         refine gb [SlRes 120 t44.Nodes y47.1 y47.2] [SlRes 69 s21.2 y22.1 y22.2] 69 1 [.int .i64 t44.Name, .int .i64 t44.From, .int .i64 t44.To, .int .i64 t44.Joined, .int .i64 t44.Rank, .int .i64 t44.Mode, .slice y47.1 t44.Nodes.length y47.2] ([t44] : List Rule) (own_single (by rintro w Fs ⟨G0, _, rfl, h0, rfl⟩; exact ⟨120, y47.1, y47.2, G0, by simp, rfl, h0⟩)) (fun y48 => ?_)
         refine gn hm [21, 14, 4, 3, 2, 1] [] ?_
         refine ha1 9 ?_
         refine hr_ [1, 0] ?_
         refine hi (fun γ0 δ hm => ?_)
         refine JG_appendR (α := Rule) (by kernel_rfl) (t := 40) (e := 69) (a1 := y22.1) (a2 := y48.1) (c1 := y22.2) (c2 := y48.2) (l1 := s21.2) (l2 := ([t44] : List Rule)) (by kernel_rfl) (i := Tryz.t69) (by kernel_rfl) (z := (vRule (Rule.mk 0 0 0 0 0 0 ([] : List Node)) (none, 0))) (by kernel_rfl) (by kernel_rfl) (by kernel_rfl) (by kernel_rfl) (Rr := []) rfl hm51 _ (fun _ => rfl) (fun y49 => ?_)
         refine gn hm [22, 4, 3, 2, 1] [] ?_
         refine htq 10 (.p 2 0) [] ?_
         refine ha1 11 ?_
         refine hi (fun γ0 δ hm => ?_)
         refine gs [(23, .p 2 0), (22, .v (.slice y49.1 l50.length y49.2)), (4, vi s21.1), (3, .p 2 0), (2, .p 1 0), (1, .p 0 0)] [(42, (eBook x0 (a0_0, c0_0))), (42, [.slice none 0 0]), (42, (eBook (Book.mk l50) y49))] (fun δ2 => ?_)
         refine gd hm [4, 3, 2, 1] [] ?_
         exact hd y49 [4, 3, 2, 1] [0] 3
       · refine hi (fun γ0 δ hm => ?_)
         refine g1 (fun w hs => c_spec_l10Rule h45 (hv42.kept hs.kept)) (fun y47 => ?_)
         refine gn hm [20, 13, 4, 3, 2, 1] [] ?_
         refine ha2 1 8 ?_ ?_
         · refine hi (fun γ0 δ hm => ?_)
           refine gs [(14, .v (.slice y22.1 s21.2.length y22.2)), (20, .v (vRule t44 y47)), (13, .p 2 0), (4, vi s21.1), (3, .p 2 0), (2, .p 1 0), (1, .p 0 0)] [(42, (eBook x0 (a0_0, c0_0))), (42, [.slice none 0 0]), (42, (eBook (Book.mk s21.2) y22))] (fun δ2 => ?_)
           refine gd hm [14, 20, 4, 3, 2, 1] [] ?_
           refine ha1 8 ?_
           refine hi (fun γ0 δ hm => ?_)
           refine gb [SlRes 120 t44.Nodes y47.1 y47.2] [SlRes 69 s21.2 y22.1 y22.2] 69 1 [.int .i64 t44.Name, .int .i64 t44.From, .int .i64 t44.To, .int .i64 t44.Joined, .int .i64 t44.Rank, .int .i64 t44.Mode, .slice y47.1 t44.Nodes.length y47.2] ([t44] : List Rule) (own_single (by rintro w Fs ⟨G0, _, rfl, h0, rfl⟩; exact ⟨120, y47.1, y47.2, G0, by simp, rfl, h0⟩)) (fun y48 => ?_)
           refine gn hm [21, 14, 4, 3, 2, 1] [] ?_
           refine ha1 9 ?_
           refine hr_ [1, 0] ?_
           refine hi (fun γ0 δ hm => ?_)
           refine JG_appendR (α := Rule) (by kernel_rfl) (t := 40) (e := 69) (a1 := y22.1) (a2 := y48.1) (c1 := y22.2) (c2 := y48.2) (l1 := s21.2) (l2 := ([t44] : List Rule)) (by kernel_rfl) (i := Tryz.t69) (by kernel_rfl) (z := (vRule (Rule.mk 0 0 0 0 0 0 ([] : List Node)) (none, 0))) (by kernel_rfl) (by kernel_rfl) (by kernel_rfl) (by kernel_rfl) (Rr := []) rfl hm51 _ (fun _ => rfl) (fun y49 => ?_)
           refine gn hm [22, 4, 3, 2, 1] [] ?_
           refine htq 10 (.p 2 0) [] ?_
           refine ha1 11 ?_
           refine hi (fun γ0 δ hm => ?_)
           refine gs [(23, .p 2 0), (22, .v (.slice y49.1 l50.length y49.2)), (4, vi s21.1), (3, .p 2 0), (2, .p 1 0), (1, .p 0 0)] [(42, (eBook x0 (a0_0, c0_0))), (42, [.slice none 0 0]), (42, (eBook (Book.mk l50) y49))] (fun δ2 => ?_)
           refine gd hm [4, 3, 2, 1] [] ?_
           exact hd y49 [4, 3, 2, 1] [0] 3
         · refine hi (fun γ0 δ hm => ?_)
           refine gb [SlRes 120 t44.Nodes y47.1 y47.2] [SlRes 69 s21.2 y22.1 y22.2] 69 1 [.int .i64 t44.Name, .int .i64 t44.From, .int .i64 t44.To, .int .i64 t44.Joined, .int .i64 t44.Rank, .int .i64 t44.Mode, .slice y47.1 t44.Nodes.length y47.2] ([t44] : List Rule) (own_single (by rintro w Fs ⟨G0, _, rfl, h0, rfl⟩; exact ⟨120, y47.1, y47.2, G0, by simp, rfl, h0⟩)) (fun y48 => ?_)
           refine gn hm [21, 13, 4, 3, 2, 1] [] ?_
           refine ha1 1 ?_
           refine hi (fun γ0 δ hm => ?_)
           refine gs [(14, .v (.slice y22.1 s21.2.length y22.2)), (21, .v (.slice y48.1 ([t44] : List Rule).length y48.2)), (13, .p 2 0), (4, vi s21.1), (3, .p 2 0), (2, .p 1 0), (1, .p 0 0)] [(42, (eBook x0 (a0_0, c0_0))), (42, [.slice none 0 0]), (42, (eBook (Book.mk s21.2) y22))] (fun δ2 => ?_)
           refine gd hm [14, 21, 4, 3, 2, 1] [] ?_
           refine ha1 9 ?_
           refine hr_ [1, 0] ?_
           refine hi (fun γ0 δ hm => ?_)
           refine JG_appendR (α := Rule) (by kernel_rfl) (t := 40) (e := 69) (a1 := y22.1) (a2 := y48.1) (c1 := y22.2) (c2 := y48.2) (l1 := s21.2) (l2 := ([t44] : List Rule)) (by kernel_rfl) (i := Tryz.t69) (by kernel_rfl) (z := (vRule (Rule.mk 0 0 0 0 0 0 ([] : List Node)) (none, 0))) (by kernel_rfl) (by kernel_rfl) (by kernel_rfl) (by kernel_rfl) (Rr := []) rfl hm51 _ (fun _ => rfl) (fun y49 => ?_)
           refine gn hm [22, 4, 3, 2, 1] [] ?_
           refine htq 10 (.p 2 0) [] ?_
           refine ha1 11 ?_
           refine hi (fun γ0 δ hm => ?_)
           refine gs [(23, .p 2 0), (22, .v (.slice y49.1 l50.length y49.2)), (4, vi s21.1), (3, .p 2 0), (2, .p 1 0), (1, .p 0 0)] [(42, (eBook x0 (a0_0, c0_0))), (42, [.slice none 0 0]), (42, (eBook (Book.mk l50) y49))] (fun δ2 => ?_)
           refine gd hm [4, 3, 2, 1] [] ?_
           exact hd y49 [4, 3, 2, 1] [0] 3
     refine bn (nt (qr (oN 3 [(4, vi (w64 (s21.1 + 1)))] [3, 2, 1] ?_)))
     exact oe (ct h52 (y53.1, y53.2) [4, 3, 2, 1] [0] 3)
   refine qx (nx (nx (bh ?_)))
   have h54 := leafB hd30 h36 h26
   exact mp (s21.2, (y22.1, y22.2)) h54 [3, 2] [0] 3
 have h33 := (congrFun hk28 _).symm.trans h33p
 refine nt (qs (qr (oB 2 [] [2] [(42, (eBook x0 (a0_0, c0_0))), (42, (eBook (Book.mk y32.1) y32.2)), (42, (eBook (Book.mk y32.1) y32.2))] ?_)))
 refine oe (nt (qe (rt [vBook (Book.mk y32.1) y32.2] (fun γ w hs => ?_))))
 rw [← sI h33]
 exact ⟨y32.2, rfl, hs.kept.toBelow, (hs.takeR (is := [0]) rfl).fresh⟩

theorem c_spec_l05Copy {W : World} {x0 : Store} {a0_0 : Option Addr} {c0_0 : Nat} {r : Store} (h : spec_l05Copy x0 = some r) (hv0_0 : SlView W x0.Facts a0_0 c0_0) :
    Gives Tryz.prog 132 #[vStore x0 (a0_0, c0_0)] W (fun y : AC => vStore r y) (fun y => [SlRes 203 r.Facts y.1 y.2]) := by
 unfold spec_l05Copy at h
 refine en Tryz.func132 Tryz.ntmps132 ?_
 refine qs (qr (oB 2 [(2, .p 1 0), (1, .p 0 0)] [] [(45, (eStore x0 (a0_0, c0_0))), (45, [.slice none 0 0])] ?_))
 refine oe (nt (qs (qr (ob [] [] 203 0 [] ([] : List Fact) (own_flat (by kernel_rfl)) (fun y21 => ?_)))))
 refine oN 2 [(5, .v (.slice a0_0 x0.Facts.length c0_0))] [3, 2] ?_
 obtain ⟨l24, hm25, h26⟩ := bS h
 refine oa 43 c0_0 Tryz.t203 (vFact (Fact.mk 0 0 0 0 0)) (fun γ w hs => ⟨c0_0, (hv0_0.kept hs.kept)⟩) hm25 (fun y23 => ?_)
 refine oB 2 [] [2] [(45, (eStore x0 (a0_0, c0_0))), (45, (eStore (Store.mk l24) y23))] ?_
 refine oe (nt (qe (rt [vStore (Store.mk l24) y23] (fun γ w hs => ?_))))
 rw [← sI h26]
 exact ⟨y23, rfl, hs.kept.toBelow, (hs.takeR (is := [0]) rfl).fresh⟩

theorem c_spec_l34Member {W : World} {x0 : Member} {b0 : AC × AC} {r : Member} (h : spec_l34Member x0 = some r) (hv0_0 : SlView W x0.Spells b0.1.1 b0.1.2) (hv0_1 : SlView W x0.Events b0.2.1 b0.2.2) :
    Gives Tryz.prog 133 #[vMember x0 b0] W (fun y : AC × AC => vMember r y) (fun y => [SlRes 211 r.Spells y.1.1 y.1.2, SlRes 215 r.Events y.2.1 y.2.2]) := by
 unfold spec_l34Member at h
 refine en Tryz.func133 Tryz.ntmps133 ?_
 refine qs (qr (oB 2 [(2, .p 1 0), (1, .p 0 0)] [] [(52, (eMember x0 b0)), (52, [.int .i64 0, .int .i64 0, .slice none 0 0, .slice none 0 0])] ?_))
 refine oe (nt (qs (qr (ob [] [] 211 0 [] ([] : List Spell) (own_flat (by kernel_rfl)) (fun y21 => ?_)))))
 refine oN 2 [(5, .v (.slice b0.1.1 x0.Spells.length b0.1.2))] [3, 2, 1] ?_
 obtain ⟨l24, hm25, h26⟩ := bS h
 refine oa 49 b0.1.2 Tryz.t211 (vSpell (Spell.mk 0 0 0 false)) (fun γ w hs => ⟨b0.1.2, (hv0_0.kept hs.kept)⟩) hm25 (fun y23 => ?_)
 refine oB 2 [] [2, 1] [(52, (eMember (Member.mk x0.Birth x0.Joined l24 x0.Events) (y23, b0.2))), (52, [.int .i64 0, .int .i64 0, .slice none 0 0, .slice none 0 0])] ?_
 refine oe (nt (qs (qr (ob [] [SlRes 211 l24 y23.1 y23.2] 215 0 [] ([] : List Event) (own_flat (by kernel_rfl)) (fun y27 => ?_)))))
 refine oN 2 [(10, .v (.slice b0.2.1 x0.Events.length b0.2.2))] [8, 2, 1] ?_
 obtain ⟨l30, hm31, h32⟩ := bS h26
 refine oa 50 b0.2.2 Tryz.t215 (vEvent (Event.mk 0 0)) (fun γ w hs => ⟨b0.2.2, (hv0_1.kept hs.kept)⟩) hm31 (fun y29 => ?_)
 refine oB 2 [] [2, 1] [(52, (eMember (Member.mk x0.Birth x0.Joined l24 l30) (y23, y29))), (52, [.int .i64 0, .int .i64 0, .slice none 0 0, .slice none 0 0])] ?_
 refine oe (nt (qs (qr (oB 2 [] [2] [(52, (eMember (Member.mk x0.Birth x0.Joined l24 l30) (y23, y29))), (52, (eMember (Member.mk x0.Birth x0.Joined l24 l30) (y23, y29)))] ?_))))
 refine oe (nt (qe (rt [vMember (Member.mk x0.Birth x0.Joined l24 l30) (y23, y29)] (fun γ w hs => ?_))))
 rw [← sI h32]
 exact ⟨(y23, y29), rfl, hs.kept.toBelow, (hs.takeR (is := [1, 0]) rfl).fresh⟩

theorem c_spec_l35Case {W : World} {x0 : Case} {b0 : AC × AC × AC × AC × AC} {r : Case} (h : spec_l35Case x0 = some r) (hv0_0 : SlView W x0.Book.Rules b0.1.1 b0.1.2) (hv0_1 : SlView W x0.Store.Facts b0.2.1.1 b0.2.1.2) (hv0_2 : SlView W x0.Series.Points b0.2.2.1.1 b0.2.2.1.2) (hv0_3 : SlView W x0.Member.Spells b0.2.2.2.1.1 b0.2.2.2.1.2) (hv0_4 : SlView W x0.Member.Events b0.2.2.2.2.1 b0.2.2.2.2.2) :
    Gives Tryz.prog 82 #[vCase x0 b0] W (fun y : AC × AC × AC × AC × AC => vCase r y) (fun y => [SlRes 69 r.Book.Rules y.1.1 y.1.2, SlRes 203 r.Store.Facts y.2.1.1 y.2.1.2, SlRes 207 r.Series.Points y.2.2.1.1 y.2.2.1.2, SlRes 211 r.Member.Spells y.2.2.2.1.1 y.2.2.2.1.2, SlRes 215 r.Member.Events y.2.2.2.2.1 y.2.2.2.2.2]) := by
 unfold spec_l35Case at h
 refine en Tryz.func82 Tryz.ntmps82 ?_
 refine qs (qr (oB 2 [(2, .p 1 0), (1, .p 0 0)] [] [(54, (eCase x0 b0)), (54, [.slice none 0 0, .slice none 0 0, .slice none 0 0, .int .i64 0, .int .i64 0, .slice none 0 0, .slice none 0 0])] ?_))
 refine oe (nt (qs ?_))
 obtain ⟨t21, h22, h23⟩ := bS h
 obtain ⟨t25, h26, h27⟩ := bS h23
 obtain ⟨l31, hm32, h33⟩ := bS h27
 obtain ⟨t34, h35, h36⟩ := bS h33
 refine JC_cut (τ := AC × AC × AC × (AC × AC)) (fun y38 => [(2, .p 1 0)]) (fun y38 => [(54, (eCase x0 b0)), (54, (eCase (Case.mk t21 t25 (Series.mk l31) t34) y38))]) (fun y38 => [SlRes 211 t34.Spells y38.2.2.2.1.1 y38.2.2.2.1.2, SlRes 215 t34.Events y38.2.2.2.2.1 y38.2.2.2.2.2, SlRes 207 l31 y38.2.2.1.1 y38.2.2.1.2, SlRes 203 t25.Facts y38.2.1.1 y38.2.1.2, SlRes 69 t21.Rules y38.1.1 y38.1.2]) ?_ (fun y38 => ?_)
 · refine jw [2, 1] [] ?_
   refine JC_heldN (ks := [0]) (Rk := []) 17 (by kernel_rfl) (by kernel_rfl) ?_
   refine htq 0 (.p 0 0) [] ?_
   refine htq 1 (.v (vBook x0.Book b0.1)) [] ?_
   refine hk [4, 2, 1] ?_
   refine htq 3 (.p 0 1) [] ?_
   refine htq 4 (.v (vStore x0.Store b0.2.1)) [] ?_
   refine hk [7, 4, 2, 1] ?_
   refine htq 7 (.p 0 2) [] ?_
   refine htq 8 (.p 0 2) [] ?_
   refine hk [11, 7, 4, 2, 1] ?_
   refine htq 9 (.v (.slice b0.2.2.1.1 x0.Series.Points.length b0.2.2.1.2)) [] ?_
   refine hk [12, 7, 4, 2, 1] ?_
   refine htq 12 (.p 0 3) [] ?_
   refine hk [15, 12, 7, 4, 2] ?_
   refine htq 13 (.v (vMember x0.Member b0.2.2.2)) [] ?_
   refine hk [16, 12, 7, 4, 2] ?_
   refine ha2 2 6 ?_ ?_
   · refine hi (fun γ0 δ hm => ?_)
     refine g1 (fun w hs => c_spec_l10Copy h22 (hv0_0.kept hs.kept)) (fun y24 => ?_)
     refine gn hm [5, 16, 12, 7, 2] [] ?_
     refine ha2 5 6 ?_ ?_
     · refine hi (fun γ0 δ hm => ?_)
       refine g1 (fun w hs => c_spec_l05Copy h26 (hv0_1.kept hs.kept)) (fun y28 => ?_)
       refine gn hm [8, 5, 16, 12, 2] [] ?_
       refine ha1 6 ?_
       refine hi (fun γ0 δ hm => ?_)
       refine gb [] [SlRes 203 t25.Facts y28.1 y28.2, SlRes 69 t21.Rules y24.1 y24.2] 207 0 [] ([] : List Point) (own_flat (by kernel_rfl)) (fun y29 => ?_)
       refine gn hm [9, 8, 5, 16, 12, 2] [] ?_
       refine ha1 10 ?_
       refine hi (fun γ0 δ hm => ?_)
       refine ga 46 b0.2.2.1.2 Tryz.t207 (vPoint (Point.mk 0 0 0)) (fun w hs => ⟨b0.2.2.1.2, (hv0_2.kept hs.kept)⟩) hm32 (fun y30 => ?_)
       refine gn hm [13, 8, 5, 16, 2] [] ?_
       refine htq 11 (.v (vSeries (Series.mk l31) y30)) [] ?_
       refine hk [14, 8, 5, 16, 2] ?_
       refine ha1 14 ?_
       refine hi (fun γ0 δ hm => ?_)
       refine g1 (fun w hs => c_spec_l34Member (b0 := b0.2.2.2) h35 (hv0_3.kept hs.kept) (hv0_4.kept hs.kept)) (fun y37 => ?_)
       refine gn hm [17, 14, 8, 5, 2] [] ?_
       refine htq 15 (.v (vCase (Case.mk t21 t25 (Series.mk l31) t34) (y24, y28, y30, y37.1, y37.2))) [] ?_
       refine hk [18, 2] ?_
       refine ha1 16 ?_
       refine hi (fun γ0 δ hm => ?_)
       refine gs [(18, .v (vCase (Case.mk t21 t25 (Series.mk l31) t34) (y24, y28, y30, y37.1, y37.2))), (2, .p 1 0)] [(54, (eCase x0 b0)), (54, (eCase (Case.mk t21 t25 (Series.mk l31) t34) (y24, y28, y30, y37.1, y37.2)))] (fun δ2 => ?_)
       refine gd hm [2] [] ?_
       exact hd (y24, y28, y30, y37) [2] [0, 0, 0, 0, 0] 2
     · refine hi (fun γ0 δ hm => ?_)
       refine gb [] [SlRes 69 t21.Rules y24.1 y24.2] 207 0 [] ([] : List Point) (own_flat (by kernel_rfl)) (fun y29 => ?_)
       refine gn hm [9, 5, 16, 12, 7, 2] [] ?_
       refine ha1 5 ?_
       refine hi (fun γ0 δ hm => ?_)
       refine g1 (fun w hs => c_spec_l05Copy h26 (hv0_1.kept hs.kept)) (fun y28 => ?_)
       refine gn hm [8, 9, 5, 16, 12, 2] [] ?_
       refine ha1 10 ?_
       refine hr_ [1, 0, 0] ?_
       refine hi (fun γ0 δ hm => ?_)
       refine ga 46 b0.2.2.1.2 Tryz.t207 (vPoint (Point.mk 0 0 0)) (fun w hs => ⟨b0.2.2.1.2, (hv0_2.kept hs.kept)⟩) hm32 (fun y30 => ?_)
       refine gn hm [13, 8, 5, 16, 2] [] ?_
       refine htq 11 (.v (vSeries (Series.mk l31) y30)) [] ?_
       refine hk [14, 8, 5, 16, 2] ?_
       refine ha1 14 ?_
       refine hi (fun γ0 δ hm => ?_)
       refine g1 (fun w hs => c_spec_l34Member (b0 := b0.2.2.2) h35 (hv0_3.kept hs.kept) (hv0_4.kept hs.kept)) (fun y37 => ?_)
       refine gn hm [17, 14, 8, 5, 2] [] ?_
       refine htq 15 (.v (vCase (Case.mk t21 t25 (Series.mk l31) t34) (y24, y28, y30, y37.1, y37.2))) [] ?_
       refine hk [18, 2] ?_
       refine ha1 16 ?_
       refine hi (fun γ0 δ hm => ?_)
       refine gs [(18, .v (vCase (Case.mk t21 t25 (Series.mk l31) t34) (y24, y28, y30, y37.1, y37.2))), (2, .p 1 0)] [(54, (eCase x0 b0)), (54, (eCase (Case.mk t21 t25 (Series.mk l31) t34) (y24, y28, y30, y37.1, y37.2)))] (fun δ2 => ?_)
       refine gd hm [2] [] ?_
       exact hd (y24, y28, y30, y37) [2] [0, 0, 0, 0, 0] 2
   · refine hi (fun γ0 δ hm => ?_)
     refine gb [] [] 207 0 [] ([] : List Point) (own_flat (by kernel_rfl)) (fun y29 => ?_)
     refine gn hm [9, 16, 12, 7, 4, 2] [] ?_
     refine ha1 2 ?_
     refine hi (fun γ0 δ hm => ?_)
     refine g1 (fun w hs => c_spec_l10Copy h22 (hv0_0.kept hs.kept)) (fun y24 => ?_)
     refine gn hm [5, 9, 16, 12, 7, 2] [] ?_
     refine ha1 5 ?_
     refine hi (fun γ0 δ hm => ?_)
     refine g1 (fun w hs => c_spec_l05Copy h26 (hv0_1.kept hs.kept)) (fun y28 => ?_)
     refine gn hm [8, 5, 9, 16, 12, 2] [] ?_
     refine ha1 10 ?_
     refine hr_ [2, 0, 0] ?_
     refine hi (fun γ0 δ hm => ?_)
     refine ga 46 b0.2.2.1.2 Tryz.t207 (vPoint (Point.mk 0 0 0)) (fun w hs => ⟨b0.2.2.1.2, (hv0_2.kept hs.kept)⟩) hm32 (fun y30 => ?_)
     refine gn hm [13, 8, 5, 16, 2] [] ?_
     refine htq 11 (.v (vSeries (Series.mk l31) y30)) [] ?_
     refine hk [14, 8, 5, 16, 2] ?_
     refine ha1 14 ?_
     refine hi (fun γ0 δ hm => ?_)
     refine g1 (fun w hs => c_spec_l34Member (b0 := b0.2.2.2) h35 (hv0_3.kept hs.kept) (hv0_4.kept hs.kept)) (fun y37 => ?_)
     refine gn hm [17, 14, 8, 5, 2] [] ?_
     refine htq 15 (.v (vCase (Case.mk t21 t25 (Series.mk l31) t34) (y24, y28, y30, y37.1, y37.2))) [] ?_
     refine hk [18, 2] ?_
     refine ha1 16 ?_
     refine hi (fun γ0 δ hm => ?_)
     refine gs [(18, .v (vCase (Case.mk t21 t25 (Series.mk l31) t34) (y24, y28, y30, y37.1, y37.2))), (2, .p 1 0)] [(54, (eCase x0 b0)), (54, (eCase (Case.mk t21 t25 (Series.mk l31) t34) (y24, y28, y30, y37.1, y37.2)))] (fun δ2 => ?_)
     refine gd hm [2] [] ?_
     exact hd (y24, y28, y30, y37) [2] [0, 0, 0, 0, 0] 2
 refine nt (qe (rt [vCase (Case.mk t21 t25 (Series.mk l31) t34) y38] (fun γ w hs => ?_)))
 rw [← sI h36]
 exact ⟨(y38.1, y38.2.1, y38.2.2.1, y38.2.2.2.1, y38.2.2.2.2), rfl, hs.kept.toBelow, (hs.takeR (is := [4, 3, 2, 0, 0]) rfl).fresh⟩

theorem c_spec_l01In {W : World} {x0 : Int} {x1 : Int} {x2 : Int} {r : Bool} (h : spec_l01In x0 x1 x2 = some r)  :
    Gives0 Tryz.prog 166 #[.int .i64 x0, .int .i64 x1, .int .i64 x2] W (.bool r) := by
 unfold spec_l01In at h
 refine en Tryz.func166 Tryz.ntmps166 ?_
 refine qs (qr (oN 1 [] [0, 1, 2] ?_))
 refine oe (nt (qs ?_))
 obtain ⟨p21, hE22, h23⟩ := bS h
 refine JC_cut (τ := Unit) (fun _ => [(6, vb p21)]) (fun _ => []) (fun _ => []) ?_ (fun _ => ?_)
 · refine qr (oN 4 [(10, vb (decide (x0 ≥ x1)))] [0, 2] ?_)
   refine oS 10 hE22 (fun h25 => ?_) (fun h26 => ?_)
   · refine oN 5 [(6, vb (decide (x0 ≤ x2)))] [] ?_
     refine oe ?_
     obtain rfl := sI h25
     exact mt () [6] [] 0
   refine oN 5 [(6, vb false)] [] ?_
   refine oe ?_
   obtain rfl := sI h26
   exact mt () [6] [] 0
 refine nt (qe ?_)
 obtain rfl := sI h23
 exact re [.bool p21]

theorem c_spec_l02Abs {W : World} {x0 : Int} {r : Int} (h : spec_l02Abs x0 = some r)  :
    Gives0 Tryz.prog 239 #[.int .i64 x0] W (.int .i64 r) := by
 unfold spec_l02Abs at h
 refine en Tryz.func239 Tryz.ntmps239 ?_
 refine qs (qr (oN 1 [] [0] ?_))
 refine oe (nt (qs (qs (qr (oN 2 [(4, vb (decide (x0 < 0)))] [0] ?_)))))
 refine oe (nt (cC h (fun h22 => ?_) (fun h23 => ?_)))
 · refine qs (qr (oN 3 [(2, vi (w64 (0 - x0)))] [] ?_))
   refine oe (nt (qe (nr ?_)))
   obtain rfl := sI h22
   exact re [.int .i64 (w64 (0 - x0))]
 refine qk (nt (qs (qr (oN 2 [(2, vi x0)] [] ?_))))
 refine oe (nt (qe ?_))
 obtain rfl := sI h23
 exact re [.int .i64 x0]

theorem c_spec_l02Gcd {W : World} {x0 : Int} {x1 : Int} {r : Int} (h : spec_l02Gcd x0 x1 = some r)  :
    Gives0 Tryz.prog 238 #[.int .i64 x0, .int .i64 x1] W (.int .i64 r) := by
 unfold spec_l02Gcd at h
 refine en Tryz.func238 Tryz.ntmps238 ?_
 refine qs (qr (oN 1 [] [0, 1] ?_))
 refine oe (nt (qs ?_))
 obtain ⟨r24, hL25, h26⟩ := bS h
 obtain ⟨k27, hk28, h26⟩ := brkS h26
 refine JC_cutP (τ := (Int) × (Unit)) (fun y => k27 y.1 = some r) (fun y32 => [(0, vi y32.1)]) (fun y32 => []) (fun y32 => []) ?_ (fun y32 h33p => ?_)
 · refine qb (lp Unit hL25 (fun s21 y22 => [(0, vi s21.1), (1, vi s21.2)]) (fun s21 y22 => []) (fun s21 y22 => []) () [0, 1] [] 0 (fun s21 y22 t23 h29 hd30 => ?_))
   refine qs (qs (qr (oN 2 [(7, vb (s21.2 != 0))] [0, 1] ?_)))
   refine oe (nt (cC h29 (fun h35 => ?_) (fun h36 => ?_)))
   · refine qk (nt (qb (qs (qr (oN 2 [(9, vi s21.2), (8, vi s21.1)] [1] ?_)))))
     obtain ⟨u39, hz38, h37⟩ := bS h35
     refine JO_div rfl (by kernel_rfl) (op := .rem) (k := .i64) (x := s21.1) (y := s21.2) (by kernel_rfl) (nz_some hz38) rfl ?_
     refine oN 1 [(5, vi (Int.tmod s21.1 s21.2))] [1] ?_
     refine oe (nt (qs (qr (oN 2 [(0, vi s21.2)] [5] ?_))))
     refine oe (nt (qr (oN 2 [(1, vi (Int.tmod s21.1 s21.2))] [0] ?_)))
     exact oe (bn (ct h37 () [0, 1] [] 0))
   refine qx (nx (nx (bh ?_)))
   have h40 := leafB hd30 h36 h26
   exact mp (s21.1, ()) h40 [0] [] 0
 have h33 := (congrFun hk28 _).symm.trans h33p
 refine nt (qs (qr (oN 2 [(4, vi y32.1)] [] ?_)))
 refine oe (nt (qe ?_))
 obtain rfl := sI h33
 exact re [.int .i64 y32.1]

theorem c_spec_FracOk {W : World} {x0 : Frac} {r : Bool} (h : spec_FracOk x0 = some r)  :
    Gives0 Tryz.prog 228 #[vFrac x0] W (.bool r) := by
 unfold spec_FracOk at h
 refine en Tryz.func228 Tryz.ntmps228 ?_
 refine qs (qr (oB 2 [(1, .p 0 0)] [] [(118, (eFrac x0))] ?_))
 refine oe (nt (qs ?_))
 obtain ⟨p21, hE22, h23⟩ := bS h
 refine JC_cut (τ := Unit) (fun _ => [(2, vb p21)]) (fun _ => [(118, (eFrac x0))]) (fun _ => []) ?_ (fun _ => ?_)
 · refine JC_quiet (by kernel_rfl) (by kernel_rfl) ?_
   refine qN 2 [(4, vi x0.Den)] [1] ?_
   obtain ⟨t24, h25, h26⟩ := bS hE22
   refine q0 (fun γ w hs => c_spec_l01In h25) ?_
   refine qN 1 [(6, vb t24)] [1] ?_
   refine qS 6 h26 (fun h29 => ?_) (fun h30 => ?_)
   · refine qN 2 [(8, vi x0.Num)] [6, 1] ?_
     obtain ⟨t31, h32, h33⟩ := bS h29
     refine q0 (fun γ w hs => c_spec_l01In h32) ?_
     refine qN 2 [(11, vb t31)] [1] ?_
     refine qS 11 h33 (fun h36 => ?_) (fun h37 => ?_)
     · refine qN 2 [(13, vi x0.Num)] [11, 1] ?_
       obtain ⟨t38, h39, h40⟩ := bS h36
       refine q0 (fun γ w hs => c_spec_l02Abs h39) ?_
       refine qN 2 [(16, vi x0.Den)] [14, 11] ?_
       obtain ⟨t42, h43, h44⟩ := bS h40
       refine q0 (fun γ w hs => c_spec_l02Gcd h43) ?_
       refine qN 3 [(2, vb (t42 == 1))] [] ?_
       refine qz ?_
       obtain rfl := sI h44
       exact mt () [2] [] 1
     refine qN 9 [(2, vb false)] [] ?_
     refine qz ?_
     obtain rfl := sI h37
     exact mt () [2] [] 1
   refine qN 14 [(2, vb false)] [] ?_
   refine qz ?_
   obtain rfl := sI h30
   exact mt () [2] [] 1
 refine nt (qe ?_)
 obtain rfl := sI h23
 exact re [.bool p21]

theorem c_spec_l08Two {W : World} {x0 : Int} {r : Bool} (h : spec_l08Two x0 = some r)  :
    Gives0 Tryz.prog 246 #[.int .i64 x0] W (.bool r) := by
 unfold spec_l08Two at h
 refine en Tryz.func246 Tryz.ntmps246 ?_
 refine qs (qr (oN 1 [] [0] ?_))
 refine oe (nt (qs (qr (oN 1 [(3, vi x0)] [] ?_))))
 obtain ⟨t21, h22, h23⟩ := bS h
 refine k0 (fun γ w hs => c_spec_l01In h22) ?_
 refine oN 1 [(2, vb t21)] [] ?_
 refine oe (nt (qe ?_))
 obtain rfl := sI h23
 exact re [.bool t21]

theorem c_spec_l08At {W : World} {x0 : Int} {x1 : Int} {r : Bool} (h : spec_l08At x0 x1 = some r)  :
    Gives0 Tryz.prog 247 #[.int .i64 x0, .int .i64 x1] W (.bool r) := by
 unfold spec_l08At at h
 refine en Tryz.func247 Tryz.ntmps247 ?_
 refine qs (qr (oN 1 [] [0, 1] ?_))
 refine oe (nt (qs ?_))
 obtain ⟨p21, hE22, h23⟩ := bS h
 refine JC_cut (τ := Unit) (fun _ => [(4, vb p21)]) (fun _ => []) (fun _ => []) ?_ (fun _ => ?_)
 · refine qr (oN 3 [(7, vb (decide (x0 ≥ 0)))] [0, 1] ?_)
   refine oS 7 hE22 (fun h25 => ?_) (fun h26 => ?_)
   · refine oN 5 [(4, vb (decide (x0 < x1)))] [] ?_
     refine oe ?_
     obtain rfl := sI h25
     exact mt () [4] [] 0
   refine oN 5 [(4, vb false)] [] ?_
   refine oe ?_
   obtain rfl := sI h26
   exact mt () [4] [] 0
 refine nt (qe ?_)
 obtain rfl := sI h23
 exact re [.bool p21]

theorem c_spec_NodeOk {W : World} {x0 : Node} {x1 : Int} {r : Bool} (h : spec_NodeOk x0 x1 = some r)  :
    Gives0 Tryz.prog 236 #[vNode x0, .int .i64 x1] W (.bool r) := by
 unfold spec_NodeOk at h
 refine en Tryz.func236 Tryz.ntmps236 ?_
 refine qs (qr (oB 2 [(2, .p 0 0)] [1] [(120, (eNode x0))] ?_))
 refine oe (nt (qs (qr (oB 3 [(5, .p 1 0)] [2, 1] [(120, (eNode x0)), (118, (eFrac (Frac.mk 0 0)))] ?_))))
 refine oe (nt (qs (qb (qs (qr (oN 4 [(7, vb (x0.Kind == 1))] [5, 2, 1] ?_))))))
 refine oe (nt (cC h (fun h81 => ?_) (fun h82 => ?_)))
 · refine qs ?_
   obtain ⟨p83, hE84, h85⟩ := bS h81
   refine JC_cut (τ := Unit) (fun _ => [(4, vb p83)]) (fun _ => [(120, (eNode x0)), (118, (eFrac (Frac.mk 0 0)))]) (fun _ => []) ?_ (fun _ => ?_)
   · refine qr (oN 4 [(14, vb (x0.A == 0))] [2] ?_)
     refine oS 14 hE84 (fun h87 => ?_) (fun h88 => ?_)
     · refine oN 5 [(19, vb (x0.B == 0))] [2] ?_
       refine oS 19 h87 (fun h90 => ?_) (fun h91 => ?_)
       · refine oN 5 [(24, vb (x0.C == 0))] [2] ?_
         refine oS 24 h90 (fun h93 => ?_) (fun h94 => ?_)
         · refine oN 2 [(26, .v (vFrac x0.Value))] [24] ?_
           obtain ⟨t95, h96, h97⟩ := bS h93
           refine k0 (fun γ w hs => c_spec_FracOk h96) ?_
           refine oN 2 [(4, vb t95)] [] ?_
           refine oe ?_
           obtain rfl := sI h97
           exact mt () [4] [] 2
         refine oN 5 [(4, vb false)] [] ?_
         refine oe ?_
         obtain rfl := sI h94
         exact mt () [4] [] 2
       refine oN 10 [(4, vb false)] [] ?_
       refine oe ?_
       obtain rfl := sI h91
       exact mt () [4] [] 2
     refine oN 15 [(4, vb false)] [] ?_
     refine oe ?_
     obtain rfl := sI h88
     exact mt () [4] [] 2
   refine nt (qe (br (nr ?_)))
   obtain rfl := sI h85
   exact re [.bool p83]
 refine qs (qr (oN 5 [(29, vb (!((x0.Value.Num == 0) && ((x0.Value.Den == 0) && true))))] [2, 1] ?_))
 refine oe (nt (cC h82 (fun h140 => ?_) (fun h141 => ?_)))
 · refine qs (qr (oN 1 [(4, vb false)] [] ?_))
   refine oe (nt (qe (br (nr ?_))))
   obtain rfl := sI h140
   exact re [.bool false]
 refine qs (qr (oN 4 [(34, vb (x0.Kind == 2))] [2, 1] ?_))
 refine oe (nt (cC h141 (fun h180 => ?_) (fun h181 => ?_)))
 · refine qs ?_
   obtain ⟨p182, hE183, h184⟩ := bS h180
   refine JC_cut (τ := Unit) (fun _ => [(4, vb p182)]) (fun _ => [(120, (eNode x0)), (118, (eFrac (Frac.mk 0 0)))]) (fun _ => []) ?_ (fun _ => ?_)
   · refine qr (oN 2 [(39, vi x0.A)] [2] ?_)
     obtain ⟨t185, h186, h187⟩ := bS hE183
     refine k0 (fun γ w hs => c_spec_l01In h186) ?_
     refine oN 1 [(41, vb t185)] [2] ?_
     refine oS 41 h187 (fun h190 => ?_) (fun h191 => ?_)
     · refine oN 5 [(46, vb (x0.B == 0))] [2] ?_
       refine oS 46 h190 (fun h193 => ?_) (fun h194 => ?_)
       · refine oN 5 [(4, vb (x0.C == 0))] [] ?_
         refine oe ?_
         obtain rfl := sI h193
         exact mt () [4] [] 2
       refine oN 5 [(4, vb false)] [] ?_
       refine oe ?_
       obtain rfl := sI h194
       exact mt () [4] [] 2
     refine oN 10 [(4, vb false)] [] ?_
     refine oe ?_
     obtain rfl := sI h191
     exact mt () [4] [] 2
   refine nt (qe (br (nr ?_)))
   obtain rfl := sI h184
   exact re [.bool p182]
 refine qs (qr (oN 2 [(53, vi x0.Kind)] [2, 1] ?_))
 obtain ⟨t195, h196, h197⟩ := bS h181
 refine k0 (fun γ w hs => c_spec_l08Two h196) ?_
 refine oN 1 [(51, vb t195)] [2, 1] ?_
 refine oe (nt (cC h197 (fun h217 => ?_) (fun h218 => ?_)))
 · refine qs ?_
   obtain ⟨p219, hE220, h221⟩ := bS h217
   refine JC_cut (τ := Unit) (fun _ => [(4, vb p219)]) (fun _ => [(120, (eNode x0)), (118, (eFrac (Frac.mk 0 0)))]) (fun _ => []) ?_ (fun _ => ?_)
   · refine qr (oN 3 [(57, vi x1), (56, vi x0.A)] [2, 1] ?_)
     obtain ⟨t222, h223, h224⟩ := bS hE220
     refine k0 (fun γ w hs => c_spec_l08At h223) ?_
     refine oN 1 [(59, vb t222)] [2, 1] ?_
     refine oS 59 h224 (fun h227 => ?_) (fun h228 => ?_)
     · refine oN 3 [(62, vi x1), (61, vi x0.B)] [59, 2] ?_
       obtain ⟨t229, h230, h231⟩ := bS h227
       refine k0 (fun γ w hs => c_spec_l08At h230) ?_
       refine oN 2 [(65, vb t229)] [2] ?_
       refine oS 65 h231 (fun h234 => ?_) (fun h235 => ?_)
       · refine oN 5 [(4, vb (x0.C == 0))] [] ?_
         refine oe ?_
         obtain rfl := sI h234
         exact mt () [4] [] 2
       refine oN 5 [(4, vb false)] [] ?_
       refine oe ?_
       obtain rfl := sI h235
       exact mt () [4] [] 2
     refine oN 11 [(4, vb false)] [] ?_
     refine oe ?_
     obtain rfl := sI h228
     exact mt () [4] [] 2
   refine nt (qe (br (nr ?_)))
   obtain rfl := sI h221
   exact re [.bool p219]
 refine qk (bn (nt (qs ?_)))
 obtain ⟨p236, hE237, h238⟩ := bS h218
 refine JC_cut (τ := Unit) (fun _ => [(4, vb p236)]) (fun _ => [(120, (eNode x0)), (118, (eFrac (Frac.mk 0 0)))]) (fun _ => []) ?_ (fun _ => ?_)
 · refine qr (oN 4 [(73, vb (x0.Kind == 9))] [2, 1] ?_)
   refine oS 73 hE237 (fun h240 => ?_) (fun h241 => ?_)
   · refine oN 3 [(76, vi x1), (75, vi x0.A)] [73, 2, 1] ?_
     obtain ⟨t242, h243, h244⟩ := bS h240
     refine k0 (fun γ w hs => c_spec_l08At h243) ?_
     refine oN 2 [(79, vb t242)] [2, 1] ?_
     refine oS 79 h244 (fun h247 => ?_) (fun h248 => ?_)
     · refine oN 3 [(82, vi x1), (81, vi x0.B)] [79, 2, 1] ?_
       obtain ⟨t249, h250, h251⟩ := bS h247
       refine k0 (fun γ w hs => c_spec_l08At h250) ?_
       refine oN 2 [(85, vb t249)] [2, 1] ?_
       refine oS 85 h251 (fun h254 => ?_) (fun h255 => ?_)
       · refine oN 3 [(88, vi x1), (87, vi x0.C)] [85] ?_
         obtain ⟨t256, h257, h258⟩ := bS h254
         refine k0 (fun γ w hs => c_spec_l08At h257) ?_
         refine oN 2 [(4, vb t256)] [] ?_
         refine oe ?_
         obtain rfl := sI h258
         exact mt () [4] [] 2
       refine oN 6 [(4, vb false)] [] ?_
       refine oe ?_
       obtain rfl := sI h255
       exact mt () [4] [] 2
     refine oN 12 [(4, vb false)] [] ?_
     refine oe ?_
     obtain rfl := sI h248
     exact mt () [4] [] 2
   refine oN 18 [(4, vb false)] [] ?_
   refine oe ?_
   obtain rfl := sI h241
   exact mt () [4] [] 2
 refine nt (qe ?_)
 obtain rfl := sI h238
 exact re [.bool p236]

theorem c_spec_FormulaOk {W : World} {x0 : List Node} {a0_0 : Option Addr} {c0_0 : Nat} {r : Bool} (h : spec_FormulaOk x0 = some r) (hv0_0 : SlView W x0 a0_0 c0_0) :
    Gives0 Tryz.prog 222 #[.slice a0_0 x0.length c0_0] W (.bool r) := by
 unfold spec_FormulaOk at h
 refine en Tryz.func222 Tryz.ntmps222 ?_
 refine qs (qr (oN 1 [] [0] ?_))
 refine oe (nt (qs (qs (qr (oN 1 [(3, vi 0)] [0] ?_)))))
 refine oe (nt ?_)
 obtain ⟨r24, hL25, h26⟩ := bS h
 obtain ⟨k27, hk28, h26⟩ := brkS h26
 refine JC_cutP (τ := (Unit) × (Unit)) (fun y => k27 y.1 = some r) (fun y32 => [(0, .v (.slice a0_0 x0.length c0_0))]) (fun y32 => []) (fun y32 => []) ?_ (fun y32 h33p => ?_)
 · refine qb (lp Unit hL25 (fun s21 y22 => [(3, vi s21), (0, .v (.slice a0_0 x0.length c0_0))]) (fun s21 y22 => []) (fun s21 y22 => []) () [3, 0] [] 0 (fun s21 y22 t23 h29 hd30 => ?_))
   refine qs (qs (qr (oN 4 [(7, vb (decide (s21 < (x0.length : Int))))] [3, 0] ?_)))
   refine oe (nt (cC h29 (fun h39 => ?_) (fun h40 => ?_)))
   · refine qk (nt (qs (qb (qs (qr (oN 2 [(11, vi s21), (10, .v (.slice a0_0 x0.length c0_0))] [3, 0] ?_))))))
     obtain ⟨x41, hx42, h43⟩ := bS h39
     refine oi 6 (fun γ w hs => (hv0_0.kept hs.kept)) hx42 ?_
     refine ol 120 0 (vNode x41) (fun γ w hs => (hv0_0.kept hs.kept).flatq hx42) ?_
     refine oN 1 [(14, vi s21)] [13, 3, 0] ?_
     obtain ⟨t44, h45, h46⟩ := bS h43
     refine k0 (fun γ w hs => c_spec_NodeOk h45) ?_
     refine oN 1 [(16, vb (!t44))] [3, 0] ?_
     refine oe (nt (cC h46 (fun h49 => ?_) (fun h50 => ?_)))
     · refine qs (qr (oN 1 [(2, vb false)] [] ?_))
       refine oe (nt (qe (br (nr (nr ?_)))))
       have h51 := leafR hd30 h49 h26
       refine br (nr (nr ?_))
       obtain rfl := sI h51
       exact re [.bool false]
     refine qk (bn (nt (qr (oN 3 [(3, vi (w64 (s21 + 1)))] [0] ?_))))
     exact oe (ct h50 () [3, 0] [] 0)
   refine qx (nx (nx (bh ?_)))
   have h52 := leafB hd30 h40 h26
   exact mp ((), ()) h52 [0] [] 0
 have h33 := (congrFun hk28 _).symm.trans h33p
 refine nt (qs (qr (oN 2 [(18, vi (x0.length : Int))] [] ?_)))
 obtain ⟨t34, h35, h36⟩ := bS h33
 refine k0 (fun γ w hs => c_spec_l01In h35) ?_
 refine oN 1 [(2, vb t34)] [] ?_
 refine oe (nt (qe ?_))
 obtain rfl := sI h36
 exact re [.bool t34]

theorem c_spec_RuleOk {W : World} {x0 : Rule} {a0_0 : Option Addr} {c0_0 : Nat} {r : Bool} (h : spec_RuleOk x0 = some r) (hv0_0 : SlView W x0.Nodes a0_0 c0_0) :
    Gives0 Tryz.prog 184 #[vRule x0 (a0_0, c0_0)] W (.bool r) := by
 unfold spec_RuleOk at h
 refine en Tryz.func184 Tryz.ntmps184 ?_
 refine qs (qr (oB 2 [(1, .p 0 0)] [] [(69, (eRule x0 (a0_0, c0_0)))] ?_))
 refine oe (nt (qs ?_))
 obtain ⟨p21, hE22, h23⟩ := bS h
 refine JC_cut (τ := Unit) (fun _ => [(2, vb p21)]) (fun _ => [(69, (eRule x0 (a0_0, c0_0)))]) (fun _ => []) ?_ (fun _ => ?_)
 · refine qr (oN 2 [(4, vi x0.Name)] [1] ?_)
   obtain ⟨t24, h25, h26⟩ := bS hE22
   refine k0 (fun γ w hs => c_spec_l01In h25) ?_
   refine oN 1 [(6, vb t24)] [1] ?_
   refine oS 6 h26 (fun h29 => ?_) (fun h30 => ?_)
   · refine oN 5 [(11, vb (decide (x0.From ≥ 0)))] [1] ?_
     refine oS 11 h29 (fun h32 => ?_) (fun h33 => ?_)
     · refine oN 7 [(18, vb (decide (x0.From < x0.To)))] [1] ?_
       refine oS 18 h32 (fun h35 => ?_) (fun h36 => ?_)
       · refine oN 5 [(23, vb (decide (x0.To ≤ 3600)))] [1] ?_
         refine oS 23 h35 (fun h38 => ?_) (fun h39 => ?_)
         · refine oN 2 [(25, vi x0.Joined)] [23, 1] ?_
           obtain ⟨t40, h41, h42⟩ := bS h38
           refine k0 (fun γ w hs => c_spec_l01In h41) ?_
           refine oN 2 [(28, vb t40)] [1] ?_
           refine oS 28 h42 (fun h45 => ?_) (fun h46 => ?_)
           · refine oN 2 [(30, vi x0.Rank)] [28, 1] ?_
             obtain ⟨t47, h48, h49⟩ := bS h45
             refine k0 (fun γ w hs => c_spec_l01In h48) ?_
             refine oN 2 [(33, vb t47)] [1] ?_
             refine oS 33 h49 (fun h52 => ?_) (fun h53 => ?_)
             · refine oN 2 [(35, vi x0.Mode)] [33, 1] ?_
               obtain ⟨t54, h55, h56⟩ := bS h52
               refine k0 (fun γ w hs => c_spec_l01In h55) ?_
               refine oN 2 [(38, vb t54)] [1] ?_
               refine oS 38 h56 (fun h59 => ?_) (fun h60 => ?_)
               · refine oN 2 [(40, .v (.slice a0_0 x0.Nodes.length c0_0))] [38] ?_
                 obtain ⟨t61, h62, h63⟩ := bS h59
                 refine k0 (fun γ w hs => c_spec_FormulaOk h62 (hv0_0.kept hs.kept)) ?_
                 refine oN 2 [(2, vb t61)] [] ?_
                 refine oe ?_
                 obtain rfl := sI h63
                 exact mt () [2] [] 1
               refine oN 5 [(2, vb false)] [] ?_
               refine oe ?_
               obtain rfl := sI h60
               exact mt () [2] [] 1
             refine oN 10 [(2, vb false)] [] ?_
             refine oe ?_
             obtain rfl := sI h53
             exact mt () [2] [] 1
           refine oN 15 [(2, vb false)] [] ?_
           refine oe ?_
           obtain rfl := sI h46
           exact mt () [2] [] 1
         refine oN 20 [(2, vb false)] [] ?_
         refine oe ?_
         obtain rfl := sI h39
         exact mt () [2] [] 1
       refine oN 25 [(2, vb false)] [] ?_
       refine oe ?_
       obtain rfl := sI h36
       exact mt () [2] [] 1
     refine oN 32 [(2, vb false)] [] ?_
     refine oe ?_
     obtain rfl := sI h33
     exact mt () [2] [] 1
   refine oN 37 [(2, vb false)] [] ?_
   refine oe ?_
   obtain rfl := sI h30
   exact mt () [2] [] 1
 refine nt (qe ?_)
 obtain rfl := sI h23
 exact re [.bool p21]

theorem c_spec_l04End {W : World} {x0 : Int} {r : Bool} (h : spec_l04End x0 = some r)  :
    Gives0 Tryz.prog 172 #[.int .i64 x0] W (.bool r) := by
 unfold spec_l04End at h
 refine en Tryz.func172 Tryz.ntmps172 ?_
 refine qs (qr (oN 1 [] [0] ?_))
 refine oe (nt (qs (qr (oN 1 [(3, vi x0)] [] ?_))))
 obtain ⟨t21, h22, h23⟩ := bS h
 refine k0 (fun γ w hs => c_spec_l01In h22) ?_
 refine oN 1 [(2, vb t21)] [] ?_
 refine oe (nt (qe ?_))
 obtain rfl := sI h23
 exact re [.bool t21]

theorem c_spec_MonthsIn {W : World} {x0 : Int} {x1 : Int} {x2 : Int} {x3 : Int} {r : Int} (h : spec_MonthsIn x0 x1 x2 x3 = some r)  :
    Gives0 Tryz.prog 185 #[.int .i64 x0, .int .i64 x1, .int .i64 x2, .int .i64 x3] W (.int .i64 r) := by
 unfold spec_MonthsIn at h
 refine en Tryz.func185 Tryz.ntmps185 ?_
 refine qs (qr (oN 1 [] [0, 1, 2, 3] ?_))
 refine oe (nt (qs (qs ?_)))
 obtain ⟨p21, hE22, h23⟩ := bS h
 refine JC_cut (τ := Unit) (fun _ => [(0, vi x0), (1, vi x1), (2, vi x2), (3, vi x3), (26, vb p21)]) (fun _ => []) (fun _ => []) ?_ (fun _ => ?_)
 · refine qr (oN 1 [(9, vi x0)] [0, 1, 2, 3] ?_)
   obtain ⟨t24, h25, h26⟩ := bS hE22
   refine k0 (fun γ w hs => c_spec_l04End h25) ?_
   refine oN 2 [(12, vb (!t24))] [0, 1, 2, 3] ?_
   refine oS 12 h26 (fun h29 => ?_) (fun h30 => ?_)
   · refine oN 14 [(26, vb true)] [0, 1, 2, 3] ?_
     refine oe ?_
     obtain rfl := sI h29
     exact mt () [0, 1, 2, 3, 26] [] 0
   refine oN 1 [(13, vi x1)] [12, 0, 1, 2, 3] ?_
   obtain ⟨t31, h32, h33⟩ := bS h30
   refine k0 (fun γ w hs => c_spec_l04End h32) ?_
   refine oN 3 [(17, vb (!t31))] [0, 1, 2, 3] ?_
   refine oS 17 h33 (fun h36 => ?_) (fun h37 => ?_)
   · refine oN 9 [(26, vb true)] [0, 1, 2, 3] ?_
     refine oe ?_
     obtain rfl := sI h36
     exact mt () [0, 1, 2, 3, 26] [] 0
   refine oN 1 [(18, vi x2)] [17, 0, 1, 2, 3] ?_
   obtain ⟨t38, h39, h40⟩ := bS h37
   refine k0 (fun γ w hs => c_spec_l04End h39) ?_
   refine oN 3 [(22, vb (!t38))] [0, 1, 2, 3] ?_
   refine oS 22 h40 (fun h43 => ?_) (fun h44 => ?_)
   · refine oN 4 [(26, vb true)] [0, 1, 2, 3] ?_
     refine oe ?_
     obtain rfl := sI h43
     exact mt () [0, 1, 2, 3, 26] [] 0
   refine oN 1 [(23, vi x3)] [22, 0, 1, 2, 3] ?_
   obtain ⟨t45, h46, h47⟩ := bS h44
   refine k0 (fun γ w hs => c_spec_l04End h46) ?_
   refine oN 2 [(26, vb (!t45))] [0, 1, 2, 3] ?_
   refine oe ?_
   obtain rfl := sI h47
   exact mt () [0, 1, 2, 3, 26] [] 0
 refine nt (cC h23 (fun h50 => ?_) (fun h51 => ?_))
 · refine qs (qr (oN 1 [(8, vi 0)] [] ?_))
   refine oe (nt (qe (nr ?_)))
   obtain rfl := sI h50
   exact re [.int .i64 0]
 refine qk (nt (qs (qr (oN 9 [(8, vi (imax 0 (w64 ((imin x1 x3) - (imax x0 x2)))))] [] ?_))))
 refine oe (nt (qe ?_))
 obtain rfl := sI h51
 exact re [.int .i64 (imax 0 (w64 ((imin x1 x3) - (imax x0 x2))))]

theorem c_spec_BookOk {W : World} {x0 : Book} {a0_0 : Option Addr} {c0_0 : Nat} {r : Bool} (h : spec_BookOk x0 = some r) (hv0_0 : SlView W x0.Rules a0_0 c0_0) :
    Gives0 Tryz.prog 135 #[vBook x0 (a0_0, c0_0)] W (.bool r) := by
 unfold spec_BookOk at h
 refine en Tryz.func135 Tryz.ntmps135 ?_
 refine qs (qr (oB 2 [(1, .p 0 0)] [] [(42, (eBook x0 (a0_0, c0_0)))] ?_))
 refine oe (nt (qs (qs (qr (oN 1 [(3, vi 0)] [1] ?_)))))
 refine oe (nt ?_)
 obtain ⟨r24, hL25, h26⟩ := bS h
 obtain ⟨k27, hk28, h26⟩ := brkS h26
 refine JC_cutP (τ := (Unit) × (Unit)) (fun y => k27 y.1 = some r) (fun y32 => [(1, .p 0 0)]) (fun y32 => [(42, (eBook x0 (a0_0, c0_0)))]) (fun y32 => []) ?_ (fun y32 h33p => ?_)
 · refine qb (lp Unit hL25 (fun s21 y22 => [(3, vi s21), (1, .p 0 0)]) (fun s21 y22 => [(42, (eBook x0 (a0_0, c0_0)))]) (fun s21 y22 => []) () [3, 1] [] 1 (fun s21 y22 t23 h29 hd30 => ?_))
   refine qs (qs (qr (oN 5 [(11, vb (decide (s21 < (x0.Rules.length : Int))))] [3, 1] ?_)))
   refine oe (nt (cC h29 (fun h35 => ?_) (fun h36 => ?_)))
   · refine qk (nt (qs (qb (qs (qr (oN 3 [(16, vi s21), (15, .v (.slice a0_0 x0.Rules.length c0_0))] [3, 1] ?_))))))
     obtain ⟨x37, hx38, h39⟩ := bS h35
     refine oi 7 (fun γ w hs => (hv0_0.kept hs.kept)) hx38 ?_
     obtain ⟨_, ⟨a40, c41, rfl, hv42⟩, hc43⟩ := SlView.at hv0_0 (idx_some hx38).2.2
     refine ol 69 0 (vRule x37 (a40, c41)) (fun γ w hs => ⟨(hv0_0.kept hs.kept).ne (idx_some hx38).2.2, hc43.kept hs.kept⟩) ?_
     refine oB 2 [(4, .p 1 0)] [3, 1] [(42, (eBook x0 (a0_0, c0_0))), (69, (eRule x37 (a40, c41)))] ?_
     refine oe (nt (qs (qs (qr (oN 1 [(19, .v (vRule x37 (a40, c41)))] [4, 3, 1] ?_)))))
     obtain ⟨t44, h45, h46⟩ := bS h39
     refine k0 (fun γ w hs => c_spec_RuleOk h45 (hv42.kept hs.kept)) ?_
     refine oN 1 [(21, vb (!t44))] [4, 3, 1] ?_
     refine oe (nt (cC h46 (fun h49 => ?_) (fun h50 => ?_)))
     · refine qs (qr (oN 1 [(2, vb false)] [] ?_))
       refine oe (nt (qe (nr (br (nr (nr ?_))))))
       have h51 := leafR hd30 h49 h26
       refine br (nr (nr ?_))
       obtain rfl := sI h51
       exact re [.bool false]
     refine qk (nt (qs (qr (oN 1 [(5, vi 0)] [4, 3, 1] ?_))))
     refine oe (nt ?_)
     obtain ⟨r55, hL56, h57⟩ := bS h50
     obtain ⟨k58, hk59, h57⟩ := brkS h57
     refine JC_cutP (τ := (Int × Int × Int × Int × Int × Int × Int) × (Unit)) (fun y => k58 y.1 = some t23) (fun y63 => [(3, vi y63.1.1), (1, .p 0 0)]) (fun y63 => [(42, (eBook x0 (a0_0, c0_0))), (69, (eRule (Rule.mk y63.1.2.1 y63.1.2.2.1 y63.1.2.2.2.1 y63.1.2.2.2.2.1 y63.1.2.2.2.2.2.1 y63.1.2.2.2.2.2.2 x37.Nodes) (a40, c41)))]) (fun y63 => []) ?_ (fun y63 h64p => ?_)
     · refine qb (lp Unit hL56 (fun s52 y53 => [(5, vi s52), (4, .p 1 0), (3, vi s21), (1, .p 0 0)]) (fun s52 y53 => [(42, (eBook x0 (a0_0, c0_0))), (69, (eRule x37 (a40, c41)))]) (fun s52 y53 => []) () [5, 4, 3, 1] [] 2 (fun s52 y53 t54 h60 hd61 => ?_))
       refine qs (qs (qr (oN 3 [(24, vb (decide (s52 < s21)))] [5, 4, 3, 1] ?_)))
       refine oe (nt (cC h60 (fun h66 => ?_) (fun h67 => ?_)))
       · refine qk (nt (qs (qb (qs (qr (oN 3 [(29, vi s52), (28, .v (.slice a0_0 x0.Rules.length c0_0))] [5, 4, 3, 1] ?_))))))
         obtain ⟨x68, hx69, h70⟩ := bS h66
         refine oi 7 (fun γ w hs => (hv0_0.kept hs.kept)) hx69 ?_
         obtain ⟨_, ⟨a71, c72, rfl, hv73⟩, hc74⟩ := SlView.at hv0_0 (idx_some hx69).2.2
         refine ol 69 0 (vRule x68 (a71, c72)) (fun γ w hs => ⟨(hv0_0.kept hs.kept).ne (idx_some hx69).2.2, hc74.kept hs.kept⟩) ?_
         refine oB 2 [(6, .p 2 0)] [5, 4, 3, 1] [(42, (eBook x0 (a0_0, c0_0))), (69, (eRule x37 (a40, c41))), (69, (eRule x68 (a71, c72)))] ?_
         refine oe (nt (qs ?_))
         obtain ⟨p75, hE76, h77⟩ := bS h70
         refine JC_cut (τ := Unit) (fun _ => [(1, .p 0 0), (3, vi s21), (4, .p 1 0), (5, vi s52), (55, vb p75)]) (fun _ => [(42, (eBook x0 (a0_0, c0_0))), (69, (eRule x37 (a40, c41))), (69, (eRule x68 (a71, c72)))]) (fun _ => []) ?_ (fun _ => ?_)
         · refine qr (oN 6 [(37, vb (x68.Name == x37.Name))] [6, 5, 4, 3, 1] ?_)
           refine oS 37 hE76 (fun h79 => ?_) (fun h80 => ?_)
           · refine oN 7 [(44, vb (x68.Rank == x37.Rank))] [6, 5, 4, 3, 1] ?_
             refine oS 44 h79 (fun h82 => ?_) (fun h83 => ?_)
             · refine oN 8 [(52, vi x37.To), (50, vi x37.From), (48, vi x68.To), (46, vi x68.From)] [44, 5, 4, 3, 1] ?_
               obtain ⟨t84, h85, h86⟩ := bS h82
               refine k0 (fun γ w hs => c_spec_MonthsIn h85) ?_
               refine oN 2 [(55, vb (decide (t84 > 0)))] [5, 4, 3, 1] ?_
               refine oe ?_
               obtain rfl := sI h86
               exact mt () [1, 3, 4, 5, 55] [] 3
             refine oN 11 [(55, vb false)] [5, 4, 3, 1] ?_
             refine oe ?_
             obtain rfl := sI h83
             exact mt () [1, 3, 4, 5, 55] [] 3
           refine oN 18 [(55, vb false)] [5, 4, 3, 1] ?_
           refine oe ?_
           obtain rfl := sI h80
           exact mt () [1, 3, 4, 5, 55] [] 3
         refine nt (cC h77 (fun h89 => ?_) (fun h90 => ?_))
         · refine qs (qr (oN 1 [(2, vb false)] [] ?_))
           refine oe (nt (qe (br (nr (nr ?_)))))
           have h91 := leafR hd61 h89 h57
           refine br (nr (br (nr (nr ?_))))
           have h92 := leafR hd30 h91 h26
           refine br (nr (nr ?_))
           obtain rfl := sI h92
           exact re [.bool false]
         refine qk (bn (nt (qr (oN 3 [(5, vi (w64 (s52 + 1)))] [1, 3, 4] ?_))))
         exact oe (ct h90 () [5, 4, 3, 1] [] 2)
       refine qx (nx (nx (bh ?_)))
       have h93 := leafB hd61 h67 h57
       exact mp ((s21, x37.Name, x37.From, x37.To, x37.Joined, x37.Rank, x37.Mode), ()) h93 [3, 1] [] 2
     have h64 := (congrFun hk59 _).symm.trans h64p
     refine bn (nt (qr (oN 3 [(3, vi (w64 (y63.1.1 + 1)))] [1] ?_)))
     exact oe (ct h64 () [3, 1] [] 1)
   refine qx (nx (nx (bh ?_)))
   have h94 := leafB hd30 h36 h26
   exact mp ((), ()) h94 [1] [] 1
 have h33 := (congrFun hk28 _).symm.trans h33p
 refine nt (qs (qr (oN 5 [(2, vb (decide ((x0.Rules.length : Int) ≤ 20)))] [] ?_)))
 refine oe (nt (qe ?_))
 obtain rfl := sI h33
 exact re [.bool (decide ((x0.Rules.length : Int) ≤ 20))]

theorem c_spec_AddRule {W : World} {x0 : Book} {a0_0 : Option Addr} {c0_0 : Nat} {x1 : Rule} {a1_0 : Option Addr} {c1_0 : Nat} {r : Book × Bool} (h : spec_AddRule x0 x1 = some r) (hv0_0 : SlView W x0.Rules a0_0 c0_0) (hv1_0 : SlView W x1.Nodes a1_0 c1_0) :
    Gives Tryz.prog 83 #[vBook x0 (a0_0, c0_0), vRule x1 (a1_0, c1_0)] W (fun y : AC => .tuple #[vBook r.1 y, .bool r.2]) (fun y => [SlRes 69 r.1.Rules y.1 y.2]) := by
 unfold spec_AddRule at h
 refine en Tryz.func83 Tryz.ntmps83 ?_
 refine qs (qr (oB 4 [(4, .p 2 0), (3, .p 1 0), (2, .p 0 0)] [] [(42, (eBook x0 (a0_0, c0_0))), (69, (eRule x1 (a1_0, c1_0))), (42, [.slice none 0 0])] ?_))
 refine oe (nt (qs (qr (oN 1 [(7, .v (vBook x0 (a0_0, c0_0)))] [4, 3, 2] ?_))))
 obtain ⟨t21, h22, h23⟩ := bS h
 refine k1 (fun γ w hs => c_spec_l10Copy h22 (hv0_0.kept hs.kept)) (fun y24 => ?_)
 refine oB 2 [(6, .p 3 0)] [4, 3, 2] [(42, (eBook x0 (a0_0, c0_0))), (69, (eRule x1 (a1_0, c1_0))), (42, [.slice none 0 0]), (42, (eBook t21 y24))] ?_
 refine oe (nt (qs ?_))
 obtain ⟨t25, h26, h27⟩ := bS h23
 obtain ⟨l31, hm32, h33⟩ := bS h27
 refine JC_cut (τ := AC) (fun y34 => [(6, .p 3 0), (4, .p 2 0), (2, .p 0 0)]) (fun y34 => [(42, (eBook x0 (a0_0, c0_0))), (69, (eRule x1 (a1_0, c1_0))), (42, [.slice none 0 0]), (42, (eBook (Book.mk l31) y34))]) (fun y34 => [SlRes 69 l31 y34.1 y34.2]) ?_ (fun y34 => ?_)
 · refine jw [6, 4, 3, 2] [0] ?_
   refine JC_heldN (ks := [0, 1, 2]) (Rk := []) 8 (by kernel_rfl) (by kernel_rfl) ?_
   refine htq 0 (.p 3 0) [] ?_
   refine htq 2 (.v (vRule x1 (a1_0, c1_0))) [] ?_
   refine hk [11, 9, 6, 4, 2] ?_
   refine ha2 1 3 ?_ ?_
   · refine hi (fun γ0 δ hm => ?_)
     refine gs [(10, .v (.slice y24.1 t21.Rules.length y24.2)), (11, .v (vRule x1 (a1_0, c1_0))), (9, .p 3 0), (6, .p 3 0), (4, .p 2 0), (2, .p 0 0)] [(42, (eBook x0 (a0_0, c0_0))), (69, (eRule x1 (a1_0, c1_0))), (42, [.slice none 0 0]), (42, (eBook t21 y24))] (fun δ2 => ?_)
     refine gd hm [10, 11, 6, 4, 2] [] ?_
     refine ha1 3 ?_
     refine hi (fun γ0 δ hm => ?_)
     refine g1 (fun w hs => c_spec_l10Rule h26 (hv1_0.kept hs.kept)) (fun y28 => ?_)
     refine gn hm [12, 10, 6, 4, 2] [] ?_
     refine ha1 4 ?_
     refine hi (fun γ0 δ hm => ?_)
     refine gb [SlRes 120 t25.Nodes y28.1 y28.2] [SlRes 69 t21.Rules y24.1 y24.2] 69 1 [.int .i64 t25.Name, .int .i64 t25.From, .int .i64 t25.To, .int .i64 t25.Joined, .int .i64 t25.Rank, .int .i64 t25.Mode, .slice y28.1 t25.Nodes.length y28.2] ([t25] : List Rule) (own_single (by rintro w Fs ⟨G0, _, rfl, h0, rfl⟩; exact ⟨120, y28.1, y28.2, G0, by simp, rfl, h0⟩)) (fun y29 => ?_)
     refine gn hm [13, 10, 6, 4, 2] [] ?_
     refine ha1 5 ?_
     refine hr_ [1, 0] ?_
     refine hi (fun γ0 δ hm => ?_)
     refine JG_appendR (α := Rule) (by kernel_rfl) (t := 40) (e := 69) (a1 := y24.1) (a2 := y29.1) (c1 := y24.2) (c2 := y29.2) (l1 := t21.Rules) (l2 := ([t25] : List Rule)) (by kernel_rfl) (i := Tryz.t69) (by kernel_rfl) (z := (vRule (Rule.mk 0 0 0 0 0 0 ([] : List Node)) (none, 0))) (by kernel_rfl) (by kernel_rfl) (by kernel_rfl) (by kernel_rfl) (Rr := []) rfl hm32 _ (fun _ => rfl) (fun y30 => ?_)
     refine gn hm [14, 6, 4, 2] [] ?_
     refine htq 6 (.p 3 0) [] ?_
     refine ha1 7 ?_
     refine hi (fun γ0 δ hm => ?_)
     refine gs [(15, .p 3 0), (14, .v (.slice y30.1 l31.length y30.2)), (6, .p 3 0), (4, .p 2 0), (2, .p 0 0)] [(42, (eBook x0 (a0_0, c0_0))), (69, (eRule x1 (a1_0, c1_0))), (42, [.slice none 0 0]), (42, (eBook (Book.mk l31) y30))] (fun δ2 => ?_)
     refine gd hm [6, 4, 2] [] ?_
     exact hd y30 [6, 4, 2] [0] 4
   · refine hi (fun γ0 δ hm => ?_)
     refine g1 (fun w hs => c_spec_l10Rule h26 (hv1_0.kept hs.kept)) (fun y28 => ?_)
     refine gn hm [12, 9, 6, 4, 2] [] ?_
     refine ha2 1 4 ?_ ?_
     · refine hi (fun γ0 δ hm => ?_)
       refine gs [(10, .v (.slice y24.1 t21.Rules.length y24.2)), (12, .v (vRule t25 y28)), (9, .p 3 0), (6, .p 3 0), (4, .p 2 0), (2, .p 0 0)] [(42, (eBook x0 (a0_0, c0_0))), (69, (eRule x1 (a1_0, c1_0))), (42, [.slice none 0 0]), (42, (eBook t21 y24))] (fun δ2 => ?_)
       refine gd hm [10, 12, 6, 4, 2] [] ?_
       refine ha1 4 ?_
       refine hi (fun γ0 δ hm => ?_)
       refine gb [SlRes 120 t25.Nodes y28.1 y28.2] [SlRes 69 t21.Rules y24.1 y24.2] 69 1 [.int .i64 t25.Name, .int .i64 t25.From, .int .i64 t25.To, .int .i64 t25.Joined, .int .i64 t25.Rank, .int .i64 t25.Mode, .slice y28.1 t25.Nodes.length y28.2] ([t25] : List Rule) (own_single (by rintro w Fs ⟨G0, _, rfl, h0, rfl⟩; exact ⟨120, y28.1, y28.2, G0, by simp, rfl, h0⟩)) (fun y29 => ?_)
       refine gn hm [13, 10, 6, 4, 2] [] ?_
       refine ha1 5 ?_
       refine hr_ [1, 0] ?_
       refine hi (fun γ0 δ hm => ?_)
       refine JG_appendR (α := Rule) (by kernel_rfl) (t := 40) (e := 69) (a1 := y24.1) (a2 := y29.1) (c1 := y24.2) (c2 := y29.2) (l1 := t21.Rules) (l2 := ([t25] : List Rule)) (by kernel_rfl) (i := Tryz.t69) (by kernel_rfl) (z := (vRule (Rule.mk 0 0 0 0 0 0 ([] : List Node)) (none, 0))) (by kernel_rfl) (by kernel_rfl) (by kernel_rfl) (by kernel_rfl) (Rr := []) rfl hm32 _ (fun _ => rfl) (fun y30 => ?_)
       refine gn hm [14, 6, 4, 2] [] ?_
       refine htq 6 (.p 3 0) [] ?_
       refine ha1 7 ?_
       refine hi (fun γ0 δ hm => ?_)
       refine gs [(15, .p 3 0), (14, .v (.slice y30.1 l31.length y30.2)), (6, .p 3 0), (4, .p 2 0), (2, .p 0 0)] [(42, (eBook x0 (a0_0, c0_0))), (69, (eRule x1 (a1_0, c1_0))), (42, [.slice none 0 0]), (42, (eBook (Book.mk l31) y30))] (fun δ2 => ?_)
       refine gd hm [6, 4, 2] [] ?_
       exact hd y30 [6, 4, 2] [0] 4
     · refine hi (fun γ0 δ hm => ?_)
       refine gb [SlRes 120 t25.Nodes y28.1 y28.2] [SlRes 69 t21.Rules y24.1 y24.2] 69 1 [.int .i64 t25.Name, .int .i64 t25.From, .int .i64 t25.To, .int .i64 t25.Joined, .int .i64 t25.Rank, .int .i64 t25.Mode, .slice y28.1 t25.Nodes.length y28.2] ([t25] : List Rule) (own_single (by rintro w Fs ⟨G0, _, rfl, h0, rfl⟩; exact ⟨120, y28.1, y28.2, G0, by simp, rfl, h0⟩)) (fun y29 => ?_)
       refine gn hm [13, 9, 6, 4, 2] [] ?_
       refine ha1 1 ?_
       refine hi (fun γ0 δ hm => ?_)
       refine gs [(10, .v (.slice y24.1 t21.Rules.length y24.2)), (13, .v (.slice y29.1 ([t25] : List Rule).length y29.2)), (9, .p 3 0), (6, .p 3 0), (4, .p 2 0), (2, .p 0 0)] [(42, (eBook x0 (a0_0, c0_0))), (69, (eRule x1 (a1_0, c1_0))), (42, [.slice none 0 0]), (42, (eBook t21 y24))] (fun δ2 => ?_)
       refine gd hm [10, 13, 6, 4, 2] [] ?_
       refine ha1 5 ?_
       refine hr_ [1, 0] ?_
       refine hi (fun γ0 δ hm => ?_)
       refine JG_appendR (α := Rule) (by kernel_rfl) (t := 40) (e := 69) (a1 := y24.1) (a2 := y29.1) (c1 := y24.2) (c2 := y29.2) (l1 := t21.Rules) (l2 := ([t25] : List Rule)) (by kernel_rfl) (i := Tryz.t69) (by kernel_rfl) (z := (vRule (Rule.mk 0 0 0 0 0 0 ([] : List Node)) (none, 0))) (by kernel_rfl) (by kernel_rfl) (by kernel_rfl) (by kernel_rfl) (Rr := []) rfl hm32 _ (fun _ => rfl) (fun y30 => ?_)
       refine gn hm [14, 6, 4, 2] [] ?_
       refine htq 6 (.p 3 0) [] ?_
       refine ha1 7 ?_
       refine hi (fun γ0 δ hm => ?_)
       refine gs [(15, .p 3 0), (14, .v (.slice y30.1 l31.length y30.2)), (6, .p 3 0), (4, .p 2 0), (2, .p 0 0)] [(42, (eBook x0 (a0_0, c0_0))), (69, (eRule x1 (a1_0, c1_0))), (42, [.slice none 0 0]), (42, (eBook (Book.mk l31) y30))] (fun δ2 => ?_)
       refine gd hm [6, 4, 2] [] ?_
       exact hd y30 [6, 4, 2] [0] 4
 refine nt (qs (qs ?_))
 obtain ⟨p35, hE36, h37⟩ := bS h33
 refine JC_cut (τ := Unit) (fun _ => [(2, .p 0 0), (4, .p 2 0), (6, .p 3 0), (23, vb p35)]) (fun _ => [(42, (eBook x0 (a0_0, c0_0))), (69, (eRule x1 (a1_0, c1_0))), (42, [.slice none 0 0]), (42, (eBook (Book.mk l31) y34))]) (fun _ => [SlRes 69 l31 y34.1 y34.2]) ?_ (fun _ => ?_)
 · refine qr (oN 1 [(16, .v (vBook x0 (a0_0, c0_0)))] [6, 4, 2] ?_)
   obtain ⟨t38, h39, h40⟩ := bS hE36
   refine k0 (fun γ w hs => c_spec_BookOk h39 (hv0_0.kept hs.kept)) ?_
   refine oN 2 [(19, vb (!t38))] [6, 4, 2] ?_
   refine oS 19 h40 (fun h43 => ?_) (fun h44 => ?_)
   · refine oN 4 [(23, vb true)] [6, 4, 2] ?_
     refine oe ?_
     obtain rfl := sI h43
     exact mt () [2, 4, 6, 23] [0] 4
   refine oN 1 [(20, .v (vBook (Book.mk l31) y34))] [19, 6, 4, 2] ?_
   obtain ⟨t45, h46, h47⟩ := bS h44
   refine k0 (fun γ w hs => c_spec_BookOk h46 (hs.view 0 rfl)) ?_
   refine oN 2 [(23, vb (!t45))] [6, 4, 2] ?_
   refine oe ?_
   obtain rfl := sI h47
   exact mt () [2, 4, 6, 23] [0] 4
 refine nt (cC h37 (fun h54 => ?_) (fun h55 => ?_))
 · refine qs (qr (oN 1 [(24, .v (vBook x0 (a0_0, c0_0)))] [4] ?_))
   obtain ⟨t56, h57, h58⟩ := bS h54
   refine k1 (fun γ w hs => c_spec_l10Copy h57 (hv0_0.kept hs.kept)) (fun y59 => ?_)
   refine oB 2 [(5, vb false)] [4] [(42, (eBook x0 (a0_0, c0_0))), (69, (eRule x1 (a1_0, c1_0))), (42, (eBook t56 y59)), (42, (eBook (Book.mk l31) y34))] ?_
   refine oe (nt (qe (nr (rt [vBook t56 y59, .bool false] (fun γ w hs => ?_)))))
   rw [← sI h58]
   exact ⟨y59, rfl, hs.kept.toBelow, (hs.takeR (is := [0]) rfl).fresh⟩
 refine qk (nt (qs (qr (oB 3 [(5, vb true)] [4] [(42, (eBook x0 (a0_0, c0_0))), (69, (eRule x1 (a1_0, c1_0))), (42, (eBook (Book.mk l31) y34)), (42, (eBook (Book.mk l31) y34))] ?_))))
 refine oe (nt (qe (rt [vBook (Book.mk l31) y34, .bool true] (fun γ w hs => ?_))))
 rw [← sI h55]
 exact ⟨y34, rfl, hs.kept.toBelow, (hs.takeR (is := [0]) rfl).fresh⟩

theorem c_spec_WithRule {W : World} {x0 : Case} {b0 : AC × AC × AC × AC × AC} {x1 : Rule} {a1_0 : Option Addr} {c1_0 : Nat} {r : Case × Bool} (h : spec_WithRule x0 x1 = some r) (hv0_0 : SlView W x0.Book.Rules b0.1.1 b0.1.2) (hv0_1 : SlView W x0.Store.Facts b0.2.1.1 b0.2.1.2) (hv0_2 : SlView W x0.Series.Points b0.2.2.1.1 b0.2.2.1.2) (hv0_3 : SlView W x0.Member.Spells b0.2.2.2.1.1 b0.2.2.2.1.2) (hv0_4 : SlView W x0.Member.Events b0.2.2.2.2.1 b0.2.2.2.2.2) (hv1_0 : SlView W x1.Nodes a1_0 c1_0) :
    Gives Tryz.prog 24 #[vCase x0 b0, vRule x1 (a1_0, c1_0)] W (fun y : AC × AC × AC × AC × AC => .tuple #[vCase r.1 y, .bool r.2]) (fun y => [SlRes 69 r.1.Book.Rules y.1.1 y.1.2, SlRes 203 r.1.Store.Facts y.2.1.1 y.2.1.2, SlRes 207 r.1.Series.Points y.2.2.1.1 y.2.2.1.2, SlRes 211 r.1.Member.Spells y.2.2.2.1.1 y.2.2.2.1.2, SlRes 215 r.1.Member.Events y.2.2.2.2.1 y.2.2.2.2.2]) := by
 unfold spec_WithRule at h
 refine en Tryz.func24 Tryz.ntmps24 ?_
 refine qs (qr (oB 4 [(4, .p 2 0), (3, .p 1 0), (2, .p 0 0)] [] [(54, (eCase x0 b0)), (69, (eRule x1 (a1_0, c1_0))), (54, [.slice none 0 0, .slice none 0 0, .slice none 0 0, .int .i64 0, .int .i64 0, .slice none 0 0, .slice none 0 0])] ?_))
 refine oe (nt (qs (qr (oN 1 [(9, .v (vCase x0 b0))] [4, 3, 2] ?_))))
 obtain ⟨t21, h22, h23⟩ := bS h
 refine k1 (fun γ w hs => c_spec_l35Case (b0 := b0) h22 (hv0_0.kept hs.kept) (hv0_1.kept hs.kept) (hv0_2.kept hs.kept) (hv0_3.kept hs.kept) (hv0_4.kept hs.kept)) (fun y24 => ?_)
 refine oB 2 [(6, .p 3 0)] [4, 3, 2] [(54, (eCase x0 b0)), (69, (eRule x1 (a1_0, c1_0))), (54, [.slice none 0 0, .slice none 0 0, .slice none 0 0, .int .i64 0, .int .i64 0, .slice none 0 0, .slice none 0 0]), (54, (eCase t21 y24))] ?_
 refine oe (nt (qs (qr (oN 3 [(14, .v (vRule x1 (a1_0, c1_0))), (13, .v (vBook x0.Book b0.1))] [6, 4] ?_))))
 obtain ⟨t25, h26, h27⟩ := bS h23
 refine k1 (fun γ w hs => c_spec_AddRule h26 (hv0_0.kept hs.kept) (hv1_0.kept hs.kept)) (fun y28 => ?_)
 refine oB 6 [(8, vb t25.2), (7, .p 4 0)] [6, 4] [(54, (eCase x0 b0)), (69, (eRule x1 (a1_0, c1_0))), (54, [.slice none 0 0, .slice none 0 0, .slice none 0 0, .int .i64 0, .int .i64 0, .slice none 0 0, .slice none 0 0]), (54, (eCase t21 y24)), (42, (eBook t25.1 y28))] ?_
 refine oe (nt (qs (qr (oB 3 [] [8, 6, 4] [(54, (eCase x0 b0)), (69, (eRule x1 (a1_0, c1_0))), (54, [.slice none 0 0, .slice none 0 0, .slice none 0 0, .int .i64 0, .int .i64 0, .slice none 0 0, .slice none 0 0]), (54, (eCase (Case.mk t25.1 t21.Store t21.Series t21.Member) (y28, y24.2.1, y24.2.2.1, y24.2.2.2.1, y24.2.2.2.2))), (42, (eBook t25.1 y28))] ?_))))
 refine oe (nt (qs (qr (oB 4 [(5, vb t25.2)] [4] [(54, (eCase x0 b0)), (69, (eRule x1 (a1_0, c1_0))), (54, (eCase (Case.mk t25.1 t21.Store t21.Series t21.Member) (y28, y24.2.1, y24.2.2.1, y24.2.2.2.1, y24.2.2.2.2))), (54, (eCase (Case.mk t25.1 t21.Store t21.Series t21.Member) (y28, y24.2.1, y24.2.2.1, y24.2.2.2.1, y24.2.2.2.2))), (42, (eBook t25.1 y28))] ?_))))
 refine oe (nt (qe (rt [vCase (Case.mk t25.1 t21.Store t21.Series t21.Member) (y28, y24.2.1, y24.2.2.1, y24.2.2.2.1, y24.2.2.2.2), .bool t25.2] (fun γ w hs => ?_))))
 rw [← sI h27]
 exact ⟨(y28, y24.2.1, y24.2.2.1, y24.2.2.2.1, y24.2.2.2.2), rfl, hs.kept.toBelow, (hs.takeR (is := [0, 1, 1, 1, 1]) rfl).fresh⟩

theorem c_spec_MonthOk {W : World} {x0 : Int} {r : Bool} (h : spec_MonthOk x0 = some r)  :
    Gives0 Tryz.prog 100 #[.int .i64 x0] W (.bool r) := by
 unfold spec_MonthOk at h
 refine en Tryz.func100 Tryz.ntmps100 ?_
 refine qs (qr (oN 1 [] [0] ?_))
 refine oe (nt (qs (qr (oN 1 [(3, vi x0)] [] ?_))))
 obtain ⟨t21, h22, h23⟩ := bS h
 refine k0 (fun γ w hs => c_spec_l01In h22) ?_
 refine oN 1 [(2, vb t21)] [] ?_
 refine oe (nt (qe ?_))
 obtain rfl := sI h23
 exact re [.bool t21]

theorem c_spec_FactOk {W : World} {x0 : Fact} {r : Bool} (h : spec_FactOk x0 = some r)  :
    Gives0 Tryz.prog 202 #[vFact x0] W (.bool r) := by
 unfold spec_FactOk at h
 refine en Tryz.func202 Tryz.ntmps202 ?_
 refine qs (qr (oB 2 [(1, .p 0 0)] [] [(203, (eFact x0))] ?_))
 refine oe (nt (qs ?_))
 obtain ⟨p21, hE22, h23⟩ := bS h
 refine JC_cut (τ := Unit) (fun _ => [(2, vb p21)]) (fun _ => [(203, (eFact x0))]) (fun _ => []) ?_ (fun _ => ?_)
 · refine qr (oN 2 [(4, vi x0.Key)] [1] ?_)
   obtain ⟨t24, h25, h26⟩ := bS hE22
   refine k0 (fun γ w hs => c_spec_l01In h25) ?_
   refine oN 1 [(6, vb t24)] [1] ?_
   refine oS 6 h26 (fun h29 => ?_) (fun h30 => ?_)
   · refine oN 5 [(11, vb (decide (x0.From ≥ 0)))] [1] ?_
     refine oS 11 h29 (fun h32 => ?_) (fun h33 => ?_)
     · refine oN 7 [(18, vb (decide (x0.From < x0.To)))] [1] ?_
       refine oS 18 h32 (fun h35 => ?_) (fun h36 => ?_)
       · refine oN 5 [(23, vb (decide (x0.To ≤ 3600)))] [1] ?_
         refine oS 23 h35 (fun h38 => ?_) (fun h39 => ?_)
         · refine oN 2 [(25, vi x0.Known)] [23, 1] ?_
           obtain ⟨t40, h41, h42⟩ := bS h38
           refine k0 (fun γ w hs => c_spec_MonthOk h41) ?_
           refine oN 2 [(28, vb t40)] [1] ?_
           refine oS 28 h42 (fun h45 => ?_) (fun h46 => ?_)
           · refine oN 2 [(30, vi x0.Value)] [28] ?_
             obtain ⟨t47, h48, h49⟩ := bS h45
             refine k0 (fun γ w hs => c_spec_l01In h48) ?_
             refine oN 2 [(2, vb t47)] [] ?_
             refine oe ?_
             obtain rfl := sI h49
             exact mt () [2] [] 1
           refine oN 5 [(2, vb false)] [] ?_
           refine oe ?_
           obtain rfl := sI h46
           exact mt () [2] [] 1
         refine oN 10 [(2, vb false)] [] ?_
         refine oe ?_
         obtain rfl := sI h39
         exact mt () [2] [] 1
       refine oN 15 [(2, vb false)] [] ?_
       refine oe ?_
       obtain rfl := sI h36
       exact mt () [2] [] 1
     refine oN 22 [(2, vb false)] [] ?_
     refine oe ?_
     obtain rfl := sI h33
     exact mt () [2] [] 1
   refine oN 27 [(2, vb false)] [] ?_
   refine oe ?_
   obtain rfl := sI h30
   exact mt () [2] [] 1
 refine nt (qe ?_)
 obtain rfl := sI h23
 exact re [.bool p21]

theorem c_spec_StoreOk {W : World} {x0 : Store} {a0_0 : Option Addr} {c0_0 : Nat} {r : Bool} (h : spec_StoreOk x0 = some r) (hv0_0 : SlView W x0.Facts a0_0 c0_0) :
    Gives0 Tryz.prog 150 #[vStore x0 (a0_0, c0_0)] W (.bool r) := by
 unfold spec_StoreOk at h
 refine en Tryz.func150 Tryz.ntmps150 ?_
 refine qs (qr (oB 2 [(1, .p 0 0)] [] [(45, (eStore x0 (a0_0, c0_0)))] ?_))
 refine oe (nt (qs (qs (qr (oN 1 [(3, vi 0)] [1] ?_)))))
 refine oe (nt ?_)
 obtain ⟨r24, hL25, h26⟩ := bS h
 obtain ⟨k27, hk28, h26⟩ := brkS h26
 refine JC_cutP (τ := (Unit) × (Unit)) (fun y => k27 y.1 = some r) (fun y32 => [(1, .p 0 0)]) (fun y32 => [(45, (eStore x0 (a0_0, c0_0)))]) (fun y32 => []) ?_ (fun y32 h33p => ?_)
 · refine qb (lp Unit hL25 (fun s21 y22 => [(3, vi s21), (1, .p 0 0)]) (fun s21 y22 => [(45, (eStore x0 (a0_0, c0_0)))]) (fun s21 y22 => []) () [3, 1] [] 1 (fun s21 y22 t23 h29 hd30 => ?_))
   refine qs (qs (qr (oN 5 [(8, vb (decide (s21 < (x0.Facts.length : Int))))] [3, 1] ?_)))
   refine oe (nt (cC h29 (fun h35 => ?_) (fun h36 => ?_)))
   · refine qk (nt (qs (qb (qs ?_))))
     obtain ⟨p37, hE38, h39⟩ := bS h35
     refine JC_cut (τ := Unit) (fun _ => [(1, .p 0 0), (3, vi s21), (37, vb p37)]) (fun _ => [(45, (eStore x0 (a0_0, c0_0)))]) (fun _ => []) ?_ (fun _ => ?_)
     · refine JC_quiet (by kernel_rfl) (by kernel_rfl) ?_
       refine qN 3 [(13, vi s21), (12, .v (.slice a0_0 x0.Facts.length c0_0))] [3, 1] ?_
       obtain ⟨x40, hx41, h42⟩ := bS hE38
       refine qi 5 (fun γ w hs => (hv0_0.kept hs.kept)) hx41 ?_
       refine ql 203 0 (vFact x40) (fun γ w hs => (hv0_0.kept hs.kept).flatq hx41) ?_
       obtain ⟨t43, h44, h45⟩ := bS h42
       refine q0 (fun γ w hs => c_spec_FactOk h44) ?_
       refine qN 2 [(18, vb (!t43))] [3, 1] ?_
       refine qS 18 h45 (fun h48 => ?_) (fun h49 => ?_)
       · refine qN 19 [(37, vb true)] [3, 1] ?_
         refine qz ?_
         obtain rfl := sI h48
         exact mt () [1, 3, 37] [] 1
       refine qN 3 [(21, vb (decide (s21 > 0)))] [18, 3, 1] ?_
       refine qS 21 h49 (fun h51 => ?_) (fun h52 => ?_)
       · refine qN 4 [(25, vi (w64 (s21 - 1))), (23, .v (.slice a0_0 x0.Facts.length c0_0))] [21, 18, 3, 1] ?_
         obtain ⟨x53, hx54, h55⟩ := bS h51
         refine qi 5 (fun γ w hs => (hv0_0.kept hs.kept)) hx54 ?_
         refine qN 1 [(27, .q a0_0 (Int.toNat (w64 (s21 - 1)) * 5 + 3))] [21, 18, 3, 1] ?_
         refine ql 3 3 (.int .i64 x53.Known) (fun γ w hs => (hv0_0.kept hs.kept).flatq hx54) ?_
         refine qN 3 [(31, vi s21), (30, .v (.slice a0_0 x0.Facts.length c0_0))] [28, 21, 18, 3, 1] ?_
         obtain ⟨x56, hx57, h58⟩ := bS h55
         refine qi 5 (fun γ w hs => (hv0_0.kept hs.kept)) hx57 ?_
         refine qN 1 [(33, .q a0_0 (Int.toNat s21 * 5 + 3))] [28, 21, 18, 3, 1] ?_
         refine ql 3 3 (.int .i64 x56.Known) (fun γ w hs => (hv0_0.kept hs.kept).flatq hx57) ?_
         refine qN 3 [(37, vb (decide (x53.Known > x56.Known)))] [3, 1] ?_
         refine qz ?_
         obtain rfl := sI h58
         exact mt () [1, 3, 37] [] 1
       refine qN 16 [(37, vb false)] [3, 1] ?_
       refine qz ?_
       obtain rfl := sI h52
       exact mt () [1, 3, 37] [] 1
     refine nt (cC h39 (fun h60 => ?_) (fun h61 => ?_))
     · refine qs (qr (oN 1 [(2, vb false)] [] ?_))
       refine oe (nt (qe (br (nr (nr ?_)))))
       have h62 := leafR hd30 h60 h26
       refine br (nr (nr ?_))
       obtain rfl := sI h62
       exact re [.bool false]
     refine qk (bn (nt (qr (oN 3 [(3, vi (w64 (s21 + 1)))] [1] ?_))))
     exact oe (ct h61 () [3, 1] [] 1)
   refine qx (nx (nx (bh ?_)))
   have h63 := leafB hd30 h36 h26
   exact mp ((), ()) h63 [1] [] 1
 have h33 := (congrFun hk28 _).symm.trans h33p
 refine nt (qs (qr (oN 5 [(2, vb (decide ((x0.Facts.length : Int) ≤ 200)))] [] ?_)))
 refine oe (nt (qe ?_))
 obtain rfl := sI h33
 exact re [.bool (decide ((x0.Facts.length : Int) ≤ 200))]

theorem c_spec_SeriesOk {W : World} {x0 : Series} {a0_0 : Option Addr} {c0_0 : Nat} {r : Bool} (h : spec_SeriesOk x0 = some r) (hv0_0 : SlView W x0.Points a0_0 c0_0) :
    Gives0 Tryz.prog 151 #[vSeries x0 (a0_0, c0_0)] W (.bool r) := by
 unfold spec_SeriesOk at h
 refine en Tryz.func151 Tryz.ntmps151 ?_
 refine qs (qr (oB 2 [(1, .p 0 0)] [] [(48, (eSeries x0 (a0_0, c0_0)))] ?_))
 refine oe (nt (qs (qs (qr (oN 1 [(3, vi 0)] [1] ?_)))))
 refine oe (nt ?_)
 obtain ⟨r24, hL25, h26⟩ := bS h
 obtain ⟨k27, hk28, h26⟩ := brkS h26
 refine JC_cutP (τ := (Unit) × (Unit)) (fun y => k27 y.1 = some r) (fun y32 => [(1, .p 0 0)]) (fun y32 => [(48, (eSeries x0 (a0_0, c0_0)))]) (fun y32 => []) ?_ (fun y32 h33p => ?_)
 · refine qb (lp Unit hL25 (fun s21 y22 => [(3, vi s21), (1, .p 0 0)]) (fun s21 y22 => [(48, (eSeries x0 (a0_0, c0_0)))]) (fun s21 y22 => []) () [3, 1] [] 1 (fun s21 y22 t23 h29 hd30 => ?_))
   refine qs (qs (qr (oN 5 [(9, vb (decide (s21 < (x0.Points.length : Int))))] [3, 1] ?_)))
   refine oe (nt (cC h29 (fun h35 => ?_) (fun h36 => ?_)))
   · refine qk (nt (qs (qb (qs (qr (oN 3 [(14, vi s21), (13, .v (.slice a0_0 x0.Points.length c0_0))] [3, 1] ?_))))))
     obtain ⟨x37, hx38, h39⟩ := bS h35
     refine oi 3 (fun γ w hs => (hv0_0.kept hs.kept)) hx38 ?_
     refine ol 207 0 (vPoint x37) (fun γ w hs => (hv0_0.kept hs.kept).flatq hx38) ?_
     refine oB 2 [(4, .p 1 0)] [3, 1] [(48, (eSeries x0 (a0_0, c0_0))), (207, (ePoint x37))] ?_
     refine oe (nt (qs ?_))
     obtain ⟨p40, hE41, h42⟩ := bS h39
     refine JC_cut (τ := Unit) (fun _ => [(1, .p 0 0), (3, vi s21), (55, vb p40)]) (fun _ => [(48, (eSeries x0 (a0_0, c0_0))), (207, (ePoint x37))]) (fun _ => []) ?_ (fun _ => ?_)
     · refine JC_quiet (by kernel_rfl) (by kernel_rfl) ?_
       refine qN 2 [(18, vi x37.Month)] [4, 3, 1] ?_
       obtain ⟨t43, h44, h45⟩ := bS hE41
       refine q0 (fun γ w hs => c_spec_MonthOk h44) ?_
       refine qN 2 [(21, vb (!t43))] [4, 3, 1] ?_
       refine qS 21 h45 (fun h48 => ?_) (fun h49 => ?_)
       · refine qN 34 [(55, vb true)] [3, 1] ?_
         refine qz ?_
         obtain rfl := sI h48
         exact mt () [1, 3, 55] [] 2
       refine qN 2 [(23, vi x37.Known)] [21, 4, 3, 1] ?_
       obtain ⟨t50, h51, h52⟩ := bS h49
       refine q0 (fun γ w hs => c_spec_MonthOk h51) ?_
       refine qN 3 [(27, vb (!t50))] [4, 3, 1] ?_
       refine qS 27 h52 (fun h55 => ?_) (fun h56 => ?_)
       · refine qN 28 [(55, vb true)] [3, 1] ?_
         refine qz ?_
         obtain rfl := sI h55
         exact mt () [1, 3, 55] [] 2
       refine qN 7 [(34, vb (decide (x37.Known < x37.Month)))] [4, 3, 1] ?_
       refine qS 34 h56 (fun h58 => ?_) (fun h59 => ?_)
       · refine qN 21 [(55, vb true)] [3, 1] ?_
         refine qz ?_
         obtain rfl := sI h58
         exact mt () [1, 3, 55] [] 2
       refine qN 2 [(36, vi x37.Value)] [34, 4, 3, 1] ?_
       obtain ⟨t60, h61, h62⟩ := bS h59
       refine q0 (fun γ w hs => c_spec_l01In h61) ?_
       refine qN 3 [(40, vb (!t60))] [4, 3, 1] ?_
       refine qS 40 h62 (fun h65 => ?_) (fun h66 => ?_)
       · refine qN 15 [(55, vb true)] [3, 1] ?_
         refine qz ?_
         obtain rfl := sI h65
         exact mt () [1, 3, 55] [] 2
       refine qN 3 [(43, vb (decide (s21 > 0)))] [40, 4, 3, 1] ?_
       refine qS 43 h66 (fun h68 => ?_) (fun h69 => ?_)
       · refine qN 4 [(47, vi (w64 (s21 - 1))), (45, .v (.slice a0_0 x0.Points.length c0_0))] [43, 40, 4, 3, 1] ?_
         obtain ⟨x70, hx71, h72⟩ := bS h68
         refine qi 3 (fun γ w hs => (hv0_0.kept hs.kept)) hx71 ?_
         refine qN 1 [(49, .q a0_0 (Int.toNat (w64 (s21 - 1)) * 3 + 1))] [43, 40, 4, 3, 1] ?_
         refine ql 3 1 (.int .i64 x70.Known) (fun γ w hs => (hv0_0.kept hs.kept).flatq hx71) ?_
         refine qN 5 [(55, vb (decide (x70.Known > x37.Known)))] [3, 1] ?_
         refine qz ?_
         obtain rfl := sI h72
         exact mt () [1, 3, 55] [] 2
       refine qN 12 [(55, vb false)] [3, 1] ?_
       refine qz ?_
       obtain rfl := sI h69
       exact mt () [1, 3, 55] [] 2
     refine nt (cC h42 (fun h74 => ?_) (fun h75 => ?_))
     · refine qs (qr (oN 1 [(2, vb false)] [] ?_))
       refine oe (nt (qe (br (nr (nr ?_)))))
       have h76 := leafR hd30 h74 h26
       refine br (nr (nr ?_))
       obtain rfl := sI h76
       exact re [.bool false]
     refine qk (bn (nt (qr (oN 3 [(3, vi (w64 (s21 + 1)))] [1] ?_))))
     exact oe (ct h75 () [3, 1] [] 1)
   refine qx (nx (nx (bh ?_)))
   have h77 := leafB hd30 h36 h26
   exact mp ((), ()) h77 [1] [] 1
 have h33 := (congrFun hk28 _).symm.trans h33p
 refine nt (qs (qr (oN 5 [(2, vb (decide ((x0.Points.length : Int) ≤ 200)))] [] ?_)))
 refine oe (nt (qe ?_))
 obtain rfl := sI h33
 exact re [.bool (decide ((x0.Points.length : Int) ≤ 200))]

theorem c_spec_SpellsOk {W : World} {x0 : List Spell} {a0_0 : Option Addr} {c0_0 : Nat} {r : Bool} (h : spec_SpellsOk x0 = some r) (hv0_0 : SlView W x0 a0_0 c0_0) :
    Gives0 Tryz.prog 203 #[.slice a0_0 x0.length c0_0] W (.bool r) := by
 unfold spec_SpellsOk at h
 refine en Tryz.func203 Tryz.ntmps203 ?_
 refine qs (qr (oN 1 [] [0] ?_))
 refine oe (nt (qs (qs (qr (oN 1 [(3, vi 0)] [0] ?_)))))
 refine oe (nt ?_)
 obtain ⟨r24, hL25, h26⟩ := bS h
 obtain ⟨k27, hk28, h26⟩ := brkS h26
 refine JC_cutP (τ := (Unit) × (Unit)) (fun y => k27 y.1 = some r) (fun y32 => [(0, .v (.slice a0_0 x0.length c0_0))]) (fun y32 => []) (fun y32 => []) ?_ (fun y32 h33p => ?_)
 · refine qb (lp Unit hL25 (fun s21 y22 => [(3, vi s21), (0, .v (.slice a0_0 x0.length c0_0))]) (fun s21 y22 => []) (fun s21 y22 => []) () [3, 0] [] 0 (fun s21 y22 t23 h29 hd30 => ?_))
   refine qs (qs (qr (oN 4 [(8, vb (decide (s21 < (x0.length : Int))))] [3, 0] ?_)))
   refine oe (nt (cC h29 (fun h35 => ?_) (fun h36 => ?_)))
   · refine qk (nt (qs (qb (qs (qr (oN 2 [(12, vi s21), (11, .v (.slice a0_0 x0.length c0_0))] [3, 0] ?_))))))
     obtain ⟨x37, hx38, h39⟩ := bS h35
     refine oi 4 (fun γ w hs => (hv0_0.kept hs.kept)) hx38 ?_
     refine ol 211 0 (vSpell x37) (fun γ w hs => (hv0_0.kept hs.kept).flatq hx38) ?_
     refine oB 2 [(4, .p 0 0)] [3, 0] [(211, (eSpell x37))] ?_
     refine oe (nt (qs ?_))
     obtain ⟨p40, hE41, h42⟩ := bS h39
     refine JC_cut (τ := Unit) (fun _ => [(0, .v (.slice a0_0 x0.length c0_0)), (3, vi s21), (50, vb p40)]) (fun _ => [(211, (eSpell x37))]) (fun _ => []) ?_ (fun _ => ?_)
     · refine JC_quiet (by kernel_rfl) (by kernel_rfl) ?_
       refine qN 4 [(18, vb (decide (x37.From < 0)))] [4, 3, 0] ?_
       refine qS 18 hE41 (fun h44 => ?_) (fun h45 => ?_)
       · refine qN 32 [(50, vb true)] [3, 0] ?_
         refine qz ?_
         obtain rfl := sI h44
         exact mt () [0, 3, 50] [] 1
       refine qN 7 [(25, vb (decide (x37.From ≥ x37.To)))] [4, 3, 0] ?_
       refine qS 25 h45 (fun h47 => ?_) (fun h48 => ?_)
       · refine qN 25 [(50, vb true)] [3, 0] ?_
         refine qz ?_
         obtain rfl := sI h47
         exact mt () [0, 3, 50] [] 1
       refine qN 5 [(30, vb (decide (x37.To > 3600)))] [4, 3, 0] ?_
       refine qS 30 h48 (fun h50 => ?_) (fun h51 => ?_)
       · refine qN 20 [(50, vb true)] [3, 0] ?_
         refine qz ?_
         obtain rfl := sI h50
         exact mt () [0, 3, 50] [] 1
       refine qN 2 [(32, vi x37.Percent)] [30, 4, 3, 0] ?_
       obtain ⟨t52, h53, h54⟩ := bS h51
       refine q0 (fun γ w hs => c_spec_l01In h53) ?_
       refine qN 3 [(36, vb (!t52))] [4, 3, 0] ?_
       refine qS 36 h54 (fun h57 => ?_) (fun h58 => ?_)
       · refine qN 14 [(50, vb true)] [3, 0] ?_
         refine qz ?_
         obtain rfl := sI h57
         exact mt () [0, 3, 50] [] 1
       refine qN 3 [(39, vb (decide (s21 > 0)))] [36, 4, 3, 0] ?_
       refine qS 39 h58 (fun h60 => ?_) (fun h61 => ?_)
       · refine qN 3 [(42, vi (w64 (s21 - 1))), (40, .v (.slice a0_0 x0.length c0_0))] [39, 36, 4, 3, 0] ?_
         obtain ⟨x62, hx63, h64⟩ := bS h60
         refine qi 4 (fun γ w hs => (hv0_0.kept hs.kept)) hx63 ?_
         refine qN 1 [(44, .q a0_0 (Int.toNat (w64 (s21 - 1)) * 4 + 1))] [39, 36, 4, 3, 0] ?_
         refine ql 3 1 (.int .i64 x62.To) (fun γ w hs => (hv0_0.kept hs.kept).flatq hx63) ?_
         refine qN 5 [(50, vb (decide (x62.To > x37.From)))] [3, 0] ?_
         refine qz ?_
         obtain rfl := sI h64
         exact mt () [0, 3, 50] [] 1
       refine qN 11 [(50, vb false)] [3, 0] ?_
       refine qz ?_
       obtain rfl := sI h61
       exact mt () [0, 3, 50] [] 1
     refine nt (cC h42 (fun h66 => ?_) (fun h67 => ?_))
     · refine qs (qr (oN 1 [(2, vb false)] [] ?_))
       refine oe (nt (qe (br (nr (nr ?_)))))
       have h68 := leafR hd30 h66 h26
       refine br (nr (nr ?_))
       obtain rfl := sI h68
       exact re [.bool false]
     refine qk (bn (nt (qr (oN 3 [(3, vi (w64 (s21 + 1)))] [0] ?_))))
     exact oe (ct h67 () [3, 0] [] 0)
   refine qx (nx (nx (bh ?_)))
   have h69 := leafB hd30 h36 h26
   exact mp ((), ()) h69 [0] [] 0
 have h33 := (congrFun hk28 _).symm.trans h33p
 refine nt (qs (qr (oN 4 [(2, vb (decide ((x0.length : Int) ≤ 30)))] [] ?_)))
 refine oe (nt (qe ?_))
 obtain rfl := sI h33
 exact re [.bool (decide ((x0.length : Int) ≤ 30))]

theorem c_spec_StatusAfter {W : World} {x0 : Int} {x1 : Int} {r : Int × Bool} (h : spec_StatusAfter x0 x1 = some r)  :
    Gives0 Tryz.prog 215 #[.int .i64 x0, .int .i64 x1] W (.tuple #[.int .i64 r.1, .bool r.2]) := by
 unfold spec_StatusAfter at h
 refine en Tryz.func215 Tryz.ntmps215 ?_
 refine qs (qr (oN 2 [] [0, 1] ?_))
 refine oe (nt (qs (qb (qs ?_))))
 obtain ⟨p21, hE22, h23⟩ := bS h
 refine JC_cut (τ := Unit) (fun _ => [(0, vi x0), (1, vi x1), (6, vb p21)]) (fun _ => []) (fun _ => []) ?_ (fun _ => ?_)
 · refine qr (oN 3 [(9, vb (x1 == 1))] [0, 1] ?_)
   refine oS 9 hE22 (fun h25 => ?_) (fun h26 => ?_)
   · refine oN 3 [(12, vb (x0 == 0))] [9, 0, 1] ?_
     refine oS 12 h25 (fun h28 => ?_) (fun h29 => ?_)
     · refine oN 5 [(6, vb true)] [0, 1] ?_
       refine oe ?_
       obtain rfl := sI h28
       exact mt () [0, 1, 6] [] 0
     refine oN 5 [(6, vb (x0 == 2))] [0, 1] ?_
     refine oe ?_
     obtain rfl := sI h29
     exact mt () [0, 1, 6] [] 0
   refine oN 8 [(6, vb false)] [0, 1] ?_
   refine oe ?_
   obtain rfl := sI h26
   exact mt () [0, 1, 6] [] 0
 refine nt (cC h23 (fun h65 => ?_) (fun h66 => ?_))
 · refine qs (qr (oN 2 [(5, vb true), (4, vi 1)] [] ?_))
   refine oe (nt (qe (br (nr ?_))))
   obtain rfl := sI h65
   exact re [.int .i64 1, .bool true]
 refine qs ?_
 obtain ⟨p67, hE68, h69⟩ := bS h66
 refine JC_cut (τ := Unit) (fun _ => [(0, vi x0), (1, vi x1), (17, vb p67)]) (fun _ => []) (fun _ => []) ?_ (fun _ => ?_)
 · refine qr (oN 3 [(20, vb (x1 == 2))] [0, 1] ?_)
   refine oS 20 hE68 (fun h71 => ?_) (fun h72 => ?_)
   · refine oN 4 [(17, vb (x0 == 1))] [0, 1] ?_
     refine oe ?_
     obtain rfl := sI h71
     exact mt () [0, 1, 17] [] 0
   refine oN 4 [(17, vb false)] [0, 1] ?_
   refine oe ?_
   obtain rfl := sI h72
   exact mt () [0, 1, 17] [] 0
 refine nt (cC h69 (fun h99 => ?_) (fun h100 => ?_))
 · refine qs (qr (oN 2 [(5, vb true), (4, vi 2)] [] ?_))
   refine oe (nt (qe (br (nr ?_))))
   obtain rfl := sI h99
   exact re [.int .i64 2, .bool true]
 refine qs ?_
 obtain ⟨p101, hE102, h103⟩ := bS h100
 refine JC_cut (τ := Unit) (fun _ => [(0, vi x0), (1, vi x1), (24, vb p101)]) (fun _ => []) (fun _ => []) ?_ (fun _ => ?_)
 · refine qr (oN 3 [(27, vb (x1 == 3))] [0, 1] ?_)
   refine oS 27 hE102 (fun h105 => ?_) (fun h106 => ?_)
   · refine oN 3 [(30, vb (x0 == 1))] [27, 0, 1] ?_
     refine oS 30 h105 (fun h108 => ?_) (fun h109 => ?_)
     · refine oN 5 [(24, vb true)] [0, 1] ?_
       refine oe ?_
       obtain rfl := sI h108
       exact mt () [0, 1, 24] [] 0
     refine oN 5 [(24, vb (x0 == 2))] [0, 1] ?_
     refine oe ?_
     obtain rfl := sI h109
     exact mt () [0, 1, 24] [] 0
   refine oN 8 [(24, vb false)] [0, 1] ?_
   refine oe ?_
   obtain rfl := sI h106
   exact mt () [0, 1, 24] [] 0
 refine nt (cC h103 (fun h124 => ?_) (fun h125 => ?_))
 · refine qs (qr (oN 2 [(5, vb true), (4, vi 3)] [] ?_))
   refine oe (nt (qe (br (nr ?_))))
   obtain rfl := sI h124
   exact re [.int .i64 3, .bool true]
 refine qs ?_
 obtain ⟨p126, hE127, h128⟩ := bS h125
 refine JC_cut (τ := Unit) (fun _ => [(0, vi x0), (35, vb p126)]) (fun _ => []) (fun _ => []) ?_ (fun _ => ?_)
 · refine qr (oN 3 [(38, vb (x1 == 4))] [0] ?_)
   refine oS 38 hE127 (fun h130 => ?_) (fun h131 => ?_)
   · refine oN 1 [(39, vi x0)] [38, 0] ?_
     obtain ⟨t132, h133, h134⟩ := bS h130
     refine k0 (fun γ w hs => c_spec_l01In h133) ?_
     refine oN 2 [(35, vb t132)] [0] ?_
     refine oe ?_
     obtain rfl := sI h134
     exact mt () [0, 35] [] 0
   refine oN 4 [(35, vb false)] [0] ?_
   refine oe ?_
   obtain rfl := sI h131
   exact mt () [0, 35] [] 0
 refine nt (cC h128 (fun h137 => ?_) (fun h138 => ?_))
 · refine qs (qr (oN 2 [(5, vb true), (4, vi 4)] [] ?_))
   refine oe (nt (qe (br (nr ?_))))
   obtain rfl := sI h137
   exact re [.int .i64 4, .bool true]
 refine qk (bn (nt (qs (qr (oN 3 [(5, vb false), (4, vi x0)] [] ?_)))))
 refine oe (nt (qe ?_))
 obtain rfl := sI h138
 exact re [.int .i64 x0, .bool false]

theorem c_spec_EventsOk {W : World} {x0 : List Event} {a0_0 : Option Addr} {c0_0 : Nat} {r : Bool} (h : spec_EventsOk x0 = some r) (hv0_0 : SlView W x0 a0_0 c0_0) :
    Gives0 Tryz.prog 204 #[.slice a0_0 x0.length c0_0] W (.bool r) := by
 unfold spec_EventsOk at h
 refine en Tryz.func204 Tryz.ntmps204 ?_
 refine qs (qr (oN 1 [] [0] ?_))
 refine oe (nt (qs (qr (oN 1 [(3, vi 0)] [0] ?_))))
 refine oe (nt (qs (qs (qr (oN 1 [(4, vi 0)] [3, 0] ?_)))))
 refine oe (nt ?_)
 obtain ⟨r24, hL25, h26⟩ := bS h
 obtain ⟨k27, hk28, h26⟩ := brkS h26
 refine JC_cutP (τ := (Unit) × (Unit)) (fun y => k27 y.1 = some r) (fun y32 => [(0, .v (.slice a0_0 x0.length c0_0))]) (fun y32 => []) (fun y32 => []) ?_ (fun y32 h33p => ?_)
 · refine qb (lp Unit hL25 (fun s21 y22 => [(4, vi s21.1), (3, vi s21.2), (0, .v (.slice a0_0 x0.length c0_0))]) (fun s21 y22 => []) (fun s21 y22 => []) () [4, 3, 0] [] 0 (fun s21 y22 t23 h29 hd30 => ?_))
   refine qs (qs (qr (oN 4 [(10, vb (decide (s21.1 < (x0.length : Int))))] [4, 3, 0] ?_)))
   refine oe (nt (cC h29 (fun h35 => ?_) (fun h36 => ?_)))
   · refine qk (nt (qs (qb (qs (qr (oN 3 [(16, vi s21.1), (15, .v (.slice a0_0 x0.length c0_0)), (14, vi s21.2)] [4, 0] ?_))))))
     obtain ⟨x37, hx38, h39⟩ := bS h35
     refine oi 2 (fun γ w hs => (hv0_0.kept hs.kept)) hx38 ?_
     refine oN 1 [(18, .q a0_0 (Int.toNat s21.1 * 2))] [14, 4, 0] ?_
     refine ol 3 0 (.int .i64 x37.Kind) (fun γ w hs => (hv0_0.kept hs.kept).flatq hx38) ?_
     obtain ⟨t40, h41, h42⟩ := bS h39
     refine k0 (fun γ w hs => c_spec_StatusAfter h41) ?_
     refine oN 5 [(6, vb t40.2), (5, vi t40.1)] [4, 0] ?_
     refine oe (nt (qs (qs ?_)))
     obtain ⟨p44, hE45, h46⟩ := bS h42
     refine JC_cut (τ := Unit) (fun _ => [(0, .v (.slice a0_0 x0.length c0_0)), (4, vi s21.1), (5, vi t40.1), (51, vb p44)]) (fun _ => []) (fun _ => []) ?_ (fun _ => ?_)
     · refine JC_quiet (by kernel_rfl) (by kernel_rfl) ?_
       refine qN 3 [(25, vb (!t40.2))] [5, 4, 0] ?_
       refine qS 25 hE45 (fun h48 => ?_) (fun h49 => ?_)
       · refine qN 26 [(51, vb true)] [5, 4, 0] ?_
         refine qz ?_
         obtain rfl := sI h48
         exact mt () [0, 4, 5, 51] [] 0
       refine qN 2 [(27, vi s21.1), (26, .v (.slice a0_0 x0.length c0_0))] [25, 5, 4, 0] ?_
       obtain ⟨x50, hx51, h52⟩ := bS h49
       refine qi 2 (fun γ w hs => (hv0_0.kept hs.kept)) hx51 ?_
       refine qN 1 [(29, .q a0_0 (Int.toNat s21.1 * 2 + 1))] [25, 5, 4, 0] ?_
       refine ql 3 1 (.int .i64 x50.Month) (fun γ w hs => (hv0_0.kept hs.kept).flatq hx51) ?_
       obtain ⟨t53, h54, h55⟩ := bS h52
       refine q0 (fun γ w hs => c_spec_MonthOk h54) ?_
       refine qN 3 [(34, vb (!t53))] [5, 4, 0] ?_
       refine qS 34 h55 (fun h58 => ?_) (fun h59 => ?_)
       · refine qN 17 [(51, vb true)] [5, 4, 0] ?_
         refine qz ?_
         obtain rfl := sI h58
         exact mt () [0, 4, 5, 51] [] 0
       refine qN 3 [(37, vb (decide (s21.1 > 0)))] [34, 5, 4, 0] ?_
       refine qS 37 h59 (fun h61 => ?_) (fun h62 => ?_)
       · refine qN 3 [(40, vi (w64 (s21.1 - 1))), (38, .v (.slice a0_0 x0.length c0_0))] [37, 34, 5, 4, 0] ?_
         obtain ⟨x63, hx64, h65⟩ := bS h61
         refine qi 2 (fun γ w hs => (hv0_0.kept hs.kept)) hx64 ?_
         refine qN 1 [(42, .q a0_0 (Int.toNat (w64 (s21.1 - 1)) * 2 + 1))] [37, 34, 5, 4, 0] ?_
         refine ql 3 1 (.int .i64 x63.Month) (fun γ w hs => (hv0_0.kept hs.kept).flatq hx64) ?_
         refine qN 2 [(45, vi s21.1), (44, .v (.slice a0_0 x0.length c0_0))] [43, 37, 34, 5, 4, 0] ?_
         obtain ⟨x66, hx67, h68⟩ := bS h65
         refine qi 2 (fun γ w hs => (hv0_0.kept hs.kept)) hx67 ?_
         refine qN 1 [(47, .q a0_0 (Int.toNat s21.1 * 2 + 1))] [43, 37, 34, 5, 4, 0] ?_
         refine ql 3 1 (.int .i64 x66.Month) (fun γ w hs => (hv0_0.kept hs.kept).flatq hx67) ?_
         refine qN 3 [(51, vb (decide (x63.Month ≥ x66.Month)))] [5, 4, 0] ?_
         refine qz ?_
         obtain rfl := sI h68
         exact mt () [0, 4, 5, 51] [] 0
       refine qN 14 [(51, vb false)] [5, 4, 0] ?_
       refine qz ?_
       obtain rfl := sI h62
       exact mt () [0, 4, 5, 51] [] 0
     refine nt (cC h46 (fun h70 => ?_) (fun h71 => ?_))
     · refine qs (qr (oN 1 [(2, vb false)] [] ?_))
       refine oe (nt (qe (nr (br (nr (nr ?_))))))
       have h72 := leafR hd30 h70 h26
       refine br (nr (nr ?_))
       obtain rfl := sI h72
       exact re [.bool false]
     refine qk (nt (qr (oN 2 [(3, vi t40.1)] [0, 4] ?_)))
     refine oe (bn (nt (qr (oN 3 [(4, vi (w64 (s21.1 + 1)))] [3, 0] ?_))))
     exact oe (ct h71 () [4, 3, 0] [] 0)
   refine qx (nx (nx (bh ?_)))
   have h73 := leafB hd30 h36 h26
   exact mp ((), ()) h73 [0] [] 0
 have h33 := (congrFun hk28 _).symm.trans h33p
 refine nt (qs (qr (oN 4 [(2, vb (decide ((x0.length : Int) ≤ 30)))] [] ?_)))
 refine oe (nt (qe ?_))
 obtain rfl := sI h33
 exact re [.bool (decide ((x0.length : Int) ≤ 30))]

theorem c_spec_MemberOk {W : World} {x0 : Member} {b0 : AC × AC} {r : Bool} (h : spec_MemberOk x0 = some r) (hv0_0 : SlView W x0.Spells b0.1.1 b0.1.2) (hv0_1 : SlView W x0.Events b0.2.1 b0.2.2) :
    Gives0 Tryz.prog 152 #[vMember x0 b0] W (.bool r) := by
 unfold spec_MemberOk at h
 refine en Tryz.func152 Tryz.ntmps152 ?_
 refine qs (qr (oB 2 [(1, .p 0 0)] [] [(52, (eMember x0 b0))] ?_))
 refine oe (nt (qs ?_))
 obtain ⟨p21, hE22, h23⟩ := bS h
 refine JC_cut (τ := Unit) (fun _ => [(2, vb p21)]) (fun _ => [(52, (eMember x0 b0))]) (fun _ => []) ?_ (fun _ => ?_)
 · refine qr (oN 2 [(4, vi x0.Birth)] [1] ?_)
   obtain ⟨t24, h25, h26⟩ := bS hE22
   refine k0 (fun γ w hs => c_spec_MonthOk h25) ?_
   refine oN 1 [(6, vb t24)] [1] ?_
   refine oS 6 h26 (fun h29 => ?_) (fun h30 => ?_)
   · refine oN 2 [(8, vi x0.Joined)] [6, 1] ?_
     obtain ⟨t31, h32, h33⟩ := bS h29
     refine k0 (fun γ w hs => c_spec_MonthOk h32) ?_
     refine oN 2 [(11, vb t31)] [1] ?_
     refine oS 11 h33 (fun h36 => ?_) (fun h37 => ?_)
     · refine oN 7 [(18, vb (decide (x0.Birth ≤ x0.Joined)))] [1] ?_
       refine oS 18 h36 (fun h39 => ?_) (fun h40 => ?_)
       · refine oN 2 [(20, .v (.slice b0.1.1 x0.Spells.length b0.1.2))] [18, 1] ?_
         obtain ⟨t41, h42, h43⟩ := bS h39
         refine k0 (fun γ w hs => c_spec_SpellsOk h42 (hv0_0.kept hs.kept)) ?_
         refine oN 2 [(23, vb t41)] [1] ?_
         refine oS 23 h43 (fun h46 => ?_) (fun h47 => ?_)
         · refine oN 2 [(25, .v (.slice b0.2.1 x0.Events.length b0.2.2))] [23] ?_
           obtain ⟨t48, h49, h50⟩ := bS h46
           refine k0 (fun γ w hs => c_spec_EventsOk h49 (hv0_1.kept hs.kept)) ?_
           refine oN 2 [(2, vb t48)] [] ?_
           refine oe ?_
           obtain rfl := sI h50
           exact mt () [2] [] 1
         refine oN 5 [(2, vb false)] [] ?_
         refine oe ?_
         obtain rfl := sI h47
         exact mt () [2] [] 1
       refine oN 10 [(2, vb false)] [] ?_
       refine oe ?_
       obtain rfl := sI h40
       exact mt () [2] [] 1
     refine oN 17 [(2, vb false)] [] ?_
     refine oe ?_
     obtain rfl := sI h37
     exact mt () [2] [] 1
   refine oN 22 [(2, vb false)] [] ?_
   refine oe ?_
   obtain rfl := sI h30
   exact mt () [2] [] 1
 refine nt (qe ?_)
 obtain rfl := sI h23
 exact re [.bool p21]

theorem c_spec_CaseOk {W : World} {x0 : Case} {b0 : AC × AC × AC × AC × AC} {r : Bool} (h : spec_CaseOk x0 = some r) (hv0_0 : SlView W x0.Book.Rules b0.1.1 b0.1.2) (hv0_1 : SlView W x0.Store.Facts b0.2.1.1 b0.2.1.2) (hv0_2 : SlView W x0.Series.Points b0.2.2.1.1 b0.2.2.1.2) (hv0_3 : SlView W x0.Member.Spells b0.2.2.2.1.1 b0.2.2.2.1.2) (hv0_4 : SlView W x0.Member.Events b0.2.2.2.2.1 b0.2.2.2.2.2) :
    Gives0 Tryz.prog 94 #[vCase x0 b0] W (.bool r) := by
 unfold spec_CaseOk at h
 refine en Tryz.func94 Tryz.ntmps94 ?_
 refine qs (qr (oB 2 [(1, .p 0 0)] [] [(54, (eCase x0 b0))] ?_))
 refine oe (nt (qs ?_))
 obtain ⟨p21, hE22, h23⟩ := bS h
 refine JC_cut (τ := Unit) (fun _ => [(2, vb p21)]) (fun _ => [(54, (eCase x0 b0))]) (fun _ => []) ?_ (fun _ => ?_)
 · refine qr (oN 2 [(4, .v (vBook x0.Book b0.1))] [1] ?_)
   obtain ⟨t24, h25, h26⟩ := bS hE22
   refine k0 (fun γ w hs => c_spec_BookOk h25 (hv0_0.kept hs.kept)) ?_
   refine oN 1 [(6, vb t24)] [1] ?_
   refine oS 6 h26 (fun h29 => ?_) (fun h30 => ?_)
   · refine oN 2 [(8, .v (vStore x0.Store b0.2.1))] [6, 1] ?_
     obtain ⟨t31, h32, h33⟩ := bS h29
     refine k0 (fun γ w hs => c_spec_StoreOk h32 (hv0_1.kept hs.kept)) ?_
     refine oN 2 [(11, vb t31)] [1] ?_
     refine oS 11 h33 (fun h36 => ?_) (fun h37 => ?_)
     · refine oN 2 [(13, .v (vSeries x0.Series b0.2.2.1))] [11, 1] ?_
       obtain ⟨t38, h39, h40⟩ := bS h36
       refine k0 (fun γ w hs => c_spec_SeriesOk h39 (hv0_2.kept hs.kept)) ?_
       refine oN 2 [(16, vb t38)] [1] ?_
       refine oS 16 h40 (fun h43 => ?_) (fun h44 => ?_)
       · refine oN 2 [(18, .v (vMember x0.Member b0.2.2.2))] [16] ?_
         obtain ⟨t45, h46, h47⟩ := bS h43
         refine k0 (fun γ w hs => c_spec_MemberOk (b0 := b0.2.2.2) h46 (hv0_3.kept hs.kept) (hv0_4.kept hs.kept)) ?_
         refine oN 2 [(2, vb t45)] [] ?_
         refine oe ?_
         obtain rfl := sI h47
         exact mt () [2] [] 1
       refine oN 5 [(2, vb false)] [] ?_
       refine oe ?_
       obtain rfl := sI h44
       exact mt () [2] [] 1
     refine oN 10 [(2, vb false)] [] ?_
     refine oe ?_
     obtain rfl := sI h37
     exact mt () [2] [] 1
   refine oN 15 [(2, vb false)] [] ?_
   refine oe ?_
   obtain rfl := sI h30
   exact mt () [2] [] 1
 refine nt (qe ?_)
 obtain rfl := sI h23
 exact re [.bool p21]

theorem c_spec_StatusAt {W : World} {x0 : List Event} {a0_0 : Option Addr} {c0_0 : Nat} {x1 : Int} {r : Int} (h : spec_StatusAt x0 x1 = some r) (hv0_0 : SlView W x0 a0_0 c0_0) :
    Gives0 Tryz.prog 167 #[.slice a0_0 x0.length c0_0, .int .i64 x1] W (.int .i64 r) := by
 unfold spec_StatusAt at h
 refine en Tryz.func167 Tryz.ntmps167 ?_
 refine qs (qr (oN 1 [] [0, 1] ?_))
 refine oe (nt (qs (qr (oN 1 [(5, vi 0)] [0, 1] ?_))))
 refine oe (nt (qs (qs (qr (oN 1 [(6, vi 0)] [5, 0, 1] ?_)))))
 refine oe (nt ?_)
 obtain ⟨r24, hL25, h26⟩ := bS h
 obtain ⟨k27, hk28, h26⟩ := brkS h26
 refine JC_cutP (τ := (Int) × (Unit)) (fun y => k27 y.1 = some r) (fun y32 => [(5, vi y32.1)]) (fun y32 => []) (fun y32 => []) ?_ (fun y32 h33p => ?_)
 · refine qb (lp Unit hL25 (fun s21 y22 => [(6, vi s21.1), (5, vi s21.2), (0, .v (.slice a0_0 x0.length c0_0)), (1, vi x1)]) (fun s21 y22 => []) (fun s21 y22 => []) () [6, 5, 0, 1] [] 0 (fun s21 y22 t23 h29 hd30 => ?_))
   refine qs (qs ?_)
   obtain ⟨p34, hE35, h36⟩ := bS h29
   refine JC_cut (τ := Unit) (fun _ => [(0, .v (.slice a0_0 x0.length c0_0)), (1, vi x1), (5, vi s21.2), (6, vi s21.1), (23, vb p34)]) (fun _ => []) (fun _ => []) ?_ (fun _ => ?_)
   · refine qr (oN 5 [(11, vb (decide (s21.1 < (x0.length : Int))))] [6, 5, 0, 1] ?_)
     refine oS 11 hE35 (fun h38 => ?_) (fun h39 => ?_)
     · refine oN 1 [(12, .v (.slice a0_0 x0.length c0_0))] [11, 6, 5, 0, 1] ?_
       obtain ⟨t40, h41, h42⟩ := bS h38
       refine k0 (fun γ w hs => c_spec_EventsOk h41 (hv0_0.kept hs.kept)) ?_
       refine oN 2 [(15, vb t40)] [6, 5, 0, 1] ?_
       refine oS 15 h42 (fun h45 => ?_) (fun h46 => ?_)
       · refine oN 2 [(17, vi s21.1), (16, .v (.slice a0_0 x0.length c0_0))] [15, 6, 5, 0, 1] ?_
         obtain ⟨x47, hx48, h49⟩ := bS h45
         refine oi 2 (fun γ w hs => (hv0_0.kept hs.kept)) hx48 ?_
         refine oN 1 [(19, .q a0_0 (Int.toNat s21.1 * 2 + 1))] [15, 6, 5, 0, 1] ?_
         refine ol 3 1 (.int .i64 x47.Month) (fun γ w hs => (hv0_0.kept hs.kept).flatq hx48) ?_
         refine oN 3 [(23, vb (decide (x47.Month ≤ x1)))] [6, 5, 0, 1] ?_
         refine oe ?_
         obtain rfl := sI h49
         exact mt () [0, 1, 5, 6, 23] [] 0
       refine oN 8 [(23, vb false)] [6, 5, 0, 1] ?_
       refine oe ?_
       obtain rfl := sI h46
       exact mt () [0, 1, 5, 6, 23] [] 0
     refine oN 12 [(23, vb false)] [6, 5, 0, 1] ?_
     refine oe ?_
     obtain rfl := sI h39
     exact mt () [0, 1, 5, 6, 23] [] 0
   refine nt (cC h36 (fun h51 => ?_) (fun h52 => ?_))
   · refine qk (nt (qs (qb (qr (oN 3 [(29, vi s21.1), (28, .v (.slice a0_0 x0.length c0_0)), (27, vi s21.2)] [0, 1, 6] ?_)))))
     obtain ⟨x53, hx54, h55⟩ := bS h51
     refine oi 2 (fun γ w hs => (hv0_0.kept hs.kept)) hx54 ?_
     refine oN 1 [(31, .q a0_0 (Int.toNat s21.1 * 2))] [27, 0, 1, 6] ?_
     refine ol 3 0 (.int .i64 x53.Kind) (fun γ w hs => (hv0_0.kept hs.kept).flatq hx54) ?_
     obtain ⟨t56, h57, h58⟩ := bS h55
     refine k0 (fun γ w hs => c_spec_StatusAfter h57) ?_
     refine oN 4 [(5, vi t56.1)] [0, 1, 6] ?_
     refine oe (bn (nt (qr (oN 3 [(6, vi (w64 (s21.1 + 1)))] [5, 0, 1] ?_))))
     exact oe (ct h58 () [6, 5, 0, 1] [] 0)
   refine qx (nx (nx (bh ?_)))
   have h60 := leafB hd30 h52 h26
   exact mp (s21.2, ()) h60 [5] [] 0
 have h33 := (congrFun hk28 _).symm.trans h33p
 refine nt (qs (qr (oN 2 [(4, vi y32.1)] [] ?_)))
 refine oe (nt (qe ?_))
 obtain rfl := sI h33
 exact re [.int .i64 y32.1]

theorem c_spec_ServiceIn {W : World} {x0 : List Spell} {a0_0 : Option Addr} {c0_0 : Nat} {x1 : Int} {x2 : Int} {r : Int} (h : spec_ServiceIn x0 x1 x2 = some r) (hv0_0 : SlView W x0 a0_0 c0_0) :
    Gives0 Tryz.prog 196 #[.slice a0_0 x0.length c0_0, .int .i64 x1, .int .i64 x2] W (.int .i64 r) := by
 unfold spec_ServiceIn at h
 refine en Tryz.func196 Tryz.ntmps196 ?_
 refine qs (qr (oN 1 [] [0, 1, 2] ?_))
 refine oe (nt (qs (qr (oN 1 [(7, vi 0)] [0, 1, 2] ?_))))
 refine oe (nt (qs (qs (qr (oN 1 [(8, vi 0)] [7, 0, 1, 2] ?_)))))
 refine oe (nt ?_)
 obtain ⟨r24, hL25, h26⟩ := bS h
 obtain ⟨k27, hk28, h26⟩ := brkS h26
 refine JC_cutP (τ := (Int) × (Unit)) (fun y => k27 y.1 = some r) (fun y32 => [(7, vi y32.1)]) (fun y32 => []) (fun y32 => []) ?_ (fun y32 h33p => ?_)
 · refine qb (lp Unit hL25 (fun s21 y22 => [(8, vi s21.1), (7, vi s21.2), (0, .v (.slice a0_0 x0.length c0_0)), (1, vi x1), (2, vi x2)]) (fun s21 y22 => []) (fun s21 y22 => []) () [8, 7, 0, 1, 2] [] 0 (fun s21 y22 t23 h29 hd30 => ?_))
   refine qs (qs ?_)
   obtain ⟨p34, hE35, h36⟩ := bS h29
   refine JC_cut (τ := Unit) (fun _ => [(0, .v (.slice a0_0 x0.length c0_0)), (1, vi x1), (2, vi x2), (7, vi s21.2), (8, vi s21.1), (16, vb p34)]) (fun _ => []) (fun _ => []) ?_ (fun _ => ?_)
   · refine qr (oN 5 [(13, vb (decide (s21.1 < (x0.length : Int))))] [8, 7, 0, 1, 2] ?_)
     refine oS 13 hE35 (fun h38 => ?_) (fun h39 => ?_)
     · refine oN 1 [(14, .v (.slice a0_0 x0.length c0_0))] [13, 8, 7, 0, 1, 2] ?_
       obtain ⟨t40, h41, h42⟩ := bS h38
       refine k0 (fun γ w hs => c_spec_SpellsOk h41 (hv0_0.kept hs.kept)) ?_
       refine oN 1 [(16, vb t40)] [8, 7, 0, 1, 2] ?_
       refine oe ?_
       obtain rfl := sI h42
       exact mt () [0, 1, 2, 7, 8, 16] [] 0
     refine oN 3 [(16, vb false)] [8, 7, 0, 1, 2] ?_
     refine oe ?_
     obtain rfl := sI h39
     exact mt () [0, 1, 2, 7, 8, 16] [] 0
   refine nt (cC h36 (fun h45 => ?_) (fun h46 => ?_))
   · refine qk (nt (qs (qb (qs (qr (oN 2 [(20, vi s21.1), (19, .v (.slice a0_0 x0.length c0_0))] [0, 1, 2, 7, 8] ?_))))))
     obtain ⟨x47, hx48, h49⟩ := bS h45
     refine oi 4 (fun γ w hs => (hv0_0.kept hs.kept)) hx48 ?_
     refine oN 1 [(22, .q a0_0 (Int.toNat s21.1 * 4 + 3))] [0, 1, 2, 7, 8] ?_
     refine ol 4 3 (.bool x47.Leave) (fun γ w hs => (hv0_0.kept hs.kept).flatq hx48) ?_
     refine oN 1 [(24, vb (!x47.Leave))] [0, 1, 2, 7, 8] ?_
     refine oe (nt ?_)
     obtain ⟨k66, hk67, h69⟩ := jS h49
     refine JC_cutP (τ := (Int) × (Unit)) (fun y => k66 y.1 = some t23) (fun y65 => [(0, .v (.slice a0_0 x0.length c0_0)), (1, vi x1), (2, vi x2), (7, vi y65.1), (8, vi s21.1)]) (fun y65 => []) (fun y65 => []) ?_ (fun y65 h68p => ?_)
     · refine cC h69 (fun h71 => ?_) (fun h72 => ?_)
       · refine JC_quiet (by kernel_rfl) (by kernel_rfl) ?_
         refine qN 3 [(27, vi s21.1), (26, .v (.slice a0_0 x0.length c0_0)), (25, vi s21.2)] [0, 1, 2, 8] ?_
         obtain ⟨x73, hx74, h75⟩ := bS h71
         refine qi 4 (fun γ w hs => (hv0_0.kept hs.kept)) hx74 ?_
         refine qN 1 [(29, .q a0_0 (Int.toNat s21.1 * 4 + 2))] [25, 0, 1, 2, 8] ?_
         refine ql 3 2 (.int .i64 x73.Percent) (fun γ w hs => (hv0_0.kept hs.kept).flatq hx74) ?_
         refine qN 2 [(32, vi s21.1), (31, .v (.slice a0_0 x0.length c0_0))] [30, 25, 0, 1, 2, 8] ?_
         obtain ⟨x76, hx77, h78⟩ := bS h75
         refine qi 4 (fun γ w hs => (hv0_0.kept hs.kept)) hx77 ?_
         refine qN 1 [(34, .q a0_0 (Int.toNat s21.1 * 4))] [30, 25, 0, 1, 2, 8] ?_
         refine ql 3 0 (.int .i64 x76.From) (fun γ w hs => (hv0_0.kept hs.kept).flatq hx77) ?_
         refine qN 2 [(37, vi s21.1), (36, .v (.slice a0_0 x0.length c0_0))] [35, 30, 25, 0, 1, 2, 8] ?_
         obtain ⟨x79, hx80, h81⟩ := bS h78
         refine qi 4 (fun γ w hs => (hv0_0.kept hs.kept)) hx80 ?_
         refine qN 1 [(39, .q a0_0 (Int.toNat s21.1 * 4 + 1))] [35, 30, 25, 0, 1, 2, 8] ?_
         refine ql 3 1 (.int .i64 x79.To) (fun γ w hs => (hv0_0.kept hs.kept).flatq hx80) ?_
         refine qN 2 [(42, vi x2), (41, vi x1)] [40, 35, 30, 25, 0, 1, 2, 8] ?_
         obtain ⟨t82, h83, h84⟩ := bS h81
         refine q0 (fun γ w hs => c_spec_MonthsIn h83) ?_
         refine qN 3 [(7, vi (w64 (s21.2 + (w64 (x73.Percent * t82)))))] [0, 1, 2, 8] ?_
         exact qz (mp (w64 (s21.2 + (w64 (x73.Percent * t82))), ()) h84 [0, 1, 2, 7, 8] [] 0)
       exact qk (mp (s21.2, ()) h72 [0, 1, 2, 7, 8] [] 0)
     have h68 := (congrFun hk67 _).symm.trans h68p
     refine bn (nt (qr (oN 3 [(8, vi (w64 (s21.1 + 1)))] [0, 1, 2, 7] ?_)))
     exact oe (ct h68 () [8, 7, 0, 1, 2] [] 0)
   refine qx (nx (nx (bh ?_)))
   have h86 := leafB hd30 h46 h26
   exact mp (s21.2, ()) h86 [7] [] 0
 have h33 := (congrFun hk28 _).symm.trans h33p
 refine nt (qs (qr (oN 2 [(6, vi y32.1)] [] ?_)))
 refine oe (nt (qe ?_))
 obtain rfl := sI h33
 exact re [.int .i64 y32.1]

theorem c_spec_l02Make {W : World} {x0 : Int} {x1 : Int} {r : Frac × Bool} (h : spec_l02Make x0 x1 = some r)  :
    Gives0 Tryz.prog 225 #[.int .i64 x0, .int .i64 x1] W (.tuple #[vFrac r.1, .bool r.2]) := by
 unfold spec_l02Make at h
 refine en Tryz.func225 Tryz.ntmps225 ?_
 refine qs (qr (oB 2 [(4, .p 0 0)] [0, 1] [(118, (eFrac (Frac.mk 0 0)))] ?_))
 refine oe (nt (qs (qs (qr (oN 2 [(9, vb (decide (x1 < 0)))] [4, 0, 1] ?_)))))
 refine oe (nt ?_)
 obtain ⟨k24, hk25, h49⟩ := jS h
 refine JC_cutP (τ := (Int × Int) × (Unit)) (fun y => k24 y.1 = some r) (fun y23 => [(4, .p 0 0), (0, vi y23.1.1), (1, vi y23.1.2)]) (fun y23 => [(118, (eFrac (Frac.mk 0 0)))]) (fun y23 => []) ?_ (fun y23 h26p => ?_)
 · refine cC h49 (fun h51 => ?_) (fun h52 => ?_)
   · refine qs (qr (oN 3 [(0, vi (w64 (0 - x0)))] [4, 1] ?_))
     refine oe (nt (qr (oN 3 [(1, vi (w64 (0 - x1)))] [0, 4] ?_)))
     exact oe (mp ((w64 (0 - x0), w64 (0 - x1)), ()) h51 [4, 0, 1] [] 1)
   exact qk (mp ((x0, x1), ()) h52 [4, 0, 1] [] 1)
 have h26 := (congrFun hk25 _).symm.trans h26p
 refine nt (qs (qr (oN 1 [(14, vi y23.1.1)] [4, 0, 1] ?_)))
 obtain ⟨t27, h28, h29⟩ := bS h26
 refine k0 (fun γ w hs => c_spec_l02Abs h28) ?_
 refine oN 1 [(16, vi y23.1.2)] [15, 4, 0, 1] ?_
 obtain ⟨t31, h32, h33⟩ := bS h29
 refine k0 (fun γ w hs => c_spec_l02Gcd h32) ?_
 refine oN 1 [(6, vi t31)] [4, 0, 1] ?_
 refine oe (nt (qs ?_))
 obtain ⟨u37, hz36, h35⟩ := bS h33
 obtain ⟨u40, hz39, h38⟩ := bS h35
 refine JC_cut (τ := Unit) (fun _ => [(7, .p 1 0), (4, .p 0 0)]) (fun _ => [(118, (eFrac (Frac.mk 0 0))), (118, (eFrac (Frac.mk (w64 (Int.tdiv y23.1.1 t31)) (w64 (Int.tdiv y23.1.2 t31)))))]) (fun _ => []) ?_ (fun _ => ?_)
 · refine jw [6, 4, 0, 1] [] ?_
   refine JC_heldN (ks := [0]) (Rk := []) 9 (by kernel_rfl) (by kernel_rfl) ?_
   refine htq 0 (vi y23.1.1) [] ?_
   refine hk [18, 6, 4, 1] ?_
   refine htq 1 (vi t31) [] ?_
   refine ht 2 (vi (w64 (Int.tdiv y23.1.1 t31))) [] (div_held (op := .quo) (k := .i64) (x := y23.1.1) (y := t31) (by kernel_rfl) (nz_some hz36)) ?_
   refine hk [20, 6, 4, 1] ?_
   refine htq 3 (vi y23.1.2) [] ?_
   refine hk [21, 20, 6, 4] ?_
   refine htq 4 (vi t31) [] ?_
   refine hk [22, 21, 20, 4] ?_
   refine ht 5 (vi (w64 (Int.tdiv y23.1.2 t31))) [] (div_held (op := .quo) (k := .i64) (x := y23.1.2) (y := t31) (by kernel_rfl) (nz_some hz39)) ?_
   refine hk [23, 20, 4] ?_
   refine htq 6 (.v (vFrac (Frac.mk (w64 (Int.tdiv y23.1.1 t31)) (w64 (Int.tdiv y23.1.2 t31))))) [] ?_
   refine hk [24, 4] ?_
   refine ha1 7 ?_
   refine hi (fun γ0 δ hm => ?_)
   refine gs [(7, .p 1 0), (24, .v (vFrac (Frac.mk (w64 (Int.tdiv y23.1.1 t31)) (w64 (Int.tdiv y23.1.2 t31))))), (4, .p 0 0)] [(118, (eFrac (Frac.mk 0 0))), (118, (eFrac (Frac.mk 0 0)))] (fun δ2 => ?_)
   refine gd hm [7, 24, 4] [] ?_
   refine ha1 8 ?_
   refine hi (fun γ0 δ hm => ?_)
   refine gs [(7, .p 1 0), (24, .v (vFrac (Frac.mk (w64 (Int.tdiv y23.1.1 t31)) (w64 (Int.tdiv y23.1.2 t31))))), (4, .p 0 0)] [(118, (eFrac (Frac.mk 0 0))), (118, (eFrac (Frac.mk (w64 (Int.tdiv y23.1.1 t31)) (w64 (Int.tdiv y23.1.2 t31)))))] (fun δ2 => ?_)
   refine gd hm [7, 4] [] ?_
   exact hd () [7, 4] [] 2
 refine nt (qs (qs (qr (oN 1 [(25, .v (vFrac (Frac.mk (w64 (Int.tdiv y23.1.1 t31)) (w64 (Int.tdiv y23.1.2 t31)))))] [7, 4] ?_))))
 obtain ⟨t42, h43, h44⟩ := bS h38
 refine k0 (fun γ w hs => c_spec_FracOk h43) ?_
 refine oN 1 [(27, vb (!t42))] [7, 4] ?_
 refine oe (nt (cC h44 (fun h47 => ?_) (fun h48 => ?_)))
 · refine qs (qr (oN 3 [(5, vb false)] [4] ?_))
   refine oe (nt (qe (nr ?_)))
   obtain rfl := sI h47
   exact re [vFrac (Frac.mk 0 0), .bool false]
 refine qk (nt (qs (qr (oB 3 [(5, vb true)] [4] [(118, (eFrac (Frac.mk (w64 (Int.tdiv y23.1.1 t31)) (w64 (Int.tdiv y23.1.2 t31))))), (118, (eFrac (Frac.mk (w64 (Int.tdiv y23.1.1 t31)) (w64 (Int.tdiv y23.1.2 t31)))))] ?_))))
 refine oe (nt (qe ?_))
 obtain rfl := sI h48
 exact re [vFrac (Frac.mk (w64 (Int.tdiv y23.1.1 t31)) (w64 (Int.tdiv y23.1.2 t31))), .bool true]

theorem c_spec_FracNew {W : World} {x0 : Int} {x1 : Int} {r : Frac × Bool} (h : spec_FracNew x0 x1 = some r)  :
    Gives0 Tryz.prog 195 #[.int .i64 x0, .int .i64 x1] W (.tuple #[vFrac r.1, .bool r.2]) := by
 unfold spec_FracNew at h
 refine en Tryz.func195 Tryz.ntmps195 ?_
 refine qs (qr (oB 2 [(4, .p 0 0)] [0, 1] [(118, (eFrac (Frac.mk 0 0)))] ?_))
 refine oe (nt (qs (qs ?_)))
 obtain ⟨p21, hE22, h23⟩ := bS h
 refine JC_cut (τ := Unit) (fun _ => [(0, vi x0), (1, vi x1), (4, .p 0 0), (17, vb p21)]) (fun _ => [(118, (eFrac (Frac.mk 0 0)))]) (fun _ => []) ?_ (fun _ => ?_)
 · refine qr (oN 3 [(8, vb (x1 == 0))] [4, 0, 1] ?_)
   refine oS 8 hE22 (fun h25 => ?_) (fun h26 => ?_)
   · refine oN 9 [(17, vb true)] [4, 0, 1] ?_
     refine oe ?_
     obtain rfl := sI h25
     exact mt () [0, 1, 4, 17] [] 1
   refine oN 1 [(9, vi x0)] [8, 4, 0, 1] ?_
   obtain ⟨t27, h28, h29⟩ := bS h26
   refine k0 (fun γ w hs => c_spec_l01In h28) ?_
   refine oN 3 [(13, vb (!t27))] [4, 0, 1] ?_
   refine oS 13 h29 (fun h32 => ?_) (fun h33 => ?_)
   · refine oN 4 [(17, vb true)] [4, 0, 1] ?_
     refine oe ?_
     obtain rfl := sI h32
     exact mt () [0, 1, 4, 17] [] 1
   refine oN 1 [(14, vi x1)] [13, 4, 0, 1] ?_
   obtain ⟨t34, h35, h36⟩ := bS h33
   refine k0 (fun γ w hs => c_spec_l01In h35) ?_
   refine oN 2 [(17, vb (!t34))] [4, 0, 1] ?_
   refine oe ?_
   obtain rfl := sI h36
   exact mt () [0, 1, 4, 17] [] 1
 refine nt (cC h23 (fun h39 => ?_) (fun h40 => ?_))
 · refine qs (qr (oN 3 [(5, vb false)] [4] ?_))
   refine oe (nt (qe (nr ?_)))
   obtain rfl := sI h39
   exact re [vFrac (Frac.mk 0 0), .bool false]
 refine qk (nt (qs (qr (oN 2 [(20, vi x1), (19, vi x0)] [4] ?_))))
 obtain ⟨t41, h42, h43⟩ := bS h40
 refine k0 (fun γ w hs => c_spec_l02Make h42) ?_
 refine oB 4 [(5, vb t41.2)] [4] [(118, (eFrac t41.1))] ?_
 refine oe (nt (qe ?_))
 obtain rfl := sI h43
 exact re [vFrac t41.1, .bool t41.2]

theorem c_spec_ValueAt {W : World} {x0 : Store} {a0_0 : Option Addr} {c0_0 : Nat} {x1 : Int} {x2 : Int} {x3 : Int} {r : Int × Bool} (h : spec_ValueAt x0 x1 x2 x3 = some r) (hv0_0 : SlView W x0.Facts a0_0 c0_0) :
    Gives0 Tryz.prog 226 #[vStore x0 (a0_0, c0_0), .int .i64 x1, .int .i64 x2, .int .i64 x3] W (.tuple #[.int .i64 r.1, .bool r.2]) := by
 unfold spec_ValueAt at h
 refine en Tryz.func226 Tryz.ntmps226 ?_
 refine qs (qr (oB 3 [(4, .p 0 0)] [1, 2, 3] [(45, (eStore x0 (a0_0, c0_0)))] ?_))
 refine oe (nt (qs (qs (qr (oN 5 [(10, vi (w64 ((x0.Facts.length : Int) - 1)))] [4, 1, 2, 3] ?_)))))
 refine oe (nt ?_)
 obtain ⟨r24, hL25, h26⟩ := bS h
 obtain ⟨k27, hk28, h26⟩ := brkS h26
 refine JC_cutP (τ := (Unit) × (Unit)) (fun y => k27 y.1 = some r) (fun y32 => []) (fun y32 => [(45, (eStore x0 (a0_0, c0_0)))]) (fun y32 => []) ?_ (fun y32 h33p => ?_)
 · refine qb (lp Unit hL25 (fun s21 y22 => [(10, vi s21), (4, .p 0 0), (1, vi x1), (2, vi x2), (3, vi x3)]) (fun s21 y22 => [(45, (eStore x0 (a0_0, c0_0)))]) (fun s21 y22 => []) () [10, 4, 1, 2, 3] [] 1 (fun s21 y22 t23 h29 hd30 => ?_))
   refine qs (qs (qr (oN 2 [(17, vb (decide (s21 ≥ 0)))] [10, 4, 1, 2, 3] ?_)))
   refine oe (nt (cC h29 (fun h35 => ?_) (fun h36 => ?_)))
   · refine qk (nt (qs (qb (qs (qr (oN 3 [(22, vi s21), (21, .v (.slice a0_0 x0.Facts.length c0_0))] [10, 4, 1, 2, 3] ?_))))))
     obtain ⟨x37, hx38, h39⟩ := bS h35
     refine oi 5 (fun γ w hs => (hv0_0.kept hs.kept)) hx38 ?_
     refine ol 203 0 (vFact x37) (fun γ w hs => (hv0_0.kept hs.kept).flatq hx38) ?_
     refine oB 2 [(11, .p 1 0)] [10, 4, 1, 2, 3] [(45, (eStore x0 (a0_0, c0_0))), (203, (eFact x37))] ?_
     refine oe (nt (qs ?_))
     obtain ⟨p40, hE41, h42⟩ := bS h39
     refine JC_cut (τ := Unit) (fun _ => [(1, vi x1), (2, vi x2), (3, vi x3), (4, .p 0 0), (10, vi s21), (11, .p 1 0), (46, vb p40)]) (fun _ => [(45, (eStore x0 (a0_0, c0_0))), (203, (eFact x37))]) (fun _ => []) ?_ (fun _ => ?_)
     · refine qr (oN 5 [(29, vb (x37.Key == x1))] [11, 10, 4, 1, 2, 3] ?_)
       refine oS 29 hE41 (fun h44 => ?_) (fun h45 => ?_)
       · refine oN 6 [(35, vb (decide (x37.From ≤ x2)))] [11, 10, 4, 1, 2, 3] ?_
         refine oS 35 h44 (fun h47 => ?_) (fun h48 => ?_)
         · refine oN 6 [(41, vb (decide (x2 < x37.To)))] [11, 10, 4, 1, 2, 3] ?_
           refine oS 41 h47 (fun h50 => ?_) (fun h51 => ?_)
           · refine oN 5 [(46, vb (decide (x37.Known ≤ x3)))] [11, 10, 4, 1, 2, 3] ?_
             refine oe ?_
             obtain rfl := sI h50
             exact mt () [1, 2, 3, 4, 10, 11, 46] [] 2
           refine oN 5 [(46, vb false)] [11, 10, 4, 1, 2, 3] ?_
           refine oe ?_
           obtain rfl := sI h51
           exact mt () [1, 2, 3, 4, 10, 11, 46] [] 2
         refine oN 11 [(46, vb false)] [11, 10, 4, 1, 2, 3] ?_
         refine oe ?_
         obtain rfl := sI h48
         exact mt () [1, 2, 3, 4, 10, 11, 46] [] 2
       refine oN 17 [(46, vb false)] [11, 10, 4, 1, 2, 3] ?_
       refine oe ?_
       obtain rfl := sI h45
       exact mt () [1, 2, 3, 4, 10, 11, 46] [] 2
     refine nt (cC h42 (fun h53 => ?_) (fun h54 => ?_))
     · refine qs (qr (oN 4 [(9, vb true), (8, vi x37.Value)] [] ?_))
       refine oe (nt (qe (br (nr (nr ?_)))))
       have h55 := leafR hd30 h53 h26
       refine br (nr (nr ?_))
       obtain rfl := sI h55
       exact re [.int .i64 x37.Value, .bool true]
     refine qk (bn (nt (qr (oN 3 [(10, vi (w64 (s21 - 1)))] [1, 2, 3, 4] ?_))))
     exact oe (ct h54 () [10, 4, 1, 2, 3] [] 1)
   refine qx (nx (nx (bh ?_)))
   have h56 := leafB hd30 h36 h26
   exact mp ((), ()) h56 [] [] 1
 have h33 := (congrFun hk28 _).symm.trans h33p
 refine nt (qs (qr (oN 2 [(9, vb false), (8, vi 0)] [] ?_)))
 refine oe (nt (qe ?_))
 obtain rfl := sI h33
 exact re [.int .i64 0, .bool false]

theorem c_spec_FinalPay {W : World} {x0 : Store} {a0_0 : Option Addr} {c0_0 : Nat} {x1 : Int} {x2 : Int} {r : Int × Bool} (h : spec_FinalPay x0 x1 x2 = some r) (hv0_0 : SlView W x0.Facts a0_0 c0_0) :
    Gives0 Tryz.prog 197 #[vStore x0 (a0_0, c0_0), .int .i64 x1, .int .i64 x2] W (.tuple #[.int .i64 r.1, .bool r.2]) := by
 unfold spec_FinalPay at h
 refine en Tryz.func197 Tryz.ntmps197 ?_
 refine qs (qr (oB 3 [(3, .p 0 0)] [1, 2] [(45, (eStore x0 (a0_0, c0_0)))] ?_))
 refine oe (nt (qs (qs ?_)))
 obtain ⟨p21, hE22, h23⟩ := bS h
 refine JC_cut (τ := Unit) (fun _ => [(1, vi x1), (2, vi x2), (3, .p 0 0), (18, vb p21)]) (fun _ => [(45, (eStore x0 (a0_0, c0_0)))]) (fun _ => []) ?_ (fun _ => ?_)
 · refine qr (oN 1 [(11, .v (vStore x0 (a0_0, c0_0)))] [3, 1, 2] ?_)
   obtain ⟨t24, h25, h26⟩ := bS hE22
   refine k0 (fun γ w hs => c_spec_StoreOk h25 (hv0_0.kept hs.kept)) ?_
   refine oN 2 [(14, vb (!t24))] [3, 1, 2] ?_
   refine oS 14 h26 (fun h29 => ?_) (fun h30 => ?_)
   · refine oN 4 [(18, vb true)] [3, 1, 2] ?_
     refine oe ?_
     obtain rfl := sI h29
     exact mt () [1, 2, 3, 18] [] 1
   refine oN 1 [(15, vi x1)] [14, 3, 1, 2] ?_
   obtain ⟨t31, h32, h33⟩ := bS h30
   refine k0 (fun γ w hs => c_spec_l04End h32) ?_
   refine oN 2 [(18, vb (!t31))] [3, 1, 2] ?_
   refine oe ?_
   obtain rfl := sI h33
   exact mt () [1, 2, 3, 18] [] 1
 refine nt (cC h23 (fun h36 => ?_) (fun h37 => ?_))
 · refine qs (qr (oN 2 [(7, vb false), (6, vi 0)] [] ?_))
   refine oe (nt (qe (nr ?_)))
   obtain rfl := sI h36
   exact re [.int .i64 0, .bool false]
 refine qk (nt (qs (qs (qr (oN 3 [(8, vi (w64 (x1 - 1)))] [2, 3] ?_)))))
 refine oe (nt ?_)
 obtain ⟨r41, hL42, h43⟩ := bS h37
 obtain ⟨k44, hk45, h43⟩ := brkS h43
 refine JC_cutP (τ := (Unit) × (Unit)) (fun y => k44 y.1 = some r) (fun y49 => []) (fun y49 => [(45, (eStore x0 (a0_0, c0_0)))]) (fun y49 => []) ?_ (fun y49 h50p => ?_)
 · refine qb (lp Unit hL42 (fun s38 y39 => [(8, vi s38), (2, vi x2), (3, .p 0 0)]) (fun s38 y39 => [(45, (eStore x0 (a0_0, c0_0)))]) (fun s38 y39 => []) () [8, 2, 3] [] 1 (fun s38 y39 t40 h46 hd47 => ?_))
   refine qs (qs (qr (oN 2 [(22, vb (decide (s38 ≥ 0)))] [8, 2, 3] ?_)))
   refine oe (nt (cC h46 (fun h52 => ?_) (fun h53 => ?_)))
   · refine qk (nt (qs (qb (qs (qr (oN 3 [(28, vi x2), (27, vi s38), (26, .v (vStore x0 (a0_0, c0_0)))] [8, 2, 3] ?_))))))
     obtain ⟨t54, h55, h56⟩ := bS h52
     refine k0 (fun γ w hs => c_spec_ValueAt h55 (hv0_0.kept hs.kept)) ?_
     refine oN 5 [(10, vb t54.2), (9, vi t54.1)] [8, 2, 3] ?_
     refine oe (nt (qs (qr (oN 1 [(32, vb t54.2)] [9, 8, 2, 3] ?_))))
     refine oe (nt (cC h56 (fun h59 => ?_) (fun h60 => ?_)))
     · refine qs (qr (oN 3 [(7, vb true), (6, vi t54.1)] [] ?_))
       refine oe (nt (qe (br (nr (nr ?_)))))
       have h61 := leafR hd47 h59 h43
       refine br (nr (nr ?_))
       obtain rfl := sI h61
       exact re [.int .i64 t54.1, .bool true]
     refine qk (bn (nt (qr (oN 3 [(8, vi (w64 (s38 - 1)))] [2, 3] ?_))))
     exact oe (ct h60 () [8, 2, 3] [] 1)
   refine qx (nx (nx (bh ?_)))
   have h62 := leafB hd47 h53 h43
   exact mp ((), ()) h62 [] [] 1
 have h50 := (congrFun hk45 _).symm.trans h50p
 refine nt (qs (qr (oN 2 [(7, vb false), (6, vi 0)] [] ?_)))
 refine oe (nt (qe ?_))
 obtain rfl := sI h50
 exact re [.int .i64 0, .bool false]

theorem c_spec_IndexAt {W : World} {x0 : Series} {a0_0 : Option Addr} {c0_0 : Nat} {x1 : Int} {x2 : Int} {r : Int × Bool} (h : spec_IndexAt x0 x1 x2 = some r) (hv0_0 : SlView W x0.Points a0_0 c0_0) :
    Gives0 Tryz.prog 227 #[vSeries x0 (a0_0, c0_0), .int .i64 x1, .int .i64 x2] W (.tuple #[.int .i64 r.1, .bool r.2]) := by
 unfold spec_IndexAt at h
 refine en Tryz.func227 Tryz.ntmps227 ?_
 refine qs (qr (oB 3 [(3, .p 0 0)] [1, 2] [(48, (eSeries x0 (a0_0, c0_0)))] ?_))
 refine oe (nt (qs (qr (oN 1 [(8, vi (-1))] [3, 1, 2] ?_))))
 refine oe (nt (qs (qs (qr (oN 1 [(9, vi 0)] [8, 3, 1, 2] ?_)))))
 refine oe (nt ?_)
 obtain ⟨r24, hL25, h26⟩ := bS h
 obtain ⟨k27, hk28, h26⟩ := brkS h26
 refine JC_cutP (τ := (Int) × (Unit)) (fun y => k27 y.1 = some r) (fun y32 => [(8, vi y32.1), (3, .p 0 0)]) (fun y32 => [(48, (eSeries x0 (a0_0, c0_0)))]) (fun y32 => []) ?_ (fun y32 h33p => ?_)
 · refine qb (lp Unit hL25 (fun s21 y22 => [(9, vi s21.1), (8, vi s21.2), (3, .p 0 0), (1, vi x1), (2, vi x2)]) (fun s21 y22 => [(48, (eSeries x0 (a0_0, c0_0)))]) (fun s21 y22 => []) () [9, 8, 3, 1, 2] [] 1 (fun s21 y22 t23 h29 hd30 => ?_))
   refine qs (qs (qr (oN 5 [(15, vb (decide (s21.1 < (x0.Points.length : Int))))] [9, 8, 3, 1, 2] ?_)))
   refine oe (nt (cC h29 (fun h41 => ?_) (fun h42 => ?_)))
   · refine qk (nt (qs (qb (qs (qr (oN 3 [(20, vi s21.1), (19, .v (.slice a0_0 x0.Points.length c0_0))] [9, 8, 3, 1, 2] ?_))))))
     obtain ⟨x43, hx44, h45⟩ := bS h41
     refine oi 3 (fun γ w hs => (hv0_0.kept hs.kept)) hx44 ?_
     refine ol 207 0 (vPoint x43) (fun γ w hs => (hv0_0.kept hs.kept).flatq hx44) ?_
     refine oB 2 [(10, .p 1 0)] [9, 8, 3, 1, 2] [(48, (eSeries x0 (a0_0, c0_0))), (207, (ePoint x43))] ?_
     refine oe (nt (qs ?_))
     obtain ⟨p46, hE47, h48⟩ := bS h45
     refine JC_cut (τ := Unit) (fun _ => [(1, vi x1), (2, vi x2), (3, .p 0 0), (8, vi s21.2), (9, vi s21.1), (47, vb p46)]) (fun _ => [(48, (eSeries x0 (a0_0, c0_0))), (207, (ePoint x43))]) (fun _ => []) ?_ (fun _ => ?_)
     · refine JC_quiet (by kernel_rfl) (by kernel_rfl) ?_
       refine qN 5 [(27, vb (decide (x43.Month ≤ x1)))] [10, 9, 8, 3, 1, 2] ?_
       refine qS 27 hE47 (fun h50 => ?_) (fun h51 => ?_)
       · refine qN 6 [(33, vb (decide (x43.Known ≤ x2)))] [10, 9, 8, 3, 1, 2] ?_
         refine qS 33 h50 (fun h53 => ?_) (fun h54 => ?_)
         · refine qN 3 [(36, vb (decide (s21.2 < 0)))] [33, 10, 9, 8, 3, 1, 2] ?_
           refine qS 36 h53 (fun h56 => ?_) (fun h57 => ?_)
           · refine qN 11 [(47, vb true)] [9, 8, 3, 1, 2] ?_
             refine qz ?_
             obtain rfl := sI h56
             exact mt () [1, 2, 3, 8, 9, 47] [] 2
           refine qN 5 [(41, vi s21.2), (40, .v (.slice a0_0 x0.Points.length c0_0)), (38, vi x43.Month)] [36, 33, 9, 8, 3, 1, 2] ?_
           obtain ⟨x58, hx59, h60⟩ := bS h57
           refine qi 3 (fun γ w hs => (hv0_0.kept hs.kept)) hx59 ?_
           refine qN 1 [(43, .q a0_0 (Int.toNat s21.2 * 3))] [38, 36, 33, 9, 8, 3, 1, 2] ?_
           refine ql 3 0 (.int .i64 x58.Month) (fun γ w hs => (hv0_0.kept hs.kept).flatq hx59) ?_
           refine qN 3 [(47, vb (decide (x43.Month ≥ x58.Month)))] [9, 8, 3, 1, 2] ?_
           refine qz ?_
           obtain rfl := sI h60
           exact mt () [1, 2, 3, 8, 9, 47] [] 2
         refine qN 14 [(47, vb false)] [9, 8, 3, 1, 2] ?_
         refine qz ?_
         obtain rfl := sI h54
         exact mt () [1, 2, 3, 8, 9, 47] [] 2
       refine qN 20 [(47, vb false)] [9, 8, 3, 1, 2] ?_
       refine qz ?_
       obtain rfl := sI h51
       exact mt () [1, 2, 3, 8, 9, 47] [] 2
     refine nt ?_
     obtain ⟨k64, hk65, h67⟩ := jS h48
     refine JC_cutP (τ := (Int) × (Unit)) (fun y => k64 y.1 = some t23) (fun y63 => [(1, vi x1), (2, vi x2), (3, .p 0 0), (8, vi y63.1), (9, vi s21.1)]) (fun y63 => [(48, (eSeries x0 (a0_0, c0_0))), (207, (ePoint x43))]) (fun y63 => []) ?_ (fun y63 h66p => ?_)
     · refine cC h67 (fun h69 => ?_) (fun h70 => ?_)
       · refine qr (oN 2 [(8, vi s21.1)] [1, 2, 3, 9] ?_)
         exact oe (mp (s21.1, ()) h69 [1, 2, 3, 8, 9] [] 2)
       exact qk (mp (s21.2, ()) h70 [1, 2, 3, 8, 9] [] 2)
     have h66 := (congrFun hk65 _).symm.trans h66p
     refine bn (nt (qr (oN 3 [(9, vi (w64 (s21.1 + 1)))] [1, 2, 3, 8] ?_)))
     exact oe (ct h66 () [9, 8, 3, 1, 2] [] 1)
   refine qx (nx (nx (bh ?_)))
   have h71 := leafB hd30 h42 h26
   exact mp (s21.2, ()) h71 [8, 3] [] 1
 have h33 := (congrFun hk28 _).symm.trans h33p
 refine nt (qs (qs (qr (oN 2 [(50, vb (decide (y32.1 < 0)))] [8, 3] ?_))))
 refine oe (nt (cC h33 (fun h35 => ?_) (fun h36 => ?_)))
 · refine qs (qr (oN 2 [(7, vb false), (6, vi 0)] [] ?_))
   refine oe (nt (qe (nr ?_)))
   obtain rfl := sI h35
   exact re [.int .i64 0, .bool false]
 refine qk (nt (qs (qr (oN 3 [(53, vi y32.1), (52, .v (.slice a0_0 x0.Points.length c0_0))] [] ?_))))
 obtain ⟨x37, hx38, h39⟩ := bS h36
 refine oi 3 (fun γ w hs => (hv0_0.kept hs.kept)) hx38 ?_
 refine oN 1 [(55, .q a0_0 (Int.toNat y32.1 * 3 + 2))] [] ?_
 refine ol 3 2 (.int .i64 x37.Value) (fun γ w hs => (hv0_0.kept hs.kept).flatq hx38) ?_
 refine oN 2 [(7, vb true), (6, vi x37.Value)] [] ?_
 refine oe (nt (qe ?_))
 obtain rfl := sI h39
 exact re [.int .i64 x37.Value, .bool true]

theorem c_spec_IndexRatio {W : World} {x0 : Series} {a0_0 : Option Addr} {c0_0 : Nat} {x1 : Int} {x2 : Int} {x3 : Int} {r : Frac × Bool} (h : spec_IndexRatio x0 x1 x2 x3 = some r) (hv0_0 : SlView W x0.Points a0_0 c0_0) :
    Gives0 Tryz.prog 198 #[vSeries x0 (a0_0, c0_0), .int .i64 x1, .int .i64 x2, .int .i64 x3] W (.tuple #[vFrac r.1, .bool r.2]) := by
 unfold spec_IndexRatio at h
 refine en Tryz.func198 Tryz.ntmps198 ?_
 refine qs (qr (oB 3 [(8, .p 1 0), (4, .p 0 0)] [1, 2, 3] [(48, (eSeries x0 (a0_0, c0_0))), (118, (eFrac (Frac.mk 0 0)))] ?_))
 refine oe (nt (qs (qr (oN 3 [(17, vi x3), (16, vi x1), (15, .v (vSeries x0 (a0_0, c0_0)))] [8, 4, 2, 3] ?_))))
 obtain ⟨t21, h22, h23⟩ := bS h
 refine k0 (fun γ w hs => c_spec_IndexAt h22 (hv0_0.kept hs.kept)) ?_
 refine oN 5 [(11, vb t21.2), (10, vi t21.1)] [8, 4, 2, 3] ?_
 refine oe (nt (qs (qr (oN 3 [(24, vi x3), (23, vi x2), (22, .v (vSeries x0 (a0_0, c0_0)))] [11, 10, 8] ?_))))
 obtain ⟨t25, h26, h27⟩ := bS h23
 refine k0 (fun γ w hs => c_spec_IndexAt h26 (hv0_0.kept hs.kept)) ?_
 refine oN 5 [(13, vb t25.2), (12, vi t25.1)] [11, 10, 8] ?_
 refine oe (nt (qs (qs ?_)))
 obtain ⟨p29, hE30, h31⟩ := bS h27
 refine JC_cut (τ := Unit) (fun _ => [(8, .p 1 0), (10, vi t21.1), (12, vi t25.1), (33, vb p29)]) (fun _ => [(48, (eSeries x0 (a0_0, c0_0))), (118, (eFrac (Frac.mk 0 0)))]) (fun _ => []) ?_ (fun _ => ?_)
 · refine qr (oN 3 [(30, vb (!t21.2))] [13, 12, 10, 8] ?_)
   refine oS 30 hE30 (fun h33 => ?_) (fun h34 => ?_)
   · refine oN 3 [(33, vb true)] [12, 10, 8] ?_
     refine oe ?_
     obtain rfl := sI h33
     exact mt () [8, 10, 12, 33] [] 2
   refine oN 3 [(33, vb (!t25.2))] [12, 10, 8] ?_
   refine oe ?_
   obtain rfl := sI h34
   exact mt () [8, 10, 12, 33] [] 2
 refine nt (cC h31 (fun h36 => ?_) (fun h37 => ?_))
 · refine qs (qr (oN 3 [(9, vb false)] [8] ?_))
   refine oe (nt (qe (nr ?_)))
   obtain rfl := sI h36
   exact re [vFrac (Frac.mk 0 0), .bool false]
 refine qk (nt (qs (qr (oN 2 [(36, vi t21.1), (35, vi t25.1)] [8] ?_))))
 obtain ⟨t38, h39, h40⟩ := bS h37
 refine k0 (fun γ w hs => c_spec_FracNew h39) ?_
 refine oB 4 [(9, vb t38.2)] [8] [(48, (eSeries x0 (a0_0, c0_0))), (118, (eFrac t38.1))] ?_
 refine oe (nt (qe ?_))
 obtain rfl := sI h40
 exact re [vFrac t38.1, .bool t38.2]

theorem c_spec_MonthOfKind {W : World} {x0 : List Event} {a0_0 : Option Addr} {c0_0 : Nat} {x1 : Int} {r : Int} (h : spec_MonthOfKind x0 x1 = some r) (hv0_0 : SlView W x0 a0_0 c0_0) :
    Gives0 Tryz.prog 199 #[.slice a0_0 x0.length c0_0, .int .i64 x1] W (.int .i64 r) := by
 unfold spec_MonthOfKind at h
 refine en Tryz.func199 Tryz.ntmps199 ?_
 refine qs (qr (oN 1 [] [0, 1] ?_))
 refine oe (nt (qs (qr (oN 1 [(5, vi (-1))] [0, 1] ?_))))
 refine oe (nt (qs (qs (qr (oN 1 [(6, vi 0)] [5, 0, 1] ?_)))))
 refine oe (nt ?_)
 obtain ⟨r24, hL25, h26⟩ := bS h
 obtain ⟨k27, hk28, h26⟩ := brkS h26
 refine JC_cutP (τ := (Int) × (Unit)) (fun y => k27 y.1 = some r) (fun y32 => [(5, vi y32.1)]) (fun y32 => []) (fun y32 => []) ?_ (fun y32 h33p => ?_)
 · refine qb (lp Unit hL25 (fun s21 y22 => [(6, vi s21.1), (5, vi s21.2), (0, .v (.slice a0_0 x0.length c0_0)), (1, vi x1)]) (fun s21 y22 => []) (fun s21 y22 => []) () [6, 5, 0, 1] [] 0 (fun s21 y22 t23 h29 hd30 => ?_))
   refine qs (qs ?_)
   obtain ⟨p34, hE35, h36⟩ := bS h29
   refine JC_cut (τ := Unit) (fun _ => [(0, .v (.slice a0_0 x0.length c0_0)), (1, vi x1), (5, vi s21.2), (6, vi s21.1), (14, vb p34)]) (fun _ => []) (fun _ => []) ?_ (fun _ => ?_)
   · refine qr (oN 5 [(11, vb (decide (s21.1 < (x0.length : Int))))] [6, 5, 0, 1] ?_)
     refine oS 11 hE35 (fun h38 => ?_) (fun h39 => ?_)
     · refine oN 1 [(12, .v (.slice a0_0 x0.length c0_0))] [11, 6, 5, 0, 1] ?_
       obtain ⟨t40, h41, h42⟩ := bS h38
       refine k0 (fun γ w hs => c_spec_EventsOk h41 (hv0_0.kept hs.kept)) ?_
       refine oN 1 [(14, vb t40)] [6, 5, 0, 1] ?_
       refine oe ?_
       obtain rfl := sI h42
       exact mt () [0, 1, 5, 6, 14] [] 0
     refine oN 3 [(14, vb false)] [6, 5, 0, 1] ?_
     refine oe ?_
     obtain rfl := sI h39
     exact mt () [0, 1, 5, 6, 14] [] 0
   refine nt (cC h36 (fun h45 => ?_) (fun h46 => ?_))
   · refine qk (nt (qs (qb (qs (qr (oN 2 [(18, vi s21.1), (17, .v (.slice a0_0 x0.length c0_0))] [0, 1, 5, 6] ?_))))))
     obtain ⟨x47, hx48, h49⟩ := bS h45
     refine oi 2 (fun γ w hs => (hv0_0.kept hs.kept)) hx48 ?_
     refine oN 1 [(20, .q a0_0 (Int.toNat s21.1 * 2))] [0, 1, 5, 6] ?_
     refine ol 3 0 (.int .i64 x47.Kind) (fun γ w hs => (hv0_0.kept hs.kept).flatq hx48) ?_
     refine oN 2 [(23, vb (x47.Kind == x1))] [0, 1, 5, 6] ?_
     refine oe (nt ?_)
     obtain ⟨k56, hk57, h59⟩ := jS h49
     refine JC_cutP (τ := (Int) × (Unit)) (fun y => k56 y.1 = some t23) (fun y55 => [(0, .v (.slice a0_0 x0.length c0_0)), (1, vi x1), (5, vi y55.1), (6, vi s21.1)]) (fun y55 => []) (fun y55 => []) ?_ (fun y55 h58p => ?_)
     · refine cC h59 (fun h61 => ?_) (fun h62 => ?_)
       · refine qr (oN 2 [(25, vi s21.1), (24, .v (.slice a0_0 x0.length c0_0))] [0, 1, 6] ?_)
         obtain ⟨x63, hx64, h65⟩ := bS h61
         refine oi 2 (fun γ w hs => (hv0_0.kept hs.kept)) hx64 ?_
         refine oN 1 [(27, .q a0_0 (Int.toNat s21.1 * 2 + 1))] [0, 1, 6] ?_
         refine ol 3 1 (.int .i64 x63.Month) (fun γ w hs => (hv0_0.kept hs.kept).flatq hx64) ?_
         refine oN 1 [(5, vi x63.Month)] [0, 1, 6] ?_
         exact oe (mp (x63.Month, ()) h65 [0, 1, 5, 6] [] 0)
       exact qk (mp (s21.2, ()) h62 [0, 1, 5, 6] [] 0)
     have h58 := (congrFun hk57 _).symm.trans h58p
     refine bn (nt (qr (oN 3 [(6, vi (w64 (s21.1 + 1)))] [0, 1, 5] ?_)))
     exact oe (ct h58 () [6, 5, 0, 1] [] 0)
   refine qx (nx (nx (bh ?_)))
   have h66 := leafB hd30 h46 h26
   exact mp (s21.2, ()) h66 [5] [] 0
 have h33 := (congrFun hk28 _).symm.trans h33p
 refine nt (qs (qr (oN 2 [(4, vi y32.1)] [] ?_)))
 refine oe (nt (qe ?_))
 obtain rfl := sI h33
 exact re [.int .i64 y32.1]

theorem c_spec_AgeAt {W : World} {x0 : Int} {x1 : Int} {x2 : Int} {r : Int} (h : spec_AgeAt x0 x1 x2 = some r)  :
    Gives0 Tryz.prog 200 #[.int .i64 x0, .int .i64 x1, .int .i64 x2] W (.int .i64 r) := by
 unfold spec_AgeAt at h
 refine en Tryz.func200 Tryz.ntmps200 ?_
 refine qs (qr (oN 1 [] [0, 1, 2] ?_))
 refine oe (nt (qs (qs ?_)))
 obtain ⟨p21, hE22, h23⟩ := bS h
 refine JC_cut (τ := Unit) (fun _ => [(0, vi x0), (1, vi x1), (2, vi x2), (20, vb p21)]) (fun _ => []) (fun _ => []) ?_ (fun _ => ?_)
 · refine qr (oN 1 [(8, vi x0)] [0, 1, 2] ?_)
   obtain ⟨t24, h25, h26⟩ := bS hE22
   refine k0 (fun γ w hs => c_spec_MonthOk h25) ?_
   refine oN 2 [(11, vb (!t24))] [0, 1, 2] ?_
   refine oS 11 h26 (fun h29 => ?_) (fun h30 => ?_)
   · refine oN 9 [(20, vb true)] [0, 1, 2] ?_
     refine oe ?_
     obtain rfl := sI h29
     exact mt () [0, 1, 2, 20] [] 0
   refine oN 1 [(12, vi x1)] [11, 0, 1, 2] ?_
   obtain ⟨t31, h32, h33⟩ := bS h30
   refine k0 (fun γ w hs => c_spec_MonthOk h32) ?_
   refine oN 3 [(16, vb (!t31))] [0, 1, 2] ?_
   refine oS 16 h33 (fun h36 => ?_) (fun h37 => ?_)
   · refine oN 4 [(20, vb true)] [0, 1, 2] ?_
     refine oe ?_
     obtain rfl := sI h36
     exact mt () [0, 1, 2, 20] [] 0
   refine oN 4 [(20, vb (decide (x1 < x0)))] [0, 1, 2] ?_
   refine oe ?_
   obtain rfl := sI h37
   exact mt () [0, 1, 2, 20] [] 0
 refine nt (cC h23 (fun h39 => ?_) (fun h40 => ?_))
 · refine qs (qr (oN 1 [(6, vi (-1))] [] ?_))
   refine oe (nt (qe (nr ?_)))
   obtain rfl := sI h39
   exact re [.int .i64 (-1)]
 refine qk (nt (qs (qr (oN 4 [(7, vi (w64 (x1 - x0)))] [2] ?_))))
 refine oe (nt (qs (qs (qr (oN 1 [(24, vi x2)] [7] ?_)))))
 refine oe (nt (qb (qs (qr (oN 2 [(25, vb (x2 == 1))] [24, 7] ?_)))))
 refine oe (nt (cC h40 (fun h48 => ?_) (fun h49 => ?_)))
 · refine qs (qr (oN 3 [(6, vi (w64 (Int.tdiv (w64 (x1 - x0)) 12)))] [] ?_))
   refine oe (nt (qe (br (nr ?_))))
   obtain rfl := sI h48
   exact re [.int .i64 (w64 (Int.tdiv (w64 (x1 - x0)) 12))]
 refine qs (qr (oN 2 [(29, vb (x2 == 2))] [24, 7] ?_))
 refine oe (nt (cC h49 (fun h54 => ?_) (fun h55 => ?_)))
 · refine qs (qr (oN 4 [(6, vi (w64 (Int.tdiv (w64 ((w64 (x1 - x0)) + 6)) 12)))] [] ?_))
   refine oe (nt (qe (br (nr ?_))))
   obtain rfl := sI h54
   exact re [.int .i64 (w64 (Int.tdiv (w64 ((w64 (x1 - x0)) + 6)) 12))]
 refine qs (qr (oN 2 [(34, vb (x2 == 3))] [7] ?_))
 refine oe (nt (cC h55 (fun h57 => ?_) (fun h58 => ?_)))
 · refine qs (qr (oN 4 [(6, vi (w64 ((w64 (Int.tdiv (w64 (x1 - x0)) 12)) + 1)))] [] ?_))
   refine oe (nt (qe (br (nr ?_))))
   obtain rfl := sI h57
   exact re [.int .i64 (w64 ((w64 (Int.tdiv (w64 (x1 - x0)) 12)) + 1))]
 refine qk (bn (nt (qs (qr (oN 1 [(6, vi (-1))] [] ?_)))))
 refine oe (nt (qe ?_))
 obtain rfl := sI h58
 exact re [.int .i64 (-1)]

theorem c_spec_l08Vars {W : World} {x0 : List Frac} {a0_0 : Option Addr} {c0_0 : Nat} {r : Bool} (h : spec_l08Vars x0 = some r) (hv0_0 : SlView W x0 a0_0 c0_0) :
    Gives0 Tryz.prog 201 #[.slice a0_0 x0.length c0_0] W (.bool r) := by
 unfold spec_l08Vars at h
 refine en Tryz.func201 Tryz.ntmps201 ?_
 refine qs (qr (oN 1 [] [0] ?_))
 refine oe (nt (qs (qs (qr (oN 1 [(3, vi 0)] [0] ?_)))))
 refine oe (nt ?_)
 obtain ⟨r24, hL25, h26⟩ := bS h
 obtain ⟨k27, hk28, h26⟩ := brkS h26
 refine JC_cutP (τ := (Unit) × (Unit)) (fun y => k27 y.1 = some r) (fun y32 => [(0, .v (.slice a0_0 x0.length c0_0))]) (fun y32 => []) (fun y32 => []) ?_ (fun y32 h33p => ?_)
 · refine qb (lp Unit hL25 (fun s21 y22 => [(3, vi s21), (0, .v (.slice a0_0 x0.length c0_0))]) (fun s21 y22 => []) (fun s21 y22 => []) () [3, 0] [] 0 (fun s21 y22 t23 h29 hd30 => ?_))
   refine qs (qs (qr (oN 4 [(7, vb (decide (s21 < (x0.length : Int))))] [3, 0] ?_)))
   refine oe (nt (cC h29 (fun h35 => ?_) (fun h36 => ?_)))
   · refine qk (nt (qs (qb (qs (qr (oN 2 [(11, vi s21), (10, .v (.slice a0_0 x0.length c0_0))] [3, 0] ?_))))))
     obtain ⟨x37, hx38, h39⟩ := bS h35
     refine oi 2 (fun γ w hs => (hv0_0.kept hs.kept)) hx38 ?_
     refine ol 118 0 (vFrac x37) (fun γ w hs => (hv0_0.kept hs.kept).flatq hx38) ?_
     obtain ⟨t40, h41, h42⟩ := bS h39
     refine k0 (fun γ w hs => c_spec_FracOk h41) ?_
     refine oN 1 [(15, vb (!t40))] [3, 0] ?_
     refine oe (nt (cC h42 (fun h45 => ?_) (fun h46 => ?_)))
     · refine qs (qr (oN 1 [(2, vb false)] [] ?_))
       refine oe (nt (qe (br (nr (nr ?_)))))
       have h47 := leafR hd30 h45 h26
       refine br (nr (nr ?_))
       obtain rfl := sI h47
       exact re [.bool false]
     refine qk (bn (nt (qr (oN 3 [(3, vi (w64 (s21 + 1)))] [0] ?_))))
     exact oe (ct h46 () [3, 0] [] 0)
   refine qx (nx (nx (bh ?_)))
   have h48 := leafB hd30 h36 h26
   exact mp ((), ()) h48 [0] [] 0
 have h33 := (congrFun hk28 _).symm.trans h33p
 refine nt (qs (qr (oN 4 [(2, vb ((x0.length : Int) == 8))] [] ?_)))
 refine oe (nt (qe ?_))
 obtain rfl := sI h33
 exact re [.bool ((x0.length : Int) == 8)]
end Go.Pen
