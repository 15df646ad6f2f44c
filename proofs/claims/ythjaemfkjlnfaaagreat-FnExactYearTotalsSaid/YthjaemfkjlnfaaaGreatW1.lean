/-
  Each Go function does what its plain function says: written by a program of ours.
-/
import Derived.Test.YthjaemfkjlnfaaaGreatF
import Derived.Test.YthjaemfkjlnfaaaGreatProg
import Derived.Test.YthjaemfkjlnfaaaGreatPenK
namespace Go.Pen
open Go.Proofs Go.RowKit
set_option linter.unusedVariables false
set_option linter.unusedSimpArgs false
set_option maxRecDepth 100000
set_option maxHeartbeats 4000000

theorem c_laws_szNodeS {W : World} {x0 : List Node} {a0_0 : Option Addr} {c0_0 : Nat} {x1 : Int} {r : Int} (h : laws_szNodeS x0 x1 = some r) (hv0_0 : SlView W x0 a0_0 c0_0) :
    Gives0 Tryz.prog 204 #[.slice a0_0 x0.length c0_0, .int .i64 x1] W (.int .i64 r) := by
 unfold laws_szNodeS at h
 refine en Tryz.func204 Tryz.ntmps204 ?_
 refine qs (qr (oN 1 [] [0, 1] ?_))
 refine oe (nt (qs (qr (oN 5 [(1, vi (w64 (x1 - (x0.length : Int))))] [] ?_))))
 refine oe (nt (qs (qs (qr (oN 2 [(10, vb (decide ((w64 (x1 - (x0.length : Int))) < 0)))] [1] ?_)))))
 refine oe (nt (cC h (fun h22 => ?_) (fun h23 => ?_)))
 · refine qs (qr (oN 1 [(4, vi (-1))] [] ?_))
   refine oe (nt (qe (nr ?_)))
   obtain rfl := sI h22
   exact re [.int .i64 (-1)]
 refine qk (nt (qs (qr (oN 2 [(4, vi (w64 (x1 - (x0.length : Int))))] [] ?_))))
 refine oe (nt (qe ?_))
 obtain rfl := sI h23
 exact re [.int .i64 (w64 (x1 - (x0.length : Int)))]

theorem c_laws_szRule {W : World} {x0 : Rule} {a0_0 : Option Addr} {c0_0 : Nat} {x1 : Int} {r : Int} (h : laws_szRule x0 x1 = some r) (hv0_0 : SlView W x0.Nodes a0_0 c0_0) :
    Gives0 Tryz.prog 151 #[vRule x0 (a0_0, c0_0), .int .i64 x1] W (.int .i64 r) := by
 unfold laws_szRule at h
 refine en Tryz.func151 Tryz.ntmps151 ?_
 refine qs (qr (oB 2 [(2, .p 0 0)] [1] [(185, (eRule x0 (a0_0, c0_0)))] ?_))
 refine oe (nt (qs (qr (oN 3 [(7, vi x1), (6, .v (.slice a0_0 x0.Nodes.length c0_0))] [] ?_))))
 obtain ⟨t21, h22, h23⟩ := bS h
 refine k0 (fun γ w hs => c_laws_szNodeS h22 (hv0_0.kept hs.kept)) ?_
 refine oN 1 [(1, vi t21)] [] ?_
 refine oe (nt (qs (qs (qr (oN 2 [(10, vb (decide (t21 < 0)))] [1] ?_)))))
 refine oe (nt (cC h23 (fun h26 => ?_) (fun h27 => ?_)))
 · refine qs (qr (oN 1 [(4, vi (-1))] [] ?_))
   refine oe (nt (qe (nr ?_)))
   obtain rfl := sI h26
   exact re [.int .i64 (-1)]
 refine qk (nt (qs (qr (oN 2 [(4, vi t21)] [] ?_))))
 refine oe (nt (qe ?_))
 obtain rfl := sI h27
 exact re [.int .i64 t21]

theorem c_laws_szRuleS {W : World} {x0 : List Rule} {a0_0 : Option Addr} {c0_0 : Nat} {x1 : Int} {r : Int} (h : laws_szRuleS x0 x1 = some r) (hv0_0 : SlView W x0 a0_0 c0_0) :
    Gives0 Tryz.prog 97 #[.slice a0_0 x0.length c0_0, .int .i64 x1] W (.int .i64 r) := by
 unfold laws_szRuleS at h
 refine en Tryz.func97 Tryz.ntmps97 ?_
 refine qs (qr (oN 1 [] [0, 1] ?_))
 refine oe (nt (qs (qr (oN 5 [(1, vi (w64 (x1 - (x0.length : Int))))] [0] ?_))))
 refine oe (nt (qs (qs (qr (oN 2 [(11, vb (decide ((w64 (x1 - (x0.length : Int))) < 0)))] [1, 0] ?_)))))
 refine oe (nt (cC h (fun h22 => ?_) (fun h23 => ?_)))
 · refine qs (qr (oN 1 [(4, vi (-1))] [] ?_))
   refine oe (nt (qe (nr ?_)))
   obtain rfl := sI h22
   exact re [.int .i64 (-1)]
 refine qk (nt (qs (qs (qr (oN 1 [(5, vi 0)] [1, 0] ?_)))))
 refine oe (nt ?_)
 obtain ⟨r27, hL28, h29⟩ := bS h23
 obtain ⟨k30, hk31, h29⟩ := brkS h29
 refine JC_cutP (τ := (Int) × (Unit)) (fun y => k30 y.1 = some r) (fun y35 => [(1, vi y35.1)]) (fun y35 => []) (fun y35 => []) ?_ (fun y35 h36p => ?_)
 · refine qb (lp Unit hL28 (fun s24 y25 => [(5, vi s24.1), (1, vi s24.2), (0, .v (.slice a0_0 x0.length c0_0))]) (fun s24 y25 => []) (fun s24 y25 => []) () [5, 1, 0] [] 0 (fun s24 y25 t26 h32 hd33 => ?_))
   refine qs (qs (qr (oN 4 [(15, vb (decide (s24.1 < (x0.length : Int))))] [5, 1, 0] ?_)))
   refine oe (nt (cC h32 (fun h38 => ?_) (fun h39 => ?_)))
   · refine qk (nt (qs (qb (qs (qr (oN 2 [(19, vi s24.1), (18, .v (.slice a0_0 x0.length c0_0))] [5, 1, 0] ?_))))))
     obtain ⟨x40, hx41, h42⟩ := bS h38
     refine oi 7 (fun γ w hs => (hv0_0.kept hs.kept)) hx41 ?_
     obtain ⟨_, ⟨a43, c44, rfl, hv45⟩, hc46⟩ := SlView.at hv0_0 (idx_some hx41).2.2
     refine ol 185 0 (vRule x40 (a43, c44)) (fun γ w hs => ⟨(hv0_0.kept hs.kept).ne (idx_some hx41).2.2, hc46.kept hs.kept⟩) ?_
     refine oN 1 [(22, vi s24.2)] [21, 5, 0] ?_
     obtain ⟨t47, h48, h49⟩ := bS h42
     refine k0 (fun γ w hs => c_laws_szRule h48 (hv45.kept hs.kept)) ?_
     refine oN 1 [(1, vi t47)] [5, 0] ?_
     refine oe (nt (qs (qr (oN 2 [(25, vb (decide (t47 < 0)))] [1, 5, 0] ?_))))
     refine oe (nt (cC h49 (fun h52 => ?_) (fun h53 => ?_)))
     · refine qs (qr (oN 1 [(4, vi (-1))] [] ?_))
       refine oe (nt (qe (br (nr (nr ?_)))))
       have h54 := leafR hd33 h52 h29
       refine br (nr (nr ?_))
       obtain rfl := sI h54
       exact re [.int .i64 (-1)]
     refine qk (bn (nt (qr (oN 3 [(5, vi (w64 (s24.1 + 1)))] [1, 0] ?_))))
     exact oe (ct h53 () [5, 1, 0] [] 0)
   refine qx (nx (nx (bh ?_)))
   have h55 := leafB hd33 h39 h29
   exact mp (s24.2, ()) h55 [1] [] 0
 have h36 := (congrFun hk31 _).symm.trans h36p
 refine nt (qs (qr (oN 2 [(4, vi y35.1)] [] ?_)))
 refine oe (nt (qe ?_))
 obtain rfl := sI h36
 exact re [.int .i64 y35.1]

theorem c_laws_szBook {W : World} {x0 : Book} {a0_0 : Option Addr} {c0_0 : Nat} {x1 : Int} {r : Int} (h : laws_szBook x0 x1 = some r) (hv0_0 : SlView W x0.Rules a0_0 c0_0) :
    Gives0 Tryz.prog 55 #[vBook x0 (a0_0, c0_0), .int .i64 x1] W (.int .i64 r) := by
 unfold laws_szBook at h
 refine en Tryz.func55 Tryz.ntmps55 ?_
 refine qs (qr (oB 2 [(2, .p 0 0)] [1] [(24, (eBook x0 (a0_0, c0_0)))] ?_))
 refine oe (nt (qs (qr (oN 3 [(7, vi x1), (6, .v (.slice a0_0 x0.Rules.length c0_0))] [] ?_))))
 obtain ⟨t21, h22, h23⟩ := bS h
 refine k0 (fun γ w hs => c_laws_szRuleS h22 (hv0_0.kept hs.kept)) ?_
 refine oN 1 [(1, vi t21)] [] ?_
 refine oe (nt (qs (qs (qr (oN 2 [(10, vb (decide (t21 < 0)))] [1] ?_)))))
 refine oe (nt (cC h23 (fun h26 => ?_) (fun h27 => ?_)))
 · refine qs (qr (oN 1 [(4, vi (-1))] [] ?_))
   refine oe (nt (qe (nr ?_)))
   obtain rfl := sI h26
   exact re [.int .i64 (-1)]
 refine qk (nt (qs (qr (oN 2 [(4, vi t21)] [] ?_))))
 refine oe (nt (qe ?_))
 obtain rfl := sI h27
 exact re [.int .i64 t21]

theorem c_laws_szFactS {W : World} {x0 : List Fact} {a0_0 : Option Addr} {c0_0 : Nat} {x1 : Int} {r : Int} (h : laws_szFactS x0 x1 = some r) (hv0_0 : SlView W x0 a0_0 c0_0) :
    Gives0 Tryz.prog 98 #[.slice a0_0 x0.length c0_0, .int .i64 x1] W (.int .i64 r) := by
 unfold laws_szFactS at h
 refine en Tryz.func98 Tryz.ntmps98 ?_
 refine qs (qr (oN 1 [] [0, 1] ?_))
 refine oe (nt (qs (qr (oN 5 [(1, vi (w64 (x1 - (x0.length : Int))))] [] ?_))))
 refine oe (nt (qs (qs (qr (oN 2 [(10, vb (decide ((w64 (x1 - (x0.length : Int))) < 0)))] [1] ?_)))))
 refine oe (nt (cC h (fun h22 => ?_) (fun h23 => ?_)))
 · refine qs (qr (oN 1 [(4, vi (-1))] [] ?_))
   refine oe (nt (qe (nr ?_)))
   obtain rfl := sI h22
   exact re [.int .i64 (-1)]
 refine qk (nt (qs (qr (oN 2 [(4, vi (w64 (x1 - (x0.length : Int))))] [] ?_))))
 refine oe (nt (qe ?_))
 obtain rfl := sI h23
 exact re [.int .i64 (w64 (x1 - (x0.length : Int)))]

theorem c_laws_szStore {W : World} {x0 : Store} {a0_0 : Option Addr} {c0_0 : Nat} {x1 : Int} {r : Int} (h : laws_szStore x0 x1 = some r) (hv0_0 : SlView W x0.Facts a0_0 c0_0) :
    Gives0 Tryz.prog 56 #[vStore x0 (a0_0, c0_0), .int .i64 x1] W (.int .i64 r) := by
 unfold laws_szStore at h
 refine en Tryz.func56 Tryz.ntmps56 ?_
 refine qs (qr (oB 2 [(2, .p 0 0)] [1] [(27, (eStore x0 (a0_0, c0_0)))] ?_))
 refine oe (nt (qs (qr (oN 3 [(7, vi x1), (6, .v (.slice a0_0 x0.Facts.length c0_0))] [] ?_))))
 obtain ⟨t21, h22, h23⟩ := bS h
 refine k0 (fun γ w hs => c_laws_szFactS h22 (hv0_0.kept hs.kept)) ?_
 refine oN 1 [(1, vi t21)] [] ?_
 refine oe (nt (qs (qs (qr (oN 2 [(10, vb (decide (t21 < 0)))] [1] ?_)))))
 refine oe (nt (cC h23 (fun h26 => ?_) (fun h27 => ?_)))
 · refine qs (qr (oN 1 [(4, vi (-1))] [] ?_))
   refine oe (nt (qe (nr ?_)))
   obtain rfl := sI h26
   exact re [.int .i64 (-1)]
 refine qk (nt (qs (qr (oN 2 [(4, vi t21)] [] ?_))))
 refine oe (nt (qe ?_))
 obtain rfl := sI h27
 exact re [.int .i64 t21]

theorem c_laws_szPointS {W : World} {x0 : List Point} {a0_0 : Option Addr} {c0_0 : Nat} {x1 : Int} {r : Int} (h : laws_szPointS x0 x1 = some r) (hv0_0 : SlView W x0 a0_0 c0_0) :
    Gives0 Tryz.prog 99 #[.slice a0_0 x0.length c0_0, .int .i64 x1] W (.int .i64 r) := by
 unfold laws_szPointS at h
 refine en Tryz.func99 Tryz.ntmps99 ?_
 refine qs (qr (oN 1 [] [0, 1] ?_))
 refine oe (nt (qs (qr (oN 5 [(1, vi (w64 (x1 - (x0.length : Int))))] [] ?_))))
 refine oe (nt (qs (qs (qr (oN 2 [(10, vb (decide ((w64 (x1 - (x0.length : Int))) < 0)))] [1] ?_)))))
 refine oe (nt (cC h (fun h22 => ?_) (fun h23 => ?_)))
 · refine qs (qr (oN 1 [(4, vi (-1))] [] ?_))
   refine oe (nt (qe (nr ?_)))
   obtain rfl := sI h22
   exact re [.int .i64 (-1)]
 refine qk (nt (qs (qr (oN 2 [(4, vi (w64 (x1 - (x0.length : Int))))] [] ?_))))
 refine oe (nt (qe ?_))
 obtain rfl := sI h23
 exact re [.int .i64 (w64 (x1 - (x0.length : Int)))]

theorem c_laws_szSeries {W : World} {x0 : Series} {a0_0 : Option Addr} {c0_0 : Nat} {x1 : Int} {r : Int} (h : laws_szSeries x0 x1 = some r) (hv0_0 : SlView W x0.Points a0_0 c0_0) :
    Gives0 Tryz.prog 57 #[vSeries x0 (a0_0, c0_0), .int .i64 x1] W (.int .i64 r) := by
 unfold laws_szSeries at h
 refine en Tryz.func57 Tryz.ntmps57 ?_
 refine qs (qr (oB 2 [(2, .p 0 0)] [1] [(30, (eSeries x0 (a0_0, c0_0)))] ?_))
 refine oe (nt (qs (qr (oN 3 [(7, vi x1), (6, .v (.slice a0_0 x0.Points.length c0_0))] [] ?_))))
 obtain ⟨t21, h22, h23⟩ := bS h
 refine k0 (fun γ w hs => c_laws_szPointS h22 (hv0_0.kept hs.kept)) ?_
 refine oN 1 [(1, vi t21)] [] ?_
 refine oe (nt (qs (qs (qr (oN 2 [(10, vb (decide (t21 < 0)))] [1] ?_)))))
 refine oe (nt (cC h23 (fun h26 => ?_) (fun h27 => ?_)))
 · refine qs (qr (oN 1 [(4, vi (-1))] [] ?_))
   refine oe (nt (qe (nr ?_)))
   obtain rfl := sI h26
   exact re [.int .i64 (-1)]
 refine qk (nt (qs (qr (oN 2 [(4, vi t21)] [] ?_))))
 refine oe (nt (qe ?_))
 obtain rfl := sI h27
 exact re [.int .i64 t21]

theorem c_laws_szSpellS {W : World} {x0 : List Spell} {a0_0 : Option Addr} {c0_0 : Nat} {x1 : Int} {r : Int} (h : laws_szSpellS x0 x1 = some r) (hv0_0 : SlView W x0 a0_0 c0_0) :
    Gives0 Tryz.prog 100 #[.slice a0_0 x0.length c0_0, .int .i64 x1] W (.int .i64 r) := by
 unfold laws_szSpellS at h
 refine en Tryz.func100 Tryz.ntmps100 ?_
 refine qs (qr (oN 1 [] [0, 1] ?_))
 refine oe (nt (qs (qr (oN 5 [(1, vi (w64 (x1 - (x0.length : Int))))] [] ?_))))
 refine oe (nt (qs (qs (qr (oN 2 [(10, vb (decide ((w64 (x1 - (x0.length : Int))) < 0)))] [1] ?_)))))
 refine oe (nt (cC h (fun h22 => ?_) (fun h23 => ?_)))
 · refine qs (qr (oN 1 [(4, vi (-1))] [] ?_))
   refine oe (nt (qe (nr ?_)))
   obtain rfl := sI h22
   exact re [.int .i64 (-1)]
 refine qk (nt (qs (qr (oN 2 [(4, vi (w64 (x1 - (x0.length : Int))))] [] ?_))))
 refine oe (nt (qe ?_))
 obtain rfl := sI h23
 exact re [.int .i64 (w64 (x1 - (x0.length : Int)))]

theorem c_laws_szEventS {W : World} {x0 : List Event} {a0_0 : Option Addr} {c0_0 : Nat} {x1 : Int} {r : Int} (h : laws_szEventS x0 x1 = some r) (hv0_0 : SlView W x0 a0_0 c0_0) :
    Gives0 Tryz.prog 101 #[.slice a0_0 x0.length c0_0, .int .i64 x1] W (.int .i64 r) := by
 unfold laws_szEventS at h
 refine en Tryz.func101 Tryz.ntmps101 ?_
 refine qs (qr (oN 1 [] [0, 1] ?_))
 refine oe (nt (qs (qr (oN 5 [(1, vi (w64 (x1 - (x0.length : Int))))] [] ?_))))
 refine oe (nt (qs (qs (qr (oN 2 [(10, vb (decide ((w64 (x1 - (x0.length : Int))) < 0)))] [1] ?_)))))
 refine oe (nt (cC h (fun h22 => ?_) (fun h23 => ?_)))
 · refine qs (qr (oN 1 [(4, vi (-1))] [] ?_))
   refine oe (nt (qe (nr ?_)))
   obtain rfl := sI h22
   exact re [.int .i64 (-1)]
 refine qk (nt (qs (qr (oN 2 [(4, vi (w64 (x1 - (x0.length : Int))))] [] ?_))))
 refine oe (nt (qe ?_))
 obtain rfl := sI h23
 exact re [.int .i64 (w64 (x1 - (x0.length : Int)))]

theorem c_laws_szMember {W : World} {x0 : Member} {b0 : AC × AC} {x1 : Int} {r : Int} (h : laws_szMember x0 x1 = some r) (hv0_0 : SlView W x0.Spells b0.1.1 b0.1.2) (hv0_1 : SlView W x0.Events b0.2.1 b0.2.2) :
    Gives0 Tryz.prog 58 #[vMember x0 b0, .int .i64 x1] W (.int .i64 r) := by
 unfold laws_szMember at h
 refine en Tryz.func58 Tryz.ntmps58 ?_
 refine qs (qr (oB 2 [(2, .p 0 0)] [1] [(34, (eMember x0 b0))] ?_))
 refine oe (nt (qs (qr (oN 3 [(7, vi x1), (6, .v (.slice b0.1.1 x0.Spells.length b0.1.2))] [2] ?_))))
 obtain ⟨t21, h22, h23⟩ := bS h
 refine k0 (fun γ w hs => c_laws_szSpellS h22 (hv0_0.kept hs.kept)) ?_
 refine oN 1 [(1, vi t21)] [2] ?_
 refine oe (nt (qs (qs (qr (oN 2 [(10, vb (decide (t21 < 0)))] [1, 2] ?_)))))
 refine oe (nt (cC h23 (fun h26 => ?_) (fun h27 => ?_)))
 · refine qs (qr (oN 1 [(4, vi (-1))] [] ?_))
   refine oe (nt (qe (nr ?_)))
   obtain rfl := sI h26
   exact re [.int .i64 (-1)]
 refine qk (nt (qs (qr (oN 3 [(13, vi t21), (12, .v (.slice b0.2.1 x0.Events.length b0.2.2))] [] ?_))))
 obtain ⟨t28, h29, h30⟩ := bS h27
 refine k0 (fun γ w hs => c_laws_szEventS h29 (hv0_1.kept hs.kept)) ?_
 refine oN 1 [(1, vi t28)] [] ?_
 refine oe (nt (qs (qs (qr (oN 2 [(16, vb (decide (t28 < 0)))] [1] ?_)))))
 refine oe (nt (cC h30 (fun h33 => ?_) (fun h34 => ?_)))
 · refine qs (qr (oN 1 [(4, vi (-1))] [] ?_))
   refine oe (nt (qe (nr ?_)))
   obtain rfl := sI h33
   exact re [.int .i64 (-1)]
 refine qk (nt (qs (qr (oN 2 [(4, vi t28)] [] ?_))))
 refine oe (nt (qe ?_))
 obtain rfl := sI h34
 exact re [.int .i64 t28]

theorem c_laws_szCase {W : World} {x0 : Case} {b0 : AC × AC × AC × AC × AC} {x1 : Int} {r : Int} (h : laws_szCase x0 x1 = some r) (hv0_0 : SlView W x0.Book.Rules b0.1.1 b0.1.2) (hv0_1 : SlView W x0.Store.Facts b0.2.1.1 b0.2.1.2) (hv0_2 : SlView W x0.Series.Points b0.2.2.1.1 b0.2.2.1.2) (hv0_3 : SlView W x0.Member.Spells b0.2.2.2.1.1 b0.2.2.2.1.2) (hv0_4 : SlView W x0.Member.Events b0.2.2.2.2.1 b0.2.2.2.2.2) :
    Gives0 Tryz.prog 13 #[vCase x0 b0, .int .i64 x1] W (.int .i64 r) := by
 unfold laws_szCase at h
 refine en Tryz.func13 Tryz.ntmps13 ?_
 refine qs (qr (oB 2 [(2, .p 0 0)] [1] [(36, (eCase x0 b0))] ?_))
 refine oe (nt (qs (qr (oN 3 [(7, vi x1), (6, .v (vBook x0.Book b0.1))] [2] ?_))))
 obtain ⟨t21, h22, h23⟩ := bS h
 refine k0 (fun γ w hs => c_laws_szBook h22 (hv0_0.kept hs.kept)) ?_
 refine oN 1 [(1, vi t21)] [2] ?_
 refine oe (nt (qs (qs (qr (oN 2 [(10, vb (decide (t21 < 0)))] [1, 2] ?_)))))
 refine oe (nt (cC h23 (fun h26 => ?_) (fun h27 => ?_)))
 · refine qs (qr (oN 1 [(4, vi (-1))] [] ?_))
   refine oe (nt (qe (nr ?_)))
   obtain rfl := sI h26
   exact re [.int .i64 (-1)]
 refine qk (nt (qs (qr (oN 3 [(13, vi t21), (12, .v (vStore x0.Store b0.2.1))] [2] ?_))))
 obtain ⟨t28, h29, h30⟩ := bS h27
 refine k0 (fun γ w hs => c_laws_szStore h29 (hv0_1.kept hs.kept)) ?_
 refine oN 1 [(1, vi t28)] [2] ?_
 refine oe (nt (qs (qs (qr (oN 2 [(16, vb (decide (t28 < 0)))] [1, 2] ?_)))))
 refine oe (nt (cC h30 (fun h33 => ?_) (fun h34 => ?_)))
 · refine qs (qr (oN 1 [(4, vi (-1))] [] ?_))
   refine oe (nt (qe (nr ?_)))
   obtain rfl := sI h33
   exact re [.int .i64 (-1)]
 refine qk (nt (qs (qr (oN 3 [(19, vi t28), (18, .v (vSeries x0.Series b0.2.2.1))] [2] ?_))))
 obtain ⟨t35, h36, h37⟩ := bS h34
 refine k0 (fun γ w hs => c_laws_szSeries h36 (hv0_2.kept hs.kept)) ?_
 refine oN 1 [(1, vi t35)] [2] ?_
 refine oe (nt (qs (qs (qr (oN 2 [(22, vb (decide (t35 < 0)))] [1, 2] ?_)))))
 refine oe (nt (cC h37 (fun h40 => ?_) (fun h41 => ?_)))
 · refine qs (qr (oN 1 [(4, vi (-1))] [] ?_))
   refine oe (nt (qe (nr ?_)))
   obtain rfl := sI h40
   exact re [.int .i64 (-1)]
 refine qk (nt (qs (qr (oN 3 [(25, vi t35), (24, .v (vMember x0.Member b0.2.2.2))] [] ?_))))
 obtain ⟨t42, h43, h44⟩ := bS h41
 refine k0 (fun γ w hs => c_laws_szMember (b0 := b0.2.2.2) h43 (hv0_3.kept hs.kept) (hv0_4.kept hs.kept)) ?_
 refine oN 1 [(1, vi t42)] [] ?_
 refine oe (nt (qs (qs (qr (oN 2 [(28, vb (decide (t42 < 0)))] [1] ?_)))))
 refine oe (nt (cC h44 (fun h47 => ?_) (fun h48 => ?_)))
 · refine qs (qr (oN 1 [(4, vi (-1))] [] ?_))
   refine oe (nt (qe (nr ?_)))
   obtain rfl := sI h47
   exact re [.int .i64 (-1)]
 refine qk (nt (qs (qr (oN 2 [(4, vi t42)] [] ?_))))
 refine oe (nt (qe ?_))
 obtain rfl := sI h48
 exact re [.int .i64 t42]

theorem c_laws_szIntS {W : World} {x0 : List Int} {a0_0 : Option Addr} {c0_0 : Nat} {x1 : Int} {r : Int} (h : laws_szIntS x0 x1 = some r) (hv0_0 : SlView W x0 a0_0 c0_0) :
    Gives0 Tryz.prog 73 #[.slice a0_0 x0.length c0_0, .int .i64 x1] W (.int .i64 r) := by
 unfold laws_szIntS at h
 refine en Tryz.func73 Tryz.ntmps73 ?_
 refine qs (qr (oN 1 [] [0, 1] ?_))
 refine oe (nt (qs (qr (oN 5 [(1, vi (w64 (x1 - (x0.length : Int))))] [] ?_))))
 refine oe (nt (qs (qs (qr (oN 2 [(10, vb (decide ((w64 (x1 - (x0.length : Int))) < 0)))] [1] ?_)))))
 refine oe (nt (cC h (fun h22 => ?_) (fun h23 => ?_)))
 · refine qs (qr (oN 1 [(4, vi (-1))] [] ?_))
   refine oe (nt (qe (nr ?_)))
   obtain rfl := sI h22
   exact re [.int .i64 (-1)]
 refine qk (nt (qs (qr (oN 2 [(4, vi (w64 (x1 - (x0.length : Int))))] [] ?_))))
 refine oe (nt (qe ?_))
 obtain rfl := sI h23
 exact re [.int .i64 (w64 (x1 - (x0.length : Int)))]

theorem c_laws_szOffice {W : World} {x0 : Office} {b0 : AC × AC × AC × AC × AC × AC} {x1 : Int} {r : Int} (h : laws_szOffice x0 x1 = some r) (hv0_0 : SlView W x0.Case.Book.Rules b0.1.1 b0.1.2) (hv0_1 : SlView W x0.Case.Store.Facts b0.2.1.1 b0.2.1.2) (hv0_2 : SlView W x0.Case.Series.Points b0.2.2.1.1 b0.2.2.1.2) (hv0_3 : SlView W x0.Case.Member.Spells b0.2.2.2.1.1 b0.2.2.2.1.2) (hv0_4 : SlView W x0.Case.Member.Events b0.2.2.2.2.1.1 b0.2.2.2.2.1.2) (hv0_5 : SlView W x0.Paid b0.2.2.2.2.2.1 b0.2.2.2.2.2.2) :
    Gives0 Tryz.prog 29 #[vOffice x0 b0, .int .i64 x1] W (.int .i64 r) := by
 unfold laws_szOffice at h
 refine en Tryz.func29 Tryz.ntmps29 ?_
 refine qs (qr (oB 2 [(2, .p 0 0)] [1] [(73, (eOffice x0 b0))] ?_))
 refine oe (nt (qs (qr (oN 3 [(7, vi x1), (6, .v (vCase x0.Case (b0.1, b0.2.1, b0.2.2.1, b0.2.2.2.1, b0.2.2.2.2.1)))] [2] ?_))))
 obtain ⟨t21, h22, h23⟩ := bS h
 refine k0 (fun γ w hs => c_laws_szCase (b0 := (b0.1, b0.2.1, b0.2.2.1, b0.2.2.2.1, b0.2.2.2.2.1)) h22 (hv0_0.kept hs.kept) (hv0_1.kept hs.kept) (hv0_2.kept hs.kept) (hv0_3.kept hs.kept) (hv0_4.kept hs.kept)) ?_
 refine oN 1 [(1, vi t21)] [2] ?_
 refine oe (nt (qs (qs (qr (oN 2 [(10, vb (decide (t21 < 0)))] [1, 2] ?_)))))
 refine oe (nt (cC h23 (fun h26 => ?_) (fun h27 => ?_)))
 · refine qs (qr (oN 1 [(4, vi (-1))] [] ?_))
   refine oe (nt (qe (nr ?_)))
   obtain rfl := sI h26
   exact re [.int .i64 (-1)]
 refine qk (nt (qs (qr (oN 3 [(13, vi t21), (12, .v (.slice b0.2.2.2.2.2.1 x0.Paid.length b0.2.2.2.2.2.2))] [] ?_))))
 obtain ⟨t28, h29, h30⟩ := bS h27
 refine k0 (fun γ w hs => c_laws_szIntS h29 (hv0_5.kept hs.kept)) ?_
 refine oN 1 [(1, vi t28)] [] ?_
 refine oe (nt (qs (qs (qr (oN 2 [(16, vb (decide (t28 < 0)))] [1] ?_)))))
 refine oe (nt (cC h30 (fun h33 => ?_) (fun h34 => ?_)))
 · refine qs (qr (oN 1 [(4, vi (-1))] [] ?_))
   refine oe (nt (qe (nr ?_)))
   obtain rfl := sI h33
   exact re [.int .i64 (-1)]
 refine qk (nt (qs (qr (oN 2 [(4, vi t28)] [] ?_))))
 refine oe (nt (qe ?_))
 obtain rfl := sI h34
 exact re [.int .i64 t28]

theorem c_laws_toFrac {W : World} {x0 : Frac} {r : Frac} (h : laws_toFrac x0 = some r)  :
    Gives0 Tryz.prog 243 #[vFrac x0] W (vFrac r) := by
 unfold laws_toFrac at h
 refine en Tryz.func243 Tryz.ntmps243 ?_
 refine qs (qr (oB 2 [(2, .p 1 0), (1, .p 0 0)] [] [(247, (eFrac x0)), (216, (eFrac (Frac.mk 0 0)))] ?_))
 refine oe (nt (qs (qr (oB 1 [(3, .p 2 0)] [2, 1] [(247, (eFrac x0)), (216, (eFrac (Frac.mk 0 0))), (216, (eFrac (Frac.mk 0 0)))] ?_))))
 refine oe (nt (qs (qr (oB 4 [] [3, 2, 1] [(247, (eFrac x0)), (216, (eFrac (Frac.mk 0 0))), (216, (eFrac (Frac.mk x0.Num 0)))] ?_))))
 refine oe (nt (qs (qr (oB 4 [] [3, 2] [(247, (eFrac x0)), (216, (eFrac (Frac.mk 0 0))), (216, (eFrac x0))] ?_))))
 refine oe (nt (qs (qr (oB 2 [] [2] [(247, (eFrac x0)), (216, (eFrac x0)), (216, (eFrac x0))] ?_))))
 refine oe (nt (qe ?_))
 obtain rfl := sI h
 exact re [vFrac x0]

theorem c_laws_toNode {W : World} {x0 : Node} {r : Node} (h : laws_toNode x0 = some r)  :
    Gives0 Tryz.prog 232 #[vNode x0] W (vNode r) := by
 unfold laws_toNode at h
 refine en Tryz.func232 Tryz.ntmps232 ?_
 refine qs (qr (oB 2 [(2, .p 1 0), (1, .p 0 0)] [] [(249, (eNode x0)), (233, (eNode (Node.mk 0 0 0 0 (Frac.mk 0 0))))] ?_))
 refine oe (nt (qs (qr (oB 1 [(3, .p 2 0)] [2, 1] [(249, (eNode x0)), (233, (eNode (Node.mk 0 0 0 0 (Frac.mk 0 0)))), (233, (eNode (Node.mk 0 0 0 0 (Frac.mk 0 0))))] ?_))))
 refine oe (nt (qs (qr (oB 4 [] [3, 2, 1] [(249, (eNode x0)), (233, (eNode (Node.mk 0 0 0 0 (Frac.mk 0 0)))), (233, (eNode (Node.mk x0.Kind 0 0 0 (Frac.mk 0 0))))] ?_))))
 refine oe (nt (qs (qr (oB 4 [] [3, 2, 1] [(249, (eNode x0)), (233, (eNode (Node.mk 0 0 0 0 (Frac.mk 0 0)))), (233, (eNode (Node.mk x0.Kind x0.A 0 0 (Frac.mk 0 0))))] ?_))))
 refine oe (nt (qs (qr (oB 4 [] [3, 2, 1] [(249, (eNode x0)), (233, (eNode (Node.mk 0 0 0 0 (Frac.mk 0 0)))), (233, (eNode (Node.mk x0.Kind x0.A x0.B 0 (Frac.mk 0 0))))] ?_))))
 refine oe (nt (qs (qr (oB 4 [] [3, 2, 1] [(249, (eNode x0)), (233, (eNode (Node.mk 0 0 0 0 (Frac.mk 0 0)))), (233, (eNode (Node.mk x0.Kind x0.A x0.B x0.C (Frac.mk 0 0))))] ?_))))
 refine oe (nt (qs (qr (oN 2 [(17, .v (vFrac x0.Value))] [3, 2] ?_))))
 obtain ⟨t21, h22, h23⟩ := bS h
 refine k0 (fun γ w hs => c_laws_toFrac h22) ?_
 refine oB 2 [] [3, 2] [(249, (eNode x0)), (233, (eNode (Node.mk 0 0 0 0 (Frac.mk 0 0)))), (233, (eNode (Node.mk x0.Kind x0.A x0.B x0.C t21)))] ?_
 refine oe (nt (qs (qr (oB 2 [] [2] [(249, (eNode x0)), (233, (eNode (Node.mk x0.Kind x0.A x0.B x0.C t21))), (233, (eNode (Node.mk x0.Kind x0.A x0.B x0.C t21)))] ?_))))
 refine oe (nt (qe ?_))
 obtain rfl := sI h23
 exact re [vNode (Node.mk x0.Kind x0.A x0.B x0.C t21)]

theorem c_laws_toNodeS {W : World} {x0 : List Node} {a0_0 : Option Addr} {c0_0 : Nat} {r : (List Node)} (h : laws_toNodeS x0 = some r) (hv0_0 : SlView W x0 a0_0 c0_0) :
    Gives Tryz.prog 205 #[.slice a0_0 x0.length c0_0] W (fun y : AC => .slice y.1 r.length y.2) (fun y => [SlRes 233 r y.1 y.2]) := by
 unfold laws_toNodeS at h
 refine en Tryz.func205 Tryz.ntmps205 ?_
 refine qs (qr (oN 1 [] [0] ?_))
 refine oe (nt (qs (qr (oN 2 [(6, vi (x0.length : Int))] [0] ?_))))
 obtain ⟨l22, hm23, h24⟩ := bS h
 refine JO_make (α := Node) rfl (by kernel_rfl) (t := 186) (e := 233) (m := (x0.length : Int)) (by kernel_rfl) (i := Tryz.t233) (by kernel_rfl) (z := (vNode (Node.mk 0 0 0 0 (Frac.mk 0 0)))) (by kernel_rfl) (by kernel_rfl) (by kernel_rfl) (by kernel_rfl) (fun w => ⟨rfl, rfl⟩) hm23 _ (fun _ => rfl) (fun y21 => ?_)
 refine oN 1 [(3, .v (.slice y21.1 l22.length y21.2))] [0] ?_
 refine oe (nt (qs (qs (qr (oN 1 [(4, vi 0)] [3, 0] ?_)))))
 refine oe (nt ?_)
 obtain ⟨r28, hL29, h30⟩ := bS h24
 obtain ⟨k31, hk32, h30⟩ := brkS h30
 refine JC_cutP (τ := ((List Node)) × (Unit)) (fun y => k31 y.1 = some r) (fun y36 => [(3, .v (.slice y21.1 y36.1.length y21.2))]) (fun y36 => []) (fun y36 => [SlRes 233 y36.1 y21.1 y21.2]) ?_ (fun y36 h37p => ?_)
 · refine qb (lp Unit hL29 (fun s25 y26 => [(4, vi s25.1), (3, .v (.slice y21.1 s25.2.length y21.2)), (0, .v (.slice a0_0 x0.length c0_0))]) (fun s25 y26 => []) (fun s25 y26 => [SlRes 233 s25.2 y21.1 y21.2]) () [4, 3, 0] [0] 0 (fun s25 y26 t27 h33 hd34 => ?_))
   refine qs (qs (qr (oN 4 [(11, vb (decide (s25.1 < (x0.length : Int))))] [4, 3, 0] ?_)))
   refine oe (nt (cC h33 (fun h39 => ?_) (fun h40 => ?_)))
   · refine qk (nt (qs (qb (qr (oN 4 [(17, vi s25.1), (16, .v (.slice a0_0 x0.length c0_0)), (15, vi s25.1), (14, .v (.slice y21.1 s25.2.length y21.2))] [4, 3, 0] ?_)))))
     obtain ⟨x41, hx42, h43⟩ := bS h39
     refine oi 6 (fun γ w hs => (hv0_0.kept hs.kept)) hx42 ?_
     refine ol 249 0 (vNode x41) (fun γ w hs => (hv0_0.kept hs.kept).flatq hx42) ?_
     obtain ⟨t44, h45, h46⟩ := bS h43
     refine k0 (fun γ w hs => c_laws_toNode h45) ?_
     obtain ⟨x48, hx49, h50⟩ := bS h46
     refine oi 6 (fun γ w hs => (hs.view 0 rfl)) hx49 ?_
     obtain ⟨l51, hm52, h53⟩ := bS h50
     replace hm52 := (sI hm52).symm
     refine JO_storeq (α := Node) (d := y21.1) (vs := [.int .i64 t44.Kind, .int .i64 t44.A, .int .i64 t44.B, .int .i64 t44.C, .int .i64 t44.Value.Num, .int .i64 t44.Value.Den]) (j := s25.1) (x' := t44) rfl (by kernel_rfl) 0 (by kernel_rfl) hx49 (Rc := []) (Rr := []) rfl (by kernel_rfl) (fun w c F Fs ho _ _ => own_flat_set (by kernel_rfl) ho) hm52 rfl ?_
     have hl54 := len_set hm52
     refine JO_keep [20, 19, 18, 17, 16, 15, 14, 4, 3, 0] (sl' := [(20, .v (vNode t44)), (19, .v (vNode x41)), (18, .q a0_0 (Int.toNat s25.1 * 6)), (17, vi s25.1), (16, .v (.slice a0_0 x0.length c0_0)), (15, vi s25.1), (14, .v (.slice y21.1 s25.2.length y21.2)), (4, vi s25.1), (3, .v (.slice y21.1 s25.2.length y21.2)), (0, .v (.slice a0_0 x0.length c0_0))]) (by kernel_rfl) ?_
     refine JO_eqE (sl' := [(20, .v (vNode t44)), (19, .v (vNode x41)), (18, .q a0_0 (Int.toNat s25.1 * 6)), (17, vi s25.1), (16, .v (.slice a0_0 x0.length c0_0)), (15, vi s25.1), (14, .v (.slice y21.1 l51.length y21.2)), (4, vi s25.1), (3, .v (.slice y21.1 l51.length y21.2)), (0, .v (.slice a0_0 x0.length c0_0))]) (bx' := []) (by simp only [eNode, vNode, hl54]) rfl ?_
     refine oe (bn (nt (qr (oN 3 [(4, vi (w64 (s25.1 + 1)))] [3, 0] ?_))))
     exact oe (ct h53 () [4, 3, 0] [0] 0)
   refine qx (nx (nx (bh ?_)))
   have h55 := leafB hd34 h40 h30
   exact mp (s25.2, ()) h55 [3] [0] 0
 have h37 := (congrFun hk32 _).symm.trans h37p
 refine nt (qs (qr (oN 2 [(2, .v (.slice y21.1 y36.1.length y21.2))] [] ?_)))
 refine oe (nt (qe (rt [.slice y21.1 y36.1.length y21.2] (fun γ w hs => ?_))))
 rw [← sI h37]
 exact ⟨y21, rfl, hs.kept.toBelow, (hs.takeR (is := [0]) rfl).fresh⟩

theorem c_laws_toRule {W : World} {x0 : Rule} {a0_0 : Option Addr} {c0_0 : Nat} {r : Rule} (h : laws_toRule x0 = some r) (hv0_0 : SlView W x0.Nodes a0_0 c0_0) :
    Gives Tryz.prog 152 #[vRule x0 (a0_0, c0_0)] W (fun y : AC => vRule r y) (fun y => [SlRes 233 r.Nodes y.1 y.2]) := by
 unfold laws_toRule at h
 refine en Tryz.func152 Tryz.ntmps152 ?_
 refine qs (qr (oB 2 [(2, .p 1 0), (1, .p 0 0)] [] [(185, (eRule x0 (a0_0, c0_0))), (188, (eRule (Rule.mk 0 0 0 0 0 0 ([] : List Node)) (none, 0)))] ?_))
 refine oe (nt (qs (qr (oB 1 [(3, .p 2 0)] [2, 1] [(185, (eRule x0 (a0_0, c0_0))), (188, (eRule (Rule.mk 0 0 0 0 0 0 ([] : List Node)) (none, 0))), (188, (eRule (Rule.mk 0 0 0 0 0 0 ([] : List Node)) (none, 0)))] ?_))))
 refine oe (nt (qs (qr (oB 4 [] [3, 2, 1] [(185, (eRule x0 (a0_0, c0_0))), (188, (eRule (Rule.mk 0 0 0 0 0 0 ([] : List Node)) (none, 0))), (188, (eRule (Rule.mk x0.Name 0 0 0 0 0 ([] : List Node)) (none, 0)))] ?_))))
 refine oe (nt (qs (qr (oB 4 [] [3, 2, 1] [(185, (eRule x0 (a0_0, c0_0))), (188, (eRule (Rule.mk 0 0 0 0 0 0 ([] : List Node)) (none, 0))), (188, (eRule (Rule.mk x0.Name x0.From 0 0 0 0 ([] : List Node)) (none, 0)))] ?_))))
 refine oe (nt (qs (qr (oB 4 [] [3, 2, 1] [(185, (eRule x0 (a0_0, c0_0))), (188, (eRule (Rule.mk 0 0 0 0 0 0 ([] : List Node)) (none, 0))), (188, (eRule (Rule.mk x0.Name x0.From x0.To 0 0 0 ([] : List Node)) (none, 0)))] ?_))))
 refine oe (nt (qs (qr (oB 4 [] [3, 2, 1] [(185, (eRule x0 (a0_0, c0_0))), (188, (eRule (Rule.mk 0 0 0 0 0 0 ([] : List Node)) (none, 0))), (188, (eRule (Rule.mk x0.Name x0.From x0.To x0.Joined 0 0 ([] : List Node)) (none, 0)))] ?_))))
 refine oe (nt (qs (qr (oB 4 [] [3, 2, 1] [(185, (eRule x0 (a0_0, c0_0))), (188, (eRule (Rule.mk 0 0 0 0 0 0 ([] : List Node)) (none, 0))), (188, (eRule (Rule.mk x0.Name x0.From x0.To x0.Joined x0.Rank 0 ([] : List Node)) (none, 0)))] ?_))))
 refine oe (nt (qs (qr (oB 4 [] [3, 2, 1] [(185, (eRule x0 (a0_0, c0_0))), (188, (eRule (Rule.mk 0 0 0 0 0 0 ([] : List Node)) (none, 0))), (188, (eRule (Rule.mk x0.Name x0.From x0.To x0.Joined x0.Rank x0.Mode ([] : List Node)) (none, 0)))] ?_))))
 refine oe (nt (qs (qr (oN 2 [(23, .v (.slice a0_0 x0.Nodes.length c0_0))] [3, 2] ?_))))
 obtain ⟨t21, h22, h23⟩ := bS h
 refine k1 (fun γ w hs => c_laws_toNodeS h22 (hv0_0.kept hs.kept)) (fun y24 => ?_)
 refine oB 2 [] [3, 2] [(185, (eRule x0 (a0_0, c0_0))), (188, (eRule (Rule.mk 0 0 0 0 0 0 ([] : List Node)) (none, 0))), (188, (eRule (Rule.mk x0.Name x0.From x0.To x0.Joined x0.Rank x0.Mode t21) y24))] ?_
 refine oe (nt (qs (qr (oB 2 [] [2] [(185, (eRule x0 (a0_0, c0_0))), (188, (eRule (Rule.mk x0.Name x0.From x0.To x0.Joined x0.Rank x0.Mode t21) y24)), (188, (eRule (Rule.mk x0.Name x0.From x0.To x0.Joined x0.Rank x0.Mode t21) y24))] ?_))))
 refine oe (nt (qe (rt [vRule (Rule.mk x0.Name x0.From x0.To x0.Joined x0.Rank x0.Mode t21) y24] (fun γ w hs => ?_))))
 rw [← sI h23]
 exact ⟨y24, rfl, hs.kept.toBelow, (hs.takeR (is := [0]) rfl).fresh⟩

theorem c_laws_toRuleS {W : World} {x0 : List Rule} {a0_0 : Option Addr} {c0_0 : Nat} {r : (List Rule)} (h : laws_toRuleS x0 = some r) (hv0_0 : SlView W x0 a0_0 c0_0) :
    Gives Tryz.prog 102 #[.slice a0_0 x0.length c0_0] W (fun y : AC => .slice y.1 r.length y.2) (fun y => [SlRes 188 r y.1 y.2]) := by
 unfold laws_toRuleS at h
 refine en Tryz.func102 Tryz.ntmps102 ?_
 refine qs (qr (oN 1 [] [0] ?_))
 refine oe (nt (qs (qr (oN 2 [(6, vi (x0.length : Int))] [0] ?_))))
 obtain ⟨l22, hm23, h24⟩ := bS h
 refine JO_make (α := Rule) rfl (by kernel_rfl) (t := 40) (e := 188) (m := (x0.length : Int)) (by kernel_rfl) (i := Tryz.t188) (by kernel_rfl) (z := (vRule (Rule.mk 0 0 0 0 0 0 ([] : List Node)) (none, 0))) (by kernel_rfl) (by kernel_rfl) (by kernel_rfl) (by kernel_rfl) (fun w => ⟨0, none, 0, [], rfl, rfl, .inl ⟨rfl, rfl, rfl⟩⟩) hm23 _ (fun _ => rfl) (fun y21 => ?_)
 refine oN 1 [(3, .v (.slice y21.1 l22.length y21.2))] [0] ?_
 refine oe (nt (qs (qs (qr (oN 1 [(4, vi 0)] [3, 0] ?_)))))
 refine oe (nt ?_)
 obtain ⟨r28, hL29, h30⟩ := bS h24
 obtain ⟨k31, hk32, h30⟩ := brkS h30
 refine JC_cutP (τ := ((List Rule)) × (Unit)) (fun y => k31 y.1 = some r) (fun y36 => [(3, .v (.slice y21.1 y36.1.length y21.2))]) (fun y36 => []) (fun y36 => [SlRes 188 y36.1 y21.1 y21.2]) ?_ (fun y36 h37p => ?_)
 · refine qb (lp Unit hL29 (fun s25 y26 => [(4, vi s25.1), (3, .v (.slice y21.1 s25.2.length y21.2)), (0, .v (.slice a0_0 x0.length c0_0))]) (fun s25 y26 => []) (fun s25 y26 => [SlRes 188 s25.2 y21.1 y21.2]) () [4, 3, 0] [0] 0 (fun s25 y26 t27 h33 hd34 => ?_))
   refine qs (qs (qr (oN 4 [(11, vb (decide (s25.1 < (x0.length : Int))))] [4, 3, 0] ?_)))
   refine oe (nt (cC h33 (fun h39 => ?_) (fun h40 => ?_)))
   · refine qk (nt (qs (qb (qr (oN 4 [(17, vi s25.1), (16, .v (.slice a0_0 x0.length c0_0)), (15, vi s25.1), (14, .v (.slice y21.1 s25.2.length y21.2))] [4, 3, 0] ?_)))))
     obtain ⟨x41, hx42, h43⟩ := bS h39
     refine oi 7 (fun γ w hs => (hv0_0.kept hs.kept)) hx42 ?_
     obtain ⟨_, ⟨a44, c45, rfl, hv46⟩, hc47⟩ := SlView.at hv0_0 (idx_some hx42).2.2
     refine ol 185 0 (vRule x41 (a44, c45)) (fun γ w hs => ⟨(hv0_0.kept hs.kept).ne (idx_some hx42).2.2, hc47.kept hs.kept⟩) ?_
     obtain ⟨t48, h49, h50⟩ := bS h43
     refine k1 (fun γ w hs => c_laws_toRule h49 (hv46.kept hs.kept)) (fun y51 => ?_)
     obtain ⟨x52, hx53, h54⟩ := bS h50
     refine oi 7 (fun γ w hs => (hs.view 1 rfl)) hx53 ?_
     obtain ⟨l55, hm56, h57⟩ := bS h54
     replace hm56 := (sI hm56).symm
     refine JO_storeq (α := Rule) (d := y21.1) (vs := [.int .i64 t48.Name, .int .i64 t48.From, .int .i64 t48.To, .int .i64 t48.Joined, .int .i64 t48.Rank, .int .i64 t48.Mode, .slice y51.1 t48.Nodes.length y51.2]) (j := s25.1) (x' := t48) rfl (by kernel_rfl) 0 (by kernel_rfl) hx53 (Rc := [SlRes 233 t48.Nodes y51.1 y51.2]) (Rr := []) rfl (by kernel_rfl) (own_full rfl (by rintro w Fs ⟨G0, _, rfl, h0, rfl⟩; exact ⟨233, y51.1, y51.2, G0, by simp, rfl, h0⟩)) hm56 rfl ?_
     have hl58 := len_set hm56
     refine JO_keep [20, 19, 18, 17, 16, 15, 14, 4, 3, 0] (sl' := [(20, .v (vRule t48 y51)), (19, .v (vRule x41 (a44, c45))), (18, .q a0_0 (Int.toNat s25.1 * 7)), (17, vi s25.1), (16, .v (.slice a0_0 x0.length c0_0)), (15, vi s25.1), (14, .v (.slice y21.1 s25.2.length y21.2)), (4, vi s25.1), (3, .v (.slice y21.1 s25.2.length y21.2)), (0, .v (.slice a0_0 x0.length c0_0))]) (by kernel_rfl) ?_
     refine JO_eqE (sl' := [(20, .v (vRule t48 y51)), (19, .v (vRule x41 (a44, c45))), (18, .q a0_0 (Int.toNat s25.1 * 7)), (17, vi s25.1), (16, .v (.slice a0_0 x0.length c0_0)), (15, vi s25.1), (14, .v (.slice y21.1 l55.length y21.2)), (4, vi s25.1), (3, .v (.slice y21.1 l55.length y21.2)), (0, .v (.slice a0_0 x0.length c0_0))]) (bx' := []) (by simp only [eRule, vRule, hl58]) rfl ?_
     refine oe (bn (nt (qr (oN 3 [(4, vi (w64 (s25.1 + 1)))] [3, 0] ?_))))
     exact oe (ct h57 () [4, 3, 0] [0] 0)
   refine qx (nx (nx (bh ?_)))
   have h59 := leafB hd34 h40 h30
   exact mp (s25.2, ()) h59 [3] [0] 0
 have h37 := (congrFun hk32 _).symm.trans h37p
 refine nt (qs (qr (oN 2 [(2, .v (.slice y21.1 y36.1.length y21.2))] [] ?_)))
 refine oe (nt (qe (rt [.slice y21.1 y36.1.length y21.2] (fun γ w hs => ?_))))
 rw [← sI h37]
 exact ⟨y21, rfl, hs.kept.toBelow, (hs.takeR (is := [0]) rfl).fresh⟩

theorem c_laws_toBook {W : World} {x0 : Book} {a0_0 : Option Addr} {c0_0 : Nat} {r : Book} (h : laws_toBook x0 = some r) (hv0_0 : SlView W x0.Rules a0_0 c0_0) :
    Gives Tryz.prog 59 #[vBook x0 (a0_0, c0_0)] W (fun y : AC => vBook r y) (fun y => [SlRes 188 r.Rules y.1 y.2]) := by
 unfold laws_toBook at h
 refine en Tryz.func59 Tryz.ntmps59 ?_
 refine qs (qr (oB 2 [(2, .p 1 0), (1, .p 0 0)] [] [(24, (eBook x0 (a0_0, c0_0))), (42, [.slice none 0 0])] ?_))
 refine oe (nt (qs (qr (oB 1 [(3, .p 2 0)] [2, 1] [(24, (eBook x0 (a0_0, c0_0))), (42, [.slice none 0 0]), (42, [.slice none 0 0])] ?_))))
 refine oe (nt (qs (qr (oN 2 [(5, .v (.slice a0_0 x0.Rules.length c0_0))] [3, 2] ?_))))
 obtain ⟨t21, h22, h23⟩ := bS h
 refine k1 (fun γ w hs => c_laws_toRuleS h22 (hv0_0.kept hs.kept)) (fun y24 => ?_)
 refine oB 2 [] [3, 2] [(24, (eBook x0 (a0_0, c0_0))), (42, [.slice none 0 0]), (42, (eBook (Book.mk t21) y24))] ?_
 refine oe (nt (qs (qr (oB 2 [] [2] [(24, (eBook x0 (a0_0, c0_0))), (42, (eBook (Book.mk t21) y24)), (42, (eBook (Book.mk t21) y24))] ?_))))
 refine oe (nt (qe (rt [vBook (Book.mk t21) y24] (fun γ w hs => ?_))))
 rw [← sI h23]
 exact ⟨y24, rfl, hs.kept.toBelow, (hs.takeR (is := [0]) rfl).fresh⟩

theorem c_laws_toFact {W : World} {x0 : Fact} {r : Fact} (h : laws_toFact x0 = some r)  :
    Gives0 Tryz.prog 37 #[vFact x0] W (vFact r) := by
 unfold laws_toFact at h
 refine en Tryz.func37 Tryz.ntmps37 ?_
 refine qs (qr (oB 2 [(2, .p 1 0), (1, .p 0 0)] [] [(75, (eFact x0)), (84, (eFact (Fact.mk 0 0 0 0 0)))] ?_))
 refine oe (nt (qs (qr (oB 1 [(3, .p 2 0)] [2, 1] [(75, (eFact x0)), (84, (eFact (Fact.mk 0 0 0 0 0))), (84, (eFact (Fact.mk 0 0 0 0 0)))] ?_))))
 refine oe (nt (qs (qr (oB 4 [] [3, 2, 1] [(75, (eFact x0)), (84, (eFact (Fact.mk 0 0 0 0 0))), (84, (eFact (Fact.mk x0.Key 0 0 0 0)))] ?_))))
 refine oe (nt (qs (qr (oB 4 [] [3, 2, 1] [(75, (eFact x0)), (84, (eFact (Fact.mk 0 0 0 0 0))), (84, (eFact (Fact.mk x0.Key x0.From 0 0 0)))] ?_))))
 refine oe (nt (qs (qr (oB 4 [] [3, 2, 1] [(75, (eFact x0)), (84, (eFact (Fact.mk 0 0 0 0 0))), (84, (eFact (Fact.mk x0.Key x0.From x0.To 0 0)))] ?_))))
 refine oe (nt (qs (qr (oB 4 [] [3, 2, 1] [(75, (eFact x0)), (84, (eFact (Fact.mk 0 0 0 0 0))), (84, (eFact (Fact.mk x0.Key x0.From x0.To x0.Known 0)))] ?_))))
 refine oe (nt (qs (qr (oB 4 [] [3, 2] [(75, (eFact x0)), (84, (eFact (Fact.mk 0 0 0 0 0))), (84, (eFact x0))] ?_))))
 refine oe (nt (qs (qr (oB 2 [] [2] [(75, (eFact x0)), (84, (eFact x0)), (84, (eFact x0))] ?_))))
 refine oe (nt (qe ?_))
 obtain rfl := sI h
 exact re [vFact x0]

theorem c_laws_toFactS {W : World} {x0 : List Fact} {a0_0 : Option Addr} {c0_0 : Nat} {r : (List Fact)} (h : laws_toFactS x0 = some r) (hv0_0 : SlView W x0 a0_0 c0_0) :
    Gives Tryz.prog 103 #[.slice a0_0 x0.length c0_0] W (fun y : AC => .slice y.1 r.length y.2) (fun y => [SlRes 84 r y.1 y.2]) := by
 unfold laws_toFactS at h
 refine en Tryz.func103 Tryz.ntmps103 ?_
 refine qs (qr (oN 1 [] [0] ?_))
 refine oe (nt (qs (qr (oN 2 [(6, vi (x0.length : Int))] [0] ?_))))
 obtain ⟨l22, hm23, h24⟩ := bS h
 refine JO_make (α := Fact) rfl (by kernel_rfl) (t := 43) (e := 84) (m := (x0.length : Int)) (by kernel_rfl) (i := Tryz.t84) (by kernel_rfl) (z := (vFact (Fact.mk 0 0 0 0 0))) (by kernel_rfl) (by kernel_rfl) (by kernel_rfl) (by kernel_rfl) (fun w => ⟨rfl, rfl⟩) hm23 _ (fun _ => rfl) (fun y21 => ?_)
 refine oN 1 [(3, .v (.slice y21.1 l22.length y21.2))] [0] ?_
 refine oe (nt (qs (qs (qr (oN 1 [(4, vi 0)] [3, 0] ?_)))))
 refine oe (nt ?_)
 obtain ⟨r28, hL29, h30⟩ := bS h24
 obtain ⟨k31, hk32, h30⟩ := brkS h30
 refine JC_cutP (τ := ((List Fact)) × (Unit)) (fun y => k31 y.1 = some r) (fun y36 => [(3, .v (.slice y21.1 y36.1.length y21.2))]) (fun y36 => []) (fun y36 => [SlRes 84 y36.1 y21.1 y21.2]) ?_ (fun y36 h37p => ?_)
 · refine qb (lp Unit hL29 (fun s25 y26 => [(4, vi s25.1), (3, .v (.slice y21.1 s25.2.length y21.2)), (0, .v (.slice a0_0 x0.length c0_0))]) (fun s25 y26 => []) (fun s25 y26 => [SlRes 84 s25.2 y21.1 y21.2]) () [4, 3, 0] [0] 0 (fun s25 y26 t27 h33 hd34 => ?_))
   refine qs (qs (qr (oN 4 [(11, vb (decide (s25.1 < (x0.length : Int))))] [4, 3, 0] ?_)))
   refine oe (nt (cC h33 (fun h39 => ?_) (fun h40 => ?_)))
   · refine qk (nt (qs (qb (qr (oN 4 [(17, vi s25.1), (16, .v (.slice a0_0 x0.length c0_0)), (15, vi s25.1), (14, .v (.slice y21.1 s25.2.length y21.2))] [4, 3, 0] ?_)))))
     obtain ⟨x41, hx42, h43⟩ := bS h39
     refine oi 5 (fun γ w hs => (hv0_0.kept hs.kept)) hx42 ?_
     refine ol 75 0 (vFact x41) (fun γ w hs => (hv0_0.kept hs.kept).flatq hx42) ?_
     obtain ⟨t44, h45, h46⟩ := bS h43
     refine k0 (fun γ w hs => c_laws_toFact h45) ?_
     obtain ⟨x48, hx49, h50⟩ := bS h46
     refine oi 5 (fun γ w hs => (hs.view 0 rfl)) hx49 ?_
     obtain ⟨l51, hm52, h53⟩ := bS h50
     replace hm52 := (sI hm52).symm
     refine JO_storeq (α := Fact) (d := y21.1) (vs := [.int .i64 t44.Key, .int .i64 t44.From, .int .i64 t44.To, .int .i64 t44.Known, .int .i64 t44.Value]) (j := s25.1) (x' := t44) rfl (by kernel_rfl) 0 (by kernel_rfl) hx49 (Rc := []) (Rr := []) rfl (by kernel_rfl) (fun w c F Fs ho _ _ => own_flat_set (by kernel_rfl) ho) hm52 rfl ?_
     have hl54 := len_set hm52
     refine JO_keep [20, 19, 18, 17, 16, 15, 14, 4, 3, 0] (sl' := [(20, .v (vFact t44)), (19, .v (vFact x41)), (18, .q a0_0 (Int.toNat s25.1 * 5)), (17, vi s25.1), (16, .v (.slice a0_0 x0.length c0_0)), (15, vi s25.1), (14, .v (.slice y21.1 s25.2.length y21.2)), (4, vi s25.1), (3, .v (.slice y21.1 s25.2.length y21.2)), (0, .v (.slice a0_0 x0.length c0_0))]) (by kernel_rfl) ?_
     refine JO_eqE (sl' := [(20, .v (vFact t44)), (19, .v (vFact x41)), (18, .q a0_0 (Int.toNat s25.1 * 5)), (17, vi s25.1), (16, .v (.slice a0_0 x0.length c0_0)), (15, vi s25.1), (14, .v (.slice y21.1 l51.length y21.2)), (4, vi s25.1), (3, .v (.slice y21.1 l51.length y21.2)), (0, .v (.slice a0_0 x0.length c0_0))]) (bx' := []) (by simp only [eFact, vFact, hl54]) rfl ?_
     refine oe (bn (nt (qr (oN 3 [(4, vi (w64 (s25.1 + 1)))] [3, 0] ?_))))
     exact oe (ct h53 () [4, 3, 0] [0] 0)
   refine qx (nx (nx (bh ?_)))
   have h55 := leafB hd34 h40 h30
   exact mp (s25.2, ()) h55 [3] [0] 0
 have h37 := (congrFun hk32 _).symm.trans h37p
 refine nt (qs (qr (oN 2 [(2, .v (.slice y21.1 y36.1.length y21.2))] [] ?_)))
 refine oe (nt (qe (rt [.slice y21.1 y36.1.length y21.2] (fun γ w hs => ?_))))
 rw [← sI h37]
 exact ⟨y21, rfl, hs.kept.toBelow, (hs.takeR (is := [0]) rfl).fresh⟩

theorem c_laws_toStore {W : World} {x0 : Store} {a0_0 : Option Addr} {c0_0 : Nat} {r : Store} (h : laws_toStore x0 = some r) (hv0_0 : SlView W x0.Facts a0_0 c0_0) :
    Gives Tryz.prog 60 #[vStore x0 (a0_0, c0_0)] W (fun y : AC => vStore r y) (fun y => [SlRes 84 r.Facts y.1 y.2]) := by
 unfold laws_toStore at h
 refine en Tryz.func60 Tryz.ntmps60 ?_
 refine qs (qr (oB 2 [(2, .p 1 0), (1, .p 0 0)] [] [(27, (eStore x0 (a0_0, c0_0))), (45, [.slice none 0 0])] ?_))
 refine oe (nt (qs (qr (oB 1 [(3, .p 2 0)] [2, 1] [(27, (eStore x0 (a0_0, c0_0))), (45, [.slice none 0 0]), (45, [.slice none 0 0])] ?_))))
 refine oe (nt (qs (qr (oN 2 [(5, .v (.slice a0_0 x0.Facts.length c0_0))] [3, 2] ?_))))
 obtain ⟨t21, h22, h23⟩ := bS h
 refine k1 (fun γ w hs => c_laws_toFactS h22 (hv0_0.kept hs.kept)) (fun y24 => ?_)
 refine oB 2 [] [3, 2] [(27, (eStore x0 (a0_0, c0_0))), (45, [.slice none 0 0]), (45, (eStore (Store.mk t21) y24))] ?_
 refine oe (nt (qs (qr (oB 2 [] [2] [(27, (eStore x0 (a0_0, c0_0))), (45, (eStore (Store.mk t21) y24)), (45, (eStore (Store.mk t21) y24))] ?_))))
 refine oe (nt (qe (rt [vStore (Store.mk t21) y24] (fun γ w hs => ?_))))
 rw [← sI h23]
 exact ⟨y24, rfl, hs.kept.toBelow, (hs.takeR (is := [0]) rfl).fresh⟩

theorem c_laws_toPoint {W : World} {x0 : Point} {r : Point} (h : laws_toPoint x0 = some r)  :
    Gives0 Tryz.prog 40 #[vPoint x0] W (vPoint r) := by
 unfold laws_toPoint at h
 refine en Tryz.func40 Tryz.ntmps40 ?_
 refine qs (qr (oB 2 [(2, .p 1 0), (1, .p 0 0)] [] [(77, (ePoint x0)), (85, (ePoint (Point.mk 0 0 0)))] ?_))
 refine oe (nt (qs (qr (oB 1 [(3, .p 2 0)] [2, 1] [(77, (ePoint x0)), (85, (ePoint (Point.mk 0 0 0))), (85, (ePoint (Point.mk 0 0 0)))] ?_))))
 refine oe (nt (qs (qr (oB 4 [] [3, 2, 1] [(77, (ePoint x0)), (85, (ePoint (Point.mk 0 0 0))), (85, (ePoint (Point.mk x0.Month 0 0)))] ?_))))
 refine oe (nt (qs (qr (oB 4 [] [3, 2, 1] [(77, (ePoint x0)), (85, (ePoint (Point.mk 0 0 0))), (85, (ePoint (Point.mk x0.Month x0.Known 0)))] ?_))))
 refine oe (nt (qs (qr (oB 4 [] [3, 2] [(77, (ePoint x0)), (85, (ePoint (Point.mk 0 0 0))), (85, (ePoint x0))] ?_))))
 refine oe (nt (qs (qr (oB 2 [] [2] [(77, (ePoint x0)), (85, (ePoint x0)), (85, (ePoint x0))] ?_))))
 refine oe (nt (qe ?_))
 obtain rfl := sI h
 exact re [vPoint x0]

theorem c_laws_toPointS {W : World} {x0 : List Point} {a0_0 : Option Addr} {c0_0 : Nat} {r : (List Point)} (h : laws_toPointS x0 = some r) (hv0_0 : SlView W x0 a0_0 c0_0) :
    Gives Tryz.prog 104 #[.slice a0_0 x0.length c0_0] W (fun y : AC => .slice y.1 r.length y.2) (fun y => [SlRes 85 r y.1 y.2]) := by
 unfold laws_toPointS at h
 refine en Tryz.func104 Tryz.ntmps104 ?_
 refine qs (qr (oN 1 [] [0] ?_))
 refine oe (nt (qs (qr (oN 2 [(6, vi (x0.length : Int))] [0] ?_))))
 obtain ⟨l22, hm23, h24⟩ := bS h
 refine JO_make (α := Point) rfl (by kernel_rfl) (t := 46) (e := 85) (m := (x0.length : Int)) (by kernel_rfl) (i := Tryz.t85) (by kernel_rfl) (z := (vPoint (Point.mk 0 0 0))) (by kernel_rfl) (by kernel_rfl) (by kernel_rfl) (by kernel_rfl) (fun w => ⟨rfl, rfl⟩) hm23 _ (fun _ => rfl) (fun y21 => ?_)
 refine oN 1 [(3, .v (.slice y21.1 l22.length y21.2))] [0] ?_
 refine oe (nt (qs (qs (qr (oN 1 [(4, vi 0)] [3, 0] ?_)))))
 refine oe (nt ?_)
 obtain ⟨r28, hL29, h30⟩ := bS h24
 obtain ⟨k31, hk32, h30⟩ := brkS h30
 refine JC_cutP (τ := ((List Point)) × (Unit)) (fun y => k31 y.1 = some r) (fun y36 => [(3, .v (.slice y21.1 y36.1.length y21.2))]) (fun y36 => []) (fun y36 => [SlRes 85 y36.1 y21.1 y21.2]) ?_ (fun y36 h37p => ?_)
 · refine qb (lp Unit hL29 (fun s25 y26 => [(4, vi s25.1), (3, .v (.slice y21.1 s25.2.length y21.2)), (0, .v (.slice a0_0 x0.length c0_0))]) (fun s25 y26 => []) (fun s25 y26 => [SlRes 85 s25.2 y21.1 y21.2]) () [4, 3, 0] [0] 0 (fun s25 y26 t27 h33 hd34 => ?_))
   refine qs (qs (qr (oN 4 [(11, vb (decide (s25.1 < (x0.length : Int))))] [4, 3, 0] ?_)))
   refine oe (nt (cC h33 (fun h39 => ?_) (fun h40 => ?_)))
   · refine qk (nt (qs (qb (qr (oN 4 [(17, vi s25.1), (16, .v (.slice a0_0 x0.length c0_0)), (15, vi s25.1), (14, .v (.slice y21.1 s25.2.length y21.2))] [4, 3, 0] ?_)))))
     obtain ⟨x41, hx42, h43⟩ := bS h39
     refine oi 3 (fun γ w hs => (hv0_0.kept hs.kept)) hx42 ?_
     refine ol 77 0 (vPoint x41) (fun γ w hs => (hv0_0.kept hs.kept).flatq hx42) ?_
     obtain ⟨t44, h45, h46⟩ := bS h43
     refine k0 (fun γ w hs => c_laws_toPoint h45) ?_
     obtain ⟨x48, hx49, h50⟩ := bS h46
     refine oi 3 (fun γ w hs => (hs.view 0 rfl)) hx49 ?_
     obtain ⟨l51, hm52, h53⟩ := bS h50
     replace hm52 := (sI hm52).symm
     refine JO_storeq (α := Point) (d := y21.1) (vs := [.int .i64 t44.Month, .int .i64 t44.Known, .int .i64 t44.Value]) (j := s25.1) (x' := t44) rfl (by kernel_rfl) 0 (by kernel_rfl) hx49 (Rc := []) (Rr := []) rfl (by kernel_rfl) (fun w c F Fs ho _ _ => own_flat_set (by kernel_rfl) ho) hm52 rfl ?_
     have hl54 := len_set hm52
     refine JO_keep [20, 19, 18, 17, 16, 15, 14, 4, 3, 0] (sl' := [(20, .v (vPoint t44)), (19, .v (vPoint x41)), (18, .q a0_0 (Int.toNat s25.1 * 3)), (17, vi s25.1), (16, .v (.slice a0_0 x0.length c0_0)), (15, vi s25.1), (14, .v (.slice y21.1 s25.2.length y21.2)), (4, vi s25.1), (3, .v (.slice y21.1 s25.2.length y21.2)), (0, .v (.slice a0_0 x0.length c0_0))]) (by kernel_rfl) ?_
     refine JO_eqE (sl' := [(20, .v (vPoint t44)), (19, .v (vPoint x41)), (18, .q a0_0 (Int.toNat s25.1 * 3)), (17, vi s25.1), (16, .v (.slice a0_0 x0.length c0_0)), (15, vi s25.1), (14, .v (.slice y21.1 l51.length y21.2)), (4, vi s25.1), (3, .v (.slice y21.1 l51.length y21.2)), (0, .v (.slice a0_0 x0.length c0_0))]) (bx' := []) (by simp only [ePoint, vPoint, hl54]) rfl ?_
     refine oe (bn (nt (qr (oN 3 [(4, vi (w64 (s25.1 + 1)))] [3, 0] ?_))))
     exact oe (ct h53 () [4, 3, 0] [0] 0)
   refine qx (nx (nx (bh ?_)))
   have h55 := leafB hd34 h40 h30
   exact mp (s25.2, ()) h55 [3] [0] 0
 have h37 := (congrFun hk32 _).symm.trans h37p
 refine nt (qs (qr (oN 2 [(2, .v (.slice y21.1 y36.1.length y21.2))] [] ?_)))
 refine oe (nt (qe (rt [.slice y21.1 y36.1.length y21.2] (fun γ w hs => ?_))))
 rw [← sI h37]
 exact ⟨y21, rfl, hs.kept.toBelow, (hs.takeR (is := [0]) rfl).fresh⟩

theorem c_laws_toSeries {W : World} {x0 : Series} {a0_0 : Option Addr} {c0_0 : Nat} {r : Series} (h : laws_toSeries x0 = some r) (hv0_0 : SlView W x0.Points a0_0 c0_0) :
    Gives Tryz.prog 61 #[vSeries x0 (a0_0, c0_0)] W (fun y : AC => vSeries r y) (fun y => [SlRes 85 r.Points y.1 y.2]) := by
 unfold laws_toSeries at h
 refine en Tryz.func61 Tryz.ntmps61 ?_
 refine qs (qr (oB 2 [(2, .p 1 0), (1, .p 0 0)] [] [(30, (eSeries x0 (a0_0, c0_0))), (48, [.slice none 0 0])] ?_))
 refine oe (nt (qs (qr (oB 1 [(3, .p 2 0)] [2, 1] [(30, (eSeries x0 (a0_0, c0_0))), (48, [.slice none 0 0]), (48, [.slice none 0 0])] ?_))))
 refine oe (nt (qs (qr (oN 2 [(5, .v (.slice a0_0 x0.Points.length c0_0))] [3, 2] ?_))))
 obtain ⟨t21, h22, h23⟩ := bS h
 refine k1 (fun γ w hs => c_laws_toPointS h22 (hv0_0.kept hs.kept)) (fun y24 => ?_)
 refine oB 2 [] [3, 2] [(30, (eSeries x0 (a0_0, c0_0))), (48, [.slice none 0 0]), (48, (eSeries (Series.mk t21) y24))] ?_
 refine oe (nt (qs (qr (oB 2 [] [2] [(30, (eSeries x0 (a0_0, c0_0))), (48, (eSeries (Series.mk t21) y24)), (48, (eSeries (Series.mk t21) y24))] ?_))))
 refine oe (nt (qe (rt [vSeries (Series.mk t21) y24] (fun γ w hs => ?_))))
 rw [← sI h23]
 exact ⟨y24, rfl, hs.kept.toBelow, (hs.takeR (is := [0]) rfl).fresh⟩

theorem c_laws_toSpell {W : World} {x0 : Spell} {r : Spell} (h : laws_toSpell x0 = some r)  :
    Gives0 Tryz.prog 153 #[vSpell x0] W (vSpell r) := by
 unfold laws_toSpell at h
 refine en Tryz.func153 Tryz.ntmps153 ?_
 refine qs (qr (oB 2 [(2, .p 1 0), (1, .p 0 0)] [] [(193, (eSpell x0)), (191, (eSpell (Spell.mk 0 0 0 false)))] ?_))
 refine oe (nt (qs (qr (oB 1 [(3, .p 2 0)] [2, 1] [(193, (eSpell x0)), (191, (eSpell (Spell.mk 0 0 0 false))), (191, (eSpell (Spell.mk 0 0 0 false)))] ?_))))
 refine oe (nt (qs (qr (oB 4 [] [3, 2, 1] [(193, (eSpell x0)), (191, (eSpell (Spell.mk 0 0 0 false))), (191, (eSpell (Spell.mk x0.From 0 0 false)))] ?_))))
 refine oe (nt (qs (qr (oB 4 [] [3, 2, 1] [(193, (eSpell x0)), (191, (eSpell (Spell.mk 0 0 0 false))), (191, (eSpell (Spell.mk x0.From x0.To 0 false)))] ?_))))
 refine oe (nt (qs (qr (oB 4 [] [3, 2, 1] [(193, (eSpell x0)), (191, (eSpell (Spell.mk 0 0 0 false))), (191, (eSpell (Spell.mk x0.From x0.To x0.Percent false)))] ?_))))
 refine oe (nt (qs (qr (oB 4 [] [3, 2] [(193, (eSpell x0)), (191, (eSpell (Spell.mk 0 0 0 false))), (191, (eSpell x0))] ?_))))
 refine oe (nt (qs (qr (oB 2 [] [2] [(193, (eSpell x0)), (191, (eSpell x0)), (191, (eSpell x0))] ?_))))
 refine oe (nt (qe ?_))
 obtain rfl := sI h
 exact re [vSpell x0]

theorem c_laws_toSpellS {W : World} {x0 : List Spell} {a0_0 : Option Addr} {c0_0 : Nat} {r : (List Spell)} (h : laws_toSpellS x0 = some r) (hv0_0 : SlView W x0 a0_0 c0_0) :
    Gives Tryz.prog 105 #[.slice a0_0 x0.length c0_0] W (fun y : AC => .slice y.1 r.length y.2) (fun y => [SlRes 191 r y.1 y.2]) := by
 unfold laws_toSpellS at h
 refine en Tryz.func105 Tryz.ntmps105 ?_
 refine qs (qr (oN 1 [] [0] ?_))
 refine oe (nt (qs (qr (oN 2 [(6, vi (x0.length : Int))] [0] ?_))))
 obtain ⟨l22, hm23, h24⟩ := bS h
 refine JO_make (α := Spell) rfl (by kernel_rfl) (t := 49) (e := 191) (m := (x0.length : Int)) (by kernel_rfl) (i := Tryz.t191) (by kernel_rfl) (z := (vSpell (Spell.mk 0 0 0 false))) (by kernel_rfl) (by kernel_rfl) (by kernel_rfl) (by kernel_rfl) (fun w => ⟨rfl, rfl⟩) hm23 _ (fun _ => rfl) (fun y21 => ?_)
 refine oN 1 [(3, .v (.slice y21.1 l22.length y21.2))] [0] ?_
 refine oe (nt (qs (qs (qr (oN 1 [(4, vi 0)] [3, 0] ?_)))))
 refine oe (nt ?_)
 obtain ⟨r28, hL29, h30⟩ := bS h24
 obtain ⟨k31, hk32, h30⟩ := brkS h30
 refine JC_cutP (τ := ((List Spell)) × (Unit)) (fun y => k31 y.1 = some r) (fun y36 => [(3, .v (.slice y21.1 y36.1.length y21.2))]) (fun y36 => []) (fun y36 => [SlRes 191 y36.1 y21.1 y21.2]) ?_ (fun y36 h37p => ?_)
 · refine qb (lp Unit hL29 (fun s25 y26 => [(4, vi s25.1), (3, .v (.slice y21.1 s25.2.length y21.2)), (0, .v (.slice a0_0 x0.length c0_0))]) (fun s25 y26 => []) (fun s25 y26 => [SlRes 191 s25.2 y21.1 y21.2]) () [4, 3, 0] [0] 0 (fun s25 y26 t27 h33 hd34 => ?_))
   refine qs (qs (qr (oN 4 [(11, vb (decide (s25.1 < (x0.length : Int))))] [4, 3, 0] ?_)))
   refine oe (nt (cC h33 (fun h39 => ?_) (fun h40 => ?_)))
   · refine qk (nt (qs (qb (qr (oN 4 [(17, vi s25.1), (16, .v (.slice a0_0 x0.length c0_0)), (15, vi s25.1), (14, .v (.slice y21.1 s25.2.length y21.2))] [4, 3, 0] ?_)))))
     obtain ⟨x41, hx42, h43⟩ := bS h39
     refine oi 4 (fun γ w hs => (hv0_0.kept hs.kept)) hx42 ?_
     refine ol 193 0 (vSpell x41) (fun γ w hs => (hv0_0.kept hs.kept).flatq hx42) ?_
     obtain ⟨t44, h45, h46⟩ := bS h43
     refine k0 (fun γ w hs => c_laws_toSpell h45) ?_
     obtain ⟨x48, hx49, h50⟩ := bS h46
     refine oi 4 (fun γ w hs => (hs.view 0 rfl)) hx49 ?_
     obtain ⟨l51, hm52, h53⟩ := bS h50
     replace hm52 := (sI hm52).symm
     refine JO_storeq (α := Spell) (d := y21.1) (vs := [.int .i64 t44.From, .int .i64 t44.To, .int .i64 t44.Percent, .bool t44.Leave]) (j := s25.1) (x' := t44) rfl (by kernel_rfl) 0 (by kernel_rfl) hx49 (Rc := []) (Rr := []) rfl (by kernel_rfl) (fun w c F Fs ho _ _ => own_flat_set (by kernel_rfl) ho) hm52 rfl ?_
     have hl54 := len_set hm52
     refine JO_keep [20, 19, 18, 17, 16, 15, 14, 4, 3, 0] (sl' := [(20, .v (vSpell t44)), (19, .v (vSpell x41)), (18, .q a0_0 (Int.toNat s25.1 * 4)), (17, vi s25.1), (16, .v (.slice a0_0 x0.length c0_0)), (15, vi s25.1), (14, .v (.slice y21.1 s25.2.length y21.2)), (4, vi s25.1), (3, .v (.slice y21.1 s25.2.length y21.2)), (0, .v (.slice a0_0 x0.length c0_0))]) (by kernel_rfl) ?_
     refine JO_eqE (sl' := [(20, .v (vSpell t44)), (19, .v (vSpell x41)), (18, .q a0_0 (Int.toNat s25.1 * 4)), (17, vi s25.1), (16, .v (.slice a0_0 x0.length c0_0)), (15, vi s25.1), (14, .v (.slice y21.1 l51.length y21.2)), (4, vi s25.1), (3, .v (.slice y21.1 l51.length y21.2)), (0, .v (.slice a0_0 x0.length c0_0))]) (bx' := []) (by simp only [eSpell, vSpell, hl54]) rfl ?_
     refine oe (bn (nt (qr (oN 3 [(4, vi (w64 (s25.1 + 1)))] [3, 0] ?_))))
     exact oe (ct h53 () [4, 3, 0] [0] 0)
   refine qx (nx (nx (bh ?_)))
   have h55 := leafB hd34 h40 h30
   exact mp (s25.2, ()) h55 [3] [0] 0
 have h37 := (congrFun hk32 _).symm.trans h37p
 refine nt (qs (qr (oN 2 [(2, .v (.slice y21.1 y36.1.length y21.2))] [] ?_)))
 refine oe (nt (qe (rt [.slice y21.1 y36.1.length y21.2] (fun γ w hs => ?_))))
 rw [← sI h37]
 exact ⟨y21, rfl, hs.kept.toBelow, (hs.takeR (is := [0]) rfl).fresh⟩

theorem c_laws_toEvent {W : World} {x0 : Event} {r : Event} (h : laws_toEvent x0 = some r)  :
    Gives0 Tryz.prog 154 #[vEvent x0] W (vEvent r) := by
 unfold laws_toEvent at h
 refine en Tryz.func154 Tryz.ntmps154 ?_
 refine qs (qr (oB 2 [(2, .p 1 0), (1, .p 0 0)] [] [(197, (eEvent x0)), (195, (eEvent (Event.mk 0 0)))] ?_))
 refine oe (nt (qs (qr (oB 1 [(3, .p 2 0)] [2, 1] [(197, (eEvent x0)), (195, (eEvent (Event.mk 0 0))), (195, (eEvent (Event.mk 0 0)))] ?_))))
 refine oe (nt (qs (qr (oB 4 [] [3, 2, 1] [(197, (eEvent x0)), (195, (eEvent (Event.mk 0 0))), (195, (eEvent (Event.mk x0.Kind 0)))] ?_))))
 refine oe (nt (qs (qr (oB 4 [] [3, 2] [(197, (eEvent x0)), (195, (eEvent (Event.mk 0 0))), (195, (eEvent x0))] ?_))))
 refine oe (nt (qs (qr (oB 2 [] [2] [(197, (eEvent x0)), (195, (eEvent x0)), (195, (eEvent x0))] ?_))))
 refine oe (nt (qe ?_))
 obtain rfl := sI h
 exact re [vEvent x0]

theorem c_laws_toEventS {W : World} {x0 : List Event} {a0_0 : Option Addr} {c0_0 : Nat} {r : (List Event)} (h : laws_toEventS x0 = some r) (hv0_0 : SlView W x0 a0_0 c0_0) :
    Gives Tryz.prog 106 #[.slice a0_0 x0.length c0_0] W (fun y : AC => .slice y.1 r.length y.2) (fun y => [SlRes 195 r y.1 y.2]) := by
 unfold laws_toEventS at h
 refine en Tryz.func106 Tryz.ntmps106 ?_
 refine qs (qr (oN 1 [] [0] ?_))
 refine oe (nt (qs (qr (oN 2 [(6, vi (x0.length : Int))] [0] ?_))))
 obtain ⟨l22, hm23, h24⟩ := bS h
 refine JO_make (α := Event) rfl (by kernel_rfl) (t := 50) (e := 195) (m := (x0.length : Int)) (by kernel_rfl) (i := Tryz.t195) (by kernel_rfl) (z := (vEvent (Event.mk 0 0))) (by kernel_rfl) (by kernel_rfl) (by kernel_rfl) (by kernel_rfl) (fun w => ⟨rfl, rfl⟩) hm23 _ (fun _ => rfl) (fun y21 => ?_)
 refine oN 1 [(3, .v (.slice y21.1 l22.length y21.2))] [0] ?_
 refine oe (nt (qs (qs (qr (oN 1 [(4, vi 0)] [3, 0] ?_)))))
 refine oe (nt ?_)
 obtain ⟨r28, hL29, h30⟩ := bS h24
 obtain ⟨k31, hk32, h30⟩ := brkS h30
 refine JC_cutP (τ := ((List Event)) × (Unit)) (fun y => k31 y.1 = some r) (fun y36 => [(3, .v (.slice y21.1 y36.1.length y21.2))]) (fun y36 => []) (fun y36 => [SlRes 195 y36.1 y21.1 y21.2]) ?_ (fun y36 h37p => ?_)
 · refine qb (lp Unit hL29 (fun s25 y26 => [(4, vi s25.1), (3, .v (.slice y21.1 s25.2.length y21.2)), (0, .v (.slice a0_0 x0.length c0_0))]) (fun s25 y26 => []) (fun s25 y26 => [SlRes 195 s25.2 y21.1 y21.2]) () [4, 3, 0] [0] 0 (fun s25 y26 t27 h33 hd34 => ?_))
   refine qs (qs (qr (oN 4 [(11, vb (decide (s25.1 < (x0.length : Int))))] [4, 3, 0] ?_)))
   refine oe (nt (cC h33 (fun h39 => ?_) (fun h40 => ?_)))
   · refine qk (nt (qs (qb (qr (oN 4 [(17, vi s25.1), (16, .v (.slice a0_0 x0.length c0_0)), (15, vi s25.1), (14, .v (.slice y21.1 s25.2.length y21.2))] [4, 3, 0] ?_)))))
     obtain ⟨x41, hx42, h43⟩ := bS h39
     refine oi 2 (fun γ w hs => (hv0_0.kept hs.kept)) hx42 ?_
     refine ol 197 0 (vEvent x41) (fun γ w hs => (hv0_0.kept hs.kept).flatq hx42) ?_
     obtain ⟨t44, h45, h46⟩ := bS h43
     refine k0 (fun γ w hs => c_laws_toEvent h45) ?_
     obtain ⟨x48, hx49, h50⟩ := bS h46
     refine oi 2 (fun γ w hs => (hs.view 0 rfl)) hx49 ?_
     obtain ⟨l51, hm52, h53⟩ := bS h50
     replace hm52 := (sI hm52).symm
     refine JO_storeq (α := Event) (d := y21.1) (vs := [.int .i64 t44.Kind, .int .i64 t44.Month]) (j := s25.1) (x' := t44) rfl (by kernel_rfl) 0 (by kernel_rfl) hx49 (Rc := []) (Rr := []) rfl (by kernel_rfl) (fun w c F Fs ho _ _ => own_flat_set (by kernel_rfl) ho) hm52 rfl ?_
     have hl54 := len_set hm52
     refine JO_keep [20, 19, 18, 17, 16, 15, 14, 4, 3, 0] (sl' := [(20, .v (vEvent t44)), (19, .v (vEvent x41)), (18, .q a0_0 (Int.toNat s25.1 * 2)), (17, vi s25.1), (16, .v (.slice a0_0 x0.length c0_0)), (15, vi s25.1), (14, .v (.slice y21.1 s25.2.length y21.2)), (4, vi s25.1), (3, .v (.slice y21.1 s25.2.length y21.2)), (0, .v (.slice a0_0 x0.length c0_0))]) (by kernel_rfl) ?_
     refine JO_eqE (sl' := [(20, .v (vEvent t44)), (19, .v (vEvent x41)), (18, .q a0_0 (Int.toNat s25.1 * 2)), (17, vi s25.1), (16, .v (.slice a0_0 x0.length c0_0)), (15, vi s25.1), (14, .v (.slice y21.1 l51.length y21.2)), (4, vi s25.1), (3, .v (.slice y21.1 l51.length y21.2)), (0, .v (.slice a0_0 x0.length c0_0))]) (bx' := []) (by simp only [eEvent, vEvent, hl54]) rfl ?_
     refine oe (bn (nt (qr (oN 3 [(4, vi (w64 (s25.1 + 1)))] [3, 0] ?_))))
     exact oe (ct h53 () [4, 3, 0] [0] 0)
   refine qx (nx (nx (bh ?_)))
   have h55 := leafB hd34 h40 h30
   exact mp (s25.2, ()) h55 [3] [0] 0
 have h37 := (congrFun hk32 _).symm.trans h37p
 refine nt (qs (qr (oN 2 [(2, .v (.slice y21.1 y36.1.length y21.2))] [] ?_)))
 refine oe (nt (qe (rt [.slice y21.1 y36.1.length y21.2] (fun γ w hs => ?_))))
 rw [← sI h37]
 exact ⟨y21, rfl, hs.kept.toBelow, (hs.takeR (is := [0]) rfl).fresh⟩

theorem c_laws_toMember {W : World} {x0 : Member} {b0 : AC × AC} {r : Member} (h : laws_toMember x0 = some r) (hv0_0 : SlView W x0.Spells b0.1.1 b0.1.2) (hv0_1 : SlView W x0.Events b0.2.1 b0.2.2) :
    Gives Tryz.prog 62 #[vMember x0 b0] W (fun y : AC × AC => vMember r y) (fun y => [SlRes 191 r.Spells y.1.1 y.1.2, SlRes 195 r.Events y.2.1 y.2.2]) := by
 unfold laws_toMember at h
 refine en Tryz.func62 Tryz.ntmps62 ?_
 refine qs (qr (oB 2 [(2, .p 1 0), (1, .p 0 0)] [] [(34, (eMember x0 b0)), (52, [.int .i64 0, .int .i64 0, .slice none 0 0, .slice none 0 0])] ?_))
 refine oe (nt (qs (qr (oB 1 [(3, .p 2 0)] [2, 1] [(34, (eMember x0 b0)), (52, [.int .i64 0, .int .i64 0, .slice none 0 0, .slice none 0 0]), (52, [.int .i64 0, .int .i64 0, .slice none 0 0, .slice none 0 0])] ?_))))
 refine oe (nt (qs (qr (oB 4 [] [3, 2, 1] [(34, (eMember x0 b0)), (52, [.int .i64 0, .int .i64 0, .slice none 0 0, .slice none 0 0]), (52, [.int .i64 x0.Birth, .int .i64 0, .slice none 0 0, .slice none 0 0])] ?_))))
 refine oe (nt (qs (qr (oB 4 [] [3, 2, 1] [(34, (eMember x0 b0)), (52, [.int .i64 0, .int .i64 0, .slice none 0 0, .slice none 0 0]), (52, [.int .i64 x0.Birth, .int .i64 x0.Joined, .slice none 0 0, .slice none 0 0])] ?_))))
 refine oe (nt (qs (qr (oN 2 [(11, .v (.slice b0.1.1 x0.Spells.length b0.1.2))] [3, 2, 1] ?_))))
 obtain ⟨t21, h22, h23⟩ := bS h
 refine k1 (fun γ w hs => c_laws_toSpellS h22 (hv0_0.kept hs.kept)) (fun y24 => ?_)
 refine oB 2 [] [3, 2, 1] [(34, (eMember x0 b0)), (52, [.int .i64 0, .int .i64 0, .slice none 0 0, .slice none 0 0]), (52, (eMember (Member.mk x0.Birth x0.Joined t21 ([] : List Event)) (y24, (none, 0))))] ?_
 refine oe (nt (qs (qr (oN 2 [(15, .v (.slice b0.2.1 x0.Events.length b0.2.2))] [3, 2] ?_))))
 obtain ⟨t25, h26, h27⟩ := bS h23
 refine k1 (fun γ w hs => c_laws_toEventS h26 (hv0_1.kept hs.kept)) (fun y28 => ?_)
 refine oB 2 [] [3, 2] [(34, (eMember x0 b0)), (52, [.int .i64 0, .int .i64 0, .slice none 0 0, .slice none 0 0]), (52, (eMember (Member.mk x0.Birth x0.Joined t21 t25) (y24, y28)))] ?_
 refine oe (nt (qs (qr (oB 2 [] [2] [(34, (eMember x0 b0)), (52, (eMember (Member.mk x0.Birth x0.Joined t21 t25) (y24, y28))), (52, (eMember (Member.mk x0.Birth x0.Joined t21 t25) (y24, y28)))] ?_))))
 refine oe (nt (qe (rt [vMember (Member.mk x0.Birth x0.Joined t21 t25) (y24, y28)] (fun γ w hs => ?_))))
 rw [← sI h27]
 exact ⟨(y24, y28), rfl, hs.kept.toBelow, (hs.takeR (is := [1, 0]) rfl).fresh⟩

theorem c_laws_toCase {W : World} {x0 : Case} {b0 : AC × AC × AC × AC × AC} {r : Case} (h : laws_toCase x0 = some r) (hv0_0 : SlView W x0.Book.Rules b0.1.1 b0.1.2) (hv0_1 : SlView W x0.Store.Facts b0.2.1.1 b0.2.1.2) (hv0_2 : SlView W x0.Series.Points b0.2.2.1.1 b0.2.2.1.2) (hv0_3 : SlView W x0.Member.Spells b0.2.2.2.1.1 b0.2.2.2.1.2) (hv0_4 : SlView W x0.Member.Events b0.2.2.2.2.1 b0.2.2.2.2.2) :
    Gives Tryz.prog 16 #[vCase x0 b0] W (fun y : AC × AC × AC × AC × AC => vCase r y) (fun y => [SlRes 188 r.Book.Rules y.1.1 y.1.2, SlRes 84 r.Store.Facts y.2.1.1 y.2.1.2, SlRes 85 r.Series.Points y.2.2.1.1 y.2.2.1.2, SlRes 191 r.Member.Spells y.2.2.2.1.1 y.2.2.2.1.2, SlRes 195 r.Member.Events y.2.2.2.2.1 y.2.2.2.2.2]) := by
 unfold laws_toCase at h
 refine en Tryz.func16 Tryz.ntmps16 ?_
 refine qs (qr (oB 2 [(2, .p 1 0), (1, .p 0 0)] [] [(36, (eCase x0 b0)), (54, [.slice none 0 0, .slice none 0 0, .slice none 0 0, .int .i64 0, .int .i64 0, .slice none 0 0, .slice none 0 0])] ?_))
 refine oe (nt (qs (qr (oB 1 [(3, .p 2 0)] [2, 1] [(36, (eCase x0 b0)), (54, [.slice none 0 0, .slice none 0 0, .slice none 0 0, .int .i64 0, .int .i64 0, .slice none 0 0, .slice none 0 0]), (54, [.slice none 0 0, .slice none 0 0, .slice none 0 0, .int .i64 0, .int .i64 0, .slice none 0 0, .slice none 0 0])] ?_))))
 refine oe (nt (qs (qr (oN 2 [(5, .v (vBook x0.Book b0.1))] [3, 2, 1] ?_))))
 obtain ⟨t21, h22, h23⟩ := bS h
 refine k1 (fun γ w hs => c_laws_toBook h22 (hv0_0.kept hs.kept)) (fun y24 => ?_)
 refine oB 2 [] [3, 2, 1] [(36, (eCase x0 b0)), (54, [.slice none 0 0, .slice none 0 0, .slice none 0 0, .int .i64 0, .int .i64 0, .slice none 0 0, .slice none 0 0]), (54, [.slice y24.1 t21.Rules.length y24.2, .slice none 0 0, .slice none 0 0, .int .i64 0, .int .i64 0, .slice none 0 0, .slice none 0 0])] ?_
 refine oe (nt (qs (qr (oN 2 [(9, .v (vStore x0.Store b0.2.1))] [3, 2, 1] ?_))))
 obtain ⟨t25, h26, h27⟩ := bS h23
 refine k1 (fun γ w hs => c_laws_toStore h26 (hv0_1.kept hs.kept)) (fun y28 => ?_)
 refine oB 2 [] [3, 2, 1] [(36, (eCase x0 b0)), (54, [.slice none 0 0, .slice none 0 0, .slice none 0 0, .int .i64 0, .int .i64 0, .slice none 0 0, .slice none 0 0]), (54, [.slice y24.1 t21.Rules.length y24.2, .slice y28.1 t25.Facts.length y28.2, .slice none 0 0, .int .i64 0, .int .i64 0, .slice none 0 0, .slice none 0 0])] ?_
 refine oe (nt (qs (qr (oN 2 [(13, .v (vSeries x0.Series b0.2.2.1))] [3, 2, 1] ?_))))
 obtain ⟨t29, h30, h31⟩ := bS h27
 refine k1 (fun γ w hs => c_laws_toSeries h30 (hv0_2.kept hs.kept)) (fun y32 => ?_)
 refine oB 2 [] [3, 2, 1] [(36, (eCase x0 b0)), (54, [.slice none 0 0, .slice none 0 0, .slice none 0 0, .int .i64 0, .int .i64 0, .slice none 0 0, .slice none 0 0]), (54, (eCase (Case.mk t21 t25 t29 (Member.mk 0 0 ([] : List Spell) ([] : List Event))) (y24, y28, y32, (none, 0), (none, 0))))] ?_
 refine oe (nt (qs (qr (oN 2 [(17, .v (vMember x0.Member b0.2.2.2))] [3, 2] ?_))))
 obtain ⟨t33, h34, h35⟩ := bS h31
 refine k1 (fun γ w hs => c_laws_toMember (b0 := b0.2.2.2) h34 (hv0_3.kept hs.kept) (hv0_4.kept hs.kept)) (fun y36 => ?_)
 refine oB 2 [] [3, 2] [(36, (eCase x0 b0)), (54, [.slice none 0 0, .slice none 0 0, .slice none 0 0, .int .i64 0, .int .i64 0, .slice none 0 0, .slice none 0 0]), (54, (eCase (Case.mk t21 t25 t29 t33) (y24, y28, y32, y36.1, y36.2)))] ?_
 refine oe (nt (qs (qr (oB 2 [] [2] [(36, (eCase x0 b0)), (54, (eCase (Case.mk t21 t25 t29 t33) (y24, y28, y32, y36.1, y36.2))), (54, (eCase (Case.mk t21 t25 t29 t33) (y24, y28, y32, y36.1, y36.2)))] ?_))))
 refine oe (nt (qe (rt [vCase (Case.mk t21 t25 t29 t33) (y24, y28, y32, y36.1, y36.2)] (fun γ w hs => ?_))))
 rw [← sI h35]
 exact ⟨(y24, y28, y32, y36.1, y36.2), rfl, hs.kept.toBelow, (hs.takeR (is := [4, 3, 2, 0, 0]) rfl).fresh⟩

theorem c_laws_toIntS {W : World} {x0 : List Int} {a0_0 : Option Addr} {c0_0 : Nat} {r : (List Int)} (h : laws_toIntS x0 = some r) (hv0_0 : SlView W x0 a0_0 c0_0) :
    Gives Tryz.prog 78 #[.slice a0_0 x0.length c0_0] W (fun y : AC => .slice y.1 r.length y.2) (fun y => [SlRes 3 r y.1 y.2]) := by
 unfold laws_toIntS at h
 refine en Tryz.func78 Tryz.ntmps78 ?_
 refine qs (qr (oN 1 [] [0] ?_))
 refine oe (nt (qs (qr (oN 2 [(6, vi (x0.length : Int))] [0] ?_))))
 obtain ⟨l22, hm23, h24⟩ := bS h
 refine JO_make (α := Int) rfl (by kernel_rfl) (t := 55) (e := 3) (m := (x0.length : Int)) (by kernel_rfl) (i := Tryz.t3) (by kernel_rfl) (z := (.int .i64 0)) (by kernel_rfl) (by kernel_rfl) (by kernel_rfl) (by kernel_rfl) (fun w => ⟨rfl, rfl⟩) hm23 _ (fun _ => rfl) (fun y21 => ?_)
 refine oN 1 [(3, .v (.slice y21.1 l22.length y21.2))] [0] ?_
 refine oe (nt (qs (qs (qr (oN 1 [(4, vi 0)] [3, 0] ?_)))))
 refine oe (nt ?_)
 obtain ⟨r28, hL29, h30⟩ := bS h24
 obtain ⟨k31, hk32, h30⟩ := brkS h30
 refine JC_cutP (τ := ((List Int)) × (Unit)) (fun y => k31 y.1 = some r) (fun y36 => [(3, .v (.slice y21.1 y36.1.length y21.2))]) (fun y36 => []) (fun y36 => [SlRes 3 y36.1 y21.1 y21.2]) ?_ (fun y36 h37p => ?_)
 · refine qb (lp Unit hL29 (fun s25 y26 => [(4, vi s25.1), (3, .v (.slice y21.1 s25.2.length y21.2)), (0, .v (.slice a0_0 x0.length c0_0))]) (fun s25 y26 => []) (fun s25 y26 => [SlRes 3 s25.2 y21.1 y21.2]) () [4, 3, 0] [0] 0 (fun s25 y26 t27 h33 hd34 => ?_))
   refine qs (qs (qr (oN 4 [(11, vb (decide (s25.1 < (x0.length : Int))))] [4, 3, 0] ?_)))
   refine oe (nt (cC h33 (fun h39 => ?_) (fun h40 => ?_)))
   · refine qk (nt (qs (qb (qr (oN 4 [(17, vi s25.1), (16, .v (.slice a0_0 x0.length c0_0)), (15, vi s25.1), (14, .v (.slice y21.1 s25.2.length y21.2))] [4, 3, 0] ?_)))))
     obtain ⟨x41, hx42, h43⟩ := bS h39
     refine oi 1 (fun γ w hs => (hv0_0.kept hs.kept)) hx42 ?_
     refine ol 3 0 (.int .i64 x41) (fun γ w hs => (hv0_0.kept hs.kept).flatq hx42) ?_
     obtain ⟨x44, hx45, h46⟩ := bS h43
     refine oi 1 (fun γ w hs => (hs.view 0 rfl)) hx45 ?_
     obtain ⟨l47, hm48, h49⟩ := bS h46
     replace hm48 := (sI hm48).symm
     refine JO_storeq (α := Int) (d := y21.1) (vs := [.int .i64 x41]) (j := s25.1) (x' := x41) rfl (by kernel_rfl) 0 (by kernel_rfl) hx45 (Rc := []) (Rr := []) rfl (by kernel_rfl) (fun w c F Fs ho _ _ => own_flat_set (by kernel_rfl) ho) hm48 rfl ?_
     have hl50 := len_set hm48
     refine JO_keep [19, 18, 17, 16, 15, 14, 4, 3, 0] (sl' := [(19, vi x41), (18, .q a0_0 (Int.toNat s25.1 * 1)), (17, vi s25.1), (16, .v (.slice a0_0 x0.length c0_0)), (15, vi s25.1), (14, .v (.slice y21.1 s25.2.length y21.2)), (4, vi s25.1), (3, .v (.slice y21.1 s25.2.length y21.2)), (0, .v (.slice a0_0 x0.length c0_0))]) (by kernel_rfl) ?_
     refine JO_eqE (sl' := [(19, vi x41), (18, .q a0_0 (Int.toNat s25.1 * 1)), (17, vi s25.1), (16, .v (.slice a0_0 x0.length c0_0)), (15, vi s25.1), (14, .v (.slice y21.1 l47.length y21.2)), (4, vi s25.1), (3, .v (.slice y21.1 l47.length y21.2)), (0, .v (.slice a0_0 x0.length c0_0))]) (bx' := []) (by simp only [hl50]) rfl ?_
     refine oe (bn (nt (qr (oN 3 [(4, vi (w64 (s25.1 + 1)))] [3, 0] ?_))))
     exact oe (ct h49 () [4, 3, 0] [0] 0)
   refine qx (nx (nx (bh ?_)))
   have h51 := leafB hd34 h40 h30
   exact mp (s25.2, ()) h51 [3] [0] 0
 have h37 := (congrFun hk32 _).symm.trans h37p
 refine nt (qs (qr (oN 2 [(2, .v (.slice y21.1 y36.1.length y21.2))] [] ?_)))
 refine oe (nt (qe (rt [.slice y21.1 y36.1.length y21.2] (fun γ w hs => ?_))))
 rw [← sI h37]
 exact ⟨y21, rfl, hs.kept.toBelow, (hs.takeR (is := [0]) rfl).fresh⟩

theorem c_laws_toOffice {W : World} {x0 : Office} {b0 : AC × AC × AC × AC × AC × AC} {r : Office} (h : laws_toOffice x0 = some r) (hv0_0 : SlView W x0.Case.Book.Rules b0.1.1 b0.1.2) (hv0_1 : SlView W x0.Case.Store.Facts b0.2.1.1 b0.2.1.2) (hv0_2 : SlView W x0.Case.Series.Points b0.2.2.1.1 b0.2.2.1.2) (hv0_3 : SlView W x0.Case.Member.Spells b0.2.2.2.1.1 b0.2.2.2.1.2) (hv0_4 : SlView W x0.Case.Member.Events b0.2.2.2.2.1.1 b0.2.2.2.2.1.2) (hv0_5 : SlView W x0.Paid b0.2.2.2.2.2.1 b0.2.2.2.2.2.2) :
    Gives Tryz.prog 31 #[vOffice x0 b0] W (fun y : AC × AC × AC × AC × AC × AC => vOffice r y) (fun y => [SlRes 188 r.Case.Book.Rules y.1.1 y.1.2, SlRes 84 r.Case.Store.Facts y.2.1.1 y.2.1.2, SlRes 85 r.Case.Series.Points y.2.2.1.1 y.2.2.1.2, SlRes 191 r.Case.Member.Spells y.2.2.2.1.1 y.2.2.2.1.2, SlRes 195 r.Case.Member.Events y.2.2.2.2.1.1 y.2.2.2.2.1.2, SlRes 3 r.Paid y.2.2.2.2.2.1 y.2.2.2.2.2.2]) := by
 unfold laws_toOffice at h
 refine en Tryz.func31 Tryz.ntmps31 ?_
 refine qs (qr (oB 2 [(2, .p 1 0), (1, .p 0 0)] [] [(73, (eOffice x0 b0)), (57, [.slice none 0 0, .slice none 0 0, .slice none 0 0, .int .i64 0, .int .i64 0, .slice none 0 0, .slice none 0 0, .int .i64 0, .slice none 0 0])] ?_))
 refine oe (nt (qs (qr (oB 1 [(3, .p 2 0)] [2, 1] [(73, (eOffice x0 b0)), (57, [.slice none 0 0, .slice none 0 0, .slice none 0 0, .int .i64 0, .int .i64 0, .slice none 0 0, .slice none 0 0, .int .i64 0, .slice none 0 0]), (57, [.slice none 0 0, .slice none 0 0, .slice none 0 0, .int .i64 0, .int .i64 0, .slice none 0 0, .slice none 0 0, .int .i64 0, .slice none 0 0])] ?_))))
 refine oe (nt (qs (qr (oN 2 [(5, .v (vCase x0.Case (b0.1, b0.2.1, b0.2.2.1, b0.2.2.2.1, b0.2.2.2.2.1)))] [3, 2, 1] ?_))))
 obtain ⟨t21, h22, h23⟩ := bS h
 refine k1 (fun γ w hs => c_laws_toCase (b0 := (b0.1, b0.2.1, b0.2.2.1, b0.2.2.2.1, b0.2.2.2.2.1)) h22 (hv0_0.kept hs.kept) (hv0_1.kept hs.kept) (hv0_2.kept hs.kept) (hv0_3.kept hs.kept) (hv0_4.kept hs.kept)) (fun y24 => ?_)
 refine oB 2 [] [3, 2, 1] [(73, (eOffice x0 b0)), (57, [.slice none 0 0, .slice none 0 0, .slice none 0 0, .int .i64 0, .int .i64 0, .slice none 0 0, .slice none 0 0, .int .i64 0, .slice none 0 0]), (57, (eOffice (Office.mk t21 0 ([] : List Int)) (y24.1, y24.2.1, y24.2.2.1, y24.2.2.2.1, y24.2.2.2.2, (none, 0))))] ?_
 refine oe (nt (qs (qr (oB 4 [] [3, 2, 1] [(73, (eOffice x0 b0)), (57, [.slice none 0 0, .slice none 0 0, .slice none 0 0, .int .i64 0, .int .i64 0, .slice none 0 0, .slice none 0 0, .int .i64 0, .slice none 0 0]), (57, (eOffice (Office.mk t21 x0.Start ([] : List Int)) (y24.1, y24.2.1, y24.2.2.1, y24.2.2.2.1, y24.2.2.2.2, (none, 0))))] ?_))))
 refine oe (nt (qs (qr (oN 2 [(12, .v (.slice b0.2.2.2.2.2.1 x0.Paid.length b0.2.2.2.2.2.2))] [3, 2] ?_))))
 obtain ⟨t25, h26, h27⟩ := bS h23
 refine k1 (fun γ w hs => c_laws_toIntS h26 (hv0_5.kept hs.kept)) (fun y28 => ?_)
 refine oB 2 [] [3, 2] [(73, (eOffice x0 b0)), (57, [.slice none 0 0, .slice none 0 0, .slice none 0 0, .int .i64 0, .int .i64 0, .slice none 0 0, .slice none 0 0, .int .i64 0, .slice none 0 0]), (57, (eOffice (Office.mk t21 x0.Start t25) (y24.1, y24.2.1, y24.2.2.1, y24.2.2.2.1, y24.2.2.2.2, y28)))] ?_
 refine oe (nt (qs (qr (oB 2 [] [2] [(73, (eOffice x0 b0)), (57, (eOffice (Office.mk t21 x0.Start t25) (y24.1, y24.2.1, y24.2.2.1, y24.2.2.2.1, y24.2.2.2.2, y28))), (57, (eOffice (Office.mk t21 x0.Start t25) (y24.1, y24.2.1, y24.2.2.1, y24.2.2.2.1, y24.2.2.2.2, y28)))] ?_))))
 refine oe (nt (qe (rt [vOffice (Office.mk t21 x0.Start t25) (y24.1, y24.2.1, y24.2.2.1, y24.2.2.2.1, y24.2.2.2.2, y28)] (fun γ w hs => ?_))))
 rw [← sI h27]
 exact ⟨(y24.1, y24.2.1, y24.2.2.1, y24.2.2.2.1, y24.2.2.2.2, y28), rfl, hs.kept.toBelow, (hs.takeR (is := [1, 1, 1, 1, 1, 0]) rfl).fresh⟩

theorem c_spec_l01In {W : World} {x0 : Int} {x1 : Int} {x2 : Int} {r : Bool} (h : spec_l01In x0 x1 x2 = some r)  :
    Gives0 Tryz.prog 123 #[.int .i64 x0, .int .i64 x1, .int .i64 x2] W (.bool r) := by
 unfold spec_l01In at h
 refine en Tryz.func123 Tryz.ntmps123 ?_
 refine qs (qr (oN 1 [] [0, 1, 2] ?_))
 refine oe (nt (qs ?_))
 obtain ⟨p21, hE22, h23⟩ := bS h
 refine JC_cut (τ := Unit) (fun _ => [(6, vb p21)]) (fun _ => []) (fun _ => []) ?_ (fun _ => ?_)
 · refine qr (oN 4 [(10, vb (decide (x0 ≥ x1)))] [0, 2] ?_)
   refine oS 10 hE22 (fun h25 => ?_) (fun h26 => ?_)
   · refine oN 5 [(6, vb (decide (x0 ≤ x2)))] [] ?_
     refine oe ?_
     obtain rfl := sI h25
     exact mt () [6] [] 0
   refine oN 5 [(6, vb false)] [] ?_
   refine oe ?_
   obtain rfl := sI h26
   exact mt () [6] [] 0
 refine nt (qe ?_)
 obtain rfl := sI h23
 exact re [.bool p21]

theorem c_spec_l02Abs {W : World} {x0 : Int} {r : Int} (h : spec_l02Abs x0 = some r)  :
    Gives0 Tryz.prog 241 #[.int .i64 x0] W (.int .i64 r) := by
 unfold spec_l02Abs at h
 refine en Tryz.func241 Tryz.ntmps241 ?_
 refine qs (qr (oN 1 [] [0] ?_))
 refine oe (nt (qs (qs (qr (oN 2 [(4, vb (decide (x0 < 0)))] [0] ?_)))))
 refine oe (nt (cC h (fun h22 => ?_) (fun h23 => ?_)))
 · refine qs (qr (oN 3 [(2, vi (w64 (0 - x0)))] [] ?_))
   refine oe (nt (qe (nr ?_)))
   obtain rfl := sI h22
   exact re [.int .i64 (w64 (0 - x0))]
 refine qk (nt (qs (qr (oN 2 [(2, vi x0)] [] ?_))))
 refine oe (nt (qe ?_))
 obtain rfl := sI h23
 exact re [.int .i64 x0]

theorem c_spec_l02Gcd {W : World} {x0 : Int} {x1 : Int} {r : Int} (h : spec_l02Gcd x0 x1 = some r)  :
    Gives0 Tryz.prog 240 #[.int .i64 x0, .int .i64 x1] W (.int .i64 r) := by
 unfold spec_l02Gcd at h
 refine en Tryz.func240 Tryz.ntmps240 ?_
 refine qs (qr (oN 1 [] [0, 1] ?_))
 refine oe (nt (qs ?_))
 obtain ⟨r24, hL25, h26⟩ := bS h
 obtain ⟨k27, hk28, h26⟩ := brkS h26
 refine JC_cutP (τ := (Int) × (Unit)) (fun y => k27 y.1 = some r) (fun y32 => [(0, vi y32.1)]) (fun y32 => []) (fun y32 => []) ?_ (fun y32 h33p => ?_)
 · refine qb (lp Unit hL25 (fun s21 y22 => [(0, vi s21.1), (1, vi s21.2)]) (fun s21 y22 => []) (fun s21 y22 => []) () [0, 1] [] 0 (fun s21 y22 t23 h29 hd30 => ?_))
   refine qs (qs (qr (oN 2 [(7, vb (s21.2 != 0))] [0, 1] ?_)))
   refine oe (nt (cC h29 (fun h35 => ?_) (fun h36 => ?_)))
   · refine qk (nt (qb (qs (qr (oN 2 [(9, vi s21.2), (8, vi s21.1)] [1] ?_)))))
     obtain ⟨u39, hz38, h37⟩ := bS h35
     refine JO_div rfl (by kernel_rfl) (op := .rem) (k := .i64) (x := s21.1) (y := s21.2) (by kernel_rfl) (nz_some hz38) rfl ?_
     refine oN 1 [(5, vi (Int.tmod s21.1 s21.2))] [1] ?_
     refine oe (nt (qs (qr (oN 2 [(0, vi s21.2)] [5] ?_))))
     refine oe (nt (qr (oN 2 [(1, vi (Int.tmod s21.1 s21.2))] [0] ?_)))
     exact oe (bn (ct h37 () [0, 1] [] 0))
   refine qx (nx (nx (bh ?_)))
   have h40 := leafB hd30 h36 h26
   exact mp (s21.1, ()) h40 [0] [] 0
 have h33 := (congrFun hk28 _).symm.trans h33p
 refine nt (qs (qr (oN 2 [(4, vi y32.1)] [] ?_)))
 refine oe (nt (qe ?_))
 obtain rfl := sI h33
 exact re [.int .i64 y32.1]

theorem c_spec_FracOk {W : World} {x0 : Frac} {r : Bool} (h : spec_FracOk x0 = some r)  :
    Gives0 Tryz.prog 228 #[vFrac x0] W (.bool r) := by
 unfold spec_FracOk at h
 refine en Tryz.func228 Tryz.ntmps228 ?_
 refine qs (qr (oB 2 [(1, .p 0 0)] [] [(216, (eFrac x0))] ?_))
 refine oe (nt (qs ?_))
 obtain ⟨p21, hE22, h23⟩ := bS h
 refine JC_cut (τ := Unit) (fun _ => [(2, vb p21)]) (fun _ => [(216, (eFrac x0))]) (fun _ => []) ?_ (fun _ => ?_)
 · refine JC_quiet (by kernel_rfl) (by kernel_rfl) ?_
   refine qN 2 [(4, vi x0.Den)] [1] ?_
   obtain ⟨t24, h25, h26⟩ := bS hE22
   refine q0 (fun γ w hs => c_spec_l01In h25) ?_
   refine qN 1 [(6, vb t24)] [1] ?_
   refine qS 6 h26 (fun h29 => ?_) (fun h30 => ?_)
   · refine qN 2 [(8, vi x0.Num)] [6, 1] ?_
     obtain ⟨t31, h32, h33⟩ := bS h29
     refine q0 (fun γ w hs => c_spec_l01In h32) ?_
     refine qN 2 [(11, vb t31)] [1] ?_
     refine qS 11 h33 (fun h36 => ?_) (fun h37 => ?_)
     · refine qN 2 [(13, vi x0.Num)] [11, 1] ?_
       obtain ⟨t38, h39, h40⟩ := bS h36
       refine q0 (fun γ w hs => c_spec_l02Abs h39) ?_
       refine qN 2 [(16, vi x0.Den)] [14, 11] ?_
       obtain ⟨t42, h43, h44⟩ := bS h40
       refine q0 (fun γ w hs => c_spec_l02Gcd h43) ?_
       refine qN 3 [(2, vb (t42 == 1))] [] ?_
       refine qz ?_
       obtain rfl := sI h44
       exact mt () [2] [] 1
     refine qN 9 [(2, vb false)] [] ?_
     refine qz ?_
     obtain rfl := sI h37
     exact mt () [2] [] 1
   refine qN 14 [(2, vb false)] [] ?_
   refine qz ?_
   obtain rfl := sI h30
   exact mt () [2] [] 1
 refine nt (qe ?_)
 obtain rfl := sI h23
 exact re [.bool p21]

theorem c_spec_l08Two {W : World} {x0 : Int} {r : Bool} (h : spec_l08Two x0 = some r)  :
    Gives0 Tryz.prog 246 #[.int .i64 x0] W (.bool r) := by
 unfold spec_l08Two at h
 refine en Tryz.func246 Tryz.ntmps246 ?_
 refine qs (qr (oN 1 [] [0] ?_))
 refine oe (nt (qs (qr (oN 1 [(3, vi x0)] [] ?_))))
 obtain ⟨t21, h22, h23⟩ := bS h
 refine k0 (fun γ w hs => c_spec_l01In h22) ?_
 refine oN 1 [(2, vb t21)] [] ?_
 refine oe (nt (qe ?_))
 obtain rfl := sI h23
 exact re [.bool t21]

theorem c_spec_l08At {W : World} {x0 : Int} {x1 : Int} {r : Bool} (h : spec_l08At x0 x1 = some r)  :
    Gives0 Tryz.prog 247 #[.int .i64 x0, .int .i64 x1] W (.bool r) := by
 unfold spec_l08At at h
 refine en Tryz.func247 Tryz.ntmps247 ?_
 refine qs (qr (oN 1 [] [0, 1] ?_))
 refine oe (nt (qs ?_))
 obtain ⟨p21, hE22, h23⟩ := bS h
 refine JC_cut (τ := Unit) (fun _ => [(4, vb p21)]) (fun _ => []) (fun _ => []) ?_ (fun _ => ?_)
 · refine qr (oN 3 [(7, vb (decide (x0 ≥ 0)))] [0, 1] ?_)
   refine oS 7 hE22 (fun h25 => ?_) (fun h26 => ?_)
   · refine oN 5 [(4, vb (decide (x0 < x1)))] [] ?_
     refine oe ?_
     obtain rfl := sI h25
     exact mt () [4] [] 0
   refine oN 5 [(4, vb false)] [] ?_
   refine oe ?_
   obtain rfl := sI h26
   exact mt () [4] [] 0
 refine nt (qe ?_)
 obtain rfl := sI h23
 exact re [.bool p21]

theorem c_spec_NodeOk {W : World} {x0 : Node} {x1 : Int} {r : Bool} (h : spec_NodeOk x0 x1 = some r)  :
    Gives0 Tryz.prog 235 #[vNode x0, .int .i64 x1] W (.bool r) := by
 unfold spec_NodeOk at h
 refine en Tryz.func235 Tryz.ntmps235 ?_
 refine qs (qr (oB 2 [(2, .p 0 0)] [1] [(233, (eNode x0))] ?_))
 refine oe (nt (qs (qr (oB 3 [(5, .p 1 0)] [2, 1] [(233, (eNode x0)), (216, (eFrac (Frac.mk 0 0)))] ?_))))
 refine oe (nt (qs (qb (qs (qr (oN 4 [(7, vb (x0.Kind == 1))] [5, 2, 1] ?_))))))
 refine oe (nt (cC h (fun h81 => ?_) (fun h82 => ?_)))
 · refine qs ?_
   obtain ⟨p83, hE84, h85⟩ := bS h81
   refine JC_cut (τ := Unit) (fun _ => [(4, vb p83)]) (fun _ => [(233, (eNode x0)), (216, (eFrac (Frac.mk 0 0)))]) (fun _ => []) ?_ (fun _ => ?_)
   · refine qr (oN 4 [(14, vb (x0.A == 0))] [2] ?_)
     refine oS 14 hE84 (fun h87 => ?_) (fun h88 => ?_)
     · refine oN 5 [(19, vb (x0.B == 0))] [2] ?_
       refine oS 19 h87 (fun h90 => ?_) (fun h91 => ?_)
       · refine oN 5 [(24, vb (x0.C == 0))] [2] ?_
         refine oS 24 h90 (fun h93 => ?_) (fun h94 => ?_)
         · refine oN 2 [(26, .v (vFrac x0.Value))] [24] ?_
           obtain ⟨t95, h96, h97⟩ := bS h93
           refine k0 (fun γ w hs => c_spec_FracOk h96) ?_
           refine oN 2 [(4, vb t95)] [] ?_
           refine oe ?_
           obtain rfl := sI h97
           exact mt () [4] [] 2
         refine oN 5 [(4, vb false)] [] ?_
         refine oe ?_
         obtain rfl := sI h94
         exact mt () [4] [] 2
       refine oN 10 [(4, vb false)] [] ?_
       refine oe ?_
       obtain rfl := sI h91
       exact mt () [4] [] 2
     refine oN 15 [(4, vb false)] [] ?_
     refine oe ?_
     obtain rfl := sI h88
     exact mt () [4] [] 2
   refine nt (qe (br (nr ?_)))
   obtain rfl := sI h85
   exact re [.bool p83]
 refine qs (qr (oN 5 [(29, vb (!((x0.Value.Num == 0) && ((x0.Value.Den == 0) && true))))] [2, 1] ?_))
 refine oe (nt (cC h82 (fun h140 => ?_) (fun h141 => ?_)))
 · refine qs (qr (oN 1 [(4, vb false)] [] ?_))
   refine oe (nt (qe (br (nr ?_))))
   obtain rfl := sI h140
   exact re [.bool false]
 refine qs (qr (oN 4 [(34, vb (x0.Kind == 2))] [2, 1] ?_))
 refine oe (nt (cC h141 (fun h180 => ?_) (fun h181 => ?_)))
 · refine qs ?_
   obtain ⟨p182, hE183, h184⟩ := bS h180
   refine JC_cut (τ := Unit) (fun _ => [(4, vb p182)]) (fun _ => [(233, (eNode x0)), (216, (eFrac (Frac.mk 0 0)))]) (fun _ => []) ?_ (fun _ => ?_)
   · refine qr (oN 2 [(39, vi x0.A)] [2] ?_)
     obtain ⟨t185, h186, h187⟩ := bS hE183
     refine k0 (fun γ w hs => c_spec_l01In h186) ?_
     refine oN 1 [(41, vb t185)] [2] ?_
     refine oS 41 h187 (fun h190 => ?_) (fun h191 => ?_)
     · refine oN 5 [(46, vb (x0.B == 0))] [2] ?_
       refine oS 46 h190 (fun h193 => ?_) (fun h194 => ?_)
       · refine oN 5 [(4, vb (x0.C == 0))] [] ?_
         refine oe ?_
         obtain rfl := sI h193
         exact mt () [4] [] 2
       refine oN 5 [(4, vb false)] [] ?_
       refine oe ?_
       obtain rfl := sI h194
       exact mt () [4] [] 2
     refine oN 10 [(4, vb false)] [] ?_
     refine oe ?_
     obtain rfl := sI h191
     exact mt () [4] [] 2
   refine nt (qe (br (nr ?_)))
   obtain rfl := sI h184
   exact re [.bool p182]
 refine qs (qr (oN 2 [(53, vi x0.Kind)] [2, 1] ?_))
 obtain ⟨t195, h196, h197⟩ := bS h181
 refine k0 (fun γ w hs => c_spec_l08Two h196) ?_
 refine oN 1 [(51, vb t195)] [2, 1] ?_
 refine oe (nt (cC h197 (fun h217 => ?_) (fun h218 => ?_)))
 · refine qs ?_
   obtain ⟨p219, hE220, h221⟩ := bS h217
   refine JC_cut (τ := Unit) (fun _ => [(4, vb p219)]) (fun _ => [(233, (eNode x0)), (216, (eFrac (Frac.mk 0 0)))]) (fun _ => []) ?_ (fun _ => ?_)
   · refine qr (oN 3 [(57, vi x1), (56, vi x0.A)] [2, 1] ?_)
     obtain ⟨t222, h223, h224⟩ := bS hE220
     refine k0 (fun γ w hs => c_spec_l08At h223) ?_
     refine oN 1 [(59, vb t222)] [2, 1] ?_
     refine oS 59 h224 (fun h227 => ?_) (fun h228 => ?_)
     · refine oN 3 [(62, vi x1), (61, vi x0.B)] [59, 2] ?_
       obtain ⟨t229, h230, h231⟩ := bS h227
       refine k0 (fun γ w hs => c_spec_l08At h230) ?_
       refine oN 2 [(65, vb t229)] [2] ?_
       refine oS 65 h231 (fun h234 => ?_) (fun h235 => ?_)
       · refine oN 5 [(4, vb (x0.C == 0))] [] ?_
         refine oe ?_
         obtain rfl := sI h234
         exact mt () [4] [] 2
       refine oN 5 [(4, vb false)] [] ?_
       refine oe ?_
       obtain rfl := sI h235
       exact mt () [4] [] 2
     refine oN 11 [(4, vb false)] [] ?_
     refine oe ?_
     obtain rfl := sI h228
     exact mt () [4] [] 2
   refine nt (qe (br (nr ?_)))
   obtain rfl := sI h221
   exact re [.bool p219]
 refine qk (bn (nt (qs ?_)))
 obtain ⟨p236, hE237, h238⟩ := bS h218
 refine JC_cut (τ := Unit) (fun _ => [(4, vb p236)]) (fun _ => [(233, (eNode x0)), (216, (eFrac (Frac.mk 0 0)))]) (fun _ => []) ?_ (fun _ => ?_)
 · refine qr (oN 4 [(73, vb (x0.Kind == 9))] [2, 1] ?_)
   refine oS 73 hE237 (fun h240 => ?_) (fun h241 => ?_)
   · refine oN 3 [(76, vi x1), (75, vi x0.A)] [73, 2, 1] ?_
     obtain ⟨t242, h243, h244⟩ := bS h240
     refine k0 (fun γ w hs => c_spec_l08At h243) ?_
     refine oN 2 [(79, vb t242)] [2, 1] ?_
     refine oS 79 h244 (fun h247 => ?_) (fun h248 => ?_)
     · refine oN 3 [(82, vi x1), (81, vi x0.B)] [79, 2, 1] ?_
       obtain ⟨t249, h250, h251⟩ := bS h247
       refine k0 (fun γ w hs => c_spec_l08At h250) ?_
       refine oN 2 [(85, vb t249)] [2, 1] ?_
       refine oS 85 h251 (fun h254 => ?_) (fun h255 => ?_)
       · refine oN 3 [(88, vi x1), (87, vi x0.C)] [85] ?_
         obtain ⟨t256, h257, h258⟩ := bS h254
         refine k0 (fun γ w hs => c_spec_l08At h257) ?_
         refine oN 2 [(4, vb t256)] [] ?_
         refine oe ?_
         obtain rfl := sI h258
         exact mt () [4] [] 2
       refine oN 6 [(4, vb false)] [] ?_
       refine oe ?_
       obtain rfl := sI h255
       exact mt () [4] [] 2
     refine oN 12 [(4, vb false)] [] ?_
     refine oe ?_
     obtain rfl := sI h248
     exact mt () [4] [] 2
   refine oN 18 [(4, vb false)] [] ?_
   refine oe ?_
   obtain rfl := sI h241
   exact mt () [4] [] 2
 refine nt (qe ?_)
 obtain rfl := sI h238
 exact re [.bool p236]

theorem c_spec_FormulaOk {W : World} {x0 : List Node} {a0_0 : Option Addr} {c0_0 : Nat} {r : Bool} (h : spec_FormulaOk x0 = some r) (hv0_0 : SlView W x0 a0_0 c0_0) :
    Gives0 Tryz.prog 212 #[.slice a0_0 x0.length c0_0] W (.bool r) := by
 unfold spec_FormulaOk at h
 refine en Tryz.func212 Tryz.ntmps212 ?_
 refine qs (qr (oN 1 [] [0] ?_))
 refine oe (nt (qs (qs (qr (oN 1 [(3, vi 0)] [0] ?_)))))
 refine oe (nt ?_)
 obtain ⟨r24, hL25, h26⟩ := bS h
 obtain ⟨k27, hk28, h26⟩ := brkS h26
 refine JC_cutP (τ := (Unit) × (Unit)) (fun y => k27 y.1 = some r) (fun y32 => [(0, .v (.slice a0_0 x0.length c0_0))]) (fun y32 => []) (fun y32 => []) ?_ (fun y32 h33p => ?_)
 · refine qb (lp Unit hL25 (fun s21 y22 => [(3, vi s21), (0, .v (.slice a0_0 x0.length c0_0))]) (fun s21 y22 => []) (fun s21 y22 => []) () [3, 0] [] 0 (fun s21 y22 t23 h29 hd30 => ?_))
   refine qs (qs (qr (oN 4 [(7, vb (decide (s21 < (x0.length : Int))))] [3, 0] ?_)))
   refine oe (nt (cC h29 (fun h39 => ?_) (fun h40 => ?_)))
   · refine qk (nt (qs (qb (qs (qr (oN 2 [(11, vi s21), (10, .v (.slice a0_0 x0.length c0_0))] [3, 0] ?_))))))
     obtain ⟨x41, hx42, h43⟩ := bS h39
     refine oi 6 (fun γ w hs => (hv0_0.kept hs.kept)) hx42 ?_
     refine ol 233 0 (vNode x41) (fun γ w hs => (hv0_0.kept hs.kept).flatq hx42) ?_
     refine oN 1 [(14, vi s21)] [13, 3, 0] ?_
     obtain ⟨t44, h45, h46⟩ := bS h43
     refine k0 (fun γ w hs => c_spec_NodeOk h45) ?_
     refine oN 1 [(16, vb (!t44))] [3, 0] ?_
     refine oe (nt (cC h46 (fun h49 => ?_) (fun h50 => ?_)))
     · refine qs (qr (oN 1 [(2, vb false)] [] ?_))
       refine oe (nt (qe (br (nr (nr ?_)))))
       have h51 := leafR hd30 h49 h26
       refine br (nr (nr ?_))
       obtain rfl := sI h51
       exact re [.bool false]
     refine qk (bn (nt (qr (oN 3 [(3, vi (w64 (s21 + 1)))] [0] ?_))))
     exact oe (ct h50 () [3, 0] [] 0)
   refine qx (nx (nx (bh ?_)))
   have h52 := leafB hd30 h40 h26
   exact mp ((), ()) h52 [0] [] 0
 have h33 := (congrFun hk28 _).symm.trans h33p
 refine nt (qs (qr (oN 2 [(18, vi (x0.length : Int))] [] ?_)))
 obtain ⟨t34, h35, h36⟩ := bS h33
 refine k0 (fun γ w hs => c_spec_l01In h35) ?_
 refine oN 1 [(2, vb t34)] [] ?_
 refine oe (nt (qe ?_))
 obtain rfl := sI h36
 exact re [.bool t34]

theorem c_spec_RuleOk {W : World} {x0 : Rule} {a0_0 : Option Addr} {c0_0 : Nat} {r : Bool} (h : spec_RuleOk x0 = some r) (hv0_0 : SlView W x0.Nodes a0_0 c0_0) :
    Gives0 Tryz.prog 170 #[vRule x0 (a0_0, c0_0)] W (.bool r) := by
 unfold spec_RuleOk at h
 refine en Tryz.func170 Tryz.ntmps170 ?_
 refine qs (qr (oB 2 [(1, .p 0 0)] [] [(188, (eRule x0 (a0_0, c0_0)))] ?_))
 refine oe (nt (qs ?_))
 obtain ⟨p21, hE22, h23⟩ := bS h
 refine JC_cut (τ := Unit) (fun _ => [(2, vb p21)]) (fun _ => [(188, (eRule x0 (a0_0, c0_0)))]) (fun _ => []) ?_ (fun _ => ?_)
 · refine qr (oN 2 [(4, vi x0.Name)] [1] ?_)
   obtain ⟨t24, h25, h26⟩ := bS hE22
   refine k0 (fun γ w hs => c_spec_l01In h25) ?_
   refine oN 1 [(6, vb t24)] [1] ?_
   refine oS 6 h26 (fun h29 => ?_) (fun h30 => ?_)
   · refine oN 5 [(11, vb (decide (x0.From ≥ 0)))] [1] ?_
     refine oS 11 h29 (fun h32 => ?_) (fun h33 => ?_)
     · refine oN 7 [(18, vb (decide (x0.From < x0.To)))] [1] ?_
       refine oS 18 h32 (fun h35 => ?_) (fun h36 => ?_)
       · refine oN 5 [(23, vb (decide (x0.To ≤ 3600)))] [1] ?_
         refine oS 23 h35 (fun h38 => ?_) (fun h39 => ?_)
         · refine oN 2 [(25, vi x0.Joined)] [23, 1] ?_
           obtain ⟨t40, h41, h42⟩ := bS h38
           refine k0 (fun γ w hs => c_spec_l01In h41) ?_
           refine oN 2 [(28, vb t40)] [1] ?_
           refine oS 28 h42 (fun h45 => ?_) (fun h46 => ?_)
           · refine oN 2 [(30, vi x0.Rank)] [28, 1] ?_
             obtain ⟨t47, h48, h49⟩ := bS h45
             refine k0 (fun γ w hs => c_spec_l01In h48) ?_
             refine oN 2 [(33, vb t47)] [1] ?_
             refine oS 33 h49 (fun h52 => ?_) (fun h53 => ?_)
             · refine oN 2 [(35, vi x0.Mode)] [33, 1] ?_
               obtain ⟨t54, h55, h56⟩ := bS h52
               refine k0 (fun γ w hs => c_spec_l01In h55) ?_
               refine oN 2 [(38, vb t54)] [1] ?_
               refine oS 38 h56 (fun h59 => ?_) (fun h60 => ?_)
               · refine oN 2 [(40, .v (.slice a0_0 x0.Nodes.length c0_0))] [38] ?_
                 obtain ⟨t61, h62, h63⟩ := bS h59
                 refine k0 (fun γ w hs => c_spec_FormulaOk h62 (hv0_0.kept hs.kept)) ?_
                 refine oN 2 [(2, vb t61)] [] ?_
                 refine oe ?_
                 obtain rfl := sI h63
                 exact mt () [2] [] 1
               refine oN 5 [(2, vb false)] [] ?_
               refine oe ?_
               obtain rfl := sI h60
               exact mt () [2] [] 1
             refine oN 10 [(2, vb false)] [] ?_
             refine oe ?_
             obtain rfl := sI h53
             exact mt () [2] [] 1
           refine oN 15 [(2, vb false)] [] ?_
           refine oe ?_
           obtain rfl := sI h46
           exact mt () [2] [] 1
         refine oN 20 [(2, vb false)] [] ?_
         refine oe ?_
         obtain rfl := sI h39
         exact mt () [2] [] 1
       refine oN 25 [(2, vb false)] [] ?_
       refine oe ?_
       obtain rfl := sI h36
       exact mt () [2] [] 1
     refine oN 32 [(2, vb false)] [] ?_
     refine oe ?_
     obtain rfl := sI h33
     exact mt () [2] [] 1
   refine oN 37 [(2, vb false)] [] ?_
   refine oe ?_
   obtain rfl := sI h30
   exact mt () [2] [] 1
 refine nt (qe ?_)
 obtain rfl := sI h23
 exact re [.bool p21]

theorem c_spec_l04End {W : World} {x0 : Int} {r : Bool} (h : spec_l04End x0 = some r)  :
    Gives0 Tryz.prog 213 #[.int .i64 x0] W (.bool r) := by
 unfold spec_l04End at h
 refine en Tryz.func213 Tryz.ntmps213 ?_
 refine qs (qr (oN 1 [] [0] ?_))
 refine oe (nt (qs (qr (oN 1 [(3, vi x0)] [] ?_))))
 obtain ⟨t21, h22, h23⟩ := bS h
 refine k0 (fun γ w hs => c_spec_l01In h22) ?_
 refine oN 1 [(2, vb t21)] [] ?_
 refine oe (nt (qe ?_))
 obtain rfl := sI h23
 exact re [.bool t21]

theorem c_spec_MonthsIn {W : World} {x0 : Int} {x1 : Int} {x2 : Int} {x3 : Int} {r : Int} (h : spec_MonthsIn x0 x1 x2 x3 = some r)  :
    Gives0 Tryz.prog 171 #[.int .i64 x0, .int .i64 x1, .int .i64 x2, .int .i64 x3] W (.int .i64 r) := by
 unfold spec_MonthsIn at h
 refine en Tryz.func171 Tryz.ntmps171 ?_
 refine qs (qr (oN 1 [] [0, 1, 2, 3] ?_))
 refine oe (nt (qs (qs ?_)))
 obtain ⟨p21, hE22, h23⟩ := bS h
 refine JC_cut (τ := Unit) (fun _ => [(0, vi x0), (1, vi x1), (2, vi x2), (3, vi x3), (26, vb p21)]) (fun _ => []) (fun _ => []) ?_ (fun _ => ?_)
 · refine qr (oN 1 [(9, vi x0)] [0, 1, 2, 3] ?_)
   obtain ⟨t24, h25, h26⟩ := bS hE22
   refine k0 (fun γ w hs => c_spec_l04End h25) ?_
   refine oN 2 [(12, vb (!t24))] [0, 1, 2, 3] ?_
   refine oS 12 h26 (fun h29 => ?_) (fun h30 => ?_)
   · refine oN 14 [(26, vb true)] [0, 1, 2, 3] ?_
     refine oe ?_
     obtain rfl := sI h29
     exact mt () [0, 1, 2, 3, 26] [] 0
   refine oN 1 [(13, vi x1)] [12, 0, 1, 2, 3] ?_
   obtain ⟨t31, h32, h33⟩ := bS h30
   refine k0 (fun γ w hs => c_spec_l04End h32) ?_
   refine oN 3 [(17, vb (!t31))] [0, 1, 2, 3] ?_
   refine oS 17 h33 (fun h36 => ?_) (fun h37 => ?_)
   · refine oN 9 [(26, vb true)] [0, 1, 2, 3] ?_
     refine oe ?_
     obtain rfl := sI h36
     exact mt () [0, 1, 2, 3, 26] [] 0
   refine oN 1 [(18, vi x2)] [17, 0, 1, 2, 3] ?_
   obtain ⟨t38, h39, h40⟩ := bS h37
   refine k0 (fun γ w hs => c_spec_l04End h39) ?_
   refine oN 3 [(22, vb (!t38))] [0, 1, 2, 3] ?_
   refine oS 22 h40 (fun h43 => ?_) (fun h44 => ?_)
   · refine oN 4 [(26, vb true)] [0, 1, 2, 3] ?_
     refine oe ?_
     obtain rfl := sI h43
     exact mt () [0, 1, 2, 3, 26] [] 0
   refine oN 1 [(23, vi x3)] [22, 0, 1, 2, 3] ?_
   obtain ⟨t45, h46, h47⟩ := bS h44
   refine k0 (fun γ w hs => c_spec_l04End h46) ?_
   refine oN 2 [(26, vb (!t45))] [0, 1, 2, 3] ?_
   refine oe ?_
   obtain rfl := sI h47
   exact mt () [0, 1, 2, 3, 26] [] 0
 refine nt (cC h23 (fun h50 => ?_) (fun h51 => ?_))
 · refine qs (qr (oN 1 [(8, vi 0)] [] ?_))
   refine oe (nt (qe (nr ?_)))
   obtain rfl := sI h50
   exact re [.int .i64 0]
 refine qk (nt (qs (qr (oN 9 [(8, vi (imax 0 (w64 ((imin x1 x3) - (imax x0 x2)))))] [] ?_))))
 refine oe (nt (qe ?_))
 obtain rfl := sI h51
 exact re [.int .i64 (imax 0 (w64 ((imin x1 x3) - (imax x0 x2))))]

theorem c_spec_BookOk {W : World} {x0 : Book} {a0_0 : Option Addr} {c0_0 : Nat} {r : Bool} (h : spec_BookOk x0 = some r) (hv0_0 : SlView W x0.Rules a0_0 c0_0) :
    Gives0 Tryz.prog 139 #[vBook x0 (a0_0, c0_0)] W (.bool r) := by
 unfold spec_BookOk at h
 refine en Tryz.func139 Tryz.ntmps139 ?_
 refine qs (qr (oB 2 [(1, .p 0 0)] [] [(42, (eBook x0 (a0_0, c0_0)))] ?_))
 refine oe (nt (qs (qs (qr (oN 1 [(3, vi 0)] [1] ?_)))))
 refine oe (nt ?_)
 obtain ⟨r24, hL25, h26⟩ := bS h
 obtain ⟨k27, hk28, h26⟩ := brkS h26
 refine JC_cutP (τ := (Unit) × (Unit)) (fun y => k27 y.1 = some r) (fun y32 => [(1, .p 0 0)]) (fun y32 => [(42, (eBook x0 (a0_0, c0_0)))]) (fun y32 => []) ?_ (fun y32 h33p => ?_)
 · refine qb (lp Unit hL25 (fun s21 y22 => [(3, vi s21), (1, .p 0 0)]) (fun s21 y22 => [(42, (eBook x0 (a0_0, c0_0)))]) (fun s21 y22 => []) () [3, 1] [] 1 (fun s21 y22 t23 h29 hd30 => ?_))
   refine qs (qs (qr (oN 5 [(11, vb (decide (s21 < (x0.Rules.length : Int))))] [3, 1] ?_)))
   refine oe (nt (cC h29 (fun h35 => ?_) (fun h36 => ?_)))
   · refine qk (nt (qs (qb (qs (qr (oN 3 [(16, vi s21), (15, .v (.slice a0_0 x0.Rules.length c0_0))] [3, 1] ?_))))))
     obtain ⟨x37, hx38, h39⟩ := bS h35
     refine oi 7 (fun γ w hs => (hv0_0.kept hs.kept)) hx38 ?_
     obtain ⟨_, ⟨a40, c41, rfl, hv42⟩, hc43⟩ := SlView.at hv0_0 (idx_some hx38).2.2
     refine ol 188 0 (vRule x37 (a40, c41)) (fun γ w hs => ⟨(hv0_0.kept hs.kept).ne (idx_some hx38).2.2, hc43.kept hs.kept⟩) ?_
     refine oB 2 [(4, .p 1 0)] [3, 1] [(42, (eBook x0 (a0_0, c0_0))), (188, (eRule x37 (a40, c41)))] ?_
     refine oe (nt (qs (qs (qr (oN 1 [(19, .v (vRule x37 (a40, c41)))] [4, 3, 1] ?_)))))
     obtain ⟨t44, h45, h46⟩ := bS h39
     refine k0 (fun γ w hs => c_spec_RuleOk h45 (hv42.kept hs.kept)) ?_
     refine oN 1 [(21, vb (!t44))] [4, 3, 1] ?_
     refine oe (nt (cC h46 (fun h49 => ?_) (fun h50 => ?_)))
     · refine qs (qr (oN 1 [(2, vb false)] [] ?_))
       refine oe (nt (qe (nr (br (nr (nr ?_))))))
       have h51 := leafR hd30 h49 h26
       refine br (nr (nr ?_))
       obtain rfl := sI h51
       exact re [.bool false]
     refine qk (nt (qs (qr (oN 1 [(5, vi 0)] [4, 3, 1] ?_))))
     refine oe (nt ?_)
     obtain ⟨r55, hL56, h57⟩ := bS h50
     obtain ⟨k58, hk59, h57⟩ := brkS h57
     refine JC_cutP (τ := (Int × Int × Int × Int × Int × Int × Int) × (Unit)) (fun y => k58 y.1 = some t23) (fun y63 => [(3, vi y63.1.1), (1, .p 0 0)]) (fun y63 => [(42, (eBook x0 (a0_0, c0_0))), (188, (eRule (Rule.mk y63.1.2.1 y63.1.2.2.1 y63.1.2.2.2.1 y63.1.2.2.2.2.1 y63.1.2.2.2.2.2.1 y63.1.2.2.2.2.2.2 x37.Nodes) (a40, c41)))]) (fun y63 => []) ?_ (fun y63 h64p => ?_)
     · refine qb (lp Unit hL56 (fun s52 y53 => [(5, vi s52), (4, .p 1 0), (3, vi s21), (1, .p 0 0)]) (fun s52 y53 => [(42, (eBook x0 (a0_0, c0_0))), (188, (eRule x37 (a40, c41)))]) (fun s52 y53 => []) () [5, 4, 3, 1] [] 2 (fun s52 y53 t54 h60 hd61 => ?_))
       refine qs (qs (qr (oN 3 [(24, vb (decide (s52 < s21)))] [5, 4, 3, 1] ?_)))
       refine oe (nt (cC h60 (fun h66 => ?_) (fun h67 => ?_)))
       · refine qk (nt (qs (qb (qs (qr (oN 3 [(29, vi s52), (28, .v (.slice a0_0 x0.Rules.length c0_0))] [5, 4, 3, 1] ?_))))))
         obtain ⟨x68, hx69, h70⟩ := bS h66
         refine oi 7 (fun γ w hs => (hv0_0.kept hs.kept)) hx69 ?_
         obtain ⟨_, ⟨a71, c72, rfl, hv73⟩, hc74⟩ := SlView.at hv0_0 (idx_some hx69).2.2
         refine ol 188 0 (vRule x68 (a71, c72)) (fun γ w hs => ⟨(hv0_0.kept hs.kept).ne (idx_some hx69).2.2, hc74.kept hs.kept⟩) ?_
         refine oB 2 [(6, .p 2 0)] [5, 4, 3, 1] [(42, (eBook x0 (a0_0, c0_0))), (188, (eRule x37 (a40, c41))), (188, (eRule x68 (a71, c72)))] ?_
         refine oe (nt (qs ?_))
         obtain ⟨p75, hE76, h77⟩ := bS h70
         refine JC_cut (τ := Unit) (fun _ => [(1, .p 0 0), (3, vi s21), (4, .p 1 0), (5, vi s52), (55, vb p75)]) (fun _ => [(42, (eBook x0 (a0_0, c0_0))), (188, (eRule x37 (a40, c41))), (188, (eRule x68 (a71, c72)))]) (fun _ => []) ?_ (fun _ => ?_)
         · refine qr (oN 6 [(37, vb (x68.Name == x37.Name))] [6, 5, 4, 3, 1] ?_)
           refine oS 37 hE76 (fun h79 => ?_) (fun h80 => ?_)
           · refine oN 7 [(44, vb (x68.Rank == x37.Rank))] [6, 5, 4, 3, 1] ?_
             refine oS 44 h79 (fun h82 => ?_) (fun h83 => ?_)
             · refine oN 8 [(52, vi x37.To), (50, vi x37.From), (48, vi x68.To), (46, vi x68.From)] [44, 5, 4, 3, 1] ?_
               obtain ⟨t84, h85, h86⟩ := bS h82
               refine k0 (fun γ w hs => c_spec_MonthsIn h85) ?_
               refine oN 2 [(55, vb (decide (t84 > 0)))] [5, 4, 3, 1] ?_
               refine oe ?_
               obtain rfl := sI h86
               exact mt () [1, 3, 4, 5, 55] [] 3
             refine oN 11 [(55, vb false)] [5, 4, 3, 1] ?_
             refine oe ?_
             obtain rfl := sI h83
             exact mt () [1, 3, 4, 5, 55] [] 3
           refine oN 18 [(55, vb false)] [5, 4, 3, 1] ?_
           refine oe ?_
           obtain rfl := sI h80
           exact mt () [1, 3, 4, 5, 55] [] 3
         refine nt (cC h77 (fun h89 => ?_) (fun h90 => ?_))
         · refine qs (qr (oN 1 [(2, vb false)] [] ?_))
           refine oe (nt (qe (br (nr (nr ?_)))))
           have h91 := leafR hd61 h89 h57
           refine br (nr (br (nr (nr ?_))))
           have h92 := leafR hd30 h91 h26
           refine br (nr (nr ?_))
           obtain rfl := sI h92
           exact re [.bool false]
         refine qk (bn (nt (qr (oN 3 [(5, vi (w64 (s52 + 1)))] [1, 3, 4] ?_))))
         exact oe (ct h90 () [5, 4, 3, 1] [] 2)
       refine qx (nx (nx (bh ?_)))
       have h93 := leafB hd61 h67 h57
       exact mp ((s21, x37.Name, x37.From, x37.To, x37.Joined, x37.Rank, x37.Mode), ()) h93 [3, 1] [] 2
     have h64 := (congrFun hk59 _).symm.trans h64p
     refine bn (nt (qr (oN 3 [(3, vi (w64 (y63.1.1 + 1)))] [1] ?_)))
     exact oe (ct h64 () [3, 1] [] 1)
   refine qx (nx (nx (bh ?_)))
   have h94 := leafB hd30 h36 h26
   exact mp ((), ()) h94 [1] [] 1
 have h33 := (congrFun hk28 _).symm.trans h33p
 refine nt (qs (qr (oN 5 [(2, vb (decide ((x0.Rules.length : Int) ≤ 20)))] [] ?_)))
 refine oe (nt (qe ?_))
 obtain rfl := sI h33
 exact re [.bool (decide ((x0.Rules.length : Int) ≤ 20))]

theorem c_spec_MonthOk {W : World} {x0 : Int} {r : Bool} (h : spec_MonthOk x0 = some r)  :
    Gives0 Tryz.prog 89 #[.int .i64 x0] W (.bool r) := by
 unfold spec_MonthOk at h
 refine en Tryz.func89 Tryz.ntmps89 ?_
 refine qs (qr (oN 1 [] [0] ?_))
 refine oe (nt (qs (qr (oN 1 [(3, vi x0)] [] ?_))))
 obtain ⟨t21, h22, h23⟩ := bS h
 refine k0 (fun γ w hs => c_spec_l01In h22) ?_
 refine oN 1 [(2, vb t21)] [] ?_
 refine oe (nt (qe ?_))
 obtain rfl := sI h23
 exact re [.bool t21]

theorem c_spec_FactOk {W : World} {x0 : Fact} {r : Bool} (h : spec_FactOk x0 = some r)  :
    Gives0 Tryz.prog 168 #[vFact x0] W (.bool r) := by
 unfold spec_FactOk at h
 refine en Tryz.func168 Tryz.ntmps168 ?_
 refine qs (qr (oB 2 [(1, .p 0 0)] [] [(84, (eFact x0))] ?_))
 refine oe (nt (qs ?_))
 obtain ⟨p21, hE22, h23⟩ := bS h
 refine JC_cut (τ := Unit) (fun _ => [(2, vb p21)]) (fun _ => [(84, (eFact x0))]) (fun _ => []) ?_ (fun _ => ?_)
 · refine qr (oN 2 [(4, vi x0.Key)] [1] ?_)
   obtain ⟨t24, h25, h26⟩ := bS hE22
   refine k0 (fun γ w hs => c_spec_l01In h25) ?_
   refine oN 1 [(6, vb t24)] [1] ?_
   refine oS 6 h26 (fun h29 => ?_) (fun h30 => ?_)
   · refine oN 5 [(11, vb (decide (x0.From ≥ 0)))] [1] ?_
     refine oS 11 h29 (fun h32 => ?_) (fun h33 => ?_)
     · refine oN 7 [(18, vb (decide (x0.From < x0.To)))] [1] ?_
       refine oS 18 h32 (fun h35 => ?_) (fun h36 => ?_)
       · refine oN 5 [(23, vb (decide (x0.To ≤ 3600)))] [1] ?_
         refine oS 23 h35 (fun h38 => ?_) (fun h39 => ?_)
         · refine oN 2 [(25, vi x0.Known)] [23, 1] ?_
           obtain ⟨t40, h41, h42⟩ := bS h38
           refine k0 (fun γ w hs => c_spec_MonthOk h41) ?_
           refine oN 2 [(28, vb t40)] [1] ?_
           refine oS 28 h42 (fun h45 => ?_) (fun h46 => ?_)
           · refine oN 2 [(30, vi x0.Value)] [28] ?_
             obtain ⟨t47, h48, h49⟩ := bS h45
             refine k0 (fun γ w hs => c_spec_l01In h48) ?_
             refine oN 2 [(2, vb t47)] [] ?_
             refine oe ?_
             obtain rfl := sI h49
             exact mt () [2] [] 1
           refine oN 5 [(2, vb false)] [] ?_
           refine oe ?_
           obtain rfl := sI h46
           exact mt () [2] [] 1
         refine oN 10 [(2, vb false)] [] ?_
         refine oe ?_
         obtain rfl := sI h39
         exact mt () [2] [] 1
       refine oN 15 [(2, vb false)] [] ?_
       refine oe ?_
       obtain rfl := sI h36
       exact mt () [2] [] 1
     refine oN 22 [(2, vb false)] [] ?_
     refine oe ?_
     obtain rfl := sI h33
     exact mt () [2] [] 1
   refine oN 27 [(2, vb false)] [] ?_
   refine oe ?_
   obtain rfl := sI h30
   exact mt () [2] [] 1
 refine nt (qe ?_)
 obtain rfl := sI h23
 exact re [.bool p21]

theorem c_spec_StoreOk {W : World} {x0 : Store} {a0_0 : Option Addr} {c0_0 : Nat} {r : Bool} (h : spec_StoreOk x0 = some r) (hv0_0 : SlView W x0.Facts a0_0 c0_0) :
    Gives0 Tryz.prog 131 #[vStore x0 (a0_0, c0_0)] W (.bool r) := by
 unfold spec_StoreOk at h
 refine en Tryz.func131 Tryz.ntmps131 ?_
 refine qs (qr (oB 2 [(1, .p 0 0)] [] [(45, (eStore x0 (a0_0, c0_0)))] ?_))
 refine oe (nt (qs (qs (qr (oN 1 [(3, vi 0)] [1] ?_)))))
 refine oe (nt ?_)
 obtain ⟨r24, hL25, h26⟩ := bS h
 obtain ⟨k27, hk28, h26⟩ := brkS h26
 refine JC_cutP (τ := (Unit) × (Unit)) (fun y => k27 y.1 = some r) (fun y32 => [(1, .p 0 0)]) (fun y32 => [(45, (eStore x0 (a0_0, c0_0)))]) (fun y32 => []) ?_ (fun y32 h33p => ?_)
 · refine qb (lp Unit hL25 (fun s21 y22 => [(3, vi s21), (1, .p 0 0)]) (fun s21 y22 => [(45, (eStore x0 (a0_0, c0_0)))]) (fun s21 y22 => []) () [3, 1] [] 1 (fun s21 y22 t23 h29 hd30 => ?_))
   refine qs (qs (qr (oN 5 [(8, vb (decide (s21 < (x0.Facts.length : Int))))] [3, 1] ?_)))
   refine oe (nt (cC h29 (fun h35 => ?_) (fun h36 => ?_)))
   · refine qk (nt (qs (qb (qs ?_))))
     obtain ⟨p37, hE38, h39⟩ := bS h35
     refine JC_cut (τ := Unit) (fun _ => [(1, .p 0 0), (3, vi s21), (37, vb p37)]) (fun _ => [(45, (eStore x0 (a0_0, c0_0)))]) (fun _ => []) ?_ (fun _ => ?_)
     · refine JC_quiet (by kernel_rfl) (by kernel_rfl) ?_
       refine qN 3 [(13, vi s21), (12, .v (.slice a0_0 x0.Facts.length c0_0))] [3, 1] ?_
       obtain ⟨x40, hx41, h42⟩ := bS hE38
       refine qi 5 (fun γ w hs => (hv0_0.kept hs.kept)) hx41 ?_
       refine ql 84 0 (vFact x40) (fun γ w hs => (hv0_0.kept hs.kept).flatq hx41) ?_
       obtain ⟨t43, h44, h45⟩ := bS h42
       refine q0 (fun γ w hs => c_spec_FactOk h44) ?_
       refine qN 2 [(18, vb (!t43))] [3, 1] ?_
       refine qS 18 h45 (fun h48 => ?_) (fun h49 => ?_)
       · refine qN 19 [(37, vb true)] [3, 1] ?_
         refine qz ?_
         obtain rfl := sI h48
         exact mt () [1, 3, 37] [] 1
       refine qN 3 [(21, vb (decide (s21 > 0)))] [18, 3, 1] ?_
       refine qS 21 h49 (fun h51 => ?_) (fun h52 => ?_)
       · refine qN 4 [(25, vi (w64 (s21 - 1))), (23, .v (.slice a0_0 x0.Facts.length c0_0))] [21, 18, 3, 1] ?_
         obtain ⟨x53, hx54, h55⟩ := bS h51
         refine qi 5 (fun γ w hs => (hv0_0.kept hs.kept)) hx54 ?_
         refine qN 1 [(27, .q a0_0 (Int.toNat (w64 (s21 - 1)) * 5 + 3))] [21, 18, 3, 1] ?_
         refine ql 3 3 (.int .i64 x53.Known) (fun γ w hs => (hv0_0.kept hs.kept).flatq hx54) ?_
         refine qN 3 [(31, vi s21), (30, .v (.slice a0_0 x0.Facts.length c0_0))] [28, 21, 18, 3, 1] ?_
         obtain ⟨x56, hx57, h58⟩ := bS h55
         refine qi 5 (fun γ w hs => (hv0_0.kept hs.kept)) hx57 ?_
         refine qN 1 [(33, .q a0_0 (Int.toNat s21 * 5 + 3))] [28, 21, 18, 3, 1] ?_
         refine ql 3 3 (.int .i64 x56.Known) (fun γ w hs => (hv0_0.kept hs.kept).flatq hx57) ?_
         refine qN 3 [(37, vb (decide (x53.Known > x56.Known)))] [3, 1] ?_
         refine qz ?_
         obtain rfl := sI h58
         exact mt () [1, 3, 37] [] 1
       refine qN 16 [(37, vb false)] [3, 1] ?_
       refine qz ?_
       obtain rfl := sI h52
       exact mt () [1, 3, 37] [] 1
     refine nt (cC h39 (fun h60 => ?_) (fun h61 => ?_))
     · refine qs (qr (oN 1 [(2, vb false)] [] ?_))
       refine oe (nt (qe (br (nr (nr ?_)))))
       have h62 := leafR hd30 h60 h26
       refine br (nr (nr ?_))
       obtain rfl := sI h62
       exact re [.bool false]
     refine qk (bn (nt (qr (oN 3 [(3, vi (w64 (s21 + 1)))] [1] ?_))))
     exact oe (ct h61 () [3, 1] [] 1)
   refine qx (nx (nx (bh ?_)))
   have h63 := leafB hd30 h36 h26
   exact mp ((), ()) h63 [1] [] 1
 have h33 := (congrFun hk28 _).symm.trans h33p
 refine nt (qs (qr (oN 5 [(2, vb (decide ((x0.Facts.length : Int) ≤ 200)))] [] ?_)))
 refine oe (nt (qe ?_))
 obtain rfl := sI h33
 exact re [.bool (decide ((x0.Facts.length : Int) ≤ 200))]

theorem c_spec_SeriesOk {W : World} {x0 : Series} {a0_0 : Option Addr} {c0_0 : Nat} {r : Bool} (h : spec_SeriesOk x0 = some r) (hv0_0 : SlView W x0.Points a0_0 c0_0) :
    Gives0 Tryz.prog 135 #[vSeries x0 (a0_0, c0_0)] W (.bool r) := by
 unfold spec_SeriesOk at h
 refine en Tryz.func135 Tryz.ntmps135 ?_
 refine qs (qr (oB 2 [(1, .p 0 0)] [] [(48, (eSeries x0 (a0_0, c0_0)))] ?_))
 refine oe (nt (qs (qs (qr (oN 1 [(3, vi 0)] [1] ?_)))))
 refine oe (nt ?_)
 obtain ⟨r24, hL25, h26⟩ := bS h
 obtain ⟨k27, hk28, h26⟩ := brkS h26
 refine JC_cutP (τ := (Unit) × (Unit)) (fun y => k27 y.1 = some r) (fun y32 => [(1, .p 0 0)]) (fun y32 => [(48, (eSeries x0 (a0_0, c0_0)))]) (fun y32 => []) ?_ (fun y32 h33p => ?_)
 · refine qb (lp Unit hL25 (fun s21 y22 => [(3, vi s21), (1, .p 0 0)]) (fun s21 y22 => [(48, (eSeries x0 (a0_0, c0_0)))]) (fun s21 y22 => []) () [3, 1] [] 1 (fun s21 y22 t23 h29 hd30 => ?_))
   refine qs (qs (qr (oN 5 [(9, vb (decide (s21 < (x0.Points.length : Int))))] [3, 1] ?_)))
   refine oe (nt (cC h29 (fun h35 => ?_) (fun h36 => ?_)))
   · refine qk (nt (qs (qb (qs (qr (oN 3 [(14, vi s21), (13, .v (.slice a0_0 x0.Points.length c0_0))] [3, 1] ?_))))))
     obtain ⟨x37, hx38, h39⟩ := bS h35
     refine oi 3 (fun γ w hs => (hv0_0.kept hs.kept)) hx38 ?_
     refine ol 85 0 (vPoint x37) (fun γ w hs => (hv0_0.kept hs.kept).flatq hx38) ?_
     refine oB 2 [(4, .p 1 0)] [3, 1] [(48, (eSeries x0 (a0_0, c0_0))), (85, (ePoint x37))] ?_
     refine oe (nt (qs ?_))
     obtain ⟨p40, hE41, h42⟩ := bS h39
     refine JC_cut (τ := Unit) (fun _ => [(1, .p 0 0), (3, vi s21), (55, vb p40)]) (fun _ => [(48, (eSeries x0 (a0_0, c0_0))), (85, (ePoint x37))]) (fun _ => []) ?_ (fun _ => ?_)
     · refine JC_quiet (by kernel_rfl) (by kernel_rfl) ?_
       refine qN 2 [(18, vi x37.Month)] [4, 3, 1] ?_
       obtain ⟨t43, h44, h45⟩ := bS hE41
       refine q0 (fun γ w hs => c_spec_MonthOk h44) ?_
       refine qN 2 [(21, vb (!t43))] [4, 3, 1] ?_
       refine qS 21 h45 (fun h48 => ?_) (fun h49 => ?_)
       · refine qN 34 [(55, vb true)] [3, 1] ?_
         refine qz ?_
         obtain rfl := sI h48
         exact mt () [1, 3, 55] [] 2
       refine qN 2 [(23, vi x37.Known)] [21, 4, 3, 1] ?_
       obtain ⟨t50, h51, h52⟩ := bS h49
       refine q0 (fun γ w hs => c_spec_MonthOk h51) ?_
       refine qN 3 [(27, vb (!t50))] [4, 3, 1] ?_
       refine qS 27 h52 (fun h55 => ?_) (fun h56 => ?_)
       · refine qN 28 [(55, vb true)] [3, 1] ?_
         refine qz ?_
         obtain rfl := sI h55
         exact mt () [1, 3, 55] [] 2
       refine qN 7 [(34, vb (decide (x37.Known < x37.Month)))] [4, 3, 1] ?_
       refine qS 34 h56 (fun h58 => ?_) (fun h59 => ?_)
       · refine qN 21 [(55, vb true)] [3, 1] ?_
         refine qz ?_
         obtain rfl := sI h58
         exact mt () [1, 3, 55] [] 2
       refine qN 2 [(36, vi x37.Value)] [34, 4, 3, 1] ?_
       obtain ⟨t60, h61, h62⟩ := bS h59
       refine q0 (fun γ w hs => c_spec_l01In h61) ?_
       refine qN 3 [(40, vb (!t60))] [4, 3, 1] ?_
       refine qS 40 h62 (fun h65 => ?_) (fun h66 => ?_)
       · refine qN 15 [(55, vb true)] [3, 1] ?_
         refine qz ?_
         obtain rfl := sI h65
         exact mt () [1, 3, 55] [] 2
       refine qN 3 [(43, vb (decide (s21 > 0)))] [40, 4, 3, 1] ?_
       refine qS 43 h66 (fun h68 => ?_) (fun h69 => ?_)
       · refine qN 4 [(47, vi (w64 (s21 - 1))), (45, .v (.slice a0_0 x0.Points.length c0_0))] [43, 40, 4, 3, 1] ?_
         obtain ⟨x70, hx71, h72⟩ := bS h68
         refine qi 3 (fun γ w hs => (hv0_0.kept hs.kept)) hx71 ?_
         refine qN 1 [(49, .q a0_0 (Int.toNat (w64 (s21 - 1)) * 3 + 1))] [43, 40, 4, 3, 1] ?_
         refine ql 3 1 (.int .i64 x70.Known) (fun γ w hs => (hv0_0.kept hs.kept).flatq hx71) ?_
         refine qN 5 [(55, vb (decide (x70.Known > x37.Known)))] [3, 1] ?_
         refine qz ?_
         obtain rfl := sI h72
         exact mt () [1, 3, 55] [] 2
       refine qN 12 [(55, vb false)] [3, 1] ?_
       refine qz ?_
       obtain rfl := sI h69
       exact mt () [1, 3, 55] [] 2
     refine nt (cC h42 (fun h74 => ?_) (fun h75 => ?_))
     · refine qs (qr (oN 1 [(2, vb false)] [] ?_))
       refine oe (nt (qe (br (nr (nr ?_)))))
       have h76 := leafR hd30 h74 h26
       refine br (nr (nr ?_))
       obtain rfl := sI h76
       exact re [.bool false]
     refine qk (bn (nt (qr (oN 3 [(3, vi (w64 (s21 + 1)))] [1] ?_))))
     exact oe (ct h75 () [3, 1] [] 1)
   refine qx (nx (nx (bh ?_)))
   have h77 := leafB hd30 h36 h26
   exact mp ((), ()) h77 [1] [] 1
 have h33 := (congrFun hk28 _).symm.trans h33p
 refine nt (qs (qr (oN 5 [(2, vb (decide ((x0.Points.length : Int) ≤ 200)))] [] ?_)))
 refine oe (nt (qe ?_))
 obtain rfl := sI h33
 exact re [.bool (decide ((x0.Points.length : Int) ≤ 200))]

theorem c_spec_SpellsOk {W : World} {x0 : List Spell} {a0_0 : Option Addr} {c0_0 : Nat} {r : Bool} (h : spec_SpellsOk x0 = some r) (hv0_0 : SlView W x0 a0_0 c0_0) :
    Gives0 Tryz.prog 172 #[.slice a0_0 x0.length c0_0] W (.bool r) := by
 unfold spec_SpellsOk at h
 refine en Tryz.func172 Tryz.ntmps172 ?_
 refine qs (qr (oN 1 [] [0] ?_))
 refine oe (nt (qs (qs (qr (oN 1 [(3, vi 0)] [0] ?_)))))
 refine oe (nt ?_)
 obtain ⟨r24, hL25, h26⟩ := bS h
 obtain ⟨k27, hk28, h26⟩ := brkS h26
 refine JC_cutP (τ := (Unit) × (Unit)) (fun y => k27 y.1 = some r) (fun y32 => [(0, .v (.slice a0_0 x0.length c0_0))]) (fun y32 => []) (fun y32 => []) ?_ (fun y32 h33p => ?_)
 · refine qb (lp Unit hL25 (fun s21 y22 => [(3, vi s21), (0, .v (.slice a0_0 x0.length c0_0))]) (fun s21 y22 => []) (fun s21 y22 => []) () [3, 0] [] 0 (fun s21 y22 t23 h29 hd30 => ?_))
   refine qs (qs (qr (oN 4 [(8, vb (decide (s21 < (x0.length : Int))))] [3, 0] ?_)))
   refine oe (nt (cC h29 (fun h35 => ?_) (fun h36 => ?_)))
   · refine qk (nt (qs (qb (qs (qr (oN 2 [(12, vi s21), (11, .v (.slice a0_0 x0.length c0_0))] [3, 0] ?_))))))
     obtain ⟨x37, hx38, h39⟩ := bS h35
     refine oi 4 (fun γ w hs => (hv0_0.kept hs.kept)) hx38 ?_
     refine ol 191 0 (vSpell x37) (fun γ w hs => (hv0_0.kept hs.kept).flatq hx38) ?_
     refine oB 2 [(4, .p 0 0)] [3, 0] [(191, (eSpell x37))] ?_
     refine oe (nt (qs ?_))
     obtain ⟨p40, hE41, h42⟩ := bS h39
     refine JC_cut (τ := Unit) (fun _ => [(0, .v (.slice a0_0 x0.length c0_0)), (3, vi s21), (50, vb p40)]) (fun _ => [(191, (eSpell x37))]) (fun _ => []) ?_ (fun _ => ?_)
     · refine JC_quiet (by kernel_rfl) (by kernel_rfl) ?_
       refine qN 4 [(18, vb (decide (x37.From < 0)))] [4, 3, 0] ?_
       refine qS 18 hE41 (fun h44 => ?_) (fun h45 => ?_)
       · refine qN 32 [(50, vb true)] [3, 0] ?_
         refine qz ?_
         obtain rfl := sI h44
         exact mt () [0, 3, 50] [] 1
       refine qN 7 [(25, vb (decide (x37.From ≥ x37.To)))] [4, 3, 0] ?_
       refine qS 25 h45 (fun h47 => ?_) (fun h48 => ?_)
       · refine qN 25 [(50, vb true)] [3, 0] ?_
         refine qz ?_
         obtain rfl := sI h47
         exact mt () [0, 3, 50] [] 1
       refine qN 5 [(30, vb (decide (x37.To > 3600)))] [4, 3, 0] ?_
       refine qS 30 h48 (fun h50 => ?_) (fun h51 => ?_)
       · refine qN 20 [(50, vb true)] [3, 0] ?_
         refine qz ?_
         obtain rfl := sI h50
         exact mt () [0, 3, 50] [] 1
       refine qN 2 [(32, vi x37.Percent)] [30, 4, 3, 0] ?_
       obtain ⟨t52, h53, h54⟩ := bS h51
       refine q0 (fun γ w hs => c_spec_l01In h53) ?_
       refine qN 3 [(36, vb (!t52))] [4, 3, 0] ?_
       refine qS 36 h54 (fun h57 => ?_) (fun h58 => ?_)
       · refine qN 14 [(50, vb true)] [3, 0] ?_
         refine qz ?_
         obtain rfl := sI h57
         exact mt () [0, 3, 50] [] 1
       refine qN 3 [(39, vb (decide (s21 > 0)))] [36, 4, 3, 0] ?_
       refine qS 39 h58 (fun h60 => ?_) (fun h61 => ?_)
       · refine qN 3 [(42, vi (w64 (s21 - 1))), (40, .v (.slice a0_0 x0.length c0_0))] [39, 36, 4, 3, 0] ?_
         obtain ⟨x62, hx63, h64⟩ := bS h60
         refine qi 4 (fun γ w hs => (hv0_0.kept hs.kept)) hx63 ?_
         refine qN 1 [(44, .q a0_0 (Int.toNat (w64 (s21 - 1)) * 4 + 1))] [39, 36, 4, 3, 0] ?_
         refine ql 3 1 (.int .i64 x62.To) (fun γ w hs => (hv0_0.kept hs.kept).flatq hx63) ?_
         refine qN 5 [(50, vb (decide (x62.To > x37.From)))] [3, 0] ?_
         refine qz ?_
         obtain rfl := sI h64
         exact mt () [0, 3, 50] [] 1
       refine qN 11 [(50, vb false)] [3, 0] ?_
       refine qz ?_
       obtain rfl := sI h61
       exact mt () [0, 3, 50] [] 1
     refine nt (cC h42 (fun h66 => ?_) (fun h67 => ?_))
     · refine qs (qr (oN 1 [(2, vb false)] [] ?_))
       refine oe (nt (qe (br (nr (nr ?_)))))
       have h68 := leafR hd30 h66 h26
       refine br (nr (nr ?_))
       obtain rfl := sI h68
       exact re [.bool false]
     refine qk (bn (nt (qr (oN 3 [(3, vi (w64 (s21 + 1)))] [0] ?_))))
     exact oe (ct h67 () [3, 0] [] 0)
   refine qx (nx (nx (bh ?_)))
   have h69 := leafB hd30 h36 h26
   exact mp ((), ()) h69 [0] [] 0
 have h33 := (congrFun hk28 _).symm.trans h33p
 refine nt (qs (qr (oN 4 [(2, vb (decide ((x0.length : Int) ≤ 30)))] [] ?_)))
 refine oe (nt (qe ?_))
 obtain rfl := sI h33
 exact re [.bool (decide ((x0.length : Int) ≤ 30))]

theorem c_spec_StatusAfter {W : World} {x0 : Int} {x1 : Int} {r : Int × Bool} (h : spec_StatusAfter x0 x1 = some r)  :
    Gives0 Tryz.prog 193 #[.int .i64 x0, .int .i64 x1] W (.tuple #[.int .i64 r.1, .bool r.2]) := by
 unfold spec_StatusAfter at h
 refine en Tryz.func193 Tryz.ntmps193 ?_
 refine qs (qr (oN 2 [] [0, 1] ?_))
 refine oe (nt (qs (qb (qs ?_))))
 obtain ⟨p21, hE22, h23⟩ := bS h
 refine JC_cut (τ := Unit) (fun _ => [(0, vi x0), (1, vi x1), (6, vb p21)]) (fun _ => []) (fun _ => []) ?_ (fun _ => ?_)
 · refine qr (oN 3 [(9, vb (x1 == 1))] [0, 1] ?_)
   refine oS 9 hE22 (fun h25 => ?_) (fun h26 => ?_)
   · refine oN 3 [(12, vb (x0 == 0))] [9, 0, 1] ?_
     refine oS 12 h25 (fun h28 => ?_) (fun h29 => ?_)
     · refine oN 5 [(6, vb true)] [0, 1] ?_
       refine oe ?_
       obtain rfl := sI h28
       exact mt () [0, 1, 6] [] 0
     refine oN 5 [(6, vb (x0 == 2))] [0, 1] ?_
     refine oe ?_
     obtain rfl := sI h29
     exact mt () [0, 1, 6] [] 0
   refine oN 8 [(6, vb false)] [0, 1] ?_
   refine oe ?_
   obtain rfl := sI h26
   exact mt () [0, 1, 6] [] 0
 refine nt (cC h23 (fun h65 => ?_) (fun h66 => ?_))
 · refine qs (qr (oN 2 [(5, vb true), (4, vi 1)] [] ?_))
   refine oe (nt (qe (br (nr ?_))))
   obtain rfl := sI h65
   exact re [.int .i64 1, .bool true]
 refine qs ?_
 obtain ⟨p67, hE68, h69⟩ := bS h66
 refine JC_cut (τ := Unit) (fun _ => [(0, vi x0), (1, vi x1), (17, vb p67)]) (fun _ => []) (fun _ => []) ?_ (fun _ => ?_)
 · refine qr (oN 3 [(20, vb (x1 == 2))] [0, 1] ?_)
   refine oS 20 hE68 (fun h71 => ?_) (fun h72 => ?_)
   · refine oN 4 [(17, vb (x0 == 1))] [0, 1] ?_
     refine oe ?_
     obtain rfl := sI h71
     exact mt () [0, 1, 17] [] 0
   refine oN 4 [(17, vb false)] [0, 1] ?_
   refine oe ?_
   obtain rfl := sI h72
   exact mt () [0, 1, 17] [] 0
 refine nt (cC h69 (fun h99 => ?_) (fun h100 => ?_))
 · refine qs (qr (oN 2 [(5, vb true), (4, vi 2)] [] ?_))
   refine oe (nt (qe (br (nr ?_))))
   obtain rfl := sI h99
   exact re [.int .i64 2, .bool true]
 refine qs ?_
 obtain ⟨p101, hE102, h103⟩ := bS h100
 refine JC_cut (τ := Unit) (fun _ => [(0, vi x0), (1, vi x1), (24, vb p101)]) (fun _ => []) (fun _ => []) ?_ (fun _ => ?_)
 · refine qr (oN 3 [(27, vb (x1 == 3))] [0, 1] ?_)
   refine oS 27 hE102 (fun h105 => ?_) (fun h106 => ?_)
   · refine oN 3 [(30, vb (x0 == 1))] [27, 0, 1] ?_
     refine oS 30 h105 (fun h108 => ?_) (fun h109 => ?_)
     · refine oN 5 [(24, vb true)] [0, 1] ?_
       refine oe ?_
       obtain rfl := sI h108
       exact mt () [0, 1, 24] [] 0
     refine oN 5 [(24, vb (x0 == 2))] [0, 1] ?_
     refine oe ?_
     obtain rfl := sI h109
     exact mt () [0, 1, 24] [] 0
   refine oN 8 [(24, vb false)] [0, 1] ?_
   refine oe ?_
   obtain rfl := sI h106
   exact mt () [0, 1, 24] [] 0
 refine nt (cC h103 (fun h124 => ?_) (fun h125 => ?_))
 · refine qs (qr (oN 2 [(5, vb true), (4, vi 3)] [] ?_))
   refine oe (nt (qe (br (nr ?_))))
   obtain rfl := sI h124
   exact re [.int .i64 3, .bool true]
 refine qs ?_
 obtain ⟨p126, hE127, h128⟩ := bS h125
 refine JC_cut (τ := Unit) (fun _ => [(0, vi x0), (35, vb p126)]) (fun _ => []) (fun _ => []) ?_ (fun _ => ?_)
 · refine qr (oN 3 [(38, vb (x1 == 4))] [0] ?_)
   refine oS 38 hE127 (fun h130 => ?_) (fun h131 => ?_)
   · refine oN 1 [(39, vi x0)] [38, 0] ?_
     obtain ⟨t132, h133, h134⟩ := bS h130
     refine k0 (fun γ w hs => c_spec_l01In h133) ?_
     refine oN 2 [(35, vb t132)] [0] ?_
     refine oe ?_
     obtain rfl := sI h134
     exact mt () [0, 35] [] 0
   refine oN 4 [(35, vb false)] [0] ?_
   refine oe ?_
   obtain rfl := sI h131
   exact mt () [0, 35] [] 0
 refine nt (cC h128 (fun h137 => ?_) (fun h138 => ?_))
 · refine qs (qr (oN 2 [(5, vb true), (4, vi 4)] [] ?_))
   refine oe (nt (qe (br (nr ?_))))
   obtain rfl := sI h137
   exact re [.int .i64 4, .bool true]
 refine qk (bn (nt (qs (qr (oN 3 [(5, vb false), (4, vi x0)] [] ?_)))))
 refine oe (nt (qe ?_))
 obtain rfl := sI h138
 exact re [.int .i64 x0, .bool false]

theorem c_spec_EventsOk {W : World} {x0 : List Event} {a0_0 : Option Addr} {c0_0 : Nat} {r : Bool} (h : spec_EventsOk x0 = some r) (hv0_0 : SlView W x0 a0_0 c0_0) :
    Gives0 Tryz.prog 173 #[.slice a0_0 x0.length c0_0] W (.bool r) := by
 unfold spec_EventsOk at h
 refine en Tryz.func173 Tryz.ntmps173 ?_
 refine qs (qr (oN 1 [] [0] ?_))
 refine oe (nt (qs (qr (oN 1 [(3, vi 0)] [0] ?_))))
 refine oe (nt (qs (qs (qr (oN 1 [(4, vi 0)] [3, 0] ?_)))))
 refine oe (nt ?_)
 obtain ⟨r24, hL25, h26⟩ := bS h
 obtain ⟨k27, hk28, h26⟩ := brkS h26
 refine JC_cutP (τ := (Unit) × (Unit)) (fun y => k27 y.1 = some r) (fun y32 => [(0, .v (.slice a0_0 x0.length c0_0))]) (fun y32 => []) (fun y32 => []) ?_ (fun y32 h33p => ?_)
 · refine qb (lp Unit hL25 (fun s21 y22 => [(4, vi s21.1), (3, vi s21.2), (0, .v (.slice a0_0 x0.length c0_0))]) (fun s21 y22 => []) (fun s21 y22 => []) () [4, 3, 0] [] 0 (fun s21 y22 t23 h29 hd30 => ?_))
   refine qs (qs (qr (oN 4 [(10, vb (decide (s21.1 < (x0.length : Int))))] [4, 3, 0] ?_)))
   refine oe (nt (cC h29 (fun h35 => ?_) (fun h36 => ?_)))
   · refine qk (nt (qs (qb (qs (qr (oN 3 [(16, vi s21.1), (15, .v (.slice a0_0 x0.length c0_0)), (14, vi s21.2)] [4, 0] ?_))))))
     obtain ⟨x37, hx38, h39⟩ := bS h35
     refine oi 2 (fun γ w hs => (hv0_0.kept hs.kept)) hx38 ?_
     refine oN 1 [(18, .q a0_0 (Int.toNat s21.1 * 2))] [14, 4, 0] ?_
     refine ol 3 0 (.int .i64 x37.Kind) (fun γ w hs => (hv0_0.kept hs.kept).flatq hx38) ?_
     obtain ⟨t40, h41, h42⟩ := bS h39
     refine k0 (fun γ w hs => c_spec_StatusAfter h41) ?_
     refine oN 5 [(6, vb t40.2), (5, vi t40.1)] [4, 0] ?_
     refine oe (nt (qs (qs ?_)))
     obtain ⟨p44, hE45, h46⟩ := bS h42
     refine JC_cut (τ := Unit) (fun _ => [(0, .v (.slice a0_0 x0.length c0_0)), (4, vi s21.1), (5, vi t40.1), (51, vb p44)]) (fun _ => []) (fun _ => []) ?_ (fun _ => ?_)
     · refine JC_quiet (by kernel_rfl) (by kernel_rfl) ?_
       refine qN 3 [(25, vb (!t40.2))] [5, 4, 0] ?_
       refine qS 25 hE45 (fun h48 => ?_) (fun h49 => ?_)
       · refine qN 26 [(51, vb true)] [5, 4, 0] ?_
         refine qz ?_
         obtain rfl := sI h48
         exact mt () [0, 4, 5, 51] [] 0
       refine qN 2 [(27, vi s21.1), (26, .v (.slice a0_0 x0.length c0_0))] [25, 5, 4, 0] ?_
       obtain ⟨x50, hx51, h52⟩ := bS h49
       refine qi 2 (fun γ w hs => (hv0_0.kept hs.kept)) hx51 ?_
       refine qN 1 [(29, .q a0_0 (Int.toNat s21.1 * 2 + 1))] [25, 5, 4, 0] ?_
       refine ql 3 1 (.int .i64 x50.Month) (fun γ w hs => (hv0_0.kept hs.kept).flatq hx51) ?_
       obtain ⟨t53, h54, h55⟩ := bS h52
       refine q0 (fun γ w hs => c_spec_MonthOk h54) ?_
       refine qN 3 [(34, vb (!t53))] [5, 4, 0] ?_
       refine qS 34 h55 (fun h58 => ?_) (fun h59 => ?_)
       · refine qN 17 [(51, vb true)] [5, 4, 0] ?_
         refine qz ?_
         obtain rfl := sI h58
         exact mt () [0, 4, 5, 51] [] 0
       refine qN 3 [(37, vb (decide (s21.1 > 0)))] [34, 5, 4, 0] ?_
       refine qS 37 h59 (fun h61 => ?_) (fun h62 => ?_)
       · refine qN 3 [(40, vi (w64 (s21.1 - 1))), (38, .v (.slice a0_0 x0.length c0_0))] [37, 34, 5, 4, 0] ?_
         obtain ⟨x63, hx64, h65⟩ := bS h61
         refine qi 2 (fun γ w hs => (hv0_0.kept hs.kept)) hx64 ?_
         refine qN 1 [(42, .q a0_0 (Int.toNat (w64 (s21.1 - 1)) * 2 + 1))] [37, 34, 5, 4, 0] ?_
         refine ql 3 1 (.int .i64 x63.Month) (fun γ w hs => (hv0_0.kept hs.kept).flatq hx64) ?_
         refine qN 2 [(45, vi s21.1), (44, .v (.slice a0_0 x0.length c0_0))] [43, 37, 34, 5, 4, 0] ?_
         obtain ⟨x66, hx67, h68⟩ := bS h65
         refine qi 2 (fun γ w hs => (hv0_0.kept hs.kept)) hx67 ?_
         refine qN 1 [(47, .q a0_0 (Int.toNat s21.1 * 2 + 1))] [43, 37, 34, 5, 4, 0] ?_
         refine ql 3 1 (.int .i64 x66.Month) (fun γ w hs => (hv0_0.kept hs.kept).flatq hx67) ?_
         refine qN 3 [(51, vb (decide (x63.Month ≥ x66.Month)))] [5, 4, 0] ?_
         refine qz ?_
         obtain rfl := sI h68
         exact mt () [0, 4, 5, 51] [] 0
       refine qN 14 [(51, vb false)] [5, 4, 0] ?_
       refine qz ?_
       obtain rfl := sI h62
       exact mt () [0, 4, 5, 51] [] 0
     refine nt (cC h46 (fun h70 => ?_) (fun h71 => ?_))
     · refine qs (qr (oN 1 [(2, vb false)] [] ?_))
       refine oe (nt (qe (nr (br (nr (nr ?_))))))
       have h72 := leafR hd30 h70 h26
       refine br (nr (nr ?_))
       obtain rfl := sI h72
       exact re [.bool false]
     refine qk (nt (qr (oN 2 [(3, vi t40.1)] [0, 4] ?_)))
     refine oe (bn (nt (qr (oN 3 [(4, vi (w64 (s21.1 + 1)))] [3, 0] ?_))))
     exact oe (ct h71 () [4, 3, 0] [] 0)
   refine qx (nx (nx (bh ?_)))
   have h73 := leafB hd30 h36 h26
   exact mp ((), ()) h73 [0] [] 0
 have h33 := (congrFun hk28 _).symm.trans h33p
 refine nt (qs (qr (oN 4 [(2, vb (decide ((x0.length : Int) ≤ 30)))] [] ?_)))
 refine oe (nt (qe ?_))
 obtain rfl := sI h33
 exact re [.bool (decide ((x0.length : Int) ≤ 30))]

theorem c_spec_MemberOk {W : World} {x0 : Member} {b0 : AC × AC} {r : Bool} (h : spec_MemberOk x0 = some r) (hv0_0 : SlView W x0.Spells b0.1.1 b0.1.2) (hv0_1 : SlView W x0.Events b0.2.1 b0.2.2) :
    Gives0 Tryz.prog 140 #[vMember x0 b0] W (.bool r) := by
 unfold spec_MemberOk at h
 refine en Tryz.func140 Tryz.ntmps140 ?_
 refine qs (qr (oB 2 [(1, .p 0 0)] [] [(52, (eMember x0 b0))] ?_))
 refine oe (nt (qs ?_))
 obtain ⟨p21, hE22, h23⟩ := bS h
 refine JC_cut (τ := Unit) (fun _ => [(2, vb p21)]) (fun _ => [(52, (eMember x0 b0))]) (fun _ => []) ?_ (fun _ => ?_)
 · refine qr (oN 2 [(4, vi x0.Birth)] [1] ?_)
   obtain ⟨t24, h25, h26⟩ := bS hE22
   refine k0 (fun γ w hs => c_spec_MonthOk h25) ?_
   refine oN 1 [(6, vb t24)] [1] ?_
   refine oS 6 h26 (fun h29 => ?_) (fun h30 => ?_)
   · refine oN 2 [(8, vi x0.Joined)] [6, 1] ?_
     obtain ⟨t31, h32, h33⟩ := bS h29
     refine k0 (fun γ w hs => c_spec_MonthOk h32) ?_
     refine oN 2 [(11, vb t31)] [1] ?_
     refine oS 11 h33 (fun h36 => ?_) (fun h37 => ?_)
     · refine oN 7 [(18, vb (decide (x0.Birth ≤ x0.Joined)))] [1] ?_
       refine oS 18 h36 (fun h39 => ?_) (fun h40 => ?_)
       · refine oN 2 [(20, .v (.slice b0.1.1 x0.Spells.length b0.1.2))] [18, 1] ?_
         obtain ⟨t41, h42, h43⟩ := bS h39
         refine k0 (fun γ w hs => c_spec_SpellsOk h42 (hv0_0.kept hs.kept)) ?_
         refine oN 2 [(23, vb t41)] [1] ?_
         refine oS 23 h43 (fun h46 => ?_) (fun h47 => ?_)
         · refine oN 2 [(25, .v (.slice b0.2.1 x0.Events.length b0.2.2))] [23] ?_
           obtain ⟨t48, h49, h50⟩ := bS h46
           refine k0 (fun γ w hs => c_spec_EventsOk h49 (hv0_1.kept hs.kept)) ?_
           refine oN 2 [(2, vb t48)] [] ?_
           refine oe ?_
           obtain rfl := sI h50
           exact mt () [2] [] 1
         refine oN 5 [(2, vb false)] [] ?_
         refine oe ?_
         obtain rfl := sI h47
         exact mt () [2] [] 1
       refine oN 10 [(2, vb false)] [] ?_
       refine oe ?_
       obtain rfl := sI h40
       exact mt () [2] [] 1
     refine oN 17 [(2, vb false)] [] ?_
     refine oe ?_
     obtain rfl := sI h37
     exact mt () [2] [] 1
   refine oN 22 [(2, vb false)] [] ?_
   refine oe ?_
   obtain rfl := sI h30
   exact mt () [2] [] 1
 refine nt (qe ?_)
 obtain rfl := sI h23
 exact re [.bool p21]

theorem c_spec_CaseOk {W : World} {x0 : Case} {b0 : AC × AC × AC × AC × AC} {r : Bool} (h : spec_CaseOk x0 = some r) (hv0_0 : SlView W x0.Book.Rules b0.1.1 b0.1.2) (hv0_1 : SlView W x0.Store.Facts b0.2.1.1 b0.2.1.2) (hv0_2 : SlView W x0.Series.Points b0.2.2.1.1 b0.2.2.1.2) (hv0_3 : SlView W x0.Member.Spells b0.2.2.2.1.1 b0.2.2.2.1.2) (hv0_4 : SlView W x0.Member.Events b0.2.2.2.2.1 b0.2.2.2.2.2) :
    Gives0 Tryz.prog 88 #[vCase x0 b0] W (.bool r) := by
 unfold spec_CaseOk at h
 refine en Tryz.func88 Tryz.ntmps88 ?_
 refine qs (qr (oB 2 [(1, .p 0 0)] [] [(54, (eCase x0 b0))] ?_))
 refine oe (nt (qs ?_))
 obtain ⟨p21, hE22, h23⟩ := bS h
 refine JC_cut (τ := Unit) (fun _ => [(2, vb p21)]) (fun _ => [(54, (eCase x0 b0))]) (fun _ => []) ?_ (fun _ => ?_)
 · refine qr (oN 2 [(4, .v (vBook x0.Book b0.1))] [1] ?_)
   obtain ⟨t24, h25, h26⟩ := bS hE22
   refine k0 (fun γ w hs => c_spec_BookOk h25 (hv0_0.kept hs.kept)) ?_
   refine oN 1 [(6, vb t24)] [1] ?_
   refine oS 6 h26 (fun h29 => ?_) (fun h30 => ?_)
   · refine oN 2 [(8, .v (vStore x0.Store b0.2.1))] [6, 1] ?_
     obtain ⟨t31, h32, h33⟩ := bS h29
     refine k0 (fun γ w hs => c_spec_StoreOk h32 (hv0_1.kept hs.kept)) ?_
     refine oN 2 [(11, vb t31)] [1] ?_
     refine oS 11 h33 (fun h36 => ?_) (fun h37 => ?_)
     · refine oN 2 [(13, .v (vSeries x0.Series b0.2.2.1))] [11, 1] ?_
       obtain ⟨t38, h39, h40⟩ := bS h36
       refine k0 (fun γ w hs => c_spec_SeriesOk h39 (hv0_2.kept hs.kept)) ?_
       refine oN 2 [(16, vb t38)] [1] ?_
       refine oS 16 h40 (fun h43 => ?_) (fun h44 => ?_)
       · refine oN 2 [(18, .v (vMember x0.Member b0.2.2.2))] [16] ?_
         obtain ⟨t45, h46, h47⟩ := bS h43
         refine k0 (fun γ w hs => c_spec_MemberOk (b0 := b0.2.2.2) h46 (hv0_3.kept hs.kept) (hv0_4.kept hs.kept)) ?_
         refine oN 2 [(2, vb t45)] [] ?_
         refine oe ?_
         obtain rfl := sI h47
         exact mt () [2] [] 1
       refine oN 5 [(2, vb false)] [] ?_
       refine oe ?_
       obtain rfl := sI h44
       exact mt () [2] [] 1
     refine oN 10 [(2, vb false)] [] ?_
     refine oe ?_
     obtain rfl := sI h37
     exact mt () [2] [] 1
   refine oN 15 [(2, vb false)] [] ?_
   refine oe ?_
   obtain rfl := sI h30
   exact mt () [2] [] 1
 refine nt (qe ?_)
 obtain rfl := sI h23
 exact re [.bool p21]

theorem c_spec_OfficeOk {W : World} {x0 : Office} {b0 : AC × AC × AC × AC × AC × AC} {r : Bool} (h : spec_OfficeOk x0 = some r) (hv0_0 : SlView W x0.Case.Book.Rules b0.1.1 b0.1.2) (hv0_1 : SlView W x0.Case.Store.Facts b0.2.1.1 b0.2.1.2) (hv0_2 : SlView W x0.Case.Series.Points b0.2.2.1.1 b0.2.2.1.2) (hv0_3 : SlView W x0.Case.Member.Spells b0.2.2.2.1.1 b0.2.2.2.1.2) (hv0_4 : SlView W x0.Case.Member.Events b0.2.2.2.2.1.1 b0.2.2.2.2.1.2) (hv0_5 : SlView W x0.Paid b0.2.2.2.2.2.1 b0.2.2.2.2.2.2) :
    Gives0 Tryz.prog 74 #[vOffice x0 b0] W (.bool r) := by
 unfold spec_OfficeOk at h
 refine en Tryz.func74 Tryz.ntmps74 ?_
 refine qs (qr (oB 2 [(1, .p 0 0)] [] [(57, (eOffice x0 b0))] ?_))
 refine oe (nt (qs (qs (qr (oN 1 [(3, vi 0)] [1] ?_)))))
 refine oe (nt ?_)
 obtain ⟨r24, hL25, h26⟩ := bS h
 obtain ⟨k27, hk28, h26⟩ := brkS h26
 refine JC_cutP (τ := (Int × Int × Int) × (Unit)) (fun y => k27 y.1 = some r) (fun y32 => [(1, .p 0 0)]) (fun y32 => [(57, (eOffice (Office.mk (Case.mk x0.Case.Book x0.Case.Store x0.Case.Series (Member.mk y32.1.1 y32.1.2.1 x0.Case.Member.Spells x0.Case.Member.Events)) y32.1.2.2 x0.Paid) b0))]) (fun y32 => []) ?_ (fun y32 h33p => ?_)
 · refine qb (lp Unit hL25 (fun s21 y22 => [(3, vi s21), (1, .p 0 0)]) (fun s21 y22 => [(57, (eOffice x0 b0))]) (fun s21 y22 => []) () [3, 1] [] 1 (fun s21 y22 t23 h29 hd30 => ?_))
   refine qs (qs (qr (oN 5 [(8, vb (decide (s21 < (x0.Paid.length : Int))))] [3, 1] ?_)))
   refine oe (nt (cC h29 (fun h59 => ?_) (fun h60 => ?_)))
   · refine qk (nt (qs (qb (qs (qr (oN 3 [(13, vi s21), (12, .v (.slice b0.2.2.2.2.2.1 x0.Paid.length b0.2.2.2.2.2.2))] [3, 1] ?_))))))
     obtain ⟨x61, hx62, h63⟩ := bS h59
     refine oi 1 (fun γ w hs => (hv0_5.kept hs.kept)) hx62 ?_
     refine ol 3 0 (.int .i64 x61) (fun γ w hs => (hv0_5.kept hs.kept).flatq hx62) ?_
     obtain ⟨t64, h65, h66⟩ := bS h63
     refine k0 (fun γ w hs => c_spec_l01In h65) ?_
     refine oN 1 [(17, vb (!t64))] [3, 1] ?_
     refine oe (nt (cC h66 (fun h69 => ?_) (fun h70 => ?_)))
     · refine qs (qr (oN 1 [(2, vb false)] [] ?_))
       refine oe (nt (qe (br (nr (nr ?_)))))
       have h71 := leafR hd30 h69 h26
       refine br (nr (nr ?_))
       obtain rfl := sI h71
       exact re [.bool false]
     refine qk (bn (nt (qr (oN 3 [(3, vi (w64 (s21 + 1)))] [1] ?_))))
     exact oe (ct h70 () [3, 1] [] 1)
   refine qx (nx (nx (bh ?_)))
   have h72 := leafB hd30 h60 h26
   exact mp ((x0.Case.Member.Birth, x0.Case.Member.Joined, x0.Start), ()) h72 [1] [] 1
 have h33 := (congrFun hk28 _).symm.trans h33p
 refine nt (qs ?_)
 obtain ⟨p34, hE35, h36⟩ := bS h33
 refine JC_cut (τ := Unit) (fun _ => [(2, vb p34)]) (fun _ => [(57, (eOffice (Office.mk (Case.mk x0.Case.Book x0.Case.Store x0.Case.Series (Member.mk y32.1.1 y32.1.2.1 x0.Case.Member.Spells x0.Case.Member.Events)) y32.1.2.2 x0.Paid) b0))]) (fun _ => []) ?_ (fun _ => ?_)
 · refine qr (oN 2 [(19, .v (vCase (Case.mk x0.Case.Book x0.Case.Store x0.Case.Series (Member.mk y32.1.1 y32.1.2.1 x0.Case.Member.Spells x0.Case.Member.Events)) (b0.1, b0.2.1, b0.2.2.1, b0.2.2.2.1, b0.2.2.2.2.1)))] [1] ?_)
   obtain ⟨t37, h38, h39⟩ := bS hE35
   refine k0 (fun γ w hs => c_spec_CaseOk (b0 := (b0.1, b0.2.1, b0.2.2.1, b0.2.2.2.1, b0.2.2.2.2.1)) h38 (hv0_0.kept hs.kept) (hv0_1.kept hs.kept) (hv0_2.kept hs.kept) (hv0_3.kept hs.kept) (hv0_4.kept hs.kept)) ?_
   refine oN 1 [(21, vb t37)] [1] ?_
   refine oS 21 h39 (fun h42 => ?_) (fun h43 => ?_)
   · refine oN 2 [(23, vi y32.1.2.2)] [21, 1] ?_
     obtain ⟨t44, h45, h46⟩ := bS h42
     refine k0 (fun γ w hs => c_spec_MonthOk h45) ?_
     refine oN 2 [(26, vb t44)] [1] ?_
     refine oS 26 h46 (fun h49 => ?_) (fun h50 => ?_)
     · refine oN 6 [(32, vb (decide ((x0.Paid.length : Int) ≤ 240)))] [1] ?_
       refine oS 32 h49 (fun h52 => ?_) (fun h53 => ?_)
       · refine oN 6 [(38, vi (w64 (y32.1.2.2 + (x0.Paid.length : Int))))] [32] ?_
         obtain ⟨t54, h55, h56⟩ := bS h52
         refine k0 (fun γ w hs => c_spec_MonthOk h55) ?_
         refine oN 2 [(2, vb t54)] [] ?_
         refine oe ?_
         obtain rfl := sI h56
         exact mt () [2] [] 1
       refine oN 9 [(2, vb false)] [] ?_
       refine oe ?_
       obtain rfl := sI h53
       exact mt () [2] [] 1
     refine oN 15 [(2, vb false)] [] ?_
     refine oe ?_
     obtain rfl := sI h50
     exact mt () [2] [] 1
   refine oN 20 [(2, vb false)] [] ?_
   refine oe ?_
   obtain rfl := sI h43
   exact mt () [2] [] 1
 refine nt (qe ?_)
 obtain rfl := sI h36
 exact re [.bool p34]

theorem c_spec_YearTotals {W : World} {x0 : Office} {b0 : AC × AC × AC × AC × AC × AC} {r : (List Int)} (h : spec_YearTotals x0 = some r) (hv0_0 : SlView W x0.Case.Book.Rules b0.1.1 b0.1.2) (hv0_1 : SlView W x0.Case.Store.Facts b0.2.1.1 b0.2.1.2) (hv0_2 : SlView W x0.Case.Series.Points b0.2.2.1.1 b0.2.2.1.2) (hv0_3 : SlView W x0.Case.Member.Spells b0.2.2.2.1.1 b0.2.2.2.1.2) (hv0_4 : SlView W x0.Case.Member.Events b0.2.2.2.2.1.1 b0.2.2.2.2.1.2) (hv0_5 : SlView W x0.Paid b0.2.2.2.2.2.1 b0.2.2.2.2.2.2) :
    Gives Tryz.prog 46 #[vOffice x0 b0] W (fun y : AC => .slice y.1 r.length y.2) (fun y => [SlRes 3 r y.1 y.2]) := by
 unfold spec_YearTotals at h
 refine en Tryz.func46 Tryz.ntmps46 ?_
 refine qs (qr (oB 2 [(1, .p 0 0)] [] [(57, (eOffice x0 b0))] ?_))
 refine oe (nt (qs (qr (ob [] [] 3 0 [] ([] : List Int) (own_flat (by kernel_rfl)) (fun y21 => ?_)))))
 refine oN 1 [(3, .v (.slice y21.1 ([] : List Int).length y21.2))] [1] ?_
 refine oe (nt (qs (qs (qr (oN 1 [(4, vi 0)] [3, 1] ?_)))))
 refine oe (nt ?_)
 obtain ⟨r26, hL27, h28⟩ := bS h
 obtain ⟨k29, hk30, h28⟩ := brkS h28
 refine JC_cutP (τ := ((List Int) × Int × Int × Int) × (AC)) (fun y => k29 y.1 = some r) (fun y34 => [(3, .v (.slice y34.2.1 y34.1.1.length y34.2.2))]) (fun y34 => [(57, (eOffice (Office.mk (Case.mk x0.Case.Book x0.Case.Store x0.Case.Series (Member.mk y34.1.2.1 y34.1.2.2.1 x0.Case.Member.Spells x0.Case.Member.Events)) y34.1.2.2.2 x0.Paid) b0))]) (fun y34 => [SlRes 3 y34.1.1 y34.2.1 y34.2.2]) ?_ (fun y34 h35p => ?_)
 · refine qb (lp AC hL27 (fun s23 y24 => [(4, vi s23.1), (3, .v (.slice y24.1 s23.2.1.length y24.2)), (1, .p 0 0)]) (fun s23 y24 => [(57, (eOffice (Office.mk (Case.mk x0.Case.Book x0.Case.Store x0.Case.Series (Member.mk s23.2.2.1 s23.2.2.2.1 x0.Case.Member.Spells x0.Case.Member.Events)) s23.2.2.2.2 x0.Paid) b0))]) (fun s23 y24 => [SlRes 3 s23.2.1 y24.1 y24.2]) (y21.1, y21.2) [4, 3, 1] [0] 1 (fun s23 y24 t25 h31 hd32 => ?_))
   refine qs (qs ?_)
   obtain ⟨p36, hE37, h38⟩ := bS h31
   refine JC_cut (τ := Unit) (fun _ => [(1, .p 0 0), (3, .v (.slice y24.1 s23.2.1.length y24.2)), (4, vi s23.1), (15, vb p36)]) (fun _ => [(57, (eOffice (Office.mk (Case.mk x0.Case.Book x0.Case.Store x0.Case.Series (Member.mk s23.2.2.1 s23.2.2.2.1 x0.Case.Member.Spells x0.Case.Member.Events)) s23.2.2.2.2 x0.Paid) b0))]) (fun _ => [SlRes 3 s23.2.1 y24.1 y24.2]) ?_ (fun _ => ?_)
   · refine qr (oN 6 [(12, vb (decide (s23.1 < (x0.Paid.length : Int))))] [4, 3, 1] ?_)
     refine oS 12 hE37 (fun h40 => ?_) (fun h41 => ?_)
     · refine oN 1 [(13, .v (vOffice (Office.mk (Case.mk x0.Case.Book x0.Case.Store x0.Case.Series (Member.mk s23.2.2.1 s23.2.2.2.1 x0.Case.Member.Spells x0.Case.Member.Events)) s23.2.2.2.2 x0.Paid) b0))] [12, 4, 3, 1] ?_
       obtain ⟨t42, h43, h44⟩ := bS h40
       refine k0 (fun γ w hs => c_spec_OfficeOk (b0 := b0) h43 (hv0_0.kept hs.kept) (hv0_1.kept hs.kept) (hv0_2.kept hs.kept) (hv0_3.kept hs.kept) (hv0_4.kept hs.kept) (hv0_5.kept hs.kept)) ?_
       refine oN 1 [(15, vb t42)] [4, 3, 1] ?_
       refine oe ?_
       obtain rfl := sI h44
       exact mt () [1, 3, 4, 15] [0] 1
     refine oN 3 [(15, vb false)] [4, 3, 1] ?_
     refine oe ?_
     obtain rfl := sI h41
     exact mt () [1, 3, 4, 15] [0] 1
   refine nt (cC h38 (fun h47 => ?_) (fun h48 => ?_))
   · refine qk (nt (qs (qb (qs (qr (oN 10 [(5, vi (w64 ((w64 (Int.tdiv (w64 (s23.2.2.2.2 + s23.1)) 12)) - (w64 (Int.tdiv s23.2.2.2.2 12)))))] [1, 3, 4] ?_))))))
     refine oe (nt (qs ?_))
     obtain ⟨r52, hL53, h54⟩ := bS h47
     obtain ⟨k55, hk56, h54⟩ := brkS h54
     refine JC_cutP (τ := (Int × (List Int) × Int × Int × Int × Int) × (AC)) (fun y => k55 y.1 = some t25) (fun y60 => [(5, vi y60.1.1), (1, .p 0 0), (3, .v (.slice y60.2.1 y60.1.2.1.length y60.2.2)), (4, vi y60.1.2.2.1)]) (fun y60 => [(57, (eOffice (Office.mk (Case.mk x0.Case.Book x0.Case.Store x0.Case.Series (Member.mk y60.1.2.2.2.1 y60.1.2.2.2.2.1 x0.Case.Member.Spells x0.Case.Member.Events)) y60.1.2.2.2.2.2 x0.Paid) b0))]) (fun y60 => [SlRes 3 y60.1.2.1 y60.2.1 y60.2.2]) ?_ (fun y60 h61p => ?_)
     · refine qb (lp AC hL53 (fun s49 y50 => [(5, vi (w64 ((w64 (Int.tdiv (w64 (s23.2.2.2.2 + s23.1)) 12)) - (w64 (Int.tdiv s23.2.2.2.2 12))))), (1, .p 0 0), (3, .v (.slice y50.1 s49.length y50.2)), (4, vi s23.1)]) (fun s49 y50 => [(57, (eOffice (Office.mk (Case.mk x0.Case.Book x0.Case.Store x0.Case.Series (Member.mk s23.2.2.1 s23.2.2.2.1 x0.Case.Member.Spells x0.Case.Member.Events)) s23.2.2.2.2 x0.Paid) b0))]) (fun s49 y50 => [SlRes 3 s49 y50.1 y50.2]) (y24.1, y24.2) [5, 1, 3, 4] [0] 1 (fun s49 y50 t51 h57 hd58 => ?_))
       refine qs (qs (qr (oN 4 [(30, vb (decide ((s49.length : Int) ≤ (w64 ((w64 (Int.tdiv (w64 (s23.2.2.2.2 + s23.1)) 12)) - (w64 (Int.tdiv s23.2.2.2.2 12)))))))] [5, 1, 3, 4] ?_)))
       refine oe (nt (cC h57 (fun h77 => ?_) (fun h78 => ?_)))
       · refine qk (nt (qb (qr (oN 1 [(31, .v (.slice y50.1 s49.length y50.2))] [5, 1, 4] ?_))))
         refine ob [] [SlRes 3 s49 y50.1 y50.2] 3 1 [.int .i64 0] ([0] : List Int) (own_flat (by kernel_rfl)) (fun y79 => ?_)
         refine or_ [1, 0] ?_
         obtain ⟨l82, hm83, h84⟩ := bS h77
         refine oa 55 y79.2 Tryz.t3 (.int .i64 0) (fun γ w hs => ⟨y79.2, (hs.view 1 rfl)⟩) hm83 (fun y81 => ?_)
         refine oN 1 [(3, .v (.slice y81.1 l82.length y81.2))] [5, 1, 4] ?_
         exact oe (bn (ct h84 (y81.1, y81.2) [5, 1, 3, 4] [0] 1))
       refine qx (nx (nx (bh ?_)))
       have h85 := leafB hd58 h78 h54
       exact mp ((w64 ((w64 (Int.tdiv (w64 (s23.2.2.2.2 + s23.1)) 12)) - (w64 (Int.tdiv s23.2.2.2.2 12))), s49, s23.1, s23.2.2.1, s23.2.2.2.1, s23.2.2.2.2), (y50.1, y50.2)) h85 [5, 1, 3, 4] [0] 1
     have h61 := (congrFun hk56 _).symm.trans h61p
     refine nt ?_
     obtain ⟨x62, hx63, h64⟩ := bS h61
     obtain ⟨x65, hx66, h67⟩ := bS h64
     obtain ⟨x68, hx69, h70⟩ := bS h67
     obtain ⟨l71, hm72, h73⟩ := bS h70
     replace hm72 := (sI hm72).symm
     have hl74 := len_set hm72
     refine JC_cut (τ := Unit) (fun _ => [(1, .p 0 0), (3, .v (.slice y60.2.1 l71.length y60.2.2)), (4, vi y60.1.2.2.1)]) (fun _ => [(57, (eOffice (Office.mk (Case.mk x0.Case.Book x0.Case.Store x0.Case.Series (Member.mk y60.1.2.2.2.1 y60.1.2.2.2.2.1 x0.Case.Member.Spells x0.Case.Member.Events)) y60.1.2.2.2.2.2 x0.Paid) b0))]) (fun _ => [SlRes 3 l71 y60.2.1 y60.2.2]) ?_ (fun _ => ?_)
     · refine jw [5, 1, 3, 4] [0] ?_
       refine JC_heldN (ks := [0]) (Rk := []) 14 (by kernel_rfl) (by kernel_rfl) ?_
       refine htq 0 (.v (.slice y60.2.1 y60.1.2.1.length y60.2.2)) [] ?_
       refine htq 1 (vi y60.1.1) [] ?_
       refine htq 2 (.v (.slice y60.2.1 y60.1.2.1.length y60.2.2)) [] ?_
       refine htq 3 (vi y60.1.1) [] ?_
       refine hk [37, 36, 35, 34, 1, 3, 4] ?_
       refine htq 6 (.p 0 8) [] ?_
       refine htq 7 (.v (.slice b0.2.2.2.2.2.1 x0.Paid.length b0.2.2.2.2.2.2)) [] ?_
       refine hk [41, 37, 36, 35, 34, 1, 3, 4] ?_
       refine htq 8 (vi y60.1.2.2.1) [] ?_
       refine ht 9 (.q b0.2.2.2.2.2.1 (Int.toNat y60.1.2.2.1 * 1)) [] (index_held (d := b0.2.2.2.2.2.1) (m := x0.Paid.length) (j := y60.1.2.2.1) (s := 1) (by kernel_rfl) (fun γ0 w hs => (hv0_5.kept hs.kept)) rfl hx66) ?_
       refine hk [43, 37, 36, 35, 34, 1, 3, 4] ?_
       refine ht 10 (vi x65) [] (loadq_held (t := 3) (d := b0.2.2.2.2.2.1) (Int.toNat y60.1.2.2.1 * 1) 0 (by kernel_rfl) (cs := [.int .i64 x65]) (v := .int .i64 x65) (fun γ0 w hs => (hv0_5.kept hs.kept).flatq hx66) (by kernel_rfl)) ?_
       refine hk [44, 37, 36, 35, 34, 1, 3, 4] ?_
       refine ha1 4 ?_
       refine hi (fun γ0 δ hm => ?_)
       refine JG_index (by kernel_rfl) (d := y60.2.1) (m := y60.1.2.1.length) (j := y60.1.1) (s := 1) (by kernel_rfl) (fun w hs => (hs.view 0 rfl)) rfl hx63 rfl ?_
       refine gn hm [38, 44, 35, 34, 1, 3, 4] [] ?_
       refine ha1 5 ?_
       refine hi (fun γ0 δ hm => ?_)
       refine JG_loadq (by kernel_rfl) (t := 3) (d := y60.2.1) (Int.toNat y60.1.1 * 1) 0 (by kernel_rfl) (cs := [.int .i64 x62]) (v := .int .i64 x62) (fun w hs => (hs.view 0 rfl).flatq hx63) (by kernel_rfl) rfl ?_
       refine gn hm [39, 44, 35, 34, 1, 3, 4] [] ?_
       refine htq 11 (vi (w64 (x62 + x65))) [] ?_
       refine hk [45, 35, 34, 1, 3, 4] ?_
       refine ha1 12 ?_
       refine hi (fun γ0 δ hm => ?_)
       refine JG_index (by kernel_rfl) (d := y60.2.1) (m := y60.1.2.1.length) (j := y60.1.1) (s := 1) (by kernel_rfl) (fun w hs => (hs.view 0 rfl)) rfl hx69 rfl ?_
       refine gn hm [46, 45, 1, 3, 4] [] ?_
       refine ha1 13 ?_
       refine hi (fun γ0 δ hm => ?_)
       refine JG_storeq (α := Int) (d := y60.2.1) (vs := [.int .i64 (w64 (x62 + x65))]) (j := y60.1.1) (x' := (w64 (x62 + x65))) (by kernel_rfl) 0 (by kernel_rfl) hx69 (Rc := []) (Rr := []) rfl (by kernel_rfl) (fun w c F Fs ho _ _ => own_flat_set (by kernel_rfl) ho) hm72 (sl' := [(46, .q y60.2.1 (Int.toNat y60.1.1 * 1)), (45, vi (w64 (x62 + x65))), (1, .p 0 0), (3, .v (.slice y60.2.1 y60.1.2.1.length y60.2.2)), (4, vi y60.1.2.2.1)]) (by kernel_rfl) ?_
       refine KG_eqE (sl' := [(46, .q y60.2.1 (Int.toNat y60.1.1 * 1)), (45, vi (w64 (x62 + x65))), (1, .p 0 0), (3, .v (.slice y60.2.1 l71.length y60.2.2)), (4, vi y60.1.2.2.1)]) (bx' := [(57, (eOffice (Office.mk (Case.mk x0.Case.Book x0.Case.Store x0.Case.Series (Member.mk y60.1.2.2.2.1 y60.1.2.2.2.2.1 x0.Case.Member.Spells x0.Case.Member.Events)) y60.1.2.2.2.2.2 x0.Paid) b0))]) (by simp only [hl74]) rfl ?_
       refine gn hm [1, 3, 4] [] ?_
       exact hd () [1, 3, 4] [0] 1
     refine bn (nt (qr (oN 3 [(4, vi (w64 (y60.1.2.2.1 + 1)))] [1, 3] ?_)))
     exact oe (ct h73 (y60.2.1, y60.2.2) [4, 3, 1] [0] 1)
   refine qx (nx (nx (bh ?_)))
   have h86 := leafB hd32 h48 h28
   exact mp ((s23.2.1, s23.2.2.1, s23.2.2.2.1, s23.2.2.2.2), (y24.1, y24.2)) h86 [3] [0] 1
 have h35 := (congrFun hk30 _).symm.trans h35p
 refine nt (qs (qr (oN 2 [(2, .v (.slice y34.2.1 y34.1.1.length y34.2.2))] [] ?_)))
 refine oe (nt (qe (rt [.slice y34.2.1 y34.1.1.length y34.2.2] (fun γ w hs => ?_))))
 rw [← sI h35]
 exact ⟨y34.2, rfl, hs.kept.toBelow, (hs.takeR (is := [0]) rfl).fresh⟩

theorem c_impl_within {W : World} {x0 : Int} {x1 : Int} {x2 : Int} {r : Bool} (h : impl_within x0 x1 x2 = some r)  :
    Gives0 Tryz.prog 129 #[.int .i64 x0, .int .i64 x1, .int .i64 x2] W (.bool r) := by
 unfold impl_within at h
 refine en Tryz.func129 Tryz.ntmps129 ?_
 refine qs (qr (oN 1 [] [0, 1, 2] ?_))
 refine oe (nt (qs ?_))
 obtain ⟨p21, hE22, h23⟩ := bS h
 refine JC_cut (τ := Unit) (fun _ => [(6, vb p21)]) (fun _ => []) (fun _ => []) ?_ (fun _ => ?_)
 · refine qr (oN 4 [(10, vb (decide (x1 ≤ x0)))] [0, 2] ?_)
   refine oS 10 hE22 (fun h25 => ?_) (fun h26 => ?_)
   · refine oN 5 [(6, vb (decide (x0 ≤ x2)))] [] ?_
     refine oe ?_
     obtain rfl := sI h25
     exact mt () [6] [] 0
   refine oN 5 [(6, vb false)] [] ?_
   refine oe ?_
   obtain rfl := sI h26
   exact mt () [6] [] 0
 refine nt (qe ?_)
 obtain rfl := sI h23
 exact re [.bool p21]

theorem c_impl_isSpan {W : World} {x0 : Int} {x1 : Int} {r : Bool} (h : impl_isSpan x0 x1 = some r)  :
    Gives0 Tryz.prog 211 #[.int .i64 x0, .int .i64 x1] W (.bool r) := by
 unfold impl_isSpan at h
 refine en Tryz.func211 Tryz.ntmps211 ?_
 refine qs (qr (oN 1 [] [0, 1] ?_))
 refine oe (nt (qs ?_))
 obtain ⟨p21, hE22, h23⟩ := bS h
 refine JC_cut (τ := Unit) (fun _ => [(4, vb p21)]) (fun _ => []) (fun _ => []) ?_ (fun _ => ?_)
 · refine qr (oN 3 [(7, vb (decide (0 ≤ x0)))] [0, 1] ?_)
   refine oS 7 hE22 (fun h25 => ?_) (fun h26 => ?_)
   · refine oN 5 [(12, vb (decide (x0 < x1)))] [1] ?_
     refine oS 12 h25 (fun h28 => ?_) (fun h29 => ?_)
     · refine oN 4 [(4, vb (decide (x1 ≤ 3600)))] [] ?_
       refine oe ?_
       obtain rfl := sI h28
       exact mt () [4] [] 0
     refine oN 4 [(4, vb false)] [] ?_
     refine oe ?_
     obtain rfl := sI h29
     exact mt () [4] [] 0
   refine oN 9 [(4, vb false)] [] ?_
   refine oe ?_
   obtain rfl := sI h26
   exact mt () [4] [] 0
 refine nt (qe ?_)
 obtain rfl := sI h23
 exact re [.bool p21]

theorem c_impl_gcd {W : World} {x0 : Int} {x1 : Int} {r : Int} (h : impl_gcd x0 x1 = some r)  :
    Gives0 Tryz.prog 220 #[.int .i64 x0, .int .i64 x1] W (.int .i64 r) := by
 unfold impl_gcd at h
 refine en Tryz.func220 Tryz.ntmps220 ?_
 refine qs (qr (oN 1 [] [0, 1] ?_))
 refine oe (nt (qs ?_))
 obtain ⟨r24, hL25, h26⟩ := bS h
 obtain ⟨k27, hk28, h26⟩ := brkS h26
 refine JC_cutP (τ := (Int) × (Unit)) (fun y => k27 y.1 = some r) (fun y32 => [(0, vi y32.1)]) (fun y32 => []) (fun y32 => []) ?_ (fun y32 h33p => ?_)
 · refine qb (lp Unit hL25 (fun s21 y22 => [(0, vi s21.1), (1, vi s21.2)]) (fun s21 y22 => []) (fun s21 y22 => []) () [0, 1] [] 0 (fun s21 y22 t23 h29 hd30 => ?_))
   refine qs (qs (qr (oN 2 [(6, vb (s21.2 != 0))] [0, 1] ?_)))
   refine oe (nt (cC h29 (fun h35 => ?_) (fun h36 => ?_)))
   · refine qk (nt (qb (JC_quiet (by kernel_rfl) (by kernel_rfl) ?_)))
     refine qN 3 [(9, vi s21.2), (8, vi s21.1), (7, vi s21.2)] [] ?_
     obtain ⟨u39, hz38, h37⟩ := bS h35
     refine JQ_div rfl (by kernel_rfl) (op := .rem) (k := .i64) (x := s21.1) (y := s21.2) (by kernel_rfl) (nz_some hz38) rfl ?_
     refine qN 2 [(1, vi (Int.tmod s21.1 s21.2)), (0, vi s21.2)] [] ?_
     exact qz (bn (ct h37 () [0, 1] [] 0))
   refine qx (nx (nx (bh ?_)))
   have h40 := leafB hd30 h36 h26
   exact mp (s21.1, ()) h40 [0] [] 0
 have h33 := (congrFun hk28 _).symm.trans h33p
 refine nt (qs (qr (oN 5 [(4, vi (imax y32.1 (w64 (0 - y32.1))))] [] ?_)))
 refine oe (nt (qe ?_))
 obtain rfl := sI h33
 exact re [.int .i64 (imax y32.1 (w64 (0 - y32.1)))]

theorem c_impl_FracOk {W : World} {x0 : Frac} {r : Bool} (h : impl_FracOk x0 = some r)  :
    Gives0 Tryz.prog 189 #[vFrac x0] W (.bool r) := by
 unfold impl_FracOk at h
 refine en Tryz.func189 Tryz.ntmps189 ?_
 refine qs (qr (oB 2 [(1, .p 0 0)] [] [(216, (eFrac x0))] ?_))
 refine oe (nt (qs ?_))
 obtain ⟨p21, hE22, h23⟩ := bS h
 refine JC_cut (τ := Unit) (fun _ => [(2, vb p21)]) (fun _ => [(216, (eFrac x0))]) (fun _ => []) ?_ (fun _ => ?_)
 · refine qr (oN 2 [(4, vi x0.Den)] [1] ?_)
   obtain ⟨t24, h25, h26⟩ := bS hE22
   refine k0 (fun γ w hs => c_impl_within h25) ?_
   refine oN 1 [(6, vb t24)] [1] ?_
   refine oS 6 h26 (fun h29 => ?_) (fun h30 => ?_)
   · refine oN 2 [(8, vi x0.Num)] [6, 1] ?_
     obtain ⟨t31, h32, h33⟩ := bS h29
     refine k0 (fun γ w hs => c_impl_within h32) ?_
     refine oN 2 [(11, vb t31)] [1] ?_
     refine oS 11 h33 (fun h36 => ?_) (fun h37 => ?_)
     · refine oN 4 [(15, vi x0.Den), (13, vi x0.Num)] [11] ?_
       obtain ⟨t38, h39, h40⟩ := bS h36
       refine k0 (fun γ w hs => c_impl_gcd h39) ?_
       refine oN 3 [(2, vb (t38 == 1))] [] ?_
       refine oe ?_
       obtain rfl := sI h40
       exact mt () [2] [] 1
     refine oN 8 [(2, vb false)] [] ?_
     refine oe ?_
     obtain rfl := sI h37
     exact mt () [2] [] 1
   refine oN 13 [(2, vb false)] [] ?_
   refine oe ?_
   obtain rfl := sI h30
   exact mt () [2] [] 1
 refine nt (qe ?_)
 obtain rfl := sI h23
 exact re [.bool p21]

theorem c_impl_NodeOk {W : World} {x0 : Node} {x1 : Int} {r : Bool} (h : impl_NodeOk x0 x1 = some r)  :
    Gives0 Tryz.prog 245 #[vNode x0, .int .i64 x1] W (.bool r) := by
 unfold impl_NodeOk at h
 refine en Tryz.func245 Tryz.ntmps245 ?_
 refine qs (qr (oB 2 [(2, .p 0 0)] [1] [(233, (eNode x0))] ?_))
 refine oe (nt (qs (qr (oB 5 [(5, .p 1 0)] [2, 1] [(233, (eNode x0)), (233, (eNode (Node.mk x0.Kind 0 0 0 (Frac.mk 0 0))))] ?_))))
 refine oe (nt (qs (qb (qs (qr (oN 4 [(9, vb (x0.Kind == 1))] [5, 2, 1] ?_))))))
 refine oe (nt (cC h (fun h52 => ?_) (fun h53 => ?_)))
 · refine qs (qr (oB 4 [] [5, 2] [(233, (eNode x0)), (233, (eNode (Node.mk x0.Kind 0 0 0 x0.Value)))] ?_))
   refine oe (nt (qs ?_))
   obtain ⟨p54, hE55, h56⟩ := bS h52
   refine JC_cut (τ := Unit) (fun _ => [(4, vb p54)]) (fun _ => [(233, (eNode x0)), (233, (eNode (Node.mk x0.Kind 0 0 0 x0.Value)))]) (fun _ => []) ?_ (fun _ => ?_)
   · refine qr (oN 4 [(19, vb ((x0.Kind == x0.Kind) && ((x0.A == 0) && ((x0.B == 0) && ((x0.C == 0) && (((x0.Value.Num == x0.Value.Num) && ((x0.Value.Den == x0.Value.Den) && true)) && true))))))] [2] ?_)
     refine oS 19 hE55 (fun h58 => ?_) (fun h59 => ?_)
     · refine oN 2 [(21, .v (vFrac x0.Value))] [19] ?_
       obtain ⟨t60, h61, h62⟩ := bS h58
       refine k0 (fun γ w hs => c_impl_FracOk h61) ?_
       refine oN 2 [(4, vb t60)] [] ?_
       refine oe ?_
       obtain rfl := sI h62
       exact mt () [4] [] 2
     refine oN 5 [(4, vb false)] [] ?_
     refine oe ?_
     obtain rfl := sI h59
     exact mt () [4] [] 2
   refine nt (qe (br (nr ?_)))
   obtain rfl := sI h56
   exact re [.bool p54]
 refine qs (qr (oN 4 [(24, vb (x0.Kind == 2))] [5, 2, 1] ?_))
 refine oe (nt (cC h53 (fun h82 => ?_) (fun h83 => ?_)))
 · refine qs (qr (oB 4 [] [5, 2] [(233, (eNode x0)), (233, (eNode (Node.mk x0.Kind x0.A 0 0 (Frac.mk 0 0))))] ?_))
   refine oe (nt (qs ?_))
   obtain ⟨p84, hE85, h86⟩ := bS h82
   refine JC_cut (τ := Unit) (fun _ => [(4, vb p84)]) (fun _ => [(233, (eNode x0)), (233, (eNode (Node.mk x0.Kind x0.A 0 0 (Frac.mk 0 0))))]) (fun _ => []) ?_ (fun _ => ?_)
   · refine qr (oN 4 [(34, vb ((x0.Kind == x0.Kind) && ((x0.A == x0.A) && ((x0.B == 0) && ((x0.C == 0) && (((x0.Value.Num == 0) && ((x0.Value.Den == 0) && true)) && true))))))] [2] ?_)
     refine oS 34 hE85 (fun h88 => ?_) (fun h89 => ?_)
     · refine oN 2 [(36, vi x0.A)] [34] ?_
       obtain ⟨t90, h91, h92⟩ := bS h88
       refine k0 (fun γ w hs => c_impl_within h91) ?_
       refine oN 2 [(4, vb t90)] [] ?_
       refine oe ?_
       obtain rfl := sI h92
       exact mt () [4] [] 2
     refine oN 5 [(4, vb false)] [] ?_
     refine oe ?_
     obtain rfl := sI h89
     exact mt () [4] [] 2
   refine nt (qe (br (nr ?_)))
   obtain rfl := sI h86
   exact re [.bool p84]
 refine qs (qr (oN 2 [(41, vi x0.Kind)] [5, 2, 1] ?_))
 obtain ⟨t94, h95, h96⟩ := bS h83
 refine k0 (fun γ w hs => c_impl_within h95) ?_
 refine oN 2 [(39, vb (!t94))] [5, 2, 1] ?_
 refine oe (nt (cC h96 (fun h99 => ?_) (fun h100 => ?_)))
 · refine qs (qr (oN 1 [(4, vb false)] [] ?_))
   refine oe (nt (qe (br (nr ?_))))
   obtain rfl := sI h99
   exact re [.bool false]
 refine qk (bn (nt (qs (JC_cut (τ := Unit) (fun _ => [(5, .p 1 0), (2, .p 0 0), (1, vi x1)]) (fun _ => [(233, (eNode x0)), (233, (eNode (Node.mk x0.Kind x0.A x0.B 0 (Frac.mk 0 0))))]) (fun _ => []) ?_ (fun _ => ?_)))))
 · refine jw [5, 2, 1] [] ?_
   refine JC_heldN (ks := [0]) (Rk := []) 8 (by kernel_rfl) (by kernel_rfl) ?_
   refine htq 0 (.p 0 1) [] ?_
   refine htq 1 (vi x0.A) [] ?_
   refine hk [45, 5, 2, 1] ?_
   refine htq 2 (.p 0 2) [] ?_
   refine htq 3 (vi x0.B) [] ?_
   refine hk [47, 45, 5, 2, 1] ?_
   refine htq 4 (.p 1 1) [] ?_
   refine ha1 5 ?_
   refine hi (fun γ0 δ hm => ?_)
   refine gs [(48, .p 1 1), (47, vi x0.B), (45, vi x0.A), (5, .p 1 0), (2, .p 0 0), (1, vi x1)] [(233, (eNode x0)), (233, (eNode (Node.mk x0.Kind x0.A 0 0 (Frac.mk 0 0))))] (fun δ2 => ?_)
   refine gd hm [47, 5, 2, 1] [] ?_
   refine htq 6 (.p 1 2) [] ?_
   refine ha1 7 ?_
   refine hi (fun γ0 δ hm => ?_)
   refine gs [(49, .p 1 2), (47, vi x0.B), (5, .p 1 0), (2, .p 0 0), (1, vi x1)] [(233, (eNode x0)), (233, (eNode (Node.mk x0.Kind x0.A x0.B 0 (Frac.mk 0 0))))] (fun δ2 => ?_)
   refine gd hm [5, 2, 1] [] ?_
   exact hd () [5, 2, 1] [] 2
 refine nt (qs (qs (qr (oN 3 [(52, vb (x0.Kind == 9))] [5, 2, 1] ?_))))
 refine oe (nt ?_)
 obtain ⟨k105, hk106, h135⟩ := jS h100
 refine JC_cutP (τ := (Int) × (Unit)) (fun y => k105 y.1 = some r) (fun y104 => [(5, .p 1 0), (2, .p 0 0), (1, vi x1)]) (fun y104 => [(233, (eNode x0)), (233, (eNode (Node.mk x0.Kind x0.A x0.B y104.1 (Frac.mk 0 0))))]) (fun y104 => []) ?_ (fun y104 h107p => ?_)
 · refine cC h135 (fun h137 => ?_) (fun h138 => ?_)
   · refine qr (oB 4 [] [5, 2, 1] [(233, (eNode x0)), (233, (eNode (Node.mk x0.Kind x0.A x0.B x0.C (Frac.mk 0 0))))] ?_)
     exact oe (mp (x0.C, ()) h137 [5, 2, 1] [] 2)
   exact qk (mp (0, ()) h138 [5, 2, 1] [] 2)
 have h107 := (congrFun hk106 _).symm.trans h107p
 refine nt (qs ?_)
 obtain ⟨p108, hE109, h110⟩ := bS h107
 refine JC_cut (τ := Unit) (fun _ => [(4, vb p108)]) (fun _ => [(233, (eNode x0)), (233, (eNode (Node.mk x0.Kind x0.A x0.B y104.1 (Frac.mk 0 0))))]) (fun _ => []) ?_ (fun _ => ?_)
 · refine qr (oN 4 [(59, vb ((x0.Kind == x0.Kind) && ((x0.A == x0.A) && ((x0.B == x0.B) && ((x0.C == y104.1) && (((x0.Value.Num == 0) && ((x0.Value.Den == 0) && true)) && true))))))] [2, 1] ?_)
   refine oS 59 hE109 (fun h112 => ?_) (fun h113 => ?_)
   · refine oN 4 [(63, vb (decide (x1 > 0)))] [2, 1] ?_
     refine oS 63 h112 (fun h115 => ?_) (fun h116 => ?_)
     · refine oN 4 [(67, vi (w64 (x1 - 1))), (65, vi x0.A)] [63, 2, 1] ?_
       obtain ⟨t117, h118, h119⟩ := bS h115
       refine k0 (fun γ w hs => c_impl_within h118) ?_
       refine oN 2 [(70, vb t117)] [2, 1] ?_
       refine oS 70 h119 (fun h122 => ?_) (fun h123 => ?_)
       · refine oN 4 [(74, vi (w64 (x1 - 1))), (72, vi x0.B)] [70, 2, 1] ?_
         obtain ⟨t124, h125, h126⟩ := bS h122
         refine k0 (fun γ w hs => c_impl_within h125) ?_
         refine oN 2 [(77, vb t124)] [2, 1] ?_
         refine oS 77 h126 (fun h129 => ?_) (fun h130 => ?_)
         · refine oN 4 [(81, vi (w64 (x1 - 1))), (79, vi x0.C)] [77] ?_
           obtain ⟨t131, h132, h133⟩ := bS h129
           refine k0 (fun γ w hs => c_impl_within h132) ?_
           refine oN 2 [(4, vb t131)] [] ?_
           refine oe ?_
           obtain rfl := sI h133
           exact mt () [4] [] 2
         refine oN 7 [(4, vb false)] [] ?_
         refine oe ?_
         obtain rfl := sI h130
         exact mt () [4] [] 2
       refine oN 14 [(4, vb false)] [] ?_
       refine oe ?_
       obtain rfl := sI h123
       exact mt () [4] [] 2
     refine oN 21 [(4, vb false)] [] ?_
     refine oe ?_
     obtain rfl := sI h116
     exact mt () [4] [] 2
   refine oN 25 [(4, vb false)] [] ?_
   refine oe ?_
   obtain rfl := sI h113
   exact mt () [4] [] 2
 refine nt (qe ?_)
 obtain rfl := sI h110
 exact re [.bool p108]

theorem c_impl_FormulaOk {W : World} {x0 : List Node} {a0_0 : Option Addr} {c0_0 : Nat} {r : Bool} (h : impl_FormulaOk x0 = some r) (hv0_0 : SlView W x0 a0_0 c0_0) :
    Gives0 Tryz.prog 234 #[.slice a0_0 x0.length c0_0] W (.bool r) := by
 unfold impl_FormulaOk at h
 refine en Tryz.func234 Tryz.ntmps234 ?_
 refine qs (qr (oN 1 [] [0] ?_))
 refine oe (nt (qs (qs (qr (oN 3 [(7, vi 0), (6, vi (x0.length : Int)), (5, .v (.slice a0_0 x0.length c0_0))] [0] ?_)))))
 refine oe (nt ?_)
 obtain ⟨r24, hL25, h26⟩ := bS h
 obtain ⟨k27, hk28, h26⟩ := brkS h26
 refine JC_cutP (τ := (Unit) × (Unit)) (fun y => k27 y.1 = some r) (fun y32 => [(0, .v (.slice a0_0 x0.length c0_0))]) (fun y32 => []) (fun y32 => []) ?_ (fun y32 h33p => ?_)
 · refine qb (lp Unit hL25 (fun s21 y22 => [(7, vi s21), (6, vi (x0.length : Int)), (5, .v (.slice a0_0 x0.length c0_0)), (0, .v (.slice a0_0 x0.length c0_0))]) (fun s21 y22 => []) (fun s21 y22 => []) () [7, 6, 5, 0] [] 0 (fun s21 y22 t23 h29 hd30 => ?_))
   refine qs (qr (oN 1 [(8, vb (decide (s21 < (x0.length : Int))))] [7, 6, 5, 0] ?_))
   refine oe (nt (qs (cC h29 (fun h39 => ?_) (fun h40 => ?_))))
   · refine qk (nt (qs (qb (qs (qr (oN 1 [(9, vi s21)] [7, 6, 5, 0] ?_))))))
     obtain ⟨x41, hx42, h43⟩ := bS h39
     refine oi 6 (fun γ w hs => (hv0_0.kept hs.kept)) hx42 ?_
     refine ol 233 0 (vNode x41) (fun γ w hs => (hv0_0.kept hs.kept).flatq hx42) ?_
     refine oB 3 [(3, vi s21), (4, .p 0 0)] [7, 6, 5, 0] [(233, (eNode x41))] ?_
     refine oe (nt (qs (qr (oN 2 [(13, vi s21), (12, .v (vNode x41))] [7, 6, 5, 0] ?_))))
     obtain ⟨t44, h45, h46⟩ := bS h43
     refine k0 (fun γ w hs => c_impl_NodeOk h45) ?_
     refine oN 1 [(15, vb (!t44))] [7, 6, 5, 0] ?_
     refine oe (nt (cC h46 (fun h49 => ?_) (fun h50 => ?_)))
     · refine qs (qr (oN 1 [(2, vb false)] [] ?_))
       refine oe (nt (qe (br (nr (nr ?_)))))
       have h51 := leafR hd30 h49 h26
       refine br (nr (nr ?_))
       obtain rfl := sI h51
       exact re [.bool false]
     refine qk (bn (nt (qr (oN 2 [(7, vi (w64 (s21 + 1)))] [6, 5, 0] ?_))))
     exact oe (ct h50 () [7, 6, 5, 0] [] 0)
   refine qx (nx (nx (bh ?_)))
   have h52 := leafB hd30 h40 h26
   exact mp ((), ()) h52 [0] [] 0
 have h33 := (congrFun hk28 _).symm.trans h33p
 refine nt (qs (qr (oN 2 [(18, vi (x0.length : Int))] [] ?_)))
 obtain ⟨t34, h35, h36⟩ := bS h33
 refine k0 (fun γ w hs => c_impl_within h35) ?_
 refine oN 1 [(2, vb t34)] [] ?_
 refine oe (nt (qe ?_))
 obtain rfl := sI h36
 exact re [.bool t34]

theorem c_impl_RuleOk {W : World} {x0 : Rule} {a0_0 : Option Addr} {c0_0 : Nat} {r : Bool} (h : impl_RuleOk x0 = some r) (hv0_0 : SlView W x0.Nodes a0_0 c0_0) :
    Gives0 Tryz.prog 208 #[vRule x0 (a0_0, c0_0)] W (.bool r) := by
 unfold impl_RuleOk at h
 refine en Tryz.func208 Tryz.ntmps208 ?_
 refine qs (qr (oB 2 [(1, .p 0 0)] [] [(188, (eRule x0 (a0_0, c0_0)))] ?_))
 refine oe (nt (qs ?_))
 obtain ⟨p21, hE22, h23⟩ := bS h
 refine JC_cut (τ := Unit) (fun _ => [(2, vb p21)]) (fun _ => [(188, (eRule x0 (a0_0, c0_0)))]) (fun _ => []) ?_ (fun _ => ?_)
 · refine qr (oN 2 [(4, vi x0.Name)] [1] ?_)
   obtain ⟨t24, h25, h26⟩ := bS hE22
   refine k0 (fun γ w hs => c_impl_within h25) ?_
   refine oN 1 [(6, vb t24)] [1] ?_
   refine oS 6 h26 (fun h29 => ?_) (fun h30 => ?_)
   · refine oN 4 [(10, vi x0.To), (8, vi x0.From)] [6, 1] ?_
     obtain ⟨t31, h32, h33⟩ := bS h29
     refine k0 (fun γ w hs => c_impl_isSpan h32) ?_
     refine oN 2 [(13, vb t31)] [1] ?_
     refine oS 13 h33 (fun h36 => ?_) (fun h37 => ?_)
     · refine oN 2 [(15, vi x0.Joined)] [13, 1] ?_
       obtain ⟨t38, h39, h40⟩ := bS h36
       refine k0 (fun γ w hs => c_impl_within h39) ?_
       refine oN 2 [(18, vb t38)] [1] ?_
       refine oS 18 h40 (fun h43 => ?_) (fun h44 => ?_)
       · refine oN 2 [(20, vi x0.Rank)] [18, 1] ?_
         obtain ⟨t45, h46, h47⟩ := bS h43
         refine k0 (fun γ w hs => c_impl_within h46) ?_
         refine oN 2 [(23, vb t45)] [1] ?_
         refine oS 23 h47 (fun h50 => ?_) (fun h51 => ?_)
         · refine oN 2 [(25, vi x0.Mode)] [23, 1] ?_
           obtain ⟨t52, h53, h54⟩ := bS h50
           refine k0 (fun γ w hs => c_impl_within h53) ?_
           refine oN 2 [(28, vb t52)] [1] ?_
           refine oS 28 h54 (fun h57 => ?_) (fun h58 => ?_)
           · refine oN 2 [(30, .v (.slice a0_0 x0.Nodes.length c0_0))] [28] ?_
             obtain ⟨t59, h60, h61⟩ := bS h57
             refine k0 (fun γ w hs => c_impl_FormulaOk h60 (hv0_0.kept hs.kept)) ?_
             refine oN 2 [(2, vb t59)] [] ?_
             refine oe ?_
             obtain rfl := sI h61
             exact mt () [2] [] 1
           refine oN 5 [(2, vb false)] [] ?_
           refine oe ?_
           obtain rfl := sI h58
           exact mt () [2] [] 1
         refine oN 10 [(2, vb false)] [] ?_
         refine oe ?_
         obtain rfl := sI h51
         exact mt () [2] [] 1
       refine oN 15 [(2, vb false)] [] ?_
       refine oe ?_
       obtain rfl := sI h44
       exact mt () [2] [] 1
     refine oN 20 [(2, vb false)] [] ?_
     refine oe ?_
     obtain rfl := sI h37
     exact mt () [2] [] 1
   refine oN 27 [(2, vb false)] [] ?_
   refine oe ?_
   obtain rfl := sI h30
   exact mt () [2] [] 1
 refine nt (qe ?_)
 obtain rfl := sI h23
 exact re [.bool p21]

theorem c_impl_BookOk {W : World} {x0 : Book} {a0_0 : Option Addr} {c0_0 : Nat} {r : Bool} (h : impl_BookOk x0 = some r) (hv0_0 : SlView W x0.Rules a0_0 c0_0) :
    Gives0 Tryz.prog 164 #[vBook x0 (a0_0, c0_0)] W (.bool r) := by
 unfold impl_BookOk at h
 refine en Tryz.func164 Tryz.ntmps164 ?_
 refine qs (qr (oB 2 [(1, .p 0 0)] [] [(42, (eBook x0 (a0_0, c0_0)))] ?_))
 refine oe (nt (qs (qs (qr (oN 4 [(10, vi 0), (9, vi (x0.Rules.length : Int)), (8, .v (.slice a0_0 x0.Rules.length c0_0))] [1] ?_)))))
 refine oe (nt ?_)
 obtain ⟨r24, hL25, h26⟩ := bS h
 obtain ⟨k27, hk28, h26⟩ := brkS h26
 refine JC_cutP (τ := (Unit) × (Unit)) (fun y => k27 y.1 = some r) (fun y32 => [(1, .p 0 0)]) (fun y32 => [(42, (eBook x0 (a0_0, c0_0)))]) (fun y32 => []) ?_ (fun y32 h33p => ?_)
 · refine qb (lp Unit hL25 (fun s21 y22 => [(10, vi s21.1), (9, vi s21.2), (8, .v (.slice a0_0 x0.Rules.length c0_0)), (1, .p 0 0)]) (fun s21 y22 => [(42, (eBook x0 (a0_0, c0_0)))]) (fun s21 y22 => []) () [10, 9, 8, 1] [] 1 (fun s21 y22 t23 h29 hd30 => ?_))
   refine qs (qr (oN 1 [(11, vb (decide (s21.1 < s21.2)))] [10, 9, 8, 1] ?_))
   refine oe (nt (qs (cC h29 (fun h35 => ?_) (fun h36 => ?_))))
   · refine qk (nt (qs (qb (qs (qr (oN 1 [(12, vi s21.1)] [10, 9, 8, 1] ?_))))))
     obtain ⟨x37, hx38, h39⟩ := bS h35
     refine oi 7 (fun γ w hs => (hv0_0.kept hs.kept)) hx38 ?_
     obtain ⟨_, ⟨a40, c41, rfl, hv42⟩, hc43⟩ := SlView.at hv0_0 (idx_some hx38).2.2
     refine ol 188 0 (vRule x37 (a40, c41)) (fun γ w hs => ⟨(hv0_0.kept hs.kept).ne (idx_some hx38).2.2, hc43.kept hs.kept⟩) ?_
     refine oB 3 [(3, vi s21.1), (4, .p 1 0)] [10, 9, 8, 1] [(42, (eBook x0 (a0_0, c0_0))), (188, (eRule x37 (a40, c41)))] ?_
     refine oe (nt (qs (qs (qr (oN 1 [(15, .v (vRule x37 (a40, c41)))] [3, 4, 10, 9, 8, 1] ?_)))))
     obtain ⟨t44, h45, h46⟩ := bS h39
     refine k0 (fun γ w hs => c_impl_RuleOk h45 (hv42.kept hs.kept)) ?_
     refine oN 1 [(17, vb (!t44))] [3, 4, 10, 9, 8, 1] ?_
     refine oe (nt (cC h46 (fun h49 => ?_) (fun h50 => ?_)))
     · refine qs (qr (oN 1 [(2, vb false)] [] ?_))
       refine oe (nt (qe (nr (br (nr (nr ?_))))))
       have h51 := leafR hd30 h49 h26
       refine br (nr (nr ?_))
       obtain rfl := sI h51
       exact re [.bool false]
     refine qk (nt (qs (qr (oN 3 [(20, vi s21.1), (19, .v (.slice a0_0 x0.Rules.length c0_0))] [4, 10, 9, 8, 1] ?_))))
     obtain ⟨l52, hm53, h54⟩ := bS h50
     have hv55 := SlView.head hv0_0 hm53
     refine JO_head (α := Rule) rfl (by kernel_rfl) (a0 := a0_0) (n0 := x0.Rules.length) (c0 := c0_0) (hi := s21.1) (by kernel_rfl) hm53 (hv0_0).fit rfl ?_
     refine oN 2 [(23, vi 0), (22, vi (l52.length : Int))] [21, 4, 10, 9, 8, 1] ?_
     refine oe (nt ?_)
     obtain ⟨r59, hL60, h61⟩ := bS h54
     obtain ⟨k62, hk63, h61⟩ := brkS h61
     refine JC_cutP (τ := (Int × Int × Int × Int × Int × Int × Int × Int) × (Unit)) (fun y => k62 y.1 = some t23) (fun y67 => [(10, vi y67.1.1), (9, vi y67.1.2.1), (8, .v (.slice a0_0 x0.Rules.length c0_0)), (1, .p 0 0)]) (fun y67 => [(42, (eBook x0 (a0_0, c0_0))), (188, (eRule (Rule.mk y67.1.2.2.1 y67.1.2.2.2.1 y67.1.2.2.2.2.1 y67.1.2.2.2.2.2.1 y67.1.2.2.2.2.2.2.1 y67.1.2.2.2.2.2.2.2 x37.Nodes) (a40, c41)))]) (fun y67 => []) ?_ (fun y67 h68p => ?_)
     · refine qb (lp Unit hL60 (fun s56 y57 => [(23, vi s56), (22, vi (l52.length : Int)), (21, .v (.slice a0_0 l52.length c0_0)), (4, .p 1 0), (10, vi s21.1), (9, vi s21.2), (8, .v (.slice a0_0 x0.Rules.length c0_0)), (1, .p 0 0)]) (fun s56 y57 => [(42, (eBook x0 (a0_0, c0_0))), (188, (eRule x37 (a40, c41)))]) (fun s56 y57 => []) () [23, 22, 21, 4, 10, 9, 8, 1] [] 2 (fun s56 y57 t58 h64 hd65 => ?_))
       refine qs (qr (oN 1 [(24, vb (decide (s56 < (l52.length : Int))))] [23, 22, 21, 4, 10, 9, 8, 1] ?_))
       refine oe (nt (qs (cC h64 (fun h70 => ?_) (fun h71 => ?_))))
       · refine qk (nt (qs (qb (qs (qr ?_)))))
         obtain ⟨x72, hx73, h74⟩ := bS h70
         refine oi 7 (fun γ w hs => (hv55.kept hs.kept)) hx73 ?_
         obtain ⟨_, ⟨a75, c76, rfl, hv77⟩, hc78⟩ := SlView.at hv55 (idx_some hx73).2.2
         refine ol 188 0 (vRule x72 (a75, c76)) (fun γ w hs => ⟨(hv55.kept hs.kept).ne (idx_some hx73).2.2, hc78.kept hs.kept⟩) ?_
         refine oB 2 [(6, .p 2 0)] [23, 22, 21, 4, 10, 9, 8, 1] [(42, (eBook x0 (a0_0, c0_0))), (188, (eRule x37 (a40, c41))), (188, (eRule x72 (a75, c76)))] ?_
         refine oe (nt (qs ?_))
         obtain ⟨p79, hE80, h81⟩ := bS h74
         refine JC_cut (τ := Unit) (fun _ => [(1, .p 0 0), (4, .p 1 0), (8, .v (.slice a0_0 x0.Rules.length c0_0)), (9, vi s21.2), (10, vi s21.1), (21, .v (.slice a0_0 l52.length c0_0)), (22, vi (l52.length : Int)), (23, vi s56), (52, vb p79)]) (fun _ => [(42, (eBook x0 (a0_0, c0_0))), (188, (eRule x37 (a40, c41))), (188, (eRule x72 (a75, c76)))]) (fun _ => []) ?_ (fun _ => ?_)
         · refine qr (oN 6 [(32, vb (x72.Name == x37.Name))] [6, 23, 22, 21, 4, 10, 9, 8, 1] ?_)
           refine oS 32 hE80 (fun h83 => ?_) (fun h84 => ?_)
           · refine oN 7 [(39, vb (x72.Rank == x37.Rank))] [6, 23, 22, 21, 4, 10, 9, 8, 1] ?_
             refine oS 39 h83 (fun h86 => ?_) (fun h87 => ?_)
             · refine oN 7 [(46, vb (decide (x72.From < x37.To)))] [6, 23, 22, 21, 4, 10, 9, 8, 1] ?_
               refine oS 46 h86 (fun h89 => ?_) (fun h90 => ?_)
               · refine oN 6 [(52, vb (decide (x37.From < x72.To)))] [23, 22, 21, 4, 10, 9, 8, 1] ?_
                 refine oe ?_
                 obtain rfl := sI h89
                 exact mt () [1, 4, 8, 9, 10, 21, 22, 23, 52] [] 3
               refine oN 6 [(52, vb false)] [23, 22, 21, 4, 10, 9, 8, 1] ?_
               refine oe ?_
               obtain rfl := sI h90
               exact mt () [1, 4, 8, 9, 10, 21, 22, 23, 52] [] 3
             refine oN 13 [(52, vb false)] [23, 22, 21, 4, 10, 9, 8, 1] ?_
             refine oe ?_
             obtain rfl := sI h87
             exact mt () [1, 4, 8, 9, 10, 21, 22, 23, 52] [] 3
           refine oN 20 [(52, vb false)] [23, 22, 21, 4, 10, 9, 8, 1] ?_
           refine oe ?_
           obtain rfl := sI h84
           exact mt () [1, 4, 8, 9, 10, 21, 22, 23, 52] [] 3
         refine nt (cC h81 (fun h92 => ?_) (fun h93 => ?_))
         · refine qs (qr (oN 1 [(2, vb false)] [] ?_))
           refine oe (nt (qe (br (nr (nr ?_)))))
           have h94 := leafR hd65 h92 h61
           refine br (nr (br (nr (nr ?_))))
           have h95 := leafR hd30 h94 h26
           refine br (nr (nr ?_))
           obtain rfl := sI h95
           exact re [.bool false]
         refine qk (bn (nt (qr (oN 2 [(23, vi (w64 (s56 + 1)))] [1, 4, 8, 9, 10, 21, 22] ?_))))
         exact oe (ct h93 () [23, 22, 21, 4, 10, 9, 8, 1] [] 2)
       refine qx (nx (nx (bh ?_)))
       have h96 := leafB hd65 h71 h61
       exact mp ((s21.1, s21.2, x37.Name, x37.From, x37.To, x37.Joined, x37.Rank, x37.Mode), ()) h96 [10, 9, 8, 1] [] 2
     have h68 := (congrFun hk63 _).symm.trans h68p
     refine bn (nt (qr (oN 2 [(10, vi (w64 (y67.1.1 + 1)))] [9, 8, 1] ?_)))
     exact oe (ct h68 () [10, 9, 8, 1] [] 1)
   refine qx (nx (nx (bh ?_)))
   have h97 := leafB hd30 h36 h26
   exact mp ((), ()) h97 [1] [] 1
 have h33 := (congrFun hk28 _).symm.trans h33p
 refine nt (qs (qr (oN 5 [(2, vb (decide ((x0.Rules.length : Int) ≤ 20)))] [] ?_)))
 refine oe (nt (qe ?_))
 obtain rfl := sI h33
 exact re [.bool (decide ((x0.Rules.length : Int) ≤ 20))]

theorem c_impl_MonthOk {W : World} {x0 : Int} {r : Bool} (h : impl_MonthOk x0 = some r)  :
    Gives0 Tryz.prog 127 #[.int .i64 x0] W (.bool r) := by
 unfold impl_MonthOk at h
 refine en Tryz.func127 Tryz.ntmps127 ?_
 refine qs (qr (oN 1 [] [0] ?_))
 refine oe (nt (qs (qr (oN 1 [(3, vi x0)] [] ?_))))
 obtain ⟨t21, h22, h23⟩ := bS h
 refine k0 (fun γ w hs => c_impl_within h22) ?_
 refine oN 1 [(2, vb t21)] [] ?_
 refine oe (nt (qe ?_))
 obtain rfl := sI h23
 exact re [.bool t21]

theorem c_impl_FactOk {W : World} {x0 : Fact} {r : Bool} (h : impl_FactOk x0 = some r)  :
    Gives0 Tryz.prog 169 #[vFact x0] W (.bool r) := by
 unfold impl_FactOk at h
 refine en Tryz.func169 Tryz.ntmps169 ?_
 refine qs (qr (oB 2 [(1, .p 0 0)] [] [(84, (eFact x0))] ?_))
 refine oe (nt (qs ?_))
 obtain ⟨p21, hE22, h23⟩ := bS h
 refine JC_cut (τ := Unit) (fun _ => [(2, vb p21)]) (fun _ => [(84, (eFact x0))]) (fun _ => []) ?_ (fun _ => ?_)
 · refine qr (oN 2 [(4, vi x0.Key)] [1] ?_)
   obtain ⟨t24, h25, h26⟩ := bS hE22
   refine k0 (fun γ w hs => c_impl_within h25) ?_
   refine oN 1 [(6, vb t24)] [1] ?_
   refine oS 6 h26 (fun h29 => ?_) (fun h30 => ?_)
   · refine oN 4 [(10, vi x0.To), (8, vi x0.From)] [6, 1] ?_
     obtain ⟨t31, h32, h33⟩ := bS h29
     refine k0 (fun γ w hs => c_impl_isSpan h32) ?_
     refine oN 2 [(13, vb t31)] [1] ?_
     refine oS 13 h33 (fun h36 => ?_) (fun h37 => ?_)
     · refine oN 2 [(15, vi x0.Known)] [13, 1] ?_
       obtain ⟨t38, h39, h40⟩ := bS h36
       refine k0 (fun γ w hs => c_impl_MonthOk h39) ?_
       refine oN 2 [(18, vb t38)] [1] ?_
       refine oS 18 h40 (fun h43 => ?_) (fun h44 => ?_)
       · refine oN 2 [(20, vi x0.Value)] [18] ?_
         obtain ⟨t45, h46, h47⟩ := bS h43
         refine k0 (fun γ w hs => c_impl_within h46) ?_
         refine oN 2 [(2, vb t45)] [] ?_
         refine oe ?_
         obtain rfl := sI h47
         exact mt () [2] [] 1
       refine oN 5 [(2, vb false)] [] ?_
       refine oe ?_
       obtain rfl := sI h44
       exact mt () [2] [] 1
     refine oN 10 [(2, vb false)] [] ?_
     refine oe ?_
     obtain rfl := sI h37
     exact mt () [2] [] 1
   refine oN 17 [(2, vb false)] [] ?_
   refine oe ?_
   obtain rfl := sI h30
   exact mt () [2] [] 1
 refine nt (qe ?_)
 obtain rfl := sI h23
 exact re [.bool p21]

theorem c_impl_StoreOk {W : World} {x0 : Store} {a0_0 : Option Addr} {c0_0 : Nat} {r : Bool} (h : impl_StoreOk x0 = some r) (hv0_0 : SlView W x0.Facts a0_0 c0_0) :
    Gives0 Tryz.prog 133 #[vStore x0 (a0_0, c0_0)] W (.bool r) := by
 unfold impl_StoreOk at h
 refine en Tryz.func133 Tryz.ntmps133 ?_
 refine qs (qr (oB 2 [(1, .p 0 0)] [] [(45, (eStore x0 (a0_0, c0_0)))] ?_))
 refine oe (nt (qs (qs (qr (oN 4 [(8, vi 0), (7, vi (x0.Facts.length : Int)), (6, .v (.slice a0_0 x0.Facts.length c0_0))] [1] ?_)))))
 refine oe (nt ?_)
 obtain ⟨r24, hL25, h26⟩ := bS h
 obtain ⟨k27, hk28, h26⟩ := brkS h26
 refine JC_cutP (τ := (Unit) × (Unit)) (fun y => k27 y.1 = some r) (fun y32 => [(1, .p 0 0)]) (fun y32 => [(45, (eStore x0 (a0_0, c0_0)))]) (fun y32 => []) ?_ (fun y32 h33p => ?_)
 · refine qb (lp Unit hL25 (fun s21 y22 => [(8, vi s21), (7, vi (x0.Facts.length : Int)), (6, .v (.slice a0_0 x0.Facts.length c0_0)), (1, .p 0 0)]) (fun s21 y22 => [(45, (eStore x0 (a0_0, c0_0)))]) (fun s21 y22 => []) () [8, 7, 6, 1] [] 1 (fun s21 y22 t23 h29 hd30 => ?_))
   refine qs (qr (oN 1 [(9, vb (decide (s21 < (x0.Facts.length : Int))))] [8, 7, 6, 1] ?_))
   refine oe (nt (qs (cC h29 (fun h35 => ?_) (fun h36 => ?_))))
   · refine qk (nt (qs (qb (qs (qr (oN 1 [(10, vi s21)] [8, 7, 6, 1] ?_))))))
     obtain ⟨x37, hx38, h39⟩ := bS h35
     refine oi 5 (fun γ w hs => (hv0_0.kept hs.kept)) hx38 ?_
     refine ol 84 0 (vFact x37) (fun γ w hs => (hv0_0.kept hs.kept).flatq hx38) ?_
     refine oB 3 [(3, vi s21), (4, .p 1 0)] [8, 7, 6, 1] [(45, (eStore x0 (a0_0, c0_0))), (84, (eFact x37))] ?_
     refine oe (nt (qs ?_))
     obtain ⟨p40, hE41, h42⟩ := bS h39
     refine JC_cut (τ := Unit) (fun _ => [(1, .p 0 0), (6, .v (.slice a0_0 x0.Facts.length c0_0)), (7, vi (x0.Facts.length : Int)), (8, vi s21), (31, vb p40)]) (fun _ => [(45, (eStore x0 (a0_0, c0_0))), (84, (eFact x37))]) (fun _ => []) ?_ (fun _ => ?_)
     · refine JC_quiet (by kernel_rfl) (by kernel_rfl) ?_
       refine qN 1 [(13, .v (vFact x37))] [3, 4, 8, 7, 6, 1] ?_
       obtain ⟨t43, h44, h45⟩ := bS hE41
       refine q0 (fun γ w hs => c_impl_FactOk h44) ?_
       refine qN 2 [(16, vb (!t43))] [3, 4, 8, 7, 6, 1] ?_
       refine qS 16 h45 (fun h48 => ?_) (fun h49 => ?_)
       · refine qN 15 [(31, vb true)] [8, 7, 6, 1] ?_
         refine qz ?_
         obtain rfl := sI h48
         exact mt () [1, 6, 7, 8, 31] [] 2
       refine qN 3 [(19, vb (decide (s21 > 0)))] [16, 3, 4, 8, 7, 6, 1] ?_
       refine qS 19 h49 (fun h51 => ?_) (fun h52 => ?_)
       · refine qN 4 [(23, vi (w64 (s21 - 1))), (21, .v (.slice a0_0 x0.Facts.length c0_0))] [19, 16, 4, 8, 7, 6, 1] ?_
         obtain ⟨x53, hx54, h55⟩ := bS h51
         refine qi 5 (fun γ w hs => (hv0_0.kept hs.kept)) hx54 ?_
         refine qN 1 [(25, .q a0_0 (Int.toNat (w64 (s21 - 1)) * 5 + 3))] [19, 16, 4, 8, 7, 6, 1] ?_
         refine ql 3 3 (.int .i64 x53.Known) (fun γ w hs => (hv0_0.kept hs.kept).flatq hx54) ?_
         refine qN 5 [(31, vb (decide (x53.Known > x37.Known)))] [8, 7, 6, 1] ?_
         refine qz ?_
         obtain rfl := sI h55
         exact mt () [1, 6, 7, 8, 31] [] 2
       refine qN 12 [(31, vb false)] [8, 7, 6, 1] ?_
       refine qz ?_
       obtain rfl := sI h52
       exact mt () [1, 6, 7, 8, 31] [] 2
     refine nt (cC h42 (fun h57 => ?_) (fun h58 => ?_))
     · refine qs (qr (oN 1 [(2, vb false)] [] ?_))
       refine oe (nt (qe (br (nr (nr ?_)))))
       have h59 := leafR hd30 h57 h26
       refine br (nr (nr ?_))
       obtain rfl := sI h59
       exact re [.bool false]
     refine qk (bn (nt (qr (oN 2 [(8, vi (w64 (s21 + 1)))] [1, 6, 7] ?_))))
     exact oe (ct h58 () [8, 7, 6, 1] [] 1)
   refine qx (nx (nx (bh ?_)))
   have h60 := leafB hd30 h36 h26
   exact mp ((), ()) h60 [1] [] 1
 have h33 := (congrFun hk28 _).symm.trans h33p
 refine nt (qs (qr (oN 5 [(2, vb (decide ((x0.Facts.length : Int) ≤ 200)))] [] ?_)))
 refine oe (nt (qe ?_))
 obtain rfl := sI h33
 exact re [.bool (decide ((x0.Facts.length : Int) ≤ 200))]

theorem c_impl_SeriesOk {W : World} {x0 : Series} {a0_0 : Option Addr} {c0_0 : Nat} {r : Bool} (h : impl_SeriesOk x0 = some r) (hv0_0 : SlView W x0.Points a0_0 c0_0) :
    Gives0 Tryz.prog 137 #[vSeries x0 (a0_0, c0_0)] W (.bool r) := by
 unfold impl_SeriesOk at h
 refine en Tryz.func137 Tryz.ntmps137 ?_
 refine qs (qr (oB 2 [(1, .p 0 0)] [] [(48, (eSeries x0 (a0_0, c0_0)))] ?_))
 refine oe (nt (qs (qs (qr (oN 4 [(8, vi 0), (7, vi (x0.Points.length : Int)), (6, .v (.slice a0_0 x0.Points.length c0_0))] [1] ?_)))))
 refine oe (nt ?_)
 obtain ⟨r24, hL25, h26⟩ := bS h
 obtain ⟨k27, hk28, h26⟩ := brkS h26
 refine JC_cutP (τ := (Unit) × (Unit)) (fun y => k27 y.1 = some r) (fun y32 => [(1, .p 0 0)]) (fun y32 => [(48, (eSeries x0 (a0_0, c0_0)))]) (fun y32 => []) ?_ (fun y32 h33p => ?_)
 · refine qb (lp Unit hL25 (fun s21 y22 => [(8, vi s21), (7, vi (x0.Points.length : Int)), (6, .v (.slice a0_0 x0.Points.length c0_0)), (1, .p 0 0)]) (fun s21 y22 => [(48, (eSeries x0 (a0_0, c0_0)))]) (fun s21 y22 => []) () [8, 7, 6, 1] [] 1 (fun s21 y22 t23 h29 hd30 => ?_))
   refine qs (qr (oN 1 [(9, vb (decide (s21 < (x0.Points.length : Int))))] [8, 7, 6, 1] ?_))
   refine oe (nt (qs (cC h29 (fun h35 => ?_) (fun h36 => ?_))))
   · refine qk (nt (qs (qb (qs (qr (oN 1 [(10, vi s21)] [8, 7, 6, 1] ?_))))))
     obtain ⟨x37, hx38, h39⟩ := bS h35
     refine oi 3 (fun γ w hs => (hv0_0.kept hs.kept)) hx38 ?_
     refine ol 85 0 (vPoint x37) (fun γ w hs => (hv0_0.kept hs.kept).flatq hx38) ?_
     refine oB 3 [(3, vi s21), (4, .p 1 0)] [8, 7, 6, 1] [(48, (eSeries x0 (a0_0, c0_0))), (85, (ePoint x37))] ?_
     refine oe (nt (qs ?_))
     obtain ⟨p40, hE41, h42⟩ := bS h39
     refine JC_cut (τ := Unit) (fun _ => [(1, .p 0 0), (6, .v (.slice a0_0 x0.Points.length c0_0)), (7, vi (x0.Points.length : Int)), (8, vi s21), (51, vb p40)]) (fun _ => [(48, (eSeries x0 (a0_0, c0_0))), (85, (ePoint x37))]) (fun _ => []) ?_ (fun _ => ?_)
     · refine JC_quiet (by kernel_rfl) (by kernel_rfl) ?_
       refine qN 2 [(14, vi x37.Month)] [3, 4, 8, 7, 6, 1] ?_
       obtain ⟨t43, h44, h45⟩ := bS hE41
       refine q0 (fun γ w hs => c_impl_MonthOk h44) ?_
       refine qN 2 [(17, vb (!t43))] [3, 4, 8, 7, 6, 1] ?_
       refine qS 17 h45 (fun h48 => ?_) (fun h49 => ?_)
       · refine qN 34 [(51, vb true)] [8, 7, 6, 1] ?_
         refine qz ?_
         obtain rfl := sI h48
         exact mt () [1, 6, 7, 8, 51] [] 2
       refine qN 2 [(19, vi x37.Known)] [17, 3, 4, 8, 7, 6, 1] ?_
       obtain ⟨t50, h51, h52⟩ := bS h49
       refine q0 (fun γ w hs => c_impl_MonthOk h51) ?_
       refine qN 3 [(23, vb (!t50))] [3, 4, 8, 7, 6, 1] ?_
       refine qS 23 h52 (fun h55 => ?_) (fun h56 => ?_)
       · refine qN 28 [(51, vb true)] [8, 7, 6, 1] ?_
         refine qz ?_
         obtain rfl := sI h55
         exact mt () [1, 6, 7, 8, 51] [] 2
       refine qN 7 [(30, vb (decide (x37.Known < x37.Month)))] [3, 4, 8, 7, 6, 1] ?_
       refine qS 30 h56 (fun h58 => ?_) (fun h59 => ?_)
       · refine qN 21 [(51, vb true)] [8, 7, 6, 1] ?_
         refine qz ?_
         obtain rfl := sI h58
         exact mt () [1, 6, 7, 8, 51] [] 2
       refine qN 2 [(32, vi x37.Value)] [30, 3, 4, 8, 7, 6, 1] ?_
       obtain ⟨t60, h61, h62⟩ := bS h59
       refine q0 (fun γ w hs => c_impl_within h61) ?_
       refine qN 3 [(36, vb (!t60))] [3, 4, 8, 7, 6, 1] ?_
       refine qS 36 h62 (fun h65 => ?_) (fun h66 => ?_)
       · refine qN 15 [(51, vb true)] [8, 7, 6, 1] ?_
         refine qz ?_
         obtain rfl := sI h65
         exact mt () [1, 6, 7, 8, 51] [] 2
       refine qN 3 [(39, vb (decide (s21 > 0)))] [36, 3, 4, 8, 7, 6, 1] ?_
       refine qS 39 h66 (fun h68 => ?_) (fun h69 => ?_)
       · refine qN 4 [(43, vi (w64 (s21 - 1))), (41, .v (.slice a0_0 x0.Points.length c0_0))] [39, 36, 4, 8, 7, 6, 1] ?_
         obtain ⟨x70, hx71, h72⟩ := bS h68
         refine qi 3 (fun γ w hs => (hv0_0.kept hs.kept)) hx71 ?_
         refine qN 1 [(45, .q a0_0 (Int.toNat (w64 (s21 - 1)) * 3 + 1))] [39, 36, 4, 8, 7, 6, 1] ?_
         refine ql 3 1 (.int .i64 x70.Known) (fun γ w hs => (hv0_0.kept hs.kept).flatq hx71) ?_
         refine qN 5 [(51, vb (decide (x70.Known > x37.Known)))] [8, 7, 6, 1] ?_
         refine qz ?_
         obtain rfl := sI h72
         exact mt () [1, 6, 7, 8, 51] [] 2
       refine qN 12 [(51, vb false)] [8, 7, 6, 1] ?_
       refine qz ?_
       obtain rfl := sI h69
       exact mt () [1, 6, 7, 8, 51] [] 2
     refine nt (cC h42 (fun h74 => ?_) (fun h75 => ?_))
     · refine qs (qr (oN 1 [(2, vb false)] [] ?_))
       refine oe (nt (qe (br (nr (nr ?_)))))
       have h76 := leafR hd30 h74 h26
       refine br (nr (nr ?_))
       obtain rfl := sI h76
       exact re [.bool false]
     refine qk (bn (nt (qr (oN 2 [(8, vi (w64 (s21 + 1)))] [1, 6, 7] ?_))))
     exact oe (ct h75 () [8, 7, 6, 1] [] 1)
   refine qx (nx (nx (bh ?_)))
   have h77 := leafB hd30 h36 h26
   exact mp ((), ()) h77 [1] [] 1
 have h33 := (congrFun hk28 _).symm.trans h33p
 refine nt (qs (qr (oN 5 [(2, vb (decide ((x0.Points.length : Int) ≤ 200)))] [] ?_)))
 refine oe (nt (qe ?_))
 obtain rfl := sI h33
 exact re [.bool (decide ((x0.Points.length : Int) ≤ 200))]

theorem c_impl_SpellsOk {W : World} {x0 : List Spell} {a0_0 : Option Addr} {c0_0 : Nat} {r : Bool} (h : impl_SpellsOk x0 = some r) (hv0_0 : SlView W x0 a0_0 c0_0) :
    Gives0 Tryz.prog 209 #[.slice a0_0 x0.length c0_0] W (.bool r) := by
 unfold impl_SpellsOk at h
 refine en Tryz.func209 Tryz.ntmps209 ?_
 refine qs (qr (oN 1 [] [0] ?_))
 refine oe (nt (qs (qs (qr (oN 3 [(7, vi 0), (6, vi (x0.length : Int)), (5, .v (.slice a0_0 x0.length c0_0))] [0] ?_)))))
 refine oe (nt ?_)
 obtain ⟨r24, hL25, h26⟩ := bS h
 obtain ⟨k27, hk28, h26⟩ := brkS h26
 refine JC_cutP (τ := (Unit) × (Unit)) (fun y => k27 y.1 = some r) (fun y32 => [(0, .v (.slice a0_0 x0.length c0_0))]) (fun y32 => []) (fun y32 => []) ?_ (fun y32 h33p => ?_)
 · refine qb (lp Unit hL25 (fun s21 y22 => [(7, vi s21), (6, vi (x0.length : Int)), (5, .v (.slice a0_0 x0.length c0_0)), (0, .v (.slice a0_0 x0.length c0_0))]) (fun s21 y22 => []) (fun s21 y22 => []) () [7, 6, 5, 0] [] 0 (fun s21 y22 t23 h29 hd30 => ?_))
   refine qs (qr (oN 1 [(8, vb (decide (s21 < (x0.length : Int))))] [7, 6, 5, 0] ?_))
   refine oe (nt (qs (cC h29 (fun h35 => ?_) (fun h36 => ?_))))
   · refine qk (nt (qs (qb (qs (qr (oN 1 [(9, vi s21)] [7, 6, 5, 0] ?_))))))
     obtain ⟨x37, hx38, h39⟩ := bS h35
     refine oi 4 (fun γ w hs => (hv0_0.kept hs.kept)) hx38 ?_
     refine ol 191 0 (vSpell x37) (fun γ w hs => (hv0_0.kept hs.kept).flatq hx38) ?_
     refine oB 3 [(3, vi s21), (4, .p 0 0)] [7, 6, 5, 0] [(191, (eSpell x37))] ?_
     refine oe (nt (qs ?_))
     obtain ⟨p40, hE41, h42⟩ := bS h39
     refine JC_cut (τ := Unit) (fun _ => [(0, .v (.slice a0_0 x0.length c0_0)), (5, .v (.slice a0_0 x0.length c0_0)), (6, vi (x0.length : Int)), (7, vi s21), (38, vb p40)]) (fun _ => [(191, (eSpell x37))]) (fun _ => []) ?_ (fun _ => ?_)
     · refine JC_quiet (by kernel_rfl) (by kernel_rfl) ?_
       refine qN 4 [(15, vi x37.To), (13, vi x37.From)] [3, 4, 7, 6, 5, 0] ?_
       obtain ⟨t43, h44, h45⟩ := bS hE41
       refine q0 (fun γ w hs => c_impl_isSpan h44) ?_
       refine qN 2 [(18, vb (!t43))] [3, 4, 7, 6, 5, 0] ?_
       refine qS 18 h45 (fun h48 => ?_) (fun h49 => ?_)
       · refine qN 20 [(38, vb true)] [7, 6, 5, 0] ?_
         refine qz ?_
         obtain rfl := sI h48
         exact mt () [0, 5, 6, 7, 38] [] 1
       refine qN 2 [(20, vi x37.Percent)] [18, 3, 4, 7, 6, 5, 0] ?_
       obtain ⟨t50, h51, h52⟩ := bS h49
       refine q0 (fun γ w hs => c_impl_within h51) ?_
       refine qN 3 [(24, vb (!t50))] [3, 4, 7, 6, 5, 0] ?_
       refine qS 24 h52 (fun h55 => ?_) (fun h56 => ?_)
       · refine qN 14 [(38, vb true)] [7, 6, 5, 0] ?_
         refine qz ?_
         obtain rfl := sI h55
         exact mt () [0, 5, 6, 7, 38] [] 1
       refine qN 3 [(27, vb (decide (s21 > 0)))] [24, 3, 4, 7, 6, 5, 0] ?_
       refine qS 27 h56 (fun h58 => ?_) (fun h59 => ?_)
       · refine qN 5 [(32, vi (w64 (s21 - 1))), (30, .v (.slice a0_0 x0.length c0_0)), (29, vi x37.From)] [27, 24, 7, 6, 5, 0] ?_
         obtain ⟨x60, hx61, h62⟩ := bS h58
         refine qi 4 (fun γ w hs => (hv0_0.kept hs.kept)) hx61 ?_
         refine qN 1 [(34, .q a0_0 (Int.toNat (w64 (s21 - 1)) * 4 + 1))] [29, 27, 24, 7, 6, 5, 0] ?_
         refine ql 3 1 (.int .i64 x60.To) (fun γ w hs => (hv0_0.kept hs.kept).flatq hx61) ?_
         refine qN 3 [(38, vb (decide (x37.From < x60.To)))] [7, 6, 5, 0] ?_
         refine qz ?_
         obtain rfl := sI h62
         exact mt () [0, 5, 6, 7, 38] [] 1
       refine qN 11 [(38, vb false)] [7, 6, 5, 0] ?_
       refine qz ?_
       obtain rfl := sI h59
       exact mt () [0, 5, 6, 7, 38] [] 1
     refine nt (cC h42 (fun h64 => ?_) (fun h65 => ?_))
     · refine qs (qr (oN 1 [(2, vb false)] [] ?_))
       refine oe (nt (qe (br (nr (nr ?_)))))
       have h66 := leafR hd30 h64 h26
       refine br (nr (nr ?_))
       obtain rfl := sI h66
       exact re [.bool false]
     refine qk (bn (nt (qr (oN 2 [(7, vi (w64 (s21 + 1)))] [0, 5, 6] ?_))))
     exact oe (ct h65 () [7, 6, 5, 0] [] 0)
   refine qx (nx (nx (bh ?_)))
   have h67 := leafB hd30 h36 h26
   exact mp ((), ()) h67 [0] [] 0
 have h33 := (congrFun hk28 _).symm.trans h33p
 refine nt (qs (qr (oN 4 [(2, vb (decide ((x0.length : Int) ≤ 30)))] [] ?_)))
 refine oe (nt (qe ?_))
 obtain rfl := sI h33
 exact re [.bool (decide ((x0.length : Int) ≤ 30))]

theorem c_impl_StatusAfter {W : World} {x0 : Int} {x1 : Int} {r : Int × Bool} (h : impl_StatusAfter x0 x1 = some r)  :
    Gives0 Tryz.prog 179 #[.int .i64 x0, .int .i64 x1] W (.tuple #[.int .i64 r.1, .bool r.2]) := by
 unfold impl_StatusAfter at h
 refine en Tryz.func179 Tryz.ntmps179 ?_
 refine qs (qr (oN 2 [] [0, 1] ?_))
 refine oe (nt (qs (qb (qs ?_))))
 obtain ⟨p21, hE22, h23⟩ := bS h
 refine JC_cut (τ := Unit) (fun _ => [(0, vi x0), (1, vi x1), (6, vb p21)]) (fun _ => []) (fun _ => []) ?_ (fun _ => ?_)
 · refine qr (oN 3 [(9, vb (x1 == 1))] [0, 1] ?_)
   refine oS 9 hE22 (fun h25 => ?_) (fun h26 => ?_)
   · refine oN 3 [(12, vb (x0 == 0))] [9, 0, 1] ?_
     refine oS 12 h25 (fun h28 => ?_) (fun h29 => ?_)
     · refine oN 5 [(6, vb true)] [0, 1] ?_
       refine oe ?_
       obtain rfl := sI h28
       exact mt () [0, 1, 6] [] 0
     refine oN 5 [(6, vb (x0 == 2))] [0, 1] ?_
     refine oe ?_
     obtain rfl := sI h29
     exact mt () [0, 1, 6] [] 0
   refine oN 8 [(6, vb false)] [0, 1] ?_
   refine oe ?_
   obtain rfl := sI h26
   exact mt () [0, 1, 6] [] 0
 refine nt (cC h23 (fun h65 => ?_) (fun h66 => ?_))
 · refine qs (qr (oN 2 [(5, vb true), (4, vi 1)] [] ?_))
   refine oe (nt (qe (br (nr ?_))))
   obtain rfl := sI h65
   exact re [.int .i64 1, .bool true]
 refine qs ?_
 obtain ⟨p67, hE68, h69⟩ := bS h66
 refine JC_cut (τ := Unit) (fun _ => [(0, vi x0), (1, vi x1), (17, vb p67)]) (fun _ => []) (fun _ => []) ?_ (fun _ => ?_)
 · refine qr (oN 3 [(20, vb (x1 == 2))] [0, 1] ?_)
   refine oS 20 hE68 (fun h71 => ?_) (fun h72 => ?_)
   · refine oN 4 [(17, vb (x0 == 1))] [0, 1] ?_
     refine oe ?_
     obtain rfl := sI h71
     exact mt () [0, 1, 17] [] 0
   refine oN 4 [(17, vb false)] [0, 1] ?_
   refine oe ?_
   obtain rfl := sI h72
   exact mt () [0, 1, 17] [] 0
 refine nt (cC h69 (fun h99 => ?_) (fun h100 => ?_))
 · refine qs (qr (oN 2 [(5, vb true), (4, vi 2)] [] ?_))
   refine oe (nt (qe (br (nr ?_))))
   obtain rfl := sI h99
   exact re [.int .i64 2, .bool true]
 refine qs ?_
 obtain ⟨p101, hE102, h103⟩ := bS h100
 refine JC_cut (τ := Unit) (fun _ => [(0, vi x0), (1, vi x1), (24, vb p101)]) (fun _ => []) (fun _ => []) ?_ (fun _ => ?_)
 · refine qr (oN 3 [(27, vb (x1 == 3))] [0, 1] ?_)
   refine oS 27 hE102 (fun h105 => ?_) (fun h106 => ?_)
   · refine oN 3 [(30, vb (x0 == 1))] [27, 0, 1] ?_
     refine oS 30 h105 (fun h108 => ?_) (fun h109 => ?_)
     · refine oN 5 [(24, vb true)] [0, 1] ?_
       refine oe ?_
       obtain rfl := sI h108
       exact mt () [0, 1, 24] [] 0
     refine oN 5 [(24, vb (x0 == 2))] [0, 1] ?_
     refine oe ?_
     obtain rfl := sI h109
     exact mt () [0, 1, 24] [] 0
   refine oN 8 [(24, vb false)] [0, 1] ?_
   refine oe ?_
   obtain rfl := sI h106
   exact mt () [0, 1, 24] [] 0
 refine nt (cC h103 (fun h124 => ?_) (fun h125 => ?_))
 · refine qs (qr (oN 2 [(5, vb true), (4, vi 3)] [] ?_))
   refine oe (nt (qe (br (nr ?_))))
   obtain rfl := sI h124
   exact re [.int .i64 3, .bool true]
 refine qs ?_
 obtain ⟨p126, hE127, h128⟩ := bS h125
 refine JC_cut (τ := Unit) (fun _ => [(0, vi x0), (35, vb p126)]) (fun _ => []) (fun _ => []) ?_ (fun _ => ?_)
 · refine qr (oN 3 [(38, vb (x1 == 4))] [0] ?_)
   refine oS 38 hE127 (fun h130 => ?_) (fun h131 => ?_)
   · refine oN 1 [(39, vi x0)] [38, 0] ?_
     obtain ⟨t132, h133, h134⟩ := bS h130
     refine k0 (fun γ w hs => c_impl_within h133) ?_
     refine oN 2 [(35, vb t132)] [0] ?_
     refine oe ?_
     obtain rfl := sI h134
     exact mt () [0, 35] [] 0
   refine oN 4 [(35, vb false)] [0] ?_
   refine oe ?_
   obtain rfl := sI h131
   exact mt () [0, 35] [] 0
 refine nt (cC h128 (fun h137 => ?_) (fun h138 => ?_))
 · refine qs (qr (oN 2 [(5, vb true), (4, vi 4)] [] ?_))
   refine oe (nt (qe (br (nr ?_))))
   obtain rfl := sI h137
   exact re [.int .i64 4, .bool true]
 refine qk (bn (nt (qs (qr (oN 3 [(5, vb false), (4, vi x0)] [] ?_)))))
 refine oe (nt (qe ?_))
 obtain rfl := sI h138
 exact re [.int .i64 x0, .bool false]

theorem c_impl_EventsOk {W : World} {x0 : List Event} {a0_0 : Option Addr} {c0_0 : Nat} {r : Bool} (h : impl_EventsOk x0 = some r) (hv0_0 : SlView W x0 a0_0 c0_0) :
    Gives0 Tryz.prog 178 #[.slice a0_0 x0.length c0_0] W (.bool r) := by
 unfold impl_EventsOk at h
 refine en Tryz.func178 Tryz.ntmps178 ?_
 refine qs (qr (oN 1 [] [0] ?_))
 refine oe (nt (qs (qr (oN 2 [(3, vi 0)] [0] ?_))))
 refine oe (nt (qs (qs (qr (oN 3 [(9, vi 0), (8, vi (x0.length : Int)), (7, .v (.slice a0_0 x0.length c0_0))] [3, 0] ?_)))))
 refine oe (nt ?_)
 obtain ⟨r24, hL25, h26⟩ := bS h
 obtain ⟨k27, hk28, h26⟩ := brkS h26
 refine JC_cutP (τ := (Unit) × (Unit)) (fun y => k27 y.1 = some r) (fun y32 => [(0, .v (.slice a0_0 x0.length c0_0))]) (fun y32 => []) (fun y32 => []) ?_ (fun y32 h33p => ?_)
 · refine qb (lp Unit hL25 (fun s21 y22 => [(9, vi s21.1), (8, vi (x0.length : Int)), (7, .v (.slice a0_0 x0.length c0_0)), (3, vi s21.2), (0, .v (.slice a0_0 x0.length c0_0))]) (fun s21 y22 => []) (fun s21 y22 => []) () [9, 8, 7, 3, 0] [] 0 (fun s21 y22 t23 h29 hd30 => ?_))
   refine qs (qr (oN 1 [(10, vb (decide (s21.1 < (x0.length : Int))))] [9, 8, 7, 3, 0] ?_))
   refine oe (nt (qs (cC h29 (fun h35 => ?_) (fun h36 => ?_))))
   · refine qk (nt (qs (qb (qs (qr (oN 1 [(11, vi s21.1)] [9, 8, 7, 3, 0] ?_))))))
     obtain ⟨x37, hx38, h39⟩ := bS h35
     refine oi 2 (fun γ w hs => (hv0_0.kept hs.kept)) hx38 ?_
     refine ol 195 0 (vEvent x37) (fun γ w hs => (hv0_0.kept hs.kept).flatq hx38) ?_
     refine oB 3 [(5, vi s21.1), (6, .p 0 0)] [9, 8, 7, 3, 0] [(195, (eEvent x37))] ?_
     refine oe (nt (qs (qr (oN 3 [(17, vi x37.Kind), (15, vi s21.2)] [5, 6, 9, 8, 7, 0] ?_))))
     obtain ⟨t40, h41, h42⟩ := bS h39
     refine k0 (fun γ w hs => c_impl_StatusAfter h41) ?_
     refine oN 5 [(4, vb t40.2), (3, vi t40.1)] [5, 6, 9, 8, 7, 0] ?_
     refine oe (nt (qs ?_))
     obtain ⟨p44, hE45, h46⟩ := bS h42
     refine JC_cut (τ := Unit) (fun _ => [(0, .v (.slice a0_0 x0.length c0_0)), (3, vi t40.1), (7, .v (.slice a0_0 x0.length c0_0)), (8, vi (x0.length : Int)), (9, vi s21.1), (43, vb p44)]) (fun _ => [(195, (eEvent x37))]) (fun _ => []) ?_ (fun _ => ?_)
     · refine JC_quiet (by kernel_rfl) (by kernel_rfl) ?_
       refine qN 3 [(23, vb (!t40.2))] [3, 5, 6, 9, 8, 7, 0] ?_
       refine qS 23 hE45 (fun h48 => ?_) (fun h49 => ?_)
       · refine qN 20 [(43, vb true)] [3, 9, 8, 7, 0] ?_
         refine qz ?_
         obtain rfl := sI h48
         exact mt () [0, 3, 7, 8, 9, 43] [] 1
       refine qN 2 [(25, vi x37.Month)] [23, 3, 5, 6, 9, 8, 7, 0] ?_
       obtain ⟨t50, h51, h52⟩ := bS h49
       refine q0 (fun γ w hs => c_impl_MonthOk h51) ?_
       refine qN 3 [(29, vb (!t50))] [3, 5, 6, 9, 8, 7, 0] ?_
       refine qS 29 h52 (fun h55 => ?_) (fun h56 => ?_)
       · refine qN 14 [(43, vb true)] [3, 9, 8, 7, 0] ?_
         refine qz ?_
         obtain rfl := sI h55
         exact mt () [0, 3, 7, 8, 9, 43] [] 1
       refine qN 3 [(32, vb (decide (s21.1 > 0)))] [29, 3, 5, 6, 9, 8, 7, 0] ?_
       refine qS 32 h56 (fun h58 => ?_) (fun h59 => ?_)
       · refine qN 3 [(35, vi (w64 (s21.1 - 1))), (33, .v (.slice a0_0 x0.length c0_0))] [32, 29, 3, 6, 9, 8, 7, 0] ?_
         obtain ⟨x60, hx61, h62⟩ := bS h58
         refine qi 2 (fun γ w hs => (hv0_0.kept hs.kept)) hx61 ?_
         refine qN 1 [(37, .q a0_0 (Int.toNat (w64 (s21.1 - 1)) * 2 + 1))] [32, 29, 3, 6, 9, 8, 7, 0] ?_
         refine ql 3 1 (.int .i64 x60.Month) (fun γ w hs => (hv0_0.kept hs.kept).flatq hx61) ?_
         refine qN 5 [(43, vb (decide (x60.Month ≥ x37.Month)))] [3, 9, 8, 7, 0] ?_
         refine qz ?_
         obtain rfl := sI h62
         exact mt () [0, 3, 7, 8, 9, 43] [] 1
       refine qN 11 [(43, vb false)] [3, 9, 8, 7, 0] ?_
       refine qz ?_
       obtain rfl := sI h59
       exact mt () [0, 3, 7, 8, 9, 43] [] 1
     refine nt (cC h46 (fun h64 => ?_) (fun h65 => ?_))
     · refine qs (qr (oN 1 [(2, vb false)] [] ?_))
       refine oe (nt (qe (br (nr (nr ?_)))))
       have h66 := leafR hd30 h64 h26
       refine br (nr (nr ?_))
       obtain rfl := sI h66
       exact re [.bool false]
     refine qk (bn (nt (qr (oN 2 [(9, vi (w64 (s21.1 + 1)))] [0, 3, 7, 8] ?_))))
     exact oe (ct h65 () [9, 8, 7, 3, 0] [] 0)
   refine qx (nx (nx (bh ?_)))
   have h67 := leafB hd30 h36 h26
   exact mp ((), ()) h67 [0] [] 0
 have h33 := (congrFun hk28 _).symm.trans h33p
 refine nt (qs (qr (oN 4 [(2, vb (decide ((x0.length : Int) ≤ 30)))] [] ?_)))
 refine oe (nt (qe ?_))
 obtain rfl := sI h33
 exact re [.bool (decide ((x0.length : Int) ≤ 30))]

theorem c_impl_MemberOk {W : World} {x0 : Member} {b0 : AC × AC} {r : Bool} (h : impl_MemberOk x0 = some r) (hv0_0 : SlView W x0.Spells b0.1.1 b0.1.2) (hv0_1 : SlView W x0.Events b0.2.1 b0.2.2) :
    Gives0 Tryz.prog 165 #[vMember x0 b0] W (.bool r) := by
 unfold impl_MemberOk at h
 refine en Tryz.func165 Tryz.ntmps165 ?_
 refine qs (qr (oB 2 [(1, .p 0 0)] [] [(52, (eMember x0 b0))] ?_))
 refine oe (nt (qs ?_))
 obtain ⟨p21, hE22, h23⟩ := bS h
 refine JC_cut (τ := Unit) (fun _ => [(2, vb p21)]) (fun _ => [(52, (eMember x0 b0))]) (fun _ => []) ?_ (fun _ => ?_)
 · refine qr (oN 2 [(4, vi x0.Birth)] [1] ?_)
   obtain ⟨t24, h25, h26⟩ := bS hE22
   refine k0 (fun γ w hs => c_impl_MonthOk h25) ?_
   refine oN 1 [(6, vb t24)] [1] ?_
   refine oS 6 h26 (fun h29 => ?_) (fun h30 => ?_)
   · refine oN 2 [(8, vi x0.Joined)] [6, 1] ?_
     obtain ⟨t31, h32, h33⟩ := bS h29
     refine k0 (fun γ w hs => c_impl_MonthOk h32) ?_
     refine oN 2 [(11, vb t31)] [1] ?_
     refine oS 11 h33 (fun h36 => ?_) (fun h37 => ?_)
     · refine oN 7 [(18, vb (decide (x0.Birth ≤ x0.Joined)))] [1] ?_
       refine oS 18 h36 (fun h39 => ?_) (fun h40 => ?_)
       · refine oN 2 [(20, .v (.slice b0.1.1 x0.Spells.length b0.1.2))] [18, 1] ?_
         obtain ⟨t41, h42, h43⟩ := bS h39
         refine k0 (fun γ w hs => c_impl_SpellsOk h42 (hv0_0.kept hs.kept)) ?_
         refine oN 2 [(23, vb t41)] [1] ?_
         refine oS 23 h43 (fun h46 => ?_) (fun h47 => ?_)
         · refine oN 2 [(25, .v (.slice b0.2.1 x0.Events.length b0.2.2))] [23] ?_
           obtain ⟨t48, h49, h50⟩ := bS h46
           refine k0 (fun γ w hs => c_impl_EventsOk h49 (hv0_1.kept hs.kept)) ?_
           refine oN 2 [(2, vb t48)] [] ?_
           refine oe ?_
           obtain rfl := sI h50
           exact mt () [2] [] 1
         refine oN 5 [(2, vb false)] [] ?_
         refine oe ?_
         obtain rfl := sI h47
         exact mt () [2] [] 1
       refine oN 10 [(2, vb false)] [] ?_
       refine oe ?_
       obtain rfl := sI h40
       exact mt () [2] [] 1
     refine oN 17 [(2, vb false)] [] ?_
     refine oe ?_
     obtain rfl := sI h37
     exact mt () [2] [] 1
   refine oN 22 [(2, vb false)] [] ?_
   refine oe ?_
   obtain rfl := sI h30
   exact mt () [2] [] 1
 refine nt (qe ?_)
 obtain rfl := sI h23
 exact re [.bool p21]

theorem c_impl_CaseOk {W : World} {x0 : Case} {b0 : AC × AC × AC × AC × AC} {r : Bool} (h : impl_CaseOk x0 = some r) (hv0_0 : SlView W x0.Book.Rules b0.1.1 b0.1.2) (hv0_1 : SlView W x0.Store.Facts b0.2.1.1 b0.2.1.2) (hv0_2 : SlView W x0.Series.Points b0.2.2.1.1 b0.2.2.1.2) (hv0_3 : SlView W x0.Member.Spells b0.2.2.2.1.1 b0.2.2.2.1.2) (hv0_4 : SlView W x0.Member.Events b0.2.2.2.2.1 b0.2.2.2.2.2) :
    Gives0 Tryz.prog 126 #[vCase x0 b0] W (.bool r) := by
 unfold impl_CaseOk at h
 refine en Tryz.func126 Tryz.ntmps126 ?_
 refine qs (qr (oB 2 [(1, .p 0 0)] [] [(54, (eCase x0 b0))] ?_))
 refine oe (nt (qs ?_))
 obtain ⟨p21, hE22, h23⟩ := bS h
 refine JC_cut (τ := Unit) (fun _ => [(2, vb p21)]) (fun _ => [(54, (eCase x0 b0))]) (fun _ => []) ?_ (fun _ => ?_)
 · refine qr (oN 2 [(4, .v (vBook x0.Book b0.1))] [1] ?_)
   obtain ⟨t24, h25, h26⟩ := bS hE22
   refine k0 (fun γ w hs => c_impl_BookOk h25 (hv0_0.kept hs.kept)) ?_
   refine oN 1 [(6, vb t24)] [1] ?_
   refine oS 6 h26 (fun h29 => ?_) (fun h30 => ?_)
   · refine oN 2 [(8, .v (vStore x0.Store b0.2.1))] [6, 1] ?_
     obtain ⟨t31, h32, h33⟩ := bS h29
     refine k0 (fun γ w hs => c_impl_StoreOk h32 (hv0_1.kept hs.kept)) ?_
     refine oN 2 [(11, vb t31)] [1] ?_
     refine oS 11 h33 (fun h36 => ?_) (fun h37 => ?_)
     · refine oN 2 [(13, .v (vSeries x0.Series b0.2.2.1))] [11, 1] ?_
       obtain ⟨t38, h39, h40⟩ := bS h36
       refine k0 (fun γ w hs => c_impl_SeriesOk h39 (hv0_2.kept hs.kept)) ?_
       refine oN 2 [(16, vb t38)] [1] ?_
       refine oS 16 h40 (fun h43 => ?_) (fun h44 => ?_)
       · refine oN 2 [(18, .v (vMember x0.Member b0.2.2.2))] [16] ?_
         obtain ⟨t45, h46, h47⟩ := bS h43
         refine k0 (fun γ w hs => c_impl_MemberOk (b0 := b0.2.2.2) h46 (hv0_3.kept hs.kept) (hv0_4.kept hs.kept)) ?_
         refine oN 2 [(2, vb t45)] [] ?_
         refine oe ?_
         obtain rfl := sI h47
         exact mt () [2] [] 1
       refine oN 5 [(2, vb false)] [] ?_
       refine oe ?_
       obtain rfl := sI h44
       exact mt () [2] [] 1
     refine oN 10 [(2, vb false)] [] ?_
     refine oe ?_
     obtain rfl := sI h37
     exact mt () [2] [] 1
   refine oN 15 [(2, vb false)] [] ?_
   refine oe ?_
   obtain rfl := sI h30
   exact mt () [2] [] 1
 refine nt (qe ?_)
 obtain rfl := sI h23
 exact re [.bool p21]

theorem c_impl_now {W : World} {x0 : Office} {b0 : AC × AC × AC × AC × AC × AC} {r : Int} (h : impl_now x0 = some r) (hv0_0 : SlView W x0.Case.Book.Rules b0.1.1 b0.1.2) (hv0_1 : SlView W x0.Case.Store.Facts b0.2.1.1 b0.2.1.2) (hv0_2 : SlView W x0.Case.Series.Points b0.2.2.1.1 b0.2.2.1.2) (hv0_3 : SlView W x0.Case.Member.Spells b0.2.2.2.1.1 b0.2.2.2.1.2) (hv0_4 : SlView W x0.Case.Member.Events b0.2.2.2.2.1.1 b0.2.2.2.2.1.2) (hv0_5 : SlView W x0.Paid b0.2.2.2.2.2.1 b0.2.2.2.2.2.2) :
    Gives0 Tryz.prog 84 #[vOffice x0 b0] W (.int .i64 r) := by
 unfold impl_now at h
 refine en Tryz.func84 Tryz.ntmps84 ?_
 refine qs (qr (oB 2 [(1, .p 0 0)] [] [(57, (eOffice x0 b0))] ?_))
 refine oe (nt (qs (qr (oN 7 [(2, vi (w64 (x0.Start + (x0.Paid.length : Int))))] [] ?_))))
 refine oe (nt (qe ?_))
 obtain rfl := sI h
 exact re [.int .i64 (w64 (x0.Start + (x0.Paid.length : Int)))]

theorem c_impl_allWithin_1 {W : World} {x0 : Int} {gf_0 : Nat} {zf_0 : Int} {gf_1 : Nat} {zf_1 : Int} {r : Bool} (h : impl_allWithin_1 x0 zf_0 zf_1 = some r) (hcf_0 : CellsAt W (some ⟨gf_0, 0, none⟩) 0 [.int .i64 zf_0]) (hcf_1 : CellsAt W (some ⟨gf_1, 0, none⟩) 0 [.int .i64 zf_1]) :
    Gives0 Tryz.prog 167 #[.int .i64 x0, .pointer (some ⟨gf_0, 0, none⟩), .pointer (some ⟨gf_1, 0, none⟩)] W (.bool r) := by
 unfold impl_allWithin_1 at h
 refine enterD [vi x0, .q (some ⟨gf_0, 0, none⟩) (0), .q (some ⟨gf_1, 0, none⟩) (0)] (args := [.int .i64 x0, .pointer (some ⟨gf_0, 0, none⟩), .pointer (some ⟨gf_1, 0, none⟩)]) (by kernel_rfl) (by kernel_rfl) Tryz.func167 rfl Tryz.ntmps167 (by kernel_rfl) ?_
 refine qs (qr (oN 1 [] [0, 1, 2] ?_))
 refine oe (nt (qs (qr (oN 1 [(5, vi x0)] [1, 2] ?_))))
 refine ol 3 0 (.int .i64 zf_0) (fun γ w hs => ⟨by simp, hcf_0.kept hs.kept⟩) ?_
 refine ol 3 0 (.int .i64 zf_1) (fun γ w hs => ⟨by simp, hcf_1.kept hs.kept⟩) ?_
 obtain ⟨t21, h22, h23⟩ := bS h
 refine k0 (fun γ w hs => c_impl_within h22) ?_
 refine oN 2 [(4, vb (!t21))] [] ?_
 refine oe (nt (qe ?_))
 obtain rfl := sI h23
 exact re [.bool (!t21)]

theorem c_slices_IndexFunc_int__impl_allWithin_1 {W : World} {x0 : List Int} {a0_0 : Option Addr} {c0_0 : Nat} {g1_0 : Nat} {z1_0 : Int} {g1_1 : Nat} {z1_1 : Int} {r : Int} (h : slices_IndexFunc_int__impl_allWithin_1 x0 z1_0 z1_1 = some r) (hv0_0 : SlView W x0 a0_0 c0_0) (hc1_0 : CellsAt W (some ⟨g1_0, 0, none⟩) 0 [.int .i64 z1_0]) (hc1_1 : CellsAt W (some ⟨g1_1, 0, none⟩) 0 [.int .i64 z1_1]) :
    Gives0 Tryz.prog 210 #[.slice a0_0 x0.length c0_0, .func (.func 167) #[] #[.pointer (some ⟨g1_0, 0, none⟩), .pointer (some ⟨g1_1, 0, none⟩)]] W (.int .i64 r) := by
 unfold slices_IndexFunc_int__impl_allWithin_1 at h
 refine en Tryz.func210 Tryz.ntmps210 ?_
 refine qs (qr (oN 1 [] [0, 1] ?_))
 refine oe (nt (qs (qs (qr (oN 3 [(8, vi 0), (7, vi (x0.length : Int))] [0, 1] ?_)))))
 refine oe (nt ?_)
 obtain ⟨r24, hL25, h26⟩ := bS h
 obtain ⟨k27, hk28, h26⟩ := brkS h26
 refine JC_cutP (τ := (Unit) × (Unit)) (fun y => k27 y.1 = some r) (fun y32 => []) (fun y32 => []) (fun y32 => []) ?_ (fun y32 h33p => ?_)
 · refine qb (lp Unit hL25 (fun s21 y22 => [(8, vi s21), (7, vi (x0.length : Int)), (0, .v (.slice a0_0 x0.length c0_0)), (1, .v (.func (.func 167) #[] #[.pointer (some ⟨g1_0, 0, none⟩), .pointer (some ⟨g1_1, 0, none⟩)]))]) (fun s21 y22 => []) (fun s21 y22 => []) () [8, 7, 0, 1] [] 0 (fun s21 y22 t23 h29 hd30 => ?_))
   refine qs (qr (oN 1 [(9, vb (decide (s21 < (x0.length : Int))))] [8, 7, 0, 1] ?_))
   refine oe (nt (qs (cC h29 (fun h35 => ?_) (fun h36 => ?_))))
   · refine qk (nt (qs (qb (qs (qr (oN 2 [(5, vi s21)] [8, 7, 0, 1] ?_))))))
     refine oe (nt (qs (qr (oN 3 [(13, vi s21), (12, .v (.slice a0_0 x0.length c0_0)), (11, .v (.func (.func 167) #[] #[.pointer (some ⟨g1_0, 0, none⟩), .pointer (some ⟨g1_1, 0, none⟩)]))] [5, 8, 7, 0, 1] ?_))))
     obtain ⟨x37, hx38, h39⟩ := bS h35
     refine oi 1 (fun γ w hs => (hv0_0.kept hs.kept)) hx38 ?_
     refine ol 3 0 (.int .i64 x37) (fun γ w hs => (hv0_0.kept hs.kept).flatq hx38) ?_
     obtain ⟨t40, h41, h42⟩ := bS h39
     refine k0 (fun γ w hs => c_impl_allWithin_1 h41 (hc1_0.kept hs.kept) (hc1_1.kept hs.kept)) ?_
     refine oe (nt (cC h42 (fun h45 => ?_) (fun h46 => ?_)))
     · refine qs (qr (oN 2 [(4, vi s21)] [] ?_))
       refine oe (nt (qe (br (nr (nr ?_)))))
       have h47 := leafR hd30 h45 h26
       refine br (nr (nr ?_))
       obtain rfl := sI h47
       exact re [.int .i64 s21]
     refine qk (bn (nt (qr (oN 2 [(8, vi (w64 (s21 + 1)))] [7, 0, 1] ?_))))
     exact oe (ct h46 () [8, 7, 0, 1] [] 0)
   refine qx (nx (nx (bh ?_)))
   have h48 := leafB hd30 h36 h26
   exact mp ((), ()) h48 [] [] 0
 have h33 := (congrFun hk28 _).symm.trans h33p
 refine nt (qs (qr (oN 1 [(4, vi (-1))] [] ?_)))
 refine oe (nt (qe ?_))
 obtain rfl := sI h33
 exact re [.int .i64 (-1)]

theorem c_slices_ContainsFunc_int__impl_allWithin_1 {W : World} {x0 : List Int} {a0_0 : Option Addr} {c0_0 : Nat} {g1_0 : Nat} {z1_0 : Int} {g1_1 : Nat} {z1_1 : Int} {r : Bool} (h : slices_ContainsFunc_int__impl_allWithin_1 x0 z1_0 z1_1 = some r) (hv0_0 : SlView W x0 a0_0 c0_0) (hc1_0 : CellsAt W (some ⟨g1_0, 0, none⟩) 0 [.int .i64 z1_0]) (hc1_1 : CellsAt W (some ⟨g1_1, 0, none⟩) 0 [.int .i64 z1_1]) :
    Gives0 Tryz.prog 166 #[.slice a0_0 x0.length c0_0, .func (.func 167) #[] #[.pointer (some ⟨g1_0, 0, none⟩), .pointer (some ⟨g1_1, 0, none⟩)]] W (.bool r) := by
 unfold slices_ContainsFunc_int__impl_allWithin_1 at h
 refine en Tryz.func166 Tryz.ntmps166 ?_
 refine qs (qr (oN 1 [] [0, 1] ?_))
 refine oe (nt (qs (qr (oN 2 [(6, .v (.func (.func 167) #[] #[.pointer (some ⟨g1_0, 0, none⟩), .pointer (some ⟨g1_1, 0, none⟩)])), (5, .v (.slice a0_0 x0.length c0_0))] [] ?_))))
 obtain ⟨t21, h22, h23⟩ := bS h
 refine k0 (fun γ w hs => c_slices_IndexFunc_int__impl_allWithin_1 h22 (hv0_0.kept hs.kept) (hc1_0.kept hs.kept) (hc1_1.kept hs.kept)) ?_
 refine oN 2 [(4, vb (decide (t21 ≥ 0)))] [] ?_
 refine oe (nt (qe ?_))
 obtain rfl := sI h23
 exact re [.bool (decide (t21 ≥ 0))]
end Go.Pen
