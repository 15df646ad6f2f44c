/-
  Each Go function does what its plain function says: written by a program of ours.
-/
import Derived.Test.YtnbcacemikahjaaF
import Derived.Test.YtnbcacemikahjaaProg
import Derived.Test.YtnbcacemikahjaaPenK
import Derived.Test.YtnbcacemikahjaaPenJ
namespace Go.Pen
open Go.Proofs Go.RowKit
set_option linter.unusedVariables false
set_option linter.unusedSimpArgs false
set_option maxRecDepth 100000
set_option maxHeartbeats 4000000

theorem c_laws_szNodeS {W : World} {x0 : List Node} {a0_0 : Option Addr} {c0_0 : Nat} {x1 : Int} {r : Int} (h : laws_szNodeS x0 x1 = some r) (hv0_0 : SlView W x0 a0_0 c0_0) :
    Gives0 Try.prog 92 #[.slice a0_0 x0.length c0_0, .int .i64 x1] W (.int .i64 r) := by
 unfold laws_szNodeS at h
 refine en Try.func92 Try.ntmps92 ?_
 refine qs (qr (oN 1 [] [0, 1] ?_))
 refine oe (nt (qs (qr (oN 5 [(1, vi (w64 (x1 - (x0.length : Int))))] [] ?_))))
 refine oe (nt (qs (qs (qr (oN 2 [(10, vb (decide ((w64 (x1 - (x0.length : Int))) < 0)))] [1] ?_)))))
 refine oe (nt (cC h (fun h22 => ?_) (fun h23 => ?_)))
 · refine qs (qr (oN 1 [(4, vi (-1))] [] ?_))
   refine oe (nt (qe (nr ?_)))
   obtain rfl := sI h22
   exact re [.int .i64 (-1)]
 refine qk (nt (qs (qr (oN 2 [(4, vi (w64 (x1 - (x0.length : Int))))] [] ?_))))
 refine oe (nt (qe ?_))
 obtain rfl := sI h23
 exact re [.int .i64 (w64 (x1 - (x0.length : Int)))]

theorem c_laws_szRule {W : World} {x0 : Rule} {a0_0 : Option Addr} {c0_0 : Nat} {x1 : Int} {r : Int} (h : laws_szRule x0 x1 = some r) (hv0_0 : SlView W x0.Nodes a0_0 c0_0) :
    Gives0 Try.prog 74 #[vRule x0 (a0_0, c0_0), .int .i64 x1] W (.int .i64 r) := by
 unfold laws_szRule at h
 refine en Try.func74 Try.ntmps74 ?_
 refine qs (qr (oB 2 [(2, .p 0 0)] [1] [(118, (eRule x0 (a0_0, c0_0)))] ?_))
 refine oe (nt (qs (qr (oN 3 [(7, vi x1), (6, .v (.slice a0_0 x0.Nodes.length c0_0))] [] ?_))))
 obtain ⟨t21, h22, h23⟩ := bS h
 refine k0 (fun γ w hs => c_laws_szNodeS h22 (hv0_0.kept hs.kept)) ?_
 refine oN 1 [(1, vi t21)] [] ?_
 refine oe (nt (qs (qs (qr (oN 2 [(10, vb (decide (t21 < 0)))] [1] ?_)))))
 refine oe (nt (cC h23 (fun h26 => ?_) (fun h27 => ?_)))
 · refine qs (qr (oN 1 [(4, vi (-1))] [] ?_))
   refine oe (nt (qe (nr ?_)))
   obtain rfl := sI h26
   exact re [.int .i64 (-1)]
 refine qk (nt (qs (qr (oN 2 [(4, vi t21)] [] ?_))))
 refine oe (nt (qe ?_))
 obtain rfl := sI h27
 exact re [.int .i64 t21]

theorem c_laws_szRuleS {W : World} {x0 : List Rule} {a0_0 : Option Addr} {c0_0 : Nat} {x1 : Int} {r : Int} (h : laws_szRuleS x0 x1 = some r) (hv0_0 : SlView W x0 a0_0 c0_0) :
    Gives0 Try.prog 38 #[.slice a0_0 x0.length c0_0, .int .i64 x1] W (.int .i64 r) := by
 unfold laws_szRuleS at h
 refine en Try.func38 Try.ntmps38 ?_
 refine qs (qr (oN 1 [] [0, 1] ?_))
 refine oe (nt (qs (qr (oN 5 [(1, vi (w64 (x1 - (x0.length : Int))))] [0] ?_))))
 refine oe (nt (qs (qs (qr (oN 2 [(11, vb (decide ((w64 (x1 - (x0.length : Int))) < 0)))] [1, 0] ?_)))))
 refine oe (nt (cC h (fun h22 => ?_) (fun h23 => ?_)))
 · refine qs (qr (oN 1 [(4, vi (-1))] [] ?_))
   refine oe (nt (qe (nr ?_)))
   obtain rfl := sI h22
   exact re [.int .i64 (-1)]
 refine qk (nt (qs (qs (qr (oN 1 [(5, vi 0)] [1, 0] ?_)))))
 refine oe (nt ?_)
 obtain ⟨r27, hL28, h29⟩ := bS h23
 obtain ⟨k30, hk31, h29⟩ := brkS h29
 refine JC_cutP (τ := (Int) × (Unit)) (fun y => k30 y.1 = some r) (fun y35 => [(1, vi y35.1)]) (fun y35 => []) (fun y35 => []) ?_ (fun y35 h36p => ?_)
 · refine qb (lp Unit hL28 (fun s24 y25 => [(5, vi s24.1), (1, vi s24.2), (0, .v (.slice a0_0 x0.length c0_0))]) (fun s24 y25 => []) (fun s24 y25 => []) () [5, 1, 0] [] 0 (fun s24 y25 t26 h32 hd33 => ?_))
   refine qs (qs (qr (oN 4 [(15, vb (decide (s24.1 < (x0.length : Int))))] [5, 1, 0] ?_)))
   refine oe (nt (cC h32 (fun h38 => ?_) (fun h39 => ?_)))
   · refine qk (nt (qs (qb (qs (qr (oN 2 [(19, vi s24.1), (18, .v (.slice a0_0 x0.length c0_0))] [5, 1, 0] ?_))))))
     obtain ⟨x40, hx41, h42⟩ := bS h38
     refine oi 7 (fun γ w hs => (hv0_0.kept hs.kept)) hx41 ?_
     obtain ⟨_, ⟨a43, c44, rfl, hv45⟩, hc46⟩ := SlView.at hv0_0 (idx_some hx41).2.2
     refine ol 118 0 (vRule x40 (a43, c44)) (fun γ w hs => ⟨(hv0_0.kept hs.kept).ne (idx_some hx41).2.2, hc46.kept hs.kept⟩) ?_
     refine oN 1 [(22, vi s24.2)] [21, 5, 0] ?_
     obtain ⟨t47, h48, h49⟩ := bS h42
     refine k0 (fun γ w hs => c_laws_szRule h48 (hv45.kept hs.kept)) ?_
     refine oN 1 [(1, vi t47)] [5, 0] ?_
     refine oe (nt (qs (qr (oN 2 [(25, vb (decide (t47 < 0)))] [1, 5, 0] ?_))))
     refine oe (nt (cC h49 (fun h52 => ?_) (fun h53 => ?_)))
     · refine qs (qr (oN 1 [(4, vi (-1))] [] ?_))
       refine oe (nt (qe (br (nr (nr ?_)))))
       have h54 := leafR hd33 h52 h29
       refine br (nr (nr ?_))
       obtain rfl := sI h54
       exact re [.int .i64 (-1)]
     refine qk (bn (nt (qr (oN 3 [(5, vi (w64 (s24.1 + 1)))] [1, 0] ?_))))
     exact oe (ct h53 () [5, 1, 0] [] 0)
   refine qx (nx (nx (bh ?_)))
   have h55 := leafB hd33 h39 h29
   exact mp (s24.2, ()) h55 [1] [] 0
 have h36 := (congrFun hk31 _).symm.trans h36p
 refine nt (qs (qr (oN 2 [(4, vi y35.1)] [] ?_)))
 refine oe (nt (qe ?_))
 obtain rfl := sI h36
 exact re [.int .i64 y35.1]

theorem c_laws_szBook {W : World} {x0 : Book} {a0_0 : Option Addr} {c0_0 : Nat} {x1 : Int} {r : Int} (h : laws_szBook x0 x1 = some r) (hv0_0 : SlView W x0.Rules a0_0 c0_0) :
    Gives0 Try.prog 11 #[vBook x0 (a0_0, c0_0), .int .i64 x1] W (.int .i64 r) := by
 unfold laws_szBook at h
 refine en Try.func11 Try.ntmps11 ?_
 refine qs (qr (oB 2 [(2, .p 0 0)] [1] [(24, (eBook x0 (a0_0, c0_0)))] ?_))
 refine oe (nt (qs (qr (oN 3 [(7, vi x1), (6, .v (.slice a0_0 x0.Rules.length c0_0))] [] ?_))))
 obtain ⟨t21, h22, h23⟩ := bS h
 refine k0 (fun γ w hs => c_laws_szRuleS h22 (hv0_0.kept hs.kept)) ?_
 refine oN 1 [(1, vi t21)] [] ?_
 refine oe (nt (qs (qs (qr (oN 2 [(10, vb (decide (t21 < 0)))] [1] ?_)))))
 refine oe (nt (cC h23 (fun h26 => ?_) (fun h27 => ?_)))
 · refine qs (qr (oN 1 [(4, vi (-1))] [] ?_))
   refine oe (nt (qe (nr ?_)))
   obtain rfl := sI h26
   exact re [.int .i64 (-1)]
 refine qk (nt (qs (qr (oN 2 [(4, vi t21)] [] ?_))))
 refine oe (nt (qe ?_))
 obtain rfl := sI h27
 exact re [.int .i64 t21]

theorem c_laws_szFactS {W : World} {x0 : List Fact} {a0_0 : Option Addr} {c0_0 : Nat} {x1 : Int} {r : Int} (h : laws_szFactS x0 x1 = some r) (hv0_0 : SlView W x0 a0_0 c0_0) :
    Gives0 Try.prog 39 #[.slice a0_0 x0.length c0_0, .int .i64 x1] W (.int .i64 r) := by
 unfold laws_szFactS at h
 refine en Try.func39 Try.ntmps39 ?_
 refine qs (qr (oN 1 [] [0, 1] ?_))
 refine oe (nt (qs (qr (oN 5 [(1, vi (w64 (x1 - (x0.length : Int))))] [] ?_))))
 refine oe (nt (qs (qs (qr (oN 2 [(10, vb (decide ((w64 (x1 - (x0.length : Int))) < 0)))] [1] ?_)))))
 refine oe (nt (cC h (fun h22 => ?_) (fun h23 => ?_)))
 · refine qs (qr (oN 1 [(4, vi (-1))] [] ?_))
   refine oe (nt (qe (nr ?_)))
   obtain rfl := sI h22
   exact re [.int .i64 (-1)]
 refine qk (nt (qs (qr (oN 2 [(4, vi (w64 (x1 - (x0.length : Int))))] [] ?_))))
 refine oe (nt (qe ?_))
 obtain rfl := sI h23
 exact re [.int .i64 (w64 (x1 - (x0.length : Int)))]

theorem c_laws_szStore {W : World} {x0 : Store} {a0_0 : Option Addr} {c0_0 : Nat} {x1 : Int} {r : Int} (h : laws_szStore x0 x1 = some r) (hv0_0 : SlView W x0.Facts a0_0 c0_0) :
    Gives0 Try.prog 12 #[vStore x0 (a0_0, c0_0), .int .i64 x1] W (.int .i64 r) := by
 unfold laws_szStore at h
 refine en Try.func12 Try.ntmps12 ?_
 refine qs (qr (oB 2 [(2, .p 0 0)] [1] [(27, (eStore x0 (a0_0, c0_0)))] ?_))
 refine oe (nt (qs (qr (oN 3 [(7, vi x1), (6, .v (.slice a0_0 x0.Facts.length c0_0))] [] ?_))))
 obtain ⟨t21, h22, h23⟩ := bS h
 refine k0 (fun γ w hs => c_laws_szFactS h22 (hv0_0.kept hs.kept)) ?_
 refine oN 1 [(1, vi t21)] [] ?_
 refine oe (nt (qs (qs (qr (oN 2 [(10, vb (decide (t21 < 0)))] [1] ?_)))))
 refine oe (nt (cC h23 (fun h26 => ?_) (fun h27 => ?_)))
 · refine qs (qr (oN 1 [(4, vi (-1))] [] ?_))
   refine oe (nt (qe (nr ?_)))
   obtain rfl := sI h26
   exact re [.int .i64 (-1)]
 refine qk (nt (qs (qr (oN 2 [(4, vi t21)] [] ?_))))
 refine oe (nt (qe ?_))
 obtain rfl := sI h27
 exact re [.int .i64 t21]

theorem c_laws_szPointS {W : World} {x0 : List Point} {a0_0 : Option Addr} {c0_0 : Nat} {x1 : Int} {r : Int} (h : laws_szPointS x0 x1 = some r) (hv0_0 : SlView W x0 a0_0 c0_0) :
    Gives0 Try.prog 40 #[.slice a0_0 x0.length c0_0, .int .i64 x1] W (.int .i64 r) := by
 unfold laws_szPointS at h
 refine en Try.func40 Try.ntmps40 ?_
 refine qs (qr (oN 1 [] [0, 1] ?_))
 refine oe (nt (qs (qr (oN 5 [(1, vi (w64 (x1 - (x0.length : Int))))] [] ?_))))
 refine oe (nt (qs (qs (qr (oN 2 [(10, vb (decide ((w64 (x1 - (x0.length : Int))) < 0)))] [1] ?_)))))
 refine oe (nt (cC h (fun h22 => ?_) (fun h23 => ?_)))
 · refine qs (qr (oN 1 [(4, vi (-1))] [] ?_))
   refine oe (nt (qe (nr ?_)))
   obtain rfl := sI h22
   exact re [.int .i64 (-1)]
 refine qk (nt (qs (qr (oN 2 [(4, vi (w64 (x1 - (x0.length : Int))))] [] ?_))))
 refine oe (nt (qe ?_))
 obtain rfl := sI h23
 exact re [.int .i64 (w64 (x1 - (x0.length : Int)))]

theorem c_laws_szSeries {W : World} {x0 : Series} {a0_0 : Option Addr} {c0_0 : Nat} {x1 : Int} {r : Int} (h : laws_szSeries x0 x1 = some r) (hv0_0 : SlView W x0.Points a0_0 c0_0) :
    Gives0 Try.prog 13 #[vSeries x0 (a0_0, c0_0), .int .i64 x1] W (.int .i64 r) := by
 unfold laws_szSeries at h
 refine en Try.func13 Try.ntmps13 ?_
 refine qs (qr (oB 2 [(2, .p 0 0)] [1] [(30, (eSeries x0 (a0_0, c0_0)))] ?_))
 refine oe (nt (qs (qr (oN 3 [(7, vi x1), (6, .v (.slice a0_0 x0.Points.length c0_0))] [] ?_))))
 obtain ⟨t21, h22, h23⟩ := bS h
 refine k0 (fun γ w hs => c_laws_szPointS h22 (hv0_0.kept hs.kept)) ?_
 refine oN 1 [(1, vi t21)] [] ?_
 refine oe (nt (qs (qs (qr (oN 2 [(10, vb (decide (t21 < 0)))] [1] ?_)))))
 refine oe (nt (cC h23 (fun h26 => ?_) (fun h27 => ?_)))
 · refine qs (qr (oN 1 [(4, vi (-1))] [] ?_))
   refine oe (nt (qe (nr ?_)))
   obtain rfl := sI h26
   exact re [.int .i64 (-1)]
 refine qk (nt (qs (qr (oN 2 [(4, vi t21)] [] ?_))))
 refine oe (nt (qe ?_))
 obtain rfl := sI h27
 exact re [.int .i64 t21]

theorem c_laws_szSpellS {W : World} {x0 : List Spell} {a0_0 : Option Addr} {c0_0 : Nat} {x1 : Int} {r : Int} (h : laws_szSpellS x0 x1 = some r) (hv0_0 : SlView W x0 a0_0 c0_0) :
    Gives0 Try.prog 41 #[.slice a0_0 x0.length c0_0, .int .i64 x1] W (.int .i64 r) := by
 unfold laws_szSpellS at h
 refine en Try.func41 Try.ntmps41 ?_
 refine qs (qr (oN 1 [] [0, 1] ?_))
 refine oe (nt (qs (qr (oN 5 [(1, vi (w64 (x1 - (x0.length : Int))))] [] ?_))))
 refine oe (nt (qs (qs (qr (oN 2 [(10, vb (decide ((w64 (x1 - (x0.length : Int))) < 0)))] [1] ?_)))))
 refine oe (nt (cC h (fun h22 => ?_) (fun h23 => ?_)))
 · refine qs (qr (oN 1 [(4, vi (-1))] [] ?_))
   refine oe (nt (qe (nr ?_)))
   obtain rfl := sI h22
   exact re [.int .i64 (-1)]
 refine qk (nt (qs (qr (oN 2 [(4, vi (w64 (x1 - (x0.length : Int))))] [] ?_))))
 refine oe (nt (qe ?_))
 obtain rfl := sI h23
 exact re [.int .i64 (w64 (x1 - (x0.length : Int)))]

theorem c_laws_szEventS {W : World} {x0 : List Event} {a0_0 : Option Addr} {c0_0 : Nat} {x1 : Int} {r : Int} (h : laws_szEventS x0 x1 = some r) (hv0_0 : SlView W x0 a0_0 c0_0) :
    Gives0 Try.prog 42 #[.slice a0_0 x0.length c0_0, .int .i64 x1] W (.int .i64 r) := by
 unfold laws_szEventS at h
 refine en Try.func42 Try.ntmps42 ?_
 refine qs (qr (oN 1 [] [0, 1] ?_))
 refine oe (nt (qs (qr (oN 5 [(1, vi (w64 (x1 - (x0.length : Int))))] [] ?_))))
 refine oe (nt (qs (qs (qr (oN 2 [(10, vb (decide ((w64 (x1 - (x0.length : Int))) < 0)))] [1] ?_)))))
 refine oe (nt (cC h (fun h22 => ?_) (fun h23 => ?_)))
 · refine qs (qr (oN 1 [(4, vi (-1))] [] ?_))
   refine oe (nt (qe (nr ?_)))
   obtain rfl := sI h22
   exact re [.int .i64 (-1)]
 refine qk (nt (qs (qr (oN 2 [(4, vi (w64 (x1 - (x0.length : Int))))] [] ?_))))
 refine oe (nt (qe ?_))
 obtain rfl := sI h23
 exact re [.int .i64 (w64 (x1 - (x0.length : Int)))]

theorem c_laws_szMember {W : World} {x0 : Member} {b0 : AC × AC} {x1 : Int} {r : Int} (h : laws_szMember x0 x1 = some r) (hv0_0 : SlView W x0.Spells b0.1.1 b0.1.2) (hv0_1 : SlView W x0.Events b0.2.1 b0.2.2) :
    Gives0 Try.prog 14 #[vMember x0 b0, .int .i64 x1] W (.int .i64 r) := by
 unfold laws_szMember at h
 refine en Try.func14 Try.ntmps14 ?_
 refine qs (qr (oB 2 [(2, .p 0 0)] [1] [(34, (eMember x0 b0))] ?_))
 refine oe (nt (qs (qr (oN 3 [(7, vi x1), (6, .v (.slice b0.1.1 x0.Spells.length b0.1.2))] [2] ?_))))
 obtain ⟨t21, h22, h23⟩ := bS h
 refine k0 (fun γ w hs => c_laws_szSpellS h22 (hv0_0.kept hs.kept)) ?_
 refine oN 1 [(1, vi t21)] [2] ?_
 refine oe (nt (qs (qs (qr (oN 2 [(10, vb (decide (t21 < 0)))] [1, 2] ?_)))))
 refine oe (nt (cC h23 (fun h26 => ?_) (fun h27 => ?_)))
 · refine qs (qr (oN 1 [(4, vi (-1))] [] ?_))
   refine oe (nt (qe (nr ?_)))
   obtain rfl := sI h26
   exact re [.int .i64 (-1)]
 refine qk (nt (qs (qr (oN 3 [(13, vi t21), (12, .v (.slice b0.2.1 x0.Events.length b0.2.2))] [] ?_))))
 obtain ⟨t28, h29, h30⟩ := bS h27
 refine k0 (fun γ w hs => c_laws_szEventS h29 (hv0_1.kept hs.kept)) ?_
 refine oN 1 [(1, vi t28)] [] ?_
 refine oe (nt (qs (qs (qr (oN 2 [(16, vb (decide (t28 < 0)))] [1] ?_)))))
 refine oe (nt (cC h30 (fun h33 => ?_) (fun h34 => ?_)))
 · refine qs (qr (oN 1 [(4, vi (-1))] [] ?_))
   refine oe (nt (qe (nr ?_)))
   obtain rfl := sI h33
   exact re [.int .i64 (-1)]
 refine qk (nt (qs (qr (oN 2 [(4, vi t28)] [] ?_))))
 refine oe (nt (qe ?_))
 obtain rfl := sI h34
 exact re [.int .i64 t28]

theorem c_laws_szCase {W : World} {x0 : Case} {b0 : AC × AC × AC × AC × AC} {x1 : Int} {r : Int} (h : laws_szCase x0 x1 = some r) (hv0_0 : SlView W x0.Book.Rules b0.1.1 b0.1.2) (hv0_1 : SlView W x0.Store.Facts b0.2.1.1 b0.2.1.2) (hv0_2 : SlView W x0.Series.Points b0.2.2.1.1 b0.2.2.1.2) (hv0_3 : SlView W x0.Member.Spells b0.2.2.2.1.1 b0.2.2.2.1.2) (hv0_4 : SlView W x0.Member.Events b0.2.2.2.2.1 b0.2.2.2.2.2) :
    Gives0 Try.prog 4 #[vCase x0 b0, .int .i64 x1] W (.int .i64 r) := by
 unfold laws_szCase at h
 refine en Try.func4 Try.ntmps4 ?_
 refine qs (qr (oB 2 [(2, .p 0 0)] [1] [(36, (eCase x0 b0))] ?_))
 refine oe (nt (qs (qr (oN 3 [(7, vi x1), (6, .v (vBook x0.Book b0.1))] [2] ?_))))
 obtain ⟨t21, h22, h23⟩ := bS h
 refine k0 (fun γ w hs => c_laws_szBook h22 (hv0_0.kept hs.kept)) ?_
 refine oN 1 [(1, vi t21)] [2] ?_
 refine oe (nt (qs (qs (qr (oN 2 [(10, vb (decide (t21 < 0)))] [1, 2] ?_)))))
 refine oe (nt (cC h23 (fun h26 => ?_) (fun h27 => ?_)))
 · refine qs (qr (oN 1 [(4, vi (-1))] [] ?_))
   refine oe (nt (qe (nr ?_)))
   obtain rfl := sI h26
   exact re [.int .i64 (-1)]
 refine qk (nt (qs (qr (oN 3 [(13, vi t21), (12, .v (vStore x0.Store b0.2.1))] [2] ?_))))
 obtain ⟨t28, h29, h30⟩ := bS h27
 refine k0 (fun γ w hs => c_laws_szStore h29 (hv0_1.kept hs.kept)) ?_
 refine oN 1 [(1, vi t28)] [2] ?_
 refine oe (nt (qs (qs (qr (oN 2 [(16, vb (decide (t28 < 0)))] [1, 2] ?_)))))
 refine oe (nt (cC h30 (fun h33 => ?_) (fun h34 => ?_)))
 · refine qs (qr (oN 1 [(4, vi (-1))] [] ?_))
   refine oe (nt (qe (nr ?_)))
   obtain rfl := sI h33
   exact re [.int .i64 (-1)]
 refine qk (nt (qs (qr (oN 3 [(19, vi t28), (18, .v (vSeries x0.Series b0.2.2.1))] [2] ?_))))
 obtain ⟨t35, h36, h37⟩ := bS h34
 refine k0 (fun γ w hs => c_laws_szSeries h36 (hv0_2.kept hs.kept)) ?_
 refine oN 1 [(1, vi t35)] [2] ?_
 refine oe (nt (qs (qs (qr (oN 2 [(22, vb (decide (t35 < 0)))] [1, 2] ?_)))))
 refine oe (nt (cC h37 (fun h40 => ?_) (fun h41 => ?_)))
 · refine qs (qr (oN 1 [(4, vi (-1))] [] ?_))
   refine oe (nt (qe (nr ?_)))
   obtain rfl := sI h40
   exact re [.int .i64 (-1)]
 refine qk (nt (qs (qr (oN 3 [(25, vi t35), (24, .v (vMember x0.Member b0.2.2.2))] [] ?_))))
 obtain ⟨t42, h43, h44⟩ := bS h41
 refine k0 (fun γ w hs => c_laws_szMember (b0 := b0.2.2.2) h43 (hv0_3.kept hs.kept) (hv0_4.kept hs.kept)) ?_
 refine oN 1 [(1, vi t42)] [] ?_
 refine oe (nt (qs (qs (qr (oN 2 [(28, vb (decide (t42 < 0)))] [1] ?_)))))
 refine oe (nt (cC h44 (fun h47 => ?_) (fun h48 => ?_)))
 · refine qs (qr (oN 1 [(4, vi (-1))] [] ?_))
   refine oe (nt (qe (nr ?_)))
   obtain rfl := sI h47
   exact re [.int .i64 (-1)]
 refine qk (nt (qs (qr (oN 2 [(4, vi t42)] [] ?_))))
 refine oe (nt (qe ?_))
 obtain rfl := sI h48
 exact re [.int .i64 t42]

theorem c_laws_toFrac {W : World} {x0 : Frac} {r : Frac} (h : laws_toFrac x0 = some r)  :
    Gives0 Try.prog 98 #[vFrac x0] W (vFrac r) := by
 unfold laws_toFrac at h
 refine en Try.func98 Try.ntmps98 ?_
 refine qs (qr (oB 2 [(2, .p 1 0), (1, .p 0 0)] [] [(151, (eFrac x0)), (146, (eFrac (Frac.mk 0 0)))] ?_))
 refine oe (nt (qs (qr (oB 1 [(3, .p 2 0)] [2, 1] [(151, (eFrac x0)), (146, (eFrac (Frac.mk 0 0))), (146, (eFrac (Frac.mk 0 0)))] ?_))))
 refine oe (nt (qs (qr (oB 4 [] [3, 2, 1] [(151, (eFrac x0)), (146, (eFrac (Frac.mk 0 0))), (146, (eFrac (Frac.mk x0.Num 0)))] ?_))))
 refine oe (nt (qs (qr (oB 4 [] [3, 2] [(151, (eFrac x0)), (146, (eFrac (Frac.mk 0 0))), (146, (eFrac x0))] ?_))))
 refine oe (nt (qs (qr (oB 2 [] [2] [(151, (eFrac x0)), (146, (eFrac x0)), (146, (eFrac x0))] ?_))))
 refine oe (nt (qe ?_))
 obtain rfl := sI h
 exact re [vFrac x0]

theorem c_laws_toNode {W : World} {x0 : Node} {r : Node} (h : laws_toNode x0 = some r)  :
    Gives0 Try.prog 96 #[vNode x0] W (vNode r) := by
 unfold laws_toNode at h
 refine en Try.func96 Try.ntmps96 ?_
 refine qs (qr (oB 2 [(2, .p 1 0), (1, .p 0 0)] [] [(153, (eNode x0)), (148, (eNode (Node.mk 0 0 0 0 (Frac.mk 0 0))))] ?_))
 refine oe (nt (qs (qr (oB 1 [(3, .p 2 0)] [2, 1] [(153, (eNode x0)), (148, (eNode (Node.mk 0 0 0 0 (Frac.mk 0 0)))), (148, (eNode (Node.mk 0 0 0 0 (Frac.mk 0 0))))] ?_))))
 refine oe (nt (qs (qr (oB 4 [] [3, 2, 1] [(153, (eNode x0)), (148, (eNode (Node.mk 0 0 0 0 (Frac.mk 0 0)))), (148, (eNode (Node.mk x0.Kind 0 0 0 (Frac.mk 0 0))))] ?_))))
 refine oe (nt (qs (qr (oB 4 [] [3, 2, 1] [(153, (eNode x0)), (148, (eNode (Node.mk 0 0 0 0 (Frac.mk 0 0)))), (148, (eNode (Node.mk x0.Kind x0.A 0 0 (Frac.mk 0 0))))] ?_))))
 refine oe (nt (qs (qr (oB 4 [] [3, 2, 1] [(153, (eNode x0)), (148, (eNode (Node.mk 0 0 0 0 (Frac.mk 0 0)))), (148, (eNode (Node.mk x0.Kind x0.A x0.B 0 (Frac.mk 0 0))))] ?_))))
 refine oe (nt (qs (qr (oB 4 [] [3, 2, 1] [(153, (eNode x0)), (148, (eNode (Node.mk 0 0 0 0 (Frac.mk 0 0)))), (148, (eNode (Node.mk x0.Kind x0.A x0.B x0.C (Frac.mk 0 0))))] ?_))))
 refine oe (nt (qs (qr (oN 2 [(17, .v (vFrac x0.Value))] [3, 2] ?_))))
 obtain ⟨t21, h22, h23⟩ := bS h
 refine k0 (fun γ w hs => c_laws_toFrac h22) ?_
 refine oB 2 [] [3, 2] [(153, (eNode x0)), (148, (eNode (Node.mk 0 0 0 0 (Frac.mk 0 0)))), (148, (eNode (Node.mk x0.Kind x0.A x0.B x0.C t21)))] ?_
 refine oe (nt (qs (qr (oB 2 [] [2] [(153, (eNode x0)), (148, (eNode (Node.mk x0.Kind x0.A x0.B x0.C t21))), (148, (eNode (Node.mk x0.Kind x0.A x0.B x0.C t21)))] ?_))))
 refine oe (nt (qe ?_))
 obtain rfl := sI h23
 exact re [vNode (Node.mk x0.Kind x0.A x0.B x0.C t21)]

theorem c_laws_toNodeS {W : World} {x0 : List Node} {a0_0 : Option Addr} {c0_0 : Nat} {r : (List Node)} (h : laws_toNodeS x0 = some r) (hv0_0 : SlView W x0 a0_0 c0_0) :
    Gives Try.prog 93 #[.slice a0_0 x0.length c0_0] W (fun y : AC => .slice y.1 r.length y.2) (fun y => [SlRes 148 r y.1 y.2]) := by
 unfold laws_toNodeS at h
 refine en Try.func93 Try.ntmps93 ?_
 refine qs (qr (oN 1 [] [0] ?_))
 refine oe (nt (qs (qr (oN 2 [(6, vi (x0.length : Int))] [0] ?_))))
 obtain ⟨l22, hm23, h24⟩ := bS h
 refine JO_make (α := Node) rfl (by kernel_rfl) (t := 84) (e := 148) (m := (x0.length : Int)) (by kernel_rfl) (i := Try.t148) (by kernel_rfl) (z := (vNode (Node.mk 0 0 0 0 (Frac.mk 0 0)))) (by kernel_rfl) (by kernel_rfl) (by kernel_rfl) (by kernel_rfl) (fun w => ⟨rfl, rfl⟩) hm23 _ (fun _ => rfl) (fun y21 => ?_)
 refine oN 1 [(3, .v (.slice y21.1 l22.length y21.2))] [0] ?_
 refine oe (nt (qs (qs (qr (oN 1 [(4, vi 0)] [3, 0] ?_)))))
 refine oe (nt ?_)
 obtain ⟨r28, hL29, h30⟩ := bS h24
 obtain ⟨k31, hk32, h30⟩ := brkS h30
 refine JC_cutP (τ := ((List Node)) × (Unit)) (fun y => k31 y.1 = some r) (fun y36 => [(3, .v (.slice y21.1 y36.1.length y21.2))]) (fun y36 => []) (fun y36 => [SlRes 148 y36.1 y21.1 y21.2]) ?_ (fun y36 h37p => ?_)
 · refine qb (lp Unit hL29 (fun s25 y26 => [(4, vi s25.1), (3, .v (.slice y21.1 s25.2.length y21.2)), (0, .v (.slice a0_0 x0.length c0_0))]) (fun s25 y26 => []) (fun s25 y26 => [SlRes 148 s25.2 y21.1 y21.2]) () [4, 3, 0] [0] 0 (fun s25 y26 t27 h33 hd34 => ?_))
   refine qs (qs (qr (oN 4 [(11, vb (decide (s25.1 < (x0.length : Int))))] [4, 3, 0] ?_)))
   refine oe (nt (cC h33 (fun h39 => ?_) (fun h40 => ?_)))
   · refine qk (nt (qs (qb (qr (oN 4 [(17, vi s25.1), (16, .v (.slice a0_0 x0.length c0_0)), (15, vi s25.1), (14, .v (.slice y21.1 s25.2.length y21.2))] [4, 3, 0] ?_)))))
     obtain ⟨x41, hx42, h43⟩ := bS h39
     refine oi 6 (fun γ w hs => (hv0_0.kept hs.kept)) hx42 ?_
     refine ol 153 0 (vNode x41) (fun γ w hs => (hv0_0.kept hs.kept).flatq hx42) ?_
     obtain ⟨t44, h45, h46⟩ := bS h43
     refine k0 (fun γ w hs => c_laws_toNode h45) ?_
     obtain ⟨x48, hx49, h50⟩ := bS h46
     refine oi 6 (fun γ w hs => (hs.view 0 rfl)) hx49 ?_
     obtain ⟨l51, hm52, h53⟩ := bS h50
     replace hm52 := (sI hm52).symm
     refine JO_storeq (α := Node) (d := y21.1) (vs := [.int .i64 t44.Kind, .int .i64 t44.A, .int .i64 t44.B, .int .i64 t44.C, .int .i64 t44.Value.Num, .int .i64 t44.Value.Den]) (j := s25.1) (x' := t44) rfl (by kernel_rfl) 0 (by kernel_rfl) hx49 (Rc := []) (Rr := []) rfl (by kernel_rfl) (fun w c F Fs ho _ _ => own_flat_set (by kernel_rfl) ho) hm52 rfl ?_
     have hl54 := len_set hm52
     refine JO_keep [20, 19, 18, 17, 16, 15, 14, 4, 3, 0] (sl' := [(20, .v (vNode t44)), (19, .v (vNode x41)), (18, .q a0_0 (Int.toNat s25.1 * 6)), (17, vi s25.1), (16, .v (.slice a0_0 x0.length c0_0)), (15, vi s25.1), (14, .v (.slice y21.1 s25.2.length y21.2)), (4, vi s25.1), (3, .v (.slice y21.1 s25.2.length y21.2)), (0, .v (.slice a0_0 x0.length c0_0))]) (by kernel_rfl) ?_
     refine JO_eqE (sl' := [(20, .v (vNode t44)), (19, .v (vNode x41)), (18, .q a0_0 (Int.toNat s25.1 * 6)), (17, vi s25.1), (16, .v (.slice a0_0 x0.length c0_0)), (15, vi s25.1), (14, .v (.slice y21.1 l51.length y21.2)), (4, vi s25.1), (3, .v (.slice y21.1 l51.length y21.2)), (0, .v (.slice a0_0 x0.length c0_0))]) (bx' := []) (by simp only [eNode, vNode, hl54]) rfl ?_
     refine oe (bn (nt (qr (oN 3 [(4, vi (w64 (s25.1 + 1)))] [3, 0] ?_))))
     exact oe (ct h53 () [4, 3, 0] [0] 0)
   refine qx (nx (nx (bh ?_)))
   have h55 := leafB hd34 h40 h30
   exact mp (s25.2, ()) h55 [3] [0] 0
 have h37 := (congrFun hk32 _).symm.trans h37p
 refine nt (qs (qr (oN 2 [(2, .v (.slice y21.1 y36.1.length y21.2))] [] ?_)))
 refine oe (nt (qe (rt [.slice y21.1 y36.1.length y21.2] (fun γ w hs => ?_))))
 rw [← sI h37]
 exact ⟨y21, rfl, hs.kept.toBelow, (hs.takeR (is := [0]) rfl).fresh⟩

theorem c_laws_toRule {W : World} {x0 : Rule} {a0_0 : Option Addr} {c0_0 : Nat} {r : Rule} (h : laws_toRule x0 = some r) (hv0_0 : SlView W x0.Nodes a0_0 c0_0) :
    Gives Try.prog 75 #[vRule x0 (a0_0, c0_0)] W (fun y : AC => vRule r y) (fun y => [SlRes 148 r.Nodes y.1 y.2]) := by
 unfold laws_toRule at h
 refine en Try.func75 Try.ntmps75 ?_
 refine qs (qr (oB 2 [(2, .p 1 0), (1, .p 0 0)] [] [(118, (eRule x0 (a0_0, c0_0))), (86, (eRule (Rule.mk 0 0 0 0 0 0 ([] : List Node)) (none, 0)))] ?_))
 refine oe (nt (qs (qr (oB 1 [(3, .p 2 0)] [2, 1] [(118, (eRule x0 (a0_0, c0_0))), (86, (eRule (Rule.mk 0 0 0 0 0 0 ([] : List Node)) (none, 0))), (86, (eRule (Rule.mk 0 0 0 0 0 0 ([] : List Node)) (none, 0)))] ?_))))
 refine oe (nt (qs (qr (oB 4 [] [3, 2, 1] [(118, (eRule x0 (a0_0, c0_0))), (86, (eRule (Rule.mk 0 0 0 0 0 0 ([] : List Node)) (none, 0))), (86, (eRule (Rule.mk x0.Name 0 0 0 0 0 ([] : List Node)) (none, 0)))] ?_))))
 refine oe (nt (qs (qr (oB 4 [] [3, 2, 1] [(118, (eRule x0 (a0_0, c0_0))), (86, (eRule (Rule.mk 0 0 0 0 0 0 ([] : List Node)) (none, 0))), (86, (eRule (Rule.mk x0.Name x0.From 0 0 0 0 ([] : List Node)) (none, 0)))] ?_))))
 refine oe (nt (qs (qr (oB 4 [] [3, 2, 1] [(118, (eRule x0 (a0_0, c0_0))), (86, (eRule (Rule.mk 0 0 0 0 0 0 ([] : List Node)) (none, 0))), (86, (eRule (Rule.mk x0.Name x0.From x0.To 0 0 0 ([] : List Node)) (none, 0)))] ?_))))
 refine oe (nt (qs (qr (oB 4 [] [3, 2, 1] [(118, (eRule x0 (a0_0, c0_0))), (86, (eRule (Rule.mk 0 0 0 0 0 0 ([] : List Node)) (none, 0))), (86, (eRule (Rule.mk x0.Name x0.From x0.To x0.Joined 0 0 ([] : List Node)) (none, 0)))] ?_))))
 refine oe (nt (qs (qr (oB 4 [] [3, 2, 1] [(118, (eRule x0 (a0_0, c0_0))), (86, (eRule (Rule.mk 0 0 0 0 0 0 ([] : List Node)) (none, 0))), (86, (eRule (Rule.mk x0.Name x0.From x0.To x0.Joined x0.Rank 0 ([] : List Node)) (none, 0)))] ?_))))
 refine oe (nt (qs (qr (oB 4 [] [3, 2, 1] [(118, (eRule x0 (a0_0, c0_0))), (86, (eRule (Rule.mk 0 0 0 0 0 0 ([] : List Node)) (none, 0))), (86, (eRule (Rule.mk x0.Name x0.From x0.To x0.Joined x0.Rank x0.Mode ([] : List Node)) (none, 0)))] ?_))))
 refine oe (nt (qs (qr (oN 2 [(23, .v (.slice a0_0 x0.Nodes.length c0_0))] [3, 2] ?_))))
 obtain ⟨t21, h22, h23⟩ := bS h
 refine k1 (fun γ w hs => c_laws_toNodeS h22 (hv0_0.kept hs.kept)) (fun y24 => ?_)
 refine oB 2 [] [3, 2] [(118, (eRule x0 (a0_0, c0_0))), (86, (eRule (Rule.mk 0 0 0 0 0 0 ([] : List Node)) (none, 0))), (86, (eRule (Rule.mk x0.Name x0.From x0.To x0.Joined x0.Rank x0.Mode t21) y24))] ?_
 refine oe (nt (qs (qr (oB 2 [] [2] [(118, (eRule x0 (a0_0, c0_0))), (86, (eRule (Rule.mk x0.Name x0.From x0.To x0.Joined x0.Rank x0.Mode t21) y24)), (86, (eRule (Rule.mk x0.Name x0.From x0.To x0.Joined x0.Rank x0.Mode t21) y24))] ?_))))
 refine oe (nt (qe (rt [vRule (Rule.mk x0.Name x0.From x0.To x0.Joined x0.Rank x0.Mode t21) y24] (fun γ w hs => ?_))))
 rw [← sI h23]
 exact ⟨y24, rfl, hs.kept.toBelow, (hs.takeR (is := [0]) rfl).fresh⟩

theorem c_laws_toRuleS {W : World} {x0 : List Rule} {a0_0 : Option Addr} {c0_0 : Nat} {r : (List Rule)} (h : laws_toRuleS x0 = some r) (hv0_0 : SlView W x0 a0_0 c0_0) :
    Gives Try.prog 44 #[.slice a0_0 x0.length c0_0] W (fun y : AC => .slice y.1 r.length y.2) (fun y => [SlRes 86 r y.1 y.2]) := by
 unfold laws_toRuleS at h
 refine en Try.func44 Try.ntmps44 ?_
 refine qs (qr (oN 1 [] [0] ?_))
 refine oe (nt (qs (qr (oN 2 [(6, vi (x0.length : Int))] [0] ?_))))
 obtain ⟨l22, hm23, h24⟩ := bS h
 refine JO_make (α := Rule) rfl (by kernel_rfl) (t := 38) (e := 86) (m := (x0.length : Int)) (by kernel_rfl) (i := Try.t86) (by kernel_rfl) (z := (vRule (Rule.mk 0 0 0 0 0 0 ([] : List Node)) (none, 0))) (by kernel_rfl) (by kernel_rfl) (by kernel_rfl) (by kernel_rfl) (fun w => ⟨0, none, 0, [], rfl, rfl, .inl ⟨rfl, rfl, rfl⟩⟩) hm23 _ (fun _ => rfl) (fun y21 => ?_)
 refine oN 1 [(3, .v (.slice y21.1 l22.length y21.2))] [0] ?_
 refine oe (nt (qs (qs (qr (oN 1 [(4, vi 0)] [3, 0] ?_)))))
 refine oe (nt ?_)
 obtain ⟨r28, hL29, h30⟩ := bS h24
 obtain ⟨k31, hk32, h30⟩ := brkS h30
 refine JC_cutP (τ := ((List Rule)) × (Unit)) (fun y => k31 y.1 = some r) (fun y36 => [(3, .v (.slice y21.1 y36.1.length y21.2))]) (fun y36 => []) (fun y36 => [SlRes 86 y36.1 y21.1 y21.2]) ?_ (fun y36 h37p => ?_)
 · refine qb (lp Unit hL29 (fun s25 y26 => [(4, vi s25.1), (3, .v (.slice y21.1 s25.2.length y21.2)), (0, .v (.slice a0_0 x0.length c0_0))]) (fun s25 y26 => []) (fun s25 y26 => [SlRes 86 s25.2 y21.1 y21.2]) () [4, 3, 0] [0] 0 (fun s25 y26 t27 h33 hd34 => ?_))
   refine qs (qs (qr (oN 4 [(11, vb (decide (s25.1 < (x0.length : Int))))] [4, 3, 0] ?_)))
   refine oe (nt (cC h33 (fun h39 => ?_) (fun h40 => ?_)))
   · refine qk (nt (qs (qb (qr (oN 4 [(17, vi s25.1), (16, .v (.slice a0_0 x0.length c0_0)), (15, vi s25.1), (14, .v (.slice y21.1 s25.2.length y21.2))] [4, 3, 0] ?_)))))
     obtain ⟨x41, hx42, h43⟩ := bS h39
     refine oi 7 (fun γ w hs => (hv0_0.kept hs.kept)) hx42 ?_
     obtain ⟨_, ⟨a44, c45, rfl, hv46⟩, hc47⟩ := SlView.at hv0_0 (idx_some hx42).2.2
     refine ol 118 0 (vRule x41 (a44, c45)) (fun γ w hs => ⟨(hv0_0.kept hs.kept).ne (idx_some hx42).2.2, hc47.kept hs.kept⟩) ?_
     obtain ⟨t48, h49, h50⟩ := bS h43
     refine k1 (fun γ w hs => c_laws_toRule h49 (hv46.kept hs.kept)) (fun y51 => ?_)
     obtain ⟨x52, hx53, h54⟩ := bS h50
     refine oi 7 (fun γ w hs => (hs.view 1 rfl)) hx53 ?_
     obtain ⟨l55, hm56, h57⟩ := bS h54
     replace hm56 := (sI hm56).symm
     refine JO_storeq (α := Rule) (d := y21.1) (vs := [.int .i64 t48.Name, .int .i64 t48.From, .int .i64 t48.To, .int .i64 t48.Joined, .int .i64 t48.Rank, .int .i64 t48.Mode, .slice y51.1 t48.Nodes.length y51.2]) (j := s25.1) (x' := t48) rfl (by kernel_rfl) 0 (by kernel_rfl) hx53 (Rc := [SlRes 148 t48.Nodes y51.1 y51.2]) (Rr := []) rfl (by kernel_rfl) (own_full rfl (by rintro w Fs ⟨G0, _, rfl, h0, rfl⟩; exact ⟨148, y51.1, y51.2, G0, by simp, rfl, h0⟩)) hm56 rfl ?_
     have hl58 := len_set hm56
     refine JO_keep [20, 19, 18, 17, 16, 15, 14, 4, 3, 0] (sl' := [(20, .v (vRule t48 y51)), (19, .v (vRule x41 (a44, c45))), (18, .q a0_0 (Int.toNat s25.1 * 7)), (17, vi s25.1), (16, .v (.slice a0_0 x0.length c0_0)), (15, vi s25.1), (14, .v (.slice y21.1 s25.2.length y21.2)), (4, vi s25.1), (3, .v (.slice y21.1 s25.2.length y21.2)), (0, .v (.slice a0_0 x0.length c0_0))]) (by kernel_rfl) ?_
     refine JO_eqE (sl' := [(20, .v (vRule t48 y51)), (19, .v (vRule x41 (a44, c45))), (18, .q a0_0 (Int.toNat s25.1 * 7)), (17, vi s25.1), (16, .v (.slice a0_0 x0.length c0_0)), (15, vi s25.1), (14, .v (.slice y21.1 l55.length y21.2)), (4, vi s25.1), (3, .v (.slice y21.1 l55.length y21.2)), (0, .v (.slice a0_0 x0.length c0_0))]) (bx' := []) (by simp only [eRule, vRule, hl58]) rfl ?_
     refine oe (bn (nt (qr (oN 3 [(4, vi (w64 (s25.1 + 1)))] [3, 0] ?_))))
     exact oe (ct h57 () [4, 3, 0] [0] 0)
   refine qx (nx (nx (bh ?_)))
   have h59 := leafB hd34 h40 h30
   exact mp (s25.2, ()) h59 [3] [0] 0
 have h37 := (congrFun hk32 _).symm.trans h37p
 refine nt (qs (qr (oN 2 [(2, .v (.slice y21.1 y36.1.length y21.2))] [] ?_)))
 refine oe (nt (qe (rt [.slice y21.1 y36.1.length y21.2] (fun γ w hs => ?_))))
 rw [← sI h37]
 exact ⟨y21, rfl, hs.kept.toBelow, (hs.takeR (is := [0]) rfl).fresh⟩

theorem c_laws_toBook {W : World} {x0 : Book} {a0_0 : Option Addr} {c0_0 : Nat} {r : Book} (h : laws_toBook x0 = some r) (hv0_0 : SlView W x0.Rules a0_0 c0_0) :
    Gives Try.prog 19 #[vBook x0 (a0_0, c0_0)] W (fun y : AC => vBook r y) (fun y => [SlRes 86 r.Rules y.1 y.2]) := by
 unfold laws_toBook at h
 refine en Try.func19 Try.ntmps19 ?_
 refine qs (qr (oB 2 [(2, .p 1 0), (1, .p 0 0)] [] [(24, (eBook x0 (a0_0, c0_0))), (40, [.slice none 0 0])] ?_))
 refine oe (nt (qs (qr (oB 1 [(3, .p 2 0)] [2, 1] [(24, (eBook x0 (a0_0, c0_0))), (40, [.slice none 0 0]), (40, [.slice none 0 0])] ?_))))
 refine oe (nt (qs (qr (oN 2 [(5, .v (.slice a0_0 x0.Rules.length c0_0))] [3, 2] ?_))))
 obtain ⟨t21, h22, h23⟩ := bS h
 refine k1 (fun γ w hs => c_laws_toRuleS h22 (hv0_0.kept hs.kept)) (fun y24 => ?_)
 refine oB 2 [] [3, 2] [(24, (eBook x0 (a0_0, c0_0))), (40, [.slice none 0 0]), (40, (eBook (Book.mk t21) y24))] ?_
 refine oe (nt (qs (qr (oB 2 [] [2] [(24, (eBook x0 (a0_0, c0_0))), (40, (eBook (Book.mk t21) y24)), (40, (eBook (Book.mk t21) y24))] ?_))))
 refine oe (nt (qe (rt [vBook (Book.mk t21) y24] (fun γ w hs => ?_))))
 rw [← sI h23]
 exact ⟨y24, rfl, hs.kept.toBelow, (hs.takeR (is := [0]) rfl).fresh⟩

theorem c_laws_toFact {W : World} {x0 : Fact} {r : Fact} (h : laws_toFact x0 = some r)  :
    Gives0 Try.prog 76 #[vFact x0] W (vFact r) := by
 unfold laws_toFact at h
 refine en Try.func76 Try.ntmps76 ?_
 refine qs (qr (oB 2 [(2, .p 1 0), (1, .p 0 0)] [] [(121, (eFact x0)), (89, (eFact (Fact.mk 0 0 0 0 0)))] ?_))
 refine oe (nt (qs (qr (oB 1 [(3, .p 2 0)] [2, 1] [(121, (eFact x0)), (89, (eFact (Fact.mk 0 0 0 0 0))), (89, (eFact (Fact.mk 0 0 0 0 0)))] ?_))))
 refine oe (nt (qs (qr (oB 4 [] [3, 2, 1] [(121, (eFact x0)), (89, (eFact (Fact.mk 0 0 0 0 0))), (89, (eFact (Fact.mk x0.Key 0 0 0 0)))] ?_))))
 refine oe (nt (qs (qr (oB 4 [] [3, 2, 1] [(121, (eFact x0)), (89, (eFact (Fact.mk 0 0 0 0 0))), (89, (eFact (Fact.mk x0.Key x0.From 0 0 0)))] ?_))))
 refine oe (nt (qs (qr (oB 4 [] [3, 2, 1] [(121, (eFact x0)), (89, (eFact (Fact.mk 0 0 0 0 0))), (89, (eFact (Fact.mk x0.Key x0.From x0.To 0 0)))] ?_))))
 refine oe (nt (qs (qr (oB 4 [] [3, 2, 1] [(121, (eFact x0)), (89, (eFact (Fact.mk 0 0 0 0 0))), (89, (eFact (Fact.mk x0.Key x0.From x0.To x0.Known 0)))] ?_))))
 refine oe (nt (qs (qr (oB 4 [] [3, 2] [(121, (eFact x0)), (89, (eFact (Fact.mk 0 0 0 0 0))), (89, (eFact x0))] ?_))))
 refine oe (nt (qs (qr (oB 2 [] [2] [(121, (eFact x0)), (89, (eFact x0)), (89, (eFact x0))] ?_))))
 refine oe (nt (qe ?_))
 obtain rfl := sI h
 exact re [vFact x0]

theorem c_laws_toFactS {W : World} {x0 : List Fact} {a0_0 : Option Addr} {c0_0 : Nat} {r : (List Fact)} (h : laws_toFactS x0 = some r) (hv0_0 : SlView W x0 a0_0 c0_0) :
    Gives Try.prog 45 #[.slice a0_0 x0.length c0_0] W (fun y : AC => .slice y.1 r.length y.2) (fun y => [SlRes 89 r y.1 y.2]) := by
 unfold laws_toFactS at h
 refine en Try.func45 Try.ntmps45 ?_
 refine qs (qr (oN 1 [] [0] ?_))
 refine oe (nt (qs (qr (oN 2 [(6, vi (x0.length : Int))] [0] ?_))))
 obtain ⟨l22, hm23, h24⟩ := bS h
 refine JO_make (α := Fact) rfl (by kernel_rfl) (t := 41) (e := 89) (m := (x0.length : Int)) (by kernel_rfl) (i := Try.t89) (by kernel_rfl) (z := (vFact (Fact.mk 0 0 0 0 0))) (by kernel_rfl) (by kernel_rfl) (by kernel_rfl) (by kernel_rfl) (fun w => ⟨rfl, rfl⟩) hm23 _ (fun _ => rfl) (fun y21 => ?_)
 refine oN 1 [(3, .v (.slice y21.1 l22.length y21.2))] [0] ?_
 refine oe (nt (qs (qs (qr (oN 1 [(4, vi 0)] [3, 0] ?_)))))
 refine oe (nt ?_)
 obtain ⟨r28, hL29, h30⟩ := bS h24
 obtain ⟨k31, hk32, h30⟩ := brkS h30
 refine JC_cutP (τ := ((List Fact)) × (Unit)) (fun y => k31 y.1 = some r) (fun y36 => [(3, .v (.slice y21.1 y36.1.length y21.2))]) (fun y36 => []) (fun y36 => [SlRes 89 y36.1 y21.1 y21.2]) ?_ (fun y36 h37p => ?_)
 · refine qb (lp Unit hL29 (fun s25 y26 => [(4, vi s25.1), (3, .v (.slice y21.1 s25.2.length y21.2)), (0, .v (.slice a0_0 x0.length c0_0))]) (fun s25 y26 => []) (fun s25 y26 => [SlRes 89 s25.2 y21.1 y21.2]) () [4, 3, 0] [0] 0 (fun s25 y26 t27 h33 hd34 => ?_))
   refine qs (qs (qr (oN 4 [(11, vb (decide (s25.1 < (x0.length : Int))))] [4, 3, 0] ?_)))
   refine oe (nt (cC h33 (fun h39 => ?_) (fun h40 => ?_)))
   · refine qk (nt (qs (qb (qr (oN 4 [(17, vi s25.1), (16, .v (.slice a0_0 x0.length c0_0)), (15, vi s25.1), (14, .v (.slice y21.1 s25.2.length y21.2))] [4, 3, 0] ?_)))))
     obtain ⟨x41, hx42, h43⟩ := bS h39
     refine oi 5 (fun γ w hs => (hv0_0.kept hs.kept)) hx42 ?_
     refine ol 121 0 (vFact x41) (fun γ w hs => (hv0_0.kept hs.kept).flatq hx42) ?_
     obtain ⟨t44, h45, h46⟩ := bS h43
     refine k0 (fun γ w hs => c_laws_toFact h45) ?_
     obtain ⟨x48, hx49, h50⟩ := bS h46
     refine oi 5 (fun γ w hs => (hs.view 0 rfl)) hx49 ?_
     obtain ⟨l51, hm52, h53⟩ := bS h50
     replace hm52 := (sI hm52).symm
     refine JO_storeq (α := Fact) (d := y21.1) (vs := [.int .i64 t44.Key, .int .i64 t44.From, .int .i64 t44.To, .int .i64 t44.Known, .int .i64 t44.Value]) (j := s25.1) (x' := t44) rfl (by kernel_rfl) 0 (by kernel_rfl) hx49 (Rc := []) (Rr := []) rfl (by kernel_rfl) (fun w c F Fs ho _ _ => own_flat_set (by kernel_rfl) ho) hm52 rfl ?_
     have hl54 := len_set hm52
     refine JO_keep [20, 19, 18, 17, 16, 15, 14, 4, 3, 0] (sl' := [(20, .v (vFact t44)), (19, .v (vFact x41)), (18, .q a0_0 (Int.toNat s25.1 * 5)), (17, vi s25.1), (16, .v (.slice a0_0 x0.length c0_0)), (15, vi s25.1), (14, .v (.slice y21.1 s25.2.length y21.2)), (4, vi s25.1), (3, .v (.slice y21.1 s25.2.length y21.2)), (0, .v (.slice a0_0 x0.length c0_0))]) (by kernel_rfl) ?_
     refine JO_eqE (sl' := [(20, .v (vFact t44)), (19, .v (vFact x41)), (18, .q a0_0 (Int.toNat s25.1 * 5)), (17, vi s25.1), (16, .v (.slice a0_0 x0.length c0_0)), (15, vi s25.1), (14, .v (.slice y21.1 l51.length y21.2)), (4, vi s25.1), (3, .v (.slice y21.1 l51.length y21.2)), (0, .v (.slice a0_0 x0.length c0_0))]) (bx' := []) (by simp only [eFact, vFact, hl54]) rfl ?_
     refine oe (bn (nt (qr (oN 3 [(4, vi (w64 (s25.1 + 1)))] [3, 0] ?_))))
     exact oe (ct h53 () [4, 3, 0] [0] 0)
   refine qx (nx (nx (bh ?_)))
   have h55 := leafB hd34 h40 h30
   exact mp (s25.2, ()) h55 [3] [0] 0
 have h37 := (congrFun hk32 _).symm.trans h37p
 refine nt (qs (qr (oN 2 [(2, .v (.slice y21.1 y36.1.length y21.2))] [] ?_)))
 refine oe (nt (qe (rt [.slice y21.1 y36.1.length y21.2] (fun γ w hs => ?_))))
 rw [← sI h37]
 exact ⟨y21, rfl, hs.kept.toBelow, (hs.takeR (is := [0]) rfl).fresh⟩

theorem c_laws_toStore {W : World} {x0 : Store} {a0_0 : Option Addr} {c0_0 : Nat} {r : Store} (h : laws_toStore x0 = some r) (hv0_0 : SlView W x0.Facts a0_0 c0_0) :
    Gives Try.prog 20 #[vStore x0 (a0_0, c0_0)] W (fun y : AC => vStore r y) (fun y => [SlRes 89 r.Facts y.1 y.2]) := by
 unfold laws_toStore at h
 refine en Try.func20 Try.ntmps20 ?_
 refine qs (qr (oB 2 [(2, .p 1 0), (1, .p 0 0)] [] [(27, (eStore x0 (a0_0, c0_0))), (43, [.slice none 0 0])] ?_))
 refine oe (nt (qs (qr (oB 1 [(3, .p 2 0)] [2, 1] [(27, (eStore x0 (a0_0, c0_0))), (43, [.slice none 0 0]), (43, [.slice none 0 0])] ?_))))
 refine oe (nt (qs (qr (oN 2 [(5, .v (.slice a0_0 x0.Facts.length c0_0))] [3, 2] ?_))))
 obtain ⟨t21, h22, h23⟩ := bS h
 refine k1 (fun γ w hs => c_laws_toFactS h22 (hv0_0.kept hs.kept)) (fun y24 => ?_)
 refine oB 2 [] [3, 2] [(27, (eStore x0 (a0_0, c0_0))), (43, [.slice none 0 0]), (43, (eStore (Store.mk t21) y24))] ?_
 refine oe (nt (qs (qr (oB 2 [] [2] [(27, (eStore x0 (a0_0, c0_0))), (43, (eStore (Store.mk t21) y24)), (43, (eStore (Store.mk t21) y24))] ?_))))
 refine oe (nt (qe (rt [vStore (Store.mk t21) y24] (fun γ w hs => ?_))))
 rw [← sI h23]
 exact ⟨y24, rfl, hs.kept.toBelow, (hs.takeR (is := [0]) rfl).fresh⟩

theorem c_laws_toPoint {W : World} {x0 : Point} {r : Point} (h : laws_toPoint x0 = some r)  :
    Gives0 Try.prog 77 #[vPoint x0] W (vPoint r) := by
 unfold laws_toPoint at h
 refine en Try.func77 Try.ntmps77 ?_
 refine qs (qr (oB 2 [(2, .p 1 0), (1, .p 0 0)] [] [(123, (ePoint x0)), (91, (ePoint (Point.mk 0 0 0)))] ?_))
 refine oe (nt (qs (qr (oB 1 [(3, .p 2 0)] [2, 1] [(123, (ePoint x0)), (91, (ePoint (Point.mk 0 0 0))), (91, (ePoint (Point.mk 0 0 0)))] ?_))))
 refine oe (nt (qs (qr (oB 4 [] [3, 2, 1] [(123, (ePoint x0)), (91, (ePoint (Point.mk 0 0 0))), (91, (ePoint (Point.mk x0.Month 0 0)))] ?_))))
 refine oe (nt (qs (qr (oB 4 [] [3, 2, 1] [(123, (ePoint x0)), (91, (ePoint (Point.mk 0 0 0))), (91, (ePoint (Point.mk x0.Month x0.Known 0)))] ?_))))
 refine oe (nt (qs (qr (oB 4 [] [3, 2] [(123, (ePoint x0)), (91, (ePoint (Point.mk 0 0 0))), (91, (ePoint x0))] ?_))))
 refine oe (nt (qs (qr (oB 2 [] [2] [(123, (ePoint x0)), (91, (ePoint x0)), (91, (ePoint x0))] ?_))))
 refine oe (nt (qe ?_))
 obtain rfl := sI h
 exact re [vPoint x0]

theorem c_laws_toPointS {W : World} {x0 : List Point} {a0_0 : Option Addr} {c0_0 : Nat} {r : (List Point)} (h : laws_toPointS x0 = some r) (hv0_0 : SlView W x0 a0_0 c0_0) :
    Gives Try.prog 46 #[.slice a0_0 x0.length c0_0] W (fun y : AC => .slice y.1 r.length y.2) (fun y => [SlRes 91 r y.1 y.2]) := by
 unfold laws_toPointS at h
 refine en Try.func46 Try.ntmps46 ?_
 refine qs (qr (oN 1 [] [0] ?_))
 refine oe (nt (qs (qr (oN 2 [(6, vi (x0.length : Int))] [0] ?_))))
 obtain ⟨l22, hm23, h24⟩ := bS h
 refine JO_make (α := Point) rfl (by kernel_rfl) (t := 44) (e := 91) (m := (x0.length : Int)) (by kernel_rfl) (i := Try.t91) (by kernel_rfl) (z := (vPoint (Point.mk 0 0 0))) (by kernel_rfl) (by kernel_rfl) (by kernel_rfl) (by kernel_rfl) (fun w => ⟨rfl, rfl⟩) hm23 _ (fun _ => rfl) (fun y21 => ?_)
 refine oN 1 [(3, .v (.slice y21.1 l22.length y21.2))] [0] ?_
 refine oe (nt (qs (qs (qr (oN 1 [(4, vi 0)] [3, 0] ?_)))))
 refine oe (nt ?_)
 obtain ⟨r28, hL29, h30⟩ := bS h24
 obtain ⟨k31, hk32, h30⟩ := brkS h30
 refine JC_cutP (τ := ((List Point)) × (Unit)) (fun y => k31 y.1 = some r) (fun y36 => [(3, .v (.slice y21.1 y36.1.length y21.2))]) (fun y36 => []) (fun y36 => [SlRes 91 y36.1 y21.1 y21.2]) ?_ (fun y36 h37p => ?_)
 · refine qb (lp Unit hL29 (fun s25 y26 => [(4, vi s25.1), (3, .v (.slice y21.1 s25.2.length y21.2)), (0, .v (.slice a0_0 x0.length c0_0))]) (fun s25 y26 => []) (fun s25 y26 => [SlRes 91 s25.2 y21.1 y21.2]) () [4, 3, 0] [0] 0 (fun s25 y26 t27 h33 hd34 => ?_))
   refine qs (qs (qr (oN 4 [(11, vb (decide (s25.1 < (x0.length : Int))))] [4, 3, 0] ?_)))
   refine oe (nt (cC h33 (fun h39 => ?_) (fun h40 => ?_)))
   · refine qk (nt (qs (qb (qr (oN 4 [(17, vi s25.1), (16, .v (.slice a0_0 x0.length c0_0)), (15, vi s25.1), (14, .v (.slice y21.1 s25.2.length y21.2))] [4, 3, 0] ?_)))))
     obtain ⟨x41, hx42, h43⟩ := bS h39
     refine oi 3 (fun γ w hs => (hv0_0.kept hs.kept)) hx42 ?_
     refine ol 123 0 (vPoint x41) (fun γ w hs => (hv0_0.kept hs.kept).flatq hx42) ?_
     obtain ⟨t44, h45, h46⟩ := bS h43
     refine k0 (fun γ w hs => c_laws_toPoint h45) ?_
     obtain ⟨x48, hx49, h50⟩ := bS h46
     refine oi 3 (fun γ w hs => (hs.view 0 rfl)) hx49 ?_
     obtain ⟨l51, hm52, h53⟩ := bS h50
     replace hm52 := (sI hm52).symm
     refine JO_storeq (α := Point) (d := y21.1) (vs := [.int .i64 t44.Month, .int .i64 t44.Known, .int .i64 t44.Value]) (j := s25.1) (x' := t44) rfl (by kernel_rfl) 0 (by kernel_rfl) hx49 (Rc := []) (Rr := []) rfl (by kernel_rfl) (fun w c F Fs ho _ _ => own_flat_set (by kernel_rfl) ho) hm52 rfl ?_
     have hl54 := len_set hm52
     refine JO_keep [20, 19, 18, 17, 16, 15, 14, 4, 3, 0] (sl' := [(20, .v (vPoint t44)), (19, .v (vPoint x41)), (18, .q a0_0 (Int.toNat s25.1 * 3)), (17, vi s25.1), (16, .v (.slice a0_0 x0.length c0_0)), (15, vi s25.1), (14, .v (.slice y21.1 s25.2.length y21.2)), (4, vi s25.1), (3, .v (.slice y21.1 s25.2.length y21.2)), (0, .v (.slice a0_0 x0.length c0_0))]) (by kernel_rfl) ?_
     refine JO_eqE (sl' := [(20, .v (vPoint t44)), (19, .v (vPoint x41)), (18, .q a0_0 (Int.toNat s25.1 * 3)), (17, vi s25.1), (16, .v (.slice a0_0 x0.length c0_0)), (15, vi s25.1), (14, .v (.slice y21.1 l51.length y21.2)), (4, vi s25.1), (3, .v (.slice y21.1 l51.length y21.2)), (0, .v (.slice a0_0 x0.length c0_0))]) (bx' := []) (by simp only [ePoint, vPoint, hl54]) rfl ?_
     refine oe (bn (nt (qr (oN 3 [(4, vi (w64 (s25.1 + 1)))] [3, 0] ?_))))
     exact oe (ct h53 () [4, 3, 0] [0] 0)
   refine qx (nx (nx (bh ?_)))
   have h55 := leafB hd34 h40 h30
   exact mp (s25.2, ()) h55 [3] [0] 0
 have h37 := (congrFun hk32 _).symm.trans h37p
 refine nt (qs (qr (oN 2 [(2, .v (.slice y21.1 y36.1.length y21.2))] [] ?_)))
 refine oe (nt (qe (rt [.slice y21.1 y36.1.length y21.2] (fun γ w hs => ?_))))
 rw [← sI h37]
 exact ⟨y21, rfl, hs.kept.toBelow, (hs.takeR (is := [0]) rfl).fresh⟩

theorem c_laws_toSeries {W : World} {x0 : Series} {a0_0 : Option Addr} {c0_0 : Nat} {r : Series} (h : laws_toSeries x0 = some r) (hv0_0 : SlView W x0.Points a0_0 c0_0) :
    Gives Try.prog 21 #[vSeries x0 (a0_0, c0_0)] W (fun y : AC => vSeries r y) (fun y => [SlRes 91 r.Points y.1 y.2]) := by
 unfold laws_toSeries at h
 refine en Try.func21 Try.ntmps21 ?_
 refine qs (qr (oB 2 [(2, .p 1 0), (1, .p 0 0)] [] [(30, (eSeries x0 (a0_0, c0_0))), (46, [.slice none 0 0])] ?_))
 refine oe (nt (qs (qr (oB 1 [(3, .p 2 0)] [2, 1] [(30, (eSeries x0 (a0_0, c0_0))), (46, [.slice none 0 0]), (46, [.slice none 0 0])] ?_))))
 refine oe (nt (qs (qr (oN 2 [(5, .v (.slice a0_0 x0.Points.length c0_0))] [3, 2] ?_))))
 obtain ⟨t21, h22, h23⟩ := bS h
 refine k1 (fun γ w hs => c_laws_toPointS h22 (hv0_0.kept hs.kept)) (fun y24 => ?_)
 refine oB 2 [] [3, 2] [(30, (eSeries x0 (a0_0, c0_0))), (46, [.slice none 0 0]), (46, (eSeries (Series.mk t21) y24))] ?_
 refine oe (nt (qs (qr (oB 2 [] [2] [(30, (eSeries x0 (a0_0, c0_0))), (46, (eSeries (Series.mk t21) y24)), (46, (eSeries (Series.mk t21) y24))] ?_))))
 refine oe (nt (qe (rt [vSeries (Series.mk t21) y24] (fun γ w hs => ?_))))
 rw [← sI h23]
 exact ⟨y24, rfl, hs.kept.toBelow, (hs.takeR (is := [0]) rfl).fresh⟩

theorem c_laws_toSpell {W : World} {x0 : Spell} {r : Spell} (h : laws_toSpell x0 = some r)  :
    Gives0 Try.prog 78 #[vSpell x0] W (vSpell r) := by
 unfold laws_toSpell at h
 refine en Try.func78 Try.ntmps78 ?_
 refine qs (qr (oB 2 [(2, .p 1 0), (1, .p 0 0)] [] [(127, (eSpell x0)), (125, (eSpell (Spell.mk 0 0 0 false)))] ?_))
 refine oe (nt (qs (qr (oB 1 [(3, .p 2 0)] [2, 1] [(127, (eSpell x0)), (125, (eSpell (Spell.mk 0 0 0 false))), (125, (eSpell (Spell.mk 0 0 0 false)))] ?_))))
 refine oe (nt (qs (qr (oB 4 [] [3, 2, 1] [(127, (eSpell x0)), (125, (eSpell (Spell.mk 0 0 0 false))), (125, (eSpell (Spell.mk x0.From 0 0 false)))] ?_))))
 refine oe (nt (qs (qr (oB 4 [] [3, 2, 1] [(127, (eSpell x0)), (125, (eSpell (Spell.mk 0 0 0 false))), (125, (eSpell (Spell.mk x0.From x0.To 0 false)))] ?_))))
 refine oe (nt (qs (qr (oB 4 [] [3, 2, 1] [(127, (eSpell x0)), (125, (eSpell (Spell.mk 0 0 0 false))), (125, (eSpell (Spell.mk x0.From x0.To x0.Percent false)))] ?_))))
 refine oe (nt (qs (qr (oB 4 [] [3, 2] [(127, (eSpell x0)), (125, (eSpell (Spell.mk 0 0 0 false))), (125, (eSpell x0))] ?_))))
 refine oe (nt (qs (qr (oB 2 [] [2] [(127, (eSpell x0)), (125, (eSpell x0)), (125, (eSpell x0))] ?_))))
 refine oe (nt (qe ?_))
 obtain rfl := sI h
 exact re [vSpell x0]

theorem c_laws_toSpellS {W : World} {x0 : List Spell} {a0_0 : Option Addr} {c0_0 : Nat} {r : (List Spell)} (h : laws_toSpellS x0 = some r) (hv0_0 : SlView W x0 a0_0 c0_0) :
    Gives Try.prog 47 #[.slice a0_0 x0.length c0_0] W (fun y : AC => .slice y.1 r.length y.2) (fun y => [SlRes 125 r y.1 y.2]) := by
 unfold laws_toSpellS at h
 refine en Try.func47 Try.ntmps47 ?_
 refine qs (qr (oN 1 [] [0] ?_))
 refine oe (nt (qs (qr (oN 2 [(6, vi (x0.length : Int))] [0] ?_))))
 obtain ⟨l22, hm23, h24⟩ := bS h
 refine JO_make (α := Spell) rfl (by kernel_rfl) (t := 47) (e := 125) (m := (x0.length : Int)) (by kernel_rfl) (i := Try.t125) (by kernel_rfl) (z := (vSpell (Spell.mk 0 0 0 false))) (by kernel_rfl) (by kernel_rfl) (by kernel_rfl) (by kernel_rfl) (fun w => ⟨rfl, rfl⟩) hm23 _ (fun _ => rfl) (fun y21 => ?_)
 refine oN 1 [(3, .v (.slice y21.1 l22.length y21.2))] [0] ?_
 refine oe (nt (qs (qs (qr (oN 1 [(4, vi 0)] [3, 0] ?_)))))
 refine oe (nt ?_)
 obtain ⟨r28, hL29, h30⟩ := bS h24
 obtain ⟨k31, hk32, h30⟩ := brkS h30
 refine JC_cutP (τ := ((List Spell)) × (Unit)) (fun y => k31 y.1 = some r) (fun y36 => [(3, .v (.slice y21.1 y36.1.length y21.2))]) (fun y36 => []) (fun y36 => [SlRes 125 y36.1 y21.1 y21.2]) ?_ (fun y36 h37p => ?_)
 · refine qb (lp Unit hL29 (fun s25 y26 => [(4, vi s25.1), (3, .v (.slice y21.1 s25.2.length y21.2)), (0, .v (.slice a0_0 x0.length c0_0))]) (fun s25 y26 => []) (fun s25 y26 => [SlRes 125 s25.2 y21.1 y21.2]) () [4, 3, 0] [0] 0 (fun s25 y26 t27 h33 hd34 => ?_))
   refine qs (qs (qr (oN 4 [(11, vb (decide (s25.1 < (x0.length : Int))))] [4, 3, 0] ?_)))
   refine oe (nt (cC h33 (fun h39 => ?_) (fun h40 => ?_)))
   · refine qk (nt (qs (qb (qr (oN 4 [(17, vi s25.1), (16, .v (.slice a0_0 x0.length c0_0)), (15, vi s25.1), (14, .v (.slice y21.1 s25.2.length y21.2))] [4, 3, 0] ?_)))))
     obtain ⟨x41, hx42, h43⟩ := bS h39
     refine oi 4 (fun γ w hs => (hv0_0.kept hs.kept)) hx42 ?_
     refine ol 127 0 (vSpell x41) (fun γ w hs => (hv0_0.kept hs.kept).flatq hx42) ?_
     obtain ⟨t44, h45, h46⟩ := bS h43
     refine k0 (fun γ w hs => c_laws_toSpell h45) ?_
     obtain ⟨x48, hx49, h50⟩ := bS h46
     refine oi 4 (fun γ w hs => (hs.view 0 rfl)) hx49 ?_
     obtain ⟨l51, hm52, h53⟩ := bS h50
     replace hm52 := (sI hm52).symm
     refine JO_storeq (α := Spell) (d := y21.1) (vs := [.int .i64 t44.From, .int .i64 t44.To, .int .i64 t44.Percent, .bool t44.Leave]) (j := s25.1) (x' := t44) rfl (by kernel_rfl) 0 (by kernel_rfl) hx49 (Rc := []) (Rr := []) rfl (by kernel_rfl) (fun w c F Fs ho _ _ => own_flat_set (by kernel_rfl) ho) hm52 rfl ?_
     have hl54 := len_set hm52
     refine JO_keep [20, 19, 18, 17, 16, 15, 14, 4, 3, 0] (sl' := [(20, .v (vSpell t44)), (19, .v (vSpell x41)), (18, .q a0_0 (Int.toNat s25.1 * 4)), (17, vi s25.1), (16, .v (.slice a0_0 x0.length c0_0)), (15, vi s25.1), (14, .v (.slice y21.1 s25.2.length y21.2)), (4, vi s25.1), (3, .v (.slice y21.1 s25.2.length y21.2)), (0, .v (.slice a0_0 x0.length c0_0))]) (by kernel_rfl) ?_
     refine JO_eqE (sl' := [(20, .v (vSpell t44)), (19, .v (vSpell x41)), (18, .q a0_0 (Int.toNat s25.1 * 4)), (17, vi s25.1), (16, .v (.slice a0_0 x0.length c0_0)), (15, vi s25.1), (14, .v (.slice y21.1 l51.length y21.2)), (4, vi s25.1), (3, .v (.slice y21.1 l51.length y21.2)), (0, .v (.slice a0_0 x0.length c0_0))]) (bx' := []) (by simp only [eSpell, vSpell, hl54]) rfl ?_
     refine oe (bn (nt (qr (oN 3 [(4, vi (w64 (s25.1 + 1)))] [3, 0] ?_))))
     exact oe (ct h53 () [4, 3, 0] [0] 0)
   refine qx (nx (nx (bh ?_)))
   have h55 := leafB hd34 h40 h30
   exact mp (s25.2, ()) h55 [3] [0] 0
 have h37 := (congrFun hk32 _).symm.trans h37p
 refine nt (qs (qr (oN 2 [(2, .v (.slice y21.1 y36.1.length y21.2))] [] ?_)))
 refine oe (nt (qe (rt [.slice y21.1 y36.1.length y21.2] (fun γ w hs => ?_))))
 rw [← sI h37]
 exact ⟨y21, rfl, hs.kept.toBelow, (hs.takeR (is := [0]) rfl).fresh⟩

theorem c_laws_toEvent {W : World} {x0 : Event} {r : Event} (h : laws_toEvent x0 = some r)  :
    Gives0 Try.prog 79 #[vEvent x0] W (vEvent r) := by
 unfold laws_toEvent at h
 refine en Try.func79 Try.ntmps79 ?_
 refine qs (qr (oB 2 [(2, .p 1 0), (1, .p 0 0)] [] [(131, (eEvent x0)), (129, (eEvent (Event.mk 0 0)))] ?_))
 refine oe (nt (qs (qr (oB 1 [(3, .p 2 0)] [2, 1] [(131, (eEvent x0)), (129, (eEvent (Event.mk 0 0))), (129, (eEvent (Event.mk 0 0)))] ?_))))
 refine oe (nt (qs (qr (oB 4 [] [3, 2, 1] [(131, (eEvent x0)), (129, (eEvent (Event.mk 0 0))), (129, (eEvent (Event.mk x0.Kind 0)))] ?_))))
 refine oe (nt (qs (qr (oB 4 [] [3, 2] [(131, (eEvent x0)), (129, (eEvent (Event.mk 0 0))), (129, (eEvent x0))] ?_))))
 refine oe (nt (qs (qr (oB 2 [] [2] [(131, (eEvent x0)), (129, (eEvent x0)), (129, (eEvent x0))] ?_))))
 refine oe (nt (qe ?_))
 obtain rfl := sI h
 exact re [vEvent x0]

theorem c_laws_toEventS {W : World} {x0 : List Event} {a0_0 : Option Addr} {c0_0 : Nat} {r : (List Event)} (h : laws_toEventS x0 = some r) (hv0_0 : SlView W x0 a0_0 c0_0) :
    Gives Try.prog 48 #[.slice a0_0 x0.length c0_0] W (fun y : AC => .slice y.1 r.length y.2) (fun y => [SlRes 129 r y.1 y.2]) := by
 unfold laws_toEventS at h
 refine en Try.func48 Try.ntmps48 ?_
 refine qs (qr (oN 1 [] [0] ?_))
 refine oe (nt (qs (qr (oN 2 [(6, vi (x0.length : Int))] [0] ?_))))
 obtain ⟨l22, hm23, h24⟩ := bS h
 refine JO_make (α := Event) rfl (by kernel_rfl) (t := 48) (e := 129) (m := (x0.length : Int)) (by kernel_rfl) (i := Try.t129) (by kernel_rfl) (z := (vEvent (Event.mk 0 0))) (by kernel_rfl) (by kernel_rfl) (by kernel_rfl) (by kernel_rfl) (fun w => ⟨rfl, rfl⟩) hm23 _ (fun _ => rfl) (fun y21 => ?_)
 refine oN 1 [(3, .v (.slice y21.1 l22.length y21.2))] [0] ?_
 refine oe (nt (qs (qs (qr (oN 1 [(4, vi 0)] [3, 0] ?_)))))
 refine oe (nt ?_)
 obtain ⟨r28, hL29, h30⟩ := bS h24
 obtain ⟨k31, hk32, h30⟩ := brkS h30
 refine JC_cutP (τ := ((List Event)) × (Unit)) (fun y => k31 y.1 = some r) (fun y36 => [(3, .v (.slice y21.1 y36.1.length y21.2))]) (fun y36 => []) (fun y36 => [SlRes 129 y36.1 y21.1 y21.2]) ?_ (fun y36 h37p => ?_)
 · refine qb (lp Unit hL29 (fun s25 y26 => [(4, vi s25.1), (3, .v (.slice y21.1 s25.2.length y21.2)), (0, .v (.slice a0_0 x0.length c0_0))]) (fun s25 y26 => []) (fun s25 y26 => [SlRes 129 s25.2 y21.1 y21.2]) () [4, 3, 0] [0] 0 (fun s25 y26 t27 h33 hd34 => ?_))
   refine qs (qs (qr (oN 4 [(11, vb (decide (s25.1 < (x0.length : Int))))] [4, 3, 0] ?_)))
   refine oe (nt (cC h33 (fun h39 => ?_) (fun h40 => ?_)))
   · refine qk (nt (qs (qb (qr (oN 4 [(17, vi s25.1), (16, .v (.slice a0_0 x0.length c0_0)), (15, vi s25.1), (14, .v (.slice y21.1 s25.2.length y21.2))] [4, 3, 0] ?_)))))
     obtain ⟨x41, hx42, h43⟩ := bS h39
     refine oi 2 (fun γ w hs => (hv0_0.kept hs.kept)) hx42 ?_
     refine ol 131 0 (vEvent x41) (fun γ w hs => (hv0_0.kept hs.kept).flatq hx42) ?_
     obtain ⟨t44, h45, h46⟩ := bS h43
     refine k0 (fun γ w hs => c_laws_toEvent h45) ?_
     obtain ⟨x48, hx49, h50⟩ := bS h46
     refine oi 2 (fun γ w hs => (hs.view 0 rfl)) hx49 ?_
     obtain ⟨l51, hm52, h53⟩ := bS h50
     replace hm52 := (sI hm52).symm
     refine JO_storeq (α := Event) (d := y21.1) (vs := [.int .i64 t44.Kind, .int .i64 t44.Month]) (j := s25.1) (x' := t44) rfl (by kernel_rfl) 0 (by kernel_rfl) hx49 (Rc := []) (Rr := []) rfl (by kernel_rfl) (fun w c F Fs ho _ _ => own_flat_set (by kernel_rfl) ho) hm52 rfl ?_
     have hl54 := len_set hm52
     refine JO_keep [20, 19, 18, 17, 16, 15, 14, 4, 3, 0] (sl' := [(20, .v (vEvent t44)), (19, .v (vEvent x41)), (18, .q a0_0 (Int.toNat s25.1 * 2)), (17, vi s25.1), (16, .v (.slice a0_0 x0.length c0_0)), (15, vi s25.1), (14, .v (.slice y21.1 s25.2.length y21.2)), (4, vi s25.1), (3, .v (.slice y21.1 s25.2.length y21.2)), (0, .v (.slice a0_0 x0.length c0_0))]) (by kernel_rfl) ?_
     refine JO_eqE (sl' := [(20, .v (vEvent t44)), (19, .v (vEvent x41)), (18, .q a0_0 (Int.toNat s25.1 * 2)), (17, vi s25.1), (16, .v (.slice a0_0 x0.length c0_0)), (15, vi s25.1), (14, .v (.slice y21.1 l51.length y21.2)), (4, vi s25.1), (3, .v (.slice y21.1 l51.length y21.2)), (0, .v (.slice a0_0 x0.length c0_0))]) (bx' := []) (by simp only [eEvent, vEvent, hl54]) rfl ?_
     refine oe (bn (nt (qr (oN 3 [(4, vi (w64 (s25.1 + 1)))] [3, 0] ?_))))
     exact oe (ct h53 () [4, 3, 0] [0] 0)
   refine qx (nx (nx (bh ?_)))
   have h55 := leafB hd34 h40 h30
   exact mp (s25.2, ()) h55 [3] [0] 0
 have h37 := (congrFun hk32 _).symm.trans h37p
 refine nt (qs (qr (oN 2 [(2, .v (.slice y21.1 y36.1.length y21.2))] [] ?_)))
 refine oe (nt (qe (rt [.slice y21.1 y36.1.length y21.2] (fun γ w hs => ?_))))
 rw [← sI h37]
 exact ⟨y21, rfl, hs.kept.toBelow, (hs.takeR (is := [0]) rfl).fresh⟩

theorem c_laws_toMember {W : World} {x0 : Member} {b0 : AC × AC} {r : Member} (h : laws_toMember x0 = some r) (hv0_0 : SlView W x0.Spells b0.1.1 b0.1.2) (hv0_1 : SlView W x0.Events b0.2.1 b0.2.2) :
    Gives Try.prog 22 #[vMember x0 b0] W (fun y : AC × AC => vMember r y) (fun y => [SlRes 125 r.Spells y.1.1 y.1.2, SlRes 129 r.Events y.2.1 y.2.2]) := by
 unfold laws_toMember at h
 refine en Try.func22 Try.ntmps22 ?_
 refine qs (qr (oB 2 [(2, .p 1 0), (1, .p 0 0)] [] [(34, (eMember x0 b0)), (50, [.int .i64 0, .int .i64 0, .slice none 0 0, .slice none 0 0])] ?_))
 refine oe (nt (qs (qr (oB 1 [(3, .p 2 0)] [2, 1] [(34, (eMember x0 b0)), (50, [.int .i64 0, .int .i64 0, .slice none 0 0, .slice none 0 0]), (50, [.int .i64 0, .int .i64 0, .slice none 0 0, .slice none 0 0])] ?_))))
 refine oe (nt (qs (qr (oB 4 [] [3, 2, 1] [(34, (eMember x0 b0)), (50, [.int .i64 0, .int .i64 0, .slice none 0 0, .slice none 0 0]), (50, [.int .i64 x0.Birth, .int .i64 0, .slice none 0 0, .slice none 0 0])] ?_))))
 refine oe (nt (qs (qr (oB 4 [] [3, 2, 1] [(34, (eMember x0 b0)), (50, [.int .i64 0, .int .i64 0, .slice none 0 0, .slice none 0 0]), (50, [.int .i64 x0.Birth, .int .i64 x0.Joined, .slice none 0 0, .slice none 0 0])] ?_))))
 refine oe (nt (qs (qr (oN 2 [(11, .v (.slice b0.1.1 x0.Spells.length b0.1.2))] [3, 2, 1] ?_))))
 obtain ⟨t21, h22, h23⟩ := bS h
 refine k1 (fun γ w hs => c_laws_toSpellS h22 (hv0_0.kept hs.kept)) (fun y24 => ?_)
 refine oB 2 [] [3, 2, 1] [(34, (eMember x0 b0)), (50, [.int .i64 0, .int .i64 0, .slice none 0 0, .slice none 0 0]), (50, (eMember (Member.mk x0.Birth x0.Joined t21 ([] : List Event)) (y24, (none, 0))))] ?_
 refine oe (nt (qs (qr (oN 2 [(15, .v (.slice b0.2.1 x0.Events.length b0.2.2))] [3, 2] ?_))))
 obtain ⟨t25, h26, h27⟩ := bS h23
 refine k1 (fun γ w hs => c_laws_toEventS h26 (hv0_1.kept hs.kept)) (fun y28 => ?_)
 refine oB 2 [] [3, 2] [(34, (eMember x0 b0)), (50, [.int .i64 0, .int .i64 0, .slice none 0 0, .slice none 0 0]), (50, (eMember (Member.mk x0.Birth x0.Joined t21 t25) (y24, y28)))] ?_
 refine oe (nt (qs (qr (oB 2 [] [2] [(34, (eMember x0 b0)), (50, (eMember (Member.mk x0.Birth x0.Joined t21 t25) (y24, y28))), (50, (eMember (Member.mk x0.Birth x0.Joined t21 t25) (y24, y28)))] ?_))))
 refine oe (nt (qe (rt [vMember (Member.mk x0.Birth x0.Joined t21 t25) (y24, y28)] (fun γ w hs => ?_))))
 rw [← sI h27]
 exact ⟨(y24, y28), rfl, hs.kept.toBelow, (hs.takeR (is := [1, 0]) rfl).fresh⟩

theorem c_laws_toCase {W : World} {x0 : Case} {b0 : AC × AC × AC × AC × AC} {r : Case} (h : laws_toCase x0 = some r) (hv0_0 : SlView W x0.Book.Rules b0.1.1 b0.1.2) (hv0_1 : SlView W x0.Store.Facts b0.2.1.1 b0.2.1.2) (hv0_2 : SlView W x0.Series.Points b0.2.2.1.1 b0.2.2.1.2) (hv0_3 : SlView W x0.Member.Spells b0.2.2.2.1.1 b0.2.2.2.1.2) (hv0_4 : SlView W x0.Member.Events b0.2.2.2.2.1 b0.2.2.2.2.2) :
    Gives Try.prog 6 #[vCase x0 b0] W (fun y : AC × AC × AC × AC × AC => vCase r y) (fun y => [SlRes 86 r.Book.Rules y.1.1 y.1.2, SlRes 89 r.Store.Facts y.2.1.1 y.2.1.2, SlRes 91 r.Series.Points y.2.2.1.1 y.2.2.1.2, SlRes 125 r.Member.Spells y.2.2.2.1.1 y.2.2.2.1.2, SlRes 129 r.Member.Events y.2.2.2.2.1 y.2.2.2.2.2]) := by
 unfold laws_toCase at h
 refine en Try.func6 Try.ntmps6 ?_
 refine qs (qr (oB 2 [(2, .p 1 0), (1, .p 0 0)] [] [(36, (eCase x0 b0)), (52, [.slice none 0 0, .slice none 0 0, .slice none 0 0, .int .i64 0, .int .i64 0, .slice none 0 0, .slice none 0 0])] ?_))
 refine oe (nt (qs (qr (oB 1 [(3, .p 2 0)] [2, 1] [(36, (eCase x0 b0)), (52, [.slice none 0 0, .slice none 0 0, .slice none 0 0, .int .i64 0, .int .i64 0, .slice none 0 0, .slice none 0 0]), (52, [.slice none 0 0, .slice none 0 0, .slice none 0 0, .int .i64 0, .int .i64 0, .slice none 0 0, .slice none 0 0])] ?_))))
 refine oe (nt (qs (qr (oN 2 [(5, .v (vBook x0.Book b0.1))] [3, 2, 1] ?_))))
 obtain ⟨t21, h22, h23⟩ := bS h
 refine k1 (fun γ w hs => c_laws_toBook h22 (hv0_0.kept hs.kept)) (fun y24 => ?_)
 refine oB 2 [] [3, 2, 1] [(36, (eCase x0 b0)), (52, [.slice none 0 0, .slice none 0 0, .slice none 0 0, .int .i64 0, .int .i64 0, .slice none 0 0, .slice none 0 0]), (52, [.slice y24.1 t21.Rules.length y24.2, .slice none 0 0, .slice none 0 0, .int .i64 0, .int .i64 0, .slice none 0 0, .slice none 0 0])] ?_
 refine oe (nt (qs (qr (oN 2 [(9, .v (vStore x0.Store b0.2.1))] [3, 2, 1] ?_))))
 obtain ⟨t25, h26, h27⟩ := bS h23
 refine k1 (fun γ w hs => c_laws_toStore h26 (hv0_1.kept hs.kept)) (fun y28 => ?_)
 refine oB 2 [] [3, 2, 1] [(36, (eCase x0 b0)), (52, [.slice none 0 0, .slice none 0 0, .slice none 0 0, .int .i64 0, .int .i64 0, .slice none 0 0, .slice none 0 0]), (52, [.slice y24.1 t21.Rules.length y24.2, .slice y28.1 t25.Facts.length y28.2, .slice none 0 0, .int .i64 0, .int .i64 0, .slice none 0 0, .slice none 0 0])] ?_
 refine oe (nt (qs (qr (oN 2 [(13, .v (vSeries x0.Series b0.2.2.1))] [3, 2, 1] ?_))))
 obtain ⟨t29, h30, h31⟩ := bS h27
 refine k1 (fun γ w hs => c_laws_toSeries h30 (hv0_2.kept hs.kept)) (fun y32 => ?_)
 refine oB 2 [] [3, 2, 1] [(36, (eCase x0 b0)), (52, [.slice none 0 0, .slice none 0 0, .slice none 0 0, .int .i64 0, .int .i64 0, .slice none 0 0, .slice none 0 0]), (52, (eCase (Case.mk t21 t25 t29 (Member.mk 0 0 ([] : List Spell) ([] : List Event))) (y24, y28, y32, (none, 0), (none, 0))))] ?_
 refine oe (nt (qs (qr (oN 2 [(17, .v (vMember x0.Member b0.2.2.2))] [3, 2] ?_))))
 obtain ⟨t33, h34, h35⟩ := bS h31
 refine k1 (fun γ w hs => c_laws_toMember (b0 := b0.2.2.2) h34 (hv0_3.kept hs.kept) (hv0_4.kept hs.kept)) (fun y36 => ?_)
 refine oB 2 [] [3, 2] [(36, (eCase x0 b0)), (52, [.slice none 0 0, .slice none 0 0, .slice none 0 0, .int .i64 0, .int .i64 0, .slice none 0 0, .slice none 0 0]), (52, (eCase (Case.mk t21 t25 t29 t33) (y24, y28, y32, y36.1, y36.2)))] ?_
 refine oe (nt (qs (qr (oB 2 [] [2] [(36, (eCase x0 b0)), (52, (eCase (Case.mk t21 t25 t29 t33) (y24, y28, y32, y36.1, y36.2))), (52, (eCase (Case.mk t21 t25 t29 t33) (y24, y28, y32, y36.1, y36.2)))] ?_))))
 refine oe (nt (qe (rt [vCase (Case.mk t21 t25 t29 t33) (y24, y28, y32, y36.1, y36.2)] (fun γ w hs => ?_))))
 rw [← sI h35]
 exact ⟨(y24, y28, y32, y36.1, y36.2), rfl, hs.kept.toBelow, (hs.takeR (is := [4, 3, 2, 0, 0]) rfl).fresh⟩

theorem c_spec_l10Rule {W : World} {x0 : Rule} {a0_0 : Option Addr} {c0_0 : Nat} {r : Rule} (h : spec_l10Rule x0 = some r) (hv0_0 : SlView W x0.Nodes a0_0 c0_0) :
    Gives Try.prog 43 #[vRule x0 (a0_0, c0_0)] W (fun y : AC => vRule r y) (fun y => [SlRes 148 r.Nodes y.1 y.2]) := by
 unfold spec_l10Rule at h
 refine en Try.func43 Try.ntmps43 ?_
 refine qs (qr (oB 2 [(2, .p 1 0), (1, .p 0 0)] [] [(86, (eRule x0 (a0_0, c0_0))), (86, (eRule (Rule.mk 0 0 0 0 0 0 ([] : List Node)) (none, 0)))] ?_))
 refine oe (nt (qs (qr (ob [] [] 148 0 [] ([] : List Node) (own_flat (by kernel_rfl)) (fun y21 => ?_)))))
 refine oN 2 [(5, .v (.slice a0_0 x0.Nodes.length c0_0))] [3, 2, 1] ?_
 obtain ⟨l24, hm25, h26⟩ := bS h
 refine oa 84 c0_0 Try.t148 (vNode (Node.mk 0 0 0 0 (Frac.mk 0 0))) (fun γ w hs => ⟨c0_0, (hv0_0.kept hs.kept)⟩) hm25 (fun y23 => ?_)
 refine oB 2 [] [2, 1] [(86, (eRule (Rule.mk x0.Name x0.From x0.To x0.Joined x0.Rank x0.Mode l24) y23)), (86, (eRule (Rule.mk 0 0 0 0 0 0 ([] : List Node)) (none, 0)))] ?_
 refine oe (nt (qs (qr (oB 2 [] [2] [(86, (eRule (Rule.mk x0.Name x0.From x0.To x0.Joined x0.Rank x0.Mode l24) y23)), (86, (eRule (Rule.mk x0.Name x0.From x0.To x0.Joined x0.Rank x0.Mode l24) y23))] ?_))))
 refine oe (nt (qe (rt [vRule (Rule.mk x0.Name x0.From x0.To x0.Joined x0.Rank x0.Mode l24) y23] (fun γ w hs => ?_))))
 rw [← sI h26]
 exact ⟨y23, rfl, hs.kept.toBelow, (hs.takeR (is := [0]) rfl).fresh⟩

theorem c_spec_l10Copy {W : World} {x0 : Book} {a0_0 : Option Addr} {c0_0 : Nat} {r : Book} (h : spec_l10Copy x0 = some r) (hv0_0 : SlView W x0.Rules a0_0 c0_0) :
    Gives Try.prog 15 #[vBook x0 (a0_0, c0_0)] W (fun y : AC => vBook r y) (fun y => [SlRes 86 r.Rules y.1 y.2]) := by
 unfold spec_l10Copy at h
 refine en Try.func15 Try.ntmps15 ?_
 refine qs (qr (oB 2 [(2, .p 1 0), (1, .p 0 0)] [] [(40, (eBook x0 (a0_0, c0_0))), (40, [.slice none 0 0])] ?_))
 refine oe (nt (qs (qr (oB 3 [(3, .p 2 0)] [2, 1] [(40, (eBook x0 (a0_0, c0_0))), (40, [.slice none 0 0]), (40, [.slice none 0 0])] ?_))))
 refine oe (nt (qs (qs (qr (oN 1 [(4, vi 0)] [3, 2, 1] ?_)))))
 refine oe (nt (JC_addnil 86 (List.nil (α := Rule)) rfl ?_))
 obtain ⟨r24, hL25, h26⟩ := bS h
 obtain ⟨k27, hk28, h26⟩ := brkS h26
 refine JC_cutP (τ := ((List Rule)) × (AC)) (fun y => k27 y.1 = some r) (fun y32 => [(3, .p 2 0), (2, .p 1 0)]) (fun y32 => [(40, (eBook x0 (a0_0, c0_0))), (40, [.slice none 0 0]), (40, (eBook (Book.mk y32.1) y32.2))]) (fun y32 => [SlRes 86 y32.1 y32.2.1 y32.2.2]) ?_ (fun y32 h33p => ?_)
 · refine qb (lp AC hL25 (fun s21 y22 => [(4, vi s21.1), (3, .p 2 0), (2, .p 1 0), (1, .p 0 0)]) (fun s21 y22 => [(40, (eBook x0 (a0_0, c0_0))), (40, [.slice none 0 0]), (40, (eBook (Book.mk s21.2) y22))]) (fun s21 y22 => [SlRes 86 s21.2 y22.1 y22.2]) (none, 0) [4, 3, 2, 1] [0] 3 (fun s21 y22 t23 h29 hd30 => ?_))
   refine qs (qs (qr (oN 5 [(10, vb (decide (s21.1 < (x0.Rules.length : Int))))] [4, 3, 2, 1] ?_)))
   refine oe (nt (cC h29 (fun h35 => ?_) (fun h36 => ?_)))
   · refine qk (nt (qs (qb ?_)))
     obtain ⟨x37, hx38, h39⟩ := bS h35
     obtain ⟨_, ⟨a40, c41, rfl, hv42⟩, hc43⟩ := SlView.at hv0_0 (idx_some hx38).2.2
     obtain ⟨t44, h45, h46⟩ := bS h39
     obtain ⟨l50, hm51, h52⟩ := bS h46
     refine JC_cut (τ := AC) (fun y53 => [(4, vi s21.1), (3, .p 2 0), (2, .p 1 0), (1, .p 0 0)]) (fun y53 => [(40, (eBook x0 (a0_0, c0_0))), (40, [.slice none 0 0]), (40, (eBook (Book.mk l50) y53))]) (fun y53 => [SlRes 86 l50 y53.1 y53.2]) ?_ (fun y53 => ?_)
     · refine jw [4, 3, 2, 1] [0] ?_
       refine JC_heldN (ks := [0, 1]) (Rk := []) 12 (by kernel_rfl) (by kernel_rfl) ?_
       refine htq 0 (.p 2 0) [] ?_
       refine htq 2 (.p 0 0) [] ?_
       refine htq 3 (.v (.slice a0_0 x0.Rules.length c0_0)) [] ?_
       refine hk [16, 13, 4, 3, 2, 1] ?_
       refine htq 4 (vi s21.1) [] ?_
       refine ht 5 (.q a0_0 (Int.toNat s21.1 * 7)) [] (index_held (d := a0_0) (m := x0.Rules.length) (j := s21.1) (s := 7) (by kernel_rfl) (fun γ0 w hs => (hv0_0.kept hs.kept)) rfl hx38) ?_
       refine hk [18, 13, 4, 3, 2, 1] ?_
       refine ht 6 (.v (vRule x37 (a40, c41))) [] (loadq_held (t := 86) (d := a0_0) (Int.toNat s21.1 * 7) 0 (by kernel_rfl) (cs := (eRule x37 (a40, c41))) (v := vRule x37 (a40, c41)) (fun γ0 w hs => ⟨(hv0_0.kept hs.kept).ne (idx_some hx38).2.2, hc43.kept hs.kept⟩) (by kernel_rfl)) ?_
       refine hk [19, 13, 4, 3, 2, 1] ?_
       refine ha2 1 7 ?_ ?_
       · refine hi (fun γ0 δ hm => ?_)
         refine gs [(14, .v (.slice y22.1 s21.2.length y22.2)), (19, .v (vRule x37 (a40, c41))), (13, .p 2 0), (4, vi s21.1), (3, .p 2 0), (2, .p 1 0), (1, .p 0 0)] [(40, (eBook x0 (a0_0, c0_0))), (40, [.slice none 0 0]), (40, (eBook (Book.mk s21.2) y22))] (fun δ2 => ?_)
         refine gd hm [14, 19, 4, 3, 2, 1] [] ?_
         refine ha1 7 ?_
         refine hi (fun γ0 δ hm => ?_)
         refine g1 (fun w hs => c_spec_l10Rule h45 (hv42.kept hs.kept)) (fun y47 => ?_)
         refine gn hm [20, 14, 4, 3, 2, 1] [] ?_
         refine ha1 8 ?_
         refine hi (fun γ0 δ hm => ?_)
         refine gb [SlRes 148 t44.Nodes y47.1 y47.2] [SlRes 86 s21.2 y22.1 y22.2] 86 1 [.int .i64 t44.Name, .int .i64 t44.From, .int .i64 t44.To, .int .i64 t44.Joined, .int .i64 t44.Rank, .int .i64 t44.Mode, .slice y47.1 t44.Nodes.length y47.2] ([t44] : List Rule) (own_single (by rintro w Fs ⟨G0, _, rfl, h0, rfl⟩; exact ⟨148, y47.1, y47.2, G0, by simp, rfl, h0⟩)) (fun y48 => ?_)
         refine gn hm [21, 14, 4, 3, 2, 1] [] ?_
         refine ha1 9 ?_
         refine hr_ [1, 0] ?_
         refine hi (fun γ0 δ hm => ?_)
         refine JG_appendR (α := Rule) (by kernel_rfl) (t := 38) (e := 86) (a1 := y22.1) (a2 := y48.1) (c1 := y22.2) (c2 := y48.2) (l1 := s21.2) (l2 := ([t44] : List Rule)) (by kernel_rfl) (i := Try.t86) (by kernel_rfl) (z := (vRule (Rule.mk 0 0 0 0 0 0 ([] : List Node)) (none, 0))) (by kernel_rfl) (by kernel_rfl) (by kernel_rfl) (by kernel_rfl) (Rr := []) rfl hm51 _ (fun _ => rfl) (fun y49 => ?_)
         refine gn hm [22, 4, 3, 2, 1] [] ?_
         refine htq 10 (.p 2 0) [] ?_
         refine ha1 11 ?_
         refine hi (fun γ0 δ hm => ?_)
         refine gs [(23, .p 2 0), (22, .v (.slice y49.1 l50.length y49.2)), (4, vi s21.1), (3, .p 2 0), (2, .p 1 0), (1, .p 0 0)] [(40, (eBook x0 (a0_0, c0_0))), (40, [.slice none 0 0]), (40, (eBook (Book.mk l50) y49))] (fun δ2 => ?_)
         refine gd hm [4, 3, 2, 1] [] ?_
         exact hd y49 [4, 3, 2, 1] [0] 3
       · refine hi (fun γ0 δ hm => ?_)
         refine g1 (fun w hs => c_spec_l10Rule h45 (hv42.kept hs.kept)) (fun y47 => ?_)
         refine gn hm [20, 13, 4, 3, 2, 1] [] ?_
         refine ha2 1 8 ?_ ?_
         · refine hi (fun γ0 δ hm => ?_)
           refine gs [(14, .v (.slice y22.1 s21.2.length y22.2)), (20, .v (vRule t44 y47)), (13, .p 2 0), (4, vi s21.1), (3, .p 2 0), (2, .p 1 0), (1, .p 0 0)] [(40, (eBook x0 (a0_0, c0_0))), (40, [.slice none 0 0]), (40, (eBook (Book.mk s21.2) y22))] (fun δ2 => ?_)
           refine gd hm [14, 20, 4, 3, 2, 1] [] ?_
           refine ha1 8 ?_
           refine hi (fun γ0 δ hm => ?_)
           refine gb [SlRes 148 t44.Nodes y47.1 y47.2] [SlRes 86 s21.2 y22.1 y22.2] 86 1 [.int .i64 t44.Name, .int .i64 t44.From, .int .i64 t44.To, .int .i64 t44.Joined, .int .i64 t44.Rank, .int .i64 t44.Mode, .slice y47.1 t44.Nodes.length y47.2] ([t44] : List Rule) (own_single (by rintro w Fs ⟨G0, _, rfl, h0, rfl⟩; exact ⟨148, y47.1, y47.2, G0, by simp, rfl, h0⟩)) (fun y48 => ?_)
           refine gn hm [21, 14, 4, 3, 2, 1] [] ?_
           refine ha1 9 ?_
           refine hr_ [1, 0] ?_
           refine hi (fun γ0 δ hm => ?_)
           refine JG_appendR (α := Rule) (by kernel_rfl) (t := 38) (e := 86) (a1 := y22.1) (a2 := y48.1) (c1 := y22.2) (c2 := y48.2) (l1 := s21.2) (l2 := ([t44] : List Rule)) (by kernel_rfl) (i := Try.t86) (by kernel_rfl) (z := (vRule (Rule.mk 0 0 0 0 0 0 ([] : List Node)) (none, 0))) (by kernel_rfl) (by kernel_rfl) (by kernel_rfl) (by kernel_rfl) (Rr := []) rfl hm51 _ (fun _ => rfl) (fun y49 => ?_)
           refine gn hm [22, 4, 3, 2, 1] [] ?_
           refine htq 10 (.p 2 0) [] ?_
           refine ha1 11 ?_
           refine hi (fun γ0 δ hm => ?_)
           refine gs [(23, .p 2 0), (22, .v (.slice y49.1 l50.length y49.2)), (4, vi s21.1), (3, .p 2 0), (2, .p 1 0), (1, .p 0 0)] [(40, (eBook x0 (a0_0, c0_0))), (40, [.slice none 0 0]), (40, (eBook (Book.mk l50) y49))] (fun δ2 => ?_)
           refine gd hm [4, 3, 2, 1] [] ?_
           exact hd y49 [4, 3, 2, 1] [0] 3
         · refine hi (fun γ0 δ hm => ?_)
           refine gb [SlRes 148 t44.Nodes y47.1 y47.2] [SlRes 86 s21.2 y22.1 y22.2] 86 1 [.int .i64 t44.Name, .int .i64 t44.From, .int .i64 t44.To, .int .i64 t44.Joined, .int .i64 t44.Rank, .int .i64 t44.Mode, .slice y47.1 t44.Nodes.length y47.2] ([t44] : List Rule) (own_single (by rintro w Fs ⟨G0, _, rfl, h0, rfl⟩; exact ⟨148, y47.1, y47.2, G0, by simp, rfl, h0⟩)) (fun y48 => ?_)
           refine gn hm [21, 13, 4, 3, 2, 1] [] ?_
           refine ha1 1 ?_
           refine hi (fun γ0 δ hm => ?_)
           refine gs [(14, .v (.slice y22.1 s21.2.length y22.2)), (21, .v (.slice y48.1 ([t44] : List Rule).length y48.2)), (13, .p 2 0), (4, vi s21.1), (3, .p 2 0), (2, .p 1 0), (1, .p 0 0)] [(40, (eBook x0 (a0_0, c0_0))), (40, [.slice none 0 0]), (40, (eBook (Book.mk s21.2) y22))] (fun δ2 => ?_)
           refine gd hm [14, 21, 4, 3, 2, 1] [] ?_
           refine ha1 9 ?_
           refine hr_ [1, 0] ?_
           refine hi (fun γ0 δ hm => ?_)
           refine JG_appendR (α := Rule) (by kernel_rfl) (t := 38) (e := 86) (a1 := y22.1) (a2 := y48.1) (c1 := y22.2) (c2 := y48.2) (l1 := s21.2) (l2 := ([t44] : List Rule)) (by kernel_rfl) (i := Try.t86) (by kernel_rfl) (z := (vRule (Rule.mk 0 0 0 0 0 0 ([] : List Node)) (none, 0))) (by kernel_rfl) (by kernel_rfl) (by kernel_rfl) (by kernel_rfl) (Rr := []) rfl hm51 _ (fun _ => rfl) (fun y49 => ?_)
           refine gn hm [22, 4, 3, 2, 1] [] ?_
           refine htq 10 (.p 2 0) [] ?_
           refine ha1 11 ?_
           refine hi (fun γ0 δ hm => ?_)
           refine gs [(23, .p 2 0), (22, .v (.slice y49.1 l50.length y49.2)), (4, vi s21.1), (3, .p 2 0), (2, .p 1 0), (1, .p 0 0)] [(40, (eBook x0 (a0_0, c0_0))), (40, [.slice none 0 0]), (40, (eBook (Book.mk l50) y49))] (fun δ2 => ?_)
           refine gd hm [4, 3, 2, 1] [] ?_
           exact hd y49 [4, 3, 2, 1] [0] 3
     refine bn (nt (qr (oN 3 [(4, vi (w64 (s21.1 + 1)))] [3, 2, 1] ?_)))
     exact oe (ct h52 (y53.1, y53.2) [4, 3, 2, 1] [0] 3)
   refine qx (nx (nx (bh ?_)))
   have h54 := leafB hd30 h36 h26
   exact mp (s21.2, (y22.1, y22.2)) h54 [3, 2] [0] 3
 have h33 := (congrFun hk28 _).symm.trans h33p
 refine nt (qs (qr (oB 2 [] [2] [(40, (eBook x0 (a0_0, c0_0))), (40, (eBook (Book.mk y32.1) y32.2)), (40, (eBook (Book.mk y32.1) y32.2))] ?_)))
 refine oe (nt (qe (rt [vBook (Book.mk y32.1) y32.2] (fun γ w hs => ?_))))
 rw [← sI h33]
 exact ⟨y32.2, rfl, hs.kept.toBelow, (hs.takeR (is := [0]) rfl).fresh⟩

theorem c_spec_StoreAsOf {W : World} {x0 : Store} {a0_0 : Option Addr} {c0_0 : Nat} {x1 : Int} {r : Store} (h : spec_StoreAsOf x0 x1 = some r) (hv0_0 : SlView W x0.Facts a0_0 c0_0) :
    Gives Try.prog 16 #[vStore x0 (a0_0, c0_0), .int .i64 x1] W (fun y : AC => vStore r y) (fun y => [SlRes 89 r.Facts y.1 y.2]) := by
 unfold spec_StoreAsOf at h
 refine en Try.func16 Try.ntmps16 ?_
 refine qs (qr (oB 2 [(4, .p 1 0), (2, .p 0 0)] [1] [(43, (eStore x0 (a0_0, c0_0))), (43, [.slice none 0 0])] ?_))
 refine oe (nt (qs (qr (oB 3 [(5, .p 2 0)] [4, 2, 1] [(43, (eStore x0 (a0_0, c0_0))), (43, [.slice none 0 0]), (43, [.slice none 0 0])] ?_))))
 refine oe (nt (qs (qs (qr (oN 1 [(6, vi 0)] [5, 4, 2, 1] ?_)))))
 refine oe (nt (JC_addnil 89 (List.nil (α := Fact)) rfl ?_))
 obtain ⟨r24, hL25, h26⟩ := bS h
 obtain ⟨k27, hk28, h26⟩ := brkS h26
 refine JC_cutP (τ := ((List Fact)) × (AC)) (fun y => k27 y.1 = some r) (fun y32 => [(5, .p 2 0), (4, .p 1 0)]) (fun y32 => [(43, (eStore x0 (a0_0, c0_0))), (43, [.slice none 0 0]), (43, (eStore (Store.mk y32.1) y32.2))]) (fun y32 => [SlRes 89 y32.1 y32.2.1 y32.2.2]) ?_ (fun y32 h33p => ?_)
 · refine qb (lp AC hL25 (fun s21 y22 => [(6, vi s21.1), (5, .p 2 0), (4, .p 1 0), (2, .p 0 0), (1, vi x1)]) (fun s21 y22 => [(43, (eStore x0 (a0_0, c0_0))), (43, [.slice none 0 0]), (43, (eStore (Store.mk s21.2) y22))]) (fun s21 y22 => [SlRes 89 s21.2 y22.1 y22.2]) (none, 0) [6, 5, 4, 2, 1] [0] 3 (fun s21 y22 t23 h29 hd30 => ?_))
   refine qs (qs (qr (oN 5 [(12, vb (decide (s21.1 < (x0.Facts.length : Int))))] [6, 5, 4, 2, 1] ?_)))
   refine oe (nt (cC h29 (fun h35 => ?_) (fun h36 => ?_)))
   · refine qk (nt (qs (qb (qs (qr (oN 3 [(17, vi s21.1), (16, .v (.slice a0_0 x0.Facts.length c0_0))] [6, 5, 4, 2, 1] ?_))))))
     obtain ⟨x37, hx38, h39⟩ := bS h35
     refine oi 5 (fun γ w hs => (hv0_0.kept hs.kept)) hx38 ?_
     refine oN 1 [(19, .q a0_0 (Int.toNat s21.1 * 5 + 3))] [6, 5, 4, 2, 1] ?_
     refine ol 3 3 (.int .i64 x37.Known) (fun γ w hs => (hv0_0.kept hs.kept).flatq hx38) ?_
     refine oN 2 [(22, vb (decide (x37.Known ≤ x1)))] [6, 5, 4, 2, 1] ?_
     refine oe (nt ?_)
     obtain ⟨k52, hk53, h55⟩ := jS h39
     refine JC_cutP (τ := ((List Fact)) × (AC)) (fun y => k52 y.1 = some t23) (fun y51 => [(6, vi s21.1), (5, .p 2 0), (4, .p 1 0), (2, .p 0 0), (1, vi x1)]) (fun y51 => [(43, (eStore x0 (a0_0, c0_0))), (43, [.slice none 0 0]), (43, (eStore (Store.mk y51.1) y51.2))]) (fun y51 => [SlRes 89 y51.1 y51.2.1 y51.2.2]) ?_ (fun y51 h54p => ?_)
     · refine cC h55 (fun h57 => ?_) (fun h58 => ?_)
       · obtain ⟨x59, hx60, h61⟩ := bS h57
         obtain ⟨l64, hm65, h66⟩ := bS h61
         refine JC_cut (τ := AC) (fun y67 => [(6, vi s21.1), (5, .p 2 0), (4, .p 1 0), (2, .p 0 0), (1, vi x1)]) (fun y67 => [(43, (eStore x0 (a0_0, c0_0))), (43, [.slice none 0 0]), (43, (eStore (Store.mk l64) y67))]) (fun y67 => [SlRes 89 l64 y67.1 y67.2]) ?_ (fun y67 => ?_)
         · refine jw [6, 5, 4, 2, 1] [0] ?_
           refine JC_heldN (ks := [0, 1]) (Rk := []) 11 (by kernel_rfl) (by kernel_rfl) ?_
           refine htq 0 (.p 2 0) [] ?_
           refine htq 2 (.p 0 0) [] ?_
           refine htq 3 (.v (.slice a0_0 x0.Facts.length c0_0)) [] ?_
           refine hk [26, 23, 6, 5, 4, 2, 1] ?_
           refine htq 4 (vi s21.1) [] ?_
           refine ht 5 (.q a0_0 (Int.toNat s21.1 * 5)) [] (index_held (d := a0_0) (m := x0.Facts.length) (j := s21.1) (s := 5) (by kernel_rfl) (fun γ0 w hs => (hv0_0.kept hs.kept)) rfl hx60) ?_
           refine hk [28, 23, 6, 5, 4, 2, 1] ?_
           refine ht 6 (.v (vFact x59)) [] (loadq_held (t := 89) (d := a0_0) (Int.toNat s21.1 * 5) 0 (by kernel_rfl) (cs := (eFact x59)) (v := vFact x59) (fun γ0 w hs => (hv0_0.kept hs.kept).flatq hx60) (by kernel_rfl)) ?_
           refine hk [29, 23, 6, 5, 4, 2, 1] ?_
           refine ha2 1 7 ?_ ?_
           · refine hi (fun γ0 δ hm => ?_)
             refine gs [(24, .v (.slice y22.1 s21.2.length y22.2)), (29, .v (vFact x59)), (23, .p 2 0), (6, vi s21.1), (5, .p 2 0), (4, .p 1 0), (2, .p 0 0), (1, vi x1)] [(43, (eStore x0 (a0_0, c0_0))), (43, [.slice none 0 0]), (43, (eStore (Store.mk s21.2) y22))] (fun δ2 => ?_)
             refine gd hm [24, 29, 6, 5, 4, 2, 1] [] ?_
             refine ha1 7 ?_
             refine hi (fun γ0 δ hm => ?_)
             refine gb [] [SlRes 89 s21.2 y22.1 y22.2] 89 1 [.int .i64 x59.Key, .int .i64 x59.From, .int .i64 x59.To, .int .i64 x59.Known, .int .i64 x59.Value] ([x59] : List Fact) (own_flat (by kernel_rfl)) (fun y62 => ?_)
             refine gn hm [30, 24, 6, 5, 4, 2, 1] [] ?_
             refine ha1 8 ?_
             refine hr_ [1, 0] ?_
             refine hi (fun γ0 δ hm => ?_)
             refine ga 41 y62.2 Try.t89 (vFact (Fact.mk 0 0 0 0 0)) (fun w hs => ⟨y62.2, (hs.view 1 rfl)⟩) hm65 (fun y63 => ?_)
             refine gn hm [31, 6, 5, 4, 2, 1] [] ?_
             refine htq 9 (.p 2 0) [] ?_
             refine ha1 10 ?_
             refine hi (fun γ0 δ hm => ?_)
             refine gs [(32, .p 2 0), (31, .v (.slice y63.1 l64.length y63.2)), (6, vi s21.1), (5, .p 2 0), (4, .p 1 0), (2, .p 0 0), (1, vi x1)] [(43, (eStore x0 (a0_0, c0_0))), (43, [.slice none 0 0]), (43, (eStore (Store.mk l64) y63))] (fun δ2 => ?_)
             refine gd hm [6, 5, 4, 2, 1] [] ?_
             exact hd y63 [6, 5, 4, 2, 1] [0] 3
           · refine hi (fun γ0 δ hm => ?_)
             refine gb [] [SlRes 89 s21.2 y22.1 y22.2] 89 1 [.int .i64 x59.Key, .int .i64 x59.From, .int .i64 x59.To, .int .i64 x59.Known, .int .i64 x59.Value] ([x59] : List Fact) (own_flat (by kernel_rfl)) (fun y62 => ?_)
             refine gn hm [30, 23, 6, 5, 4, 2, 1] [] ?_
             refine ha1 1 ?_
             refine hi (fun γ0 δ hm => ?_)
             refine gs [(24, .v (.slice y22.1 s21.2.length y22.2)), (30, .v (.slice y62.1 ([x59] : List Fact).length y62.2)), (23, .p 2 0), (6, vi s21.1), (5, .p 2 0), (4, .p 1 0), (2, .p 0 0), (1, vi x1)] [(43, (eStore x0 (a0_0, c0_0))), (43, [.slice none 0 0]), (43, (eStore (Store.mk s21.2) y22))] (fun δ2 => ?_)
             refine gd hm [24, 30, 6, 5, 4, 2, 1] [] ?_
             refine ha1 8 ?_
             refine hr_ [1, 0] ?_
             refine hi (fun γ0 δ hm => ?_)
             refine ga 41 y62.2 Try.t89 (vFact (Fact.mk 0 0 0 0 0)) (fun w hs => ⟨y62.2, (hs.view 1 rfl)⟩) hm65 (fun y63 => ?_)
             refine gn hm [31, 6, 5, 4, 2, 1] [] ?_
             refine htq 9 (.p 2 0) [] ?_
             refine ha1 10 ?_
             refine hi (fun γ0 δ hm => ?_)
             refine gs [(32, .p 2 0), (31, .v (.slice y63.1 l64.length y63.2)), (6, vi s21.1), (5, .p 2 0), (4, .p 1 0), (2, .p 0 0), (1, vi x1)] [(43, (eStore x0 (a0_0, c0_0))), (43, [.slice none 0 0]), (43, (eStore (Store.mk l64) y63))] (fun δ2 => ?_)
             refine gd hm [6, 5, 4, 2, 1] [] ?_
             exact hd y63 [6, 5, 4, 2, 1] [0] 3
         exact mp (l64, (y67.1, y67.2)) h66 [6, 5, 4, 2, 1] [0] 3
       exact qk (mp (s21.2, (y22.1, y22.2)) h58 [6, 5, 4, 2, 1] [0] 3)
     have h54 := (congrFun hk53 _).symm.trans h54p
     refine bn (nt (qr (oN 3 [(6, vi (w64 (s21.1 + 1)))] [5, 4, 2, 1] ?_)))
     exact oe (ct h54 (y51.2.1, y51.2.2) [6, 5, 4, 2, 1] [0] 3)
   refine qx (nx (nx (bh ?_)))
   have h68 := leafB hd30 h36 h26
   exact mp (s21.2, (y22.1, y22.2)) h68 [5, 4] [0] 3
 have h33 := (congrFun hk28 _).symm.trans h33p
 refine nt (qs (qr (oB 2 [] [4] [(43, (eStore x0 (a0_0, c0_0))), (43, (eStore (Store.mk y32.1) y32.2)), (43, (eStore (Store.mk y32.1) y32.2))] ?_)))
 refine oe (nt (qe (rt [vStore (Store.mk y32.1) y32.2] (fun γ w hs => ?_))))
 rw [← sI h33]
 exact ⟨y32.2, rfl, hs.kept.toBelow, (hs.takeR (is := [0]) rfl).fresh⟩

theorem c_spec_SeriesAsOf {W : World} {x0 : Series} {a0_0 : Option Addr} {c0_0 : Nat} {x1 : Int} {r : Series} (h : spec_SeriesAsOf x0 x1 = some r) (hv0_0 : SlView W x0.Points a0_0 c0_0) :
    Gives Try.prog 17 #[vSeries x0 (a0_0, c0_0), .int .i64 x1] W (fun y : AC => vSeries r y) (fun y => [SlRes 91 r.Points y.1 y.2]) := by
 unfold spec_SeriesAsOf at h
 refine en Try.func17 Try.ntmps17 ?_
 refine qs (qr (oB 2 [(4, .p 1 0), (2, .p 0 0)] [1] [(46, (eSeries x0 (a0_0, c0_0))), (46, [.slice none 0 0])] ?_))
 refine oe (nt (qs (qr (oB 3 [(5, .p 2 0)] [4, 2, 1] [(46, (eSeries x0 (a0_0, c0_0))), (46, [.slice none 0 0]), (46, [.slice none 0 0])] ?_))))
 refine oe (nt (qs (qs (qr (oN 1 [(6, vi 0)] [5, 4, 2, 1] ?_)))))
 refine oe (nt (JC_addnil 91 (List.nil (α := Point)) rfl ?_))
 obtain ⟨r24, hL25, h26⟩ := bS h
 obtain ⟨k27, hk28, h26⟩ := brkS h26
 refine JC_cutP (τ := ((List Point)) × (AC)) (fun y => k27 y.1 = some r) (fun y32 => [(5, .p 2 0), (4, .p 1 0)]) (fun y32 => [(46, (eSeries x0 (a0_0, c0_0))), (46, [.slice none 0 0]), (46, (eSeries (Series.mk y32.1) y32.2))]) (fun y32 => [SlRes 91 y32.1 y32.2.1 y32.2.2]) ?_ (fun y32 h33p => ?_)
 · refine qb (lp AC hL25 (fun s21 y22 => [(6, vi s21.1), (5, .p 2 0), (4, .p 1 0), (2, .p 0 0), (1, vi x1)]) (fun s21 y22 => [(46, (eSeries x0 (a0_0, c0_0))), (46, [.slice none 0 0]), (46, (eSeries (Series.mk s21.2) y22))]) (fun s21 y22 => [SlRes 91 s21.2 y22.1 y22.2]) (none, 0) [6, 5, 4, 2, 1] [0] 3 (fun s21 y22 t23 h29 hd30 => ?_))
   refine qs (qs (qr (oN 5 [(12, vb (decide (s21.1 < (x0.Points.length : Int))))] [6, 5, 4, 2, 1] ?_)))
   refine oe (nt (cC h29 (fun h35 => ?_) (fun h36 => ?_)))
   · refine qk (nt (qs (qb (qs (qr (oN 3 [(17, vi s21.1), (16, .v (.slice a0_0 x0.Points.length c0_0))] [6, 5, 4, 2, 1] ?_))))))
     obtain ⟨x37, hx38, h39⟩ := bS h35
     refine oi 3 (fun γ w hs => (hv0_0.kept hs.kept)) hx38 ?_
     refine oN 1 [(19, .q a0_0 (Int.toNat s21.1 * 3 + 1))] [6, 5, 4, 2, 1] ?_
     refine ol 3 1 (.int .i64 x37.Known) (fun γ w hs => (hv0_0.kept hs.kept).flatq hx38) ?_
     refine oN 2 [(22, vb (decide (x37.Known ≤ x1)))] [6, 5, 4, 2, 1] ?_
     refine oe (nt ?_)
     obtain ⟨k52, hk53, h55⟩ := jS h39
     refine JC_cutP (τ := ((List Point)) × (AC)) (fun y => k52 y.1 = some t23) (fun y51 => [(6, vi s21.1), (5, .p 2 0), (4, .p 1 0), (2, .p 0 0), (1, vi x1)]) (fun y51 => [(46, (eSeries x0 (a0_0, c0_0))), (46, [.slice none 0 0]), (46, (eSeries (Series.mk y51.1) y51.2))]) (fun y51 => [SlRes 91 y51.1 y51.2.1 y51.2.2]) ?_ (fun y51 h54p => ?_)
     · refine cC h55 (fun h57 => ?_) (fun h58 => ?_)
       · obtain ⟨x59, hx60, h61⟩ := bS h57
         obtain ⟨l64, hm65, h66⟩ := bS h61
         refine JC_cut (τ := AC) (fun y67 => [(6, vi s21.1), (5, .p 2 0), (4, .p 1 0), (2, .p 0 0), (1, vi x1)]) (fun y67 => [(46, (eSeries x0 (a0_0, c0_0))), (46, [.slice none 0 0]), (46, (eSeries (Series.mk l64) y67))]) (fun y67 => [SlRes 91 l64 y67.1 y67.2]) ?_ (fun y67 => ?_)
         · refine jw [6, 5, 4, 2, 1] [0] ?_
           refine JC_heldN (ks := [0, 1]) (Rk := []) 11 (by kernel_rfl) (by kernel_rfl) ?_
           refine htq 0 (.p 2 0) [] ?_
           refine htq 2 (.p 0 0) [] ?_
           refine htq 3 (.v (.slice a0_0 x0.Points.length c0_0)) [] ?_
           refine hk [26, 23, 6, 5, 4, 2, 1] ?_
           refine htq 4 (vi s21.1) [] ?_
           refine ht 5 (.q a0_0 (Int.toNat s21.1 * 3)) [] (index_held (d := a0_0) (m := x0.Points.length) (j := s21.1) (s := 3) (by kernel_rfl) (fun γ0 w hs => (hv0_0.kept hs.kept)) rfl hx60) ?_
           refine hk [28, 23, 6, 5, 4, 2, 1] ?_
           refine ht 6 (.v (vPoint x59)) [] (loadq_held (t := 91) (d := a0_0) (Int.toNat s21.1 * 3) 0 (by kernel_rfl) (cs := (ePoint x59)) (v := vPoint x59) (fun γ0 w hs => (hv0_0.kept hs.kept).flatq hx60) (by kernel_rfl)) ?_
           refine hk [29, 23, 6, 5, 4, 2, 1] ?_
           refine ha2 1 7 ?_ ?_
           · refine hi (fun γ0 δ hm => ?_)
             refine gs [(24, .v (.slice y22.1 s21.2.length y22.2)), (29, .v (vPoint x59)), (23, .p 2 0), (6, vi s21.1), (5, .p 2 0), (4, .p 1 0), (2, .p 0 0), (1, vi x1)] [(46, (eSeries x0 (a0_0, c0_0))), (46, [.slice none 0 0]), (46, (eSeries (Series.mk s21.2) y22))] (fun δ2 => ?_)
             refine gd hm [24, 29, 6, 5, 4, 2, 1] [] ?_
             refine ha1 7 ?_
             refine hi (fun γ0 δ hm => ?_)
             refine gb [] [SlRes 91 s21.2 y22.1 y22.2] 91 1 [.int .i64 x59.Month, .int .i64 x59.Known, .int .i64 x59.Value] ([x59] : List Point) (own_flat (by kernel_rfl)) (fun y62 => ?_)
             refine gn hm [30, 24, 6, 5, 4, 2, 1] [] ?_
             refine ha1 8 ?_
             refine hr_ [1, 0] ?_
             refine hi (fun γ0 δ hm => ?_)
             refine ga 44 y62.2 Try.t91 (vPoint (Point.mk 0 0 0)) (fun w hs => ⟨y62.2, (hs.view 1 rfl)⟩) hm65 (fun y63 => ?_)
             refine gn hm [31, 6, 5, 4, 2, 1] [] ?_
             refine htq 9 (.p 2 0) [] ?_
             refine ha1 10 ?_
             refine hi (fun γ0 δ hm => ?_)
             refine gs [(32, .p 2 0), (31, .v (.slice y63.1 l64.length y63.2)), (6, vi s21.1), (5, .p 2 0), (4, .p 1 0), (2, .p 0 0), (1, vi x1)] [(46, (eSeries x0 (a0_0, c0_0))), (46, [.slice none 0 0]), (46, (eSeries (Series.mk l64) y63))] (fun δ2 => ?_)
             refine gd hm [6, 5, 4, 2, 1] [] ?_
             exact hd y63 [6, 5, 4, 2, 1] [0] 3
           · refine hi (fun γ0 δ hm => ?_)
             refine gb [] [SlRes 91 s21.2 y22.1 y22.2] 91 1 [.int .i64 x59.Month, .int .i64 x59.Known, .int .i64 x59.Value] ([x59] : List Point) (own_flat (by kernel_rfl)) (fun y62 => ?_)
             refine gn hm [30, 23, 6, 5, 4, 2, 1] [] ?_
             refine ha1 1 ?_
             refine hi (fun γ0 δ hm => ?_)
             refine gs [(24, .v (.slice y22.1 s21.2.length y22.2)), (30, .v (.slice y62.1 ([x59] : List Point).length y62.2)), (23, .p 2 0), (6, vi s21.1), (5, .p 2 0), (4, .p 1 0), (2, .p 0 0), (1, vi x1)] [(46, (eSeries x0 (a0_0, c0_0))), (46, [.slice none 0 0]), (46, (eSeries (Series.mk s21.2) y22))] (fun δ2 => ?_)
             refine gd hm [24, 30, 6, 5, 4, 2, 1] [] ?_
             refine ha1 8 ?_
             refine hr_ [1, 0] ?_
             refine hi (fun γ0 δ hm => ?_)
             refine ga 44 y62.2 Try.t91 (vPoint (Point.mk 0 0 0)) (fun w hs => ⟨y62.2, (hs.view 1 rfl)⟩) hm65 (fun y63 => ?_)
             refine gn hm [31, 6, 5, 4, 2, 1] [] ?_
             refine htq 9 (.p 2 0) [] ?_
             refine ha1 10 ?_
             refine hi (fun γ0 δ hm => ?_)
             refine gs [(32, .p 2 0), (31, .v (.slice y63.1 l64.length y63.2)), (6, vi s21.1), (5, .p 2 0), (4, .p 1 0), (2, .p 0 0), (1, vi x1)] [(46, (eSeries x0 (a0_0, c0_0))), (46, [.slice none 0 0]), (46, (eSeries (Series.mk l64) y63))] (fun δ2 => ?_)
             refine gd hm [6, 5, 4, 2, 1] [] ?_
             exact hd y63 [6, 5, 4, 2, 1] [0] 3
         exact mp (l64, (y67.1, y67.2)) h66 [6, 5, 4, 2, 1] [0] 3
       exact qk (mp (s21.2, (y22.1, y22.2)) h58 [6, 5, 4, 2, 1] [0] 3)
     have h54 := (congrFun hk53 _).symm.trans h54p
     refine bn (nt (qr (oN 3 [(6, vi (w64 (s21.1 + 1)))] [5, 4, 2, 1] ?_)))
     exact oe (ct h54 (y51.2.1, y51.2.2) [6, 5, 4, 2, 1] [0] 3)
   refine qx (nx (nx (bh ?_)))
   have h68 := leafB hd30 h36 h26
   exact mp (s21.2, (y22.1, y22.2)) h68 [5, 4] [0] 3
 have h33 := (congrFun hk28 _).symm.trans h33p
 refine nt (qs (qr (oB 2 [] [4] [(46, (eSeries x0 (a0_0, c0_0))), (46, (eSeries (Series.mk y32.1) y32.2)), (46, (eSeries (Series.mk y32.1) y32.2))] ?_)))
 refine oe (nt (qe (rt [vSeries (Series.mk y32.1) y32.2] (fun γ w hs => ?_))))
 rw [← sI h33]
 exact ⟨y32.2, rfl, hs.kept.toBelow, (hs.takeR (is := [0]) rfl).fresh⟩

theorem c_spec_l34Member {W : World} {x0 : Member} {b0 : AC × AC} {r : Member} (h : spec_l34Member x0 = some r) (hv0_0 : SlView W x0.Spells b0.1.1 b0.1.2) (hv0_1 : SlView W x0.Events b0.2.1 b0.2.2) :
    Gives Try.prog 18 #[vMember x0 b0] W (fun y : AC × AC => vMember r y) (fun y => [SlRes 125 r.Spells y.1.1 y.1.2, SlRes 129 r.Events y.2.1 y.2.2]) := by
 unfold spec_l34Member at h
 refine en Try.func18 Try.ntmps18 ?_
 refine qs (qr (oB 2 [(2, .p 1 0), (1, .p 0 0)] [] [(50, (eMember x0 b0)), (50, [.int .i64 0, .int .i64 0, .slice none 0 0, .slice none 0 0])] ?_))
 refine oe (nt (qs (qr (ob [] [] 125 0 [] ([] : List Spell) (own_flat (by kernel_rfl)) (fun y21 => ?_)))))
 refine oN 2 [(5, .v (.slice b0.1.1 x0.Spells.length b0.1.2))] [3, 2, 1] ?_
 obtain ⟨l24, hm25, h26⟩ := bS h
 refine oa 47 b0.1.2 Try.t125 (vSpell (Spell.mk 0 0 0 false)) (fun γ w hs => ⟨b0.1.2, (hv0_0.kept hs.kept)⟩) hm25 (fun y23 => ?_)
 refine oB 2 [] [2, 1] [(50, (eMember (Member.mk x0.Birth x0.Joined l24 x0.Events) (y23, b0.2))), (50, [.int .i64 0, .int .i64 0, .slice none 0 0, .slice none 0 0])] ?_
 refine oe (nt (qs (qr (ob [] [SlRes 125 l24 y23.1 y23.2] 129 0 [] ([] : List Event) (own_flat (by kernel_rfl)) (fun y27 => ?_)))))
 refine oN 2 [(10, .v (.slice b0.2.1 x0.Events.length b0.2.2))] [8, 2, 1] ?_
 obtain ⟨l30, hm31, h32⟩ := bS h26
 refine oa 48 b0.2.2 Try.t129 (vEvent (Event.mk 0 0)) (fun γ w hs => ⟨b0.2.2, (hv0_1.kept hs.kept)⟩) hm31 (fun y29 => ?_)
 refine oB 2 [] [2, 1] [(50, (eMember (Member.mk x0.Birth x0.Joined l24 l30) (y23, y29))), (50, [.int .i64 0, .int .i64 0, .slice none 0 0, .slice none 0 0])] ?_
 refine oe (nt (qs (qr (oB 2 [] [2] [(50, (eMember (Member.mk x0.Birth x0.Joined l24 l30) (y23, y29))), (50, (eMember (Member.mk x0.Birth x0.Joined l24 l30) (y23, y29)))] ?_))))
 refine oe (nt (qe (rt [vMember (Member.mk x0.Birth x0.Joined l24 l30) (y23, y29)] (fun γ w hs => ?_))))
 rw [← sI h32]
 exact ⟨(y23, y29), rfl, hs.kept.toBelow, (hs.takeR (is := [1, 0]) rfl).fresh⟩

theorem c_spec_CaseAsOf {W : World} {x0 : Case} {b0 : AC × AC × AC × AC × AC} {x1 : Int} {r : Case} (h : spec_CaseAsOf x0 x1 = some r) (hv0_0 : SlView W x0.Book.Rules b0.1.1 b0.1.2) (hv0_1 : SlView W x0.Store.Facts b0.2.1.1 b0.2.1.2) (hv0_2 : SlView W x0.Series.Points b0.2.2.1.1 b0.2.2.1.2) (hv0_3 : SlView W x0.Member.Spells b0.2.2.2.1.1 b0.2.2.2.1.2) (hv0_4 : SlView W x0.Member.Events b0.2.2.2.2.1 b0.2.2.2.2.2) :
    Gives Try.prog 5 #[vCase x0 b0, .int .i64 x1] W (fun y : AC × AC × AC × AC × AC => vCase r y) (fun y => [SlRes 86 r.Book.Rules y.1.1 y.1.2, SlRes 89 r.Store.Facts y.2.1.1 y.2.1.2, SlRes 91 r.Series.Points y.2.2.1.1 y.2.2.1.2, SlRes 125 r.Member.Spells y.2.2.2.1.1 y.2.2.2.1.2, SlRes 129 r.Member.Events y.2.2.2.2.1 y.2.2.2.2.2]) := by
 unfold spec_CaseAsOf at h
 refine en Try.func5 Try.ntmps5 ?_
 refine qs (qr (oB 2 [(4, .p 1 0), (2, .p 0 0)] [1] [(52, (eCase x0 b0)), (52, [.slice none 0 0, .slice none 0 0, .slice none 0 0, .int .i64 0, .int .i64 0, .slice none 0 0, .slice none 0 0])] ?_))
 refine oe (nt (qs ?_))
 obtain ⟨t21, h22, h23⟩ := bS h
 obtain ⟨t25, h26, h27⟩ := bS h23
 obtain ⟨t29, h30, h31⟩ := bS h27
 obtain ⟨t33, h34, h35⟩ := bS h31
 refine JC_cut (τ := AC × AC × AC × (AC × AC)) (fun y37 => [(4, .p 1 0)]) (fun y37 => [(52, (eCase x0 b0)), (52, (eCase (Case.mk t21 t25 t29 t33) y37))]) (fun y37 => [SlRes 125 t33.Spells y37.2.2.2.1.1 y37.2.2.2.1.2, SlRes 129 t33.Events y37.2.2.2.2.1 y37.2.2.2.2.2, SlRes 91 t29.Points y37.2.2.1.1 y37.2.2.1.2, SlRes 89 t25.Facts y37.2.1.1 y37.2.1.2, SlRes 86 t21.Rules y37.1.1 y37.1.2]) ?_ (fun y37 => ?_)
 · refine jw [4, 2, 1] [] ?_
   refine JC_heldN (ks := [0]) (Rk := []) 16 (by kernel_rfl) (by kernel_rfl) ?_
   refine htq 0 (.p 0 0) [] ?_
   refine htq 1 (.v (vBook x0.Book b0.1)) [] ?_
   refine hk [6, 4, 2, 1] ?_
   refine htq 3 (.p 0 1) [] ?_
   refine htq 4 (.v (vStore x0.Store b0.2.1)) [] ?_
   refine hk [9, 6, 4, 2, 1] ?_
   refine htq 5 (vi x1) [] ?_
   refine htq 7 (.p 0 2) [] ?_
   refine htq 8 (.v (vSeries x0.Series b0.2.2.1)) [] ?_
   refine hk [13, 10, 9, 6, 4, 2, 1] ?_
   refine htq 9 (vi x1) [] ?_
   refine hk [14, 13, 10, 9, 6, 4, 2] ?_
   refine htq 11 (.p 0 3) [] ?_
   refine hk [16, 14, 13, 10, 9, 6, 4] ?_
   refine htq 12 (.v (vMember x0.Member b0.2.2.2)) [] ?_
   refine hk [17, 14, 13, 10, 9, 6, 4] ?_
   refine ha1 2 ?_
   refine hi (fun γ0 δ hm => ?_)
   refine g1 (fun w hs => c_spec_l10Copy h22 (hv0_0.kept hs.kept)) (fun y24 => ?_)
   refine gn hm [7, 17, 14, 13, 10, 9, 4] [] ?_
   refine ha1 6 ?_
   refine hi (fun γ0 δ hm => ?_)
   refine g1 (fun w hs => c_spec_StoreAsOf h26 (hv0_1.kept hs.kept)) (fun y28 => ?_)
   refine gn hm [11, 7, 17, 14, 13, 4] [] ?_
   refine ha1 10 ?_
   refine hi (fun γ0 δ hm => ?_)
   refine g1 (fun w hs => c_spec_SeriesAsOf h30 (hv0_2.kept hs.kept)) (fun y32 => ?_)
   refine gn hm [15, 11, 7, 17, 4] [] ?_
   refine ha1 13 ?_
   refine hi (fun γ0 δ hm => ?_)
   refine g1 (fun w hs => c_spec_l34Member (b0 := b0.2.2.2) h34 (hv0_3.kept hs.kept) (hv0_4.kept hs.kept)) (fun y36 => ?_)
   refine gn hm [18, 15, 11, 7, 4] [] ?_
   refine htq 14 (.v (vCase (Case.mk t21 t25 t29 t33) (y24, y28, y32, y36.1, y36.2))) [] ?_
   refine hk [19, 4] ?_
   refine ha1 15 ?_
   refine hi (fun γ0 δ hm => ?_)
   refine gs [(19, .v (vCase (Case.mk t21 t25 t29 t33) (y24, y28, y32, y36.1, y36.2))), (4, .p 1 0)] [(52, (eCase x0 b0)), (52, (eCase (Case.mk t21 t25 t29 t33) (y24, y28, y32, y36.1, y36.2)))] (fun δ2 => ?_)
   refine gd hm [4] [] ?_
   exact hd (y24, y28, y32, y36) [4] [0, 0, 0, 0, 0] 2
 refine nt (qe (rt [vCase (Case.mk t21 t25 t29 t33) y37] (fun γ w hs => ?_)))
 rw [← sI h35]
 exact ⟨(y37.1, y37.2.1, y37.2.2.1, y37.2.2.2.1, y37.2.2.2.2), rfl, hs.kept.toBelow, (hs.takeR (is := [4, 3, 2, 0, 0]) rfl).fresh⟩

theorem c_slices_Clone_Node {W : World} {x0 : List Node} {a0_0 : Option Addr} {c0_0 : Nat} {r : (List Node)} (h : slices_Clone_Node x0 = some r) (hv0_0 : SlView W x0 a0_0 c0_0) :
    Gives Try.prog 94 #[.slice a0_0 x0.length c0_0] W (fun y : AC => .slice y.1 r.length y.2) (fun y => [SlRes 148 r y.1 y.2]) := by
 unfold slices_Clone_Node at h
 refine en Try.func94 Try.ntmps94 ?_
 refine qs (qr (oN 1 [] [0] ?_))
 refine oe (nt (qs (qs (qr (oN 1 [(3, .v (.slice a0_0 x0.length c0_0))] [0] ?_)))))
 rcases a0_0 with _ | d21
 · obtain rfl := hv0_0.nil rfl
   obtain rfl := hv0_0.nilE
   have h22 : (some ([] : List Node)) = some r := h
   refine oN 1 [(4, vb true)] [0] ?_
   refine oe (nt (JC_cond true (by kernel_rfl) (fun _ => ?_) (fun hb => by cases hb)))
   refine qs (qr (oN 1 [(2, .v (.slice none 0 0))] [] ?_))
   refine oe (nt (qe (nr (JE_addnil 148 (List.nil (α := Node)) rfl ?_))))
   refine rt [.slice none 0 0] (fun γ w hs => ?_)
   rw [← sI h22]
   exact ⟨(none, 0), rfl, hs.kept.toBelow, (hs.takeR (is := [0]) rfl).fresh⟩
 refine oN 1 [(4, vb false)] [0] ?_
 refine oe (nt (JC_cond false (by kernel_rfl) (fun hb => by cases hb) (fun _ => ?_)))
 refine qk (nt (qs (qr (ob [] [] 148 0 [] ([] : List Node) (own_flat (by kernel_rfl)) (fun y24 => ?_)))))
 refine oN 1 [(6, .v (.slice (some d21) x0.length c0_0))] [5] ?_
 obtain ⟨l27, hm28, h29⟩ := bS h
 refine oa 84 c0_0 Try.t148 (vNode (Node.mk 0 0 0 0 (Frac.mk 0 0))) (fun γ w hs => ⟨c0_0, (hv0_0.kept hs.kept)⟩) hm28 (fun y26 => ?_)
 refine oN 1 [(2, .v (.slice y26.1 l27.length y26.2))] [] ?_
 refine oe (nt (qe (rt [.slice y26.1 l27.length y26.2] (fun γ w hs => ?_))))
 rw [← sI h29]
 exact ⟨y26, rfl, hs.kept.toBelow, (hs.takeR (is := [0]) rfl).fresh⟩

theorem c_impl_copyNodes {W : World} {x0 : List Node} {a0_0 : Option Addr} {c0_0 : Nat} {r : (List Node)} (h : impl_copyNodes x0 = some r) (hv0_0 : SlView W x0 a0_0 c0_0) :
    Gives Try.prog 80 #[.slice a0_0 x0.length c0_0] W (fun y : AC => .slice y.1 r.length y.2) (fun y => [SlRes 148 r y.1 y.2]) := by
 unfold impl_copyNodes at h
 refine en Try.func80 Try.ntmps80 ?_
 refine qs (qr (oN 1 [] [0] ?_))
 refine oe (nt (qs (qr (oN 1 [(3, .v (.slice a0_0 x0.length c0_0))] [] ?_))))
 obtain ⟨t21, h22, h23⟩ := bS h
 refine k1 (fun γ w hs => c_slices_Clone_Node h22 (hv0_0.kept hs.kept)) (fun y24 => ?_)
 refine oN 1 [(2, .v (.slice y24.1 t21.length y24.2))] [] ?_
 refine oe (nt (qe (rt [.slice y24.1 t21.length y24.2] (fun γ w hs => ?_))))
 rw [← sI h23]
 exact ⟨y24, rfl, hs.kept.toBelow, (hs.takeR (is := [0]) rfl).fresh⟩

theorem c_impl_copyBook {W : World} {x0 : Book} {a0_0 : Option Addr} {c0_0 : Nat} {r : Book} (h : impl_copyBook x0 = some r) (hv0_0 : SlView W x0.Rules a0_0 c0_0) :
    Gives Try.prog 49 #[vBook x0 (a0_0, c0_0)] W (fun y : AC => vBook r y) (fun y => [SlRes 86 r.Rules y.1 y.2]) := by
 unfold impl_copyBook at h
 refine en Try.func49 Try.ntmps49 ?_
 refine qs (qr (oB 2 [(2, .p 1 0), (1, .p 0 0)] [] [(40, (eBook x0 (a0_0, c0_0))), (40, [.slice none 0 0])] ?_))
 refine oe (nt (qs (qr (oB 3 [(3, .p 2 0)] [2, 1] [(40, (eBook x0 (a0_0, c0_0))), (40, [.slice none 0 0]), (40, [.slice none 0 0])] ?_))))
 refine oe (nt (qs (qs (qr (oN 4 [(10, vi 0), (9, vi (x0.Rules.length : Int)), (8, .v (.slice a0_0 x0.Rules.length c0_0))] [3, 2] ?_)))))
 refine oe (nt (JC_addnil 86 (List.nil (α := Rule)) rfl ?_))
 obtain ⟨r24, hL25, h26⟩ := bS h
 obtain ⟨k27, hk28, h26⟩ := brkS h26
 refine JC_cutP (τ := ((List Rule)) × (AC)) (fun y => k27 y.1 = some r) (fun y32 => [(3, .p 2 0), (2, .p 1 0)]) (fun y32 => [(40, (eBook x0 (a0_0, c0_0))), (40, [.slice none 0 0]), (40, (eBook (Book.mk y32.1) y32.2))]) (fun y32 => [SlRes 86 y32.1 y32.2.1 y32.2.2]) ?_ (fun y32 h33p => ?_)
 · refine qb (lp AC hL25 (fun s21 y22 => [(10, vi s21.1), (9, vi (x0.Rules.length : Int)), (8, .v (.slice a0_0 x0.Rules.length c0_0)), (3, .p 2 0), (2, .p 1 0)]) (fun s21 y22 => [(40, (eBook x0 (a0_0, c0_0))), (40, [.slice none 0 0]), (40, (eBook (Book.mk s21.2) y22))]) (fun s21 y22 => [SlRes 86 s21.2 y22.1 y22.2]) (none, 0) [10, 9, 8, 3, 2] [0] 3 (fun s21 y22 t23 h29 hd30 => ?_))
   refine qs (qr (oN 1 [(11, vb (decide (s21.1 < (x0.Rules.length : Int))))] [10, 9, 8, 3, 2] ?_))
   refine oe (nt (qs (cC h29 (fun h35 => ?_) (fun h36 => ?_))))
   · refine qk (nt (qs (qb (qs (qr ?_)))))
     obtain ⟨x37, hx38, h39⟩ := bS h35
     refine oi 7 (fun γ w hs => (hv0_0.kept hs.kept)) hx38 ?_
     obtain ⟨_, ⟨a40, c41, rfl, hv42⟩, hc43⟩ := SlView.at hv0_0 (idx_some hx38).2.2
     refine ol 86 0 (vRule x37 (a40, c41)) (fun γ w hs => ⟨(hv0_0.kept hs.kept).ne (idx_some hx38).2.2, hc43.kept hs.kept⟩) ?_
     refine oB 2 [(5, .p 3 0)] [10, 9, 8, 3, 2] [(40, (eBook x0 (a0_0, c0_0))), (40, [.slice none 0 0]), (40, (eBook (Book.mk s21.2) y22)), (86, (eRule x37 (a40, c41)))] ?_
     refine oe (nt (qs (qr (oN 2 [(15, .v (.slice a40 x37.Nodes.length c41))] [5, 10, 9, 8, 3, 2] ?_))))
     obtain ⟨t44, h45, h46⟩ := bS h39
     refine k1 (fun γ w hs => c_impl_copyNodes h45 (hv42.kept hs.kept)) (fun y47 => ?_)
     refine oB 2 [] [5, 10, 9, 8, 3, 2] [(40, (eBook x0 (a0_0, c0_0))), (40, [.slice none 0 0]), (40, (eBook (Book.mk s21.2) y22)), (86, (eRule (Rule.mk x37.Name x37.From x37.To x37.Joined x37.Rank x37.Mode t44) y47))] ?_
     refine oe (nt (qr (oN 3 [(20, .v (vRule (Rule.mk x37.Name x37.From x37.To x37.Joined x37.Rank x37.Mode t44) y47)), (19, .v (.slice y22.1 s21.2.length y22.2))] [10, 9, 8, 3, 2] ?_)))
     refine ob [SlRes 148 t44 y47.1 y47.2] [SlRes 86 s21.2 y22.1 y22.2] 86 1 [.int .i64 x37.Name, .int .i64 x37.From, .int .i64 x37.To, .int .i64 x37.Joined, .int .i64 x37.Rank, .int .i64 x37.Mode, .slice y47.1 t44.length y47.2] ([Rule.mk x37.Name x37.From x37.To x37.Joined x37.Rank x37.Mode t44] : List Rule) (own_single (by rintro w Fs ⟨G0, _, rfl, h0, rfl⟩; exact ⟨148, y47.1, y47.2, G0, by simp, rfl, h0⟩)) (fun y48 => ?_)
     refine or_ [1, 0] ?_
     obtain ⟨l51, hm52, h53⟩ := bS h46
     refine JO_appendR (α := Rule) rfl (by kernel_rfl) (t := 38) (e := 86) (a1 := y22.1) (a2 := y48.1) (c1 := y22.2) (c2 := y48.2) (l1 := s21.2) (l2 := ([Rule.mk x37.Name x37.From x37.To x37.Joined x37.Rank x37.Mode t44] : List Rule)) (by kernel_rfl) (i := Try.t86) (by kernel_rfl) (z := (vRule (Rule.mk 0 0 0 0 0 0 ([] : List Node)) (none, 0))) (by kernel_rfl) (by kernel_rfl) (by kernel_rfl) (by kernel_rfl) (Rr := []) rfl hm52 _ (fun _ => rfl) (fun y50 => ?_)
     refine oB 2 [] [10, 9, 8, 3, 2] [(40, (eBook x0 (a0_0, c0_0))), (40, [.slice none 0 0]), (40, (eBook (Book.mk l51) y50)), (86, (eRule (Rule.mk x37.Name x37.From x37.To x37.Joined x37.Rank x37.Mode t44) y47))] ?_
     refine oe (bn (nt (qr (oN 2 [(10, vi (w64 (s21.1 + 1)))] [9, 8, 3, 2] ?_))))
     exact oe (ct h53 (y50.1, y50.2) [10, 9, 8, 3, 2] [0] 3)
   refine qx (nx (nx (bh ?_)))
   have h54 := leafB hd30 h36 h26
   exact mp (s21.2, (y22.1, y22.2)) h54 [3, 2] [0] 3
 have h33 := (congrFun hk28 _).symm.trans h33p
 refine nt (qs (qr (oB 2 [] [2] [(40, (eBook x0 (a0_0, c0_0))), (40, (eBook (Book.mk y32.1) y32.2)), (40, (eBook (Book.mk y32.1) y32.2))] ?_)))
 refine oe (nt (qe (rt [vBook (Book.mk y32.1) y32.2] (fun γ w hs => ?_))))
 rw [← sI h33]
 exact ⟨y32.2, rfl, hs.kept.toBelow, (hs.takeR (is := [0]) rfl).fresh⟩

theorem c_slices_Clone_Fact {W : World} {x0 : List Fact} {a0_0 : Option Addr} {c0_0 : Nat} {r : (List Fact)} (h : slices_Clone_Fact x0 = some r) (hv0_0 : SlView W x0 a0_0 c0_0) :
    Gives Try.prog 54 #[.slice a0_0 x0.length c0_0] W (fun y : AC => .slice y.1 r.length y.2) (fun y => [SlRes 89 r y.1 y.2]) := by
 unfold slices_Clone_Fact at h
 refine en Try.func54 Try.ntmps54 ?_
 refine qs (qr (oN 1 [] [0] ?_))
 refine oe (nt (qs (qs (qr (oN 1 [(3, .v (.slice a0_0 x0.length c0_0))] [0] ?_)))))
 rcases a0_0 with _ | d21
 · obtain rfl := hv0_0.nil rfl
   obtain rfl := hv0_0.nilE
   have h22 : (some ([] : List Fact)) = some r := h
   refine oN 1 [(4, vb true)] [0] ?_
   refine oe (nt (JC_cond true (by kernel_rfl) (fun _ => ?_) (fun hb => by cases hb)))
   refine qs (qr (oN 1 [(2, .v (.slice none 0 0))] [] ?_))
   refine oe (nt (qe (nr (JE_addnil 89 (List.nil (α := Fact)) rfl ?_))))
   refine rt [.slice none 0 0] (fun γ w hs => ?_)
   rw [← sI h22]
   exact ⟨(none, 0), rfl, hs.kept.toBelow, (hs.takeR (is := [0]) rfl).fresh⟩
 refine oN 1 [(4, vb false)] [0] ?_
 refine oe (nt (JC_cond false (by kernel_rfl) (fun hb => by cases hb) (fun _ => ?_)))
 refine qk (nt (qs (qr (ob [] [] 89 0 [] ([] : List Fact) (own_flat (by kernel_rfl)) (fun y24 => ?_)))))
 refine oN 1 [(6, .v (.slice (some d21) x0.length c0_0))] [5] ?_
 obtain ⟨l27, hm28, h29⟩ := bS h
 refine oa 41 c0_0 Try.t89 (vFact (Fact.mk 0 0 0 0 0)) (fun γ w hs => ⟨c0_0, (hv0_0.kept hs.kept)⟩) hm28 (fun y26 => ?_)
 refine oN 1 [(2, .v (.slice y26.1 l27.length y26.2))] [] ?_
 refine oe (nt (qe (rt [.slice y26.1 l27.length y26.2] (fun γ w hs => ?_))))
 rw [← sI h29]
 exact ⟨y26, rfl, hs.kept.toBelow, (hs.takeR (is := [0]) rfl).fresh⟩

theorem c_impl_copyStore {W : World} {x0 : Store} {a0_0 : Option Addr} {c0_0 : Nat} {r : Store} (h : impl_copyStore x0 = some r) (hv0_0 : SlView W x0.Facts a0_0 c0_0) :
    Gives Try.prog 50 #[vStore x0 (a0_0, c0_0)] W (fun y : AC => vStore r y) (fun y => [SlRes 89 r.Facts y.1 y.2]) := by
 unfold impl_copyStore at h
 refine en Try.func50 Try.ntmps50 ?_
 refine qs (qr (oB 2 [(2, .p 1 0), (1, .p 0 0)] [] [(43, (eStore x0 (a0_0, c0_0))), (43, [.slice none 0 0])] ?_))
 refine oe (nt (qs (qr (oN 2 [(4, .v (.slice a0_0 x0.Facts.length c0_0))] [2] ?_))))
 obtain ⟨t21, h22, h23⟩ := bS h
 refine k1 (fun γ w hs => c_slices_Clone_Fact h22 (hv0_0.kept hs.kept)) (fun y24 => ?_)
 refine oB 2 [] [2] [(43, (eStore x0 (a0_0, c0_0))), (43, (eStore (Store.mk t21) y24))] ?_
 refine oe (nt (qe (rt [vStore (Store.mk t21) y24] (fun γ w hs => ?_))))
 rw [← sI h23]
 exact ⟨y24, rfl, hs.kept.toBelow, (hs.takeR (is := [0]) rfl).fresh⟩

theorem c_slices_Clone_Point {W : World} {x0 : List Point} {a0_0 : Option Addr} {c0_0 : Nat} {r : (List Point)} (h : slices_Clone_Point x0 = some r) (hv0_0 : SlView W x0 a0_0 c0_0) :
    Gives Try.prog 57 #[.slice a0_0 x0.length c0_0] W (fun y : AC => .slice y.1 r.length y.2) (fun y => [SlRes 91 r y.1 y.2]) := by
 unfold slices_Clone_Point at h
 refine en Try.func57 Try.ntmps57 ?_
 refine qs (qr (oN 1 [] [0] ?_))
 refine oe (nt (qs (qs (qr (oN 1 [(3, .v (.slice a0_0 x0.length c0_0))] [0] ?_)))))
 rcases a0_0 with _ | d21
 · obtain rfl := hv0_0.nil rfl
   obtain rfl := hv0_0.nilE
   have h22 : (some ([] : List Point)) = some r := h
   refine oN 1 [(4, vb true)] [0] ?_
   refine oe (nt (JC_cond true (by kernel_rfl) (fun _ => ?_) (fun hb => by cases hb)))
   refine qs (qr (oN 1 [(2, .v (.slice none 0 0))] [] ?_))
   refine oe (nt (qe (nr (JE_addnil 91 (List.nil (α := Point)) rfl ?_))))
   refine rt [.slice none 0 0] (fun γ w hs => ?_)
   rw [← sI h22]
   exact ⟨(none, 0), rfl, hs.kept.toBelow, (hs.takeR (is := [0]) rfl).fresh⟩
 refine oN 1 [(4, vb false)] [0] ?_
 refine oe (nt (JC_cond false (by kernel_rfl) (fun hb => by cases hb) (fun _ => ?_)))
 refine qk (nt (qs (qr (ob [] [] 91 0 [] ([] : List Point) (own_flat (by kernel_rfl)) (fun y24 => ?_)))))
 refine oN 1 [(6, .v (.slice (some d21) x0.length c0_0))] [5] ?_
 obtain ⟨l27, hm28, h29⟩ := bS h
 refine oa 44 c0_0 Try.t91 (vPoint (Point.mk 0 0 0)) (fun γ w hs => ⟨c0_0, (hv0_0.kept hs.kept)⟩) hm28 (fun y26 => ?_)
 refine oN 1 [(2, .v (.slice y26.1 l27.length y26.2))] [] ?_
 refine oe (nt (qe (rt [.slice y26.1 l27.length y26.2] (fun γ w hs => ?_))))
 rw [← sI h29]
 exact ⟨y26, rfl, hs.kept.toBelow, (hs.takeR (is := [0]) rfl).fresh⟩

theorem c_impl_copySeries {W : World} {x0 : Series} {a0_0 : Option Addr} {c0_0 : Nat} {r : Series} (h : impl_copySeries x0 = some r) (hv0_0 : SlView W x0.Points a0_0 c0_0) :
    Gives Try.prog 51 #[vSeries x0 (a0_0, c0_0)] W (fun y : AC => vSeries r y) (fun y => [SlRes 91 r.Points y.1 y.2]) := by
 unfold impl_copySeries at h
 refine en Try.func51 Try.ntmps51 ?_
 refine qs (qr (oB 2 [(2, .p 1 0), (1, .p 0 0)] [] [(46, (eSeries x0 (a0_0, c0_0))), (46, [.slice none 0 0])] ?_))
 refine oe (nt (qs (qr (oN 2 [(4, .v (.slice a0_0 x0.Points.length c0_0))] [2] ?_))))
 obtain ⟨t21, h22, h23⟩ := bS h
 refine k1 (fun γ w hs => c_slices_Clone_Point h22 (hv0_0.kept hs.kept)) (fun y24 => ?_)
 refine oB 2 [] [2] [(46, (eSeries x0 (a0_0, c0_0))), (46, (eSeries (Series.mk t21) y24))] ?_
 refine oe (nt (qe (rt [vSeries (Series.mk t21) y24] (fun γ w hs => ?_))))
 rw [← sI h23]
 exact ⟨y24, rfl, hs.kept.toBelow, (hs.takeR (is := [0]) rfl).fresh⟩

theorem c_slices_Clone_Spell {W : World} {x0 : List Spell} {a0_0 : Option Addr} {c0_0 : Nat} {r : (List Spell)} (h : slices_Clone_Spell x0 = some r) (hv0_0 : SlView W x0 a0_0 c0_0) :
    Gives Try.prog 81 #[.slice a0_0 x0.length c0_0] W (fun y : AC => .slice y.1 r.length y.2) (fun y => [SlRes 125 r y.1 y.2]) := by
 unfold slices_Clone_Spell at h
 refine en Try.func81 Try.ntmps81 ?_
 refine qs (qr (oN 1 [] [0] ?_))
 refine oe (nt (qs (qs (qr (oN 1 [(3, .v (.slice a0_0 x0.length c0_0))] [0] ?_)))))
 rcases a0_0 with _ | d21
 · obtain rfl := hv0_0.nil rfl
   obtain rfl := hv0_0.nilE
   have h22 : (some ([] : List Spell)) = some r := h
   refine oN 1 [(4, vb true)] [0] ?_
   refine oe (nt (JC_cond true (by kernel_rfl) (fun _ => ?_) (fun hb => by cases hb)))
   refine qs (qr (oN 1 [(2, .v (.slice none 0 0))] [] ?_))
   refine oe (nt (qe (nr (JE_addnil 125 (List.nil (α := Spell)) rfl ?_))))
   refine rt [.slice none 0 0] (fun γ w hs => ?_)
   rw [← sI h22]
   exact ⟨(none, 0), rfl, hs.kept.toBelow, (hs.takeR (is := [0]) rfl).fresh⟩
 refine oN 1 [(4, vb false)] [0] ?_
 refine oe (nt (JC_cond false (by kernel_rfl) (fun hb => by cases hb) (fun _ => ?_)))
 refine qk (nt (qs (qr (ob [] [] 125 0 [] ([] : List Spell) (own_flat (by kernel_rfl)) (fun y24 => ?_)))))
 refine oN 1 [(6, .v (.slice (some d21) x0.length c0_0))] [5] ?_
 obtain ⟨l27, hm28, h29⟩ := bS h
 refine oa 47 c0_0 Try.t125 (vSpell (Spell.mk 0 0 0 false)) (fun γ w hs => ⟨c0_0, (hv0_0.kept hs.kept)⟩) hm28 (fun y26 => ?_)
 refine oN 1 [(2, .v (.slice y26.1 l27.length y26.2))] [] ?_
 refine oe (nt (qe (rt [.slice y26.1 l27.length y26.2] (fun γ w hs => ?_))))
 rw [← sI h29]
 exact ⟨y26, rfl, hs.kept.toBelow, (hs.takeR (is := [0]) rfl).fresh⟩

theorem c_slices_Clone_Event {W : World} {x0 : List Event} {a0_0 : Option Addr} {c0_0 : Nat} {r : (List Event)} (h : slices_Clone_Event x0 = some r) (hv0_0 : SlView W x0 a0_0 c0_0) :
    Gives Try.prog 82 #[.slice a0_0 x0.length c0_0] W (fun y : AC => .slice y.1 r.length y.2) (fun y => [SlRes 129 r y.1 y.2]) := by
 unfold slices_Clone_Event at h
 refine en Try.func82 Try.ntmps82 ?_
 refine qs (qr (oN 1 [] [0] ?_))
 refine oe (nt (qs (qs (qr (oN 1 [(3, .v (.slice a0_0 x0.length c0_0))] [0] ?_)))))
 rcases a0_0 with _ | d21
 · obtain rfl := hv0_0.nil rfl
   obtain rfl := hv0_0.nilE
   have h22 : (some ([] : List Event)) = some r := h
   refine oN 1 [(4, vb true)] [0] ?_
   refine oe (nt (JC_cond true (by kernel_rfl) (fun _ => ?_) (fun hb => by cases hb)))
   refine qs (qr (oN 1 [(2, .v (.slice none 0 0))] [] ?_))
   refine oe (nt (qe (nr (JE_addnil 129 (List.nil (α := Event)) rfl ?_))))
   refine rt [.slice none 0 0] (fun γ w hs => ?_)
   rw [← sI h22]
   exact ⟨(none, 0), rfl, hs.kept.toBelow, (hs.takeR (is := [0]) rfl).fresh⟩
 refine oN 1 [(4, vb false)] [0] ?_
 refine oe (nt (JC_cond false (by kernel_rfl) (fun hb => by cases hb) (fun _ => ?_)))
 refine qk (nt (qs (qr (ob [] [] 129 0 [] ([] : List Event) (own_flat (by kernel_rfl)) (fun y24 => ?_)))))
 refine oN 1 [(6, .v (.slice (some d21) x0.length c0_0))] [5] ?_
 obtain ⟨l27, hm28, h29⟩ := bS h
 refine oa 48 c0_0 Try.t129 (vEvent (Event.mk 0 0)) (fun γ w hs => ⟨c0_0, (hv0_0.kept hs.kept)⟩) hm28 (fun y26 => ?_)
 refine oN 1 [(2, .v (.slice y26.1 l27.length y26.2))] [] ?_
 refine oe (nt (qe (rt [.slice y26.1 l27.length y26.2] (fun γ w hs => ?_))))
 rw [← sI h29]
 exact ⟨y26, rfl, hs.kept.toBelow, (hs.takeR (is := [0]) rfl).fresh⟩

theorem c_impl_copyMember {W : World} {x0 : Member} {b0 : AC × AC} {r : Member} (h : impl_copyMember x0 = some r) (hv0_0 : SlView W x0.Spells b0.1.1 b0.1.2) (hv0_1 : SlView W x0.Events b0.2.1 b0.2.2) :
    Gives Try.prog 52 #[vMember x0 b0] W (fun y : AC × AC => vMember r y) (fun y => [SlRes 125 r.Spells y.1.1 y.1.2, SlRes 129 r.Events y.2.1 y.2.2]) := by
 unfold impl_copyMember at h
 refine en Try.func52 Try.ntmps52 ?_
 refine qs (qr (oB 2 [(2, .p 1 0), (1, .p 0 0)] [] [(50, (eMember x0 b0)), (50, [.int .i64 0, .int .i64 0, .slice none 0 0, .slice none 0 0])] ?_))
 refine oe (nt (qs (qr (oN 2 [(4, .v (.slice b0.1.1 x0.Spells.length b0.1.2))] [2, 1] ?_))))
 obtain ⟨t21, h22, h23⟩ := bS h
 refine k1 (fun γ w hs => c_slices_Clone_Spell h22 (hv0_0.kept hs.kept)) (fun y24 => ?_)
 refine oB 2 [] [2, 1] [(50, (eMember (Member.mk x0.Birth x0.Joined t21 x0.Events) (y24, b0.2))), (50, [.int .i64 0, .int .i64 0, .slice none 0 0, .slice none 0 0])] ?_
 refine oe (nt (qs (qr (oN 2 [(8, .v (.slice b0.2.1 x0.Events.length b0.2.2))] [2, 1] ?_))))
 obtain ⟨t25, h26, h27⟩ := bS h23
 refine k1 (fun γ w hs => c_slices_Clone_Event h26 (hv0_1.kept hs.kept)) (fun y28 => ?_)
 refine oB 2 [] [2, 1] [(50, (eMember (Member.mk x0.Birth x0.Joined t21 t25) (y24, y28))), (50, [.int .i64 0, .int .i64 0, .slice none 0 0, .slice none 0 0])] ?_
 refine oe (nt (qs (qr (oB 2 [] [2] [(50, (eMember (Member.mk x0.Birth x0.Joined t21 t25) (y24, y28))), (50, (eMember (Member.mk x0.Birth x0.Joined t21 t25) (y24, y28)))] ?_))))
 refine oe (nt (qe (rt [vMember (Member.mk x0.Birth x0.Joined t21 t25) (y24, y28)] (fun γ w hs => ?_))))
 rw [← sI h27]
 exact ⟨(y24, y28), rfl, hs.kept.toBelow, (hs.takeR (is := [1, 0]) rfl).fresh⟩

theorem c_impl_copyCase {W : World} {x0 : Case} {b0 : AC × AC × AC × AC × AC} {r : Case} (h : impl_copyCase x0 = some r) (hv0_0 : SlView W x0.Book.Rules b0.1.1 b0.1.2) (hv0_1 : SlView W x0.Store.Facts b0.2.1.1 b0.2.1.2) (hv0_2 : SlView W x0.Series.Points b0.2.2.1.1 b0.2.2.1.2) (hv0_3 : SlView W x0.Member.Spells b0.2.2.2.1.1 b0.2.2.2.1.2) (hv0_4 : SlView W x0.Member.Events b0.2.2.2.2.1 b0.2.2.2.2.2) :
    Gives Try.prog 23 #[vCase x0 b0] W (fun y : AC × AC × AC × AC × AC => vCase r y) (fun y => [SlRes 86 r.Book.Rules y.1.1 y.1.2, SlRes 89 r.Store.Facts y.2.1.1 y.2.1.2, SlRes 91 r.Series.Points y.2.2.1.1 y.2.2.1.2, SlRes 125 r.Member.Spells y.2.2.2.1.1 y.2.2.2.1.2, SlRes 129 r.Member.Events y.2.2.2.2.1 y.2.2.2.2.2]) := by
 unfold impl_copyCase at h
 refine en Try.func23 Try.ntmps23 ?_
 refine qs (qr (oB 2 [(2, .p 1 0), (1, .p 0 0)] [] [(52, (eCase x0 b0)), (52, [.slice none 0 0, .slice none 0 0, .slice none 0 0, .int .i64 0, .int .i64 0, .slice none 0 0, .slice none 0 0])] ?_))
 refine oe (nt (qs ?_))
 obtain ⟨t21, h22, h23⟩ := bS h
 obtain ⟨t25, h26, h27⟩ := bS h23
 obtain ⟨t29, h30, h31⟩ := bS h27
 obtain ⟨t33, h34, h35⟩ := bS h31
 refine JC_cut (τ := AC × AC × AC × (AC × AC)) (fun y37 => [(2, .p 1 0)]) (fun y37 => [(52, (eCase x0 b0)), (52, (eCase (Case.mk t21 t25 t29 t33) y37))]) (fun y37 => [SlRes 125 t33.Spells y37.2.2.2.1.1 y37.2.2.2.1.2, SlRes 129 t33.Events y37.2.2.2.2.1 y37.2.2.2.2.2, SlRes 91 t29.Points y37.2.2.1.1 y37.2.2.1.2, SlRes 89 t25.Facts y37.2.1.1 y37.2.1.2, SlRes 86 t21.Rules y37.1.1 y37.1.2]) ?_ (fun y37 => ?_)
 · refine jw [2, 1] [] ?_
   refine JC_heldN (ks := [0]) (Rk := []) 14 (by kernel_rfl) (by kernel_rfl) ?_
   refine htq 0 (.p 0 0) [] ?_
   refine htq 1 (.v (vBook x0.Book b0.1)) [] ?_
   refine hk [4, 2, 1] ?_
   refine htq 3 (.p 0 1) [] ?_
   refine htq 4 (.v (vStore x0.Store b0.2.1)) [] ?_
   refine hk [7, 4, 2, 1] ?_
   refine htq 6 (.p 0 2) [] ?_
   refine htq 7 (.v (vSeries x0.Series b0.2.2.1)) [] ?_
   refine hk [10, 7, 4, 2, 1] ?_
   refine htq 9 (.p 0 3) [] ?_
   refine hk [12, 10, 7, 4, 2] ?_
   refine htq 10 (.v (vMember x0.Member b0.2.2.2)) [] ?_
   refine hk [13, 10, 7, 4, 2] ?_
   refine ha1 2 ?_
   refine hi (fun γ0 δ hm => ?_)
   refine g1 (fun w hs => c_impl_copyBook h22 (hv0_0.kept hs.kept)) (fun y24 => ?_)
   refine gn hm [5, 13, 10, 7, 2] [] ?_
   refine ha1 5 ?_
   refine hi (fun γ0 δ hm => ?_)
   refine g1 (fun w hs => c_impl_copyStore h26 (hv0_1.kept hs.kept)) (fun y28 => ?_)
   refine gn hm [8, 5, 13, 10, 2] [] ?_
   refine ha1 8 ?_
   refine hi (fun γ0 δ hm => ?_)
   refine g1 (fun w hs => c_impl_copySeries h30 (hv0_2.kept hs.kept)) (fun y32 => ?_)
   refine gn hm [11, 8, 5, 13, 2] [] ?_
   refine ha1 11 ?_
   refine hi (fun γ0 δ hm => ?_)
   refine g1 (fun w hs => c_impl_copyMember (b0 := b0.2.2.2) h34 (hv0_3.kept hs.kept) (hv0_4.kept hs.kept)) (fun y36 => ?_)
   refine gn hm [14, 11, 8, 5, 2] [] ?_
   refine htq 12 (.v (vCase (Case.mk t21 t25 t29 t33) (y24, y28, y32, y36.1, y36.2))) [] ?_
   refine hk [15, 2] ?_
   refine ha1 13 ?_
   refine hi (fun γ0 δ hm => ?_)
   refine gs [(15, .v (vCase (Case.mk t21 t25 t29 t33) (y24, y28, y32, y36.1, y36.2))), (2, .p 1 0)] [(52, (eCase x0 b0)), (52, (eCase (Case.mk t21 t25 t29 t33) (y24, y28, y32, y36.1, y36.2)))] (fun δ2 => ?_)
   refine gd hm [2] [] ?_
   exact hd (y24, y28, y32, y36) [2] [0, 0, 0, 0, 0] 2
 refine nt (qe (rt [vCase (Case.mk t21 t25 t29 t33) y37] (fun γ w hs => ?_)))
 rw [← sI h35]
 exact ⟨(y37.1, y37.2.1, y37.2.2.1, y37.2.2.2.1, y37.2.2.2.2), rfl, hs.kept.toBelow, (hs.takeR (is := [4, 3, 2, 0, 0]) rfl).fresh⟩

theorem c_impl_StoreAsOf_1 {W : World} {x0 : Fact} {gf_0 : Nat} {zf_0 : Int} {r : Bool} (h : impl_StoreAsOf_1 x0 zf_0 = some r) (hcf_0 : CellsAt W (some ⟨gf_0, 0, none⟩) 0 [.int .i64 zf_0]) :
    Gives0 Try.prog 55 #[vFact x0, .pointer (some ⟨gf_0, 0, none⟩)] W (.bool r) := by
 unfold impl_StoreAsOf_1 at h
 refine enterD [.v (vFact x0), .q (some ⟨gf_0, 0, none⟩) (0)] (args := [vFact x0, .pointer (some ⟨gf_0, 0, none⟩)]) (by kernel_rfl) (by kernel_rfl) Try.func55 rfl Try.ntmps55 (by kernel_rfl) ?_
 refine qs (qr (oB 2 [(2, .p 0 0)] [1] [(89, (eFact x0))] ?_))
 refine oe (nt (qs (qr (oN 2 [(5, vi x0.Known)] [1] ?_))))
 refine ol 3 0 (.int .i64 zf_0) (fun γ w hs => ⟨by simp, hcf_0.kept hs.kept⟩) ?_
 refine oN 2 [(3, vb (decide (x0.Known > zf_0)))] [] ?_
 refine oe (nt (qe ?_))
 obtain rfl := sI h
 exact re [.bool (decide (x0.Known > zf_0))]

theorem c_slices_IndexFunc_Fact__impl_StoreAsOf_1 {W : World} {x0 : List Fact} {a0_0 : Option Addr} {c0_0 : Nat} {g1_0 : Nat} {z1_0 : Int} {r : Int} (h : slices_IndexFunc_Fact__impl_StoreAsOf_1 x0 z1_0 = some r) (hv0_0 : SlView W x0 a0_0 c0_0) (hc1_0 : CellsAt W (some ⟨g1_0, 0, none⟩) 0 [.int .i64 z1_0]) :
    Gives0 Try.prog 83 #[.slice a0_0 x0.length c0_0, .func (.func 55) #[] #[.pointer (some ⟨g1_0, 0, none⟩)]] W (.int .i64 r) := by
 unfold slices_IndexFunc_Fact__impl_StoreAsOf_1 at h
 refine en Try.func83 Try.ntmps83 ?_
 refine qs (qr (oN 1 [] [0, 1] ?_))
 refine oe (nt (qs (qs (qr (oN 3 [(8, vi 0), (7, vi (x0.length : Int))] [0, 1] ?_)))))
 refine oe (nt ?_)
 obtain ⟨r24, hL25, h26⟩ := bS h
 obtain ⟨k27, hk28, h26⟩ := brkS h26
 refine JC_cutP (τ := (Unit) × (Unit)) (fun y => k27 y.1 = some r) (fun y32 => []) (fun y32 => []) (fun y32 => []) ?_ (fun y32 h33p => ?_)
 · refine qb (lp Unit hL25 (fun s21 y22 => [(8, vi s21), (7, vi (x0.length : Int)), (0, .v (.slice a0_0 x0.length c0_0)), (1, .v (.func (.func 55) #[] #[.pointer (some ⟨g1_0, 0, none⟩)]))]) (fun s21 y22 => []) (fun s21 y22 => []) () [8, 7, 0, 1] [] 0 (fun s21 y22 t23 h29 hd30 => ?_))
   refine qs (qr (oN 1 [(9, vb (decide (s21 < (x0.length : Int))))] [8, 7, 0, 1] ?_))
   refine oe (nt (qs (cC h29 (fun h35 => ?_) (fun h36 => ?_))))
   · refine qk (nt (qs (qb (qs (qr (oN 2 [(5, vi s21)] [8, 7, 0, 1] ?_))))))
     refine oe (nt (qs (qr (oN 3 [(13, vi s21), (12, .v (.slice a0_0 x0.length c0_0)), (11, .v (.func (.func 55) #[] #[.pointer (some ⟨g1_0, 0, none⟩)]))] [5, 8, 7, 0, 1] ?_))))
     obtain ⟨x37, hx38, h39⟩ := bS h35
     refine oi 5 (fun γ w hs => (hv0_0.kept hs.kept)) hx38 ?_
     refine ol 89 0 (vFact x37) (fun γ w hs => (hv0_0.kept hs.kept).flatq hx38) ?_
     obtain ⟨t40, h41, h42⟩ := bS h39
     refine k0 (fun γ w hs => c_impl_StoreAsOf_1 h41 (hc1_0.kept hs.kept)) ?_
     refine oe (nt (cC h42 (fun h45 => ?_) (fun h46 => ?_)))
     · refine qs (qr (oN 2 [(4, vi s21)] [] ?_))
       refine oe (nt (qe (br (nr (nr ?_)))))
       have h47 := leafR hd30 h45 h26
       refine br (nr (nr ?_))
       obtain rfl := sI h47
       exact re [.int .i64 s21]
     refine qk (bn (nt (qr (oN 2 [(8, vi (w64 (s21 + 1)))] [7, 0, 1] ?_))))
     exact oe (ct h46 () [8, 7, 0, 1] [] 0)
   refine qx (nx (nx (bh ?_)))
   have h48 := leafB hd30 h36 h26
   exact mp ((), ()) h48 [] [] 0
 have h33 := (congrFun hk28 _).symm.trans h33p
 refine nt (qs (qr (oN 1 [(4, vi (-1))] [] ?_)))
 refine oe (nt (qe ?_))
 obtain rfl := sI h33
 exact re [.int .i64 (-1)]

theorem c_slices_DeleteFunc_Fact__impl_StoreAsOf_1 {W : World} {x0 : List Fact} {a0_0 : Option Addr} {c0_0 : Nat} {g1_0 : Nat} {z1_0 : Int} {r : (List Fact)} (h : slices_DeleteFunc_Fact__impl_StoreAsOf_1 x0 z1_0 = some r) (hc1_0 : CellsAt W (some ⟨g1_0, 0, none⟩) 0 [.int .i64 z1_0]) :
    GivesMD Try.prog [g1_0] 53 #[.slice a0_0 x0.length c0_0, .func (.func 55) #[] #[.pointer (some ⟨g1_0, 0, none⟩)]] W [SlRes 89 x0 a0_0 c0_0] [SlRes 89 r a0_0 c0_0] (.slice a0_0 r.length c0_0) := by
 unfold slices_DeleteFunc_Fact__impl_StoreAsOf_1 at h
 refine enterMD [.v (.slice a0_0 x0.length c0_0), .v (.func (.func 55) #[] #[.pointer (some ⟨g1_0, 0, none⟩)])] (args := [.slice a0_0 x0.length c0_0, .func (.func 55) #[] #[.pointer (some ⟨g1_0, 0, none⟩)]]) (by kernel_rfl) (by kernel_rfl) Try.func53 rfl Try.ntmps53 (by kernel_rfl) (fun Fs hG => ?_)
 refine qs (qr (oN 1 [] [0, 1] ?_))
 refine oe (nt (qs (qr (oN 2 [(9, .v (.func (.func 55) #[] #[.pointer (some ⟨g1_0, 0, none⟩)])), (8, .v (.slice a0_0 x0.length c0_0))] [0, 1] ?_))))
 obtain ⟨t21, h22, h23⟩ := bS h
 refine k0 (fun γ w hs => c_slices_IndexFunc_Fact__impl_StoreAsOf_1 h22 (hs.view 0 rfl) (hc1_0.keptM hs.kept (hG _ (by simp)))) ?_
 refine oN 1 [(5, vi t21)] [0, 1] ?_
 refine oe (nt (qs (qs (qr (oN 2 [(12, vb (t21 == (-1)))] [5, 0, 1] ?_)))))
 refine oe (nt (cC h23 (fun h26 => ?_) (fun h27 => ?_)))
 · refine qs (qr (oN 2 [(4, .v (.slice a0_0 x0.length c0_0))] [] ?_))
   refine oe (nt (qe (nr (rt [.slice a0_0 x0.length c0_0] (fun γ w hs => ?_)))))
   rw [← sI h26]
   exact hs.turned (is := [0]) rfl
 refine qk (nt (qs (qs (qr (oN 3 [(6, vi (w64 (t21 + 1)))] [5, 0, 1] ?_)))))
 refine oe (nt ?_)
 obtain ⟨r31, hL32, h33⟩ := bS h27
 obtain ⟨k34, hk35, h33⟩ := brkS h33
 refine JC_cutP (τ := (Int × (List Fact)) × (Unit)) (fun y => k34 y.1 = some r) (fun y39 => [(5, vi y39.1.1), (0, .v (.slice a0_0 y39.1.2.length c0_0))]) (fun y39 => []) (fun y39 => [SlRes 89 y39.1.2 a0_0 c0_0]) ?_ (fun y39 h40p => ?_)
 · refine qb (lp Unit hL32 (fun s28 y29 => [(6, vi s28.1), (5, vi s28.2.1), (0, .v (.slice a0_0 s28.2.2.length c0_0)), (1, .v (.func (.func 55) #[] #[.pointer (some ⟨g1_0, 0, none⟩)]))]) (fun s28 y29 => []) (fun s28 y29 => [SlRes 89 s28.2.2 a0_0 c0_0]) () [6, 5, 0, 1] [0] 0 (fun s28 y29 t30 h36 hd37 => ?_))
   refine qs (qs (qr (oN 4 [(19, vb (decide (s28.1 < (s28.2.2.length : Int))))] [6, 5, 0, 1] ?_)))
   refine oe (nt (cC h36 (fun h49 => ?_) (fun h50 => ?_)))
   · refine qk (nt (qs (qb (qs (qr (oN 2 [(23, vi s28.1), (22, .v (.slice a0_0 s28.2.2.length c0_0))] [6, 5, 0, 1] ?_))))))
     obtain ⟨x51, hx52, h53⟩ := bS h49
     refine oi 5 (fun γ w hs => (hs.view 0 rfl)) hx52 ?_
     refine ol 89 0 (vFact x51) (fun γ w hs => (hs.view 0 rfl).flatq hx52) ?_
     refine oB 2 [(7, .p 0 0)] [6, 5, 0, 1] [(89, (eFact x51))] ?_
     refine oe (nt (qs (qr (oN 2 [(27, .v (vFact x51)), (26, .v (.func (.func 55) #[] #[.pointer (some ⟨g1_0, 0, none⟩)]))] [7, 6, 5, 0, 1] ?_))))
     obtain ⟨t54, h55, h56⟩ := bS h53
     refine k0 (fun γ w hs => c_impl_StoreAsOf_1 h55 (hc1_0.keptM hs.kept (hG _ (by simp)))) ?_
     refine oN 1 [(29, vb (!t54))] [7, 6, 5, 0, 1] ?_
     refine oe (nt ?_)
     obtain ⟨k68, hk69, h71⟩ := jS h56
     refine JC_cutP (τ := (Int × (List Fact)) × (Unit)) (fun y => k68 y.1 = some t30) (fun y67 => [(6, vi s28.1), (5, vi y67.1.1), (0, .v (.slice a0_0 y67.1.2.length c0_0)), (1, .v (.func (.func 55) #[] #[.pointer (some ⟨g1_0, 0, none⟩)]))]) (fun y67 => [(89, (eFact x51))]) (fun y67 => [SlRes 89 y67.1.2 a0_0 c0_0]) ?_ (fun y67 h70p => ?_)
     · refine cC h71 (fun h73 => ?_) (fun h74 => ?_)
       · refine qs (qr (oN 3 [(32, .v (vFact x51)), (31, vi s28.2.1), (30, .v (.slice a0_0 s28.2.2.length c0_0))] [6, 5, 0, 1] ?_))
         obtain ⟨x75, hx76, h77⟩ := bS h73
         refine oi 5 (fun γ w hs => (hs.view 0 rfl)) hx76 ?_
         obtain ⟨l78, hm79, h80⟩ := bS h77
         replace hm79 := (sI hm79).symm
         refine JO_storeq (α := Fact) (d := a0_0) (vs := [.int .i64 x51.Key, .int .i64 x51.From, .int .i64 x51.To, .int .i64 x51.Known, .int .i64 x51.Value]) (j := s28.2.1) (x' := x51) rfl (by kernel_rfl) 0 (by kernel_rfl) hx76 (Rc := []) (Rr := []) rfl (by kernel_rfl) (fun w c F Fs ho _ _ => own_flat_set (by kernel_rfl) ho) hm79 rfl ?_
         have hl81 := len_set hm79
         refine JO_keep [32, 31, 30, 6, 5, 0, 1] (sl' := [(32, .v (vFact x51)), (31, vi s28.2.1), (30, .v (.slice a0_0 s28.2.2.length c0_0)), (6, vi s28.1), (5, vi s28.2.1), (0, .v (.slice a0_0 s28.2.2.length c0_0)), (1, .v (.func (.func 55) #[] #[.pointer (some ⟨g1_0, 0, none⟩)]))]) (by kernel_rfl) ?_
         refine JO_eqE (sl' := [(32, .v (vFact x51)), (31, vi s28.2.1), (30, .v (.slice a0_0 l78.length c0_0)), (6, vi s28.1), (5, vi s28.2.1), (0, .v (.slice a0_0 l78.length c0_0)), (1, .v (.func (.func 55) #[] #[.pointer (some ⟨g1_0, 0, none⟩)]))]) (bx' := [(89, (eFact x51))]) (by simp only [eFact, vFact, hl81]) rfl ?_
         refine oe (nt (qr (oN 3 [(5, vi (w64 (s28.2.1 + 1)))] [6, 0, 1] ?_)))
         exact oe (mp ((w64 (s28.2.1 + 1), l78), ()) h80 [6, 5, 0, 1] [0] 1)
       exact qk (mp ((s28.2.1, s28.2.2), ()) h74 [6, 5, 0, 1] [0] 1)
     have h70 := (congrFun hk69 _).symm.trans h70p
     refine bn (nt (qr (oN 3 [(6, vi (w64 (s28.1 + 1)))] [5, 0, 1] ?_)))
     exact oe (ct h70 () [6, 5, 0, 1] [0] 0)
   refine qx (nx (nx (bh ?_)))
   have h82 := leafB hd37 h50 h33
   exact mp ((s28.2.1, s28.2.2), ()) h82 [5, 0] [0] 0
 have h40 := (congrFun hk35 _).symm.trans h40p
 refine nt (qs (qr (oN 2 [(37, vi y39.1.1), (36, .v (.slice a0_0 y39.1.2.length c0_0))] [5, 0] ?_)))
 obtain ⟨l41, hm42, h43⟩ := bS h40
 refine JO_tail (α := Fact) (s := 5) (a0 := a0_0) (c0 := c0_0) (lo := y39.1.1) rfl (by kernel_rfl) (by kernel_rfl) hm42 (sl' := [(38, .v (.slice (tailA a0_0 c0_0 y39.1.1 5) (y39.1.2.length - Int.toNat y39.1.1) (c0_0 - Int.toNat y39.1.1))), (37, vi y39.1.1), (36, .v (.slice a0_0 y39.1.2.length c0_0)), (5, vi y39.1.1), (0, .v (.slice a0_0 y39.1.2.length c0_0))]) (by kernel_rfl) ?_
 refine JO_clear (α := Fact) (e := 89) (a0 := a0_0) (c0 := c0_0) (lo := y39.1.1) rfl (by kernel_rfl) (by kernel_rfl) (i := Try.t89) (by kernel_rfl) (z := vFact (Fact.mk 0 0 0 0 0)) (by kernel_rfl) (by kernel_rfl) hm42 (Rr := []) rfl (sl' := [(38, .v (.slice (tailA a0_0 c0_0 y39.1.1 5) (y39.1.2.length - Int.toNat y39.1.1) (c0_0 - Int.toNat y39.1.1))), (37, vi y39.1.1), (36, .v (.slice a0_0 y39.1.2.length c0_0)), (5, vi y39.1.1), (0, .v (.slice a0_0 y39.1.2.length c0_0))]) (by kernel_rfl) ?_
 have hl44 := (zeroTail_some hm42).2.2.2.symm
 refine JO_keep [37, 36, 5, 0] (sl' := [(37, vi y39.1.1), (36, .v (.slice a0_0 y39.1.2.length c0_0)), (5, vi y39.1.1), (0, .v (.slice a0_0 y39.1.2.length c0_0))]) (by kernel_rfl) ?_
 refine JO_eqE (sl' := [(37, vi y39.1.1), (36, .v (.slice a0_0 l41.length c0_0)), (5, vi y39.1.1), (0, .v (.slice a0_0 l41.length c0_0))]) (bx' := []) (by simp only [hl44]) rfl ?_
 refine oe (nt (qs (qr (oN 2 [(40, vi y39.1.1), (39, .v (.slice a0_0 l41.length c0_0))] [] ?_))))
 obtain ⟨l45, hm46, h47⟩ := bS h43
 refine JO_headR (α := Fact) rfl (by kernel_rfl) (a0 := a0_0) (n0 := l41.length) (c0 := c0_0) (hi := y39.1.1) (by kernel_rfl) hm46 (Rr := []) rfl (sl' := [(41, .v (.slice a0_0 l45.length c0_0)), (40, vi y39.1.1), (39, .v (.slice a0_0 l41.length c0_0))]) (by kernel_rfl) ?_
 refine JO_keep [41, 40] (sl' := [(41, .v (.slice a0_0 l45.length c0_0)), (40, vi y39.1.1)]) (by kernel_rfl) ?_
 refine oN 1 [(4, .v (.slice a0_0 l45.length c0_0))] [] ?_
 refine oe (nt (qe (rt [.slice a0_0 l45.length c0_0] (fun γ w hs => ?_))))
 rw [← sI h47]
 exact hs.turned (is := [0]) rfl

theorem c_impl_StoreAsOf {W : World} {x0 : Store} {a0_0 : Option Addr} {c0_0 : Nat} {x1 : Int} {r : Store} (h : impl_StoreAsOf x0 x1 = some r) (hv0_0 : SlView W x0.Facts a0_0 c0_0) :
    Gives Try.prog 24 #[vStore x0 (a0_0, c0_0), .int .i64 x1] W (fun y : AC => vStore r y) (fun y => [SlRes 89 r.Facts y.1 y.2]) := by
 unfold impl_StoreAsOf at h
 refine en Try.func24 Try.ntmps24 ?_
 refine qs (qr (oB 3 [(4, .p 2 0), (3, .p 1 0), (2, .p 0 0)] [] [(43, (eStore x0 (a0_0, c0_0))), (3, [.int .i64 x1]), (43, [.slice none 0 0])] ?_))
 refine oe (nt (qs (qr (oN 2 [(6, .v (.slice a0_0 x0.Facts.length c0_0))] [4, 3] ?_))))
 obtain ⟨t21, h22, h23⟩ := bS h
 refine k1 (fun γ w hs => c_slices_Clone_Fact h22 (hv0_0.kept hs.kept)) (fun y24 => ?_)
 refine JO_mkfunc rfl (by kernel_rfl) (x := .f 55 [(1, 0)]) (by kernel_rfl) rfl ?_
 obtain ⟨t25, h26, h27⟩ := bS h23
 refine JO_callMD [1] rfl (by kernel_rfl) (f := 53) (args := fun γ => #[.slice y24.1 t21.length y24.2, .func (.func 55) #[] #[.pointer (some ⟨γ.getD 1 0, 0, none⟩)]]) (fun γ => by kernel_rfl) (x := .slice y24.1 t25.length y24.2) (by kernel_rfl) (Rin := [SlRes 89 t21 y24.1 y24.2]) (Rout := [SlRes 89 t25 y24.1 y24.2]) (Rr := []) rfl (fun γ w hs => (by have vv := c_slices_DeleteFunc_Fact__impl_StoreAsOf_1 (a0_0 := y24.1) (c0_0 := y24.2) (W := w) h26 (hs.boxCells (k := 1) (e := 3) (by kernel_rfl)); exact vv)) (sl' := [(9, .v (.slice y24.1 t25.length y24.2)), (8, .f 55 [(1, 0)]), (7, .v (.slice y24.1 t21.length y24.2)), (6, .v (.slice a0_0 x0.Facts.length c0_0)), (4, .p 2 0), (3, .p 1 0)]) (by kernel_rfl) ?_
 refine JO_keep [9, 8, 6, 4, 3] (sl' := [(9, .v (.slice y24.1 t25.length y24.2)), (8, .f 55 [(1, 0)]), (6, .v (.slice a0_0 x0.Facts.length c0_0)), (4, .p 2 0), (3, .p 1 0)]) (by kernel_rfl) ?_
 refine oB 2 [] [4] [(43, (eStore x0 (a0_0, c0_0))), (3, [.int .i64 x1]), (43, (eStore (Store.mk t25) y24))] ?_
 refine oe (nt (qe (rt [vStore (Store.mk t25) y24] (fun γ w hs => ?_))))
 rw [← sI h27]
 exact ⟨y24, rfl, hs.kept.toBelow, (hs.takeR (is := [0]) rfl).fresh⟩

theorem c_impl_SeriesAsOf_1 {W : World} {x0 : Point} {gf_0 : Nat} {zf_0 : Int} {r : Bool} (h : impl_SeriesAsOf_1 x0 zf_0 = some r) (hcf_0 : CellsAt W (some ⟨gf_0, 0, none⟩) 0 [.int .i64 zf_0]) :
    Gives0 Try.prog 58 #[vPoint x0, .pointer (some ⟨gf_0, 0, none⟩)] W (.bool r) := by
 unfold impl_SeriesAsOf_1 at h
 refine enterD [.v (vPoint x0), .q (some ⟨gf_0, 0, none⟩) (0)] (args := [vPoint x0, .pointer (some ⟨gf_0, 0, none⟩)]) (by kernel_rfl) (by kernel_rfl) Try.func58 rfl Try.ntmps58 (by kernel_rfl) ?_
 refine qs (qr (oB 2 [(2, .p 0 0)] [1] [(91, (ePoint x0))] ?_))
 refine oe (nt (qs (qr (oN 2 [(5, vi x0.Known)] [1] ?_))))
 refine ol 3 0 (.int .i64 zf_0) (fun γ w hs => ⟨by simp, hcf_0.kept hs.kept⟩) ?_
 refine oN 2 [(3, vb (decide (x0.Known > zf_0)))] [] ?_
 refine oe (nt (qe ?_))
 obtain rfl := sI h
 exact re [.bool (decide (x0.Known > zf_0))]

theorem c_slices_IndexFunc_Point__impl_SeriesAsOf_1 {W : World} {x0 : List Point} {a0_0 : Option Addr} {c0_0 : Nat} {g1_0 : Nat} {z1_0 : Int} {r : Int} (h : slices_IndexFunc_Point__impl_SeriesAsOf_1 x0 z1_0 = some r) (hv0_0 : SlView W x0 a0_0 c0_0) (hc1_0 : CellsAt W (some ⟨g1_0, 0, none⟩) 0 [.int .i64 z1_0]) :
    Gives0 Try.prog 84 #[.slice a0_0 x0.length c0_0, .func (.func 58) #[] #[.pointer (some ⟨g1_0, 0, none⟩)]] W (.int .i64 r) := by
 unfold slices_IndexFunc_Point__impl_SeriesAsOf_1 at h
 refine en Try.func84 Try.ntmps84 ?_
 refine qs (qr (oN 1 [] [0, 1] ?_))
 refine oe (nt (qs (qs (qr (oN 3 [(8, vi 0), (7, vi (x0.length : Int))] [0, 1] ?_)))))
 refine oe (nt ?_)
 obtain ⟨r24, hL25, h26⟩ := bS h
 obtain ⟨k27, hk28, h26⟩ := brkS h26
 refine JC_cutP (τ := (Unit) × (Unit)) (fun y => k27 y.1 = some r) (fun y32 => []) (fun y32 => []) (fun y32 => []) ?_ (fun y32 h33p => ?_)
 · refine qb (lp Unit hL25 (fun s21 y22 => [(8, vi s21), (7, vi (x0.length : Int)), (0, .v (.slice a0_0 x0.length c0_0)), (1, .v (.func (.func 58) #[] #[.pointer (some ⟨g1_0, 0, none⟩)]))]) (fun s21 y22 => []) (fun s21 y22 => []) () [8, 7, 0, 1] [] 0 (fun s21 y22 t23 h29 hd30 => ?_))
   refine qs (qr (oN 1 [(9, vb (decide (s21 < (x0.length : Int))))] [8, 7, 0, 1] ?_))
   refine oe (nt (qs (cC h29 (fun h35 => ?_) (fun h36 => ?_))))
   · refine qk (nt (qs (qb (qs (qr (oN 2 [(5, vi s21)] [8, 7, 0, 1] ?_))))))
     refine oe (nt (qs (qr (oN 3 [(13, vi s21), (12, .v (.slice a0_0 x0.length c0_0)), (11, .v (.func (.func 58) #[] #[.pointer (some ⟨g1_0, 0, none⟩)]))] [5, 8, 7, 0, 1] ?_))))
     obtain ⟨x37, hx38, h39⟩ := bS h35
     refine oi 3 (fun γ w hs => (hv0_0.kept hs.kept)) hx38 ?_
     refine ol 91 0 (vPoint x37) (fun γ w hs => (hv0_0.kept hs.kept).flatq hx38) ?_
     obtain ⟨t40, h41, h42⟩ := bS h39
     refine k0 (fun γ w hs => c_impl_SeriesAsOf_1 h41 (hc1_0.kept hs.kept)) ?_
     refine oe (nt (cC h42 (fun h45 => ?_) (fun h46 => ?_)))
     · refine qs (qr (oN 2 [(4, vi s21)] [] ?_))
       refine oe (nt (qe (br (nr (nr ?_)))))
       have h47 := leafR hd30 h45 h26
       refine br (nr (nr ?_))
       obtain rfl := sI h47
       exact re [.int .i64 s21]
     refine qk (bn (nt (qr (oN 2 [(8, vi (w64 (s21 + 1)))] [7, 0, 1] ?_))))
     exact oe (ct h46 () [8, 7, 0, 1] [] 0)
   refine qx (nx (nx (bh ?_)))
   have h48 := leafB hd30 h36 h26
   exact mp ((), ()) h48 [] [] 0
 have h33 := (congrFun hk28 _).symm.trans h33p
 refine nt (qs (qr (oN 1 [(4, vi (-1))] [] ?_)))
 refine oe (nt (qe ?_))
 obtain rfl := sI h33
 exact re [.int .i64 (-1)]

theorem c_slices_DeleteFunc_Point__impl_SeriesAsOf_1 {W : World} {x0 : List Point} {a0_0 : Option Addr} {c0_0 : Nat} {g1_0 : Nat} {z1_0 : Int} {r : (List Point)} (h : slices_DeleteFunc_Point__impl_SeriesAsOf_1 x0 z1_0 = some r) (hc1_0 : CellsAt W (some ⟨g1_0, 0, none⟩) 0 [.int .i64 z1_0]) :
    GivesMD Try.prog [g1_0] 56 #[.slice a0_0 x0.length c0_0, .func (.func 58) #[] #[.pointer (some ⟨g1_0, 0, none⟩)]] W [SlRes 91 x0 a0_0 c0_0] [SlRes 91 r a0_0 c0_0] (.slice a0_0 r.length c0_0) := by
 unfold slices_DeleteFunc_Point__impl_SeriesAsOf_1 at h
 refine enterMD [.v (.slice a0_0 x0.length c0_0), .v (.func (.func 58) #[] #[.pointer (some ⟨g1_0, 0, none⟩)])] (args := [.slice a0_0 x0.length c0_0, .func (.func 58) #[] #[.pointer (some ⟨g1_0, 0, none⟩)]]) (by kernel_rfl) (by kernel_rfl) Try.func56 rfl Try.ntmps56 (by kernel_rfl) (fun Fs hG => ?_)
 refine qs (qr (oN 1 [] [0, 1] ?_))
 refine oe (nt (qs (qr (oN 2 [(9, .v (.func (.func 58) #[] #[.pointer (some ⟨g1_0, 0, none⟩)])), (8, .v (.slice a0_0 x0.length c0_0))] [0, 1] ?_))))
 obtain ⟨t21, h22, h23⟩ := bS h
 refine k0 (fun γ w hs => c_slices_IndexFunc_Point__impl_SeriesAsOf_1 h22 (hs.view 0 rfl) (hc1_0.keptM hs.kept (hG _ (by simp)))) ?_
 refine oN 1 [(5, vi t21)] [0, 1] ?_
 refine oe (nt (qs (qs (qr (oN 2 [(12, vb (t21 == (-1)))] [5, 0, 1] ?_)))))
 refine oe (nt (cC h23 (fun h26 => ?_) (fun h27 => ?_)))
 · refine qs (qr (oN 2 [(4, .v (.slice a0_0 x0.length c0_0))] [] ?_))
   refine oe (nt (qe (nr (rt [.slice a0_0 x0.length c0_0] (fun γ w hs => ?_)))))
   rw [← sI h26]
   exact hs.turned (is := [0]) rfl
 refine qk (nt (qs (qs (qr (oN 3 [(6, vi (w64 (t21 + 1)))] [5, 0, 1] ?_)))))
 refine oe (nt ?_)
 obtain ⟨r31, hL32, h33⟩ := bS h27
 obtain ⟨k34, hk35, h33⟩ := brkS h33
 refine JC_cutP (τ := (Int × (List Point)) × (Unit)) (fun y => k34 y.1 = some r) (fun y39 => [(5, vi y39.1.1), (0, .v (.slice a0_0 y39.1.2.length c0_0))]) (fun y39 => []) (fun y39 => [SlRes 91 y39.1.2 a0_0 c0_0]) ?_ (fun y39 h40p => ?_)
 · refine qb (lp Unit hL32 (fun s28 y29 => [(6, vi s28.1), (5, vi s28.2.1), (0, .v (.slice a0_0 s28.2.2.length c0_0)), (1, .v (.func (.func 58) #[] #[.pointer (some ⟨g1_0, 0, none⟩)]))]) (fun s28 y29 => []) (fun s28 y29 => [SlRes 91 s28.2.2 a0_0 c0_0]) () [6, 5, 0, 1] [0] 0 (fun s28 y29 t30 h36 hd37 => ?_))
   refine qs (qs (qr (oN 4 [(19, vb (decide (s28.1 < (s28.2.2.length : Int))))] [6, 5, 0, 1] ?_)))
   refine oe (nt (cC h36 (fun h49 => ?_) (fun h50 => ?_)))
   · refine qk (nt (qs (qb (qs (qr (oN 2 [(23, vi s28.1), (22, .v (.slice a0_0 s28.2.2.length c0_0))] [6, 5, 0, 1] ?_))))))
     obtain ⟨x51, hx52, h53⟩ := bS h49
     refine oi 3 (fun γ w hs => (hs.view 0 rfl)) hx52 ?_
     refine ol 91 0 (vPoint x51) (fun γ w hs => (hs.view 0 rfl).flatq hx52) ?_
     refine oB 2 [(7, .p 0 0)] [6, 5, 0, 1] [(91, (ePoint x51))] ?_
     refine oe (nt (qs (qr (oN 2 [(27, .v (vPoint x51)), (26, .v (.func (.func 58) #[] #[.pointer (some ⟨g1_0, 0, none⟩)]))] [7, 6, 5, 0, 1] ?_))))
     obtain ⟨t54, h55, h56⟩ := bS h53
     refine k0 (fun γ w hs => c_impl_SeriesAsOf_1 h55 (hc1_0.keptM hs.kept (hG _ (by simp)))) ?_
     refine oN 1 [(29, vb (!t54))] [7, 6, 5, 0, 1] ?_
     refine oe (nt ?_)
     obtain ⟨k68, hk69, h71⟩ := jS h56
     refine JC_cutP (τ := (Int × (List Point)) × (Unit)) (fun y => k68 y.1 = some t30) (fun y67 => [(6, vi s28.1), (5, vi y67.1.1), (0, .v (.slice a0_0 y67.1.2.length c0_0)), (1, .v (.func (.func 58) #[] #[.pointer (some ⟨g1_0, 0, none⟩)]))]) (fun y67 => [(91, (ePoint x51))]) (fun y67 => [SlRes 91 y67.1.2 a0_0 c0_0]) ?_ (fun y67 h70p => ?_)
     · refine cC h71 (fun h73 => ?_) (fun h74 => ?_)
       · refine qs (qr (oN 3 [(32, .v (vPoint x51)), (31, vi s28.2.1), (30, .v (.slice a0_0 s28.2.2.length c0_0))] [6, 5, 0, 1] ?_))
         obtain ⟨x75, hx76, h77⟩ := bS h73
         refine oi 3 (fun γ w hs => (hs.view 0 rfl)) hx76 ?_
         obtain ⟨l78, hm79, h80⟩ := bS h77
         replace hm79 := (sI hm79).symm
         refine JO_storeq (α := Point) (d := a0_0) (vs := [.int .i64 x51.Month, .int .i64 x51.Known, .int .i64 x51.Value]) (j := s28.2.1) (x' := x51) rfl (by kernel_rfl) 0 (by kernel_rfl) hx76 (Rc := []) (Rr := []) rfl (by kernel_rfl) (fun w c F Fs ho _ _ => own_flat_set (by kernel_rfl) ho) hm79 rfl ?_
         have hl81 := len_set hm79
         refine JO_keep [32, 31, 30, 6, 5, 0, 1] (sl' := [(32, .v (vPoint x51)), (31, vi s28.2.1), (30, .v (.slice a0_0 s28.2.2.length c0_0)), (6, vi s28.1), (5, vi s28.2.1), (0, .v (.slice a0_0 s28.2.2.length c0_0)), (1, .v (.func (.func 58) #[] #[.pointer (some ⟨g1_0, 0, none⟩)]))]) (by kernel_rfl) ?_
         refine JO_eqE (sl' := [(32, .v (vPoint x51)), (31, vi s28.2.1), (30, .v (.slice a0_0 l78.length c0_0)), (6, vi s28.1), (5, vi s28.2.1), (0, .v (.slice a0_0 l78.length c0_0)), (1, .v (.func (.func 58) #[] #[.pointer (some ⟨g1_0, 0, none⟩)]))]) (bx' := [(91, (ePoint x51))]) (by simp only [ePoint, vPoint, hl81]) rfl ?_
         refine oe (nt (qr (oN 3 [(5, vi (w64 (s28.2.1 + 1)))] [6, 0, 1] ?_)))
         exact oe (mp ((w64 (s28.2.1 + 1), l78), ()) h80 [6, 5, 0, 1] [0] 1)
       exact qk (mp ((s28.2.1, s28.2.2), ()) h74 [6, 5, 0, 1] [0] 1)
     have h70 := (congrFun hk69 _).symm.trans h70p
     refine bn (nt (qr (oN 3 [(6, vi (w64 (s28.1 + 1)))] [5, 0, 1] ?_)))
     exact oe (ct h70 () [6, 5, 0, 1] [0] 0)
   refine qx (nx (nx (bh ?_)))
   have h82 := leafB hd37 h50 h33
   exact mp ((s28.2.1, s28.2.2), ()) h82 [5, 0] [0] 0
 have h40 := (congrFun hk35 _).symm.trans h40p
 refine nt (qs (qr (oN 2 [(37, vi y39.1.1), (36, .v (.slice a0_0 y39.1.2.length c0_0))] [5, 0] ?_)))
 obtain ⟨l41, hm42, h43⟩ := bS h40
 refine JO_tail (α := Point) (s := 3) (a0 := a0_0) (c0 := c0_0) (lo := y39.1.1) rfl (by kernel_rfl) (by kernel_rfl) hm42 (sl' := [(38, .v (.slice (tailA a0_0 c0_0 y39.1.1 3) (y39.1.2.length - Int.toNat y39.1.1) (c0_0 - Int.toNat y39.1.1))), (37, vi y39.1.1), (36, .v (.slice a0_0 y39.1.2.length c0_0)), (5, vi y39.1.1), (0, .v (.slice a0_0 y39.1.2.length c0_0))]) (by kernel_rfl) ?_
 refine JO_clear (α := Point) (e := 91) (a0 := a0_0) (c0 := c0_0) (lo := y39.1.1) rfl (by kernel_rfl) (by kernel_rfl) (i := Try.t91) (by kernel_rfl) (z := vPoint (Point.mk 0 0 0)) (by kernel_rfl) (by kernel_rfl) hm42 (Rr := []) rfl (sl' := [(38, .v (.slice (tailA a0_0 c0_0 y39.1.1 3) (y39.1.2.length - Int.toNat y39.1.1) (c0_0 - Int.toNat y39.1.1))), (37, vi y39.1.1), (36, .v (.slice a0_0 y39.1.2.length c0_0)), (5, vi y39.1.1), (0, .v (.slice a0_0 y39.1.2.length c0_0))]) (by kernel_rfl) ?_
 have hl44 := (zeroTail_some hm42).2.2.2.symm
 refine JO_keep [37, 36, 5, 0] (sl' := [(37, vi y39.1.1), (36, .v (.slice a0_0 y39.1.2.length c0_0)), (5, vi y39.1.1), (0, .v (.slice a0_0 y39.1.2.length c0_0))]) (by kernel_rfl) ?_
 refine JO_eqE (sl' := [(37, vi y39.1.1), (36, .v (.slice a0_0 l41.length c0_0)), (5, vi y39.1.1), (0, .v (.slice a0_0 l41.length c0_0))]) (bx' := []) (by simp only [hl44]) rfl ?_
 refine oe (nt (qs (qr (oN 2 [(40, vi y39.1.1), (39, .v (.slice a0_0 l41.length c0_0))] [] ?_))))
 obtain ⟨l45, hm46, h47⟩ := bS h43
 refine JO_headR (α := Point) rfl (by kernel_rfl) (a0 := a0_0) (n0 := l41.length) (c0 := c0_0) (hi := y39.1.1) (by kernel_rfl) hm46 (Rr := []) rfl (sl' := [(41, .v (.slice a0_0 l45.length c0_0)), (40, vi y39.1.1), (39, .v (.slice a0_0 l41.length c0_0))]) (by kernel_rfl) ?_
 refine JO_keep [41, 40] (sl' := [(41, .v (.slice a0_0 l45.length c0_0)), (40, vi y39.1.1)]) (by kernel_rfl) ?_
 refine oN 1 [(4, .v (.slice a0_0 l45.length c0_0))] [] ?_
 refine oe (nt (qe (rt [.slice a0_0 l45.length c0_0] (fun γ w hs => ?_))))
 rw [← sI h47]
 exact hs.turned (is := [0]) rfl

theorem c_impl_SeriesAsOf {W : World} {x0 : Series} {a0_0 : Option Addr} {c0_0 : Nat} {x1 : Int} {r : Series} (h : impl_SeriesAsOf x0 x1 = some r) (hv0_0 : SlView W x0.Points a0_0 c0_0) :
    Gives Try.prog 25 #[vSeries x0 (a0_0, c0_0), .int .i64 x1] W (fun y : AC => vSeries r y) (fun y => [SlRes 91 r.Points y.1 y.2]) := by
 unfold impl_SeriesAsOf at h
 refine en Try.func25 Try.ntmps25 ?_
 refine qs (qr (oB 3 [(4, .p 2 0), (3, .p 1 0), (2, .p 0 0)] [] [(46, (eSeries x0 (a0_0, c0_0))), (3, [.int .i64 x1]), (46, [.slice none 0 0])] ?_))
 refine oe (nt (qs (qr (oN 2 [(6, .v (.slice a0_0 x0.Points.length c0_0))] [4, 3] ?_))))
 obtain ⟨t21, h22, h23⟩ := bS h
 refine k1 (fun γ w hs => c_slices_Clone_Point h22 (hv0_0.kept hs.kept)) (fun y24 => ?_)
 refine JO_mkfunc rfl (by kernel_rfl) (x := .f 58 [(1, 0)]) (by kernel_rfl) rfl ?_
 obtain ⟨t25, h26, h27⟩ := bS h23
 refine JO_callMD [1] rfl (by kernel_rfl) (f := 56) (args := fun γ => #[.slice y24.1 t21.length y24.2, .func (.func 58) #[] #[.pointer (some ⟨γ.getD 1 0, 0, none⟩)]]) (fun γ => by kernel_rfl) (x := .slice y24.1 t25.length y24.2) (by kernel_rfl) (Rin := [SlRes 91 t21 y24.1 y24.2]) (Rout := [SlRes 91 t25 y24.1 y24.2]) (Rr := []) rfl (fun γ w hs => (by have vv := c_slices_DeleteFunc_Point__impl_SeriesAsOf_1 (a0_0 := y24.1) (c0_0 := y24.2) (W := w) h26 (hs.boxCells (k := 1) (e := 3) (by kernel_rfl)); exact vv)) (sl' := [(9, .v (.slice y24.1 t25.length y24.2)), (8, .f 58 [(1, 0)]), (7, .v (.slice y24.1 t21.length y24.2)), (6, .v (.slice a0_0 x0.Points.length c0_0)), (4, .p 2 0), (3, .p 1 0)]) (by kernel_rfl) ?_
 refine JO_keep [9, 8, 6, 4, 3] (sl' := [(9, .v (.slice y24.1 t25.length y24.2)), (8, .f 58 [(1, 0)]), (6, .v (.slice a0_0 x0.Points.length c0_0)), (4, .p 2 0), (3, .p 1 0)]) (by kernel_rfl) ?_
 refine oB 2 [] [4] [(46, (eSeries x0 (a0_0, c0_0))), (3, [.int .i64 x1]), (46, (eSeries (Series.mk t25) y24))] ?_
 refine oe (nt (qe (rt [vSeries (Series.mk t25) y24] (fun γ w hs => ?_))))
 rw [← sI h27]
 exact ⟨y24, rfl, hs.kept.toBelow, (hs.takeR (is := [0]) rfl).fresh⟩

theorem c_impl_CaseAsOf {W : World} {x0 : Case} {b0 : AC × AC × AC × AC × AC} {x1 : Int} {r : Case} (h : impl_CaseAsOf x0 x1 = some r) (hv0_0 : SlView W x0.Book.Rules b0.1.1 b0.1.2) (hv0_1 : SlView W x0.Store.Facts b0.2.1.1 b0.2.1.2) (hv0_2 : SlView W x0.Series.Points b0.2.2.1.1 b0.2.2.1.2) (hv0_3 : SlView W x0.Member.Spells b0.2.2.2.1.1 b0.2.2.2.1.2) (hv0_4 : SlView W x0.Member.Events b0.2.2.2.2.1 b0.2.2.2.2.2) :
    Gives Try.prog 7 #[vCase x0 b0, .int .i64 x1] W (fun y : AC × AC × AC × AC × AC => vCase r y) (fun y => [SlRes 86 r.Book.Rules y.1.1 y.1.2, SlRes 89 r.Store.Facts y.2.1.1 y.2.1.2, SlRes 91 r.Series.Points y.2.2.1.1 y.2.2.1.2, SlRes 125 r.Member.Spells y.2.2.2.1.1 y.2.2.2.1.2, SlRes 129 r.Member.Events y.2.2.2.2.1 y.2.2.2.2.2]) := by
 unfold impl_CaseAsOf at h
 refine en Try.func7 Try.ntmps7 ?_
 refine qs (qr (oB 2 [(4, .p 1 0), (2, .p 0 0)] [1] [(52, (eCase x0 b0)), (52, [.slice none 0 0, .slice none 0 0, .slice none 0 0, .int .i64 0, .int .i64 0, .slice none 0 0, .slice none 0 0])] ?_))
 refine oe (nt (qs (qr (oN 1 [(6, .v (vCase x0 b0))] [4, 2, 1] ?_))))
 obtain ⟨t21, h22, h23⟩ := bS h
 refine k1 (fun γ w hs => c_impl_copyCase (b0 := b0) h22 (hv0_0.kept hs.kept) (hv0_1.kept hs.kept) (hv0_2.kept hs.kept) (hv0_3.kept hs.kept) (hv0_4.kept hs.kept)) (fun y24 => ?_)
 refine oB 2 [(5, .p 2 0)] [4, 2, 1] [(52, (eCase x0 b0)), (52, [.slice none 0 0, .slice none 0 0, .slice none 0 0, .int .i64 0, .int .i64 0, .slice none 0 0, .slice none 0 0]), (52, (eCase t21 y24))] ?_
 refine oe (nt (qs (qr (oN 3 [(10, vi x1), (9, .v (vStore x0.Store b0.2.1))] [5, 4, 2, 1] ?_))))
 obtain ⟨t25, h26, h27⟩ := bS h23
 refine k1 (fun γ w hs => c_impl_StoreAsOf h26 (hv0_1.kept hs.kept)) (fun y28 => ?_)
 refine oB 2 [] [5, 4, 2, 1] [(52, (eCase x0 b0)), (52, [.slice none 0 0, .slice none 0 0, .slice none 0 0, .int .i64 0, .int .i64 0, .slice none 0 0, .slice none 0 0]), (52, (eCase (Case.mk t21.Book t25 t21.Series t21.Member) (y24.1, y28, y24.2.2.1, y24.2.2.2.1, y24.2.2.2.2)))] ?_
 refine oe (nt (qs (qr (oN 3 [(15, vi x1), (14, .v (vSeries x0.Series b0.2.2.1))] [5, 4] ?_))))
 obtain ⟨t29, h30, h31⟩ := bS h27
 refine k1 (fun γ w hs => c_impl_SeriesAsOf h30 (hv0_2.kept hs.kept)) (fun y32 => ?_)
 refine oB 2 [] [5, 4] [(52, (eCase x0 b0)), (52, [.slice none 0 0, .slice none 0 0, .slice none 0 0, .int .i64 0, .int .i64 0, .slice none 0 0, .slice none 0 0]), (52, (eCase (Case.mk t21.Book t25 t29 t21.Member) (y24.1, y28, y32, y24.2.2.2.1, y24.2.2.2.2)))] ?_
 refine oe (nt (qs (qr (oB 2 [] [4] [(52, (eCase x0 b0)), (52, (eCase (Case.mk t21.Book t25 t29 t21.Member) (y24.1, y28, y32, y24.2.2.2.1, y24.2.2.2.2))), (52, (eCase (Case.mk t21.Book t25 t29 t21.Member) (y24.1, y28, y32, y24.2.2.2.1, y24.2.2.2.2)))] ?_))))
 refine oe (nt (qe (rt [vCase (Case.mk t21.Book t25 t29 t21.Member) (y24.1, y28, y32, y24.2.2.2.1, y24.2.2.2.2)] (fun γ w hs => ?_))))
 rw [← sI h31]
 exact ⟨(y24.1, y28, y32, y24.2.2.2.1, y24.2.2.2.2), rfl, hs.kept.toBelow, (hs.takeR (is := [2, 1, 0, 2, 2]) rfl).fresh⟩

theorem c_laws_eqFrac {W : World} {x0 : Frac} {x1 : Frac} {r : Bool} (h : laws_eqFrac x0 x1 = some r)  :
    Gives0 Try.prog 99 #[vFrac x0, vFrac x1] W (.bool r) := by
 unfold laws_eqFrac at h
 refine en Try.func99 Try.ntmps99 ?_
 refine qs (qr (oB 3 [(3, .p 1 0), (2, .p 0 0)] [] [(146, (eFrac x0)), (146, (eFrac x1))] ?_))
 refine oe (nt (qs (qs (qr (oN 5 [(9, vb (x0.Num != x1.Num))] [3, 2] ?_)))))
 refine oe (nt (cC h (fun h22 => ?_) (fun h23 => ?_)))
 · refine qs (qr (oN 1 [(4, vb false)] [] ?_))
   refine oe (nt (qe (nr ?_)))
   obtain rfl := sI h22
   exact re [.bool false]
 refine qk (nt (qs (qs (qr (oN 5 [(14, vb (x0.Den != x1.Den))] [] ?_)))))
 refine oe (nt (cC h23 (fun h25 => ?_) (fun h26 => ?_)))
 · refine qs (qr (oN 1 [(4, vb false)] [] ?_))
   refine oe (nt (qe (nr ?_)))
   obtain rfl := sI h25
   exact re [.bool false]
 refine qk (nt (qs (qr (oN 1 [(4, vb true)] [] ?_))))
 refine oe (nt (qe ?_))
 obtain rfl := sI h26
 exact re [.bool true]

theorem c_laws_eqNode {W : World} {x0 : Node} {x1 : Node} {r : Bool} (h : laws_eqNode x0 x1 = some r)  :
    Gives0 Try.prog 97 #[vNode x0, vNode x1] W (.bool r) := by
 unfold laws_eqNode at h
 refine en Try.func97 Try.ntmps97 ?_
 refine qs (qr (oB 3 [(3, .p 1 0), (2, .p 0 0)] [] [(148, (eNode x0)), (148, (eNode x1))] ?_))
 refine oe (nt (qs (qs (qr (oN 5 [(9, vb (x0.Kind != x1.Kind))] [3, 2] ?_)))))
 refine oe (nt (cC h (fun h22 => ?_) (fun h23 => ?_)))
 · refine qs (qr (oN 1 [(4, vb false)] [] ?_))
   refine oe (nt (qe (nr ?_)))
   obtain rfl := sI h22
   exact re [.bool false]
 refine qk (nt (qs (qs (qr (oN 5 [(14, vb (x0.A != x1.A))] [3, 2] ?_)))))
 refine oe (nt (cC h23 (fun h25 => ?_) (fun h26 => ?_)))
 · refine qs (qr (oN 1 [(4, vb false)] [] ?_))
   refine oe (nt (qe (nr ?_)))
   obtain rfl := sI h25
   exact re [.bool false]
 refine qk (nt (qs (qs (qr (oN 5 [(19, vb (x0.B != x1.B))] [3, 2] ?_)))))
 refine oe (nt (cC h26 (fun h28 => ?_) (fun h29 => ?_)))
 · refine qs (qr (oN 1 [(4, vb false)] [] ?_))
   refine oe (nt (qe (nr ?_)))
   obtain rfl := sI h28
   exact re [.bool false]
 refine qk (nt (qs (qs (qr (oN 5 [(24, vb (x0.C != x1.C))] [3, 2] ?_)))))
 refine oe (nt (cC h29 (fun h31 => ?_) (fun h32 => ?_)))
 · refine qs (qr (oN 1 [(4, vb false)] [] ?_))
   refine oe (nt (qe (nr ?_)))
   obtain rfl := sI h31
   exact re [.bool false]
 refine qk (nt (qs (qs (qr (oN 4 [(28, .v (vFrac x1.Value)), (26, .v (vFrac x0.Value))] [] ?_)))))
 obtain ⟨t33, h34, h35⟩ := bS h32
 refine k0 (fun γ w hs => c_laws_eqFrac h34) ?_
 refine oN 1 [(30, vb (!t33))] [] ?_
 refine oe (nt (cC h35 (fun h38 => ?_) (fun h39 => ?_)))
 · refine qs (qr (oN 1 [(4, vb false)] [] ?_))
   refine oe (nt (qe (nr ?_)))
   obtain rfl := sI h38
   exact re [.bool false]
 refine qk (nt (qs (qr (oN 1 [(4, vb true)] [] ?_))))
 refine oe (nt (qe ?_))
 obtain rfl := sI h39
 exact re [.bool true]

theorem c_laws_eqNodeS {W : World} {x0 : List Node} {a0_0 : Option Addr} {c0_0 : Nat} {x1 : List Node} {a1_0 : Option Addr} {c1_0 : Nat} {r : Bool} (h : laws_eqNodeS x0 x1 = some r) (hv0_0 : SlView W x0 a0_0 c0_0) (hv1_0 : SlView W x1 a1_0 c1_0) :
    Gives0 Try.prog 95 #[.slice a0_0 x0.length c0_0, .slice a1_0 x1.length c1_0] W (.bool r) := by
 unfold laws_eqNodeS at h
 refine en Try.func95 Try.ntmps95 ?_
 refine qs (qr (oN 1 [] [0, 1] ?_))
 refine oe (nt (qs (qs (qr (oN 5 [(10, vb ((x0.length : Int) != (x1.length : Int)))] [0, 1] ?_)))))
 refine oe (nt (cC h (fun h22 => ?_) (fun h23 => ?_)))
 · refine qs (qr (oN 1 [(4, vb false)] [] ?_))
   refine oe (nt (qe (nr ?_)))
   obtain rfl := sI h22
   exact re [.bool false]
 refine qk (nt (qs (qs (qr (oN 1 [(5, vi 0)] [0, 1] ?_)))))
 refine oe (nt ?_)
 obtain ⟨r27, hL28, h29⟩ := bS h23
 obtain ⟨k30, hk31, h29⟩ := brkS h29
 refine JC_cutP (τ := (Unit) × (Unit)) (fun y => k30 y.1 = some r) (fun y35 => []) (fun y35 => []) (fun y35 => []) ?_ (fun y35 h36p => ?_)
 · refine qb (lp Unit hL28 (fun s24 y25 => [(5, vi s24), (0, .v (.slice a0_0 x0.length c0_0)), (1, .v (.slice a1_0 x1.length c1_0))]) (fun s24 y25 => []) (fun s24 y25 => []) () [5, 0, 1] [] 0 (fun s24 y25 t26 h32 hd33 => ?_))
   refine qs (qs (qr (oN 4 [(14, vb (decide (s24 < (x0.length : Int))))] [5, 0, 1] ?_)))
   refine oe (nt (cC h32 (fun h38 => ?_) (fun h39 => ?_)))
   · refine qk (nt (qs (qb (qs (JC_quiet (by kernel_rfl) (by kernel_rfl) ?_)))))
     refine qN 2 [(18, vi s24), (17, .v (.slice a0_0 x0.length c0_0))] [5, 0, 1] ?_
     obtain ⟨x40, hx41, h42⟩ := bS h38
     refine qi 6 (fun γ w hs => (hv0_0.kept hs.kept)) hx41 ?_
     refine ql 148 0 (vNode x40) (fun γ w hs => (hv0_0.kept hs.kept).flatq hx41) ?_
     refine qN 2 [(22, vi s24), (21, .v (.slice a1_0 x1.length c1_0))] [20, 5, 0, 1] ?_
     obtain ⟨x43, hx44, h45⟩ := bS h42
     refine qi 6 (fun γ w hs => (hv1_0.kept hs.kept)) hx44 ?_
     refine ql 148 0 (vNode x43) (fun γ w hs => (hv1_0.kept hs.kept).flatq hx44) ?_
     obtain ⟨t46, h47, h48⟩ := bS h45
     refine q0 (fun γ w hs => c_laws_eqNode h47) ?_
     refine qN 1 [(26, vb (!t46))] [5, 0, 1] ?_
     refine qz (nt (cC h48 (fun h51 => ?_) (fun h52 => ?_)))
     · refine qs (qr (oN 1 [(4, vb false)] [] ?_))
       refine oe (nt (qe (br (nr (nr ?_)))))
       have h53 := leafR hd33 h51 h29
       refine br (nr (nr ?_))
       obtain rfl := sI h53
       exact re [.bool false]
     refine qk (bn (nt (qr (oN 3 [(5, vi (w64 (s24 + 1)))] [0, 1] ?_))))
     exact oe (ct h52 () [5, 0, 1] [] 0)
   refine qx (nx (nx (bh ?_)))
   have h54 := leafB hd33 h39 h29
   exact mp ((), ()) h54 [] [] 0
 have h36 := (congrFun hk31 _).symm.trans h36p
 refine nt (qs (qr (oN 1 [(4, vb true)] [] ?_)))
 refine oe (nt (qe ?_))
 obtain rfl := sI h36
 exact re [.bool true]

theorem c_laws_eqRule {W : World} {x0 : Rule} {a0_0 : Option Addr} {c0_0 : Nat} {x1 : Rule} {a1_0 : Option Addr} {c1_0 : Nat} {r : Bool} (h : laws_eqRule x0 x1 = some r) (hv0_0 : SlView W x0.Nodes a0_0 c0_0) (hv1_0 : SlView W x1.Nodes a1_0 c1_0) :
    Gives0 Try.prog 85 #[vRule x0 (a0_0, c0_0), vRule x1 (a1_0, c1_0)] W (.bool r) := by
 unfold laws_eqRule at h
 refine en Try.func85 Try.ntmps85 ?_
 refine qs (qr (oB 3 [(3, .p 1 0), (2, .p 0 0)] [] [(86, (eRule x0 (a0_0, c0_0))), (86, (eRule x1 (a1_0, c1_0)))] ?_))
 refine oe (nt (qs (qs (qr (oN 5 [(9, vb (x0.Name != x1.Name))] [3, 2] ?_)))))
 refine oe (nt (cC h (fun h22 => ?_) (fun h23 => ?_)))
 · refine qs (qr (oN 1 [(4, vb false)] [] ?_))
   refine oe (nt (qe (nr ?_)))
   obtain rfl := sI h22
   exact re [.bool false]
 refine qk (nt (qs (qs (qr (oN 5 [(14, vb (x0.From != x1.From))] [3, 2] ?_)))))
 refine oe (nt (cC h23 (fun h25 => ?_) (fun h26 => ?_)))
 · refine qs (qr (oN 1 [(4, vb false)] [] ?_))
   refine oe (nt (qe (nr ?_)))
   obtain rfl := sI h25
   exact re [.bool false]
 refine qk (nt (qs (qs (qr (oN 5 [(19, vb (x0.To != x1.To))] [3, 2] ?_)))))
 refine oe (nt (cC h26 (fun h28 => ?_) (fun h29 => ?_)))
 · refine qs (qr (oN 1 [(4, vb false)] [] ?_))
   refine oe (nt (qe (nr ?_)))
   obtain rfl := sI h28
   exact re [.bool false]
 refine qk (nt (qs (qs (qr (oN 5 [(24, vb (x0.Joined != x1.Joined))] [3, 2] ?_)))))
 refine oe (nt (cC h29 (fun h31 => ?_) (fun h32 => ?_)))
 · refine qs (qr (oN 1 [(4, vb false)] [] ?_))
   refine oe (nt (qe (nr ?_)))
   obtain rfl := sI h31
   exact re [.bool false]
 refine qk (nt (qs (qs (qr (oN 5 [(29, vb (x0.Rank != x1.Rank))] [3, 2] ?_)))))
 refine oe (nt (cC h32 (fun h34 => ?_) (fun h35 => ?_)))
 · refine qs (qr (oN 1 [(4, vb false)] [] ?_))
   refine oe (nt (qe (nr ?_)))
   obtain rfl := sI h34
   exact re [.bool false]
 refine qk (nt (qs (qs (qr (oN 5 [(34, vb (x0.Mode != x1.Mode))] [3, 2] ?_)))))
 refine oe (nt (cC h35 (fun h37 => ?_) (fun h38 => ?_)))
 · refine qs (qr (oN 1 [(4, vb false)] [] ?_))
   refine oe (nt (qe (nr ?_)))
   obtain rfl := sI h37
   exact re [.bool false]
 refine qk (nt (qs (qs (qr (oN 4 [(38, .v (.slice a1_0 x1.Nodes.length c1_0)), (36, .v (.slice a0_0 x0.Nodes.length c0_0))] [] ?_)))))
 obtain ⟨t39, h40, h41⟩ := bS h38
 refine k0 (fun γ w hs => c_laws_eqNodeS h40 (hv0_0.kept hs.kept) (hv1_0.kept hs.kept)) ?_
 refine oN 1 [(40, vb (!t39))] [] ?_
 refine oe (nt (cC h41 (fun h44 => ?_) (fun h45 => ?_)))
 · refine qs (qr (oN 1 [(4, vb false)] [] ?_))
   refine oe (nt (qe (nr ?_)))
   obtain rfl := sI h44
   exact re [.bool false]
 refine qk (nt (qs (qr (oN 1 [(4, vb true)] [] ?_))))
 refine oe (nt (qe ?_))
 obtain rfl := sI h45
 exact re [.bool true]

theorem c_laws_eqRuleS {W : World} {x0 : List Rule} {a0_0 : Option Addr} {c0_0 : Nat} {x1 : List Rule} {a1_0 : Option Addr} {c1_0 : Nat} {r : Bool} (h : laws_eqRuleS x0 x1 = some r) (hv0_0 : SlView W x0 a0_0 c0_0) (hv1_0 : SlView W x1 a1_0 c1_0) :
    Gives0 Try.prog 59 #[.slice a0_0 x0.length c0_0, .slice a1_0 x1.length c1_0] W (.bool r) := by
 unfold laws_eqRuleS at h
 refine en Try.func59 Try.ntmps59 ?_
 refine qs (qr (oN 1 [] [0, 1] ?_))
 refine oe (nt (qs (qs (qr (oN 5 [(10, vb ((x0.length : Int) != (x1.length : Int)))] [0, 1] ?_)))))
 refine oe (nt (cC h (fun h22 => ?_) (fun h23 => ?_)))
 · refine qs (qr (oN 1 [(4, vb false)] [] ?_))
   refine oe (nt (qe (nr ?_)))
   obtain rfl := sI h22
   exact re [.bool false]
 refine qk (nt (qs (qs (qr (oN 1 [(5, vi 0)] [0, 1] ?_)))))
 refine oe (nt ?_)
 obtain ⟨r27, hL28, h29⟩ := bS h23
 obtain ⟨k30, hk31, h29⟩ := brkS h29
 refine JC_cutP (τ := (Unit) × (Unit)) (fun y => k30 y.1 = some r) (fun y35 => []) (fun y35 => []) (fun y35 => []) ?_ (fun y35 h36p => ?_)
 · refine qb (lp Unit hL28 (fun s24 y25 => [(5, vi s24), (0, .v (.slice a0_0 x0.length c0_0)), (1, .v (.slice a1_0 x1.length c1_0))]) (fun s24 y25 => []) (fun s24 y25 => []) () [5, 0, 1] [] 0 (fun s24 y25 t26 h32 hd33 => ?_))
   refine qs (qs (qr (oN 4 [(14, vb (decide (s24 < (x0.length : Int))))] [5, 0, 1] ?_)))
   refine oe (nt (cC h32 (fun h38 => ?_) (fun h39 => ?_)))
   · refine qk (nt (qs (qb (qs (JC_quiet (by kernel_rfl) (by kernel_rfl) ?_)))))
     refine qN 2 [(18, vi s24), (17, .v (.slice a0_0 x0.length c0_0))] [5, 0, 1] ?_
     obtain ⟨x40, hx41, h42⟩ := bS h38
     refine qi 7 (fun γ w hs => (hv0_0.kept hs.kept)) hx41 ?_
     obtain ⟨_, ⟨a43, c44, rfl, hv45⟩, hc46⟩ := SlView.at hv0_0 (idx_some hx41).2.2
     refine ql 86 0 (vRule x40 (a43, c44)) (fun γ w hs => ⟨(hv0_0.kept hs.kept).ne (idx_some hx41).2.2, hc46.kept hs.kept⟩) ?_
     refine qN 2 [(22, vi s24), (21, .v (.slice a1_0 x1.length c1_0))] [20, 5, 0, 1] ?_
     obtain ⟨x47, hx48, h49⟩ := bS h42
     refine qi 7 (fun γ w hs => (hv1_0.kept hs.kept)) hx48 ?_
     obtain ⟨_, ⟨a50, c51, rfl, hv52⟩, hc53⟩ := SlView.at hv1_0 (idx_some hx48).2.2
     refine ql 86 0 (vRule x47 (a50, c51)) (fun γ w hs => ⟨(hv1_0.kept hs.kept).ne (idx_some hx48).2.2, hc53.kept hs.kept⟩) ?_
     obtain ⟨t54, h55, h56⟩ := bS h49
     refine q0 (fun γ w hs => c_laws_eqRule h55 (hv45.kept hs.kept) (hv52.kept hs.kept)) ?_
     refine qN 1 [(26, vb (!t54))] [5, 0, 1] ?_
     refine qz (nt (cC h56 (fun h59 => ?_) (fun h60 => ?_)))
     · refine qs (qr (oN 1 [(4, vb false)] [] ?_))
       refine oe (nt (qe (br (nr (nr ?_)))))
       have h61 := leafR hd33 h59 h29
       refine br (nr (nr ?_))
       obtain rfl := sI h61
       exact re [.bool false]
     refine qk (bn (nt (qr (oN 3 [(5, vi (w64 (s24 + 1)))] [0, 1] ?_))))
     exact oe (ct h60 () [5, 0, 1] [] 0)
   refine qx (nx (nx (bh ?_)))
   have h62 := leafB hd33 h39 h29
   exact mp ((), ()) h62 [] [] 0
 have h36 := (congrFun hk31 _).symm.trans h36p
 refine nt (qs (qr (oN 1 [(4, vb true)] [] ?_)))
 refine oe (nt (qe ?_))
 obtain rfl := sI h36
 exact re [.bool true]

theorem c_laws_eqBook {W : World} {x0 : Book} {a0_0 : Option Addr} {c0_0 : Nat} {x1 : Book} {a1_0 : Option Addr} {c1_0 : Nat} {r : Bool} (h : laws_eqBook x0 x1 = some r) (hv0_0 : SlView W x0.Rules a0_0 c0_0) (hv1_0 : SlView W x1.Rules a1_0 c1_0) :
    Gives0 Try.prog 26 #[vBook x0 (a0_0, c0_0), vBook x1 (a1_0, c1_0)] W (.bool r) := by
 unfold laws_eqBook at h
 refine en Try.func26 Try.ntmps26 ?_
 refine qs (qr (oB 3 [(3, .p 1 0), (2, .p 0 0)] [] [(40, (eBook x0 (a0_0, c0_0))), (40, (eBook x1 (a1_0, c1_0)))] ?_))
 refine oe (nt (qs (qs (qr (oN 4 [(8, .v (.slice a1_0 x1.Rules.length c1_0)), (6, .v (.slice a0_0 x0.Rules.length c0_0))] [] ?_)))))
 obtain ⟨t21, h22, h23⟩ := bS h
 refine k0 (fun γ w hs => c_laws_eqRuleS h22 (hv0_0.kept hs.kept) (hv1_0.kept hs.kept)) ?_
 refine oN 1 [(10, vb (!t21))] [] ?_
 refine oe (nt (cC h23 (fun h26 => ?_) (fun h27 => ?_)))
 · refine qs (qr (oN 1 [(4, vb false)] [] ?_))
   refine oe (nt (qe (nr ?_)))
   obtain rfl := sI h26
   exact re [.bool false]
 refine qk (nt (qs (qr (oN 1 [(4, vb true)] [] ?_))))
 refine oe (nt (qe ?_))
 obtain rfl := sI h27
 exact re [.bool true]

theorem c_laws_eqFact {W : World} {x0 : Fact} {x1 : Fact} {r : Bool} (h : laws_eqFact x0 x1 = some r)  :
    Gives0 Try.prog 86 #[vFact x0, vFact x1] W (.bool r) := by
 unfold laws_eqFact at h
 refine en Try.func86 Try.ntmps86 ?_
 refine qs (qr (oB 3 [(3, .p 1 0), (2, .p 0 0)] [] [(89, (eFact x0)), (89, (eFact x1))] ?_))
 refine oe (nt (qs (qs (qr (oN 5 [(9, vb (x0.Key != x1.Key))] [3, 2] ?_)))))
 refine oe (nt (cC h (fun h22 => ?_) (fun h23 => ?_)))
 · refine qs (qr (oN 1 [(4, vb false)] [] ?_))
   refine oe (nt (qe (nr ?_)))
   obtain rfl := sI h22
   exact re [.bool false]
 refine qk (nt (qs (qs (qr (oN 5 [(14, vb (x0.From != x1.From))] [3, 2] ?_)))))
 refine oe (nt (cC h23 (fun h25 => ?_) (fun h26 => ?_)))
 · refine qs (qr (oN 1 [(4, vb false)] [] ?_))
   refine oe (nt (qe (nr ?_)))
   obtain rfl := sI h25
   exact re [.bool false]
 refine qk (nt (qs (qs (qr (oN 5 [(19, vb (x0.To != x1.To))] [3, 2] ?_)))))
 refine oe (nt (cC h26 (fun h28 => ?_) (fun h29 => ?_)))
 · refine qs (qr (oN 1 [(4, vb false)] [] ?_))
   refine oe (nt (qe (nr ?_)))
   obtain rfl := sI h28
   exact re [.bool false]
 refine qk (nt (qs (qs (qr (oN 5 [(24, vb (x0.Known != x1.Known))] [3, 2] ?_)))))
 refine oe (nt (cC h29 (fun h31 => ?_) (fun h32 => ?_)))
 · refine qs (qr (oN 1 [(4, vb false)] [] ?_))
   refine oe (nt (qe (nr ?_)))
   obtain rfl := sI h31
   exact re [.bool false]
 refine qk (nt (qs (qs (qr (oN 5 [(29, vb (x0.Value != x1.Value))] [] ?_)))))
 refine oe (nt (cC h32 (fun h34 => ?_) (fun h35 => ?_)))
 · refine qs (qr (oN 1 [(4, vb false)] [] ?_))
   refine oe (nt (qe (nr ?_)))
   obtain rfl := sI h34
   exact re [.bool false]
 refine qk (nt (qs (qr (oN 1 [(4, vb true)] [] ?_))))
 refine oe (nt (qe ?_))
 obtain rfl := sI h35
 exact re [.bool true]

theorem c_laws_eqFactS {W : World} {x0 : List Fact} {a0_0 : Option Addr} {c0_0 : Nat} {x1 : List Fact} {a1_0 : Option Addr} {c1_0 : Nat} {r : Bool} (h : laws_eqFactS x0 x1 = some r) (hv0_0 : SlView W x0 a0_0 c0_0) (hv1_0 : SlView W x1 a1_0 c1_0) :
    Gives0 Try.prog 60 #[.slice a0_0 x0.length c0_0, .slice a1_0 x1.length c1_0] W (.bool r) := by
 unfold laws_eqFactS at h
 refine en Try.func60 Try.ntmps60 ?_
 refine qs (qr (oN 1 [] [0, 1] ?_))
 refine oe (nt (qs (qs (qr (oN 5 [(10, vb ((x0.length : Int) != (x1.length : Int)))] [0, 1] ?_)))))
 refine oe (nt (cC h (fun h22 => ?_) (fun h23 => ?_)))
 · refine qs (qr (oN 1 [(4, vb false)] [] ?_))
   refine oe (nt (qe (nr ?_)))
   obtain rfl := sI h22
   exact re [.bool false]
 refine qk (nt (qs (qs (qr (oN 1 [(5, vi 0)] [0, 1] ?_)))))
 refine oe (nt ?_)
 obtain ⟨r27, hL28, h29⟩ := bS h23
 obtain ⟨k30, hk31, h29⟩ := brkS h29
 refine JC_cutP (τ := (Unit) × (Unit)) (fun y => k30 y.1 = some r) (fun y35 => []) (fun y35 => []) (fun y35 => []) ?_ (fun y35 h36p => ?_)
 · refine qb (lp Unit hL28 (fun s24 y25 => [(5, vi s24), (0, .v (.slice a0_0 x0.length c0_0)), (1, .v (.slice a1_0 x1.length c1_0))]) (fun s24 y25 => []) (fun s24 y25 => []) () [5, 0, 1] [] 0 (fun s24 y25 t26 h32 hd33 => ?_))
   refine qs (qs (qr (oN 4 [(14, vb (decide (s24 < (x0.length : Int))))] [5, 0, 1] ?_)))
   refine oe (nt (cC h32 (fun h38 => ?_) (fun h39 => ?_)))
   · refine qk (nt (qs (qb (qs (JC_quiet (by kernel_rfl) (by kernel_rfl) ?_)))))
     refine qN 2 [(18, vi s24), (17, .v (.slice a0_0 x0.length c0_0))] [5, 0, 1] ?_
     obtain ⟨x40, hx41, h42⟩ := bS h38
     refine qi 5 (fun γ w hs => (hv0_0.kept hs.kept)) hx41 ?_
     refine ql 89 0 (vFact x40) (fun γ w hs => (hv0_0.kept hs.kept).flatq hx41) ?_
     refine qN 2 [(22, vi s24), (21, .v (.slice a1_0 x1.length c1_0))] [20, 5, 0, 1] ?_
     obtain ⟨x43, hx44, h45⟩ := bS h42
     refine qi 5 (fun γ w hs => (hv1_0.kept hs.kept)) hx44 ?_
     refine ql 89 0 (vFact x43) (fun γ w hs => (hv1_0.kept hs.kept).flatq hx44) ?_
     obtain ⟨t46, h47, h48⟩ := bS h45
     refine q0 (fun γ w hs => c_laws_eqFact h47) ?_
     refine qN 1 [(26, vb (!t46))] [5, 0, 1] ?_
     refine qz (nt (cC h48 (fun h51 => ?_) (fun h52 => ?_)))
     · refine qs (qr (oN 1 [(4, vb false)] [] ?_))
       refine oe (nt (qe (br (nr (nr ?_)))))
       have h53 := leafR hd33 h51 h29
       refine br (nr (nr ?_))
       obtain rfl := sI h53
       exact re [.bool false]
     refine qk (bn (nt (qr (oN 3 [(5, vi (w64 (s24 + 1)))] [0, 1] ?_))))
     exact oe (ct h52 () [5, 0, 1] [] 0)
   refine qx (nx (nx (bh ?_)))
   have h54 := leafB hd33 h39 h29
   exact mp ((), ()) h54 [] [] 0
 have h36 := (congrFun hk31 _).symm.trans h36p
 refine nt (qs (qr (oN 1 [(4, vb true)] [] ?_)))
 refine oe (nt (qe ?_))
 obtain rfl := sI h36
 exact re [.bool true]

theorem c_laws_eqStore {W : World} {x0 : Store} {a0_0 : Option Addr} {c0_0 : Nat} {x1 : Store} {a1_0 : Option Addr} {c1_0 : Nat} {r : Bool} (h : laws_eqStore x0 x1 = some r) (hv0_0 : SlView W x0.Facts a0_0 c0_0) (hv1_0 : SlView W x1.Facts a1_0 c1_0) :
    Gives0 Try.prog 27 #[vStore x0 (a0_0, c0_0), vStore x1 (a1_0, c1_0)] W (.bool r) := by
 unfold laws_eqStore at h
 refine en Try.func27 Try.ntmps27 ?_
 refine qs (qr (oB 3 [(3, .p 1 0), (2, .p 0 0)] [] [(43, (eStore x0 (a0_0, c0_0))), (43, (eStore x1 (a1_0, c1_0)))] ?_))
 refine oe (nt (qs (qs (qr (oN 4 [(8, .v (.slice a1_0 x1.Facts.length c1_0)), (6, .v (.slice a0_0 x0.Facts.length c0_0))] [] ?_)))))
 obtain ⟨t21, h22, h23⟩ := bS h
 refine k0 (fun γ w hs => c_laws_eqFactS h22 (hv0_0.kept hs.kept) (hv1_0.kept hs.kept)) ?_
 refine oN 1 [(10, vb (!t21))] [] ?_
 refine oe (nt (cC h23 (fun h26 => ?_) (fun h27 => ?_)))
 · refine qs (qr (oN 1 [(4, vb false)] [] ?_))
   refine oe (nt (qe (nr ?_)))
   obtain rfl := sI h26
   exact re [.bool false]
 refine qk (nt (qs (qr (oN 1 [(4, vb true)] [] ?_))))
 refine oe (nt (qe ?_))
 obtain rfl := sI h27
 exact re [.bool true]

theorem c_laws_eqPoint {W : World} {x0 : Point} {x1 : Point} {r : Bool} (h : laws_eqPoint x0 x1 = some r)  :
    Gives0 Try.prog 87 #[vPoint x0, vPoint x1] W (.bool r) := by
 unfold laws_eqPoint at h
 refine en Try.func87 Try.ntmps87 ?_
 refine qs (qr (oB 3 [(3, .p 1 0), (2, .p 0 0)] [] [(91, (ePoint x0)), (91, (ePoint x1))] ?_))
 refine oe (nt (qs (qs (qr (oN 5 [(9, vb (x0.Month != x1.Month))] [3, 2] ?_)))))
 refine oe (nt (cC h (fun h22 => ?_) (fun h23 => ?_)))
 · refine qs (qr (oN 1 [(4, vb false)] [] ?_))
   refine oe (nt (qe (nr ?_)))
   obtain rfl := sI h22
   exact re [.bool false]
 refine qk (nt (qs (qs (qr (oN 5 [(14, vb (x0.Known != x1.Known))] [3, 2] ?_)))))
 refine oe (nt (cC h23 (fun h25 => ?_) (fun h26 => ?_)))
 · refine qs (qr (oN 1 [(4, vb false)] [] ?_))
   refine oe (nt (qe (nr ?_)))
   obtain rfl := sI h25
   exact re [.bool false]
 refine qk (nt (qs (qs (qr (oN 5 [(19, vb (x0.Value != x1.Value))] [] ?_)))))
 refine oe (nt (cC h26 (fun h28 => ?_) (fun h29 => ?_)))
 · refine qs (qr (oN 1 [(4, vb false)] [] ?_))
   refine oe (nt (qe (nr ?_)))
   obtain rfl := sI h28
   exact re [.bool false]
 refine qk (nt (qs (qr (oN 1 [(4, vb true)] [] ?_))))
 refine oe (nt (qe ?_))
 obtain rfl := sI h29
 exact re [.bool true]

theorem c_laws_eqPointS {W : World} {x0 : List Point} {a0_0 : Option Addr} {c0_0 : Nat} {x1 : List Point} {a1_0 : Option Addr} {c1_0 : Nat} {r : Bool} (h : laws_eqPointS x0 x1 = some r) (hv0_0 : SlView W x0 a0_0 c0_0) (hv1_0 : SlView W x1 a1_0 c1_0) :
    Gives0 Try.prog 61 #[.slice a0_0 x0.length c0_0, .slice a1_0 x1.length c1_0] W (.bool r) := by
 unfold laws_eqPointS at h
 refine en Try.func61 Try.ntmps61 ?_
 refine qs (qr (oN 1 [] [0, 1] ?_))
 refine oe (nt (qs (qs (qr (oN 5 [(10, vb ((x0.length : Int) != (x1.length : Int)))] [0, 1] ?_)))))
 refine oe (nt (cC h (fun h22 => ?_) (fun h23 => ?_)))
 · refine qs (qr (oN 1 [(4, vb false)] [] ?_))
   refine oe (nt (qe (nr ?_)))
   obtain rfl := sI h22
   exact re [.bool false]
 refine qk (nt (qs (qs (qr (oN 1 [(5, vi 0)] [0, 1] ?_)))))
 refine oe (nt ?_)
 obtain ⟨r27, hL28, h29⟩ := bS h23
 obtain ⟨k30, hk31, h29⟩ := brkS h29
 refine JC_cutP (τ := (Unit) × (Unit)) (fun y => k30 y.1 = some r) (fun y35 => []) (fun y35 => []) (fun y35 => []) ?_ (fun y35 h36p => ?_)
 · refine qb (lp Unit hL28 (fun s24 y25 => [(5, vi s24), (0, .v (.slice a0_0 x0.length c0_0)), (1, .v (.slice a1_0 x1.length c1_0))]) (fun s24 y25 => []) (fun s24 y25 => []) () [5, 0, 1] [] 0 (fun s24 y25 t26 h32 hd33 => ?_))
   refine qs (qs (qr (oN 4 [(14, vb (decide (s24 < (x0.length : Int))))] [5, 0, 1] ?_)))
   refine oe (nt (cC h32 (fun h38 => ?_) (fun h39 => ?_)))
   · refine qk (nt (qs (qb (qs (JC_quiet (by kernel_rfl) (by kernel_rfl) ?_)))))
     refine qN 2 [(18, vi s24), (17, .v (.slice a0_0 x0.length c0_0))] [5, 0, 1] ?_
     obtain ⟨x40, hx41, h42⟩ := bS h38
     refine qi 3 (fun γ w hs => (hv0_0.kept hs.kept)) hx41 ?_
     refine ql 91 0 (vPoint x40) (fun γ w hs => (hv0_0.kept hs.kept).flatq hx41) ?_
     refine qN 2 [(22, vi s24), (21, .v (.slice a1_0 x1.length c1_0))] [20, 5, 0, 1] ?_
     obtain ⟨x43, hx44, h45⟩ := bS h42
     refine qi 3 (fun γ w hs => (hv1_0.kept hs.kept)) hx44 ?_
     refine ql 91 0 (vPoint x43) (fun γ w hs => (hv1_0.kept hs.kept).flatq hx44) ?_
     obtain ⟨t46, h47, h48⟩ := bS h45
     refine q0 (fun γ w hs => c_laws_eqPoint h47) ?_
     refine qN 1 [(26, vb (!t46))] [5, 0, 1] ?_
     refine qz (nt (cC h48 (fun h51 => ?_) (fun h52 => ?_)))
     · refine qs (qr (oN 1 [(4, vb false)] [] ?_))
       refine oe (nt (qe (br (nr (nr ?_)))))
       have h53 := leafR hd33 h51 h29
       refine br (nr (nr ?_))
       obtain rfl := sI h53
       exact re [.bool false]
     refine qk (bn (nt (qr (oN 3 [(5, vi (w64 (s24 + 1)))] [0, 1] ?_))))
     exact oe (ct h52 () [5, 0, 1] [] 0)
   refine qx (nx (nx (bh ?_)))
   have h54 := leafB hd33 h39 h29
   exact mp ((), ()) h54 [] [] 0
 have h36 := (congrFun hk31 _).symm.trans h36p
 refine nt (qs (qr (oN 1 [(4, vb true)] [] ?_)))
 refine oe (nt (qe ?_))
 obtain rfl := sI h36
 exact re [.bool true]

theorem c_laws_eqSeries {W : World} {x0 : Series} {a0_0 : Option Addr} {c0_0 : Nat} {x1 : Series} {a1_0 : Option Addr} {c1_0 : Nat} {r : Bool} (h : laws_eqSeries x0 x1 = some r) (hv0_0 : SlView W x0.Points a0_0 c0_0) (hv1_0 : SlView W x1.Points a1_0 c1_0) :
    Gives0 Try.prog 28 #[vSeries x0 (a0_0, c0_0), vSeries x1 (a1_0, c1_0)] W (.bool r) := by
 unfold laws_eqSeries at h
 refine en Try.func28 Try.ntmps28 ?_
 refine qs (qr (oB 3 [(3, .p 1 0), (2, .p 0 0)] [] [(46, (eSeries x0 (a0_0, c0_0))), (46, (eSeries x1 (a1_0, c1_0)))] ?_))
 refine oe (nt (qs (qs (qr (oN 4 [(8, .v (.slice a1_0 x1.Points.length c1_0)), (6, .v (.slice a0_0 x0.Points.length c0_0))] [] ?_)))))
 obtain ⟨t21, h22, h23⟩ := bS h
 refine k0 (fun γ w hs => c_laws_eqPointS h22 (hv0_0.kept hs.kept) (hv1_0.kept hs.kept)) ?_
 refine oN 1 [(10, vb (!t21))] [] ?_
 refine oe (nt (cC h23 (fun h26 => ?_) (fun h27 => ?_)))
 · refine qs (qr (oN 1 [(4, vb false)] [] ?_))
   refine oe (nt (qe (nr ?_)))
   obtain rfl := sI h26
   exact re [.bool false]
 refine qk (nt (qs (qr (oN 1 [(4, vb true)] [] ?_))))
 refine oe (nt (qe ?_))
 obtain rfl := sI h27
 exact re [.bool true]

theorem c_laws_eqSpell {W : World} {x0 : Spell} {x1 : Spell} {r : Bool} (h : laws_eqSpell x0 x1 = some r)  :
    Gives0 Try.prog 88 #[vSpell x0, vSpell x1] W (.bool r) := by
 unfold laws_eqSpell at h
 refine en Try.func88 Try.ntmps88 ?_
 refine qs (qr (oB 3 [(3, .p 1 0), (2, .p 0 0)] [] [(125, (eSpell x0)), (125, (eSpell x1))] ?_))
 refine oe (nt (qs (qs (qr (oN 5 [(9, vb (x0.From != x1.From))] [3, 2] ?_)))))
 refine oe (nt (cC h (fun h22 => ?_) (fun h23 => ?_)))
 · refine qs (qr (oN 1 [(4, vb false)] [] ?_))
   refine oe (nt (qe (nr ?_)))
   obtain rfl := sI h22
   exact re [.bool false]
 refine qk (nt (qs (qs (qr (oN 5 [(14, vb (x0.To != x1.To))] [3, 2] ?_)))))
 refine oe (nt (cC h23 (fun h25 => ?_) (fun h26 => ?_)))
 · refine qs (qr (oN 1 [(4, vb false)] [] ?_))
   refine oe (nt (qe (nr ?_)))
   obtain rfl := sI h25
   exact re [.bool false]
 refine qk (nt (qs (qs (qr (oN 5 [(19, vb (x0.Percent != x1.Percent))] [3, 2] ?_)))))
 refine oe (nt (cC h26 (fun h28 => ?_) (fun h29 => ?_)))
 · refine qs (qr (oN 1 [(4, vb false)] [] ?_))
   refine oe (nt (qe (nr ?_)))
   obtain rfl := sI h28
   exact re [.bool false]
 refine qk (nt (qs (qs (qr (oN 5 [(24, vb (!(x0.Leave == x1.Leave)))] [] ?_)))))
 refine oe (nt (cC h29 (fun h31 => ?_) (fun h32 => ?_)))
 · refine qs (qr (oN 1 [(4, vb false)] [] ?_))
   refine oe (nt (qe (nr ?_)))
   obtain rfl := sI h31
   exact re [.bool false]
 refine qk (nt (qs (qr (oN 1 [(4, vb true)] [] ?_))))
 refine oe (nt (qe ?_))
 obtain rfl := sI h32
 exact re [.bool true]

theorem c_laws_eqSpellS {W : World} {x0 : List Spell} {a0_0 : Option Addr} {c0_0 : Nat} {x1 : List Spell} {a1_0 : Option Addr} {c1_0 : Nat} {r : Bool} (h : laws_eqSpellS x0 x1 = some r) (hv0_0 : SlView W x0 a0_0 c0_0) (hv1_0 : SlView W x1 a1_0 c1_0) :
    Gives0 Try.prog 62 #[.slice a0_0 x0.length c0_0, .slice a1_0 x1.length c1_0] W (.bool r) := by
 unfold laws_eqSpellS at h
 refine en Try.func62 Try.ntmps62 ?_
 refine qs (qr (oN 1 [] [0, 1] ?_))
 refine oe (nt (qs (qs (qr (oN 5 [(10, vb ((x0.length : Int) != (x1.length : Int)))] [0, 1] ?_)))))
 refine oe (nt (cC h (fun h22 => ?_) (fun h23 => ?_)))
 · refine qs (qr (oN 1 [(4, vb false)] [] ?_))
   refine oe (nt (qe (nr ?_)))
   obtain rfl := sI h22
   exact re [.bool false]
 refine qk (nt (qs (qs (qr (oN 1 [(5, vi 0)] [0, 1] ?_)))))
 refine oe (nt ?_)
 obtain ⟨r27, hL28, h29⟩ := bS h23
 obtain ⟨k30, hk31, h29⟩ := brkS h29
 refine JC_cutP (τ := (Unit) × (Unit)) (fun y => k30 y.1 = some r) (fun y35 => []) (fun y35 => []) (fun y35 => []) ?_ (fun y35 h36p => ?_)
 · refine qb (lp Unit hL28 (fun s24 y25 => [(5, vi s24), (0, .v (.slice a0_0 x0.length c0_0)), (1, .v (.slice a1_0 x1.length c1_0))]) (fun s24 y25 => []) (fun s24 y25 => []) () [5, 0, 1] [] 0 (fun s24 y25 t26 h32 hd33 => ?_))
   refine qs (qs (qr (oN 4 [(14, vb (decide (s24 < (x0.length : Int))))] [5, 0, 1] ?_)))
   refine oe (nt (cC h32 (fun h38 => ?_) (fun h39 => ?_)))
   · refine qk (nt (qs (qb (qs (JC_quiet (by kernel_rfl) (by kernel_rfl) ?_)))))
     refine qN 2 [(18, vi s24), (17, .v (.slice a0_0 x0.length c0_0))] [5, 0, 1] ?_
     obtain ⟨x40, hx41, h42⟩ := bS h38
     refine qi 4 (fun γ w hs => (hv0_0.kept hs.kept)) hx41 ?_
     refine ql 125 0 (vSpell x40) (fun γ w hs => (hv0_0.kept hs.kept).flatq hx41) ?_
     refine qN 2 [(22, vi s24), (21, .v (.slice a1_0 x1.length c1_0))] [20, 5, 0, 1] ?_
     obtain ⟨x43, hx44, h45⟩ := bS h42
     refine qi 4 (fun γ w hs => (hv1_0.kept hs.kept)) hx44 ?_
     refine ql 125 0 (vSpell x43) (fun γ w hs => (hv1_0.kept hs.kept).flatq hx44) ?_
     obtain ⟨t46, h47, h48⟩ := bS h45
     refine q0 (fun γ w hs => c_laws_eqSpell h47) ?_
     refine qN 1 [(26, vb (!t46))] [5, 0, 1] ?_
     refine qz (nt (cC h48 (fun h51 => ?_) (fun h52 => ?_)))
     · refine qs (qr (oN 1 [(4, vb false)] [] ?_))
       refine oe (nt (qe (br (nr (nr ?_)))))
       have h53 := leafR hd33 h51 h29
       refine br (nr (nr ?_))
       obtain rfl := sI h53
       exact re [.bool false]
     refine qk (bn (nt (qr (oN 3 [(5, vi (w64 (s24 + 1)))] [0, 1] ?_))))
     exact oe (ct h52 () [5, 0, 1] [] 0)
   refine qx (nx (nx (bh ?_)))
   have h54 := leafB hd33 h39 h29
   exact mp ((), ()) h54 [] [] 0
 have h36 := (congrFun hk31 _).symm.trans h36p
 refine nt (qs (qr (oN 1 [(4, vb true)] [] ?_)))
 refine oe (nt (qe ?_))
 obtain rfl := sI h36
 exact re [.bool true]

theorem c_laws_eqEvent {W : World} {x0 : Event} {x1 : Event} {r : Bool} (h : laws_eqEvent x0 x1 = some r)  :
    Gives0 Try.prog 89 #[vEvent x0, vEvent x1] W (.bool r) := by
 unfold laws_eqEvent at h
 refine en Try.func89 Try.ntmps89 ?_
 refine qs (qr (oB 3 [(3, .p 1 0), (2, .p 0 0)] [] [(129, (eEvent x0)), (129, (eEvent x1))] ?_))
 refine oe (nt (qs (qs (qr (oN 5 [(9, vb (x0.Kind != x1.Kind))] [3, 2] ?_)))))
 refine oe (nt (cC h (fun h22 => ?_) (fun h23 => ?_)))
 · refine qs (qr (oN 1 [(4, vb false)] [] ?_))
   refine oe (nt (qe (nr ?_)))
   obtain rfl := sI h22
   exact re [.bool false]
 refine qk (nt (qs (qs (qr (oN 5 [(14, vb (x0.Month != x1.Month))] [] ?_)))))
 refine oe (nt (cC h23 (fun h25 => ?_) (fun h26 => ?_)))
 · refine qs (qr (oN 1 [(4, vb false)] [] ?_))
   refine oe (nt (qe (nr ?_)))
   obtain rfl := sI h25
   exact re [.bool false]
 refine qk (nt (qs (qr (oN 1 [(4, vb true)] [] ?_))))
 refine oe (nt (qe ?_))
 obtain rfl := sI h26
 exact re [.bool true]

theorem c_laws_eqEventS {W : World} {x0 : List Event} {a0_0 : Option Addr} {c0_0 : Nat} {x1 : List Event} {a1_0 : Option Addr} {c1_0 : Nat} {r : Bool} (h : laws_eqEventS x0 x1 = some r) (hv0_0 : SlView W x0 a0_0 c0_0) (hv1_0 : SlView W x1 a1_0 c1_0) :
    Gives0 Try.prog 63 #[.slice a0_0 x0.length c0_0, .slice a1_0 x1.length c1_0] W (.bool r) := by
 unfold laws_eqEventS at h
 refine en Try.func63 Try.ntmps63 ?_
 refine qs (qr (oN 1 [] [0, 1] ?_))
 refine oe (nt (qs (qs (qr (oN 5 [(10, vb ((x0.length : Int) != (x1.length : Int)))] [0, 1] ?_)))))
 refine oe (nt (cC h (fun h22 => ?_) (fun h23 => ?_)))
 · refine qs (qr (oN 1 [(4, vb false)] [] ?_))
   refine oe (nt (qe (nr ?_)))
   obtain rfl := sI h22
   exact re [.bool false]
 refine qk (nt (qs (qs (qr (oN 1 [(5, vi 0)] [0, 1] ?_)))))
 refine oe (nt ?_)
 obtain ⟨r27, hL28, h29⟩ := bS h23
 obtain ⟨k30, hk31, h29⟩ := brkS h29
 refine JC_cutP (τ := (Unit) × (Unit)) (fun y => k30 y.1 = some r) (fun y35 => []) (fun y35 => []) (fun y35 => []) ?_ (fun y35 h36p => ?_)
 · refine qb (lp Unit hL28 (fun s24 y25 => [(5, vi s24), (0, .v (.slice a0_0 x0.length c0_0)), (1, .v (.slice a1_0 x1.length c1_0))]) (fun s24 y25 => []) (fun s24 y25 => []) () [5, 0, 1] [] 0 (fun s24 y25 t26 h32 hd33 => ?_))
   refine qs (qs (qr (oN 4 [(14, vb (decide (s24 < (x0.length : Int))))] [5, 0, 1] ?_)))
   refine oe (nt (cC h32 (fun h38 => ?_) (fun h39 => ?_)))
   · refine qk (nt (qs (qb (qs (JC_quiet (by kernel_rfl) (by kernel_rfl) ?_)))))
     refine qN 2 [(18, vi s24), (17, .v (.slice a0_0 x0.length c0_0))] [5, 0, 1] ?_
     obtain ⟨x40, hx41, h42⟩ := bS h38
     refine qi 2 (fun γ w hs => (hv0_0.kept hs.kept)) hx41 ?_
     refine ql 129 0 (vEvent x40) (fun γ w hs => (hv0_0.kept hs.kept).flatq hx41) ?_
     refine qN 2 [(22, vi s24), (21, .v (.slice a1_0 x1.length c1_0))] [20, 5, 0, 1] ?_
     obtain ⟨x43, hx44, h45⟩ := bS h42
     refine qi 2 (fun γ w hs => (hv1_0.kept hs.kept)) hx44 ?_
     refine ql 129 0 (vEvent x43) (fun γ w hs => (hv1_0.kept hs.kept).flatq hx44) ?_
     obtain ⟨t46, h47, h48⟩ := bS h45
     refine q0 (fun γ w hs => c_laws_eqEvent h47) ?_
     refine qN 1 [(26, vb (!t46))] [5, 0, 1] ?_
     refine qz (nt (cC h48 (fun h51 => ?_) (fun h52 => ?_)))
     · refine qs (qr (oN 1 [(4, vb false)] [] ?_))
       refine oe (nt (qe (br (nr (nr ?_)))))
       have h53 := leafR hd33 h51 h29
       refine br (nr (nr ?_))
       obtain rfl := sI h53
       exact re [.bool false]
     refine qk (bn (nt (qr (oN 3 [(5, vi (w64 (s24 + 1)))] [0, 1] ?_))))
     exact oe (ct h52 () [5, 0, 1] [] 0)
   refine qx (nx (nx (bh ?_)))
   have h54 := leafB hd33 h39 h29
   exact mp ((), ()) h54 [] [] 0
 have h36 := (congrFun hk31 _).symm.trans h36p
 refine nt (qs (qr (oN 1 [(4, vb true)] [] ?_)))
 refine oe (nt (qe ?_))
 obtain rfl := sI h36
 exact re [.bool true]

theorem c_laws_eqMember {W : World} {x0 : Member} {b0 : AC × AC} {x1 : Member} {b1 : AC × AC} {r : Bool} (h : laws_eqMember x0 x1 = some r) (hv0_0 : SlView W x0.Spells b0.1.1 b0.1.2) (hv0_1 : SlView W x0.Events b0.2.1 b0.2.2) (hv1_0 : SlView W x1.Spells b1.1.1 b1.1.2) (hv1_1 : SlView W x1.Events b1.2.1 b1.2.2) :
    Gives0 Try.prog 29 #[vMember x0 b0, vMember x1 b1] W (.bool r) := by
 unfold laws_eqMember at h
 refine en Try.func29 Try.ntmps29 ?_
 refine qs (qr (oB 3 [(3, .p 1 0), (2, .p 0 0)] [] [(50, (eMember x0 b0)), (50, (eMember x1 b1))] ?_))
 refine oe (nt (qs (qs (qr (oN 5 [(9, vb (x0.Birth != x1.Birth))] [3, 2] ?_)))))
 refine oe (nt (cC h (fun h22 => ?_) (fun h23 => ?_)))
 · refine qs (qr (oN 1 [(4, vb false)] [] ?_))
   refine oe (nt (qe (nr ?_)))
   obtain rfl := sI h22
   exact re [.bool false]
 refine qk (nt (qs (qs (qr (oN 5 [(14, vb (x0.Joined != x1.Joined))] [3, 2] ?_)))))
 refine oe (nt (cC h23 (fun h25 => ?_) (fun h26 => ?_)))
 · refine qs (qr (oN 1 [(4, vb false)] [] ?_))
   refine oe (nt (qe (nr ?_)))
   obtain rfl := sI h25
   exact re [.bool false]
 refine qk (nt (qs (qs (qr (oN 4 [(18, .v (.slice b1.1.1 x1.Spells.length b1.1.2)), (16, .v (.slice b0.1.1 x0.Spells.length b0.1.2))] [3, 2] ?_)))))
 obtain ⟨t27, h28, h29⟩ := bS h26
 refine k0 (fun γ w hs => c_laws_eqSpellS h28 (hv0_0.kept hs.kept) (hv1_0.kept hs.kept)) ?_
 refine oN 1 [(20, vb (!t27))] [3, 2] ?_
 refine oe (nt (cC h29 (fun h32 => ?_) (fun h33 => ?_)))
 · refine qs (qr (oN 1 [(4, vb false)] [] ?_))
   refine oe (nt (qe (nr ?_)))
   obtain rfl := sI h32
   exact re [.bool false]
 refine qk (nt (qs (qs (qr (oN 4 [(24, .v (.slice b1.2.1 x1.Events.length b1.2.2)), (22, .v (.slice b0.2.1 x0.Events.length b0.2.2))] [] ?_)))))
 obtain ⟨t34, h35, h36⟩ := bS h33
 refine k0 (fun γ w hs => c_laws_eqEventS h35 (hv0_1.kept hs.kept) (hv1_1.kept hs.kept)) ?_
 refine oN 1 [(26, vb (!t34))] [] ?_
 refine oe (nt (cC h36 (fun h39 => ?_) (fun h40 => ?_)))
 · refine qs (qr (oN 1 [(4, vb false)] [] ?_))
   refine oe (nt (qe (nr ?_)))
   obtain rfl := sI h39
   exact re [.bool false]
 refine qk (nt (qs (qr (oN 1 [(4, vb true)] [] ?_))))
 refine oe (nt (qe ?_))
 obtain rfl := sI h40
 exact re [.bool true]

theorem c_laws_eqCase {W : World} {x0 : Case} {b0 : AC × AC × AC × AC × AC} {x1 : Case} {b1 : AC × AC × AC × AC × AC} {r : Bool} (h : laws_eqCase x0 x1 = some r) (hv0_0 : SlView W x0.Book.Rules b0.1.1 b0.1.2) (hv0_1 : SlView W x0.Store.Facts b0.2.1.1 b0.2.1.2) (hv0_2 : SlView W x0.Series.Points b0.2.2.1.1 b0.2.2.1.2) (hv0_3 : SlView W x0.Member.Spells b0.2.2.2.1.1 b0.2.2.2.1.2) (hv0_4 : SlView W x0.Member.Events b0.2.2.2.2.1 b0.2.2.2.2.2) (hv1_0 : SlView W x1.Book.Rules b1.1.1 b1.1.2) (hv1_1 : SlView W x1.Store.Facts b1.2.1.1 b1.2.1.2) (hv1_2 : SlView W x1.Series.Points b1.2.2.1.1 b1.2.2.1.2) (hv1_3 : SlView W x1.Member.Spells b1.2.2.2.1.1 b1.2.2.2.1.2) (hv1_4 : SlView W x1.Member.Events b1.2.2.2.2.1 b1.2.2.2.2.2) :
    Gives0 Try.prog 8 #[vCase x0 b0, vCase x1 b1] W (.bool r) := by
 unfold laws_eqCase at h
 refine en Try.func8 Try.ntmps8 ?_
 refine qs (qr (oB 3 [(3, .p 1 0), (2, .p 0 0)] [] [(52, (eCase x0 b0)), (52, (eCase x1 b1))] ?_))
 refine oe (nt (qs (qs (qr (oN 4 [(8, .v (vBook x1.Book b1.1)), (6, .v (vBook x0.Book b0.1))] [3, 2] ?_)))))
 obtain ⟨t21, h22, h23⟩ := bS h
 refine k0 (fun γ w hs => c_laws_eqBook h22 (hv0_0.kept hs.kept) (hv1_0.kept hs.kept)) ?_
 refine oN 1 [(10, vb (!t21))] [3, 2] ?_
 refine oe (nt (cC h23 (fun h26 => ?_) (fun h27 => ?_)))
 · refine qs (qr (oN 1 [(4, vb false)] [] ?_))
   refine oe (nt (qe (nr ?_)))
   obtain rfl := sI h26
   exact re [.bool false]
 refine qk (nt (qs (qs (qr (oN 4 [(14, .v (vStore x1.Store b1.2.1)), (12, .v (vStore x0.Store b0.2.1))] [3, 2] ?_)))))
 obtain ⟨t28, h29, h30⟩ := bS h27
 refine k0 (fun γ w hs => c_laws_eqStore h29 (hv0_1.kept hs.kept) (hv1_1.kept hs.kept)) ?_
 refine oN 1 [(16, vb (!t28))] [3, 2] ?_
 refine oe (nt (cC h30 (fun h33 => ?_) (fun h34 => ?_)))
 · refine qs (qr (oN 1 [(4, vb false)] [] ?_))
   refine oe (nt (qe (nr ?_)))
   obtain rfl := sI h33
   exact re [.bool false]
 refine qk (nt (qs (qs (qr (oN 4 [(20, .v (vSeries x1.Series b1.2.2.1)), (18, .v (vSeries x0.Series b0.2.2.1))] [3, 2] ?_)))))
 obtain ⟨t35, h36, h37⟩ := bS h34
 refine k0 (fun γ w hs => c_laws_eqSeries h36 (hv0_2.kept hs.kept) (hv1_2.kept hs.kept)) ?_
 refine oN 1 [(22, vb (!t35))] [3, 2] ?_
 refine oe (nt (cC h37 (fun h40 => ?_) (fun h41 => ?_)))
 · refine qs (qr (oN 1 [(4, vb false)] [] ?_))
   refine oe (nt (qe (nr ?_)))
   obtain rfl := sI h40
   exact re [.bool false]
 refine qk (nt (qs (qs (qr (oN 4 [(26, .v (vMember x1.Member b1.2.2.2)), (24, .v (vMember x0.Member b0.2.2.2))] [] ?_)))))
 obtain ⟨t42, h43, h44⟩ := bS h41
 refine k0 (fun γ w hs => c_laws_eqMember (b0 := b0.2.2.2) (b1 := b1.2.2.2) h43 (hv0_3.kept hs.kept) (hv0_4.kept hs.kept) (hv1_3.kept hs.kept) (hv1_4.kept hs.kept)) ?_
 refine oN 1 [(28, vb (!t42))] [] ?_
 refine oe (nt (cC h44 (fun h47 => ?_) (fun h48 => ?_)))
 · refine qs (qr (oN 1 [(4, vb false)] [] ?_))
   refine oe (nt (qe (nr ?_)))
   obtain rfl := sI h47
   exact re [.bool false]
 refine qk (nt (qs (qr (oN 1 [(4, vb true)] [] ?_))))
 refine oe (nt (qe ?_))
 obtain rfl := sI h48
 exact re [.bool true]

theorem c_laws_markNodeS {W : World} {x0 : List Node} {a0_0 : Option Addr} {c0_0 : Nat} {e0_0 : TypeId} {x1 : Int} {r : Int × (List Node)} (h : laws_markNodeS x0 x1 = some r)  :
    GivesM Try.prog 90 #[.slice a0_0 x0.length c0_0, .int .i64 x1] W [SlRes e0_0 x0 a0_0 c0_0] [SlRes e0_0 r.2 a0_0 c0_0] (.int .i64 r.1) := by
 unfold laws_markNodeS at h
 refine enM Try.func90 Try.ntmps90 (fun Fs => ?_)
 refine qs (qr (oN 1 [] [0, 1] ?_))
 refine oe (nt (qs (qs (qr (oN 1 [(5, vi 0)] [0, 1] ?_)))))
 refine oe (nt ?_)
 obtain ⟨r24, hL25, h26⟩ := bS h
 obtain ⟨k27, hk28, h26⟩ := brkS h26
 refine JC_cutP (τ := ((List Node) × Int) × (Unit)) (fun y => k27 y.1 = some r) (fun y32 => [(0, .v (.slice a0_0 y32.1.1.length c0_0)), (1, vi y32.1.2)]) (fun y32 => []) (fun y32 => [SlRes e0_0 y32.1.1 a0_0 c0_0]) ?_ (fun y32 h33p => ?_)
 · refine qb (lp Unit hL25 (fun s21 y22 => [(5, vi s21.1), (0, .v (.slice a0_0 s21.2.1.length c0_0)), (1, vi s21.2.2)]) (fun s21 y22 => []) (fun s21 y22 => [SlRes e0_0 s21.2.1 a0_0 c0_0]) () [5, 0, 1] [0] 0 (fun s21 y22 t23 h29 hd30 => ?_))
   refine qs (qs (qr (oN 4 [(9, vb (decide (s21.1 < (s21.2.1.length : Int))))] [5, 0, 1] ?_)))
   refine oe (nt (cC h29 (fun h35 => ?_) (fun h36 => ?_)))
   · refine qk (nt (qs (qb (qs (qr (oN 3 [(14, vi s21.2.2), (13, vi s21.1), (12, .v (.slice a0_0 s21.2.1.length c0_0))] [5, 0, 1] ?_))))))
     obtain ⟨x37, hx38, h39⟩ := bS h35
     refine oi 6 (fun γ w hs => (hs.view 0 rfl)) hx38 ?_
     refine oN 1 [(16, .q a0_0 (Int.toNat s21.1 * 6))] [14, 5, 0, 1] ?_
     obtain ⟨l40, hm41, h42⟩ := bS h39
     replace hm41 := (sI hm41).symm
     refine JO_storeq (α := Node) (d := a0_0) (vs := [.int .i64 s21.2.2]) (j := s21.1) (x' := (Node.mk s21.2.2 x37.A x37.B x37.C x37.Value)) rfl (by kernel_rfl) 0 (by kernel_rfl) hx38 (Rc := []) (Rr := []) rfl (by kernel_rfl) (fun w c F Fs ho _ _ => own_flat_set (by kernel_rfl) ho) hm41 rfl ?_
     have hl43 := len_set hm41
     refine JO_keep [14, 5, 0, 1] (sl' := [(14, vi s21.2.2), (5, vi s21.1), (0, .v (.slice a0_0 s21.2.1.length c0_0)), (1, vi s21.2.2)]) (by kernel_rfl) ?_
     refine JO_eqE (sl' := [(14, vi s21.2.2), (5, vi s21.1), (0, .v (.slice a0_0 l40.length c0_0)), (1, vi s21.2.2)]) (bx' := []) (by simp only [hl43]) rfl ?_
     refine oe (nt (qs (qr (oN 3 [(1, vi (w64 (s21.2.2 + 1)))] [5, 0] ?_))))
     refine oe (nt (qs (qr (oN 3 [(21, vi (w64 (s21.2.2 + 1))), (20, vi s21.1), (19, .v (.slice a0_0 l40.length c0_0))] [1, 5, 0] ?_))))
     obtain ⟨x44, hx45, h46⟩ := bS h42
     refine oi 6 (fun γ w hs => (hs.view 0 rfl)) hx45 ?_
     refine oN 1 [(23, .q a0_0 (Int.toNat s21.1 * 6 + 1))] [21, 1, 5, 0] ?_
     obtain ⟨l47, hm48, h49⟩ := bS h46
     replace hm48 := (sI hm48).symm
     refine JO_storeq (α := Node) (d := a0_0) (vs := [.int .i64 (w64 (s21.2.2 + 1))]) (j := s21.1) (x' := (Node.mk x44.Kind (w64 (s21.2.2 + 1)) x44.B x44.C x44.Value)) rfl (by kernel_rfl) 1 (by kernel_rfl) hx45 (Rc := []) (Rr := []) rfl (by kernel_rfl) (fun w c F Fs ho _ _ => own_flat_set (by kernel_rfl) ho) hm48 rfl ?_
     have hl50 := len_set hm48
     refine JO_keep [21, 1, 5, 0] (sl' := [(21, vi (w64 (s21.2.2 + 1))), (1, vi (w64 (s21.2.2 + 1))), (5, vi s21.1), (0, .v (.slice a0_0 l40.length c0_0))]) (by kernel_rfl) ?_
     refine JO_eqE (sl' := [(21, vi (w64 (s21.2.2 + 1))), (1, vi (w64 (s21.2.2 + 1))), (5, vi s21.1), (0, .v (.slice a0_0 l47.length c0_0))]) (bx' := []) (by simp only [hl50]) rfl ?_
     refine oe (nt (qs (qr (oN 3 [(1, vi (w64 ((w64 (s21.2.2 + 1)) + 1)))] [5, 0] ?_))))
     refine oe (nt (qs (qr (oN 3 [(28, vi (w64 ((w64 (s21.2.2 + 1)) + 1))), (27, vi s21.1), (26, .v (.slice a0_0 l47.length c0_0))] [1, 5, 0] ?_))))
     obtain ⟨x51, hx52, h53⟩ := bS h49
     refine oi 6 (fun γ w hs => (hs.view 0 rfl)) hx52 ?_
     refine oN 1 [(30, .q a0_0 (Int.toNat s21.1 * 6 + 2))] [28, 1, 5, 0] ?_
     obtain ⟨l54, hm55, h56⟩ := bS h53
     replace hm55 := (sI hm55).symm
     refine JO_storeq (α := Node) (d := a0_0) (vs := [.int .i64 (w64 ((w64 (s21.2.2 + 1)) + 1))]) (j := s21.1) (x' := (Node.mk x51.Kind x51.A (w64 ((w64 (s21.2.2 + 1)) + 1)) x51.C x51.Value)) rfl (by kernel_rfl) 2 (by kernel_rfl) hx52 (Rc := []) (Rr := []) rfl (by kernel_rfl) (fun w c F Fs ho _ _ => own_flat_set (by kernel_rfl) ho) hm55 rfl ?_
     have hl57 := len_set hm55
     refine JO_keep [28, 1, 5, 0] (sl' := [(28, vi (w64 ((w64 (s21.2.2 + 1)) + 1))), (1, vi (w64 ((w64 (s21.2.2 + 1)) + 1))), (5, vi s21.1), (0, .v (.slice a0_0 l47.length c0_0))]) (by kernel_rfl) ?_
     refine JO_eqE (sl' := [(28, vi (w64 ((w64 (s21.2.2 + 1)) + 1))), (1, vi (w64 ((w64 (s21.2.2 + 1)) + 1))), (5, vi s21.1), (0, .v (.slice a0_0 l54.length c0_0))]) (bx' := []) (by simp only [hl57]) rfl ?_
     refine oe (nt (qs (qr (oN 3 [(1, vi (w64 ((w64 ((w64 (s21.2.2 + 1)) + 1)) + 1)))] [5, 0] ?_))))
     refine oe (nt (qs (qr (oN 3 [(35, vi (w64 ((w64 ((w64 (s21.2.2 + 1)) + 1)) + 1))), (34, vi s21.1), (33, .v (.slice a0_0 l54.length c0_0))] [1, 5, 0] ?_))))
     obtain ⟨x58, hx59, h60⟩ := bS h56
     refine oi 6 (fun γ w hs => (hs.view 0 rfl)) hx59 ?_
     refine oN 1 [(37, .q a0_0 (Int.toNat s21.1 * 6 + 3))] [35, 1, 5, 0] ?_
     obtain ⟨l61, hm62, h63⟩ := bS h60
     replace hm62 := (sI hm62).symm
     refine JO_storeq (α := Node) (d := a0_0) (vs := [.int .i64 (w64 ((w64 ((w64 (s21.2.2 + 1)) + 1)) + 1))]) (j := s21.1) (x' := (Node.mk x58.Kind x58.A x58.B (w64 ((w64 ((w64 (s21.2.2 + 1)) + 1)) + 1)) x58.Value)) rfl (by kernel_rfl) 3 (by kernel_rfl) hx59 (Rc := []) (Rr := []) rfl (by kernel_rfl) (fun w c F Fs ho _ _ => own_flat_set (by kernel_rfl) ho) hm62 rfl ?_
     have hl64 := len_set hm62
     refine JO_keep [35, 1, 5, 0] (sl' := [(35, vi (w64 ((w64 ((w64 (s21.2.2 + 1)) + 1)) + 1))), (1, vi (w64 ((w64 ((w64 (s21.2.2 + 1)) + 1)) + 1))), (5, vi s21.1), (0, .v (.slice a0_0 l54.length c0_0))]) (by kernel_rfl) ?_
     refine JO_eqE (sl' := [(35, vi (w64 ((w64 ((w64 (s21.2.2 + 1)) + 1)) + 1))), (1, vi (w64 ((w64 ((w64 (s21.2.2 + 1)) + 1)) + 1))), (5, vi s21.1), (0, .v (.slice a0_0 l61.length c0_0))]) (bx' := []) (by simp only [hl64]) rfl ?_
     refine oe (nt (qs (qr (oN 3 [(1, vi (w64 ((w64 ((w64 ((w64 (s21.2.2 + 1)) + 1)) + 1)) + 1)))] [5, 0] ?_))))
     refine oe (nt (qs (qr (oN 3 [(42, vi (w64 ((w64 ((w64 ((w64 (s21.2.2 + 1)) + 1)) + 1)) + 1))), (41, vi s21.1), (40, .v (.slice a0_0 l61.length c0_0))] [1, 5, 0] ?_))))
     obtain ⟨x65, hx66, h67⟩ := bS h63
     refine oi 6 (fun γ w hs => (hs.view 0 rfl)) hx66 ?_
     refine oN 2 [(45, .q a0_0 (Int.toNat s21.1 * 6 + 4))] [42, 1, 5, 0] ?_
     obtain ⟨l68, hm69, h70⟩ := bS h67
     replace hm69 := (sI hm69).symm
     refine JO_storeq (α := Node) (d := a0_0) (vs := [.int .i64 (w64 ((w64 ((w64 ((w64 (s21.2.2 + 1)) + 1)) + 1)) + 1))]) (j := s21.1) (x' := (Node.mk x65.Kind x65.A x65.B x65.C (Frac.mk (w64 ((w64 ((w64 ((w64 (s21.2.2 + 1)) + 1)) + 1)) + 1)) x65.Value.Den))) rfl (by kernel_rfl) 4 (by kernel_rfl) hx66 (Rc := []) (Rr := []) rfl (by kernel_rfl) (fun w c F Fs ho _ _ => own_flat_set (by kernel_rfl) ho) hm69 rfl ?_
     have hl71 := len_set hm69
     refine JO_keep [42, 1, 5, 0] (sl' := [(42, vi (w64 ((w64 ((w64 ((w64 (s21.2.2 + 1)) + 1)) + 1)) + 1))), (1, vi (w64 ((w64 ((w64 ((w64 (s21.2.2 + 1)) + 1)) + 1)) + 1))), (5, vi s21.1), (0, .v (.slice a0_0 l61.length c0_0))]) (by kernel_rfl) ?_
     refine JO_eqE (sl' := [(42, vi (w64 ((w64 ((w64 ((w64 (s21.2.2 + 1)) + 1)) + 1)) + 1))), (1, vi (w64 ((w64 ((w64 ((w64 (s21.2.2 + 1)) + 1)) + 1)) + 1))), (5, vi s21.1), (0, .v (.slice a0_0 l68.length c0_0))]) (bx' := []) (by simp only [hl71]) rfl ?_
     refine oe (nt (qs (qr (oN 3 [(1, vi (w64 ((w64 ((w64 ((w64 ((w64 (s21.2.2 + 1)) + 1)) + 1)) + 1)) + 1)))] [5, 0] ?_))))
     refine oe (nt (qs (qr (oN 3 [(50, vi (w64 ((w64 ((w64 ((w64 ((w64 (s21.2.2 + 1)) + 1)) + 1)) + 1)) + 1))), (49, vi s21.1), (48, .v (.slice a0_0 l68.length c0_0))] [1, 5, 0] ?_))))
     obtain ⟨x72, hx73, h74⟩ := bS h70
     refine oi 6 (fun γ w hs => (hs.view 0 rfl)) hx73 ?_
     refine oN 2 [(53, .q a0_0 (Int.toNat s21.1 * 6 + 5))] [50, 1, 5, 0] ?_
     obtain ⟨l75, hm76, h77⟩ := bS h74
     replace hm76 := (sI hm76).symm
     refine JO_storeq (α := Node) (d := a0_0) (vs := [.int .i64 (w64 ((w64 ((w64 ((w64 ((w64 (s21.2.2 + 1)) + 1)) + 1)) + 1)) + 1))]) (j := s21.1) (x' := (Node.mk x72.Kind x72.A x72.B x72.C (Frac.mk x72.Value.Num (w64 ((w64 ((w64 ((w64 ((w64 (s21.2.2 + 1)) + 1)) + 1)) + 1)) + 1))))) rfl (by kernel_rfl) 5 (by kernel_rfl) hx73 (Rc := []) (Rr := []) rfl (by kernel_rfl) (fun w c F Fs ho _ _ => own_flat_set (by kernel_rfl) ho) hm76 rfl ?_
     have hl78 := len_set hm76
     refine JO_keep [50, 1, 5, 0] (sl' := [(50, vi (w64 ((w64 ((w64 ((w64 ((w64 (s21.2.2 + 1)) + 1)) + 1)) + 1)) + 1))), (1, vi (w64 ((w64 ((w64 ((w64 ((w64 (s21.2.2 + 1)) + 1)) + 1)) + 1)) + 1))), (5, vi s21.1), (0, .v (.slice a0_0 l68.length c0_0))]) (by kernel_rfl) ?_
     refine JO_eqE (sl' := [(50, vi (w64 ((w64 ((w64 ((w64 ((w64 (s21.2.2 + 1)) + 1)) + 1)) + 1)) + 1))), (1, vi (w64 ((w64 ((w64 ((w64 ((w64 (s21.2.2 + 1)) + 1)) + 1)) + 1)) + 1))), (5, vi s21.1), (0, .v (.slice a0_0 l75.length c0_0))]) (bx' := []) (by simp only [hl78]) rfl ?_
     refine oe (nt (qr (oN 3 [(1, vi (w64 ((w64 ((w64 ((w64 ((w64 ((w64 (s21.2.2 + 1)) + 1)) + 1)) + 1)) + 1)) + 1)))] [5, 0] ?_)))
     refine oe (bn (nt (qr (oN 3 [(5, vi (w64 (s21.1 + 1)))] [1, 0] ?_))))
     exact oe (ct h77 () [5, 0, 1] [0] 0)
   refine qx (nx (nx (bh ?_)))
   have h79 := leafB hd30 h36 h26
   exact mp ((s21.2.1, s21.2.2), ()) h79 [0, 1] [0] 0
 have h33 := (congrFun hk28 _).symm.trans h33p
 refine nt (qs (qr (oN 2 [(4, vi y32.1.2)] [0] ?_)))
 refine oe (nt (qe (rt [.int .i64 y32.1.2] (fun γ w hs => ?_))))
 rw [← sI h33]
 exact hs.turned (is := [0]) rfl
end Go.Pen
