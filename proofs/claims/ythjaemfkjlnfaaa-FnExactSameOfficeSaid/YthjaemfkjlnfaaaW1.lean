/-
  Each Go function does what its plain function says: written by a program of ours.
-/
import Derived.Test.YthjaemfkjlnfaaaF
import Derived.Test.YthjaemfkjlnfaaaProg
import Derived.Test.YthjaemfkjlnfaaaPenK
namespace Go.Pen
open Go.Proofs Go.RowKit
set_option linter.unusedVariables false
set_option linter.unusedSimpArgs false
set_option maxRecDepth 100000
set_option maxHeartbeats 4000000

theorem c_laws_szNodeS {W : World} {x0 : List Node} {a0_0 : Option Addr} {c0_0 : Nat} {x1 : Int} {r : Int} (h : laws_szNodeS x0 x1 = some r) (hv0_0 : SlView W x0 a0_0 c0_0) :
    Gives0 Try.prog 101 #[.slice a0_0 x0.length c0_0, .int .i64 x1] W (.int .i64 r) := by
 unfold laws_szNodeS at h
 refine en Try.func101 Try.ntmps101 ?_
 refine qs (qr (oN 1 [] [0, 1] ?_))
 refine oe (nt (qs (qr (oN 5 [(1, vi (w64 (x1 - (x0.length : Int))))] [] ?_))))
 refine oe (nt (qs (qs (qr (oN 2 [(10, vb (decide ((w64 (x1 - (x0.length : Int))) < 0)))] [1] ?_)))))
 refine oe (nt (cC h (fun h22 => ?_) (fun h23 => ?_)))
 · refine qs (qr (oN 1 [(4, vi (-1))] [] ?_))
   refine oe (nt (qe (nr ?_)))
   obtain rfl := sI h22
   exact re [.int .i64 (-1)]
 refine qk (nt (qs (qr (oN 2 [(4, vi (w64 (x1 - (x0.length : Int))))] [] ?_))))
 refine oe (nt (qe ?_))
 obtain rfl := sI h23
 exact re [.int .i64 (w64 (x1 - (x0.length : Int)))]

theorem c_laws_szRule {W : World} {x0 : Rule} {a0_0 : Option Addr} {c0_0 : Nat} {x1 : Int} {r : Int} (h : laws_szRule x0 x1 = some r) (hv0_0 : SlView W x0.Nodes a0_0 c0_0) :
    Gives0 Try.prog 84 #[vRule x0 (a0_0, c0_0), .int .i64 x1] W (.int .i64 r) := by
 unfold laws_szRule at h
 refine en Try.func84 Try.ntmps84 ?_
 refine qs (qr (oB 2 [(2, .p 0 0)] [1] [(133, (eRule x0 (a0_0, c0_0)))] ?_))
 refine oe (nt (qs (qr (oN 3 [(7, vi x1), (6, .v (.slice a0_0 x0.Nodes.length c0_0))] [] ?_))))
 obtain ⟨t21, h22, h23⟩ := bS h
 refine k0 (fun γ w hs => c_laws_szNodeS h22 (hv0_0.kept hs.kept)) ?_
 refine oN 1 [(1, vi t21)] [] ?_
 refine oe (nt (qs (qs (qr (oN 2 [(10, vb (decide (t21 < 0)))] [1] ?_)))))
 refine oe (nt (cC h23 (fun h26 => ?_) (fun h27 => ?_)))
 · refine qs (qr (oN 1 [(4, vi (-1))] [] ?_))
   refine oe (nt (qe (nr ?_)))
   obtain rfl := sI h26
   exact re [.int .i64 (-1)]
 refine qk (nt (qs (qr (oN 2 [(4, vi t21)] [] ?_))))
 refine oe (nt (qe ?_))
 obtain rfl := sI h27
 exact re [.int .i64 t21]

theorem c_laws_szRuleS {W : World} {x0 : List Rule} {a0_0 : Option Addr} {c0_0 : Nat} {x1 : Int} {r : Int} (h : laws_szRuleS x0 x1 = some r) (hv0_0 : SlView W x0 a0_0 c0_0) :
    Gives0 Try.prog 59 #[.slice a0_0 x0.length c0_0, .int .i64 x1] W (.int .i64 r) := by
 unfold laws_szRuleS at h
 refine en Try.func59 Try.ntmps59 ?_
 refine qs (qr (oN 1 [] [0, 1] ?_))
 refine oe (nt (qs (qr (oN 5 [(1, vi (w64 (x1 - (x0.length : Int))))] [0] ?_))))
 refine oe (nt (qs (qs (qr (oN 2 [(11, vb (decide ((w64 (x1 - (x0.length : Int))) < 0)))] [1, 0] ?_)))))
 refine oe (nt (cC h (fun h22 => ?_) (fun h23 => ?_)))
 · refine qs (qr (oN 1 [(4, vi (-1))] [] ?_))
   refine oe (nt (qe (nr ?_)))
   obtain rfl := sI h22
   exact re [.int .i64 (-1)]
 refine qk (nt (qs (qs (qr (oN 1 [(5, vi 0)] [1, 0] ?_)))))
 refine oe (nt ?_)
 obtain ⟨r27, hL28, h29⟩ := bS h23
 obtain ⟨k30, hk31, h29⟩ := brkS h29
 refine JC_cutP (τ := (Int) × (Unit)) (fun y => k30 y.1 = some r) (fun y35 => [(1, vi y35.1)]) (fun y35 => []) (fun y35 => []) ?_ (fun y35 h36p => ?_)
 · refine qb (lp Unit hL28 (fun s24 y25 => [(5, vi s24.1), (1, vi s24.2), (0, .v (.slice a0_0 x0.length c0_0))]) (fun s24 y25 => []) (fun s24 y25 => []) () [5, 1, 0] [] 0 (fun s24 y25 t26 h32 hd33 => ?_))
   refine qs (qs (qr (oN 4 [(15, vb (decide (s24.1 < (x0.length : Int))))] [5, 1, 0] ?_)))
   refine oe (nt (cC h32 (fun h38 => ?_) (fun h39 => ?_)))
   · refine qk (nt (qs (qb (qs (qr (oN 2 [(19, vi s24.1), (18, .v (.slice a0_0 x0.length c0_0))] [5, 1, 0] ?_))))))
     obtain ⟨x40, hx41, h42⟩ := bS h38
     refine oi 7 (fun γ w hs => (hv0_0.kept hs.kept)) hx41 ?_
     obtain ⟨_, ⟨a43, c44, rfl, hv45⟩, hc46⟩ := SlView.at hv0_0 (idx_some hx41).2.2
     refine ol 133 0 (vRule x40 (a43, c44)) (fun γ w hs => ⟨(hv0_0.kept hs.kept).ne (idx_some hx41).2.2, hc46.kept hs.kept⟩) ?_
     refine oN 1 [(22, vi s24.2)] [21, 5, 0] ?_
     obtain ⟨t47, h48, h49⟩ := bS h42
     refine k0 (fun γ w hs => c_laws_szRule h48 (hv45.kept hs.kept)) ?_
     refine oN 1 [(1, vi t47)] [5, 0] ?_
     refine oe (nt (qs (qr (oN 2 [(25, vb (decide (t47 < 0)))] [1, 5, 0] ?_))))
     refine oe (nt (cC h49 (fun h52 => ?_) (fun h53 => ?_)))
     · refine qs (qr (oN 1 [(4, vi (-1))] [] ?_))
       refine oe (nt (qe (br (nr (nr ?_)))))
       have h54 := leafR hd33 h52 h29
       refine br (nr (nr ?_))
       obtain rfl := sI h54
       exact re [.int .i64 (-1)]
     refine qk (bn (nt (qr (oN 3 [(5, vi (w64 (s24.1 + 1)))] [1, 0] ?_))))
     exact oe (ct h53 () [5, 1, 0] [] 0)
   refine qx (nx (nx (bh ?_)))
   have h55 := leafB hd33 h39 h29
   exact mp (s24.2, ()) h55 [1] [] 0
 have h36 := (congrFun hk31 _).symm.trans h36p
 refine nt (qs (qr (oN 2 [(4, vi y35.1)] [] ?_)))
 refine oe (nt (qe ?_))
 obtain rfl := sI h36
 exact re [.int .i64 y35.1]

theorem c_laws_szBook {W : World} {x0 : Book} {a0_0 : Option Addr} {c0_0 : Nat} {x1 : Int} {r : Int} (h : laws_szBook x0 x1 = some r) (hv0_0 : SlView W x0.Rules a0_0 c0_0) :
    Gives0 Try.prog 36 #[vBook x0 (a0_0, c0_0), .int .i64 x1] W (.int .i64 r) := by
 unfold laws_szBook at h
 refine en Try.func36 Try.ntmps36 ?_
 refine qs (qr (oB 2 [(2, .p 0 0)] [1] [(24, (eBook x0 (a0_0, c0_0)))] ?_))
 refine oe (nt (qs (qr (oN 3 [(7, vi x1), (6, .v (.slice a0_0 x0.Rules.length c0_0))] [] ?_))))
 obtain ⟨t21, h22, h23⟩ := bS h
 refine k0 (fun γ w hs => c_laws_szRuleS h22 (hv0_0.kept hs.kept)) ?_
 refine oN 1 [(1, vi t21)] [] ?_
 refine oe (nt (qs (qs (qr (oN 2 [(10, vb (decide (t21 < 0)))] [1] ?_)))))
 refine oe (nt (cC h23 (fun h26 => ?_) (fun h27 => ?_)))
 · refine qs (qr (oN 1 [(4, vi (-1))] [] ?_))
   refine oe (nt (qe (nr ?_)))
   obtain rfl := sI h26
   exact re [.int .i64 (-1)]
 refine qk (nt (qs (qr (oN 2 [(4, vi t21)] [] ?_))))
 refine oe (nt (qe ?_))
 obtain rfl := sI h27
 exact re [.int .i64 t21]

theorem c_laws_szFactS {W : World} {x0 : List Fact} {a0_0 : Option Addr} {c0_0 : Nat} {x1 : Int} {r : Int} (h : laws_szFactS x0 x1 = some r) (hv0_0 : SlView W x0 a0_0 c0_0) :
    Gives0 Try.prog 60 #[.slice a0_0 x0.length c0_0, .int .i64 x1] W (.int .i64 r) := by
 unfold laws_szFactS at h
 refine en Try.func60 Try.ntmps60 ?_
 refine qs (qr (oN 1 [] [0, 1] ?_))
 refine oe (nt (qs (qr (oN 5 [(1, vi (w64 (x1 - (x0.length : Int))))] [] ?_))))
 refine oe (nt (qs (qs (qr (oN 2 [(10, vb (decide ((w64 (x1 - (x0.length : Int))) < 0)))] [1] ?_)))))
 refine oe (nt (cC h (fun h22 => ?_) (fun h23 => ?_)))
 · refine qs (qr (oN 1 [(4, vi (-1))] [] ?_))
   refine oe (nt (qe (nr ?_)))
   obtain rfl := sI h22
   exact re [.int .i64 (-1)]
 refine qk (nt (qs (qr (oN 2 [(4, vi (w64 (x1 - (x0.length : Int))))] [] ?_))))
 refine oe (nt (qe ?_))
 obtain rfl := sI h23
 exact re [.int .i64 (w64 (x1 - (x0.length : Int)))]

theorem c_laws_szStore {W : World} {x0 : Store} {a0_0 : Option Addr} {c0_0 : Nat} {x1 : Int} {r : Int} (h : laws_szStore x0 x1 = some r) (hv0_0 : SlView W x0.Facts a0_0 c0_0) :
    Gives0 Try.prog 37 #[vStore x0 (a0_0, c0_0), .int .i64 x1] W (.int .i64 r) := by
 unfold laws_szStore at h
 refine en Try.func37 Try.ntmps37 ?_
 refine qs (qr (oB 2 [(2, .p 0 0)] [1] [(27, (eStore x0 (a0_0, c0_0)))] ?_))
 refine oe (nt (qs (qr (oN 3 [(7, vi x1), (6, .v (.slice a0_0 x0.Facts.length c0_0))] [] ?_))))
 obtain ⟨t21, h22, h23⟩ := bS h
 refine k0 (fun γ w hs => c_laws_szFactS h22 (hv0_0.kept hs.kept)) ?_
 refine oN 1 [(1, vi t21)] [] ?_
 refine oe (nt (qs (qs (qr (oN 2 [(10, vb (decide (t21 < 0)))] [1] ?_)))))
 refine oe (nt (cC h23 (fun h26 => ?_) (fun h27 => ?_)))
 · refine qs (qr (oN 1 [(4, vi (-1))] [] ?_))
   refine oe (nt (qe (nr ?_)))
   obtain rfl := sI h26
   exact re [.int .i64 (-1)]
 refine qk (nt (qs (qr (oN 2 [(4, vi t21)] [] ?_))))
 refine oe (nt (qe ?_))
 obtain rfl := sI h27
 exact re [.int .i64 t21]

theorem c_laws_szPointS {W : World} {x0 : List Point} {a0_0 : Option Addr} {c0_0 : Nat} {x1 : Int} {r : Int} (h : laws_szPointS x0 x1 = some r) (hv0_0 : SlView W x0 a0_0 c0_0) :
    Gives0 Try.prog 61 #[.slice a0_0 x0.length c0_0, .int .i64 x1] W (.int .i64 r) := by
 unfold laws_szPointS at h
 refine en Try.func61 Try.ntmps61 ?_
 refine qs (qr (oN 1 [] [0, 1] ?_))
 refine oe (nt (qs (qr (oN 5 [(1, vi (w64 (x1 - (x0.length : Int))))] [] ?_))))
 refine oe (nt (qs (qs (qr (oN 2 [(10, vb (decide ((w64 (x1 - (x0.length : Int))) < 0)))] [1] ?_)))))
 refine oe (nt (cC h (fun h22 => ?_) (fun h23 => ?_)))
 · refine qs (qr (oN 1 [(4, vi (-1))] [] ?_))
   refine oe (nt (qe (nr ?_)))
   obtain rfl := sI h22
   exact re [.int .i64 (-1)]
 refine qk (nt (qs (qr (oN 2 [(4, vi (w64 (x1 - (x0.length : Int))))] [] ?_))))
 refine oe (nt (qe ?_))
 obtain rfl := sI h23
 exact re [.int .i64 (w64 (x1 - (x0.length : Int)))]

theorem c_laws_szSeries {W : World} {x0 : Series} {a0_0 : Option Addr} {c0_0 : Nat} {x1 : Int} {r : Int} (h : laws_szSeries x0 x1 = some r) (hv0_0 : SlView W x0.Points a0_0 c0_0) :
    Gives0 Try.prog 38 #[vSeries x0 (a0_0, c0_0), .int .i64 x1] W (.int .i64 r) := by
 unfold laws_szSeries at h
 refine en Try.func38 Try.ntmps38 ?_
 refine qs (qr (oB 2 [(2, .p 0 0)] [1] [(30, (eSeries x0 (a0_0, c0_0)))] ?_))
 refine oe (nt (qs (qr (oN 3 [(7, vi x1), (6, .v (.slice a0_0 x0.Points.length c0_0))] [] ?_))))
 obtain ⟨t21, h22, h23⟩ := bS h
 refine k0 (fun γ w hs => c_laws_szPointS h22 (hv0_0.kept hs.kept)) ?_
 refine oN 1 [(1, vi t21)] [] ?_
 refine oe (nt (qs (qs (qr (oN 2 [(10, vb (decide (t21 < 0)))] [1] ?_)))))
 refine oe (nt (cC h23 (fun h26 => ?_) (fun h27 => ?_)))
 · refine qs (qr (oN 1 [(4, vi (-1))] [] ?_))
   refine oe (nt (qe (nr ?_)))
   obtain rfl := sI h26
   exact re [.int .i64 (-1)]
 refine qk (nt (qs (qr (oN 2 [(4, vi t21)] [] ?_))))
 refine oe (nt (qe ?_))
 obtain rfl := sI h27
 exact re [.int .i64 t21]

theorem c_laws_szSpellS {W : World} {x0 : List Spell} {a0_0 : Option Addr} {c0_0 : Nat} {x1 : Int} {r : Int} (h : laws_szSpellS x0 x1 = some r) (hv0_0 : SlView W x0 a0_0 c0_0) :
    Gives0 Try.prog 62 #[.slice a0_0 x0.length c0_0, .int .i64 x1] W (.int .i64 r) := by
 unfold laws_szSpellS at h
 refine en Try.func62 Try.ntmps62 ?_
 refine qs (qr (oN 1 [] [0, 1] ?_))
 refine oe (nt (qs (qr (oN 5 [(1, vi (w64 (x1 - (x0.length : Int))))] [] ?_))))
 refine oe (nt (qs (qs (qr (oN 2 [(10, vb (decide ((w64 (x1 - (x0.length : Int))) < 0)))] [1] ?_)))))
 refine oe (nt (cC h (fun h22 => ?_) (fun h23 => ?_)))
 · refine qs (qr (oN 1 [(4, vi (-1))] [] ?_))
   refine oe (nt (qe (nr ?_)))
   obtain rfl := sI h22
   exact re [.int .i64 (-1)]
 refine qk (nt (qs (qr (oN 2 [(4, vi (w64 (x1 - (x0.length : Int))))] [] ?_))))
 refine oe (nt (qe ?_))
 obtain rfl := sI h23
 exact re [.int .i64 (w64 (x1 - (x0.length : Int)))]

theorem c_laws_szEventS {W : World} {x0 : List Event} {a0_0 : Option Addr} {c0_0 : Nat} {x1 : Int} {r : Int} (h : laws_szEventS x0 x1 = some r) (hv0_0 : SlView W x0 a0_0 c0_0) :
    Gives0 Try.prog 63 #[.slice a0_0 x0.length c0_0, .int .i64 x1] W (.int .i64 r) := by
 unfold laws_szEventS at h
 refine en Try.func63 Try.ntmps63 ?_
 refine qs (qr (oN 1 [] [0, 1] ?_))
 refine oe (nt (qs (qr (oN 5 [(1, vi (w64 (x1 - (x0.length : Int))))] [] ?_))))
 refine oe (nt (qs (qs (qr (oN 2 [(10, vb (decide ((w64 (x1 - (x0.length : Int))) < 0)))] [1] ?_)))))
 refine oe (nt (cC h (fun h22 => ?_) (fun h23 => ?_)))
 · refine qs (qr (oN 1 [(4, vi (-1))] [] ?_))
   refine oe (nt (qe (nr ?_)))
   obtain rfl := sI h22
   exact re [.int .i64 (-1)]
 refine qk (nt (qs (qr (oN 2 [(4, vi (w64 (x1 - (x0.length : Int))))] [] ?_))))
 refine oe (nt (qe ?_))
 obtain rfl := sI h23
 exact re [.int .i64 (w64 (x1 - (x0.length : Int)))]

theorem c_laws_szMember {W : World} {x0 : Member} {b0 : AC × AC} {x1 : Int} {r : Int} (h : laws_szMember x0 x1 = some r) (hv0_0 : SlView W x0.Spells b0.1.1 b0.1.2) (hv0_1 : SlView W x0.Events b0.2.1 b0.2.2) :
    Gives0 Try.prog 39 #[vMember x0 b0, .int .i64 x1] W (.int .i64 r) := by
 unfold laws_szMember at h
 refine en Try.func39 Try.ntmps39 ?_
 refine qs (qr (oB 2 [(2, .p 0 0)] [1] [(34, (eMember x0 b0))] ?_))
 refine oe (nt (qs (qr (oN 3 [(7, vi x1), (6, .v (.slice b0.1.1 x0.Spells.length b0.1.2))] [2] ?_))))
 obtain ⟨t21, h22, h23⟩ := bS h
 refine k0 (fun γ w hs => c_laws_szSpellS h22 (hv0_0.kept hs.kept)) ?_
 refine oN 1 [(1, vi t21)] [2] ?_
 refine oe (nt (qs (qs (qr (oN 2 [(10, vb (decide (t21 < 0)))] [1, 2] ?_)))))
 refine oe (nt (cC h23 (fun h26 => ?_) (fun h27 => ?_)))
 · refine qs (qr (oN 1 [(4, vi (-1))] [] ?_))
   refine oe (nt (qe (nr ?_)))
   obtain rfl := sI h26
   exact re [.int .i64 (-1)]
 refine qk (nt (qs (qr (oN 3 [(13, vi t21), (12, .v (.slice b0.2.1 x0.Events.length b0.2.2))] [] ?_))))
 obtain ⟨t28, h29, h30⟩ := bS h27
 refine k0 (fun γ w hs => c_laws_szEventS h29 (hv0_1.kept hs.kept)) ?_
 refine oN 1 [(1, vi t28)] [] ?_
 refine oe (nt (qs (qs (qr (oN 2 [(16, vb (decide (t28 < 0)))] [1] ?_)))))
 refine oe (nt (cC h30 (fun h33 => ?_) (fun h34 => ?_)))
 · refine qs (qr (oN 1 [(4, vi (-1))] [] ?_))
   refine oe (nt (qe (nr ?_)))
   obtain rfl := sI h33
   exact re [.int .i64 (-1)]
 refine qk (nt (qs (qr (oN 2 [(4, vi t28)] [] ?_))))
 refine oe (nt (qe ?_))
 obtain rfl := sI h34
 exact re [.int .i64 t28]

theorem c_laws_szCase {W : World} {x0 : Case} {b0 : AC × AC × AC × AC × AC} {x1 : Int} {r : Int} (h : laws_szCase x0 x1 = some r) (hv0_0 : SlView W x0.Book.Rules b0.1.1 b0.1.2) (hv0_1 : SlView W x0.Store.Facts b0.2.1.1 b0.2.1.2) (hv0_2 : SlView W x0.Series.Points b0.2.2.1.1 b0.2.2.1.2) (hv0_3 : SlView W x0.Member.Spells b0.2.2.2.1.1 b0.2.2.2.1.2) (hv0_4 : SlView W x0.Member.Events b0.2.2.2.2.1 b0.2.2.2.2.2) :
    Gives0 Try.prog 12 #[vCase x0 b0, .int .i64 x1] W (.int .i64 r) := by
 unfold laws_szCase at h
 refine en Try.func12 Try.ntmps12 ?_
 refine qs (qr (oB 2 [(2, .p 0 0)] [1] [(36, (eCase x0 b0))] ?_))
 refine oe (nt (qs (qr (oN 3 [(7, vi x1), (6, .v (vBook x0.Book b0.1))] [2] ?_))))
 obtain ⟨t21, h22, h23⟩ := bS h
 refine k0 (fun γ w hs => c_laws_szBook h22 (hv0_0.kept hs.kept)) ?_
 refine oN 1 [(1, vi t21)] [2] ?_
 refine oe (nt (qs (qs (qr (oN 2 [(10, vb (decide (t21 < 0)))] [1, 2] ?_)))))
 refine oe (nt (cC h23 (fun h26 => ?_) (fun h27 => ?_)))
 · refine qs (qr (oN 1 [(4, vi (-1))] [] ?_))
   refine oe (nt (qe (nr ?_)))
   obtain rfl := sI h26
   exact re [.int .i64 (-1)]
 refine qk (nt (qs (qr (oN 3 [(13, vi t21), (12, .v (vStore x0.Store b0.2.1))] [2] ?_))))
 obtain ⟨t28, h29, h30⟩ := bS h27
 refine k0 (fun γ w hs => c_laws_szStore h29 (hv0_1.kept hs.kept)) ?_
 refine oN 1 [(1, vi t28)] [2] ?_
 refine oe (nt (qs (qs (qr (oN 2 [(16, vb (decide (t28 < 0)))] [1, 2] ?_)))))
 refine oe (nt (cC h30 (fun h33 => ?_) (fun h34 => ?_)))
 · refine qs (qr (oN 1 [(4, vi (-1))] [] ?_))
   refine oe (nt (qe (nr ?_)))
   obtain rfl := sI h33
   exact re [.int .i64 (-1)]
 refine qk (nt (qs (qr (oN 3 [(19, vi t28), (18, .v (vSeries x0.Series b0.2.2.1))] [2] ?_))))
 obtain ⟨t35, h36, h37⟩ := bS h34
 refine k0 (fun γ w hs => c_laws_szSeries h36 (hv0_2.kept hs.kept)) ?_
 refine oN 1 [(1, vi t35)] [2] ?_
 refine oe (nt (qs (qs (qr (oN 2 [(22, vb (decide (t35 < 0)))] [1, 2] ?_)))))
 refine oe (nt (cC h37 (fun h40 => ?_) (fun h41 => ?_)))
 · refine qs (qr (oN 1 [(4, vi (-1))] [] ?_))
   refine oe (nt (qe (nr ?_)))
   obtain rfl := sI h40
   exact re [.int .i64 (-1)]
 refine qk (nt (qs (qr (oN 3 [(25, vi t35), (24, .v (vMember x0.Member b0.2.2.2))] [] ?_))))
 obtain ⟨t42, h43, h44⟩ := bS h41
 refine k0 (fun γ w hs => c_laws_szMember (b0 := b0.2.2.2) h43 (hv0_3.kept hs.kept) (hv0_4.kept hs.kept)) ?_
 refine oN 1 [(1, vi t42)] [] ?_
 refine oe (nt (qs (qs (qr (oN 2 [(28, vb (decide (t42 < 0)))] [1] ?_)))))
 refine oe (nt (cC h44 (fun h47 => ?_) (fun h48 => ?_)))
 · refine qs (qr (oN 1 [(4, vi (-1))] [] ?_))
   refine oe (nt (qe (nr ?_)))
   obtain rfl := sI h47
   exact re [.int .i64 (-1)]
 refine qk (nt (qs (qr (oN 2 [(4, vi t42)] [] ?_))))
 refine oe (nt (qe ?_))
 obtain rfl := sI h48
 exact re [.int .i64 t42]

theorem c_laws_szIntS {W : World} {x0 : List Int} {a0_0 : Option Addr} {c0_0 : Nat} {x1 : Int} {r : Int} (h : laws_szIntS x0 x1 = some r) (hv0_0 : SlView W x0 a0_0 c0_0) :
    Gives0 Try.prog 13 #[.slice a0_0 x0.length c0_0, .int .i64 x1] W (.int .i64 r) := by
 unfold laws_szIntS at h
 refine en Try.func13 Try.ntmps13 ?_
 refine qs (qr (oN 1 [] [0, 1] ?_))
 refine oe (nt (qs (qr (oN 5 [(1, vi (w64 (x1 - (x0.length : Int))))] [] ?_))))
 refine oe (nt (qs (qs (qr (oN 2 [(10, vb (decide ((w64 (x1 - (x0.length : Int))) < 0)))] [1] ?_)))))
 refine oe (nt (cC h (fun h22 => ?_) (fun h23 => ?_)))
 · refine qs (qr (oN 1 [(4, vi (-1))] [] ?_))
   refine oe (nt (qe (nr ?_)))
   obtain rfl := sI h22
   exact re [.int .i64 (-1)]
 refine qk (nt (qs (qr (oN 2 [(4, vi (w64 (x1 - (x0.length : Int))))] [] ?_))))
 refine oe (nt (qe ?_))
 obtain rfl := sI h23
 exact re [.int .i64 (w64 (x1 - (x0.length : Int)))]

theorem c_laws_szOffice {W : World} {x0 : Office} {b0 : AC × AC × AC × AC × AC × AC} {x1 : Int} {r : Int} (h : laws_szOffice x0 x1 = some r) (hv0_0 : SlView W x0.Case.Book.Rules b0.1.1 b0.1.2) (hv0_1 : SlView W x0.Case.Store.Facts b0.2.1.1 b0.2.1.2) (hv0_2 : SlView W x0.Case.Series.Points b0.2.2.1.1 b0.2.2.1.2) (hv0_3 : SlView W x0.Case.Member.Spells b0.2.2.2.1.1 b0.2.2.2.1.2) (hv0_4 : SlView W x0.Case.Member.Events b0.2.2.2.2.1.1 b0.2.2.2.2.1.2) (hv0_5 : SlView W x0.Paid b0.2.2.2.2.2.1 b0.2.2.2.2.2.2) :
    Gives0 Try.prog 5 #[vOffice x0 b0, .int .i64 x1] W (.int .i64 r) := by
 unfold laws_szOffice at h
 refine en Try.func5 Try.ntmps5 ?_
 refine qs (qr (oB 2 [(2, .p 0 0)] [1] [(39, (eOffice x0 b0))] ?_))
 refine oe (nt (qs (qr (oN 3 [(7, vi x1), (6, .v (vCase x0.Case (b0.1, b0.2.1, b0.2.2.1, b0.2.2.2.1, b0.2.2.2.2.1)))] [2] ?_))))
 obtain ⟨t21, h22, h23⟩ := bS h
 refine k0 (fun γ w hs => c_laws_szCase (b0 := (b0.1, b0.2.1, b0.2.2.1, b0.2.2.2.1, b0.2.2.2.2.1)) h22 (hv0_0.kept hs.kept) (hv0_1.kept hs.kept) (hv0_2.kept hs.kept) (hv0_3.kept hs.kept) (hv0_4.kept hs.kept)) ?_
 refine oN 1 [(1, vi t21)] [2] ?_
 refine oe (nt (qs (qs (qr (oN 2 [(10, vb (decide (t21 < 0)))] [1, 2] ?_)))))
 refine oe (nt (cC h23 (fun h26 => ?_) (fun h27 => ?_)))
 · refine qs (qr (oN 1 [(4, vi (-1))] [] ?_))
   refine oe (nt (qe (nr ?_)))
   obtain rfl := sI h26
   exact re [.int .i64 (-1)]
 refine qk (nt (qs (qr (oN 3 [(13, vi t21), (12, .v (.slice b0.2.2.2.2.2.1 x0.Paid.length b0.2.2.2.2.2.2))] [] ?_))))
 obtain ⟨t28, h29, h30⟩ := bS h27
 refine k0 (fun γ w hs => c_laws_szIntS h29 (hv0_5.kept hs.kept)) ?_
 refine oN 1 [(1, vi t28)] [] ?_
 refine oe (nt (qs (qs (qr (oN 2 [(16, vb (decide (t28 < 0)))] [1] ?_)))))
 refine oe (nt (cC h30 (fun h33 => ?_) (fun h34 => ?_)))
 · refine qs (qr (oN 1 [(4, vi (-1))] [] ?_))
   refine oe (nt (qe (nr ?_)))
   obtain rfl := sI h33
   exact re [.int .i64 (-1)]
 refine qk (nt (qs (qr (oN 2 [(4, vi t28)] [] ?_))))
 refine oe (nt (qe ?_))
 obtain rfl := sI h34
 exact re [.int .i64 t28]

theorem c_laws_toFrac {W : World} {x0 : Frac} {r : Frac} (h : laws_toFrac x0 = some r)  :
    Gives0 Try.prog 114 #[vFrac x0] W (vFrac r) := by
 unfold laws_toFrac at h
 refine en Try.func114 Try.ntmps114 ?_
 refine qs (qr (oB 2 [(2, .p 1 0), (1, .p 0 0)] [] [(156, (eFrac x0)), (81, (eFrac (Frac.mk 0 0)))] ?_))
 refine oe (nt (qs (qr (oB 1 [(3, .p 2 0)] [2, 1] [(156, (eFrac x0)), (81, (eFrac (Frac.mk 0 0))), (81, (eFrac (Frac.mk 0 0)))] ?_))))
 refine oe (nt (qs (qr (oB 4 [] [3, 2, 1] [(156, (eFrac x0)), (81, (eFrac (Frac.mk 0 0))), (81, (eFrac (Frac.mk x0.Num 0)))] ?_))))
 refine oe (nt (qs (qr (oB 4 [] [3, 2] [(156, (eFrac x0)), (81, (eFrac (Frac.mk 0 0))), (81, (eFrac x0))] ?_))))
 refine oe (nt (qs (qr (oB 2 [] [2] [(156, (eFrac x0)), (81, (eFrac x0)), (81, (eFrac x0))] ?_))))
 refine oe (nt (qe ?_))
 obtain rfl := sI h
 exact re [vFrac x0]

theorem c_laws_toNode {W : World} {x0 : Node} {r : Node} (h : laws_toNode x0 = some r)  :
    Gives0 Try.prog 109 #[vNode x0] W (vNode r) := by
 unfold laws_toNode at h
 refine en Try.func109 Try.ntmps109 ?_
 refine qs (qr (oB 2 [(2, .p 1 0), (1, .p 0 0)] [] [(158, (eNode x0)), (83, (eNode (Node.mk 0 0 0 0 (Frac.mk 0 0))))] ?_))
 refine oe (nt (qs (qr (oB 1 [(3, .p 2 0)] [2, 1] [(158, (eNode x0)), (83, (eNode (Node.mk 0 0 0 0 (Frac.mk 0 0)))), (83, (eNode (Node.mk 0 0 0 0 (Frac.mk 0 0))))] ?_))))
 refine oe (nt (qs (qr (oB 4 [] [3, 2, 1] [(158, (eNode x0)), (83, (eNode (Node.mk 0 0 0 0 (Frac.mk 0 0)))), (83, (eNode (Node.mk x0.Kind 0 0 0 (Frac.mk 0 0))))] ?_))))
 refine oe (nt (qs (qr (oB 4 [] [3, 2, 1] [(158, (eNode x0)), (83, (eNode (Node.mk 0 0 0 0 (Frac.mk 0 0)))), (83, (eNode (Node.mk x0.Kind x0.A 0 0 (Frac.mk 0 0))))] ?_))))
 refine oe (nt (qs (qr (oB 4 [] [3, 2, 1] [(158, (eNode x0)), (83, (eNode (Node.mk 0 0 0 0 (Frac.mk 0 0)))), (83, (eNode (Node.mk x0.Kind x0.A x0.B 0 (Frac.mk 0 0))))] ?_))))
 refine oe (nt (qs (qr (oB 4 [] [3, 2, 1] [(158, (eNode x0)), (83, (eNode (Node.mk 0 0 0 0 (Frac.mk 0 0)))), (83, (eNode (Node.mk x0.Kind x0.A x0.B x0.C (Frac.mk 0 0))))] ?_))))
 refine oe (nt (qs (qr (oN 2 [(17, .v (vFrac x0.Value))] [3, 2] ?_))))
 obtain ⟨t21, h22, h23⟩ := bS h
 refine k0 (fun γ w hs => c_laws_toFrac h22) ?_
 refine oB 2 [] [3, 2] [(158, (eNode x0)), (83, (eNode (Node.mk 0 0 0 0 (Frac.mk 0 0)))), (83, (eNode (Node.mk x0.Kind x0.A x0.B x0.C t21)))] ?_
 refine oe (nt (qs (qr (oB 2 [] [2] [(158, (eNode x0)), (83, (eNode (Node.mk x0.Kind x0.A x0.B x0.C t21))), (83, (eNode (Node.mk x0.Kind x0.A x0.B x0.C t21)))] ?_))))
 refine oe (nt (qe ?_))
 obtain rfl := sI h23
 exact re [vNode (Node.mk x0.Kind x0.A x0.B x0.C t21)]

theorem c_laws_toNodeS {W : World} {x0 : List Node} {a0_0 : Option Addr} {c0_0 : Nat} {r : (List Node)} (h : laws_toNodeS x0 = some r) (hv0_0 : SlView W x0 a0_0 c0_0) :
    Gives Try.prog 103 #[.slice a0_0 x0.length c0_0] W (fun y : AC => .slice y.1 r.length y.2) (fun y => [SlRes 83 r y.1 y.2]) := by
 unfold laws_toNodeS at h
 refine en Try.func103 Try.ntmps103 ?_
 refine qs (qr (oN 1 [] [0] ?_))
 refine oe (nt (qs (qr (oN 2 [(6, vi (x0.length : Int))] [0] ?_))))
 obtain ⟨l22, hm23, h24⟩ := bS h
 refine JO_make (α := Node) rfl (by kernel_rfl) (t := 76) (e := 83) (m := (x0.length : Int)) (by kernel_rfl) (i := Try.t83) (by kernel_rfl) (z := (vNode (Node.mk 0 0 0 0 (Frac.mk 0 0)))) (by kernel_rfl) (by kernel_rfl) (by kernel_rfl) (by kernel_rfl) (fun w => ⟨rfl, rfl⟩) hm23 _ (fun _ => rfl) (fun y21 => ?_)
 refine oN 1 [(3, .v (.slice y21.1 l22.length y21.2))] [0] ?_
 refine oe (nt (qs (qs (qr (oN 1 [(4, vi 0)] [3, 0] ?_)))))
 refine oe (nt ?_)
 obtain ⟨r28, hL29, h30⟩ := bS h24
 obtain ⟨k31, hk32, h30⟩ := brkS h30
 refine JC_cutP (τ := ((List Node)) × (Unit)) (fun y => k31 y.1 = some r) (fun y36 => [(3, .v (.slice y21.1 y36.1.length y21.2))]) (fun y36 => []) (fun y36 => [SlRes 83 y36.1 y21.1 y21.2]) ?_ (fun y36 h37p => ?_)
 · refine qb (lp Unit hL29 (fun s25 y26 => [(4, vi s25.1), (3, .v (.slice y21.1 s25.2.length y21.2)), (0, .v (.slice a0_0 x0.length c0_0))]) (fun s25 y26 => []) (fun s25 y26 => [SlRes 83 s25.2 y21.1 y21.2]) () [4, 3, 0] [0] 0 (fun s25 y26 t27 h33 hd34 => ?_))
   refine qs (qs (qr (oN 4 [(11, vb (decide (s25.1 < (x0.length : Int))))] [4, 3, 0] ?_)))
   refine oe (nt (cC h33 (fun h39 => ?_) (fun h40 => ?_)))
   · refine qk (nt (qs (qb (qr (oN 4 [(17, vi s25.1), (16, .v (.slice a0_0 x0.length c0_0)), (15, vi s25.1), (14, .v (.slice y21.1 s25.2.length y21.2))] [4, 3, 0] ?_)))))
     obtain ⟨x41, hx42, h43⟩ := bS h39
     refine oi 6 (fun γ w hs => (hv0_0.kept hs.kept)) hx42 ?_
     refine ol 158 0 (vNode x41) (fun γ w hs => (hv0_0.kept hs.kept).flatq hx42) ?_
     obtain ⟨t44, h45, h46⟩ := bS h43
     refine k0 (fun γ w hs => c_laws_toNode h45) ?_
     obtain ⟨x48, hx49, h50⟩ := bS h46
     refine oi 6 (fun γ w hs => (hs.view 0 rfl)) hx49 ?_
     obtain ⟨l51, hm52, h53⟩ := bS h50
     replace hm52 := (sI hm52).symm
     refine JO_storeq (α := Node) (d := y21.1) (vs := [.int .i64 t44.Kind, .int .i64 t44.A, .int .i64 t44.B, .int .i64 t44.C, .int .i64 t44.Value.Num, .int .i64 t44.Value.Den]) (j := s25.1) (x' := t44) rfl (by kernel_rfl) 0 (by kernel_rfl) hx49 (Rc := []) (Rr := []) rfl (by kernel_rfl) (fun w c F Fs ho _ _ => own_flat_set (by kernel_rfl) ho) hm52 rfl ?_
     have hl54 := len_set hm52
     refine JO_keep [20, 19, 18, 17, 16, 15, 14, 4, 3, 0] (sl' := [(20, .v (vNode t44)), (19, .v (vNode x41)), (18, .q a0_0 (Int.toNat s25.1 * 6)), (17, vi s25.1), (16, .v (.slice a0_0 x0.length c0_0)), (15, vi s25.1), (14, .v (.slice y21.1 s25.2.length y21.2)), (4, vi s25.1), (3, .v (.slice y21.1 s25.2.length y21.2)), (0, .v (.slice a0_0 x0.length c0_0))]) (by kernel_rfl) ?_
     refine JO_eqE (sl' := [(20, .v (vNode t44)), (19, .v (vNode x41)), (18, .q a0_0 (Int.toNat s25.1 * 6)), (17, vi s25.1), (16, .v (.slice a0_0 x0.length c0_0)), (15, vi s25.1), (14, .v (.slice y21.1 l51.length y21.2)), (4, vi s25.1), (3, .v (.slice y21.1 l51.length y21.2)), (0, .v (.slice a0_0 x0.length c0_0))]) (bx' := []) (by simp only [eNode, vNode, hl54]) rfl ?_
     refine oe (bn (nt (qr (oN 3 [(4, vi (w64 (s25.1 + 1)))] [3, 0] ?_))))
     exact oe (ct h53 () [4, 3, 0] [0] 0)
   refine qx (nx (nx (bh ?_)))
   have h55 := leafB hd34 h40 h30
   exact mp (s25.2, ()) h55 [3] [0] 0
 have h37 := (congrFun hk32 _).symm.trans h37p
 refine nt (qs (qr (oN 2 [(2, .v (.slice y21.1 y36.1.length y21.2))] [] ?_)))
 refine oe (nt (qe (rt [.slice y21.1 y36.1.length y21.2] (fun γ w hs => ?_))))
 rw [← sI h37]
 exact ⟨y21, rfl, hs.kept.toBelow, (hs.takeR (is := [0]) rfl).fresh⟩

theorem c_laws_toRule {W : World} {x0 : Rule} {a0_0 : Option Addr} {c0_0 : Nat} {r : Rule} (h : laws_toRule x0 = some r) (hv0_0 : SlView W x0.Nodes a0_0 c0_0) :
    Gives Try.prog 88 #[vRule x0 (a0_0, c0_0)] W (fun y : AC => vRule r y) (fun y => [SlRes 83 r.Nodes y.1 y.2]) := by
 unfold laws_toRule at h
 refine en Try.func88 Try.ntmps88 ?_
 refine qs (qr (oB 2 [(2, .p 1 0), (1, .p 0 0)] [] [(133, (eRule x0 (a0_0, c0_0))), (78, (eRule (Rule.mk 0 0 0 0 0 0 ([] : List Node)) (none, 0)))] ?_))
 refine oe (nt (qs (qr (oB 1 [(3, .p 2 0)] [2, 1] [(133, (eRule x0 (a0_0, c0_0))), (78, (eRule (Rule.mk 0 0 0 0 0 0 ([] : List Node)) (none, 0))), (78, (eRule (Rule.mk 0 0 0 0 0 0 ([] : List Node)) (none, 0)))] ?_))))
 refine oe (nt (qs (qr (oB 4 [] [3, 2, 1] [(133, (eRule x0 (a0_0, c0_0))), (78, (eRule (Rule.mk 0 0 0 0 0 0 ([] : List Node)) (none, 0))), (78, (eRule (Rule.mk x0.Name 0 0 0 0 0 ([] : List Node)) (none, 0)))] ?_))))
 refine oe (nt (qs (qr (oB 4 [] [3, 2, 1] [(133, (eRule x0 (a0_0, c0_0))), (78, (eRule (Rule.mk 0 0 0 0 0 0 ([] : List Node)) (none, 0))), (78, (eRule (Rule.mk x0.Name x0.From 0 0 0 0 ([] : List Node)) (none, 0)))] ?_))))
 refine oe (nt (qs (qr (oB 4 [] [3, 2, 1] [(133, (eRule x0 (a0_0, c0_0))), (78, (eRule (Rule.mk 0 0 0 0 0 0 ([] : List Node)) (none, 0))), (78, (eRule (Rule.mk x0.Name x0.From x0.To 0 0 0 ([] : List Node)) (none, 0)))] ?_))))
 refine oe (nt (qs (qr (oB 4 [] [3, 2, 1] [(133, (eRule x0 (a0_0, c0_0))), (78, (eRule (Rule.mk 0 0 0 0 0 0 ([] : List Node)) (none, 0))), (78, (eRule (Rule.mk x0.Name x0.From x0.To x0.Joined 0 0 ([] : List Node)) (none, 0)))] ?_))))
 refine oe (nt (qs (qr (oB 4 [] [3, 2, 1] [(133, (eRule x0 (a0_0, c0_0))), (78, (eRule (Rule.mk 0 0 0 0 0 0 ([] : List Node)) (none, 0))), (78, (eRule (Rule.mk x0.Name x0.From x0.To x0.Joined x0.Rank 0 ([] : List Node)) (none, 0)))] ?_))))
 refine oe (nt (qs (qr (oB 4 [] [3, 2, 1] [(133, (eRule x0 (a0_0, c0_0))), (78, (eRule (Rule.mk 0 0 0 0 0 0 ([] : List Node)) (none, 0))), (78, (eRule (Rule.mk x0.Name x0.From x0.To x0.Joined x0.Rank x0.Mode ([] : List Node)) (none, 0)))] ?_))))
 refine oe (nt (qs (qr (oN 2 [(23, .v (.slice a0_0 x0.Nodes.length c0_0))] [3, 2] ?_))))
 obtain ⟨t21, h22, h23⟩ := bS h
 refine k1 (fun γ w hs => c_laws_toNodeS h22 (hv0_0.kept hs.kept)) (fun y24 => ?_)
 refine oB 2 [] [3, 2] [(133, (eRule x0 (a0_0, c0_0))), (78, (eRule (Rule.mk 0 0 0 0 0 0 ([] : List Node)) (none, 0))), (78, (eRule (Rule.mk x0.Name x0.From x0.To x0.Joined x0.Rank x0.Mode t21) y24))] ?_
 refine oe (nt (qs (qr (oB 2 [] [2] [(133, (eRule x0 (a0_0, c0_0))), (78, (eRule (Rule.mk x0.Name x0.From x0.To x0.Joined x0.Rank x0.Mode t21) y24)), (78, (eRule (Rule.mk x0.Name x0.From x0.To x0.Joined x0.Rank x0.Mode t21) y24))] ?_))))
 refine oe (nt (qe (rt [vRule (Rule.mk x0.Name x0.From x0.To x0.Joined x0.Rank x0.Mode t21) y24] (fun γ w hs => ?_))))
 rw [← sI h23]
 exact ⟨y24, rfl, hs.kept.toBelow, (hs.takeR (is := [0]) rfl).fresh⟩

theorem c_laws_toRuleS {W : World} {x0 : List Rule} {a0_0 : Option Addr} {c0_0 : Nat} {r : (List Rule)} (h : laws_toRuleS x0 = some r) (hv0_0 : SlView W x0 a0_0 c0_0) :
    Gives Try.prog 69 #[.slice a0_0 x0.length c0_0] W (fun y : AC => .slice y.1 r.length y.2) (fun y => [SlRes 78 r y.1 y.2]) := by
 unfold laws_toRuleS at h
 refine en Try.func69 Try.ntmps69 ?_
 refine qs (qr (oN 1 [] [0] ?_))
 refine oe (nt (qs (qr (oN 2 [(6, vi (x0.length : Int))] [0] ?_))))
 obtain ⟨l22, hm23, h24⟩ := bS h
 refine JO_make (α := Rule) rfl (by kernel_rfl) (t := 42) (e := 78) (m := (x0.length : Int)) (by kernel_rfl) (i := Try.t78) (by kernel_rfl) (z := (vRule (Rule.mk 0 0 0 0 0 0 ([] : List Node)) (none, 0))) (by kernel_rfl) (by kernel_rfl) (by kernel_rfl) (by kernel_rfl) (fun w => ⟨0, none, 0, [], rfl, rfl, .inl ⟨rfl, rfl, rfl⟩⟩) hm23 _ (fun _ => rfl) (fun y21 => ?_)
 refine oN 1 [(3, .v (.slice y21.1 l22.length y21.2))] [0] ?_
 refine oe (nt (qs (qs (qr (oN 1 [(4, vi 0)] [3, 0] ?_)))))
 refine oe (nt ?_)
 obtain ⟨r28, hL29, h30⟩ := bS h24
 obtain ⟨k31, hk32, h30⟩ := brkS h30
 refine JC_cutP (τ := ((List Rule)) × (Unit)) (fun y => k31 y.1 = some r) (fun y36 => [(3, .v (.slice y21.1 y36.1.length y21.2))]) (fun y36 => []) (fun y36 => [SlRes 78 y36.1 y21.1 y21.2]) ?_ (fun y36 h37p => ?_)
 · refine qb (lp Unit hL29 (fun s25 y26 => [(4, vi s25.1), (3, .v (.slice y21.1 s25.2.length y21.2)), (0, .v (.slice a0_0 x0.length c0_0))]) (fun s25 y26 => []) (fun s25 y26 => [SlRes 78 s25.2 y21.1 y21.2]) () [4, 3, 0] [0] 0 (fun s25 y26 t27 h33 hd34 => ?_))
   refine qs (qs (qr (oN 4 [(11, vb (decide (s25.1 < (x0.length : Int))))] [4, 3, 0] ?_)))
   refine oe (nt (cC h33 (fun h39 => ?_) (fun h40 => ?_)))
   · refine qk (nt (qs (qb (qr (oN 4 [(17, vi s25.1), (16, .v (.slice a0_0 x0.length c0_0)), (15, vi s25.1), (14, .v (.slice y21.1 s25.2.length y21.2))] [4, 3, 0] ?_)))))
     obtain ⟨x41, hx42, h43⟩ := bS h39
     refine oi 7 (fun γ w hs => (hv0_0.kept hs.kept)) hx42 ?_
     obtain ⟨_, ⟨a44, c45, rfl, hv46⟩, hc47⟩ := SlView.at hv0_0 (idx_some hx42).2.2
     refine ol 133 0 (vRule x41 (a44, c45)) (fun γ w hs => ⟨(hv0_0.kept hs.kept).ne (idx_some hx42).2.2, hc47.kept hs.kept⟩) ?_
     obtain ⟨t48, h49, h50⟩ := bS h43
     refine k1 (fun γ w hs => c_laws_toRule h49 (hv46.kept hs.kept)) (fun y51 => ?_)
     obtain ⟨x52, hx53, h54⟩ := bS h50
     refine oi 7 (fun γ w hs => (hs.view 1 rfl)) hx53 ?_
     obtain ⟨l55, hm56, h57⟩ := bS h54
     replace hm56 := (sI hm56).symm
     refine JO_storeq (α := Rule) (d := y21.1) (vs := [.int .i64 t48.Name, .int .i64 t48.From, .int .i64 t48.To, .int .i64 t48.Joined, .int .i64 t48.Rank, .int .i64 t48.Mode, .slice y51.1 t48.Nodes.length y51.2]) (j := s25.1) (x' := t48) rfl (by kernel_rfl) 0 (by kernel_rfl) hx53 (Rc := [SlRes 83 t48.Nodes y51.1 y51.2]) (Rr := []) rfl (by kernel_rfl) (own_full rfl (by rintro w Fs ⟨G0, _, rfl, h0, rfl⟩; exact ⟨83, y51.1, y51.2, G0, by simp, rfl, h0⟩)) hm56 rfl ?_
     have hl58 := len_set hm56
     refine JO_keep [20, 19, 18, 17, 16, 15, 14, 4, 3, 0] (sl' := [(20, .v (vRule t48 y51)), (19, .v (vRule x41 (a44, c45))), (18, .q a0_0 (Int.toNat s25.1 * 7)), (17, vi s25.1), (16, .v (.slice a0_0 x0.length c0_0)), (15, vi s25.1), (14, .v (.slice y21.1 s25.2.length y21.2)), (4, vi s25.1), (3, .v (.slice y21.1 s25.2.length y21.2)), (0, .v (.slice a0_0 x0.length c0_0))]) (by kernel_rfl) ?_
     refine JO_eqE (sl' := [(20, .v (vRule t48 y51)), (19, .v (vRule x41 (a44, c45))), (18, .q a0_0 (Int.toNat s25.1 * 7)), (17, vi s25.1), (16, .v (.slice a0_0 x0.length c0_0)), (15, vi s25.1), (14, .v (.slice y21.1 l55.length y21.2)), (4, vi s25.1), (3, .v (.slice y21.1 l55.length y21.2)), (0, .v (.slice a0_0 x0.length c0_0))]) (bx' := []) (by simp only [eRule, vRule, hl58]) rfl ?_
     refine oe (bn (nt (qr (oN 3 [(4, vi (w64 (s25.1 + 1)))] [3, 0] ?_))))
     exact oe (ct h57 () [4, 3, 0] [0] 0)
   refine qx (nx (nx (bh ?_)))
   have h59 := leafB hd34 h40 h30
   exact mp (s25.2, ()) h59 [3] [0] 0
 have h37 := (congrFun hk32 _).symm.trans h37p
 refine nt (qs (qr (oN 2 [(2, .v (.slice y21.1 y36.1.length y21.2))] [] ?_)))
 refine oe (nt (qe (rt [.slice y21.1 y36.1.length y21.2] (fun γ w hs => ?_))))
 rw [← sI h37]
 exact ⟨y21, rfl, hs.kept.toBelow, (hs.takeR (is := [0]) rfl).fresh⟩

theorem c_laws_toBook {W : World} {x0 : Book} {a0_0 : Option Addr} {c0_0 : Nat} {r : Book} (h : laws_toBook x0 = some r) (hv0_0 : SlView W x0.Rules a0_0 c0_0) :
    Gives Try.prog 44 #[vBook x0 (a0_0, c0_0)] W (fun y : AC => vBook r y) (fun y => [SlRes 78 r.Rules y.1 y.2]) := by
 unfold laws_toBook at h
 refine en Try.func44 Try.ntmps44 ?_
 refine qs (qr (oB 2 [(2, .p 1 0), (1, .p 0 0)] [] [(24, (eBook x0 (a0_0, c0_0))), (44, [.slice none 0 0])] ?_))
 refine oe (nt (qs (qr (oB 1 [(3, .p 2 0)] [2, 1] [(24, (eBook x0 (a0_0, c0_0))), (44, [.slice none 0 0]), (44, [.slice none 0 0])] ?_))))
 refine oe (nt (qs (qr (oN 2 [(5, .v (.slice a0_0 x0.Rules.length c0_0))] [3, 2] ?_))))
 obtain ⟨t21, h22, h23⟩ := bS h
 refine k1 (fun γ w hs => c_laws_toRuleS h22 (hv0_0.kept hs.kept)) (fun y24 => ?_)
 refine oB 2 [] [3, 2] [(24, (eBook x0 (a0_0, c0_0))), (44, [.slice none 0 0]), (44, (eBook (Book.mk t21) y24))] ?_
 refine oe (nt (qs (qr (oB 2 [] [2] [(24, (eBook x0 (a0_0, c0_0))), (44, (eBook (Book.mk t21) y24)), (44, (eBook (Book.mk t21) y24))] ?_))))
 refine oe (nt (qe (rt [vBook (Book.mk t21) y24] (fun γ w hs => ?_))))
 rw [← sI h23]
 exact ⟨y24, rfl, hs.kept.toBelow, (hs.takeR (is := [0]) rfl).fresh⟩

theorem c_laws_toFact {W : World} {x0 : Fact} {r : Fact} (h : laws_toFact x0 = some r)  :
    Gives0 Try.prog 89 #[vFact x0] W (vFact r) := by
 unfold laws_toFact at h
 refine en Try.func89 Try.ntmps89 ?_
 refine qs (qr (oB 2 [(2, .p 1 0), (1, .p 0 0)] [] [(139, (eFact x0)), (88, (eFact (Fact.mk 0 0 0 0 0)))] ?_))
 refine oe (nt (qs (qr (oB 1 [(3, .p 2 0)] [2, 1] [(139, (eFact x0)), (88, (eFact (Fact.mk 0 0 0 0 0))), (88, (eFact (Fact.mk 0 0 0 0 0)))] ?_))))
 refine oe (nt (qs (qr (oB 4 [] [3, 2, 1] [(139, (eFact x0)), (88, (eFact (Fact.mk 0 0 0 0 0))), (88, (eFact (Fact.mk x0.Key 0 0 0 0)))] ?_))))
 refine oe (nt (qs (qr (oB 4 [] [3, 2, 1] [(139, (eFact x0)), (88, (eFact (Fact.mk 0 0 0 0 0))), (88, (eFact (Fact.mk x0.Key x0.From 0 0 0)))] ?_))))
 refine oe (nt (qs (qr (oB 4 [] [3, 2, 1] [(139, (eFact x0)), (88, (eFact (Fact.mk 0 0 0 0 0))), (88, (eFact (Fact.mk x0.Key x0.From x0.To 0 0)))] ?_))))
 refine oe (nt (qs (qr (oB 4 [] [3, 2, 1] [(139, (eFact x0)), (88, (eFact (Fact.mk 0 0 0 0 0))), (88, (eFact (Fact.mk x0.Key x0.From x0.To x0.Known 0)))] ?_))))
 refine oe (nt (qs (qr (oB 4 [] [3, 2] [(139, (eFact x0)), (88, (eFact (Fact.mk 0 0 0 0 0))), (88, (eFact x0))] ?_))))
 refine oe (nt (qs (qr (oB 2 [] [2] [(139, (eFact x0)), (88, (eFact x0)), (88, (eFact x0))] ?_))))
 refine oe (nt (qe ?_))
 obtain rfl := sI h
 exact re [vFact x0]

theorem c_laws_toFactS {W : World} {x0 : List Fact} {a0_0 : Option Addr} {c0_0 : Nat} {r : (List Fact)} (h : laws_toFactS x0 = some r) (hv0_0 : SlView W x0 a0_0 c0_0) :
    Gives Try.prog 70 #[.slice a0_0 x0.length c0_0] W (fun y : AC => .slice y.1 r.length y.2) (fun y => [SlRes 88 r y.1 y.2]) := by
 unfold laws_toFactS at h
 refine en Try.func70 Try.ntmps70 ?_
 refine qs (qr (oN 1 [] [0] ?_))
 refine oe (nt (qs (qr (oN 2 [(6, vi (x0.length : Int))] [0] ?_))))
 obtain ⟨l22, hm23, h24⟩ := bS h
 refine JO_make (α := Fact) rfl (by kernel_rfl) (t := 45) (e := 88) (m := (x0.length : Int)) (by kernel_rfl) (i := Try.t88) (by kernel_rfl) (z := (vFact (Fact.mk 0 0 0 0 0))) (by kernel_rfl) (by kernel_rfl) (by kernel_rfl) (by kernel_rfl) (fun w => ⟨rfl, rfl⟩) hm23 _ (fun _ => rfl) (fun y21 => ?_)
 refine oN 1 [(3, .v (.slice y21.1 l22.length y21.2))] [0] ?_
 refine oe (nt (qs (qs (qr (oN 1 [(4, vi 0)] [3, 0] ?_)))))
 refine oe (nt ?_)
 obtain ⟨r28, hL29, h30⟩ := bS h24
 obtain ⟨k31, hk32, h30⟩ := brkS h30
 refine JC_cutP (τ := ((List Fact)) × (Unit)) (fun y => k31 y.1 = some r) (fun y36 => [(3, .v (.slice y21.1 y36.1.length y21.2))]) (fun y36 => []) (fun y36 => [SlRes 88 y36.1 y21.1 y21.2]) ?_ (fun y36 h37p => ?_)
 · refine qb (lp Unit hL29 (fun s25 y26 => [(4, vi s25.1), (3, .v (.slice y21.1 s25.2.length y21.2)), (0, .v (.slice a0_0 x0.length c0_0))]) (fun s25 y26 => []) (fun s25 y26 => [SlRes 88 s25.2 y21.1 y21.2]) () [4, 3, 0] [0] 0 (fun s25 y26 t27 h33 hd34 => ?_))
   refine qs (qs (qr (oN 4 [(11, vb (decide (s25.1 < (x0.length : Int))))] [4, 3, 0] ?_)))
   refine oe (nt (cC h33 (fun h39 => ?_) (fun h40 => ?_)))
   · refine qk (nt (qs (qb (qr (oN 4 [(17, vi s25.1), (16, .v (.slice a0_0 x0.length c0_0)), (15, vi s25.1), (14, .v (.slice y21.1 s25.2.length y21.2))] [4, 3, 0] ?_)))))
     obtain ⟨x41, hx42, h43⟩ := bS h39
     refine oi 5 (fun γ w hs => (hv0_0.kept hs.kept)) hx42 ?_
     refine ol 139 0 (vFact x41) (fun γ w hs => (hv0_0.kept hs.kept).flatq hx42) ?_
     obtain ⟨t44, h45, h46⟩ := bS h43
     refine k0 (fun γ w hs => c_laws_toFact h45) ?_
     obtain ⟨x48, hx49, h50⟩ := bS h46
     refine oi 5 (fun γ w hs => (hs.view 0 rfl)) hx49 ?_
     obtain ⟨l51, hm52, h53⟩ := bS h50
     replace hm52 := (sI hm52).symm
     refine JO_storeq (α := Fact) (d := y21.1) (vs := [.int .i64 t44.Key, .int .i64 t44.From, .int .i64 t44.To, .int .i64 t44.Known, .int .i64 t44.Value]) (j := s25.1) (x' := t44) rfl (by kernel_rfl) 0 (by kernel_rfl) hx49 (Rc := []) (Rr := []) rfl (by kernel_rfl) (fun w c F Fs ho _ _ => own_flat_set (by kernel_rfl) ho) hm52 rfl ?_
     have hl54 := len_set hm52
     refine JO_keep [20, 19, 18, 17, 16, 15, 14, 4, 3, 0] (sl' := [(20, .v (vFact t44)), (19, .v (vFact x41)), (18, .q a0_0 (Int.toNat s25.1 * 5)), (17, vi s25.1), (16, .v (.slice a0_0 x0.length c0_0)), (15, vi s25.1), (14, .v (.slice y21.1 s25.2.length y21.2)), (4, vi s25.1), (3, .v (.slice y21.1 s25.2.length y21.2)), (0, .v (.slice a0_0 x0.length c0_0))]) (by kernel_rfl) ?_
     refine JO_eqE (sl' := [(20, .v (vFact t44)), (19, .v (vFact x41)), (18, .q a0_0 (Int.toNat s25.1 * 5)), (17, vi s25.1), (16, .v (.slice a0_0 x0.length c0_0)), (15, vi s25.1), (14, .v (.slice y21.1 l51.length y21.2)), (4, vi s25.1), (3, .v (.slice y21.1 l51.length y21.2)), (0, .v (.slice a0_0 x0.length c0_0))]) (bx' := []) (by simp only [eFact, vFact, hl54]) rfl ?_
     refine oe (bn (nt (qr (oN 3 [(4, vi (w64 (s25.1 + 1)))] [3, 0] ?_))))
     exact oe (ct h53 () [4, 3, 0] [0] 0)
   refine qx (nx (nx (bh ?_)))
   have h55 := leafB hd34 h40 h30
   exact mp (s25.2, ()) h55 [3] [0] 0
 have h37 := (congrFun hk32 _).symm.trans h37p
 refine nt (qs (qr (oN 2 [(2, .v (.slice y21.1 y36.1.length y21.2))] [] ?_)))
 refine oe (nt (qe (rt [.slice y21.1 y36.1.length y21.2] (fun γ w hs => ?_))))
 rw [← sI h37]
 exact ⟨y21, rfl, hs.kept.toBelow, (hs.takeR (is := [0]) rfl).fresh⟩

theorem c_laws_toStore {W : World} {x0 : Store} {a0_0 : Option Addr} {c0_0 : Nat} {r : Store} (h : laws_toStore x0 = some r) (hv0_0 : SlView W x0.Facts a0_0 c0_0) :
    Gives Try.prog 45 #[vStore x0 (a0_0, c0_0)] W (fun y : AC => vStore r y) (fun y => [SlRes 88 r.Facts y.1 y.2]) := by
 unfold laws_toStore at h
 refine en Try.func45 Try.ntmps45 ?_
 refine qs (qr (oB 2 [(2, .p 1 0), (1, .p 0 0)] [] [(27, (eStore x0 (a0_0, c0_0))), (47, [.slice none 0 0])] ?_))
 refine oe (nt (qs (qr (oB 1 [(3, .p 2 0)] [2, 1] [(27, (eStore x0 (a0_0, c0_0))), (47, [.slice none 0 0]), (47, [.slice none 0 0])] ?_))))
 refine oe (nt (qs (qr (oN 2 [(5, .v (.slice a0_0 x0.Facts.length c0_0))] [3, 2] ?_))))
 obtain ⟨t21, h22, h23⟩ := bS h
 refine k1 (fun γ w hs => c_laws_toFactS h22 (hv0_0.kept hs.kept)) (fun y24 => ?_)
 refine oB 2 [] [3, 2] [(27, (eStore x0 (a0_0, c0_0))), (47, [.slice none 0 0]), (47, (eStore (Store.mk t21) y24))] ?_
 refine oe (nt (qs (qr (oB 2 [] [2] [(27, (eStore x0 (a0_0, c0_0))), (47, (eStore (Store.mk t21) y24)), (47, (eStore (Store.mk t21) y24))] ?_))))
 refine oe (nt (qe (rt [vStore (Store.mk t21) y24] (fun γ w hs => ?_))))
 rw [← sI h23]
 exact ⟨y24, rfl, hs.kept.toBelow, (hs.takeR (is := [0]) rfl).fresh⟩

theorem c_laws_toPoint {W : World} {x0 : Point} {r : Point} (h : laws_toPoint x0 = some r)  :
    Gives0 Try.prog 90 #[vPoint x0] W (vPoint r) := by
 unfold laws_toPoint at h
 refine en Try.func90 Try.ntmps90 ?_
 refine qs (qr (oB 2 [(2, .p 1 0), (1, .p 0 0)] [] [(141, (ePoint x0)), (91, (ePoint (Point.mk 0 0 0)))] ?_))
 refine oe (nt (qs (qr (oB 1 [(3, .p 2 0)] [2, 1] [(141, (ePoint x0)), (91, (ePoint (Point.mk 0 0 0))), (91, (ePoint (Point.mk 0 0 0)))] ?_))))
 refine oe (nt (qs (qr (oB 4 [] [3, 2, 1] [(141, (ePoint x0)), (91, (ePoint (Point.mk 0 0 0))), (91, (ePoint (Point.mk x0.Month 0 0)))] ?_))))
 refine oe (nt (qs (qr (oB 4 [] [3, 2, 1] [(141, (ePoint x0)), (91, (ePoint (Point.mk 0 0 0))), (91, (ePoint (Point.mk x0.Month x0.Known 0)))] ?_))))
 refine oe (nt (qs (qr (oB 4 [] [3, 2] [(141, (ePoint x0)), (91, (ePoint (Point.mk 0 0 0))), (91, (ePoint x0))] ?_))))
 refine oe (nt (qs (qr (oB 2 [] [2] [(141, (ePoint x0)), (91, (ePoint x0)), (91, (ePoint x0))] ?_))))
 refine oe (nt (qe ?_))
 obtain rfl := sI h
 exact re [vPoint x0]

theorem c_laws_toPointS {W : World} {x0 : List Point} {a0_0 : Option Addr} {c0_0 : Nat} {r : (List Point)} (h : laws_toPointS x0 = some r) (hv0_0 : SlView W x0 a0_0 c0_0) :
    Gives Try.prog 71 #[.slice a0_0 x0.length c0_0] W (fun y : AC => .slice y.1 r.length y.2) (fun y => [SlRes 91 r y.1 y.2]) := by
 unfold laws_toPointS at h
 refine en Try.func71 Try.ntmps71 ?_
 refine qs (qr (oN 1 [] [0] ?_))
 refine oe (nt (qs (qr (oN 2 [(6, vi (x0.length : Int))] [0] ?_))))
 obtain ⟨l22, hm23, h24⟩ := bS h
 refine JO_make (α := Point) rfl (by kernel_rfl) (t := 48) (e := 91) (m := (x0.length : Int)) (by kernel_rfl) (i := Try.t91) (by kernel_rfl) (z := (vPoint (Point.mk 0 0 0))) (by kernel_rfl) (by kernel_rfl) (by kernel_rfl) (by kernel_rfl) (fun w => ⟨rfl, rfl⟩) hm23 _ (fun _ => rfl) (fun y21 => ?_)
 refine oN 1 [(3, .v (.slice y21.1 l22.length y21.2))] [0] ?_
 refine oe (nt (qs (qs (qr (oN 1 [(4, vi 0)] [3, 0] ?_)))))
 refine oe (nt ?_)
 obtain ⟨r28, hL29, h30⟩ := bS h24
 obtain ⟨k31, hk32, h30⟩ := brkS h30
 refine JC_cutP (τ := ((List Point)) × (Unit)) (fun y => k31 y.1 = some r) (fun y36 => [(3, .v (.slice y21.1 y36.1.length y21.2))]) (fun y36 => []) (fun y36 => [SlRes 91 y36.1 y21.1 y21.2]) ?_ (fun y36 h37p => ?_)
 · refine qb (lp Unit hL29 (fun s25 y26 => [(4, vi s25.1), (3, .v (.slice y21.1 s25.2.length y21.2)), (0, .v (.slice a0_0 x0.length c0_0))]) (fun s25 y26 => []) (fun s25 y26 => [SlRes 91 s25.2 y21.1 y21.2]) () [4, 3, 0] [0] 0 (fun s25 y26 t27 h33 hd34 => ?_))
   refine qs (qs (qr (oN 4 [(11, vb (decide (s25.1 < (x0.length : Int))))] [4, 3, 0] ?_)))
   refine oe (nt (cC h33 (fun h39 => ?_) (fun h40 => ?_)))
   · refine qk (nt (qs (qb (qr (oN 4 [(17, vi s25.1), (16, .v (.slice a0_0 x0.length c0_0)), (15, vi s25.1), (14, .v (.slice y21.1 s25.2.length y21.2))] [4, 3, 0] ?_)))))
     obtain ⟨x41, hx42, h43⟩ := bS h39
     refine oi 3 (fun γ w hs => (hv0_0.kept hs.kept)) hx42 ?_
     refine ol 141 0 (vPoint x41) (fun γ w hs => (hv0_0.kept hs.kept).flatq hx42) ?_
     obtain ⟨t44, h45, h46⟩ := bS h43
     refine k0 (fun γ w hs => c_laws_toPoint h45) ?_
     obtain ⟨x48, hx49, h50⟩ := bS h46
     refine oi 3 (fun γ w hs => (hs.view 0 rfl)) hx49 ?_
     obtain ⟨l51, hm52, h53⟩ := bS h50
     replace hm52 := (sI hm52).symm
     refine JO_storeq (α := Point) (d := y21.1) (vs := [.int .i64 t44.Month, .int .i64 t44.Known, .int .i64 t44.Value]) (j := s25.1) (x' := t44) rfl (by kernel_rfl) 0 (by kernel_rfl) hx49 (Rc := []) (Rr := []) rfl (by kernel_rfl) (fun w c F Fs ho _ _ => own_flat_set (by kernel_rfl) ho) hm52 rfl ?_
     have hl54 := len_set hm52
     refine JO_keep [20, 19, 18, 17, 16, 15, 14, 4, 3, 0] (sl' := [(20, .v (vPoint t44)), (19, .v (vPoint x41)), (18, .q a0_0 (Int.toNat s25.1 * 3)), (17, vi s25.1), (16, .v (.slice a0_0 x0.length c0_0)), (15, vi s25.1), (14, .v (.slice y21.1 s25.2.length y21.2)), (4, vi s25.1), (3, .v (.slice y21.1 s25.2.length y21.2)), (0, .v (.slice a0_0 x0.length c0_0))]) (by kernel_rfl) ?_
     refine JO_eqE (sl' := [(20, .v (vPoint t44)), (19, .v (vPoint x41)), (18, .q a0_0 (Int.toNat s25.1 * 3)), (17, vi s25.1), (16, .v (.slice a0_0 x0.length c0_0)), (15, vi s25.1), (14, .v (.slice y21.1 l51.length y21.2)), (4, vi s25.1), (3, .v (.slice y21.1 l51.length y21.2)), (0, .v (.slice a0_0 x0.length c0_0))]) (bx' := []) (by simp only [ePoint, vPoint, hl54]) rfl ?_
     refine oe (bn (nt (qr (oN 3 [(4, vi (w64 (s25.1 + 1)))] [3, 0] ?_))))
     exact oe (ct h53 () [4, 3, 0] [0] 0)
   refine qx (nx (nx (bh ?_)))
   have h55 := leafB hd34 h40 h30
   exact mp (s25.2, ()) h55 [3] [0] 0
 have h37 := (congrFun hk32 _).symm.trans h37p
 refine nt (qs (qr (oN 2 [(2, .v (.slice y21.1 y36.1.length y21.2))] [] ?_)))
 refine oe (nt (qe (rt [.slice y21.1 y36.1.length y21.2] (fun γ w hs => ?_))))
 rw [← sI h37]
 exact ⟨y21, rfl, hs.kept.toBelow, (hs.takeR (is := [0]) rfl).fresh⟩

theorem c_laws_toSeries {W : World} {x0 : Series} {a0_0 : Option Addr} {c0_0 : Nat} {r : Series} (h : laws_toSeries x0 = some r) (hv0_0 : SlView W x0.Points a0_0 c0_0) :
    Gives Try.prog 46 #[vSeries x0 (a0_0, c0_0)] W (fun y : AC => vSeries r y) (fun y => [SlRes 91 r.Points y.1 y.2]) := by
 unfold laws_toSeries at h
 refine en Try.func46 Try.ntmps46 ?_
 refine qs (qr (oB 2 [(2, .p 1 0), (1, .p 0 0)] [] [(30, (eSeries x0 (a0_0, c0_0))), (50, [.slice none 0 0])] ?_))
 refine oe (nt (qs (qr (oB 1 [(3, .p 2 0)] [2, 1] [(30, (eSeries x0 (a0_0, c0_0))), (50, [.slice none 0 0]), (50, [.slice none 0 0])] ?_))))
 refine oe (nt (qs (qr (oN 2 [(5, .v (.slice a0_0 x0.Points.length c0_0))] [3, 2] ?_))))
 obtain ⟨t21, h22, h23⟩ := bS h
 refine k1 (fun γ w hs => c_laws_toPointS h22 (hv0_0.kept hs.kept)) (fun y24 => ?_)
 refine oB 2 [] [3, 2] [(30, (eSeries x0 (a0_0, c0_0))), (50, [.slice none 0 0]), (50, (eSeries (Series.mk t21) y24))] ?_
 refine oe (nt (qs (qr (oB 2 [] [2] [(30, (eSeries x0 (a0_0, c0_0))), (50, (eSeries (Series.mk t21) y24)), (50, (eSeries (Series.mk t21) y24))] ?_))))
 refine oe (nt (qe (rt [vSeries (Series.mk t21) y24] (fun γ w hs => ?_))))
 rw [← sI h23]
 exact ⟨y24, rfl, hs.kept.toBelow, (hs.takeR (is := [0]) rfl).fresh⟩

theorem c_laws_toSpell {W : World} {x0 : Spell} {r : Spell} (h : laws_toSpell x0 = some r)  :
    Gives0 Try.prog 91 #[vSpell x0] W (vSpell r) := by
 unfold laws_toSpell at h
 refine en Try.func91 Try.ntmps91 ?_
 refine qs (qr (oB 2 [(2, .p 1 0), (1, .p 0 0)] [] [(143, (eSpell x0)), (94, (eSpell (Spell.mk 0 0 0 false)))] ?_))
 refine oe (nt (qs (qr (oB 1 [(3, .p 2 0)] [2, 1] [(143, (eSpell x0)), (94, (eSpell (Spell.mk 0 0 0 false))), (94, (eSpell (Spell.mk 0 0 0 false)))] ?_))))
 refine oe (nt (qs (qr (oB 4 [] [3, 2, 1] [(143, (eSpell x0)), (94, (eSpell (Spell.mk 0 0 0 false))), (94, (eSpell (Spell.mk x0.From 0 0 false)))] ?_))))
 refine oe (nt (qs (qr (oB 4 [] [3, 2, 1] [(143, (eSpell x0)), (94, (eSpell (Spell.mk 0 0 0 false))), (94, (eSpell (Spell.mk x0.From x0.To 0 false)))] ?_))))
 refine oe (nt (qs (qr (oB 4 [] [3, 2, 1] [(143, (eSpell x0)), (94, (eSpell (Spell.mk 0 0 0 false))), (94, (eSpell (Spell.mk x0.From x0.To x0.Percent false)))] ?_))))
 refine oe (nt (qs (qr (oB 4 [] [3, 2] [(143, (eSpell x0)), (94, (eSpell (Spell.mk 0 0 0 false))), (94, (eSpell x0))] ?_))))
 refine oe (nt (qs (qr (oB 2 [] [2] [(143, (eSpell x0)), (94, (eSpell x0)), (94, (eSpell x0))] ?_))))
 refine oe (nt (qe ?_))
 obtain rfl := sI h
 exact re [vSpell x0]

theorem c_laws_toSpellS {W : World} {x0 : List Spell} {a0_0 : Option Addr} {c0_0 : Nat} {r : (List Spell)} (h : laws_toSpellS x0 = some r) (hv0_0 : SlView W x0 a0_0 c0_0) :
    Gives Try.prog 72 #[.slice a0_0 x0.length c0_0] W (fun y : AC => .slice y.1 r.length y.2) (fun y => [SlRes 94 r y.1 y.2]) := by
 unfold laws_toSpellS at h
 refine en Try.func72 Try.ntmps72 ?_
 refine qs (qr (oN 1 [] [0] ?_))
 refine oe (nt (qs (qr (oN 2 [(6, vi (x0.length : Int))] [0] ?_))))
 obtain ⟨l22, hm23, h24⟩ := bS h
 refine JO_make (α := Spell) rfl (by kernel_rfl) (t := 51) (e := 94) (m := (x0.length : Int)) (by kernel_rfl) (i := Try.t94) (by kernel_rfl) (z := (vSpell (Spell.mk 0 0 0 false))) (by kernel_rfl) (by kernel_rfl) (by kernel_rfl) (by kernel_rfl) (fun w => ⟨rfl, rfl⟩) hm23 _ (fun _ => rfl) (fun y21 => ?_)
 refine oN 1 [(3, .v (.slice y21.1 l22.length y21.2))] [0] ?_
 refine oe (nt (qs (qs (qr (oN 1 [(4, vi 0)] [3, 0] ?_)))))
 refine oe (nt ?_)
 obtain ⟨r28, hL29, h30⟩ := bS h24
 obtain ⟨k31, hk32, h30⟩ := brkS h30
 refine JC_cutP (τ := ((List Spell)) × (Unit)) (fun y => k31 y.1 = some r) (fun y36 => [(3, .v (.slice y21.1 y36.1.length y21.2))]) (fun y36 => []) (fun y36 => [SlRes 94 y36.1 y21.1 y21.2]) ?_ (fun y36 h37p => ?_)
 · refine qb (lp Unit hL29 (fun s25 y26 => [(4, vi s25.1), (3, .v (.slice y21.1 s25.2.length y21.2)), (0, .v (.slice a0_0 x0.length c0_0))]) (fun s25 y26 => []) (fun s25 y26 => [SlRes 94 s25.2 y21.1 y21.2]) () [4, 3, 0] [0] 0 (fun s25 y26 t27 h33 hd34 => ?_))
   refine qs (qs (qr (oN 4 [(11, vb (decide (s25.1 < (x0.length : Int))))] [4, 3, 0] ?_)))
   refine oe (nt (cC h33 (fun h39 => ?_) (fun h40 => ?_)))
   · refine qk (nt (qs (qb (qr (oN 4 [(17, vi s25.1), (16, .v (.slice a0_0 x0.length c0_0)), (15, vi s25.1), (14, .v (.slice y21.1 s25.2.length y21.2))] [4, 3, 0] ?_)))))
     obtain ⟨x41, hx42, h43⟩ := bS h39
     refine oi 4 (fun γ w hs => (hv0_0.kept hs.kept)) hx42 ?_
     refine ol 143 0 (vSpell x41) (fun γ w hs => (hv0_0.kept hs.kept).flatq hx42) ?_
     obtain ⟨t44, h45, h46⟩ := bS h43
     refine k0 (fun γ w hs => c_laws_toSpell h45) ?_
     obtain ⟨x48, hx49, h50⟩ := bS h46
     refine oi 4 (fun γ w hs => (hs.view 0 rfl)) hx49 ?_
     obtain ⟨l51, hm52, h53⟩ := bS h50
     replace hm52 := (sI hm52).symm
     refine JO_storeq (α := Spell) (d := y21.1) (vs := [.int .i64 t44.From, .int .i64 t44.To, .int .i64 t44.Percent, .bool t44.Leave]) (j := s25.1) (x' := t44) rfl (by kernel_rfl) 0 (by kernel_rfl) hx49 (Rc := []) (Rr := []) rfl (by kernel_rfl) (fun w c F Fs ho _ _ => own_flat_set (by kernel_rfl) ho) hm52 rfl ?_
     have hl54 := len_set hm52
     refine JO_keep [20, 19, 18, 17, 16, 15, 14, 4, 3, 0] (sl' := [(20, .v (vSpell t44)), (19, .v (vSpell x41)), (18, .q a0_0 (Int.toNat s25.1 * 4)), (17, vi s25.1), (16, .v (.slice a0_0 x0.length c0_0)), (15, vi s25.1), (14, .v (.slice y21.1 s25.2.length y21.2)), (4, vi s25.1), (3, .v (.slice y21.1 s25.2.length y21.2)), (0, .v (.slice a0_0 x0.length c0_0))]) (by kernel_rfl) ?_
     refine JO_eqE (sl' := [(20, .v (vSpell t44)), (19, .v (vSpell x41)), (18, .q a0_0 (Int.toNat s25.1 * 4)), (17, vi s25.1), (16, .v (.slice a0_0 x0.length c0_0)), (15, vi s25.1), (14, .v (.slice y21.1 l51.length y21.2)), (4, vi s25.1), (3, .v (.slice y21.1 l51.length y21.2)), (0, .v (.slice a0_0 x0.length c0_0))]) (bx' := []) (by simp only [eSpell, vSpell, hl54]) rfl ?_
     refine oe (bn (nt (qr (oN 3 [(4, vi (w64 (s25.1 + 1)))] [3, 0] ?_))))
     exact oe (ct h53 () [4, 3, 0] [0] 0)
   refine qx (nx (nx (bh ?_)))
   have h55 := leafB hd34 h40 h30
   exact mp (s25.2, ()) h55 [3] [0] 0
 have h37 := (congrFun hk32 _).symm.trans h37p
 refine nt (qs (qr (oN 2 [(2, .v (.slice y21.1 y36.1.length y21.2))] [] ?_)))
 refine oe (nt (qe (rt [.slice y21.1 y36.1.length y21.2] (fun γ w hs => ?_))))
 rw [← sI h37]
 exact ⟨y21, rfl, hs.kept.toBelow, (hs.takeR (is := [0]) rfl).fresh⟩

theorem c_laws_toEvent {W : World} {x0 : Event} {r : Event} (h : laws_toEvent x0 = some r)  :
    Gives0 Try.prog 92 #[vEvent x0] W (vEvent r) := by
 unfold laws_toEvent at h
 refine en Try.func92 Try.ntmps92 ?_
 refine qs (qr (oB 2 [(2, .p 1 0), (1, .p 0 0)] [] [(145, (eEvent x0)), (97, (eEvent (Event.mk 0 0)))] ?_))
 refine oe (nt (qs (qr (oB 1 [(3, .p 2 0)] [2, 1] [(145, (eEvent x0)), (97, (eEvent (Event.mk 0 0))), (97, (eEvent (Event.mk 0 0)))] ?_))))
 refine oe (nt (qs (qr (oB 4 [] [3, 2, 1] [(145, (eEvent x0)), (97, (eEvent (Event.mk 0 0))), (97, (eEvent (Event.mk x0.Kind 0)))] ?_))))
 refine oe (nt (qs (qr (oB 4 [] [3, 2] [(145, (eEvent x0)), (97, (eEvent (Event.mk 0 0))), (97, (eEvent x0))] ?_))))
 refine oe (nt (qs (qr (oB 2 [] [2] [(145, (eEvent x0)), (97, (eEvent x0)), (97, (eEvent x0))] ?_))))
 refine oe (nt (qe ?_))
 obtain rfl := sI h
 exact re [vEvent x0]

theorem c_laws_toEventS {W : World} {x0 : List Event} {a0_0 : Option Addr} {c0_0 : Nat} {r : (List Event)} (h : laws_toEventS x0 = some r) (hv0_0 : SlView W x0 a0_0 c0_0) :
    Gives Try.prog 73 #[.slice a0_0 x0.length c0_0] W (fun y : AC => .slice y.1 r.length y.2) (fun y => [SlRes 97 r y.1 y.2]) := by
 unfold laws_toEventS at h
 refine en Try.func73 Try.ntmps73 ?_
 refine qs (qr (oN 1 [] [0] ?_))
 refine oe (nt (qs (qr (oN 2 [(6, vi (x0.length : Int))] [0] ?_))))
 obtain ⟨l22, hm23, h24⟩ := bS h
 refine JO_make (α := Event) rfl (by kernel_rfl) (t := 52) (e := 97) (m := (x0.length : Int)) (by kernel_rfl) (i := Try.t97) (by kernel_rfl) (z := (vEvent (Event.mk 0 0))) (by kernel_rfl) (by kernel_rfl) (by kernel_rfl) (by kernel_rfl) (fun w => ⟨rfl, rfl⟩) hm23 _ (fun _ => rfl) (fun y21 => ?_)
 refine oN 1 [(3, .v (.slice y21.1 l22.length y21.2))] [0] ?_
 refine oe (nt (qs (qs (qr (oN 1 [(4, vi 0)] [3, 0] ?_)))))
 refine oe (nt ?_)
 obtain ⟨r28, hL29, h30⟩ := bS h24
 obtain ⟨k31, hk32, h30⟩ := brkS h30
 refine JC_cutP (τ := ((List Event)) × (Unit)) (fun y => k31 y.1 = some r) (fun y36 => [(3, .v (.slice y21.1 y36.1.length y21.2))]) (fun y36 => []) (fun y36 => [SlRes 97 y36.1 y21.1 y21.2]) ?_ (fun y36 h37p => ?_)
 · refine qb (lp Unit hL29 (fun s25 y26 => [(4, vi s25.1), (3, .v (.slice y21.1 s25.2.length y21.2)), (0, .v (.slice a0_0 x0.length c0_0))]) (fun s25 y26 => []) (fun s25 y26 => [SlRes 97 s25.2 y21.1 y21.2]) () [4, 3, 0] [0] 0 (fun s25 y26 t27 h33 hd34 => ?_))
   refine qs (qs (qr (oN 4 [(11, vb (decide (s25.1 < (x0.length : Int))))] [4, 3, 0] ?_)))
   refine oe (nt (cC h33 (fun h39 => ?_) (fun h40 => ?_)))
   · refine qk (nt (qs (qb (qr (oN 4 [(17, vi s25.1), (16, .v (.slice a0_0 x0.length c0_0)), (15, vi s25.1), (14, .v (.slice y21.1 s25.2.length y21.2))] [4, 3, 0] ?_)))))
     obtain ⟨x41, hx42, h43⟩ := bS h39
     refine oi 2 (fun γ w hs => (hv0_0.kept hs.kept)) hx42 ?_
     refine ol 145 0 (vEvent x41) (fun γ w hs => (hv0_0.kept hs.kept).flatq hx42) ?_
     obtain ⟨t44, h45, h46⟩ := bS h43
     refine k0 (fun γ w hs => c_laws_toEvent h45) ?_
     obtain ⟨x48, hx49, h50⟩ := bS h46
     refine oi 2 (fun γ w hs => (hs.view 0 rfl)) hx49 ?_
     obtain ⟨l51, hm52, h53⟩ := bS h50
     replace hm52 := (sI hm52).symm
     refine JO_storeq (α := Event) (d := y21.1) (vs := [.int .i64 t44.Kind, .int .i64 t44.Month]) (j := s25.1) (x' := t44) rfl (by kernel_rfl) 0 (by kernel_rfl) hx49 (Rc := []) (Rr := []) rfl (by kernel_rfl) (fun w c F Fs ho _ _ => own_flat_set (by kernel_rfl) ho) hm52 rfl ?_
     have hl54 := len_set hm52
     refine JO_keep [20, 19, 18, 17, 16, 15, 14, 4, 3, 0] (sl' := [(20, .v (vEvent t44)), (19, .v (vEvent x41)), (18, .q a0_0 (Int.toNat s25.1 * 2)), (17, vi s25.1), (16, .v (.slice a0_0 x0.length c0_0)), (15, vi s25.1), (14, .v (.slice y21.1 s25.2.length y21.2)), (4, vi s25.1), (3, .v (.slice y21.1 s25.2.length y21.2)), (0, .v (.slice a0_0 x0.length c0_0))]) (by kernel_rfl) ?_
     refine JO_eqE (sl' := [(20, .v (vEvent t44)), (19, .v (vEvent x41)), (18, .q a0_0 (Int.toNat s25.1 * 2)), (17, vi s25.1), (16, .v (.slice a0_0 x0.length c0_0)), (15, vi s25.1), (14, .v (.slice y21.1 l51.length y21.2)), (4, vi s25.1), (3, .v (.slice y21.1 l51.length y21.2)), (0, .v (.slice a0_0 x0.length c0_0))]) (bx' := []) (by simp only [eEvent, vEvent, hl54]) rfl ?_
     refine oe (bn (nt (qr (oN 3 [(4, vi (w64 (s25.1 + 1)))] [3, 0] ?_))))
     exact oe (ct h53 () [4, 3, 0] [0] 0)
   refine qx (nx (nx (bh ?_)))
   have h55 := leafB hd34 h40 h30
   exact mp (s25.2, ()) h55 [3] [0] 0
 have h37 := (congrFun hk32 _).symm.trans h37p
 refine nt (qs (qr (oN 2 [(2, .v (.slice y21.1 y36.1.length y21.2))] [] ?_)))
 refine oe (nt (qe (rt [.slice y21.1 y36.1.length y21.2] (fun γ w hs => ?_))))
 rw [← sI h37]
 exact ⟨y21, rfl, hs.kept.toBelow, (hs.takeR (is := [0]) rfl).fresh⟩

theorem c_laws_toMember {W : World} {x0 : Member} {b0 : AC × AC} {r : Member} (h : laws_toMember x0 = some r) (hv0_0 : SlView W x0.Spells b0.1.1 b0.1.2) (hv0_1 : SlView W x0.Events b0.2.1 b0.2.2) :
    Gives Try.prog 47 #[vMember x0 b0] W (fun y : AC × AC => vMember r y) (fun y => [SlRes 94 r.Spells y.1.1 y.1.2, SlRes 97 r.Events y.2.1 y.2.2]) := by
 unfold laws_toMember at h
 refine en Try.func47 Try.ntmps47 ?_
 refine qs (qr (oB 2 [(2, .p 1 0), (1, .p 0 0)] [] [(34, (eMember x0 b0)), (54, [.int .i64 0, .int .i64 0, .slice none 0 0, .slice none 0 0])] ?_))
 refine oe (nt (qs (qr (oB 1 [(3, .p 2 0)] [2, 1] [(34, (eMember x0 b0)), (54, [.int .i64 0, .int .i64 0, .slice none 0 0, .slice none 0 0]), (54, [.int .i64 0, .int .i64 0, .slice none 0 0, .slice none 0 0])] ?_))))
 refine oe (nt (qs (qr (oB 4 [] [3, 2, 1] [(34, (eMember x0 b0)), (54, [.int .i64 0, .int .i64 0, .slice none 0 0, .slice none 0 0]), (54, [.int .i64 x0.Birth, .int .i64 0, .slice none 0 0, .slice none 0 0])] ?_))))
 refine oe (nt (qs (qr (oB 4 [] [3, 2, 1] [(34, (eMember x0 b0)), (54, [.int .i64 0, .int .i64 0, .slice none 0 0, .slice none 0 0]), (54, [.int .i64 x0.Birth, .int .i64 x0.Joined, .slice none 0 0, .slice none 0 0])] ?_))))
 refine oe (nt (qs (qr (oN 2 [(11, .v (.slice b0.1.1 x0.Spells.length b0.1.2))] [3, 2, 1] ?_))))
 obtain ⟨t21, h22, h23⟩ := bS h
 refine k1 (fun γ w hs => c_laws_toSpellS h22 (hv0_0.kept hs.kept)) (fun y24 => ?_)
 refine oB 2 [] [3, 2, 1] [(34, (eMember x0 b0)), (54, [.int .i64 0, .int .i64 0, .slice none 0 0, .slice none 0 0]), (54, (eMember (Member.mk x0.Birth x0.Joined t21 ([] : List Event)) (y24, (none, 0))))] ?_
 refine oe (nt (qs (qr (oN 2 [(15, .v (.slice b0.2.1 x0.Events.length b0.2.2))] [3, 2] ?_))))
 obtain ⟨t25, h26, h27⟩ := bS h23
 refine k1 (fun γ w hs => c_laws_toEventS h26 (hv0_1.kept hs.kept)) (fun y28 => ?_)
 refine oB 2 [] [3, 2] [(34, (eMember x0 b0)), (54, [.int .i64 0, .int .i64 0, .slice none 0 0, .slice none 0 0]), (54, (eMember (Member.mk x0.Birth x0.Joined t21 t25) (y24, y28)))] ?_
 refine oe (nt (qs (qr (oB 2 [] [2] [(34, (eMember x0 b0)), (54, (eMember (Member.mk x0.Birth x0.Joined t21 t25) (y24, y28))), (54, (eMember (Member.mk x0.Birth x0.Joined t21 t25) (y24, y28)))] ?_))))
 refine oe (nt (qe (rt [vMember (Member.mk x0.Birth x0.Joined t21 t25) (y24, y28)] (fun γ w hs => ?_))))
 rw [← sI h27]
 exact ⟨(y24, y28), rfl, hs.kept.toBelow, (hs.takeR (is := [1, 0]) rfl).fresh⟩

theorem c_laws_toCase {W : World} {x0 : Case} {b0 : AC × AC × AC × AC × AC} {r : Case} (h : laws_toCase x0 = some r) (hv0_0 : SlView W x0.Book.Rules b0.1.1 b0.1.2) (hv0_1 : SlView W x0.Store.Facts b0.2.1.1 b0.2.1.2) (hv0_2 : SlView W x0.Series.Points b0.2.2.1.1 b0.2.2.1.2) (hv0_3 : SlView W x0.Member.Spells b0.2.2.2.1.1 b0.2.2.2.1.2) (hv0_4 : SlView W x0.Member.Events b0.2.2.2.2.1 b0.2.2.2.2.2) :
    Gives Try.prog 17 #[vCase x0 b0] W (fun y : AC × AC × AC × AC × AC => vCase r y) (fun y => [SlRes 78 r.Book.Rules y.1.1 y.1.2, SlRes 88 r.Store.Facts y.2.1.1 y.2.1.2, SlRes 91 r.Series.Points y.2.2.1.1 y.2.2.1.2, SlRes 94 r.Member.Spells y.2.2.2.1.1 y.2.2.2.1.2, SlRes 97 r.Member.Events y.2.2.2.2.1 y.2.2.2.2.2]) := by
 unfold laws_toCase at h
 refine en Try.func17 Try.ntmps17 ?_
 refine qs (qr (oB 2 [(2, .p 1 0), (1, .p 0 0)] [] [(36, (eCase x0 b0)), (56, [.slice none 0 0, .slice none 0 0, .slice none 0 0, .int .i64 0, .int .i64 0, .slice none 0 0, .slice none 0 0])] ?_))
 refine oe (nt (qs (qr (oB 1 [(3, .p 2 0)] [2, 1] [(36, (eCase x0 b0)), (56, [.slice none 0 0, .slice none 0 0, .slice none 0 0, .int .i64 0, .int .i64 0, .slice none 0 0, .slice none 0 0]), (56, [.slice none 0 0, .slice none 0 0, .slice none 0 0, .int .i64 0, .int .i64 0, .slice none 0 0, .slice none 0 0])] ?_))))
 refine oe (nt (qs (qr (oN 2 [(5, .v (vBook x0.Book b0.1))] [3, 2, 1] ?_))))
 obtain ⟨t21, h22, h23⟩ := bS h
 refine k1 (fun γ w hs => c_laws_toBook h22 (hv0_0.kept hs.kept)) (fun y24 => ?_)
 refine oB 2 [] [3, 2, 1] [(36, (eCase x0 b0)), (56, [.slice none 0 0, .slice none 0 0, .slice none 0 0, .int .i64 0, .int .i64 0, .slice none 0 0, .slice none 0 0]), (56, [.slice y24.1 t21.Rules.length y24.2, .slice none 0 0, .slice none 0 0, .int .i64 0, .int .i64 0, .slice none 0 0, .slice none 0 0])] ?_
 refine oe (nt (qs (qr (oN 2 [(9, .v (vStore x0.Store b0.2.1))] [3, 2, 1] ?_))))
 obtain ⟨t25, h26, h27⟩ := bS h23
 refine k1 (fun γ w hs => c_laws_toStore h26 (hv0_1.kept hs.kept)) (fun y28 => ?_)
 refine oB 2 [] [3, 2, 1] [(36, (eCase x0 b0)), (56, [.slice none 0 0, .slice none 0 0, .slice none 0 0, .int .i64 0, .int .i64 0, .slice none 0 0, .slice none 0 0]), (56, [.slice y24.1 t21.Rules.length y24.2, .slice y28.1 t25.Facts.length y28.2, .slice none 0 0, .int .i64 0, .int .i64 0, .slice none 0 0, .slice none 0 0])] ?_
 refine oe (nt (qs (qr (oN 2 [(13, .v (vSeries x0.Series b0.2.2.1))] [3, 2, 1] ?_))))
 obtain ⟨t29, h30, h31⟩ := bS h27
 refine k1 (fun γ w hs => c_laws_toSeries h30 (hv0_2.kept hs.kept)) (fun y32 => ?_)
 refine oB 2 [] [3, 2, 1] [(36, (eCase x0 b0)), (56, [.slice none 0 0, .slice none 0 0, .slice none 0 0, .int .i64 0, .int .i64 0, .slice none 0 0, .slice none 0 0]), (56, (eCase (Case.mk t21 t25 t29 (Member.mk 0 0 ([] : List Spell) ([] : List Event))) (y24, y28, y32, (none, 0), (none, 0))))] ?_
 refine oe (nt (qs (qr (oN 2 [(17, .v (vMember x0.Member b0.2.2.2))] [3, 2] ?_))))
 obtain ⟨t33, h34, h35⟩ := bS h31
 refine k1 (fun γ w hs => c_laws_toMember (b0 := b0.2.2.2) h34 (hv0_3.kept hs.kept) (hv0_4.kept hs.kept)) (fun y36 => ?_)
 refine oB 2 [] [3, 2] [(36, (eCase x0 b0)), (56, [.slice none 0 0, .slice none 0 0, .slice none 0 0, .int .i64 0, .int .i64 0, .slice none 0 0, .slice none 0 0]), (56, (eCase (Case.mk t21 t25 t29 t33) (y24, y28, y32, y36.1, y36.2)))] ?_
 refine oe (nt (qs (qr (oB 2 [] [2] [(36, (eCase x0 b0)), (56, (eCase (Case.mk t21 t25 t29 t33) (y24, y28, y32, y36.1, y36.2))), (56, (eCase (Case.mk t21 t25 t29 t33) (y24, y28, y32, y36.1, y36.2)))] ?_))))
 refine oe (nt (qe (rt [vCase (Case.mk t21 t25 t29 t33) (y24, y28, y32, y36.1, y36.2)] (fun γ w hs => ?_))))
 rw [← sI h35]
 exact ⟨(y24, y28, y32, y36.1, y36.2), rfl, hs.kept.toBelow, (hs.takeR (is := [4, 3, 2, 0, 0]) rfl).fresh⟩

theorem c_laws_toIntS {W : World} {x0 : List Int} {a0_0 : Option Addr} {c0_0 : Nat} {r : (List Int)} (h : laws_toIntS x0 = some r) (hv0_0 : SlView W x0 a0_0 c0_0) :
    Gives Try.prog 18 #[.slice a0_0 x0.length c0_0] W (fun y : AC => .slice y.1 r.length y.2) (fun y => [SlRes 3 r y.1 y.2]) := by
 unfold laws_toIntS at h
 refine en Try.func18 Try.ntmps18 ?_
 refine qs (qr (oN 1 [] [0] ?_))
 refine oe (nt (qs (qr (oN 2 [(6, vi (x0.length : Int))] [0] ?_))))
 obtain ⟨l22, hm23, h24⟩ := bS h
 refine JO_make (α := Int) rfl (by kernel_rfl) (t := 37) (e := 3) (m := (x0.length : Int)) (by kernel_rfl) (i := Try.t3) (by kernel_rfl) (z := (.int .i64 0)) (by kernel_rfl) (by kernel_rfl) (by kernel_rfl) (by kernel_rfl) (fun w => ⟨rfl, rfl⟩) hm23 _ (fun _ => rfl) (fun y21 => ?_)
 refine oN 1 [(3, .v (.slice y21.1 l22.length y21.2))] [0] ?_
 refine oe (nt (qs (qs (qr (oN 1 [(4, vi 0)] [3, 0] ?_)))))
 refine oe (nt ?_)
 obtain ⟨r28, hL29, h30⟩ := bS h24
 obtain ⟨k31, hk32, h30⟩ := brkS h30
 refine JC_cutP (τ := ((List Int)) × (Unit)) (fun y => k31 y.1 = some r) (fun y36 => [(3, .v (.slice y21.1 y36.1.length y21.2))]) (fun y36 => []) (fun y36 => [SlRes 3 y36.1 y21.1 y21.2]) ?_ (fun y36 h37p => ?_)
 · refine qb (lp Unit hL29 (fun s25 y26 => [(4, vi s25.1), (3, .v (.slice y21.1 s25.2.length y21.2)), (0, .v (.slice a0_0 x0.length c0_0))]) (fun s25 y26 => []) (fun s25 y26 => [SlRes 3 s25.2 y21.1 y21.2]) () [4, 3, 0] [0] 0 (fun s25 y26 t27 h33 hd34 => ?_))
   refine qs (qs (qr (oN 4 [(11, vb (decide (s25.1 < (x0.length : Int))))] [4, 3, 0] ?_)))
   refine oe (nt (cC h33 (fun h39 => ?_) (fun h40 => ?_)))
   · refine qk (nt (qs (qb (qr (oN 4 [(17, vi s25.1), (16, .v (.slice a0_0 x0.length c0_0)), (15, vi s25.1), (14, .v (.slice y21.1 s25.2.length y21.2))] [4, 3, 0] ?_)))))
     obtain ⟨x41, hx42, h43⟩ := bS h39
     refine oi 1 (fun γ w hs => (hv0_0.kept hs.kept)) hx42 ?_
     refine ol 3 0 (.int .i64 x41) (fun γ w hs => (hv0_0.kept hs.kept).flatq hx42) ?_
     obtain ⟨x44, hx45, h46⟩ := bS h43
     refine oi 1 (fun γ w hs => (hs.view 0 rfl)) hx45 ?_
     obtain ⟨l47, hm48, h49⟩ := bS h46
     replace hm48 := (sI hm48).symm
     refine JO_storeq (α := Int) (d := y21.1) (vs := [.int .i64 x41]) (j := s25.1) (x' := x41) rfl (by kernel_rfl) 0 (by kernel_rfl) hx45 (Rc := []) (Rr := []) rfl (by kernel_rfl) (fun w c F Fs ho _ _ => own_flat_set (by kernel_rfl) ho) hm48 rfl ?_
     have hl50 := len_set hm48
     refine JO_keep [19, 18, 17, 16, 15, 14, 4, 3, 0] (sl' := [(19, vi x41), (18, .q a0_0 (Int.toNat s25.1 * 1)), (17, vi s25.1), (16, .v (.slice a0_0 x0.length c0_0)), (15, vi s25.1), (14, .v (.slice y21.1 s25.2.length y21.2)), (4, vi s25.1), (3, .v (.slice y21.1 s25.2.length y21.2)), (0, .v (.slice a0_0 x0.length c0_0))]) (by kernel_rfl) ?_
     refine JO_eqE (sl' := [(19, vi x41), (18, .q a0_0 (Int.toNat s25.1 * 1)), (17, vi s25.1), (16, .v (.slice a0_0 x0.length c0_0)), (15, vi s25.1), (14, .v (.slice y21.1 l47.length y21.2)), (4, vi s25.1), (3, .v (.slice y21.1 l47.length y21.2)), (0, .v (.slice a0_0 x0.length c0_0))]) (bx' := []) (by simp only [hl50]) rfl ?_
     refine oe (bn (nt (qr (oN 3 [(4, vi (w64 (s25.1 + 1)))] [3, 0] ?_))))
     exact oe (ct h49 () [4, 3, 0] [0] 0)
   refine qx (nx (nx (bh ?_)))
   have h51 := leafB hd34 h40 h30
   exact mp (s25.2, ()) h51 [3] [0] 0
 have h37 := (congrFun hk32 _).symm.trans h37p
 refine nt (qs (qr (oN 2 [(2, .v (.slice y21.1 y36.1.length y21.2))] [] ?_)))
 refine oe (nt (qe (rt [.slice y21.1 y36.1.length y21.2] (fun γ w hs => ?_))))
 rw [← sI h37]
 exact ⟨y21, rfl, hs.kept.toBelow, (hs.takeR (is := [0]) rfl).fresh⟩

theorem c_laws_toOffice {W : World} {x0 : Office} {b0 : AC × AC × AC × AC × AC × AC} {r : Office} (h : laws_toOffice x0 = some r) (hv0_0 : SlView W x0.Case.Book.Rules b0.1.1 b0.1.2) (hv0_1 : SlView W x0.Case.Store.Facts b0.2.1.1 b0.2.1.2) (hv0_2 : SlView W x0.Case.Series.Points b0.2.2.1.1 b0.2.2.1.2) (hv0_3 : SlView W x0.Case.Member.Spells b0.2.2.2.1.1 b0.2.2.2.1.2) (hv0_4 : SlView W x0.Case.Member.Events b0.2.2.2.2.1.1 b0.2.2.2.2.1.2) (hv0_5 : SlView W x0.Paid b0.2.2.2.2.2.1 b0.2.2.2.2.2.2) :
    Gives Try.prog 7 #[vOffice x0 b0] W (fun y : AC × AC × AC × AC × AC × AC => vOffice r y) (fun y => [SlRes 78 r.Case.Book.Rules y.1.1 y.1.2, SlRes 88 r.Case.Store.Facts y.2.1.1 y.2.1.2, SlRes 91 r.Case.Series.Points y.2.2.1.1 y.2.2.1.2, SlRes 94 r.Case.Member.Spells y.2.2.2.1.1 y.2.2.2.1.2, SlRes 97 r.Case.Member.Events y.2.2.2.2.1.1 y.2.2.2.2.1.2, SlRes 3 r.Paid y.2.2.2.2.2.1 y.2.2.2.2.2.2]) := by
 unfold laws_toOffice at h
 refine en Try.func7 Try.ntmps7 ?_
 refine qs (qr (oB 2 [(2, .p 1 0), (1, .p 0 0)] [] [(39, (eOffice x0 b0)), (58, [.slice none 0 0, .slice none 0 0, .slice none 0 0, .int .i64 0, .int .i64 0, .slice none 0 0, .slice none 0 0, .int .i64 0, .slice none 0 0])] ?_))
 refine oe (nt (qs (qr (oB 1 [(3, .p 2 0)] [2, 1] [(39, (eOffice x0 b0)), (58, [.slice none 0 0, .slice none 0 0, .slice none 0 0, .int .i64 0, .int .i64 0, .slice none 0 0, .slice none 0 0, .int .i64 0, .slice none 0 0]), (58, [.slice none 0 0, .slice none 0 0, .slice none 0 0, .int .i64 0, .int .i64 0, .slice none 0 0, .slice none 0 0, .int .i64 0, .slice none 0 0])] ?_))))
 refine oe (nt (qs (qr (oN 2 [(5, .v (vCase x0.Case (b0.1, b0.2.1, b0.2.2.1, b0.2.2.2.1, b0.2.2.2.2.1)))] [3, 2, 1] ?_))))
 obtain ⟨t21, h22, h23⟩ := bS h
 refine k1 (fun γ w hs => c_laws_toCase (b0 := (b0.1, b0.2.1, b0.2.2.1, b0.2.2.2.1, b0.2.2.2.2.1)) h22 (hv0_0.kept hs.kept) (hv0_1.kept hs.kept) (hv0_2.kept hs.kept) (hv0_3.kept hs.kept) (hv0_4.kept hs.kept)) (fun y24 => ?_)
 refine oB 2 [] [3, 2, 1] [(39, (eOffice x0 b0)), (58, [.slice none 0 0, .slice none 0 0, .slice none 0 0, .int .i64 0, .int .i64 0, .slice none 0 0, .slice none 0 0, .int .i64 0, .slice none 0 0]), (58, (eOffice (Office.mk t21 0 ([] : List Int)) (y24.1, y24.2.1, y24.2.2.1, y24.2.2.2.1, y24.2.2.2.2, (none, 0))))] ?_
 refine oe (nt (qs (qr (oB 4 [] [3, 2, 1] [(39, (eOffice x0 b0)), (58, [.slice none 0 0, .slice none 0 0, .slice none 0 0, .int .i64 0, .int .i64 0, .slice none 0 0, .slice none 0 0, .int .i64 0, .slice none 0 0]), (58, (eOffice (Office.mk t21 x0.Start ([] : List Int)) (y24.1, y24.2.1, y24.2.2.1, y24.2.2.2.1, y24.2.2.2.2, (none, 0))))] ?_))))
 refine oe (nt (qs (qr (oN 2 [(12, .v (.slice b0.2.2.2.2.2.1 x0.Paid.length b0.2.2.2.2.2.2))] [3, 2] ?_))))
 obtain ⟨t25, h26, h27⟩ := bS h23
 refine k1 (fun γ w hs => c_laws_toIntS h26 (hv0_5.kept hs.kept)) (fun y28 => ?_)
 refine oB 2 [] [3, 2] [(39, (eOffice x0 b0)), (58, [.slice none 0 0, .slice none 0 0, .slice none 0 0, .int .i64 0, .int .i64 0, .slice none 0 0, .slice none 0 0, .int .i64 0, .slice none 0 0]), (58, (eOffice (Office.mk t21 x0.Start t25) (y24.1, y24.2.1, y24.2.2.1, y24.2.2.2.1, y24.2.2.2.2, y28)))] ?_
 refine oe (nt (qs (qr (oB 2 [] [2] [(39, (eOffice x0 b0)), (58, (eOffice (Office.mk t21 x0.Start t25) (y24.1, y24.2.1, y24.2.2.1, y24.2.2.2.1, y24.2.2.2.2, y28))), (58, (eOffice (Office.mk t21 x0.Start t25) (y24.1, y24.2.1, y24.2.2.1, y24.2.2.2.1, y24.2.2.2.2, y28)))] ?_))))
 refine oe (nt (qe (rt [vOffice (Office.mk t21 x0.Start t25) (y24.1, y24.2.1, y24.2.2.1, y24.2.2.2.1, y24.2.2.2.2, y28)] (fun γ w hs => ?_))))
 rw [← sI h27]
 exact ⟨(y24.1, y24.2.1, y24.2.2.1, y24.2.2.2.1, y24.2.2.2.2, y28), rfl, hs.kept.toBelow, (hs.takeR (is := [1, 1, 1, 1, 1, 0]) rfl).fresh⟩

theorem c_spec_l39Rules {W : World} {x0 : Book} {a0_0 : Option Addr} {c0_0 : Nat} {x1 : Book} {a1_0 : Option Addr} {c1_0 : Nat} {r : Bool} (h : spec_l39Rules x0 x1 = some r) (hv0_0 : SlView W x0.Rules a0_0 c0_0) (hv1_0 : SlView W x1.Rules a1_0 c1_0) :
    Gives0 Try.prog 25 #[vBook x0 (a0_0, c0_0), vBook x1 (a1_0, c1_0)] W (.bool r) := by
 unfold spec_l39Rules at h
 refine en Try.func25 Try.ntmps25 ?_
 refine qs (qr (oB 3 [(3, .p 1 0), (2, .p 0 0)] [] [(44, (eBook x0 (a0_0, c0_0))), (44, (eBook x1 (a1_0, c1_0)))] ?_))
 refine oe (nt (qs (qs (qr (oN 7 [(15, vb ((x0.Rules.length : Int) != (x1.Rules.length : Int)))] [3, 2] ?_)))))
 refine oe (nt (cC h (fun h22 => ?_) (fun h23 => ?_)))
 · refine qs (qr (oN 1 [(4, vb false)] [] ?_))
   refine oe (nt (qe (nr ?_)))
   obtain rfl := sI h22
   exact re [.bool false]
 refine qk (nt (qs (qs (qr (oN 1 [(5, vi 0)] [3, 2] ?_)))))
 refine oe (nt ?_)
 obtain ⟨r27, hL28, h29⟩ := bS h23
 obtain ⟨k30, hk31, h29⟩ := brkS h29
 refine JC_cutP (τ := (Unit) × (Unit)) (fun y => k30 y.1 = some r) (fun y35 => []) (fun y35 => [(44, (eBook x0 (a0_0, c0_0))), (44, (eBook x1 (a1_0, c1_0)))]) (fun y35 => []) ?_ (fun y35 h36p => ?_)
 · refine qb (lp Unit hL28 (fun s24 y25 => [(5, vi s24), (3, .p 1 0), (2, .p 0 0)]) (fun s24 y25 => [(44, (eBook x0 (a0_0, c0_0))), (44, (eBook x1 (a1_0, c1_0)))]) (fun s24 y25 => []) () [5, 3, 2] [] 2 (fun s24 y25 t26 h32 hd33 => ?_))
   refine qs (qs (qr (oN 5 [(20, vb (decide (s24 < (x0.Rules.length : Int))))] [5, 3, 2] ?_)))
   refine oe (nt (cC h32 (fun h38 => ?_) (fun h39 => ?_)))
   · refine qk (nt (qs (qb (qs (qr (oN 3 [(25, vi s24), (24, .v (.slice a0_0 x0.Rules.length c0_0))] [5, 3, 2] ?_))))))
     obtain ⟨x40, hx41, h42⟩ := bS h38
     refine oi 7 (fun γ w hs => (hv0_0.kept hs.kept)) hx41 ?_
     obtain ⟨_, ⟨a43, c44, rfl, hv45⟩, hc46⟩ := SlView.at hv0_0 (idx_some hx41).2.2
     refine ol 78 0 (vRule x40 (a43, c44)) (fun γ w hs => ⟨(hv0_0.kept hs.kept).ne (idx_some hx41).2.2, hc46.kept hs.kept⟩) ?_
     refine oB 2 [(6, .p 2 0)] [5, 3, 2] [(44, (eBook x0 (a0_0, c0_0))), (44, (eBook x1 (a1_0, c1_0))), (78, (eRule x40 (a43, c44)))] ?_
     refine oe (nt (qs (qr (oN 3 [(30, vi s24), (29, .v (.slice a1_0 x1.Rules.length c1_0))] [6, 5, 3, 2] ?_))))
     obtain ⟨x47, hx48, h49⟩ := bS h42
     refine oi 7 (fun γ w hs => (hv1_0.kept hs.kept)) hx48 ?_
     obtain ⟨_, ⟨a50, c51, rfl, hv52⟩, hc53⟩ := SlView.at hv1_0 (idx_some hx48).2.2
     refine ol 78 0 (vRule x47 (a50, c51)) (fun γ w hs => ⟨(hv1_0.kept hs.kept).ne (idx_some hx48).2.2, hc53.kept hs.kept⟩) ?_
     refine oB 2 [(7, .p 3 0)] [6, 5, 3, 2] [(44, (eBook x0 (a0_0, c0_0))), (44, (eBook x1 (a1_0, c1_0))), (78, (eRule x40 (a43, c44))), (78, (eRule x47 (a50, c51)))] ?_
     refine oe (nt (qs (qs ?_)))
     obtain ⟨p54, hE55, h56⟩ := bS h49
     refine JC_cut (τ := Unit) (fun _ => [(2, .p 0 0), (3, .p 1 0), (5, vi s24), (6, .p 2 0), (7, .p 3 0), (81, vb p54)]) (fun _ => [(44, (eBook x0 (a0_0, c0_0))), (44, (eBook x1 (a1_0, c1_0))), (78, (eRule x40 (a43, c44))), (78, (eRule x47 (a50, c51)))]) (fun _ => []) ?_ (fun _ => ?_)
     · refine qr (oN 6 [(38, vb (x40.Name != x47.Name))] [7, 6, 5, 3, 2] ?_)
       refine oS 38 hE55 (fun h58 => ?_) (fun h59 => ?_)
       · refine oN 43 [(81, vb true)] [7, 6, 5, 3, 2] ?_
         refine oe ?_
         obtain rfl := sI h58
         exact mt () [2, 3, 5, 6, 7, 81] [] 4
       refine oN 7 [(45, vb (x40.From != x47.From))] [7, 6, 5, 3, 2] ?_
       refine oS 45 h59 (fun h61 => ?_) (fun h62 => ?_)
       · refine oN 36 [(81, vb true)] [7, 6, 5, 3, 2] ?_
         refine oe ?_
         obtain rfl := sI h61
         exact mt () [2, 3, 5, 6, 7, 81] [] 4
       refine oN 7 [(52, vb (x40.To != x47.To))] [7, 6, 5, 3, 2] ?_
       refine oS 52 h62 (fun h64 => ?_) (fun h65 => ?_)
       · refine oN 29 [(81, vb true)] [7, 6, 5, 3, 2] ?_
         refine oe ?_
         obtain rfl := sI h64
         exact mt () [2, 3, 5, 6, 7, 81] [] 4
       refine oN 7 [(59, vb (x40.Joined != x47.Joined))] [7, 6, 5, 3, 2] ?_
       refine oS 59 h65 (fun h67 => ?_) (fun h68 => ?_)
       · refine oN 22 [(81, vb true)] [7, 6, 5, 3, 2] ?_
         refine oe ?_
         obtain rfl := sI h67
         exact mt () [2, 3, 5, 6, 7, 81] [] 4
       refine oN 7 [(66, vb (x40.Rank != x47.Rank))] [7, 6, 5, 3, 2] ?_
       refine oS 66 h68 (fun h70 => ?_) (fun h71 => ?_)
       · refine oN 15 [(81, vb true)] [7, 6, 5, 3, 2] ?_
         refine oe ?_
         obtain rfl := sI h70
         exact mt () [2, 3, 5, 6, 7, 81] [] 4
       refine oN 7 [(73, vb (x40.Mode != x47.Mode))] [7, 6, 5, 3, 2] ?_
       refine oS 73 h71 (fun h73 => ?_) (fun h74 => ?_)
       · refine oN 8 [(81, vb true)] [7, 6, 5, 3, 2] ?_
         refine oe ?_
         obtain rfl := sI h73
         exact mt () [2, 3, 5, 6, 7, 81] [] 4
       refine oN 8 [(81, vb ((x40.Nodes.length : Int) != (x47.Nodes.length : Int)))] [7, 6, 5, 3, 2] ?_
       refine oe ?_
       obtain rfl := sI h74
       exact mt () [2, 3, 5, 6, 7, 81] [] 4
     refine nt (cC h56 (fun h76 => ?_) (fun h77 => ?_))
     · refine qs (qr (oN 1 [(4, vb false)] [] ?_))
       refine oe (nt (qe (nr (br (nr (nr ?_))))))
       have h78 := leafR hd33 h76 h29
       refine br (nr (nr ?_))
       obtain rfl := sI h78
       exact re [.bool false]
     refine qk (nt (qs (qr (oN 1 [(8, vi 0)] [2, 3, 5, 6, 7] ?_))))
     refine oe (nt ?_)
     obtain ⟨r82, hL83, h84⟩ := bS h77
     obtain ⟨k85, hk86, h84⟩ := brkS h84
     refine JC_cutP (τ := (Unit) × (Unit)) (fun y => k85 y.1 = some t26) (fun y90 => [(2, .p 0 0), (3, .p 1 0), (5, vi s24)]) (fun y90 => [(44, (eBook x0 (a0_0, c0_0))), (44, (eBook x1 (a1_0, c1_0))), (78, (eRule x40 (a43, c44))), (78, (eRule x47 (a50, c51)))]) (fun y90 => []) ?_ (fun y90 h91p => ?_)
     · refine qb (lp Unit hL83 (fun s79 y80 => [(8, vi s79), (2, .p 0 0), (3, .p 1 0), (5, vi s24), (6, .p 2 0), (7, .p 3 0)]) (fun s79 y80 => [(44, (eBook x0 (a0_0, c0_0))), (44, (eBook x1 (a1_0, c1_0))), (78, (eRule x40 (a43, c44))), (78, (eRule x47 (a50, c51)))]) (fun s79 y80 => []) () [8, 2, 3, 5, 6, 7] [] 4 (fun s79 y80 t81 h87 hd88 => ?_))
       refine qs (qs (qr (oN 5 [(86, vb (decide (s79 < (x40.Nodes.length : Int))))] [8, 2, 3, 5, 6, 7] ?_)))
       refine oe (nt (cC h87 (fun h93 => ?_) (fun h94 => ?_)))
       · refine qk (nt (qs (qb (qs (JC_quiet (by kernel_rfl) (by kernel_rfl) ?_)))))
         refine qN 3 [(91, vi s79), (90, .v (.slice a43 x40.Nodes.length c44))] [8, 2, 3, 5, 6, 7] ?_
         obtain ⟨x95, hx96, h97⟩ := bS h93
         refine qi 6 (fun γ w hs => (hv45.kept hs.kept)) hx96 ?_
         refine ql 83 0 (vNode x95) (fun γ w hs => (hv45.kept hs.kept).flatq hx96) ?_
         refine qN 3 [(96, vi s79), (95, .v (.slice a50 x47.Nodes.length c51))] [93, 8, 2, 3, 5, 6, 7] ?_
         obtain ⟨x98, hx99, h100⟩ := bS h97
         refine qi 6 (fun γ w hs => (hv52.kept hs.kept)) hx99 ?_
         refine ql 83 0 (vNode x98) (fun γ w hs => (hv52.kept hs.kept).flatq hx99) ?_
         refine qN 1 [(99, vb (!((x95.Kind == x98.Kind) && ((x95.A == x98.A) && ((x95.B == x98.B) && ((x95.C == x98.C) && (((x95.Value.Num == x98.Value.Num) && ((x95.Value.Den == x98.Value.Den) && true)) && true)))))))] [8, 2, 3, 5, 6, 7] ?_
         refine qz (nt (cC h100 (fun h102 => ?_) (fun h103 => ?_)))
         · refine qs (qr (oN 1 [(4, vb false)] [] ?_))
           refine oe (nt (qe (br (nr (nr ?_)))))
           have h104 := leafR hd88 h102 h84
           refine br (nr (br (nr (nr ?_))))
           have h105 := leafR hd33 h104 h29
           refine br (nr (nr ?_))
           obtain rfl := sI h105
           exact re [.bool false]
         refine qk (bn (nt (qr (oN 3 [(8, vi (w64 (s79 + 1)))] [2, 3, 5, 6, 7] ?_))))
         exact oe (ct h103 () [8, 2, 3, 5, 6, 7] [] 4)
       refine qx (nx (nx (bh ?_)))
       have h106 := leafB hd88 h94 h84
       exact mp ((), ()) h106 [2, 3, 5] [] 4
     have h91 := (congrFun hk86 _).symm.trans h91p
     refine bn (nt (qr (oN 3 [(5, vi (w64 (s24 + 1)))] [2, 3] ?_)))
     exact oe (ct h91 () [5, 3, 2] [] 2)
   refine qx (nx (nx (bh ?_)))
   have h107 := leafB hd33 h39 h29
   exact mp ((), ()) h107 [] [] 2
 have h36 := (congrFun hk31 _).symm.trans h36p
 refine nt (qs (qr (oN 1 [(4, vb true)] [] ?_)))
 refine oe (nt (qe ?_))
 obtain rfl := sI h36
 exact re [.bool true]

theorem c_spec_l39Member {W : World} {x0 : Member} {b0 : AC × AC} {x1 : Member} {b1 : AC × AC} {r : Bool} (h : spec_l39Member x0 x1 = some r) (hv0_0 : SlView W x0.Spells b0.1.1 b0.1.2) (hv0_1 : SlView W x0.Events b0.2.1 b0.2.2) (hv1_0 : SlView W x1.Spells b1.1.1 b1.1.2) (hv1_1 : SlView W x1.Events b1.2.1 b1.2.2) :
    Gives0 Try.prog 26 #[vMember x0 b0, vMember x1 b1] W (.bool r) := by
 unfold spec_l39Member at h
 refine en Try.func26 Try.ntmps26 ?_
 refine qs (qr (oB 3 [(3, .p 1 0), (2, .p 0 0)] [] [(54, (eMember x0 b0)), (54, (eMember x1 b1))] ?_))
 refine oe (nt (qs (qs ?_)))
 obtain ⟨p21, hE22, h23⟩ := bS h
 refine JC_cut (τ := Unit) (fun _ => [(2, .p 0 0), (3, .p 1 0), (36, vb p21)]) (fun _ => [(54, (eMember x0 b0)), (54, (eMember x1 b1))]) (fun _ => []) ?_ (fun _ => ?_)
 · refine qr (oN 6 [(12, vb (x0.Birth != x1.Birth))] [3, 2] ?_)
   refine oS 12 hE22 (fun h25 => ?_) (fun h26 => ?_)
   · refine oN 24 [(36, vb true)] [3, 2] ?_
     refine oe ?_
     obtain rfl := sI h25
     exact mt () [2, 3, 36] [] 2
   refine oN 7 [(19, vb (x0.Joined != x1.Joined))] [3, 2] ?_
   refine oS 19 h26 (fun h28 => ?_) (fun h29 => ?_)
   · refine oN 17 [(36, vb true)] [3, 2] ?_
     refine oe ?_
     obtain rfl := sI h28
     exact mt () [2, 3, 36] [] 2
   refine oN 9 [(28, vb ((x0.Spells.length : Int) != (x1.Spells.length : Int)))] [3, 2] ?_
   refine oS 28 h29 (fun h31 => ?_) (fun h32 => ?_)
   · refine oN 8 [(36, vb true)] [3, 2] ?_
     refine oe ?_
     obtain rfl := sI h31
     exact mt () [2, 3, 36] [] 2
   refine oN 8 [(36, vb ((x0.Events.length : Int) != (x1.Events.length : Int)))] [3, 2] ?_
   refine oe ?_
   obtain rfl := sI h32
   exact mt () [2, 3, 36] [] 2
 refine nt (cC h23 (fun h34 => ?_) (fun h35 => ?_))
 · refine qs (qr (oN 1 [(4, vb false)] [] ?_))
   refine oe (nt (qe (nr ?_)))
   obtain rfl := sI h34
   exact re [.bool false]
 refine qk (nt (qs (qs (qr (oN 1 [(5, vi 0)] [2, 3] ?_)))))
 refine oe (nt ?_)
 obtain ⟨r39, hL40, h41⟩ := bS h35
 obtain ⟨k42, hk43, h41⟩ := brkS h41
 refine JC_cutP (τ := (Int × Int × Int × Int) × (Unit)) (fun y => k42 y.1 = some r) (fun y47 => [(2, .p 0 0), (3, .p 1 0)]) (fun y47 => [(54, (eMember (Member.mk y47.1.1 y47.1.2.1 x0.Spells x0.Events) b0)), (54, (eMember (Member.mk y47.1.2.2.1 y47.1.2.2.2 x1.Spells x1.Events) b1))]) (fun y47 => []) ?_ (fun y47 h48p => ?_)
 · refine qb (lp Unit hL40 (fun s36 y37 => [(5, vi s36), (2, .p 0 0), (3, .p 1 0)]) (fun s36 y37 => [(54, (eMember x0 b0)), (54, (eMember x1 b1))]) (fun s36 y37 => []) () [5, 2, 3] [] 2 (fun s36 y37 t38 h44 hd45 => ?_))
   refine qs (qs (qr (oN 5 [(41, vb (decide (s36 < (x0.Spells.length : Int))))] [5, 2, 3] ?_)))
   refine oe (nt (cC h44 (fun h77 => ?_) (fun h78 => ?_)))
   · refine qk (nt (qs (qb (qs (JC_quiet (by kernel_rfl) (by kernel_rfl) ?_)))))
     refine qN 3 [(46, vi s36), (45, .v (.slice b0.1.1 x0.Spells.length b0.1.2))] [5, 2, 3] ?_
     obtain ⟨x79, hx80, h81⟩ := bS h77
     refine qi 4 (fun γ w hs => (hv0_0.kept hs.kept)) hx80 ?_
     refine ql 94 0 (vSpell x79) (fun γ w hs => (hv0_0.kept hs.kept).flatq hx80) ?_
     refine qN 3 [(51, vi s36), (50, .v (.slice b1.1.1 x1.Spells.length b1.1.2))] [48, 5, 2, 3] ?_
     obtain ⟨x82, hx83, h84⟩ := bS h81
     refine qi 4 (fun γ w hs => (hv1_0.kept hs.kept)) hx83 ?_
     refine ql 94 0 (vSpell x82) (fun γ w hs => (hv1_0.kept hs.kept).flatq hx83) ?_
     refine qN 1 [(54, vb (!((x79.From == x82.From) && ((x79.To == x82.To) && ((x79.Percent == x82.Percent) && ((x79.Leave == x82.Leave) && true))))))] [5, 2, 3] ?_
     refine qz (nt (cC h84 (fun h86 => ?_) (fun h87 => ?_)))
     · refine qs (qr (oN 1 [(4, vb false)] [] ?_))
       refine oe (nt (qe (br (nr (nr ?_)))))
       have h88 := leafR hd45 h86 h41
       refine br (nr (nr ?_))
       obtain rfl := sI h88
       exact re [.bool false]
     refine qk (bn (nt (qr (oN 3 [(5, vi (w64 (s36 + 1)))] [2, 3] ?_))))
     exact oe (ct h87 () [5, 2, 3] [] 2)
   refine qx (nx (nx (bh ?_)))
   have h89 := leafB hd45 h78 h41
   exact mp ((x0.Birth, x0.Joined, x1.Birth, x1.Joined), ()) h89 [2, 3] [] 2
 have h48 := (congrFun hk43 _).symm.trans h48p
 refine nt (qs (qs (qr (oN 1 [(6, vi 0)] [2, 3] ?_))))
 refine oe (nt ?_)
 obtain ⟨r52, hL53, h54⟩ := bS h48
 obtain ⟨k55, hk56, h54⟩ := brkS h54
 refine JC_cutP (τ := (Int × Int × Int × Int) × (Unit)) (fun y => k55 y.1 = some r) (fun y60 => []) (fun y60 => [(54, (eMember (Member.mk y60.1.1 y60.1.2.1 x0.Spells x0.Events) b0)), (54, (eMember (Member.mk y60.1.2.2.1 y60.1.2.2.2 x1.Spells x1.Events) b1))]) (fun y60 => []) ?_ (fun y60 h61p => ?_)
 · refine qb (lp Unit hL53 (fun s49 y50 => [(6, vi s49), (2, .p 0 0), (3, .p 1 0)]) (fun s49 y50 => [(54, (eMember (Member.mk y47.1.1 y47.1.2.1 x0.Spells x0.Events) b0)), (54, (eMember (Member.mk y47.1.2.2.1 y47.1.2.2.2 x1.Spells x1.Events) b1))]) (fun s49 y50 => []) () [6, 2, 3] [] 2 (fun s49 y50 t51 h57 hd58 => ?_))
   refine qs (qs (qr (oN 5 [(59, vb (decide (s49 < (x0.Events.length : Int))))] [6, 2, 3] ?_)))
   refine oe (nt (cC h57 (fun h63 => ?_) (fun h64 => ?_)))
   · refine qk (nt (qs (qb (qs (JC_quiet (by kernel_rfl) (by kernel_rfl) ?_)))))
     refine qN 3 [(64, vi s49), (63, .v (.slice b0.2.1 x0.Events.length b0.2.2))] [6, 2, 3] ?_
     obtain ⟨x65, hx66, h67⟩ := bS h63
     refine qi 2 (fun γ w hs => (hv0_1.kept hs.kept)) hx66 ?_
     refine ql 97 0 (vEvent x65) (fun γ w hs => (hv0_1.kept hs.kept).flatq hx66) ?_
     refine qN 3 [(69, vi s49), (68, .v (.slice b1.2.1 x1.Events.length b1.2.2))] [66, 6, 2, 3] ?_
     obtain ⟨x68, hx69, h70⟩ := bS h67
     refine qi 2 (fun γ w hs => (hv1_1.kept hs.kept)) hx69 ?_
     refine ql 97 0 (vEvent x68) (fun γ w hs => (hv1_1.kept hs.kept).flatq hx69) ?_
     refine qN 1 [(72, vb (!((x65.Kind == x68.Kind) && ((x65.Month == x68.Month) && true))))] [6, 2, 3] ?_
     refine qz (nt (cC h70 (fun h72 => ?_) (fun h73 => ?_)))
     · refine qs (qr (oN 1 [(4, vb false)] [] ?_))
       refine oe (nt (qe (br (nr (nr ?_)))))
       have h74 := leafR hd58 h72 h54
       refine br (nr (nr ?_))
       obtain rfl := sI h74
       exact re [.bool false]
     refine qk (bn (nt (qr (oN 3 [(6, vi (w64 (s49 + 1)))] [2, 3] ?_))))
     exact oe (ct h73 () [6, 2, 3] [] 2)
   refine qx (nx (nx (bh ?_)))
   have h75 := leafB hd58 h64 h54
   exact mp ((y47.1.1, y47.1.2.1, y47.1.2.2.1, y47.1.2.2.2), ()) h75 [] [] 2
 have h61 := (congrFun hk56 _).symm.trans h61p
 refine nt (qs (qr (oN 1 [(4, vb true)] [] ?_)))
 refine oe (nt (qe ?_))
 obtain rfl := sI h61
 exact re [.bool true]

theorem c_spec_l39Times {W : World} {x0 : Case} {b0 : AC × AC × AC × AC × AC} {x1 : Case} {b1 : AC × AC × AC × AC × AC} {r : Bool} (h : spec_l39Times x0 x1 = some r) (hv0_0 : SlView W x0.Book.Rules b0.1.1 b0.1.2) (hv0_1 : SlView W x0.Store.Facts b0.2.1.1 b0.2.1.2) (hv0_2 : SlView W x0.Series.Points b0.2.2.1.1 b0.2.2.1.2) (hv0_3 : SlView W x0.Member.Spells b0.2.2.2.1.1 b0.2.2.2.1.2) (hv0_4 : SlView W x0.Member.Events b0.2.2.2.2.1 b0.2.2.2.2.2) (hv1_0 : SlView W x1.Book.Rules b1.1.1 b1.1.2) (hv1_1 : SlView W x1.Store.Facts b1.2.1.1 b1.2.1.2) (hv1_2 : SlView W x1.Series.Points b1.2.2.1.1 b1.2.2.1.2) (hv1_3 : SlView W x1.Member.Spells b1.2.2.2.1.1 b1.2.2.2.1.2) (hv1_4 : SlView W x1.Member.Events b1.2.2.2.2.1 b1.2.2.2.2.2) :
    Gives0 Try.prog 27 #[vCase x0 b0, vCase x1 b1] W (.bool r) := by
 unfold spec_l39Times at h
 refine en Try.func27 Try.ntmps27 ?_
 refine qs (qr (oB 3 [(3, .p 1 0), (2, .p 0 0)] [] [(56, (eCase x0 b0)), (56, (eCase x1 b1))] ?_))
 refine oe (nt (qs (qs ?_)))
 obtain ⟨p21, hE22, h23⟩ := bS h
 refine JC_cut (τ := Unit) (fun _ => [(2, .p 0 0), (3, .p 1 0), (26, vb p21)]) (fun _ => [(56, (eCase x0 b0)), (56, (eCase x1 b1))]) (fun _ => []) ?_ (fun _ => ?_)
 · refine qr (oN 10 [(16, vb ((x0.Store.Facts.length : Int) != (x1.Store.Facts.length : Int)))] [3, 2] ?_)
   refine oS 16 hE22 (fun h25 => ?_) (fun h26 => ?_)
   · refine oN 10 [(26, vb true)] [3, 2] ?_
     refine oe ?_
     obtain rfl := sI h25
     exact mt () [2, 3, 26] [] 2
   refine oN 10 [(26, vb ((x0.Series.Points.length : Int) != (x1.Series.Points.length : Int)))] [3, 2] ?_
   refine oe ?_
   obtain rfl := sI h26
   exact mt () [2, 3, 26] [] 2
 refine nt (cC h23 (fun h28 => ?_) (fun h29 => ?_))
 · refine qs (qr (oN 1 [(4, vb false)] [] ?_))
   refine oe (nt (qe (nr ?_)))
   obtain rfl := sI h28
   exact re [.bool false]
 refine qk (nt (qs (qs (qr (oN 1 [(5, vi 0)] [2, 3] ?_)))))
 refine oe (nt ?_)
 obtain ⟨r33, hL34, h35⟩ := bS h29
 obtain ⟨k36, hk37, h35⟩ := brkS h35
 refine JC_cutP (τ := (Int × Int × Int × Int) × (Unit)) (fun y => k36 y.1 = some r) (fun y41 => [(2, .p 0 0), (3, .p 1 0)]) (fun y41 => [(56, (eCase (Case.mk x0.Book x0.Store x0.Series (Member.mk y41.1.1 y41.1.2.1 x0.Member.Spells x0.Member.Events)) b0)), (56, (eCase (Case.mk x1.Book x1.Store x1.Series (Member.mk y41.1.2.2.1 y41.1.2.2.2 x1.Member.Spells x1.Member.Events)) b1))]) (fun y41 => []) ?_ (fun y41 h42p => ?_)
 · refine qb (lp Unit hL34 (fun s30 y31 => [(5, vi s30), (2, .p 0 0), (3, .p 1 0)]) (fun s30 y31 => [(56, (eCase x0 b0)), (56, (eCase x1 b1))]) (fun s30 y31 => []) () [5, 2, 3] [] 2 (fun s30 y31 t32 h38 hd39 => ?_))
   refine qs (qs (qr (oN 6 [(32, vb (decide (s30 < (x0.Store.Facts.length : Int))))] [5, 2, 3] ?_)))
   refine oe (nt (cC h38 (fun h71 => ?_) (fun h72 => ?_)))
   · refine qk (nt (qs (qb (qs (JC_quiet (by kernel_rfl) (by kernel_rfl) ?_)))))
     refine qN 4 [(38, vi s30), (37, .v (.slice b0.2.1.1 x0.Store.Facts.length b0.2.1.2))] [5, 2, 3] ?_
     obtain ⟨x73, hx74, h75⟩ := bS h71
     refine qi 5 (fun γ w hs => (hv0_1.kept hs.kept)) hx74 ?_
     refine ql 88 0 (vFact x73) (fun γ w hs => (hv0_1.kept hs.kept).flatq hx74) ?_
     refine qN 4 [(44, vi s30), (43, .v (.slice b1.2.1.1 x1.Store.Facts.length b1.2.1.2))] [40, 5, 2, 3] ?_
     obtain ⟨x76, hx77, h78⟩ := bS h75
     refine qi 5 (fun γ w hs => (hv1_1.kept hs.kept)) hx77 ?_
     refine ql 88 0 (vFact x76) (fun γ w hs => (hv1_1.kept hs.kept).flatq hx77) ?_
     refine qN 1 [(47, vb (!((x73.Key == x76.Key) && ((x73.From == x76.From) && ((x73.To == x76.To) && ((x73.Known == x76.Known) && ((x73.Value == x76.Value) && true)))))))] [5, 2, 3] ?_
     refine qz (nt (cC h78 (fun h80 => ?_) (fun h81 => ?_)))
     · refine qs (qr (oN 1 [(4, vb false)] [] ?_))
       refine oe (nt (qe (br (nr (nr ?_)))))
       have h82 := leafR hd39 h80 h35
       refine br (nr (nr ?_))
       obtain rfl := sI h82
       exact re [.bool false]
     refine qk (bn (nt (qr (oN 3 [(5, vi (w64 (s30 + 1)))] [2, 3] ?_))))
     exact oe (ct h81 () [5, 2, 3] [] 2)
   refine qx (nx (nx (bh ?_)))
   have h83 := leafB hd39 h72 h35
   exact mp ((x0.Member.Birth, x0.Member.Joined, x1.Member.Birth, x1.Member.Joined), ()) h83 [2, 3] [] 2
 have h42 := (congrFun hk37 _).symm.trans h42p
 refine nt (qs (qs (qr (oN 1 [(6, vi 0)] [2, 3] ?_))))
 refine oe (nt ?_)
 obtain ⟨r46, hL47, h48⟩ := bS h42
 obtain ⟨k49, hk50, h48⟩ := brkS h48
 refine JC_cutP (τ := (Int × Int × Int × Int) × (Unit)) (fun y => k49 y.1 = some r) (fun y54 => []) (fun y54 => [(56, (eCase (Case.mk x0.Book x0.Store x0.Series (Member.mk y54.1.1 y54.1.2.1 x0.Member.Spells x0.Member.Events)) b0)), (56, (eCase (Case.mk x1.Book x1.Store x1.Series (Member.mk y54.1.2.2.1 y54.1.2.2.2 x1.Member.Spells x1.Member.Events)) b1))]) (fun y54 => []) ?_ (fun y54 h55p => ?_)
 · refine qb (lp Unit hL47 (fun s43 y44 => [(6, vi s43), (2, .p 0 0), (3, .p 1 0)]) (fun s43 y44 => [(56, (eCase (Case.mk x0.Book x0.Store x0.Series (Member.mk y41.1.1 y41.1.2.1 x0.Member.Spells x0.Member.Events)) b0)), (56, (eCase (Case.mk x1.Book x1.Store x1.Series (Member.mk y41.1.2.2.1 y41.1.2.2.2 x1.Member.Spells x1.Member.Events)) b1))]) (fun s43 y44 => []) () [6, 2, 3] [] 2 (fun s43 y44 t45 h51 hd52 => ?_))
   refine qs (qs (qr (oN 6 [(53, vb (decide (s43 < (x0.Series.Points.length : Int))))] [6, 2, 3] ?_)))
   refine oe (nt (cC h51 (fun h57 => ?_) (fun h58 => ?_)))
   · refine qk (nt (qs (qb (qs (JC_quiet (by kernel_rfl) (by kernel_rfl) ?_)))))
     refine qN 4 [(59, vi s43), (58, .v (.slice b0.2.2.1.1 x0.Series.Points.length b0.2.2.1.2))] [6, 2, 3] ?_
     obtain ⟨x59, hx60, h61⟩ := bS h57
     refine qi 3 (fun γ w hs => (hv0_2.kept hs.kept)) hx60 ?_
     refine ql 91 0 (vPoint x59) (fun γ w hs => (hv0_2.kept hs.kept).flatq hx60) ?_
     refine qN 4 [(65, vi s43), (64, .v (.slice b1.2.2.1.1 x1.Series.Points.length b1.2.2.1.2))] [61, 6, 2, 3] ?_
     obtain ⟨x62, hx63, h64⟩ := bS h61
     refine qi 3 (fun γ w hs => (hv1_2.kept hs.kept)) hx63 ?_
     refine ql 91 0 (vPoint x62) (fun γ w hs => (hv1_2.kept hs.kept).flatq hx63) ?_
     refine qN 1 [(68, vb (!((x59.Month == x62.Month) && ((x59.Known == x62.Known) && ((x59.Value == x62.Value) && true)))))] [6, 2, 3] ?_
     refine qz (nt (cC h64 (fun h66 => ?_) (fun h67 => ?_)))
     · refine qs (qr (oN 1 [(4, vb false)] [] ?_))
       refine oe (nt (qe (br (nr (nr ?_)))))
       have h68 := leafR hd52 h66 h48
       refine br (nr (nr ?_))
       obtain rfl := sI h68
       exact re [.bool false]
     refine qk (bn (nt (qr (oN 3 [(6, vi (w64 (s43 + 1)))] [2, 3] ?_))))
     exact oe (ct h67 () [6, 2, 3] [] 2)
   refine qx (nx (nx (bh ?_)))
   have h69 := leafB hd52 h58 h48
   exact mp ((y41.1.1, y41.1.2.1, y41.1.2.2.1, y41.1.2.2.2), ()) h69 [] [] 2
 have h55 := (congrFun hk50 _).symm.trans h55p
 refine nt (qs (qr (oN 1 [(4, vb true)] [] ?_)))
 refine oe (nt (qe ?_))
 obtain rfl := sI h55
 exact re [.bool true]

theorem c_spec_SameOffice {W : World} {x0 : Office} {b0 : AC × AC × AC × AC × AC × AC} {x1 : Office} {b1 : AC × AC × AC × AC × AC × AC} {r : Bool} (h : spec_SameOffice x0 x1 = some r) (hv0_0 : SlView W x0.Case.Book.Rules b0.1.1 b0.1.2) (hv0_1 : SlView W x0.Case.Store.Facts b0.2.1.1 b0.2.1.2) (hv0_2 : SlView W x0.Case.Series.Points b0.2.2.1.1 b0.2.2.1.2) (hv0_3 : SlView W x0.Case.Member.Spells b0.2.2.2.1.1 b0.2.2.2.1.2) (hv0_4 : SlView W x0.Case.Member.Events b0.2.2.2.2.1.1 b0.2.2.2.2.1.2) (hv0_5 : SlView W x0.Paid b0.2.2.2.2.2.1 b0.2.2.2.2.2.2) (hv1_0 : SlView W x1.Case.Book.Rules b1.1.1 b1.1.2) (hv1_1 : SlView W x1.Case.Store.Facts b1.2.1.1 b1.2.1.2) (hv1_2 : SlView W x1.Case.Series.Points b1.2.2.1.1 b1.2.2.1.2) (hv1_3 : SlView W x1.Case.Member.Spells b1.2.2.2.1.1 b1.2.2.2.1.2) (hv1_4 : SlView W x1.Case.Member.Events b1.2.2.2.2.1.1 b1.2.2.2.2.1.2) (hv1_5 : SlView W x1.Paid b1.2.2.2.2.2.1 b1.2.2.2.2.2.2) :
    Gives0 Try.prog 10 #[vOffice x0 b0, vOffice x1 b1] W (.bool r) := by
 unfold spec_SameOffice at h
 refine en Try.func10 Try.ntmps10 ?_
 refine qs (qr (oB 3 [(3, .p 1 0), (2, .p 0 0)] [] [(58, (eOffice x0 b0)), (58, (eOffice x1 b1))] ?_))
 refine oe (nt (qs (qs ?_)))
 obtain ⟨p21, hE22, h23⟩ := bS h
 refine JC_cut (τ := Unit) (fun _ => [(2, .p 0 0), (3, .p 1 0), (47, vb p21)]) (fun _ => [(58, (eOffice x0 b0)), (58, (eOffice x1 b1))]) (fun _ => []) ?_ (fun _ => ?_)
 · refine qr (oN 6 [(11, vb (x0.Start != x1.Start))] [3, 2] ?_)
   refine oS 11 hE22 (fun h25 => ?_) (fun h26 => ?_)
   · refine oN 36 [(47, vb true)] [3, 2] ?_
     refine oe ?_
     obtain rfl := sI h25
     exact mt () [2, 3, 47] [] 2
   refine oN 9 [(20, vb ((x0.Paid.length : Int) != (x1.Paid.length : Int)))] [3, 2] ?_
   refine oS 20 h26 (fun h28 => ?_) (fun h29 => ?_)
   · refine oN 27 [(47, vb true)] [3, 2] ?_
     refine oe ?_
     obtain rfl := sI h28
     exact mt () [2, 3, 47] [] 2
   refine oN 6 [(26, .v (vBook x1.Case.Book b1.1)), (23, .v (vBook x0.Case.Book b0.1))] [20, 3, 2] ?_
   obtain ⟨t30, h31, h32⟩ := bS h29
   refine k0 (fun γ w hs => c_spec_l39Rules h31 (hv0_0.kept hs.kept) (hv1_0.kept hs.kept)) ?_
   refine oN 3 [(30, vb (!t30))] [3, 2] ?_
   refine oS 30 h32 (fun h35 => ?_) (fun h36 => ?_)
   · refine oN 17 [(47, vb true)] [3, 2] ?_
     refine oe ?_
     obtain rfl := sI h35
     exact mt () [2, 3, 47] [] 2
   refine oN 6 [(36, .v (vMember x1.Case.Member (b1.2.2.2.1, b1.2.2.2.2.1))), (33, .v (vMember x0.Case.Member (b0.2.2.2.1, b0.2.2.2.2.1)))] [30, 3, 2] ?_
   obtain ⟨t37, h38, h39⟩ := bS h36
   refine k0 (fun γ w hs => c_spec_l39Member (b0 := (b0.2.2.2.1, b0.2.2.2.2.1)) (b1 := (b1.2.2.2.1, b1.2.2.2.2.1)) h38 (hv0_3.kept hs.kept) (hv0_4.kept hs.kept) (hv1_3.kept hs.kept) (hv1_4.kept hs.kept)) ?_
   refine oN 3 [(40, vb (!t37))] [3, 2] ?_
   refine oS 40 h39 (fun h42 => ?_) (fun h43 => ?_)
   · refine oN 7 [(47, vb true)] [3, 2] ?_
     refine oe ?_
     obtain rfl := sI h42
     exact mt () [2, 3, 47] [] 2
   refine oN 4 [(44, .v (vCase x1.Case (b1.1, b1.2.1, b1.2.2.1, b1.2.2.2.1, b1.2.2.2.2.1))), (42, .v (vCase x0.Case (b0.1, b0.2.1, b0.2.2.1, b0.2.2.2.1, b0.2.2.2.2.1)))] [40, 3, 2] ?_
   obtain ⟨t44, h45, h46⟩ := bS h43
   refine k0 (fun γ w hs => c_spec_l39Times (b0 := (b0.1, b0.2.1, b0.2.2.1, b0.2.2.2.1, b0.2.2.2.2.1)) (b1 := (b1.1, b1.2.1, b1.2.2.1, b1.2.2.2.1, b1.2.2.2.2.1)) h45 (hv0_0.kept hs.kept) (hv0_1.kept hs.kept) (hv0_2.kept hs.kept) (hv0_3.kept hs.kept) (hv0_4.kept hs.kept) (hv1_0.kept hs.kept) (hv1_1.kept hs.kept) (hv1_2.kept hs.kept) (hv1_3.kept hs.kept) (hv1_4.kept hs.kept)) ?_
   refine oN 2 [(47, vb (!t44))] [3, 2] ?_
   refine oe ?_
   obtain rfl := sI h46
   exact mt () [2, 3, 47] [] 2
 refine nt (cC h23 (fun h49 => ?_) (fun h50 => ?_))
 · refine qs (qr (oN 1 [(4, vb false)] [] ?_))
   refine oe (nt (qe (nr ?_)))
   obtain rfl := sI h49
   exact re [.bool false]
 refine qk (nt (qs (qs (qr (oN 1 [(5, vi 0)] [2, 3] ?_)))))
 refine oe (nt ?_)
 obtain ⟨r54, hL55, h56⟩ := bS h50
 obtain ⟨k57, hk58, h56⟩ := brkS h56
 refine JC_cutP (τ := (Int × Int × Int × Int × Int × Int) × (Unit)) (fun y => k57 y.1 = some r) (fun y62 => []) (fun y62 => [(58, (eOffice (Office.mk (Case.mk x0.Case.Book x0.Case.Store x0.Case.Series (Member.mk y62.1.1 y62.1.2.1 x0.Case.Member.Spells x0.Case.Member.Events)) y62.1.2.2.1 x0.Paid) b0)), (58, (eOffice (Office.mk (Case.mk x1.Case.Book x1.Case.Store x1.Case.Series (Member.mk y62.1.2.2.2.1 y62.1.2.2.2.2.1 x1.Case.Member.Spells x1.Case.Member.Events)) y62.1.2.2.2.2.2 x1.Paid) b1))]) (fun y62 => []) ?_ (fun y62 h63p => ?_)
 · refine qb (lp Unit hL55 (fun s51 y52 => [(5, vi s51), (2, .p 0 0), (3, .p 1 0)]) (fun s51 y52 => [(58, (eOffice x0 b0)), (58, (eOffice x1 b1))]) (fun s51 y52 => []) () [5, 2, 3] [] 2 (fun s51 y52 t53 h59 hd60 => ?_))
   refine qs (qs (qr (oN 5 [(52, vb (decide (s51 < (x0.Paid.length : Int))))] [5, 2, 3] ?_)))
   refine oe (nt (cC h59 (fun h65 => ?_) (fun h66 => ?_)))
   · refine qk (nt (qs (qb (qs (JC_quiet (by kernel_rfl) (by kernel_rfl) ?_)))))
     refine qN 3 [(57, vi s51), (56, .v (.slice b0.2.2.2.2.2.1 x0.Paid.length b0.2.2.2.2.2.2))] [5, 2, 3] ?_
     obtain ⟨x67, hx68, h69⟩ := bS h65
     refine qi 1 (fun γ w hs => (hv0_5.kept hs.kept)) hx68 ?_
     refine ql 3 0 (.int .i64 x67) (fun γ w hs => (hv0_5.kept hs.kept).flatq hx68) ?_
     refine qN 3 [(62, vi s51), (61, .v (.slice b1.2.2.2.2.2.1 x1.Paid.length b1.2.2.2.2.2.2))] [59, 5, 2, 3] ?_
     obtain ⟨x70, hx71, h72⟩ := bS h69
     refine qi 1 (fun γ w hs => (hv1_5.kept hs.kept)) hx71 ?_
     refine ql 3 0 (.int .i64 x70) (fun γ w hs => (hv1_5.kept hs.kept).flatq hx71) ?_
     refine qN 1 [(65, vb (x67 != x70))] [5, 2, 3] ?_
     refine qz (nt (cC h72 (fun h74 => ?_) (fun h75 => ?_)))
     · refine qs (qr (oN 1 [(4, vb false)] [] ?_))
       refine oe (nt (qe (br (nr (nr ?_)))))
       have h76 := leafR hd60 h74 h56
       refine br (nr (nr ?_))
       obtain rfl := sI h76
       exact re [.bool false]
     refine qk (bn (nt (qr (oN 3 [(5, vi (w64 (s51 + 1)))] [2, 3] ?_))))
     exact oe (ct h75 () [5, 2, 3] [] 2)
   refine qx (nx (nx (bh ?_)))
   have h77 := leafB hd60 h66 h56
   exact mp ((x0.Case.Member.Birth, x0.Case.Member.Joined, x0.Start, x1.Case.Member.Birth, x1.Case.Member.Joined, x1.Start), ()) h77 [] [] 2
 have h63 := (congrFun hk58 _).symm.trans h63p
 refine nt (qs (qr (oN 1 [(4, vb true)] [] ?_)))
 refine oe (nt (qe ?_))
 obtain rfl := sI h63
 exact re [.bool true]

theorem c_slices_Equal_Node {W : World} {x0 : List Node} {a0_0 : Option Addr} {c0_0 : Nat} {x1 : List Node} {a1_0 : Option Addr} {c1_0 : Nat} {r : Bool} (h : slices_Equal_Node x0 x1 = some r) (hv0_0 : SlView W x0 a0_0 c0_0) (hv1_0 : SlView W x1 a1_0 c1_0) :
    Gives0 Try.prog 29 #[.slice a0_0 x0.length c0_0, .slice a1_0 x1.length c1_0] W (.bool r) := by
 unfold slices_Equal_Node at h
 refine en Try.func29 Try.ntmps29 ?_
 refine qs (qr (oN 1 [] [0, 1] ?_))
 refine oe (nt (qs (qs (qr (oN 5 [(10, vb ((x0.length : Int) != (x1.length : Int)))] [0, 1] ?_)))))
 refine oe (nt (cC h (fun h22 => ?_) (fun h23 => ?_)))
 · refine qs (qr (oN 1 [(4, vb false)] [] ?_))
   refine oe (nt (qe (nr ?_)))
   obtain rfl := sI h22
   exact re [.bool false]
 refine qk (nt (qs (qs (qr (oN 3 [(13, vi 0), (12, vi (x0.length : Int))] [0, 1] ?_)))))
 refine oe (nt ?_)
 obtain ⟨r27, hL28, h29⟩ := bS h23
 obtain ⟨k30, hk31, h29⟩ := brkS h29
 refine JC_cutP (τ := (Unit) × (Unit)) (fun y => k30 y.1 = some r) (fun y35 => []) (fun y35 => []) (fun y35 => []) ?_ (fun y35 h36p => ?_)
 · refine qb (lp Unit hL28 (fun s24 y25 => [(13, vi s24), (12, vi (x0.length : Int)), (0, .v (.slice a0_0 x0.length c0_0)), (1, .v (.slice a1_0 x1.length c1_0))]) (fun s24 y25 => []) (fun s24 y25 => []) () [13, 12, 0, 1] [] 0 (fun s24 y25 t26 h32 hd33 => ?_))
   refine qs (qr (oN 1 [(14, vb (decide (s24 < (x0.length : Int))))] [13, 12, 0, 1] ?_))
   refine oe (nt (qs (cC h32 (fun h38 => ?_) (fun h39 => ?_))))
   · refine qk (nt (qs (qb (qs (qr (oN 2 [(5, vi s24)] [13, 12, 0, 1] ?_))))))
     refine oe (nt (qs (JC_quiet (by kernel_rfl) (by kernel_rfl) ?_)))
     refine qN 2 [(17, vi s24), (16, .v (.slice a0_0 x0.length c0_0))] [5, 13, 12, 0, 1] ?_
     obtain ⟨x40, hx41, h42⟩ := bS h38
     refine qi 6 (fun γ w hs => (hv0_0.kept hs.kept)) hx41 ?_
     refine ql 83 0 (vNode x40) (fun γ w hs => (hv0_0.kept hs.kept).flatq hx41) ?_
     refine qN 2 [(21, vi s24), (20, .v (.slice a1_0 x1.length c1_0))] [19, 13, 12, 0, 1] ?_
     obtain ⟨x43, hx44, h45⟩ := bS h42
     refine qi 6 (fun γ w hs => (hv1_0.kept hs.kept)) hx44 ?_
     refine ql 83 0 (vNode x43) (fun γ w hs => (hv1_0.kept hs.kept).flatq hx44) ?_
     refine qN 1 [(24, vb (!((x40.Kind == x43.Kind) && ((x40.A == x43.A) && ((x40.B == x43.B) && ((x40.C == x43.C) && (((x40.Value.Num == x43.Value.Num) && ((x40.Value.Den == x43.Value.Den) && true)) && true)))))))] [13, 12, 0, 1] ?_
     refine qz (nt (cC h45 (fun h47 => ?_) (fun h48 => ?_)))
     · refine qs (qr (oN 1 [(4, vb false)] [] ?_))
       refine oe (nt (qe (br (nr (nr ?_)))))
       have h49 := leafR hd33 h47 h29
       refine br (nr (nr ?_))
       obtain rfl := sI h49
       exact re [.bool false]
     refine qk (bn (nt (qr (oN 2 [(13, vi (w64 (s24 + 1)))] [12, 0, 1] ?_))))
     exact oe (ct h48 () [13, 12, 0, 1] [] 0)
   refine qx (nx (nx (bh ?_)))
   have h50 := leafB hd33 h39 h29
   exact mp ((), ()) h50 [] [] 0
 have h36 := (congrFun hk31 _).symm.trans h36p
 refine nt (qs (qr (oN 1 [(4, vb true)] [] ?_)))
 refine oe (nt (qe ?_))
 obtain rfl := sI h36
 exact re [.bool true]

theorem c_impl_SameOffice_1 {W : World} {x0 : Rule} {a0_0 : Option Addr} {c0_0 : Nat} {x1 : Rule} {a1_0 : Option Addr} {c1_0 : Nat} {r : Bool} (h : impl_SameOffice_1 x0 x1 = some r) (hv0_0 : SlView W x0.Nodes a0_0 c0_0) (hv1_0 : SlView W x1.Nodes a1_0 c1_0) :
    Gives0 Try.prog 28 #[vRule x0 (a0_0, c0_0), vRule x1 (a1_0, c1_0)] W (.bool r) := by
 unfold impl_SameOffice_1 at h
 refine en Try.func28 Try.ntmps28 ?_
 refine qs (qr (oB 3 [(3, .p 1 0), (2, .p 0 0)] [] [(78, (eRule x0 (a0_0, c0_0))), (78, (eRule x1 (a1_0, c1_0)))] ?_))
 refine oe (nt (qs ?_))
 obtain ⟨p21, hE22, h23⟩ := bS h
 refine JC_cut (τ := Unit) (fun _ => [(4, vb p21)]) (fun _ => [(78, (eRule x0 (a0_0, c0_0))), (78, (eRule x1 (a1_0, c1_0)))]) (fun _ => []) ?_ (fun _ => ?_)
 · refine qr (oN 6 [(10, vb (x0.Name == x1.Name))] [3, 2] ?_)
   refine oS 10 hE22 (fun h25 => ?_) (fun h26 => ?_)
   · refine oN 7 [(17, vb (x0.From == x1.From))] [3, 2] ?_
     refine oS 17 h25 (fun h28 => ?_) (fun h29 => ?_)
     · refine oN 7 [(24, vb (x0.To == x1.To))] [3, 2] ?_
       refine oS 24 h28 (fun h31 => ?_) (fun h32 => ?_)
       · refine oN 7 [(31, vb (x0.Joined == x1.Joined))] [3, 2] ?_
         refine oS 31 h31 (fun h34 => ?_) (fun h35 => ?_)
         · refine oN 7 [(38, vb (x0.Rank == x1.Rank))] [3, 2] ?_
           refine oS 38 h34 (fun h37 => ?_) (fun h38 => ?_)
           · refine oN 7 [(45, vb (x0.Mode == x1.Mode))] [3, 2] ?_
             refine oS 45 h37 (fun h40 => ?_) (fun h41 => ?_)
             · refine oN 4 [(49, .v (.slice a1_0 x1.Nodes.length c1_0)), (47, .v (.slice a0_0 x0.Nodes.length c0_0))] [45] ?_
               obtain ⟨t42, h43, h44⟩ := bS h40
               refine k0 (fun γ w hs => c_slices_Equal_Node h43 (hv0_0.kept hs.kept) (hv1_0.kept hs.kept)) ?_
               refine oN 2 [(4, vb t42)] [] ?_
               refine oe ?_
               obtain rfl := sI h44
               exact mt () [4] [] 2
             refine oN 7 [(4, vb false)] [] ?_
             refine oe ?_
             obtain rfl := sI h41
             exact mt () [4] [] 2
           refine oN 14 [(4, vb false)] [] ?_
           refine oe ?_
           obtain rfl := sI h38
           exact mt () [4] [] 2
         refine oN 21 [(4, vb false)] [] ?_
         refine oe ?_
         obtain rfl := sI h35
         exact mt () [4] [] 2
       refine oN 28 [(4, vb false)] [] ?_
       refine oe ?_
       obtain rfl := sI h32
       exact mt () [4] [] 2
     refine oN 35 [(4, vb false)] [] ?_
     refine oe ?_
     obtain rfl := sI h29
     exact mt () [4] [] 2
   refine oN 42 [(4, vb false)] [] ?_
   refine oe ?_
   obtain rfl := sI h26
   exact mt () [4] [] 2
 refine nt (qe ?_)
 obtain rfl := sI h23
 exact re [.bool p21]

theorem c_slices_EqualFunc_Rule__impl_SameOffice_1 {W : World} {x0 : List Rule} {a0_0 : Option Addr} {c0_0 : Nat} {x1 : List Rule} {a1_0 : Option Addr} {c1_0 : Nat} {r : Bool} (h : slices_EqualFunc_Rule__impl_SameOffice_1 x0 x1 = some r) (hv0_0 : SlView W x0 a0_0 c0_0) (hv1_0 : SlView W x1 a1_0 c1_0) :
    Gives0 Try.prog 30 #[.slice a0_0 x0.length c0_0, .slice a1_0 x1.length c1_0, .func (.func 28) #[] #[]] W (.bool r) := by
 unfold slices_EqualFunc_Rule__impl_SameOffice_1 at h
 refine en Try.func30 Try.ntmps30 ?_
 refine qs (qr (oN 1 [] [0, 1, 2] ?_))
 refine oe (nt (qs (qs (qr (oN 5 [(14, vb ((x0.length : Int) != (x1.length : Int)))] [0, 1, 2] ?_)))))
 refine oe (nt (cC h (fun h22 => ?_) (fun h23 => ?_)))
 · refine qs (qr (oN 1 [(6, vb false)] [] ?_))
   refine oe (nt (qe (nr ?_)))
   obtain rfl := sI h22
   exact re [.bool false]
 refine qk (nt (qs (qs (qr (oN 3 [(17, vi 0), (16, vi (x0.length : Int)), (15, .v (.slice a0_0 x0.length c0_0))] [1, 2] ?_)))))
 refine oe (nt ?_)
 obtain ⟨r27, hL28, h29⟩ := bS h23
 obtain ⟨k30, hk31, h29⟩ := brkS h29
 refine JC_cutP (τ := (Unit) × (Unit)) (fun y => k30 y.1 = some r) (fun y35 => []) (fun y35 => []) (fun y35 => []) ?_ (fun y35 h36p => ?_)
 · refine qb (lp Unit hL28 (fun s24 y25 => [(17, vi s24), (16, vi (x0.length : Int)), (15, .v (.slice a0_0 x0.length c0_0)), (1, .v (.slice a1_0 x1.length c1_0)), (2, .v (.func (.func 28) #[] #[]))]) (fun s24 y25 => []) (fun s24 y25 => []) () [17, 16, 15, 1, 2] [] 0 (fun s24 y25 t26 h32 hd33 => ?_))
   refine qs (qr (oN 1 [(18, vb (decide (s24 < (x0.length : Int))))] [17, 16, 15, 1, 2] ?_))
   refine oe (nt (qs (cC h32 (fun h38 => ?_) (fun h39 => ?_))))
   · refine qk (nt (qs (qb (qs (qr (oN 1 [(19, vi s24)] [17, 16, 15, 1, 2] ?_))))))
     obtain ⟨x40, hx41, h42⟩ := bS h38
     refine oi 7 (fun γ w hs => (hv0_0.kept hs.kept)) hx41 ?_
     obtain ⟨_, ⟨a43, c44, rfl, hv45⟩, hc46⟩ := SlView.at hv0_0 (idx_some hx41).2.2
     refine ol 78 0 (vRule x40 (a43, c44)) (fun γ w hs => ⟨(hv0_0.kept hs.kept).ne (idx_some hx41).2.2, hc46.kept hs.kept⟩) ?_
     refine oB 3 [(7, vi s24), (8, .p 0 0)] [17, 16, 15, 1, 2] [(78, (eRule x40 (a43, c44)))] ?_
     refine oe (nt (qs (qr (oN 2 [(23, vi s24), (22, .v (.slice a1_0 x1.length c1_0))] [8, 17, 16, 15, 1, 2] ?_))))
     obtain ⟨x47, hx48, h49⟩ := bS h42
     refine oi 7 (fun γ w hs => (hv1_0.kept hs.kept)) hx48 ?_
     obtain ⟨_, ⟨a50, c51, rfl, hv52⟩, hc53⟩ := SlView.at hv1_0 (idx_some hx48).2.2
     refine ol 78 0 (vRule x47 (a50, c51)) (fun γ w hs => ⟨(hv1_0.kept hs.kept).ne (idx_some hx48).2.2, hc53.kept hs.kept⟩) ?_
     refine oB 2 [(9, .p 1 0)] [8, 17, 16, 15, 1, 2] [(78, (eRule x40 (a43, c44))), (78, (eRule x47 (a50, c51)))] ?_
     refine oe (nt (qs (qr (oN 3 [(28, .v (vRule x47 (a50, c51))), (27, .v (vRule x40 (a43, c44))), (26, .v (.func (.func 28) #[] #[]))] [17, 16, 15, 1, 2] ?_))))
     obtain ⟨t54, h55, h56⟩ := bS h49
     refine k0 (fun γ w hs => c_impl_SameOffice_1 h55 (hv45.kept hs.kept) (hv52.kept hs.kept)) ?_
     refine oN 1 [(30, vb (!t54))] [17, 16, 15, 1, 2] ?_
     refine oe (nt (cC h56 (fun h59 => ?_) (fun h60 => ?_)))
     · refine qs (qr (oN 1 [(6, vb false)] [] ?_))
       refine oe (nt (qe (br (nr (nr ?_)))))
       have h61 := leafR hd33 h59 h29
       refine br (nr (nr ?_))
       obtain rfl := sI h61
       exact re [.bool false]
     refine qk (bn (nt (qr (oN 2 [(17, vi (w64 (s24 + 1)))] [16, 15, 1, 2] ?_))))
     exact oe (ct h60 () [17, 16, 15, 1, 2] [] 0)
   refine qx (nx (nx (bh ?_)))
   have h62 := leafB hd33 h39 h29
   exact mp ((), ()) h62 [] [] 0
 have h36 := (congrFun hk31 _).symm.trans h36p
 refine nt (qs (qr (oN 1 [(6, vb true)] [] ?_)))
 refine oe (nt (qe ?_))
 obtain rfl := sI h36
 exact re [.bool true]

theorem c_slices_Equal_Fact {W : World} {x0 : List Fact} {a0_0 : Option Addr} {c0_0 : Nat} {x1 : List Fact} {a1_0 : Option Addr} {c1_0 : Nat} {r : Bool} (h : slices_Equal_Fact x0 x1 = some r) (hv0_0 : SlView W x0 a0_0 c0_0) (hv1_0 : SlView W x1 a1_0 c1_0) :
    Gives0 Try.prog 31 #[.slice a0_0 x0.length c0_0, .slice a1_0 x1.length c1_0] W (.bool r) := by
 unfold slices_Equal_Fact at h
 refine en Try.func31 Try.ntmps31 ?_
 refine qs (qr (oN 1 [] [0, 1] ?_))
 refine oe (nt (qs (qs (qr (oN 5 [(10, vb ((x0.length : Int) != (x1.length : Int)))] [0, 1] ?_)))))
 refine oe (nt (cC h (fun h22 => ?_) (fun h23 => ?_)))
 · refine qs (qr (oN 1 [(4, vb false)] [] ?_))
   refine oe (nt (qe (nr ?_)))
   obtain rfl := sI h22
   exact re [.bool false]
 refine qk (nt (qs (qs (qr (oN 3 [(13, vi 0), (12, vi (x0.length : Int))] [0, 1] ?_)))))
 refine oe (nt ?_)
 obtain ⟨r27, hL28, h29⟩ := bS h23
 obtain ⟨k30, hk31, h29⟩ := brkS h29
 refine JC_cutP (τ := (Unit) × (Unit)) (fun y => k30 y.1 = some r) (fun y35 => []) (fun y35 => []) (fun y35 => []) ?_ (fun y35 h36p => ?_)
 · refine qb (lp Unit hL28 (fun s24 y25 => [(13, vi s24), (12, vi (x0.length : Int)), (0, .v (.slice a0_0 x0.length c0_0)), (1, .v (.slice a1_0 x1.length c1_0))]) (fun s24 y25 => []) (fun s24 y25 => []) () [13, 12, 0, 1] [] 0 (fun s24 y25 t26 h32 hd33 => ?_))
   refine qs (qr (oN 1 [(14, vb (decide (s24 < (x0.length : Int))))] [13, 12, 0, 1] ?_))
   refine oe (nt (qs (cC h32 (fun h38 => ?_) (fun h39 => ?_))))
   · refine qk (nt (qs (qb (qs (qr (oN 2 [(5, vi s24)] [13, 12, 0, 1] ?_))))))
     refine oe (nt (qs (JC_quiet (by kernel_rfl) (by kernel_rfl) ?_)))
     refine qN 2 [(17, vi s24), (16, .v (.slice a0_0 x0.length c0_0))] [5, 13, 12, 0, 1] ?_
     obtain ⟨x40, hx41, h42⟩ := bS h38
     refine qi 5 (fun γ w hs => (hv0_0.kept hs.kept)) hx41 ?_
     refine ql 88 0 (vFact x40) (fun γ w hs => (hv0_0.kept hs.kept).flatq hx41) ?_
     refine qN 2 [(21, vi s24), (20, .v (.slice a1_0 x1.length c1_0))] [19, 13, 12, 0, 1] ?_
     obtain ⟨x43, hx44, h45⟩ := bS h42
     refine qi 5 (fun γ w hs => (hv1_0.kept hs.kept)) hx44 ?_
     refine ql 88 0 (vFact x43) (fun γ w hs => (hv1_0.kept hs.kept).flatq hx44) ?_
     refine qN 1 [(24, vb (!((x40.Key == x43.Key) && ((x40.From == x43.From) && ((x40.To == x43.To) && ((x40.Known == x43.Known) && ((x40.Value == x43.Value) && true)))))))] [13, 12, 0, 1] ?_
     refine qz (nt (cC h45 (fun h47 => ?_) (fun h48 => ?_)))
     · refine qs (qr (oN 1 [(4, vb false)] [] ?_))
       refine oe (nt (qe (br (nr (nr ?_)))))
       have h49 := leafR hd33 h47 h29
       refine br (nr (nr ?_))
       obtain rfl := sI h49
       exact re [.bool false]
     refine qk (bn (nt (qr (oN 2 [(13, vi (w64 (s24 + 1)))] [12, 0, 1] ?_))))
     exact oe (ct h48 () [13, 12, 0, 1] [] 0)
   refine qx (nx (nx (bh ?_)))
   have h50 := leafB hd33 h39 h29
   exact mp ((), ()) h50 [] [] 0
 have h36 := (congrFun hk31 _).symm.trans h36p
 refine nt (qs (qr (oN 1 [(4, vb true)] [] ?_)))
 refine oe (nt (qe ?_))
 obtain rfl := sI h36
 exact re [.bool true]

theorem c_slices_Equal_Point {W : World} {x0 : List Point} {a0_0 : Option Addr} {c0_0 : Nat} {x1 : List Point} {a1_0 : Option Addr} {c1_0 : Nat} {r : Bool} (h : slices_Equal_Point x0 x1 = some r) (hv0_0 : SlView W x0 a0_0 c0_0) (hv1_0 : SlView W x1 a1_0 c1_0) :
    Gives0 Try.prog 32 #[.slice a0_0 x0.length c0_0, .slice a1_0 x1.length c1_0] W (.bool r) := by
 unfold slices_Equal_Point at h
 refine en Try.func32 Try.ntmps32 ?_
 refine qs (qr (oN 1 [] [0, 1] ?_))
 refine oe (nt (qs (qs (qr (oN 5 [(10, vb ((x0.length : Int) != (x1.length : Int)))] [0, 1] ?_)))))
 refine oe (nt (cC h (fun h22 => ?_) (fun h23 => ?_)))
 · refine qs (qr (oN 1 [(4, vb false)] [] ?_))
   refine oe (nt (qe (nr ?_)))
   obtain rfl := sI h22
   exact re [.bool false]
 refine qk (nt (qs (qs (qr (oN 3 [(13, vi 0), (12, vi (x0.length : Int))] [0, 1] ?_)))))
 refine oe (nt ?_)
 obtain ⟨r27, hL28, h29⟩ := bS h23
 obtain ⟨k30, hk31, h29⟩ := brkS h29
 refine JC_cutP (τ := (Unit) × (Unit)) (fun y => k30 y.1 = some r) (fun y35 => []) (fun y35 => []) (fun y35 => []) ?_ (fun y35 h36p => ?_)
 · refine qb (lp Unit hL28 (fun s24 y25 => [(13, vi s24), (12, vi (x0.length : Int)), (0, .v (.slice a0_0 x0.length c0_0)), (1, .v (.slice a1_0 x1.length c1_0))]) (fun s24 y25 => []) (fun s24 y25 => []) () [13, 12, 0, 1] [] 0 (fun s24 y25 t26 h32 hd33 => ?_))
   refine qs (qr (oN 1 [(14, vb (decide (s24 < (x0.length : Int))))] [13, 12, 0, 1] ?_))
   refine oe (nt (qs (cC h32 (fun h38 => ?_) (fun h39 => ?_))))
   · refine qk (nt (qs (qb (qs (qr (oN 2 [(5, vi s24)] [13, 12, 0, 1] ?_))))))
     refine oe (nt (qs (JC_quiet (by kernel_rfl) (by kernel_rfl) ?_)))
     refine qN 2 [(17, vi s24), (16, .v (.slice a0_0 x0.length c0_0))] [5, 13, 12, 0, 1] ?_
     obtain ⟨x40, hx41, h42⟩ := bS h38
     refine qi 3 (fun γ w hs => (hv0_0.kept hs.kept)) hx41 ?_
     refine ql 91 0 (vPoint x40) (fun γ w hs => (hv0_0.kept hs.kept).flatq hx41) ?_
     refine qN 2 [(21, vi s24), (20, .v (.slice a1_0 x1.length c1_0))] [19, 13, 12, 0, 1] ?_
     obtain ⟨x43, hx44, h45⟩ := bS h42
     refine qi 3 (fun γ w hs => (hv1_0.kept hs.kept)) hx44 ?_
     refine ql 91 0 (vPoint x43) (fun γ w hs => (hv1_0.kept hs.kept).flatq hx44) ?_
     refine qN 1 [(24, vb (!((x40.Month == x43.Month) && ((x40.Known == x43.Known) && ((x40.Value == x43.Value) && true)))))] [13, 12, 0, 1] ?_
     refine qz (nt (cC h45 (fun h47 => ?_) (fun h48 => ?_)))
     · refine qs (qr (oN 1 [(4, vb false)] [] ?_))
       refine oe (nt (qe (br (nr (nr ?_)))))
       have h49 := leafR hd33 h47 h29
       refine br (nr (nr ?_))
       obtain rfl := sI h49
       exact re [.bool false]
     refine qk (bn (nt (qr (oN 2 [(13, vi (w64 (s24 + 1)))] [12, 0, 1] ?_))))
     exact oe (ct h48 () [13, 12, 0, 1] [] 0)
   refine qx (nx (nx (bh ?_)))
   have h50 := leafB hd33 h39 h29
   exact mp ((), ()) h50 [] [] 0
 have h36 := (congrFun hk31 _).symm.trans h36p
 refine nt (qs (qr (oN 1 [(4, vb true)] [] ?_)))
 refine oe (nt (qe ?_))
 obtain rfl := sI h36
 exact re [.bool true]

theorem c_slices_Equal_Spell {W : World} {x0 : List Spell} {a0_0 : Option Addr} {c0_0 : Nat} {x1 : List Spell} {a1_0 : Option Addr} {c1_0 : Nat} {r : Bool} (h : slices_Equal_Spell x0 x1 = some r) (hv0_0 : SlView W x0 a0_0 c0_0) (hv1_0 : SlView W x1 a1_0 c1_0) :
    Gives0 Try.prog 33 #[.slice a0_0 x0.length c0_0, .slice a1_0 x1.length c1_0] W (.bool r) := by
 unfold slices_Equal_Spell at h
 refine en Try.func33 Try.ntmps33 ?_
 refine qs (qr (oN 1 [] [0, 1] ?_))
 refine oe (nt (qs (qs (qr (oN 5 [(10, vb ((x0.length : Int) != (x1.length : Int)))] [0, 1] ?_)))))
 refine oe (nt (cC h (fun h22 => ?_) (fun h23 => ?_)))
 · refine qs (qr (oN 1 [(4, vb false)] [] ?_))
   refine oe (nt (qe (nr ?_)))
   obtain rfl := sI h22
   exact re [.bool false]
 refine qk (nt (qs (qs (qr (oN 3 [(13, vi 0), (12, vi (x0.length : Int))] [0, 1] ?_)))))
 refine oe (nt ?_)
 obtain ⟨r27, hL28, h29⟩ := bS h23
 obtain ⟨k30, hk31, h29⟩ := brkS h29
 refine JC_cutP (τ := (Unit) × (Unit)) (fun y => k30 y.1 = some r) (fun y35 => []) (fun y35 => []) (fun y35 => []) ?_ (fun y35 h36p => ?_)
 · refine qb (lp Unit hL28 (fun s24 y25 => [(13, vi s24), (12, vi (x0.length : Int)), (0, .v (.slice a0_0 x0.length c0_0)), (1, .v (.slice a1_0 x1.length c1_0))]) (fun s24 y25 => []) (fun s24 y25 => []) () [13, 12, 0, 1] [] 0 (fun s24 y25 t26 h32 hd33 => ?_))
   refine qs (qr (oN 1 [(14, vb (decide (s24 < (x0.length : Int))))] [13, 12, 0, 1] ?_))
   refine oe (nt (qs (cC h32 (fun h38 => ?_) (fun h39 => ?_))))
   · refine qk (nt (qs (qb (qs (qr (oN 2 [(5, vi s24)] [13, 12, 0, 1] ?_))))))
     refine oe (nt (qs (JC_quiet (by kernel_rfl) (by kernel_rfl) ?_)))
     refine qN 2 [(17, vi s24), (16, .v (.slice a0_0 x0.length c0_0))] [5, 13, 12, 0, 1] ?_
     obtain ⟨x40, hx41, h42⟩ := bS h38
     refine qi 4 (fun γ w hs => (hv0_0.kept hs.kept)) hx41 ?_
     refine ql 94 0 (vSpell x40) (fun γ w hs => (hv0_0.kept hs.kept).flatq hx41) ?_
     refine qN 2 [(21, vi s24), (20, .v (.slice a1_0 x1.length c1_0))] [19, 13, 12, 0, 1] ?_
     obtain ⟨x43, hx44, h45⟩ := bS h42
     refine qi 4 (fun γ w hs => (hv1_0.kept hs.kept)) hx44 ?_
     refine ql 94 0 (vSpell x43) (fun γ w hs => (hv1_0.kept hs.kept).flatq hx44) ?_
     refine qN 1 [(24, vb (!((x40.From == x43.From) && ((x40.To == x43.To) && ((x40.Percent == x43.Percent) && ((x40.Leave == x43.Leave) && true))))))] [13, 12, 0, 1] ?_
     refine qz (nt (cC h45 (fun h47 => ?_) (fun h48 => ?_)))
     · refine qs (qr (oN 1 [(4, vb false)] [] ?_))
       refine oe (nt (qe (br (nr (nr ?_)))))
       have h49 := leafR hd33 h47 h29
       refine br (nr (nr ?_))
       obtain rfl := sI h49
       exact re [.bool false]
     refine qk (bn (nt (qr (oN 2 [(13, vi (w64 (s24 + 1)))] [12, 0, 1] ?_))))
     exact oe (ct h48 () [13, 12, 0, 1] [] 0)
   refine qx (nx (nx (bh ?_)))
   have h50 := leafB hd33 h39 h29
   exact mp ((), ()) h50 [] [] 0
 have h36 := (congrFun hk31 _).symm.trans h36p
 refine nt (qs (qr (oN 1 [(4, vb true)] [] ?_)))
 refine oe (nt (qe ?_))
 obtain rfl := sI h36
 exact re [.bool true]

theorem c_slices_Equal_Event {W : World} {x0 : List Event} {a0_0 : Option Addr} {c0_0 : Nat} {x1 : List Event} {a1_0 : Option Addr} {c1_0 : Nat} {r : Bool} (h : slices_Equal_Event x0 x1 = some r) (hv0_0 : SlView W x0 a0_0 c0_0) (hv1_0 : SlView W x1 a1_0 c1_0) :
    Gives0 Try.prog 34 #[.slice a0_0 x0.length c0_0, .slice a1_0 x1.length c1_0] W (.bool r) := by
 unfold slices_Equal_Event at h
 refine en Try.func34 Try.ntmps34 ?_
 refine qs (qr (oN 1 [] [0, 1] ?_))
 refine oe (nt (qs (qs (qr (oN 5 [(10, vb ((x0.length : Int) != (x1.length : Int)))] [0, 1] ?_)))))
 refine oe (nt (cC h (fun h22 => ?_) (fun h23 => ?_)))
 · refine qs (qr (oN 1 [(4, vb false)] [] ?_))
   refine oe (nt (qe (nr ?_)))
   obtain rfl := sI h22
   exact re [.bool false]
 refine qk (nt (qs (qs (qr (oN 3 [(13, vi 0), (12, vi (x0.length : Int))] [0, 1] ?_)))))
 refine oe (nt ?_)
 obtain ⟨r27, hL28, h29⟩ := bS h23
 obtain ⟨k30, hk31, h29⟩ := brkS h29
 refine JC_cutP (τ := (Unit) × (Unit)) (fun y => k30 y.1 = some r) (fun y35 => []) (fun y35 => []) (fun y35 => []) ?_ (fun y35 h36p => ?_)
 · refine qb (lp Unit hL28 (fun s24 y25 => [(13, vi s24), (12, vi (x0.length : Int)), (0, .v (.slice a0_0 x0.length c0_0)), (1, .v (.slice a1_0 x1.length c1_0))]) (fun s24 y25 => []) (fun s24 y25 => []) () [13, 12, 0, 1] [] 0 (fun s24 y25 t26 h32 hd33 => ?_))
   refine qs (qr (oN 1 [(14, vb (decide (s24 < (x0.length : Int))))] [13, 12, 0, 1] ?_))
   refine oe (nt (qs (cC h32 (fun h38 => ?_) (fun h39 => ?_))))
   · refine qk (nt (qs (qb (qs (qr (oN 2 [(5, vi s24)] [13, 12, 0, 1] ?_))))))
     refine oe (nt (qs (JC_quiet (by kernel_rfl) (by kernel_rfl) ?_)))
     refine qN 2 [(17, vi s24), (16, .v (.slice a0_0 x0.length c0_0))] [5, 13, 12, 0, 1] ?_
     obtain ⟨x40, hx41, h42⟩ := bS h38
     refine qi 2 (fun γ w hs => (hv0_0.kept hs.kept)) hx41 ?_
     refine ql 97 0 (vEvent x40) (fun γ w hs => (hv0_0.kept hs.kept).flatq hx41) ?_
     refine qN 2 [(21, vi s24), (20, .v (.slice a1_0 x1.length c1_0))] [19, 13, 12, 0, 1] ?_
     obtain ⟨x43, hx44, h45⟩ := bS h42
     refine qi 2 (fun γ w hs => (hv1_0.kept hs.kept)) hx44 ?_
     refine ql 97 0 (vEvent x43) (fun γ w hs => (hv1_0.kept hs.kept).flatq hx44) ?_
     refine qN 1 [(24, vb (!((x40.Kind == x43.Kind) && ((x40.Month == x43.Month) && true))))] [13, 12, 0, 1] ?_
     refine qz (nt (cC h45 (fun h47 => ?_) (fun h48 => ?_)))
     · refine qs (qr (oN 1 [(4, vb false)] [] ?_))
       refine oe (nt (qe (br (nr (nr ?_)))))
       have h49 := leafR hd33 h47 h29
       refine br (nr (nr ?_))
       obtain rfl := sI h49
       exact re [.bool false]
     refine qk (bn (nt (qr (oN 2 [(13, vi (w64 (s24 + 1)))] [12, 0, 1] ?_))))
     exact oe (ct h48 () [13, 12, 0, 1] [] 0)
   refine qx (nx (nx (bh ?_)))
   have h50 := leafB hd33 h39 h29
   exact mp ((), ()) h50 [] [] 0
 have h36 := (congrFun hk31 _).symm.trans h36p
 refine nt (qs (qr (oN 1 [(4, vb true)] [] ?_)))
 refine oe (nt (qe ?_))
 obtain rfl := sI h36
 exact re [.bool true]

theorem c_slices_Equal_int {W : World} {x0 : List Int} {a0_0 : Option Addr} {c0_0 : Nat} {x1 : List Int} {a1_0 : Option Addr} {c1_0 : Nat} {r : Bool} (h : slices_Equal_int x0 x1 = some r) (hv0_0 : SlView W x0 a0_0 c0_0) (hv1_0 : SlView W x1 a1_0 c1_0) :
    Gives0 Try.prog 35 #[.slice a0_0 x0.length c0_0, .slice a1_0 x1.length c1_0] W (.bool r) := by
 unfold slices_Equal_int at h
 refine en Try.func35 Try.ntmps35 ?_
 refine qs (qr (oN 1 [] [0, 1] ?_))
 refine oe (nt (qs (qs (qr (oN 5 [(10, vb ((x0.length : Int) != (x1.length : Int)))] [0, 1] ?_)))))
 refine oe (nt (cC h (fun h22 => ?_) (fun h23 => ?_)))
 · refine qs (qr (oN 1 [(4, vb false)] [] ?_))
   refine oe (nt (qe (nr ?_)))
   obtain rfl := sI h22
   exact re [.bool false]
 refine qk (nt (qs (qs (qr (oN 3 [(13, vi 0), (12, vi (x0.length : Int))] [0, 1] ?_)))))
 refine oe (nt ?_)
 obtain ⟨r27, hL28, h29⟩ := bS h23
 obtain ⟨k30, hk31, h29⟩ := brkS h29
 refine JC_cutP (τ := (Unit) × (Unit)) (fun y => k30 y.1 = some r) (fun y35 => []) (fun y35 => []) (fun y35 => []) ?_ (fun y35 h36p => ?_)
 · refine qb (lp Unit hL28 (fun s24 y25 => [(13, vi s24), (12, vi (x0.length : Int)), (0, .v (.slice a0_0 x0.length c0_0)), (1, .v (.slice a1_0 x1.length c1_0))]) (fun s24 y25 => []) (fun s24 y25 => []) () [13, 12, 0, 1] [] 0 (fun s24 y25 t26 h32 hd33 => ?_))
   refine qs (qr (oN 1 [(14, vb (decide (s24 < (x0.length : Int))))] [13, 12, 0, 1] ?_))
   refine oe (nt (qs (cC h32 (fun h38 => ?_) (fun h39 => ?_))))
   · refine qk (nt (qs (qb (qs (qr (oN 2 [(5, vi s24)] [13, 12, 0, 1] ?_))))))
     refine oe (nt (qs (JC_quiet (by kernel_rfl) (by kernel_rfl) ?_)))
     refine qN 2 [(17, vi s24), (16, .v (.slice a0_0 x0.length c0_0))] [5, 13, 12, 0, 1] ?_
     obtain ⟨x40, hx41, h42⟩ := bS h38
     refine qi 1 (fun γ w hs => (hv0_0.kept hs.kept)) hx41 ?_
     refine ql 3 0 (.int .i64 x40) (fun γ w hs => (hv0_0.kept hs.kept).flatq hx41) ?_
     refine qN 2 [(21, vi s24), (20, .v (.slice a1_0 x1.length c1_0))] [19, 13, 12, 0, 1] ?_
     obtain ⟨x43, hx44, h45⟩ := bS h42
     refine qi 1 (fun γ w hs => (hv1_0.kept hs.kept)) hx44 ?_
     refine ql 3 0 (.int .i64 x43) (fun γ w hs => (hv1_0.kept hs.kept).flatq hx44) ?_
     refine qN 1 [(24, vb (x40 != x43))] [13, 12, 0, 1] ?_
     refine qz (nt (cC h45 (fun h47 => ?_) (fun h48 => ?_)))
     · refine qs (qr (oN 1 [(4, vb false)] [] ?_))
       refine oe (nt (qe (br (nr (nr ?_)))))
       have h49 := leafR hd33 h47 h29
       refine br (nr (nr ?_))
       obtain rfl := sI h49
       exact re [.bool false]
     refine qk (bn (nt (qr (oN 2 [(13, vi (w64 (s24 + 1)))] [12, 0, 1] ?_))))
     exact oe (ct h48 () [13, 12, 0, 1] [] 0)
   refine qx (nx (nx (bh ?_)))
   have h50 := leafB hd33 h39 h29
   exact mp ((), ()) h50 [] [] 0
 have h36 := (congrFun hk31 _).symm.trans h36p
 refine nt (qs (qr (oN 1 [(4, vb true)] [] ?_)))
 refine oe (nt (qe ?_))
 obtain rfl := sI h36
 exact re [.bool true]

theorem c_impl_SameOffice {W : World} {x0 : Office} {b0 : AC × AC × AC × AC × AC × AC} {x1 : Office} {b1 : AC × AC × AC × AC × AC × AC} {r : Bool} (h : impl_SameOffice x0 x1 = some r) (hv0_0 : SlView W x0.Case.Book.Rules b0.1.1 b0.1.2) (hv0_1 : SlView W x0.Case.Store.Facts b0.2.1.1 b0.2.1.2) (hv0_2 : SlView W x0.Case.Series.Points b0.2.2.1.1 b0.2.2.1.2) (hv0_3 : SlView W x0.Case.Member.Spells b0.2.2.2.1.1 b0.2.2.2.1.2) (hv0_4 : SlView W x0.Case.Member.Events b0.2.2.2.2.1.1 b0.2.2.2.2.1.2) (hv0_5 : SlView W x0.Paid b0.2.2.2.2.2.1 b0.2.2.2.2.2.2) (hv1_0 : SlView W x1.Case.Book.Rules b1.1.1 b1.1.2) (hv1_1 : SlView W x1.Case.Store.Facts b1.2.1.1 b1.2.1.2) (hv1_2 : SlView W x1.Case.Series.Points b1.2.2.1.1 b1.2.2.1.2) (hv1_3 : SlView W x1.Case.Member.Spells b1.2.2.2.1.1 b1.2.2.2.1.2) (hv1_4 : SlView W x1.Case.Member.Events b1.2.2.2.2.1.1 b1.2.2.2.2.1.2) (hv1_5 : SlView W x1.Paid b1.2.2.2.2.2.1 b1.2.2.2.2.2.2) :
    Gives0 Try.prog 11 #[vOffice x0 b0, vOffice x1 b1] W (.bool r) := by
 unfold impl_SameOffice at h
 refine en Try.func11 Try.ntmps11 ?_
 refine qs (qr (oB 3 [(3, .p 1 0), (2, .p 0 0)] [] [(58, (eOffice x0 b0)), (58, (eOffice x1 b1))] ?_))
 refine oe (nt (qs (qr (oN 1 [(5, .v (.func (.func 28) #[] #[]))] [3, 2] ?_))))
 refine oe (nt (qs (JC_cut (τ := Unit) (fun _ => [(7, .p 3 0), (6, .p 2 0), (5, .v (.func (.func 28) #[] #[])), (3, .p 1 0), (2, .p 0 0)]) (fun _ => [(58, (eOffice x0 b0)), (58, (eOffice x1 b1)), (56, (eCase x0.Case (b0.1, b0.2.1, b0.2.2.1, b0.2.2.2.1, b0.2.2.2.2.1))), (56, (eCase x1.Case (b1.1, b1.2.1, b1.2.2.1, b1.2.2.2.1, b1.2.2.2.2.1)))]) (fun _ => []) ?_ (fun _ => ?_))))
 · refine jw [5, 3, 2] [] ?_
   refine JC_heldN (ks := [0, 1]) (Rk := []) 8 (by kernel_rfl) (by kernel_rfl) ?_
   refine htq 0 (.p 0 0) [] ?_
   refine htq 1 (.v (vCase x0.Case (b0.1, b0.2.1, b0.2.2.1, b0.2.2.2.1, b0.2.2.2.2.1))) [] ?_
   refine hk [9, 5, 3, 2] ?_
   refine htq 2 (.p 1 0) [] ?_
   refine htq 3 (.v (vCase x1.Case (b1.1, b1.2.1, b1.2.2.1, b1.2.2.2.1, b1.2.2.2.2.1))) [] ?_
   refine hk [11, 9, 5, 3, 2] ?_
   refine ha2 4 5 ?_ ?_
   · refine hi (fun γ0 δ hm => ?_)
     refine gs [(6, .p 2 0), (11, .v (vCase x1.Case (b1.1, b1.2.1, b1.2.2.1, b1.2.2.2.1, b1.2.2.2.2.1))), (9, .v (vCase x0.Case (b0.1, b0.2.1, b0.2.2.1, b0.2.2.2.1, b0.2.2.2.2.1))), (5, .v (.func (.func 28) #[] #[])), (3, .p 1 0), (2, .p 0 0)] [(58, (eOffice x0 b0)), (58, (eOffice x1 b1)), (56, [.slice none 0 0, .slice none 0 0, .slice none 0 0, .int .i64 0, .int .i64 0, .slice none 0 0, .slice none 0 0])] (fun δ2 => ?_)
     refine gd hm [6, 11, 9, 5, 3, 2] [] ?_
     refine ha1 5 ?_
     refine hi (fun γ0 δ hm => ?_)
     refine gs [(7, .p 3 0), (6, .p 2 0), (11, .v (vCase x1.Case (b1.1, b1.2.1, b1.2.2.1, b1.2.2.2.1, b1.2.2.2.2.1))), (9, .v (vCase x0.Case (b0.1, b0.2.1, b0.2.2.1, b0.2.2.2.1, b0.2.2.2.2.1))), (5, .v (.func (.func 28) #[] #[])), (3, .p 1 0), (2, .p 0 0)] [(58, (eOffice x0 b0)), (58, (eOffice x1 b1)), (56, [.slice none 0 0, .slice none 0 0, .slice none 0 0, .int .i64 0, .int .i64 0, .slice none 0 0, .slice none 0 0]), (56, [.slice none 0 0, .slice none 0 0, .slice none 0 0, .int .i64 0, .int .i64 0, .slice none 0 0, .slice none 0 0])] (fun δ2 => ?_)
     refine gd hm [7, 6, 11, 9, 5, 3, 2] [] ?_
     refine ha1 6 ?_
     refine hi (fun γ0 δ hm => ?_)
     refine gs [(7, .p 3 0), (6, .p 2 0), (11, .v (vCase x1.Case (b1.1, b1.2.1, b1.2.2.1, b1.2.2.2.1, b1.2.2.2.2.1))), (9, .v (vCase x0.Case (b0.1, b0.2.1, b0.2.2.1, b0.2.2.2.1, b0.2.2.2.2.1))), (5, .v (.func (.func 28) #[] #[])), (3, .p 1 0), (2, .p 0 0)] [(58, (eOffice x0 b0)), (58, (eOffice x1 b1)), (56, (eCase x0.Case (b0.1, b0.2.1, b0.2.2.1, b0.2.2.2.1, b0.2.2.2.2.1))), (56, [.slice none 0 0, .slice none 0 0, .slice none 0 0, .int .i64 0, .int .i64 0, .slice none 0 0, .slice none 0 0])] (fun δ2 => ?_)
     refine gd hm [7, 6, 11, 5, 3, 2] [] ?_
     refine ha1 7 ?_
     refine hi (fun γ0 δ hm => ?_)
     refine gs [(7, .p 3 0), (6, .p 2 0), (11, .v (vCase x1.Case (b1.1, b1.2.1, b1.2.2.1, b1.2.2.2.1, b1.2.2.2.2.1))), (5, .v (.func (.func 28) #[] #[])), (3, .p 1 0), (2, .p 0 0)] [(58, (eOffice x0 b0)), (58, (eOffice x1 b1)), (56, (eCase x0.Case (b0.1, b0.2.1, b0.2.2.1, b0.2.2.2.1, b0.2.2.2.2.1))), (56, (eCase x1.Case (b1.1, b1.2.1, b1.2.2.1, b1.2.2.2.1, b1.2.2.2.2.1)))] (fun δ2 => ?_)
     refine gd hm [7, 6, 5, 3, 2] [] ?_
     exact hd () [7, 6, 5, 3, 2] [] 4
   · refine hi (fun γ0 δ hm => ?_)
     refine gs [(7, .p 2 0), (11, .v (vCase x1.Case (b1.1, b1.2.1, b1.2.2.1, b1.2.2.2.1, b1.2.2.2.2.1))), (9, .v (vCase x0.Case (b0.1, b0.2.1, b0.2.2.1, b0.2.2.2.1, b0.2.2.2.2.1))), (5, .v (.func (.func 28) #[] #[])), (3, .p 1 0), (2, .p 0 0)] [(58, (eOffice x0 b0)), (58, (eOffice x1 b1)), (56, [.slice none 0 0, .slice none 0 0, .slice none 0 0, .int .i64 0, .int .i64 0, .slice none 0 0, .slice none 0 0])] (fun δ2 => ?_)
     refine gd hm [7, 11, 9, 5, 3, 2] [] ?_
     refine ha1 4 ?_
     refine hi (fun γ0 δ hm => ?_)
     refine gs [(6, .p 3 0), (7, .p 2 0), (11, .v (vCase x1.Case (b1.1, b1.2.1, b1.2.2.1, b1.2.2.2.1, b1.2.2.2.2.1))), (9, .v (vCase x0.Case (b0.1, b0.2.1, b0.2.2.1, b0.2.2.2.1, b0.2.2.2.2.1))), (5, .v (.func (.func 28) #[] #[])), (3, .p 1 0), (2, .p 0 0)] [(58, (eOffice x0 b0)), (58, (eOffice x1 b1)), (56, [.slice none 0 0, .slice none 0 0, .slice none 0 0, .int .i64 0, .int .i64 0, .slice none 0 0, .slice none 0 0]), (56, [.slice none 0 0, .slice none 0 0, .slice none 0 0, .int .i64 0, .int .i64 0, .slice none 0 0, .slice none 0 0])] (fun δ2 => ?_)
     refine gd hm [6, 7, 11, 9, 5, 3, 2] [] ?_
     refine ha1 6 ?_
     refine hi (fun γ0 δ hm => ?_)
     refine gs [(6, .p 3 0), (7, .p 2 0), (11, .v (vCase x1.Case (b1.1, b1.2.1, b1.2.2.1, b1.2.2.2.1, b1.2.2.2.2.1))), (9, .v (vCase x0.Case (b0.1, b0.2.1, b0.2.2.1, b0.2.2.2.1, b0.2.2.2.2.1))), (5, .v (.func (.func 28) #[] #[])), (3, .p 1 0), (2, .p 0 0)] [(58, (eOffice x0 b0)), (58, (eOffice x1 b1)), (56, [.slice none 0 0, .slice none 0 0, .slice none 0 0, .int .i64 0, .int .i64 0, .slice none 0 0, .slice none 0 0]), (56, (eCase x0.Case (b0.1, b0.2.1, b0.2.2.1, b0.2.2.2.1, b0.2.2.2.2.1)))] (fun δ2 => ?_)
     refine gd hm [6, 7, 11, 5, 3, 2] [] ?_
     refine ha1 7 ?_
     refine hi (fun γ0 δ hm => ?_)
     refine gs [(6, .p 3 0), (7, .p 2 0), (11, .v (vCase x1.Case (b1.1, b1.2.1, b1.2.2.1, b1.2.2.2.1, b1.2.2.2.2.1))), (5, .v (.func (.func 28) #[] #[])), (3, .p 1 0), (2, .p 0 0)] [(58, (eOffice x0 b0)), (58, (eOffice x1 b1)), (56, (eCase x1.Case (b1.1, b1.2.1, b1.2.2.1, b1.2.2.2.1, b1.2.2.2.2.1))), (56, (eCase x0.Case (b0.1, b0.2.1, b0.2.2.1, b0.2.2.2.1, b0.2.2.2.2.1)))] (fun δ2 => ?_)
     refine gd hm [6, 7, 5, 3, 2] [] ?_
     exact JH_doneP (by kernel_rfl) () [7, 6, 5, 3, 2] [] 4 [0, 1, 3, 2] [0, 1, 3, 2] (by kernel_rfl) (by kernel_rfl) (by kernel_rfl) (by kernel_rfl) (by kernel_rfl)
 refine nt (qs ?_)
 obtain ⟨p22, hE23, h24⟩ := bS h
 refine JC_cut (τ := Unit) (fun _ => [(4, vb p22)]) (fun _ => [(58, (eOffice x0 b0)), (58, (eOffice x1 b1)), (56, (eCase x0.Case (b0.1, b0.2.1, b0.2.2.1, b0.2.2.2.1, b0.2.2.2.2.1))), (56, (eCase x1.Case (b1.1, b1.2.1, b1.2.2.1, b1.2.2.2.1, b1.2.2.2.2.1)))]) (fun _ => []) ?_ (fun _ => ?_)
 · refine qr (oN 7 [(18, .v (.func (.func 28) #[] #[])), (17, .v (.slice b1.1.1 x1.Case.Book.Rules.length b1.1.2)), (14, .v (.slice b0.1.1 x0.Case.Book.Rules.length b0.1.2))] [7, 6, 3, 2] ?_)
   obtain ⟨t25, h26, h27⟩ := bS hE23
   refine k0 (fun γ w hs => c_slices_EqualFunc_Rule__impl_SameOffice_1 h26 (hv0_0.kept hs.kept) (hv1_0.kept hs.kept)) ?_
   refine oN 1 [(20, vb t25)] [7, 6, 3, 2] ?_
   refine oS 20 h27 (fun h30 => ?_) (fun h31 => ?_)
   · refine oN 6 [(26, .v (.slice b1.2.1.1 x1.Case.Store.Facts.length b1.2.1.2)), (23, .v (.slice b0.2.1.1 x0.Case.Store.Facts.length b0.2.1.2))] [20, 7, 6, 3, 2] ?_
     obtain ⟨t32, h33, h34⟩ := bS h30
     refine k0 (fun γ w hs => c_slices_Equal_Fact h33 (hv0_1.kept hs.kept) (hv1_1.kept hs.kept)) ?_
     refine oN 2 [(29, vb t32)] [7, 6, 3, 2] ?_
     refine oS 29 h34 (fun h37 => ?_) (fun h38 => ?_)
     · refine oN 6 [(35, .v (.slice b1.2.2.1.1 x1.Case.Series.Points.length b1.2.2.1.2)), (32, .v (.slice b0.2.2.1.1 x0.Case.Series.Points.length b0.2.2.1.2))] [29, 7, 6, 3, 2] ?_
       obtain ⟨t39, h40, h41⟩ := bS h37
       refine k0 (fun γ w hs => c_slices_Equal_Point h40 (hv0_2.kept hs.kept) (hv1_2.kept hs.kept)) ?_
       refine oN 2 [(38, vb t39)] [7, 6, 3, 2] ?_
       refine oS 38 h41 (fun h44 => ?_) (fun h45 => ?_)
       · refine oN 9 [(47, vb (x0.Case.Member.Birth == x1.Case.Member.Birth))] [7, 6, 3, 2] ?_
         refine oS 47 h44 (fun h47 => ?_) (fun h48 => ?_)
         · refine oN 9 [(56, vb (x0.Case.Member.Joined == x1.Case.Member.Joined))] [7, 6, 3, 2] ?_
           refine oS 56 h47 (fun h50 => ?_) (fun h51 => ?_)
           · refine oN 6 [(62, .v (.slice b1.2.2.2.1.1 x1.Case.Member.Spells.length b1.2.2.2.1.2)), (59, .v (.slice b0.2.2.2.1.1 x0.Case.Member.Spells.length b0.2.2.2.1.2))] [56, 7, 6, 3, 2] ?_
             obtain ⟨t52, h53, h54⟩ := bS h50
             refine k0 (fun γ w hs => c_slices_Equal_Spell h53 (hv0_3.kept hs.kept) (hv1_3.kept hs.kept)) ?_
             refine oN 2 [(65, vb t52)] [7, 6, 3, 2] ?_
             refine oS 65 h54 (fun h57 => ?_) (fun h58 => ?_)
             · refine oN 6 [(71, .v (.slice b1.2.2.2.2.1.1 x1.Case.Member.Events.length b1.2.2.2.2.1.2)), (68, .v (.slice b0.2.2.2.2.1.1 x0.Case.Member.Events.length b0.2.2.2.2.1.2))] [65, 3, 2] ?_
               obtain ⟨t59, h60, h61⟩ := bS h57
               refine k0 (fun γ w hs => c_slices_Equal_Event h60 (hv0_4.kept hs.kept) (hv1_4.kept hs.kept)) ?_
               refine oN 2 [(74, vb t59)] [3, 2] ?_
               refine oS 74 h61 (fun h64 => ?_) (fun h65 => ?_)
               · refine oN 7 [(81, vb (x0.Start == x1.Start))] [3, 2] ?_
                 refine oS 81 h64 (fun h67 => ?_) (fun h68 => ?_)
                 · refine oN 4 [(85, .v (.slice b1.2.2.2.2.2.1 x1.Paid.length b1.2.2.2.2.2.2)), (83, .v (.slice b0.2.2.2.2.2.1 x0.Paid.length b0.2.2.2.2.2.2))] [81] ?_
                   obtain ⟨t69, h70, h71⟩ := bS h67
                   refine k0 (fun γ w hs => c_slices_Equal_int h70 (hv0_5.kept hs.kept) (hv1_5.kept hs.kept)) ?_
                   refine oN 2 [(4, vb t69)] [] ?_
                   refine oe ?_
                   obtain rfl := sI h71
                   exact mt () [4] [] 4
                 refine oN 7 [(4, vb false)] [] ?_
                 refine oe ?_
                 obtain rfl := sI h68
                 exact mt () [4] [] 4
               refine oN 14 [(4, vb false)] [] ?_
               refine oe ?_
               obtain rfl := sI h65
               exact mt () [4] [] 4
             refine oN 23 [(4, vb false)] [] ?_
             refine oe ?_
             obtain rfl := sI h58
             exact mt () [4] [] 4
           refine oN 32 [(4, vb false)] [] ?_
           refine oe ?_
           obtain rfl := sI h51
           exact mt () [4] [] 4
         refine oN 41 [(4, vb false)] [] ?_
         refine oe ?_
         obtain rfl := sI h48
         exact mt () [4] [] 4
       refine oN 50 [(4, vb false)] [] ?_
       refine oe ?_
       obtain rfl := sI h45
       exact mt () [4] [] 4
     refine oN 59 [(4, vb false)] [] ?_
     refine oe ?_
     obtain rfl := sI h38
     exact mt () [4] [] 4
   refine oN 68 [(4, vb false)] [] ?_
   refine oe ?_
   obtain rfl := sI h31
   exact mt () [4] [] 4
 refine nt (qe ?_)
 obtain rfl := sI h24
 exact re [.bool p22]

theorem c_laws_eqFrac {W : World} {x0 : Frac} {x1 : Frac} {r : Bool} (h : laws_eqFrac x0 x1 = some r)  :
    Gives0 Try.prog 116 #[vFrac x0, vFrac x1] W (.bool r) := by
 unfold laws_eqFrac at h
 refine en Try.func116 Try.ntmps116 ?_
 refine qs (qr (oB 3 [(3, .p 1 0), (2, .p 0 0)] [] [(81, (eFrac x0)), (81, (eFrac x1))] ?_))
 refine oe (nt (qs (qs (qr (oN 5 [(9, vb (x0.Num != x1.Num))] [3, 2] ?_)))))
 refine oe (nt (cC h (fun h22 => ?_) (fun h23 => ?_)))
 · refine qs (qr (oN 1 [(4, vb false)] [] ?_))
   refine oe (nt (qe (nr ?_)))
   obtain rfl := sI h22
   exact re [.bool false]
 refine qk (nt (qs (qs (qr (oN 5 [(14, vb (x0.Den != x1.Den))] [] ?_)))))
 refine oe (nt (cC h23 (fun h25 => ?_) (fun h26 => ?_)))
 · refine qs (qr (oN 1 [(4, vb false)] [] ?_))
   refine oe (nt (qe (nr ?_)))
   obtain rfl := sI h25
   exact re [.bool false]
 refine qk (nt (qs (qr (oN 1 [(4, vb true)] [] ?_))))
 refine oe (nt (qe ?_))
 obtain rfl := sI h26
 exact re [.bool true]

theorem c_laws_eqNode {W : World} {x0 : Node} {x1 : Node} {r : Bool} (h : laws_eqNode x0 x1 = some r)  :
    Gives0 Try.prog 111 #[vNode x0, vNode x1] W (.bool r) := by
 unfold laws_eqNode at h
 refine en Try.func111 Try.ntmps111 ?_
 refine qs (qr (oB 3 [(3, .p 1 0), (2, .p 0 0)] [] [(83, (eNode x0)), (83, (eNode x1))] ?_))
 refine oe (nt (qs (qs (qr (oN 5 [(9, vb (x0.Kind != x1.Kind))] [3, 2] ?_)))))
 refine oe (nt (cC h (fun h22 => ?_) (fun h23 => ?_)))
 · refine qs (qr (oN 1 [(4, vb false)] [] ?_))
   refine oe (nt (qe (nr ?_)))
   obtain rfl := sI h22
   exact re [.bool false]
 refine qk (nt (qs (qs (qr (oN 5 [(14, vb (x0.A != x1.A))] [3, 2] ?_)))))
 refine oe (nt (cC h23 (fun h25 => ?_) (fun h26 => ?_)))
 · refine qs (qr (oN 1 [(4, vb false)] [] ?_))
   refine oe (nt (qe (nr ?_)))
   obtain rfl := sI h25
   exact re [.bool false]
 refine qk (nt (qs (qs (qr (oN 5 [(19, vb (x0.B != x1.B))] [3, 2] ?_)))))
 refine oe (nt (cC h26 (fun h28 => ?_) (fun h29 => ?_)))
 · refine qs (qr (oN 1 [(4, vb false)] [] ?_))
   refine oe (nt (qe (nr ?_)))
   obtain rfl := sI h28
   exact re [.bool false]
 refine qk (nt (qs (qs (qr (oN 5 [(24, vb (x0.C != x1.C))] [3, 2] ?_)))))
 refine oe (nt (cC h29 (fun h31 => ?_) (fun h32 => ?_)))
 · refine qs (qr (oN 1 [(4, vb false)] [] ?_))
   refine oe (nt (qe (nr ?_)))
   obtain rfl := sI h31
   exact re [.bool false]
 refine qk (nt (qs (qs (qr (oN 4 [(28, .v (vFrac x1.Value)), (26, .v (vFrac x0.Value))] [] ?_)))))
 obtain ⟨t33, h34, h35⟩ := bS h32
 refine k0 (fun γ w hs => c_laws_eqFrac h34) ?_
 refine oN 1 [(30, vb (!t33))] [] ?_
 refine oe (nt (cC h35 (fun h38 => ?_) (fun h39 => ?_)))
 · refine qs (qr (oN 1 [(4, vb false)] [] ?_))
   refine oe (nt (qe (nr ?_)))
   obtain rfl := sI h38
   exact re [.bool false]
 refine qk (nt (qs (qr (oN 1 [(4, vb true)] [] ?_))))
 refine oe (nt (qe ?_))
 obtain rfl := sI h39
 exact re [.bool true]

theorem c_laws_eqNodeS {W : World} {x0 : List Node} {a0_0 : Option Addr} {c0_0 : Nat} {x1 : List Node} {a1_0 : Option Addr} {c1_0 : Nat} {r : Bool} (h : laws_eqNodeS x0 x1 = some r) (hv0_0 : SlView W x0 a0_0 c0_0) (hv1_0 : SlView W x1 a1_0 c1_0) :
    Gives0 Try.prog 105 #[.slice a0_0 x0.length c0_0, .slice a1_0 x1.length c1_0] W (.bool r) := by
 unfold laws_eqNodeS at h
 refine en Try.func105 Try.ntmps105 ?_
 refine qs (qr (oN 1 [] [0, 1] ?_))
 refine oe (nt (qs (qs (qr (oN 5 [(10, vb ((x0.length : Int) != (x1.length : Int)))] [0, 1] ?_)))))
 refine oe (nt (cC h (fun h22 => ?_) (fun h23 => ?_)))
 · refine qs (qr (oN 1 [(4, vb false)] [] ?_))
   refine oe (nt (qe (nr ?_)))
   obtain rfl := sI h22
   exact re [.bool false]
 refine qk (nt (qs (qs (qr (oN 1 [(5, vi 0)] [0, 1] ?_)))))
 refine oe (nt ?_)
 obtain ⟨r27, hL28, h29⟩ := bS h23
 obtain ⟨k30, hk31, h29⟩ := brkS h29
 refine JC_cutP (τ := (Unit) × (Unit)) (fun y => k30 y.1 = some r) (fun y35 => []) (fun y35 => []) (fun y35 => []) ?_ (fun y35 h36p => ?_)
 · refine qb (lp Unit hL28 (fun s24 y25 => [(5, vi s24), (0, .v (.slice a0_0 x0.length c0_0)), (1, .v (.slice a1_0 x1.length c1_0))]) (fun s24 y25 => []) (fun s24 y25 => []) () [5, 0, 1] [] 0 (fun s24 y25 t26 h32 hd33 => ?_))
   refine qs (qs (qr (oN 4 [(14, vb (decide (s24 < (x0.length : Int))))] [5, 0, 1] ?_)))
   refine oe (nt (cC h32 (fun h38 => ?_) (fun h39 => ?_)))
   · refine qk (nt (qs (qb (qs (JC_quiet (by kernel_rfl) (by kernel_rfl) ?_)))))
     refine qN 2 [(18, vi s24), (17, .v (.slice a0_0 x0.length c0_0))] [5, 0, 1] ?_
     obtain ⟨x40, hx41, h42⟩ := bS h38
     refine qi 6 (fun γ w hs => (hv0_0.kept hs.kept)) hx41 ?_
     refine ql 83 0 (vNode x40) (fun γ w hs => (hv0_0.kept hs.kept).flatq hx41) ?_
     refine qN 2 [(22, vi s24), (21, .v (.slice a1_0 x1.length c1_0))] [20, 5, 0, 1] ?_
     obtain ⟨x43, hx44, h45⟩ := bS h42
     refine qi 6 (fun γ w hs => (hv1_0.kept hs.kept)) hx44 ?_
     refine ql 83 0 (vNode x43) (fun γ w hs => (hv1_0.kept hs.kept).flatq hx44) ?_
     obtain ⟨t46, h47, h48⟩ := bS h45
     refine q0 (fun γ w hs => c_laws_eqNode h47) ?_
     refine qN 1 [(26, vb (!t46))] [5, 0, 1] ?_
     refine qz (nt (cC h48 (fun h51 => ?_) (fun h52 => ?_)))
     · refine qs (qr (oN 1 [(4, vb false)] [] ?_))
       refine oe (nt (qe (br (nr (nr ?_)))))
       have h53 := leafR hd33 h51 h29
       refine br (nr (nr ?_))
       obtain rfl := sI h53
       exact re [.bool false]
     refine qk (bn (nt (qr (oN 3 [(5, vi (w64 (s24 + 1)))] [0, 1] ?_))))
     exact oe (ct h52 () [5, 0, 1] [] 0)
   refine qx (nx (nx (bh ?_)))
   have h54 := leafB hd33 h39 h29
   exact mp ((), ()) h54 [] [] 0
 have h36 := (congrFun hk31 _).symm.trans h36p
 refine nt (qs (qr (oN 1 [(4, vb true)] [] ?_)))
 refine oe (nt (qe ?_))
 obtain rfl := sI h36
 exact re [.bool true]

theorem c_laws_eqRule {W : World} {x0 : Rule} {a0_0 : Option Addr} {c0_0 : Nat} {x1 : Rule} {a1_0 : Option Addr} {c1_0 : Nat} {r : Bool} (h : laws_eqRule x0 x1 = some r) (hv0_0 : SlView W x0.Nodes a0_0 c0_0) (hv1_0 : SlView W x1.Nodes a1_0 c1_0) :
    Gives0 Try.prog 96 #[vRule x0 (a0_0, c0_0), vRule x1 (a1_0, c1_0)] W (.bool r) := by
 unfold laws_eqRule at h
 refine en Try.func96 Try.ntmps96 ?_
 refine qs (qr (oB 3 [(3, .p 1 0), (2, .p 0 0)] [] [(78, (eRule x0 (a0_0, c0_0))), (78, (eRule x1 (a1_0, c1_0)))] ?_))
 refine oe (nt (qs (qs (qr (oN 5 [(9, vb (x0.Name != x1.Name))] [3, 2] ?_)))))
 refine oe (nt (cC h (fun h22 => ?_) (fun h23 => ?_)))
 · refine qs (qr (oN 1 [(4, vb false)] [] ?_))
   refine oe (nt (qe (nr ?_)))
   obtain rfl := sI h22
   exact re [.bool false]
 refine qk (nt (qs (qs (qr (oN 5 [(14, vb (x0.From != x1.From))] [3, 2] ?_)))))
 refine oe (nt (cC h23 (fun h25 => ?_) (fun h26 => ?_)))
 · refine qs (qr (oN 1 [(4, vb false)] [] ?_))
   refine oe (nt (qe (nr ?_)))
   obtain rfl := sI h25
   exact re [.bool false]
 refine qk (nt (qs (qs (qr (oN 5 [(19, vb (x0.To != x1.To))] [3, 2] ?_)))))
 refine oe (nt (cC h26 (fun h28 => ?_) (fun h29 => ?_)))
 · refine qs (qr (oN 1 [(4, vb false)] [] ?_))
   refine oe (nt (qe (nr ?_)))
   obtain rfl := sI h28
   exact re [.bool false]
 refine qk (nt (qs (qs (qr (oN 5 [(24, vb (x0.Joined != x1.Joined))] [3, 2] ?_)))))
 refine oe (nt (cC h29 (fun h31 => ?_) (fun h32 => ?_)))
 · refine qs (qr (oN 1 [(4, vb false)] [] ?_))
   refine oe (nt (qe (nr ?_)))
   obtain rfl := sI h31
   exact re [.bool false]
 refine qk (nt (qs (qs (qr (oN 5 [(29, vb (x0.Rank != x1.Rank))] [3, 2] ?_)))))
 refine oe (nt (cC h32 (fun h34 => ?_) (fun h35 => ?_)))
 · refine qs (qr (oN 1 [(4, vb false)] [] ?_))
   refine oe (nt (qe (nr ?_)))
   obtain rfl := sI h34
   exact re [.bool false]
 refine qk (nt (qs (qs (qr (oN 5 [(34, vb (x0.Mode != x1.Mode))] [3, 2] ?_)))))
 refine oe (nt (cC h35 (fun h37 => ?_) (fun h38 => ?_)))
 · refine qs (qr (oN 1 [(4, vb false)] [] ?_))
   refine oe (nt (qe (nr ?_)))
   obtain rfl := sI h37
   exact re [.bool false]
 refine qk (nt (qs (qs (qr (oN 4 [(38, .v (.slice a1_0 x1.Nodes.length c1_0)), (36, .v (.slice a0_0 x0.Nodes.length c0_0))] [] ?_)))))
 obtain ⟨t39, h40, h41⟩ := bS h38
 refine k0 (fun γ w hs => c_laws_eqNodeS h40 (hv0_0.kept hs.kept) (hv1_0.kept hs.kept)) ?_
 refine oN 1 [(40, vb (!t39))] [] ?_
 refine oe (nt (cC h41 (fun h44 => ?_) (fun h45 => ?_)))
 · refine qs (qr (oN 1 [(4, vb false)] [] ?_))
   refine oe (nt (qe (nr ?_)))
   obtain rfl := sI h44
   exact re [.bool false]
 refine qk (nt (qs (qr (oN 1 [(4, vb true)] [] ?_))))
 refine oe (nt (qe ?_))
 obtain rfl := sI h45
 exact re [.bool true]

theorem c_laws_eqRuleS {W : World} {x0 : List Rule} {a0_0 : Option Addr} {c0_0 : Nat} {x1 : List Rule} {a1_0 : Option Addr} {c1_0 : Nat} {r : Bool} (h : laws_eqRuleS x0 x1 = some r) (hv0_0 : SlView W x0 a0_0 c0_0) (hv1_0 : SlView W x1 a1_0 c1_0) :
    Gives0 Try.prog 79 #[.slice a0_0 x0.length c0_0, .slice a1_0 x1.length c1_0] W (.bool r) := by
 unfold laws_eqRuleS at h
 refine en Try.func79 Try.ntmps79 ?_
 refine qs (qr (oN 1 [] [0, 1] ?_))
 refine oe (nt (qs (qs (qr (oN 5 [(10, vb ((x0.length : Int) != (x1.length : Int)))] [0, 1] ?_)))))
 refine oe (nt (cC h (fun h22 => ?_) (fun h23 => ?_)))
 · refine qs (qr (oN 1 [(4, vb false)] [] ?_))
   refine oe (nt (qe (nr ?_)))
   obtain rfl := sI h22
   exact re [.bool false]
 refine qk (nt (qs (qs (qr (oN 1 [(5, vi 0)] [0, 1] ?_)))))
 refine oe (nt ?_)
 obtain ⟨r27, hL28, h29⟩ := bS h23
 obtain ⟨k30, hk31, h29⟩ := brkS h29
 refine JC_cutP (τ := (Unit) × (Unit)) (fun y => k30 y.1 = some r) (fun y35 => []) (fun y35 => []) (fun y35 => []) ?_ (fun y35 h36p => ?_)
 · refine qb (lp Unit hL28 (fun s24 y25 => [(5, vi s24), (0, .v (.slice a0_0 x0.length c0_0)), (1, .v (.slice a1_0 x1.length c1_0))]) (fun s24 y25 => []) (fun s24 y25 => []) () [5, 0, 1] [] 0 (fun s24 y25 t26 h32 hd33 => ?_))
   refine qs (qs (qr (oN 4 [(14, vb (decide (s24 < (x0.length : Int))))] [5, 0, 1] ?_)))
   refine oe (nt (cC h32 (fun h38 => ?_) (fun h39 => ?_)))
   · refine qk (nt (qs (qb (qs (JC_quiet (by kernel_rfl) (by kernel_rfl) ?_)))))
     refine qN 2 [(18, vi s24), (17, .v (.slice a0_0 x0.length c0_0))] [5, 0, 1] ?_
     obtain ⟨x40, hx41, h42⟩ := bS h38
     refine qi 7 (fun γ w hs => (hv0_0.kept hs.kept)) hx41 ?_
     obtain ⟨_, ⟨a43, c44, rfl, hv45⟩, hc46⟩ := SlView.at hv0_0 (idx_some hx41).2.2
     refine ql 78 0 (vRule x40 (a43, c44)) (fun γ w hs => ⟨(hv0_0.kept hs.kept).ne (idx_some hx41).2.2, hc46.kept hs.kept⟩) ?_
     refine qN 2 [(22, vi s24), (21, .v (.slice a1_0 x1.length c1_0))] [20, 5, 0, 1] ?_
     obtain ⟨x47, hx48, h49⟩ := bS h42
     refine qi 7 (fun γ w hs => (hv1_0.kept hs.kept)) hx48 ?_
     obtain ⟨_, ⟨a50, c51, rfl, hv52⟩, hc53⟩ := SlView.at hv1_0 (idx_some hx48).2.2
     refine ql 78 0 (vRule x47 (a50, c51)) (fun γ w hs => ⟨(hv1_0.kept hs.kept).ne (idx_some hx48).2.2, hc53.kept hs.kept⟩) ?_
     obtain ⟨t54, h55, h56⟩ := bS h49
     refine q0 (fun γ w hs => c_laws_eqRule h55 (hv45.kept hs.kept) (hv52.kept hs.kept)) ?_
     refine qN 1 [(26, vb (!t54))] [5, 0, 1] ?_
     refine qz (nt (cC h56 (fun h59 => ?_) (fun h60 => ?_)))
     · refine qs (qr (oN 1 [(4, vb false)] [] ?_))
       refine oe (nt (qe (br (nr (nr ?_)))))
       have h61 := leafR hd33 h59 h29
       refine br (nr (nr ?_))
       obtain rfl := sI h61
       exact re [.bool false]
     refine qk (bn (nt (qr (oN 3 [(5, vi (w64 (s24 + 1)))] [0, 1] ?_))))
     exact oe (ct h60 () [5, 0, 1] [] 0)
   refine qx (nx (nx (bh ?_)))
   have h62 := leafB hd33 h39 h29
   exact mp ((), ()) h62 [] [] 0
 have h36 := (congrFun hk31 _).symm.trans h36p
 refine nt (qs (qr (oN 1 [(4, vb true)] [] ?_)))
 refine oe (nt (qe ?_))
 obtain rfl := sI h36
 exact re [.bool true]

theorem c_laws_eqBook {W : World} {x0 : Book} {a0_0 : Option Addr} {c0_0 : Nat} {x1 : Book} {a1_0 : Option Addr} {c1_0 : Nat} {r : Bool} (h : laws_eqBook x0 x1 = some r) (hv0_0 : SlView W x0.Rules a0_0 c0_0) (hv1_0 : SlView W x1.Rules a1_0 c1_0) :
    Gives0 Try.prog 55 #[vBook x0 (a0_0, c0_0), vBook x1 (a1_0, c1_0)] W (.bool r) := by
 unfold laws_eqBook at h
 refine en Try.func55 Try.ntmps55 ?_
 refine qs (qr (oB 3 [(3, .p 1 0), (2, .p 0 0)] [] [(44, (eBook x0 (a0_0, c0_0))), (44, (eBook x1 (a1_0, c1_0)))] ?_))
 refine oe (nt (qs (qs (qr (oN 4 [(8, .v (.slice a1_0 x1.Rules.length c1_0)), (6, .v (.slice a0_0 x0.Rules.length c0_0))] [] ?_)))))
 obtain ⟨t21, h22, h23⟩ := bS h
 refine k0 (fun γ w hs => c_laws_eqRuleS h22 (hv0_0.kept hs.kept) (hv1_0.kept hs.kept)) ?_
 refine oN 1 [(10, vb (!t21))] [] ?_
 refine oe (nt (cC h23 (fun h26 => ?_) (fun h27 => ?_)))
 · refine qs (qr (oN 1 [(4, vb false)] [] ?_))
   refine oe (nt (qe (nr ?_)))
   obtain rfl := sI h26
   exact re [.bool false]
 refine qk (nt (qs (qr (oN 1 [(4, vb true)] [] ?_))))
 refine oe (nt (qe ?_))
 obtain rfl := sI h27
 exact re [.bool true]

theorem c_laws_eqFact {W : World} {x0 : Fact} {x1 : Fact} {r : Bool} (h : laws_eqFact x0 x1 = some r)  :
    Gives0 Try.prog 97 #[vFact x0, vFact x1] W (.bool r) := by
 unfold laws_eqFact at h
 refine en Try.func97 Try.ntmps97 ?_
 refine qs (qr (oB 3 [(3, .p 1 0), (2, .p 0 0)] [] [(88, (eFact x0)), (88, (eFact x1))] ?_))
 refine oe (nt (qs (qs (qr (oN 5 [(9, vb (x0.Key != x1.Key))] [3, 2] ?_)))))
 refine oe (nt (cC h (fun h22 => ?_) (fun h23 => ?_)))
 · refine qs (qr (oN 1 [(4, vb false)] [] ?_))
   refine oe (nt (qe (nr ?_)))
   obtain rfl := sI h22
   exact re [.bool false]
 refine qk (nt (qs (qs (qr (oN 5 [(14, vb (x0.From != x1.From))] [3, 2] ?_)))))
 refine oe (nt (cC h23 (fun h25 => ?_) (fun h26 => ?_)))
 · refine qs (qr (oN 1 [(4, vb false)] [] ?_))
   refine oe (nt (qe (nr ?_)))
   obtain rfl := sI h25
   exact re [.bool false]
 refine qk (nt (qs (qs (qr (oN 5 [(19, vb (x0.To != x1.To))] [3, 2] ?_)))))
 refine oe (nt (cC h26 (fun h28 => ?_) (fun h29 => ?_)))
 · refine qs (qr (oN 1 [(4, vb false)] [] ?_))
   refine oe (nt (qe (nr ?_)))
   obtain rfl := sI h28
   exact re [.bool false]
 refine qk (nt (qs (qs (qr (oN 5 [(24, vb (x0.Known != x1.Known))] [3, 2] ?_)))))
 refine oe (nt (cC h29 (fun h31 => ?_) (fun h32 => ?_)))
 · refine qs (qr (oN 1 [(4, vb false)] [] ?_))
   refine oe (nt (qe (nr ?_)))
   obtain rfl := sI h31
   exact re [.bool false]
 refine qk (nt (qs (qs (qr (oN 5 [(29, vb (x0.Value != x1.Value))] [] ?_)))))
 refine oe (nt (cC h32 (fun h34 => ?_) (fun h35 => ?_)))
 · refine qs (qr (oN 1 [(4, vb false)] [] ?_))
   refine oe (nt (qe (nr ?_)))
   obtain rfl := sI h34
   exact re [.bool false]
 refine qk (nt (qs (qr (oN 1 [(4, vb true)] [] ?_))))
 refine oe (nt (qe ?_))
 obtain rfl := sI h35
 exact re [.bool true]

theorem c_laws_eqFactS {W : World} {x0 : List Fact} {a0_0 : Option Addr} {c0_0 : Nat} {x1 : List Fact} {a1_0 : Option Addr} {c1_0 : Nat} {r : Bool} (h : laws_eqFactS x0 x1 = some r) (hv0_0 : SlView W x0 a0_0 c0_0) (hv1_0 : SlView W x1 a1_0 c1_0) :
    Gives0 Try.prog 80 #[.slice a0_0 x0.length c0_0, .slice a1_0 x1.length c1_0] W (.bool r) := by
 unfold laws_eqFactS at h
 refine en Try.func80 Try.ntmps80 ?_
 refine qs (qr (oN 1 [] [0, 1] ?_))
 refine oe (nt (qs (qs (qr (oN 5 [(10, vb ((x0.length : Int) != (x1.length : Int)))] [0, 1] ?_)))))
 refine oe (nt (cC h (fun h22 => ?_) (fun h23 => ?_)))
 · refine qs (qr (oN 1 [(4, vb false)] [] ?_))
   refine oe (nt (qe (nr ?_)))
   obtain rfl := sI h22
   exact re [.bool false]
 refine qk (nt (qs (qs (qr (oN 1 [(5, vi 0)] [0, 1] ?_)))))
 refine oe (nt ?_)
 obtain ⟨r27, hL28, h29⟩ := bS h23
 obtain ⟨k30, hk31, h29⟩ := brkS h29
 refine JC_cutP (τ := (Unit) × (Unit)) (fun y => k30 y.1 = some r) (fun y35 => []) (fun y35 => []) (fun y35 => []) ?_ (fun y35 h36p => ?_)
 · refine qb (lp Unit hL28 (fun s24 y25 => [(5, vi s24), (0, .v (.slice a0_0 x0.length c0_0)), (1, .v (.slice a1_0 x1.length c1_0))]) (fun s24 y25 => []) (fun s24 y25 => []) () [5, 0, 1] [] 0 (fun s24 y25 t26 h32 hd33 => ?_))
   refine qs (qs (qr (oN 4 [(14, vb (decide (s24 < (x0.length : Int))))] [5, 0, 1] ?_)))
   refine oe (nt (cC h32 (fun h38 => ?_) (fun h39 => ?_)))
   · refine qk (nt (qs (qb (qs (JC_quiet (by kernel_rfl) (by kernel_rfl) ?_)))))
     refine qN 2 [(18, vi s24), (17, .v (.slice a0_0 x0.length c0_0))] [5, 0, 1] ?_
     obtain ⟨x40, hx41, h42⟩ := bS h38
     refine qi 5 (fun γ w hs => (hv0_0.kept hs.kept)) hx41 ?_
     refine ql 88 0 (vFact x40) (fun γ w hs => (hv0_0.kept hs.kept).flatq hx41) ?_
     refine qN 2 [(22, vi s24), (21, .v (.slice a1_0 x1.length c1_0))] [20, 5, 0, 1] ?_
     obtain ⟨x43, hx44, h45⟩ := bS h42
     refine qi 5 (fun γ w hs => (hv1_0.kept hs.kept)) hx44 ?_
     refine ql 88 0 (vFact x43) (fun γ w hs => (hv1_0.kept hs.kept).flatq hx44) ?_
     obtain ⟨t46, h47, h48⟩ := bS h45
     refine q0 (fun γ w hs => c_laws_eqFact h47) ?_
     refine qN 1 [(26, vb (!t46))] [5, 0, 1] ?_
     refine qz (nt (cC h48 (fun h51 => ?_) (fun h52 => ?_)))
     · refine qs (qr (oN 1 [(4, vb false)] [] ?_))
       refine oe (nt (qe (br (nr (nr ?_)))))
       have h53 := leafR hd33 h51 h29
       refine br (nr (nr ?_))
       obtain rfl := sI h53
       exact re [.bool false]
     refine qk (bn (nt (qr (oN 3 [(5, vi (w64 (s24 + 1)))] [0, 1] ?_))))
     exact oe (ct h52 () [5, 0, 1] [] 0)
   refine qx (nx (nx (bh ?_)))
   have h54 := leafB hd33 h39 h29
   exact mp ((), ()) h54 [] [] 0
 have h36 := (congrFun hk31 _).symm.trans h36p
 refine nt (qs (qr (oN 1 [(4, vb true)] [] ?_)))
 refine oe (nt (qe ?_))
 obtain rfl := sI h36
 exact re [.bool true]

theorem c_laws_eqStore {W : World} {x0 : Store} {a0_0 : Option Addr} {c0_0 : Nat} {x1 : Store} {a1_0 : Option Addr} {c1_0 : Nat} {r : Bool} (h : laws_eqStore x0 x1 = some r) (hv0_0 : SlView W x0.Facts a0_0 c0_0) (hv1_0 : SlView W x1.Facts a1_0 c1_0) :
    Gives0 Try.prog 56 #[vStore x0 (a0_0, c0_0), vStore x1 (a1_0, c1_0)] W (.bool r) := by
 unfold laws_eqStore at h
 refine en Try.func56 Try.ntmps56 ?_
 refine qs (qr (oB 3 [(3, .p 1 0), (2, .p 0 0)] [] [(47, (eStore x0 (a0_0, c0_0))), (47, (eStore x1 (a1_0, c1_0)))] ?_))
 refine oe (nt (qs (qs (qr (oN 4 [(8, .v (.slice a1_0 x1.Facts.length c1_0)), (6, .v (.slice a0_0 x0.Facts.length c0_0))] [] ?_)))))
 obtain ⟨t21, h22, h23⟩ := bS h
 refine k0 (fun γ w hs => c_laws_eqFactS h22 (hv0_0.kept hs.kept) (hv1_0.kept hs.kept)) ?_
 refine oN 1 [(10, vb (!t21))] [] ?_
 refine oe (nt (cC h23 (fun h26 => ?_) (fun h27 => ?_)))
 · refine qs (qr (oN 1 [(4, vb false)] [] ?_))
   refine oe (nt (qe (nr ?_)))
   obtain rfl := sI h26
   exact re [.bool false]
 refine qk (nt (qs (qr (oN 1 [(4, vb true)] [] ?_))))
 refine oe (nt (qe ?_))
 obtain rfl := sI h27
 exact re [.bool true]

theorem c_laws_eqPoint {W : World} {x0 : Point} {x1 : Point} {r : Bool} (h : laws_eqPoint x0 x1 = some r)  :
    Gives0 Try.prog 98 #[vPoint x0, vPoint x1] W (.bool r) := by
 unfold laws_eqPoint at h
 refine en Try.func98 Try.ntmps98 ?_
 refine qs (qr (oB 3 [(3, .p 1 0), (2, .p 0 0)] [] [(91, (ePoint x0)), (91, (ePoint x1))] ?_))
 refine oe (nt (qs (qs (qr (oN 5 [(9, vb (x0.Month != x1.Month))] [3, 2] ?_)))))
 refine oe (nt (cC h (fun h22 => ?_) (fun h23 => ?_)))
 · refine qs (qr (oN 1 [(4, vb false)] [] ?_))
   refine oe (nt (qe (nr ?_)))
   obtain rfl := sI h22
   exact re [.bool false]
 refine qk (nt (qs (qs (qr (oN 5 [(14, vb (x0.Known != x1.Known))] [3, 2] ?_)))))
 refine oe (nt (cC h23 (fun h25 => ?_) (fun h26 => ?_)))
 · refine qs (qr (oN 1 [(4, vb false)] [] ?_))
   refine oe (nt (qe (nr ?_)))
   obtain rfl := sI h25
   exact re [.bool false]
 refine qk (nt (qs (qs (qr (oN 5 [(19, vb (x0.Value != x1.Value))] [] ?_)))))
 refine oe (nt (cC h26 (fun h28 => ?_) (fun h29 => ?_)))
 · refine qs (qr (oN 1 [(4, vb false)] [] ?_))
   refine oe (nt (qe (nr ?_)))
   obtain rfl := sI h28
   exact re [.bool false]
 refine qk (nt (qs (qr (oN 1 [(4, vb true)] [] ?_))))
 refine oe (nt (qe ?_))
 obtain rfl := sI h29
 exact re [.bool true]

theorem c_laws_eqPointS {W : World} {x0 : List Point} {a0_0 : Option Addr} {c0_0 : Nat} {x1 : List Point} {a1_0 : Option Addr} {c1_0 : Nat} {r : Bool} (h : laws_eqPointS x0 x1 = some r) (hv0_0 : SlView W x0 a0_0 c0_0) (hv1_0 : SlView W x1 a1_0 c1_0) :
    Gives0 Try.prog 81 #[.slice a0_0 x0.length c0_0, .slice a1_0 x1.length c1_0] W (.bool r) := by
 unfold laws_eqPointS at h
 refine en Try.func81 Try.ntmps81 ?_
 refine qs (qr (oN 1 [] [0, 1] ?_))
 refine oe (nt (qs (qs (qr (oN 5 [(10, vb ((x0.length : Int) != (x1.length : Int)))] [0, 1] ?_)))))
 refine oe (nt (cC h (fun h22 => ?_) (fun h23 => ?_)))
 · refine qs (qr (oN 1 [(4, vb false)] [] ?_))
   refine oe (nt (qe (nr ?_)))
   obtain rfl := sI h22
   exact re [.bool false]
 refine qk (nt (qs (qs (qr (oN 1 [(5, vi 0)] [0, 1] ?_)))))
 refine oe (nt ?_)
 obtain ⟨r27, hL28, h29⟩ := bS h23
 obtain ⟨k30, hk31, h29⟩ := brkS h29
 refine JC_cutP (τ := (Unit) × (Unit)) (fun y => k30 y.1 = some r) (fun y35 => []) (fun y35 => []) (fun y35 => []) ?_ (fun y35 h36p => ?_)
 · refine qb (lp Unit hL28 (fun s24 y25 => [(5, vi s24), (0, .v (.slice a0_0 x0.length c0_0)), (1, .v (.slice a1_0 x1.length c1_0))]) (fun s24 y25 => []) (fun s24 y25 => []) () [5, 0, 1] [] 0 (fun s24 y25 t26 h32 hd33 => ?_))
   refine qs (qs (qr (oN 4 [(14, vb (decide (s24 < (x0.length : Int))))] [5, 0, 1] ?_)))
   refine oe (nt (cC h32 (fun h38 => ?_) (fun h39 => ?_)))
   · refine qk (nt (qs (qb (qs (JC_quiet (by kernel_rfl) (by kernel_rfl) ?_)))))
     refine qN 2 [(18, vi s24), (17, .v (.slice a0_0 x0.length c0_0))] [5, 0, 1] ?_
     obtain ⟨x40, hx41, h42⟩ := bS h38
     refine qi 3 (fun γ w hs => (hv0_0.kept hs.kept)) hx41 ?_
     refine ql 91 0 (vPoint x40) (fun γ w hs => (hv0_0.kept hs.kept).flatq hx41) ?_
     refine qN 2 [(22, vi s24), (21, .v (.slice a1_0 x1.length c1_0))] [20, 5, 0, 1] ?_
     obtain ⟨x43, hx44, h45⟩ := bS h42
     refine qi 3 (fun γ w hs => (hv1_0.kept hs.kept)) hx44 ?_
     refine ql 91 0 (vPoint x43) (fun γ w hs => (hv1_0.kept hs.kept).flatq hx44) ?_
     obtain ⟨t46, h47, h48⟩ := bS h45
     refine q0 (fun γ w hs => c_laws_eqPoint h47) ?_
     refine qN 1 [(26, vb (!t46))] [5, 0, 1] ?_
     refine qz (nt (cC h48 (fun h51 => ?_) (fun h52 => ?_)))
     · refine qs (qr (oN 1 [(4, vb false)] [] ?_))
       refine oe (nt (qe (br (nr (nr ?_)))))
       have h53 := leafR hd33 h51 h29
       refine br (nr (nr ?_))
       obtain rfl := sI h53
       exact re [.bool false]
     refine qk (bn (nt (qr (oN 3 [(5, vi (w64 (s24 + 1)))] [0, 1] ?_))))
     exact oe (ct h52 () [5, 0, 1] [] 0)
   refine qx (nx (nx (bh ?_)))
   have h54 := leafB hd33 h39 h29
   exact mp ((), ()) h54 [] [] 0
 have h36 := (congrFun hk31 _).symm.trans h36p
 refine nt (qs (qr (oN 1 [(4, vb true)] [] ?_)))
 refine oe (nt (qe ?_))
 obtain rfl := sI h36
 exact re [.bool true]

theorem c_laws_eqSeries {W : World} {x0 : Series} {a0_0 : Option Addr} {c0_0 : Nat} {x1 : Series} {a1_0 : Option Addr} {c1_0 : Nat} {r : Bool} (h : laws_eqSeries x0 x1 = some r) (hv0_0 : SlView W x0.Points a0_0 c0_0) (hv1_0 : SlView W x1.Points a1_0 c1_0) :
    Gives0 Try.prog 57 #[vSeries x0 (a0_0, c0_0), vSeries x1 (a1_0, c1_0)] W (.bool r) := by
 unfold laws_eqSeries at h
 refine en Try.func57 Try.ntmps57 ?_
 refine qs (qr (oB 3 [(3, .p 1 0), (2, .p 0 0)] [] [(50, (eSeries x0 (a0_0, c0_0))), (50, (eSeries x1 (a1_0, c1_0)))] ?_))
 refine oe (nt (qs (qs (qr (oN 4 [(8, .v (.slice a1_0 x1.Points.length c1_0)), (6, .v (.slice a0_0 x0.Points.length c0_0))] [] ?_)))))
 obtain ⟨t21, h22, h23⟩ := bS h
 refine k0 (fun γ w hs => c_laws_eqPointS h22 (hv0_0.kept hs.kept) (hv1_0.kept hs.kept)) ?_
 refine oN 1 [(10, vb (!t21))] [] ?_
 refine oe (nt (cC h23 (fun h26 => ?_) (fun h27 => ?_)))
 · refine qs (qr (oN 1 [(4, vb false)] [] ?_))
   refine oe (nt (qe (nr ?_)))
   obtain rfl := sI h26
   exact re [.bool false]
 refine qk (nt (qs (qr (oN 1 [(4, vb true)] [] ?_))))
 refine oe (nt (qe ?_))
 obtain rfl := sI h27
 exact re [.bool true]

theorem c_laws_eqSpell {W : World} {x0 : Spell} {x1 : Spell} {r : Bool} (h : laws_eqSpell x0 x1 = some r)  :
    Gives0 Try.prog 99 #[vSpell x0, vSpell x1] W (.bool r) := by
 unfold laws_eqSpell at h
 refine en Try.func99 Try.ntmps99 ?_
 refine qs (qr (oB 3 [(3, .p 1 0), (2, .p 0 0)] [] [(94, (eSpell x0)), (94, (eSpell x1))] ?_))
 refine oe (nt (qs (qs (qr (oN 5 [(9, vb (x0.From != x1.From))] [3, 2] ?_)))))
 refine oe (nt (cC h (fun h22 => ?_) (fun h23 => ?_)))
 · refine qs (qr (oN 1 [(4, vb false)] [] ?_))
   refine oe (nt (qe (nr ?_)))
   obtain rfl := sI h22
   exact re [.bool false]
 refine qk (nt (qs (qs (qr (oN 5 [(14, vb (x0.To != x1.To))] [3, 2] ?_)))))
 refine oe (nt (cC h23 (fun h25 => ?_) (fun h26 => ?_)))
 · refine qs (qr (oN 1 [(4, vb false)] [] ?_))
   refine oe (nt (qe (nr ?_)))
   obtain rfl := sI h25
   exact re [.bool false]
 refine qk (nt (qs (qs (qr (oN 5 [(19, vb (x0.Percent != x1.Percent))] [3, 2] ?_)))))
 refine oe (nt (cC h26 (fun h28 => ?_) (fun h29 => ?_)))
 · refine qs (qr (oN 1 [(4, vb false)] [] ?_))
   refine oe (nt (qe (nr ?_)))
   obtain rfl := sI h28
   exact re [.bool false]
 refine qk (nt (qs (qs (qr (oN 5 [(24, vb (!(x0.Leave == x1.Leave)))] [] ?_)))))
 refine oe (nt (cC h29 (fun h31 => ?_) (fun h32 => ?_)))
 · refine qs (qr (oN 1 [(4, vb false)] [] ?_))
   refine oe (nt (qe (nr ?_)))
   obtain rfl := sI h31
   exact re [.bool false]
 refine qk (nt (qs (qr (oN 1 [(4, vb true)] [] ?_))))
 refine oe (nt (qe ?_))
 obtain rfl := sI h32
 exact re [.bool true]

theorem c_laws_eqSpellS {W : World} {x0 : List Spell} {a0_0 : Option Addr} {c0_0 : Nat} {x1 : List Spell} {a1_0 : Option Addr} {c1_0 : Nat} {r : Bool} (h : laws_eqSpellS x0 x1 = some r) (hv0_0 : SlView W x0 a0_0 c0_0) (hv1_0 : SlView W x1 a1_0 c1_0) :
    Gives0 Try.prog 82 #[.slice a0_0 x0.length c0_0, .slice a1_0 x1.length c1_0] W (.bool r) := by
 unfold laws_eqSpellS at h
 refine en Try.func82 Try.ntmps82 ?_
 refine qs (qr (oN 1 [] [0, 1] ?_))
 refine oe (nt (qs (qs (qr (oN 5 [(10, vb ((x0.length : Int) != (x1.length : Int)))] [0, 1] ?_)))))
 refine oe (nt (cC h (fun h22 => ?_) (fun h23 => ?_)))
 · refine qs (qr (oN 1 [(4, vb false)] [] ?_))
   refine oe (nt (qe (nr ?_)))
   obtain rfl := sI h22
   exact re [.bool false]
 refine qk (nt (qs (qs (qr (oN 1 [(5, vi 0)] [0, 1] ?_)))))
 refine oe (nt ?_)
 obtain ⟨r27, hL28, h29⟩ := bS h23
 obtain ⟨k30, hk31, h29⟩ := brkS h29
 refine JC_cutP (τ := (Unit) × (Unit)) (fun y => k30 y.1 = some r) (fun y35 => []) (fun y35 => []) (fun y35 => []) ?_ (fun y35 h36p => ?_)
 · refine qb (lp Unit hL28 (fun s24 y25 => [(5, vi s24), (0, .v (.slice a0_0 x0.length c0_0)), (1, .v (.slice a1_0 x1.length c1_0))]) (fun s24 y25 => []) (fun s24 y25 => []) () [5, 0, 1] [] 0 (fun s24 y25 t26 h32 hd33 => ?_))
   refine qs (qs (qr (oN 4 [(14, vb (decide (s24 < (x0.length : Int))))] [5, 0, 1] ?_)))
   refine oe (nt (cC h32 (fun h38 => ?_) (fun h39 => ?_)))
   · refine qk (nt (qs (qb (qs (JC_quiet (by kernel_rfl) (by kernel_rfl) ?_)))))
     refine qN 2 [(18, vi s24), (17, .v (.slice a0_0 x0.length c0_0))] [5, 0, 1] ?_
     obtain ⟨x40, hx41, h42⟩ := bS h38
     refine qi 4 (fun γ w hs => (hv0_0.kept hs.kept)) hx41 ?_
     refine ql 94 0 (vSpell x40) (fun γ w hs => (hv0_0.kept hs.kept).flatq hx41) ?_
     refine qN 2 [(22, vi s24), (21, .v (.slice a1_0 x1.length c1_0))] [20, 5, 0, 1] ?_
     obtain ⟨x43, hx44, h45⟩ := bS h42
     refine qi 4 (fun γ w hs => (hv1_0.kept hs.kept)) hx44 ?_
     refine ql 94 0 (vSpell x43) (fun γ w hs => (hv1_0.kept hs.kept).flatq hx44) ?_
     obtain ⟨t46, h47, h48⟩ := bS h45
     refine q0 (fun γ w hs => c_laws_eqSpell h47) ?_
     refine qN 1 [(26, vb (!t46))] [5, 0, 1] ?_
     refine qz (nt (cC h48 (fun h51 => ?_) (fun h52 => ?_)))
     · refine qs (qr (oN 1 [(4, vb false)] [] ?_))
       refine oe (nt (qe (br (nr (nr ?_)))))
       have h53 := leafR hd33 h51 h29
       refine br (nr (nr ?_))
       obtain rfl := sI h53
       exact re [.bool false]
     refine qk (bn (nt (qr (oN 3 [(5, vi (w64 (s24 + 1)))] [0, 1] ?_))))
     exact oe (ct h52 () [5, 0, 1] [] 0)
   refine qx (nx (nx (bh ?_)))
   have h54 := leafB hd33 h39 h29
   exact mp ((), ()) h54 [] [] 0
 have h36 := (congrFun hk31 _).symm.trans h36p
 refine nt (qs (qr (oN 1 [(4, vb true)] [] ?_)))
 refine oe (nt (qe ?_))
 obtain rfl := sI h36
 exact re [.bool true]

theorem c_laws_eqEvent {W : World} {x0 : Event} {x1 : Event} {r : Bool} (h : laws_eqEvent x0 x1 = some r)  :
    Gives0 Try.prog 100 #[vEvent x0, vEvent x1] W (.bool r) := by
 unfold laws_eqEvent at h
 refine en Try.func100 Try.ntmps100 ?_
 refine qs (qr (oB 3 [(3, .p 1 0), (2, .p 0 0)] [] [(97, (eEvent x0)), (97, (eEvent x1))] ?_))
 refine oe (nt (qs (qs (qr (oN 5 [(9, vb (x0.Kind != x1.Kind))] [3, 2] ?_)))))
 refine oe (nt (cC h (fun h22 => ?_) (fun h23 => ?_)))
 · refine qs (qr (oN 1 [(4, vb false)] [] ?_))
   refine oe (nt (qe (nr ?_)))
   obtain rfl := sI h22
   exact re [.bool false]
 refine qk (nt (qs (qs (qr (oN 5 [(14, vb (x0.Month != x1.Month))] [] ?_)))))
 refine oe (nt (cC h23 (fun h25 => ?_) (fun h26 => ?_)))
 · refine qs (qr (oN 1 [(4, vb false)] [] ?_))
   refine oe (nt (qe (nr ?_)))
   obtain rfl := sI h25
   exact re [.bool false]
 refine qk (nt (qs (qr (oN 1 [(4, vb true)] [] ?_))))
 refine oe (nt (qe ?_))
 obtain rfl := sI h26
 exact re [.bool true]

theorem c_laws_eqEventS {W : World} {x0 : List Event} {a0_0 : Option Addr} {c0_0 : Nat} {x1 : List Event} {a1_0 : Option Addr} {c1_0 : Nat} {r : Bool} (h : laws_eqEventS x0 x1 = some r) (hv0_0 : SlView W x0 a0_0 c0_0) (hv1_0 : SlView W x1 a1_0 c1_0) :
    Gives0 Try.prog 83 #[.slice a0_0 x0.length c0_0, .slice a1_0 x1.length c1_0] W (.bool r) := by
 unfold laws_eqEventS at h
 refine en Try.func83 Try.ntmps83 ?_
 refine qs (qr (oN 1 [] [0, 1] ?_))
 refine oe (nt (qs (qs (qr (oN 5 [(10, vb ((x0.length : Int) != (x1.length : Int)))] [0, 1] ?_)))))
 refine oe (nt (cC h (fun h22 => ?_) (fun h23 => ?_)))
 · refine qs (qr (oN 1 [(4, vb false)] [] ?_))
   refine oe (nt (qe (nr ?_)))
   obtain rfl := sI h22
   exact re [.bool false]
 refine qk (nt (qs (qs (qr (oN 1 [(5, vi 0)] [0, 1] ?_)))))
 refine oe (nt ?_)
 obtain ⟨r27, hL28, h29⟩ := bS h23
 obtain ⟨k30, hk31, h29⟩ := brkS h29
 refine JC_cutP (τ := (Unit) × (Unit)) (fun y => k30 y.1 = some r) (fun y35 => []) (fun y35 => []) (fun y35 => []) ?_ (fun y35 h36p => ?_)
 · refine qb (lp Unit hL28 (fun s24 y25 => [(5, vi s24), (0, .v (.slice a0_0 x0.length c0_0)), (1, .v (.slice a1_0 x1.length c1_0))]) (fun s24 y25 => []) (fun s24 y25 => []) () [5, 0, 1] [] 0 (fun s24 y25 t26 h32 hd33 => ?_))
   refine qs (qs (qr (oN 4 [(14, vb (decide (s24 < (x0.length : Int))))] [5, 0, 1] ?_)))
   refine oe (nt (cC h32 (fun h38 => ?_) (fun h39 => ?_)))
   · refine qk (nt (qs (qb (qs (JC_quiet (by kernel_rfl) (by kernel_rfl) ?_)))))
     refine qN 2 [(18, vi s24), (17, .v (.slice a0_0 x0.length c0_0))] [5, 0, 1] ?_
     obtain ⟨x40, hx41, h42⟩ := bS h38
     refine qi 2 (fun γ w hs => (hv0_0.kept hs.kept)) hx41 ?_
     refine ql 97 0 (vEvent x40) (fun γ w hs => (hv0_0.kept hs.kept).flatq hx41) ?_
     refine qN 2 [(22, vi s24), (21, .v (.slice a1_0 x1.length c1_0))] [20, 5, 0, 1] ?_
     obtain ⟨x43, hx44, h45⟩ := bS h42
     refine qi 2 (fun γ w hs => (hv1_0.kept hs.kept)) hx44 ?_
     refine ql 97 0 (vEvent x43) (fun γ w hs => (hv1_0.kept hs.kept).flatq hx44) ?_
     obtain ⟨t46, h47, h48⟩ := bS h45
     refine q0 (fun γ w hs => c_laws_eqEvent h47) ?_
     refine qN 1 [(26, vb (!t46))] [5, 0, 1] ?_
     refine qz (nt (cC h48 (fun h51 => ?_) (fun h52 => ?_)))
     · refine qs (qr (oN 1 [(4, vb false)] [] ?_))
       refine oe (nt (qe (br (nr (nr ?_)))))
       have h53 := leafR hd33 h51 h29
       refine br (nr (nr ?_))
       obtain rfl := sI h53
       exact re [.bool false]
     refine qk (bn (nt (qr (oN 3 [(5, vi (w64 (s24 + 1)))] [0, 1] ?_))))
     exact oe (ct h52 () [5, 0, 1] [] 0)
   refine qx (nx (nx (bh ?_)))
   have h54 := leafB hd33 h39 h29
   exact mp ((), ()) h54 [] [] 0
 have h36 := (congrFun hk31 _).symm.trans h36p
 refine nt (qs (qr (oN 1 [(4, vb true)] [] ?_)))
 refine oe (nt (qe ?_))
 obtain rfl := sI h36
 exact re [.bool true]

theorem c_laws_eqMember {W : World} {x0 : Member} {b0 : AC × AC} {x1 : Member} {b1 : AC × AC} {r : Bool} (h : laws_eqMember x0 x1 = some r) (hv0_0 : SlView W x0.Spells b0.1.1 b0.1.2) (hv0_1 : SlView W x0.Events b0.2.1 b0.2.2) (hv1_0 : SlView W x1.Spells b1.1.1 b1.1.2) (hv1_1 : SlView W x1.Events b1.2.1 b1.2.2) :
    Gives0 Try.prog 58 #[vMember x0 b0, vMember x1 b1] W (.bool r) := by
 unfold laws_eqMember at h
 refine en Try.func58 Try.ntmps58 ?_
 refine qs (qr (oB 3 [(3, .p 1 0), (2, .p 0 0)] [] [(54, (eMember x0 b0)), (54, (eMember x1 b1))] ?_))
 refine oe (nt (qs (qs (qr (oN 5 [(9, vb (x0.Birth != x1.Birth))] [3, 2] ?_)))))
 refine oe (nt (cC h (fun h22 => ?_) (fun h23 => ?_)))
 · refine qs (qr (oN 1 [(4, vb false)] [] ?_))
   refine oe (nt (qe (nr ?_)))
   obtain rfl := sI h22
   exact re [.bool false]
 refine qk (nt (qs (qs (qr (oN 5 [(14, vb (x0.Joined != x1.Joined))] [3, 2] ?_)))))
 refine oe (nt (cC h23 (fun h25 => ?_) (fun h26 => ?_)))
 · refine qs (qr (oN 1 [(4, vb false)] [] ?_))
   refine oe (nt (qe (nr ?_)))
   obtain rfl := sI h25
   exact re [.bool false]
 refine qk (nt (qs (qs (qr (oN 4 [(18, .v (.slice b1.1.1 x1.Spells.length b1.1.2)), (16, .v (.slice b0.1.1 x0.Spells.length b0.1.2))] [3, 2] ?_)))))
 obtain ⟨t27, h28, h29⟩ := bS h26
 refine k0 (fun γ w hs => c_laws_eqSpellS h28 (hv0_0.kept hs.kept) (hv1_0.kept hs.kept)) ?_
 refine oN 1 [(20, vb (!t27))] [3, 2] ?_
 refine oe (nt (cC h29 (fun h32 => ?_) (fun h33 => ?_)))
 · refine qs (qr (oN 1 [(4, vb false)] [] ?_))
   refine oe (nt (qe (nr ?_)))
   obtain rfl := sI h32
   exact re [.bool false]
 refine qk (nt (qs (qs (qr (oN 4 [(24, .v (.slice b1.2.1 x1.Events.length b1.2.2)), (22, .v (.slice b0.2.1 x0.Events.length b0.2.2))] [] ?_)))))
 obtain ⟨t34, h35, h36⟩ := bS h33
 refine k0 (fun γ w hs => c_laws_eqEventS h35 (hv0_1.kept hs.kept) (hv1_1.kept hs.kept)) ?_
 refine oN 1 [(26, vb (!t34))] [] ?_
 refine oe (nt (cC h36 (fun h39 => ?_) (fun h40 => ?_)))
 · refine qs (qr (oN 1 [(4, vb false)] [] ?_))
   refine oe (nt (qe (nr ?_)))
   obtain rfl := sI h39
   exact re [.bool false]
 refine qk (nt (qs (qr (oN 1 [(4, vb true)] [] ?_))))
 refine oe (nt (qe ?_))
 obtain rfl := sI h40
 exact re [.bool true]

theorem c_laws_eqCase {W : World} {x0 : Case} {b0 : AC × AC × AC × AC × AC} {x1 : Case} {b1 : AC × AC × AC × AC × AC} {r : Bool} (h : laws_eqCase x0 x1 = some r) (hv0_0 : SlView W x0.Book.Rules b0.1.1 b0.1.2) (hv0_1 : SlView W x0.Store.Facts b0.2.1.1 b0.2.1.2) (hv0_2 : SlView W x0.Series.Points b0.2.2.1.1 b0.2.2.1.2) (hv0_3 : SlView W x0.Member.Spells b0.2.2.2.1.1 b0.2.2.2.1.2) (hv0_4 : SlView W x0.Member.Events b0.2.2.2.2.1 b0.2.2.2.2.2) (hv1_0 : SlView W x1.Book.Rules b1.1.1 b1.1.2) (hv1_1 : SlView W x1.Store.Facts b1.2.1.1 b1.2.1.2) (hv1_2 : SlView W x1.Series.Points b1.2.2.1.1 b1.2.2.1.2) (hv1_3 : SlView W x1.Member.Spells b1.2.2.2.1.1 b1.2.2.2.1.2) (hv1_4 : SlView W x1.Member.Events b1.2.2.2.2.1 b1.2.2.2.2.2) :
    Gives0 Try.prog 23 #[vCase x0 b0, vCase x1 b1] W (.bool r) := by
 unfold laws_eqCase at h
 refine en Try.func23 Try.ntmps23 ?_
 refine qs (qr (oB 3 [(3, .p 1 0), (2, .p 0 0)] [] [(56, (eCase x0 b0)), (56, (eCase x1 b1))] ?_))
 refine oe (nt (qs (qs (qr (oN 4 [(8, .v (vBook x1.Book b1.1)), (6, .v (vBook x0.Book b0.1))] [3, 2] ?_)))))
 obtain ⟨t21, h22, h23⟩ := bS h
 refine k0 (fun γ w hs => c_laws_eqBook h22 (hv0_0.kept hs.kept) (hv1_0.kept hs.kept)) ?_
 refine oN 1 [(10, vb (!t21))] [3, 2] ?_
 refine oe (nt (cC h23 (fun h26 => ?_) (fun h27 => ?_)))
 · refine qs (qr (oN 1 [(4, vb false)] [] ?_))
   refine oe (nt (qe (nr ?_)))
   obtain rfl := sI h26
   exact re [.bool false]
 refine qk (nt (qs (qs (qr (oN 4 [(14, .v (vStore x1.Store b1.2.1)), (12, .v (vStore x0.Store b0.2.1))] [3, 2] ?_)))))
 obtain ⟨t28, h29, h30⟩ := bS h27
 refine k0 (fun γ w hs => c_laws_eqStore h29 (hv0_1.kept hs.kept) (hv1_1.kept hs.kept)) ?_
 refine oN 1 [(16, vb (!t28))] [3, 2] ?_
 refine oe (nt (cC h30 (fun h33 => ?_) (fun h34 => ?_)))
 · refine qs (qr (oN 1 [(4, vb false)] [] ?_))
   refine oe (nt (qe (nr ?_)))
   obtain rfl := sI h33
   exact re [.bool false]
 refine qk (nt (qs (qs (qr (oN 4 [(20, .v (vSeries x1.Series b1.2.2.1)), (18, .v (vSeries x0.Series b0.2.2.1))] [3, 2] ?_)))))
 obtain ⟨t35, h36, h37⟩ := bS h34
 refine k0 (fun γ w hs => c_laws_eqSeries h36 (hv0_2.kept hs.kept) (hv1_2.kept hs.kept)) ?_
 refine oN 1 [(22, vb (!t35))] [3, 2] ?_
 refine oe (nt (cC h37 (fun h40 => ?_) (fun h41 => ?_)))
 · refine qs (qr (oN 1 [(4, vb false)] [] ?_))
   refine oe (nt (qe (nr ?_)))
   obtain rfl := sI h40
   exact re [.bool false]
 refine qk (nt (qs (qs (qr (oN 4 [(26, .v (vMember x1.Member b1.2.2.2)), (24, .v (vMember x0.Member b0.2.2.2))] [] ?_)))))
 obtain ⟨t42, h43, h44⟩ := bS h41
 refine k0 (fun γ w hs => c_laws_eqMember (b0 := b0.2.2.2) (b1 := b1.2.2.2) h43 (hv0_3.kept hs.kept) (hv0_4.kept hs.kept) (hv1_3.kept hs.kept) (hv1_4.kept hs.kept)) ?_
 refine oN 1 [(28, vb (!t42))] [] ?_
 refine oe (nt (cC h44 (fun h47 => ?_) (fun h48 => ?_)))
 · refine qs (qr (oN 1 [(4, vb false)] [] ?_))
   refine oe (nt (qe (nr ?_)))
   obtain rfl := sI h47
   exact re [.bool false]
 refine qk (nt (qs (qr (oN 1 [(4, vb true)] [] ?_))))
 refine oe (nt (qe ?_))
 obtain rfl := sI h48
 exact re [.bool true]

theorem c_laws_eqIntS {W : World} {x0 : List Int} {a0_0 : Option Addr} {c0_0 : Nat} {x1 : List Int} {a1_0 : Option Addr} {c1_0 : Nat} {r : Bool} (h : laws_eqIntS x0 x1 = some r) (hv0_0 : SlView W x0 a0_0 c0_0) (hv1_0 : SlView W x1 a1_0 c1_0) :
    Gives0 Try.prog 24 #[.slice a0_0 x0.length c0_0, .slice a1_0 x1.length c1_0] W (.bool r) := by
 unfold laws_eqIntS at h
 refine en Try.func24 Try.ntmps24 ?_
 refine qs (qr (oN 1 [] [0, 1] ?_))
 refine oe (nt (qs (qs (qr (oN 5 [(10, vb ((x0.length : Int) != (x1.length : Int)))] [0, 1] ?_)))))
 refine oe (nt (cC h (fun h22 => ?_) (fun h23 => ?_)))
 · refine qs (qr (oN 1 [(4, vb false)] [] ?_))
   refine oe (nt (qe (nr ?_)))
   obtain rfl := sI h22
   exact re [.bool false]
 refine qk (nt (qs (qs (qr (oN 1 [(5, vi 0)] [0, 1] ?_)))))
 refine oe (nt ?_)
 obtain ⟨r27, hL28, h29⟩ := bS h23
 obtain ⟨k30, hk31, h29⟩ := brkS h29
 refine JC_cutP (τ := (Unit) × (Unit)) (fun y => k30 y.1 = some r) (fun y35 => []) (fun y35 => []) (fun y35 => []) ?_ (fun y35 h36p => ?_)
 · refine qb (lp Unit hL28 (fun s24 y25 => [(5, vi s24), (0, .v (.slice a0_0 x0.length c0_0)), (1, .v (.slice a1_0 x1.length c1_0))]) (fun s24 y25 => []) (fun s24 y25 => []) () [5, 0, 1] [] 0 (fun s24 y25 t26 h32 hd33 => ?_))
   refine qs (qs (qr (oN 4 [(14, vb (decide (s24 < (x0.length : Int))))] [5, 0, 1] ?_)))
   refine oe (nt (cC h32 (fun h38 => ?_) (fun h39 => ?_)))
   · refine qk (nt (qs (qb (qs (JC_quiet (by kernel_rfl) (by kernel_rfl) ?_)))))
     refine qN 2 [(18, vi s24), (17, .v (.slice a0_0 x0.length c0_0))] [5, 0, 1] ?_
     obtain ⟨x40, hx41, h42⟩ := bS h38
     refine qi 1 (fun γ w hs => (hv0_0.kept hs.kept)) hx41 ?_
     refine ql 3 0 (.int .i64 x40) (fun γ w hs => (hv0_0.kept hs.kept).flatq hx41) ?_
     refine qN 2 [(22, vi s24), (21, .v (.slice a1_0 x1.length c1_0))] [20, 5, 0, 1] ?_
     obtain ⟨x43, hx44, h45⟩ := bS h42
     refine qi 1 (fun γ w hs => (hv1_0.kept hs.kept)) hx44 ?_
     refine ql 3 0 (.int .i64 x43) (fun γ w hs => (hv1_0.kept hs.kept).flatq hx44) ?_
     refine qN 1 [(25, vb (x40 != x43))] [5, 0, 1] ?_
     refine qz (nt (cC h45 (fun h47 => ?_) (fun h48 => ?_)))
     · refine qs (qr (oN 1 [(4, vb false)] [] ?_))
       refine oe (nt (qe (br (nr (nr ?_)))))
       have h49 := leafR hd33 h47 h29
       refine br (nr (nr ?_))
       obtain rfl := sI h49
       exact re [.bool false]
     refine qk (bn (nt (qr (oN 3 [(5, vi (w64 (s24 + 1)))] [0, 1] ?_))))
     exact oe (ct h48 () [5, 0, 1] [] 0)
   refine qx (nx (nx (bh ?_)))
   have h50 := leafB hd33 h39 h29
   exact mp ((), ()) h50 [] [] 0
 have h36 := (congrFun hk31 _).symm.trans h36p
 refine nt (qs (qr (oN 1 [(4, vb true)] [] ?_)))
 refine oe (nt (qe ?_))
 obtain rfl := sI h36
 exact re [.bool true]

theorem c_laws_eqOffice {W : World} {x0 : Office} {b0 : AC × AC × AC × AC × AC × AC} {x1 : Office} {b1 : AC × AC × AC × AC × AC × AC} {r : Bool} (h : laws_eqOffice x0 x1 = some r) (hv0_0 : SlView W x0.Case.Book.Rules b0.1.1 b0.1.2) (hv0_1 : SlView W x0.Case.Store.Facts b0.2.1.1 b0.2.1.2) (hv0_2 : SlView W x0.Case.Series.Points b0.2.2.1.1 b0.2.2.1.2) (hv0_3 : SlView W x0.Case.Member.Spells b0.2.2.2.1.1 b0.2.2.2.1.2) (hv0_4 : SlView W x0.Case.Member.Events b0.2.2.2.2.1.1 b0.2.2.2.2.1.2) (hv0_5 : SlView W x0.Paid b0.2.2.2.2.2.1 b0.2.2.2.2.2.2) (hv1_0 : SlView W x1.Case.Book.Rules b1.1.1 b1.1.2) (hv1_1 : SlView W x1.Case.Store.Facts b1.2.1.1 b1.2.1.2) (hv1_2 : SlView W x1.Case.Series.Points b1.2.2.1.1 b1.2.2.1.2) (hv1_3 : SlView W x1.Case.Member.Spells b1.2.2.2.1.1 b1.2.2.2.1.2) (hv1_4 : SlView W x1.Case.Member.Events b1.2.2.2.2.1.1 b1.2.2.2.2.1.2) (hv1_5 : SlView W x1.Paid b1.2.2.2.2.2.1 b1.2.2.2.2.2.2) :
    Gives0 Try.prog 9 #[vOffice x0 b0, vOffice x1 b1] W (.bool r) := by
 unfold laws_eqOffice at h
 refine en Try.func9 Try.ntmps9 ?_
 refine qs (qr (oB 3 [(3, .p 1 0), (2, .p 0 0)] [] [(58, (eOffice x0 b0)), (58, (eOffice x1 b1))] ?_))
 refine oe (nt (qs (qs (qr (oN 4 [(8, .v (vCase x1.Case (b1.1, b1.2.1, b1.2.2.1, b1.2.2.2.1, b1.2.2.2.2.1))), (6, .v (vCase x0.Case (b0.1, b0.2.1, b0.2.2.1, b0.2.2.2.1, b0.2.2.2.2.1)))] [3, 2] ?_)))))
 obtain ⟨t21, h22, h23⟩ := bS h
 refine k0 (fun γ w hs => c_laws_eqCase (b0 := (b0.1, b0.2.1, b0.2.2.1, b0.2.2.2.1, b0.2.2.2.2.1)) (b1 := (b1.1, b1.2.1, b1.2.2.1, b1.2.2.2.1, b1.2.2.2.2.1)) h22 (hv0_0.kept hs.kept) (hv0_1.kept hs.kept) (hv0_2.kept hs.kept) (hv0_3.kept hs.kept) (hv0_4.kept hs.kept) (hv1_0.kept hs.kept) (hv1_1.kept hs.kept) (hv1_2.kept hs.kept) (hv1_3.kept hs.kept) (hv1_4.kept hs.kept)) ?_
 refine oN 1 [(10, vb (!t21))] [3, 2] ?_
 refine oe (nt (cC h23 (fun h26 => ?_) (fun h27 => ?_)))
 · refine qs (qr (oN 1 [(4, vb false)] [] ?_))
   refine oe (nt (qe (nr ?_)))
   obtain rfl := sI h26
   exact re [.bool false]
 refine qk (nt (qs (qs (qr (oN 5 [(15, vb (x0.Start != x1.Start))] [3, 2] ?_)))))
 refine oe (nt (cC h27 (fun h29 => ?_) (fun h30 => ?_)))
 · refine qs (qr (oN 1 [(4, vb false)] [] ?_))
   refine oe (nt (qe (nr ?_)))
   obtain rfl := sI h29
   exact re [.bool false]
 refine qk (nt (qs (qs (qr (oN 4 [(19, .v (.slice b1.2.2.2.2.2.1 x1.Paid.length b1.2.2.2.2.2.2)), (17, .v (.slice b0.2.2.2.2.2.1 x0.Paid.length b0.2.2.2.2.2.2))] [] ?_)))))
 obtain ⟨t31, h32, h33⟩ := bS h30
 refine k0 (fun γ w hs => c_laws_eqIntS h32 (hv0_5.kept hs.kept) (hv1_5.kept hs.kept)) ?_
 refine oN 1 [(21, vb (!t31))] [] ?_
 refine oe (nt (cC h33 (fun h36 => ?_) (fun h37 => ?_)))
 · refine qs (qr (oN 1 [(4, vb false)] [] ?_))
   refine oe (nt (qe (nr ?_)))
   obtain rfl := sI h36
   exact re [.bool false]
 refine qk (nt (qs (qr (oN 1 [(4, vb true)] [] ?_))))
 refine oe (nt (qe ?_))
 obtain rfl := sI h37
 exact re [.bool true]

theorem c_laws_FnExactSameOffice {W : World} {x0 : Office} {b0 : AC × AC × AC × AC × AC × AC} {x1 : Office} {b1 : AC × AC × AC × AC × AC × AC} {r : Bool} (h : laws_FnExactSameOffice x0 x1 = some r) (hv0_0 : SlView W x0.Case.Book.Rules b0.1.1 b0.1.2) (hv0_1 : SlView W x0.Case.Store.Facts b0.2.1.1 b0.2.1.2) (hv0_2 : SlView W x0.Case.Series.Points b0.2.2.1.1 b0.2.2.1.2) (hv0_3 : SlView W x0.Case.Member.Spells b0.2.2.2.1.1 b0.2.2.2.1.2) (hv0_4 : SlView W x0.Case.Member.Events b0.2.2.2.2.1.1 b0.2.2.2.2.1.2) (hv0_5 : SlView W x0.Paid b0.2.2.2.2.2.1 b0.2.2.2.2.2.2) (hv1_0 : SlView W x1.Case.Book.Rules b1.1.1 b1.1.2) (hv1_1 : SlView W x1.Case.Store.Facts b1.2.1.1 b1.2.1.2) (hv1_2 : SlView W x1.Case.Series.Points b1.2.2.1.1 b1.2.2.1.2) (hv1_3 : SlView W x1.Case.Member.Spells b1.2.2.2.1.1 b1.2.2.2.1.2) (hv1_4 : SlView W x1.Case.Member.Events b1.2.2.2.2.1.1 b1.2.2.2.2.1.2) (hv1_5 : SlView W x1.Paid b1.2.2.2.2.2.1 b1.2.2.2.2.2.2) :
    Gives0 Try.prog 4 #[vOffice x0 b0, vOffice x1 b1] W (.bool r) := by
 unfold laws_FnExactSameOffice at h
 refine en Try.func4 Try.ntmps4 ?_
 refine qs (qr (oB 3 [(3, .p 1 0), (2, .p 0 0)] [] [(39, (eOffice x0 b0)), (39, (eOffice x1 b1))] ?_))
 refine oe (nt (qs (qr (oN 1 [(5, vi 1048576)] [3, 2] ?_))))
 refine oe (nt (qs (qr (oN 2 [(11, vi 1048576), (10, .v (vOffice x0 b0))] [3, 2] ?_))))
 obtain ⟨t21, h22, h23⟩ := bS h
 refine k0 (fun γ w hs => c_laws_szOffice (b0 := b0) h22 (hv0_0.kept hs.kept) (hv0_1.kept hs.kept) (hv0_2.kept hs.kept) (hv0_3.kept hs.kept) (hv0_4.kept hs.kept) (hv0_5.kept hs.kept)) ?_
 refine oN 1 [(5, vi t21)] [3, 2] ?_
 refine oe (nt (qs (qs (qr (oN 2 [(14, vb (decide (t21 < 0)))] [5, 3, 2] ?_)))))
 refine oe (nt (cC h23 (fun h26 => ?_) (fun h27 => ?_)))
 · refine qs (qr (oN 1 [(4, vb true)] [] ?_))
   refine oe (nt (qe (nr ?_)))
   obtain rfl := sI h26
   exact re [.bool true]
 refine qk (nt (qs (qr (oN 2 [(16, vi t21), (15, .v (vOffice x1 b1))] [3, 2] ?_))))
 obtain ⟨t28, h29, h30⟩ := bS h27
 refine k0 (fun γ w hs => c_laws_szOffice (b0 := b1) h29 (hv1_0.kept hs.kept) (hv1_1.kept hs.kept) (hv1_2.kept hs.kept) (hv1_3.kept hs.kept) (hv1_4.kept hs.kept) (hv1_5.kept hs.kept)) ?_
 refine oN 1 [(5, vi t28)] [3, 2] ?_
 refine oe (nt (qs (qs (qr (oN 2 [(19, vb (decide (t28 < 0)))] [3, 2] ?_)))))
 refine oe (nt (cC h30 (fun h33 => ?_) (fun h34 => ?_)))
 · refine qs (qr (oN 1 [(4, vb true)] [] ?_))
   refine oe (nt (qe (nr ?_)))
   obtain rfl := sI h33
   exact re [.bool true]
 refine qk (nt (qs ?_))
 obtain ⟨t35, h36, h37⟩ := bS h34
 obtain ⟨t39, h40, h41⟩ := bS h37
 obtain ⟨t43, h44, h45⟩ := bS h41
 refine JC_cut (τ := Unit) (fun _ => [(6, vb t43), (3, .p 1 0), (2, .p 0 0)]) (fun _ => [(39, (eOffice x0 b0)), (39, (eOffice x1 b1))]) (fun _ => []) ?_ (fun _ => ?_)
 · refine jw [3, 2] [] ?_
   refine JC_heldN (ks := [0, 1]) (Rk := []) 6 (by kernel_rfl) (by kernel_rfl) ?_
   refine htq 0 (.v (vOffice x0 b0)) [] ?_
   refine htq 2 (.v (vOffice x1 b1)) [] ?_
   refine ha1 1 ?_
   refine hi (fun γ0 δ hm => ?_)
   refine g1 (fun w hs => c_laws_toOffice (b0 := b0) h36 (hv0_0.kept hs.kept) (hv0_1.kept hs.kept) (hv0_2.kept hs.kept) (hv0_3.kept hs.kept) (hv0_4.kept hs.kept) (hv0_5.kept hs.kept)) (fun y38 => ?_)
   refine gn hm [21, 22, 3, 2] [] ?_
   refine ha1 3 ?_
   refine hi (fun γ0 δ hm => ?_)
   refine g1 (fun w hs => c_laws_toOffice (b0 := b1) h40 (hv1_0.kept hs.kept) (hv1_1.kept hs.kept) (hv1_2.kept hs.kept) (hv1_3.kept hs.kept) (hv1_4.kept hs.kept) (hv1_5.kept hs.kept)) (fun y42 => ?_)
   refine gn hm [23, 21, 3, 2] [] ?_
   refine ha1 4 ?_
   refine hi (fun γ0 δ hm => ?_)
   refine g0 (fun w hs => c_spec_SameOffice (b0 := y38) (b1 := y42) h44 (hs.view 6 rfl) (hs.view 7 rfl) (hs.view 8 rfl) (hs.view 9 rfl) (hs.view 10 rfl) (hs.view 11 rfl) (hs.view 0 rfl) (hs.view 1 rfl) (hs.view 2 rfl) (hs.view 3 rfl) (hs.view 4 rfl) (hs.view 5 rfl)) ?_
   refine gn hm [24, 3, 2] [] ?_
   refine htq 5 (vb t43) [] ?_
   refine hk [6, 3, 2] ?_
   exact hd () [6, 3, 2] [] 2
 refine nt (qs (qr (oN 1 [(25, .v (vOffice x0 b0))] [6, 3, 2] ?_)))
 obtain ⟨t48, h49, h50⟩ := bS h45
 refine k1 (fun γ w hs => c_laws_toOffice (b0 := b0) h49 (hv0_0.kept hs.kept) (hv0_1.kept hs.kept) (hv0_2.kept hs.kept) (hv0_3.kept hs.kept) (hv0_4.kept hs.kept) (hv0_5.kept hs.kept)) (fun y51 => ?_)
 refine oB 2 [(7, .p 2 0)] [6, 3, 2] [(39, (eOffice x0 b0)), (39, (eOffice x1 b1)), (58, (eOffice t48 y51))] ?_
 refine oe (nt (qs (qr (oN 1 [(27, .v (vOffice x1 b1))] [7, 6, 3, 2] ?_))))
 obtain ⟨t52, h53, h54⟩ := bS h50
 refine k1 (fun γ w hs => c_laws_toOffice (b0 := b1) h53 (hv1_0.kept hs.kept) (hv1_1.kept hs.kept) (hv1_2.kept hs.kept) (hv1_3.kept hs.kept) (hv1_4.kept hs.kept) (hv1_5.kept hs.kept)) (fun y55 => ?_)
 refine oB 2 [(8, .p 3 0)] [7, 6, 3, 2] [(39, (eOffice x0 b0)), (39, (eOffice x1 b1)), (58, (eOffice t48 y51)), (58, (eOffice t52 y55))] ?_
 refine oe (nt (qs (qr (oN 2 [(30, .v (vOffice t52 y55)), (29, .v (vOffice t48 y51))] [8, 7, 6, 3, 2] ?_))))
 obtain ⟨t56, h57, h58⟩ := bS h54
 refine k0 (fun γ w hs => c_impl_SameOffice (b0 := y51) (b1 := y55) h57 (hs.view 6 rfl) (hs.view 7 rfl) (hs.view 8 rfl) (hs.view 9 rfl) (hs.view 10 rfl) (hs.view 11 rfl) (hs.view 0 rfl) (hs.view 1 rfl) (hs.view 2 rfl) (hs.view 3 rfl) (hs.view 4 rfl) (hs.view 5 rfl)) ?_
 refine oN 1 [(9, vb t56)] [8, 7, 6, 3, 2] ?_
 refine oe (nt (qs (qs (qr (oN 3 [(34, vb (!(t56 == t43)))] [8, 7, 3, 2] ?_)))))
 refine oe (nt (cC h58 (fun h61 => ?_) (fun h62 => ?_)))
 · refine qs (qr (oN 1 [(4, vb false)] [] ?_))
   refine oe (nt (qe (nr ?_)))
   obtain rfl := sI h61
   exact re [.bool false]
 refine qk (nt (qs (qs ?_)))
 obtain ⟨t63, h64, h65⟩ := bS h62
 obtain ⟨t67, h68, h69⟩ := bS h65
 refine JC_cut (τ := Unit) (fun _ => [(39, vb (!t67)), (8, .p 3 0), (3, .p 1 0)]) (fun _ => [(39, (eOffice x0 b0)), (39, (eOffice x1 b1)), (58, (eOffice t48 y51)), (58, (eOffice t52 y55))]) (fun _ => [SlRes 78 t52.Case.Book.Rules y55.1.1 y55.1.2, SlRes 88 t52.Case.Store.Facts y55.2.1.1 y55.2.1.2, SlRes 91 t52.Case.Series.Points y55.2.2.1.1 y55.2.2.1.2, SlRes 94 t52.Case.Member.Spells y55.2.2.2.1.1 y55.2.2.2.1.2, SlRes 97 t52.Case.Member.Events y55.2.2.2.2.1.1 y55.2.2.2.2.1.2, SlRes 3 t52.Paid y55.2.2.2.2.2.1 y55.2.2.2.2.2.2, SlRes 78 t48.Case.Book.Rules y51.1.1 y51.1.2, SlRes 88 t48.Case.Store.Facts y51.2.1.1 y51.2.1.2, SlRes 91 t48.Case.Series.Points y51.2.2.1.1 y51.2.2.1.2, SlRes 94 t48.Case.Member.Spells y51.2.2.2.1.1 y51.2.2.2.1.2, SlRes 97 t48.Case.Member.Events y51.2.2.2.2.1.1 y51.2.2.2.2.1.2, SlRes 3 t48.Paid y51.2.2.2.2.2.1 y51.2.2.2.2.2.2]) ?_ (fun _ => ?_)
 · refine JC_weak [8, 7, 3, 2] [0, 0, 0, 0, 0, 0, 0, 0, 0, 0, 0, 0] 4 (sl' := [(8, .p 3 0), (7, .p 2 0), (3, .p 1 0), (2, .p 0 0)]) (bx' := [(39, (eOffice x0 b0)), (39, (eOffice x1 b1)), (58, (eOffice t48 y51)), (58, (eOffice t52 y55))]) (R' := [SlRes 78 t52.Case.Book.Rules y55.1.1 y55.1.2, SlRes 88 t52.Case.Store.Facts y55.2.1.1 y55.2.1.2, SlRes 91 t52.Case.Series.Points y55.2.2.1.1 y55.2.2.1.2, SlRes 94 t52.Case.Member.Spells y55.2.2.2.1.1 y55.2.2.2.1.2, SlRes 97 t52.Case.Member.Events y55.2.2.2.2.1.1 y55.2.2.2.2.1.2, SlRes 3 t52.Paid y55.2.2.2.2.2.1 y55.2.2.2.2.2.2, SlRes 78 t48.Case.Book.Rules y51.1.1 y51.1.2, SlRes 88 t48.Case.Store.Facts y51.2.1.1 y51.2.1.2, SlRes 91 t48.Case.Series.Points y51.2.2.1.1 y51.2.2.1.2, SlRes 94 t48.Case.Member.Spells y51.2.2.2.1.1 y51.2.2.2.1.2, SlRes 97 t48.Case.Member.Events y51.2.2.2.2.1.1 y51.2.2.2.2.1.2, SlRes 3 t48.Paid y51.2.2.2.2.2.1 y51.2.2.2.2.2.2]) (by kernel_rfl) (by kernel_rfl) (by kernel_rfl) (by kernel_rfl) ?_
   refine JC_heldN (ks := [0, 1, 2, 3]) (Rk := [SlRes 78 t52.Case.Book.Rules y55.1.1 y55.1.2, SlRes 88 t52.Case.Store.Facts y55.2.1.1 y55.2.1.2, SlRes 91 t52.Case.Series.Points y55.2.2.1.1 y55.2.2.1.2, SlRes 94 t52.Case.Member.Spells y55.2.2.2.1.1 y55.2.2.2.1.2, SlRes 97 t52.Case.Member.Events y55.2.2.2.2.1.1 y55.2.2.2.2.1.2, SlRes 3 t52.Paid y55.2.2.2.2.2.1 y55.2.2.2.2.2.2, SlRes 78 t48.Case.Book.Rules y51.1.1 y51.1.2, SlRes 88 t48.Case.Store.Facts y51.2.1.1 y51.2.1.2, SlRes 91 t48.Case.Series.Points y51.2.2.1.1 y51.2.2.1.2, SlRes 94 t48.Case.Member.Spells y51.2.2.2.1.1 y51.2.2.2.1.2, SlRes 97 t48.Case.Member.Events y51.2.2.2.2.1.1 y51.2.2.2.2.1.2, SlRes 3 t48.Paid y51.2.2.2.2.2.1 y51.2.2.2.2.2.2]) 5 (by kernel_rfl) (by kernel_rfl) ?_
   refine htq 0 (.v (vOffice t48 y51)) [0, 0, 0, 0, 0, 0, 0, 0, 0, 0, 0, 0] ?_
   refine hk [35, 8, 3, 2] ?_
   refine htq 1 (.v (vOffice x0 b0)) [0, 0, 0, 0, 0, 0, 0, 0, 0, 0, 0, 0] ?_
   refine hk [36, 35, 8, 3] ?_
   refine ha1 2 ?_
   refine hi (fun γ0 δ hm => ?_)
   refine g1 (fun w hs => c_laws_toOffice (b0 := b0) h64 (hv0_0.kept hs.kept) (hv0_1.kept hs.kept) (hv0_2.kept hs.kept) (hv0_3.kept hs.kept) (hv0_4.kept hs.kept) (hv0_5.kept hs.kept)) (fun y66 => ?_)
   refine gn hm [37, 35, 8, 3] [6, 6, 6, 6, 6, 6, 6, 6, 6, 6, 6, 6] ?_
   refine ha1 3 ?_
   refine hi (fun γ0 δ hm => ?_)
   refine g0 (fun w hs => c_laws_eqOffice (b0 := y51) (b1 := y66) h68 (hs.view 12 rfl) (hs.view 13 rfl) (hs.view 14 rfl) (hs.view 15 rfl) (hs.view 16 rfl) (hs.view 17 rfl) (hs.view 0 rfl) (hs.view 1 rfl) (hs.view 2 rfl) (hs.view 3 rfl) (hs.view 4 rfl) (hs.view 5 rfl)) ?_
   refine gn hm [38, 8, 3] [6, 6, 6, 6, 6, 6, 6, 6, 6, 6, 6, 6] ?_
   refine htq 4 (vb (!t67)) [6, 6, 6, 6, 6, 6, 6, 6, 6, 6, 6, 6] ?_
   refine hk [39, 8, 3] ?_
   exact hd () [39, 8, 3] [6, 6, 6, 6, 6, 6, 6, 6, 6, 6, 6, 6] 4
 refine nt (cC h69 (fun h73 => ?_) (fun h74 => ?_))
 · refine qs (qr (oN 1 [(4, vb false)] [] ?_))
   refine oe (nt (qe (nr ?_)))
   obtain rfl := sI h73
   exact re [.bool false]
 refine qk (nt (qs (qs ?_)))
 obtain ⟨t75, h76, h77⟩ := bS h74
 obtain ⟨t79, h80, h81⟩ := bS h77
 refine JC_cut (τ := Unit) (fun _ => [(44, vb (!t79))]) (fun _ => [(39, (eOffice x0 b0)), (39, (eOffice x1 b1)), (58, (eOffice t48 y51)), (58, (eOffice t52 y55))]) (fun _ => [SlRes 78 t52.Case.Book.Rules y55.1.1 y55.1.2, SlRes 88 t52.Case.Store.Facts y55.2.1.1 y55.2.1.2, SlRes 91 t52.Case.Series.Points y55.2.2.1.1 y55.2.2.1.2, SlRes 94 t52.Case.Member.Spells y55.2.2.2.1.1 y55.2.2.2.1.2, SlRes 97 t52.Case.Member.Events y55.2.2.2.2.1.1 y55.2.2.2.2.1.2, SlRes 3 t52.Paid y55.2.2.2.2.2.1 y55.2.2.2.2.2.2, SlRes 78 t48.Case.Book.Rules y51.1.1 y51.1.2, SlRes 88 t48.Case.Store.Facts y51.2.1.1 y51.2.1.2, SlRes 91 t48.Case.Series.Points y51.2.2.1.1 y51.2.2.1.2, SlRes 94 t48.Case.Member.Spells y51.2.2.2.1.1 y51.2.2.2.1.2, SlRes 97 t48.Case.Member.Events y51.2.2.2.2.1.1 y51.2.2.2.2.1.2, SlRes 3 t48.Paid y51.2.2.2.2.2.1 y51.2.2.2.2.2.2]) ?_ (fun _ => ?_)
 · refine JC_weak [8, 3] [0, 0, 0, 0, 0, 0, 0, 0, 0, 0, 0, 0] 4 (sl' := [(8, .p 3 0), (3, .p 1 0)]) (bx' := [(39, (eOffice x0 b0)), (39, (eOffice x1 b1)), (58, (eOffice t48 y51)), (58, (eOffice t52 y55))]) (R' := [SlRes 78 t52.Case.Book.Rules y55.1.1 y55.1.2, SlRes 88 t52.Case.Store.Facts y55.2.1.1 y55.2.1.2, SlRes 91 t52.Case.Series.Points y55.2.2.1.1 y55.2.2.1.2, SlRes 94 t52.Case.Member.Spells y55.2.2.2.1.1 y55.2.2.2.1.2, SlRes 97 t52.Case.Member.Events y55.2.2.2.2.1.1 y55.2.2.2.2.1.2, SlRes 3 t52.Paid y55.2.2.2.2.2.1 y55.2.2.2.2.2.2, SlRes 78 t48.Case.Book.Rules y51.1.1 y51.1.2, SlRes 88 t48.Case.Store.Facts y51.2.1.1 y51.2.1.2, SlRes 91 t48.Case.Series.Points y51.2.2.1.1 y51.2.2.1.2, SlRes 94 t48.Case.Member.Spells y51.2.2.2.1.1 y51.2.2.2.1.2, SlRes 97 t48.Case.Member.Events y51.2.2.2.2.1.1 y51.2.2.2.2.1.2, SlRes 3 t48.Paid y51.2.2.2.2.2.1 y51.2.2.2.2.2.2]) (by kernel_rfl) (by kernel_rfl) (by kernel_rfl) (by kernel_rfl) ?_
   refine JC_heldN (ks := [0, 1, 2, 3]) (Rk := [SlRes 78 t52.Case.Book.Rules y55.1.1 y55.1.2, SlRes 88 t52.Case.Store.Facts y55.2.1.1 y55.2.1.2, SlRes 91 t52.Case.Series.Points y55.2.2.1.1 y55.2.2.1.2, SlRes 94 t52.Case.Member.Spells y55.2.2.2.1.1 y55.2.2.2.1.2, SlRes 97 t52.Case.Member.Events y55.2.2.2.2.1.1 y55.2.2.2.2.1.2, SlRes 3 t52.Paid y55.2.2.2.2.2.1 y55.2.2.2.2.2.2, SlRes 78 t48.Case.Book.Rules y51.1.1 y51.1.2, SlRes 88 t48.Case.Store.Facts y51.2.1.1 y51.2.1.2, SlRes 91 t48.Case.Series.Points y51.2.2.1.1 y51.2.2.1.2, SlRes 94 t48.Case.Member.Spells y51.2.2.2.1.1 y51.2.2.2.1.2, SlRes 97 t48.Case.Member.Events y51.2.2.2.2.1.1 y51.2.2.2.2.1.2, SlRes 3 t48.Paid y51.2.2.2.2.2.1 y51.2.2.2.2.2.2]) 5 (by kernel_rfl) (by kernel_rfl) ?_
   refine htq 0 (.v (vOffice t52 y55)) [0, 0, 0, 0, 0, 0, 0, 0, 0, 0, 0, 0] ?_
   refine hk [40, 3] ?_
   refine htq 1 (.v (vOffice x1 b1)) [0, 0, 0, 0, 0, 0, 0, 0, 0, 0, 0, 0] ?_
   refine hk [41, 40] ?_
   refine ha1 2 ?_
   refine hi (fun γ0 δ hm => ?_)
   refine g1 (fun w hs => c_laws_toOffice (b0 := b1) h76 (hv1_0.kept hs.kept) (hv1_1.kept hs.kept) (hv1_2.kept hs.kept) (hv1_3.kept hs.kept) (hv1_4.kept hs.kept) (hv1_5.kept hs.kept)) (fun y78 => ?_)
   refine gn hm [42, 40] [6, 6, 6, 6, 6, 6, 6, 6, 6, 6, 6, 6] ?_
   refine ha1 3 ?_
   refine hi (fun γ0 δ hm => ?_)
   refine g0 (fun w hs => c_laws_eqOffice (b0 := y55) (b1 := y78) h80 (hs.view 6 rfl) (hs.view 7 rfl) (hs.view 8 rfl) (hs.view 9 rfl) (hs.view 10 rfl) (hs.view 11 rfl) (hs.view 0 rfl) (hs.view 1 rfl) (hs.view 2 rfl) (hs.view 3 rfl) (hs.view 4 rfl) (hs.view 5 rfl)) ?_
   refine gn hm [43] [6, 6, 6, 6, 6, 6, 6, 6, 6, 6, 6, 6] ?_
   refine htq 4 (vb (!t79)) [6, 6, 6, 6, 6, 6, 6, 6, 6, 6, 6, 6] ?_
   refine hk [44] ?_
   exact hd () [44] [6, 6, 6, 6, 6, 6, 6, 6, 6, 6, 6, 6] 4
 refine nt (cC h81 (fun h85 => ?_) (fun h86 => ?_))
 · refine qs (qr (oN 1 [(4, vb false)] [] ?_))
   refine oe (nt (qe (nr ?_)))
   obtain rfl := sI h85
   exact re [.bool false]
 refine qk (nt (qs (qr (oN 1 [(4, vb true)] [] ?_))))
 refine oe (nt (qe ?_))
 obtain rfl := sI h86
 exact re [.bool true]
end Go.Pen
