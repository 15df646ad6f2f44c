/-
  Each Go function does what its plain function says: written by a program of ours.
-/
import Derived.Test.YtnbcacemikahjaaGreatW3
import Derived.Test.YtnbcacemikahjaaGreatProg
import Derived.Test.YtnbcacemikahjaaGreatPenK
import Derived.Test.YtnbcacemikahjaaGreatPenQ
import Derived.Test.YtnbcacemikahjaaGreatPenU
namespace Go.Pen
open Go.Proofs Go.RowKit
set_option linter.unusedVariables false
set_option linter.unusedSimpArgs false
set_option maxRecDepth 100000
set_option maxHeartbeats 4000000

theorem c_laws_eqEventS {W : World} {x0 : List Event} {a0_0 : Option Addr} {c0_0 : Nat} {x1 : List Event} {a1_0 : Option Addr} {c1_0 : Nat} {r : Bool} (h : laws_eqEventS x0 x1 = some r) (hv0_0 : SlView W x0 a0_0 c0_0) (hv1_0 : SlView W x1 a1_0 c1_0) :
    Gives0 Tryz.prog 125 #[.slice a0_0 x0.length c0_0, .slice a1_0 x1.length c1_0] W (.bool r) := by
 unfold laws_eqEventS at h
 refine en Tryz.func125 Tryz.ntmps125 ?_
 refine qs (qr (oN 1 [] [0, 1] ?_))
 refine oe (nt (qs (qs (qr (oN 5 [(10, vb ((x0.length : Int) != (x1.length : Int)))] [0, 1] ?_)))))
 refine oe (nt (cC h (fun h22 => ?_) (fun h23 => ?_)))
 · refine qs (qr (oN 1 [(4, vb false)] [] ?_))
   refine oe (nt (qe (nr ?_)))
   obtain rfl := sI h22
   exact re [.bool false]
 refine qk (nt (qs (qs (qr (oN 1 [(5, vi 0)] [0, 1] ?_)))))
 refine oe (nt ?_)
 obtain ⟨r27, hL28, h29⟩ := bS h23
 obtain ⟨k30, hk31, h29⟩ := brkS h29
 refine JC_cutP (τ := (Unit) × (Unit)) (fun y => k30 y.1 = some r) (fun y35 => []) (fun y35 => []) (fun y35 => []) ?_ (fun y35 h36p => ?_)
 · refine qb (lp Unit hL28 (fun s24 y25 => [(5, vi s24), (0, .v (.slice a0_0 x0.length c0_0)), (1, .v (.slice a1_0 x1.length c1_0))]) (fun s24 y25 => []) (fun s24 y25 => []) () [5, 0, 1] [] 0 (fun s24 y25 t26 h32 hd33 => ?_))
   refine qs (qs (qr (oN 4 [(14, vb (decide (s24 < (x0.length : Int))))] [5, 0, 1] ?_)))
   refine oe (nt (cC h32 (fun h38 => ?_) (fun h39 => ?_)))
   · refine qk (nt (qs (qb (qs (JC_quiet (by kernel_rfl) (by kernel_rfl) ?_)))))
     refine qN 2 [(18, vi s24), (17, .v (.slice a0_0 x0.length c0_0))] [5, 0, 1] ?_
     obtain ⟨x40, hx41, h42⟩ := bS h38
     refine qi 2 (fun γ w hs => (hv0_0.kept hs.kept)) hx41 ?_
     refine ql 215 0 (vEvent x40) (fun γ w hs => (hv0_0.kept hs.kept).flatq hx41) ?_
     refine qN 2 [(22, vi s24), (21, .v (.slice a1_0 x1.length c1_0))] [20, 5, 0, 1] ?_
     obtain ⟨x43, hx44, h45⟩ := bS h42
     refine qi 2 (fun γ w hs => (hv1_0.kept hs.kept)) hx44 ?_
     refine ql 215 0 (vEvent x43) (fun γ w hs => (hv1_0.kept hs.kept).flatq hx44) ?_
     obtain ⟨t46, h47, h48⟩ := bS h45
     refine q0 (fun γ w hs => c_laws_eqEvent h47) ?_
     refine qN 1 [(26, vb (!t46))] [5, 0, 1] ?_
     refine qz (nt (cC h48 (fun h51 => ?_) (fun h52 => ?_)))
     · refine qs (qr (oN 1 [(4, vb false)] [] ?_))
       refine oe (nt (qe (br (nr (nr ?_)))))
       have h53 := leafR hd33 h51 h29
       refine br (nr (nr ?_))
       obtain rfl := sI h53
       exact re [.bool false]
     refine qk (bn (nt (qr (oN 3 [(5, vi (w64 (s24 + 1)))] [0, 1] ?_))))
     exact oe (ct h52 () [5, 0, 1] [] 0)
   refine qx (nx (nx (bh ?_)))
   have h54 := leafB hd33 h39 h29
   exact mp ((), ()) h54 [] [] 0
 have h36 := (congrFun hk31 _).symm.trans h36p
 refine nt (qs (qr (oN 1 [(4, vb true)] [] ?_)))
 refine oe (nt (qe ?_))
 obtain rfl := sI h36
 exact re [.bool true]

theorem c_laws_eqMember {W : World} {x0 : Member} {b0 : AC × AC} {x1 : Member} {b1 : AC × AC} {r : Bool} (h : laws_eqMember x0 x1 = some r) (hv0_0 : SlView W x0.Spells b0.1.1 b0.1.2) (hv0_1 : SlView W x0.Events b0.2.1 b0.2.2) (hv1_0 : SlView W x1.Spells b1.1.1 b1.1.2) (hv1_1 : SlView W x1.Events b1.2.1 b1.2.2) :
    Gives0 Tryz.prog 76 #[vMember x0 b0, vMember x1 b1] W (.bool r) := by
 unfold laws_eqMember at h
 refine en Tryz.func76 Tryz.ntmps76 ?_
 refine qs (qr (oB 3 [(3, .p 1 0), (2, .p 0 0)] [] [(52, (eMember x0 b0)), (52, (eMember x1 b1))] ?_))
 refine oe (nt (qs (qs (qr (oN 5 [(9, vb (x0.Birth != x1.Birth))] [3, 2] ?_)))))
 refine oe (nt (cC h (fun h22 => ?_) (fun h23 => ?_)))
 · refine qs (qr (oN 1 [(4, vb false)] [] ?_))
   refine oe (nt (qe (nr ?_)))
   obtain rfl := sI h22
   exact re [.bool false]
 refine qk (nt (qs (qs (qr (oN 5 [(14, vb (x0.Joined != x1.Joined))] [3, 2] ?_)))))
 refine oe (nt (cC h23 (fun h25 => ?_) (fun h26 => ?_)))
 · refine qs (qr (oN 1 [(4, vb false)] [] ?_))
   refine oe (nt (qe (nr ?_)))
   obtain rfl := sI h25
   exact re [.bool false]
 refine qk (nt (qs (qs (qr (oN 4 [(18, .v (.slice b1.1.1 x1.Spells.length b1.1.2)), (16, .v (.slice b0.1.1 x0.Spells.length b0.1.2))] [3, 2] ?_)))))
 obtain ⟨t27, h28, h29⟩ := bS h26
 refine k0 (fun γ w hs => c_laws_eqSpellS h28 (hv0_0.kept hs.kept) (hv1_0.kept hs.kept)) ?_
 refine oN 1 [(20, vb (!t27))] [3, 2] ?_
 refine oe (nt (cC h29 (fun h32 => ?_) (fun h33 => ?_)))
 · refine qs (qr (oN 1 [(4, vb false)] [] ?_))
   refine oe (nt (qe (nr ?_)))
   obtain rfl := sI h32
   exact re [.bool false]
 refine qk (nt (qs (qs (qr (oN 4 [(24, .v (.slice b1.2.1 x1.Events.length b1.2.2)), (22, .v (.slice b0.2.1 x0.Events.length b0.2.2))] [] ?_)))))
 obtain ⟨t34, h35, h36⟩ := bS h33
 refine k0 (fun γ w hs => c_laws_eqEventS h35 (hv0_1.kept hs.kept) (hv1_1.kept hs.kept)) ?_
 refine oN 1 [(26, vb (!t34))] [] ?_
 refine oe (nt (cC h36 (fun h39 => ?_) (fun h40 => ?_)))
 · refine qs (qr (oN 1 [(4, vb false)] [] ?_))
   refine oe (nt (qe (nr ?_)))
   obtain rfl := sI h39
   exact re [.bool false]
 refine qk (nt (qs (qr (oN 1 [(4, vb true)] [] ?_))))
 refine oe (nt (qe ?_))
 obtain rfl := sI h40
 exact re [.bool true]

theorem c_laws_eqCase {W : World} {x0 : Case} {b0 : AC × AC × AC × AC × AC} {x1 : Case} {b1 : AC × AC × AC × AC × AC} {r : Bool} (h : laws_eqCase x0 x1 = some r) (hv0_0 : SlView W x0.Book.Rules b0.1.1 b0.1.2) (hv0_1 : SlView W x0.Store.Facts b0.2.1.1 b0.2.1.2) (hv0_2 : SlView W x0.Series.Points b0.2.2.1.1 b0.2.2.1.2) (hv0_3 : SlView W x0.Member.Spells b0.2.2.2.1.1 b0.2.2.2.1.2) (hv0_4 : SlView W x0.Member.Events b0.2.2.2.2.1 b0.2.2.2.2.2) (hv1_0 : SlView W x1.Book.Rules b1.1.1 b1.1.2) (hv1_1 : SlView W x1.Store.Facts b1.2.1.1 b1.2.1.2) (hv1_2 : SlView W x1.Series.Points b1.2.2.1.1 b1.2.2.1.2) (hv1_3 : SlView W x1.Member.Spells b1.2.2.2.1.1 b1.2.2.2.1.2) (hv1_4 : SlView W x1.Member.Events b1.2.2.2.2.1 b1.2.2.2.2.2) :
    Gives0 Tryz.prog 19 #[vCase x0 b0, vCase x1 b1] W (.bool r) := by
 unfold laws_eqCase at h
 refine en Tryz.func19 Tryz.ntmps19 ?_
 refine qs (qr (oB 3 [(3, .p 1 0), (2, .p 0 0)] [] [(54, (eCase x0 b0)), (54, (eCase x1 b1))] ?_))
 refine oe (nt (qs (qs (qr (oN 4 [(8, .v (vBook x1.Book b1.1)), (6, .v (vBook x0.Book b0.1))] [3, 2] ?_)))))
 obtain ⟨t21, h22, h23⟩ := bS h
 refine k0 (fun γ w hs => c_laws_eqBook h22 (hv0_0.kept hs.kept) (hv1_0.kept hs.kept)) ?_
 refine oN 1 [(10, vb (!t21))] [3, 2] ?_
 refine oe (nt (cC h23 (fun h26 => ?_) (fun h27 => ?_)))
 · refine qs (qr (oN 1 [(4, vb false)] [] ?_))
   refine oe (nt (qe (nr ?_)))
   obtain rfl := sI h26
   exact re [.bool false]
 refine qk (nt (qs (qs (qr (oN 4 [(14, .v (vStore x1.Store b1.2.1)), (12, .v (vStore x0.Store b0.2.1))] [3, 2] ?_)))))
 obtain ⟨t28, h29, h30⟩ := bS h27
 refine k0 (fun γ w hs => c_laws_eqStore h29 (hv0_1.kept hs.kept) (hv1_1.kept hs.kept)) ?_
 refine oN 1 [(16, vb (!t28))] [3, 2] ?_
 refine oe (nt (cC h30 (fun h33 => ?_) (fun h34 => ?_)))
 · refine qs (qr (oN 1 [(4, vb false)] [] ?_))
   refine oe (nt (qe (nr ?_)))
   obtain rfl := sI h33
   exact re [.bool false]
 refine qk (nt (qs (qs (qr (oN 4 [(20, .v (vSeries x1.Series b1.2.2.1)), (18, .v (vSeries x0.Series b0.2.2.1))] [3, 2] ?_)))))
 obtain ⟨t35, h36, h37⟩ := bS h34
 refine k0 (fun γ w hs => c_laws_eqSeries h36 (hv0_2.kept hs.kept) (hv1_2.kept hs.kept)) ?_
 refine oN 1 [(22, vb (!t35))] [3, 2] ?_
 refine oe (nt (cC h37 (fun h40 => ?_) (fun h41 => ?_)))
 · refine qs (qr (oN 1 [(4, vb false)] [] ?_))
   refine oe (nt (qe (nr ?_)))
   obtain rfl := sI h40
   exact re [.bool false]
 refine qk (nt (qs (qs (qr (oN 4 [(26, .v (vMember x1.Member b1.2.2.2)), (24, .v (vMember x0.Member b0.2.2.2))] [] ?_)))))
 obtain ⟨t42, h43, h44⟩ := bS h41
 refine k0 (fun γ w hs => c_laws_eqMember (b0 := b0.2.2.2) (b1 := b1.2.2.2) h43 (hv0_3.kept hs.kept) (hv0_4.kept hs.kept) (hv1_3.kept hs.kept) (hv1_4.kept hs.kept)) ?_
 refine oN 1 [(28, vb (!t42))] [] ?_
 refine oe (nt (cC h44 (fun h47 => ?_) (fun h48 => ?_)))
 · refine qs (qr (oN 1 [(4, vb false)] [] ?_))
   refine oe (nt (qe (nr ?_)))
   obtain rfl := sI h47
   exact re [.bool false]
 refine qk (nt (qs (qr (oN 1 [(4, vb true)] [] ?_))))
 refine oe (nt (qe ?_))
 obtain rfl := sI h48
 exact re [.bool true]

theorem c_laws_eqCaseS {W : World} {x0 : List Case} {a0_0 : Option Addr} {c0_0 : Nat} {x1 : List Case} {a1_0 : Option Addr} {c1_0 : Nat} {r : Bool} (h : laws_eqCaseS x0 x1 = some r) (hv0_0 : SlView W x0 a0_0 c0_0) (hv1_0 : SlView W x1 a1_0 c1_0) :
    Gives0 Tryz.prog 55 #[.slice a0_0 x0.length c0_0, .slice a1_0 x1.length c1_0] W (.bool r) := by
 unfold laws_eqCaseS at h
 refine en Tryz.func55 Tryz.ntmps55 ?_
 refine qs (qr (oN 1 [] [0, 1] ?_))
 refine oe (nt (qs (qs (qr (oN 5 [(10, vb ((x0.length : Int) != (x1.length : Int)))] [0, 1] ?_)))))
 refine oe (nt (cC h (fun h22 => ?_) (fun h23 => ?_)))
 · refine qs (qr (oN 1 [(4, vb false)] [] ?_))
   refine oe (nt (qe (nr ?_)))
   obtain rfl := sI h22
   exact re [.bool false]
 refine qk (nt (qs (qs (qr (oN 1 [(5, vi 0)] [0, 1] ?_)))))
 refine oe (nt ?_)
 obtain ⟨r27, hL28, h29⟩ := bS h23
 obtain ⟨k30, hk31, h29⟩ := brkS h29
 refine JC_cutP (τ := (Unit) × (Unit)) (fun y => k30 y.1 = some r) (fun y35 => []) (fun y35 => []) (fun y35 => []) ?_ (fun y35 h36p => ?_)
 · refine qb (lp Unit hL28 (fun s24 y25 => [(5, vi s24), (0, .v (.slice a0_0 x0.length c0_0)), (1, .v (.slice a1_0 x1.length c1_0))]) (fun s24 y25 => []) (fun s24 y25 => []) () [5, 0, 1] [] 0 (fun s24 y25 t26 h32 hd33 => ?_))
   refine qs (qs (qr (oN 4 [(14, vb (decide (s24 < (x0.length : Int))))] [5, 0, 1] ?_)))
   refine oe (nt (cC h32 (fun h38 => ?_) (fun h39 => ?_)))
   · refine qk (nt (qs (qb (qs (JC_quiet (by kernel_rfl) (by kernel_rfl) ?_)))))
     refine qN 2 [(18, vi s24), (17, .v (.slice a0_0 x0.length c0_0))] [5, 0, 1] ?_
     obtain ⟨x40, hx41, h42⟩ := bS h38
     refine qi 7 (fun γ w hs => (hv0_0.kept hs.kept)) hx41 ?_
     obtain ⟨_, ⟨a43, c44, a46, c47, a49, c50, a52, c53, a55, c56, rfl, hv45, hv48, hv51, hv54, hv57⟩, hc58⟩ := SlView.at hv0_0 (idx_some hx41).2.2
     refine ql 54 0 (vCase x40 ((a43, c44), (a46, c47), (a49, c50), (a52, c53), (a55, c56))) (fun γ w hs => ⟨(hv0_0.kept hs.kept).ne (idx_some hx41).2.2, hc58.kept hs.kept⟩) ?_
     refine qN 2 [(22, vi s24), (21, .v (.slice a1_0 x1.length c1_0))] [20, 5, 0, 1] ?_
     obtain ⟨x59, hx60, h61⟩ := bS h42
     refine qi 7 (fun γ w hs => (hv1_0.kept hs.kept)) hx60 ?_
     obtain ⟨_, ⟨a62, c63, a65, c66, a68, c69, a71, c72, a74, c75, rfl, hv64, hv67, hv70, hv73, hv76⟩, hc77⟩ := SlView.at hv1_0 (idx_some hx60).2.2
     refine ql 54 0 (vCase x59 ((a62, c63), (a65, c66), (a68, c69), (a71, c72), (a74, c75))) (fun γ w hs => ⟨(hv1_0.kept hs.kept).ne (idx_some hx60).2.2, hc77.kept hs.kept⟩) ?_
     obtain ⟨t78, h79, h80⟩ := bS h61
     refine q0 (fun γ w hs => c_laws_eqCase (b0 := ((a43, c44), (a46, c47), (a49, c50), (a52, c53), (a55, c56))) (b1 := ((a62, c63), (a65, c66), (a68, c69), (a71, c72), (a74, c75))) h79 (hv45.kept hs.kept) (hv48.kept hs.kept) (hv51.kept hs.kept) (hv54.kept hs.kept) (hv57.kept hs.kept) (hv64.kept hs.kept) (hv67.kept hs.kept) (hv70.kept hs.kept) (hv73.kept hs.kept) (hv76.kept hs.kept)) ?_
     refine qN 1 [(26, vb (!t78))] [5, 0, 1] ?_
     refine qz (nt (cC h80 (fun h83 => ?_) (fun h84 => ?_)))
     · refine qs (qr (oN 1 [(4, vb false)] [] ?_))
       refine oe (nt (qe (br (nr (nr ?_)))))
       have h85 := leafR hd33 h83 h29
       refine br (nr (nr ?_))
       obtain rfl := sI h85
       exact re [.bool false]
     refine qk (bn (nt (qr (oN 3 [(5, vi (w64 (s24 + 1)))] [0, 1] ?_))))
     exact oe (ct h84 () [5, 0, 1] [] 0)
   refine qx (nx (nx (bh ?_)))
   have h86 := leafB hd33 h39 h29
   exact mp ((), ()) h86 [] [] 0
 have h36 := (congrFun hk31 _).symm.trans h36p
 refine nt (qs (qr (oN 1 [(4, vb true)] [] ?_)))
 refine oe (nt (qe ?_))
 obtain rfl := sI h36
 exact re [.bool true]

theorem c_laws_FnExactCountWinners {W : World} {x0 : List Case} {a0_0 : Option Addr} {c0_0 : Nat} {x1 : Rule} {a1_0 : Option Addr} {c1_0 : Nat} {x2 : Int} {x3 : Int} {x4 : Int} {r : Bool} (h : laws_FnExactCountWinners x0 x1 x2 x3 x4 = some r) (hv0_0 : SlView W x0 a0_0 c0_0) (hv1_0 : SlView W x1.Nodes a1_0 c1_0) :
    Gives0 Tryz.prog 12 #[.slice a0_0 x0.length c0_0, vRule x1 (a1_0, c1_0), .int .i64 x2, .int .i64 x3, .int .i64 x4] W (.bool r) := by
 unfold laws_FnExactCountWinners at h
 refine en Tryz.func12 Tryz.ntmps12 ?_
 refine qs (qr (oB 2 [(6, .p 0 0)] [0, 2, 3, 4] [(63, (eRule x1 (a1_0, c1_0)))] ?_))
 refine oe (nt (qs (qr (oN 1 [(11, vi 1048576)] [6, 0, 2, 3, 4] ?_))))
 refine oe (nt (qs (qr (oN 2 [(19, vi 1048576), (18, .v (.slice a0_0 x0.length c0_0))] [6, 0, 2, 3, 4] ?_))))
 obtain ⟨t21, h22, h23⟩ := bS h
 refine k0 (fun γ w hs => c_laws_szCaseS h22 (hv0_0.kept hs.kept)) ?_
 refine oN 1 [(11, vi t21)] [6, 0, 2, 3, 4] ?_
 refine oe (nt (qs (qs (qr (oN 2 [(22, vb (decide (t21 < 0)))] [11, 6, 0, 2, 3, 4] ?_)))))
 refine oe (nt (cC h23 (fun h26 => ?_) (fun h27 => ?_)))
 · refine qs (qr (oN 1 [(10, vb true)] [] ?_))
   refine oe (nt (qe (nr ?_)))
   obtain rfl := sI h26
   exact re [.bool true]
 refine qk (nt (qs (qr (oN 2 [(24, vi t21), (23, .v (vRule x1 (a1_0, c1_0)))] [6, 0, 2, 3, 4] ?_))))
 obtain ⟨t28, h29, h30⟩ := bS h27
 refine k0 (fun γ w hs => c_laws_szRule h29 (hv1_0.kept hs.kept)) ?_
 refine oN 1 [(11, vi t28)] [6, 0, 2, 3, 4] ?_
 refine oe (nt (qs (qs (qr (oN 2 [(27, vb (decide (t28 < 0)))] [6, 0, 2, 3, 4] ?_)))))
 refine oe (nt (cC h30 (fun h33 => ?_) (fun h34 => ?_)))
 · refine qs (qr (oN 1 [(10, vb true)] [] ?_))
   refine oe (nt (qe (nr ?_)))
   obtain rfl := sI h33
   exact re [.bool true]
 refine qk (nt (qs ?_))
 obtain ⟨t35, h36, h37⟩ := bS h34
 obtain ⟨t39, h40, h41⟩ := bS h37
 obtain ⟨t43, h44, h45⟩ := bS h41
 refine JC_cut (τ := Unit) (fun _ => [(13, vi t43.2), (12, vi t43.1), (6, .p 0 0), (0, .v (.slice a0_0 x0.length c0_0)), (2, vi x2), (3, vi x3), (4, vi x4)]) (fun _ => [(63, (eRule x1 (a1_0, c1_0)))]) (fun _ => []) ?_ (fun _ => ?_)
 · refine jw [6, 0, 2, 3, 4] [] ?_
   refine JC_heldN (ks := [0]) (Rk := []) 13 (by kernel_rfl) (by kernel_rfl) ?_
   refine htq 0 (.v (.slice a0_0 x0.length c0_0)) [] ?_
   refine htq 2 (.v (vRule x1 (a1_0, c1_0))) [] ?_
   refine htq 4 (vi x2) [] ?_
   refine htq 5 (vi x3) [] ?_
   refine htq 6 (vi x4) [] ?_
   refine ha1 1 ?_
   refine hi (fun γ0 δ hm => ?_)
   refine g1 (fun w hs => c_laws_toCaseS h36 (hv0_0.kept hs.kept)) (fun y38 => ?_)
   refine gn hm [30, 35, 34, 33, 31, 6, 0, 2, 3, 4] [] ?_
   refine ha1 3 ?_
   refine hi (fun γ0 δ hm => ?_)
   refine g1 (fun w hs => c_laws_toRule h40 (hv1_0.kept hs.kept)) (fun y42 => ?_)
   refine gn hm [32, 30, 35, 34, 33, 6, 0, 2, 3, 4] [] ?_
   refine ha1 7 ?_
   refine hi (fun γ0 δ hm => ?_)
   refine g0 (fun w hs => c_spec_CountWinners h44 (hs.view 1 rfl) (hs.view 0 rfl)) ?_
   refine gn hm [36, 6, 0, 2, 3, 4] [] ?_
   refine htq 8 (.v (.tuple #[.int .i64 t43.1, .int .i64 t43.2])) [] ?_
   refine hk [28, 6, 0, 2, 3, 4] ?_
   refine htq 9 (vi t43.1) [] ?_
   refine htq 10 (vi t43.2) [] ?_
   refine hk [38, 37, 6, 0, 2, 3, 4] ?_
   refine htq 11 (vi t43.1) [] ?_
   refine hk [12, 38, 6, 0, 2, 3, 4] ?_
   refine htq 12 (vi t43.2) [] ?_
   refine hk [13, 12, 6, 0, 2, 3, 4] ?_
   exact hd () [13, 12, 6, 0, 2, 3, 4] [] 1
 refine nt (qs (qr (oN 1 [(39, .v (.slice a0_0 x0.length c0_0))] [13, 12, 6, 0, 2, 3, 4] ?_)))
 obtain ⟨t48, h49, h50⟩ := bS h45
 refine k1 (fun γ w hs => c_laws_toCaseS h49 (hv0_0.kept hs.kept)) (fun y51 => ?_)
 refine oN 1 [(14, .v (.slice y51.1 t48.length y51.2))] [13, 12, 6, 0, 2, 3, 4] ?_
 refine oe (nt (qs (qr (oN 1 [(41, .v (vRule x1 (a1_0, c1_0)))] [14, 13, 12, 6, 0, 2, 3, 4] ?_))))
 obtain ⟨t52, h53, h54⟩ := bS h50
 refine k1 (fun γ w hs => c_laws_toRule h53 (hv1_0.kept hs.kept)) (fun y55 => ?_)
 refine oB 2 [(15, .p 1 0)] [14, 13, 12, 6, 0, 2, 3, 4] [(63, (eRule x1 (a1_0, c1_0))), (69, (eRule t52 y55))] ?_
 refine oe (nt (qs (qr (oN 5 [(48, vi x4), (47, vi x3), (46, vi x2), (45, .v (vRule t52 y55)), (44, .v (.slice y51.1 t48.length y51.2))] [15, 14, 13, 12, 6, 0] ?_))))
 obtain ⟨t56, h57, h58⟩ := bS h54
 refine k0 (fun γ w hs => c_impl_CountWinners h57 (hs.view 1 rfl) (hs.view 0 rfl)) ?_
 refine oN 5 [(17, vi t56.2), (16, vi t56.1)] [15, 14, 13, 12, 6, 0] ?_
 refine oe (nt (qs (qs ?_)))
 obtain ⟨p60, hE61, h62⟩ := bS h58
 refine JC_cut (τ := Unit) (fun _ => [(0, .v (.slice a0_0 x0.length c0_0)), (6, .p 0 0), (14, .v (.slice y51.1 t48.length y51.2)), (15, .p 1 0), (59, vb p60)]) (fun _ => [(63, (eRule x1 (a1_0, c1_0))), (69, (eRule t52 y55))]) (fun _ => [SlRes 54 t48 y51.1 y51.2, SlRes 120 t52.Nodes y55.1 y55.2]) ?_ (fun _ => ?_)
 · refine qr (oN 4 [(55, vb (t56.1 != t43.1))] [17, 15, 14, 13, 6, 0] ?_)
   refine oS 55 hE61 (fun h64 => ?_) (fun h65 => ?_)
   · refine oN 4 [(59, vb true)] [15, 14, 6, 0] ?_
     refine oe ?_
     obtain rfl := sI h64
     exact mt () [0, 6, 14, 15, 59] [1, 0] 2
   refine oN 4 [(59, vb (t56.2 != t43.2))] [15, 14, 6, 0] ?_
   refine oe ?_
   obtain rfl := sI h65
   exact mt () [0, 6, 14, 15, 59] [1, 0] 2
 refine nt (cC h62 (fun h67 => ?_) (fun h68 => ?_))
 · refine qs (qr (oN 1 [(10, vb false)] [] ?_))
   refine oe (nt (qe (nr ?_)))
   obtain rfl := sI h67
   exact re [.bool false]
 refine qk (nt (qs (qs (qr (oN 2 [(61, .v (.slice a0_0 x0.length c0_0)), (60, .v (.slice y51.1 t48.length y51.2))] [6, 15] ?_)))))
 obtain ⟨t69, h70, h71⟩ := bS h68
 refine k1 (fun γ w hs => c_laws_toCaseS h70 (hv0_0.kept hs.kept)) (fun y72 => ?_)
 obtain ⟨t73, h74, h75⟩ := bS h71
 refine k0 (fun γ w hs => c_laws_eqCaseS h74 (hs.view 1 rfl) (hs.view 0 rfl)) ?_
 refine oN 1 [(64, vb (!t73))] [6, 15] ?_
 refine oe (nt (cC h75 (fun h78 => ?_) (fun h79 => ?_)))
 · refine qs (qr (oN 1 [(10, vb false)] [] ?_))
   refine oe (nt (qe (nr ?_)))
   obtain rfl := sI h78
   exact re [.bool false]
 refine qk (nt (qs (qs ?_)))
 obtain ⟨t80, h81, h82⟩ := bS h79
 obtain ⟨t84, h85, h86⟩ := bS h82
 refine JC_cut (τ := Unit) (fun _ => [(69, vb (!t84))]) (fun _ => [(63, (eRule x1 (a1_0, c1_0))), (69, (eRule t52 y55))]) (fun _ => [SlRes 54 t69 y72.1 y72.2, SlRes 54 t48 y51.1 y51.2, SlRes 120 t52.Nodes y55.1 y55.2]) ?_ (fun _ => ?_)
 · refine jw [6, 15] [0, 0, 0] ?_
   refine JC_heldN (ks := [0, 1]) (Rk := [SlRes 54 t69 y72.1 y72.2, SlRes 54 t48 y51.1 y51.2, SlRes 120 t52.Nodes y55.1 y55.2]) 5 (by kernel_rfl) (by kernel_rfl) ?_
   refine htq 0 (.v (vRule t52 y55)) [0, 0, 0] ?_
   refine hk [65, 6] ?_
   refine htq 1 (.v (vRule x1 (a1_0, c1_0))) [0, 0, 0] ?_
   refine hk [66, 65] ?_
   refine ha1 2 ?_
   refine hi (fun γ0 δ hm => ?_)
   refine g1 (fun w hs => c_laws_toRule h81 (hv1_0.kept hs.kept)) (fun y83 => ?_)
   refine gn hm [67, 65] [1, 1, 1] ?_
   refine ha1 3 ?_
   refine hi (fun γ0 δ hm => ?_)
   refine g0 (fun w hs => c_laws_eqRule h85 (hs.view 3 rfl) (hs.view 0 rfl)) ?_
   refine gn hm [68] [1, 1, 1] ?_
   refine htq 4 (vb (!t84)) [1, 1, 1] ?_
   refine hk [69] ?_
   exact hd () [69] [1, 1, 1] 2
 refine nt (cC h86 (fun h90 => ?_) (fun h91 => ?_))
 · refine qs (qr (oN 1 [(10, vb false)] [] ?_))
   refine oe (nt (qe (nr ?_)))
   obtain rfl := sI h90
   exact re [.bool false]
 refine qk (nt (qs (qr (oN 1 [(10, vb true)] [] ?_))))
 refine oe (nt (qe ?_))
 obtain rfl := sI h91
 exact re [.bool true]
end Go.Pen
