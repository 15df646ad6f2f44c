/-
  Each Go function does what its plain function says: written by a program of ours.
-/
import Derived.Test.YtnbcacemikahjaaGreatW1
import Derived.Test.YtnbcacemikahjaaGreatProg
import Derived.Test.YtnbcacemikahjaaGreatPenK
namespace Go.Pen
open Go.Proofs Go.RowKit
set_option linter.unusedVariables false
set_option linter.unusedSimpArgs false
set_option maxRecDepth 100000
set_option maxHeartbeats 4000000

theorem c_laws_eqSpellS {W : World} {x0 : List Spell} {a0_0 : Option Addr} {c0_0 : Nat} {x1 : List Spell} {a1_0 : Option Addr} {c1_0 : Nat} {r : Bool} (h : laws_eqSpellS x0 x1 = some r) (hv0_0 : SlView W x0 a0_0 c0_0) (hv1_0 : SlView W x1 a1_0 c1_0) :
    Gives0 Tryz.prog 124 #[.slice a0_0 x0.length c0_0, .slice a1_0 x1.length c1_0] W (.bool r) := by
 unfold laws_eqSpellS at h
 refine en Tryz.func124 Tryz.ntmps124 ?_
 refine qs (qr (oN 1 [] [0, 1] ?_))
 refine oe (nt (qs (qs (qr (oN 5 [(10, vb ((x0.length : Int) != (x1.length : Int)))] [0, 1] ?_)))))
 refine oe (nt (cC h (fun h22 => ?_) (fun h23 => ?_)))
 · refine qs (qr (oN 1 [(4, vb false)] [] ?_))
   refine oe (nt (qe (nr ?_)))
   obtain rfl := sI h22
   exact re [.bool false]
 refine qk (nt (qs (qs (qr (oN 1 [(5, vi 0)] [0, 1] ?_)))))
 refine oe (nt ?_)
 obtain ⟨r27, hL28, h29⟩ := bS h23
 obtain ⟨k30, hk31, h29⟩ := brkS h29
 refine JC_cutP (τ := (Unit) × (Unit)) (fun y => k30 y.1 = some r) (fun y35 => []) (fun y35 => []) (fun y35 => []) ?_ (fun y35 h36p => ?_)
 · refine qb (lp Unit hL28 (fun s24 y25 => [(5, vi s24), (0, .v (.slice a0_0 x0.length c0_0)), (1, .v (.slice a1_0 x1.length c1_0))]) (fun s24 y25 => []) (fun s24 y25 => []) () [5, 0, 1] [] 0 (fun s24 y25 t26 h32 hd33 => ?_))
   refine qs (qs (qr (oN 4 [(14, vb (decide (s24 < (x0.length : Int))))] [5, 0, 1] ?_)))
   refine oe (nt (cC h32 (fun h38 => ?_) (fun h39 => ?_)))
   · refine qk (nt (qs (qb (qs (JC_quiet (by kernel_rfl) (by kernel_rfl) ?_)))))
     refine qN 2 [(18, vi s24), (17, .v (.slice a0_0 x0.length c0_0))] [5, 0, 1] ?_
     obtain ⟨x40, hx41, h42⟩ := bS h38
     refine qi 4 (fun γ w hs => (hv0_0.kept hs.kept)) hx41 ?_
     refine ql 211 0 (vSpell x40) (fun γ w hs => (hv0_0.kept hs.kept).flatq hx41) ?_
     refine qN 2 [(22, vi s24), (21, .v (.slice a1_0 x1.length c1_0))] [20, 5, 0, 1] ?_
     obtain ⟨x43, hx44, h45⟩ := bS h42
     refine qi 4 (fun γ w hs => (hv1_0.kept hs.kept)) hx44 ?_
     refine ql 211 0 (vSpell x43) (fun γ w hs => (hv1_0.kept hs.kept).flatq hx44) ?_
     obtain ⟨t46, h47, h48⟩ := bS h45
     refine q0 (fun γ w hs => c_laws_eqSpell h47) ?_
     refine qN 1 [(26, vb (!t46))] [5, 0, 1] ?_
     refine qz (nt (cC h48 (fun h51 => ?_) (fun h52 => ?_)))
     · refine qs (qr (oN 1 [(4, vb false)] [] ?_))
       refine oe (nt (qe (br (nr (nr ?_)))))
       have h53 := leafR hd33 h51 h29
       refine br (nr (nr ?_))
       obtain rfl := sI h53
       exact re [.bool false]
     refine qk (bn (nt (qr (oN 3 [(5, vi (w64 (s24 + 1)))] [0, 1] ?_))))
     exact oe (ct h52 () [5, 0, 1] [] 0)
   refine qx (nx (nx (bh ?_)))
   have h54 := leafB hd33 h39 h29
   exact mp ((), ()) h54 [] [] 0
 have h36 := (congrFun hk31 _).symm.trans h36p
 refine nt (qs (qr (oN 1 [(4, vb true)] [] ?_)))
 refine oe (nt (qe ?_))
 obtain rfl := sI h36
 exact re [.bool true]

theorem c_laws_eqEvent {W : World} {x0 : Event} {x1 : Event} {r : Bool} (h : laws_eqEvent x0 x1 = some r)  :
    Gives0 Tryz.prog 183 #[vEvent x0, vEvent x1] W (.bool r) := by
 unfold laws_eqEvent at h
 refine en Tryz.func183 Tryz.ntmps183 ?_
 refine qs (qr (oB 3 [(3, .p 1 0), (2, .p 0 0)] [] [(215, (eEvent x0)), (215, (eEvent x1))] ?_))
 refine oe (nt (qs (qs (qr (oN 5 [(9, vb (x0.Kind != x1.Kind))] [3, 2] ?_)))))
 refine oe (nt (cC h (fun h22 => ?_) (fun h23 => ?_)))
 · refine qs (qr (oN 1 [(4, vb false)] [] ?_))
   refine oe (nt (qe (nr ?_)))
   obtain rfl := sI h22
   exact re [.bool false]
 refine qk (nt (qs (qs (qr (oN 5 [(14, vb (x0.Month != x1.Month))] [] ?_)))))
 refine oe (nt (cC h23 (fun h25 => ?_) (fun h26 => ?_)))
 · refine qs (qr (oN 1 [(4, vb false)] [] ?_))
   refine oe (nt (qe (nr ?_)))
   obtain rfl := sI h25
   exact re [.bool false]
 refine qk (nt (qs (qr (oN 1 [(4, vb true)] [] ?_))))
 refine oe (nt (qe ?_))
 obtain rfl := sI h26
 exact re [.bool true]

theorem c_laws_eqEventS {W : World} {x0 : List Event} {a0_0 : Option Addr} {c0_0 : Nat} {x1 : List Event} {a1_0 : Option Addr} {c1_0 : Nat} {r : Bool} (h : laws_eqEventS x0 x1 = some r) (hv0_0 : SlView W x0 a0_0 c0_0) (hv1_0 : SlView W x1 a1_0 c1_0) :
    Gives0 Tryz.prog 125 #[.slice a0_0 x0.length c0_0, .slice a1_0 x1.length c1_0] W (.bool r) := by
 unfold laws_eqEventS at h
 refine en Tryz.func125 Tryz.ntmps125 ?_
 refine qs (qr (oN 1 [] [0, 1] ?_))
 refine oe (nt (qs (qs (qr (oN 5 [(10, vb ((x0.length : Int) != (x1.length : Int)))] [0, 1] ?_)))))
 refine oe (nt (cC h (fun h22 => ?_) (fun h23 => ?_)))
 · refine qs (qr (oN 1 [(4, vb false)] [] ?_))
   refine oe (nt (qe (nr ?_)))
   obtain rfl := sI h22
   exact re [.bool false]
 refine qk (nt (qs (qs (qr (oN 1 [(5, vi 0)] [0, 1] ?_)))))
 refine oe (nt ?_)
 obtain ⟨r27, hL28, h29⟩ := bS h23
 obtain ⟨k30, hk31, h29⟩ := brkS h29
 refine JC_cutP (τ := (Unit) × (Unit)) (fun y => k30 y.1 = some r) (fun y35 => []) (fun y35 => []) (fun y35 => []) ?_ (fun y35 h36p => ?_)
 · refine qb (lp Unit hL28 (fun s24 y25 => [(5, vi s24), (0, .v (.slice a0_0 x0.length c0_0)), (1, .v (.slice a1_0 x1.length c1_0))]) (fun s24 y25 => []) (fun s24 y25 => []) () [5, 0, 1] [] 0 (fun s24 y25 t26 h32 hd33 => ?_))
   refine qs (qs (qr (oN 4 [(14, vb (decide (s24 < (x0.length : Int))))] [5, 0, 1] ?_)))
   refine oe (nt (cC h32 (fun h38 => ?_) (fun h39 => ?_)))
   · refine qk (nt (qs (qb (qs (JC_quiet (by kernel_rfl) (by kernel_rfl) ?_)))))
     refine qN 2 [(18, vi s24), (17, .v (.slice a0_0 x0.length c0_0))] [5, 0, 1] ?_
     obtain ⟨x40, hx41, h42⟩ := bS h38
     refine qi 2 (fun γ w hs => (hv0_0.kept hs.kept)) hx41 ?_
     refine ql 215 0 (vEvent x40) (fun γ w hs => (hv0_0.kept hs.kept).flatq hx41) ?_
     refine qN 2 [(22, vi s24), (21, .v (.slice a1_0 x1.length c1_0))] [20, 5, 0, 1] ?_
     obtain ⟨x43, hx44, h45⟩ := bS h42
     refine qi 2 (fun γ w hs => (hv1_0.kept hs.kept)) hx44 ?_
     refine ql 215 0 (vEvent x43) (fun γ w hs => (hv1_0.kept hs.kept).flatq hx44) ?_
     obtain ⟨t46, h47, h48⟩ := bS h45
     refine q0 (fun γ w hs => c_laws_eqEvent h47) ?_
     refine qN 1 [(26, vb (!t46))] [5, 0, 1] ?_
     refine qz (nt (cC h48 (fun h51 => ?_) (fun h52 => ?_)))
     · refine qs (qr (oN 1 [(4, vb false)] [] ?_))
       refine oe (nt (qe (br (nr (nr ?_)))))
       have h53 := leafR hd33 h51 h29
       refine br (nr (nr ?_))
       obtain rfl := sI h53
       exact re [.bool false]
     refine qk (bn (nt (qr (oN 3 [(5, vi (w64 (s24 + 1)))] [0, 1] ?_))))
     exact oe (ct h52 () [5, 0, 1] [] 0)
   refine qx (nx (nx (bh ?_)))
   have h54 := leafB hd33 h39 h29
   exact mp ((), ()) h54 [] [] 0
 have h36 := (congrFun hk31 _).symm.trans h36p
 refine nt (qs (qr (oN 1 [(4, vb true)] [] ?_)))
 refine oe (nt (qe ?_))
 obtain rfl := sI h36
 exact re [.bool true]

theorem c_laws_eqMember {W : World} {x0 : Member} {b0 : AC × AC} {x1 : Member} {b1 : AC × AC} {r : Bool} (h : laws_eqMember x0 x1 = some r) (hv0_0 : SlView W x0.Spells b0.1.1 b0.1.2) (hv0_1 : SlView W x0.Events b0.2.1 b0.2.2) (hv1_0 : SlView W x1.Spells b1.1.1 b1.1.2) (hv1_1 : SlView W x1.Events b1.2.1 b1.2.2) :
    Gives0 Tryz.prog 76 #[vMember x0 b0, vMember x1 b1] W (.bool r) := by
 unfold laws_eqMember at h
 refine en Tryz.func76 Tryz.ntmps76 ?_
 refine qs (qr (oB 3 [(3, .p 1 0), (2, .p 0 0)] [] [(52, (eMember x0 b0)), (52, (eMember x1 b1))] ?_))
 refine oe (nt (qs (qs (qr (oN 5 [(9, vb (x0.Birth != x1.Birth))] [3, 2] ?_)))))
 refine oe (nt (cC h (fun h22 => ?_) (fun h23 => ?_)))
 · refine qs (qr (oN 1 [(4, vb false)] [] ?_))
   refine oe (nt (qe (nr ?_)))
   obtain rfl := sI h22
   exact re [.bool false]
 refine qk (nt (qs (qs (qr (oN 5 [(14, vb (x0.Joined != x1.Joined))] [3, 2] ?_)))))
 refine oe (nt (cC h23 (fun h25 => ?_) (fun h26 => ?_)))
 · refine qs (qr (oN 1 [(4, vb false)] [] ?_))
   refine oe (nt (qe (nr ?_)))
   obtain rfl := sI h25
   exact re [.bool false]
 refine qk (nt (qs (qs (qr (oN 4 [(18, .v (.slice b1.1.1 x1.Spells.length b1.1.2)), (16, .v (.slice b0.1.1 x0.Spells.length b0.1.2))] [3, 2] ?_)))))
 obtain ⟨t27, h28, h29⟩ := bS h26
 refine k0 (fun γ w hs => c_laws_eqSpellS h28 (hv0_0.kept hs.kept) (hv1_0.kept hs.kept)) ?_
 refine oN 1 [(20, vb (!t27))] [3, 2] ?_
 refine oe (nt (cC h29 (fun h32 => ?_) (fun h33 => ?_)))
 · refine qs (qr (oN 1 [(4, vb false)] [] ?_))
   refine oe (nt (qe (nr ?_)))
   obtain rfl := sI h32
   exact re [.bool false]
 refine qk (nt (qs (qs (qr (oN 4 [(24, .v (.slice b1.2.1 x1.Events.length b1.2.2)), (22, .v (.slice b0.2.1 x0.Events.length b0.2.2))] [] ?_)))))
 obtain ⟨t34, h35, h36⟩ := bS h33
 refine k0 (fun γ w hs => c_laws_eqEventS h35 (hv0_1.kept hs.kept) (hv1_1.kept hs.kept)) ?_
 refine oN 1 [(26, vb (!t34))] [] ?_
 refine oe (nt (cC h36 (fun h39 => ?_) (fun h40 => ?_)))
 · refine qs (qr (oN 1 [(4, vb false)] [] ?_))
   refine oe (nt (qe (nr ?_)))
   obtain rfl := sI h39
   exact re [.bool false]
 refine qk (nt (qs (qr (oN 1 [(4, vb true)] [] ?_))))
 refine oe (nt (qe ?_))
 obtain rfl := sI h40
 exact re [.bool true]

theorem c_laws_eqCase {W : World} {x0 : Case} {b0 : AC × AC × AC × AC × AC} {x1 : Case} {b1 : AC × AC × AC × AC × AC} {r : Bool} (h : laws_eqCase x0 x1 = some r) (hv0_0 : SlView W x0.Book.Rules b0.1.1 b0.1.2) (hv0_1 : SlView W x0.Store.Facts b0.2.1.1 b0.2.1.2) (hv0_2 : SlView W x0.Series.Points b0.2.2.1.1 b0.2.2.1.2) (hv0_3 : SlView W x0.Member.Spells b0.2.2.2.1.1 b0.2.2.2.1.2) (hv0_4 : SlView W x0.Member.Events b0.2.2.2.2.1 b0.2.2.2.2.2) (hv1_0 : SlView W x1.Book.Rules b1.1.1 b1.1.2) (hv1_1 : SlView W x1.Store.Facts b1.2.1.1 b1.2.1.2) (hv1_2 : SlView W x1.Series.Points b1.2.2.1.1 b1.2.2.1.2) (hv1_3 : SlView W x1.Member.Spells b1.2.2.2.1.1 b1.2.2.2.1.2) (hv1_4 : SlView W x1.Member.Events b1.2.2.2.2.1 b1.2.2.2.2.2) :
    Gives0 Tryz.prog 19 #[vCase x0 b0, vCase x1 b1] W (.bool r) := by
 unfold laws_eqCase at h
 refine en Tryz.func19 Tryz.ntmps19 ?_
 refine qs (qr (oB 3 [(3, .p 1 0), (2, .p 0 0)] [] [(54, (eCase x0 b0)), (54, (eCase x1 b1))] ?_))
 refine oe (nt (qs (qs (qr (oN 4 [(8, .v (vBook x1.Book b1.1)), (6, .v (vBook x0.Book b0.1))] [3, 2] ?_)))))
 obtain ⟨t21, h22, h23⟩ := bS h
 refine k0 (fun γ w hs => c_laws_eqBook h22 (hv0_0.kept hs.kept) (hv1_0.kept hs.kept)) ?_
 refine oN 1 [(10, vb (!t21))] [3, 2] ?_
 refine oe (nt (cC h23 (fun h26 => ?_) (fun h27 => ?_)))
 · refine qs (qr (oN 1 [(4, vb false)] [] ?_))
   refine oe (nt (qe (nr ?_)))
   obtain rfl := sI h26
   exact re [.bool false]
 refine qk (nt (qs (qs (qr (oN 4 [(14, .v (vStore x1.Store b1.2.1)), (12, .v (vStore x0.Store b0.2.1))] [3, 2] ?_)))))
 obtain ⟨t28, h29, h30⟩ := bS h27
 refine k0 (fun γ w hs => c_laws_eqStore h29 (hv0_1.kept hs.kept) (hv1_1.kept hs.kept)) ?_
 refine oN 1 [(16, vb (!t28))] [3, 2] ?_
 refine oe (nt (cC h30 (fun h33 => ?_) (fun h34 => ?_)))
 · refine qs (qr (oN 1 [(4, vb false)] [] ?_))
   refine oe (nt (qe (nr ?_)))
   obtain rfl := sI h33
   exact re [.bool false]
 refine qk (nt (qs (qs (qr (oN 4 [(20, .v (vSeries x1.Series b1.2.2.1)), (18, .v (vSeries x0.Series b0.2.2.1))] [3, 2] ?_)))))
 obtain ⟨t35, h36, h37⟩ := bS h34
 refine k0 (fun γ w hs => c_laws_eqSeries h36 (hv0_2.kept hs.kept) (hv1_2.kept hs.kept)) ?_
 refine oN 1 [(22, vb (!t35))] [3, 2] ?_
 refine oe (nt (cC h37 (fun h40 => ?_) (fun h41 => ?_)))
 · refine qs (qr (oN 1 [(4, vb false)] [] ?_))
   refine oe (nt (qe (nr ?_)))
   obtain rfl := sI h40
   exact re [.bool false]
 refine qk (nt (qs (qs (qr (oN 4 [(26, .v (vMember x1.Member b1.2.2.2)), (24, .v (vMember x0.Member b0.2.2.2))] [] ?_)))))
 obtain ⟨t42, h43, h44⟩ := bS h41
 refine k0 (fun γ w hs => c_laws_eqMember (b0 := b0.2.2.2) (b1 := b1.2.2.2) h43 (hv0_3.kept hs.kept) (hv0_4.kept hs.kept) (hv1_3.kept hs.kept) (hv1_4.kept hs.kept)) ?_
 refine oN 1 [(28, vb (!t42))] [] ?_
 refine oe (nt (cC h44 (fun h47 => ?_) (fun h48 => ?_)))
 · refine qs (qr (oN 1 [(4, vb false)] [] ?_))
   refine oe (nt (qe (nr ?_)))
   obtain rfl := sI h47
   exact re [.bool false]
 refine qk (nt (qs (qr (oN 1 [(4, vb true)] [] ?_))))
 refine oe (nt (qe ?_))
 obtain rfl := sI h48
 exact re [.bool true]

theorem c_laws_markNodeS {W : World} {x0 : List Node} {a0_0 : Option Addr} {c0_0 : Nat} {e0_0 : TypeId} {x1 : Int} {r : Int × (List Node)} (h : laws_markNodeS x0 x1 = some r)  :
    GivesM Tryz.prog 88 #[.slice a0_0 x0.length c0_0, .int .i64 x1] W [SlRes e0_0 x0 a0_0 c0_0] [SlRes e0_0 r.2 a0_0 c0_0] (.int .i64 r.1) := by
 unfold laws_markNodeS at h
 refine enM Tryz.func88 Tryz.ntmps88 (fun Fs => ?_)
 refine qs (qr (oN 1 [] [0, 1] ?_))
 refine oe (nt (qs (qs (qr (oN 1 [(5, vi 0)] [0, 1] ?_)))))
 refine oe (nt ?_)
 obtain ⟨r24, hL25, h26⟩ := bS h
 obtain ⟨k27, hk28, h26⟩ := brkS h26
 refine JC_cutP (τ := ((List Node) × Int) × (Unit)) (fun y => k27 y.1 = some r) (fun y32 => [(0, .v (.slice a0_0 y32.1.1.length c0_0)), (1, vi y32.1.2)]) (fun y32 => []) (fun y32 => [SlRes e0_0 y32.1.1 a0_0 c0_0]) ?_ (fun y32 h33p => ?_)
 · refine qb (lp Unit hL25 (fun s21 y22 => [(5, vi s21.1), (0, .v (.slice a0_0 s21.2.1.length c0_0)), (1, vi s21.2.2)]) (fun s21 y22 => []) (fun s21 y22 => [SlRes e0_0 s21.2.1 a0_0 c0_0]) () [5, 0, 1] [0] 0 (fun s21 y22 t23 h29 hd30 => ?_))
   refine qs (qs (qr (oN 4 [(9, vb (decide (s21.1 < (s21.2.1.length : Int))))] [5, 0, 1] ?_)))
   refine oe (nt (cC h29 (fun h35 => ?_) (fun h36 => ?_)))
   · refine qk (nt (qs (qb (qs (qr (oN 3 [(14, vi s21.2.2), (13, vi s21.1), (12, .v (.slice a0_0 s21.2.1.length c0_0))] [5, 0, 1] ?_))))))
     obtain ⟨x37, hx38, h39⟩ := bS h35
     refine oi 6 (fun γ w hs => (hs.view 0 rfl)) hx38 ?_
     refine oN 1 [(16, .q a0_0 (Int.toNat s21.1 * 6))] [14, 5, 0, 1] ?_
     obtain ⟨l40, hm41, h42⟩ := bS h39
     replace hm41 := (sI hm41).symm
     refine JO_storeq (α := Node) (d := a0_0) (vs := [.int .i64 s21.2.2]) (j := s21.1) (x' := (Node.mk s21.2.2 x37.A x37.B x37.C x37.Value)) rfl (by kernel_rfl) 0 (by kernel_rfl) hx38 (Rc := []) (Rr := []) rfl (by kernel_rfl) (fun w c F Fs ho _ _ => own_flat_set (by kernel_rfl) ho) hm41 rfl ?_
     have hl43 := len_set hm41
     refine JO_keep [14, 5, 0, 1] (sl' := [(14, vi s21.2.2), (5, vi s21.1), (0, .v (.slice a0_0 s21.2.1.length c0_0)), (1, vi s21.2.2)]) (by kernel_rfl) ?_
     refine JO_eqE (sl' := [(14, vi s21.2.2), (5, vi s21.1), (0, .v (.slice a0_0 l40.length c0_0)), (1, vi s21.2.2)]) (bx' := []) (by simp only [hl43]) rfl ?_
     refine oe (nt (qs (qr (oN 3 [(1, vi (w64 (s21.2.2 + 1)))] [5, 0] ?_))))
     refine oe (nt (qs (qr (oN 3 [(21, vi (w64 (s21.2.2 + 1))), (20, vi s21.1), (19, .v (.slice a0_0 l40.length c0_0))] [1, 5, 0] ?_))))
     obtain ⟨x44, hx45, h46⟩ := bS h42
     refine oi 6 (fun γ w hs => (hs.view 0 rfl)) hx45 ?_
     refine oN 1 [(23, .q a0_0 (Int.toNat s21.1 * 6 + 1))] [21, 1, 5, 0] ?_
     obtain ⟨l47, hm48, h49⟩ := bS h46
     replace hm48 := (sI hm48).symm
     refine JO_storeq (α := Node) (d := a0_0) (vs := [.int .i64 (w64 (s21.2.2 + 1))]) (j := s21.1) (x' := (Node.mk x44.Kind (w64 (s21.2.2 + 1)) x44.B x44.C x44.Value)) rfl (by kernel_rfl) 1 (by kernel_rfl) hx45 (Rc := []) (Rr := []) rfl (by kernel_rfl) (fun w c F Fs ho _ _ => own_flat_set (by kernel_rfl) ho) hm48 rfl ?_
     have hl50 := len_set hm48
     refine JO_keep [21, 1, 5, 0] (sl' := [(21, vi (w64 (s21.2.2 + 1))), (1, vi (w64 (s21.2.2 + 1))), (5, vi s21.1), (0, .v (.slice a0_0 l40.length c0_0))]) (by kernel_rfl) ?_
     refine JO_eqE (sl' := [(21, vi (w64 (s21.2.2 + 1))), (1, vi (w64 (s21.2.2 + 1))), (5, vi s21.1), (0, .v (.slice a0_0 l47.length c0_0))]) (bx' := []) (by simp only [hl50]) rfl ?_
     refine oe (nt (qs (qr (oN 3 [(1, vi (w64 ((w64 (s21.2.2 + 1)) + 1)))] [5, 0] ?_))))
     refine oe (nt (qs (qr (oN 3 [(28, vi (w64 ((w64 (s21.2.2 + 1)) + 1))), (27, vi s21.1), (26, .v (.slice a0_0 l47.length c0_0))] [1, 5, 0] ?_))))
     obtain ⟨x51, hx52, h53⟩ := bS h49
     refine oi 6 (fun γ w hs => (hs.view 0 rfl)) hx52 ?_
     refine oN 1 [(30, .q a0_0 (Int.toNat s21.1 * 6 + 2))] [28, 1, 5, 0] ?_
     obtain ⟨l54, hm55, h56⟩ := bS h53
     replace hm55 := (sI hm55).symm
     refine JO_storeq (α := Node) (d := a0_0) (vs := [.int .i64 (w64 ((w64 (s21.2.2 + 1)) + 1))]) (j := s21.1) (x' := (Node.mk x51.Kind x51.A (w64 ((w64 (s21.2.2 + 1)) + 1)) x51.C x51.Value)) rfl (by kernel_rfl) 2 (by kernel_rfl) hx52 (Rc := []) (Rr := []) rfl (by kernel_rfl) (fun w c F Fs ho _ _ => own_flat_set (by kernel_rfl) ho) hm55 rfl ?_
     have hl57 := len_set hm55
     refine JO_keep [28, 1, 5, 0] (sl' := [(28, vi (w64 ((w64 (s21.2.2 + 1)) + 1))), (1, vi (w64 ((w64 (s21.2.2 + 1)) + 1))), (5, vi s21.1), (0, .v (.slice a0_0 l47.length c0_0))]) (by kernel_rfl) ?_
     refine JO_eqE (sl' := [(28, vi (w64 ((w64 (s21.2.2 + 1)) + 1))), (1, vi (w64 ((w64 (s21.2.2 + 1)) + 1))), (5, vi s21.1), (0, .v (.slice a0_0 l54.length c0_0))]) (bx' := []) (by simp only [hl57]) rfl ?_
     refine oe (nt (qs (qr (oN 3 [(1, vi (w64 ((w64 ((w64 (s21.2.2 + 1)) + 1)) + 1)))] [5, 0] ?_))))
     refine oe (nt (qs (qr (oN 3 [(35, vi (w64 ((w64 ((w64 (s21.2.2 + 1)) + 1)) + 1))), (34, vi s21.1), (33, .v (.slice a0_0 l54.length c0_0))] [1, 5, 0] ?_))))
     obtain ⟨x58, hx59, h60⟩ := bS h56
     refine oi 6 (fun γ w hs => (hs.view 0 rfl)) hx59 ?_
     refine oN 1 [(37, .q a0_0 (Int.toNat s21.1 * 6 + 3))] [35, 1, 5, 0] ?_
     obtain ⟨l61, hm62, h63⟩ := bS h60
     replace hm62 := (sI hm62).symm
     refine JO_storeq (α := Node) (d := a0_0) (vs := [.int .i64 (w64 ((w64 ((w64 (s21.2.2 + 1)) + 1)) + 1))]) (j := s21.1) (x' := (Node.mk x58.Kind x58.A x58.B (w64 ((w64 ((w64 (s21.2.2 + 1)) + 1)) + 1)) x58.Value)) rfl (by kernel_rfl) 3 (by kernel_rfl) hx59 (Rc := []) (Rr := []) rfl (by kernel_rfl) (fun w c F Fs ho _ _ => own_flat_set (by kernel_rfl) ho) hm62 rfl ?_
     have hl64 := len_set hm62
     refine JO_keep [35, 1, 5, 0] (sl' := [(35, vi (w64 ((w64 ((w64 (s21.2.2 + 1)) + 1)) + 1))), (1, vi (w64 ((w64 ((w64 (s21.2.2 + 1)) + 1)) + 1))), (5, vi s21.1), (0, .v (.slice a0_0 l54.length c0_0))]) (by kernel_rfl) ?_
     refine JO_eqE (sl' := [(35, vi (w64 ((w64 ((w64 (s21.2.2 + 1)) + 1)) + 1))), (1, vi (w64 ((w64 ((w64 (s21.2.2 + 1)) + 1)) + 1))), (5, vi s21.1), (0, .v (.slice a0_0 l61.length c0_0))]) (bx' := []) (by simp only [hl64]) rfl ?_
     refine oe (nt (qs (qr (oN 3 [(1, vi (w64 ((w64 ((w64 ((w64 (s21.2.2 + 1)) + 1)) + 1)) + 1)))] [5, 0] ?_))))
     refine oe (nt (qs (qr (oN 3 [(42, vi (w64 ((w64 ((w64 ((w64 (s21.2.2 + 1)) + 1)) + 1)) + 1))), (41, vi s21.1), (40, .v (.slice a0_0 l61.length c0_0))] [1, 5, 0] ?_))))
     obtain ⟨x65, hx66, h67⟩ := bS h63
     refine oi 6 (fun γ w hs => (hs.view 0 rfl)) hx66 ?_
     refine oN 2 [(45, .q a0_0 (Int.toNat s21.1 * 6 + 4))] [42, 1, 5, 0] ?_
     obtain ⟨l68, hm69, h70⟩ := bS h67
     replace hm69 := (sI hm69).symm
     refine JO_storeq (α := Node) (d := a0_0) (vs := [.int .i64 (w64 ((w64 ((w64 ((w64 (s21.2.2 + 1)) + 1)) + 1)) + 1))]) (j := s21.1) (x' := (Node.mk x65.Kind x65.A x65.B x65.C (Frac.mk (w64 ((w64 ((w64 ((w64 (s21.2.2 + 1)) + 1)) + 1)) + 1)) x65.Value.Den))) rfl (by kernel_rfl) 4 (by kernel_rfl) hx66 (Rc := []) (Rr := []) rfl (by kernel_rfl) (fun w c F Fs ho _ _ => own_flat_set (by kernel_rfl) ho) hm69 rfl ?_
     have hl71 := len_set hm69
     refine JO_keep [42, 1, 5, 0] (sl' := [(42, vi (w64 ((w64 ((w64 ((w64 (s21.2.2 + 1)) + 1)) + 1)) + 1))), (1, vi (w64 ((w64 ((w64 ((w64 (s21.2.2 + 1)) + 1)) + 1)) + 1))), (5, vi s21.1), (0, .v (.slice a0_0 l61.length c0_0))]) (by kernel_rfl) ?_
     refine JO_eqE (sl' := [(42, vi (w64 ((w64 ((w64 ((w64 (s21.2.2 + 1)) + 1)) + 1)) + 1))), (1, vi (w64 ((w64 ((w64 ((w64 (s21.2.2 + 1)) + 1)) + 1)) + 1))), (5, vi s21.1), (0, .v (.slice a0_0 l68.length c0_0))]) (bx' := []) (by simp only [hl71]) rfl ?_
     refine oe (nt (qs (qr (oN 3 [(1, vi (w64 ((w64 ((w64 ((w64 ((w64 (s21.2.2 + 1)) + 1)) + 1)) + 1)) + 1)))] [5, 0] ?_))))
     refine oe (nt (qs (qr (oN 3 [(50, vi (w64 ((w64 ((w64 ((w64 ((w64 (s21.2.2 + 1)) + 1)) + 1)) + 1)) + 1))), (49, vi s21.1), (48, .v (.slice a0_0 l68.length c0_0))] [1, 5, 0] ?_))))
     obtain ⟨x72, hx73, h74⟩ := bS h70
     refine oi 6 (fun γ w hs => (hs.view 0 rfl)) hx73 ?_
     refine oN 2 [(53, .q a0_0 (Int.toNat s21.1 * 6 + 5))] [50, 1, 5, 0] ?_
     obtain ⟨l75, hm76, h77⟩ := bS h74
     replace hm76 := (sI hm76).symm
     refine JO_storeq (α := Node) (d := a0_0) (vs := [.int .i64 (w64 ((w64 ((w64 ((w64 ((w64 (s21.2.2 + 1)) + 1)) + 1)) + 1)) + 1))]) (j := s21.1) (x' := (Node.mk x72.Kind x72.A x72.B x72.C (Frac.mk x72.Value.Num (w64 ((w64 ((w64 ((w64 ((w64 (s21.2.2 + 1)) + 1)) + 1)) + 1)) + 1))))) rfl (by kernel_rfl) 5 (by kernel_rfl) hx73 (Rc := []) (Rr := []) rfl (by kernel_rfl) (fun w c F Fs ho _ _ => own_flat_set (by kernel_rfl) ho) hm76 rfl ?_
     have hl78 := len_set hm76
     refine JO_keep [50, 1, 5, 0] (sl' := [(50, vi (w64 ((w64 ((w64 ((w64 ((w64 (s21.2.2 + 1)) + 1)) + 1)) + 1)) + 1))), (1, vi (w64 ((w64 ((w64 ((w64 ((w64 (s21.2.2 + 1)) + 1)) + 1)) + 1)) + 1))), (5, vi s21.1), (0, .v (.slice a0_0 l68.length c0_0))]) (by kernel_rfl) ?_
     refine JO_eqE (sl' := [(50, vi (w64 ((w64 ((w64 ((w64 ((w64 (s21.2.2 + 1)) + 1)) + 1)) + 1)) + 1))), (1, vi (w64 ((w64 ((w64 ((w64 ((w64 (s21.2.2 + 1)) + 1)) + 1)) + 1)) + 1))), (5, vi s21.1), (0, .v (.slice a0_0 l75.length c0_0))]) (bx' := []) (by simp only [hl78]) rfl ?_
     refine oe (nt (qr (oN 3 [(1, vi (w64 ((w64 ((w64 ((w64 ((w64 ((w64 (s21.2.2 + 1)) + 1)) + 1)) + 1)) + 1)) + 1)))] [5, 0] ?_)))
     refine oe (bn (nt (qr (oN 3 [(5, vi (w64 (s21.1 + 1)))] [1, 0] ?_))))
     exact oe (ct h77 () [5, 0, 1] [0] 0)
   refine qx (nx (nx (bh ?_)))
   have h79 := leafB hd30 h36 h26
   exact mp ((s21.2.1, s21.2.2), ()) h79 [0, 1] [0] 0
 have h33 := (congrFun hk28 _).symm.trans h33p
 refine nt (qs (qr (oN 2 [(4, vi y32.1.2)] [0] ?_)))
 refine oe (nt (qe (rt [.int .i64 y32.1.2] (fun γ w hs => ?_))))
 rw [← sI h33]
 exact hs.turned (is := [0]) rfl

theorem c_laws_markRuleS {W : World} {x0 : List Rule} {a0_0 : Option Addr} {c0_0 : Nat} {e0_0 : TypeId} {x1 : Int} {r : Int × (List Rule)} (h : laws_markRuleS x0 x1 = some r)  :
    GivesM Tryz.prog 126 #[.slice a0_0 x0.length c0_0, .int .i64 x1] W [SlRes e0_0 x0 a0_0 c0_0] [SlRes e0_0 r.2 a0_0 c0_0] (.int .i64 r.1) := by
 unfold laws_markRuleS at h
 refine enM Tryz.func126 Tryz.ntmps126 (fun Fs => ?_)
 refine qs (qr (oN 1 [] [0, 1] ?_))
 refine oe (nt (qs (qs (qr (oN 1 [(5, vi 0)] [0, 1] ?_)))))
 refine oe (nt ?_)
 obtain ⟨r24, hL25, h26⟩ := bS h
 obtain ⟨k27, hk28, h26⟩ := brkS h26
 refine JC_cutP (τ := ((List Rule) × Int) × (Unit)) (fun y => k27 y.1 = some r) (fun y32 => [(0, .v (.slice a0_0 y32.1.1.length c0_0)), (1, vi y32.1.2)]) (fun y32 => []) (fun y32 => [SlRes e0_0 y32.1.1 a0_0 c0_0]) ?_ (fun y32 h33p => ?_)
 · refine qb (lp Unit hL25 (fun s21 y22 => [(5, vi s21.1), (0, .v (.slice a0_0 s21.2.1.length c0_0)), (1, vi s21.2.2)]) (fun s21 y22 => []) (fun s21 y22 => [SlRes e0_0 s21.2.1 a0_0 c0_0]) () [5, 0, 1] [0] 0 (fun s21 y22 t23 h29 hd30 => ?_))
   refine qs (qs (qr (oN 4 [(9, vb (decide (s21.1 < (s21.2.1.length : Int))))] [5, 0, 1] ?_)))
   refine oe (nt (cC h29 (fun h35 => ?_) (fun h36 => ?_)))
   · refine qk (nt (qs (qb (qs (qr (oN 3 [(14, vi s21.2.2), (13, vi s21.1), (12, .v (.slice a0_0 s21.2.1.length c0_0))] [5, 0, 1] ?_))))))
     obtain ⟨x37, hx38, h39⟩ := bS h35
     refine oi 7 (fun γ w hs => (hs.view 0 rfl)) hx38 ?_
     refine oN 1 [(16, .q a0_0 (Int.toNat s21.1 * 7))] [14, 5, 0, 1] ?_
     obtain ⟨l40, hm41, h42⟩ := bS h39
     replace hm41 := (sI hm41).symm
     refine JO_storeq (α := Rule) (d := a0_0) (vs := [.int .i64 s21.2.2]) (j := s21.1) (x' := (Rule.mk s21.2.2 x37.From x37.To x37.Joined x37.Rank x37.Mode x37.Nodes)) rfl (by kernel_rfl) 0 (by kernel_rfl) hx38 (Rc := []) (Rr := []) rfl (by kernel_rfl) (by rintro w c F Fs ⟨e0, a0, c0, F0, hF, rfl, q0⟩ _ hn; exact ⟨F, ⟨e0, a0, c0, F0, hF, rfl, q0⟩, (List.nodup_append.1 hn).1, fun g hg => by simp [hg]⟩) hm41 rfl ?_
     have hl43 := len_set hm41
     refine JO_keep [14, 5, 0, 1] (sl' := [(14, vi s21.2.2), (5, vi s21.1), (0, .v (.slice a0_0 s21.2.1.length c0_0)), (1, vi s21.2.2)]) (by kernel_rfl) ?_
     refine JO_eqE (sl' := [(14, vi s21.2.2), (5, vi s21.1), (0, .v (.slice a0_0 l40.length c0_0)), (1, vi s21.2.2)]) (bx' := []) (by simp only [hl43]) rfl ?_
     refine oe (nt (qs (qr (oN 3 [(1, vi (w64 (s21.2.2 + 1)))] [5, 0] ?_))))
     refine oe (nt (qs (qr (oN 3 [(21, vi (w64 (s21.2.2 + 1))), (20, vi s21.1), (19, .v (.slice a0_0 l40.length c0_0))] [1, 5, 0] ?_))))
     obtain ⟨x44, hx45, h46⟩ := bS h42
     refine oi 7 (fun γ w hs => (hs.view 0 rfl)) hx45 ?_
     refine oN 1 [(23, .q a0_0 (Int.toNat s21.1 * 7 + 1))] [21, 1, 5, 0] ?_
     obtain ⟨l47, hm48, h49⟩ := bS h46
     replace hm48 := (sI hm48).symm
     refine JO_storeq (α := Rule) (d := a0_0) (vs := [.int .i64 (w64 (s21.2.2 + 1))]) (j := s21.1) (x' := (Rule.mk x44.Name (w64 (s21.2.2 + 1)) x44.To x44.Joined x44.Rank x44.Mode x44.Nodes)) rfl (by kernel_rfl) 1 (by kernel_rfl) hx45 (Rc := []) (Rr := []) rfl (by kernel_rfl) (by rintro w c F Fs ⟨e0, a0, c0, F0, hF, rfl, q0⟩ _ hn; exact ⟨F, ⟨e0, a0, c0, F0, hF, rfl, q0⟩, (List.nodup_append.1 hn).1, fun g hg => by simp [hg]⟩) hm48 rfl ?_
     have hl50 := len_set hm48
     refine JO_keep [21, 1, 5, 0] (sl' := [(21, vi (w64 (s21.2.2 + 1))), (1, vi (w64 (s21.2.2 + 1))), (5, vi s21.1), (0, .v (.slice a0_0 l40.length c0_0))]) (by kernel_rfl) ?_
     refine JO_eqE (sl' := [(21, vi (w64 (s21.2.2 + 1))), (1, vi (w64 (s21.2.2 + 1))), (5, vi s21.1), (0, .v (.slice a0_0 l47.length c0_0))]) (bx' := []) (by simp only [hl50]) rfl ?_
     refine oe (nt (qs (qr (oN 3 [(1, vi (w64 ((w64 (s21.2.2 + 1)) + 1)))] [5, 0] ?_))))
     refine oe (nt (qs (qr (oN 3 [(28, vi (w64 ((w64 (s21.2.2 + 1)) + 1))), (27, vi s21.1), (26, .v (.slice a0_0 l47.length c0_0))] [1, 5, 0] ?_))))
     obtain ⟨x51, hx52, h53⟩ := bS h49
     refine oi 7 (fun γ w hs => (hs.view 0 rfl)) hx52 ?_
     refine oN 1 [(30, .q a0_0 (Int.toNat s21.1 * 7 + 2))] [28, 1, 5, 0] ?_
     obtain ⟨l54, hm55, h56⟩ := bS h53
     replace hm55 := (sI hm55).symm
     refine JO_storeq (α := Rule) (d := a0_0) (vs := [.int .i64 (w64 ((w64 (s21.2.2 + 1)) + 1))]) (j := s21.1) (x' := (Rule.mk x51.Name x51.From (w64 ((w64 (s21.2.2 + 1)) + 1)) x51.Joined x51.Rank x51.Mode x51.Nodes)) rfl (by kernel_rfl) 2 (by kernel_rfl) hx52 (Rc := []) (Rr := []) rfl (by kernel_rfl) (by rintro w c F Fs ⟨e0, a0, c0, F0, hF, rfl, q0⟩ _ hn; exact ⟨F, ⟨e0, a0, c0, F0, hF, rfl, q0⟩, (List.nodup_append.1 hn).1, fun g hg => by simp [hg]⟩) hm55 rfl ?_
     have hl57 := len_set hm55
     refine JO_keep [28, 1, 5, 0] (sl' := [(28, vi (w64 ((w64 (s21.2.2 + 1)) + 1))), (1, vi (w64 ((w64 (s21.2.2 + 1)) + 1))), (5, vi s21.1), (0, .v (.slice a0_0 l47.length c0_0))]) (by kernel_rfl) ?_
     refine JO_eqE (sl' := [(28, vi (w64 ((w64 (s21.2.2 + 1)) + 1))), (1, vi (w64 ((w64 (s21.2.2 + 1)) + 1))), (5, vi s21.1), (0, .v (.slice a0_0 l54.length c0_0))]) (bx' := []) (by simp only [hl57]) rfl ?_
     refine oe (nt (qs (qr (oN 3 [(1, vi (w64 ((w64 ((w64 (s21.2.2 + 1)) + 1)) + 1)))] [5, 0] ?_))))
     refine oe (nt (qs (qr (oN 3 [(35, vi (w64 ((w64 ((w64 (s21.2.2 + 1)) + 1)) + 1))), (34, vi s21.1), (33, .v (.slice a0_0 l54.length c0_0))] [1, 5, 0] ?_))))
     obtain ⟨x58, hx59, h60⟩ := bS h56
     refine oi 7 (fun γ w hs => (hs.view 0 rfl)) hx59 ?_
     refine oN 1 [(37, .q a0_0 (Int.toNat s21.1 * 7 + 3))] [35, 1, 5, 0] ?_
     obtain ⟨l61, hm62, h63⟩ := bS h60
     replace hm62 := (sI hm62).symm
     refine JO_storeq (α := Rule) (d := a0_0) (vs := [.int .i64 (w64 ((w64 ((w64 (s21.2.2 + 1)) + 1)) + 1))]) (j := s21.1) (x' := (Rule.mk x58.Name x58.From x58.To (w64 ((w64 ((w64 (s21.2.2 + 1)) + 1)) + 1)) x58.Rank x58.Mode x58.Nodes)) rfl (by kernel_rfl) 3 (by kernel_rfl) hx59 (Rc := []) (Rr := []) rfl (by kernel_rfl) (by rintro w c F Fs ⟨e0, a0, c0, F0, hF, rfl, q0⟩ _ hn; exact ⟨F, ⟨e0, a0, c0, F0, hF, rfl, q0⟩, (List.nodup_append.1 hn).1, fun g hg => by simp [hg]⟩) hm62 rfl ?_
     have hl64 := len_set hm62
     refine JO_keep [35, 1, 5, 0] (sl' := [(35, vi (w64 ((w64 ((w64 (s21.2.2 + 1)) + 1)) + 1))), (1, vi (w64 ((w64 ((w64 (s21.2.2 + 1)) + 1)) + 1))), (5, vi s21.1), (0, .v (.slice a0_0 l54.length c0_0))]) (by kernel_rfl) ?_
     refine JO_eqE (sl' := [(35, vi (w64 ((w64 ((w64 (s21.2.2 + 1)) + 1)) + 1))), (1, vi (w64 ((w64 ((w64 (s21.2.2 + 1)) + 1)) + 1))), (5, vi s21.1), (0, .v (.slice a0_0 l61.length c0_0))]) (bx' := []) (by simp only [hl64]) rfl ?_
     refine oe (nt (qs (qr (oN 3 [(1, vi (w64 ((w64 ((w64 ((w64 (s21.2.2 + 1)) + 1)) + 1)) + 1)))] [5, 0] ?_))))
     refine oe (nt (qs (qr (oN 3 [(42, vi (w64 ((w64 ((w64 ((w64 (s21.2.2 + 1)) + 1)) + 1)) + 1))), (41, vi s21.1), (40, .v (.slice a0_0 l61.length c0_0))] [1, 5, 0] ?_))))
     obtain ⟨x65, hx66, h67⟩ := bS h63
     refine oi 7 (fun γ w hs => (hs.view 0 rfl)) hx66 ?_
     refine oN 1 [(44, .q a0_0 (Int.toNat s21.1 * 7 + 4))] [42, 1, 5, 0] ?_
     obtain ⟨l68, hm69, h70⟩ := bS h67
     replace hm69 := (sI hm69).symm
     refine JO_storeq (α := Rule) (d := a0_0) (vs := [.int .i64 (w64 ((w64 ((w64 ((w64 (s21.2.2 + 1)) + 1)) + 1)) + 1))]) (j := s21.1) (x' := (Rule.mk x65.Name x65.From x65.To x65.Joined (w64 ((w64 ((w64 ((w64 (s21.2.2 + 1)) + 1)) + 1)) + 1)) x65.Mode x65.Nodes)) rfl (by kernel_rfl) 4 (by kernel_rfl) hx66 (Rc := []) (Rr := []) rfl (by kernel_rfl) (by rintro w c F Fs ⟨e0, a0, c0, F0, hF, rfl, q0⟩ _ hn; exact ⟨F, ⟨e0, a0, c0, F0, hF, rfl, q0⟩, (List.nodup_append.1 hn).1, fun g hg => by simp [hg]⟩) hm69 rfl ?_
     have hl71 := len_set hm69
     refine JO_keep [42, 1, 5, 0] (sl' := [(42, vi (w64 ((w64 ((w64 ((w64 (s21.2.2 + 1)) + 1)) + 1)) + 1))), (1, vi (w64 ((w64 ((w64 ((w64 (s21.2.2 + 1)) + 1)) + 1)) + 1))), (5, vi s21.1), (0, .v (.slice a0_0 l61.length c0_0))]) (by kernel_rfl) ?_
     refine JO_eqE (sl' := [(42, vi (w64 ((w64 ((w64 ((w64 (s21.2.2 + 1)) + 1)) + 1)) + 1))), (1, vi (w64 ((w64 ((w64 ((w64 (s21.2.2 + 1)) + 1)) + 1)) + 1))), (5, vi s21.1), (0, .v (.slice a0_0 l68.length c0_0))]) (bx' := []) (by simp only [hl71]) rfl ?_
     refine oe (nt (qs (qr (oN 3 [(1, vi (w64 ((w64 ((w64 ((w64 ((w64 (s21.2.2 + 1)) + 1)) + 1)) + 1)) + 1)))] [5, 0] ?_))))
     refine oe (nt (qs (qr (oN 3 [(49, vi (w64 ((w64 ((w64 ((w64 ((w64 (s21.2.2 + 1)) + 1)) + 1)) + 1)) + 1))), (48, vi s21.1), (47, .v (.slice a0_0 l68.length c0_0))] [1, 5, 0] ?_))))
     obtain ⟨x72, hx73, h74⟩ := bS h70
     refine oi 7 (fun γ w hs => (hs.view 0 rfl)) hx73 ?_
     refine oN 1 [(51, .q a0_0 (Int.toNat s21.1 * 7 + 5))] [49, 1, 5, 0] ?_
     obtain ⟨l75, hm76, h77⟩ := bS h74
     replace hm76 := (sI hm76).symm
     refine JO_storeq (α := Rule) (d := a0_0) (vs := [.int .i64 (w64 ((w64 ((w64 ((w64 ((w64 (s21.2.2 + 1)) + 1)) + 1)) + 1)) + 1))]) (j := s21.1) (x' := (Rule.mk x72.Name x72.From x72.To x72.Joined x72.Rank (w64 ((w64 ((w64 ((w64 ((w64 (s21.2.2 + 1)) + 1)) + 1)) + 1)) + 1)) x72.Nodes)) rfl (by kernel_rfl) 5 (by kernel_rfl) hx73 (Rc := []) (Rr := []) rfl (by kernel_rfl) (by rintro w c F Fs ⟨e0, a0, c0, F0, hF, rfl, q0⟩ _ hn; exact ⟨F, ⟨e0, a0, c0, F0, hF, rfl, q0⟩, (List.nodup_append.1 hn).1, fun g hg => by simp [hg]⟩) hm76 rfl ?_
     have hl78 := len_set hm76
     refine JO_keep [49, 1, 5, 0] (sl' := [(49, vi (w64 ((w64 ((w64 ((w64 ((w64 (s21.2.2 + 1)) + 1)) + 1)) + 1)) + 1))), (1, vi (w64 ((w64 ((w64 ((w64 ((w64 (s21.2.2 + 1)) + 1)) + 1)) + 1)) + 1))), (5, vi s21.1), (0, .v (.slice a0_0 l68.length c0_0))]) (by kernel_rfl) ?_
     refine JO_eqE (sl' := [(49, vi (w64 ((w64 ((w64 ((w64 ((w64 (s21.2.2 + 1)) + 1)) + 1)) + 1)) + 1))), (1, vi (w64 ((w64 ((w64 ((w64 ((w64 (s21.2.2 + 1)) + 1)) + 1)) + 1)) + 1))), (5, vi s21.1), (0, .v (.slice a0_0 l75.length c0_0))]) (bx' := []) (by simp only [hl78]) rfl ?_
     refine oe (nt (qs (qr (oN 3 [(1, vi (w64 ((w64 ((w64 ((w64 ((w64 ((w64 (s21.2.2 + 1)) + 1)) + 1)) + 1)) + 1)) + 1)))] [5, 0] ?_))))
     refine oe (nt (qr (oN 2 [(55, vi s21.1), (54, .v (.slice a0_0 l75.length c0_0))] [1, 5, 0] ?_)))
     obtain ⟨x79, hx80, h81⟩ := bS h77
     refine oi 7 (fun γ w hs => (hs.view 0 rfl)) hx80 ?_
     refine oN 1 [(57, .q a0_0 (Int.toNat s21.1 * 7 + 6))] [1, 5, 0] ?_
     refine JO_open1 (Rr := []) rfl hx80 (fun a83 c84 => [.int .i64 x79.Name, .int .i64 x79.From, .int .i64 x79.To, .int .i64 x79.Joined, .int .i64 x79.Rank, .int .i64 x79.Mode, .slice a83 x79.Nodes.length c84]) x79.Nodes (by rintro w F c ⟨e0, a0, c0, F0, rfl, rfl, h0⟩; exact ⟨e0, a0, c0, rfl, h0⟩) (fun e82 a83 c84 => ?_)
     refine ol 67 6 (.slice a83 x79.Nodes.length c84) (fun γ w hs => hs.holeCells 0 rfl hx80 rfl) ?_
     refine oN 1 [(59, vi (w64 ((w64 ((w64 ((w64 ((w64 ((w64 (s21.2.2 + 1)) + 1)) + 1)) + 1)) + 1)) + 1)))] [58, 5, 0] ?_
     refine or_ [1, 0] ?_
     obtain ⟨t85, h86, h87⟩ := bS h81
     obtain ⟨u89, hu90, h91⟩ := bS h87
     have hl92 := (sameLen_some hu90).symm
     refine JO_callM rfl (by kernel_rfl) (f := 88) (args := #[.slice a83 x79.Nodes.length c84, .int .i64 (w64 ((w64 ((w64 ((w64 ((w64 ((w64 (s21.2.2 + 1)) + 1)) + 1)) + 1)) + 1)) + 1))]) (by kernel_rfl) (x := .int .i64 t85.1) (Rin := [SlRes e82 x79.Nodes a83 c84]) (Rout := [SlRes e82 t85.2 a83 c84]) (Rr := [HoleRes e0_0 l75 a0_0 c0_0 (Int.toNat s21.1) [.int .i64 x79.Name, .int .i64 x79.From, .int .i64 x79.To, .int .i64 x79.Joined, .int .i64 x79.Rank, .int .i64 x79.Mode, .slice a83 x79.Nodes.length c84]]) rfl (fun w => (by have vv := c_laws_markNodeS (e0_0 := e82) (a0_0 := a83) (c0_0 := c84) (W := w) h86; exact vv)) (sl' := [(60, vi t85.1), (59, vi (w64 ((w64 ((w64 ((w64 ((w64 ((w64 (s21.2.2 + 1)) + 1)) + 1)) + 1)) + 1)) + 1))), (58, .v (.slice a83 x79.Nodes.length c84)), (5, vi s21.1), (0, .v (.slice a0_0 l75.length c0_0))]) (by kernel_rfl) ?_
     refine JO_eqE (sl' := [(60, vi t85.1), (59, vi (w64 ((w64 ((w64 ((w64 ((w64 ((w64 (s21.2.2 + 1)) + 1)) + 1)) + 1)) + 1)) + 1))), (58, .v (.slice a83 t85.2.length c84)), (5, vi s21.1), (0, .v (.slice a0_0 l75.length c0_0))]) (bx' := []) (by simp only [hl92]) rfl ?_
     obtain ⟨l93, hm94, h96⟩ := bS h91
     replace hm94 := (sI hm94).symm
     refine JO_close1 (Rr := []) (x' := (Rule.mk x79.Name x79.From x79.To x79.Joined x79.Rank x79.Mode t85.2)) rfl (fun w F hF => ⟨e82, a83, c84, F, rfl, by simp only [hl92], hF⟩) hm94 ?_
     have hl95 := len_set hm94
     refine JO_keep [60, 59, 5, 0] (sl' := [(60, vi t85.1), (59, vi (w64 ((w64 ((w64 ((w64 ((w64 ((w64 (s21.2.2 + 1)) + 1)) + 1)) + 1)) + 1)) + 1))), (5, vi s21.1), (0, .v (.slice a0_0 l75.length c0_0))]) (by kernel_rfl) ?_
     refine JO_eqE (sl' := [(60, vi t85.1), (59, vi (w64 ((w64 ((w64 ((w64 ((w64 ((w64 (s21.2.2 + 1)) + 1)) + 1)) + 1)) + 1)) + 1))), (5, vi s21.1), (0, .v (.slice a0_0 l93.length c0_0))]) (bx' := []) (by simp only [hl95]) rfl ?_
     refine oN 1 [(1, vi t85.1)] [5, 0] ?_
     refine oe (bn (nt (qr (oN 3 [(5, vi (w64 (s21.1 + 1)))] [1, 0] ?_))))
     exact oe (ct h96 () [5, 0, 1] [0] 0)
   refine qx (nx (nx (bh ?_)))
   have h97 := leafB hd30 h36 h26
   exact mp ((s21.2.1, s21.2.2), ()) h97 [0, 1] [0] 0
 have h33 := (congrFun hk28 _).symm.trans h33p
 refine nt (qs (qr (oN 2 [(4, vi y32.1.2)] [0] ?_)))
 refine oe (nt (qe (rt [.int .i64 y32.1.2] (fun γ w hs => ?_))))
 rw [← sI h33]
 exact hs.turned (is := [0]) rfl

theorem c_laws_markBook {W : World} {x0 : Book} {a0_0 : Option Addr} {c0_0 : Nat} {e0_0 : TypeId} {x1 : Int} {r : Int × (List Rule)} (h : laws_markBook x0 x1 = some r)  :
    GivesM Tryz.prog 77 #[vBook x0 (a0_0, c0_0), .int .i64 x1] W [SlRes e0_0 x0.Rules a0_0 c0_0] [SlRes e0_0 r.2 a0_0 c0_0] (.int .i64 r.1) := by
 unfold laws_markBook at h
 refine enM Tryz.func77 Tryz.ntmps77 (fun Fs => ?_)
 refine qs (qr (oB 2 [(2, .p 0 0)] [0, 1] [(42, (eBook x0 (a0_0, c0_0)))] ?_))
 refine oe (nt (qs (qr (oN 3 [(7, vi x1), (6, .v (.slice a0_0 x0.Rules.length c0_0))] [0] ?_))))
 obtain ⟨t21, h22, h23⟩ := bS h
 obtain ⟨u25, hu26, h27⟩ := bS h23
 have hl28 := (sameLen_some hu26).symm
 refine JO_callM rfl (by kernel_rfl) (f := 126) (args := #[.slice a0_0 x0.Rules.length c0_0, .int .i64 x1]) (by kernel_rfl) (x := .int .i64 t21.1) (Rin := [SlRes e0_0 x0.Rules a0_0 c0_0]) (Rout := [SlRes e0_0 t21.2 a0_0 c0_0]) (Rr := []) rfl (fun w => (by have vv := c_laws_markRuleS (e0_0 := e0_0) (a0_0 := a0_0) (c0_0 := c0_0) (W := w) h22; exact vv)) (sl' := [(8, vi t21.1), (7, vi x1), (6, .v (.slice a0_0 x0.Rules.length c0_0)), (0, .v (vBook x0 (a0_0, c0_0)))]) (by kernel_rfl) ?_
 refine JO_eqE (sl' := [(8, vi t21.1), (7, vi x1), (6, .v (.slice a0_0 t21.2.length c0_0)), (0, .v (vBook (Book.mk t21.2) (a0_0, c0_0)))]) (bx' := [(42, [.slice a0_0 t21.2.length c0_0])]) (by simp only [eBook, vBook, hl28]) (by simp only [eBook, vBook, hl28]) ?_
 refine oN 1 [(1, vi t21.1)] [0] ?_
 refine oe (nt (qs (qr (oN 2 [(4, vi t21.1)] [0] ?_))))
 refine oe (nt (qe (rt [.int .i64 t21.1] (fun γ w hs => ?_))))
 rw [← sI h27]
 exact hs.turned (is := [0]) rfl

theorem c_laws_markFactS {W : World} {x0 : List Fact} {a0_0 : Option Addr} {c0_0 : Nat} {e0_0 : TypeId} {x1 : Int} {r : Int × (List Fact)} (h : laws_markFactS x0 x1 = some r)  :
    GivesM Tryz.prog 127 #[.slice a0_0 x0.length c0_0, .int .i64 x1] W [SlRes e0_0 x0 a0_0 c0_0] [SlRes e0_0 r.2 a0_0 c0_0] (.int .i64 r.1) := by
 unfold laws_markFactS at h
 refine enM Tryz.func127 Tryz.ntmps127 (fun Fs => ?_)
 refine qs (qr (oN 1 [] [0, 1] ?_))
 refine oe (nt (qs (qs (qr (oN 1 [(5, vi 0)] [0, 1] ?_)))))
 refine oe (nt ?_)
 obtain ⟨r24, hL25, h26⟩ := bS h
 obtain ⟨k27, hk28, h26⟩ := brkS h26
 refine JC_cutP (τ := ((List Fact) × Int) × (Unit)) (fun y => k27 y.1 = some r) (fun y32 => [(0, .v (.slice a0_0 y32.1.1.length c0_0)), (1, vi y32.1.2)]) (fun y32 => []) (fun y32 => [SlRes e0_0 y32.1.1 a0_0 c0_0]) ?_ (fun y32 h33p => ?_)
 · refine qb (lp Unit hL25 (fun s21 y22 => [(5, vi s21.1), (0, .v (.slice a0_0 s21.2.1.length c0_0)), (1, vi s21.2.2)]) (fun s21 y22 => []) (fun s21 y22 => [SlRes e0_0 s21.2.1 a0_0 c0_0]) () [5, 0, 1] [0] 0 (fun s21 y22 t23 h29 hd30 => ?_))
   refine qs (qs (qr (oN 4 [(9, vb (decide (s21.1 < (s21.2.1.length : Int))))] [5, 0, 1] ?_)))
   refine oe (nt (cC h29 (fun h35 => ?_) (fun h36 => ?_)))
   · refine qk (nt (qs (qb (qs (qr (oN 3 [(14, vi s21.2.2), (13, vi s21.1), (12, .v (.slice a0_0 s21.2.1.length c0_0))] [5, 0, 1] ?_))))))
     obtain ⟨x37, hx38, h39⟩ := bS h35
     refine oi 5 (fun γ w hs => (hs.view 0 rfl)) hx38 ?_
     refine oN 1 [(16, .q a0_0 (Int.toNat s21.1 * 5))] [14, 5, 0, 1] ?_
     obtain ⟨l40, hm41, h42⟩ := bS h39
     replace hm41 := (sI hm41).symm
     refine JO_storeq (α := Fact) (d := a0_0) (vs := [.int .i64 s21.2.2]) (j := s21.1) (x' := (Fact.mk s21.2.2 x37.From x37.To x37.Known x37.Value)) rfl (by kernel_rfl) 0 (by kernel_rfl) hx38 (Rc := []) (Rr := []) rfl (by kernel_rfl) (fun w c F Fs ho _ _ => own_flat_set (by kernel_rfl) ho) hm41 rfl ?_
     have hl43 := len_set hm41
     refine JO_keep [14, 5, 0, 1] (sl' := [(14, vi s21.2.2), (5, vi s21.1), (0, .v (.slice a0_0 s21.2.1.length c0_0)), (1, vi s21.2.2)]) (by kernel_rfl) ?_
     refine JO_eqE (sl' := [(14, vi s21.2.2), (5, vi s21.1), (0, .v (.slice a0_0 l40.length c0_0)), (1, vi s21.2.2)]) (bx' := []) (by simp only [hl43]) rfl ?_
     refine oe (nt (qs (qr (oN 3 [(1, vi (w64 (s21.2.2 + 1)))] [5, 0] ?_))))
     refine oe (nt (qs (qr (oN 3 [(21, vi (w64 (s21.2.2 + 1))), (20, vi s21.1), (19, .v (.slice a0_0 l40.length c0_0))] [1, 5, 0] ?_))))
     obtain ⟨x44, hx45, h46⟩ := bS h42
     refine oi 5 (fun γ w hs => (hs.view 0 rfl)) hx45 ?_
     refine oN 1 [(23, .q a0_0 (Int.toNat s21.1 * 5 + 1))] [21, 1, 5, 0] ?_
     obtain ⟨l47, hm48, h49⟩ := bS h46
     replace hm48 := (sI hm48).symm
     refine JO_storeq (α := Fact) (d := a0_0) (vs := [.int .i64 (w64 (s21.2.2 + 1))]) (j := s21.1) (x' := (Fact.mk x44.Key (w64 (s21.2.2 + 1)) x44.To x44.Known x44.Value)) rfl (by kernel_rfl) 1 (by kernel_rfl) hx45 (Rc := []) (Rr := []) rfl (by kernel_rfl) (fun w c F Fs ho _ _ => own_flat_set (by kernel_rfl) ho) hm48 rfl ?_
     have hl50 := len_set hm48
     refine JO_keep [21, 1, 5, 0] (sl' := [(21, vi (w64 (s21.2.2 + 1))), (1, vi (w64 (s21.2.2 + 1))), (5, vi s21.1), (0, .v (.slice a0_0 l40.length c0_0))]) (by kernel_rfl) ?_
     refine JO_eqE (sl' := [(21, vi (w64 (s21.2.2 + 1))), (1, vi (w64 (s21.2.2 + 1))), (5, vi s21.1), (0, .v (.slice a0_0 l47.length c0_0))]) (bx' := []) (by simp only [hl50]) rfl ?_
     refine oe (nt (qs (qr (oN 3 [(1, vi (w64 ((w64 (s21.2.2 + 1)) + 1)))] [5, 0] ?_))))
     refine oe (nt (qs (qr (oN 3 [(28, vi (w64 ((w64 (s21.2.2 + 1)) + 1))), (27, vi s21.1), (26, .v (.slice a0_0 l47.length c0_0))] [1, 5, 0] ?_))))
     obtain ⟨x51, hx52, h53⟩ := bS h49
     refine oi 5 (fun γ w hs => (hs.view 0 rfl)) hx52 ?_
     refine oN 1 [(30, .q a0_0 (Int.toNat s21.1 * 5 + 2))] [28, 1, 5, 0] ?_
     obtain ⟨l54, hm55, h56⟩ := bS h53
     replace hm55 := (sI hm55).symm
     refine JO_storeq (α := Fact) (d := a0_0) (vs := [.int .i64 (w64 ((w64 (s21.2.2 + 1)) + 1))]) (j := s21.1) (x' := (Fact.mk x51.Key x51.From (w64 ((w64 (s21.2.2 + 1)) + 1)) x51.Known x51.Value)) rfl (by kernel_rfl) 2 (by kernel_rfl) hx52 (Rc := []) (Rr := []) rfl (by kernel_rfl) (fun w c F Fs ho _ _ => own_flat_set (by kernel_rfl) ho) hm55 rfl ?_
     have hl57 := len_set hm55
     refine JO_keep [28, 1, 5, 0] (sl' := [(28, vi (w64 ((w64 (s21.2.2 + 1)) + 1))), (1, vi (w64 ((w64 (s21.2.2 + 1)) + 1))), (5, vi s21.1), (0, .v (.slice a0_0 l47.length c0_0))]) (by kernel_rfl) ?_
     refine JO_eqE (sl' := [(28, vi (w64 ((w64 (s21.2.2 + 1)) + 1))), (1, vi (w64 ((w64 (s21.2.2 + 1)) + 1))), (5, vi s21.1), (0, .v (.slice a0_0 l54.length c0_0))]) (bx' := []) (by simp only [hl57]) rfl ?_
     refine oe (nt (qs (qr (oN 3 [(1, vi (w64 ((w64 ((w64 (s21.2.2 + 1)) + 1)) + 1)))] [5, 0] ?_))))
     refine oe (nt (qs (qr (oN 3 [(35, vi (w64 ((w64 ((w64 (s21.2.2 + 1)) + 1)) + 1))), (34, vi s21.1), (33, .v (.slice a0_0 l54.length c0_0))] [1, 5, 0] ?_))))
     obtain ⟨x58, hx59, h60⟩ := bS h56
     refine oi 5 (fun γ w hs => (hs.view 0 rfl)) hx59 ?_
     refine oN 1 [(37, .q a0_0 (Int.toNat s21.1 * 5 + 3))] [35, 1, 5, 0] ?_
     obtain ⟨l61, hm62, h63⟩ := bS h60
     replace hm62 := (sI hm62).symm
     refine JO_storeq (α := Fact) (d := a0_0) (vs := [.int .i64 (w64 ((w64 ((w64 (s21.2.2 + 1)) + 1)) + 1))]) (j := s21.1) (x' := (Fact.mk x58.Key x58.From x58.To (w64 ((w64 ((w64 (s21.2.2 + 1)) + 1)) + 1)) x58.Value)) rfl (by kernel_rfl) 3 (by kernel_rfl) hx59 (Rc := []) (Rr := []) rfl (by kernel_rfl) (fun w c F Fs ho _ _ => own_flat_set (by kernel_rfl) ho) hm62 rfl ?_
     have hl64 := len_set hm62
     refine JO_keep [35, 1, 5, 0] (sl' := [(35, vi (w64 ((w64 ((w64 (s21.2.2 + 1)) + 1)) + 1))), (1, vi (w64 ((w64 ((w64 (s21.2.2 + 1)) + 1)) + 1))), (5, vi s21.1), (0, .v (.slice a0_0 l54.length c0_0))]) (by kernel_rfl) ?_
     refine JO_eqE (sl' := [(35, vi (w64 ((w64 ((w64 (s21.2.2 + 1)) + 1)) + 1))), (1, vi (w64 ((w64 ((w64 (s21.2.2 + 1)) + 1)) + 1))), (5, vi s21.1), (0, .v (.slice a0_0 l61.length c0_0))]) (bx' := []) (by simp only [hl64]) rfl ?_
     refine oe (nt (qs (qr (oN 3 [(1, vi (w64 ((w64 ((w64 ((w64 (s21.2.2 + 1)) + 1)) + 1)) + 1)))] [5, 0] ?_))))
     refine oe (nt (qs (qr (oN 3 [(42, vi (w64 ((w64 ((w64 ((w64 (s21.2.2 + 1)) + 1)) + 1)) + 1))), (41, vi s21.1), (40, .v (.slice a0_0 l61.length c0_0))] [1, 5, 0] ?_))))
     obtain ⟨x65, hx66, h67⟩ := bS h63
     refine oi 5 (fun γ w hs => (hs.view 0 rfl)) hx66 ?_
     refine oN 1 [(44, .q a0_0 (Int.toNat s21.1 * 5 + 4))] [42, 1, 5, 0] ?_
     obtain ⟨l68, hm69, h70⟩ := bS h67
     replace hm69 := (sI hm69).symm
     refine JO_storeq (α := Fact) (d := a0_0) (vs := [.int .i64 (w64 ((w64 ((w64 ((w64 (s21.2.2 + 1)) + 1)) + 1)) + 1))]) (j := s21.1) (x' := (Fact.mk x65.Key x65.From x65.To x65.Known (w64 ((w64 ((w64 ((w64 (s21.2.2 + 1)) + 1)) + 1)) + 1)))) rfl (by kernel_rfl) 4 (by kernel_rfl) hx66 (Rc := []) (Rr := []) rfl (by kernel_rfl) (fun w c F Fs ho _ _ => own_flat_set (by kernel_rfl) ho) hm69 rfl ?_
     have hl71 := len_set hm69
     refine JO_keep [42, 1, 5, 0] (sl' := [(42, vi (w64 ((w64 ((w64 ((w64 (s21.2.2 + 1)) + 1)) + 1)) + 1))), (1, vi (w64 ((w64 ((w64 ((w64 (s21.2.2 + 1)) + 1)) + 1)) + 1))), (5, vi s21.1), (0, .v (.slice a0_0 l61.length c0_0))]) (by kernel_rfl) ?_
     refine JO_eqE (sl' := [(42, vi (w64 ((w64 ((w64 ((w64 (s21.2.2 + 1)) + 1)) + 1)) + 1))), (1, vi (w64 ((w64 ((w64 ((w64 (s21.2.2 + 1)) + 1)) + 1)) + 1))), (5, vi s21.1), (0, .v (.slice a0_0 l68.length c0_0))]) (bx' := []) (by simp only [hl71]) rfl ?_
     refine oe (nt (qr (oN 3 [(1, vi (w64 ((w64 ((w64 ((w64 ((w64 (s21.2.2 + 1)) + 1)) + 1)) + 1)) + 1)))] [5, 0] ?_)))
     refine oe (bn (nt (qr (oN 3 [(5, vi (w64 (s21.1 + 1)))] [1, 0] ?_))))
     exact oe (ct h70 () [5, 0, 1] [0] 0)
   refine qx (nx (nx (bh ?_)))
   have h72 := leafB hd30 h36 h26
   exact mp ((s21.2.1, s21.2.2), ()) h72 [0, 1] [0] 0
 have h33 := (congrFun hk28 _).symm.trans h33p
 refine nt (qs (qr (oN 2 [(4, vi y32.1.2)] [0] ?_)))
 refine oe (nt (qe (rt [.int .i64 y32.1.2] (fun γ w hs => ?_))))
 rw [← sI h33]
 exact hs.turned (is := [0]) rfl

theorem c_laws_markStore {W : World} {x0 : Store} {a0_0 : Option Addr} {c0_0 : Nat} {e0_0 : TypeId} {x1 : Int} {r : Int × (List Fact)} (h : laws_markStore x0 x1 = some r)  :
    GivesM Tryz.prog 78 #[vStore x0 (a0_0, c0_0), .int .i64 x1] W [SlRes e0_0 x0.Facts a0_0 c0_0] [SlRes e0_0 r.2 a0_0 c0_0] (.int .i64 r.1) := by
 unfold laws_markStore at h
 refine enM Tryz.func78 Tryz.ntmps78 (fun Fs => ?_)
 refine qs (qr (oB 2 [(2, .p 0 0)] [0, 1] [(45, (eStore x0 (a0_0, c0_0)))] ?_))
 refine oe (nt (qs (qr (oN 3 [(7, vi x1), (6, .v (.slice a0_0 x0.Facts.length c0_0))] [0] ?_))))
 obtain ⟨t21, h22, h23⟩ := bS h
 obtain ⟨u25, hu26, h27⟩ := bS h23
 have hl28 := (sameLen_some hu26).symm
 refine JO_callM rfl (by kernel_rfl) (f := 127) (args := #[.slice a0_0 x0.Facts.length c0_0, .int .i64 x1]) (by kernel_rfl) (x := .int .i64 t21.1) (Rin := [SlRes e0_0 x0.Facts a0_0 c0_0]) (Rout := [SlRes e0_0 t21.2 a0_0 c0_0]) (Rr := []) rfl (fun w => (by have vv := c_laws_markFactS (e0_0 := e0_0) (a0_0 := a0_0) (c0_0 := c0_0) (W := w) h22; exact vv)) (sl' := [(8, vi t21.1), (7, vi x1), (6, .v (.slice a0_0 x0.Facts.length c0_0)), (0, .v (vStore x0 (a0_0, c0_0)))]) (by kernel_rfl) ?_
 refine JO_eqE (sl' := [(8, vi t21.1), (7, vi x1), (6, .v (.slice a0_0 t21.2.length c0_0)), (0, .v (vStore (Store.mk t21.2) (a0_0, c0_0)))]) (bx' := [(45, [.slice a0_0 t21.2.length c0_0])]) (by simp only [eStore, vStore, hl28]) (by simp only [eStore, vStore, hl28]) ?_
 refine oN 1 [(1, vi t21.1)] [0] ?_
 refine oe (nt (qs (qr (oN 2 [(4, vi t21.1)] [0] ?_))))
 refine oe (nt (qe (rt [.int .i64 t21.1] (fun γ w hs => ?_))))
 rw [← sI h27]
 exact hs.turned (is := [0]) rfl

theorem c_laws_markPointS {W : World} {x0 : List Point} {a0_0 : Option Addr} {c0_0 : Nat} {e0_0 : TypeId} {x1 : Int} {r : Int × (List Point)} (h : laws_markPointS x0 x1 = some r)  :
    GivesM Tryz.prog 128 #[.slice a0_0 x0.length c0_0, .int .i64 x1] W [SlRes e0_0 x0 a0_0 c0_0] [SlRes e0_0 r.2 a0_0 c0_0] (.int .i64 r.1) := by
 unfold laws_markPointS at h
 refine enM Tryz.func128 Tryz.ntmps128 (fun Fs => ?_)
 refine qs (qr (oN 1 [] [0, 1] ?_))
 refine oe (nt (qs (qs (qr (oN 1 [(5, vi 0)] [0, 1] ?_)))))
 refine oe (nt ?_)
 obtain ⟨r24, hL25, h26⟩ := bS h
 obtain ⟨k27, hk28, h26⟩ := brkS h26
 refine JC_cutP (τ := ((List Point) × Int) × (Unit)) (fun y => k27 y.1 = some r) (fun y32 => [(0, .v (.slice a0_0 y32.1.1.length c0_0)), (1, vi y32.1.2)]) (fun y32 => []) (fun y32 => [SlRes e0_0 y32.1.1 a0_0 c0_0]) ?_ (fun y32 h33p => ?_)
 · refine qb (lp Unit hL25 (fun s21 y22 => [(5, vi s21.1), (0, .v (.slice a0_0 s21.2.1.length c0_0)), (1, vi s21.2.2)]) (fun s21 y22 => []) (fun s21 y22 => [SlRes e0_0 s21.2.1 a0_0 c0_0]) () [5, 0, 1] [0] 0 (fun s21 y22 t23 h29 hd30 => ?_))
   refine qs (qs (qr (oN 4 [(9, vb (decide (s21.1 < (s21.2.1.length : Int))))] [5, 0, 1] ?_)))
   refine oe (nt (cC h29 (fun h35 => ?_) (fun h36 => ?_)))
   · refine qk (nt (qs (qb (qs (qr (oN 3 [(14, vi s21.2.2), (13, vi s21.1), (12, .v (.slice a0_0 s21.2.1.length c0_0))] [5, 0, 1] ?_))))))
     obtain ⟨x37, hx38, h39⟩ := bS h35
     refine oi 3 (fun γ w hs => (hs.view 0 rfl)) hx38 ?_
     refine oN 1 [(16, .q a0_0 (Int.toNat s21.1 * 3))] [14, 5, 0, 1] ?_
     obtain ⟨l40, hm41, h42⟩ := bS h39
     replace hm41 := (sI hm41).symm
     refine JO_storeq (α := Point) (d := a0_0) (vs := [.int .i64 s21.2.2]) (j := s21.1) (x' := (Point.mk s21.2.2 x37.Known x37.Value)) rfl (by kernel_rfl) 0 (by kernel_rfl) hx38 (Rc := []) (Rr := []) rfl (by kernel_rfl) (fun w c F Fs ho _ _ => own_flat_set (by kernel_rfl) ho) hm41 rfl ?_
     have hl43 := len_set hm41
     refine JO_keep [14, 5, 0, 1] (sl' := [(14, vi s21.2.2), (5, vi s21.1), (0, .v (.slice a0_0 s21.2.1.length c0_0)), (1, vi s21.2.2)]) (by kernel_rfl) ?_
     refine JO_eqE (sl' := [(14, vi s21.2.2), (5, vi s21.1), (0, .v (.slice a0_0 l40.length c0_0)), (1, vi s21.2.2)]) (bx' := []) (by simp only [hl43]) rfl ?_
     refine oe (nt (qs (qr (oN 3 [(1, vi (w64 (s21.2.2 + 1)))] [5, 0] ?_))))
     refine oe (nt (qs (qr (oN 3 [(21, vi (w64 (s21.2.2 + 1))), (20, vi s21.1), (19, .v (.slice a0_0 l40.length c0_0))] [1, 5, 0] ?_))))
     obtain ⟨x44, hx45, h46⟩ := bS h42
     refine oi 3 (fun γ w hs => (hs.view 0 rfl)) hx45 ?_
     refine oN 1 [(23, .q a0_0 (Int.toNat s21.1 * 3 + 1))] [21, 1, 5, 0] ?_
     obtain ⟨l47, hm48, h49⟩ := bS h46
     replace hm48 := (sI hm48).symm
     refine JO_storeq (α := Point) (d := a0_0) (vs := [.int .i64 (w64 (s21.2.2 + 1))]) (j := s21.1) (x' := (Point.mk x44.Month (w64 (s21.2.2 + 1)) x44.Value)) rfl (by kernel_rfl) 1 (by kernel_rfl) hx45 (Rc := []) (Rr := []) rfl (by kernel_rfl) (fun w c F Fs ho _ _ => own_flat_set (by kernel_rfl) ho) hm48 rfl ?_
     have hl50 := len_set hm48
     refine JO_keep [21, 1, 5, 0] (sl' := [(21, vi (w64 (s21.2.2 + 1))), (1, vi (w64 (s21.2.2 + 1))), (5, vi s21.1), (0, .v (.slice a0_0 l40.length c0_0))]) (by kernel_rfl) ?_
     refine JO_eqE (sl' := [(21, vi (w64 (s21.2.2 + 1))), (1, vi (w64 (s21.2.2 + 1))), (5, vi s21.1), (0, .v (.slice a0_0 l47.length c0_0))]) (bx' := []) (by simp only [hl50]) rfl ?_
     refine oe (nt (qs (qr (oN 3 [(1, vi (w64 ((w64 (s21.2.2 + 1)) + 1)))] [5, 0] ?_))))
     refine oe (nt (qs (qr (oN 3 [(28, vi (w64 ((w64 (s21.2.2 + 1)) + 1))), (27, vi s21.1), (26, .v (.slice a0_0 l47.length c0_0))] [1, 5, 0] ?_))))
     obtain ⟨x51, hx52, h53⟩ := bS h49
     refine oi 3 (fun γ w hs => (hs.view 0 rfl)) hx52 ?_
     refine oN 1 [(30, .q a0_0 (Int.toNat s21.1 * 3 + 2))] [28, 1, 5, 0] ?_
     obtain ⟨l54, hm55, h56⟩ := bS h53
     replace hm55 := (sI hm55).symm
     refine JO_storeq (α := Point) (d := a0_0) (vs := [.int .i64 (w64 ((w64 (s21.2.2 + 1)) + 1))]) (j := s21.1) (x' := (Point.mk x51.Month x51.Known (w64 ((w64 (s21.2.2 + 1)) + 1)))) rfl (by kernel_rfl) 2 (by kernel_rfl) hx52 (Rc := []) (Rr := []) rfl (by kernel_rfl) (fun w c F Fs ho _ _ => own_flat_set (by kernel_rfl) ho) hm55 rfl ?_
     have hl57 := len_set hm55
     refine JO_keep [28, 1, 5, 0] (sl' := [(28, vi (w64 ((w64 (s21.2.2 + 1)) + 1))), (1, vi (w64 ((w64 (s21.2.2 + 1)) + 1))), (5, vi s21.1), (0, .v (.slice a0_0 l47.length c0_0))]) (by kernel_rfl) ?_
     refine JO_eqE (sl' := [(28, vi (w64 ((w64 (s21.2.2 + 1)) + 1))), (1, vi (w64 ((w64 (s21.2.2 + 1)) + 1))), (5, vi s21.1), (0, .v (.slice a0_0 l54.length c0_0))]) (bx' := []) (by simp only [hl57]) rfl ?_
     refine oe (nt (qr (oN 3 [(1, vi (w64 ((w64 ((w64 (s21.2.2 + 1)) + 1)) + 1)))] [5, 0] ?_)))
     refine oe (bn (nt (qr (oN 3 [(5, vi (w64 (s21.1 + 1)))] [1, 0] ?_))))
     exact oe (ct h56 () [5, 0, 1] [0] 0)
   refine qx (nx (nx (bh ?_)))
   have h58 := leafB hd30 h36 h26
   exact mp ((s21.2.1, s21.2.2), ()) h58 [0, 1] [0] 0
 have h33 := (congrFun hk28 _).symm.trans h33p
 refine nt (qs (qr (oN 2 [(4, vi y32.1.2)] [0] ?_)))
 refine oe (nt (qe (rt [.int .i64 y32.1.2] (fun γ w hs => ?_))))
 rw [← sI h33]
 exact hs.turned (is := [0]) rfl

theorem c_laws_markSeries {W : World} {x0 : Series} {a0_0 : Option Addr} {c0_0 : Nat} {e0_0 : TypeId} {x1 : Int} {r : Int × (List Point)} (h : laws_markSeries x0 x1 = some r)  :
    GivesM Tryz.prog 79 #[vSeries x0 (a0_0, c0_0), .int .i64 x1] W [SlRes e0_0 x0.Points a0_0 c0_0] [SlRes e0_0 r.2 a0_0 c0_0] (.int .i64 r.1) := by
 unfold laws_markSeries at h
 refine enM Tryz.func79 Tryz.ntmps79 (fun Fs => ?_)
 refine qs (qr (oB 2 [(2, .p 0 0)] [0, 1] [(48, (eSeries x0 (a0_0, c0_0)))] ?_))
 refine oe (nt (qs (qr (oN 3 [(7, vi x1), (6, .v (.slice a0_0 x0.Points.length c0_0))] [0] ?_))))
 obtain ⟨t21, h22, h23⟩ := bS h
 obtain ⟨u25, hu26, h27⟩ := bS h23
 have hl28 := (sameLen_some hu26).symm
 refine JO_callM rfl (by kernel_rfl) (f := 128) (args := #[.slice a0_0 x0.Points.length c0_0, .int .i64 x1]) (by kernel_rfl) (x := .int .i64 t21.1) (Rin := [SlRes e0_0 x0.Points a0_0 c0_0]) (Rout := [SlRes e0_0 t21.2 a0_0 c0_0]) (Rr := []) rfl (fun w => (by have vv := c_laws_markPointS (e0_0 := e0_0) (a0_0 := a0_0) (c0_0 := c0_0) (W := w) h22; exact vv)) (sl' := [(8, vi t21.1), (7, vi x1), (6, .v (.slice a0_0 x0.Points.length c0_0)), (0, .v (vSeries x0 (a0_0, c0_0)))]) (by kernel_rfl) ?_
 refine JO_eqE (sl' := [(8, vi t21.1), (7, vi x1), (6, .v (.slice a0_0 t21.2.length c0_0)), (0, .v (.agg #[.slice a0_0 t21.2.length c0_0]))]) (bx' := [(48, [.slice a0_0 t21.2.length c0_0])]) (by simp only [eSeries, vSeries, hl28]) (by simp only [eSeries, vSeries, hl28]) ?_
 refine oN 1 [(1, vi t21.1)] [0] ?_
 refine oe (nt (qs (qr (oN 2 [(4, vi t21.1)] [0] ?_))))
 refine oe (nt (qe (rt [.int .i64 t21.1] (fun γ w hs => ?_))))
 rw [← sI h27]
 exact hs.turned (is := [0]) rfl

theorem c_laws_markSpellS {W : World} {x0 : List Spell} {a0_0 : Option Addr} {c0_0 : Nat} {e0_0 : TypeId} {x1 : Int} {r : Int × (List Spell)} (h : laws_markSpellS x0 x1 = some r)  :
    GivesM Tryz.prog 129 #[.slice a0_0 x0.length c0_0, .int .i64 x1] W [SlRes e0_0 x0 a0_0 c0_0] [SlRes e0_0 r.2 a0_0 c0_0] (.int .i64 r.1) := by
 unfold laws_markSpellS at h
 refine enM Tryz.func129 Tryz.ntmps129 (fun Fs => ?_)
 refine qs (qr (oN 1 [] [0, 1] ?_))
 refine oe (nt (qs (qs (qr (oN 1 [(5, vi 0)] [0, 1] ?_)))))
 refine oe (nt ?_)
 obtain ⟨r24, hL25, h26⟩ := bS h
 obtain ⟨k27, hk28, h26⟩ := brkS h26
 refine JC_cutP (τ := ((List Spell) × Int) × (Unit)) (fun y => k27 y.1 = some r) (fun y32 => [(0, .v (.slice a0_0 y32.1.1.length c0_0)), (1, vi y32.1.2)]) (fun y32 => []) (fun y32 => [SlRes e0_0 y32.1.1 a0_0 c0_0]) ?_ (fun y32 h33p => ?_)
 · refine qb (lp Unit hL25 (fun s21 y22 => [(5, vi s21.1), (0, .v (.slice a0_0 s21.2.1.length c0_0)), (1, vi s21.2.2)]) (fun s21 y22 => []) (fun s21 y22 => [SlRes e0_0 s21.2.1 a0_0 c0_0]) () [5, 0, 1] [0] 0 (fun s21 y22 t23 h29 hd30 => ?_))
   refine qs (qs (qr (oN 4 [(9, vb (decide (s21.1 < (s21.2.1.length : Int))))] [5, 0, 1] ?_)))
   refine oe (nt (cC h29 (fun h35 => ?_) (fun h36 => ?_)))
   · refine qk (nt (qs (qb (qs (qr (oN 3 [(14, vi s21.2.2), (13, vi s21.1), (12, .v (.slice a0_0 s21.2.1.length c0_0))] [5, 0, 1] ?_))))))
     obtain ⟨x37, hx38, h39⟩ := bS h35
     refine oi 4 (fun γ w hs => (hs.view 0 rfl)) hx38 ?_
     refine oN 1 [(16, .q a0_0 (Int.toNat s21.1 * 4))] [14, 5, 0, 1] ?_
     obtain ⟨l40, hm41, h42⟩ := bS h39
     replace hm41 := (sI hm41).symm
     refine JO_storeq (α := Spell) (d := a0_0) (vs := [.int .i64 s21.2.2]) (j := s21.1) (x' := (Spell.mk s21.2.2 x37.To x37.Percent x37.Leave)) rfl (by kernel_rfl) 0 (by kernel_rfl) hx38 (Rc := []) (Rr := []) rfl (by kernel_rfl) (fun w c F Fs ho _ _ => own_flat_set (by kernel_rfl) ho) hm41 rfl ?_
     have hl43 := len_set hm41
     refine JO_keep [14, 5, 0, 1] (sl' := [(14, vi s21.2.2), (5, vi s21.1), (0, .v (.slice a0_0 s21.2.1.length c0_0)), (1, vi s21.2.2)]) (by kernel_rfl) ?_
     refine JO_eqE (sl' := [(14, vi s21.2.2), (5, vi s21.1), (0, .v (.slice a0_0 l40.length c0_0)), (1, vi s21.2.2)]) (bx' := []) (by simp only [hl43]) rfl ?_
     refine oe (nt (qs (qr (oN 3 [(1, vi (w64 (s21.2.2 + 1)))] [5, 0] ?_))))
     refine oe (nt (qs (qr (oN 3 [(21, vi (w64 (s21.2.2 + 1))), (20, vi s21.1), (19, .v (.slice a0_0 l40.length c0_0))] [1, 5, 0] ?_))))
     obtain ⟨x44, hx45, h46⟩ := bS h42
     refine oi 4 (fun γ w hs => (hs.view 0 rfl)) hx45 ?_
     refine oN 1 [(23, .q a0_0 (Int.toNat s21.1 * 4 + 1))] [21, 1, 5, 0] ?_
     obtain ⟨l47, hm48, h49⟩ := bS h46
     replace hm48 := (sI hm48).symm
     refine JO_storeq (α := Spell) (d := a0_0) (vs := [.int .i64 (w64 (s21.2.2 + 1))]) (j := s21.1) (x' := (Spell.mk x44.From (w64 (s21.2.2 + 1)) x44.Percent x44.Leave)) rfl (by kernel_rfl) 1 (by kernel_rfl) hx45 (Rc := []) (Rr := []) rfl (by kernel_rfl) (fun w c F Fs ho _ _ => own_flat_set (by kernel_rfl) ho) hm48 rfl ?_
     have hl50 := len_set hm48
     refine JO_keep [21, 1, 5, 0] (sl' := [(21, vi (w64 (s21.2.2 + 1))), (1, vi (w64 (s21.2.2 + 1))), (5, vi s21.1), (0, .v (.slice a0_0 l40.length c0_0))]) (by kernel_rfl) ?_
     refine JO_eqE (sl' := [(21, vi (w64 (s21.2.2 + 1))), (1, vi (w64 (s21.2.2 + 1))), (5, vi s21.1), (0, .v (.slice a0_0 l47.length c0_0))]) (bx' := []) (by simp only [hl50]) rfl ?_
     refine oe (nt (qs (qr (oN 3 [(1, vi (w64 ((w64 (s21.2.2 + 1)) + 1)))] [5, 0] ?_))))
     refine oe (nt (qs (qr (oN 3 [(28, vi (w64 ((w64 (s21.2.2 + 1)) + 1))), (27, vi s21.1), (26, .v (.slice a0_0 l47.length c0_0))] [1, 5, 0] ?_))))
     obtain ⟨x51, hx52, h53⟩ := bS h49
     refine oi 4 (fun γ w hs => (hs.view 0 rfl)) hx52 ?_
     refine oN 1 [(30, .q a0_0 (Int.toNat s21.1 * 4 + 2))] [28, 1, 5, 0] ?_
     obtain ⟨l54, hm55, h56⟩ := bS h53
     replace hm55 := (sI hm55).symm
     refine JO_storeq (α := Spell) (d := a0_0) (vs := [.int .i64 (w64 ((w64 (s21.2.2 + 1)) + 1))]) (j := s21.1) (x' := (Spell.mk x51.From x51.To (w64 ((w64 (s21.2.2 + 1)) + 1)) x51.Leave)) rfl (by kernel_rfl) 2 (by kernel_rfl) hx52 (Rc := []) (Rr := []) rfl (by kernel_rfl) (fun w c F Fs ho _ _ => own_flat_set (by kernel_rfl) ho) hm55 rfl ?_
     have hl57 := len_set hm55
     refine JO_keep [28, 1, 5, 0] (sl' := [(28, vi (w64 ((w64 (s21.2.2 + 1)) + 1))), (1, vi (w64 ((w64 (s21.2.2 + 1)) + 1))), (5, vi s21.1), (0, .v (.slice a0_0 l47.length c0_0))]) (by kernel_rfl) ?_
     refine JO_eqE (sl' := [(28, vi (w64 ((w64 (s21.2.2 + 1)) + 1))), (1, vi (w64 ((w64 (s21.2.2 + 1)) + 1))), (5, vi s21.1), (0, .v (.slice a0_0 l54.length c0_0))]) (bx' := []) (by simp only [hl57]) rfl ?_
     refine oe (nt (qs (qr (oN 3 [(1, vi (w64 ((w64 ((w64 (s21.2.2 + 1)) + 1)) + 1)))] [5, 0] ?_))))
     refine oe (nt (qs (qr (oN 5 [(37, vb ((Int.tmod (w64 ((w64 ((w64 (s21.2.2 + 1)) + 1)) + 1)) 3) == 0)), (34, vi s21.1), (33, .v (.slice a0_0 l54.length c0_0))] [1, 5, 0] ?_))))
     obtain ⟨x58, hx59, h60⟩ := bS h56
     refine oi 4 (fun γ w hs => (hs.view 0 rfl)) hx59 ?_
     refine oN 1 [(39, .q a0_0 (Int.toNat s21.1 * 4 + 3))] [37, 1, 5, 0] ?_
     obtain ⟨l61, hm62, h63⟩ := bS h60
     replace hm62 := (sI hm62).symm
     refine JO_storeq (α := Spell) (d := a0_0) (vs := [.bool ((Int.tmod (w64 ((w64 ((w64 (s21.2.2 + 1)) + 1)) + 1)) 3) == 0)]) (j := s21.1) (x' := (Spell.mk x58.From x58.To x58.Percent ((Int.tmod (w64 ((w64 ((w64 (s21.2.2 + 1)) + 1)) + 1)) 3) == 0))) rfl (by kernel_rfl) 3 (by kernel_rfl) hx59 (Rc := []) (Rr := []) rfl (by kernel_rfl) (fun w c F Fs ho _ _ => own_flat_set (by kernel_rfl) ho) hm62 rfl ?_
     have hl64 := len_set hm62
     refine JO_keep [37, 1, 5, 0] (sl' := [(37, vb ((Int.tmod (w64 ((w64 ((w64 (s21.2.2 + 1)) + 1)) + 1)) 3) == 0)), (1, vi (w64 ((w64 ((w64 (s21.2.2 + 1)) + 1)) + 1))), (5, vi s21.1), (0, .v (.slice a0_0 l54.length c0_0))]) (by kernel_rfl) ?_
     refine JO_eqE (sl' := [(37, vb ((Int.tmod (w64 ((w64 ((w64 (s21.2.2 + 1)) + 1)) + 1)) 3) == 0)), (1, vi (w64 ((w64 ((w64 (s21.2.2 + 1)) + 1)) + 1))), (5, vi s21.1), (0, .v (.slice a0_0 l61.length c0_0))]) (bx' := []) (by simp only [hl64]) rfl ?_
     refine oe (nt (qr (oN 3 [(1, vi (w64 ((w64 ((w64 ((w64 (s21.2.2 + 1)) + 1)) + 1)) + 1)))] [5, 0] ?_)))
     refine oe (bn (nt (qr (oN 3 [(5, vi (w64 (s21.1 + 1)))] [1, 0] ?_))))
     exact oe (ct h63 () [5, 0, 1] [0] 0)
   refine qx (nx (nx (bh ?_)))
   have h65 := leafB hd30 h36 h26
   exact mp ((s21.2.1, s21.2.2), ()) h65 [0, 1] [0] 0
 have h33 := (congrFun hk28 _).symm.trans h33p
 refine nt (qs (qr (oN 2 [(4, vi y32.1.2)] [0] ?_)))
 refine oe (nt (qe (rt [.int .i64 y32.1.2] (fun γ w hs => ?_))))
 rw [← sI h33]
 exact hs.turned (is := [0]) rfl

theorem c_laws_markEventS {W : World} {x0 : List Event} {a0_0 : Option Addr} {c0_0 : Nat} {e0_0 : TypeId} {x1 : Int} {r : Int × (List Event)} (h : laws_markEventS x0 x1 = some r)  :
    GivesM Tryz.prog 130 #[.slice a0_0 x0.length c0_0, .int .i64 x1] W [SlRes e0_0 x0 a0_0 c0_0] [SlRes e0_0 r.2 a0_0 c0_0] (.int .i64 r.1) := by
 unfold laws_markEventS at h
 refine enM Tryz.func130 Tryz.ntmps130 (fun Fs => ?_)
 refine qs (qr (oN 1 [] [0, 1] ?_))
 refine oe (nt (qs (qs (qr (oN 1 [(5, vi 0)] [0, 1] ?_)))))
 refine oe (nt ?_)
 obtain ⟨r24, hL25, h26⟩ := bS h
 obtain ⟨k27, hk28, h26⟩ := brkS h26
 refine JC_cutP (τ := ((List Event) × Int) × (Unit)) (fun y => k27 y.1 = some r) (fun y32 => [(0, .v (.slice a0_0 y32.1.1.length c0_0)), (1, vi y32.1.2)]) (fun y32 => []) (fun y32 => [SlRes e0_0 y32.1.1 a0_0 c0_0]) ?_ (fun y32 h33p => ?_)
 · refine qb (lp Unit hL25 (fun s21 y22 => [(5, vi s21.1), (0, .v (.slice a0_0 s21.2.1.length c0_0)), (1, vi s21.2.2)]) (fun s21 y22 => []) (fun s21 y22 => [SlRes e0_0 s21.2.1 a0_0 c0_0]) () [5, 0, 1] [0] 0 (fun s21 y22 t23 h29 hd30 => ?_))
   refine qs (qs (qr (oN 4 [(9, vb (decide (s21.1 < (s21.2.1.length : Int))))] [5, 0, 1] ?_)))
   refine oe (nt (cC h29 (fun h35 => ?_) (fun h36 => ?_)))
   · refine qk (nt (qs (qb (qs (qr (oN 3 [(14, vi s21.2.2), (13, vi s21.1), (12, .v (.slice a0_0 s21.2.1.length c0_0))] [5, 0, 1] ?_))))))
     obtain ⟨x37, hx38, h39⟩ := bS h35
     refine oi 2 (fun γ w hs => (hs.view 0 rfl)) hx38 ?_
     refine oN 1 [(16, .q a0_0 (Int.toNat s21.1 * 2))] [14, 5, 0, 1] ?_
     obtain ⟨l40, hm41, h42⟩ := bS h39
     replace hm41 := (sI hm41).symm
     refine JO_storeq (α := Event) (d := a0_0) (vs := [.int .i64 s21.2.2]) (j := s21.1) (x' := (Event.mk s21.2.2 x37.Month)) rfl (by kernel_rfl) 0 (by kernel_rfl) hx38 (Rc := []) (Rr := []) rfl (by kernel_rfl) (fun w c F Fs ho _ _ => own_flat_set (by kernel_rfl) ho) hm41 rfl ?_
     have hl43 := len_set hm41
     refine JO_keep [14, 5, 0, 1] (sl' := [(14, vi s21.2.2), (5, vi s21.1), (0, .v (.slice a0_0 s21.2.1.length c0_0)), (1, vi s21.2.2)]) (by kernel_rfl) ?_
     refine JO_eqE (sl' := [(14, vi s21.2.2), (5, vi s21.1), (0, .v (.slice a0_0 l40.length c0_0)), (1, vi s21.2.2)]) (bx' := []) (by simp only [hl43]) rfl ?_
     refine oe (nt (qs (qr (oN 3 [(1, vi (w64 (s21.2.2 + 1)))] [5, 0] ?_))))
     refine oe (nt (qs (qr (oN 3 [(21, vi (w64 (s21.2.2 + 1))), (20, vi s21.1), (19, .v (.slice a0_0 l40.length c0_0))] [1, 5, 0] ?_))))
     obtain ⟨x44, hx45, h46⟩ := bS h42
     refine oi 2 (fun γ w hs => (hs.view 0 rfl)) hx45 ?_
     refine oN 1 [(23, .q a0_0 (Int.toNat s21.1 * 2 + 1))] [21, 1, 5, 0] ?_
     obtain ⟨l47, hm48, h49⟩ := bS h46
     replace hm48 := (sI hm48).symm
     refine JO_storeq (α := Event) (d := a0_0) (vs := [.int .i64 (w64 (s21.2.2 + 1))]) (j := s21.1) (x' := (Event.mk x44.Kind (w64 (s21.2.2 + 1)))) rfl (by kernel_rfl) 1 (by kernel_rfl) hx45 (Rc := []) (Rr := []) rfl (by kernel_rfl) (fun w c F Fs ho _ _ => own_flat_set (by kernel_rfl) ho) hm48 rfl ?_
     have hl50 := len_set hm48
     refine JO_keep [21, 1, 5, 0] (sl' := [(21, vi (w64 (s21.2.2 + 1))), (1, vi (w64 (s21.2.2 + 1))), (5, vi s21.1), (0, .v (.slice a0_0 l40.length c0_0))]) (by kernel_rfl) ?_
     refine JO_eqE (sl' := [(21, vi (w64 (s21.2.2 + 1))), (1, vi (w64 (s21.2.2 + 1))), (5, vi s21.1), (0, .v (.slice a0_0 l47.length c0_0))]) (bx' := []) (by simp only [hl50]) rfl ?_
     refine oe (nt (qr (oN 3 [(1, vi (w64 ((w64 (s21.2.2 + 1)) + 1)))] [5, 0] ?_)))
     refine oe (bn (nt (qr (oN 3 [(5, vi (w64 (s21.1 + 1)))] [1, 0] ?_))))
     exact oe (ct h49 () [5, 0, 1] [0] 0)
   refine qx (nx (nx (bh ?_)))
   have h51 := leafB hd30 h36 h26
   exact mp ((s21.2.1, s21.2.2), ()) h51 [0, 1] [0] 0
 have h33 := (congrFun hk28 _).symm.trans h33p
 refine nt (qs (qr (oN 2 [(4, vi y32.1.2)] [0] ?_)))
 refine oe (nt (qe (rt [.int .i64 y32.1.2] (fun γ w hs => ?_))))
 rw [← sI h33]
 exact hs.turned (is := [0]) rfl

theorem c_laws_markMember {W : World} {x0 : Member} {a0_0 : Option Addr} {c0_0 : Nat} {e0_0 : TypeId} {a0_1 : Option Addr} {c0_1 : Nat} {e0_1 : TypeId} {x1 : Int} {r : Int × (List Spell) × (List Event)} (h : laws_markMember x0 x1 = some r)  :
    GivesM Tryz.prog 80 #[vMember x0 ((a0_0, c0_0), (a0_1, c0_1)), .int .i64 x1] W [SlRes e0_0 x0.Spells a0_0 c0_0, SlRes e0_1 x0.Events a0_1 c0_1] [SlRes e0_0 r.2.1 a0_0 c0_0, SlRes e0_1 r.2.2 a0_1 c0_1] (.int .i64 r.1) := by
 unfold laws_markMember at h
 refine enM Tryz.func80 Tryz.ntmps80 (fun Fs => ?_)
 refine qs (qr (oB 2 [(2, .p 0 0)] [0, 1] [(52, (eMember x0 ((a0_0, c0_0), (a0_1, c0_1))))] ?_))
 refine oe (nt (qs (qr (oN 3 [(7, vi x1), (6, .v (.slice a0_0 x0.Spells.length c0_0))] [2, 0] ?_))))
 obtain ⟨t21, h22, h23⟩ := bS h
 obtain ⟨u25, hu26, h27⟩ := bS h23
 have hl28 := (sameLen_some hu26).symm
 refine JO_callM rfl (by kernel_rfl) (f := 129) (args := #[.slice a0_0 x0.Spells.length c0_0, .int .i64 x1]) (by kernel_rfl) (x := .int .i64 t21.1) (Rin := [SlRes e0_0 x0.Spells a0_0 c0_0]) (Rout := [SlRes e0_0 t21.2 a0_0 c0_0]) (Rr := [SlRes e0_1 x0.Events a0_1 c0_1]) rfl (fun w => (by have vv := c_laws_markSpellS (e0_0 := e0_0) (a0_0 := a0_0) (c0_0 := c0_0) (W := w) h22; exact vv)) (sl' := [(8, vi t21.1), (7, vi x1), (6, .v (.slice a0_0 x0.Spells.length c0_0)), (2, .p 0 0), (0, .v (vMember x0 ((a0_0, c0_0), (a0_1, c0_1))))]) (by kernel_rfl) ?_
 refine JO_eqE (sl' := [(8, vi t21.1), (7, vi x1), (6, .v (.slice a0_0 t21.2.length c0_0)), (2, .p 0 0), (0, .v (vMember (Member.mk x0.Birth x0.Joined t21.2 x0.Events) ((a0_0, c0_0), (a0_1, c0_1))))]) (bx' := [(52, (eMember (Member.mk x0.Birth x0.Joined t21.2 x0.Events) ((a0_0, c0_0), (a0_1, c0_1))))]) (by simp only [eMember, vMember, hl28]) (by simp only [eMember, vMember, hl28]) ?_
 refine oN 1 [(1, vi t21.1)] [2, 0] ?_
 refine oe (nt (qs (qr (oN 3 [(11, vi t21.1), (10, .v (.slice a0_1 x0.Events.length c0_1))] [0] ?_))))
 refine or_ [1, 0] ?_
 obtain ⟨t29, h30, h31⟩ := bS h27
 obtain ⟨u33, hu34, h35⟩ := bS h31
 have hl36 := (sameLen_some hu34).symm
 refine JO_callM rfl (by kernel_rfl) (f := 130) (args := #[.slice a0_1 x0.Events.length c0_1, .int .i64 t21.1]) (by kernel_rfl) (x := .int .i64 t29.1) (Rin := [SlRes e0_1 x0.Events a0_1 c0_1]) (Rout := [SlRes e0_1 t29.2 a0_1 c0_1]) (Rr := [SlRes e0_0 t21.2 a0_0 c0_0]) rfl (fun w => (by have vv := c_laws_markEventS (e0_0 := e0_1) (a0_0 := a0_1) (c0_0 := c0_1) (W := w) h30; exact vv)) (sl' := [(12, vi t29.1), (11, vi t21.1), (10, .v (.slice a0_1 x0.Events.length c0_1)), (0, .v (vMember (Member.mk x0.Birth x0.Joined t21.2 x0.Events) ((a0_0, c0_0), (a0_1, c0_1))))]) (by kernel_rfl) ?_
 refine JO_eqE (sl' := [(12, vi t29.1), (11, vi t21.1), (10, .v (.slice a0_1 t29.2.length c0_1)), (0, .v (vMember (Member.mk x0.Birth x0.Joined t21.2 t29.2) ((a0_0, c0_0), (a0_1, c0_1))))]) (bx' := [(52, (eMember (Member.mk x0.Birth x0.Joined t21.2 t29.2) ((a0_0, c0_0), (a0_1, c0_1))))]) (by simp only [eMember, vMember, hl36]) (by simp only [eMember, vMember, hl36]) ?_
 refine oN 1 [(1, vi t29.1)] [0] ?_
 refine oe (nt (qs (qr (oN 2 [(4, vi t29.1)] [0] ?_))))
 refine oe (nt (qe (rt [.int .i64 t29.1] (fun γ w hs => ?_))))
 rw [← sI h35]
 exact hs.turned (is := [1, 0]) rfl

theorem c_laws_markCase {W : World} {x0 : Case} {a0_0 : Option Addr} {c0_0 : Nat} {e0_0 : TypeId} {a0_1 : Option Addr} {c0_1 : Nat} {e0_1 : TypeId} {a0_2 : Option Addr} {c0_2 : Nat} {e0_2 : TypeId} {a0_3 : Option Addr} {c0_3 : Nat} {e0_3 : TypeId} {a0_4 : Option Addr} {c0_4 : Nat} {e0_4 : TypeId} {x1 : Int} {r : Int × (List Rule) × (List Fact) × (List Point) × (List Spell) × (List Event)} (h : laws_markCase x0 x1 = some r)  :
    GivesM Tryz.prog 20 #[vCase x0 ((a0_0, c0_0), (a0_1, c0_1), (a0_2, c0_2), (a0_3, c0_3), (a0_4, c0_4)), .int .i64 x1] W [SlRes e0_0 x0.Book.Rules a0_0 c0_0, SlRes e0_1 x0.Store.Facts a0_1 c0_1, SlRes e0_2 x0.Series.Points a0_2 c0_2, SlRes e0_3 x0.Member.Spells a0_3 c0_3, SlRes e0_4 x0.Member.Events a0_4 c0_4] [SlRes e0_0 r.2.1 a0_0 c0_0, SlRes e0_1 r.2.2.1 a0_1 c0_1, SlRes e0_2 r.2.2.2.1 a0_2 c0_2, SlRes e0_3 r.2.2.2.2.1 a0_3 c0_3, SlRes e0_4 r.2.2.2.2.2 a0_4 c0_4] (.int .i64 r.1) := by
 unfold laws_markCase at h
 refine enM Tryz.func20 Tryz.ntmps20 (fun Fs => ?_)
 refine qs (qr (oB 2 [(2, .p 0 0)] [0, 1] [(54, (eCase x0 ((a0_0, c0_0), (a0_1, c0_1), (a0_2, c0_2), (a0_3, c0_3), (a0_4, c0_4))))] ?_))
 refine oe (nt (qs (qr (oN 3 [(7, vi x1), (6, .v (vBook x0.Book (a0_0, c0_0)))] [2, 0] ?_))))
 obtain ⟨t21, h22, h23⟩ := bS h
 obtain ⟨u25, hu26, h27⟩ := bS h23
 have hl28 := (sameLen_some hu26).symm
 refine JO_callM rfl (by kernel_rfl) (f := 77) (args := #[vBook x0.Book (a0_0, c0_0), .int .i64 x1]) (by kernel_rfl) (x := .int .i64 t21.1) (Rin := [SlRes e0_0 x0.Book.Rules a0_0 c0_0]) (Rout := [SlRes e0_0 t21.2 a0_0 c0_0]) (Rr := [SlRes e0_1 x0.Store.Facts a0_1 c0_1, SlRes e0_2 x0.Series.Points a0_2 c0_2, SlRes e0_3 x0.Member.Spells a0_3 c0_3, SlRes e0_4 x0.Member.Events a0_4 c0_4]) rfl (fun w => (by have vv := c_laws_markBook (e0_0 := e0_0) (a0_0 := a0_0) (c0_0 := c0_0) (W := w) h22; exact vv)) (sl' := [(8, vi t21.1), (7, vi x1), (6, .v (vBook x0.Book (a0_0, c0_0))), (2, .p 0 0), (0, .v (vCase x0 ((a0_0, c0_0), (a0_1, c0_1), (a0_2, c0_2), (a0_3, c0_3), (a0_4, c0_4))))]) (by kernel_rfl) ?_
 refine JO_eqE (sl' := [(8, vi t21.1), (7, vi x1), (6, .v (vBook (Book.mk t21.2) (a0_0, c0_0))), (2, .p 0 0), (0, .v (vCase (Case.mk (Book.mk t21.2) x0.Store x0.Series x0.Member) ((a0_0, c0_0), (a0_1, c0_1), (a0_2, c0_2), (a0_3, c0_3), (a0_4, c0_4))))]) (bx' := [(54, (eCase (Case.mk (Book.mk t21.2) x0.Store x0.Series x0.Member) ((a0_0, c0_0), (a0_1, c0_1), (a0_2, c0_2), (a0_3, c0_3), (a0_4, c0_4))))]) (by simp only [eBook, eCase, vBook, vCase, hl28]) (by simp only [eCase, vCase, hl28]) ?_
 refine oN 1 [(1, vi t21.1)] [2, 0] ?_
 refine oe (nt (qs (qr (oN 3 [(11, vi t21.1), (10, .v (vStore x0.Store (a0_1, c0_1)))] [2, 0] ?_))))
 refine JO_res (R' := [SlRes e0_1 x0.Store.Facts a0_1 c0_1, SlRes e0_0 t21.2 a0_0 c0_0, SlRes e0_2 x0.Series.Points a0_2 c0_2, SlRes e0_3 x0.Member.Spells a0_3 c0_3, SlRes e0_4 x0.Member.Events a0_4 c0_4]) [1, 0, 0, 0, 0] (by kernel_rfl) ?_
 obtain ⟨t29, h30, h31⟩ := bS h27
 obtain ⟨u33, hu34, h35⟩ := bS h31
 have hl36 := (sameLen_some hu34).symm
 refine JO_callM rfl (by kernel_rfl) (f := 78) (args := #[vStore x0.Store (a0_1, c0_1), .int .i64 t21.1]) (by kernel_rfl) (x := .int .i64 t29.1) (Rin := [SlRes e0_1 x0.Store.Facts a0_1 c0_1]) (Rout := [SlRes e0_1 t29.2 a0_1 c0_1]) (Rr := [SlRes e0_0 t21.2 a0_0 c0_0, SlRes e0_2 x0.Series.Points a0_2 c0_2, SlRes e0_3 x0.Member.Spells a0_3 c0_3, SlRes e0_4 x0.Member.Events a0_4 c0_4]) rfl (fun w => (by have vv := c_laws_markStore (e0_0 := e0_1) (a0_0 := a0_1) (c0_0 := c0_1) (W := w) h30; exact vv)) (sl' := [(12, vi t29.1), (11, vi t21.1), (10, .v (vStore x0.Store (a0_1, c0_1))), (2, .p 0 0), (0, .v (vCase (Case.mk (Book.mk t21.2) x0.Store x0.Series x0.Member) ((a0_0, c0_0), (a0_1, c0_1), (a0_2, c0_2), (a0_3, c0_3), (a0_4, c0_4))))]) (by kernel_rfl) ?_
 refine JO_eqE (sl' := [(12, vi t29.1), (11, vi t21.1), (10, .v (vStore (Store.mk t29.2) (a0_1, c0_1))), (2, .p 0 0), (0, .v (vCase (Case.mk (Book.mk t21.2) (Store.mk t29.2) x0.Series x0.Member) ((a0_0, c0_0), (a0_1, c0_1), (a0_2, c0_2), (a0_3, c0_3), (a0_4, c0_4))))]) (bx' := [(54, (eCase (Case.mk (Book.mk t21.2) (Store.mk t29.2) x0.Series x0.Member) ((a0_0, c0_0), (a0_1, c0_1), (a0_2, c0_2), (a0_3, c0_3), (a0_4, c0_4))))]) (by simp only [eCase, eStore, vCase, vStore, hl36]) (by simp only [eCase, vCase, hl36]) ?_
 refine oN 1 [(1, vi t29.1)] [2, 0] ?_
 refine oe (nt (qs (qr (oN 3 [(15, vi t29.1), (14, .v (vSeries x0.Series (a0_2, c0_2)))] [2, 0] ?_))))
 refine JO_res (R' := [SlRes e0_2 x0.Series.Points a0_2 c0_2, SlRes e0_1 t29.2 a0_1 c0_1, SlRes e0_0 t21.2 a0_0 c0_0, SlRes e0_3 x0.Member.Spells a0_3 c0_3, SlRes e0_4 x0.Member.Events a0_4 c0_4]) [2, 0, 0, 0, 0] (by kernel_rfl) ?_
 obtain ⟨t37, h38, h39⟩ := bS h35
 obtain ⟨u41, hu42, h43⟩ := bS h39
 have hl44 := (sameLen_some hu42).symm
 refine JO_callM rfl (by kernel_rfl) (f := 79) (args := #[vSeries x0.Series (a0_2, c0_2), .int .i64 t29.1]) (by kernel_rfl) (x := .int .i64 t37.1) (Rin := [SlRes e0_2 x0.Series.Points a0_2 c0_2]) (Rout := [SlRes e0_2 t37.2 a0_2 c0_2]) (Rr := [SlRes e0_1 t29.2 a0_1 c0_1, SlRes e0_0 t21.2 a0_0 c0_0, SlRes e0_3 x0.Member.Spells a0_3 c0_3, SlRes e0_4 x0.Member.Events a0_4 c0_4]) rfl (fun w => (by have vv := c_laws_markSeries (e0_0 := e0_2) (a0_0 := a0_2) (c0_0 := c0_2) (W := w) h38; exact vv)) (sl' := [(16, vi t37.1), (15, vi t29.1), (14, .v (vSeries x0.Series (a0_2, c0_2))), (2, .p 0 0), (0, .v (vCase (Case.mk (Book.mk t21.2) (Store.mk t29.2) x0.Series x0.Member) ((a0_0, c0_0), (a0_1, c0_1), (a0_2, c0_2), (a0_3, c0_3), (a0_4, c0_4))))]) (by kernel_rfl) ?_
 refine JO_eqE (sl' := [(16, vi t37.1), (15, vi t29.1), (14, .v (.agg #[.slice a0_2 t37.2.length c0_2])), (2, .p 0 0), (0, .v (vCase (Case.mk (Book.mk t21.2) (Store.mk t29.2) (Series.mk t37.2) x0.Member) ((a0_0, c0_0), (a0_1, c0_1), (a0_2, c0_2), (a0_3, c0_3), (a0_4, c0_4))))]) (bx' := [(54, (eCase (Case.mk (Book.mk t21.2) (Store.mk t29.2) (Series.mk t37.2) x0.Member) ((a0_0, c0_0), (a0_1, c0_1), (a0_2, c0_2), (a0_3, c0_3), (a0_4, c0_4))))]) (by simp only [eCase, eSeries, vCase, vSeries, hl44]) (by simp only [eCase, vCase, hl44]) ?_
 refine oN 1 [(1, vi t37.1)] [2, 0] ?_
 refine oe (nt (qs (qr (oN 3 [(19, vi t37.1), (18, .v (vMember x0.Member ((a0_3, c0_3), (a0_4, c0_4))))] [0] ?_))))
 refine JO_res (R' := [SlRes e0_3 x0.Member.Spells a0_3 c0_3, SlRes e0_4 x0.Member.Events a0_4 c0_4, SlRes e0_2 t37.2 a0_2 c0_2, SlRes e0_1 t29.2 a0_1 c0_1, SlRes e0_0 t21.2 a0_0 c0_0]) [3, 3, 0, 0, 0] (by kernel_rfl) ?_
 obtain ⟨t45, h46, h47⟩ := bS h43
 obtain ⟨u49, hu50, h51⟩ := bS h47
 have hl52 := (sameLen_some hu50).symm
 obtain ⟨u53, hu54, h55⟩ := bS h51
 have hl56 := (sameLen_some hu54).symm
 refine JO_callM rfl (by kernel_rfl) (f := 80) (args := #[vMember x0.Member ((a0_3, c0_3), (a0_4, c0_4)), .int .i64 t37.1]) (by kernel_rfl) (x := .int .i64 t45.1) (Rin := [SlRes e0_3 x0.Member.Spells a0_3 c0_3, SlRes e0_4 x0.Member.Events a0_4 c0_4]) (Rout := [SlRes e0_3 t45.2.1 a0_3 c0_3, SlRes e0_4 t45.2.2 a0_4 c0_4]) (Rr := [SlRes e0_2 t37.2 a0_2 c0_2, SlRes e0_1 t29.2 a0_1 c0_1, SlRes e0_0 t21.2 a0_0 c0_0]) rfl (fun w => (by have vv := c_laws_markMember (e0_0 := e0_3) (a0_0 := a0_3) (c0_0 := c0_3) (e0_1 := e0_4) (a0_1 := a0_4) (c0_1 := c0_4) (W := w) h46; exact vv)) (sl' := [(20, vi t45.1), (19, vi t37.1), (18, .v (vMember x0.Member ((a0_3, c0_3), (a0_4, c0_4)))), (0, .v (vCase (Case.mk (Book.mk t21.2) (Store.mk t29.2) (Series.mk t37.2) x0.Member) ((a0_0, c0_0), (a0_1, c0_1), (a0_2, c0_2), (a0_3, c0_3), (a0_4, c0_4))))]) (by kernel_rfl) ?_
 refine JO_eqE (sl' := [(20, vi t45.1), (19, vi t37.1), (18, .v (vMember (Member.mk x0.Member.Birth x0.Member.Joined t45.2.1 t45.2.2) ((a0_3, c0_3), (a0_4, c0_4)))), (0, .v (vCase (Case.mk (Book.mk t21.2) (Store.mk t29.2) (Series.mk t37.2) (Member.mk x0.Member.Birth x0.Member.Joined t45.2.1 t45.2.2)) ((a0_0, c0_0), (a0_1, c0_1), (a0_2, c0_2), (a0_3, c0_3), (a0_4, c0_4))))]) (bx' := [(54, (eCase (Case.mk (Book.mk t21.2) (Store.mk t29.2) (Series.mk t37.2) (Member.mk x0.Member.Birth x0.Member.Joined t45.2.1 t45.2.2)) ((a0_0, c0_0), (a0_1, c0_1), (a0_2, c0_2), (a0_3, c0_3), (a0_4, c0_4))))]) (by simp only [eCase, eMember, vCase, vMember, hl52, hl56]) (by simp only [eCase, vCase, hl52, hl56]) ?_
 refine oN 1 [(1, vi t45.1)] [0] ?_
 refine oe (nt (qs (qr (oN 2 [(4, vi t45.1)] [0] ?_))))
 refine oe (nt (qe (rt [.int .i64 t45.1] (fun γ w hs => ?_))))
 rw [← sI h55]
 exact hs.turned (is := [4, 3, 2, 0, 0]) rfl

theorem c_laws_markRule {W : World} {x0 : Rule} {a0_0 : Option Addr} {c0_0 : Nat} {e0_0 : TypeId} {x1 : Int} {r : Int × (List Node)} (h : laws_markRule x0 x1 = some r)  :
    GivesM Tryz.prog 28 #[vRule x0 (a0_0, c0_0), .int .i64 x1] W [SlRes e0_0 x0.Nodes a0_0 c0_0] [SlRes e0_0 r.2 a0_0 c0_0] (.int .i64 r.1) := by
 unfold laws_markRule at h
 refine enM Tryz.func28 Tryz.ntmps28 (fun Fs => ?_)
 refine qs (qr (oB 2 [(2, .p 0 0)] [0, 1] [(69, (eRule x0 (a0_0, c0_0)))] ?_))
 refine oe (nt (qs (qr (oN 3 [(7, vi x1), (6, .v (.slice a0_0 x0.Nodes.length c0_0))] [0] ?_))))
 obtain ⟨t21, h22, h23⟩ := bS h
 obtain ⟨u25, hu26, h27⟩ := bS h23
 have hl28 := (sameLen_some hu26).symm
 refine JO_callM rfl (by kernel_rfl) (f := 88) (args := #[.slice a0_0 x0.Nodes.length c0_0, .int .i64 x1]) (by kernel_rfl) (x := .int .i64 t21.1) (Rin := [SlRes e0_0 x0.Nodes a0_0 c0_0]) (Rout := [SlRes e0_0 t21.2 a0_0 c0_0]) (Rr := []) rfl (fun w => (by have vv := c_laws_markNodeS (e0_0 := e0_0) (a0_0 := a0_0) (c0_0 := c0_0) (W := w) h22; exact vv)) (sl' := [(8, vi t21.1), (7, vi x1), (6, .v (.slice a0_0 x0.Nodes.length c0_0)), (0, .v (vRule x0 (a0_0, c0_0)))]) (by kernel_rfl) ?_
 refine JO_eqE (sl' := [(8, vi t21.1), (7, vi x1), (6, .v (.slice a0_0 t21.2.length c0_0)), (0, .v (vRule (Rule.mk x0.Name x0.From x0.To x0.Joined x0.Rank x0.Mode t21.2) (a0_0, c0_0)))]) (bx' := [(69, (eRule (Rule.mk x0.Name x0.From x0.To x0.Joined x0.Rank x0.Mode t21.2) (a0_0, c0_0)))]) (by simp only [eRule, vRule, hl28]) (by simp only [eRule, vRule, hl28]) ?_
 refine oN 1 [(1, vi t21.1)] [0] ?_
 refine oe (nt (qs (qr (oN 2 [(4, vi t21.1)] [0] ?_))))
 refine oe (nt (qe (rt [.int .i64 t21.1] (fun γ w hs => ?_))))
 rw [← sI h27]
 exact hs.turned (is := [0]) rfl

theorem c_laws_heldNodeS {W : World} {x0 : List Node} {a0_0 : Option Addr} {c0_0 : Nat} {x1 : Int} {r : Int} (h : laws_heldNodeS x0 x1 = some r) (hv0_0 : SlView W x0 a0_0 c0_0) :
    Gives0 Tryz.prog 194 #[.slice a0_0 x0.length c0_0, .int .i64 x1] W (.int .i64 r) := by
 unfold laws_heldNodeS at h
 refine en Tryz.func194 Tryz.ntmps194 ?_
 refine qs (qr (oN 1 [] [0, 1] ?_))
 refine oe (nt (qs (qs (qr (oN 1 [(5, vi 0)] [0, 1] ?_)))))
 refine oe (nt ?_)
 obtain ⟨r24, hL25, h26⟩ := bS h
 obtain ⟨k27, hk28, h26⟩ := brkS h26
 refine JC_cutP (τ := (Int) × (Unit)) (fun y => k27 y.1 = some r) (fun y32 => [(1, vi y32.1)]) (fun y32 => []) (fun y32 => []) ?_ (fun y32 h33p => ?_)
 · refine qb (lp Unit hL25 (fun s21 y22 => [(5, vi s21.1), (0, .v (.slice a0_0 x0.length c0_0)), (1, vi s21.2)]) (fun s21 y22 => []) (fun s21 y22 => []) () [5, 0, 1] [] 0 (fun s21 y22 t23 h29 hd30 => ?_))
   refine qs (qs (qr (oN 4 [(9, vb (decide (s21.1 < (x0.length : Int))))] [5, 0, 1] ?_)))
   refine oe (nt (cC h29 (fun h35 => ?_) (fun h36 => ?_)))
   · refine qk (nt (qs (qb (qs (qs (qr (oN 2 [(13, vi s21.1), (12, .v (.slice a0_0 x0.length c0_0))] [5, 0, 1] ?_)))))))
     obtain ⟨x37, hx38, h39⟩ := bS h35
     refine oi 6 (fun γ w hs => (hv0_0.kept hs.kept)) hx38 ?_
     refine oN 1 [(15, .q a0_0 (Int.toNat s21.1 * 6))] [5, 0, 1] ?_
     refine ol 3 0 (.int .i64 x37.Kind) (fun γ w hs => (hv0_0.kept hs.kept).flatq hx38) ?_
     refine oN 2 [(18, vb (x37.Kind != s21.2))] [5, 0, 1] ?_
     refine oe (nt (cC h39 (fun h41 => ?_) (fun h42 => ?_)))
     · refine qs (qr (oN 1 [(4, vi (-1))] [] ?_))
       refine oe (nt (qe (nr (br (nr (nr ?_))))))
       have h43 := leafR hd30 h41 h26
       refine br (nr (nr ?_))
       obtain rfl := sI h43
       exact re [.int .i64 (-1)]
     refine qk (nt (qs (qr (oN 3 [(1, vi (w64 (s21.2 + 1)))] [5, 0] ?_))))
     refine oe (nt (qs (qs (qr (oN 2 [(22, vi s21.1), (21, .v (.slice a0_0 x0.length c0_0))] [1, 5, 0] ?_)))))
     obtain ⟨x44, hx45, h46⟩ := bS h42
     refine oi 6 (fun γ w hs => (hv0_0.kept hs.kept)) hx45 ?_
     refine oN 1 [(24, .q a0_0 (Int.toNat s21.1 * 6 + 1))] [1, 5, 0] ?_
     refine ol 3 1 (.int .i64 x44.A) (fun γ w hs => (hv0_0.kept hs.kept).flatq hx45) ?_
     refine oN 2 [(27, vb (x44.A != (w64 (s21.2 + 1))))] [1, 5, 0] ?_
     refine oe (nt (cC h46 (fun h48 => ?_) (fun h49 => ?_)))
     · refine qs (qr (oN 1 [(4, vi (-1))] [] ?_))
       refine oe (nt (qe (nr (br (nr (nr ?_))))))
       have h50 := leafR hd30 h48 h26
       refine br (nr (nr ?_))
       obtain rfl := sI h50
       exact re [.int .i64 (-1)]
     refine qk (nt (qs (qr (oN 3 [(1, vi (w64 ((w64 (s21.2 + 1)) + 1)))] [5, 0] ?_))))
     refine oe (nt (qs (qs (qr (oN 2 [(31, vi s21.1), (30, .v (.slice a0_0 x0.length c0_0))] [1, 5, 0] ?_)))))
     obtain ⟨x51, hx52, h53⟩ := bS h49
     refine oi 6 (fun γ w hs => (hv0_0.kept hs.kept)) hx52 ?_
     refine oN 1 [(33, .q a0_0 (Int.toNat s21.1 * 6 + 2))] [1, 5, 0] ?_
     refine ol 3 2 (.int .i64 x51.B) (fun γ w hs => (hv0_0.kept hs.kept).flatq hx52) ?_
     refine oN 2 [(36, vb (x51.B != (w64 ((w64 (s21.2 + 1)) + 1))))] [1, 5, 0] ?_
     refine oe (nt (cC h53 (fun h55 => ?_) (fun h56 => ?_)))
     · refine qs (qr (oN 1 [(4, vi (-1))] [] ?_))
       refine oe (nt (qe (nr (br (nr (nr ?_))))))
       have h57 := leafR hd30 h55 h26
       refine br (nr (nr ?_))
       obtain rfl := sI h57
       exact re [.int .i64 (-1)]
     refine qk (nt (qs (qr (oN 3 [(1, vi (w64 ((w64 ((w64 (s21.2 + 1)) + 1)) + 1)))] [5, 0] ?_))))
     refine oe (nt (qs (qs (qr (oN 2 [(40, vi s21.1), (39, .v (.slice a0_0 x0.length c0_0))] [1, 5, 0] ?_)))))
     obtain ⟨x58, hx59, h60⟩ := bS h56
     refine oi 6 (fun γ w hs => (hv0_0.kept hs.kept)) hx59 ?_
     refine oN 1 [(42, .q a0_0 (Int.toNat s21.1 * 6 + 3))] [1, 5, 0] ?_
     refine ol 3 3 (.int .i64 x58.C) (fun γ w hs => (hv0_0.kept hs.kept).flatq hx59) ?_
     refine oN 2 [(45, vb (x58.C != (w64 ((w64 ((w64 (s21.2 + 1)) + 1)) + 1))))] [1, 5, 0] ?_
     refine oe (nt (cC h60 (fun h62 => ?_) (fun h63 => ?_)))
     · refine qs (qr (oN 1 [(4, vi (-1))] [] ?_))
       refine oe (nt (qe (nr (br (nr (nr ?_))))))
       have h64 := leafR hd30 h62 h26
       refine br (nr (nr ?_))
       obtain rfl := sI h64
       exact re [.int .i64 (-1)]
     refine qk (nt (qs (qr (oN 3 [(1, vi (w64 ((w64 ((w64 ((w64 (s21.2 + 1)) + 1)) + 1)) + 1)))] [5, 0] ?_))))
     refine oe (nt (qs (qs (qr (oN 2 [(49, vi s21.1), (48, .v (.slice a0_0 x0.length c0_0))] [1, 5, 0] ?_)))))
     obtain ⟨x65, hx66, h67⟩ := bS h63
     refine oi 6 (fun γ w hs => (hv0_0.kept hs.kept)) hx66 ?_
     refine oN 2 [(52, .q a0_0 (Int.toNat s21.1 * 6 + 4))] [1, 5, 0] ?_
     refine ol 3 4 (.int .i64 x65.Value.Num) (fun γ w hs => (hv0_0.kept hs.kept).flatq hx66) ?_
     refine oN 2 [(55, vb (x65.Value.Num != (w64 ((w64 ((w64 ((w64 (s21.2 + 1)) + 1)) + 1)) + 1))))] [1, 5, 0] ?_
     refine oe (nt (cC h67 (fun h69 => ?_) (fun h70 => ?_)))
     · refine qs (qr (oN 1 [(4, vi (-1))] [] ?_))
       refine oe (nt (qe (nr (br (nr (nr ?_))))))
       have h71 := leafR hd30 h69 h26
       refine br (nr (nr ?_))
       obtain rfl := sI h71
       exact re [.int .i64 (-1)]
     refine qk (nt (qs (qr (oN 3 [(1, vi (w64 ((w64 ((w64 ((w64 ((w64 (s21.2 + 1)) + 1)) + 1)) + 1)) + 1)))] [5, 0] ?_))))
     refine oe (nt (qs (qs (qr (oN 2 [(59, vi s21.1), (58, .v (.slice a0_0 x0.length c0_0))] [1, 5, 0] ?_)))))
     obtain ⟨x72, hx73, h74⟩ := bS h70
     refine oi 6 (fun γ w hs => (hv0_0.kept hs.kept)) hx73 ?_
     refine oN 2 [(62, .q a0_0 (Int.toNat s21.1 * 6 + 5))] [1, 5, 0] ?_
     refine ol 3 5 (.int .i64 x72.Value.Den) (fun γ w hs => (hv0_0.kept hs.kept).flatq hx73) ?_
     refine oN 2 [(65, vb (x72.Value.Den != (w64 ((w64 ((w64 ((w64 ((w64 (s21.2 + 1)) + 1)) + 1)) + 1)) + 1))))] [1, 5, 0] ?_
     refine oe (nt (cC h74 (fun h76 => ?_) (fun h77 => ?_)))
     · refine qs (qr (oN 1 [(4, vi (-1))] [] ?_))
       refine oe (nt (qe (nr (br (nr (nr ?_))))))
       have h78 := leafR hd30 h76 h26
       refine br (nr (nr ?_))
       obtain rfl := sI h78
       exact re [.int .i64 (-1)]
     refine qk (nt (qr (oN 3 [(1, vi (w64 ((w64 ((w64 ((w64 ((w64 ((w64 (s21.2 + 1)) + 1)) + 1)) + 1)) + 1)) + 1)))] [5, 0] ?_)))
     refine oe (bn (nt (qr (oN 3 [(5, vi (w64 (s21.1 + 1)))] [1, 0] ?_))))
     exact oe (ct h77 () [5, 0, 1] [] 0)
   refine qx (nx (nx (bh ?_)))
   have h79 := leafB hd30 h36 h26
   exact mp (s21.2, ()) h79 [1] [] 0
 have h33 := (congrFun hk28 _).symm.trans h33p
 refine nt (qs (qr (oN 2 [(4, vi y32.1)] [] ?_)))
 refine oe (nt (qe ?_))
 obtain rfl := sI h33
 exact re [.int .i64 y32.1]

theorem c_laws_heldRuleS {W : World} {x0 : List Rule} {a0_0 : Option Addr} {c0_0 : Nat} {x1 : Int} {r : Int} (h : laws_heldRuleS x0 x1 = some r) (hv0_0 : SlView W x0 a0_0 c0_0) :
    Gives0 Tryz.prog 144 #[.slice a0_0 x0.length c0_0, .int .i64 x1] W (.int .i64 r) := by
 unfold laws_heldRuleS at h
 refine en Tryz.func144 Tryz.ntmps144 ?_
 refine qs (qr (oN 1 [] [0, 1] ?_))
 refine oe (nt (qs (qs (qr (oN 1 [(5, vi 0)] [0, 1] ?_)))))
 refine oe (nt ?_)
 obtain ⟨r24, hL25, h26⟩ := bS h
 obtain ⟨k27, hk28, h26⟩ := brkS h26
 refine JC_cutP (τ := (Int) × (Unit)) (fun y => k27 y.1 = some r) (fun y32 => [(1, vi y32.1)]) (fun y32 => []) (fun y32 => []) ?_ (fun y32 h33p => ?_)
 · refine qb (lp Unit hL25 (fun s21 y22 => [(5, vi s21.1), (0, .v (.slice a0_0 x0.length c0_0)), (1, vi s21.2)]) (fun s21 y22 => []) (fun s21 y22 => []) () [5, 0, 1] [] 0 (fun s21 y22 t23 h29 hd30 => ?_))
   refine qs (qs (qr (oN 4 [(9, vb (decide (s21.1 < (x0.length : Int))))] [5, 0, 1] ?_)))
   refine oe (nt (cC h29 (fun h35 => ?_) (fun h36 => ?_)))
   · refine qk (nt (qs (qb (qs (qs (qr (oN 2 [(13, vi s21.1), (12, .v (.slice a0_0 x0.length c0_0))] [5, 0, 1] ?_)))))))
     obtain ⟨x37, hx38, h39⟩ := bS h35
     refine oi 7 (fun γ w hs => (hv0_0.kept hs.kept)) hx38 ?_
     refine oN 1 [(15, .q a0_0 (Int.toNat s21.1 * 7))] [5, 0, 1] ?_
     obtain ⟨_, ⟨a40, c41, rfl, hv42⟩, hc43⟩ := SlView.at hv0_0 (idx_some hx38).2.2
     refine ol 3 0 (.int .i64 x37.Name) (fun γ w hs => ⟨(hv0_0.kept hs.kept).ne (idx_some hx38).2.2, hc43.kept hs.kept⟩) ?_
     refine oN 2 [(18, vb (x37.Name != s21.2))] [5, 0, 1] ?_
     refine oe (nt (cC h39 (fun h45 => ?_) (fun h46 => ?_)))
     · refine qs (qr (oN 1 [(4, vi (-1))] [] ?_))
       refine oe (nt (qe (nr (br (nr (nr ?_))))))
       have h47 := leafR hd30 h45 h26
       refine br (nr (nr ?_))
       obtain rfl := sI h47
       exact re [.int .i64 (-1)]
     refine qk (nt (qs (qr (oN 3 [(1, vi (w64 (s21.2 + 1)))] [5, 0] ?_))))
     refine oe (nt (qs (qs (qr (oN 2 [(22, vi s21.1), (21, .v (.slice a0_0 x0.length c0_0))] [1, 5, 0] ?_)))))
     obtain ⟨x48, hx49, h50⟩ := bS h46
     refine oi 7 (fun γ w hs => (hv0_0.kept hs.kept)) hx49 ?_
     refine oN 1 [(24, .q a0_0 (Int.toNat s21.1 * 7 + 1))] [1, 5, 0] ?_
     obtain ⟨_, ⟨a51, c52, rfl, hv53⟩, hc54⟩ := SlView.at hv0_0 (idx_some hx49).2.2
     refine ol 3 1 (.int .i64 x48.From) (fun γ w hs => ⟨(hv0_0.kept hs.kept).ne (idx_some hx49).2.2, hc54.kept hs.kept⟩) ?_
     refine oN 2 [(27, vb (x48.From != (w64 (s21.2 + 1))))] [1, 5, 0] ?_
     refine oe (nt (cC h50 (fun h56 => ?_) (fun h57 => ?_)))
     · refine qs (qr (oN 1 [(4, vi (-1))] [] ?_))
       refine oe (nt (qe (nr (br (nr (nr ?_))))))
       have h58 := leafR hd30 h56 h26
       refine br (nr (nr ?_))
       obtain rfl := sI h58
       exact re [.int .i64 (-1)]
     refine qk (nt (qs (qr (oN 3 [(1, vi (w64 ((w64 (s21.2 + 1)) + 1)))] [5, 0] ?_))))
     refine oe (nt (qs (qs (qr (oN 2 [(31, vi s21.1), (30, .v (.slice a0_0 x0.length c0_0))] [1, 5, 0] ?_)))))
     obtain ⟨x59, hx60, h61⟩ := bS h57
     refine oi 7 (fun γ w hs => (hv0_0.kept hs.kept)) hx60 ?_
     refine oN 1 [(33, .q a0_0 (Int.toNat s21.1 * 7 + 2))] [1, 5, 0] ?_
     obtain ⟨_, ⟨a62, c63, rfl, hv64⟩, hc65⟩ := SlView.at hv0_0 (idx_some hx60).2.2
     refine ol 3 2 (.int .i64 x59.To) (fun γ w hs => ⟨(hv0_0.kept hs.kept).ne (idx_some hx60).2.2, hc65.kept hs.kept⟩) ?_
     refine oN 2 [(36, vb (x59.To != (w64 ((w64 (s21.2 + 1)) + 1))))] [1, 5, 0] ?_
     refine oe (nt (cC h61 (fun h67 => ?_) (fun h68 => ?_)))
     · refine qs (qr (oN 1 [(4, vi (-1))] [] ?_))
       refine oe (nt (qe (nr (br (nr (nr ?_))))))
       have h69 := leafR hd30 h67 h26
       refine br (nr (nr ?_))
       obtain rfl := sI h69
       exact re [.int .i64 (-1)]
     refine qk (nt (qs (qr (oN 3 [(1, vi (w64 ((w64 ((w64 (s21.2 + 1)) + 1)) + 1)))] [5, 0] ?_))))
     refine oe (nt (qs (qs (qr (oN 2 [(40, vi s21.1), (39, .v (.slice a0_0 x0.length c0_0))] [1, 5, 0] ?_)))))
     obtain ⟨x70, hx71, h72⟩ := bS h68
     refine oi 7 (fun γ w hs => (hv0_0.kept hs.kept)) hx71 ?_
     refine oN 1 [(42, .q a0_0 (Int.toNat s21.1 * 7 + 3))] [1, 5, 0] ?_
     obtain ⟨_, ⟨a73, c74, rfl, hv75⟩, hc76⟩ := SlView.at hv0_0 (idx_some hx71).2.2
     refine ol 3 3 (.int .i64 x70.Joined) (fun γ w hs => ⟨(hv0_0.kept hs.kept).ne (idx_some hx71).2.2, hc76.kept hs.kept⟩) ?_
     refine oN 2 [(45, vb (x70.Joined != (w64 ((w64 ((w64 (s21.2 + 1)) + 1)) + 1))))] [1, 5, 0] ?_
     refine oe (nt (cC h72 (fun h78 => ?_) (fun h79 => ?_)))
     · refine qs (qr (oN 1 [(4, vi (-1))] [] ?_))
       refine oe (nt (qe (nr (br (nr (nr ?_))))))
       have h80 := leafR hd30 h78 h26
       refine br (nr (nr ?_))
       obtain rfl := sI h80
       exact re [.int .i64 (-1)]
     refine qk (nt (qs (qr (oN 3 [(1, vi (w64 ((w64 ((w64 ((w64 (s21.2 + 1)) + 1)) + 1)) + 1)))] [5, 0] ?_))))
     refine oe (nt (qs (qs (qr (oN 2 [(49, vi s21.1), (48, .v (.slice a0_0 x0.length c0_0))] [1, 5, 0] ?_)))))
     obtain ⟨x81, hx82, h83⟩ := bS h79
     refine oi 7 (fun γ w hs => (hv0_0.kept hs.kept)) hx82 ?_
     refine oN 1 [(51, .q a0_0 (Int.toNat s21.1 * 7 + 4))] [1, 5, 0] ?_
     obtain ⟨_, ⟨a84, c85, rfl, hv86⟩, hc87⟩ := SlView.at hv0_0 (idx_some hx82).2.2
     refine ol 3 4 (.int .i64 x81.Rank) (fun γ w hs => ⟨(hv0_0.kept hs.kept).ne (idx_some hx82).2.2, hc87.kept hs.kept⟩) ?_
     refine oN 2 [(54, vb (x81.Rank != (w64 ((w64 ((w64 ((w64 (s21.2 + 1)) + 1)) + 1)) + 1))))] [1, 5, 0] ?_
     refine oe (nt (cC h83 (fun h89 => ?_) (fun h90 => ?_)))
     · refine qs (qr (oN 1 [(4, vi (-1))] [] ?_))
       refine oe (nt (qe (nr (br (nr (nr ?_))))))
       have h91 := leafR hd30 h89 h26
       refine br (nr (nr ?_))
       obtain rfl := sI h91
       exact re [.int .i64 (-1)]
     refine qk (nt (qs (qr (oN 3 [(1, vi (w64 ((w64 ((w64 ((w64 ((w64 (s21.2 + 1)) + 1)) + 1)) + 1)) + 1)))] [5, 0] ?_))))
     refine oe (nt (qs (qs (qr (oN 2 [(58, vi s21.1), (57, .v (.slice a0_0 x0.length c0_0))] [1, 5, 0] ?_)))))
     obtain ⟨x92, hx93, h94⟩ := bS h90
     refine oi 7 (fun γ w hs => (hv0_0.kept hs.kept)) hx93 ?_
     refine oN 1 [(60, .q a0_0 (Int.toNat s21.1 * 7 + 5))] [1, 5, 0] ?_
     obtain ⟨_, ⟨a95, c96, rfl, hv97⟩, hc98⟩ := SlView.at hv0_0 (idx_some hx93).2.2
     refine ol 3 5 (.int .i64 x92.Mode) (fun γ w hs => ⟨(hv0_0.kept hs.kept).ne (idx_some hx93).2.2, hc98.kept hs.kept⟩) ?_
     refine oN 2 [(63, vb (x92.Mode != (w64 ((w64 ((w64 ((w64 ((w64 (s21.2 + 1)) + 1)) + 1)) + 1)) + 1))))] [1, 5, 0] ?_
     refine oe (nt (cC h94 (fun h100 => ?_) (fun h101 => ?_)))
     · refine qs (qr (oN 1 [(4, vi (-1))] [] ?_))
       refine oe (nt (qe (nr (br (nr (nr ?_))))))
       have h102 := leafR hd30 h100 h26
       refine br (nr (nr ?_))
       obtain rfl := sI h102
       exact re [.int .i64 (-1)]
     refine qk (nt (qs (qr (oN 3 [(1, vi (w64 ((w64 ((w64 ((w64 ((w64 ((w64 (s21.2 + 1)) + 1)) + 1)) + 1)) + 1)) + 1)))] [5, 0] ?_))))
     refine oe (nt (qs (qr (oN 2 [(67, vi s21.1), (66, .v (.slice a0_0 x0.length c0_0))] [1, 5, 0] ?_))))
     obtain ⟨x103, hx104, h105⟩ := bS h101
     refine oi 7 (fun γ w hs => (hv0_0.kept hs.kept)) hx104 ?_
     refine oN 1 [(69, .q a0_0 (Int.toNat s21.1 * 7 + 6))] [1, 5, 0] ?_
     obtain ⟨_, ⟨a106, c107, rfl, hv108⟩, hc109⟩ := SlView.at hv0_0 (idx_some hx104).2.2
     refine ol 67 6 (.slice a106 x103.Nodes.length c107) (fun γ w hs => ⟨(hv0_0.kept hs.kept).ne (idx_some hx104).2.2, hc109.kept hs.kept⟩) ?_
     refine oN 1 [(71, vi (w64 ((w64 ((w64 ((w64 ((w64 ((w64 (s21.2 + 1)) + 1)) + 1)) + 1)) + 1)) + 1)))] [70, 5, 0] ?_
     obtain ⟨t110, h111, h112⟩ := bS h105
     refine k0 (fun γ w hs => c_laws_heldNodeS h111 (hv108.kept hs.kept)) ?_
     refine oN 1 [(1, vi t110)] [5, 0] ?_
     refine oe (nt (qs (qr (oN 2 [(74, vb (decide (t110 < 0)))] [1, 5, 0] ?_))))
     refine oe (nt (cC h112 (fun h115 => ?_) (fun h116 => ?_)))
     · refine qs (qr (oN 1 [(4, vi (-1))] [] ?_))
       refine oe (nt (qe (br (nr (nr ?_)))))
       have h117 := leafR hd30 h115 h26
       refine br (nr (nr ?_))
       obtain rfl := sI h117
       exact re [.int .i64 (-1)]
     refine qk (bn (nt (qr (oN 3 [(5, vi (w64 (s21.1 + 1)))] [1, 0] ?_))))
     exact oe (ct h116 () [5, 0, 1] [] 0)
   refine qx (nx (nx (bh ?_)))
   have h118 := leafB hd30 h36 h26
   exact mp (s21.2, ()) h118 [1] [] 0
 have h33 := (congrFun hk28 _).symm.trans h33p
 refine nt (qs (qr (oN 2 [(4, vi y32.1)] [] ?_)))
 refine oe (nt (qe ?_))
 obtain rfl := sI h33
 exact re [.int .i64 y32.1]

theorem c_laws_heldBook {W : World} {x0 : Book} {a0_0 : Option Addr} {c0_0 : Nat} {x1 : Int} {r : Int} (h : laws_heldBook x0 x1 = some r) (hv0_0 : SlView W x0.Rules a0_0 c0_0) :
    Gives0 Tryz.prog 89 #[vBook x0 (a0_0, c0_0), .int .i64 x1] W (.int .i64 r) := by
 unfold laws_heldBook at h
 refine en Tryz.func89 Tryz.ntmps89 ?_
 refine qs (qr (oB 2 [(2, .p 0 0)] [1] [(42, (eBook x0 (a0_0, c0_0)))] ?_))
 refine oe (nt (qs (qr (oN 3 [(7, vi x1), (6, .v (.slice a0_0 x0.Rules.length c0_0))] [] ?_))))
 obtain ⟨t21, h22, h23⟩ := bS h
 refine k0 (fun γ w hs => c_laws_heldRuleS h22 (hv0_0.kept hs.kept)) ?_
 refine oN 1 [(1, vi t21)] [] ?_
 refine oe (nt (qs (qs (qr (oN 2 [(10, vb (decide (t21 < 0)))] [1] ?_)))))
 refine oe (nt (cC h23 (fun h26 => ?_) (fun h27 => ?_)))
 · refine qs (qr (oN 1 [(4, vi (-1))] [] ?_))
   refine oe (nt (qe (nr ?_)))
   obtain rfl := sI h26
   exact re [.int .i64 (-1)]
 refine qk (nt (qs (qr (oN 2 [(4, vi t21)] [] ?_))))
 refine oe (nt (qe ?_))
 obtain rfl := sI h27
 exact re [.int .i64 t21]

theorem c_laws_heldFactS {W : World} {x0 : List Fact} {a0_0 : Option Addr} {c0_0 : Nat} {x1 : Int} {r : Int} (h : laws_heldFactS x0 x1 = some r) (hv0_0 : SlView W x0 a0_0 c0_0) :
    Gives0 Tryz.prog 145 #[.slice a0_0 x0.length c0_0, .int .i64 x1] W (.int .i64 r) := by
 unfold laws_heldFactS at h
 refine en Tryz.func145 Tryz.ntmps145 ?_
 refine qs (qr (oN 1 [] [0, 1] ?_))
 refine oe (nt (qs (qs (qr (oN 1 [(5, vi 0)] [0, 1] ?_)))))
 refine oe (nt ?_)
 obtain ⟨r24, hL25, h26⟩ := bS h
 obtain ⟨k27, hk28, h26⟩ := brkS h26
 refine JC_cutP (τ := (Int) × (Unit)) (fun y => k27 y.1 = some r) (fun y32 => [(1, vi y32.1)]) (fun y32 => []) (fun y32 => []) ?_ (fun y32 h33p => ?_)
 · refine qb (lp Unit hL25 (fun s21 y22 => [(5, vi s21.1), (0, .v (.slice a0_0 x0.length c0_0)), (1, vi s21.2)]) (fun s21 y22 => []) (fun s21 y22 => []) () [5, 0, 1] [] 0 (fun s21 y22 t23 h29 hd30 => ?_))
   refine qs (qs (qr (oN 4 [(9, vb (decide (s21.1 < (x0.length : Int))))] [5, 0, 1] ?_)))
   refine oe (nt (cC h29 (fun h35 => ?_) (fun h36 => ?_)))
   · refine qk (nt (qs (qb (qs (qs (qr (oN 2 [(13, vi s21.1), (12, .v (.slice a0_0 x0.length c0_0))] [5, 0, 1] ?_)))))))
     obtain ⟨x37, hx38, h39⟩ := bS h35
     refine oi 5 (fun γ w hs => (hv0_0.kept hs.kept)) hx38 ?_
     refine oN 1 [(15, .q a0_0 (Int.toNat s21.1 * 5))] [5, 0, 1] ?_
     refine ol 3 0 (.int .i64 x37.Key) (fun γ w hs => (hv0_0.kept hs.kept).flatq hx38) ?_
     refine oN 2 [(18, vb (x37.Key != s21.2))] [5, 0, 1] ?_
     refine oe (nt (cC h39 (fun h41 => ?_) (fun h42 => ?_)))
     · refine qs (qr (oN 1 [(4, vi (-1))] [] ?_))
       refine oe (nt (qe (nr (br (nr (nr ?_))))))
       have h43 := leafR hd30 h41 h26
       refine br (nr (nr ?_))
       obtain rfl := sI h43
       exact re [.int .i64 (-1)]
     refine qk (nt (qs (qr (oN 3 [(1, vi (w64 (s21.2 + 1)))] [5, 0] ?_))))
     refine oe (nt (qs (qs (qr (oN 2 [(22, vi s21.1), (21, .v (.slice a0_0 x0.length c0_0))] [1, 5, 0] ?_)))))
     obtain ⟨x44, hx45, h46⟩ := bS h42
     refine oi 5 (fun γ w hs => (hv0_0.kept hs.kept)) hx45 ?_
     refine oN 1 [(24, .q a0_0 (Int.toNat s21.1 * 5 + 1))] [1, 5, 0] ?_
     refine ol 3 1 (.int .i64 x44.From) (fun γ w hs => (hv0_0.kept hs.kept).flatq hx45) ?_
     refine oN 2 [(27, vb (x44.From != (w64 (s21.2 + 1))))] [1, 5, 0] ?_
     refine oe (nt (cC h46 (fun h48 => ?_) (fun h49 => ?_)))
     · refine qs (qr (oN 1 [(4, vi (-1))] [] ?_))
       refine oe (nt (qe (nr (br (nr (nr ?_))))))
       have h50 := leafR hd30 h48 h26
       refine br (nr (nr ?_))
       obtain rfl := sI h50
       exact re [.int .i64 (-1)]
     refine qk (nt (qs (qr (oN 3 [(1, vi (w64 ((w64 (s21.2 + 1)) + 1)))] [5, 0] ?_))))
     refine oe (nt (qs (qs (qr (oN 2 [(31, vi s21.1), (30, .v (.slice a0_0 x0.length c0_0))] [1, 5, 0] ?_)))))
     obtain ⟨x51, hx52, h53⟩ := bS h49
     refine oi 5 (fun γ w hs => (hv0_0.kept hs.kept)) hx52 ?_
     refine oN 1 [(33, .q a0_0 (Int.toNat s21.1 * 5 + 2))] [1, 5, 0] ?_
     refine ol 3 2 (.int .i64 x51.To) (fun γ w hs => (hv0_0.kept hs.kept).flatq hx52) ?_
     refine oN 2 [(36, vb (x51.To != (w64 ((w64 (s21.2 + 1)) + 1))))] [1, 5, 0] ?_
     refine oe (nt (cC h53 (fun h55 => ?_) (fun h56 => ?_)))
     · refine qs (qr (oN 1 [(4, vi (-1))] [] ?_))
       refine oe (nt (qe (nr (br (nr (nr ?_))))))
       have h57 := leafR hd30 h55 h26
       refine br (nr (nr ?_))
       obtain rfl := sI h57
       exact re [.int .i64 (-1)]
     refine qk (nt (qs (qr (oN 3 [(1, vi (w64 ((w64 ((w64 (s21.2 + 1)) + 1)) + 1)))] [5, 0] ?_))))
     refine oe (nt (qs (qs (qr (oN 2 [(40, vi s21.1), (39, .v (.slice a0_0 x0.length c0_0))] [1, 5, 0] ?_)))))
     obtain ⟨x58, hx59, h60⟩ := bS h56
     refine oi 5 (fun γ w hs => (hv0_0.kept hs.kept)) hx59 ?_
     refine oN 1 [(42, .q a0_0 (Int.toNat s21.1 * 5 + 3))] [1, 5, 0] ?_
     refine ol 3 3 (.int .i64 x58.Known) (fun γ w hs => (hv0_0.kept hs.kept).flatq hx59) ?_
     refine oN 2 [(45, vb (x58.Known != (w64 ((w64 ((w64 (s21.2 + 1)) + 1)) + 1))))] [1, 5, 0] ?_
     refine oe (nt (cC h60 (fun h62 => ?_) (fun h63 => ?_)))
     · refine qs (qr (oN 1 [(4, vi (-1))] [] ?_))
       refine oe (nt (qe (nr (br (nr (nr ?_))))))
       have h64 := leafR hd30 h62 h26
       refine br (nr (nr ?_))
       obtain rfl := sI h64
       exact re [.int .i64 (-1)]
     refine qk (nt (qs (qr (oN 3 [(1, vi (w64 ((w64 ((w64 ((w64 (s21.2 + 1)) + 1)) + 1)) + 1)))] [5, 0] ?_))))
     refine oe (nt (qs (qs (qr (oN 2 [(49, vi s21.1), (48, .v (.slice a0_0 x0.length c0_0))] [1, 5, 0] ?_)))))
     obtain ⟨x65, hx66, h67⟩ := bS h63
     refine oi 5 (fun γ w hs => (hv0_0.kept hs.kept)) hx66 ?_
     refine oN 1 [(51, .q a0_0 (Int.toNat s21.1 * 5 + 4))] [1, 5, 0] ?_
     refine ol 3 4 (.int .i64 x65.Value) (fun γ w hs => (hv0_0.kept hs.kept).flatq hx66) ?_
     refine oN 2 [(54, vb (x65.Value != (w64 ((w64 ((w64 ((w64 (s21.2 + 1)) + 1)) + 1)) + 1))))] [1, 5, 0] ?_
     refine oe (nt (cC h67 (fun h69 => ?_) (fun h70 => ?_)))
     · refine qs (qr (oN 1 [(4, vi (-1))] [] ?_))
       refine oe (nt (qe (nr (br (nr (nr ?_))))))
       have h71 := leafR hd30 h69 h26
       refine br (nr (nr ?_))
       obtain rfl := sI h71
       exact re [.int .i64 (-1)]
     refine qk (nt (qr (oN 3 [(1, vi (w64 ((w64 ((w64 ((w64 ((w64 (s21.2 + 1)) + 1)) + 1)) + 1)) + 1)))] [5, 0] ?_)))
     refine oe (bn (nt (qr (oN 3 [(5, vi (w64 (s21.1 + 1)))] [1, 0] ?_))))
     exact oe (ct h70 () [5, 0, 1] [] 0)
   refine qx (nx (nx (bh ?_)))
   have h72 := leafB hd30 h36 h26
   exact mp (s21.2, ()) h72 [1] [] 0
 have h33 := (congrFun hk28 _).symm.trans h33p
 refine nt (qs (qr (oN 2 [(4, vi y32.1)] [] ?_)))
 refine oe (nt (qe ?_))
 obtain rfl := sI h33
 exact re [.int .i64 y32.1]

theorem c_laws_heldStore {W : World} {x0 : Store} {a0_0 : Option Addr} {c0_0 : Nat} {x1 : Int} {r : Int} (h : laws_heldStore x0 x1 = some r) (hv0_0 : SlView W x0.Facts a0_0 c0_0) :
    Gives0 Tryz.prog 90 #[vStore x0 (a0_0, c0_0), .int .i64 x1] W (.int .i64 r) := by
 unfold laws_heldStore at h
 refine en Tryz.func90 Tryz.ntmps90 ?_
 refine qs (qr (oB 2 [(2, .p 0 0)] [1] [(45, (eStore x0 (a0_0, c0_0)))] ?_))
 refine oe (nt (qs (qr (oN 3 [(7, vi x1), (6, .v (.slice a0_0 x0.Facts.length c0_0))] [] ?_))))
 obtain ⟨t21, h22, h23⟩ := bS h
 refine k0 (fun γ w hs => c_laws_heldFactS h22 (hv0_0.kept hs.kept)) ?_
 refine oN 1 [(1, vi t21)] [] ?_
 refine oe (nt (qs (qs (qr (oN 2 [(10, vb (decide (t21 < 0)))] [1] ?_)))))
 refine oe (nt (cC h23 (fun h26 => ?_) (fun h27 => ?_)))
 · refine qs (qr (oN 1 [(4, vi (-1))] [] ?_))
   refine oe (nt (qe (nr ?_)))
   obtain rfl := sI h26
   exact re [.int .i64 (-1)]
 refine qk (nt (qs (qr (oN 2 [(4, vi t21)] [] ?_))))
 refine oe (nt (qe ?_))
 obtain rfl := sI h27
 exact re [.int .i64 t21]

theorem c_laws_heldPointS {W : World} {x0 : List Point} {a0_0 : Option Addr} {c0_0 : Nat} {x1 : Int} {r : Int} (h : laws_heldPointS x0 x1 = some r) (hv0_0 : SlView W x0 a0_0 c0_0) :
    Gives0 Tryz.prog 146 #[.slice a0_0 x0.length c0_0, .int .i64 x1] W (.int .i64 r) := by
 unfold laws_heldPointS at h
 refine en Tryz.func146 Tryz.ntmps146 ?_
 refine qs (qr (oN 1 [] [0, 1] ?_))
 refine oe (nt (qs (qs (qr (oN 1 [(5, vi 0)] [0, 1] ?_)))))
 refine oe (nt ?_)
 obtain ⟨r24, hL25, h26⟩ := bS h
 obtain ⟨k27, hk28, h26⟩ := brkS h26
 refine JC_cutP (τ := (Int) × (Unit)) (fun y => k27 y.1 = some r) (fun y32 => [(1, vi y32.1)]) (fun y32 => []) (fun y32 => []) ?_ (fun y32 h33p => ?_)
 · refine qb (lp Unit hL25 (fun s21 y22 => [(5, vi s21.1), (0, .v (.slice a0_0 x0.length c0_0)), (1, vi s21.2)]) (fun s21 y22 => []) (fun s21 y22 => []) () [5, 0, 1] [] 0 (fun s21 y22 t23 h29 hd30 => ?_))
   refine qs (qs (qr (oN 4 [(9, vb (decide (s21.1 < (x0.length : Int))))] [5, 0, 1] ?_)))
   refine oe (nt (cC h29 (fun h35 => ?_) (fun h36 => ?_)))
   · refine qk (nt (qs (qb (qs (qs (qr (oN 2 [(13, vi s21.1), (12, .v (.slice a0_0 x0.length c0_0))] [5, 0, 1] ?_)))))))
     obtain ⟨x37, hx38, h39⟩ := bS h35
     refine oi 3 (fun γ w hs => (hv0_0.kept hs.kept)) hx38 ?_
     refine oN 1 [(15, .q a0_0 (Int.toNat s21.1 * 3))] [5, 0, 1] ?_
     refine ol 3 0 (.int .i64 x37.Month) (fun γ w hs => (hv0_0.kept hs.kept).flatq hx38) ?_
     refine oN 2 [(18, vb (x37.Month != s21.2))] [5, 0, 1] ?_
     refine oe (nt (cC h39 (fun h41 => ?_) (fun h42 => ?_)))
     · refine qs (qr (oN 1 [(4, vi (-1))] [] ?_))
       refine oe (nt (qe (nr (br (nr (nr ?_))))))
       have h43 := leafR hd30 h41 h26
       refine br (nr (nr ?_))
       obtain rfl := sI h43
       exact re [.int .i64 (-1)]
     refine qk (nt (qs (qr (oN 3 [(1, vi (w64 (s21.2 + 1)))] [5, 0] ?_))))
     refine oe (nt (qs (qs (qr (oN 2 [(22, vi s21.1), (21, .v (.slice a0_0 x0.length c0_0))] [1, 5, 0] ?_)))))
     obtain ⟨x44, hx45, h46⟩ := bS h42
     refine oi 3 (fun γ w hs => (hv0_0.kept hs.kept)) hx45 ?_
     refine oN 1 [(24, .q a0_0 (Int.toNat s21.1 * 3 + 1))] [1, 5, 0] ?_
     refine ol 3 1 (.int .i64 x44.Known) (fun γ w hs => (hv0_0.kept hs.kept).flatq hx45) ?_
     refine oN 2 [(27, vb (x44.Known != (w64 (s21.2 + 1))))] [1, 5, 0] ?_
     refine oe (nt (cC h46 (fun h48 => ?_) (fun h49 => ?_)))
     · refine qs (qr (oN 1 [(4, vi (-1))] [] ?_))
       refine oe (nt (qe (nr (br (nr (nr ?_))))))
       have h50 := leafR hd30 h48 h26
       refine br (nr (nr ?_))
       obtain rfl := sI h50
       exact re [.int .i64 (-1)]
     refine qk (nt (qs (qr (oN 3 [(1, vi (w64 ((w64 (s21.2 + 1)) + 1)))] [5, 0] ?_))))
     refine oe (nt (qs (qs (qr (oN 2 [(31, vi s21.1), (30, .v (.slice a0_0 x0.length c0_0))] [1, 5, 0] ?_)))))
     obtain ⟨x51, hx52, h53⟩ := bS h49
     refine oi 3 (fun γ w hs => (hv0_0.kept hs.kept)) hx52 ?_
     refine oN 1 [(33, .q a0_0 (Int.toNat s21.1 * 3 + 2))] [1, 5, 0] ?_
     refine ol 3 2 (.int .i64 x51.Value) (fun γ w hs => (hv0_0.kept hs.kept).flatq hx52) ?_
     refine oN 2 [(36, vb (x51.Value != (w64 ((w64 (s21.2 + 1)) + 1))))] [1, 5, 0] ?_
     refine oe (nt (cC h53 (fun h55 => ?_) (fun h56 => ?_)))
     · refine qs (qr (oN 1 [(4, vi (-1))] [] ?_))
       refine oe (nt (qe (nr (br (nr (nr ?_))))))
       have h57 := leafR hd30 h55 h26
       refine br (nr (nr ?_))
       obtain rfl := sI h57
       exact re [.int .i64 (-1)]
     refine qk (nt (qr (oN 3 [(1, vi (w64 ((w64 ((w64 (s21.2 + 1)) + 1)) + 1)))] [5, 0] ?_)))
     refine oe (bn (nt (qr (oN 3 [(5, vi (w64 (s21.1 + 1)))] [1, 0] ?_))))
     exact oe (ct h56 () [5, 0, 1] [] 0)
   refine qx (nx (nx (bh ?_)))
   have h58 := leafB hd30 h36 h26
   exact mp (s21.2, ()) h58 [1] [] 0
 have h33 := (congrFun hk28 _).symm.trans h33p
 refine nt (qs (qr (oN 2 [(4, vi y32.1)] [] ?_)))
 refine oe (nt (qe ?_))
 obtain rfl := sI h33
 exact re [.int .i64 y32.1]

theorem c_laws_heldSeries {W : World} {x0 : Series} {a0_0 : Option Addr} {c0_0 : Nat} {x1 : Int} {r : Int} (h : laws_heldSeries x0 x1 = some r) (hv0_0 : SlView W x0.Points a0_0 c0_0) :
    Gives0 Tryz.prog 91 #[vSeries x0 (a0_0, c0_0), .int .i64 x1] W (.int .i64 r) := by
 unfold laws_heldSeries at h
 refine en Tryz.func91 Tryz.ntmps91 ?_
 refine qs (qr (oB 2 [(2, .p 0 0)] [1] [(48, (eSeries x0 (a0_0, c0_0)))] ?_))
 refine oe (nt (qs (qr (oN 3 [(7, vi x1), (6, .v (.slice a0_0 x0.Points.length c0_0))] [] ?_))))
 obtain ⟨t21, h22, h23⟩ := bS h
 refine k0 (fun γ w hs => c_laws_heldPointS h22 (hv0_0.kept hs.kept)) ?_
 refine oN 1 [(1, vi t21)] [] ?_
 refine oe (nt (qs (qs (qr (oN 2 [(10, vb (decide (t21 < 0)))] [1] ?_)))))
 refine oe (nt (cC h23 (fun h26 => ?_) (fun h27 => ?_)))
 · refine qs (qr (oN 1 [(4, vi (-1))] [] ?_))
   refine oe (nt (qe (nr ?_)))
   obtain rfl := sI h26
   exact re [.int .i64 (-1)]
 refine qk (nt (qs (qr (oN 2 [(4, vi t21)] [] ?_))))
 refine oe (nt (qe ?_))
 obtain rfl := sI h27
 exact re [.int .i64 t21]

theorem c_laws_heldSpellS {W : World} {x0 : List Spell} {a0_0 : Option Addr} {c0_0 : Nat} {x1 : Int} {r : Int} (h : laws_heldSpellS x0 x1 = some r) (hv0_0 : SlView W x0 a0_0 c0_0) :
    Gives0 Tryz.prog 147 #[.slice a0_0 x0.length c0_0, .int .i64 x1] W (.int .i64 r) := by
 unfold laws_heldSpellS at h
 refine en Tryz.func147 Tryz.ntmps147 ?_
 refine qs (qr (oN 1 [] [0, 1] ?_))
 refine oe (nt (qs (qs (qr (oN 1 [(5, vi 0)] [0, 1] ?_)))))
 refine oe (nt ?_)
 obtain ⟨r24, hL25, h26⟩ := bS h
 obtain ⟨k27, hk28, h26⟩ := brkS h26
 refine JC_cutP (τ := (Int) × (Unit)) (fun y => k27 y.1 = some r) (fun y32 => [(1, vi y32.1)]) (fun y32 => []) (fun y32 => []) ?_ (fun y32 h33p => ?_)
 · refine qb (lp Unit hL25 (fun s21 y22 => [(5, vi s21.1), (0, .v (.slice a0_0 x0.length c0_0)), (1, vi s21.2)]) (fun s21 y22 => []) (fun s21 y22 => []) () [5, 0, 1] [] 0 (fun s21 y22 t23 h29 hd30 => ?_))
   refine qs (qs (qr (oN 4 [(9, vb (decide (s21.1 < (x0.length : Int))))] [5, 0, 1] ?_)))
   refine oe (nt (cC h29 (fun h35 => ?_) (fun h36 => ?_)))
   · refine qk (nt (qs (qb (qs (qs (qr (oN 2 [(13, vi s21.1), (12, .v (.slice a0_0 x0.length c0_0))] [5, 0, 1] ?_)))))))
     obtain ⟨x37, hx38, h39⟩ := bS h35
     refine oi 4 (fun γ w hs => (hv0_0.kept hs.kept)) hx38 ?_
     refine oN 1 [(15, .q a0_0 (Int.toNat s21.1 * 4))] [5, 0, 1] ?_
     refine ol 3 0 (.int .i64 x37.From) (fun γ w hs => (hv0_0.kept hs.kept).flatq hx38) ?_
     refine oN 2 [(18, vb (x37.From != s21.2))] [5, 0, 1] ?_
     refine oe (nt (cC h39 (fun h41 => ?_) (fun h42 => ?_)))
     · refine qs (qr (oN 1 [(4, vi (-1))] [] ?_))
       refine oe (nt (qe (nr (br (nr (nr ?_))))))
       have h43 := leafR hd30 h41 h26
       refine br (nr (nr ?_))
       obtain rfl := sI h43
       exact re [.int .i64 (-1)]
     refine qk (nt (qs (qr (oN 3 [(1, vi (w64 (s21.2 + 1)))] [5, 0] ?_))))
     refine oe (nt (qs (qs (qr (oN 2 [(22, vi s21.1), (21, .v (.slice a0_0 x0.length c0_0))] [1, 5, 0] ?_)))))
     obtain ⟨x44, hx45, h46⟩ := bS h42
     refine oi 4 (fun γ w hs => (hv0_0.kept hs.kept)) hx45 ?_
     refine oN 1 [(24, .q a0_0 (Int.toNat s21.1 * 4 + 1))] [1, 5, 0] ?_
     refine ol 3 1 (.int .i64 x44.To) (fun γ w hs => (hv0_0.kept hs.kept).flatq hx45) ?_
     refine oN 2 [(27, vb (x44.To != (w64 (s21.2 + 1))))] [1, 5, 0] ?_
     refine oe (nt (cC h46 (fun h48 => ?_) (fun h49 => ?_)))
     · refine qs (qr (oN 1 [(4, vi (-1))] [] ?_))
       refine oe (nt (qe (nr (br (nr (nr ?_))))))
       have h50 := leafR hd30 h48 h26
       refine br (nr (nr ?_))
       obtain rfl := sI h50
       exact re [.int .i64 (-1)]
     refine qk (nt (qs (qr (oN 3 [(1, vi (w64 ((w64 (s21.2 + 1)) + 1)))] [5, 0] ?_))))
     refine oe (nt (qs (qs (qr (oN 2 [(31, vi s21.1), (30, .v (.slice a0_0 x0.length c0_0))] [1, 5, 0] ?_)))))
     obtain ⟨x51, hx52, h53⟩ := bS h49
     refine oi 4 (fun γ w hs => (hv0_0.kept hs.kept)) hx52 ?_
     refine oN 1 [(33, .q a0_0 (Int.toNat s21.1 * 4 + 2))] [1, 5, 0] ?_
     refine ol 3 2 (.int .i64 x51.Percent) (fun γ w hs => (hv0_0.kept hs.kept).flatq hx52) ?_
     refine oN 2 [(36, vb (x51.Percent != (w64 ((w64 (s21.2 + 1)) + 1))))] [1, 5, 0] ?_
     refine oe (nt (cC h53 (fun h55 => ?_) (fun h56 => ?_)))
     · refine qs (qr (oN 1 [(4, vi (-1))] [] ?_))
       refine oe (nt (qe (nr (br (nr (nr ?_))))))
       have h57 := leafR hd30 h55 h26
       refine br (nr (nr ?_))
       obtain rfl := sI h57
       exact re [.int .i64 (-1)]
     refine qk (nt (qs (qr (oN 3 [(1, vi (w64 ((w64 ((w64 (s21.2 + 1)) + 1)) + 1)))] [5, 0] ?_))))
     refine oe (nt (qs (qs (qr (oN 2 [(40, vi s21.1), (39, .v (.slice a0_0 x0.length c0_0))] [1, 5, 0] ?_)))))
     obtain ⟨x58, hx59, h60⟩ := bS h56
     refine oi 4 (fun γ w hs => (hv0_0.kept hs.kept)) hx59 ?_
     refine oN 1 [(42, .q a0_0 (Int.toNat s21.1 * 4 + 3))] [1, 5, 0] ?_
     refine ol 4 3 (.bool x58.Leave) (fun γ w hs => (hv0_0.kept hs.kept).flatq hx59) ?_
     refine oN 4 [(47, vb (!(x58.Leave == ((Int.tmod (w64 ((w64 ((w64 (s21.2 + 1)) + 1)) + 1)) 3) == 0))))] [1, 5, 0] ?_
     refine oe (nt (cC h60 (fun h62 => ?_) (fun h63 => ?_)))
     · refine qs (qr (oN 1 [(4, vi (-1))] [] ?_))
       refine oe (nt (qe (nr (br (nr (nr ?_))))))
       have h64 := leafR hd30 h62 h26
       refine br (nr (nr ?_))
       obtain rfl := sI h64
       exact re [.int .i64 (-1)]
     refine qk (nt (qr (oN 3 [(1, vi (w64 ((w64 ((w64 ((w64 (s21.2 + 1)) + 1)) + 1)) + 1)))] [5, 0] ?_)))
     refine oe (bn (nt (qr (oN 3 [(5, vi (w64 (s21.1 + 1)))] [1, 0] ?_))))
     exact oe (ct h63 () [5, 0, 1] [] 0)
   refine qx (nx (nx (bh ?_)))
   have h65 := leafB hd30 h36 h26
   exact mp (s21.2, ()) h65 [1] [] 0
 have h33 := (congrFun hk28 _).symm.trans h33p
 refine nt (qs (qr (oN 2 [(4, vi y32.1)] [] ?_)))
 refine oe (nt (qe ?_))
 obtain rfl := sI h33
 exact re [.int .i64 y32.1]

theorem c_laws_heldEventS {W : World} {x0 : List Event} {a0_0 : Option Addr} {c0_0 : Nat} {x1 : Int} {r : Int} (h : laws_heldEventS x0 x1 = some r) (hv0_0 : SlView W x0 a0_0 c0_0) :
    Gives0 Tryz.prog 148 #[.slice a0_0 x0.length c0_0, .int .i64 x1] W (.int .i64 r) := by
 unfold laws_heldEventS at h
 refine en Tryz.func148 Tryz.ntmps148 ?_
 refine qs (qr (oN 1 [] [0, 1] ?_))
 refine oe (nt (qs (qs (qr (oN 1 [(5, vi 0)] [0, 1] ?_)))))
 refine oe (nt ?_)
 obtain ⟨r24, hL25, h26⟩ := bS h
 obtain ⟨k27, hk28, h26⟩ := brkS h26
 refine JC_cutP (τ := (Int) × (Unit)) (fun y => k27 y.1 = some r) (fun y32 => [(1, vi y32.1)]) (fun y32 => []) (fun y32 => []) ?_ (fun y32 h33p => ?_)
 · refine qb (lp Unit hL25 (fun s21 y22 => [(5, vi s21.1), (0, .v (.slice a0_0 x0.length c0_0)), (1, vi s21.2)]) (fun s21 y22 => []) (fun s21 y22 => []) () [5, 0, 1] [] 0 (fun s21 y22 t23 h29 hd30 => ?_))
   refine qs (qs (qr (oN 4 [(9, vb (decide (s21.1 < (x0.length : Int))))] [5, 0, 1] ?_)))
   refine oe (nt (cC h29 (fun h35 => ?_) (fun h36 => ?_)))
   · refine qk (nt (qs (qb (qs (qs (qr (oN 2 [(13, vi s21.1), (12, .v (.slice a0_0 x0.length c0_0))] [5, 0, 1] ?_)))))))
     obtain ⟨x37, hx38, h39⟩ := bS h35
     refine oi 2 (fun γ w hs => (hv0_0.kept hs.kept)) hx38 ?_
     refine oN 1 [(15, .q a0_0 (Int.toNat s21.1 * 2))] [5, 0, 1] ?_
     refine ol 3 0 (.int .i64 x37.Kind) (fun γ w hs => (hv0_0.kept hs.kept).flatq hx38) ?_
     refine oN 2 [(18, vb (x37.Kind != s21.2))] [5, 0, 1] ?_
     refine oe (nt (cC h39 (fun h41 => ?_) (fun h42 => ?_)))
     · refine qs (qr (oN 1 [(4, vi (-1))] [] ?_))
       refine oe (nt (qe (nr (br (nr (nr ?_))))))
       have h43 := leafR hd30 h41 h26
       refine br (nr (nr ?_))
       obtain rfl := sI h43
       exact re [.int .i64 (-1)]
     refine qk (nt (qs (qr (oN 3 [(1, vi (w64 (s21.2 + 1)))] [5, 0] ?_))))
     refine oe (nt (qs (qs (qr (oN 2 [(22, vi s21.1), (21, .v (.slice a0_0 x0.length c0_0))] [1, 5, 0] ?_)))))
     obtain ⟨x44, hx45, h46⟩ := bS h42
     refine oi 2 (fun γ w hs => (hv0_0.kept hs.kept)) hx45 ?_
     refine oN 1 [(24, .q a0_0 (Int.toNat s21.1 * 2 + 1))] [1, 5, 0] ?_
     refine ol 3 1 (.int .i64 x44.Month) (fun γ w hs => (hv0_0.kept hs.kept).flatq hx45) ?_
     refine oN 2 [(27, vb (x44.Month != (w64 (s21.2 + 1))))] [1, 5, 0] ?_
     refine oe (nt (cC h46 (fun h48 => ?_) (fun h49 => ?_)))
     · refine qs (qr (oN 1 [(4, vi (-1))] [] ?_))
       refine oe (nt (qe (nr (br (nr (nr ?_))))))
       have h50 := leafR hd30 h48 h26
       refine br (nr (nr ?_))
       obtain rfl := sI h50
       exact re [.int .i64 (-1)]
     refine qk (nt (qr (oN 3 [(1, vi (w64 ((w64 (s21.2 + 1)) + 1)))] [5, 0] ?_)))
     refine oe (bn (nt (qr (oN 3 [(5, vi (w64 (s21.1 + 1)))] [1, 0] ?_))))
     exact oe (ct h49 () [5, 0, 1] [] 0)
   refine qx (nx (nx (bh ?_)))
   have h51 := leafB hd30 h36 h26
   exact mp (s21.2, ()) h51 [1] [] 0
 have h33 := (congrFun hk28 _).symm.trans h33p
 refine nt (qs (qr (oN 2 [(4, vi y32.1)] [] ?_)))
 refine oe (nt (qe ?_))
 obtain rfl := sI h33
 exact re [.int .i64 y32.1]

theorem c_laws_heldMember {W : World} {x0 : Member} {b0 : AC × AC} {x1 : Int} {r : Int} (h : laws_heldMember x0 x1 = some r) (hv0_0 : SlView W x0.Spells b0.1.1 b0.1.2) (hv0_1 : SlView W x0.Events b0.2.1 b0.2.2) :
    Gives0 Tryz.prog 92 #[vMember x0 b0, .int .i64 x1] W (.int .i64 r) := by
 unfold laws_heldMember at h
 refine en Tryz.func92 Tryz.ntmps92 ?_
 refine qs (qr (oB 2 [(2, .p 0 0)] [1] [(52, (eMember x0 b0))] ?_))
 refine oe (nt (qs (qr (oN 3 [(7, vi x1), (6, .v (.slice b0.1.1 x0.Spells.length b0.1.2))] [2] ?_))))
 obtain ⟨t21, h22, h23⟩ := bS h
 refine k0 (fun γ w hs => c_laws_heldSpellS h22 (hv0_0.kept hs.kept)) ?_
 refine oN 1 [(1, vi t21)] [2] ?_
 refine oe (nt (qs (qs (qr (oN 2 [(10, vb (decide (t21 < 0)))] [1, 2] ?_)))))
 refine oe (nt (cC h23 (fun h26 => ?_) (fun h27 => ?_)))
 · refine qs (qr (oN 1 [(4, vi (-1))] [] ?_))
   refine oe (nt (qe (nr ?_)))
   obtain rfl := sI h26
   exact re [.int .i64 (-1)]
 refine qk (nt (qs (qr (oN 3 [(13, vi t21), (12, .v (.slice b0.2.1 x0.Events.length b0.2.2))] [] ?_))))
 obtain ⟨t28, h29, h30⟩ := bS h27
 refine k0 (fun γ w hs => c_laws_heldEventS h29 (hv0_1.kept hs.kept)) ?_
 refine oN 1 [(1, vi t28)] [] ?_
 refine oe (nt (qs (qs (qr (oN 2 [(16, vb (decide (t28 < 0)))] [1] ?_)))))
 refine oe (nt (cC h30 (fun h33 => ?_) (fun h34 => ?_)))
 · refine qs (qr (oN 1 [(4, vi (-1))] [] ?_))
   refine oe (nt (qe (nr ?_)))
   obtain rfl := sI h33
   exact re [.int .i64 (-1)]
 refine qk (nt (qs (qr (oN 2 [(4, vi t28)] [] ?_))))
 refine oe (nt (qe ?_))
 obtain rfl := sI h34
 exact re [.int .i64 t28]

theorem c_laws_heldCase {W : World} {x0 : Case} {b0 : AC × AC × AC × AC × AC} {x1 : Int} {r : Int} (h : laws_heldCase x0 x1 = some r) (hv0_0 : SlView W x0.Book.Rules b0.1.1 b0.1.2) (hv0_1 : SlView W x0.Store.Facts b0.2.1.1 b0.2.1.2) (hv0_2 : SlView W x0.Series.Points b0.2.2.1.1 b0.2.2.1.2) (hv0_3 : SlView W x0.Member.Spells b0.2.2.2.1.1 b0.2.2.2.1.2) (hv0_4 : SlView W x0.Member.Events b0.2.2.2.2.1 b0.2.2.2.2.2) :
    Gives0 Tryz.prog 29 #[vCase x0 b0, .int .i64 x1] W (.int .i64 r) := by
 unfold laws_heldCase at h
 refine en Tryz.func29 Tryz.ntmps29 ?_
 refine qs (qr (oB 2 [(2, .p 0 0)] [1] [(54, (eCase x0 b0))] ?_))
 refine oe (nt (qs (qr (oN 3 [(7, vi x1), (6, .v (vBook x0.Book b0.1))] [2] ?_))))
 obtain ⟨t21, h22, h23⟩ := bS h
 refine k0 (fun γ w hs => c_laws_heldBook h22 (hv0_0.kept hs.kept)) ?_
 refine oN 1 [(1, vi t21)] [2] ?_
 refine oe (nt (qs (qs (qr (oN 2 [(10, vb (decide (t21 < 0)))] [1, 2] ?_)))))
 refine oe (nt (cC h23 (fun h26 => ?_) (fun h27 => ?_)))
 · refine qs (qr (oN 1 [(4, vi (-1))] [] ?_))
   refine oe (nt (qe (nr ?_)))
   obtain rfl := sI h26
   exact re [.int .i64 (-1)]
 refine qk (nt (qs (qr (oN 3 [(13, vi t21), (12, .v (vStore x0.Store b0.2.1))] [2] ?_))))
 obtain ⟨t28, h29, h30⟩ := bS h27
 refine k0 (fun γ w hs => c_laws_heldStore h29 (hv0_1.kept hs.kept)) ?_
 refine oN 1 [(1, vi t28)] [2] ?_
 refine oe (nt (qs (qs (qr (oN 2 [(16, vb (decide (t28 < 0)))] [1, 2] ?_)))))
 refine oe (nt (cC h30 (fun h33 => ?_) (fun h34 => ?_)))
 · refine qs (qr (oN 1 [(4, vi (-1))] [] ?_))
   refine oe (nt (qe (nr ?_)))
   obtain rfl := sI h33
   exact re [.int .i64 (-1)]
 refine qk (nt (qs (qr (oN 3 [(19, vi t28), (18, .v (vSeries x0.Series b0.2.2.1))] [2] ?_))))
 obtain ⟨t35, h36, h37⟩ := bS h34
 refine k0 (fun γ w hs => c_laws_heldSeries h36 (hv0_2.kept hs.kept)) ?_
 refine oN 1 [(1, vi t35)] [2] ?_
 refine oe (nt (qs (qs (qr (oN 2 [(22, vb (decide (t35 < 0)))] [1, 2] ?_)))))
 refine oe (nt (cC h37 (fun h40 => ?_) (fun h41 => ?_)))
 · refine qs (qr (oN 1 [(4, vi (-1))] [] ?_))
   refine oe (nt (qe (nr ?_)))
   obtain rfl := sI h40
   exact re [.int .i64 (-1)]
 refine qk (nt (qs (qr (oN 3 [(25, vi t35), (24, .v (vMember x0.Member b0.2.2.2))] [] ?_))))
 obtain ⟨t42, h43, h44⟩ := bS h41
 refine k0 (fun γ w hs => c_laws_heldMember (b0 := b0.2.2.2) h43 (hv0_3.kept hs.kept) (hv0_4.kept hs.kept)) ?_
 refine oN 1 [(1, vi t42)] [] ?_
 refine oe (nt (qs (qs (qr (oN 2 [(28, vb (decide (t42 < 0)))] [1] ?_)))))
 refine oe (nt (cC h44 (fun h47 => ?_) (fun h48 => ?_)))
 · refine qs (qr (oN 1 [(4, vi (-1))] [] ?_))
   refine oe (nt (qe (nr ?_)))
   obtain rfl := sI h47
   exact re [.int .i64 (-1)]
 refine qk (nt (qs (qr (oN 2 [(4, vi t42)] [] ?_))))
 refine oe (nt (qe ?_))
 obtain rfl := sI h48
 exact re [.int .i64 t42]

theorem c_laws_FnExactWithRule {W : World} {x0 : Case} {b0 : AC × AC × AC × AC × AC} {x1 : Rule} {a1_0 : Option Addr} {c1_0 : Nat} {r : Bool} (h : laws_FnExactWithRule x0 x1 = some r) (hv0_0 : SlView W x0.Book.Rules b0.1.1 b0.1.2) (hv0_1 : SlView W x0.Store.Facts b0.2.1.1 b0.2.1.2) (hv0_2 : SlView W x0.Series.Points b0.2.2.1.1 b0.2.2.1.2) (hv0_3 : SlView W x0.Member.Spells b0.2.2.2.1.1 b0.2.2.2.1.2) (hv0_4 : SlView W x0.Member.Events b0.2.2.2.2.1 b0.2.2.2.2.2) (hv1_0 : SlView W x1.Nodes a1_0 c1_0) :
    Gives0 Tryz.prog 4 #[vCase x0 b0, vRule x1 (a1_0, c1_0)] W (.bool r) := by
 unfold laws_FnExactWithRule at h
 refine en Tryz.func4 Tryz.ntmps4 ?_
 refine qs (qr (oB 3 [(3, .p 1 0), (2, .p 0 0)] [] [(36, (eCase x0 b0)), (63, (eRule x1 (a1_0, c1_0)))] ?_))
 refine oe (nt (qs (qr (oN 1 [(5, vi 1048576)] [3, 2] ?_))))
 refine oe (nt (qs (qr (oN 2 [(18, vi 1048576), (17, .v (vCase x0 b0))] [3, 2] ?_))))
 obtain ⟨t21, h22, h23⟩ := bS h
 refine k0 (fun γ w hs => c_laws_szCase (b0 := b0) h22 (hv0_0.kept hs.kept) (hv0_1.kept hs.kept) (hv0_2.kept hs.kept) (hv0_3.kept hs.kept) (hv0_4.kept hs.kept)) ?_
 refine oN 1 [(5, vi t21)] [3, 2] ?_
 refine oe (nt (qs (qs (qr (oN 2 [(21, vb (decide (t21 < 0)))] [5, 3, 2] ?_)))))
 refine oe (nt (cC h23 (fun h26 => ?_) (fun h27 => ?_)))
 · refine qs (qr (oN 1 [(4, vb true)] [] ?_))
   refine oe (nt (qe (nr ?_)))
   obtain rfl := sI h26
   exact re [.bool true]
 refine qk (nt (qs (qr (oN 2 [(23, vi t21), (22, .v (vRule x1 (a1_0, c1_0)))] [3, 2] ?_))))
 obtain ⟨t28, h29, h30⟩ := bS h27
 refine k0 (fun γ w hs => c_laws_szRule h29 (hv1_0.kept hs.kept)) ?_
 refine oN 1 [(5, vi t28)] [3, 2] ?_
 refine oe (nt (qs (qs (qr (oN 2 [(26, vb (decide (t28 < 0)))] [3, 2] ?_)))))
 refine oe (nt (cC h30 (fun h33 => ?_) (fun h34 => ?_)))
 · refine qs (qr (oN 1 [(4, vb true)] [] ?_))
   refine oe (nt (qe (nr ?_)))
   obtain rfl := sI h33
   exact re [.bool true]
 refine qk (nt (qs ?_))
 obtain ⟨t35, h36, h37⟩ := bS h34
 obtain ⟨t39, h40, h41⟩ := bS h37
 obtain ⟨t43, h44, h45⟩ := bS h41
 refine JC_cut (τ := (AC × AC × AC × AC × AC)) (fun y47 => [(7, vb t43.2), (6, .p 2 0), (3, .p 1 0), (2, .p 0 0)]) (fun y47 => [(36, (eCase x0 b0)), (63, (eRule x1 (a1_0, c1_0))), (54, (eCase t43.1 y47))]) (fun y47 => [SlRes 69 t43.1.Book.Rules y47.1.1 y47.1.2, SlRes 203 t43.1.Store.Facts y47.2.1.1 y47.2.1.2, SlRes 207 t43.1.Series.Points y47.2.2.1.1 y47.2.2.1.2, SlRes 211 t43.1.Member.Spells y47.2.2.2.1.1 y47.2.2.2.1.2, SlRes 215 t43.1.Member.Events y47.2.2.2.2.1 y47.2.2.2.2.2]) ?_ (fun y47 => ?_)
 · refine jw [3, 2] [] ?_
   refine JC_heldN (ks := [0, 1]) (Rk := []) 11 (by kernel_rfl) (by kernel_rfl) ?_
   refine htq 0 (.v (vCase x0 b0)) [] ?_
   refine htq 2 (.v (vRule x1 (a1_0, c1_0))) [] ?_
   refine ha2 1 8 ?_ ?_
   · refine hi (fun γ0 δ hm => ?_)
     refine g1 (fun w hs => c_laws_toCase (b0 := b0) h36 (hv0_0.kept hs.kept) (hv0_1.kept hs.kept) (hv0_2.kept hs.kept) (hv0_3.kept hs.kept) (hv0_4.kept hs.kept)) (fun y38 => ?_)
     refine gn hm [29, 30, 3, 2] [] ?_
     refine ha2 3 8 ?_ ?_
     · refine hi (fun γ0 δ hm => ?_)
       refine g1 (fun w hs => c_laws_toRule h40 (hv1_0.kept hs.kept)) (fun y42 => ?_)
       refine gn hm [31, 29, 3, 2] [] ?_
       refine ha2 4 8 ?_ ?_
       · refine hi (fun γ0 δ hm => ?_)
         refine g1 (fun w hs => c_spec_WithRule (b0 := y38) h44 (hs.view 1 rfl) (hs.view 2 rfl) (hs.view 3 rfl) (hs.view 4 rfl) (hs.view 5 rfl) (hs.view 0 rfl)) (fun y46 => ?_)
         refine gn hm [32, 3, 2] [] ?_
         refine htq 5 (.v (.tuple #[vCase t43.1 y46, .bool t43.2])) [] ?_
         refine hk [27, 3, 2] ?_
         refine htq 6 (.v (vCase t43.1 y46)) [] ?_
         refine htq 7 (vb t43.2) [] ?_
         refine hk [34, 33, 3, 2] ?_
         refine ha1 8 ?_
         refine hi (fun γ0 δ hm => ?_)
         refine gs [(6, .p 2 0), (34, vb t43.2), (33, .v (vCase t43.1 y46)), (3, .p 1 0), (2, .p 0 0)] [(36, (eCase x0 b0)), (63, (eRule x1 (a1_0, c1_0))), (54, [.slice none 0 0, .slice none 0 0, .slice none 0 0, .int .i64 0, .int .i64 0, .slice none 0 0, .slice none 0 0])] (fun δ2 => ?_)
         refine gd hm [6, 34, 33, 3, 2] [] ?_
         refine ha1 9 ?_
         refine hi (fun γ0 δ hm => ?_)
         refine gs [(6, .p 2 0), (34, vb t43.2), (33, .v (vCase t43.1 y46)), (3, .p 1 0), (2, .p 0 0)] [(36, (eCase x0 b0)), (63, (eRule x1 (a1_0, c1_0))), (54, (eCase t43.1 y46))] (fun δ2 => ?_)
         refine gd hm [6, 34, 3, 2] [] ?_
         refine htq 10 (vb t43.2) [] ?_
         refine hk [7, 6, 3, 2] ?_
         exact hd y46 [7, 6, 3, 2] [0, 0, 0, 0, 0] 3
       · refine hi (fun γ0 δ hm => ?_)
         refine gs [(6, .p 2 0), (31, .v (vRule t39 y42)), (29, .v (vCase t35 y38)), (3, .p 1 0), (2, .p 0 0)] [(36, (eCase x0 b0)), (63, (eRule x1 (a1_0, c1_0))), (54, [.slice none 0 0, .slice none 0 0, .slice none 0 0, .int .i64 0, .int .i64 0, .slice none 0 0, .slice none 0 0])] (fun δ2 => ?_)
         refine gd hm [6, 31, 29, 3, 2] [] ?_
         refine ha1 4 ?_
         refine hi (fun γ0 δ hm => ?_)
         refine g1 (fun w hs => c_spec_WithRule (b0 := y38) h44 (hs.view 1 rfl) (hs.view 2 rfl) (hs.view 3 rfl) (hs.view 4 rfl) (hs.view 5 rfl) (hs.view 0 rfl)) (fun y46 => ?_)
         refine gn hm [32, 6, 3, 2] [] ?_
         refine htq 5 (.v (.tuple #[vCase t43.1 y46, .bool t43.2])) [] ?_
         refine hk [27, 6, 3, 2] ?_
         refine htq 6 (.v (vCase t43.1 y46)) [] ?_
         refine htq 7 (vb t43.2) [] ?_
         refine hk [34, 33, 6, 3, 2] ?_
         refine ha1 9 ?_
         refine hi (fun γ0 δ hm => ?_)
         refine gs [(34, vb t43.2), (33, .v (vCase t43.1 y46)), (6, .p 2 0), (3, .p 1 0), (2, .p 0 0)] [(36, (eCase x0 b0)), (63, (eRule x1 (a1_0, c1_0))), (54, (eCase t43.1 y46))] (fun δ2 => ?_)
         refine gd hm [34, 6, 3, 2] [] ?_
         refine htq 10 (vb t43.2) [] ?_
         refine hk [7, 6, 3, 2] ?_
         exact hd y46 [7, 6, 3, 2] [0, 0, 0, 0, 0] 3
     · refine hi (fun γ0 δ hm => ?_)
       refine gs [(6, .p 2 0), (29, .v (vCase t35 y38)), (30, .v (vRule x1 (a1_0, c1_0))), (3, .p 1 0), (2, .p 0 0)] [(36, (eCase x0 b0)), (63, (eRule x1 (a1_0, c1_0))), (54, [.slice none 0 0, .slice none 0 0, .slice none 0 0, .int .i64 0, .int .i64 0, .slice none 0 0, .slice none 0 0])] (fun δ2 => ?_)
       refine gd hm [6, 29, 30, 3, 2] [] ?_
       refine ha1 3 ?_
       refine hi (fun γ0 δ hm => ?_)
       refine g1 (fun w hs => c_laws_toRule h40 (hv1_0.kept hs.kept)) (fun y42 => ?_)
       refine gn hm [31, 6, 29, 3, 2] [] ?_
       refine ha1 4 ?_
       refine hi (fun γ0 δ hm => ?_)
       refine g1 (fun w hs => c_spec_WithRule (b0 := y38) h44 (hs.view 1 rfl) (hs.view 2 rfl) (hs.view 3 rfl) (hs.view 4 rfl) (hs.view 5 rfl) (hs.view 0 rfl)) (fun y46 => ?_)
       refine gn hm [32, 6, 3, 2] [] ?_
       refine htq 5 (.v (.tuple #[vCase t43.1 y46, .bool t43.2])) [] ?_
       refine hk [27, 6, 3, 2] ?_
       refine htq 6 (.v (vCase t43.1 y46)) [] ?_
       refine htq 7 (vb t43.2) [] ?_
       refine hk [34, 33, 6, 3, 2] ?_
       refine ha1 9 ?_
       refine hi (fun γ0 δ hm => ?_)
       refine gs [(34, vb t43.2), (33, .v (vCase t43.1 y46)), (6, .p 2 0), (3, .p 1 0), (2, .p 0 0)] [(36, (eCase x0 b0)), (63, (eRule x1 (a1_0, c1_0))), (54, (eCase t43.1 y46))] (fun δ2 => ?_)
       refine gd hm [34, 6, 3, 2] [] ?_
       refine htq 10 (vb t43.2) [] ?_
       refine hk [7, 6, 3, 2] ?_
       exact hd y46 [7, 6, 3, 2] [0, 0, 0, 0, 0] 3
   · refine hi (fun γ0 δ hm => ?_)
     refine gs [(6, .p 2 0), (30, .v (vRule x1 (a1_0, c1_0))), (28, .v (vCase x0 b0)), (3, .p 1 0), (2, .p 0 0)] [(36, (eCase x0 b0)), (63, (eRule x1 (a1_0, c1_0))), (54, [.slice none 0 0, .slice none 0 0, .slice none 0 0, .int .i64 0, .int .i64 0, .slice none 0 0, .slice none 0 0])] (fun δ2 => ?_)
     refine gd hm [6, 30, 28, 3, 2] [] ?_
     refine ha1 1 ?_
     refine hi (fun γ0 δ hm => ?_)
     refine g1 (fun w hs => c_laws_toCase (b0 := b0) h36 (hv0_0.kept hs.kept) (hv0_1.kept hs.kept) (hv0_2.kept hs.kept) (hv0_3.kept hs.kept) (hv0_4.kept hs.kept)) (fun y38 => ?_)
     refine gn hm [29, 6, 30, 3, 2] [] ?_
     refine ha1 3 ?_
     refine hi (fun γ0 δ hm => ?_)
     refine g1 (fun w hs => c_laws_toRule h40 (hv1_0.kept hs.kept)) (fun y42 => ?_)
     refine gn hm [31, 29, 6, 3, 2] [] ?_
     refine ha1 4 ?_
     refine hi (fun γ0 δ hm => ?_)
     refine g1 (fun w hs => c_spec_WithRule (b0 := y38) h44 (hs.view 1 rfl) (hs.view 2 rfl) (hs.view 3 rfl) (hs.view 4 rfl) (hs.view 5 rfl) (hs.view 0 rfl)) (fun y46 => ?_)
     refine gn hm [32, 6, 3, 2] [] ?_
     refine htq 5 (.v (.tuple #[vCase t43.1 y46, .bool t43.2])) [] ?_
     refine hk [27, 6, 3, 2] ?_
     refine htq 6 (.v (vCase t43.1 y46)) [] ?_
     refine htq 7 (vb t43.2) [] ?_
     refine hk [34, 33, 6, 3, 2] ?_
     refine ha1 9 ?_
     refine hi (fun γ0 δ hm => ?_)
     refine gs [(34, vb t43.2), (33, .v (vCase t43.1 y46)), (6, .p 2 0), (3, .p 1 0), (2, .p 0 0)] [(36, (eCase x0 b0)), (63, (eRule x1 (a1_0, c1_0))), (54, (eCase t43.1 y46))] (fun δ2 => ?_)
     refine gd hm [34, 6, 3, 2] [] ?_
     refine htq 10 (vb t43.2) [] ?_
     refine hk [7, 6, 3, 2] ?_
     exact hd y46 [7, 6, 3, 2] [0, 0, 0, 0, 0] 3
 refine nt (qs (qr (oN 1 [(35, .v (vCase x0 b0))] [7, 6, 3, 2] ?_)))
 obtain ⟨t48, h49, h50⟩ := bS h45
 refine k1 (fun γ w hs => c_laws_toCase (b0 := b0) h49 (hv0_0.kept hs.kept) (hv0_1.kept hs.kept) (hv0_2.kept hs.kept) (hv0_3.kept hs.kept) (hv0_4.kept hs.kept)) (fun y51 => ?_)
 refine oB 2 [(8, .p 3 0)] [7, 6, 3, 2] [(36, (eCase x0 b0)), (63, (eRule x1 (a1_0, c1_0))), (54, (eCase t43.1 y47)), (54, (eCase t48 y51))] ?_
 refine oe (nt (qs (qr (oN 1 [(37, .v (vRule x1 (a1_0, c1_0)))] [8, 7, 6, 3, 2] ?_))))
 obtain ⟨t52, h53, h54⟩ := bS h50
 refine k1 (fun γ w hs => c_laws_toRule h53 (hv1_0.kept hs.kept)) (fun y55 => ?_)
 refine oB 2 [(9, .p 4 0)] [8, 7, 6, 3, 2] [(36, (eCase x0 b0)), (63, (eRule x1 (a1_0, c1_0))), (54, (eCase t43.1 y47)), (54, (eCase t48 y51)), (69, (eRule t52 y55))] ?_
 refine oe (nt (qs (qr (oN 2 [(41, .v (vRule t52 y55)), (40, .v (vCase t48 y51))] [9, 8, 7, 6, 3, 2] ?_))))
 obtain ⟨t56, h57, h58⟩ := bS h54
 refine k1 (fun γ w hs => c_impl_WithRule (b0 := y51) h57 (hs.view 1 rfl) (hs.view 2 rfl) (hs.view 3 rfl) (hs.view 4 rfl) (hs.view 5 rfl) (hs.view 0 rfl)) (fun y59 => ?_)
 refine oB 6 [(11, vb t56.2), (10, .p 5 0)] [9, 8, 7, 6, 3, 2] [(36, (eCase x0 b0)), (63, (eRule x1 (a1_0, c1_0))), (54, (eCase t43.1 y47)), (54, (eCase t48 y51)), (69, (eRule t52 y55)), (54, (eCase t56.1 y59))] ?_
 refine oe (nt (qs (qs ?_)))
 obtain ⟨p60, hE61, h62⟩ := bS h58
 refine JC_cut (τ := Unit) (fun _ => [(2, .p 0 0), (3, .p 1 0), (6, .p 2 0), (7, vb t43.2), (8, .p 3 0), (9, .p 4 0), (10, .p 5 0), (11, vb t56.2), (53, vb p60)]) (fun _ => [(36, (eCase x0 b0)), (63, (eRule x1 (a1_0, c1_0))), (54, (eCase t43.1 y47)), (54, (eCase t48 y51)), (69, (eRule t52 y55)), (54, (eCase t56.1 y59))]) (fun _ => [SlRes 69 t43.1.Book.Rules y47.1.1 y47.1.2, SlRes 203 t43.1.Store.Facts y47.2.1.1 y47.2.1.2, SlRes 207 t43.1.Series.Points y47.2.2.1.1 y47.2.2.1.2, SlRes 211 t43.1.Member.Spells y47.2.2.2.1.1 y47.2.2.2.1.2, SlRes 215 t43.1.Member.Events y47.2.2.2.2.1 y47.2.2.2.2.2, SlRes 69 t48.Book.Rules y51.1.1 y51.1.2, SlRes 203 t48.Store.Facts y51.2.1.1 y51.2.1.2, SlRes 207 t48.Series.Points y51.2.2.1.1 y51.2.2.1.2, SlRes 211 t48.Member.Spells y51.2.2.2.1.1 y51.2.2.2.1.2, SlRes 215 t48.Member.Events y51.2.2.2.2.1 y51.2.2.2.2.2, SlRes 120 t52.Nodes y55.1 y55.2, SlRes 69 t56.1.Book.Rules y59.1.1 y59.1.2, SlRes 203 t56.1.Store.Facts y59.2.1.1 y59.2.1.2, SlRes 207 t56.1.Series.Points y59.2.2.1.1 y59.2.2.1.2, SlRes 211 t56.1.Member.Spells y59.2.2.2.1.1 y59.2.2.2.1.2, SlRes 215 t56.1.Member.Events y59.2.2.2.2.1 y59.2.2.2.2.2]) ?_ (fun _ => ?_)
 · refine qr (oN 2 [(46, .v (vCase t43.1 y47)), (45, .v (vCase t56.1 y59))] [11, 10, 9, 8, 7, 6, 3, 2] ?_)
   obtain ⟨t63, h64, h65⟩ := bS hE61
   refine k0 (fun γ w hs => c_laws_eqCase (b0 := y59) (b1 := y47) h64 (hs.view 0 rfl) (hs.view 1 rfl) (hs.view 2 rfl) (hs.view 3 rfl) (hs.view 4 rfl) (hs.view 11 rfl) (hs.view 12 rfl) (hs.view 13 rfl) (hs.view 14 rfl) (hs.view 15 rfl)) ?_
   refine oN 2 [(49, vb (!t63))] [11, 10, 9, 8, 7, 6, 3, 2] ?_
   refine oS 49 h65 (fun h68 => ?_) (fun h69 => ?_)
   · refine oN 4 [(53, vb true)] [11, 10, 9, 8, 7, 6, 3, 2] ?_
     refine oe ?_
     obtain rfl := sI h68
     exact mt () [2, 3, 6, 7, 8, 9, 10, 11, 53] [11, 11, 11, 11, 11, 6, 6, 6, 6, 6, 5, 0, 0, 0, 0, 0] 6
   refine oN 4 [(53, vb (!(t56.2 == t43.2)))] [11, 10, 9, 8, 7, 6, 3, 2] ?_
   refine oe ?_
   obtain rfl := sI h69
   exact mt () [2, 3, 6, 7, 8, 9, 10, 11, 53] [11, 11, 11, 11, 11, 6, 6, 6, 6, 6, 5, 0, 0, 0, 0, 0] 6
 refine nt (cC h62 (fun h71 => ?_) (fun h72 => ?_))
 · refine qs (qr (oN 1 [(4, vb false)] [] ?_))
   refine oe (nt (qe (nr ?_)))
   obtain rfl := sI h71
   exact re [.bool false]
 refine qk (nt (qs (qs ?_)))
 obtain ⟨t73, h74, h75⟩ := bS h72
 obtain ⟨t77, h78, h79⟩ := bS h75
 refine JC_cut (τ := Unit) (fun _ => [(58, vb (!t77)), (2, .p 0 0), (3, .p 1 0), (6, .p 2 0), (7, vb t43.2), (8, .p 3 0), (9, .p 4 0), (10, .p 5 0), (11, vb t56.2)]) (fun _ => [(36, (eCase x0 b0)), (63, (eRule x1 (a1_0, c1_0))), (54, (eCase t43.1 y47)), (54, (eCase t48 y51)), (69, (eRule t52 y55)), (54, (eCase t56.1 y59))]) (fun _ => [SlRes 69 t43.1.Book.Rules y47.1.1 y47.1.2, SlRes 203 t43.1.Store.Facts y47.2.1.1 y47.2.1.2, SlRes 207 t43.1.Series.Points y47.2.2.1.1 y47.2.2.1.2, SlRes 211 t43.1.Member.Spells y47.2.2.2.1.1 y47.2.2.2.1.2, SlRes 215 t43.1.Member.Events y47.2.2.2.2.1 y47.2.2.2.2.2, SlRes 69 t48.Book.Rules y51.1.1 y51.1.2, SlRes 203 t48.Store.Facts y51.2.1.1 y51.2.1.2, SlRes 207 t48.Series.Points y51.2.2.1.1 y51.2.2.1.2, SlRes 211 t48.Member.Spells y51.2.2.2.1.1 y51.2.2.2.1.2, SlRes 215 t48.Member.Events y51.2.2.2.2.1 y51.2.2.2.2.2, SlRes 120 t52.Nodes y55.1 y55.2, SlRes 69 t56.1.Book.Rules y59.1.1 y59.1.2, SlRes 203 t56.1.Store.Facts y59.2.1.1 y59.2.1.2, SlRes 207 t56.1.Series.Points y59.2.2.1.1 y59.2.2.1.2, SlRes 211 t56.1.Member.Spells y59.2.2.2.1.1 y59.2.2.2.1.2, SlRes 215 t56.1.Member.Events y59.2.2.2.2.1 y59.2.2.2.2.2]) ?_ (fun _ => ?_)
 · refine JC_weak [2, 3, 6, 7, 8, 9, 10, 11] [0, 0, 0, 0, 0, 0, 0, 0, 0, 0, 0, 0, 0, 0, 0, 0] 6 (sl' := [(2, .p 0 0), (3, .p 1 0), (6, .p 2 0), (7, vb t43.2), (8, .p 3 0), (9, .p 4 0), (10, .p 5 0), (11, vb t56.2)]) (bx' := [(36, (eCase x0 b0)), (63, (eRule x1 (a1_0, c1_0))), (54, (eCase t43.1 y47)), (54, (eCase t48 y51)), (69, (eRule t52 y55)), (54, (eCase t56.1 y59))]) (R' := [SlRes 69 t43.1.Book.Rules y47.1.1 y47.1.2, SlRes 203 t43.1.Store.Facts y47.2.1.1 y47.2.1.2, SlRes 207 t43.1.Series.Points y47.2.2.1.1 y47.2.2.1.2, SlRes 211 t43.1.Member.Spells y47.2.2.2.1.1 y47.2.2.2.1.2, SlRes 215 t43.1.Member.Events y47.2.2.2.2.1 y47.2.2.2.2.2, SlRes 69 t48.Book.Rules y51.1.1 y51.1.2, SlRes 203 t48.Store.Facts y51.2.1.1 y51.2.1.2, SlRes 207 t48.Series.Points y51.2.2.1.1 y51.2.2.1.2, SlRes 211 t48.Member.Spells y51.2.2.2.1.1 y51.2.2.2.1.2, SlRes 215 t48.Member.Events y51.2.2.2.2.1 y51.2.2.2.2.2, SlRes 120 t52.Nodes y55.1 y55.2, SlRes 69 t56.1.Book.Rules y59.1.1 y59.1.2, SlRes 203 t56.1.Store.Facts y59.2.1.1 y59.2.1.2, SlRes 207 t56.1.Series.Points y59.2.2.1.1 y59.2.2.1.2, SlRes 211 t56.1.Member.Spells y59.2.2.2.1.1 y59.2.2.2.1.2, SlRes 215 t56.1.Member.Events y59.2.2.2.2.1 y59.2.2.2.2.2]) (by kernel_rfl) (by kernel_rfl) (by kernel_rfl) (by kernel_rfl) ?_
   refine JC_heldN (ks := [0, 1, 2, 3, 4, 5]) (Rk := [SlRes 69 t43.1.Book.Rules y47.1.1 y47.1.2, SlRes 203 t43.1.Store.Facts y47.2.1.1 y47.2.1.2, SlRes 207 t43.1.Series.Points y47.2.2.1.1 y47.2.2.1.2, SlRes 211 t43.1.Member.Spells y47.2.2.2.1.1 y47.2.2.2.1.2, SlRes 215 t43.1.Member.Events y47.2.2.2.2.1 y47.2.2.2.2.2, SlRes 69 t48.Book.Rules y51.1.1 y51.1.2, SlRes 203 t48.Store.Facts y51.2.1.1 y51.2.1.2, SlRes 207 t48.Series.Points y51.2.2.1.1 y51.2.2.1.2, SlRes 211 t48.Member.Spells y51.2.2.2.1.1 y51.2.2.2.1.2, SlRes 215 t48.Member.Events y51.2.2.2.2.1 y51.2.2.2.2.2, SlRes 120 t52.Nodes y55.1 y55.2, SlRes 69 t56.1.Book.Rules y59.1.1 y59.1.2, SlRes 203 t56.1.Store.Facts y59.2.1.1 y59.2.1.2, SlRes 207 t56.1.Series.Points y59.2.2.1.1 y59.2.2.1.2, SlRes 211 t56.1.Member.Spells y59.2.2.2.1.1 y59.2.2.2.1.2, SlRes 215 t56.1.Member.Events y59.2.2.2.2.1 y59.2.2.2.2.2]) 5 (by kernel_rfl) (by kernel_rfl) ?_
   refine htq 0 (.v (vCase t48 y51)) [0, 0, 0, 0, 0, 0, 0, 0, 0, 0, 0, 0, 0, 0, 0, 0] ?_
   refine htq 1 (.v (vCase x0 b0)) [0, 0, 0, 0, 0, 0, 0, 0, 0, 0, 0, 0, 0, 0, 0, 0] ?_
   refine ha1 2 ?_
   refine hi (fun γ0 δ hm => ?_)
   refine g1 (fun w hs => c_laws_toCase (b0 := b0) h74 (hv0_0.kept hs.kept) (hv0_1.kept hs.kept) (hv0_2.kept hs.kept) (hv0_3.kept hs.kept) (hv0_4.kept hs.kept)) (fun y76 => ?_)
   refine gn hm [56, 54, 2, 3, 6, 7, 8, 9, 10, 11] [5, 5, 5, 5, 5, 5, 5, 5, 5, 5, 5, 5, 5, 5, 5, 5] ?_
   refine ha1 3 ?_
   refine hi (fun γ0 δ hm => ?_)
   refine g0 (fun w hs => c_laws_eqCase (b0 := y51) (b1 := y76) h78 (hs.view 10 rfl) (hs.view 11 rfl) (hs.view 12 rfl) (hs.view 13 rfl) (hs.view 14 rfl) (hs.view 0 rfl) (hs.view 1 rfl) (hs.view 2 rfl) (hs.view 3 rfl) (hs.view 4 rfl)) ?_
   refine gn hm [57, 2, 3, 6, 7, 8, 9, 10, 11] [5, 5, 5, 5, 5, 5, 5, 5, 5, 5, 5, 5, 5, 5, 5, 5] ?_
   refine htq 4 (vb (!t77)) [5, 5, 5, 5, 5, 5, 5, 5, 5, 5, 5, 5, 5, 5, 5, 5] ?_
   refine hk [58, 2, 3, 6, 7, 8, 9, 10, 11] ?_
   exact hd () [58, 2, 3, 6, 7, 8, 9, 10, 11] [5, 5, 5, 5, 5, 5, 5, 5, 5, 5, 5, 5, 5, 5, 5, 5] 6
 refine nt (cC h79 (fun h83 => ?_) (fun h84 => ?_))
 · refine qs (qr (oN 1 [(4, vb false)] [] ?_))
   refine oe (nt (qe (nr ?_)))
   obtain rfl := sI h83
   exact re [.bool false]
 refine qk (nt (qs (qs ?_)))
 obtain ⟨t85, h86, h87⟩ := bS h84
 obtain ⟨t89, h90, h91⟩ := bS h87
 refine JC_cut (τ := Unit) (fun _ => [(63, vb (!t89)), (2, .p 0 0), (3, .p 1 0), (6, .p 2 0), (7, vb t43.2), (8, .p 3 0), (9, .p 4 0), (10, .p 5 0), (11, vb t56.2)]) (fun _ => [(36, (eCase x0 b0)), (63, (eRule x1 (a1_0, c1_0))), (54, (eCase t43.1 y47)), (54, (eCase t48 y51)), (69, (eRule t52 y55)), (54, (eCase t56.1 y59))]) (fun _ => [SlRes 69 t43.1.Book.Rules y47.1.1 y47.1.2, SlRes 203 t43.1.Store.Facts y47.2.1.1 y47.2.1.2, SlRes 207 t43.1.Series.Points y47.2.2.1.1 y47.2.2.1.2, SlRes 211 t43.1.Member.Spells y47.2.2.2.1.1 y47.2.2.2.1.2, SlRes 215 t43.1.Member.Events y47.2.2.2.2.1 y47.2.2.2.2.2, SlRes 69 t48.Book.Rules y51.1.1 y51.1.2, SlRes 203 t48.Store.Facts y51.2.1.1 y51.2.1.2, SlRes 207 t48.Series.Points y51.2.2.1.1 y51.2.2.1.2, SlRes 211 t48.Member.Spells y51.2.2.2.1.1 y51.2.2.2.1.2, SlRes 215 t48.Member.Events y51.2.2.2.2.1 y51.2.2.2.2.2, SlRes 120 t52.Nodes y55.1 y55.2, SlRes 69 t56.1.Book.Rules y59.1.1 y59.1.2, SlRes 203 t56.1.Store.Facts y59.2.1.1 y59.2.1.2, SlRes 207 t56.1.Series.Points y59.2.2.1.1 y59.2.2.1.2, SlRes 211 t56.1.Member.Spells y59.2.2.2.1.1 y59.2.2.2.1.2, SlRes 215 t56.1.Member.Events y59.2.2.2.2.1 y59.2.2.2.2.2]) ?_ (fun _ => ?_)
 · refine JC_weak [2, 3, 6, 7, 8, 9, 10, 11] [0, 0, 0, 0, 0, 0, 0, 0, 0, 0, 0, 0, 0, 0, 0, 0] 6 (sl' := [(2, .p 0 0), (3, .p 1 0), (6, .p 2 0), (7, vb t43.2), (8, .p 3 0), (9, .p 4 0), (10, .p 5 0), (11, vb t56.2)]) (bx' := [(36, (eCase x0 b0)), (63, (eRule x1 (a1_0, c1_0))), (54, (eCase t43.1 y47)), (54, (eCase t48 y51)), (69, (eRule t52 y55)), (54, (eCase t56.1 y59))]) (R' := [SlRes 69 t43.1.Book.Rules y47.1.1 y47.1.2, SlRes 203 t43.1.Store.Facts y47.2.1.1 y47.2.1.2, SlRes 207 t43.1.Series.Points y47.2.2.1.1 y47.2.2.1.2, SlRes 211 t43.1.Member.Spells y47.2.2.2.1.1 y47.2.2.2.1.2, SlRes 215 t43.1.Member.Events y47.2.2.2.2.1 y47.2.2.2.2.2, SlRes 69 t48.Book.Rules y51.1.1 y51.1.2, SlRes 203 t48.Store.Facts y51.2.1.1 y51.2.1.2, SlRes 207 t48.Series.Points y51.2.2.1.1 y51.2.2.1.2, SlRes 211 t48.Member.Spells y51.2.2.2.1.1 y51.2.2.2.1.2, SlRes 215 t48.Member.Events y51.2.2.2.2.1 y51.2.2.2.2.2, SlRes 120 t52.Nodes y55.1 y55.2, SlRes 69 t56.1.Book.Rules y59.1.1 y59.1.2, SlRes 203 t56.1.Store.Facts y59.2.1.1 y59.2.1.2, SlRes 207 t56.1.Series.Points y59.2.2.1.1 y59.2.2.1.2, SlRes 211 t56.1.Member.Spells y59.2.2.2.1.1 y59.2.2.2.1.2, SlRes 215 t56.1.Member.Events y59.2.2.2.2.1 y59.2.2.2.2.2]) (by kernel_rfl) (by kernel_rfl) (by kernel_rfl) (by kernel_rfl) ?_
   refine JC_heldN (ks := [0, 1, 2, 3, 4, 5]) (Rk := [SlRes 69 t43.1.Book.Rules y47.1.1 y47.1.2, SlRes 203 t43.1.Store.Facts y47.2.1.1 y47.2.1.2, SlRes 207 t43.1.Series.Points y47.2.2.1.1 y47.2.2.1.2, SlRes 211 t43.1.Member.Spells y47.2.2.2.1.1 y47.2.2.2.1.2, SlRes 215 t43.1.Member.Events y47.2.2.2.2.1 y47.2.2.2.2.2, SlRes 69 t48.Book.Rules y51.1.1 y51.1.2, SlRes 203 t48.Store.Facts y51.2.1.1 y51.2.1.2, SlRes 207 t48.Series.Points y51.2.2.1.1 y51.2.2.1.2, SlRes 211 t48.Member.Spells y51.2.2.2.1.1 y51.2.2.2.1.2, SlRes 215 t48.Member.Events y51.2.2.2.2.1 y51.2.2.2.2.2, SlRes 120 t52.Nodes y55.1 y55.2, SlRes 69 t56.1.Book.Rules y59.1.1 y59.1.2, SlRes 203 t56.1.Store.Facts y59.2.1.1 y59.2.1.2, SlRes 207 t56.1.Series.Points y59.2.2.1.1 y59.2.2.1.2, SlRes 211 t56.1.Member.Spells y59.2.2.2.1.1 y59.2.2.2.1.2, SlRes 215 t56.1.Member.Events y59.2.2.2.2.1 y59.2.2.2.2.2]) 5 (by kernel_rfl) (by kernel_rfl) ?_
   refine htq 0 (.v (vRule t52 y55)) [0, 0, 0, 0, 0, 0, 0, 0, 0, 0, 0, 0, 0, 0, 0, 0] ?_
   refine htq 1 (.v (vRule x1 (a1_0, c1_0))) [0, 0, 0, 0, 0, 0, 0, 0, 0, 0, 0, 0, 0, 0, 0, 0] ?_
   refine ha1 2 ?_
   refine hi (fun γ0 δ hm => ?_)
   refine g1 (fun w hs => c_laws_toRule h86 (hv1_0.kept hs.kept)) (fun y88 => ?_)
   refine gn hm [61, 59, 2, 3, 6, 7, 8, 9, 10, 11] [1, 1, 1, 1, 1, 1, 1, 1, 1, 1, 1, 1, 1, 1, 1, 1] ?_
   refine ha1 3 ?_
   refine hi (fun γ0 δ hm => ?_)
   refine g0 (fun w hs => c_laws_eqRule h90 (hs.view 11 rfl) (hs.view 0 rfl)) ?_
   refine gn hm [62, 2, 3, 6, 7, 8, 9, 10, 11] [1, 1, 1, 1, 1, 1, 1, 1, 1, 1, 1, 1, 1, 1, 1, 1] ?_
   refine htq 4 (vb (!t89)) [1, 1, 1, 1, 1, 1, 1, 1, 1, 1, 1, 1, 1, 1, 1, 1] ?_
   refine hk [63, 2, 3, 6, 7, 8, 9, 10, 11] ?_
   exact hd () [63, 2, 3, 6, 7, 8, 9, 10, 11] [1, 1, 1, 1, 1, 1, 1, 1, 1, 1, 1, 1, 1, 1, 1, 1] 6
 refine nt (cC h91 (fun h95 => ?_) (fun h96 => ?_))
 · refine qs (qr (oN 1 [(4, vb false)] [] ?_))
   refine oe (nt (qe (nr ?_)))
   obtain rfl := sI h95
   exact re [.bool false]
 refine qk (nt (qs (qr (oN 1 [(12, vi 1)] [2, 3, 6, 7, 8, 9, 10, 11] ?_))))
 refine oe (nt (qs (qr (oN 2 [(65, vi 1), (64, .v (vCase t48 y51))] [2, 3, 6, 7, 9, 10, 11] ?_))))
 refine JO_res (R' := [SlRes 69 t48.Book.Rules y51.1.1 y51.1.2, SlRes 203 t48.Store.Facts y51.2.1.1 y51.2.1.2, SlRes 207 t48.Series.Points y51.2.2.1.1 y51.2.2.1.2, SlRes 211 t48.Member.Spells y51.2.2.2.1.1 y51.2.2.2.1.2, SlRes 215 t48.Member.Events y51.2.2.2.2.1 y51.2.2.2.2.2, SlRes 69 t43.1.Book.Rules y47.1.1 y47.1.2, SlRes 203 t43.1.Store.Facts y47.2.1.1 y47.2.1.2, SlRes 207 t43.1.Series.Points y47.2.2.1.1 y47.2.2.1.2, SlRes 211 t43.1.Member.Spells y47.2.2.2.1.1 y47.2.2.2.1.2, SlRes 215 t43.1.Member.Events y47.2.2.2.2.1 y47.2.2.2.2.2, SlRes 120 t52.Nodes y55.1 y55.2, SlRes 69 t56.1.Book.Rules y59.1.1 y59.1.2, SlRes 203 t56.1.Store.Facts y59.2.1.1 y59.2.1.2, SlRes 207 t56.1.Series.Points y59.2.2.1.1 y59.2.2.1.2, SlRes 211 t56.1.Member.Spells y59.2.2.2.1.1 y59.2.2.2.1.2, SlRes 215 t56.1.Member.Events y59.2.2.2.2.1 y59.2.2.2.2.2]) [5, 5, 5, 5, 5, 0, 0, 0, 0, 0, 0, 0, 0, 0, 0, 0] (by kernel_rfl) ?_
 obtain ⟨t97, h98, h99⟩ := bS h96
 obtain ⟨u101, hu102, h103⟩ := bS h99
 have hl104 := (sameLen_some hu102).symm
 obtain ⟨u105, hu106, h107⟩ := bS h103
 have hl108 := (sameLen_some hu106).symm
 obtain ⟨u109, hu110, h111⟩ := bS h107
 have hl112 := (sameLen_some hu110).symm
 obtain ⟨u113, hu114, h115⟩ := bS h111
 have hl116 := (sameLen_some hu114).symm
 obtain ⟨u117, hu118, h119⟩ := bS h115
 have hl120 := (sameLen_some hu118).symm
 refine JO_callM rfl (by kernel_rfl) (f := 20) (args := #[vCase t48 y51, .int .i64 1]) (by kernel_rfl) (x := .int .i64 t97.1) (Rin := [SlRes 69 t48.Book.Rules y51.1.1 y51.1.2, SlRes 203 t48.Store.Facts y51.2.1.1 y51.2.1.2, SlRes 207 t48.Series.Points y51.2.2.1.1 y51.2.2.1.2, SlRes 211 t48.Member.Spells y51.2.2.2.1.1 y51.2.2.2.1.2, SlRes 215 t48.Member.Events y51.2.2.2.2.1 y51.2.2.2.2.2]) (Rout := [SlRes 69 t97.2.1 y51.1.1 y51.1.2, SlRes 203 t97.2.2.1 y51.2.1.1 y51.2.1.2, SlRes 207 t97.2.2.2.1 y51.2.2.1.1 y51.2.2.1.2, SlRes 211 t97.2.2.2.2.1 y51.2.2.2.1.1 y51.2.2.2.1.2, SlRes 215 t97.2.2.2.2.2 y51.2.2.2.2.1 y51.2.2.2.2.2]) (Rr := [SlRes 69 t43.1.Book.Rules y47.1.1 y47.1.2, SlRes 203 t43.1.Store.Facts y47.2.1.1 y47.2.1.2, SlRes 207 t43.1.Series.Points y47.2.2.1.1 y47.2.2.1.2, SlRes 211 t43.1.Member.Spells y47.2.2.2.1.1 y47.2.2.2.1.2, SlRes 215 t43.1.Member.Events y47.2.2.2.2.1 y47.2.2.2.2.2, SlRes 120 t52.Nodes y55.1 y55.2, SlRes 69 t56.1.Book.Rules y59.1.1 y59.1.2, SlRes 203 t56.1.Store.Facts y59.2.1.1 y59.2.1.2, SlRes 207 t56.1.Series.Points y59.2.2.1.1 y59.2.2.1.2, SlRes 211 t56.1.Member.Spells y59.2.2.2.1.1 y59.2.2.2.1.2, SlRes 215 t56.1.Member.Events y59.2.2.2.2.1 y59.2.2.2.2.2]) rfl (fun w => (by have vv := c_laws_markCase (e0_0 := 69) (a0_0 := y51.1.1) (c0_0 := y51.1.2) (e0_1 := 203) (a0_1 := y51.2.1.1) (c0_1 := y51.2.1.2) (e0_2 := 207) (a0_2 := y51.2.2.1.1) (c0_2 := y51.2.2.1.2) (e0_3 := 211) (a0_3 := y51.2.2.2.1.1) (c0_3 := y51.2.2.2.1.2) (e0_4 := 215) (a0_4 := y51.2.2.2.2.1) (c0_4 := y51.2.2.2.2.2) (W := w) h98; exact vv)) (sl' := [(66, vi t97.1), (65, vi 1), (64, .v (vCase t48 y51)), (2, .p 0 0), (3, .p 1 0), (6, .p 2 0), (7, vb t43.2), (9, .p 4 0), (10, .p 5 0), (11, vb t56.2)]) (by kernel_rfl) ?_
 refine JO_eqE (sl' := [(66, vi t97.1), (65, vi 1), (64, .v (vCase (Case.mk (Book.mk t97.2.1) (Store.mk t97.2.2.1) (Series.mk t97.2.2.2.1) (Member.mk t48.Member.Birth t48.Member.Joined t97.2.2.2.2.1 t97.2.2.2.2.2)) y51)), (2, .p 0 0), (3, .p 1 0), (6, .p 2 0), (7, vb t43.2), (9, .p 4 0), (10, .p 5 0), (11, vb t56.2)]) (bx' := [(36, (eCase x0 b0)), (63, (eRule x1 (a1_0, c1_0))), (54, (eCase t43.1 y47)), (54, (eCase (Case.mk (Book.mk t97.2.1) (Store.mk t97.2.2.1) (Series.mk t97.2.2.2.1) (Member.mk t48.Member.Birth t48.Member.Joined t97.2.2.2.2.1 t97.2.2.2.2.2)) y51)), (69, (eRule t52 y55)), (54, (eCase t56.1 y59))]) (by simp only [eCase, vCase, hl104, hl108, hl112, hl116, hl120]) (by simp only [eCase, eRule, vCase, vRule, hl104, hl108, hl112, hl116, hl120]) ?_
 refine oN 1 [(12, vi t97.1)] [2, 3, 6, 7, 9, 10, 11] ?_
 refine oe (nt (qs (qr (oN 2 [(68, vi t97.1), (67, .v (vRule t52 y55))] [2, 3, 6, 7, 10, 11] ?_))))
 refine JO_res (R' := [SlRes 120 t52.Nodes y55.1 y55.2, SlRes 69 t97.2.1 y51.1.1 y51.1.2, SlRes 203 t97.2.2.1 y51.2.1.1 y51.2.1.2, SlRes 207 t97.2.2.2.1 y51.2.2.1.1 y51.2.2.1.2, SlRes 211 t97.2.2.2.2.1 y51.2.2.2.1.1 y51.2.2.2.1.2, SlRes 215 t97.2.2.2.2.2 y51.2.2.2.2.1 y51.2.2.2.2.2, SlRes 69 t43.1.Book.Rules y47.1.1 y47.1.2, SlRes 203 t43.1.Store.Facts y47.2.1.1 y47.2.1.2, SlRes 207 t43.1.Series.Points y47.2.2.1.1 y47.2.2.1.2, SlRes 211 t43.1.Member.Spells y47.2.2.2.1.1 y47.2.2.2.1.2, SlRes 215 t43.1.Member.Events y47.2.2.2.2.1 y47.2.2.2.2.2, SlRes 69 t56.1.Book.Rules y59.1.1 y59.1.2, SlRes 203 t56.1.Store.Facts y59.2.1.1 y59.2.1.2, SlRes 207 t56.1.Series.Points y59.2.2.1.1 y59.2.2.1.2, SlRes 211 t56.1.Member.Spells y59.2.2.2.1.1 y59.2.2.2.1.2, SlRes 215 t56.1.Member.Events y59.2.2.2.2.1 y59.2.2.2.2.2]) [10, 0, 0, 0, 0, 0, 0, 0, 0, 0, 0, 0, 0, 0, 0, 0] (by kernel_rfl) ?_
 obtain ⟨t121, h122, h123⟩ := bS h119
 obtain ⟨u125, hu126, h127⟩ := bS h123
 have hl128 := (sameLen_some hu126).symm
 refine JO_callM rfl (by kernel_rfl) (f := 28) (args := #[vRule t52 y55, .int .i64 t97.1]) (by kernel_rfl) (x := .int .i64 t121.1) (Rin := [SlRes 120 t52.Nodes y55.1 y55.2]) (Rout := [SlRes 120 t121.2 y55.1 y55.2]) (Rr := [SlRes 69 t97.2.1 y51.1.1 y51.1.2, SlRes 203 t97.2.2.1 y51.2.1.1 y51.2.1.2, SlRes 207 t97.2.2.2.1 y51.2.2.1.1 y51.2.2.1.2, SlRes 211 t97.2.2.2.2.1 y51.2.2.2.1.1 y51.2.2.2.1.2, SlRes 215 t97.2.2.2.2.2 y51.2.2.2.2.1 y51.2.2.2.2.2, SlRes 69 t43.1.Book.Rules y47.1.1 y47.1.2, SlRes 203 t43.1.Store.Facts y47.2.1.1 y47.2.1.2, SlRes 207 t43.1.Series.Points y47.2.2.1.1 y47.2.2.1.2, SlRes 211 t43.1.Member.Spells y47.2.2.2.1.1 y47.2.2.2.1.2, SlRes 215 t43.1.Member.Events y47.2.2.2.2.1 y47.2.2.2.2.2, SlRes 69 t56.1.Book.Rules y59.1.1 y59.1.2, SlRes 203 t56.1.Store.Facts y59.2.1.1 y59.2.1.2, SlRes 207 t56.1.Series.Points y59.2.2.1.1 y59.2.2.1.2, SlRes 211 t56.1.Member.Spells y59.2.2.2.1.1 y59.2.2.2.1.2, SlRes 215 t56.1.Member.Events y59.2.2.2.2.1 y59.2.2.2.2.2]) rfl (fun w => (by have vv := c_laws_markRule (e0_0 := 120) (a0_0 := y55.1) (c0_0 := y55.2) (W := w) h122; exact vv)) (sl' := [(69, vi t121.1), (68, vi t97.1), (67, .v (vRule t52 y55)), (2, .p 0 0), (3, .p 1 0), (6, .p 2 0), (7, vb t43.2), (10, .p 5 0), (11, vb t56.2)]) (by kernel_rfl) ?_
 refine JO_eqE (sl' := [(69, vi t121.1), (68, vi t97.1), (67, .v (vRule (Rule.mk t52.Name t52.From t52.To t52.Joined t52.Rank t52.Mode t121.2) y55)), (2, .p 0 0), (3, .p 1 0), (6, .p 2 0), (7, vb t43.2), (10, .p 5 0), (11, vb t56.2)]) (bx' := [(36, (eCase x0 b0)), (63, (eRule x1 (a1_0, c1_0))), (54, (eCase t43.1 y47)), (54, (eCase (Case.mk (Book.mk t97.2.1) (Store.mk t97.2.2.1) (Series.mk t97.2.2.2.1) (Member.mk t48.Member.Birth t48.Member.Joined t97.2.2.2.2.1 t97.2.2.2.2.2)) y51)), (69, (eRule (Rule.mk t52.Name t52.From t52.To t52.Joined t52.Rank t52.Mode t121.2) y55)), (54, (eCase t56.1 y59))]) (by simp only [eRule, vRule, hl128]) (by simp only [eCase, eRule, vCase, vRule, hl128]) ?_
 refine oN 1 [(12, vi t121.1)] [2, 3, 6, 7, 10, 11] ?_
 refine oe (nt (qs (qs ?_)))
 obtain ⟨p129, hE130, h131⟩ := bS h127
 refine JC_cut (τ := Unit) (fun _ => [(2, .p 0 0), (3, .p 1 0), (6, .p 2 0), (7, vb t43.2), (10, .p 5 0), (82, vb p129)]) (fun _ => [(36, (eCase x0 b0)), (63, (eRule x1 (a1_0, c1_0))), (54, (eCase t43.1 y47)), (54, (eCase (Case.mk (Book.mk t97.2.1) (Store.mk t97.2.2.1) (Series.mk t97.2.2.2.1) (Member.mk t48.Member.Birth t48.Member.Joined t97.2.2.2.2.1 t97.2.2.2.2.2)) y51)), (69, (eRule (Rule.mk t52.Name t52.From t52.To t52.Joined t52.Rank t52.Mode t121.2) y55)), (54, (eCase t56.1 y59))]) (fun _ => [SlRes 69 t43.1.Book.Rules y47.1.1 y47.1.2, SlRes 203 t43.1.Store.Facts y47.2.1.1 y47.2.1.2, SlRes 207 t43.1.Series.Points y47.2.2.1.1 y47.2.2.1.2, SlRes 211 t43.1.Member.Spells y47.2.2.2.1.1 y47.2.2.2.1.2, SlRes 215 t43.1.Member.Events y47.2.2.2.2.1 y47.2.2.2.2.2, SlRes 69 t97.2.1 y51.1.1 y51.1.2, SlRes 203 t97.2.2.1 y51.2.1.1 y51.2.1.2, SlRes 207 t97.2.2.2.1 y51.2.2.1.1 y51.2.2.1.2, SlRes 211 t97.2.2.2.2.1 y51.2.2.2.1.1 y51.2.2.2.1.2, SlRes 215 t97.2.2.2.2.2 y51.2.2.2.2.1 y51.2.2.2.2.2, SlRes 120 t121.2 y55.1 y55.2, SlRes 69 t56.1.Book.Rules y59.1.1 y59.1.2, SlRes 203 t56.1.Store.Facts y59.2.1.1 y59.2.1.2, SlRes 207 t56.1.Series.Points y59.2.2.1.1 y59.2.2.1.2, SlRes 211 t56.1.Member.Spells y59.2.2.2.1.1 y59.2.2.2.1.2, SlRes 215 t56.1.Member.Events y59.2.2.2.2.1 y59.2.2.2.2.2]) ?_ (fun _ => ?_)
 · refine qr (oN 3 [(72, vb (decide (t121.1 < 0)))] [2, 3, 6, 7, 10, 11] ?_)
   refine oS 72 hE130 (fun h133 => ?_) (fun h134 => ?_)
   · refine oN 10 [(82, vb true)] [2, 3, 6, 7, 10] ?_
     refine oe ?_
     obtain rfl := sI h133
     exact mt () [2, 3, 6, 7, 10, 82] [6, 6, 6, 6, 6, 1, 1, 1, 1, 1, 0, 0, 0, 0, 0, 0] 6
   refine oN 2 [(74, .v (vCase t43.1 y47)), (73, .v (vCase t56.1 y59))] [72, 2, 3, 6, 7, 10, 11] ?_
   obtain ⟨t135, h136, h137⟩ := bS h134
   refine k0 (fun γ w hs => c_laws_eqCase (b0 := y59) (b1 := y47) h136 (hs.view 11 rfl) (hs.view 12 rfl) (hs.view 13 rfl) (hs.view 14 rfl) (hs.view 15 rfl) (hs.view 6 rfl) (hs.view 7 rfl) (hs.view 8 rfl) (hs.view 9 rfl) (hs.view 10 rfl)) ?_
   refine oN 3 [(78, vb (!t135))] [2, 3, 6, 7, 10, 11] ?_
   refine oS 78 h137 (fun h140 => ?_) (fun h141 => ?_)
   · refine oN 4 [(82, vb true)] [2, 3, 6, 7, 10] ?_
     refine oe ?_
     obtain rfl := sI h140
     exact mt () [2, 3, 6, 7, 10, 82] [6, 6, 6, 6, 6, 1, 1, 1, 1, 1, 0, 0, 0, 0, 0, 0] 6
   refine oN 4 [(82, vb (!(t56.2 == t43.2)))] [2, 3, 6, 7, 10] ?_
   refine oe ?_
   obtain rfl := sI h141
   exact mt () [2, 3, 6, 7, 10, 82] [6, 6, 6, 6, 6, 1, 1, 1, 1, 1, 0, 0, 0, 0, 0, 0] 6
 refine nt (cC h131 (fun h143 => ?_) (fun h144 => ?_))
 · refine qs (qr (oN 1 [(4, vb false)] [] ?_))
   refine oe (nt (qe (nr ?_)))
   obtain rfl := sI h143
   exact re [.bool false]
 refine qk (nt (qs (qr (oN 1 [(13, vi 1)] [2, 3, 6, 7, 10] ?_))))
 refine oe (nt (qs (qr (oN 2 [(84, vi 1), (83, .v (vCase t56.1 y59))] [2, 3, 6, 7, 10] ?_))))
 refine JO_res (R' := [SlRes 69 t56.1.Book.Rules y59.1.1 y59.1.2, SlRes 203 t56.1.Store.Facts y59.2.1.1 y59.2.1.2, SlRes 207 t56.1.Series.Points y59.2.2.1.1 y59.2.2.1.2, SlRes 211 t56.1.Member.Spells y59.2.2.2.1.1 y59.2.2.2.1.2, SlRes 215 t56.1.Member.Events y59.2.2.2.2.1 y59.2.2.2.2.2, SlRes 69 t43.1.Book.Rules y47.1.1 y47.1.2, SlRes 203 t43.1.Store.Facts y47.2.1.1 y47.2.1.2, SlRes 207 t43.1.Series.Points y47.2.2.1.1 y47.2.2.1.2, SlRes 211 t43.1.Member.Spells y47.2.2.2.1.1 y47.2.2.2.1.2, SlRes 215 t43.1.Member.Events y47.2.2.2.2.1 y47.2.2.2.2.2, SlRes 69 t97.2.1 y51.1.1 y51.1.2, SlRes 203 t97.2.2.1 y51.2.1.1 y51.2.1.2, SlRes 207 t97.2.2.2.1 y51.2.2.1.1 y51.2.2.1.2, SlRes 211 t97.2.2.2.2.1 y51.2.2.2.1.1 y51.2.2.2.1.2, SlRes 215 t97.2.2.2.2.2 y51.2.2.2.2.1 y51.2.2.2.2.2, SlRes 120 t121.2 y55.1 y55.2]) [11, 11, 11, 11, 11, 0, 0, 0, 0, 0, 0, 0, 0, 0, 0, 0] (by kernel_rfl) ?_
 obtain ⟨t145, h146, h147⟩ := bS h144
 obtain ⟨u149, hu150, h151⟩ := bS h147
 have hl152 := (sameLen_some hu150).symm
 obtain ⟨u153, hu154, h155⟩ := bS h151
 have hl156 := (sameLen_some hu154).symm
 obtain ⟨u157, hu158, h159⟩ := bS h155
 have hl160 := (sameLen_some hu158).symm
 obtain ⟨u161, hu162, h163⟩ := bS h159
 have hl164 := (sameLen_some hu162).symm
 obtain ⟨u165, hu166, h167⟩ := bS h163
 have hl168 := (sameLen_some hu166).symm
 refine JO_callM rfl (by kernel_rfl) (f := 20) (args := #[vCase t56.1 y59, .int .i64 1]) (by kernel_rfl) (x := .int .i64 t145.1) (Rin := [SlRes 69 t56.1.Book.Rules y59.1.1 y59.1.2, SlRes 203 t56.1.Store.Facts y59.2.1.1 y59.2.1.2, SlRes 207 t56.1.Series.Points y59.2.2.1.1 y59.2.2.1.2, SlRes 211 t56.1.Member.Spells y59.2.2.2.1.1 y59.2.2.2.1.2, SlRes 215 t56.1.Member.Events y59.2.2.2.2.1 y59.2.2.2.2.2]) (Rout := [SlRes 69 t145.2.1 y59.1.1 y59.1.2, SlRes 203 t145.2.2.1 y59.2.1.1 y59.2.1.2, SlRes 207 t145.2.2.2.1 y59.2.2.1.1 y59.2.2.1.2, SlRes 211 t145.2.2.2.2.1 y59.2.2.2.1.1 y59.2.2.2.1.2, SlRes 215 t145.2.2.2.2.2 y59.2.2.2.2.1 y59.2.2.2.2.2]) (Rr := [SlRes 69 t43.1.Book.Rules y47.1.1 y47.1.2, SlRes 203 t43.1.Store.Facts y47.2.1.1 y47.2.1.2, SlRes 207 t43.1.Series.Points y47.2.2.1.1 y47.2.2.1.2, SlRes 211 t43.1.Member.Spells y47.2.2.2.1.1 y47.2.2.2.1.2, SlRes 215 t43.1.Member.Events y47.2.2.2.2.1 y47.2.2.2.2.2, SlRes 69 t97.2.1 y51.1.1 y51.1.2, SlRes 203 t97.2.2.1 y51.2.1.1 y51.2.1.2, SlRes 207 t97.2.2.2.1 y51.2.2.1.1 y51.2.2.1.2, SlRes 211 t97.2.2.2.2.1 y51.2.2.2.1.1 y51.2.2.2.1.2, SlRes 215 t97.2.2.2.2.2 y51.2.2.2.2.1 y51.2.2.2.2.2, SlRes 120 t121.2 y55.1 y55.2]) rfl (fun w => (by have vv := c_laws_markCase (e0_0 := 69) (a0_0 := y59.1.1) (c0_0 := y59.1.2) (e0_1 := 203) (a0_1 := y59.2.1.1) (c0_1 := y59.2.1.2) (e0_2 := 207) (a0_2 := y59.2.2.1.1) (c0_2 := y59.2.2.1.2) (e0_3 := 211) (a0_3 := y59.2.2.2.1.1) (c0_3 := y59.2.2.2.1.2) (e0_4 := 215) (a0_4 := y59.2.2.2.2.1) (c0_4 := y59.2.2.2.2.2) (W := w) h146; exact vv)) (sl' := [(85, vi t145.1), (84, vi 1), (83, .v (vCase t56.1 y59)), (2, .p 0 0), (3, .p 1 0), (6, .p 2 0), (7, vb t43.2), (10, .p 5 0)]) (by kernel_rfl) ?_
 refine JO_eqE (sl' := [(85, vi t145.1), (84, vi 1), (83, .v (vCase (Case.mk (Book.mk t145.2.1) (Store.mk t145.2.2.1) (Series.mk t145.2.2.2.1) (Member.mk t56.1.Member.Birth t56.1.Member.Joined t145.2.2.2.2.1 t145.2.2.2.2.2)) y59)), (2, .p 0 0), (3, .p 1 0), (6, .p 2 0), (7, vb t43.2), (10, .p 5 0)]) (bx' := [(36, (eCase x0 b0)), (63, (eRule x1 (a1_0, c1_0))), (54, (eCase t43.1 y47)), (54, (eCase (Case.mk (Book.mk t97.2.1) (Store.mk t97.2.2.1) (Series.mk t97.2.2.2.1) (Member.mk t48.Member.Birth t48.Member.Joined t97.2.2.2.2.1 t97.2.2.2.2.2)) y51)), (69, (eRule (Rule.mk t52.Name t52.From t52.To t52.Joined t52.Rank t52.Mode t121.2) y55)), (54, (eCase (Case.mk (Book.mk t145.2.1) (Store.mk t145.2.2.1) (Series.mk t145.2.2.2.1) (Member.mk t56.1.Member.Birth t56.1.Member.Joined t145.2.2.2.2.1 t145.2.2.2.2.2)) y59))]) (by simp only [eCase, vCase, hl152, hl156, hl160, hl164, hl168]) (by simp only [eCase, eRule, vCase, vRule, hl152, hl156, hl160, hl164, hl168]) ?_
 refine oN 1 [(13, vi t145.1)] [2, 3, 6, 7, 10] ?_
 refine oe (nt (qs (qr (oN 1 [(14, vi 1)] [13, 2, 3, 6, 7, 10] ?_))))
 refine oe (nt (qs (qr (oN 2 [(87, vi 1), (86, .v (vCase (Case.mk (Book.mk t145.2.1) (Store.mk t145.2.2.1) (Series.mk t145.2.2.2.1) (Member.mk t56.1.Member.Birth t56.1.Member.Joined t145.2.2.2.2.1 t145.2.2.2.2.2)) y59))] [13, 2, 3, 6, 7, 10] ?_))))
 obtain ⟨t169, h170, h171⟩ := bS h167
 refine k0 (fun γ w hs => c_laws_heldCase (b0 := y59) h170 (hs.view 0 rfl) (hs.view 1 rfl) (hs.view 2 rfl) (hs.view 3 rfl) (hs.view 4 rfl)) ?_
 refine oN 1 [(14, vi t169)] [13, 2, 3, 6, 7, 10] ?_
 refine oe (nt (qs (qs (qr (oN 2 [(90, vb (decide (t169 < 0)))] [14, 13, 2, 3, 6, 7, 10] ?_)))))
 refine oe (nt (cC h171 (fun h174 => ?_) (fun h175 => ?_)))
 · refine qs (qr (oN 1 [(4, vb false)] [] ?_))
   refine oe (nt (qe (nr ?_)))
   obtain rfl := sI h174
   exact re [.bool false]
 refine qk (nt (qs (qs (qr (oN 3 [(93, vb (t169 != t145.1))] [13, 2, 3, 6, 7, 10] ?_)))))
 refine oe (nt (cC h175 (fun h177 => ?_) (fun h178 => ?_)))
 · refine qs (qr (oN 1 [(4, vb false)] [] ?_))
   refine oe (nt (qe (nr ?_)))
   obtain rfl := sI h177
   exact re [.bool false]
 refine qk (nt (qs ?_))
 obtain ⟨t179, h180, h181⟩ := bS h178
 obtain ⟨t183, h184, h185⟩ := bS h181
 obtain ⟨t187, h188, h189⟩ := bS h185
 refine JC_cut (τ := (AC × AC × AC × AC × AC)) (fun y191 => [(16, vb t187.2), (15, .p 6 0), (13, vi t145.1), (6, .p 2 0), (7, vb t43.2), (10, .p 5 0)]) (fun y191 => [(36, (eCase x0 b0)), (63, (eRule x1 (a1_0, c1_0))), (54, (eCase t43.1 y47)), (54, (eCase (Case.mk (Book.mk t97.2.1) (Store.mk t97.2.2.1) (Series.mk t97.2.2.2.1) (Member.mk t48.Member.Birth t48.Member.Joined t97.2.2.2.2.1 t97.2.2.2.2.2)) y51)), (69, (eRule (Rule.mk t52.Name t52.From t52.To t52.Joined t52.Rank t52.Mode t121.2) y55)), (54, (eCase (Case.mk (Book.mk t145.2.1) (Store.mk t145.2.2.1) (Series.mk t145.2.2.2.1) (Member.mk t56.1.Member.Birth t56.1.Member.Joined t145.2.2.2.2.1 t145.2.2.2.2.2)) y59)), (54, (eCase t187.1 y191))]) (fun y191 => [SlRes 69 t187.1.Book.Rules y191.1.1 y191.1.2, SlRes 203 t187.1.Store.Facts y191.2.1.1 y191.2.1.2, SlRes 207 t187.1.Series.Points y191.2.2.1.1 y191.2.2.1.2, SlRes 211 t187.1.Member.Spells y191.2.2.2.1.1 y191.2.2.2.1.2, SlRes 215 t187.1.Member.Events y191.2.2.2.2.1 y191.2.2.2.2.2, SlRes 69 t145.2.1 y59.1.1 y59.1.2, SlRes 203 t145.2.2.1 y59.2.1.1 y59.2.1.2, SlRes 207 t145.2.2.2.1 y59.2.2.1.1 y59.2.2.1.2, SlRes 211 t145.2.2.2.2.1 y59.2.2.2.1.1 y59.2.2.2.1.2, SlRes 215 t145.2.2.2.2.2 y59.2.2.2.2.1 y59.2.2.2.2.2, SlRes 69 t43.1.Book.Rules y47.1.1 y47.1.2, SlRes 203 t43.1.Store.Facts y47.2.1.1 y47.2.1.2, SlRes 207 t43.1.Series.Points y47.2.2.1.1 y47.2.2.1.2, SlRes 211 t43.1.Member.Spells y47.2.2.2.1.1 y47.2.2.2.1.2, SlRes 215 t43.1.Member.Events y47.2.2.2.2.1 y47.2.2.2.2.2, SlRes 69 t97.2.1 y51.1.1 y51.1.2, SlRes 203 t97.2.2.1 y51.2.1.1 y51.2.1.2, SlRes 207 t97.2.2.2.1 y51.2.2.1.1 y51.2.2.1.2, SlRes 211 t97.2.2.2.2.1 y51.2.2.2.1.1 y51.2.2.2.1.2, SlRes 215 t97.2.2.2.2.2 y51.2.2.2.2.1 y51.2.2.2.2.2, SlRes 120 t121.2 y55.1 y55.2]) ?_ (fun y191 => ?_)
 · refine JC_weak [13, 2, 3, 6, 7, 10] [0, 0, 0, 0, 0, 0, 0, 0, 0, 0, 0, 0, 0, 0, 0, 0] 6 (sl' := [(13, vi t145.1), (2, .p 0 0), (3, .p 1 0), (6, .p 2 0), (7, vb t43.2), (10, .p 5 0)]) (bx' := [(36, (eCase x0 b0)), (63, (eRule x1 (a1_0, c1_0))), (54, (eCase t43.1 y47)), (54, (eCase (Case.mk (Book.mk t97.2.1) (Store.mk t97.2.2.1) (Series.mk t97.2.2.2.1) (Member.mk t48.Member.Birth t48.Member.Joined t97.2.2.2.2.1 t97.2.2.2.2.2)) y51)), (69, (eRule (Rule.mk t52.Name t52.From t52.To t52.Joined t52.Rank t52.Mode t121.2) y55)), (54, (eCase (Case.mk (Book.mk t145.2.1) (Store.mk t145.2.2.1) (Series.mk t145.2.2.2.1) (Member.mk t56.1.Member.Birth t56.1.Member.Joined t145.2.2.2.2.1 t145.2.2.2.2.2)) y59))]) (R' := [SlRes 69 t145.2.1 y59.1.1 y59.1.2, SlRes 203 t145.2.2.1 y59.2.1.1 y59.2.1.2, SlRes 207 t145.2.2.2.1 y59.2.2.1.1 y59.2.2.1.2, SlRes 211 t145.2.2.2.2.1 y59.2.2.2.1.1 y59.2.2.2.1.2, SlRes 215 t145.2.2.2.2.2 y59.2.2.2.2.1 y59.2.2.2.2.2, SlRes 69 t43.1.Book.Rules y47.1.1 y47.1.2, SlRes 203 t43.1.Store.Facts y47.2.1.1 y47.2.1.2, SlRes 207 t43.1.Series.Points y47.2.2.1.1 y47.2.2.1.2, SlRes 211 t43.1.Member.Spells y47.2.2.2.1.1 y47.2.2.2.1.2, SlRes 215 t43.1.Member.Events y47.2.2.2.2.1 y47.2.2.2.2.2, SlRes 69 t97.2.1 y51.1.1 y51.1.2, SlRes 203 t97.2.2.1 y51.2.1.1 y51.2.1.2, SlRes 207 t97.2.2.2.1 y51.2.2.1.1 y51.2.2.1.2, SlRes 211 t97.2.2.2.2.1 y51.2.2.2.1.1 y51.2.2.2.1.2, SlRes 215 t97.2.2.2.2.2 y51.2.2.2.2.1 y51.2.2.2.2.2, SlRes 120 t121.2 y55.1 y55.2]) (by kernel_rfl) (by kernel_rfl) (by kernel_rfl) (by kernel_rfl) ?_
   refine JC_heldN (ks := [0, 1, 2, 3, 4, 5]) (Rk := [SlRes 69 t145.2.1 y59.1.1 y59.1.2, SlRes 203 t145.2.2.1 y59.2.1.1 y59.2.1.2, SlRes 207 t145.2.2.2.1 y59.2.2.1.1 y59.2.2.1.2, SlRes 211 t145.2.2.2.2.1 y59.2.2.2.1.1 y59.2.2.2.1.2, SlRes 215 t145.2.2.2.2.2 y59.2.2.2.2.1 y59.2.2.2.2.2, SlRes 69 t43.1.Book.Rules y47.1.1 y47.1.2, SlRes 203 t43.1.Store.Facts y47.2.1.1 y47.2.1.2, SlRes 207 t43.1.Series.Points y47.2.2.1.1 y47.2.2.1.2, SlRes 211 t43.1.Member.Spells y47.2.2.2.1.1 y47.2.2.2.1.2, SlRes 215 t43.1.Member.Events y47.2.2.2.2.1 y47.2.2.2.2.2, SlRes 69 t97.2.1 y51.1.1 y51.1.2, SlRes 203 t97.2.2.1 y51.2.1.1 y51.2.1.2, SlRes 207 t97.2.2.2.1 y51.2.2.1.1 y51.2.2.1.2, SlRes 211 t97.2.2.2.2.1 y51.2.2.2.1.1 y51.2.2.2.1.2, SlRes 215 t97.2.2.2.2.2 y51.2.2.2.2.1 y51.2.2.2.2.2, SlRes 120 t121.2 y55.1 y55.2]) 11 (by kernel_rfl) (by kernel_rfl) ?_
   refine htq 0 (.v (vCase x0 b0)) [0, 0, 0, 0, 0, 0, 0, 0, 0, 0, 0, 0, 0, 0, 0, 0] ?_
   refine hk [95, 13, 3, 6, 7, 10] ?_
   refine htq 2 (.v (vRule x1 (a1_0, c1_0))) [0, 0, 0, 0, 0, 0, 0, 0, 0, 0, 0, 0, 0, 0, 0, 0] ?_
   refine hk [97, 95, 13, 6, 7, 10] ?_
   refine ha2 1 8 ?_ ?_
   · refine hi (fun γ0 δ hm => ?_)
     refine g1 (fun w hs => c_laws_toCase (b0 := b0) h180 (hv0_0.kept hs.kept) (hv0_1.kept hs.kept) (hv0_2.kept hs.kept) (hv0_3.kept hs.kept) (hv0_4.kept hs.kept)) (fun y182 => ?_)
     refine gn hm [96, 97, 13, 6, 7, 10] [5, 5, 5, 5, 5, 5, 5, 5, 5, 5, 5, 5, 5, 5, 5, 5] ?_
     refine ha2 3 8 ?_ ?_
     · refine hi (fun γ0 δ hm => ?_)
       refine g1 (fun w hs => c_laws_toRule h184 (hv1_0.kept hs.kept)) (fun y186 => ?_)
       refine gn hm [98, 96, 13, 6, 7, 10] [6, 6, 6, 6, 6, 6, 6, 6, 6, 6, 6, 6, 6, 6, 6, 6] ?_
       refine ha2 4 8 ?_ ?_
       · refine hi (fun γ0 δ hm => ?_)
         refine g1 (fun w hs => c_impl_WithRule (b0 := y182) h188 (hs.view 1 rfl) (hs.view 2 rfl) (hs.view 3 rfl) (hs.view 4 rfl) (hs.view 5 rfl) (hs.view 0 rfl)) (fun y190 => ?_)
         refine gn hm [99, 13, 6, 7, 10] [11, 11, 11, 11, 11, 11, 11, 11, 11, 11, 11, 11, 11, 11, 11, 11] ?_
         refine htq 5 (.v (.tuple #[vCase t187.1 y190, .bool t187.2])) [11, 11, 11, 11, 11, 11, 11, 11, 11, 11, 11, 11, 11, 11, 11, 11] ?_
         refine hk [94, 13, 6, 7, 10] ?_
         refine htq 6 (.v (vCase t187.1 y190)) [11, 11, 11, 11, 11, 11, 11, 11, 11, 11, 11, 11, 11, 11, 11, 11] ?_
         refine htq 7 (vb t187.2) [11, 11, 11, 11, 11, 11, 11, 11, 11, 11, 11, 11, 11, 11, 11, 11] ?_
         refine hk [101, 100, 13, 6, 7, 10] ?_
         refine ha1 8 ?_
         refine hi (fun γ0 δ hm => ?_)
         refine gs [(15, .p 6 0), (101, vb t187.2), (100, .v (vCase t187.1 y190)), (13, vi t145.1), (6, .p 2 0), (7, vb t43.2), (10, .p 5 0)] [(36, (eCase x0 b0)), (63, (eRule x1 (a1_0, c1_0))), (54, (eCase t43.1 y47)), (54, (eCase (Case.mk (Book.mk t97.2.1) (Store.mk t97.2.2.1) (Series.mk t97.2.2.2.1) (Member.mk t48.Member.Birth t48.Member.Joined t97.2.2.2.2.1 t97.2.2.2.2.2)) y51)), (69, (eRule (Rule.mk t52.Name t52.From t52.To t52.Joined t52.Rank t52.Mode t121.2) y55)), (54, (eCase (Case.mk (Book.mk t145.2.1) (Store.mk t145.2.2.1) (Series.mk t145.2.2.2.1) (Member.mk t56.1.Member.Birth t56.1.Member.Joined t145.2.2.2.2.1 t145.2.2.2.2.2)) y59)), (54, [.slice none 0 0, .slice none 0 0, .slice none 0 0, .int .i64 0, .int .i64 0, .slice none 0 0, .slice none 0 0])] (fun δ2 => ?_)
         refine gd hm [15, 101, 100, 13, 6, 7, 10] [11, 11, 11, 11, 11, 11, 11, 11, 11, 11, 11, 11, 11, 11, 11, 11] ?_
         refine ha1 9 ?_
         refine hi (fun γ0 δ hm => ?_)
         refine gs [(15, .p 6 0), (101, vb t187.2), (100, .v (vCase t187.1 y190)), (13, vi t145.1), (6, .p 2 0), (7, vb t43.2), (10, .p 5 0)] [(36, (eCase x0 b0)), (63, (eRule x1 (a1_0, c1_0))), (54, (eCase t43.1 y47)), (54, (eCase (Case.mk (Book.mk t97.2.1) (Store.mk t97.2.2.1) (Series.mk t97.2.2.2.1) (Member.mk t48.Member.Birth t48.Member.Joined t97.2.2.2.2.1 t97.2.2.2.2.2)) y51)), (69, (eRule (Rule.mk t52.Name t52.From t52.To t52.Joined t52.Rank t52.Mode t121.2) y55)), (54, (eCase (Case.mk (Book.mk t145.2.1) (Store.mk t145.2.2.1) (Series.mk t145.2.2.2.1) (Member.mk t56.1.Member.Birth t56.1.Member.Joined t145.2.2.2.2.1 t145.2.2.2.2.2)) y59)), (54, (eCase t187.1 y190))] (fun δ2 => ?_)
         refine gd hm [15, 101, 13, 6, 7, 10] [11, 11, 11, 11, 11, 11, 11, 11, 11, 11, 11, 11, 11, 11, 11, 11] ?_
         refine htq 10 (vb t187.2) [11, 11, 11, 11, 11, 11, 11, 11, 11, 11, 11, 11, 11, 11, 11, 11] ?_
         refine hk [16, 15, 13, 6, 7, 10] ?_
         exact hd y190 [16, 15, 13, 6, 7, 10] [0, 0, 0, 0, 0, 6, 6, 6, 6, 6, 6, 6, 6, 6, 6, 6, 6, 6, 6, 6, 6] 7
       · refine hi (fun γ0 δ hm => ?_)
         refine gs [(15, .p 6 0), (98, .v (vRule t183 y186)), (96, .v (vCase t179 y182)), (13, vi t145.1), (6, .p 2 0), (7, vb t43.2), (10, .p 5 0)] [(36, (eCase x0 b0)), (63, (eRule x1 (a1_0, c1_0))), (54, (eCase t43.1 y47)), (54, (eCase (Case.mk (Book.mk t97.2.1) (Store.mk t97.2.2.1) (Series.mk t97.2.2.2.1) (Member.mk t48.Member.Birth t48.Member.Joined t97.2.2.2.2.1 t97.2.2.2.2.2)) y51)), (69, (eRule (Rule.mk t52.Name t52.From t52.To t52.Joined t52.Rank t52.Mode t121.2) y55)), (54, (eCase (Case.mk (Book.mk t145.2.1) (Store.mk t145.2.2.1) (Series.mk t145.2.2.2.1) (Member.mk t56.1.Member.Birth t56.1.Member.Joined t145.2.2.2.2.1 t145.2.2.2.2.2)) y59)), (54, [.slice none 0 0, .slice none 0 0, .slice none 0 0, .int .i64 0, .int .i64 0, .slice none 0 0, .slice none 0 0])] (fun δ2 => ?_)
         refine gd hm [15, 98, 96, 13, 6, 7, 10] [6, 6, 6, 6, 6, 6, 6, 6, 6, 6, 6, 6, 6, 6, 6, 6] ?_
         refine ha1 4 ?_
         refine hi (fun γ0 δ hm => ?_)
         refine g1 (fun w hs => c_impl_WithRule (b0 := y182) h188 (hs.view 1 rfl) (hs.view 2 rfl) (hs.view 3 rfl) (hs.view 4 rfl) (hs.view 5 rfl) (hs.view 0 rfl)) (fun y190 => ?_)
         refine gn hm [99, 15, 13, 6, 7, 10] [11, 11, 11, 11, 11, 11, 11, 11, 11, 11, 11, 11, 11, 11, 11, 11] ?_
         refine htq 5 (.v (.tuple #[vCase t187.1 y190, .bool t187.2])) [11, 11, 11, 11, 11, 11, 11, 11, 11, 11, 11, 11, 11, 11, 11, 11] ?_
         refine hk [94, 15, 13, 6, 7, 10] ?_
         refine htq 6 (.v (vCase t187.1 y190)) [11, 11, 11, 11, 11, 11, 11, 11, 11, 11, 11, 11, 11, 11, 11, 11] ?_
         refine htq 7 (vb t187.2) [11, 11, 11, 11, 11, 11, 11, 11, 11, 11, 11, 11, 11, 11, 11, 11] ?_
         refine hk [101, 100, 15, 13, 6, 7, 10] ?_
         refine ha1 9 ?_
         refine hi (fun γ0 δ hm => ?_)
         refine gs [(101, vb t187.2), (100, .v (vCase t187.1 y190)), (15, .p 6 0), (13, vi t145.1), (6, .p 2 0), (7, vb t43.2), (10, .p 5 0)] [(36, (eCase x0 b0)), (63, (eRule x1 (a1_0, c1_0))), (54, (eCase t43.1 y47)), (54, (eCase (Case.mk (Book.mk t97.2.1) (Store.mk t97.2.2.1) (Series.mk t97.2.2.2.1) (Member.mk t48.Member.Birth t48.Member.Joined t97.2.2.2.2.1 t97.2.2.2.2.2)) y51)), (69, (eRule (Rule.mk t52.Name t52.From t52.To t52.Joined t52.Rank t52.Mode t121.2) y55)), (54, (eCase (Case.mk (Book.mk t145.2.1) (Store.mk t145.2.2.1) (Series.mk t145.2.2.2.1) (Member.mk t56.1.Member.Birth t56.1.Member.Joined t145.2.2.2.2.1 t145.2.2.2.2.2)) y59)), (54, (eCase t187.1 y190))] (fun δ2 => ?_)
         refine gd hm [101, 15, 13, 6, 7, 10] [11, 11, 11, 11, 11, 11, 11, 11, 11, 11, 11, 11, 11, 11, 11, 11] ?_
         refine htq 10 (vb t187.2) [11, 11, 11, 11, 11, 11, 11, 11, 11, 11, 11, 11, 11, 11, 11, 11] ?_
         refine hk [16, 15, 13, 6, 7, 10] ?_
         exact hd y190 [16, 15, 13, 6, 7, 10] [0, 0, 0, 0, 0, 6, 6, 6, 6, 6, 6, 6, 6, 6, 6, 6, 6, 6, 6, 6, 6] 7
     · refine hi (fun γ0 δ hm => ?_)
       refine gs [(15, .p 6 0), (96, .v (vCase t179 y182)), (97, .v (vRule x1 (a1_0, c1_0))), (13, vi t145.1), (6, .p 2 0), (7, vb t43.2), (10, .p 5 0)] [(36, (eCase x0 b0)), (63, (eRule x1 (a1_0, c1_0))), (54, (eCase t43.1 y47)), (54, (eCase (Case.mk (Book.mk t97.2.1) (Store.mk t97.2.2.1) (Series.mk t97.2.2.2.1) (Member.mk t48.Member.Birth t48.Member.Joined t97.2.2.2.2.1 t97.2.2.2.2.2)) y51)), (69, (eRule (Rule.mk t52.Name t52.From t52.To t52.Joined t52.Rank t52.Mode t121.2) y55)), (54, (eCase (Case.mk (Book.mk t145.2.1) (Store.mk t145.2.2.1) (Series.mk t145.2.2.2.1) (Member.mk t56.1.Member.Birth t56.1.Member.Joined t145.2.2.2.2.1 t145.2.2.2.2.2)) y59)), (54, [.slice none 0 0, .slice none 0 0, .slice none 0 0, .int .i64 0, .int .i64 0, .slice none 0 0, .slice none 0 0])] (fun δ2 => ?_)
       refine gd hm [15, 96, 97, 13, 6, 7, 10] [5, 5, 5, 5, 5, 5, 5, 5, 5, 5, 5, 5, 5, 5, 5, 5] ?_
       refine ha1 3 ?_
       refine hi (fun γ0 δ hm => ?_)
       refine g1 (fun w hs => c_laws_toRule h184 (hv1_0.kept hs.kept)) (fun y186 => ?_)
       refine gn hm [98, 15, 96, 13, 6, 7, 10] [6, 6, 6, 6, 6, 6, 6, 6, 6, 6, 6, 6, 6, 6, 6, 6] ?_
       refine ha1 4 ?_
       refine hi (fun γ0 δ hm => ?_)
       refine g1 (fun w hs => c_impl_WithRule (b0 := y182) h188 (hs.view 1 rfl) (hs.view 2 rfl) (hs.view 3 rfl) (hs.view 4 rfl) (hs.view 5 rfl) (hs.view 0 rfl)) (fun y190 => ?_)
       refine gn hm [99, 15, 13, 6, 7, 10] [11, 11, 11, 11, 11, 11, 11, 11, 11, 11, 11, 11, 11, 11, 11, 11] ?_
       refine htq 5 (.v (.tuple #[vCase t187.1 y190, .bool t187.2])) [11, 11, 11, 11, 11, 11, 11, 11, 11, 11, 11, 11, 11, 11, 11, 11] ?_
       refine hk [94, 15, 13, 6, 7, 10] ?_
       refine htq 6 (.v (vCase t187.1 y190)) [11, 11, 11, 11, 11, 11, 11, 11, 11, 11, 11, 11, 11, 11, 11, 11] ?_
       refine htq 7 (vb t187.2) [11, 11, 11, 11, 11, 11, 11, 11, 11, 11, 11, 11, 11, 11, 11, 11] ?_
       refine hk [101, 100, 15, 13, 6, 7, 10] ?_
       refine ha1 9 ?_
       refine hi (fun γ0 δ hm => ?_)
       refine gs [(101, vb t187.2), (100, .v (vCase t187.1 y190)), (15, .p 6 0), (13, vi t145.1), (6, .p 2 0), (7, vb t43.2), (10, .p 5 0)] [(36, (eCase x0 b0)), (63, (eRule x1 (a1_0, c1_0))), (54, (eCase t43.1 y47)), (54, (eCase (Case.mk (Book.mk t97.2.1) (Store.mk t97.2.2.1) (Series.mk t97.2.2.2.1) (Member.mk t48.Member.Birth t48.Member.Joined t97.2.2.2.2.1 t97.2.2.2.2.2)) y51)), (69, (eRule (Rule.mk t52.Name t52.From t52.To t52.Joined t52.Rank t52.Mode t121.2) y55)), (54, (eCase (Case.mk (Book.mk t145.2.1) (Store.mk t145.2.2.1) (Series.mk t145.2.2.2.1) (Member.mk t56.1.Member.Birth t56.1.Member.Joined t145.2.2.2.2.1 t145.2.2.2.2.2)) y59)), (54, (eCase t187.1 y190))] (fun δ2 => ?_)
       refine gd hm [101, 15, 13, 6, 7, 10] [11, 11, 11, 11, 11, 11, 11, 11, 11, 11, 11, 11, 11, 11, 11, 11] ?_
       refine htq 10 (vb t187.2) [11, 11, 11, 11, 11, 11, 11, 11, 11, 11, 11, 11, 11, 11, 11, 11] ?_
       refine hk [16, 15, 13, 6, 7, 10] ?_
       exact hd y190 [16, 15, 13, 6, 7, 10] [0, 0, 0, 0, 0, 6, 6, 6, 6, 6, 6, 6, 6, 6, 6, 6, 6, 6, 6, 6, 6] 7
   · refine hi (fun γ0 δ hm => ?_)
     refine gs [(15, .p 6 0), (97, .v (vRule x1 (a1_0, c1_0))), (95, .v (vCase x0 b0)), (13, vi t145.1), (6, .p 2 0), (7, vb t43.2), (10, .p 5 0)] [(36, (eCase x0 b0)), (63, (eRule x1 (a1_0, c1_0))), (54, (eCase t43.1 y47)), (54, (eCase (Case.mk (Book.mk t97.2.1) (Store.mk t97.2.2.1) (Series.mk t97.2.2.2.1) (Member.mk t48.Member.Birth t48.Member.Joined t97.2.2.2.2.1 t97.2.2.2.2.2)) y51)), (69, (eRule (Rule.mk t52.Name t52.From t52.To t52.Joined t52.Rank t52.Mode t121.2) y55)), (54, (eCase (Case.mk (Book.mk t145.2.1) (Store.mk t145.2.2.1) (Series.mk t145.2.2.2.1) (Member.mk t56.1.Member.Birth t56.1.Member.Joined t145.2.2.2.2.1 t145.2.2.2.2.2)) y59)), (54, [.slice none 0 0, .slice none 0 0, .slice none 0 0, .int .i64 0, .int .i64 0, .slice none 0 0, .slice none 0 0])] (fun δ2 => ?_)
     refine gd hm [15, 97, 95, 13, 6, 7, 10] [0, 0, 0, 0, 0, 0, 0, 0, 0, 0, 0, 0, 0, 0, 0, 0] ?_
     refine ha1 1 ?_
     refine hi (fun γ0 δ hm => ?_)
     refine g1 (fun w hs => c_laws_toCase (b0 := b0) h180 (hv0_0.kept hs.kept) (hv0_1.kept hs.kept) (hv0_2.kept hs.kept) (hv0_3.kept hs.kept) (hv0_4.kept hs.kept)) (fun y182 => ?_)
     refine gn hm [96, 15, 97, 13, 6, 7, 10] [5, 5, 5, 5, 5, 5, 5, 5, 5, 5, 5, 5, 5, 5, 5, 5] ?_
     refine ha1 3 ?_
     refine hi (fun γ0 δ hm => ?_)
     refine g1 (fun w hs => c_laws_toRule h184 (hv1_0.kept hs.kept)) (fun y186 => ?_)
     refine gn hm [98, 96, 15, 13, 6, 7, 10] [6, 6, 6, 6, 6, 6, 6, 6, 6, 6, 6, 6, 6, 6, 6, 6] ?_
     refine ha1 4 ?_
     refine hi (fun γ0 δ hm => ?_)
     refine g1 (fun w hs => c_impl_WithRule (b0 := y182) h188 (hs.view 1 rfl) (hs.view 2 rfl) (hs.view 3 rfl) (hs.view 4 rfl) (hs.view 5 rfl) (hs.view 0 rfl)) (fun y190 => ?_)
     refine gn hm [99, 15, 13, 6, 7, 10] [11, 11, 11, 11, 11, 11, 11, 11, 11, 11, 11, 11, 11, 11, 11, 11] ?_
     refine htq 5 (.v (.tuple #[vCase t187.1 y190, .bool t187.2])) [11, 11, 11, 11, 11, 11, 11, 11, 11, 11, 11, 11, 11, 11, 11, 11] ?_
     refine hk [94, 15, 13, 6, 7, 10] ?_
     refine htq 6 (.v (vCase t187.1 y190)) [11, 11, 11, 11, 11, 11, 11, 11, 11, 11, 11, 11, 11, 11, 11, 11] ?_
     refine htq 7 (vb t187.2) [11, 11, 11, 11, 11, 11, 11, 11, 11, 11, 11, 11, 11, 11, 11, 11] ?_
     refine hk [101, 100, 15, 13, 6, 7, 10] ?_
     refine ha1 9 ?_
     refine hi (fun γ0 δ hm => ?_)
     refine gs [(101, vb t187.2), (100, .v (vCase t187.1 y190)), (15, .p 6 0), (13, vi t145.1), (6, .p 2 0), (7, vb t43.2), (10, .p 5 0)] [(36, (eCase x0 b0)), (63, (eRule x1 (a1_0, c1_0))), (54, (eCase t43.1 y47)), (54, (eCase (Case.mk (Book.mk t97.2.1) (Store.mk t97.2.2.1) (Series.mk t97.2.2.2.1) (Member.mk t48.Member.Birth t48.Member.Joined t97.2.2.2.2.1 t97.2.2.2.2.2)) y51)), (69, (eRule (Rule.mk t52.Name t52.From t52.To t52.Joined t52.Rank t52.Mode t121.2) y55)), (54, (eCase (Case.mk (Book.mk t145.2.1) (Store.mk t145.2.2.1) (Series.mk t145.2.2.2.1) (Member.mk t56.1.Member.Birth t56.1.Member.Joined t145.2.2.2.2.1 t145.2.2.2.2.2)) y59)), (54, (eCase t187.1 y190))] (fun δ2 => ?_)
     refine gd hm [101, 15, 13, 6, 7, 10] [11, 11, 11, 11, 11, 11, 11, 11, 11, 11, 11, 11, 11, 11, 11, 11] ?_
     refine htq 10 (vb t187.2) [11, 11, 11, 11, 11, 11, 11, 11, 11, 11, 11, 11, 11, 11, 11, 11] ?_
     refine hk [16, 15, 13, 6, 7, 10] ?_
     exact hd y190 [16, 15, 13, 6, 7, 10] [0, 0, 0, 0, 0, 6, 6, 6, 6, 6, 6, 6, 6, 6, 6, 6, 6, 6, 6, 6, 6] 7
 refine nt (qs (qs ?_))
 obtain ⟨p192, hE193, h194⟩ := bS h189
 refine JC_cut (τ := Unit) (fun _ => [(10, .p 5 0), (13, vi t145.1), (110, vb p192)]) (fun _ => [(36, (eCase x0 b0)), (63, (eRule x1 (a1_0, c1_0))), (54, (eCase t43.1 y47)), (54, (eCase (Case.mk (Book.mk t97.2.1) (Store.mk t97.2.2.1) (Series.mk t97.2.2.2.1) (Member.mk t48.Member.Birth t48.Member.Joined t97.2.2.2.2.1 t97.2.2.2.2.2)) y51)), (69, (eRule (Rule.mk t52.Name t52.From t52.To t52.Joined t52.Rank t52.Mode t121.2) y55)), (54, (eCase (Case.mk (Book.mk t145.2.1) (Store.mk t145.2.2.1) (Series.mk t145.2.2.2.1) (Member.mk t56.1.Member.Birth t56.1.Member.Joined t145.2.2.2.2.1 t145.2.2.2.2.2)) y59)), (54, (eCase t187.1 y191))]) (fun _ => [SlRes 69 t43.1.Book.Rules y47.1.1 y47.1.2, SlRes 203 t43.1.Store.Facts y47.2.1.1 y47.2.1.2, SlRes 207 t43.1.Series.Points y47.2.2.1.1 y47.2.2.1.2, SlRes 211 t43.1.Member.Spells y47.2.2.2.1.1 y47.2.2.2.1.2, SlRes 215 t43.1.Member.Events y47.2.2.2.2.1 y47.2.2.2.2.2, SlRes 69 t97.2.1 y51.1.1 y51.1.2, SlRes 203 t97.2.2.1 y51.2.1.1 y51.2.1.2, SlRes 207 t97.2.2.2.1 y51.2.2.1.1 y51.2.2.1.2, SlRes 211 t97.2.2.2.2.1 y51.2.2.2.1.1 y51.2.2.2.1.2, SlRes 215 t97.2.2.2.2.2 y51.2.2.2.2.1 y51.2.2.2.2.2, SlRes 120 t121.2 y55.1 y55.2, SlRes 69 t145.2.1 y59.1.1 y59.1.2, SlRes 203 t145.2.2.1 y59.2.1.1 y59.2.1.2, SlRes 207 t145.2.2.2.1 y59.2.2.1.1 y59.2.2.1.2, SlRes 211 t145.2.2.2.2.1 y59.2.2.2.1.1 y59.2.2.2.1.2, SlRes 215 t145.2.2.2.2.2 y59.2.2.2.2.1 y59.2.2.2.2.2, SlRes 69 t187.1.Book.Rules y191.1.1 y191.1.2, SlRes 203 t187.1.Store.Facts y191.2.1.1 y191.2.1.2, SlRes 207 t187.1.Series.Points y191.2.2.1.1 y191.2.2.1.2, SlRes 211 t187.1.Member.Spells y191.2.2.2.1.1 y191.2.2.2.1.2, SlRes 215 t187.1.Member.Events y191.2.2.2.2.1 y191.2.2.2.2.2]) ?_ (fun _ => ?_)
 · refine qr (oN 2 [(103, .v (vCase t43.1 y47)), (102, .v (vCase t187.1 y191))] [16, 13, 7, 10] ?_)
   obtain ⟨t195, h196, h197⟩ := bS hE193
   refine k0 (fun γ w hs => c_laws_eqCase (b0 := y191) (b1 := y47) h196 (hs.view 0 rfl) (hs.view 1 rfl) (hs.view 2 rfl) (hs.view 3 rfl) (hs.view 4 rfl) (hs.view 10 rfl) (hs.view 11 rfl) (hs.view 12 rfl) (hs.view 13 rfl) (hs.view 14 rfl)) ?_
   refine oN 2 [(106, vb (!t195))] [16, 13, 7, 10] ?_
   refine oS 106 h197 (fun h200 => ?_) (fun h201 => ?_)
   · refine oN 4 [(110, vb true)] [13, 10] ?_
     refine oe ?_
     obtain rfl := sI h200
     exact mt () [10, 13, 110] [10, 10, 10, 10, 10, 10, 10, 10, 10, 10, 10, 5, 5, 5, 5, 5, 0, 0, 0, 0, 0] 7
   refine oN 4 [(110, vb (!(t187.2 == t43.2)))] [13, 10] ?_
   refine oe ?_
   obtain rfl := sI h201
   exact mt () [10, 13, 110] [10, 10, 10, 10, 10, 10, 10, 10, 10, 10, 10, 5, 5, 5, 5, 5, 0, 0, 0, 0, 0] 7
 refine nt (cC h194 (fun h203 => ?_) (fun h204 => ?_))
 · refine qs (qr (oN 1 [(4, vb false)] [] ?_))
   refine oe (nt (qe (nr ?_)))
   obtain rfl := sI h203
   exact re [.bool false]
 refine qk (nt (qs (qr (oN 1 [(14, vi 1)] [10, 13] ?_))))
 refine oe (nt (qs (qr (oN 2 [(112, vi 1), (111, .v (vCase (Case.mk (Book.mk t145.2.1) (Store.mk t145.2.2.1) (Series.mk t145.2.2.2.1) (Member.mk t56.1.Member.Birth t56.1.Member.Joined t145.2.2.2.2.1 t145.2.2.2.2.2)) y59))] [13] ?_))))
 obtain ⟨t205, h206, h207⟩ := bS h204
 refine k0 (fun γ w hs => c_laws_heldCase (b0 := y59) h206 (hs.view 11 rfl) (hs.view 12 rfl) (hs.view 13 rfl) (hs.view 14 rfl) (hs.view 15 rfl)) ?_
 refine oN 1 [(14, vi t205)] [13] ?_
 refine oe (nt (qs (qs (qr (oN 2 [(115, vb (decide (t205 < 0)))] [14, 13] ?_)))))
 refine oe (nt (cC h207 (fun h210 => ?_) (fun h211 => ?_)))
 · refine qs (qr (oN 1 [(4, vb false)] [] ?_))
   refine oe (nt (qe (nr ?_)))
   obtain rfl := sI h210
   exact re [.bool false]
 refine qk (nt (qs (qs (qr (oN 3 [(118, vb (t205 != t145.1))] [] ?_)))))
 refine oe (nt (cC h211 (fun h213 => ?_) (fun h214 => ?_)))
 · refine qs (qr (oN 1 [(4, vb false)] [] ?_))
   refine oe (nt (qe (nr ?_)))
   obtain rfl := sI h213
   exact re [.bool false]
 refine qk (nt (qs (qr (oN 1 [(4, vb true)] [] ?_))))
 refine oe (nt (qe ?_))
 obtain rfl := sI h214
 exact re [.bool true]
end Go.Pen
